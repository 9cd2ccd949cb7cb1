/- The functions, over typed data. Printed by a program of this work. -/
import Derived.Test.YtfcegejpdlbkdaaGreatRr
namespace Go.Proofs.YtfcegejpdlbkdaaGreatK
set_option linter.unusedVariables false
set_option linter.unusedSimpArgs false
set_option maxHeartbeats 4000000
open Go.RowKit
attribute [local irreducible] dwv mops lops lqops lwops kont iter run runK rk okK ex E1 vals val chain chB sel resF
def sl_u8 (x:(List Int)):List V:=[.sl false x.length (cat (nI .u8) x)]
instance:Cells sl_u8 1:=⟨fun _=>rfl,fun _=>by simp [sl_u8,statics,V.static,cat_stat],fun _=>rfl⟩
structure spinetlaw34_World where
 Low:(List Int)
 High:(List Int)
instance:Inhabited spinetlaw34_World:=⟨⟨[],[]⟩⟩
def spinetlaw34_World.v (x:spinetlaw34_World):List V:=[.sl false x.Low.length (cat (nI .u8) x.Low),.sl false x.High.length (cat (nI .u8) x.High)]
instance:Cells spinetlaw34_World.v 2:=⟨fun _=>rfl,fun _=>by simp [spinetlaw34_World.v,statics,V.static,cat_stat],fun _=>rfl⟩
structure post_Post where
 Kind:Int
 Reg:Int
 Off:Int
 Indirect:Bool
instance:Inhabited post_Post:=⟨⟨0,0,0,false⟩⟩
def post_Post.v (x:post_Post):List V:=[.s (.int .i64 x.Kind),.s (.int .i64 x.Reg),.s (.int .u16 x.Off),.s (.bool x.Indirect)]
instance:Cells post_Post.v 4:=⟨fun _=>rfl,fun _=>rfl,fun _=>rfl⟩
structure inst_reader where
 b:(List Int)
 n:Int
 short:Bool
instance:Inhabited inst_reader:=⟨⟨[],0,false⟩⟩
def inst_reader.v (x:inst_reader):List V:=[.sl false x.b.length (cat (nI .u8) x.b),.s (.int .i64 x.n),.s (.bool x.short)]
instance:Cells inst_reader.v 3:=⟨fun _=>rfl,fun _=>by simp [inst_reader.v,statics,V.static,cat_stat],fun _=>rfl⟩
structure api_Entry where
 Op:Int
 Mode:Int
 Reg:Int
instance:Inhabited api_Entry:=⟨⟨0,0,0⟩⟩
def api_Entry.v (x:api_Entry):List V:=[.s (.int .i64 x.Op),.s (.int .i64 x.Mode),.s (.int .i64 x.Reg)]
instance:Cells api_Entry.v 3:=⟨fun _=>rfl,fun _=>rfl,fun _=>rfl⟩
structure api_Inst where
 Page:Int
 Code:Int
 Entry:api_Entry
 Post:Int
 Value:Int
 Len:Int
instance:Inhabited api_Inst:=⟨⟨0,0,⟨0,0,0⟩,0,0,0⟩⟩
def api_Inst.v (x:api_Inst):List V:=[.s (.int .i64 x.Page),.s (.int .u8 x.Code),.s (.int .i64 x.Entry.Op),.s (.int .i64 x.Entry.Mode),.s (.int .i64 x.Entry.Reg),.s (.int .u8 x.Post),.s (.int .u16 x.Value),.s (.int .i64 x.Len)]
instance:Cells api_Inst.v 8:=⟨fun _=>rfl,fun _=>rfl,fun _=>rfl⟩
def sl_u16 (x:(List Int)):List V:=[.sl false x.length (cat (nI .u16) x)]
instance:Cells sl_u16 1:=⟨fun _=>rfl,fun _=>by simp [sl_u16,statics,V.static,cat_stat],fun _=>rfl⟩
structure A16_u8 where
 a0:Int
 a1:Int
 a2:Int
 a3:Int
 a4:Int
 a5:Int
 a6:Int
 a7:Int
 a8:Int
 a9:Int
 a10:Int
 a11:Int
 a12:Int
 a13:Int
 a14:Int
 a15:Int
instance:Inhabited A16_u8:=⟨⟨0,0,0,0,0,0,0,0,0,0,0,0,0,0,0,0⟩⟩
def A16_u8.v (x:A16_u8):List V:=[.s (.int .u8 x.a0),.s (.int .u8 x.a1),.s (.int .u8 x.a2),.s (.int .u8 x.a3),.s (.int .u8 x.a4),.s (.int .u8 x.a5),.s (.int .u8 x.a6),.s (.int .u8 x.a7),.s (.int .u8 x.a8),.s (.int .u8 x.a9),.s (.int .u8 x.a10),.s (.int .u8 x.a11),.s (.int .u8 x.a12),.s (.int .u8 x.a13),.s (.int .u8 x.a14),.s (.int .u8 x.a15)]
instance:Cells A16_u8.v 16:=⟨fun _=>rfl,fun _=>rfl,fun _=>rfl⟩
def sl_str (x:(List ByteArray)):List V:=[.sl false x.length (cat nS x)]
instance:Cells sl_str 1:=⟨fun _=>rfl,fun _=>by simp [sl_str,statics,V.static,cat_stat],fun _=>rfl⟩
structure A52_str where
 a0:ByteArray
 a1:ByteArray
 a2:ByteArray
 a3:ByteArray
 a4:ByteArray
 a5:ByteArray
 a6:ByteArray
 a7:ByteArray
 a8:ByteArray
 a9:ByteArray
 a10:ByteArray
 a11:ByteArray
 a12:ByteArray
 a13:ByteArray
 a14:ByteArray
 a15:ByteArray
 a16:ByteArray
 a17:ByteArray
 a18:ByteArray
 a19:ByteArray
 a20:ByteArray
 a21:ByteArray
 a22:ByteArray
 a23:ByteArray
 a24:ByteArray
 a25:ByteArray
 a26:ByteArray
 a27:ByteArray
 a28:ByteArray
 a29:ByteArray
 a30:ByteArray
 a31:ByteArray
 a32:ByteArray
 a33:ByteArray
 a34:ByteArray
 a35:ByteArray
 a36:ByteArray
 a37:ByteArray
 a38:ByteArray
 a39:ByteArray
 a40:ByteArray
 a41:ByteArray
 a42:ByteArray
 a43:ByteArray
 a44:ByteArray
 a45:ByteArray
 a46:ByteArray
 a47:ByteArray
 a48:ByteArray
 a49:ByteArray
 a50:ByteArray
 a51:ByteArray
instance:Inhabited A52_str:=⟨⟨⟨#[]⟩,⟨#[]⟩,⟨#[]⟩,⟨#[]⟩,⟨#[]⟩,⟨#[]⟩,⟨#[]⟩,⟨#[]⟩,⟨#[]⟩,⟨#[]⟩,⟨#[]⟩,⟨#[]⟩,⟨#[]⟩,⟨#[]⟩,⟨#[]⟩,⟨#[]⟩,⟨#[]⟩,⟨#[]⟩,⟨#[]⟩,⟨#[]⟩,⟨#[]⟩,⟨#[]⟩,⟨#[]⟩,⟨#[]⟩,⟨#[]⟩,⟨#[]⟩,⟨#[]⟩,⟨#[]⟩,⟨#[]⟩,⟨#[]⟩,⟨#[]⟩,⟨#[]⟩,⟨#[]⟩,⟨#[]⟩,⟨#[]⟩,⟨#[]⟩,⟨#[]⟩,⟨#[]⟩,⟨#[]⟩,⟨#[]⟩,⟨#[]⟩,⟨#[]⟩,⟨#[]⟩,⟨#[]⟩,⟨#[]⟩,⟨#[]⟩,⟨#[]⟩,⟨#[]⟩,⟨#[]⟩,⟨#[]⟩,⟨#[]⟩,⟨#[]⟩⟩⟩
def A52_str.v (x:A52_str):List V:=[.s (.string x.a0),.s (.string x.a1),.s (.string x.a2),.s (.string x.a3),.s (.string x.a4),.s (.string x.a5),.s (.string x.a6),.s (.string x.a7),.s (.string x.a8),.s (.string x.a9),.s (.string x.a10),.s (.string x.a11),.s (.string x.a12),.s (.string x.a13),.s (.string x.a14),.s (.string x.a15),.s (.string x.a16),.s (.string x.a17),.s (.string x.a18),.s (.string x.a19),.s (.string x.a20),.s (.string x.a21),.s (.string x.a22),.s (.string x.a23),.s (.string x.a24),.s (.string x.a25),.s (.string x.a26),.s (.string x.a27),.s (.string x.a28),.s (.string x.a29),.s (.string x.a30),.s (.string x.a31),.s (.string x.a32),.s (.string x.a33),.s (.string x.a34),.s (.string x.a35),.s (.string x.a36),.s (.string x.a37),.s (.string x.a38),.s (.string x.a39),.s (.string x.a40),.s (.string x.a41),.s (.string x.a42),.s (.string x.a43),.s (.string x.a44),.s (.string x.a45),.s (.string x.a46),.s (.string x.a47),.s (.string x.a48),.s (.string x.a49),.s (.string x.a50),.s (.string x.a51)]
instance:Cells A52_str.v 52:=⟨fun _=>rfl,fun _=>rfl,fun _=>rfl⟩
structure A20_u8 where
 a0:Int
 a1:Int
 a2:Int
 a3:Int
 a4:Int
 a5:Int
 a6:Int
 a7:Int
 a8:Int
 a9:Int
 a10:Int
 a11:Int
 a12:Int
 a13:Int
 a14:Int
 a15:Int
 a16:Int
 a17:Int
 a18:Int
 a19:Int
instance:Inhabited A20_u8:=⟨⟨0,0,0,0,0,0,0,0,0,0,0,0,0,0,0,0,0,0,0,0⟩⟩
def A20_u8.v (x:A20_u8):List V:=[.s (.int .u8 x.a0),.s (.int .u8 x.a1),.s (.int .u8 x.a2),.s (.int .u8 x.a3),.s (.int .u8 x.a4),.s (.int .u8 x.a5),.s (.int .u8 x.a6),.s (.int .u8 x.a7),.s (.int .u8 x.a8),.s (.int .u8 x.a9),.s (.int .u8 x.a10),.s (.int .u8 x.a11),.s (.int .u8 x.a12),.s (.int .u8 x.a13),.s (.int .u8 x.a14),.s (.int .u8 x.a15),.s (.int .u8 x.a16),.s (.int .u8 x.a17),.s (.int .u8 x.a18),.s (.int .u8 x.a19)]
instance:Cells A20_u8.v 20:=⟨fun _=>rfl,fun _=>rfl,fun _=>rfl⟩
structure A8_i64 where
 a0:Int
 a1:Int
 a2:Int
 a3:Int
 a4:Int
 a5:Int
 a6:Int
 a7:Int
instance:Inhabited A8_i64:=⟨⟨0,0,0,0,0,0,0,0⟩⟩
def A8_i64.v (x:A8_i64):List V:=[.s (.int .i64 x.a0),.s (.int .i64 x.a1),.s (.int .i64 x.a2),.s (.int .i64 x.a3),.s (.int .i64 x.a4),.s (.int .i64 x.a5),.s (.int .i64 x.a6),.s (.int .i64 x.a7)]
instance:Cells A8_i64.v 8:=⟨fun _=>rfl,fun _=>rfl,fun _=>rfl⟩
structure A5_i64 where
 a0:Int
 a1:Int
 a2:Int
 a3:Int
 a4:Int
instance:Inhabited A5_i64:=⟨⟨0,0,0,0,0⟩⟩
def A5_i64.v (x:A5_i64):List V:=[.s (.int .i64 x.a0),.s (.int .i64 x.a1),.s (.int .i64 x.a2),.s (.int .i64 x.a3),.s (.int .i64 x.a4)]
instance:Cells A5_i64.v 5:=⟨fun _=>rfl,fun _=>rfl,fun _=>rfl⟩
def sl_A5_i64 (x:(List A5_i64)):List V:=[.sl false x.length (cat A5_i64.v x)]
instance:Cells sl_A5_i64 1:=⟨fun _=>rfl,fun _=>by simp [sl_A5_i64,statics,V.static,cat_stat],fun _=>rfl⟩
structure A2_i64 where
 a0:Int
 a1:Int
instance:Inhabited A2_i64:=⟨⟨0,0⟩⟩
def A2_i64.v (x:A2_i64):List V:=[.s (.int .i64 x.a0),.s (.int .i64 x.a1)]
instance:Cells A2_i64.v 2:=⟨fun _=>rfl,fun _=>rfl,fun _=>rfl⟩
structure A11_A2_i64 where
 a0:A2_i64
 a1:A2_i64
 a2:A2_i64
 a3:A2_i64
 a4:A2_i64
 a5:A2_i64
 a6:A2_i64
 a7:A2_i64
 a8:A2_i64
 a9:A2_i64
 a10:A2_i64
instance:Inhabited A11_A2_i64:=⟨⟨⟨0,0⟩,⟨0,0⟩,⟨0,0⟩,⟨0,0⟩,⟨0,0⟩,⟨0,0⟩,⟨0,0⟩,⟨0,0⟩,⟨0,0⟩,⟨0,0⟩,⟨0,0⟩⟩⟩
def A11_A2_i64.v (x:A11_A2_i64):List V:=[.s (.int .i64 x.a0.a0),.s (.int .i64 x.a0.a1),.s (.int .i64 x.a1.a0),.s (.int .i64 x.a1.a1),.s (.int .i64 x.a2.a0),.s (.int .i64 x.a2.a1),.s (.int .i64 x.a3.a0),.s (.int .i64 x.a3.a1),.s (.int .i64 x.a4.a0),.s (.int .i64 x.a4.a1),.s (.int .i64 x.a5.a0),.s (.int .i64 x.a5.a1),.s (.int .i64 x.a6.a0),.s (.int .i64 x.a6.a1),.s (.int .i64 x.a7.a0),.s (.int .i64 x.a7.a1),.s (.int .i64 x.a8.a0),.s (.int .i64 x.a8.a1),.s (.int .i64 x.a9.a0),.s (.int .i64 x.a9.a1),.s (.int .i64 x.a10.a0),.s (.int .i64 x.a10.a1)]
instance:Cells A11_A2_i64.v 22:=⟨fun _=>rfl,fun _=>rfl,fun _=>rfl⟩
structure spinetref14_Known where
 Page:Int
 Code:Int
 Entry:api_Entry
instance:Inhabited spinetref14_Known:=⟨⟨0,0,⟨0,0,0⟩⟩⟩
def spinetref14_Known.v (x:spinetref14_Known):List V:=[.s (.int .i64 x.Page),.s (.int .i64 x.Code),.s (.int .i64 x.Entry.Op),.s (.int .i64 x.Entry.Mode),.s (.int .i64 x.Entry.Reg)]
instance:Cells spinetref14_Known.v 5:=⟨fun _=>rfl,fun _=>rfl,fun _=>rfl⟩
def sl_spinetref14_Known (x:(List spinetref14_Known)):List V:=[.sl false x.length (cat spinetref14_Known.v x)]
instance:Cells sl_spinetref14_Known 1:=⟨fun _=>rfl,fun _=>by simp [sl_spinetref14_Known,statics,V.static,cat_stat],fun _=>rfl⟩
structure A12_A2_i64 where
 a0:A2_i64
 a1:A2_i64
 a2:A2_i64
 a3:A2_i64
 a4:A2_i64
 a5:A2_i64
 a6:A2_i64
 a7:A2_i64
 a8:A2_i64
 a9:A2_i64
 a10:A2_i64
 a11:A2_i64
instance:Inhabited A12_A2_i64:=⟨⟨⟨0,0⟩,⟨0,0⟩,⟨0,0⟩,⟨0,0⟩,⟨0,0⟩,⟨0,0⟩,⟨0,0⟩,⟨0,0⟩,⟨0,0⟩,⟨0,0⟩,⟨0,0⟩,⟨0,0⟩⟩⟩
def A12_A2_i64.v (x:A12_A2_i64):List V:=[.s (.int .i64 x.a0.a0),.s (.int .i64 x.a0.a1),.s (.int .i64 x.a1.a0),.s (.int .i64 x.a1.a1),.s (.int .i64 x.a2.a0),.s (.int .i64 x.a2.a1),.s (.int .i64 x.a3.a0),.s (.int .i64 x.a3.a1),.s (.int .i64 x.a4.a0),.s (.int .i64 x.a4.a1),.s (.int .i64 x.a5.a0),.s (.int .i64 x.a5.a1),.s (.int .i64 x.a6.a0),.s (.int .i64 x.a6.a1),.s (.int .i64 x.a7.a0),.s (.int .i64 x.a7.a1),.s (.int .i64 x.a8.a0),.s (.int .i64 x.a8.a1),.s (.int .i64 x.a9.a0),.s (.int .i64 x.a9.a1),.s (.int .i64 x.a10.a0),.s (.int .i64 x.a10.a1),.s (.int .i64 x.a11.a0),.s (.int .i64 x.a11.a1)]
instance:Cells A12_A2_i64.v 24:=⟨fun _=>rfl,fun _=>rfl,fun _=>rfl⟩
structure A27_A5_i64 where
 a0:A5_i64
 a1:A5_i64
 a2:A5_i64
 a3:A5_i64
 a4:A5_i64
 a5:A5_i64
 a6:A5_i64
 a7:A5_i64
 a8:A5_i64
 a9:A5_i64
 a10:A5_i64
 a11:A5_i64
 a12:A5_i64
 a13:A5_i64
 a14:A5_i64
 a15:A5_i64
 a16:A5_i64
 a17:A5_i64
 a18:A5_i64
 a19:A5_i64
 a20:A5_i64
 a21:A5_i64
 a22:A5_i64
 a23:A5_i64
 a24:A5_i64
 a25:A5_i64
 a26:A5_i64
instance:Inhabited A27_A5_i64:=⟨⟨⟨0,0,0,0,0⟩,⟨0,0,0,0,0⟩,⟨0,0,0,0,0⟩,⟨0,0,0,0,0⟩,⟨0,0,0,0,0⟩,⟨0,0,0,0,0⟩,⟨0,0,0,0,0⟩,⟨0,0,0,0,0⟩,⟨0,0,0,0,0⟩,⟨0,0,0,0,0⟩,⟨0,0,0,0,0⟩,⟨0,0,0,0,0⟩,⟨0,0,0,0,0⟩,⟨0,0,0,0,0⟩,⟨0,0,0,0,0⟩,⟨0,0,0,0,0⟩,⟨0,0,0,0,0⟩,⟨0,0,0,0,0⟩,⟨0,0,0,0,0⟩,⟨0,0,0,0,0⟩,⟨0,0,0,0,0⟩,⟨0,0,0,0,0⟩,⟨0,0,0,0,0⟩,⟨0,0,0,0,0⟩,⟨0,0,0,0,0⟩,⟨0,0,0,0,0⟩,⟨0,0,0,0,0⟩⟩⟩
def A27_A5_i64.v (x:A27_A5_i64):List V:=[.s (.int .i64 x.a0.a0),.s (.int .i64 x.a0.a1),.s (.int .i64 x.a0.a2),.s (.int .i64 x.a0.a3),.s (.int .i64 x.a0.a4),.s (.int .i64 x.a1.a0),.s (.int .i64 x.a1.a1),.s (.int .i64 x.a1.a2),.s (.int .i64 x.a1.a3),.s (.int .i64 x.a1.a4),.s (.int .i64 x.a2.a0),.s (.int .i64 x.a2.a1),.s (.int .i64 x.a2.a2),.s (.int .i64 x.a2.a3),.s (.int .i64 x.a2.a4),.s (.int .i64 x.a3.a0),.s (.int .i64 x.a3.a1),.s (.int .i64 x.a3.a2),.s (.int .i64 x.a3.a3),.s (.int .i64 x.a3.a4),.s (.int .i64 x.a4.a0),.s (.int .i64 x.a4.a1),.s (.int .i64 x.a4.a2),.s (.int .i64 x.a4.a3),.s (.int .i64 x.a4.a4),.s (.int .i64 x.a5.a0),.s (.int .i64 x.a5.a1),.s (.int .i64 x.a5.a2),.s (.int .i64 x.a5.a3),.s (.int .i64 x.a5.a4),.s (.int .i64 x.a6.a0),.s (.int .i64 x.a6.a1),.s (.int .i64 x.a6.a2),.s (.int .i64 x.a6.a3),.s (.int .i64 x.a6.a4),.s (.int .i64 x.a7.a0),.s (.int .i64 x.a7.a1),.s (.int .i64 x.a7.a2),.s (.int .i64 x.a7.a3),.s (.int .i64 x.a7.a4),.s (.int .i64 x.a8.a0),.s (.int .i64 x.a8.a1),.s (.int .i64 x.a8.a2),.s (.int .i64 x.a8.a3),.s (.int .i64 x.a8.a4),.s (.int .i64 x.a9.a0),.s (.int .i64 x.a9.a1),.s (.int .i64 x.a9.a2),.s (.int .i64 x.a9.a3),.s (.int .i64 x.a9.a4),.s (.int .i64 x.a10.a0),.s (.int .i64 x.a10.a1),.s (.int .i64 x.a10.a2),.s (.int .i64 x.a10.a3),.s (.int .i64 x.a10.a4),.s (.int .i64 x.a11.a0),.s (.int .i64 x.a11.a1),.s (.int .i64 x.a11.a2),.s (.int .i64 x.a11.a3),.s (.int .i64 x.a11.a4),.s (.int .i64 x.a12.a0),.s (.int .i64 x.a12.a1),.s (.int .i64 x.a12.a2),.s (.int .i64 x.a12.a3),.s (.int .i64 x.a12.a4),.s (.int .i64 x.a13.a0),.s (.int .i64 x.a13.a1),.s (.int .i64 x.a13.a2),.s (.int .i64 x.a13.a3),.s (.int .i64 x.a13.a4),.s (.int .i64 x.a14.a0),.s (.int .i64 x.a14.a1),.s (.int .i64 x.a14.a2),.s (.int .i64 x.a14.a3),.s (.int .i64 x.a14.a4),.s (.int .i64 x.a15.a0),.s (.int .i64 x.a15.a1),.s (.int .i64 x.a15.a2),.s (.int .i64 x.a15.a3),.s (.int .i64 x.a15.a4),.s (.int .i64 x.a16.a0),.s (.int .i64 x.a16.a1),.s (.int .i64 x.a16.a2),.s (.int .i64 x.a16.a3),.s (.int .i64 x.a16.a4),.s (.int .i64 x.a17.a0),.s (.int .i64 x.a17.a1),.s (.int .i64 x.a17.a2),.s (.int .i64 x.a17.a3),.s (.int .i64 x.a17.a4),.s (.int .i64 x.a18.a0),.s (.int .i64 x.a18.a1),.s (.int .i64 x.a18.a2),.s (.int .i64 x.a18.a3),.s (.int .i64 x.a18.a4),.s (.int .i64 x.a19.a0),.s (.int .i64 x.a19.a1),.s (.int .i64 x.a19.a2),.s (.int .i64 x.a19.a3),.s (.int .i64 x.a19.a4),.s (.int .i64 x.a20.a0),.s (.int .i64 x.a20.a1),.s (.int .i64 x.a20.a2),.s (.int .i64 x.a20.a3),.s (.int .i64 x.a20.a4),.s (.int .i64 x.a21.a0),.s (.int .i64 x.a21.a1),.s (.int .i64 x.a21.a2),.s (.int .i64 x.a21.a3),.s (.int .i64 x.a21.a4),.s (.int .i64 x.a22.a0),.s (.int .i64 x.a22.a1),.s (.int .i64 x.a22.a2),.s (.int .i64 x.a22.a3),.s (.int .i64 x.a22.a4),.s (.int .i64 x.a23.a0),.s (.int .i64 x.a23.a1),.s (.int .i64 x.a23.a2),.s (.int .i64 x.a23.a3),.s (.int .i64 x.a23.a4),.s (.int .i64 x.a24.a0),.s (.int .i64 x.a24.a1),.s (.int .i64 x.a24.a2),.s (.int .i64 x.a24.a3),.s (.int .i64 x.a24.a4),.s (.int .i64 x.a25.a0),.s (.int .i64 x.a25.a1),.s (.int .i64 x.a25.a2),.s (.int .i64 x.a25.a3),.s (.int .i64 x.a25.a4),.s (.int .i64 x.a26.a0),.s (.int .i64 x.a26.a1),.s (.int .i64 x.a26.a2),.s (.int .i64 x.a26.a3),.s (.int .i64 x.a26.a4)]
instance:Cells A27_A5_i64.v 135:=⟨fun _=>rfl,fun _=>rfl,fun _=>rfl⟩
structure spinetref15_P where
 Kind:Int
 Reg:Int
 Off:Int
 Indirect:Bool
 Bytes:Int
 Idle:Int
instance:Inhabited spinetref15_P:=⟨⟨0,0,0,false,0,0⟩⟩
def spinetref15_P.v (x:spinetref15_P):List V:=[.s (.int .i64 x.Kind),.s (.int .i64 x.Reg),.s (.int .i64 x.Off),.s (.bool x.Indirect),.s (.int .i64 x.Bytes),.s (.int .i64 x.Idle)]
instance:Cells spinetref15_P.v 6:=⟨fun _=>rfl,fun _=>rfl,fun _=>rfl⟩
structure A3_i64 where
 a0:Int
 a1:Int
 a2:Int
instance:Inhabited A3_i64:=⟨⟨0,0,0⟩⟩
def A3_i64.v (x:A3_i64):List V:=[.s (.int .i64 x.a0),.s (.int .i64 x.a1),.s (.int .i64 x.a2)]
instance:Cells A3_i64.v 3:=⟨fun _=>rfl,fun _=>rfl,fun _=>rfl⟩
structure A16_A3_i64 where
 a0:A3_i64
 a1:A3_i64
 a2:A3_i64
 a3:A3_i64
 a4:A3_i64
 a5:A3_i64
 a6:A3_i64
 a7:A3_i64
 a8:A3_i64
 a9:A3_i64
 a10:A3_i64
 a11:A3_i64
 a12:A3_i64
 a13:A3_i64
 a14:A3_i64
 a15:A3_i64
instance:Inhabited A16_A3_i64:=⟨⟨⟨0,0,0⟩,⟨0,0,0⟩,⟨0,0,0⟩,⟨0,0,0⟩,⟨0,0,0⟩,⟨0,0,0⟩,⟨0,0,0⟩,⟨0,0,0⟩,⟨0,0,0⟩,⟨0,0,0⟩,⟨0,0,0⟩,⟨0,0,0⟩,⟨0,0,0⟩,⟨0,0,0⟩,⟨0,0,0⟩,⟨0,0,0⟩⟩⟩
def A16_A3_i64.v (x:A16_A3_i64):List V:=[.s (.int .i64 x.a0.a0),.s (.int .i64 x.a0.a1),.s (.int .i64 x.a0.a2),.s (.int .i64 x.a1.a0),.s (.int .i64 x.a1.a1),.s (.int .i64 x.a1.a2),.s (.int .i64 x.a2.a0),.s (.int .i64 x.a2.a1),.s (.int .i64 x.a2.a2),.s (.int .i64 x.a3.a0),.s (.int .i64 x.a3.a1),.s (.int .i64 x.a3.a2),.s (.int .i64 x.a4.a0),.s (.int .i64 x.a4.a1),.s (.int .i64 x.a4.a2),.s (.int .i64 x.a5.a0),.s (.int .i64 x.a5.a1),.s (.int .i64 x.a5.a2),.s (.int .i64 x.a6.a0),.s (.int .i64 x.a6.a1),.s (.int .i64 x.a6.a2),.s (.int .i64 x.a7.a0),.s (.int .i64 x.a7.a1),.s (.int .i64 x.a7.a2),.s (.int .i64 x.a8.a0),.s (.int .i64 x.a8.a1),.s (.int .i64 x.a8.a2),.s (.int .i64 x.a9.a0),.s (.int .i64 x.a9.a1),.s (.int .i64 x.a9.a2),.s (.int .i64 x.a10.a0),.s (.int .i64 x.a10.a1),.s (.int .i64 x.a10.a2),.s (.int .i64 x.a11.a0),.s (.int .i64 x.a11.a1),.s (.int .i64 x.a11.a2),.s (.int .i64 x.a12.a0),.s (.int .i64 x.a12.a1),.s (.int .i64 x.a12.a2),.s (.int .i64 x.a13.a0),.s (.int .i64 x.a13.a1),.s (.int .i64 x.a13.a2),.s (.int .i64 x.a14.a0),.s (.int .i64 x.a14.a1),.s (.int .i64 x.a14.a2),.s (.int .i64 x.a15.a0),.s (.int .i64 x.a15.a1),.s (.int .i64 x.a15.a2)]
instance:Cells A16_A3_i64.v 48:=⟨fun _=>rfl,fun _=>rfl,fun _=>rfl⟩
structure A10_i64 where
 a0:Int
 a1:Int
 a2:Int
 a3:Int
 a4:Int
 a5:Int
 a6:Int
 a7:Int
 a8:Int
 a9:Int
instance:Inhabited A10_i64:=⟨⟨0,0,0,0,0,0,0,0,0,0⟩⟩
def A10_i64.v (x:A10_i64):List V:=[.s (.int .i64 x.a0),.s (.int .i64 x.a1),.s (.int .i64 x.a2),.s (.int .i64 x.a3),.s (.int .i64 x.a4),.s (.int .i64 x.a5),.s (.int .i64 x.a6),.s (.int .i64 x.a7),.s (.int .i64 x.a8),.s (.int .i64 x.a9)]
instance:Cells A10_i64.v 10:=⟨fun _=>rfl,fun _=>rfl,fun _=>rfl⟩
structure A12_str where
 a0:ByteArray
 a1:ByteArray
 a2:ByteArray
 a3:ByteArray
 a4:ByteArray
 a5:ByteArray
 a6:ByteArray
 a7:ByteArray
 a8:ByteArray
 a9:ByteArray
 a10:ByteArray
 a11:ByteArray
instance:Inhabited A12_str:=⟨⟨⟨#[]⟩,⟨#[]⟩,⟨#[]⟩,⟨#[]⟩,⟨#[]⟩,⟨#[]⟩,⟨#[]⟩,⟨#[]⟩,⟨#[]⟩,⟨#[]⟩,⟨#[]⟩,⟨#[]⟩⟩⟩
def A12_str.v (x:A12_str):List V:=[.s (.string x.a0),.s (.string x.a1),.s (.string x.a2),.s (.string x.a3),.s (.string x.a4),.s (.string x.a5),.s (.string x.a6),.s (.string x.a7),.s (.string x.a8),.s (.string x.a9),.s (.string x.a10),.s (.string x.a11)]
instance:Cells A12_str.v 12:=⟨fun _=>rfl,fun _=>rfl,fun _=>rfl⟩
structure A14_str where
 a0:ByteArray
 a1:ByteArray
 a2:ByteArray
 a3:ByteArray
 a4:ByteArray
 a5:ByteArray
 a6:ByteArray
 a7:ByteArray
 a8:ByteArray
 a9:ByteArray
 a10:ByteArray
 a11:ByteArray
 a12:ByteArray
 a13:ByteArray
instance:Inhabited A14_str:=⟨⟨⟨#[]⟩,⟨#[]⟩,⟨#[]⟩,⟨#[]⟩,⟨#[]⟩,⟨#[]⟩,⟨#[]⟩,⟨#[]⟩,⟨#[]⟩,⟨#[]⟩,⟨#[]⟩,⟨#[]⟩,⟨#[]⟩,⟨#[]⟩⟩⟩
def A14_str.v (x:A14_str):List V:=[.s (.string x.a0),.s (.string x.a1),.s (.string x.a2),.s (.string x.a3),.s (.string x.a4),.s (.string x.a5),.s (.string x.a6),.s (.string x.a7),.s (.string x.a8),.s (.string x.a9),.s (.string x.a10),.s (.string x.a11),.s (.string x.a12),.s (.string x.a13)]
instance:Cells A14_str.v 14:=⟨fun _=>rfl,fun _=>rfl,fun _=>rfl⟩
structure spinetref13_Row where
 Name:ByteArray
 Op:Int
 Reg:Int
instance:Inhabited spinetref13_Row:=⟨⟨⟨#[]⟩,0,0⟩⟩
def spinetref13_Row.v (x:spinetref13_Row):List V:=[.s (.string x.Name),.s (.int .i64 x.Op),.s (.int .i64 x.Reg)]
instance:Cells spinetref13_Row.v 3:=⟨fun _=>rfl,fun _=>rfl,fun _=>rfl⟩
def sl_spinetref13_Row (x:(List spinetref13_Row)):List V:=[.sl false x.length (cat spinetref13_Row.v x)]
instance:Cells sl_spinetref13_Row 1:=⟨fun _=>rfl,fun _=>by simp [sl_spinetref13_Row,statics,V.static,cat_stat],fun _=>rfl⟩
structure A16_str where
 a0:ByteArray
 a1:ByteArray
 a2:ByteArray
 a3:ByteArray
 a4:ByteArray
 a5:ByteArray
 a6:ByteArray
 a7:ByteArray
 a8:ByteArray
 a9:ByteArray
 a10:ByteArray
 a11:ByteArray
 a12:ByteArray
 a13:ByteArray
 a14:ByteArray
 a15:ByteArray
instance:Inhabited A16_str:=⟨⟨⟨#[]⟩,⟨#[]⟩,⟨#[]⟩,⟨#[]⟩,⟨#[]⟩,⟨#[]⟩,⟨#[]⟩,⟨#[]⟩,⟨#[]⟩,⟨#[]⟩,⟨#[]⟩,⟨#[]⟩,⟨#[]⟩,⟨#[]⟩,⟨#[]⟩,⟨#[]⟩⟩⟩
def A16_str.v (x:A16_str):List V:=[.s (.string x.a0),.s (.string x.a1),.s (.string x.a2),.s (.string x.a3),.s (.string x.a4),.s (.string x.a5),.s (.string x.a6),.s (.string x.a7),.s (.string x.a8),.s (.string x.a9),.s (.string x.a10),.s (.string x.a11),.s (.string x.a12),.s (.string x.a13),.s (.string x.a14),.s (.string x.a15)]
instance:Cells A16_str.v 16:=⟨fun _=>rfl,fun _=>rfl,fun _=>rfl⟩
def spinetlaw34_Image (w_:spinetlaw34_World):Option ((List Int) × Bool) :=
 if ((decide (65536 < (ln w_.Low)))||(decide (65536 < (ln w_.High))))=true then
 some (([]:List Int),false)
 else
 if 0≤(65536:Int)∧(65536:Int)≤65536∧(65536:Int)*1≤281474976710656∧(65536:Int)≤281474976710656 then
 if 0≤((IntKind.wrap .i64 (65536 - (ln w_.High))):Int)∧(IntKind.wrap .i64 (65536 - (ln w_.High)))≤(ln (cpyL (rp (65536) (0:Int)) (0) ((rp (65536) (0:Int)).length - 0) w_.Low)) then
 some ((cpyL (cpyL (rp (65536) (0:Int)) (0) ((rp (65536) (0:Int)).length - 0) w_.Low) (((IntKind.wrap .i64 (65536 - (ln w_.High))):Int).toNat) ((cpyL (rp (65536) (0:Int)) (0) ((rp (65536) (0:Int)).length - 0) w_.Low).length - ((IntKind.wrap .i64 (65536 - (ln w_.High))):Int).toNat) w_.High),true)
 else none
 else none
def inst_posted (mode_:Int):Option (Bool) :=
 some (((mode_ == 4)||(mode_ == 8))||(mode_ == 9))
def octet_Sign5 (b_:Int):Option (Int) :=
 some (IntKind.wrap .u16 (IntKind.wrap .i16 (Int.fdiv (IntKind.wrap .i8 (IntKind.wrap .u8 (b_*2 ^ (3)))) (2 ^ (3)))))
def post_kind (low_:Int):Option (Int) :=
 if (low_ == 0)=true then
 some (7)
 else
 if (low_ == 1)=true then
 some (8)
 else
 if (low_ == 2)=true then
 some (9)
 else
 if (low_ == 3)=true then
 some (10)
 else
 if (low_ == 5)=true then
 some (5)
 else
 if (low_ == 6)=true then
 some (4)
 else
 if (low_ == 8)=true then
 some (2)
 else
 if (low_ == 9)=true then
 some (3)
 else
 if (low_ == 11)=true then
 some (6)
 else
 if (low_ == 12)=true then
 some (11)
 else
 if (low_ == 13)=true then
 some (12)
 else
 if (low_ == 15)=true then
 some (13)
 else
 some (0)
def post_Of_j0 (b_:Int) (r_1:(Int)) (t_:Bool):Option (post_Post) :=
 if t_=true then
 some (post_Post.mk r_1 (5) (0) ((bits .and .u8 b_ 16) != 0))
 else
 if (r_1 == 13)=true then
 some (post_Post.mk r_1 (0) (0) true)
 else
 some (post_Post.mk r_1 (IntKind.wrap .i64 (1+(IntKind.wrap .i64 (bits .and .u8 (Int.fdiv b_ (2 ^ (5))) 3)))) (0) ((bits .and .u8 b_ 16) != 0))
def post_Of (b_:Int):Option (post_Post) :=
 if (decide (b_ < 128))=true then
 (octet_Sign5 b_).bind fun r_ =>
 some (post_Post.mk (1) (IntKind.wrap .i64 (1+(IntKind.wrap .i64 (bits .and .u8 (Int.fdiv b_ (2 ^ (5))) 3)))) r_ false)
 else
 (post_kind (bits .and .u8 b_ 15)).bind fun r_1 =>
 if (r_1 == 11)=true then
 post_Of_j0 b_ r_1 (r_1 == 11)
 else
 post_Of_j0 b_ r_1 (r_1 == 12)
def post_Post_Bytes_j0 (t_1:Bool):Option (Int) :=
 if t_1=true then
 some (2)
 else
 some (0)
def post_Post_Bytes_j1 (p_:post_Post) (t_:Bool):Option (Int) :=
 if t_=true then
 some (1)
 else
 if (p_.Kind == 3)=true then
 post_Post_Bytes_j0 (p_.Kind == 3)
 else
 if (p_.Kind == 12)=true then
 post_Post_Bytes_j0 (p_.Kind == 12)
 else
 post_Post_Bytes_j0 (p_.Kind == 13)
def post_Post_Bytes (p_:post_Post):Option (Int) :=
 if (p_.Kind == 2)=true then
 post_Post_Bytes_j1 p_ (p_.Kind == 2)
 else
 post_Post_Bytes_j1 p_ (p_.Kind == 11)
def inst_behind_j0 (mode_:Int) (b_:Int) (t_1:Bool):Option (Int × Bool) :=
 if t_1=true then
 some (2,false)
 else
 if (mode_ == 6)=true then
 some (1,true)
 else
 if (mode_ == 4)=true then
 (post_Of b_).bind fun r_ =>
 (post_Post_Bytes r_).bind fun r_1 =>
 some (r_1,true)
 else
 some (0,false)
def inst_behind_j1 (mode_:Int) (b_:Int) (t_:Bool):Option (Int × Bool) :=
 if t_=true then
 some (1,false)
 else
 if (mode_ == 2)=true then
 inst_behind_j0 mode_ b_ (mode_ == 2)
 else
 if (mode_ == 5)=true then
 inst_behind_j0 mode_ b_ (mode_ == 5)
 else
 inst_behind_j0 mode_ b_ (mode_ == 7)
def inst_behind (mode_:Int) (b_:Int):Option (Int × Bool) :=
 if (mode_ == 1)=true then
 inst_behind_j1 mode_ b_ (mode_ == 1)
 else
 inst_behind_j1 mode_ b_ (mode_ == 3)
def inst_reader_next (r_:inst_reader):Option (Int × inst_reader) :=
 if (decide ((ln r_.b)≤r_.n))=true then
 some (0,(inst_reader.mk r_.b r_.n true))
 else
 if 0≤((IntKind.wrap .i64 ((IntKind.wrap .i64 (r_.n+1)) - 1)):Int)∧(IntKind.wrap .i64 ((IntKind.wrap .i64 (r_.n+1)) - 1)) < ln r_.b then
 some ((gt r_.b (IntKind.wrap .i64 ((IntKind.wrap .i64 (r_.n+1)) - 1))),(inst_reader.mk r_.b (IntKind.wrap .i64 (r_.n+1)) r_.short))
 else none
def page_Prefix (code_:Int):Option (Int) :=
 if (code_ == 16)=true then
 some (2)
 else
 if (code_ == 17)=true then
 some (3)
 else
 some (0)
def page_change (low_:Int):Option (Int) :=
 if (low_ == 0)=true then
 some (13)
 else
 if (low_ == 3)=true then
 some (14)
 else
 if (low_ == 4)=true then
 some (15)
 else
 if (low_ == 6)=true then
 some (16)
 else
 if (low_ == 7)=true then
 some (17)
 else
 if (low_ == 8)=true then
 some (18)
 else
 if (low_ == 9)=true then
 some (19)
 else
 if (low_ == 10)=true then
 some (20)
 else
 if (low_ == 12)=true then
 some (21)
 else
 if (low_ == 13)=true then
 some (22)
 else
 if (low_ == 15)=true then
 some (23)
 else
 some (0)
def page_memory (low_:Int) (mode_:Int):Option (api_Entry) :=
 if (low_ == 14)=true then
 some (api_Entry.mk (32) mode_ (0))
 else
 (page_change low_).bind fun r_ =>
 if (r_ != 0)=true then
 some (api_Entry.mk r_ mode_ (0))
 else
 some (api_Entry.mk (0) (0) (0))
def page_tens (low_:Int):Option (api_Entry) :=
 if (low_ == 2)=true then
 some (api_Entry.mk (39) (0) (0))
 else
 if (low_ == 3)=true then
 some (api_Entry.mk (40) (0) (0))
 else
 if (low_ == 6)=true then
 some (api_Entry.mk (36) (7) (0))
 else
 if (low_ == 7)=true then
 some (api_Entry.mk (38) (7) (0))
 else
 if (low_ == 9)=true then
 some (api_Entry.mk (42) (0) (0))
 else
 if (low_ == 10)=true then
 some (api_Entry.mk (43) (1) (0))
 else
 if (low_ == 12)=true then
 some (api_Entry.mk (44) (1) (0))
 else
 if (low_ == 13)=true then
 some (api_Entry.mk (45) (0) (0))
 else
 if (low_ == 14)=true then
 some (api_Entry.mk (46) (8) (0))
 else
 if (low_ == 15)=true then
 some (api_Entry.mk (47) (8) (0))
 else
 some (api_Entry.mk (0) (0) (0))
def page_thirties_j0 (low_:Int) (t_2:Bool):Option (api_Entry) :=
 if t_2=true then
 some (api_Entry.mk (31) (9) (IntKind.wrap .i64 (4 - (IntKind.wrap .i64 (Int.tdiv (IntKind.wrap .i64 (IntKind.wrap .u8 (low_ - 5))) 2)))))
 else
 if (low_ == 9)=true then
 some (api_Entry.mk (48) (0) (0))
 else
 if (low_ == 10)=true then
 some (api_Entry.mk (1) (0) (0))
 else
 if (low_ == 11)=true then
 some (api_Entry.mk (49) (0) (0))
 else
 if (low_ == 12)=true then
 some (api_Entry.mk (41) (1) (0))
 else
 if (low_ == 13)=true then
 some (api_Entry.mk (50) (0) (0))
 else
 if (low_ == 15)=true then
 some (api_Entry.mk (51) (0) (1))
 else
 some (api_Entry.mk (0) (0) (0))
def page_thirties_j1 (low_:Int) (t_1:Bool):Option (api_Entry) :=
 if t_1=true then
 some (api_Entry.mk (30) (9) (IntKind.wrap .i64 (4 - (IntKind.wrap .i64 (Int.tdiv (IntKind.wrap .i64 (IntKind.wrap .u8 (low_ - 4))) 2)))))
 else
 if (low_ == 5)=true then
 page_thirties_j0 low_ (low_ == 5)
 else
 page_thirties_j0 low_ (low_ == 7)
def page_thirties_j2 (low_:Int) (t_:Bool):Option (api_Entry) :=
 if t_=true then
 if 0≤(low_:Int)∧low_ < (4:Int) then
 some (api_Entry.mk (29) (4) (gt [1,2,4,3] low_))
 else none
 else
 if (low_ == 4)=true then
 page_thirties_j1 low_ (low_ == 4)
 else
 page_thirties_j1 low_ (low_ == 6)
def page_thirties (low_:Int):Option (api_Entry) :=
 if (low_ == 0)=true then
 page_thirties_j2 low_ (low_ == 0)
 else
 if (low_ == 1)=true then
 page_thirties_j2 low_ (low_ == 1)
 else
 if (low_ == 2)=true then
 page_thirties_j2 low_ (low_ == 2)
 else
 page_thirties_j2 low_ (low_ == 3)
def page_inside (low_:Int) (reg_:Int):Option (api_Entry) :=
 (page_change low_).bind fun r_ =>
 if (r_ != 0)=true then
 some (api_Entry.mk r_ (0) reg_)
 else
 some (api_Entry.mk (0) (0) (0))
def page_wide_j0 (op_:Int) (reg_:Int) (t_:Int):Option (api_Entry) :=
 some (api_Entry.mk op_ t_ reg_)
def page_wide (op_:Int) (mode_:Int) (reg_:Int):Option (api_Entry) :=
 if (mode_ == 1)=true then
 if (op_ == 25)=true then
 some (api_Entry.mk (0) (0) (0))
 else
 page_wide_j0 op_ reg_ (2)
 else
 page_wide_j0 op_ reg_ mode_
def page_column (high_:Int):Option (Int) :=
 if 0≤((bits .and .u8 high_ 3):Int)∧(bits .and .u8 high_ 3) < (4:Int) then
 some (gt [1,3,4,5] (bits .and .u8 high_ 3))
 else none
def page_eight (low_:Int):Option (Int) :=
 if (low_ == 0)=true then
 some (10)
 else
 if (low_ == 1)=true then
 some (6)
 else
 if (low_ == 2)=true then
 some (9)
 else
 if (low_ == 4)=true then
 some (4)
 else
 if (low_ == 5)=true then
 some (5)
 else
 if (low_ == 6)=true then
 some (11)
 else
 if (low_ == 7)=true then
 some (12)
 else
 if (low_ == 8)=true then
 some (7)
 else
 if (low_ == 9)=true then
 some (2)
 else
 if (low_ == 10)=true then
 some (8)
 else
 if (low_ == 11)=true then
 some (3)
 else
 some (0)
def page_columns (high_:Int) (low_:Int):Option (api_Entry) :=
 (page_column high_).bind fun r_ =>
 (page_eight low_).bind fun r_1 =>
 if (r_1 != 0)=true then
 if ((r_1 == 12)&&(r_ == 1))=true then
 some (api_Entry.mk (0) (0) (0))
 else
 if (decide (11 < high_))=true then
 some (api_Entry.mk r_1 r_ (9))
 else
 some (api_Entry.mk r_1 r_ (8))
 else
 if (decide (11 < high_))=true then
 if (low_ == 3)=true then
 (page_wide (26) r_ (0)).bind fun r_2 =>
 some r_2
 else
 if (low_ == 12)=true then
 (page_wide (24) r_ (0)).bind fun r_3 =>
 some r_3
 else
 if (low_ == 13)=true then
 (page_wide (25) r_ (0)).bind fun r_4 =>
 some r_4
 else
 if (low_ == 14)=true then
 (page_wide (24) r_ (3)).bind fun r_5 =>
 some r_5
 else
 (page_wide (25) r_ (3)).bind fun r_6 =>
 some r_6
 else
 if (low_ == 3)=true then
 (page_wide (27) r_ (0)).bind fun r_7 =>
 some r_7
 else
 if (low_ == 12)=true then
 (page_wide (28) r_ (1)).bind fun r_8 =>
 some r_8
 else
 if (low_ == 14)=true then
 (page_wide (24) r_ (1)).bind fun r_9 =>
 some r_9
 else
 if (low_ == 15)=true then
 (page_wide (25) r_ (1)).bind fun r_10 =>
 some r_10
 else
 if (r_ == 1)=true then
 some (api_Entry.mk (37) (6) (0))
 else
 some (api_Entry.mk (33) r_ (0))
def page_first (code_:Int):Option (api_Entry) :=
 if ((Int.fdiv code_ (2 ^ (4))) == 0)=true then
 (page_memory (bits .and .u8 code_ 15) (3)).bind fun r_ =>
 some r_
 else
 if ((Int.fdiv code_ (2 ^ (4))) == 1)=true then
 (page_tens (bits .and .u8 code_ 15)).bind fun r_1 =>
 some r_1
 else
 if ((Int.fdiv code_ (2 ^ (4))) == 2)=true then
 some (api_Entry.mk (34) (6) (IntKind.wrap .i64 (bits .and .u8 code_ 15)))
 else
 if ((Int.fdiv code_ (2 ^ (4))) == 3)=true then
 (page_thirties (bits .and .u8 code_ 15)).bind fun r_2 =>
 some r_2
 else
 if ((Int.fdiv code_ (2 ^ (4))) == 4)=true then
 (page_inside (bits .and .u8 code_ 15) (8)).bind fun r_3 =>
 some r_3
 else
 if ((Int.fdiv code_ (2 ^ (4))) == 5)=true then
 (page_inside (bits .and .u8 code_ 15) (9)).bind fun r_4 =>
 some r_4
 else
 if ((Int.fdiv code_ (2 ^ (4))) == 6)=true then
 (page_memory (bits .and .u8 code_ 15) (4)).bind fun r_5 =>
 some r_5
 else
 if ((Int.fdiv code_ (2 ^ (4))) == 7)=true then
 (page_memory (bits .and .u8 code_ 15) (5)).bind fun r_6 =>
 some r_6
 else
 (page_columns (Int.fdiv code_ (2 ^ (4))) (bits .and .u8 code_ 15)).bind fun r_7 =>
 some r_7
def page_second (code_:Int):Option (api_Entry) :=
 if (((Int.fdiv code_ (2 ^ (4))) == 2)&&(decide (0 < (bits .and .u8 code_ 15))))=true then
 some (api_Entry.mk (35) (7) (IntKind.wrap .i64 (bits .and .u8 code_ 15)))
 else
 if (((decide (8≤(Int.fdiv code_ (2 ^ (4)))))&&(decide ((Int.fdiv code_ (2 ^ (4))) < 12)))&&((bits .and .u8 code_ 15) == 3))=true then
 (page_column (Int.fdiv code_ (2 ^ (4)))).bind fun r_ =>
 (page_wide (28) r_ (0)).bind fun r_1 =>
 some r_1
 else
 if (((decide (8≤(Int.fdiv code_ (2 ^ (4)))))&&(decide ((Int.fdiv code_ (2 ^ (4))) < 12)))&&((bits .and .u8 code_ 15) == 12))=true then
 (page_column (Int.fdiv code_ (2 ^ (4)))).bind fun r_2 =>
 (page_wide (28) r_2 (2)).bind fun r_3 =>
 some r_3
 else
 if (((decide (8≤(Int.fdiv code_ (2 ^ (4)))))&&(decide ((Int.fdiv code_ (2 ^ (4))) < 12)))&&((bits .and .u8 code_ 15) == 14))=true then
 (page_column (Int.fdiv code_ (2 ^ (4)))).bind fun r_4 =>
 (page_wide (24) r_4 (2)).bind fun r_5 =>
 some r_5
 else
 if (((decide (8≤(Int.fdiv code_ (2 ^ (4)))))&&(decide ((Int.fdiv code_ (2 ^ (4))) < 12)))&&((bits .and .u8 code_ 15) == 15))=true then
 (page_column (Int.fdiv code_ (2 ^ (4)))).bind fun r_6 =>
 (page_wide (25) r_6 (2)).bind fun r_7 =>
 some r_7
 else
 if ((decide (12≤(Int.fdiv code_ (2 ^ (4)))))&&((bits .and .u8 code_ 15) == 14))=true then
 (page_column (Int.fdiv code_ (2 ^ (4)))).bind fun r_8 =>
 (page_wide (24) r_8 (4)).bind fun r_9 =>
 some r_9
 else
 if ((decide (12≤(Int.fdiv code_ (2 ^ (4)))))&&((bits .and .u8 code_ 15) == 15))=true then
 (page_column (Int.fdiv code_ (2 ^ (4)))).bind fun r_10 =>
 (page_wide (25) r_10 (4)).bind fun r_11 =>
 some r_11
 else
 some (api_Entry.mk (0) (0) (0))
def page_third (code_:Int):Option (api_Entry) :=
 if (((decide (8≤(Int.fdiv code_ (2 ^ (4)))))&&(decide ((Int.fdiv code_ (2 ^ (4))) < 12)))&&((bits .and .u8 code_ 15) == 3))=true then
 (page_column (Int.fdiv code_ (2 ^ (4)))).bind fun r_ =>
 (page_wide (28) r_ (3)).bind fun r_1 =>
 some r_1
 else
 if (((decide (8≤(Int.fdiv code_ (2 ^ (4)))))&&(decide ((Int.fdiv code_ (2 ^ (4))) < 12)))&&((bits .and .u8 code_ 15) == 12))=true then
 (page_column (Int.fdiv code_ (2 ^ (4)))).bind fun r_2 =>
 (page_wide (28) r_2 (4)).bind fun r_3 =>
 some r_3
 else
 some (api_Entry.mk (0) (0) (0))
def page_Of (page_:Int) (code_:Int):Option (api_Entry) :=
 if (((page_ == 2)||(page_ == 3))&&(code_ == 63))=true then
 some (api_Entry.mk (51) (0) page_)
 else
 if (page_ == 1)=true then
 (page_first code_).bind fun r_ =>
 some r_
 else
 if (page_ == 2)=true then
 (page_second code_).bind fun r_1 =>
 some r_1
 else
 if (page_ == 3)=true then
 (page_third code_).bind fun r_2 =>
 some r_2
 else
 some (api_Entry.mk (0) (0) (0))
def octet_Word (hi_:Int) (lo_:Int):Option (Int) :=
 some (bits .or .u16 (IntKind.wrap .u16 ((IntKind.wrap .u16 hi_)*2 ^ (8))) (IntKind.wrap .u16 lo_))
def inst_reader_word (r_:inst_reader):Option (Int × inst_reader) :=
 (inst_reader_next r_).bind fun r_1 =>
 (inst_reader_next r_1.2).bind fun r_2 =>
 (octet_Word r_1.1 r_2.1).bind fun r_3 =>
 some (r_3,r_2.2)
def octet_Sign (b_:Int):Option (Int) :=
 some (IntKind.wrap .u16 (IntKind.wrap .i16 (IntKind.wrap .i8 b_)))
def inst_reader_value (r_:inst_reader) (bytes_:Int) (signed_:Bool):Option (Int × inst_reader) :=
 if (bytes_ == 2)=true then
 (inst_reader_word r_).bind fun r_1 =>
 some (r_1.1,r_1.2)
 else
 if ((bytes_ == 1)&&signed_)=true then
 (inst_reader_next r_).bind fun r_2 =>
 (octet_Sign r_2.1).bind fun r_3 =>
 some (r_3,r_2.2)
 else
 if (bytes_ == 1)=true then
 (inst_reader_next r_).bind fun r_4 =>
 some ((IntKind.wrap .u16 r_4.1),r_4.2)
 else
 some (0,r_)
def inst_Of_j0 (m_3:Int) (m_4:Int) (r_3:(api_Entry)) (m_5:(List Int)) (m_6:Int) (m_7:Bool) (m_8:Int):Option (api_Inst × Int) :=
 (inst_behind r_3.Mode m_8).bind fun r_6 =>
 (inst_reader_value (inst_reader.mk m_5 m_6 m_7) r_6.1 r_6.2).bind fun r_7 =>
 if r_7.2.short=true then
 some ((api_Inst.mk (0) (0) (api_Entry.mk (0) (0) (0)) (0) (0) (0)),20)
 else
 some ((api_Inst.mk m_3 m_4 r_3 m_8 r_7.1 r_7.2.n),0)
def inst_Of_j1 (m_:(List Int)) (m_1:Int) (m_2:Bool) (m_3:Int) (m_4:Int):Option (api_Inst × Int) :=
 (page_Of m_3 m_4).bind fun r_3 =>
 (inst_posted r_3.Mode).bind fun r_4 =>
 if r_4=true then
 (inst_reader_next (inst_reader.mk m_ m_1 m_2)).bind fun r_5 =>
 inst_Of_j0 m_3 m_4 r_3 r_5.2.b r_5.2.n r_5.2.short r_5.1
 else
 inst_Of_j0 m_3 m_4 r_3 m_ m_1 m_2 (0)
def inst_Of (b_:(List Int)):Option (api_Inst × Int) :=
 (inst_reader_next (inst_reader.mk b_ (0) false)).bind fun r_ =>
 (page_Prefix r_.1).bind fun r_1 =>
 if (r_1 != 0)=true then
 (inst_reader_next r_.2).bind fun r_2 =>
 inst_Of_j1 r_2.2.b r_2.2.n r_2.2.short r_1 r_2.1
 else
 inst_Of_j1 r_.2.b r_.2.n r_.2.short (1) r_.1
def fast_Decode_l0 (at_:Int) (m_:RamT):Nat→(List Int)→Int→Option (List Int)
 | 0,_,_=>none
 | k+1,l_1,t_1 =>
 if (decide (t_1 < 5))=true then
 (ram_Read m_ (IntKind.wrap .u16 (at_+t_1))).bind fun r_2 =>
 if (l_1.length+[r_2].length)*1≤140737488355328 then
 fast_Decode_l0 at_ m_ k (l_1++[r_2]) (IntKind.wrap .u16 (t_1+1))
 else none
 else
 some l_1
def fast_Decode (at_:Int) (m_:RamT):Option (api_Inst) :=
 (fast_Decode_l0 at_ m_ BIG ([]:List Int) (0)).bind fun l_2 =>
 (inst_Of l_2).bind fun r_3 =>
 some r_3.1
def octet_Low (w_:Int):Option (Int) :=
 some (IntKind.wrap .u8 w_)
def octet_High (w_:Int):Option (Int) :=
 some (IntKind.wrap .u8 (Int.fdiv w_ (2 ^ (8))))
def octet_Bytes_l0 (w_:(List Int)):Nat→(List Int)→Int→Option (List Int)
 | 0,_,_=>none
 | k+1,l_1,t_1 =>
 if (decide (t_1 < (ln w_)))=true then
 if 0≤(t_1:Int)∧t_1 < ln w_ then
 (octet_High (gt w_ t_1)).bind fun r_4 =>
 (octet_Low (gt w_ t_1)).bind fun r_5 =>
 if (l_1.length+[r_4,r_5].length)*1≤140737488355328 then
 octet_Bytes_l0 w_ k (l_1++[r_4,r_5]) (IntKind.wrap .i64 (t_1+1))
 else none
 else none
 else
 some l_1
def octet_Bytes (w_:(List Int)):Option ((List Int)) :=
 if 0≤(0:Int)∧(0:Int)≤(IntKind.wrap .i64 (2*(ln w_)))∧((IntKind.wrap .i64 (2*(ln w_))):Int)*1≤281474976710656∧((IntKind.wrap .i64 (2*(ln w_))):Int)≤281474976710656 then
 (octet_Bytes_l0 w_ BIG (rp (0) (0:Int)) (0)).bind fun l_2 =>
 some l_2
 else none
def inst_Put_j0 (i_:api_Inst) (l_2:(List Int)):Option ((List Int) × Int) :=
 (inst_Of l_2).bind fun r_4 =>
 if ((r_4.2 != 0)||(!((r_4.1.Page == i_.Page)&&((r_4.1.Code == i_.Code)&&((r_4.1.Entry.Op == i_.Entry.Op)&&((r_4.1.Entry.Mode == i_.Entry.Mode)&&((r_4.1.Entry.Reg == i_.Entry.Reg)&&((r_4.1.Post == i_.Post)&&((r_4.1.Value == i_.Value)&&((r_4.1.Len == i_.Len)&&true))))))))))=true then
 some (([]:List Int),10)
 else
 some (l_2,0)
def inst_Put_j1 (i_:api_Inst) (l_1:(List Int)):Option ((List Int) × Int) :=
 (inst_behind i_.Entry.Mode i_.Post).bind fun r_1 =>
 if (r_1.1 == 1)=true then
 (octet_Low i_.Value).bind fun r_2 =>
 if (l_1.length+[r_2].length)*1≤140737488355328 then
 inst_Put_j0 i_ (l_1++[r_2])
 else none
 else
 if (r_1.1 == 2)=true then
 (octet_Bytes [i_.Value]).bind fun r_3 =>
 if (l_1.length+r_3.length)*1≤140737488355328 then
 inst_Put_j0 i_ (l_1++r_3)
 else none
 else
 inst_Put_j0 i_ l_1
def inst_Put_j2 (i_:api_Inst) (l_:(List Int)):Option ((List Int) × Int) :=
 if (l_.length+[i_.Code].length)*1≤140737488355328 then
 (inst_posted i_.Entry.Mode).bind fun r_ =>
 if r_=true then
 if ((l_++[i_.Code]).length+[i_.Post].length)*1≤140737488355328 then
 inst_Put_j1 i_ ((l_++[i_.Code])++[i_.Post])
 else none
 else
 inst_Put_j1 i_ (l_++[i_.Code])
 else none
def inst_Put (i_:api_Inst):Option ((List Int) × Int) :=
 if ((i_.Page == 2)||(i_.Page == 3))=true then
 if (([]:List Int).length+[(IntKind.wrap .u8 (IntKind.wrap .i64 (14+i_.Page)))].length)*1≤140737488355328 then
 inst_Put_j2 i_ (([]:List Int)++[(IntKind.wrap .u8 (IntKind.wrap .i64 (14+i_.Page)))])
 else none
 else
 inst_Put_j2 i_ ([]:List Int)
def digit_sign (n_:Int):Option (Int) :=
 if (decide (n_ < 10))=true then
 some (IntKind.wrap .u8 (48+n_))
 else
 some (IntKind.wrap .u8 ((IntKind.wrap .u8 (65+n_)) - 10))
def digit_Pairs_l0 (b_:(List Int)):Nat→(List Int)→Int→Option (List Int)
 | 0,_,_=>none
 | k+1,l_1,t_1 =>
 if (decide (t_1 < (ln b_)))=true then
 if 0≤(t_1:Int)∧t_1 < ln b_ then
 (digit_sign (Int.fdiv (gt b_ t_1) (2 ^ (4)))).bind fun r_4 =>
 (digit_sign (bits .and .u8 (gt b_ t_1) 15)).bind fun r_5 =>
 if (l_1.length+[r_4,r_5].length)*1≤140737488355328 then
 digit_Pairs_l0 b_ k (l_1++[r_4,r_5]) (IntKind.wrap .i64 (t_1+1))
 else none
 else none
 else
 some l_1
def digit_Pairs (b_:(List Int)):Option (ByteArray) :=
 if 0≤(0:Int)∧(0:Int)≤(IntKind.wrap .i64 (2*(ln b_)))∧((IntKind.wrap .i64 (2*(ln b_))):Int)*1≤281474976710656∧((IntKind.wrap .i64 (2*(ln b_))):Int)≤281474976710656 then
 (digit_Pairs_l0 b_ BIG (rp (0) (0:Int)) (0)).bind fun l_2 =>
 some (bs l_2)
 else none
def digit_Hex_l0 (width_:Int):Nat→(List Int)→Int→Int→Option ((List Int) × Int)
 | 0,_,_,_=>none
 | k+1,l_1,t_1,i_1 =>
 if (((decide (0 < t_1))||(i_1 == 16))||(decide ((IntKind.wrap .i64 (16 - i_1)) < (if 16 < width_ then 16 else width_))))=true then
 (digit_sign (IntKind.wrap .u8 (bits .and .u64 t_1 15))).bind fun r_2 =>
 if 0≤((IntKind.wrap .i64 (i_1 - 1)):Int)∧(IntKind.wrap .i64 (i_1 - 1)) < (16:Int) then
 digit_Hex_l0 width_ k (st l_1 (IntKind.wrap .i64 (i_1 - 1)) r_2) (Int.fdiv t_1 (2 ^ (4))) (IntKind.wrap .i64 (i_1 - 1))
 else none
 else
 some (l_1,i_1)
def digit_Hex (n_:Int) (width_:Int):Option (ByteArray) :=
 (digit_Hex_l0 width_ BIG [0,0,0,0,0,0,0,0,0,0,0,0,0,0,0,0] n_ (16)).bind fun (l_2,i_2) =>
 if 0≤(i_2:Int)∧i_2≤(16:Int) then
 some (bs ((l_2.drop (i_2:Int).toNat).take (16 - (i_2:Int).toNat)))
 else none
def math_bits_Mul32 (x_:Int) (y_:Int):Option (Int × Int) :=
 some ((IntKind.wrap .u32 (Int.fdiv (IntKind.wrap .u64 ((IntKind.wrap .u64 x_)*(IntKind.wrap .u64 y_))) (2 ^ (32)))),(IntKind.wrap .u32 (IntKind.wrap .u64 ((IntKind.wrap .u64 x_)*(IntKind.wrap .u64 y_)))))
def math_bits_Mul64 (x_:Int) (y_:Int):Option (Int × Int) :=
 some ((IntKind.wrap .u64 ((IntKind.wrap .u64 ((IntKind.wrap .u64 ((Int.fdiv x_ (2 ^ (32)))*(Int.fdiv y_ (2 ^ (32)))))+(Int.fdiv (IntKind.wrap .u64 ((IntKind.wrap .u64 ((Int.fdiv x_ (2 ^ (32)))*(bits .and .u64 y_ 4294967295)))+(Int.fdiv (IntKind.wrap .u64 ((bits .and .u64 x_ 4294967295)*(bits .and .u64 y_ 4294967295))) (2 ^ (32))))) (2 ^ (32)))))+(Int.fdiv (IntKind.wrap .u64 ((bits .and .u64 (IntKind.wrap .u64 ((IntKind.wrap .u64 ((Int.fdiv x_ (2 ^ (32)))*(bits .and .u64 y_ 4294967295)))+(Int.fdiv (IntKind.wrap .u64 ((bits .and .u64 x_ 4294967295)*(bits .and .u64 y_ 4294967295))) (2 ^ (32))))) 4294967295)+(IntKind.wrap .u64 ((bits .and .u64 x_ 4294967295)*(Int.fdiv y_ (2 ^ (32))))))) (2 ^ (32))))),(IntKind.wrap .u64 (x_*y_)))
def math_bits_Mul (x_:Int) (y_:Int):Option (Int × Int) :=
 if false=true then
 (math_bits_Mul32 (IntKind.wrap .u32 x_) (IntKind.wrap .u32 y_)).bind fun r_ =>
 some ((IntKind.wrap .u64 r_.1),(IntKind.wrap .u64 r_.2))
 else
 (math_bits_Mul64 x_ y_).bind fun r_1 =>
 some (r_1.1,r_1.2)
def internal_stringslite_HasPrefix (s_:ByteArray) (prefix_:ByteArray):Option (Bool) :=
 if (decide ((sln prefix_)≤(sln s_)))=true→0≤((sln prefix_):Int)∧(sln prefix_)≤(sln s_) then
 some ((decide ((sln prefix_)≤(sln s_)))&&((s_.extract 0 ((sln prefix_):Int).toNat).toList == prefix_.toList))
 else none
def strings_HasPrefix (s_:ByteArray) (prefix_:ByteArray):Option (Bool) :=
 (internal_stringslite_HasPrefix s_ prefix_).bind fun r_ =>
 some r_
def strings_Repeat (s_:ByteArray) (count_:Int):Option (ByteArray) :=
 if (count_ == 0)=true then
 some (⟨#[]⟩:ByteArray)
 else
 if (count_ == 1)=true then
 some s_
 else
 if (decide (count_ < 0))=true then
 none
 else
 ((math_bits_Mul (IntKind.wrap .u64 (sln s_)) (IntKind.wrap .u64 count_)).bind fun r_ =>
 if ((decide (0 < r_.1))||(decide (9223372036854775807 < r_.2)))=true then
 none
 else
 (if ((sln s_) == 0)=true then
 some (⟨#[]⟩:ByteArray)
 else
 if 0≤(0:Int)∧0 < sln s_ then
 if ((bt s_ (0)) == 32)=true then
 (if ((bt s_ (0)) == 32)=true then
 ((if (decide ((IntKind.wrap .i64 r_.2)≤128))=true then strings_HasPrefix (⟨#[32,32,32,32,32,32,32,32,32,32,32,32,32,32,32,32,32,32,32,32,32,32,32,32,32,32,32,32,32,32,32,32,32,32,32,32,32,32,32,32,32,32,32,32,32,32,32,32,32,32,32,32,32,32,32,32,32,32,32,32,32,32,32,32,32,32,32,32,32,32,32,32,32,32,32,32,32,32,32,32,32,32,32,32,32,32,32,32,32,32,32,32,32,32,32,32,32,32,32,32,32,32,32,32,32,32,32,32,32,32,32,32,32,32,32,32,32,32,32,32,32,32,32,32,32,32,32,32]⟩:ByteArray) s_ else some default)).bind fun r_1 =>
 if ((decide ((IntKind.wrap .i64 r_.2)≤128))&&r_1)=true then
 if 0≤((IntKind.wrap .i64 r_.2):Int)∧(IntKind.wrap .i64 r_.2)≤(sln (⟨#[32,32,32,32,32,32,32,32,32,32,32,32,32,32,32,32,32,32,32,32,32,32,32,32,32,32,32,32,32,32,32,32,32,32,32,32,32,32,32,32,32,32,32,32,32,32,32,32,32,32,32,32,32,32,32,32,32,32,32,32,32,32,32,32,32,32,32,32,32,32,32,32,32,32,32,32,32,32,32,32,32,32,32,32,32,32,32,32,32,32,32,32,32,32,32,32,32,32,32,32,32,32,32,32,32,32,32,32,32,32,32,32,32,32,32,32,32,32,32,32,32,32,32,32,32,32,32,32]⟩:ByteArray)) then
 some ((⟨#[32,32,32,32,32,32,32,32,32,32,32,32,32,32,32,32,32,32,32,32,32,32,32,32,32,32,32,32,32,32,32,32,32,32,32,32,32,32,32,32,32,32,32,32,32,32,32,32,32,32,32,32,32,32,32,32,32,32,32,32,32,32,32,32,32,32,32,32,32,32,32,32,32,32,32,32,32,32,32,32,32,32,32,32,32,32,32,32,32,32,32,32,32,32,32,32,32,32,32,32,32,32,32,32,32,32,32,32,32,32,32,32,32,32,32,32,32,32,32,32,32,32,32,32,32,32,32,32]⟩:ByteArray).extract 0 ((IntKind.wrap .i64 r_.2):Int).toNat)
 else none
 else
 none
 else
 none)
 else
 none
 else none))
def post_low (kind_:Int):Option (Int) :=
 if 0≤(kind_:Int)∧kind_ < (14:Int) then
 some (gt [4,0,8,9,6,5,11,0,1,2,3,12,13,15] kind_)
 else none
def post_Post_Code_j0 (p_:post_Post) (b_1:Int):Option (Int × Bool) :=
 (post_Of b_1).bind fun r_1 =>
 some (b_1,((r_1.Kind == p_.Kind)&&((r_1.Reg == p_.Reg)&&((r_1.Off == p_.Off)&&((r_1.Indirect == p_.Indirect)&&true)))))
def post_Post_Code_j1 (p_:post_Post) (b_:Int):Option (Int × Bool) :=
 if (p_.Kind == 1)=true then
 post_Post_Code_j0 p_ (bits .or .u8 (IntKind.wrap .u8 ((IntKind.wrap .u8 (IntKind.wrap .i64 (p_.Reg - 1)))*2 ^ (5))) (IntKind.wrap .u8 (bits .and .u16 p_.Off 31)))
 else
 if (((decide (1≤p_.Reg))&&(decide (p_.Reg≤4)))&&(decide (p_.Kind < 11)))=true then
 post_Post_Code_j0 p_ (bits .or .u8 b_ (IntKind.wrap .u8 ((IntKind.wrap .u8 (IntKind.wrap .i64 (p_.Reg - 1)))*2 ^ (5))))
 else
 post_Post_Code_j0 p_ b_
def post_Post_Code (p_:post_Post):Option (Int × Bool) :=
 if ((decide (p_.Kind < 0))||(decide (13 < p_.Kind)))=true then
 some (0,false)
 else
 (post_low p_.Kind).bind fun r_ =>
 if p_.Indirect=true then
 post_Post_Code_j1 p_ (bits .or .u8 (bits .or .u8 128 r_) 16)
 else
 post_Post_Code_j1 p_ (bits .or .u8 128 r_)
def dis_Sure (i_:api_Inst):Option (Bool) :=
 if (i_.Entry.Op == 0)=true then
 some false
 else
 if (i_.Entry.Mode != 4)=true then
 some true
 else
 (post_Of i_.Post).bind fun r_ =>
 (post_Post_Code r_).bind fun r_1 =>
 some (r_1.2&&(r_1.1 == i_.Post))
def dis_Byte (b_:Int):Option (ByteArray) :=
 (digit_Pairs [b_]).bind fun r_ =>
 if (((⟨#[36]⟩:ByteArray).size+r_.size:Nat):Int)≤9223372036854775807 then
 some ((⟨#[36]⟩:ByteArray)++r_)
 else none
def strings_Join_l0 (elems_:(List ByteArray)):Nat→Int→Int→Option Int
 | 0,_,_=>none
 | k+1,n_2,t_1 =>
 if (decide (t_1 < (ln elems_)))=true then
 if 0≤(t_1:Int)∧t_1 < ln elems_ then
 if (decide ((IntKind.wrap .i64 (9223372036854775807 - n_2)) < (sln (gt elems_ t_1))))=true then
 none
 else
 strings_Join_l0 elems_ k (IntKind.wrap .i64 (n_2+(sln (gt elems_ t_1)))) (IntKind.wrap .i64 (t_1+1))
 else none
 else
 some n_2
def strings_Join_l1 (elems_:(List ByteArray)) (sep_:ByteArray):Nat→(List Int)→Int→Option (List Int)
 | 0,_,_=>none
 | k+1,l_1,t_3 =>
 if (decide (t_3 < (((elems_.length - (1:Int).toNat):Nat):Int)))=true then
 if 0≤(t_3:Int)∧t_3 < (((elems_.length - (1:Int).toNat):Nat):Int) then
 if (l_1.length+sep_.size)*1≤140737488355328 then
 if ((l_1++(sbl sep_)).length+(gt (elems_.drop (1:Int).toNat) t_3).size)*1≤140737488355328 then
 strings_Join_l1 elems_ sep_ k ((l_1++(sbl sep_))++(sbl (gt (elems_.drop (1:Int).toNat) t_3))) (IntKind.wrap .i64 (t_3+1))
 else none
 else none
 else none
 else
 some l_1
def strings_Join_j0 (elems_:(List ByteArray)) (sep_:ByteArray) (n_:Int):Option (ByteArray) :=
 (strings_Join_l0 elems_ BIG n_ (0)).bind fun n_3 =>
 if 0≤(n_3:Int)∧n_3≤70368744177664 then
 if 0≤(0:Int)∧0 < ln elems_ then
 if (([]:List Int).length+(gt elems_ (0)).size)*1≤140737488355328 then
 if 0≤(1:Int)∧1≤(ln elems_) then
 (strings_Join_l1 elems_ sep_ BIG (([]:List Int)++(sbl (gt elems_ (0)))) (0)).bind fun l_2 =>
 if bytesB l_2=true then
 some (bs l_2)
 else none
 else none
 else none
 else none
 else none
def strings_Join (elems_:(List ByteArray)) (sep_:ByteArray):Option (ByteArray) :=
 if ((ln elems_) == 0)=true then
 some (⟨#[]⟩:ByteArray)
 else
 if ((ln elems_) == 1)=true then
 if 0≤(0:Int)∧0 < ln elems_ then
 some (gt elems_ (0))
 else none
 else
 if (decide (0 < (sln sep_)))=true then
 if (IntKind.wrap .i64 ((ln elems_) - 1)) ≠ 0 then
 if (decide ((IntKind.wrap .i64 (Int.tdiv 9223372036854775807 (IntKind.wrap .i64 ((ln elems_) - 1))))≤(sln sep_)))=true then
 none
 else
 strings_Join_j0 elems_ sep_ (IntKind.wrap .i64 (0+(IntKind.wrap .i64 ((sln sep_)*(IntKind.wrap .i64 ((ln elems_) - 1))))))
 else none
 else
 strings_Join_j0 elems_ sep_ (0)
def dis_bytes_l0 (l_:(List Int)):Nat→(List ByteArray)→Int→Option (List ByteArray)
 | 0,_,_=>none
 | k+1,l_2,t_1 =>
 if (decide (t_1 < (ln l_)))=true then
 if 0≤(t_1:Int)∧t_1 < ln l_ then
 (dis_Byte (gt l_ t_1)).bind fun r_2 =>
 if (l_2.length+[r_2].length)*16≤140737488355328 then
 dis_bytes_l0 l_ k (l_2++[r_2]) (IntKind.wrap .i64 (t_1+1))
 else none
 else none
 else
 some l_2
def dis_bytes (l_:(List Int)):Option (ByteArray) :=
 (dis_bytes_l0 l_ BIG ([]:List ByteArray) (0)).bind fun l_3 =>
 (strings_Join l_3 (⟨#[44]⟩:ByteArray)).bind fun r_3 =>
 if (((⟨#[70,67,66,32]⟩:ByteArray).size+r_3.size:Nat):Int)≤9223372036854775807 then
 some ((⟨#[70,67,66,32]⟩:ByteArray)++r_3)
 else none
def ops_stem (op_:Int):Option (ByteArray) :=
 if ((decide (op_ < 0))||(decide (52≤op_)))=true then
 some (⟨#[]⟩:ByteArray)
 else
 if 0≤(op_:Int)∧op_ < (52:Int) then
 some (gt [(⟨#[]⟩:ByteArray),(⟨#[65,66,88]⟩:ByteArray),(⟨#[65,68,67]⟩:ByteArray),(⟨#[65,68,68]⟩:ByteArray),(⟨#[65,78,68]⟩:ByteArray),(⟨#[66,73,84]⟩:ByteArray),(⟨#[67,77,80]⟩:ByteArray),(⟨#[69,79,82]⟩:ByteArray),(⟨#[79,82]⟩:ByteArray),(⟨#[83,66,67]⟩:ByteArray),(⟨#[83,85,66]⟩:ByteArray),(⟨#[76,68]⟩:ByteArray),(⟨#[83,84]⟩:ByteArray),(⟨#[78,69,71]⟩:ByteArray),(⟨#[67,79,77]⟩:ByteArray),(⟨#[76,83,82]⟩:ByteArray),(⟨#[82,79,82]⟩:ByteArray),(⟨#[65,83,82]⟩:ByteArray),(⟨#[65,83,76]⟩:ByteArray),(⟨#[82,79,76]⟩:ByteArray),(⟨#[68,69,67]⟩:ByteArray),(⟨#[73,78,67]⟩:ByteArray),(⟨#[84,83,84]⟩:ByteArray),(⟨#[67,76,82]⟩:ByteArray),(⟨#[76,68]⟩:ByteArray),(⟨#[83,84]⟩:ByteArray),(⟨#[65,68,68]⟩:ByteArray),(⟨#[83,85,66]⟩:ByteArray),(⟨#[67,77,80]⟩:ByteArray),(⟨#[76,69,65]⟩:ByteArray),(⟨#[80,83,72]⟩:ByteArray),(⟨#[80,85,76]⟩:ByteArray),(⟨#[74,77,80]⟩:ByteArray),(⟨#[74,83,82]⟩:ByteArray),(⟨#[66]⟩:ByteArray),(⟨#[76,66]⟩:ByteArray),(⟨#[76,66,82,65]⟩:ByteArray),(⟨#[66,83,82]⟩:ByteArray),(⟨#[76,66,83,82]⟩:ByteArray),(⟨#[78,79,80]⟩:ByteArray),(⟨#[83,89,78,67]⟩:ByteArray),(⟨#[67,87,65,73]⟩:ByteArray),(⟨#[68,65,65]⟩:ByteArray),(⟨#[79,82,67,67]⟩:ByteArray),(⟨#[65,78,68,67,67]⟩:ByteArray),(⟨#[83,69,88]⟩:ByteArray),(⟨#[69,88,71]⟩:ByteArray),(⟨#[84,70,82]⟩:ByteArray),(⟨#[82,84,83]⟩:ByteArray),(⟨#[82,84,73]⟩:ByteArray),(⟨#[77,85,76]⟩:ByteArray),(⟨#[83,87,73]⟩:ByteArray)] op_)
 else none
def cond_Name (n_:Int):Option (ByteArray) :=
 if ((decide (n_ < 0))||(decide (15 < n_)))=true then
 some (⟨#[]⟩:ByteArray)
 else
 if 0≤((IntKind.wrap .i64 (2*n_)):Int)∧(IntKind.wrap .i64 (2*n_))≤((IntKind.wrap .i64 ((IntKind.wrap .i64 (2*n_))+2)):Int)∧(IntKind.wrap .i64 ((IntKind.wrap .i64 (2*n_))+2))≤(sln (⟨#[82,65,82,78,72,73,76,83,67,67,67,83,78,69,69,81,86,67,86,83,80,76,77,73,71,69,76,84,71,84,76,69]⟩:ByteArray)) then
 some ((⟨#[82,65,82,78,72,73,76,83,67,67,67,83,78,69,69,81,86,67,86,83,80,76,77,73,71,69,76,84,71,84,76,69]⟩:ByteArray).extract ((IntKind.wrap .i64 (2*n_)):Int).toNat ((IntKind.wrap .i64 ((IntKind.wrap .i64 (2*n_))+2)):Int).toNat)
 else none
def ops_Group_j0 (op_:Int) (t_1:Bool):Option (Int) :=
 if t_1=true then
 some (7)
 else
 if (op_ == 29)=true then
 some (8)
 else
 if (op_ == 32)=true then
 some (9)
 else
 if (op_ == 33)=true then
 some (10)
 else
 if ((decide (13≤op_))&&(decide (op_≤23)))=true then
 some (3)
 else
 some (0)
def ops_Group_j1 (op_:Int) (t_:Bool):Option (Int) :=
 if t_=true then
 some (1)
 else
 if (op_ == 12)=true then
 some (2)
 else
 if (op_ == 22)=true then
 some (4)
 else
 if (op_ == 24)=true then
 some (5)
 else
 if (op_ == 25)=true then
 some (6)
 else
 if (op_ == 26)=true then
 ops_Group_j0 op_ (op_ == 26)
 else
 if (op_ == 27)=true then
 ops_Group_j0 op_ (op_ == 27)
 else
 ops_Group_j0 op_ (op_ == 28)
def ops_Group (op_:Int):Option (Int) :=
 if (op_ == 2)=true then
 ops_Group_j1 op_ (op_ == 2)
 else
 if (op_ == 3)=true then
 ops_Group_j1 op_ (op_ == 3)
 else
 if (op_ == 4)=true then
 ops_Group_j1 op_ (op_ == 4)
 else
 if (op_ == 5)=true then
 ops_Group_j1 op_ (op_ == 5)
 else
 if (op_ == 6)=true then
 ops_Group_j1 op_ (op_ == 6)
 else
 if (op_ == 7)=true then
 ops_Group_j1 op_ (op_ == 7)
 else
 if (op_ == 8)=true then
 ops_Group_j1 op_ (op_ == 8)
 else
 if (op_ == 9)=true then
 ops_Group_j1 op_ (op_ == 9)
 else
 if (op_ == 10)=true then
 ops_Group_j1 op_ (op_ == 10)
 else
 ops_Group_j1 op_ (op_ == 11)
def ops_own_j0 (op_:Int) (reg_:Int) (r_:(Int)) (t_2:Bool):Option (Bool) :=
 if t_2=true then
 some ((decide (0≤reg_))&&(decide (reg_≤4)))
 else
 if (r_ == 7)=true then
 some ((reg_ == 0)||(((op_ == 28)&&(decide (0 < reg_)))&&(decide (reg_≤4))))
 else
 if (r_ == 8)=true then
 some ((decide (1≤reg_))&&(decide (reg_≤4)))
 else
 some (((op_ == 30)||(op_ == 31))&&((reg_ == 3)||(reg_ == 4)))
def ops_own_j1 (op_:Int) (reg_:Int) (r_:(Int)) (t_1:Bool):Option (Bool) :=
 if t_1=true then
 some ((reg_ == 8)||(reg_ == 9))
 else
 if (r_ == 5)=true then
 ops_own_j0 op_ reg_ r_ (r_ == 5)
 else
 ops_own_j0 op_ reg_ r_ (r_ == 6)
def ops_own_j2 (op_:Int) (reg_:Int) (r_:(Int)) (t_:Bool):Option (Bool) :=
 if t_=true then
 some ((reg_ == 8)||(reg_ == 9))
 else
 if (r_ == 3)=true then
 ops_own_j1 op_ reg_ r_ (r_ == 3)
 else
 ops_own_j1 op_ reg_ r_ (r_ == 4)
def ops_own (op_:Int) (reg_:Int):Option (Bool) :=
 (ops_Group op_).bind fun r_ =>
 if (r_ == 1)=true then
 ops_own_j2 op_ reg_ r_ (r_ == 1)
 else
 ops_own_j2 op_ reg_ r_ (r_ == 2)
def ops_Reg (code_:Int):Option (ByteArray) :=
 if (code_ == 0)=true then
 some (⟨#[68]⟩:ByteArray)
 else
 if (code_ == 1)=true then
 some (⟨#[88]⟩:ByteArray)
 else
 if (code_ == 2)=true then
 some (⟨#[89]⟩:ByteArray)
 else
 if (code_ == 3)=true then
 some (⟨#[85]⟩:ByteArray)
 else
 if (code_ == 4)=true then
 some (⟨#[83]⟩:ByteArray)
 else
 if (code_ == 5)=true then
 some (⟨#[80,67]⟩:ByteArray)
 else
 if (code_ == 8)=true then
 some (⟨#[65]⟩:ByteArray)
 else
 if (code_ == 9)=true then
 some (⟨#[66]⟩:ByteArray)
 else
 if (code_ == 10)=true then
 some (⟨#[67,67]⟩:ByteArray)
 else
 if (code_ == 11)=true then
 some (⟨#[68,80]⟩:ByteArray)
 else
 some (⟨#[]⟩:ByteArray)
def ops_plain_j0 (op_:Int) (r_:(Int)) (t_:Bool):Option (Bool) :=
 if t_=true then
 some true
 else
 if (r_ == 0)=true then
 some ((((((decide (0 < op_))&&(decide (op_≤50)))&&(op_ != 30))&&(op_ != 31))&&(op_ != 34))&&(op_ != 35))
 else
 some false
def ops_plain (op_:Int):Option (Bool) :=
 (ops_Group op_).bind fun r_ =>
 if (r_ == 3)=true then
 ops_plain_j0 op_ r_ (r_ == 3)
 else
 if (r_ == 4)=true then
 ops_plain_j0 op_ r_ (r_ == 4)
 else
 if (r_ == 9)=true then
 ops_plain_j0 op_ r_ (r_ == 9)
 else
 ops_plain_j0 op_ r_ (r_ == 10)
def ops_Name_j0 (op_:Int) (reg_:Int) (t_:Bool):Option (ByteArray) :=
 if t_=true then
 (ops_stem op_).bind fun r_ =>
 (cond_Name reg_).bind fun r_1 =>
 if ((r_.size+r_1.size:Nat):Int)≤9223372036854775807 then
 some (r_++r_1)
 else none
 else
 if ((op_ == 51)&&(reg_ == 1))=true then
 some (⟨#[83,87,73]⟩:ByteArray)
 else
 if ((op_ == 51)&&((reg_ == 2)||(reg_ == 3)))=true then
 if 0≤((IntKind.wrap .i64 (reg_ - 1)):Int)∧(IntKind.wrap .i64 (reg_ - 1))≤(reg_:Int)∧reg_≤(sln (⟨#[49,50,51]⟩:ByteArray)) then
 if (((⟨#[83,87,73]⟩:ByteArray).size+((⟨#[49,50,51]⟩:ByteArray).extract ((IntKind.wrap .i64 (reg_ - 1)):Int).toNat (reg_:Int).toNat).size:Nat):Int)≤9223372036854775807 then
 some ((⟨#[83,87,73]⟩:ByteArray)++((⟨#[49,50,51]⟩:ByteArray).extract ((IntKind.wrap .i64 (reg_ - 1)):Int).toNat (reg_:Int).toNat))
 else none
 else none
 else
 (ops_own op_ reg_).bind fun r_2 =>
 if r_2=true then
 (ops_stem op_).bind fun r_3 =>
 (ops_Reg reg_).bind fun r_4 =>
 if ((r_3.size+r_4.size:Nat):Int)≤9223372036854775807 then
 some (r_3++r_4)
 else none
 else
 ((if (reg_ == 0)=true then ops_plain op_ else some default)).bind fun r_5 =>
 if ((reg_ == 0)&&r_5)=true then
 (ops_stem op_).bind fun r_6 =>
 some r_6
 else
 some (⟨#[]⟩:ByteArray)
def ops_Name (op_:Int) (reg_:Int):Option (ByteArray) :=
 if (((op_ == 34)&&(decide (0≤reg_)))&&(decide (reg_ < 16)))=true then
 ops_Name_j0 op_ reg_ (((op_ == 34)&&(decide (0≤reg_)))&&(decide (reg_ < 16)))
 else
 ops_Name_j0 op_ reg_ (((op_ == 35)&&(decide (0 < reg_)))&&(decide (reg_ < 16)))
def dis_Word (w_:Int):Option (ByteArray) :=
 (digit_Hex (IntKind.wrap .u64 w_) (4)).bind fun r_ =>
 if (((⟨#[36]⟩:ByteArray).size+r_.size:Nat):Int)≤9223372036854775807 then
 some ((⟨#[36]⟩:ByteArray)++r_)
 else none
def inst_Next (i_:api_Inst) (at_:Int):Option (Int) :=
 some (IntKind.wrap .u16 (at_+(IntKind.wrap .u16 i_.Len)))
def inst_Target (i_:api_Inst) (at_:Int):Option (Int × Bool) :=
 if ((i_.Entry.Mode != 6)&&(i_.Entry.Mode != 7))=true then
 some (0,false)
 else
 (inst_Next i_ at_).bind fun r_ =>
 some ((IntKind.wrap .u16 (r_+i_.Value)),true)
def digit_Dec_l0:Nat→(List Int)→Int→Int→Option ((List Int) × Int)
 | 0,_,_,_=>none
 | k+1,l_1,t_1,i_1 =>
 if ((decide (0 < t_1))||(i_1 == 20))=true then
 (digit_sign (IntKind.wrap .u8 (Int.tmod t_1 10))).bind fun r_2 =>
 if 0≤((IntKind.wrap .i64 (i_1 - 1)):Int)∧(IntKind.wrap .i64 (i_1 - 1)) < (20:Int) then
 digit_Dec_l0 k (st l_1 (IntKind.wrap .i64 (i_1 - 1)) r_2) (IntKind.wrap .u64 (Int.tdiv t_1 10)) (IntKind.wrap .i64 (i_1 - 1))
 else none
 else
 some (l_1,i_1)
def digit_Dec (n_:Int):Option (ByteArray) :=
 (digit_Dec_l0 BIG [0,0,0,0,0,0,0,0,0,0,0,0,0,0,0,0,0,0,0,0] n_ (20)).bind fun (l_2,i_2) =>
 if 0≤(i_2:Int)∧i_2≤(20:Int) then
 some (bs ((l_2.drop (i_2:Int).toNat).take (20 - (i_2:Int).toNat)))
 else none
def dis_Reg (code_:Int):Option (ByteArray) :=
 (ops_Reg code_).bind fun r_ =>
 if (!(r_.toList == (⟨#[]⟩:ByteArray).toList))=true then
 some r_
 else
 (digit_Dec (IntKind.wrap .u64 code_)).bind fun r_1 =>
 if (((⟨#[82]⟩:ByteArray).size+r_1.size:Nat):Int)≤9223372036854775807 then
 some ((⟨#[82]⟩:ByteArray)++r_1)
 else none
def lists_regs (stack_:Int):Option (A8_i64) :=
 if (stack_ == 3)=true then
 some (A8_i64.mk (10) (8) (9) (11) (1) (2) (4) (5))
 else
 some (A8_i64.mk (10) (8) (9) (11) (1) (2) (3) (5))
def lists_Text_l0 (post_:Int) (r_:(A8_i64)):Nat→(List ByteArray)→Int→Option (List ByteArray)
 | 0,_,_=>none
 | k+1,l_1,t_1 =>
 if (decide (t_1 < 8))=true then
 if 0≤(t_1:Int)∧t_1 < (8:Int) then
 if 0≤t_1 then
 if ((bits .and .u8 (Int.fdiv post_ (2 ^ (min (t_1:Int).toNat (IntKind.bits .u8)))) 1) == 1)=true then
 (ops_Reg (gt [r_.a0,r_.a1,r_.a2,r_.a3,r_.a4,r_.a5,r_.a6,r_.a7] t_1)).bind fun r_3 =>
 if (l_1.length+[r_3].length)*16≤140737488355328 then
 lists_Text_l0 post_ r_ k (l_1++[r_3]) (IntKind.wrap .i64 (t_1+1))
 else none
 else
 lists_Text_l0 post_ r_ k l_1 (IntKind.wrap .i64 (t_1+1))
 else none
 else none
 else
 some l_1
def lists_Text (post_:Int) (stack_:Int):Option (ByteArray) :=
 (lists_regs stack_).bind fun r_ =>
 (lists_Text_l0 post_ r_ BIG ([]:List ByteArray) (0)).bind fun l_2 =>
 (strings_Join l_2 (⟨#[44]⟩:ByteArray)).bind fun r_4 =>
 some r_4
def dis_signed (w_:Int):Option (ByteArray) :=
 if (decide (32767 < w_))=true then
 (digit_Dec (IntKind.wrap .u64 (IntKind.wrap .u16 (0 - w_)))).bind fun r_ =>
 if (((⟨#[45]⟩:ByteArray).size+r_.size:Nat):Int)≤9223372036854775807 then
 some ((⟨#[45]⟩:ByteArray)++r_)
 else none
 else
 (digit_Dec (IntKind.wrap .u64 w_)).bind fun r_1 =>
 some r_1
def dis_indexed_j0 (p_:post_Post) (value_:Int) (r_:(ByteArray)) (t_1:Bool):Option (ByteArray) :=
 if t_1=true then
 (dis_Word value_).bind fun r_3 =>
 if (((⟨#[62]⟩:ByteArray).size+r_3.size:Nat):Int)≤9223372036854775807 then
 if ((((⟨#[62]⟩:ByteArray)++r_3).size+(⟨#[44]⟩:ByteArray).size:Nat):Int)≤9223372036854775807 then
 if (((((⟨#[62]⟩:ByteArray)++r_3)++(⟨#[44]⟩:ByteArray)).size+r_.size:Nat):Int)≤9223372036854775807 then
 some ((((⟨#[62]⟩:ByteArray)++r_3)++(⟨#[44]⟩:ByteArray))++r_)
 else none
 else none
 else none
 else
 if (p_.Kind == 4)=true then
 if (((⟨#[65,44]⟩:ByteArray).size+r_.size:Nat):Int)≤9223372036854775807 then
 some ((⟨#[65,44]⟩:ByteArray)++r_)
 else none
 else
 if (p_.Kind == 5)=true then
 if (((⟨#[66,44]⟩:ByteArray).size+r_.size:Nat):Int)≤9223372036854775807 then
 some ((⟨#[66,44]⟩:ByteArray)++r_)
 else none
 else
 if (p_.Kind == 6)=true then
 if (((⟨#[68,44]⟩:ByteArray).size+r_.size:Nat):Int)≤9223372036854775807 then
 some ((⟨#[68,44]⟩:ByteArray)++r_)
 else none
 else
 if (p_.Kind == 7)=true then
 if (((⟨#[44]⟩:ByteArray).size+r_.size:Nat):Int)≤9223372036854775807 then
 if ((((⟨#[44]⟩:ByteArray)++r_).size+(⟨#[43]⟩:ByteArray).size:Nat):Int)≤9223372036854775807 then
 some (((⟨#[44]⟩:ByteArray)++r_)++(⟨#[43]⟩:ByteArray))
 else none
 else none
 else
 if (p_.Kind == 8)=true then
 if (((⟨#[44]⟩:ByteArray).size+r_.size:Nat):Int)≤9223372036854775807 then
 if ((((⟨#[44]⟩:ByteArray)++r_).size+(⟨#[43,43]⟩:ByteArray).size:Nat):Int)≤9223372036854775807 then
 some (((⟨#[44]⟩:ByteArray)++r_)++(⟨#[43,43]⟩:ByteArray))
 else none
 else none
 else
 if (p_.Kind == 9)=true then
 if (((⟨#[44,45]⟩:ByteArray).size+r_.size:Nat):Int)≤9223372036854775807 then
 some ((⟨#[44,45]⟩:ByteArray)++r_)
 else none
 else
 if (p_.Kind == 10)=true then
 if (((⟨#[44,45,45]⟩:ByteArray).size+r_.size:Nat):Int)≤9223372036854775807 then
 some ((⟨#[44,45,45]⟩:ByteArray)++r_)
 else none
 else
 if (p_.Kind == 13)=true then
 (dis_Word value_).bind fun r_4 =>
 some r_4
 else
 if (((⟨#[44]⟩:ByteArray).size+r_.size:Nat):Int)≤9223372036854775807 then
 some ((⟨#[44]⟩:ByteArray)++r_)
 else none
def dis_indexed_j1 (p_:post_Post) (value_:Int) (r_:(ByteArray)) (t_:Bool):Option (ByteArray) :=
 if t_=true then
 (dis_signed value_).bind fun r_2 =>
 if (((⟨#[60]⟩:ByteArray).size+r_2.size:Nat):Int)≤9223372036854775807 then
 if ((((⟨#[60]⟩:ByteArray)++r_2).size+(⟨#[44]⟩:ByteArray).size:Nat):Int)≤9223372036854775807 then
 if (((((⟨#[60]⟩:ByteArray)++r_2)++(⟨#[44]⟩:ByteArray)).size+r_.size:Nat):Int)≤9223372036854775807 then
 some ((((⟨#[60]⟩:ByteArray)++r_2)++(⟨#[44]⟩:ByteArray))++r_)
 else none
 else none
 else none
 else
 if (p_.Kind == 3)=true then
 dis_indexed_j0 p_ value_ r_ (p_.Kind == 3)
 else
 dis_indexed_j0 p_ value_ r_ (p_.Kind == 12)
def dis_indexed (p_:post_Post) (value_:Int):Option (ByteArray) :=
 (ops_Reg p_.Reg).bind fun r_ =>
 if (p_.Kind == 1)=true then
 (dis_signed p_.Off).bind fun r_1 =>
 if ((r_1.size+(⟨#[44]⟩:ByteArray).size:Nat):Int)≤9223372036854775807 then
 if (((r_1++(⟨#[44]⟩:ByteArray)).size+r_.size:Nat):Int)≤9223372036854775807 then
 some ((r_1++(⟨#[44]⟩:ByteArray))++r_)
 else none
 else none
 else
 if (p_.Kind == 2)=true then
 dis_indexed_j1 p_ value_ r_ (p_.Kind == 2)
 else
 dis_indexed_j1 p_ value_ r_ (p_.Kind == 11)
def dis_operand_j0 (i_:api_Inst) (at_:Int) (t_:Bool):Option (ByteArray) :=
 if t_=true then
 (inst_Target i_ at_).bind fun r_6 =>
 (dis_Word r_6.1).bind fun r_7 =>
 some r_7
 else
 if (i_.Entry.Mode == 8)=true then
 (dis_Reg (IntKind.wrap .i64 (Int.fdiv i_.Post (2 ^ (4))))).bind fun r_8 =>
 if ((r_8.size+(⟨#[44]⟩:ByteArray).size:Nat):Int)≤9223372036854775807 then
 (dis_Reg (IntKind.wrap .i64 (bits .and .u8 i_.Post 15))).bind fun r_9 =>
 if (((r_8++(⟨#[44]⟩:ByteArray)).size+r_9.size:Nat):Int)≤9223372036854775807 then
 some ((r_8++(⟨#[44]⟩:ByteArray))++r_9)
 else none
 else none
 else
 if (i_.Entry.Mode == 9)=true then
 (lists_Text i_.Post i_.Entry.Reg).bind fun r_10 =>
 some r_10
 else
 if (i_.Entry.Mode == 4)=true then
 (post_Of i_.Post).bind fun r_11 =>
 (dis_indexed r_11 i_.Value).bind fun r_12 =>
 if (!r_11.Indirect)=true then
 some r_12
 else
 (dis_indexed r_11 i_.Value).bind fun r_13 =>
 if (((⟨#[91]⟩:ByteArray).size+r_13.size:Nat):Int)≤9223372036854775807 then
 if ((((⟨#[91]⟩:ByteArray)++r_13).size+(⟨#[93]⟩:ByteArray).size:Nat):Int)≤9223372036854775807 then
 some (((⟨#[91]⟩:ByteArray)++r_13)++(⟨#[93]⟩:ByteArray))
 else none
 else none
 else
 some (⟨#[]⟩:ByteArray)
def dis_operand (i_:api_Inst) (at_:Int):Option (ByteArray) :=
 if (i_.Entry.Mode == 1)=true then
 (octet_Low i_.Value).bind fun r_ =>
 (dis_Byte r_).bind fun r_1 =>
 if (((⟨#[35]⟩:ByteArray).size+r_1.size:Nat):Int)≤9223372036854775807 then
 some ((⟨#[35]⟩:ByteArray)++r_1)
 else none
 else
 if (i_.Entry.Mode == 2)=true then
 (dis_Word i_.Value).bind fun r_2 =>
 if (((⟨#[35]⟩:ByteArray).size+r_2.size:Nat):Int)≤9223372036854775807 then
 some ((⟨#[35]⟩:ByteArray)++r_2)
 else none
 else
 if (i_.Entry.Mode == 3)=true then
 (octet_Low i_.Value).bind fun r_3 =>
 (dis_Byte r_3).bind fun r_4 =>
 if (((⟨#[60]⟩:ByteArray).size+r_4.size:Nat):Int)≤9223372036854775807 then
 some ((⟨#[60]⟩:ByteArray)++r_4)
 else none
 else
 if (i_.Entry.Mode == 5)=true then
 (dis_Word i_.Value).bind fun r_5 =>
 if (((⟨#[62]⟩:ByteArray).size+r_5.size:Nat):Int)≤9223372036854775807 then
 some ((⟨#[62]⟩:ByteArray)++r_5)
 else none
 else
 if (i_.Entry.Mode == 6)=true then
 dis_operand_j0 i_ at_ (i_.Entry.Mode == 6)
 else
 dis_operand_j0 i_ at_ (i_.Entry.Mode == 7)
def dis_Text (i_:api_Inst) (at_:Int):Option (ByteArray) :=
 (dis_Sure i_).bind fun r_ =>
 if (!r_)=true then
 (inst_Put i_).bind fun r_1 =>
 (dis_bytes r_1.1).bind fun r_2 =>
 some r_2
 else
 (ops_Name i_.Entry.Op i_.Entry.Reg).bind fun r_3 =>
 (dis_operand i_ at_).bind fun r_4 =>
 if (!(r_4.toList == (⟨#[]⟩:ByteArray).toList))=true then
 if ((r_3.size+(⟨#[32]⟩:ByteArray).size:Nat):Int)≤9223372036854775807 then
 if (((r_3++(⟨#[32]⟩:ByteArray)).size+r_4.size:Nat):Int)≤9223372036854775807 then
 some ((r_3++(⟨#[32]⟩:ByteArray))++r_4)
 else none
 else none
 else
 some r_3
def dis_Line (at_:Int) (m_:RamT):Option (ByteArray × Int) :=
 (fast_Decode at_ m_).bind fun r_ =>
 (inst_Put r_).bind fun r_1 =>
 (digit_Pairs r_1.1).bind fun r_2 =>
 (digit_Hex (IntKind.wrap .u64 at_) (4)).bind fun r_3 =>
 if ((r_3.size+(⟨#[32]⟩:ByteArray).size:Nat):Int)≤9223372036854775807 then
 if (((r_3++(⟨#[32]⟩:ByteArray)).size+r_2.size:Nat):Int)≤9223372036854775807 then
 (strings_Repeat (⟨#[32]⟩:ByteArray) (IntKind.wrap .i64 (11 - (sln r_2)))).bind fun r_4 =>
 if ((((r_3++(⟨#[32]⟩:ByteArray))++r_2).size+r_4.size:Nat):Int)≤9223372036854775807 then
 (dis_Text r_ at_).bind fun r_5 =>
 if (((((r_3++(⟨#[32]⟩:ByteArray))++r_2)++r_4).size+r_5.size:Nat):Int)≤9223372036854775807 then
 (inst_Next r_ at_).bind fun r_6 =>
 some (((((r_3++(⟨#[32]⟩:ByteArray))++r_2)++r_4)++r_5),r_6)
 else none
 else none
 else none
 else none
def dis_Lines_l0 (many_:Int) (m_:RamT):Nat→(List ByteArray)→Int→Int→Option (List ByteArray)
 | 0,_,_,_=>none
 | k+1,l_1,t_2,t_3 =>
 if (decide (t_3 < many_))=true then
 (dis_Line t_2 m_).bind fun r_2 =>
 if (l_1.length+[r_2.1].length)*16≤140737488355328 then
 dis_Lines_l0 many_ m_ k (l_1++[r_2.1]) r_2.2 (IntKind.wrap .i64 (t_3+1))
 else none
 else
 some l_1
def dis_Lines (at_:Int) (many_:Int) (m_:RamT):Option ((List ByteArray)) :=
 (dis_Lines_l0 many_ m_ BIG ([]:List ByteArray) at_ (0)).bind fun l_2 =>
 some l_2
def spinetref14_columns_j0 (rec:(List A5_i64)→Int→Option (List A5_i64)) (l_2:(List A5_i64)) (i_2:Int) (imm_3:Int):Option (List A5_i64) :=
 if 0≤(i_2:Int)∧i_2 < (11:Int) then
 if 0≤(i_2:Int)∧i_2 < (11:Int) then
 if 0≤(i_2:Int)∧i_2 < (11:Int) then
 if 0≤(i_2:Int)∧i_2 < (11:Int) then
 if (l_2.length+[(A5_i64.mk ((gt [(A2_i64.mk (10) (128)),(A2_i64.mk (6) (129)),(A2_i64.mk (9) (130)),(A2_i64.mk (4) (132)),(A2_i64.mk (5) (133)),(A2_i64.mk (11) (134)),(A2_i64.mk (12) (135)),(A2_i64.mk (7) (136)),(A2_i64.mk (2) (137)),(A2_i64.mk (8) (138)),(A2_i64.mk (3) (139))] i_2).a0) (8) (1) ((gt [(A2_i64.mk (10) (128)),(A2_i64.mk (6) (129)),(A2_i64.mk (9) (130)),(A2_i64.mk (4) (132)),(A2_i64.mk (5) (133)),(A2_i64.mk (11) (134)),(A2_i64.mk (12) (135)),(A2_i64.mk (7) (136)),(A2_i64.mk (2) (137)),(A2_i64.mk (8) (138)),(A2_i64.mk (3) (139))] i_2).a1) imm_3),(A5_i64.mk ((gt [(A2_i64.mk (10) (128)),(A2_i64.mk (6) (129)),(A2_i64.mk (9) (130)),(A2_i64.mk (4) (132)),(A2_i64.mk (5) (133)),(A2_i64.mk (11) (134)),(A2_i64.mk (12) (135)),(A2_i64.mk (7) (136)),(A2_i64.mk (2) (137)),(A2_i64.mk (8) (138)),(A2_i64.mk (3) (139))] i_2).a0) (9) (1) (IntKind.wrap .i64 ((gt [(A2_i64.mk (10) (128)),(A2_i64.mk (6) (129)),(A2_i64.mk (9) (130)),(A2_i64.mk (4) (132)),(A2_i64.mk (5) (133)),(A2_i64.mk (11) (134)),(A2_i64.mk (12) (135)),(A2_i64.mk (7) (136)),(A2_i64.mk (2) (137)),(A2_i64.mk (8) (138)),(A2_i64.mk (3) (139))] i_2).a1+64)) imm_3)].length)*40≤140737488355328 then
 rec (l_2++[(A5_i64.mk ((gt [(A2_i64.mk (10) (128)),(A2_i64.mk (6) (129)),(A2_i64.mk (9) (130)),(A2_i64.mk (4) (132)),(A2_i64.mk (5) (133)),(A2_i64.mk (11) (134)),(A2_i64.mk (12) (135)),(A2_i64.mk (7) (136)),(A2_i64.mk (2) (137)),(A2_i64.mk (8) (138)),(A2_i64.mk (3) (139))] i_2).a0) (8) (1) ((gt [(A2_i64.mk (10) (128)),(A2_i64.mk (6) (129)),(A2_i64.mk (9) (130)),(A2_i64.mk (4) (132)),(A2_i64.mk (5) (133)),(A2_i64.mk (11) (134)),(A2_i64.mk (12) (135)),(A2_i64.mk (7) (136)),(A2_i64.mk (2) (137)),(A2_i64.mk (8) (138)),(A2_i64.mk (3) (139))] i_2).a1) imm_3),(A5_i64.mk ((gt [(A2_i64.mk (10) (128)),(A2_i64.mk (6) (129)),(A2_i64.mk (9) (130)),(A2_i64.mk (4) (132)),(A2_i64.mk (5) (133)),(A2_i64.mk (11) (134)),(A2_i64.mk (12) (135)),(A2_i64.mk (7) (136)),(A2_i64.mk (2) (137)),(A2_i64.mk (8) (138)),(A2_i64.mk (3) (139))] i_2).a0) (9) (1) (IntKind.wrap .i64 ((gt [(A2_i64.mk (10) (128)),(A2_i64.mk (6) (129)),(A2_i64.mk (9) (130)),(A2_i64.mk (4) (132)),(A2_i64.mk (5) (133)),(A2_i64.mk (11) (134)),(A2_i64.mk (12) (135)),(A2_i64.mk (7) (136)),(A2_i64.mk (2) (137)),(A2_i64.mk (8) (138)),(A2_i64.mk (3) (139))] i_2).a1+64)) imm_3)]) (IntKind.wrap .i64 (i_2+1))
 else none
 else none
 else none
 else none
 else none
def spinetref14_columns_l0:Nat→(List A5_i64)→Int→Option (List A5_i64)
 | 0,_,_=>none
 | k+1,l_2,i_2 =>
 if (decide (i_2 < 11))=true then
 if 0≤(i_2:Int)∧i_2 < (11:Int) then
 if ((gt [(A2_i64.mk (10) (128)),(A2_i64.mk (6) (129)),(A2_i64.mk (9) (130)),(A2_i64.mk (4) (132)),(A2_i64.mk (5) (133)),(A2_i64.mk (11) (134)),(A2_i64.mk (12) (135)),(A2_i64.mk (7) (136)),(A2_i64.mk (2) (137)),(A2_i64.mk (8) (138)),(A2_i64.mk (3) (139))] i_2).a0 == 12)=true then
 spinetref14_columns_j0 (spinetref14_columns_l0 k) l_2 i_2 (0)
 else
 spinetref14_columns_j0 (spinetref14_columns_l0 k) l_2 i_2 (1)
 else none
 else
 some l_2
def spinetref14_columns:Option ((List A5_i64)) :=
 (spinetref14_columns_l0 BIG [(A5_i64.mk (27) (0) (1) (131) (2)),(A5_i64.mk (28) (1) (1) (140) (2)),(A5_i64.mk (24) (1) (1) (142) (2)),(A5_i64.mk (25) (1) (1) (143) (0)),(A5_i64.mk (26) (0) (1) (195) (2)),(A5_i64.mk (24) (0) (1) (204) (2)),(A5_i64.mk (25) (0) (1) (205) (0)),(A5_i64.mk (24) (3) (1) (206) (2)),(A5_i64.mk (25) (3) (1) (207) (0)),(A5_i64.mk (33) (0) (1) (141) (0)),(A5_i64.mk (28) (0) (2) (131) (2)),(A5_i64.mk (28) (2) (2) (140) (2)),(A5_i64.mk (24) (2) (2) (142) (2)),(A5_i64.mk (25) (2) (2) (143) (0)),(A5_i64.mk (24) (4) (2) (206) (2)),(A5_i64.mk (25) (4) (2) (207) (0)),(A5_i64.mk (28) (3) (3) (131) (2)),(A5_i64.mk (28) (4) (3) (140) (2))] (0)).bind fun l_3 =>
 some l_3
def spinetref14_add (l_:(List spinetref14_Known)) (page_:Int) (code_:Int) (op_:Int) (mode_:Int) (reg_:Int):Option ((List spinetref14_Known)) :=
 if (l_.length+[(spinetref14_Known.mk page_ code_ (api_Entry.mk op_ mode_ reg_))].length)*40≤140737488355328 then
 some (l_++[(spinetref14_Known.mk page_ code_ (api_Entry.mk op_ mode_ reg_))])
 else none
def spinetref14_All_j0 (rec:(List spinetref14_Known)→Int→Option (List spinetref14_Known)) (r_:((List A5_i64))) (i_1:Int) (l_5:(List spinetref14_Known)):Option (List spinetref14_Known) :=
 (spinetref14_add l_5 ((gt r_ i_1).a2) (IntKind.wrap .i64 ((gt r_ i_1).a3+16)) ((gt r_ i_1).a0) (3) ((gt r_ i_1).a1)).bind fun r_10 =>
 (spinetref14_add r_10 ((gt r_ i_1).a2) (IntKind.wrap .i64 ((gt r_ i_1).a3+32)) ((gt r_ i_1).a0) (4) ((gt r_ i_1).a1)).bind fun r_11 =>
 (spinetref14_add r_11 ((gt r_ i_1).a2) (IntKind.wrap .i64 ((gt r_ i_1).a3+48)) ((gt r_ i_1).a0) (5) ((gt r_ i_1).a1)).bind fun r_12 =>
 rec r_12 (IntKind.wrap .i64 (i_1+1))
def spinetref14_All_l0 (r_:((List A5_i64))):Nat→(List spinetref14_Known)→Int→Option (List spinetref14_Known)
 | 0,_,_=>none
 | k+1,l_3,i_1 =>
 if (decide (i_1 < (ln r_)))=true then
 if 0≤(i_1:Int)∧i_1 < ln r_ then
 if (decide (0 < (gt r_ i_1).a4))=true then
 (spinetref14_add l_3 ((gt r_ i_1).a2) ((gt r_ i_1).a3) ((gt r_ i_1).a0) ((gt r_ i_1).a4) ((gt r_ i_1).a1)).bind fun r_9 =>
 spinetref14_All_j0 (spinetref14_All_l0 r_ k) r_ i_1 r_9
 else
 spinetref14_All_j0 (spinetref14_All_l0 r_ k) r_ i_1 l_3
 else none
 else
 some l_3
def spinetref14_All_l1:Nat→(List spinetref14_Known)→Int→Option (List spinetref14_Known)
 | 0,_,_=>none
 | k+1,l_8,i_4 =>
 if (decide (i_4 < 12))=true then
 if 0≤(i_4:Int)∧i_4 < (12:Int) then
 if 0≤(i_4:Int)∧i_4 < (12:Int) then
 (spinetref14_add l_8 (1) ((gt [(A2_i64.mk (13) (0)),(A2_i64.mk (14) (3)),(A2_i64.mk (15) (4)),(A2_i64.mk (16) (6)),(A2_i64.mk (17) (7)),(A2_i64.mk (18) (8)),(A2_i64.mk (19) (9)),(A2_i64.mk (20) (10)),(A2_i64.mk (21) (12)),(A2_i64.mk (22) (13)),(A2_i64.mk (23) (15)),(A2_i64.mk (32) (14))] i_4).a1) ((gt [(A2_i64.mk (13) (0)),(A2_i64.mk (14) (3)),(A2_i64.mk (15) (4)),(A2_i64.mk (16) (6)),(A2_i64.mk (17) (7)),(A2_i64.mk (18) (8)),(A2_i64.mk (19) (9)),(A2_i64.mk (20) (10)),(A2_i64.mk (21) (12)),(A2_i64.mk (22) (13)),(A2_i64.mk (23) (15)),(A2_i64.mk (32) (14))] i_4).a0) (3) (0)).bind fun r_28 =>
 (spinetref14_add r_28 (1) (IntKind.wrap .i64 ((gt [(A2_i64.mk (13) (0)),(A2_i64.mk (14) (3)),(A2_i64.mk (15) (4)),(A2_i64.mk (16) (6)),(A2_i64.mk (17) (7)),(A2_i64.mk (18) (8)),(A2_i64.mk (19) (9)),(A2_i64.mk (20) (10)),(A2_i64.mk (21) (12)),(A2_i64.mk (22) (13)),(A2_i64.mk (23) (15)),(A2_i64.mk (32) (14))] i_4).a1+96)) ((gt [(A2_i64.mk (13) (0)),(A2_i64.mk (14) (3)),(A2_i64.mk (15) (4)),(A2_i64.mk (16) (6)),(A2_i64.mk (17) (7)),(A2_i64.mk (18) (8)),(A2_i64.mk (19) (9)),(A2_i64.mk (20) (10)),(A2_i64.mk (21) (12)),(A2_i64.mk (22) (13)),(A2_i64.mk (23) (15)),(A2_i64.mk (32) (14))] i_4).a0) (4) (0)).bind fun r_29 =>
 (spinetref14_add r_29 (1) (IntKind.wrap .i64 ((gt [(A2_i64.mk (13) (0)),(A2_i64.mk (14) (3)),(A2_i64.mk (15) (4)),(A2_i64.mk (16) (6)),(A2_i64.mk (17) (7)),(A2_i64.mk (18) (8)),(A2_i64.mk (19) (9)),(A2_i64.mk (20) (10)),(A2_i64.mk (21) (12)),(A2_i64.mk (22) (13)),(A2_i64.mk (23) (15)),(A2_i64.mk (32) (14))] i_4).a1+112)) ((gt [(A2_i64.mk (13) (0)),(A2_i64.mk (14) (3)),(A2_i64.mk (15) (4)),(A2_i64.mk (16) (6)),(A2_i64.mk (17) (7)),(A2_i64.mk (18) (8)),(A2_i64.mk (19) (9)),(A2_i64.mk (20) (10)),(A2_i64.mk (21) (12)),(A2_i64.mk (22) (13)),(A2_i64.mk (23) (15)),(A2_i64.mk (32) (14))] i_4).a0) (5) (0)).bind fun r_30 =>
 if ((gt [(A2_i64.mk (13) (0)),(A2_i64.mk (14) (3)),(A2_i64.mk (15) (4)),(A2_i64.mk (16) (6)),(A2_i64.mk (17) (7)),(A2_i64.mk (18) (8)),(A2_i64.mk (19) (9)),(A2_i64.mk (20) (10)),(A2_i64.mk (21) (12)),(A2_i64.mk (22) (13)),(A2_i64.mk (23) (15)),(A2_i64.mk (32) (14))] i_4).a0 != 32)=true then
 (spinetref14_add r_30 (1) (IntKind.wrap .i64 ((gt [(A2_i64.mk (13) (0)),(A2_i64.mk (14) (3)),(A2_i64.mk (15) (4)),(A2_i64.mk (16) (6)),(A2_i64.mk (17) (7)),(A2_i64.mk (18) (8)),(A2_i64.mk (19) (9)),(A2_i64.mk (20) (10)),(A2_i64.mk (21) (12)),(A2_i64.mk (22) (13)),(A2_i64.mk (23) (15)),(A2_i64.mk (32) (14))] i_4).a1+64)) ((gt [(A2_i64.mk (13) (0)),(A2_i64.mk (14) (3)),(A2_i64.mk (15) (4)),(A2_i64.mk (16) (6)),(A2_i64.mk (17) (7)),(A2_i64.mk (18) (8)),(A2_i64.mk (19) (9)),(A2_i64.mk (20) (10)),(A2_i64.mk (21) (12)),(A2_i64.mk (22) (13)),(A2_i64.mk (23) (15)),(A2_i64.mk (32) (14))] i_4).a0) (0) (8)).bind fun r_31 =>
 (spinetref14_add r_31 (1) (IntKind.wrap .i64 ((gt [(A2_i64.mk (13) (0)),(A2_i64.mk (14) (3)),(A2_i64.mk (15) (4)),(A2_i64.mk (16) (6)),(A2_i64.mk (17) (7)),(A2_i64.mk (18) (8)),(A2_i64.mk (19) (9)),(A2_i64.mk (20) (10)),(A2_i64.mk (21) (12)),(A2_i64.mk (22) (13)),(A2_i64.mk (23) (15)),(A2_i64.mk (32) (14))] i_4).a1+80)) ((gt [(A2_i64.mk (13) (0)),(A2_i64.mk (14) (3)),(A2_i64.mk (15) (4)),(A2_i64.mk (16) (6)),(A2_i64.mk (17) (7)),(A2_i64.mk (18) (8)),(A2_i64.mk (19) (9)),(A2_i64.mk (20) (10)),(A2_i64.mk (21) (12)),(A2_i64.mk (22) (13)),(A2_i64.mk (23) (15)),(A2_i64.mk (32) (14))] i_4).a0) (0) (9)).bind fun r_32 =>
 spinetref14_All_l1 k r_32 (IntKind.wrap .i64 (i_4+1))
 else
 spinetref14_All_l1 k r_30 (IntKind.wrap .i64 (i_4+1))
 else none
 else none
 else
 some l_8
def spinetref14_All_l2:Nat→(List spinetref14_Known)→Int→Option (List spinetref14_Known)
 | 0,_,_=>none
 | k+1,l_11,n_1 =>
 if (decide (n_1 < 16))=true then
 (spinetref14_add l_11 (1) (IntKind.wrap .i64 (32+n_1)) (34) (6) n_1).bind fun r_37 =>
 if (decide (0 < n_1))=true then
 (spinetref14_add r_37 (2) (IntKind.wrap .i64 (32+n_1)) (35) (7) n_1).bind fun r_38 =>
 spinetref14_All_l2 k r_38 (IntKind.wrap .i64 (n_1+1))
 else
 spinetref14_All_l2 k r_37 (IntKind.wrap .i64 (n_1+1))
 else
 some l_11
def spinetref14_All_l3:Nat→(List spinetref14_Known)→Int→Option (List spinetref14_Known)
 | 0,_,_=>none
 | k+1,l_15,i_7 =>
 if (decide (i_7 < 27))=true then
 if 0≤(i_7:Int)∧i_7 < (27:Int) then
 (spinetref14_add l_15 ((gt [(A5_i64.mk (1) (18) (39) (0) (0)),(A5_i64.mk (1) (19) (40) (0) (0)),(A5_i64.mk (1) (25) (42) (0) (0)),(A5_i64.mk (1) (29) (45) (0) (0)),(A5_i64.mk (1) (57) (48) (0) (0)),(A5_i64.mk (1) (58) (1) (0) (0)),(A5_i64.mk (1) (59) (49) (0) (0)),(A5_i64.mk (1) (61) (50) (0) (0)),(A5_i64.mk (1) (63) (51) (0) (1)),(A5_i64.mk (2) (63) (51) (0) (2)),(A5_i64.mk (3) (63) (51) (0) (3)),(A5_i64.mk (1) (26) (43) (1) (0)),(A5_i64.mk (1) (28) (44) (1) (0)),(A5_i64.mk (1) (60) (41) (1) (0)),(A5_i64.mk (1) (30) (46) (8) (0)),(A5_i64.mk (1) (31) (47) (8) (0)),(A5_i64.mk (1) (52) (30) (9) (4)),(A5_i64.mk (1) (53) (31) (9) (4)),(A5_i64.mk (1) (54) (30) (9) (3)),(A5_i64.mk (1) (55) (31) (9) (3)),(A5_i64.mk (1) (48) (29) (4) (1)),(A5_i64.mk (1) (49) (29) (4) (2)),(A5_i64.mk (1) (50) (29) (4) (4)),(A5_i64.mk (1) (51) (29) (4) (3)),(A5_i64.mk (1) (141) (37) (6) (0)),(A5_i64.mk (1) (22) (36) (7) (0)),(A5_i64.mk (1) (23) (38) (7) (0))] i_7).a0) ((gt [(A5_i64.mk (1) (18) (39) (0) (0)),(A5_i64.mk (1) (19) (40) (0) (0)),(A5_i64.mk (1) (25) (42) (0) (0)),(A5_i64.mk (1) (29) (45) (0) (0)),(A5_i64.mk (1) (57) (48) (0) (0)),(A5_i64.mk (1) (58) (1) (0) (0)),(A5_i64.mk (1) (59) (49) (0) (0)),(A5_i64.mk (1) (61) (50) (0) (0)),(A5_i64.mk (1) (63) (51) (0) (1)),(A5_i64.mk (2) (63) (51) (0) (2)),(A5_i64.mk (3) (63) (51) (0) (3)),(A5_i64.mk (1) (26) (43) (1) (0)),(A5_i64.mk (1) (28) (44) (1) (0)),(A5_i64.mk (1) (60) (41) (1) (0)),(A5_i64.mk (1) (30) (46) (8) (0)),(A5_i64.mk (1) (31) (47) (8) (0)),(A5_i64.mk (1) (52) (30) (9) (4)),(A5_i64.mk (1) (53) (31) (9) (4)),(A5_i64.mk (1) (54) (30) (9) (3)),(A5_i64.mk (1) (55) (31) (9) (3)),(A5_i64.mk (1) (48) (29) (4) (1)),(A5_i64.mk (1) (49) (29) (4) (2)),(A5_i64.mk (1) (50) (29) (4) (4)),(A5_i64.mk (1) (51) (29) (4) (3)),(A5_i64.mk (1) (141) (37) (6) (0)),(A5_i64.mk (1) (22) (36) (7) (0)),(A5_i64.mk (1) (23) (38) (7) (0))] i_7).a1) ((gt [(A5_i64.mk (1) (18) (39) (0) (0)),(A5_i64.mk (1) (19) (40) (0) (0)),(A5_i64.mk (1) (25) (42) (0) (0)),(A5_i64.mk (1) (29) (45) (0) (0)),(A5_i64.mk (1) (57) (48) (0) (0)),(A5_i64.mk (1) (58) (1) (0) (0)),(A5_i64.mk (1) (59) (49) (0) (0)),(A5_i64.mk (1) (61) (50) (0) (0)),(A5_i64.mk (1) (63) (51) (0) (1)),(A5_i64.mk (2) (63) (51) (0) (2)),(A5_i64.mk (3) (63) (51) (0) (3)),(A5_i64.mk (1) (26) (43) (1) (0)),(A5_i64.mk (1) (28) (44) (1) (0)),(A5_i64.mk (1) (60) (41) (1) (0)),(A5_i64.mk (1) (30) (46) (8) (0)),(A5_i64.mk (1) (31) (47) (8) (0)),(A5_i64.mk (1) (52) (30) (9) (4)),(A5_i64.mk (1) (53) (31) (9) (4)),(A5_i64.mk (1) (54) (30) (9) (3)),(A5_i64.mk (1) (55) (31) (9) (3)),(A5_i64.mk (1) (48) (29) (4) (1)),(A5_i64.mk (1) (49) (29) (4) (2)),(A5_i64.mk (1) (50) (29) (4) (4)),(A5_i64.mk (1) (51) (29) (4) (3)),(A5_i64.mk (1) (141) (37) (6) (0)),(A5_i64.mk (1) (22) (36) (7) (0)),(A5_i64.mk (1) (23) (38) (7) (0))] i_7).a2) ((gt [(A5_i64.mk (1) (18) (39) (0) (0)),(A5_i64.mk (1) (19) (40) (0) (0)),(A5_i64.mk (1) (25) (42) (0) (0)),(A5_i64.mk (1) (29) (45) (0) (0)),(A5_i64.mk (1) (57) (48) (0) (0)),(A5_i64.mk (1) (58) (1) (0) (0)),(A5_i64.mk (1) (59) (49) (0) (0)),(A5_i64.mk (1) (61) (50) (0) (0)),(A5_i64.mk (1) (63) (51) (0) (1)),(A5_i64.mk (2) (63) (51) (0) (2)),(A5_i64.mk (3) (63) (51) (0) (3)),(A5_i64.mk (1) (26) (43) (1) (0)),(A5_i64.mk (1) (28) (44) (1) (0)),(A5_i64.mk (1) (60) (41) (1) (0)),(A5_i64.mk (1) (30) (46) (8) (0)),(A5_i64.mk (1) (31) (47) (8) (0)),(A5_i64.mk (1) (52) (30) (9) (4)),(A5_i64.mk (1) (53) (31) (9) (4)),(A5_i64.mk (1) (54) (30) (9) (3)),(A5_i64.mk (1) (55) (31) (9) (3)),(A5_i64.mk (1) (48) (29) (4) (1)),(A5_i64.mk (1) (49) (29) (4) (2)),(A5_i64.mk (1) (50) (29) (4) (4)),(A5_i64.mk (1) (51) (29) (4) (3)),(A5_i64.mk (1) (141) (37) (6) (0)),(A5_i64.mk (1) (22) (36) (7) (0)),(A5_i64.mk (1) (23) (38) (7) (0))] i_7).a3) ((gt [(A5_i64.mk (1) (18) (39) (0) (0)),(A5_i64.mk (1) (19) (40) (0) (0)),(A5_i64.mk (1) (25) (42) (0) (0)),(A5_i64.mk (1) (29) (45) (0) (0)),(A5_i64.mk (1) (57) (48) (0) (0)),(A5_i64.mk (1) (58) (1) (0) (0)),(A5_i64.mk (1) (59) (49) (0) (0)),(A5_i64.mk (1) (61) (50) (0) (0)),(A5_i64.mk (1) (63) (51) (0) (1)),(A5_i64.mk (2) (63) (51) (0) (2)),(A5_i64.mk (3) (63) (51) (0) (3)),(A5_i64.mk (1) (26) (43) (1) (0)),(A5_i64.mk (1) (28) (44) (1) (0)),(A5_i64.mk (1) (60) (41) (1) (0)),(A5_i64.mk (1) (30) (46) (8) (0)),(A5_i64.mk (1) (31) (47) (8) (0)),(A5_i64.mk (1) (52) (30) (9) (4)),(A5_i64.mk (1) (53) (31) (9) (4)),(A5_i64.mk (1) (54) (30) (9) (3)),(A5_i64.mk (1) (55) (31) (9) (3)),(A5_i64.mk (1) (48) (29) (4) (1)),(A5_i64.mk (1) (49) (29) (4) (2)),(A5_i64.mk (1) (50) (29) (4) (4)),(A5_i64.mk (1) (51) (29) (4) (3)),(A5_i64.mk (1) (141) (37) (6) (0)),(A5_i64.mk (1) (22) (36) (7) (0)),(A5_i64.mk (1) (23) (38) (7) (0))] i_7).a4)).bind fun r_42 =>
 spinetref14_All_l3 k r_42 (IntKind.wrap .i64 (i_7+1))
 else none
 else
 some l_15
def spinetref14_All:Option ((List spinetref14_Known)) :=
 (spinetref14_columns).bind fun r_ =>
 (spinetref14_All_l0 r_ BIG ([]:List spinetref14_Known) (0)).bind fun l_4 =>
 (spinetref14_All_l1 BIG l_4 (0)).bind fun l_9 =>
 (spinetref14_All_l2 BIG l_9 (0)).bind fun l_12 =>
 (spinetref14_All_l3 BIG l_12 (0)).bind fun l_16 =>
 some l_16
def spinetref14_Of_l0 (page_:Int) (code_:Int) (r_:((List spinetref14_Known))):Nat→Int→Option (Out (api_Entry) (Unit))
 | 0,_=>none
 | k+1,i_1 =>
 if (decide (i_1 < (ln r_)))=true then
 if 0≤(i_1:Int)∧i_1 < ln r_ then
 if ((gt r_ i_1).Page == page_)=true→0≤(i_1:Int)∧i_1 < ln r_ then
 if (((gt r_ i_1).Page == page_)&&((gt r_ i_1).Code == code_))=true then
 if 0≤(i_1:Int)∧i_1 < ln r_ then
 some (.ret ((gt r_ i_1).Entry))
 else none
 else
 spinetref14_Of_l0 page_ code_ r_ k (IntKind.wrap .i64 (i_1+1))
 else none
 else none
 else
 some (.go ())
def spinetref14_Of (page_:Int) (code_:Int):Option (api_Entry) :=
 (spinetref14_All).bind fun r_ =>
 (spinetref14_Of_l0 page_ code_ r_ BIG (0)).bind fun o=>match o with
 | .ret r=>some r
 | .go _ =>
 some (api_Entry.mk (0) (0) (0))
def spinetref15_Of_j0 (b_:Int) (off_:Int):Option (spinetref15_P) :=
 some (spinetref15_P.mk (1) (IntKind.wrap .i64 ((Int.tmod (IntKind.wrap .i64 (Int.tdiv (IntKind.wrap .i64 b_) 32)) 4)+1)) off_ false (0) (2))
def spinetref15_Of_j1 (b_:Int) (reg_1:Int):Option (spinetref15_P) :=
 some (spinetref15_P.mk ((gt [(A3_i64.mk (7) (0) (3)),(A3_i64.mk (8) (0) (4)),(A3_i64.mk (9) (0) (3)),(A3_i64.mk (10) (0) (4)),(A3_i64.mk (0) (0) (1)),(A3_i64.mk (5) (0) (2)),(A3_i64.mk (4) (0) (2)),(A3_i64.mk (0) (0) (1)),(A3_i64.mk (2) (1) (1)),(A3_i64.mk (3) (2) (3)),(A3_i64.mk (0) (0) (1)),(A3_i64.mk (6) (0) (5)),(A3_i64.mk (11) (1) (1)),(A3_i64.mk (12) (2) (4)),(A3_i64.mk (0) (0) (1)),(A3_i64.mk (13) (2) (1))] (Int.tmod (IntKind.wrap .i64 b_) 16)).a0) reg_1 (0) (((Int.tmod (IntKind.wrap .i64 (Int.tdiv (IntKind.wrap .i64 b_) 16)) 2) == 1)||((Int.tmod (IntKind.wrap .i64 b_) 16) == 15)) ((gt [(A3_i64.mk (7) (0) (3)),(A3_i64.mk (8) (0) (4)),(A3_i64.mk (9) (0) (3)),(A3_i64.mk (10) (0) (4)),(A3_i64.mk (0) (0) (1)),(A3_i64.mk (5) (0) (2)),(A3_i64.mk (4) (0) (2)),(A3_i64.mk (0) (0) (1)),(A3_i64.mk (2) (1) (1)),(A3_i64.mk (3) (2) (3)),(A3_i64.mk (0) (0) (1)),(A3_i64.mk (6) (0) (5)),(A3_i64.mk (11) (1) (1)),(A3_i64.mk (12) (2) (4)),(A3_i64.mk (0) (0) (1)),(A3_i64.mk (13) (2) (1))] (Int.tmod (IntKind.wrap .i64 b_) 16)).a1) ((gt [(A3_i64.mk (7) (0) (3)),(A3_i64.mk (8) (0) (4)),(A3_i64.mk (9) (0) (3)),(A3_i64.mk (10) (0) (4)),(A3_i64.mk (0) (0) (1)),(A3_i64.mk (5) (0) (2)),(A3_i64.mk (4) (0) (2)),(A3_i64.mk (0) (0) (1)),(A3_i64.mk (2) (1) (1)),(A3_i64.mk (3) (2) (3)),(A3_i64.mk (0) (0) (1)),(A3_i64.mk (6) (0) (5)),(A3_i64.mk (11) (1) (1)),(A3_i64.mk (12) (2) (4)),(A3_i64.mk (0) (0) (1)),(A3_i64.mk (13) (2) (1))] (Int.tmod (IntKind.wrap .i64 b_) 16)).a2))
def spinetref15_Of_j2 (b_:Int) (reg_:Int):Option (spinetref15_P) :=
 if ((Int.tmod (IntKind.wrap .i64 b_) 16) == 15)=true then
 spinetref15_Of_j1 b_ (0)
 else
 spinetref15_Of_j1 b_ reg_
def spinetref15_Of (b_:Int):Option (spinetref15_P) :=
 if (decide ((IntKind.wrap .i64 b_) < 128))=true then
 if (decide (15 < (Int.tmod (IntKind.wrap .i64 b_) 32)))=true then
 spinetref15_Of_j0 b_ (IntKind.wrap .i64 ((Int.tmod (IntKind.wrap .i64 b_) 32)+65504))
 else
 spinetref15_Of_j0 b_ (Int.tmod (IntKind.wrap .i64 b_) 32)
 else
 if 0≤((Int.tmod (IntKind.wrap .i64 b_) 16):Int)∧(Int.tmod (IntKind.wrap .i64 b_) 16) < (16:Int) then
 if (((Int.tmod (IntKind.wrap .i64 b_) 16) == 12)||((Int.tmod (IntKind.wrap .i64 b_) 16) == 13))=true then
 spinetref15_Of_j2 b_ (5)
 else
 spinetref15_Of_j2 b_ (IntKind.wrap .i64 ((Int.tmod (IntKind.wrap .i64 (Int.tdiv (IntKind.wrap .i64 b_) 32)) 4)+1))
 else none
def spinetref18_Shape (mode_:Int) (post_:Int):Option (Bool × Int × Bool) :=
 if (mode_ == 4)=true then
 (spinetref15_Of post_).bind fun r_ =>
 some (true,r_.Bytes,true)
 else
 if 0≤(mode_:Int)∧mode_ < (10:Int) then
 some (((mode_ == 8)||(mode_ == 9)),(gt [0,1,2,1,0,2,1,2,0,0] mode_),(mode_ == 6))
 else none
def spinetref18_Sign (b_:Int):Option (Int) :=
 if (decide (127 < b_))=true then
 some (IntKind.wrap .u16 (65280+(IntKind.wrap .u16 b_)))
 else
 some (IntKind.wrap .u16 b_)
def spinetref18_Of_j0 (b_:(List Int)) (m_:Int) (m_1:Int) (r_:(api_Entry)) (m_3:Int) (m_4:Int) (r_2:(Bool × Int × Bool)) (m_5:Int):Option (api_Inst × Bool) :=
 if (decide ((ln b_) < (IntKind.wrap .i64 (m_4+r_2.2.1))))=true then
 some ((api_Inst.mk (0) (0) (api_Entry.mk (0) (0) (0)) (0) (0) (0)),false)
 else
 some ((api_Inst.mk m_ m_1 r_ m_3 m_5 (IntKind.wrap .i64 (m_4+r_2.2.1))),true)
def spinetref18_Of_j1 (b_:(List Int)) (m_:Int) (m_1:Int) (r_:(api_Entry)) (m_3:Int) (m_4:Int):Option (api_Inst × Bool) :=
 (spinetref18_Shape r_.Mode m_3).bind fun r_2 =>
 if ((r_2.2.1 == 1)&&r_2.2.2)=true then
 if 0≤(m_4:Int)∧m_4 < ln ((([]:List Int)++b_)++[0,0,0,0,0]) then
 (spinetref18_Sign (gt ((([]:List Int)++b_)++[0,0,0,0,0]) m_4)).bind fun r_3 =>
 spinetref18_Of_j0 b_ m_ m_1 r_ m_3 m_4 r_2 r_3
 else none
 else
 if (r_2.2.1 == 1)=true then
 if 0≤(m_4:Int)∧m_4 < ln ((([]:List Int)++b_)++[0,0,0,0,0]) then
 spinetref18_Of_j0 b_ m_ m_1 r_ m_3 m_4 r_2 (IntKind.wrap .u16 (gt ((([]:List Int)++b_)++[0,0,0,0,0]) m_4))
 else none
 else
 if (r_2.2.1 == 2)=true then
 if 0≤(m_4:Int)∧m_4 < ln ((([]:List Int)++b_)++[0,0,0,0,0]) then
 if 0≤((IntKind.wrap .i64 (m_4+1)):Int)∧(IntKind.wrap .i64 (m_4+1)) < ln ((([]:List Int)++b_)++[0,0,0,0,0]) then
 spinetref18_Of_j0 b_ m_ m_1 r_ m_3 m_4 r_2 (IntKind.wrap .u16 ((IntKind.wrap .u16 ((IntKind.wrap .u16 (gt ((([]:List Int)++b_)++[0,0,0,0,0]) m_4))*256))+(IntKind.wrap .u16 (gt ((([]:List Int)++b_)++[0,0,0,0,0]) (IntKind.wrap .i64 (m_4+1))))))
 else none
 else none
 else
 spinetref18_Of_j0 b_ m_ m_1 r_ m_3 m_4 r_2 (0)
def spinetref18_Of_j2 (b_:(List Int)) (m_:Int) (m_1:Int) (m_2:Int):Option (api_Inst × Bool) :=
 (spinetref14_Of m_ (IntKind.wrap .i64 m_1)).bind fun r_ =>
 (spinetref18_Shape r_.Mode (0)).bind fun r_1 =>
 if r_1.1=true then
 if 0≤(m_2:Int)∧m_2 < ln ((([]:List Int)++b_)++[0,0,0,0,0]) then
 spinetref18_Of_j1 b_ m_ m_1 r_ (gt ((([]:List Int)++b_)++[0,0,0,0,0]) m_2) (IntKind.wrap .i64 (m_2+1))
 else none
 else
 spinetref18_Of_j1 b_ m_ m_1 r_ (0) m_2
def spinetref18_Of (b_:(List Int)):Option (api_Inst × Bool) :=
 if (([]:List Int).length+b_.length)*1≤140737488355328 then
 if ((([]:List Int)++b_).length+[0,0,0,0,0].length)*1≤140737488355328 then
 if 0≤(0:Int)∧0 < ln ((([]:List Int)++b_)++[0,0,0,0,0]) then
 if 0≤(0:Int)∧0 < ln ((([]:List Int)++b_)++[0,0,0,0,0]) then
 if (!((gt ((([]:List Int)++b_)++[0,0,0,0,0]) (0)) == 16))=true→0≤(0:Int)∧0 < ln ((([]:List Int)++b_)++[0,0,0,0,0]) then
 if (((gt ((([]:List Int)++b_)++[0,0,0,0,0]) (0)) == 16)||((gt ((([]:List Int)++b_)++[0,0,0,0,0]) (0)) == 17))=true then
 if 0≤(0:Int)∧0 < ln ((([]:List Int)++b_)++[0,0,0,0,0]) then
 if 0≤(1:Int)∧1 < ln ((([]:List Int)++b_)++[0,0,0,0,0]) then
 spinetref18_Of_j2 b_ (IntKind.wrap .i64 ((IntKind.wrap .i64 (gt ((([]:List Int)++b_)++[0,0,0,0,0]) (0))) - 14)) (gt ((([]:List Int)++b_)++[0,0,0,0,0]) (1)) (2)
 else none
 else none
 else
 spinetref18_Of_j2 b_ (1) (gt ((([]:List Int)++b_)++[0,0,0,0,0]) (0)) (1)
 else none
 else none
 else none
 else none
 else none
def spinetref02_Digits_l0 (base_:Int) (width_:Int):Nat→Int→ByteArray→Option ByteArray
 | 0,_,_=>none
 | k+1,t_1,s_1 =>
 if (((decide (0 < t_1))||(decide ((sln s_1) < width_)))||(s_1.toList == (⟨#[]⟩:ByteArray).toList))=true then
 if base_ ≠ 0 then
 if 0≤((IntKind.wrap .i64 (Int.tmod t_1 base_)):Int)∧(IntKind.wrap .i64 (Int.tmod t_1 base_))≤((IntKind.wrap .i64 ((IntKind.wrap .i64 (Int.tmod t_1 base_))+1)):Int)∧(IntKind.wrap .i64 ((IntKind.wrap .i64 (Int.tmod t_1 base_))+1))≤(sln (⟨#[48,49,50,51,52,53,54,55,56,57,65,66,67,68,69,70]⟩:ByteArray)) then
 if ((((⟨#[48,49,50,51,52,53,54,55,56,57,65,66,67,68,69,70]⟩:ByteArray).extract ((IntKind.wrap .i64 (Int.tmod t_1 base_)):Int).toNat ((IntKind.wrap .i64 ((IntKind.wrap .i64 (Int.tmod t_1 base_))+1)):Int).toNat).size+s_1.size:Nat):Int)≤9223372036854775807 then
 if base_ ≠ 0 then
 spinetref02_Digits_l0 base_ width_ k (IntKind.wrap .u64 (Int.tdiv t_1 base_)) (((⟨#[48,49,50,51,52,53,54,55,56,57,65,66,67,68,69,70]⟩:ByteArray).extract ((IntKind.wrap .i64 (Int.tmod t_1 base_)):Int).toNat ((IntKind.wrap .i64 ((IntKind.wrap .i64 (Int.tmod t_1 base_))+1)):Int).toNat)++s_1)
 else none
 else none
 else none
 else none
 else
 some s_1
def spinetref02_Digits (n_:Int) (base_:Int) (width_:Int):Option (ByteArray) :=
 (spinetref02_Digits_l0 base_ width_ BIG n_ (⟨#[]⟩:ByteArray)).bind fun s_2 =>
 some s_2
def spinetref02_Pairs_l0 (b_:(List Int)):Nat→ByteArray→Int→Option ByteArray
 | 0,_,_=>none
 | k+1,s_1,i_1 =>
 if (decide (i_1 < (ln b_)))=true then
 if 0≤(i_1:Int)∧i_1 < ln b_ then
 (spinetref02_Digits (IntKind.wrap .u64 (gt b_ i_1)) (16) (2)).bind fun r_2 =>
 if ((s_1.size+r_2.size:Nat):Int)≤9223372036854775807 then
 spinetref02_Pairs_l0 b_ k (s_1++r_2) (IntKind.wrap .i64 (i_1+1))
 else none
 else none
 else
 some s_1
def spinetref02_Pairs (b_:(List Int)):Option (ByteArray) :=
 (spinetref02_Pairs_l0 b_ BIG (⟨#[]⟩:ByteArray) (0)).bind fun s_2 =>
 some s_2
def spinetref42_Sure (i_:api_Inst):Option (Bool) :=
 if (i_.Entry.Op == 0)=true then
 some false
 else
 if ((i_.Entry.Mode != 4)||(decide (i_.Post < 128)))=true then
 some true
 else
 if (((((Int.tmod i_.Post 16) == 7)||((Int.tmod i_.Post 16) == 10))||((Int.tmod i_.Post 16) == 14))||((((Int.tmod i_.Post 16) == 12)||((Int.tmod i_.Post 16) == 13))&&(decide (0 < (Int.tmod (IntKind.wrap .u8 (Int.tdiv i_.Post 32)) 4)))))=true then
 some false
 else
 some (((Int.tmod i_.Post 16) != 15)||(i_.Post == 159))
def spinetref42_Hex (n_:Int) (width_:Int):Option (ByteArray) :=
 (spinetref02_Digits (IntKind.wrap .u64 n_) (16) width_).bind fun r_ =>
 if (((⟨#[36]⟩:ByteArray).size+r_.size:Nat):Int)≤9223372036854775807 then
 some ((⟨#[36]⟩:ByteArray)++r_)
 else none
def spinetref13_Reg (code_:Int):Option (ByteArray) :=
 if ((decide (code_ < 0))||(decide (11 < code_)))=true then
 some (⟨#[]⟩:ByteArray)
 else
 if 0≤(code_:Int)∧code_ < (12:Int) then
 some (gt [(⟨#[68]⟩:ByteArray),(⟨#[88]⟩:ByteArray),(⟨#[89]⟩:ByteArray),(⟨#[85]⟩:ByteArray),(⟨#[83]⟩:ByteArray),(⟨#[80,67]⟩:ByteArray),(⟨#[]⟩:ByteArray),(⟨#[]⟩:ByteArray),(⟨#[65]⟩:ByteArray),(⟨#[66]⟩:ByteArray),(⟨#[67,67]⟩:ByteArray),(⟨#[68,80]⟩:ByteArray)] code_)
 else none
def spinetref42_Signed (w_:Int):Option (ByteArray) :=
 if (decide (32767 < w_))=true then
 (spinetref02_Digits (IntKind.wrap .u64 (IntKind.wrap .i64 (65536 - (IntKind.wrap .i64 w_)))) (10) (1)).bind fun r_ =>
 if (((⟨#[45]⟩:ByteArray).size+r_.size:Nat):Int)≤9223372036854775807 then
 some ((⟨#[45]⟩:ByteArray)++r_)
 else none
 else
 (spinetref02_Digits (IntKind.wrap .u64 w_) (10) (1)).bind fun r_1 =>
 some r_1
def spinetref42_indexed (post_:Int) (value_:Int):Option (ByteArray) :=
 (spinetref15_Of post_).bind fun r_ =>
 (spinetref13_Reg r_.Reg).bind fun r_1 =>
 if (((⟨#[44]⟩:ByteArray).size+r_1.size:Nat):Int)≤9223372036854775807 then
 (spinetref42_Signed (IntKind.wrap .u16 r_.Off)).bind fun r_2 =>
 if ((r_2.size+(⟨#[44]⟩:ByteArray).size:Nat):Int)≤9223372036854775807 then
 if (((r_2++(⟨#[44]⟩:ByteArray)).size+r_1.size:Nat):Int)≤9223372036854775807 then
 (spinetref42_Signed value_).bind fun r_3 =>
 if (((⟨#[60]⟩:ByteArray).size+r_3.size:Nat):Int)≤9223372036854775807 then
 if ((((⟨#[60]⟩:ByteArray)++r_3).size+(⟨#[44]⟩:ByteArray).size:Nat):Int)≤9223372036854775807 then
 if (((((⟨#[60]⟩:ByteArray)++r_3)++(⟨#[44]⟩:ByteArray)).size+r_1.size:Nat):Int)≤9223372036854775807 then
 (spinetref42_Hex (IntKind.wrap .i64 value_) (4)).bind fun r_4 =>
 if (((⟨#[62]⟩:ByteArray).size+r_4.size:Nat):Int)≤9223372036854775807 then
 if ((((⟨#[62]⟩:ByteArray)++r_4).size+(⟨#[44]⟩:ByteArray).size:Nat):Int)≤9223372036854775807 then
 if (((((⟨#[62]⟩:ByteArray)++r_4)++(⟨#[44]⟩:ByteArray)).size+r_1.size:Nat):Int)≤9223372036854775807 then
 if (((⟨#[65,44]⟩:ByteArray).size+r_1.size:Nat):Int)≤9223372036854775807 then
 if (((⟨#[66,44]⟩:ByteArray).size+r_1.size:Nat):Int)≤9223372036854775807 then
 if (((⟨#[68,44]⟩:ByteArray).size+r_1.size:Nat):Int)≤9223372036854775807 then
 if (((⟨#[44]⟩:ByteArray).size+r_1.size:Nat):Int)≤9223372036854775807 then
 if ((((⟨#[44]⟩:ByteArray)++r_1).size+(⟨#[43]⟩:ByteArray).size:Nat):Int)≤9223372036854775807 then
 if (((⟨#[44]⟩:ByteArray).size+r_1.size:Nat):Int)≤9223372036854775807 then
 if ((((⟨#[44]⟩:ByteArray)++r_1).size+(⟨#[43,43]⟩:ByteArray).size:Nat):Int)≤9223372036854775807 then
 if (((⟨#[44,45]⟩:ByteArray).size+r_1.size:Nat):Int)≤9223372036854775807 then
 if (((⟨#[44,45,45]⟩:ByteArray).size+r_1.size:Nat):Int)≤9223372036854775807 then
 (spinetref42_Signed value_).bind fun r_5 =>
 if (((⟨#[60]⟩:ByteArray).size+r_5.size:Nat):Int)≤9223372036854775807 then
 if ((((⟨#[60]⟩:ByteArray)++r_5).size+(⟨#[44,80,67]⟩:ByteArray).size:Nat):Int)≤9223372036854775807 then
 (spinetref42_Hex (IntKind.wrap .i64 value_) (4)).bind fun r_6 =>
 if (((⟨#[62]⟩:ByteArray).size+r_6.size:Nat):Int)≤9223372036854775807 then
 if ((((⟨#[62]⟩:ByteArray)++r_6).size+(⟨#[44,80,67]⟩:ByteArray).size:Nat):Int)≤9223372036854775807 then
 (spinetref42_Hex (IntKind.wrap .i64 value_) (4)).bind fun r_7 =>
 if r_.Indirect=true then
 if 0≤(r_.Kind:Int)∧r_.Kind < (14:Int) then
 if (((⟨#[91]⟩:ByteArray).size+(gt [((⟨#[44]⟩:ByteArray)++r_1),((r_2++(⟨#[44]⟩:ByteArray))++r_1),((((⟨#[60]⟩:ByteArray)++r_3)++(⟨#[44]⟩:ByteArray))++r_1),((((⟨#[62]⟩:ByteArray)++r_4)++(⟨#[44]⟩:ByteArray))++r_1),((⟨#[65,44]⟩:ByteArray)++r_1),((⟨#[66,44]⟩:ByteArray)++r_1),((⟨#[68,44]⟩:ByteArray)++r_1),(((⟨#[44]⟩:ByteArray)++r_1)++(⟨#[43]⟩:ByteArray)),(((⟨#[44]⟩:ByteArray)++r_1)++(⟨#[43,43]⟩:ByteArray)),((⟨#[44,45]⟩:ByteArray)++r_1),((⟨#[44,45,45]⟩:ByteArray)++r_1),(((⟨#[60]⟩:ByteArray)++r_5)++(⟨#[44,80,67]⟩:ByteArray)),(((⟨#[62]⟩:ByteArray)++r_6)++(⟨#[44,80,67]⟩:ByteArray)),r_7] r_.Kind).size:Nat):Int)≤9223372036854775807 then
 if ((((⟨#[91]⟩:ByteArray)++(gt [((⟨#[44]⟩:ByteArray)++r_1),((r_2++(⟨#[44]⟩:ByteArray))++r_1),((((⟨#[60]⟩:ByteArray)++r_3)++(⟨#[44]⟩:ByteArray))++r_1),((((⟨#[62]⟩:ByteArray)++r_4)++(⟨#[44]⟩:ByteArray))++r_1),((⟨#[65,44]⟩:ByteArray)++r_1),((⟨#[66,44]⟩:ByteArray)++r_1),((⟨#[68,44]⟩:ByteArray)++r_1),(((⟨#[44]⟩:ByteArray)++r_1)++(⟨#[43]⟩:ByteArray)),(((⟨#[44]⟩:ByteArray)++r_1)++(⟨#[43,43]⟩:ByteArray)),((⟨#[44,45]⟩:ByteArray)++r_1),((⟨#[44,45,45]⟩:ByteArray)++r_1),(((⟨#[60]⟩:ByteArray)++r_5)++(⟨#[44,80,67]⟩:ByteArray)),(((⟨#[62]⟩:ByteArray)++r_6)++(⟨#[44,80,67]⟩:ByteArray)),r_7] r_.Kind)).size+(⟨#[93]⟩:ByteArray).size:Nat):Int)≤9223372036854775807 then
 some (((⟨#[91]⟩:ByteArray)++(gt [((⟨#[44]⟩:ByteArray)++r_1),((r_2++(⟨#[44]⟩:ByteArray))++r_1),((((⟨#[60]⟩:ByteArray)++r_3)++(⟨#[44]⟩:ByteArray))++r_1),((((⟨#[62]⟩:ByteArray)++r_4)++(⟨#[44]⟩:ByteArray))++r_1),((⟨#[65,44]⟩:ByteArray)++r_1),((⟨#[66,44]⟩:ByteArray)++r_1),((⟨#[68,44]⟩:ByteArray)++r_1),(((⟨#[44]⟩:ByteArray)++r_1)++(⟨#[43]⟩:ByteArray)),(((⟨#[44]⟩:ByteArray)++r_1)++(⟨#[43,43]⟩:ByteArray)),((⟨#[44,45]⟩:ByteArray)++r_1),((⟨#[44,45,45]⟩:ByteArray)++r_1),(((⟨#[60]⟩:ByteArray)++r_5)++(⟨#[44,80,67]⟩:ByteArray)),(((⟨#[62]⟩:ByteArray)++r_6)++(⟨#[44,80,67]⟩:ByteArray)),r_7] r_.Kind))++(⟨#[93]⟩:ByteArray))
 else none
 else none
 else none
 else
 if 0≤(r_.Kind:Int)∧r_.Kind < (14:Int) then
 some (gt [((⟨#[44]⟩:ByteArray)++r_1),((r_2++(⟨#[44]⟩:ByteArray))++r_1),((((⟨#[60]⟩:ByteArray)++r_3)++(⟨#[44]⟩:ByteArray))++r_1),((((⟨#[62]⟩:ByteArray)++r_4)++(⟨#[44]⟩:ByteArray))++r_1),((⟨#[65,44]⟩:ByteArray)++r_1),((⟨#[66,44]⟩:ByteArray)++r_1),((⟨#[68,44]⟩:ByteArray)++r_1),(((⟨#[44]⟩:ByteArray)++r_1)++(⟨#[43]⟩:ByteArray)),(((⟨#[44]⟩:ByteArray)++r_1)++(⟨#[43,43]⟩:ByteArray)),((⟨#[44,45]⟩:ByteArray)++r_1),((⟨#[44,45,45]⟩:ByteArray)++r_1),(((⟨#[60]⟩:ByteArray)++r_5)++(⟨#[44,80,67]⟩:ByteArray)),(((⟨#[62]⟩:ByteArray)++r_6)++(⟨#[44,80,67]⟩:ByteArray)),r_7] r_.Kind)
 else none
 else none
 else none
 else none
 else none
 else none
 else none
 else none
 else none
 else none
 else none
 else none
 else none
 else none
 else none
 else none
 else none
 else none
 else none
 else none
 else none
 else none
 else none
def spinetref42_Reg (code_:Int):Option (ByteArray) :=
 (spinetref13_Reg code_).bind fun r_ =>
 if (r_.toList == (⟨#[]⟩:ByteArray).toList)=true then
 (spinetref02_Digits (IntKind.wrap .u64 code_) (10) (1)).bind fun r_1 =>
 if (((⟨#[82]⟩:ByteArray).size+r_1.size:Nat):Int)≤9223372036854775807 then
 some ((⟨#[82]⟩:ByteArray)++r_1)
 else none
 else
 some r_
def spinetref17_Code (place_:Int) (user_:Bool):Option (Int) :=
 if (user_&&(place_ == 6))=true then
 some (4)
 else
 if 0≤(place_:Int)∧place_ < (8:Int) then
 some (gt [10,8,9,11,1,2,3,5] place_)
 else none
def spinetref42_list_j0 (rec:ByteArray→Int→Int→Option ByteArray) (user_:Bool) (bit_1:Int) (i_1:Int) (s_5:ByteArray):Option ByteArray :=
 (spinetref17_Code i_1 user_).bind fun r_4 =>
 (spinetref13_Reg r_4).bind fun r_5 =>
 if ((s_5.size+r_5.size:Nat):Int)≤9223372036854775807 then
 rec (s_5++r_5) (IntKind.wrap .u8 (bit_1*2)) (IntKind.wrap .i64 (i_1+1))
 else none
def spinetref42_list_l0 (post_:Int) (user_:Bool):Nat→ByteArray→Int→Int→Option ByteArray
 | 0,_,_,_=>none
 | k+1,s_3,bit_1,i_1 =>
 if (decide (i_1 < 8))=true then
 if bit_1 ≠ 0 then
 if ((Int.tmod (IntKind.wrap .u8 (Int.tdiv post_ bit_1)) 2) == 1)=true then
 if (!(s_3.toList == (⟨#[]⟩:ByteArray).toList))=true then
 if ((s_3.size+(⟨#[44]⟩:ByteArray).size:Nat):Int)≤9223372036854775807 then
 spinetref42_list_j0 (spinetref42_list_l0 post_ user_ k) user_ bit_1 i_1 (s_3++(⟨#[44]⟩:ByteArray))
 else none
 else
 spinetref42_list_j0 (spinetref42_list_l0 post_ user_ k) user_ bit_1 i_1 s_3
 else
 spinetref42_list_l0 post_ user_ k s_3 (IntKind.wrap .u8 (bit_1*2)) (IntKind.wrap .i64 (i_1+1))
 else none
 else
 some s_3
def spinetref42_list (post_:Int) (user_:Bool):Option (ByteArray) :=
 (spinetref42_list_l0 post_ user_ BIG (⟨#[]⟩:ByteArray) (1) (0)).bind fun s_4 =>
 some s_4
def spinetref13_with_l3 (stem_:ByteArray) (op_:Int) (regs_:ByteArray) (i_1:Int):Nat→(List spinetref13_Row)→Int→Option (List spinetref13_Row)
 | 0,_,_=>none
 | k+1,l_10,k_5 =>
 if (decide (k_5 < (sln regs_)))=true then
 if 0≤(i_1:Int)∧i_1 < sln (⟨#[68,88,89,85,83,80,81,82,65,66]⟩:ByteArray) then
 if 0≤(k_5:Int)∧k_5 < sln regs_ then
 if ((bt (⟨#[68,88,89,85,83,80,81,82,65,66]⟩:ByteArray) i_1) == (bt regs_ k_5))=true then
 if 0≤(k_5:Int)∧k_5≤((IntKind.wrap .i64 (k_5+1)):Int)∧(IntKind.wrap .i64 (k_5+1))≤(sln regs_) then
 if ((stem_.size+(regs_.extract (k_5:Int).toNat ((IntKind.wrap .i64 (k_5+1)):Int).toNat).size:Nat):Int)≤9223372036854775807 then
 if (l_10.length+[(spinetref13_Row.mk (stem_++(regs_.extract (k_5:Int).toNat ((IntKind.wrap .i64 (k_5+1)):Int).toNat)) op_ i_1)].length)*32≤140737488355328 then
 spinetref13_with_l3 stem_ op_ regs_ i_1 k (l_10++[(spinetref13_Row.mk (stem_++(regs_.extract (k_5:Int).toNat ((IntKind.wrap .i64 (k_5+1)):Int).toNat)) op_ i_1)]) (IntKind.wrap .i64 (k_5+1))
 else none
 else none
 else none
 else
 spinetref13_with_l3 stem_ op_ regs_ i_1 k l_10 (IntKind.wrap .i64 (k_5+1))
 else none
 else none
 else
 some l_10
def spinetref13_with_l2 (stem_:ByteArray) (op_:Int) (regs_:ByteArray):Nat→(List spinetref13_Row)→Int→Option (List spinetref13_Row)
 | 0,_,_=>none
 | k+1,l_7,i_1 =>
 if (decide (i_1 < (sln (⟨#[68,88,89,85,83,80,81,82,65,66]⟩:ByteArray))))=true then
 (spinetref13_with_l3 stem_ op_ regs_ i_1 BIG l_7 (0)).bind fun l_11 =>
 spinetref13_with_l2 stem_ op_ regs_ k l_11 (IntKind.wrap .i64 (i_1+1))
 else
 some l_7
def spinetref13_with (rows_:(List spinetref13_Row)) (stem_:ByteArray) (op_:Int) (regs_:ByteArray):Option ((List spinetref13_Row)) :=
 (spinetref13_with_l2 stem_ op_ regs_ BIG rows_ (0)).bind fun l_8 =>
 some l_8
def spinetref12_Name (n_:Int):Option (ByteArray) :=
 if ((decide (n_ < 0))||(decide (15 < n_)))=true then
 some (⟨#[]⟩:ByteArray)
 else
 if 0≤(n_:Int)∧n_ < (16:Int) then
 some (gt [(⟨#[82,65]⟩:ByteArray),(⟨#[82,78]⟩:ByteArray),(⟨#[72,73]⟩:ByteArray),(⟨#[76,83]⟩:ByteArray),(⟨#[67,67]⟩:ByteArray),(⟨#[67,83]⟩:ByteArray),(⟨#[78,69]⟩:ByteArray),(⟨#[69,81]⟩:ByteArray),(⟨#[86,67]⟩:ByteArray),(⟨#[86,83]⟩:ByteArray),(⟨#[80,76]⟩:ByteArray),(⟨#[77,73]⟩:ByteArray),(⟨#[71,69]⟩:ByteArray),(⟨#[76,84]⟩:ByteArray),(⟨#[71,84]⟩:ByteArray),(⟨#[76,69]⟩:ByteArray)] n_)
 else none
def spinetref13_Rows_l0:Nat→(List spinetref13_Row)→Int→Option (List spinetref13_Row)
 | 0,_,_=>none
 | k+1,l_1,i_1 =>
 if (decide (i_1 < (ln [(⟨#[65,68,67]⟩:ByteArray),(⟨#[65,68,68]⟩:ByteArray),(⟨#[65,78,68]⟩:ByteArray),(⟨#[66,73,84]⟩:ByteArray),(⟨#[67,77,80]⟩:ByteArray),(⟨#[69,79,82]⟩:ByteArray),(⟨#[79,82]⟩:ByteArray),(⟨#[83,66,67]⟩:ByteArray),(⟨#[83,85,66]⟩:ByteArray),(⟨#[76,68]⟩:ByteArray),(⟨#[83,84]⟩:ByteArray)])))=true then
 if 0≤(i_1:Int)∧i_1 < ln [(⟨#[65,68,67]⟩:ByteArray),(⟨#[65,68,68]⟩:ByteArray),(⟨#[65,78,68]⟩:ByteArray),(⟨#[66,73,84]⟩:ByteArray),(⟨#[67,77,80]⟩:ByteArray),(⟨#[69,79,82]⟩:ByteArray),(⟨#[79,82]⟩:ByteArray),(⟨#[83,66,67]⟩:ByteArray),(⟨#[83,85,66]⟩:ByteArray),(⟨#[76,68]⟩:ByteArray),(⟨#[83,84]⟩:ByteArray)] then
 (spinetref13_with l_1 (gt [(⟨#[65,68,67]⟩:ByteArray),(⟨#[65,68,68]⟩:ByteArray),(⟨#[65,78,68]⟩:ByteArray),(⟨#[66,73,84]⟩:ByteArray),(⟨#[67,77,80]⟩:ByteArray),(⟨#[69,79,82]⟩:ByteArray),(⟨#[79,82]⟩:ByteArray),(⟨#[83,66,67]⟩:ByteArray),(⟨#[83,85,66]⟩:ByteArray),(⟨#[76,68]⟩:ByteArray),(⟨#[83,84]⟩:ByteArray)] i_1) (IntKind.wrap .i64 (2+i_1)) (⟨#[65,66]⟩:ByteArray)).bind fun r_2 =>
 spinetref13_Rows_l0 k r_2 (IntKind.wrap .i64 (i_1+1))
 else none
 else
 some l_1
def spinetref13_Rows_l1:Nat→(List spinetref13_Row)→Int→Option (List spinetref13_Row)
 | 0,_,_=>none
 | k+1,l_4,i_3 =>
 if (decide (i_3 < (ln [(⟨#[78,69,71]⟩:ByteArray),(⟨#[67,79,77]⟩:ByteArray),(⟨#[76,83,82]⟩:ByteArray),(⟨#[82,79,82]⟩:ByteArray),(⟨#[65,83,82]⟩:ByteArray),(⟨#[65,83,76]⟩:ByteArray),(⟨#[82,79,76]⟩:ByteArray),(⟨#[68,69,67]⟩:ByteArray),(⟨#[73,78,67]⟩:ByteArray),(⟨#[84,83,84]⟩:ByteArray),(⟨#[67,76,82]⟩:ByteArray)])))=true then
 if 0≤(i_3:Int)∧i_3 < ln [(⟨#[78,69,71]⟩:ByteArray),(⟨#[67,79,77]⟩:ByteArray),(⟨#[76,83,82]⟩:ByteArray),(⟨#[82,79,82]⟩:ByteArray),(⟨#[65,83,82]⟩:ByteArray),(⟨#[65,83,76]⟩:ByteArray),(⟨#[82,79,76]⟩:ByteArray),(⟨#[68,69,67]⟩:ByteArray),(⟨#[73,78,67]⟩:ByteArray),(⟨#[84,83,84]⟩:ByteArray),(⟨#[67,76,82]⟩:ByteArray)] then
 if (l_4.length+[(spinetref13_Row.mk (gt [(⟨#[78,69,71]⟩:ByteArray),(⟨#[67,79,77]⟩:ByteArray),(⟨#[76,83,82]⟩:ByteArray),(⟨#[82,79,82]⟩:ByteArray),(⟨#[65,83,82]⟩:ByteArray),(⟨#[65,83,76]⟩:ByteArray),(⟨#[82,79,76]⟩:ByteArray),(⟨#[68,69,67]⟩:ByteArray),(⟨#[73,78,67]⟩:ByteArray),(⟨#[84,83,84]⟩:ByteArray),(⟨#[67,76,82]⟩:ByteArray)] i_3) (IntKind.wrap .i64 (13+i_3)) (0))].length)*32≤140737488355328 then
 if 0≤(i_3:Int)∧i_3 < ln [(⟨#[78,69,71]⟩:ByteArray),(⟨#[67,79,77]⟩:ByteArray),(⟨#[76,83,82]⟩:ByteArray),(⟨#[82,79,82]⟩:ByteArray),(⟨#[65,83,82]⟩:ByteArray),(⟨#[65,83,76]⟩:ByteArray),(⟨#[82,79,76]⟩:ByteArray),(⟨#[68,69,67]⟩:ByteArray),(⟨#[73,78,67]⟩:ByteArray),(⟨#[84,83,84]⟩:ByteArray),(⟨#[67,76,82]⟩:ByteArray)] then
 (spinetref13_with (l_4++[(spinetref13_Row.mk (gt [(⟨#[78,69,71]⟩:ByteArray),(⟨#[67,79,77]⟩:ByteArray),(⟨#[76,83,82]⟩:ByteArray),(⟨#[82,79,82]⟩:ByteArray),(⟨#[65,83,82]⟩:ByteArray),(⟨#[65,83,76]⟩:ByteArray),(⟨#[82,79,76]⟩:ByteArray),(⟨#[68,69,67]⟩:ByteArray),(⟨#[73,78,67]⟩:ByteArray),(⟨#[84,83,84]⟩:ByteArray),(⟨#[67,76,82]⟩:ByteArray)] i_3) (IntKind.wrap .i64 (13+i_3)) (0))]) (gt [(⟨#[78,69,71]⟩:ByteArray),(⟨#[67,79,77]⟩:ByteArray),(⟨#[76,83,82]⟩:ByteArray),(⟨#[82,79,82]⟩:ByteArray),(⟨#[65,83,82]⟩:ByteArray),(⟨#[65,83,76]⟩:ByteArray),(⟨#[82,79,76]⟩:ByteArray),(⟨#[68,69,67]⟩:ByteArray),(⟨#[73,78,67]⟩:ByteArray),(⟨#[84,83,84]⟩:ByteArray),(⟨#[67,76,82]⟩:ByteArray)] i_3) (IntKind.wrap .i64 (13+i_3)) (⟨#[65,66]⟩:ByteArray)).bind fun r_5 =>
 spinetref13_Rows_l1 k r_5 (IntKind.wrap .i64 (i_3+1))
 else none
 else none
 else none
 else
 some l_4
def spinetref13_Rows_l2:Nat→(List spinetref13_Row)→Int→Option (List spinetref13_Row)
 | 0,_,_=>none
 | k+1,l_7,i_5 =>
 if (decide (i_5 < 16))=true then
 (spinetref12_Name i_5).bind fun r_16 =>
 if (((⟨#[66]⟩:ByteArray).size+r_16.size:Nat):Int)≤9223372036854775807 then
 if (l_7.length+[(spinetref13_Row.mk ((⟨#[66]⟩:ByteArray)++r_16) (34) i_5)].length)*32≤140737488355328 then
 if (decide (0 < i_5))=true then
 (spinetref12_Name i_5).bind fun r_17 =>
 if (((⟨#[76,66]⟩:ByteArray).size+r_17.size:Nat):Int)≤9223372036854775807 then
 if ((l_7++[(spinetref13_Row.mk ((⟨#[66]⟩:ByteArray)++r_16) (34) i_5)]).length+[(spinetref13_Row.mk ((⟨#[76,66]⟩:ByteArray)++r_17) (35) i_5)].length)*32≤140737488355328 then
 spinetref13_Rows_l2 k ((l_7++[(spinetref13_Row.mk ((⟨#[66]⟩:ByteArray)++r_16) (34) i_5)])++[(spinetref13_Row.mk ((⟨#[76,66]⟩:ByteArray)++r_17) (35) i_5)]) (IntKind.wrap .i64 (i_5+1))
 else none
 else none
 else
 spinetref13_Rows_l2 k (l_7++[(spinetref13_Row.mk ((⟨#[66]⟩:ByteArray)++r_16) (34) i_5)]) (IntKind.wrap .i64 (i_5+1))
 else none
 else none
 else
 some l_7
def spinetref13_Rows_l3:Nat→(List spinetref13_Row)→Int→Option (List spinetref13_Row)
 | 0,_,_=>none
 | k+1,l_10,i_7 =>
 if (decide (i_7 < (ln [(⟨#[76,66,82,65]⟩:ByteArray),(⟨#[66,83,82]⟩:ByteArray),(⟨#[76,66,83,82]⟩:ByteArray),(⟨#[78,79,80]⟩:ByteArray),(⟨#[83,89,78,67]⟩:ByteArray),(⟨#[67,87,65,73]⟩:ByteArray),(⟨#[68,65,65]⟩:ByteArray),(⟨#[79,82,67,67]⟩:ByteArray),(⟨#[65,78,68,67,67]⟩:ByteArray),(⟨#[83,69,88]⟩:ByteArray),(⟨#[69,88,71]⟩:ByteArray),(⟨#[84,70,82]⟩:ByteArray),(⟨#[82,84,83]⟩:ByteArray),(⟨#[82,84,73]⟩:ByteArray),(⟨#[77,85,76]⟩:ByteArray)])))=true then
 if 0≤(i_7:Int)∧i_7 < ln [(⟨#[76,66,82,65]⟩:ByteArray),(⟨#[66,83,82]⟩:ByteArray),(⟨#[76,66,83,82]⟩:ByteArray),(⟨#[78,79,80]⟩:ByteArray),(⟨#[83,89,78,67]⟩:ByteArray),(⟨#[67,87,65,73]⟩:ByteArray),(⟨#[68,65,65]⟩:ByteArray),(⟨#[79,82,67,67]⟩:ByteArray),(⟨#[65,78,68,67,67]⟩:ByteArray),(⟨#[83,69,88]⟩:ByteArray),(⟨#[69,88,71]⟩:ByteArray),(⟨#[84,70,82]⟩:ByteArray),(⟨#[82,84,83]⟩:ByteArray),(⟨#[82,84,73]⟩:ByteArray),(⟨#[77,85,76]⟩:ByteArray)] then
 if (l_10.length+[(spinetref13_Row.mk (gt [(⟨#[76,66,82,65]⟩:ByteArray),(⟨#[66,83,82]⟩:ByteArray),(⟨#[76,66,83,82]⟩:ByteArray),(⟨#[78,79,80]⟩:ByteArray),(⟨#[83,89,78,67]⟩:ByteArray),(⟨#[67,87,65,73]⟩:ByteArray),(⟨#[68,65,65]⟩:ByteArray),(⟨#[79,82,67,67]⟩:ByteArray),(⟨#[65,78,68,67,67]⟩:ByteArray),(⟨#[83,69,88]⟩:ByteArray),(⟨#[69,88,71]⟩:ByteArray),(⟨#[84,70,82]⟩:ByteArray),(⟨#[82,84,83]⟩:ByteArray),(⟨#[82,84,73]⟩:ByteArray),(⟨#[77,85,76]⟩:ByteArray)] i_7) (IntKind.wrap .i64 (36+i_7)) (0))].length)*32≤140737488355328 then
 spinetref13_Rows_l3 k (l_10++[(spinetref13_Row.mk (gt [(⟨#[76,66,82,65]⟩:ByteArray),(⟨#[66,83,82]⟩:ByteArray),(⟨#[76,66,83,82]⟩:ByteArray),(⟨#[78,79,80]⟩:ByteArray),(⟨#[83,89,78,67]⟩:ByteArray),(⟨#[67,87,65,73]⟩:ByteArray),(⟨#[68,65,65]⟩:ByteArray),(⟨#[79,82,67,67]⟩:ByteArray),(⟨#[65,78,68,67,67]⟩:ByteArray),(⟨#[83,69,88]⟩:ByteArray),(⟨#[69,88,71]⟩:ByteArray),(⟨#[84,70,82]⟩:ByteArray),(⟨#[82,84,83]⟩:ByteArray),(⟨#[82,84,73]⟩:ByteArray),(⟨#[77,85,76]⟩:ByteArray)] i_7) (IntKind.wrap .i64 (36+i_7)) (0))]) (IntKind.wrap .i64 (i_7+1))
 else none
 else none
 else
 some l_10
def spinetref13_Rows:Option ((List spinetref13_Row)) :=
 (spinetref13_Rows_l0 BIG ([]:List spinetref13_Row) (0)).bind fun l_2 =>
 (spinetref13_Rows_l1 BIG l_2 (0)).bind fun l_5 =>
 (spinetref13_with l_5 (⟨#[76,68]⟩:ByteArray) (24) (⟨#[68,88,89,85,83]⟩:ByteArray)).bind fun r_6 =>
 (spinetref13_with r_6 (⟨#[83,84]⟩:ByteArray) (25) (⟨#[68,88,89,85,83]⟩:ByteArray)).bind fun r_7 =>
 (spinetref13_with r_7 (⟨#[67,77,80]⟩:ByteArray) (28) (⟨#[68,88,89,85,83]⟩:ByteArray)).bind fun r_8 =>
 if (r_8.length+[(spinetref13_Row.mk (⟨#[65,68,68,68]⟩:ByteArray) (26) (0)),(spinetref13_Row.mk (⟨#[83,85,66,68]⟩:ByteArray) (27) (0))].length)*32≤140737488355328 then
 (spinetref13_with (r_8++[(spinetref13_Row.mk (⟨#[65,68,68,68]⟩:ByteArray) (26) (0)),(spinetref13_Row.mk (⟨#[83,85,66,68]⟩:ByteArray) (27) (0))]) (⟨#[76,69,65]⟩:ByteArray) (29) (⟨#[88,89,85,83]⟩:ByteArray)).bind fun r_9 =>
 (spinetref13_with r_9 (⟨#[80,83,72]⟩:ByteArray) (30) (⟨#[85,83]⟩:ByteArray)).bind fun r_10 =>
 (spinetref13_with r_10 (⟨#[80,85,76]⟩:ByteArray) (31) (⟨#[85,83]⟩:ByteArray)).bind fun r_11 =>
 (spinetref13_Rows_l2 BIG r_11 (0)).bind fun l_8 =>
 if (l_8.length+[(spinetref13_Row.mk (⟨#[83,87,73]⟩:ByteArray) (51) (1)),(spinetref13_Row.mk (⟨#[83,87,73,50]⟩:ByteArray) (51) (2)),(spinetref13_Row.mk (⟨#[83,87,73,51]⟩:ByteArray) (51) (3)),(spinetref13_Row.mk (⟨#[65,66,88]⟩:ByteArray) (1) (0)),(spinetref13_Row.mk (⟨#[74,77,80]⟩:ByteArray) (32) (0)),(spinetref13_Row.mk (⟨#[74,83,82]⟩:ByteArray) (33) (0))].length)*32≤140737488355328 then
 (spinetref13_Rows_l3 BIG (l_8++[(spinetref13_Row.mk (⟨#[83,87,73]⟩:ByteArray) (51) (1)),(spinetref13_Row.mk (⟨#[83,87,73,50]⟩:ByteArray) (51) (2)),(spinetref13_Row.mk (⟨#[83,87,73,51]⟩:ByteArray) (51) (3)),(spinetref13_Row.mk (⟨#[65,66,88]⟩:ByteArray) (1) (0)),(spinetref13_Row.mk (⟨#[74,77,80]⟩:ByteArray) (32) (0)),(spinetref13_Row.mk (⟨#[74,83,82]⟩:ByteArray) (33) (0))]) (0)).bind fun l_11 =>
 some l_11
 else none
 else none
def spinetref13_Name_l0 (op_:Int) (reg_:Int) (r_:((List spinetref13_Row))):Nat→Int→Option (Out (ByteArray) (Unit))
 | 0,_=>none
 | k+1,i_1 =>
 if (decide (i_1 < (ln r_)))=true then
 if 0≤(i_1:Int)∧i_1 < ln r_ then
 if ((gt r_ i_1).Op == op_)=true→0≤(i_1:Int)∧i_1 < ln r_ then
 if (((gt r_ i_1).Op == op_)&&((gt r_ i_1).Reg == reg_))=true then
 if 0≤(i_1:Int)∧i_1 < ln r_ then
 some (.ret ((gt r_ i_1).Name))
 else none
 else
 spinetref13_Name_l0 op_ reg_ r_ k (IntKind.wrap .i64 (i_1+1))
 else none
 else none
 else
 some (.go ())
def spinetref13_Name (op_:Int) (reg_:Int):Option (ByteArray) :=
 (spinetref13_Rows).bind fun r_ =>
 (spinetref13_Name_l0 op_ reg_ r_ BIG (0)).bind fun o=>match o with
 | .ret r=>some r
 | .go _ =>
 some (⟨#[]⟩:ByteArray)
def spinetref42_Text_j0 (rec:ByteArray→Int→Option ByteArray) (b_:(List Int)) (k_1:Int) (s_5:ByteArray):Option ByteArray :=
 if 0≤(k_1:Int)∧k_1 < ln b_ then
 (spinetref42_Hex (IntKind.wrap .i64 (gt b_ k_1)) (2)).bind fun r_3 =>
 if ((s_5.size+r_3.size:Nat):Int)≤9223372036854775807 then
 rec (s_5++r_3) (IntKind.wrap .i64 (k_1+1))
 else none
 else none
def spinetref42_Text_l0 (b_:(List Int)):Nat→ByteArray→Int→Option ByteArray
 | 0,_,_=>none
 | k+1,s_3,k_1 =>
 if (decide (k_1 < (ln b_)))=true then
 if (decide (0 < k_1))=true then
 if ((s_3.size+(⟨#[44]⟩:ByteArray).size:Nat):Int)≤9223372036854775807 then
 spinetref42_Text_j0 (spinetref42_Text_l0 b_ k) b_ k_1 (s_3++(⟨#[44]⟩:ByteArray))
 else none
 else
 spinetref42_Text_j0 (spinetref42_Text_l0 b_ k) b_ k_1 s_3
 else
 some s_3
def spinetref42_Text_j2 (i_:api_Inst) (o_:ByteArray):Option (ByteArray) :=
 (spinetref13_Name i_.Entry.Op i_.Entry.Reg).bind fun r_13 =>
 if (o_.toList == (⟨#[]⟩:ByteArray).toList)=true then
 some r_13
 else
 if ((r_13.size+(⟨#[32]⟩:ByteArray).size:Nat):Int)≤9223372036854775807 then
 if (((r_13++(⟨#[32]⟩:ByteArray)).size+o_.size:Nat):Int)≤9223372036854775807 then
 some ((r_13++(⟨#[32]⟩:ByteArray))++o_)
 else none
 else none
def spinetref42_Text_j1 (i_:api_Inst) (at_:Int) (t_:Bool):Option (ByteArray) :=
 if t_=true then
 (spinetref42_Hex (IntKind.wrap .i64 (IntKind.wrap .u16 ((IntKind.wrap .u16 (at_+(IntKind.wrap .u16 i_.Len)))+i_.Value))) (4)).bind fun r_9 =>
 spinetref42_Text_j2 i_ r_9
 else
 if (i_.Entry.Mode == 8)=true then
 (spinetref42_Reg (IntKind.wrap .i64 (IntKind.wrap .u8 (Int.tdiv i_.Post 16)))).bind fun r_10 =>
 if ((r_10.size+(⟨#[44]⟩:ByteArray).size:Nat):Int)≤9223372036854775807 then
 (spinetref42_Reg (IntKind.wrap .i64 (Int.tmod i_.Post 16))).bind fun r_11 =>
 if (((r_10++(⟨#[44]⟩:ByteArray)).size+r_11.size:Nat):Int)≤9223372036854775807 then
 spinetref42_Text_j2 i_ ((r_10++(⟨#[44]⟩:ByteArray))++r_11)
 else none
 else none
 else
 if (i_.Entry.Mode == 9)=true then
 (spinetref42_list i_.Post (i_.Entry.Reg == 3)).bind fun r_12 =>
 spinetref42_Text_j2 i_ r_12
 else
 spinetref42_Text_j2 i_ (⟨#[]⟩:ByteArray)
def spinetref42_Text (i_:api_Inst) (at_:Int) (b_:(List Int)):Option (ByteArray) :=
 (spinetref42_Sure i_).bind fun r_ =>
 if (!r_)=true then
 (spinetref42_Text_l0 b_ BIG (⟨#[70,67,66,32]⟩:ByteArray) (0)).bind fun s_4 =>
 some s_4
 else
 if (i_.Entry.Mode == 1)=true then
 (spinetref42_Hex (IntKind.wrap .i64 i_.Value) (2)).bind fun r_4 =>
 if (((⟨#[35]⟩:ByteArray).size+r_4.size:Nat):Int)≤9223372036854775807 then
 spinetref42_Text_j2 i_ ((⟨#[35]⟩:ByteArray)++r_4)
 else none
 else
 if (i_.Entry.Mode == 2)=true then
 (spinetref42_Hex (IntKind.wrap .i64 i_.Value) (4)).bind fun r_5 =>
 if (((⟨#[35]⟩:ByteArray).size+r_5.size:Nat):Int)≤9223372036854775807 then
 spinetref42_Text_j2 i_ ((⟨#[35]⟩:ByteArray)++r_5)
 else none
 else
 if (i_.Entry.Mode == 3)=true then
 (spinetref42_Hex (IntKind.wrap .i64 i_.Value) (2)).bind fun r_6 =>
 if (((⟨#[60]⟩:ByteArray).size+r_6.size:Nat):Int)≤9223372036854775807 then
 spinetref42_Text_j2 i_ ((⟨#[60]⟩:ByteArray)++r_6)
 else none
 else
 if (i_.Entry.Mode == 4)=true then
 (spinetref42_indexed i_.Post i_.Value).bind fun r_7 =>
 spinetref42_Text_j2 i_ r_7
 else
 if (i_.Entry.Mode == 5)=true then
 (spinetref42_Hex (IntKind.wrap .i64 i_.Value) (4)).bind fun r_8 =>
 if (((⟨#[62]⟩:ByteArray).size+r_8.size:Nat):Int)≤9223372036854775807 then
 spinetref42_Text_j2 i_ ((⟨#[62]⟩:ByteArray)++r_8)
 else none
 else
 if (i_.Entry.Mode == 6)=true then
 spinetref42_Text_j1 i_ at_ (i_.Entry.Mode == 6)
 else
 spinetref42_Text_j1 i_ at_ (i_.Entry.Mode == 7)
def spinetlaw42_alive:Option (Bool) :=
 (spinetref18_Of [166,132]).bind fun r_ =>
 (spinetref18_Of [32,254]).bind fun r_1 =>
 ((if (r_.2&&r_1.2)=true then dis_Text r_.1 (0) else some default)).bind fun r_2 =>
 ((if ((r_.2&&r_1.2)&&(r_2.toList == (⟨#[76,68,65,32,44,88]⟩:ByteArray).toList))=true then dis_Text r_1.1 (4096) else some default)).bind fun r_3 =>
 some (((r_.2&&r_1.2)&&(r_2.toList == (⟨#[76,68,65,32,44,88]⟩:ByteArray).toList))&&(r_3.toList == (⟨#[66,82,65,32,36,49,48,48,48]⟩:ByteArray).toList))
def spinetlaw42_DisLines_l5 (r_:((List Int) × Bool)) (t_1:Int):Nat→(List Int)→Int→Option (List Int)
 | 0,_,_=>none
 | k+1,l_7,k_5 =>
 if (decide (k_5 < 5))=true then
 if 0≤((Int.tmod (IntKind.wrap .i64 ((IntKind.wrap .i64 t_1)+k_5)) 65536):Int)∧(Int.tmod (IntKind.wrap .i64 ((IntKind.wrap .i64 t_1)+k_5)) 65536) < ln r_.1 then
 if (l_7.length+[(gt r_.1 (Int.tmod (IntKind.wrap .i64 ((IntKind.wrap .i64 t_1)+k_5)) 65536))].length)*1≤140737488355328 then
 spinetlaw42_DisLines_l5 r_ t_1 k (l_7++[(gt r_.1 (Int.tmod (IntKind.wrap .i64 ((IntKind.wrap .i64 t_1)+k_5)) 65536))]) (IntKind.wrap .i64 (k_5+1))
 else none
 else none
 else
 some l_7
def spinetlaw42_DisLines_l6:Nat→ByteArray→Option ByteArray
 | 0,_=>none
 | k+1,want_7 =>
 if (decide ((sln want_7) < 16))=true then
 if ((want_7.size+(⟨#[32]⟩:ByteArray).size:Nat):Int)≤9223372036854775807 then
 spinetlaw42_DisLines_l6 k (want_7++(⟨#[32]⟩:ByteArray))
 else none
 else
 some want_7
def spinetlaw42_DisLines_l4 (r_:((List Int) × Bool)) (r_1:(RamT × Int)) (r_2:((List ByteArray))):Nat→Int→Int→Option (Out (Bool) (Unit))
 | 0,_,_=>none
 | k+1,t_1,n_1 =>
 if (decide (n_1 < (ln r_2)))=true then
 (spinetlaw42_DisLines_l5 r_ t_1 BIG ([]:List Int) (0)).bind fun l_8 =>
 (spinetref18_Of l_8).bind fun r_13 =>
 (spinetref02_Digits (IntKind.wrap .u64 t_1) (16) (4)).bind fun r_14 =>
 if ((r_14.size+(⟨#[32]⟩:ByteArray).size:Nat):Int)≤9223372036854775807 then
 if 0≤(r_13.1.Len:Int)∧r_13.1.Len≤(ln l_8) then
 (spinetref02_Pairs ((l_8.drop 0).take ((r_13.1.Len:Int).toNat - 0))).bind fun r_15 =>
 if (((r_14++(⟨#[32]⟩:ByteArray)).size+r_15.size:Nat):Int)≤9223372036854775807 then
 (spinetlaw42_DisLines_l6 BIG ((r_14++(⟨#[32]⟩:ByteArray))++r_15)).bind fun want_8 =>
 if 0≤(r_13.1.Len:Int)∧r_13.1.Len≤(ln l_8) then
 (spinetref42_Text r_13.1 t_1 ((l_8.drop 0).take ((r_13.1.Len:Int).toNat - 0))).bind fun r_16 =>
 if ((want_8.size+r_16.size:Nat):Int)≤9223372036854775807 then
 (dis_Line t_1 r_1.1).bind fun r_17 =>
 if 0≤(n_1:Int)∧n_1 < ln r_2 then
 if (((!((gt r_2 n_1).toList == (want_8++r_16).toList))||(!(r_17.1.toList == (want_8++r_16).toList)))||(r_17.2 != (IntKind.wrap .u16 (t_1+(IntKind.wrap .u16 r_13.1.Len)))))=true then
 some (.ret false)
 else
 spinetlaw42_DisLines_l4 r_ r_1 r_2 k r_17.2 (IntKind.wrap .i64 (n_1+1))
 else none
 else none
 else none
 else none
 else none
 else none
 else
 some (.go ())
def spinetlaw42_DisLines (w_:spinetlaw34_World) (at_:Int) (many_:Int):Option (Bool) :=
 (spinetlaw34_Image w_).bind fun r_ =>
 if ((!r_.2)||(decide (30 < many_)))=true then
 some true
 else
 (ram_New r_.1 (65536)).bind fun r_1 =>
 if (false||(r_1.2 != 0))=true then
 some false
 else
 (dis_Lines at_ many_ r_1.1).bind fun r_2 =>
 if ((ln r_2) != (if 0 > many_ then 0 else many_))=true then
 some false
 else
 (spinetlaw42_DisLines_l4 r_ r_1 r_2 BIG at_ (0)).bind fun o=>match o with
 | .ret r=>some r
 | .go _ =>
 (spinetlaw42_alive).bind fun r_18 =>
 some r_18
end Go.Proofs.YtfcegejpdlbkdaaGreatK
