/- What the evaluator of the abstract machine knows of this seat's types, by program (tys.py), and that it is so. -/
import Derived.Test.YtddefjokgaajfaaGreatDoorProg
import Derived.Test.YtddefjokgaajfaaGreatDoorUB
set_option linter.all false
set_option linter.unusedVariables false
set_option linter.unusedSimpArgs false
namespace Go.Proofs.YtddefjokgaajfaaGreatDoor.AM
open Go Go.RowKit
set_option maxRecDepth 100000
def zY:Ty:=⟨.int .i64,1,8,(.int .i64 0),false⟩
theorem WU:TyOk Tryz.prog 3 zY:=⟨Tryz.underlying3,TyOk.of_info (by kernel_rfl),fun h=>(by cases h)⟩
def AY:Ty:=⟨.bool,1,1,(.bool false),false⟩
theorem XU:TyOk Tryz.prog 4 AY:=⟨Tryz.underlying4,TyOk.of_info (by kernel_rfl),fun h=>(by cases h)⟩
def BY:Ty:=⟨.int .u8,1,1,(.int .u8 0),false⟩
theorem YU:TyOk Tryz.prog 5 BY:=⟨Tryz.underlying5,TyOk.of_info (by kernel_rfl),fun h=>(by cases h)⟩
def CY:Ty:=⟨.string,1,16,(.string ⟨#[]⟩),false⟩
theorem gS:TyOk Tryz.prog 9 CY:=⟨Tryz.underlying9,TyOk.of_info (by kernel_rfl),fun h=>(by cases h)⟩
def sW:Ty:=⟨.string,1,16,(.string ⟨#[]⟩),false⟩
theorem xT:TyOk Tryz.prog 10 sW:=⟨Tryz.underlying10,TyOk.of_info (by kernel_rfl),fun h=>(by cases h)⟩
def tW:Ty:=⟨.interface #[],1,16,.nilIface,false⟩
theorem yT:TyOk Tryz.prog 20 tW:=⟨Tryz.underlying20,TyOk.of_info (by kernel_rfl),fun h=>(by cases h)⟩
def uW:Ty:=⟨.int .i32,1,4,(.int .i32 0),false⟩
theorem BT:TyOk Tryz.prog 21 uW:=⟨Tryz.underlying21,TyOk.of_info (by kernel_rfl),fun h=>(by cases h)⟩
def vW:Ty:=⟨.slice 3,1,24,(.slice none 0 0),false⟩
theorem DT:TyOk Tryz.prog 22 vW:=⟨Tryz.underlying22,TyOk.of_info (by kernel_rfl),fun h=>(by cases h)⟩
def wW:Ty:=⟨.slice 33,1,24,(.slice none 0 0),false⟩
theorem ET:TyOk Tryz.prog 23 wW:=⟨Tryz.underlying23,TyOk.of_info (by kernel_rfl),fun h=>(by cases h)⟩
def xW:Ty:=⟨.struct #[⟨"Lmtp",4,0,false, "", "",0⟩,⟨"Refuse",22,1,false, "", "",8⟩,⟨"L",23,2,false, "", "",32⟩],3,56,(.agg #[(.bool false),(.slice none 0 0),(.slice none 0 0)]),false⟩
theorem FT:TyOk Tryz.prog 25 xW:=⟨Tryz.underlying25,TyOk.of_info (by kernel_rfl),fun h=>(by cases h)⟩
def yW:Ty:=⟨.pointer 71,1,8,(.pointer none),false⟩
theorem GT:TyOk Tryz.prog 27 yW:=⟨Tryz.underlying27,TyOk.of_info (by kernel_rfl),fun h=>(by cases h)⟩
def zW:Ty:=⟨.slice 5,1,24,(.slice none 0 0),false⟩
theorem HT:TyOk Tryz.prog 33 zW:=⟨Tryz.underlying33,TyOk.of_info (by kernel_rfl),fun h=>(by cases h)⟩
def AW:Ty:=⟨.slice 9,1,24,(.slice none 0 0),false⟩
theorem IT:TyOk Tryz.prog 37 AW:=⟨Tryz.underlying37,TyOk.of_info (by kernel_rfl),fun h=>(by cases h)⟩
def BW:Ty:=⟨.struct #[⟨"Rest",9,0,false, "", "",0⟩,⟨"Skip",4,1,false, "", "",16⟩],2,24,(.agg #[(.string ⟨#[]⟩),(.bool false)]),true⟩
theorem JT:TyOk Tryz.prog 45 BW:=⟨Tryz.underlying45,TyOk.of_info (by kernel_rfl),fun _=>⟨by kernel_rfl,by kernel_rfl,by kernel_rfl⟩⟩
def CW:Ty:=⟨.struct #[⟨"Local",9,0,false, "", "",0⟩,⟨"Domain",9,1,false, "", "",16⟩],2,32,(.agg #[(.string ⟨#[]⟩),(.string ⟨#[]⟩)]),true⟩
theorem DP:TyOk Tryz.prog 47 CW:=⟨Tryz.underlying47,TyOk.of_info (by kernel_rfl),fun _=>⟨by kernel_rfl,by kernel_rfl,by kernel_rfl⟩⟩
def DW:Ty:=⟨.slice 47,1,24,(.slice none 0 0),false⟩
theorem KT:TyOk Tryz.prog 48 DW:=⟨Tryz.underlying48,TyOk.of_info (by kernel_rfl),fun h=>(by cases h)⟩
def EW:Ty:=⟨.struct #[⟨"ID",3,0,false, "", "",0⟩,⟨"Tenant",3,1,false, "", "",8⟩,⟨"IP",3,2,false, "", "",16⟩,⟨"Framer",45,3,false, "", "",24⟩,⟨"State",3,5,false, "", "",48⟩,⟨"Hello",9,6,false, "", "",56⟩,⟨"Null",4,7,false, "", "",72⟩,⟨"From",47,8,false, "", "",80⟩,⟨"To",48,10,false, "", "",112⟩,⟨"Data",37,11,false, "", "",136⟩,⟨"Bytes",3,12,false, "", "",160⟩,⟨"Over",4,13,false, "", "",168⟩],14,176,(.agg #[(.int .i64 0),(.int .i64 0),(.int .i64 0),(.string ⟨#[]⟩),(.bool false),(.int .i64 0),(.string ⟨#[]⟩),(.bool false),(.string ⟨#[]⟩),(.string ⟨#[]⟩),(.slice none 0 0),(.slice none 0 0),(.int .i64 0),(.bool false)]),false⟩
theorem LT:TyOk Tryz.prog 50 EW:=⟨Tryz.underlying50,TyOk.of_info (by kernel_rfl),fun h=>(by cases h)⟩
def FW:Ty:=⟨.slice 67,1,24,(.slice none 0 0),false⟩
theorem MT:TyOk Tryz.prog 51 FW:=⟨Tryz.underlying51,TyOk.of_info (by kernel_rfl),fun h=>(by cases h)⟩
def GW:Ty:=⟨.struct #[⟨"C",50,0,false, "", "",0⟩,⟨"L",51,14,false, "", "",176⟩],15,200,(.agg #[(.int .i64 0),(.int .i64 0),(.int .i64 0),(.string ⟨#[]⟩),(.bool false),(.int .i64 0),(.string ⟨#[]⟩),(.bool false),(.string ⟨#[]⟩),(.string ⟨#[]⟩),(.slice none 0 0),(.slice none 0 0),(.int .i64 0),(.bool false),(.slice none 0 0)]),false⟩
theorem NT:TyOk Tryz.prog 53 GW:=⟨Tryz.underlying53,TyOk.of_info (by kernel_rfl),fun h=>(by cases h)⟩
def HW:Ty:=⟨.int .i64,1,8,(.int .i64 0),false⟩
theorem OT:TyOk Tryz.prog 54 HW:=⟨Tryz.underlying54,TyOk.of_info (by kernel_rfl),fun h=>(by cases h)⟩
def IW:Ty:=⟨.struct #[⟨"Text",9,0,false, "", "",0⟩,⟨"Long",4,1,false, "", "",16⟩],2,24,(.agg #[(.string ⟨#[]⟩),(.bool false)]),true⟩
theorem PT:TyOk Tryz.prog 60 IW:=⟨Tryz.underlying60,TyOk.of_info (by kernel_rfl),fun _=>⟨by kernel_rfl,by kernel_rfl,by kernel_rfl⟩⟩
def JW:Ty:=⟨.struct #[⟨"Kind",3,0,false, "", "",0⟩,⟨"Word",9,1,false, "", "",8⟩,⟨"Null",4,2,false, "", "",24⟩,⟨"Box",47,3,false, "", "",32⟩,⟨"Size",3,5,false, "", "",64⟩],6,72,(.agg #[(.int .i64 0),(.string ⟨#[]⟩),(.bool false),(.string ⟨#[]⟩),(.string ⟨#[]⟩),(.int .i64 0)]),true⟩
theorem QT:TyOk Tryz.prog 63 JW:=⟨Tryz.underlying63,TyOk.of_info (by kernel_rfl),fun _=>⟨by kernel_rfl,by kernel_rfl,by kernel_rfl⟩⟩
def KW:Ty:=⟨.struct #[⟨"Do",3,0,false, "", "",0⟩,⟨"N",3,1,false, "", "",8⟩,⟨"M",3,2,false, "", "",16⟩,⟨"L",60,3,false, "", "",24⟩,⟨"V",63,5,false, "", "",48⟩],11,120,(.agg #[(.int .i64 0),(.int .i64 0),(.int .i64 0),(.string ⟨#[]⟩),(.bool false),(.int .i64 0),(.string ⟨#[]⟩),(.bool false),(.string ⟨#[]⟩),(.string ⟨#[]⟩),(.int .i64 0)]),true⟩
theorem ST:TyOk Tryz.prog 67 KW:=⟨Tryz.underlying67,TyOk.of_info (by kernel_rfl),fun _=>⟨by kernel_rfl,by kernel_rfl,by kernel_rfl⟩⟩
def LW:Ty:=⟨.struct #[⟨"lmtp",4,0,false, "", "pouch/peer",0⟩,⟨"refuse",22,1,false, "", "pouch/peer",8⟩,⟨"f",45,2,false, "", "pouch/peer",32⟩,⟨"from",9,4,false, "", "pouch/peer",56⟩,⟨"to",37,5,false, "", "pouch/peer",72⟩,⟨"text",9,6,false, "", "pouch/peer",96⟩,⟨"in",4,7,false, "", "pouch/peer",112⟩,⟨"got",37,8,false, "", "pouch/peer",120⟩,⟨"out",9,9,false, "", "pouch/peer",144⟩],10,160,(.agg #[(.bool false),(.slice none 0 0),(.string ⟨#[]⟩),(.bool false),(.string ⟨#[]⟩),(.slice none 0 0),(.string ⟨#[]⟩),(.bool false),(.slice none 0 0),(.string ⟨#[]⟩)]),false⟩
theorem TT:TyOk Tryz.prog 71 LW:=⟨Tryz.underlying71,TyOk.of_info (by kernel_rfl),fun h=>(by cases h)⟩
def MW:Ty:=⟨.slice 60,1,24,(.slice none 0 0),false⟩
theorem UT:TyOk Tryz.prog 75 MW:=⟨Tryz.underlying75,TyOk.of_info (by kernel_rfl),fun h=>(by cases h)⟩
def NW:Ty:=⟨.int .u64,1,8,(.int .u64 0),false⟩
theorem VT:TyOk Tryz.prog 81 NW:=⟨Tryz.underlying81,TyOk.of_info (by kernel_rfl),fun h=>(by cases h)⟩
def OW:Ty:=⟨.struct #[⟨"Code",3,0,false, "", "",0⟩,⟨"Lines",37,1,false, "", "",8⟩],2,32,(.agg #[(.int .i64 0),(.slice none 0 0)]),false⟩
theorem WT:TyOk Tryz.prog 94 OW:=⟨Tryz.underlying94,TyOk.of_info (by kernel_rfl),fun h=>(by cases h)⟩
def NU:Ty:=⟨.pointer 126,1,8,(.pointer none),false⟩
theorem oR:TyOk Tryz.prog 124 NU:=⟨Tryz.underlying124,TyOk.of_info (by kernel_rfl),fun h=>(by cases h)⟩
def OU:Ty:=⟨.struct #[⟨"addr",124,0,false, "", "strings",0⟩,⟨"buf",33,1,false, "", "strings",8⟩],2,32,(.agg #[(.pointer none),(.slice none 0 0)]),false⟩
theorem pR:TyOk Tryz.prog 126 OU:=⟨Tryz.underlying126,TyOk.of_info (by kernel_rfl),fun h=>(by cases h)⟩
def PU:Ty:=⟨.interface #[("Error",30)],1,16,.nilIface,false⟩
theorem qR:TyOk Tryz.prog 128 PU:=⟨Tryz.underlying128,TyOk.of_info (by kernel_rfl),fun h=>(by cases h)⟩
def QU:Ty:=⟨.pointer 54,1,8,(.pointer none),false⟩
theorem rR:TyOk Tryz.prog 143 QU:=⟨Tryz.underlying143,TyOk.of_info (by kernel_rfl),fun h=>(by cases h)⟩
def RU:Ty:=⟨.pointer 5,1,8,(.pointer none),false⟩
theorem sR:TyOk Tryz.prog 147 RU:=⟨Tryz.underlying147,TyOk.of_info (by kernel_rfl),fun h=>(by cases h)⟩
def SU:Ty:=⟨.struct #[⟨"e",54,0,false, "", "pouch/verb",0⟩],1,8,(.agg #[(.int .i64 0)]),true⟩
theorem tR:TyOk Tryz.prog 159 SU:=⟨Tryz.underlying159,TyOk.of_info (by kernel_rfl),fun _=>⟨by kernel_rfl,by kernel_rfl,by kernel_rfl⟩⟩
def TU:Ty:=⟨.unsafePointer,1,8,(.pointer none),false⟩
theorem uR:TyOk Tryz.prog 166 TU:=⟨Tryz.underlying166,TyOk.of_info (by kernel_rfl),fun h=>(by cases h)⟩
def UU:Ty:=⟨.struct #[⟨"e",54,0,false, "", "pouch/addr",0⟩],1,8,(.agg #[(.int .i64 0)]),true⟩
theorem vR:TyOk Tryz.prog 184 UU:=⟨Tryz.underlying184,TyOk.of_info (by kernel_rfl),fun _=>⟨by kernel_rfl,by kernel_rfl,by kernel_rfl⟩⟩
def VU:Ty:=⟨.array 10 9,10,160,(.agg #[(.string ⟨#[]⟩),(.string ⟨#[]⟩),(.string ⟨#[]⟩),(.string ⟨#[]⟩),(.string ⟨#[]⟩),(.string ⟨#[]⟩),(.string ⟨#[]⟩),(.string ⟨#[]⟩),(.string ⟨#[]⟩),(.string ⟨#[]⟩)]),false⟩
theorem wR:TyOk Tryz.prog 199 VU:=⟨Tryz.underlying199,TyOk.of_info (by kernel_rfl),fun h=>(by cases h)⟩
def tys:nX:=[none,none,none,some zY,some AY,some BY,none,none,none,some CY,some sW,none,none,none,none,none,none,none,none,none,some tW,some uW,some vW,some wW,none,some xW,none,some yW,none,none,none,none,none,some zW,none,none,none,some AW,none,none,none,none,none,none,none,some BW,none,some CW,some DW,none,some EW,some FW,none,some GW,some HW,none,none,none,none,none,some IW,none,none,some JW,none,none,none,some KW,none,none,none,some LW,none,none,none,some MW,none,none,none,none,none,some NW,none,none,none,none,none,none,none,none,none,none,none,none,some OW,none,none,none,none,none,none,none,none,none,none,none,none,none,none,none,none,none,none,none,none,none,none,none,none,none,none,none,none,none,some NU,none,some OU,none,some PU,none,none,none,none,none,none,none,none,none,none,none,none,none,none,some QU,none,none,none,some RU,none,none,none,none,none,none,none,none,none,none,none,some SU,none,none,none,none,none,none,some TU,none,none,none,none,none,none,none,none,none,none,none,none,none,none,none,none,none,some UU,none,none,none,none,none,none,none,none,none,none,none,none,none,none,some VU,none,none,none,none,none,none,none,none,none,none,none,none,none,none,none,none,none,none,none,none,none,none,none,none,none,none,none,none,none,none,none,none,none,none,none,none,none,none,none,none,none,none]
theorem tys_ok:Sa Tryz.prog tys:=eP (show FH Tryz.prog 0 tys from ⟨WU,XU,YU,gS,xT,yT,BT,DT,ET,FT,GT,HT,IT,JT,DP,KT,LT,MT,NT,OT,PT,QT,ST,TT,UT,VT,WT,oR,pR,qR,rR,sR,tR,uR,vR,wR,trivial⟩)
theorem mixed:Tryz.prog.follows .mixedOrders=true:=by kernel_rfl
end Go.Proofs.YtddefjokgaajfaaGreatDoor.AM
