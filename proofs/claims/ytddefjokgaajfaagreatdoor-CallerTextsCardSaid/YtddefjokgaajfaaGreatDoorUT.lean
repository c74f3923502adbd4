/- What the evaluator of the abstract machine knows of this seat's types, by program (tys.py), and that it is so. -/
import Derived.Test.YtddefjokgaajfaaGreatDoorProg
import Derived.Test.YtddefjokgaajfaaGreatDoorUB
set_option linter.all false
set_option linter.unusedVariables false
set_option linter.unusedSimpArgs false
namespace Go.Proofs.YtddefjokgaajfaaGreatDoor.AM
open Go Go.RowKit
set_option maxRecDepth 100000
def wX:Ty:=⟨.int .i64,1,8,(.int .i64 0),false⟩
theorem dU:TyOk Tryz.prog 3 wX:=⟨Tryz.underlying3,TyOk.of_info (by kernel_rfl),fun h=>(by cases h)⟩
def xX:Ty:=⟨.bool,1,1,(.bool false),false⟩
theorem eU:TyOk Tryz.prog 4 xX:=⟨Tryz.underlying4,TyOk.of_info (by kernel_rfl),fun h=>(by cases h)⟩
def yX:Ty:=⟨.int .u8,1,1,(.int .u8 0),false⟩
theorem fU:TyOk Tryz.prog 5 yX:=⟨Tryz.underlying5,TyOk.of_info (by kernel_rfl),fun h=>(by cases h)⟩
def zX:Ty:=⟨.string,1,16,(.string ⟨#[]⟩),false⟩
theorem tR:TyOk Tryz.prog 9 zX:=⟨Tryz.underlying9,TyOk.of_info (by kernel_rfl),fun h=>(by cases h)⟩
def wV:Ty:=⟨.string,1,16,(.string ⟨#[]⟩),false⟩
theorem KS:TyOk Tryz.prog 10 wV:=⟨Tryz.underlying10,TyOk.of_info (by kernel_rfl),fun h=>(by cases h)⟩
def xV:Ty:=⟨.interface #[],1,16,.nilIface,false⟩
theorem LS:TyOk Tryz.prog 20 xV:=⟨Tryz.underlying20,TyOk.of_info (by kernel_rfl),fun h=>(by cases h)⟩
def yV:Ty:=⟨.int .i32,1,4,(.int .i32 0),false⟩
theorem MS:TyOk Tryz.prog 21 yV:=⟨Tryz.underlying21,TyOk.of_info (by kernel_rfl),fun h=>(by cases h)⟩
def zV:Ty:=⟨.slice 3,1,24,(.slice none 0 0),false⟩
theorem NS:TyOk Tryz.prog 22 zV:=⟨Tryz.underlying22,TyOk.of_info (by kernel_rfl),fun h=>(by cases h)⟩
def BV:Ty:=⟨.slice 5,1,24,(.slice none 0 0),false⟩
theorem OS:TyOk Tryz.prog 33 BV:=⟨Tryz.underlying33,TyOk.of_info (by kernel_rfl),fun h=>(by cases h)⟩
def CV:Ty:=⟨.slice 9,1,24,(.slice none 0 0),false⟩
theorem PS:TyOk Tryz.prog 37 CV:=⟨Tryz.underlying37,TyOk.of_info (by kernel_rfl),fun h=>(by cases h)⟩
def DV:Ty:=⟨.struct #[⟨"Rest",9,0,false, "", "",0⟩,⟨"Skip",4,1,false, "", "",16⟩],2,24,(.agg #[(.string ⟨#[]⟩),(.bool false)]),true⟩
theorem QS:TyOk Tryz.prog 45 DV:=⟨Tryz.underlying45,TyOk.of_info (by kernel_rfl),fun _=>⟨by kernel_rfl,by kernel_rfl,by kernel_rfl⟩⟩
def EV:Ty:=⟨.struct #[⟨"Local",9,0,false, "", "",0⟩,⟨"Domain",9,1,false, "", "",16⟩],2,32,(.agg #[(.string ⟨#[]⟩),(.string ⟨#[]⟩)]),true⟩
theorem ZO:TyOk Tryz.prog 47 EV:=⟨Tryz.underlying47,TyOk.of_info (by kernel_rfl),fun _=>⟨by kernel_rfl,by kernel_rfl,by kernel_rfl⟩⟩
def FV:Ty:=⟨.slice 47,1,24,(.slice none 0 0),false⟩
theorem SS:TyOk Tryz.prog 48 FV:=⟨Tryz.underlying48,TyOk.of_info (by kernel_rfl),fun h=>(by cases h)⟩
def GV:Ty:=⟨.struct #[⟨"ID",3,0,false, "", "",0⟩,⟨"Tenant",3,1,false, "", "",8⟩,⟨"IP",3,2,false, "", "",16⟩,⟨"Framer",45,3,false, "", "",24⟩,⟨"State",3,5,false, "", "",48⟩,⟨"Hello",9,6,false, "", "",56⟩,⟨"Null",4,7,false, "", "",72⟩,⟨"From",47,8,false, "", "",80⟩,⟨"To",48,10,false, "", "",112⟩,⟨"Data",37,11,false, "", "",136⟩,⟨"Bytes",3,12,false, "", "",160⟩,⟨"Over",4,13,false, "", "",168⟩],14,176,(.agg #[(.int .i64 0),(.int .i64 0),(.int .i64 0),(.string ⟨#[]⟩),(.bool false),(.int .i64 0),(.string ⟨#[]⟩),(.bool false),(.string ⟨#[]⟩),(.string ⟨#[]⟩),(.slice none 0 0),(.slice none 0 0),(.int .i64 0),(.bool false)]),false⟩
theorem TS:TyOk Tryz.prog 50 GV:=⟨Tryz.underlying50,TyOk.of_info (by kernel_rfl),fun h=>(by cases h)⟩
def HV:Ty:=⟨.slice 67,1,24,(.slice none 0 0),false⟩
theorem US:TyOk Tryz.prog 51 HV:=⟨Tryz.underlying51,TyOk.of_info (by kernel_rfl),fun h=>(by cases h)⟩
def IV:Ty:=⟨.struct #[⟨"C",50,0,false, "", "",0⟩,⟨"L",51,14,false, "", "",176⟩],15,200,(.agg #[(.int .i64 0),(.int .i64 0),(.int .i64 0),(.string ⟨#[]⟩),(.bool false),(.int .i64 0),(.string ⟨#[]⟩),(.bool false),(.string ⟨#[]⟩),(.string ⟨#[]⟩),(.slice none 0 0),(.slice none 0 0),(.int .i64 0),(.bool false),(.slice none 0 0)]),false⟩
theorem WS:TyOk Tryz.prog 53 IV:=⟨Tryz.underlying53,TyOk.of_info (by kernel_rfl),fun h=>(by cases h)⟩
def JV:Ty:=⟨.int .i64,1,8,(.int .i64 0),false⟩
theorem XS:TyOk Tryz.prog 54 JV:=⟨Tryz.underlying54,TyOk.of_info (by kernel_rfl),fun h=>(by cases h)⟩
def KV:Ty:=⟨.struct #[⟨"Text",9,0,false, "", "",0⟩,⟨"Long",4,1,false, "", "",16⟩],2,24,(.agg #[(.string ⟨#[]⟩),(.bool false)]),true⟩
theorem YS:TyOk Tryz.prog 60 KV:=⟨Tryz.underlying60,TyOk.of_info (by kernel_rfl),fun _=>⟨by kernel_rfl,by kernel_rfl,by kernel_rfl⟩⟩
def LV:Ty:=⟨.struct #[⟨"Kind",3,0,false, "", "",0⟩,⟨"Word",9,1,false, "", "",8⟩,⟨"Null",4,2,false, "", "",24⟩,⟨"Box",47,3,false, "", "",32⟩,⟨"Size",3,5,false, "", "",64⟩],6,72,(.agg #[(.int .i64 0),(.string ⟨#[]⟩),(.bool false),(.string ⟨#[]⟩),(.string ⟨#[]⟩),(.int .i64 0)]),true⟩
theorem ZS:TyOk Tryz.prog 63 LV:=⟨Tryz.underlying63,TyOk.of_info (by kernel_rfl),fun _=>⟨by kernel_rfl,by kernel_rfl,by kernel_rfl⟩⟩
def MV:Ty:=⟨.struct #[⟨"Do",3,0,false, "", "",0⟩,⟨"N",3,1,false, "", "",8⟩,⟨"M",3,2,false, "", "",16⟩,⟨"L",60,3,false, "", "",24⟩,⟨"V",63,5,false, "", "",48⟩],11,120,(.agg #[(.int .i64 0),(.int .i64 0),(.int .i64 0),(.string ⟨#[]⟩),(.bool false),(.int .i64 0),(.string ⟨#[]⟩),(.bool false),(.string ⟨#[]⟩),(.string ⟨#[]⟩),(.int .i64 0)]),true⟩
theorem aT:TyOk Tryz.prog 67 MV:=⟨Tryz.underlying67,TyOk.of_info (by kernel_rfl),fun _=>⟨by kernel_rfl,by kernel_rfl,by kernel_rfl⟩⟩
def UT:Ty:=⟨.pointer 126,1,8,(.pointer none),false⟩
theorem FQ:TyOk Tryz.prog 124 UT:=⟨Tryz.underlying124,TyOk.of_info (by kernel_rfl),fun h=>(by cases h)⟩
def VT:Ty:=⟨.struct #[⟨"addr",124,0,false, "", "strings",0⟩,⟨"buf",33,1,false, "", "strings",8⟩],2,32,(.agg #[(.pointer none),(.slice none 0 0)]),false⟩
theorem GQ:TyOk Tryz.prog 126 VT:=⟨Tryz.underlying126,TyOk.of_info (by kernel_rfl),fun h=>(by cases h)⟩
def WT:Ty:=⟨.interface #[("Error",30)],1,16,.nilIface,false⟩
theorem HQ:TyOk Tryz.prog 128 WT:=⟨Tryz.underlying128,TyOk.of_info (by kernel_rfl),fun h=>(by cases h)⟩
def XT:Ty:=⟨.pointer 54,1,8,(.pointer none),false⟩
theorem IQ:TyOk Tryz.prog 143 XT:=⟨Tryz.underlying143,TyOk.of_info (by kernel_rfl),fun h=>(by cases h)⟩
def YT:Ty:=⟨.pointer 5,1,8,(.pointer none),false⟩
theorem JQ:TyOk Tryz.prog 147 YT:=⟨Tryz.underlying147,TyOk.of_info (by kernel_rfl),fun h=>(by cases h)⟩
def ZT:Ty:=⟨.struct #[⟨"e",54,0,false, "", "pouch/verb",0⟩],1,8,(.agg #[(.int .i64 0)]),true⟩
theorem KQ:TyOk Tryz.prog 159 ZT:=⟨Tryz.underlying159,TyOk.of_info (by kernel_rfl),fun _=>⟨by kernel_rfl,by kernel_rfl,by kernel_rfl⟩⟩
def aU:Ty:=⟨.unsafePointer,1,8,(.pointer none),false⟩
theorem LQ:TyOk Tryz.prog 166 aU:=⟨Tryz.underlying166,TyOk.of_info (by kernel_rfl),fun h=>(by cases h)⟩
def bU:Ty:=⟨.struct #[⟨"e",54,0,false, "", "pouch/addr",0⟩],1,8,(.agg #[(.int .i64 0)]),true⟩
theorem MQ:TyOk Tryz.prog 184 bU:=⟨Tryz.underlying184,TyOk.of_info (by kernel_rfl),fun _=>⟨by kernel_rfl,by kernel_rfl,by kernel_rfl⟩⟩
def cU:Ty:=⟨.array 10 9,10,160,(.agg #[(.string ⟨#[]⟩),(.string ⟨#[]⟩),(.string ⟨#[]⟩),(.string ⟨#[]⟩),(.string ⟨#[]⟩),(.string ⟨#[]⟩),(.string ⟨#[]⟩),(.string ⟨#[]⟩),(.string ⟨#[]⟩),(.string ⟨#[]⟩)]),false⟩
theorem NQ:TyOk Tryz.prog 199 cU:=⟨Tryz.underlying199,TyOk.of_info (by kernel_rfl),fun h=>(by cases h)⟩
def tys:mW:=[none,none,none,some wX,some xX,some yX,none,none,none,some zX,some wV,none,none,none,none,none,none,none,none,none,some xV,some yV,some zV,none,none,none,none,none,none,none,none,none,none,some BV,none,none,none,some CV,none,none,none,none,none,none,none,some DV,none,some EV,some FV,none,some GV,some HV,none,some IV,some JV,none,none,none,none,none,some KV,none,none,some LV,none,none,none,some MV,none,none,none,none,none,none,none,none,none,none,none,none,none,none,none,none,none,none,none,none,none,none,none,none,none,none,none,none,none,none,none,none,none,none,none,none,none,none,none,none,none,none,none,none,none,none,none,none,none,none,none,none,none,none,none,none,some UT,none,some VT,none,some WT,none,none,none,none,none,none,none,none,none,none,none,none,none,none,some XT,none,none,none,some YT,none,none,none,none,none,none,none,none,none,none,none,some ZT,none,none,none,none,none,none,some aU,none,none,none,none,none,none,none,none,none,none,none,none,none,none,none,none,none,some bU,none,none,none,none,none,none,none,none,none,none,none,none,none,none,some cU,none,none,none,none,none,none,none,none,none,none,none,none,none,none,none,none,none,none,none,none,none,none,none,none,none,none,none,none,none,none,none,none,none,none,none,none,none,none,none,none,none,none]
theorem tys_ok:Pa Tryz.prog tys:=BO (show mH Tryz.prog 0 tys from ⟨dU,eU,fU,tR,KS,LS,MS,NS,OS,PS,QS,ZO,SS,TS,US,WS,XS,YS,ZS,aT,FQ,GQ,HQ,IQ,JQ,KQ,LQ,MQ,NQ,trivial⟩)
theorem mixed:Tryz.prog.follows .mixedOrders=true:=by kernel_rfl
end Go.Proofs.YtddefjokgaajfaaGreatDoor.AM
