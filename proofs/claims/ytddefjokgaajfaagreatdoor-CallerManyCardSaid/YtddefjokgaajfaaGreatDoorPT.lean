/- What the evaluator of the abstract machine knows of this seat's types, by program (tys.py), and that it is so. -/
import Derived.Test.YtddefjokgaajfaaGreatDoorProg
import Derived.Test.YtddefjokgaajfaaGreatDoorPB
set_option linter.all false
set_option linter.unusedVariables false
set_option linter.unusedSimpArgs false
namespace Go.Proofs.YtddefjokgaajfaaGreatDoor.AM
open Go Go.RowKit
set_option maxRecDepth 100000
def OO:Ty:=⟨.int .i64,1,8,(.int .i64 0),false⟩
theorem wM:TyOk Tryz.prog 3 OO:=⟨Tryz.underlying3,TyOk.of_info (by kernel_rfl),fun h=>(by cases h)⟩
def PO:Ty:=⟨.bool,1,1,(.bool false),false⟩
theorem xM:TyOk Tryz.prog 4 PO:=⟨Tryz.underlying4,TyOk.of_info (by kernel_rfl),fun h=>(by cases h)⟩
def QO:Ty:=⟨.int .u8,1,1,(.int .u8 0),false⟩
theorem yM:TyOk Tryz.prog 5 QO:=⟨Tryz.underlying5,TyOk.of_info (by kernel_rfl),fun h=>(by cases h)⟩
def RO:Ty:=⟨.string,1,16,(.string ⟨#[]⟩),false⟩
theorem BK:TyOk Tryz.prog 9 RO:=⟨Tryz.underlying9,TyOk.of_info (by kernel_rfl),fun h=>(by cases h)⟩
def rN:Ty:=⟨.string,1,16,(.string ⟨#[]⟩),false⟩
theorem zL:TyOk Tryz.prog 10 rN:=⟨Tryz.underlying10,TyOk.of_info (by kernel_rfl),fun h=>(by cases h)⟩
def sN:Ty:=⟨.interface #[],1,16,.nilIface,false⟩
theorem AL:TyOk Tryz.prog 20 sN:=⟨Tryz.underlying20,TyOk.of_info (by kernel_rfl),fun h=>(by cases h)⟩
def tN:Ty:=⟨.int .i32,1,4,(.int .i32 0),false⟩
theorem BL:TyOk Tryz.prog 21 tN:=⟨Tryz.underlying21,TyOk.of_info (by kernel_rfl),fun h=>(by cases h)⟩
def uN:Ty:=⟨.slice 3,1,24,(.slice none 0 0),false⟩
theorem CL:TyOk Tryz.prog 22 uN:=⟨Tryz.underlying22,TyOk.of_info (by kernel_rfl),fun h=>(by cases h)⟩
def vN:Ty:=⟨.slice 5,1,24,(.slice none 0 0),false⟩
theorem DL:TyOk Tryz.prog 33 vN:=⟨Tryz.underlying33,TyOk.of_info (by kernel_rfl),fun h=>(by cases h)⟩
def wN:Ty:=⟨.slice 9,1,24,(.slice none 0 0),false⟩
theorem EL:TyOk Tryz.prog 37 wN:=⟨Tryz.underlying37,TyOk.of_info (by kernel_rfl),fun h=>(by cases h)⟩
def xN:Ty:=⟨.struct #[⟨"Rest",9,0,false, "", "",0⟩,⟨"Skip",4,1,false, "", "",16⟩],2,24,(.agg #[(.string ⟨#[]⟩),(.bool false)]),true⟩
theorem FL:TyOk Tryz.prog 45 xN:=⟨Tryz.underlying45,TyOk.of_info (by kernel_rfl),fun _=>⟨by kernel_rfl,by kernel_rfl,by kernel_rfl⟩⟩
def yN:Ty:=⟨.struct #[⟨"Local",9,0,false, "", "",0⟩,⟨"Domain",9,1,false, "", "",16⟩],2,32,(.agg #[(.string ⟨#[]⟩),(.string ⟨#[]⟩)]),true⟩
theorem UI:TyOk Tryz.prog 47 yN:=⟨Tryz.underlying47,TyOk.of_info (by kernel_rfl),fun _=>⟨by kernel_rfl,by kernel_rfl,by kernel_rfl⟩⟩
def zN:Ty:=⟨.slice 47,1,24,(.slice none 0 0),false⟩
theorem GL:TyOk Tryz.prog 48 zN:=⟨Tryz.underlying48,TyOk.of_info (by kernel_rfl),fun h=>(by cases h)⟩
def AN:Ty:=⟨.struct #[⟨"ID",3,0,false, "", "",0⟩,⟨"Tenant",3,1,false, "", "",8⟩,⟨"IP",3,2,false, "", "",16⟩,⟨"Framer",45,3,false, "", "",24⟩,⟨"State",3,5,false, "", "",48⟩,⟨"Hello",9,6,false, "", "",56⟩,⟨"Null",4,7,false, "", "",72⟩,⟨"From",47,8,false, "", "",80⟩,⟨"To",48,10,false, "", "",112⟩,⟨"Data",37,11,false, "", "",136⟩,⟨"Bytes",3,12,false, "", "",160⟩,⟨"Over",4,13,false, "", "",168⟩],14,176,(.agg #[(.int .i64 0),(.int .i64 0),(.int .i64 0),(.string ⟨#[]⟩),(.bool false),(.int .i64 0),(.string ⟨#[]⟩),(.bool false),(.string ⟨#[]⟩),(.string ⟨#[]⟩),(.slice none 0 0),(.slice none 0 0),(.int .i64 0),(.bool false)]),false⟩
theorem HL:TyOk Tryz.prog 50 AN:=⟨Tryz.underlying50,TyOk.of_info (by kernel_rfl),fun h=>(by cases h)⟩
def BN:Ty:=⟨.slice 67,1,24,(.slice none 0 0),false⟩
theorem IL:TyOk Tryz.prog 51 BN:=⟨Tryz.underlying51,TyOk.of_info (by kernel_rfl),fun h=>(by cases h)⟩
def CN:Ty:=⟨.struct #[⟨"C",50,0,false, "", "",0⟩,⟨"L",51,14,false, "", "",176⟩],15,200,(.agg #[(.int .i64 0),(.int .i64 0),(.int .i64 0),(.string ⟨#[]⟩),(.bool false),(.int .i64 0),(.string ⟨#[]⟩),(.bool false),(.string ⟨#[]⟩),(.string ⟨#[]⟩),(.slice none 0 0),(.slice none 0 0),(.int .i64 0),(.bool false),(.slice none 0 0)]),false⟩
theorem JL:TyOk Tryz.prog 53 CN:=⟨Tryz.underlying53,TyOk.of_info (by kernel_rfl),fun h=>(by cases h)⟩
def DN:Ty:=⟨.int .i64,1,8,(.int .i64 0),false⟩
theorem KL:TyOk Tryz.prog 54 DN:=⟨Tryz.underlying54,TyOk.of_info (by kernel_rfl),fun h=>(by cases h)⟩
def EN:Ty:=⟨.struct #[⟨"Text",9,0,false, "", "",0⟩,⟨"Long",4,1,false, "", "",16⟩],2,24,(.agg #[(.string ⟨#[]⟩),(.bool false)]),true⟩
theorem LL:TyOk Tryz.prog 60 EN:=⟨Tryz.underlying60,TyOk.of_info (by kernel_rfl),fun _=>⟨by kernel_rfl,by kernel_rfl,by kernel_rfl⟩⟩
def FN:Ty:=⟨.struct #[⟨"Kind",3,0,false, "", "",0⟩,⟨"Word",9,1,false, "", "",8⟩,⟨"Null",4,2,false, "", "",24⟩,⟨"Box",47,3,false, "", "",32⟩,⟨"Size",3,5,false, "", "",64⟩],6,72,(.agg #[(.int .i64 0),(.string ⟨#[]⟩),(.bool false),(.string ⟨#[]⟩),(.string ⟨#[]⟩),(.int .i64 0)]),true⟩
theorem ML:TyOk Tryz.prog 63 FN:=⟨Tryz.underlying63,TyOk.of_info (by kernel_rfl),fun _=>⟨by kernel_rfl,by kernel_rfl,by kernel_rfl⟩⟩
def GN:Ty:=⟨.struct #[⟨"Do",3,0,false, "", "",0⟩,⟨"N",3,1,false, "", "",8⟩,⟨"M",3,2,false, "", "",16⟩,⟨"L",60,3,false, "", "",24⟩,⟨"V",63,5,false, "", "",48⟩],11,120,(.agg #[(.int .i64 0),(.int .i64 0),(.int .i64 0),(.string ⟨#[]⟩),(.bool false),(.int .i64 0),(.string ⟨#[]⟩),(.bool false),(.string ⟨#[]⟩),(.string ⟨#[]⟩),(.int .i64 0)]),true⟩
theorem NL:TyOk Tryz.prog 67 GN:=⟨Tryz.underlying67,TyOk.of_info (by kernel_rfl),fun _=>⟨by kernel_rfl,by kernel_rfl,by kernel_rfl⟩⟩
def nM:Ty:=⟨.pointer 126,1,8,(.pointer none),false⟩
theorem XJ:TyOk Tryz.prog 124 nM:=⟨Tryz.underlying124,TyOk.of_info (by kernel_rfl),fun h=>(by cases h)⟩
def oM:Ty:=⟨.struct #[⟨"addr",124,0,false, "", "strings",0⟩,⟨"buf",33,1,false, "", "strings",8⟩],2,32,(.agg #[(.pointer none),(.slice none 0 0)]),false⟩
theorem YJ:TyOk Tryz.prog 126 oM:=⟨Tryz.underlying126,TyOk.of_info (by kernel_rfl),fun h=>(by cases h)⟩
def pM:Ty:=⟨.interface #[("Error",30)],1,16,.nilIface,false⟩
theorem ZJ:TyOk Tryz.prog 128 pM:=⟨Tryz.underlying128,TyOk.of_info (by kernel_rfl),fun h=>(by cases h)⟩
def qM:Ty:=⟨.pointer 54,1,8,(.pointer none),false⟩
theorem aK:TyOk Tryz.prog 143 qM:=⟨Tryz.underlying143,TyOk.of_info (by kernel_rfl),fun h=>(by cases h)⟩
def rM:Ty:=⟨.pointer 5,1,8,(.pointer none),false⟩
theorem bK:TyOk Tryz.prog 147 rM:=⟨Tryz.underlying147,TyOk.of_info (by kernel_rfl),fun h=>(by cases h)⟩
def sM:Ty:=⟨.struct #[⟨"e",54,0,false, "", "pouch/verb",0⟩],1,8,(.agg #[(.int .i64 0)]),true⟩
theorem cK:TyOk Tryz.prog 159 sM:=⟨Tryz.underlying159,TyOk.of_info (by kernel_rfl),fun _=>⟨by kernel_rfl,by kernel_rfl,by kernel_rfl⟩⟩
def tM:Ty:=⟨.unsafePointer,1,8,(.pointer none),false⟩
theorem dK:TyOk Tryz.prog 166 tM:=⟨Tryz.underlying166,TyOk.of_info (by kernel_rfl),fun h=>(by cases h)⟩
def uM:Ty:=⟨.struct #[⟨"e",54,0,false, "", "pouch/addr",0⟩],1,8,(.agg #[(.int .i64 0)]),true⟩
theorem eK:TyOk Tryz.prog 184 uM:=⟨Tryz.underlying184,TyOk.of_info (by kernel_rfl),fun _=>⟨by kernel_rfl,by kernel_rfl,by kernel_rfl⟩⟩
def vM:Ty:=⟨.array 10 9,10,160,(.agg #[(.string ⟨#[]⟩),(.string ⟨#[]⟩),(.string ⟨#[]⟩),(.string ⟨#[]⟩),(.string ⟨#[]⟩),(.string ⟨#[]⟩),(.string ⟨#[]⟩),(.string ⟨#[]⟩),(.string ⟨#[]⟩),(.string ⟨#[]⟩)]),false⟩
theorem fK:TyOk Tryz.prog 199 vM:=⟨Tryz.underlying199,TyOk.of_info (by kernel_rfl),fun h=>(by cases h)⟩
def tys:aO:=[none,none,none,some OO,some PO,some QO,none,none,none,some RO,some rN,none,none,none,none,none,none,none,none,none,some sN,some tN,some uN,none,none,none,none,none,none,none,none,none,none,some vN,none,none,none,some wN,none,none,none,none,none,none,none,some xN,none,some yN,some zN,none,some AN,some BN,none,some CN,some DN,none,none,none,none,none,some EN,none,none,some FN,none,none,none,some GN,none,none,none,none,none,none,none,none,none,none,none,none,none,none,none,none,none,none,none,none,none,none,none,none,none,none,none,none,none,none,none,none,none,none,none,none,none,none,none,none,none,none,none,none,none,none,none,none,none,none,none,none,none,none,none,none,some nM,none,some oM,none,some pM,none,none,none,none,none,none,none,none,none,none,none,none,none,none,some qM,none,none,none,some rM,none,none,none,none,none,none,none,none,none,none,none,some sM,none,none,none,none,none,none,some tM,none,none,none,none,none,none,none,none,none,none,none,none,none,none,none,none,none,some uM,none,none,none,none,none,none,none,none,none,none,none,none,none,none,some vM,none,none,none,none,none,none,none,none,none,none,none,none,none,none,none,none,none,none,none,none,none,none,none,none,none,none,none,none,none,none,none,none,none,none,none,none,none,none,none,none,none,none]
theorem tys_ok:Ea Tryz.prog tys:=GI (show tC Tryz.prog 0 tys from ⟨wM,xM,yM,BK,zL,AL,BL,CL,DL,EL,FL,UI,GL,HL,IL,JL,KL,LL,ML,NL,XJ,YJ,ZJ,aK,bK,cK,dK,eK,fK,trivial⟩)
theorem mixed:Tryz.prog.follows .mixedOrders=true:=by kernel_rfl
end Go.Proofs.YtddefjokgaajfaaGreatDoor.AM
