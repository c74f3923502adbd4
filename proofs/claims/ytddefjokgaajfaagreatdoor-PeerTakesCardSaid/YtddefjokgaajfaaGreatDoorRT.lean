/- What the evaluator of the abstract machine knows of this seat's types, by program (tys.py), and that it is so. -/
import Derived.Test.YtddefjokgaajfaaGreatDoorProg
import Derived.Test.YtddefjokgaajfaaGreatDoorRB
set_option linter.all false
set_option linter.unusedVariables false
set_option linter.unusedSimpArgs false
namespace Go.Proofs.YtddefjokgaajfaaGreatDoor.AM
open Go Go.RowKit
set_option maxRecDepth 100000
def xM:Ty:=⟨.int .i64,1,8,(.int .i64 0),false⟩
theorem pI:TyOk Tryz.prog 3 xM:=⟨Tryz.underlying3,TyOk.of_info (by kernel_rfl),fun h=>(by cases h)⟩
def yM:Ty:=⟨.bool,1,1,(.bool false),false⟩
theorem jK:TyOk Tryz.prog 4 yM:=⟨Tryz.underlying4,TyOk.of_info (by kernel_rfl),fun h=>(by cases h)⟩
def zM:Ty:=⟨.int .u8,1,1,(.int .u8 0),false⟩
theorem kK:TyOk Tryz.prog 5 zM:=⟨Tryz.underlying5,TyOk.of_info (by kernel_rfl),fun h=>(by cases h)⟩
def BM:Ty:=⟨.string,1,16,(.string ⟨#[]⟩),false⟩
theorem qI:TyOk Tryz.prog 9 BM:=⟨Tryz.underlying9,TyOk.of_info (by kernel_rfl),fun h=>(by cases h)⟩
def bL:Ty:=⟨.string,1,16,(.string ⟨#[]⟩),false⟩
theorem eJ:TyOk Tryz.prog 10 bL:=⟨Tryz.underlying10,TyOk.of_info (by kernel_rfl),fun h=>(by cases h)⟩
def cL:Ty:=⟨.interface #[],1,16,.nilIface,false⟩
theorem fJ:TyOk Tryz.prog 20 cL:=⟨Tryz.underlying20,TyOk.of_info (by kernel_rfl),fun h=>(by cases h)⟩
def dL:Ty:=⟨.slice 3,1,24,(.slice none 0 0),false⟩
theorem gJ:TyOk Tryz.prog 22 dL:=⟨Tryz.underlying22,TyOk.of_info (by kernel_rfl),fun h=>(by cases h)⟩
def eL:Ty:=⟨.slice 33,1,24,(.slice none 0 0),false⟩
theorem iJ:TyOk Tryz.prog 23 eL:=⟨Tryz.underlying23,TyOk.of_info (by kernel_rfl),fun h=>(by cases h)⟩
def fL:Ty:=⟨.struct #[⟨"Lmtp",4,0,false, "", "",0⟩,⟨"Refuse",22,1,false, "", "",8⟩,⟨"L",23,2,false, "", "",32⟩],3,56,(.agg #[(.bool false),(.slice none 0 0),(.slice none 0 0)]),false⟩
theorem jJ:TyOk Tryz.prog 25 fL:=⟨Tryz.underlying25,TyOk.of_info (by kernel_rfl),fun h=>(by cases h)⟩
def gL:Ty:=⟨.pointer 71,1,8,(.pointer none),false⟩
theorem kJ:TyOk Tryz.prog 27 gL:=⟨Tryz.underlying27,TyOk.of_info (by kernel_rfl),fun h=>(by cases h)⟩
def iL:Ty:=⟨.pointer 74,1,8,(.pointer none),false⟩
theorem lJ:TyOk Tryz.prog 31 iL:=⟨Tryz.underlying31,TyOk.of_info (by kernel_rfl),fun h=>(by cases h)⟩
def jL:Ty:=⟨.slice 5,1,24,(.slice none 0 0),false⟩
theorem mJ:TyOk Tryz.prog 33 jL:=⟨Tryz.underlying33,TyOk.of_info (by kernel_rfl),fun h=>(by cases h)⟩
def kL:Ty:=⟨.slice 9,1,24,(.slice none 0 0),false⟩
theorem nJ:TyOk Tryz.prog 37 kL:=⟨Tryz.underlying37,TyOk.of_info (by kernel_rfl),fun h=>(by cases h)⟩
def lL:Ty:=⟨.struct #[⟨"Rest",9,0,false, "", "",0⟩,⟨"Skip",4,1,false, "", "",16⟩],2,24,(.agg #[(.string ⟨#[]⟩),(.bool false)]),true⟩
theorem oJ:TyOk Tryz.prog 45 lL:=⟨Tryz.underlying45,TyOk.of_info (by kernel_rfl),fun _=>⟨by kernel_rfl,by kernel_rfl,by kernel_rfl⟩⟩
def mL:Ty:=⟨.struct #[⟨"Local",9,0,false, "", "",0⟩,⟨"Domain",9,1,false, "", "",16⟩],2,32,(.agg #[(.string ⟨#[]⟩),(.string ⟨#[]⟩)]),true⟩
theorem pJ:TyOk Tryz.prog 47 mL:=⟨Tryz.underlying47,TyOk.of_info (by kernel_rfl),fun _=>⟨by kernel_rfl,by kernel_rfl,by kernel_rfl⟩⟩
def nL:Ty:=⟨.slice 47,1,24,(.slice none 0 0),false⟩
theorem qJ:TyOk Tryz.prog 48 nL:=⟨Tryz.underlying48,TyOk.of_info (by kernel_rfl),fun h=>(by cases h)⟩
def pL:Ty:=⟨.struct #[⟨"ID",3,0,false, "", "",0⟩,⟨"Tenant",3,1,false, "", "",8⟩,⟨"IP",3,2,false, "", "",16⟩,⟨"Framer",45,3,false, "", "",24⟩,⟨"State",3,5,false, "", "",48⟩,⟨"Hello",9,6,false, "", "",56⟩,⟨"Null",4,7,false, "", "",72⟩,⟨"From",47,8,false, "", "",80⟩,⟨"To",48,10,false, "", "",112⟩,⟨"Data",37,11,false, "", "",136⟩,⟨"Bytes",3,12,false, "", "",160⟩,⟨"Over",4,13,false, "", "",168⟩],14,176,(.agg #[(.int .i64 0),(.int .i64 0),(.int .i64 0),(.string ⟨#[]⟩),(.bool false),(.int .i64 0),(.string ⟨#[]⟩),(.bool false),(.string ⟨#[]⟩),(.string ⟨#[]⟩),(.slice none 0 0),(.slice none 0 0),(.int .i64 0),(.bool false)]),false⟩
theorem rJ:TyOk Tryz.prog 50 pL:=⟨Tryz.underlying50,TyOk.of_info (by kernel_rfl),fun h=>(by cases h)⟩
def qL:Ty:=⟨.slice 67,1,24,(.slice none 0 0),false⟩
theorem sJ:TyOk Tryz.prog 51 qL:=⟨Tryz.underlying51,TyOk.of_info (by kernel_rfl),fun h=>(by cases h)⟩
def rL:Ty:=⟨.struct #[⟨"C",50,0,false, "", "",0⟩,⟨"L",51,14,false, "", "",176⟩],15,200,(.agg #[(.int .i64 0),(.int .i64 0),(.int .i64 0),(.string ⟨#[]⟩),(.bool false),(.int .i64 0),(.string ⟨#[]⟩),(.bool false),(.string ⟨#[]⟩),(.string ⟨#[]⟩),(.slice none 0 0),(.slice none 0 0),(.int .i64 0),(.bool false),(.slice none 0 0)]),false⟩
theorem tJ:TyOk Tryz.prog 53 rL:=⟨Tryz.underlying53,TyOk.of_info (by kernel_rfl),fun h=>(by cases h)⟩
def sL:Ty:=⟨.int .i64,1,8,(.int .i64 0),false⟩
theorem uJ:TyOk Tryz.prog 54 sL:=⟨Tryz.underlying54,TyOk.of_info (by kernel_rfl),fun h=>(by cases h)⟩
def tL:Ty:=⟨.struct #[⟨"Text",9,0,false, "", "",0⟩,⟨"Long",4,1,false, "", "",16⟩],2,24,(.agg #[(.string ⟨#[]⟩),(.bool false)]),true⟩
theorem vJ:TyOk Tryz.prog 60 tL:=⟨Tryz.underlying60,TyOk.of_info (by kernel_rfl),fun _=>⟨by kernel_rfl,by kernel_rfl,by kernel_rfl⟩⟩
def uL:Ty:=⟨.struct #[⟨"Kind",3,0,false, "", "",0⟩,⟨"Word",9,1,false, "", "",8⟩,⟨"Null",4,2,false, "", "",24⟩,⟨"Box",47,3,false, "", "",32⟩,⟨"Size",3,5,false, "", "",64⟩],6,72,(.agg #[(.int .i64 0),(.string ⟨#[]⟩),(.bool false),(.string ⟨#[]⟩),(.string ⟨#[]⟩),(.int .i64 0)]),true⟩
theorem wJ:TyOk Tryz.prog 63 uL:=⟨Tryz.underlying63,TyOk.of_info (by kernel_rfl),fun _=>⟨by kernel_rfl,by kernel_rfl,by kernel_rfl⟩⟩
def vL:Ty:=⟨.struct #[⟨"Do",3,0,false, "", "",0⟩,⟨"N",3,1,false, "", "",8⟩,⟨"M",3,2,false, "", "",16⟩,⟨"L",60,3,false, "", "",24⟩,⟨"V",63,5,false, "", "",48⟩],11,120,(.agg #[(.int .i64 0),(.int .i64 0),(.int .i64 0),(.string ⟨#[]⟩),(.bool false),(.int .i64 0),(.string ⟨#[]⟩),(.bool false),(.string ⟨#[]⟩),(.string ⟨#[]⟩),(.int .i64 0)]),true⟩
theorem xJ:TyOk Tryz.prog 67 vL:=⟨Tryz.underlying67,TyOk.of_info (by kernel_rfl),fun _=>⟨by kernel_rfl,by kernel_rfl,by kernel_rfl⟩⟩
def wL:Ty:=⟨.struct #[⟨"lmtp",4,0,false, "", "pouch/peer",0⟩,⟨"refuse",22,1,false, "", "pouch/peer",8⟩,⟨"f",45,2,false, "", "pouch/peer",32⟩,⟨"from",9,4,false, "", "pouch/peer",56⟩,⟨"to",37,5,false, "", "pouch/peer",72⟩,⟨"text",9,6,false, "", "pouch/peer",96⟩,⟨"in",4,7,false, "", "pouch/peer",112⟩,⟨"got",37,8,false, "", "pouch/peer",120⟩,⟨"out",9,9,false, "", "pouch/peer",144⟩],10,160,(.agg #[(.bool false),(.slice none 0 0),(.string ⟨#[]⟩),(.bool false),(.string ⟨#[]⟩),(.slice none 0 0),(.string ⟨#[]⟩),(.bool false),(.slice none 0 0),(.string ⟨#[]⟩)]),false⟩
theorem yJ:TyOk Tryz.prog 71 wL:=⟨Tryz.underlying71,TyOk.of_info (by kernel_rfl),fun h=>(by cases h)⟩
def xL:Ty:=⟨.struct #[⟨"lmtp",4,0,false, "", "pouch/pouchref27",0⟩,⟨"refuse",22,1,false, "", "pouch/pouchref27",8⟩,⟨"asked",3,2,false, "", "pouch/pouchref27",32⟩,⟨"framer",45,3,false, "", "pouch/pouchref27",40⟩,⟨"path",9,5,false, "", "pouch/pouchref27",64⟩,⟨"boxes",48,6,false, "", "pouch/pouchref27",80⟩,⟨"text",4,7,false, "", "pouch/pouchref27",104⟩,⟨"lines",9,8,false, "", "pouch/pouchref27",112⟩,⟨"got",37,9,false, "", "pouch/pouchref27",128⟩],10,152,(.agg #[(.bool false),(.slice none 0 0),(.int .i64 0),(.string ⟨#[]⟩),(.bool false),(.string ⟨#[]⟩),(.slice none 0 0),(.bool false),(.string ⟨#[]⟩),(.slice none 0 0)]),false⟩
theorem zJ:TyOk Tryz.prog 74 xL:=⟨Tryz.underlying74,TyOk.of_info (by kernel_rfl),fun h=>(by cases h)⟩
def yL:Ty:=⟨.slice 60,1,24,(.slice none 0 0),false⟩
theorem AJ:TyOk Tryz.prog 75 yL:=⟨Tryz.underlying75,TyOk.of_info (by kernel_rfl),fun h=>(by cases h)⟩
def zL:Ty:=⟨.int .u64,1,8,(.int .u64 0),false⟩
theorem BJ:TyOk Tryz.prog 81 zL:=⟨Tryz.underlying81,TyOk.of_info (by kernel_rfl),fun h=>(by cases h)⟩
def AL:Ty:=⟨.struct #[⟨"Code",3,0,false, "", "",0⟩,⟨"Lines",37,1,false, "", "",8⟩],2,32,(.agg #[(.int .i64 0),(.slice none 0 0)]),false⟩
theorem CJ:TyOk Tryz.prog 94 AL:=⟨Tryz.underlying94,TyOk.of_info (by kernel_rfl),fun h=>(by cases h)⟩
def ZJ:Ty:=⟨.pointer 126,1,8,(.pointer none),false⟩
theorem TH:TyOk Tryz.prog 124 ZJ:=⟨Tryz.underlying124,TyOk.of_info (by kernel_rfl),fun h=>(by cases h)⟩
def aK:Ty:=⟨.struct #[⟨"addr",124,0,false, "", "strings",0⟩,⟨"buf",33,1,false, "", "strings",8⟩],2,32,(.agg #[(.pointer none),(.slice none 0 0)]),false⟩
theorem UH:TyOk Tryz.prog 126 aK:=⟨Tryz.underlying126,TyOk.of_info (by kernel_rfl),fun h=>(by cases h)⟩
def bK:Ty:=⟨.interface #[("Error",30)],1,16,.nilIface,false⟩
theorem VH:TyOk Tryz.prog 128 bK:=⟨Tryz.underlying128,TyOk.of_info (by kernel_rfl),fun h=>(by cases h)⟩
def cK:Ty:=⟨.pointer 54,1,8,(.pointer none),false⟩
theorem WH:TyOk Tryz.prog 143 cK:=⟨Tryz.underlying143,TyOk.of_info (by kernel_rfl),fun h=>(by cases h)⟩
def dK:Ty:=⟨.pointer 5,1,8,(.pointer none),false⟩
theorem XH:TyOk Tryz.prog 147 dK:=⟨Tryz.underlying147,TyOk.of_info (by kernel_rfl),fun h=>(by cases h)⟩
def eK:Ty:=⟨.struct #[⟨"e",54,0,false, "", "pouch/verb",0⟩],1,8,(.agg #[(.int .i64 0)]),true⟩
theorem YH:TyOk Tryz.prog 159 eK:=⟨Tryz.underlying159,TyOk.of_info (by kernel_rfl),fun _=>⟨by kernel_rfl,by kernel_rfl,by kernel_rfl⟩⟩
def fK:Ty:=⟨.unsafePointer,1,8,(.pointer none),false⟩
theorem ZH:TyOk Tryz.prog 166 fK:=⟨Tryz.underlying166,TyOk.of_info (by kernel_rfl),fun h=>(by cases h)⟩
def gK:Ty:=⟨.struct #[⟨"e",54,0,false, "", "pouch/addr",0⟩],1,8,(.agg #[(.int .i64 0)]),true⟩
theorem aI:TyOk Tryz.prog 184 gK:=⟨Tryz.underlying184,TyOk.of_info (by kernel_rfl),fun _=>⟨by kernel_rfl,by kernel_rfl,by kernel_rfl⟩⟩
def iK:Ty:=⟨.array 10 9,10,160,(.agg #[(.string ⟨#[]⟩),(.string ⟨#[]⟩),(.string ⟨#[]⟩),(.string ⟨#[]⟩),(.string ⟨#[]⟩),(.string ⟨#[]⟩),(.string ⟨#[]⟩),(.string ⟨#[]⟩),(.string ⟨#[]⟩),(.string ⟨#[]⟩)]),false⟩
theorem bI:TyOk Tryz.prog 199 iK:=⟨Tryz.underlying199,TyOk.of_info (by kernel_rfl),fun h=>(by cases h)⟩
def tys:JL:=[none,none,none,some xM,some yM,some zM,none,none,none,some BM,some bL,none,none,none,none,none,none,none,none,none,some cL,none,some dL,some eL,none,some fL,none,some gL,none,none,none,some iL,none,some jL,none,none,none,some kL,none,none,none,none,none,none,none,some lL,none,some mL,some nL,none,some pL,some qL,none,some rL,some sL,none,none,none,none,none,some tL,none,none,some uL,none,none,none,some vL,none,none,none,some wL,none,none,some xL,some yL,none,none,none,none,none,some zL,none,none,none,none,none,none,none,none,none,none,none,none,some AL,none,none,none,none,none,none,none,none,none,none,none,none,none,none,none,none,none,none,none,none,none,none,none,none,none,none,none,none,none,some ZJ,none,some aK,none,some bK,none,none,none,none,none,none,none,none,none,none,none,none,none,none,some cK,none,none,none,some dK,none,none,none,none,none,none,none,none,none,none,none,some eK,none,none,none,none,none,none,some fK,none,none,none,none,none,none,none,none,none,none,none,none,none,none,none,none,none,some gK,none,none,none,none,none,none,none,none,none,none,none,none,none,none,some iK,none,none,none,none,none,none,none,none,none,none,none,none,none,none,none,none,none,none,none,none,none,none,none,none,none,none,none,none,none,none,none,none,none,none,none,none,none,none,none,none,none,none]
theorem tys_ok:Ha Tryz.prog tys:=OG (show sC Tryz.prog 0 tys from ⟨pI,jK,kK,qI,eJ,fJ,gJ,iJ,jJ,kJ,lJ,mJ,nJ,oJ,pJ,qJ,rJ,sJ,tJ,uJ,vJ,wJ,xJ,yJ,zJ,AJ,BJ,CJ,TH,UH,VH,WH,XH,YH,ZH,aI,bI,trivial⟩)
theorem mixed:Tryz.prog.follows .mixedOrders=true:=by kernel_rfl
end Go.Proofs.YtddefjokgaajfaaGreatDoor.AM
