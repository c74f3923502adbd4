/- What the evaluator of the abstract machine knows of this seat's types, by program (tys.py), and that it is so. -/
import Derived.Test.YtddefjokgaajfaaGreatDoorProg
import Derived.Test.YtddefjokgaajfaaGreatDoorYB
set_option linter.all false
set_option linter.unusedVariables false
set_option linter.unusedSimpArgs false
namespace Go.Proofs.YtddefjokgaajfaaGreatDoor.AM
open Go Go.RowKit
set_option maxRecDepth 100000
def ty3:Ty:=⟨.int .i64,1,8,(.int .i64 0),false⟩
theorem N6:TyOk Tryz.prog 3 ty3:=⟨Tryz.underlying3,TyOk.of_info (by kernel_rfl),fun h=>(by cases h)⟩
def ty4:Ty:=⟨.bool,1,1,(.bool false),false⟩
theorem hab:TyOk Tryz.prog 4 ty4:=⟨Tryz.underlying4,TyOk.of_info (by kernel_rfl),fun h=>(by cases h)⟩
def ty5:Ty:=⟨.int .u8,1,1,(.int .u8 0),false⟩
theorem iab:TyOk Tryz.prog 5 ty5:=⟨Tryz.underlying5,TyOk.of_info (by kernel_rfl),fun h=>(by cases h)⟩
def ty9:Ty:=⟨.string,1,16,(.string ⟨#[]⟩),false⟩
theorem O6:TyOk Tryz.prog 9 ty9:=⟨Tryz.underlying9,TyOk.of_info (by kernel_rfl),fun h=>(by cases h)⟩
def lbb:Ty:=⟨.string,1,16,(.string ⟨#[]⟩),false⟩
theorem q8:TyOk Tryz.prog 10 lbb:=⟨Tryz.underlying10,TyOk.of_info (by kernel_rfl),fun h=>(by cases h)⟩
def mbb:Ty:=⟨.interface #[],1,16,.nilIface,false⟩
theorem s8:TyOk Tryz.prog 20 mbb:=⟨Tryz.underlying20,TyOk.of_info (by kernel_rfl),fun h=>(by cases h)⟩
def nbb:Ty:=⟨.slice 3,1,24,(.slice none 0 0),false⟩
theorem A8:TyOk Tryz.prog 22 nbb:=⟨Tryz.underlying22,TyOk.of_info (by kernel_rfl),fun h=>(by cases h)⟩
def obb:Ty:=⟨.slice 33,1,24,(.slice none 0 0),false⟩
theorem B8:TyOk Tryz.prog 23 obb:=⟨Tryz.underlying23,TyOk.of_info (by kernel_rfl),fun h=>(by cases h)⟩
def pbb:Ty:=⟨.struct #[⟨"Lmtp",4,0,false, "", "",0⟩,⟨"Refuse",22,1,false, "", "",8⟩,⟨"L",23,2,false, "", "",32⟩],3,56,(.agg #[(.bool false),(.slice none 0 0),(.slice none 0 0)]),false⟩
theorem C8:TyOk Tryz.prog 25 pbb:=⟨Tryz.underlying25,TyOk.of_info (by kernel_rfl),fun h=>(by cases h)⟩
def qbb:Ty:=⟨.pointer 71,1,8,(.pointer none),false⟩
theorem D8:TyOk Tryz.prog 27 qbb:=⟨Tryz.underlying27,TyOk.of_info (by kernel_rfl),fun h=>(by cases h)⟩
def rbb:Ty:=⟨.pointer 74,1,8,(.pointer none),false⟩
theorem E8:TyOk Tryz.prog 31 rbb:=⟨Tryz.underlying31,TyOk.of_info (by kernel_rfl),fun h=>(by cases h)⟩
def sbb:Ty:=⟨.slice 5,1,24,(.slice none 0 0),false⟩
theorem F8:TyOk Tryz.prog 33 sbb:=⟨Tryz.underlying33,TyOk.of_info (by kernel_rfl),fun h=>(by cases h)⟩
def tbb:Ty:=⟨.slice 9,1,24,(.slice none 0 0),false⟩
theorem G8:TyOk Tryz.prog 37 tbb:=⟨Tryz.underlying37,TyOk.of_info (by kernel_rfl),fun h=>(by cases h)⟩
def ubb:Ty:=⟨.struct #[⟨"Rest",9,0,false, "", "",0⟩,⟨"Skip",4,1,false, "", "",16⟩],2,24,(.agg #[(.string ⟨#[]⟩),(.bool false)]),true⟩
theorem H8:TyOk Tryz.prog 45 ubb:=⟨Tryz.underlying45,TyOk.of_info (by kernel_rfl),fun _=>⟨by kernel_rfl,by kernel_rfl,by kernel_rfl⟩⟩
def vbb:Ty:=⟨.struct #[⟨"Local",9,0,false, "", "",0⟩,⟨"Domain",9,1,false, "", "",16⟩],2,32,(.agg #[(.string ⟨#[]⟩),(.string ⟨#[]⟩)]),true⟩
theorem I8:TyOk Tryz.prog 47 vbb:=⟨Tryz.underlying47,TyOk.of_info (by kernel_rfl),fun _=>⟨by kernel_rfl,by kernel_rfl,by kernel_rfl⟩⟩
def wbb:Ty:=⟨.slice 47,1,24,(.slice none 0 0),false⟩
theorem J8:TyOk Tryz.prog 48 wbb:=⟨Tryz.underlying48,TyOk.of_info (by kernel_rfl),fun h=>(by cases h)⟩
def xbb:Ty:=⟨.struct #[⟨"ID",3,0,false, "", "",0⟩,⟨"Tenant",3,1,false, "", "",8⟩,⟨"IP",3,2,false, "", "",16⟩,⟨"Framer",45,3,false, "", "",24⟩,⟨"State",3,5,false, "", "",48⟩,⟨"Hello",9,6,false, "", "",56⟩,⟨"Null",4,7,false, "", "",72⟩,⟨"From",47,8,false, "", "",80⟩,⟨"To",48,10,false, "", "",112⟩,⟨"Data",37,11,false, "", "",136⟩,⟨"Bytes",3,12,false, "", "",160⟩,⟨"Over",4,13,false, "", "",168⟩],14,176,(.agg #[(.int .i64 0),(.int .i64 0),(.int .i64 0),(.string ⟨#[]⟩),(.bool false),(.int .i64 0),(.string ⟨#[]⟩),(.bool false),(.string ⟨#[]⟩),(.string ⟨#[]⟩),(.slice none 0 0),(.slice none 0 0),(.int .i64 0),(.bool false)]),false⟩
theorem K8:TyOk Tryz.prog 50 xbb:=⟨Tryz.underlying50,TyOk.of_info (by kernel_rfl),fun h=>(by cases h)⟩
def ybb:Ty:=⟨.slice 67,1,24,(.slice none 0 0),false⟩
theorem L8:TyOk Tryz.prog 51 ybb:=⟨Tryz.underlying51,TyOk.of_info (by kernel_rfl),fun h=>(by cases h)⟩
def zbb:Ty:=⟨.struct #[⟨"C",50,0,false, "", "",0⟩,⟨"L",51,14,false, "", "",176⟩],15,200,(.agg #[(.int .i64 0),(.int .i64 0),(.int .i64 0),(.string ⟨#[]⟩),(.bool false),(.int .i64 0),(.string ⟨#[]⟩),(.bool false),(.string ⟨#[]⟩),(.string ⟨#[]⟩),(.slice none 0 0),(.slice none 0 0),(.int .i64 0),(.bool false),(.slice none 0 0)]),false⟩
theorem M8:TyOk Tryz.prog 53 zbb:=⟨Tryz.underlying53,TyOk.of_info (by kernel_rfl),fun h=>(by cases h)⟩
def Abb:Ty:=⟨.int .i64,1,8,(.int .i64 0),false⟩
theorem N8:TyOk Tryz.prog 54 Abb:=⟨Tryz.underlying54,TyOk.of_info (by kernel_rfl),fun h=>(by cases h)⟩
def Bbb:Ty:=⟨.struct #[⟨"Text",9,0,false, "", "",0⟩,⟨"Long",4,1,false, "", "",16⟩],2,24,(.agg #[(.string ⟨#[]⟩),(.bool false)]),true⟩
theorem O8:TyOk Tryz.prog 60 Bbb:=⟨Tryz.underlying60,TyOk.of_info (by kernel_rfl),fun _=>⟨by kernel_rfl,by kernel_rfl,by kernel_rfl⟩⟩
def Cbb:Ty:=⟨.struct #[⟨"Kind",3,0,false, "", "",0⟩,⟨"Word",9,1,false, "", "",8⟩,⟨"Null",4,2,false, "", "",24⟩,⟨"Box",47,3,false, "", "",32⟩,⟨"Size",3,5,false, "", "",64⟩],6,72,(.agg #[(.int .i64 0),(.string ⟨#[]⟩),(.bool false),(.string ⟨#[]⟩),(.string ⟨#[]⟩),(.int .i64 0)]),true⟩
theorem P8:TyOk Tryz.prog 63 Cbb:=⟨Tryz.underlying63,TyOk.of_info (by kernel_rfl),fun _=>⟨by kernel_rfl,by kernel_rfl,by kernel_rfl⟩⟩
def Dbb:Ty:=⟨.struct #[⟨"Do",3,0,false, "", "",0⟩,⟨"N",3,1,false, "", "",8⟩,⟨"M",3,2,false, "", "",16⟩,⟨"L",60,3,false, "", "",24⟩,⟨"V",63,5,false, "", "",48⟩],11,120,(.agg #[(.int .i64 0),(.int .i64 0),(.int .i64 0),(.string ⟨#[]⟩),(.bool false),(.int .i64 0),(.string ⟨#[]⟩),(.bool false),(.string ⟨#[]⟩),(.string ⟨#[]⟩),(.int .i64 0)]),true⟩
theorem Q8:TyOk Tryz.prog 67 Dbb:=⟨Tryz.underlying67,TyOk.of_info (by kernel_rfl),fun _=>⟨by kernel_rfl,by kernel_rfl,by kernel_rfl⟩⟩
def Ebb:Ty:=⟨.struct #[⟨"lmtp",4,0,false, "", "pouch/peer",0⟩,⟨"refuse",22,1,false, "", "pouch/peer",8⟩,⟨"f",45,2,false, "", "pouch/peer",32⟩,⟨"from",9,4,false, "", "pouch/peer",56⟩,⟨"to",37,5,false, "", "pouch/peer",72⟩,⟨"text",9,6,false, "", "pouch/peer",96⟩,⟨"in",4,7,false, "", "pouch/peer",112⟩,⟨"got",37,8,false, "", "pouch/peer",120⟩,⟨"out",9,9,false, "", "pouch/peer",144⟩],10,160,(.agg #[(.bool false),(.slice none 0 0),(.string ⟨#[]⟩),(.bool false),(.string ⟨#[]⟩),(.slice none 0 0),(.string ⟨#[]⟩),(.bool false),(.slice none 0 0),(.string ⟨#[]⟩)]),false⟩
theorem R8:TyOk Tryz.prog 71 Ebb:=⟨Tryz.underlying71,TyOk.of_info (by kernel_rfl),fun h=>(by cases h)⟩
def Fbb:Ty:=⟨.struct #[⟨"lmtp",4,0,false, "", "pouch/pouchref27",0⟩,⟨"refuse",22,1,false, "", "pouch/pouchref27",8⟩,⟨"asked",3,2,false, "", "pouch/pouchref27",32⟩,⟨"framer",45,3,false, "", "pouch/pouchref27",40⟩,⟨"path",9,5,false, "", "pouch/pouchref27",64⟩,⟨"boxes",48,6,false, "", "pouch/pouchref27",80⟩,⟨"text",4,7,false, "", "pouch/pouchref27",104⟩,⟨"lines",9,8,false, "", "pouch/pouchref27",112⟩,⟨"got",37,9,false, "", "pouch/pouchref27",128⟩],10,152,(.agg #[(.bool false),(.slice none 0 0),(.int .i64 0),(.string ⟨#[]⟩),(.bool false),(.string ⟨#[]⟩),(.slice none 0 0),(.bool false),(.string ⟨#[]⟩),(.slice none 0 0)]),false⟩
theorem S8:TyOk Tryz.prog 74 Fbb:=⟨Tryz.underlying74,TyOk.of_info (by kernel_rfl),fun h=>(by cases h)⟩
def Gbb:Ty:=⟨.slice 60,1,24,(.slice none 0 0),false⟩
theorem T8:TyOk Tryz.prog 75 Gbb:=⟨Tryz.underlying75,TyOk.of_info (by kernel_rfl),fun h=>(by cases h)⟩
def Hbb:Ty:=⟨.int .u64,1,8,(.int .u64 0),false⟩
theorem V8:TyOk Tryz.prog 81 Hbb:=⟨Tryz.underlying81,TyOk.of_info (by kernel_rfl),fun h=>(by cases h)⟩
def Ibb:Ty:=⟨.struct #[⟨"Code",3,0,false, "", "",0⟩,⟨"Lines",37,1,false, "", "",8⟩],2,32,(.agg #[(.int .i64 0),(.slice none 0 0)]),false⟩
theorem W8:TyOk Tryz.prog 94 Ibb:=⟨Tryz.underlying94,TyOk.of_info (by kernel_rfl),fun h=>(by cases h)⟩
def Y9:Ty:=⟨.pointer 126,1,8,(.pointer none),false⟩
theorem Q5:TyOk Tryz.prog 124 Y9:=⟨Tryz.underlying124,TyOk.of_info (by kernel_rfl),fun h=>(by cases h)⟩
def Z9:Ty:=⟨.struct #[⟨"addr",124,0,false, "", "strings",0⟩,⟨"buf",33,1,false, "", "strings",8⟩],2,32,(.agg #[(.pointer none),(.slice none 0 0)]),false⟩
theorem R5:TyOk Tryz.prog 126 Z9:=⟨Tryz.underlying126,TyOk.of_info (by kernel_rfl),fun h=>(by cases h)⟩
def aab:Ty:=⟨.interface #[("Error",30)],1,16,.nilIface,false⟩
theorem S5:TyOk Tryz.prog 128 aab:=⟨Tryz.underlying128,TyOk.of_info (by kernel_rfl),fun h=>(by cases h)⟩
def bab:Ty:=⟨.pointer 54,1,8,(.pointer none),false⟩
theorem T5:TyOk Tryz.prog 143 bab:=⟨Tryz.underlying143,TyOk.of_info (by kernel_rfl),fun h=>(by cases h)⟩
def cab:Ty:=⟨.pointer 5,1,8,(.pointer none),false⟩
theorem V5:TyOk Tryz.prog 147 cab:=⟨Tryz.underlying147,TyOk.of_info (by kernel_rfl),fun h=>(by cases h)⟩
def dab:Ty:=⟨.struct #[⟨"e",54,0,false, "", "pouch/verb",0⟩],1,8,(.agg #[(.int .i64 0)]),true⟩
theorem W5:TyOk Tryz.prog 159 dab:=⟨Tryz.underlying159,TyOk.of_info (by kernel_rfl),fun _=>⟨by kernel_rfl,by kernel_rfl,by kernel_rfl⟩⟩
def eab:Ty:=⟨.unsafePointer,1,8,(.pointer none),false⟩
theorem X5:TyOk Tryz.prog 166 eab:=⟨Tryz.underlying166,TyOk.of_info (by kernel_rfl),fun h=>(by cases h)⟩
def fab:Ty:=⟨.struct #[⟨"e",54,0,false, "", "pouch/addr",0⟩],1,8,(.agg #[(.int .i64 0)]),true⟩
theorem Y5:TyOk Tryz.prog 184 fab:=⟨Tryz.underlying184,TyOk.of_info (by kernel_rfl),fun _=>⟨by kernel_rfl,by kernel_rfl,by kernel_rfl⟩⟩
def gab:Ty:=⟨.array 10 9,10,160,(.agg #[(.string ⟨#[]⟩),(.string ⟨#[]⟩),(.string ⟨#[]⟩),(.string ⟨#[]⟩),(.string ⟨#[]⟩),(.string ⟨#[]⟩),(.string ⟨#[]⟩),(.string ⟨#[]⟩),(.string ⟨#[]⟩),(.string ⟨#[]⟩)]),false⟩
theorem Z5:TyOk Tryz.prog 199 gab:=⟨Tryz.underlying199,TyOk.of_info (by kernel_rfl),fun h=>(by cases h)⟩
def tys:Tys:=[none,none,none,some ty3,some ty4,some ty5,none,none,none,some ty9,some lbb,none,none,none,none,none,none,none,none,none,some mbb,none,some nbb,some obb,none,some pbb,none,some qbb,none,none,none,some rbb,none,some sbb,none,none,none,some tbb,none,none,none,none,none,none,none,some ubb,none,some vbb,some wbb,none,some xbb,some ybb,none,some zbb,some Abb,none,none,none,none,none,some Bbb,none,none,some Cbb,none,none,none,some Dbb,none,none,none,some Ebb,none,none,some Fbb,some Gbb,none,none,none,none,none,some Hbb,none,none,none,none,none,none,none,none,none,none,none,none,some Ibb,none,none,none,none,none,none,none,none,none,none,none,none,none,none,none,none,none,none,none,none,none,none,none,none,none,none,none,none,none,some Y9,none,some Z9,none,some aab,none,none,none,none,none,none,none,none,none,none,none,none,none,none,some bab,none,none,none,some cab,none,none,none,none,none,none,none,none,none,none,none,some dab,none,none,none,none,none,none,some eab,none,none,none,none,none,none,none,none,none,none,none,none,none,none,none,none,none,some fab,none,none,none,none,none,none,none,none,none,none,none,none,none,none,some gab,none,none,none,none,none,none,none,none,none,none,none,none,none,none,none,none,none,none,none,none,none,none,none,none,none,none,none,none,none,none,none,none,none,none,none,none,none,none,none,none,none,none]
theorem tys_ok:Ub Tryz.prog tys:=M1 (show ST Tryz.prog 0 tys from ⟨N6,hab,iab,O6,q8,s8,A8,B8,C8,D8,E8,F8,G8,H8,I8,J8,K8,L8,M8,N8,O8,P8,Q8,R8,S8,T8,V8,W8,Q5,R5,S5,T5,V5,W5,X5,Y5,Z5,trivial⟩)
theorem mixed:Tryz.prog.follows .mixedOrders=true:=by kernel_rfl
end Go.Proofs.YtddefjokgaajfaaGreatDoor.AM
