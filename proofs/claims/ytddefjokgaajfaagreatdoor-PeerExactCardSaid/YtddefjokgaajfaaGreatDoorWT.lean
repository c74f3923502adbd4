/- What the evaluator of the abstract machine knows of this seat's types, by program (tys.py), and that it is so. -/
import Derived.Test.YtddefjokgaajfaaGreatDoorProg
import Derived.Test.YtddefjokgaajfaaGreatDoorWB
set_option linter.all false
set_option linter.unusedVariables false
set_option linter.unusedSimpArgs false
namespace Go.Proofs.YtddefjokgaajfaaGreatDoor.AM
open Go Go.RowKit
set_option maxRecDepth 100000
def ty3:Ty:=⟨.int .i64,1,8,(.int .i64 0),false⟩
theorem D4:TyOk Tryz.prog 3 ty3:=⟨Tryz.underlying3,TyOk.of_info (by kernel_rfl),fun h=>(by cases h)⟩
def ty4:Ty:=⟨.bool,1,1,(.bool false),false⟩
theorem Z7:TyOk Tryz.prog 4 ty4:=⟨Tryz.underlying4,TyOk.of_info (by kernel_rfl),fun h=>(by cases h)⟩
def ty5:Ty:=⟨.int .u8,1,1,(.int .u8 0),false⟩
theorem d8:TyOk Tryz.prog 5 ty5:=⟨Tryz.underlying5,TyOk.of_info (by kernel_rfl),fun h=>(by cases h)⟩
def ty9:Ty:=⟨.string,1,16,(.string ⟨#[]⟩),false⟩
theorem E4:TyOk Tryz.prog 9 ty9:=⟨Tryz.underlying9,TyOk.of_info (by kernel_rfl),fun h=>(by cases h)⟩
def s9:Ty:=⟨.string,1,16,(.string ⟨#[]⟩),false⟩
theorem j6:TyOk Tryz.prog 10 s9:=⟨Tryz.underlying10,TyOk.of_info (by kernel_rfl),fun h=>(by cases h)⟩
def u9:Ty:=⟨.interface #[],1,16,.nilIface,false⟩
theorem l6:TyOk Tryz.prog 20 u9:=⟨Tryz.underlying20,TyOk.of_info (by kernel_rfl),fun h=>(by cases h)⟩
def w9:Ty:=⟨.slice 3,1,24,(.slice none 0 0),false⟩
theorem m6:TyOk Tryz.prog 22 w9:=⟨Tryz.underlying22,TyOk.of_info (by kernel_rfl),fun h=>(by cases h)⟩
def x9:Ty:=⟨.slice 33,1,24,(.slice none 0 0),false⟩
theorem n6:TyOk Tryz.prog 23 x9:=⟨Tryz.underlying23,TyOk.of_info (by kernel_rfl),fun h=>(by cases h)⟩
def y9:Ty:=⟨.struct #[⟨"Lmtp",4,0,false, "", "",0⟩,⟨"Refuse",22,1,false, "", "",8⟩,⟨"L",23,2,false, "", "",32⟩],3,56,(.agg #[(.bool false),(.slice none 0 0),(.slice none 0 0)]),false⟩
theorem o6:TyOk Tryz.prog 25 y9:=⟨Tryz.underlying25,TyOk.of_info (by kernel_rfl),fun h=>(by cases h)⟩
def A9:Ty:=⟨.pointer 71,1,8,(.pointer none),false⟩
theorem q6:TyOk Tryz.prog 27 A9:=⟨Tryz.underlying27,TyOk.of_info (by kernel_rfl),fun h=>(by cases h)⟩
def B9:Ty:=⟨.pointer 74,1,8,(.pointer none),false⟩
theorem s6:TyOk Tryz.prog 31 B9:=⟨Tryz.underlying31,TyOk.of_info (by kernel_rfl),fun h=>(by cases h)⟩
def C9:Ty:=⟨.slice 5,1,24,(.slice none 0 0),false⟩
theorem u6:TyOk Tryz.prog 33 C9:=⟨Tryz.underlying33,TyOk.of_info (by kernel_rfl),fun h=>(by cases h)⟩
def D9:Ty:=⟨.slice 9,1,24,(.slice none 0 0),false⟩
theorem w6:TyOk Tryz.prog 37 D9:=⟨Tryz.underlying37,TyOk.of_info (by kernel_rfl),fun h=>(by cases h)⟩
def E9:Ty:=⟨.struct #[⟨"Rest",9,0,false, "", "",0⟩,⟨"Skip",4,1,false, "", "",16⟩],2,24,(.agg #[(.string ⟨#[]⟩),(.bool false)]),true⟩
theorem y6:TyOk Tryz.prog 45 E9:=⟨Tryz.underlying45,TyOk.of_info (by kernel_rfl),fun _=>⟨by kernel_rfl,by kernel_rfl,by kernel_rfl⟩⟩
def F9:Ty:=⟨.struct #[⟨"Local",9,0,false, "", "",0⟩,⟨"Domain",9,1,false, "", "",16⟩],2,32,(.agg #[(.string ⟨#[]⟩),(.string ⟨#[]⟩)]),true⟩
theorem z6:TyOk Tryz.prog 47 F9:=⟨Tryz.underlying47,TyOk.of_info (by kernel_rfl),fun _=>⟨by kernel_rfl,by kernel_rfl,by kernel_rfl⟩⟩
def G9:Ty:=⟨.slice 47,1,24,(.slice none 0 0),false⟩
theorem A6:TyOk Tryz.prog 48 G9:=⟨Tryz.underlying48,TyOk.of_info (by kernel_rfl),fun h=>(by cases h)⟩
def H9:Ty:=⟨.struct #[⟨"ID",3,0,false, "", "",0⟩,⟨"Tenant",3,1,false, "", "",8⟩,⟨"IP",3,2,false, "", "",16⟩,⟨"Framer",45,3,false, "", "",24⟩,⟨"State",3,5,false, "", "",48⟩,⟨"Hello",9,6,false, "", "",56⟩,⟨"Null",4,7,false, "", "",72⟩,⟨"From",47,8,false, "", "",80⟩,⟨"To",48,10,false, "", "",112⟩,⟨"Data",37,11,false, "", "",136⟩,⟨"Bytes",3,12,false, "", "",160⟩,⟨"Over",4,13,false, "", "",168⟩],14,176,(.agg #[(.int .i64 0),(.int .i64 0),(.int .i64 0),(.string ⟨#[]⟩),(.bool false),(.int .i64 0),(.string ⟨#[]⟩),(.bool false),(.string ⟨#[]⟩),(.string ⟨#[]⟩),(.slice none 0 0),(.slice none 0 0),(.int .i64 0),(.bool false)]),false⟩
theorem B6:TyOk Tryz.prog 50 H9:=⟨Tryz.underlying50,TyOk.of_info (by kernel_rfl),fun h=>(by cases h)⟩
def I9:Ty:=⟨.slice 67,1,24,(.slice none 0 0),false⟩
theorem C6:TyOk Tryz.prog 51 I9:=⟨Tryz.underlying51,TyOk.of_info (by kernel_rfl),fun h=>(by cases h)⟩
def J9:Ty:=⟨.struct #[⟨"C",50,0,false, "", "",0⟩,⟨"L",51,14,false, "", "",176⟩],15,200,(.agg #[(.int .i64 0),(.int .i64 0),(.int .i64 0),(.string ⟨#[]⟩),(.bool false),(.int .i64 0),(.string ⟨#[]⟩),(.bool false),(.string ⟨#[]⟩),(.string ⟨#[]⟩),(.slice none 0 0),(.slice none 0 0),(.int .i64 0),(.bool false),(.slice none 0 0)]),false⟩
theorem D6:TyOk Tryz.prog 53 J9:=⟨Tryz.underlying53,TyOk.of_info (by kernel_rfl),fun h=>(by cases h)⟩
def K9:Ty:=⟨.int .i64,1,8,(.int .i64 0),false⟩
theorem E6:TyOk Tryz.prog 54 K9:=⟨Tryz.underlying54,TyOk.of_info (by kernel_rfl),fun h=>(by cases h)⟩
def L9:Ty:=⟨.struct #[⟨"Text",9,0,false, "", "",0⟩,⟨"Long",4,1,false, "", "",16⟩],2,24,(.agg #[(.string ⟨#[]⟩),(.bool false)]),true⟩
theorem F6:TyOk Tryz.prog 60 L9:=⟨Tryz.underlying60,TyOk.of_info (by kernel_rfl),fun _=>⟨by kernel_rfl,by kernel_rfl,by kernel_rfl⟩⟩
def M9:Ty:=⟨.struct #[⟨"Kind",3,0,false, "", "",0⟩,⟨"Word",9,1,false, "", "",8⟩,⟨"Null",4,2,false, "", "",24⟩,⟨"Box",47,3,false, "", "",32⟩,⟨"Size",3,5,false, "", "",64⟩],6,72,(.agg #[(.int .i64 0),(.string ⟨#[]⟩),(.bool false),(.string ⟨#[]⟩),(.string ⟨#[]⟩),(.int .i64 0)]),true⟩
theorem G6:TyOk Tryz.prog 63 M9:=⟨Tryz.underlying63,TyOk.of_info (by kernel_rfl),fun _=>⟨by kernel_rfl,by kernel_rfl,by kernel_rfl⟩⟩
def N9:Ty:=⟨.struct #[⟨"Do",3,0,false, "", "",0⟩,⟨"N",3,1,false, "", "",8⟩,⟨"M",3,2,false, "", "",16⟩,⟨"L",60,3,false, "", "",24⟩,⟨"V",63,5,false, "", "",48⟩],11,120,(.agg #[(.int .i64 0),(.int .i64 0),(.int .i64 0),(.string ⟨#[]⟩),(.bool false),(.int .i64 0),(.string ⟨#[]⟩),(.bool false),(.string ⟨#[]⟩),(.string ⟨#[]⟩),(.int .i64 0)]),true⟩
theorem H6:TyOk Tryz.prog 67 N9:=⟨Tryz.underlying67,TyOk.of_info (by kernel_rfl),fun _=>⟨by kernel_rfl,by kernel_rfl,by kernel_rfl⟩⟩
def O9:Ty:=⟨.struct #[⟨"lmtp",4,0,false, "", "pouch/peer",0⟩,⟨"refuse",22,1,false, "", "pouch/peer",8⟩,⟨"f",45,2,false, "", "pouch/peer",32⟩,⟨"from",9,4,false, "", "pouch/peer",56⟩,⟨"to",37,5,false, "", "pouch/peer",72⟩,⟨"text",9,6,false, "", "pouch/peer",96⟩,⟨"in",4,7,false, "", "pouch/peer",112⟩,⟨"got",37,8,false, "", "pouch/peer",120⟩,⟨"out",9,9,false, "", "pouch/peer",144⟩],10,160,(.agg #[(.bool false),(.slice none 0 0),(.string ⟨#[]⟩),(.bool false),(.string ⟨#[]⟩),(.slice none 0 0),(.string ⟨#[]⟩),(.bool false),(.slice none 0 0),(.string ⟨#[]⟩)]),false⟩
theorem I6:TyOk Tryz.prog 71 O9:=⟨Tryz.underlying71,TyOk.of_info (by kernel_rfl),fun h=>(by cases h)⟩
def P9:Ty:=⟨.struct #[⟨"lmtp",4,0,false, "", "pouch/pouchref27",0⟩,⟨"refuse",22,1,false, "", "pouch/pouchref27",8⟩,⟨"asked",3,2,false, "", "pouch/pouchref27",32⟩,⟨"framer",45,3,false, "", "pouch/pouchref27",40⟩,⟨"path",9,5,false, "", "pouch/pouchref27",64⟩,⟨"boxes",48,6,false, "", "pouch/pouchref27",80⟩,⟨"text",4,7,false, "", "pouch/pouchref27",104⟩,⟨"lines",9,8,false, "", "pouch/pouchref27",112⟩,⟨"got",37,9,false, "", "pouch/pouchref27",128⟩],10,152,(.agg #[(.bool false),(.slice none 0 0),(.int .i64 0),(.string ⟨#[]⟩),(.bool false),(.string ⟨#[]⟩),(.slice none 0 0),(.bool false),(.string ⟨#[]⟩),(.slice none 0 0)]),false⟩
theorem J6:TyOk Tryz.prog 74 P9:=⟨Tryz.underlying74,TyOk.of_info (by kernel_rfl),fun h=>(by cases h)⟩
def Q9:Ty:=⟨.slice 60,1,24,(.slice none 0 0),false⟩
theorem L6:TyOk Tryz.prog 75 Q9:=⟨Tryz.underlying75,TyOk.of_info (by kernel_rfl),fun h=>(by cases h)⟩
def R9:Ty:=⟨.int .u64,1,8,(.int .u64 0),false⟩
theorem M6:TyOk Tryz.prog 81 R9:=⟨Tryz.underlying81,TyOk.of_info (by kernel_rfl),fun h=>(by cases h)⟩
def S9:Ty:=⟨.struct #[⟨"Code",3,0,false, "", "",0⟩,⟨"Lines",37,1,false, "", "",8⟩],2,32,(.agg #[(.int .i64 0),(.slice none 0 0)]),false⟩
theorem N6:TyOk Tryz.prog 94 S9:=⟨Tryz.underlying94,TyOk.of_info (by kernel_rfl),fun h=>(by cases h)⟩
def P7:Ty:=⟨.pointer 126,1,8,(.pointer none),false⟩
theorem X2:TyOk Tryz.prog 124 P7:=⟨Tryz.underlying124,TyOk.of_info (by kernel_rfl),fun h=>(by cases h)⟩
def Q7:Ty:=⟨.struct #[⟨"addr",124,0,false, "", "strings",0⟩,⟨"buf",33,1,false, "", "strings",8⟩],2,32,(.agg #[(.pointer none),(.slice none 0 0)]),false⟩
theorem Y2:TyOk Tryz.prog 126 Q7:=⟨Tryz.underlying126,TyOk.of_info (by kernel_rfl),fun h=>(by cases h)⟩
def R7:Ty:=⟨.interface #[("Error",30)],1,16,.nilIface,false⟩
theorem Z2:TyOk Tryz.prog 128 R7:=⟨Tryz.underlying128,TyOk.of_info (by kernel_rfl),fun h=>(by cases h)⟩
def S7:Ty:=⟨.pointer 54,1,8,(.pointer none),false⟩
theorem m3:TyOk Tryz.prog 143 S7:=⟨Tryz.underlying143,TyOk.of_info (by kernel_rfl),fun h=>(by cases h)⟩
def T7:Ty:=⟨.pointer 5,1,8,(.pointer none),false⟩
theorem o3:TyOk Tryz.prog 147 T7:=⟨Tryz.underlying147,TyOk.of_info (by kernel_rfl),fun h=>(by cases h)⟩
def V7:Ty:=⟨.struct #[⟨"e",54,0,false, "", "pouch/verb",0⟩],1,8,(.agg #[(.int .i64 0)]),true⟩
theorem y3:TyOk Tryz.prog 159 V7:=⟨Tryz.underlying159,TyOk.of_info (by kernel_rfl),fun _=>⟨by kernel_rfl,by kernel_rfl,by kernel_rfl⟩⟩
def W7:Ty:=⟨.unsafePointer,1,8,(.pointer none),false⟩
theorem A3:TyOk Tryz.prog 166 W7:=⟨Tryz.underlying166,TyOk.of_info (by kernel_rfl),fun h=>(by cases h)⟩
def X7:Ty:=⟨.struct #[⟨"e",54,0,false, "", "pouch/addr",0⟩],1,8,(.agg #[(.int .i64 0)]),true⟩
theorem B3:TyOk Tryz.prog 184 X7:=⟨Tryz.underlying184,TyOk.of_info (by kernel_rfl),fun _=>⟨by kernel_rfl,by kernel_rfl,by kernel_rfl⟩⟩
def Y7:Ty:=⟨.array 10 9,10,160,(.agg #[(.string ⟨#[]⟩),(.string ⟨#[]⟩),(.string ⟨#[]⟩),(.string ⟨#[]⟩),(.string ⟨#[]⟩),(.string ⟨#[]⟩),(.string ⟨#[]⟩),(.string ⟨#[]⟩),(.string ⟨#[]⟩),(.string ⟨#[]⟩)]),false⟩
theorem C3:TyOk Tryz.prog 199 Y7:=⟨Tryz.underlying199,TyOk.of_info (by kernel_rfl),fun h=>(by cases h)⟩
def tys:Tys:=[none,none,none,some ty3,some ty4,some ty5,none,none,none,some ty9,some s9,none,none,none,none,none,none,none,none,none,some u9,none,some w9,some x9,none,some y9,none,some A9,none,none,none,some B9,none,some C9,none,none,none,some D9,none,none,none,none,none,none,none,some E9,none,some F9,some G9,none,some H9,some I9,none,some J9,some K9,none,none,none,none,none,some L9,none,none,some M9,none,none,none,some N9,none,none,none,some O9,none,none,some P9,some Q9,none,none,none,none,none,some R9,none,none,none,none,none,none,none,none,none,none,none,none,some S9,none,none,none,none,none,none,none,none,none,none,none,none,none,none,none,none,none,none,none,none,none,none,none,none,none,none,none,none,none,some P7,none,some Q7,none,some R7,none,none,none,none,none,none,none,none,none,none,none,none,none,none,some S7,none,none,none,some T7,none,none,none,none,none,none,none,none,none,none,none,some V7,none,none,none,none,none,none,some W7,none,none,none,none,none,none,none,none,none,none,none,none,none,none,none,none,none,some X7,none,none,none,none,none,none,none,none,none,none,none,none,none,none,some Y7,none,none,none,none,none,none,none,none,none,none,none,none,none,none,none,none,none,none,none,none,none,none,none,none,none,none,none,none,none,none,none,none,none,none,none,none,none,none,none,none,none,none]
theorem tys_ok:Pb Tryz.prog tys:=nZ (show vS Tryz.prog 0 tys from ⟨D4,Z7,d8,E4,j6,l6,m6,n6,o6,q6,s6,u6,w6,y6,z6,A6,B6,C6,D6,E6,F6,G6,H6,I6,J6,L6,M6,N6,X2,Y2,Z2,m3,o3,y3,A3,B3,C3,trivial⟩)
theorem mixed:Tryz.prog.follows .mixedOrders=true:=by kernel_rfl
end Go.Proofs.YtddefjokgaajfaaGreatDoor.AM
