/- What the evaluator of the abstract machine knows of this seat's types, by program (tys.py), and that it is so. -/
import Derived.Test.YtdohilmgblkppaaGreatDoorProg
import Derived.Test.YtdohilmgblkppaaGreatDoorSB
set_option linter.all false
set_option linter.unusedVariables false
set_option linter.unusedSimpArgs false
namespace Go.Proofs.YtdohilmgblkppaaGreatDoor.AM
open Go Go.RowKit
set_option maxRecDepth 100000
def ty3:Ty:=⟨.int .i64,1,8,(.int .i64 0),false⟩
theorem Fob:TyOk Tryz.prog 3 ty3:=⟨Tryz.underlying3,TyOk.of_info (by kernel_rfl),fun h=>(by cases h)⟩
def ty4:Ty:=⟨.bool,1,1,(.bool false),false⟩
theorem Gob:TyOk Tryz.prog 4 ty4:=⟨Tryz.underlying4,TyOk.of_info (by kernel_rfl),fun h=>(by cases h)⟩
def ty5:Ty:=⟨.int .u8,1,1,(.int .u8 0),false⟩
theorem Hob:TyOk Tryz.prog 5 ty5:=⟨Tryz.underlying5,TyOk.of_info (by kernel_rfl),fun h=>(by cases h)⟩
def ty9:Ty:=⟨.string,1,16,(.string ⟨#[]⟩),false⟩
theorem Rlb:TyOk Tryz.prog 9 ty9:=⟨Tryz.underlying9,TyOk.of_info (by kernel_rfl),fun h=>(by cases h)⟩
def Jpb:Ty:=⟨.string,1,16,(.string ⟨#[]⟩),false⟩
theorem inb:TyOk Tryz.prog 10 Jpb:=⟨Tryz.underlying10,TyOk.of_info (by kernel_rfl),fun h=>(by cases h)⟩
def Kpb:Ty:=⟨.interface #[],1,16,.nilIface,false⟩
theorem jnb:TyOk Tryz.prog 20 Kpb:=⟨Tryz.underlying20,TyOk.of_info (by kernel_rfl),fun h=>(by cases h)⟩
def Lpb:Ty:=⟨.int .i32,1,4,(.int .i32 0),false⟩
theorem knb:TyOk Tryz.prog 21 Lpb:=⟨Tryz.underlying21,TyOk.of_info (by kernel_rfl),fun h=>(by cases h)⟩
def Mpb:Ty:=⟨.struct #[⟨"Rest",9,0,false, "", "",0⟩,⟨"Skip",4,1,false, "", "",16⟩],2,24,(.agg #[(.string ⟨#[]⟩),(.bool false)]),true⟩
theorem lnb:TyOk Tryz.prog 23 Mpb:=⟨Tryz.underlying23,TyOk.of_info (by kernel_rfl),fun _=>⟨by kernel_rfl,by kernel_rfl,by kernel_rfl⟩⟩
def Npb:Ty:=⟨.struct #[⟨"Local",9,0,false, "", "",0⟩,⟨"Domain",9,1,false, "", "",16⟩],2,32,(.agg #[(.string ⟨#[]⟩),(.string ⟨#[]⟩)]),true⟩
theorem ajb:TyOk Tryz.prog 25 Npb:=⟨Tryz.underlying25,TyOk.of_info (by kernel_rfl),fun _=>⟨by kernel_rfl,by kernel_rfl,by kernel_rfl⟩⟩
def Opb:Ty:=⟨.slice 25,1,24,(.slice none 0 0),false⟩
theorem mnb:TyOk Tryz.prog 26 Opb:=⟨Tryz.underlying26,TyOk.of_info (by kernel_rfl),fun h=>(by cases h)⟩
def Ppb:Ty:=⟨.slice 9,1,24,(.slice none 0 0),false⟩
theorem nnb:TyOk Tryz.prog 27 Ppb:=⟨Tryz.underlying27,TyOk.of_info (by kernel_rfl),fun h=>(by cases h)⟩
def Qpb:Ty:=⟨.struct #[⟨"ID",3,0,false, "", "",0⟩,⟨"Tenant",3,1,false, "", "",8⟩,⟨"IP",3,2,false, "", "",16⟩,⟨"Framer",23,3,false, "", "",24⟩,⟨"State",3,5,false, "", "",48⟩,⟨"Hello",9,6,false, "", "",56⟩,⟨"Null",4,7,false, "", "",72⟩,⟨"From",25,8,false, "", "",80⟩,⟨"To",26,10,false, "", "",112⟩,⟨"Data",27,11,false, "", "",136⟩,⟨"Bytes",3,12,false, "", "",160⟩,⟨"Over",4,13,false, "", "",168⟩],14,176,(.agg #[(.int .i64 0),(.int .i64 0),(.int .i64 0),(.string ⟨#[]⟩),(.bool false),(.int .i64 0),(.string ⟨#[]⟩),(.bool false),(.string ⟨#[]⟩),(.string ⟨#[]⟩),(.slice none 0 0),(.slice none 0 0),(.int .i64 0),(.bool false)]),false⟩
theorem onb:TyOk Tryz.prog 29 Qpb:=⟨Tryz.underlying29,TyOk.of_info (by kernel_rfl),fun h=>(by cases h)⟩
def Rpb:Ty:=⟨.slice 53,1,24,(.slice none 0 0),false⟩
theorem pnb:TyOk Tryz.prog 30 Rpb:=⟨Tryz.underlying30,TyOk.of_info (by kernel_rfl),fun h=>(by cases h)⟩
def Spb:Ty:=⟨.struct #[⟨"C",29,0,false, "", "",0⟩,⟨"L",30,14,false, "", "",176⟩],15,200,(.agg #[(.int .i64 0),(.int .i64 0),(.int .i64 0),(.string ⟨#[]⟩),(.bool false),(.int .i64 0),(.string ⟨#[]⟩),(.bool false),(.string ⟨#[]⟩),(.string ⟨#[]⟩),(.slice none 0 0),(.slice none 0 0),(.int .i64 0),(.bool false),(.slice none 0 0)]),false⟩
theorem qnb:TyOk Tryz.prog 32 Spb:=⟨Tryz.underlying32,TyOk.of_info (by kernel_rfl),fun h=>(by cases h)⟩
def Tpb:Ty:=⟨.struct #[⟨"Text",9,0,false, "", "",0⟩,⟨"Long",4,1,false, "", "",16⟩],2,24,(.agg #[(.string ⟨#[]⟩),(.bool false)]),true⟩
theorem rnb:TyOk Tryz.prog 36 Tpb:=⟨Tryz.underlying36,TyOk.of_info (by kernel_rfl),fun _=>⟨by kernel_rfl,by kernel_rfl,by kernel_rfl⟩⟩
def Upb:Ty:=⟨.slice 36,1,24,(.slice none 0 0),false⟩
theorem snb:TyOk Tryz.prog 37 Upb:=⟨Tryz.underlying37,TyOk.of_info (by kernel_rfl),fun h=>(by cases h)⟩
def Vpb:Ty:=⟨.slice 3,1,24,(.slice none 0 0),false⟩
theorem tnb:TyOk Tryz.prog 38 Vpb:=⟨Tryz.underlying38,TyOk.of_info (by kernel_rfl),fun h=>(by cases h)⟩
def Wpb:Ty:=⟨.int .i64,1,8,(.int .i64 0),false⟩
theorem unb:TyOk Tryz.prog 39 Wpb:=⟨Tryz.underlying39,TyOk.of_info (by kernel_rfl),fun h=>(by cases h)⟩
def Xpb:Ty:=⟨.struct #[⟨"Kind",3,0,false, "", "",0⟩,⟨"Word",9,1,false, "", "",8⟩,⟨"Null",4,2,false, "", "",24⟩,⟨"Box",25,3,false, "", "",32⟩,⟨"Size",3,5,false, "", "",64⟩],6,72,(.agg #[(.int .i64 0),(.string ⟨#[]⟩),(.bool false),(.string ⟨#[]⟩),(.string ⟨#[]⟩),(.int .i64 0)]),true⟩
theorem vnb:TyOk Tryz.prog 51 Xpb:=⟨Tryz.underlying51,TyOk.of_info (by kernel_rfl),fun _=>⟨by kernel_rfl,by kernel_rfl,by kernel_rfl⟩⟩
def Ypb:Ty:=⟨.struct #[⟨"Do",3,0,false, "", "",0⟩,⟨"N",3,1,false, "", "",8⟩,⟨"M",3,2,false, "", "",16⟩,⟨"L",36,3,false, "", "",24⟩,⟨"V",51,5,false, "", "",48⟩],11,120,(.agg #[(.int .i64 0),(.int .i64 0),(.int .i64 0),(.string ⟨#[]⟩),(.bool false),(.int .i64 0),(.string ⟨#[]⟩),(.bool false),(.string ⟨#[]⟩),(.string ⟨#[]⟩),(.int .i64 0)]),true⟩
theorem wnb:TyOk Tryz.prog 53 Ypb:=⟨Tryz.underlying53,TyOk.of_info (by kernel_rfl),fun _=>⟨by kernel_rfl,by kernel_rfl,by kernel_rfl⟩⟩
def Zpb:Ty:=⟨.struct #[⟨"Code",3,0,false, "", "",0⟩,⟨"Lines",27,1,false, "", "",8⟩],2,32,(.agg #[(.int .i64 0),(.slice none 0 0)]),false⟩
theorem xnb:TyOk Tryz.prog 87 Zpb:=⟨Tryz.underlying87,TyOk.of_info (by kernel_rfl),fun h=>(by cases h)⟩
def aqb:Ty:=⟨.int .u64,1,8,(.int .u64 0),false⟩
theorem ynb:TyOk Tryz.prog 98 aqb:=⟨Tryz.underlying98,TyOk.of_info (by kernel_rfl),fun h=>(by cases h)⟩
def vob:Ty:=⟨.pointer 108,1,8,(.pointer none),false⟩
theorem Vkb:TyOk Tryz.prog 105 vob:=⟨Tryz.underlying105,TyOk.of_info (by kernel_rfl),fun h=>(by cases h)⟩
def wob:Ty:=⟨.slice 5,1,24,(.slice none 0 0),false⟩
theorem Wkb:TyOk Tryz.prog 106 wob:=⟨Tryz.underlying106,TyOk.of_info (by kernel_rfl),fun h=>(by cases h)⟩
def xob:Ty:=⟨.struct #[⟨"addr",105,0,false, "", "strings",0⟩,⟨"buf",106,1,false, "", "strings",8⟩],2,32,(.agg #[(.pointer none),(.slice none 0 0)]),false⟩
theorem Xkb:TyOk Tryz.prog 108 xob:=⟨Tryz.underlying108,TyOk.of_info (by kernel_rfl),fun h=>(by cases h)⟩
def yob:Ty:=⟨.interface #[("Error",113)],1,16,.nilIface,false⟩
theorem Ykb:TyOk Tryz.prog 110 yob:=⟨Tryz.underlying110,TyOk.of_info (by kernel_rfl),fun h=>(by cases h)⟩
def zob:Ty:=⟨.pointer 39,1,8,(.pointer none),false⟩
theorem Zkb:TyOk Tryz.prog 124 zob:=⟨Tryz.underlying124,TyOk.of_info (by kernel_rfl),fun h=>(by cases h)⟩
def Aob:Ty:=⟨.pointer 5,1,8,(.pointer none),false⟩
theorem alb:TyOk Tryz.prog 133 Aob:=⟨Tryz.underlying133,TyOk.of_info (by kernel_rfl),fun h=>(by cases h)⟩
def Bob:Ty:=⟨.struct #[⟨"e",39,0,false, "", "pouch/verb",0⟩],1,8,(.agg #[(.int .i64 0)]),true⟩
theorem blb:TyOk Tryz.prog 144 Bob:=⟨Tryz.underlying144,TyOk.of_info (by kernel_rfl),fun _=>⟨by kernel_rfl,by kernel_rfl,by kernel_rfl⟩⟩
def Cob:Ty:=⟨.unsafePointer,1,8,(.pointer none),false⟩
theorem clb:TyOk Tryz.prog 153 Cob:=⟨Tryz.underlying153,TyOk.of_info (by kernel_rfl),fun h=>(by cases h)⟩
def Dob:Ty:=⟨.struct #[⟨"e",39,0,false, "", "pouch/addr",0⟩],1,8,(.agg #[(.int .i64 0)]),true⟩
theorem dlb:TyOk Tryz.prog 174 Dob:=⟨Tryz.underlying174,TyOk.of_info (by kernel_rfl),fun _=>⟨by kernel_rfl,by kernel_rfl,by kernel_rfl⟩⟩
def Eob:Ty:=⟨.array 10 9,10,160,(.agg #[(.string ⟨#[]⟩),(.string ⟨#[]⟩),(.string ⟨#[]⟩),(.string ⟨#[]⟩),(.string ⟨#[]⟩),(.string ⟨#[]⟩),(.string ⟨#[]⟩),(.string ⟨#[]⟩),(.string ⟨#[]⟩),(.string ⟨#[]⟩)]),false⟩
theorem elb:TyOk Tryz.prog 184 Eob:=⟨Tryz.underlying184,TyOk.of_info (by kernel_rfl),fun h=>(by cases h)⟩
def tys:Tys:=[none,none,none,some ty3,some ty4,some ty5,none,none,none,some ty9,some Jpb,none,none,none,none,none,none,none,none,none,some Kpb,some Lpb,none,some Mpb,none,some Npb,some Opb,some Ppb,none,some Qpb,some Rpb,none,some Spb,none,none,none,some Tpb,some Upb,some Vpb,some Wpb,none,none,none,none,none,none,none,none,none,none,none,some Xpb,none,some Ypb,none,none,none,none,none,none,none,none,none,none,none,none,none,none,none,none,none,none,none,none,none,none,none,none,none,none,none,none,none,none,none,none,none,some Zpb,none,none,none,none,none,none,none,none,none,none,some aqb,none,none,none,none,none,none,some vob,some wob,none,some xob,none,some yob,none,none,none,none,none,none,none,none,none,none,none,none,none,some zob,none,none,none,none,none,none,none,none,some Aob,none,none,none,none,none,none,none,none,none,none,some Bob,none,none,none,none,none,none,none,none,some Cob,none,none,none,none,none,none,none,none,none,none,none,none,none,none,none,none,none,none,none,none,some Dob,none,none,none,none,none,none,none,none,none,some Eob,none,none,none,none,none,none,none,none,none,none,none,none,none,none,none,none,none,none,none,none,none,none,none,none,none,none,none,none,none,none,none,none,none,none,none,none,none,none,none,none,none,none,none,none,none,none]
theorem tys_ok:fb Tryz.prog tys:=dib (show j8 Tryz.prog 0 tys from ⟨Fob,Gob,Hob,Rlb,inb,jnb,knb,lnb,ajb,mnb,nnb,onb,pnb,qnb,rnb,snb,tnb,unb,vnb,wnb,xnb,ynb,Vkb,Wkb,Xkb,Ykb,Zkb,alb,blb,clb,dlb,elb,trivial⟩)
theorem mixed:Tryz.prog.follows .mixedOrders=true:=by kernel_rfl
end Go.Proofs.YtdohilmgblkppaaGreatDoor.AM
