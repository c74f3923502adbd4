/- What the evaluator of the abstract machine knows of this seat's types, by program (tys.py), and that it is so. -/
import Derived.Test.YtdohilmgblkppaaGreatDoorProg
import Derived.Test.YtdohilmgblkppaaGreatDoorYB
set_option linter.all false
set_option linter.unusedVariables false
set_option linter.unusedSimpArgs false
namespace Go.Proofs.YtdohilmgblkppaaGreatDoor.AM
open Go Go.RowKit
set_option maxRecDepth 100000
def ty3:Ty:=⟨.int .i64,1,8,(.int .i64 0),false⟩
theorem olb:TyOk Tryz.prog 3 ty3:=⟨Tryz.underlying3,TyOk.of_info (by kernel_rfl),fun h=>(by cases h)⟩
def ty4:Ty:=⟨.bool,1,1,(.bool false),false⟩
theorem plb:TyOk Tryz.prog 4 ty4:=⟨Tryz.underlying4,TyOk.of_info (by kernel_rfl),fun h=>(by cases h)⟩
def ty5:Ty:=⟨.int .u8,1,1,(.int .u8 0),false⟩
theorem qlb:TyOk Tryz.prog 5 ty5:=⟨Tryz.underlying5,TyOk.of_info (by kernel_rfl),fun h=>(by cases h)⟩
def ty9:Ty:=⟨.string,1,16,(.string ⟨#[]⟩),false⟩
theorem sib:TyOk Tryz.prog 9 ty9:=⟨Tryz.underlying9,TyOk.of_info (by kernel_rfl),fun h=>(by cases h)⟩
def tmb:Ty:=⟨.string,1,16,(.string ⟨#[]⟩),false⟩
theorem Njb:TyOk Tryz.prog 10 tmb:=⟨Tryz.underlying10,TyOk.of_info (by kernel_rfl),fun h=>(by cases h)⟩
def umb:Ty:=⟨.interface #[],1,16,.nilIface,false⟩
theorem Ojb:TyOk Tryz.prog 20 umb:=⟨Tryz.underlying20,TyOk.of_info (by kernel_rfl),fun h=>(by cases h)⟩
def vmb:Ty:=⟨.int .i32,1,4,(.int .i32 0),false⟩
theorem Pjb:TyOk Tryz.prog 21 vmb:=⟨Tryz.underlying21,TyOk.of_info (by kernel_rfl),fun h=>(by cases h)⟩
def wmb:Ty:=⟨.struct #[⟨"Rest",9,0,false, "", "",0⟩,⟨"Skip",4,1,false, "", "",16⟩],2,24,(.agg #[(.string ⟨#[]⟩),(.bool false)]),true⟩
theorem Qjb:TyOk Tryz.prog 23 wmb:=⟨Tryz.underlying23,TyOk.of_info (by kernel_rfl),fun _=>⟨by kernel_rfl,by kernel_rfl,by kernel_rfl⟩⟩
def xmb:Ty:=⟨.struct #[⟨"Local",9,0,false, "", "",0⟩,⟨"Domain",9,1,false, "", "",16⟩],2,32,(.agg #[(.string ⟨#[]⟩),(.string ⟨#[]⟩)]),true⟩
theorem Ffb:TyOk Tryz.prog 25 xmb:=⟨Tryz.underlying25,TyOk.of_info (by kernel_rfl),fun _=>⟨by kernel_rfl,by kernel_rfl,by kernel_rfl⟩⟩
def ymb:Ty:=⟨.slice 25,1,24,(.slice none 0 0),false⟩
theorem Rjb:TyOk Tryz.prog 26 ymb:=⟨Tryz.underlying26,TyOk.of_info (by kernel_rfl),fun h=>(by cases h)⟩
def zmb:Ty:=⟨.slice 9,1,24,(.slice none 0 0),false⟩
theorem Sjb:TyOk Tryz.prog 27 zmb:=⟨Tryz.underlying27,TyOk.of_info (by kernel_rfl),fun h=>(by cases h)⟩
def Amb:Ty:=⟨.struct #[⟨"ID",3,0,false, "", "",0⟩,⟨"Tenant",3,1,false, "", "",8⟩,⟨"IP",3,2,false, "", "",16⟩,⟨"Framer",23,3,false, "", "",24⟩,⟨"State",3,5,false, "", "",48⟩,⟨"Hello",9,6,false, "", "",56⟩,⟨"Null",4,7,false, "", "",72⟩,⟨"From",25,8,false, "", "",80⟩,⟨"To",26,10,false, "", "",112⟩,⟨"Data",27,11,false, "", "",136⟩,⟨"Bytes",3,12,false, "", "",160⟩,⟨"Over",4,13,false, "", "",168⟩],14,176,(.agg #[(.int .i64 0),(.int .i64 0),(.int .i64 0),(.string ⟨#[]⟩),(.bool false),(.int .i64 0),(.string ⟨#[]⟩),(.bool false),(.string ⟨#[]⟩),(.string ⟨#[]⟩),(.slice none 0 0),(.slice none 0 0),(.int .i64 0),(.bool false)]),false⟩
theorem Tjb:TyOk Tryz.prog 29 Amb:=⟨Tryz.underlying29,TyOk.of_info (by kernel_rfl),fun h=>(by cases h)⟩
def Bmb:Ty:=⟨.slice 53,1,24,(.slice none 0 0),false⟩
theorem Ujb:TyOk Tryz.prog 30 Bmb:=⟨Tryz.underlying30,TyOk.of_info (by kernel_rfl),fun h=>(by cases h)⟩
def Cmb:Ty:=⟨.struct #[⟨"C",29,0,false, "", "",0⟩,⟨"L",30,14,false, "", "",176⟩],15,200,(.agg #[(.int .i64 0),(.int .i64 0),(.int .i64 0),(.string ⟨#[]⟩),(.bool false),(.int .i64 0),(.string ⟨#[]⟩),(.bool false),(.string ⟨#[]⟩),(.string ⟨#[]⟩),(.slice none 0 0),(.slice none 0 0),(.int .i64 0),(.bool false),(.slice none 0 0)]),false⟩
theorem Vjb:TyOk Tryz.prog 32 Cmb:=⟨Tryz.underlying32,TyOk.of_info (by kernel_rfl),fun h=>(by cases h)⟩
def Dmb:Ty:=⟨.struct #[⟨"Text",9,0,false, "", "",0⟩,⟨"Long",4,1,false, "", "",16⟩],2,24,(.agg #[(.string ⟨#[]⟩),(.bool false)]),true⟩
theorem Wjb:TyOk Tryz.prog 36 Dmb:=⟨Tryz.underlying36,TyOk.of_info (by kernel_rfl),fun _=>⟨by kernel_rfl,by kernel_rfl,by kernel_rfl⟩⟩
def Emb:Ty:=⟨.slice 36,1,24,(.slice none 0 0),false⟩
theorem Xjb:TyOk Tryz.prog 37 Emb:=⟨Tryz.underlying37,TyOk.of_info (by kernel_rfl),fun h=>(by cases h)⟩
def Fmb:Ty:=⟨.slice 3,1,24,(.slice none 0 0),false⟩
theorem Yjb:TyOk Tryz.prog 38 Fmb:=⟨Tryz.underlying38,TyOk.of_info (by kernel_rfl),fun h=>(by cases h)⟩
def Gmb:Ty:=⟨.int .i64,1,8,(.int .i64 0),false⟩
theorem Zjb:TyOk Tryz.prog 39 Gmb:=⟨Tryz.underlying39,TyOk.of_info (by kernel_rfl),fun h=>(by cases h)⟩
def Hmb:Ty:=⟨.struct #[⟨"Kind",3,0,false, "", "",0⟩,⟨"Word",9,1,false, "", "",8⟩,⟨"Null",4,2,false, "", "",24⟩,⟨"Box",25,3,false, "", "",32⟩,⟨"Size",3,5,false, "", "",64⟩],6,72,(.agg #[(.int .i64 0),(.string ⟨#[]⟩),(.bool false),(.string ⟨#[]⟩),(.string ⟨#[]⟩),(.int .i64 0)]),true⟩
theorem akb:TyOk Tryz.prog 51 Hmb:=⟨Tryz.underlying51,TyOk.of_info (by kernel_rfl),fun _=>⟨by kernel_rfl,by kernel_rfl,by kernel_rfl⟩⟩
def Imb:Ty:=⟨.struct #[⟨"Do",3,0,false, "", "",0⟩,⟨"N",3,1,false, "", "",8⟩,⟨"M",3,2,false, "", "",16⟩,⟨"L",36,3,false, "", "",24⟩,⟨"V",51,5,false, "", "",48⟩],11,120,(.agg #[(.int .i64 0),(.int .i64 0),(.int .i64 0),(.string ⟨#[]⟩),(.bool false),(.int .i64 0),(.string ⟨#[]⟩),(.bool false),(.string ⟨#[]⟩),(.string ⟨#[]⟩),(.int .i64 0)]),true⟩
theorem bkb:TyOk Tryz.prog 53 Imb:=⟨Tryz.underlying53,TyOk.of_info (by kernel_rfl),fun _=>⟨by kernel_rfl,by kernel_rfl,by kernel_rfl⟩⟩
def Jmb:Ty:=⟨.int .u64,1,8,(.int .u64 0),false⟩
theorem ckb:TyOk Tryz.prog 98 Jmb:=⟨Tryz.underlying98,TyOk.of_info (by kernel_rfl),fun h=>(by cases h)⟩
def dlb:Ty:=⟨.pointer 108,1,8,(.pointer none),false⟩
theorem whb:TyOk Tryz.prog 105 dlb:=⟨Tryz.underlying105,TyOk.of_info (by kernel_rfl),fun h=>(by cases h)⟩
def elb:Ty:=⟨.slice 5,1,24,(.slice none 0 0),false⟩
theorem xhb:TyOk Tryz.prog 106 elb:=⟨Tryz.underlying106,TyOk.of_info (by kernel_rfl),fun h=>(by cases h)⟩
def flb:Ty:=⟨.struct #[⟨"addr",105,0,false, "", "strings",0⟩,⟨"buf",106,1,false, "", "strings",8⟩],2,32,(.agg #[(.pointer none),(.slice none 0 0)]),false⟩
theorem yhb:TyOk Tryz.prog 108 flb:=⟨Tryz.underlying108,TyOk.of_info (by kernel_rfl),fun h=>(by cases h)⟩
def glb:Ty:=⟨.interface #[("Error",113)],1,16,.nilIface,false⟩
theorem zhb:TyOk Tryz.prog 110 glb:=⟨Tryz.underlying110,TyOk.of_info (by kernel_rfl),fun h=>(by cases h)⟩
def ilb:Ty:=⟨.pointer 39,1,8,(.pointer none),false⟩
theorem Ahb:TyOk Tryz.prog 124 ilb:=⟨Tryz.underlying124,TyOk.of_info (by kernel_rfl),fun h=>(by cases h)⟩
def jlb:Ty:=⟨.pointer 5,1,8,(.pointer none),false⟩
theorem Bhb:TyOk Tryz.prog 133 jlb:=⟨Tryz.underlying133,TyOk.of_info (by kernel_rfl),fun h=>(by cases h)⟩
def klb:Ty:=⟨.struct #[⟨"e",39,0,false, "", "pouch/verb",0⟩],1,8,(.agg #[(.int .i64 0)]),true⟩
theorem Chb:TyOk Tryz.prog 144 klb:=⟨Tryz.underlying144,TyOk.of_info (by kernel_rfl),fun _=>⟨by kernel_rfl,by kernel_rfl,by kernel_rfl⟩⟩
def llb:Ty:=⟨.unsafePointer,1,8,(.pointer none),false⟩
theorem Dhb:TyOk Tryz.prog 153 llb:=⟨Tryz.underlying153,TyOk.of_info (by kernel_rfl),fun h=>(by cases h)⟩
def mlb:Ty:=⟨.struct #[⟨"e",39,0,false, "", "pouch/addr",0⟩],1,8,(.agg #[(.int .i64 0)]),true⟩
theorem Ehb:TyOk Tryz.prog 174 mlb:=⟨Tryz.underlying174,TyOk.of_info (by kernel_rfl),fun _=>⟨by kernel_rfl,by kernel_rfl,by kernel_rfl⟩⟩
def nlb:Ty:=⟨.array 10 9,10,160,(.agg #[(.string ⟨#[]⟩),(.string ⟨#[]⟩),(.string ⟨#[]⟩),(.string ⟨#[]⟩),(.string ⟨#[]⟩),(.string ⟨#[]⟩),(.string ⟨#[]⟩),(.string ⟨#[]⟩),(.string ⟨#[]⟩),(.string ⟨#[]⟩)]),false⟩
theorem Fhb:TyOk Tryz.prog 184 nlb:=⟨Tryz.underlying184,TyOk.of_info (by kernel_rfl),fun h=>(by cases h)⟩
def tys:Tys:=[none,none,none,some ty3,some ty4,some ty5,none,none,none,some ty9,some tmb,none,none,none,none,none,none,none,none,none,some umb,some vmb,none,some wmb,none,some xmb,some ymb,some zmb,none,some Amb,some Bmb,none,some Cmb,none,none,none,some Dmb,some Emb,some Fmb,some Gmb,none,none,none,none,none,none,none,none,none,none,none,some Hmb,none,some Imb,none,none,none,none,none,none,none,none,none,none,none,none,none,none,none,none,none,none,none,none,none,none,none,none,none,none,none,none,none,none,none,none,none,none,none,none,none,none,none,none,none,none,none,none,some Jmb,none,none,none,none,none,none,some dlb,some elb,none,some flb,none,some glb,none,none,none,none,none,none,none,none,none,none,none,none,none,some ilb,none,none,none,none,none,none,none,none,some jlb,none,none,none,none,none,none,none,none,none,none,some klb,none,none,none,none,none,none,none,none,some llb,none,none,none,none,none,none,none,none,none,none,none,none,none,none,none,none,none,none,none,none,some mlb,none,none,none,none,none,none,none,none,none,some nlb,none,none,none,none,none,none,none,none,none,none,none,none,none,none,none,none,none,none,none,none,none,none,none,none,none,none,none,none,none,none,none,none,none,none,none,none,none,none,none,none,none,none,none,none,none,none]
theorem tys_ok:jb Tryz.prog tys:=Peb (show O3 Tryz.prog 0 tys from ⟨olb,plb,qlb,sib,Njb,Ojb,Pjb,Qjb,Ffb,Rjb,Sjb,Tjb,Ujb,Vjb,Wjb,Xjb,Yjb,Zjb,akb,bkb,ckb,whb,xhb,yhb,zhb,Ahb,Bhb,Chb,Dhb,Ehb,Fhb,trivial⟩)
theorem mixed:Tryz.prog.follows .mixedOrders=true:=by kernel_rfl
end Go.Proofs.YtdohilmgblkppaaGreatDoor.AM
