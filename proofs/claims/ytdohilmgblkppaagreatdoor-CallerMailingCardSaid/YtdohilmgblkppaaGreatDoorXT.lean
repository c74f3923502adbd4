/- What the evaluator of the abstract machine knows of this seat's types, by program (tys.py), and that it is so. -/
import Derived.Test.YtdohilmgblkppaaGreatDoorProg
import Derived.Test.YtdohilmgblkppaaGreatDoorXB
set_option linter.all false
set_option linter.unusedVariables false
set_option linter.unusedSimpArgs false
namespace Go.Proofs.YtdohilmgblkppaaGreatDoor.AM
open Go Go.RowKit
set_option maxRecDepth 100000
def ty3:Ty:=⟨.int .i64,1,8,(.int .i64 0),false⟩
theorem Okb:TyOk Tryz.prog 3 ty3:=⟨Tryz.underlying3,TyOk.of_info (by kernel_rfl),fun h=>(by cases h)⟩
def ty4:Ty:=⟨.bool,1,1,(.bool false),false⟩
theorem Pkb:TyOk Tryz.prog 4 ty4:=⟨Tryz.underlying4,TyOk.of_info (by kernel_rfl),fun h=>(by cases h)⟩
def ty5:Ty:=⟨.int .u8,1,1,(.int .u8 0),false⟩
theorem Qkb:TyOk Tryz.prog 5 ty5:=⟨Tryz.underlying5,TyOk.of_info (by kernel_rfl),fun h=>(by cases h)⟩
def ty9:Ty:=⟨.string,1,16,(.string ⟨#[]⟩),false⟩
theorem Thb:TyOk Tryz.prog 9 ty9:=⟨Tryz.underlying9,TyOk.of_info (by kernel_rfl),fun h=>(by cases h)⟩
def Xlb:Ty:=⟨.string,1,16,(.string ⟨#[]⟩),false⟩
theorem sjb:TyOk Tryz.prog 10 Xlb:=⟨Tryz.underlying10,TyOk.of_info (by kernel_rfl),fun h=>(by cases h)⟩
def Ylb:Ty:=⟨.interface #[],1,16,.nilIface,false⟩
theorem tjb:TyOk Tryz.prog 20 Ylb:=⟨Tryz.underlying20,TyOk.of_info (by kernel_rfl),fun h=>(by cases h)⟩
def Zlb:Ty:=⟨.int .i32,1,4,(.int .i32 0),false⟩
theorem ujb:TyOk Tryz.prog 21 Zlb:=⟨Tryz.underlying21,TyOk.of_info (by kernel_rfl),fun h=>(by cases h)⟩
def amb:Ty:=⟨.struct #[⟨"Rest",9,0,false, "", "",0⟩,⟨"Skip",4,1,false, "", "",16⟩],2,24,(.agg #[(.string ⟨#[]⟩),(.bool false)]),true⟩
theorem vjb:TyOk Tryz.prog 23 amb:=⟨Tryz.underlying23,TyOk.of_info (by kernel_rfl),fun _=>⟨by kernel_rfl,by kernel_rfl,by kernel_rfl⟩⟩
def bmb:Ty:=⟨.struct #[⟨"Local",9,0,false, "", "",0⟩,⟨"Domain",9,1,false, "", "",16⟩],2,32,(.agg #[(.string ⟨#[]⟩),(.string ⟨#[]⟩)]),true⟩
theorem Ueb:TyOk Tryz.prog 25 bmb:=⟨Tryz.underlying25,TyOk.of_info (by kernel_rfl),fun _=>⟨by kernel_rfl,by kernel_rfl,by kernel_rfl⟩⟩
def cmb:Ty:=⟨.slice 25,1,24,(.slice none 0 0),false⟩
theorem wjb:TyOk Tryz.prog 26 cmb:=⟨Tryz.underlying26,TyOk.of_info (by kernel_rfl),fun h=>(by cases h)⟩
def dmb:Ty:=⟨.slice 9,1,24,(.slice none 0 0),false⟩
theorem xjb:TyOk Tryz.prog 27 dmb:=⟨Tryz.underlying27,TyOk.of_info (by kernel_rfl),fun h=>(by cases h)⟩
def emb:Ty:=⟨.struct #[⟨"ID",3,0,false, "", "",0⟩,⟨"Tenant",3,1,false, "", "",8⟩,⟨"IP",3,2,false, "", "",16⟩,⟨"Framer",23,3,false, "", "",24⟩,⟨"State",3,5,false, "", "",48⟩,⟨"Hello",9,6,false, "", "",56⟩,⟨"Null",4,7,false, "", "",72⟩,⟨"From",25,8,false, "", "",80⟩,⟨"To",26,10,false, "", "",112⟩,⟨"Data",27,11,false, "", "",136⟩,⟨"Bytes",3,12,false, "", "",160⟩,⟨"Over",4,13,false, "", "",168⟩],14,176,(.agg #[(.int .i64 0),(.int .i64 0),(.int .i64 0),(.string ⟨#[]⟩),(.bool false),(.int .i64 0),(.string ⟨#[]⟩),(.bool false),(.string ⟨#[]⟩),(.string ⟨#[]⟩),(.slice none 0 0),(.slice none 0 0),(.int .i64 0),(.bool false)]),false⟩
theorem yjb:TyOk Tryz.prog 29 emb:=⟨Tryz.underlying29,TyOk.of_info (by kernel_rfl),fun h=>(by cases h)⟩
def fmb:Ty:=⟨.slice 53,1,24,(.slice none 0 0),false⟩
theorem zjb:TyOk Tryz.prog 30 fmb:=⟨Tryz.underlying30,TyOk.of_info (by kernel_rfl),fun h=>(by cases h)⟩
def gmb:Ty:=⟨.struct #[⟨"C",29,0,false, "", "",0⟩,⟨"L",30,14,false, "", "",176⟩],15,200,(.agg #[(.int .i64 0),(.int .i64 0),(.int .i64 0),(.string ⟨#[]⟩),(.bool false),(.int .i64 0),(.string ⟨#[]⟩),(.bool false),(.string ⟨#[]⟩),(.string ⟨#[]⟩),(.slice none 0 0),(.slice none 0 0),(.int .i64 0),(.bool false),(.slice none 0 0)]),false⟩
theorem Ajb:TyOk Tryz.prog 32 gmb:=⟨Tryz.underlying32,TyOk.of_info (by kernel_rfl),fun h=>(by cases h)⟩
def hmb:Ty:=⟨.struct #[⟨"Text",9,0,false, "", "",0⟩,⟨"Long",4,1,false, "", "",16⟩],2,24,(.agg #[(.string ⟨#[]⟩),(.bool false)]),true⟩
theorem Bjb:TyOk Tryz.prog 36 hmb:=⟨Tryz.underlying36,TyOk.of_info (by kernel_rfl),fun _=>⟨by kernel_rfl,by kernel_rfl,by kernel_rfl⟩⟩
def imb:Ty:=⟨.int .i64,1,8,(.int .i64 0),false⟩
theorem Cjb:TyOk Tryz.prog 39 imb:=⟨Tryz.underlying39,TyOk.of_info (by kernel_rfl),fun h=>(by cases h)⟩
def jmb:Ty:=⟨.struct #[⟨"Kind",3,0,false, "", "",0⟩,⟨"Word",9,1,false, "", "",8⟩,⟨"Null",4,2,false, "", "",24⟩,⟨"Box",25,3,false, "", "",32⟩,⟨"Size",3,5,false, "", "",64⟩],6,72,(.agg #[(.int .i64 0),(.string ⟨#[]⟩),(.bool false),(.string ⟨#[]⟩),(.string ⟨#[]⟩),(.int .i64 0)]),true⟩
theorem Djb:TyOk Tryz.prog 51 jmb:=⟨Tryz.underlying51,TyOk.of_info (by kernel_rfl),fun _=>⟨by kernel_rfl,by kernel_rfl,by kernel_rfl⟩⟩
def kmb:Ty:=⟨.struct #[⟨"Do",3,0,false, "", "",0⟩,⟨"N",3,1,false, "", "",8⟩,⟨"M",3,2,false, "", "",16⟩,⟨"L",36,3,false, "", "",24⟩,⟨"V",51,5,false, "", "",48⟩],11,120,(.agg #[(.int .i64 0),(.int .i64 0),(.int .i64 0),(.string ⟨#[]⟩),(.bool false),(.int .i64 0),(.string ⟨#[]⟩),(.bool false),(.string ⟨#[]⟩),(.string ⟨#[]⟩),(.int .i64 0)]),true⟩
theorem Ejb:TyOk Tryz.prog 53 kmb:=⟨Tryz.underlying53,TyOk.of_info (by kernel_rfl),fun _=>⟨by kernel_rfl,by kernel_rfl,by kernel_rfl⟩⟩
def lmb:Ty:=⟨.int .u64,1,8,(.int .u64 0),false⟩
theorem Fjb:TyOk Tryz.prog 98 lmb:=⟨Tryz.underlying98,TyOk.of_info (by kernel_rfl),fun h=>(by cases h)⟩
def Ekb:Ty:=⟨.pointer 108,1,8,(.pointer none),false⟩
theorem Qgb:TyOk Tryz.prog 105 Ekb:=⟨Tryz.underlying105,TyOk.of_info (by kernel_rfl),fun h=>(by cases h)⟩
def Fkb:Ty:=⟨.slice 5,1,24,(.slice none 0 0),false⟩
theorem Rgb:TyOk Tryz.prog 106 Fkb:=⟨Tryz.underlying106,TyOk.of_info (by kernel_rfl),fun h=>(by cases h)⟩
def Gkb:Ty:=⟨.struct #[⟨"addr",105,0,false, "", "strings",0⟩,⟨"buf",106,1,false, "", "strings",8⟩],2,32,(.agg #[(.pointer none),(.slice none 0 0)]),false⟩
theorem Sgb:TyOk Tryz.prog 108 Gkb:=⟨Tryz.underlying108,TyOk.of_info (by kernel_rfl),fun h=>(by cases h)⟩
def Hkb:Ty:=⟨.interface #[("Error",113)],1,16,.nilIface,false⟩
theorem Tgb:TyOk Tryz.prog 110 Hkb:=⟨Tryz.underlying110,TyOk.of_info (by kernel_rfl),fun h=>(by cases h)⟩
def Ikb:Ty:=⟨.pointer 39,1,8,(.pointer none),false⟩
theorem Ugb:TyOk Tryz.prog 124 Ikb:=⟨Tryz.underlying124,TyOk.of_info (by kernel_rfl),fun h=>(by cases h)⟩
def Jkb:Ty:=⟨.pointer 5,1,8,(.pointer none),false⟩
theorem Vgb:TyOk Tryz.prog 133 Jkb:=⟨Tryz.underlying133,TyOk.of_info (by kernel_rfl),fun h=>(by cases h)⟩
def Kkb:Ty:=⟨.struct #[⟨"e",39,0,false, "", "pouch/verb",0⟩],1,8,(.agg #[(.int .i64 0)]),true⟩
theorem Wgb:TyOk Tryz.prog 144 Kkb:=⟨Tryz.underlying144,TyOk.of_info (by kernel_rfl),fun _=>⟨by kernel_rfl,by kernel_rfl,by kernel_rfl⟩⟩
def Lkb:Ty:=⟨.unsafePointer,1,8,(.pointer none),false⟩
theorem Xgb:TyOk Tryz.prog 153 Lkb:=⟨Tryz.underlying153,TyOk.of_info (by kernel_rfl),fun h=>(by cases h)⟩
def Mkb:Ty:=⟨.struct #[⟨"e",39,0,false, "", "pouch/addr",0⟩],1,8,(.agg #[(.int .i64 0)]),true⟩
theorem Ygb:TyOk Tryz.prog 174 Mkb:=⟨Tryz.underlying174,TyOk.of_info (by kernel_rfl),fun _=>⟨by kernel_rfl,by kernel_rfl,by kernel_rfl⟩⟩
def Nkb:Ty:=⟨.array 10 9,10,160,(.agg #[(.string ⟨#[]⟩),(.string ⟨#[]⟩),(.string ⟨#[]⟩),(.string ⟨#[]⟩),(.string ⟨#[]⟩),(.string ⟨#[]⟩),(.string ⟨#[]⟩),(.string ⟨#[]⟩),(.string ⟨#[]⟩),(.string ⟨#[]⟩)]),false⟩
theorem Zgb:TyOk Tryz.prog 184 Nkb:=⟨Tryz.underlying184,TyOk.of_info (by kernel_rfl),fun h=>(by cases h)⟩
def tys:Tys:=[none,none,none,some ty3,some ty4,some ty5,none,none,none,some ty9,some Xlb,none,none,none,none,none,none,none,none,none,some Ylb,some Zlb,none,some amb,none,some bmb,some cmb,some dmb,none,some emb,some fmb,none,some gmb,none,none,none,some hmb,none,none,some imb,none,none,none,none,none,none,none,none,none,none,none,some jmb,none,some kmb,none,none,none,none,none,none,none,none,none,none,none,none,none,none,none,none,none,none,none,none,none,none,none,none,none,none,none,none,none,none,none,none,none,none,none,none,none,none,none,none,none,none,none,none,some lmb,none,none,none,none,none,none,some Ekb,some Fkb,none,some Gkb,none,some Hkb,none,none,none,none,none,none,none,none,none,none,none,none,none,some Ikb,none,none,none,none,none,none,none,none,some Jkb,none,none,none,none,none,none,none,none,none,none,some Kkb,none,none,none,none,none,none,none,none,some Lkb,none,none,none,none,none,none,none,none,none,none,none,none,none,none,none,none,none,none,none,none,some Mkb,none,none,none,none,none,none,none,none,none,some Nkb,none,none,none,none,none,none,none,none,none,none,none,none,none,none,none,none,none,none,none,none,none,none,none,none,none,none,none,none,none,none,none,none,none,none,none,none,none,none,none,none,none,none,none,none,none,none]
theorem tys_ok:pb Tryz.prog tys:=Ydb (show N0 Tryz.prog 0 tys from ⟨Okb,Pkb,Qkb,Thb,sjb,tjb,ujb,vjb,Ueb,wjb,xjb,yjb,zjb,Ajb,Bjb,Cjb,Djb,Ejb,Fjb,Qgb,Rgb,Sgb,Tgb,Ugb,Vgb,Wgb,Xgb,Ygb,Zgb,trivial⟩)
theorem mixed:Tryz.prog.follows .mixedOrders=true:=by kernel_rfl
end Go.Proofs.YtdohilmgblkppaaGreatDoor.AM
