/- What the evaluator of the abstract machine knows of this seat's types, by program (tys.py), and that it is so. -/
import Derived.Test.YtdohilmgblkppaaGreatDoorProg
import Derived.Test.YtdohilmgblkppaaGreatDoorZB
set_option linter.all false
set_option linter.unusedVariables false
set_option linter.unusedSimpArgs false
namespace Go.Proofs.YtdohilmgblkppaaGreatDoor.AM
open Go Go.RowKit
set_option maxRecDepth 100000
def ty3:Ty:=⟨.int .i64,1,8,(.int .i64 0),false⟩
theorem Mlb:TyOk Tryz.prog 3 ty3:=⟨Tryz.underlying3,TyOk.of_info (by kernel_rfl),fun h=>(by cases h)⟩
def ty4:Ty:=⟨.bool,1,1,(.bool false),false⟩
theorem Nlb:TyOk Tryz.prog 4 ty4:=⟨Tryz.underlying4,TyOk.of_info (by kernel_rfl),fun h=>(by cases h)⟩
def ty5:Ty:=⟨.int .u8,1,1,(.int .u8 0),false⟩
theorem Olb:TyOk Tryz.prog 5 ty5:=⟨Tryz.underlying5,TyOk.of_info (by kernel_rfl),fun h=>(by cases h)⟩
def ty9:Ty:=⟨.string,1,16,(.string ⟨#[]⟩),false⟩
theorem Sib:TyOk Tryz.prog 9 ty9:=⟨Tryz.underlying9,TyOk.of_info (by kernel_rfl),fun h=>(by cases h)⟩
def Umb:Ty:=⟨.string,1,16,(.string ⟨#[]⟩),false⟩
theorem pkb:TyOk Tryz.prog 10 Umb:=⟨Tryz.underlying10,TyOk.of_info (by kernel_rfl),fun h=>(by cases h)⟩
def Vmb:Ty:=⟨.interface #[],1,16,.nilIface,false⟩
theorem qkb:TyOk Tryz.prog 20 Vmb:=⟨Tryz.underlying20,TyOk.of_info (by kernel_rfl),fun h=>(by cases h)⟩
def Wmb:Ty:=⟨.int .i32,1,4,(.int .i32 0),false⟩
theorem rkb:TyOk Tryz.prog 21 Wmb:=⟨Tryz.underlying21,TyOk.of_info (by kernel_rfl),fun h=>(by cases h)⟩
def Xmb:Ty:=⟨.struct #[⟨"Rest",9,0,false, "", "",0⟩,⟨"Skip",4,1,false, "", "",16⟩],2,24,(.agg #[(.string ⟨#[]⟩),(.bool false)]),true⟩
theorem skb:TyOk Tryz.prog 23 Xmb:=⟨Tryz.underlying23,TyOk.of_info (by kernel_rfl),fun _=>⟨by kernel_rfl,by kernel_rfl,by kernel_rfl⟩⟩
def Ymb:Ty:=⟨.struct #[⟨"Local",9,0,false, "", "",0⟩,⟨"Domain",9,1,false, "", "",16⟩],2,32,(.agg #[(.string ⟨#[]⟩),(.string ⟨#[]⟩)]),true⟩
theorem Rfb:TyOk Tryz.prog 25 Ymb:=⟨Tryz.underlying25,TyOk.of_info (by kernel_rfl),fun _=>⟨by kernel_rfl,by kernel_rfl,by kernel_rfl⟩⟩
def Zmb:Ty:=⟨.slice 25,1,24,(.slice none 0 0),false⟩
theorem tkb:TyOk Tryz.prog 26 Zmb:=⟨Tryz.underlying26,TyOk.of_info (by kernel_rfl),fun h=>(by cases h)⟩
def anb:Ty:=⟨.slice 9,1,24,(.slice none 0 0),false⟩
theorem ukb:TyOk Tryz.prog 27 anb:=⟨Tryz.underlying27,TyOk.of_info (by kernel_rfl),fun h=>(by cases h)⟩
def bnb:Ty:=⟨.struct #[⟨"ID",3,0,false, "", "",0⟩,⟨"Tenant",3,1,false, "", "",8⟩,⟨"IP",3,2,false, "", "",16⟩,⟨"Framer",23,3,false, "", "",24⟩,⟨"State",3,5,false, "", "",48⟩,⟨"Hello",9,6,false, "", "",56⟩,⟨"Null",4,7,false, "", "",72⟩,⟨"From",25,8,false, "", "",80⟩,⟨"To",26,10,false, "", "",112⟩,⟨"Data",27,11,false, "", "",136⟩,⟨"Bytes",3,12,false, "", "",160⟩,⟨"Over",4,13,false, "", "",168⟩],14,176,(.agg #[(.int .i64 0),(.int .i64 0),(.int .i64 0),(.string ⟨#[]⟩),(.bool false),(.int .i64 0),(.string ⟨#[]⟩),(.bool false),(.string ⟨#[]⟩),(.string ⟨#[]⟩),(.slice none 0 0),(.slice none 0 0),(.int .i64 0),(.bool false)]),false⟩
theorem vkb:TyOk Tryz.prog 29 bnb:=⟨Tryz.underlying29,TyOk.of_info (by kernel_rfl),fun h=>(by cases h)⟩
def cnb:Ty:=⟨.slice 53,1,24,(.slice none 0 0),false⟩
theorem wkb:TyOk Tryz.prog 30 cnb:=⟨Tryz.underlying30,TyOk.of_info (by kernel_rfl),fun h=>(by cases h)⟩
def dnb:Ty:=⟨.struct #[⟨"C",29,0,false, "", "",0⟩,⟨"L",30,14,false, "", "",176⟩],15,200,(.agg #[(.int .i64 0),(.int .i64 0),(.int .i64 0),(.string ⟨#[]⟩),(.bool false),(.int .i64 0),(.string ⟨#[]⟩),(.bool false),(.string ⟨#[]⟩),(.string ⟨#[]⟩),(.slice none 0 0),(.slice none 0 0),(.int .i64 0),(.bool false),(.slice none 0 0)]),false⟩
theorem xkb:TyOk Tryz.prog 32 dnb:=⟨Tryz.underlying32,TyOk.of_info (by kernel_rfl),fun h=>(by cases h)⟩
def enb:Ty:=⟨.struct #[⟨"Text",9,0,false, "", "",0⟩,⟨"Long",4,1,false, "", "",16⟩],2,24,(.agg #[(.string ⟨#[]⟩),(.bool false)]),true⟩
theorem ykb:TyOk Tryz.prog 36 enb:=⟨Tryz.underlying36,TyOk.of_info (by kernel_rfl),fun _=>⟨by kernel_rfl,by kernel_rfl,by kernel_rfl⟩⟩
def fnb:Ty:=⟨.int .i64,1,8,(.int .i64 0),false⟩
theorem zkb:TyOk Tryz.prog 39 fnb:=⟨Tryz.underlying39,TyOk.of_info (by kernel_rfl),fun h=>(by cases h)⟩
def gnb:Ty:=⟨.struct #[⟨"Kind",3,0,false, "", "",0⟩,⟨"Word",9,1,false, "", "",8⟩,⟨"Null",4,2,false, "", "",24⟩,⟨"Box",25,3,false, "", "",32⟩,⟨"Size",3,5,false, "", "",64⟩],6,72,(.agg #[(.int .i64 0),(.string ⟨#[]⟩),(.bool false),(.string ⟨#[]⟩),(.string ⟨#[]⟩),(.int .i64 0)]),true⟩
theorem Akb:TyOk Tryz.prog 51 gnb:=⟨Tryz.underlying51,TyOk.of_info (by kernel_rfl),fun _=>⟨by kernel_rfl,by kernel_rfl,by kernel_rfl⟩⟩
def inb:Ty:=⟨.struct #[⟨"Do",3,0,false, "", "",0⟩,⟨"N",3,1,false, "", "",8⟩,⟨"M",3,2,false, "", "",16⟩,⟨"L",36,3,false, "", "",24⟩,⟨"V",51,5,false, "", "",48⟩],11,120,(.agg #[(.int .i64 0),(.int .i64 0),(.int .i64 0),(.string ⟨#[]⟩),(.bool false),(.int .i64 0),(.string ⟨#[]⟩),(.bool false),(.string ⟨#[]⟩),(.string ⟨#[]⟩),(.int .i64 0)]),true⟩
theorem Bkb:TyOk Tryz.prog 53 inb:=⟨Tryz.underlying53,TyOk.of_info (by kernel_rfl),fun _=>⟨by kernel_rfl,by kernel_rfl,by kernel_rfl⟩⟩
def jnb:Ty:=⟨.int .u64,1,8,(.int .u64 0),false⟩
theorem Ckb:TyOk Tryz.prog 98 jnb:=⟨Tryz.underlying98,TyOk.of_info (by kernel_rfl),fun h=>(by cases h)⟩
def Clb:Ty:=⟨.pointer 108,1,8,(.pointer none),false⟩
theorem Qhb:TyOk Tryz.prog 105 Clb:=⟨Tryz.underlying105,TyOk.of_info (by kernel_rfl),fun h=>(by cases h)⟩
def Dlb:Ty:=⟨.slice 5,1,24,(.slice none 0 0),false⟩
theorem Rhb:TyOk Tryz.prog 106 Dlb:=⟨Tryz.underlying106,TyOk.of_info (by kernel_rfl),fun h=>(by cases h)⟩
def Elb:Ty:=⟨.struct #[⟨"addr",105,0,false, "", "strings",0⟩,⟨"buf",106,1,false, "", "strings",8⟩],2,32,(.agg #[(.pointer none),(.slice none 0 0)]),false⟩
theorem Shb:TyOk Tryz.prog 108 Elb:=⟨Tryz.underlying108,TyOk.of_info (by kernel_rfl),fun h=>(by cases h)⟩
def Flb:Ty:=⟨.interface #[("Error",113)],1,16,.nilIface,false⟩
theorem Thb:TyOk Tryz.prog 110 Flb:=⟨Tryz.underlying110,TyOk.of_info (by kernel_rfl),fun h=>(by cases h)⟩
def Glb:Ty:=⟨.pointer 39,1,8,(.pointer none),false⟩
theorem Uhb:TyOk Tryz.prog 124 Glb:=⟨Tryz.underlying124,TyOk.of_info (by kernel_rfl),fun h=>(by cases h)⟩
def Hlb:Ty:=⟨.pointer 5,1,8,(.pointer none),false⟩
theorem Vhb:TyOk Tryz.prog 133 Hlb:=⟨Tryz.underlying133,TyOk.of_info (by kernel_rfl),fun h=>(by cases h)⟩
def Ilb:Ty:=⟨.struct #[⟨"e",39,0,false, "", "pouch/verb",0⟩],1,8,(.agg #[(.int .i64 0)]),true⟩
theorem Whb:TyOk Tryz.prog 144 Ilb:=⟨Tryz.underlying144,TyOk.of_info (by kernel_rfl),fun _=>⟨by kernel_rfl,by kernel_rfl,by kernel_rfl⟩⟩
def Jlb:Ty:=⟨.unsafePointer,1,8,(.pointer none),false⟩
theorem Xhb:TyOk Tryz.prog 153 Jlb:=⟨Tryz.underlying153,TyOk.of_info (by kernel_rfl),fun h=>(by cases h)⟩
def Klb:Ty:=⟨.struct #[⟨"e",39,0,false, "", "pouch/addr",0⟩],1,8,(.agg #[(.int .i64 0)]),true⟩
theorem Yhb:TyOk Tryz.prog 174 Klb:=⟨Tryz.underlying174,TyOk.of_info (by kernel_rfl),fun _=>⟨by kernel_rfl,by kernel_rfl,by kernel_rfl⟩⟩
def Llb:Ty:=⟨.array 10 9,10,160,(.agg #[(.string ⟨#[]⟩),(.string ⟨#[]⟩),(.string ⟨#[]⟩),(.string ⟨#[]⟩),(.string ⟨#[]⟩),(.string ⟨#[]⟩),(.string ⟨#[]⟩),(.string ⟨#[]⟩),(.string ⟨#[]⟩),(.string ⟨#[]⟩)]),false⟩
theorem Zhb:TyOk Tryz.prog 184 Llb:=⟨Tryz.underlying184,TyOk.of_info (by kernel_rfl),fun h=>(by cases h)⟩
def tys:Tys:=[none,none,none,some ty3,some ty4,some ty5,none,none,none,some ty9,some Umb,none,none,none,none,none,none,none,none,none,some Vmb,some Wmb,none,some Xmb,none,some Ymb,some Zmb,some anb,none,some bnb,some cnb,none,some dnb,none,none,none,some enb,none,none,some fnb,none,none,none,none,none,none,none,none,none,none,none,some gnb,none,some inb,none,none,none,none,none,none,none,none,none,none,none,none,none,none,none,none,none,none,none,none,none,none,none,none,none,none,none,none,none,none,none,none,none,none,none,none,none,none,none,none,none,none,none,none,some jnb,none,none,none,none,none,none,some Clb,some Dlb,none,some Elb,none,some Flb,none,none,none,none,none,none,none,none,none,none,none,none,none,some Glb,none,none,none,none,none,none,none,none,some Hlb,none,none,none,none,none,none,none,none,none,none,some Ilb,none,none,none,none,none,none,none,none,some Jlb,none,none,none,none,none,none,none,none,none,none,none,none,none,none,none,none,none,none,none,none,some Klb,none,none,none,none,none,none,none,none,none,some Llb,none,none,none,none,none,none,none,none,none,none,none,none,none,none,none,none,none,none,none,none,none,none,none,none,none,none,none,none,none,none,none,none,none,none,none,none,none,none,none,none,none,none,none,none,none,none]
theorem tys_ok:tb Tryz.prog tys:=Ueb (show m3 Tryz.prog 0 tys from ⟨Mlb,Nlb,Olb,Sib,pkb,qkb,rkb,skb,Rfb,tkb,ukb,vkb,wkb,xkb,ykb,zkb,Akb,Bkb,Ckb,Qhb,Rhb,Shb,Thb,Uhb,Vhb,Whb,Xhb,Yhb,Zhb,trivial⟩)
theorem mixed:Tryz.prog.follows .mixedOrders=true:=by kernel_rfl
end Go.Proofs.YtdohilmgblkppaaGreatDoor.AM
