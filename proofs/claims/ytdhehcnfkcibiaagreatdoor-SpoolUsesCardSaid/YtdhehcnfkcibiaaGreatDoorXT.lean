/- What the evaluator of the abstract machine knows of this seat's types, by program (tys.py), and that it is so. -/
import Derived.Test.YtdhehcnfkcibiaaGreatDoorProg
import Derived.Test.YtdhehcnfkcibiaaGreatDoorXB
import Derived.StringKeys
import Derived.DeepKeys4
set_option linter.all false
set_option linter.unusedVariables false
set_option linter.unusedSimpArgs false
namespace Go.Proofs.YtdhehcnfkcibiaaGreatDoor.AM
open Go Go.RowKit
set_option maxRecDepth 100000
open Go.WideMaps
theorem kmb:laidOutB Tryz.prog=true:=by kernel_rfl
def ty2:Ty:=⟨.int .i64,1,8,(.int .i64 0),false,none⟩
theorem jlb:TyOk Tryz.prog 2 ty2:=⟨Tryz.underlying2,TyOk.of_info (by kernel_rfl),fun h=>(by cases h),fun τ h=>(by cases h)⟩
def ty3:Ty:=⟨.int .i64,1,8,(.int .i64 0),false,none⟩
theorem xlb:TyOk Tryz.prog 3 ty3:=⟨Tryz.underlying3,TyOk.of_info (by kernel_rfl),fun h=>(by cases h),fun τ h=>(by cases h)⟩
def ty4:Ty:=⟨.bool,1,1,(.bool false),false,none⟩
theorem ylb:TyOk Tryz.prog 4 ty4:=⟨Tryz.underlying4,TyOk.of_info (by kernel_rfl),fun h=>(by cases h),fun τ h=>(by cases h)⟩
def ty5:Ty:=⟨.int .u8,1,1,(.int .u8 0),false,none⟩
theorem zlb:TyOk Tryz.prog 5 ty5:=⟨Tryz.underlying5,TyOk.of_info (by kernel_rfl),fun h=>(by cases h),fun τ h=>(by cases h)⟩
def ty6:Ty:=⟨.int .u8,1,1,(.int .u8 0),false,none⟩
theorem Alb:TyOk Tryz.prog 6 ty6:=⟨Tryz.underlying6,TyOk.of_info (by kernel_rfl),fun h=>(by cases h),fun τ h=>(by cases h)⟩
def ty7:Ty:=⟨.struct #[⟨"x",2,0,false, "", "runtime",0⟩,⟨"y",3,1,false, "", "runtime",8⟩,⟨"signed",4,2,false, "", "runtime",16⟩,⟨"code",6,3,false, "", "runtime",17⟩],4,24,(.agg #[(.int .i64 0),(.int .i64 0),(.bool false),(.int .u8 0)]),false,none⟩
theorem Blb:TyOk Tryz.prog 7 ty7:=⟨Tryz.underlying7,TyOk.of_info (by kernel_rfl),fun h=>(by cases h),fun τ h=>(by cases h)⟩
def ty8:Ty:=⟨.struct #[⟨"x",2,0,false, "", "runtime",0⟩,⟨"y",3,1,false, "", "runtime",8⟩,⟨"signed",4,2,false, "", "runtime",16⟩,⟨"code",6,3,false, "", "runtime",17⟩],4,24,(.agg #[(.int .i64 0),(.int .i64 0),(.bool false),(.int .u8 0)]),false,none⟩
theorem Clb:TyOk Tryz.prog 8 ty8:=⟨Tryz.underlying8,TyOk.of_info (by kernel_rfl),fun h=>(by cases h),fun τ h=>(by cases h)⟩
def ty9:Ty:=⟨.string,1,16,(.string ⟨#[]⟩),false,some .str⟩
theorem Dlb:TyOk Tryz.prog 9 ty9:=⟨Tryz.underlying9,TyOk.of_info (by kernel_rfl),fun h=>(by cases h),fun τ h=>(by cases h;exact ⟨by kernel_rfl,string_law Tryz.underlying9,Thb Tryz.underlying9⟩)⟩
def Hmb:Ty:=⟨.string,1,16,(.string ⟨#[]⟩),false,none⟩
theorem xib:TyOk Tryz.prog 10 Hmb:=⟨Tryz.underlying10,TyOk.of_info (by kernel_rfl),fun h=>(by cases h),fun τ h=>(by cases h)⟩
def Imb:Ty:=⟨.string,1,16,(.string ⟨#[]⟩),false,none⟩
theorem yib:TyOk Tryz.prog 11 Imb:=⟨Tryz.underlying11,TyOk.of_info (by kernel_rfl),fun h=>(by cases h),fun τ h=>(by cases h)⟩
def Jmb:Ty:=⟨.int .u64,1,8,(.int .u64 0),false,none⟩
theorem zib:TyOk Tryz.prog 12 Jmb:=⟨Tryz.underlying12,TyOk.of_info (by kernel_rfl),fun h=>(by cases h),fun τ h=>(by cases h)⟩
def Kmb:Ty:=⟨.struct #[⟨"msg",9,0,false, "", "runtime",0⟩,⟨"addr",12,1,false, "", "runtime",16⟩],2,24,(.agg #[(.string ⟨#[]⟩),(.int .u64 0)]),false,none⟩
theorem Aib:TyOk Tryz.prog 13 Kmb:=⟨Tryz.underlying13,TyOk.of_info (by kernel_rfl),fun h=>(by cases h),fun τ h=>(by cases h)⟩
def Lmb:Ty:=⟨.struct #[⟨"msg",9,0,false, "", "runtime",0⟩,⟨"addr",12,1,false, "", "runtime",16⟩],2,24,(.agg #[(.string ⟨#[]⟩),(.int .u64 0)]),false,none⟩
theorem Bib:TyOk Tryz.prog 14 Lmb:=⟨Tryz.underlying14,TyOk.of_info (by kernel_rfl),fun h=>(by cases h),fun τ h=>(by cases h)⟩
def Mmb:Ty:=⟨.pointer 304,1,8,(.pointer none),false,none⟩
theorem Cib:TyOk Tryz.prog 15 Mmb:=⟨Tryz.underlying15,TyOk.of_info (by kernel_rfl),fun h=>(by cases h),fun τ h=>(by cases h)⟩
def Nmb:Ty:=⟨.pointer 307,1,8,(.pointer none),false,none⟩
theorem Dib:TyOk Tryz.prog 16 Nmb:=⟨Tryz.underlying16,TyOk.of_info (by kernel_rfl),fun h=>(by cases h),fun τ h=>(by cases h)⟩
def Omb:Ty:=⟨.pointer 315,1,8,(.pointer none),false,none⟩
theorem Eib:TyOk Tryz.prog 17 Omb:=⟨Tryz.underlying17,TyOk.of_info (by kernel_rfl),fun h=>(by cases h),fun τ h=>(by cases h)⟩
def Pmb:Ty:=⟨.struct #[⟨"typ",17,0,false, "", "internal/runtime/maps",0⟩],1,8,(.agg #[(.pointer none)]),false,none⟩
theorem Fib:TyOk Tryz.prog 18 Pmb:=⟨Tryz.underlying18,TyOk.of_info (by kernel_rfl),fun h=>(by cases h),fun τ h=>(by cases h)⟩
def Qmb:Ty:=⟨.struct #[⟨"typ",17,0,false, "", "internal/runtime/maps",0⟩],1,8,(.agg #[(.pointer none)]),false,none⟩
theorem Gib:TyOk Tryz.prog 19 Qmb:=⟨Tryz.underlying19,TyOk.of_info (by kernel_rfl),fun h=>(by cases h),fun τ h=>(by cases h)⟩
def Rmb:Ty:=⟨.interface #[],1,16,.nilIface,false,none⟩
theorem Hib:TyOk Tryz.prog 20 Rmb:=⟨Tryz.underlying20,TyOk.of_info (by kernel_rfl),fun h=>(by cases h),fun τ h=>(by cases h)⟩
def Smb:Ty:=⟨.int .i32,1,4,(.int .i32 0),false,none⟩
theorem Iib:TyOk Tryz.prog 21 Smb:=⟨Tryz.underlying21,TyOk.of_info (by kernel_rfl),fun h=>(by cases h),fun τ h=>(by cases h)⟩
def Tmb:Ty:=⟨.slice 59,1,24,(.slice none 0 0),false,none⟩
theorem Jib:TyOk Tryz.prog 22 Tmb:=⟨Tryz.underlying22,TyOk.of_info (by kernel_rfl),fun h=>(by cases h),fun τ h=>(by cases h)⟩
def Umb:Ty:=⟨.struct #[⟨"Next",3,0,false, "", "",0⟩,⟨"Mails",22,1,false, "", "",8⟩],2,32,(.agg #[(.int .i64 0),(.slice none 0 0)]),false,none⟩
theorem Kib:TyOk Tryz.prog 23 Umb:=⟨Tryz.underlying23,TyOk.of_info (by kernel_rfl),fun h=>(by cases h),fun τ h=>(by cases h)⟩
def Vmb:Ty:=⟨.struct #[⟨"Next",3,0,false, "", "",0⟩,⟨"Mails",22,1,false, "", "",8⟩],2,32,(.agg #[(.int .i64 0),(.slice none 0 0)]),false,none⟩
theorem Mib:TyOk Tryz.prog 24 Vmb:=⟨Tryz.underlying24,TyOk.of_info (by kernel_rfl),fun h=>(by cases h),fun τ h=>(by cases h)⟩
def Wmb:Ty:=⟨.slice 89,1,24,(.slice none 0 0),false,none⟩
theorem Nib:TyOk Tryz.prog 25 Wmb:=⟨Tryz.underlying25,TyOk.of_info (by kernel_rfl),fun h=>(by cases h),fun τ h=>(by cases h)⟩
def Xmb:Ty:=⟨.slice 3,1,24,(.slice none 0 0),false,none⟩
theorem Oib:TyOk Tryz.prog 26 Xmb:=⟨Tryz.underlying26,TyOk.of_info (by kernel_rfl),fun h=>(by cases h),fun τ h=>(by cases h)⟩
def Ymb:Ty:=⟨.float .f64,1,8,(.float .f64 0),false,none⟩
theorem Pib:TyOk Tryz.prog 27 Ymb:=⟨Tryz.underlying27,TyOk.of_info (by kernel_rfl),fun h=>(by cases h),fun τ h=>(by cases h)⟩
def Zmb:Ty:=⟨.struct #[⟨"Tenants",25,0,false, "", "",0⟩,⟨"Host",9,1,false, "", "",24⟩,⟨"Grey",3,2,false, "", "",40⟩,⟨"Expire",3,3,false, "", "",48⟩,⟨"Backoff",26,4,false, "", "",56⟩,⟨"Fails",3,5,false, "", "",80⟩,⟨"Pause",3,6,false, "", "",88⟩,⟨"Floor",27,7,false, "", "",96⟩],8,104,(.agg #[(.slice none 0 0),(.string ⟨#[]⟩),(.int .i64 0),(.int .i64 0),(.slice none 0 0),(.int .i64 0),(.int .i64 0),(.float .f64 0)]),false,none⟩
theorem Qib:TyOk Tryz.prog 28 Zmb:=⟨Tryz.underlying28,TyOk.of_info (by kernel_rfl),fun h=>(by cases h),fun τ h=>(by cases h)⟩
def anb:Ty:=⟨.struct #[⟨"Tenants",25,0,false, "", "",0⟩,⟨"Host",9,1,false, "", "",24⟩,⟨"Grey",3,2,false, "", "",40⟩,⟨"Expire",3,3,false, "", "",48⟩,⟨"Backoff",26,4,false, "", "",56⟩,⟨"Fails",3,5,false, "", "",80⟩,⟨"Pause",3,6,false, "", "",88⟩,⟨"Floor",27,7,false, "", "",96⟩],8,104,(.agg #[(.slice none 0 0),(.string ⟨#[]⟩),(.int .i64 0),(.int .i64 0),(.slice none 0 0),(.int .i64 0),(.int .i64 0),(.float .f64 0)]),false,none⟩
theorem Rib:TyOk Tryz.prog 29 anb:=⟨Tryz.underlying29,TyOk.of_info (by kernel_rfl),fun h=>(by cases h),fun τ h=>(by cases h)⟩
def bnb:Ty:=⟨.slice 70,1,24,(.slice none 0 0),false,none⟩
theorem Sib:TyOk Tryz.prog 30 bnb:=⟨Tryz.underlying30,TyOk.of_info (by kernel_rfl),fun h=>(by cases h),fun τ h=>(by cases h)⟩
def cnb:Ty:=⟨.slice 9,1,24,(.slice none 0 0),false,none⟩
theorem Tib:TyOk Tryz.prog 31 cnb:=⟨Tryz.underlying31,TyOk.of_info (by kernel_rfl),fun h=>(by cases h),fun τ h=>(by cases h)⟩
def dnb:Ty:=⟨.struct #[⟨"Mail",3,0,false, "", "",0⟩,⟨"Tenant",3,1,false, "", "",8⟩,⟨"Domain",9,2,false, "", "",16⟩,⟨"Rcpts",26,3,false, "", "",32⟩],4,56,(.agg #[(.int .i64 0),(.int .i64 0),(.string ⟨#[]⟩),(.slice none 0 0)]),false,none⟩
theorem Uib:TyOk Tryz.prog 32 dnb:=⟨Tryz.underlying32,TyOk.of_info (by kernel_rfl),fun h=>(by cases h),fun τ h=>(by cases h)⟩
def enb:Ty:=⟨.struct #[⟨"Mail",3,0,false, "", "",0⟩,⟨"Tenant",3,1,false, "", "",8⟩,⟨"Domain",9,2,false, "", "",16⟩,⟨"Rcpts",26,3,false, "", "",32⟩],4,56,(.agg #[(.int .i64 0),(.int .i64 0),(.string ⟨#[]⟩),(.slice none 0 0)]),false,none⟩
theorem Vib:TyOk Tryz.prog 33 enb:=⟨Tryz.underlying33,TyOk.of_info (by kernel_rfl),fun h=>(by cases h),fun τ h=>(by cases h)⟩
def fnb:Ty:=⟨.struct #[⟨"S",24,0,false, "", "",0⟩,⟨"C",29,2,false, "", "",32⟩,⟨"Hosts",30,10,false, "", "",136⟩,⟨"Busy",31,11,false, "", "",160⟩,⟨"Now",3,12,false, "", "",184⟩,⟨"J",33,13,false, "", "",192⟩,⟨"Codes",26,17,false, "", "",248⟩,⟨"Which",3,18,false, "", "",272⟩],19,280,(.agg #[(.int .i64 0),(.slice none 0 0),(.slice none 0 0),(.string ⟨#[]⟩),(.int .i64 0),(.int .i64 0),(.slice none 0 0),(.int .i64 0),(.int .i64 0),(.float .f64 0),(.slice none 0 0),(.slice none 0 0),(.int .i64 0),(.int .i64 0),(.int .i64 0),(.string ⟨#[]⟩),(.slice none 0 0),(.slice none 0 0),(.int .i64 0)]),false,none⟩
theorem Wib:TyOk Tryz.prog 34 fnb:=⟨Tryz.underlying34,TyOk.of_info (by kernel_rfl),fun h=>(by cases h),fun τ h=>(by cases h)⟩
def gnb:Ty:=⟨.struct #[⟨"S",24,0,false, "", "",0⟩,⟨"C",29,2,false, "", "",32⟩,⟨"Hosts",30,10,false, "", "",136⟩,⟨"Busy",31,11,false, "", "",160⟩,⟨"Now",3,12,false, "", "",184⟩,⟨"J",33,13,false, "", "",192⟩,⟨"Codes",26,17,false, "", "",248⟩,⟨"Which",3,18,false, "", "",272⟩],19,280,(.agg #[(.int .i64 0),(.slice none 0 0),(.slice none 0 0),(.string ⟨#[]⟩),(.int .i64 0),(.int .i64 0),(.slice none 0 0),(.int .i64 0),(.int .i64 0),(.float .f64 0),(.slice none 0 0),(.slice none 0 0),(.int .i64 0),(.int .i64 0),(.int .i64 0),(.string ⟨#[]⟩),(.slice none 0 0),(.slice none 0 0),(.int .i64 0)]),false,none⟩
theorem Xib:TyOk Tryz.prog 35 gnb:=⟨Tryz.underlying35,TyOk.of_info (by kernel_rfl),fun h=>(by cases h),fun τ h=>(by cases h)⟩
def inb:Ty:=⟨.slice 33,1,24,(.slice none 0 0),false,none⟩
theorem Yib:TyOk Tryz.prog 38 inb:=⟨Tryz.underlying38,TyOk.of_info (by kernel_rfl),fun h=>(by cases h),fun τ h=>(by cases h)⟩
def jnb:Ty:=⟨.int .i64,1,8,(.int .i64 0),false,none⟩
theorem Zib:TyOk Tryz.prog 39 jnb:=⟨Tryz.underlying39,TyOk.of_info (by kernel_rfl),fun h=>(by cases h),fun τ h=>(by cases h)⟩
def knb:Ty:=⟨.struct #[⟨"Local",9,0,false, "", "",0⟩,⟨"Domain",9,1,false, "", "",16⟩],2,32,(.agg #[(.string ⟨#[]⟩),(.string ⟨#[]⟩)]),false,none⟩
theorem ajb:TyOk Tryz.prog 55 knb:=⟨Tryz.underlying55,TyOk.of_info (by kernel_rfl),fun h=>(by cases h),fun τ h=>(by cases h)⟩
def lnb:Ty:=⟨.struct #[⟨"Local",9,0,false, "", "",0⟩,⟨"Domain",9,1,false, "", "",16⟩],2,32,(.agg #[(.string ⟨#[]⟩),(.string ⟨#[]⟩)]),true,some (.pair .str (.pair .str .unit))⟩
theorem bjb:TyOk Tryz.prog 56 lnb:=⟨Tryz.underlying56,TyOk.of_info (by kernel_rfl),fun _=>⟨by kernel_rfl,by kernel_rfl,by kernel_rfl⟩,fun τ h=>(by cases h;exact ⟨by kernel_rfl,deep_law_laid kmb (m:=2) (by omega) (of_decide_eq_true (by kernel_rfl)) (by kernel_rfl) (by kernel_rfl),yeb Tryz.underlying56 (by kernel_rfl) Tryz.underlying9 Tryz.underlying9⟩)⟩
def mnb:Ty:=⟨.slice 62,1,24,(.slice none 0 0),false,none⟩
theorem cjb:TyOk Tryz.prog 57 mnb:=⟨Tryz.underlying57,TyOk.of_info (by kernel_rfl),fun h=>(by cases h),fun τ h=>(by cases h)⟩
def nnb:Ty:=⟨.struct #[⟨"ID",3,0,false, "", "",0⟩,⟨"Tenant",3,1,false, "", "",8⟩,⟨"Null",4,2,false, "", "",16⟩,⟨"From",56,3,false, "", "",24⟩,⟨"Rcpts",57,5,false, "", "",56⟩,⟨"Body",9,6,false, "", "",80⟩,⟨"Born",3,7,false, "", "",96⟩,⟨"Held",4,8,false, "", "",104⟩,⟨"Told",4,9,false, "", "",105⟩],10,112,(.agg #[(.int .i64 0),(.int .i64 0),(.bool false),(.string ⟨#[]⟩),(.string ⟨#[]⟩),(.slice none 0 0),(.string ⟨#[]⟩),(.int .i64 0),(.bool false),(.bool false)]),false,none⟩
theorem djb:TyOk Tryz.prog 58 nnb:=⟨Tryz.underlying58,TyOk.of_info (by kernel_rfl),fun h=>(by cases h),fun τ h=>(by cases h)⟩
def onb:Ty:=⟨.struct #[⟨"ID",3,0,false, "", "",0⟩,⟨"Tenant",3,1,false, "", "",8⟩,⟨"Null",4,2,false, "", "",16⟩,⟨"From",56,3,false, "", "",24⟩,⟨"Rcpts",57,5,false, "", "",56⟩,⟨"Body",9,6,false, "", "",80⟩,⟨"Born",3,7,false, "", "",96⟩,⟨"Held",4,8,false, "", "",104⟩,⟨"Told",4,9,false, "", "",105⟩],10,112,(.agg #[(.int .i64 0),(.int .i64 0),(.bool false),(.string ⟨#[]⟩),(.string ⟨#[]⟩),(.slice none 0 0),(.string ⟨#[]⟩),(.int .i64 0),(.bool false),(.bool false)]),false,none⟩
theorem Ldb:TyOk Tryz.prog 59 onb:=⟨Tryz.underlying59,TyOk.of_info (by kernel_rfl),fun h=>(by cases h),fun τ h=>(by cases h)⟩
def pnb:Ty:=⟨.struct #[⟨"Box",56,0,false, "", "",0⟩,⟨"Status",3,2,false, "", "",32⟩,⟨"Attempts",3,3,false, "", "",40⟩,⟨"Next",3,4,false, "", "",48⟩,⟨"Code",3,5,false, "", "",56⟩],6,64,(.agg #[(.string ⟨#[]⟩),(.string ⟨#[]⟩),(.int .i64 0),(.int .i64 0),(.int .i64 0),(.int .i64 0)]),false,none⟩
theorem ejb:TyOk Tryz.prog 61 pnb:=⟨Tryz.underlying61,TyOk.of_info (by kernel_rfl),fun h=>(by cases h),fun τ h=>(by cases h)⟩
def qnb:Ty:=⟨.struct #[⟨"Box",56,0,false, "", "",0⟩,⟨"Status",3,2,false, "", "",32⟩,⟨"Attempts",3,3,false, "", "",40⟩,⟨"Next",3,4,false, "", "",48⟩,⟨"Code",3,5,false, "", "",56⟩],6,64,(.agg #[(.string ⟨#[]⟩),(.string ⟨#[]⟩),(.int .i64 0),(.int .i64 0),(.int .i64 0),(.int .i64 0)]),true,none⟩
theorem Mdb:TyOk Tryz.prog 62 qnb:=⟨Tryz.underlying62,TyOk.of_info (by kernel_rfl),fun _=>⟨by kernel_rfl,by kernel_rfl,by kernel_rfl⟩,fun τ h=>(by cases h)⟩
def rnb:Ty:=⟨.struct #[⟨"Score",27,0,false, "", "",0⟩,⟨"Count",3,1,false, "", "",8⟩],2,16,(.agg #[(.float .f64 0),(.int .i64 0)]),false,none⟩
theorem fjb:TyOk Tryz.prog 64 rnb:=⟨Tryz.underlying64,TyOk.of_info (by kernel_rfl),fun h=>(by cases h),fun τ h=>(by cases h)⟩
def snb:Ty:=⟨.struct #[⟨"Score",27,0,false, "", "",0⟩,⟨"Count",3,1,false, "", "",8⟩],2,16,(.agg #[(.float .f64 0),(.int .i64 0)]),true,none⟩
theorem gjb:TyOk Tryz.prog 65 snb:=⟨Tryz.underlying65,TyOk.of_info (by kernel_rfl),fun _=>⟨by kernel_rfl,by kernel_rfl,by kernel_rfl⟩,fun τ h=>(by cases h)⟩
def tnb:Ty:=⟨.struct #[⟨"State",3,0,false, "", "",0⟩,⟨"Fails",3,1,false, "", "",8⟩,⟨"Until",3,2,false, "", "",16⟩,⟨"Health",65,3,false, "", "",24⟩],5,40,(.agg #[(.int .i64 0),(.int .i64 0),(.int .i64 0),(.float .f64 0),(.int .i64 0)]),false,none⟩
theorem hjb:TyOk Tryz.prog 67 tnb:=⟨Tryz.underlying67,TyOk.of_info (by kernel_rfl),fun h=>(by cases h),fun τ h=>(by cases h)⟩
def unb:Ty:=⟨.struct #[⟨"State",3,0,false, "", "",0⟩,⟨"Fails",3,1,false, "", "",8⟩,⟨"Until",3,2,false, "", "",16⟩,⟨"Health",65,3,false, "", "",24⟩],5,40,(.agg #[(.int .i64 0),(.int .i64 0),(.int .i64 0),(.float .f64 0),(.int .i64 0)]),true,none⟩
theorem ijb:TyOk Tryz.prog 68 unb:=⟨Tryz.underlying68,TyOk.of_info (by kernel_rfl),fun _=>⟨by kernel_rfl,by kernel_rfl,by kernel_rfl⟩,fun τ h=>(by cases h)⟩
def vnb:Ty:=⟨.struct #[⟨"Domain",9,0,false, "", "",0⟩,⟨"Breaker",68,1,false, "", "",16⟩],6,56,(.agg #[(.string ⟨#[]⟩),(.int .i64 0),(.int .i64 0),(.int .i64 0),(.float .f64 0),(.int .i64 0)]),false,none⟩
theorem jjb:TyOk Tryz.prog 69 vnb:=⟨Tryz.underlying69,TyOk.of_info (by kernel_rfl),fun h=>(by cases h),fun τ h=>(by cases h)⟩
def wnb:Ty:=⟨.struct #[⟨"Domain",9,0,false, "", "",0⟩,⟨"Breaker",68,1,false, "", "",16⟩],6,56,(.agg #[(.string ⟨#[]⟩),(.int .i64 0),(.int .i64 0),(.int .i64 0),(.float .f64 0),(.int .i64 0)]),true,none⟩
theorem kjb:TyOk Tryz.prog 70 wnb:=⟨Tryz.underlying70,TyOk.of_info (by kernel_rfl),fun _=>⟨by kernel_rfl,by kernel_rfl,by kernel_rfl⟩,fun τ h=>(by cases h)⟩
def xnb:Ty:=⟨.slice 5,1,24,(.slice none 0 0),false,none⟩
theorem ljb:TyOk Tryz.prog 71 xnb:=⟨Tryz.underlying71,TyOk.of_info (by kernel_rfl),fun h=>(by cases h),fun τ h=>(by cases h)⟩
def ynb:Ty:=⟨.slice 26,1,24,(.slice none 0 0),false,none⟩
theorem mjb:TyOk Tryz.prog 73 ynb:=⟨Tryz.underlying73,TyOk.of_info (by kernel_rfl),fun h=>(by cases h),fun τ h=>(by cases h)⟩
def znb:Ty:=⟨.slice 82,1,24,(.slice none 0 0),false,none⟩
theorem njb:TyOk Tryz.prog 75 znb:=⟨Tryz.underlying75,TyOk.of_info (by kernel_rfl),fun h=>(by cases h),fun τ h=>(by cases h)⟩
def Anb:Ty:=⟨.struct #[⟨"S",24,0,false, "", "",0⟩,⟨"C",29,2,false, "", "",32⟩,⟨"L",75,10,false, "", "",136⟩],11,160,(.agg #[(.int .i64 0),(.slice none 0 0),(.slice none 0 0),(.string ⟨#[]⟩),(.int .i64 0),(.int .i64 0),(.slice none 0 0),(.int .i64 0),(.int .i64 0),(.float .f64 0),(.slice none 0 0)]),false,none⟩
theorem ojb:TyOk Tryz.prog 76 Anb:=⟨Tryz.underlying76,TyOk.of_info (by kernel_rfl),fun h=>(by cases h),fun τ h=>(by cases h)⟩
def Bnb:Ty:=⟨.struct #[⟨"S",24,0,false, "", "",0⟩,⟨"C",29,2,false, "", "",32⟩,⟨"L",75,10,false, "", "",136⟩],11,160,(.agg #[(.int .i64 0),(.slice none 0 0),(.slice none 0 0),(.string ⟨#[]⟩),(.int .i64 0),(.int .i64 0),(.slice none 0 0),(.int .i64 0),(.int .i64 0),(.float .f64 0),(.slice none 0 0)]),false,none⟩
theorem pjb:TyOk Tryz.prog 77 Bnb:=⟨Tryz.underlying77,TyOk.of_info (by kernel_rfl),fun h=>(by cases h),fun τ h=>(by cases h)⟩
def Cnb:Ty:=⟨.struct #[⟨"Do",3,0,false, "", "",0⟩,⟨"N",3,1,false, "", "",8⟩,⟨"ID",3,2,false, "", "",16⟩,⟨"M",59,3,false, "", "",24⟩,⟨"Fit",4,13,false, "", "",136⟩],14,144,(.agg #[(.int .i64 0),(.int .i64 0),(.int .i64 0),(.int .i64 0),(.int .i64 0),(.bool false),(.string ⟨#[]⟩),(.string ⟨#[]⟩),(.slice none 0 0),(.string ⟨#[]⟩),(.int .i64 0),(.bool false),(.bool false),(.bool false)]),false,none⟩
theorem qjb:TyOk Tryz.prog 81 Cnb:=⟨Tryz.underlying81,TyOk.of_info (by kernel_rfl),fun h=>(by cases h),fun τ h=>(by cases h)⟩
def Dnb:Ty:=⟨.struct #[⟨"Do",3,0,false, "", "",0⟩,⟨"N",3,1,false, "", "",8⟩,⟨"ID",3,2,false, "", "",16⟩,⟨"M",59,3,false, "", "",24⟩,⟨"Fit",4,13,false, "", "",136⟩],14,144,(.agg #[(.int .i64 0),(.int .i64 0),(.int .i64 0),(.int .i64 0),(.int .i64 0),(.bool false),(.string ⟨#[]⟩),(.string ⟨#[]⟩),(.slice none 0 0),(.string ⟨#[]⟩),(.int .i64 0),(.bool false),(.bool false),(.bool false)]),false,none⟩
theorem rjb:TyOk Tryz.prog 82 Dnb:=⟨Tryz.underlying82,TyOk.of_info (by kernel_rfl),fun h=>(by cases h),fun τ h=>(by cases h)⟩
def Enb:Ty:=⟨.struct #[⟨"Level",3,0,false, "", "",0⟩,⟨"Cap",3,1,false, "", "",8⟩,⟨"Fill",3,2,false, "", "",16⟩,⟨"Every",3,3,false, "", "",24⟩,⟨"Due",3,4,false, "", "",32⟩],5,40,(.agg #[(.int .i64 0),(.int .i64 0),(.int .i64 0),(.int .i64 0),(.int .i64 0)]),false,none⟩
theorem sjb:TyOk Tryz.prog 86 Enb:=⟨Tryz.underlying86,TyOk.of_info (by kernel_rfl),fun h=>(by cases h),fun τ h=>(by cases h)⟩
def Fnb:Ty:=⟨.struct #[⟨"Level",3,0,false, "", "",0⟩,⟨"Cap",3,1,false, "", "",8⟩,⟨"Fill",3,2,false, "", "",16⟩,⟨"Every",3,3,false, "", "",24⟩,⟨"Due",3,4,false, "", "",32⟩],5,40,(.agg #[(.int .i64 0),(.int .i64 0),(.int .i64 0),(.int .i64 0),(.int .i64 0)]),true,none⟩
theorem tjb:TyOk Tryz.prog 87 Fnb:=⟨Tryz.underlying87,TyOk.of_info (by kernel_rfl),fun _=>⟨by kernel_rfl,by kernel_rfl,by kernel_rfl⟩,fun τ h=>(by cases h)⟩
def Gnb:Ty:=⟨.struct #[⟨"Name",9,0,false, "", "",0⟩,⟨"Bytes",3,1,false, "", "",16⟩,⟨"Count",3,2,false, "", "",24⟩,⟨"Quantum",3,3,false, "", "",32⟩,⟨"Rate",87,4,false, "", "",40⟩,⟨"Lmtp",4,9,false, "", "",80⟩],10,88,(.agg #[(.string ⟨#[]⟩),(.int .i64 0),(.int .i64 0),(.int .i64 0),(.int .i64 0),(.int .i64 0),(.int .i64 0),(.int .i64 0),(.int .i64 0),(.bool false)]),false,none⟩
theorem ujb:TyOk Tryz.prog 88 Gnb:=⟨Tryz.underlying88,TyOk.of_info (by kernel_rfl),fun h=>(by cases h),fun τ h=>(by cases h)⟩
def Hnb:Ty:=⟨.struct #[⟨"Name",9,0,false, "", "",0⟩,⟨"Bytes",3,1,false, "", "",16⟩,⟨"Count",3,2,false, "", "",24⟩,⟨"Quantum",3,3,false, "", "",32⟩,⟨"Rate",87,4,false, "", "",40⟩,⟨"Lmtp",4,9,false, "", "",80⟩],10,88,(.agg #[(.string ⟨#[]⟩),(.int .i64 0),(.int .i64 0),(.int .i64 0),(.int .i64 0),(.int .i64 0),(.int .i64 0),(.int .i64 0),(.int .i64 0),(.bool false)]),true,none⟩
theorem vjb:TyOk Tryz.prog 89 Hnb:=⟨Tryz.underlying89,TyOk.of_info (by kernel_rfl),fun _=>⟨by kernel_rfl,by kernel_rfl,by kernel_rfl⟩,fun τ h=>(by cases h)⟩
def qkb:Ty:=⟨.struct #[⟨"S",24,0,false, "", "",0⟩,⟨"C",29,2,false, "", "",32⟩,⟨"L",31,10,false, "", "",136⟩],11,160,(.agg #[(.int .i64 0),(.slice none 0 0),(.slice none 0 0),(.string ⟨#[]⟩),(.int .i64 0),(.int .i64 0),(.slice none 0 0),(.int .i64 0),(.int .i64 0),(.float .f64 0),(.slice none 0 0)]),false,none⟩
theorem mfb:TyOk Tryz.prog 103 qkb:=⟨Tryz.underlying103,TyOk.of_info (by kernel_rfl),fun h=>(by cases h),fun τ h=>(by cases h)⟩
def rkb:Ty:=⟨.struct #[⟨"S",24,0,false, "", "",0⟩,⟨"C",29,2,false, "", "",32⟩,⟨"L",31,10,false, "", "",136⟩],11,160,(.agg #[(.int .i64 0),(.slice none 0 0),(.slice none 0 0),(.string ⟨#[]⟩),(.int .i64 0),(.int .i64 0),(.slice none 0 0),(.int .i64 0),(.int .i64 0),(.float .f64 0),(.slice none 0 0)]),false,none⟩
theorem nfb:TyOk Tryz.prog 104 rkb:=⟨Tryz.underlying104,TyOk.of_info (by kernel_rfl),fun h=>(by cases h),fun τ h=>(by cases h)⟩
def skb:Ty:=⟨.int .u64,1,8,(.int .u64 0),false,none⟩
theorem ofb:TyOk Tryz.prog 131 skb:=⟨Tryz.underlying131,TyOk.of_info (by kernel_rfl),fun h=>(by cases h),fun τ h=>(by cases h)⟩
def tkb:Ty:=⟨.pointer 59,1,8,(.pointer none),false,none⟩
theorem pfb:TyOk Tryz.prog 141 tkb:=⟨Tryz.underlying141,TyOk.of_info (by kernel_rfl),fun h=>(by cases h),fun τ h=>(by cases h)⟩
def ukb:Ty:=⟨.pointer 62,1,8,(.pointer none),false,none⟩
theorem qfb:TyOk Tryz.prog 144 ukb:=⟨Tryz.underlying144,TyOk.of_info (by kernel_rfl),fun h=>(by cases h),fun τ h=>(by cases h)⟩
def vkb:Ty:=⟨.map 9 4,1,8,(.map none),false,none⟩
theorem rfb:TyOk Tryz.prog 148 vkb:=⟨Tryz.underlying148,TyOk.of_info (by kernel_rfl),fun h=>(by cases h),fun τ h=>(by cases h)⟩
def wkb:Ty:=⟨.array 4 3,4,32,(.agg #[(.int .i64 0),(.int .i64 0),(.int .i64 0),(.int .i64 0)]),false,none⟩
theorem sfb:TyOk Tryz.prog 149 wkb:=⟨Tryz.underlying149,TyOk.of_info (by kernel_rfl),fun h=>(by cases h),fun τ h=>(by cases h)⟩
def xkb:Ty:=⟨.int .u64,1,8,(.int .u64 0),false,none⟩
theorem tfb:TyOk Tryz.prog 161 xkb:=⟨Tryz.underlying161,TyOk.of_info (by kernel_rfl),fun h=>(by cases h),fun τ h=>(by cases h)⟩
def ykb:Ty:=⟨.pointer 39,1,8,(.pointer none),false,none⟩
theorem ufb:TyOk Tryz.prog 180 ykb:=⟨Tryz.underlying180,TyOk.of_info (by kernel_rfl),fun h=>(by cases h),fun τ h=>(by cases h)⟩
def zkb:Ty:=⟨.pointer 183,1,8,(.pointer none),false,none⟩
theorem vfb:TyOk Tryz.prog 181 zkb:=⟨Tryz.underlying181,TyOk.of_info (by kernel_rfl),fun h=>(by cases h),fun τ h=>(by cases h)⟩
def Akb:Ty:=⟨.struct #[⟨"s",24,0,false, "", "pouch/admin",0⟩,⟨"c",29,2,false, "", "pouch/admin",32⟩,⟨"told",31,10,false, "", "pouch/admin",136⟩],11,160,(.agg #[(.int .i64 0),(.slice none 0 0),(.slice none 0 0),(.string ⟨#[]⟩),(.int .i64 0),(.int .i64 0),(.slice none 0 0),(.int .i64 0),(.int .i64 0),(.float .f64 0),(.slice none 0 0)]),false,none⟩
theorem wfb:TyOk Tryz.prog 182 Akb:=⟨Tryz.underlying182,TyOk.of_info (by kernel_rfl),fun h=>(by cases h),fun τ h=>(by cases h)⟩
def Bkb:Ty:=⟨.struct #[⟨"s",24,0,false, "", "pouch/admin",0⟩,⟨"c",29,2,false, "", "pouch/admin",32⟩,⟨"told",31,10,false, "", "pouch/admin",136⟩],11,160,(.agg #[(.int .i64 0),(.slice none 0 0),(.slice none 0 0),(.string ⟨#[]⟩),(.int .i64 0),(.int .i64 0),(.slice none 0 0),(.int .i64 0),(.int .i64 0),(.float .f64 0),(.slice none 0 0)]),false,none⟩
theorem xfb:TyOk Tryz.prog 183 Bkb:=⟨Tryz.underlying183,TyOk.of_info (by kernel_rfl),fun h=>(by cases h),fun τ h=>(by cases h)⟩
def Ckb:Ty:=⟨.map 56 4,1,8,(.map none),false,none⟩
theorem yfb:TyOk Tryz.prog 195 Ckb:=⟨Tryz.underlying195,TyOk.of_info (by kernel_rfl),fun h=>(by cases h),fun τ h=>(by cases h)⟩
def Dkb:Ty:=⟨.struct #[⟨"e",39,0,false, "", "pouch/admin",0⟩],1,8,(.agg #[(.int .i64 0)]),false,none⟩
theorem zfb:TyOk Tryz.prog 206 Dkb:=⟨Tryz.underlying206,TyOk.of_info (by kernel_rfl),fun h=>(by cases h),fun τ h=>(by cases h)⟩
def Ekb:Ty:=⟨.struct #[⟨"e",39,0,false, "", "pouch/admin",0⟩],1,8,(.agg #[(.int .i64 0)]),true,none⟩
theorem Afb:TyOk Tryz.prog 207 Ekb:=⟨Tryz.underlying207,TyOk.of_info (by kernel_rfl),fun _=>⟨by kernel_rfl,by kernel_rfl,by kernel_rfl⟩,fun τ h=>(by cases h)⟩
def Fkb:Ty:=⟨.interface #[("Error",254)],1,16,.nilIface,false,none⟩
theorem Bfb:TyOk Tryz.prog 216 Fkb:=⟨Tryz.underlying216,TyOk.of_info (by kernel_rfl),fun h=>(by cases h),fun τ h=>(by cases h)⟩
def Gkb:Ty:=⟨.interface #[("Error",254)],1,16,.nilIface,false,none⟩
theorem Cfb:TyOk Tryz.prog 217 Gkb:=⟨Tryz.underlying217,TyOk.of_info (by kernel_rfl),fun h=>(by cases h),fun τ h=>(by cases h)⟩
def Hkb:Ty:=⟨.array 5 9,5,80,(.agg #[(.string ⟨#[]⟩),(.string ⟨#[]⟩),(.string ⟨#[]⟩),(.string ⟨#[]⟩),(.string ⟨#[]⟩)]),false,none⟩
theorem Dfb:TyOk Tryz.prog 232 Hkb:=⟨Tryz.underlying232,TyOk.of_info (by kernel_rfl),fun h=>(by cases h),fun τ h=>(by cases h)⟩
def Ikb:Ty:=⟨.pointer 89,1,8,(.pointer none),false,none⟩
theorem Efb:TyOk Tryz.prog 235 Ikb:=⟨Tryz.underlying235,TyOk.of_info (by kernel_rfl),fun h=>(by cases h),fun τ h=>(by cases h)⟩
def Jkb:Ty:=⟨.struct #[⟨"e",39,0,false, "", "pouch/addr",0⟩],1,8,(.agg #[(.int .i64 0)]),false,none⟩
theorem Ffb:TyOk Tryz.prog 243 Jkb:=⟨Tryz.underlying243,TyOk.of_info (by kernel_rfl),fun h=>(by cases h),fun τ h=>(by cases h)⟩
def Kkb:Ty:=⟨.struct #[⟨"e",39,0,false, "", "pouch/addr",0⟩],1,8,(.agg #[(.int .i64 0)]),true,none⟩
theorem Gfb:TyOk Tryz.prog 244 Kkb:=⟨Tryz.underlying244,TyOk.of_info (by kernel_rfl),fun _=>⟨by kernel_rfl,by kernel_rfl,by kernel_rfl⟩,fun τ h=>(by cases h)⟩
def Lkb:Ty:=⟨.pointer 252,1,8,(.pointer none),false,none⟩
theorem Hfb:TyOk Tryz.prog 250 Lkb:=⟨Tryz.underlying250,TyOk.of_info (by kernel_rfl),fun h=>(by cases h),fun τ h=>(by cases h)⟩
def Mkb:Ty:=⟨.struct #[⟨"addr",250,0,false, "", "strings",0⟩,⟨"buf",71,1,false, "", "strings",8⟩],2,32,(.agg #[(.pointer none),(.slice none 0 0)]),false,none⟩
theorem Ifb:TyOk Tryz.prog 251 Mkb:=⟨Tryz.underlying251,TyOk.of_info (by kernel_rfl),fun h=>(by cases h),fun τ h=>(by cases h)⟩
def Nkb:Ty:=⟨.struct #[⟨"addr",250,0,false, "", "strings",0⟩,⟨"buf",71,1,false, "", "strings",8⟩],2,32,(.agg #[(.pointer none),(.slice none 0 0)]),false,none⟩
theorem Jfb:TyOk Tryz.prog 252 Nkb:=⟨Tryz.underlying252,TyOk.of_info (by kernel_rfl),fun h=>(by cases h),fun τ h=>(by cases h)⟩
def Okb:Ty:=⟨.int .i64,1,8,(.int .i64 0),false,none⟩
theorem Kfb:TyOk Tryz.prog 257 Okb:=⟨Tryz.underlying257,TyOk.of_info (by kernel_rfl),fun h=>(by cases h),fun τ h=>(by cases h)⟩
def Pkb:Ty:=⟨.pointer 277,1,8,(.pointer none),false,none⟩
theorem Lfb:TyOk Tryz.prog 260 Pkb:=⟨Tryz.underlying260,TyOk.of_info (by kernel_rfl),fun h=>(by cases h),fun τ h=>(by cases h)⟩
def Qkb:Ty:=⟨.array 24 5,24,24,(.agg #[(.int .u8 0),(.int .u8 0),(.int .u8 0),(.int .u8 0),(.int .u8 0),(.int .u8 0),(.int .u8 0),(.int .u8 0),(.int .u8 0),(.int .u8 0),(.int .u8 0),(.int .u8 0),(.int .u8 0),(.int .u8 0),(.int .u8 0),(.int .u8 0),(.int .u8 0),(.int .u8 0),(.int .u8 0),(.int .u8 0),(.int .u8 0),(.int .u8 0),(.int .u8 0),(.int .u8 0)]),false,none⟩
theorem Mfb:TyOk Tryz.prog 263 Qkb:=⟨Tryz.underlying263,TyOk.of_info (by kernel_rfl),fun h=>(by cases h),fun τ h=>(by cases h)⟩
def Rkb:Ty:=⟨.array 256 4,256,256,(.agg #[(.bool false),(.bool false),(.bool false),(.bool false),(.bool false),(.bool false),(.bool false),(.bool false),(.bool false),(.bool false),(.bool false),(.bool false),(.bool false),(.bool false),(.bool false),(.bool false),(.bool false),(.bool false),(.bool false),(.bool false),(.bool false),(.bool false),(.bool false),(.bool false),(.bool false),(.bool false),(.bool false),(.bool false),(.bool false),(.bool false),(.bool false),(.bool false),(.bool false),(.bool false),(.bool false),(.bool false),(.bool false),(.bool false),(.bool false),(.bool false),(.bool false),(.bool false),(.bool false),(.bool false),(.bool false),(.bool false),(.bool false),(.bool false),(.bool false),(.bool false),(.bool false),(.bool false),(.bool false),(.bool false),(.bool false),(.bool false),(.bool false),(.bool false),(.bool false),(.bool false),(.bool false),(.bool false),(.bool false),(.bool false),(.bool false),(.bool false),(.bool false),(.bool false),(.bool false),(.bool false),(.bool false),(.bool false),(.bool false),(.bool false),(.bool false),(.bool false),(.bool false),(.bool false),(.bool false),(.bool false),(.bool false),(.bool false),(.bool false),(.bool false),(.bool false),(.bool false),(.bool false),(.bool false),(.bool false),(.bool false),(.bool false),(.bool false),(.bool false),(.bool false),(.bool false),(.bool false),(.bool false),(.bool false),(.bool false),(.bool false),(.bool false),(.bool false),(.bool false),(.bool false),(.bool false),(.bool false),(.bool false),(.bool false),(.bool false),(.bool false),(.bool false),(.bool false),(.bool false),(.bool false),(.bool false),(.bool false),(.bool false),(.bool false),(.bool false),(.bool false),(.bool false),(.bool false),(.bool false),(.bool false),(.bool false),(.bool false),(.bool false),(.bool false),(.bool false),(.bool false),(.bool false),(.bool false),(.bool false),(.bool false),(.bool false),(.bool false),(.bool false),(.bool false),(.bool false),(.bool false),(.bool false),(.bool false),(.bool false),(.bool false),(.bool false),(.bool false),(.bool false),(.bool false),(.bool false),(.bool false),(.bool false),(.bool false),(.bool false),(.bool false),(.bool false),(.bool false),(.bool false),(.bool false),(.bool false),(.bool false),(.bool false),(.bool false),(.bool false),(.bool false),(.bool false),(.bool false),(.bool false),(.bool false),(.bool false),(.bool false),(.bool false),(.bool false),(.bool false),(.bool false),(.bool false),(.bool false),(.bool false),(.bool false),(.bool false),(.bool false),(.bool false),(.bool false),(.bool false),(.bool false),(.bool false),(.bool false),(.bool false),(.bool false),(.bool false),(.bool false),(.bool false),(.bool false),(.bool false),(.bool false),(.bool false),(.bool false),(.bool false),(.bool false),(.bool false),(.bool false),(.bool false),(.bool false),(.bool false),(.bool false),(.bool false),(.bool false),(.bool false),(.bool false),(.bool false),(.bool false),(.bool false),(.bool false),(.bool false),(.bool false),(.bool false),(.bool false),(.bool false),(.bool false),(.bool false),(.bool false),(.bool false),(.bool false),(.bool false),(.bool false),(.bool false),(.bool false),(.bool false),(.bool false),(.bool false),(.bool false),(.bool false),(.bool false),(.bool false),(.bool false),(.bool false),(.bool false),(.bool false),(.bool false),(.bool false),(.bool false),(.bool false),(.bool false),(.bool false),(.bool false),(.bool false),(.bool false),(.bool false),(.bool false),(.bool false),(.bool false),(.bool false),(.bool false),(.bool false),(.bool false),(.bool false),(.bool false)]),false,none⟩
theorem Nfb:TyOk Tryz.prog 269 Rkb:=⟨Tryz.underlying269,TyOk.of_info (by kernel_rfl),fun h=>(by cases h),fun τ h=>(by cases h)⟩
def Skb:Ty:=⟨.array 256 4,256,256,(.agg #[(.bool false),(.bool false),(.bool false),(.bool false),(.bool false),(.bool false),(.bool false),(.bool false),(.bool false),(.bool false),(.bool false),(.bool false),(.bool false),(.bool false),(.bool false),(.bool false),(.bool false),(.bool false),(.bool false),(.bool false),(.bool false),(.bool false),(.bool false),(.bool false),(.bool false),(.bool false),(.bool false),(.bool false),(.bool false),(.bool false),(.bool false),(.bool false),(.bool false),(.bool false),(.bool false),(.bool false),(.bool false),(.bool false),(.bool false),(.bool false),(.bool false),(.bool false),(.bool false),(.bool false),(.bool false),(.bool false),(.bool false),(.bool false),(.bool false),(.bool false),(.bool false),(.bool false),(.bool false),(.bool false),(.bool false),(.bool false),(.bool false),(.bool false),(.bool false),(.bool false),(.bool false),(.bool false),(.bool false),(.bool false),(.bool false),(.bool false),(.bool false),(.bool false),(.bool false),(.bool false),(.bool false),(.bool false),(.bool false),(.bool false),(.bool false),(.bool false),(.bool false),(.bool false),(.bool false),(.bool false),(.bool false),(.bool false),(.bool false),(.bool false),(.bool false),(.bool false),(.bool false),(.bool false),(.bool false),(.bool false),(.bool false),(.bool false),(.bool false),(.bool false),(.bool false),(.bool false),(.bool false),(.bool false),(.bool false),(.bool false),(.bool false),(.bool false),(.bool false),(.bool false),(.bool false),(.bool false),(.bool false),(.bool false),(.bool false),(.bool false),(.bool false),(.bool false),(.bool false),(.bool false),(.bool false),(.bool false),(.bool false),(.bool false),(.bool false),(.bool false),(.bool false),(.bool false),(.bool false),(.bool false),(.bool false),(.bool false),(.bool false),(.bool false),(.bool false),(.bool false),(.bool false),(.bool false),(.bool false),(.bool false),(.bool false),(.bool false),(.bool false),(.bool false),(.bool false),(.bool false),(.bool false),(.bool false),(.bool false),(.bool false),(.bool false),(.bool false),(.bool false),(.bool false),(.bool false),(.bool false),(.bool false),(.bool false),(.bool false),(.bool false),(.bool false),(.bool false),(.bool false),(.bool false),(.bool false),(.bool false),(.bool false),(.bool false),(.bool false),(.bool false),(.bool false),(.bool false),(.bool false),(.bool false),(.bool false),(.bool false),(.bool false),(.bool false),(.bool false),(.bool false),(.bool false),(.bool false),(.bool false),(.bool false),(.bool false),(.bool false),(.bool false),(.bool false),(.bool false),(.bool false),(.bool false),(.bool false),(.bool false),(.bool false),(.bool false),(.bool false),(.bool false),(.bool false),(.bool false),(.bool false),(.bool false),(.bool false),(.bool false),(.bool false),(.bool false),(.bool false),(.bool false),(.bool false),(.bool false),(.bool false),(.bool false),(.bool false),(.bool false),(.bool false),(.bool false),(.bool false),(.bool false),(.bool false),(.bool false),(.bool false),(.bool false),(.bool false),(.bool false),(.bool false),(.bool false),(.bool false),(.bool false),(.bool false),(.bool false),(.bool false),(.bool false),(.bool false),(.bool false),(.bool false),(.bool false),(.bool false),(.bool false),(.bool false),(.bool false),(.bool false),(.bool false),(.bool false),(.bool false),(.bool false),(.bool false),(.bool false),(.bool false),(.bool false),(.bool false),(.bool false),(.bool false),(.bool false),(.bool false),(.bool false),(.bool false),(.bool false),(.bool false),(.bool false),(.bool false),(.bool false),(.bool false),(.bool false)]),false,none⟩
theorem Ofb:TyOk Tryz.prog 270 Skb:=⟨Tryz.underlying270,TyOk.of_info (by kernel_rfl),fun h=>(by cases h),fun τ h=>(by cases h)⟩
def Tkb:Ty:=⟨.pointer 5,1,8,(.pointer none),false,none⟩
theorem Pfb:TyOk Tryz.prog 273 Tkb:=⟨Tryz.underlying273,TyOk.of_info (by kernel_rfl),fun h=>(by cases h),fun τ h=>(by cases h)⟩
def Ukb:Ty:=⟨.struct #[⟨"Func",9,0,false, "", "",0⟩,⟨"Num",9,1,false, "", "",16⟩,⟨"Err",217,2,false, "", "",32⟩],3,48,(.agg #[(.string ⟨#[]⟩),(.string ⟨#[]⟩),.nilIface]),false,none⟩
theorem Qfb:TyOk Tryz.prog 276 Ukb:=⟨Tryz.underlying276,TyOk.of_info (by kernel_rfl),fun h=>(by cases h),fun τ h=>(by cases h)⟩
def Vkb:Ty:=⟨.struct #[⟨"Func",9,0,false, "", "",0⟩,⟨"Num",9,1,false, "", "",16⟩,⟨"Err",217,2,false, "", "",32⟩],3,48,(.agg #[(.string ⟨#[]⟩),(.string ⟨#[]⟩),.nilIface]),false,none⟩
theorem Rfb:TyOk Tryz.prog 277 Vkb:=⟨Tryz.underlying277,TyOk.of_info (by kernel_rfl),fun h=>(by cases h),fun τ h=>(by cases h)⟩
def Wkb:Ty:=⟨.array 256 5,256,256,(.agg #[(.int .u8 0),(.int .u8 0),(.int .u8 0),(.int .u8 0),(.int .u8 0),(.int .u8 0),(.int .u8 0),(.int .u8 0),(.int .u8 0),(.int .u8 0),(.int .u8 0),(.int .u8 0),(.int .u8 0),(.int .u8 0),(.int .u8 0),(.int .u8 0),(.int .u8 0),(.int .u8 0),(.int .u8 0),(.int .u8 0),(.int .u8 0),(.int .u8 0),(.int .u8 0),(.int .u8 0),(.int .u8 0),(.int .u8 0),(.int .u8 0),(.int .u8 0),(.int .u8 0),(.int .u8 0),(.int .u8 0),(.int .u8 0),(.int .u8 0),(.int .u8 0),(.int .u8 0),(.int .u8 0),(.int .u8 0),(.int .u8 0),(.int .u8 0),(.int .u8 0),(.int .u8 0),(.int .u8 0),(.int .u8 0),(.int .u8 0),(.int .u8 0),(.int .u8 0),(.int .u8 0),(.int .u8 0),(.int .u8 0),(.int .u8 0),(.int .u8 0),(.int .u8 0),(.int .u8 0),(.int .u8 0),(.int .u8 0),(.int .u8 0),(.int .u8 0),(.int .u8 0),(.int .u8 0),(.int .u8 0),(.int .u8 0),(.int .u8 0),(.int .u8 0),(.int .u8 0),(.int .u8 0),(.int .u8 0),(.int .u8 0),(.int .u8 0),(.int .u8 0),(.int .u8 0),(.int .u8 0),(.int .u8 0),(.int .u8 0),(.int .u8 0),(.int .u8 0),(.int .u8 0),(.int .u8 0),(.int .u8 0),(.int .u8 0),(.int .u8 0),(.int .u8 0),(.int .u8 0),(.int .u8 0),(.int .u8 0),(.int .u8 0),(.int .u8 0),(.int .u8 0),(.int .u8 0),(.int .u8 0),(.int .u8 0),(.int .u8 0),(.int .u8 0),(.int .u8 0),(.int .u8 0),(.int .u8 0),(.int .u8 0),(.int .u8 0),(.int .u8 0),(.int .u8 0),(.int .u8 0),(.int .u8 0),(.int .u8 0),(.int .u8 0),(.int .u8 0),(.int .u8 0),(.int .u8 0),(.int .u8 0),(.int .u8 0),(.int .u8 0),(.int .u8 0),(.int .u8 0),(.int .u8 0),(.int .u8 0),(.int .u8 0),(.int .u8 0),(.int .u8 0),(.int .u8 0),(.int .u8 0),(.int .u8 0),(.int .u8 0),(.int .u8 0),(.int .u8 0),(.int .u8 0),(.int .u8 0),(.int .u8 0),(.int .u8 0),(.int .u8 0),(.int .u8 0),(.int .u8 0),(.int .u8 0),(.int .u8 0),(.int .u8 0),(.int .u8 0),(.int .u8 0),(.int .u8 0),(.int .u8 0),(.int .u8 0),(.int .u8 0),(.int .u8 0),(.int .u8 0),(.int .u8 0),(.int .u8 0),(.int .u8 0),(.int .u8 0),(.int .u8 0),(.int .u8 0),(.int .u8 0),(.int .u8 0),(.int .u8 0),(.int .u8 0),(.int .u8 0),(.int .u8 0),(.int .u8 0),(.int .u8 0),(.int .u8 0),(.int .u8 0),(.int .u8 0),(.int .u8 0),(.int .u8 0),(.int .u8 0),(.int .u8 0),(.int .u8 0),(.int .u8 0),(.int .u8 0),(.int .u8 0),(.int .u8 0),(.int .u8 0),(.int .u8 0),(.int .u8 0),(.int .u8 0),(.int .u8 0),(.int .u8 0),(.int .u8 0),(.int .u8 0),(.int .u8 0),(.int .u8 0),(.int .u8 0),(.int .u8 0),(.int .u8 0),(.int .u8 0),(.int .u8 0),(.int .u8 0),(.int .u8 0),(.int .u8 0),(.int .u8 0),(.int .u8 0),(.int .u8 0),(.int .u8 0),(.int .u8 0),(.int .u8 0),(.int .u8 0),(.int .u8 0),(.int .u8 0),(.int .u8 0),(.int .u8 0),(.int .u8 0),(.int .u8 0),(.int .u8 0),(.int .u8 0),(.int .u8 0),(.int .u8 0),(.int .u8 0),(.int .u8 0),(.int .u8 0),(.int .u8 0),(.int .u8 0),(.int .u8 0),(.int .u8 0),(.int .u8 0),(.int .u8 0),(.int .u8 0),(.int .u8 0),(.int .u8 0),(.int .u8 0),(.int .u8 0),(.int .u8 0),(.int .u8 0),(.int .u8 0),(.int .u8 0),(.int .u8 0),(.int .u8 0),(.int .u8 0),(.int .u8 0),(.int .u8 0),(.int .u8 0),(.int .u8 0),(.int .u8 0),(.int .u8 0),(.int .u8 0),(.int .u8 0),(.int .u8 0),(.int .u8 0),(.int .u8 0),(.int .u8 0),(.int .u8 0),(.int .u8 0),(.int .u8 0),(.int .u8 0),(.int .u8 0),(.int .u8 0),(.int .u8 0),(.int .u8 0),(.int .u8 0),(.int .u8 0),(.int .u8 0),(.int .u8 0),(.int .u8 0),(.int .u8 0),(.int .u8 0),(.int .u8 0),(.int .u8 0),(.int .u8 0),(.int .u8 0),(.int .u8 0),(.int .u8 0),(.int .u8 0)]),false,none⟩
theorem Sfb:TyOk Tryz.prog 279 Wkb:=⟨Tryz.underlying279,TyOk.of_info (by kernel_rfl),fun h=>(by cases h),fun τ h=>(by cases h)⟩
def Xkb:Ty:=⟨.struct #[⟨"lo",5,0,false, "", "unicode/utf8",0⟩,⟨"hi",5,1,false, "", "unicode/utf8",1⟩],2,2,(.agg #[(.int .u8 0),(.int .u8 0)]),false,none⟩
theorem Tfb:TyOk Tryz.prog 280 Xkb:=⟨Tryz.underlying280,TyOk.of_info (by kernel_rfl),fun h=>(by cases h),fun τ h=>(by cases h)⟩
def Ykb:Ty:=⟨.struct #[⟨"lo",5,0,false, "", "unicode/utf8",0⟩,⟨"hi",5,1,false, "", "unicode/utf8",1⟩],2,2,(.agg #[(.int .u8 0),(.int .u8 0)]),false,none⟩
theorem Ufb:TyOk Tryz.prog 281 Ykb:=⟨Tryz.underlying281,TyOk.of_info (by kernel_rfl),fun h=>(by cases h),fun τ h=>(by cases h)⟩
def Zkb:Ty:=⟨.array 16 281,32,32,(.agg #[(.int .u8 0),(.int .u8 0),(.int .u8 0),(.int .u8 0),(.int .u8 0),(.int .u8 0),(.int .u8 0),(.int .u8 0),(.int .u8 0),(.int .u8 0),(.int .u8 0),(.int .u8 0),(.int .u8 0),(.int .u8 0),(.int .u8 0),(.int .u8 0),(.int .u8 0),(.int .u8 0),(.int .u8 0),(.int .u8 0),(.int .u8 0),(.int .u8 0),(.int .u8 0),(.int .u8 0),(.int .u8 0),(.int .u8 0),(.int .u8 0),(.int .u8 0),(.int .u8 0),(.int .u8 0),(.int .u8 0),(.int .u8 0)]),false,none⟩
theorem Vfb:TyOk Tryz.prog 282 Zkb:=⟨Tryz.underlying282,TyOk.of_info (by kernel_rfl),fun h=>(by cases h),fun τ h=>(by cases h)⟩
def alb:Ty:=⟨.array 20 161,20,160,(.agg #[(.int .u64 0),(.int .u64 0),(.int .u64 0),(.int .u64 0),(.int .u64 0),(.int .u64 0),(.int .u64 0),(.int .u64 0),(.int .u64 0),(.int .u64 0),(.int .u64 0),(.int .u64 0),(.int .u64 0),(.int .u64 0),(.int .u64 0),(.int .u64 0),(.int .u64 0),(.int .u64 0),(.int .u64 0),(.int .u64 0)]),false,none⟩
theorem Wfb:TyOk Tryz.prog 284 alb:=⟨Tryz.underlying284,TyOk.of_info (by kernel_rfl),fun h=>(by cases h),fun τ h=>(by cases h)⟩
def blb:Ty:=⟨.int .u32,1,4,(.int .u32 0),false,none⟩
theorem Xfb:TyOk Tryz.prog 285 blb:=⟨Tryz.underlying285,TyOk.of_info (by kernel_rfl),fun h=>(by cases h),fun τ h=>(by cases h)⟩
def clb:Ty:=⟨.array 65 5,65,65,(.agg #[(.int .u8 0),(.int .u8 0),(.int .u8 0),(.int .u8 0),(.int .u8 0),(.int .u8 0),(.int .u8 0),(.int .u8 0),(.int .u8 0),(.int .u8 0),(.int .u8 0),(.int .u8 0),(.int .u8 0),(.int .u8 0),(.int .u8 0),(.int .u8 0),(.int .u8 0),(.int .u8 0),(.int .u8 0),(.int .u8 0),(.int .u8 0),(.int .u8 0),(.int .u8 0),(.int .u8 0),(.int .u8 0),(.int .u8 0),(.int .u8 0),(.int .u8 0),(.int .u8 0),(.int .u8 0),(.int .u8 0),(.int .u8 0),(.int .u8 0),(.int .u8 0),(.int .u8 0),(.int .u8 0),(.int .u8 0),(.int .u8 0),(.int .u8 0),(.int .u8 0),(.int .u8 0),(.int .u8 0),(.int .u8 0),(.int .u8 0),(.int .u8 0),(.int .u8 0),(.int .u8 0),(.int .u8 0),(.int .u8 0),(.int .u8 0),(.int .u8 0),(.int .u8 0),(.int .u8 0),(.int .u8 0),(.int .u8 0),(.int .u8 0),(.int .u8 0),(.int .u8 0),(.int .u8 0),(.int .u8 0),(.int .u8 0),(.int .u8 0),(.int .u8 0),(.int .u8 0),(.int .u8 0)]),false,none⟩
theorem Yfb:TyOk Tryz.prog 286 clb:=⟨Tryz.underlying286,TyOk.of_info (by kernel_rfl),fun h=>(by cases h),fun τ h=>(by cases h)⟩
def dlb:Ty:=⟨.pointer 270,1,8,(.pointer none),false,none⟩
theorem Zfb:TyOk Tryz.prog 291 dlb:=⟨Tryz.underlying291,TyOk.of_info (by kernel_rfl),fun h=>(by cases h),fun τ h=>(by cases h)⟩
def elb:Ty:=⟨.unsafePointer,1,8,(.pointer none),false,none⟩
theorem agb:TyOk Tryz.prog 293 elb:=⟨Tryz.underlying293,TyOk.of_info (by kernel_rfl),fun h=>(by cases h),fun τ h=>(by cases h)⟩
def flb:Ty:=⟨.pointer 299,1,8,(.pointer none),false,none⟩
theorem bgb:TyOk Tryz.prog 297 flb:=⟨Tryz.underlying297,TyOk.of_info (by kernel_rfl),fun h=>(by cases h),fun τ h=>(by cases h)⟩
def glb:Ty:=⟨.struct #[⟨"s",9,0,false, "", "errors",0⟩],1,16,(.agg #[(.string ⟨#[]⟩)]),false,none⟩
theorem cgb:TyOk Tryz.prog 298 glb:=⟨Tryz.underlying298,TyOk.of_info (by kernel_rfl),fun h=>(by cases h),fun τ h=>(by cases h)⟩
def ilb:Ty:=⟨.struct #[⟨"s",9,0,false, "", "errors",0⟩],1,16,(.agg #[(.string ⟨#[]⟩)]),false,none⟩
theorem dgb:TyOk Tryz.prog 299 ilb:=⟨Tryz.underlying299,TyOk.of_info (by kernel_rfl),fun h=>(by cases h),fun τ h=>(by cases h)⟩
def klb:Ty:=⟨.array 32 5,32,32,(.agg #[(.int .u8 0),(.int .u8 0),(.int .u8 0),(.int .u8 0),(.int .u8 0),(.int .u8 0),(.int .u8 0),(.int .u8 0),(.int .u8 0),(.int .u8 0),(.int .u8 0),(.int .u8 0),(.int .u8 0),(.int .u8 0),(.int .u8 0),(.int .u8 0),(.int .u8 0),(.int .u8 0),(.int .u8 0),(.int .u8 0),(.int .u8 0),(.int .u8 0),(.int .u8 0),(.int .u8 0),(.int .u8 0),(.int .u8 0),(.int .u8 0),(.int .u8 0),(.int .u8 0),(.int .u8 0),(.int .u8 0),(.int .u8 0)]),false,none⟩
theorem egb:TyOk Tryz.prog 301 klb:=⟨Tryz.underlying301,TyOk.of_info (by kernel_rfl),fun h=>(by cases h),fun τ h=>(by cases h)⟩
def llb:Ty:=⟨.array 64 5,64,64,(.agg #[(.int .u8 0),(.int .u8 0),(.int .u8 0),(.int .u8 0),(.int .u8 0),(.int .u8 0),(.int .u8 0),(.int .u8 0),(.int .u8 0),(.int .u8 0),(.int .u8 0),(.int .u8 0),(.int .u8 0),(.int .u8 0),(.int .u8 0),(.int .u8 0),(.int .u8 0),(.int .u8 0),(.int .u8 0),(.int .u8 0),(.int .u8 0),(.int .u8 0),(.int .u8 0),(.int .u8 0),(.int .u8 0),(.int .u8 0),(.int .u8 0),(.int .u8 0),(.int .u8 0),(.int .u8 0),(.int .u8 0),(.int .u8 0),(.int .u8 0),(.int .u8 0),(.int .u8 0),(.int .u8 0),(.int .u8 0),(.int .u8 0),(.int .u8 0),(.int .u8 0),(.int .u8 0),(.int .u8 0),(.int .u8 0),(.int .u8 0),(.int .u8 0),(.int .u8 0),(.int .u8 0),(.int .u8 0),(.int .u8 0),(.int .u8 0),(.int .u8 0),(.int .u8 0),(.int .u8 0),(.int .u8 0),(.int .u8 0),(.int .u8 0),(.int .u8 0),(.int .u8 0),(.int .u8 0),(.int .u8 0),(.int .u8 0),(.int .u8 0),(.int .u8 0),(.int .u8 0)]),false,none⟩
theorem fgb:TyOk Tryz.prog 302 llb:=⟨Tryz.underlying302,TyOk.of_info (by kernel_rfl),fun h=>(by cases h),fun τ h=>(by cases h)⟩
def mlb:Ty:=⟨.struct #[⟨"_interface",17,0,false, "", "runtime",0⟩,⟨"concrete",17,1,false, "", "runtime",8⟩,⟨"asserted",17,2,false, "", "runtime",16⟩,⟨"missingMethod",9,3,false, "", "runtime",24⟩],4,40,(.agg #[(.pointer none),(.pointer none),(.pointer none),(.string ⟨#[]⟩)]),false,none⟩
theorem ggb:TyOk Tryz.prog 303 mlb:=⟨Tryz.underlying303,TyOk.of_info (by kernel_rfl),fun h=>(by cases h),fun τ h=>(by cases h)⟩
def nlb:Ty:=⟨.struct #[⟨"_interface",17,0,false, "", "runtime",0⟩,⟨"concrete",17,1,false, "", "runtime",8⟩,⟨"asserted",17,2,false, "", "runtime",16⟩,⟨"missingMethod",9,3,false, "", "runtime",24⟩],4,40,(.agg #[(.pointer none),(.pointer none),(.pointer none),(.string ⟨#[]⟩)]),false,none⟩
theorem hgb:TyOk Tryz.prog 304 nlb:=⟨Tryz.underlying304,TyOk.of_info (by kernel_rfl),fun h=>(by cases h),fun τ h=>(by cases h)⟩
def olb:Ty:=⟨.array 0 16,0,0,(.agg #[]),false,none⟩
theorem igb:TyOk Tryz.prog 305 olb:=⟨Tryz.underlying305,TyOk.of_info (by kernel_rfl),fun h=>(by cases h),fun τ h=>(by cases h)⟩
def plb:Ty:=⟨.struct #[⟨"_",305,0,false, "", "runtime",0⟩],0,0,(.agg #[]),false,none⟩
theorem jgb:TyOk Tryz.prog 306 plb:=⟨Tryz.underlying306,TyOk.of_info (by kernel_rfl),fun h=>(by cases h),fun τ h=>(by cases h)⟩
def qlb:Ty:=⟨.struct #[⟨"_",305,0,false, "", "runtime",0⟩],0,0,(.agg #[]),false,none⟩
theorem kgb:TyOk Tryz.prog 307 qlb:=⟨Tryz.underlying307,TyOk.of_info (by kernel_rfl),fun h=>(by cases h),fun τ h=>(by cases h)⟩
def rlb:Ty:=⟨.int .u8,1,1,(.int .u8 0),false,none⟩
theorem lgb:TyOk Tryz.prog 309 rlb:=⟨Tryz.underlying309,TyOk.of_info (by kernel_rfl),fun h=>(by cases h),fun τ h=>(by cases h)⟩
def slb:Ty:=⟨.int .u8,1,1,(.int .u8 0),false,none⟩
theorem mgb:TyOk Tryz.prog 310 slb:=⟨Tryz.underlying310,TyOk.of_info (by kernel_rfl),fun h=>(by cases h),fun τ h=>(by cases h)⟩
def tlb:Ty:=⟨.int .i32,1,4,(.int .i32 0),false,none⟩
theorem ngb:TyOk Tryz.prog 312 tlb:=⟨Tryz.underlying312,TyOk.of_info (by kernel_rfl),fun h=>(by cases h),fun τ h=>(by cases h)⟩
def ulb:Ty:=⟨.int .i32,1,4,(.int .i32 0),false,none⟩
theorem ogb:TyOk Tryz.prog 313 ulb:=⟨Tryz.underlying313,TyOk.of_info (by kernel_rfl),fun h=>(by cases h),fun τ h=>(by cases h)⟩
def vlb:Ty:=⟨.struct #[⟨"Size_",12,0,false, "", "",0⟩,⟨"PtrBytes",12,1,false, "", "",8⟩,⟨"Hash",285,2,false, "", "",16⟩,⟨"TFlag",309,3,false, "", "",20⟩,⟨"Align_",5,4,false, "", "",21⟩,⟨"FieldAlign_",5,5,false, "", "",22⟩,⟨"Kind_",310,6,false, "", "",23⟩,⟨"Equal",311,7,false, "", "",24⟩,⟨"GCData",273,8,false, "", "",32⟩,⟨"Str",312,9,false, "", "",40⟩,⟨"PtrToThis",313,10,false, "", "",44⟩],11,48,(.agg #[(.int .u64 0),(.int .u64 0),(.int .u32 0),(.int .u8 0),(.int .u8 0),(.int .u8 0),(.int .u8 0),.nilFunc,(.pointer none),(.int .i32 0),(.int .i32 0)]),false,none⟩
theorem pgb:TyOk Tryz.prog 314 vlb:=⟨Tryz.underlying314,TyOk.of_info (by kernel_rfl),fun h=>(by cases h),fun τ h=>(by cases h)⟩
def wlb:Ty:=⟨.struct #[⟨"Size_",12,0,false, "", "",0⟩,⟨"PtrBytes",12,1,false, "", "",8⟩,⟨"Hash",285,2,false, "", "",16⟩,⟨"TFlag",309,3,false, "", "",20⟩,⟨"Align_",5,4,false, "", "",21⟩,⟨"FieldAlign_",5,5,false, "", "",22⟩,⟨"Kind_",310,6,false, "", "",23⟩,⟨"Equal",311,7,false, "", "",24⟩,⟨"GCData",273,8,false, "", "",32⟩,⟨"Str",312,9,false, "", "",40⟩,⟨"PtrToThis",313,10,false, "", "",44⟩],11,48,(.agg #[(.int .u64 0),(.int .u64 0),(.int .u32 0),(.int .u8 0),(.int .u8 0),(.int .u8 0),(.int .u8 0),.nilFunc,(.pointer none),(.int .i32 0),(.int .i32 0)]),false,none⟩
theorem qgb:TyOk Tryz.prog 315 wlb:=⟨Tryz.underlying315,TyOk.of_info (by kernel_rfl),fun h=>(by cases h),fun τ h=>(by cases h)⟩
def tys:Tys:=[none,none,some ty2,some ty3,some ty4,some ty5,some ty6,some ty7,some ty8,some ty9,some Hmb,some Imb,some Jmb,some Kmb,some Lmb,some Mmb,some Nmb,some Omb,some Pmb,some Qmb,some Rmb,some Smb,some Tmb,some Umb,some Vmb,some Wmb,some Xmb,some Ymb,some Zmb,some anb,some bnb,some cnb,some dnb,some enb,some fnb,some gnb,none,none,some inb,some jnb,none,none,none,none,none,none,none,none,none,none,none,none,none,none,none,some knb,some lnb,some mnb,some nnb,some onb,none,some pnb,some qnb,none,some rnb,some snb,none,some tnb,some unb,some vnb,some wnb,some xnb,none,some ynb,none,some znb,some Anb,some Bnb,none,none,none,some Cnb,some Dnb,none,none,none,some Enb,some Fnb,some Gnb,some Hnb,none,none,none,none,none,none,none,none,none,none,none,none,none,some qkb,some rkb,none,none,none,none,none,none,none,none,none,none,none,none,none,none,none,none,none,none,none,none,none,none,none,none,none,none,some skb,none,none,none,none,none,none,none,none,none,some tkb,none,none,some ukb,none,none,none,some vkb,some wkb,none,none,none,none,none,none,none,none,none,none,none,some xkb,none,none,none,none,none,none,none,none,none,none,none,none,none,none,none,none,none,none,some ykb,some zkb,some Akb,some Bkb,none,none,none,none,none,none,none,none,none,none,none,some Ckb,none,none,none,none,none,none,none,none,none,none,some Dkb,some Ekb,none,none,none,none,none,none,none,none,some Fkb,some Gkb,none,none,none,none,none,none,none,none,none,none,none,none,none,none,some Hkb,none,none,some Ikb,none,none,none,none,none,none,none,some Jkb,some Kkb,none,none,none,none,none,some Lkb,some Mkb,some Nkb,none,none,none,none,some Okb,none,none,some Pkb,none,none,some Qkb,none,none,none,none,none,some Rkb,some Skb,none,none,some Tkb,none,none,some Ukb,some Vkb,none,some Wkb,some Xkb,some Ykb,some Zkb,none,some alb,some blb,some clb,none,none,none,none,some dlb,none,some elb,none,none,none,some flb,some glb,some ilb,none,some klb,some llb,some mlb,some nlb,some olb,some plb,some qlb,none,some rlb,some slb,none,some tlb,some ulb,some vlb,some wlb]
theorem tys_ok:qc Tryz.prog tys:=edb (show B4 Tryz.prog 0 tys from ⟨jlb,xlb,ylb,zlb,Alb,Blb,Clb,Dlb,xib,yib,zib,Aib,Bib,Cib,Dib,Eib,Fib,Gib,Hib,Iib,Jib,Kib,Mib,Nib,Oib,Pib,Qib,Rib,Sib,Tib,Uib,Vib,Wib,Xib,Yib,Zib,ajb,bjb,cjb,djb,Ldb,ejb,Mdb,fjb,gjb,hjb,ijb,jjb,kjb,ljb,mjb,njb,ojb,pjb,qjb,rjb,sjb,tjb,ujb,vjb,mfb,nfb,ofb,pfb,qfb,rfb,sfb,tfb,ufb,vfb,wfb,xfb,yfb,zfb,Afb,Bfb,Cfb,Dfb,Efb,Ffb,Gfb,Hfb,Ifb,Jfb,Kfb,Lfb,Mfb,Nfb,Ofb,Pfb,Qfb,Rfb,Sfb,Tfb,Ufb,Vfb,Wfb,Xfb,Yfb,Zfb,agb,bgb,cgb,dgb,egb,fgb,ggb,hgb,igb,jgb,kgb,lgb,mgb,ngb,ogb,pgb,qgb,trivial⟩)
theorem mixed:Tryz.prog.follows .mixedOrders=true:=by kernel_rfl
end Go.Proofs.YtdhehcnfkcibiaaGreatDoor.AM
