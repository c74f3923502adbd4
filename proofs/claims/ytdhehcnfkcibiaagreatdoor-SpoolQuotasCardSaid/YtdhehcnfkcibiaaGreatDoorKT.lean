/- What the evaluator of the abstract machine knows of this seat's types, by program (tys.py), and that it is so. -/
import Derived.Test.YtdhehcnfkcibiaaGreatDoorProg
import Derived.Test.YtdhehcnfkcibiaaGreatDoorKB
import Derived.StringKeys
import Derived.DeepKeys4
set_option linter.all false
set_option linter.unusedVariables false
set_option linter.unusedSimpArgs false
namespace Go.Proofs.YtdhehcnfkcibiaaGreatDoor.AM
open Go Go.RowKit
set_option maxRecDepth 100000
open Go.WideMaps
theorem Z2:laidOutB Tryz.prog=true:=by kernel_rfl
def A8:Ty:=⟨.int .i64,1,8,(.int .i64 0),false,none⟩
theorem o0:TyOk Tryz.prog 2 A8:=⟨Tryz.underlying2,TyOk.of_info (by kernel_rfl),fun h=>(by cases h),fun τ h=>(by cases h)⟩
def B8:Ty:=⟨.int .i64,1,8,(.int .i64 0),false,none⟩
theorem O0:TyOk Tryz.prog 3 B8:=⟨Tryz.underlying3,TyOk.of_info (by kernel_rfl),fun h=>(by cases h),fun τ h=>(by cases h)⟩
def C8:Ty:=⟨.bool,1,1,(.bool false),false,none⟩
theorem P0:TyOk Tryz.prog 4 C8:=⟨Tryz.underlying4,TyOk.of_info (by kernel_rfl),fun h=>(by cases h),fun τ h=>(by cases h)⟩
def D8:Ty:=⟨.int .u8,1,1,(.int .u8 0),false,none⟩
theorem Q0:TyOk Tryz.prog 5 D8:=⟨Tryz.underlying5,TyOk.of_info (by kernel_rfl),fun h=>(by cases h),fun τ h=>(by cases h)⟩
def E8:Ty:=⟨.int .u8,1,1,(.int .u8 0),false,none⟩
theorem R0:TyOk Tryz.prog 6 E8:=⟨Tryz.underlying6,TyOk.of_info (by kernel_rfl),fun h=>(by cases h),fun τ h=>(by cases h)⟩
def F8:Ty:=⟨.struct #[⟨"x",2,0,false, "", "runtime",0⟩,⟨"y",3,1,false, "", "runtime",8⟩,⟨"signed",4,2,false, "", "runtime",16⟩,⟨"code",6,3,false, "", "runtime",17⟩],4,24,(.agg #[(.int .i64 0),(.int .i64 0),(.bool false),(.int .u8 0)]),false,none⟩
theorem S0:TyOk Tryz.prog 7 F8:=⟨Tryz.underlying7,TyOk.of_info (by kernel_rfl),fun h=>(by cases h),fun τ h=>(by cases h)⟩
def G8:Ty:=⟨.struct #[⟨"x",2,0,false, "", "runtime",0⟩,⟨"y",3,1,false, "", "runtime",8⟩,⟨"signed",4,2,false, "", "runtime",16⟩,⟨"code",6,3,false, "", "runtime",17⟩],4,24,(.agg #[(.int .i64 0),(.int .i64 0),(.bool false),(.int .u8 0)]),false,none⟩
theorem X0:TyOk Tryz.prog 8 G8:=⟨Tryz.underlying8,TyOk.of_info (by kernel_rfl),fun h=>(by cases h),fun τ h=>(by cases h)⟩
def H8:Ty:=⟨.string,1,16,(.string ⟨#[]⟩),false,some .str⟩
theorem Y0:TyOk Tryz.prog 9 H8:=⟨Tryz.underlying9,TyOk.of_info (by kernel_rfl),fun h=>(by cases h),fun τ h=>(by cases h;exact ⟨by kernel_rfl,string_law Tryz.underlying9,FW Tryz.underlying9⟩)⟩
def o4:Ty:=⟨.string,1,16,(.string ⟨#[]⟩),false,none⟩
theorem lX:TyOk Tryz.prog 10 o4:=⟨Tryz.underlying10,TyOk.of_info (by kernel_rfl),fun h=>(by cases h),fun τ h=>(by cases h)⟩
def r4:Ty:=⟨.string,1,16,(.string ⟨#[]⟩),false,none⟩
theorem mX:TyOk Tryz.prog 11 r4:=⟨Tryz.underlying11,TyOk.of_info (by kernel_rfl),fun h=>(by cases h),fun τ h=>(by cases h)⟩
def u4:Ty:=⟨.int .u64,1,8,(.int .u64 0),false,none⟩
theorem nX:TyOk Tryz.prog 12 u4:=⟨Tryz.underlying12,TyOk.of_info (by kernel_rfl),fun h=>(by cases h),fun τ h=>(by cases h)⟩
def A4:Ty:=⟨.struct #[⟨"msg",9,0,false, "", "runtime",0⟩,⟨"addr",12,1,false, "", "runtime",16⟩],2,24,(.agg #[(.string ⟨#[]⟩),(.int .u64 0)]),false,none⟩
theorem pX:TyOk Tryz.prog 13 A4:=⟨Tryz.underlying13,TyOk.of_info (by kernel_rfl),fun h=>(by cases h),fun τ h=>(by cases h)⟩
def B4:Ty:=⟨.struct #[⟨"msg",9,0,false, "", "runtime",0⟩,⟨"addr",12,1,false, "", "runtime",16⟩],2,24,(.agg #[(.string ⟨#[]⟩),(.int .u64 0)]),false,none⟩
theorem qX:TyOk Tryz.prog 14 B4:=⟨Tryz.underlying14,TyOk.of_info (by kernel_rfl),fun h=>(by cases h),fun τ h=>(by cases h)⟩
def C4:Ty:=⟨.pointer 304,1,8,(.pointer none),false,none⟩
theorem rX:TyOk Tryz.prog 15 C4:=⟨Tryz.underlying15,TyOk.of_info (by kernel_rfl),fun h=>(by cases h),fun τ h=>(by cases h)⟩
def D4:Ty:=⟨.pointer 307,1,8,(.pointer none),false,none⟩
theorem sX:TyOk Tryz.prog 16 D4:=⟨Tryz.underlying16,TyOk.of_info (by kernel_rfl),fun h=>(by cases h),fun τ h=>(by cases h)⟩
def E4:Ty:=⟨.pointer 315,1,8,(.pointer none),false,none⟩
theorem tX:TyOk Tryz.prog 17 E4:=⟨Tryz.underlying17,TyOk.of_info (by kernel_rfl),fun h=>(by cases h),fun τ h=>(by cases h)⟩
def F4:Ty:=⟨.struct #[⟨"typ",17,0,false, "", "internal/runtime/maps",0⟩],1,8,(.agg #[(.pointer none)]),false,none⟩
theorem uX:TyOk Tryz.prog 18 F4:=⟨Tryz.underlying18,TyOk.of_info (by kernel_rfl),fun h=>(by cases h),fun τ h=>(by cases h)⟩
def G4:Ty:=⟨.struct #[⟨"typ",17,0,false, "", "internal/runtime/maps",0⟩],1,8,(.agg #[(.pointer none)]),false,none⟩
theorem vX:TyOk Tryz.prog 19 G4:=⟨Tryz.underlying19,TyOk.of_info (by kernel_rfl),fun h=>(by cases h),fun τ h=>(by cases h)⟩
def H4:Ty:=⟨.interface #[],1,16,.nilIface,false,none⟩
theorem wX:TyOk Tryz.prog 20 H4:=⟨Tryz.underlying20,TyOk.of_info (by kernel_rfl),fun h=>(by cases h),fun τ h=>(by cases h)⟩
def I4:Ty:=⟨.int .i32,1,4,(.int .i32 0),false,none⟩
theorem xX:TyOk Tryz.prog 21 I4:=⟨Tryz.underlying21,TyOk.of_info (by kernel_rfl),fun h=>(by cases h),fun τ h=>(by cases h)⟩
def J4:Ty:=⟨.slice 59,1,24,(.slice none 0 0),false,none⟩
theorem yX:TyOk Tryz.prog 22 J4:=⟨Tryz.underlying22,TyOk.of_info (by kernel_rfl),fun h=>(by cases h),fun τ h=>(by cases h)⟩
def L4:Ty:=⟨.struct #[⟨"Next",3,0,false, "", "",0⟩,⟨"Mails",22,1,false, "", "",8⟩],2,32,(.agg #[(.int .i64 0),(.slice none 0 0)]),false,none⟩
theorem zX:TyOk Tryz.prog 23 L4:=⟨Tryz.underlying23,TyOk.of_info (by kernel_rfl),fun h=>(by cases h),fun τ h=>(by cases h)⟩
def M4:Ty:=⟨.struct #[⟨"Next",3,0,false, "", "",0⟩,⟨"Mails",22,1,false, "", "",8⟩],2,32,(.agg #[(.int .i64 0),(.slice none 0 0)]),false,none⟩
theorem AX:TyOk Tryz.prog 24 M4:=⟨Tryz.underlying24,TyOk.of_info (by kernel_rfl),fun h=>(by cases h),fun τ h=>(by cases h)⟩
def N4:Ty:=⟨.slice 89,1,24,(.slice none 0 0),false,none⟩
theorem BX:TyOk Tryz.prog 25 N4:=⟨Tryz.underlying25,TyOk.of_info (by kernel_rfl),fun h=>(by cases h),fun τ h=>(by cases h)⟩
def O4:Ty:=⟨.slice 3,1,24,(.slice none 0 0),false,none⟩
theorem CX:TyOk Tryz.prog 26 O4:=⟨Tryz.underlying26,TyOk.of_info (by kernel_rfl),fun h=>(by cases h),fun τ h=>(by cases h)⟩
def Q4:Ty:=⟨.float .f64,1,8,(.float .f64 0),false,none⟩
theorem DX:TyOk Tryz.prog 27 Q4:=⟨Tryz.underlying27,TyOk.of_info (by kernel_rfl),fun h=>(by cases h),fun τ h=>(by cases h)⟩
def R4:Ty:=⟨.struct #[⟨"Tenants",25,0,false, "", "",0⟩,⟨"Host",9,1,false, "", "",24⟩,⟨"Grey",3,2,false, "", "",40⟩,⟨"Expire",3,3,false, "", "",48⟩,⟨"Backoff",26,4,false, "", "",56⟩,⟨"Fails",3,5,false, "", "",80⟩,⟨"Pause",3,6,false, "", "",88⟩,⟨"Floor",27,7,false, "", "",96⟩],8,104,(.agg #[(.slice none 0 0),(.string ⟨#[]⟩),(.int .i64 0),(.int .i64 0),(.slice none 0 0),(.int .i64 0),(.int .i64 0),(.float .f64 0)]),false,none⟩
theorem EX:TyOk Tryz.prog 28 R4:=⟨Tryz.underlying28,TyOk.of_info (by kernel_rfl),fun h=>(by cases h),fun τ h=>(by cases h)⟩
def S4:Ty:=⟨.struct #[⟨"Tenants",25,0,false, "", "",0⟩,⟨"Host",9,1,false, "", "",24⟩,⟨"Grey",3,2,false, "", "",40⟩,⟨"Expire",3,3,false, "", "",48⟩,⟨"Backoff",26,4,false, "", "",56⟩,⟨"Fails",3,5,false, "", "",80⟩,⟨"Pause",3,6,false, "", "",88⟩,⟨"Floor",27,7,false, "", "",96⟩],8,104,(.agg #[(.slice none 0 0),(.string ⟨#[]⟩),(.int .i64 0),(.int .i64 0),(.slice none 0 0),(.int .i64 0),(.int .i64 0),(.float .f64 0)]),false,none⟩
theorem FX:TyOk Tryz.prog 29 S4:=⟨Tryz.underlying29,TyOk.of_info (by kernel_rfl),fun h=>(by cases h),fun τ h=>(by cases h)⟩
def V4:Ty:=⟨.slice 70,1,24,(.slice none 0 0),false,none⟩
theorem GX:TyOk Tryz.prog 30 V4:=⟨Tryz.underlying30,TyOk.of_info (by kernel_rfl),fun h=>(by cases h),fun τ h=>(by cases h)⟩
def W4:Ty:=⟨.slice 9,1,24,(.slice none 0 0),false,none⟩
theorem HX:TyOk Tryz.prog 31 W4:=⟨Tryz.underlying31,TyOk.of_info (by kernel_rfl),fun h=>(by cases h),fun τ h=>(by cases h)⟩
def X4:Ty:=⟨.struct #[⟨"Mail",3,0,false, "", "",0⟩,⟨"Tenant",3,1,false, "", "",8⟩,⟨"Domain",9,2,false, "", "",16⟩,⟨"Rcpts",26,3,false, "", "",32⟩],4,56,(.agg #[(.int .i64 0),(.int .i64 0),(.string ⟨#[]⟩),(.slice none 0 0)]),false,none⟩
theorem JX:TyOk Tryz.prog 32 X4:=⟨Tryz.underlying32,TyOk.of_info (by kernel_rfl),fun h=>(by cases h),fun τ h=>(by cases h)⟩
def Y4:Ty:=⟨.struct #[⟨"Mail",3,0,false, "", "",0⟩,⟨"Tenant",3,1,false, "", "",8⟩,⟨"Domain",9,2,false, "", "",16⟩,⟨"Rcpts",26,3,false, "", "",32⟩],4,56,(.agg #[(.int .i64 0),(.int .i64 0),(.string ⟨#[]⟩),(.slice none 0 0)]),false,none⟩
theorem KX:TyOk Tryz.prog 33 Y4:=⟨Tryz.underlying33,TyOk.of_info (by kernel_rfl),fun h=>(by cases h),fun τ h=>(by cases h)⟩
def Z4:Ty:=⟨.struct #[⟨"S",24,0,false, "", "",0⟩,⟨"C",29,2,false, "", "",32⟩,⟨"Hosts",30,10,false, "", "",136⟩,⟨"Busy",31,11,false, "", "",160⟩,⟨"Now",3,12,false, "", "",184⟩,⟨"J",33,13,false, "", "",192⟩,⟨"Codes",26,17,false, "", "",248⟩,⟨"Which",3,18,false, "", "",272⟩],19,280,(.agg #[(.int .i64 0),(.slice none 0 0),(.slice none 0 0),(.string ⟨#[]⟩),(.int .i64 0),(.int .i64 0),(.slice none 0 0),(.int .i64 0),(.int .i64 0),(.float .f64 0),(.slice none 0 0),(.slice none 0 0),(.int .i64 0),(.int .i64 0),(.int .i64 0),(.string ⟨#[]⟩),(.slice none 0 0),(.slice none 0 0),(.int .i64 0)]),false,none⟩
theorem LX:TyOk Tryz.prog 34 Z4:=⟨Tryz.underlying34,TyOk.of_info (by kernel_rfl),fun h=>(by cases h),fun τ h=>(by cases h)⟩
def d5:Ty:=⟨.struct #[⟨"S",24,0,false, "", "",0⟩,⟨"C",29,2,false, "", "",32⟩,⟨"Hosts",30,10,false, "", "",136⟩,⟨"Busy",31,11,false, "", "",160⟩,⟨"Now",3,12,false, "", "",184⟩,⟨"J",33,13,false, "", "",192⟩,⟨"Codes",26,17,false, "", "",248⟩,⟨"Which",3,18,false, "", "",272⟩],19,280,(.agg #[(.int .i64 0),(.slice none 0 0),(.slice none 0 0),(.string ⟨#[]⟩),(.int .i64 0),(.int .i64 0),(.slice none 0 0),(.int .i64 0),(.int .i64 0),(.float .f64 0),(.slice none 0 0),(.slice none 0 0),(.int .i64 0),(.int .i64 0),(.int .i64 0),(.string ⟨#[]⟩),(.slice none 0 0),(.slice none 0 0),(.int .i64 0)]),false,none⟩
theorem MX:TyOk Tryz.prog 35 d5:=⟨Tryz.underlying35,TyOk.of_info (by kernel_rfl),fun h=>(by cases h),fun τ h=>(by cases h)⟩
def e5:Ty:=⟨.slice 33,1,24,(.slice none 0 0),false,none⟩
theorem NX:TyOk Tryz.prog 38 e5:=⟨Tryz.underlying38,TyOk.of_info (by kernel_rfl),fun h=>(by cases h),fun τ h=>(by cases h)⟩
def f5:Ty:=⟨.int .i64,1,8,(.int .i64 0),false,none⟩
theorem OX:TyOk Tryz.prog 39 f5:=⟨Tryz.underlying39,TyOk.of_info (by kernel_rfl),fun h=>(by cases h),fun τ h=>(by cases h)⟩
def j5:Ty:=⟨.struct #[⟨"Local",9,0,false, "", "",0⟩,⟨"Domain",9,1,false, "", "",16⟩],2,32,(.agg #[(.string ⟨#[]⟩),(.string ⟨#[]⟩)]),false,none⟩
theorem PX:TyOk Tryz.prog 55 j5:=⟨Tryz.underlying55,TyOk.of_info (by kernel_rfl),fun h=>(by cases h),fun τ h=>(by cases h)⟩
def n5:Ty:=⟨.struct #[⟨"Local",9,0,false, "", "",0⟩,⟨"Domain",9,1,false, "", "",16⟩],2,32,(.agg #[(.string ⟨#[]⟩),(.string ⟨#[]⟩)]),true,some (.pair .str (.pair .str .unit))⟩
theorem QX:TyOk Tryz.prog 56 n5:=⟨Tryz.underlying56,TyOk.of_info (by kernel_rfl),fun _=>⟨by kernel_rfl,by kernel_rfl,by kernel_rfl⟩,fun τ h=>(by cases h;exact ⟨by kernel_rfl,deep_law_laid Z2 (m:=2) (by omega) (of_decide_eq_true (by kernel_rfl)) (by kernel_rfl) (by kernel_rfl),sT Tryz.underlying56 (by kernel_rfl) Tryz.underlying9 Tryz.underlying9⟩)⟩
def o5:Ty:=⟨.slice 62,1,24,(.slice none 0 0),false,none⟩
theorem RX:TyOk Tryz.prog 57 o5:=⟨Tryz.underlying57,TyOk.of_info (by kernel_rfl),fun h=>(by cases h),fun τ h=>(by cases h)⟩
def q5:Ty:=⟨.struct #[⟨"ID",3,0,false, "", "",0⟩,⟨"Tenant",3,1,false, "", "",8⟩,⟨"Null",4,2,false, "", "",16⟩,⟨"From",56,3,false, "", "",24⟩,⟨"Rcpts",57,5,false, "", "",56⟩,⟨"Body",9,6,false, "", "",80⟩,⟨"Born",3,7,false, "", "",96⟩,⟨"Held",4,8,false, "", "",104⟩,⟨"Told",4,9,false, "", "",105⟩],10,112,(.agg #[(.int .i64 0),(.int .i64 0),(.bool false),(.string ⟨#[]⟩),(.string ⟨#[]⟩),(.slice none 0 0),(.string ⟨#[]⟩),(.int .i64 0),(.bool false),(.bool false)]),false,none⟩
theorem SX:TyOk Tryz.prog 58 q5:=⟨Tryz.underlying58,TyOk.of_info (by kernel_rfl),fun h=>(by cases h),fun τ h=>(by cases h)⟩
def r5:Ty:=⟨.struct #[⟨"ID",3,0,false, "", "",0⟩,⟨"Tenant",3,1,false, "", "",8⟩,⟨"Null",4,2,false, "", "",16⟩,⟨"From",56,3,false, "", "",24⟩,⟨"Rcpts",57,5,false, "", "",56⟩,⟨"Body",9,6,false, "", "",80⟩,⟨"Born",3,7,false, "", "",96⟩,⟨"Held",4,8,false, "", "",104⟩,⟨"Told",4,9,false, "", "",105⟩],10,112,(.agg #[(.int .i64 0),(.int .i64 0),(.bool false),(.string ⟨#[]⟩),(.string ⟨#[]⟩),(.slice none 0 0),(.string ⟨#[]⟩),(.int .i64 0),(.bool false),(.bool false)]),false,none⟩
theorem GS:TyOk Tryz.prog 59 r5:=⟨Tryz.underlying59,TyOk.of_info (by kernel_rfl),fun h=>(by cases h),fun τ h=>(by cases h)⟩
def u5:Ty:=⟨.struct #[⟨"Box",56,0,false, "", "",0⟩,⟨"Status",3,2,false, "", "",32⟩,⟨"Attempts",3,3,false, "", "",40⟩,⟨"Next",3,4,false, "", "",48⟩,⟨"Code",3,5,false, "", "",56⟩],6,64,(.agg #[(.string ⟨#[]⟩),(.string ⟨#[]⟩),(.int .i64 0),(.int .i64 0),(.int .i64 0),(.int .i64 0)]),false,none⟩
theorem TX:TyOk Tryz.prog 61 u5:=⟨Tryz.underlying61,TyOk.of_info (by kernel_rfl),fun h=>(by cases h),fun τ h=>(by cases h)⟩
def w5:Ty:=⟨.struct #[⟨"Box",56,0,false, "", "",0⟩,⟨"Status",3,2,false, "", "",32⟩,⟨"Attempts",3,3,false, "", "",40⟩,⟨"Next",3,4,false, "", "",48⟩,⟨"Code",3,5,false, "", "",56⟩],6,64,(.agg #[(.string ⟨#[]⟩),(.string ⟨#[]⟩),(.int .i64 0),(.int .i64 0),(.int .i64 0),(.int .i64 0)]),true,none⟩
theorem HS:TyOk Tryz.prog 62 w5:=⟨Tryz.underlying62,TyOk.of_info (by kernel_rfl),fun _=>⟨by kernel_rfl,by kernel_rfl,by kernel_rfl⟩,fun τ h=>(by cases h)⟩
def x5:Ty:=⟨.struct #[⟨"Score",27,0,false, "", "",0⟩,⟨"Count",3,1,false, "", "",8⟩],2,16,(.agg #[(.float .f64 0),(.int .i64 0)]),false,none⟩
theorem UX:TyOk Tryz.prog 64 x5:=⟨Tryz.underlying64,TyOk.of_info (by kernel_rfl),fun h=>(by cases h),fun τ h=>(by cases h)⟩
def y5:Ty:=⟨.struct #[⟨"Score",27,0,false, "", "",0⟩,⟨"Count",3,1,false, "", "",8⟩],2,16,(.agg #[(.float .f64 0),(.int .i64 0)]),true,none⟩
theorem VX:TyOk Tryz.prog 65 y5:=⟨Tryz.underlying65,TyOk.of_info (by kernel_rfl),fun _=>⟨by kernel_rfl,by kernel_rfl,by kernel_rfl⟩,fun τ h=>(by cases h)⟩
def A5:Ty:=⟨.struct #[⟨"State",3,0,false, "", "",0⟩,⟨"Fails",3,1,false, "", "",8⟩,⟨"Until",3,2,false, "", "",16⟩,⟨"Health",65,3,false, "", "",24⟩],5,40,(.agg #[(.int .i64 0),(.int .i64 0),(.int .i64 0),(.float .f64 0),(.int .i64 0)]),false,none⟩
theorem WX:TyOk Tryz.prog 67 A5:=⟨Tryz.underlying67,TyOk.of_info (by kernel_rfl),fun h=>(by cases h),fun τ h=>(by cases h)⟩
def B5:Ty:=⟨.struct #[⟨"State",3,0,false, "", "",0⟩,⟨"Fails",3,1,false, "", "",8⟩,⟨"Until",3,2,false, "", "",16⟩,⟨"Health",65,3,false, "", "",24⟩],5,40,(.agg #[(.int .i64 0),(.int .i64 0),(.int .i64 0),(.float .f64 0),(.int .i64 0)]),true,none⟩
theorem XX:TyOk Tryz.prog 68 B5:=⟨Tryz.underlying68,TyOk.of_info (by kernel_rfl),fun _=>⟨by kernel_rfl,by kernel_rfl,by kernel_rfl⟩,fun τ h=>(by cases h)⟩
def C5:Ty:=⟨.struct #[⟨"Domain",9,0,false, "", "",0⟩,⟨"Breaker",68,1,false, "", "",16⟩],6,56,(.agg #[(.string ⟨#[]⟩),(.int .i64 0),(.int .i64 0),(.int .i64 0),(.float .f64 0),(.int .i64 0)]),false,none⟩
theorem YX:TyOk Tryz.prog 69 C5:=⟨Tryz.underlying69,TyOk.of_info (by kernel_rfl),fun h=>(by cases h),fun τ h=>(by cases h)⟩
def D5:Ty:=⟨.struct #[⟨"Domain",9,0,false, "", "",0⟩,⟨"Breaker",68,1,false, "", "",16⟩],6,56,(.agg #[(.string ⟨#[]⟩),(.int .i64 0),(.int .i64 0),(.int .i64 0),(.float .f64 0),(.int .i64 0)]),true,none⟩
theorem ZX:TyOk Tryz.prog 70 D5:=⟨Tryz.underlying70,TyOk.of_info (by kernel_rfl),fun _=>⟨by kernel_rfl,by kernel_rfl,by kernel_rfl⟩,fun τ h=>(by cases h)⟩
def E5:Ty:=⟨.slice 5,1,24,(.slice none 0 0),false,none⟩
theorem aY:TyOk Tryz.prog 71 E5:=⟨Tryz.underlying71,TyOk.of_info (by kernel_rfl),fun h=>(by cases h),fun τ h=>(by cases h)⟩
def F5:Ty:=⟨.slice 26,1,24,(.slice none 0 0),false,none⟩
theorem bY:TyOk Tryz.prog 73 F5:=⟨Tryz.underlying73,TyOk.of_info (by kernel_rfl),fun h=>(by cases h),fun τ h=>(by cases h)⟩
def G5:Ty:=⟨.slice 82,1,24,(.slice none 0 0),false,none⟩
theorem cY:TyOk Tryz.prog 75 G5:=⟨Tryz.underlying75,TyOk.of_info (by kernel_rfl),fun h=>(by cases h),fun τ h=>(by cases h)⟩
def H5:Ty:=⟨.struct #[⟨"S",24,0,false, "", "",0⟩,⟨"C",29,2,false, "", "",32⟩,⟨"L",75,10,false, "", "",136⟩],11,160,(.agg #[(.int .i64 0),(.slice none 0 0),(.slice none 0 0),(.string ⟨#[]⟩),(.int .i64 0),(.int .i64 0),(.slice none 0 0),(.int .i64 0),(.int .i64 0),(.float .f64 0),(.slice none 0 0)]),false,none⟩
theorem dY:TyOk Tryz.prog 76 H5:=⟨Tryz.underlying76,TyOk.of_info (by kernel_rfl),fun h=>(by cases h),fun τ h=>(by cases h)⟩
def I5:Ty:=⟨.struct #[⟨"S",24,0,false, "", "",0⟩,⟨"C",29,2,false, "", "",32⟩,⟨"L",75,10,false, "", "",136⟩],11,160,(.agg #[(.int .i64 0),(.slice none 0 0),(.slice none 0 0),(.string ⟨#[]⟩),(.int .i64 0),(.int .i64 0),(.slice none 0 0),(.int .i64 0),(.int .i64 0),(.float .f64 0),(.slice none 0 0)]),false,none⟩
theorem eY:TyOk Tryz.prog 77 I5:=⟨Tryz.underlying77,TyOk.of_info (by kernel_rfl),fun h=>(by cases h),fun τ h=>(by cases h)⟩
def J5:Ty:=⟨.struct #[⟨"Do",3,0,false, "", "",0⟩,⟨"N",3,1,false, "", "",8⟩,⟨"ID",3,2,false, "", "",16⟩,⟨"M",59,3,false, "", "",24⟩,⟨"Fit",4,13,false, "", "",136⟩],14,144,(.agg #[(.int .i64 0),(.int .i64 0),(.int .i64 0),(.int .i64 0),(.int .i64 0),(.bool false),(.string ⟨#[]⟩),(.string ⟨#[]⟩),(.slice none 0 0),(.string ⟨#[]⟩),(.int .i64 0),(.bool false),(.bool false),(.bool false)]),false,none⟩
theorem fY:TyOk Tryz.prog 81 J5:=⟨Tryz.underlying81,TyOk.of_info (by kernel_rfl),fun h=>(by cases h),fun τ h=>(by cases h)⟩
def L5:Ty:=⟨.struct #[⟨"Do",3,0,false, "", "",0⟩,⟨"N",3,1,false, "", "",8⟩,⟨"ID",3,2,false, "", "",16⟩,⟨"M",59,3,false, "", "",24⟩,⟨"Fit",4,13,false, "", "",136⟩],14,144,(.agg #[(.int .i64 0),(.int .i64 0),(.int .i64 0),(.int .i64 0),(.int .i64 0),(.bool false),(.string ⟨#[]⟩),(.string ⟨#[]⟩),(.slice none 0 0),(.string ⟨#[]⟩),(.int .i64 0),(.bool false),(.bool false),(.bool false)]),false,none⟩
theorem gY:TyOk Tryz.prog 82 L5:=⟨Tryz.underlying82,TyOk.of_info (by kernel_rfl),fun h=>(by cases h),fun τ h=>(by cases h)⟩
def M5:Ty:=⟨.struct #[⟨"Level",3,0,false, "", "",0⟩,⟨"Cap",3,1,false, "", "",8⟩,⟨"Fill",3,2,false, "", "",16⟩,⟨"Every",3,3,false, "", "",24⟩,⟨"Due",3,4,false, "", "",32⟩],5,40,(.agg #[(.int .i64 0),(.int .i64 0),(.int .i64 0),(.int .i64 0),(.int .i64 0)]),false,none⟩
theorem iY:TyOk Tryz.prog 86 M5:=⟨Tryz.underlying86,TyOk.of_info (by kernel_rfl),fun h=>(by cases h),fun τ h=>(by cases h)⟩
def N5:Ty:=⟨.struct #[⟨"Level",3,0,false, "", "",0⟩,⟨"Cap",3,1,false, "", "",8⟩,⟨"Fill",3,2,false, "", "",16⟩,⟨"Every",3,3,false, "", "",24⟩,⟨"Due",3,4,false, "", "",32⟩],5,40,(.agg #[(.int .i64 0),(.int .i64 0),(.int .i64 0),(.int .i64 0),(.int .i64 0)]),true,none⟩
theorem jY:TyOk Tryz.prog 87 N5:=⟨Tryz.underlying87,TyOk.of_info (by kernel_rfl),fun _=>⟨by kernel_rfl,by kernel_rfl,by kernel_rfl⟩,fun τ h=>(by cases h)⟩
def O5:Ty:=⟨.struct #[⟨"Name",9,0,false, "", "",0⟩,⟨"Bytes",3,1,false, "", "",16⟩,⟨"Count",3,2,false, "", "",24⟩,⟨"Quantum",3,3,false, "", "",32⟩,⟨"Rate",87,4,false, "", "",40⟩,⟨"Lmtp",4,9,false, "", "",80⟩],10,88,(.agg #[(.string ⟨#[]⟩),(.int .i64 0),(.int .i64 0),(.int .i64 0),(.int .i64 0),(.int .i64 0),(.int .i64 0),(.int .i64 0),(.int .i64 0),(.bool false)]),false,none⟩
theorem kY:TyOk Tryz.prog 88 O5:=⟨Tryz.underlying88,TyOk.of_info (by kernel_rfl),fun h=>(by cases h),fun τ h=>(by cases h)⟩
def P5:Ty:=⟨.struct #[⟨"Name",9,0,false, "", "",0⟩,⟨"Bytes",3,1,false, "", "",16⟩,⟨"Count",3,2,false, "", "",24⟩,⟨"Quantum",3,3,false, "", "",32⟩,⟨"Rate",87,4,false, "", "",40⟩,⟨"Lmtp",4,9,false, "", "",80⟩],10,88,(.agg #[(.string ⟨#[]⟩),(.int .i64 0),(.int .i64 0),(.int .i64 0),(.int .i64 0),(.int .i64 0),(.int .i64 0),(.int .i64 0),(.int .i64 0),(.bool false)]),true,none⟩
theorem lY:TyOk Tryz.prog 89 P5:=⟨Tryz.underlying89,TyOk.of_info (by kernel_rfl),fun _=>⟨by kernel_rfl,by kernel_rfl,by kernel_rfl⟩,fun τ h=>(by cases h)⟩
def jZ:Ty:=⟨.struct #[⟨"S",24,0,false, "", "",0⟩,⟨"C",29,2,false, "", "",32⟩,⟨"L",31,10,false, "", "",136⟩],11,160,(.agg #[(.int .i64 0),(.slice none 0 0),(.slice none 0 0),(.string ⟨#[]⟩),(.int .i64 0),(.int .i64 0),(.slice none 0 0),(.int .i64 0),(.int .i64 0),(.float .f64 0),(.slice none 0 0)]),false,none⟩
theorem eU:TyOk Tryz.prog 103 jZ:=⟨Tryz.underlying103,TyOk.of_info (by kernel_rfl),fun h=>(by cases h),fun τ h=>(by cases h)⟩
def kZ:Ty:=⟨.struct #[⟨"S",24,0,false, "", "",0⟩,⟨"C",29,2,false, "", "",32⟩,⟨"L",31,10,false, "", "",136⟩],11,160,(.agg #[(.int .i64 0),(.slice none 0 0),(.slice none 0 0),(.string ⟨#[]⟩),(.int .i64 0),(.int .i64 0),(.slice none 0 0),(.int .i64 0),(.int .i64 0),(.float .f64 0),(.slice none 0 0)]),false,none⟩
theorem fU:TyOk Tryz.prog 104 kZ:=⟨Tryz.underlying104,TyOk.of_info (by kernel_rfl),fun h=>(by cases h),fun τ h=>(by cases h)⟩
def lZ:Ty:=⟨.int .u64,1,8,(.int .u64 0),false,none⟩
theorem gU:TyOk Tryz.prog 131 lZ:=⟨Tryz.underlying131,TyOk.of_info (by kernel_rfl),fun h=>(by cases h),fun τ h=>(by cases h)⟩
def mZ:Ty:=⟨.pointer 59,1,8,(.pointer none),false,none⟩
theorem iU:TyOk Tryz.prog 141 mZ:=⟨Tryz.underlying141,TyOk.of_info (by kernel_rfl),fun h=>(by cases h),fun τ h=>(by cases h)⟩
def nZ:Ty:=⟨.pointer 62,1,8,(.pointer none),false,none⟩
theorem jU:TyOk Tryz.prog 144 nZ:=⟨Tryz.underlying144,TyOk.of_info (by kernel_rfl),fun h=>(by cases h),fun τ h=>(by cases h)⟩
def oZ:Ty:=⟨.map 9 4,1,8,(.map none),false,none⟩
theorem kU:TyOk Tryz.prog 148 oZ:=⟨Tryz.underlying148,TyOk.of_info (by kernel_rfl),fun h=>(by cases h),fun τ h=>(by cases h)⟩
def pZ:Ty:=⟨.array 4 3,4,32,(.agg #[(.int .i64 0),(.int .i64 0),(.int .i64 0),(.int .i64 0)]),false,none⟩
theorem lU:TyOk Tryz.prog 149 pZ:=⟨Tryz.underlying149,TyOk.of_info (by kernel_rfl),fun h=>(by cases h),fun τ h=>(by cases h)⟩
def qZ:Ty:=⟨.int .u64,1,8,(.int .u64 0),false,none⟩
theorem mU:TyOk Tryz.prog 161 qZ:=⟨Tryz.underlying161,TyOk.of_info (by kernel_rfl),fun h=>(by cases h),fun τ h=>(by cases h)⟩
def rZ:Ty:=⟨.pointer 39,1,8,(.pointer none),false,none⟩
theorem nU:TyOk Tryz.prog 180 rZ:=⟨Tryz.underlying180,TyOk.of_info (by kernel_rfl),fun h=>(by cases h),fun τ h=>(by cases h)⟩
def sZ:Ty:=⟨.pointer 183,1,8,(.pointer none),false,none⟩
theorem oU:TyOk Tryz.prog 181 sZ:=⟨Tryz.underlying181,TyOk.of_info (by kernel_rfl),fun h=>(by cases h),fun τ h=>(by cases h)⟩
def tZ:Ty:=⟨.struct #[⟨"s",24,0,false, "", "pouch/admin",0⟩,⟨"c",29,2,false, "", "pouch/admin",32⟩,⟨"told",31,10,false, "", "pouch/admin",136⟩],11,160,(.agg #[(.int .i64 0),(.slice none 0 0),(.slice none 0 0),(.string ⟨#[]⟩),(.int .i64 0),(.int .i64 0),(.slice none 0 0),(.int .i64 0),(.int .i64 0),(.float .f64 0),(.slice none 0 0)]),false,none⟩
theorem pU:TyOk Tryz.prog 182 tZ:=⟨Tryz.underlying182,TyOk.of_info (by kernel_rfl),fun h=>(by cases h),fun τ h=>(by cases h)⟩
def uZ:Ty:=⟨.struct #[⟨"s",24,0,false, "", "pouch/admin",0⟩,⟨"c",29,2,false, "", "pouch/admin",32⟩,⟨"told",31,10,false, "", "pouch/admin",136⟩],11,160,(.agg #[(.int .i64 0),(.slice none 0 0),(.slice none 0 0),(.string ⟨#[]⟩),(.int .i64 0),(.int .i64 0),(.slice none 0 0),(.int .i64 0),(.int .i64 0),(.float .f64 0),(.slice none 0 0)]),false,none⟩
theorem qU:TyOk Tryz.prog 183 uZ:=⟨Tryz.underlying183,TyOk.of_info (by kernel_rfl),fun h=>(by cases h),fun τ h=>(by cases h)⟩
def vZ:Ty:=⟨.map 56 4,1,8,(.map none),false,none⟩
theorem rU:TyOk Tryz.prog 195 vZ:=⟨Tryz.underlying195,TyOk.of_info (by kernel_rfl),fun h=>(by cases h),fun τ h=>(by cases h)⟩
def wZ:Ty:=⟨.struct #[⟨"e",39,0,false, "", "pouch/admin",0⟩],1,8,(.agg #[(.int .i64 0)]),false,none⟩
theorem sU:TyOk Tryz.prog 206 wZ:=⟨Tryz.underlying206,TyOk.of_info (by kernel_rfl),fun h=>(by cases h),fun τ h=>(by cases h)⟩
def xZ:Ty:=⟨.struct #[⟨"e",39,0,false, "", "pouch/admin",0⟩],1,8,(.agg #[(.int .i64 0)]),true,none⟩
theorem tU:TyOk Tryz.prog 207 xZ:=⟨Tryz.underlying207,TyOk.of_info (by kernel_rfl),fun _=>⟨by kernel_rfl,by kernel_rfl,by kernel_rfl⟩,fun τ h=>(by cases h)⟩
def yZ:Ty:=⟨.interface #[("Error",254)],1,16,.nilIface,false,none⟩
theorem uU:TyOk Tryz.prog 216 yZ:=⟨Tryz.underlying216,TyOk.of_info (by kernel_rfl),fun h=>(by cases h),fun τ h=>(by cases h)⟩
def zZ:Ty:=⟨.interface #[("Error",254)],1,16,.nilIface,false,none⟩
theorem vU:TyOk Tryz.prog 217 zZ:=⟨Tryz.underlying217,TyOk.of_info (by kernel_rfl),fun h=>(by cases h),fun τ h=>(by cases h)⟩
def AZ:Ty:=⟨.array 5 9,5,80,(.agg #[(.string ⟨#[]⟩),(.string ⟨#[]⟩),(.string ⟨#[]⟩),(.string ⟨#[]⟩),(.string ⟨#[]⟩)]),false,none⟩
theorem wU:TyOk Tryz.prog 232 AZ:=⟨Tryz.underlying232,TyOk.of_info (by kernel_rfl),fun h=>(by cases h),fun τ h=>(by cases h)⟩
def BZ:Ty:=⟨.pointer 89,1,8,(.pointer none),false,none⟩
theorem xU:TyOk Tryz.prog 235 BZ:=⟨Tryz.underlying235,TyOk.of_info (by kernel_rfl),fun h=>(by cases h),fun τ h=>(by cases h)⟩
def CZ:Ty:=⟨.struct #[⟨"e",39,0,false, "", "pouch/addr",0⟩],1,8,(.agg #[(.int .i64 0)]),false,none⟩
theorem yU:TyOk Tryz.prog 243 CZ:=⟨Tryz.underlying243,TyOk.of_info (by kernel_rfl),fun h=>(by cases h),fun τ h=>(by cases h)⟩
def DZ:Ty:=⟨.struct #[⟨"e",39,0,false, "", "pouch/addr",0⟩],1,8,(.agg #[(.int .i64 0)]),true,none⟩
theorem zU:TyOk Tryz.prog 244 DZ:=⟨Tryz.underlying244,TyOk.of_info (by kernel_rfl),fun _=>⟨by kernel_rfl,by kernel_rfl,by kernel_rfl⟩,fun τ h=>(by cases h)⟩
def EZ:Ty:=⟨.pointer 252,1,8,(.pointer none),false,none⟩
theorem AU:TyOk Tryz.prog 250 EZ:=⟨Tryz.underlying250,TyOk.of_info (by kernel_rfl),fun h=>(by cases h),fun τ h=>(by cases h)⟩
def FZ:Ty:=⟨.struct #[⟨"addr",250,0,false, "", "strings",0⟩,⟨"buf",71,1,false, "", "strings",8⟩],2,32,(.agg #[(.pointer none),(.slice none 0 0)]),false,none⟩
theorem BU:TyOk Tryz.prog 251 FZ:=⟨Tryz.underlying251,TyOk.of_info (by kernel_rfl),fun h=>(by cases h),fun τ h=>(by cases h)⟩
def GZ:Ty:=⟨.struct #[⟨"addr",250,0,false, "", "strings",0⟩,⟨"buf",71,1,false, "", "strings",8⟩],2,32,(.agg #[(.pointer none),(.slice none 0 0)]),false,none⟩
theorem CU:TyOk Tryz.prog 252 GZ:=⟨Tryz.underlying252,TyOk.of_info (by kernel_rfl),fun h=>(by cases h),fun τ h=>(by cases h)⟩
def HZ:Ty:=⟨.int .i64,1,8,(.int .i64 0),false,none⟩
theorem DU:TyOk Tryz.prog 257 HZ:=⟨Tryz.underlying257,TyOk.of_info (by kernel_rfl),fun h=>(by cases h),fun τ h=>(by cases h)⟩
def IZ:Ty:=⟨.pointer 277,1,8,(.pointer none),false,none⟩
theorem EU:TyOk Tryz.prog 260 IZ:=⟨Tryz.underlying260,TyOk.of_info (by kernel_rfl),fun h=>(by cases h),fun τ h=>(by cases h)⟩
def JZ:Ty:=⟨.array 24 5,24,24,(.agg #[(.int .u8 0),(.int .u8 0),(.int .u8 0),(.int .u8 0),(.int .u8 0),(.int .u8 0),(.int .u8 0),(.int .u8 0),(.int .u8 0),(.int .u8 0),(.int .u8 0),(.int .u8 0),(.int .u8 0),(.int .u8 0),(.int .u8 0),(.int .u8 0),(.int .u8 0),(.int .u8 0),(.int .u8 0),(.int .u8 0),(.int .u8 0),(.int .u8 0),(.int .u8 0),(.int .u8 0)]),false,none⟩
theorem FU:TyOk Tryz.prog 263 JZ:=⟨Tryz.underlying263,TyOk.of_info (by kernel_rfl),fun h=>(by cases h),fun τ h=>(by cases h)⟩
def KZ:Ty:=⟨.array 256 4,256,256,(.agg #[(.bool false),(.bool false),(.bool false),(.bool false),(.bool false),(.bool false),(.bool false),(.bool false),(.bool false),(.bool false),(.bool false),(.bool false),(.bool false),(.bool false),(.bool false),(.bool false),(.bool false),(.bool false),(.bool false),(.bool false),(.bool false),(.bool false),(.bool false),(.bool false),(.bool false),(.bool false),(.bool false),(.bool false),(.bool false),(.bool false),(.bool false),(.bool false),(.bool false),(.bool false),(.bool false),(.bool false),(.bool false),(.bool false),(.bool false),(.bool false),(.bool false),(.bool false),(.bool false),(.bool false),(.bool false),(.bool false),(.bool false),(.bool false),(.bool false),(.bool false),(.bool false),(.bool false),(.bool false),(.bool false),(.bool false),(.bool false),(.bool false),(.bool false),(.bool false),(.bool false),(.bool false),(.bool false),(.bool false),(.bool false),(.bool false),(.bool false),(.bool false),(.bool false),(.bool false),(.bool false),(.bool false),(.bool false),(.bool false),(.bool false),(.bool false),(.bool false),(.bool false),(.bool false),(.bool false),(.bool false),(.bool false),(.bool false),(.bool false),(.bool false),(.bool false),(.bool false),(.bool false),(.bool false),(.bool false),(.bool false),(.bool false),(.bool false),(.bool false),(.bool false),(.bool false),(.bool false),(.bool false),(.bool false),(.bool false),(.bool false),(.bool false),(.bool false),(.bool false),(.bool false),(.bool false),(.bool false),(.bool false),(.bool false),(.bool false),(.bool false),(.bool false),(.bool false),(.bool false),(.bool false),(.bool false),(.bool false),(.bool false),(.bool false),(.bool false),(.bool false),(.bool false),(.bool false),(.bool false),(.bool false),(.bool false),(.bool false),(.bool false),(.bool false),(.bool false),(.bool false),(.bool false),(.bool false),(.bool false),(.bool false),(.bool false),(.bool false),(.bool false),(.bool false),(.bool false),(.bool false),(.bool false),(.bool false),(.bool false),(.bool false),(.bool false),(.bool false),(.bool false),(.bool false),(.bool false),(.bool false),(.bool false),(.bool false),(.bool false),(.bool false),(.bool false),(.bool false),(.bool false),(.bool false),(.bool false),(.bool false),(.bool false),(.bool false),(.bool false),(.bool false),(.bool false),(.bool false),(.bool false),(.bool false),(.bool false),(.bool false),(.bool false),(.bool false),(.bool false),(.bool false),(.bool false),(.bool false),(.bool false),(.bool false),(.bool false),(.bool false),(.bool false),(.bool false),(.bool false),(.bool false),(.bool false),(.bool false),(.bool false),(.bool false),(.bool false),(.bool false),(.bool false),(.bool false),(.bool false),(.bool false),(.bool false),(.bool false),(.bool false),(.bool false),(.bool false),(.bool false),(.bool false),(.bool false),(.bool false),(.bool false),(.bool false),(.bool false),(.bool false),(.bool false),(.bool false),(.bool false),(.bool false),(.bool false),(.bool false),(.bool false),(.bool false),(.bool false),(.bool false),(.bool false),(.bool false),(.bool false),(.bool false),(.bool false),(.bool false),(.bool false),(.bool false),(.bool false),(.bool false),(.bool false),(.bool false),(.bool false),(.bool false),(.bool false),(.bool false),(.bool false),(.bool false),(.bool false),(.bool false),(.bool false),(.bool false),(.bool false),(.bool false),(.bool false),(.bool false),(.bool false),(.bool false),(.bool false),(.bool false),(.bool false),(.bool false),(.bool false),(.bool false),(.bool false),(.bool false),(.bool false),(.bool false),(.bool false)]),false,none⟩
theorem GU:TyOk Tryz.prog 269 KZ:=⟨Tryz.underlying269,TyOk.of_info (by kernel_rfl),fun h=>(by cases h),fun τ h=>(by cases h)⟩
def LZ:Ty:=⟨.array 256 4,256,256,(.agg #[(.bool false),(.bool false),(.bool false),(.bool false),(.bool false),(.bool false),(.bool false),(.bool false),(.bool false),(.bool false),(.bool false),(.bool false),(.bool false),(.bool false),(.bool false),(.bool false),(.bool false),(.bool false),(.bool false),(.bool false),(.bool false),(.bool false),(.bool false),(.bool false),(.bool false),(.bool false),(.bool false),(.bool false),(.bool false),(.bool false),(.bool false),(.bool false),(.bool false),(.bool false),(.bool false),(.bool false),(.bool false),(.bool false),(.bool false),(.bool false),(.bool false),(.bool false),(.bool false),(.bool false),(.bool false),(.bool false),(.bool false),(.bool false),(.bool false),(.bool false),(.bool false),(.bool false),(.bool false),(.bool false),(.bool false),(.bool false),(.bool false),(.bool false),(.bool false),(.bool false),(.bool false),(.bool false),(.bool false),(.bool false),(.bool false),(.bool false),(.bool false),(.bool false),(.bool false),(.bool false),(.bool false),(.bool false),(.bool false),(.bool false),(.bool false),(.bool false),(.bool false),(.bool false),(.bool false),(.bool false),(.bool false),(.bool false),(.bool false),(.bool false),(.bool false),(.bool false),(.bool false),(.bool false),(.bool false),(.bool false),(.bool false),(.bool false),(.bool false),(.bool false),(.bool false),(.bool false),(.bool false),(.bool false),(.bool false),(.bool false),(.bool false),(.bool false),(.bool false),(.bool false),(.bool false),(.bool false),(.bool false),(.bool false),(.bool false),(.bool false),(.bool false),(.bool false),(.bool false),(.bool false),(.bool false),(.bool false),(.bool false),(.bool false),(.bool false),(.bool false),(.bool false),(.bool false),(.bool false),(.bool false),(.bool false),(.bool false),(.bool false),(.bool false),(.bool false),(.bool false),(.bool false),(.bool false),(.bool false),(.bool false),(.bool false),(.bool false),(.bool false),(.bool false),(.bool false),(.bool false),(.bool false),(.bool false),(.bool false),(.bool false),(.bool false),(.bool false),(.bool false),(.bool false),(.bool false),(.bool false),(.bool false),(.bool false),(.bool false),(.bool false),(.bool false),(.bool false),(.bool false),(.bool false),(.bool false),(.bool false),(.bool false),(.bool false),(.bool false),(.bool false),(.bool false),(.bool false),(.bool false),(.bool false),(.bool false),(.bool false),(.bool false),(.bool false),(.bool false),(.bool false),(.bool false),(.bool false),(.bool false),(.bool false),(.bool false),(.bool false),(.bool false),(.bool false),(.bool false),(.bool false),(.bool false),(.bool false),(.bool false),(.bool false),(.bool false),(.bool false),(.bool false),(.bool false),(.bool false),(.bool false),(.bool false),(.bool false),(.bool false),(.bool false),(.bool false),(.bool false),(.bool false),(.bool false),(.bool false),(.bool false),(.bool false),(.bool false),(.bool false),(.bool false),(.bool false),(.bool false),(.bool false),(.bool false),(.bool false),(.bool false),(.bool false),(.bool false),(.bool false),(.bool false),(.bool false),(.bool false),(.bool false),(.bool false),(.bool false),(.bool false),(.bool false),(.bool false),(.bool false),(.bool false),(.bool false),(.bool false),(.bool false),(.bool false),(.bool false),(.bool false),(.bool false),(.bool false),(.bool false),(.bool false),(.bool false),(.bool false),(.bool false),(.bool false),(.bool false),(.bool false),(.bool false),(.bool false),(.bool false),(.bool false),(.bool false),(.bool false),(.bool false),(.bool false),(.bool false),(.bool false),(.bool false),(.bool false)]),false,none⟩
theorem HU:TyOk Tryz.prog 270 LZ:=⟨Tryz.underlying270,TyOk.of_info (by kernel_rfl),fun h=>(by cases h),fun τ h=>(by cases h)⟩
def MZ:Ty:=⟨.pointer 5,1,8,(.pointer none),false,none⟩
theorem IU:TyOk Tryz.prog 273 MZ:=⟨Tryz.underlying273,TyOk.of_info (by kernel_rfl),fun h=>(by cases h),fun τ h=>(by cases h)⟩
def NZ:Ty:=⟨.struct #[⟨"Func",9,0,false, "", "",0⟩,⟨"Num",9,1,false, "", "",16⟩,⟨"Err",217,2,false, "", "",32⟩],3,48,(.agg #[(.string ⟨#[]⟩),(.string ⟨#[]⟩),.nilIface]),false,none⟩
theorem JU:TyOk Tryz.prog 276 NZ:=⟨Tryz.underlying276,TyOk.of_info (by kernel_rfl),fun h=>(by cases h),fun τ h=>(by cases h)⟩
def OZ:Ty:=⟨.struct #[⟨"Func",9,0,false, "", "",0⟩,⟨"Num",9,1,false, "", "",16⟩,⟨"Err",217,2,false, "", "",32⟩],3,48,(.agg #[(.string ⟨#[]⟩),(.string ⟨#[]⟩),.nilIface]),false,none⟩
theorem KU:TyOk Tryz.prog 277 OZ:=⟨Tryz.underlying277,TyOk.of_info (by kernel_rfl),fun h=>(by cases h),fun τ h=>(by cases h)⟩
def PZ:Ty:=⟨.array 256 5,256,256,(.agg #[(.int .u8 0),(.int .u8 0),(.int .u8 0),(.int .u8 0),(.int .u8 0),(.int .u8 0),(.int .u8 0),(.int .u8 0),(.int .u8 0),(.int .u8 0),(.int .u8 0),(.int .u8 0),(.int .u8 0),(.int .u8 0),(.int .u8 0),(.int .u8 0),(.int .u8 0),(.int .u8 0),(.int .u8 0),(.int .u8 0),(.int .u8 0),(.int .u8 0),(.int .u8 0),(.int .u8 0),(.int .u8 0),(.int .u8 0),(.int .u8 0),(.int .u8 0),(.int .u8 0),(.int .u8 0),(.int .u8 0),(.int .u8 0),(.int .u8 0),(.int .u8 0),(.int .u8 0),(.int .u8 0),(.int .u8 0),(.int .u8 0),(.int .u8 0),(.int .u8 0),(.int .u8 0),(.int .u8 0),(.int .u8 0),(.int .u8 0),(.int .u8 0),(.int .u8 0),(.int .u8 0),(.int .u8 0),(.int .u8 0),(.int .u8 0),(.int .u8 0),(.int .u8 0),(.int .u8 0),(.int .u8 0),(.int .u8 0),(.int .u8 0),(.int .u8 0),(.int .u8 0),(.int .u8 0),(.int .u8 0),(.int .u8 0),(.int .u8 0),(.int .u8 0),(.int .u8 0),(.int .u8 0),(.int .u8 0),(.int .u8 0),(.int .u8 0),(.int .u8 0),(.int .u8 0),(.int .u8 0),(.int .u8 0),(.int .u8 0),(.int .u8 0),(.int .u8 0),(.int .u8 0),(.int .u8 0),(.int .u8 0),(.int .u8 0),(.int .u8 0),(.int .u8 0),(.int .u8 0),(.int .u8 0),(.int .u8 0),(.int .u8 0),(.int .u8 0),(.int .u8 0),(.int .u8 0),(.int .u8 0),(.int .u8 0),(.int .u8 0),(.int .u8 0),(.int .u8 0),(.int .u8 0),(.int .u8 0),(.int .u8 0),(.int .u8 0),(.int .u8 0),(.int .u8 0),(.int .u8 0),(.int .u8 0),(.int .u8 0),(.int .u8 0),(.int .u8 0),(.int .u8 0),(.int .u8 0),(.int .u8 0),(.int .u8 0),(.int .u8 0),(.int .u8 0),(.int .u8 0),(.int .u8 0),(.int .u8 0),(.int .u8 0),(.int .u8 0),(.int .u8 0),(.int .u8 0),(.int .u8 0),(.int .u8 0),(.int .u8 0),(.int .u8 0),(.int .u8 0),(.int .u8 0),(.int .u8 0),(.int .u8 0),(.int .u8 0),(.int .u8 0),(.int .u8 0),(.int .u8 0),(.int .u8 0),(.int .u8 0),(.int .u8 0),(.int .u8 0),(.int .u8 0),(.int .u8 0),(.int .u8 0),(.int .u8 0),(.int .u8 0),(.int .u8 0),(.int .u8 0),(.int .u8 0),(.int .u8 0),(.int .u8 0),(.int .u8 0),(.int .u8 0),(.int .u8 0),(.int .u8 0),(.int .u8 0),(.int .u8 0),(.int .u8 0),(.int .u8 0),(.int .u8 0),(.int .u8 0),(.int .u8 0),(.int .u8 0),(.int .u8 0),(.int .u8 0),(.int .u8 0),(.int .u8 0),(.int .u8 0),(.int .u8 0),(.int .u8 0),(.int .u8 0),(.int .u8 0),(.int .u8 0),(.int .u8 0),(.int .u8 0),(.int .u8 0),(.int .u8 0),(.int .u8 0),(.int .u8 0),(.int .u8 0),(.int .u8 0),(.int .u8 0),(.int .u8 0),(.int .u8 0),(.int .u8 0),(.int .u8 0),(.int .u8 0),(.int .u8 0),(.int .u8 0),(.int .u8 0),(.int .u8 0),(.int .u8 0),(.int .u8 0),(.int .u8 0),(.int .u8 0),(.int .u8 0),(.int .u8 0),(.int .u8 0),(.int .u8 0),(.int .u8 0),(.int .u8 0),(.int .u8 0),(.int .u8 0),(.int .u8 0),(.int .u8 0),(.int .u8 0),(.int .u8 0),(.int .u8 0),(.int .u8 0),(.int .u8 0),(.int .u8 0),(.int .u8 0),(.int .u8 0),(.int .u8 0),(.int .u8 0),(.int .u8 0),(.int .u8 0),(.int .u8 0),(.int .u8 0),(.int .u8 0),(.int .u8 0),(.int .u8 0),(.int .u8 0),(.int .u8 0),(.int .u8 0),(.int .u8 0),(.int .u8 0),(.int .u8 0),(.int .u8 0),(.int .u8 0),(.int .u8 0),(.int .u8 0),(.int .u8 0),(.int .u8 0),(.int .u8 0),(.int .u8 0),(.int .u8 0),(.int .u8 0),(.int .u8 0),(.int .u8 0),(.int .u8 0),(.int .u8 0),(.int .u8 0),(.int .u8 0),(.int .u8 0),(.int .u8 0),(.int .u8 0),(.int .u8 0),(.int .u8 0),(.int .u8 0),(.int .u8 0),(.int .u8 0),(.int .u8 0),(.int .u8 0),(.int .u8 0),(.int .u8 0),(.int .u8 0),(.int .u8 0),(.int .u8 0),(.int .u8 0),(.int .u8 0),(.int .u8 0),(.int .u8 0),(.int .u8 0)]),false,none⟩
theorem LU:TyOk Tryz.prog 279 PZ:=⟨Tryz.underlying279,TyOk.of_info (by kernel_rfl),fun h=>(by cases h),fun τ h=>(by cases h)⟩
def QZ:Ty:=⟨.struct #[⟨"lo",5,0,false, "", "unicode/utf8",0⟩,⟨"hi",5,1,false, "", "unicode/utf8",1⟩],2,2,(.agg #[(.int .u8 0),(.int .u8 0)]),false,none⟩
theorem MU:TyOk Tryz.prog 280 QZ:=⟨Tryz.underlying280,TyOk.of_info (by kernel_rfl),fun h=>(by cases h),fun τ h=>(by cases h)⟩
def RZ:Ty:=⟨.struct #[⟨"lo",5,0,false, "", "unicode/utf8",0⟩,⟨"hi",5,1,false, "", "unicode/utf8",1⟩],2,2,(.agg #[(.int .u8 0),(.int .u8 0)]),false,none⟩
theorem NU:TyOk Tryz.prog 281 RZ:=⟨Tryz.underlying281,TyOk.of_info (by kernel_rfl),fun h=>(by cases h),fun τ h=>(by cases h)⟩
def SZ:Ty:=⟨.array 16 281,32,32,(.agg #[(.int .u8 0),(.int .u8 0),(.int .u8 0),(.int .u8 0),(.int .u8 0),(.int .u8 0),(.int .u8 0),(.int .u8 0),(.int .u8 0),(.int .u8 0),(.int .u8 0),(.int .u8 0),(.int .u8 0),(.int .u8 0),(.int .u8 0),(.int .u8 0),(.int .u8 0),(.int .u8 0),(.int .u8 0),(.int .u8 0),(.int .u8 0),(.int .u8 0),(.int .u8 0),(.int .u8 0),(.int .u8 0),(.int .u8 0),(.int .u8 0),(.int .u8 0),(.int .u8 0),(.int .u8 0),(.int .u8 0),(.int .u8 0)]),false,none⟩
theorem OU:TyOk Tryz.prog 282 SZ:=⟨Tryz.underlying282,TyOk.of_info (by kernel_rfl),fun h=>(by cases h),fun τ h=>(by cases h)⟩
def TZ:Ty:=⟨.array 20 161,20,160,(.agg #[(.int .u64 0),(.int .u64 0),(.int .u64 0),(.int .u64 0),(.int .u64 0),(.int .u64 0),(.int .u64 0),(.int .u64 0),(.int .u64 0),(.int .u64 0),(.int .u64 0),(.int .u64 0),(.int .u64 0),(.int .u64 0),(.int .u64 0),(.int .u64 0),(.int .u64 0),(.int .u64 0),(.int .u64 0),(.int .u64 0)]),false,none⟩
theorem PU:TyOk Tryz.prog 284 TZ:=⟨Tryz.underlying284,TyOk.of_info (by kernel_rfl),fun h=>(by cases h),fun τ h=>(by cases h)⟩
def UZ:Ty:=⟨.int .u32,1,4,(.int .u32 0),false,none⟩
theorem QU:TyOk Tryz.prog 285 UZ:=⟨Tryz.underlying285,TyOk.of_info (by kernel_rfl),fun h=>(by cases h),fun τ h=>(by cases h)⟩
def VZ:Ty:=⟨.array 65 5,65,65,(.agg #[(.int .u8 0),(.int .u8 0),(.int .u8 0),(.int .u8 0),(.int .u8 0),(.int .u8 0),(.int .u8 0),(.int .u8 0),(.int .u8 0),(.int .u8 0),(.int .u8 0),(.int .u8 0),(.int .u8 0),(.int .u8 0),(.int .u8 0),(.int .u8 0),(.int .u8 0),(.int .u8 0),(.int .u8 0),(.int .u8 0),(.int .u8 0),(.int .u8 0),(.int .u8 0),(.int .u8 0),(.int .u8 0),(.int .u8 0),(.int .u8 0),(.int .u8 0),(.int .u8 0),(.int .u8 0),(.int .u8 0),(.int .u8 0),(.int .u8 0),(.int .u8 0),(.int .u8 0),(.int .u8 0),(.int .u8 0),(.int .u8 0),(.int .u8 0),(.int .u8 0),(.int .u8 0),(.int .u8 0),(.int .u8 0),(.int .u8 0),(.int .u8 0),(.int .u8 0),(.int .u8 0),(.int .u8 0),(.int .u8 0),(.int .u8 0),(.int .u8 0),(.int .u8 0),(.int .u8 0),(.int .u8 0),(.int .u8 0),(.int .u8 0),(.int .u8 0),(.int .u8 0),(.int .u8 0),(.int .u8 0),(.int .u8 0),(.int .u8 0),(.int .u8 0),(.int .u8 0),(.int .u8 0)]),false,none⟩
theorem RU:TyOk Tryz.prog 286 VZ:=⟨Tryz.underlying286,TyOk.of_info (by kernel_rfl),fun h=>(by cases h),fun τ h=>(by cases h)⟩
def WZ:Ty:=⟨.pointer 270,1,8,(.pointer none),false,none⟩
theorem SU:TyOk Tryz.prog 291 WZ:=⟨Tryz.underlying291,TyOk.of_info (by kernel_rfl),fun h=>(by cases h),fun τ h=>(by cases h)⟩
def XZ:Ty:=⟨.unsafePointer,1,8,(.pointer none),false,none⟩
theorem TU:TyOk Tryz.prog 293 XZ:=⟨Tryz.underlying293,TyOk.of_info (by kernel_rfl),fun h=>(by cases h),fun τ h=>(by cases h)⟩
def YZ:Ty:=⟨.pointer 299,1,8,(.pointer none),false,none⟩
theorem UU:TyOk Tryz.prog 297 YZ:=⟨Tryz.underlying297,TyOk.of_info (by kernel_rfl),fun h=>(by cases h),fun τ h=>(by cases h)⟩
def ZZ:Ty:=⟨.struct #[⟨"s",9,0,false, "", "errors",0⟩],1,16,(.agg #[(.string ⟨#[]⟩)]),false,none⟩
theorem VU:TyOk Tryz.prog 298 ZZ:=⟨Tryz.underlying298,TyOk.of_info (by kernel_rfl),fun h=>(by cases h),fun τ h=>(by cases h)⟩
def j0:Ty:=⟨.struct #[⟨"s",9,0,false, "", "errors",0⟩],1,16,(.agg #[(.string ⟨#[]⟩)]),false,none⟩
theorem WU:TyOk Tryz.prog 299 j0:=⟨Tryz.underlying299,TyOk.of_info (by kernel_rfl),fun h=>(by cases h),fun τ h=>(by cases h)⟩
def s0:Ty:=⟨.array 32 5,32,32,(.agg #[(.int .u8 0),(.int .u8 0),(.int .u8 0),(.int .u8 0),(.int .u8 0),(.int .u8 0),(.int .u8 0),(.int .u8 0),(.int .u8 0),(.int .u8 0),(.int .u8 0),(.int .u8 0),(.int .u8 0),(.int .u8 0),(.int .u8 0),(.int .u8 0),(.int .u8 0),(.int .u8 0),(.int .u8 0),(.int .u8 0),(.int .u8 0),(.int .u8 0),(.int .u8 0),(.int .u8 0),(.int .u8 0),(.int .u8 0),(.int .u8 0),(.int .u8 0),(.int .u8 0),(.int .u8 0),(.int .u8 0),(.int .u8 0)]),false,none⟩
theorem XU:TyOk Tryz.prog 301 s0:=⟨Tryz.underlying301,TyOk.of_info (by kernel_rfl),fun h=>(by cases h),fun τ h=>(by cases h)⟩
def u0:Ty:=⟨.array 64 5,64,64,(.agg #[(.int .u8 0),(.int .u8 0),(.int .u8 0),(.int .u8 0),(.int .u8 0),(.int .u8 0),(.int .u8 0),(.int .u8 0),(.int .u8 0),(.int .u8 0),(.int .u8 0),(.int .u8 0),(.int .u8 0),(.int .u8 0),(.int .u8 0),(.int .u8 0),(.int .u8 0),(.int .u8 0),(.int .u8 0),(.int .u8 0),(.int .u8 0),(.int .u8 0),(.int .u8 0),(.int .u8 0),(.int .u8 0),(.int .u8 0),(.int .u8 0),(.int .u8 0),(.int .u8 0),(.int .u8 0),(.int .u8 0),(.int .u8 0),(.int .u8 0),(.int .u8 0),(.int .u8 0),(.int .u8 0),(.int .u8 0),(.int .u8 0),(.int .u8 0),(.int .u8 0),(.int .u8 0),(.int .u8 0),(.int .u8 0),(.int .u8 0),(.int .u8 0),(.int .u8 0),(.int .u8 0),(.int .u8 0),(.int .u8 0),(.int .u8 0),(.int .u8 0),(.int .u8 0),(.int .u8 0),(.int .u8 0),(.int .u8 0),(.int .u8 0),(.int .u8 0),(.int .u8 0),(.int .u8 0),(.int .u8 0),(.int .u8 0),(.int .u8 0),(.int .u8 0),(.int .u8 0)]),false,none⟩
theorem YU:TyOk Tryz.prog 302 u0:=⟨Tryz.underlying302,TyOk.of_info (by kernel_rfl),fun h=>(by cases h),fun τ h=>(by cases h)⟩
def x0:Ty:=⟨.struct #[⟨"_interface",17,0,false, "", "runtime",0⟩,⟨"concrete",17,1,false, "", "runtime",8⟩,⟨"asserted",17,2,false, "", "runtime",16⟩,⟨"missingMethod",9,3,false, "", "runtime",24⟩],4,40,(.agg #[(.pointer none),(.pointer none),(.pointer none),(.string ⟨#[]⟩)]),false,none⟩
theorem ZU:TyOk Tryz.prog 303 x0:=⟨Tryz.underlying303,TyOk.of_info (by kernel_rfl),fun h=>(by cases h),fun τ h=>(by cases h)⟩
def B0:Ty:=⟨.struct #[⟨"_interface",17,0,false, "", "runtime",0⟩,⟨"concrete",17,1,false, "", "runtime",8⟩,⟨"asserted",17,2,false, "", "runtime",16⟩,⟨"missingMethod",9,3,false, "", "runtime",24⟩],4,40,(.agg #[(.pointer none),(.pointer none),(.pointer none),(.string ⟨#[]⟩)]),false,none⟩
theorem aV:TyOk Tryz.prog 304 B0:=⟨Tryz.underlying304,TyOk.of_info (by kernel_rfl),fun h=>(by cases h),fun τ h=>(by cases h)⟩
def C0:Ty:=⟨.array 0 16,0,0,(.agg #[]),false,none⟩
theorem cV:TyOk Tryz.prog 305 C0:=⟨Tryz.underlying305,TyOk.of_info (by kernel_rfl),fun h=>(by cases h),fun τ h=>(by cases h)⟩
def D0:Ty:=⟨.struct #[⟨"_",305,0,false, "", "runtime",0⟩],0,0,(.agg #[]),false,none⟩
theorem dV:TyOk Tryz.prog 306 D0:=⟨Tryz.underlying306,TyOk.of_info (by kernel_rfl),fun h=>(by cases h),fun τ h=>(by cases h)⟩
def F0:Ty:=⟨.struct #[⟨"_",305,0,false, "", "runtime",0⟩],0,0,(.agg #[]),false,none⟩
theorem eV:TyOk Tryz.prog 307 F0:=⟨Tryz.underlying307,TyOk.of_info (by kernel_rfl),fun h=>(by cases h),fun τ h=>(by cases h)⟩
def G0:Ty:=⟨.int .u8,1,1,(.int .u8 0),false,none⟩
theorem fV:TyOk Tryz.prog 309 G0:=⟨Tryz.underlying309,TyOk.of_info (by kernel_rfl),fun h=>(by cases h),fun τ h=>(by cases h)⟩
def H0:Ty:=⟨.int .u8,1,1,(.int .u8 0),false,none⟩
theorem gV:TyOk Tryz.prog 310 H0:=⟨Tryz.underlying310,TyOk.of_info (by kernel_rfl),fun h=>(by cases h),fun τ h=>(by cases h)⟩
def J0:Ty:=⟨.int .i32,1,4,(.int .i32 0),false,none⟩
theorem iV:TyOk Tryz.prog 312 J0:=⟨Tryz.underlying312,TyOk.of_info (by kernel_rfl),fun h=>(by cases h),fun τ h=>(by cases h)⟩
def L0:Ty:=⟨.int .i32,1,4,(.int .i32 0),false,none⟩
theorem jV:TyOk Tryz.prog 313 L0:=⟨Tryz.underlying313,TyOk.of_info (by kernel_rfl),fun h=>(by cases h),fun τ h=>(by cases h)⟩
def M0:Ty:=⟨.struct #[⟨"Size_",12,0,false, "", "",0⟩,⟨"PtrBytes",12,1,false, "", "",8⟩,⟨"Hash",285,2,false, "", "",16⟩,⟨"TFlag",309,3,false, "", "",20⟩,⟨"Align_",5,4,false, "", "",21⟩,⟨"FieldAlign_",5,5,false, "", "",22⟩,⟨"Kind_",310,6,false, "", "",23⟩,⟨"Equal",311,7,false, "", "",24⟩,⟨"GCData",273,8,false, "", "",32⟩,⟨"Str",312,9,false, "", "",40⟩,⟨"PtrToThis",313,10,false, "", "",44⟩],11,48,(.agg #[(.int .u64 0),(.int .u64 0),(.int .u32 0),(.int .u8 0),(.int .u8 0),(.int .u8 0),(.int .u8 0),.nilFunc,(.pointer none),(.int .i32 0),(.int .i32 0)]),false,none⟩
theorem kV:TyOk Tryz.prog 314 M0:=⟨Tryz.underlying314,TyOk.of_info (by kernel_rfl),fun h=>(by cases h),fun τ h=>(by cases h)⟩
def N0:Ty:=⟨.struct #[⟨"Size_",12,0,false, "", "",0⟩,⟨"PtrBytes",12,1,false, "", "",8⟩,⟨"Hash",285,2,false, "", "",16⟩,⟨"TFlag",309,3,false, "", "",20⟩,⟨"Align_",5,4,false, "", "",21⟩,⟨"FieldAlign_",5,5,false, "", "",22⟩,⟨"Kind_",310,6,false, "", "",23⟩,⟨"Equal",311,7,false, "", "",24⟩,⟨"GCData",273,8,false, "", "",32⟩,⟨"Str",312,9,false, "", "",40⟩,⟨"PtrToThis",313,10,false, "", "",44⟩],11,48,(.agg #[(.int .u64 0),(.int .u64 0),(.int .u32 0),(.int .u8 0),(.int .u8 0),(.int .u8 0),(.int .u8 0),.nilFunc,(.pointer none),(.int .i32 0),(.int .i32 0)]),false,none⟩
theorem lV:TyOk Tryz.prog 315 N0:=⟨Tryz.underlying315,TyOk.of_info (by kernel_rfl),fun h=>(by cases h),fun τ h=>(by cases h)⟩
def tys:F6:=[none,none,some A8,some B8,some C8,some D8,some E8,some F8,some G8,some H8,some o4,some r4,some u4,some A4,some B4,some C4,some D4,some E4,some F4,some G4,some H4,some I4,some J4,some L4,some M4,some N4,some O4,some Q4,some R4,some S4,some V4,some W4,some X4,some Y4,some Z4,some d5,none,none,some e5,some f5,none,none,none,none,none,none,none,none,none,none,none,none,none,none,none,some j5,some n5,some o5,some q5,some r5,none,some u5,some w5,none,some x5,some y5,none,some A5,some B5,some C5,some D5,some E5,none,some F5,none,some G5,some H5,some I5,none,none,none,some J5,some L5,none,none,none,some M5,some N5,some O5,some P5,none,none,none,none,none,none,none,none,none,none,none,none,none,some jZ,some kZ,none,none,none,none,none,none,none,none,none,none,none,none,none,none,none,none,none,none,none,none,none,none,none,none,none,none,some lZ,none,none,none,none,none,none,none,none,none,some mZ,none,none,some nZ,none,none,none,some oZ,some pZ,none,none,none,none,none,none,none,none,none,none,none,some qZ,none,none,none,none,none,none,none,none,none,none,none,none,none,none,none,none,none,none,some rZ,some sZ,some tZ,some uZ,none,none,none,none,none,none,none,none,none,none,none,some vZ,none,none,none,none,none,none,none,none,none,none,some wZ,some xZ,none,none,none,none,none,none,none,none,some yZ,some zZ,none,none,none,none,none,none,none,none,none,none,none,none,none,none,some AZ,none,none,some BZ,none,none,none,none,none,none,none,some CZ,some DZ,none,none,none,none,none,some EZ,some FZ,some GZ,none,none,none,none,some HZ,none,none,some IZ,none,none,some JZ,none,none,none,none,none,some KZ,some LZ,none,none,some MZ,none,none,some NZ,some OZ,none,some PZ,some QZ,some RZ,some SZ,none,some TZ,some UZ,some VZ,none,none,none,none,some WZ,none,some XZ,none,none,none,some YZ,some ZZ,some j0,none,some s0,some u0,some x0,some B0,some C0,some D0,some F0,none,some G0,some H0,none,some J0,some L0,some M0,some N0]
theorem tys_ok:Jb Tryz.prog tys:=fS (show NL Tryz.prog 0 tys from ⟨o0,O0,P0,Q0,R0,S0,X0,Y0,lX,mX,nX,pX,qX,rX,sX,tX,uX,vX,wX,xX,yX,zX,AX,BX,CX,DX,EX,FX,GX,HX,JX,KX,LX,MX,NX,OX,PX,QX,RX,SX,GS,TX,HS,UX,VX,WX,XX,YX,ZX,aY,bY,cY,dY,eY,fY,gY,iY,jY,kY,lY,eU,fU,gU,iU,jU,kU,lU,mU,nU,oU,pU,qU,rU,sU,tU,uU,vU,wU,xU,yU,zU,AU,BU,CU,DU,EU,FU,GU,HU,IU,JU,KU,LU,MU,NU,OU,PU,QU,RU,SU,TU,UU,VU,WU,XU,YU,ZU,aV,cV,dV,eV,fV,gV,iV,jV,kV,lV,trivial⟩)
theorem mixed:Tryz.prog.follows .mixedOrders=true:=by kernel_rfl
end Go.Proofs.YtdhehcnfkcibiaaGreatDoor.AM
