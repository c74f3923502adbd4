/- What the evaluator of the abstract machine knows of this seat's types, by program (tys.py), and that it is so. -/
import Derived.Test.YtdhehcnfkcibiaaGreatDoorProg
import Derived.Test.YtdhehcnfkcibiaaGreatDoorJB
import Derived.StringKeys
import Derived.DeepKeys4
set_option linter.all false
set_option linter.unusedVariables false
set_option linter.unusedSimpArgs false
namespace Go.Proofs.YtdhehcnfkcibiaaGreatDoor.AM
open Go Go.RowKit
set_option maxRecDepth 100000
open Go.WideMaps
theorem aT:laidOutB Tryz.prog=true:=by kernel_rfl
def ZV:Ty:=⟨.int .i64,1,8,(.int .i64 0),false,none⟩
theorem fS:TyOk Tryz.prog 2 ZV:=⟨Tryz.underlying2,TyOk.of_info (by kernel_rfl),fun h=>(by cases h),fun τ h=>(by cases h)⟩
def aW:Ty:=⟨.int .i64,1,8,(.int .i64 0),false,none⟩
theorem uS:TyOk Tryz.prog 3 aW:=⟨Tryz.underlying3,TyOk.of_info (by kernel_rfl),fun h=>(by cases h),fun τ h=>(by cases h)⟩
def bW:Ty:=⟨.bool,1,1,(.bool false),false,none⟩
theorem vS:TyOk Tryz.prog 4 bW:=⟨Tryz.underlying4,TyOk.of_info (by kernel_rfl),fun h=>(by cases h),fun τ h=>(by cases h)⟩
def cW:Ty:=⟨.int .u8,1,1,(.int .u8 0),false,none⟩
theorem wS:TyOk Tryz.prog 5 cW:=⟨Tryz.underlying5,TyOk.of_info (by kernel_rfl),fun h=>(by cases h),fun τ h=>(by cases h)⟩
def dW:Ty:=⟨.int .u8,1,1,(.int .u8 0),false,none⟩
theorem xS:TyOk Tryz.prog 6 dW:=⟨Tryz.underlying6,TyOk.of_info (by kernel_rfl),fun h=>(by cases h),fun τ h=>(by cases h)⟩
def eW:Ty:=⟨.struct #[⟨"x",2,0,false, "", "runtime",0⟩,⟨"y",3,1,false, "", "runtime",8⟩,⟨"signed",4,2,false, "", "runtime",16⟩,⟨"code",6,3,false, "", "runtime",17⟩],4,24,(.agg #[(.int .i64 0),(.int .i64 0),(.bool false),(.int .u8 0)]),false,none⟩
theorem yS:TyOk Tryz.prog 7 eW:=⟨Tryz.underlying7,TyOk.of_info (by kernel_rfl),fun h=>(by cases h),fun τ h=>(by cases h)⟩
def fW:Ty:=⟨.struct #[⟨"x",2,0,false, "", "runtime",0⟩,⟨"y",3,1,false, "", "runtime",8⟩,⟨"signed",4,2,false, "", "runtime",16⟩,⟨"code",6,3,false, "", "runtime",17⟩],4,24,(.agg #[(.int .i64 0),(.int .i64 0),(.bool false),(.int .u8 0)]),false,none⟩
theorem zS:TyOk Tryz.prog 8 fW:=⟨Tryz.underlying8,TyOk.of_info (by kernel_rfl),fun h=>(by cases h),fun τ h=>(by cases h)⟩
def gW:Ty:=⟨.string,1,16,(.string ⟨#[]⟩),false,some .str⟩
theorem AS:TyOk Tryz.prog 9 gW:=⟨Tryz.underlying9,TyOk.of_info (by kernel_rfl),fun h=>(by cases h),fun τ h=>(by cases h;exact ⟨by kernel_rfl,string_law Tryz.underlying9,mP Tryz.underlying9⟩)⟩
def uT:Ty:=⟨.string,1,16,(.string ⟨#[]⟩),false,none⟩
theorem CP:TyOk Tryz.prog 10 uT:=⟨Tryz.underlying10,TyOk.of_info (by kernel_rfl),fun h=>(by cases h),fun τ h=>(by cases h)⟩
def vT:Ty:=⟨.string,1,16,(.string ⟨#[]⟩),false,none⟩
theorem DP:TyOk Tryz.prog 11 vT:=⟨Tryz.underlying11,TyOk.of_info (by kernel_rfl),fun h=>(by cases h),fun τ h=>(by cases h)⟩
def wT:Ty:=⟨.int .u64,1,8,(.int .u64 0),false,none⟩
theorem EP:TyOk Tryz.prog 12 wT:=⟨Tryz.underlying12,TyOk.of_info (by kernel_rfl),fun h=>(by cases h),fun τ h=>(by cases h)⟩
def xT:Ty:=⟨.struct #[⟨"msg",9,0,false, "", "runtime",0⟩,⟨"addr",12,1,false, "", "runtime",16⟩],2,24,(.agg #[(.string ⟨#[]⟩),(.int .u64 0)]),false,none⟩
theorem FP:TyOk Tryz.prog 13 xT:=⟨Tryz.underlying13,TyOk.of_info (by kernel_rfl),fun h=>(by cases h),fun τ h=>(by cases h)⟩
def yT:Ty:=⟨.struct #[⟨"msg",9,0,false, "", "runtime",0⟩,⟨"addr",12,1,false, "", "runtime",16⟩],2,24,(.agg #[(.string ⟨#[]⟩),(.int .u64 0)]),false,none⟩
theorem GP:TyOk Tryz.prog 14 yT:=⟨Tryz.underlying14,TyOk.of_info (by kernel_rfl),fun h=>(by cases h),fun τ h=>(by cases h)⟩
def zT:Ty:=⟨.pointer 304,1,8,(.pointer none),false,none⟩
theorem IP:TyOk Tryz.prog 15 zT:=⟨Tryz.underlying15,TyOk.of_info (by kernel_rfl),fun h=>(by cases h),fun τ h=>(by cases h)⟩
def BT:Ty:=⟨.pointer 307,1,8,(.pointer none),false,none⟩
theorem JP:TyOk Tryz.prog 16 BT:=⟨Tryz.underlying16,TyOk.of_info (by kernel_rfl),fun h=>(by cases h),fun τ h=>(by cases h)⟩
def DT:Ty:=⟨.pointer 315,1,8,(.pointer none),false,none⟩
theorem KP:TyOk Tryz.prog 17 DT:=⟨Tryz.underlying17,TyOk.of_info (by kernel_rfl),fun h=>(by cases h),fun τ h=>(by cases h)⟩
def ET:Ty:=⟨.struct #[⟨"typ",17,0,false, "", "internal/runtime/maps",0⟩],1,8,(.agg #[(.pointer none)]),false,none⟩
theorem LP:TyOk Tryz.prog 18 ET:=⟨Tryz.underlying18,TyOk.of_info (by kernel_rfl),fun h=>(by cases h),fun τ h=>(by cases h)⟩
def FT:Ty:=⟨.struct #[⟨"typ",17,0,false, "", "internal/runtime/maps",0⟩],1,8,(.agg #[(.pointer none)]),false,none⟩
theorem MP:TyOk Tryz.prog 19 FT:=⟨Tryz.underlying19,TyOk.of_info (by kernel_rfl),fun h=>(by cases h),fun τ h=>(by cases h)⟩
def GT:Ty:=⟨.interface #[],1,16,.nilIface,false,none⟩
theorem NP:TyOk Tryz.prog 20 GT:=⟨Tryz.underlying20,TyOk.of_info (by kernel_rfl),fun h=>(by cases h),fun τ h=>(by cases h)⟩
def HT:Ty:=⟨.int .i32,1,4,(.int .i32 0),false,none⟩
theorem OP:TyOk Tryz.prog 21 HT:=⟨Tryz.underlying21,TyOk.of_info (by kernel_rfl),fun h=>(by cases h),fun τ h=>(by cases h)⟩
def IT:Ty:=⟨.slice 59,1,24,(.slice none 0 0),false,none⟩
theorem PP:TyOk Tryz.prog 22 IT:=⟨Tryz.underlying22,TyOk.of_info (by kernel_rfl),fun h=>(by cases h),fun τ h=>(by cases h)⟩
def JT:Ty:=⟨.struct #[⟨"Next",3,0,false, "", "",0⟩,⟨"Mails",22,1,false, "", "",8⟩],2,32,(.agg #[(.int .i64 0),(.slice none 0 0)]),false,none⟩
theorem QP:TyOk Tryz.prog 23 JT:=⟨Tryz.underlying23,TyOk.of_info (by kernel_rfl),fun h=>(by cases h),fun τ h=>(by cases h)⟩
def KT:Ty:=⟨.struct #[⟨"Next",3,0,false, "", "",0⟩,⟨"Mails",22,1,false, "", "",8⟩],2,32,(.agg #[(.int .i64 0),(.slice none 0 0)]),false,none⟩
theorem RP:TyOk Tryz.prog 24 KT:=⟨Tryz.underlying24,TyOk.of_info (by kernel_rfl),fun h=>(by cases h),fun τ h=>(by cases h)⟩
def LT:Ty:=⟨.slice 89,1,24,(.slice none 0 0),false,none⟩
theorem SP:TyOk Tryz.prog 25 LT:=⟨Tryz.underlying25,TyOk.of_info (by kernel_rfl),fun h=>(by cases h),fun τ h=>(by cases h)⟩
def MT:Ty:=⟨.slice 3,1,24,(.slice none 0 0),false,none⟩
theorem TP:TyOk Tryz.prog 26 MT:=⟨Tryz.underlying26,TyOk.of_info (by kernel_rfl),fun h=>(by cases h),fun τ h=>(by cases h)⟩
def NT:Ty:=⟨.float .f64,1,8,(.float .f64 0),false,none⟩
theorem UP:TyOk Tryz.prog 27 NT:=⟨Tryz.underlying27,TyOk.of_info (by kernel_rfl),fun h=>(by cases h),fun τ h=>(by cases h)⟩
def OT:Ty:=⟨.struct #[⟨"Tenants",25,0,false, "", "",0⟩,⟨"Host",9,1,false, "", "",24⟩,⟨"Grey",3,2,false, "", "",40⟩,⟨"Expire",3,3,false, "", "",48⟩,⟨"Backoff",26,4,false, "", "",56⟩,⟨"Fails",3,5,false, "", "",80⟩,⟨"Pause",3,6,false, "", "",88⟩,⟨"Floor",27,7,false, "", "",96⟩],8,104,(.agg #[(.slice none 0 0),(.string ⟨#[]⟩),(.int .i64 0),(.int .i64 0),(.slice none 0 0),(.int .i64 0),(.int .i64 0),(.float .f64 0)]),false,none⟩
theorem VP:TyOk Tryz.prog 28 OT:=⟨Tryz.underlying28,TyOk.of_info (by kernel_rfl),fun h=>(by cases h),fun τ h=>(by cases h)⟩
def PT:Ty:=⟨.struct #[⟨"Tenants",25,0,false, "", "",0⟩,⟨"Host",9,1,false, "", "",24⟩,⟨"Grey",3,2,false, "", "",40⟩,⟨"Expire",3,3,false, "", "",48⟩,⟨"Backoff",26,4,false, "", "",56⟩,⟨"Fails",3,5,false, "", "",80⟩,⟨"Pause",3,6,false, "", "",88⟩,⟨"Floor",27,7,false, "", "",96⟩],8,104,(.agg #[(.slice none 0 0),(.string ⟨#[]⟩),(.int .i64 0),(.int .i64 0),(.slice none 0 0),(.int .i64 0),(.int .i64 0),(.float .f64 0)]),false,none⟩
theorem WP:TyOk Tryz.prog 29 PT:=⟨Tryz.underlying29,TyOk.of_info (by kernel_rfl),fun h=>(by cases h),fun τ h=>(by cases h)⟩
def QT:Ty:=⟨.slice 70,1,24,(.slice none 0 0),false,none⟩
theorem XP:TyOk Tryz.prog 30 QT:=⟨Tryz.underlying30,TyOk.of_info (by kernel_rfl),fun h=>(by cases h),fun τ h=>(by cases h)⟩
def ST:Ty:=⟨.slice 9,1,24,(.slice none 0 0),false,none⟩
theorem YP:TyOk Tryz.prog 31 ST:=⟨Tryz.underlying31,TyOk.of_info (by kernel_rfl),fun h=>(by cases h),fun τ h=>(by cases h)⟩
def TT:Ty:=⟨.struct #[⟨"Mail",3,0,false, "", "",0⟩,⟨"Tenant",3,1,false, "", "",8⟩,⟨"Domain",9,2,false, "", "",16⟩,⟨"Rcpts",26,3,false, "", "",32⟩],4,56,(.agg #[(.int .i64 0),(.int .i64 0),(.string ⟨#[]⟩),(.slice none 0 0)]),false,none⟩
theorem ZP:TyOk Tryz.prog 32 TT:=⟨Tryz.underlying32,TyOk.of_info (by kernel_rfl),fun h=>(by cases h),fun τ h=>(by cases h)⟩
def UT:Ty:=⟨.struct #[⟨"Mail",3,0,false, "", "",0⟩,⟨"Tenant",3,1,false, "", "",8⟩,⟨"Domain",9,2,false, "", "",16⟩,⟨"Rcpts",26,3,false, "", "",32⟩],4,56,(.agg #[(.int .i64 0),(.int .i64 0),(.string ⟨#[]⟩),(.slice none 0 0)]),false,none⟩
theorem aQ:TyOk Tryz.prog 33 UT:=⟨Tryz.underlying33,TyOk.of_info (by kernel_rfl),fun h=>(by cases h),fun τ h=>(by cases h)⟩
def VT:Ty:=⟨.struct #[⟨"S",24,0,false, "", "",0⟩,⟨"C",29,2,false, "", "",32⟩,⟨"Hosts",30,10,false, "", "",136⟩,⟨"Busy",31,11,false, "", "",160⟩,⟨"Now",3,12,false, "", "",184⟩,⟨"J",33,13,false, "", "",192⟩,⟨"Codes",26,17,false, "", "",248⟩,⟨"Which",3,18,false, "", "",272⟩],19,280,(.agg #[(.int .i64 0),(.slice none 0 0),(.slice none 0 0),(.string ⟨#[]⟩),(.int .i64 0),(.int .i64 0),(.slice none 0 0),(.int .i64 0),(.int .i64 0),(.float .f64 0),(.slice none 0 0),(.slice none 0 0),(.int .i64 0),(.int .i64 0),(.int .i64 0),(.string ⟨#[]⟩),(.slice none 0 0),(.slice none 0 0),(.int .i64 0)]),false,none⟩
theorem bQ:TyOk Tryz.prog 34 VT:=⟨Tryz.underlying34,TyOk.of_info (by kernel_rfl),fun h=>(by cases h),fun τ h=>(by cases h)⟩
def WT:Ty:=⟨.struct #[⟨"S",24,0,false, "", "",0⟩,⟨"C",29,2,false, "", "",32⟩,⟨"Hosts",30,10,false, "", "",136⟩,⟨"Busy",31,11,false, "", "",160⟩,⟨"Now",3,12,false, "", "",184⟩,⟨"J",33,13,false, "", "",192⟩,⟨"Codes",26,17,false, "", "",248⟩,⟨"Which",3,18,false, "", "",272⟩],19,280,(.agg #[(.int .i64 0),(.slice none 0 0),(.slice none 0 0),(.string ⟨#[]⟩),(.int .i64 0),(.int .i64 0),(.slice none 0 0),(.int .i64 0),(.int .i64 0),(.float .f64 0),(.slice none 0 0),(.slice none 0 0),(.int .i64 0),(.int .i64 0),(.int .i64 0),(.string ⟨#[]⟩),(.slice none 0 0),(.slice none 0 0),(.int .i64 0)]),false,none⟩
theorem cQ:TyOk Tryz.prog 35 WT:=⟨Tryz.underlying35,TyOk.of_info (by kernel_rfl),fun h=>(by cases h),fun τ h=>(by cases h)⟩
def XT:Ty:=⟨.slice 33,1,24,(.slice none 0 0),false,none⟩
theorem dQ:TyOk Tryz.prog 38 XT:=⟨Tryz.underlying38,TyOk.of_info (by kernel_rfl),fun h=>(by cases h),fun τ h=>(by cases h)⟩
def YT:Ty:=⟨.int .i64,1,8,(.int .i64 0),false,none⟩
theorem eQ:TyOk Tryz.prog 39 YT:=⟨Tryz.underlying39,TyOk.of_info (by kernel_rfl),fun h=>(by cases h),fun τ h=>(by cases h)⟩
def ZT:Ty:=⟨.struct #[⟨"Local",9,0,false, "", "",0⟩,⟨"Domain",9,1,false, "", "",16⟩],2,32,(.agg #[(.string ⟨#[]⟩),(.string ⟨#[]⟩)]),false,none⟩
theorem fQ:TyOk Tryz.prog 55 ZT:=⟨Tryz.underlying55,TyOk.of_info (by kernel_rfl),fun h=>(by cases h),fun τ h=>(by cases h)⟩
def aU:Ty:=⟨.struct #[⟨"Local",9,0,false, "", "",0⟩,⟨"Domain",9,1,false, "", "",16⟩],2,32,(.agg #[(.string ⟨#[]⟩),(.string ⟨#[]⟩)]),true,some (.pair .str (.pair .str .unit))⟩
theorem gQ:TyOk Tryz.prog 56 aU:=⟨Tryz.underlying56,TyOk.of_info (by kernel_rfl),fun _=>⟨by kernel_rfl,by kernel_rfl,by kernel_rfl⟩,fun τ h=>(by cases h;exact ⟨by kernel_rfl,deep_law_laid aT (m:=2) (by omega) (of_decide_eq_true (by kernel_rfl)) (by kernel_rfl) (by kernel_rfl),XM Tryz.underlying56 (by kernel_rfl) Tryz.underlying9 Tryz.underlying9⟩)⟩
def bU:Ty:=⟨.slice 62,1,24,(.slice none 0 0),false,none⟩
theorem iQ:TyOk Tryz.prog 57 bU:=⟨Tryz.underlying57,TyOk.of_info (by kernel_rfl),fun h=>(by cases h),fun τ h=>(by cases h)⟩
def cU:Ty:=⟨.struct #[⟨"ID",3,0,false, "", "",0⟩,⟨"Tenant",3,1,false, "", "",8⟩,⟨"Null",4,2,false, "", "",16⟩,⟨"From",56,3,false, "", "",24⟩,⟨"Rcpts",57,5,false, "", "",56⟩,⟨"Body",9,6,false, "", "",80⟩,⟨"Born",3,7,false, "", "",96⟩,⟨"Held",4,8,false, "", "",104⟩,⟨"Told",4,9,false, "", "",105⟩],10,112,(.agg #[(.int .i64 0),(.int .i64 0),(.bool false),(.string ⟨#[]⟩),(.string ⟨#[]⟩),(.slice none 0 0),(.string ⟨#[]⟩),(.int .i64 0),(.bool false),(.bool false)]),false,none⟩
theorem jQ:TyOk Tryz.prog 58 cU:=⟨Tryz.underlying58,TyOk.of_info (by kernel_rfl),fun h=>(by cases h),fun τ h=>(by cases h)⟩
def dU:Ty:=⟨.struct #[⟨"ID",3,0,false, "", "",0⟩,⟨"Tenant",3,1,false, "", "",8⟩,⟨"Null",4,2,false, "", "",16⟩,⟨"From",56,3,false, "", "",24⟩,⟨"Rcpts",57,5,false, "", "",56⟩,⟨"Body",9,6,false, "", "",80⟩,⟨"Born",3,7,false, "", "",96⟩,⟨"Held",4,8,false, "", "",104⟩,⟨"Told",4,9,false, "", "",105⟩],10,112,(.agg #[(.int .i64 0),(.int .i64 0),(.bool false),(.string ⟨#[]⟩),(.string ⟨#[]⟩),(.slice none 0 0),(.string ⟨#[]⟩),(.int .i64 0),(.bool false),(.bool false)]),false,none⟩
theorem kQ:TyOk Tryz.prog 59 dU:=⟨Tryz.underlying59,TyOk.of_info (by kernel_rfl),fun h=>(by cases h),fun τ h=>(by cases h)⟩
def eU:Ty:=⟨.struct #[⟨"Box",56,0,false, "", "",0⟩,⟨"Status",3,2,false, "", "",32⟩,⟨"Attempts",3,3,false, "", "",40⟩,⟨"Next",3,4,false, "", "",48⟩,⟨"Code",3,5,false, "", "",56⟩],6,64,(.agg #[(.string ⟨#[]⟩),(.string ⟨#[]⟩),(.int .i64 0),(.int .i64 0),(.int .i64 0),(.int .i64 0)]),false,none⟩
theorem lQ:TyOk Tryz.prog 61 eU:=⟨Tryz.underlying61,TyOk.of_info (by kernel_rfl),fun h=>(by cases h),fun τ h=>(by cases h)⟩
def fU:Ty:=⟨.struct #[⟨"Box",56,0,false, "", "",0⟩,⟨"Status",3,2,false, "", "",32⟩,⟨"Attempts",3,3,false, "", "",40⟩,⟨"Next",3,4,false, "", "",48⟩,⟨"Code",3,5,false, "", "",56⟩],6,64,(.agg #[(.string ⟨#[]⟩),(.string ⟨#[]⟩),(.int .i64 0),(.int .i64 0),(.int .i64 0),(.int .i64 0)]),true,none⟩
theorem mQ:TyOk Tryz.prog 62 fU:=⟨Tryz.underlying62,TyOk.of_info (by kernel_rfl),fun _=>⟨by kernel_rfl,by kernel_rfl,by kernel_rfl⟩,fun τ h=>(by cases h)⟩
def gU:Ty:=⟨.struct #[⟨"Score",27,0,false, "", "",0⟩,⟨"Count",3,1,false, "", "",8⟩],2,16,(.agg #[(.float .f64 0),(.int .i64 0)]),false,none⟩
theorem nQ:TyOk Tryz.prog 64 gU:=⟨Tryz.underlying64,TyOk.of_info (by kernel_rfl),fun h=>(by cases h),fun τ h=>(by cases h)⟩
def iU:Ty:=⟨.struct #[⟨"Score",27,0,false, "", "",0⟩,⟨"Count",3,1,false, "", "",8⟩],2,16,(.agg #[(.float .f64 0),(.int .i64 0)]),true,none⟩
theorem oQ:TyOk Tryz.prog 65 iU:=⟨Tryz.underlying65,TyOk.of_info (by kernel_rfl),fun _=>⟨by kernel_rfl,by kernel_rfl,by kernel_rfl⟩,fun τ h=>(by cases h)⟩
def jU:Ty:=⟨.struct #[⟨"State",3,0,false, "", "",0⟩,⟨"Fails",3,1,false, "", "",8⟩,⟨"Until",3,2,false, "", "",16⟩,⟨"Health",65,3,false, "", "",24⟩],5,40,(.agg #[(.int .i64 0),(.int .i64 0),(.int .i64 0),(.float .f64 0),(.int .i64 0)]),false,none⟩
theorem pQ:TyOk Tryz.prog 67 jU:=⟨Tryz.underlying67,TyOk.of_info (by kernel_rfl),fun h=>(by cases h),fun τ h=>(by cases h)⟩
def kU:Ty:=⟨.struct #[⟨"State",3,0,false, "", "",0⟩,⟨"Fails",3,1,false, "", "",8⟩,⟨"Until",3,2,false, "", "",16⟩,⟨"Health",65,3,false, "", "",24⟩],5,40,(.agg #[(.int .i64 0),(.int .i64 0),(.int .i64 0),(.float .f64 0),(.int .i64 0)]),true,none⟩
theorem qQ:TyOk Tryz.prog 68 kU:=⟨Tryz.underlying68,TyOk.of_info (by kernel_rfl),fun _=>⟨by kernel_rfl,by kernel_rfl,by kernel_rfl⟩,fun τ h=>(by cases h)⟩
def lU:Ty:=⟨.struct #[⟨"Domain",9,0,false, "", "",0⟩,⟨"Breaker",68,1,false, "", "",16⟩],6,56,(.agg #[(.string ⟨#[]⟩),(.int .i64 0),(.int .i64 0),(.int .i64 0),(.float .f64 0),(.int .i64 0)]),false,none⟩
theorem rQ:TyOk Tryz.prog 69 lU:=⟨Tryz.underlying69,TyOk.of_info (by kernel_rfl),fun h=>(by cases h),fun τ h=>(by cases h)⟩
def mU:Ty:=⟨.struct #[⟨"Domain",9,0,false, "", "",0⟩,⟨"Breaker",68,1,false, "", "",16⟩],6,56,(.agg #[(.string ⟨#[]⟩),(.int .i64 0),(.int .i64 0),(.int .i64 0),(.float .f64 0),(.int .i64 0)]),true,none⟩
theorem sQ:TyOk Tryz.prog 70 mU:=⟨Tryz.underlying70,TyOk.of_info (by kernel_rfl),fun _=>⟨by kernel_rfl,by kernel_rfl,by kernel_rfl⟩,fun τ h=>(by cases h)⟩
def nU:Ty:=⟨.slice 5,1,24,(.slice none 0 0),false,none⟩
theorem tQ:TyOk Tryz.prog 71 nU:=⟨Tryz.underlying71,TyOk.of_info (by kernel_rfl),fun h=>(by cases h),fun τ h=>(by cases h)⟩
def oU:Ty:=⟨.slice 26,1,24,(.slice none 0 0),false,none⟩
theorem uQ:TyOk Tryz.prog 73 oU:=⟨Tryz.underlying73,TyOk.of_info (by kernel_rfl),fun h=>(by cases h),fun τ h=>(by cases h)⟩
def pU:Ty:=⟨.slice 82,1,24,(.slice none 0 0),false,none⟩
theorem vQ:TyOk Tryz.prog 75 pU:=⟨Tryz.underlying75,TyOk.of_info (by kernel_rfl),fun h=>(by cases h),fun τ h=>(by cases h)⟩
def qU:Ty:=⟨.struct #[⟨"S",24,0,false, "", "",0⟩,⟨"C",29,2,false, "", "",32⟩,⟨"L",75,10,false, "", "",136⟩],11,160,(.agg #[(.int .i64 0),(.slice none 0 0),(.slice none 0 0),(.string ⟨#[]⟩),(.int .i64 0),(.int .i64 0),(.slice none 0 0),(.int .i64 0),(.int .i64 0),(.float .f64 0),(.slice none 0 0)]),false,none⟩
theorem wQ:TyOk Tryz.prog 76 qU:=⟨Tryz.underlying76,TyOk.of_info (by kernel_rfl),fun h=>(by cases h),fun τ h=>(by cases h)⟩
def rU:Ty:=⟨.struct #[⟨"S",24,0,false, "", "",0⟩,⟨"C",29,2,false, "", "",32⟩,⟨"L",75,10,false, "", "",136⟩],11,160,(.agg #[(.int .i64 0),(.slice none 0 0),(.slice none 0 0),(.string ⟨#[]⟩),(.int .i64 0),(.int .i64 0),(.slice none 0 0),(.int .i64 0),(.int .i64 0),(.float .f64 0),(.slice none 0 0)]),false,none⟩
theorem xQ:TyOk Tryz.prog 77 rU:=⟨Tryz.underlying77,TyOk.of_info (by kernel_rfl),fun h=>(by cases h),fun τ h=>(by cases h)⟩
def sU:Ty:=⟨.struct #[⟨"Do",3,0,false, "", "",0⟩,⟨"N",3,1,false, "", "",8⟩,⟨"ID",3,2,false, "", "",16⟩,⟨"M",59,3,false, "", "",24⟩,⟨"Fit",4,13,false, "", "",136⟩],14,144,(.agg #[(.int .i64 0),(.int .i64 0),(.int .i64 0),(.int .i64 0),(.int .i64 0),(.bool false),(.string ⟨#[]⟩),(.string ⟨#[]⟩),(.slice none 0 0),(.string ⟨#[]⟩),(.int .i64 0),(.bool false),(.bool false),(.bool false)]),false,none⟩
theorem yQ:TyOk Tryz.prog 81 sU:=⟨Tryz.underlying81,TyOk.of_info (by kernel_rfl),fun h=>(by cases h),fun τ h=>(by cases h)⟩
def tU:Ty:=⟨.struct #[⟨"Do",3,0,false, "", "",0⟩,⟨"N",3,1,false, "", "",8⟩,⟨"ID",3,2,false, "", "",16⟩,⟨"M",59,3,false, "", "",24⟩,⟨"Fit",4,13,false, "", "",136⟩],14,144,(.agg #[(.int .i64 0),(.int .i64 0),(.int .i64 0),(.int .i64 0),(.int .i64 0),(.bool false),(.string ⟨#[]⟩),(.string ⟨#[]⟩),(.slice none 0 0),(.string ⟨#[]⟩),(.int .i64 0),(.bool false),(.bool false),(.bool false)]),false,none⟩
theorem zQ:TyOk Tryz.prog 82 tU:=⟨Tryz.underlying82,TyOk.of_info (by kernel_rfl),fun h=>(by cases h),fun τ h=>(by cases h)⟩
def uU:Ty:=⟨.struct #[⟨"Level",3,0,false, "", "",0⟩,⟨"Cap",3,1,false, "", "",8⟩,⟨"Fill",3,2,false, "", "",16⟩,⟨"Every",3,3,false, "", "",24⟩,⟨"Due",3,4,false, "", "",32⟩],5,40,(.agg #[(.int .i64 0),(.int .i64 0),(.int .i64 0),(.int .i64 0),(.int .i64 0)]),false,none⟩
theorem AQ:TyOk Tryz.prog 86 uU:=⟨Tryz.underlying86,TyOk.of_info (by kernel_rfl),fun h=>(by cases h),fun τ h=>(by cases h)⟩
def vU:Ty:=⟨.struct #[⟨"Level",3,0,false, "", "",0⟩,⟨"Cap",3,1,false, "", "",8⟩,⟨"Fill",3,2,false, "", "",16⟩,⟨"Every",3,3,false, "", "",24⟩,⟨"Due",3,4,false, "", "",32⟩],5,40,(.agg #[(.int .i64 0),(.int .i64 0),(.int .i64 0),(.int .i64 0),(.int .i64 0)]),true,none⟩
theorem BQ:TyOk Tryz.prog 87 vU:=⟨Tryz.underlying87,TyOk.of_info (by kernel_rfl),fun _=>⟨by kernel_rfl,by kernel_rfl,by kernel_rfl⟩,fun τ h=>(by cases h)⟩
def wU:Ty:=⟨.struct #[⟨"Name",9,0,false, "", "",0⟩,⟨"Bytes",3,1,false, "", "",16⟩,⟨"Count",3,2,false, "", "",24⟩,⟨"Quantum",3,3,false, "", "",32⟩,⟨"Rate",87,4,false, "", "",40⟩,⟨"Lmtp",4,9,false, "", "",80⟩],10,88,(.agg #[(.string ⟨#[]⟩),(.int .i64 0),(.int .i64 0),(.int .i64 0),(.int .i64 0),(.int .i64 0),(.int .i64 0),(.int .i64 0),(.int .i64 0),(.bool false)]),false,none⟩
theorem CQ:TyOk Tryz.prog 88 wU:=⟨Tryz.underlying88,TyOk.of_info (by kernel_rfl),fun h=>(by cases h),fun τ h=>(by cases h)⟩
def xU:Ty:=⟨.struct #[⟨"Name",9,0,false, "", "",0⟩,⟨"Bytes",3,1,false, "", "",16⟩,⟨"Count",3,2,false, "", "",24⟩,⟨"Quantum",3,3,false, "", "",32⟩,⟨"Rate",87,4,false, "", "",40⟩,⟨"Lmtp",4,9,false, "", "",80⟩],10,88,(.agg #[(.string ⟨#[]⟩),(.int .i64 0),(.int .i64 0),(.int .i64 0),(.int .i64 0),(.int .i64 0),(.int .i64 0),(.int .i64 0),(.int .i64 0),(.bool false)]),true,none⟩
theorem DQ:TyOk Tryz.prog 89 xU:=⟨Tryz.underlying89,TyOk.of_info (by kernel_rfl),fun _=>⟨by kernel_rfl,by kernel_rfl,by kernel_rfl⟩,fun τ h=>(by cases h)⟩
def jR:Ty:=⟨.struct #[⟨"S",24,0,false, "", "",0⟩,⟨"C",29,2,false, "", "",32⟩,⟨"L",31,10,false, "", "",136⟩],11,160,(.agg #[(.int .i64 0),(.slice none 0 0),(.slice none 0 0),(.string ⟨#[]⟩),(.int .i64 0),(.int .i64 0),(.slice none 0 0),(.int .i64 0),(.int .i64 0),(.float .f64 0),(.slice none 0 0)]),false,none⟩
theorem pN:TyOk Tryz.prog 103 jR:=⟨Tryz.underlying103,TyOk.of_info (by kernel_rfl),fun h=>(by cases h),fun τ h=>(by cases h)⟩
def kR:Ty:=⟨.struct #[⟨"S",24,0,false, "", "",0⟩,⟨"C",29,2,false, "", "",32⟩,⟨"L",31,10,false, "", "",136⟩],11,160,(.agg #[(.int .i64 0),(.slice none 0 0),(.slice none 0 0),(.string ⟨#[]⟩),(.int .i64 0),(.int .i64 0),(.slice none 0 0),(.int .i64 0),(.int .i64 0),(.float .f64 0),(.slice none 0 0)]),false,none⟩
theorem qN:TyOk Tryz.prog 104 kR:=⟨Tryz.underlying104,TyOk.of_info (by kernel_rfl),fun h=>(by cases h),fun τ h=>(by cases h)⟩
def lR:Ty:=⟨.int .u64,1,8,(.int .u64 0),false,none⟩
theorem rN:TyOk Tryz.prog 131 lR:=⟨Tryz.underlying131,TyOk.of_info (by kernel_rfl),fun h=>(by cases h),fun τ h=>(by cases h)⟩
def mR:Ty:=⟨.pointer 59,1,8,(.pointer none),false,none⟩
theorem sN:TyOk Tryz.prog 141 mR:=⟨Tryz.underlying141,TyOk.of_info (by kernel_rfl),fun h=>(by cases h),fun τ h=>(by cases h)⟩
def nR:Ty:=⟨.pointer 62,1,8,(.pointer none),false,none⟩
theorem tN:TyOk Tryz.prog 144 nR:=⟨Tryz.underlying144,TyOk.of_info (by kernel_rfl),fun h=>(by cases h),fun τ h=>(by cases h)⟩
def oR:Ty:=⟨.map 9 4,1,8,(.map none),false,none⟩
theorem uN:TyOk Tryz.prog 148 oR:=⟨Tryz.underlying148,TyOk.of_info (by kernel_rfl),fun h=>(by cases h),fun τ h=>(by cases h)⟩
def pR:Ty:=⟨.array 4 3,4,32,(.agg #[(.int .i64 0),(.int .i64 0),(.int .i64 0),(.int .i64 0)]),false,none⟩
theorem vN:TyOk Tryz.prog 149 pR:=⟨Tryz.underlying149,TyOk.of_info (by kernel_rfl),fun h=>(by cases h),fun τ h=>(by cases h)⟩
def qR:Ty:=⟨.int .u64,1,8,(.int .u64 0),false,none⟩
theorem wN:TyOk Tryz.prog 161 qR:=⟨Tryz.underlying161,TyOk.of_info (by kernel_rfl),fun h=>(by cases h),fun τ h=>(by cases h)⟩
def rR:Ty:=⟨.pointer 39,1,8,(.pointer none),false,none⟩
theorem xN:TyOk Tryz.prog 180 rR:=⟨Tryz.underlying180,TyOk.of_info (by kernel_rfl),fun h=>(by cases h),fun τ h=>(by cases h)⟩
def sR:Ty:=⟨.pointer 183,1,8,(.pointer none),false,none⟩
theorem yN:TyOk Tryz.prog 181 sR:=⟨Tryz.underlying181,TyOk.of_info (by kernel_rfl),fun h=>(by cases h),fun τ h=>(by cases h)⟩
def tR:Ty:=⟨.struct #[⟨"s",24,0,false, "", "pouch/admin",0⟩,⟨"c",29,2,false, "", "pouch/admin",32⟩,⟨"told",31,10,false, "", "pouch/admin",136⟩],11,160,(.agg #[(.int .i64 0),(.slice none 0 0),(.slice none 0 0),(.string ⟨#[]⟩),(.int .i64 0),(.int .i64 0),(.slice none 0 0),(.int .i64 0),(.int .i64 0),(.float .f64 0),(.slice none 0 0)]),false,none⟩
theorem zN:TyOk Tryz.prog 182 tR:=⟨Tryz.underlying182,TyOk.of_info (by kernel_rfl),fun h=>(by cases h),fun τ h=>(by cases h)⟩
def uR:Ty:=⟨.struct #[⟨"s",24,0,false, "", "pouch/admin",0⟩,⟨"c",29,2,false, "", "pouch/admin",32⟩,⟨"told",31,10,false, "", "pouch/admin",136⟩],11,160,(.agg #[(.int .i64 0),(.slice none 0 0),(.slice none 0 0),(.string ⟨#[]⟩),(.int .i64 0),(.int .i64 0),(.slice none 0 0),(.int .i64 0),(.int .i64 0),(.float .f64 0),(.slice none 0 0)]),false,none⟩
theorem AN:TyOk Tryz.prog 183 uR:=⟨Tryz.underlying183,TyOk.of_info (by kernel_rfl),fun h=>(by cases h),fun τ h=>(by cases h)⟩
def vR:Ty:=⟨.map 56 4,1,8,(.map none),false,none⟩
theorem BN:TyOk Tryz.prog 195 vR:=⟨Tryz.underlying195,TyOk.of_info (by kernel_rfl),fun h=>(by cases h),fun τ h=>(by cases h)⟩
def wR:Ty:=⟨.struct #[⟨"e",39,0,false, "", "pouch/admin",0⟩],1,8,(.agg #[(.int .i64 0)]),false,none⟩
theorem CN:TyOk Tryz.prog 206 wR:=⟨Tryz.underlying206,TyOk.of_info (by kernel_rfl),fun h=>(by cases h),fun τ h=>(by cases h)⟩
def xR:Ty:=⟨.struct #[⟨"e",39,0,false, "", "pouch/admin",0⟩],1,8,(.agg #[(.int .i64 0)]),true,none⟩
theorem DN:TyOk Tryz.prog 207 xR:=⟨Tryz.underlying207,TyOk.of_info (by kernel_rfl),fun _=>⟨by kernel_rfl,by kernel_rfl,by kernel_rfl⟩,fun τ h=>(by cases h)⟩
def yR:Ty:=⟨.interface #[("Error",254)],1,16,.nilIface,false,none⟩
theorem EN:TyOk Tryz.prog 216 yR:=⟨Tryz.underlying216,TyOk.of_info (by kernel_rfl),fun h=>(by cases h),fun τ h=>(by cases h)⟩
def zR:Ty:=⟨.interface #[("Error",254)],1,16,.nilIface,false,none⟩
theorem FN:TyOk Tryz.prog 217 zR:=⟨Tryz.underlying217,TyOk.of_info (by kernel_rfl),fun h=>(by cases h),fun τ h=>(by cases h)⟩
def AR:Ty:=⟨.array 5 9,5,80,(.agg #[(.string ⟨#[]⟩),(.string ⟨#[]⟩),(.string ⟨#[]⟩),(.string ⟨#[]⟩),(.string ⟨#[]⟩)]),false,none⟩
theorem GN:TyOk Tryz.prog 232 AR:=⟨Tryz.underlying232,TyOk.of_info (by kernel_rfl),fun h=>(by cases h),fun τ h=>(by cases h)⟩
def BR:Ty:=⟨.pointer 89,1,8,(.pointer none),false,none⟩
theorem JN:TyOk Tryz.prog 235 BR:=⟨Tryz.underlying235,TyOk.of_info (by kernel_rfl),fun h=>(by cases h),fun τ h=>(by cases h)⟩
def DR:Ty:=⟨.struct #[⟨"e",39,0,false, "", "pouch/addr",0⟩],1,8,(.agg #[(.int .i64 0)]),false,none⟩
theorem KN:TyOk Tryz.prog 243 DR:=⟨Tryz.underlying243,TyOk.of_info (by kernel_rfl),fun h=>(by cases h),fun τ h=>(by cases h)⟩
def ER:Ty:=⟨.struct #[⟨"e",39,0,false, "", "pouch/addr",0⟩],1,8,(.agg #[(.int .i64 0)]),true,none⟩
theorem LN:TyOk Tryz.prog 244 ER:=⟨Tryz.underlying244,TyOk.of_info (by kernel_rfl),fun _=>⟨by kernel_rfl,by kernel_rfl,by kernel_rfl⟩,fun τ h=>(by cases h)⟩
def FR:Ty:=⟨.pointer 252,1,8,(.pointer none),false,none⟩
theorem MN:TyOk Tryz.prog 250 FR:=⟨Tryz.underlying250,TyOk.of_info (by kernel_rfl),fun h=>(by cases h),fun τ h=>(by cases h)⟩
def GR:Ty:=⟨.struct #[⟨"addr",250,0,false, "", "strings",0⟩,⟨"buf",71,1,false, "", "strings",8⟩],2,32,(.agg #[(.pointer none),(.slice none 0 0)]),false,none⟩
theorem NN:TyOk Tryz.prog 251 GR:=⟨Tryz.underlying251,TyOk.of_info (by kernel_rfl),fun h=>(by cases h),fun τ h=>(by cases h)⟩
def HR:Ty:=⟨.struct #[⟨"addr",250,0,false, "", "strings",0⟩,⟨"buf",71,1,false, "", "strings",8⟩],2,32,(.agg #[(.pointer none),(.slice none 0 0)]),false,none⟩
theorem ON:TyOk Tryz.prog 252 HR:=⟨Tryz.underlying252,TyOk.of_info (by kernel_rfl),fun h=>(by cases h),fun τ h=>(by cases h)⟩
def IR:Ty:=⟨.int .i64,1,8,(.int .i64 0),false,none⟩
theorem PN:TyOk Tryz.prog 257 IR:=⟨Tryz.underlying257,TyOk.of_info (by kernel_rfl),fun h=>(by cases h),fun τ h=>(by cases h)⟩
def JR:Ty:=⟨.pointer 277,1,8,(.pointer none),false,none⟩
theorem QN:TyOk Tryz.prog 260 JR:=⟨Tryz.underlying260,TyOk.of_info (by kernel_rfl),fun h=>(by cases h),fun τ h=>(by cases h)⟩
def KR:Ty:=⟨.array 24 5,24,24,(.agg #[(.int .u8 0),(.int .u8 0),(.int .u8 0),(.int .u8 0),(.int .u8 0),(.int .u8 0),(.int .u8 0),(.int .u8 0),(.int .u8 0),(.int .u8 0),(.int .u8 0),(.int .u8 0),(.int .u8 0),(.int .u8 0),(.int .u8 0),(.int .u8 0),(.int .u8 0),(.int .u8 0),(.int .u8 0),(.int .u8 0),(.int .u8 0),(.int .u8 0),(.int .u8 0),(.int .u8 0)]),false,none⟩
theorem RN:TyOk Tryz.prog 263 KR:=⟨Tryz.underlying263,TyOk.of_info (by kernel_rfl),fun h=>(by cases h),fun τ h=>(by cases h)⟩
def MR:Ty:=⟨.array 256 4,256,256,(.agg #[(.bool false),(.bool false),(.bool false),(.bool false),(.bool false),(.bool false),(.bool false),(.bool false),(.bool false),(.bool false),(.bool false),(.bool false),(.bool false),(.bool false),(.bool false),(.bool false),(.bool false),(.bool false),(.bool false),(.bool false),(.bool false),(.bool false),(.bool false),(.bool false),(.bool false),(.bool false),(.bool false),(.bool false),(.bool false),(.bool false),(.bool false),(.bool false),(.bool false),(.bool false),(.bool false),(.bool false),(.bool false),(.bool false),(.bool false),(.bool false),(.bool false),(.bool false),(.bool false),(.bool false),(.bool false),(.bool false),(.bool false),(.bool false),(.bool false),(.bool false),(.bool false),(.bool false),(.bool false),(.bool false),(.bool false),(.bool false),(.bool false),(.bool false),(.bool false),(.bool false),(.bool false),(.bool false),(.bool false),(.bool false),(.bool false),(.bool false),(.bool false),(.bool false),(.bool false),(.bool false),(.bool false),(.bool false),(.bool false),(.bool false),(.bool false),(.bool false),(.bool false),(.bool false),(.bool false),(.bool false),(.bool false),(.bool false),(.bool false),(.bool false),(.bool false),(.bool false),(.bool false),(.bool false),(.bool false),(.bool false),(.bool false),(.bool false),(.bool false),(.bool false),(.bool false),(.bool false),(.bool false),(.bool false),(.bool false),(.bool false),(.bool false),(.bool false),(.bool false),(.bool false),(.bool false),(.bool false),(.bool false),(.bool false),(.bool false),(.bool false),(.bool false),(.bool false),(.bool false),(.bool false),(.bool false),(.bool false),(.bool false),(.bool false),(.bool false),(.bool false),(.bool false),(.bool false),(.bool false),(.bool false),(.bool false),(.bool false),(.bool false),(.bool false),(.bool false),(.bool false),(.bool false),(.bool false),(.bool false),(.bool false),(.bool false),(.bool false),(.bool false),(.bool false),(.bool false),(.bool false),(.bool false),(.bool false),(.bool false),(.bool false),(.bool false),(.bool false),(.bool false),(.bool false),(.bool false),(.bool false),(.bool false),(.bool false),(.bool false),(.bool false),(.bool false),(.bool false),(.bool false),(.bool false),(.bool false),(.bool false),(.bool false),(.bool false),(.bool false),(.bool false),(.bool false),(.bool false),(.bool false),(.bool false),(.bool false),(.bool false),(.bool false),(.bool false),(.bool false),(.bool false),(.bool false),(.bool false),(.bool false),(.bool false),(.bool false),(.bool false),(.bool false),(.bool false),(.bool false),(.bool false),(.bool false),(.bool false),(.bool false),(.bool false),(.bool false),(.bool false),(.bool false),(.bool false),(.bool false),(.bool false),(.bool false),(.bool false),(.bool false),(.bool false),(.bool false),(.bool false),(.bool false),(.bool false),(.bool false),(.bool false),(.bool false),(.bool false),(.bool false),(.bool false),(.bool false),(.bool false),(.bool false),(.bool false),(.bool false),(.bool false),(.bool false),(.bool false),(.bool false),(.bool false),(.bool false),(.bool false),(.bool false),(.bool false),(.bool false),(.bool false),(.bool false),(.bool false),(.bool false),(.bool false),(.bool false),(.bool false),(.bool false),(.bool false),(.bool false),(.bool false),(.bool false),(.bool false),(.bool false),(.bool false),(.bool false),(.bool false),(.bool false),(.bool false),(.bool false),(.bool false),(.bool false),(.bool false),(.bool false),(.bool false),(.bool false),(.bool false),(.bool false),(.bool false),(.bool false),(.bool false),(.bool false),(.bool false)]),false,none⟩
theorem SN:TyOk Tryz.prog 269 MR:=⟨Tryz.underlying269,TyOk.of_info (by kernel_rfl),fun h=>(by cases h),fun τ h=>(by cases h)⟩
def NR:Ty:=⟨.array 256 4,256,256,(.agg #[(.bool false),(.bool false),(.bool false),(.bool false),(.bool false),(.bool false),(.bool false),(.bool false),(.bool false),(.bool false),(.bool false),(.bool false),(.bool false),(.bool false),(.bool false),(.bool false),(.bool false),(.bool false),(.bool false),(.bool false),(.bool false),(.bool false),(.bool false),(.bool false),(.bool false),(.bool false),(.bool false),(.bool false),(.bool false),(.bool false),(.bool false),(.bool false),(.bool false),(.bool false),(.bool false),(.bool false),(.bool false),(.bool false),(.bool false),(.bool false),(.bool false),(.bool false),(.bool false),(.bool false),(.bool false),(.bool false),(.bool false),(.bool false),(.bool false),(.bool false),(.bool false),(.bool false),(.bool false),(.bool false),(.bool false),(.bool false),(.bool false),(.bool false),(.bool false),(.bool false),(.bool false),(.bool false),(.bool false),(.bool false),(.bool false),(.bool false),(.bool false),(.bool false),(.bool false),(.bool false),(.bool false),(.bool false),(.bool false),(.bool false),(.bool false),(.bool false),(.bool false),(.bool false),(.bool false),(.bool false),(.bool false),(.bool false),(.bool false),(.bool false),(.bool false),(.bool false),(.bool false),(.bool false),(.bool false),(.bool false),(.bool false),(.bool false),(.bool false),(.bool false),(.bool false),(.bool false),(.bool false),(.bool false),(.bool false),(.bool false),(.bool false),(.bool false),(.bool false),(.bool false),(.bool false),(.bool false),(.bool false),(.bool false),(.bool false),(.bool false),(.bool false),(.bool false),(.bool false),(.bool false),(.bool false),(.bool false),(.bool false),(.bool false),(.bool false),(.bool false),(.bool false),(.bool false),(.bool false),(.bool false),(.bool false),(.bool false),(.bool false),(.bool false),(.bool false),(.bool false),(.bool false),(.bool false),(.bool false),(.bool false),(.bool false),(.bool false),(.bool false),(.bool false),(.bool false),(.bool false),(.bool false),(.bool false),(.bool false),(.bool false),(.bool false),(.bool false),(.bool false),(.bool false),(.bool false),(.bool false),(.bool false),(.bool false),(.bool false),(.bool false),(.bool false),(.bool false),(.bool false),(.bool false),(.bool false),(.bool false),(.bool false),(.bool false),(.bool false),(.bool false),(.bool false),(.bool false),(.bool false),(.bool false),(.bool false),(.bool false),(.bool false),(.bool false),(.bool false),(.bool false),(.bool false),(.bool false),(.bool false),(.bool false),(.bool false),(.bool false),(.bool false),(.bool false),(.bool false),(.bool false),(.bool false),(.bool false),(.bool false),(.bool false),(.bool false),(.bool false),(.bool false),(.bool false),(.bool false),(.bool false),(.bool false),(.bool false),(.bool false),(.bool false),(.bool false),(.bool false),(.bool false),(.bool false),(.bool false),(.bool false),(.bool false),(.bool false),(.bool false),(.bool false),(.bool false),(.bool false),(.bool false),(.bool false),(.bool false),(.bool false),(.bool false),(.bool false),(.bool false),(.bool false),(.bool false),(.bool false),(.bool false),(.bool false),(.bool false),(.bool false),(.bool false),(.bool false),(.bool false),(.bool false),(.bool false),(.bool false),(.bool false),(.bool false),(.bool false),(.bool false),(.bool false),(.bool false),(.bool false),(.bool false),(.bool false),(.bool false),(.bool false),(.bool false),(.bool false),(.bool false),(.bool false),(.bool false),(.bool false),(.bool false),(.bool false),(.bool false),(.bool false),(.bool false),(.bool false),(.bool false),(.bool false),(.bool false)]),false,none⟩
theorem TN:TyOk Tryz.prog 270 NR:=⟨Tryz.underlying270,TyOk.of_info (by kernel_rfl),fun h=>(by cases h),fun τ h=>(by cases h)⟩
def OR:Ty:=⟨.pointer 5,1,8,(.pointer none),false,none⟩
theorem UN:TyOk Tryz.prog 273 OR:=⟨Tryz.underlying273,TyOk.of_info (by kernel_rfl),fun h=>(by cases h),fun τ h=>(by cases h)⟩
def PR:Ty:=⟨.struct #[⟨"Func",9,0,false, "", "",0⟩,⟨"Num",9,1,false, "", "",16⟩,⟨"Err",217,2,false, "", "",32⟩],3,48,(.agg #[(.string ⟨#[]⟩),(.string ⟨#[]⟩),.nilIface]),false,none⟩
theorem VN:TyOk Tryz.prog 276 PR:=⟨Tryz.underlying276,TyOk.of_info (by kernel_rfl),fun h=>(by cases h),fun τ h=>(by cases h)⟩
def QR:Ty:=⟨.struct #[⟨"Func",9,0,false, "", "",0⟩,⟨"Num",9,1,false, "", "",16⟩,⟨"Err",217,2,false, "", "",32⟩],3,48,(.agg #[(.string ⟨#[]⟩),(.string ⟨#[]⟩),.nilIface]),false,none⟩
theorem WN:TyOk Tryz.prog 277 QR:=⟨Tryz.underlying277,TyOk.of_info (by kernel_rfl),fun h=>(by cases h),fun τ h=>(by cases h)⟩
def RR:Ty:=⟨.array 256 5,256,256,(.agg #[(.int .u8 0),(.int .u8 0),(.int .u8 0),(.int .u8 0),(.int .u8 0),(.int .u8 0),(.int .u8 0),(.int .u8 0),(.int .u8 0),(.int .u8 0),(.int .u8 0),(.int .u8 0),(.int .u8 0),(.int .u8 0),(.int .u8 0),(.int .u8 0),(.int .u8 0),(.int .u8 0),(.int .u8 0),(.int .u8 0),(.int .u8 0),(.int .u8 0),(.int .u8 0),(.int .u8 0),(.int .u8 0),(.int .u8 0),(.int .u8 0),(.int .u8 0),(.int .u8 0),(.int .u8 0),(.int .u8 0),(.int .u8 0),(.int .u8 0),(.int .u8 0),(.int .u8 0),(.int .u8 0),(.int .u8 0),(.int .u8 0),(.int .u8 0),(.int .u8 0),(.int .u8 0),(.int .u8 0),(.int .u8 0),(.int .u8 0),(.int .u8 0),(.int .u8 0),(.int .u8 0),(.int .u8 0),(.int .u8 0),(.int .u8 0),(.int .u8 0),(.int .u8 0),(.int .u8 0),(.int .u8 0),(.int .u8 0),(.int .u8 0),(.int .u8 0),(.int .u8 0),(.int .u8 0),(.int .u8 0),(.int .u8 0),(.int .u8 0),(.int .u8 0),(.int .u8 0),(.int .u8 0),(.int .u8 0),(.int .u8 0),(.int .u8 0),(.int .u8 0),(.int .u8 0),(.int .u8 0),(.int .u8 0),(.int .u8 0),(.int .u8 0),(.int .u8 0),(.int .u8 0),(.int .u8 0),(.int .u8 0),(.int .u8 0),(.int .u8 0),(.int .u8 0),(.int .u8 0),(.int .u8 0),(.int .u8 0),(.int .u8 0),(.int .u8 0),(.int .u8 0),(.int .u8 0),(.int .u8 0),(.int .u8 0),(.int .u8 0),(.int .u8 0),(.int .u8 0),(.int .u8 0),(.int .u8 0),(.int .u8 0),(.int .u8 0),(.int .u8 0),(.int .u8 0),(.int .u8 0),(.int .u8 0),(.int .u8 0),(.int .u8 0),(.int .u8 0),(.int .u8 0),(.int .u8 0),(.int .u8 0),(.int .u8 0),(.int .u8 0),(.int .u8 0),(.int .u8 0),(.int .u8 0),(.int .u8 0),(.int .u8 0),(.int .u8 0),(.int .u8 0),(.int .u8 0),(.int .u8 0),(.int .u8 0),(.int .u8 0),(.int .u8 0),(.int .u8 0),(.int .u8 0),(.int .u8 0),(.int .u8 0),(.int .u8 0),(.int .u8 0),(.int .u8 0),(.int .u8 0),(.int .u8 0),(.int .u8 0),(.int .u8 0),(.int .u8 0),(.int .u8 0),(.int .u8 0),(.int .u8 0),(.int .u8 0),(.int .u8 0),(.int .u8 0),(.int .u8 0),(.int .u8 0),(.int .u8 0),(.int .u8 0),(.int .u8 0),(.int .u8 0),(.int .u8 0),(.int .u8 0),(.int .u8 0),(.int .u8 0),(.int .u8 0),(.int .u8 0),(.int .u8 0),(.int .u8 0),(.int .u8 0),(.int .u8 0),(.int .u8 0),(.int .u8 0),(.int .u8 0),(.int .u8 0),(.int .u8 0),(.int .u8 0),(.int .u8 0),(.int .u8 0),(.int .u8 0),(.int .u8 0),(.int .u8 0),(.int .u8 0),(.int .u8 0),(.int .u8 0),(.int .u8 0),(.int .u8 0),(.int .u8 0),(.int .u8 0),(.int .u8 0),(.int .u8 0),(.int .u8 0),(.int .u8 0),(.int .u8 0),(.int .u8 0),(.int .u8 0),(.int .u8 0),(.int .u8 0),(.int .u8 0),(.int .u8 0),(.int .u8 0),(.int .u8 0),(.int .u8 0),(.int .u8 0),(.int .u8 0),(.int .u8 0),(.int .u8 0),(.int .u8 0),(.int .u8 0),(.int .u8 0),(.int .u8 0),(.int .u8 0),(.int .u8 0),(.int .u8 0),(.int .u8 0),(.int .u8 0),(.int .u8 0),(.int .u8 0),(.int .u8 0),(.int .u8 0),(.int .u8 0),(.int .u8 0),(.int .u8 0),(.int .u8 0),(.int .u8 0),(.int .u8 0),(.int .u8 0),(.int .u8 0),(.int .u8 0),(.int .u8 0),(.int .u8 0),(.int .u8 0),(.int .u8 0),(.int .u8 0),(.int .u8 0),(.int .u8 0),(.int .u8 0),(.int .u8 0),(.int .u8 0),(.int .u8 0),(.int .u8 0),(.int .u8 0),(.int .u8 0),(.int .u8 0),(.int .u8 0),(.int .u8 0),(.int .u8 0),(.int .u8 0),(.int .u8 0),(.int .u8 0),(.int .u8 0),(.int .u8 0),(.int .u8 0),(.int .u8 0),(.int .u8 0),(.int .u8 0),(.int .u8 0),(.int .u8 0),(.int .u8 0),(.int .u8 0),(.int .u8 0),(.int .u8 0),(.int .u8 0),(.int .u8 0),(.int .u8 0),(.int .u8 0),(.int .u8 0),(.int .u8 0),(.int .u8 0),(.int .u8 0),(.int .u8 0),(.int .u8 0)]),false,none⟩
theorem XN:TyOk Tryz.prog 279 RR:=⟨Tryz.underlying279,TyOk.of_info (by kernel_rfl),fun h=>(by cases h),fun τ h=>(by cases h)⟩
def SR:Ty:=⟨.struct #[⟨"lo",5,0,false, "", "unicode/utf8",0⟩,⟨"hi",5,1,false, "", "unicode/utf8",1⟩],2,2,(.agg #[(.int .u8 0),(.int .u8 0)]),false,none⟩
theorem YN:TyOk Tryz.prog 280 SR:=⟨Tryz.underlying280,TyOk.of_info (by kernel_rfl),fun h=>(by cases h),fun τ h=>(by cases h)⟩
def TR:Ty:=⟨.struct #[⟨"lo",5,0,false, "", "unicode/utf8",0⟩,⟨"hi",5,1,false, "", "unicode/utf8",1⟩],2,2,(.agg #[(.int .u8 0),(.int .u8 0)]),false,none⟩
theorem ZN:TyOk Tryz.prog 281 TR:=⟨Tryz.underlying281,TyOk.of_info (by kernel_rfl),fun h=>(by cases h),fun τ h=>(by cases h)⟩
def UR:Ty:=⟨.array 16 281,32,32,(.agg #[(.int .u8 0),(.int .u8 0),(.int .u8 0),(.int .u8 0),(.int .u8 0),(.int .u8 0),(.int .u8 0),(.int .u8 0),(.int .u8 0),(.int .u8 0),(.int .u8 0),(.int .u8 0),(.int .u8 0),(.int .u8 0),(.int .u8 0),(.int .u8 0),(.int .u8 0),(.int .u8 0),(.int .u8 0),(.int .u8 0),(.int .u8 0),(.int .u8 0),(.int .u8 0),(.int .u8 0),(.int .u8 0),(.int .u8 0),(.int .u8 0),(.int .u8 0),(.int .u8 0),(.int .u8 0),(.int .u8 0),(.int .u8 0)]),false,none⟩
theorem aO:TyOk Tryz.prog 282 UR:=⟨Tryz.underlying282,TyOk.of_info (by kernel_rfl),fun h=>(by cases h),fun τ h=>(by cases h)⟩
def WR:Ty:=⟨.array 20 161,20,160,(.agg #[(.int .u64 0),(.int .u64 0),(.int .u64 0),(.int .u64 0),(.int .u64 0),(.int .u64 0),(.int .u64 0),(.int .u64 0),(.int .u64 0),(.int .u64 0),(.int .u64 0),(.int .u64 0),(.int .u64 0),(.int .u64 0),(.int .u64 0),(.int .u64 0),(.int .u64 0),(.int .u64 0),(.int .u64 0),(.int .u64 0)]),false,none⟩
theorem bO:TyOk Tryz.prog 284 WR:=⟨Tryz.underlying284,TyOk.of_info (by kernel_rfl),fun h=>(by cases h),fun τ h=>(by cases h)⟩
def XR:Ty:=⟨.int .u32,1,4,(.int .u32 0),false,none⟩
theorem cO:TyOk Tryz.prog 285 XR:=⟨Tryz.underlying285,TyOk.of_info (by kernel_rfl),fun h=>(by cases h),fun τ h=>(by cases h)⟩
def YR:Ty:=⟨.array 65 5,65,65,(.agg #[(.int .u8 0),(.int .u8 0),(.int .u8 0),(.int .u8 0),(.int .u8 0),(.int .u8 0),(.int .u8 0),(.int .u8 0),(.int .u8 0),(.int .u8 0),(.int .u8 0),(.int .u8 0),(.int .u8 0),(.int .u8 0),(.int .u8 0),(.int .u8 0),(.int .u8 0),(.int .u8 0),(.int .u8 0),(.int .u8 0),(.int .u8 0),(.int .u8 0),(.int .u8 0),(.int .u8 0),(.int .u8 0),(.int .u8 0),(.int .u8 0),(.int .u8 0),(.int .u8 0),(.int .u8 0),(.int .u8 0),(.int .u8 0),(.int .u8 0),(.int .u8 0),(.int .u8 0),(.int .u8 0),(.int .u8 0),(.int .u8 0),(.int .u8 0),(.int .u8 0),(.int .u8 0),(.int .u8 0),(.int .u8 0),(.int .u8 0),(.int .u8 0),(.int .u8 0),(.int .u8 0),(.int .u8 0),(.int .u8 0),(.int .u8 0),(.int .u8 0),(.int .u8 0),(.int .u8 0),(.int .u8 0),(.int .u8 0),(.int .u8 0),(.int .u8 0),(.int .u8 0),(.int .u8 0),(.int .u8 0),(.int .u8 0),(.int .u8 0),(.int .u8 0),(.int .u8 0),(.int .u8 0)]),false,none⟩
theorem dO:TyOk Tryz.prog 286 YR:=⟨Tryz.underlying286,TyOk.of_info (by kernel_rfl),fun h=>(by cases h),fun τ h=>(by cases h)⟩
def ZR:Ty:=⟨.pointer 270,1,8,(.pointer none),false,none⟩
theorem eO:TyOk Tryz.prog 291 ZR:=⟨Tryz.underlying291,TyOk.of_info (by kernel_rfl),fun h=>(by cases h),fun τ h=>(by cases h)⟩
def aS:Ty:=⟨.unsafePointer,1,8,(.pointer none),false,none⟩
theorem fO:TyOk Tryz.prog 293 aS:=⟨Tryz.underlying293,TyOk.of_info (by kernel_rfl),fun h=>(by cases h),fun τ h=>(by cases h)⟩
def cS:Ty:=⟨.pointer 299,1,8,(.pointer none),false,none⟩
theorem gO:TyOk Tryz.prog 297 cS:=⟨Tryz.underlying297,TyOk.of_info (by kernel_rfl),fun h=>(by cases h),fun τ h=>(by cases h)⟩
def dS:Ty:=⟨.struct #[⟨"s",9,0,false, "", "errors",0⟩],1,16,(.agg #[(.string ⟨#[]⟩)]),false,none⟩
theorem hO:TyOk Tryz.prog 298 dS:=⟨Tryz.underlying298,TyOk.of_info (by kernel_rfl),fun h=>(by cases h),fun τ h=>(by cases h)⟩
def eS:Ty:=⟨.struct #[⟨"s",9,0,false, "", "errors",0⟩],1,16,(.agg #[(.string ⟨#[]⟩)]),false,none⟩
theorem iO:TyOk Tryz.prog 299 eS:=⟨Tryz.underlying299,TyOk.of_info (by kernel_rfl),fun h=>(by cases h),fun τ h=>(by cases h)⟩
def gS:Ty:=⟨.array 32 5,32,32,(.agg #[(.int .u8 0),(.int .u8 0),(.int .u8 0),(.int .u8 0),(.int .u8 0),(.int .u8 0),(.int .u8 0),(.int .u8 0),(.int .u8 0),(.int .u8 0),(.int .u8 0),(.int .u8 0),(.int .u8 0),(.int .u8 0),(.int .u8 0),(.int .u8 0),(.int .u8 0),(.int .u8 0),(.int .u8 0),(.int .u8 0),(.int .u8 0),(.int .u8 0),(.int .u8 0),(.int .u8 0),(.int .u8 0),(.int .u8 0),(.int .u8 0),(.int .u8 0),(.int .u8 0),(.int .u8 0),(.int .u8 0),(.int .u8 0)]),false,none⟩
theorem jO:TyOk Tryz.prog 301 gS:=⟨Tryz.underlying301,TyOk.of_info (by kernel_rfl),fun h=>(by cases h),fun τ h=>(by cases h)⟩
def iS:Ty:=⟨.array 64 5,64,64,(.agg #[(.int .u8 0),(.int .u8 0),(.int .u8 0),(.int .u8 0),(.int .u8 0),(.int .u8 0),(.int .u8 0),(.int .u8 0),(.int .u8 0),(.int .u8 0),(.int .u8 0),(.int .u8 0),(.int .u8 0),(.int .u8 0),(.int .u8 0),(.int .u8 0),(.int .u8 0),(.int .u8 0),(.int .u8 0),(.int .u8 0),(.int .u8 0),(.int .u8 0),(.int .u8 0),(.int .u8 0),(.int .u8 0),(.int .u8 0),(.int .u8 0),(.int .u8 0),(.int .u8 0),(.int .u8 0),(.int .u8 0),(.int .u8 0),(.int .u8 0),(.int .u8 0),(.int .u8 0),(.int .u8 0),(.int .u8 0),(.int .u8 0),(.int .u8 0),(.int .u8 0),(.int .u8 0),(.int .u8 0),(.int .u8 0),(.int .u8 0),(.int .u8 0),(.int .u8 0),(.int .u8 0),(.int .u8 0),(.int .u8 0),(.int .u8 0),(.int .u8 0),(.int .u8 0),(.int .u8 0),(.int .u8 0),(.int .u8 0),(.int .u8 0),(.int .u8 0),(.int .u8 0),(.int .u8 0),(.int .u8 0),(.int .u8 0),(.int .u8 0),(.int .u8 0),(.int .u8 0)]),false,none⟩
theorem kO:TyOk Tryz.prog 302 iS:=⟨Tryz.underlying302,TyOk.of_info (by kernel_rfl),fun h=>(by cases h),fun τ h=>(by cases h)⟩
def jS:Ty:=⟨.struct #[⟨"_interface",17,0,false, "", "runtime",0⟩,⟨"concrete",17,1,false, "", "runtime",8⟩,⟨"asserted",17,2,false, "", "runtime",16⟩,⟨"missingMethod",9,3,false, "", "runtime",24⟩],4,40,(.agg #[(.pointer none),(.pointer none),(.pointer none),(.string ⟨#[]⟩)]),false,none⟩
theorem lO:TyOk Tryz.prog 303 jS:=⟨Tryz.underlying303,TyOk.of_info (by kernel_rfl),fun h=>(by cases h),fun τ h=>(by cases h)⟩
def kS:Ty:=⟨.struct #[⟨"_interface",17,0,false, "", "runtime",0⟩,⟨"concrete",17,1,false, "", "runtime",8⟩,⟨"asserted",17,2,false, "", "runtime",16⟩,⟨"missingMethod",9,3,false, "", "runtime",24⟩],4,40,(.agg #[(.pointer none),(.pointer none),(.pointer none),(.string ⟨#[]⟩)]),false,none⟩
theorem mO:TyOk Tryz.prog 304 kS:=⟨Tryz.underlying304,TyOk.of_info (by kernel_rfl),fun h=>(by cases h),fun τ h=>(by cases h)⟩
def lS:Ty:=⟨.array 0 16,0,0,(.agg #[]),false,none⟩
theorem nO:TyOk Tryz.prog 305 lS:=⟨Tryz.underlying305,TyOk.of_info (by kernel_rfl),fun h=>(by cases h),fun τ h=>(by cases h)⟩
def mS:Ty:=⟨.struct #[⟨"_",305,0,false, "", "runtime",0⟩],0,0,(.agg #[]),false,none⟩
theorem oO:TyOk Tryz.prog 306 mS:=⟨Tryz.underlying306,TyOk.of_info (by kernel_rfl),fun h=>(by cases h),fun τ h=>(by cases h)⟩
def nS:Ty:=⟨.struct #[⟨"_",305,0,false, "", "runtime",0⟩],0,0,(.agg #[]),false,none⟩
theorem pO:TyOk Tryz.prog 307 nS:=⟨Tryz.underlying307,TyOk.of_info (by kernel_rfl),fun h=>(by cases h),fun τ h=>(by cases h)⟩
def oS:Ty:=⟨.int .u8,1,1,(.int .u8 0),false,none⟩
theorem qO:TyOk Tryz.prog 309 oS:=⟨Tryz.underlying309,TyOk.of_info (by kernel_rfl),fun h=>(by cases h),fun τ h=>(by cases h)⟩
def pS:Ty:=⟨.int .u8,1,1,(.int .u8 0),false,none⟩
theorem rO:TyOk Tryz.prog 310 pS:=⟨Tryz.underlying310,TyOk.of_info (by kernel_rfl),fun h=>(by cases h),fun τ h=>(by cases h)⟩
def qS:Ty:=⟨.int .i32,1,4,(.int .i32 0),false,none⟩
theorem sO:TyOk Tryz.prog 312 qS:=⟨Tryz.underlying312,TyOk.of_info (by kernel_rfl),fun h=>(by cases h),fun τ h=>(by cases h)⟩
def rS:Ty:=⟨.int .i32,1,4,(.int .i32 0),false,none⟩
theorem tO:TyOk Tryz.prog 313 rS:=⟨Tryz.underlying313,TyOk.of_info (by kernel_rfl),fun h=>(by cases h),fun τ h=>(by cases h)⟩
def sS:Ty:=⟨.struct #[⟨"Size_",12,0,false, "", "",0⟩,⟨"PtrBytes",12,1,false, "", "",8⟩,⟨"Hash",285,2,false, "", "",16⟩,⟨"TFlag",309,3,false, "", "",20⟩,⟨"Align_",5,4,false, "", "",21⟩,⟨"FieldAlign_",5,5,false, "", "",22⟩,⟨"Kind_",310,6,false, "", "",23⟩,⟨"Equal",311,7,false, "", "",24⟩,⟨"GCData",273,8,false, "", "",32⟩,⟨"Str",312,9,false, "", "",40⟩,⟨"PtrToThis",313,10,false, "", "",44⟩],11,48,(.agg #[(.int .u64 0),(.int .u64 0),(.int .u32 0),(.int .u8 0),(.int .u8 0),(.int .u8 0),(.int .u8 0),.nilFunc,(.pointer none),(.int .i32 0),(.int .i32 0)]),false,none⟩
theorem uO:TyOk Tryz.prog 314 sS:=⟨Tryz.underlying314,TyOk.of_info (by kernel_rfl),fun h=>(by cases h),fun τ h=>(by cases h)⟩
def tS:Ty:=⟨.struct #[⟨"Size_",12,0,false, "", "",0⟩,⟨"PtrBytes",12,1,false, "", "",8⟩,⟨"Hash",285,2,false, "", "",16⟩,⟨"TFlag",309,3,false, "", "",20⟩,⟨"Align_",5,4,false, "", "",21⟩,⟨"FieldAlign_",5,5,false, "", "",22⟩,⟨"Kind_",310,6,false, "", "",23⟩,⟨"Equal",311,7,false, "", "",24⟩,⟨"GCData",273,8,false, "", "",32⟩,⟨"Str",312,9,false, "", "",40⟩,⟨"PtrToThis",313,10,false, "", "",44⟩],11,48,(.agg #[(.int .u64 0),(.int .u64 0),(.int .u32 0),(.int .u8 0),(.int .u8 0),(.int .u8 0),(.int .u8 0),.nilFunc,(.pointer none),(.int .i32 0),(.int .i32 0)]),false,none⟩
theorem vO:TyOk Tryz.prog 315 tS:=⟨Tryz.underlying315,TyOk.of_info (by kernel_rfl),fun h=>(by cases h),fun τ h=>(by cases h)⟩
def tys:YU:=[none,none,some ZV,some aW,some bW,some cW,some dW,some eW,some fW,some gW,some uT,some vT,some wT,some xT,some yT,some zT,some BT,some DT,some ET,some FT,some GT,some HT,some IT,some JT,some KT,some LT,some MT,some NT,some OT,some PT,some QT,some ST,some TT,some UT,some VT,some WT,none,none,some XT,some YT,none,none,none,none,none,none,none,none,none,none,none,none,none,none,none,some ZT,some aU,some bU,some cU,some dU,none,some eU,some fU,none,some gU,some iU,none,some jU,some kU,some lU,some mU,some nU,none,some oU,none,some pU,some qU,some rU,none,none,none,some sU,some tU,none,none,none,some uU,some vU,some wU,some xU,none,none,none,none,none,none,none,none,none,none,none,none,none,some jR,some kR,none,none,none,none,none,none,none,none,none,none,none,none,none,none,none,none,none,none,none,none,none,none,none,none,none,none,some lR,none,none,none,none,none,none,none,none,none,some mR,none,none,some nR,none,none,none,some oR,some pR,none,none,none,none,none,none,none,none,none,none,none,some qR,none,none,none,none,none,none,none,none,none,none,none,none,none,none,none,none,none,none,some rR,some sR,some tR,some uR,none,none,none,none,none,none,none,none,none,none,none,some vR,none,none,none,none,none,none,none,none,none,none,some wR,some xR,none,none,none,none,none,none,none,none,some yR,some zR,none,none,none,none,none,none,none,none,none,none,none,none,none,none,some AR,none,none,some BR,none,none,none,none,none,none,none,some DR,some ER,none,none,none,none,none,some FR,some GR,some HR,none,none,none,none,some IR,none,none,some JR,none,none,some KR,none,none,none,none,none,some MR,some NR,none,none,some OR,none,none,some PR,some QR,none,some RR,some SR,some TR,some UR,none,some WR,some XR,some YR,none,none,none,none,some ZR,none,some aS,none,none,none,some cS,some dS,some eS,none,some gS,some iS,some jS,some kS,some lS,some mS,some nS,none,some oS,some pS,none,some qS,some rS,some sS,some tS]
theorem tys_ok:Za Tryz.prog tys:=sM (show dI Tryz.prog 0 tys from ⟨fS,uS,vS,wS,xS,yS,zS,AS,CP,DP,EP,FP,GP,IP,JP,KP,LP,MP,NP,OP,PP,QP,RP,SP,TP,UP,VP,WP,XP,YP,ZP,aQ,bQ,cQ,dQ,eQ,fQ,gQ,iQ,jQ,kQ,lQ,mQ,nQ,oQ,pQ,qQ,rQ,sQ,tQ,uQ,vQ,wQ,xQ,yQ,zQ,AQ,BQ,CQ,DQ,pN,qN,rN,sN,tN,uN,vN,wN,xN,yN,zN,AN,BN,CN,DN,EN,FN,GN,JN,KN,LN,MN,NN,ON,PN,QN,RN,SN,TN,UN,VN,WN,XN,YN,ZN,aO,bO,cO,dO,eO,fO,gO,hO,iO,jO,kO,lO,mO,nO,oO,pO,qO,rO,sO,tO,uO,vO,trivial⟩)
theorem mixed:Tryz.prog.follows .mixedOrders=true:=by kernel_rfl
end Go.Proofs.YtdhehcnfkcibiaaGreatDoor.AM
