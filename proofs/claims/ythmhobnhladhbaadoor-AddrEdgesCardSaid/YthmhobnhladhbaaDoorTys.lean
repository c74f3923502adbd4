/- What the evaluator of the abstract machine knows of this seat's types, by program (tys.py), and that it is so. -/
import Derived.Test.YthmhobnhladhbaaDoorProg
import Derived.Test.YthmhobnhladhbaaDoorAm18
namespace Go.Proofs.YthmhobnhladhbaaDoor.AM
open Go Go.RowKit
set_option linter.unusedVariables false
set_option maxRecDepth 100000
def ty2 : Ty := ⟨.int .i64, 1, 8, (.int .i64 0), false⟩
theorem ty2_ok : TyOk Tryd.prog 2 ty2 := ⟨Tryd.underlying2, TyOk.of_info (by kernel_rfl), fun h => (by cases h)⟩
def ty3 : Ty := ⟨.int .i64, 1, 8, (.int .i64 0), false⟩
theorem ty3_ok : TyOk Tryd.prog 3 ty3 := ⟨Tryd.underlying3, TyOk.of_info (by kernel_rfl), fun h => (by cases h)⟩
def ty4 : Ty := ⟨.bool, 1, 1, (.bool false), false⟩
theorem ty4_ok : TyOk Tryd.prog 4 ty4 := ⟨Tryd.underlying4, TyOk.of_info (by kernel_rfl), fun h => (by cases h)⟩
def ty5 : Ty := ⟨.int .u8, 1, 1, (.int .u8 0), false⟩
theorem ty5_ok : TyOk Tryd.prog 5 ty5 := ⟨Tryd.underlying5, TyOk.of_info (by kernel_rfl), fun h => (by cases h)⟩
def ty6 : Ty := ⟨.int .u8, 1, 1, (.int .u8 0), false⟩
theorem ty6_ok : TyOk Tryd.prog 6 ty6 := ⟨Tryd.underlying6, TyOk.of_info (by kernel_rfl), fun h => (by cases h)⟩
def ty7 : Ty := ⟨.struct #[⟨"x", 2, 0, false, "", "runtime", 0⟩, ⟨"y", 3, 1, false, "", "runtime", 8⟩, ⟨"signed", 4, 2, false, "", "runtime", 16⟩, ⟨"code", 6, 3, false, "", "runtime", 17⟩], 4, 24, (.agg #[(.int .i64 0), (.int .i64 0), (.bool false), (.int .u8 0)]), false⟩
theorem ty7_ok : TyOk Tryd.prog 7 ty7 := ⟨Tryd.underlying7, TyOk.of_info (by kernel_rfl), fun h => (by cases h)⟩
def ty8 : Ty := ⟨.struct #[⟨"x", 2, 0, false, "", "runtime", 0⟩, ⟨"y", 3, 1, false, "", "runtime", 8⟩, ⟨"signed", 4, 2, false, "", "runtime", 16⟩, ⟨"code", 6, 3, false, "", "runtime", 17⟩], 4, 24, (.agg #[(.int .i64 0), (.int .i64 0), (.bool false), (.int .u8 0)]), false⟩
theorem ty8_ok : TyOk Tryd.prog 8 ty8 := ⟨Tryd.underlying8, TyOk.of_info (by kernel_rfl), fun h => (by cases h)⟩
def ty9 : Ty := ⟨.string, 1, 16, (.string ⟨#[]⟩), false⟩
theorem ty9_ok : TyOk Tryd.prog 9 ty9 := ⟨Tryd.underlying9, TyOk.of_info (by kernel_rfl), fun h => (by cases h)⟩
def ty10 : Ty := ⟨.string, 1, 16, (.string ⟨#[]⟩), false⟩
theorem ty10_ok : TyOk Tryd.prog 10 ty10 := ⟨Tryd.underlying10, TyOk.of_info (by kernel_rfl), fun h => (by cases h)⟩
def ty11 : Ty := ⟨.string, 1, 16, (.string ⟨#[]⟩), false⟩
theorem ty11_ok : TyOk Tryd.prog 11 ty11 := ⟨Tryd.underlying11, TyOk.of_info (by kernel_rfl), fun h => (by cases h)⟩
def ty12 : Ty := ⟨.int .u64, 1, 8, (.int .u64 0), false⟩
theorem ty12_ok : TyOk Tryd.prog 12 ty12 := ⟨Tryd.underlying12, TyOk.of_info (by kernel_rfl), fun h => (by cases h)⟩
def ty13 : Ty := ⟨.struct #[⟨"msg", 9, 0, false, "", "runtime", 0⟩, ⟨"addr", 12, 1, false, "", "runtime", 16⟩], 2, 24, (.agg #[(.string ⟨#[]⟩), (.int .u64 0)]), false⟩
theorem ty13_ok : TyOk Tryd.prog 13 ty13 := ⟨Tryd.underlying13, TyOk.of_info (by kernel_rfl), fun h => (by cases h)⟩
def ty14 : Ty := ⟨.struct #[⟨"msg", 9, 0, false, "", "runtime", 0⟩, ⟨"addr", 12, 1, false, "", "runtime", 16⟩], 2, 24, (.agg #[(.string ⟨#[]⟩), (.int .u64 0)]), false⟩
theorem ty14_ok : TyOk Tryd.prog 14 ty14 := ⟨Tryd.underlying14, TyOk.of_info (by kernel_rfl), fun h => (by cases h)⟩
def ty15 : Ty := ⟨.pointer 134, 1, 8, (.pointer none), false⟩
theorem ty15_ok : TyOk Tryd.prog 15 ty15 := ⟨Tryd.underlying15, TyOk.of_info (by kernel_rfl), fun h => (by cases h)⟩
def ty16 : Ty := ⟨.pointer 137, 1, 8, (.pointer none), false⟩
theorem ty16_ok : TyOk Tryd.prog 16 ty16 := ⟨Tryd.underlying16, TyOk.of_info (by kernel_rfl), fun h => (by cases h)⟩
def ty17 : Ty := ⟨.pointer 145, 1, 8, (.pointer none), false⟩
theorem ty17_ok : TyOk Tryd.prog 17 ty17 := ⟨Tryd.underlying17, TyOk.of_info (by kernel_rfl), fun h => (by cases h)⟩
def ty18 : Ty := ⟨.struct #[⟨"typ", 17, 0, false, "", "internal/runtime/maps", 0⟩], 1, 8, (.agg #[(.pointer none)]), false⟩
theorem ty18_ok : TyOk Tryd.prog 18 ty18 := ⟨Tryd.underlying18, TyOk.of_info (by kernel_rfl), fun h => (by cases h)⟩
def ty19 : Ty := ⟨.struct #[⟨"typ", 17, 0, false, "", "internal/runtime/maps", 0⟩], 1, 8, (.agg #[(.pointer none)]), false⟩
theorem ty19_ok : TyOk Tryd.prog 19 ty19 := ⟨Tryd.underlying19, TyOk.of_info (by kernel_rfl), fun h => (by cases h)⟩
def ty20 : Ty := ⟨.interface #[], 1, 16, .nilIface, false⟩
theorem ty20_ok : TyOk Tryd.prog 20 ty20 := ⟨Tryd.underlying20, TyOk.of_info (by kernel_rfl), fun h => (by cases h)⟩
def ty21 : Ty := ⟨.int .i32, 1, 4, (.int .i32 0), false⟩
theorem ty21_ok : TyOk Tryd.prog 21 ty21 := ⟨Tryd.underlying21, TyOk.of_info (by kernel_rfl), fun h => (by cases h)⟩
def ty22 : Ty := ⟨.slice 27, 1, 24, (.slice none 0 0), false⟩
theorem ty22_ok : TyOk Tryd.prog 22 ty22 := ⟨Tryd.underlying22, TyOk.of_info (by kernel_rfl), fun h => (by cases h)⟩
def ty24 : Ty := ⟨.struct #[⟨"Local", 9, 0, false, "", "", 0⟩, ⟨"Domain", 9, 1, false, "", "", 16⟩], 2, 32, (.agg #[(.string ⟨#[]⟩), (.string ⟨#[]⟩)]), false⟩
theorem ty24_ok : TyOk Tryd.prog 24 ty24 := ⟨Tryd.underlying24, TyOk.of_info (by kernel_rfl), fun h => (by cases h)⟩
def ty25 : Ty := ⟨.struct #[⟨"Local", 9, 0, false, "", "", 0⟩, ⟨"Domain", 9, 1, false, "", "", 16⟩], 2, 32, (.agg #[(.string ⟨#[]⟩), (.string ⟨#[]⟩)]), true⟩
theorem ty25_ok : TyOk Tryd.prog 25 ty25 := ⟨Tryd.underlying25, TyOk.of_info (by kernel_rfl), fun _ => ⟨by kernel_rfl, by kernel_rfl, by kernel_rfl⟩⟩
def ty26 : Ty := ⟨.struct #[⟨"M", 25, 0, false, "", "", 0⟩, ⟨"S", 9, 2, false, "", "", 32⟩], 3, 48, (.agg #[(.string ⟨#[]⟩), (.string ⟨#[]⟩), (.string ⟨#[]⟩)]), false⟩
theorem ty26_ok : TyOk Tryd.prog 26 ty26 := ⟨Tryd.underlying26, TyOk.of_info (by kernel_rfl), fun h => (by cases h)⟩
def ty27 : Ty := ⟨.struct #[⟨"M", 25, 0, false, "", "", 0⟩, ⟨"S", 9, 2, false, "", "", 32⟩], 3, 48, (.agg #[(.string ⟨#[]⟩), (.string ⟨#[]⟩), (.string ⟨#[]⟩)]), true⟩
theorem ty27_ok : TyOk Tryd.prog 27 ty27 := ⟨Tryd.underlying27, TyOk.of_info (by kernel_rfl), fun _ => ⟨by kernel_rfl, by kernel_rfl, by kernel_rfl⟩⟩
def ty30 : Ty := ⟨.int .i64, 1, 8, (.int .i64 0), false⟩
theorem ty30_ok : TyOk Tryd.prog 30 ty30 := ⟨Tryd.underlying30, TyOk.of_info (by kernel_rfl), fun h => (by cases h)⟩
def ty36 : Ty := ⟨.slice 9, 1, 24, (.slice none 0 0), false⟩
theorem ty36_ok : TyOk Tryd.prog 36 ty36 := ⟨Tryd.underlying36, TyOk.of_info (by kernel_rfl), fun h => (by cases h)⟩
def ty45 : Ty := ⟨.slice 3, 1, 24, (.slice none 0 0), false⟩
theorem ty45_ok : TyOk Tryd.prog 45 ty45 := ⟨Tryd.underlying45, TyOk.of_info (by kernel_rfl), fun h => (by cases h)⟩
def ty46 : Ty := ⟨.slice 5, 1, 24, (.slice none 0 0), false⟩
theorem ty46_ok : TyOk Tryd.prog 46 ty46 := ⟨Tryd.underlying46, TyOk.of_info (by kernel_rfl), fun h => (by cases h)⟩
def ty55 : Ty := ⟨.pointer 30, 1, 8, (.pointer none), false⟩
theorem ty55_ok : TyOk Tryd.prog 55 ty55 := ⟨Tryd.underlying55, TyOk.of_info (by kernel_rfl), fun h => (by cases h)⟩
def ty59 : Ty := ⟨.int .u64, 1, 8, (.int .u64 0), false⟩
theorem ty59_ok : TyOk Tryd.prog 59 ty59 := ⟨Tryd.underlying59, TyOk.of_info (by kernel_rfl), fun h => (by cases h)⟩
def ty60 : Ty := ⟨.struct #[⟨"e", 30, 0, false, "", "pouch/addr", 0⟩], 1, 8, (.agg #[(.int .i64 0)]), false⟩
theorem ty60_ok : TyOk Tryd.prog 60 ty60 := ⟨Tryd.underlying60, TyOk.of_info (by kernel_rfl), fun h => (by cases h)⟩
def ty61 : Ty := ⟨.struct #[⟨"e", 30, 0, false, "", "pouch/addr", 0⟩], 1, 8, (.agg #[(.int .i64 0)]), true⟩
theorem ty61_ok : TyOk Tryd.prog 61 ty61 := ⟨Tryd.underlying61, TyOk.of_info (by kernel_rfl), fun _ => ⟨by kernel_rfl, by kernel_rfl, by kernel_rfl⟩⟩
def ty74 : Ty := ⟨.interface #[("Error", 83)], 1, 16, .nilIface, false⟩
theorem ty74_ok : TyOk Tryd.prog 74 ty74 := ⟨Tryd.underlying74, TyOk.of_info (by kernel_rfl), fun h => (by cases h)⟩
def ty75 : Ty := ⟨.interface #[("Error", 83)], 1, 16, .nilIface, false⟩
theorem ty75_ok : TyOk Tryd.prog 75 ty75 := ⟨Tryd.underlying75, TyOk.of_info (by kernel_rfl), fun h => (by cases h)⟩
def ty80 : Ty := ⟨.pointer 82, 1, 8, (.pointer none), false⟩
theorem ty80_ok : TyOk Tryd.prog 80 ty80 := ⟨Tryd.underlying80, TyOk.of_info (by kernel_rfl), fun h => (by cases h)⟩
def ty81 : Ty := ⟨.struct #[⟨"addr", 80, 0, false, "", "strings", 0⟩, ⟨"buf", 46, 1, false, "", "strings", 8⟩], 2, 32, (.agg #[(.pointer none), (.slice none 0 0)]), false⟩
theorem ty81_ok : TyOk Tryd.prog 81 ty81 := ⟨Tryd.underlying81, TyOk.of_info (by kernel_rfl), fun h => (by cases h)⟩
def ty82 : Ty := ⟨.struct #[⟨"addr", 80, 0, false, "", "strings", 0⟩, ⟨"buf", 46, 1, false, "", "strings", 8⟩], 2, 32, (.agg #[(.pointer none), (.slice none 0 0)]), false⟩
theorem ty82_ok : TyOk Tryd.prog 82 ty82 := ⟨Tryd.underlying82, TyOk.of_info (by kernel_rfl), fun h => (by cases h)⟩
def ty90 : Ty := ⟨.pointer 5, 1, 8, (.pointer none), false⟩
theorem ty90_ok : TyOk Tryd.prog 90 ty90 := ⟨Tryd.underlying90, TyOk.of_info (by kernel_rfl), fun h => (by cases h)⟩
def ty92 : Ty := ⟨.int .i64, 1, 8, (.int .i64 0), false⟩
theorem ty92_ok : TyOk Tryd.prog 92 ty92 := ⟨Tryd.underlying92, TyOk.of_info (by kernel_rfl), fun h => (by cases h)⟩
def ty95 : Ty := ⟨.pointer 106, 1, 8, (.pointer none), false⟩
theorem ty95_ok : TyOk Tryd.prog 95 ty95 := ⟨Tryd.underlying95, TyOk.of_info (by kernel_rfl), fun h => (by cases h)⟩
def ty99 : Ty := ⟨.unsafePointer, 1, 8, (.pointer none), false⟩
theorem ty99_ok : TyOk Tryd.prog 99 ty99 := ⟨Tryd.underlying99, TyOk.of_info (by kernel_rfl), fun h => (by cases h)⟩
def ty102 : Ty := ⟨.int .u64, 1, 8, (.int .u64 0), false⟩
theorem ty102_ok : TyOk Tryd.prog 102 ty102 := ⟨Tryd.underlying102, TyOk.of_info (by kernel_rfl), fun h => (by cases h)⟩
def ty105 : Ty := ⟨.struct #[⟨"Func", 9, 0, false, "", "", 0⟩, ⟨"Num", 9, 1, false, "", "", 16⟩, ⟨"Err", 75, 2, false, "", "", 32⟩], 3, 48, (.agg #[(.string ⟨#[]⟩), (.string ⟨#[]⟩), .nilIface]), false⟩
theorem ty105_ok : TyOk Tryd.prog 105 ty105 := ⟨Tryd.underlying105, TyOk.of_info (by kernel_rfl), fun h => (by cases h)⟩
def ty106 : Ty := ⟨.struct #[⟨"Func", 9, 0, false, "", "", 0⟩, ⟨"Num", 9, 1, false, "", "", 16⟩, ⟨"Err", 75, 2, false, "", "", 32⟩], 3, 48, (.agg #[(.string ⟨#[]⟩), (.string ⟨#[]⟩), .nilIface]), false⟩
theorem ty106_ok : TyOk Tryd.prog 106 ty106 := ⟨Tryd.underlying106, TyOk.of_info (by kernel_rfl), fun h => (by cases h)⟩
def ty108 : Ty := ⟨.array 24 5, 24, 24, (.agg #[(.int .u8 0), (.int .u8 0), (.int .u8 0), (.int .u8 0), (.int .u8 0), (.int .u8 0), (.int .u8 0), (.int .u8 0), (.int .u8 0), (.int .u8 0), (.int .u8 0), (.int .u8 0), (.int .u8 0), (.int .u8 0), (.int .u8 0), (.int .u8 0), (.int .u8 0), (.int .u8 0), (.int .u8 0), (.int .u8 0), (.int .u8 0), (.int .u8 0), (.int .u8 0), (.int .u8 0)]), false⟩
theorem ty108_ok : TyOk Tryd.prog 108 ty108 := ⟨Tryd.underlying108, TyOk.of_info (by kernel_rfl), fun h => (by cases h)⟩
def ty113 : Ty := ⟨.array 256 5, 256, 256, (.agg #[(.int .u8 0), (.int .u8 0), (.int .u8 0), (.int .u8 0), (.int .u8 0), (.int .u8 0), (.int .u8 0), (.int .u8 0), (.int .u8 0), (.int .u8 0), (.int .u8 0), (.int .u8 0), (.int .u8 0), (.int .u8 0), (.int .u8 0), (.int .u8 0), (.int .u8 0), (.int .u8 0), (.int .u8 0), (.int .u8 0), (.int .u8 0), (.int .u8 0), (.int .u8 0), (.int .u8 0), (.int .u8 0), (.int .u8 0), (.int .u8 0), (.int .u8 0), (.int .u8 0), (.int .u8 0), (.int .u8 0), (.int .u8 0), (.int .u8 0), (.int .u8 0), (.int .u8 0), (.int .u8 0), (.int .u8 0), (.int .u8 0), (.int .u8 0), (.int .u8 0), (.int .u8 0), (.int .u8 0), (.int .u8 0), (.int .u8 0), (.int .u8 0), (.int .u8 0), (.int .u8 0), (.int .u8 0), (.int .u8 0), (.int .u8 0), (.int .u8 0), (.int .u8 0), (.int .u8 0), (.int .u8 0), (.int .u8 0), (.int .u8 0), (.int .u8 0), (.int .u8 0), (.int .u8 0), (.int .u8 0), (.int .u8 0), (.int .u8 0), (.int .u8 0), (.int .u8 0), (.int .u8 0), (.int .u8 0), (.int .u8 0), (.int .u8 0), (.int .u8 0), (.int .u8 0), (.int .u8 0), (.int .u8 0), (.int .u8 0), (.int .u8 0), (.int .u8 0), (.int .u8 0), (.int .u8 0), (.int .u8 0), (.int .u8 0), (.int .u8 0), (.int .u8 0), (.int .u8 0), (.int .u8 0), (.int .u8 0), (.int .u8 0), (.int .u8 0), (.int .u8 0), (.int .u8 0), (.int .u8 0), (.int .u8 0), (.int .u8 0), (.int .u8 0), (.int .u8 0), (.int .u8 0), (.int .u8 0), (.int .u8 0), (.int .u8 0), (.int .u8 0), (.int .u8 0), (.int .u8 0), (.int .u8 0), (.int .u8 0), (.int .u8 0), (.int .u8 0), (.int .u8 0), (.int .u8 0), (.int .u8 0), (.int .u8 0), (.int .u8 0), (.int .u8 0), (.int .u8 0), (.int .u8 0), (.int .u8 0), (.int .u8 0), (.int .u8 0), (.int .u8 0), (.int .u8 0), (.int .u8 0), (.int .u8 0), (.int .u8 0), (.int .u8 0), (.int .u8 0), (.int .u8 0), (.int .u8 0), (.int .u8 0), (.int .u8 0), (.int .u8 0), (.int .u8 0), (.int .u8 0), (.int .u8 0), (.int .u8 0), (.int .u8 0), (.int .u8 0), (.int .u8 0), (.int .u8 0), (.int .u8 0), (.int .u8 0), (.int .u8 0), (.int .u8 0), (.int .u8 0), (.int .u8 0), (.int .u8 0), (.int .u8 0), (.int .u8 0), (.int .u8 0), (.int .u8 0), (.int .u8 0), (.int .u8 0), (.int .u8 0), (.int .u8 0), (.int .u8 0), (.int .u8 0), (.int .u8 0), (.int .u8 0), (.int .u8 0), (.int .u8 0), (.int .u8 0), (.int .u8 0), (.int .u8 0), (.int .u8 0), (.int .u8 0), (.int .u8 0), (.int .u8 0), (.int .u8 0), (.int .u8 0), (.int .u8 0), (.int .u8 0), (.int .u8 0), (.int .u8 0), (.int .u8 0), (.int .u8 0), (.int .u8 0), (.int .u8 0), (.int .u8 0), (.int .u8 0), (.int .u8 0), (.int .u8 0), (.int .u8 0), (.int .u8 0), (.int .u8 0), (.int .u8 0), (.int .u8 0), (.int .u8 0), (.int .u8 0), (.int .u8 0), (.int .u8 0), (.int .u8 0), (.int .u8 0), (.int .u8 0), (.int .u8 0), (.int .u8 0), (.int .u8 0), (.int .u8 0), (.int .u8 0), (.int .u8 0), (.int .u8 0), (.int .u8 0), (.int .u8 0), (.int .u8 0), (.int .u8 0), (.int .u8 0), (.int .u8 0), (.int .u8 0), (.int .u8 0), (.int .u8 0), (.int .u8 0), (.int .u8 0), (.int .u8 0), (.int .u8 0), (.int .u8 0), (.int .u8 0), (.int .u8 0), (.int .u8 0), (.int .u8 0), (.int .u8 0), (.int .u8 0), (.int .u8 0), (.int .u8 0), (.int .u8 0), (.int .u8 0), (.int .u8 0), (.int .u8 0), (.int .u8 0), (.int .u8 0), (.int .u8 0), (.int .u8 0), (.int .u8 0), (.int .u8 0), (.int .u8 0), (.int .u8 0), (.int .u8 0), (.int .u8 0), (.int .u8 0), (.int .u8 0), (.int .u8 0), (.int .u8 0), (.int .u8 0), (.int .u8 0), (.int .u8 0), (.int .u8 0), (.int .u8 0), (.int .u8 0), (.int .u8 0), (.int .u8 0), (.int .u8 0), (.int .u8 0), (.int .u8 0), (.int .u8 0), (.int .u8 0), (.int .u8 0), (.int .u8 0), (.int .u8 0), (.int .u8 0), (.int .u8 0), (.int .u8 0), (.int .u8 0)]), false⟩
theorem ty113_ok : TyOk Tryd.prog 113 ty113 := ⟨Tryd.underlying113, TyOk.of_info (by kernel_rfl), fun h => (by cases h)⟩
def ty114 : Ty := ⟨.struct #[⟨"lo", 5, 0, false, "", "unicode/utf8", 0⟩, ⟨"hi", 5, 1, false, "", "unicode/utf8", 1⟩], 2, 2, (.agg #[(.int .u8 0), (.int .u8 0)]), false⟩
theorem ty114_ok : TyOk Tryd.prog 114 ty114 := ⟨Tryd.underlying114, TyOk.of_info (by kernel_rfl), fun h => (by cases h)⟩
def ty115 : Ty := ⟨.struct #[⟨"lo", 5, 0, false, "", "unicode/utf8", 0⟩, ⟨"hi", 5, 1, false, "", "unicode/utf8", 1⟩], 2, 2, (.agg #[(.int .u8 0), (.int .u8 0)]), false⟩
theorem ty115_ok : TyOk Tryd.prog 115 ty115 := ⟨Tryd.underlying115, TyOk.of_info (by kernel_rfl), fun h => (by cases h)⟩
def ty116 : Ty := ⟨.array 16 115, 32, 32, (.agg #[(.int .u8 0), (.int .u8 0), (.int .u8 0), (.int .u8 0), (.int .u8 0), (.int .u8 0), (.int .u8 0), (.int .u8 0), (.int .u8 0), (.int .u8 0), (.int .u8 0), (.int .u8 0), (.int .u8 0), (.int .u8 0), (.int .u8 0), (.int .u8 0), (.int .u8 0), (.int .u8 0), (.int .u8 0), (.int .u8 0), (.int .u8 0), (.int .u8 0), (.int .u8 0), (.int .u8 0), (.int .u8 0), (.int .u8 0), (.int .u8 0), (.int .u8 0), (.int .u8 0), (.int .u8 0), (.int .u8 0), (.int .u8 0)]), false⟩
theorem ty116_ok : TyOk Tryd.prog 116 ty116 := ⟨Tryd.underlying116, TyOk.of_info (by kernel_rfl), fun h => (by cases h)⟩
def ty119 : Ty := ⟨.pointer 121, 1, 8, (.pointer none), false⟩
theorem ty119_ok : TyOk Tryd.prog 119 ty119 := ⟨Tryd.underlying119, TyOk.of_info (by kernel_rfl), fun h => (by cases h)⟩
def ty120 : Ty := ⟨.struct #[⟨"s", 9, 0, false, "", "errors", 0⟩], 1, 16, (.agg #[(.string ⟨#[]⟩)]), false⟩
theorem ty120_ok : TyOk Tryd.prog 120 ty120 := ⟨Tryd.underlying120, TyOk.of_info (by kernel_rfl), fun h => (by cases h)⟩
def ty121 : Ty := ⟨.struct #[⟨"s", 9, 0, false, "", "errors", 0⟩], 1, 16, (.agg #[(.string ⟨#[]⟩)]), false⟩
theorem ty121_ok : TyOk Tryd.prog 121 ty121 := ⟨Tryd.underlying121, TyOk.of_info (by kernel_rfl), fun h => (by cases h)⟩
def ty123 : Ty := ⟨.array 20 102, 20, 160, (.agg #[(.int .u64 0), (.int .u64 0), (.int .u64 0), (.int .u64 0), (.int .u64 0), (.int .u64 0), (.int .u64 0), (.int .u64 0), (.int .u64 0), (.int .u64 0), (.int .u64 0), (.int .u64 0), (.int .u64 0), (.int .u64 0), (.int .u64 0), (.int .u64 0), (.int .u64 0), (.int .u64 0), (.int .u64 0), (.int .u64 0)]), false⟩
theorem ty123_ok : TyOk Tryd.prog 123 ty123 := ⟨Tryd.underlying123, TyOk.of_info (by kernel_rfl), fun h => (by cases h)⟩
def ty124 : Ty := ⟨.int .u32, 1, 4, (.int .u32 0), false⟩
theorem ty124_ok : TyOk Tryd.prog 124 ty124 := ⟨Tryd.underlying124, TyOk.of_info (by kernel_rfl), fun h => (by cases h)⟩
def ty125 : Ty := ⟨.array 65 5, 65, 65, (.agg #[(.int .u8 0), (.int .u8 0), (.int .u8 0), (.int .u8 0), (.int .u8 0), (.int .u8 0), (.int .u8 0), (.int .u8 0), (.int .u8 0), (.int .u8 0), (.int .u8 0), (.int .u8 0), (.int .u8 0), (.int .u8 0), (.int .u8 0), (.int .u8 0), (.int .u8 0), (.int .u8 0), (.int .u8 0), (.int .u8 0), (.int .u8 0), (.int .u8 0), (.int .u8 0), (.int .u8 0), (.int .u8 0), (.int .u8 0), (.int .u8 0), (.int .u8 0), (.int .u8 0), (.int .u8 0), (.int .u8 0), (.int .u8 0), (.int .u8 0), (.int .u8 0), (.int .u8 0), (.int .u8 0), (.int .u8 0), (.int .u8 0), (.int .u8 0), (.int .u8 0), (.int .u8 0), (.int .u8 0), (.int .u8 0), (.int .u8 0), (.int .u8 0), (.int .u8 0), (.int .u8 0), (.int .u8 0), (.int .u8 0), (.int .u8 0), (.int .u8 0), (.int .u8 0), (.int .u8 0), (.int .u8 0), (.int .u8 0), (.int .u8 0), (.int .u8 0), (.int .u8 0), (.int .u8 0), (.int .u8 0), (.int .u8 0), (.int .u8 0), (.int .u8 0), (.int .u8 0), (.int .u8 0)]), false⟩
theorem ty125_ok : TyOk Tryd.prog 125 ty125 := ⟨Tryd.underlying125, TyOk.of_info (by kernel_rfl), fun h => (by cases h)⟩
def ty131 : Ty := ⟨.array 32 5, 32, 32, (.agg #[(.int .u8 0), (.int .u8 0), (.int .u8 0), (.int .u8 0), (.int .u8 0), (.int .u8 0), (.int .u8 0), (.int .u8 0), (.int .u8 0), (.int .u8 0), (.int .u8 0), (.int .u8 0), (.int .u8 0), (.int .u8 0), (.int .u8 0), (.int .u8 0), (.int .u8 0), (.int .u8 0), (.int .u8 0), (.int .u8 0), (.int .u8 0), (.int .u8 0), (.int .u8 0), (.int .u8 0), (.int .u8 0), (.int .u8 0), (.int .u8 0), (.int .u8 0), (.int .u8 0), (.int .u8 0), (.int .u8 0), (.int .u8 0)]), false⟩
theorem ty131_ok : TyOk Tryd.prog 131 ty131 := ⟨Tryd.underlying131, TyOk.of_info (by kernel_rfl), fun h => (by cases h)⟩
def ty132 : Ty := ⟨.array 64 5, 64, 64, (.agg #[(.int .u8 0), (.int .u8 0), (.int .u8 0), (.int .u8 0), (.int .u8 0), (.int .u8 0), (.int .u8 0), (.int .u8 0), (.int .u8 0), (.int .u8 0), (.int .u8 0), (.int .u8 0), (.int .u8 0), (.int .u8 0), (.int .u8 0), (.int .u8 0), (.int .u8 0), (.int .u8 0), (.int .u8 0), (.int .u8 0), (.int .u8 0), (.int .u8 0), (.int .u8 0), (.int .u8 0), (.int .u8 0), (.int .u8 0), (.int .u8 0), (.int .u8 0), (.int .u8 0), (.int .u8 0), (.int .u8 0), (.int .u8 0), (.int .u8 0), (.int .u8 0), (.int .u8 0), (.int .u8 0), (.int .u8 0), (.int .u8 0), (.int .u8 0), (.int .u8 0), (.int .u8 0), (.int .u8 0), (.int .u8 0), (.int .u8 0), (.int .u8 0), (.int .u8 0), (.int .u8 0), (.int .u8 0), (.int .u8 0), (.int .u8 0), (.int .u8 0), (.int .u8 0), (.int .u8 0), (.int .u8 0), (.int .u8 0), (.int .u8 0), (.int .u8 0), (.int .u8 0), (.int .u8 0), (.int .u8 0), (.int .u8 0), (.int .u8 0), (.int .u8 0), (.int .u8 0)]), false⟩
theorem ty132_ok : TyOk Tryd.prog 132 ty132 := ⟨Tryd.underlying132, TyOk.of_info (by kernel_rfl), fun h => (by cases h)⟩
def ty133 : Ty := ⟨.struct #[⟨"_interface", 17, 0, false, "", "runtime", 0⟩, ⟨"concrete", 17, 1, false, "", "runtime", 8⟩, ⟨"asserted", 17, 2, false, "", "runtime", 16⟩, ⟨"missingMethod", 9, 3, false, "", "runtime", 24⟩], 4, 40, (.agg #[(.pointer none), (.pointer none), (.pointer none), (.string ⟨#[]⟩)]), false⟩
theorem ty133_ok : TyOk Tryd.prog 133 ty133 := ⟨Tryd.underlying133, TyOk.of_info (by kernel_rfl), fun h => (by cases h)⟩
def ty134 : Ty := ⟨.struct #[⟨"_interface", 17, 0, false, "", "runtime", 0⟩, ⟨"concrete", 17, 1, false, "", "runtime", 8⟩, ⟨"asserted", 17, 2, false, "", "runtime", 16⟩, ⟨"missingMethod", 9, 3, false, "", "runtime", 24⟩], 4, 40, (.agg #[(.pointer none), (.pointer none), (.pointer none), (.string ⟨#[]⟩)]), false⟩
theorem ty134_ok : TyOk Tryd.prog 134 ty134 := ⟨Tryd.underlying134, TyOk.of_info (by kernel_rfl), fun h => (by cases h)⟩
def ty135 : Ty := ⟨.array 0 16, 0, 0, (.agg #[]), false⟩
theorem ty135_ok : TyOk Tryd.prog 135 ty135 := ⟨Tryd.underlying135, TyOk.of_info (by kernel_rfl), fun h => (by cases h)⟩
def ty136 : Ty := ⟨.struct #[⟨"_", 135, 0, false, "", "runtime", 0⟩], 0, 0, (.agg #[]), false⟩
theorem ty136_ok : TyOk Tryd.prog 136 ty136 := ⟨Tryd.underlying136, TyOk.of_info (by kernel_rfl), fun h => (by cases h)⟩
def ty137 : Ty := ⟨.struct #[⟨"_", 135, 0, false, "", "runtime", 0⟩], 0, 0, (.agg #[]), false⟩
theorem ty137_ok : TyOk Tryd.prog 137 ty137 := ⟨Tryd.underlying137, TyOk.of_info (by kernel_rfl), fun h => (by cases h)⟩
def ty139 : Ty := ⟨.int .u8, 1, 1, (.int .u8 0), false⟩
theorem ty139_ok : TyOk Tryd.prog 139 ty139 := ⟨Tryd.underlying139, TyOk.of_info (by kernel_rfl), fun h => (by cases h)⟩
def ty140 : Ty := ⟨.int .u8, 1, 1, (.int .u8 0), false⟩
theorem ty140_ok : TyOk Tryd.prog 140 ty140 := ⟨Tryd.underlying140, TyOk.of_info (by kernel_rfl), fun h => (by cases h)⟩
def ty142 : Ty := ⟨.int .i32, 1, 4, (.int .i32 0), false⟩
theorem ty142_ok : TyOk Tryd.prog 142 ty142 := ⟨Tryd.underlying142, TyOk.of_info (by kernel_rfl), fun h => (by cases h)⟩
def ty143 : Ty := ⟨.int .i32, 1, 4, (.int .i32 0), false⟩
theorem ty143_ok : TyOk Tryd.prog 143 ty143 := ⟨Tryd.underlying143, TyOk.of_info (by kernel_rfl), fun h => (by cases h)⟩
def ty144 : Ty := ⟨.struct #[⟨"Size_", 12, 0, false, "", "", 0⟩, ⟨"PtrBytes", 12, 1, false, "", "", 8⟩, ⟨"Hash", 124, 2, false, "", "", 16⟩, ⟨"TFlag", 139, 3, false, "", "", 20⟩, ⟨"Align_", 5, 4, false, "", "", 21⟩, ⟨"FieldAlign_", 5, 5, false, "", "", 22⟩, ⟨"Kind_", 140, 6, false, "", "", 23⟩, ⟨"Equal", 141, 7, false, "", "", 24⟩, ⟨"GCData", 90, 8, false, "", "", 32⟩, ⟨"Str", 142, 9, false, "", "", 40⟩, ⟨"PtrToThis", 143, 10, false, "", "", 44⟩], 11, 48, (.agg #[(.int .u64 0), (.int .u64 0), (.int .u32 0), (.int .u8 0), (.int .u8 0), (.int .u8 0), (.int .u8 0), .nilFunc, (.pointer none), (.int .i32 0), (.int .i32 0)]), false⟩
theorem ty144_ok : TyOk Tryd.prog 144 ty144 := ⟨Tryd.underlying144, TyOk.of_info (by kernel_rfl), fun h => (by cases h)⟩
def ty145 : Ty := ⟨.struct #[⟨"Size_", 12, 0, false, "", "", 0⟩, ⟨"PtrBytes", 12, 1, false, "", "", 8⟩, ⟨"Hash", 124, 2, false, "", "", 16⟩, ⟨"TFlag", 139, 3, false, "", "", 20⟩, ⟨"Align_", 5, 4, false, "", "", 21⟩, ⟨"FieldAlign_", 5, 5, false, "", "", 22⟩, ⟨"Kind_", 140, 6, false, "", "", 23⟩, ⟨"Equal", 141, 7, false, "", "", 24⟩, ⟨"GCData", 90, 8, false, "", "", 32⟩, ⟨"Str", 142, 9, false, "", "", 40⟩, ⟨"PtrToThis", 143, 10, false, "", "", 44⟩], 11, 48, (.agg #[(.int .u64 0), (.int .u64 0), (.int .u32 0), (.int .u8 0), (.int .u8 0), (.int .u8 0), (.int .u8 0), .nilFunc, (.pointer none), (.int .i32 0), (.int .i32 0)]), false⟩
theorem ty145_ok : TyOk Tryd.prog 145 ty145 := ⟨Tryd.underlying145, TyOk.of_info (by kernel_rfl), fun h => (by cases h)⟩
def tys : Tys := [none, none, some ty2, some ty3, some ty4, some ty5, some ty6, some ty7, some ty8, some ty9, some ty10, some ty11, some ty12, some ty13, some ty14, some ty15, some ty16, some ty17, some ty18, some ty19, some ty20, some ty21, some ty22, none, some ty24, some ty25, some ty26, some ty27, none, none, some ty30, none, none, none, none, none, some ty36, none, none, none, none, none, none, none, none, some ty45, some ty46, none, none, none, none, none, none, none, none, some ty55, none, none, none, some ty59, some ty60, some ty61, none, none, none, none, none, none, none, none, none, none, none, none, some ty74, some ty75, none, none, none, none, some ty80, some ty81, some ty82, none, none, none, none, none, none, none, some ty90, none, some ty92, none, none, some ty95, none, none, none, some ty99, none, none, some ty102, none, none, some ty105, some ty106, none, some ty108, none, none, none, none, some ty113, some ty114, some ty115, some ty116, none, none, some ty119, some ty120, some ty121, none, some ty123, some ty124, some ty125, none, none, none, none, none, some ty131, some ty132, some ty133, some ty134, some ty135, some ty136, some ty137, none, some ty139, some ty140, none, some ty142, some ty143, some ty144, some ty145]
theorem tys_ok : TysOk Tryd.prog tys := okFrom_ok (show okFrom Tryd.prog 0 tys from ⟨ty2_ok, ty3_ok, ty4_ok, ty5_ok, ty6_ok, ty7_ok, ty8_ok, ty9_ok, ty10_ok, ty11_ok, ty12_ok, ty13_ok, ty14_ok, ty15_ok, ty16_ok, ty17_ok, ty18_ok, ty19_ok, ty20_ok, ty21_ok, ty22_ok, ty24_ok, ty25_ok, ty26_ok, ty27_ok, ty30_ok, ty36_ok, ty45_ok, ty46_ok, ty55_ok, ty59_ok, ty60_ok, ty61_ok, ty74_ok, ty75_ok, ty80_ok, ty81_ok, ty82_ok, ty90_ok, ty92_ok, ty95_ok, ty99_ok, ty102_ok, ty105_ok, ty106_ok, ty108_ok, ty113_ok, ty114_ok, ty115_ok, ty116_ok, ty119_ok, ty120_ok, ty121_ok, ty123_ok, ty124_ok, ty125_ok, ty131_ok, ty132_ok, ty133_ok, ty134_ok, ty135_ok, ty136_ok, ty137_ok, ty139_ok, ty140_ok, ty142_ok, ty143_ok, ty144_ok, ty145_ok, trivial⟩)
theorem mixed : Tryd.prog.follows .mixedOrders = true := by kernel_rfl
end Go.Proofs.YthmhobnhladhbaaDoor.AM
