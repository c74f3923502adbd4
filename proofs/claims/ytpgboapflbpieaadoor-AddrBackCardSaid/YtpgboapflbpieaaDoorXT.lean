/- What the evaluator of the abstract machine knows of this seat's types, by program (tys.py), and that it is so. -/
import Derived.Test.YtpgboapflbpieaaDoorProg
import Derived.Test.YtpgboapflbpieaaDoorXB
set_option linter.all false
set_option linter.unusedVariables false
set_option linter.unusedSimpArgs false
namespace Go.Proofs.YtpgboapflbpieaaDoor.AM
open Go Go.RowKit
set_option maxRecDepth 100000
def ty2 : Ty := ⟨.int .i64, 1, 8, (.int .i64 0), false⟩
theorem ty2_ok : TyOk Tryd.prog 2 ty2 := ⟨Tryd.underlying2, TyOk.of_info (by kernel_rfl), fun h => (by cases h)⟩
def ty3 : Ty := ⟨.int .i64, 1, 8, (.int .i64 0), false⟩
theorem ty3_ok : TyOk Tryd.prog 3 ty3 := ⟨Tryd.underlying3, TyOk.of_info (by kernel_rfl), fun h => (by cases h)⟩
def ty4 : Ty := ⟨.bool, 1, 1, (.bool false), false⟩
theorem ty4_ok : TyOk Tryd.prog 4 ty4 := ⟨Tryd.underlying4, TyOk.of_info (by kernel_rfl), fun h => (by cases h)⟩
def ty5 : Ty := ⟨.int .u8, 1, 1, (.int .u8 0), false⟩
theorem ty5_ok : TyOk Tryd.prog 5 ty5 := ⟨Tryd.underlying5, TyOk.of_info (by kernel_rfl), fun h => (by cases h)⟩
def ty6 : Ty := ⟨.int .u8, 1, 1, (.int .u8 0), false⟩
theorem ty6_ok : TyOk Tryd.prog 6 ty6 := ⟨Tryd.underlying6, TyOk.of_info (by kernel_rfl), fun h => (by cases h)⟩
def ty7 : Ty := ⟨.struct #[⟨"x", 2, 0, false, "", "runtime", 0⟩, ⟨"y", 3, 1, false, "", "runtime", 8⟩, ⟨"signed", 4, 2, false, "", "runtime", 16⟩, ⟨"code", 6, 3, false, "", "runtime", 17⟩], 4, 24, (.agg #[(.int .i64 0), (.int .i64 0), (.bool false), (.int .u8 0)]), false⟩
theorem ty7_ok : TyOk Tryd.prog 7 ty7 := ⟨Tryd.underlying7, TyOk.of_info (by kernel_rfl), fun h => (by cases h)⟩
def ty8 : Ty := ⟨.struct #[⟨"x", 2, 0, false, "", "runtime", 0⟩, ⟨"y", 3, 1, false, "", "runtime", 8⟩, ⟨"signed", 4, 2, false, "", "runtime", 16⟩, ⟨"code", 6, 3, false, "", "runtime", 17⟩], 4, 24, (.agg #[(.int .i64 0), (.int .i64 0), (.bool false), (.int .u8 0)]), false⟩
theorem ty8_ok : TyOk Tryd.prog 8 ty8 := ⟨Tryd.underlying8, TyOk.of_info (by kernel_rfl), fun h => (by cases h)⟩
def ty9 : Ty := ⟨.string, 1, 16, (.string ⟨#[]⟩), false⟩
theorem ty9_ok : TyOk Tryd.prog 9 ty9 := ⟨Tryd.underlying9, TyOk.of_info (by kernel_rfl), fun h => (by cases h)⟩
def ty10 : Ty := ⟨.string, 1, 16, (.string ⟨#[]⟩), false⟩
theorem ty10_ok : TyOk Tryd.prog 10 ty10 := ⟨Tryd.underlying10, TyOk.of_info (by kernel_rfl), fun h => (by cases h)⟩
def ty11 : Ty := ⟨.string, 1, 16, (.string ⟨#[]⟩), false⟩
theorem ty11_ok : TyOk Tryd.prog 11 ty11 := ⟨Tryd.underlying11, TyOk.of_info (by kernel_rfl), fun h => (by cases h)⟩
def ty12 : Ty := ⟨.int .u64, 1, 8, (.int .u64 0), false⟩
theorem ty12_ok : TyOk Tryd.prog 12 ty12 := ⟨Tryd.underlying12, TyOk.of_info (by kernel_rfl), fun h => (by cases h)⟩
def ty13 : Ty := ⟨.struct #[⟨"msg", 9, 0, false, "", "runtime", 0⟩, ⟨"addr", 12, 1, false, "", "runtime", 16⟩], 2, 24, (.agg #[(.string ⟨#[]⟩), (.int .u64 0)]), false⟩
theorem ty13_ok : TyOk Tryd.prog 13 ty13 := ⟨Tryd.underlying13, TyOk.of_info (by kernel_rfl), fun h => (by cases h)⟩
def ty14 : Ty := ⟨.struct #[⟨"msg", 9, 0, false, "", "runtime", 0⟩, ⟨"addr", 12, 1, false, "", "runtime", 16⟩], 2, 24, (.agg #[(.string ⟨#[]⟩), (.int .u64 0)]), false⟩
theorem ty14_ok : TyOk Tryd.prog 14 ty14 := ⟨Tryd.underlying14, TyOk.of_info (by kernel_rfl), fun h => (by cases h)⟩
def ty15 : Ty := ⟨.pointer 131, 1, 8, (.pointer none), false⟩
theorem ty15_ok : TyOk Tryd.prog 15 ty15 := ⟨Tryd.underlying15, TyOk.of_info (by kernel_rfl), fun h => (by cases h)⟩
def ty16 : Ty := ⟨.pointer 134, 1, 8, (.pointer none), false⟩
theorem ty16_ok : TyOk Tryd.prog 16 ty16 := ⟨Tryd.underlying16, TyOk.of_info (by kernel_rfl), fun h => (by cases h)⟩
def ty17 : Ty := ⟨.pointer 142, 1, 8, (.pointer none), false⟩
theorem ty17_ok : TyOk Tryd.prog 17 ty17 := ⟨Tryd.underlying17, TyOk.of_info (by kernel_rfl), fun h => (by cases h)⟩
def ty18 : Ty := ⟨.struct #[⟨"typ", 17, 0, false, "", "internal/runtime/maps", 0⟩], 1, 8, (.agg #[(.pointer none)]), false⟩
theorem ty18_ok : TyOk Tryd.prog 18 ty18 := ⟨Tryd.underlying18, TyOk.of_info (by kernel_rfl), fun h => (by cases h)⟩
def ty19 : Ty := ⟨.struct #[⟨"typ", 17, 0, false, "", "internal/runtime/maps", 0⟩], 1, 8, (.agg #[(.pointer none)]), false⟩
theorem ty19_ok : TyOk Tryd.prog 19 ty19 := ⟨Tryd.underlying19, TyOk.of_info (by kernel_rfl), fun h => (by cases h)⟩
def ty20 : Ty := ⟨.interface #[], 1, 16, .nilIface, false⟩
theorem ty20_ok : TyOk Tryd.prog 20 ty20 := ⟨Tryd.underlying20, TyOk.of_info (by kernel_rfl), fun h => (by cases h)⟩
def ty21 : Ty := ⟨.int .i32, 1, 4, (.int .i32 0), false⟩
theorem ty21_ok : TyOk Tryd.prog 21 ty21 := ⟨Tryd.underlying21, TyOk.of_info (by kernel_rfl), fun h => (by cases h)⟩
def ty22 : Ty := ⟨.slice 27, 1, 24, (.slice none 0 0), false⟩
theorem ty22_ok : TyOk Tryd.prog 22 ty22 := ⟨Tryd.underlying22, TyOk.of_info (by kernel_rfl), fun h => (by cases h)⟩
def ty24 : Ty := ⟨.struct #[⟨"Local", 9, 0, false, "", "", 0⟩, ⟨"Domain", 9, 1, false, "", "", 16⟩], 2, 32, (.agg #[(.string ⟨#[]⟩), (.string ⟨#[]⟩)]), false⟩
theorem ty24_ok : TyOk Tryd.prog 24 ty24 := ⟨Tryd.underlying24, TyOk.of_info (by kernel_rfl), fun h => (by cases h)⟩
def ty25 : Ty := ⟨.struct #[⟨"Local", 9, 0, false, "", "", 0⟩, ⟨"Domain", 9, 1, false, "", "", 16⟩], 2, 32, (.agg #[(.string ⟨#[]⟩), (.string ⟨#[]⟩)]), true⟩
theorem ty25_ok : TyOk Tryd.prog 25 ty25 := ⟨Tryd.underlying25, TyOk.of_info (by kernel_rfl), fun _ => ⟨by kernel_rfl, by kernel_rfl, by kernel_rfl⟩⟩
def ty26 : Ty := ⟨.struct #[⟨"M", 25, 0, false, "", "", 0⟩, ⟨"S", 9, 2, false, "", "", 32⟩], 3, 48, (.agg #[(.string ⟨#[]⟩), (.string ⟨#[]⟩), (.string ⟨#[]⟩)]), false⟩
theorem ty26_ok : TyOk Tryd.prog 26 ty26 := ⟨Tryd.underlying26, TyOk.of_info (by kernel_rfl), fun h => (by cases h)⟩
def ty27 : Ty := ⟨.struct #[⟨"M", 25, 0, false, "", "", 0⟩, ⟨"S", 9, 2, false, "", "", 32⟩], 3, 48, (.agg #[(.string ⟨#[]⟩), (.string ⟨#[]⟩), (.string ⟨#[]⟩)]), true⟩
theorem ty27_ok : TyOk Tryd.prog 27 ty27 := ⟨Tryd.underlying27, TyOk.of_info (by kernel_rfl), fun _ => ⟨by kernel_rfl, by kernel_rfl, by kernel_rfl⟩⟩
def ty28 : Ty := ⟨.slice 9, 1, 24, (.slice none 0 0), false⟩
theorem ty28_ok : TyOk Tryd.prog 28 ty28 := ⟨Tryd.underlying28, TyOk.of_info (by kernel_rfl), fun h => (by cases h)⟩
def ty31 : Ty := ⟨.int .i64, 1, 8, (.int .i64 0), false⟩
theorem ty31_ok : TyOk Tryd.prog 31 ty31 := ⟨Tryd.underlying31, TyOk.of_info (by kernel_rfl), fun h => (by cases h)⟩
def ty44 : Ty := ⟨.slice 5, 1, 24, (.slice none 0 0), false⟩
theorem ty44_ok : TyOk Tryd.prog 44 ty44 := ⟨Tryd.underlying44, TyOk.of_info (by kernel_rfl), fun h => (by cases h)⟩
def ty49 : Ty := ⟨.pointer 31, 1, 8, (.pointer none), false⟩
theorem ty49_ok : TyOk Tryd.prog 49 ty49 := ⟨Tryd.underlying49, TyOk.of_info (by kernel_rfl), fun h => (by cases h)⟩
def ty56 : Ty := ⟨.struct #[⟨"e", 31, 0, false, "", "pouch/addr", 0⟩], 1, 8, (.agg #[(.int .i64 0)]), false⟩
theorem ty56_ok : TyOk Tryd.prog 56 ty56 := ⟨Tryd.underlying56, TyOk.of_info (by kernel_rfl), fun h => (by cases h)⟩
def ty57 : Ty := ⟨.struct #[⟨"e", 31, 0, false, "", "pouch/addr", 0⟩], 1, 8, (.agg #[(.int .i64 0)]), true⟩
theorem ty57_ok : TyOk Tryd.prog 57 ty57 := ⟨Tryd.underlying57, TyOk.of_info (by kernel_rfl), fun _ => ⟨by kernel_rfl, by kernel_rfl, by kernel_rfl⟩⟩
def ty69 : Ty := ⟨.pointer 71, 1, 8, (.pointer none), false⟩
theorem ty69_ok : TyOk Tryd.prog 69 ty69 := ⟨Tryd.underlying69, TyOk.of_info (by kernel_rfl), fun h => (by cases h)⟩
def ty70 : Ty := ⟨.struct #[⟨"addr", 69, 0, false, "", "strings", 0⟩, ⟨"buf", 44, 1, false, "", "strings", 8⟩], 2, 32, (.agg #[(.pointer none), (.slice none 0 0)]), false⟩
theorem ty70_ok : TyOk Tryd.prog 70 ty70 := ⟨Tryd.underlying70, TyOk.of_info (by kernel_rfl), fun h => (by cases h)⟩
def ty71 : Ty := ⟨.struct #[⟨"addr", 69, 0, false, "", "strings", 0⟩, ⟨"buf", 44, 1, false, "", "strings", 8⟩], 2, 32, (.agg #[(.pointer none), (.slice none 0 0)]), false⟩
theorem ty71_ok : TyOk Tryd.prog 71 ty71 := ⟨Tryd.underlying71, TyOk.of_info (by kernel_rfl), fun h => (by cases h)⟩
def ty73 : Ty := ⟨.interface #[("Error", 72)], 1, 16, .nilIface, false⟩
theorem ty73_ok : TyOk Tryd.prog 73 ty73 := ⟨Tryd.underlying73, TyOk.of_info (by kernel_rfl), fun h => (by cases h)⟩
def ty74 : Ty := ⟨.interface #[("Error", 72)], 1, 16, .nilIface, false⟩
theorem ty74_ok : TyOk Tryd.prog 74 ty74 := ⟨Tryd.underlying74, TyOk.of_info (by kernel_rfl), fun h => (by cases h)⟩
def ty81 : Ty := ⟨.pointer 5, 1, 8, (.pointer none), false⟩
theorem ty81_ok : TyOk Tryd.prog 81 ty81 := ⟨Tryd.underlying81, TyOk.of_info (by kernel_rfl), fun h => (by cases h)⟩
def ty87 : Ty := ⟨.unsafePointer, 1, 8, (.pointer none), false⟩
theorem ty87_ok : TyOk Tryd.prog 87 ty87 := ⟨Tryd.underlying87, TyOk.of_info (by kernel_rfl), fun h => (by cases h)⟩
def ty90 : Ty := ⟨.int .i64, 1, 8, (.int .i64 0), false⟩
theorem ty90_ok : TyOk Tryd.prog 90 ty90 := ⟨Tryd.underlying90, TyOk.of_info (by kernel_rfl), fun h => (by cases h)⟩
def ty93 : Ty := ⟨.pointer 103, 1, 8, (.pointer none), false⟩
theorem ty93_ok : TyOk Tryd.prog 93 ty93 := ⟨Tryd.underlying93, TyOk.of_info (by kernel_rfl), fun h => (by cases h)⟩
def ty98 : Ty := ⟨.int .u64, 1, 8, (.int .u64 0), false⟩
theorem ty98_ok : TyOk Tryd.prog 98 ty98 := ⟨Tryd.underlying98, TyOk.of_info (by kernel_rfl), fun h => (by cases h)⟩
def ty101 : Ty := ⟨.int .u64, 1, 8, (.int .u64 0), false⟩
theorem ty101_ok : TyOk Tryd.prog 101 ty101 := ⟨Tryd.underlying101, TyOk.of_info (by kernel_rfl), fun h => (by cases h)⟩
def ty102 : Ty := ⟨.struct #[⟨"Func", 9, 0, false, "", "", 0⟩, ⟨"Num", 9, 1, false, "", "", 16⟩, ⟨"Err", 74, 2, false, "", "", 32⟩], 3, 48, (.agg #[(.string ⟨#[]⟩), (.string ⟨#[]⟩), .nilIface]), false⟩
theorem ty102_ok : TyOk Tryd.prog 102 ty102 := ⟨Tryd.underlying102, TyOk.of_info (by kernel_rfl), fun h => (by cases h)⟩
def ty103 : Ty := ⟨.struct #[⟨"Func", 9, 0, false, "", "", 0⟩, ⟨"Num", 9, 1, false, "", "", 16⟩, ⟨"Err", 74, 2, false, "", "", 32⟩], 3, 48, (.agg #[(.string ⟨#[]⟩), (.string ⟨#[]⟩), .nilIface]), false⟩
theorem ty103_ok : TyOk Tryd.prog 103 ty103 := ⟨Tryd.underlying103, TyOk.of_info (by kernel_rfl), fun h => (by cases h)⟩
def ty105 : Ty := ⟨.array 24 5, 24, 24, (.agg #[(.int .u8 0), (.int .u8 0), (.int .u8 0), (.int .u8 0), (.int .u8 0), (.int .u8 0), (.int .u8 0), (.int .u8 0), (.int .u8 0), (.int .u8 0), (.int .u8 0), (.int .u8 0), (.int .u8 0), (.int .u8 0), (.int .u8 0), (.int .u8 0), (.int .u8 0), (.int .u8 0), (.int .u8 0), (.int .u8 0), (.int .u8 0), (.int .u8 0), (.int .u8 0), (.int .u8 0)]), false⟩
theorem ty105_ok : TyOk Tryd.prog 105 ty105 := ⟨Tryd.underlying105, TyOk.of_info (by kernel_rfl), fun h => (by cases h)⟩
def ty110 : Ty := ⟨.array 256 5, 256, 256, (.agg #[(.int .u8 0), (.int .u8 0), (.int .u8 0), (.int .u8 0), (.int .u8 0), (.int .u8 0), (.int .u8 0), (.int .u8 0), (.int .u8 0), (.int .u8 0), (.int .u8 0), (.int .u8 0), (.int .u8 0), (.int .u8 0), (.int .u8 0), (.int .u8 0), (.int .u8 0), (.int .u8 0), (.int .u8 0), (.int .u8 0), (.int .u8 0), (.int .u8 0), (.int .u8 0), (.int .u8 0), (.int .u8 0), (.int .u8 0), (.int .u8 0), (.int .u8 0), (.int .u8 0), (.int .u8 0), (.int .u8 0), (.int .u8 0), (.int .u8 0), (.int .u8 0), (.int .u8 0), (.int .u8 0), (.int .u8 0), (.int .u8 0), (.int .u8 0), (.int .u8 0), (.int .u8 0), (.int .u8 0), (.int .u8 0), (.int .u8 0), (.int .u8 0), (.int .u8 0), (.int .u8 0), (.int .u8 0), (.int .u8 0), (.int .u8 0), (.int .u8 0), (.int .u8 0), (.int .u8 0), (.int .u8 0), (.int .u8 0), (.int .u8 0), (.int .u8 0), (.int .u8 0), (.int .u8 0), (.int .u8 0), (.int .u8 0), (.int .u8 0), (.int .u8 0), (.int .u8 0), (.int .u8 0), (.int .u8 0), (.int .u8 0), (.int .u8 0), (.int .u8 0), (.int .u8 0), (.int .u8 0), (.int .u8 0), (.int .u8 0), (.int .u8 0), (.int .u8 0), (.int .u8 0), (.int .u8 0), (.int .u8 0), (.int .u8 0), (.int .u8 0), (.int .u8 0), (.int .u8 0), (.int .u8 0), (.int .u8 0), (.int .u8 0), (.int .u8 0), (.int .u8 0), (.int .u8 0), (.int .u8 0), (.int .u8 0), (.int .u8 0), (.int .u8 0), (.int .u8 0), (.int .u8 0), (.int .u8 0), (.int .u8 0), (.int .u8 0), (.int .u8 0), (.int .u8 0), (.int .u8 0), (.int .u8 0), (.int .u8 0), (.int .u8 0), (.int .u8 0), (.int .u8 0), (.int .u8 0), (.int .u8 0), (.int .u8 0), (.int .u8 0), (.int .u8 0), (.int .u8 0), (.int .u8 0), (.int .u8 0), (.int .u8 0), (.int .u8 0), (.int .u8 0), (.int .u8 0), (.int .u8 0), (.int .u8 0), (.int .u8 0), (.int .u8 0), (.int .u8 0), (.int .u8 0), (.int .u8 0), (.int .u8 0), (.int .u8 0), (.int .u8 0), (.int .u8 0), (.int .u8 0), (.int .u8 0), (.int .u8 0), (.int .u8 0), (.int .u8 0), (.int .u8 0), (.int .u8 0), (.int .u8 0), (.int .u8 0), (.int .u8 0), (.int .u8 0), (.int .u8 0), (.int .u8 0), (.int .u8 0), (.int .u8 0), (.int .u8 0), (.int .u8 0), (.int .u8 0), (.int .u8 0), (.int .u8 0), (.int .u8 0), (.int .u8 0), (.int .u8 0), (.int .u8 0), (.int .u8 0), (.int .u8 0), (.int .u8 0), (.int .u8 0), (.int .u8 0), (.int .u8 0), (.int .u8 0), (.int .u8 0), (.int .u8 0), (.int .u8 0), (.int .u8 0), (.int .u8 0), (.int .u8 0), (.int .u8 0), (.int .u8 0), (.int .u8 0), (.int .u8 0), (.int .u8 0), (.int .u8 0), (.int .u8 0), (.int .u8 0), (.int .u8 0), (.int .u8 0), (.int .u8 0), (.int .u8 0), (.int .u8 0), (.int .u8 0), (.int .u8 0), (.int .u8 0), (.int .u8 0), (.int .u8 0), (.int .u8 0), (.int .u8 0), (.int .u8 0), (.int .u8 0), (.int .u8 0), (.int .u8 0), (.int .u8 0), (.int .u8 0), (.int .u8 0), (.int .u8 0), (.int .u8 0), (.int .u8 0), (.int .u8 0), (.int .u8 0), (.int .u8 0), (.int .u8 0), (.int .u8 0), (.int .u8 0), (.int .u8 0), (.int .u8 0), (.int .u8 0), (.int .u8 0), (.int .u8 0), (.int .u8 0), (.int .u8 0), (.int .u8 0), (.int .u8 0), (.int .u8 0), (.int .u8 0), (.int .u8 0), (.int .u8 0), (.int .u8 0), (.int .u8 0), (.int .u8 0), (.int .u8 0), (.int .u8 0), (.int .u8 0), (.int .u8 0), (.int .u8 0), (.int .u8 0), (.int .u8 0), (.int .u8 0), (.int .u8 0), (.int .u8 0), (.int .u8 0), (.int .u8 0), (.int .u8 0), (.int .u8 0), (.int .u8 0), (.int .u8 0), (.int .u8 0), (.int .u8 0), (.int .u8 0), (.int .u8 0), (.int .u8 0), (.int .u8 0), (.int .u8 0), (.int .u8 0), (.int .u8 0), (.int .u8 0), (.int .u8 0), (.int .u8 0), (.int .u8 0), (.int .u8 0), (.int .u8 0), (.int .u8 0), (.int .u8 0), (.int .u8 0), (.int .u8 0), (.int .u8 0), (.int .u8 0), (.int .u8 0), (.int .u8 0)]), false⟩
theorem ty110_ok : TyOk Tryd.prog 110 ty110 := ⟨Tryd.underlying110, TyOk.of_info (by kernel_rfl), fun h => (by cases h)⟩
def ty111 : Ty := ⟨.struct #[⟨"lo", 5, 0, false, "", "unicode/utf8", 0⟩, ⟨"hi", 5, 1, false, "", "unicode/utf8", 1⟩], 2, 2, (.agg #[(.int .u8 0), (.int .u8 0)]), false⟩
theorem ty111_ok : TyOk Tryd.prog 111 ty111 := ⟨Tryd.underlying111, TyOk.of_info (by kernel_rfl), fun h => (by cases h)⟩
def ty112 : Ty := ⟨.struct #[⟨"lo", 5, 0, false, "", "unicode/utf8", 0⟩, ⟨"hi", 5, 1, false, "", "unicode/utf8", 1⟩], 2, 2, (.agg #[(.int .u8 0), (.int .u8 0)]), false⟩
theorem ty112_ok : TyOk Tryd.prog 112 ty112 := ⟨Tryd.underlying112, TyOk.of_info (by kernel_rfl), fun h => (by cases h)⟩
def ty113 : Ty := ⟨.array 16 112, 32, 32, (.agg #[(.int .u8 0), (.int .u8 0), (.int .u8 0), (.int .u8 0), (.int .u8 0), (.int .u8 0), (.int .u8 0), (.int .u8 0), (.int .u8 0), (.int .u8 0), (.int .u8 0), (.int .u8 0), (.int .u8 0), (.int .u8 0), (.int .u8 0), (.int .u8 0), (.int .u8 0), (.int .u8 0), (.int .u8 0), (.int .u8 0), (.int .u8 0), (.int .u8 0), (.int .u8 0), (.int .u8 0), (.int .u8 0), (.int .u8 0), (.int .u8 0), (.int .u8 0), (.int .u8 0), (.int .u8 0), (.int .u8 0), (.int .u8 0)]), false⟩
theorem ty113_ok : TyOk Tryd.prog 113 ty113 := ⟨Tryd.underlying113, TyOk.of_info (by kernel_rfl), fun h => (by cases h)⟩
def ty116 : Ty := ⟨.pointer 118, 1, 8, (.pointer none), false⟩
theorem ty116_ok : TyOk Tryd.prog 116 ty116 := ⟨Tryd.underlying116, TyOk.of_info (by kernel_rfl), fun h => (by cases h)⟩
def ty117 : Ty := ⟨.struct #[⟨"s", 9, 0, false, "", "errors", 0⟩], 1, 16, (.agg #[(.string ⟨#[]⟩)]), false⟩
theorem ty117_ok : TyOk Tryd.prog 117 ty117 := ⟨Tryd.underlying117, TyOk.of_info (by kernel_rfl), fun h => (by cases h)⟩
def ty118 : Ty := ⟨.struct #[⟨"s", 9, 0, false, "", "errors", 0⟩], 1, 16, (.agg #[(.string ⟨#[]⟩)]), false⟩
theorem ty118_ok : TyOk Tryd.prog 118 ty118 := ⟨Tryd.underlying118, TyOk.of_info (by kernel_rfl), fun h => (by cases h)⟩
def ty120 : Ty := ⟨.array 20 98, 20, 160, (.agg #[(.int .u64 0), (.int .u64 0), (.int .u64 0), (.int .u64 0), (.int .u64 0), (.int .u64 0), (.int .u64 0), (.int .u64 0), (.int .u64 0), (.int .u64 0), (.int .u64 0), (.int .u64 0), (.int .u64 0), (.int .u64 0), (.int .u64 0), (.int .u64 0), (.int .u64 0), (.int .u64 0), (.int .u64 0), (.int .u64 0)]), false⟩
theorem ty120_ok : TyOk Tryd.prog 120 ty120 := ⟨Tryd.underlying120, TyOk.of_info (by kernel_rfl), fun h => (by cases h)⟩
def ty121 : Ty := ⟨.int .u32, 1, 4, (.int .u32 0), false⟩
theorem ty121_ok : TyOk Tryd.prog 121 ty121 := ⟨Tryd.underlying121, TyOk.of_info (by kernel_rfl), fun h => (by cases h)⟩
def ty122 : Ty := ⟨.array 65 5, 65, 65, (.agg #[(.int .u8 0), (.int .u8 0), (.int .u8 0), (.int .u8 0), (.int .u8 0), (.int .u8 0), (.int .u8 0), (.int .u8 0), (.int .u8 0), (.int .u8 0), (.int .u8 0), (.int .u8 0), (.int .u8 0), (.int .u8 0), (.int .u8 0), (.int .u8 0), (.int .u8 0), (.int .u8 0), (.int .u8 0), (.int .u8 0), (.int .u8 0), (.int .u8 0), (.int .u8 0), (.int .u8 0), (.int .u8 0), (.int .u8 0), (.int .u8 0), (.int .u8 0), (.int .u8 0), (.int .u8 0), (.int .u8 0), (.int .u8 0), (.int .u8 0), (.int .u8 0), (.int .u8 0), (.int .u8 0), (.int .u8 0), (.int .u8 0), (.int .u8 0), (.int .u8 0), (.int .u8 0), (.int .u8 0), (.int .u8 0), (.int .u8 0), (.int .u8 0), (.int .u8 0), (.int .u8 0), (.int .u8 0), (.int .u8 0), (.int .u8 0), (.int .u8 0), (.int .u8 0), (.int .u8 0), (.int .u8 0), (.int .u8 0), (.int .u8 0), (.int .u8 0), (.int .u8 0), (.int .u8 0), (.int .u8 0), (.int .u8 0), (.int .u8 0), (.int .u8 0), (.int .u8 0), (.int .u8 0)]), false⟩
theorem ty122_ok : TyOk Tryd.prog 122 ty122 := ⟨Tryd.underlying122, TyOk.of_info (by kernel_rfl), fun h => (by cases h)⟩
def ty128 : Ty := ⟨.array 32 5, 32, 32, (.agg #[(.int .u8 0), (.int .u8 0), (.int .u8 0), (.int .u8 0), (.int .u8 0), (.int .u8 0), (.int .u8 0), (.int .u8 0), (.int .u8 0), (.int .u8 0), (.int .u8 0), (.int .u8 0), (.int .u8 0), (.int .u8 0), (.int .u8 0), (.int .u8 0), (.int .u8 0), (.int .u8 0), (.int .u8 0), (.int .u8 0), (.int .u8 0), (.int .u8 0), (.int .u8 0), (.int .u8 0), (.int .u8 0), (.int .u8 0), (.int .u8 0), (.int .u8 0), (.int .u8 0), (.int .u8 0), (.int .u8 0), (.int .u8 0)]), false⟩
theorem ty128_ok : TyOk Tryd.prog 128 ty128 := ⟨Tryd.underlying128, TyOk.of_info (by kernel_rfl), fun h => (by cases h)⟩
def ty129 : Ty := ⟨.array 64 5, 64, 64, (.agg #[(.int .u8 0), (.int .u8 0), (.int .u8 0), (.int .u8 0), (.int .u8 0), (.int .u8 0), (.int .u8 0), (.int .u8 0), (.int .u8 0), (.int .u8 0), (.int .u8 0), (.int .u8 0), (.int .u8 0), (.int .u8 0), (.int .u8 0), (.int .u8 0), (.int .u8 0), (.int .u8 0), (.int .u8 0), (.int .u8 0), (.int .u8 0), (.int .u8 0), (.int .u8 0), (.int .u8 0), (.int .u8 0), (.int .u8 0), (.int .u8 0), (.int .u8 0), (.int .u8 0), (.int .u8 0), (.int .u8 0), (.int .u8 0), (.int .u8 0), (.int .u8 0), (.int .u8 0), (.int .u8 0), (.int .u8 0), (.int .u8 0), (.int .u8 0), (.int .u8 0), (.int .u8 0), (.int .u8 0), (.int .u8 0), (.int .u8 0), (.int .u8 0), (.int .u8 0), (.int .u8 0), (.int .u8 0), (.int .u8 0), (.int .u8 0), (.int .u8 0), (.int .u8 0), (.int .u8 0), (.int .u8 0), (.int .u8 0), (.int .u8 0), (.int .u8 0), (.int .u8 0), (.int .u8 0), (.int .u8 0), (.int .u8 0), (.int .u8 0), (.int .u8 0), (.int .u8 0)]), false⟩
theorem ty129_ok : TyOk Tryd.prog 129 ty129 := ⟨Tryd.underlying129, TyOk.of_info (by kernel_rfl), fun h => (by cases h)⟩
def ty130 : Ty := ⟨.struct #[⟨"_interface", 17, 0, false, "", "runtime", 0⟩, ⟨"concrete", 17, 1, false, "", "runtime", 8⟩, ⟨"asserted", 17, 2, false, "", "runtime", 16⟩, ⟨"missingMethod", 9, 3, false, "", "runtime", 24⟩], 4, 40, (.agg #[(.pointer none), (.pointer none), (.pointer none), (.string ⟨#[]⟩)]), false⟩
theorem ty130_ok : TyOk Tryd.prog 130 ty130 := ⟨Tryd.underlying130, TyOk.of_info (by kernel_rfl), fun h => (by cases h)⟩
def ty131 : Ty := ⟨.struct #[⟨"_interface", 17, 0, false, "", "runtime", 0⟩, ⟨"concrete", 17, 1, false, "", "runtime", 8⟩, ⟨"asserted", 17, 2, false, "", "runtime", 16⟩, ⟨"missingMethod", 9, 3, false, "", "runtime", 24⟩], 4, 40, (.agg #[(.pointer none), (.pointer none), (.pointer none), (.string ⟨#[]⟩)]), false⟩
theorem ty131_ok : TyOk Tryd.prog 131 ty131 := ⟨Tryd.underlying131, TyOk.of_info (by kernel_rfl), fun h => (by cases h)⟩
def ty132 : Ty := ⟨.array 0 16, 0, 0, (.agg #[]), false⟩
theorem ty132_ok : TyOk Tryd.prog 132 ty132 := ⟨Tryd.underlying132, TyOk.of_info (by kernel_rfl), fun h => (by cases h)⟩
def ty133 : Ty := ⟨.struct #[⟨"_", 132, 0, false, "", "runtime", 0⟩], 0, 0, (.agg #[]), false⟩
theorem ty133_ok : TyOk Tryd.prog 133 ty133 := ⟨Tryd.underlying133, TyOk.of_info (by kernel_rfl), fun h => (by cases h)⟩
def ty134 : Ty := ⟨.struct #[⟨"_", 132, 0, false, "", "runtime", 0⟩], 0, 0, (.agg #[]), false⟩
theorem ty134_ok : TyOk Tryd.prog 134 ty134 := ⟨Tryd.underlying134, TyOk.of_info (by kernel_rfl), fun h => (by cases h)⟩
def ty136 : Ty := ⟨.int .u8, 1, 1, (.int .u8 0), false⟩
theorem ty136_ok : TyOk Tryd.prog 136 ty136 := ⟨Tryd.underlying136, TyOk.of_info (by kernel_rfl), fun h => (by cases h)⟩
def ty137 : Ty := ⟨.int .u8, 1, 1, (.int .u8 0), false⟩
theorem ty137_ok : TyOk Tryd.prog 137 ty137 := ⟨Tryd.underlying137, TyOk.of_info (by kernel_rfl), fun h => (by cases h)⟩
def ty139 : Ty := ⟨.int .i32, 1, 4, (.int .i32 0), false⟩
theorem ty139_ok : TyOk Tryd.prog 139 ty139 := ⟨Tryd.underlying139, TyOk.of_info (by kernel_rfl), fun h => (by cases h)⟩
def ty140 : Ty := ⟨.int .i32, 1, 4, (.int .i32 0), false⟩
theorem ty140_ok : TyOk Tryd.prog 140 ty140 := ⟨Tryd.underlying140, TyOk.of_info (by kernel_rfl), fun h => (by cases h)⟩
def ty141 : Ty := ⟨.struct #[⟨"Size_", 12, 0, false, "", "", 0⟩, ⟨"PtrBytes", 12, 1, false, "", "", 8⟩, ⟨"Hash", 121, 2, false, "", "", 16⟩, ⟨"TFlag", 136, 3, false, "", "", 20⟩, ⟨"Align_", 5, 4, false, "", "", 21⟩, ⟨"FieldAlign_", 5, 5, false, "", "", 22⟩, ⟨"Kind_", 137, 6, false, "", "", 23⟩, ⟨"Equal", 138, 7, false, "", "", 24⟩, ⟨"GCData", 81, 8, false, "", "", 32⟩, ⟨"Str", 139, 9, false, "", "", 40⟩, ⟨"PtrToThis", 140, 10, false, "", "", 44⟩], 11, 48, (.agg #[(.int .u64 0), (.int .u64 0), (.int .u32 0), (.int .u8 0), (.int .u8 0), (.int .u8 0), (.int .u8 0), .nilFunc, (.pointer none), (.int .i32 0), (.int .i32 0)]), false⟩
theorem ty141_ok : TyOk Tryd.prog 141 ty141 := ⟨Tryd.underlying141, TyOk.of_info (by kernel_rfl), fun h => (by cases h)⟩
def ty142 : Ty := ⟨.struct #[⟨"Size_", 12, 0, false, "", "", 0⟩, ⟨"PtrBytes", 12, 1, false, "", "", 8⟩, ⟨"Hash", 121, 2, false, "", "", 16⟩, ⟨"TFlag", 136, 3, false, "", "", 20⟩, ⟨"Align_", 5, 4, false, "", "", 21⟩, ⟨"FieldAlign_", 5, 5, false, "", "", 22⟩, ⟨"Kind_", 137, 6, false, "", "", 23⟩, ⟨"Equal", 138, 7, false, "", "", 24⟩, ⟨"GCData", 81, 8, false, "", "", 32⟩, ⟨"Str", 139, 9, false, "", "", 40⟩, ⟨"PtrToThis", 140, 10, false, "", "", 44⟩], 11, 48, (.agg #[(.int .u64 0), (.int .u64 0), (.int .u32 0), (.int .u8 0), (.int .u8 0), (.int .u8 0), (.int .u8 0), .nilFunc, (.pointer none), (.int .i32 0), (.int .i32 0)]), false⟩
theorem ty142_ok : TyOk Tryd.prog 142 ty142 := ⟨Tryd.underlying142, TyOk.of_info (by kernel_rfl), fun h => (by cases h)⟩
def tys : Tys := [none, none, some ty2, some ty3, some ty4, some ty5, some ty6, some ty7, some ty8, some ty9, some ty10, some ty11, some ty12, some ty13, some ty14, some ty15, some ty16, some ty17, some ty18, some ty19, some ty20, some ty21, some ty22, none, some ty24, some ty25, some ty26, some ty27, some ty28, none, none, some ty31, none, none, none, none, none, none, none, none, none, none, none, none, some ty44, none, none, none, none, some ty49, none, none, none, none, none, none, some ty56, some ty57, none, none, none, none, none, none, none, none, none, none, none, some ty69, some ty70, some ty71, none, some ty73, some ty74, none, none, none, none, none, none, some ty81, none, none, none, none, none, some ty87, none, none, some ty90, none, none, some ty93, none, none, none, none, some ty98, none, none, some ty101, some ty102, some ty103, none, some ty105, none, none, none, none, some ty110, some ty111, some ty112, some ty113, none, none, some ty116, some ty117, some ty118, none, some ty120, some ty121, some ty122, none, none, none, none, none, some ty128, some ty129, some ty130, some ty131, some ty132, some ty133, some ty134, none, some ty136, some ty137, none, some ty139, some ty140, some ty141, some ty142]
theorem tys_ok : TysOk Tryd.prog tys := okFrom_ok (show okFrom Tryd.prog 0 tys from ⟨ty2_ok, ty3_ok, ty4_ok, ty5_ok, ty6_ok, ty7_ok, ty8_ok, ty9_ok, ty10_ok, ty11_ok, ty12_ok, ty13_ok, ty14_ok, ty15_ok, ty16_ok, ty17_ok, ty18_ok, ty19_ok, ty20_ok, ty21_ok, ty22_ok, ty24_ok, ty25_ok, ty26_ok, ty27_ok, ty28_ok, ty31_ok, ty44_ok, ty49_ok, ty56_ok, ty57_ok, ty69_ok, ty70_ok, ty71_ok, ty73_ok, ty74_ok, ty81_ok, ty87_ok, ty90_ok, ty93_ok, ty98_ok, ty101_ok, ty102_ok, ty103_ok, ty105_ok, ty110_ok, ty111_ok, ty112_ok, ty113_ok, ty116_ok, ty117_ok, ty118_ok, ty120_ok, ty121_ok, ty122_ok, ty128_ok, ty129_ok, ty130_ok, ty131_ok, ty132_ok, ty133_ok, ty134_ok, ty136_ok, ty137_ok, ty139_ok, ty140_ok, ty141_ok, ty142_ok, trivial⟩)
theorem mixed : Tryd.prog.follows .mixedOrders = true := by kernel_rfl
end Go.Proofs.YtpgboapflbpieaaDoor.AM
