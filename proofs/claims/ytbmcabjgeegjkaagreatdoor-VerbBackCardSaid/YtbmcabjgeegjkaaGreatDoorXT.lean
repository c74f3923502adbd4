/- What the evaluator of the abstract machine knows of this seat's types, by program (tys.py), and that it is so. -/
import Derived.Test.YtbmcabjgeegjkaaGreatDoorProg
import Derived.Test.YtbmcabjgeegjkaaGreatDoorXB
namespace Go.Proofs.YtbmcabjgeegjkaaGreatDoor.AM
open Go Go.RowKit
set_option linter.unusedVariables false
set_option maxRecDepth 100000
def ty2 : Ty := ⟨.int .i64, 1, 8, (.int .i64 0), false⟩
theorem ty2_ok : TyOk Tryz.prog 2 ty2 := ⟨Tryz.underlying2, TyOk.of_info (by kernel_rfl), fun h => (by cases h)⟩
def ty3 : Ty := ⟨.int .i64, 1, 8, (.int .i64 0), false⟩
theorem ty3_ok : TyOk Tryz.prog 3 ty3 := ⟨Tryz.underlying3, TyOk.of_info (by kernel_rfl), fun h => (by cases h)⟩
def ty4 : Ty := ⟨.bool, 1, 1, (.bool false), false⟩
theorem ty4_ok : TyOk Tryz.prog 4 ty4 := ⟨Tryz.underlying4, TyOk.of_info (by kernel_rfl), fun h => (by cases h)⟩
def ty5 : Ty := ⟨.int .u8, 1, 1, (.int .u8 0), false⟩
theorem ty5_ok : TyOk Tryz.prog 5 ty5 := ⟨Tryz.underlying5, TyOk.of_info (by kernel_rfl), fun h => (by cases h)⟩
def ty6 : Ty := ⟨.int .u8, 1, 1, (.int .u8 0), false⟩
theorem ty6_ok : TyOk Tryz.prog 6 ty6 := ⟨Tryz.underlying6, TyOk.of_info (by kernel_rfl), fun h => (by cases h)⟩
def ty7 : Ty := ⟨.struct #[⟨"x", 2, 0, false, "", "runtime", 0⟩, ⟨"y", 3, 1, false, "", "runtime", 8⟩, ⟨"signed", 4, 2, false, "", "runtime", 16⟩, ⟨"code", 6, 3, false, "", "runtime", 17⟩], 4, 24, (.agg #[(.int .i64 0), (.int .i64 0), (.bool false), (.int .u8 0)]), false⟩
theorem ty7_ok : TyOk Tryz.prog 7 ty7 := ⟨Tryz.underlying7, TyOk.of_info (by kernel_rfl), fun h => (by cases h)⟩
def ty8 : Ty := ⟨.struct #[⟨"x", 2, 0, false, "", "runtime", 0⟩, ⟨"y", 3, 1, false, "", "runtime", 8⟩, ⟨"signed", 4, 2, false, "", "runtime", 16⟩, ⟨"code", 6, 3, false, "", "runtime", 17⟩], 4, 24, (.agg #[(.int .i64 0), (.int .i64 0), (.bool false), (.int .u8 0)]), false⟩
theorem ty8_ok : TyOk Tryz.prog 8 ty8 := ⟨Tryz.underlying8, TyOk.of_info (by kernel_rfl), fun h => (by cases h)⟩
def ty9 : Ty := ⟨.string, 1, 16, (.string ⟨#[]⟩), false⟩
theorem ty9_ok : TyOk Tryz.prog 9 ty9 := ⟨Tryz.underlying9, TyOk.of_info (by kernel_rfl), fun h => (by cases h)⟩
def ty10 : Ty := ⟨.string, 1, 16, (.string ⟨#[]⟩), false⟩
theorem ty10_ok : TyOk Tryz.prog 10 ty10 := ⟨Tryz.underlying10, TyOk.of_info (by kernel_rfl), fun h => (by cases h)⟩
def ty11 : Ty := ⟨.string, 1, 16, (.string ⟨#[]⟩), false⟩
theorem ty11_ok : TyOk Tryz.prog 11 ty11 := ⟨Tryz.underlying11, TyOk.of_info (by kernel_rfl), fun h => (by cases h)⟩
def ty12 : Ty := ⟨.int .u64, 1, 8, (.int .u64 0), false⟩
theorem ty12_ok : TyOk Tryz.prog 12 ty12 := ⟨Tryz.underlying12, TyOk.of_info (by kernel_rfl), fun h => (by cases h)⟩
def ty13 : Ty := ⟨.struct #[⟨"msg", 9, 0, false, "", "runtime", 0⟩, ⟨"addr", 12, 1, false, "", "runtime", 16⟩], 2, 24, (.agg #[(.string ⟨#[]⟩), (.int .u64 0)]), false⟩
theorem ty13_ok : TyOk Tryz.prog 13 ty13 := ⟨Tryz.underlying13, TyOk.of_info (by kernel_rfl), fun h => (by cases h)⟩
def ty14 : Ty := ⟨.struct #[⟨"msg", 9, 0, false, "", "runtime", 0⟩, ⟨"addr", 12, 1, false, "", "runtime", 16⟩], 2, 24, (.agg #[(.string ⟨#[]⟩), (.int .u64 0)]), false⟩
theorem ty14_ok : TyOk Tryz.prog 14 ty14 := ⟨Tryz.underlying14, TyOk.of_info (by kernel_rfl), fun h => (by cases h)⟩
def ty15 : Ty := ⟨.pointer 154, 1, 8, (.pointer none), false⟩
theorem ty15_ok : TyOk Tryz.prog 15 ty15 := ⟨Tryz.underlying15, TyOk.of_info (by kernel_rfl), fun h => (by cases h)⟩
def ty16 : Ty := ⟨.pointer 157, 1, 8, (.pointer none), false⟩
theorem ty16_ok : TyOk Tryz.prog 16 ty16 := ⟨Tryz.underlying16, TyOk.of_info (by kernel_rfl), fun h => (by cases h)⟩
def ty17 : Ty := ⟨.pointer 165, 1, 8, (.pointer none), false⟩
theorem ty17_ok : TyOk Tryz.prog 17 ty17 := ⟨Tryz.underlying17, TyOk.of_info (by kernel_rfl), fun h => (by cases h)⟩
def ty18 : Ty := ⟨.struct #[⟨"typ", 17, 0, false, "", "internal/runtime/maps", 0⟩], 1, 8, (.agg #[(.pointer none)]), false⟩
theorem ty18_ok : TyOk Tryz.prog 18 ty18 := ⟨Tryz.underlying18, TyOk.of_info (by kernel_rfl), fun h => (by cases h)⟩
def ty19 : Ty := ⟨.struct #[⟨"typ", 17, 0, false, "", "internal/runtime/maps", 0⟩], 1, 8, (.agg #[(.pointer none)]), false⟩
theorem ty19_ok : TyOk Tryz.prog 19 ty19 := ⟨Tryz.underlying19, TyOk.of_info (by kernel_rfl), fun h => (by cases h)⟩
def ty20 : Ty := ⟨.interface #[], 1, 16, .nilIface, false⟩
theorem ty20_ok : TyOk Tryz.prog 20 ty20 := ⟨Tryz.underlying20, TyOk.of_info (by kernel_rfl), fun h => (by cases h)⟩
def ty21 : Ty := ⟨.int .i32, 1, 4, (.int .i32 0), false⟩
theorem ty21_ok : TyOk Tryz.prog 21 ty21 := ⟨Tryz.underlying21, TyOk.of_info (by kernel_rfl), fun h => (by cases h)⟩
def ty22 : Ty := ⟨.slice 29, 1, 24, (.slice none 0 0), false⟩
theorem ty22_ok : TyOk Tryz.prog 22 ty22 := ⟨Tryz.underlying22, TyOk.of_info (by kernel_rfl), fun h => (by cases h)⟩
def ty24 : Ty := ⟨.struct #[⟨"Local", 9, 0, false, "", "", 0⟩, ⟨"Domain", 9, 1, false, "", "", 16⟩], 2, 32, (.agg #[(.string ⟨#[]⟩), (.string ⟨#[]⟩)]), false⟩
theorem ty24_ok : TyOk Tryz.prog 24 ty24 := ⟨Tryz.underlying24, TyOk.of_info (by kernel_rfl), fun h => (by cases h)⟩
def ty25 : Ty := ⟨.struct #[⟨"Local", 9, 0, false, "", "", 0⟩, ⟨"Domain", 9, 1, false, "", "", 16⟩], 2, 32, (.agg #[(.string ⟨#[]⟩), (.string ⟨#[]⟩)]), true⟩
theorem ty25_ok : TyOk Tryz.prog 25 ty25 := ⟨Tryz.underlying25, TyOk.of_info (by kernel_rfl), fun _ => ⟨by kernel_rfl, by kernel_rfl, by kernel_rfl⟩⟩
def ty26 : Ty := ⟨.struct #[⟨"Kind", 3, 0, false, "", "", 0⟩, ⟨"Word", 9, 1, false, "", "", 8⟩, ⟨"Null", 4, 2, false, "", "", 24⟩, ⟨"Box", 25, 3, false, "", "", 32⟩, ⟨"Size", 3, 5, false, "", "", 64⟩], 6, 72, (.agg #[(.int .i64 0), (.string ⟨#[]⟩), (.bool false), (.string ⟨#[]⟩), (.string ⟨#[]⟩), (.int .i64 0)]), false⟩
theorem ty26_ok : TyOk Tryz.prog 26 ty26 := ⟨Tryz.underlying26, TyOk.of_info (by kernel_rfl), fun h => (by cases h)⟩
def ty27 : Ty := ⟨.struct #[⟨"Kind", 3, 0, false, "", "", 0⟩, ⟨"Word", 9, 1, false, "", "", 8⟩, ⟨"Null", 4, 2, false, "", "", 24⟩, ⟨"Box", 25, 3, false, "", "", 32⟩, ⟨"Size", 3, 5, false, "", "", 64⟩], 6, 72, (.agg #[(.int .i64 0), (.string ⟨#[]⟩), (.bool false), (.string ⟨#[]⟩), (.string ⟨#[]⟩), (.int .i64 0)]), true⟩
theorem ty27_ok : TyOk Tryz.prog 27 ty27 := ⟨Tryz.underlying27, TyOk.of_info (by kernel_rfl), fun _ => ⟨by kernel_rfl, by kernel_rfl, by kernel_rfl⟩⟩
def ty28 : Ty := ⟨.struct #[⟨"V", 27, 0, false, "", "", 0⟩, ⟨"S", 9, 6, false, "", "", 72⟩, ⟨"N", 3, 7, false, "", "", 88⟩], 8, 96, (.agg #[(.int .i64 0), (.string ⟨#[]⟩), (.bool false), (.string ⟨#[]⟩), (.string ⟨#[]⟩), (.int .i64 0), (.string ⟨#[]⟩), (.int .i64 0)]), false⟩
theorem ty28_ok : TyOk Tryz.prog 28 ty28 := ⟨Tryz.underlying28, TyOk.of_info (by kernel_rfl), fun h => (by cases h)⟩
def ty29 : Ty := ⟨.struct #[⟨"V", 27, 0, false, "", "", 0⟩, ⟨"S", 9, 6, false, "", "", 72⟩, ⟨"N", 3, 7, false, "", "", 88⟩], 8, 96, (.agg #[(.int .i64 0), (.string ⟨#[]⟩), (.bool false), (.string ⟨#[]⟩), (.string ⟨#[]⟩), (.int .i64 0), (.string ⟨#[]⟩), (.int .i64 0)]), true⟩
theorem ty29_ok : TyOk Tryz.prog 29 ty29 := ⟨Tryz.underlying29, TyOk.of_info (by kernel_rfl), fun _ => ⟨by kernel_rfl, by kernel_rfl, by kernel_rfl⟩⟩
def ty30 : Ty := ⟨.int .i64, 1, 8, (.int .i64 0), false⟩
theorem ty30_ok : TyOk Tryz.prog 30 ty30 := ⟨Tryz.underlying30, TyOk.of_info (by kernel_rfl), fun h => (by cases h)⟩
def ty46 : Ty := ⟨.pointer 30, 1, 8, (.pointer none), false⟩
theorem ty46_ok : TyOk Tryz.prog 46 ty46 := ⟨Tryz.underlying46, TyOk.of_info (by kernel_rfl), fun h => (by cases h)⟩
def ty57 : Ty := ⟨.slice 5, 1, 24, (.slice none 0 0), false⟩
theorem ty57_ok : TyOk Tryz.prog 57 ty57 := ⟨Tryz.underlying57, TyOk.of_info (by kernel_rfl), fun h => (by cases h)⟩
def ty60 : Ty := ⟨.slice 9, 1, 24, (.slice none 0 0), false⟩
theorem ty60_ok : TyOk Tryz.prog 60 ty60 := ⟨Tryz.underlying60, TyOk.of_info (by kernel_rfl), fun h => (by cases h)⟩
def ty61 : Ty := ⟨.struct #[⟨"e", 30, 0, false, "", "pouch/verb", 0⟩], 1, 8, (.agg #[(.int .i64 0)]), false⟩
theorem ty61_ok : TyOk Tryz.prog 61 ty61 := ⟨Tryz.underlying61, TyOk.of_info (by kernel_rfl), fun h => (by cases h)⟩
def ty62 : Ty := ⟨.struct #[⟨"e", 30, 0, false, "", "pouch/verb", 0⟩], 1, 8, (.agg #[(.int .i64 0)]), true⟩
theorem ty62_ok : TyOk Tryz.prog 62 ty62 := ⟨Tryz.underlying62, TyOk.of_info (by kernel_rfl), fun _ => ⟨by kernel_rfl, by kernel_rfl, by kernel_rfl⟩⟩
def ty74 : Ty := ⟨.array 10 9, 10, 160, (.agg #[(.string ⟨#[]⟩), (.string ⟨#[]⟩), (.string ⟨#[]⟩), (.string ⟨#[]⟩), (.string ⟨#[]⟩), (.string ⟨#[]⟩), (.string ⟨#[]⟩), (.string ⟨#[]⟩), (.string ⟨#[]⟩), (.string ⟨#[]⟩)]), false⟩
theorem ty74_ok : TyOk Tryz.prog 74 ty74 := ⟨Tryz.underlying74, TyOk.of_info (by kernel_rfl), fun h => (by cases h)⟩
def ty88 : Ty := ⟨.array 24 5, 24, 24, (.agg #[(.int .u8 0), (.int .u8 0), (.int .u8 0), (.int .u8 0), (.int .u8 0), (.int .u8 0), (.int .u8 0), (.int .u8 0), (.int .u8 0), (.int .u8 0), (.int .u8 0), (.int .u8 0), (.int .u8 0), (.int .u8 0), (.int .u8 0), (.int .u8 0), (.int .u8 0), (.int .u8 0), (.int .u8 0), (.int .u8 0), (.int .u8 0), (.int .u8 0), (.int .u8 0), (.int .u8 0)]), false⟩
theorem ty88_ok : TyOk Tryz.prog 88 ty88 := ⟨Tryz.underlying88, TyOk.of_info (by kernel_rfl), fun h => (by cases h)⟩
def ty89 : Ty := ⟨.int .u64, 1, 8, (.int .u64 0), false⟩
theorem ty89_ok : TyOk Tryz.prog 89 ty89 := ⟨Tryz.underlying89, TyOk.of_info (by kernel_rfl), fun h => (by cases h)⟩
def ty96 : Ty := ⟨.interface #[("Error", 133)], 1, 16, .nilIface, false⟩
theorem ty96_ok : TyOk Tryz.prog 96 ty96 := ⟨Tryz.underlying96, TyOk.of_info (by kernel_rfl), fun h => (by cases h)⟩
def ty97 : Ty := ⟨.interface #[("Error", 133)], 1, 16, .nilIface, false⟩
theorem ty97_ok : TyOk Tryz.prog 97 ty97 := ⟨Tryz.underlying97, TyOk.of_info (by kernel_rfl), fun h => (by cases h)⟩
def ty103 : Ty := ⟨.array 20 89, 20, 160, (.agg #[(.int .u64 0), (.int .u64 0), (.int .u64 0), (.int .u64 0), (.int .u64 0), (.int .u64 0), (.int .u64 0), (.int .u64 0), (.int .u64 0), (.int .u64 0), (.int .u64 0), (.int .u64 0), (.int .u64 0), (.int .u64 0), (.int .u64 0), (.int .u64 0), (.int .u64 0), (.int .u64 0), (.int .u64 0), (.int .u64 0)]), false⟩
theorem ty103_ok : TyOk Tryz.prog 103 ty103 := ⟨Tryz.underlying103, TyOk.of_info (by kernel_rfl), fun h => (by cases h)⟩
def ty104 : Ty := ⟨.int .u32, 1, 4, (.int .u32 0), false⟩
theorem ty104_ok : TyOk Tryz.prog 104 ty104 := ⟨Tryz.underlying104, TyOk.of_info (by kernel_rfl), fun h => (by cases h)⟩
def ty105 : Ty := ⟨.array 65 5, 65, 65, (.agg #[(.int .u8 0), (.int .u8 0), (.int .u8 0), (.int .u8 0), (.int .u8 0), (.int .u8 0), (.int .u8 0), (.int .u8 0), (.int .u8 0), (.int .u8 0), (.int .u8 0), (.int .u8 0), (.int .u8 0), (.int .u8 0), (.int .u8 0), (.int .u8 0), (.int .u8 0), (.int .u8 0), (.int .u8 0), (.int .u8 0), (.int .u8 0), (.int .u8 0), (.int .u8 0), (.int .u8 0), (.int .u8 0), (.int .u8 0), (.int .u8 0), (.int .u8 0), (.int .u8 0), (.int .u8 0), (.int .u8 0), (.int .u8 0), (.int .u8 0), (.int .u8 0), (.int .u8 0), (.int .u8 0), (.int .u8 0), (.int .u8 0), (.int .u8 0), (.int .u8 0), (.int .u8 0), (.int .u8 0), (.int .u8 0), (.int .u8 0), (.int .u8 0), (.int .u8 0), (.int .u8 0), (.int .u8 0), (.int .u8 0), (.int .u8 0), (.int .u8 0), (.int .u8 0), (.int .u8 0), (.int .u8 0), (.int .u8 0), (.int .u8 0), (.int .u8 0), (.int .u8 0), (.int .u8 0), (.int .u8 0), (.int .u8 0), (.int .u8 0), (.int .u8 0), (.int .u8 0), (.int .u8 0)]), false⟩
theorem ty105_ok : TyOk Tryz.prog 105 ty105 := ⟨Tryz.underlying105, TyOk.of_info (by kernel_rfl), fun h => (by cases h)⟩
def ty107 : Ty := ⟨.int .u64, 1, 8, (.int .u64 0), false⟩
theorem ty107_ok : TyOk Tryz.prog 107 ty107 := ⟨Tryz.underlying107, TyOk.of_info (by kernel_rfl), fun h => (by cases h)⟩
def ty109 : Ty := ⟨.struct #[⟨"e", 30, 0, false, "", "pouch/addr", 0⟩], 1, 8, (.agg #[(.int .i64 0)]), false⟩
theorem ty109_ok : TyOk Tryz.prog 109 ty109 := ⟨Tryz.underlying109, TyOk.of_info (by kernel_rfl), fun h => (by cases h)⟩
def ty110 : Ty := ⟨.struct #[⟨"e", 30, 0, false, "", "pouch/addr", 0⟩], 1, 8, (.agg #[(.int .i64 0)]), true⟩
theorem ty110_ok : TyOk Tryz.prog 110 ty110 := ⟨Tryz.underlying110, TyOk.of_info (by kernel_rfl), fun _ => ⟨by kernel_rfl, by kernel_rfl, by kernel_rfl⟩⟩
def ty122 : Ty := ⟨.int .i64, 1, 8, (.int .i64 0), false⟩
theorem ty122_ok : TyOk Tryz.prog 122 ty122 := ⟨Tryz.underlying122, TyOk.of_info (by kernel_rfl), fun h => (by cases h)⟩
def ty125 : Ty := ⟨.pointer 138, 1, 8, (.pointer none), false⟩
theorem ty125_ok : TyOk Tryz.prog 125 ty125 := ⟨Tryz.underlying125, TyOk.of_info (by kernel_rfl), fun h => (by cases h)⟩
def ty128 : Ty := ⟨.array 32 5, 32, 32, (.agg #[(.int .u8 0), (.int .u8 0), (.int .u8 0), (.int .u8 0), (.int .u8 0), (.int .u8 0), (.int .u8 0), (.int .u8 0), (.int .u8 0), (.int .u8 0), (.int .u8 0), (.int .u8 0), (.int .u8 0), (.int .u8 0), (.int .u8 0), (.int .u8 0), (.int .u8 0), (.int .u8 0), (.int .u8 0), (.int .u8 0), (.int .u8 0), (.int .u8 0), (.int .u8 0), (.int .u8 0), (.int .u8 0), (.int .u8 0), (.int .u8 0), (.int .u8 0), (.int .u8 0), (.int .u8 0), (.int .u8 0), (.int .u8 0)]), false⟩
theorem ty128_ok : TyOk Tryz.prog 128 ty128 := ⟨Tryz.underlying128, TyOk.of_info (by kernel_rfl), fun h => (by cases h)⟩
def ty129 : Ty := ⟨.array 64 5, 64, 64, (.agg #[(.int .u8 0), (.int .u8 0), (.int .u8 0), (.int .u8 0), (.int .u8 0), (.int .u8 0), (.int .u8 0), (.int .u8 0), (.int .u8 0), (.int .u8 0), (.int .u8 0), (.int .u8 0), (.int .u8 0), (.int .u8 0), (.int .u8 0), (.int .u8 0), (.int .u8 0), (.int .u8 0), (.int .u8 0), (.int .u8 0), (.int .u8 0), (.int .u8 0), (.int .u8 0), (.int .u8 0), (.int .u8 0), (.int .u8 0), (.int .u8 0), (.int .u8 0), (.int .u8 0), (.int .u8 0), (.int .u8 0), (.int .u8 0), (.int .u8 0), (.int .u8 0), (.int .u8 0), (.int .u8 0), (.int .u8 0), (.int .u8 0), (.int .u8 0), (.int .u8 0), (.int .u8 0), (.int .u8 0), (.int .u8 0), (.int .u8 0), (.int .u8 0), (.int .u8 0), (.int .u8 0), (.int .u8 0), (.int .u8 0), (.int .u8 0), (.int .u8 0), (.int .u8 0), (.int .u8 0), (.int .u8 0), (.int .u8 0), (.int .u8 0), (.int .u8 0), (.int .u8 0), (.int .u8 0), (.int .u8 0), (.int .u8 0), (.int .u8 0), (.int .u8 0), (.int .u8 0)]), false⟩
theorem ty129_ok : TyOk Tryz.prog 129 ty129 := ⟨Tryz.underlying129, TyOk.of_info (by kernel_rfl), fun h => (by cases h)⟩
def ty130 : Ty := ⟨.pointer 132, 1, 8, (.pointer none), false⟩
theorem ty130_ok : TyOk Tryz.prog 130 ty130 := ⟨Tryz.underlying130, TyOk.of_info (by kernel_rfl), fun h => (by cases h)⟩
def ty131 : Ty := ⟨.struct #[⟨"addr", 130, 0, false, "", "strings", 0⟩, ⟨"buf", 57, 1, false, "", "strings", 8⟩], 2, 32, (.agg #[(.pointer none), (.slice none 0 0)]), false⟩
theorem ty131_ok : TyOk Tryz.prog 131 ty131 := ⟨Tryz.underlying131, TyOk.of_info (by kernel_rfl), fun h => (by cases h)⟩
def ty132 : Ty := ⟨.struct #[⟨"addr", 130, 0, false, "", "strings", 0⟩, ⟨"buf", 57, 1, false, "", "strings", 8⟩], 2, 32, (.agg #[(.pointer none), (.slice none 0 0)]), false⟩
theorem ty132_ok : TyOk Tryz.prog 132 ty132 := ⟨Tryz.underlying132, TyOk.of_info (by kernel_rfl), fun h => (by cases h)⟩
def ty137 : Ty := ⟨.struct #[⟨"Func", 9, 0, false, "", "", 0⟩, ⟨"Num", 9, 1, false, "", "", 16⟩, ⟨"Err", 97, 2, false, "", "", 32⟩], 3, 48, (.agg #[(.string ⟨#[]⟩), (.string ⟨#[]⟩), .nilIface]), false⟩
theorem ty137_ok : TyOk Tryz.prog 137 ty137 := ⟨Tryz.underlying137, TyOk.of_info (by kernel_rfl), fun h => (by cases h)⟩
def ty138 : Ty := ⟨.struct #[⟨"Func", 9, 0, false, "", "", 0⟩, ⟨"Num", 9, 1, false, "", "", 16⟩, ⟨"Err", 97, 2, false, "", "", 32⟩], 3, 48, (.agg #[(.string ⟨#[]⟩), (.string ⟨#[]⟩), .nilIface]), false⟩
theorem ty138_ok : TyOk Tryz.prog 138 ty138 := ⟨Tryz.underlying138, TyOk.of_info (by kernel_rfl), fun h => (by cases h)⟩
def ty140 : Ty := ⟨.array 256 5, 256, 256, (.agg #[(.int .u8 0), (.int .u8 0), (.int .u8 0), (.int .u8 0), (.int .u8 0), (.int .u8 0), (.int .u8 0), (.int .u8 0), (.int .u8 0), (.int .u8 0), (.int .u8 0), (.int .u8 0), (.int .u8 0), (.int .u8 0), (.int .u8 0), (.int .u8 0), (.int .u8 0), (.int .u8 0), (.int .u8 0), (.int .u8 0), (.int .u8 0), (.int .u8 0), (.int .u8 0), (.int .u8 0), (.int .u8 0), (.int .u8 0), (.int .u8 0), (.int .u8 0), (.int .u8 0), (.int .u8 0), (.int .u8 0), (.int .u8 0), (.int .u8 0), (.int .u8 0), (.int .u8 0), (.int .u8 0), (.int .u8 0), (.int .u8 0), (.int .u8 0), (.int .u8 0), (.int .u8 0), (.int .u8 0), (.int .u8 0), (.int .u8 0), (.int .u8 0), (.int .u8 0), (.int .u8 0), (.int .u8 0), (.int .u8 0), (.int .u8 0), (.int .u8 0), (.int .u8 0), (.int .u8 0), (.int .u8 0), (.int .u8 0), (.int .u8 0), (.int .u8 0), (.int .u8 0), (.int .u8 0), (.int .u8 0), (.int .u8 0), (.int .u8 0), (.int .u8 0), (.int .u8 0), (.int .u8 0), (.int .u8 0), (.int .u8 0), (.int .u8 0), (.int .u8 0), (.int .u8 0), (.int .u8 0), (.int .u8 0), (.int .u8 0), (.int .u8 0), (.int .u8 0), (.int .u8 0), (.int .u8 0), (.int .u8 0), (.int .u8 0), (.int .u8 0), (.int .u8 0), (.int .u8 0), (.int .u8 0), (.int .u8 0), (.int .u8 0), (.int .u8 0), (.int .u8 0), (.int .u8 0), (.int .u8 0), (.int .u8 0), (.int .u8 0), (.int .u8 0), (.int .u8 0), (.int .u8 0), (.int .u8 0), (.int .u8 0), (.int .u8 0), (.int .u8 0), (.int .u8 0), (.int .u8 0), (.int .u8 0), (.int .u8 0), (.int .u8 0), (.int .u8 0), (.int .u8 0), (.int .u8 0), (.int .u8 0), (.int .u8 0), (.int .u8 0), (.int .u8 0), (.int .u8 0), (.int .u8 0), (.int .u8 0), (.int .u8 0), (.int .u8 0), (.int .u8 0), (.int .u8 0), (.int .u8 0), (.int .u8 0), (.int .u8 0), (.int .u8 0), (.int .u8 0), (.int .u8 0), (.int .u8 0), (.int .u8 0), (.int .u8 0), (.int .u8 0), (.int .u8 0), (.int .u8 0), (.int .u8 0), (.int .u8 0), (.int .u8 0), (.int .u8 0), (.int .u8 0), (.int .u8 0), (.int .u8 0), (.int .u8 0), (.int .u8 0), (.int .u8 0), (.int .u8 0), (.int .u8 0), (.int .u8 0), (.int .u8 0), (.int .u8 0), (.int .u8 0), (.int .u8 0), (.int .u8 0), (.int .u8 0), (.int .u8 0), (.int .u8 0), (.int .u8 0), (.int .u8 0), (.int .u8 0), (.int .u8 0), (.int .u8 0), (.int .u8 0), (.int .u8 0), (.int .u8 0), (.int .u8 0), (.int .u8 0), (.int .u8 0), (.int .u8 0), (.int .u8 0), (.int .u8 0), (.int .u8 0), (.int .u8 0), (.int .u8 0), (.int .u8 0), (.int .u8 0), (.int .u8 0), (.int .u8 0), (.int .u8 0), (.int .u8 0), (.int .u8 0), (.int .u8 0), (.int .u8 0), (.int .u8 0), (.int .u8 0), (.int .u8 0), (.int .u8 0), (.int .u8 0), (.int .u8 0), (.int .u8 0), (.int .u8 0), (.int .u8 0), (.int .u8 0), (.int .u8 0), (.int .u8 0), (.int .u8 0), (.int .u8 0), (.int .u8 0), (.int .u8 0), (.int .u8 0), (.int .u8 0), (.int .u8 0), (.int .u8 0), (.int .u8 0), (.int .u8 0), (.int .u8 0), (.int .u8 0), (.int .u8 0), (.int .u8 0), (.int .u8 0), (.int .u8 0), (.int .u8 0), (.int .u8 0), (.int .u8 0), (.int .u8 0), (.int .u8 0), (.int .u8 0), (.int .u8 0), (.int .u8 0), (.int .u8 0), (.int .u8 0), (.int .u8 0), (.int .u8 0), (.int .u8 0), (.int .u8 0), (.int .u8 0), (.int .u8 0), (.int .u8 0), (.int .u8 0), (.int .u8 0), (.int .u8 0), (.int .u8 0), (.int .u8 0), (.int .u8 0), (.int .u8 0), (.int .u8 0), (.int .u8 0), (.int .u8 0), (.int .u8 0), (.int .u8 0), (.int .u8 0), (.int .u8 0), (.int .u8 0), (.int .u8 0), (.int .u8 0), (.int .u8 0), (.int .u8 0), (.int .u8 0), (.int .u8 0), (.int .u8 0), (.int .u8 0), (.int .u8 0), (.int .u8 0), (.int .u8 0), (.int .u8 0), (.int .u8 0), (.int .u8 0), (.int .u8 0), (.int .u8 0), (.int .u8 0), (.int .u8 0), (.int .u8 0), (.int .u8 0)]), false⟩
theorem ty140_ok : TyOk Tryz.prog 140 ty140 := ⟨Tryz.underlying140, TyOk.of_info (by kernel_rfl), fun h => (by cases h)⟩
def ty141 : Ty := ⟨.struct #[⟨"lo", 5, 0, false, "", "unicode/utf8", 0⟩, ⟨"hi", 5, 1, false, "", "unicode/utf8", 1⟩], 2, 2, (.agg #[(.int .u8 0), (.int .u8 0)]), false⟩
theorem ty141_ok : TyOk Tryz.prog 141 ty141 := ⟨Tryz.underlying141, TyOk.of_info (by kernel_rfl), fun h => (by cases h)⟩
def ty142 : Ty := ⟨.struct #[⟨"lo", 5, 0, false, "", "unicode/utf8", 0⟩, ⟨"hi", 5, 1, false, "", "unicode/utf8", 1⟩], 2, 2, (.agg #[(.int .u8 0), (.int .u8 0)]), false⟩
theorem ty142_ok : TyOk Tryz.prog 142 ty142 := ⟨Tryz.underlying142, TyOk.of_info (by kernel_rfl), fun h => (by cases h)⟩
def ty143 : Ty := ⟨.array 16 142, 32, 32, (.agg #[(.int .u8 0), (.int .u8 0), (.int .u8 0), (.int .u8 0), (.int .u8 0), (.int .u8 0), (.int .u8 0), (.int .u8 0), (.int .u8 0), (.int .u8 0), (.int .u8 0), (.int .u8 0), (.int .u8 0), (.int .u8 0), (.int .u8 0), (.int .u8 0), (.int .u8 0), (.int .u8 0), (.int .u8 0), (.int .u8 0), (.int .u8 0), (.int .u8 0), (.int .u8 0), (.int .u8 0), (.int .u8 0), (.int .u8 0), (.int .u8 0), (.int .u8 0), (.int .u8 0), (.int .u8 0), (.int .u8 0), (.int .u8 0)]), false⟩
theorem ty143_ok : TyOk Tryz.prog 143 ty143 := ⟨Tryz.underlying143, TyOk.of_info (by kernel_rfl), fun h => (by cases h)⟩
def ty144 : Ty := ⟨.pointer 5, 1, 8, (.pointer none), false⟩
theorem ty144_ok : TyOk Tryz.prog 144 ty144 := ⟨Tryz.underlying144, TyOk.of_info (by kernel_rfl), fun h => (by cases h)⟩
def ty146 : Ty := ⟨.pointer 148, 1, 8, (.pointer none), false⟩
theorem ty146_ok : TyOk Tryz.prog 146 ty146 := ⟨Tryz.underlying146, TyOk.of_info (by kernel_rfl), fun h => (by cases h)⟩
def ty147 : Ty := ⟨.struct #[⟨"s", 9, 0, false, "", "errors", 0⟩], 1, 16, (.agg #[(.string ⟨#[]⟩)]), false⟩
theorem ty147_ok : TyOk Tryz.prog 147 ty147 := ⟨Tryz.underlying147, TyOk.of_info (by kernel_rfl), fun h => (by cases h)⟩
def ty148 : Ty := ⟨.struct #[⟨"s", 9, 0, false, "", "errors", 0⟩], 1, 16, (.agg #[(.string ⟨#[]⟩)]), false⟩
theorem ty148_ok : TyOk Tryz.prog 148 ty148 := ⟨Tryz.underlying148, TyOk.of_info (by kernel_rfl), fun h => (by cases h)⟩
def ty151 : Ty := ⟨.unsafePointer, 1, 8, (.pointer none), false⟩
theorem ty151_ok : TyOk Tryz.prog 151 ty151 := ⟨Tryz.underlying151, TyOk.of_info (by kernel_rfl), fun h => (by cases h)⟩
def ty153 : Ty := ⟨.struct #[⟨"_interface", 17, 0, false, "", "runtime", 0⟩, ⟨"concrete", 17, 1, false, "", "runtime", 8⟩, ⟨"asserted", 17, 2, false, "", "runtime", 16⟩, ⟨"missingMethod", 9, 3, false, "", "runtime", 24⟩], 4, 40, (.agg #[(.pointer none), (.pointer none), (.pointer none), (.string ⟨#[]⟩)]), false⟩
theorem ty153_ok : TyOk Tryz.prog 153 ty153 := ⟨Tryz.underlying153, TyOk.of_info (by kernel_rfl), fun h => (by cases h)⟩
def ty154 : Ty := ⟨.struct #[⟨"_interface", 17, 0, false, "", "runtime", 0⟩, ⟨"concrete", 17, 1, false, "", "runtime", 8⟩, ⟨"asserted", 17, 2, false, "", "runtime", 16⟩, ⟨"missingMethod", 9, 3, false, "", "runtime", 24⟩], 4, 40, (.agg #[(.pointer none), (.pointer none), (.pointer none), (.string ⟨#[]⟩)]), false⟩
theorem ty154_ok : TyOk Tryz.prog 154 ty154 := ⟨Tryz.underlying154, TyOk.of_info (by kernel_rfl), fun h => (by cases h)⟩
def ty155 : Ty := ⟨.array 0 16, 0, 0, (.agg #[]), false⟩
theorem ty155_ok : TyOk Tryz.prog 155 ty155 := ⟨Tryz.underlying155, TyOk.of_info (by kernel_rfl), fun h => (by cases h)⟩
def ty156 : Ty := ⟨.struct #[⟨"_", 155, 0, false, "", "runtime", 0⟩], 0, 0, (.agg #[]), false⟩
theorem ty156_ok : TyOk Tryz.prog 156 ty156 := ⟨Tryz.underlying156, TyOk.of_info (by kernel_rfl), fun h => (by cases h)⟩
def ty157 : Ty := ⟨.struct #[⟨"_", 155, 0, false, "", "runtime", 0⟩], 0, 0, (.agg #[]), false⟩
theorem ty157_ok : TyOk Tryz.prog 157 ty157 := ⟨Tryz.underlying157, TyOk.of_info (by kernel_rfl), fun h => (by cases h)⟩
def ty159 : Ty := ⟨.int .u8, 1, 1, (.int .u8 0), false⟩
theorem ty159_ok : TyOk Tryz.prog 159 ty159 := ⟨Tryz.underlying159, TyOk.of_info (by kernel_rfl), fun h => (by cases h)⟩
def ty160 : Ty := ⟨.int .u8, 1, 1, (.int .u8 0), false⟩
theorem ty160_ok : TyOk Tryz.prog 160 ty160 := ⟨Tryz.underlying160, TyOk.of_info (by kernel_rfl), fun h => (by cases h)⟩
def ty162 : Ty := ⟨.int .i32, 1, 4, (.int .i32 0), false⟩
theorem ty162_ok : TyOk Tryz.prog 162 ty162 := ⟨Tryz.underlying162, TyOk.of_info (by kernel_rfl), fun h => (by cases h)⟩
def ty163 : Ty := ⟨.int .i32, 1, 4, (.int .i32 0), false⟩
theorem ty163_ok : TyOk Tryz.prog 163 ty163 := ⟨Tryz.underlying163, TyOk.of_info (by kernel_rfl), fun h => (by cases h)⟩
def ty164 : Ty := ⟨.struct #[⟨"Size_", 12, 0, false, "", "", 0⟩, ⟨"PtrBytes", 12, 1, false, "", "", 8⟩, ⟨"Hash", 104, 2, false, "", "", 16⟩, ⟨"TFlag", 159, 3, false, "", "", 20⟩, ⟨"Align_", 5, 4, false, "", "", 21⟩, ⟨"FieldAlign_", 5, 5, false, "", "", 22⟩, ⟨"Kind_", 160, 6, false, "", "", 23⟩, ⟨"Equal", 161, 7, false, "", "", 24⟩, ⟨"GCData", 144, 8, false, "", "", 32⟩, ⟨"Str", 162, 9, false, "", "", 40⟩, ⟨"PtrToThis", 163, 10, false, "", "", 44⟩], 11, 48, (.agg #[(.int .u64 0), (.int .u64 0), (.int .u32 0), (.int .u8 0), (.int .u8 0), (.int .u8 0), (.int .u8 0), .nilFunc, (.pointer none), (.int .i32 0), (.int .i32 0)]), false⟩
theorem ty164_ok : TyOk Tryz.prog 164 ty164 := ⟨Tryz.underlying164, TyOk.of_info (by kernel_rfl), fun h => (by cases h)⟩
def ty165 : Ty := ⟨.struct #[⟨"Size_", 12, 0, false, "", "", 0⟩, ⟨"PtrBytes", 12, 1, false, "", "", 8⟩, ⟨"Hash", 104, 2, false, "", "", 16⟩, ⟨"TFlag", 159, 3, false, "", "", 20⟩, ⟨"Align_", 5, 4, false, "", "", 21⟩, ⟨"FieldAlign_", 5, 5, false, "", "", 22⟩, ⟨"Kind_", 160, 6, false, "", "", 23⟩, ⟨"Equal", 161, 7, false, "", "", 24⟩, ⟨"GCData", 144, 8, false, "", "", 32⟩, ⟨"Str", 162, 9, false, "", "", 40⟩, ⟨"PtrToThis", 163, 10, false, "", "", 44⟩], 11, 48, (.agg #[(.int .u64 0), (.int .u64 0), (.int .u32 0), (.int .u8 0), (.int .u8 0), (.int .u8 0), (.int .u8 0), .nilFunc, (.pointer none), (.int .i32 0), (.int .i32 0)]), false⟩
theorem ty165_ok : TyOk Tryz.prog 165 ty165 := ⟨Tryz.underlying165, TyOk.of_info (by kernel_rfl), fun h => (by cases h)⟩
def tys : Tys := [none, none, some ty2, some ty3, some ty4, some ty5, some ty6, some ty7, some ty8, some ty9, some ty10, some ty11, some ty12, some ty13, some ty14, some ty15, some ty16, some ty17, some ty18, some ty19, some ty20, some ty21, some ty22, none, some ty24, some ty25, some ty26, some ty27, some ty28, some ty29, some ty30, none, none, none, none, none, none, none, none, none, none, none, none, none, none, none, some ty46, none, none, none, none, none, none, none, none, none, none, some ty57, none, none, some ty60, some ty61, some ty62, none, none, none, none, none, none, none, none, none, none, none, some ty74, none, none, none, none, none, none, none, none, none, none, none, none, none, some ty88, some ty89, none, none, none, none, none, none, some ty96, some ty97, none, none, none, none, none, some ty103, some ty104, some ty105, none, some ty107, none, some ty109, some ty110, none, none, none, none, none, none, none, none, none, none, none, some ty122, none, none, some ty125, none, none, some ty128, some ty129, some ty130, some ty131, some ty132, none, none, none, none, some ty137, some ty138, none, some ty140, some ty141, some ty142, some ty143, some ty144, none, some ty146, some ty147, some ty148, none, none, some ty151, none, some ty153, some ty154, some ty155, some ty156, some ty157, none, some ty159, some ty160, none, some ty162, some ty163, some ty164, some ty165]
theorem tys_ok : TysOk Tryz.prog tys := okFrom_ok (show okFrom Tryz.prog 0 tys from ⟨ty2_ok, ty3_ok, ty4_ok, ty5_ok, ty6_ok, ty7_ok, ty8_ok, ty9_ok, ty10_ok, ty11_ok, ty12_ok, ty13_ok, ty14_ok, ty15_ok, ty16_ok, ty17_ok, ty18_ok, ty19_ok, ty20_ok, ty21_ok, ty22_ok, ty24_ok, ty25_ok, ty26_ok, ty27_ok, ty28_ok, ty29_ok, ty30_ok, ty46_ok, ty57_ok, ty60_ok, ty61_ok, ty62_ok, ty74_ok, ty88_ok, ty89_ok, ty96_ok, ty97_ok, ty103_ok, ty104_ok, ty105_ok, ty107_ok, ty109_ok, ty110_ok, ty122_ok, ty125_ok, ty128_ok, ty129_ok, ty130_ok, ty131_ok, ty132_ok, ty137_ok, ty138_ok, ty140_ok, ty141_ok, ty142_ok, ty143_ok, ty144_ok, ty146_ok, ty147_ok, ty148_ok, ty151_ok, ty153_ok, ty154_ok, ty155_ok, ty156_ok, ty157_ok, ty159_ok, ty160_ok, ty162_ok, ty163_ok, ty164_ok, ty165_ok, trivial⟩)
theorem mixed : Tryz.prog.follows .mixedOrders = true := by kernel_rfl
end Go.Proofs.YtbmcabjgeegjkaaGreatDoor.AM
