/- The ideal machine's tables for this seat: types, functions; printed by gen2.py out of the loaded program. -/
import Derived.Test.YtchlbfmjnhgpgaaGreatPack1
import Derived.Test.YtchlbfmjnhgpgaaGreatChecked
namespace Go.Proofs.YtchlbfmjnhgpgaaGreat.Idl
open Go
set_option maxRecDepth 100000
def tyI0 : TyI := ⟨(.tuple #[]), 1, 0, some (.tuple #[])⟩
theorem tyI0_ok : TyOk Tryz.prog 0 tyI0 := tyOk_mk (by kernel_rfl) (by kernel_rfl) (by kernel_rfl)
def tyI2 : TyI := ⟨(.int .i64), 1, 8, some (.int .i64 0)⟩
theorem tyI2_ok : TyOk Tryz.prog 2 tyI2 := tyOk_mk (by kernel_rfl) (by kernel_rfl) (by kernel_rfl)
def tyI3 : TyI := ⟨(.int .i64), 1, 8, some (.int .i64 0)⟩
theorem tyI3_ok : TyOk Tryz.prog 3 tyI3 := tyOk_mk (by kernel_rfl) (by kernel_rfl) (by kernel_rfl)
def tyI4 : TyI := ⟨.bool, 1, 1, some (.bool false)⟩
theorem tyI4_ok : TyOk Tryz.prog 4 tyI4 := tyOk_mk (by kernel_rfl) (by kernel_rfl) (by kernel_rfl)
def tyI5 : TyI := ⟨(.int .u8), 1, 1, some (.int .u8 0)⟩
theorem tyI5_ok : TyOk Tryz.prog 5 tyI5 := tyOk_mk (by kernel_rfl) (by kernel_rfl) (by kernel_rfl)
def tyI9 : TyI := ⟨.string, 1, 16, some (.string ⟨#[]⟩)⟩
theorem tyI9_ok : TyOk Tryz.prog 9 tyI9 := tyOk_mk (by kernel_rfl) (by kernel_rfl) (by kernel_rfl)
def tyI20 : TyI := ⟨(.interface #[]), 1, 16, some .nilIface⟩
theorem tyI20_ok : TyOk Tryz.prog 20 tyI20 := tyOk_mk (by kernel_rfl) (by kernel_rfl) (by kernel_rfl)
def tyI22 : TyI := ⟨(.slice 88), 1, 24, some (.slice none 0 0)⟩
theorem tyI22_ok : TyOk Tryz.prog 22 tyI22 := tyOk_mk (by kernel_rfl) (by kernel_rfl) (by kernel_rfl)
def tyI23 : TyI := ⟨(.slice 90), 1, 24, some (.slice none 0 0)⟩
theorem tyI23_ok : TyOk Tryz.prog 23 tyI23 := tyOk_mk (by kernel_rfl) (by kernel_rfl) (by kernel_rfl)
def tyI24 : TyI := ⟨(.slice 9), 1, 24, some (.slice none 0 0)⟩
theorem tyI24_ok : TyOk Tryz.prog 24 tyI24 := tyOk_mk (by kernel_rfl) (by kernel_rfl) (by kernel_rfl)
def tyI25 : TyI := ⟨(.slice 59), 1, 24, some (.slice none 0 0)⟩
theorem tyI25_ok : TyOk Tryz.prog 25 tyI25 := tyOk_mk (by kernel_rfl) (by kernel_rfl) (by kernel_rfl)
def tyI27 : TyI := ⟨(.struct #[⟨"Types", 22, 0, false, "", "", 0⟩, ⟨"Shapes", 23, 1, false, "", "", 24⟩, ⟨"Strings", 24, 2, false, "", "", 48⟩, ⟨"Names", 24, 3, false, "", "", 72⟩, ⟨"Funcs", 25, 4, false, "", "", 96⟩, ⟨"Main", 3, 5, false, "", "", 120⟩, ⟨"Exn", 3, 6, false, "", "", 128⟩]), 7, 136, some (.agg #[(.slice none 0 0), (.slice none 0 0), (.slice none 0 0), (.slice none 0 0), (.slice none 0 0), (.int .i64 0), (.int .i64 0)])⟩
theorem tyI27_ok : TyOk Tryz.prog 27 tyI27 := tyOk_mk (by kernel_rfl) (by kernel_rfl) (by kernel_rfl)
def tyI28 : TyI := ⟨(.slice 3), 1, 24, some (.slice none 0 0)⟩
theorem tyI28_ok : TyOk Tryz.prog 28 tyI28 := tyOk_mk (by kernel_rfl) (by kernel_rfl) (by kernel_rfl)
def tyI30 : TyI := ⟨(.struct #[⟨"Op", 3, 0, false, "", "", 0⟩, ⟨"D", 3, 1, false, "", "", 8⟩, ⟨"A", 3, 2, false, "", "", 16⟩, ⟨"B", 3, 3, false, "", "", 24⟩, ⟨"C", 3, 4, false, "", "", 32⟩, ⟨"N", 2, 5, false, "", "", 40⟩, ⟨"L", 28, 6, false, "", "", 48⟩, ⟨"M", 28, 7, false, "", "", 72⟩, ⟨"Live", 28, 8, false, "", "", 96⟩]), 9, 120, some (.agg #[(.int .i64 0), (.int .i64 0), (.int .i64 0), (.int .i64 0), (.int .i64 0), (.int .i64 0), (.slice none 0 0), (.slice none 0 0), (.slice none 0 0)])⟩
theorem tyI30_ok : TyOk Tryz.prog 30 tyI30 := tyOk_mk (by kernel_rfl) (by kernel_rfl) (by kernel_rfl)
def tyI31 : TyI := ⟨(.int .u64), 1, 8, some (.int .u64 0)⟩
theorem tyI31_ok : TyOk Tryz.prog 31 tyI31 := tyOk_mk (by kernel_rfl) (by kernel_rfl) (by kernel_rfl)
def tyI33 : TyI := ⟨(.struct #[⟨"M", 27, 0, false, "", "", 0⟩, ⟨"X", 30, 7, false, "", "", 136⟩, ⟨"At", 31, 16, false, "", "", 256⟩]), 17, 264, some (.agg #[(.slice none 0 0), (.slice none 0 0), (.slice none 0 0), (.slice none 0 0), (.slice none 0 0), (.int .i64 0), (.int .i64 0), (.int .i64 0), (.int .i64 0), (.int .i64 0), (.int .i64 0), (.int .i64 0), (.int .i64 0), (.slice none 0 0), (.slice none 0 0), (.slice none 0 0), (.int .u64 0)])⟩
theorem tyI33_ok : TyOk Tryz.prog 33 tyI33 := tyOk_mk (by kernel_rfl) (by kernel_rfl) (by kernel_rfl)
def tyI34 : TyI := ⟨(.slice 5), 1, 24, some (.slice none 0 0)⟩
theorem tyI34_ok : TyOk Tryz.prog 34 tyI34 := tyOk_mk (by kernel_rfl) (by kernel_rfl) (by kernel_rfl)
def tyI35 : TyI := ⟨(.slice 4), 1, 24, some (.slice none 0 0)⟩
theorem tyI35_ok : TyOk Tryz.prog 35 tyI35 := tyOk_mk (by kernel_rfl) (by kernel_rfl) (by kernel_rfl)
def tyI37 : TyI := ⟨(.struct #[⟨"Input", 34, 0, false, "", "", 0⟩, ⟨"Fuel", 3, 1, false, "", "", 24⟩, ⟨"Heap", 3, 2, false, "", "", 32⟩, ⟨"Stack", 3, 3, false, "", "", 40⟩, ⟨"Collect", 35, 4, false, "", "", 48⟩]), 5, 72, some (.agg #[(.slice none 0 0), (.int .i64 0), (.int .i64 0), (.int .i64 0), (.slice none 0 0)])⟩
theorem tyI37_ok : TyOk Tryz.prog 37 tyI37 := tyOk_mk (by kernel_rfl) (by kernel_rfl) (by kernel_rfl)
def tyI44 : TyI := ⟨(.struct #[⟨"Kind", 3, 0, false, "", "", 0⟩, ⟨"Output", 34, 1, false, "", "", 8⟩, ⟨"Exn", 9, 2, false, "", "", 32⟩, ⟨"Steps", 3, 3, false, "", "", 48⟩, ⟨"Swept", 3, 4, false, "", "", 56⟩]), 5, 64, some (.agg #[(.int .i64 0), (.slice none 0 0), (.string ⟨#[]⟩), (.int .i64 0), (.int .i64 0)])⟩
theorem tyI44_ok : TyOk Tryz.prog 44 tyI44 := tyOk_mk (by kernel_rfl) (by kernel_rfl) (by kernel_rfl)
def tyI50 : TyI := ⟨(.array 2 3), 2, 16, some (.agg #[(.int .i64 0), (.int .i64 0)])⟩
theorem tyI50_ok : TyOk Tryz.prog 50 tyI50 := tyOk_mk (by kernel_rfl) (by kernel_rfl) (by kernel_rfl)
def tyI54 : TyI := ⟨(.slice 30), 1, 24, some (.slice none 0 0)⟩
theorem tyI54_ok : TyOk Tryz.prog 54 tyI54 := tyOk_mk (by kernel_rfl) (by kernel_rfl) (by kernel_rfl)
def tyI56 : TyI := ⟨(.struct #[⟨"In", 28, 0, false, "", "", 0⟩, ⟨"Code", 54, 1, false, "", "", 24⟩]), 2, 48, some (.agg #[(.slice none 0 0), (.slice none 0 0)])⟩
theorem tyI56_ok : TyOk Tryz.prog 56 tyI56 := tyOk_mk (by kernel_rfl) (by kernel_rfl) (by kernel_rfl)
def tyI57 : TyI := ⟨(.slice 56), 1, 24, some (.slice none 0 0)⟩
theorem tyI57_ok : TyOk Tryz.prog 57 tyI57 := tyOk_mk (by kernel_rfl) (by kernel_rfl) (by kernel_rfl)
def tyI59 : TyI := ⟨(.struct #[⟨"Params", 28, 0, false, "", "", 0⟩, ⟨"Result", 3, 1, false, "", "", 24⟩, ⟨"Slots", 3, 2, false, "", "", 32⟩, ⟨"Blocks", 57, 3, false, "", "", 40⟩]), 4, 64, some (.agg #[(.slice none 0 0), (.int .i64 0), (.int .i64 0), (.slice none 0 0)])⟩
theorem tyI59_ok : TyOk Tryz.prog 59 tyI59 := tyOk_mk (by kernel_rfl) (by kernel_rfl) (by kernel_rfl)
def tyI62 : TyI := ⟨(.int .u64), 1, 8, some (.int .u64 0)⟩
theorem tyI62_ok : TyOk Tryz.prog 62 tyI62 := tyOk_mk (by kernel_rfl) (by kernel_rfl) (by kernel_rfl)
def tyI64 : TyI := ⟨(.tuple #[2, 4]), 1, 0, some (.tuple #[(.int .i64 0), (.bool false)])⟩
theorem tyI64_ok : TyOk Tryz.prog 64 tyI64 := tyOk_mk (by kernel_rfl) (by kernel_rfl) (by kernel_rfl)
def tyI69 : TyI := ⟨(.array 2 2), 2, 16, some (.agg #[(.int .i64 0), (.int .i64 0)])⟩
theorem tyI69_ok : TyOk Tryz.prog 69 tyI69 := tyOk_mk (by kernel_rfl) (by kernel_rfl) (by kernel_rfl)
def tyI72 : TyI := ⟨(.int .i64), 1, 8, some (.int .i64 0)⟩
theorem tyI72_ok : TyOk Tryz.prog 72 tyI72 := tyOk_mk (by kernel_rfl) (by kernel_rfl) (by kernel_rfl)
def tyI73 : TyI := ⟨(.tuple #[34, 72]), 1, 0, some (.tuple #[(.slice none 0 0), (.int .i64 0)])⟩
theorem tyI73_ok : TyOk Tryz.prog 73 tyI73 := tyOk_mk (by kernel_rfl) (by kernel_rfl) (by kernel_rfl)
def tyI75 : TyI := ⟨(.tuple #[27, 72]), 1, 0, some (.tuple #[(.agg #[(.slice none 0 0), (.slice none 0 0), (.slice none 0 0), (.slice none 0 0), (.slice none 0 0), (.int .i64 0), (.int .i64 0)]), (.int .i64 0)])⟩
theorem tyI75_ok : TyOk Tryz.prog 75 tyI75 := tyOk_mk (by kernel_rfl) (by kernel_rfl) (by kernel_rfl)
def tyI77 : TyI := ⟨(.tuple #[3, 3, 3, 4]), 1, 0, some (.tuple #[(.int .i64 0), (.int .i64 0), (.int .i64 0), (.bool false)])⟩
theorem tyI77_ok : TyOk Tryz.prog 77 tyI77 := tyOk_mk (by kernel_rfl) (by kernel_rfl) (by kernel_rfl)
def tyI79 : TyI := ⟨(.pointer 84), 1, 8, some (.pointer none)⟩
theorem tyI79_ok : TyOk Tryz.prog 79 tyI79 := tyOk_mk (by kernel_rfl) (by kernel_rfl) (by kernel_rfl)
def tyI80 : TyI := ⟨(.pointer 27), 1, 8, some (.pointer none)⟩
theorem tyI80_ok : TyOk Tryz.prog 80 tyI80 := tyOk_mk (by kernel_rfl) (by kernel_rfl) (by kernel_rfl)
def tyI81 : TyI := ⟨(.pointer 171), 1, 8, some (.pointer none)⟩
theorem tyI81_ok : TyOk Tryz.prog 81 tyI81 := tyOk_mk (by kernel_rfl) (by kernel_rfl) (by kernel_rfl)
def tyI82 : TyI := ⟨(.slice 131), 1, 24, some (.slice none 0 0)⟩
theorem tyI82_ok : TyOk Tryz.prog 82 tyI82 := tyOk_mk (by kernel_rfl) (by kernel_rfl) (by kernel_rfl)
def tyI84 : TyI := ⟨(.struct #[⟨"m", 80, 0, false, "", "bellows/vm", 0⟩, ⟨"s", 37, 1, false, "", "bellows/vm", 8⟩, ⟨"h", 81, 6, false, "", "bellows/vm", 80⟩, ⟨"frames", 82, 7, false, "", "bellows/vm", 88⟩, ⟨"words", 3, 8, false, "", "bellows/vm", 112⟩, ⟨"in", 3, 9, false, "", "bellows/vm", 120⟩, ⟨"made", 3, 10, false, "", "bellows/vm", 128⟩, ⟨"out", 44, 11, false, "", "bellows/vm", 136⟩]), 16, 200, some (.agg #[(.pointer none), (.slice none 0 0), (.int .i64 0), (.int .i64 0), (.int .i64 0), (.slice none 0 0), (.pointer none), (.slice none 0 0), (.int .i64 0), (.int .i64 0), (.int .i64 0), (.int .i64 0), (.slice none 0 0), (.string ⟨#[]⟩), (.int .i64 0), (.int .i64 0)])⟩
theorem tyI84_ok : TyOk Tryz.prog 84 tyI84 := tyOk_mk (by kernel_rfl) (by kernel_rfl) (by kernel_rfl)
def tyI86 : TyI := ⟨(.struct #[⟨"kind", 3, 0, false, "", "bellows/vm", 0⟩]), 1, 8, some (.agg #[(.int .i64 0)])⟩
theorem tyI86_ok : TyOk Tryz.prog 86 tyI86 := tyOk_mk (by kernel_rfl) (by kernel_rfl) (by kernel_rfl)
def tyI88 : TyI := ⟨(.struct #[⟨"Imm", 4, 0, false, "", "", 0⟩, ⟨"Shapes", 28, 1, false, "", "", 8⟩]), 2, 32, some (.agg #[(.bool false), (.slice none 0 0)])⟩
theorem tyI88_ok : TyOk Tryz.prog 88 tyI88 := tyOk_mk (by kernel_rfl) (by kernel_rfl) (by kernel_rfl)
def tyI90 : TyI := ⟨(.struct #[⟨"Kind", 3, 0, false, "", "", 0⟩, ⟨"Fields", 28, 1, false, "", "", 8⟩, ⟨"Name", 9, 2, false, "", "", 32⟩]), 3, 48, some (.agg #[(.int .i64 0), (.slice none 0 0), (.string ⟨#[]⟩)])⟩
theorem tyI90_ok : TyOk Tryz.prog 90 tyI90 := tyOk_mk (by kernel_rfl) (by kernel_rfl) (by kernel_rfl)
def tyI92 : TyI := ⟨(.pointer 94), 1, 8, some (.pointer none)⟩
theorem tyI92_ok : TyOk Tryz.prog 92 tyI92 := tyOk_mk (by kernel_rfl) (by kernel_rfl) (by kernel_rfl)
def tyI94 : TyI := ⟨(.struct #[⟨"b", 34, 0, false, "", "bellows/code", 0⟩]), 1, 24, some (.agg #[(.slice none 0 0)])⟩
theorem tyI94_ok : TyOk Tryz.prog 94 tyI94 := tyOk_mk (by kernel_rfl) (by kernel_rfl) (by kernel_rfl)
def tyI104 : TyI := ⟨(.pointer 106), 1, 8, some (.pointer none)⟩
theorem tyI104_ok : TyOk Tryz.prog 104 tyI104 := tyOk_mk (by kernel_rfl) (by kernel_rfl) (by kernel_rfl)
def tyI106 : TyI := ⟨(.struct #[⟨"b", 34, 0, false, "", "bellows/code", 0⟩, ⟨"at", 3, 1, false, "", "bellows/code", 24⟩, ⟨"bad", 4, 2, false, "", "bellows/code", 32⟩]), 3, 40, some (.agg #[(.slice none 0 0), (.int .i64 0), (.bool false)])⟩
theorem tyI106_ok : TyOk Tryz.prog 106 tyI106 := tyOk_mk (by kernel_rfl) (by kernel_rfl) (by kernel_rfl)
def tyI117 : TyI := ⟨(.pointer 121), 1, 8, some (.pointer none)⟩
theorem tyI117_ok : TyOk Tryz.prog 117 tyI117 := tyOk_mk (by kernel_rfl) (by kernel_rfl) (by kernel_rfl)
def tyI118 : TyI := ⟨(.slice 207), 1, 24, some (.slice none 0 0)⟩
theorem tyI118_ok : TyOk Tryz.prog 118 tyI118 := tyOk_mk (by kernel_rfl) (by kernel_rfl) (by kernel_rfl)
def tyI119 : TyI := ⟨(.slice 153), 1, 24, some (.slice none 0 0)⟩
theorem tyI119_ok : TyOk Tryz.prog 119 tyI119 := tyOk_mk (by kernel_rfl) (by kernel_rfl) (by kernel_rfl)
def tyI121 : TyI := ⟨(.struct #[⟨"M", 27, 0, false, "", "", 0⟩, ⟨"S", 37, 7, false, "", "", 136⟩, ⟨"Objs", 118, 12, false, "", "", 208⟩, ⟨"Frames", 119, 13, false, "", "", 232⟩, ⟨"Used", 3, 14, false, "", "", 256⟩, ⟨"In", 3, 15, false, "", "", 264⟩, ⟨"Made", 3, 16, false, "", "", 272⟩, ⟨"Out", 44, 17, false, "", "", 280⟩]), 22, 344, some (.agg #[(.slice none 0 0), (.slice none 0 0), (.slice none 0 0), (.slice none 0 0), (.slice none 0 0), (.int .i64 0), (.int .i64 0), (.slice none 0 0), (.int .i64 0), (.int .i64 0), (.int .i64 0), (.slice none 0 0), (.slice none 0 0), (.slice none 0 0), (.int .i64 0), (.int .i64 0), (.int .i64 0), (.int .i64 0), (.slice none 0 0), (.string ⟨#[]⟩), (.int .i64 0), (.int .i64 0)])⟩
theorem tyI121_ok : TyOk Tryz.prog 121 tyI121 := tyOk_mk (by kernel_rfl) (by kernel_rfl) (by kernel_rfl)
def tyI125 : TyI := ⟨(.slice 127), 1, 24, some (.slice none 0 0)⟩
theorem tyI125_ok : TyOk Tryz.prog 125 tyI125 := tyOk_mk (by kernel_rfl) (by kernel_rfl) (by kernel_rfl)
def tyI127 : TyI := ⟨(.struct #[⟨"Kind", 3, 0, false, "", "", 0⟩, ⟨"N", 3, 1, false, "", "", 8⟩]), 2, 16, some (.agg #[(.int .i64 0), (.int .i64 0)])⟩
theorem tyI127_ok : TyOk Tryz.prog 127 tyI127 := tyOk_mk (by kernel_rfl) (by kernel_rfl) (by kernel_rfl)
def tyI128 : TyI := ⟨(.tuple #[81, 72]), 1, 0, some (.tuple #[(.pointer none), (.int .i64 0)])⟩
theorem tyI128_ok : TyOk Tryz.prog 128 tyI128 := tyOk_mk (by kernel_rfl) (by kernel_rfl) (by kernel_rfl)
def tyI131 : TyI := ⟨(.pointer 138), 1, 8, some (.pointer none)⟩
theorem tyI131_ok : TyOk Tryz.prog 131 tyI131 := tyOk_mk (by kernel_rfl) (by kernel_rfl) (by kernel_rfl)
def tyI133 : TyI := ⟨(.pointer 59), 1, 8, some (.pointer none)⟩
theorem tyI133_ok : TyOk Tryz.prog 133 tyI133 := tyOk_mk (by kernel_rfl) (by kernel_rfl) (by kernel_rfl)
def tyI135 : TyI := ⟨(.struct #[⟨"f", 133, 0, false, "", "bellows/vm", 0⟩, ⟨"block", 3, 1, false, "", "bellows/vm", 8⟩, ⟨"at", 3, 2, false, "", "bellows/vm", 16⟩]), 3, 24, some (.agg #[(.pointer none), (.int .i64 0), (.int .i64 0)])⟩
theorem tyI135_ok : TyOk Tryz.prog 135 tyI135 := tyOk_mk (by kernel_rfl) (by kernel_rfl) (by kernel_rfl)
def tyI136 : TyI := ⟨(.slice 62), 1, 24, some (.slice none 0 0)⟩
theorem tyI136_ok : TyOk Tryz.prog 136 tyI136 := tyOk_mk (by kernel_rfl) (by kernel_rfl) (by kernel_rfl)
def tyI138 : TyI := ⟨(.struct #[⟨"spot", 135, 0, true, "", "bellows/vm", 0⟩, ⟨"slots", 136, 3, false, "", "bellows/vm", 24⟩]), 4, 48, some (.agg #[(.pointer none), (.int .i64 0), (.int .i64 0), (.slice none 0 0)])⟩
theorem tyI138_ok : TyOk Tryz.prog 138 tyI138 := tyOk_mk (by kernel_rfl) (by kernel_rfl) (by kernel_rfl)
def tyI139 : TyI := ⟨(.pointer 30), 1, 8, some (.pointer none)⟩
theorem tyI139_ok : TyOk Tryz.prog 139 tyI139 := tyOk_mk (by kernel_rfl) (by kernel_rfl) (by kernel_rfl)
def tyI151 : TyI := ⟨(.slice 155), 1, 24, some (.slice none 0 0)⟩
theorem tyI151_ok : TyOk Tryz.prog 151 tyI151 := tyOk_mk (by kernel_rfl) (by kernel_rfl) (by kernel_rfl)
def tyI153 : TyI := ⟨(.struct #[⟨"F", 3, 0, false, "", "", 0⟩, ⟨"Block", 3, 1, false, "", "", 8⟩, ⟨"At", 3, 2, false, "", "", 16⟩, ⟨"Slots", 151, 3, false, "", "", 24⟩]), 4, 48, some (.agg #[(.int .i64 0), (.int .i64 0), (.int .i64 0), (.slice none 0 0)])⟩
theorem tyI153_ok : TyOk Tryz.prog 153 tyI153 := tyOk_mk (by kernel_rfl) (by kernel_rfl) (by kernel_rfl)
def tyI155 : TyI := ⟨(.struct #[⟨"Imm", 4, 0, false, "", "", 0⟩, ⟨"N", 2, 1, false, "", "", 8⟩, ⟨"P", 3, 2, false, "", "", 16⟩]), 3, 24, some (.agg #[(.bool false), (.int .i64 0), (.int .i64 0)])⟩
theorem tyI155_ok : TyOk Tryz.prog 155 tyI155 := tyOk_mk (by kernel_rfl) (by kernel_rfl) (by kernel_rfl)
def tyI157 : TyI := ⟨(.pointer 153), 1, 8, some (.pointer none)⟩
theorem tyI157_ok : TyOk Tryz.prog 157 tyI157 := tyOk_mk (by kernel_rfl) (by kernel_rfl) (by kernel_rfl)
def tyI163 : TyI := ⟨(.slice 165), 1, 24, some (.slice none 0 0)⟩
theorem tyI163_ok : TyOk Tryz.prog 163 tyI163 := tyOk_mk (by kernel_rfl) (by kernel_rfl) (by kernel_rfl)
def tyI165 : TyI := ⟨(.struct #[⟨"T", 88, 0, false, "", "", 0⟩, ⟨"No", 4, 2, false, "", "", 32⟩]), 3, 40, some (.agg #[(.bool false), (.slice none 0 0), (.bool false)])⟩
theorem tyI165_ok : TyOk Tryz.prog 165 tyI165 := tyOk_mk (by kernel_rfl) (by kernel_rfl) (by kernel_rfl)
def tyI168 : TyI := ⟨(.tuple #[163, 4]), 1, 0, some (.tuple #[(.slice none 0 0), (.bool false)])⟩
theorem tyI168_ok : TyOk Tryz.prog 168 tyI168 := tyOk_mk (by kernel_rfl) (by kernel_rfl) (by kernel_rfl)
def tyI171 : TyI := ⟨(.struct #[⟨"words", 136, 0, false, "", "bellows/heap", 0⟩, ⟨"heads", 136, 1, false, "", "bellows/heap", 24⟩, ⟨"layouts", 125, 2, false, "", "bellows/heap", 48⟩, ⟨"top", 3, 3, false, "", "bellows/heap", 72⟩]), 4, 80, some (.agg #[(.slice none 0 0), (.slice none 0 0), (.slice none 0 0), (.int .i64 0)])⟩
theorem tyI171_ok : TyOk Tryz.prog 171 tyI171 := tyOk_mk (by kernel_rfl) (by kernel_rfl) (by kernel_rfl)
def tyI175 : TyI := ⟨(.pointer 62), 1, 8, some (.pointer none)⟩
theorem tyI175_ok : TyOk Tryz.prog 175 tyI175 := tyOk_mk (by kernel_rfl) (by kernel_rfl) (by kernel_rfl)
def tyI193 : TyI := ⟨(.pointer 3), 1, 8, some (.pointer none)⟩
theorem tyI193_ok : TyOk Tryz.prog 193 tyI193 := tyOk_mk (by kernel_rfl) (by kernel_rfl) (by kernel_rfl)
def tyI195 : TyI := ⟨(.pointer 28), 1, 8, some (.pointer none)⟩
theorem tyI195_ok : TyOk Tryz.prog 195 tyI195 := tyOk_mk (by kernel_rfl) (by kernel_rfl) (by kernel_rfl)
def tyI202 : TyI := ⟨(.tuple #[2, 3, 4]), 1, 0, some (.tuple #[(.int .i64 0), (.int .i64 0), (.bool false)])⟩
theorem tyI202_ok : TyOk Tryz.prog 202 tyI202 := tyOk_mk (by kernel_rfl) (by kernel_rfl) (by kernel_rfl)
def tyI207 : TyI := ⟨(.struct #[⟨"Shape", 3, 0, false, "", "", 0⟩, ⟨"Fields", 151, 1, false, "", "", 8⟩, ⟨"Bytes", 34, 2, false, "", "", 32⟩]), 3, 56, some (.agg #[(.int .i64 0), (.slice none 0 0), (.slice none 0 0)])⟩
theorem tyI207_ok : TyOk Tryz.prog 207 tyI207 := tyOk_mk (by kernel_rfl) (by kernel_rfl) (by kernel_rfl)
def tyI219 : TyI := ⟨(.tuple #[88, 4, 4]), 1, 0, some (.tuple #[(.agg #[(.bool false), (.slice none 0 0)]), (.bool false), (.bool false)])⟩
theorem tyI219_ok : TyOk Tryz.prog 219 tyI219 := tyOk_mk (by kernel_rfl) (by kernel_rfl) (by kernel_rfl)
def tyI222 : TyI := ⟨(.tuple #[88, 4]), 1, 0, some (.tuple #[(.agg #[(.bool false), (.slice none 0 0)]), (.bool false)])⟩
theorem tyI222_ok : TyOk Tryz.prog 222 tyI222 := tyOk_mk (by kernel_rfl) (by kernel_rfl) (by kernel_rfl)
def tyI227 : TyI := ⟨(.tuple #[3, 72]), 1, 0, some (.tuple #[(.int .i64 0), (.int .i64 0)])⟩
theorem tyI227_ok : TyOk Tryz.prog 227 tyI227 := tyOk_mk (by kernel_rfl) (by kernel_rfl) (by kernel_rfl)
def tyI231 : TyI := ⟨(.tuple #[3, 136]), 1, 0, some (.tuple #[(.int .i64 0), (.slice none 0 0)])⟩
theorem tyI231_ok : TyOk Tryz.prog 231 tyI231 := tyOk_mk (by kernel_rfl) (by kernel_rfl) (by kernel_rfl)
def tyI235 : TyI := ⟨(.tuple #[3, 3]), 1, 0, some (.tuple #[(.int .i64 0), (.int .i64 0)])⟩
theorem tyI235_ok : TyOk Tryz.prog 235 tyI235 := tyOk_mk (by kernel_rfl) (by kernel_rfl) (by kernel_rfl)
def tyI237 : TyI := ⟨(.tuple #[5, 72]), 1, 0, some (.tuple #[(.int .u8 0), (.int .i64 0)])⟩
theorem tyI237_ok : TyOk Tryz.prog 237 tyI237 := tyOk_mk (by kernel_rfl) (by kernel_rfl) (by kernel_rfl)
def tyI240 : TyI := ⟨(.tuple #[9, 72]), 1, 0, some (.tuple #[(.string ⟨#[]⟩), (.int .i64 0)])⟩
theorem tyI240_ok : TyOk Tryz.prog 240 tyI240 := tyOk_mk (by kernel_rfl) (by kernel_rfl) (by kernel_rfl)
def tyI244 : TyI := ⟨(.tuple #[62, 72]), 1, 0, some (.tuple #[(.int .u64 0), (.int .i64 0)])⟩
theorem tyI244_ok : TyOk Tryz.prog 244 tyI244 := tyOk_mk (by kernel_rfl) (by kernel_rfl) (by kernel_rfl)
def tyI246 : TyI := ⟨(.slice 22), 1, 24, some (.slice none 0 0)⟩
theorem tyI246_ok : TyOk Tryz.prog 246 tyI246 := tyOk_mk (by kernel_rfl) (by kernel_rfl) (by kernel_rfl)
def tyI249 : TyI := ⟨(.slice 23), 1, 24, some (.slice none 0 0)⟩
theorem tyI249_ok : TyOk Tryz.prog 249 tyI249 := tyOk_mk (by kernel_rfl) (by kernel_rfl) (by kernel_rfl)
def tyI252 : TyI := ⟨(.slice 24), 1, 24, some (.slice none 0 0)⟩
theorem tyI252_ok : TyOk Tryz.prog 252 tyI252 := tyOk_mk (by kernel_rfl) (by kernel_rfl) (by kernel_rfl)
def tyI255 : TyI := ⟨(.slice 25), 1, 24, some (.slice none 0 0)⟩
theorem tyI255_ok : TyOk Tryz.prog 255 tyI255 := tyOk_mk (by kernel_rfl) (by kernel_rfl) (by kernel_rfl)
def tyI260 : TyI := ⟨(.slice 28), 1, 24, some (.slice none 0 0)⟩
theorem tyI260_ok : TyOk Tryz.prog 260 tyI260 := tyOk_mk (by kernel_rfl) (by kernel_rfl) (by kernel_rfl)
def tyI262 : TyI := ⟨(.slice 57), 1, 24, some (.slice none 0 0)⟩
theorem tyI262_ok : TyOk Tryz.prog 262 tyI262 := tyOk_mk (by kernel_rfl) (by kernel_rfl) (by kernel_rfl)
def tyI265 : TyI := ⟨(.tuple #[2, 2, 4]), 1, 0, some (.tuple #[(.int .i64 0), (.int .i64 0), (.bool false)])⟩
theorem tyI265_ok : TyOk Tryz.prog 265 tyI265 := tyOk_mk (by kernel_rfl) (by kernel_rfl) (by kernel_rfl)
def tyI272 : TyI := ⟨(.tuple #[28, 4]), 1, 0, some (.tuple #[(.slice none 0 0), (.bool false)])⟩
theorem tyI272_ok : TyOk Tryz.prog 272 tyI272 := tyOk_mk (by kernel_rfl) (by kernel_rfl) (by kernel_rfl)
def tyI287 : TyI := ⟨(.tuple #[136, 72]), 1, 0, some (.tuple #[(.slice none 0 0), (.int .i64 0)])⟩
theorem tyI287_ok : TyOk Tryz.prog 287 tyI287 := tyOk_mk (by kernel_rfl) (by kernel_rfl) (by kernel_rfl)
def tyI290 : TyI := ⟨(.pointer 294), 1, 8, some (.pointer none)⟩
theorem tyI290_ok : TyOk Tryz.prog 290 tyI290 := tyOk_mk (by kernel_rfl) (by kernel_rfl) (by kernel_rfl)
def tyI291 : TyI := ⟨(.tuple #[290, 72]), 1, 0, some (.tuple #[(.pointer none), (.int .i64 0)])⟩
theorem tyI291_ok : TyOk Tryz.prog 291 tyI291 := tyOk_mk (by kernel_rfl) (by kernel_rfl) (by kernel_rfl)
def tyI294 : TyI := ⟨(.struct #[⟨"h", 81, 0, false, "", "bellows/gc", 0⟩, ⟨"roots", 136, 1, false, "", "bellows/gc", 8⟩, ⟨"top", 3, 2, false, "", "bellows/gc", 32⟩]), 3, 40, some (.agg #[(.pointer none), (.slice none 0 0), (.int .i64 0)])⟩
theorem tyI294_ok : TyOk Tryz.prog 294 tyI294 := tyOk_mk (by kernel_rfl) (by kernel_rfl) (by kernel_rfl)
def tyT : Tr TyI := (.node (some tyI0) (.node none (.node (some tyI3) (.node none (.node none (.node (some tyI31) (.node none (.node (some tyI127) (.node (some tyI255) .leaf .leaf) .leaf) .leaf) (.node none (.node none (.node (some tyI287) .leaf .leaf) .leaf) .leaf)) (.node none (.node (some tyI79) .leaf (.node (some tyI207) .leaf .leaf)) (.node none (.node (some tyI175) .leaf .leaf) .leaf))) (.node (some tyI23) (.node none (.node none (.node (some tyI135) .leaf .leaf) .leaf) (.node none .leaf (.node (some tyI231) .leaf .leaf))) (.node none (.node none (.node (some tyI151) .leaf .leaf) .leaf) (.node (some tyI119) .leaf .leaf)))) (.node none (.node none (.node (some tyI35) (.node none (.node (some tyI131) .leaf .leaf) (.node (some tyI195) .leaf .leaf)) (.node none (.node (some tyI163) (.node (some tyI291) .leaf .leaf) .leaf) (.node (some tyI227) .leaf .leaf))) .leaf) (.node (some tyI27) (.node none (.node (some tyI75) (.node (some tyI139) .leaf .leaf) .leaf) (.node none (.node (some tyI171) .leaf .leaf) (.node (some tyI235) .leaf .leaf))) (.node (some tyI59) (.node none (.node (some tyI155) .leaf .leaf) (.node (some tyI219) .leaf .leaf)) .leaf)))) (.node (some tyI5) (.node (some tyI9) (.node none (.node (some tyI33) (.node none .leaf (.node (some tyI193) .leaf .leaf)) .leaf) (.node none (.node (some tyI81) .leaf .leaf) .leaf)) (.node (some tyI25) (.node none (.node (some tyI73) (.node none (.node (some tyI265) .leaf .leaf) .leaf) .leaf) .leaf) (.node (some tyI57) (.node none (.node (some tyI153) .leaf .leaf) .leaf) (.node (some tyI121) .leaf (.node (some tyI249) .leaf .leaf))))) (.node none (.node none (.node (some tyI37) (.node (some tyI69) (.node (some tyI133) .leaf .leaf) .leaf) (.node none (.node (some tyI165) .leaf .leaf) .leaf)) (.node none .leaf (.node (some tyI117) .leaf .leaf))) (.node none (.node none (.node (some tyI77) .leaf .leaf) (.node none .leaf (.node (some tyI237) .leaf .leaf))) (.node none (.node none (.node (some tyI157) .leaf .leaf) .leaf) (.node (some tyI125) .leaf .leaf)))))) (.node (some tyI2) (.node (some tyI4) (.node none (.node none (.node none (.node (some tyI64) (.node (some tyI128) .leaf .leaf) .leaf) .leaf) (.node none (.node (some tyI80) (.node none (.node (some tyI272) .leaf .leaf) .leaf) .leaf) (.node none .leaf (.node (some tyI240) .leaf .leaf)))) (.node (some tyI24) (.node none (.node (some tyI72) (.node (some tyI136) .leaf .leaf) .leaf) (.node (some tyI104) (.node (some tyI168) .leaf .leaf) .leaf)) (.node (some tyI56) (.node (some tyI88) .leaf .leaf) .leaf))) (.node none (.node (some tyI20) (.node none (.node none (.node none (.node (some tyI260) .leaf .leaf) .leaf) .leaf) .leaf) (.node none (.node (some tyI84) .leaf .leaf) (.node none .leaf (.node (some tyI244) .leaf .leaf)))) (.node (some tyI28) (.node (some tyI44) .leaf .leaf) (.node none (.node (some tyI92) .leaf .leaf) (.node none .leaf (.node (some tyI252) .leaf .leaf)))))) (.node none (.node none (.node none (.node (some tyI34) .leaf (.node none (.node none (.node (some tyI290) .leaf .leaf) .leaf) .leaf)) (.node (some tyI50) (.node (some tyI82) .leaf .leaf) .leaf)) (.node none (.node none (.node none (.node (some tyI138) .leaf .leaf) (.node (some tyI202) .leaf .leaf)) (.node (some tyI106) .leaf .leaf)) (.node none (.node (some tyI90) .leaf .leaf) .leaf))) (.node none (.node (some tyI22) (.node none (.node none (.node none (.node (some tyI262) .leaf .leaf) .leaf) .leaf) (.node none (.node none (.node (some tyI294) .leaf .leaf) .leaf) .leaf)) (.node (some tyI54) (.node (some tyI86) .leaf .leaf) (.node (some tyI118) .leaf (.node (some tyI246) .leaf .leaf)))) (.node (some tyI30) .leaf (.node (some tyI62) (.node (some tyI94) .leaf (.node (some tyI222) .leaf .leaf)) .leaf))))))
theorem tyT_ok : ∀ t i, tyT.get t = some i → TyOk Tryz.prog t i := Tr.allAt tyT id (show Tr.AllAt _ _ tyT from ⟨tyI0_ok, ⟨trivial, ⟨tyI3_ok, ⟨trivial, ⟨trivial, ⟨tyI31_ok, ⟨trivial, ⟨tyI127_ok, ⟨tyI255_ok, trivial, trivial⟩, trivial⟩, trivial⟩, ⟨trivial, ⟨trivial, ⟨tyI287_ok, trivial, trivial⟩, trivial⟩, trivial⟩⟩, ⟨trivial, ⟨tyI79_ok, trivial, ⟨tyI207_ok, trivial, trivial⟩⟩, ⟨trivial, ⟨tyI175_ok, trivial, trivial⟩, trivial⟩⟩⟩, ⟨tyI23_ok, ⟨trivial, ⟨trivial, ⟨tyI135_ok, trivial, trivial⟩, trivial⟩, ⟨trivial, trivial, ⟨tyI231_ok, trivial, trivial⟩⟩⟩, ⟨trivial, ⟨trivial, ⟨tyI151_ok, trivial, trivial⟩, trivial⟩, ⟨tyI119_ok, trivial, trivial⟩⟩⟩⟩, ⟨trivial, ⟨trivial, ⟨tyI35_ok, ⟨trivial, ⟨tyI131_ok, trivial, trivial⟩, ⟨tyI195_ok, trivial, trivial⟩⟩, ⟨trivial, ⟨tyI163_ok, ⟨tyI291_ok, trivial, trivial⟩, trivial⟩, ⟨tyI227_ok, trivial, trivial⟩⟩⟩, trivial⟩, ⟨tyI27_ok, ⟨trivial, ⟨tyI75_ok, ⟨tyI139_ok, trivial, trivial⟩, trivial⟩, ⟨trivial, ⟨tyI171_ok, trivial, trivial⟩, ⟨tyI235_ok, trivial, trivial⟩⟩⟩, ⟨tyI59_ok, ⟨trivial, ⟨tyI155_ok, trivial, trivial⟩, ⟨tyI219_ok, trivial, trivial⟩⟩, trivial⟩⟩⟩⟩, ⟨tyI5_ok, ⟨tyI9_ok, ⟨trivial, ⟨tyI33_ok, ⟨trivial, trivial, ⟨tyI193_ok, trivial, trivial⟩⟩, trivial⟩, ⟨trivial, ⟨tyI81_ok, trivial, trivial⟩, trivial⟩⟩, ⟨tyI25_ok, ⟨trivial, ⟨tyI73_ok, ⟨trivial, ⟨tyI265_ok, trivial, trivial⟩, trivial⟩, trivial⟩, trivial⟩, ⟨tyI57_ok, ⟨trivial, ⟨tyI153_ok, trivial, trivial⟩, trivial⟩, ⟨tyI121_ok, trivial, ⟨tyI249_ok, trivial, trivial⟩⟩⟩⟩⟩, ⟨trivial, ⟨trivial, ⟨tyI37_ok, ⟨tyI69_ok, ⟨tyI133_ok, trivial, trivial⟩, trivial⟩, ⟨trivial, ⟨tyI165_ok, trivial, trivial⟩, trivial⟩⟩, ⟨trivial, trivial, ⟨tyI117_ok, trivial, trivial⟩⟩⟩, ⟨trivial, ⟨trivial, ⟨tyI77_ok, trivial, trivial⟩, ⟨trivial, trivial, ⟨tyI237_ok, trivial, trivial⟩⟩⟩, ⟨trivial, ⟨trivial, ⟨tyI157_ok, trivial, trivial⟩, trivial⟩, ⟨tyI125_ok, trivial, trivial⟩⟩⟩⟩⟩⟩, ⟨tyI2_ok, ⟨tyI4_ok, ⟨trivial, ⟨trivial, ⟨trivial, ⟨tyI64_ok, ⟨tyI128_ok, trivial, trivial⟩, trivial⟩, trivial⟩, ⟨trivial, ⟨tyI80_ok, ⟨trivial, ⟨tyI272_ok, trivial, trivial⟩, trivial⟩, trivial⟩, ⟨trivial, trivial, ⟨tyI240_ok, trivial, trivial⟩⟩⟩⟩, ⟨tyI24_ok, ⟨trivial, ⟨tyI72_ok, ⟨tyI136_ok, trivial, trivial⟩, trivial⟩, ⟨tyI104_ok, ⟨tyI168_ok, trivial, trivial⟩, trivial⟩⟩, ⟨tyI56_ok, ⟨tyI88_ok, trivial, trivial⟩, trivial⟩⟩⟩, ⟨trivial, ⟨tyI20_ok, ⟨trivial, ⟨trivial, ⟨trivial, ⟨tyI260_ok, trivial, trivial⟩, trivial⟩, trivial⟩, trivial⟩, ⟨trivial, ⟨tyI84_ok, trivial, trivial⟩, ⟨trivial, trivial, ⟨tyI244_ok, trivial, trivial⟩⟩⟩⟩, ⟨tyI28_ok, ⟨tyI44_ok, trivial, trivial⟩, ⟨trivial, ⟨tyI92_ok, trivial, trivial⟩, ⟨trivial, trivial, ⟨tyI252_ok, trivial, trivial⟩⟩⟩⟩⟩⟩, ⟨trivial, ⟨trivial, ⟨trivial, ⟨tyI34_ok, trivial, ⟨trivial, ⟨trivial, ⟨tyI290_ok, trivial, trivial⟩, trivial⟩, trivial⟩⟩, ⟨tyI50_ok, ⟨tyI82_ok, trivial, trivial⟩, trivial⟩⟩, ⟨trivial, ⟨trivial, ⟨trivial, ⟨tyI138_ok, trivial, trivial⟩, ⟨tyI202_ok, trivial, trivial⟩⟩, ⟨tyI106_ok, trivial, trivial⟩⟩, ⟨trivial, ⟨tyI90_ok, trivial, trivial⟩, trivial⟩⟩⟩, ⟨trivial, ⟨tyI22_ok, ⟨trivial, ⟨trivial, ⟨trivial, ⟨tyI262_ok, trivial, trivial⟩, trivial⟩, trivial⟩, ⟨trivial, ⟨trivial, ⟨tyI294_ok, trivial, trivial⟩, trivial⟩, trivial⟩⟩, ⟨tyI54_ok, ⟨tyI86_ok, trivial, trivial⟩, ⟨tyI118_ok, trivial, ⟨tyI246_ok, trivial, trivial⟩⟩⟩⟩, ⟨tyI30_ok, trivial, ⟨tyI62_ok, ⟨tyI94_ok, trivial, ⟨tyI222_ok, trivial, trivial⟩⟩, trivial⟩⟩⟩⟩⟩⟩)
theorem fn3_ok : FnOk Tryz.prog 3 Tryz.f3 := ⟨Tryz.func3, by kernel_rfl⟩
theorem fn4_ok : FnOk Tryz.prog 4 Tryz.f4 := ⟨Tryz.func4, by kernel_rfl⟩
theorem fn5_ok : FnOk Tryz.prog 5 Tryz.f5 := ⟨Tryz.func5, by kernel_rfl⟩
theorem fn6_ok : FnOk Tryz.prog 6 Tryz.f6 := ⟨Tryz.func6, by kernel_rfl⟩
theorem fn7_ok : FnOk Tryz.prog 7 Tryz.f7 := ⟨Tryz.func7, by kernel_rfl⟩
theorem fn8_ok : FnOk Tryz.prog 8 Tryz.f8 := ⟨Tryz.func8, by kernel_rfl⟩
theorem fn9_ok : FnOk Tryz.prog 9 Tryz.f9 := ⟨Tryz.func9, by kernel_rfl⟩
theorem fn10_ok : FnOk Tryz.prog 10 Tryz.f10 := ⟨Tryz.func10, by kernel_rfl⟩
theorem fn11_ok : FnOk Tryz.prog 11 Tryz.f11 := ⟨Tryz.func11, by kernel_rfl⟩
theorem fn12_ok : FnOk Tryz.prog 12 Tryz.f12 := ⟨Tryz.func12, by kernel_rfl⟩
theorem fn13_ok : FnOk Tryz.prog 13 Tryz.f13 := ⟨Tryz.func13, by kernel_rfl⟩
theorem fn14_ok : FnOk Tryz.prog 14 Tryz.f14 := ⟨Tryz.func14, by kernel_rfl⟩
theorem fn15_ok : FnOk Tryz.prog 15 Tryz.f15 := ⟨Tryz.func15, by kernel_rfl⟩
theorem fn16_ok : FnOk Tryz.prog 16 Tryz.f16 := ⟨Tryz.func16, by kernel_rfl⟩
theorem fn17_ok : FnOk Tryz.prog 17 Tryz.f17 := ⟨Tryz.func17, by kernel_rfl⟩
theorem fn18_ok : FnOk Tryz.prog 18 Tryz.f18 := ⟨Tryz.func18, by kernel_rfl⟩
theorem fn19_ok : FnOk Tryz.prog 19 Tryz.f19 := ⟨Tryz.func19, by kernel_rfl⟩
theorem fn20_ok : FnOk Tryz.prog 20 Tryz.f20 := ⟨Tryz.func20, by kernel_rfl⟩
theorem fn21_ok : FnOk Tryz.prog 21 Tryz.f21 := ⟨Tryz.func21, by kernel_rfl⟩
theorem fn22_ok : FnOk Tryz.prog 22 Tryz.f22 := ⟨Tryz.func22, by kernel_rfl⟩
theorem fn23_ok : FnOk Tryz.prog 23 Tryz.f23 := ⟨Tryz.func23, by kernel_rfl⟩
theorem fn24_ok : FnOk Tryz.prog 24 Tryz.f24 := ⟨Tryz.func24, by kernel_rfl⟩
theorem fn25_ok : FnOk Tryz.prog 25 Tryz.f25 := ⟨Tryz.func25, by kernel_rfl⟩
theorem fn26_ok : FnOk Tryz.prog 26 Tryz.f26 := ⟨Tryz.func26, by kernel_rfl⟩
theorem fn27_ok : FnOk Tryz.prog 27 Tryz.f27 := ⟨Tryz.func27, by kernel_rfl⟩
theorem fn28_ok : FnOk Tryz.prog 28 Tryz.f28 := ⟨Tryz.func28, by kernel_rfl⟩
theorem fn29_ok : FnOk Tryz.prog 29 Tryz.f29 := ⟨Tryz.func29, by kernel_rfl⟩
theorem fn30_ok : FnOk Tryz.prog 30 Tryz.f30 := ⟨Tryz.func30, by kernel_rfl⟩
theorem fn31_ok : FnOk Tryz.prog 31 Tryz.f31 := ⟨Tryz.func31, by kernel_rfl⟩
theorem fn32_ok : FnOk Tryz.prog 32 Tryz.f32 := ⟨Tryz.func32, by kernel_rfl⟩
theorem fn33_ok : FnOk Tryz.prog 33 Tryz.f33 := ⟨Tryz.func33, by kernel_rfl⟩
theorem fn34_ok : FnOk Tryz.prog 34 Tryz.f34 := ⟨Tryz.func34, by kernel_rfl⟩
theorem fn35_ok : FnOk Tryz.prog 35 Tryz.f35 := ⟨Tryz.func35, by kernel_rfl⟩
theorem fn36_ok : FnOk Tryz.prog 36 Tryz.f36 := ⟨Tryz.func36, by kernel_rfl⟩
theorem fn37_ok : FnOk Tryz.prog 37 Tryz.f37 := ⟨Tryz.func37, by kernel_rfl⟩
theorem fn38_ok : FnOk Tryz.prog 38 Tryz.f38 := ⟨Tryz.func38, by kernel_rfl⟩
theorem fn39_ok : FnOk Tryz.prog 39 Tryz.f39 := ⟨Tryz.func39, by kernel_rfl⟩
theorem fn40_ok : FnOk Tryz.prog 40 Tryz.f40 := ⟨Tryz.func40, by kernel_rfl⟩
theorem fn41_ok : FnOk Tryz.prog 41 Tryz.f41 := ⟨Tryz.func41, by kernel_rfl⟩
theorem fn42_ok : FnOk Tryz.prog 42 Tryz.f42 := ⟨Tryz.func42, by kernel_rfl⟩
theorem fn43_ok : FnOk Tryz.prog 43 Tryz.f43 := ⟨Tryz.func43, by kernel_rfl⟩
theorem fn44_ok : FnOk Tryz.prog 44 Tryz.f44 := ⟨Tryz.func44, by kernel_rfl⟩
theorem fn45_ok : FnOk Tryz.prog 45 Tryz.f45 := ⟨Tryz.func45, by kernel_rfl⟩
theorem fn46_ok : FnOk Tryz.prog 46 Tryz.f46 := ⟨Tryz.func46, by kernel_rfl⟩
theorem fn47_ok : FnOk Tryz.prog 47 Tryz.f47 := ⟨Tryz.func47, by kernel_rfl⟩
theorem fn48_ok : FnOk Tryz.prog 48 Tryz.f48 := ⟨Tryz.func48, by kernel_rfl⟩
theorem fn49_ok : FnOk Tryz.prog 49 Tryz.f49 := ⟨Tryz.func49, by kernel_rfl⟩
theorem fn50_ok : FnOk Tryz.prog 50 Tryz.f50 := ⟨Tryz.func50, by kernel_rfl⟩
theorem fn51_ok : FnOk Tryz.prog 51 Tryz.f51 := ⟨Tryz.func51, by kernel_rfl⟩
theorem fn52_ok : FnOk Tryz.prog 52 Tryz.f52 := ⟨Tryz.func52, by kernel_rfl⟩
theorem fn53_ok : FnOk Tryz.prog 53 Tryz.f53 := ⟨Tryz.func53, by kernel_rfl⟩
theorem fn54_ok : FnOk Tryz.prog 54 Tryz.f54 := ⟨Tryz.func54, by kernel_rfl⟩
theorem fn55_ok : FnOk Tryz.prog 55 Tryz.f55 := ⟨Tryz.func55, by kernel_rfl⟩
theorem fn56_ok : FnOk Tryz.prog 56 Tryz.f56 := ⟨Tryz.func56, by kernel_rfl⟩
theorem fn57_ok : FnOk Tryz.prog 57 Tryz.f57 := ⟨Tryz.func57, by kernel_rfl⟩
theorem fn58_ok : FnOk Tryz.prog 58 Tryz.f58 := ⟨Tryz.func58, by kernel_rfl⟩
theorem fn59_ok : FnOk Tryz.prog 59 Tryz.f59 := ⟨Tryz.func59, by kernel_rfl⟩
theorem fn60_ok : FnOk Tryz.prog 60 Tryz.f60 := ⟨Tryz.func60, by kernel_rfl⟩
theorem fn61_ok : FnOk Tryz.prog 61 Tryz.f61 := ⟨Tryz.func61, by kernel_rfl⟩
theorem fn62_ok : FnOk Tryz.prog 62 Tryz.f62 := ⟨Tryz.func62, by kernel_rfl⟩
theorem fn63_ok : FnOk Tryz.prog 63 Tryz.f63 := ⟨Tryz.func63, by kernel_rfl⟩
theorem fn64_ok : FnOk Tryz.prog 64 Tryz.f64 := ⟨Tryz.func64, by kernel_rfl⟩
theorem fn65_ok : FnOk Tryz.prog 65 Tryz.f65 := ⟨Tryz.func65, by kernel_rfl⟩
theorem fn66_ok : FnOk Tryz.prog 66 Tryz.f66 := ⟨Tryz.func66, by kernel_rfl⟩
theorem fn67_ok : FnOk Tryz.prog 67 Tryz.f67 := ⟨Tryz.func67, by kernel_rfl⟩
theorem fn68_ok : FnOk Tryz.prog 68 Tryz.f68 := ⟨Tryz.func68, by kernel_rfl⟩
theorem fn69_ok : FnOk Tryz.prog 69 Tryz.f69 := ⟨Tryz.func69, by kernel_rfl⟩
theorem fn70_ok : FnOk Tryz.prog 70 Tryz.f70 := ⟨Tryz.func70, by kernel_rfl⟩
theorem fn71_ok : FnOk Tryz.prog 71 Tryz.f71 := ⟨Tryz.func71, by kernel_rfl⟩
theorem fn72_ok : FnOk Tryz.prog 72 Tryz.f72 := ⟨Tryz.func72, by kernel_rfl⟩
theorem fn73_ok : FnOk Tryz.prog 73 Tryz.f73 := ⟨Tryz.func73, by kernel_rfl⟩
theorem fn74_ok : FnOk Tryz.prog 74 Tryz.f74 := ⟨Tryz.func74, by kernel_rfl⟩
theorem fn75_ok : FnOk Tryz.prog 75 Tryz.f75 := ⟨Tryz.func75, by kernel_rfl⟩
theorem fn76_ok : FnOk Tryz.prog 76 Tryz.f76 := ⟨Tryz.func76, by kernel_rfl⟩
theorem fn77_ok : FnOk Tryz.prog 77 Tryz.f77 := ⟨Tryz.func77, by kernel_rfl⟩
theorem fn78_ok : FnOk Tryz.prog 78 Tryz.f78 := ⟨Tryz.func78, by kernel_rfl⟩
theorem fn79_ok : FnOk Tryz.prog 79 Tryz.f79 := ⟨Tryz.func79, by kernel_rfl⟩
theorem fn80_ok : FnOk Tryz.prog 80 Tryz.f80 := ⟨Tryz.func80, by kernel_rfl⟩
theorem fn81_ok : FnOk Tryz.prog 81 Tryz.f81 := ⟨Tryz.func81, by kernel_rfl⟩
theorem fn82_ok : FnOk Tryz.prog 82 Tryz.f82 := ⟨Tryz.func82, by kernel_rfl⟩
theorem fn83_ok : FnOk Tryz.prog 83 Tryz.f83 := ⟨Tryz.func83, by kernel_rfl⟩
theorem fn84_ok : FnOk Tryz.prog 84 Tryz.f84 := ⟨Tryz.func84, by kernel_rfl⟩
theorem fn85_ok : FnOk Tryz.prog 85 Tryz.f85 := ⟨Tryz.func85, by kernel_rfl⟩
theorem fn86_ok : FnOk Tryz.prog 86 Tryz.f86 := ⟨Tryz.func86, by kernel_rfl⟩
theorem fn87_ok : FnOk Tryz.prog 87 Tryz.f87 := ⟨Tryz.func87, by kernel_rfl⟩
theorem fn88_ok : FnOk Tryz.prog 88 Tryz.f88 := ⟨Tryz.func88, by kernel_rfl⟩
theorem fn89_ok : FnOk Tryz.prog 89 Tryz.f89 := ⟨Tryz.func89, by kernel_rfl⟩
theorem fn90_ok : FnOk Tryz.prog 90 Tryz.f90 := ⟨Tryz.func90, by kernel_rfl⟩
theorem fn91_ok : FnOk Tryz.prog 91 Tryz.f91 := ⟨Tryz.func91, by kernel_rfl⟩
theorem fn92_ok : FnOk Tryz.prog 92 Tryz.f92 := ⟨Tryz.func92, by kernel_rfl⟩
theorem fn93_ok : FnOk Tryz.prog 93 Tryz.f93 := ⟨Tryz.func93, by kernel_rfl⟩
theorem fn94_ok : FnOk Tryz.prog 94 Tryz.f94 := ⟨Tryz.func94, by kernel_rfl⟩
theorem fn95_ok : FnOk Tryz.prog 95 Tryz.f95 := ⟨Tryz.func95, by kernel_rfl⟩
theorem fn96_ok : FnOk Tryz.prog 96 Tryz.f96 := ⟨Tryz.func96, by kernel_rfl⟩
theorem fn97_ok : FnOk Tryz.prog 97 Tryz.f97 := ⟨Tryz.func97, by kernel_rfl⟩
theorem fn98_ok : FnOk Tryz.prog 98 Tryz.f98 := ⟨Tryz.func98, by kernel_rfl⟩
theorem fn99_ok : FnOk Tryz.prog 99 Tryz.f99 := ⟨Tryz.func99, by kernel_rfl⟩
theorem fn100_ok : FnOk Tryz.prog 100 Tryz.f100 := ⟨Tryz.func100, by kernel_rfl⟩
theorem fn101_ok : FnOk Tryz.prog 101 Tryz.f101 := ⟨Tryz.func101, by kernel_rfl⟩
theorem fn102_ok : FnOk Tryz.prog 102 Tryz.f102 := ⟨Tryz.func102, by kernel_rfl⟩
theorem fn103_ok : FnOk Tryz.prog 103 Tryz.f103 := ⟨Tryz.func103, by kernel_rfl⟩
theorem fn104_ok : FnOk Tryz.prog 104 Tryz.f104 := ⟨Tryz.func104, by kernel_rfl⟩
theorem fn105_ok : FnOk Tryz.prog 105 Tryz.f105 := ⟨Tryz.func105, by kernel_rfl⟩
theorem fn106_ok : FnOk Tryz.prog 106 Tryz.f106 := ⟨Tryz.func106, by kernel_rfl⟩
theorem fn107_ok : FnOk Tryz.prog 107 Tryz.f107 := ⟨Tryz.func107, by kernel_rfl⟩
theorem fn108_ok : FnOk Tryz.prog 108 Tryz.f108 := ⟨Tryz.func108, by kernel_rfl⟩
theorem fn109_ok : FnOk Tryz.prog 109 Tryz.f109 := ⟨Tryz.func109, by kernel_rfl⟩
theorem fn110_ok : FnOk Tryz.prog 110 Tryz.f110 := ⟨Tryz.func110, by kernel_rfl⟩
theorem fn111_ok : FnOk Tryz.prog 111 Tryz.f111 := ⟨Tryz.func111, by kernel_rfl⟩
theorem fn112_ok : FnOk Tryz.prog 112 Tryz.f112 := ⟨Tryz.func112, by kernel_rfl⟩
theorem fn113_ok : FnOk Tryz.prog 113 Tryz.f113 := ⟨Tryz.func113, by kernel_rfl⟩
theorem fn114_ok : FnOk Tryz.prog 114 Tryz.f114 := ⟨Tryz.func114, by kernel_rfl⟩
theorem fn115_ok : FnOk Tryz.prog 115 Tryz.f115 := ⟨Tryz.func115, by kernel_rfl⟩
theorem fn116_ok : FnOk Tryz.prog 116 Tryz.f116 := ⟨Tryz.func116, by kernel_rfl⟩
theorem fn117_ok : FnOk Tryz.prog 117 Tryz.f117 := ⟨Tryz.func117, by kernel_rfl⟩
theorem fn118_ok : FnOk Tryz.prog 118 Tryz.f118 := ⟨Tryz.func118, by kernel_rfl⟩
theorem fn119_ok : FnOk Tryz.prog 119 Tryz.f119 := ⟨Tryz.func119, by kernel_rfl⟩
theorem fn120_ok : FnOk Tryz.prog 120 Tryz.f120 := ⟨Tryz.func120, by kernel_rfl⟩
theorem fn121_ok : FnOk Tryz.prog 121 Tryz.f121 := ⟨Tryz.func121, by kernel_rfl⟩
theorem fn122_ok : FnOk Tryz.prog 122 Tryz.f122 := ⟨Tryz.func122, by kernel_rfl⟩
theorem fn123_ok : FnOk Tryz.prog 123 Tryz.f123 := ⟨Tryz.func123, by kernel_rfl⟩
theorem fn124_ok : FnOk Tryz.prog 124 Tryz.f124 := ⟨Tryz.func124, by kernel_rfl⟩
theorem fn125_ok : FnOk Tryz.prog 125 Tryz.f125 := ⟨Tryz.func125, by kernel_rfl⟩
theorem fn126_ok : FnOk Tryz.prog 126 Tryz.f126 := ⟨Tryz.func126, by kernel_rfl⟩
theorem fn127_ok : FnOk Tryz.prog 127 Tryz.f127 := ⟨Tryz.func127, by kernel_rfl⟩
theorem fn128_ok : FnOk Tryz.prog 128 Tryz.f128 := ⟨Tryz.func128, by kernel_rfl⟩
theorem fn129_ok : FnOk Tryz.prog 129 Tryz.f129 := ⟨Tryz.func129, by kernel_rfl⟩
theorem fn130_ok : FnOk Tryz.prog 130 Tryz.f130 := ⟨Tryz.func130, by kernel_rfl⟩
theorem fn131_ok : FnOk Tryz.prog 131 Tryz.f131 := ⟨Tryz.func131, by kernel_rfl⟩
theorem fn132_ok : FnOk Tryz.prog 132 Tryz.f132 := ⟨Tryz.func132, by kernel_rfl⟩
theorem fn133_ok : FnOk Tryz.prog 133 Tryz.f133 := ⟨Tryz.func133, by kernel_rfl⟩
theorem fn134_ok : FnOk Tryz.prog 134 Tryz.f134 := ⟨Tryz.func134, by kernel_rfl⟩
theorem fn135_ok : FnOk Tryz.prog 135 Tryz.f135 := ⟨Tryz.func135, by kernel_rfl⟩
theorem fn136_ok : FnOk Tryz.prog 136 Tryz.f136 := ⟨Tryz.func136, by kernel_rfl⟩
theorem fn137_ok : FnOk Tryz.prog 137 Tryz.f137 := ⟨Tryz.func137, by kernel_rfl⟩
theorem fn138_ok : FnOk Tryz.prog 138 Tryz.f138 := ⟨Tryz.func138, by kernel_rfl⟩
theorem fn139_ok : FnOk Tryz.prog 139 Tryz.f139 := ⟨Tryz.func139, by kernel_rfl⟩
theorem fn140_ok : FnOk Tryz.prog 140 Tryz.f140 := ⟨Tryz.func140, by kernel_rfl⟩
theorem fn141_ok : FnOk Tryz.prog 141 Tryz.f141 := ⟨Tryz.func141, by kernel_rfl⟩
theorem fn142_ok : FnOk Tryz.prog 142 Tryz.f142 := ⟨Tryz.func142, by kernel_rfl⟩
theorem fn143_ok : FnOk Tryz.prog 143 Tryz.f143 := ⟨Tryz.func143, by kernel_rfl⟩
theorem fn144_ok : FnOk Tryz.prog 144 Tryz.f144 := ⟨Tryz.func144, by kernel_rfl⟩
theorem fn145_ok : FnOk Tryz.prog 145 Tryz.f145 := ⟨Tryz.func145, by kernel_rfl⟩
theorem fn146_ok : FnOk Tryz.prog 146 Tryz.f146 := ⟨Tryz.func146, by kernel_rfl⟩
theorem fn147_ok : FnOk Tryz.prog 147 Tryz.f147 := ⟨Tryz.func147, by kernel_rfl⟩
theorem fn148_ok : FnOk Tryz.prog 148 Tryz.f148 := ⟨Tryz.func148, by kernel_rfl⟩
theorem fn149_ok : FnOk Tryz.prog 149 Tryz.f149 := ⟨Tryz.func149, by kernel_rfl⟩
theorem fn150_ok : FnOk Tryz.prog 150 Tryz.f150 := ⟨Tryz.func150, by kernel_rfl⟩
theorem fn151_ok : FnOk Tryz.prog 151 Tryz.f151 := ⟨Tryz.func151, by kernel_rfl⟩
theorem fn152_ok : FnOk Tryz.prog 152 Tryz.f152 := ⟨Tryz.func152, by kernel_rfl⟩
theorem fn153_ok : FnOk Tryz.prog 153 Tryz.f153 := ⟨Tryz.func153, by kernel_rfl⟩
theorem fn154_ok : FnOk Tryz.prog 154 Tryz.f154 := ⟨Tryz.func154, by kernel_rfl⟩
theorem fn155_ok : FnOk Tryz.prog 155 Tryz.f155 := ⟨Tryz.func155, by kernel_rfl⟩
theorem fn156_ok : FnOk Tryz.prog 156 Tryz.f156 := ⟨Tryz.func156, by kernel_rfl⟩
theorem fn157_ok : FnOk Tryz.prog 157 Tryz.f157 := ⟨Tryz.func157, by kernel_rfl⟩
theorem fn158_ok : FnOk Tryz.prog 158 Tryz.f158 := ⟨Tryz.func158, by kernel_rfl⟩
theorem fn159_ok : FnOk Tryz.prog 159 Tryz.f159 := ⟨Tryz.func159, by kernel_rfl⟩
theorem fn160_ok : FnOk Tryz.prog 160 Tryz.f160 := ⟨Tryz.func160, by kernel_rfl⟩
theorem fn161_ok : FnOk Tryz.prog 161 Tryz.f161 := ⟨Tryz.func161, by kernel_rfl⟩
theorem fn162_ok : FnOk Tryz.prog 162 Tryz.f162 := ⟨Tryz.func162, by kernel_rfl⟩
theorem fn163_ok : FnOk Tryz.prog 163 Tryz.f163 := ⟨Tryz.func163, by kernel_rfl⟩
theorem fn164_ok : FnOk Tryz.prog 164 Tryz.f164 := ⟨Tryz.func164, by kernel_rfl⟩
theorem fn165_ok : FnOk Tryz.prog 165 Tryz.f165 := ⟨Tryz.func165, by kernel_rfl⟩
theorem fn166_ok : FnOk Tryz.prog 166 Tryz.f166 := ⟨Tryz.func166, by kernel_rfl⟩
theorem fn167_ok : FnOk Tryz.prog 167 Tryz.f167 := ⟨Tryz.func167, by kernel_rfl⟩
theorem fn168_ok : FnOk Tryz.prog 168 Tryz.f168 := ⟨Tryz.func168, by kernel_rfl⟩
theorem fn169_ok : FnOk Tryz.prog 169 Tryz.f169 := ⟨Tryz.func169, by kernel_rfl⟩
theorem fn170_ok : FnOk Tryz.prog 170 Tryz.f170 := ⟨Tryz.func170, by kernel_rfl⟩
theorem fn171_ok : FnOk Tryz.prog 171 Tryz.f171 := ⟨Tryz.func171, by kernel_rfl⟩
theorem fn172_ok : FnOk Tryz.prog 172 Tryz.f172 := ⟨Tryz.func172, by kernel_rfl⟩
theorem fn173_ok : FnOk Tryz.prog 173 Tryz.f173 := ⟨Tryz.func173, by kernel_rfl⟩
theorem fn174_ok : FnOk Tryz.prog 174 Tryz.f174 := ⟨Tryz.func174, by kernel_rfl⟩
theorem fn175_ok : FnOk Tryz.prog 175 Tryz.f175 := ⟨Tryz.func175, by kernel_rfl⟩
theorem fn176_ok : FnOk Tryz.prog 176 Tryz.f176 := ⟨Tryz.func176, by kernel_rfl⟩
theorem fn177_ok : FnOk Tryz.prog 177 Tryz.f177 := ⟨Tryz.func177, by kernel_rfl⟩
theorem fn178_ok : FnOk Tryz.prog 178 Tryz.f178 := ⟨Tryz.func178, by kernel_rfl⟩
theorem fn179_ok : FnOk Tryz.prog 179 Tryz.f179 := ⟨Tryz.func179, by kernel_rfl⟩
theorem fn180_ok : FnOk Tryz.prog 180 Tryz.f180 := ⟨Tryz.func180, by kernel_rfl⟩
theorem fn181_ok : FnOk Tryz.prog 181 Tryz.f181 := ⟨Tryz.func181, by kernel_rfl⟩
theorem fn182_ok : FnOk Tryz.prog 182 Tryz.f182 := ⟨Tryz.func182, by kernel_rfl⟩
theorem fn183_ok : FnOk Tryz.prog 183 Tryz.f183 := ⟨Tryz.func183, by kernel_rfl⟩
theorem fn184_ok : FnOk Tryz.prog 184 Tryz.f184 := ⟨Tryz.func184, by kernel_rfl⟩
theorem fn185_ok : FnOk Tryz.prog 185 Tryz.f185 := ⟨Tryz.func185, by kernel_rfl⟩
theorem fn186_ok : FnOk Tryz.prog 186 Tryz.f186 := ⟨Tryz.func186, by kernel_rfl⟩
theorem fn187_ok : FnOk Tryz.prog 187 Tryz.f187 := ⟨Tryz.func187, by kernel_rfl⟩
theorem fn188_ok : FnOk Tryz.prog 188 Tryz.f188 := ⟨Tryz.func188, by kernel_rfl⟩
theorem fn189_ok : FnOk Tryz.prog 189 Tryz.f189 := ⟨Tryz.func189, by kernel_rfl⟩
theorem fn190_ok : FnOk Tryz.prog 190 Tryz.f190 := ⟨Tryz.func190, by kernel_rfl⟩
theorem fn191_ok : FnOk Tryz.prog 191 Tryz.f191 := ⟨Tryz.func191, by kernel_rfl⟩
theorem fn192_ok : FnOk Tryz.prog 192 Tryz.f192 := ⟨Tryz.func192, by kernel_rfl⟩
theorem fn193_ok : FnOk Tryz.prog 193 Tryz.f193 := ⟨Tryz.func193, by kernel_rfl⟩
theorem fn194_ok : FnOk Tryz.prog 194 Tryz.f194 := ⟨Tryz.func194, by kernel_rfl⟩
theorem fn195_ok : FnOk Tryz.prog 195 Tryz.f195 := ⟨Tryz.func195, by kernel_rfl⟩
theorem fn196_ok : FnOk Tryz.prog 196 Tryz.f196 := ⟨Tryz.func196, by kernel_rfl⟩
theorem fn197_ok : FnOk Tryz.prog 197 Tryz.f197 := ⟨Tryz.func197, by kernel_rfl⟩
theorem fn198_ok : FnOk Tryz.prog 198 Tryz.f198 := ⟨Tryz.func198, by kernel_rfl⟩
theorem fn199_ok : FnOk Tryz.prog 199 Tryz.f199 := ⟨Tryz.func199, by kernel_rfl⟩
theorem fn200_ok : FnOk Tryz.prog 200 Tryz.f200 := ⟨Tryz.func200, by kernel_rfl⟩
theorem fn201_ok : FnOk Tryz.prog 201 Tryz.f201 := ⟨Tryz.func201, by kernel_rfl⟩
theorem fn202_ok : FnOk Tryz.prog 202 Tryz.f202 := ⟨Tryz.func202, by kernel_rfl⟩
theorem fn203_ok : FnOk Tryz.prog 203 Tryz.f203 := ⟨Tryz.func203, by kernel_rfl⟩
theorem fn204_ok : FnOk Tryz.prog 204 Tryz.f204 := ⟨Tryz.func204, by kernel_rfl⟩
theorem fn205_ok : FnOk Tryz.prog 205 Tryz.f205 := ⟨Tryz.func205, by kernel_rfl⟩
theorem fn206_ok : FnOk Tryz.prog 206 Tryz.f206 := ⟨Tryz.func206, by kernel_rfl⟩
theorem fn207_ok : FnOk Tryz.prog 207 Tryz.f207 := ⟨Tryz.func207, by kernel_rfl⟩
theorem fn208_ok : FnOk Tryz.prog 208 Tryz.f208 := ⟨Tryz.func208, by kernel_rfl⟩
theorem fn209_ok : FnOk Tryz.prog 209 Tryz.f209 := ⟨Tryz.func209, by kernel_rfl⟩
theorem fn210_ok : FnOk Tryz.prog 210 Tryz.f210 := ⟨Tryz.func210, by kernel_rfl⟩
theorem fn211_ok : FnOk Tryz.prog 211 Tryz.f211 := ⟨Tryz.func211, by kernel_rfl⟩
theorem fn212_ok : FnOk Tryz.prog 212 Tryz.f212 := ⟨Tryz.func212, by kernel_rfl⟩
theorem fn213_ok : FnOk Tryz.prog 213 Tryz.f213 := ⟨Tryz.func213, by kernel_rfl⟩
theorem fn214_ok : FnOk Tryz.prog 214 Tryz.f214 := ⟨Tryz.func214, by kernel_rfl⟩
theorem fn215_ok : FnOk Tryz.prog 215 Tryz.f215 := ⟨Tryz.func215, by kernel_rfl⟩
theorem fn216_ok : FnOk Tryz.prog 216 Tryz.f216 := ⟨Tryz.func216, by kernel_rfl⟩
theorem fn217_ok : FnOk Tryz.prog 217 Tryz.f217 := ⟨Tryz.func217, by kernel_rfl⟩
theorem fn218_ok : FnOk Tryz.prog 218 Tryz.f218 := ⟨Tryz.func218, by kernel_rfl⟩
theorem fn219_ok : FnOk Tryz.prog 219 Tryz.f219 := ⟨Tryz.func219, by kernel_rfl⟩
theorem fn220_ok : FnOk Tryz.prog 220 Tryz.f220 := ⟨Tryz.func220, by kernel_rfl⟩
theorem fn221_ok : FnOk Tryz.prog 221 Tryz.f221 := ⟨Tryz.func221, by kernel_rfl⟩
theorem fn222_ok : FnOk Tryz.prog 222 Tryz.f222 := ⟨Tryz.func222, by kernel_rfl⟩
theorem fn223_ok : FnOk Tryz.prog 223 Tryz.f223 := ⟨Tryz.func223, by kernel_rfl⟩
theorem fn224_ok : FnOk Tryz.prog 224 Tryz.f224 := ⟨Tryz.func224, by kernel_rfl⟩
theorem fn226_ok : FnOk Tryz.prog 226 Tryz.f226 := ⟨Tryz.func226, by kernel_rfl⟩
theorem fn227_ok : FnOk Tryz.prog 227 Tryz.f227 := ⟨Tryz.func227, by kernel_rfl⟩
theorem fn228_ok : FnOk Tryz.prog 228 Tryz.f228 := ⟨Tryz.func228, by kernel_rfl⟩
theorem fn229_ok : FnOk Tryz.prog 229 Tryz.f229 := ⟨Tryz.func229, by kernel_rfl⟩
theorem fn230_ok : FnOk Tryz.prog 230 Tryz.f230 := ⟨Tryz.func230, by kernel_rfl⟩
theorem fn231_ok : FnOk Tryz.prog 231 Tryz.f231 := ⟨Tryz.func231, by kernel_rfl⟩
theorem fn232_ok : FnOk Tryz.prog 232 Tryz.f232 := ⟨Tryz.func232, by kernel_rfl⟩
theorem fn233_ok : FnOk Tryz.prog 233 Tryz.f233 := ⟨Tryz.func233, by kernel_rfl⟩
theorem fn234_ok : FnOk Tryz.prog 234 Tryz.f234 := ⟨Tryz.func234, by kernel_rfl⟩
theorem fn235_ok : FnOk Tryz.prog 235 Tryz.f235 := ⟨Tryz.func235, by kernel_rfl⟩
theorem fn236_ok : FnOk Tryz.prog 236 Tryz.f236 := ⟨Tryz.func236, by kernel_rfl⟩
theorem fn237_ok : FnOk Tryz.prog 237 Tryz.f237 := ⟨Tryz.func237, by kernel_rfl⟩
theorem fn238_ok : FnOk Tryz.prog 238 Tryz.f238 := ⟨Tryz.func238, by kernel_rfl⟩
theorem fn239_ok : FnOk Tryz.prog 239 Tryz.f239 := ⟨Tryz.func239, by kernel_rfl⟩
theorem fn240_ok : FnOk Tryz.prog 240 Tryz.f240 := ⟨Tryz.func240, by kernel_rfl⟩
theorem fn241_ok : FnOk Tryz.prog 241 Tryz.f241 := ⟨Tryz.func241, by kernel_rfl⟩
theorem fn242_ok : FnOk Tryz.prog 242 Tryz.f242 := ⟨Tryz.func242, by kernel_rfl⟩
theorem fn243_ok : FnOk Tryz.prog 243 Tryz.f243 := ⟨Tryz.func243, by kernel_rfl⟩
theorem fn244_ok : FnOk Tryz.prog 244 Tryz.f244 := ⟨Tryz.func244, by kernel_rfl⟩
theorem fn245_ok : FnOk Tryz.prog 245 Tryz.f245 := ⟨Tryz.func245, by kernel_rfl⟩
theorem fn246_ok : FnOk Tryz.prog 246 Tryz.f246 := ⟨Tryz.func246, by kernel_rfl⟩
noncomputable def fnT : Tr Func := (.node none (.node none (.node (some Tryz.f3) (.node (some Tryz.f7) (.node (some Tryz.f15) (.node (some Tryz.f31) (.node (some Tryz.f63) (.node (some Tryz.f127) .leaf .leaf) (.node (some Tryz.f191) .leaf .leaf)) (.node (some Tryz.f95) (.node (some Tryz.f159) .leaf .leaf) (.node (some Tryz.f223) .leaf .leaf))) (.node (some Tryz.f47) (.node (some Tryz.f79) (.node (some Tryz.f143) .leaf .leaf) (.node (some Tryz.f207) .leaf .leaf)) (.node (some Tryz.f111) (.node (some Tryz.f175) .leaf .leaf) (.node (some Tryz.f239) .leaf .leaf)))) (.node (some Tryz.f23) (.node (some Tryz.f39) (.node (some Tryz.f71) (.node (some Tryz.f135) .leaf .leaf) (.node (some Tryz.f199) .leaf .leaf)) (.node (some Tryz.f103) (.node (some Tryz.f167) .leaf .leaf) (.node (some Tryz.f231) .leaf .leaf))) (.node (some Tryz.f55) (.node (some Tryz.f87) (.node (some Tryz.f151) .leaf .leaf) (.node (some Tryz.f215) .leaf .leaf)) (.node (some Tryz.f119) (.node (some Tryz.f183) .leaf .leaf) .leaf)))) (.node (some Tryz.f11) (.node (some Tryz.f19) (.node (some Tryz.f35) (.node (some Tryz.f67) (.node (some Tryz.f131) .leaf .leaf) (.node (some Tryz.f195) .leaf .leaf)) (.node (some Tryz.f99) (.node (some Tryz.f163) .leaf .leaf) (.node (some Tryz.f227) .leaf .leaf))) (.node (some Tryz.f51) (.node (some Tryz.f83) (.node (some Tryz.f147) .leaf .leaf) (.node (some Tryz.f211) .leaf .leaf)) (.node (some Tryz.f115) (.node (some Tryz.f179) .leaf .leaf) (.node (some Tryz.f243) .leaf .leaf)))) (.node (some Tryz.f27) (.node (some Tryz.f43) (.node (some Tryz.f75) (.node (some Tryz.f139) .leaf .leaf) (.node (some Tryz.f203) .leaf .leaf)) (.node (some Tryz.f107) (.node (some Tryz.f171) .leaf .leaf) (.node (some Tryz.f235) .leaf .leaf))) (.node (some Tryz.f59) (.node (some Tryz.f91) (.node (some Tryz.f155) .leaf .leaf) (.node (some Tryz.f219) .leaf .leaf)) (.node (some Tryz.f123) (.node (some Tryz.f187) .leaf .leaf) .leaf))))) (.node (some Tryz.f5) (.node (some Tryz.f9) (.node (some Tryz.f17) (.node (some Tryz.f33) (.node (some Tryz.f65) (.node (some Tryz.f129) .leaf .leaf) (.node (some Tryz.f193) .leaf .leaf)) (.node (some Tryz.f97) (.node (some Tryz.f161) .leaf .leaf) .leaf)) (.node (some Tryz.f49) (.node (some Tryz.f81) (.node (some Tryz.f145) .leaf .leaf) (.node (some Tryz.f209) .leaf .leaf)) (.node (some Tryz.f113) (.node (some Tryz.f177) .leaf .leaf) (.node (some Tryz.f241) .leaf .leaf)))) (.node (some Tryz.f25) (.node (some Tryz.f41) (.node (some Tryz.f73) (.node (some Tryz.f137) .leaf .leaf) (.node (some Tryz.f201) .leaf .leaf)) (.node (some Tryz.f105) (.node (some Tryz.f169) .leaf .leaf) (.node (some Tryz.f233) .leaf .leaf))) (.node (some Tryz.f57) (.node (some Tryz.f89) (.node (some Tryz.f153) .leaf .leaf) (.node (some Tryz.f217) .leaf .leaf)) (.node (some Tryz.f121) (.node (some Tryz.f185) .leaf .leaf) .leaf)))) (.node (some Tryz.f13) (.node (some Tryz.f21) (.node (some Tryz.f37) (.node (some Tryz.f69) (.node (some Tryz.f133) .leaf .leaf) (.node (some Tryz.f197) .leaf .leaf)) (.node (some Tryz.f101) (.node (some Tryz.f165) .leaf .leaf) (.node (some Tryz.f229) .leaf .leaf))) (.node (some Tryz.f53) (.node (some Tryz.f85) (.node (some Tryz.f149) .leaf .leaf) (.node (some Tryz.f213) .leaf .leaf)) (.node (some Tryz.f117) (.node (some Tryz.f181) .leaf .leaf) (.node (some Tryz.f245) .leaf .leaf)))) (.node (some Tryz.f29) (.node (some Tryz.f45) (.node (some Tryz.f77) (.node (some Tryz.f141) .leaf .leaf) (.node (some Tryz.f205) .leaf .leaf)) (.node (some Tryz.f109) (.node (some Tryz.f173) .leaf .leaf) (.node (some Tryz.f237) .leaf .leaf))) (.node (some Tryz.f61) (.node (some Tryz.f93) (.node (some Tryz.f157) .leaf .leaf) (.node (some Tryz.f221) .leaf .leaf)) (.node (some Tryz.f125) (.node (some Tryz.f189) .leaf .leaf) .leaf)))))) (.node none (.node (some Tryz.f4) (.node (some Tryz.f8) (.node (some Tryz.f16) (.node (some Tryz.f32) (.node (some Tryz.f64) (.node (some Tryz.f128) .leaf .leaf) (.node (some Tryz.f192) .leaf .leaf)) (.node (some Tryz.f96) (.node (some Tryz.f160) .leaf .leaf) (.node (some Tryz.f224) .leaf .leaf))) (.node (some Tryz.f48) (.node (some Tryz.f80) (.node (some Tryz.f144) .leaf .leaf) (.node (some Tryz.f208) .leaf .leaf)) (.node (some Tryz.f112) (.node (some Tryz.f176) .leaf .leaf) (.node (some Tryz.f240) .leaf .leaf)))) (.node (some Tryz.f24) (.node (some Tryz.f40) (.node (some Tryz.f72) (.node (some Tryz.f136) .leaf .leaf) (.node (some Tryz.f200) .leaf .leaf)) (.node (some Tryz.f104) (.node (some Tryz.f168) .leaf .leaf) (.node (some Tryz.f232) .leaf .leaf))) (.node (some Tryz.f56) (.node (some Tryz.f88) (.node (some Tryz.f152) .leaf .leaf) (.node (some Tryz.f216) .leaf .leaf)) (.node (some Tryz.f120) (.node (some Tryz.f184) .leaf .leaf) .leaf)))) (.node (some Tryz.f12) (.node (some Tryz.f20) (.node (some Tryz.f36) (.node (some Tryz.f68) (.node (some Tryz.f132) .leaf .leaf) (.node (some Tryz.f196) .leaf .leaf)) (.node (some Tryz.f100) (.node (some Tryz.f164) .leaf .leaf) (.node (some Tryz.f228) .leaf .leaf))) (.node (some Tryz.f52) (.node (some Tryz.f84) (.node (some Tryz.f148) .leaf .leaf) (.node (some Tryz.f212) .leaf .leaf)) (.node (some Tryz.f116) (.node (some Tryz.f180) .leaf .leaf) (.node (some Tryz.f244) .leaf .leaf)))) (.node (some Tryz.f28) (.node (some Tryz.f44) (.node (some Tryz.f76) (.node (some Tryz.f140) .leaf .leaf) (.node (some Tryz.f204) .leaf .leaf)) (.node (some Tryz.f108) (.node (some Tryz.f172) .leaf .leaf) (.node (some Tryz.f236) .leaf .leaf))) (.node (some Tryz.f60) (.node (some Tryz.f92) (.node (some Tryz.f156) .leaf .leaf) (.node (some Tryz.f220) .leaf .leaf)) (.node (some Tryz.f124) (.node (some Tryz.f188) .leaf .leaf) .leaf))))) (.node (some Tryz.f6) (.node (some Tryz.f10) (.node (some Tryz.f18) (.node (some Tryz.f34) (.node (some Tryz.f66) (.node (some Tryz.f130) .leaf .leaf) (.node (some Tryz.f194) .leaf .leaf)) (.node (some Tryz.f98) (.node (some Tryz.f162) .leaf .leaf) (.node (some Tryz.f226) .leaf .leaf))) (.node (some Tryz.f50) (.node (some Tryz.f82) (.node (some Tryz.f146) .leaf .leaf) (.node (some Tryz.f210) .leaf .leaf)) (.node (some Tryz.f114) (.node (some Tryz.f178) .leaf .leaf) (.node (some Tryz.f242) .leaf .leaf)))) (.node (some Tryz.f26) (.node (some Tryz.f42) (.node (some Tryz.f74) (.node (some Tryz.f138) .leaf .leaf) (.node (some Tryz.f202) .leaf .leaf)) (.node (some Tryz.f106) (.node (some Tryz.f170) .leaf .leaf) (.node (some Tryz.f234) .leaf .leaf))) (.node (some Tryz.f58) (.node (some Tryz.f90) (.node (some Tryz.f154) .leaf .leaf) (.node (some Tryz.f218) .leaf .leaf)) (.node (some Tryz.f122) (.node (some Tryz.f186) .leaf .leaf) .leaf)))) (.node (some Tryz.f14) (.node (some Tryz.f22) (.node (some Tryz.f38) (.node (some Tryz.f70) (.node (some Tryz.f134) .leaf .leaf) (.node (some Tryz.f198) .leaf .leaf)) (.node (some Tryz.f102) (.node (some Tryz.f166) .leaf .leaf) (.node (some Tryz.f230) .leaf .leaf))) (.node (some Tryz.f54) (.node (some Tryz.f86) (.node (some Tryz.f150) .leaf .leaf) (.node (some Tryz.f214) .leaf .leaf)) (.node (some Tryz.f118) (.node (some Tryz.f182) .leaf .leaf) (.node (some Tryz.f246) .leaf .leaf)))) (.node (some Tryz.f30) (.node (some Tryz.f46) (.node (some Tryz.f78) (.node (some Tryz.f142) .leaf .leaf) (.node (some Tryz.f206) .leaf .leaf)) (.node (some Tryz.f110) (.node (some Tryz.f174) .leaf .leaf) (.node (some Tryz.f238) .leaf .leaf))) (.node (some Tryz.f62) (.node (some Tryz.f94) (.node (some Tryz.f158) .leaf .leaf) (.node (some Tryz.f222) .leaf .leaf)) (.node (some Tryz.f126) (.node (some Tryz.f190) .leaf .leaf) .leaf)))))))
theorem fnT_ok : ∀ f x, fnT.get f = some x → FnOk Tryz.prog f x := Tr.allAt fnT id (show Tr.AllAt _ _ fnT from ⟨trivial, ⟨trivial, ⟨fn3_ok, ⟨fn7_ok, ⟨fn15_ok, ⟨fn31_ok, ⟨fn63_ok, ⟨fn127_ok, trivial, trivial⟩, ⟨fn191_ok, trivial, trivial⟩⟩, ⟨fn95_ok, ⟨fn159_ok, trivial, trivial⟩, ⟨fn223_ok, trivial, trivial⟩⟩⟩, ⟨fn47_ok, ⟨fn79_ok, ⟨fn143_ok, trivial, trivial⟩, ⟨fn207_ok, trivial, trivial⟩⟩, ⟨fn111_ok, ⟨fn175_ok, trivial, trivial⟩, ⟨fn239_ok, trivial, trivial⟩⟩⟩⟩, ⟨fn23_ok, ⟨fn39_ok, ⟨fn71_ok, ⟨fn135_ok, trivial, trivial⟩, ⟨fn199_ok, trivial, trivial⟩⟩, ⟨fn103_ok, ⟨fn167_ok, trivial, trivial⟩, ⟨fn231_ok, trivial, trivial⟩⟩⟩, ⟨fn55_ok, ⟨fn87_ok, ⟨fn151_ok, trivial, trivial⟩, ⟨fn215_ok, trivial, trivial⟩⟩, ⟨fn119_ok, ⟨fn183_ok, trivial, trivial⟩, trivial⟩⟩⟩⟩, ⟨fn11_ok, ⟨fn19_ok, ⟨fn35_ok, ⟨fn67_ok, ⟨fn131_ok, trivial, trivial⟩, ⟨fn195_ok, trivial, trivial⟩⟩, ⟨fn99_ok, ⟨fn163_ok, trivial, trivial⟩, ⟨fn227_ok, trivial, trivial⟩⟩⟩, ⟨fn51_ok, ⟨fn83_ok, ⟨fn147_ok, trivial, trivial⟩, ⟨fn211_ok, trivial, trivial⟩⟩, ⟨fn115_ok, ⟨fn179_ok, trivial, trivial⟩, ⟨fn243_ok, trivial, trivial⟩⟩⟩⟩, ⟨fn27_ok, ⟨fn43_ok, ⟨fn75_ok, ⟨fn139_ok, trivial, trivial⟩, ⟨fn203_ok, trivial, trivial⟩⟩, ⟨fn107_ok, ⟨fn171_ok, trivial, trivial⟩, ⟨fn235_ok, trivial, trivial⟩⟩⟩, ⟨fn59_ok, ⟨fn91_ok, ⟨fn155_ok, trivial, trivial⟩, ⟨fn219_ok, trivial, trivial⟩⟩, ⟨fn123_ok, ⟨fn187_ok, trivial, trivial⟩, trivial⟩⟩⟩⟩⟩, ⟨fn5_ok, ⟨fn9_ok, ⟨fn17_ok, ⟨fn33_ok, ⟨fn65_ok, ⟨fn129_ok, trivial, trivial⟩, ⟨fn193_ok, trivial, trivial⟩⟩, ⟨fn97_ok, ⟨fn161_ok, trivial, trivial⟩, trivial⟩⟩, ⟨fn49_ok, ⟨fn81_ok, ⟨fn145_ok, trivial, trivial⟩, ⟨fn209_ok, trivial, trivial⟩⟩, ⟨fn113_ok, ⟨fn177_ok, trivial, trivial⟩, ⟨fn241_ok, trivial, trivial⟩⟩⟩⟩, ⟨fn25_ok, ⟨fn41_ok, ⟨fn73_ok, ⟨fn137_ok, trivial, trivial⟩, ⟨fn201_ok, trivial, trivial⟩⟩, ⟨fn105_ok, ⟨fn169_ok, trivial, trivial⟩, ⟨fn233_ok, trivial, trivial⟩⟩⟩, ⟨fn57_ok, ⟨fn89_ok, ⟨fn153_ok, trivial, trivial⟩, ⟨fn217_ok, trivial, trivial⟩⟩, ⟨fn121_ok, ⟨fn185_ok, trivial, trivial⟩, trivial⟩⟩⟩⟩, ⟨fn13_ok, ⟨fn21_ok, ⟨fn37_ok, ⟨fn69_ok, ⟨fn133_ok, trivial, trivial⟩, ⟨fn197_ok, trivial, trivial⟩⟩, ⟨fn101_ok, ⟨fn165_ok, trivial, trivial⟩, ⟨fn229_ok, trivial, trivial⟩⟩⟩, ⟨fn53_ok, ⟨fn85_ok, ⟨fn149_ok, trivial, trivial⟩, ⟨fn213_ok, trivial, trivial⟩⟩, ⟨fn117_ok, ⟨fn181_ok, trivial, trivial⟩, ⟨fn245_ok, trivial, trivial⟩⟩⟩⟩, ⟨fn29_ok, ⟨fn45_ok, ⟨fn77_ok, ⟨fn141_ok, trivial, trivial⟩, ⟨fn205_ok, trivial, trivial⟩⟩, ⟨fn109_ok, ⟨fn173_ok, trivial, trivial⟩, ⟨fn237_ok, trivial, trivial⟩⟩⟩, ⟨fn61_ok, ⟨fn93_ok, ⟨fn157_ok, trivial, trivial⟩, ⟨fn221_ok, trivial, trivial⟩⟩, ⟨fn125_ok, ⟨fn189_ok, trivial, trivial⟩, trivial⟩⟩⟩⟩⟩⟩, ⟨trivial, ⟨fn4_ok, ⟨fn8_ok, ⟨fn16_ok, ⟨fn32_ok, ⟨fn64_ok, ⟨fn128_ok, trivial, trivial⟩, ⟨fn192_ok, trivial, trivial⟩⟩, ⟨fn96_ok, ⟨fn160_ok, trivial, trivial⟩, ⟨fn224_ok, trivial, trivial⟩⟩⟩, ⟨fn48_ok, ⟨fn80_ok, ⟨fn144_ok, trivial, trivial⟩, ⟨fn208_ok, trivial, trivial⟩⟩, ⟨fn112_ok, ⟨fn176_ok, trivial, trivial⟩, ⟨fn240_ok, trivial, trivial⟩⟩⟩⟩, ⟨fn24_ok, ⟨fn40_ok, ⟨fn72_ok, ⟨fn136_ok, trivial, trivial⟩, ⟨fn200_ok, trivial, trivial⟩⟩, ⟨fn104_ok, ⟨fn168_ok, trivial, trivial⟩, ⟨fn232_ok, trivial, trivial⟩⟩⟩, ⟨fn56_ok, ⟨fn88_ok, ⟨fn152_ok, trivial, trivial⟩, ⟨fn216_ok, trivial, trivial⟩⟩, ⟨fn120_ok, ⟨fn184_ok, trivial, trivial⟩, trivial⟩⟩⟩⟩, ⟨fn12_ok, ⟨fn20_ok, ⟨fn36_ok, ⟨fn68_ok, ⟨fn132_ok, trivial, trivial⟩, ⟨fn196_ok, trivial, trivial⟩⟩, ⟨fn100_ok, ⟨fn164_ok, trivial, trivial⟩, ⟨fn228_ok, trivial, trivial⟩⟩⟩, ⟨fn52_ok, ⟨fn84_ok, ⟨fn148_ok, trivial, trivial⟩, ⟨fn212_ok, trivial, trivial⟩⟩, ⟨fn116_ok, ⟨fn180_ok, trivial, trivial⟩, ⟨fn244_ok, trivial, trivial⟩⟩⟩⟩, ⟨fn28_ok, ⟨fn44_ok, ⟨fn76_ok, ⟨fn140_ok, trivial, trivial⟩, ⟨fn204_ok, trivial, trivial⟩⟩, ⟨fn108_ok, ⟨fn172_ok, trivial, trivial⟩, ⟨fn236_ok, trivial, trivial⟩⟩⟩, ⟨fn60_ok, ⟨fn92_ok, ⟨fn156_ok, trivial, trivial⟩, ⟨fn220_ok, trivial, trivial⟩⟩, ⟨fn124_ok, ⟨fn188_ok, trivial, trivial⟩, trivial⟩⟩⟩⟩⟩, ⟨fn6_ok, ⟨fn10_ok, ⟨fn18_ok, ⟨fn34_ok, ⟨fn66_ok, ⟨fn130_ok, trivial, trivial⟩, ⟨fn194_ok, trivial, trivial⟩⟩, ⟨fn98_ok, ⟨fn162_ok, trivial, trivial⟩, ⟨fn226_ok, trivial, trivial⟩⟩⟩, ⟨fn50_ok, ⟨fn82_ok, ⟨fn146_ok, trivial, trivial⟩, ⟨fn210_ok, trivial, trivial⟩⟩, ⟨fn114_ok, ⟨fn178_ok, trivial, trivial⟩, ⟨fn242_ok, trivial, trivial⟩⟩⟩⟩, ⟨fn26_ok, ⟨fn42_ok, ⟨fn74_ok, ⟨fn138_ok, trivial, trivial⟩, ⟨fn202_ok, trivial, trivial⟩⟩, ⟨fn106_ok, ⟨fn170_ok, trivial, trivial⟩, ⟨fn234_ok, trivial, trivial⟩⟩⟩, ⟨fn58_ok, ⟨fn90_ok, ⟨fn154_ok, trivial, trivial⟩, ⟨fn218_ok, trivial, trivial⟩⟩, ⟨fn122_ok, ⟨fn186_ok, trivial, trivial⟩, trivial⟩⟩⟩⟩, ⟨fn14_ok, ⟨fn22_ok, ⟨fn38_ok, ⟨fn70_ok, ⟨fn134_ok, trivial, trivial⟩, ⟨fn198_ok, trivial, trivial⟩⟩, ⟨fn102_ok, ⟨fn166_ok, trivial, trivial⟩, ⟨fn230_ok, trivial, trivial⟩⟩⟩, ⟨fn54_ok, ⟨fn86_ok, ⟨fn150_ok, trivial, trivial⟩, ⟨fn214_ok, trivial, trivial⟩⟩, ⟨fn118_ok, ⟨fn182_ok, trivial, trivial⟩, ⟨fn246_ok, trivial, trivial⟩⟩⟩⟩, ⟨fn30_ok, ⟨fn46_ok, ⟨fn78_ok, ⟨fn142_ok, trivial, trivial⟩, ⟨fn206_ok, trivial, trivial⟩⟩, ⟨fn110_ok, ⟨fn174_ok, trivial, trivial⟩, ⟨fn238_ok, trivial, trivial⟩⟩⟩, ⟨fn62_ok, ⟨fn94_ok, ⟨fn158_ok, trivial, trivial⟩, ⟨fn222_ok, trivial, trivial⟩⟩, ⟨fn126_ok, ⟨fn190_ok, trivial, trivial⟩, trivial⟩⟩⟩⟩⟩⟩⟩)
theorem identT_ok : ∀ f : FuncId, (false) = true → ∃ fn, Tryz.prog.funcs[f]? = some fn ∧ (fn.name == "runtime.NumGoroutine") = false ∧ fn.body.isNone = true ∧ Extern.findNext fn = none ∧ Extern.find fn = some Extern.AbiNoEscape.same := by
  intro f h
  simp at h
noncomputable def J : Env := { P := Tryz.prog, ty := tyT.get, ty_ok := tyT_ok, fn := fnT.get, fn_ok := fnT_ok, dfr := fun f => decide (f = 19), ident := fun f => false, ident_ok := identT_ok, inv := fun _ => True, hook := fun _ _ => none, hook_ok := fun _ _ _ h => by cases h }
abbrev okAll : FuncId → Bool := fun _ => true
theorem code3_ok : bodyOk J Tryz.f3 = true := by kernel_rfl
theorem code4_ok : bodyOk J Tryz.f4 = true := by kernel_rfl
theorem code5_ok : bodyOk J Tryz.f5 = true := by kernel_rfl
theorem code6_ok : bodyOk J Tryz.f6 = true := by kernel_rfl
theorem code7_ok : bodyOk J Tryz.f7 = true := by kernel_rfl
theorem code8_ok : bodyOk J Tryz.f8 = true := by kernel_rfl
theorem code9_ok : bodyOk J Tryz.f9 = true := by kernel_rfl
theorem code10_ok : bodyOk J Tryz.f10 = true := by kernel_rfl
theorem code11_ok : bodyOk J Tryz.f11 = true := by kernel_rfl
theorem code12_ok : bodyOk J Tryz.f12 = true := by kernel_rfl
theorem code13_ok : bodyOk J Tryz.f13 = true := by kernel_rfl
theorem code14_ok : bodyOk J Tryz.f14 = true := by kernel_rfl
theorem code15_ok : bodyOk J Tryz.f15 = true := by kernel_rfl
theorem code16_ok : bodyOk J Tryz.f16 = true := by kernel_rfl
theorem code17_ok : bodyOk J Tryz.f17 = true := by kernel_rfl
theorem code18_ok : bodyOk J Tryz.f18 = true := by kernel_rfl
theorem code19_ok : bodyOk J Tryz.f19 = true := by kernel_rfl
theorem code20_ok : bodyOk J Tryz.f20 = true := by kernel_rfl
theorem code21_ok : bodyOk J Tryz.f21 = true := by kernel_rfl
theorem code22_ok : bodyOk J Tryz.f22 = true := by kernel_rfl
theorem code23_ok : bodyOk J Tryz.f23 = true := by kernel_rfl
theorem code24_ok : bodyOk J Tryz.f24 = true := by kernel_rfl
theorem code25_ok : bodyOk J Tryz.f25 = true := by kernel_rfl
theorem code26_ok : bodyOk J Tryz.f26 = true := by kernel_rfl
theorem code27_ok : bodyOk J Tryz.f27 = true := by kernel_rfl
theorem code28_ok : bodyOk J Tryz.f28 = true := by kernel_rfl
theorem code29_ok : bodyOk J Tryz.f29 = true := by kernel_rfl
theorem code30_ok : bodyOk J Tryz.f30 = true := by kernel_rfl
theorem code31_ok : bodyOk J Tryz.f31 = true := by kernel_rfl
theorem code32_ok : bodyOk J Tryz.f32 = true := by kernel_rfl
theorem code33_ok : bodyOk J Tryz.f33 = true := by kernel_rfl
theorem code34_ok : bodyOk J Tryz.f34 = true := by kernel_rfl
theorem code35_ok : bodyOk J Tryz.f35 = true := by kernel_rfl
theorem code36_ok : bodyOk J Tryz.f36 = true := by kernel_rfl
theorem code37_ok : bodyOk J Tryz.f37 = true := by kernel_rfl
theorem code38_ok : bodyOk J Tryz.f38 = true := by kernel_rfl
theorem code39_ok : bodyOk J Tryz.f39 = true := by kernel_rfl
theorem code40_ok : bodyOk J Tryz.f40 = true := by kernel_rfl
theorem code41_ok : bodyOk J Tryz.f41 = true := by kernel_rfl
theorem code42_ok : bodyOk J Tryz.f42 = true := by kernel_rfl
theorem code43_ok : bodyOk J Tryz.f43 = true := by kernel_rfl
theorem code44_ok : bodyOk J Tryz.f44 = true := by kernel_rfl
theorem code45_ok : bodyOk J Tryz.f45 = true := by kernel_rfl
theorem code46_ok : bodyOk J Tryz.f46 = true := by kernel_rfl
theorem code47_ok : bodyOk J Tryz.f47 = true := by kernel_rfl
theorem code48_ok : bodyOk J Tryz.f48 = true := by kernel_rfl
theorem code49_ok : bodyOk J Tryz.f49 = true := by kernel_rfl
theorem code50_ok : bodyOk J Tryz.f50 = true := by kernel_rfl
theorem code51_ok : bodyOk J Tryz.f51 = true := by kernel_rfl
theorem code52_ok : bodyOk J Tryz.f52 = true := by kernel_rfl
theorem code53_ok : bodyOk J Tryz.f53 = true := by kernel_rfl
theorem code54_ok : bodyOk J Tryz.f54 = true := by kernel_rfl
theorem code55_ok : bodyOk J Tryz.f55 = true := by kernel_rfl
theorem code56_ok : bodyOk J Tryz.f56 = true := by kernel_rfl
theorem code57_ok : bodyOk J Tryz.f57 = true := by kernel_rfl
theorem code58_ok : bodyOk J Tryz.f58 = true := by kernel_rfl
theorem code59_ok : bodyOk J Tryz.f59 = true := by kernel_rfl
theorem code60_ok : bodyOk J Tryz.f60 = true := by kernel_rfl
theorem code61_ok : bodyOk J Tryz.f61 = true := by kernel_rfl
theorem code62_ok : bodyOk J Tryz.f62 = true := by kernel_rfl
theorem code63_ok : bodyOk J Tryz.f63 = true := by kernel_rfl
theorem code64_ok : bodyOk J Tryz.f64 = true := by kernel_rfl
theorem code65_ok : bodyOk J Tryz.f65 = true := by kernel_rfl
theorem code66_ok : bodyOk J Tryz.f66 = true := by kernel_rfl
theorem code67_ok : bodyOk J Tryz.f67 = true := by kernel_rfl
theorem code68_ok : bodyOk J Tryz.f68 = true := by kernel_rfl
theorem code69_ok : bodyOk J Tryz.f69 = true := by kernel_rfl
theorem code70_ok : bodyOk J Tryz.f70 = true := by kernel_rfl
theorem code71_ok : bodyOk J Tryz.f71 = true := by kernel_rfl
theorem code72_ok : bodyOk J Tryz.f72 = true := by kernel_rfl
theorem code73_ok : bodyOk J Tryz.f73 = true := by kernel_rfl
theorem code74_ok : bodyOk J Tryz.f74 = true := by kernel_rfl
theorem code75_ok : bodyOk J Tryz.f75 = true := by kernel_rfl
theorem code76_ok : bodyOk J Tryz.f76 = true := by kernel_rfl
theorem code77_ok : bodyOk J Tryz.f77 = true := by kernel_rfl
theorem code78_ok : bodyOk J Tryz.f78 = true := by kernel_rfl
theorem code79_ok : bodyOk J Tryz.f79 = true := by kernel_rfl
theorem code80_ok : bodyOk J Tryz.f80 = true := by kernel_rfl
theorem code81_ok : bodyOk J Tryz.f81 = true := by kernel_rfl
theorem code82_ok : bodyOk J Tryz.f82 = true := by kernel_rfl
theorem code83_ok : bodyOk J Tryz.f83 = true := by kernel_rfl
theorem code84_ok : bodyOk J Tryz.f84 = true := by kernel_rfl
theorem code85_ok : bodyOk J Tryz.f85 = true := by kernel_rfl
theorem code86_ok : bodyOk J Tryz.f86 = true := by kernel_rfl
theorem code87_ok : bodyOk J Tryz.f87 = true := by kernel_rfl
theorem code88_ok : bodyOk J Tryz.f88 = true := by kernel_rfl
theorem code89_ok : bodyOk J Tryz.f89 = true := by kernel_rfl
theorem code90_ok : bodyOk J Tryz.f90 = true := by kernel_rfl
theorem code91_ok : bodyOk J Tryz.f91 = true := by kernel_rfl
theorem code92_ok : bodyOk J Tryz.f92 = true := by kernel_rfl
theorem code93_ok : bodyOk J Tryz.f93 = true := by kernel_rfl
theorem code94_ok : bodyOk J Tryz.f94 = true := by kernel_rfl
theorem code95_ok : bodyOk J Tryz.f95 = true := by kernel_rfl
theorem code96_ok : bodyOk J Tryz.f96 = true := by kernel_rfl
theorem code97_ok : bodyOk J Tryz.f97 = true := by kernel_rfl
theorem code98_ok : bodyOk J Tryz.f98 = true := by kernel_rfl
theorem code99_ok : bodyOk J Tryz.f99 = true := by kernel_rfl
theorem code100_ok : bodyOk J Tryz.f100 = true := by kernel_rfl
theorem code101_ok : bodyOk J Tryz.f101 = true := by kernel_rfl
theorem code102_ok : bodyOk J Tryz.f102 = true := by kernel_rfl
theorem code103_ok : bodyOk J Tryz.f103 = true := by kernel_rfl
theorem code104_ok : bodyOk J Tryz.f104 = true := by kernel_rfl
theorem code105_ok : bodyOk J Tryz.f105 = true := by kernel_rfl
theorem code106_ok : bodyOk J Tryz.f106 = true := by kernel_rfl
theorem code107_ok : bodyOk J Tryz.f107 = true := by kernel_rfl
theorem code108_ok : bodyOk J Tryz.f108 = true := by kernel_rfl
theorem code109_ok : bodyOk J Tryz.f109 = true := by kernel_rfl
theorem code110_ok : bodyOk J Tryz.f110 = true := by kernel_rfl
theorem code111_ok : bodyOk J Tryz.f111 = true := by kernel_rfl
theorem code112_ok : bodyOk J Tryz.f112 = true := by kernel_rfl
theorem code113_ok : bodyOk J Tryz.f113 = true := by kernel_rfl
theorem code114_ok : bodyOk J Tryz.f114 = true := by kernel_rfl
theorem code115_ok : bodyOk J Tryz.f115 = true := by kernel_rfl
theorem code116_ok : bodyOk J Tryz.f116 = true := by kernel_rfl
theorem code117_ok : bodyOk J Tryz.f117 = true := by kernel_rfl
theorem code118_ok : bodyOk J Tryz.f118 = true := by kernel_rfl
theorem code119_ok : bodyOk J Tryz.f119 = true := by kernel_rfl
theorem code120_ok : bodyOk J Tryz.f120 = true := by kernel_rfl
theorem code121_ok : bodyOk J Tryz.f121 = true := by kernel_rfl
theorem code122_ok : bodyOk J Tryz.f122 = true := by kernel_rfl
theorem code123_ok : bodyOk J Tryz.f123 = true := by kernel_rfl
theorem code124_ok : bodyOk J Tryz.f124 = true := by kernel_rfl
theorem code125_ok : bodyOk J Tryz.f125 = true := by kernel_rfl
theorem code126_ok : bodyOk J Tryz.f126 = true := by kernel_rfl
theorem code127_ok : bodyOk J Tryz.f127 = true := by kernel_rfl
theorem code128_ok : bodyOk J Tryz.f128 = true := by kernel_rfl
theorem code129_ok : bodyOk J Tryz.f129 = true := by kernel_rfl
theorem code130_ok : bodyOk J Tryz.f130 = true := by kernel_rfl
theorem code131_ok : bodyOk J Tryz.f131 = true := by kernel_rfl
theorem code132_ok : bodyOk J Tryz.f132 = true := by kernel_rfl
theorem code133_ok : bodyOk J Tryz.f133 = true := by kernel_rfl
theorem code134_ok : bodyOk J Tryz.f134 = true := by kernel_rfl
theorem code135_ok : bodyOk J Tryz.f135 = true := by kernel_rfl
theorem code136_ok : bodyOk J Tryz.f136 = true := by kernel_rfl
theorem code137_ok : bodyOk J Tryz.f137 = true := by kernel_rfl
theorem code138_ok : bodyOk J Tryz.f138 = true := by kernel_rfl
theorem code139_ok : bodyOk J Tryz.f139 = true := by kernel_rfl
theorem code140_ok : bodyOk J Tryz.f140 = true := by kernel_rfl
theorem code141_ok : bodyOk J Tryz.f141 = true := by kernel_rfl
theorem code142_ok : bodyOk J Tryz.f142 = true := by kernel_rfl
theorem code143_ok : bodyOk J Tryz.f143 = true := by kernel_rfl
theorem code144_ok : bodyOk J Tryz.f144 = true := by kernel_rfl
theorem code145_ok : bodyOk J Tryz.f145 = true := by kernel_rfl
theorem code146_ok : bodyOk J Tryz.f146 = true := by kernel_rfl
theorem code147_ok : bodyOk J Tryz.f147 = true := by kernel_rfl
theorem code148_ok : bodyOk J Tryz.f148 = true := by kernel_rfl
theorem code149_ok : bodyOk J Tryz.f149 = true := by kernel_rfl
theorem code150_ok : bodyOk J Tryz.f150 = true := by kernel_rfl
theorem code151_ok : bodyOk J Tryz.f151 = true := by kernel_rfl
theorem code152_ok : bodyOk J Tryz.f152 = true := by kernel_rfl
theorem code153_ok : bodyOk J Tryz.f153 = true := by kernel_rfl
theorem code154_ok : bodyOk J Tryz.f154 = true := by kernel_rfl
theorem code155_ok : bodyOk J Tryz.f155 = true := by kernel_rfl
theorem code156_ok : bodyOk J Tryz.f156 = true := by kernel_rfl
theorem code157_ok : bodyOk J Tryz.f157 = true := by kernel_rfl
theorem code158_ok : bodyOk J Tryz.f158 = true := by kernel_rfl
theorem code159_ok : bodyOk J Tryz.f159 = true := by kernel_rfl
theorem code160_ok : bodyOk J Tryz.f160 = true := by kernel_rfl
theorem code161_ok : bodyOk J Tryz.f161 = true := by kernel_rfl
theorem code162_ok : bodyOk J Tryz.f162 = true := by kernel_rfl
theorem code163_ok : bodyOk J Tryz.f163 = true := by kernel_rfl
theorem code164_ok : bodyOk J Tryz.f164 = true := by kernel_rfl
theorem code165_ok : bodyOk J Tryz.f165 = true := by kernel_rfl
theorem code166_ok : bodyOk J Tryz.f166 = true := by kernel_rfl
theorem code167_ok : bodyOk J Tryz.f167 = true := by kernel_rfl
theorem code168_ok : bodyOk J Tryz.f168 = true := by kernel_rfl
theorem code169_ok : bodyOk J Tryz.f169 = true := by kernel_rfl
theorem code170_ok : bodyOk J Tryz.f170 = true := by kernel_rfl
theorem code171_ok : bodyOk J Tryz.f171 = true := by kernel_rfl
theorem code172_ok : bodyOk J Tryz.f172 = true := by kernel_rfl
theorem code173_ok : bodyOk J Tryz.f173 = true := by kernel_rfl
theorem code174_ok : bodyOk J Tryz.f174 = true := by kernel_rfl
theorem code175_ok : bodyOk J Tryz.f175 = true := by kernel_rfl
theorem code176_ok : bodyOk J Tryz.f176 = true := by kernel_rfl
theorem code177_ok : bodyOk J Tryz.f177 = true := by kernel_rfl
theorem code178_ok : bodyOk J Tryz.f178 = true := by kernel_rfl
theorem code179_ok : bodyOk J Tryz.f179 = true := by kernel_rfl
theorem code180_ok : bodyOk J Tryz.f180 = true := by kernel_rfl
theorem code181_ok : bodyOk J Tryz.f181 = true := by kernel_rfl
theorem code182_ok : bodyOk J Tryz.f182 = true := by kernel_rfl
theorem code183_ok : bodyOk J Tryz.f183 = true := by kernel_rfl
theorem code184_ok : bodyOk J Tryz.f184 = true := by kernel_rfl
theorem code185_ok : bodyOk J Tryz.f185 = true := by kernel_rfl
theorem code186_ok : bodyOk J Tryz.f186 = true := by kernel_rfl
theorem code187_ok : bodyOk J Tryz.f187 = true := by kernel_rfl
theorem code188_ok : bodyOk J Tryz.f188 = true := by kernel_rfl
theorem code189_ok : bodyOk J Tryz.f189 = true := by kernel_rfl
theorem code190_ok : bodyOk J Tryz.f190 = true := by kernel_rfl
theorem code191_ok : bodyOk J Tryz.f191 = true := by kernel_rfl
theorem code192_ok : bodyOk J Tryz.f192 = true := by kernel_rfl
theorem code193_ok : bodyOk J Tryz.f193 = true := by kernel_rfl
theorem code194_ok : bodyOk J Tryz.f194 = true := by kernel_rfl
theorem code195_ok : bodyOk J Tryz.f195 = true := by kernel_rfl
theorem code196_ok : bodyOk J Tryz.f196 = true := by kernel_rfl
theorem code197_ok : bodyOk J Tryz.f197 = true := by kernel_rfl
theorem code198_ok : bodyOk J Tryz.f198 = true := by kernel_rfl
theorem code199_ok : bodyOk J Tryz.f199 = true := by kernel_rfl
theorem code200_ok : bodyOk J Tryz.f200 = true := by kernel_rfl
theorem code201_ok : bodyOk J Tryz.f201 = true := by kernel_rfl
theorem code202_ok : bodyOk J Tryz.f202 = true := by kernel_rfl
theorem code203_ok : bodyOk J Tryz.f203 = true := by kernel_rfl
theorem code204_ok : bodyOk J Tryz.f204 = true := by kernel_rfl
theorem code205_ok : bodyOk J Tryz.f205 = true := by kernel_rfl
theorem code206_ok : bodyOk J Tryz.f206 = true := by kernel_rfl
theorem code207_ok : bodyOk J Tryz.f207 = true := by kernel_rfl
theorem code208_ok : bodyOk J Tryz.f208 = true := by kernel_rfl
theorem code209_ok : bodyOk J Tryz.f209 = true := by kernel_rfl
theorem code210_ok : bodyOk J Tryz.f210 = true := by kernel_rfl
theorem code211_ok : bodyOk J Tryz.f211 = true := by kernel_rfl
theorem code212_ok : bodyOk J Tryz.f212 = true := by kernel_rfl
theorem code213_ok : bodyOk J Tryz.f213 = true := by kernel_rfl
theorem code214_ok : bodyOk J Tryz.f214 = true := by kernel_rfl
theorem code215_ok : bodyOk J Tryz.f215 = true := by kernel_rfl
theorem code216_ok : bodyOk J Tryz.f216 = true := by kernel_rfl
theorem code217_ok : bodyOk J Tryz.f217 = true := by kernel_rfl
theorem code218_ok : bodyOk J Tryz.f218 = true := by kernel_rfl
theorem code219_ok : bodyOk J Tryz.f219 = true := by kernel_rfl
theorem code220_ok : bodyOk J Tryz.f220 = true := by kernel_rfl
theorem code221_ok : bodyOk J Tryz.f221 = true := by kernel_rfl
theorem code222_ok : bodyOk J Tryz.f222 = true := by kernel_rfl
theorem code223_ok : bodyOk J Tryz.f223 = true := by kernel_rfl
theorem code224_ok : bodyOk J Tryz.f224 = true := by kernel_rfl
theorem code226_ok : bodyOk J Tryz.f226 = true := by kernel_rfl
theorem code227_ok : bodyOk J Tryz.f227 = true := by kernel_rfl
theorem code228_ok : bodyOk J Tryz.f228 = true := by kernel_rfl
theorem code229_ok : bodyOk J Tryz.f229 = true := by kernel_rfl
theorem code230_ok : bodyOk J Tryz.f230 = true := by kernel_rfl
theorem code231_ok : bodyOk J Tryz.f231 = true := by kernel_rfl
theorem code232_ok : bodyOk J Tryz.f232 = true := by kernel_rfl
theorem code233_ok : bodyOk J Tryz.f233 = true := by kernel_rfl
theorem code234_ok : bodyOk J Tryz.f234 = true := by kernel_rfl
theorem code235_ok : bodyOk J Tryz.f235 = true := by kernel_rfl
theorem code236_ok : bodyOk J Tryz.f236 = true := by kernel_rfl
theorem code237_ok : bodyOk J Tryz.f237 = true := by kernel_rfl
theorem code238_ok : bodyOk J Tryz.f238 = true := by kernel_rfl
theorem code239_ok : bodyOk J Tryz.f239 = true := by kernel_rfl
theorem code240_ok : bodyOk J Tryz.f240 = true := by kernel_rfl
theorem code241_ok : bodyOk J Tryz.f241 = true := by kernel_rfl
theorem code242_ok : bodyOk J Tryz.f242 = true := by kernel_rfl
theorem code243_ok : bodyOk J Tryz.f243 = true := by kernel_rfl
theorem code244_ok : bodyOk J Tryz.f244 = true := by kernel_rfl
theorem code245_ok : bodyOk J Tryz.f245 = true := by kernel_rfl
theorem code246_ok : bodyOk J Tryz.f246 = true := by kernel_rfl
theorem codeT_ok : ∀ f x, fnT.get f = some x → okAll f = true → bodyOk J x = true := Tr.allAt (p := fun f x => okAll f = true → bodyOk J x = true) fnT id (show Tr.AllAt _ _ fnT from ⟨trivial, ⟨trivial, ⟨(fun _ => code3_ok), ⟨(fun _ => code7_ok), ⟨(fun _ => code15_ok), ⟨(fun _ => code31_ok), ⟨(fun _ => code63_ok), ⟨(fun _ => code127_ok), trivial, trivial⟩, ⟨(fun _ => code191_ok), trivial, trivial⟩⟩, ⟨(fun _ => code95_ok), ⟨(fun _ => code159_ok), trivial, trivial⟩, ⟨(fun _ => code223_ok), trivial, trivial⟩⟩⟩, ⟨(fun _ => code47_ok), ⟨(fun _ => code79_ok), ⟨(fun _ => code143_ok), trivial, trivial⟩, ⟨(fun _ => code207_ok), trivial, trivial⟩⟩, ⟨(fun _ => code111_ok), ⟨(fun _ => code175_ok), trivial, trivial⟩, ⟨(fun _ => code239_ok), trivial, trivial⟩⟩⟩⟩, ⟨(fun _ => code23_ok), ⟨(fun _ => code39_ok), ⟨(fun _ => code71_ok), ⟨(fun _ => code135_ok), trivial, trivial⟩, ⟨(fun _ => code199_ok), trivial, trivial⟩⟩, ⟨(fun _ => code103_ok), ⟨(fun _ => code167_ok), trivial, trivial⟩, ⟨(fun _ => code231_ok), trivial, trivial⟩⟩⟩, ⟨(fun _ => code55_ok), ⟨(fun _ => code87_ok), ⟨(fun _ => code151_ok), trivial, trivial⟩, ⟨(fun _ => code215_ok), trivial, trivial⟩⟩, ⟨(fun _ => code119_ok), ⟨(fun _ => code183_ok), trivial, trivial⟩, trivial⟩⟩⟩⟩, ⟨(fun _ => code11_ok), ⟨(fun _ => code19_ok), ⟨(fun _ => code35_ok), ⟨(fun _ => code67_ok), ⟨(fun _ => code131_ok), trivial, trivial⟩, ⟨(fun _ => code195_ok), trivial, trivial⟩⟩, ⟨(fun _ => code99_ok), ⟨(fun _ => code163_ok), trivial, trivial⟩, ⟨(fun _ => code227_ok), trivial, trivial⟩⟩⟩, ⟨(fun _ => code51_ok), ⟨(fun _ => code83_ok), ⟨(fun _ => code147_ok), trivial, trivial⟩, ⟨(fun _ => code211_ok), trivial, trivial⟩⟩, ⟨(fun _ => code115_ok), ⟨(fun _ => code179_ok), trivial, trivial⟩, ⟨(fun _ => code243_ok), trivial, trivial⟩⟩⟩⟩, ⟨(fun _ => code27_ok), ⟨(fun _ => code43_ok), ⟨(fun _ => code75_ok), ⟨(fun _ => code139_ok), trivial, trivial⟩, ⟨(fun _ => code203_ok), trivial, trivial⟩⟩, ⟨(fun _ => code107_ok), ⟨(fun _ => code171_ok), trivial, trivial⟩, ⟨(fun _ => code235_ok), trivial, trivial⟩⟩⟩, ⟨(fun _ => code59_ok), ⟨(fun _ => code91_ok), ⟨(fun _ => code155_ok), trivial, trivial⟩, ⟨(fun _ => code219_ok), trivial, trivial⟩⟩, ⟨(fun _ => code123_ok), ⟨(fun _ => code187_ok), trivial, trivial⟩, trivial⟩⟩⟩⟩⟩, ⟨(fun _ => code5_ok), ⟨(fun _ => code9_ok), ⟨(fun _ => code17_ok), ⟨(fun _ => code33_ok), ⟨(fun _ => code65_ok), ⟨(fun _ => code129_ok), trivial, trivial⟩, ⟨(fun _ => code193_ok), trivial, trivial⟩⟩, ⟨(fun _ => code97_ok), ⟨(fun _ => code161_ok), trivial, trivial⟩, trivial⟩⟩, ⟨(fun _ => code49_ok), ⟨(fun _ => code81_ok), ⟨(fun _ => code145_ok), trivial, trivial⟩, ⟨(fun _ => code209_ok), trivial, trivial⟩⟩, ⟨(fun _ => code113_ok), ⟨(fun _ => code177_ok), trivial, trivial⟩, ⟨(fun _ => code241_ok), trivial, trivial⟩⟩⟩⟩, ⟨(fun _ => code25_ok), ⟨(fun _ => code41_ok), ⟨(fun _ => code73_ok), ⟨(fun _ => code137_ok), trivial, trivial⟩, ⟨(fun _ => code201_ok), trivial, trivial⟩⟩, ⟨(fun _ => code105_ok), ⟨(fun _ => code169_ok), trivial, trivial⟩, ⟨(fun _ => code233_ok), trivial, trivial⟩⟩⟩, ⟨(fun _ => code57_ok), ⟨(fun _ => code89_ok), ⟨(fun _ => code153_ok), trivial, trivial⟩, ⟨(fun _ => code217_ok), trivial, trivial⟩⟩, ⟨(fun _ => code121_ok), ⟨(fun _ => code185_ok), trivial, trivial⟩, trivial⟩⟩⟩⟩, ⟨(fun _ => code13_ok), ⟨(fun _ => code21_ok), ⟨(fun _ => code37_ok), ⟨(fun _ => code69_ok), ⟨(fun _ => code133_ok), trivial, trivial⟩, ⟨(fun _ => code197_ok), trivial, trivial⟩⟩, ⟨(fun _ => code101_ok), ⟨(fun _ => code165_ok), trivial, trivial⟩, ⟨(fun _ => code229_ok), trivial, trivial⟩⟩⟩, ⟨(fun _ => code53_ok), ⟨(fun _ => code85_ok), ⟨(fun _ => code149_ok), trivial, trivial⟩, ⟨(fun _ => code213_ok), trivial, trivial⟩⟩, ⟨(fun _ => code117_ok), ⟨(fun _ => code181_ok), trivial, trivial⟩, ⟨(fun _ => code245_ok), trivial, trivial⟩⟩⟩⟩, ⟨(fun _ => code29_ok), ⟨(fun _ => code45_ok), ⟨(fun _ => code77_ok), ⟨(fun _ => code141_ok), trivial, trivial⟩, ⟨(fun _ => code205_ok), trivial, trivial⟩⟩, ⟨(fun _ => code109_ok), ⟨(fun _ => code173_ok), trivial, trivial⟩, ⟨(fun _ => code237_ok), trivial, trivial⟩⟩⟩, ⟨(fun _ => code61_ok), ⟨(fun _ => code93_ok), ⟨(fun _ => code157_ok), trivial, trivial⟩, ⟨(fun _ => code221_ok), trivial, trivial⟩⟩, ⟨(fun _ => code125_ok), ⟨(fun _ => code189_ok), trivial, trivial⟩, trivial⟩⟩⟩⟩⟩⟩, ⟨trivial, ⟨(fun _ => code4_ok), ⟨(fun _ => code8_ok), ⟨(fun _ => code16_ok), ⟨(fun _ => code32_ok), ⟨(fun _ => code64_ok), ⟨(fun _ => code128_ok), trivial, trivial⟩, ⟨(fun _ => code192_ok), trivial, trivial⟩⟩, ⟨(fun _ => code96_ok), ⟨(fun _ => code160_ok), trivial, trivial⟩, ⟨(fun _ => code224_ok), trivial, trivial⟩⟩⟩, ⟨(fun _ => code48_ok), ⟨(fun _ => code80_ok), ⟨(fun _ => code144_ok), trivial, trivial⟩, ⟨(fun _ => code208_ok), trivial, trivial⟩⟩, ⟨(fun _ => code112_ok), ⟨(fun _ => code176_ok), trivial, trivial⟩, ⟨(fun _ => code240_ok), trivial, trivial⟩⟩⟩⟩, ⟨(fun _ => code24_ok), ⟨(fun _ => code40_ok), ⟨(fun _ => code72_ok), ⟨(fun _ => code136_ok), trivial, trivial⟩, ⟨(fun _ => code200_ok), trivial, trivial⟩⟩, ⟨(fun _ => code104_ok), ⟨(fun _ => code168_ok), trivial, trivial⟩, ⟨(fun _ => code232_ok), trivial, trivial⟩⟩⟩, ⟨(fun _ => code56_ok), ⟨(fun _ => code88_ok), ⟨(fun _ => code152_ok), trivial, trivial⟩, ⟨(fun _ => code216_ok), trivial, trivial⟩⟩, ⟨(fun _ => code120_ok), ⟨(fun _ => code184_ok), trivial, trivial⟩, trivial⟩⟩⟩⟩, ⟨(fun _ => code12_ok), ⟨(fun _ => code20_ok), ⟨(fun _ => code36_ok), ⟨(fun _ => code68_ok), ⟨(fun _ => code132_ok), trivial, trivial⟩, ⟨(fun _ => code196_ok), trivial, trivial⟩⟩, ⟨(fun _ => code100_ok), ⟨(fun _ => code164_ok), trivial, trivial⟩, ⟨(fun _ => code228_ok), trivial, trivial⟩⟩⟩, ⟨(fun _ => code52_ok), ⟨(fun _ => code84_ok), ⟨(fun _ => code148_ok), trivial, trivial⟩, ⟨(fun _ => code212_ok), trivial, trivial⟩⟩, ⟨(fun _ => code116_ok), ⟨(fun _ => code180_ok), trivial, trivial⟩, ⟨(fun _ => code244_ok), trivial, trivial⟩⟩⟩⟩, ⟨(fun _ => code28_ok), ⟨(fun _ => code44_ok), ⟨(fun _ => code76_ok), ⟨(fun _ => code140_ok), trivial, trivial⟩, ⟨(fun _ => code204_ok), trivial, trivial⟩⟩, ⟨(fun _ => code108_ok), ⟨(fun _ => code172_ok), trivial, trivial⟩, ⟨(fun _ => code236_ok), trivial, trivial⟩⟩⟩, ⟨(fun _ => code60_ok), ⟨(fun _ => code92_ok), ⟨(fun _ => code156_ok), trivial, trivial⟩, ⟨(fun _ => code220_ok), trivial, trivial⟩⟩, ⟨(fun _ => code124_ok), ⟨(fun _ => code188_ok), trivial, trivial⟩, trivial⟩⟩⟩⟩⟩, ⟨(fun _ => code6_ok), ⟨(fun _ => code10_ok), ⟨(fun _ => code18_ok), ⟨(fun _ => code34_ok), ⟨(fun _ => code66_ok), ⟨(fun _ => code130_ok), trivial, trivial⟩, ⟨(fun _ => code194_ok), trivial, trivial⟩⟩, ⟨(fun _ => code98_ok), ⟨(fun _ => code162_ok), trivial, trivial⟩, ⟨(fun _ => code226_ok), trivial, trivial⟩⟩⟩, ⟨(fun _ => code50_ok), ⟨(fun _ => code82_ok), ⟨(fun _ => code146_ok), trivial, trivial⟩, ⟨(fun _ => code210_ok), trivial, trivial⟩⟩, ⟨(fun _ => code114_ok), ⟨(fun _ => code178_ok), trivial, trivial⟩, ⟨(fun _ => code242_ok), trivial, trivial⟩⟩⟩⟩, ⟨(fun _ => code26_ok), ⟨(fun _ => code42_ok), ⟨(fun _ => code74_ok), ⟨(fun _ => code138_ok), trivial, trivial⟩, ⟨(fun _ => code202_ok), trivial, trivial⟩⟩, ⟨(fun _ => code106_ok), ⟨(fun _ => code170_ok), trivial, trivial⟩, ⟨(fun _ => code234_ok), trivial, trivial⟩⟩⟩, ⟨(fun _ => code58_ok), ⟨(fun _ => code90_ok), ⟨(fun _ => code154_ok), trivial, trivial⟩, ⟨(fun _ => code218_ok), trivial, trivial⟩⟩, ⟨(fun _ => code122_ok), ⟨(fun _ => code186_ok), trivial, trivial⟩, trivial⟩⟩⟩⟩, ⟨(fun _ => code14_ok), ⟨(fun _ => code22_ok), ⟨(fun _ => code38_ok), ⟨(fun _ => code70_ok), ⟨(fun _ => code134_ok), trivial, trivial⟩, ⟨(fun _ => code198_ok), trivial, trivial⟩⟩, ⟨(fun _ => code102_ok), ⟨(fun _ => code166_ok), trivial, trivial⟩, ⟨(fun _ => code230_ok), trivial, trivial⟩⟩⟩, ⟨(fun _ => code54_ok), ⟨(fun _ => code86_ok), ⟨(fun _ => code150_ok), trivial, trivial⟩, ⟨(fun _ => code214_ok), trivial, trivial⟩⟩, ⟨(fun _ => code118_ok), ⟨(fun _ => code182_ok), trivial, trivial⟩, ⟨(fun _ => code246_ok), trivial, trivial⟩⟩⟩⟩, ⟨(fun _ => code30_ok), ⟨(fun _ => code46_ok), ⟨(fun _ => code78_ok), ⟨(fun _ => code142_ok), trivial, trivial⟩, ⟨(fun _ => code206_ok), trivial, trivial⟩⟩, ⟨(fun _ => code110_ok), ⟨(fun _ => code174_ok), trivial, trivial⟩, ⟨(fun _ => code238_ok), trivial, trivial⟩⟩⟩, ⟨(fun _ => code62_ok), ⟨(fun _ => code94_ok), ⟨(fun _ => code158_ok), trivial, trivial⟩, ⟨(fun _ => code222_ok), trivial, trivial⟩⟩, ⟨(fun _ => code126_ok), ⟨(fun _ => code190_ok), trivial, trivial⟩, trivial⟩⟩⟩⟩⟩⟩⟩)
theorem mixed : J.P.follows .mixedOrders = true := by kernel_rfl
theorem sound (B : Bd) (k : Nat) : CallSound J B (icall J okAll k) := icall_sound mixed (fun f fn c hk hf hc => by have := codeT_ok f fn hf hk; unfold bodyOk at this; rw [hc] at this; exact this) k B
end Go.Proofs.YtchlbfmjnhgpgaaGreat.Idl
namespace Go.Proofs.YtchlbfmjnhgpgaaGreat.Idl
open Go
set_option maxRecDepth 100000
@[simp] theorem und0 : J.und 0 = some (.tuple #[]) := id rfl
@[simp] theorem size0 : J.size 0 = some 1 := id rfl
@[simp] theorem bytes0 : J.bytes 0 = some 0 := id rfl
@[simp] theorem zero0 : J.zero 0 = some (.tuple #[]) := id rfl
@[simp] theorem agg0 : isAggT J 0 = some false := id rfl
@[simp] theorem und2 : J.und 2 = some (.int .i64) := id rfl
@[simp] theorem size2 : J.size 2 = some 1 := id rfl
@[simp] theorem bytes2 : J.bytes 2 = some 8 := id rfl
@[simp] theorem zero2 : J.zero 2 = some (.int .i64 0) := id rfl
@[simp] theorem agg2 : isAggT J 2 = some false := id rfl
@[simp] theorem und3 : J.und 3 = some (.int .i64) := id rfl
@[simp] theorem size3 : J.size 3 = some 1 := id rfl
@[simp] theorem bytes3 : J.bytes 3 = some 8 := id rfl
@[simp] theorem zero3 : J.zero 3 = some (.int .i64 0) := id rfl
@[simp] theorem agg3 : isAggT J 3 = some false := id rfl
@[simp] theorem und4 : J.und 4 = some .bool := id rfl
@[simp] theorem size4 : J.size 4 = some 1 := id rfl
@[simp] theorem bytes4 : J.bytes 4 = some 1 := id rfl
@[simp] theorem zero4 : J.zero 4 = some (.bool false) := id rfl
@[simp] theorem agg4 : isAggT J 4 = some false := id rfl
@[simp] theorem und5 : J.und 5 = some (.int .u8) := id rfl
@[simp] theorem size5 : J.size 5 = some 1 := id rfl
@[simp] theorem bytes5 : J.bytes 5 = some 1 := id rfl
@[simp] theorem zero5 : J.zero 5 = some (.int .u8 0) := id rfl
@[simp] theorem agg5 : isAggT J 5 = some false := id rfl
@[simp] theorem und9 : J.und 9 = some .string := id rfl
@[simp] theorem size9 : J.size 9 = some 1 := id rfl
@[simp] theorem bytes9 : J.bytes 9 = some 16 := id rfl
@[simp] theorem zero9 : J.zero 9 = some (.string ⟨#[]⟩) := id rfl
@[simp] theorem agg9 : isAggT J 9 = some false := id rfl
@[simp] theorem und20 : J.und 20 = some (.interface #[]) := id rfl
@[simp] theorem size20 : J.size 20 = some 1 := id rfl
@[simp] theorem bytes20 : J.bytes 20 = some 16 := id rfl
@[simp] theorem zero20 : J.zero 20 = some .nilIface := id rfl
@[simp] theorem agg20 : isAggT J 20 = some false := id rfl
@[simp] theorem und22 : J.und 22 = some (.slice 88) := id rfl
@[simp] theorem size22 : J.size 22 = some 1 := id rfl
@[simp] theorem bytes22 : J.bytes 22 = some 24 := id rfl
@[simp] theorem zero22 : J.zero 22 = some (.slice none 0 0) := id rfl
@[simp] theorem agg22 : isAggT J 22 = some false := id rfl
@[simp] theorem und23 : J.und 23 = some (.slice 90) := id rfl
@[simp] theorem size23 : J.size 23 = some 1 := id rfl
@[simp] theorem bytes23 : J.bytes 23 = some 24 := id rfl
@[simp] theorem zero23 : J.zero 23 = some (.slice none 0 0) := id rfl
@[simp] theorem agg23 : isAggT J 23 = some false := id rfl
@[simp] theorem und24 : J.und 24 = some (.slice 9) := id rfl
@[simp] theorem size24 : J.size 24 = some 1 := id rfl
@[simp] theorem bytes24 : J.bytes 24 = some 24 := id rfl
@[simp] theorem zero24 : J.zero 24 = some (.slice none 0 0) := id rfl
@[simp] theorem agg24 : isAggT J 24 = some false := id rfl
@[simp] theorem und25 : J.und 25 = some (.slice 59) := id rfl
@[simp] theorem size25 : J.size 25 = some 1 := id rfl
@[simp] theorem bytes25 : J.bytes 25 = some 24 := id rfl
@[simp] theorem zero25 : J.zero 25 = some (.slice none 0 0) := id rfl
@[simp] theorem agg25 : isAggT J 25 = some false := id rfl
@[simp] theorem size27 : J.size 27 = some 7 := id rfl
@[simp] theorem bytes27 : J.bytes 27 = some 136 := id rfl
@[simp] theorem zero27 : J.zero 27 = some (.agg #[(.slice none 0 0), (.slice none 0 0), (.slice none 0 0), (.slice none 0 0), (.slice none 0 0), (.int .i64 0), (.int .i64 0)]) := id rfl
@[simp] theorem agg27 : isAggT J 27 = some true := id rfl
@[simp] theorem fa27_0 (a : Addr) : ifieldAddr J 27 (.pointer (some a)) 0 = some (.pointer (some (a.add 0))) := id rfl
@[simp] theorem fa27_1 (a : Addr) : ifieldAddr J 27 (.pointer (some a)) 1 = some (.pointer (some (a.add 1))) := id rfl
@[simp] theorem fa27_2 (a : Addr) : ifieldAddr J 27 (.pointer (some a)) 2 = some (.pointer (some (a.add 2))) := id rfl
@[simp] theorem fa27_3 (a : Addr) : ifieldAddr J 27 (.pointer (some a)) 3 = some (.pointer (some (a.add 3))) := id rfl
@[simp] theorem fa27_4 (a : Addr) : ifieldAddr J 27 (.pointer (some a)) 4 = some (.pointer (some (a.add 4))) := id rfl
@[simp] theorem fa27_5 (a : Addr) : ifieldAddr J 27 (.pointer (some a)) 5 = some (.pointer (some (a.add 5))) := id rfl
@[simp] theorem fa27_6 (a : Addr) : ifieldAddr J 27 (.pointer (some a)) 6 = some (.pointer (some (a.add 6))) := id rfl
@[simp] theorem und28 : J.und 28 = some (.slice 3) := id rfl
@[simp] theorem size28 : J.size 28 = some 1 := id rfl
@[simp] theorem bytes28 : J.bytes 28 = some 24 := id rfl
@[simp] theorem zero28 : J.zero 28 = some (.slice none 0 0) := id rfl
@[simp] theorem agg28 : isAggT J 28 = some false := id rfl
@[simp] theorem size30 : J.size 30 = some 9 := id rfl
@[simp] theorem bytes30 : J.bytes 30 = some 120 := id rfl
@[simp] theorem zero30 : J.zero 30 = some (.agg #[(.int .i64 0), (.int .i64 0), (.int .i64 0), (.int .i64 0), (.int .i64 0), (.int .i64 0), (.slice none 0 0), (.slice none 0 0), (.slice none 0 0)]) := id rfl
@[simp] theorem agg30 : isAggT J 30 = some true := id rfl
@[simp] theorem fa30_0 (a : Addr) : ifieldAddr J 30 (.pointer (some a)) 0 = some (.pointer (some (a.add 0))) := id rfl
@[simp] theorem fa30_1 (a : Addr) : ifieldAddr J 30 (.pointer (some a)) 1 = some (.pointer (some (a.add 1))) := id rfl
@[simp] theorem fa30_2 (a : Addr) : ifieldAddr J 30 (.pointer (some a)) 2 = some (.pointer (some (a.add 2))) := id rfl
@[simp] theorem fa30_3 (a : Addr) : ifieldAddr J 30 (.pointer (some a)) 3 = some (.pointer (some (a.add 3))) := id rfl
@[simp] theorem fa30_4 (a : Addr) : ifieldAddr J 30 (.pointer (some a)) 4 = some (.pointer (some (a.add 4))) := id rfl
@[simp] theorem fa30_5 (a : Addr) : ifieldAddr J 30 (.pointer (some a)) 5 = some (.pointer (some (a.add 5))) := id rfl
@[simp] theorem fa30_6 (a : Addr) : ifieldAddr J 30 (.pointer (some a)) 6 = some (.pointer (some (a.add 6))) := id rfl
@[simp] theorem fa30_7 (a : Addr) : ifieldAddr J 30 (.pointer (some a)) 7 = some (.pointer (some (a.add 7))) := id rfl
@[simp] theorem fa30_8 (a : Addr) : ifieldAddr J 30 (.pointer (some a)) 8 = some (.pointer (some (a.add 8))) := id rfl
@[simp] theorem und31 : J.und 31 = some (.int .u64) := id rfl
@[simp] theorem size31 : J.size 31 = some 1 := id rfl
@[simp] theorem bytes31 : J.bytes 31 = some 8 := id rfl
@[simp] theorem zero31 : J.zero 31 = some (.int .u64 0) := id rfl
@[simp] theorem agg31 : isAggT J 31 = some false := id rfl
@[simp] theorem size33 : J.size 33 = some 17 := id rfl
@[simp] theorem bytes33 : J.bytes 33 = some 264 := id rfl
@[simp] theorem zero33 : J.zero 33 = some (.agg #[(.slice none 0 0), (.slice none 0 0), (.slice none 0 0), (.slice none 0 0), (.slice none 0 0), (.int .i64 0), (.int .i64 0), (.int .i64 0), (.int .i64 0), (.int .i64 0), (.int .i64 0), (.int .i64 0), (.int .i64 0), (.slice none 0 0), (.slice none 0 0), (.slice none 0 0), (.int .u64 0)]) := id rfl
@[simp] theorem agg33 : isAggT J 33 = some true := id rfl
@[simp] theorem fa33_0 (a : Addr) : ifieldAddr J 33 (.pointer (some a)) 0 = some (.pointer (some (a.add 0))) := id rfl
@[simp] theorem fa33_1 (a : Addr) : ifieldAddr J 33 (.pointer (some a)) 1 = some (.pointer (some (a.add 7))) := id rfl
@[simp] theorem fa33_2 (a : Addr) : ifieldAddr J 33 (.pointer (some a)) 2 = some (.pointer (some (a.add 16))) := id rfl
@[simp] theorem und34 : J.und 34 = some (.slice 5) := id rfl
@[simp] theorem size34 : J.size 34 = some 1 := id rfl
@[simp] theorem bytes34 : J.bytes 34 = some 24 := id rfl
@[simp] theorem zero34 : J.zero 34 = some (.slice none 0 0) := id rfl
@[simp] theorem agg34 : isAggT J 34 = some false := id rfl
@[simp] theorem und35 : J.und 35 = some (.slice 4) := id rfl
@[simp] theorem size35 : J.size 35 = some 1 := id rfl
@[simp] theorem bytes35 : J.bytes 35 = some 24 := id rfl
@[simp] theorem zero35 : J.zero 35 = some (.slice none 0 0) := id rfl
@[simp] theorem agg35 : isAggT J 35 = some false := id rfl
@[simp] theorem size37 : J.size 37 = some 5 := id rfl
@[simp] theorem bytes37 : J.bytes 37 = some 72 := id rfl
@[simp] theorem zero37 : J.zero 37 = some (.agg #[(.slice none 0 0), (.int .i64 0), (.int .i64 0), (.int .i64 0), (.slice none 0 0)]) := id rfl
@[simp] theorem agg37 : isAggT J 37 = some true := id rfl
@[simp] theorem fa37_0 (a : Addr) : ifieldAddr J 37 (.pointer (some a)) 0 = some (.pointer (some (a.add 0))) := id rfl
@[simp] theorem fa37_1 (a : Addr) : ifieldAddr J 37 (.pointer (some a)) 1 = some (.pointer (some (a.add 1))) := id rfl
@[simp] theorem fa37_2 (a : Addr) : ifieldAddr J 37 (.pointer (some a)) 2 = some (.pointer (some (a.add 2))) := id rfl
@[simp] theorem fa37_3 (a : Addr) : ifieldAddr J 37 (.pointer (some a)) 3 = some (.pointer (some (a.add 3))) := id rfl
@[simp] theorem fa37_4 (a : Addr) : ifieldAddr J 37 (.pointer (some a)) 4 = some (.pointer (some (a.add 4))) := id rfl
@[simp] theorem size44 : J.size 44 = some 5 := id rfl
@[simp] theorem bytes44 : J.bytes 44 = some 64 := id rfl
@[simp] theorem zero44 : J.zero 44 = some (.agg #[(.int .i64 0), (.slice none 0 0), (.string ⟨#[]⟩), (.int .i64 0), (.int .i64 0)]) := id rfl
@[simp] theorem agg44 : isAggT J 44 = some true := id rfl
@[simp] theorem fa44_0 (a : Addr) : ifieldAddr J 44 (.pointer (some a)) 0 = some (.pointer (some (a.add 0))) := id rfl
@[simp] theorem fa44_1 (a : Addr) : ifieldAddr J 44 (.pointer (some a)) 1 = some (.pointer (some (a.add 1))) := id rfl
@[simp] theorem fa44_2 (a : Addr) : ifieldAddr J 44 (.pointer (some a)) 2 = some (.pointer (some (a.add 2))) := id rfl
@[simp] theorem fa44_3 (a : Addr) : ifieldAddr J 44 (.pointer (some a)) 3 = some (.pointer (some (a.add 3))) := id rfl
@[simp] theorem fa44_4 (a : Addr) : ifieldAddr J 44 (.pointer (some a)) 4 = some (.pointer (some (a.add 4))) := id rfl
@[simp] theorem und50 : J.und 50 = some (.array 2 3) := id rfl
@[simp] theorem size50 : J.size 50 = some 2 := id rfl
@[simp] theorem bytes50 : J.bytes 50 = some 16 := id rfl
@[simp] theorem zero50 : J.zero 50 = some (.agg #[(.int .i64 0), (.int .i64 0)]) := id rfl
@[simp] theorem agg50 : isAggT J 50 = some true := id rfl
@[simp] theorem und54 : J.und 54 = some (.slice 30) := id rfl
@[simp] theorem size54 : J.size 54 = some 1 := id rfl
@[simp] theorem bytes54 : J.bytes 54 = some 24 := id rfl
@[simp] theorem zero54 : J.zero 54 = some (.slice none 0 0) := id rfl
@[simp] theorem agg54 : isAggT J 54 = some false := id rfl
@[simp] theorem size56 : J.size 56 = some 2 := id rfl
@[simp] theorem bytes56 : J.bytes 56 = some 48 := id rfl
@[simp] theorem zero56 : J.zero 56 = some (.agg #[(.slice none 0 0), (.slice none 0 0)]) := id rfl
@[simp] theorem agg56 : isAggT J 56 = some true := id rfl
@[simp] theorem fa56_0 (a : Addr) : ifieldAddr J 56 (.pointer (some a)) 0 = some (.pointer (some (a.add 0))) := id rfl
@[simp] theorem fa56_1 (a : Addr) : ifieldAddr J 56 (.pointer (some a)) 1 = some (.pointer (some (a.add 1))) := id rfl
@[simp] theorem und57 : J.und 57 = some (.slice 56) := id rfl
@[simp] theorem size57 : J.size 57 = some 1 := id rfl
@[simp] theorem bytes57 : J.bytes 57 = some 24 := id rfl
@[simp] theorem zero57 : J.zero 57 = some (.slice none 0 0) := id rfl
@[simp] theorem agg57 : isAggT J 57 = some false := id rfl
@[simp] theorem size59 : J.size 59 = some 4 := id rfl
@[simp] theorem bytes59 : J.bytes 59 = some 64 := id rfl
@[simp] theorem zero59 : J.zero 59 = some (.agg #[(.slice none 0 0), (.int .i64 0), (.int .i64 0), (.slice none 0 0)]) := id rfl
@[simp] theorem agg59 : isAggT J 59 = some true := id rfl
@[simp] theorem fa59_0 (a : Addr) : ifieldAddr J 59 (.pointer (some a)) 0 = some (.pointer (some (a.add 0))) := id rfl
@[simp] theorem fa59_1 (a : Addr) : ifieldAddr J 59 (.pointer (some a)) 1 = some (.pointer (some (a.add 1))) := id rfl
@[simp] theorem fa59_2 (a : Addr) : ifieldAddr J 59 (.pointer (some a)) 2 = some (.pointer (some (a.add 2))) := id rfl
@[simp] theorem fa59_3 (a : Addr) : ifieldAddr J 59 (.pointer (some a)) 3 = some (.pointer (some (a.add 3))) := id rfl
@[simp] theorem und62 : J.und 62 = some (.int .u64) := id rfl
@[simp] theorem size62 : J.size 62 = some 1 := id rfl
@[simp] theorem bytes62 : J.bytes 62 = some 8 := id rfl
@[simp] theorem zero62 : J.zero 62 = some (.int .u64 0) := id rfl
@[simp] theorem agg62 : isAggT J 62 = some false := id rfl
@[simp] theorem und64 : J.und 64 = some (.tuple #[2, 4]) := id rfl
@[simp] theorem size64 : J.size 64 = some 1 := id rfl
@[simp] theorem bytes64 : J.bytes 64 = some 0 := id rfl
@[simp] theorem zero64 : J.zero 64 = some (.tuple #[(.int .i64 0), (.bool false)]) := id rfl
@[simp] theorem agg64 : isAggT J 64 = some false := id rfl
@[simp] theorem und69 : J.und 69 = some (.array 2 2) := id rfl
@[simp] theorem size69 : J.size 69 = some 2 := id rfl
@[simp] theorem bytes69 : J.bytes 69 = some 16 := id rfl
@[simp] theorem zero69 : J.zero 69 = some (.agg #[(.int .i64 0), (.int .i64 0)]) := id rfl
@[simp] theorem agg69 : isAggT J 69 = some true := id rfl
@[simp] theorem und72 : J.und 72 = some (.int .i64) := id rfl
@[simp] theorem size72 : J.size 72 = some 1 := id rfl
@[simp] theorem bytes72 : J.bytes 72 = some 8 := id rfl
@[simp] theorem zero72 : J.zero 72 = some (.int .i64 0) := id rfl
@[simp] theorem agg72 : isAggT J 72 = some false := id rfl
@[simp] theorem und73 : J.und 73 = some (.tuple #[34, 72]) := id rfl
@[simp] theorem size73 : J.size 73 = some 1 := id rfl
@[simp] theorem bytes73 : J.bytes 73 = some 0 := id rfl
@[simp] theorem zero73 : J.zero 73 = some (.tuple #[(.slice none 0 0), (.int .i64 0)]) := id rfl
@[simp] theorem agg73 : isAggT J 73 = some false := id rfl
@[simp] theorem und75 : J.und 75 = some (.tuple #[27, 72]) := id rfl
@[simp] theorem size75 : J.size 75 = some 1 := id rfl
@[simp] theorem bytes75 : J.bytes 75 = some 0 := id rfl
@[simp] theorem zero75 : J.zero 75 = some (.tuple #[(.agg #[(.slice none 0 0), (.slice none 0 0), (.slice none 0 0), (.slice none 0 0), (.slice none 0 0), (.int .i64 0), (.int .i64 0)]), (.int .i64 0)]) := id rfl
@[simp] theorem agg75 : isAggT J 75 = some false := id rfl
@[simp] theorem und77 : J.und 77 = some (.tuple #[3, 3, 3, 4]) := id rfl
@[simp] theorem size77 : J.size 77 = some 1 := id rfl
@[simp] theorem bytes77 : J.bytes 77 = some 0 := id rfl
@[simp] theorem zero77 : J.zero 77 = some (.tuple #[(.int .i64 0), (.int .i64 0), (.int .i64 0), (.bool false)]) := id rfl
@[simp] theorem agg77 : isAggT J 77 = some false := id rfl
@[simp] theorem und79 : J.und 79 = some (.pointer 84) := id rfl
@[simp] theorem size79 : J.size 79 = some 1 := id rfl
@[simp] theorem bytes79 : J.bytes 79 = some 8 := id rfl
@[simp] theorem zero79 : J.zero 79 = some (.pointer none) := id rfl
@[simp] theorem agg79 : isAggT J 79 = some false := id rfl
@[simp] theorem und80 : J.und 80 = some (.pointer 27) := id rfl
@[simp] theorem size80 : J.size 80 = some 1 := id rfl
@[simp] theorem bytes80 : J.bytes 80 = some 8 := id rfl
@[simp] theorem zero80 : J.zero 80 = some (.pointer none) := id rfl
@[simp] theorem agg80 : isAggT J 80 = some false := id rfl
@[simp] theorem und81 : J.und 81 = some (.pointer 171) := id rfl
@[simp] theorem size81 : J.size 81 = some 1 := id rfl
@[simp] theorem bytes81 : J.bytes 81 = some 8 := id rfl
@[simp] theorem zero81 : J.zero 81 = some (.pointer none) := id rfl
@[simp] theorem agg81 : isAggT J 81 = some false := id rfl
@[simp] theorem und82 : J.und 82 = some (.slice 131) := id rfl
@[simp] theorem size82 : J.size 82 = some 1 := id rfl
@[simp] theorem bytes82 : J.bytes 82 = some 24 := id rfl
@[simp] theorem zero82 : J.zero 82 = some (.slice none 0 0) := id rfl
@[simp] theorem agg82 : isAggT J 82 = some false := id rfl
@[simp] theorem size84 : J.size 84 = some 16 := id rfl
@[simp] theorem bytes84 : J.bytes 84 = some 200 := id rfl
@[simp] theorem zero84 : J.zero 84 = some (.agg #[(.pointer none), (.slice none 0 0), (.int .i64 0), (.int .i64 0), (.int .i64 0), (.slice none 0 0), (.pointer none), (.slice none 0 0), (.int .i64 0), (.int .i64 0), (.int .i64 0), (.int .i64 0), (.slice none 0 0), (.string ⟨#[]⟩), (.int .i64 0), (.int .i64 0)]) := id rfl
@[simp] theorem agg84 : isAggT J 84 = some true := id rfl
@[simp] theorem fa84_0 (a : Addr) : ifieldAddr J 84 (.pointer (some a)) 0 = some (.pointer (some (a.add 0))) := id rfl
@[simp] theorem fa84_1 (a : Addr) : ifieldAddr J 84 (.pointer (some a)) 1 = some (.pointer (some (a.add 1))) := id rfl
@[simp] theorem fa84_2 (a : Addr) : ifieldAddr J 84 (.pointer (some a)) 2 = some (.pointer (some (a.add 6))) := id rfl
@[simp] theorem fa84_3 (a : Addr) : ifieldAddr J 84 (.pointer (some a)) 3 = some (.pointer (some (a.add 7))) := id rfl
@[simp] theorem fa84_4 (a : Addr) : ifieldAddr J 84 (.pointer (some a)) 4 = some (.pointer (some (a.add 8))) := id rfl
@[simp] theorem fa84_5 (a : Addr) : ifieldAddr J 84 (.pointer (some a)) 5 = some (.pointer (some (a.add 9))) := id rfl
@[simp] theorem fa84_6 (a : Addr) : ifieldAddr J 84 (.pointer (some a)) 6 = some (.pointer (some (a.add 10))) := id rfl
@[simp] theorem fa84_7 (a : Addr) : ifieldAddr J 84 (.pointer (some a)) 7 = some (.pointer (some (a.add 11))) := id rfl
@[simp] theorem size86 : J.size 86 = some 1 := id rfl
@[simp] theorem bytes86 : J.bytes 86 = some 8 := id rfl
@[simp] theorem zero86 : J.zero 86 = some (.agg #[(.int .i64 0)]) := id rfl
@[simp] theorem agg86 : isAggT J 86 = some true := id rfl
@[simp] theorem fa86_0 (a : Addr) : ifieldAddr J 86 (.pointer (some a)) 0 = some (.pointer (some (a.add 0))) := id rfl
@[simp] theorem size88 : J.size 88 = some 2 := id rfl
@[simp] theorem bytes88 : J.bytes 88 = some 32 := id rfl
@[simp] theorem zero88 : J.zero 88 = some (.agg #[(.bool false), (.slice none 0 0)]) := id rfl
@[simp] theorem agg88 : isAggT J 88 = some true := id rfl
@[simp] theorem fa88_0 (a : Addr) : ifieldAddr J 88 (.pointer (some a)) 0 = some (.pointer (some (a.add 0))) := id rfl
@[simp] theorem fa88_1 (a : Addr) : ifieldAddr J 88 (.pointer (some a)) 1 = some (.pointer (some (a.add 1))) := id rfl
@[simp] theorem size90 : J.size 90 = some 3 := id rfl
@[simp] theorem bytes90 : J.bytes 90 = some 48 := id rfl
@[simp] theorem zero90 : J.zero 90 = some (.agg #[(.int .i64 0), (.slice none 0 0), (.string ⟨#[]⟩)]) := id rfl
@[simp] theorem agg90 : isAggT J 90 = some true := id rfl
@[simp] theorem fa90_0 (a : Addr) : ifieldAddr J 90 (.pointer (some a)) 0 = some (.pointer (some (a.add 0))) := id rfl
@[simp] theorem fa90_1 (a : Addr) : ifieldAddr J 90 (.pointer (some a)) 1 = some (.pointer (some (a.add 1))) := id rfl
@[simp] theorem fa90_2 (a : Addr) : ifieldAddr J 90 (.pointer (some a)) 2 = some (.pointer (some (a.add 2))) := id rfl
@[simp] theorem und92 : J.und 92 = some (.pointer 94) := id rfl
@[simp] theorem size92 : J.size 92 = some 1 := id rfl
@[simp] theorem bytes92 : J.bytes 92 = some 8 := id rfl
@[simp] theorem zero92 : J.zero 92 = some (.pointer none) := id rfl
@[simp] theorem agg92 : isAggT J 92 = some false := id rfl
@[simp] theorem size94 : J.size 94 = some 1 := id rfl
@[simp] theorem bytes94 : J.bytes 94 = some 24 := id rfl
@[simp] theorem zero94 : J.zero 94 = some (.agg #[(.slice none 0 0)]) := id rfl
@[simp] theorem agg94 : isAggT J 94 = some true := id rfl
@[simp] theorem fa94_0 (a : Addr) : ifieldAddr J 94 (.pointer (some a)) 0 = some (.pointer (some (a.add 0))) := id rfl
@[simp] theorem und104 : J.und 104 = some (.pointer 106) := id rfl
@[simp] theorem size104 : J.size 104 = some 1 := id rfl
@[simp] theorem bytes104 : J.bytes 104 = some 8 := id rfl
@[simp] theorem zero104 : J.zero 104 = some (.pointer none) := id rfl
@[simp] theorem agg104 : isAggT J 104 = some false := id rfl
@[simp] theorem size106 : J.size 106 = some 3 := id rfl
@[simp] theorem bytes106 : J.bytes 106 = some 40 := id rfl
@[simp] theorem zero106 : J.zero 106 = some (.agg #[(.slice none 0 0), (.int .i64 0), (.bool false)]) := id rfl
@[simp] theorem agg106 : isAggT J 106 = some true := id rfl
@[simp] theorem fa106_0 (a : Addr) : ifieldAddr J 106 (.pointer (some a)) 0 = some (.pointer (some (a.add 0))) := id rfl
@[simp] theorem fa106_1 (a : Addr) : ifieldAddr J 106 (.pointer (some a)) 1 = some (.pointer (some (a.add 1))) := id rfl
@[simp] theorem fa106_2 (a : Addr) : ifieldAddr J 106 (.pointer (some a)) 2 = some (.pointer (some (a.add 2))) := id rfl
@[simp] theorem und117 : J.und 117 = some (.pointer 121) := id rfl
@[simp] theorem size117 : J.size 117 = some 1 := id rfl
@[simp] theorem bytes117 : J.bytes 117 = some 8 := id rfl
@[simp] theorem zero117 : J.zero 117 = some (.pointer none) := id rfl
@[simp] theorem agg117 : isAggT J 117 = some false := id rfl
@[simp] theorem und118 : J.und 118 = some (.slice 207) := id rfl
@[simp] theorem size118 : J.size 118 = some 1 := id rfl
@[simp] theorem bytes118 : J.bytes 118 = some 24 := id rfl
@[simp] theorem zero118 : J.zero 118 = some (.slice none 0 0) := id rfl
@[simp] theorem agg118 : isAggT J 118 = some false := id rfl
@[simp] theorem und119 : J.und 119 = some (.slice 153) := id rfl
@[simp] theorem size119 : J.size 119 = some 1 := id rfl
@[simp] theorem bytes119 : J.bytes 119 = some 24 := id rfl
@[simp] theorem zero119 : J.zero 119 = some (.slice none 0 0) := id rfl
@[simp] theorem agg119 : isAggT J 119 = some false := id rfl
@[simp] theorem size121 : J.size 121 = some 22 := id rfl
@[simp] theorem bytes121 : J.bytes 121 = some 344 := id rfl
@[simp] theorem zero121 : J.zero 121 = some (.agg #[(.slice none 0 0), (.slice none 0 0), (.slice none 0 0), (.slice none 0 0), (.slice none 0 0), (.int .i64 0), (.int .i64 0), (.slice none 0 0), (.int .i64 0), (.int .i64 0), (.int .i64 0), (.slice none 0 0), (.slice none 0 0), (.slice none 0 0), (.int .i64 0), (.int .i64 0), (.int .i64 0), (.int .i64 0), (.slice none 0 0), (.string ⟨#[]⟩), (.int .i64 0), (.int .i64 0)]) := id rfl
@[simp] theorem agg121 : isAggT J 121 = some true := id rfl
@[simp] theorem fa121_0 (a : Addr) : ifieldAddr J 121 (.pointer (some a)) 0 = some (.pointer (some (a.add 0))) := id rfl
@[simp] theorem fa121_1 (a : Addr) : ifieldAddr J 121 (.pointer (some a)) 1 = some (.pointer (some (a.add 7))) := id rfl
@[simp] theorem fa121_2 (a : Addr) : ifieldAddr J 121 (.pointer (some a)) 2 = some (.pointer (some (a.add 12))) := id rfl
@[simp] theorem fa121_3 (a : Addr) : ifieldAddr J 121 (.pointer (some a)) 3 = some (.pointer (some (a.add 13))) := id rfl
@[simp] theorem fa121_4 (a : Addr) : ifieldAddr J 121 (.pointer (some a)) 4 = some (.pointer (some (a.add 14))) := id rfl
@[simp] theorem fa121_5 (a : Addr) : ifieldAddr J 121 (.pointer (some a)) 5 = some (.pointer (some (a.add 15))) := id rfl
@[simp] theorem fa121_6 (a : Addr) : ifieldAddr J 121 (.pointer (some a)) 6 = some (.pointer (some (a.add 16))) := id rfl
@[simp] theorem fa121_7 (a : Addr) : ifieldAddr J 121 (.pointer (some a)) 7 = some (.pointer (some (a.add 17))) := id rfl
@[simp] theorem und125 : J.und 125 = some (.slice 127) := id rfl
@[simp] theorem size125 : J.size 125 = some 1 := id rfl
@[simp] theorem bytes125 : J.bytes 125 = some 24 := id rfl
@[simp] theorem zero125 : J.zero 125 = some (.slice none 0 0) := id rfl
@[simp] theorem agg125 : isAggT J 125 = some false := id rfl
@[simp] theorem size127 : J.size 127 = some 2 := id rfl
@[simp] theorem bytes127 : J.bytes 127 = some 16 := id rfl
@[simp] theorem zero127 : J.zero 127 = some (.agg #[(.int .i64 0), (.int .i64 0)]) := id rfl
@[simp] theorem agg127 : isAggT J 127 = some true := id rfl
@[simp] theorem fa127_0 (a : Addr) : ifieldAddr J 127 (.pointer (some a)) 0 = some (.pointer (some (a.add 0))) := id rfl
@[simp] theorem fa127_1 (a : Addr) : ifieldAddr J 127 (.pointer (some a)) 1 = some (.pointer (some (a.add 1))) := id rfl
@[simp] theorem und128 : J.und 128 = some (.tuple #[81, 72]) := id rfl
@[simp] theorem size128 : J.size 128 = some 1 := id rfl
@[simp] theorem bytes128 : J.bytes 128 = some 0 := id rfl
@[simp] theorem zero128 : J.zero 128 = some (.tuple #[(.pointer none), (.int .i64 0)]) := id rfl
@[simp] theorem agg128 : isAggT J 128 = some false := id rfl
@[simp] theorem und131 : J.und 131 = some (.pointer 138) := id rfl
@[simp] theorem size131 : J.size 131 = some 1 := id rfl
@[simp] theorem bytes131 : J.bytes 131 = some 8 := id rfl
@[simp] theorem zero131 : J.zero 131 = some (.pointer none) := id rfl
@[simp] theorem agg131 : isAggT J 131 = some false := id rfl
@[simp] theorem und133 : J.und 133 = some (.pointer 59) := id rfl
@[simp] theorem size133 : J.size 133 = some 1 := id rfl
@[simp] theorem bytes133 : J.bytes 133 = some 8 := id rfl
@[simp] theorem zero133 : J.zero 133 = some (.pointer none) := id rfl
@[simp] theorem agg133 : isAggT J 133 = some false := id rfl
@[simp] theorem size135 : J.size 135 = some 3 := id rfl
@[simp] theorem bytes135 : J.bytes 135 = some 24 := id rfl
@[simp] theorem zero135 : J.zero 135 = some (.agg #[(.pointer none), (.int .i64 0), (.int .i64 0)]) := id rfl
@[simp] theorem agg135 : isAggT J 135 = some true := id rfl
@[simp] theorem fa135_0 (a : Addr) : ifieldAddr J 135 (.pointer (some a)) 0 = some (.pointer (some (a.add 0))) := id rfl
@[simp] theorem fa135_1 (a : Addr) : ifieldAddr J 135 (.pointer (some a)) 1 = some (.pointer (some (a.add 1))) := id rfl
@[simp] theorem fa135_2 (a : Addr) : ifieldAddr J 135 (.pointer (some a)) 2 = some (.pointer (some (a.add 2))) := id rfl
@[simp] theorem und136 : J.und 136 = some (.slice 62) := id rfl
@[simp] theorem size136 : J.size 136 = some 1 := id rfl
@[simp] theorem bytes136 : J.bytes 136 = some 24 := id rfl
@[simp] theorem zero136 : J.zero 136 = some (.slice none 0 0) := id rfl
@[simp] theorem agg136 : isAggT J 136 = some false := id rfl
@[simp] theorem size138 : J.size 138 = some 4 := id rfl
@[simp] theorem bytes138 : J.bytes 138 = some 48 := id rfl
@[simp] theorem zero138 : J.zero 138 = some (.agg #[(.pointer none), (.int .i64 0), (.int .i64 0), (.slice none 0 0)]) := id rfl
@[simp] theorem agg138 : isAggT J 138 = some true := id rfl
@[simp] theorem fa138_0 (a : Addr) : ifieldAddr J 138 (.pointer (some a)) 0 = some (.pointer (some (a.add 0))) := id rfl
@[simp] theorem fa138_1 (a : Addr) : ifieldAddr J 138 (.pointer (some a)) 1 = some (.pointer (some (a.add 3))) := id rfl
@[simp] theorem und139 : J.und 139 = some (.pointer 30) := id rfl
@[simp] theorem size139 : J.size 139 = some 1 := id rfl
@[simp] theorem bytes139 : J.bytes 139 = some 8 := id rfl
@[simp] theorem zero139 : J.zero 139 = some (.pointer none) := id rfl
@[simp] theorem agg139 : isAggT J 139 = some false := id rfl
@[simp] theorem und151 : J.und 151 = some (.slice 155) := id rfl
@[simp] theorem size151 : J.size 151 = some 1 := id rfl
@[simp] theorem bytes151 : J.bytes 151 = some 24 := id rfl
@[simp] theorem zero151 : J.zero 151 = some (.slice none 0 0) := id rfl
@[simp] theorem agg151 : isAggT J 151 = some false := id rfl
@[simp] theorem size153 : J.size 153 = some 4 := id rfl
@[simp] theorem bytes153 : J.bytes 153 = some 48 := id rfl
@[simp] theorem zero153 : J.zero 153 = some (.agg #[(.int .i64 0), (.int .i64 0), (.int .i64 0), (.slice none 0 0)]) := id rfl
@[simp] theorem agg153 : isAggT J 153 = some true := id rfl
@[simp] theorem fa153_0 (a : Addr) : ifieldAddr J 153 (.pointer (some a)) 0 = some (.pointer (some (a.add 0))) := id rfl
@[simp] theorem fa153_1 (a : Addr) : ifieldAddr J 153 (.pointer (some a)) 1 = some (.pointer (some (a.add 1))) := id rfl
@[simp] theorem fa153_2 (a : Addr) : ifieldAddr J 153 (.pointer (some a)) 2 = some (.pointer (some (a.add 2))) := id rfl
@[simp] theorem fa153_3 (a : Addr) : ifieldAddr J 153 (.pointer (some a)) 3 = some (.pointer (some (a.add 3))) := id rfl
@[simp] theorem size155 : J.size 155 = some 3 := id rfl
@[simp] theorem bytes155 : J.bytes 155 = some 24 := id rfl
@[simp] theorem zero155 : J.zero 155 = some (.agg #[(.bool false), (.int .i64 0), (.int .i64 0)]) := id rfl
@[simp] theorem agg155 : isAggT J 155 = some true := id rfl
@[simp] theorem fa155_0 (a : Addr) : ifieldAddr J 155 (.pointer (some a)) 0 = some (.pointer (some (a.add 0))) := id rfl
@[simp] theorem fa155_1 (a : Addr) : ifieldAddr J 155 (.pointer (some a)) 1 = some (.pointer (some (a.add 1))) := id rfl
@[simp] theorem fa155_2 (a : Addr) : ifieldAddr J 155 (.pointer (some a)) 2 = some (.pointer (some (a.add 2))) := id rfl
@[simp] theorem und157 : J.und 157 = some (.pointer 153) := id rfl
@[simp] theorem size157 : J.size 157 = some 1 := id rfl
@[simp] theorem bytes157 : J.bytes 157 = some 8 := id rfl
@[simp] theorem zero157 : J.zero 157 = some (.pointer none) := id rfl
@[simp] theorem agg157 : isAggT J 157 = some false := id rfl
@[simp] theorem und163 : J.und 163 = some (.slice 165) := id rfl
@[simp] theorem size163 : J.size 163 = some 1 := id rfl
@[simp] theorem bytes163 : J.bytes 163 = some 24 := id rfl
@[simp] theorem zero163 : J.zero 163 = some (.slice none 0 0) := id rfl
@[simp] theorem agg163 : isAggT J 163 = some false := id rfl
@[simp] theorem size165 : J.size 165 = some 3 := id rfl
@[simp] theorem bytes165 : J.bytes 165 = some 40 := id rfl
@[simp] theorem zero165 : J.zero 165 = some (.agg #[(.bool false), (.slice none 0 0), (.bool false)]) := id rfl
@[simp] theorem agg165 : isAggT J 165 = some true := id rfl
@[simp] theorem fa165_0 (a : Addr) : ifieldAddr J 165 (.pointer (some a)) 0 = some (.pointer (some (a.add 0))) := id rfl
@[simp] theorem fa165_1 (a : Addr) : ifieldAddr J 165 (.pointer (some a)) 1 = some (.pointer (some (a.add 2))) := id rfl
@[simp] theorem und168 : J.und 168 = some (.tuple #[163, 4]) := id rfl
@[simp] theorem size168 : J.size 168 = some 1 := id rfl
@[simp] theorem bytes168 : J.bytes 168 = some 0 := id rfl
@[simp] theorem zero168 : J.zero 168 = some (.tuple #[(.slice none 0 0), (.bool false)]) := id rfl
@[simp] theorem agg168 : isAggT J 168 = some false := id rfl
@[simp] theorem size171 : J.size 171 = some 4 := id rfl
@[simp] theorem bytes171 : J.bytes 171 = some 80 := id rfl
@[simp] theorem zero171 : J.zero 171 = some (.agg #[(.slice none 0 0), (.slice none 0 0), (.slice none 0 0), (.int .i64 0)]) := id rfl
@[simp] theorem agg171 : isAggT J 171 = some true := id rfl
@[simp] theorem fa171_0 (a : Addr) : ifieldAddr J 171 (.pointer (some a)) 0 = some (.pointer (some (a.add 0))) := id rfl
@[simp] theorem fa171_1 (a : Addr) : ifieldAddr J 171 (.pointer (some a)) 1 = some (.pointer (some (a.add 1))) := id rfl
@[simp] theorem fa171_2 (a : Addr) : ifieldAddr J 171 (.pointer (some a)) 2 = some (.pointer (some (a.add 2))) := id rfl
@[simp] theorem fa171_3 (a : Addr) : ifieldAddr J 171 (.pointer (some a)) 3 = some (.pointer (some (a.add 3))) := id rfl
@[simp] theorem und175 : J.und 175 = some (.pointer 62) := id rfl
@[simp] theorem size175 : J.size 175 = some 1 := id rfl
@[simp] theorem bytes175 : J.bytes 175 = some 8 := id rfl
@[simp] theorem zero175 : J.zero 175 = some (.pointer none) := id rfl
@[simp] theorem agg175 : isAggT J 175 = some false := id rfl
@[simp] theorem und193 : J.und 193 = some (.pointer 3) := id rfl
@[simp] theorem size193 : J.size 193 = some 1 := id rfl
@[simp] theorem bytes193 : J.bytes 193 = some 8 := id rfl
@[simp] theorem zero193 : J.zero 193 = some (.pointer none) := id rfl
@[simp] theorem agg193 : isAggT J 193 = some false := id rfl
@[simp] theorem und195 : J.und 195 = some (.pointer 28) := id rfl
@[simp] theorem size195 : J.size 195 = some 1 := id rfl
@[simp] theorem bytes195 : J.bytes 195 = some 8 := id rfl
@[simp] theorem zero195 : J.zero 195 = some (.pointer none) := id rfl
@[simp] theorem agg195 : isAggT J 195 = some false := id rfl
@[simp] theorem und202 : J.und 202 = some (.tuple #[2, 3, 4]) := id rfl
@[simp] theorem size202 : J.size 202 = some 1 := id rfl
@[simp] theorem bytes202 : J.bytes 202 = some 0 := id rfl
@[simp] theorem zero202 : J.zero 202 = some (.tuple #[(.int .i64 0), (.int .i64 0), (.bool false)]) := id rfl
@[simp] theorem agg202 : isAggT J 202 = some false := id rfl
@[simp] theorem size207 : J.size 207 = some 3 := id rfl
@[simp] theorem bytes207 : J.bytes 207 = some 56 := id rfl
@[simp] theorem zero207 : J.zero 207 = some (.agg #[(.int .i64 0), (.slice none 0 0), (.slice none 0 0)]) := id rfl
@[simp] theorem agg207 : isAggT J 207 = some true := id rfl
@[simp] theorem fa207_0 (a : Addr) : ifieldAddr J 207 (.pointer (some a)) 0 = some (.pointer (some (a.add 0))) := id rfl
@[simp] theorem fa207_1 (a : Addr) : ifieldAddr J 207 (.pointer (some a)) 1 = some (.pointer (some (a.add 1))) := id rfl
@[simp] theorem fa207_2 (a : Addr) : ifieldAddr J 207 (.pointer (some a)) 2 = some (.pointer (some (a.add 2))) := id rfl
@[simp] theorem und219 : J.und 219 = some (.tuple #[88, 4, 4]) := id rfl
@[simp] theorem size219 : J.size 219 = some 1 := id rfl
@[simp] theorem bytes219 : J.bytes 219 = some 0 := id rfl
@[simp] theorem zero219 : J.zero 219 = some (.tuple #[(.agg #[(.bool false), (.slice none 0 0)]), (.bool false), (.bool false)]) := id rfl
@[simp] theorem agg219 : isAggT J 219 = some false := id rfl
@[simp] theorem und222 : J.und 222 = some (.tuple #[88, 4]) := id rfl
@[simp] theorem size222 : J.size 222 = some 1 := id rfl
@[simp] theorem bytes222 : J.bytes 222 = some 0 := id rfl
@[simp] theorem zero222 : J.zero 222 = some (.tuple #[(.agg #[(.bool false), (.slice none 0 0)]), (.bool false)]) := id rfl
@[simp] theorem agg222 : isAggT J 222 = some false := id rfl
@[simp] theorem und227 : J.und 227 = some (.tuple #[3, 72]) := id rfl
@[simp] theorem size227 : J.size 227 = some 1 := id rfl
@[simp] theorem bytes227 : J.bytes 227 = some 0 := id rfl
@[simp] theorem zero227 : J.zero 227 = some (.tuple #[(.int .i64 0), (.int .i64 0)]) := id rfl
@[simp] theorem agg227 : isAggT J 227 = some false := id rfl
@[simp] theorem und231 : J.und 231 = some (.tuple #[3, 136]) := id rfl
@[simp] theorem size231 : J.size 231 = some 1 := id rfl
@[simp] theorem bytes231 : J.bytes 231 = some 0 := id rfl
@[simp] theorem zero231 : J.zero 231 = some (.tuple #[(.int .i64 0), (.slice none 0 0)]) := id rfl
@[simp] theorem agg231 : isAggT J 231 = some false := id rfl
@[simp] theorem und235 : J.und 235 = some (.tuple #[3, 3]) := id rfl
@[simp] theorem size235 : J.size 235 = some 1 := id rfl
@[simp] theorem bytes235 : J.bytes 235 = some 0 := id rfl
@[simp] theorem zero235 : J.zero 235 = some (.tuple #[(.int .i64 0), (.int .i64 0)]) := id rfl
@[simp] theorem agg235 : isAggT J 235 = some false := id rfl
@[simp] theorem und237 : J.und 237 = some (.tuple #[5, 72]) := id rfl
@[simp] theorem size237 : J.size 237 = some 1 := id rfl
@[simp] theorem bytes237 : J.bytes 237 = some 0 := id rfl
@[simp] theorem zero237 : J.zero 237 = some (.tuple #[(.int .u8 0), (.int .i64 0)]) := id rfl
@[simp] theorem agg237 : isAggT J 237 = some false := id rfl
@[simp] theorem und240 : J.und 240 = some (.tuple #[9, 72]) := id rfl
@[simp] theorem size240 : J.size 240 = some 1 := id rfl
@[simp] theorem bytes240 : J.bytes 240 = some 0 := id rfl
@[simp] theorem zero240 : J.zero 240 = some (.tuple #[(.string ⟨#[]⟩), (.int .i64 0)]) := id rfl
@[simp] theorem agg240 : isAggT J 240 = some false := id rfl
@[simp] theorem und244 : J.und 244 = some (.tuple #[62, 72]) := id rfl
@[simp] theorem size244 : J.size 244 = some 1 := id rfl
@[simp] theorem bytes244 : J.bytes 244 = some 0 := id rfl
@[simp] theorem zero244 : J.zero 244 = some (.tuple #[(.int .u64 0), (.int .i64 0)]) := id rfl
@[simp] theorem agg244 : isAggT J 244 = some false := id rfl
@[simp] theorem und246 : J.und 246 = some (.slice 22) := id rfl
@[simp] theorem size246 : J.size 246 = some 1 := id rfl
@[simp] theorem bytes246 : J.bytes 246 = some 24 := id rfl
@[simp] theorem zero246 : J.zero 246 = some (.slice none 0 0) := id rfl
@[simp] theorem agg246 : isAggT J 246 = some false := id rfl
@[simp] theorem und249 : J.und 249 = some (.slice 23) := id rfl
@[simp] theorem size249 : J.size 249 = some 1 := id rfl
@[simp] theorem bytes249 : J.bytes 249 = some 24 := id rfl
@[simp] theorem zero249 : J.zero 249 = some (.slice none 0 0) := id rfl
@[simp] theorem agg249 : isAggT J 249 = some false := id rfl
@[simp] theorem und252 : J.und 252 = some (.slice 24) := id rfl
@[simp] theorem size252 : J.size 252 = some 1 := id rfl
@[simp] theorem bytes252 : J.bytes 252 = some 24 := id rfl
@[simp] theorem zero252 : J.zero 252 = some (.slice none 0 0) := id rfl
@[simp] theorem agg252 : isAggT J 252 = some false := id rfl
@[simp] theorem und255 : J.und 255 = some (.slice 25) := id rfl
@[simp] theorem size255 : J.size 255 = some 1 := id rfl
@[simp] theorem bytes255 : J.bytes 255 = some 24 := id rfl
@[simp] theorem zero255 : J.zero 255 = some (.slice none 0 0) := id rfl
@[simp] theorem agg255 : isAggT J 255 = some false := id rfl
@[simp] theorem und260 : J.und 260 = some (.slice 28) := id rfl
@[simp] theorem size260 : J.size 260 = some 1 := id rfl
@[simp] theorem bytes260 : J.bytes 260 = some 24 := id rfl
@[simp] theorem zero260 : J.zero 260 = some (.slice none 0 0) := id rfl
@[simp] theorem agg260 : isAggT J 260 = some false := id rfl
@[simp] theorem und262 : J.und 262 = some (.slice 57) := id rfl
@[simp] theorem size262 : J.size 262 = some 1 := id rfl
@[simp] theorem bytes262 : J.bytes 262 = some 24 := id rfl
@[simp] theorem zero262 : J.zero 262 = some (.slice none 0 0) := id rfl
@[simp] theorem agg262 : isAggT J 262 = some false := id rfl
@[simp] theorem und265 : J.und 265 = some (.tuple #[2, 2, 4]) := id rfl
@[simp] theorem size265 : J.size 265 = some 1 := id rfl
@[simp] theorem bytes265 : J.bytes 265 = some 0 := id rfl
@[simp] theorem zero265 : J.zero 265 = some (.tuple #[(.int .i64 0), (.int .i64 0), (.bool false)]) := id rfl
@[simp] theorem agg265 : isAggT J 265 = some false := id rfl
@[simp] theorem und272 : J.und 272 = some (.tuple #[28, 4]) := id rfl
@[simp] theorem size272 : J.size 272 = some 1 := id rfl
@[simp] theorem bytes272 : J.bytes 272 = some 0 := id rfl
@[simp] theorem zero272 : J.zero 272 = some (.tuple #[(.slice none 0 0), (.bool false)]) := id rfl
@[simp] theorem agg272 : isAggT J 272 = some false := id rfl
@[simp] theorem und287 : J.und 287 = some (.tuple #[136, 72]) := id rfl
@[simp] theorem size287 : J.size 287 = some 1 := id rfl
@[simp] theorem bytes287 : J.bytes 287 = some 0 := id rfl
@[simp] theorem zero287 : J.zero 287 = some (.tuple #[(.slice none 0 0), (.int .i64 0)]) := id rfl
@[simp] theorem agg287 : isAggT J 287 = some false := id rfl
@[simp] theorem und290 : J.und 290 = some (.pointer 294) := id rfl
@[simp] theorem size290 : J.size 290 = some 1 := id rfl
@[simp] theorem bytes290 : J.bytes 290 = some 8 := id rfl
@[simp] theorem zero290 : J.zero 290 = some (.pointer none) := id rfl
@[simp] theorem agg290 : isAggT J 290 = some false := id rfl
@[simp] theorem und291 : J.und 291 = some (.tuple #[290, 72]) := id rfl
@[simp] theorem size291 : J.size 291 = some 1 := id rfl
@[simp] theorem bytes291 : J.bytes 291 = some 0 := id rfl
@[simp] theorem zero291 : J.zero 291 = some (.tuple #[(.pointer none), (.int .i64 0)]) := id rfl
@[simp] theorem agg291 : isAggT J 291 = some false := id rfl
@[simp] theorem size294 : J.size 294 = some 3 := id rfl
@[simp] theorem bytes294 : J.bytes 294 = some 40 := id rfl
@[simp] theorem zero294 : J.zero 294 = some (.agg #[(.pointer none), (.slice none 0 0), (.int .i64 0)]) := id rfl
@[simp] theorem agg294 : isAggT J 294 = some true := id rfl
@[simp] theorem fa294_0 (a : Addr) : ifieldAddr J 294 (.pointer (some a)) 0 = some (.pointer (some (a.add 0))) := id rfl
@[simp] theorem fa294_1 (a : Addr) : ifieldAddr J 294 (.pointer (some a)) 1 = some (.pointer (some (a.add 1))) := id rfl
@[simp] theorem fa294_2 (a : Addr) : ifieldAddr J 294 (.pointer (some a)) 2 = some (.pointer (some (a.add 2))) := id rfl
@[simp] theorem hb3 : hasBody J 3 = true := id rfl
@[simp] theorem hb4 : hasBody J 4 = true := id rfl
@[simp] theorem hb5 : hasBody J 5 = true := id rfl
@[simp] theorem hb6 : hasBody J 6 = true := id rfl
@[simp] theorem hb7 : hasBody J 7 = true := id rfl
@[simp] theorem hb8 : hasBody J 8 = true := id rfl
@[simp] theorem hb9 : hasBody J 9 = true := id rfl
@[simp] theorem hb10 : hasBody J 10 = true := id rfl
@[simp] theorem hb11 : hasBody J 11 = true := id rfl
@[simp] theorem hb12 : hasBody J 12 = true := id rfl
@[simp] theorem hb13 : hasBody J 13 = true := id rfl
@[simp] theorem hb14 : hasBody J 14 = true := id rfl
@[simp] theorem hb15 : hasBody J 15 = true := id rfl
@[simp] theorem hb16 : hasBody J 16 = true := id rfl
@[simp] theorem hb17 : hasBody J 17 = true := id rfl
@[simp] theorem hb18 : hasBody J 18 = true := id rfl
@[simp] theorem hb19 : hasBody J 19 = true := id rfl
@[simp] theorem hb20 : hasBody J 20 = true := id rfl
@[simp] theorem hb21 : hasBody J 21 = true := id rfl
@[simp] theorem hb22 : hasBody J 22 = true := id rfl
@[simp] theorem hb23 : hasBody J 23 = true := id rfl
@[simp] theorem hb24 : hasBody J 24 = true := id rfl
@[simp] theorem hb25 : hasBody J 25 = true := id rfl
@[simp] theorem hb26 : hasBody J 26 = true := id rfl
@[simp] theorem hb27 : hasBody J 27 = true := id rfl
@[simp] theorem hb28 : hasBody J 28 = true := id rfl
@[simp] theorem hb29 : hasBody J 29 = true := id rfl
@[simp] theorem hb30 : hasBody J 30 = true := id rfl
@[simp] theorem hb31 : hasBody J 31 = true := id rfl
@[simp] theorem hb32 : hasBody J 32 = true := id rfl
@[simp] theorem hb33 : hasBody J 33 = true := id rfl
@[simp] theorem hb34 : hasBody J 34 = true := id rfl
@[simp] theorem hb35 : hasBody J 35 = true := id rfl
@[simp] theorem hb36 : hasBody J 36 = true := id rfl
@[simp] theorem hb37 : hasBody J 37 = true := id rfl
@[simp] theorem hb38 : hasBody J 38 = true := id rfl
@[simp] theorem hb39 : hasBody J 39 = true := id rfl
@[simp] theorem hb40 : hasBody J 40 = true := id rfl
@[simp] theorem hb41 : hasBody J 41 = true := id rfl
@[simp] theorem hb42 : hasBody J 42 = true := id rfl
@[simp] theorem hb43 : hasBody J 43 = true := id rfl
@[simp] theorem hb44 : hasBody J 44 = true := id rfl
@[simp] theorem hb45 : hasBody J 45 = true := id rfl
@[simp] theorem hb46 : hasBody J 46 = true := id rfl
@[simp] theorem hb47 : hasBody J 47 = true := id rfl
@[simp] theorem hb48 : hasBody J 48 = true := id rfl
@[simp] theorem hb49 : hasBody J 49 = true := id rfl
@[simp] theorem hb50 : hasBody J 50 = true := id rfl
@[simp] theorem hb51 : hasBody J 51 = true := id rfl
@[simp] theorem hb52 : hasBody J 52 = true := id rfl
@[simp] theorem hb53 : hasBody J 53 = true := id rfl
@[simp] theorem hb54 : hasBody J 54 = true := id rfl
@[simp] theorem hb55 : hasBody J 55 = true := id rfl
@[simp] theorem hb56 : hasBody J 56 = true := id rfl
@[simp] theorem hb57 : hasBody J 57 = true := id rfl
@[simp] theorem hb58 : hasBody J 58 = true := id rfl
@[simp] theorem hb59 : hasBody J 59 = true := id rfl
@[simp] theorem hb60 : hasBody J 60 = true := id rfl
@[simp] theorem hb61 : hasBody J 61 = true := id rfl
@[simp] theorem hb62 : hasBody J 62 = true := id rfl
@[simp] theorem hb63 : hasBody J 63 = true := id rfl
@[simp] theorem hb64 : hasBody J 64 = true := id rfl
@[simp] theorem hb65 : hasBody J 65 = true := id rfl
@[simp] theorem hb66 : hasBody J 66 = true := id rfl
@[simp] theorem hb67 : hasBody J 67 = true := id rfl
@[simp] theorem hb68 : hasBody J 68 = true := id rfl
@[simp] theorem hb69 : hasBody J 69 = true := id rfl
@[simp] theorem hb70 : hasBody J 70 = true := id rfl
@[simp] theorem hb71 : hasBody J 71 = true := id rfl
@[simp] theorem hb72 : hasBody J 72 = true := id rfl
@[simp] theorem hb73 : hasBody J 73 = true := id rfl
@[simp] theorem hb74 : hasBody J 74 = true := id rfl
@[simp] theorem hb75 : hasBody J 75 = true := id rfl
@[simp] theorem hb76 : hasBody J 76 = true := id rfl
@[simp] theorem hb77 : hasBody J 77 = true := id rfl
@[simp] theorem hb78 : hasBody J 78 = true := id rfl
@[simp] theorem hb79 : hasBody J 79 = true := id rfl
@[simp] theorem hb80 : hasBody J 80 = true := id rfl
@[simp] theorem hb81 : hasBody J 81 = true := id rfl
@[simp] theorem hb82 : hasBody J 82 = true := id rfl
@[simp] theorem hb83 : hasBody J 83 = true := id rfl
@[simp] theorem hb84 : hasBody J 84 = true := id rfl
@[simp] theorem hb85 : hasBody J 85 = true := id rfl
@[simp] theorem hb86 : hasBody J 86 = true := id rfl
@[simp] theorem hb87 : hasBody J 87 = true := id rfl
@[simp] theorem hb88 : hasBody J 88 = true := id rfl
@[simp] theorem hb89 : hasBody J 89 = true := id rfl
@[simp] theorem hb90 : hasBody J 90 = true := id rfl
@[simp] theorem hb91 : hasBody J 91 = true := id rfl
@[simp] theorem hb92 : hasBody J 92 = true := id rfl
@[simp] theorem hb93 : hasBody J 93 = true := id rfl
@[simp] theorem hb94 : hasBody J 94 = true := id rfl
@[simp] theorem hb95 : hasBody J 95 = true := id rfl
@[simp] theorem hb96 : hasBody J 96 = true := id rfl
@[simp] theorem hb97 : hasBody J 97 = true := id rfl
@[simp] theorem hb98 : hasBody J 98 = true := id rfl
@[simp] theorem hb99 : hasBody J 99 = true := id rfl
@[simp] theorem hb100 : hasBody J 100 = true := id rfl
@[simp] theorem hb101 : hasBody J 101 = true := id rfl
@[simp] theorem hb102 : hasBody J 102 = true := id rfl
@[simp] theorem hb103 : hasBody J 103 = true := id rfl
@[simp] theorem hb104 : hasBody J 104 = true := id rfl
@[simp] theorem hb105 : hasBody J 105 = true := id rfl
@[simp] theorem hb106 : hasBody J 106 = true := id rfl
@[simp] theorem hb107 : hasBody J 107 = true := id rfl
@[simp] theorem hb108 : hasBody J 108 = true := id rfl
@[simp] theorem hb109 : hasBody J 109 = true := id rfl
@[simp] theorem hb110 : hasBody J 110 = true := id rfl
@[simp] theorem hb111 : hasBody J 111 = true := id rfl
@[simp] theorem hb112 : hasBody J 112 = true := id rfl
@[simp] theorem hb113 : hasBody J 113 = true := id rfl
@[simp] theorem hb114 : hasBody J 114 = true := id rfl
@[simp] theorem hb115 : hasBody J 115 = true := id rfl
@[simp] theorem hb116 : hasBody J 116 = true := id rfl
@[simp] theorem hb117 : hasBody J 117 = true := id rfl
@[simp] theorem hb118 : hasBody J 118 = true := id rfl
@[simp] theorem hb119 : hasBody J 119 = true := id rfl
@[simp] theorem hb120 : hasBody J 120 = true := id rfl
@[simp] theorem hb121 : hasBody J 121 = true := id rfl
@[simp] theorem hb122 : hasBody J 122 = true := id rfl
@[simp] theorem hb123 : hasBody J 123 = true := id rfl
@[simp] theorem hb124 : hasBody J 124 = true := id rfl
@[simp] theorem hb125 : hasBody J 125 = true := id rfl
@[simp] theorem hb126 : hasBody J 126 = true := id rfl
@[simp] theorem hb127 : hasBody J 127 = true := id rfl
@[simp] theorem hb128 : hasBody J 128 = true := id rfl
@[simp] theorem hb129 : hasBody J 129 = true := id rfl
@[simp] theorem hb130 : hasBody J 130 = true := id rfl
@[simp] theorem hb131 : hasBody J 131 = true := id rfl
@[simp] theorem hb132 : hasBody J 132 = true := id rfl
@[simp] theorem hb133 : hasBody J 133 = true := id rfl
@[simp] theorem hb134 : hasBody J 134 = true := id rfl
@[simp] theorem hb135 : hasBody J 135 = true := id rfl
@[simp] theorem hb136 : hasBody J 136 = true := id rfl
@[simp] theorem hb137 : hasBody J 137 = true := id rfl
@[simp] theorem hb138 : hasBody J 138 = true := id rfl
@[simp] theorem hb139 : hasBody J 139 = true := id rfl
@[simp] theorem hb140 : hasBody J 140 = true := id rfl
@[simp] theorem hb141 : hasBody J 141 = true := id rfl
@[simp] theorem hb142 : hasBody J 142 = true := id rfl
@[simp] theorem hb143 : hasBody J 143 = true := id rfl
@[simp] theorem hb144 : hasBody J 144 = true := id rfl
@[simp] theorem hb145 : hasBody J 145 = true := id rfl
@[simp] theorem hb146 : hasBody J 146 = true := id rfl
@[simp] theorem hb147 : hasBody J 147 = true := id rfl
@[simp] theorem hb148 : hasBody J 148 = true := id rfl
@[simp] theorem hb149 : hasBody J 149 = true := id rfl
@[simp] theorem hb150 : hasBody J 150 = true := id rfl
@[simp] theorem hb151 : hasBody J 151 = true := id rfl
@[simp] theorem hb152 : hasBody J 152 = true := id rfl
@[simp] theorem hb153 : hasBody J 153 = true := id rfl
@[simp] theorem hb154 : hasBody J 154 = true := id rfl
@[simp] theorem hb155 : hasBody J 155 = true := id rfl
@[simp] theorem hb156 : hasBody J 156 = true := id rfl
@[simp] theorem hb157 : hasBody J 157 = true := id rfl
@[simp] theorem hb158 : hasBody J 158 = true := id rfl
@[simp] theorem hb159 : hasBody J 159 = true := id rfl
@[simp] theorem hb160 : hasBody J 160 = true := id rfl
@[simp] theorem hb161 : hasBody J 161 = true := id rfl
@[simp] theorem hb162 : hasBody J 162 = true := id rfl
@[simp] theorem hb163 : hasBody J 163 = true := id rfl
@[simp] theorem hb164 : hasBody J 164 = true := id rfl
@[simp] theorem hb165 : hasBody J 165 = true := id rfl
@[simp] theorem hb166 : hasBody J 166 = true := id rfl
@[simp] theorem hb167 : hasBody J 167 = true := id rfl
@[simp] theorem hb168 : hasBody J 168 = true := id rfl
@[simp] theorem hb169 : hasBody J 169 = true := id rfl
@[simp] theorem hb170 : hasBody J 170 = true := id rfl
@[simp] theorem hb171 : hasBody J 171 = true := id rfl
@[simp] theorem hb172 : hasBody J 172 = true := id rfl
@[simp] theorem hb173 : hasBody J 173 = true := id rfl
@[simp] theorem hb174 : hasBody J 174 = true := id rfl
@[simp] theorem hb175 : hasBody J 175 = true := id rfl
@[simp] theorem hb176 : hasBody J 176 = true := id rfl
@[simp] theorem hb177 : hasBody J 177 = true := id rfl
@[simp] theorem hb178 : hasBody J 178 = true := id rfl
@[simp] theorem hb179 : hasBody J 179 = true := id rfl
@[simp] theorem hb180 : hasBody J 180 = true := id rfl
@[simp] theorem hb181 : hasBody J 181 = true := id rfl
@[simp] theorem hb182 : hasBody J 182 = true := id rfl
@[simp] theorem hb183 : hasBody J 183 = true := id rfl
@[simp] theorem hb184 : hasBody J 184 = true := id rfl
@[simp] theorem hb185 : hasBody J 185 = true := id rfl
@[simp] theorem hb186 : hasBody J 186 = true := id rfl
@[simp] theorem hb187 : hasBody J 187 = true := id rfl
@[simp] theorem hb188 : hasBody J 188 = true := id rfl
@[simp] theorem hb189 : hasBody J 189 = true := id rfl
@[simp] theorem hb190 : hasBody J 190 = true := id rfl
@[simp] theorem hb191 : hasBody J 191 = true := id rfl
@[simp] theorem hb192 : hasBody J 192 = true := id rfl
@[simp] theorem hb193 : hasBody J 193 = true := id rfl
@[simp] theorem hb194 : hasBody J 194 = true := id rfl
@[simp] theorem hb195 : hasBody J 195 = true := id rfl
@[simp] theorem hb196 : hasBody J 196 = true := id rfl
@[simp] theorem hb197 : hasBody J 197 = true := id rfl
@[simp] theorem hb198 : hasBody J 198 = true := id rfl
@[simp] theorem hb199 : hasBody J 199 = true := id rfl
@[simp] theorem hb200 : hasBody J 200 = true := id rfl
@[simp] theorem hb201 : hasBody J 201 = true := id rfl
@[simp] theorem hb202 : hasBody J 202 = true := id rfl
@[simp] theorem hb203 : hasBody J 203 = true := id rfl
@[simp] theorem hb204 : hasBody J 204 = true := id rfl
@[simp] theorem hb205 : hasBody J 205 = true := id rfl
@[simp] theorem hb206 : hasBody J 206 = true := id rfl
@[simp] theorem hb207 : hasBody J 207 = true := id rfl
@[simp] theorem hb208 : hasBody J 208 = true := id rfl
@[simp] theorem hb209 : hasBody J 209 = true := id rfl
@[simp] theorem hb210 : hasBody J 210 = true := id rfl
@[simp] theorem hb211 : hasBody J 211 = true := id rfl
@[simp] theorem hb212 : hasBody J 212 = true := id rfl
@[simp] theorem hb213 : hasBody J 213 = true := id rfl
@[simp] theorem hb214 : hasBody J 214 = true := id rfl
@[simp] theorem hb215 : hasBody J 215 = true := id rfl
@[simp] theorem hb216 : hasBody J 216 = true := id rfl
@[simp] theorem hb217 : hasBody J 217 = true := id rfl
@[simp] theorem hb218 : hasBody J 218 = true := id rfl
@[simp] theorem hb219 : hasBody J 219 = true := id rfl
@[simp] theorem hb220 : hasBody J 220 = true := id rfl
@[simp] theorem hb221 : hasBody J 221 = true := id rfl
@[simp] theorem hb222 : hasBody J 222 = true := id rfl
@[simp] theorem hb223 : hasBody J 223 = true := id rfl
@[simp] theorem hb224 : hasBody J 224 = true := id rfl
@[simp] theorem hb226 : hasBody J 226 = true := id rfl
@[simp] theorem hb227 : hasBody J 227 = true := id rfl
@[simp] theorem hb228 : hasBody J 228 = true := id rfl
@[simp] theorem hb229 : hasBody J 229 = true := id rfl
@[simp] theorem hb230 : hasBody J 230 = true := id rfl
@[simp] theorem hb231 : hasBody J 231 = true := id rfl
@[simp] theorem hb232 : hasBody J 232 = true := id rfl
@[simp] theorem hb233 : hasBody J 233 = true := id rfl
@[simp] theorem hb234 : hasBody J 234 = true := id rfl
@[simp] theorem hb235 : hasBody J 235 = true := id rfl
@[simp] theorem hb236 : hasBody J 236 = true := id rfl
@[simp] theorem hb237 : hasBody J 237 = true := id rfl
@[simp] theorem hb238 : hasBody J 238 = true := id rfl
@[simp] theorem hb239 : hasBody J 239 = true := id rfl
@[simp] theorem hb240 : hasBody J 240 = true := id rfl
@[simp] theorem hb241 : hasBody J 241 = true := id rfl
@[simp] theorem hb242 : hasBody J 242 = true := id rfl
@[simp] theorem hb243 : hasBody J 243 = true := id rfl
@[simp] theorem hb244 : hasBody J 244 = true := id rfl
@[simp] theorem hb245 : hasBody J 245 = true := id rfl
@[simp] theorem hb246 : hasBody J 246 = true := id rfl
end Go.Proofs.YtchlbfmjnhgpgaaGreat.Idl
namespace Go.Proofs.YtchlbfmjnhgpgaaGreat.Idl
open Go
set_option maxRecDepth 100000
noncomputable section
def D3_1 : List Oper := regOf Tryz.f3 1
@[simp] def A3_1 : List Ann := [a0 (o 5 (.fieldAddr 33 (.tmp 2) 0) 0), a0 (o 6 (.load 27 (.tmp 5)) 27), a0 (o 7 (.fieldAddr 33 (.tmp 2) 1) 0), a0 (o 8 (.load 30 (.tmp 7)) 30), a0 (o 9 (.fieldAddr 33 (.tmp 2) 2) 0), a0 (o 10 (.load 31 (.tmp 9)) 31), al (o 12 (.load 37 (.tmp 3)) 37) [1], ae (o 11 (.call ⟨.value (.func 16), #[.tmp 6, .tmp 8, .tmp 10], #[27, 30, 31]⟩) 27) true, ae (o 13 (.call ⟨.value (.func 15), #[.tmp 11, .tmp 12], #[27, 37]⟩) 4) true, a0 (o 4 (.assign (.tmp 13)) 4)]
def O3_1 : List Oper := A3_1.map (·.o)
@[simp] theorem r3_1 (T : Regs) (H : IH) : run J okAll (.region 1 D3_1.toArray true) T H = annSel J okAll D3_1.toArray T H (eRun J (cal J okAll) O3_1.toArray A3_1 T H 0 []) := r_ann (by kernel_rfl) (by kernel_rfl) 1 T H
def D4_3 : List Oper := regOf Tryz.f4 3
@[simp] def A4_3 : List Ann := [al (o 10 (.load 27 (.tmp 2)) 27) [1], a0 (o 11 (.load 37 (.tmp 3)) 37), ae (o 12 (.call ⟨.value (.func 20), #[.tmp 11], #[37]⟩) 37) false, ae (o 13 (.call ⟨.value (.func 19), #[.tmp 10, .tmp 12], #[27, 37]⟩) 44) false, ae (o 5 (.alloc 44) 0) true, ae (oz (.store 44 (.tmp 5) (.tmp 13)) 0) true]
def O4_3 : List Oper := A4_3.map (·.o)
@[simp] theorem r4_3 (T : Regs) (H : IH) : run J okAll (.region 3 D4_3.toArray true) T H = annSel J okAll D4_3.toArray T H (eRun J (cal J okAll) O4_3.toArray A4_3 T H 0 []) := r_ann (by kernel_rfl) (by kernel_rfl) 3 T H
def D5_6 : List Oper := regOf Tryz.f5 6
@[simp] def A5_6 : List Ann := [al (o 21 (.load 27 (.tmp 3)) 27) [1], a0 (o 22 (.load 37 (.tmp 4)) 37), ae (o 23 (.call ⟨.value (.func 20), #[.tmp 22], #[37]⟩) 37) false, ae (o 24 (.call ⟨.value (.func 19), #[.tmp 21, .tmp 23], #[27, 37]⟩) 44) false, ae (o 8 (.alloc 44) 0) true, ae (oz (.store 44 (.tmp 8) (.tmp 24)) 0) true]
def O5_6 : List Oper := A5_6.map (·.o)
@[simp] theorem r5_6 (T : Regs) (H : IH) : run J okAll (.region 6 D5_6.toArray true) T H = annSel J okAll D5_6.toArray T H (eRun J (cal J okAll) O5_6.toArray A5_6 T H 0 []) := r_ann (by kernel_rfl) (by kernel_rfl) 6 T H
def D5_9 : List Oper := regOf Tryz.f5 9
@[simp] def A5_9 : List Ann := [a0 (o 29 (.fieldAddr 44 (.tmp 7) 4) 0), a0 (o 30 (.load 3 (.tmp 29)) 3), a0 (o 31 (.fieldAddr 44 (.tmp 7) 4) 0), al (o 32 (.load 3 (.tmp 31)) 3) [1], a0 (o 33 (.fieldAddr 44 (.tmp 8) 4) 0), ae (oz (.store 3 (.tmp 33) (.tmp 30)) 0) true, a0 (o 34 (.fieldAddr 44 (.tmp 9) 4) 0), ae (oz (.store 3 (.tmp 34) (.tmp 32)) 0) true]
def O5_9 : List Oper := A5_9.map (·.o)
@[simp] theorem r5_9 (T : Regs) (H : IH) : run J okAll (.region 9 D5_9.toArray true) T H = annSel J okAll D5_9.toArray T H (eRun J (cal J okAll) O5_9.toArray A5_9 T H 0 []) := r_ann (by kernel_rfl) (by kernel_rfl) 9 T H
def D9_10 : List Oper := regOf Tryz.f9 10
@[simp] def A9_10 : List Ann := [a0 (o 33 (.fieldAddr 27 (.tmp 7) 4) 0), al (o 34 (.load 25 (.tmp 33)) 25) [1, 2], a0 (o 35 (.indexAddr 25 (.tmp 34) (xi 0)) 0), a0 (o 36 (.fieldAddr 59 (.tmp 35) 3) 0), al (o 37 (.load 57 (.tmp 36)) 57) [1, 2], a0 (o 38 (.move (.tmp 8)) 54), a0 (o 39 (.build 30 #[(0, xi 1)]) 30), a0 (o 40 (.build 30 #[(0, xi 22)]) 30), ae (o 41 (.buildSlice 54 2 #[(0, .tmp 39), (1, .tmp 40)]) 54) true, ae (o 42 (.call ⟨.builtin .append, #[.tmp 38, .tmp 41], #[54, 54]⟩) 54) true, a0 (o 43 (.indexAddr 57 (.tmp 37) (xi 0)) 0), a0 (o 44 (.fieldAddr 56 (.tmp 43) 1) 0), ae (oz (.store 54 (.tmp 44) (.tmp 42)) 0) true]
def O9_10 : List Oper := A9_10.map (·.o)
@[simp] theorem r9_10 (T : Regs) (H : IH) : run J okAll (.region 10 D9_10.toArray true) T H = annSel J okAll D9_10.toArray T H (eRun J (cal J okAll) O9_10.toArray A9_10 T H 0 []) := r_ann (by kernel_rfl) (by kernel_rfl) 10 T H
def D9_19 : List Oper := regOf Tryz.f9 19
@[simp] def A9_19 : List Ann := [al (o 85 (.load 44 (.tmp 9)) 44) [1, 2, 3, 4], al (o 86 (.load 27 (.tmp 7)) 27) [1, 2, 3], a0 (o 88 (.move (.tmp 0)) 34), a0 (o 90 (.move (.tmp 1)) 34), ae (o 87 (.buildSlice 34 0 #[]) 34) true, ae (o 89 (.call ⟨.builtin .append, #[.tmp 87, .tmp 88], #[34, 34]⟩) 34) true, ae (o 91 (.call ⟨.builtin .append, #[.tmp 89, .tmp 90], #[34, 34]⟩) 34) true, a0 (o 92 (.build 37 #[(0, .tmp 91), (1, xi 500), (3, xi 9)]) 37), ae (o 93 (.call ⟨.value (.func 19), #[.tmp 86, .tmp 92], #[27, 37]⟩) 44) true, ae (o 94 (.call ⟨.value (.func 21), #[.tmp 85, .tmp 93], #[44, 44]⟩) 4) true, a0 (o 95 (.move (.tmp 94)) 4), ae (og 96 (.call ⟨.value (.func 18), #[], #[]⟩) 4 10 true) true, a0 (o 97 (.pick (.tmp 95) (.tmp 96) (.const (.bool false))) 4), a0 (o 6 (.assign (.tmp 97)) 4)]
def O9_19 : List Oper := A9_19.map (·.o)
@[simp] theorem g9_19_10 : (O9_19[10]?).bind (·.dst) = some 95 := id rfl
@[simp] theorem r9_19 (T : Regs) (H : IH) : run J okAll (.region 19 D9_19.toArray true) T H = annSel J okAll D9_19.toArray T H (eRun J (cal J okAll) O9_19.toArray A9_19 T H 0 []) := r_ann (by kernel_rfl) (by kernel_rfl) 19 T H
def D11_14 : List Oper := regOf Tryz.f11 14
@[simp] def A11_14 : List Ann := [a0 (o 88 (.fieldAddr 44 (.tmp 8) 0) 0), a0 (o 89 (.load 3 (.tmp 88)) 3), a0 (o 90 (.binOp .eql 3 (.tmp 89) (xi 1) 3) 4), a0 (o 91 (.move (.tmp 90)) 4), a0 (og 92 (.fieldAddr 44 (.tmp 8) 1) 0 3 true), al (og 93 (.load 34 (.tmp 92)) 34 3 true) [1, 2], al (og 94 (.convert 34 9 (.tmp 93)) 9 3 true) [1, 2], a0 (og 95 (.move (.tmp 10)) 34 3 true), a0 (og 96 (.move (.tmp 0)) 9 3 true), a0 (og 97 (.move (.tmp 1)) 9 3 true), a0 (og 98 (.binOp .add 9 (.tmp 96) (.tmp 97) 9) 9 3 true), a0 (og 99 (.move (.tmp 2)) 2 3 true), a0 (og 100 (.index 9 (.tmp 98) (.tmp 99)) 5 3 true), ae (og 101 (.buildSlice 34 1 #[(0, .tmp 100)]) 34 3 true) true, ae (og 102 (.call ⟨.builtin .append, #[.tmp 95, .tmp 101], #[34, 34]⟩) 34 3 true) true, a0 (og 103 (.convert 34 9 (.tmp 102)) 9 3 true), a0 (og 104 (.binOp .eql 9 (.tmp 94) (.tmp 103) 9) 4 3 true), a0 (o 105 (.pick (.tmp 91) (.tmp 104) (.const (.bool false))) 4), a0 (o 106 (.move (.tmp 105)) 4), a0 (og 107 (.fieldAddr 44 (.tmp 8) 4) 0 18 true), a0 (og 108 (.load 3 (.tmp 107)) 3 18 true), a0 (og 109 (.binOp .eql 3 (.tmp 108) (xi 3) 3) 4 18 true), a0 (o 110 (.pick (.tmp 106) (.tmp 109) (.const (.bool false))) 4), a0 (o 111 (.move (.tmp 110)) 4), ae (og 112 (.call ⟨.value (.func 18), #[], #[]⟩) 4 23 true) true, a0 (o 113 (.pick (.tmp 111) (.tmp 112) (.const (.bool false))) 4), a0 (o 6 (.assign (.tmp 113)) 4)]
def O11_14 : List Oper := A11_14.map (·.o)
@[simp] theorem g11_14_3 : (O11_14[3]?).bind (·.dst) = some 91 := id rfl
@[simp] theorem g11_14_18 : (O11_14[18]?).bind (·.dst) = some 106 := id rfl
@[simp] theorem g11_14_23 : (O11_14[23]?).bind (·.dst) = some 111 := id rfl
@[simp] theorem r11_14 (T : Regs) (H : IH) : run J okAll (.region 14 D11_14.toArray true) T H = annSel J okAll D11_14.toArray T H (eRun J (cal J okAll) O11_14.toArray A11_14 T H 0 []) := r_ann (by kernel_rfl) (by kernel_rfl) 14 T H
def D12_2 : List Oper := regOf Tryz.f12 2
@[simp] def A12_2 : List Ann := [a0 (o 15 (.indexAddr 69 (.tmp 5) (xi 0)) 0), a0 (o 16 (.load 2 (.tmp 15)) 2), a0 (o 18 (.indexAddr 69 (.tmp 5) (xi 1)) 0), al (o 19 (.load 2 (.tmp 18)) 2) [1], ae (o 17 (.call ⟨.value (.func 23), #[.tmp 16], #[2]⟩) 2) true, ae (o 20 (.call ⟨.value (.func 23), #[.tmp 19], #[2]⟩) 2) true, a0 (o 7 (.assign (.tmp 17)) 2), a0 (o 8 (.assign (.tmp 20)) 2)]
def O12_2 : List Oper := A12_2.map (·.o)
@[simp] theorem r12_2 (T : Regs) (H : IH) : run J okAll (.region 2 D12_2.toArray true) T H = annSel J okAll D12_2.toArray T H (eRun J (cal J okAll) O12_2.toArray A12_2 T H 0 []) := r_ann (by kernel_rfl) (by kernel_rfl) 2 T H
def C12 : Code := (.seq (.region 0 #[o 5 (.box 69 (.tmp 2)) 0, o 6 (.assign (.const (.bool false))) 4] false) (.seq (.region 1 #[o 11 (.move (.tmp 0)) 2, o 12 (.call ⟨.value (.func 23), #[.tmp 11], #[2]⟩) 2, o 13 (.move (.tmp 1)) 2, o 14 (.call ⟨.value (.func 23), #[.tmp 13], #[2]⟩) 2, o 0 (.assign (.tmp 12)) 2, o 1 (.assign (.tmp 14)) 2] false) (.seq (.region 2 D12_2.toArray true) (.seq (.seq (.region 3 #[o 21 (.move (.tmp 0)) 2, o 22 (.binOp .gtr 2 (.tmp 21) (xi 60) 2) 4, o 23 (.move (.tmp 22)) 4, og 24 (.move (.tmp 0)) 2 2 true, og 25 (.binOp .leq 2 (.tmp 24) (xi 65536) 2) 4 2 true, o 26 (.pick (.tmp 23) (.tmp 25) (.const (.bool false))) 4] false) (.cond (.tmp 26) (.region 4 #[o 27 (.move (.tmp 0)) 2, o 28 (.binOp .rem 2 (.tmp 27) (xi 61) 2) 2, o 0 (.assign (.tmp 28)) 2] false) .skip)) (.seq (.region 5 #[o 29 (.move (.tmp 0)) 2, o 30 (.build 30 #[(0, xi 1), (5, .tmp 29)]) 30, o 31 (.move (.tmp 7)) 2, o 32 (.build 30 #[(0, xi 1), (1, xi 1), (5, .tmp 31)]) 30, o 33 (.buildSlice 28 1 #[(0, xi 0)]) 28, o 34 (.build 30 #[(0, xi 8), (1, xi 2), (2, xi 1), (4, xi 1), (8, .tmp 33)]) 30, o 35 (.build 30 #[(0, xi 11), (1, xi 1), (2, xi 2)]) 30, o 36 (.build 30 #[(0, xi 16), (2, xi 1)]) 30, o 37 (.move (.tmp 8)) 2, o 38 (.build 30 #[(0, xi 1), (1, xi 1), (5, .tmp 37)]) 30, o 39 (.move (.tmp 1)) 2, o 40 (.build 30 #[(0, xi 1), (5, .tmp 39)]) 30, o 41 (.build 30 #[(0, xi 9), (1, xi 3), (2, xi 2)]) 30, o 42 (.build 30 #[(0, xi 16), (2, xi 3)]) 30, o 43 (.build 30 #[(0, xi 10), (2, xi 2), (4, xi 1)]) 30, o 44 (.build 30 #[(0, xi 9), (1, xi 3), (2, xi 2)]) 30, o 45 (.build 30 #[(0, xi 16), (2, xi 3)]) 30, o 46 (.buildSlice 54 12 #[(0, .tmp 30), (1, .tmp 32), (2, .tmp 34), (3, .tmp 35), (4, .tmp 36), (5, .tmp 38), (6, .tmp 40), (7, .tmp 41), (8, .tmp 42), (9, .tmp 43), (10, .tmp 44), (11, .tmp 45)]) 54, o 9 (.assign (.tmp 46)) 54] false) (.seq (.region 6 #[o 47 (.move (.tmp 9)) 54, o 48 (.call ⟨.value (.func 29), #[xi 4, .const (.slice none 0 0), .tmp 47], #[3, 24, 54]⟩) 27, o 49 (.build 37 #[(1, xi 100), (2, xi 100), (3, xi 20)]) 37, o 50 (.call ⟨.value (.func 19), #[.tmp 48, .tmp 49], #[27, 37]⟩) 44, o 10 (.alloc 44) 0, oz (.store 44 (.tmp 10) (.tmp 50)) 0] false) (.seq (.seq (.region 7 #[o 51 (.move (.tmp 0)) 2, o 52 (.binOp .lss 2 (.tmp 51) (xi 0) 2) 4, o 53 (.move (.tmp 52)) 4, og 54 (.move (.tmp 0)) 2 2 false, og 55 (.binOp .gtr 2 (.tmp 54) (xi 65536) 2) 4 2 false, o 56 (.pick (.tmp 53) (.const (.bool true)) (.tmp 55)) 4] false) (.cond (.tmp 56) (.seq (.region 8 #[o 57 (.fieldAddr 44 (.tmp 10) 0) 0, o 58 (.load 3 (.tmp 57)) 3, o 59 (.binOp .eql 3 (.tmp 58) (xi 2) 3) 4, o 60 (.move (.tmp 59)) 4, og 61 (.fieldAddr 44 (.tmp 10) 2) 0 3 true, og 62 (.load 9 (.tmp 61)) 9 3 true, og 63 (.binOp .eql 9 (.tmp 62) (.const (.string ⟨#[83, 105, 122, 101]⟩)) 9) 4 3 true, o 64 (.pick (.tmp 60) (.tmp 63) (.const (.bool false))) 4, o 65 (.move (.tmp 64)) 4, og 66 (.fieldAddr 44 (.tmp 10) 1) 0 8 true, og 67 (.load 34 (.tmp 66)) 34 8 true, og 68 (.call ⟨.builtin .len, #[.tmp 67], #[34]⟩) 3 8 true, og 69 (.binOp .eql 3 (.tmp 68) (xi 0) 3) 4 8 true, o 70 (.pick (.tmp 65) (.tmp 69) (.const (.bool false))) 4, o 71 (.move (.tmp 70)) 4, og 72 (.call ⟨.value (.func 18), #[], #[]⟩) 4 14 true, o 73 (.pick (.tmp 71) (.tmp 72) (.const (.bool false))) 4, o 6 (.assign (.tmp 73)) 4] false) .ret) .skip)) (.seq (.seq (.region 9 #[o 74 (.move (.tmp 1)) 2, o 75 (.binOp .lss 2 (.tmp 74) (xi 0) 2) 4, o 76 (.move (.tmp 75)) 4, og 77 (.move (.tmp 1)) 2 2 false, og 78 (.move (.tmp 0)) 2 2 false, og 79 (.binOp .geq 2 (.tmp 77) (.tmp 78) 2) 4 2 false, o 80 (.pick (.tmp 76) (.const (.bool true)) (.tmp 79)) 4] false) (.cond (.tmp 80) (.seq (.region 10 #[o 81 (.fieldAddr 44 (.tmp 10) 0) 0, o 82 (.load 3 (.tmp 81)) 3, o 83 (.binOp .eql 3 (.tmp 82) (xi 2) 3) 4, o 84 (.move (.tmp 83)) 4, og 85 (.fieldAddr 44 (.tmp 10) 2) 0 3 true, og 86 (.load 9 (.tmp 85)) 9 3 true, og 87 (.binOp .eql 9 (.tmp 86) (.const (.string ⟨#[83, 117, 98, 115, 99, 114, 105, 112, 116]⟩)) 9) 4 3 true, o 88 (.pick (.tmp 84) (.tmp 87) (.const (.bool false))) 4, o 89 (.move (.tmp 88)) 4, og 90 (.fieldAddr 44 (.tmp 10) 1) 0 8 true, og 91 (.load 34 (.tmp 90)) 34 8 true, og 92 (.convert 34 9 (.tmp 91)) 9 8 true, og 93 (.move (.tmp 0)) 2 8 true, og 94 (.convert 2 5 (.tmp 93)) 5 8 true, og 95 (.buildSlice 34 1 #[(0, .tmp 94)]) 34 8 true, og 96 (.convert 34 9 (.tmp 95)) 9 8 true, og 97 (.binOp .eql 9 (.tmp 92) (.tmp 96) 9) 4 8 true, o 98 (.pick (.tmp 89) (.tmp 97) (.const (.bool false))) 4, o 99 (.move (.tmp 98)) 4, og 100 (.call ⟨.value (.func 18), #[], #[]⟩) 4 18 true, o 101 (.pick (.tmp 99) (.tmp 100) (.const (.bool false))) 4, o 6 (.assign (.tmp 101)) 4] false) .ret) .skip)) (.seq (.region 11 #[o 102 (.fieldAddr 44 (.tmp 10) 0) 0, o 103 (.load 3 (.tmp 102)) 3, o 104 (.binOp .eql 3 (.tmp 103) (xi 1) 3) 4, o 105 (.move (.tmp 104)) 4, og 106 (.fieldAddr 44 (.tmp 10) 1) 0 3 true, og 107 (.load 34 (.tmp 106)) 34 3 true, og 108 (.convert 34 9 (.tmp 107)) 9 3 true, og 109 (.move (.tmp 0)) 2 3 true, og 110 (.convert 2 5 (.tmp 109)) 5 3 true, og 111 (.move (.tmp 7)) 2 3 true, og 112 (.convert 2 5 (.tmp 111)) 5 3 true, og 113 (.move (.tmp 8)) 2 3 true, og 114 (.convert 2 5 (.tmp 113)) 5 3 true, og 115 (.buildSlice 34 3 #[(0, .tmp 110), (1, .tmp 112), (2, .tmp 114)]) 34 3 true, og 116 (.convert 34 9 (.tmp 115)) 9 3 true, og 117 (.binOp .eql 9 (.tmp 108) (.tmp 116) 9) 4 3 true, o 118 (.pick (.tmp 105) (.tmp 117) (.const (.bool false))) 4, o 119 (.move (.tmp 118)) 4, og 120 (.call ⟨.value (.func 18), #[], #[]⟩) 4 17 true, o 121 (.pick (.tmp 119) (.tmp 120) (.const (.bool false))) 4, o 6 (.assign (.tmp 121)) 4] false) .ret)))))))))
theorem cal12 (args : Array Value) (H : IH) (h : args.size ≤ 122) : cal J okAll 12 args H = finish J [.tmp 6] (run J okAll C12 (regsOf args.toList 0 .leaf) H) := cal_er J H okAll 12 args Tryz.f12 _ C12 _ rfl rfl rfl (by kernel_rfl) rfl h rfl rfl
def D14_8 : List Oper := regOf Tryz.f14 8
@[simp] def A14_8 : List Ann := [a0 (o 35 (.move (.tmp 8)) 72), a0 (o 36 (.binOp .eql 72 (.tmp 35) (xi 0) 72) 4), a0 (o 37 (.move (.tmp 36)) 4), a0 (og 38 (.load 27 (.tmp 7)) 27 2 true), a0 (og 39 (.load 37 (.tmp 3)) 37 2 true), al (og 41 (.load 27 (.tmp 2)) 27 2 true) [1], al (og 42 (.load 37 (.tmp 3)) 37 2 true) [1], ae (og 40 (.call ⟨.value (.func 19), #[.tmp 38, .tmp 39], #[27, 37]⟩) 44 2 true) true, ae (og 43 (.call ⟨.value (.func 19), #[.tmp 41, .tmp 42], #[27, 37]⟩) 44 2 true) true, ae (og 44 (.call ⟨.value (.func 21), #[.tmp 40, .tmp 43], #[44, 44]⟩) 4 2 true) true, a0 (o 45 (.pick (.tmp 37) (.tmp 44) (.const (.bool false))) 4), a0 (o 46 (.move (.tmp 45)) 4), ae (og 47 (.call ⟨.value (.func 18), #[], #[]⟩) 4 11 true) true, a0 (o 48 (.pick (.tmp 46) (.tmp 47) (.const (.bool false))) 4), a0 (o 4 (.assign (.tmp 48)) 4)]
def O14_8 : List Oper := A14_8.map (·.o)
@[simp] theorem g14_8_2 : (O14_8[2]?).bind (·.dst) = some 37 := id rfl
@[simp] theorem g14_8_11 : (O14_8[11]?).bind (·.dst) = some 46 := id rfl
@[simp] theorem r14_8 (T : Regs) (H : IH) : run J okAll (.region 8 D14_8.toArray true) T H = annSel J okAll D14_8.toArray T H (eRun J (cal J okAll) O14_8.toArray A14_8 T H 0 []) := r_ann (by kernel_rfl) (by kernel_rfl) 8 T H
def C18 : Code := (.seq (.region 0 #[o 0 (.assign (.const (.bool false))) 4] false) (.seq (.region 1 #[o 5 (.call ⟨.value (.func 22), #[], #[]⟩) 27, o 1 (.alloc 27) 0, oz (.store 27 (.tmp 1) (.tmp 5)) 0] false) (.seq (.region 2 #[o 6 (.fieldAddr 27 (.tmp 1) 4) 0, o 7 (.load 25 (.tmp 6)) 25, o 8 (.indexAddr 25 (.tmp 7) (xi 0)) 0, o 9 (.fieldAddr 59 (.tmp 8) 3) 0, o 10 (.load 57 (.tmp 9)) 57, o 11 (.build 30 #[(0, xi 1), (5, xi 72)]) 30, o 12 (.build 30 #[(0, xi 16)]) 30, o 13 (.build 30 #[(0, xi 22)]) 30, o 14 (.buildSlice 54 3 #[(0, .tmp 11), (1, .tmp 12), (2, .tmp 13)]) 54, o 15 (.indexAddr 57 (.tmp 10) (xi 0)) 0, o 16 (.fieldAddr 56 (.tmp 15) 1) 0, oz (.store 54 (.tmp 16) (.tmp 14)) 0] false) (.seq (.region 3 #[o 17 (.load 27 (.tmp 1)) 27, o 18 (.build 37 #[(1, xi 9), (3, xi 9)]) 37, o 19 (.call ⟨.value (.func 19), #[.tmp 17, .tmp 18], #[27, 37]⟩) 44, o 2 (.alloc 44) 0, oz (.store 44 (.tmp 2) (.tmp 19)) 0] false) (.seq (.region 4 #[o 20 (.load 27 (.tmp 1)) 27, o 21 (.build 37 #[(1, xi 2), (3, xi 9)]) 37, o 22 (.call ⟨.value (.func 19), #[.tmp 20, .tmp 21], #[27, 37]⟩) 44, o 3 (.alloc 44) 0, oz (.store 44 (.tmp 3) (.tmp 22)) 0] false) (.seq (.region 5 #[o 23 (.load 27 (.tmp 1)) 27, o 24 (.build 37 #[(1, xi 9), (3, xi 2)]) 37, o 25 (.call ⟨.value (.func 19), #[.tmp 23, .tmp 24], #[27, 37]⟩) 44, o 4 (.alloc 44) 0, oz (.store 44 (.tmp 4) (.tmp 25)) 0] false) (.seq (.region 6 #[o 26 (.fieldAddr 44 (.tmp 2) 0) 0, o 27 (.load 3 (.tmp 26)) 3, o 28 (.binOp .eql 3 (.tmp 27) (xi 1) 3) 4, o 29 (.move (.tmp 28)) 4, og 30 (.fieldAddr 44 (.tmp 2) 1) 0 3 true, og 31 (.load 34 (.tmp 30)) 34 3 true, og 32 (.convert 34 9 (.tmp 31)) 9 3 true, og 33 (.binOp .eql 9 (.tmp 32) (.const (.string ⟨#[72]⟩)) 9) 4 3 true, o 34 (.pick (.tmp 29) (.tmp 33) (.const (.bool false))) 4, o 35 (.move (.tmp 34)) 4, og 36 (.fieldAddr 44 (.tmp 2) 3) 0 9 true, og 37 (.load 3 (.tmp 36)) 3 9 true, og 38 (.binOp .eql 3 (.tmp 37) (xi 3) 3) 4 9 true, o 39 (.pick (.tmp 35) (.tmp 38) (.const (.bool false))) 4, o 40 (.move (.tmp 39)) 4, og 41 (.fieldAddr 44 (.tmp 3) 0) 0 14 true, og 42 (.load 3 (.tmp 41)) 3 14 true, og 43 (.binOp .eql 3 (.tmp 42) (xi 3) 3) 4 14 true, o 44 (.pick (.tmp 40) (.tmp 43) (.const (.bool false))) 4, o 45 (.move (.tmp 44)) 4, og 46 (.fieldAddr 44 (.tmp 3) 1) 0 19 true, og 47 (.load 34 (.tmp 46)) 34 19 true, og 48 (.convert 34 9 (.tmp 47)) 9 19 true, og 49 (.binOp .eql 9 (.tmp 48) (.const (.string ⟨#[72]⟩)) 9) 4 19 true, o 50 (.pick (.tmp 45) (.tmp 49) (.const (.bool false))) 4, o 51 (.move (.tmp 50)) 4, og 52 (.fieldAddr 44 (.tmp 4) 0) 0 25 true, og 53 (.load 3 (.tmp 52)) 3 25 true, og 54 (.binOp .eql 3 (.tmp 53) (xi 5) 3) 4 25 true, o 55 (.pick (.tmp 51) (.tmp 54) (.const (.bool false))) 4, o 56 (.move (.tmp 55)) 4, og 57 (.fieldAddr 44 (.tmp 4) 3) 0 30 true, og 58 (.load 3 (.tmp 57)) 3 30 true, og 59 (.binOp .eql 3 (.tmp 58) (xi 0) 3) 4 30 true, o 60 (.pick (.tmp 56) (.tmp 59) (.const (.bool false))) 4, o 0 (.assign (.tmp 60)) 4] false) .ret)))))))
theorem cal18 (args : Array Value) (H : IH) (h : args.size ≤ 61) : cal J okAll 18 args H = finish J [.tmp 0] (run J okAll C18 (regsOf args.toList 0 .leaf) H) := cal_er J H okAll 18 args Tryz.f18 _ C18 _ rfl rfl rfl (by kernel_rfl) rfl h rfl rfl
def C19 : Code := (.seq (.region 0 #[o 2 (.box 27 (.tmp 0)) 0, o 3 (.box 37 (.tmp 1)) 0, o 4 (.alloc 44) 0] false) (.seq (.region 1 #[o 6 (.fieldAddr 37 (.tmp 3) 1) 0, o 7 (.load 3 (.tmp 6)) 3, o 8 (.call ⟨.builtin .min, #[.tmp 7, xi 16777216], #[3, 3]⟩) 3, o 9 (.call ⟨.builtin .max, #[xi 0, .tmp 8], #[3, 3]⟩) 3, o 10 (.fieldAddr 37 (.tmp 3) 1) 0, oz (.store 3 (.tmp 10) (.tmp 9)) 0] false) (.seq (.region 2 #[o 11 (.fieldAddr 37 (.tmp 3) 2) 0, o 12 (.load 3 (.tmp 11)) 3, o 13 (.call ⟨.builtin .min, #[.tmp 12, xi 65536], #[3, 3]⟩) 3, o 14 (.call ⟨.builtin .max, #[xi 0, .tmp 13], #[3, 3]⟩) 3, o 15 (.fieldAddr 37 (.tmp 3) 2) 0, oz (.store 3 (.tmp 15) (.tmp 14)) 0] false) (.seq (.region 3 #[o 16 (.fieldAddr 37 (.tmp 3) 3) 0, o 17 (.load 3 (.tmp 16)) 3, o 18 (.call ⟨.builtin .min, #[.tmp 17, xi 65536], #[3, 3]⟩) 3, o 19 (.call ⟨.builtin .max, #[xi 0, .tmp 18], #[3, 3]⟩) 3, o 20 (.fieldAddr 37 (.tmp 3) 3) 0, oz (.store 3 (.tmp 20) (.tmp 19)) 0] false) (.seq (.region 4 #[o 21 (.load 37 (.tmp 3)) 37, o 22 (.build 84 #[(0, .tmp 2), (1, .tmp 21)]) 84, o 23 (.box 84 (.tmp 22)) 79, o 5 (.alloc 79) 0, oz (.store 79 (.tmp 5) (.tmp 23)) 0] false) (.seq (.region 5 #[o 24 (.makeFunc (.func 35) #[] #[.tmp 5, .tmp 4]) 1, oz (.defer ⟨.value (.tmp 24), #[], #[]⟩) 0] false) (.seq (.region 6 #[o 25 (.load 79 (.tmp 5)) 79, o 26 (.call ⟨.value (.func 36), #[.tmp 25], #[79]⟩) 0] false) (.seq (.region 7 #[o 27 (.load 79 (.tmp 5)) 79, o 28 (.call ⟨.value (.func 37), #[.tmp 27], #[79]⟩) 0] false) (.seq (.region 8 #[o 29 (.load 44 (.tmp 4)) 44, oz (.store 44 (.tmp 4) (.tmp 29)) 0] false) .ret)))))))))
def C22 : Code := (.seq (.region 0 #[o 0 (.alloc 27) 0] false) (.seq (.region 1 #[o 1 (.build 88 #[(0, .const (.bool true))]) 88, o 2 (.buildSlice 28 1 #[(0, xi 0)]) 28, o 3 (.build 88 #[(1, .tmp 2)]) 88, o 4 (.buildSlice 22 2 #[(0, .tmp 1), (1, .tmp 3)]) 22, o 5 (.build 90 #[(0, xi 3)]) 90, o 6 (.buildSlice 23 1 #[(0, .tmp 5)]) 23, o 7 (.buildSlice 28 1 #[(0, xi (-1))]) 28, o 8 (.build 30 #[(0, xi 1), (5, xi 5)]) 30, o 9 (.build 30 #[(0, xi 22)]) 30, o 10 (.buildSlice 54 2 #[(0, .tmp 8), (1, .tmp 9)]) 54, o 11 (.build 56 #[(0, .tmp 7), (1, .tmp 10)]) 56, o 12 (.buildSlice 57 1 #[(0, .tmp 11)]) 57, o 13 (.build 59 #[(2, xi 1), (3, .tmp 12)]) 59, o 14 (.buildSlice 25 1 #[(0, .tmp 13)]) 25, o 15 (.build 27 #[(0, .tmp 4), (1, .tmp 6), (4, .tmp 14)]) 27, oz (.store 27 (.tmp 0) (.tmp 15)) 0] false) .ret))
theorem cal22 (args : Array Value) (H : IH) (h : args.size ≤ 16) : cal J okAll 22 args H = finish J [.cell 0 27] (run J okAll C22 (regsOf args.toList 0 .leaf) H) := cal_er J H okAll 22 args Tryz.f22 _ C22 _ rfl rfl rfl (by kernel_rfl) rfl h rfl rfl
def C23 : Code := (.seq (.region 0 #[o 2 (.assign (xi 0)) 2] false) (.seq (.region 1 #[o 3 (.move (.tmp 0)) 2, o 4 (.binOp .shl 2 (.tmp 3) (.const (.int .u64 1)) 31) 2, o 5 (.binOp .shr 2 (.tmp 4) (.const (.int .u64 1)) 31) 2, o 2 (.assign (.tmp 5)) 2] false) .ret))
theorem cal23 (args : Array Value) (H : IH) (h : args.size ≤ 6) : cal J okAll 23 args H = finish J [.tmp 2] (run J okAll C23 (regsOf args.toList 0 .leaf) H) := cal_er J H okAll 23 args Tryz.f23 _ C23 _ rfl rfl rfl (by kernel_rfl) rfl h rfl rfl
def C24 : Code := (.seq (.region 0 #[o 4 (.assign (xi 0)) 2] false) (.seq (.region 1 #[o 5 (.move (.tmp 0)) 2, o 6 (.move (.tmp 1)) 2, o 7 (.binOp .add 2 (.tmp 5) (.tmp 6) 2) 2, o 8 (.call ⟨.value (.func 23), #[.tmp 7], #[2]⟩) 2, o 4 (.assign (.tmp 8)) 2] false) .ret))
theorem cal24 (args : Array Value) (H : IH) (h : args.size ≤ 9) : cal J okAll 24 args H = finish J [.tmp 4] (run J okAll C24 (regsOf args.toList 0 .leaf) H) := cal_er J H okAll 24 args Tryz.f24 _ C24 _ rfl rfl rfl (by kernel_rfl) rfl h rfl rfl
def C25 : Code := (.seq (.region 0 #[o 4 (.assign (xi 0)) 2] false) (.seq (.region 1 #[o 5 (.move (.tmp 0)) 2, o 6 (.move (.tmp 1)) 2, o 7 (.binOp .sub 2 (.tmp 5) (.tmp 6) 2) 2, o 8 (.call ⟨.value (.func 23), #[.tmp 7], #[2]⟩) 2, o 4 (.assign (.tmp 8)) 2] false) .ret))
theorem cal25 (args : Array Value) (H : IH) (h : args.size ≤ 9) : cal J okAll 25 args H = finish J [.tmp 4] (run J okAll C25 (regsOf args.toList 0 .leaf) H) := cal_er J H okAll 25 args Tryz.f25 _ C25 _ rfl rfl rfl (by kernel_rfl) rfl h rfl rfl
def C26 : Code := (.seq (.region 0 #[o 4 (.assign (xi 0)) 2] false) (.seq (.region 1 #[o 5 (.move (.tmp 0)) 2, o 6 (.move (.tmp 1)) 2, o 7 (.binOp .mul 2 (.tmp 5) (.tmp 6) 2) 2, o 8 (.call ⟨.value (.func 23), #[.tmp 7], #[2]⟩) 2, o 4 (.assign (.tmp 8)) 2] false) .ret))
theorem cal26 (args : Array Value) (H : IH) (h : args.size ≤ 9) : cal J okAll 26 args H = finish J [.tmp 4] (run J okAll C26 (regsOf args.toList 0 .leaf) H) := cal_er J H okAll 26 args Tryz.f26 _ C26 _ rfl rfl rfl (by kernel_rfl) rfl h rfl rfl
def C27 : Code := (.seq (.region 0 #[o 4 (.assign (xi 0)) 2, o 5 (.assign (.const (.bool false))) 4] false) (.seq (.seq (.region 1 #[o 7 (.move (.tmp 1)) 2, o 8 (.binOp .eql 2 (.tmp 7) (xi 0) 2) 4] false) (.cond (.tmp 8) (.seq (.region 2 #[o 4 (.assign (xi 0)) 2, o 5 (.assign (.const (.bool false))) 4] false) .ret) .skip)) (.seq (.region 3 #[o 9 (.move (.tmp 0)) 2, o 10 (.move (.tmp 1)) 2, o 11 (.binOp .quo 2 (.tmp 9) (.tmp 10) 2) 2, o 6 (.assign (.tmp 11)) 2] false) (.seq (.seq (.region 4 #[o 12 (.move (.tmp 0)) 2, o 13 (.move (.tmp 1)) 2, o 14 (.binOp .rem 2 (.tmp 12) (.tmp 13) 2) 2, o 15 (.binOp .neq 2 (.tmp 14) (xi 0) 2) 4, o 16 (.move (.tmp 15)) 4, og 17 (.move (.tmp 0)) 2 4 true, og 18 (.binOp .lss 2 (.tmp 17) (xi 0) 2) 4 4 true, og 19 (.move (.tmp 1)) 2 4 true, og 20 (.binOp .lss 2 (.tmp 19) (xi 0) 2) 4 4 true, og 21 (.binOp .neq 4 (.tmp 18) (.tmp 20) 4) 4 4 true, o 22 (.pick (.tmp 16) (.tmp 21) (.const (.bool false))) 4] false) (.cond (.tmp 22) (.region 5 #[o 23 (.move (.tmp 6)) 2, o 24 (.binOp .sub 2 (.tmp 23) (xi 1) 2) 2, o 6 (.assign (.tmp 24)) 2] false) .skip)) (.seq (.region 6 #[o 25 (.move (.tmp 6)) 2, o 26 (.call ⟨.value (.func 23), #[.tmp 25], #[2]⟩) 2, o 4 (.assign (.tmp 26)) 2, o 5 (.assign (.const (.bool true))) 4] false) .ret)))))
theorem cal27 (args : Array Value) (H : IH) (h : args.size ≤ 27) : cal J okAll 27 args H = finish J [.tmp 4, .tmp 5] (run J okAll C27 (regsOf args.toList 0 .leaf) H) := cal_er J H okAll 27 args Tryz.f27 _ C27 _ rfl rfl rfl (by kernel_rfl) rfl h rfl rfl
def C28 : Code := (.seq (.region 0 #[o 4 (.assign (xi 0)) 2, o 5 (.assign (.const (.bool false))) 4] false) (.seq (.seq (.region 1 #[o 7 (.move (.tmp 1)) 2, o 8 (.binOp .eql 2 (.tmp 7) (xi 0) 2) 4] false) (.cond (.tmp 8) (.seq (.region 2 #[o 4 (.assign (xi 0)) 2, o 5 (.assign (.const (.bool false))) 4] false) .ret) .skip)) (.seq (.region 3 #[o 9 (.move (.tmp 0)) 2, o 10 (.move (.tmp 1)) 2, o 11 (.binOp .rem 2 (.tmp 9) (.tmp 10) 2) 2, o 6 (.assign (.tmp 11)) 2] false) (.seq (.seq (.region 4 #[o 12 (.move (.tmp 6)) 2, o 13 (.binOp .neq 2 (.tmp 12) (xi 0) 2) 4, o 14 (.move (.tmp 13)) 4, og 15 (.move (.tmp 6)) 2 2 true, og 16 (.binOp .lss 2 (.tmp 15) (xi 0) 2) 4 2 true, og 17 (.move (.tmp 1)) 2 2 true, og 18 (.binOp .lss 2 (.tmp 17) (xi 0) 2) 4 2 true, og 19 (.binOp .neq 4 (.tmp 16) (.tmp 18) 4) 4 2 true, o 20 (.pick (.tmp 14) (.tmp 19) (.const (.bool false))) 4] false) (.cond (.tmp 20) (.region 5 #[o 21 (.move (.tmp 6)) 2, o 22 (.move (.tmp 1)) 2, o 23 (.binOp .add 2 (.tmp 21) (.tmp 22) 2) 2, o 6 (.assign (.tmp 23)) 2] false) .skip)) (.seq (.region 6 #[o 24 (.move (.tmp 6)) 2, o 25 (.call ⟨.value (.func 23), #[.tmp 24], #[2]⟩) 2, o 4 (.assign (.tmp 25)) 2, o 5 (.assign (.const (.bool true))) 4] false) .ret)))))
theorem cal28 (args : Array Value) (H : IH) (h : args.size ≤ 26) : cal J okAll 28 args H = finish J [.tmp 4, .tmp 5] (run J okAll C28 (regsOf args.toList 0 .leaf) H) := cal_er J H okAll 28 args Tryz.f28 _ C28 _ rfl rfl rfl (by kernel_rfl) rfl h rfl rfl
def L29_0 : Code := (.seq (.region 7 #[o 29 (.binOp .lss 3 (.tmp 28) (.tmp 27) 3) 4] false) (.seq (.cond (.tmp 29) .skip (.exit 0)) (.seq (.block 1 (.region 8 #[o 30 (.fieldAddr 56 (.tmp 8) 0) 0, o 31 (.load 28 (.tmp 30)) 28, o 32 (.buildSlice 28 1 #[(0, xi (-1))]) 28, o 33 (.call ⟨.builtin .append, #[.tmp 31, .tmp 32], #[28, 28]⟩) 28, o 34 (.fieldAddr 56 (.tmp 8) 0) 0, oz (.store 28 (.tmp 34) (.tmp 33)) 0] false)) (.region 9 #[o 35 (.binOp .add 3 (.tmp 28) (xi 1) 3) 3, o 28 (.move (.tmp 35)) 3] false))))
def C29 : Code := (.seq (.region 0 #[o 6 (.alloc 27) 0] false) (.seq (.region 1 #[o 9 (.call ⟨.value (.func 22), #[], #[]⟩) 27, o 7 (.alloc 27) 0, oz (.store 27 (.tmp 7) (.tmp 9)) 0] false) (.seq (.region 2 #[o 10 (.fieldAddr 27 (.tmp 7) 1) 0, o 11 (.load 23 (.tmp 10)) 23, o 12 (.buildSlice 28 1 #[(0, xi 0)]) 28, o 13 (.build 90 #[(0, xi 2), (1, .tmp 12)]) 90, o 14 (.buildSlice 23 1 #[(0, .tmp 13)]) 23, o 15 (.call ⟨.builtin .append, #[.tmp 11, .tmp 14], #[23, 23]⟩) 23, o 16 (.fieldAddr 27 (.tmp 7) 1) 0, oz (.store 23 (.tmp 16) (.tmp 15)) 0] false) (.seq (.region 3 #[o 17 (.move (.tmp 1)) 24, o 18 (.fieldAddr 27 (.tmp 7) 2) 0, oz (.store 24 (.tmp 18) (.tmp 17)) 0] false) (.seq (.region 4 #[o 19 (.buildSlice 24 4 #[(0, .const (.string ⟨#[77, 97, 116, 99, 104]⟩)), (1, .const (.string ⟨#[68, 105, 118]⟩)), (2, .const (.string ⟨#[83, 117, 98, 115, 99, 114, 105, 112, 116]⟩)), (3, .const (.string ⟨#[83, 105, 122, 101]⟩))]) 24, o 20 (.fieldAddr 27 (.tmp 7) 3) 0, oz (.store 24 (.tmp 20) (.tmp 19)) 0] false) (.seq (.region 5 #[o 21 (.move (.tmp 2)) 54, o 22 (.build 30 #[(0, xi 1)]) 30, o 23 (.build 30 #[(0, xi 22)]) 30, o 24 (.buildSlice 54 2 #[(0, .tmp 22), (1, .tmp 23)]) 54, o 25 (.call ⟨.builtin .append, #[.tmp 21, .tmp 24], #[54, 54]⟩) 54, o 26 (.build 56 #[(1, .tmp 25)]) 56, o 8 (.alloc 56) 0, oz (.store 56 (.tmp 8) (.tmp 26)) 0] false) (.seq (.seq (.region 6 #[o 27 (.move (.tmp 0)) 3, o 28 (.move (xi 0)) 3] false) (.block 0 (.loop L29_0))) (.seq (.region 10 #[o 36 (.fieldAddr 27 (.tmp 7) 4) 0, o 37 (.load 25 (.tmp 36)) 25, o 38 (.move (.tmp 0)) 3, o 39 (.load 56 (.tmp 8)) 56, o 40 (.buildSlice 57 1 #[(0, .tmp 39)]) 57, o 41 (.build 59 #[(2, .tmp 38), (3, .tmp 40)]) 59, o 42 (.indexAddr 25 (.tmp 37) (xi 0)) 0, oz (.store 59 (.tmp 42) (.tmp 41)) 0] false) (.seq (.region 11 #[o 43 (.load 27 (.tmp 7)) 27, oz (.store 27 (.tmp 6) (.tmp 43)) 0] false) .ret)))))))))
theorem cal29 (args : Array Value) (H : IH) (h : args.size ≤ 44) : cal J okAll 29 args H = finish J [.cell 6 27] (run J okAll C29 (regsOf args.toList 0 .leaf) H) := cal_er J H okAll 29 args Tryz.f29 _ C29 _ rfl rfl rfl (by kernel_rfl) rfl h rfl rfl
def C35 : Code := (.seq (.region 0 #[o 4 (.call ⟨.builtin .recover, #[], #[]⟩) 20] false) (.block 0 (.seq (.region 3 #[o 6 (.typeAssert (.tmp 4) 20 86 true) 0, o 7 (.extract (.tmp 6) 1) 4, o 8 (.extract (.tmp 6) 0) 86] false) (.cond (.tmp 7) (.seq (.region 4 #[o 2 (.alloc 86) 0, oz (.store 86 (.tmp 2) (.tmp 8)) 0] false) (.seq (.region 5 #[o 9 (.load 79 (.tmp 0)) 79, o 10 (.nilCheck (.tmp 9)) 0, o 11 (.fieldAddr 84 (.tmp 10) 7) 0, o 12 (.load 44 (.tmp 11)) 44, oz (.store 44 (.tmp 1) (.tmp 12)) 0] false) (.region 6 #[o 13 (.fieldAddr 86 (.tmp 2) 0) 0, o 14 (.load 3 (.tmp 13)) 3, o 15 (.fieldAddr 44 (.tmp 1) 0) 0, oz (.store 3 (.tmp 15) (.tmp 14)) 0] false))) (.seq (.region 1 #[o 3 (.assign (.tmp 4)) 20] false) (.region 2 #[o 5 (.move (.tmp 3)) 20, oz (.panic (.tmp 5)) 0] false))))))
def L36_0 : Code := (.seq (.region 3 #[o 27 (.binOp .lss 3 (.tmp 26) (.tmp 25) 3) 0] false) (.seq (.cond (.tmp 27) .skip (.exit 0)) (.seq (.block 1 (.seq (.region 4 #[o 28 (.indexAddr 23 (.tmp 24) (.tmp 26)) 0, o 29 (.load 90 (.tmp 28)) 90, o 4 (.alloc 90) 0, oz (.store 90 (.tmp 4) (.tmp 29)) 0] false) (.seq (.region 5 #[o 30 (.fieldAddr 90 (.tmp 4) 0) 0, o 31 (.load 3 (.tmp 30)) 3, o 32 (.build 127 #[(0, .tmp 31)]) 127, o 5 (.alloc 127) 0, oz (.store 127 (.tmp 5) (.tmp 32)) 0] false) (.seq (.seq (.region 6 #[o 33 (.fieldAddr 90 (.tmp 4) 0) 0, o 34 (.load 3 (.tmp 33)) 3, o 35 (.binOp .eql 3 (.tmp 34) (xi 1) 3) 4] false) (.cond (.tmp 35) (.region 7 #[o 36 (.fieldAddr 90 (.tmp 4) 1) 0, o 37 (.load 28 (.tmp 36)) 28, o 38 (.call ⟨.builtin .len, #[.tmp 37], #[28]⟩) 3, o 39 (.fieldAddr 127 (.tmp 5) 1) 0, oz (.store 3 (.tmp 39) (.tmp 38)) 0] false) .skip)) (.region 8 #[o 40 (.move (.tmp 2)) 125, o 41 (.load 127 (.tmp 5)) 127, o 42 (.buildSlice 125 1 #[(0, .tmp 41)]) 125, o 43 (.call ⟨.builtin .append, #[.tmp 40, .tmp 42], #[125, 125]⟩) 125, o 2 (.assign (.tmp 43)) 125] false))))) (.region 9 #[o 44 (.binOp .add 3 (.tmp 26) (xi 1) 3) 3, o 26 (.move (.tmp 44)) 3] false))))
def C36 : Code := (.seq (.region 0 #[o 8 (.move (.tmp 0)) 79, o 9 (.move (.tmp 0)) 79, o 10 (.nilCheck (.tmp 9)) 0, o 11 (.fieldAddr 84 (.tmp 10) 0) 0, o 12 (.load 80 (.tmp 11)) 80, o 13 (.nilCheck (.tmp 12)) 0, o 14 (.load 27 (.tmp 13)) 27, o 15 (.call ⟨.value (.func 38), #[.tmp 14], #[27]⟩) 72, o 16 (.binOp .eql 72 (.tmp 15) (xi 0) 72) 4, o 17 (.call ⟨.value (.func 63), #[.tmp 8, .tmp 16], #[79, 4]⟩) 0] false) (.seq (.region 1 #[o 2 (.assign (.const (.slice none 0 0))) 125] false) (.seq (.seq (.region 2 #[o 18 (.move (.tmp 0)) 79, o 19 (.nilCheck (.tmp 18)) 0, o 20 (.fieldAddr 84 (.tmp 19) 0) 0, o 21 (.load 80 (.tmp 20)) 80, o 22 (.nilCheck (.tmp 21)) 0, o 23 (.fieldAddr 27 (.tmp 22) 1) 0, o 24 (.load 23 (.tmp 23)) 23, o 25 (.call ⟨.builtin .len, #[.tmp 24], #[23]⟩) 3, o 26 (.move (xi 0)) 3] false) (.block 0 (.loop L36_0))) (.seq (.region 10 #[o 46 (.move (.tmp 0)) 79, o 47 (.nilCheck (.tmp 46)) 0, o 48 (.fieldAddr 84 (.tmp 47) 1) 0, o 49 (.fieldAddr 37 (.tmp 48) 2) 0, o 50 (.load 3 (.tmp 49)) 3, o 51 (.move (.tmp 2)) 125, o 52 (.call ⟨.value (.func 64), #[.tmp 50, .tmp 51], #[3, 125]⟩) 128, o 45 (.move (.tmp 52)) 128, o 53 (.extract (.tmp 45) 0) 81, o 54 (.extract (.tmp 45) 1) 72, o 6 (.assign (.tmp 53)) 81, o 7 (.assign (.tmp 54)) 72] false) (.seq (.region 11 #[o 55 (.move (.tmp 0)) 79, o 56 (.move (.tmp 7)) 72, o 57 (.binOp .eql 72 (.tmp 56) (xi 0) 72) 4, o 58 (.move (.tmp 57)) 4, og 59 (.move (.tmp 0)) 79 3 true, og 60 (.nilCheck (.tmp 59)) 0 3 true, og 61 (.fieldAddr 84 (.tmp 60) 0) 0 3 true, og 62 (.load 80 (.tmp 61)) 80 3 true, og 63 (.nilCheck (.tmp 62)) 0 3 true, og 64 (.fieldAddr 27 (.tmp 63) 5) 0 3 true, og 65 (.load 3 (.tmp 64)) 3 3 true, og 66 (.binOp .geq 3 (.tmp 65) (xi 0) 3) 4 3 true, o 67 (.pick (.tmp 58) (.tmp 66) (.const (.bool false))) 4, o 68 (.move (.tmp 67)) 4, og 69 (.move (.tmp 0)) 79 13 true, og 70 (.nilCheck (.tmp 69)) 0 13 true, og 71 (.fieldAddr 84 (.tmp 70) 0) 0 13 true, og 72 (.load 80 (.tmp 71)) 80 13 true, og 73 (.nilCheck (.tmp 72)) 0 13 true, og 74 (.fieldAddr 27 (.tmp 73) 5) 0 13 true, og 75 (.load 3 (.tmp 74)) 3 13 true, og 76 (.move (.tmp 0)) 79 13 true, og 77 (.nilCheck (.tmp 76)) 0 13 true, og 78 (.fieldAddr 84 (.tmp 77) 0) 0 13 true, og 79 (.load 80 (.tmp 78)) 80 13 true, og 80 (.nilCheck (.tmp 79)) 0 13 true, og 81 (.fieldAddr 27 (.tmp 80) 4) 0 13 true, og 82 (.load 25 (.tmp 81)) 25 13 true, og 83 (.call ⟨.builtin .len, #[.tmp 82], #[25]⟩) 3 13 true, og 84 (.binOp .lss 3 (.tmp 75) (.tmp 83) 3) 4 13 true, o 85 (.pick (.tmp 68) (.tmp 84) (.const (.bool false))) 4, o 86 (.move (.tmp 85)) 4, og 87 (.move (.tmp 0)) 79 31 true, og 88 (.nilCheck (.tmp 87)) 0 31 true, og 89 (.fieldAddr 84 (.tmp 88) 0) 0 31 true, og 90 (.load 80 (.tmp 89)) 80 31 true, og 91 (.nilCheck (.tmp 90)) 0 31 true, og 92 (.fieldAddr 27 (.tmp 91) 4) 0 31 true, og 93 (.load 25 (.tmp 92)) 25 31 true, og 94 (.move (.tmp 0)) 79 31 true, og 95 (.nilCheck (.tmp 94)) 0 31 true, og 96 (.fieldAddr 84 (.tmp 95) 0) 0 31 true, og 97 (.load 80 (.tmp 96)) 80 31 true, og 98 (.nilCheck (.tmp 97)) 0 31 true, og 99 (.fieldAddr 27 (.tmp 98) 5) 0 31 true, og 100 (.load 3 (.tmp 99)) 3 31 true, og 101 (.indexAddr 25 (.tmp 93) (.tmp 100)) 0 31 true, og 102 (.fieldAddr 59 (.tmp 101) 0) 0 31 true, og 103 (.load 28 (.tmp 102)) 28 31 true, og 104 (.call ⟨.builtin .len, #[.tmp 103], #[28]⟩) 3 31 true, og 105 (.binOp .eql 3 (.tmp 104) (xi 0) 3) 4 31 true, o 106 (.pick (.tmp 86) (.tmp 105) (.const (.bool false))) 4, o 107 (.call ⟨.value (.func 63), #[.tmp 55, .tmp 106], #[79, 4]⟩) 0] false) (.seq (.region 12 #[o 108 (.move (.tmp 0)) 79, o 109 (.move (.tmp 6)) 81, o 110 (.nilCheck (.tmp 108)) 0, o 111 (.fieldAddr 84 (.tmp 110) 2) 0, oz (.store 81 (.tmp 111) (.tmp 109)) 0] false) (.region 13 #[o 112 (.move (.tmp 0)) 79, o 113 (.move (.tmp 0)) 79, o 114 (.nilCheck (.tmp 113)) 0, o 115 (.fieldAddr 84 (.tmp 114) 0) 0, o 116 (.load 80 (.tmp 115)) 80, o 117 (.nilCheck (.tmp 116)) 0, o 118 (.fieldAddr 27 (.tmp 117) 5) 0, o 119 (.load 3 (.tmp 118)) 3, o 120 (.call ⟨.value (.func 65), #[.tmp 112, .tmp 119, .const (.slice none 0 0)], #[79, 3, 136]⟩) 0] false)))))))
theorem cal36 (args : Array Value) (H : IH) (h : args.size ≤ 121) : cal J okAll 36 args H = finish J [] (run J okAll C36 (regsOf args.toList 0 .leaf) H) := cal_er J H okAll 36 args Tryz.f36 _ C36 _ rfl rfl rfl (by kernel_rfl) rfl h rfl rfl
def L37_0 : Code := (.block 1 (.seq (.region 0 #[o 4 (.move (.tmp 0)) 79, o 5 (.call ⟨.value (.func 66), #[.tmp 4], #[79]⟩) 131, o 2 (.assign (.tmp 5)) 131] false) (.seq (.region 1 #[o 6 (.move (.tmp 0)) 79, o 7 (.move (.tmp 2)) 131, o 8 (.nilCheck (.tmp 7)) 0, o 9 (.fieldAddr 138 (.tmp 8) 0) 0, o 10 (.fieldAddr 135 (.tmp 9) 1) 0, o 11 (.load 3 (.tmp 10)) 3, o 12 (.binOp .geq 3 (.tmp 11) (xi 0) 3) 4, o 13 (.move (.tmp 12)) 4, og 14 (.move (.tmp 2)) 131 7 true, og 15 (.nilCheck (.tmp 14)) 0 7 true, og 16 (.fieldAddr 138 (.tmp 15) 0) 0 7 true, og 17 (.fieldAddr 135 (.tmp 16) 1) 0 7 true, og 18 (.load 3 (.tmp 17)) 3 7 true, og 19 (.move (.tmp 2)) 131 7 true, og 20 (.nilCheck (.tmp 19)) 0 7 true, og 21 (.fieldAddr 138 (.tmp 20) 0) 0 7 true, og 22 (.fieldAddr 135 (.tmp 21) 0) 0 7 true, og 23 (.load 133 (.tmp 22)) 133 7 true, og 24 (.nilCheck (.tmp 23)) 0 7 true, og 25 (.fieldAddr 59 (.tmp 24) 3) 0 7 true, og 26 (.load 57 (.tmp 25)) 57 7 true, og 27 (.call ⟨.builtin .len, #[.tmp 26], #[57]⟩) 3 7 true, og 28 (.binOp .lss 3 (.tmp 18) (.tmp 27) 3) 4 7 true, o 29 (.pick (.tmp 13) (.tmp 28) (.const (.bool false))) 4, o 30 (.move (.tmp 29)) 4, og 31 (.move (.tmp 2)) 131 24 true, og 32 (.nilCheck (.tmp 31)) 0 24 true, og 33 (.fieldAddr 138 (.tmp 32) 0) 0 24 true, og 34 (.fieldAddr 135 (.tmp 33) 2) 0 24 true, og 35 (.load 3 (.tmp 34)) 3 24 true, og 36 (.move (.tmp 2)) 131 24 true, og 37 (.nilCheck (.tmp 36)) 0 24 true, og 38 (.fieldAddr 138 (.tmp 37) 0) 0 24 true, og 39 (.fieldAddr 135 (.tmp 38) 0) 0 24 true, og 40 (.load 133 (.tmp 39)) 133 24 true, og 41 (.nilCheck (.tmp 40)) 0 24 true, og 42 (.fieldAddr 59 (.tmp 41) 3) 0 24 true, og 43 (.load 57 (.tmp 42)) 57 24 true, og 44 (.move (.tmp 2)) 131 24 true, og 45 (.nilCheck (.tmp 44)) 0 24 true, og 46 (.fieldAddr 138 (.tmp 45) 0) 0 24 true, og 47 (.fieldAddr 135 (.tmp 46) 1) 0 24 true, og 48 (.load 3 (.tmp 47)) 3 24 true, og 49 (.indexAddr 57 (.tmp 43) (.tmp 48)) 0 24 true, og 50 (.fieldAddr 56 (.tmp 49) 1) 0 24 true, og 51 (.load 54 (.tmp 50)) 54 24 true, og 52 (.call ⟨.builtin .len, #[.tmp 51], #[54]⟩) 3 24 true, og 53 (.binOp .lss 3 (.tmp 35) (.tmp 52) 3) 4 24 true, o 54 (.pick (.tmp 30) (.tmp 53) (.const (.bool false))) 4, o 55 (.call ⟨.value (.func 63), #[.tmp 6, .tmp 54], #[79, 4]⟩) 0] false) (.seq (.seq (.region 2 #[o 56 (.move (.tmp 0)) 79, o 57 (.nilCheck (.tmp 56)) 0, o 58 (.fieldAddr 84 (.tmp 57) 7) 0, o 59 (.fieldAddr 44 (.tmp 58) 3) 0, o 60 (.load 3 (.tmp 59)) 3, o 61 (.move (.tmp 0)) 79, o 62 (.nilCheck (.tmp 61)) 0, o 63 (.fieldAddr 84 (.tmp 62) 1) 0, o 64 (.fieldAddr 37 (.tmp 63) 1) 0, o 65 (.load 3 (.tmp 64)) 3, o 66 (.binOp .eql 3 (.tmp 60) (.tmp 65) 3) 4] false) (.cond (.tmp 66) (.region 3 #[o 67 (.move (.tmp 0)) 79, o 68 (.call ⟨.value (.func 67), #[.tmp 67, xi 3], #[79, 3]⟩) 0] false) .skip)) (.seq (.region 4 #[o 69 (.move (.tmp 0)) 79, o 70 (.nilCheck (.tmp 69)) 0, o 71 (.fieldAddr 84 (.tmp 70) 7) 0, o 72 (.fieldAddr 44 (.tmp 71) 3) 0, o 73 (.load 3 (.tmp 72)) 3, o 74 (.binOp .add 3 (.tmp 73) (xi 1) 3) 3, o 75 (.nilCheck (.tmp 69)) 0, o 76 (.fieldAddr 84 (.tmp 75) 7) 0, o 77 (.fieldAddr 44 (.tmp 76) 3) 0, oz (.store 3 (.tmp 77) (.tmp 74)) 0] false) (.seq (.region 5 #[o 78 (.move (.tmp 2)) 131, o 79 (.nilCheck (.tmp 78)) 0, o 80 (.fieldAddr 138 (.tmp 79) 0) 0, o 81 (.fieldAddr 135 (.tmp 80) 0) 0, o 82 (.load 133 (.tmp 81)) 133, o 83 (.nilCheck (.tmp 82)) 0, o 84 (.fieldAddr 59 (.tmp 83) 3) 0, o 85 (.load 57 (.tmp 84)) 57, o 86 (.move (.tmp 2)) 131, o 87 (.nilCheck (.tmp 86)) 0, o 88 (.fieldAddr 138 (.tmp 87) 0) 0, o 89 (.fieldAddr 135 (.tmp 88) 1) 0, o 90 (.load 3 (.tmp 89)) 3, o 91 (.indexAddr 57 (.tmp 85) (.tmp 90)) 0, o 92 (.fieldAddr 56 (.tmp 91) 1) 0, o 93 (.load 54 (.tmp 92)) 54, o 94 (.move (.tmp 2)) 131, o 95 (.nilCheck (.tmp 94)) 0, o 96 (.fieldAddr 138 (.tmp 95) 0) 0, o 97 (.fieldAddr 135 (.tmp 96) 2) 0, o 98 (.load 3 (.tmp 97)) 3, o 99 (.indexAddr 54 (.tmp 93) (.tmp 98)) 0, o 3 (.assign (.tmp 99)) 139] false) (.seq (.region 6 #[o 100 (.move (.tmp 2)) 131, o 101 (.nilCheck (.tmp 100)) 0, o 102 (.fieldAddr 138 (.tmp 101) 0) 0, o 103 (.fieldAddr 135 (.tmp 102) 2) 0, o 104 (.load 3 (.tmp 103)) 3, o 105 (.binOp .add 3 (.tmp 104) (xi 1) 3) 3, o 106 (.nilCheck (.tmp 100)) 0, o 107 (.fieldAddr 138 (.tmp 106) 0) 0, o 108 (.fieldAddr 135 (.tmp 107) 2) 0, oz (.store 3 (.tmp 108) (.tmp 105)) 0] false) (.seq (.seq (.region 7 #[o 109 (.move (.tmp 3)) 139, o 110 (.nilCheck (.tmp 109)) 0, o 111 (.fieldAddr 30 (.tmp 110) 0) 0, o 112 (.load 3 (.tmp 111)) 3, o 113 (.binOp .geq 3 (.tmp 112) (xi 18) 3) 4] false) (.cond (.tmp 113) (.seq (.region 8 #[o 114 (.move (.tmp 0)) 79, o 115 (.move (.tmp 3)) 139, o 116 (.call ⟨.value (.func 68), #[.tmp 114, .tmp 115], #[79, 139]⟩) 0] false) (.exit 1)) .skip)) (.region 9 #[o 117 (.move (.tmp 0)) 79, o 118 (.move (.tmp 3)) 139, o 119 (.call ⟨.value (.func 69), #[.tmp 117, .tmp 118], #[79, 139]⟩) 0] false)))))))))
def C37 : Code := (.scope (.seq (.label 0) (.block 0 (.loop L37_0))))
theorem cal37 (args : Array Value) (H : IH) (h : args.size ≤ 120) : cal J okAll 37 args H = finish J [] (run J okAll C37 (regsOf args.toList 0 .leaf) H) := cal_er J H okAll 37 args Tryz.f37 _ C37 _ rfl rfl rfl (by kernel_rfl) rfl h rfl rfl
def L38_0 : Code := (.seq (.region 7 #[o 20 (.binOp .lss 3 (.tmp 19) (.tmp 18) 3) 0] false) (.seq (.cond (.tmp 20) .skip (.exit 2)) (.seq (.block 3 (.seq (.region 8 #[o 21 (.indexAddr 57 (.tmp 17) (.tmp 19)) 0, o 22 (.load 56 (.tmp 21)) 56, o 6 (.alloc 56) 0, oz (.store 56 (.tmp 6) (.tmp 22)) 0] false) (.seq (.region 9 #[o 23 (.fieldAddr 56 (.tmp 6) 1) 0, o 24 (.load 54 (.tmp 23)) 54, o 25 (.call ⟨.value (.func 71), #[.tmp 24, .func 72], #[54, 142]⟩) 4] false) (.cond (.tmp 25) (.seq (.region 10 #[o 2 (.assign (xi 1)) 72] false) .ret) .skip)))) (.region 11 #[o 26 (.binOp .add 3 (.tmp 19) (xi 1) 3) 3, o 19 (.move (.tmp 26)) 3] false))))
def L38_1 : Code := (.seq (.region 4 #[o 13 (.binOp .lss 3 (.tmp 12) (.tmp 11) 3) 0] false) (.seq (.cond (.tmp 13) .skip (.exit 0)) (.seq (.block 1 (.seq (.region 5 #[o 14 (.indexAddr 25 (.tmp 10) (.tmp 12)) 0, o 15 (.load 59 (.tmp 14)) 59, o 4 (.alloc 59) 0, oz (.store 59 (.tmp 4) (.tmp 15)) 0] false) (.seq (.region 6 #[o 16 (.fieldAddr 59 (.tmp 4) 3) 0, o 17 (.load 57 (.tmp 16)) 57, o 18 (.call ⟨.builtin .len, #[.tmp 17], #[57]⟩) 3, o 19 (.move (xi 0)) 3] false) (.block 2 (.loop L38_0))))) (.region 12 #[o 27 (.binOp .add 3 (.tmp 12) (xi 1) 3) 3, o 12 (.move (.tmp 27)) 3] false))))
def C38 : Code := (.seq (.region 0 #[o 1 (.box 27 (.tmp 0)) 0, o 2 (.assign (xi 0)) 72] false) (.seq (.seq (.region 1 #[o 7 (.load 27 (.tmp 1)) 27, o 8 (.call ⟨.value (.func 70), #[.tmp 7], #[27]⟩) 4] false) (.cond (.tmp 8) (.seq (.region 2 #[o 2 (.assign (xi 2)) 72] false) .ret) .skip)) (.seq (.seq (.region 3 #[o 9 (.fieldAddr 27 (.tmp 1) 4) 0, o 10 (.load 25 (.tmp 9)) 25, o 11 (.call ⟨.builtin .len, #[.tmp 10], #[25]⟩) 3, o 12 (.move (xi 0)) 3] false) (.block 0 (.loop L38_1))) (.seq (.region 13 #[o 2 (.assign (xi 0)) 72] false) .ret))))
theorem cal38 (args : Array Value) (H : IH) (h : args.size ≤ 28) : cal J okAll 38 args H = finish J [.tmp 2] (run J okAll C38 (regsOf args.toList 0 .leaf) H) := cal_er J H okAll 38 args Tryz.f38 _ C38 _ rfl rfl rfl (by kernel_rfl) rfl h rfl rfl
def C63 : Code := (.seq (.region 0 #[o 4 (.move (.tmp 1)) 4, o 5 (.unOp .not 4 (.tmp 4)) 4] false) (.cond (.tmp 5) (.region 1 #[o 6 (.move (.tmp 0)) 79, o 7 (.call ⟨.value (.func 67), #[.tmp 6, xi 6], #[79, 3]⟩) 0] false) .skip))
theorem cal63 (args : Array Value) (H : IH) (h : args.size ≤ 8) : cal J okAll 63 args H = finish J [] (run J okAll C63 (regsOf args.toList 0 .leaf) H) := cal_er J H okAll 63 args Tryz.f63 _ C63 _ rfl rfl rfl (by kernel_rfl) rfl h rfl rfl
def L64_0 : Code := (.seq (.region 6 #[o 20 (.binOp .lss 3 (.tmp 19) (.tmp 18) 3) 0] false) (.seq (.cond (.tmp 20) .skip (.exit 0)) (.seq (.block 1 (.seq (.region 7 #[o 21 (.indexAddr 125 (.tmp 17) (.tmp 19)) 0, o 22 (.load 127 (.tmp 21)) 127, o 7 (.alloc 127) 0, oz (.store 127 (.tmp 7) (.tmp 22)) 0] false) (.seq (.region 8 #[o 23 (.fieldAddr 127 (.tmp 7) 0) 0, o 24 (.load 3 (.tmp 23)) 3, o 25 (.binOp .lss 3 (.tmp 24) (xi 1) 3) 4, o 26 (.move (.tmp 25)) 4, og 27 (.fieldAddr 127 (.tmp 7) 0) 0 3 false, og 28 (.load 3 (.tmp 27)) 3 3 false, og 29 (.binOp .gtr 3 (.tmp 28) (xi 3) 3) 4 3 false, o 30 (.pick (.tmp 26) (.const (.bool true)) (.tmp 29)) 4, o 31 (.move (.tmp 30)) 4, og 32 (.fieldAddr 127 (.tmp 7) 1) 0 8 false, og 33 (.load 3 (.tmp 32)) 3 8 false, og 34 (.binOp .lss 3 (.tmp 33) (xi 0) 3) 4 8 false, o 35 (.pick (.tmp 31) (.const (.bool true)) (.tmp 34)) 4, o 36 (.move (.tmp 35)) 4, og 37 (.fieldAddr 127 (.tmp 7) 1) 0 13 false, og 38 (.load 3 (.tmp 37)) 3 13 false, og 39 (.binOp .gtr 3 (.tmp 38) (xi 65536) 3) 4 13 false, o 40 (.pick (.tmp 36) (.const (.bool true)) (.tmp 39)) 4] false) (.cond (.tmp 40) (.seq (.region 9 #[o 4 (.assign (.const (.pointer none))) 81, o 5 (.assign (xi 1)) 72] false) .ret) .skip)))) (.region 10 #[o 41 (.binOp .add 3 (.tmp 19) (xi 1) 3) 3, o 19 (.move (.tmp 41)) 3] false))))
def C64 : Code := (.seq (.region 0 #[o 4 (.assign (.const (.pointer none))) 81, o 5 (.assign (xi 0)) 72] false) (.seq (.seq (.region 1 #[o 8 (.move (.tmp 0)) 3, o 9 (.binOp .lss 3 (.tmp 8) (xi 0) 3) 4, o 10 (.move (.tmp 9)) 4, og 11 (.move (.tmp 0)) 3 2 false, og 12 (.binOp .gtr 3 (.tmp 11) (xi 65536) 3) 4 2 false, o 13 (.pick (.tmp 10) (.const (.bool true)) (.tmp 12)) 4] false) (.cond (.tmp 13) (.seq (.region 2 #[o 4 (.assign (.const (.pointer none))) 81, o 5 (.assign (xi 1)) 72] false) .ret) .skip)) (.seq (.seq (.region 3 #[o 14 (.move (.tmp 1)) 125, o 15 (.call ⟨.builtin .len, #[.tmp 14], #[125]⟩) 3, o 16 (.binOp .gtr 3 (.tmp 15) (xi 512) 3) 4] false) (.cond (.tmp 16) (.seq (.region 4 #[o 4 (.assign (.const (.pointer none))) 81, o 5 (.assign (xi 2)) 72] false) .ret) .skip)) (.seq (.seq (.region 5 #[o 17 (.move (.tmp 1)) 125, o 18 (.call ⟨.builtin .len, #[.tmp 17], #[125]⟩) 3, o 19 (.move (xi 0)) 3] false) (.block 0 (.loop L64_0))) (.seq (.region 11 #[o 42 (.move (.tmp 0)) 3, o 44 (.move (.tmp 0)) 3, o 45 (.binOp .quo 3 (.tmp 44) (xi 64) 3) 3, o 46 (.binOp .add 3 (.tmp 45) (xi 1) 3) 3, o 48 (.move (.tmp 1)) 125, o 49 (.call ⟨.builtin .append, #[.const (.slice none 0 0), .tmp 48], #[125, 125]⟩) 125, o 43 (.makeSlice 136 (.tmp 42) (.tmp 42)) 136, o 47 (.makeSlice 136 (.tmp 46) (.tmp 46)) 136, o 50 (.build 171 #[(0, .tmp 43), (1, .tmp 47), (2, .tmp 49)]) 171, o 51 (.box 171 (.tmp 50)) 81, o 4 (.assign (.tmp 51)) 81, o 5 (.assign (xi 0)) 72] false) .ret)))))
theorem cal64 (args : Array Value) (H : IH) (h : args.size ≤ 52) : cal J okAll 64 args H = finish J [.tmp 4, .tmp 5] (run J okAll C64 (regsOf args.toList 0 .leaf) H) := cal_er J H okAll 64 args Tryz.f64 _ C64 _ rfl rfl rfl (by kernel_rfl) rfl h rfl rfl
def D65_11 : List Oper := regOf Tryz.f65 11
@[simp] def A65_11 : List Ann := [a0 (o 117 (.move (.tmp 7)) 131), a0 (o 118 (.nilCheck (.tmp 117)) 0), a0 (o 119 (.fieldAddr 138 (.tmp 118) 1) 0), al (o 120 (.load 136 (.tmp 119)) 136) [1], a0 (o 121 (.move (.tmp 8)) 3), ae (o 122 (.call ⟨.value (.func 96), #[xi 0], #[2]⟩) 62) true, a0 (o 123 (.indexAddr 136 (.tmp 120) (.tmp 121)) 0), ae (oz (.store 62 (.tmp 123) (.tmp 122)) 0) true]
def O65_11 : List Oper := A65_11.map (·.o)
@[simp] theorem r65_11 (T : Regs) (H : IH) : run J okAll (.region 11 D65_11.toArray true) T H = annSel J okAll D65_11.toArray T H (eRun J (cal J okAll) O65_11.toArray A65_11 T H 0 []) := r_ann (by kernel_rfl) (by kernel_rfl) 11 T H
def L65_0 : Code := (.seq (.seq (.region 9 #[o 108 (.move (.tmp 8)) 3, o 109 (.move (.tmp 7)) 131, o 110 (.nilCheck (.tmp 109)) 0, o 111 (.fieldAddr 138 (.tmp 110) 1) 0, o 112 (.load 136 (.tmp 111)) 136, o 113 (.call ⟨.builtin .len, #[.tmp 112], #[136]⟩) 3, o 114 (.binOp .lss 3 (.tmp 108) (.tmp 113) 3) 4] false) (.cond (.tmp 114) .skip (.exit 0))) (.seq (.block 1 (.region 11 D65_11.toArray true)) (.region 10 #[o 115 (.move (.tmp 8)) 3, o 116 (.binOp .add 3 (.tmp 115) (xi 1) 3) 3, o 8 (.assign (.tmp 116)) 3] false)))
def C65 : Code := (.seq (.region 0 #[o 9 (.move (.tmp 0)) 79, o 10 (.move (.tmp 1)) 3, o 11 (.binOp .geq 3 (.tmp 10) (xi 0) 3) 4, o 12 (.move (.tmp 11)) 4, og 13 (.move (.tmp 1)) 3 3 true, og 14 (.move (.tmp 0)) 79 3 true, og 15 (.nilCheck (.tmp 14)) 0 3 true, og 16 (.fieldAddr 84 (.tmp 15) 0) 0 3 true, og 17 (.load 80 (.tmp 16)) 80 3 true, og 18 (.nilCheck (.tmp 17)) 0 3 true, og 19 (.fieldAddr 27 (.tmp 18) 4) 0 3 true, og 20 (.load 25 (.tmp 19)) 25 3 true, og 21 (.call ⟨.builtin .len, #[.tmp 20], #[25]⟩) 3 3 true, og 22 (.binOp .lss 3 (.tmp 13) (.tmp 21) 3) 4 3 true, o 23 (.pick (.tmp 12) (.tmp 22) (.const (.bool false))) 4, o 24 (.call ⟨.value (.func 63), #[.tmp 9, .tmp 23], #[79, 4]⟩) 0] false) (.seq (.region 1 #[o 25 (.move (.tmp 0)) 79, o 26 (.nilCheck (.tmp 25)) 0, o 27 (.fieldAddr 84 (.tmp 26) 0) 0, o 28 (.load 80 (.tmp 27)) 80, o 29 (.nilCheck (.tmp 28)) 0, o 30 (.fieldAddr 27 (.tmp 29) 4) 0, o 31 (.load 25 (.tmp 30)) 25, o 32 (.move (.tmp 1)) 3, o 33 (.indexAddr 25 (.tmp 31) (.tmp 32)) 0, o 6 (.assign (.tmp 33)) 133] false) (.seq (.region 2 #[o 34 (.move (.tmp 0)) 79, o 35 (.move (.tmp 6)) 133, o 36 (.nilCheck (.tmp 35)) 0, o 37 (.fieldAddr 59 (.tmp 36) 2) 0, o 38 (.load 3 (.tmp 37)) 3, o 39 (.move (.tmp 2)) 136, o 40 (.call ⟨.builtin .len, #[.tmp 39], #[136]⟩) 3, o 41 (.binOp .geq 3 (.tmp 38) (.tmp 40) 3) 4, o 42 (.move (.tmp 41)) 4, og 43 (.move (.tmp 2)) 136 8 true, og 44 (.call ⟨.builtin .len, #[.tmp 43], #[136]⟩) 3 8 true, og 45 (.move (.tmp 6)) 133 8 true, og 46 (.nilCheck (.tmp 45)) 0 8 true, og 47 (.fieldAddr 59 (.tmp 46) 0) 0 8 true, og 48 (.load 28 (.tmp 47)) 28 8 true, og 49 (.call ⟨.builtin .len, #[.tmp 48], #[28]⟩) 3 8 true, og 50 (.binOp .eql 3 (.tmp 44) (.tmp 49) 3) 4 8 true, o 51 (.pick (.tmp 42) (.tmp 50) (.const (.bool false))) 4, o 52 (.move (.tmp 51)) 4, og 53 (.move (.tmp 6)) 133 18 true, og 54 (.nilCheck (.tmp 53)) 0 18 true, og 55 (.fieldAddr 59 (.tmp 54) 3) 0 18 true, og 56 (.load 57 (.tmp 55)) 57 18 true, og 57 (.call ⟨.builtin .len, #[.tmp 56], #[57]⟩) 3 18 true, og 58 (.binOp .gtr 3 (.tmp 57) (xi 0) 3) 4 18 true, o 59 (.pick (.tmp 52) (.tmp 58) (.const (.bool false))) 4, o 60 (.call ⟨.value (.func 63), #[.tmp 34, .tmp 59], #[79, 4]⟩) 0] false) (.seq (.seq (.region 3 #[o 61 (.move (.tmp 0)) 79, o 62 (.nilCheck (.tmp 61)) 0, o 63 (.fieldAddr 84 (.tmp 62) 4) 0, o 64 (.load 3 (.tmp 63)) 3, o 65 (.move (.tmp 6)) 133, o 66 (.nilCheck (.tmp 65)) 0, o 67 (.fieldAddr 59 (.tmp 66) 2) 0, o 68 (.load 3 (.tmp 67)) 3, o 69 (.binOp .add 3 (.tmp 64) (.tmp 68) 3) 3, o 70 (.binOp .add 3 (.tmp 69) (xi 2) 3) 3, o 71 (.move (.tmp 0)) 79, o 72 (.nilCheck (.tmp 71)) 0, o 73 (.fieldAddr 84 (.tmp 72) 1) 0, o 74 (.fieldAddr 37 (.tmp 73) 3) 0, o 75 (.load 3 (.tmp 74)) 3, o 76 (.binOp .gtr 3 (.tmp 70) (.tmp 75) 3) 4] false) (.cond (.tmp 76) (.region 4 #[o 77 (.move (.tmp 0)) 79, o 78 (.call ⟨.value (.func 67), #[.tmp 77, xi 5], #[79, 3]⟩) 0] false) .skip)) (.seq (.region 5 #[o 79 (.move (.tmp 0)) 79, o 80 (.nilCheck (.tmp 79)) 0, o 81 (.fieldAddr 84 (.tmp 80) 4) 0, o 82 (.load 3 (.tmp 81)) 3, o 83 (.move (.tmp 6)) 133, o 84 (.nilCheck (.tmp 83)) 0, o 85 (.fieldAddr 59 (.tmp 84) 2) 0, o 86 (.load 3 (.tmp 85)) 3, o 87 (.binOp .add 3 (.tmp 86) (xi 2) 3) 3, o 88 (.binOp .add 3 (.tmp 82) (.tmp 87) 3) 3, o 89 (.nilCheck (.tmp 79)) 0, o 90 (.fieldAddr 84 (.tmp 89) 4) 0, oz (.store 3 (.tmp 90) (.tmp 88)) 0] false) (.seq (.region 6 #[o 91 (.move (.tmp 6)) 133, o 92 (.build 135 #[(0, .tmp 91)]) 135, o 93 (.move (.tmp 6)) 133, o 94 (.nilCheck (.tmp 93)) 0, o 95 (.fieldAddr 59 (.tmp 94) 2) 0, o 96 (.load 3 (.tmp 95)) 3, o 97 (.makeSlice 136 (.tmp 96) (.tmp 96)) 136, o 98 (.build 138 #[(0, .tmp 92), (1, .tmp 97)]) 138, o 99 (.box 138 (.tmp 98)) 131, o 7 (.assign (.tmp 99)) 131] false) (.seq (.region 7 #[o 100 (.move (.tmp 7)) 131, o 101 (.nilCheck (.tmp 100)) 0, o 102 (.fieldAddr 138 (.tmp 101) 1) 0, o 103 (.load 136 (.tmp 102)) 136, o 104 (.move (.tmp 2)) 136, o 105 (.call ⟨.builtin .copy, #[.tmp 103, .tmp 104], #[136, 136]⟩) 3] false) (.seq (.seq (.region 8 #[o 106 (.move (.tmp 2)) 136, o 107 (.call ⟨.builtin .len, #[.tmp 106], #[136]⟩) 3, o 8 (.assign (.tmp 107)) 3] false) (.block 0 (.loop L65_0))) (.region 12 #[o 124 (.move (.tmp 0)) 79, o 125 (.move (.tmp 0)) 79, o 126 (.nilCheck (.tmp 125)) 0, o 127 (.fieldAddr 84 (.tmp 126) 3) 0, o 128 (.load 82 (.tmp 127)) 82, o 129 (.move (.tmp 7)) 131, o 130 (.buildSlice 82 1 #[(0, .tmp 129)]) 82, o 131 (.call ⟨.builtin .append, #[.tmp 128, .tmp 130], #[82, 82]⟩) 82, o 132 (.nilCheck (.tmp 124)) 0, o 133 (.fieldAddr 84 (.tmp 132) 3) 0, oz (.store 82 (.tmp 133) (.tmp 131)) 0] false)))))))))
theorem cal65 (args : Array Value) (H : IH) (h : args.size ≤ 134) : cal J okAll 65 args H = finish J [] (run J okAll C65 (regsOf args.toList 0 .leaf) H) := cal_er J H okAll 65 args Tryz.f65 _ C65 _ rfl rfl rfl (by kernel_rfl) rfl h rfl rfl
def C66 : Code := (.seq (.region 0 #[o 2 (.assign (.const (.pointer none))) 131] false) (.seq (.region 1 #[o 3 (.move (.tmp 0)) 79, o 4 (.nilCheck (.tmp 3)) 0, o 5 (.fieldAddr 84 (.tmp 4) 3) 0, o 6 (.load 82 (.tmp 5)) 82, o 7 (.move (.tmp 0)) 79, o 8 (.nilCheck (.tmp 7)) 0, o 9 (.fieldAddr 84 (.tmp 8) 3) 0, o 10 (.load 82 (.tmp 9)) 82, o 11 (.call ⟨.builtin .len, #[.tmp 10], #[82]⟩) 3, o 12 (.binOp .sub 3 (.tmp 11) (xi 1) 3) 3, o 13 (.indexAddr 82 (.tmp 6) (.tmp 12)) 0, o 14 (.load 131 (.tmp 13)) 131, o 2 (.assign (.tmp 14)) 131] false) .ret))
theorem cal66 (args : Array Value) (H : IH) (h : args.size ≤ 15) : cal J okAll 66 args H = finish J [.tmp 2] (run J okAll C66 (regsOf args.toList 0 .leaf) H) := cal_er J H okAll 66 args Tryz.f66 _ C66 _ rfl rfl rfl (by kernel_rfl) rfl h rfl rfl
def C67 : Code := (.region 0 #[o 4 (.move (.tmp 1)) 3, o 5 (.build 86 #[(0, .tmp 4)]) 86, o 6 (.makeInterface 86 (.tmp 5)) 20, oz (.panic (.tmp 6)) 0] false)
theorem cal67 (args : Array Value) (H : IH) (h : args.size ≤ 7) : cal J okAll 67 args H = finish J [] (run J okAll C67 (regsOf args.toList 0 .leaf) H) := cal_er J H okAll 67 args Tryz.f67 _ C67 _ rfl rfl rfl (by kernel_rfl) rfl h rfl rfl
def C68 : Code := (.seq (.region 0 #[o 6 (.move (.tmp 1)) 139, o 7 (.nilCheck (.tmp 6)) 0, o 8 (.fieldAddr 30 (.tmp 7) 0) 0, o 9 (.load 3 (.tmp 8)) 3] false) (.block 0 (.seq (.region 2 #[o 13 (.binOp .eql 3 (.tmp 9) (xi 18) 3) 4, o 12 (.assign (.tmp 13)) 4] false) (.cond (.tmp 12) (.region 3 #[o 14 (.move (.tmp 0)) 79, o 15 (.move (.tmp 1)) 139, o 16 (.nilCheck (.tmp 15)) 0, o 17 (.fieldAddr 30 (.tmp 16) 2) 0, o 18 (.load 3 (.tmp 17)) 3, o 19 (.call ⟨.value (.func 97), #[.tmp 14, .tmp 18], #[79, 3]⟩) 0] false) (.seq (.region 4 #[o 21 (.binOp .eql 3 (.tmp 9) (xi 19) 3) 4, o 20 (.assign (.tmp 21)) 4] false) (.cond (.tmp 20) (.seq (.region 5 #[o 22 (.move (.tmp 0)) 79, o 23 (.move (.tmp 1)) 139, o 24 (.nilCheck (.tmp 23)) 0, o 25 (.fieldAddr 30 (.tmp 24) 2) 0, o 26 (.load 3 (.tmp 25)) 3, o 27 (.call ⟨.value (.func 98), #[.tmp 22, .tmp 26], #[79, 3]⟩) 2, o 28 (.binOp .neq 2 (.tmp 27) (xi 0) 2) 4] false) (.cond (.tmp 28) (.region 6 #[o 29 (.move (.tmp 0)) 79, o 30 (.move (.tmp 1)) 139, o 31 (.nilCheck (.tmp 30)) 0, o 32 (.fieldAddr 30 (.tmp 31) 3) 0, o 33 (.load 3 (.tmp 32)) 3, o 34 (.call ⟨.value (.func 97), #[.tmp 29, .tmp 33], #[79, 3]⟩) 0] false) (.region 7 #[o 35 (.move (.tmp 0)) 79, o 36 (.move (.tmp 1)) 139, o 37 (.nilCheck (.tmp 36)) 0, o 38 (.fieldAddr 30 (.tmp 37) 4) 0, o 39 (.load 3 (.tmp 38)) 3, o 40 (.call ⟨.value (.func 97), #[.tmp 35, .tmp 39], #[79, 3]⟩) 0] false))) (.seq (.region 8 #[o 42 (.binOp .eql 3 (.tmp 9) (xi 20) 3) 4, o 41 (.assign (.tmp 42)) 4] false) (.cond (.tmp 41) (.region 9 #[o 43 (.move (.tmp 0)) 79, o 44 (.move (.tmp 1)) 139, o 45 (.call ⟨.value (.func 99), #[.tmp 43, .tmp 44], #[79, 139]⟩) 0] false) (.seq (.region 10 #[o 47 (.binOp .eql 3 (.tmp 9) (xi 21) 3) 4, o 46 (.assign (.tmp 47)) 4] false) (.cond (.tmp 46) (.seq (.region 11 #[o 48 (.move (.tmp 0)) 79, o 49 (.move (.tmp 1)) 139, o 50 (.nilCheck (.tmp 49)) 0, o 51 (.fieldAddr 30 (.tmp 50) 6) 0, o 52 (.load 28 (.tmp 51)) 28, o 53 (.call ⟨.value (.func 100), #[.tmp 48, .tmp 52], #[79, 28]⟩) 136, o 4 (.assign (.tmp 53)) 136] false) (.seq (.region 12 #[o 54 (.move (.tmp 0)) 79, o 55 (.call ⟨.value (.func 101), #[.tmp 54], #[79]⟩) 0] false) (.region 13 #[o 56 (.move (.tmp 0)) 79, o 57 (.move (.tmp 1)) 139, o 58 (.nilCheck (.tmp 57)) 0, o 59 (.fieldAddr 30 (.tmp 58) 2) 0, o 60 (.load 3 (.tmp 59)) 3, o 61 (.move (.tmp 4)) 136, o 62 (.call ⟨.value (.func 65), #[.tmp 56, .tmp 60, .tmp 61], #[79, 3, 136]⟩) 0] false))) (.seq (.region 14 #[o 64 (.binOp .eql 3 (.tmp 9) (xi 22) 3) 4, o 63 (.assign (.tmp 64)) 4] false) (.cond (.tmp 63) (.seq (.region 15 #[o 65 (.move (.tmp 0)) 79, o 66 (.move (.tmp 1)) 139, o 67 (.nilCheck (.tmp 66)) 0, o 68 (.fieldAddr 30 (.tmp 67) 2) 0, o 69 (.load 3 (.tmp 68)) 3, o 70 (.call ⟨.value (.func 102), #[.tmp 65, .tmp 69], #[79, 3]⟩) 175, o 71 (.nilCheck (.tmp 70)) 0, o 72 (.load 62 (.tmp 71)) 62, o 5 (.assign (.tmp 72)) 62] false) (.seq (.region 16 #[o 73 (.move (.tmp 0)) 79, o 74 (.call ⟨.value (.func 101), #[.tmp 73], #[79]⟩) 0] false) (.seq (.seq (.region 17 #[o 75 (.move (.tmp 0)) 79, o 76 (.nilCheck (.tmp 75)) 0, o 77 (.fieldAddr 84 (.tmp 76) 3) 0, o 78 (.load 82 (.tmp 77)) 82, o 79 (.call ⟨.builtin .len, #[.tmp 78], #[82]⟩) 3, o 80 (.binOp .eql 3 (.tmp 79) (xi 0) 3) 4] false) (.cond (.tmp 80) (.region 18 #[o 81 (.move (.tmp 0)) 79, o 82 (.call ⟨.value (.func 67), #[.tmp 81, xi 1], #[79, 3]⟩) 0] false) .skip)) (.region 19 #[o 83 (.move (.tmp 0)) 79, o 84 (.move (.tmp 0)) 79, o 85 (.call ⟨.value (.func 66), #[.tmp 84], #[79]⟩) 131, o 86 (.call ⟨.value (.func 104), #[.tmp 85], #[131]⟩) 139, o 87 (.nilCheck (.tmp 86)) 0, o 88 (.fieldAddr 30 (.tmp 87) 1) 0, o 89 (.load 3 (.tmp 88)) 3, o 90 (.move (.tmp 5)) 62, o 91 (.call ⟨.value (.func 103), #[.tmp 83, .tmp 89, .tmp 90], #[79, 3, 62]⟩) 0] false)))) (.seq (.region 20 #[o 93 (.binOp .eql 3 (.tmp 9) (xi 23) 3) 4, o 92 (.assign (.tmp 93)) 4] false) (.cond (.tmp 92) (.region 21 #[o 94 (.move (.tmp 0)) 79, o 95 (.move (.tmp 0)) 79, o 96 (.move (.tmp 1)) 139, o 97 (.nilCheck (.tmp 96)) 0, o 98 (.fieldAddr 30 (.tmp 97) 2) 0, o 99 (.load 3 (.tmp 98)) 3, o 100 (.call ⟨.value (.func 102), #[.tmp 95, .tmp 99], #[79, 3]⟩) 175, o 101 (.nilCheck (.tmp 100)) 0, o 102 (.load 62 (.tmp 101)) 62, o 103 (.call ⟨.value (.func 105), #[.tmp 94, .tmp 102], #[79, 62]⟩) 0] false) (.region 1 #[o 10 (.move (.tmp 0)) 79, o 11 (.call ⟨.value (.func 67), #[.tmp 10, xi 6], #[79, 3]⟩) 0] false)))))))))))))))
theorem cal68 (args : Array Value) (H : IH) (h : args.size ≤ 104) : cal J okAll 68 args H = finish J [] (run J okAll C68 (regsOf args.toList 0 .leaf) H) := cal_er J H okAll 68 args Tryz.f68 _ C68 _ rfl rfl rfl (by kernel_rfl) rfl h rfl rfl
def D69_5 : List Oper := regOf Tryz.f69 5
@[simp] def A69_5 : List Ann := [a0 (o 29 (.move (.tmp 0)) 79), a0 (o 30 (.move (.tmp 1)) 139), a0 (o 31 (.nilCheck (.tmp 30)) 0), a0 (o 32 (.fieldAddr 30 (.tmp 31) 1) 0), al (o 33 (.load 3 (.tmp 32)) 3) [1], a0 (o 34 (.move (.tmp 0)) 79), a0 (o 35 (.move (.tmp 1)) 139), a0 (o 36 (.nilCheck (.tmp 35)) 0), a0 (o 37 (.fieldAddr 30 (.tmp 36) 2) 0), a0 (o 38 (.load 3 (.tmp 37)) 3), ae (o 39 (.call ⟨.value (.func 102), #[.tmp 34, .tmp 38], #[79, 3]⟩) 175) true, a0 (o 40 (.nilCheck (.tmp 39)) 0), a0 (o 41 (.load 62 (.tmp 40)) 62), ae (o 42 (.call ⟨.value (.func 103), #[.tmp 29, .tmp 33, .tmp 41], #[79, 3, 62]⟩) 0) true]
def O69_5 : List Oper := A69_5.map (·.o)
@[simp] theorem r69_5 (T : Regs) (H : IH) : run J okAll (.region 5 D69_5.toArray true) T H = annSel J okAll D69_5.toArray T H (eRun J (cal J okAll) O69_5.toArray A69_5 T H 0 []) := r_ann (by kernel_rfl) (by kernel_rfl) 5 T H
def D69_18 : List Oper := regOf Tryz.f69 18
@[simp] def A69_18 : List Ann := [a0 (o 104 (.move (.tmp 0)) 79), a0 (o 105 (.move (.tmp 0)) 79), a0 (o 106 (.nilCheck (.tmp 105)) 0), a0 (o 107 (.fieldAddr 84 (.tmp 106) 7) 0), a0 (o 108 (.fieldAddr 44 (.tmp 107) 1) 0), al (o 109 (.load 34 (.tmp 108)) 34) [1, 2], a0 (o 110 (.move (.tmp 0)) 79), a0 (o 111 (.move (.tmp 1)) 139), a0 (o 112 (.nilCheck (.tmp 111)) 0), a0 (o 113 (.fieldAddr 30 (.tmp 112) 2) 0), a0 (o 114 (.load 3 (.tmp 113)) 3), ae (o 115 (.call ⟨.value (.func 98), #[.tmp 110, .tmp 114], #[79, 3]⟩) 2) true, a0 (o 116 (.convert 2 5 (.tmp 115)) 5), ae (o 117 (.buildSlice 34 1 #[(0, .tmp 116)]) 34) true, ae (o 118 (.call ⟨.builtin .append, #[.tmp 109, .tmp 117], #[34, 34]⟩) 34) true, a0 (o 119 (.nilCheck (.tmp 104)) 0), a0 (o 120 (.fieldAddr 84 (.tmp 119) 7) 0), a0 (o 121 (.fieldAddr 44 (.tmp 120) 1) 0), ae (oz (.store 34 (.tmp 121) (.tmp 118)) 0) true]
def O69_18 : List Oper := A69_18.map (·.o)
@[simp] theorem r69_18 (T : Regs) (H : IH) : run J okAll (.region 18 D69_18.toArray true) T H = annSel J okAll D69_18.toArray T H (eRun J (cal J okAll) O69_18.toArray A69_18 T H 0 []) := r_ann (by kernel_rfl) (by kernel_rfl) 18 T H
def C69 : Code := (.seq (.region 0 #[o 8 (.move (.tmp 1)) 139, o 9 (.nilCheck (.tmp 8)) 0, o 10 (.fieldAddr 30 (.tmp 9) 0) 0, o 11 (.load 3 (.tmp 10)) 3] false) (.block 0 (.seq (.region 2 #[o 16 (.binOp .eql 3 (.tmp 11) (xi 1) 3) 4, o 15 (.assign (.tmp 16)) 4] false) (.cond (.tmp 15) (.region 3 #[o 17 (.move (.tmp 0)) 79, o 18 (.move (.tmp 1)) 139, o 19 (.nilCheck (.tmp 18)) 0, o 20 (.fieldAddr 30 (.tmp 19) 1) 0, o 21 (.load 3 (.tmp 20)) 3, o 22 (.move (.tmp 1)) 139, o 23 (.nilCheck (.tmp 22)) 0, o 24 (.fieldAddr 30 (.tmp 23) 5) 0, o 25 (.load 2 (.tmp 24)) 2, o 26 (.call ⟨.value (.func 106), #[.tmp 17, .tmp 21, .tmp 25], #[79, 3, 2]⟩) 0] false) (.seq (.region 4 #[o 28 (.binOp .eql 3 (.tmp 11) (xi 3) 3) 4, o 27 (.assign (.tmp 28)) 4] false) (.cond (.tmp 27) (.region 5 D69_5.toArray true) (.seq (.region 6 #[o 44 (.binOp .eql 3 (.tmp 11) (xi 4) 3) 4, o 43 (.assign (.tmp 44)) 4] false) (.cond (.tmp 43) (.seq (.region 7 #[o 46 (.move (.tmp 0)) 79, o 47 (.move (.tmp 1)) 139, o 48 (.call ⟨.value (.func 107), #[.tmp 46, .tmp 47], #[79, 139]⟩) 64, o 45 (.move (.tmp 48)) 64, o 49 (.extract (.tmp 45) 0) 2, o 50 (.extract (.tmp 45) 1) 4, o 4 (.assign (.tmp 49)) 2, o 5 (.assign (.tmp 50)) 4] false) (.seq (.seq (.region 8 #[o 51 (.move (.tmp 5)) 4, o 52 (.unOp .not 4 (.tmp 51)) 4] false) (.cond (.tmp 52) (.seq (.region 9 #[o 53 (.move (.tmp 0)) 79, o 54 (.call ⟨.value (.func 96), #[xi 1], #[2]⟩) 62, o 55 (.call ⟨.value (.func 105), #[.tmp 53, .tmp 54], #[79, 62]⟩) 0] false) .ret) .skip)) (.region 10 #[o 56 (.move (.tmp 0)) 79, o 57 (.move (.tmp 1)) 139, o 58 (.nilCheck (.tmp 57)) 0, o 59 (.fieldAddr 30 (.tmp 58) 1) 0, o 60 (.load 3 (.tmp 59)) 3, o 61 (.move (.tmp 4)) 2, o 62 (.call ⟨.value (.func 106), #[.tmp 56, .tmp 60, .tmp 61], #[79, 3, 2]⟩) 0] false))) (.seq (.region 11 #[o 64 (.binOp .eql 3 (.tmp 11) (xi 15) 3) 4, o 63 (.assign (.tmp 64)) 4] false) (.cond (.tmp 63) (.seq (.region 12 #[o 6 (.assign (xi (-1))) 2] false) (.seq (.seq (.region 13 #[o 65 (.move (.tmp 0)) 79, o 66 (.nilCheck (.tmp 65)) 0, o 67 (.fieldAddr 84 (.tmp 66) 5) 0, o 68 (.load 3 (.tmp 67)) 3, o 69 (.move (.tmp 0)) 79, o 70 (.nilCheck (.tmp 69)) 0, o 71 (.fieldAddr 84 (.tmp 70) 1) 0, o 72 (.fieldAddr 37 (.tmp 71) 0) 0, o 73 (.load 34 (.tmp 72)) 34, o 74 (.call ⟨.builtin .len, #[.tmp 73], #[34]⟩) 3, o 75 (.binOp .lss 3 (.tmp 68) (.tmp 74) 3) 4] false) (.cond (.tmp 75) (.seq (.region 14 #[o 76 (.move (.tmp 0)) 79, o 77 (.nilCheck (.tmp 76)) 0, o 78 (.fieldAddr 84 (.tmp 77) 1) 0, o 79 (.fieldAddr 37 (.tmp 78) 0) 0, o 80 (.load 34 (.tmp 79)) 34, o 81 (.move (.tmp 0)) 79, o 82 (.nilCheck (.tmp 81)) 0, o 83 (.fieldAddr 84 (.tmp 82) 5) 0, o 84 (.load 3 (.tmp 83)) 3, o 85 (.indexAddr 34 (.tmp 80) (.tmp 84)) 0, o 86 (.load 5 (.tmp 85)) 5, o 87 (.convert 5 2 (.tmp 86)) 2, o 6 (.assign (.tmp 87)) 2] false) (.region 15 #[o 88 (.move (.tmp 0)) 79, o 89 (.nilCheck (.tmp 88)) 0, o 90 (.fieldAddr 84 (.tmp 89) 5) 0, o 91 (.load 3 (.tmp 90)) 3, o 92 (.binOp .add 3 (.tmp 91) (xi 1) 3) 3, o 93 (.nilCheck (.tmp 88)) 0, o 94 (.fieldAddr 84 (.tmp 93) 5) 0, oz (.store 3 (.tmp 94) (.tmp 92)) 0] false)) .skip)) (.region 16 #[o 95 (.move (.tmp 0)) 79, o 96 (.move (.tmp 1)) 139, o 97 (.nilCheck (.tmp 96)) 0, o 98 (.fieldAddr 30 (.tmp 97) 1) 0, o 99 (.load 3 (.tmp 98)) 3, o 100 (.move (.tmp 6)) 2, o 101 (.call ⟨.value (.func 106), #[.tmp 95, .tmp 99, .tmp 100], #[79, 3, 2]⟩) 0] false))) (.seq (.region 17 #[o 103 (.binOp .eql 3 (.tmp 11) (xi 16) 3) 4, o 102 (.assign (.tmp 103)) 4] false) (.cond (.tmp 102) (.region 18 D69_18.toArray true) (.seq (.region 19 #[o 123 (.binOp .eql 3 (.tmp 11) (xi 2) 3) 4, o 122 (.assign (.tmp 123)) 4] false) (.cond (.tmp 122) (.seq (.region 20 #[o 124 (.move (.tmp 0)) 79, o 125 (.move (.tmp 1)) 139, o 126 (.nilCheck (.tmp 125)) 0, o 127 (.fieldAddr 30 (.tmp 126) 2) 0, o 128 (.load 3 (.tmp 127)) 3, o 129 (.binOp .geq 3 (.tmp 128) (xi 0) 3) 4, o 130 (.move (.tmp 129)) 4, og 131 (.move (.tmp 1)) 139 6 true, og 132 (.nilCheck (.tmp 131)) 0 6 true, og 133 (.fieldAddr 30 (.tmp 132) 2) 0 6 true, og 134 (.load 3 (.tmp 133)) 3 6 true, og 135 (.move (.tmp 0)) 79 6 true, og 136 (.nilCheck (.tmp 135)) 0 6 true, og 137 (.fieldAddr 84 (.tmp 136) 0) 0 6 true, og 138 (.load 80 (.tmp 137)) 80 6 true, og 139 (.nilCheck (.tmp 138)) 0 6 true, og 140 (.fieldAddr 27 (.tmp 139) 2) 0 6 true, og 141 (.load 24 (.tmp 140)) 24 6 true, og 142 (.call ⟨.builtin .len, #[.tmp 141], #[24]⟩) 3 6 true, og 143 (.binOp .lss 3 (.tmp 134) (.tmp 142) 3) 4 6 true, o 144 (.pick (.tmp 130) (.tmp 143) (.const (.bool false))) 4, o 145 (.move (.tmp 144)) 4, og 146 (.move (.tmp 0)) 79 21 true, og 147 (.nilCheck (.tmp 146)) 0 21 true, og 148 (.fieldAddr 84 (.tmp 147) 2) 0 21 true, og 149 (.load 81 (.tmp 148)) 81 21 true, og 150 (.call ⟨.value (.func 108), #[.tmp 149, xi 0], #[81, 3]⟩) 3 21 true, og 151 (.binOp .eql 3 (.tmp 150) (xi 3) 3) 4 21 true, o 152 (.pick (.tmp 145) (.tmp 151) (.const (.bool false))) 4, o 153 (.call ⟨.value (.func 63), #[.tmp 124, .tmp 152], #[79, 4]⟩) 0] false) (.region 21 #[o 154 (.move (.tmp 0)) 79, o 155 (.move (.tmp 1)) 139, o 156 (.move (.tmp 0)) 79, o 157 (.nilCheck (.tmp 156)) 0, o 158 (.fieldAddr 84 (.tmp 157) 0) 0, o 159 (.load 80 (.tmp 158)) 80, o 160 (.nilCheck (.tmp 159)) 0, o 161 (.fieldAddr 27 (.tmp 160) 2) 0, o 162 (.load 24 (.tmp 161)) 24, o 163 (.move (.tmp 1)) 139, o 164 (.nilCheck (.tmp 163)) 0, o 165 (.fieldAddr 30 (.tmp 164) 2) 0, o 166 (.load 3 (.tmp 165)) 3, o 167 (.indexAddr 24 (.tmp 162) (.tmp 166)) 0, o 168 (.load 9 (.tmp 167)) 9, o 169 (.call ⟨.value (.func 109), #[.tmp 154, .tmp 155, .tmp 168], #[79, 139, 9]⟩) 0] false)) (.seq (.seq (.region 22 #[o 171 (.binOp .eql 3 (.tmp 11) (xi 13) 3) 4, o 170 (.assign (.tmp 171)) 4] false) (.cond (.tmp 170) .skip (.seq (.region 23 #[o 172 (.binOp .eql 3 (.tmp 11) (xi 14) 3) 4, o 170 (.assign (.tmp 172)) 4] false) (.cond (.tmp 170) .skip (.seq (.region 24 #[o 173 (.binOp .eql 3 (.tmp 11) (xi 11) 3) 4, o 170 (.assign (.tmp 173)) 4] false) (.cond (.tmp 170) .skip (.region 25 #[o 174 (.binOp .eql 3 (.tmp 11) (xi 12) 3) 4, o 170 (.assign (.tmp 174)) 4] false))))))) (.cond (.tmp 170) (.region 26 #[o 175 (.move (.tmp 0)) 79, o 176 (.move (.tmp 1)) 139, o 177 (.call ⟨.value (.func 110), #[.tmp 175, .tmp 176], #[79, 139]⟩) 0] false) (.seq (.region 27 #[o 179 (.binOp .eql 3 (.tmp 11) (xi 17) 3) 4, o 178 (.assign (.tmp 179)) 4] false) (.cond (.tmp 178) (.seq (.region 28 #[o 180 (.move (.tmp 0)) 79, o 181 (.move (.tmp 1)) 139, o 182 (.nilCheck (.tmp 181)) 0, o 183 (.fieldAddr 30 (.tmp 182) 6) 0, o 184 (.load 28 (.tmp 183)) 28, o 185 (.call ⟨.value (.func 100), #[.tmp 180, .tmp 184], #[79, 28]⟩) 136, o 7 (.assign (.tmp 185)) 136] false) (.seq (.region 29 #[o 186 (.move (.tmp 0)) 79, o 187 (.move (.tmp 1)) 139, o 188 (.nilCheck (.tmp 187)) 0, o 189 (.fieldAddr 30 (.tmp 188) 8) 0, o 190 (.load 28 (.tmp 189)) 28, o 191 (.call ⟨.value (.func 111), #[.tmp 186, .tmp 190], #[79, 28]⟩) 0] false) (.region 30 #[o 192 (.move (.tmp 0)) 79, o 193 (.move (.tmp 1)) 139, o 194 (.nilCheck (.tmp 193)) 0, o 195 (.fieldAddr 30 (.tmp 194) 2) 0, o 196 (.load 3 (.tmp 195)) 3, o 197 (.move (.tmp 7)) 136, o 198 (.call ⟨.value (.func 65), #[.tmp 192, .tmp 196, .tmp 197], #[79, 3, 136]⟩) 0] false))) (.region 1 #[o 12 (.move (.tmp 0)) 79, o 13 (.move (.tmp 1)) 139, o 14 (.call ⟨.value (.func 112), #[.tmp 12, .tmp 13], #[79, 139]⟩) 0] false)))))))))))))))))))
theorem cal69 (args : Array Value) (H : IH) (h : args.size ≤ 199) : cal J okAll 69 args H = finish J [] (run J okAll C69 (regsOf args.toList 0 .leaf) H) := cal_er J H okAll 69 args Tryz.f69 _ C69 _ rfl rfl rfl (by kernel_rfl) rfl h rfl rfl
def L70_0 : Code := (.seq (.region 4 #[o 52 (.binOp .lss 3 (.tmp 51) (.tmp 50) 3) 0] false) (.seq (.cond (.tmp 52) .skip (.exit 0)) (.seq (.block 1 (.seq (.region 5 #[o 53 (.indexAddr 22 (.tmp 49) (.tmp 51)) 0, o 54 (.load 88 (.tmp 53)) 88, o 4 (.alloc 88) 0, oz (.store 88 (.tmp 4) (.tmp 54)) 0] false) (.seq (.region 6 #[o 55 (.fieldAddr 88 (.tmp 4) 1) 0, o 56 (.load 28 (.tmp 55)) 28, o 57 (.buildSlice 260 1 #[(0, .tmp 56)]) 260, o 58 (.call ⟨.value (.func 118), #[xi 512, .tmp 57], #[3, 260]⟩) 4] false) (.cond (.tmp 58) (.seq (.region 7 #[o 2 (.assign (.const (.bool true))) 4] false) .ret) .skip)))) (.region 8 #[o 59 (.binOp .add 3 (.tmp 51) (xi 1) 3) 3, o 51 (.move (.tmp 59)) 3] false))))
def L70_1 : Code := (.seq (.region 10 #[o 64 (.binOp .lss 3 (.tmp 63) (.tmp 62) 3) 0] false) (.seq (.cond (.tmp 64) .skip (.exit 2)) (.seq (.block 3 (.seq (.region 11 #[o 65 (.indexAddr 23 (.tmp 61) (.tmp 63)) 0, o 66 (.load 90 (.tmp 65)) 90, o 6 (.alloc 90) 0, oz (.store 90 (.tmp 6) (.tmp 66)) 0] false) (.seq (.region 12 #[o 67 (.fieldAddr 90 (.tmp 6) 1) 0, o 68 (.load 28 (.tmp 67)) 28, o 69 (.buildSlice 260 1 #[(0, .tmp 68)]) 260, o 70 (.call ⟨.value (.func 118), #[xi 200, .tmp 69], #[3, 260]⟩) 4, o 71 (.move (.tmp 70)) 4, og 72 (.fieldAddr 90 (.tmp 6) 2) 0 4 false, og 73 (.load 9 (.tmp 72)) 9 4 false, og 74 (.buildSlice 24 1 #[(0, .tmp 73)]) 24 4 false, og 75 (.call ⟨.value (.func 117), #[.tmp 74], #[24]⟩) 4 4 false, o 76 (.pick (.tmp 71) (.const (.bool true)) (.tmp 75)) 4] false) (.cond (.tmp 76) (.seq (.region 13 #[o 2 (.assign (.const (.bool true))) 4] false) .ret) .skip)))) (.region 14 #[o 77 (.binOp .add 3 (.tmp 63) (xi 1) 3) 3, o 63 (.move (.tmp 77)) 3] false))))
def L70_2 : Code := (.seq (.region 28 #[o 124 (.binOp .lss 3 (.tmp 123) (.tmp 122) 3) 0] false) (.seq (.cond (.tmp 124) .skip (.exit 8)) (.seq (.block 9 (.seq (.region 29 #[o 125 (.indexAddr 54 (.tmp 121) (.tmp 123)) 0, o 126 (.load 30 (.tmp 125)) 30, o 13 (.alloc 30) 0, oz (.store 30 (.tmp 13) (.tmp 126)) 0] false) (.seq (.region 30 #[o 127 (.fieldAddr 30 (.tmp 13) 6) 0, o 128 (.load 28 (.tmp 127)) 28, o 129 (.fieldAddr 30 (.tmp 13) 7) 0, o 130 (.load 28 (.tmp 129)) 28, o 131 (.buildSlice 260 2 #[(0, .tmp 128), (1, .tmp 130)]) 260, o 132 (.call ⟨.value (.func 118), #[xi 1024, .tmp 131], #[3, 260]⟩) 4, o 133 (.move (.tmp 132)) 4, og 134 (.fieldAddr 30 (.tmp 13) 8) 0 6 false, og 135 (.load 28 (.tmp 134)) 28 6 false, og 136 (.buildSlice 260 1 #[(0, .tmp 135)]) 260 6 false, og 137 (.call ⟨.value (.func 118), #[xi 200, .tmp 136], #[3, 260]⟩) 4 6 false, o 138 (.pick (.tmp 133) (.const (.bool true)) (.tmp 137)) 4] false) (.cond (.tmp 138) (.seq (.region 31 #[o 2 (.assign (.const (.bool true))) 4] false) .ret) .skip)))) (.region 32 #[o 139 (.binOp .add 3 (.tmp 123) (xi 1) 3) 3, o 123 (.move (.tmp 139)) 3] false))))
def L70_3 : Code := (.seq (.region 22 #[o 104 (.binOp .lss 3 (.tmp 103) (.tmp 102) 3) 0] false) (.seq (.cond (.tmp 104) .skip (.exit 6)) (.seq (.block 7 (.seq (.region 23 #[o 105 (.indexAddr 57 (.tmp 101) (.tmp 103)) 0, o 106 (.load 56 (.tmp 105)) 56, o 11 (.alloc 56) 0, oz (.store 56 (.tmp 11) (.tmp 106)) 0] false) (.seq (.seq (.region 24 #[o 107 (.move (.tmp 7)) 3, o 108 (.fieldAddr 56 (.tmp 11) 1) 0, o 109 (.load 54 (.tmp 108)) 54, o 110 (.call ⟨.builtin .len, #[.tmp 109], #[54]⟩) 3, o 111 (.binOp .sub 3 (.tmp 107) (.tmp 110) 3) 3, o 7 (.assign (.tmp 111)) 3] false) (.seq (.region 25 #[o 112 (.move (.tmp 7)) 3, o 113 (.binOp .lss 3 (.tmp 112) (xi 0) 3) 4, o 114 (.move (.tmp 113)) 4, og 115 (.fieldAddr 56 (.tmp 11) 0) 0 2 false, og 116 (.load 28 (.tmp 115)) 28 2 false, og 117 (.buildSlice 260 1 #[(0, .tmp 116)]) 260 2 false, og 118 (.call ⟨.value (.func 118), #[xi 200, .tmp 117], #[3, 260]⟩) 4 2 false, o 119 (.pick (.tmp 114) (.const (.bool true)) (.tmp 118)) 4] false) (.cond (.tmp 119) (.seq (.region 26 #[o 2 (.assign (.const (.bool true))) 4] false) .ret) .skip))) (.seq (.region 27 #[o 120 (.fieldAddr 56 (.tmp 11) 1) 0, o 121 (.load 54 (.tmp 120)) 54, o 122 (.call ⟨.builtin .len, #[.tmp 121], #[54]⟩) 3, o 123 (.move (xi 0)) 3] false) (.block 8 (.loop L70_2)))))) (.region 33 #[o 140 (.binOp .add 3 (.tmp 103) (xi 1) 3) 3, o 103 (.move (.tmp 140)) 3] false))))
def L70_4 : Code := (.seq (.region 17 #[o 82 (.binOp .lss 3 (.tmp 81) (.tmp 80) 3) 0] false) (.seq (.cond (.tmp 82) .skip (.exit 4)) (.seq (.block 5 (.seq (.region 18 #[o 83 (.indexAddr 25 (.tmp 79) (.tmp 81)) 0, o 84 (.load 59 (.tmp 83)) 59, o 9 (.alloc 59) 0, oz (.store 59 (.tmp 9) (.tmp 84)) 0] false) (.seq (.seq (.region 19 #[o 85 (.fieldAddr 59 (.tmp 9) 2) 0, o 86 (.load 3 (.tmp 85)) 3, o 87 (.binOp .gtr 3 (.tmp 86) (xi 200) 3) 4, o 88 (.move (.tmp 87)) 4, og 89 (.fieldAddr 59 (.tmp 9) 0) 0 3 false, og 90 (.load 28 (.tmp 89)) 28 3 false, og 91 (.buildSlice 260 1 #[(0, .tmp 90)]) 260 3 false, og 92 (.call ⟨.value (.func 118), #[xi 200, .tmp 91], #[3, 260]⟩) 4 3 false, o 93 (.pick (.tmp 88) (.const (.bool true)) (.tmp 92)) 4, o 94 (.move (.tmp 93)) 4, og 95 (.fieldAddr 59 (.tmp 9) 3) 0 9 false, og 96 (.load 57 (.tmp 95)) 57 9 false, og 97 (.buildSlice 262 1 #[(0, .tmp 96)]) 262 9 false, og 98 (.call ⟨.value (.func 119), #[xi 2000, .tmp 97], #[3, 262]⟩) 4 9 false, o 99 (.pick (.tmp 94) (.const (.bool true)) (.tmp 98)) 4] false) (.cond (.tmp 99) (.seq (.region 20 #[o 2 (.assign (.const (.bool true))) 4] false) .ret) .skip)) (.seq (.region 21 #[o 100 (.fieldAddr 59 (.tmp 9) 3) 0, o 101 (.load 57 (.tmp 100)) 57, o 102 (.call ⟨.builtin .len, #[.tmp 101], #[57]⟩) 3, o 103 (.move (xi 0)) 3] false) (.block 6 (.loop L70_3)))))) (.region 34 #[o 141 (.binOp .add 3 (.tmp 81) (xi 1) 3) 3, o 81 (.move (.tmp 141)) 3] false))))
def C70 : Code := (.seq (.region 0 #[o 1 (.box 27 (.tmp 0)) 0, o 2 (.assign (.const (.bool false))) 4] false) (.seq (.seq (.region 1 #[o 14 (.fieldAddr 27 (.tmp 1) 0) 0, o 15 (.load 22 (.tmp 14)) 22, o 16 (.buildSlice 246 1 #[(0, .tmp 15)]) 246, o 17 (.call ⟨.value (.func 113), #[xi 1024, .tmp 16], #[3, 246]⟩) 4, o 18 (.move (.tmp 17)) 4, og 19 (.fieldAddr 27 (.tmp 1) 1) 0 4 false, og 20 (.load 23 (.tmp 19)) 23 4 false, og 21 (.buildSlice 249 1 #[(0, .tmp 20)]) 249 4 false, og 22 (.call ⟨.value (.func 114), #[xi 512, .tmp 21], #[3, 249]⟩) 4 4 false, o 23 (.pick (.tmp 18) (.const (.bool true)) (.tmp 22)) 4, o 24 (.move (.tmp 23)) 4, og 25 (.fieldAddr 27 (.tmp 1) 2) 0 10 false, og 26 (.load 24 (.tmp 25)) 24 10 false, og 27 (.fieldAddr 27 (.tmp 1) 3) 0 10 false, og 28 (.load 24 (.tmp 27)) 24 10 false, og 29 (.buildSlice 252 2 #[(0, .tmp 26), (1, .tmp 28)]) 252 10 false, og 30 (.call ⟨.value (.func 115), #[xi 256, .tmp 29], #[3, 252]⟩) 4 10 false, o 31 (.pick (.tmp 24) (.const (.bool true)) (.tmp 30)) 4, o 32 (.move (.tmp 31)) 4, og 33 (.fieldAddr 27 (.tmp 1) 4) 0 18 false, og 34 (.load 25 (.tmp 33)) 25 18 false, og 35 (.buildSlice 255 1 #[(0, .tmp 34)]) 255 18 false, og 36 (.call ⟨.value (.func 116), #[xi 1024, .tmp 35], #[3, 255]⟩) 4 18 false, o 37 (.pick (.tmp 32) (.const (.bool true)) (.tmp 36)) 4, o 38 (.move (.tmp 37)) 4, og 39 (.fieldAddr 27 (.tmp 1) 2) 0 24 false, og 40 (.load 24 (.tmp 39)) 24 24 false, og 41 (.call ⟨.value (.func 117), #[.tmp 40], #[24]⟩) 4 24 false, o 42 (.pick (.tmp 38) (.const (.bool true)) (.tmp 41)) 4, o 43 (.move (.tmp 42)) 4, og 44 (.fieldAddr 27 (.tmp 1) 3) 0 29 false, og 45 (.load 24 (.tmp 44)) 24 29 false, og 46 (.call ⟨.value (.func 117), #[.tmp 45], #[24]⟩) 4 29 false, o 47 (.pick (.tmp 43) (.const (.bool true)) (.tmp 46)) 4] false) (.cond (.tmp 47) (.seq (.region 2 #[o 2 (.assign (.const (.bool true))) 4] false) .ret) .skip)) (.seq (.seq (.region 3 #[o 48 (.fieldAddr 27 (.tmp 1) 0) 0, o 49 (.load 22 (.tmp 48)) 22, o 50 (.call ⟨.builtin .len, #[.tmp 49], #[22]⟩) 3, o 51 (.move (xi 0)) 3] false) (.block 0 (.loop L70_0))) (.seq (.seq (.region 9 #[o 60 (.fieldAddr 27 (.tmp 1) 1) 0, o 61 (.load 23 (.tmp 60)) 23, o 62 (.call ⟨.builtin .len, #[.tmp 61], #[23]⟩) 3, o 63 (.move (xi 0)) 3] false) (.block 2 (.loop L70_1))) (.seq (.region 15 #[o 7 (.assign (xi 20000)) 3] false) (.seq (.seq (.region 16 #[o 78 (.fieldAddr 27 (.tmp 1) 4) 0, o 79 (.load 25 (.tmp 78)) 25, o 80 (.call ⟨.builtin .len, #[.tmp 79], #[25]⟩) 3, o 81 (.move (xi 0)) 3] false) (.block 4 (.loop L70_4))) (.seq (.region 35 #[o 2 (.assign (.const (.bool false))) 4] false) .ret)))))))
theorem cal70 (args : Array Value) (H : IH) (h : args.size ≤ 142) : cal J okAll 70 args H = finish J [.tmp 2] (run J okAll C70 (regsOf args.toList 0 .leaf) H) := cal_er J H okAll 70 args Tryz.f70 _ C70 _ rfl rfl rfl (by kernel_rfl) rfl h rfl rfl
def C71 : Code := (.seq (.region 0 #[o 4 (.assign (.const (.bool false))) 4] false) (.seq (.region 1 #[o 5 (.move (.tmp 0)) 54, o 6 (.move (.tmp 1)) 142, o 7 (.call ⟨.value (.func 120), #[.tmp 5, .tmp 6], #[54, 142]⟩) 3, o 8 (.binOp .geq 3 (.tmp 7) (xi 0) 3) 4, o 4 (.assign (.tmp 8)) 4] false) .ret))
theorem cal71 (args : Array Value) (H : IH) (h : args.size ≤ 9) : cal J okAll 71 args H = finish J [.tmp 4] (run J okAll C71 (regsOf args.toList 0 .leaf) H) := cal_er J H okAll 71 args Tryz.f71 _ C71 _ rfl rfl rfl (by kernel_rfl) rfl h rfl rfl
def C72 : Code := (.seq (.region 0 #[o 1 (.box 30 (.tmp 0)) 0, o 2 (.assign (.const (.bool false))) 4] false) (.seq (.region 1 #[o 3 (.load 30 (.tmp 1)) 30, o 4 (.call ⟨.value (.func 73), #[.tmp 3], #[30]⟩) 4, o 5 (.unOp .not 4 (.tmp 4)) 4, o 2 (.assign (.tmp 5)) 4] false) .ret))
theorem cal72 (args : Array Value) (H : IH) (h : args.size ≤ 6) : cal J okAll 72 args H = finish J [.tmp 2] (run J okAll C72 (regsOf args.toList 0 .leaf) H) := cal_er J H okAll 72 args Tryz.f72 _ C72 _ rfl rfl rfl (by kernel_rfl) rfl h rfl rfl
def L73_0 : Code := (.seq (.region 4 #[o 16 (.binOp .lss 3 (.tmp 15) (.tmp 14) 3) 0] false) (.seq (.cond (.tmp 16) .skip (.exit 0)) (.seq (.block 1 (.seq (.region 5 #[o 17 (.indexAddr 34 (.tmp 13) (.tmp 15)) 0, o 18 (.load 5 (.tmp 17)) 5, o 6 (.assign (.tmp 18)) 5] false) (.seq (.region 6 #[o 19 (.move (.tmp 6)) 5, o 20 (.binOp .eql 5 (.tmp 19) (.const (.int .u8 78)) 5) 4] false) (.cond (.tmp 20) (.region 7 #[o 21 (.fieldAddr 30 (.tmp 3) 5) 0, oz (.store 2 (.tmp 21) (xi 0)) 0] false) (.seq (.region 8 #[o 22 (.move (.tmp 6)) 5, o 23 (.call ⟨.value (.func 122), #[.tmp 3, .tmp 22], #[139, 5]⟩) 193, o 7 (.assign (.tmp 23)) 193] false) (.seq (.region 9 #[o 24 (.move (.tmp 7)) 193, o 25 (.binOp .neq 193 (.tmp 24) (.const (.pointer none)) 193) 4] false) (.cond (.tmp 25) (.region 10 #[o 26 (.move (.tmp 7)) 193, o 27 (.nilCheck (.tmp 26)) 0, oz (.store 3 (.tmp 27) (xi 0)) 0] false) (.region 11 #[o 28 (.move (.tmp 6)) 5, o 29 (.call ⟨.value (.func 123), #[.tmp 3, .tmp 28], #[139, 5]⟩) 195, o 30 (.nilCheck (.tmp 29)) 0, oz (.store 28 (.tmp 30) (.const (.slice none 0 0))) 0] false)))))))) (.region 12 #[o 31 (.binOp .add 3 (.tmp 15) (xi 1) 3) 3, o 15 (.move (.tmp 31)) 3] false))))
def C73 : Code := (.seq (.region 0 #[o 1 (.box 30 (.tmp 0)) 0, o 2 (.assign (.const (.bool false))) 4] false) (.seq (.region 1 #[o 8 (.load 30 (.tmp 1)) 30, o 3 (.alloc 30) 0, oz (.store 30 (.tmp 3) (.tmp 8)) 0] false) (.seq (.region 2 #[o 9 (.fieldAddr 30 (.tmp 1) 0) 0, o 10 (.load 3 (.tmp 9)) 3, o 11 (.call ⟨.value (.func 121), #[.tmp 10], #[3]⟩) 9, o 4 (.assign (.tmp 11)) 9] false) (.seq (.seq (.region 3 #[o 12 (.move (.tmp 4)) 9, o 13 (.convert 9 34 (.tmp 12)) 34, o 14 (.call ⟨.builtin .len, #[.tmp 13], #[34]⟩) 3, o 15 (.move (xi 0)) 3] false) (.block 0 (.loop L73_0))) (.seq (.region 13 #[o 32 (.move (.tmp 4)) 9, o 33 (.binOp .neq 9 (.tmp 32) (.const (.string ⟨#[]⟩)) 9) 4, o 34 (.move (.tmp 33)) 4, og 35 (.fieldAddr 30 (.tmp 3) 1) 0 2 true, og 36 (.load 3 (.tmp 35)) 3 2 true, og 37 (.binOp .eql 3 (.tmp 36) (xi 0) 3) 4 2 true, o 38 (.pick (.tmp 34) (.tmp 37) (.const (.bool false))) 4, o 39 (.move (.tmp 38)) 4, og 40 (.fieldAddr 30 (.tmp 3) 2) 0 7 true, og 41 (.load 3 (.tmp 40)) 3 7 true, og 42 (.binOp .eql 3 (.tmp 41) (xi 0) 3) 4 7 true, o 43 (.pick (.tmp 39) (.tmp 42) (.const (.bool false))) 4, o 44 (.move (.tmp 43)) 4, og 45 (.fieldAddr 30 (.tmp 3) 3) 0 12 true, og 46 (.load 3 (.tmp 45)) 3 12 true, og 47 (.binOp .eql 3 (.tmp 46) (xi 0) 3) 4 12 true, o 48 (.pick (.tmp 44) (.tmp 47) (.const (.bool false))) 4, o 49 (.move (.tmp 48)) 4, og 50 (.fieldAddr 30 (.tmp 3) 4) 0 17 true, og 51 (.load 3 (.tmp 50)) 3 17 true, og 52 (.binOp .eql 3 (.tmp 51) (xi 0) 3) 4 17 true, o 53 (.pick (.tmp 49) (.tmp 52) (.const (.bool false))) 4, o 54 (.move (.tmp 53)) 4, og 55 (.fieldAddr 30 (.tmp 3) 5) 0 22 true, og 56 (.load 2 (.tmp 55)) 2 22 true, og 57 (.binOp .eql 2 (.tmp 56) (xi 0) 2) 4 22 true, o 58 (.pick (.tmp 54) (.tmp 57) (.const (.bool false))) 4, o 59 (.move (.tmp 58)) 4, og 60 (.fieldAddr 30 (.tmp 3) 6) 0 27 true, og 61 (.load 28 (.tmp 60)) 28 27 true, og 62 (.call ⟨.builtin .len, #[.tmp 61], #[28]⟩) 3 27 true, og 63 (.binOp .eql 3 (.tmp 62) (xi 0) 3) 4 27 true, o 64 (.pick (.tmp 59) (.tmp 63) (.const (.bool false))) 4, o 65 (.move (.tmp 64)) 4, og 66 (.fieldAddr 30 (.tmp 3) 7) 0 33 true, og 67 (.load 28 (.tmp 66)) 28 33 true, og 68 (.call ⟨.builtin .len, #[.tmp 67], #[28]⟩) 3 33 true, og 69 (.binOp .eql 3 (.tmp 68) (xi 0) 3) 4 33 true, o 70 (.pick (.tmp 65) (.tmp 69) (.const (.bool false))) 4, o 71 (.move (.tmp 70)) 4, og 72 (.fieldAddr 30 (.tmp 3) 8) 0 39 true, og 73 (.load 28 (.tmp 72)) 28 39 true, og 74 (.call ⟨.builtin .len, #[.tmp 73], #[28]⟩) 3 39 true, og 75 (.binOp .eql 3 (.tmp 74) (xi 0) 3) 4 39 true, o 76 (.pick (.tmp 71) (.tmp 75) (.const (.bool false))) 4, o 2 (.assign (.tmp 76)) 4] false) .ret)))))
theorem cal73 (args : Array Value) (H : IH) (h : args.size ≤ 77) : cal J okAll 73 args H = finish J [.tmp 2] (run J okAll C73 (regsOf args.toList 0 .leaf) H) := cal_er J H okAll 73 args Tryz.f73 _ C73 _ rfl rfl rfl (by kernel_rfl) rfl h rfl rfl
end
end Go.Proofs.YtchlbfmjnhgpgaaGreat.Idl
