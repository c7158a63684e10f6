/- The ideal machine's tables for this seat: types, functions; printed by genenv.py out of the loaded program. -/
import Derived.Test.YtjbcjcibnjbpcaaDoorP1
import Derived.Test.YtjbcjcibnjbpcaaDoorChecked
namespace Go.Proofs.YtjbcjcibnjbpcaaDoor.Idl
open Go
set_option maxRecDepth 100000
def tyI0 : TyI := ⟨(TypeDesc.tuple #[]), 1, 0, some ((Value.tuple #[]))⟩
theorem tyI0_ok : TyOk Tryd.prog 0 tyI0 := tyOk_mk (by kernel_rfl) (by kernel_rfl) (by kernel_rfl)
def tyI1 : TyI := ⟨(TypeDesc.func #[] #[] false), 1, 8, some Value.nilFunc⟩
theorem tyI1_ok : TyOk Tryd.prog 1 tyI1 := tyOk_mk (by kernel_rfl) (by kernel_rfl) (by kernel_rfl)
def tyI2 : TyI := ⟨(TypeDesc.int IntKind.i64), 1, 8, some ((Value.int IntKind.i64 0))⟩
theorem tyI2_ok : TyOk Tryd.prog 2 tyI2 := tyOk_mk (by kernel_rfl) (by kernel_rfl) (by kernel_rfl)
def tyI3 : TyI := ⟨(TypeDesc.int IntKind.i64), 1, 8, some ((Value.int IntKind.i64 0))⟩
theorem tyI3_ok : TyOk Tryd.prog 3 tyI3 := tyOk_mk (by kernel_rfl) (by kernel_rfl) (by kernel_rfl)
def tyI4 : TyI := ⟨TypeDesc.bool, 1, 1, some ((Value.bool false))⟩
theorem tyI4_ok : TyOk Tryd.prog 4 tyI4 := tyOk_mk (by kernel_rfl) (by kernel_rfl) (by kernel_rfl)
def tyI5 : TyI := ⟨(TypeDesc.int IntKind.u8), 1, 1, some ((Value.int IntKind.u8 0))⟩
theorem tyI5_ok : TyOk Tryd.prog 5 tyI5 := tyOk_mk (by kernel_rfl) (by kernel_rfl) (by kernel_rfl)
def tyI6 : TyI := ⟨(TypeDesc.int IntKind.u8), 1, 1, some ((Value.int IntKind.u8 0))⟩
theorem tyI6_ok : TyOk Tryd.prog 6 tyI6 := tyOk_mk (by kernel_rfl) (by kernel_rfl) (by kernel_rfl)
def tyI7 : TyI := ⟨(TypeDesc.struct #[{ name := "x", type := 2, offset := 0, embedded := false, tag := "", pkgPath := "runtime", byteOffset := 0 }, { name := "y", type := 3, offset := 1, embedded := false, tag := "", pkgPath := "runtime", byteOffset := 8 }, { name := "signed", type := 4, offset := 2, embedded := false, tag := "", pkgPath := "runtime", byteOffset := 16 }, { name := "code", type := 6, offset := 3, embedded := false, tag := "", pkgPath := "runtime", byteOffset := 17 }]), 4, 24, some ((Value.agg #[Value.int IntKind.i64 0, Value.int IntKind.i64 0, Value.bool false, Value.int IntKind.u8 0]))⟩
theorem tyI7_ok : TyOk Tryd.prog 7 tyI7 := tyOk_mk (by kernel_rfl) (by kernel_rfl) (by kernel_rfl)
def tyI8 : TyI := ⟨(TypeDesc.struct #[{ name := "x", type := 2, offset := 0, embedded := false, tag := "", pkgPath := "runtime", byteOffset := 0 }, { name := "y", type := 3, offset := 1, embedded := false, tag := "", pkgPath := "runtime", byteOffset := 8 }, { name := "signed", type := 4, offset := 2, embedded := false, tag := "", pkgPath := "runtime", byteOffset := 16 }, { name := "code", type := 6, offset := 3, embedded := false, tag := "", pkgPath := "runtime", byteOffset := 17 }]), 4, 24, some ((Value.agg #[Value.int IntKind.i64 0, Value.int IntKind.i64 0, Value.bool false, Value.int IntKind.u8 0]))⟩
theorem tyI8_ok : TyOk Tryd.prog 8 tyI8 := tyOk_mk (by kernel_rfl) (by kernel_rfl) (by kernel_rfl)
def tyI9 : TyI := ⟨TypeDesc.string, 1, 16, some ((Value.string { data := #[] }))⟩
theorem tyI9_ok : TyOk Tryd.prog 9 tyI9 := tyOk_mk (by kernel_rfl) (by kernel_rfl) (by kernel_rfl)
def tyI10 : TyI := ⟨TypeDesc.string, 1, 16, some ((Value.string { data := #[] }))⟩
theorem tyI10_ok : TyOk Tryd.prog 10 tyI10 := tyOk_mk (by kernel_rfl) (by kernel_rfl) (by kernel_rfl)
def tyI11 : TyI := ⟨TypeDesc.string, 1, 16, some ((Value.string { data := #[] }))⟩
theorem tyI11_ok : TyOk Tryd.prog 11 tyI11 := tyOk_mk (by kernel_rfl) (by kernel_rfl) (by kernel_rfl)
def tyI12 : TyI := ⟨(TypeDesc.int IntKind.u64), 1, 8, some ((Value.int IntKind.u64 0))⟩
theorem tyI12_ok : TyOk Tryd.prog 12 tyI12 := tyOk_mk (by kernel_rfl) (by kernel_rfl) (by kernel_rfl)
def tyI13 : TyI := ⟨(TypeDesc.struct #[{ name := "msg", type := 9, offset := 0, embedded := false, tag := "", pkgPath := "runtime", byteOffset := 0 }, { name := "addr", type := 12, offset := 1, embedded := false, tag := "", pkgPath := "runtime", byteOffset := 16 }]), 2, 24, some ((Value.agg #[Value.string { data := #[] }, Value.int IntKind.u64 0]))⟩
theorem tyI13_ok : TyOk Tryd.prog 13 tyI13 := tyOk_mk (by kernel_rfl) (by kernel_rfl) (by kernel_rfl)
def tyI14 : TyI := ⟨(TypeDesc.struct #[{ name := "msg", type := 9, offset := 0, embedded := false, tag := "", pkgPath := "runtime", byteOffset := 0 }, { name := "addr", type := 12, offset := 1, embedded := false, tag := "", pkgPath := "runtime", byteOffset := 16 }]), 2, 24, some ((Value.agg #[Value.string { data := #[] }, Value.int IntKind.u64 0]))⟩
theorem tyI14_ok : TyOk Tryd.prog 14 tyI14 := tyOk_mk (by kernel_rfl) (by kernel_rfl) (by kernel_rfl)
def tyI15 : TyI := ⟨(TypeDesc.pointer 135), 1, 8, some ((Value.pointer none))⟩
theorem tyI15_ok : TyOk Tryd.prog 15 tyI15 := tyOk_mk (by kernel_rfl) (by kernel_rfl) (by kernel_rfl)
def tyI16 : TyI := ⟨(TypeDesc.pointer 138), 1, 8, some ((Value.pointer none))⟩
theorem tyI16_ok : TyOk Tryd.prog 16 tyI16 := tyOk_mk (by kernel_rfl) (by kernel_rfl) (by kernel_rfl)
def tyI17 : TyI := ⟨(TypeDesc.pointer 145), 1, 8, some ((Value.pointer none))⟩
theorem tyI17_ok : TyOk Tryd.prog 17 tyI17 := tyOk_mk (by kernel_rfl) (by kernel_rfl) (by kernel_rfl)
def tyI18 : TyI := ⟨(TypeDesc.struct #[{ name := "typ", type := 17, offset := 0, embedded := false, tag := "", pkgPath := "internal/runtime/maps", byteOffset := 0 }]), 1, 8, some ((Value.agg #[Value.pointer none]))⟩
theorem tyI18_ok : TyOk Tryd.prog 18 tyI18 := tyOk_mk (by kernel_rfl) (by kernel_rfl) (by kernel_rfl)
def tyI19 : TyI := ⟨(TypeDesc.struct #[{ name := "typ", type := 17, offset := 0, embedded := false, tag := "", pkgPath := "internal/runtime/maps", byteOffset := 0 }]), 1, 8, some ((Value.agg #[Value.pointer none]))⟩
theorem tyI19_ok : TyOk Tryd.prog 19 tyI19 := tyOk_mk (by kernel_rfl) (by kernel_rfl) (by kernel_rfl)
def tyI20 : TyI := ⟨(TypeDesc.interface #[]), 1, 16, some Value.nilIface⟩
theorem tyI20_ok : TyOk Tryd.prog 20 tyI20 := tyOk_mk (by kernel_rfl) (by kernel_rfl) (by kernel_rfl)
def tyI21 : TyI := ⟨(TypeDesc.int IntKind.i32), 1, 4, some ((Value.int IntKind.i32 0))⟩
theorem tyI21_ok : TyOk Tryd.prog 21 tyI21 := tyOk_mk (by kernel_rfl) (by kernel_rfl) (by kernel_rfl)
def tyI22 : TyI := ⟨(TypeDesc.func #[9] #[9] false), 1, 8, some Value.nilFunc⟩
theorem tyI22_ok : TyOk Tryd.prog 22 tyI22 := tyOk_mk (by kernel_rfl) (by kernel_rfl) (by kernel_rfl)
def tyI23 : TyI := ⟨(TypeDesc.slice 31), 1, 24, some ((Value.slice none 0 0))⟩
theorem tyI23_ok : TyOk Tryd.prog 23 tyI23 := tyOk_mk (by kernel_rfl) (by kernel_rfl) (by kernel_rfl)
def tyI24 : TyI := ⟨(TypeDesc.int IntKind.i64), 1, 8, some ((Value.int IntKind.i64 0))⟩
theorem tyI24_ok : TyOk Tryd.prog 24 tyI24 := tyOk_mk (by kernel_rfl) (by kernel_rfl) (by kernel_rfl)
def tyI25 : TyI := ⟨(TypeDesc.tuple #[23, 24, 3]), 1, 0, some ((Value.tuple #[Value.slice none 0 0, Value.int IntKind.i64 0, Value.int IntKind.i64 0]))⟩
theorem tyI25_ok : TyOk Tryd.prog 25 tyI25 := tyOk_mk (by kernel_rfl) (by kernel_rfl) (by kernel_rfl)
def tyI26 : TyI := ⟨(TypeDesc.func #[9] #[23, 24, 3] false), 1, 8, some Value.nilFunc⟩
theorem tyI26_ok : TyOk Tryd.prog 26 tyI26 := tyOk_mk (by kernel_rfl) (by kernel_rfl) (by kernel_rfl)
def tyI27 : TyI := ⟨(TypeDesc.func #[23, 23] #[4] false), 1, 8, some Value.nilFunc⟩
theorem tyI27_ok : TyOk Tryd.prog 27 tyI27 := tyOk_mk (by kernel_rfl) (by kernel_rfl) (by kernel_rfl)
def tyI28 : TyI := ⟨(TypeDesc.func #[] #[4] false), 1, 8, some Value.nilFunc⟩
theorem tyI28_ok : TyOk Tryd.prog 28 tyI28 := tyOk_mk (by kernel_rfl) (by kernel_rfl) (by kernel_rfl)
def tyI29 : TyI := ⟨(TypeDesc.func #[9] #[4] false), 1, 8, some Value.nilFunc⟩
theorem tyI29_ok : TyOk Tryd.prog 29 tyI29 := tyOk_mk (by kernel_rfl) (by kernel_rfl) (by kernel_rfl)
def tyI30 : TyI := ⟨(TypeDesc.struct #[{ name := "Kind", type := 3, offset := 0, embedded := false, tag := "", pkgPath := "", byteOffset := 0 }, { name := "At", type := 3, offset := 1, embedded := false, tag := "", pkgPath := "", byteOffset := 8 }, { name := "Text", type := 9, offset := 2, embedded := false, tag := "", pkgPath := "", byteOffset := 16 }, { name := "N", type := 2, offset := 3, embedded := false, tag := "", pkgPath := "", byteOffset := 32 }]), 4, 40, some ((Value.agg #[Value.int IntKind.i64 0, Value.int IntKind.i64 0, Value.string { data := #[] }, Value.int IntKind.i64 0]))⟩
theorem tyI30_ok : TyOk Tryd.prog 30 tyI30 := tyOk_mk (by kernel_rfl) (by kernel_rfl) (by kernel_rfl)
def tyI31 : TyI := ⟨(TypeDesc.struct #[{ name := "Kind", type := 3, offset := 0, embedded := false, tag := "", pkgPath := "", byteOffset := 0 }, { name := "At", type := 3, offset := 1, embedded := false, tag := "", pkgPath := "", byteOffset := 8 }, { name := "Text", type := 9, offset := 2, embedded := false, tag := "", pkgPath := "", byteOffset := 16 }, { name := "N", type := 2, offset := 3, embedded := false, tag := "", pkgPath := "", byteOffset := 32 }]), 4, 40, some ((Value.agg #[Value.int IntKind.i64 0, Value.int IntKind.i64 0, Value.string { data := #[] }, Value.int IntKind.i64 0]))⟩
theorem tyI31_ok : TyOk Tryd.prog 31 tyI31 := tyOk_mk (by kernel_rfl) (by kernel_rfl) (by kernel_rfl)
def tyI32 : TyI := ⟨(TypeDesc.func #[23] #[9] false), 1, 8, some Value.nilFunc⟩
theorem tyI32_ok : TyOk Tryd.prog 32 tyI32 := tyOk_mk (by kernel_rfl) (by kernel_rfl) (by kernel_rfl)
def tyI33 : TyI := ⟨(TypeDesc.func #[23] #[4] false), 1, 8, some Value.nilFunc⟩
theorem tyI33_ok : TyOk Tryd.prog 33 tyI33 := tyOk_mk (by kernel_rfl) (by kernel_rfl) (by kernel_rfl)
def tyI34 : TyI := ⟨(TypeDesc.func #[23] #[23] false), 1, 8, some Value.nilFunc⟩
theorem tyI34_ok : TyOk Tryd.prog 34 tyI34 := tyOk_mk (by kernel_rfl) (by kernel_rfl) (by kernel_rfl)
def tyI35 : TyI := ⟨(TypeDesc.tuple #[31, 3]), 1, 0, some ((Value.tuple #[Value.agg #[Value.int IntKind.i64 0, Value.int IntKind.i64 0, Value.string { data := #[] }, Value.int IntKind.i64 0], Value.int IntKind.i64 0]))⟩
theorem tyI35_ok : TyOk Tryd.prog 35 tyI35 := tyOk_mk (by kernel_rfl) (by kernel_rfl) (by kernel_rfl)
def tyI36 : TyI := ⟨(TypeDesc.func #[9] #[31, 3] false), 1, 8, some Value.nilFunc⟩
theorem tyI36_ok : TyOk Tryd.prog 36 tyI36 := tyOk_mk (by kernel_rfl) (by kernel_rfl) (by kernel_rfl)
def tyI37 : TyI := ⟨(TypeDesc.func #[9, 9] #[4] false), 1, 8, some Value.nilFunc⟩
theorem tyI37_ok : TyOk Tryd.prog 37 tyI37 := tyOk_mk (by kernel_rfl) (by kernel_rfl) (by kernel_rfl)
def tyI38 : TyI := ⟨(TypeDesc.func #[2, 3] #[4] false), 1, 8, some Value.nilFunc⟩
theorem tyI38_ok : TyOk Tryd.prog 38 tyI38 := tyOk_mk (by kernel_rfl) (by kernel_rfl) (by kernel_rfl)
def tyI39 : TyI := ⟨(TypeDesc.func #[3, 3] #[4] false), 1, 8, some Value.nilFunc⟩
theorem tyI39_ok : TyOk Tryd.prog 39 tyI39 := tyOk_mk (by kernel_rfl) (by kernel_rfl) (by kernel_rfl)
def tyI40 : TyI := ⟨(TypeDesc.slice 5), 1, 24, some ((Value.slice none 0 0))⟩
theorem tyI40_ok : TyOk Tryd.prog 40 tyI40 := tyOk_mk (by kernel_rfl) (by kernel_rfl) (by kernel_rfl)
def tyI41 : TyI := ⟨(TypeDesc.func #[3, 4] #[4] false), 1, 8, some Value.nilFunc⟩
theorem tyI41_ok : TyOk Tryd.prog 41 tyI41 := tyOk_mk (by kernel_rfl) (by kernel_rfl) (by kernel_rfl)
def tyI42 : TyI := ⟨(TypeDesc.pointer 46), 1, 8, some ((Value.pointer none))⟩
theorem tyI42_ok : TyOk Tryd.prog 42 tyI42 := tyOk_mk (by kernel_rfl) (by kernel_rfl) (by kernel_rfl)
def tyI43 : TyI := ⟨(TypeDesc.map 9 3), 1, 8, some ((Value.map none))⟩
theorem tyI43_ok : TyOk Tryd.prog 43 tyI43 := tyOk_mk (by kernel_rfl) (by kernel_rfl) (by kernel_rfl)
def tyI44 : TyI := ⟨(TypeDesc.func #[] #[43] false), 1, 8, some Value.nilFunc⟩
theorem tyI44_ok : TyOk Tryd.prog 44 tyI44 := tyOk_mk (by kernel_rfl) (by kernel_rfl) (by kernel_rfl)
def tyI45 : TyI := ⟨(TypeDesc.struct #[{ name := "s", type := 9, offset := 0, embedded := false, tag := "", pkgPath := "bellows/lex", byteOffset := 0 }, { name := "at", type := 3, offset := 1, embedded := false, tag := "", pkgPath := "bellows/lex", byteOffset := 16 }, { name := "words", type := 43, offset := 2, embedded := false, tag := "", pkgPath := "bellows/lex", byteOffset := 24 }]), 3, 32, some ((Value.agg #[Value.string { data := #[] }, Value.int IntKind.i64 0, Value.map none]))⟩
theorem tyI45_ok : TyOk Tryd.prog 45 tyI45 := tyOk_mk (by kernel_rfl) (by kernel_rfl) (by kernel_rfl)
def tyI46 : TyI := ⟨(TypeDesc.struct #[{ name := "s", type := 9, offset := 0, embedded := false, tag := "", pkgPath := "bellows/lex", byteOffset := 0 }, { name := "at", type := 3, offset := 1, embedded := false, tag := "", pkgPath := "bellows/lex", byteOffset := 16 }, { name := "words", type := 43, offset := 2, embedded := false, tag := "", pkgPath := "bellows/lex", byteOffset := 24 }]), 3, 32, some ((Value.agg #[Value.string { data := #[] }, Value.int IntKind.i64 0, Value.map none]))⟩
theorem tyI46_ok : TyOk Tryd.prog 46 tyI46 := tyOk_mk (by kernel_rfl) (by kernel_rfl) (by kernel_rfl)
def tyI47 : TyI := ⟨(TypeDesc.func #[] #[31, 3, 4] false), 1, 8, some Value.nilFunc⟩
theorem tyI47_ok : TyOk Tryd.prog 47 tyI47 := tyOk_mk (by kernel_rfl) (by kernel_rfl) (by kernel_rfl)
def tyI48 : TyI := ⟨(TypeDesc.func #[] #[3] false), 1, 8, some Value.nilFunc⟩
theorem tyI48_ok : TyOk Tryd.prog 48 tyI48 := tyOk_mk (by kernel_rfl) (by kernel_rfl) (by kernel_rfl)
def tyI49 : TyI := ⟨(TypeDesc.tuple #[31, 3, 4]), 1, 0, some ((Value.tuple #[Value.agg #[Value.int IntKind.i64 0, Value.int IntKind.i64 0, Value.string { data := #[] }, Value.int IntKind.i64 0], Value.int IntKind.i64 0, Value.bool false]))⟩
theorem tyI49_ok : TyOk Tryd.prog 49 tyI49 := tyOk_mk (by kernel_rfl) (by kernel_rfl) (by kernel_rfl)
def tyI50 : TyI := ⟨(TypeDesc.func #[9] #[3] false), 1, 8, some Value.nilFunc⟩
theorem tyI50_ok : TyOk Tryd.prog 50 tyI50 := tyOk_mk (by kernel_rfl) (by kernel_rfl) (by kernel_rfl)
def tyI51 : TyI := ⟨(TypeDesc.pointer 53), 1, 8, some ((Value.pointer none))⟩
theorem tyI51_ok : TyOk Tryd.prog 51 tyI51 := tyOk_mk (by kernel_rfl) (by kernel_rfl) (by kernel_rfl)
def tyI52 : TyI := ⟨(TypeDesc.struct #[{ name := "addr", type := 51, offset := 0, embedded := false, tag := "", pkgPath := "strings", byteOffset := 0 }, { name := "buf", type := 40, offset := 1, embedded := false, tag := "", pkgPath := "strings", byteOffset := 8 }]), 2, 32, some ((Value.agg #[Value.pointer none, Value.slice none 0 0]))⟩
theorem tyI52_ok : TyOk Tryd.prog 52 tyI52 := tyOk_mk (by kernel_rfl) (by kernel_rfl) (by kernel_rfl)
def tyI53 : TyI := ⟨(TypeDesc.struct #[{ name := "addr", type := 51, offset := 0, embedded := false, tag := "", pkgPath := "strings", byteOffset := 0 }, { name := "buf", type := 40, offset := 1, embedded := false, tag := "", pkgPath := "strings", byteOffset := 8 }]), 2, 32, some ((Value.agg #[Value.pointer none, Value.slice none 0 0]))⟩
theorem tyI53_ok : TyOk Tryd.prog 53 tyI53 := tyOk_mk (by kernel_rfl) (by kernel_rfl) (by kernel_rfl)
def tyI54 : TyI := ⟨(TypeDesc.interface #[("Error", 60)]), 1, 16, some Value.nilIface⟩
theorem tyI54_ok : TyOk Tryd.prog 54 tyI54 := tyOk_mk (by kernel_rfl) (by kernel_rfl) (by kernel_rfl)
def tyI55 : TyI := ⟨(TypeDesc.interface #[("Error", 60)]), 1, 16, some Value.nilIface⟩
theorem tyI55_ok : TyOk Tryd.prog 55 tyI55 := tyOk_mk (by kernel_rfl) (by kernel_rfl) (by kernel_rfl)
def tyI56 : TyI := ⟨(TypeDesc.func #[5] #[55] false), 1, 8, some Value.nilFunc⟩
theorem tyI56_ok : TyOk Tryd.prog 56 tyI56 := tyOk_mk (by kernel_rfl) (by kernel_rfl) (by kernel_rfl)
def tyI57 : TyI := ⟨(TypeDesc.tuple #[3, 55]), 1, 0, some ((Value.tuple #[Value.int IntKind.i64 0, Value.nilIface]))⟩
theorem tyI57_ok : TyOk Tryd.prog 57 tyI57 := tyOk_mk (by kernel_rfl) (by kernel_rfl) (by kernel_rfl)
def tyI58 : TyI := ⟨(TypeDesc.func #[9] #[3, 55] false), 1, 8, some Value.nilFunc⟩
theorem tyI58_ok : TyOk Tryd.prog 58 tyI58 := tyOk_mk (by kernel_rfl) (by kernel_rfl) (by kernel_rfl)
def tyI59 : TyI := ⟨(TypeDesc.func #[2, 3] #[9] false), 1, 8, some Value.nilFunc⟩
theorem tyI59_ok : TyOk Tryd.prog 59 tyI59 := tyOk_mk (by kernel_rfl) (by kernel_rfl) (by kernel_rfl)
def tyI60 : TyI := ⟨(TypeDesc.func #[] #[9] false), 1, 8, some Value.nilFunc⟩
theorem tyI60_ok : TyOk Tryd.prog 60 tyI60 := tyOk_mk (by kernel_rfl) (by kernel_rfl) (by kernel_rfl)
def tyI61 : TyI := ⟨(TypeDesc.func #[2] #[9] false), 1, 8, some Value.nilFunc⟩
theorem tyI61_ok : TyOk Tryd.prog 61 tyI61 := tyOk_mk (by kernel_rfl) (by kernel_rfl) (by kernel_rfl)
def tyI62 : TyI := ⟨(TypeDesc.func #[5] #[4] false), 1, 8, some Value.nilFunc⟩
theorem tyI62_ok : TyOk Tryd.prog 62 tyI62 := tyOk_mk (by kernel_rfl) (by kernel_rfl) (by kernel_rfl)
def tyI63 : TyI := ⟨(TypeDesc.func #[9] #[2] false), 1, 8, some Value.nilFunc⟩
theorem tyI63_ok : TyOk Tryd.prog 63 tyI63 := tyOk_mk (by kernel_rfl) (by kernel_rfl) (by kernel_rfl)
def tyI64 : TyI := ⟨(TypeDesc.tuple #[9, 3, 4]), 1, 0, some ((Value.tuple #[Value.string { data := #[] }, Value.int IntKind.i64 0, Value.bool false]))⟩
theorem tyI64_ok : TyOk Tryd.prog 64 tyI64 := tyOk_mk (by kernel_rfl) (by kernel_rfl) (by kernel_rfl)
def tyI65 : TyI := ⟨(TypeDesc.func #[9] #[9, 3, 4] false), 1, 8, some Value.nilFunc⟩
theorem tyI65_ok : TyOk Tryd.prog 65 tyI65 := tyOk_mk (by kernel_rfl) (by kernel_rfl) (by kernel_rfl)
def tyI66 : TyI := ⟨(TypeDesc.func #[9, 67] #[4] false), 1, 8, some Value.nilFunc⟩
theorem tyI66_ok : TyOk Tryd.prog 66 tyI66 := tyOk_mk (by kernel_rfl) (by kernel_rfl) (by kernel_rfl)
def tyI67 : TyI := ⟨(TypeDesc.slice 9), 1, 24, some ((Value.slice none 0 0))⟩
theorem tyI67_ok : TyOk Tryd.prog 67 tyI67 := tyOk_mk (by kernel_rfl) (by kernel_rfl) (by kernel_rfl)
def tyI68 : TyI := ⟨(TypeDesc.func #[] #[67] false), 1, 8, some Value.nilFunc⟩
theorem tyI68_ok : TyOk Tryd.prog 68 tyI68 := tyOk_mk (by kernel_rfl) (by kernel_rfl) (by kernel_rfl)
def tyI69 : TyI := ⟨(TypeDesc.func #[9] #[67] false), 1, 8, some Value.nilFunc⟩
theorem tyI69_ok : TyOk Tryd.prog 69 tyI69 := tyOk_mk (by kernel_rfl) (by kernel_rfl) (by kernel_rfl)
def tyI70 : TyI := ⟨(TypeDesc.func #[3, 62] #[3] false), 1, 8, some Value.nilFunc⟩
theorem tyI70_ok : TyOk Tryd.prog 70 tyI70 := tyOk_mk (by kernel_rfl) (by kernel_rfl) (by kernel_rfl)
def tyI71 : TyI := ⟨(TypeDesc.tuple #[2, 55]), 1, 0, some ((Value.tuple #[Value.int IntKind.i64 0, Value.nilIface]))⟩
theorem tyI71_ok : TyOk Tryd.prog 71 tyI71 := tyOk_mk (by kernel_rfl) (by kernel_rfl) (by kernel_rfl)
def tyI72 : TyI := ⟨(TypeDesc.func #[9, 3, 3] #[2, 55] false), 1, 8, some Value.nilFunc⟩
theorem tyI72_ok : TyOk Tryd.prog 72 tyI72 := tyOk_mk (by kernel_rfl) (by kernel_rfl) (by kernel_rfl)
def tyI73 : TyI := ⟨(TypeDesc.func #[] #[9, 3, 4] false), 1, 8, some Value.nilFunc⟩
theorem tyI73_ok : TyOk Tryd.prog 73 tyI73 := tyOk_mk (by kernel_rfl) (by kernel_rfl) (by kernel_rfl)
def tyI74 : TyI := ⟨(TypeDesc.func #[3, 9] #[4] false), 1, 8, some Value.nilFunc⟩
theorem tyI74_ok : TyOk Tryd.prog 74 tyI74 := tyOk_mk (by kernel_rfl) (by kernel_rfl) (by kernel_rfl)
def tyI75 : TyI := ⟨(TypeDesc.func #[9, 5] #[3] false), 1, 8, some Value.nilFunc⟩
theorem tyI75_ok : TyOk Tryd.prog 75 tyI75 := tyOk_mk (by kernel_rfl) (by kernel_rfl) (by kernel_rfl)
def tyI76 : TyI := ⟨(TypeDesc.pointer 5), 1, 8, some ((Value.pointer none))⟩
theorem tyI76_ok : TyOk Tryd.prog 76 tyI76 := tyOk_mk (by kernel_rfl) (by kernel_rfl) (by kernel_rfl)
def tyI77 : TyI := ⟨(TypeDesc.array 256 5), 256, 256, none⟩
theorem tyI77_ok : TyOk Tryd.prog 77 tyI77 := tyOk_mk0 (by kernel_rfl) (by kernel_rfl)
def tyI78 : TyI := ⟨(TypeDesc.func #[9, 79] #[67] false), 1, 8, some Value.nilFunc⟩
theorem tyI78_ok : TyOk Tryd.prog 78 tyI78 := tyOk_mk (by kernel_rfl) (by kernel_rfl) (by kernel_rfl)
def tyI79 : TyI := ⟨(TypeDesc.func #[21] #[4] false), 1, 8, some Value.nilFunc⟩
theorem tyI79_ok : TyOk Tryd.prog 79 tyI79 := tyOk_mk (by kernel_rfl) (by kernel_rfl) (by kernel_rfl)
def tyI80 : TyI := ⟨(TypeDesc.func #[9, 9, 3, 3, 55] #[55] false), 1, 8, some Value.nilFunc⟩
theorem tyI80_ok : TyOk Tryd.prog 80 tyI80 := tyOk_mk (by kernel_rfl) (by kernel_rfl) (by kernel_rfl)
def tyI81 : TyI := ⟨(TypeDesc.tuple #[5, 3]), 1, 0, some ((Value.tuple #[Value.int IntKind.u8 0, Value.int IntKind.i64 0]))⟩
theorem tyI81_ok : TyOk Tryd.prog 81 tyI81 := tyOk_mk (by kernel_rfl) (by kernel_rfl) (by kernel_rfl)
def tyI82 : TyI := ⟨(TypeDesc.func #[9] #[5, 3] false), 1, 8, some Value.nilFunc⟩
theorem tyI82_ok : TyOk Tryd.prog 82 tyI82 := tyOk_mk (by kernel_rfl) (by kernel_rfl) (by kernel_rfl)
def tyI83 : TyI := ⟨TypeDesc.unsafePointer, 1, 8, some ((Value.pointer none))⟩
theorem tyI83_ok : TyOk Tryd.prog 83 tyI83 := tyOk_mk (by kernel_rfl) (by kernel_rfl) (by kernel_rfl)
def tyI84 : TyI := ⟨(TypeDesc.func #[83] #[83] false), 1, 8, some Value.nilFunc⟩
theorem tyI84_ok : TyOk Tryd.prog 84 tyI84 := tyOk_mk (by kernel_rfl) (by kernel_rfl) (by kernel_rfl)
def tyI85 : TyI := ⟨(TypeDesc.func #[3] #[9] false), 1, 8, some Value.nilFunc⟩
theorem tyI85_ok : TyOk Tryd.prog 85 tyI85 := tyOk_mk (by kernel_rfl) (by kernel_rfl) (by kernel_rfl)
def tyI86 : TyI := ⟨(TypeDesc.array 24 5), 24, 24, some ((Value.agg #[Value.int IntKind.u8 0, Value.int IntKind.u8 0, Value.int IntKind.u8 0, Value.int IntKind.u8 0, Value.int IntKind.u8 0, Value.int IntKind.u8 0, Value.int IntKind.u8 0, Value.int IntKind.u8 0, Value.int IntKind.u8 0, Value.int IntKind.u8 0, Value.int IntKind.u8 0, Value.int IntKind.u8 0, Value.int IntKind.u8 0, Value.int IntKind.u8 0, Value.int IntKind.u8 0, Value.int IntKind.u8 0, Value.int IntKind.u8 0, Value.int IntKind.u8 0, Value.int IntKind.u8 0, Value.int IntKind.u8 0, Value.int IntKind.u8 0, Value.int IntKind.u8 0, Value.int IntKind.u8 0, Value.int IntKind.u8 0]))⟩
theorem tyI86_ok : TyOk Tryd.prog 86 tyI86 := tyOk_mk (by kernel_rfl) (by kernel_rfl) (by kernel_rfl)
def tyI87 : TyI := ⟨(TypeDesc.int IntKind.u64), 1, 8, some ((Value.int IntKind.u64 0))⟩
theorem tyI87_ok : TyOk Tryd.prog 87 tyI87 := tyOk_mk (by kernel_rfl) (by kernel_rfl) (by kernel_rfl)
def tyI88 : TyI := ⟨(TypeDesc.func #[87] #[3] false), 1, 8, some Value.nilFunc⟩
theorem tyI88_ok : TyOk Tryd.prog 88 tyI88 := tyOk_mk (by kernel_rfl) (by kernel_rfl) (by kernel_rfl)
def tyI89 : TyI := ⟨(TypeDesc.func #[40, 87] #[] false), 1, 8, some Value.nilFunc⟩
theorem tyI89_ok : TyOk Tryd.prog 89 tyI89 := tyOk_mk (by kernel_rfl) (by kernel_rfl) (by kernel_rfl)
def tyI90 : TyI := ⟨(TypeDesc.tuple #[40, 9]), 1, 0, some ((Value.tuple #[Value.slice none 0 0, Value.string { data := #[] }]))⟩
theorem tyI90_ok : TyOk Tryd.prog 90 tyI90 := tyOk_mk (by kernel_rfl) (by kernel_rfl) (by kernel_rfl)
def tyI91 : TyI := ⟨(TypeDesc.func #[40, 87, 3, 4, 4] #[40, 9] false), 1, 8, some Value.nilFunc⟩
theorem tyI91_ok : TyOk Tryd.prog 91 tyI91 := tyOk_mk (by kernel_rfl) (by kernel_rfl) (by kernel_rfl)
def tyI92 : TyI := ⟨(TypeDesc.slice 94), 1, 24, some ((Value.slice none 0 0))⟩
theorem tyI92_ok : TyOk Tryd.prog 92 tyI92 := tyOk_mk (by kernel_rfl) (by kernel_rfl) (by kernel_rfl)
def tyI93 : TyI := ⟨(TypeDesc.struct #[{ name := "start", type := 3, offset := 0, embedded := false, tag := "", pkgPath := "strings", byteOffset := 0 }, { name := "end", type := 3, offset := 1, embedded := false, tag := "", pkgPath := "strings", byteOffset := 8 }]), 2, 16, some ((Value.agg #[Value.int IntKind.i64 0, Value.int IntKind.i64 0]))⟩
theorem tyI93_ok : TyOk Tryd.prog 93 tyI93 := tyOk_mk (by kernel_rfl) (by kernel_rfl) (by kernel_rfl)
def tyI94 : TyI := ⟨(TypeDesc.struct #[{ name := "start", type := 3, offset := 0, embedded := false, tag := "", pkgPath := "strings", byteOffset := 0 }, { name := "end", type := 3, offset := 1, embedded := false, tag := "", pkgPath := "strings", byteOffset := 8 }]), 2, 16, some ((Value.agg #[Value.int IntKind.i64 0, Value.int IntKind.i64 0]))⟩
theorem tyI94_ok : TyOk Tryd.prog 94 tyI94 := tyOk_mk (by kernel_rfl) (by kernel_rfl) (by kernel_rfl)
def tyI95 : TyI := ⟨(TypeDesc.int IntKind.u32), 1, 4, some ((Value.int IntKind.u32 0))⟩
theorem tyI95_ok : TyOk Tryd.prog 95 tyI95 := tyOk_mk (by kernel_rfl) (by kernel_rfl) (by kernel_rfl)
def tyI96 : TyI := ⟨(TypeDesc.func #[97, 21] #[4] false), 1, 8, some Value.nilFunc⟩
theorem tyI96_ok : TyOk Tryd.prog 96 tyI96 := tyOk_mk (by kernel_rfl) (by kernel_rfl) (by kernel_rfl)
def tyI97 : TyI := ⟨(TypeDesc.pointer 114), 1, 8, some ((Value.pointer none))⟩
theorem tyI97_ok : TyOk Tryd.prog 97 tyI97 := tyOk_mk (by kernel_rfl) (by kernel_rfl) (by kernel_rfl)
def tyI98 : TyI := ⟨(TypeDesc.int IntKind.i64), 1, 8, some ((Value.int IntKind.i64 0))⟩
theorem tyI98_ok : TyOk Tryd.prog 98 tyI98 := tyOk_mk (by kernel_rfl) (by kernel_rfl) (by kernel_rfl)
def tyI99 : TyI := ⟨(TypeDesc.tuple #[87, 55]), 1, 0, some ((Value.tuple #[Value.int IntKind.u64 0, Value.nilIface]))⟩
theorem tyI99_ok : TyOk Tryd.prog 99 tyI99 := tyOk_mk (by kernel_rfl) (by kernel_rfl) (by kernel_rfl)
def tyI100 : TyI := ⟨(TypeDesc.func #[9, 3, 3] #[87, 55] false), 1, 8, some Value.nilFunc⟩
theorem tyI100_ok : TyOk Tryd.prog 100 tyI100 := tyOk_mk (by kernel_rfl) (by kernel_rfl) (by kernel_rfl)
def tyI101 : TyI := ⟨(TypeDesc.int IntKind.u64), 1, 8, some ((Value.int IntKind.u64 0))⟩
theorem tyI101_ok : TyOk Tryd.prog 101 tyI101 := tyOk_mk (by kernel_rfl) (by kernel_rfl) (by kernel_rfl)
def tyI102 : TyI := ⟨(TypeDesc.pointer 124), 1, 8, some ((Value.pointer none))⟩
theorem tyI102_ok : TyOk Tryd.prog 102 tyI102 := tyOk_mk (by kernel_rfl) (by kernel_rfl) (by kernel_rfl)
def tyI103 : TyI := ⟨(TypeDesc.func #[9, 9] #[102] false), 1, 8, some Value.nilFunc⟩
theorem tyI103_ok : TyOk Tryd.prog 103 tyI103 := tyOk_mk (by kernel_rfl) (by kernel_rfl) (by kernel_rfl)
def tyI104 : TyI := ⟨(TypeDesc.func #[9, 9, 3] #[102] false), 1, 8, some Value.nilFunc⟩
theorem tyI104_ok : TyOk Tryd.prog 104 tyI104 := tyOk_mk (by kernel_rfl) (by kernel_rfl) (by kernel_rfl)
def tyI105 : TyI := ⟨(TypeDesc.func #[3] #[3] false), 1, 8, some Value.nilFunc⟩
theorem tyI105_ok : TyOk Tryd.prog 105 tyI105 := tyOk_mk (by kernel_rfl) (by kernel_rfl) (by kernel_rfl)
def tyI106 : TyI := ⟨(TypeDesc.func #[4] #[3] false), 1, 8, some Value.nilFunc⟩
theorem tyI106_ok : TyOk Tryd.prog 106 tyI106 := tyOk_mk (by kernel_rfl) (by kernel_rfl) (by kernel_rfl)
def tyI107 : TyI := ⟨(TypeDesc.array 20 87), 20, 160, some ((Value.agg #[Value.int IntKind.u64 0, Value.int IntKind.u64 0, Value.int IntKind.u64 0, Value.int IntKind.u64 0, Value.int IntKind.u64 0, Value.int IntKind.u64 0, Value.int IntKind.u64 0, Value.int IntKind.u64 0, Value.int IntKind.u64 0, Value.int IntKind.u64 0, Value.int IntKind.u64 0, Value.int IntKind.u64 0, Value.int IntKind.u64 0, Value.int IntKind.u64 0, Value.int IntKind.u64 0, Value.int IntKind.u64 0, Value.int IntKind.u64 0, Value.int IntKind.u64 0, Value.int IntKind.u64 0, Value.int IntKind.u64 0]))⟩
theorem tyI107_ok : TyOk Tryd.prog 107 tyI107 := tyOk_mk (by kernel_rfl) (by kernel_rfl) (by kernel_rfl)
def tyI108 : TyI := ⟨(TypeDesc.array 65 5), 65, 65, some ((Value.agg ([Value.int IntKind.u8 0, Value.int IntKind.u8 0, Value.int IntKind.u8 0, Value.int IntKind.u8 0, Value.int IntKind.u8 0, Value.int IntKind.u8 0, Value.int IntKind.u8 0, Value.int IntKind.u8 0, Value.int IntKind.u8 0, Value.int IntKind.u8 0, Value.int IntKind.u8 0, Value.int IntKind.u8 0, Value.int IntKind.u8 0, Value.int IntKind.u8 0, Value.int IntKind.u8 0, Value.int IntKind.u8 0, Value.int IntKind.u8 0, Value.int IntKind.u8 0, Value.int IntKind.u8 0, Value.int IntKind.u8 0, Value.int IntKind.u8 0, Value.int IntKind.u8 0, Value.int IntKind.u8 0, Value.int IntKind.u8 0, Value.int IntKind.u8 0, Value.int IntKind.u8 0, Value.int IntKind.u8 0, Value.int IntKind.u8 0, Value.int IntKind.u8 0, Value.int IntKind.u8 0, Value.int IntKind.u8 0, Value.int IntKind.u8 0].append [Value.int IntKind.u8 0, Value.int IntKind.u8 0, Value.int IntKind.u8 0, Value.int IntKind.u8 0, Value.int IntKind.u8 0, Value.int IntKind.u8 0, Value.int IntKind.u8 0, Value.int IntKind.u8 0, Value.int IntKind.u8 0, Value.int IntKind.u8 0, Value.int IntKind.u8 0, Value.int IntKind.u8 0, Value.int IntKind.u8 0, Value.int IntKind.u8 0, Value.int IntKind.u8 0, Value.int IntKind.u8 0, Value.int IntKind.u8 0, Value.int IntKind.u8 0, Value.int IntKind.u8 0, Value.int IntKind.u8 0, Value.int IntKind.u8 0, Value.int IntKind.u8 0, Value.int IntKind.u8 0, Value.int IntKind.u8 0, Value.int IntKind.u8 0, Value.int IntKind.u8 0, Value.int IntKind.u8 0, Value.int IntKind.u8 0, Value.int IntKind.u8 0, Value.int IntKind.u8 0, Value.int IntKind.u8 0, Value.int IntKind.u8 0, Value.int IntKind.u8 0]).toArray))⟩
theorem tyI108_ok : TyOk Tryd.prog 108 tyI108 := tyOk_mk (by kernel_rfl) (by kernel_rfl) (by kernel_rfl)
def tyI109 : TyI := ⟨(TypeDesc.func #[3] #[4] false), 1, 8, some Value.nilFunc⟩
theorem tyI109_ok : TyOk Tryd.prog 109 tyI109 := tyOk_mk (by kernel_rfl) (by kernel_rfl) (by kernel_rfl)
def tyI110 : TyI := ⟨(TypeDesc.func #[101] #[3] false), 1, 8, some Value.nilFunc⟩
theorem tyI110_ok : TyOk Tryd.prog 110 tyI110 := tyOk_mk (by kernel_rfl) (by kernel_rfl) (by kernel_rfl)
def tyI111 : TyI := ⟨(TypeDesc.slice 117), 1, 24, some ((Value.slice none 0 0))⟩
theorem tyI111_ok : TyOk Tryd.prog 111 tyI111 := tyOk_mk (by kernel_rfl) (by kernel_rfl) (by kernel_rfl)
def tyI112 : TyI := ⟨(TypeDesc.slice 120), 1, 24, some ((Value.slice none 0 0))⟩
theorem tyI112_ok : TyOk Tryd.prog 112 tyI112 := tyOk_mk (by kernel_rfl) (by kernel_rfl) (by kernel_rfl)
def tyI113 : TyI := ⟨(TypeDesc.struct #[{ name := "R16", type := 111, offset := 0, embedded := false, tag := "", pkgPath := "", byteOffset := 0 }, { name := "R32", type := 112, offset := 1, embedded := false, tag := "", pkgPath := "", byteOffset := 24 }, { name := "LatinOffset", type := 3, offset := 2, embedded := false, tag := "", pkgPath := "", byteOffset := 48 }]), 3, 56, some ((Value.agg #[Value.slice none 0 0, Value.slice none 0 0, Value.int IntKind.i64 0]))⟩
theorem tyI113_ok : TyOk Tryd.prog 113 tyI113 := tyOk_mk (by kernel_rfl) (by kernel_rfl) (by kernel_rfl)
def tyI114 : TyI := ⟨(TypeDesc.struct #[{ name := "R16", type := 111, offset := 0, embedded := false, tag := "", pkgPath := "", byteOffset := 0 }, { name := "R32", type := 112, offset := 1, embedded := false, tag := "", pkgPath := "", byteOffset := 24 }, { name := "LatinOffset", type := 3, offset := 2, embedded := false, tag := "", pkgPath := "", byteOffset := 48 }]), 3, 56, some ((Value.agg #[Value.slice none 0 0, Value.slice none 0 0, Value.int IntKind.i64 0]))⟩
theorem tyI114_ok : TyOk Tryd.prog 114 tyI114 := tyOk_mk (by kernel_rfl) (by kernel_rfl) (by kernel_rfl)
def tyI115 : TyI := ⟨(TypeDesc.int IntKind.u16), 1, 2, some ((Value.int IntKind.u16 0))⟩
theorem tyI115_ok : TyOk Tryd.prog 115 tyI115 := tyOk_mk (by kernel_rfl) (by kernel_rfl) (by kernel_rfl)
def tyI116 : TyI := ⟨(TypeDesc.struct #[{ name := "Lo", type := 115, offset := 0, embedded := false, tag := "", pkgPath := "", byteOffset := 0 }, { name := "Hi", type := 115, offset := 1, embedded := false, tag := "", pkgPath := "", byteOffset := 2 }, { name := "Stride", type := 115, offset := 2, embedded := false, tag := "", pkgPath := "", byteOffset := 4 }]), 3, 6, some ((Value.agg #[Value.int IntKind.u16 0, Value.int IntKind.u16 0, Value.int IntKind.u16 0]))⟩
theorem tyI116_ok : TyOk Tryd.prog 116 tyI116 := tyOk_mk (by kernel_rfl) (by kernel_rfl) (by kernel_rfl)
def tyI117 : TyI := ⟨(TypeDesc.struct #[{ name := "Lo", type := 115, offset := 0, embedded := false, tag := "", pkgPath := "", byteOffset := 0 }, { name := "Hi", type := 115, offset := 1, embedded := false, tag := "", pkgPath := "", byteOffset := 2 }, { name := "Stride", type := 115, offset := 2, embedded := false, tag := "", pkgPath := "", byteOffset := 4 }]), 3, 6, some ((Value.agg #[Value.int IntKind.u16 0, Value.int IntKind.u16 0, Value.int IntKind.u16 0]))⟩
theorem tyI117_ok : TyOk Tryd.prog 117 tyI117 := tyOk_mk (by kernel_rfl) (by kernel_rfl) (by kernel_rfl)
def tyI118 : TyI := ⟨(TypeDesc.func #[111, 115] #[4] false), 1, 8, some Value.nilFunc⟩
theorem tyI118_ok : TyOk Tryd.prog 118 tyI118 := tyOk_mk (by kernel_rfl) (by kernel_rfl) (by kernel_rfl)
def tyI119 : TyI := ⟨(TypeDesc.struct #[{ name := "Lo", type := 95, offset := 0, embedded := false, tag := "", pkgPath := "", byteOffset := 0 }, { name := "Hi", type := 95, offset := 1, embedded := false, tag := "", pkgPath := "", byteOffset := 4 }, { name := "Stride", type := 95, offset := 2, embedded := false, tag := "", pkgPath := "", byteOffset := 8 }]), 3, 12, some ((Value.agg #[Value.int IntKind.u32 0, Value.int IntKind.u32 0, Value.int IntKind.u32 0]))⟩
theorem tyI119_ok : TyOk Tryd.prog 119 tyI119 := tyOk_mk (by kernel_rfl) (by kernel_rfl) (by kernel_rfl)
def tyI120 : TyI := ⟨(TypeDesc.struct #[{ name := "Lo", type := 95, offset := 0, embedded := false, tag := "", pkgPath := "", byteOffset := 0 }, { name := "Hi", type := 95, offset := 1, embedded := false, tag := "", pkgPath := "", byteOffset := 4 }, { name := "Stride", type := 95, offset := 2, embedded := false, tag := "", pkgPath := "", byteOffset := 8 }]), 3, 12, some ((Value.agg #[Value.int IntKind.u32 0, Value.int IntKind.u32 0, Value.int IntKind.u32 0]))⟩
theorem tyI120_ok : TyOk Tryd.prog 120 tyI120 := tyOk_mk (by kernel_rfl) (by kernel_rfl) (by kernel_rfl)
def tyI121 : TyI := ⟨(TypeDesc.func #[112, 95] #[4] false), 1, 8, some Value.nilFunc⟩
theorem tyI121_ok : TyOk Tryd.prog 121 tyI121 := tyOk_mk (by kernel_rfl) (by kernel_rfl) (by kernel_rfl)
def tyI122 : TyI := ⟨(TypeDesc.func #[5] #[5] false), 1, 8, some Value.nilFunc⟩
theorem tyI122_ok : TyOk Tryd.prog 122 tyI122 := tyOk_mk (by kernel_rfl) (by kernel_rfl) (by kernel_rfl)
def tyI123 : TyI := ⟨(TypeDesc.struct #[{ name := "Func", type := 9, offset := 0, embedded := false, tag := "", pkgPath := "", byteOffset := 0 }, { name := "Num", type := 9, offset := 1, embedded := false, tag := "", pkgPath := "", byteOffset := 16 }, { name := "Err", type := 55, offset := 2, embedded := false, tag := "", pkgPath := "", byteOffset := 32 }]), 3, 48, some ((Value.agg #[Value.string { data := #[] }, Value.string { data := #[] }, Value.nilIface]))⟩
theorem tyI123_ok : TyOk Tryd.prog 123 tyI123 := tyOk_mk (by kernel_rfl) (by kernel_rfl) (by kernel_rfl)
def tyI124 : TyI := ⟨(TypeDesc.struct #[{ name := "Func", type := 9, offset := 0, embedded := false, tag := "", pkgPath := "", byteOffset := 0 }, { name := "Num", type := 9, offset := 1, embedded := false, tag := "", pkgPath := "", byteOffset := 16 }, { name := "Err", type := 55, offset := 2, embedded := false, tag := "", pkgPath := "", byteOffset := 32 }]), 3, 48, some ((Value.agg #[Value.string { data := #[] }, Value.string { data := #[] }, Value.nilIface]))⟩
theorem tyI124_ok : TyOk Tryd.prog 124 tyI124 := tyOk_mk (by kernel_rfl) (by kernel_rfl) (by kernel_rfl)
def tyI125 : TyI := ⟨(TypeDesc.func #[9] #[55] false), 1, 8, some Value.nilFunc⟩
theorem tyI125_ok : TyOk Tryd.prog 125 tyI125 := tyOk_mk (by kernel_rfl) (by kernel_rfl) (by kernel_rfl)
def tyI126 : TyI := ⟨(TypeDesc.func #[95] #[3] false), 1, 8, some Value.nilFunc⟩
theorem tyI126_ok : TyOk Tryd.prog 126 tyI126 := tyOk_mk (by kernel_rfl) (by kernel_rfl) (by kernel_rfl)
def tyI127 : TyI := ⟨(TypeDesc.pointer 117), 1, 8, some ((Value.pointer none))⟩
theorem tyI127_ok : TyOk Tryd.prog 127 tyI127 := tyOk_mk (by kernel_rfl) (by kernel_rfl) (by kernel_rfl)
def tyI128 : TyI := ⟨(TypeDesc.pointer 120), 1, 8, some ((Value.pointer none))⟩
theorem tyI128_ok : TyOk Tryd.prog 128 tyI128 := tyOk_mk (by kernel_rfl) (by kernel_rfl) (by kernel_rfl)
def tyI129 : TyI := ⟨(TypeDesc.pointer 131), 1, 8, some ((Value.pointer none))⟩
theorem tyI129_ok : TyOk Tryd.prog 129 tyI129 := tyOk_mk (by kernel_rfl) (by kernel_rfl) (by kernel_rfl)
def tyI130 : TyI := ⟨(TypeDesc.struct #[{ name := "s", type := 9, offset := 0, embedded := false, tag := "", pkgPath := "errors", byteOffset := 0 }]), 1, 16, some ((Value.agg #[Value.string { data := #[] }]))⟩
theorem tyI130_ok : TyOk Tryd.prog 130 tyI130 := tyOk_mk (by kernel_rfl) (by kernel_rfl) (by kernel_rfl)
def tyI131 : TyI := ⟨(TypeDesc.struct #[{ name := "s", type := 9, offset := 0, embedded := false, tag := "", pkgPath := "errors", byteOffset := 0 }]), 1, 16, some ((Value.agg #[Value.string { data := #[] }]))⟩
theorem tyI131_ok : TyOk Tryd.prog 131 tyI131 := tyOk_mk (by kernel_rfl) (by kernel_rfl) (by kernel_rfl)
def tyI132 : TyI := ⟨(TypeDesc.array 32 5), 32, 32, some ((Value.agg #[Value.int IntKind.u8 0, Value.int IntKind.u8 0, Value.int IntKind.u8 0, Value.int IntKind.u8 0, Value.int IntKind.u8 0, Value.int IntKind.u8 0, Value.int IntKind.u8 0, Value.int IntKind.u8 0, Value.int IntKind.u8 0, Value.int IntKind.u8 0, Value.int IntKind.u8 0, Value.int IntKind.u8 0, Value.int IntKind.u8 0, Value.int IntKind.u8 0, Value.int IntKind.u8 0, Value.int IntKind.u8 0, Value.int IntKind.u8 0, Value.int IntKind.u8 0, Value.int IntKind.u8 0, Value.int IntKind.u8 0, Value.int IntKind.u8 0, Value.int IntKind.u8 0, Value.int IntKind.u8 0, Value.int IntKind.u8 0, Value.int IntKind.u8 0, Value.int IntKind.u8 0, Value.int IntKind.u8 0, Value.int IntKind.u8 0, Value.int IntKind.u8 0, Value.int IntKind.u8 0, Value.int IntKind.u8 0, Value.int IntKind.u8 0]))⟩
theorem tyI132_ok : TyOk Tryd.prog 132 tyI132 := tyOk_mk (by kernel_rfl) (by kernel_rfl) (by kernel_rfl)
def tyI133 : TyI := ⟨(TypeDesc.array 64 5), 64, 64, some ((Value.agg #[Value.int IntKind.u8 0, Value.int IntKind.u8 0, Value.int IntKind.u8 0, Value.int IntKind.u8 0, Value.int IntKind.u8 0, Value.int IntKind.u8 0, Value.int IntKind.u8 0, Value.int IntKind.u8 0, Value.int IntKind.u8 0, Value.int IntKind.u8 0, Value.int IntKind.u8 0, Value.int IntKind.u8 0, Value.int IntKind.u8 0, Value.int IntKind.u8 0, Value.int IntKind.u8 0, Value.int IntKind.u8 0, Value.int IntKind.u8 0, Value.int IntKind.u8 0, Value.int IntKind.u8 0, Value.int IntKind.u8 0, Value.int IntKind.u8 0, Value.int IntKind.u8 0, Value.int IntKind.u8 0, Value.int IntKind.u8 0, Value.int IntKind.u8 0, Value.int IntKind.u8 0, Value.int IntKind.u8 0, Value.int IntKind.u8 0, Value.int IntKind.u8 0, Value.int IntKind.u8 0, Value.int IntKind.u8 0, Value.int IntKind.u8 0, Value.int IntKind.u8 0, Value.int IntKind.u8 0, Value.int IntKind.u8 0, Value.int IntKind.u8 0, Value.int IntKind.u8 0, Value.int IntKind.u8 0, Value.int IntKind.u8 0, Value.int IntKind.u8 0, Value.int IntKind.u8 0, Value.int IntKind.u8 0, Value.int IntKind.u8 0, Value.int IntKind.u8 0, Value.int IntKind.u8 0, Value.int IntKind.u8 0, Value.int IntKind.u8 0, Value.int IntKind.u8 0, Value.int IntKind.u8 0, Value.int IntKind.u8 0, Value.int IntKind.u8 0, Value.int IntKind.u8 0, Value.int IntKind.u8 0, Value.int IntKind.u8 0, Value.int IntKind.u8 0, Value.int IntKind.u8 0, Value.int IntKind.u8 0, Value.int IntKind.u8 0, Value.int IntKind.u8 0, Value.int IntKind.u8 0, Value.int IntKind.u8 0, Value.int IntKind.u8 0, Value.int IntKind.u8 0, Value.int IntKind.u8 0]))⟩
theorem tyI133_ok : TyOk Tryd.prog 133 tyI133 := tyOk_mk (by kernel_rfl) (by kernel_rfl) (by kernel_rfl)
def tyI134 : TyI := ⟨(TypeDesc.struct #[{ name := "_interface", type := 17, offset := 0, embedded := false, tag := "", pkgPath := "runtime", byteOffset := 0 }, { name := "concrete", type := 17, offset := 1, embedded := false, tag := "", pkgPath := "runtime", byteOffset := 8 }, { name := "asserted", type := 17, offset := 2, embedded := false, tag := "", pkgPath := "runtime", byteOffset := 16 }, { name := "missingMethod", type := 9, offset := 3, embedded := false, tag := "", pkgPath := "runtime", byteOffset := 24 }]), 4, 40, some ((Value.agg #[Value.pointer none, Value.pointer none, Value.pointer none, Value.string { data := #[] }]))⟩
theorem tyI134_ok : TyOk Tryd.prog 134 tyI134 := tyOk_mk (by kernel_rfl) (by kernel_rfl) (by kernel_rfl)
def tyI135 : TyI := ⟨(TypeDesc.struct #[{ name := "_interface", type := 17, offset := 0, embedded := false, tag := "", pkgPath := "runtime", byteOffset := 0 }, { name := "concrete", type := 17, offset := 1, embedded := false, tag := "", pkgPath := "runtime", byteOffset := 8 }, { name := "asserted", type := 17, offset := 2, embedded := false, tag := "", pkgPath := "runtime", byteOffset := 16 }, { name := "missingMethod", type := 9, offset := 3, embedded := false, tag := "", pkgPath := "runtime", byteOffset := 24 }]), 4, 40, some ((Value.agg #[Value.pointer none, Value.pointer none, Value.pointer none, Value.string { data := #[] }]))⟩
theorem tyI135_ok : TyOk Tryd.prog 135 tyI135 := tyOk_mk (by kernel_rfl) (by kernel_rfl) (by kernel_rfl)
def tyI136 : TyI := ⟨(TypeDesc.array 0 16), 0, 0, some ((Value.agg #[]))⟩
theorem tyI136_ok : TyOk Tryd.prog 136 tyI136 := tyOk_mk (by kernel_rfl) (by kernel_rfl) (by kernel_rfl)
def tyI137 : TyI := ⟨(TypeDesc.struct #[{ name := "_", type := 136, offset := 0, embedded := false, tag := "", pkgPath := "runtime", byteOffset := 0 }]), 0, 0, some ((Value.agg #[]))⟩
theorem tyI137_ok : TyOk Tryd.prog 137 tyI137 := tyOk_mk (by kernel_rfl) (by kernel_rfl) (by kernel_rfl)
def tyI138 : TyI := ⟨(TypeDesc.struct #[{ name := "_", type := 136, offset := 0, embedded := false, tag := "", pkgPath := "runtime", byteOffset := 0 }]), 0, 0, some ((Value.agg #[]))⟩
theorem tyI138_ok : TyOk Tryd.prog 138 tyI138 := tyOk_mk (by kernel_rfl) (by kernel_rfl) (by kernel_rfl)
def tyI139 : TyI := ⟨(TypeDesc.int IntKind.u8), 1, 1, some ((Value.int IntKind.u8 0))⟩
theorem tyI139_ok : TyOk Tryd.prog 139 tyI139 := tyOk_mk (by kernel_rfl) (by kernel_rfl) (by kernel_rfl)
def tyI140 : TyI := ⟨(TypeDesc.int IntKind.u8), 1, 1, some ((Value.int IntKind.u8 0))⟩
theorem tyI140_ok : TyOk Tryd.prog 140 tyI140 := tyOk_mk (by kernel_rfl) (by kernel_rfl) (by kernel_rfl)
def tyT : Tr TyI := (.node (some tyI0) (.node (some tyI1) (.node (some tyI3) (.node (some tyI7) (.node (some tyI15) (.node (some tyI31) (.node (some tyI63) (.node (some tyI127) .leaf .leaf) .leaf) (.node (some tyI95) .leaf .leaf)) (.node (some tyI47) (.node (some tyI79) .leaf .leaf) (.node (some tyI111) .leaf .leaf))) (.node (some tyI23) (.node (some tyI39) (.node (some tyI71) (.node (some tyI135) .leaf .leaf) .leaf) (.node (some tyI103) .leaf .leaf)) (.node (some tyI55) (.node (some tyI87) .leaf .leaf) (.node (some tyI119) .leaf .leaf)))) (.node (some tyI11) (.node (some tyI19) (.node (some tyI35) (.node (some tyI67) (.node (some tyI131) .leaf .leaf) .leaf) (.node (some tyI99) .leaf .leaf)) (.node (some tyI51) (.node (some tyI83) .leaf .leaf) (.node (some tyI115) .leaf .leaf))) (.node (some tyI27) (.node (some tyI43) (.node (some tyI75) (.node (some tyI139) .leaf .leaf) .leaf) (.node (some tyI107) .leaf .leaf)) (.node (some tyI59) (.node (some tyI91) .leaf .leaf) (.node (some tyI123) .leaf .leaf))))) (.node (some tyI5) (.node (some tyI9) (.node (some tyI17) (.node (some tyI33) (.node (some tyI65) (.node (some tyI129) .leaf .leaf) .leaf) (.node (some tyI97) .leaf .leaf)) (.node (some tyI49) (.node (some tyI81) .leaf .leaf) (.node (some tyI113) .leaf .leaf))) (.node (some tyI25) (.node (some tyI41) (.node (some tyI73) (.node (some tyI137) .leaf .leaf) .leaf) (.node (some tyI105) .leaf .leaf)) (.node (some tyI57) (.node (some tyI89) .leaf .leaf) (.node (some tyI121) .leaf .leaf)))) (.node (some tyI13) (.node (some tyI21) (.node (some tyI37) (.node (some tyI69) (.node (some tyI133) .leaf .leaf) .leaf) (.node (some tyI101) .leaf .leaf)) (.node (some tyI53) (.node (some tyI85) .leaf .leaf) (.node (some tyI117) .leaf .leaf))) (.node (some tyI29) (.node (some tyI45) (.node (some tyI77) .leaf .leaf) (.node (some tyI109) .leaf .leaf)) (.node (some tyI61) (.node (some tyI93) .leaf .leaf) (.node (some tyI125) .leaf .leaf)))))) (.node (some tyI2) (.node (some tyI4) (.node (some tyI8) (.node (some tyI16) (.node (some tyI32) (.node (some tyI64) (.node (some tyI128) .leaf .leaf) .leaf) (.node (some tyI96) .leaf .leaf)) (.node (some tyI48) (.node (some tyI80) .leaf .leaf) (.node (some tyI112) .leaf .leaf))) (.node (some tyI24) (.node (some tyI40) (.node (some tyI72) (.node (some tyI136) .leaf .leaf) .leaf) (.node (some tyI104) .leaf .leaf)) (.node (some tyI56) (.node (some tyI88) .leaf .leaf) (.node (some tyI120) .leaf .leaf)))) (.node (some tyI12) (.node (some tyI20) (.node (some tyI36) (.node (some tyI68) (.node (some tyI132) .leaf .leaf) .leaf) (.node (some tyI100) .leaf .leaf)) (.node (some tyI52) (.node (some tyI84) .leaf .leaf) (.node (some tyI116) .leaf .leaf))) (.node (some tyI28) (.node (some tyI44) (.node (some tyI76) (.node (some tyI140) .leaf .leaf) .leaf) (.node (some tyI108) .leaf .leaf)) (.node (some tyI60) (.node (some tyI92) .leaf .leaf) (.node (some tyI124) .leaf .leaf))))) (.node (some tyI6) (.node (some tyI10) (.node (some tyI18) (.node (some tyI34) (.node (some tyI66) (.node (some tyI130) .leaf .leaf) .leaf) (.node (some tyI98) .leaf .leaf)) (.node (some tyI50) (.node (some tyI82) .leaf .leaf) (.node (some tyI114) .leaf .leaf))) (.node (some tyI26) (.node (some tyI42) (.node (some tyI74) (.node (some tyI138) .leaf .leaf) .leaf) (.node (some tyI106) .leaf .leaf)) (.node (some tyI58) (.node (some tyI90) .leaf .leaf) (.node (some tyI122) .leaf .leaf)))) (.node (some tyI14) (.node (some tyI22) (.node (some tyI38) (.node (some tyI70) (.node (some tyI134) .leaf .leaf) .leaf) (.node (some tyI102) .leaf .leaf)) (.node (some tyI54) (.node (some tyI86) .leaf .leaf) (.node (some tyI118) .leaf .leaf))) (.node (some tyI30) (.node (some tyI46) (.node (some tyI78) .leaf .leaf) (.node (some tyI110) .leaf .leaf)) (.node (some tyI62) (.node (some tyI94) .leaf .leaf) (.node (some tyI126) .leaf .leaf)))))))
theorem tyT_ok : ∀ t i, tyT.get t = some i → TyOk Tryd.prog t i := Tr.allAt tyT id (show Tr.AllAt _ _ tyT from ⟨tyI0_ok, ⟨tyI1_ok, ⟨tyI3_ok, ⟨tyI7_ok, ⟨tyI15_ok, ⟨tyI31_ok, ⟨tyI63_ok, ⟨tyI127_ok, trivial, trivial⟩, trivial⟩, ⟨tyI95_ok, trivial, trivial⟩⟩, ⟨tyI47_ok, ⟨tyI79_ok, trivial, trivial⟩, ⟨tyI111_ok, trivial, trivial⟩⟩⟩, ⟨tyI23_ok, ⟨tyI39_ok, ⟨tyI71_ok, ⟨tyI135_ok, trivial, trivial⟩, trivial⟩, ⟨tyI103_ok, trivial, trivial⟩⟩, ⟨tyI55_ok, ⟨tyI87_ok, trivial, trivial⟩, ⟨tyI119_ok, trivial, trivial⟩⟩⟩⟩, ⟨tyI11_ok, ⟨tyI19_ok, ⟨tyI35_ok, ⟨tyI67_ok, ⟨tyI131_ok, trivial, trivial⟩, trivial⟩, ⟨tyI99_ok, trivial, trivial⟩⟩, ⟨tyI51_ok, ⟨tyI83_ok, trivial, trivial⟩, ⟨tyI115_ok, trivial, trivial⟩⟩⟩, ⟨tyI27_ok, ⟨tyI43_ok, ⟨tyI75_ok, ⟨tyI139_ok, trivial, trivial⟩, trivial⟩, ⟨tyI107_ok, trivial, trivial⟩⟩, ⟨tyI59_ok, ⟨tyI91_ok, trivial, trivial⟩, ⟨tyI123_ok, trivial, trivial⟩⟩⟩⟩⟩, ⟨tyI5_ok, ⟨tyI9_ok, ⟨tyI17_ok, ⟨tyI33_ok, ⟨tyI65_ok, ⟨tyI129_ok, trivial, trivial⟩, trivial⟩, ⟨tyI97_ok, trivial, trivial⟩⟩, ⟨tyI49_ok, ⟨tyI81_ok, trivial, trivial⟩, ⟨tyI113_ok, trivial, trivial⟩⟩⟩, ⟨tyI25_ok, ⟨tyI41_ok, ⟨tyI73_ok, ⟨tyI137_ok, trivial, trivial⟩, trivial⟩, ⟨tyI105_ok, trivial, trivial⟩⟩, ⟨tyI57_ok, ⟨tyI89_ok, trivial, trivial⟩, ⟨tyI121_ok, trivial, trivial⟩⟩⟩⟩, ⟨tyI13_ok, ⟨tyI21_ok, ⟨tyI37_ok, ⟨tyI69_ok, ⟨tyI133_ok, trivial, trivial⟩, trivial⟩, ⟨tyI101_ok, trivial, trivial⟩⟩, ⟨tyI53_ok, ⟨tyI85_ok, trivial, trivial⟩, ⟨tyI117_ok, trivial, trivial⟩⟩⟩, ⟨tyI29_ok, ⟨tyI45_ok, ⟨tyI77_ok, trivial, trivial⟩, ⟨tyI109_ok, trivial, trivial⟩⟩, ⟨tyI61_ok, ⟨tyI93_ok, trivial, trivial⟩, ⟨tyI125_ok, trivial, trivial⟩⟩⟩⟩⟩⟩, ⟨tyI2_ok, ⟨tyI4_ok, ⟨tyI8_ok, ⟨tyI16_ok, ⟨tyI32_ok, ⟨tyI64_ok, ⟨tyI128_ok, trivial, trivial⟩, trivial⟩, ⟨tyI96_ok, trivial, trivial⟩⟩, ⟨tyI48_ok, ⟨tyI80_ok, trivial, trivial⟩, ⟨tyI112_ok, trivial, trivial⟩⟩⟩, ⟨tyI24_ok, ⟨tyI40_ok, ⟨tyI72_ok, ⟨tyI136_ok, trivial, trivial⟩, trivial⟩, ⟨tyI104_ok, trivial, trivial⟩⟩, ⟨tyI56_ok, ⟨tyI88_ok, trivial, trivial⟩, ⟨tyI120_ok, trivial, trivial⟩⟩⟩⟩, ⟨tyI12_ok, ⟨tyI20_ok, ⟨tyI36_ok, ⟨tyI68_ok, ⟨tyI132_ok, trivial, trivial⟩, trivial⟩, ⟨tyI100_ok, trivial, trivial⟩⟩, ⟨tyI52_ok, ⟨tyI84_ok, trivial, trivial⟩, ⟨tyI116_ok, trivial, trivial⟩⟩⟩, ⟨tyI28_ok, ⟨tyI44_ok, ⟨tyI76_ok, ⟨tyI140_ok, trivial, trivial⟩, trivial⟩, ⟨tyI108_ok, trivial, trivial⟩⟩, ⟨tyI60_ok, ⟨tyI92_ok, trivial, trivial⟩, ⟨tyI124_ok, trivial, trivial⟩⟩⟩⟩⟩, ⟨tyI6_ok, ⟨tyI10_ok, ⟨tyI18_ok, ⟨tyI34_ok, ⟨tyI66_ok, ⟨tyI130_ok, trivial, trivial⟩, trivial⟩, ⟨tyI98_ok, trivial, trivial⟩⟩, ⟨tyI50_ok, ⟨tyI82_ok, trivial, trivial⟩, ⟨tyI114_ok, trivial, trivial⟩⟩⟩, ⟨tyI26_ok, ⟨tyI42_ok, ⟨tyI74_ok, ⟨tyI138_ok, trivial, trivial⟩, trivial⟩, ⟨tyI106_ok, trivial, trivial⟩⟩, ⟨tyI58_ok, ⟨tyI90_ok, trivial, trivial⟩, ⟨tyI122_ok, trivial, trivial⟩⟩⟩⟩, ⟨tyI14_ok, ⟨tyI22_ok, ⟨tyI38_ok, ⟨tyI70_ok, ⟨tyI134_ok, trivial, trivial⟩, trivial⟩, ⟨tyI102_ok, trivial, trivial⟩⟩, ⟨tyI54_ok, ⟨tyI86_ok, trivial, trivial⟩, ⟨tyI118_ok, trivial, trivial⟩⟩⟩, ⟨tyI30_ok, ⟨tyI46_ok, ⟨tyI78_ok, trivial, trivial⟩, ⟨tyI110_ok, trivial, trivial⟩⟩, ⟨tyI62_ok, ⟨tyI94_ok, trivial, trivial⟩, ⟨tyI126_ok, trivial, trivial⟩⟩⟩⟩⟩⟩⟩)
theorem fn3_ok : FnOk Tryd.prog 3 Tryd.f3 := ⟨Tryd.func3, by kernel_rfl⟩
theorem fn4_ok : FnOk Tryd.prog 4 Tryd.f4 := ⟨Tryd.func4, by kernel_rfl⟩
theorem fn5_ok : FnOk Tryd.prog 5 Tryd.f5 := ⟨Tryd.func5, by kernel_rfl⟩
theorem fn6_ok : FnOk Tryd.prog 6 Tryd.f6 := ⟨Tryd.func6, by kernel_rfl⟩
theorem fn7_ok : FnOk Tryd.prog 7 Tryd.f7 := ⟨Tryd.func7, by kernel_rfl⟩
theorem fn8_ok : FnOk Tryd.prog 8 Tryd.f8 := ⟨Tryd.func8, by kernel_rfl⟩
theorem fn9_ok : FnOk Tryd.prog 9 Tryd.f9 := ⟨Tryd.func9, by kernel_rfl⟩
theorem fn10_ok : FnOk Tryd.prog 10 Tryd.f10 := ⟨Tryd.func10, by kernel_rfl⟩
theorem fn11_ok : FnOk Tryd.prog 11 Tryd.f11 := ⟨Tryd.func11, by kernel_rfl⟩
theorem fn12_ok : FnOk Tryd.prog 12 Tryd.f12 := ⟨Tryd.func12, by kernel_rfl⟩
theorem fn13_ok : FnOk Tryd.prog 13 Tryd.f13 := ⟨Tryd.func13, by kernel_rfl⟩
theorem fn14_ok : FnOk Tryd.prog 14 Tryd.f14 := ⟨Tryd.func14, by kernel_rfl⟩
theorem fn15_ok : FnOk Tryd.prog 15 Tryd.f15 := ⟨Tryd.func15, by kernel_rfl⟩
theorem fn16_ok : FnOk Tryd.prog 16 Tryd.f16 := ⟨Tryd.func16, by kernel_rfl⟩
theorem fn17_ok : FnOk Tryd.prog 17 Tryd.f17 := ⟨Tryd.func17, by kernel_rfl⟩
theorem fn18_ok : FnOk Tryd.prog 18 Tryd.f18 := ⟨Tryd.func18, by kernel_rfl⟩
theorem fn19_ok : FnOk Tryd.prog 19 Tryd.f19 := ⟨Tryd.func19, by kernel_rfl⟩
theorem fn20_ok : FnOk Tryd.prog 20 Tryd.f20 := ⟨Tryd.func20, by kernel_rfl⟩
theorem fn21_ok : FnOk Tryd.prog 21 Tryd.f21 := ⟨Tryd.func21, by kernel_rfl⟩
theorem fn22_ok : FnOk Tryd.prog 22 Tryd.f22 := ⟨Tryd.func22, by kernel_rfl⟩
theorem fn23_ok : FnOk Tryd.prog 23 Tryd.f23 := ⟨Tryd.func23, by kernel_rfl⟩
theorem fn24_ok : FnOk Tryd.prog 24 Tryd.f24 := ⟨Tryd.func24, by kernel_rfl⟩
theorem fn25_ok : FnOk Tryd.prog 25 Tryd.f25 := ⟨Tryd.func25, by kernel_rfl⟩
theorem fn26_ok : FnOk Tryd.prog 26 Tryd.f26 := ⟨Tryd.func26, by kernel_rfl⟩
theorem fn27_ok : FnOk Tryd.prog 27 Tryd.f27 := ⟨Tryd.func27, by kernel_rfl⟩
theorem fn28_ok : FnOk Tryd.prog 28 Tryd.f28 := ⟨Tryd.func28, by kernel_rfl⟩
theorem fn29_ok : FnOk Tryd.prog 29 Tryd.f29 := ⟨Tryd.func29, by kernel_rfl⟩
theorem fn30_ok : FnOk Tryd.prog 30 Tryd.f30 := ⟨Tryd.func30, by kernel_rfl⟩
theorem fn31_ok : FnOk Tryd.prog 31 Tryd.f31 := ⟨Tryd.func31, by kernel_rfl⟩
theorem fn32_ok : FnOk Tryd.prog 32 Tryd.f32 := ⟨Tryd.func32, by kernel_rfl⟩
theorem fn33_ok : FnOk Tryd.prog 33 Tryd.f33 := ⟨Tryd.func33, by kernel_rfl⟩
theorem fn34_ok : FnOk Tryd.prog 34 Tryd.f34 := ⟨Tryd.func34, by kernel_rfl⟩
theorem fn35_ok : FnOk Tryd.prog 35 Tryd.f35 := ⟨Tryd.func35, by kernel_rfl⟩
theorem fn36_ok : FnOk Tryd.prog 36 Tryd.f36 := ⟨Tryd.func36, by kernel_rfl⟩
theorem fn37_ok : FnOk Tryd.prog 37 Tryd.f37 := ⟨Tryd.func37, by kernel_rfl⟩
theorem fn38_ok : FnOk Tryd.prog 38 Tryd.f38 := ⟨Tryd.func38, by kernel_rfl⟩
theorem fn39_ok : FnOk Tryd.prog 39 Tryd.f39 := ⟨Tryd.func39, by kernel_rfl⟩
theorem fn40_ok : FnOk Tryd.prog 40 Tryd.f40 := ⟨Tryd.func40, by kernel_rfl⟩
theorem fn41_ok : FnOk Tryd.prog 41 Tryd.f41 := ⟨Tryd.func41, by kernel_rfl⟩
theorem fn42_ok : FnOk Tryd.prog 42 Tryd.f42 := ⟨Tryd.func42, by kernel_rfl⟩
theorem fn43_ok : FnOk Tryd.prog 43 Tryd.f43 := ⟨Tryd.func43, by kernel_rfl⟩
theorem fn44_ok : FnOk Tryd.prog 44 Tryd.f44 := ⟨Tryd.func44, by kernel_rfl⟩
theorem fn45_ok : FnOk Tryd.prog 45 Tryd.f45 := ⟨Tryd.func45, by kernel_rfl⟩
theorem fn46_ok : FnOk Tryd.prog 46 Tryd.f46 := ⟨Tryd.func46, by kernel_rfl⟩
theorem fn47_ok : FnOk Tryd.prog 47 Tryd.f47 := ⟨Tryd.func47, by kernel_rfl⟩
theorem fn48_ok : FnOk Tryd.prog 48 Tryd.f48 := ⟨Tryd.func48, by kernel_rfl⟩
theorem fn49_ok : FnOk Tryd.prog 49 Tryd.f49 := ⟨Tryd.func49, by kernel_rfl⟩
theorem fn50_ok : FnOk Tryd.prog 50 Tryd.f50 := ⟨Tryd.func50, by kernel_rfl⟩
theorem fn51_ok : FnOk Tryd.prog 51 Tryd.f51 := ⟨Tryd.func51, by kernel_rfl⟩
theorem fn52_ok : FnOk Tryd.prog 52 Tryd.f52 := ⟨Tryd.func52, by kernel_rfl⟩
theorem fn53_ok : FnOk Tryd.prog 53 Tryd.f53 := ⟨Tryd.func53, by kernel_rfl⟩
theorem fn54_ok : FnOk Tryd.prog 54 Tryd.f54 := ⟨Tryd.func54, by kernel_rfl⟩
theorem fn55_ok : FnOk Tryd.prog 55 Tryd.f55 := ⟨Tryd.func55, by kernel_rfl⟩
theorem fn56_ok : FnOk Tryd.prog 56 Tryd.f56 := ⟨Tryd.func56, by kernel_rfl⟩
theorem fn57_ok : FnOk Tryd.prog 57 Tryd.f57 := ⟨Tryd.func57, by kernel_rfl⟩
theorem fn58_ok : FnOk Tryd.prog 58 Tryd.f58 := ⟨Tryd.func58, by kernel_rfl⟩
theorem fn59_ok : FnOk Tryd.prog 59 Tryd.f59 := ⟨Tryd.func59, by kernel_rfl⟩
theorem fn60_ok : FnOk Tryd.prog 60 Tryd.f60 := ⟨Tryd.func60, by kernel_rfl⟩
theorem fn61_ok : FnOk Tryd.prog 61 Tryd.f61 := ⟨Tryd.func61, by kernel_rfl⟩
theorem fn63_ok : FnOk Tryd.prog 63 Tryd.f63 := ⟨Tryd.func63, by kernel_rfl⟩
theorem fn64_ok : FnOk Tryd.prog 64 Tryd.f64 := ⟨Tryd.func64, by kernel_rfl⟩
theorem fn65_ok : FnOk Tryd.prog 65 Tryd.f65 := ⟨Tryd.func65, by kernel_rfl⟩
theorem fn66_ok : FnOk Tryd.prog 66 Tryd.f66 := ⟨Tryd.func66, by kernel_rfl⟩
theorem fn67_ok : FnOk Tryd.prog 67 Tryd.f67 := ⟨Tryd.func67, by kernel_rfl⟩
theorem fn68_ok : FnOk Tryd.prog 68 Tryd.f68 := ⟨Tryd.func68, by kernel_rfl⟩
theorem fn69_ok : FnOk Tryd.prog 69 Tryd.f69 := ⟨Tryd.func69, by kernel_rfl⟩
theorem fn70_ok : FnOk Tryd.prog 70 Tryd.f70 := ⟨Tryd.func70, by kernel_rfl⟩
theorem fn71_ok : FnOk Tryd.prog 71 Tryd.f71 := ⟨Tryd.func71, by kernel_rfl⟩
theorem fn72_ok : FnOk Tryd.prog 72 Tryd.f72 := ⟨Tryd.func72, by kernel_rfl⟩
theorem fn73_ok : FnOk Tryd.prog 73 Tryd.f73 := ⟨Tryd.func73, by kernel_rfl⟩
theorem fn75_ok : FnOk Tryd.prog 75 Tryd.f75 := ⟨Tryd.func75, by kernel_rfl⟩
theorem fn76_ok : FnOk Tryd.prog 76 Tryd.f76 := ⟨Tryd.func76, by kernel_rfl⟩
theorem fn77_ok : FnOk Tryd.prog 77 Tryd.f77 := ⟨Tryd.func77, by kernel_rfl⟩
theorem fn78_ok : FnOk Tryd.prog 78 Tryd.f78 := ⟨Tryd.func78, by kernel_rfl⟩
theorem fn79_ok : FnOk Tryd.prog 79 Tryd.f79 := ⟨Tryd.func79, by kernel_rfl⟩
theorem fn80_ok : FnOk Tryd.prog 80 Tryd.f80 := ⟨Tryd.func80, by kernel_rfl⟩
theorem fn81_ok : FnOk Tryd.prog 81 Tryd.f81 := ⟨Tryd.func81, by kernel_rfl⟩
theorem fn82_ok : FnOk Tryd.prog 82 Tryd.f82 := ⟨Tryd.func82, by kernel_rfl⟩
theorem fn83_ok : FnOk Tryd.prog 83 Tryd.f83 := ⟨Tryd.func83, by kernel_rfl⟩
theorem fn84_ok : FnOk Tryd.prog 84 Tryd.f84 := ⟨Tryd.func84, by kernel_rfl⟩
theorem fn85_ok : FnOk Tryd.prog 85 Tryd.f85 := ⟨Tryd.func85, by kernel_rfl⟩
theorem fn86_ok : FnOk Tryd.prog 86 Tryd.f86 := ⟨Tryd.func86, by kernel_rfl⟩
theorem fn87_ok : FnOk Tryd.prog 87 Tryd.f87 := ⟨Tryd.func87, by kernel_rfl⟩
theorem fn88_ok : FnOk Tryd.prog 88 Tryd.f88 := ⟨Tryd.func88, by kernel_rfl⟩
theorem fn89_ok : FnOk Tryd.prog 89 Tryd.f89 := ⟨Tryd.func89, by kernel_rfl⟩
noncomputable def fnT : Tr Func := (.node none (.node none (.node (some Tryd.f3) (.node (some Tryd.f7) (.node (some Tryd.f15) (.node (some Tryd.f31) (.node (some Tryd.f63) .leaf .leaf) .leaf) (.node (some Tryd.f47) (.node (some Tryd.f79) .leaf .leaf) .leaf)) (.node (some Tryd.f23) (.node (some Tryd.f39) (.node (some Tryd.f71) .leaf .leaf) .leaf) (.node (some Tryd.f55) (.node (some Tryd.f87) .leaf .leaf) .leaf))) (.node (some Tryd.f11) (.node (some Tryd.f19) (.node (some Tryd.f35) (.node (some Tryd.f67) .leaf .leaf) .leaf) (.node (some Tryd.f51) (.node (some Tryd.f83) .leaf .leaf) .leaf)) (.node (some Tryd.f27) (.node (some Tryd.f43) (.node (some Tryd.f75) .leaf .leaf) .leaf) (.node (some Tryd.f59) .leaf .leaf)))) (.node (some Tryd.f5) (.node (some Tryd.f9) (.node (some Tryd.f17) (.node (some Tryd.f33) (.node (some Tryd.f65) .leaf .leaf) .leaf) (.node (some Tryd.f49) (.node (some Tryd.f81) .leaf .leaf) .leaf)) (.node (some Tryd.f25) (.node (some Tryd.f41) (.node (some Tryd.f73) .leaf .leaf) .leaf) (.node (some Tryd.f57) (.node (some Tryd.f89) .leaf .leaf) .leaf))) (.node (some Tryd.f13) (.node (some Tryd.f21) (.node (some Tryd.f37) (.node (some Tryd.f69) .leaf .leaf) .leaf) (.node (some Tryd.f53) (.node (some Tryd.f85) .leaf .leaf) .leaf)) (.node (some Tryd.f29) (.node (some Tryd.f45) (.node (some Tryd.f77) .leaf .leaf) .leaf) (.node (some Tryd.f61) .leaf .leaf))))) (.node none (.node (some Tryd.f4) (.node (some Tryd.f8) (.node (some Tryd.f16) (.node (some Tryd.f32) (.node (some Tryd.f64) .leaf .leaf) .leaf) (.node (some Tryd.f48) (.node (some Tryd.f80) .leaf .leaf) .leaf)) (.node (some Tryd.f24) (.node (some Tryd.f40) (.node (some Tryd.f72) .leaf .leaf) .leaf) (.node (some Tryd.f56) (.node (some Tryd.f88) .leaf .leaf) .leaf))) (.node (some Tryd.f12) (.node (some Tryd.f20) (.node (some Tryd.f36) (.node (some Tryd.f68) .leaf .leaf) .leaf) (.node (some Tryd.f52) (.node (some Tryd.f84) .leaf .leaf) .leaf)) (.node (some Tryd.f28) (.node (some Tryd.f44) (.node (some Tryd.f76) .leaf .leaf) .leaf) (.node (some Tryd.f60) .leaf .leaf)))) (.node (some Tryd.f6) (.node (some Tryd.f10) (.node (some Tryd.f18) (.node (some Tryd.f34) (.node (some Tryd.f66) .leaf .leaf) .leaf) (.node (some Tryd.f50) (.node (some Tryd.f82) .leaf .leaf) .leaf)) (.node (some Tryd.f26) (.node (some Tryd.f42) .leaf .leaf) (.node (some Tryd.f58) .leaf .leaf))) (.node (some Tryd.f14) (.node (some Tryd.f22) (.node (some Tryd.f38) (.node (some Tryd.f70) .leaf .leaf) .leaf) (.node (some Tryd.f54) (.node (some Tryd.f86) .leaf .leaf) .leaf)) (.node (some Tryd.f30) (.node (some Tryd.f46) (.node (some Tryd.f78) .leaf .leaf) .leaf) .leaf)))))
theorem fnT_ok : ∀ f x, fnT.get f = some x → FnOk Tryd.prog f x := Tr.allAt fnT id (show Tr.AllAt _ _ fnT from ⟨trivial, ⟨trivial, ⟨fn3_ok, ⟨fn7_ok, ⟨fn15_ok, ⟨fn31_ok, ⟨fn63_ok, trivial, trivial⟩, trivial⟩, ⟨fn47_ok, ⟨fn79_ok, trivial, trivial⟩, trivial⟩⟩, ⟨fn23_ok, ⟨fn39_ok, ⟨fn71_ok, trivial, trivial⟩, trivial⟩, ⟨fn55_ok, ⟨fn87_ok, trivial, trivial⟩, trivial⟩⟩⟩, ⟨fn11_ok, ⟨fn19_ok, ⟨fn35_ok, ⟨fn67_ok, trivial, trivial⟩, trivial⟩, ⟨fn51_ok, ⟨fn83_ok, trivial, trivial⟩, trivial⟩⟩, ⟨fn27_ok, ⟨fn43_ok, ⟨fn75_ok, trivial, trivial⟩, trivial⟩, ⟨fn59_ok, trivial, trivial⟩⟩⟩⟩, ⟨fn5_ok, ⟨fn9_ok, ⟨fn17_ok, ⟨fn33_ok, ⟨fn65_ok, trivial, trivial⟩, trivial⟩, ⟨fn49_ok, ⟨fn81_ok, trivial, trivial⟩, trivial⟩⟩, ⟨fn25_ok, ⟨fn41_ok, ⟨fn73_ok, trivial, trivial⟩, trivial⟩, ⟨fn57_ok, ⟨fn89_ok, trivial, trivial⟩, trivial⟩⟩⟩, ⟨fn13_ok, ⟨fn21_ok, ⟨fn37_ok, ⟨fn69_ok, trivial, trivial⟩, trivial⟩, ⟨fn53_ok, ⟨fn85_ok, trivial, trivial⟩, trivial⟩⟩, ⟨fn29_ok, ⟨fn45_ok, ⟨fn77_ok, trivial, trivial⟩, trivial⟩, ⟨fn61_ok, trivial, trivial⟩⟩⟩⟩⟩, ⟨trivial, ⟨fn4_ok, ⟨fn8_ok, ⟨fn16_ok, ⟨fn32_ok, ⟨fn64_ok, trivial, trivial⟩, trivial⟩, ⟨fn48_ok, ⟨fn80_ok, trivial, trivial⟩, trivial⟩⟩, ⟨fn24_ok, ⟨fn40_ok, ⟨fn72_ok, trivial, trivial⟩, trivial⟩, ⟨fn56_ok, ⟨fn88_ok, trivial, trivial⟩, trivial⟩⟩⟩, ⟨fn12_ok, ⟨fn20_ok, ⟨fn36_ok, ⟨fn68_ok, trivial, trivial⟩, trivial⟩, ⟨fn52_ok, ⟨fn84_ok, trivial, trivial⟩, trivial⟩⟩, ⟨fn28_ok, ⟨fn44_ok, ⟨fn76_ok, trivial, trivial⟩, trivial⟩, ⟨fn60_ok, trivial, trivial⟩⟩⟩⟩, ⟨fn6_ok, ⟨fn10_ok, ⟨fn18_ok, ⟨fn34_ok, ⟨fn66_ok, trivial, trivial⟩, trivial⟩, ⟨fn50_ok, ⟨fn82_ok, trivial, trivial⟩, trivial⟩⟩, ⟨fn26_ok, ⟨fn42_ok, trivial, trivial⟩, ⟨fn58_ok, trivial, trivial⟩⟩⟩, ⟨fn14_ok, ⟨fn22_ok, ⟨fn38_ok, ⟨fn70_ok, trivial, trivial⟩, trivial⟩, ⟨fn54_ok, ⟨fn86_ok, trivial, trivial⟩, trivial⟩⟩, ⟨fn30_ok, ⟨fn46_ok, ⟨fn78_ok, trivial, trivial⟩, trivial⟩, trivial⟩⟩⟩⟩⟩)
theorem identT_ok : ∀ f : FuncId, (decide (f = 62)) = true → ∃ fn, Tryd.prog.funcs[f]? = some fn ∧ (fn.name == "runtime.NumGoroutine") = false ∧ fn.body.isNone = true ∧ Extern.findNext fn = none ∧ Extern.find fn = some Extern.AbiNoEscape.same := by
  intro f h
  simp only [decide_eq_true_eq] at h
  subst h
  exact ⟨Tryd.f62, by kernel_rfl, by kernel_rfl, by kernel_rfl, by kernel_rfl, by kernel_rfl⟩
noncomputable def J : Env := { P := Tryd.prog, ty := tyT.get, ty_ok := tyT_ok, fn := fnT.get, fn_ok := fnT_ok, ident := fun f => decide (f = 62), ident_ok := identT_ok, inv := invT, hook := hookT, hook_ok := hookT_ok }
abbrev okAll : FuncId → Bool := fun f => !(f == 30)
theorem code3_ok : bodyOk J Tryd.f3 = true := by kernel_rfl
theorem code4_ok : bodyOk J Tryd.f4 = true := by kernel_rfl
theorem code5_ok : bodyOk J Tryd.f5 = true := by kernel_rfl
theorem code6_ok : bodyOk J Tryd.f6 = true := by kernel_rfl
theorem code7_ok : bodyOk J Tryd.f7 = true := by kernel_rfl
theorem code8_ok : bodyOk J Tryd.f8 = true := by kernel_rfl
theorem code9_ok : bodyOk J Tryd.f9 = true := by kernel_rfl
theorem code10_ok : bodyOk J Tryd.f10 = true := by kernel_rfl
theorem code11_ok : bodyOk J Tryd.f11 = true := by kernel_rfl
theorem code12_ok : bodyOk J Tryd.f12 = true := by kernel_rfl
theorem code13_ok : bodyOk J Tryd.f13 = true := by kernel_rfl
theorem code14_ok : bodyOk J Tryd.f14 = true := by kernel_rfl
theorem code15_ok : bodyOk J Tryd.f15 = true := by kernel_rfl
theorem code16_ok : bodyOk J Tryd.f16 = true := by kernel_rfl
theorem code17_ok : bodyOk J Tryd.f17 = true := by kernel_rfl
theorem code18_ok : bodyOk J Tryd.f18 = true := by kernel_rfl
theorem code19_ok : bodyOk J Tryd.f19 = true := by kernel_rfl
theorem code20_ok : bodyOk J Tryd.f20 = true := by kernel_rfl
theorem code21_ok : bodyOk J Tryd.f21 = true := by kernel_rfl
theorem code22_ok : bodyOk J Tryd.f22 = true := by kernel_rfl
theorem code23_ok : bodyOk J Tryd.f23 = true := by kernel_rfl
theorem code24_ok : bodyOk J Tryd.f24 = true := by kernel_rfl
theorem code25_ok : bodyOk J Tryd.f25 = true := by kernel_rfl
theorem code26_ok : bodyOk J Tryd.f26 = true := by kernel_rfl
theorem code27_ok : bodyOk J Tryd.f27 = true := by kernel_rfl
theorem code28_ok : bodyOk J Tryd.f28 = true := by kernel_rfl
theorem code29_ok : bodyOk J Tryd.f29 = true := by kernel_rfl
theorem code31_ok : bodyOk J Tryd.f31 = true := by kernel_rfl
theorem code32_ok : bodyOk J Tryd.f32 = true := by kernel_rfl
theorem code33_ok : bodyOk J Tryd.f33 = true := by kernel_rfl
theorem code34_ok : bodyOk J Tryd.f34 = true := by kernel_rfl
theorem code35_ok : bodyOk J Tryd.f35 = true := by kernel_rfl
theorem code36_ok : bodyOk J Tryd.f36 = true := by kernel_rfl
theorem code37_ok : bodyOk J Tryd.f37 = true := by kernel_rfl
theorem code38_ok : bodyOk J Tryd.f38 = true := by kernel_rfl
theorem code39_ok : bodyOk J Tryd.f39 = true := by kernel_rfl
theorem code40_ok : bodyOk J Tryd.f40 = true := by kernel_rfl
theorem code41_ok : bodyOk J Tryd.f41 = true := by kernel_rfl
theorem code42_ok : bodyOk J Tryd.f42 = true := by kernel_rfl
theorem code43_ok : bodyOk J Tryd.f43 = true := by kernel_rfl
theorem code44_ok : bodyOk J Tryd.f44 = true := by kernel_rfl
theorem code45_ok : bodyOk J Tryd.f45 = true := by kernel_rfl
theorem code46_ok : bodyOk J Tryd.f46 = true := by kernel_rfl
theorem code47_ok : bodyOk J Tryd.f47 = true := by kernel_rfl
theorem code48_ok : bodyOk J Tryd.f48 = true := by kernel_rfl
theorem code49_ok : bodyOk J Tryd.f49 = true := by kernel_rfl
theorem code50_ok : bodyOk J Tryd.f50 = true := by kernel_rfl
theorem code51_ok : bodyOk J Tryd.f51 = true := by kernel_rfl
theorem code52_ok : bodyOk J Tryd.f52 = true := by kernel_rfl
theorem code53_ok : bodyOk J Tryd.f53 = true := by kernel_rfl
theorem code54_ok : bodyOk J Tryd.f54 = true := by kernel_rfl
theorem code55_ok : bodyOk J Tryd.f55 = true := by kernel_rfl
theorem code56_ok : bodyOk J Tryd.f56 = true := by kernel_rfl
theorem code57_ok : bodyOk J Tryd.f57 = true := by kernel_rfl
theorem code58_ok : bodyOk J Tryd.f58 = true := by kernel_rfl
theorem code59_ok : bodyOk J Tryd.f59 = true := by kernel_rfl
theorem code60_ok : bodyOk J Tryd.f60 = true := by kernel_rfl
theorem code61_ok : bodyOk J Tryd.f61 = true := by kernel_rfl
theorem code63_ok : bodyOk J Tryd.f63 = true := by kernel_rfl
theorem code64_ok : bodyOk J Tryd.f64 = true := by kernel_rfl
theorem code65_ok : bodyOk J Tryd.f65 = true := by kernel_rfl
theorem code66_ok : bodyOk J Tryd.f66 = true := by kernel_rfl
theorem code67_ok : bodyOk J Tryd.f67 = true := by kernel_rfl
theorem code68_ok : bodyOk J Tryd.f68 = true := by kernel_rfl
theorem code69_ok : bodyOk J Tryd.f69 = true := by kernel_rfl
theorem code70_ok : bodyOk J Tryd.f70 = true := by kernel_rfl
theorem code71_ok : bodyOk J Tryd.f71 = true := by kernel_rfl
theorem code72_ok : bodyOk J Tryd.f72 = true := by kernel_rfl
theorem code73_ok : bodyOk J Tryd.f73 = true := by kernel_rfl
theorem code75_ok : bodyOk J Tryd.f75 = true := by kernel_rfl
theorem code76_ok : bodyOk J Tryd.f76 = true := by kernel_rfl
theorem code77_ok : bodyOk J Tryd.f77 = true := by kernel_rfl
theorem code78_ok : bodyOk J Tryd.f78 = true := by kernel_rfl
theorem code79_ok : bodyOk J Tryd.f79 = true := by kernel_rfl
theorem code80_ok : bodyOk J Tryd.f80 = true := by kernel_rfl
theorem code81_ok : bodyOk J Tryd.f81 = true := by kernel_rfl
theorem code82_ok : bodyOk J Tryd.f82 = true := by kernel_rfl
theorem code83_ok : bodyOk J Tryd.f83 = true := by kernel_rfl
theorem code84_ok : bodyOk J Tryd.f84 = true := by kernel_rfl
theorem code85_ok : bodyOk J Tryd.f85 = true := by kernel_rfl
theorem code86_ok : bodyOk J Tryd.f86 = true := by kernel_rfl
theorem code87_ok : bodyOk J Tryd.f87 = true := by kernel_rfl
theorem code88_ok : bodyOk J Tryd.f88 = true := by kernel_rfl
theorem code89_ok : bodyOk J Tryd.f89 = true := by kernel_rfl
theorem codeT_ok : ∀ f x, fnT.get f = some x → okAll f = true → bodyOk J x = true := Tr.allAt (p := fun f x => okAll f = true → bodyOk J x = true) fnT id (show Tr.AllAt _ _ fnT from ⟨trivial, ⟨trivial, ⟨(fun _ => code3_ok), ⟨(fun _ => code7_ok), ⟨(fun _ => code15_ok), ⟨(fun _ => code31_ok), ⟨(fun _ => code63_ok), trivial, trivial⟩, trivial⟩, ⟨(fun _ => code47_ok), ⟨(fun _ => code79_ok), trivial, trivial⟩, trivial⟩⟩, ⟨(fun _ => code23_ok), ⟨(fun _ => code39_ok), ⟨(fun _ => code71_ok), trivial, trivial⟩, trivial⟩, ⟨(fun _ => code55_ok), ⟨(fun _ => code87_ok), trivial, trivial⟩, trivial⟩⟩⟩, ⟨(fun _ => code11_ok), ⟨(fun _ => code19_ok), ⟨(fun _ => code35_ok), ⟨(fun _ => code67_ok), trivial, trivial⟩, trivial⟩, ⟨(fun _ => code51_ok), ⟨(fun _ => code83_ok), trivial, trivial⟩, trivial⟩⟩, ⟨(fun _ => code27_ok), ⟨(fun _ => code43_ok), ⟨(fun _ => code75_ok), trivial, trivial⟩, trivial⟩, ⟨(fun _ => code59_ok), trivial, trivial⟩⟩⟩⟩, ⟨(fun _ => code5_ok), ⟨(fun _ => code9_ok), ⟨(fun _ => code17_ok), ⟨(fun _ => code33_ok), ⟨(fun _ => code65_ok), trivial, trivial⟩, trivial⟩, ⟨(fun _ => code49_ok), ⟨(fun _ => code81_ok), trivial, trivial⟩, trivial⟩⟩, ⟨(fun _ => code25_ok), ⟨(fun _ => code41_ok), ⟨(fun _ => code73_ok), trivial, trivial⟩, trivial⟩, ⟨(fun _ => code57_ok), ⟨(fun _ => code89_ok), trivial, trivial⟩, trivial⟩⟩⟩, ⟨(fun _ => code13_ok), ⟨(fun _ => code21_ok), ⟨(fun _ => code37_ok), ⟨(fun _ => code69_ok), trivial, trivial⟩, trivial⟩, ⟨(fun _ => code53_ok), ⟨(fun _ => code85_ok), trivial, trivial⟩, trivial⟩⟩, ⟨(fun _ => code29_ok), ⟨(fun _ => code45_ok), ⟨(fun _ => code77_ok), trivial, trivial⟩, trivial⟩, ⟨(fun _ => code61_ok), trivial, trivial⟩⟩⟩⟩⟩, ⟨trivial, ⟨(fun _ => code4_ok), ⟨(fun _ => code8_ok), ⟨(fun _ => code16_ok), ⟨(fun _ => code32_ok), ⟨(fun _ => code64_ok), trivial, trivial⟩, trivial⟩, ⟨(fun _ => code48_ok), ⟨(fun _ => code80_ok), trivial, trivial⟩, trivial⟩⟩, ⟨(fun _ => code24_ok), ⟨(fun _ => code40_ok), ⟨(fun _ => code72_ok), trivial, trivial⟩, trivial⟩, ⟨(fun _ => code56_ok), ⟨(fun _ => code88_ok), trivial, trivial⟩, trivial⟩⟩⟩, ⟨(fun _ => code12_ok), ⟨(fun _ => code20_ok), ⟨(fun _ => code36_ok), ⟨(fun _ => code68_ok), trivial, trivial⟩, trivial⟩, ⟨(fun _ => code52_ok), ⟨(fun _ => code84_ok), trivial, trivial⟩, trivial⟩⟩, ⟨(fun _ => code28_ok), ⟨(fun _ => code44_ok), ⟨(fun _ => code76_ok), trivial, trivial⟩, trivial⟩, ⟨(fun _ => code60_ok), trivial, trivial⟩⟩⟩⟩, ⟨(fun _ => code6_ok), ⟨(fun _ => code10_ok), ⟨(fun _ => code18_ok), ⟨(fun _ => code34_ok), ⟨(fun _ => code66_ok), trivial, trivial⟩, trivial⟩, ⟨(fun _ => code50_ok), ⟨(fun _ => code82_ok), trivial, trivial⟩, trivial⟩⟩, ⟨(fun _ => code26_ok), ⟨(fun _ => code42_ok), trivial, trivial⟩, ⟨(fun _ => code58_ok), trivial, trivial⟩⟩⟩, ⟨(fun _ => code14_ok), ⟨(fun _ => code22_ok), ⟨(fun _ => code38_ok), ⟨(fun _ => code70_ok), trivial, trivial⟩, trivial⟩, ⟨(fun _ => code54_ok), ⟨(fun _ => code86_ok), trivial, trivial⟩, trivial⟩⟩, ⟨(fun h => by cases h), ⟨(fun _ => code46_ok), ⟨(fun _ => code78_ok), trivial, trivial⟩, trivial⟩, trivial⟩⟩⟩⟩⟩)
theorem mixed : J.P.follows .mixedOrders = true := by kernel_rfl
theorem sound (B : Nat) (k : Nat) : CallSound J B (icall J okAll k) := icall_sound mixed (fun f fn c hk hf hc => by have := codeT_ok f fn hf hk; unfold bodyOk at this; rw [hc] at this; exact this) k
end Go.Proofs.YtjbcjcibnjbpcaaDoor.Idl
namespace Go.Proofs.YtjbcjcibnjbpcaaDoor.Idl
open Go
set_option maxRecDepth 100000
@[simp] theorem und0 : J.und 0 = some (TypeDesc.tuple #[]) := id rfl
@[simp] theorem size0 : J.size 0 = some 1 := id rfl
@[simp] theorem bytes0 : J.bytes 0 = some 0 := id rfl
@[simp] theorem zero0 : J.zero 0 = some ((Value.tuple #[])) := id rfl
@[simp] theorem agg0 : isAggT J 0 = some false := id rfl
@[simp] theorem und1 : J.und 1 = some (TypeDesc.func #[] #[] false) := id rfl
@[simp] theorem size1 : J.size 1 = some 1 := id rfl
@[simp] theorem bytes1 : J.bytes 1 = some 8 := id rfl
@[simp] theorem zero1 : J.zero 1 = some Value.nilFunc := id rfl
@[simp] theorem agg1 : isAggT J 1 = some false := id rfl
@[simp] theorem und2 : J.und 2 = some (TypeDesc.int IntKind.i64) := id rfl
@[simp] theorem size2 : J.size 2 = some 1 := id rfl
@[simp] theorem bytes2 : J.bytes 2 = some 8 := id rfl
@[simp] theorem zero2 : J.zero 2 = some ((Value.int IntKind.i64 0)) := id rfl
@[simp] theorem agg2 : isAggT J 2 = some false := id rfl
@[simp] theorem und3 : J.und 3 = some (TypeDesc.int IntKind.i64) := id rfl
@[simp] theorem size3 : J.size 3 = some 1 := id rfl
@[simp] theorem bytes3 : J.bytes 3 = some 8 := id rfl
@[simp] theorem zero3 : J.zero 3 = some ((Value.int IntKind.i64 0)) := id rfl
@[simp] theorem agg3 : isAggT J 3 = some false := id rfl
@[simp] theorem und4 : J.und 4 = some TypeDesc.bool := id rfl
@[simp] theorem size4 : J.size 4 = some 1 := id rfl
@[simp] theorem bytes4 : J.bytes 4 = some 1 := id rfl
@[simp] theorem zero4 : J.zero 4 = some ((Value.bool false)) := id rfl
@[simp] theorem agg4 : isAggT J 4 = some false := id rfl
@[simp] theorem und5 : J.und 5 = some (TypeDesc.int IntKind.u8) := id rfl
@[simp] theorem size5 : J.size 5 = some 1 := id rfl
@[simp] theorem bytes5 : J.bytes 5 = some 1 := id rfl
@[simp] theorem zero5 : J.zero 5 = some ((Value.int IntKind.u8 0)) := id rfl
@[simp] theorem agg5 : isAggT J 5 = some false := id rfl
@[simp] theorem und6 : J.und 6 = some (TypeDesc.int IntKind.u8) := id rfl
@[simp] theorem size6 : J.size 6 = some 1 := id rfl
@[simp] theorem bytes6 : J.bytes 6 = some 1 := id rfl
@[simp] theorem zero6 : J.zero 6 = some ((Value.int IntKind.u8 0)) := id rfl
@[simp] theorem agg6 : isAggT J 6 = some false := id rfl
@[simp] theorem size7 : J.size 7 = some 4 := id rfl
@[simp] theorem bytes7 : J.bytes 7 = some 24 := id rfl
@[simp] theorem zero7 : J.zero 7 = some ((Value.agg #[Value.int IntKind.i64 0, Value.int IntKind.i64 0, Value.bool false, Value.int IntKind.u8 0])) := id rfl
@[simp] theorem agg7 : isAggT J 7 = some true := id rfl
@[simp] theorem fa7_0 (a : Addr) : ifieldAddr J 7 (.pointer (some a)) 0 = some (.pointer (some (a.add 0))) := id rfl
@[simp] theorem fa7_1 (a : Addr) : ifieldAddr J 7 (.pointer (some a)) 1 = some (.pointer (some (a.add 1))) := id rfl
@[simp] theorem fa7_2 (a : Addr) : ifieldAddr J 7 (.pointer (some a)) 2 = some (.pointer (some (a.add 2))) := id rfl
@[simp] theorem fa7_3 (a : Addr) : ifieldAddr J 7 (.pointer (some a)) 3 = some (.pointer (some (a.add 3))) := id rfl
@[simp] theorem size8 : J.size 8 = some 4 := id rfl
@[simp] theorem bytes8 : J.bytes 8 = some 24 := id rfl
@[simp] theorem zero8 : J.zero 8 = some ((Value.agg #[Value.int IntKind.i64 0, Value.int IntKind.i64 0, Value.bool false, Value.int IntKind.u8 0])) := id rfl
@[simp] theorem agg8 : isAggT J 8 = some true := id rfl
@[simp] theorem fa8_0 (a : Addr) : ifieldAddr J 8 (.pointer (some a)) 0 = some (.pointer (some (a.add 0))) := id rfl
@[simp] theorem fa8_1 (a : Addr) : ifieldAddr J 8 (.pointer (some a)) 1 = some (.pointer (some (a.add 1))) := id rfl
@[simp] theorem fa8_2 (a : Addr) : ifieldAddr J 8 (.pointer (some a)) 2 = some (.pointer (some (a.add 2))) := id rfl
@[simp] theorem fa8_3 (a : Addr) : ifieldAddr J 8 (.pointer (some a)) 3 = some (.pointer (some (a.add 3))) := id rfl
@[simp] theorem und9 : J.und 9 = some TypeDesc.string := id rfl
@[simp] theorem size9 : J.size 9 = some 1 := id rfl
@[simp] theorem bytes9 : J.bytes 9 = some 16 := id rfl
@[simp] theorem zero9 : J.zero 9 = some ((Value.string { data := #[] })) := id rfl
@[simp] theorem agg9 : isAggT J 9 = some false := id rfl
@[simp] theorem und10 : J.und 10 = some TypeDesc.string := id rfl
@[simp] theorem size10 : J.size 10 = some 1 := id rfl
@[simp] theorem bytes10 : J.bytes 10 = some 16 := id rfl
@[simp] theorem zero10 : J.zero 10 = some ((Value.string { data := #[] })) := id rfl
@[simp] theorem agg10 : isAggT J 10 = some false := id rfl
@[simp] theorem und11 : J.und 11 = some TypeDesc.string := id rfl
@[simp] theorem size11 : J.size 11 = some 1 := id rfl
@[simp] theorem bytes11 : J.bytes 11 = some 16 := id rfl
@[simp] theorem zero11 : J.zero 11 = some ((Value.string { data := #[] })) := id rfl
@[simp] theorem agg11 : isAggT J 11 = some false := id rfl
@[simp] theorem und12 : J.und 12 = some (TypeDesc.int IntKind.u64) := id rfl
@[simp] theorem size12 : J.size 12 = some 1 := id rfl
@[simp] theorem bytes12 : J.bytes 12 = some 8 := id rfl
@[simp] theorem zero12 : J.zero 12 = some ((Value.int IntKind.u64 0)) := id rfl
@[simp] theorem agg12 : isAggT J 12 = some false := id rfl
@[simp] theorem size13 : J.size 13 = some 2 := id rfl
@[simp] theorem bytes13 : J.bytes 13 = some 24 := id rfl
@[simp] theorem zero13 : J.zero 13 = some ((Value.agg #[Value.string { data := #[] }, Value.int IntKind.u64 0])) := id rfl
@[simp] theorem agg13 : isAggT J 13 = some true := id rfl
@[simp] theorem fa13_0 (a : Addr) : ifieldAddr J 13 (.pointer (some a)) 0 = some (.pointer (some (a.add 0))) := id rfl
@[simp] theorem fa13_1 (a : Addr) : ifieldAddr J 13 (.pointer (some a)) 1 = some (.pointer (some (a.add 1))) := id rfl
@[simp] theorem size14 : J.size 14 = some 2 := id rfl
@[simp] theorem bytes14 : J.bytes 14 = some 24 := id rfl
@[simp] theorem zero14 : J.zero 14 = some ((Value.agg #[Value.string { data := #[] }, Value.int IntKind.u64 0])) := id rfl
@[simp] theorem agg14 : isAggT J 14 = some true := id rfl
@[simp] theorem fa14_0 (a : Addr) : ifieldAddr J 14 (.pointer (some a)) 0 = some (.pointer (some (a.add 0))) := id rfl
@[simp] theorem fa14_1 (a : Addr) : ifieldAddr J 14 (.pointer (some a)) 1 = some (.pointer (some (a.add 1))) := id rfl
@[simp] theorem und15 : J.und 15 = some (TypeDesc.pointer 135) := id rfl
@[simp] theorem size15 : J.size 15 = some 1 := id rfl
@[simp] theorem bytes15 : J.bytes 15 = some 8 := id rfl
@[simp] theorem zero15 : J.zero 15 = some ((Value.pointer none)) := id rfl
@[simp] theorem agg15 : isAggT J 15 = some false := id rfl
@[simp] theorem und16 : J.und 16 = some (TypeDesc.pointer 138) := id rfl
@[simp] theorem size16 : J.size 16 = some 1 := id rfl
@[simp] theorem bytes16 : J.bytes 16 = some 8 := id rfl
@[simp] theorem zero16 : J.zero 16 = some ((Value.pointer none)) := id rfl
@[simp] theorem agg16 : isAggT J 16 = some false := id rfl
@[simp] theorem und17 : J.und 17 = some (TypeDesc.pointer 145) := id rfl
@[simp] theorem size17 : J.size 17 = some 1 := id rfl
@[simp] theorem bytes17 : J.bytes 17 = some 8 := id rfl
@[simp] theorem zero17 : J.zero 17 = some ((Value.pointer none)) := id rfl
@[simp] theorem agg17 : isAggT J 17 = some false := id rfl
@[simp] theorem size18 : J.size 18 = some 1 := id rfl
@[simp] theorem bytes18 : J.bytes 18 = some 8 := id rfl
@[simp] theorem zero18 : J.zero 18 = some ((Value.agg #[Value.pointer none])) := id rfl
@[simp] theorem agg18 : isAggT J 18 = some true := id rfl
@[simp] theorem fa18_0 (a : Addr) : ifieldAddr J 18 (.pointer (some a)) 0 = some (.pointer (some (a.add 0))) := id rfl
@[simp] theorem size19 : J.size 19 = some 1 := id rfl
@[simp] theorem bytes19 : J.bytes 19 = some 8 := id rfl
@[simp] theorem zero19 : J.zero 19 = some ((Value.agg #[Value.pointer none])) := id rfl
@[simp] theorem agg19 : isAggT J 19 = some true := id rfl
@[simp] theorem fa19_0 (a : Addr) : ifieldAddr J 19 (.pointer (some a)) 0 = some (.pointer (some (a.add 0))) := id rfl
@[simp] theorem und20 : J.und 20 = some (TypeDesc.interface #[]) := id rfl
@[simp] theorem size20 : J.size 20 = some 1 := id rfl
@[simp] theorem bytes20 : J.bytes 20 = some 16 := id rfl
@[simp] theorem zero20 : J.zero 20 = some Value.nilIface := id rfl
@[simp] theorem agg20 : isAggT J 20 = some false := id rfl
@[simp] theorem und21 : J.und 21 = some (TypeDesc.int IntKind.i32) := id rfl
@[simp] theorem size21 : J.size 21 = some 1 := id rfl
@[simp] theorem bytes21 : J.bytes 21 = some 4 := id rfl
@[simp] theorem zero21 : J.zero 21 = some ((Value.int IntKind.i32 0)) := id rfl
@[simp] theorem agg21 : isAggT J 21 = some false := id rfl
@[simp] theorem und22 : J.und 22 = some (TypeDesc.func #[9] #[9] false) := id rfl
@[simp] theorem size22 : J.size 22 = some 1 := id rfl
@[simp] theorem bytes22 : J.bytes 22 = some 8 := id rfl
@[simp] theorem zero22 : J.zero 22 = some Value.nilFunc := id rfl
@[simp] theorem agg22 : isAggT J 22 = some false := id rfl
@[simp] theorem und23 : J.und 23 = some (TypeDesc.slice 31) := id rfl
@[simp] theorem size23 : J.size 23 = some 1 := id rfl
@[simp] theorem bytes23 : J.bytes 23 = some 24 := id rfl
@[simp] theorem zero23 : J.zero 23 = some ((Value.slice none 0 0)) := id rfl
@[simp] theorem agg23 : isAggT J 23 = some false := id rfl
@[simp] theorem und24 : J.und 24 = some (TypeDesc.int IntKind.i64) := id rfl
@[simp] theorem size24 : J.size 24 = some 1 := id rfl
@[simp] theorem bytes24 : J.bytes 24 = some 8 := id rfl
@[simp] theorem zero24 : J.zero 24 = some ((Value.int IntKind.i64 0)) := id rfl
@[simp] theorem agg24 : isAggT J 24 = some false := id rfl
@[simp] theorem und25 : J.und 25 = some (TypeDesc.tuple #[23, 24, 3]) := id rfl
@[simp] theorem size25 : J.size 25 = some 1 := id rfl
@[simp] theorem bytes25 : J.bytes 25 = some 0 := id rfl
@[simp] theorem zero25 : J.zero 25 = some ((Value.tuple #[Value.slice none 0 0, Value.int IntKind.i64 0, Value.int IntKind.i64 0])) := id rfl
@[simp] theorem agg25 : isAggT J 25 = some false := id rfl
@[simp] theorem und26 : J.und 26 = some (TypeDesc.func #[9] #[23, 24, 3] false) := id rfl
@[simp] theorem size26 : J.size 26 = some 1 := id rfl
@[simp] theorem bytes26 : J.bytes 26 = some 8 := id rfl
@[simp] theorem zero26 : J.zero 26 = some Value.nilFunc := id rfl
@[simp] theorem agg26 : isAggT J 26 = some false := id rfl
@[simp] theorem und27 : J.und 27 = some (TypeDesc.func #[23, 23] #[4] false) := id rfl
@[simp] theorem size27 : J.size 27 = some 1 := id rfl
@[simp] theorem bytes27 : J.bytes 27 = some 8 := id rfl
@[simp] theorem zero27 : J.zero 27 = some Value.nilFunc := id rfl
@[simp] theorem agg27 : isAggT J 27 = some false := id rfl
@[simp] theorem und28 : J.und 28 = some (TypeDesc.func #[] #[4] false) := id rfl
@[simp] theorem size28 : J.size 28 = some 1 := id rfl
@[simp] theorem bytes28 : J.bytes 28 = some 8 := id rfl
@[simp] theorem zero28 : J.zero 28 = some Value.nilFunc := id rfl
@[simp] theorem agg28 : isAggT J 28 = some false := id rfl
@[simp] theorem und29 : J.und 29 = some (TypeDesc.func #[9] #[4] false) := id rfl
@[simp] theorem size29 : J.size 29 = some 1 := id rfl
@[simp] theorem bytes29 : J.bytes 29 = some 8 := id rfl
@[simp] theorem zero29 : J.zero 29 = some Value.nilFunc := id rfl
@[simp] theorem agg29 : isAggT J 29 = some false := id rfl
@[simp] theorem size30 : J.size 30 = some 4 := id rfl
@[simp] theorem bytes30 : J.bytes 30 = some 40 := id rfl
@[simp] theorem zero30 : J.zero 30 = some ((Value.agg #[Value.int IntKind.i64 0, Value.int IntKind.i64 0, Value.string { data := #[] }, Value.int IntKind.i64 0])) := id rfl
@[simp] theorem agg30 : isAggT J 30 = some true := id rfl
@[simp] theorem fa30_0 (a : Addr) : ifieldAddr J 30 (.pointer (some a)) 0 = some (.pointer (some (a.add 0))) := id rfl
@[simp] theorem fa30_1 (a : Addr) : ifieldAddr J 30 (.pointer (some a)) 1 = some (.pointer (some (a.add 1))) := id rfl
@[simp] theorem fa30_2 (a : Addr) : ifieldAddr J 30 (.pointer (some a)) 2 = some (.pointer (some (a.add 2))) := id rfl
@[simp] theorem fa30_3 (a : Addr) : ifieldAddr J 30 (.pointer (some a)) 3 = some (.pointer (some (a.add 3))) := id rfl
@[simp] theorem size31 : J.size 31 = some 4 := id rfl
@[simp] theorem bytes31 : J.bytes 31 = some 40 := id rfl
@[simp] theorem zero31 : J.zero 31 = some ((Value.agg #[Value.int IntKind.i64 0, Value.int IntKind.i64 0, Value.string { data := #[] }, Value.int IntKind.i64 0])) := id rfl
@[simp] theorem agg31 : isAggT J 31 = some true := id rfl
@[simp] theorem fa31_0 (a : Addr) : ifieldAddr J 31 (.pointer (some a)) 0 = some (.pointer (some (a.add 0))) := id rfl
@[simp] theorem fa31_1 (a : Addr) : ifieldAddr J 31 (.pointer (some a)) 1 = some (.pointer (some (a.add 1))) := id rfl
@[simp] theorem fa31_2 (a : Addr) : ifieldAddr J 31 (.pointer (some a)) 2 = some (.pointer (some (a.add 2))) := id rfl
@[simp] theorem fa31_3 (a : Addr) : ifieldAddr J 31 (.pointer (some a)) 3 = some (.pointer (some (a.add 3))) := id rfl
@[simp] theorem und32 : J.und 32 = some (TypeDesc.func #[23] #[9] false) := id rfl
@[simp] theorem size32 : J.size 32 = some 1 := id rfl
@[simp] theorem bytes32 : J.bytes 32 = some 8 := id rfl
@[simp] theorem zero32 : J.zero 32 = some Value.nilFunc := id rfl
@[simp] theorem agg32 : isAggT J 32 = some false := id rfl
@[simp] theorem und33 : J.und 33 = some (TypeDesc.func #[23] #[4] false) := id rfl
@[simp] theorem size33 : J.size 33 = some 1 := id rfl
@[simp] theorem bytes33 : J.bytes 33 = some 8 := id rfl
@[simp] theorem zero33 : J.zero 33 = some Value.nilFunc := id rfl
@[simp] theorem agg33 : isAggT J 33 = some false := id rfl
@[simp] theorem und34 : J.und 34 = some (TypeDesc.func #[23] #[23] false) := id rfl
@[simp] theorem size34 : J.size 34 = some 1 := id rfl
@[simp] theorem bytes34 : J.bytes 34 = some 8 := id rfl
@[simp] theorem zero34 : J.zero 34 = some Value.nilFunc := id rfl
@[simp] theorem agg34 : isAggT J 34 = some false := id rfl
@[simp] theorem und35 : J.und 35 = some (TypeDesc.tuple #[31, 3]) := id rfl
@[simp] theorem size35 : J.size 35 = some 1 := id rfl
@[simp] theorem bytes35 : J.bytes 35 = some 0 := id rfl
@[simp] theorem zero35 : J.zero 35 = some ((Value.tuple #[Value.agg #[Value.int IntKind.i64 0, Value.int IntKind.i64 0, Value.string { data := #[] }, Value.int IntKind.i64 0], Value.int IntKind.i64 0])) := id rfl
@[simp] theorem agg35 : isAggT J 35 = some false := id rfl
@[simp] theorem und36 : J.und 36 = some (TypeDesc.func #[9] #[31, 3] false) := id rfl
@[simp] theorem size36 : J.size 36 = some 1 := id rfl
@[simp] theorem bytes36 : J.bytes 36 = some 8 := id rfl
@[simp] theorem zero36 : J.zero 36 = some Value.nilFunc := id rfl
@[simp] theorem agg36 : isAggT J 36 = some false := id rfl
@[simp] theorem und37 : J.und 37 = some (TypeDesc.func #[9, 9] #[4] false) := id rfl
@[simp] theorem size37 : J.size 37 = some 1 := id rfl
@[simp] theorem bytes37 : J.bytes 37 = some 8 := id rfl
@[simp] theorem zero37 : J.zero 37 = some Value.nilFunc := id rfl
@[simp] theorem agg37 : isAggT J 37 = some false := id rfl
@[simp] theorem und38 : J.und 38 = some (TypeDesc.func #[2, 3] #[4] false) := id rfl
@[simp] theorem size38 : J.size 38 = some 1 := id rfl
@[simp] theorem bytes38 : J.bytes 38 = some 8 := id rfl
@[simp] theorem zero38 : J.zero 38 = some Value.nilFunc := id rfl
@[simp] theorem agg38 : isAggT J 38 = some false := id rfl
@[simp] theorem und39 : J.und 39 = some (TypeDesc.func #[3, 3] #[4] false) := id rfl
@[simp] theorem size39 : J.size 39 = some 1 := id rfl
@[simp] theorem bytes39 : J.bytes 39 = some 8 := id rfl
@[simp] theorem zero39 : J.zero 39 = some Value.nilFunc := id rfl
@[simp] theorem agg39 : isAggT J 39 = some false := id rfl
@[simp] theorem und40 : J.und 40 = some (TypeDesc.slice 5) := id rfl
@[simp] theorem size40 : J.size 40 = some 1 := id rfl
@[simp] theorem bytes40 : J.bytes 40 = some 24 := id rfl
@[simp] theorem zero40 : J.zero 40 = some ((Value.slice none 0 0)) := id rfl
@[simp] theorem agg40 : isAggT J 40 = some false := id rfl
@[simp] theorem und41 : J.und 41 = some (TypeDesc.func #[3, 4] #[4] false) := id rfl
@[simp] theorem size41 : J.size 41 = some 1 := id rfl
@[simp] theorem bytes41 : J.bytes 41 = some 8 := id rfl
@[simp] theorem zero41 : J.zero 41 = some Value.nilFunc := id rfl
@[simp] theorem agg41 : isAggT J 41 = some false := id rfl
@[simp] theorem und42 : J.und 42 = some (TypeDesc.pointer 46) := id rfl
@[simp] theorem size42 : J.size 42 = some 1 := id rfl
@[simp] theorem bytes42 : J.bytes 42 = some 8 := id rfl
@[simp] theorem zero42 : J.zero 42 = some ((Value.pointer none)) := id rfl
@[simp] theorem agg42 : isAggT J 42 = some false := id rfl
@[simp] theorem und43 : J.und 43 = some (TypeDesc.map 9 3) := id rfl
@[simp] theorem size43 : J.size 43 = some 1 := id rfl
@[simp] theorem bytes43 : J.bytes 43 = some 8 := id rfl
@[simp] theorem zero43 : J.zero 43 = some ((Value.map none)) := id rfl
@[simp] theorem agg43 : isAggT J 43 = some false := id rfl
@[simp] theorem und44 : J.und 44 = some (TypeDesc.func #[] #[43] false) := id rfl
@[simp] theorem size44 : J.size 44 = some 1 := id rfl
@[simp] theorem bytes44 : J.bytes 44 = some 8 := id rfl
@[simp] theorem zero44 : J.zero 44 = some Value.nilFunc := id rfl
@[simp] theorem agg44 : isAggT J 44 = some false := id rfl
@[simp] theorem size45 : J.size 45 = some 3 := id rfl
@[simp] theorem bytes45 : J.bytes 45 = some 32 := id rfl
@[simp] theorem zero45 : J.zero 45 = some ((Value.agg #[Value.string { data := #[] }, Value.int IntKind.i64 0, Value.map none])) := id rfl
@[simp] theorem agg45 : isAggT J 45 = some true := id rfl
@[simp] theorem fa45_0 (a : Addr) : ifieldAddr J 45 (.pointer (some a)) 0 = some (.pointer (some (a.add 0))) := id rfl
@[simp] theorem fa45_1 (a : Addr) : ifieldAddr J 45 (.pointer (some a)) 1 = some (.pointer (some (a.add 1))) := id rfl
@[simp] theorem fa45_2 (a : Addr) : ifieldAddr J 45 (.pointer (some a)) 2 = some (.pointer (some (a.add 2))) := id rfl
@[simp] theorem size46 : J.size 46 = some 3 := id rfl
@[simp] theorem bytes46 : J.bytes 46 = some 32 := id rfl
@[simp] theorem zero46 : J.zero 46 = some ((Value.agg #[Value.string { data := #[] }, Value.int IntKind.i64 0, Value.map none])) := id rfl
@[simp] theorem agg46 : isAggT J 46 = some true := id rfl
@[simp] theorem fa46_0 (a : Addr) : ifieldAddr J 46 (.pointer (some a)) 0 = some (.pointer (some (a.add 0))) := id rfl
@[simp] theorem fa46_1 (a : Addr) : ifieldAddr J 46 (.pointer (some a)) 1 = some (.pointer (some (a.add 1))) := id rfl
@[simp] theorem fa46_2 (a : Addr) : ifieldAddr J 46 (.pointer (some a)) 2 = some (.pointer (some (a.add 2))) := id rfl
@[simp] theorem und47 : J.und 47 = some (TypeDesc.func #[] #[31, 3, 4] false) := id rfl
@[simp] theorem size47 : J.size 47 = some 1 := id rfl
@[simp] theorem bytes47 : J.bytes 47 = some 8 := id rfl
@[simp] theorem zero47 : J.zero 47 = some Value.nilFunc := id rfl
@[simp] theorem agg47 : isAggT J 47 = some false := id rfl
@[simp] theorem und48 : J.und 48 = some (TypeDesc.func #[] #[3] false) := id rfl
@[simp] theorem size48 : J.size 48 = some 1 := id rfl
@[simp] theorem bytes48 : J.bytes 48 = some 8 := id rfl
@[simp] theorem zero48 : J.zero 48 = some Value.nilFunc := id rfl
@[simp] theorem agg48 : isAggT J 48 = some false := id rfl
@[simp] theorem und49 : J.und 49 = some (TypeDesc.tuple #[31, 3, 4]) := id rfl
@[simp] theorem size49 : J.size 49 = some 1 := id rfl
@[simp] theorem bytes49 : J.bytes 49 = some 0 := id rfl
@[simp] theorem zero49 : J.zero 49 = some ((Value.tuple #[Value.agg #[Value.int IntKind.i64 0, Value.int IntKind.i64 0, Value.string { data := #[] }, Value.int IntKind.i64 0], Value.int IntKind.i64 0, Value.bool false])) := id rfl
@[simp] theorem agg49 : isAggT J 49 = some false := id rfl
@[simp] theorem und50 : J.und 50 = some (TypeDesc.func #[9] #[3] false) := id rfl
@[simp] theorem size50 : J.size 50 = some 1 := id rfl
@[simp] theorem bytes50 : J.bytes 50 = some 8 := id rfl
@[simp] theorem zero50 : J.zero 50 = some Value.nilFunc := id rfl
@[simp] theorem agg50 : isAggT J 50 = some false := id rfl
@[simp] theorem und51 : J.und 51 = some (TypeDesc.pointer 53) := id rfl
@[simp] theorem size51 : J.size 51 = some 1 := id rfl
@[simp] theorem bytes51 : J.bytes 51 = some 8 := id rfl
@[simp] theorem zero51 : J.zero 51 = some ((Value.pointer none)) := id rfl
@[simp] theorem agg51 : isAggT J 51 = some false := id rfl
@[simp] theorem size52 : J.size 52 = some 2 := id rfl
@[simp] theorem bytes52 : J.bytes 52 = some 32 := id rfl
@[simp] theorem zero52 : J.zero 52 = some ((Value.agg #[Value.pointer none, Value.slice none 0 0])) := id rfl
@[simp] theorem agg52 : isAggT J 52 = some true := id rfl
@[simp] theorem fa52_0 (a : Addr) : ifieldAddr J 52 (.pointer (some a)) 0 = some (.pointer (some (a.add 0))) := id rfl
@[simp] theorem fa52_1 (a : Addr) : ifieldAddr J 52 (.pointer (some a)) 1 = some (.pointer (some (a.add 1))) := id rfl
@[simp] theorem size53 : J.size 53 = some 2 := id rfl
@[simp] theorem bytes53 : J.bytes 53 = some 32 := id rfl
@[simp] theorem zero53 : J.zero 53 = some ((Value.agg #[Value.pointer none, Value.slice none 0 0])) := id rfl
@[simp] theorem agg53 : isAggT J 53 = some true := id rfl
@[simp] theorem fa53_0 (a : Addr) : ifieldAddr J 53 (.pointer (some a)) 0 = some (.pointer (some (a.add 0))) := id rfl
@[simp] theorem fa53_1 (a : Addr) : ifieldAddr J 53 (.pointer (some a)) 1 = some (.pointer (some (a.add 1))) := id rfl
@[simp] theorem und54 : J.und 54 = some (TypeDesc.interface #[("Error", 60)]) := id rfl
@[simp] theorem size54 : J.size 54 = some 1 := id rfl
@[simp] theorem bytes54 : J.bytes 54 = some 16 := id rfl
@[simp] theorem zero54 : J.zero 54 = some Value.nilIface := id rfl
@[simp] theorem agg54 : isAggT J 54 = some false := id rfl
@[simp] theorem und55 : J.und 55 = some (TypeDesc.interface #[("Error", 60)]) := id rfl
@[simp] theorem size55 : J.size 55 = some 1 := id rfl
@[simp] theorem bytes55 : J.bytes 55 = some 16 := id rfl
@[simp] theorem zero55 : J.zero 55 = some Value.nilIface := id rfl
@[simp] theorem agg55 : isAggT J 55 = some false := id rfl
@[simp] theorem und56 : J.und 56 = some (TypeDesc.func #[5] #[55] false) := id rfl
@[simp] theorem size56 : J.size 56 = some 1 := id rfl
@[simp] theorem bytes56 : J.bytes 56 = some 8 := id rfl
@[simp] theorem zero56 : J.zero 56 = some Value.nilFunc := id rfl
@[simp] theorem agg56 : isAggT J 56 = some false := id rfl
@[simp] theorem und57 : J.und 57 = some (TypeDesc.tuple #[3, 55]) := id rfl
@[simp] theorem size57 : J.size 57 = some 1 := id rfl
@[simp] theorem bytes57 : J.bytes 57 = some 0 := id rfl
@[simp] theorem zero57 : J.zero 57 = some ((Value.tuple #[Value.int IntKind.i64 0, Value.nilIface])) := id rfl
@[simp] theorem agg57 : isAggT J 57 = some false := id rfl
@[simp] theorem und58 : J.und 58 = some (TypeDesc.func #[9] #[3, 55] false) := id rfl
@[simp] theorem size58 : J.size 58 = some 1 := id rfl
@[simp] theorem bytes58 : J.bytes 58 = some 8 := id rfl
@[simp] theorem zero58 : J.zero 58 = some Value.nilFunc := id rfl
@[simp] theorem agg58 : isAggT J 58 = some false := id rfl
@[simp] theorem und59 : J.und 59 = some (TypeDesc.func #[2, 3] #[9] false) := id rfl
@[simp] theorem size59 : J.size 59 = some 1 := id rfl
@[simp] theorem bytes59 : J.bytes 59 = some 8 := id rfl
@[simp] theorem zero59 : J.zero 59 = some Value.nilFunc := id rfl
@[simp] theorem agg59 : isAggT J 59 = some false := id rfl
@[simp] theorem und60 : J.und 60 = some (TypeDesc.func #[] #[9] false) := id rfl
@[simp] theorem size60 : J.size 60 = some 1 := id rfl
@[simp] theorem bytes60 : J.bytes 60 = some 8 := id rfl
@[simp] theorem zero60 : J.zero 60 = some Value.nilFunc := id rfl
@[simp] theorem agg60 : isAggT J 60 = some false := id rfl
@[simp] theorem und61 : J.und 61 = some (TypeDesc.func #[2] #[9] false) := id rfl
@[simp] theorem size61 : J.size 61 = some 1 := id rfl
@[simp] theorem bytes61 : J.bytes 61 = some 8 := id rfl
@[simp] theorem zero61 : J.zero 61 = some Value.nilFunc := id rfl
@[simp] theorem agg61 : isAggT J 61 = some false := id rfl
@[simp] theorem und62 : J.und 62 = some (TypeDesc.func #[5] #[4] false) := id rfl
@[simp] theorem size62 : J.size 62 = some 1 := id rfl
@[simp] theorem bytes62 : J.bytes 62 = some 8 := id rfl
@[simp] theorem zero62 : J.zero 62 = some Value.nilFunc := id rfl
@[simp] theorem agg62 : isAggT J 62 = some false := id rfl
@[simp] theorem und63 : J.und 63 = some (TypeDesc.func #[9] #[2] false) := id rfl
@[simp] theorem size63 : J.size 63 = some 1 := id rfl
@[simp] theorem bytes63 : J.bytes 63 = some 8 := id rfl
@[simp] theorem zero63 : J.zero 63 = some Value.nilFunc := id rfl
@[simp] theorem agg63 : isAggT J 63 = some false := id rfl
@[simp] theorem und64 : J.und 64 = some (TypeDesc.tuple #[9, 3, 4]) := id rfl
@[simp] theorem size64 : J.size 64 = some 1 := id rfl
@[simp] theorem bytes64 : J.bytes 64 = some 0 := id rfl
@[simp] theorem zero64 : J.zero 64 = some ((Value.tuple #[Value.string { data := #[] }, Value.int IntKind.i64 0, Value.bool false])) := id rfl
@[simp] theorem agg64 : isAggT J 64 = some false := id rfl
@[simp] theorem und65 : J.und 65 = some (TypeDesc.func #[9] #[9, 3, 4] false) := id rfl
@[simp] theorem size65 : J.size 65 = some 1 := id rfl
@[simp] theorem bytes65 : J.bytes 65 = some 8 := id rfl
@[simp] theorem zero65 : J.zero 65 = some Value.nilFunc := id rfl
@[simp] theorem agg65 : isAggT J 65 = some false := id rfl
@[simp] theorem und66 : J.und 66 = some (TypeDesc.func #[9, 67] #[4] false) := id rfl
@[simp] theorem size66 : J.size 66 = some 1 := id rfl
@[simp] theorem bytes66 : J.bytes 66 = some 8 := id rfl
@[simp] theorem zero66 : J.zero 66 = some Value.nilFunc := id rfl
@[simp] theorem agg66 : isAggT J 66 = some false := id rfl
@[simp] theorem und67 : J.und 67 = some (TypeDesc.slice 9) := id rfl
@[simp] theorem size67 : J.size 67 = some 1 := id rfl
@[simp] theorem bytes67 : J.bytes 67 = some 24 := id rfl
@[simp] theorem zero67 : J.zero 67 = some ((Value.slice none 0 0)) := id rfl
@[simp] theorem agg67 : isAggT J 67 = some false := id rfl
@[simp] theorem und68 : J.und 68 = some (TypeDesc.func #[] #[67] false) := id rfl
@[simp] theorem size68 : J.size 68 = some 1 := id rfl
@[simp] theorem bytes68 : J.bytes 68 = some 8 := id rfl
@[simp] theorem zero68 : J.zero 68 = some Value.nilFunc := id rfl
@[simp] theorem agg68 : isAggT J 68 = some false := id rfl
@[simp] theorem und69 : J.und 69 = some (TypeDesc.func #[9] #[67] false) := id rfl
@[simp] theorem size69 : J.size 69 = some 1 := id rfl
@[simp] theorem bytes69 : J.bytes 69 = some 8 := id rfl
@[simp] theorem zero69 : J.zero 69 = some Value.nilFunc := id rfl
@[simp] theorem agg69 : isAggT J 69 = some false := id rfl
@[simp] theorem und70 : J.und 70 = some (TypeDesc.func #[3, 62] #[3] false) := id rfl
@[simp] theorem size70 : J.size 70 = some 1 := id rfl
@[simp] theorem bytes70 : J.bytes 70 = some 8 := id rfl
@[simp] theorem zero70 : J.zero 70 = some Value.nilFunc := id rfl
@[simp] theorem agg70 : isAggT J 70 = some false := id rfl
@[simp] theorem und71 : J.und 71 = some (TypeDesc.tuple #[2, 55]) := id rfl
@[simp] theorem size71 : J.size 71 = some 1 := id rfl
@[simp] theorem bytes71 : J.bytes 71 = some 0 := id rfl
@[simp] theorem zero71 : J.zero 71 = some ((Value.tuple #[Value.int IntKind.i64 0, Value.nilIface])) := id rfl
@[simp] theorem agg71 : isAggT J 71 = some false := id rfl
@[simp] theorem und72 : J.und 72 = some (TypeDesc.func #[9, 3, 3] #[2, 55] false) := id rfl
@[simp] theorem size72 : J.size 72 = some 1 := id rfl
@[simp] theorem bytes72 : J.bytes 72 = some 8 := id rfl
@[simp] theorem zero72 : J.zero 72 = some Value.nilFunc := id rfl
@[simp] theorem agg72 : isAggT J 72 = some false := id rfl
@[simp] theorem und73 : J.und 73 = some (TypeDesc.func #[] #[9, 3, 4] false) := id rfl
@[simp] theorem size73 : J.size 73 = some 1 := id rfl
@[simp] theorem bytes73 : J.bytes 73 = some 8 := id rfl
@[simp] theorem zero73 : J.zero 73 = some Value.nilFunc := id rfl
@[simp] theorem agg73 : isAggT J 73 = some false := id rfl
@[simp] theorem und74 : J.und 74 = some (TypeDesc.func #[3, 9] #[4] false) := id rfl
@[simp] theorem size74 : J.size 74 = some 1 := id rfl
@[simp] theorem bytes74 : J.bytes 74 = some 8 := id rfl
@[simp] theorem zero74 : J.zero 74 = some Value.nilFunc := id rfl
@[simp] theorem agg74 : isAggT J 74 = some false := id rfl
@[simp] theorem und75 : J.und 75 = some (TypeDesc.func #[9, 5] #[3] false) := id rfl
@[simp] theorem size75 : J.size 75 = some 1 := id rfl
@[simp] theorem bytes75 : J.bytes 75 = some 8 := id rfl
@[simp] theorem zero75 : J.zero 75 = some Value.nilFunc := id rfl
@[simp] theorem agg75 : isAggT J 75 = some false := id rfl
@[simp] theorem und76 : J.und 76 = some (TypeDesc.pointer 5) := id rfl
@[simp] theorem size76 : J.size 76 = some 1 := id rfl
@[simp] theorem bytes76 : J.bytes 76 = some 8 := id rfl
@[simp] theorem zero76 : J.zero 76 = some ((Value.pointer none)) := id rfl
@[simp] theorem agg76 : isAggT J 76 = some false := id rfl
@[simp] theorem und77 : J.und 77 = some (TypeDesc.array 256 5) := id rfl
@[simp] theorem size77 : J.size 77 = some 256 := id rfl
@[simp] theorem bytes77 : J.bytes 77 = some 256 := id rfl
@[simp] theorem agg77 : isAggT J 77 = some true := id rfl
@[simp] theorem und78 : J.und 78 = some (TypeDesc.func #[9, 79] #[67] false) := id rfl
@[simp] theorem size78 : J.size 78 = some 1 := id rfl
@[simp] theorem bytes78 : J.bytes 78 = some 8 := id rfl
@[simp] theorem zero78 : J.zero 78 = some Value.nilFunc := id rfl
@[simp] theorem agg78 : isAggT J 78 = some false := id rfl
@[simp] theorem und79 : J.und 79 = some (TypeDesc.func #[21] #[4] false) := id rfl
@[simp] theorem size79 : J.size 79 = some 1 := id rfl
@[simp] theorem bytes79 : J.bytes 79 = some 8 := id rfl
@[simp] theorem zero79 : J.zero 79 = some Value.nilFunc := id rfl
@[simp] theorem agg79 : isAggT J 79 = some false := id rfl
@[simp] theorem und80 : J.und 80 = some (TypeDesc.func #[9, 9, 3, 3, 55] #[55] false) := id rfl
@[simp] theorem size80 : J.size 80 = some 1 := id rfl
@[simp] theorem bytes80 : J.bytes 80 = some 8 := id rfl
@[simp] theorem zero80 : J.zero 80 = some Value.nilFunc := id rfl
@[simp] theorem agg80 : isAggT J 80 = some false := id rfl
@[simp] theorem und81 : J.und 81 = some (TypeDesc.tuple #[5, 3]) := id rfl
@[simp] theorem size81 : J.size 81 = some 1 := id rfl
@[simp] theorem bytes81 : J.bytes 81 = some 0 := id rfl
@[simp] theorem zero81 : J.zero 81 = some ((Value.tuple #[Value.int IntKind.u8 0, Value.int IntKind.i64 0])) := id rfl
@[simp] theorem agg81 : isAggT J 81 = some false := id rfl
@[simp] theorem und82 : J.und 82 = some (TypeDesc.func #[9] #[5, 3] false) := id rfl
@[simp] theorem size82 : J.size 82 = some 1 := id rfl
@[simp] theorem bytes82 : J.bytes 82 = some 8 := id rfl
@[simp] theorem zero82 : J.zero 82 = some Value.nilFunc := id rfl
@[simp] theorem agg82 : isAggT J 82 = some false := id rfl
@[simp] theorem und83 : J.und 83 = some TypeDesc.unsafePointer := id rfl
@[simp] theorem size83 : J.size 83 = some 1 := id rfl
@[simp] theorem bytes83 : J.bytes 83 = some 8 := id rfl
@[simp] theorem zero83 : J.zero 83 = some ((Value.pointer none)) := id rfl
@[simp] theorem agg83 : isAggT J 83 = some false := id rfl
@[simp] theorem und84 : J.und 84 = some (TypeDesc.func #[83] #[83] false) := id rfl
@[simp] theorem size84 : J.size 84 = some 1 := id rfl
@[simp] theorem bytes84 : J.bytes 84 = some 8 := id rfl
@[simp] theorem zero84 : J.zero 84 = some Value.nilFunc := id rfl
@[simp] theorem agg84 : isAggT J 84 = some false := id rfl
@[simp] theorem und85 : J.und 85 = some (TypeDesc.func #[3] #[9] false) := id rfl
@[simp] theorem size85 : J.size 85 = some 1 := id rfl
@[simp] theorem bytes85 : J.bytes 85 = some 8 := id rfl
@[simp] theorem zero85 : J.zero 85 = some Value.nilFunc := id rfl
@[simp] theorem agg85 : isAggT J 85 = some false := id rfl
@[simp] theorem und86 : J.und 86 = some (TypeDesc.array 24 5) := id rfl
@[simp] theorem size86 : J.size 86 = some 24 := id rfl
@[simp] theorem bytes86 : J.bytes 86 = some 24 := id rfl
@[simp] theorem zero86 : J.zero 86 = some ((Value.agg #[Value.int IntKind.u8 0, Value.int IntKind.u8 0, Value.int IntKind.u8 0, Value.int IntKind.u8 0, Value.int IntKind.u8 0, Value.int IntKind.u8 0, Value.int IntKind.u8 0, Value.int IntKind.u8 0, Value.int IntKind.u8 0, Value.int IntKind.u8 0, Value.int IntKind.u8 0, Value.int IntKind.u8 0, Value.int IntKind.u8 0, Value.int IntKind.u8 0, Value.int IntKind.u8 0, Value.int IntKind.u8 0, Value.int IntKind.u8 0, Value.int IntKind.u8 0, Value.int IntKind.u8 0, Value.int IntKind.u8 0, Value.int IntKind.u8 0, Value.int IntKind.u8 0, Value.int IntKind.u8 0, Value.int IntKind.u8 0])) := id rfl
@[simp] theorem agg86 : isAggT J 86 = some true := id rfl
@[simp] theorem und87 : J.und 87 = some (TypeDesc.int IntKind.u64) := id rfl
@[simp] theorem size87 : J.size 87 = some 1 := id rfl
@[simp] theorem bytes87 : J.bytes 87 = some 8 := id rfl
@[simp] theorem zero87 : J.zero 87 = some ((Value.int IntKind.u64 0)) := id rfl
@[simp] theorem agg87 : isAggT J 87 = some false := id rfl
@[simp] theorem und88 : J.und 88 = some (TypeDesc.func #[87] #[3] false) := id rfl
@[simp] theorem size88 : J.size 88 = some 1 := id rfl
@[simp] theorem bytes88 : J.bytes 88 = some 8 := id rfl
@[simp] theorem zero88 : J.zero 88 = some Value.nilFunc := id rfl
@[simp] theorem agg88 : isAggT J 88 = some false := id rfl
@[simp] theorem und89 : J.und 89 = some (TypeDesc.func #[40, 87] #[] false) := id rfl
@[simp] theorem size89 : J.size 89 = some 1 := id rfl
@[simp] theorem bytes89 : J.bytes 89 = some 8 := id rfl
@[simp] theorem zero89 : J.zero 89 = some Value.nilFunc := id rfl
@[simp] theorem agg89 : isAggT J 89 = some false := id rfl
@[simp] theorem und90 : J.und 90 = some (TypeDesc.tuple #[40, 9]) := id rfl
@[simp] theorem size90 : J.size 90 = some 1 := id rfl
@[simp] theorem bytes90 : J.bytes 90 = some 0 := id rfl
@[simp] theorem zero90 : J.zero 90 = some ((Value.tuple #[Value.slice none 0 0, Value.string { data := #[] }])) := id rfl
@[simp] theorem agg90 : isAggT J 90 = some false := id rfl
@[simp] theorem und91 : J.und 91 = some (TypeDesc.func #[40, 87, 3, 4, 4] #[40, 9] false) := id rfl
@[simp] theorem size91 : J.size 91 = some 1 := id rfl
@[simp] theorem bytes91 : J.bytes 91 = some 8 := id rfl
@[simp] theorem zero91 : J.zero 91 = some Value.nilFunc := id rfl
@[simp] theorem agg91 : isAggT J 91 = some false := id rfl
@[simp] theorem und92 : J.und 92 = some (TypeDesc.slice 94) := id rfl
@[simp] theorem size92 : J.size 92 = some 1 := id rfl
@[simp] theorem bytes92 : J.bytes 92 = some 24 := id rfl
@[simp] theorem zero92 : J.zero 92 = some ((Value.slice none 0 0)) := id rfl
@[simp] theorem agg92 : isAggT J 92 = some false := id rfl
@[simp] theorem size93 : J.size 93 = some 2 := id rfl
@[simp] theorem bytes93 : J.bytes 93 = some 16 := id rfl
@[simp] theorem zero93 : J.zero 93 = some ((Value.agg #[Value.int IntKind.i64 0, Value.int IntKind.i64 0])) := id rfl
@[simp] theorem agg93 : isAggT J 93 = some true := id rfl
@[simp] theorem fa93_0 (a : Addr) : ifieldAddr J 93 (.pointer (some a)) 0 = some (.pointer (some (a.add 0))) := id rfl
@[simp] theorem fa93_1 (a : Addr) : ifieldAddr J 93 (.pointer (some a)) 1 = some (.pointer (some (a.add 1))) := id rfl
@[simp] theorem size94 : J.size 94 = some 2 := id rfl
@[simp] theorem bytes94 : J.bytes 94 = some 16 := id rfl
@[simp] theorem zero94 : J.zero 94 = some ((Value.agg #[Value.int IntKind.i64 0, Value.int IntKind.i64 0])) := id rfl
@[simp] theorem agg94 : isAggT J 94 = some true := id rfl
@[simp] theorem fa94_0 (a : Addr) : ifieldAddr J 94 (.pointer (some a)) 0 = some (.pointer (some (a.add 0))) := id rfl
@[simp] theorem fa94_1 (a : Addr) : ifieldAddr J 94 (.pointer (some a)) 1 = some (.pointer (some (a.add 1))) := id rfl
@[simp] theorem und95 : J.und 95 = some (TypeDesc.int IntKind.u32) := id rfl
@[simp] theorem size95 : J.size 95 = some 1 := id rfl
@[simp] theorem bytes95 : J.bytes 95 = some 4 := id rfl
@[simp] theorem zero95 : J.zero 95 = some ((Value.int IntKind.u32 0)) := id rfl
@[simp] theorem agg95 : isAggT J 95 = some false := id rfl
@[simp] theorem und96 : J.und 96 = some (TypeDesc.func #[97, 21] #[4] false) := id rfl
@[simp] theorem size96 : J.size 96 = some 1 := id rfl
@[simp] theorem bytes96 : J.bytes 96 = some 8 := id rfl
@[simp] theorem zero96 : J.zero 96 = some Value.nilFunc := id rfl
@[simp] theorem agg96 : isAggT J 96 = some false := id rfl
@[simp] theorem und97 : J.und 97 = some (TypeDesc.pointer 114) := id rfl
@[simp] theorem size97 : J.size 97 = some 1 := id rfl
@[simp] theorem bytes97 : J.bytes 97 = some 8 := id rfl
@[simp] theorem zero97 : J.zero 97 = some ((Value.pointer none)) := id rfl
@[simp] theorem agg97 : isAggT J 97 = some false := id rfl
@[simp] theorem und98 : J.und 98 = some (TypeDesc.int IntKind.i64) := id rfl
@[simp] theorem size98 : J.size 98 = some 1 := id rfl
@[simp] theorem bytes98 : J.bytes 98 = some 8 := id rfl
@[simp] theorem zero98 : J.zero 98 = some ((Value.int IntKind.i64 0)) := id rfl
@[simp] theorem agg98 : isAggT J 98 = some false := id rfl
@[simp] theorem und99 : J.und 99 = some (TypeDesc.tuple #[87, 55]) := id rfl
@[simp] theorem size99 : J.size 99 = some 1 := id rfl
@[simp] theorem bytes99 : J.bytes 99 = some 0 := id rfl
@[simp] theorem zero99 : J.zero 99 = some ((Value.tuple #[Value.int IntKind.u64 0, Value.nilIface])) := id rfl
@[simp] theorem agg99 : isAggT J 99 = some false := id rfl
@[simp] theorem und100 : J.und 100 = some (TypeDesc.func #[9, 3, 3] #[87, 55] false) := id rfl
@[simp] theorem size100 : J.size 100 = some 1 := id rfl
@[simp] theorem bytes100 : J.bytes 100 = some 8 := id rfl
@[simp] theorem zero100 : J.zero 100 = some Value.nilFunc := id rfl
@[simp] theorem agg100 : isAggT J 100 = some false := id rfl
@[simp] theorem und101 : J.und 101 = some (TypeDesc.int IntKind.u64) := id rfl
@[simp] theorem size101 : J.size 101 = some 1 := id rfl
@[simp] theorem bytes101 : J.bytes 101 = some 8 := id rfl
@[simp] theorem zero101 : J.zero 101 = some ((Value.int IntKind.u64 0)) := id rfl
@[simp] theorem agg101 : isAggT J 101 = some false := id rfl
@[simp] theorem und102 : J.und 102 = some (TypeDesc.pointer 124) := id rfl
@[simp] theorem size102 : J.size 102 = some 1 := id rfl
@[simp] theorem bytes102 : J.bytes 102 = some 8 := id rfl
@[simp] theorem zero102 : J.zero 102 = some ((Value.pointer none)) := id rfl
@[simp] theorem agg102 : isAggT J 102 = some false := id rfl
@[simp] theorem und103 : J.und 103 = some (TypeDesc.func #[9, 9] #[102] false) := id rfl
@[simp] theorem size103 : J.size 103 = some 1 := id rfl
@[simp] theorem bytes103 : J.bytes 103 = some 8 := id rfl
@[simp] theorem zero103 : J.zero 103 = some Value.nilFunc := id rfl
@[simp] theorem agg103 : isAggT J 103 = some false := id rfl
@[simp] theorem und104 : J.und 104 = some (TypeDesc.func #[9, 9, 3] #[102] false) := id rfl
@[simp] theorem size104 : J.size 104 = some 1 := id rfl
@[simp] theorem bytes104 : J.bytes 104 = some 8 := id rfl
@[simp] theorem zero104 : J.zero 104 = some Value.nilFunc := id rfl
@[simp] theorem agg104 : isAggT J 104 = some false := id rfl
@[simp] theorem und105 : J.und 105 = some (TypeDesc.func #[3] #[3] false) := id rfl
@[simp] theorem size105 : J.size 105 = some 1 := id rfl
@[simp] theorem bytes105 : J.bytes 105 = some 8 := id rfl
@[simp] theorem zero105 : J.zero 105 = some Value.nilFunc := id rfl
@[simp] theorem agg105 : isAggT J 105 = some false := id rfl
@[simp] theorem und106 : J.und 106 = some (TypeDesc.func #[4] #[3] false) := id rfl
@[simp] theorem size106 : J.size 106 = some 1 := id rfl
@[simp] theorem bytes106 : J.bytes 106 = some 8 := id rfl
@[simp] theorem zero106 : J.zero 106 = some Value.nilFunc := id rfl
@[simp] theorem agg106 : isAggT J 106 = some false := id rfl
@[simp] theorem und107 : J.und 107 = some (TypeDesc.array 20 87) := id rfl
@[simp] theorem size107 : J.size 107 = some 20 := id rfl
@[simp] theorem bytes107 : J.bytes 107 = some 160 := id rfl
@[simp] theorem zero107 : J.zero 107 = some ((Value.agg #[Value.int IntKind.u64 0, Value.int IntKind.u64 0, Value.int IntKind.u64 0, Value.int IntKind.u64 0, Value.int IntKind.u64 0, Value.int IntKind.u64 0, Value.int IntKind.u64 0, Value.int IntKind.u64 0, Value.int IntKind.u64 0, Value.int IntKind.u64 0, Value.int IntKind.u64 0, Value.int IntKind.u64 0, Value.int IntKind.u64 0, Value.int IntKind.u64 0, Value.int IntKind.u64 0, Value.int IntKind.u64 0, Value.int IntKind.u64 0, Value.int IntKind.u64 0, Value.int IntKind.u64 0, Value.int IntKind.u64 0])) := id rfl
@[simp] theorem agg107 : isAggT J 107 = some true := id rfl
@[simp] theorem und108 : J.und 108 = some (TypeDesc.array 65 5) := id rfl
@[simp] theorem size108 : J.size 108 = some 65 := id rfl
@[simp] theorem bytes108 : J.bytes 108 = some 65 := id rfl
@[simp] theorem zero108 : J.zero 108 = some ((Value.agg ([Value.int IntKind.u8 0, Value.int IntKind.u8 0, Value.int IntKind.u8 0, Value.int IntKind.u8 0, Value.int IntKind.u8 0, Value.int IntKind.u8 0, Value.int IntKind.u8 0, Value.int IntKind.u8 0, Value.int IntKind.u8 0, Value.int IntKind.u8 0, Value.int IntKind.u8 0, Value.int IntKind.u8 0, Value.int IntKind.u8 0, Value.int IntKind.u8 0, Value.int IntKind.u8 0, Value.int IntKind.u8 0, Value.int IntKind.u8 0, Value.int IntKind.u8 0, Value.int IntKind.u8 0, Value.int IntKind.u8 0, Value.int IntKind.u8 0, Value.int IntKind.u8 0, Value.int IntKind.u8 0, Value.int IntKind.u8 0, Value.int IntKind.u8 0, Value.int IntKind.u8 0, Value.int IntKind.u8 0, Value.int IntKind.u8 0, Value.int IntKind.u8 0, Value.int IntKind.u8 0, Value.int IntKind.u8 0, Value.int IntKind.u8 0].append [Value.int IntKind.u8 0, Value.int IntKind.u8 0, Value.int IntKind.u8 0, Value.int IntKind.u8 0, Value.int IntKind.u8 0, Value.int IntKind.u8 0, Value.int IntKind.u8 0, Value.int IntKind.u8 0, Value.int IntKind.u8 0, Value.int IntKind.u8 0, Value.int IntKind.u8 0, Value.int IntKind.u8 0, Value.int IntKind.u8 0, Value.int IntKind.u8 0, Value.int IntKind.u8 0, Value.int IntKind.u8 0, Value.int IntKind.u8 0, Value.int IntKind.u8 0, Value.int IntKind.u8 0, Value.int IntKind.u8 0, Value.int IntKind.u8 0, Value.int IntKind.u8 0, Value.int IntKind.u8 0, Value.int IntKind.u8 0, Value.int IntKind.u8 0, Value.int IntKind.u8 0, Value.int IntKind.u8 0, Value.int IntKind.u8 0, Value.int IntKind.u8 0, Value.int IntKind.u8 0, Value.int IntKind.u8 0, Value.int IntKind.u8 0, Value.int IntKind.u8 0]).toArray)) := id rfl
@[simp] theorem agg108 : isAggT J 108 = some true := id rfl
@[simp] theorem und109 : J.und 109 = some (TypeDesc.func #[3] #[4] false) := id rfl
@[simp] theorem size109 : J.size 109 = some 1 := id rfl
@[simp] theorem bytes109 : J.bytes 109 = some 8 := id rfl
@[simp] theorem zero109 : J.zero 109 = some Value.nilFunc := id rfl
@[simp] theorem agg109 : isAggT J 109 = some false := id rfl
@[simp] theorem und110 : J.und 110 = some (TypeDesc.func #[101] #[3] false) := id rfl
@[simp] theorem size110 : J.size 110 = some 1 := id rfl
@[simp] theorem bytes110 : J.bytes 110 = some 8 := id rfl
@[simp] theorem zero110 : J.zero 110 = some Value.nilFunc := id rfl
@[simp] theorem agg110 : isAggT J 110 = some false := id rfl
@[simp] theorem und111 : J.und 111 = some (TypeDesc.slice 117) := id rfl
@[simp] theorem size111 : J.size 111 = some 1 := id rfl
@[simp] theorem bytes111 : J.bytes 111 = some 24 := id rfl
@[simp] theorem zero111 : J.zero 111 = some ((Value.slice none 0 0)) := id rfl
@[simp] theorem agg111 : isAggT J 111 = some false := id rfl
@[simp] theorem und112 : J.und 112 = some (TypeDesc.slice 120) := id rfl
@[simp] theorem size112 : J.size 112 = some 1 := id rfl
@[simp] theorem bytes112 : J.bytes 112 = some 24 := id rfl
@[simp] theorem zero112 : J.zero 112 = some ((Value.slice none 0 0)) := id rfl
@[simp] theorem agg112 : isAggT J 112 = some false := id rfl
@[simp] theorem size113 : J.size 113 = some 3 := id rfl
@[simp] theorem bytes113 : J.bytes 113 = some 56 := id rfl
@[simp] theorem zero113 : J.zero 113 = some ((Value.agg #[Value.slice none 0 0, Value.slice none 0 0, Value.int IntKind.i64 0])) := id rfl
@[simp] theorem agg113 : isAggT J 113 = some true := id rfl
@[simp] theorem fa113_0 (a : Addr) : ifieldAddr J 113 (.pointer (some a)) 0 = some (.pointer (some (a.add 0))) := id rfl
@[simp] theorem fa113_1 (a : Addr) : ifieldAddr J 113 (.pointer (some a)) 1 = some (.pointer (some (a.add 1))) := id rfl
@[simp] theorem fa113_2 (a : Addr) : ifieldAddr J 113 (.pointer (some a)) 2 = some (.pointer (some (a.add 2))) := id rfl
@[simp] theorem size114 : J.size 114 = some 3 := id rfl
@[simp] theorem bytes114 : J.bytes 114 = some 56 := id rfl
@[simp] theorem zero114 : J.zero 114 = some ((Value.agg #[Value.slice none 0 0, Value.slice none 0 0, Value.int IntKind.i64 0])) := id rfl
@[simp] theorem agg114 : isAggT J 114 = some true := id rfl
@[simp] theorem fa114_0 (a : Addr) : ifieldAddr J 114 (.pointer (some a)) 0 = some (.pointer (some (a.add 0))) := id rfl
@[simp] theorem fa114_1 (a : Addr) : ifieldAddr J 114 (.pointer (some a)) 1 = some (.pointer (some (a.add 1))) := id rfl
@[simp] theorem fa114_2 (a : Addr) : ifieldAddr J 114 (.pointer (some a)) 2 = some (.pointer (some (a.add 2))) := id rfl
@[simp] theorem und115 : J.und 115 = some (TypeDesc.int IntKind.u16) := id rfl
@[simp] theorem size115 : J.size 115 = some 1 := id rfl
@[simp] theorem bytes115 : J.bytes 115 = some 2 := id rfl
@[simp] theorem zero115 : J.zero 115 = some ((Value.int IntKind.u16 0)) := id rfl
@[simp] theorem agg115 : isAggT J 115 = some false := id rfl
@[simp] theorem size116 : J.size 116 = some 3 := id rfl
@[simp] theorem bytes116 : J.bytes 116 = some 6 := id rfl
@[simp] theorem zero116 : J.zero 116 = some ((Value.agg #[Value.int IntKind.u16 0, Value.int IntKind.u16 0, Value.int IntKind.u16 0])) := id rfl
@[simp] theorem agg116 : isAggT J 116 = some true := id rfl
@[simp] theorem fa116_0 (a : Addr) : ifieldAddr J 116 (.pointer (some a)) 0 = some (.pointer (some (a.add 0))) := id rfl
@[simp] theorem fa116_1 (a : Addr) : ifieldAddr J 116 (.pointer (some a)) 1 = some (.pointer (some (a.add 1))) := id rfl
@[simp] theorem fa116_2 (a : Addr) : ifieldAddr J 116 (.pointer (some a)) 2 = some (.pointer (some (a.add 2))) := id rfl
@[simp] theorem size117 : J.size 117 = some 3 := id rfl
@[simp] theorem bytes117 : J.bytes 117 = some 6 := id rfl
@[simp] theorem zero117 : J.zero 117 = some ((Value.agg #[Value.int IntKind.u16 0, Value.int IntKind.u16 0, Value.int IntKind.u16 0])) := id rfl
@[simp] theorem agg117 : isAggT J 117 = some true := id rfl
@[simp] theorem fa117_0 (a : Addr) : ifieldAddr J 117 (.pointer (some a)) 0 = some (.pointer (some (a.add 0))) := id rfl
@[simp] theorem fa117_1 (a : Addr) : ifieldAddr J 117 (.pointer (some a)) 1 = some (.pointer (some (a.add 1))) := id rfl
@[simp] theorem fa117_2 (a : Addr) : ifieldAddr J 117 (.pointer (some a)) 2 = some (.pointer (some (a.add 2))) := id rfl
@[simp] theorem und118 : J.und 118 = some (TypeDesc.func #[111, 115] #[4] false) := id rfl
@[simp] theorem size118 : J.size 118 = some 1 := id rfl
@[simp] theorem bytes118 : J.bytes 118 = some 8 := id rfl
@[simp] theorem zero118 : J.zero 118 = some Value.nilFunc := id rfl
@[simp] theorem agg118 : isAggT J 118 = some false := id rfl
@[simp] theorem size119 : J.size 119 = some 3 := id rfl
@[simp] theorem bytes119 : J.bytes 119 = some 12 := id rfl
@[simp] theorem zero119 : J.zero 119 = some ((Value.agg #[Value.int IntKind.u32 0, Value.int IntKind.u32 0, Value.int IntKind.u32 0])) := id rfl
@[simp] theorem agg119 : isAggT J 119 = some true := id rfl
@[simp] theorem fa119_0 (a : Addr) : ifieldAddr J 119 (.pointer (some a)) 0 = some (.pointer (some (a.add 0))) := id rfl
@[simp] theorem fa119_1 (a : Addr) : ifieldAddr J 119 (.pointer (some a)) 1 = some (.pointer (some (a.add 1))) := id rfl
@[simp] theorem fa119_2 (a : Addr) : ifieldAddr J 119 (.pointer (some a)) 2 = some (.pointer (some (a.add 2))) := id rfl
@[simp] theorem size120 : J.size 120 = some 3 := id rfl
@[simp] theorem bytes120 : J.bytes 120 = some 12 := id rfl
@[simp] theorem zero120 : J.zero 120 = some ((Value.agg #[Value.int IntKind.u32 0, Value.int IntKind.u32 0, Value.int IntKind.u32 0])) := id rfl
@[simp] theorem agg120 : isAggT J 120 = some true := id rfl
@[simp] theorem fa120_0 (a : Addr) : ifieldAddr J 120 (.pointer (some a)) 0 = some (.pointer (some (a.add 0))) := id rfl
@[simp] theorem fa120_1 (a : Addr) : ifieldAddr J 120 (.pointer (some a)) 1 = some (.pointer (some (a.add 1))) := id rfl
@[simp] theorem fa120_2 (a : Addr) : ifieldAddr J 120 (.pointer (some a)) 2 = some (.pointer (some (a.add 2))) := id rfl
@[simp] theorem und121 : J.und 121 = some (TypeDesc.func #[112, 95] #[4] false) := id rfl
@[simp] theorem size121 : J.size 121 = some 1 := id rfl
@[simp] theorem bytes121 : J.bytes 121 = some 8 := id rfl
@[simp] theorem zero121 : J.zero 121 = some Value.nilFunc := id rfl
@[simp] theorem agg121 : isAggT J 121 = some false := id rfl
@[simp] theorem und122 : J.und 122 = some (TypeDesc.func #[5] #[5] false) := id rfl
@[simp] theorem size122 : J.size 122 = some 1 := id rfl
@[simp] theorem bytes122 : J.bytes 122 = some 8 := id rfl
@[simp] theorem zero122 : J.zero 122 = some Value.nilFunc := id rfl
@[simp] theorem agg122 : isAggT J 122 = some false := id rfl
@[simp] theorem size123 : J.size 123 = some 3 := id rfl
@[simp] theorem bytes123 : J.bytes 123 = some 48 := id rfl
@[simp] theorem zero123 : J.zero 123 = some ((Value.agg #[Value.string { data := #[] }, Value.string { data := #[] }, Value.nilIface])) := id rfl
@[simp] theorem agg123 : isAggT J 123 = some true := id rfl
@[simp] theorem fa123_0 (a : Addr) : ifieldAddr J 123 (.pointer (some a)) 0 = some (.pointer (some (a.add 0))) := id rfl
@[simp] theorem fa123_1 (a : Addr) : ifieldAddr J 123 (.pointer (some a)) 1 = some (.pointer (some (a.add 1))) := id rfl
@[simp] theorem fa123_2 (a : Addr) : ifieldAddr J 123 (.pointer (some a)) 2 = some (.pointer (some (a.add 2))) := id rfl
@[simp] theorem size124 : J.size 124 = some 3 := id rfl
@[simp] theorem bytes124 : J.bytes 124 = some 48 := id rfl
@[simp] theorem zero124 : J.zero 124 = some ((Value.agg #[Value.string { data := #[] }, Value.string { data := #[] }, Value.nilIface])) := id rfl
@[simp] theorem agg124 : isAggT J 124 = some true := id rfl
@[simp] theorem fa124_0 (a : Addr) : ifieldAddr J 124 (.pointer (some a)) 0 = some (.pointer (some (a.add 0))) := id rfl
@[simp] theorem fa124_1 (a : Addr) : ifieldAddr J 124 (.pointer (some a)) 1 = some (.pointer (some (a.add 1))) := id rfl
@[simp] theorem fa124_2 (a : Addr) : ifieldAddr J 124 (.pointer (some a)) 2 = some (.pointer (some (a.add 2))) := id rfl
@[simp] theorem und125 : J.und 125 = some (TypeDesc.func #[9] #[55] false) := id rfl
@[simp] theorem size125 : J.size 125 = some 1 := id rfl
@[simp] theorem bytes125 : J.bytes 125 = some 8 := id rfl
@[simp] theorem zero125 : J.zero 125 = some Value.nilFunc := id rfl
@[simp] theorem agg125 : isAggT J 125 = some false := id rfl
@[simp] theorem und126 : J.und 126 = some (TypeDesc.func #[95] #[3] false) := id rfl
@[simp] theorem size126 : J.size 126 = some 1 := id rfl
@[simp] theorem bytes126 : J.bytes 126 = some 8 := id rfl
@[simp] theorem zero126 : J.zero 126 = some Value.nilFunc := id rfl
@[simp] theorem agg126 : isAggT J 126 = some false := id rfl
@[simp] theorem und127 : J.und 127 = some (TypeDesc.pointer 117) := id rfl
@[simp] theorem size127 : J.size 127 = some 1 := id rfl
@[simp] theorem bytes127 : J.bytes 127 = some 8 := id rfl
@[simp] theorem zero127 : J.zero 127 = some ((Value.pointer none)) := id rfl
@[simp] theorem agg127 : isAggT J 127 = some false := id rfl
@[simp] theorem und128 : J.und 128 = some (TypeDesc.pointer 120) := id rfl
@[simp] theorem size128 : J.size 128 = some 1 := id rfl
@[simp] theorem bytes128 : J.bytes 128 = some 8 := id rfl
@[simp] theorem zero128 : J.zero 128 = some ((Value.pointer none)) := id rfl
@[simp] theorem agg128 : isAggT J 128 = some false := id rfl
@[simp] theorem und129 : J.und 129 = some (TypeDesc.pointer 131) := id rfl
@[simp] theorem size129 : J.size 129 = some 1 := id rfl
@[simp] theorem bytes129 : J.bytes 129 = some 8 := id rfl
@[simp] theorem zero129 : J.zero 129 = some ((Value.pointer none)) := id rfl
@[simp] theorem agg129 : isAggT J 129 = some false := id rfl
@[simp] theorem size130 : J.size 130 = some 1 := id rfl
@[simp] theorem bytes130 : J.bytes 130 = some 16 := id rfl
@[simp] theorem zero130 : J.zero 130 = some ((Value.agg #[Value.string { data := #[] }])) := id rfl
@[simp] theorem agg130 : isAggT J 130 = some true := id rfl
@[simp] theorem fa130_0 (a : Addr) : ifieldAddr J 130 (.pointer (some a)) 0 = some (.pointer (some (a.add 0))) := id rfl
@[simp] theorem size131 : J.size 131 = some 1 := id rfl
@[simp] theorem bytes131 : J.bytes 131 = some 16 := id rfl
@[simp] theorem zero131 : J.zero 131 = some ((Value.agg #[Value.string { data := #[] }])) := id rfl
@[simp] theorem agg131 : isAggT J 131 = some true := id rfl
@[simp] theorem fa131_0 (a : Addr) : ifieldAddr J 131 (.pointer (some a)) 0 = some (.pointer (some (a.add 0))) := id rfl
@[simp] theorem und132 : J.und 132 = some (TypeDesc.array 32 5) := id rfl
@[simp] theorem size132 : J.size 132 = some 32 := id rfl
@[simp] theorem bytes132 : J.bytes 132 = some 32 := id rfl
@[simp] theorem zero132 : J.zero 132 = some ((Value.agg #[Value.int IntKind.u8 0, Value.int IntKind.u8 0, Value.int IntKind.u8 0, Value.int IntKind.u8 0, Value.int IntKind.u8 0, Value.int IntKind.u8 0, Value.int IntKind.u8 0, Value.int IntKind.u8 0, Value.int IntKind.u8 0, Value.int IntKind.u8 0, Value.int IntKind.u8 0, Value.int IntKind.u8 0, Value.int IntKind.u8 0, Value.int IntKind.u8 0, Value.int IntKind.u8 0, Value.int IntKind.u8 0, Value.int IntKind.u8 0, Value.int IntKind.u8 0, Value.int IntKind.u8 0, Value.int IntKind.u8 0, Value.int IntKind.u8 0, Value.int IntKind.u8 0, Value.int IntKind.u8 0, Value.int IntKind.u8 0, Value.int IntKind.u8 0, Value.int IntKind.u8 0, Value.int IntKind.u8 0, Value.int IntKind.u8 0, Value.int IntKind.u8 0, Value.int IntKind.u8 0, Value.int IntKind.u8 0, Value.int IntKind.u8 0])) := id rfl
@[simp] theorem agg132 : isAggT J 132 = some true := id rfl
@[simp] theorem und133 : J.und 133 = some (TypeDesc.array 64 5) := id rfl
@[simp] theorem size133 : J.size 133 = some 64 := id rfl
@[simp] theorem bytes133 : J.bytes 133 = some 64 := id rfl
@[simp] theorem zero133 : J.zero 133 = some ((Value.agg #[Value.int IntKind.u8 0, Value.int IntKind.u8 0, Value.int IntKind.u8 0, Value.int IntKind.u8 0, Value.int IntKind.u8 0, Value.int IntKind.u8 0, Value.int IntKind.u8 0, Value.int IntKind.u8 0, Value.int IntKind.u8 0, Value.int IntKind.u8 0, Value.int IntKind.u8 0, Value.int IntKind.u8 0, Value.int IntKind.u8 0, Value.int IntKind.u8 0, Value.int IntKind.u8 0, Value.int IntKind.u8 0, Value.int IntKind.u8 0, Value.int IntKind.u8 0, Value.int IntKind.u8 0, Value.int IntKind.u8 0, Value.int IntKind.u8 0, Value.int IntKind.u8 0, Value.int IntKind.u8 0, Value.int IntKind.u8 0, Value.int IntKind.u8 0, Value.int IntKind.u8 0, Value.int IntKind.u8 0, Value.int IntKind.u8 0, Value.int IntKind.u8 0, Value.int IntKind.u8 0, Value.int IntKind.u8 0, Value.int IntKind.u8 0, Value.int IntKind.u8 0, Value.int IntKind.u8 0, Value.int IntKind.u8 0, Value.int IntKind.u8 0, Value.int IntKind.u8 0, Value.int IntKind.u8 0, Value.int IntKind.u8 0, Value.int IntKind.u8 0, Value.int IntKind.u8 0, Value.int IntKind.u8 0, Value.int IntKind.u8 0, Value.int IntKind.u8 0, Value.int IntKind.u8 0, Value.int IntKind.u8 0, Value.int IntKind.u8 0, Value.int IntKind.u8 0, Value.int IntKind.u8 0, Value.int IntKind.u8 0, Value.int IntKind.u8 0, Value.int IntKind.u8 0, Value.int IntKind.u8 0, Value.int IntKind.u8 0, Value.int IntKind.u8 0, Value.int IntKind.u8 0, Value.int IntKind.u8 0, Value.int IntKind.u8 0, Value.int IntKind.u8 0, Value.int IntKind.u8 0, Value.int IntKind.u8 0, Value.int IntKind.u8 0, Value.int IntKind.u8 0, Value.int IntKind.u8 0])) := id rfl
@[simp] theorem agg133 : isAggT J 133 = some true := id rfl
@[simp] theorem size134 : J.size 134 = some 4 := id rfl
@[simp] theorem bytes134 : J.bytes 134 = some 40 := id rfl
@[simp] theorem zero134 : J.zero 134 = some ((Value.agg #[Value.pointer none, Value.pointer none, Value.pointer none, Value.string { data := #[] }])) := id rfl
@[simp] theorem agg134 : isAggT J 134 = some true := id rfl
@[simp] theorem fa134_0 (a : Addr) : ifieldAddr J 134 (.pointer (some a)) 0 = some (.pointer (some (a.add 0))) := id rfl
@[simp] theorem fa134_1 (a : Addr) : ifieldAddr J 134 (.pointer (some a)) 1 = some (.pointer (some (a.add 1))) := id rfl
@[simp] theorem fa134_2 (a : Addr) : ifieldAddr J 134 (.pointer (some a)) 2 = some (.pointer (some (a.add 2))) := id rfl
@[simp] theorem fa134_3 (a : Addr) : ifieldAddr J 134 (.pointer (some a)) 3 = some (.pointer (some (a.add 3))) := id rfl
@[simp] theorem size135 : J.size 135 = some 4 := id rfl
@[simp] theorem bytes135 : J.bytes 135 = some 40 := id rfl
@[simp] theorem zero135 : J.zero 135 = some ((Value.agg #[Value.pointer none, Value.pointer none, Value.pointer none, Value.string { data := #[] }])) := id rfl
@[simp] theorem agg135 : isAggT J 135 = some true := id rfl
@[simp] theorem fa135_0 (a : Addr) : ifieldAddr J 135 (.pointer (some a)) 0 = some (.pointer (some (a.add 0))) := id rfl
@[simp] theorem fa135_1 (a : Addr) : ifieldAddr J 135 (.pointer (some a)) 1 = some (.pointer (some (a.add 1))) := id rfl
@[simp] theorem fa135_2 (a : Addr) : ifieldAddr J 135 (.pointer (some a)) 2 = some (.pointer (some (a.add 2))) := id rfl
@[simp] theorem fa135_3 (a : Addr) : ifieldAddr J 135 (.pointer (some a)) 3 = some (.pointer (some (a.add 3))) := id rfl
@[simp] theorem und136 : J.und 136 = some (TypeDesc.array 0 16) := id rfl
@[simp] theorem size136 : J.size 136 = some 0 := id rfl
@[simp] theorem bytes136 : J.bytes 136 = some 0 := id rfl
@[simp] theorem zero136 : J.zero 136 = some ((Value.agg #[])) := id rfl
@[simp] theorem agg136 : isAggT J 136 = some true := id rfl
@[simp] theorem size137 : J.size 137 = some 0 := id rfl
@[simp] theorem bytes137 : J.bytes 137 = some 0 := id rfl
@[simp] theorem zero137 : J.zero 137 = some ((Value.agg #[])) := id rfl
@[simp] theorem agg137 : isAggT J 137 = some true := id rfl
@[simp] theorem size138 : J.size 138 = some 0 := id rfl
@[simp] theorem bytes138 : J.bytes 138 = some 0 := id rfl
@[simp] theorem zero138 : J.zero 138 = some ((Value.agg #[])) := id rfl
@[simp] theorem agg138 : isAggT J 138 = some true := id rfl
@[simp] theorem und139 : J.und 139 = some (TypeDesc.int IntKind.u8) := id rfl
@[simp] theorem size139 : J.size 139 = some 1 := id rfl
@[simp] theorem bytes139 : J.bytes 139 = some 1 := id rfl
@[simp] theorem zero139 : J.zero 139 = some ((Value.int IntKind.u8 0)) := id rfl
@[simp] theorem agg139 : isAggT J 139 = some false := id rfl
@[simp] theorem und140 : J.und 140 = some (TypeDesc.int IntKind.u8) := id rfl
@[simp] theorem size140 : J.size 140 = some 1 := id rfl
@[simp] theorem bytes140 : J.bytes 140 = some 1 := id rfl
@[simp] theorem zero140 : J.zero 140 = some ((Value.int IntKind.u8 0)) := id rfl
@[simp] theorem agg140 : isAggT J 140 = some false := id rfl
@[simp] theorem hb3 : hasBody J 3 = true := id rfl
@[simp] theorem hb4 : hasBody J 4 = true := id rfl
@[simp] theorem hb5 : hasBody J 5 = true := id rfl
@[simp] theorem hb6 : hasBody J 6 = true := id rfl
@[simp] theorem hb7 : hasBody J 7 = true := id rfl
@[simp] theorem hb8 : hasBody J 8 = true := id rfl
@[simp] theorem hb9 : hasBody J 9 = true := id rfl
@[simp] theorem hb10 : hasBody J 10 = true := id rfl
@[simp] theorem hb11 : hasBody J 11 = true := id rfl
@[simp] theorem hb12 : hasBody J 12 = true := id rfl
@[simp] theorem hb13 : hasBody J 13 = true := id rfl
@[simp] theorem hb14 : hasBody J 14 = true := id rfl
@[simp] theorem hb15 : hasBody J 15 = true := id rfl
@[simp] theorem hb16 : hasBody J 16 = true := id rfl
@[simp] theorem hb17 : hasBody J 17 = true := id rfl
@[simp] theorem hb18 : hasBody J 18 = true := id rfl
@[simp] theorem hb19 : hasBody J 19 = true := id rfl
@[simp] theorem hb20 : hasBody J 20 = true := id rfl
@[simp] theorem hb21 : hasBody J 21 = true := id rfl
@[simp] theorem hb22 : hasBody J 22 = true := id rfl
@[simp] theorem hb23 : hasBody J 23 = true := id rfl
@[simp] theorem hb24 : hasBody J 24 = true := id rfl
@[simp] theorem hb25 : hasBody J 25 = true := id rfl
@[simp] theorem hb26 : hasBody J 26 = true := id rfl
@[simp] theorem hb27 : hasBody J 27 = true := id rfl
@[simp] theorem hb28 : hasBody J 28 = true := id rfl
@[simp] theorem hb29 : hasBody J 29 = true := id rfl
@[simp] theorem hb30 : hasBody J 30 = true := id rfl
@[simp] theorem hb31 : hasBody J 31 = true := id rfl
@[simp] theorem hb32 : hasBody J 32 = true := id rfl
@[simp] theorem hb33 : hasBody J 33 = true := id rfl
@[simp] theorem hb34 : hasBody J 34 = true := id rfl
@[simp] theorem hb35 : hasBody J 35 = true := id rfl
@[simp] theorem hb36 : hasBody J 36 = true := id rfl
@[simp] theorem hb37 : hasBody J 37 = true := id rfl
@[simp] theorem hb38 : hasBody J 38 = true := id rfl
@[simp] theorem hb39 : hasBody J 39 = true := id rfl
@[simp] theorem hb40 : hasBody J 40 = true := id rfl
@[simp] theorem hb41 : hasBody J 41 = true := id rfl
@[simp] theorem hb42 : hasBody J 42 = true := id rfl
@[simp] theorem hb43 : hasBody J 43 = true := id rfl
@[simp] theorem hb44 : hasBody J 44 = true := id rfl
@[simp] theorem hb45 : hasBody J 45 = true := id rfl
@[simp] theorem hb46 : hasBody J 46 = true := id rfl
@[simp] theorem hb47 : hasBody J 47 = true := id rfl
@[simp] theorem hb48 : hasBody J 48 = true := id rfl
@[simp] theorem hb49 : hasBody J 49 = true := id rfl
@[simp] theorem hb50 : hasBody J 50 = true := id rfl
@[simp] theorem hb51 : hasBody J 51 = true := id rfl
@[simp] theorem hb52 : hasBody J 52 = true := id rfl
@[simp] theorem hb53 : hasBody J 53 = true := id rfl
@[simp] theorem hb54 : hasBody J 54 = true := id rfl
@[simp] theorem hb55 : hasBody J 55 = true := id rfl
@[simp] theorem hb56 : hasBody J 56 = true := id rfl
@[simp] theorem hb57 : hasBody J 57 = true := id rfl
@[simp] theorem hb58 : hasBody J 58 = true := id rfl
@[simp] theorem hb59 : hasBody J 59 = true := id rfl
@[simp] theorem hb60 : hasBody J 60 = true := id rfl
@[simp] theorem hb61 : hasBody J 61 = true := id rfl
@[simp] theorem hb63 : hasBody J 63 = true := id rfl
@[simp] theorem hb64 : hasBody J 64 = true := id rfl
@[simp] theorem hb65 : hasBody J 65 = true := id rfl
@[simp] theorem hb66 : hasBody J 66 = true := id rfl
@[simp] theorem hb67 : hasBody J 67 = true := id rfl
@[simp] theorem hb68 : hasBody J 68 = true := id rfl
@[simp] theorem hb69 : hasBody J 69 = true := id rfl
@[simp] theorem hb70 : hasBody J 70 = true := id rfl
@[simp] theorem hb71 : hasBody J 71 = true := id rfl
@[simp] theorem hb72 : hasBody J 72 = true := id rfl
@[simp] theorem hb73 : hasBody J 73 = true := id rfl
@[simp] theorem hb75 : hasBody J 75 = true := id rfl
@[simp] theorem hb76 : hasBody J 76 = true := id rfl
@[simp] theorem hb77 : hasBody J 77 = true := id rfl
@[simp] theorem hb78 : hasBody J 78 = true := id rfl
@[simp] theorem hb79 : hasBody J 79 = true := id rfl
@[simp] theorem hb80 : hasBody J 80 = true := id rfl
@[simp] theorem hb81 : hasBody J 81 = true := id rfl
@[simp] theorem hb82 : hasBody J 82 = true := id rfl
@[simp] theorem hb83 : hasBody J 83 = true := id rfl
@[simp] theorem hb84 : hasBody J 84 = true := id rfl
@[simp] theorem hb85 : hasBody J 85 = true := id rfl
@[simp] theorem hb86 : hasBody J 86 = true := id rfl
@[simp] theorem hb87 : hasBody J 87 = true := id rfl
@[simp] theorem hb88 : hasBody J 88 = true := id rfl
@[simp] theorem hb89 : hasBody J 89 = true := id rfl
end Go.Proofs.YtjbcjcibnjbpcaaDoor.Idl
