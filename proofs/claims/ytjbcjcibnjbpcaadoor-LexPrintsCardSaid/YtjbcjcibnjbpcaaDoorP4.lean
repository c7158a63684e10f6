/- How this seat's drawn regions may be gone through; printed out of the loaded program. -/
import Derived.Test.YtjbcjcibnjbpcaaDoorP3
import Derived.KernelRfl
namespace Go.Proofs.YtjbcjcibnjbpcaaDoor.Idl
open Go
set_option maxRecDepth 100000
@[simp] theorem iD13_13 (T : Regs) (H : IH) : iops J (cal J okAll) D13_13.toArray D13_13 T H = iops J (cal J okAll) ([⟨some 42, .move (.tmp 5), 42, "lex.go:196", #[⟨5, .gcOnly .lateStores⟩], none⟩, ⟨some 43, .nilCheck (.tmp 42), 0, "lex.go:196", #[⟨0, .data⟩, ⟨5, .gcOnly .lateStores⟩], none⟩, ⟨some 44, .fieldAddr 46 (.tmp 43) 1, 0, "lex.go:196", #[⟨1, .data⟩, ⟨5, .gcOnly .lateStores⟩], none⟩, ⟨some 45, .load 3 (.tmp 44), 3, "lex.go:196", #[⟨2, .data⟩, ⟨5, .gcOnly .lateStores⟩], none⟩, ⟨some 2, .assign (.const (.slice none 0 0)), 23, "lex.go:196", #[⟨0, .textOnly .lateStores⟩, ⟨1, .textOnly .lateStores⟩, ⟨2, .textOnly .lateStores⟩, ⟨3, .textOnly .lateStores⟩], none⟩, ⟨some 3, .assign (.const (.int .i64 10)), 24, "lex.go:196", #[⟨4, .chain⟩, ⟨0, .textOnly .lateStores⟩, ⟨1, .textOnly .lateStores⟩, ⟨2, .textOnly .lateStores⟩, ⟨3, .textOnly .lateStores⟩, ⟨4, .phase⟩], none⟩, ⟨some 4, .assign (.tmp 45), 3, "lex.go:196", #[⟨3, .data⟩, ⟨5, .chain⟩, ⟨0, .phase⟩, ⟨1, .phase⟩, ⟨2, .phase⟩, ⟨3, .phase⟩, ⟨4, .phase⟩, ⟨5, .phase⟩], none⟩] : List Oper).toArray [⟨some 42, .move (.tmp 5), 42, "lex.go:196", #[⟨5, .gcOnly .lateStores⟩], none⟩, ⟨some 43, .nilCheck (.tmp 42), 0, "lex.go:196", #[⟨0, .data⟩, ⟨5, .gcOnly .lateStores⟩], none⟩, ⟨some 44, .fieldAddr 46 (.tmp 43) 1, 0, "lex.go:196", #[⟨1, .data⟩, ⟨5, .gcOnly .lateStores⟩], none⟩, ⟨some 45, .load 3 (.tmp 44), 3, "lex.go:196", #[⟨2, .data⟩, ⟨5, .gcOnly .lateStores⟩], none⟩, ⟨some 2, .assign (.const (.slice none 0 0)), 23, "lex.go:196", #[⟨0, .textOnly .lateStores⟩, ⟨1, .textOnly .lateStores⟩, ⟨2, .textOnly .lateStores⟩, ⟨3, .textOnly .lateStores⟩], none⟩, ⟨some 3, .assign (.const (.int .i64 10)), 24, "lex.go:196", #[⟨4, .chain⟩, ⟨0, .textOnly .lateStores⟩, ⟨1, .textOnly .lateStores⟩, ⟨2, .textOnly .lateStores⟩, ⟨3, .textOnly .lateStores⟩, ⟨4, .phase⟩], none⟩, ⟨some 4, .assign (.tmp 45), 3, "lex.go:196", #[⟨3, .data⟩, ⟨5, .chain⟩, ⟨0, .phase⟩, ⟨1, .phase⟩, ⟨2, .phase⟩, ⟨3, .phase⟩, ⟨4, .phase⟩, ⟨5, .phase⟩], none⟩] T H := rfl
@[simp] theorem rD13_13 (T : Regs) (H : IH) : run J okAll (.region 13 D13_13.toArray true) T H = dOut J (cal J okAll) D13_13 T H (iops J (cal J okAll) D13_13.toArray D13_13 T H) := by rw [r_draw]; exact draw_static J _ T H rfl
@[simp] theorem iD13_15 (T : Regs) (H : IH) : iops J (cal J okAll) D13_15.toArray D13_15 T H = iops J (cal J okAll) ([⟨some 49, .move (.tmp 5), 42, "lex.go:199", #[⟨5, .gcOnly .lateStores⟩], none⟩, ⟨some 50, .nilCheck (.tmp 49), 0, "lex.go:199", #[⟨0, .data⟩, ⟨5, .gcOnly .lateStores⟩], none⟩, ⟨some 51, .fieldAddr 46 (.tmp 50) 1, 0, "lex.go:199", #[⟨1, .data⟩, ⟨5, .gcOnly .lateStores⟩], none⟩, ⟨some 52, .load 3 (.tmp 51), 3, "lex.go:199", #[⟨2, .data⟩, ⟨5, .gcOnly .lateStores⟩], none⟩, ⟨some 2, .assign (.const (.slice none 0 0)), 23, "lex.go:199", #[⟨0, .textOnly .lateStores⟩, ⟨1, .textOnly .lateStores⟩, ⟨2, .textOnly .lateStores⟩, ⟨3, .textOnly .lateStores⟩], none⟩, ⟨some 3, .assign (.const (.int .i64 2)), 24, "lex.go:199", #[⟨4, .chain⟩, ⟨0, .textOnly .lateStores⟩, ⟨1, .textOnly .lateStores⟩, ⟨2, .textOnly .lateStores⟩, ⟨3, .textOnly .lateStores⟩, ⟨4, .phase⟩], none⟩, ⟨some 4, .assign (.tmp 52), 3, "lex.go:199", #[⟨3, .data⟩, ⟨5, .chain⟩, ⟨0, .phase⟩, ⟨1, .phase⟩, ⟨2, .phase⟩, ⟨3, .phase⟩, ⟨4, .phase⟩, ⟨5, .phase⟩], none⟩] : List Oper).toArray [⟨some 49, .move (.tmp 5), 42, "lex.go:199", #[⟨5, .gcOnly .lateStores⟩], none⟩, ⟨some 50, .nilCheck (.tmp 49), 0, "lex.go:199", #[⟨0, .data⟩, ⟨5, .gcOnly .lateStores⟩], none⟩, ⟨some 51, .fieldAddr 46 (.tmp 50) 1, 0, "lex.go:199", #[⟨1, .data⟩, ⟨5, .gcOnly .lateStores⟩], none⟩, ⟨some 52, .load 3 (.tmp 51), 3, "lex.go:199", #[⟨2, .data⟩, ⟨5, .gcOnly .lateStores⟩], none⟩, ⟨some 2, .assign (.const (.slice none 0 0)), 23, "lex.go:199", #[⟨0, .textOnly .lateStores⟩, ⟨1, .textOnly .lateStores⟩, ⟨2, .textOnly .lateStores⟩, ⟨3, .textOnly .lateStores⟩], none⟩, ⟨some 3, .assign (.const (.int .i64 2)), 24, "lex.go:199", #[⟨4, .chain⟩, ⟨0, .textOnly .lateStores⟩, ⟨1, .textOnly .lateStores⟩, ⟨2, .textOnly .lateStores⟩, ⟨3, .textOnly .lateStores⟩, ⟨4, .phase⟩], none⟩, ⟨some 4, .assign (.tmp 52), 3, "lex.go:199", #[⟨3, .data⟩, ⟨5, .chain⟩, ⟨0, .phase⟩, ⟨1, .phase⟩, ⟨2, .phase⟩, ⟨3, .phase⟩, ⟨4, .phase⟩, ⟨5, .phase⟩], none⟩] T H := rfl
@[simp] theorem rD13_15 (T : Regs) (H : IH) : run J okAll (.region 15 D13_15.toArray true) T H = dOut J (cal J okAll) D13_15 T H (iops J (cal J okAll) D13_15.toArray D13_15 T H) := by rw [r_draw]; exact draw_static J _ T H rfl
@[simp] theorem iD15_6 (T : Regs) (H : IH) : iops J (cal J okAll) D15_6.toArray D15_6 T H = iops J (cal J okAll) ([⟨some 16, .move (.tmp 0), 23, "law.go:32", #[], none⟩, ⟨some 17, .move (.tmp 5), 3, "law.go:32", #[], none⟩, ⟨some 18, .indexAddr 23 (.tmp 16) (.tmp 17), 0, "law.go:32", #[⟨0, .data⟩, ⟨1, .data⟩], none⟩, ⟨some 19, .load 31 (.tmp 18), 31, "law.go:32", #[⟨2, .data⟩], none⟩, ⟨some 20, .move (.tmp 1), 23, "law.go:32", #[], none⟩, ⟨some 21, .move (.tmp 5), 3, "law.go:32", #[], none⟩, ⟨some 22, .indexAddr 23 (.tmp 20) (.tmp 21), 0, "law.go:32", #[⟨4, .data⟩, ⟨5, .data⟩], none⟩, ⟨some 23, .load 31 (.tmp 22), 31, "law.go:32", #[⟨6, .data⟩], none⟩, ⟨some 24, .binOp .neq 31 (.tmp 19) (.tmp 23) 31, 4, "law.go:32", #[⟨3, .data⟩, ⟨7, .data⟩], none⟩] : List Oper).toArray [⟨some 16, .move (.tmp 0), 23, "law.go:32", #[], none⟩, ⟨some 17, .move (.tmp 5), 3, "law.go:32", #[], none⟩, ⟨some 18, .indexAddr 23 (.tmp 16) (.tmp 17), 0, "law.go:32", #[⟨0, .data⟩, ⟨1, .data⟩], none⟩, ⟨some 19, .load 31 (.tmp 18), 31, "law.go:32", #[⟨2, .data⟩], none⟩, ⟨some 20, .move (.tmp 1), 23, "law.go:32", #[], none⟩, ⟨some 21, .move (.tmp 5), 3, "law.go:32", #[], none⟩, ⟨some 22, .indexAddr 23 (.tmp 20) (.tmp 21), 0, "law.go:32", #[⟨4, .data⟩, ⟨5, .data⟩], none⟩, ⟨some 23, .load 31 (.tmp 22), 31, "law.go:32", #[⟨6, .data⟩], none⟩, ⟨some 24, .binOp .neq 31 (.tmp 19) (.tmp 23) 31, 4, "law.go:32", #[⟨3, .data⟩, ⟨7, .data⟩], none⟩] T H := rfl
@[simp] theorem rD15_6 (T : Regs) (H : IH) : run J okAll (.region 6 D15_6.toArray true) T H = dOut J (cal J okAll) D15_6 T H (iops J (cal J okAll) D15_6.toArray D15_6 T H) := by rw [r_draw]; exact draw_static J _ T H rfl
@[simp] theorem iD20_23 (s : DSt) : drun J (cal J okAll) D20_23.toArray D20_23 s = drun J (cal J okAll) ([⟨some 101, .move (.tmp 0), 9, "ref.go:141", #[], none⟩, ⟨some 102, .index 9 (.tmp 101) (.const (.int .i64 0)), 5, "ref.go:141", #[⟨0, .data⟩], none⟩, ⟨some 103, .call ⟨.value (.func 37), #[.tmp 102], #[5]⟩, 4, "ref.go:141", #[⟨1, .data⟩], none⟩, ⟨some 104, .move (.tmp 103), 4, "ref.go:141", #[⟨2, .data⟩, ⟨2, .chain⟩], none⟩, ⟨some 105, .move (.tmp 0), 9, "ref.go:141", #[⟨3, .guard⟩], some (3, true)⟩, ⟨some 106, .move (.tmp 4), 3, "ref.go:141", #[⟨3, .guard⟩], some (3, true)⟩, ⟨some 107, .slice 9 (.tmp 105) none (some (.tmp 106)) none, 9, "ref.go:141", #[⟨4, .data⟩, ⟨5, .data⟩, ⟨3, .guard⟩], some (3, true)⟩, ⟨some 108, .call ⟨.value (.func 39), #[], #[]⟩, 67, "ref.go:141", #[⟨3, .chain⟩, ⟨3, .guard⟩], some (3, true)⟩, ⟨some 109, .call ⟨.value (.func 38), #[.tmp 107, .tmp 108], #[9, 67]⟩, 4, "ref.go:141", #[⟨6, .data⟩, ⟨7, .data⟩, ⟨7, .chain⟩, ⟨3, .guard⟩], some (3, true)⟩, ⟨some 110, .pick (.tmp 104) (.tmp 109) (.const (.bool false)), 4, "ref.go:141", #[⟨3, .data⟩, ⟨8, .data⟩], none⟩, ⟨some 100, .assign (.tmp 110), 4, "ref.go:141", #[⟨9, .data⟩, ⟨8, .chain⟩], none⟩] : List Oper).toArray [⟨some 101, .move (.tmp 0), 9, "ref.go:141", #[], none⟩, ⟨some 102, .index 9 (.tmp 101) (.const (.int .i64 0)), 5, "ref.go:141", #[⟨0, .data⟩], none⟩, ⟨some 103, .call ⟨.value (.func 37), #[.tmp 102], #[5]⟩, 4, "ref.go:141", #[⟨1, .data⟩], none⟩, ⟨some 104, .move (.tmp 103), 4, "ref.go:141", #[⟨2, .data⟩, ⟨2, .chain⟩], none⟩, ⟨some 105, .move (.tmp 0), 9, "ref.go:141", #[⟨3, .guard⟩], some (3, true)⟩, ⟨some 106, .move (.tmp 4), 3, "ref.go:141", #[⟨3, .guard⟩], some (3, true)⟩, ⟨some 107, .slice 9 (.tmp 105) none (some (.tmp 106)) none, 9, "ref.go:141", #[⟨4, .data⟩, ⟨5, .data⟩, ⟨3, .guard⟩], some (3, true)⟩, ⟨some 108, .call ⟨.value (.func 39), #[], #[]⟩, 67, "ref.go:141", #[⟨3, .chain⟩, ⟨3, .guard⟩], some (3, true)⟩, ⟨some 109, .call ⟨.value (.func 38), #[.tmp 107, .tmp 108], #[9, 67]⟩, 4, "ref.go:141", #[⟨6, .data⟩, ⟨7, .data⟩, ⟨7, .chain⟩, ⟨3, .guard⟩], some (3, true)⟩, ⟨some 110, .pick (.tmp 104) (.tmp 109) (.const (.bool false)), 4, "ref.go:141", #[⟨3, .data⟩, ⟨8, .data⟩], none⟩, ⟨some 100, .assign (.tmp 110), 4, "ref.go:141", #[⟨9, .data⟩, ⟨8, .chain⟩], none⟩] s := rfl
@[simp] theorem gD20_23_6 : D20_23[6]? = some ⟨some 107, .slice 9 (.tmp 105) none (some (.tmp 106)) none, 9, "ref.go:141", #[⟨4, .data⟩, ⟨5, .data⟩, ⟨3, .guard⟩], some (3, true)⟩ := id rfl
@[simp] theorem rD20_23 (T : Regs) (H : IH) : run J okAll (.region 23 D20_23.toArray true) T H = dFin J D20_23 (drun J (cal J okAll) D20_23.toArray D20_23 ⟨T, H, [], [H]⟩) := by rw [r_draw]; exact draw_look J _ T H _
@[simp] theorem pD20_23 (T : Regs) (H : IH) (vs : List (Regs × Value)) (hs : List IH) (h : [(6, 2)].all (oblig J D20_23.toArray vs hs) = true) : dFin J D20_23 (some (⟨T, H, vs, hs⟩, none)) = some (.normal, T, H) := dFin_normal J (ps := [(6, 2)]) rfl T H vs hs h
@[simp] theorem iD22_14 (s : DSt) : drun J (cal J okAll) D22_14.toArray D22_14 s = drun J (cal J okAll) ([⟨some 91, .move (.tmp 0), 42, "lex.go:106", #[], none⟩, ⟨some 92, .nilCheck (.tmp 91), 0, "lex.go:106", #[⟨0, .data⟩], none⟩, ⟨some 93, .fieldAddr 46 (.tmp 92) 0, 0, "lex.go:106", #[⟨1, .data⟩], none⟩, ⟨some 94, .load 9 (.tmp 93), 9, "lex.go:106", #[⟨2, .data⟩], none⟩, ⟨some 95, .move (.tmp 0), 42, "lex.go:106", #[], none⟩, ⟨some 96, .nilCheck (.tmp 95), 0, "lex.go:106", #[⟨4, .data⟩], none⟩, ⟨some 97, .fieldAddr 46 (.tmp 96) 1, 0, "lex.go:106", #[⟨5, .data⟩], none⟩, ⟨some 98, .load 3 (.tmp 97), 3, "lex.go:106", #[⟨6, .data⟩], none⟩, ⟨some 99, .move (.tmp 13), 3, "lex.go:106", #[], none⟩, ⟨some 100, .slice 9 (.tmp 94) (some (.tmp 98)) (some (.tmp 99)) none, 9, "lex.go:106", #[⟨3, .data⟩, ⟨7, .data⟩, ⟨8, .data⟩], none⟩, ⟨some 101, .fieldAddr 31 (.tmp 5) 0, 0, "lex.go:106", #[⟨0, .textOnly .lateStores⟩, ⟨1, .textOnly .lateStores⟩, ⟨2, .textOnly .lateStores⟩, ⟨3, .textOnly .lateStores⟩, ⟨4, .textOnly .lateStores⟩, ⟨5, .textOnly .lateStores⟩, ⟨6, .textOnly .lateStores⟩, ⟨7, .textOnly .lateStores⟩, ⟨8, .textOnly .lateStores⟩, ⟨9, .textOnly .lateStoresUnsure⟩], none⟩, ⟨none, .store 3 (.tmp 101) (.const (.int .i64 5)), 0, "lex.go:106", #[⟨10, .data⟩, ⟨0, .textOnly .lateStores⟩, ⟨1, .textOnly .lateStores⟩, ⟨2, .textOnly .lateStores⟩, ⟨3, .textOnly .lateStores⟩, ⟨4, .textOnly .lateStores⟩, ⟨5, .textOnly .lateStores⟩, ⟨6, .textOnly .lateStores⟩, ⟨7, .textOnly .lateStores⟩, ⟨8, .textOnly .lateStores⟩, ⟨9, .textOnly .lateStoresUnsure⟩], none⟩, ⟨some 102, .fieldAddr 31 (.tmp 5) 2, 0, "lex.go:106", #[⟨0, .phase⟩, ⟨1, .phase⟩, ⟨2, .phase⟩, ⟨3, .phase⟩, ⟨4, .phase⟩, ⟨5, .phase⟩, ⟨6, .phase⟩, ⟨7, .phase⟩, ⟨8, .phase⟩, ⟨9, .phase⟩, ⟨10, .phase⟩, ⟨11, .phase⟩], none⟩, ⟨none, .store 9 (.tmp 102) (.tmp 100), 0, "lex.go:106", #[⟨12, .data⟩, ⟨9, .data⟩, ⟨11, .chain⟩, ⟨0, .phase⟩, ⟨1, .phase⟩, ⟨2, .phase⟩, ⟨3, .phase⟩, ⟨4, .phase⟩, ⟨5, .phase⟩, ⟨6, .phase⟩, ⟨7, .phase⟩, ⟨8, .phase⟩, ⟨9, .phase⟩, ⟨10, .phase⟩, ⟨11, .phase⟩], none⟩] : List Oper).toArray [⟨some 91, .move (.tmp 0), 42, "lex.go:106", #[], none⟩, ⟨some 92, .nilCheck (.tmp 91), 0, "lex.go:106", #[⟨0, .data⟩], none⟩, ⟨some 93, .fieldAddr 46 (.tmp 92) 0, 0, "lex.go:106", #[⟨1, .data⟩], none⟩, ⟨some 94, .load 9 (.tmp 93), 9, "lex.go:106", #[⟨2, .data⟩], none⟩, ⟨some 95, .move (.tmp 0), 42, "lex.go:106", #[], none⟩, ⟨some 96, .nilCheck (.tmp 95), 0, "lex.go:106", #[⟨4, .data⟩], none⟩, ⟨some 97, .fieldAddr 46 (.tmp 96) 1, 0, "lex.go:106", #[⟨5, .data⟩], none⟩, ⟨some 98, .load 3 (.tmp 97), 3, "lex.go:106", #[⟨6, .data⟩], none⟩, ⟨some 99, .move (.tmp 13), 3, "lex.go:106", #[], none⟩, ⟨some 100, .slice 9 (.tmp 94) (some (.tmp 98)) (some (.tmp 99)) none, 9, "lex.go:106", #[⟨3, .data⟩, ⟨7, .data⟩, ⟨8, .data⟩], none⟩, ⟨some 101, .fieldAddr 31 (.tmp 5) 0, 0, "lex.go:106", #[⟨0, .textOnly .lateStores⟩, ⟨1, .textOnly .lateStores⟩, ⟨2, .textOnly .lateStores⟩, ⟨3, .textOnly .lateStores⟩, ⟨4, .textOnly .lateStores⟩, ⟨5, .textOnly .lateStores⟩, ⟨6, .textOnly .lateStores⟩, ⟨7, .textOnly .lateStores⟩, ⟨8, .textOnly .lateStores⟩, ⟨9, .textOnly .lateStoresUnsure⟩], none⟩, ⟨none, .store 3 (.tmp 101) (.const (.int .i64 5)), 0, "lex.go:106", #[⟨10, .data⟩, ⟨0, .textOnly .lateStores⟩, ⟨1, .textOnly .lateStores⟩, ⟨2, .textOnly .lateStores⟩, ⟨3, .textOnly .lateStores⟩, ⟨4, .textOnly .lateStores⟩, ⟨5, .textOnly .lateStores⟩, ⟨6, .textOnly .lateStores⟩, ⟨7, .textOnly .lateStores⟩, ⟨8, .textOnly .lateStores⟩, ⟨9, .textOnly .lateStoresUnsure⟩], none⟩, ⟨some 102, .fieldAddr 31 (.tmp 5) 2, 0, "lex.go:106", #[⟨0, .phase⟩, ⟨1, .phase⟩, ⟨2, .phase⟩, ⟨3, .phase⟩, ⟨4, .phase⟩, ⟨5, .phase⟩, ⟨6, .phase⟩, ⟨7, .phase⟩, ⟨8, .phase⟩, ⟨9, .phase⟩, ⟨10, .phase⟩, ⟨11, .phase⟩], none⟩, ⟨none, .store 9 (.tmp 102) (.tmp 100), 0, "lex.go:106", #[⟨12, .data⟩, ⟨9, .data⟩, ⟨11, .chain⟩, ⟨0, .phase⟩, ⟨1, .phase⟩, ⟨2, .phase⟩, ⟨3, .phase⟩, ⟨4, .phase⟩, ⟨5, .phase⟩, ⟨6, .phase⟩, ⟨7, .phase⟩, ⟨8, .phase⟩, ⟨9, .phase⟩, ⟨10, .phase⟩, ⟨11, .phase⟩], none⟩] s := rfl
@[simp] theorem gD22_14_3 : D22_14[3]? = some ⟨some 94, .load 9 (.tmp 93), 9, "lex.go:106", #[⟨2, .data⟩], none⟩ := id rfl
@[simp] theorem gD22_14_7 : D22_14[7]? = some ⟨some 98, .load 3 (.tmp 97), 3, "lex.go:106", #[⟨6, .data⟩], none⟩ := id rfl
@[simp] theorem gD22_14_9 : D22_14[9]? = some ⟨some 100, .slice 9 (.tmp 94) (some (.tmp 98)) (some (.tmp 99)) none, 9, "lex.go:106", #[⟨3, .data⟩, ⟨7, .data⟩, ⟨8, .data⟩], none⟩ := id rfl
@[simp] theorem rD22_14 (T : Regs) (H : IH) : run J okAll (.region 14 D22_14.toArray true) T H = dFin J D22_14 (drun J (cal J okAll) D22_14.toArray D22_14 ⟨T, H, [], [H]⟩) := by rw [r_draw]; exact draw_look J _ T H _
@[simp] theorem pD22_14 (T : Regs) (H : IH) (vs : List (Regs × Value)) (hs : List IH) (h : [(3, 1), (7, 1), (9, 1)].all (oblig J D22_14.toArray vs hs) = true) : dFin J D22_14 (some (⟨T, H, vs, hs⟩, none)) = some (.normal, T, H) := dFin_normal J (ps := [(3, 1), (7, 1), (9, 1)]) rfl T H vs hs h
@[simp] theorem iD22_15 (s : DSt) : drun J (cal J okAll) D22_15.toArray D22_15 s = drun J (cal J okAll) ([⟨some 103, .load 31 (.tmp 5), 31, "lex.go:107", #[], none⟩, ⟨some 104, .move (.tmp 13), 3, "lex.go:107", #[⟨9, .gcOnly .lateStores⟩], none⟩, ⟨some 105, .move (.tmp 13), 3, "lex.go:107", #[⟨10, .gcOnly .lateStores⟩], none⟩, ⟨some 106, .move (.tmp 0), 42, "lex.go:107", #[⟨10, .gcOnly .lateStores⟩], none⟩, ⟨some 107, .nilCheck (.tmp 106), 0, "lex.go:107", #[⟨3, .data⟩, ⟨10, .gcOnly .lateStores⟩], none⟩, ⟨some 108, .fieldAddr 46 (.tmp 107) 1, 0, "lex.go:107", #[⟨4, .data⟩, ⟨10, .gcOnly .lateStores⟩], none⟩, ⟨some 109, .load 3 (.tmp 108), 3, "lex.go:107", #[⟨5, .data⟩, ⟨10, .gcOnly .lateStores⟩], none⟩, ⟨some 110, .binOp .add 3 (.tmp 109) (.const (.int .i64 1)) 3, 3, "lex.go:107", #[⟨6, .data⟩, ⟨10, .gcOnly .lateStores⟩], none⟩, ⟨some 111, .binOp .gtr 3 (.tmp 105) (.tmp 110) 3, 4, "lex.go:107", #[⟨2, .data⟩, ⟨7, .data⟩, ⟨10, .gcOnly .lateStores⟩], none⟩, ⟨none, .store 31 (.tmp 2) (.tmp 103), 0, "lex.go:107", #[⟨0, .data⟩, ⟨0, .phase⟩, ⟨1, .textOnly .lateStores⟩, ⟨2, .textOnly .lateStores⟩, ⟨3, .textOnly .lateStores⟩, ⟨4, .textOnly .lateStores⟩, ⟨5, .textOnly .lateStores⟩, ⟨6, .textOnly .lateStores⟩, ⟨7, .textOnly .lateStores⟩, ⟨8, .textOnly .lateStores⟩], none⟩, ⟨some 3, .assign (.tmp 104), 3, "lex.go:107", #[⟨1, .data⟩, ⟨9, .chain⟩, ⟨0, .phase⟩, ⟨1, .phase⟩, ⟨2, .textOnly .lateStores⟩, ⟨3, .textOnly .lateStores⟩, ⟨4, .textOnly .lateStores⟩, ⟨5, .textOnly .lateStores⟩, ⟨6, .textOnly .lateStores⟩, ⟨7, .textOnly .lateStores⟩, ⟨8, .textOnly .lateStores⟩, ⟨9, .phase⟩], none⟩, ⟨some 4, .assign (.tmp 111), 4, "lex.go:107", #[⟨8, .data⟩, ⟨10, .chain⟩, ⟨0, .phase⟩, ⟨1, .phase⟩, ⟨2, .phase⟩, ⟨3, .phase⟩, ⟨4, .phase⟩, ⟨5, .phase⟩, ⟨6, .phase⟩, ⟨7, .phase⟩, ⟨8, .phase⟩, ⟨9, .phase⟩, ⟨10, .phase⟩], none⟩] : List Oper).toArray [⟨some 103, .load 31 (.tmp 5), 31, "lex.go:107", #[], none⟩, ⟨some 104, .move (.tmp 13), 3, "lex.go:107", #[⟨9, .gcOnly .lateStores⟩], none⟩, ⟨some 105, .move (.tmp 13), 3, "lex.go:107", #[⟨10, .gcOnly .lateStores⟩], none⟩, ⟨some 106, .move (.tmp 0), 42, "lex.go:107", #[⟨10, .gcOnly .lateStores⟩], none⟩, ⟨some 107, .nilCheck (.tmp 106), 0, "lex.go:107", #[⟨3, .data⟩, ⟨10, .gcOnly .lateStores⟩], none⟩, ⟨some 108, .fieldAddr 46 (.tmp 107) 1, 0, "lex.go:107", #[⟨4, .data⟩, ⟨10, .gcOnly .lateStores⟩], none⟩, ⟨some 109, .load 3 (.tmp 108), 3, "lex.go:107", #[⟨5, .data⟩, ⟨10, .gcOnly .lateStores⟩], none⟩, ⟨some 110, .binOp .add 3 (.tmp 109) (.const (.int .i64 1)) 3, 3, "lex.go:107", #[⟨6, .data⟩, ⟨10, .gcOnly .lateStores⟩], none⟩, ⟨some 111, .binOp .gtr 3 (.tmp 105) (.tmp 110) 3, 4, "lex.go:107", #[⟨2, .data⟩, ⟨7, .data⟩, ⟨10, .gcOnly .lateStores⟩], none⟩, ⟨none, .store 31 (.tmp 2) (.tmp 103), 0, "lex.go:107", #[⟨0, .data⟩, ⟨0, .phase⟩, ⟨1, .textOnly .lateStores⟩, ⟨2, .textOnly .lateStores⟩, ⟨3, .textOnly .lateStores⟩, ⟨4, .textOnly .lateStores⟩, ⟨5, .textOnly .lateStores⟩, ⟨6, .textOnly .lateStores⟩, ⟨7, .textOnly .lateStores⟩, ⟨8, .textOnly .lateStores⟩], none⟩, ⟨some 3, .assign (.tmp 104), 3, "lex.go:107", #[⟨1, .data⟩, ⟨9, .chain⟩, ⟨0, .phase⟩, ⟨1, .phase⟩, ⟨2, .textOnly .lateStores⟩, ⟨3, .textOnly .lateStores⟩, ⟨4, .textOnly .lateStores⟩, ⟨5, .textOnly .lateStores⟩, ⟨6, .textOnly .lateStores⟩, ⟨7, .textOnly .lateStores⟩, ⟨8, .textOnly .lateStores⟩, ⟨9, .phase⟩], none⟩, ⟨some 4, .assign (.tmp 111), 4, "lex.go:107", #[⟨8, .data⟩, ⟨10, .chain⟩, ⟨0, .phase⟩, ⟨1, .phase⟩, ⟨2, .phase⟩, ⟨3, .phase⟩, ⟨4, .phase⟩, ⟨5, .phase⟩, ⟨6, .phase⟩, ⟨7, .phase⟩, ⟨8, .phase⟩, ⟨9, .phase⟩, ⟨10, .phase⟩], none⟩] s := rfl
@[simp] theorem gD22_15_6 : D22_15[6]? = some ⟨some 109, .load 3 (.tmp 108), 3, "lex.go:107", #[⟨5, .data⟩, ⟨10, .gcOnly .lateStores⟩], none⟩ := id rfl
@[simp] theorem rD22_15 (T : Regs) (H : IH) : run J okAll (.region 15 D22_15.toArray true) T H = dFin J D22_15 (drun J (cal J okAll) D22_15.toArray D22_15 ⟨T, H, [], [H]⟩) := by rw [r_draw]; exact draw_look J _ T H _
@[simp] theorem pD22_15 (T : Regs) (H : IH) (vs : List (Regs × Value)) (hs : List IH) (h : [(6, 1)].all (oblig J D22_15.toArray vs hs) = true) : dFin J D22_15 (some (⟨T, H, vs, hs⟩, none)) = some (.normal, T, H) := dFin_normal J (ps := [(6, 1)]) rfl T H vs hs h
@[simp] theorem iD22_19 (T : Regs) (H : IH) : iops J (cal J okAll) D22_19.toArray D22_19 T H = iops J (cal J okAll) ([⟨some 123, .move (.tmp 0), 42, "lex.go:110", #[], none⟩, ⟨some 124, .nilCheck (.tmp 123), 0, "lex.go:110", #[⟨0, .data⟩], none⟩, ⟨some 125, .fieldAddr 46 (.tmp 124) 0, 0, "lex.go:110", #[⟨1, .data⟩], none⟩, ⟨some 126, .load 9 (.tmp 125), 9, "lex.go:110", #[⟨2, .data⟩], none⟩, ⟨some 127, .move (.tmp 0), 42, "lex.go:110", #[], none⟩, ⟨some 128, .nilCheck (.tmp 127), 0, "lex.go:110", #[⟨4, .data⟩], none⟩, ⟨some 129, .fieldAddr 46 (.tmp 128) 1, 0, "lex.go:110", #[⟨5, .data⟩], none⟩, ⟨some 130, .load 3 (.tmp 129), 3, "lex.go:110", #[⟨6, .data⟩], none⟩, ⟨some 131, .move (.tmp 14), 3, "lex.go:110", #[], none⟩, ⟨some 132, .slice 9 (.tmp 126) (some (.tmp 130)) (some (.tmp 131)) none, 9, "lex.go:110", #[⟨3, .data⟩, ⟨7, .data⟩, ⟨8, .data⟩], none⟩, ⟨some 133, .fieldAddr 31 (.tmp 5) 2, 0, "lex.go:110", #[⟨0, .phase⟩, ⟨1, .phase⟩, ⟨2, .phase⟩, ⟨3, .phase⟩, ⟨4, .phase⟩, ⟨5, .phase⟩, ⟨6, .phase⟩, ⟨7, .phase⟩, ⟨8, .phase⟩, ⟨9, .phase⟩], none⟩, ⟨none, .store 9 (.tmp 133) (.tmp 132), 0, "lex.go:110", #[⟨10, .data⟩, ⟨9, .data⟩, ⟨0, .phase⟩, ⟨1, .phase⟩, ⟨2, .phase⟩, ⟨3, .phase⟩, ⟨4, .phase⟩, ⟨5, .phase⟩, ⟨6, .phase⟩, ⟨7, .phase⟩, ⟨8, .phase⟩, ⟨9, .phase⟩], none⟩] : List Oper).toArray [⟨some 123, .move (.tmp 0), 42, "lex.go:110", #[], none⟩, ⟨some 124, .nilCheck (.tmp 123), 0, "lex.go:110", #[⟨0, .data⟩], none⟩, ⟨some 125, .fieldAddr 46 (.tmp 124) 0, 0, "lex.go:110", #[⟨1, .data⟩], none⟩, ⟨some 126, .load 9 (.tmp 125), 9, "lex.go:110", #[⟨2, .data⟩], none⟩, ⟨some 127, .move (.tmp 0), 42, "lex.go:110", #[], none⟩, ⟨some 128, .nilCheck (.tmp 127), 0, "lex.go:110", #[⟨4, .data⟩], none⟩, ⟨some 129, .fieldAddr 46 (.tmp 128) 1, 0, "lex.go:110", #[⟨5, .data⟩], none⟩, ⟨some 130, .load 3 (.tmp 129), 3, "lex.go:110", #[⟨6, .data⟩], none⟩, ⟨some 131, .move (.tmp 14), 3, "lex.go:110", #[], none⟩, ⟨some 132, .slice 9 (.tmp 126) (some (.tmp 130)) (some (.tmp 131)) none, 9, "lex.go:110", #[⟨3, .data⟩, ⟨7, .data⟩, ⟨8, .data⟩], none⟩, ⟨some 133, .fieldAddr 31 (.tmp 5) 2, 0, "lex.go:110", #[⟨0, .phase⟩, ⟨1, .phase⟩, ⟨2, .phase⟩, ⟨3, .phase⟩, ⟨4, .phase⟩, ⟨5, .phase⟩, ⟨6, .phase⟩, ⟨7, .phase⟩, ⟨8, .phase⟩, ⟨9, .phase⟩], none⟩, ⟨none, .store 9 (.tmp 133) (.tmp 132), 0, "lex.go:110", #[⟨10, .data⟩, ⟨9, .data⟩, ⟨0, .phase⟩, ⟨1, .phase⟩, ⟨2, .phase⟩, ⟨3, .phase⟩, ⟨4, .phase⟩, ⟨5, .phase⟩, ⟨6, .phase⟩, ⟨7, .phase⟩, ⟨8, .phase⟩, ⟨9, .phase⟩], none⟩] T H := rfl
@[simp] theorem rD22_19 (T : Regs) (H : IH) : run J okAll (.region 19 D22_19.toArray true) T H = dOut J (cal J okAll) D22_19 T H (iops J (cal J okAll) D22_19.toArray D22_19 T H) := by rw [r_draw]; exact draw_static J _ T H rfl
@[simp] theorem iD22_2 (T : Regs) (H : IH) : iops J (cal J okAll) D22_2.toArray D22_2 T H = iops J (cal J okAll) ([⟨some 23, .move (.tmp 0), 42, "lex.go:93", #[], none⟩, ⟨some 24, .nilCheck (.tmp 23), 0, "lex.go:93", #[⟨0, .data⟩], none⟩, ⟨some 25, .fieldAddr 46 (.tmp 24) 0, 0, "lex.go:93", #[⟨1, .data⟩], none⟩, ⟨some 26, .load 9 (.tmp 25), 9, "lex.go:93", #[⟨2, .data⟩], none⟩, ⟨some 27, .move (.tmp 0), 42, "lex.go:93", #[], none⟩, ⟨some 28, .nilCheck (.tmp 27), 0, "lex.go:93", #[⟨4, .data⟩], none⟩, ⟨some 29, .fieldAddr 46 (.tmp 28) 1, 0, "lex.go:93", #[⟨5, .data⟩], none⟩, ⟨some 30, .load 3 (.tmp 29), 3, "lex.go:93", #[⟨6, .data⟩], none⟩, ⟨some 31, .index 9 (.tmp 26) (.tmp 30), 5, "lex.go:93", #[⟨3, .data⟩, ⟨7, .data⟩], none⟩, ⟨some 6, .assign (.tmp 31), 5, "lex.go:93", #[⟨8, .data⟩, ⟨0, .phase⟩, ⟨1, .phase⟩, ⟨2, .phase⟩, ⟨3, .phase⟩, ⟨4, .phase⟩, ⟨5, .phase⟩, ⟨6, .phase⟩, ⟨7, .phase⟩, ⟨8, .phase⟩], none⟩] : List Oper).toArray [⟨some 23, .move (.tmp 0), 42, "lex.go:93", #[], none⟩, ⟨some 24, .nilCheck (.tmp 23), 0, "lex.go:93", #[⟨0, .data⟩], none⟩, ⟨some 25, .fieldAddr 46 (.tmp 24) 0, 0, "lex.go:93", #[⟨1, .data⟩], none⟩, ⟨some 26, .load 9 (.tmp 25), 9, "lex.go:93", #[⟨2, .data⟩], none⟩, ⟨some 27, .move (.tmp 0), 42, "lex.go:93", #[], none⟩, ⟨some 28, .nilCheck (.tmp 27), 0, "lex.go:93", #[⟨4, .data⟩], none⟩, ⟨some 29, .fieldAddr 46 (.tmp 28) 1, 0, "lex.go:93", #[⟨5, .data⟩], none⟩, ⟨some 30, .load 3 (.tmp 29), 3, "lex.go:93", #[⟨6, .data⟩], none⟩, ⟨some 31, .index 9 (.tmp 26) (.tmp 30), 5, "lex.go:93", #[⟨3, .data⟩, ⟨7, .data⟩], none⟩, ⟨some 6, .assign (.tmp 31), 5, "lex.go:93", #[⟨8, .data⟩, ⟨0, .phase⟩, ⟨1, .phase⟩, ⟨2, .phase⟩, ⟨3, .phase⟩, ⟨4, .phase⟩, ⟨5, .phase⟩, ⟨6, .phase⟩, ⟨7, .phase⟩, ⟨8, .phase⟩], none⟩] T H := rfl
@[simp] theorem rD22_2 (T : Regs) (H : IH) : run J okAll (.region 2 D22_2.toArray true) T H = dOut J (cal J okAll) D22_2 T H (iops J (cal J okAll) D22_2.toArray D22_2 T H) := by rw [r_draw]; exact draw_static J _ T H rfl
@[simp] theorem iD22_20 (T : Regs) (H : IH) : iops J (cal J okAll) D22_20.toArray D22_20 T H = iops J (cal J okAll) ([⟨some 134, .move (.tmp 0), 42, "lex.go:111", #[], none⟩, ⟨some 135, .nilCheck (.tmp 134), 0, "lex.go:111", #[⟨0, .data⟩], none⟩, ⟨some 136, .fieldAddr 46 (.tmp 135) 2, 0, "lex.go:111", #[⟨1, .data⟩], none⟩, ⟨some 137, .load 43 (.tmp 136), 43, "lex.go:111", #[⟨2, .data⟩], none⟩, ⟨some 138, .fieldAddr 31 (.tmp 5) 2, 0, "lex.go:111", #[], none⟩, ⟨some 139, .load 9 (.tmp 138), 9, "lex.go:111", #[⟨4, .data⟩], none⟩, ⟨some 140, .lookup 43 (.tmp 137) (.tmp 139) false, 3, "lex.go:111", #[⟨3, .data⟩, ⟨5, .data⟩], none⟩, ⟨some 15, .assign (.tmp 140), 3, "lex.go:111", #[⟨6, .data⟩, ⟨0, .phase⟩, ⟨1, .phase⟩, ⟨2, .phase⟩, ⟨3, .phase⟩, ⟨4, .phase⟩, ⟨5, .phase⟩, ⟨6, .phase⟩], none⟩] : List Oper).toArray [⟨some 134, .move (.tmp 0), 42, "lex.go:111", #[], none⟩, ⟨some 135, .nilCheck (.tmp 134), 0, "lex.go:111", #[⟨0, .data⟩], none⟩, ⟨some 136, .fieldAddr 46 (.tmp 135) 2, 0, "lex.go:111", #[⟨1, .data⟩], none⟩, ⟨some 137, .load 43 (.tmp 136), 43, "lex.go:111", #[⟨2, .data⟩], none⟩, ⟨some 138, .fieldAddr 31 (.tmp 5) 2, 0, "lex.go:111", #[], none⟩, ⟨some 139, .load 9 (.tmp 138), 9, "lex.go:111", #[⟨4, .data⟩], none⟩, ⟨some 140, .lookup 43 (.tmp 137) (.tmp 139) false, 3, "lex.go:111", #[⟨3, .data⟩, ⟨5, .data⟩], none⟩, ⟨some 15, .assign (.tmp 140), 3, "lex.go:111", #[⟨6, .data⟩, ⟨0, .phase⟩, ⟨1, .phase⟩, ⟨2, .phase⟩, ⟨3, .phase⟩, ⟨4, .phase⟩, ⟨5, .phase⟩, ⟨6, .phase⟩], none⟩] T H := rfl
@[simp] theorem rD22_20 (T : Regs) (H : IH) : run J okAll (.region 20 D22_20.toArray true) T H = dOut J (cal J okAll) D22_20 T H (iops J (cal J okAll) D22_20.toArray D22_20 T H) := by rw [r_draw]; exact draw_static J _ T H rfl
@[simp] theorem iD22_33 (s : DSt) : drun J (cal J okAll) D22_33.toArray D22_33 s = drun J (cal J okAll) ([⟨some 170, .load 31 (.tmp 5), 31, "lex.go:124", #[], none⟩, ⟨some 171, .move (.tmp 0), 42, "lex.go:124", #[⟨8, .gcOnly .lateStores⟩], none⟩, ⟨some 172, .nilCheck (.tmp 171), 0, "lex.go:124", #[⟨1, .data⟩, ⟨8, .gcOnly .lateStores⟩], none⟩, ⟨some 173, .fieldAddr 46 (.tmp 172) 1, 0, "lex.go:124", #[⟨2, .data⟩, ⟨8, .gcOnly .lateStores⟩], none⟩, ⟨some 174, .load 3 (.tmp 173), 3, "lex.go:124", #[⟨3, .data⟩, ⟨8, .gcOnly .lateStores⟩], none⟩, ⟨some 175, .move (.tmp 17), 9, "lex.go:124", #[], none⟩, ⟨some 176, .call ⟨.builtin .len, #[.tmp 175], #[9]⟩, 3, "lex.go:124", #[⟨5, .data⟩], none⟩, ⟨some 177, .binOp .add 3 (.tmp 174) (.tmp 176) 3, 3, "lex.go:124", #[⟨4, .data⟩, ⟨6, .data⟩, ⟨8, .gcOnly .lateStores⟩], none⟩, ⟨none, .store 31 (.tmp 2) (.tmp 170), 0, "lex.go:124", #[⟨0, .data⟩, ⟨0, .phase⟩, ⟨1, .textOnly .lateStores⟩, ⟨2, .textOnly .lateStores⟩, ⟨3, .textOnly .lateStores⟩, ⟨4, .textOnly .lateStores⟩, ⟨5, .textOnly .lateStores⟩, ⟨6, .textOnly .lateStoresUnsure⟩, ⟨7, .textOnly .lateStores⟩], none⟩, ⟨some 3, .assign (.tmp 177), 3, "lex.go:124", #[⟨7, .data⟩, ⟨8, .chain⟩, ⟨0, .phase⟩, ⟨1, .phase⟩, ⟨2, .phase⟩, ⟨3, .phase⟩, ⟨4, .phase⟩, ⟨5, .phase⟩, ⟨6, .phase⟩, ⟨7, .phase⟩, ⟨8, .phase⟩], none⟩, ⟨some 4, .assign (.const (.bool true)), 4, "lex.go:124", #[⟨9, .chain⟩, ⟨0, .phase⟩, ⟨1, .phase⟩, ⟨2, .phase⟩, ⟨3, .phase⟩, ⟨4, .phase⟩, ⟨5, .phase⟩, ⟨6, .phase⟩, ⟨7, .phase⟩, ⟨8, .phase⟩, ⟨9, .phase⟩], none⟩] : List Oper).toArray [⟨some 170, .load 31 (.tmp 5), 31, "lex.go:124", #[], none⟩, ⟨some 171, .move (.tmp 0), 42, "lex.go:124", #[⟨8, .gcOnly .lateStores⟩], none⟩, ⟨some 172, .nilCheck (.tmp 171), 0, "lex.go:124", #[⟨1, .data⟩, ⟨8, .gcOnly .lateStores⟩], none⟩, ⟨some 173, .fieldAddr 46 (.tmp 172) 1, 0, "lex.go:124", #[⟨2, .data⟩, ⟨8, .gcOnly .lateStores⟩], none⟩, ⟨some 174, .load 3 (.tmp 173), 3, "lex.go:124", #[⟨3, .data⟩, ⟨8, .gcOnly .lateStores⟩], none⟩, ⟨some 175, .move (.tmp 17), 9, "lex.go:124", #[], none⟩, ⟨some 176, .call ⟨.builtin .len, #[.tmp 175], #[9]⟩, 3, "lex.go:124", #[⟨5, .data⟩], none⟩, ⟨some 177, .binOp .add 3 (.tmp 174) (.tmp 176) 3, 3, "lex.go:124", #[⟨4, .data⟩, ⟨6, .data⟩, ⟨8, .gcOnly .lateStores⟩], none⟩, ⟨none, .store 31 (.tmp 2) (.tmp 170), 0, "lex.go:124", #[⟨0, .data⟩, ⟨0, .phase⟩, ⟨1, .textOnly .lateStores⟩, ⟨2, .textOnly .lateStores⟩, ⟨3, .textOnly .lateStores⟩, ⟨4, .textOnly .lateStores⟩, ⟨5, .textOnly .lateStores⟩, ⟨6, .textOnly .lateStoresUnsure⟩, ⟨7, .textOnly .lateStores⟩], none⟩, ⟨some 3, .assign (.tmp 177), 3, "lex.go:124", #[⟨7, .data⟩, ⟨8, .chain⟩, ⟨0, .phase⟩, ⟨1, .phase⟩, ⟨2, .phase⟩, ⟨3, .phase⟩, ⟨4, .phase⟩, ⟨5, .phase⟩, ⟨6, .phase⟩, ⟨7, .phase⟩, ⟨8, .phase⟩], none⟩, ⟨some 4, .assign (.const (.bool true)), 4, "lex.go:124", #[⟨9, .chain⟩, ⟨0, .phase⟩, ⟨1, .phase⟩, ⟨2, .phase⟩, ⟨3, .phase⟩, ⟨4, .phase⟩, ⟨5, .phase⟩, ⟨6, .phase⟩, ⟨7, .phase⟩, ⟨8, .phase⟩, ⟨9, .phase⟩], none⟩] s := rfl
@[simp] theorem gD22_33_4 : D22_33[4]? = some ⟨some 174, .load 3 (.tmp 173), 3, "lex.go:124", #[⟨3, .data⟩, ⟨8, .gcOnly .lateStores⟩], none⟩ := id rfl
@[simp] theorem gD22_33_6 : D22_33[6]? = some ⟨some 176, .call ⟨.builtin .len, #[.tmp 175], #[9]⟩, 3, "lex.go:124", #[⟨5, .data⟩], none⟩ := id rfl
@[simp] theorem rD22_33 (T : Regs) (H : IH) : run J okAll (.region 33 D22_33.toArray true) T H = dFin J D22_33 (drun J (cal J okAll) D22_33.toArray D22_33 ⟨T, H, [], [H]⟩) := by rw [r_draw]; exact draw_look J _ T H _
@[simp] theorem pD22_33 (T : Regs) (H : IH) (vs : List (Regs × Value)) (hs : List IH) (h : [(4, 1), (6, 1)].all (oblig J D22_33.toArray vs hs) = true) : dFin J D22_33 (some (⟨T, H, vs, hs⟩, none)) = some (.normal, T, H) := dFin_normal J (ps := [(4, 1), (6, 1)]) rfl T H vs hs h
@[simp] theorem iD22_5 (T : Regs) (H : IH) : iops J (cal J okAll) D22_5.toArray D22_5 T H = iops J (cal J okAll) ([⟨some 42, .move (.tmp 0), 42, "lex.go:97", #[], none⟩, ⟨some 43, .nilCheck (.tmp 42), 0, "lex.go:97", #[⟨0, .data⟩], none⟩, ⟨some 44, .fieldAddr 46 (.tmp 43) 0, 0, "lex.go:97", #[⟨1, .data⟩], none⟩, ⟨some 45, .load 9 (.tmp 44), 9, "lex.go:97", #[⟨2, .data⟩], none⟩, ⟨some 46, .move (.tmp 0), 42, "lex.go:97", #[], none⟩, ⟨some 47, .nilCheck (.tmp 46), 0, "lex.go:97", #[⟨4, .data⟩], none⟩, ⟨some 48, .fieldAddr 46 (.tmp 47) 1, 0, "lex.go:97", #[⟨5, .data⟩], none⟩, ⟨some 49, .load 3 (.tmp 48), 3, "lex.go:97", #[⟨6, .data⟩], none⟩, ⟨some 50, .move (.tmp 7), 3, "lex.go:97", #[], none⟩, ⟨some 51, .slice 9 (.tmp 45) (some (.tmp 49)) (some (.tmp 50)) none, 9, "lex.go:97", #[⟨3, .data⟩, ⟨7, .data⟩, ⟨8, .data⟩], none⟩, ⟨some 52, .call ⟨.value (.func 45), #[.tmp 51, .const (.int .i64 10), .const (.int .i64 64)], #[9, 3, 3]⟩, 71, "lex.go:97", #[⟨9, .data⟩], none⟩, ⟨some 41, .move (.tmp 52), 71, "lex.go:97", #[⟨10, .data⟩], none⟩, ⟨some 53, .extract (.tmp 41) 0, 2, "lex.go:97", #[⟨11, .data⟩], none⟩, ⟨some 54, .extract (.tmp 41) 1, 55, "lex.go:97", #[⟨11, .data⟩, ⟨14, .gcOnly .lateStores⟩], none⟩, ⟨some 8, .assign (.tmp 53), 2, "lex.go:97", #[⟨12, .data⟩, ⟨10, .chain⟩, ⟨0, .phase⟩, ⟨1, .phase⟩, ⟨2, .phase⟩, ⟨3, .phase⟩, ⟨4, .phase⟩, ⟨5, .phase⟩, ⟨6, .phase⟩, ⟨7, .phase⟩, ⟨8, .phase⟩, ⟨9, .phase⟩, ⟨10, .phase⟩, ⟨11, .phase⟩, ⟨12, .phase⟩, ⟨13, .textOnly .lateStores⟩], none⟩, ⟨some 9, .assign (.tmp 54), 55, "lex.go:97", #[⟨13, .data⟩, ⟨14, .chain⟩, ⟨0, .phase⟩, ⟨1, .phase⟩, ⟨2, .phase⟩, ⟨3, .phase⟩, ⟨4, .phase⟩, ⟨5, .phase⟩, ⟨6, .phase⟩, ⟨7, .phase⟩, ⟨8, .phase⟩, ⟨9, .phase⟩, ⟨10, .phase⟩, ⟨11, .phase⟩, ⟨12, .phase⟩, ⟨13, .phase⟩, ⟨14, .phase⟩], none⟩] : List Oper).toArray [⟨some 42, .move (.tmp 0), 42, "lex.go:97", #[], none⟩, ⟨some 43, .nilCheck (.tmp 42), 0, "lex.go:97", #[⟨0, .data⟩], none⟩, ⟨some 44, .fieldAddr 46 (.tmp 43) 0, 0, "lex.go:97", #[⟨1, .data⟩], none⟩, ⟨some 45, .load 9 (.tmp 44), 9, "lex.go:97", #[⟨2, .data⟩], none⟩, ⟨some 46, .move (.tmp 0), 42, "lex.go:97", #[], none⟩, ⟨some 47, .nilCheck (.tmp 46), 0, "lex.go:97", #[⟨4, .data⟩], none⟩, ⟨some 48, .fieldAddr 46 (.tmp 47) 1, 0, "lex.go:97", #[⟨5, .data⟩], none⟩, ⟨some 49, .load 3 (.tmp 48), 3, "lex.go:97", #[⟨6, .data⟩], none⟩, ⟨some 50, .move (.tmp 7), 3, "lex.go:97", #[], none⟩, ⟨some 51, .slice 9 (.tmp 45) (some (.tmp 49)) (some (.tmp 50)) none, 9, "lex.go:97", #[⟨3, .data⟩, ⟨7, .data⟩, ⟨8, .data⟩], none⟩, ⟨some 52, .call ⟨.value (.func 45), #[.tmp 51, .const (.int .i64 10), .const (.int .i64 64)], #[9, 3, 3]⟩, 71, "lex.go:97", #[⟨9, .data⟩], none⟩, ⟨some 41, .move (.tmp 52), 71, "lex.go:97", #[⟨10, .data⟩], none⟩, ⟨some 53, .extract (.tmp 41) 0, 2, "lex.go:97", #[⟨11, .data⟩], none⟩, ⟨some 54, .extract (.tmp 41) 1, 55, "lex.go:97", #[⟨11, .data⟩, ⟨14, .gcOnly .lateStores⟩], none⟩, ⟨some 8, .assign (.tmp 53), 2, "lex.go:97", #[⟨12, .data⟩, ⟨10, .chain⟩, ⟨0, .phase⟩, ⟨1, .phase⟩, ⟨2, .phase⟩, ⟨3, .phase⟩, ⟨4, .phase⟩, ⟨5, .phase⟩, ⟨6, .phase⟩, ⟨7, .phase⟩, ⟨8, .phase⟩, ⟨9, .phase⟩, ⟨10, .phase⟩, ⟨11, .phase⟩, ⟨12, .phase⟩, ⟨13, .textOnly .lateStores⟩], none⟩, ⟨some 9, .assign (.tmp 54), 55, "lex.go:97", #[⟨13, .data⟩, ⟨14, .chain⟩, ⟨0, .phase⟩, ⟨1, .phase⟩, ⟨2, .phase⟩, ⟨3, .phase⟩, ⟨4, .phase⟩, ⟨5, .phase⟩, ⟨6, .phase⟩, ⟨7, .phase⟩, ⟨8, .phase⟩, ⟨9, .phase⟩, ⟨10, .phase⟩, ⟨11, .phase⟩, ⟨12, .phase⟩, ⟨13, .phase⟩, ⟨14, .phase⟩], none⟩] T H := rfl
@[simp] theorem rD22_5 (T : Regs) (H : IH) : run J okAll (.region 5 D22_5.toArray true) T H = dOut J (cal J okAll) D22_5 T H (iops J (cal J okAll) D22_5.toArray D22_5 T H) := by rw [r_draw]; exact draw_static J _ T H rfl
@[simp] theorem iD22_7 (T : Regs) (H : IH) : iops J (cal J okAll) D22_7.toArray D22_7 T H = iops J (cal J okAll) ([⟨some 58, .load 31 (.tmp 5), 31, "lex.go:99", #[], none⟩, ⟨some 59, .move (.tmp 7), 3, "lex.go:99", #[⟨8, .gcOnly .lateStores⟩], none⟩, ⟨some 60, .move (.tmp 9), 55, "lex.go:99", #[], none⟩, ⟨some 61, .binOp .eql 55 (.tmp 60) (.const .nilIface) 55, 4, "lex.go:99", #[⟨2, .data⟩], none⟩, ⟨some 62, .move (.tmp 61), 4, "lex.go:99", #[⟨3, .data⟩], none⟩, ⟨some 63, .move (.tmp 8), 2, "lex.go:99", #[⟨4, .guard⟩, ⟨9, .gcOnly .lateStores⟩], some (4, true)⟩, ⟨some 64, .binOp .lss 2 (.tmp 63) (.const (.int .i64 4611686018427387904)) 2, 4, "lex.go:99", #[⟨5, .data⟩, ⟨4, .guard⟩, ⟨9, .gcOnly .lateStores⟩], some (4, true)⟩, ⟨some 65, .pick (.tmp 62) (.tmp 64) (.const (.bool false)), 4, "lex.go:99", #[⟨4, .data⟩, ⟨6, .data⟩, ⟨9, .gcOnly .lateStores⟩], none⟩, ⟨none, .store 31 (.tmp 2) (.tmp 58), 0, "lex.go:99", #[⟨0, .data⟩, ⟨4, .chain⟩, ⟨0, .phase⟩, ⟨1, .textOnly .lateStores⟩, ⟨2, .textOnly .lateStores⟩, ⟨3, .textOnly .lateStores⟩, ⟨4, .textOnly .lateStores⟩, ⟨5, .textOnly .lateStores⟩, ⟨6, .textOnly .lateStores⟩, ⟨7, .textOnly .lateStores⟩], none⟩, ⟨some 3, .assign (.tmp 59), 3, "lex.go:99", #[⟨1, .data⟩, ⟨8, .chain⟩, ⟨0, .phase⟩, ⟨1, .phase⟩, ⟨2, .textOnly .lateStores⟩, ⟨3, .textOnly .lateStores⟩, ⟨4, .textOnly .lateStores⟩, ⟨5, .textOnly .lateStores⟩, ⟨6, .textOnly .lateStores⟩, ⟨7, .textOnly .lateStores⟩, ⟨8, .phase⟩], none⟩, ⟨some 4, .assign (.tmp 65), 4, "lex.go:99", #[⟨7, .data⟩, ⟨9, .chain⟩, ⟨0, .phase⟩, ⟨1, .phase⟩, ⟨2, .phase⟩, ⟨3, .phase⟩, ⟨4, .phase⟩, ⟨5, .phase⟩, ⟨6, .phase⟩, ⟨7, .phase⟩, ⟨8, .phase⟩, ⟨9, .phase⟩], none⟩] : List Oper).toArray [⟨some 58, .load 31 (.tmp 5), 31, "lex.go:99", #[], none⟩, ⟨some 59, .move (.tmp 7), 3, "lex.go:99", #[⟨8, .gcOnly .lateStores⟩], none⟩, ⟨some 60, .move (.tmp 9), 55, "lex.go:99", #[], none⟩, ⟨some 61, .binOp .eql 55 (.tmp 60) (.const .nilIface) 55, 4, "lex.go:99", #[⟨2, .data⟩], none⟩, ⟨some 62, .move (.tmp 61), 4, "lex.go:99", #[⟨3, .data⟩], none⟩, ⟨some 63, .move (.tmp 8), 2, "lex.go:99", #[⟨4, .guard⟩, ⟨9, .gcOnly .lateStores⟩], some (4, true)⟩, ⟨some 64, .binOp .lss 2 (.tmp 63) (.const (.int .i64 4611686018427387904)) 2, 4, "lex.go:99", #[⟨5, .data⟩, ⟨4, .guard⟩, ⟨9, .gcOnly .lateStores⟩], some (4, true)⟩, ⟨some 65, .pick (.tmp 62) (.tmp 64) (.const (.bool false)), 4, "lex.go:99", #[⟨4, .data⟩, ⟨6, .data⟩, ⟨9, .gcOnly .lateStores⟩], none⟩, ⟨none, .store 31 (.tmp 2) (.tmp 58), 0, "lex.go:99", #[⟨0, .data⟩, ⟨4, .chain⟩, ⟨0, .phase⟩, ⟨1, .textOnly .lateStores⟩, ⟨2, .textOnly .lateStores⟩, ⟨3, .textOnly .lateStores⟩, ⟨4, .textOnly .lateStores⟩, ⟨5, .textOnly .lateStores⟩, ⟨6, .textOnly .lateStores⟩, ⟨7, .textOnly .lateStores⟩], none⟩, ⟨some 3, .assign (.tmp 59), 3, "lex.go:99", #[⟨1, .data⟩, ⟨8, .chain⟩, ⟨0, .phase⟩, ⟨1, .phase⟩, ⟨2, .textOnly .lateStores⟩, ⟨3, .textOnly .lateStores⟩, ⟨4, .textOnly .lateStores⟩, ⟨5, .textOnly .lateStores⟩, ⟨6, .textOnly .lateStores⟩, ⟨7, .textOnly .lateStores⟩, ⟨8, .phase⟩], none⟩, ⟨some 4, .assign (.tmp 65), 4, "lex.go:99", #[⟨7, .data⟩, ⟨9, .chain⟩, ⟨0, .phase⟩, ⟨1, .phase⟩, ⟨2, .phase⟩, ⟨3, .phase⟩, ⟨4, .phase⟩, ⟨5, .phase⟩, ⟨6, .phase⟩, ⟨7, .phase⟩, ⟨8, .phase⟩, ⟨9, .phase⟩], none⟩] T H := rfl
@[simp] theorem rD22_7 (T : Regs) (H : IH) : run J okAll (.region 7 D22_7.toArray true) T H = dOut J (cal J okAll) D22_7 T H (iops J (cal J okAll) D22_7.toArray D22_7 T H) := by rw [r_draw]; exact draw_static J _ T H rfl
@[simp] theorem iD23_1 (T : Regs) (H : IH) : iops J (cal J okAll) D23_1.toArray D23_1 T H = iops J (cal J okAll) ([⟨some 4, .move (.tmp 0), 42, "lex.go:52", #[], none⟩, ⟨some 5, .nilCheck (.tmp 4), 0, "lex.go:52", #[⟨0, .data⟩], none⟩, ⟨some 6, .fieldAddr 46 (.tmp 5) 1, 0, "lex.go:52", #[⟨1, .data⟩], none⟩, ⟨some 7, .load 3 (.tmp 6), 3, "lex.go:52", #[⟨2, .data⟩], none⟩, ⟨some 8, .move (.tmp 0), 42, "lex.go:52", #[], none⟩, ⟨some 9, .nilCheck (.tmp 8), 0, "lex.go:52", #[⟨4, .data⟩], none⟩, ⟨some 10, .fieldAddr 46 (.tmp 9) 0, 0, "lex.go:52", #[⟨5, .data⟩], none⟩, ⟨some 11, .load 9 (.tmp 10), 9, "lex.go:52", #[⟨6, .data⟩], none⟩, ⟨some 12, .call ⟨.builtin .len, #[.tmp 11], #[9]⟩, 3, "lex.go:52", #[⟨7, .data⟩], none⟩, ⟨some 13, .binOp .lss 3 (.tmp 7) (.tmp 12) 3, 4, "lex.go:52", #[⟨3, .data⟩, ⟨8, .data⟩], none⟩] : List Oper).toArray [⟨some 4, .move (.tmp 0), 42, "lex.go:52", #[], none⟩, ⟨some 5, .nilCheck (.tmp 4), 0, "lex.go:52", #[⟨0, .data⟩], none⟩, ⟨some 6, .fieldAddr 46 (.tmp 5) 1, 0, "lex.go:52", #[⟨1, .data⟩], none⟩, ⟨some 7, .load 3 (.tmp 6), 3, "lex.go:52", #[⟨2, .data⟩], none⟩, ⟨some 8, .move (.tmp 0), 42, "lex.go:52", #[], none⟩, ⟨some 9, .nilCheck (.tmp 8), 0, "lex.go:52", #[⟨4, .data⟩], none⟩, ⟨some 10, .fieldAddr 46 (.tmp 9) 0, 0, "lex.go:52", #[⟨5, .data⟩], none⟩, ⟨some 11, .load 9 (.tmp 10), 9, "lex.go:52", #[⟨6, .data⟩], none⟩, ⟨some 12, .call ⟨.builtin .len, #[.tmp 11], #[9]⟩, 3, "lex.go:52", #[⟨7, .data⟩], none⟩, ⟨some 13, .binOp .lss 3 (.tmp 7) (.tmp 12) 3, 4, "lex.go:52", #[⟨3, .data⟩, ⟨8, .data⟩], none⟩] T H := rfl
@[simp] theorem rD23_1 (T : Regs) (H : IH) : run J okAll (.region 1 D23_1.toArray true) T H = dOut J (cal J okAll) D23_1 T H (iops J (cal J okAll) D23_1.toArray D23_1 T H) := by rw [r_draw]; exact draw_static J _ T H rfl
@[simp] theorem iD23_3 (T : Regs) (H : IH) : iops J (cal J okAll) D23_3.toArray D23_3 T H = iops J (cal J okAll) ([⟨some 15, .move (.tmp 0), 42, "lex.go:54", #[], none⟩, ⟨some 16, .nilCheck (.tmp 15), 0, "lex.go:54", #[⟨0, .data⟩], none⟩, ⟨some 17, .fieldAddr 46 (.tmp 16) 0, 0, "lex.go:54", #[⟨1, .data⟩], none⟩, ⟨some 18, .load 9 (.tmp 17), 9, "lex.go:54", #[⟨2, .data⟩], none⟩, ⟨some 19, .move (.tmp 0), 42, "lex.go:54", #[], none⟩, ⟨some 20, .nilCheck (.tmp 19), 0, "lex.go:54", #[⟨4, .data⟩], none⟩, ⟨some 21, .fieldAddr 46 (.tmp 20) 1, 0, "lex.go:54", #[⟨5, .data⟩], none⟩, ⟨some 22, .load 3 (.tmp 21), 3, "lex.go:54", #[⟨6, .data⟩], none⟩, ⟨some 23, .index 9 (.tmp 18) (.tmp 22), 5, "lex.go:54", #[⟨3, .data⟩, ⟨7, .data⟩], none⟩, ⟨some 24, .call ⟨.value (.func 51), #[.const (.string ⟨#[32, 9, 10, 13]⟩), .tmp 23], #[9, 5]⟩, 3, "lex.go:54", #[⟨8, .data⟩], none⟩, ⟨some 25, .binOp .geq 3 (.tmp 24) (.const (.int .i64 0)) 3, 4, "lex.go:54", #[⟨9, .data⟩], none⟩, ⟨some 14, .assign (.tmp 25), 4, "lex.go:54", #[⟨10, .data⟩, ⟨9, .chain⟩], none⟩] : List Oper).toArray [⟨some 15, .move (.tmp 0), 42, "lex.go:54", #[], none⟩, ⟨some 16, .nilCheck (.tmp 15), 0, "lex.go:54", #[⟨0, .data⟩], none⟩, ⟨some 17, .fieldAddr 46 (.tmp 16) 0, 0, "lex.go:54", #[⟨1, .data⟩], none⟩, ⟨some 18, .load 9 (.tmp 17), 9, "lex.go:54", #[⟨2, .data⟩], none⟩, ⟨some 19, .move (.tmp 0), 42, "lex.go:54", #[], none⟩, ⟨some 20, .nilCheck (.tmp 19), 0, "lex.go:54", #[⟨4, .data⟩], none⟩, ⟨some 21, .fieldAddr 46 (.tmp 20) 1, 0, "lex.go:54", #[⟨5, .data⟩], none⟩, ⟨some 22, .load 3 (.tmp 21), 3, "lex.go:54", #[⟨6, .data⟩], none⟩, ⟨some 23, .index 9 (.tmp 18) (.tmp 22), 5, "lex.go:54", #[⟨3, .data⟩, ⟨7, .data⟩], none⟩, ⟨some 24, .call ⟨.value (.func 51), #[.const (.string ⟨#[32, 9, 10, 13]⟩), .tmp 23], #[9, 5]⟩, 3, "lex.go:54", #[⟨8, .data⟩], none⟩, ⟨some 25, .binOp .geq 3 (.tmp 24) (.const (.int .i64 0)) 3, 4, "lex.go:54", #[⟨9, .data⟩], none⟩, ⟨some 14, .assign (.tmp 25), 4, "lex.go:54", #[⟨10, .data⟩, ⟨9, .chain⟩], none⟩] T H := rfl
@[simp] theorem rD23_3 (T : Regs) (H : IH) : run J okAll (.region 3 D23_3.toArray true) T H = dOut J (cal J okAll) D23_3 T H (iops J (cal J okAll) D23_3.toArray D23_3 T H) := by rw [r_draw]; exact draw_static J _ T H rfl
@[simp] theorem iD29_1 (T : Regs) (H : IH) : iops J (cal J okAll) D29_1.toArray D29_1 T H = iops J (cal J okAll) ([⟨some 3, .move (.tmp 0), 51, "builder.go:47", #[], none⟩, ⟨some 4, .nilCheck (.tmp 3), 0, "builder.go:47", #[⟨0, .data⟩], none⟩, ⟨some 5, .fieldAddr 53 (.tmp 4) 1, 0, "builder.go:47", #[⟨1, .data⟩], none⟩, ⟨some 6, .load 40 (.tmp 5), 40, "builder.go:47", #[⟨2, .data⟩], none⟩, ⟨some 7, .call ⟨.builtin .unsafeSliceData, #[.tmp 6], #[40]⟩, 76, "builder.go:47", #[⟨3, .data⟩], none⟩, ⟨some 8, .move (.tmp 0), 51, "builder.go:47", #[], none⟩, ⟨some 9, .nilCheck (.tmp 8), 0, "builder.go:47", #[⟨5, .data⟩], none⟩, ⟨some 10, .fieldAddr 53 (.tmp 9) 1, 0, "builder.go:47", #[⟨6, .data⟩], none⟩, ⟨some 11, .load 40 (.tmp 10), 40, "builder.go:47", #[⟨7, .data⟩], none⟩, ⟨some 12, .call ⟨.builtin .len, #[.tmp 11], #[40]⟩, 3, "builder.go:47", #[⟨8, .data⟩], none⟩, ⟨some 13, .call ⟨.builtin .unsafeString, #[.tmp 7, .tmp 12], #[76, 3]⟩, 9, "builder.go:47", #[⟨4, .data⟩, ⟨9, .data⟩], none⟩, ⟨some 2, .assign (.tmp 13), 9, "builder.go:47", #[⟨10, .data⟩, ⟨0, .phase⟩, ⟨1, .phase⟩, ⟨2, .phase⟩, ⟨3, .phase⟩, ⟨4, .phase⟩, ⟨5, .phase⟩, ⟨6, .phase⟩, ⟨7, .phase⟩, ⟨8, .phase⟩, ⟨9, .phase⟩, ⟨10, .phase⟩], none⟩] : List Oper).toArray [⟨some 3, .move (.tmp 0), 51, "builder.go:47", #[], none⟩, ⟨some 4, .nilCheck (.tmp 3), 0, "builder.go:47", #[⟨0, .data⟩], none⟩, ⟨some 5, .fieldAddr 53 (.tmp 4) 1, 0, "builder.go:47", #[⟨1, .data⟩], none⟩, ⟨some 6, .load 40 (.tmp 5), 40, "builder.go:47", #[⟨2, .data⟩], none⟩, ⟨some 7, .call ⟨.builtin .unsafeSliceData, #[.tmp 6], #[40]⟩, 76, "builder.go:47", #[⟨3, .data⟩], none⟩, ⟨some 8, .move (.tmp 0), 51, "builder.go:47", #[], none⟩, ⟨some 9, .nilCheck (.tmp 8), 0, "builder.go:47", #[⟨5, .data⟩], none⟩, ⟨some 10, .fieldAddr 53 (.tmp 9) 1, 0, "builder.go:47", #[⟨6, .data⟩], none⟩, ⟨some 11, .load 40 (.tmp 10), 40, "builder.go:47", #[⟨7, .data⟩], none⟩, ⟨some 12, .call ⟨.builtin .len, #[.tmp 11], #[40]⟩, 3, "builder.go:47", #[⟨8, .data⟩], none⟩, ⟨some 13, .call ⟨.builtin .unsafeString, #[.tmp 7, .tmp 12], #[76, 3]⟩, 9, "builder.go:47", #[⟨4, .data⟩, ⟨9, .data⟩], none⟩, ⟨some 2, .assign (.tmp 13), 9, "builder.go:47", #[⟨10, .data⟩, ⟨0, .phase⟩, ⟨1, .phase⟩, ⟨2, .phase⟩, ⟨3, .phase⟩, ⟨4, .phase⟩, ⟨5, .phase⟩, ⟨6, .phase⟩, ⟨7, .phase⟩, ⟨8, .phase⟩, ⟨9, .phase⟩, ⟨10, .phase⟩], none⟩] T H := rfl
@[simp] theorem rD29_1 (T : Regs) (H : IH) : run J okAll (.region 1 D29_1.toArray true) T H = dOut J (cal J okAll) D29_1 T H (iops J (cal J okAll) D29_1.toArray D29_1 T H) := by rw [r_draw]; exact draw_static J _ T H rfl
@[simp] theorem iD52_1 (T : Regs) (H : IH) : iops J (cal J okAll) D52_1.toArray D52_1 T H = iops J (cal J okAll) ([⟨some 5, .move (.tmp 0), 42, "lex.go:71", #[⟨4, .gcOnly .lateStores⟩], none⟩, ⟨some 6, .nilCheck (.tmp 5), 0, "lex.go:71", #[⟨0, .data⟩, ⟨4, .gcOnly .lateStores⟩], none⟩, ⟨some 7, .fieldAddr 46 (.tmp 6) 1, 0, "lex.go:71", #[⟨1, .data⟩, ⟨4, .gcOnly .lateStores⟩], none⟩, ⟨some 8, .load 3 (.tmp 7), 3, "lex.go:71", #[⟨2, .data⟩, ⟨4, .gcOnly .lateStores⟩], none⟩, ⟨some 3, .assign (.const (.int .i64 0)), 3, "lex.go:71", #[⟨0, .textOnly .lateStores⟩, ⟨1, .textOnly .lateStores⟩, ⟨2, .textOnly .lateStores⟩, ⟨3, .textOnly .lateStores⟩], none⟩, ⟨some 4, .assign (.tmp 8), 3, "lex.go:71", #[⟨3, .data⟩, ⟨4, .chain⟩, ⟨0, .phase⟩, ⟨1, .phase⟩, ⟨2, .phase⟩, ⟨3, .phase⟩, ⟨4, .phase⟩], none⟩] : List Oper).toArray [⟨some 5, .move (.tmp 0), 42, "lex.go:71", #[⟨4, .gcOnly .lateStores⟩], none⟩, ⟨some 6, .nilCheck (.tmp 5), 0, "lex.go:71", #[⟨0, .data⟩, ⟨4, .gcOnly .lateStores⟩], none⟩, ⟨some 7, .fieldAddr 46 (.tmp 6) 1, 0, "lex.go:71", #[⟨1, .data⟩, ⟨4, .gcOnly .lateStores⟩], none⟩, ⟨some 8, .load 3 (.tmp 7), 3, "lex.go:71", #[⟨2, .data⟩, ⟨4, .gcOnly .lateStores⟩], none⟩, ⟨some 3, .assign (.const (.int .i64 0)), 3, "lex.go:71", #[⟨0, .textOnly .lateStores⟩, ⟨1, .textOnly .lateStores⟩, ⟨2, .textOnly .lateStores⟩, ⟨3, .textOnly .lateStores⟩], none⟩, ⟨some 4, .assign (.tmp 8), 3, "lex.go:71", #[⟨3, .data⟩, ⟨4, .chain⟩, ⟨0, .phase⟩, ⟨1, .phase⟩, ⟨2, .phase⟩, ⟨3, .phase⟩, ⟨4, .phase⟩], none⟩] T H := rfl
@[simp] theorem rD52_1 (T : Regs) (H : IH) : run J okAll (.region 1 D52_1.toArray true) T H = dOut J (cal J okAll) D52_1 T H (iops J (cal J okAll) D52_1.toArray D52_1 T H) := by rw [r_draw]; exact draw_static J _ T H rfl
@[simp] theorem iD70_1 (s : DSt) : drun J (cal J okAll) D70_1.toArray D70_1 s = drun J (cal J okAll) ([⟨some 5, .move (.tmp 0), 9, "number.go:277", #[], none⟩, ⟨some 6, .move (.tmp 1), 9, "number.go:277", #[], none⟩, ⟨some 7, .call ⟨.value (.func 84), #[.tmp 6], #[9]⟩, 9, "number.go:277", #[⟨1, .data⟩], none⟩, ⟨some 8, .load 55 (.global 4), 55, "number.go:277", #[], none⟩, ⟨some 9, .build 124 #[(0, .tmp 5), (1, .tmp 7), (2, .tmp 8)], 124, "number.go:277", #[⟨0, .data⟩, ⟨2, .data⟩, ⟨3, .data⟩], none⟩, ⟨some 10, .box 124 (.tmp 9), 102, "number.go:277", #[⟨4, .data⟩], none⟩, ⟨some 4, .assign (.tmp 10), 102, "number.go:277", #[⟨5, .data⟩, ⟨2, .chain⟩, ⟨0, .phase⟩, ⟨1, .phase⟩, ⟨2, .phase⟩, ⟨3, .phase⟩, ⟨4, .phase⟩, ⟨5, .phase⟩], none⟩] : List Oper).toArray [⟨some 5, .move (.tmp 0), 9, "number.go:277", #[], none⟩, ⟨some 6, .move (.tmp 1), 9, "number.go:277", #[], none⟩, ⟨some 7, .call ⟨.value (.func 84), #[.tmp 6], #[9]⟩, 9, "number.go:277", #[⟨1, .data⟩], none⟩, ⟨some 8, .load 55 (.global 4), 55, "number.go:277", #[], none⟩, ⟨some 9, .build 124 #[(0, .tmp 5), (1, .tmp 7), (2, .tmp 8)], 124, "number.go:277", #[⟨0, .data⟩, ⟨2, .data⟩, ⟨3, .data⟩], none⟩, ⟨some 10, .box 124 (.tmp 9), 102, "number.go:277", #[⟨4, .data⟩], none⟩, ⟨some 4, .assign (.tmp 10), 102, "number.go:277", #[⟨5, .data⟩, ⟨2, .chain⟩, ⟨0, .phase⟩, ⟨1, .phase⟩, ⟨2, .phase⟩, ⟨3, .phase⟩, ⟨4, .phase⟩, ⟨5, .phase⟩], none⟩] s := rfl
@[simp] theorem gD70_1_3 : D70_1[3]? = some ⟨some 8, .load 55 (.global 4), 55, "number.go:277", #[], none⟩ := id rfl
@[simp] theorem rD70_1 (T : Regs) (H : IH) : run J okAll (.region 1 D70_1.toArray true) T H = dFin J D70_1 (drun J (cal J okAll) D70_1.toArray D70_1 ⟨T, H, [], [H]⟩) := by rw [r_draw]; exact draw_look J _ T H _
@[simp] theorem pD70_1 (T : Regs) (H : IH) (vs : List (Regs × Value)) (hs : List IH) (h : [(3, 0)].all (oblig J D70_1.toArray vs hs) = true) : dFin J D70_1 (some (⟨T, H, vs, hs⟩, none)) = some (.normal, T, H) := dFin_normal J (ps := [(3, 0)]) rfl T H vs hs h
end Go.Proofs.YtjbcjcibnjbpcaaDoor.Idl
namespace Go.Proofs.YtjbcjcibnjbpcaaDoor.Idl
open Go
set_option maxHeartbeats 1000000
set_option linter.unusedSimpArgs false
def prefixB (s t : ByteArray) : Bool := decide (t.size ≤ s.size) && decide (s.extract 0 t.size = t)
theorem c73 (s t : ByteArray) (H : IH) : cal J okAll 73 #[.string s, .string t] H = some (.ret (.bool (prefixB s t)), H) := by
  rw [cal73 _ _ (by simp)]
  by_cases h : t.size ≤ s.size <;> simp [C73, R73, regsOf, fin, iresult1, prefixB, h, sliceS]
theorem c60 (s t : ByteArray) (H : IH) : cal J okAll 60 #[.string s, .string t] H = some (.ret (.bool (prefixB s t)), H) := by
  rw [cal60 _ _ (by simp)]
  simp [C60, R60, regsOf, fin, iresult1, c73]
/-- A reader at a place of the heap. -/
def Rd (H : IH) (b : Nat) (s : ByteArray) (p : Nat) (m : Nat) : Prop := H.get b = some (.cells [.string s, .int .i64 (p : Int), .map (some m)] 46 false)
theorem c50 (H : IH) (b : Nat) (s t : ByteArray) (p m i : Nat) (hr : Rd H b s p m) (hi : i ≤ s.size) :
    cal J okAll 50 #[.pointer (some ⟨b, 0, none⟩), .int .i64 (i : Int), .string t] H = some (.ret (.bool (prefixB (s.extract i s.size) t)), H) := by
  unfold Rd at hr
  rw [cal50 _ _ (by simp)]
  simp [C50, R50, regsOf, fin, iresult1, c60, hr, sliceS, hi]
def span (q : Int → Bool) (s : ByteArray) (i : Nat) : Nat := i + ((s.data.toList.drop i).takeWhile (fun c => q c.toNat)).length
theorem span_end (q : Int → Bool) (s : ByteArray) (i : Nat) (h : s.size ≤ i) : span q s i = i := by
  unfold span
  rw [List.drop_of_length_le (by simpa using h)]; rfl
theorem span_step (q : Int → Bool) (s : ByteArray) (i : Nat) (h : i < s.size) : span q s i = if q (s[i]).toNat then span q s (i + 1) else i := by
  unfold span
  rw [List.drop_eq_getElem_cons (by simpa using h), List.takeWhile_cons]
  have : s.data.toList[i]'(by simpa using h) = s[i] := rfl
  rw [this]
  split <;> simp <;> omega
theorem loop44 (H : IH) (b : Nat) (s : ByteArray) (p m g : Nat) (q : Int → Bool) (hr : Rd H b s p m) (hg : hasBody J g = true) (hs : s.size < 2 ^ 62)
    (hq : ∀ c, cal J okAll g #[.int .u8 c] H = some (.ret (.bool (q c)), H)) : ∀ (n i : Nat) (T : Regs), s.size - i = n → i ≤ s.size →
    T.at 0 = .pointer (some ⟨b, 0, none⟩) → T.at 1 = .int .i64 (i : Int) → T.at 2 = .func (.func g) #[] #[] →
    ∃ T', run J okAll (.loop L44_0) T H = some (.exit 0, T', H) ∧ T'.at 1 = .int .i64 (span q s i : Int) := by
  unfold Rd at hr
  intro n
  induction n with
  | zero =>
    intro i T hn hi h0 h1 h2
    have hlt : ¬ i < s.size := by omega
    rw [r_loop, span_end q s i (by omega)]
    simp [L44_0, h0, h1, h2, hr, hlt]
  | succ n ih =>
    intro i T hn hi h0 h1 h2
    have hlt : i < s.size := by omega
    rw [r_loop, span_step q s i hlt]
    have hw : IntKind.i64.wrap ((i : Int) + 1) = ((i + 1 : Nat) : Int) := by rw [wrap64 _ (by omega) (by omega)]; simp
    cases hqc : q (s[i]).toNat with
    | false => simp [L44_0, h0, h1, h2, hr, hlt, hg, hq, hqc, idxS_nat]
    | true =>
      simp only [if_true]
      have := ih (i + 1)
      simp [L44_0, h0, h1, h2, hr, hlt, hg, hq, hqc, idxS_nat, hw]
      exact this _ (by omega) (by omega) (by simp [h0]) (by simp) (by simp [h2])
end Go.Proofs.YtjbcjcibnjbpcaaDoor.Idl
namespace Go.Proofs.YtjbcjcibnjbpcaaDoor.Idl
open Go
set_option maxHeartbeats 1000000
set_option linter.unusedSimpArgs false
def smallB (c : Int) : Bool := decide (97 ≤ c) && decide (c ≤ 122)
def greatB (c : Int) : Bool := decide (65 ≤ c) && decide (c ≤ 90)
def digitB (c : Int) : Bool := decide (48 ≤ c) && decide (c ≤ 57)
def letterB (c : Int) : Bool := smallB c || greatB c || digitB c || decide (c = 95) || decide (c = 39)
@[simp] theorem c48 (c : Int) (H : IH) : cal J okAll 48 #[.int .u8 c] H = some (.ret (.bool (smallB c)), H) := by
  rw [cal48 _ _ (by simp)]
  cases h : decide (97 ≤ c) <;> simp [C48, R48, regsOf, fin, iresult1, smallB, h]
@[simp] theorem c49 (c : Int) (H : IH) : cal J okAll 49 #[.int .u8 c] H = some (.ret (.bool (greatB c)), H) := by
  rw [cal49 _ _ (by simp)]
  cases h : decide (65 ≤ c) <;> simp [C49, R49, regsOf, fin, iresult1, greatB, h]
@[simp] theorem c43 (c : Int) (H : IH) : cal J okAll 43 #[.int .u8 c] H = some (.ret (.bool (digitB c)), H) := by
  rw [cal43 _ _ (by simp)]
  cases h : decide (48 ≤ c) <;> simp [C43, R43, regsOf, fin, iresult1, digitB, h]
@[simp] theorem c47 (c : Int) (H : IH) : cal J okAll 47 #[.int .u8 c] H = some (.ret (.bool (letterB c)), H) := by
  rw [cal47 _ _ (by simp)]
  cases h1 : smallB c <;> cases h2 : greatB c <;> cases h3 : digitB c <;> cases h4 : decide (c = 95) <;> simp [C47, R47, regsOf, fin, iresult1, letterB, h1, h2, h3, h4]
theorem c44 (H : IH) (b : Nat) (s : ByteArray) (p m g i : Nat) (q : Int → Bool) (hr : Rd H b s p m) (hg : hasBody J g = true) (hs : s.size < 2 ^ 62) (hi : i ≤ s.size)
    (hq : ∀ c, cal J okAll g #[.int .u8 c] H = some (.ret (.bool (q c)), H)) :
    cal J okAll 44 #[.pointer (some ⟨b, 0, none⟩), .int .i64 (i : Int), .func (.func g) #[] #[]] H = some (.ret (.int .i64 (span q s i : Int)), H) := by
  rw [cal44 _ _ (by simp)]
  obtain ⟨T', h1, h2⟩ := loop44 H b s p m g q hr hg hs hq _ i (Tr.set (Tr.set (Tr.set (Tr.set .leaf 0 (.pointer (some ⟨b, 0, none⟩))) 1 (.int .i64 (i : Int))) 2 (.func (.func g) #[] #[])) 6 (.int .i64 0)) rfl hi (by simp) (by simp) (by simp)
  simp [C44, R44, regsOf, fin, iresult1, h1, h2]
@[simp] theorem e74 (T : Regs) (H : IH) (dst : Option Tmp) (type : TypeId) (pos : String) (after : Array Edge) (guard : Option (Nat × Bool)) (f x y : Operand) (at_ : Array TypeId) (s : ByteArray) (c : Int)
    (hf : iev T f = .func (.func 74) #[] #[]) (hx : iev T x = .string s) (hy : iev T y = .int .u8 c) :
    funcR J (.func (.func 74) #[] #[]) #[.string s, .int .u8 c] ⟨dst, .call ⟨.value f, #[x, y], at_⟩, type, pos, after, guard⟩ T H = some (.val (.int .i64 (idxB s c)) H) :=
  indexByte_ext J T H dst type pos after guard f x y 74 Tryd.f74 at_ s c hf hx hy (by kernel_rfl) (by kernel_rfl) (by kernel_rfl) (by kernel_rfl) (by kernel_rfl) (by kernel_rfl) (by kernel_rfl)
@[simp] theorem c61 (s : ByteArray) (c : Int) (H : IH) : cal J okAll 61 #[.string s, .int .u8 c] H = some (.ret (.int .i64 (idxB s c)), H) := by
  rw [cal61 _ _ (by simp)]
  simp [C61, R61, regsOf, fin, iresult1]
@[simp] theorem c51 (s : ByteArray) (c : Int) (H : IH) : cal J okAll 51 #[.string s, .int .u8 c] H = some (.ret (.int .i64 (idxB s c)), H) := by
  rw [cal51 _ _ (by simp)]
  simp [C51, R51, regsOf, fin, iresult1]
theorem prefixB_le (s t : ByteArray) (i : Nat) (h : prefixB (s.extract i s.size) t = true) (hi : i ≤ s.size) : i + t.size ≤ s.size := by
  simp [prefixB] at h
  omega
/-- remark: where it ends. -/
def remL (s : ByteArray) : Nat → Int → Nat → Int
  | 0, _, _ => -1
  | n + 1, d, i => if i < s.size then
      if prefixB (s.extract i s.size) ⟨#[40, 42]⟩ then remL s n (d + 1) (i + 2)
      else if prefixB (s.extract i s.size) ⟨#[42, 41]⟩ then
        if d - 1 = 0 then ((i + 2 : Nat) : Int) else remL s n (d - 1) (i + 2)
      else remL s n d (i + 1)
    else -1
end Go.Proofs.YtjbcjcibnjbpcaaDoor.Idl
namespace Go.Proofs.YtjbcjcibnjbpcaaDoor.Idl
open Go
set_option maxHeartbeats 1000000
set_option linter.unusedSimpArgs false
theorem wi (i k : Nat) (h : i + k < 2 ^ 63) : IntKind.i64.wrap ((i : Int) + (k : Int)) = ((i + k : Nat) : Int) := by rw [wrap64 _ (by omega) (by omega)]; simp
theorem loop52 (H : IH) (b : Nat) (s : ByteArray) (p m : Nat) (hr : Rd H b s p m) (hs : s.size < 2 ^ 62) : ∀ (n i : Nat) (d : Int) (T : Regs), s.size < n + i → i ≤ s.size → -(i : Int) ≤ d → d ≤ i →
    T.at 0 = .pointer (some ⟨b, 0, none⟩) → T.at 3 = .int .i64 d → T.at 4 = .int .i64 (i : Int) →
    (∃ T', run J okAll (.loop L52_0) T H = some (.exit 0, T', H) ∧ remL s n d i = -1) ∨
    ∃ T', ∃ e : Nat, run J okAll (.loop L52_0) T H = some (.ret, T', H) ∧ T'.at 2 = .int .i64 (e : Int) ∧ remL s n d i = (e : Int) ∧ e ≤ s.size := by
  have hr' := hr
  unfold Rd at hr'
  intro n
  induction n with
  | zero => intro i d T hn hi; omega
  | succ n ih =>
    intro i d T hn hi hd1 hd2 h0 h3 h4
    have go : ∀ (i' : Nat) (d' : Int), i < i' → i' ≤ s.size → -(i' : Int) ≤ d' → d' ≤ i' →
        (∃ T1, run J okAll (.loop L52_0) T H = run J okAll (.loop L52_0) T1 H ∧ T1.at 0 = .pointer (some ⟨b, 0, none⟩) ∧ T1.at 3 = .int .i64 d' ∧ T1.at 4 = .int .i64 (i' : Int)) → remL s (n + 1) d i = remL s n d' i' →
        (∃ T', run J okAll (.loop L52_0) T H = some (.exit 0, T', H) ∧ remL s (n + 1) d i = -1) ∨
        ∃ T', ∃ e : Nat, run J okAll (.loop L52_0) T H = some (.ret, T', H) ∧ T'.at 2 = .int .i64 (e : Int) ∧ remL s (n + 1) d i = (e : Int) ∧ e ≤ s.size := by
      intro i' d' g1 g2 g3 g4 ⟨T1, e1, e2, e3, e4⟩ g5
      rw [e1, g5]
      exact ih i' d' T1 (by omega) g2 g3 g4 e2 e3 e4
    by_cases hlt : i < s.size
    · have h5 := fun t => c50 H b s t p m i hr hi
      have w1 : IntKind.i64.wrap ((i : Int) + 1) = (i : Int) + 1 := wrap64 _ (by omega) (by omega)
      have w2 : IntKind.i64.wrap ((i : Int) + 2) = (i : Int) + 2 := wrap64 _ (by omega) (by omega)
      have w3 : IntKind.i64.wrap (d + 1) = d + 1 := wrap64 _ (by omega) (by omega)
      have w4 : IntKind.i64.wrap (d - 1) = d - 1 := wrap64 _ (by omega) (by omega)
      cases hp : prefixB (s.extract i s.size) ⟨#[40, 42]⟩ with
      | true =>
        have hle := prefixB_le _ _ _ hp hi
        have hsz : (⟨#[40, 42]⟩ : ByteArray).size = 2 := rfl
        rw [hsz] at hle
        refine go (i + 2) (d + 1) (by omega) hle (by omega) (by omega) ?_ (by simp [remL, hlt, hp])
        rw [r_loop]
        simp [L52_0, h0, h3, h4, hr', hlt, h5, hp, w1, w2, w3, w4]
        exact ⟨_, rfl, by simp [h0], by simp, by simp⟩
      | false =>
        cases hq : prefixB (s.extract i s.size) ⟨#[42, 41]⟩ with
        | true =>
          have hle := prefixB_le _ _ _ hq hi
          have hsz : (⟨#[42, 41]⟩ : ByteArray).size = 2 := rfl
          rw [hsz] at hle
          by_cases hd : d - 1 = 0
          · right
            have hR : remL s (n + 1) d i = ((i + 2 : Nat) : Int) := by simp only [remL, hlt, hp, hq, hd, if_true]; simp
            have : ∃ T1, run J okAll (.loop L52_0) T H = some (.ret, T1, H) ∧ T1.at 2 = .int .i64 ((i : Int) + 2) := by
              rw [r_loop]
              have hd' : d = 1 := by omega
              have w0 : IntKind.i64.wrap 0 = 0 := rfl
              simp [L52_0, h0, h3, h4, hr', hlt, h5, hp, hq, w1, w2, w3, w0, hd']
            obtain ⟨T1, e1, e2⟩ := this
            exact ⟨T1, i + 2, e1, by rw [e2]; simp, hR, hle⟩
          · refine go (i + 2) (d - 1) (by omega) hle (by omega) (by omega) ?_ (by simp [remL, hlt, hp, hq, hd])
            rw [r_loop]
            simp [L52_0, h0, h3, h4, hr', hlt, h5, hp, hq, w1, w2, w3, w4, hd]
            exact ⟨_, rfl, by simp [h0], by simp, by simp⟩
        | false =>
          refine go (i + 1) d (by omega) (by omega) (by omega) (by omega) ?_ (by simp [remL, hlt, hp, hq])
          rw [r_loop]
          simp [L52_0, h0, h3, h4, hr', hlt, h5, hp, hq, w1, w2, w3, w4]
          exact ⟨_, rfl, by simp [h0], by simp [h3], by simp⟩
    · left
      rw [r_loop]
      simp [remL, L52_0, h0, h3, h4, hr', hlt]
theorem c52 (H : IH) (b : Nat) (s : ByteArray) (p m : Nat) (hr : Rd H b s p m) (hs : s.size < 2 ^ 62) (hp : p ≤ s.size) :
    cal J okAll 52 #[.pointer (some ⟨b, 0, none⟩)] H = some (.ret (.int .i64 (remL s (s.size + 1) 0 p)), H) ∧ (remL s (s.size + 1) 0 p = -1 ∨ ∃ e : Nat, remL s (s.size + 1) 0 p = e ∧ e ≤ s.size) := by
  rw [cal52 _ _ (by simp)]
  have hr' := hr
  unfold Rd at hr'
  have key := fun T => loop52 H b s p m hr hs (s.size + 1) p 0 T (by omega) hp (by omega) (by omega)
  simp [C52, R52, regsOf, fin, iresult1, hr']
  generalize hX : run J okAll (.loop L52_0) _ H = X
  obtain ⟨T1, e1, f0, f3, f4⟩ : ∃ T1, run J okAll (.loop L52_0) T1 H = X ∧ T1.at 0 = .pointer (some ⟨b, 0, none⟩) ∧ T1.at 3 = .int .i64 0 ∧ T1.at 4 = .int .i64 (p : Int) := ⟨_, hX, by simp, by simp, by simp⟩
  rcases key T1 f0 f3 f4 with ⟨T', h1, h2⟩ | ⟨T', e, h1, h2, h3, h4⟩
  · rw [← e1, h1]; simp [h2, fin, iresult1]
  · rw [← e1, h1]; simp [h2, h3, h4, fin, iresult1]
    exact ⟨e, rfl, h4⟩
/-- skip: where it comes to, and what it answers. -/
def skipL (s : ByteArray) : Nat → Nat → Nat × Int
  | 0, p => (p, -1)
  | n + 1, p => if h : p < s.size then
      if 0 ≤ idxB ⟨#[32, 9, 10, 13]⟩ (s[p]).toNat then skipL s n (p + 1)
      else if prefixB (s.extract p s.size) ⟨#[40, 42]⟩ then
        if remL s (s.size + 1) 0 p < 0 then (p, p) else skipL s n (remL s (s.size + 1) 0 p).toNat
      else (p, -1)
    else (p, -1)
def rdB (s : ByteArray) (p m : Nat) : Blk := .cells [.string s, .int .i64 (p : Int), .map (some m)] 46 false
theorem rd_set (H : IH) (b : Nat) (s : ByteArray) (p m : Nat) : Rd (H.set b (rdB s p m)) b s p m := by simp [Rd, rdB]
theorem loop23 (H : IH) (b : Nat) (s : ByteArray) (m : Nat) (hs : s.size < 2 ^ 62) (hgt : ∀ p e : Nat, remL s (s.size + 1) 0 p = e → p < e) : ∀ (n p : Nat) (T : Regs), s.size < n + p → p ≤ s.size →
    T.at 0 = .pointer (some ⟨b, 0, none⟩) →
    (∃ T', run J okAll (.loop L23_0) T (H.set b (rdB s p m)) = some (.exit 0, T', H.set b (rdB s (skipL s n p).1 m)) ∧ (skipL s n p).2 = -1 ∧ (skipL s n p).1 = s.size) ∨
    ∃ T', run J okAll (.loop L23_0) T (H.set b (rdB s p m)) = some (.ret, T', H.set b (rdB s (skipL s n p).1 m)) ∧ T'.at 2 = .int .i64 (skipL s n p).2 ∧ (skipL s n p).1 < s.size := by
  intro n
  induction n with
  | zero => intro p T hn hi; omega
  | succ n ih =>
    intro p T hn hi h0
    have go : ∀ p', p < p' → p' ≤ s.size → (∃ T1, run J okAll (.loop L23_0) T (H.set b (rdB s p m)) = run J okAll (.loop L23_0) T1 (H.set b (rdB s p' m)) ∧ T1.at 0 = .pointer (some ⟨b, 0, none⟩)) → skipL s (n + 1) p = skipL s n p' →
        (∃ T', run J okAll (.loop L23_0) T (H.set b (rdB s p m)) = some (.exit 0, T', H.set b (rdB s (skipL s (n + 1) p).1 m)) ∧ (skipL s (n + 1) p).2 = -1 ∧ (skipL s (n + 1) p).1 = s.size) ∨
        ∃ T', run J okAll (.loop L23_0) T (H.set b (rdB s p m)) = some (.ret, T', H.set b (rdB s (skipL s (n + 1) p).1 m)) ∧ T'.at 2 = .int .i64 (skipL s (n + 1) p).2 ∧ (skipL s (n + 1) p).1 < s.size := by
      intro p' g1 g2 ⟨T1, e1, e2⟩ g5
      rw [e1, g5]
      exact ih p' T1 (by omega) g2 e2
    by_cases hlt : p < s.size
    · have w1 : IntKind.i64.wrap ((p : Int) + 1) = (p : Int) + 1 := wrap64 _ (by omega) (by omega)
      have hrd := rd_set H b s p m
      have h5 := fun t => c50 _ b s t p m p hrd hi
      obtain ⟨h6, h7⟩ := c52 _ b s p m hrd hs hi
      cases hb : decide (0 ≤ idxB ⟨#[32, 9, 10, 13]⟩ (s[p]).toNat) with
      | true =>
        have hb' := of_decide_eq_true hb
        refine go (p + 1) (by omega) (by omega) ?_ (by simp [skipL, hlt, hb'])
        rw [r_loop]
        simp [L23_0, h0, hlt, idxS_nat, hb, w1, rdB, overlay, istore, Value.cells, plain1]
        exact ⟨_, rfl, by simp [h0]⟩
      | false =>
        have hb' := of_decide_eq_false hb
        cases hp : prefixB (s.extract p s.size) ⟨#[40, 42]⟩ with
        | true =>
          by_cases hr : remL s (s.size + 1) 0 p < 0
          · right
            have hS : skipL s (n + 1) p = (p, (p : Int)) := by simp [skipL, hlt, hb', hp, hr]
            rw [hS, r_loop]
            simp [rdB] at h5 h6
            simp [L23_0, h0, hlt, idxS_nat, hb, hp, h5, h6, hr, w1, rdB]
          · obtain ⟨e, he, hle⟩ := h7.resolve_left (by omega)
            have hne : ¬ ((e : Int) < 0) := by omega
            refine go e (hgt p e he) hle ?_ (by simp [skipL, hlt, hb', hp, hne, he])
            rw [r_loop]
            simp [rdB] at h5 h6
            simp [L23_0, h0, hlt, idxS_nat, hb, hp, h5, h6, he, hne, w1, rdB, overlay, istore, Value.cells, plain1]
            exact ⟨_, rfl, by simp [h0]⟩
        | false =>
          right
          have hS : skipL s (n + 1) p = (p, -1) := by simp [skipL, hlt, hb', hp]
          rw [hS, r_loop]
          simp [rdB] at h5
          simp [L23_0, h0, hlt, idxS_nat, hb, hp, h5, w1, rdB]
    · left
      have hS : skipL s (n + 1) p = (p, -1) := by simp [skipL, hlt]
      rw [hS, r_loop]
      simp [L23_0, h0, hlt, rdB]
      omega
end Go.Proofs.YtjbcjcibnjbpcaaDoor.Idl
namespace Go.Proofs.YtjbcjcibnjbpcaaDoor.Idl
open Go
set_option maxHeartbeats 4000000
set_option linter.unusedSimpArgs false
theorem remL_gt (s : ByteArray) : ∀ (n i e : Nat) (d : Int), remL s n d i = e → i < e := by
  intro n
  induction n with
  | zero => intro i e d h; simp [remL] at h
  | succ n ih =>
    intro i e d h
    simp only [remL] at h
    split at h
    · split at h
      · have := ih _ _ _ h; omega
      · split at h
        · split at h
          · omega
          · have := ih _ _ _ h; omega
        · have := ih _ _ _ h; omega
    · omega
theorem c23 (H : IH) (b : Nat) (s : ByteArray) (p m : Nat) (hr : Rd H b s p m) (hs : s.size < 2 ^ 62) (hp : p ≤ s.size) :
    cal J okAll 23 #[.pointer (some ⟨b, 0, none⟩)] H = some (.ret (.int .i64 (skipL s (s.size + 1) p).2), H.set b (rdB s (skipL s (s.size + 1) p).1 m)) ∧
    (((skipL s (s.size + 1) p).2 = -1 ∧ (skipL s (s.size + 1) p).1 = s.size) ∨ (skipL s (s.size + 1) p).1 < s.size) := by
  have hH : H.set b (rdB s p m) = H := IH.set_same H b _ hr
  have key := fun T => loop23 H b s m hs (fun p e h => remL_gt s _ _ _ _ h) (s.size + 1) p T (by omega) hp
  rw [hH] at key
  rw [cal23 _ _ (by simp)]
  simp [C23, R23, regsOf]
  generalize hX : run J okAll (.loop L23_0) _ H = X
  obtain ⟨T1, e1, f0⟩ : ∃ T1, run J okAll (.loop L23_0) T1 H = X ∧ T1.at 0 = .pointer (some ⟨b, 0, none⟩) := ⟨_, hX, by simp⟩
  rcases key T1 f0 with ⟨T', h1, h2, h3⟩ | ⟨T', h1, h2, h3⟩
  · rw [← e1, h1]; simp [h2, h3, fin, iresult1]
  · rw [← e1, h1]; simp [h2, h3, fin, iresult1]
/-- escape: the byte, and how many letters it has. -/
def bt (t : ByteArray) (i : Nat) : Int := ((t.data.toList[i]?).getD 0).toNat
theorem bt_eq (t : ByteArray) (i : Nat) (h : i < t.size) : ((t[i]).toNat : Int) = bt t i := by
  have : t.data.toList[i]? = some t[i] := by
    rw [List.getElem?_eq_getElem (by simpa using h)]; rfl
  simp [bt, this]
theorem idxS_bt (t : ByteArray) (i : Nat) (h : i < t.size) : idxS t (i : Int) = some (.int .u8 (bt t i)) := by rw [idxS_nat t i h, bt_eq t i h]
theorem bt_range (t : ByteArray) (i : Nat) : 0 ≤ bt t i ∧ bt t i < 256 := by
  unfold bt
  have := ((t.data.toList[i]?).getD 0).toNat_lt
  omega
def escF (t : ByteArray) : Int × Int :=
  if t.size = 0 then (0, 0)
  else if bt t 0 = 110 then (10, 1)
  else if bt t 0 = 116 then (9, 1)
  else if bt t 0 = 92 ∨ bt t 0 = 34 then (bt t 0, 1)
  else if 3 ≤ t.size ∧ digitB (bt t 0) ∧ digitB (bt t 1) ∧ digitB (bt t 2) ∧ 100 * (bt t 0 - 48) + 10 * (bt t 1 - 48) + (bt t 2 - 48) ≤ 255 then (100 * (bt t 0 - 48) + 10 * (bt t 1 - 48) + (bt t 2 - 48), 3)
  else (0, 0)
theorem digit_range {c : Int} (h : digitB c = true) : 48 ≤ c ∧ c ≤ 57 := by simpa [digitB] using h
theorem wrap8 (n : Int) (h1 : 0 ≤ n) (h2 : n < 256) : IntKind.u8.wrap n = n := by
  simp [IntKind.wrap, IntKind.bits, IntKind.signed]
  omega
theorem empty_size (t : ByteArray) : (t = ⟨#[]⟩) = (t.size = 0) := by
  refine propext ⟨fun h => by rw [h]; rfl, fun h => ?_⟩
  have : t.data = #[] := Array.size_eq_zero_iff.1 h
  cases t; simp_all
theorem c59 (t : ByteArray) (H : IH) : cal J okAll 59 #[.string t] H = some (.ret (.tuple #[.int .u8 (escF t).1, .int .i64 (escF t).2]), H) := by
  rw [cal59 _ _ (by simp)]
  by_cases h0 : t.size = 0
  · simp [C59, R59, regsOf, fin, iresult1, empty_size, h0, escF]
  have i0 : idxS t 0 = some (.int .u8 (bt t 0)) := idxS_bt t 0 (by omega)
  cases ha : decide (bt t 0 = 110) with
  | true => simp [C59, R59, regsOf, fin, iresult1, empty_size, h0, escF, i0, of_decide_eq_true ha]
  | false =>
  have ha' := of_decide_eq_false ha
  cases hb : decide (bt t 0 = 116) with
  | true => simp [C59, R59, regsOf, fin, iresult1, empty_size, h0, escF, i0, of_decide_eq_true hb]
  | false =>
  have hb' := of_decide_eq_false hb
  cases hc : decide (bt t 0 = 92) with
  | true => simp [C59, R59, regsOf, fin, iresult1, empty_size, h0, escF, i0, of_decide_eq_true hc]
  | false =>
  have hc' := of_decide_eq_false hc
  cases hd : decide (bt t 0 = 34) with
  | true => simp [C59, R59, regsOf, fin, iresult1, empty_size, h0, escF, i0, of_decide_eq_true hd]
  | false =>
  have hd' := of_decide_eq_false hd
  cases d0 : digitB (bt t 0) with
  | false =>
    have hE : escF t = (0, 0) := by simp [escF, h0, ha', hb', hc', hd', d0]
    have hs0 : ¬ ((t.size : Int) ≤ 0) := by omega
    rw [hE]
    simp [C59, L59_0, r_loop, R59, regsOf, fin, iresult1, empty_size, h0, i0, ha, hb, hc, hd, d0, hs0]
  | true =>
    have hs0 : ¬ ((t.size : Int) ≤ 0) := by omega
    have r0 := digit_range d0
    have z0 : IntKind.u8.wrap (bt t 0 - 48) = bt t 0 - 48 := wrap8 _ (by omega) (by omega)
    have z0' : IntKind.i64.wrap (bt t 0 - 48) = bt t 0 - 48 := wrap64 _ (by omega) (by omega)
    have q0 : IntKind.i64.wrap 0 = 0 := rfl
    have q1 : IntKind.i64.wrap 1 = 1 := rfl
    have q2 : IntKind.i64.wrap 2 = 2 := rfl
    have q3 : IntKind.i64.wrap 3 = 3 := rfl
    by_cases h1 : t.size ≤ 1
    · have hE : escF t = (0, 0) := by simp [escF, h0, ha', hb', hc', hd']; omega
      have hs1 : ((t.size : Int) ≤ 1) := by omega
      rw [hE]
      simp [C59, L59_0, r_loop, R59, regsOf, fin, iresult1, empty_size, h0, i0, ha, hb, hc, hd, d0, hs0, hs1, z0, z0', q0, q1]
    have hs1 : ¬ ((t.size : Int) ≤ 1) := by omega
    have i1 : idxS t 1 = some (.int .u8 (bt t 1)) := idxS_bt t 1 (by omega)
    cases d1 : digitB (bt t 1) with
    | false =>
      have hE : escF t = (0, 0) := by simp [escF, h0, ha', hb', hc', hd', d1]
      rw [hE]
      simp [C59, L59_0, r_loop, R59, regsOf, fin, iresult1, empty_size, h0, i0, i1, ha, hb, hc, hd, d0, d1, hs0, hs1, z0, z0', q0, q1]
    | true =>
      have r1 := digit_range d1
      have z1 : IntKind.u8.wrap (bt t 1 - 48) = bt t 1 - 48 := wrap8 _ (by omega) (by omega)
      have z1' : IntKind.i64.wrap (bt t 1 - 48) = bt t 1 - 48 := wrap64 _ (by omega) (by omega)
      have y1 : IntKind.i64.wrap (10 * (bt t 0 - 48)) = 10 * (bt t 0 - 48) := wrap64 _ (by omega) (by omega)
      have y1' : IntKind.i64.wrap (10 * (bt t 0 - 48) + (bt t 1 - 48)) = 10 * (bt t 0 - 48) + (bt t 1 - 48) := wrap64 _ (by omega) (by omega)
      by_cases h2 : t.size ≤ 2
      · have hE : escF t = (0, 0) := by simp [escF, h0, ha', hb', hc', hd']; omega
        have hs2 : ((t.size : Int) ≤ 2) := by omega
        rw [hE]
        simp [C59, L59_0, r_loop, R59, regsOf, fin, iresult1, empty_size, h0, i0, i1, ha, hb, hc, hd, d0, d1, hs0, hs1, hs2, z0, z0', z1, z1', y1, y1', q0, q1, q2]
      have hs2 : ¬ ((t.size : Int) ≤ 2) := by omega
      have i2 : idxS t 2 = some (.int .u8 (bt t 2)) := idxS_bt t 2 (by omega)
      cases d2 : digitB (bt t 2) with
      | false =>
        have hE : escF t = (0, 0) := by simp [escF, h0, ha', hb', hc', hd', d2]
        rw [hE]
        simp [C59, L59_0, r_loop, R59, regsOf, fin, iresult1, empty_size, h0, i0, i1, i2, ha, hb, hc, hd, d0, d1, d2, hs0, hs1, hs2, z0, z0', z1, z1', y1, y1', q0, q1, q2]
      | true =>
        have r2 := digit_range d2
        have z2 : IntKind.u8.wrap (bt t 2 - 48) = bt t 2 - 48 := wrap8 _ (by omega) (by omega)
        have z2' : IntKind.i64.wrap (bt t 2 - 48) = bt t 2 - 48 := wrap64 _ (by omega) (by omega)
        have y2 : IntKind.i64.wrap (10 * (10 * (bt t 0 - 48) + (bt t 1 - 48))) = 10 * (10 * (bt t 0 - 48) + (bt t 1 - 48)) := wrap64 _ (by omega) (by omega)
        have y2' : IntKind.i64.wrap (10 * (10 * (bt t 0 - 48) + (bt t 1 - 48)) + (bt t 2 - 48)) = 10 * (10 * (bt t 0 - 48) + (bt t 1 - 48)) + (bt t 2 - 48) := wrap64 _ (by omega) (by omega)
        have e2 : 10 * (10 * (bt t 0 - 48) + (bt t 1 - 48)) + (bt t 2 - 48) = 100 * (bt t 0 - 48) + 10 * (bt t 1 - 48) + (bt t 2 - 48) := by omega
        by_cases hg : 100 * (bt t 0 - 48) + 10 * (bt t 1 - 48) + (bt t 2 - 48) ≤ 255
        · have hE : escF t = (100 * (bt t 0 - 48) + 10 * (bt t 1 - 48) + (bt t 2 - 48), 3) := by
            have : 3 ≤ t.size := by omega
            simp [escF, h0, ha', hb', hc', hd', d0, d1, d2, hg, this]
          have hg' : ¬ (255 < 10 * (10 * (bt t 0 - 48) + (bt t 1 - 48)) + (bt t 2 - 48)) := by omega
          have w8 : IntKind.u8.wrap (10 * (10 * (bt t 0 - 48) + (bt t 1 - 48)) + (bt t 2 - 48)) = 10 * (10 * (bt t 0 - 48) + (bt t 1 - 48)) + (bt t 2 - 48) := wrap8 _ (by omega) (by omega)
          rw [hE, ← e2]
          simp [C59, L59_0, r_loop, R59, regsOf, fin, iresult1, empty_size, h0, i0, i1, i2, ha, hb, hc, hd, d0, d1, d2, hs0, hs1, hs2, z0, z0', z1, z1', z2, z2', y1, y1', y2, y2', q0, q1, q2, q3, hg', w8]
        · have hE : escF t = (0, 0) := by simp [escF, h0, ha', hb', hc', hd', d0, d1, d2, hg]
          have hg' : (255 < 10 * (10 * (bt t 0 - 48) + (bt t 1 - 48)) + (bt t 2 - 48)) := by omega
          rw [hE]
          simp [C59, L59_0, r_loop, R59, regsOf, fin, iresult1, empty_size, h0, i0, i1, i2, ha, hb, hc, hd, d0, d1, d2, hs0, hs1, hs2, z0, z0', z1, z1', z2, z2', y1, y1', y2, y2', q0, q1, q2, q3, hg']
end Go.Proofs.YtjbcjcibnjbpcaaDoor.Idl
namespace Go.Proofs.YtjbcjcibnjbpcaaDoor.Idl
open Go
set_option maxHeartbeats 4000000
set_option linter.unusedSimpArgs false
theorem bt40 : BT J 40 5 := ⟨by simp, by simp, by simp, by simp, by simp⟩
/-- text: what it means and where it ends. -/
def txtF (s : ByteArray) : Nat → Nat → List Int → Option (List Int × Nat)
  | 0, _, _ => none
  | n + 1, i, l => if i < s.size then
      if bt s i = 34 then some (l, i + 1)
      else if bt s i < 32 then none
      else if bt s i ≠ 92 then txtF s n (i + 1) (l ++ [bt s i])
      else if (escF (s.extract (i + 1) s.size)).2 = 0 then none
      else txtF s n (i + (escF (s.extract (i + 1) s.size)).2.toNat + 1) (l ++ [(escF (s.extract (i + 1) s.size)).1])
    else none
def Fr (lo : Nat) (H H' : IH) : Prop := H.next ≤ H'.next ∧ ∀ x, x < lo → H'.get x = H.get x
theorem Fr.refl (lo : Nat) (H : IH) : Fr lo H H := ⟨Nat.le_refl _, fun _ _ => rfl⟩
theorem Fr.trans {lo : Nat} {H H1 H2 : IH} (h : Fr lo H H1) (h' : Fr lo H1 H2) : Fr lo H H2 := ⟨Nat.le_trans h.1 h'.1, fun x hx => (h'.2 x hx).trans (h.2 x hx)⟩
theorem escF_size (t : ByteArray) : (escF t).2 = 0 ∨ ((escF t).2 = 1 ∧ 1 ≤ t.size) ∨ ((escF t).2 = 3 ∧ 3 ≤ t.size) := by
  unfold escF
  split
  · simp
  · split
    · right; left; simp; omega
    · split
      · right; left; simp; omega
      · split
        · right; left; simp; omega
        · split
          · rename_i h; right; right; exact ⟨rfl, h.1⟩
          · simp
@[simp] theorem bound_nat1 (k : IntKind) (n d : Nat) : ibound (some (.int k ((n : Int) + 1))) d = some (n + 1) := by
  simp only [ibound]
  rw [if_pos (by omega)]
  congr 1
theorem idxS_bt' (t : ByteArray) (i : Nat) (h : i < t.size) : idxS t (i : Int) = some (.int .u8 (bt t i)) := idxS_bt t i h
theorem loop46 (b : Nat) (s : ByteArray) (p m lo : Nat) (hs : s.size < 2 ^ 39) (hb : b < lo) : ∀ (n i : Nat) (l : List Int) (H : IH) (T : Regs) (v : Value), s.size < n + i → i ≤ s.size → l.length ≤ i → lo ≤ H.next →
    Rd H b s p m → BsAt J 5 H v l lo → T.at 0 = .pointer (some ⟨b, 0, none⟩) → T.at 5 = v → T.at 6 = .int .i64 (i : Int) →
    ∃ T' H', Fr lo H H' ∧ ((run J okAll (.loop L46_0) T H = some (.exit 0, T', H') ∧ txtF s n i l = none) ∨
      (run J okAll (.loop L46_0) T H = some (.ret, T', H') ∧ ((txtF s n i l = none ∧ T'.at 2 = .string ⟨#[]⟩ ∧ T'.at 3 = .int .i64 0 ∧ T'.at 4 = .bool false) ∨
        ∃ r e, txtF s n i l = some (r, e) ∧ e ≤ s.size ∧ T'.at 2 = .string (strOf r) ∧ T'.at 3 = .int .i64 (e : Int) ∧ T'.at 4 = .bool true))) := by
  intro n
  induction n with
  | zero => intro i l H T v hn hi; omega
  | succ n ih =>
    intro i l H T v hn hi hl hlo hr hv h0 h5 h6
    have hr' := hr
    unfold Rd at hr'
    have go : ∀ (i' : Nat) (l' : List Int) (H1 : IH) (v' : Value), i < i' → i' ≤ s.size → l'.length ≤ i' → Fr lo H H1 → BsAt J 5 H1 v' l' lo →
        (∃ T1, run J okAll (.loop L46_0) T H = run J okAll (.loop L46_0) T1 H1 ∧ T1.at 0 = .pointer (some ⟨b, 0, none⟩) ∧ T1.at 5 = v' ∧ T1.at 6 = .int .i64 (i' : Int)) → txtF s (n + 1) i l = txtF s n i' l' →
        ∃ T' H', Fr lo H H' ∧ ((run J okAll (.loop L46_0) T H = some (.exit 0, T', H') ∧ txtF s (n + 1) i l = none) ∨
          (run J okAll (.loop L46_0) T H = some (.ret, T', H') ∧ ((txtF s (n + 1) i l = none ∧ T'.at 2 = .string ⟨#[]⟩ ∧ T'.at 3 = .int .i64 0 ∧ T'.at 4 = .bool false) ∨
            ∃ r e, txtF s (n + 1) i l = some (r, e) ∧ e ≤ s.size ∧ T'.at 2 = .string (strOf r) ∧ T'.at 3 = .int .i64 (e : Int) ∧ T'.at 4 = .bool true))) := by
      intro i' l' H1 v' g1 g2 g3 g4 g5 ⟨T1, e1, e2, e3, e4⟩ g6
      obtain ⟨T', H', f1, f2⟩ := ih i' l' H1 T1 v' (by omega) g2 g3 (Nat.le_trans hlo g4.1) (by unfold Rd; rw [g4.2 b hb]; exact hr) g5 e2 e3 e4
      refine ⟨T', H', g4.trans f1, ?_⟩
      rw [e1, g6]
      exact f2
    have w1 : IntKind.i64.wrap ((i : Int) + 1) = (i : Int) + 1 := wrap64 _ (by omega) (by omega)
    by_cases hlt : i < s.size
    · have i0 := idxS_bt s i hlt
      cases ha : decide (bt s i = 34) with
      | true =>
        have hc := conv_bytes bt40 hv (d := 9) (by simp)
        have : ∃ T1, run J okAll (.loop L46_0) T H = some (.ret, T1, H) ∧ T1.at 2 = .string (strOf l) ∧ T1.at 3 = .int .i64 ((i : Int) + 1) ∧ T1.at 4 = .bool true := by
          rw [r_loop]
          simp [L46_0, h0, h5, h6, hr', hlt, i0, of_decide_eq_true ha, hc, w1]
        obtain ⟨T1, e1, e2, e3, e4⟩ := this
        exact ⟨T1, H, Fr.refl _ _, .inr ⟨e1, .inr ⟨l, i + 1, by simp [txtF, hlt, of_decide_eq_true ha], hlt, e2, by rw [e3]; simp, e4⟩⟩⟩
      | false =>
        have ha' := of_decide_eq_false ha
        cases hc : decide (bt s i < 32) with
        | true =>
          have hc' := of_decide_eq_true hc
          have : ∃ T1, run J okAll (.loop L46_0) T H = some (.ret, T1, H) ∧ T1.at 2 = .string ⟨#[]⟩ ∧ T1.at 3 = .int .i64 0 ∧ T1.at 4 = .bool false := by
            rw [r_loop]
            simp [L46_0, h0, h5, h6, hr', hlt, i0, ha, hc, w1]
          obtain ⟨T1, e1, e2, e3, e4⟩ := this
          exact ⟨T1, H, Fr.refl _ _, .inr ⟨e1, .inl ⟨by simp [txtF, hlt, ha', hc'], e2, e3, e4⟩⟩⟩
        | false =>
          have hc' := of_decide_eq_false hc
          cases hd : decide (bt s i = 92) with
          | false =>
            have hd' := of_decide_eq_false hd
            obtain ⟨v', H', a1, a2, a3, a4⟩ := app1 bt40 hv hlo (by omega) (bt s i)
            have b1 := build1 bt40 H (bt s i)
            refine go (i + 1) (l ++ [bt s i]) H' v' (by omega) (by omega) (by simp; omega) ⟨a3, a4⟩ a2 ?_ (by simp [txtF, hlt, ha', hc', hd'])
            rw [r_loop]
            simp [L46_0, h0, h5, h6, hr', hlt, i0, ha, hc, hd, w1, iparts, b1, a1]
            exact ⟨_, rfl, by simp [h0], by simp, by simp⟩
          | true =>
            have hd' := of_decide_eq_true hd
            have sl : sliceS s (some (i + 1)) (some s.size) = some (.string (s.extract (i + 1) s.size)) := sliceS_some s _ _ (by omega) (by omega)
            have e9 := c59 (s.extract (i + 1) s.size) H
            by_cases hz : (escF (s.extract (i + 1) s.size)).2 = 0
            · have : ∃ T1, run J okAll (.loop L46_0) T H = some (.ret, T1, H) ∧ T1.at 2 = .string ⟨#[]⟩ ∧ T1.at 3 = .int .i64 0 ∧ T1.at 4 = .bool false := by
                rw [r_loop]
                simp [L46_0, h0, h5, h6, hr', hlt, i0, hd', w1, sl, e9, hz]
              obtain ⟨T1, e1, e2, e3, e4⟩ := this
              exact ⟨T1, H, Fr.refl _ _, .inr ⟨e1, .inl ⟨by simp [txtF, hlt, hd', hz], e2, e3, e4⟩⟩⟩
            · have hsz : (s.extract (i + 1) s.size).size = s.size - (i + 1) := by simp
              have hk : ∃ k : Nat, (escF (s.extract (i + 1) s.size)).2 = k ∧ 1 ≤ k ∧ i + k + 1 ≤ s.size := by
                rcases escF_size (s.extract (i + 1) s.size) with h | ⟨h, h'⟩ | ⟨h, h'⟩
                · exact absurd h hz
                · exact ⟨1, h, by omega, by omega⟩
                · exact ⟨3, h, by omega, by omega⟩
              obtain ⟨k, k1, k2, k3⟩ := hk
              obtain ⟨v', H', a1, a2, a3, a4⟩ := app1 bt40 hv hlo (by omega) (escF (s.extract (i + 1) s.size)).1
              have b1 := build1 bt40 H (escF (s.extract (i + 1) s.size)).1
              have w2 : IntKind.i64.wrap ((i : Int) + k) = (i : Int) + k := wrap64 _ (by omega) (by omega)
              have w3 : IntKind.i64.wrap ((i : Int) + k + 1) = (i : Int) + k + 1 := wrap64 _ (by omega) (by omega)
              have kne : ¬ k = 0 := by omega
              refine go (i + k + 1) (l ++ [(escF (s.extract (i + 1) s.size)).1]) H' v' (by omega) k3 (by simp; omega) ⟨a3, a4⟩ a2 ?_ (by simp [txtF, hlt, hd', k1, kne])
              rw [r_loop]
              simp [L46_0, h0, h5, h6, hr', hlt, i0, hd', w1, w2, w3, sl, e9, k1, kne, iparts, b1, a1]
              exact ⟨_, rfl, by simp [h0], by simp, by simp⟩
    · have hS : txtF s (n + 1) i l = none := by simp [txtF, hlt]
      have : ∃ T1, run J okAll (.loop L46_0) T H = some (.exit 0, T1, H) := by
        rw [r_loop]
        simp [L46_0, h0, h5, h6, hr', hlt]
      obtain ⟨T1, e1⟩ := this
      exact ⟨T1, H, Fr.refl _ _, .inl ⟨e1, hS⟩⟩
end Go.Proofs.YtjbcjcibnjbpcaaDoor.Idl
namespace Go.Proofs.YtjbcjcibnjbpcaaDoor.Idl
open Go
set_option maxHeartbeats 4000000
set_option linter.unusedSimpArgs false
/-- What text answers. -/
def txtV : Option (List Int × Nat) → Value
  | none => .tuple #[.string ⟨#[]⟩, .int .i64 0, .bool false]
  | some (r, e) => .tuple #[.string (strOf r), .int .i64 (e : Int), .bool true]
theorem c46 (H : IH) (b : Nat) (s : ByteArray) (p m lo : Nat) (hr : Rd H b s p m) (hs : s.size < 2 ^ 39) (hp : p < s.size) (hb : b < lo) (hlo : lo ≤ H.next) :
    ∃ H', Fr lo H H' ∧ cal J okAll 46 #[.pointer (some ⟨b, 0, none⟩)] H = some (.ret (txtV (txtF s (s.size + 1) (p + 1) [])), H') ∧ (∀ r e, txtF s (s.size + 1) (p + 1) [] = some (r, e) → e ≤ s.size) := by
  have hr' := hr
  unfold Rd at hr'
  have w1 : IntKind.i64.wrap ((p : Int) + 1) = (p : Int) + 1 := wrap64 _ (by omega) (by omega)
  have key := fun T => loop46 b s p m lo hs hb (s.size + 1) (p + 1) [] H T (.slice none 0 0) (by omega) (by omega) (by simp) hlo hr (.inl ⟨rfl, rfl⟩)
  rw [cal46 _ _ (by simp)]
  simp [C46, R46, regsOf, hr', w1]
  generalize hX : run J okAll (.loop L46_0) _ H = X
  obtain ⟨T1, e1, f0, f5, f6⟩ : ∃ T1, run J okAll (.loop L46_0) T1 H = X ∧ T1.at 0 = .pointer (some ⟨b, 0, none⟩) ∧ T1.at 5 = .slice none 0 0 ∧ T1.at 6 = .int .i64 ((p + 1 : Nat) : Int) := ⟨_, hX, by simp, by simp, by simp⟩
  obtain ⟨T', H', g1, g2⟩ := key T1 f0 f5 f6
  refine ⟨H', g1, ?_⟩
  rcases g2 with ⟨g2, g3⟩ | ⟨g2, ⟨g3, g4, g5, g6⟩ | ⟨r, e, g3, g4, g5, g6, g7⟩⟩
  · rw [← e1, g2]; simp [g3, txtV, fin, iresult1]
  · rw [← e1, g2]; simp [g3, g4, g5, g6, txtV, fin, iresult1]
  · rw [← e1, g2]; simp [g3, g4, g5, g6, g7, txtV, fin, iresult1]
end Go.Proofs.YtjbcjcibnjbpcaaDoor.Idl
namespace Go.Proofs.YtjbcjcibnjbpcaaDoor.Idl
open Go
set_option maxHeartbeats 4000000
set_option linter.unusedSimpArgs false
theorem iop_mkIface (J : Env) (T : Regs) (H : IH) (dst : Option Tmp) (type : TypeId) (pos : String) (after : Array Edge) (guard : Option (Nat × Bool)) (t : TypeId) (x : Operand) (k : IntKind) (h : J.und t = some (.int k)) :
    iop J ⟨dst, .makeInterface t x, type, pos, after, guard⟩ T H = some (.val (.iface t (iev T x)) H) := by
  simp [iop, h]
@[simp] theorem mk98 (T : Regs) (H : IH) (dst : Option Tmp) (type : TypeId) (pos : String) (after : Array Edge) (guard : Option (Nat × Bool)) (x : Operand) :
    iop J ⟨dst, .makeInterface 98 x, type, pos, after, guard⟩ T H = some (.val (.iface 98 (iev T x)) H) := iop_mkIface J T H dst type pos after guard 98 x .i64 (by simp)
/-- The number of digits, if it has at most 64 bits. -/
def numF (s : ByteArray) : Nat → Nat → Int → Option Int
  | 0, _, _ => none
  | k + 1, i, n => if i < s.size then
      if 18446744073709551616 ≤ 10 * n + (bt s i - 48) then none else numF s k (i + 1) (10 * n + (bt s i - 48))
    else some n
theorem bytesCells_get (s : ByteArray) (i : Nat) (h : i < s.size) : (bytesCells s)[i]? = some (.int .u8 (bt s i)) := by
  have : s.data.toList[i]? = some s[i] := by
    rw [List.getElem?_eq_getElem (by simpa using h)]; rfl
  simp [bytesCells, bt, this]
theorem wrapu (n : Int) (h1 : 0 ≤ n) (h2 : n < 18446744073709551616) : IntKind.u64.wrap n = n := by
  simp [IntKind.wrap, IntKind.bits, IntKind.signed]
  omega
theorem wrapu2 (n : Int) (h1 : 18446744073709551616 ≤ n) (h2 : n < 36893488147419103232) : IntKind.u64.wrap n = n - 18446744073709551616 := by
  simp [IntKind.wrap, IntKind.bits, IntKind.signed]
  omega
theorem loop68 (H : IH) (b : Nat) (s : ByteArray) (pr : Bool) (hH : H.get b = some (.cells (bytesCells s) 5 pr)) (hs : s.size < 2 ^ 62) (hd : ∀ j, j < s.size → digitB (bt s j) = true) : ∀ (k i : Nat) (n : Int) (T : Regs), s.size < k + i → i ≤ s.size → 0 ≤ n → n < 18446744073709551616 →
    T.at 99 = .slice (some ⟨b, 0, none⟩) s.size capU → T.at 100 = .int .i64 (s.size : Int) → T.at 101 = .int .i64 (i : Int) → T.at 13 = .int .u64 n → T.at 10 = .int .u64 1844674407370955162 → T.at 11 = .int .u64 18446744073709551615 →
    T.at 1 = .int .i64 10 → T.at 8 = .bool false → T.at 12 = .bool false →
    (∃ T' r, run J okAll (.loop L68_0) T H = some (.exit 3, T', H) ∧ numF s k i n = some r ∧ 0 ≤ r ∧ r < 18446744073709551616 ∧ T'.at 13 = .int .u64 r ∧ T'.at 12 = .bool false) ∨
    ∃ T', run J okAll (.loop L68_0) T H = some (.ret, T', H) ∧ numF s k i n = none ∧ T'.at 6 = .int .u64 18446744073709551615 ∧ T'.at 7 = .iface 98 (.int .i64 1) := by
  intro k
  induction k with
  | zero => intro i n T hn hi; omega
  | succ k ih =>
    intro i n T hn hi hn0 hn1 t99 t100 t101 t13 t10 t11 t1 t8 t12
    by_cases hlt : i < s.size
    · have hdi := hd i hlt
      have rg := digit_range hdi
      have bc := bytesCells_get s i hlt
      have z0 : IntKind.u8.wrap (bt s i - 48) = bt s i - 48 := wrap8 _ (by omega) (by omega)
      have z0' : IntKind.u64.wrap (bt s i - 48) = bt s i - 48 := wrapu _ (by omega) (by omega)
      have z10 : IntKind.u8.wrap 10 = 10 := rfl
      have u10 : IntKind.u64.wrap 10 = 10 := rfl
      have w1 : IntKind.i64.wrap ((i : Int) + 1) = (i : Int) + 1 := wrap64 _ (by omega) (by omega)
      have n95 : ¬ bt s i = 95 := by omega
      have g48 : 48 ≤ bt s i := rg.1
      have l57 : bt s i ≤ 57 := rg.2
      have l10 : ¬ (10 ≤ bt s i - 48) := by omega
      by_cases hc : 1844674407370955162 ≤ n
      · right
        have hF : numF s (k + 1) i n = none := by
          have : 18446744073709551616 ≤ 10 * n + (bt s i - 48) := by omega
          simp [numF, hlt, this]
        have : ∃ T', run J okAll (.loop L68_0) T H = some (.ret, T', H) ∧ T'.at 6 = .int .u64 18446744073709551615 ∧ T'.at 7 = .iface 98 (.int .i64 1) := by
          rw [r_loop]
          simp [L68_0, t99, t100, t101, t13, t10, t11, t1, t8, t12, hlt, iindexAddr, hH, bc, n95, g48, l57, z0, z0', z10, l10, hc]
        obtain ⟨T', e1, e2, e3⟩ := this
        exact ⟨T', e1, hF, e2, e3⟩
      · have u1 : IntKind.u64.wrap (n * 10) = n * 10 := wrapu _ (by omega) (by omega)
        by_cases hb : 18446744073709551616 ≤ 10 * n + (bt s i - 48)
        · right
          have hF : numF s (k + 1) i n = none := by simp [numF, hlt, hb]
          have u2 : IntKind.u64.wrap (n * 10 + (bt s i - 48)) = n * 10 + (bt s i - 48) - 18446744073709551616 := wrapu2 _ (by omega) (by omega)
          have l2 : n * 10 + (bt s i - 48) - 18446744073709551616 < n * 10 := by omega
          have : ∃ T', run J okAll (.loop L68_0) T H = some (.ret, T', H) ∧ T'.at 6 = .int .u64 18446744073709551615 ∧ T'.at 7 = .iface 98 (.int .i64 1) := by
            rw [r_loop]
            simp [L68_0, t99, t100, t101, t13, t10, t11, t1, t8, t12, hlt, iindexAddr, hH, bc, n95, g48, l57, z0, z0', z10, u10, l10, hc, u1, u2, l2]
          obtain ⟨T', e1, e2, e3⟩ := this
          exact ⟨T', e1, hF, e2, e3⟩
        · have hF : numF s (k + 1) i n = numF s k (i + 1) (10 * n + (bt s i - 48)) := by simp [numF, hlt, hb]
          have u2 : IntKind.u64.wrap (n * 10 + (bt s i - 48)) = n * 10 + (bt s i - 48) := wrapu _ (by omega) (by omega)
          have l2 : ¬ (n * 10 + (bt s i - 48) < n * 10) := by omega
          have l3 : ¬ (18446744073709551615 < n * 10 + (bt s i - 48)) := by omega
          have e10 : n * 10 + (bt s i - 48) = 10 * n + (bt s i - 48) := by omega
          have : ∃ T1, run J okAll (.loop L68_0) T H = run J okAll (.loop L68_0) T1 H ∧ T1.at 99 = .slice (some ⟨b, 0, none⟩) s.size capU ∧ T1.at 100 = .int .i64 (s.size : Int) ∧ T1.at 101 = .int .i64 ((i : Int) + 1) ∧ T1.at 13 = .int .u64 (n * 10 + (bt s i - 48)) ∧
              T1.at 10 = .int .u64 1844674407370955162 ∧ T1.at 11 = .int .u64 18446744073709551615 ∧ T1.at 1 = .int .i64 10 ∧ T1.at 8 = .bool false ∧ T1.at 12 = .bool false := by
            rw [r_loop]
            simp [L68_0, t99, t100, t101, t13, t10, t11, t1, t8, t12, hlt, iindexAddr, hH, bc, n95, g48, l57, z0, z0', z10, u10, l10, hc, u1, u2, l2, l3, w1]
            exact ⟨_, rfl, by simp [t99], by simp [t100], by simp, by simp, by simp [t10], by simp [t11], by simp [t1], by simp [t8], by simp [t12]⟩
          obtain ⟨T1, e0, e1, e2, e3, e4, e5, e6, e7, e8, e9⟩ := this
          rw [e0, hF]
          exact ih (i + 1) _ T1 (by omega) (by omega) (by omega) (by omega) e1 e2 (by rw [e3]; simp) (by rw [e4, e10]) e5 e6 e7 e8 e9
    · left
      have hF : numF s (k + 1) i n = some n := by simp [numF, hlt]
      have : ∃ T', run J okAll (.loop L68_0) T H = some (.exit 3, T', H) ∧ T'.at 13 = .int .u64 n ∧ T'.at 12 = .bool false := by
        rw [r_loop]
        have hlt' : ¬ ((i : Int) < s.size) := by omega
        simp [L68_0, t99, t100, t101, t13, t12, hlt']
      obtain ⟨T', e1, e2, e3⟩ := this
      exact ⟨T', n, e1, hF, hn0, hn1, e2, e3⟩
end Go.Proofs.YtjbcjcibnjbpcaaDoor.Idl
namespace Go.Proofs.YtjbcjcibnjbpcaaDoor.Idl
open Go
set_option maxHeartbeats 4000000
set_option linter.unusedSimpArgs false
theorem bytesCells_length (s : ByteArray) : (bytesCells s).length = s.size := by simp [bytesCells]
@[simp] theorem iconvert_str (s : ByteArray) (H : IH) : iconvert J 9 40 (.string s) H = some (.slice (some ⟨H.next, 0, none⟩) s.size capU, H.push (.cells (bytesCells s) 5 false)) := by
  simp [iconvert]
def uintV : Option Int → Value
  | some r => .tuple #[.int .u64 r, .nilIface]
  | none => .tuple #[.int .u64 18446744073709551615, .iface 98 (.int .i64 1)]
theorem c68 (H : IH) (s : ByteArray) (h0 : 0 < s.size) (hs : s.size < 2 ^ 62) (hd : ∀ j, j < s.size → digitB (bt s j) = true) :
    cal J okAll 68 #[.string s, .int .i64 10, .int .i64 64] H = some (.ret (uintV (numF s (s.size + 1) 0 0)), H.push (.cells (bytesCells s) 5 false)) := by
  have hne : ¬ s.size = 0 := by omega
  have key := fun T => loop68 (H.push (.cells (bytesCells s) 5 false)) H.next s false (by simp) hs hd (s.size + 1) 0 0 T (by omega) (by omega) (by omega) (by omega)
  have a1 : IntKind.u64.wrap 18446744073709551616 = 0 := rfl
  have a2 : IntKind.u64.wrap (-1) = 18446744073709551615 := rfl
  have a3 : IntKind.u64.wrap 64 = 64 := rfl
  rw [cal68 _ _ (by simp)]
  simp [C68, R68, regsOf, empty_size, hne, a1, a2, a3, IntKind.bits]
  generalize hX : run J okAll (.loop L68_0) _ _ = X
  obtain ⟨T1, e0, t99, t100, t101, t13, t10, t11, t1, t8, t12⟩ : ∃ T1, run J okAll (.loop L68_0) T1 (H.push (.cells (bytesCells s) 5 false)) = X ∧ T1.at 99 = .slice (some ⟨H.next, 0, none⟩) s.size capU ∧ T1.at 100 = .int .i64 (s.size : Int) ∧ T1.at 101 = .int .i64 ((0 : Nat) : Int) ∧ T1.at 13 = .int .u64 0 ∧
      T1.at 10 = .int .u64 1844674407370955162 ∧ T1.at 11 = .int .u64 18446744073709551615 ∧ T1.at 1 = .int .i64 10 ∧ T1.at 8 = .bool false ∧ T1.at 12 = .bool false :=
    ⟨_, hX, by simp, by simp, by simp, by simp, by simp, by simp, by simp, by simp, by simp⟩
  rcases key T1 t99 t100 t101 t13 t10 t11 t1 t8 t12 with ⟨T', r, h1, h2, h3, h4, h5, h6⟩ | ⟨T', h1, h2, h3, h4⟩
  · rw [← e0, h1]; simp [h2, h5, h6, uintV, fin, iresult1]
  · rw [← e0, h1]; simp [h2, h3, h4, uintV, fin, iresult1]
end Go.Proofs.YtjbcjcibnjbpcaaDoor.Idl
namespace Go.Proofs.YtjbcjcibnjbpcaaDoor.Idl
open Go
set_option maxHeartbeats 4000000
set_option linter.unusedSimpArgs false
@[simp] theorem bn1 (x : Operand) (v : Value) (H : IH) : binR J .neq 55 x (.const v) .nilIface .nilIface H = some (.val (.bool false) H) := binR_pure J H rfl rfl (by cases x <;> rfl) (by kernel_rfl) rfl
@[simp] theorem be1 (x : Operand) (v : Value) (H : IH) : binR J .eql 55 x (.const v) .nilIface .nilIface H = some (.val (.bool true) H) := binR_pure J H rfl rfl (by cases x <;> rfl) (by kernel_rfl) rfl
@[simp] theorem bn2 (x y : Operand) (H : IH) : binR J .neq 55 x y (.iface 98 (.int .i64 1)) (.iface 98 (.int .i64 1)) H = some (.val (.bool false) H) := binR_pure J H rfl rfl rfl (by kernel_rfl) rfl
@[simp] theorem bn3 (x y : Operand) (u : TypeId) (v : Value) (H : IH) : binR J .neq 55 x y (.iface u v) .nilIface H = some (.val (.bool true) H) := by
  rw [bin_nil_neq J H 55 x y _ _ false rfl (by simp [fitsNil])]; rfl
@[simp] theorem be3 (x y : Operand) (u : TypeId) (v : Value) (H : IH) : binR J .eql 55 x y (.iface u v) .nilIface H = some (.val (.bool false) H) := by
  rw [bin_nil_eql J H 55 x y _ _ false rfl (by simp [fitsNil])]
def intV : Option Int → Value
  | some r => if r < 9223372036854775808 then .tuple #[.int .i64 r, .nilIface] else .tuple #[.int .i64 9223372036854775807, .iface 98 (.int .i64 1)]
  | none => .tuple #[.int .i64 9223372036854775807, .iface 98 (.int .i64 1)]
theorem numF_range (s : ByteArray) (hd : ∀ j, j < s.size → digitB (bt s j) = true) : ∀ (k i : Nat) (n r : Int), 0 ≤ n → n < 18446744073709551616 → numF s k i n = some r → 0 ≤ r ∧ r < 18446744073709551616 := by
  intro k
  induction k with
  | zero => intro i n r _ _ h; simp [numF] at h
  | succ k ih =>
    intro i n r h0 h1 h
    simp only [numF] at h
    split at h
    · rename_i hlt
      have := digit_range (hd i hlt)
      split at h
      · simp at h
      · exact ih _ _ _ (by omega) (by omega) h
    · simp at h; omega
theorem c57 (H : IH) (s : ByteArray) (h0 : 0 < s.size) (hs : s.size < 2 ^ 62) (hd : ∀ j, j < s.size → digitB (bt s j) = true) :
    cal J okAll 57 #[.string s, .int .i64 10, .int .i64 64] H = some (.ret (intV (numF s (s.size + 1) 0 0)), H.push (.cells (bytesCells s) 5 false)) := by
  have hne : ¬ s.size = 0 := by omega
  have rg := digit_range (hd 0 h0)
  have i0 : idxS s 0 = some (.int .u8 (bt s 0)) := idxS_bt s 0 h0
  have n43 : ¬ bt s 0 = 43 := by omega
  have n45 : ¬ bt s 0 = 45 := by omega
  have k := c68 H s h0 hs hd
  have a1 : IntKind.i64.wrap 63 = 63 := rfl
  have a2 : IntKind.u64.wrap 63 = 63 := rfl
  have a3 : IntKind.u64.wrap 9223372036854775808 = 9223372036854775808 := rfl
  have a4 : IntKind.u64.wrap 9223372036854775807 = 9223372036854775807 := rfl
  have a5 : IntKind.i64.wrap 9223372036854775807 = 9223372036854775807 := rfl
  rw [cal57 _ _ (by simp)]
  cases hn : numF s (s.size + 1) 0 0 with
  | none =>
    rw [hn] at k
    simp [C57, R57, regsOf, fin, iresult1, empty_size, hne, i0, n43, n45, k, uintV, intV, a1, a2, a3, a4, a5, IntKind.bits]
  | some r =>
    rw [hn] at k
    have rr := numF_range s hd _ _ _ _ (by omega) (by omega) hn
    by_cases hb : r < 9223372036854775808
    · have w : IntKind.i64.wrap r = r := wrap64 _ (by omega) (by omega)
      have hb' : ¬ (9223372036854775808 ≤ r) := by omega
      simp [C57, R57, regsOf, fin, iresult1, empty_size, hne, i0, n43, n45, k, uintV, intV, a1, a2, a3, a4, a5, IntKind.bits, hb, hb', w]
    · have hb' : (9223372036854775808 ≤ r) := by omega
      simp [C57, R57, regsOf, fin, iresult1, empty_size, hne, i0, n43, n45, k, uintV, intV, a1, a2, a3, a4, a5, IntKind.bits, hb, hb']
end Go.Proofs.YtjbcjcibnjbpcaaDoor.Idl
namespace Go.Proofs.YtjbcjcibnjbpcaaDoor.Idl
open Go
set_option maxHeartbeats 4000000
set_option linter.unusedSimpArgs false
theorem c45_ok (H : IH) (s : ByteArray) (r : Int) (h0 : 0 < s.size) (hs : s.size < 2 ^ 62) (hd : ∀ j, j < s.size → digitB (bt s j) = true) (hn : numF s (s.size + 1) 0 0 = some r) (hr : r < 9223372036854775808) :
    cal J okAll 45 #[.string s, .int .i64 10, .int .i64 64] H = some (.ret (.tuple #[.int .i64 r, .nilIface]), H.push (.cells (bytesCells s) 5 false)) := by
  have k := c57 H s h0 hs hd
  rw [hn] at k
  rw [cal45 _ _ (by simp)]
  simp [C45, R45, regsOf, fin, iresult1, k, intV, hr]
/-- A token as Lex makes it. -/
def tokV (kind : Int) (p : Nat) (text : ByteArray) (n : Int) : Value := .agg #[.int .i64 kind, .int .i64 (p : Int), .string text, .int .i64 n]
def txtTok (p : Nat) : Option (List Int × Nat) → Value
  | none => .tuple #[tokV 2 p ⟨#[]⟩ 0, .int .i64 0, .bool false]
  | some (l, e) => .tuple #[tokV 2 p (strOf l) 0, .int .i64 (e : Int), .bool true]
@[simp] theorem ld31 (H : IH) (a : Addr) : loadT J 31 H a (some true) = (icells H a 4).map fun cs => .agg cs.toArray := loadT_agg J H 31 4 a (by simp)
theorem Fr.set {lo x : Nat} {H H' : IH} (h : Fr lo H H') (hx : lo ≤ x) (y : Blk) : Fr lo H (H'.set x y) := ⟨h.1, fun z hz => by rw [IH.get_set_other _ _ _ _ (by omega)]; exact h.2 z hz⟩
theorem bl31 (x : Int) : ibuild J 31 [(1, .int .i64 x)] = some (.agg #[.int .i64 0, .int .i64 x, .string ⟨#[]⟩, .int .i64 0]) := by kernel_rfl
theorem c22_text (H : IH) (b : Nat) (s : ByteArray) (p m lo : Nat) (hr : Rd H b s p m) (hs : s.size < 2 ^ 39) (hp : p < s.size) (hb : b < lo) (hlo : lo ≤ H.next) (hq : bt s p = 34) :
    ∃ H', Fr lo H H' ∧ cal J okAll 22 #[.pointer (some ⟨b, 0, none⟩)] H = some (.ret (txtTok p (txtF s (s.size + 1) (p + 1) [])), H') := by
  have hr' := hr
  unfold Rd at hr'
  have i0 := idxS_bt s p hp
  have hb1 : ¬ b = H.next := by omega
  have hb2 : ¬ b = H.next + 1 := by omega
  have hdg : digitB 34 = false := rfl
  obtain ⟨H', f, e, hle⟩ := c46 (((H.push (.cells [.int .i64 0, .int .i64 0, .string ⟨#[]⟩, .int .i64 0] 31 false)).push (.cells [.int .i64 0, .int .i64 0, .string ⟨#[]⟩, .int .i64 0] 31 false)).set (H.next + 1) (.cells [.int .i64 0, .int .i64 (p : Int), .string ⟨#[]⟩, .int .i64 0] 31 false))
    b s p m (H.next + 2) (by simp [Rd, IH.get_set, IH.get_push, hr', hb1, hb2]) hs hp (by omega) (by simp)
  have g0 : H'.get H.next = some (.cells [.int .i64 0, .int .i64 0, .string ⟨#[]⟩, .int .i64 0] 31 false) := by rw [f.2 _ (by omega)]; simp [IH.get_set, IH.get_push]
  have g1 : H'.get (H.next + 1) = some (.cells [.int .i64 0, .int .i64 (p : Int), .string ⟨#[]⟩, .int .i64 0] 31 false) := by rw [f.2 _ (by omega)]; simp [IH.get_set, IH.get_push]
  have hfr : Fr lo H H' := ⟨by have := f.1; simp at this; omega, fun x hx => by
    rw [f.2 x (by omega), IH.get_set_other _ _ _ _ (by omega), IH.get_push_other _ _ _ (by simp; omega), IH.get_push_other _ _ _ (by omega)]⟩
  rw [cal22 _ _ (by simp)]
  cases ht : txtF s (s.size + 1) (p + 1) [] with
  | none =>
    rw [ht] at e
    simp [txtV] at e
    simp [C22, R22, regsOf, hr', IH.get_push, IH.get_set, hb1, hb2, i0, hq, hdg, istore, Value.cells, plain1, overlay, iparts, bl31, inew, e, g0, g1, fin, iresult1, txtTok, tokV]
    exact (hfr.set (by omega) _).set (by omega) _
  | some r =>
    obtain ⟨l, k⟩ := r
    rw [ht] at e
    simp [txtV] at e
    simp [C22, R22, regsOf, hr', IH.get_push, IH.get_set, hb1, hb2, i0, hq, hdg, istore, Value.cells, plain1, overlay, iparts, bl31, inew, e, g0, g1, fin, iresult1, txtTok, tokV]
    exact (hfr.set (by omega) _).set (by omega) _
end Go.Proofs.YtjbcjcibnjbpcaaDoor.Idl
namespace Go.Proofs.YtjbcjcibnjbpcaaDoor.Idl
open Go
set_option maxHeartbeats 8000000
set_option linter.unusedSimpArgs false
theorem span_range (q : Int → Bool) (s : ByteArray) (i : Nat) (h : i ≤ s.size) : i ≤ span q s i ∧ span q s i ≤ s.size := by
  unfold span
  have h1 := List.takeWhile_prefix (l := s.data.toList.drop i) (fun c => q c.toNat)
  have h2 := h1.length_le
  rw [List.length_drop] at h2
  have : s.data.toList.length = s.size := by simp
  omega
theorem Fr.push {lo : Nat} {H H' : IH} (h : Fr lo H H') (hx : lo ≤ H'.next) (y : Blk) : Fr lo H (H'.push y) := ⟨by have := h.1; simp; omega, fun z hz => by rw [IH.get_push_other _ _ _ (by omega)]; exact h.2 z hz⟩
theorem c22_var (H : IH) (b : Nat) (s : ByteArray) (p m lo : Nat) (hr : Rd H b s p m) (hs : s.size < 2 ^ 39) (hp : p < s.size) (hb : b < lo) (hlo : lo ≤ H.next) (hq : bt s p = 39) :
    ∃ H', Fr lo H H' ∧ cal J okAll 22 #[.pointer (some ⟨b, 0, none⟩)] H = some (.ret (.tuple #[tokV 5 p (s.extract p (span letterB s (p + 1))) 0, .int .i64 (span letterB s (p + 1) : Nat), .bool (decide (p + 1 < span letterB s (p + 1)))]), H') := by
  have hr' := hr
  unfold Rd at hr'
  have i0 := idxS_bt s p hp
  have hb1 : ¬ b = H.next := by omega
  have hb2 : ¬ b = H.next + 1 := by omega
  have hb3 : ¬ H.next + 1 = b := by omega
  have hb4 : ¬ H.next = b := by omega
  have hdg : digitB 39 = false := rfl
  have w1 : IntKind.i64.wrap ((p : Int) + 1) = (p : Int) + 1 := wrap64 _ (by omega) (by omega)
  have sr := span_range letterB s (p + 1) (by omega)
  have e := c44 (((H.push (.cells [.int .i64 0, .int .i64 0, .string ⟨#[]⟩, .int .i64 0] 31 false)).push (.cells [.int .i64 0, .int .i64 0, .string ⟨#[]⟩, .int .i64 0] 31 false)).set (H.next + 1) (.cells [.int .i64 0, .int .i64 (p : Int), .string ⟨#[]⟩, .int .i64 0] 31 false))
    b s p m 47 (p + 1) letterB (by simp [Rd, IH.get_set, IH.get_push, hr', hb1, hb2]) (by simp) (by omega) (by omega) (fun c => c47 c _)
  generalize hE : span letterB s (p + 1) = E at *
  simp at e
  have sl : sliceS s (some p) (some E) = some (.string (s.extract p E)) := sliceS_some s _ _ (by omega) (by omega)
  rw [cal22 _ _ (by simp)]
  simp [C22, R22, regsOf, hr', IH.get_push, IH.get_set, hb1, hb2, hb3, hb4, i0, hq, hdg, istore, Value.cells, plain1, overlay, iparts, bl31, inew, e, fin, iresult1, tokV, w1, sl, isEff, oblig, veq]
  refine ⟨?_, by omega⟩
  repeat (refine Fr.set ?_ (by omega) _)
  exact ((Fr.refl lo H).push hlo _).push (by simp; omega) _
end Go.Proofs.YtjbcjcibnjbpcaaDoor.Idl
namespace Go.Proofs.YtjbcjcibnjbpcaaDoor.Idl
open Go
set_option maxHeartbeats 8000000
set_option linter.unusedSimpArgs false
def wmap (L : List (ByteArray × Int)) : List (Value × Value) := L.map fun e => (.string e.1, .int .i64 e.2)
def lookW (t : ByteArray) : List (ByteArray × Int) → Int
  | [] => 0
  | e :: r => if t = e.1 then e.2 else lookW t r
theorem same_string (t u : ByteArray) : Instr.sameNow .string (.string t) (.string u) = some (decide (t = u)) := by
  show some (t == u) = _
  congr 1
  rw [Bool.eq_iff_iff, decide_eq_true_eq]
  exact ⟨ba_eq, fun h => by rw [h]; exact ba_self _⟩
theorem lookup_w (H : IH) (m : Nat) (L : List (ByteArray × Int)) (pr : Bool) (h : H.get m = some (.map (wmap L) pr)) (t : ByteArray) : ilookup J 43 (.map (some m)) (.string t) false H = some (.int .i64 (lookW t L)) := by
  have key : ∀ (L : List (ByteArray × Int)) (i : Nat), (match ifind .string (.string t) (wmap L) i with
      | some (some (_, v)) => some v
      | some none => some (Value.int .i64 0)
      | none => none) = some (.int .i64 (lookW t L)) := by
    intro L
    induction L with
    | nil => intro i; rfl
    | cons e L ih =>
      intro i
      simp only [wmap, List.map_cons, ifind, same_string, lookW]
      by_cases hc : t = e.1
      · simp [hc]
      · simp only [hc, decide_false, if_false]
        exact ih (i + 1)
  have := key L 0
  simp only [ilookup, und43, keyT, und9, imapEs, h, zero3]
  cases hf : ifind .string (.string t) (wmap L) 0 with
  | none => rw [hf] at this; simp at this
  | some r =>
    rw [hf] at this
    cases r with
    | none => simpa using this
    | some q => obtain ⟨i, v⟩ := q; simpa using this
end Go.Proofs.YtjbcjcibnjbpcaaDoor.Idl
namespace Go.Proofs.YtjbcjcibnjbpcaaDoor.Idl
open Go
set_option maxHeartbeats 8000000
set_option linter.unusedSimpArgs false
def kindW (c w : Int) : Int := if w = 1 then 6 else if w = 2 ∨ greatB c = true then 4 else 3
theorem small_not {c : Int} (h : smallB c = true ∨ greatB c = true) : digitB c = false ∧ ¬ c = 34 ∧ ¬ c = 39 := by
  simp only [smallB, greatB, digitB, Bool.and_eq_true, decide_eq_true_eq, Bool.and_eq_false_iff, decide_eq_false_iff_not] at *
  omega
theorem c22_word (H : IH) (b : Nat) (s : ByteArray) (p m lo : Nat) (L : List (ByteArray × Int)) (hr : Rd H b s p m) (hm : H.get m = some (.map (wmap L) false)) (hml : m < lo) (hs : s.size < 2 ^ 39) (hp : p < s.size) (hb : b < lo) (hlo : lo ≤ H.next)
    (hq : smallB (bt s p) = true ∨ greatB (bt s p) = true) :
    ∃ H', Fr lo H H' ∧ cal J okAll 22 #[.pointer (some ⟨b, 0, none⟩)] H = some (.ret (.tuple #[tokV (kindW (bt s p) (lookW (s.extract p (span letterB s p)) L)) p (s.extract p (span letterB s p)) 0, .int .i64 (span letterB s p : Nat), .bool true]), H') := by
  have hr' := hr
  unfold Rd at hr'
  have i0 := idxS_bt s p hp
  have hb1 : ¬ b = H.next := by omega
  have hb2 : ¬ b = H.next + 1 := by omega
  have hm1 : ¬ m = H.next := by omega
  have hm2 : ¬ m = H.next + 1 := by omega
  have hb3 : ¬ H.next + 1 = b := by omega
  have hb4 : ¬ H.next = b := by omega
  obtain ⟨hdg, n34, n39⟩ := small_not hq
  have sr := span_range letterB s p (by omega)
  have e := c44 (((H.push (.cells [.int .i64 0, .int .i64 0, .string ⟨#[]⟩, .int .i64 0] 31 false)).push (.cells [.int .i64 0, .int .i64 0, .string ⟨#[]⟩, .int .i64 0] 31 false)).set (H.next + 1) (.cells [.int .i64 0, .int .i64 (p : Int), .string ⟨#[]⟩, .int .i64 0] 31 false))
    b s p m 47 p letterB (by simp [Rd, IH.get_set, IH.get_push, hr', hb1, hb2]) (by simp) (by omega) (by omega) (fun c => c47 c _)
  generalize hE : span letterB s p = E at *
  try simp at e
  have sl : sliceS s (some p) (some E) = some (.string (s.extract p E)) := sliceS_some s _ _ (by omega) (by omega)
  have lk := lookup_w ((((H.push (.cells [.int .i64 0, .int .i64 0, .string ⟨#[]⟩, .int .i64 0] 31 false)).push (.cells [.int .i64 0, .int .i64 0, .string ⟨#[]⟩, .int .i64 0] 31 false)).set (H.next + 1) (.cells [.int .i64 0, .int .i64 (p : Int), .string (s.extract p E), .int .i64 0] 31 false)))
    m L false (by simp [IH.get_set, IH.get_push, hm1, hm2, hm]) (s.extract p E)
  generalize hW : lookW (s.extract p E) L = W at *
  have fin' : ∀ k : Int, Fr lo H ((((H.push (.cells [.int .i64 0, .int .i64 0, .string ⟨#[]⟩, .int .i64 0] 31 false)).push (.cells [.int .i64 0, .int .i64 0, .string ⟨#[]⟩, .int .i64 0] 31 false)).set (H.next + 1) (.cells [.int .i64 k, .int .i64 (p : Int), .string (s.extract p E), .int .i64 0] 31 false)).set H.next (.cells [.int .i64 k, .int .i64 (p : Int), .string (s.extract p E), .int .i64 0] 31 false)) := fun k => by
    repeat (refine Fr.set ?_ (by omega) _)
    exact ((Fr.refl lo H).push hlo _).push (by simp; omega) _
  rw [cal22 _ _ (by simp)]
  cases hsm : smallB (bt s p) <;> cases hgr : greatB (bt s p) <;> (first | (exfalso; simp [hsm, hgr] at hq; done) | skip) <;> cases w1 : decide (W = 1) <;> cases w2 : decide (W = 2) <;>
    (refine ⟨_, fin' (kindW (bt s p) W), ?_⟩
     have w1' := w1
     have w2' := w2
     simp only [decide_eq_true_eq, decide_eq_false_iff_not] at w1' w2'
     simp [C22, R22, regsOf, hr', IH.get_push, IH.get_set, hb1, hb2, hb3, hb4, hm1, hm2, i0, hdg, n34, n39, hsm, hgr, w1, w2, istore, Value.cells, plain1, overlay, iparts, bl31, inew, e, fin, iresult1, tokV, sl, lk, kindW, w1', w2'])
end Go.Proofs.YtjbcjcibnjbpcaaDoor.Idl
namespace Go.Proofs.YtjbcjcibnjbpcaaDoor.Idl
open Go
set_option maxHeartbeats 8000000
set_option linter.unusedSimpArgs false
theorem span_all (q : Int → Bool) (s : ByteArray) : ∀ (n i : Nat), s.size - i = n → i ≤ s.size → ∀ j, i ≤ j → j < span q s i → q (bt s j) = true := by
  intro n
  induction n with
  | zero => intro i hn hi j h1 h2; rw [span_end q s i (by omega)] at h2; omega
  | succ n ih =>
    intro i hn hi j h1 h2
    have hlt : i < s.size := by omega
    rw [span_step q s i hlt] at h2
    split at h2
    · rename_i hq
      by_cases hij : j = i
      · subst hij; rw [← bt_eq s j hlt]; exact hq
      · exact ih (i + 1) (by omega) (by omega) j (by omega) h2
    · omega
theorem span_lt (q : Int → Bool) (s : ByteArray) (i : Nat) (h : i < s.size) (hq : q (bt s i) = true) : i < span q s i := by
  rw [span_step q s i h, bt_eq s i h, if_pos hq]
  have := (span_range q s (i + 1) (by omega)).1
  omega
theorem bt_extract (s : ByteArray) (a c j : Nat) (h : a + j < c) (hc : c ≤ s.size) : bt (s.extract a c) j = bt s (a + j) := by
  rw [← bt_eq (s.extract a c) j (by simp; omega), ← bt_eq s (a + j) (by omega)]
  congr 2
  simp [ByteArray.getElem_extract]
theorem c22_num (H : IH) (b : Nat) (s : ByteArray) (p m lo : Nat) (r : Int) (hr : Rd H b s p m) (hs : s.size < 2 ^ 39) (hp : p < s.size) (hb : b < lo) (hlo : lo ≤ H.next) (hq : digitB (bt s p) = true)
    (hn : numF (s.extract p (span digitB s p)) ((s.extract p (span digitB s p)).size + 1) 0 0 = some r) (hr63 : r < 9223372036854775808) :
    ∃ H', Fr lo H H' ∧ cal J okAll 22 #[.pointer (some ⟨b, 0, none⟩)] H = some (.ret (.tuple #[tokV 1 p ⟨#[]⟩ r, .int .i64 (span digitB s p : Nat), .bool (decide (r < 4611686018427387904))]), H') := by
  have hr' := hr
  unfold Rd at hr'
  have i0 := idxS_bt s p hp
  have hb1 : ¬ b = H.next := by omega
  have hb2 : ¬ b = H.next + 1 := by omega
  have hb3 : ¬ H.next + 1 = b := by omega
  have hb4 : ¬ H.next = b := by omega
  have hb6 : ¬ H.next = H.next + 1 + 1 := by omega
  have hb5 : ¬ b = H.next + 1 + 1 := by omega
  have sr := span_range digitB s p (by omega)
  have sl0 := span_lt digitB s p hp hq
  have sa := span_all digitB s _ p rfl (by omega)
  have e := c44 (((H.push (.cells [.int .i64 0, .int .i64 0, .string ⟨#[]⟩, .int .i64 0] 31 false)).push (.cells [.int .i64 0, .int .i64 0, .string ⟨#[]⟩, .int .i64 0] 31 false)).set (H.next + 1) (.cells [.int .i64 0, .int .i64 (p : Int), .string ⟨#[]⟩, .int .i64 0] 31 false))
    b s p m 43 p digitB (by simp [Rd, IH.get_set, IH.get_push, hr', hb1, hb2]) (by simp) (by omega) (by omega) (fun c => c43 c _)
  generalize hE : span digitB s p = E at *
  have sl : sliceS s (some p) (some E) = some (.string (s.extract p E)) := sliceS_some s _ _ (by omega) (by omega)
  have k := c45_ok (((H.push (.cells [.int .i64 0, .int .i64 0, .string ⟨#[]⟩, .int .i64 0] 31 false)).push (.cells [.int .i64 0, .int .i64 0, .string ⟨#[]⟩, .int .i64 0] 31 false)).set (H.next + 1) (.cells [.int .i64 0, .int .i64 (p : Int), .string ⟨#[]⟩, .int .i64 0] 31 false))
    (s.extract p E) r (by simp; omega) (by simp; omega) (fun j hj => by
      have hj' : j < E - p := by simpa [Nat.min_eq_left sr.2] using hj
      rw [bt_extract s p E j (by omega) sr.2]; exact sa _ (by omega) (by omega)) hn hr63
  rw [cal22 _ _ (by simp)]
  simp [C22, R22, regsOf, hr', IH.get_push, IH.get_set, hb1, hb2, hb3, hb4, hb5, hb6, i0, hq, istore, Value.cells, plain1, overlay, iparts, bl31, inew, e, fin, iresult1, tokV, sl, k]
  repeat (first | refine Fr.set ?_ (by omega) _ | refine Fr.push ?_ (by first | omega | (simp; omega)) _)
  exact Fr.refl lo H
end Go.Proofs.YtjbcjcibnjbpcaaDoor.Idl
namespace Go.Proofs.YtjbcjcibnjbpcaaDoor.Idl
open Go
set_option maxHeartbeats 8000000
set_option linter.unusedSimpArgs false
/-- The first of the signs that stands at a place. -/
def signF (s : ByteArray) (p : Nat) : List ByteArray → Option ByteArray
  | [] => none
  | x :: r => if prefixB (s.extract p s.size) x then some x else signF s p r
theorem prefixB_size (s x : ByteArray) (p : Nat) (hp : p ≤ s.size) (h : prefixB (s.extract p s.size) x = true) : p + x.size ≤ s.size := prefixB_le s x p h hp
/-- The loop over the signs: H holds the reader b, the signs in block g, the token in block k and the answer's cell in block a. -/
theorem loop22 (H : IH) (b : Nat) (s : ByteArray) (p m g k a : Nat) (S : List ByteArray) (cap : Nat) (pr : Bool) (hr : Rd H b s p m) (hs : s.size < 2 ^ 39) (hp : p ≤ s.size)
    (hg : H.get g = some (.cells (S.map Value.string) 9 pr)) (hk : H.get k = some (.cells [.int .i64 0, .int .i64 (p : Int), .string ⟨#[]⟩, .int .i64 0] 31 false)) (ha : H.get a = some (.cells [.int .i64 0, .int .i64 0, .string ⟨#[]⟩, .int .i64 0] 31 false))
    (hkb : k ≠ b) (hka : k ≠ a) (hab : a ≠ b) (hS : S.length < 2 ^ 39) : ∀ (n i : Nat) (T : Regs), S.length - i = n → i ≤ S.length →
    T.at 0 = .pointer (some ⟨b, 0, none⟩) → T.at 2 = .pointer (some ⟨a, 0, none⟩) → T.at 5 = .pointer (some ⟨k, 0, none⟩) → T.at 154 = .slice (some ⟨g, 0, none⟩) S.length cap → T.at 155 = .int .i64 (S.length : Int) → T.at 156 = .int .i64 (i : Int) →
    (∃ T', run J okAll (.loop L22_0) T H = some (.exit 2, T', H) ∧ signF s p (S.drop i) = none ∧ T'.at 2 = .pointer (some ⟨a, 0, none⟩) ∧ T'.at 5 = .pointer (some ⟨k, 0, none⟩)) ∨
    ∃ T' x, run J okAll (.loop L22_0) T H = some (.ret, T', (H.set k (.cells [.int .i64 6, .int .i64 (p : Int), .string x, .int .i64 0] 31 false)).set a (.cells [.int .i64 6, .int .i64 (p : Int), .string x, .int .i64 0] 31 false)) ∧
      signF s p (S.drop i) = some x ∧ T'.at 2 = .pointer (some ⟨a, 0, none⟩) ∧ T'.at 3 = .int .i64 ((p + x.size : Nat) : Int) ∧ T'.at 4 = .bool true := by
  have hr' := hr
  unfold Rd at hr'
  intro n
  induction n with
  | zero =>
    intro i T hn hi t0 t2 t5 t154 t155 t156
    left
    have hlt : ¬ ((i : Int) < S.length) := by omega
    have : S.drop i = [] := List.drop_of_length_le (by omega)
    rw [this]
    have : ∃ T', run J okAll (.loop L22_0) T H = some (.exit 2, T', H) ∧ T'.at 2 = .pointer (some ⟨a, 0, none⟩) ∧ T'.at 5 = .pointer (some ⟨k, 0, none⟩) := by
      rw [r_loop]
      simp [L22_0, t0, t2, t5, t154, t155, t156, hlt]
    obtain ⟨T', e1, e2, e3⟩ := this
    exact ⟨T', e1, rfl, e2, e3⟩
  | succ n ih =>
    intro i T hn hi t0 t2 t5 t154 t155 t156
    have hlt : i < S.length := by omega
    have hgi : (S.map Value.string)[i]? = some (.string S[i]) := by simp [hlt]
    have w1 : IntKind.i64.wrap ((i : Int) + 1) = (i : Int) + 1 := wrap64 _ (by omega) (by omega)
    have h5 := c50 H b s S[i] p m p hr hp
    have hd : S.drop i = S[i] :: S.drop (i + 1) := List.drop_eq_getElem_cons hlt
    rw [hd]
    cases hx : prefixB (s.extract p s.size) S[i] with
    | true =>
      right
      have hle := prefixB_size s S[i] p hp hx
      have w2 : IntKind.i64.wrap ((p : Int) + (S[i].size : Int)) = (p : Int) + S[i].size := wrap64 _ (by omega) (by omega)
      have : ∃ T', run J okAll (.loop L22_0) T H = some (.ret, T', (H.set k (.cells [.int .i64 6, .int .i64 (p : Int), .string S[i], .int .i64 0] 31 false)).set a (.cells [.int .i64 6, .int .i64 (p : Int), .string S[i], .int .i64 0] 31 false)) ∧
          T'.at 2 = .pointer (some ⟨a, 0, none⟩) ∧ T'.at 3 = .int .i64 ((p : Int) + S[i].size) ∧ T'.at 4 = .bool true := by
        rw [r_loop]
        simp [L22_0, t0, t2, t5, t154, t155, t156, hlt, iindexAddr, hg, hgi, hr', h5, hx, w1, w2, IH.get_set, hk, ha, hkb, hka, hab, hkb.symm, hka.symm, hab.symm, istore, Value.cells, plain1, overlay, isEff, oblig, veq]
      obtain ⟨T', e1, e2, e3, e4⟩ := this
      exact ⟨T', S[i], e1, by simp [signF, hx], e2, by rw [e3]; simp, e4⟩
    | false =>
      have : ∃ T1, run J okAll (.loop L22_0) T H = run J okAll (.loop L22_0) T1 H ∧ T1.at 0 = .pointer (some ⟨b, 0, none⟩) ∧ T1.at 2 = .pointer (some ⟨a, 0, none⟩) ∧ T1.at 5 = .pointer (some ⟨k, 0, none⟩) ∧ T1.at 154 = .slice (some ⟨g, 0, none⟩) S.length cap ∧ T1.at 155 = .int .i64 (S.length : Int) ∧ T1.at 156 = .int .i64 ((i : Int) + 1) := by
        rw [r_loop]
        simp [L22_0, t0, t2, t5, t154, t155, t156, hlt, iindexAddr, hg, hgi, hr', h5, hx, w1]
        exact ⟨_, rfl, by simp [t0], by simp [t2], by simp [t5], by simp [t154], by simp [t155], by simp⟩
      obtain ⟨T1, e0, f0, f2, f5, f154, f155, f156⟩ := this
      have hsg : signF s p (S[i] :: S.drop (i + 1)) = signF s p (S.drop (i + 1)) := by simp [signF, hx]
      rw [e0, hsg]
      exact ih (i + 1) T1 (by omega) (by omega) f0 f2 f5 f154 f155 (by rw [f156]; simp)
end Go.Proofs.YtjbcjcibnjbpcaaDoor.Idl
namespace Go.Proofs.YtjbcjcibnjbpcaaDoor.Idl
open Go
set_option maxHeartbeats 8000000
set_option linter.unusedSimpArgs false
def signsB : ByteArray := ⟨#[60, 62, 32, 60, 61, 32, 62, 61, 32, 58, 58, 32, 58, 61, 32, 61, 62, 32, 45, 62, 32, 40, 32, 41, 32, 91, 32, 93, 32, 44, 32, 59, 32, 61, 32, 60, 32, 62, 32, 43, 32, 45, 32, 42, 32, 94, 32, 33, 32, 124, 32, 95, 32, 126]⟩
/-- What strings.Fields answers of the signs (to be proved of function 42), where block 0, strings.asciiSpace, is x. -/
def FieldsOk (x : Blk) (S : List ByteArray) : Prop := ∀ H : IH, 0 < H.next → H.get 0 = some x → ∃ H' g cap pr, Fr H.next H H' ∧ cal J okAll 42 #[.string signsB] H = some (.ret (.slice (some ⟨g, 0, none⟩) S.length cap), H') ∧ H'.get g = some (.cells (S.map Value.string) 9 pr)
def signTok (p : Nat) : Option ByteArray → Value
  | none => .tuple #[tokV 0 p ⟨#[]⟩ 0, .int .i64 0, .bool false]
  | some x => .tuple #[tokV 6 p x 0, .int .i64 ((p + x.size : Nat) : Int), .bool true]
theorem c22_sign (x0 : Blk) (S : List ByteArray) (hF : FieldsOk x0 S) (hS : S.length < 2 ^ 39) (H : IH) (b : Nat) (s : ByteArray) (p m lo : Nat) (hr : Rd H b s p m) (hx0 : H.get 0 = some x0) (hs : s.size < 2 ^ 39) (hp : p < s.size) (hb : b < lo) (hlo : lo ≤ H.next)
    (hd : digitB (bt s p) = false) (hsm : smallB (bt s p) = false) (hgr : greatB (bt s p) = false) (n34 : ¬ bt s p = 34) (n39 : ¬ bt s p = 39) :
    ∃ H', Fr lo H H' ∧ cal J okAll 22 #[.pointer (some ⟨b, 0, none⟩)] H = some (.ret (signTok p (signF s p S)), H') := by
  have hr' := hr
  unfold Rd at hr'
  have i0 := idxS_bt s p hp
  have hb1 : ¬ b = H.next := by omega
  have hb2 : ¬ b = H.next + 1 := by omega
  obtain ⟨H', g, cap, pr, f, e, hg⟩ := hF (((H.push (.cells [.int .i64 0, .int .i64 0, .string ⟨#[]⟩, .int .i64 0] 31 false)).push (.cells [.int .i64 0, .int .i64 0, .string ⟨#[]⟩, .int .i64 0] 31 false)).set (H.next + 1) (.cells [.int .i64 0, .int .i64 (p : Int), .string ⟨#[]⟩, .int .i64 0] 31 false)) (by simp) (by
      have z0 : ¬ 0 = H.next := by omega
      simp [IH.get_set, IH.get_push, z0, hx0])
  have g0 : H'.get H.next = some (.cells [.int .i64 0, .int .i64 0, .string ⟨#[]⟩, .int .i64 0] 31 false) := by rw [f.2 _ (by simp; omega)]; simp [IH.get_set, IH.get_push]
  have g1 : H'.get (H.next + 1) = some (.cells [.int .i64 0, .int .i64 (p : Int), .string ⟨#[]⟩, .int .i64 0] 31 false) := by rw [f.2 _ (by simp)]; simp [IH.get_set, IH.get_push]
  have gb : Rd H' b s p m := by unfold Rd; rw [f.2 _ (by simp; omega)]; simp [IH.get_set, IH.get_push, hr', hb1, hb2]
  have hfr : Fr lo H H' := ⟨by have := f.1; simp at this; omega, fun x hx => by
    rw [f.2 x (by simp; omega), IH.get_set_other _ _ _ _ (by omega), IH.get_push_other _ _ _ (by simp; omega), IH.get_push_other _ _ _ (by omega)]⟩
  have key := fun T => loop22 H' b s p m g (H.next + 1) H.next S cap pr gb hs (by omega) hg g1 g0 (by omega) (by omega) (by omega) hS _ 0 T rfl (by omega)
  unfold signsB at e
  rw [cal22 _ _ (by simp)]
  simp [C22, R22, regsOf, hr', IH.get_push, IH.get_set, hb1, hb2, i0, hd, hsm, hgr, n34, n39, istore, Value.cells, plain1, overlay, iparts, bl31, inew, e]
  generalize hX : run J okAll (.loop L22_0) _ H' = X
  obtain ⟨T1, e1, f0, f2, f5, f154, f155, f156⟩ : ∃ T1, run J okAll (.loop L22_0) T1 H' = X ∧ T1.at 0 = .pointer (some ⟨b, 0, none⟩) ∧ T1.at 2 = .pointer (some ⟨H.next, 0, none⟩) ∧ T1.at 5 = .pointer (some ⟨H.next + 1, 0, none⟩) ∧ T1.at 154 = .slice (some ⟨g, 0, none⟩) S.length cap ∧ T1.at 155 = .int .i64 (S.length : Int) ∧ T1.at 156 = .int .i64 ((0 : Nat) : Int) :=
    ⟨_, hX, by simp, by simp, by simp, by simp, by simp, by simp⟩
  rcases key T1 f0 f2 f5 f154 f155 f156 with ⟨T', h1, h2, h3, h4⟩ | ⟨T', x, h1, h2, h3, h4, h5⟩
  · rw [← e1, h1]
    simp only [List.drop_zero] at h2
    simp [h2, h3, h4, g0, g1, IH.get_set, istore, Value.cells, plain1, overlay, fin, iresult1, signTok, tokV]
    exact hfr.set (by omega) _
  · rw [← e1, h1]
    simp only [List.drop_zero] at h2
    simp [h2, h3, h4, h5, g0, g1, IH.get_set, fin, iresult1, signTok, tokV]
    exact (hfr.set (by omega) _).set (by omega) _
end Go.Proofs.YtjbcjcibnjbpcaaDoor.Idl
namespace Go.Proofs.YtjbcjcibnjbpcaaDoor.Idl
open Go
set_option maxHeartbeats 8000000
set_option linter.unusedSimpArgs false
/-- strings.asciiSpace. -/
def spI (c : Int) : Int := if c = 32 ∨ (9 ≤ c ∧ c ≤ 13) then 1 else 0
def spB (c : Int) : Bool := !(decide (spI c = 0))
def Asp (H : IH) : Prop := ∃ cs pr, H.get 0 = some (.cells cs 77 pr) ∧ cs.length = 256 ∧ ∀ c : Nat, c < 256 → cs[c]? = some (.int .u8 (spI c))
def nxtN (n was c : Int) : Int := IntKind.i64.wrap (n + andI .i64 was (notI .i64 (IntKind.i64.wrap (spI c))))
def cntF (s : ByteArray) : Nat → Nat → Int → Int → Int → Int × Int
  | 0, _, n, _, st => (n, st)
  | k + 1, i, n, was, st => if i < s.size then cntF s k (i + 1) (nxtN n was (bt s i)) (IntKind.i64.wrap (spI (bt s i))) (orI .u8 st (bt s i)) else (n, st)
theorem asp_at {cs : List Value} (h : ∀ c : Nat, c < 256 → cs[c]? = some (.int .u8 (spI c))) (c : Int) (h0 : 0 ≤ c) (h1 : c < 256) : cs[c.toNat]? = some (.int .u8 (spI c)) := by
  have := h c.toNat (by omega)
  rw [Int.toNat_of_nonneg h0] at this
  exact this
theorem loop42_0 (H : IH) (s : ByteArray) (hA : Asp H) (hs : s.size < 2 ^ 39) : ∀ (k i : Nat) (n was st : Int) (T : Regs), s.size < k + i → i ≤ s.size →
    T.at 0 = .string s → T.at 3 = .int .i64 n → T.at 4 = .int .i64 was → T.at 5 = .int .u8 st → T.at 6 = .int .i64 (i : Int) →
    ∃ T', run J okAll (.loop L42_0) T H = some (.exit 0, T', H) ∧ T'.at 0 = .string s ∧ T'.at 3 = .int .i64 (cntF s k i n was st).1 ∧ T'.at 5 = .int .u8 (cntF s k i n was st).2 := by
  obtain ⟨cs, pr, hA0, hAl, hA1⟩ := hA
  intro k
  induction k with
  | zero => intro i n was st T h1 h2; omega
  | succ k ih =>
    intro i n was st T h1 h2 t0 t3 t4 t5 t6
    by_cases hlt : i < s.size
    · have i0 := idxS_bt s i hlt
      have hr := bt_range s i
      have ha := asp_at hA1 _ hr.1 hr.2
      have w1 : IntKind.i64.wrap ((i : Int) + 1) = (i : Int) + 1 := wrap64 _ (by omega) (by omega)
      have : ∃ T1, run J okAll (.loop L42_0) T H = run J okAll (.loop L42_0) T1 H ∧ T1.at 0 = .string s ∧ T1.at 3 = .int .i64 (nxtN n was (bt s i)) ∧ T1.at 4 = .int .i64 (IntKind.i64.wrap (spI (bt s i))) ∧ T1.at 5 = .int .u8 (orI .u8 st (bt s i)) ∧ T1.at 6 = .int .i64 ((i : Int) + 1) := by
        rw [r_loop]
        simp [L42_0, t0, t3, t4, t5, t6, hlt, i0, iindexAddr, hr.1, hr.2, hA0, ha, w1]
        exact ⟨_, rfl, by simp [t0], by simp [nxtN], by simp, by simp, by simp⟩
      obtain ⟨T1, e0, f0, f3, f4, f5, f6⟩ := this
      obtain ⟨T', g0, g1, g2, g3⟩ := ih (i + 1) _ _ _ T1 (by omega) (by omega) f0 f3 f4 f5 (by rw [f6]; simp)
      exact ⟨T', by rw [e0, g0], g1, by simp [cntF, hlt, g2], by simp [cntF, hlt, g3]⟩
    · rw [r_loop]
      simp [L42_0, t0, t3, t4, t5, t6, hlt, cntF]
theorem loop42_1 (H : IH) (s : ByteArray) (hA : Asp H) (hs : s.size < 2 ^ 39) (v9 v10 : Value) : ∀ (k i : Nat) (T : Regs), s.size < k + i → i ≤ s.size →
    T.at 0 = .string s → T.at 9 = v9 → T.at 10 = v10 → T.at 12 = .int .i64 (i : Int) →
    ∃ T', run J okAll (.loop L42_1) T H = some (.exit 2, T', H) ∧ T'.at 0 = .string s ∧ T'.at 9 = v9 ∧ T'.at 10 = v10 ∧ T'.at 12 = .int .i64 (span spB s i : Nat) := by
  obtain ⟨cs, pr, hA0, hAl, hA1⟩ := hA
  intro k
  induction k with
  | zero => intro i T h1 h2; omega
  | succ k ih =>
    intro i T h1 h2 t0 t9 t10 t12
    by_cases hlt : i < s.size
    · have i0 := idxS_bt s i hlt
      have hr := bt_range s i
      have ha := asp_at hA1 _ hr.1 hr.2
      have w1 : IntKind.i64.wrap ((i : Int) + 1) = (i : Int) + 1 := wrap64 _ (by omega) (by omega)
      have hst := span_step spB s i hlt
      rw [bt_eq s i hlt] at hst
      cases hc : decide (spI (bt s i) = 0) with
      | true =>
        have hc' := of_decide_eq_true hc
        rw [hst]
        have : spB (bt s i) = false := by simp [spB, hc']
        rw [this, r_loop]
        simp [L42_1, t0, t9, t10, t12, hlt, i0, iindexAddr, hr.1, hr.2, hA0, ha, w1, hc, hc']
      | false =>
        have hc' := of_decide_eq_false hc
        have hsp : spB (bt s i) = true := by simp [spB, hc']
        rw [hst, hsp]
        have : ∃ T1, run J okAll (.loop L42_1) T H = run J okAll (.loop L42_1) T1 H ∧ T1.at 0 = .string s ∧ T1.at 9 = v9 ∧ T1.at 10 = v10 ∧ T1.at 12 = .int .i64 ((i : Int) + 1) := by
          rw [r_loop]
          simp [L42_1, t0, t9, t10, t12, hlt, i0, iindexAddr, hr.1, hr.2, hA0, ha, w1, hc, hc']
          exact ⟨_, rfl, by simp [t0], by simp [t9], by simp [t10], by simp⟩
        obtain ⟨T1, e0, f0, f9, f10, f12⟩ := this
        obtain ⟨T', g0, g1, g9, g10, g2⟩ := ih (i + 1) T1 (by omega) (by omega) f0 f9 f10 (by rw [f12]; simp)
        exact ⟨T', by rw [e0, g0], g1, g9, g10, by simpa using g2⟩
    · rw [span_end _ _ _ (by omega), r_loop]
      simp [L42_1, t0, t9, t10, t12, hlt]
theorem loop42_2 (H : IH) (s : ByteArray) (hA : Asp H) (hs : s.size < 2 ^ 39) (v9 v10 : Value) : ∀ (k i : Nat) (T : Regs), s.size < k + i → i ≤ s.size →
    T.at 0 = .string s → T.at 9 = v9 → T.at 10 = v10 → T.at 12 = .int .i64 (i : Int) →
    ∃ T', run J okAll (.loop L42_2) T H = some (.exit 6, T', H) ∧ T'.at 0 = .string s ∧ T'.at 9 = v9 ∧ T'.at 10 = v10 ∧ T'.at 12 = .int .i64 (span spB s i : Nat) := by
  obtain ⟨cs, pr, hA0, hAl, hA1⟩ := hA
  intro k
  induction k with
  | zero => intro i T h1 h2; omega
  | succ k ih =>
    intro i T h1 h2 t0 t9 t10 t12
    by_cases hlt : i < s.size
    · have i0 := idxS_bt s i hlt
      have hr := bt_range s i
      have ha := asp_at hA1 _ hr.1 hr.2
      have w1 : IntKind.i64.wrap ((i : Int) + 1) = (i : Int) + 1 := wrap64 _ (by omega) (by omega)
      have hst := span_step spB s i hlt
      rw [bt_eq s i hlt] at hst
      cases hc : decide (spI (bt s i) = 0) with
      | true =>
        have hc' := of_decide_eq_true hc
        rw [hst]
        have : spB (bt s i) = false := by simp [spB, hc']
        rw [this, r_loop]
        simp [L42_2, t0, t9, t10, t12, hlt, i0, iindexAddr, hr.1, hr.2, hA0, ha, w1, hc, hc']
      | false =>
        have hc' := of_decide_eq_false hc
        have hsp : spB (bt s i) = true := by simp [spB, hc']
        rw [hst, hsp]
        have : ∃ T1, run J okAll (.loop L42_2) T H = run J okAll (.loop L42_2) T1 H ∧ T1.at 0 = .string s ∧ T1.at 9 = v9 ∧ T1.at 10 = v10 ∧ T1.at 12 = .int .i64 ((i : Int) + 1) := by
          rw [r_loop]
          simp [L42_2, t0, t9, t10, t12, hlt, i0, iindexAddr, hr.1, hr.2, hA0, ha, w1, hc, hc']
          exact ⟨_, rfl, by simp [t0], by simp [t9], by simp [t10], by simp⟩
        obtain ⟨T1, e0, f0, f9, f10, f12⟩ := this
        obtain ⟨T', g0, g1, g9, g10, g2⟩ := ih (i + 1) T1 (by omega) (by omega) f0 f9 f10 (by rw [f12]; simp)
        exact ⟨T', by rw [e0, g0], g1, g9, g10, by simpa using g2⟩
    · rw [span_end _ _ _ (by omega), r_loop]
      simp [L42_2, t0, t9, t10, t12, hlt]
end Go.Proofs.YtjbcjcibnjbpcaaDoor.Idl
namespace Go.Proofs.YtjbcjcibnjbpcaaDoor.Idl
open Go
set_option maxHeartbeats 8000000
set_option linter.unusedSimpArgs false
/-- The answer's row: the fields so far, and the places that are still empty. -/
def rowF (acc : List ByteArray) (r : Nat) : Blk := .cells (acc.map Value.string ++ List.replicate r (.string ⟨#[]⟩)) 9 false
def fldF (s : ByteArray) : Nat → Nat → Nat → Nat → List ByteArray → Option (List ByteArray × Nat × Nat)
  | 0, _, _, _, _ => none
  | k + 1, i, fs, r, acc => if i < s.size then
      if spI (bt s i) = 0 then fldF s k (i + 1) fs r acc
      else if fs ≤ i then
        match r with
        | 0 => none
        | r + 1 => fldF s k (span spB s (i + 1)) (span spB s (i + 1)) r (acc ++ [s.extract fs i])
      else none
    else some (acc, fs, r)
theorem rowF_store (acc : List ByteArray) (r : Nat) (x : ByteArray) : overlay (acc.map Value.string ++ List.replicate (r + 1) (.string ⟨#[]⟩)) acc.length [.string x] = (acc ++ [x]).map Value.string ++ List.replicate r (.string ⟨#[]⟩) := by
  unfold overlay
  have e1 : (acc.map Value.string).length = acc.length := by simp
  rw [List.take_append_of_le_length (by simp), List.take_of_length_le (by simp), ← e1]
  rw [show (acc.map Value.string).length + [Value.string x].length = (acc.map Value.string).length + 1 from rfl, ← List.drop_drop, List.drop_left]
  simp [List.replicate_succ]
theorem loop42_3 (H : IH) (g c : Nat) (s : ByteArray) (hg : g ≠ 0) (hA : Asp H) (hs : s.size < 2 ^ 39) (n : Nat) (hn : n < 2 ^ 39) : ∀ (k i fs r : Nat) (acc : List ByteArray) (res : List ByteArray × Nat × Nat) (T : Regs),
    i ≤ s.size → acc.length + r = n → fldF s k i fs r acc = some res →
    T.at 0 = .string s → T.at 9 = .slice (some ⟨g, 0, none⟩) n c → T.at 10 = .int .i64 (acc.length : Int) → T.at 11 = .int .i64 (fs : Int) → T.at 12 = .int .i64 (i : Int) →
    ∃ T', run J okAll (.loop L42_3) T (H.set g (rowF acc r)) = some (.exit 4, T', H.set g (rowF res.1 res.2.2)) ∧ res.1.length + res.2.2 = n ∧ T'.at 0 = .string s ∧ T'.at 9 = .slice (some ⟨g, 0, none⟩) n c ∧ T'.at 10 = .int .i64 (res.1.length : Int) ∧ T'.at 11 = .int .i64 (res.2.1 : Int) := by
  intro k
  induction k with
  | zero => intro i fs r acc res T h1 h2 h3; simp [fldF] at h3
  | succ k ih =>
    intro i fs r acc res T h1 h2 h3 t0 t9 t10 t11 t12
    have hAg : ∀ x, Asp (H.set g x) := fun x => by
      obtain ⟨cs, pr, a, b⟩ := hA
      exact ⟨cs, pr, by rw [IH.get_set_other _ _ _ _ (Ne.symm hg)]; exact a, b⟩
    by_cases hlt : i < s.size
    · have i0 := idxS_bt s i hlt
      have hr := bt_range s i
      have w1 : IntKind.i64.wrap ((i : Int) + 1) = (i : Int) + 1 := wrap64 _ (by omega) (by omega)
      obtain ⟨cs, pr, hA0, hAl, hA1⟩ := hAg (rowF acc r)
      have ha := asp_at hA1 _ hr.1 hr.2
      simp only [fldF, if_pos hlt] at h3
      cases hc : decide (spI (bt s i) = 0) with
      | true =>
        have hc' := of_decide_eq_true hc
        rw [if_pos hc'] at h3
        have : ∃ T1, run J okAll (.loop L42_3) T (H.set g (rowF acc r)) = run J okAll (.loop L42_3) T1 (H.set g (rowF acc r)) ∧ T1.at 0 = .string s ∧ T1.at 9 = .slice (some ⟨g, 0, none⟩) n c ∧ T1.at 10 = .int .i64 (acc.length : Int) ∧ T1.at 11 = .int .i64 (fs : Int) ∧ T1.at 12 = .int .i64 ((i : Int) + 1) := by
          rw [r_loop]
          simp [L42_3, t0, t9, t10, t11, t12, hlt, i0, iindexAddr, hr.1, hr.2, hA0, ha, w1, hc, hc']
          exact ⟨_, rfl, by simp [t0], by simp [t9], by simp [t10], by simp [t11], by simp⟩
        obtain ⟨T1, e0, f0, f9, f10, f11, f12⟩ := this
        rw [e0]
        exact ih (i + 1) fs r acc res T1 (by omega) h2 h3 f0 f9 f10 f11 (by rw [f12]; simp)
      | false =>
        have hc' := of_decide_eq_false hc
        rw [if_neg hc'] at h3
        by_cases hfi : fs ≤ i
        · rw [if_pos hfi] at h3
          cases r with
          | zero => simp at h3
          | succ r =>
            simp only at h3
            have hna : acc.length < n := by omega
            have w2 : IntKind.i64.wrap ((acc.length : Int) + 1) = (acc.length : Int) + 1 := wrap64 _ (by omega) (by omega)
            have hsp := span_range spB s (i + 1) (by omega)
            have hsl := sliceS_some s fs i hfi (by omega)
            have hgg : (H.set g (rowF acc (r + 1))).get g = some (.cells (acc.map Value.string ++ List.replicate (r + 1) (.string ⟨#[]⟩)) 9 false) := by simp [IH.get_set, rowF]
            have hov : Blk.cells (overlay (acc.map Value.string ++ List.replicate (r + 1) (.string ⟨#[]⟩)) acc.length [.string (s.extract fs i)]) 9 false = rowF (acc ++ [s.extract fs i]) r := by rw [rowF_store]; rfl
            have hle : acc.length + 1 ≤ acc.length + (r + 1) := by omega
            have key := fun T0 => loop42_2 (H.set g (rowF (acc ++ [s.extract fs i]) r)) s (hAg _) hs (.slice (some ⟨g, 0, none⟩) n c) (.int .i64 ((acc.length : Int) + 1)) (s.size + 1) (i + 1) T0 (by omega) (by omega)
            have : ∃ T1, run J okAll (.loop L42_3) T (H.set g (rowF acc (r + 1))) = run J okAll (.loop L42_3) T1 (H.set g (rowF (acc ++ [s.extract fs i]) r)) ∧ T1.at 0 = .string s ∧ T1.at 9 = .slice (some ⟨g, 0, none⟩) n c ∧ T1.at 10 = .int .i64 ((acc.length : Int) + 1) ∧ T1.at 11 = .int .i64 (span spB s (i + 1) : Nat) ∧ T1.at 12 = .int .i64 (span spB s (i + 1) : Nat) := by
              rw [r_loop]
              simp [L42_3, t0, t9, t10, t11, t12, hlt, i0, iindexAddr, hr.1, hr.2, hA0, ha, w1, w2, hc, hc', hsl, hna, istore, Value.cells, plain1, hgg, hov]
              generalize hX : run J okAll (.loop L42_2) _ _ = X
              obtain ⟨T2, e2, g0, g9, g10, g12⟩ : ∃ T2, run J okAll (.loop L42_2) T2 (H.set g (rowF (acc ++ [s.extract fs i]) r)) = X ∧ T2.at 0 = .string s ∧ T2.at 9 = .slice (some ⟨g, 0, none⟩) n c ∧ T2.at 10 = .int .i64 ((acc.length : Int) + 1) ∧ T2.at 12 = .int .i64 ((i + 1 : Nat) : Int) :=
                ⟨_, hX, by simp [t0], by simp [t9], by simp, by simp⟩
              obtain ⟨T', k0, k1, k9, k10, k12⟩ := key T2 g0 g9 g10 g12
              rw [← e2, k0]
              simp [k1, k9, k10, k12]
              exact ⟨_, rfl, by simp [k1], by simp [k9], by simp [k10], by simp, by simp [k12]⟩
            obtain ⟨T1, e0, f0, f9, f10, f11, f12⟩ := this
            rw [e0]
            exact ih (span spB s (i + 1)) (span spB s (i + 1)) r (acc ++ [s.extract fs i]) res T1 (by omega) (by simp; omega) h3 f0 f9 (by rw [f10]; simp) f11 f12
        · rw [if_neg hfi] at h3
          simp at h3
    · simp only [fldF, if_neg hlt, Option.some.injEq] at h3
      subst h3
      rw [r_loop]
      simp [L42_3, t0, t9, t10, t11, t12, hlt, h2]
end Go.Proofs.YtjbcjcibnjbpcaaDoor.Idl
namespace Go.Proofs.YtjbcjcibnjbpcaaDoor.Idl
open Go
set_option maxHeartbeats 8000000
set_option linter.unusedSimpArgs false
/-- All the fields: those that a blank ends, and the last one. -/
def fldsOk (s : ByteArray) (S : List ByteArray) : Prop :=
  (cntF s (s.size + 1) 0 0 1 0).1 = S.length ∧ (cntF s (s.size + 1) 0 0 1 0).2 < 128 ∧ S.length < 2 ^ 39 ∧
  ∃ acc fs r, fldF s (s.size + 1) (span spB s 0) (span spB s 0) S.length [] = some (acc, fs, r) ∧
    ((s.size ≤ fs ∧ acc = S ∧ r = 0) ∨ (fs < s.size ∧ r = 1 ∧ acc ++ [s.extract fs s.size] = S))
theorem push_set (H : IH) (x y : Blk) : (H.push x).set H.next y = H.push y := IH.set_set { H with next := H.next + 1 } H.next x y
theorem mk67 (H : IH) (n : Nat) (hn : n < 2 ^ 39) : imakeSlice J 67 (.int .i64 (n : Int)) (.int .i64 (n : Int)) H = some (.slice (some ⟨H.next, 0, none⟩) n n, H.push (rowF [] n)) := by
  have h1 : (n : Int) < 9223372036854775808 := by omega
  have h2 : 16 * n ≤ 281474976710656 := by omega
  simp [imakeSlice, h1, h2, rowF, Value.cells]
  refine ⟨by omega, ?_⟩
  congr 2
  simp [Nat.mod_one, List.map_const']
theorem c42 (H : IH) (s : ByteArray) (S : List ByteArray) (hA : Asp H) (h0 : H.next ≠ 0) (hs : s.size < 2 ^ 39) (h : fldsOk s S) :
    cal J okAll 42 #[.string s] H = some (.ret (.slice (some ⟨H.next, 0, none⟩) S.length S.length), H.push (rowF S 0)) := by
  obtain ⟨h1, h2, h3, acc, fs, r, h4, h5⟩ := h
  have k0 := fun T => loop42_0 H s hA hs (s.size + 1) 0 0 1 0 T (by omega) (by omega)
  rw [cal42 _ _ (by simp)]
  simp [C42, R42, regsOf, fin, iresult1]
  generalize hX : run J okAll (.loop L42_0) _ _ = X
  obtain ⟨T1, e1, f0, f3, f4, f5, f6⟩ : ∃ T1, run J okAll (.loop L42_0) T1 H = X ∧ T1.at 0 = .string s ∧ T1.at 3 = .int .i64 0 ∧ T1.at 4 = .int .i64 1 ∧ T1.at 5 = .int .u8 0 ∧ T1.at 6 = .int .i64 ((0 : Nat) : Int) :=
    ⟨_, hX, by simp, by simp, by simp, by simp, by simp⟩
  obtain ⟨T2, g1, g2, g3, g4⟩ := k0 T1 f0 f3 f4 f5 f6
  rw [← e1, g1]
  rw [h1] at g3
  generalize hb : (cntF s (s.size + 1) 0 0 1 0).2 = bits at *
  have hlt : ¬ 128 ≤ bits := by omega
  have hmk := mk67 H S.length h3
  simp [g2, g3, g4, hlt, hmk]
  generalize hX : run J okAll (.loop L42_1) _ _ = X
  have hA' : Asp (H.push (rowF [] S.length)) := by
    obtain ⟨cs, pr, a, b⟩ := hA
    exact ⟨cs, pr, by rw [IH.get_push_other _ _ _ (by omega)]; exact a, b⟩
  obtain ⟨T3, e3, m0, m9, m10, m12⟩ : ∃ T3, run J okAll (.loop L42_1) T3 (H.push (rowF [] S.length)) = X ∧ T3.at 0 = .string s ∧ T3.at 9 = .slice (some ⟨H.next, 0, none⟩) S.length S.length ∧ T3.at 10 = .int .i64 0 ∧ T3.at 12 = .int .i64 ((0 : Nat) : Int) :=
    ⟨_, hX, by simp [g2], by simp, by simp, by simp⟩
  obtain ⟨T4, n1, n0, n9, n10, n12⟩ := loop42_1 _ s hA' hs _ _ (s.size + 1) 0 T3 (by omega) (by omega) m0 m9 m10 m12
  rw [← e3, n1]
  simp [n0, n9, n10, n12]
  generalize hX : run J okAll (.loop L42_3) _ _ = X
  have hps : H.push (rowF [] S.length) = (H.push (rowF [] S.length)).set H.next (rowF [] S.length) := (push_set H _ _).symm
  have hsp := span_range spB s 0 (by omega)
  obtain ⟨T5, e5, p0, p9, p10, p11, p12⟩ : ∃ T5, run J okAll (.loop L42_3) T5 (H.push (rowF [] S.length)) = X ∧ T5.at 0 = .string s ∧ T5.at 9 = .slice (some ⟨H.next, 0, none⟩) S.length S.length ∧ T5.at 10 = .int .i64 (([] : List ByteArray).length : Int) ∧ T5.at 11 = .int .i64 (span spB s 0 : Nat) ∧ T5.at 12 = .int .i64 (span spB s 0 : Nat) :=
    ⟨_, hX, by simp [n0], by simp [n9], by simp [n10], by simp [n12], by simp [n12]⟩
  rw [hps] at e5
  obtain ⟨T6, q1, q2, q0, q9, q10, q11⟩ := loop42_3 (H.push (rowF [] S.length)) H.next S.length s (by omega) hA' hs S.length h3 (s.size + 1) _ _ _ [] _ T5 hsp.2 (by simp) h4 p0 p9 p10 p11 p12
  rw [← e5, q1]
  simp only at q10 q11 q2
  rcases h5 with ⟨a1, rfl, rfl⟩ | ⟨a1, rfl, a2⟩
  · have a1' : ¬ ((fs : Int) < s.size) := by omega
    simp [q0, q9, q10, q11, a1', fin, iresult1, push_set]
  · have a1' : ((fs : Int) < s.size) := by omega
    have hsl := sliceS_some s fs s.size (by omega) (by omega)
    have hrow : rowF acc 1 = Blk.cells (acc.map Value.string ++ [.string ⟨#[]⟩]) 9 false := by unfold rowF; rfl
    have hov : Blk.cells (overlay (acc.map Value.string ++ [.string ⟨#[]⟩]) acc.length [.string (s.extract fs s.size)]) 9 false = rowF S 0 := by
      have := rowF_store acc 0 (s.extract fs s.size)
      rw [show List.replicate (0 + 1) (Value.string ⟨#[]⟩) = [.string ⟨#[]⟩] from rfl] at this
      rw [this, a2]; rfl
    have hac : acc.length < S.length := by omega
    simp [q0, q9, q10, q11, a1', hsl, hrow, hov, hac, iindexAddr, istore, Value.cells, plain1, fin, iresult1, push_set]
end Go.Proofs.YtjbcjcibnjbpcaaDoor.Idl
namespace Go.Proofs.YtjbcjcibnjbpcaaDoor.Idl
open Go
set_option maxHeartbeats 8000000
set_option maxRecDepth 100000
set_option linter.unusedSimpArgs false
def signsL : List ByteArray := [⟨#[60, 62]⟩, ⟨#[60, 61]⟩, ⟨#[62, 61]⟩, ⟨#[58, 58]⟩, ⟨#[58, 61]⟩, ⟨#[61, 62]⟩, ⟨#[45, 62]⟩, ⟨#[40]⟩, ⟨#[41]⟩, ⟨#[91]⟩, ⟨#[93]⟩, ⟨#[44]⟩, ⟨#[59]⟩, ⟨#[61]⟩, ⟨#[60]⟩, ⟨#[62]⟩, ⟨#[43]⟩, ⟨#[45]⟩, ⟨#[42]⟩, ⟨#[94]⟩, ⟨#[33]⟩, ⟨#[124]⟩, ⟨#[95]⟩, ⟨#[126]⟩]
def wordsB : ByteArray := ⟨#[108, 101, 116, 32, 118, 97, 108, 32, 102, 117, 110, 32, 97, 110, 100, 32, 105, 110, 32, 101, 110, 100, 32, 105, 102, 32, 116, 104, 101, 110, 32, 101, 108, 115, 101, 32, 99, 97, 115, 101, 32, 111, 102, 32, 102, 110, 32, 100, 97, 116, 97, 116, 121, 112, 101, 32, 101, 120, 99, 101, 112, 116, 105, 111, 110, 32, 114, 97, 105, 115, 101, 32, 104, 97, 110, 100, 108, 101, 32, 97, 110, 100, 97, 108, 115, 111, 32, 111, 114, 101, 108, 115, 101, 32, 100, 105, 118, 32, 109, 111, 100]⟩
def wordsL : List ByteArray := [⟨#[108, 101, 116]⟩, ⟨#[118, 97, 108]⟩, ⟨#[102, 117, 110]⟩, ⟨#[97, 110, 100]⟩, ⟨#[105, 110]⟩, ⟨#[101, 110, 100]⟩, ⟨#[105, 102]⟩, ⟨#[116, 104, 101, 110]⟩, ⟨#[101, 108, 115, 101]⟩, ⟨#[99, 97, 115, 101]⟩, ⟨#[111, 102]⟩, ⟨#[102, 110]⟩, ⟨#[100, 97, 116, 97, 116, 121, 112, 101]⟩, ⟨#[101, 120, 99, 101, 112, 116, 105, 111, 110]⟩, ⟨#[114, 97, 105, 115, 101]⟩, ⟨#[104, 97, 110, 100, 108, 101]⟩, ⟨#[97, 110, 100, 97, 108, 115, 111]⟩, ⟨#[111, 114, 101, 108, 115, 101]⟩, ⟨#[100, 105, 118]⟩, ⟨#[109, 111, 100]⟩]
def fldsB (s : ByteArray) (S : List ByteArray) : Bool :=
  decide ((cntF s (s.size + 1) 0 0 1 0).1 = S.length) && decide ((cntF s (s.size + 1) 0 0 1 0).2 < 128) && decide (S.length < 2 ^ 39) &&
  match fldF s (s.size + 1) (span spB s 0) (span spB s 0) S.length [] with
  | some (acc, fs, r) => (decide (s.size ≤ fs) && decide (acc = S) && decide (r = 0)) || (decide (fs < s.size) && decide (r = 1) && decide (acc ++ [s.extract fs s.size] = S))
  | none => false
theorem fldsOk_of {s : ByteArray} {S : List ByteArray} (h : fldsB s S = true) : fldsOk s S := by
  unfold fldsB at h
  simp only [Bool.and_eq_true, decide_eq_true_eq] at h
  obtain ⟨⟨⟨h1, h2⟩, h3⟩, h4⟩ := h
  refine ⟨h1, h2, h3, ?_⟩
  split at h4
  · rename_i acc fs r e
    refine ⟨acc, fs, r, e, ?_⟩
    simpa [Bool.or_eq_true, Bool.and_eq_true, and_assoc] using h4
  · cases h4
theorem signs_ok : fldsOk signsB signsL := fldsOk_of (by kernel_rfl)
theorem words_ok : fldsOk wordsB wordsL := fldsOk_of (by kernel_rfl)
def AspB (x : Blk) : Prop := ∃ cs pr, x = .cells cs 77 pr ∧ cs.length = 256 ∧ ∀ c : Nat, c < 256 → cs[c]? = some (.int .u8 (spI c))
theorem AspB.asp {x : Blk} (h : AspB x) {H : IH} (h0 : H.get 0 = some x) : Asp H := by
  obtain ⟨cs, pr, rfl, a⟩ := h
  exact ⟨cs, pr, h0, a⟩
theorem rowF_zero (S : List ByteArray) : rowF S 0 = .cells (S.map Value.string) 9 false := by simp [rowF]
theorem signs_fields {x : Blk} (h : AspB x) : FieldsOk x signsL := fun H hn h0 =>
  ⟨H.push (rowF signsL 0), H.next, signsL.length, false, (Fr.refl _ _).push (Nat.le_refl _) _, c42 H signsB signsL (h.asp h0) (by omega) (by decide) signs_ok, by rw [IH.get_push_same, rowF_zero]⟩
end Go.Proofs.YtjbcjcibnjbpcaaDoor.Idl
namespace Go.Proofs.YtjbcjcibnjbpcaaDoor.Idl
open Go
set_option maxHeartbeats 8000000
set_option maxRecDepth 100000
set_option linter.unusedSimpArgs false
def insW (t : ByteArray) (v : Int) : List (ByteArray × Int) → List (ByteArray × Int)
  | [] => [(t, v)]
  | e :: r => if t = e.1 then (t, v) :: r else e :: insW t v r
theorem ifind_w (t : ByteArray) (v : Int) : ∀ (L : List (ByteArray × Int)) (i : Nat), (ifind .string (.string t) (wmap L) i = some none ∧ insW t v L = L ++ [(t, v)]) ∨
    ∃ j v0, ifind .string (.string t) (wmap L) i = some (some (i + j, v0)) ∧ (wmap L).modify j (fun _ => (.string t, .int .i64 v)) = wmap (insW t v L) := by
  intro L
  induction L with
  | nil => intro i; exact .inl ⟨rfl, rfl⟩
  | cons e L ih =>
    intro i
    simp only [wmap, List.map_cons, ifind, same_string, insW]
    by_cases hc : t = e.1
    · right
      exact ⟨0, .int .i64 e.2, by simp [hc], by simp [hc]⟩
    · simp only [hc, decide_false, if_false]
      rcases ih (i + 1) with ⟨a, b⟩ | ⟨j, v0, a, b⟩
      · exact .inl ⟨a, by simp [b]⟩
      · refine .inr ⟨j + 1, v0, by rw [show i + (j + 1) = i + 1 + j by omega]; exact a, ?_⟩
        simp only [List.modify_succ_cons, List.map_cons, List.cons.injEq, true_and]
        exact b
theorem update_w (H : IH) (m : Nat) (L : List (ByteArray × Int)) (h : H.get m = some (.map (wmap L) false)) (t : ByteArray) (v : Int) :
    imapUpdate J 43 (.map (some m)) (.string t) (.int .i64 v) H = some (H.set m (.map (wmap (insW t v L)) false)) := by
  simp only [imapUpdate, und43, keyT, und9, h]
  rcases ifind_w t v L 0 with ⟨a, b⟩ | ⟨j, v0, a, b⟩
  · rw [a, b]
    simp [flat, flatN, wmap]
  · rw [a]
    simp only [Nat.zero_add]
    rw [b]
def addW (S : List ByteArray) (L : List (ByteArray × Int)) : List (ByteArray × Int) := S.foldl (fun L t => insW t 1 L) L
theorem loop21 (H : IH) (g m cap : Nat) (S : List ByteArray) (pr : Bool) (hgm : g ≠ m) (hg : H.get g = some (.cells (S.map Value.string) 9 pr)) (hS : S.length < 2 ^ 39) : ∀ (n i : Nat) (L : List (ByteArray × Int)) (T : Regs), S.length - i = n → i ≤ S.length →
    T.at 1 = .map (some m) → T.at 6 = .slice (some ⟨g, 0, none⟩) S.length cap → T.at 7 = .int .i64 (S.length : Int) → T.at 8 = .int .i64 (i : Int) →
    ∃ T', run J okAll (.loop L21_0) T (H.set m (.map (wmap L) false)) = some (.exit 0, T', H.set m (.map (wmap (addW (S.drop i) L)) false)) ∧ T'.at 1 = .map (some m) := by
  intro n
  induction n with
  | zero =>
    intro i L T hn hi t1 t6 t7 t8
    have hlt : ¬ ((i : Int) < S.length) := by omega
    have : S.drop i = [] := List.drop_of_length_le (by omega)
    rw [this, r_loop]
    simp [L21_0, t1, t6, t7, t8, hlt, addW]
  | succ n ih =>
    intro i L T hn hi t1 t6 t7 t8
    have hlt : i < S.length := by omega
    have hgi : (S.map Value.string)[i]? = some (.string S[i]) := by simp [hlt]
    have w1 : IntKind.i64.wrap ((i : Int) + 1) = (i : Int) + 1 := wrap64 _ (by omega) (by omega)
    have hd : S.drop i = S[i] :: S.drop (i + 1) := List.drop_eq_getElem_cons hlt
    have hu := update_w (H.set m (.map (wmap L) false)) m L (by simp) S[i] 1
    have hgg : (H.set m (.map (wmap L) false)).get g = some (.cells (S.map Value.string) 9 pr) := by rw [IH.get_set_other _ _ _ _ hgm]; exact hg
    have : ∃ T1, run J okAll (.loop L21_0) T (H.set m (.map (wmap L) false)) = run J okAll (.loop L21_0) T1 (H.set m (.map (wmap (insW S[i] 1 L)) false)) ∧ T1.at 1 = .map (some m) ∧ T1.at 6 = .slice (some ⟨g, 0, none⟩) S.length cap ∧ T1.at 7 = .int .i64 (S.length : Int) ∧ T1.at 8 = .int .i64 ((i : Int) + 1) := by
      rw [r_loop]
      simp [L21_0, t1, t6, t7, t8, hlt, iindexAddr, hgg, hgi, w1, hu]
      exact ⟨_, rfl, by simp [t1], by simp [t6], by simp [t7], by simp⟩
    obtain ⟨T1, e0, f1, f6, f7, f8⟩ := this
    rw [e0, hd]
    exact ih (i + 1) _ T1 (by omega) (by omega) f1 f6 f7 (by rw [f8]; simp)
def kwL : List (ByteArray × Int) := addW wordsL [(⟨#[116, 114, 117, 101]⟩, 2), (⟨#[102, 97, 108, 115, 101]⟩, 2)]
theorem c21 (H : IH) {x : Blk} (hx : AspB x) (h0 : H.get 0 = some x) (hn : 0 < H.next) : ∃ H', Fr H.next H H' ∧ H.next < H'.next ∧ cal J okAll 21 #[] H = some (.ret (.map (some H.next)), H') ∧ H'.get H.next = some (.map (wmap kwL) false) := by
  have hb : ((ByteArray.mk (List.toArray (List.append [108, 101, 116, 32, 118, 97, 108, 32, 102, 117, 110, 32, 97, 110, 100, 32, 105, 110, 32, 101, 110, 100, 32, 105, 102, 32, 116, 104, 101, 110, 32, 101, 108, 115, 101, 32, 99, 97, 115, 101, 32, 111, 102, 32, 102, 110, 32, 100, 97, 116] [97, 116, 121, 112, 101, 32, 101, 120, 99, 101, 112, 116, 105, 111, 110, 32, 114, 97, 105, 115, 101, 32, 104, 97, 110, 100, 108, 101, 32, 97, 110, 100, 97, 108, 115, 111, 32, 111, 114, 101, 108, 115, 101, 32, 100, 105, 118, 32, 109, 111, 100]))) : ByteArray) = wordsB := by kernel_rfl
  rw [cal21 _ _ (by simp)]
  unfold C21
  rw [hb]
  have u1 := update_w (H.push (.map [] false)) H.next [] (by simp [wmap]) ⟨#[116, 114, 117, 101]⟩ 2
  have u2 := update_w ((H.push (.map [] false)).set H.next (.map (wmap [(⟨#[116, 114, 117, 101]⟩, 2)]) false)) H.next [(⟨#[116, 114, 117, 101]⟩, 2)] (by simp) ⟨#[102, 97, 108, 115, 101]⟩ 2
  have e2 : insW ⟨#[102, 97, 108, 115, 101]⟩ 2 [(⟨#[116, 114, 117, 101]⟩, 2)] = [(⟨#[116, 114, 117, 101]⟩, 2), (⟨#[102, 97, 108, 115, 101]⟩, 2)] := by kernel_rfl
  have e1 : insW ⟨#[116, 114, 117, 101]⟩ 2 [] = [(⟨#[116, 114, 117, 101]⟩, 2)] := rfl
  rw [e1] at u1
  rw [e2] at u2
  simp only [push_set, IH.set_set] at u1 u2
  generalize hL : ([(⟨#[116, 114, 117, 101]⟩, 2), (⟨#[102, 97, 108, 115, 101]⟩, 2)] : List (ByteArray × Int)) = L0 at u1 u2
  have hA : Asp (H.push (.map (wmap L0) false)) := by
    obtain ⟨cs, pr, a, b⟩ := hx.asp h0
    exact ⟨cs, pr, by rw [IH.get_push_other _ _ _ (by omega)]; exact a, b⟩
  have hw := c42 (H.push (.map (wmap L0) false)) wordsB wordsL hA (by simp) (by decide) words_ok
  simp [R21, regsOf, fin, iresult1, u1, u2, hw]
  generalize hX : run J okAll (.loop L21_0) _ _ = X
  have hps : ((H.push (.map (wmap L0) false)).push (rowF wordsL 0)) = ((H.push (.map (wmap L0) false)).push (rowF wordsL 0)).set H.next (.map (wmap L0) false) := (IH.set_same _ _ _ (by rw [IH.get_push_other _ _ _ (by simp)]; simp)).symm
  obtain ⟨T1, e1, f1, f6, f7, f8⟩ : ∃ T1, run J okAll (.loop L21_0) T1 ((H.push (.map (wmap L0) false)).push (rowF wordsL 0)) = X ∧ T1.at 1 = .map (some H.next) ∧ T1.at 6 = .slice (some ⟨H.next + 1, 0, none⟩) wordsL.length wordsL.length ∧ T1.at 7 = .int .i64 (wordsL.length : Int) ∧ T1.at 8 = .int .i64 ((0 : Nat) : Int) :=
    ⟨_, hX, by simp, by simp, by simp, by simp⟩
  rw [hps] at e1
  obtain ⟨T2, g1, g2⟩ := loop21 ((H.push (.map (wmap L0) false)).push (rowF wordsL 0)) (H.next + 1) H.next wordsL.length wordsL false (by omega)
    (by rw [← rowF_zero]; exact IH.get_push_same (H.push (.map (wmap L0) false)) (rowF wordsL 0)) (by decide) _ 0 L0 T1 rfl (by omega) f1 f6 f7 f8
  rw [← e1, g1]
  simp [g2, fin, iresult1]
  refine ⟨_, ?_, ?_, rfl, ?_⟩
  · refine Fr.set ?_ (Nat.le_refl _) _
    refine Fr.push ?_ (by simp) _
    refine Fr.push ?_ (Nat.le_refl _) _
    exact Fr.refl _ H
  · simp; omega
  · simp
    rw [← hL]; rfl
end Go.Proofs.YtjbcjcibnjbpcaaDoor.Idl
namespace Go.Proofs.YtjbcjcibnjbpcaaDoor.Idl
open Go
set_option maxHeartbeats 8000000
set_option linter.unusedSimpArgs false
theorem mk40 (H : IH) (n : Nat) (hn : n < 2 ^ 47) : imakeSlice J 40 (.int .i64 (n : Int)) (.int .i64 (n : Int)) H = some (.slice (some ⟨H.next, 0, none⟩) n n, H.push (.cells (List.replicate n (.int .u8 0)) 5 false)) := by
  have h1 : (n : Int) < 9223372036854775808 := by omega
  have h2 : (n : Int) ≤ 281474976710656 := by omega
  simp [imakeSlice, h1, h2, Value.cells]
  congr 2
  simp [Nat.mod_one, List.map_const']
theorem bytesOf_bytes (s : ByteArray) : bytesOfCells (bytesCells s) = some s.data.toList := by
  unfold bytesCells
  generalize s.data.toList = l
  induction l with
  | nil => rfl
  | cons a l ih =>
    simp only [List.map_cons, bytesOfCells, ih, Option.map_some, Option.some.injEq, List.cons.injEq, and_true]
    have : ((a.toNat : Nat) : Int).toNat = a.toNat := by simp
    rw [this]
    exact UInt8.ofNat_toNat
theorem cp40 (H : IH) (b n : Nat) (s : ByteArray) (hs : s.size = n) (hn : n ≠ 0) (h : H.get b = some (.cells (List.replicate n (.int .u8 0)) 5 false)) :
    icopy J #[40, 9] (.slice (some ⟨b, 0, none⟩) n n) (.string s) H = some (.int .i64 n, H.set b (.cells (bytesCells s) 5 false)) := by
  subst hs
  have e1 : (bytesCells s).take s.size = bytesCells s := List.take_of_length_le (by rw [bytesCells_length]; exact Nat.le_refl _)
  have e2 : overlay (List.replicate s.size (Value.int .u8 0)) 0 (bytesCells s) = bytesCells s := by
    unfold overlay
    simp [bytesCells_length]
  have e3 : bytesCells s ≠ [] := fun e => by have := bytesCells_length s; rw [e] at this; simp at this; omega
  have e4' : ∀ x ∈ bytesCells s, plain1 x = true := fun x hx => by
    unfold bytesCells at hx
    obtain ⟨b, _, rfl⟩ := List.mem_map.1 hx
    rfl
  simp [icopy, ilenOf, ifirst, h, e1, e2, hn, e3, bytesCells_length]
  exact e4'
theorem c84 (H : IH) (s : ByteArray) (hs : s.size < 2 ^ 46) : ∃ H', Fr H.next H H' ∧ cal J okAll 84 #[.string s] H = some (.ret (.string s), H') := by
  rw [cal84 _ _ (by simp)]
  by_cases hz : s.size = 0
  · have : s = ⟨#[]⟩ := by rw [empty_size]; exact hz
    refine ⟨H, Fr.refl _ _, ?_⟩
    simp [C84, R84, regsOf, fin, iresult1, hz]
    exact this.symm
  · have hmk := mk40 H s.size (by omega)
    have hcp := cp40 (H.push (.cells (List.replicate s.size (.int .u8 0)) 5 false)) H.next s.size s rfl hz (by simp)
    have hp : 0 < s.size := by omega
    have hlt : (s.size : Int) < 9223372036854775808 := by omega
    have htk : (bytesCells s).take s.size = bytesCells s := List.take_of_length_le (by rw [bytesCells_length]; exact Nat.le_refl _)
    refine ⟨H.push (.cells (bytesCells s) 5 true), (Fr.refl _ _).push (Nat.le_refl _) _, ?_⟩
    simp [C84, R84, regsOf, fin, iresult1, hz, hmk, hcp, push_set, iindexAddr, hp, iunsafeString, bytesCells_length, bytesOf_bytes, hlt, htk]
end Go.Proofs.YtjbcjcibnjbpcaaDoor.Idl
namespace Go.Proofs.YtjbcjcibnjbpcaaDoor.Idl
open Go
set_option maxHeartbeats 8000000
set_option linter.unusedSimpArgs false
theorem iop_mkIfaceP (J : Env) (T : Regs) (H : IH) (dst : Option Tmp) (type : TypeId) (pos : String) (after : Array Edge) (guard : Option (Nat × Bool)) (t e : TypeId) (x : Operand) (h : J.und t = some (.pointer e)) :
    iop J ⟨dst, .makeInterface t x, type, pos, after, guard⟩ T H = some (.val (.iface t (iev T x)) H) := by simp only [iop, h]
/-- strconv.ErrRange. -/
def ErrB (x : Blk) : Prop := ∃ t a pr, x = .cells [.iface t (.pointer (some a))] 55 pr
@[simp] theorem be4 (x y : Operand) (H : IH) : binR J .eql 55 x y (.iface 98 (.int .i64 1)) (.iface 98 (.int .i64 2)) H = some (.val (.bool false) H) := binR_pure J H rfl rfl rfl (by kernel_rfl) rfl
@[simp] theorem be5 (x y : Operand) (H : IH) : binR J .eql 55 x y (.iface 98 (.int .i64 1)) (.iface 98 (.int .i64 1)) H = some (.val (.bool true) H) := binR_pure J H rfl rfl rfl (by kernel_rfl) rfl
theorem bl124 (x y : ByteArray) (t : TypeId) (v : Value) : ibuild J 124 [(0, .string x), (1, .string y), (2, .iface t v)] = some (.agg #[.string x, .string y, .iface t v]) := by kernel_rfl
theorem c70 (H : IH) (fn s : ByteArray) (hs : s.size < 2 ^ 46) (x : Blk) (hx : ErrB x) (h4 : H.get 4 = some x) (hn : 4 < H.next) : ∃ H' a, Fr H.next H H' ∧ cal J okAll 70 #[.string fn, .string s] H = some (.ret (.pointer (some a)), H') := by
  obtain ⟨t, a, pr, rfl⟩ := hx
  obtain ⟨H', f, e⟩ := c84 H s hs
  have h4' : H'.get 4 = some (.cells [.iface t (.pointer (some a))] 55 pr) := by rw [f.2 4 hn]; exact h4
  rw [cal70 _ _ (by simp)]
  simp [C70, R70, regsOf, fin, iresult1, e, h4, h4', isEff, oblig, veq, iparts, bl124, inew, Value.cells]
  exact f.push (by have := f.1; omega) _
theorem c58 (H : IH) (fn s : ByteArray) (hs : s.size < 2 ^ 46) (x : Blk) (hx : ErrB x) (h4 : H.get 4 = some x) (hn : 4 < H.next) : ∃ H' a, Fr H.next H H' ∧ cal J okAll 58 #[.string fn, .string s, .int .i64 10, .int .i64 64, .iface 98 (.int .i64 1)] H = some (.ret (.iface 102 (.pointer (some a))), H') := by
  obtain ⟨H', a, f, e⟩ := c70 H fn s hs x hx h4 hn
  refine ⟨H', a, f, ?_⟩
  rw [cal58 _ _ (by simp)]
  simp [C58, R58, regsOf, fin, iresult1, e, iop_mkIfaceP J _ _ _ _ _ _ _ 102 124 _ und102]
theorem c45_err (H : IH) (s : ByteArray) (h0 : 0 < s.size) (hs : s.size < 2 ^ 46) (hd : ∀ j, j < s.size → digitB (bt s j) = true) (x : Blk) (hx : ErrB x) (h4 : H.get 4 = some x) (hn : 4 < H.next)
    (h : ∀ r, numF s (s.size + 1) 0 0 = some r → 9223372036854775808 ≤ r) :
    ∃ H' a, Fr H.next H H' ∧ cal J okAll 45 #[.string s, .int .i64 10, .int .i64 64] H = some (.ret (.tuple #[.int .i64 9223372036854775807, .iface 102 (.pointer (some a))]), H') := by
  have k := c57 H s h0 (by omega) hd
  have hi : intV (numF s (s.size + 1) 0 0) = .tuple #[.int .i64 9223372036854775807, .iface 98 (.int .i64 1)] := by
    cases hq : numF s (s.size + 1) 0 0 with
    | none => rfl
    | some r => have := h r hq; simp only [intV]; rw [if_neg (by omega)]
  rw [hi] at k
  obtain ⟨H', a, f, e⟩ := c58 (H.push (.cells (bytesCells s) 5 false)) ⟨#[80, 97, 114, 115, 101, 73, 110, 116]⟩ s hs x hx (by rw [IH.get_push_other _ _ _ hn]; exact h4) (by simp; omega)
  refine ⟨H', a, ?_, ?_⟩
  · exact ⟨by have := f.1; simp at this; omega, fun y hy => by rw [f.2 y (by simp; omega), IH.get_push_other _ _ _ hy]⟩
  · rw [cal45 _ _ (by simp)]
    simp [C45, R45, regsOf, fin, iresult1, k, e]
end Go.Proofs.YtjbcjcibnjbpcaaDoor.Idl
namespace Go.Proofs.YtjbcjcibnjbpcaaDoor.Idl
open Go
set_option maxHeartbeats 8000000
set_option linter.unusedSimpArgs false
theorem c22_numE (H : IH) (b : Nat) (s : ByteArray) (p m lo : Nat) (x4 : Blk) (hx4 : ErrB x4) (h4 : H.get 4 = some x4) (hn4 : 4 < H.next) (hr : Rd H b s p m) (hs : s.size < 2 ^ 39) (hp : p < s.size) (hb : b < lo) (hlo : lo ≤ H.next) (hq : digitB (bt s p) = true)
    (hn : ∀ r, numF (s.extract p (span digitB s p)) ((s.extract p (span digitB s p)).size + 1) 0 0 = some r → 9223372036854775808 ≤ r) :
    ∃ H', Fr lo H H' ∧ cal J okAll 22 #[.pointer (some ⟨b, 0, none⟩)] H = some (.ret (.tuple #[tokV 1 p ⟨#[]⟩ 9223372036854775807, .int .i64 (span digitB s p : Nat), .bool false]), H') := by
  have hr' := hr
  unfold Rd at hr'
  have i0 := idxS_bt s p hp
  have hb1 : ¬ b = H.next := by omega
  have hb2 : ¬ b = H.next + 1 := by omega
  have hb3 : ¬ H.next + 1 = b := by omega
  have hb4 : ¬ H.next = b := by omega
  have hb6 : ¬ H.next = H.next + 1 + 1 := by omega
  have hb5 : ¬ b = H.next + 1 + 1 := by omega
  have sr := span_range digitB s p (by omega)
  have sl0 := span_lt digitB s p hp hq
  have sa := span_all digitB s _ p rfl (by omega)
  have e := c44 (((H.push (.cells [.int .i64 0, .int .i64 0, .string ⟨#[]⟩, .int .i64 0] 31 false)).push (.cells [.int .i64 0, .int .i64 0, .string ⟨#[]⟩, .int .i64 0] 31 false)).set (H.next + 1) (.cells [.int .i64 0, .int .i64 (p : Int), .string ⟨#[]⟩, .int .i64 0] 31 false))
    b s p m 43 p digitB (by simp [Rd, IH.get_set, IH.get_push, hr', hb1, hb2]) (by simp) (by omega) (by omega) (fun c => c43 c _)
  generalize hE : span digitB s p = E at *
  have sl : sliceS s (some p) (some E) = some (.string (s.extract p E)) := sliceS_some s _ _ (by omega) (by omega)
  have z1 : ¬ 4 = H.next := by omega
  have z2 : ¬ 4 = H.next + 1 := by omega
  obtain ⟨H', ae, f, k⟩ := c45_err (((H.push (.cells [.int .i64 0, .int .i64 0, .string ⟨#[]⟩, .int .i64 0] 31 false)).push (.cells [.int .i64 0, .int .i64 0, .string ⟨#[]⟩, .int .i64 0] 31 false)).set (H.next + 1) (.cells [.int .i64 0, .int .i64 (p : Int), .string ⟨#[]⟩, .int .i64 0] 31 false))
    (s.extract p E) (by simp; omega) (by simp; omega) (fun j hj => by
      have hj' : j < E - p := by simpa [Nat.min_eq_left sr.2] using hj
      rw [bt_extract s p E j (by omega) sr.2]; exact sa _ (by omega) (by omega)) x4 hx4 (by simp [IH.get_set, IH.get_push, z1, z2, h4]) (by simp; omega) hn
  have g0 : H'.get H.next = some (.cells [.int .i64 0, .int .i64 0, .string ⟨#[]⟩, .int .i64 0] 31 false) := by rw [f.2 _ (by simp; omega)]; simp [IH.get_set, IH.get_push]
  have g1 : H'.get (H.next + 1) = some (.cells [.int .i64 0, .int .i64 (p : Int), .string ⟨#[]⟩, .int .i64 0] 31 false) := by rw [f.2 _ (by simp)]; simp [IH.get_set, IH.get_push]
  have hfr : Fr lo H H' := ⟨by have := f.1; simp at this; omega, fun x hx => by
    rw [f.2 x (by simp; omega), IH.get_set_other _ _ _ _ (by omega), IH.get_push_other _ _ _ (by simp; omega), IH.get_push_other _ _ _ (by omega)]⟩
  rw [cal22 _ _ (by simp)]
  simp [C22, R22, regsOf, hr', IH.get_push, IH.get_set, hb1, hb2, hb3, hb4, hb5, hb6, i0, hq, istore, Value.cells, plain1, overlay, iparts, bl31, inew, e, fin, iresult1, tokV, sl, k, g0, g1]
  exact (hfr.set (by omega) _).set (by omega) _
end Go.Proofs.YtjbcjcibnjbpcaaDoor.Idl
namespace Go.Proofs.YtjbcjcibnjbpcaaDoor.Idl
open Go
set_option maxHeartbeats 8000000
set_option linter.unusedSimpArgs false
/-- A token as it is read: kind, text, number, where it ends; is it one? -/
structure Tk where
  kind : Int
  text : ByteArray
  n : Int
  fin : Nat
  ok : Bool
def Tk.val (t : Tk) (p : Nat) : Value := .tuple #[tokV t.kind p t.text t.n, .int .i64 (t.fin : Int), .bool t.ok]
def numT (r : Option Int) (e : Nat) : Tk :=
  match r with
  | some r => if r < 9223372036854775808 then ⟨1, ⟨#[]⟩, r, e, decide (r < 4611686018427387904)⟩ else ⟨1, ⟨#[]⟩, 9223372036854775807, e, false⟩
  | none => ⟨1, ⟨#[]⟩, 9223372036854775807, e, false⟩
def txtT : Option (List Int × Nat) → Tk
  | none => ⟨2, ⟨#[]⟩, 0, 0, false⟩
  | some (l, e) => ⟨2, strOf l, 0, e, true⟩
def signT (p : Nat) : Option ByteArray → Tk
  | none => ⟨0, ⟨#[]⟩, 0, 0, false⟩
  | some x => ⟨6, x, 0, p + x.size, true⟩
def tokF (s : ByteArray) (p : Nat) : Tk :=
  if digitB (bt s p) then numT (numF (s.extract p (span digitB s p)) ((s.extract p (span digitB s p)).size + 1) 0 0) (span digitB s p)
  else if bt s p = 34 then txtT (txtF s (s.size + 1) (p + 1) [])
  else if bt s p = 39 then ⟨5, s.extract p (span letterB s (p + 1)), 0, span letterB s (p + 1), decide (p + 1 < span letterB s (p + 1))⟩
  else if smallB (bt s p) || greatB (bt s p) then ⟨kindW (bt s p) (lookW (s.extract p (span letterB s p)) kwL), s.extract p (span letterB s p), 0, span letterB s p, true⟩
  else signT p (signF s p signsL)
/-- What the lexer leans on: the variables that it reads. -/
def Glob (H : IH) : Prop := (∃ x, AspB x ∧ H.get 0 = some x) ∧ (∃ x, ErrB x ∧ H.get 4 = some x) ∧ 9 ≤ H.next
theorem Glob.mono {H H' : IH} (h : Glob H) {lo : Nat} (hlo : 9 ≤ lo) (f : Fr lo H H') : Glob H' := by
  obtain ⟨⟨x, a, b⟩, ⟨y, c, d⟩, e⟩ := h
  exact ⟨⟨x, a, by rw [f.2 0 (by omega)]; exact b⟩, ⟨y, c, by rw [f.2 4 (by omega)]; exact d⟩, by have := f.1; omega⟩
theorem c22 (H : IH) (b : Nat) (s : ByteArray) (p m lo : Nat) (hG : Glob H) (hr : Rd H b s p m) (hm : H.get m = some (.map (wmap kwL) false)) (hml : m < lo) (hs : s.size < 2 ^ 39) (hp : p < s.size) (hb : b < lo) (hlo : lo ≤ H.next) :
    ∃ H', Fr lo H H' ∧ cal J okAll 22 #[.pointer (some ⟨b, 0, none⟩)] H = some (.ret ((tokF s p).val p), H') := by
  obtain ⟨⟨x0, hx0, h0⟩, ⟨x4, hx4, h4⟩, hn⟩ := hG
  unfold tokF
  cases hd : digitB (bt s p) with
  | true =>
    simp only [if_true]
    cases hq : numF (s.extract p (span digitB s p)) ((s.extract p (span digitB s p)).size + 1) 0 0 with
    | none =>
      exact c22_numE H b s p m lo x4 hx4 h4 (by omega) hr hs hp hb hlo hd (fun r hr => by rw [hq] at hr; cases hr)
    | some r =>
      by_cases hr63 : r < 9223372036854775808
      · simp only [numT, if_pos hr63]
        exact c22_num H b s p m lo r hr hs hp hb hlo hd hq hr63
      · simp only [numT, if_neg hr63]
        exact c22_numE H b s p m lo x4 hx4 h4 (by omega) hr hs hp hb hlo hd (fun r' hr' => by rw [hq] at hr'; cases hr'; omega)
  | false =>
    simp only [Bool.false_eq_true, if_false]
    by_cases h34 : bt s p = 34
    · simp only [if_pos h34]
      obtain ⟨H', f, e⟩ := c22_text H b s p m lo hr hs hp hb hlo h34
      refine ⟨H', f, ?_⟩
      rw [e]
      cases txtF s (s.size + 1) (p + 1) [] with
      | none => rfl
      | some q => rfl
    · simp only [if_neg h34]
      by_cases h39 : bt s p = 39
      · simp only [if_pos h39]
        exact c22_var H b s p m lo hr hs hp hb hlo h39
      · simp only [if_neg h39]
        by_cases hw : smallB (bt s p) = true ∨ greatB (bt s p) = true
        · rw [if_pos (by simpa using hw)]
          exact c22_word H b s p m lo kwL hr hm hml hs hp hb hlo hw
        · rw [if_neg (by simpa using hw)]
          have h1 : smallB (bt s p) = false := by cases h : smallB (bt s p) <;> simp_all
          have h2 : greatB (bt s p) = false := by cases h : greatB (bt s p) <;> simp_all
          obtain ⟨H', f, e⟩ := c22_sign x0 signsL (signs_fields hx0) (by decide) H b s p m lo hr h0 hs hp hb hlo hd h1 h2 h34 h39
          refine ⟨H', f, ?_⟩
          rw [e]
          cases signF s p signsL with
          | none => rfl
          | some q => rfl
end Go.Proofs.YtjbcjcibnjbpcaaDoor.Idl
namespace Go.Proofs.YtjbcjcibnjbpcaaDoor.Idl
open Go
set_option maxHeartbeats 8000000
set_option linter.unusedSimpArgs false
structure RT (J : Env) (st e : TypeId) (n by_ : Nat) (z : Value) : Prop where
  und : J.und st = some (.slice e)
  size : J.size e = some n
  bytes : J.bytes e = some by_
  zero : J.zero e = some z
  zs : z.cells.size = n
  n0 : 0 < n
  b0 : 0 < by_
  b1 : by_ ≤ 2 ^ 10
def RsAt (e : TypeId) (n : Nat) (H : IH) (v : Value) (l : List (List Value)) (lo : Nat) : Prop :=
  (∀ x ∈ l, x.length = n ∧ x.all plain1 = true) ∧
  ((v = .slice none 0 0 ∧ l = []) ∨ ∃ b, lo ≤ b ∧ b < H.next ∧ v = .slice (some ⟨b, 0, none⟩) l.length capU ∧ H.get b = some (.cells l.flatten e false))
theorem flatten_len (n : Nat) : ∀ l : List (List Value), (∀ x ∈ l, x.length = n) → l.flatten.length = l.length * n := by
  intro l
  induction l with
  | nil => intro _; simp
  | cons a l ih =>
    intro h
    rw [List.flatten_cons, List.length_append, h a (by simp), ih (fun x hx => h x (by simp [hx])), List.length_cons, Nat.add_mul]
    omega
theorem RsAt.mono {e : TypeId} {n : Nat} {H H' : IH} {v : Value} {l : List (List Value)} {lo : Nat} (h : RsAt e n H v l lo) (hn : H.next ≤ H'.next) (hf : ∀ x, lo ≤ x → x < H.next → H'.get x = H.get x) : RsAt e n H' v l lo := by
  refine ⟨h.1, ?_⟩
  rcases h.2 with a | ⟨b, h1, h2, h3, h4⟩
  · exact .inl a
  · exact .inr ⟨b, h1, by omega, h3, by rw [hf b h1 h2]; exact h4⟩
theorem rsApp {J : Env} {st e : TypeId} {n by_ : Nat} {z : Value} (hT : RT J st e n by_ z) {H : IH} {v : Value} {l : List (List Value)} {lo : Nat} (hv : RsAt e n H v l lo) (hlo : lo ≤ H.next) (hl : l.length < 2 ^ 20) (c : List Value)
    (hc : c.length = n) (hp : c.all plain1 = true) :
    ∃ v' H', iappend J #[st, st] v (.slice (some ⟨H.next, 0, none⟩) 1 1) (H.push (.cells c e false)) = some (v', H') ∧ RsAt e n H' v' (l ++ [c]) lo ∧ H.next ≤ H'.next ∧ ∀ x, x < lo → H'.get x = H.get x := by
  have hT0 := hT
  obtain ⟨u1, u2, u3, u4, u5, u6, u7, u8⟩ := hT
  have hp' : ∀ x ∈ c, plain1 x = true := by simpa using hp
  have hall : ∀ x ∈ l ++ [c], x.length = n ∧ x.all plain1 = true := fun x hx => by
    rcases List.mem_append.1 hx with h | h
    · exact hv.1 x h
    · simp at h; subst h; exact ⟨hc, hp⟩
  have htk : c.take n = c := List.take_of_length_le (by omega)
  have hle : n ≤ c.length := by omega
  have hby : 3 * by_ ≤ 2 ^ 47 := by omega
  have hb30 : by_ ≤ 2 ^ 30 := by omega
  rcases hv.2 with ⟨rfl, rfl⟩ | ⟨b, h1, h2, rfl, h4⟩
  · refine ⟨.slice (some ⟨H.next + 1, 0, none⟩) 1 capU, (H.push (.cells c e false)).push (.cells c e false), ?_, ⟨hall, .inr ⟨H.next + 1, by omega, by simp, by simp, ?_⟩⟩, by simp; omega, fun x hx => ?_⟩
    · simp [iappend, u1, u2, u3, u4, u5, ilenOf, ifirst, icells, u7, hle, htk, hc, hby, hb30]
    · have : H.next + 1 = (H.push (.cells c e false)).next := rfl
      rw [this, IH.get_push_same]; simp
    · rw [IH.get_push_other _ _ _ (by simp; omega), IH.get_push_other _ _ _ (by omega)]
  · have hb : (H.push (.cells c e false)).get b = some (.cells l.flatten e false) := by rw [IH.get_push_other _ _ _ h2]; exact h4
    have hfl := flatten_len n l (fun x hx => (hv.1 x hx).1)
    have htk2 : l.flatten.take (l.length * n) = l.flatten := List.take_of_length_le (by omega)
    have hle2 : l.length * n ≤ l.flatten.length := by omega
    have hcap : ((l.length + 1) * (3 * by_) ≤ 2 ^ 47) := by
      have : (l.length + 1) * (3 * by_) ≤ 2 ^ 21 * (3 * 2 ^ 10) := Nat.mul_le_mul (by omega) (by omega)
      omega
    refine ⟨.slice (some ⟨H.next + 1, 0, none⟩) (l.length + 1) capU, ((H.push (.cells c e false)).set b .dead).push (.cells (l.flatten ++ c) e false), ?_, ⟨hall, .inr ⟨H.next + 1, by omega, by simp, by simp, ?_⟩⟩, by simp; omega, fun x hx => ?_⟩
    · simp [iappend, u1, u2, u3, u4, u5, ilenOf, ifirst, icells, u7, hle, htk, hc, hb, hcap, hb30, capU, htk2]
      exact ⟨by rw [← List.length_flatten]; exact hle2, hp'⟩
    · have : H.next + 1 = ((H.push (.cells c e false)).set b .dead).next := rfl
      rw [this, IH.get_push_same]; simp
    · rw [IH.get_push_other _ _ _ (by simp; omega), IH.get_set_other _ _ _ _ (by omega), IH.get_push_other _ _ _ (by omega)]
theorem rt23 : RT J 23 31 4 40 (.agg #[.int .i64 0, .int .i64 0, .string ⟨#[]⟩, .int .i64 0]) := ⟨by simp, by simp, by simp, by simp, rfl, by omega, by omega, by omega⟩
theorem bs23 (H : IH) (a b c d : Value) : ibuildSlice J 23 1 [(0, .agg #[a, b, c, d])] H = some (.slice (some ⟨H.next, 0, none⟩) 1 1, H.push (.cells [a, b, c, d] 31 false)) := by kernel_rfl
def tkC (q : Nat × Tk) : List Value := [.int .i64 q.2.kind, .int .i64 (q.1 : Int), .string q.2.text, .int .i64 q.2.n]
def TksAt (H : IH) (v : Value) (l : List (Nat × Tk)) (lo : Nat) : Prop := RsAt 31 4 H v (l.map tkC) lo
end Go.Proofs.YtjbcjcibnjbpcaaDoor.Idl
namespace Go.Proofs.YtjbcjcibnjbpcaaDoor.Idl
open Go
set_option maxHeartbeats 8000000
set_option linter.unusedSimpArgs false
/-- What Lex answers: the tokens with their places; or an error and its place. -/
inductive LR where
  | ok (l : List (Nat × Tk))
  | err (e : Int) (at_ : Nat)
def LR.toks : LR → List (Nat × Tk)
  | .ok l => l
  | .err _ _ => []
def LR.errno : LR → Int
  | .ok _ => 0
  | .err e _ => e
def LR.pos : LR → Nat
  | .ok _ => 0
  | .err _ p => p
def lexF (s : ByteArray) : Nat → Nat → List (Nat × Tk) → LR
  | 0, _, _ => .err 0 0
  | k + 1, p, acc =>
    if 0 ≤ (skipL s (s.size + 1) p).2 then .err 10 (skipL s (s.size + 1) p).2.toNat
    else if (skipL s (s.size + 1) p).1 = s.size then .ok acc
    else if (tokF s (skipL s (s.size + 1) p).1).ok = false then .err 10 (skipL s (s.size + 1) p).1
    else if acc.length = 4000 then .err 2 (skipL s (s.size + 1) p).1
    else lexF s k (tokF s (skipL s (s.size + 1) p).1).fin (acc ++ [((skipL s (s.size + 1) p).1, tokF s (skipL s (s.size + 1) p).1)])
theorem skipL_ge (s : ByteArray) : ∀ (n p : Nat), p ≤ (skipL s n p).1 ∧ ((skipL s n p).2 = -1 ∨ (skipL s n p).2 = (skipL s n p).1) := by
  intro n
  induction n with
  | zero => intro p; simp [skipL]
  | succ n ih =>
    intro p
    simp only [skipL]
    split
    · split
      · have := ih (p + 1); exact ⟨by omega, this.2⟩
      · split
        · split
          · exact ⟨Nat.le_refl _, .inr rfl⟩
          · rename_i h
            have h2 := ih (remL s (s.size + 1) 0 p).toNat
            have h3 := remL_gt s (s.size + 1) p (remL s (s.size + 1) 0 p).toNat 0 (by omega)
            exact ⟨by omega, h2.2⟩
        · exact ⟨Nat.le_refl _, .inl rfl⟩
    · exact ⟨Nat.le_refl _, .inl rfl⟩
theorem txtF_end (s : ByteArray) : ∀ (n i : Nat) (l : List Int) (r : List Int × Nat), txtF s n i l = some r → i < r.2 ∧ r.2 ≤ s.size := by
  intro n
  induction n with
  | zero => intro i l r h; simp [txtF] at h
  | succ n ih =>
    intro i l r h
    simp only [txtF] at h
    split at h
    · rename_i hlt
      split at h
      · cases h; exact ⟨Nat.lt_succ_self _, hlt⟩
      · split at h
        · cases h
        · split at h
          · have := ih _ _ _ h; omega
          · split at h
            · cases h
            · have := ih _ _ _ h; omega
    · cases h
theorem signF_mem (s : ByteArray) (p : Nat) : ∀ (S : List ByteArray) (x : ByteArray), signF s p S = some x → x ∈ S ∧ prefixB (s.extract p s.size) x = true := by
  intro S
  induction S with
  | nil => intro x h; simp [signF] at h
  | cons y S ih =>
    intro x h
    simp only [signF] at h
    split at h
    · rename_i hp; cases h; exact ⟨by simp, hp⟩
    · have := ih x h; exact ⟨by simp [this.1], this.2⟩
theorem signs_pos : ∀ x ∈ signsL, 0 < x.size := by decide
theorem letter_of_small {c : Int} (h : smallB c = true ∨ greatB c = true) : letterB c = true := by
  rcases h with h | h <;> simp [letterB, h]
theorem tokF_end (s : ByteArray) (p : Nat) (hp : p < s.size) (h : (tokF s p).ok = true) : p < (tokF s p).fin ∧ (tokF s p).fin ≤ s.size := by
  revert h
  unfold tokF
  cases hd : digitB (bt s p) with
  | true =>
    simp only [if_true]
    intro h
    have h1 := span_lt digitB s p hp hd
    have h2 := span_range digitB s p (by omega)
    revert h
    generalize numF (s.extract p (span digitB s p)) ((s.extract p (span digitB s p)).size + 1) 0 0 = r
    intro h
    cases r with
    | none => exact ⟨h1, h2.2⟩
    | some r => simp only [numT]; split <;> exact ⟨h1, h2.2⟩
  | false =>
    simp only [Bool.false_eq_true, if_false]
    by_cases h34 : bt s p = 34
    · simp only [if_pos h34]
      intro h
      cases ht : txtF s (s.size + 1) (p + 1) [] with
      | none => rw [ht] at h; cases h
      | some q =>
        have := txtF_end s _ _ _ _ ht
        exact ⟨by simp only [txtT]; omega, this.2⟩
    · simp only [if_neg h34]
      by_cases h39 : bt s p = 39
      · simp only [if_pos h39]
        intro h
        have h2 := span_range letterB s (p + 1) (by omega)
        simp only [decide_eq_true_eq] at h
        exact ⟨by omega, h2.2⟩
      · simp only [if_neg h39]
        by_cases hw : smallB (bt s p) = true ∨ greatB (bt s p) = true
        · rw [if_pos (by simpa using hw)]
          intro h
          exact ⟨span_lt letterB s p hp (letter_of_small hw), (span_range letterB s p (by omega)).2⟩
        · rw [if_neg (by simpa using hw)]
          intro h
          cases hs : signF s p signsL with
          | none => rw [hs] at h; cases h
          | some x =>
            obtain ⟨a, b⟩ := signF_mem s p _ _ hs
            have := signs_pos x a
            have := prefixB_size s x p (by omega) b
            exact ⟨by simp only [signT]; omega, this⟩
end Go.Proofs.YtjbcjcibnjbpcaaDoor.Idl
namespace Go.Proofs.YtjbcjcibnjbpcaaDoor.Idl
open Go
set_option maxHeartbeats 8000000
set_option linter.unusedSimpArgs false
theorem Fr.trans' {lo lo2 : Nat} {H H1 H2 : IH} (h : Fr lo H H1) (h' : Fr lo2 H1 H2) (hle : lo ≤ lo2) : Fr lo H H2 := ⟨Nat.le_trans h.1 h'.1, fun x hx => (h'.2 x (by omega)).trans (h.2 x hx)⟩
theorem loop13 (s : ByteArray) (b m lo0 lo : Nat) (hs : s.size < 2 ^ 39) (h9 : 9 ≤ lo0) (hb0 : lo0 ≤ b) (hb1 : b < lo) (hm1 : m < lo) : ∀ (k p : Nat) (acc : List (Nat × Tk)) (H : IH) (T : Regs) (v : Value),
    s.size < k + p → p ≤ s.size → acc.length ≤ 4000 → Glob H → Rd H b s p m → H.get m = some (.map (wmap kwL) false) → lo ≤ H.next → TksAt H v acc lo → m ≠ b →
    T.at 0 = .string s → T.at 5 = .pointer (some ⟨b, 0, none⟩) → T.at 6 = .func (.func 22) #[.pointer (some ⟨b, 0, none⟩)] #[] → T.at 7 = v →
    ∃ T' H', run J okAll (.loop L13_0) T H = some (.ret, T', H') ∧ Fr lo0 H H' ∧ T'.at 3 = .int .i64 (lexF s k p acc).errno ∧ T'.at 4 = .int .i64 ((lexF s k p acc).pos : Int) ∧ TksAt H' (T'.at 2) (lexF s k p acc).toks lo := by
  intro k
  induction k with
  | zero => intro p acc H T v h1 h2; omega
  | succ k ih =>
    intro p acc H T v h1 h2 hac hG hr hm hlo hv hmb t0 t5 t6 t7
    obtain ⟨e23, hsk⟩ := c23 H b s p m hr (by omega) h2
    obtain ⟨sg, sv⟩ := skipL_ge s (s.size + 1) p
    have nil : ∀ H : IH, TksAt H (.slice none 0 0) [] lo := fun H => ⟨by simp, .inl ⟨rfl, rfl⟩⟩
    by_cases hneg : 0 ≤ (skipL s (s.size + 1) p).2
    · have hq : (skipL s (s.size + 1) p).2 = ((skipL s (s.size + 1) p).1 : Int) := by omega
      have hlex : lexF s (k + 1) p acc = .err 10 (skipL s (s.size + 1) p).1 := by
        simp only [lexF]; rw [if_pos hneg, hq]; simp
      rw [hlex]
      generalize hQ : skipL s (s.size + 1) p = q at *
      rw [hq] at e23
      have : ∃ T', run J okAll (.loop L13_0) T H = some (.ret, T', H.set b (rdB s q.1 m)) ∧ T'.at 3 = .int .i64 10 ∧ T'.at 4 = .int .i64 (q.1 : Int) ∧ T'.at 2 = .slice none 0 0 := by
        rw [r_loop]
        simp [L13_0, t0, t5, t6, t7, e23]
      obtain ⟨T', e, a3, a4, a2⟩ := this
      exact ⟨T', _, e, (Fr.refl _ _).set hb0 _, a3, a4, by rw [a2]; exact nil _⟩
    · have hq2 : (skipL s (s.size + 1) p).2 = -1 := by omega
      generalize hQ : skipL s (s.size + 1) p = q at *
      rw [hq2] at e23
      have hR : Rd (H.set b (rdB s q.1 m)) b s q.1 m := rd_set H b s q.1 m
      have hRd := hR
      unfold Rd at hRd
      have hf1 : Fr lo0 H (H.set b (rdB s q.1 m)) := (Fr.refl _ _).set hb0 _
      have hG1 : Glob (H.set b (rdB s q.1 m)) := hG.mono h9 hf1
      by_cases hend : q.1 = s.size
      · have hlex : lexF s (k + 1) p acc = .ok acc := by
          simp only [lexF]; rw [hQ, if_neg hneg, if_pos hend]
        rw [hlex]
        have hendD : decide ((q.1 : Int) = (s.size : Int)) = true := decide_eq_true (by omega)
        have : ∃ T', run J okAll (.loop L13_0) T H = some (.ret, T', H.set b (rdB s q.1 m)) ∧ T'.at 3 = .int .i64 0 ∧ T'.at 4 = .int .i64 0 ∧ T'.at 2 = v := by
          rw [r_loop]
          simp [L13_0, t0, t5, t6, t7, e23, hRd, hendD]
        obtain ⟨T', e, a3, a4, a2⟩ := this
        refine ⟨T', _, e, hf1, a3, a4, ?_⟩
        rw [a2]
        have hvb := hv
        refine hv.mono (by simp) (fun x hx1 hx2 => ?_)
        rw [IH.get_set_other _ _ _ _ (by omega)]
      · have hendD : decide ((q.1 : Int) = (s.size : Int)) = false := decide_eq_false (by omega)
        have hqlt : q.1 < s.size := by rcases hsk with ⟨_, h⟩ | h <;> omega
        have hv1 : TksAt (H.set b (rdB s q.1 m)) v acc lo := hv.mono (by simp) (fun x hx1 hx2 => by rw [IH.get_set_other _ _ _ _ (by omega)])
        obtain ⟨H2, f2, e22⟩ := c22 (H.set b (rdB s q.1 m)) b s q.1 m (H.set b (rdB s q.1 m)).next hG1 hR (by rw [IH.get_set_other _ _ _ _ hmb]; exact hm) (by simp; omega) hs hqlt (by simp; omega) (Nat.le_refl _)
        have hlo2 : lo ≤ (H.set b (rdB s q.1 m)).next := by simpa using hlo
        have hv2 : TksAt H2 v acc lo := hv1.mono f2.1 (fun x hx1 hx2 => f2.2 x hx2)
        have hb2 : b < (H.set b (rdB s q.1 m)).next := by simp; omega
        have hR2 : Rd H2 b s q.1 m := by unfold Rd; rw [f2.2 b hb2]; exact hRd
        have hm2 : H2.get m = some (.map (wmap kwL) false) := by rw [f2.2 m (by simp; omega), IH.get_set_other _ _ _ _ hmb]; exact hm
        have hf2 : Fr lo0 H H2 := hf1.trans' f2 (by omega)
        have hG2 : Glob H2 := hG.mono h9 hf2
        have hn2 : lo ≤ H2.next := by have := f2.1; omega
        have hbn : ¬ b = H2.next := by omega
        have hRd2 := hR2
        unfold Rd at hRd2
        have hte := tokF_end s q.1 hqlt
        generalize hTk : tokF s q.1 = tk at *
        cases hok : tk.ok with
        | false =>
          have hlex : lexF s (k + 1) p acc = .err 10 q.1 := by
            simp only [lexF]; rw [hQ, if_neg hneg, if_neg hend, hTk, if_pos hok]
          rw [hlex]
          have : ∃ T' H', run J okAll (.loop L13_0) T H = some (.ret, T', H') ∧ Fr lo0 H H' ∧ T'.at 3 = .int .i64 10 ∧ T'.at 4 = .int .i64 (q.1 : Int) ∧ T'.at 2 = .slice none 0 0 := by
            rw [r_loop]
            simp [L13_0, t0, t5, t6, t7, e23, hRd, hendD, e22, Tk.val, tokV, hok, inew, istore, Value.cells, plain1, overlay, IH.get_push, IH.get_set, hbn, hRd2]
            exact ⟨_, _, ⟨rfl, rfl⟩, by
              repeat (first | refine Fr.set ?_ (by omega) _ | refine Fr.push ?_ (by first | omega | (simp; omega)) _)
              exact hf2, by simp, by simp, by simp⟩
          obtain ⟨T', H', e, a1, a3, a4, a2⟩ := this
          exact ⟨T', _, e, a1, a3, a4, by rw [a2]; exact nil _⟩
        | true =>
          have hte := hte hok
          by_cases h4k : acc.length = 4000
          · have hlex : lexF s (k + 1) p acc = .err 2 q.1 := by
              simp only [lexF]; rw [hQ, if_neg hneg, if_neg hend, hTk, if_neg (by simp [hok]), if_pos h4k]
            rw [hlex]
            have hvl : ∃ ba, v = .slice ba 4000 capU := by
              rcases hv.2 with ⟨_, h⟩ | ⟨bb, _, _, h, _⟩
              · rw [List.map_eq_nil_iff] at h; rw [h] at h4k; cases h4k
              · rw [List.length_map, h4k] at h; exact ⟨_, h⟩
            obtain ⟨ba, rfl⟩ := hvl
            have : ∃ T' H', run J okAll (.loop L13_0) T H = some (.ret, T', H') ∧ Fr lo0 H H' ∧ T'.at 3 = .int .i64 2 ∧ T'.at 4 = .int .i64 (q.1 : Int) ∧ T'.at 2 = .slice none 0 0 := by
              rw [r_loop]
              simp [L13_0, t0, t5, t6, t7, e23, hRd, hendD, e22, Tk.val, tokV, hok, inew, istore, Value.cells, plain1, overlay, IH.get_push, IH.get_set, hbn, hRd2]
              exact ⟨_, _, ⟨rfl, rfl⟩, by
              repeat (first | refine Fr.set ?_ (by omega) _ | refine Fr.push ?_ (by first | omega | (simp; omega)) _)
              exact hf2, by simp, by simp, by simp⟩
            obtain ⟨T', H', e, a1, a3, a4, a2⟩ := this
            exact ⟨T', _, e, a1, a3, a4, by rw [a2]; exact nil _⟩
          · have hlex : lexF s (k + 1) p acc = lexF s k tk.fin (acc ++ [(q.1, tk)]) := by
              simp only [lexF]; rw [hQ, if_neg hneg, if_neg hend, hTk, if_neg (by simp [hok]), if_neg h4k]
            rw [hlex]
            have hvl : ∃ ba c, v = .slice ba acc.length c := by
              rcases hv.2 with ⟨h1, h⟩ | ⟨bb, _, _, h, _⟩
              · rw [List.map_eq_nil_iff] at h; subst h; exact ⟨_, _, h1⟩
              · rw [List.length_map] at h; exact ⟨_, _, h⟩
            obtain ⟨ba, cv, hvs⟩ := hvl
            have h4kD : decide ((acc.length : Int) = 4000) = false := decide_eq_false (by omega)
            -- the memory behind the token's cell
            subst hvs
            have hvp : TksAt (H2.push (.cells [.int .i64 tk.kind, .int .i64 (q.1 : Int), .string tk.text, .int .i64 tk.n] 31 false)) (.slice ba acc.length cv) acc lo := hv2.mono (by simp) (fun x hx1 hx2 => IH.get_push_other _ _ _ hx2)
            obtain ⟨v', H3, ea, hv3, hn3, hf3⟩ := rsApp rt23 hvp (by simp; omega) (by simp; omega) (tkC (q.1, tk)) rfl (by simp [tkC, plain1])
            simp only [tkC, IH.next_push] at ea
            have hb3 : H3.get b = some (.cells [.string s, .int .i64 (q.1 : Int), .map (some m)] 46 false) := by rw [hf3 b hb1, IH.get_push_other _ _ _ (by omega)]; exact hRd2
            have : ∃ T1, run J okAll (.loop L13_0) T H = run J okAll (.loop L13_0) T1 (H3.set b (rdB s tk.fin m)) ∧ T1.at 0 = .string s ∧ T1.at 5 = .pointer (some ⟨b, 0, none⟩) ∧ T1.at 6 = .func (.func 22) #[.pointer (some ⟨b, 0, none⟩)] #[] ∧ T1.at 7 = v' := by
              rw [r_loop]
              simp [L13_0, t0, t5, t6, t7, e23, hRd, hendD, e22, Tk.val, tokV, hok, inew, istore, Value.cells, plain1, overlay, IH.get_push, IH.get_set, hbn, hRd2, h4kD, iparts, bs23, push_set, ea, hb3]
              exact ⟨_, rfl, by simp [t0], by simp [t5], by simp [t6], by simp⟩
            obtain ⟨T1, e0, f0, f5, f6, f7⟩ := this
            rw [e0]
            have hn3' : H2.next + 1 ≤ H3.next := by simpa using hn3
            have hfa : Fr lo0 H (H3.set b (rdB s tk.fin m)) := by
              refine Fr.set ?_ hb0 _
              refine ⟨by have := hf2.1; omega, fun x hx => ?_⟩
              rw [hf3 x (by omega), IH.get_push_other _ _ _ (by omega)]
              exact hf2.2 x hx
            obtain ⟨T', H', r1, r2, r3, r4, r5⟩ := ih tk.fin (acc ++ [(q.1, tk)]) (H3.set b (rdB s tk.fin m)) T1 v' (by omega) hte.2 (by simp; omega) (hG.mono h9 hfa) (rd_set H3 b s tk.fin m)
              (by rw [IH.get_set_other _ _ _ _ hmb, hf3 m hm1, IH.get_push_other _ _ _ (by omega)]; exact hm2) (by simp; omega)
              (by
                unfold TksAt
                rw [List.map_append]
                exact hv3.mono (by simp) (fun x hx1 hx2 => by rw [IH.get_set_other _ _ _ _ (by omega)]))
              hmb f0 f5 f6 f7
            refine ⟨T', H', r1, ?_, r3, r4, r5⟩
            exact hfa.trans r2
end Go.Proofs.YtjbcjcibnjbpcaaDoor.Idl
namespace Go.Proofs.YtjbcjcibnjbpcaaDoor.Idl
open Go
set_option maxHeartbeats 8000000
set_option linter.unusedSimpArgs false
theorem RsAt.low {e : TypeId} {n : Nat} {H : IH} {v : Value} {l : List (List Value)} {lo lo' : Nat} (h : RsAt e n H v l lo) (hl : lo' ≤ lo) : RsAt e n H v l lo' := by
  refine ⟨h.1, ?_⟩
  rcases h.2 with a | ⟨b, h1, h2⟩
  · exact .inl a
  · exact .inr ⟨b, by omega, h2⟩
def lexR (s : ByteArray) : LR := if 16384 < s.size then .err 2 0 else lexF s (s.size + 1) 0 []
theorem bl46 (s : ByteArray) (m : Nat) : ibuild J 46 [(0, .string s), (2, .map (some m))] = some (.agg #[.string s, .int .i64 0, .map (some m)]) := by kernel_rfl
theorem c13 (H : IH) (s : ByteArray) (hG : Glob H) (hs : s.size < 2 ^ 39) :
    ∃ H' v, Fr H.next H H' ∧ cal J okAll 13 #[.string s] H = some (.ret (.tuple #[v, .int .i64 (lexR s).errno, .int .i64 ((lexR s).pos : Int)]), H') ∧ TksAt H' v (lexR s).toks H.next := by
  unfold lexR
  rw [cal13 _ _ (by simp)]
  by_cases hbig : 16384 < s.size
  · rw [if_pos hbig]
    refine ⟨H, .slice none 0 0, Fr.refl _ _, ?_, ⟨by simp [LR.toks], .inl ⟨rfl, rfl⟩⟩⟩
    have hbD : decide ((16384 : Int) < s.size) = true := decide_eq_true (by omega)
    simp [C13, R13, regsOf, fin, iresult1, hbD, LR.errno, LR.pos]
  · rw [if_neg hbig]
    have hG0 := hG
    obtain ⟨⟨x0, hx0, h0⟩, _, hn⟩ := hG0
    obtain ⟨H1, f1, hn1, e1, hm1⟩ := c21 H hx0 h0 (by omega)
    have key := fun T v => loop13 s H1.next H.next H.next (H1.next + 1) hs hn (by omega) (by omega) (by omega) (s.size + 1) 0 [] (H1.push (rdB s 0 H.next)) T v (by omega) (by omega) (by simp)
      (hG.mono hn (f1.push (by omega) _)) (by simp [Rd, rdB]) (by rw [IH.get_push_other _ _ _ hn1]; exact hm1) (by simp)
    have hbD : decide ((16384 : Int) < s.size) = false := decide_eq_false (by omega)
    simp [C13, R13, regsOf, fin, iresult1, hbD, hbig, e1, iparts, bl46, Value.cells, inew]
    generalize hX : run J okAll (.loop L13_0) _ _ = X
    obtain ⟨T1, e2, t0, t5, t6, t7⟩ : ∃ T1, run J okAll (.loop L13_0) T1 (H1.push (rdB s 0 H.next)) = X ∧ T1.at 0 = .string s ∧ T1.at 5 = .pointer (some ⟨H1.next, 0, none⟩) ∧ T1.at 6 = .func (.func 22) #[.pointer (some ⟨H1.next, 0, none⟩)] #[] ∧ T1.at 7 = .slice none 0 0 :=
      ⟨_, hX, by simp, by simp, by simp, by simp⟩
    obtain ⟨T', H', r1, r2, r3, r4, r5⟩ := key T1 (.slice none 0 0) ⟨by simp, .inl ⟨rfl, rfl⟩⟩ (by omega) t0 t5 t6 t7
    rw [← e2, r1]
    simp [r3, r4, fin, iresult1]
    refine ⟨_, ?_, _, ⟨rfl, rfl⟩, r5.low (by omega)⟩
    exact (f1.push (by omega) _).trans r2
end Go.Proofs.YtjbcjcibnjbpcaaDoor.Idl
namespace Go.Proofs.YtjbcjcibnjbpcaaDoor.Idl
open Go
set_option maxHeartbeats 4000000
set_option linter.unusedSimpArgs false
@[simp] theorem c33 (c : Int) (H : IH) : cal J okAll 33 #[.int .u8 c] H = some (.ret (.bool (digitB c)), H) := by
  rw [cal33 _ _ (by simp)]
  cases h : decide (48 ≤ c) <;> simp [C33, R33, regsOf, fin, iresult1, h, digitB]
@[simp] theorem c36 (c : Int) (H : IH) : cal J okAll 36 #[.int .u8 c] H = some (.ret (.bool (greatB c)), H) := by
  rw [cal36 _ _ (by simp)]
  cases h : decide (65 ≤ c) <;> simp [C36, R36, regsOf, fin, iresult1, h, greatB]
@[simp] theorem c37 (c : Int) (H : IH) : cal J okAll 37 #[.int .u8 c] H = some (.ret (.bool (smallB c)), H) := by
  rw [cal37 _ _ (by simp)]
  cases h : decide (97 ≤ c) <;> simp [C37, R37, regsOf, fin, iresult1, h, smallB]
@[simp] theorem c32 (c : Int) (H : IH) : cal J okAll 32 #[.int .u8 c] H = some (.ret (.bool (letterB c)), H) := by
  rw [cal32 _ _ (by simp)]
  cases h1 : digitB c <;> cases h2 : smallB c <;> cases h3 : greatB c <;> cases h4 : decide (c = 95) <;> simp [C32, R32, regsOf, fin, iresult1, h1, h2, h3, h4, letterB]
theorem c41 (s t : ByteArray) (H : IH) : cal J okAll 41 #[.string s, .string t] H = some (.ret (.bool (prefixB s t)), H) := by
  rw [cal41 _ _ (by simp)]
  cases h : decide ((t.size : Int) ≤ s.size) with
  | true =>
    have h' := of_decide_eq_true h
    have hle : t.size ≤ s.size := by omega
    have hs := sliceS_some s 0 t.size (by omega) hle
    simp [C41, R41, regsOf, fin, iresult1, h, hs, prefixB, hle]
  | false =>
    have h' := of_decide_eq_false h
    have hle : ¬ t.size ≤ s.size := by omega
    simp [C41, R41, regsOf, fin, iresult1, h, prefixB, hle]
end Go.Proofs.YtjbcjcibnjbpcaaDoor.Idl
namespace Go.Proofs.YtjbcjcibnjbpcaaDoor.Idl
open Go
set_option maxHeartbeats 8000000
set_option linter.unusedSimpArgs false
def amongF (x : ByteArray) : List ByteArray → Bool
  | [] => false
  | y :: r => if y = x then true else amongF x r
theorem loop38 (H : IH) (g cap : Nat) (x : ByteArray) (S : List ByteArray) (pr : Bool) (hg : H.get g = some (.cells (S.map Value.string) 9 pr)) (hS : S.length < 2 ^ 39) : ∀ (n i : Nat) (T : Regs), S.length - i = n → i ≤ S.length →
    T.at 0 = .string x → T.at 4 = .bool false → T.at 7 = .slice (some ⟨g, 0, none⟩) S.length cap → T.at 8 = .int .i64 (S.length : Int) → T.at 9 = .int .i64 (i : Int) →
    (∃ T', run J okAll (.loop L38_0) T H = some (.exit 0, T', H) ∧ amongF x (S.drop i) = false) ∨
    ∃ T', run J okAll (.loop L38_0) T H = some (.ret, T', H) ∧ amongF x (S.drop i) = true ∧ T'.at 4 = .bool true := by
  intro n
  induction n with
  | zero =>
    intro i T hn hi t0 t4 t7 t8 t9
    have hlt : ¬ ((i : Int) < S.length) := by omega
    have : S.drop i = [] := List.drop_of_length_le (by omega)
    rw [this, r_loop]
    simp [L38_0, t0, t4, t7, t8, t9, hlt, amongF]
  | succ n ih =>
    intro i T hn hi t0 t4 t7 t8 t9
    have hlt : i < S.length := by omega
    have hgi : (S.map Value.string)[i]? = some (.string S[i]) := by simp [hlt]
    have w1 : IntKind.i64.wrap ((i : Int) + 1) = (i : Int) + 1 := wrap64 _ (by omega) (by omega)
    have hd : S.drop i = S[i] :: S.drop (i + 1) := List.drop_eq_getElem_cons hlt
    rw [hd]
    cases hx : decide (S[i] = x) with
    | true =>
      right
      have hx' := of_decide_eq_true hx
      have : ∃ T', run J okAll (.loop L38_0) T H = some (.ret, T', H) ∧ T'.at 4 = .bool true := by
        rw [r_loop]
        simp [L38_0, t0, t4, t7, t8, t9, hlt, iindexAddr, hg, hgi, hx]
      obtain ⟨T', e, a⟩ := this
      exact ⟨T', e, by simp [amongF, hx'], a⟩
    | false =>
      have hx' := of_decide_eq_false hx
      have : ∃ T1, run J okAll (.loop L38_0) T H = run J okAll (.loop L38_0) T1 H ∧ T1.at 0 = .string x ∧ T1.at 4 = .bool false ∧ T1.at 7 = .slice (some ⟨g, 0, none⟩) S.length cap ∧ T1.at 8 = .int .i64 (S.length : Int) ∧ T1.at 9 = .int .i64 ((i : Int) + 1) := by
        rw [r_loop]
        simp [L38_0, t0, t4, t7, t8, t9, hlt, iindexAddr, hg, hgi, hx, w1]
        exact ⟨_, rfl, by simp [t0], by simp [t4], by simp [t7], by simp [t8], by simp⟩
      obtain ⟨T1, e0, f0, f4, f7, f8, f9⟩ := this
      have ha : amongF x (S[i] :: S.drop (i + 1)) = amongF x (S.drop (i + 1)) := by simp [amongF, hx']
      rw [e0, ha]
      exact ih (i + 1) T1 (by omega) (by omega) f0 f4 f7 f8 (by rw [f9]; simp)
theorem c38 (H : IH) (g cap : Nat) (x : ByteArray) (S : List ByteArray) (pr : Bool) (hg : H.get g = some (.cells (S.map Value.string) 9 pr)) (hS : S.length < 2 ^ 39) :
    cal J okAll 38 #[.string x, .slice (some ⟨g, 0, none⟩) S.length cap] H = some (.ret (.bool (amongF x S)), H) := by
  rw [cal38 _ _ (by simp)]
  have key := fun T => loop38 H g cap x S pr hg hS _ 0 T rfl (by omega)
  simp [C38, R38, regsOf, fin, iresult1]
  generalize hX : run J okAll (.loop L38_0) _ _ = X
  obtain ⟨T1, e1, t0, t4, t7, t8, t9⟩ : ∃ T1, run J okAll (.loop L38_0) T1 H = X ∧ T1.at 0 = .string x ∧ T1.at 4 = .bool false ∧ T1.at 7 = .slice (some ⟨g, 0, none⟩) S.length cap ∧ T1.at 8 = .int .i64 (S.length : Int) ∧ T1.at 9 = .int .i64 ((0 : Nat) : Int) :=
    ⟨_, hX, by simp, by simp, by simp, by simp, by simp⟩
  rw [← e1]
  rcases key T1 t0 t4 t7 t8 t9 with ⟨T', h1, h2⟩ | ⟨T', h1, h2, h3⟩
  · rw [h1]; simp only [List.drop_zero] at h2; simp [h2, fin, iresult1]
  · rw [h1]; simp only [List.drop_zero] at h2; simp [h2, h3, fin, iresult1]
theorem bwords (H : IH) : ibuildSlice J 67 20 [(0, .string ⟨#[108, 101, 116]⟩), (1, .string ⟨#[118, 97, 108]⟩), (2, .string ⟨#[102, 117, 110]⟩), (3, .string ⟨#[97, 110, 100]⟩), (4, .string ⟨#[105, 110]⟩), (5, .string ⟨#[101, 110, 100]⟩), (6, .string ⟨#[105, 102]⟩), (7, .string ⟨#[116, 104, 101, 110]⟩), (8, .string ⟨#[101, 108, 115, 101]⟩), (9, .string ⟨#[99, 97, 115, 101]⟩), (10, .string ⟨#[111, 102]⟩), (11, .string ⟨#[102, 110]⟩), (12, .string ⟨#[100, 97, 116, 97, 116, 121, 112, 101]⟩), (13, .string ⟨#[101, 120, 99, 101, 112, 116, 105, 111, 110]⟩), (14, .string ⟨#[114, 97, 105, 115, 101]⟩), (15, .string ⟨#[104, 97, 110, 100, 108, 101]⟩), (16, .string ⟨#[97, 110, 100, 97, 108, 115, 111]⟩), (17, .string ⟨#[111, 114, 101, 108, 115, 101]⟩), (18, .string ⟨#[100, 105, 118]⟩), (19, .string ⟨#[109, 111, 100]⟩)] H = some (.slice (some ⟨H.next, 0, none⟩) 20 20, H.push (.cells (wordsL.map Value.string) 9 false)) := by kernel_rfl
theorem bsigns (H : IH) : ibuildSlice J 67 24 [(0, .string ⟨#[60, 62]⟩), (1, .string ⟨#[60, 61]⟩), (2, .string ⟨#[62, 61]⟩), (3, .string ⟨#[58, 58]⟩), (4, .string ⟨#[58, 61]⟩), (5, .string ⟨#[61, 62]⟩), (6, .string ⟨#[45, 62]⟩), (7, .string ⟨#[40]⟩), (8, .string ⟨#[41]⟩), (9, .string ⟨#[91]⟩), (10, .string ⟨#[93]⟩), (11, .string ⟨#[44]⟩), (12, .string ⟨#[59]⟩), (13, .string ⟨#[61]⟩), (14, .string ⟨#[60]⟩), (15, .string ⟨#[62]⟩), (16, .string ⟨#[43]⟩), (17, .string ⟨#[45]⟩), (18, .string ⟨#[42]⟩), (19, .string ⟨#[94]⟩), (20, .string ⟨#[33]⟩), (21, .string ⟨#[124]⟩), (22, .string ⟨#[95]⟩), (23, .string ⟨#[126]⟩)] H = some (.slice (some ⟨H.next, 0, none⟩) 24 24, H.push (.cells (signsL.map Value.string) 9 false)) := by kernel_rfl
theorem c39 (H : IH) : cal J okAll 39 #[] H = some (.ret (.slice (some ⟨H.next, 0, none⟩) 20 20), H.push (.cells (wordsL.map Value.string) 9 false)) := by
  rw [cal39 _ _ (by simp)]
  simp [C39, R39, regsOf, fin, iresult1, iparts, bwords]
theorem c40 (H : IH) : cal J okAll 40 #[] H = some (.ret (.slice (some ⟨H.next, 0, none⟩) 24 24), H.push (.cells (signsL.map Value.string) 9 false)) := by
  rw [cal40 _ _ (by simp)]
  simp [C40, R40, regsOf, fin, iresult1, iparts, bsigns]
/-- The reference's reading of digits: -1 where it is above 2^62 - 1. -/
def numR (s : ByteArray) : Nat → Nat → Int → Int
  | 0, _, _ => -1
  | k + 1, i, n => if i < s.size then
      if (4611686018427387903 - (bt s i - 48)) / 10 < n then -1 else numR s k (i + 1) (10 * n + (bt s i - 48))
    else n
theorem loop34 (H : IH) (s : ByteArray) (hs : s.size < 2 ^ 39) (hd : ∀ j, j < s.size → digitB (bt s j) = true) : ∀ (k i : Nat) (n : Int) (T : Regs), s.size < k + i → i ≤ s.size → 0 ≤ n → n < 4611686018427387904 →
    T.at 0 = .string s → T.at 3 = .int .i64 n → T.at 4 = .int .i64 (i : Int) →
    (∃ T', run J okAll (.loop L34_0) T H = some (.exit 0, T', H) ∧ T'.at 3 = .int .i64 (numR s k i n)) ∨
    ∃ T', run J okAll (.loop L34_0) T H = some (.ret, T', H) ∧ numR s k i n = -1 ∧ T'.at 2 = .int .i64 (-1) := by
  intro k
  induction k with
  | zero => intro i n T h1 h2; omega
  | succ k ih =>
    intro i n T h1 h2 n0 n1 t0 t3 t4
    by_cases hlt : i < s.size
    · have i0 := idxS_bt s i hlt
      have hdg := digit_range (hd i hlt)
      have w1 : IntKind.i64.wrap ((i : Int) + 1) = (i : Int) + 1 := wrap64 _ (by omega) (by omega)
      have w2 : IntKind.u8.wrap (bt s i - 48) = bt s i - 48 := wrap8 _ (by omega) (by omega)
      have w3 : IntKind.i64.wrap (bt s i - 48) = bt s i - 48 := wrap64 _ (by omega) (by omega)
      have w4 : IntKind.i64.wrap (4611686018427387903 - (bt s i - 48)) = 4611686018427387903 - (bt s i - 48) := wrap64 _ (by omega) (by omega)
      have w7 : IntKind.i64.wrap ((4611686018427387903 - (bt s i - 48)).tdiv 10) = (4611686018427387903 - (bt s i - 48)) / 10 := by rw [Int.tdiv_eq_ediv_of_nonneg (by omega)]; exact wrap64 _ (by omega) (by omega)
      cases hc : decide ((4611686018427387903 - (bt s i - 48)) / 10 < n) with
      | true =>
        right
        have hc' := of_decide_eq_true hc
        have : ∃ T', run J okAll (.loop L34_0) T H = some (.ret, T', H) ∧ T'.at 2 = .int .i64 (-1) := by
          rw [r_loop]
          simp [L34_0, t0, t3, t4, hlt, i0, w1, w2, w3, w4, w7, hc]
        obtain ⟨T', e, a⟩ := this
        exact ⟨T', e, by simp [numR, hlt, hc'], a⟩
      | false =>
        have hc' := of_decide_eq_false hc
        have w5 : IntKind.i64.wrap (10 * n) = 10 * n := wrap64 _ (by omega) (by omega)
        have w6 : IntKind.i64.wrap (10 * n + (bt s i - 48)) = 10 * n + (bt s i - 48) := wrap64 _ (by omega) (by omega)
        have : ∃ T1, run J okAll (.loop L34_0) T H = run J okAll (.loop L34_0) T1 H ∧ T1.at 0 = .string s ∧ T1.at 3 = .int .i64 (10 * n + (bt s i - 48)) ∧ T1.at 4 = .int .i64 ((i : Int) + 1) := by
          rw [r_loop]
          simp [L34_0, t0, t3, t4, hlt, i0, w1, w2, w3, w4, w5, w6, w7, hc]
          exact ⟨_, rfl, by simp [t0], by simp, by simp⟩
        obtain ⟨T1, e0, f0, f3, f4⟩ := this
        have hn : numR s (k + 1) i n = numR s k (i + 1) (10 * n + (bt s i - 48)) := by simp only [numR]; rw [if_pos hlt, if_neg hc']
        rw [e0, hn]
        exact ih (i + 1) _ T1 (by omega) (by omega) (by omega) (by omega) f0 f3 (by rw [f4]; simp)
    · left
      rw [r_loop]
      simp [L34_0, t0, t3, t4, hlt, numR]
theorem c34 (H : IH) (s : ByteArray) (hs : s.size < 2 ^ 39) (hd : ∀ j, j < s.size → digitB (bt s j) = true) : cal J okAll 34 #[.string s] H = some (.ret (.int .i64 (numR s (s.size + 1) 0 0)), H) := by
  rw [cal34 _ _ (by simp)]
  have key := fun T => loop34 H s hs hd (s.size + 1) 0 0 T (by omega) (by omega) (by omega) (by omega)
  simp [C34, R34, regsOf, fin, iresult1]
  generalize hX : run J okAll (.loop L34_0) _ _ = X
  obtain ⟨T1, e1, t0, t3, t4⟩ : ∃ T1, run J okAll (.loop L34_0) T1 H = X ∧ T1.at 0 = .string s ∧ T1.at 3 = .int .i64 0 ∧ T1.at 4 = .int .i64 ((0 : Nat) : Int) :=
    ⟨_, hX, by simp, by simp, by simp⟩
  rw [← e1]
  rcases key T1 t0 t3 t4 with ⟨T', h1, h2⟩ | ⟨T', h1, h2, h3⟩
  · rw [h1]; simp [h2, fin, iresult1]
  · rw [h1]; simp [h2, h3, fin, iresult1]
end Go.Proofs.YtjbcjcibnjbpcaaDoor.Idl
namespace Go.Proofs.YtjbcjcibnjbpcaaDoor.Idl
open Go
set_option maxHeartbeats 8000000
set_option linter.unusedSimpArgs false
/-! ### The end of a text -/
theorem size_suf (s : ByteArray) (i : Nat) : (s.extract i s.size).size = s.size - i := by simp
theorem ext_ext (s : ByteArray) (i a b : Nat) (hb : i + b ≤ s.size) : (s.extract i s.size).extract a b = s.extract (i + a) (i + b) := by
  apply ByteArray.ext
  simp [ByteArray.data_extract, Array.extract_extract]
  congr 1
  have : s.data.size = s.size := rfl
  omega
theorem suf_suf (s : ByteArray) (i j : Nat) (hj : i + j ≤ s.size) : (s.extract i s.size).extract j (s.extract i s.size).size = s.extract (i + j) s.size := by
  rw [size_suf, ext_ext s i j _ (by omega)]
  congr 1
  omega
theorem bt_suf (s : ByteArray) (i j : Nat) (h : i + j < s.size) : bt (s.extract i s.size) j = bt s (i + j) := bt_extract s i s.size j h (Nat.le_refl _)
theorem suf_zero (s : ByteArray) : s.extract 0 s.size = s := by simp
/-- Two texts cannot both begin here when their first bytes differ. -/
theorem prefixB_bt (s x : ByteArray) (h : prefixB s x = true) (j : Nat) (hj : j < x.size) : bt s j = bt x j := by
  simp only [prefixB, Bool.and_eq_true, decide_eq_true_eq] at h
  have h2 := bt_extract s 0 x.size j (by omega) h.1
  rw [h.2] at h2
  rw [Nat.zero_add] at h2
  exact h2.symm
theorem not_both (s : ByteArray) (h : prefixB s ⟨#[42, 41]⟩ = true) : prefixB s ⟨#[40, 42]⟩ = false := by
  cases h2 : prefixB s ⟨#[40, 42]⟩ with
  | false => rfl
  | true =>
    have a := prefixB_bt s _ h 0 (by decide)
    have b := prefixB_bt s _ h2 0 (by decide)
    have c : bt ⟨#[42, 41]⟩ 0 = 42 := rfl
    have d : bt ⟨#[40, 42]⟩ 0 = 40 := rfl
    omega
/-! ### Remarks -/
theorem remL_fuel (s : ByteArray) : ∀ (n m i : Nat) (d : Int), s.size < n + i → s.size < m + i → remL s n d i = remL s m d i := by
  intro n
  induction n with
  | zero =>
    intro m i d h1 h2
    cases m with
    | zero => rfl
    | succ m => simp only [remL]; rw [if_neg (by omega)]
  | succ n ih =>
    intro m i d h1 h2
    cases m with
    | zero => simp only [remL]; rw [if_neg (by omega)]
    | succ m =>
      simp only [remL]
      rw [ih m (i + 2) (d + 1) (by omega) (by omega), ih m (i + 2) (d - 1) (by omega) (by omega), ih m (i + 1) d (by omega) (by omega)]
theorem remL_nonneg (s : ByteArray) : ∀ (n i : Nat) (d : Int), remL s n d i = -1 ∨ (i : Int) < remL s n d i := by
  intro n
  induction n with
  | zero => intro i d; left; rfl
  | succ n ih =>
    intro i d
    simp only [remL]
    split
    · split
      · have := ih (i + 2) (d + 1); omega
      · split
        · split
          · right; omega
          · have := ih (i + 2) (d - 1); omega
        · have := ih (i + 1) d; omega
    · left; rfl
theorem remL_deep (s : ByteArray) : ∀ (n i : Nat) (a d : Int), 1 ≤ a → 1 ≤ d → s.size < n + i → remL s n (d + a) i = if remL s n a i < 0 then -1 else remL s n d (remL s n a i).toNat := by
  intro n
  induction n with
  | zero => intro i a d _ _ _; rfl
  | succ n ih =>
    intro i a d ha hd hn
    -- the fuel of the tail
    have tail : ∀ (x : Int) (j : Nat), i < j → ((j : Int) < x ∨ x = -1) → (if x < 0 then -1 else remL s n d x.toNat) = (if x < 0 then -1 else remL s (n + 1) d x.toNat) := fun x j hj hx => by
      split
      · rfl
      · exact remL_fuel s _ _ _ _ (by omega) (by omega)
    by_cases hlt : i < s.size
    · have e1 : ∀ x : Int, remL s (n + 1) x i = if prefixB (s.extract i s.size) ⟨#[40, 42]⟩ then remL s n (x + 1) (i + 2)
          else if prefixB (s.extract i s.size) ⟨#[42, 41]⟩ then (if x - 1 = 0 then ((i + 2 : Nat) : Int) else remL s n (x - 1) (i + 2)) else remL s n x (i + 1) := fun x => by simp only [remL]; rw [if_pos hlt]
      rw [e1 (d + a), e1 a]
      cases hp : prefixB (s.extract i s.size) ⟨#[40, 42]⟩ with
      | true =>
        simp only [if_true]
        rw [show d + a + 1 = d + (a + 1) by omega, ih (i + 2) (a + 1) d (by omega) hd (by omega)]
        exact tail _ (i + 2) (by omega) ((remL_nonneg s n (i + 2) (a + 1)).symm)
      | false =>
        simp only [Bool.false_eq_true, if_false]
        cases hq : prefixB (s.extract i s.size) ⟨#[42, 41]⟩ with
        | true =>
          simp only [if_true]
          rw [if_neg (by omega : ¬ d + a - 1 = 0)]
          by_cases h1 : a - 1 = 0
          · rw [if_pos h1, if_neg (by omega), show d + a - 1 = d by omega]
            rw [show (((i + 2 : Nat) : Int)).toNat = i + 2 by omega]
            exact remL_fuel s _ _ _ _ (by omega) (by omega)
          · rw [if_neg h1, show d + a - 1 = d + (a - 1) by omega, ih (i + 2) (a - 1) d (by omega) hd (by omega)]
            exact tail _ (i + 2) (by omega) ((remL_nonneg s n (i + 2) (a - 1)).symm)
        | false =>
          simp only [Bool.false_eq_true, if_false]
          rw [ih (i + 1) a d ha hd (by omega)]
          exact tail _ (i + 1) (by omega) ((remL_nonneg s n (i + 1) a).symm)
    · have e1 : ∀ x : Int, remL s (n + 1) x i = -1 := fun x => by simp only [remL]; rw [if_neg hlt]
      rw [e1, e1, if_pos (by omega)]
theorem remL_suf (s : ByteArray) (i : Nat) (hi : i ≤ s.size) : ∀ (n j : Nat) (d : Int), remL s n d (i + j) = if remL (s.extract i s.size) n d j < 0 then -1 else remL (s.extract i s.size) n d j + i := by
  intro n
  induction n with
  | zero => intro j d; rfl
  | succ n ih =>
    intro j d
    by_cases hlt : i + j < s.size
    · have e0 : remL (s.extract i s.size) (n + 1) d j = if prefixB (s.extract (i + j) s.size) ⟨#[40, 42]⟩ then remL (s.extract i s.size) n (d + 1) (j + 2)
          else if prefixB (s.extract (i + j) s.size) ⟨#[42, 41]⟩ then (if d - 1 = 0 then ((j + 2 : Nat) : Int) else remL (s.extract i s.size) n (d - 1) (j + 2)) else remL (s.extract i s.size) n d (j + 1) := by
        simp only [remL]; rw [if_pos (show j < (s.extract i s.size).size by rw [size_suf]; omega), suf_suf s i j (by omega)]
      have e9 : remL s (n + 1) d (i + j) = if prefixB (s.extract (i + j) s.size) ⟨#[40, 42]⟩ then remL s n (d + 1) (i + j + 2)
          else if prefixB (s.extract (i + j) s.size) ⟨#[42, 41]⟩ then (if d - 1 = 0 then ((i + j + 2 : Nat) : Int) else remL s n (d - 1) (i + j + 2)) else remL s n d (i + j + 1) := by
        simp only [remL]; rw [if_pos hlt]
      have e1 := ih (j + 2) (d + 1)
      have e2 := ih (j + 2) (d - 1)
      have e3 := ih (j + 1) d
      rw [show i + (j + 2) = i + j + 2 by omega] at e1 e2
      rw [show i + (j + 1) = i + j + 1 by omega] at e3
      rw [e0, e9, e1, e2, e3]
      by_cases h1 : prefixB (s.extract (i + j) s.size) ⟨#[40, 42]⟩ = true
      · simp only [if_pos h1]
      · simp only [if_neg h1]
        by_cases h2 : prefixB (s.extract (i + j) s.size) ⟨#[42, 41]⟩ = true
        · simp only [if_pos h2]
          by_cases h3 : d - 1 = 0
          · simp only [if_pos h3]; rw [if_neg (by omega)]; omega
          · simp only [if_neg h3]
        · simp only [if_neg h2]
    · have e0 : remL (s.extract i s.size) (n + 1) d j = -1 := by simp only [remL]; rw [if_neg (show ¬ j < (s.extract i s.size).size by rw [size_suf]; omega)]
      have e9 : remL s (n + 1) d (i + j) = -1 := by simp only [remL]; rw [if_neg hlt]
      rw [e0, e9]; rfl
theorem remL_le (s : ByteArray) : ∀ (n i : Nat) (d : Int), remL s n d i ≤ s.size := by
  intro n
  induction n with
  | zero => intro i d; simp only [remL]; omega
  | succ n ih =>
    intro i d
    simp only [remL]
    split
    · rename_i hlt
      split
      · exact ih _ _
      · split
        · rename_i hq
          have := prefixB_le s _ i hq (by omega)
          have h2 : (ByteArray.mk #[42, 41]).size = 2 := rfl
          split
          · omega
          · exact ih _ _
        · exact ih _ _
    · omega
def remS (s : ByteArray) : Int := if prefixB s ⟨#[40, 42]⟩ then remL s (s.size + 1) 0 0 else 0
theorem loop24 (H : IH) (s : ByteArray) (hs : s.size < 2 ^ 39) (hrec : ∀ t : ByteArray, t.size < s.size → cal J okAll 24 #[.string t] H = some (.ret (.int .i64 (remS t)), H)) : ∀ (k i : Nat) (T : Regs), s.size < k + i → i ≤ s.size → 2 ≤ i →
    T.at 0 = .string s → T.at 3 = .int .i64 (i : Int) →
    (∃ T', run J okAll (.loop L24_0) T H = some (.exit 0, T', H) ∧ remL s k 1 i = -1) ∨
    ∃ T', run J okAll (.loop L24_0) T H = some (.ret, T', H) ∧ T'.at 2 = .int .i64 (remL s k 1 i) := by
  intro k
  induction k with
  | zero => intro i T h1 h2; omega
  | succ k ih =>
    intro i T h1 h2 h2i t0 t3
    by_cases hlt : i < s.size
    · have hsl := sliceS_some s i s.size (by omega) (by omega)
      have p1 := c41 (s.extract i s.size) ⟨#[42, 41]⟩ H
      have p2 := c41 (s.extract i s.size) ⟨#[40, 42]⟩ H
      have e1 : remL s (k + 1) 1 i = if prefixB (s.extract i s.size) ⟨#[40, 42]⟩ then remL s k 2 (i + 2)
          else if prefixB (s.extract i s.size) ⟨#[42, 41]⟩ then ((i + 2 : Nat) : Int) else remL s k 1 (i + 1) := by
        simp only [remL]; rw [if_pos hlt]; simp
      have w1 : IntKind.i64.wrap ((i : Int) + 2) = (i : Int) + 2 := wrap64 _ (by omega) (by omega)
      have w2 : IntKind.i64.wrap ((i : Int) + 1) = (i : Int) + 1 := wrap64 _ (by omega) (by omega)
      rw [e1]
      cases hq : prefixB (s.extract i s.size) ⟨#[42, 41]⟩ with
      | true =>
        have hp := not_both _ hq
        right
        rw [hp, r_loop]
        simp [L24_0, t0, t3, hlt, hsl, p1, p2, hp, hq, w1]
      | false =>
        cases hp : prefixB (s.extract i s.size) ⟨#[40, 42]⟩ with
        | false =>
          simp only [Bool.false_eq_true, if_false]
          have : ∃ T1, run J okAll (.loop L24_0) T H = run J okAll (.loop L24_0) T1 H ∧ T1.at 0 = .string s ∧ T1.at 3 = .int .i64 ((i : Int) + 1) := by
            rw [r_loop]
            simp [L24_0, t0, t3, hlt, hsl, p1, p2, hp, hq, w2]
            exact ⟨_, rfl, by simp [t0], by simp⟩
          obtain ⟨T1, e0, f0, f3⟩ := this
          rw [e0]
          exact ih (i + 1) T1 (by omega) (by omega) (by omega) f0 (by rw [f3]; simp)
        | true =>
          simp only [if_true]
          have hr := hrec (s.extract i s.size) (by rw [size_suf]; omega)
          have hS : remS (s.extract i s.size) = remL (s.extract i s.size) (s.size - i) 1 2 := by
            unfold remS
            rw [if_pos hp, size_suf]
            simp only [remL]
            rw [if_pos (by rw [size_suf]; omega), suf_zero, if_pos hp]
            rfl
          have hD := remL_deep s k (i + 2) 1 1 (by omega) (by omega) (by omega)
          have hF : remL s k 1 (i + 2) = remL s (s.size - i) 1 (i + 2) := by
            by_cases hz : s.size < (s.size - i) + (i + 2)
            · exact remL_fuel s _ _ _ _ (by omega) hz
            · omega
          have hU := remL_suf s i (by omega) (s.size - i) 2 1
          rw [← hS] at hU
          rw [show (1 : Int) + 1 = 2 from rfl] at hD
          rw [hF, hU] at hD
          generalize hrS : remS (s.extract i s.size) = r at *
          cases hneg : decide (r < 0) with
          | true =>
            have hneg' := of_decide_eq_true hneg
            right
            rw [if_pos hneg', if_pos (by omega)] at hD
            rw [hD, r_loop]
            simp [L24_0, t0, t3, hlt, hsl, p1, p2, hp, hq, hr, hneg]
          | false =>
            have hneg' := of_decide_eq_false hneg
            rw [if_neg hneg', if_neg (by omega)] at hD
            have hgt := remL_nonneg s (s.size - i) (i + 2) 1
            rw [hU, if_neg hneg'] at hgt
            have hgt2 : (2 : Int) < r := by omega
            have hle : r + i ≤ s.size := by
              have := remL_le s (s.size - i) (i + 2) 1
              rw [hU, if_neg hneg'] at this
              omega
            have w3 : IntKind.i64.wrap ((i : Int) + r) = (i : Int) + r := wrap64 _ (by omega) (by omega)
            rw [hD]
            have : ∃ T1, run J okAll (.loop L24_0) T H = run J okAll (.loop L24_0) T1 H ∧ T1.at 0 = .string s ∧ T1.at 3 = .int .i64 ((i : Int) + r) := by
              rw [r_loop]
              simp [L24_0, t0, t3, hlt, hsl, p1, p2, hp, hq, hr, hneg, w3]
              exact ⟨_, rfl, by simp [t0], by simp⟩
            obtain ⟨T1, e0, f0, f3⟩ := this
            rw [e0]
            exact ih (r + i).toNat T1 (by omega) (by omega) (by omega) f0 (by rw [f3]; congr 1; omega)
    · left
      rw [r_loop]
      simp [L24_0, t0, t3, hlt, remL, hlt]
end Go.Proofs.YtjbcjcibnjbpcaaDoor.Idl
namespace Go.Proofs.YtjbcjcibnjbpcaaDoor.Idl
open Go
set_option maxHeartbeats 8000000
set_option linter.unusedSimpArgs false
theorem c24_aux (H : IH) : ∀ (N : Nat) (s : ByteArray), s.size ≤ N → N < 2 ^ 39 → cal J okAll 24 #[.string s] H = some (.ret (.int .i64 (remS s)), H) := by
  intro N
  induction N using Nat.strongRecOn with
  | ind N ih =>
    intro s hsN hN
    have p1 := c41 s ⟨#[40, 42]⟩ H
    rw [cal24 _ _ (by simp)]
    unfold remS
    cases hp : prefixB s ⟨#[40, 42]⟩ with
    | false =>
      simp [C24, R24, regsOf, fin, iresult1, p1, hp]
    | true =>
      have h2 : 2 ≤ s.size := by
        have := prefixB_le s ⟨#[40, 42]⟩ 0 (by rw [suf_zero]; exact hp) (by omega)
        have h2 : (ByteArray.mk #[40, 42]).size = 2 := rfl
        omega
      have hE : remL s (s.size + 1) 0 0 = remL s s.size 1 2 := by
        simp only [remL]
        rw [if_pos (by omega), suf_zero, if_pos hp]
        rfl
      have key := fun T => loop24 H s (by omega) (fun t ht => ih t.size (by omega) t (by omega) (by omega)) s.size 2 T (by omega) h2 (by omega)
      simp only [if_true, hE]
      simp [C24, R24, regsOf, fin, iresult1, p1, hp]
      generalize hX : run J okAll (.loop L24_0) _ _ = X
      obtain ⟨T1, e1, t0, t3⟩ : ∃ T1, run J okAll (.loop L24_0) T1 H = X ∧ T1.at 0 = .string s ∧ T1.at 3 = .int .i64 ((2 : Nat) : Int) := ⟨_, hX, by simp, by simp⟩
      rw [← e1]
      rcases key T1 t0 t3 with ⟨T', h1, h3⟩ | ⟨T', h1, h3⟩
      · rw [h1, h3]; simp [fin, iresult1]
      · rw [h1]; simp [h3, fin, iresult1]
theorem c24 (H : IH) (s : ByteArray) (hs : s.size < 2 ^ 39) : cal J okAll 24 #[.string s] H = some (.ret (.int .i64 (remS s)), H) := c24_aux H s.size s (Nat.le_refl _) hs
end Go.Proofs.YtjbcjcibnjbpcaaDoor.Idl
namespace Go.Proofs.YtjbcjcibnjbpcaaDoor.Idl
open Go
set_option maxHeartbeats 16000000
set_option linter.unusedSimpArgs false
theorem prefixB1 (t : ByteArray) (c : UInt8) : prefixB t ⟨#[c]⟩ = (decide (1 ≤ t.size) && decide (bt t 0 = (c.toNat : Int))) := by
  unfold prefixB
  have h1 : (ByteArray.mk #[c]).size = 1 := rfl
  rw [h1]
  by_cases h : 1 ≤ t.size
  · simp only [h, decide_true, Bool.true_and]
    rw [decide_eq_decide]
    have hb := bt_eq t 0 (by omega)
    constructor
    · intro e
      have := bt_extract t 0 1 0 (by omega) h
      rw [e] at this
      rw [Nat.zero_add] at this
      rw [← this]; rfl
    · intro e
      rw [e] at hb
      have hc : t[0] = c := UInt8.toNat_inj.1 (by omega)
      apply ByteArray.ext
      rw [ByteArray.data_extract]
      apply Array.ext
      · simp; omega
      · intro i h1 h2
        have h2' : i < 1 := h2
        have : i = 0 := by omega
        subst this
        simp
        exact hc
  · simp [h]
theorem strOf_snoc (l : List Int) (c : Int) : strOf l ++ strOf [c] = strOf (l ++ [c]) := by
  apply ByteArray.ext
  simp [strOf, ByteArray.data_append]
theorem strOf_size (l : List Int) : (strOf l).size = l.length := by
  show (strOf l).data.size = _
  simp [strOf]
theorem u8_round (b : UInt8) : UInt8.ofNat ((b.toNat : Int).toNat) = b := by
  have : ((b.toNat : Nat) : Int).toNat = b.toNat := by simp
  rw [this]; exact UInt8.ofNat_toNat
theorem ext_one (s : ByteArray) (i : Nat) (h : i < s.size) : s.extract i (i + 1) = strOf [bt s i] := by
  rw [← bt_eq s i h]
  apply ByteArray.ext
  rw [ByteArray.data_extract]
  apply Array.ext
  · simp [strOf]
    have : s.data.size = s.size := rfl
    omega
  · intro j h1 h2
    have h2' : j < 1 := by simpa [strOf] using h2
    have : j = 0 := by omega
    subst this
    simp [strOf]
    rfl
theorem numR3 (t : ByteArray) (h3 : 3 ≤ t.size) (h0 : digitB (bt t 0) = true) (h1 : digitB (bt t 1) = true) (h2 : digitB (bt t 2) = true) :
    numR (t.extract 0 3) ((t.extract 0 3).size + 1) 0 0 = 100 * (bt t 0 - 48) + 10 * (bt t 1 - 48) + (bt t 2 - 48) := by
  have hsz : (t.extract 0 3).size = 3 := by simp; omega
  have e0 := bt_extract t 0 3 0 (by omega) h3
  have e1 := bt_extract t 0 3 1 (by omega) h3
  have e2 := bt_extract t 0 3 2 (by omega) h3
  have d0 := digit_range h0
  have d1 := digit_range h1
  have d2 := digit_range h2
  rw [hsz]
  simp only [Nat.zero_add] at e0 e1 e2
  simp only [numR, hsz, e0, e1, e2, Nat.zero_add]
  rw [if_pos (by omega), if_neg (by omega), if_pos (by omega), if_neg (by omega), if_pos (by omega), if_neg (by omega), if_neg (by omega)]
  omega
theorem loop35 (s : ByteArray) (lo : Nat) (hs : s.size < 2 ^ 39) : ∀ (n i : Nat) (l : List Int) (H : IH) (T : Regs), s.size < n + i → i ≤ s.size → l.length ≤ i → lo ≤ H.next →
    T.at 0 = .string s → T.at 5 = .string (strOf l) → T.at 6 = .int .i64 (i : Int) →
    ∃ T' H', Fr lo H H' ∧ ((run J okAll (.loop L35_0) T H = some (.exit 0, T', H') ∧ txtF s n i l = none) ∨
      (run J okAll (.loop L35_0) T H = some (.ret, T', H') ∧ ((txtF s n i l = none ∧ T'.at 2 = .string ⟨#[]⟩ ∧ T'.at 3 = .int .i64 0 ∧ T'.at 4 = .bool false) ∨
        ∃ r e, txtF s n i l = some (r, e) ∧ T'.at 2 = .string (strOf r) ∧ T'.at 3 = .int .i64 (e : Int) ∧ T'.at 4 = .bool true))) := by
  intro n
  induction n with
  | zero => intro i l H T hn hi; omega
  | succ n ih =>
    intro i l H T hn hi hl hlo t0 t5 t6
    have go : ∀ (i' : Nat) (l' : List Int) (H1 : IH), i < i' → i' ≤ s.size → l'.length ≤ i' → Fr lo H H1 →
        (∃ T1, run J okAll (.loop L35_0) T H = run J okAll (.loop L35_0) T1 H1 ∧ T1.at 0 = .string s ∧ T1.at 5 = .string (strOf l') ∧ T1.at 6 = .int .i64 (i' : Int)) → txtF s (n + 1) i l = txtF s n i' l' →
        ∃ T' H', Fr lo H H' ∧ ((run J okAll (.loop L35_0) T H = some (.exit 0, T', H') ∧ txtF s (n + 1) i l = none) ∨
          (run J okAll (.loop L35_0) T H = some (.ret, T', H') ∧ ((txtF s (n + 1) i l = none ∧ T'.at 2 = .string ⟨#[]⟩ ∧ T'.at 3 = .int .i64 0 ∧ T'.at 4 = .bool false) ∨
            ∃ r e, txtF s (n + 1) i l = some (r, e) ∧ T'.at 2 = .string (strOf r) ∧ T'.at 3 = .int .i64 (e : Int) ∧ T'.at 4 = .bool true))) := by
      intro i' l' H1 g1 g2 g3 g4 ⟨T1, e1, e2, e3, e4⟩ g6
      obtain ⟨T', H', f1, f2⟩ := ih i' l' H1 T1 (by omega) g2 g3 (Nat.le_trans hlo g4.1) e2 e3 e4
      refine ⟨T', H', g4.trans f1, ?_⟩
      rw [e1, g6]
      exact f2
    have w1 : IntKind.i64.wrap ((i : Int) + 1) = (i : Int) + 1 := wrap64 _ (by omega) (by omega)
    have hadd : ∀ (u : ByteArray) (c : Int), u = strOf [c] → ∀ (x y : Operand) (H : IH), binR J .add 9 x y (.string (strOf l)) (.string u) H = some (.val (.string (strOf (l ++ [c]))) H) := fun u c hu x y H => by
      subst hu
      rw [bin_sadd J H 9 x y _ _ (eq_false (by rw [strOf_size, strOf_size]; simp; omega)), strOf_snoc]
    by_cases hlt : i < s.size
    · have i0 := idxS_bt s i hlt
      cases ha : decide (bt s i = 34) with
      | true =>
        have : ∃ T1, run J okAll (.loop L35_0) T H = some (.ret, T1, H) ∧ T1.at 2 = .string (strOf l) ∧ T1.at 3 = .int .i64 ((i : Int) + 1) ∧ T1.at 4 = .bool true := by
          rw [r_loop]
          simp [L35_0, t0, t5, t6, hlt, i0, of_decide_eq_true ha, w1]
        obtain ⟨T1, e1, e2, e3, e4⟩ := this
        exact ⟨T1, H, Fr.refl _ _, .inr ⟨e1, .inr ⟨l, i + 1, by simp [txtF, hlt, of_decide_eq_true ha], e2, by rw [e3]; simp, e4⟩⟩⟩
      | false =>
        have ha' := of_decide_eq_false ha
        cases hc : decide (bt s i < 32) with
        | true =>
          have hc' := of_decide_eq_true hc
          have : ∃ T1, run J okAll (.loop L35_0) T H = some (.ret, T1, H) ∧ T1.at 2 = .string ⟨#[]⟩ ∧ T1.at 3 = .int .i64 0 ∧ T1.at 4 = .bool false := by
            rw [r_loop]
            simp [L35_0, t0, t5, t6, hlt, i0, ha, hc]
          obtain ⟨T1, e1, e2, e3, e4⟩ := this
          exact ⟨T1, H, Fr.refl _ _, .inr ⟨e1, .inl ⟨by simp [txtF, hlt, ha', hc'], e2, e3, e4⟩⟩⟩
        | false =>
          have hc' := of_decide_eq_false hc
          cases hb : decide (bt s i = 92) with
          | false =>
            have hb' := of_decide_eq_false hb
            have hsl := sliceS_some s i (i + 1) (by omega) (by omega)
            have ha1 := hadd (s.extract i (i + 1)) (bt s i) (ext_one s i hlt)
            refine go (i + 1) (l ++ [bt s i]) H (by omega) (by omega) (by simp; omega) (Fr.refl _ _) ?_ (by simp only [txtF]; rw [if_pos hlt, if_neg ha', if_neg hc', if_pos hb'])
            have bn : ∀ d, ibound (some (.int .i64 ((i : Int) + 1))) d = some (i + 1) := fun d => by simp only [bound_int]; rw [if_pos (by omega)]; congr 1
            rw [r_loop]
            simp [L35_0, t0, t5, t6, hlt, i0, ha, hc, hb, w1, hsl, ha1, bn]
            exact ⟨_, rfl, by simp [t0], by simp, by simp⟩
          | true =>
            have hb' := of_decide_eq_true hb
            have hsl := sliceS_some s (i + 1) s.size (by omega) (by omega)
            have bn : ∀ d, ibound (some (.int .i64 ((i : Int) + 1))) d = some (i + 1) := fun d => by simp only [bound_int]; rw [if_pos (by omega)]; congr 1
            have htz : (s.extract (i + 1) s.size).size = s.size - (i + 1) := size_suf s (i + 1)
            generalize ht : s.extract (i + 1) s.size = t at *
            have q1 := c41 t ⟨#[110]⟩
            have q2 := c41 t ⟨#[116]⟩
            have q3 := c41 t ⟨#[92]⟩
            have q4 := c41 t ⟨#[34]⟩
            have v1 : prefixB t ⟨#[110]⟩ = (decide (1 ≤ t.size) && decide (bt t 0 = 110)) := prefixB1 t 110
            have v2 : prefixB t ⟨#[116]⟩ = (decide (1 ≤ t.size) && decide (bt t 0 = 116)) := prefixB1 t 116
            have v3 : prefixB t ⟨#[92]⟩ = (decide (1 ≤ t.size) && decide (bt t 0 = 92)) := prefixB1 t 92
            have v4 : prefixB t ⟨#[34]⟩ = (decide (1 ≤ t.size) && decide (bt t 0 = 34)) := prefixB1 t 34
            have hstep : txtF s (n + 1) i l = if (escF t).2 = 0 then none else txtF s n (i + (escF t).2.toNat + 1) (l ++ [(escF t).1]) := by
              simp only [txtF]; rw [if_pos hlt, if_neg ha', if_neg hc', if_neg (by simp [hb']), ht]
            have w2 : IntKind.i64.wrap ((i : Int) + 1 + 1) = (i : Int) + 1 + 1 := wrap64 _ (by omega) (by omega)
            cases z1 : prefixB t ⟨#[110]⟩ with
            | true =>
              rw [v1, Bool.and_eq_true, decide_eq_true_eq, decide_eq_true_eq] at z1
              have he : escF t = (10, 1) := by unfold escF; rw [if_neg (by omega), if_pos z1.2]
              have ha1 := hadd ⟨#[10]⟩ 10 rfl
              rw [v1] at q1
              refine go (i + 1 + 1) (l ++ [10]) H (by omega) (by omega) (by simp; omega) (Fr.refl _ _) ?_ (by rw [hstep, he]; rfl)
              rw [r_loop]
              simp [L35_0, t0, t5, t6, hlt, i0, ha, hc, hb, w1, w2, hsl, ha1, bn, q1, z1.1, z1.2]
              exact ⟨_, rfl, by simp [t0], by simp, by simp⟩
            | false =>
            cases z2 : prefixB t ⟨#[116]⟩ with
            | true =>
              have z2' := z2
              rw [v2, Bool.and_eq_true, decide_eq_true_eq, decide_eq_true_eq] at z2'
              have he : escF t = (9, 1) := by unfold escF; rw [if_neg (by omega), if_neg (by omega), if_pos z2'.2]
              have ha1 := hadd ⟨#[9]⟩ 9 rfl
              refine go (i + 1 + 1) (l ++ [9]) H (by omega) (by omega) (by simp; omega) (Fr.refl _ _) ?_ (by rw [hstep, he]; rfl)
              rw [r_loop]
              simp [L35_0, t0, t5, t6, hlt, i0, ha, hc, hb, w1, w2, hsl, ha1, bn, q1, q2, z1, z2]
              exact ⟨_, rfl, by simp [t0], by simp, by simp⟩
            | false =>
            cases z3 : (prefixB t ⟨#[92]⟩ || prefixB t ⟨#[34]⟩) with
            | true =>
              have z3' := z3
              rw [v3, v4, Bool.or_eq_true, Bool.and_eq_true, Bool.and_eq_true, decide_eq_true_eq, decide_eq_true_eq, decide_eq_true_eq] at z3'
              have z34 : 1 ≤ t.size ∧ (bt t 0 = 92 ∨ bt t 0 = 34) := by omega
              have he : escF t = (bt t 0, 1) := by unfold escF; rw [if_neg (by omega), if_neg (by omega), if_neg (by omega), if_pos z34.2]
              have hsl2 := sliceS_some t 0 1 (by omega) z34.1
              have ha1 := hadd (t.extract 0 1) (bt t 0) (ext_one t 0 (by omega))
              refine go (i + 1 + 1) (l ++ [bt t 0]) H (by omega) (by omega) (by simp; omega) (Fr.refl _ _) ?_ (by rw [hstep, he]; rfl)
              rw [r_loop]
              cases z5 : prefixB t ⟨#[92]⟩ with
              | true =>
                simp [L35_0, t0, t5, t6, hlt, i0, ha, hc, hb, w1, w2, hsl, hsl2, ha1, bn, bound_int, q1, q2, q3, z1, z2, z5]
                exact ⟨_, rfl, by simp [t0], by simp, by simp⟩
              | false =>
                rw [z5, Bool.false_or] at z3
                simp [L35_0, t0, t5, t6, hlt, i0, ha, hc, hb, w1, w2, hsl, hsl2, ha1, bn, bound_int, q1, q2, q3, q4, z1, z2, z3, z5]
                exact ⟨_, rfl, by simp [t0], by simp, by simp⟩
            | false =>
            rw [Bool.or_eq_false_iff] at z3
            obtain ⟨z3, z4⟩ := z3
            have w3 : IntKind.i64.wrap ((i : Int) + 3) = (i : Int) + 3 := wrap64 _ (by omega) (by omega)
            have w4 : IntKind.i64.wrap ((i : Int) + 3 + 1) = (i : Int) + 3 + 1 := wrap64 _ (by omega) (by omega)
            have none_ : (escF t).2 = 0 → (∃ T1, run J okAll (.loop L35_0) T H = some (.ret, T1, H) ∧ T1.at 2 = .string ⟨#[]⟩ ∧ T1.at 3 = .int .i64 0 ∧ T1.at 4 = .bool false) →
                ∃ T' H', Fr lo H H' ∧ ((run J okAll (.loop L35_0) T H = some (.exit 0, T', H') ∧ txtF s (n + 1) i l = none) ∨
                  (run J okAll (.loop L35_0) T H = some (.ret, T', H') ∧ ((txtF s (n + 1) i l = none ∧ T'.at 2 = .string ⟨#[]⟩ ∧ T'.at 3 = .int .i64 0 ∧ T'.at 4 = .bool false) ∨
                    ∃ r e, txtF s (n + 1) i l = some (r, e) ∧ T'.at 2 = .string (strOf r) ∧ T'.at 3 = .int .i64 (e : Int) ∧ T'.at 4 = .bool true))) := fun he ⟨T1, e1, e2, e3, e4⟩ =>
              ⟨T1, H, Fr.refl _ _, .inr ⟨e1, .inl ⟨by rw [hstep, if_pos he], e2, e3, e4⟩⟩⟩
            have hno : ¬ (3 ≤ t.size ∧ digitB (bt t 0) ∧ digitB (bt t 1) ∧ digitB (bt t 2) ∧ 100 * (bt t 0 - 48) + 10 * (bt t 1 - 48) + (bt t 2 - 48) ≤ 255) → (escF t).2 = 0 := fun hn => by
              rw [v1, Bool.and_eq_false_iff, decide_eq_false_iff_not, decide_eq_false_iff_not] at z1
              rw [v2, Bool.and_eq_false_iff, decide_eq_false_iff_not, decide_eq_false_iff_not] at z2
              rw [v3, Bool.and_eq_false_iff, decide_eq_false_iff_not, decide_eq_false_iff_not] at z3
              rw [v4, Bool.and_eq_false_iff, decide_eq_false_iff_not, decide_eq_false_iff_not] at z4
              unfold escF
              split
              · rfl
              · have c1 : ¬ bt t 0 = 110 := by omega
                have c2 : ¬ bt t 0 = 116 := by omega
                have c3 : ¬ (bt t 0 = 92 ∨ bt t 0 = 34) := by omega
                simp only [if_neg hn, if_neg c1, if_neg c2, if_neg c3]
            have j0 : 0 < t.size → idxS t 0 = some (.int .u8 (bt t 0)) := fun h => idxS_bt t 0 h
            have j1 : 1 < t.size → idxS t 1 = some (.int .u8 (bt t 1)) := fun h => idxS_bt t 1 h
            have j2 : 2 < t.size → idxS t 2 = some (.int .u8 (bt t 2)) := fun h => idxS_bt t 2 h
            by_cases h3 : 3 ≤ t.size
            · have h3D : (3 : Int) ≤ t.size := by omega
              have j0 := j0 (by omega)
              have j1 := j1 (by omega)
              have j2 := j2 (by omega)
              cases d0 : digitB (bt t 0) with
              | false =>
                refine none_ (hno (by simp [d0])) ?_
                rw [r_loop]
                simp [L35_0, t0, t5, t6, hlt, i0, ha, hc, hb, w1, w2, hsl, bn, q1, q2, q3, q4, z1, z2, z3, z4, h3D, j0, d0]
              | true =>
              cases d1 : digitB (bt t 1) with
              | false =>
                refine none_ (hno (by simp [d1])) ?_
                rw [r_loop]
                simp [L35_0, t0, t5, t6, hlt, i0, ha, hc, hb, w1, w2, hsl, bn, q1, q2, q3, q4, z1, z2, z3, z4, h3D, j0, d0, j1, d1]
              | true =>
              cases d2 : digitB (bt t 2) with
              | false =>
                refine none_ (hno (by simp [d2])) ?_
                rw [r_loop]
                simp [L35_0, t0, t5, t6, hlt, i0, ha, hc, hb, w1, w2, hsl, bn, q1, q2, q3, q4, z1, z2, z3, z4, h3D, j0, d0, j1, d1, j2, d2]
              | true =>
              have hsl3 := sliceS_some t 0 3 (by omega) h3
              have hx : ∀ j, j < (t.extract 0 3).size → digitB (bt (t.extract 0 3) j) = true := fun j hj => by
                have hj3 : j < 3 := by
                  have : (t.extract 0 3).size = 3 := by simp; omega
                  omega
                have := bt_extract t 0 3 j (by omega) h3
                rw [this, Nat.zero_add]
                rcases (by omega : j = 0 ∨ j = 1 ∨ j = 2) with rfl | rfl | rfl <;> assumption
              have k34 := fun H => c34 H (t.extract 0 3) (by have : (t.extract 0 3).size = 3 := (by simp; omega); omega) hx
              rw [numR3 t h3 d0 d1 d2] at k34
              have r0 := digit_range d0
              have r1 := digit_range d1
              have r2 := digit_range d2
              generalize hv : 100 * (bt t 0 - 48) + 10 * (bt t 1 - 48) + (bt t 2 - 48) = v at *
              cases hle : decide (v ≤ 255) with
              | false =>
                have hle' := of_decide_eq_false hle
                refine none_ (hno (by simp [hle'])) ?_
                rw [r_loop]
                simp [L35_0, t0, t5, t6, hlt, i0, ha, hc, hb, w1, w2, hsl, bn, q1, q2, q3, q4, z1, z2, z3, z4, h3D, j0, d0, j1, d1, j2, d2, hsl3, bound_int, k34, hle]
              | true =>
                have hle' := of_decide_eq_true hle
                have he : escF t = (v, 3) := by
                  unfold escF
                  rw [if_neg (by omega), if_neg (by omega), if_neg (by omega), if_neg (by omega), if_pos (by rw [hv]; exact ⟨h3, d0, d1, d2, hle'⟩), hv]
                have w8 := wrap8 v (by omega) (by omega)
                have ha1 := hadd (strOf [v]) v rfl
                have hbd := fun H => build1 bt40 H v
                have hcv : ∀ H : IH, iconvert J 40 9 (.slice (some ⟨H.next, 0, none⟩) 1 1) (H.push (.cells [.int .u8 v] 5 false)) = some (.string (strOf [v]), H.push (.cells [.int .u8 v] 5 false)) := fun H => by
                  simp [iconvert, bytesOfCells, strOf]
                refine go (i + 3 + 1) (l ++ [v]) (H.push (.cells [.int .u8 v] 5 false)) (by omega) (by omega) (by simp; omega) ((Fr.refl _ _).push hlo _) ?_ (by rw [hstep, he]; rfl)
                rw [r_loop]
                simp [L35_0, t0, t5, t6, hlt, i0, ha, hc, hb, w1, w2, w3, w4, w8, hsl, bn, q1, q2, q3, q4, z1, z2, z3, z4, h3D, j0, d0, j1, d1, j2, d2, hsl3, bound_int, k34, hle, iparts, hbd, hcv, ha1]
                exact ⟨_, rfl, by simp [t0], by simp, by simp⟩
            · have h3D : ¬ (3 : Int) ≤ t.size := by omega
              refine none_ (hno (by simp [h3])) ?_
              rw [r_loop]
              simp [L35_0, t0, t5, t6, hlt, i0, ha, hc, hb, w1, w2, hsl, bn, q1, q2, q3, q4, z1, z2, z3, z4, h3D]
    · have : ∃ T', run J okAll (.loop L35_0) T H = some (.exit 0, T', H) := by
        rw [r_loop]
        simp [L35_0, t0, t5, t6, hlt]
      obtain ⟨T', e⟩ := this
      exact ⟨T', H, Fr.refl _ _, .inl ⟨e, by simp [txtF, hlt]⟩⟩
def txtRV : Option (List Int × Nat) → Value
  | none => .tuple #[.string ⟨#[]⟩, .int .i64 0, .bool false]
  | some (l, e) => .tuple #[.string (strOf l), .int .i64 (e : Int), .bool true]
theorem c35 (H : IH) (s : ByteArray) (hs : s.size < 2 ^ 39) : ∃ H', Fr H.next H H' ∧ cal J okAll 35 #[.string s] H = some (.ret (txtRV (txtF s (s.size + 1) 0 [])), H') := by
  rw [cal35 _ _ (by simp)]
  have key := fun T => loop35 s H.next hs (s.size + 1) 0 [] H T (by omega) (by omega) (by simp) (Nat.le_refl _)
  simp [C35, R35, regsOf, fin, iresult1]
  generalize hX : run J okAll (.loop L35_0) _ _ = X
  obtain ⟨T1, e1, t0, t5, t6⟩ : ∃ T1, run J okAll (.loop L35_0) T1 H = X ∧ T1.at 0 = .string s ∧ T1.at 5 = .string (strOf []) ∧ T1.at 6 = .int .i64 ((0 : Nat) : Int) := ⟨_, hX, by simp, by simp; rfl, by simp⟩
  rw [← e1]
  obtain ⟨T', H', f, h⟩ := key T1 t0 t5 t6
  rcases h with ⟨h1, h2⟩ | ⟨h1, h2⟩
  · rw [h1, h2]
    refine ⟨H', f, ?_⟩
    simp [txtRV, fin, iresult1]
  · rw [h1]
    refine ⟨H', f, ?_⟩
    rcases h2 with ⟨h2, a, b, c⟩ | ⟨r, e, h2, a, b, c⟩
    · rw [h2]; simp [txtRV, a, b, c, fin, iresult1]
    · rw [h2]; simp [txtRV, a, b, c, fin, iresult1]
end Go.Proofs.YtjbcjcibnjbpcaaDoor.Idl
namespace Go.Proofs.YtjbcjcibnjbpcaaDoor.Idl
open Go
set_option maxHeartbeats 8000000
set_option maxRecDepth 100000
set_option linter.unusedSimpArgs false
theorem numF_ge (x : ByteArray) (hd : ∀ j, j < x.size → digitB (bt x j) = true) : ∀ (k i : Nat) (n r : Int), 0 ≤ n → numF x k i n = some r → n ≤ r := by
  intro k
  induction k with
  | zero => intro i n r _ h; simp [numF] at h
  | succ k ih =>
    intro i n r h0 h
    simp only [numF] at h
    split at h
    · rename_i hlt
      have := digit_range (hd i hlt)
      split at h
      · cases h
      · have := ih _ _ _ (by omega) h; omega
    · cases h; omega
def num62 : Option Int → Int
  | some r => if r < 4611686018427387904 then r else -1
  | none => -1
theorem num_agree (x : ByteArray) (hd : ∀ j, j < x.size → digitB (bt x j) = true) : ∀ (k i : Nat) (n : Int), 0 ≤ n → n < 4611686018427387904 → x.size < k + i → i ≤ x.size → numR x k i n = num62 (numF x k i n) := by
  intro k
  induction k with
  | zero => intro i n _ _ h1 h2; omega
  | succ k ih =>
    intro i n h0 h1 h2 h3
    simp only [numR, numF]
    by_cases hlt : i < x.size
    · have := digit_range (hd i hlt)
      rw [if_pos hlt, if_pos hlt]
      by_cases hc : (4611686018427387903 - (bt x i - 48)) / 10 < n
      · rw [if_pos hc]
        split
        · rfl
        · cases hq : numF x k (i + 1) (10 * n + (bt x i - 48)) with
          | none => rfl
          | some r =>
            have := numF_ge x hd _ _ _ _ (by omega) hq
            simp only [num62]
            rw [if_neg (by omega)]
      · rw [if_neg hc, if_neg (by omega)]
        exact ih (i + 1) _ (by omega) (by omega) (by omega) (by omega)
    · rw [if_neg hlt, if_neg hlt]
      simp only [num62]
      rw [if_pos h1]
theorem txtF_fuel (s : ByteArray) : ∀ (n m i : Nat) (l : List Int), s.size < n + i → s.size < m + i → txtF s n i l = txtF s m i l := by
  intro n
  induction n with
  | zero =>
    intro m i l h1 h2
    cases m with
    | zero => rfl
    | succ m => simp only [txtF]; rw [if_neg (by omega)]
  | succ n ih =>
    intro m i l h1 h2
    cases m with
    | zero => simp only [txtF]; rw [if_neg (by omega)]
    | succ m =>
      simp only [txtF]
      rw [ih m (i + 1) _ (by omega) (by omega), ih m (i + _ + 1) _ (by omega) (by omega)]
def shT (i : Nat) : Option (List Int × Nat) → Option (List Int × Nat)
  | none => none
  | some (l, e) => some (l, e + i)
theorem txtF_suf (s : ByteArray) (i : Nat) (hi : i ≤ s.size) : ∀ (n j : Nat) (l : List Int), txtF s n (i + j) l = shT i (txtF (s.extract i s.size) n j l) := by
  intro n
  induction n with
  | zero => intro j l; rfl
  | succ n ih =>
    intro j l
    simp only [txtF]
    by_cases hlt : i + j < s.size
    · rw [if_pos hlt, if_pos (show j < (s.extract i s.size).size by rw [size_suf]; omega), bt_suf s i j hlt, suf_suf s i (j + 1) (by omega)]
      rw [show i + (j + 1) = i + j + 1 by omega]
      have e1 := ih (j + 1) (l ++ [bt s (i + j)])
      have e2 := ih (j + (escF (s.extract (i + j + 1) s.size)).2.toNat + 1) (l ++ [(escF (s.extract (i + j + 1) s.size)).1])
      rw [show i + (j + 1) = i + j + 1 by omega] at e1
      rw [show i + (j + (escF (s.extract (i + j + 1) s.size)).2.toNat + 1) = i + j + (escF (s.extract (i + j + 1) s.size)).2.toNat + 1 by omega] at e2
      rw [e1, e2]
      by_cases h1 : bt s (i + j) = 34
      · rw [if_pos h1, if_pos h1]; simp only [shT]; congr 2; omega
      · rw [if_neg h1, if_neg h1]
        by_cases h2 : bt s (i + j) < 32
        · rw [if_pos h2, if_pos h2]; rfl
        · rw [if_neg h2, if_neg h2]
          by_cases h3 : bt s (i + j) ≠ 92
          · rw [if_pos h3, if_pos h3]
          · rw [if_neg h3, if_neg h3]
            by_cases h4 : (escF (s.extract (i + j + 1) s.size)).2 = 0
            · rw [if_pos h4, if_pos h4]; rfl
            · rw [if_neg h4, if_neg h4]
    · rw [if_neg hlt, if_neg (show ¬ j < (s.extract i s.size).size by rw [size_suf]; omega)]
      rfl
def boolsL : List ByteArray := [⟨#[116, 114, 117, 101]⟩, ⟨#[102, 97, 108, 115, 101]⟩]
theorem kwL_eq : kwL = boolsL.map (·, (2 : Int)) ++ wordsL.map (·, (1 : Int)) := by kernel_rfl
theorem look_map (x : ByteArray) (v : Int) (L : List (ByteArray × Int)) : ∀ S : List ByteArray, lookW x (S.map (·, v) ++ L) = if amongF x S then v else lookW x L := by
  intro S
  induction S with
  | nil => rfl
  | cons y S ih =>
    simp only [List.map_cons, List.cons_append, lookW]
    by_cases h : x = y
    · have ea : amongF x (y :: S) = true := if_pos h.symm
      rw [if_pos h, ea]; rfl
    · have ea : amongF x (y :: S) = amongF x S := if_neg (show ¬ y = x from fun e => h e.symm)
      rw [if_neg h, ea]; exact ih
theorem kw_look (x : ByteArray) : lookW x kwL = if amongF x boolsL then 2 else if amongF x wordsL then 1 else 0 := by
  rw [kwL_eq, look_map]
  have := look_map x 1 [] wordsL
  rw [List.append_nil] at this
  rw [this]; rfl
theorem among_mem (x : ByteArray) : ∀ S : List ByteArray, amongF x S = true → x ∈ S := by
  intro S
  induction S with
  | nil => intro h; cases h
  | cons y S ih =>
    intro h
    simp only [amongF] at h
    split at h
    · rename_i e; simp [e]
    · simp [ih h]
theorem words_small : ∀ x ∈ wordsL, greatB (bt x 0) = false := by decide
/-- Which kind a word is. -/
theorem kind_great (x : ByteArray) (h : greatB (bt x 0) = true) : kindW (bt x 0) (lookW x kwL) = 4 := by
  have hw : amongF x wordsL = false := by
    cases e : amongF x wordsL with
    | false => rfl
    | true => have := words_small x (among_mem x _ e); rw [this] at h; cases h
  rw [kw_look, hw]
  unfold kindW
  rw [h]
  cases amongF x boolsL <;> rfl
theorem kind_small (x : ByteArray) (h : greatB (bt x 0) = false) : kindW (bt x 0) (lookW x kwL) = if amongF x boolsL then 4 else if amongF x wordsL then 6 else 3 := by
  rw [kw_look]
  unfold kindW
  rw [h]
  cases amongF x boolsL <;> cases amongF x wordsL <;> rfl
end Go.Proofs.YtjbcjcibnjbpcaaDoor.Idl
namespace Go.Proofs.YtjbcjcibnjbpcaaDoor.Idl
open Go
set_option maxHeartbeats 8000000
set_option linter.unusedSimpArgs false
theorem loop20_0 (H : IH) (s : ByteArray) (hs : s.size < 2 ^ 39) (v2 : Value) : ∀ (k i : Nat) (T : Regs), s.size < k + i → i ≤ s.size →
    T.at 0 = .string s → T.at 2 = v2 → T.at 4 = .int .i64 (i : Int) →
    ∃ T', run J okAll (.loop L20_0) T H = some (.exit 0, T', H) ∧ T'.at 0 = .string s ∧ T'.at 2 = v2 ∧ T'.at 4 = .int .i64 (span letterB s i : Nat) := by
  intro k
  induction k with
  | zero => intro i T h1 h2; omega
  | succ k ih =>
    intro i T h1 h2 t0 t2 t4
    by_cases hlt : i < s.size
    · have i0 := idxS_bt s i hlt
      have w1 : IntKind.i64.wrap ((i : Int) + 1) = (i : Int) + 1 := wrap64 _ (by omega) (by omega)
      have hst := span_step letterB s i hlt
      rw [bt_eq s i hlt] at hst
      rw [hst]
      cases hc : letterB (bt s i) with
      | false =>
        rw [r_loop]
        simp [L20_0, t0, t2, t4, hlt, i0, w1, hc]
      | true =>
        have : ∃ T1, run J okAll (.loop L20_0) T H = run J okAll (.loop L20_0) T1 H ∧ T1.at 0 = .string s ∧ T1.at 2 = v2 ∧ T1.at 4 = .int .i64 ((i : Int) + 1) := by
          rw [r_loop]
          simp [L20_0, t0, t2, t4, hlt, i0, w1, hc]
          exact ⟨_, rfl, by simp [t0], by simp [t2], by simp⟩
        obtain ⟨T1, e0, f0, f2, f4⟩ := this
        rw [e0]
        exact ih (i + 1) T1 (by omega) (by omega) f0 f2 (by rw [f4]; simp)
    · rw [span_end _ _ _ (by omega), r_loop]
      simp [L20_0, t0, t2, t4, hlt]
theorem loop20_1 (H : IH) (s : ByteArray) (hs : s.size < 2 ^ 39) (v2 : Value) : ∀ (k i : Nat) (T : Regs), s.size < k + i → i ≤ s.size →
    T.at 0 = .string s → T.at 2 = v2 → T.at 4 = .int .i64 (i : Int) →
    ∃ T', run J okAll (.loop L20_1) T H = some (.exit 3, T', H) ∧ T'.at 0 = .string s ∧ T'.at 2 = v2 ∧ T'.at 4 = .int .i64 (span digitB s i : Nat) := by
  intro k
  induction k with
  | zero => intro i T h1 h2; omega
  | succ k ih =>
    intro i T h1 h2 t0 t2 t4
    by_cases hlt : i < s.size
    · have i0 := idxS_bt s i hlt
      have w1 : IntKind.i64.wrap ((i : Int) + 1) = (i : Int) + 1 := wrap64 _ (by omega) (by omega)
      have hst := span_step digitB s i hlt
      rw [bt_eq s i hlt] at hst
      rw [hst]
      cases hc : digitB (bt s i) with
      | false =>
        rw [r_loop]
        simp [L20_1, t0, t2, t4, hlt, i0, w1, hc]
      | true =>
        have : ∃ T1, run J okAll (.loop L20_1) T H = run J okAll (.loop L20_1) T1 H ∧ T1.at 0 = .string s ∧ T1.at 2 = v2 ∧ T1.at 4 = .int .i64 ((i : Int) + 1) := by
          rw [r_loop]
          simp [L20_1, t0, t2, t4, hlt, i0, w1, hc]
          exact ⟨_, rfl, by simp [t0], by simp [t2], by simp⟩
        obtain ⟨T1, e0, f0, f2, f4⟩ := this
        rw [e0]
        exact ih (i + 1) T1 (by omega) (by omega) f0 f2 (by rw [f4]; simp)
    · rw [span_end _ _ _ (by omega), r_loop]
      simp [L20_1, t0, t2, t4, hlt]
theorem bl31a : ibuild J 31 [] = some (.agg #[.int .i64 0, .int .i64 0, .string ⟨#[]⟩, .int .i64 0]) := by kernel_rfl
theorem bl31b (k n : Int) : ibuild J 31 [(0, .int .i64 k), (3, .int .i64 n)] = some (.agg #[.int .i64 k, .int .i64 0, .string ⟨#[]⟩, .int .i64 n]) := by kernel_rfl
theorem bl31c (k : Int) (x : ByteArray) : ibuild J 31 [(0, .int .i64 k), (2, .string x)] = some (.agg #[.int .i64 k, .int .i64 0, .string x, .int .i64 0]) := by kernel_rfl
def tok0 : Blk := .cells [.int .i64 0, .int .i64 0, .string ⟨#[]⟩, .int .i64 0] 31 false
theorem loop20_2 (H : IH) (s : ByteArray) (b g cap : Nat) (S : List ByteArray) (pr : Bool) (_hgb : g ≠ b) (hg : H.get g = some (.cells (S.map Value.string) 9 pr)) (hb : H.get b = some (.cells [.int .i64 0, .int .i64 0, .string ⟨#[]⟩, .int .i64 0] 31 false)) (hS : S.length < 2 ^ 39) : ∀ (n i : Nat) (T : Regs), S.length - i = n → i ≤ S.length →
    T.at 0 = .string s → T.at 2 = .pointer (some ⟨b, 0, none⟩) → T.at 125 = .slice (some ⟨g, 0, none⟩) S.length cap → T.at 126 = .int .i64 (S.length : Int) → T.at 127 = .int .i64 (i : Int) →
    (∃ T', run J okAll (.loop L20_2) T H = some (.exit 5, T', H) ∧ signF s 0 (S.drop i) = none ∧ T'.at 2 = .pointer (some ⟨b, 0, none⟩)) ∨
    ∃ T' x, run J okAll (.loop L20_2) T H = some (.ret, T', H.set b (.cells [.int .i64 6, .int .i64 0, .string x, .int .i64 0] 31 false)) ∧ signF s 0 (S.drop i) = some x ∧ T'.at 2 = .pointer (some ⟨b, 0, none⟩) ∧ T'.at 3 = .int .i64 (x.size : Int) := by
  intro n
  induction n with
  | zero =>
    intro i T hn hi t0 t2 t125 t126 t127
    have hlt : ¬ ((i : Int) < S.length) := by omega
    have : S.drop i = [] := List.drop_of_length_le (by omega)
    rw [this]
    left
    have : ∃ T', run J okAll (.loop L20_2) T H = some (.exit 5, T', H) ∧ T'.at 2 = .pointer (some ⟨b, 0, none⟩) := by
      rw [r_loop]
      simp [L20_2, t0, t2, t125, t126, t127, hlt]
    obtain ⟨T', e, a⟩ := this
    exact ⟨T', e, rfl, a⟩
  | succ n ih =>
    intro i T hn hi t0 t2 t125 t126 t127
    have hlt : i < S.length := by omega
    have hgi : (S.map Value.string)[i]? = some (.string S[i]) := by simp [hlt]
    have w1 : IntKind.i64.wrap ((i : Int) + 1) = (i : Int) + 1 := wrap64 _ (by omega) (by omega)
    have hd : S.drop i = S[i] :: S.drop (i + 1) := List.drop_eq_getElem_cons hlt
    have p := c41 s S[i]
    rw [hd]
    cases hx : prefixB s S[i] with
    | true =>
      right
      have : ∃ T', run J okAll (.loop L20_2) T H = some (.ret, T', H.set b (.cells [.int .i64 6, .int .i64 0, .string S[i], .int .i64 0] 31 false)) ∧ T'.at 2 = .pointer (some ⟨b, 0, none⟩) ∧ T'.at 3 = .int .i64 (S[i].size : Int) := by
        rw [r_loop]
        simp [L20_2, t0, t2, t125, t126, t127, hlt, iindexAddr, hg, hgi, hx, p, iparts, bl31c, hb, istore, Value.cells, plain1, overlay]
      obtain ⟨T', e, a, c⟩ := this
      exact ⟨T', S[i], e, by simp [signF, hx], a, c⟩
    | false =>
      have : ∃ T1, run J okAll (.loop L20_2) T H = run J okAll (.loop L20_2) T1 H ∧ T1.at 0 = .string s ∧ T1.at 2 = .pointer (some ⟨b, 0, none⟩) ∧ T1.at 125 = .slice (some ⟨g, 0, none⟩) S.length cap ∧ T1.at 126 = .int .i64 (S.length : Int) ∧ T1.at 127 = .int .i64 ((i : Int) + 1) := by
        rw [r_loop]
        simp [L20_2, t0, t2, t125, t126, t127, hlt, iindexAddr, hg, hgi, hx, p, w1]
        exact ⟨_, rfl, by simp [t0], by simp [t2], by simp [t125], by simp [t126], by simp⟩
      obtain ⟨T1, e0, f0, f2, f125, f126, f127⟩ := this
      have hsg : signF s 0 (S[i] :: S.drop (i + 1)) = signF s 0 (S.drop (i + 1)) := by simp [signF, hx]
      rw [e0, hsg]
      exact ih (i + 1) T1 (by omega) (by omega) f0 f2 f125 f126 (by rw [f127]; simp)
end Go.Proofs.YtjbcjcibnjbpcaaDoor.Idl
namespace Go.Proofs.YtjbcjcibnjbpcaaDoor.Idl
open Go
set_option maxHeartbeats 16000000
set_option linter.unusedSimpArgs false
/-- What the reference answers of a token: without its place; nothing, where it is none. -/
def Tk.ref (t : Tk) : Value := if t.ok then .tuple #[tokV t.kind 0 t.text t.n, .int .i64 (t.fin : Int)] else .tuple #[tokV 0 0 ⟨#[]⟩ 0, .int .i64 0]
theorem gD20_23_3 : Option.bind (D20_23[3]?) (fun x => x.dst) = some 104 := id rfl
theorem guard_undef (w : Bool) : guardB undef w = false := rfl
theorem bl67 (H : IH) : ibuildSlice J 67 2 [(0, .string ⟨#[116, 114, 117, 101]⟩), (1, .string ⟨#[102, 97, 108, 115, 101]⟩)] H = some (.slice (some ⟨H.next, 0, none⟩) 2 2, H.push (.cells (boolsL.map Value.string) 9 false)) := by kernel_rfl
theorem c20 (H : IH) (t : ByteArray) (hs : t.size < 2 ^ 39) (hp : 0 < t.size) : ∃ H', Fr H.next H H' ∧ cal J okAll 20 #[.string t] H = some (.ret (tokF t 0).ref, H') := by
  have i0 : idxS t 0 = some (.int .u8 (bt t 0)) := idxS_bt t 0 hp
  have k0 := fun H T => loop20_0 H t hs (.pointer (some ⟨H.next, 0, none⟩)) (t.size + 1) 1 T (by omega) (by omega)
  have kk := fun T => loop20_0 (H.push tok0) t hs (.pointer (some ⟨H.next, 0, none⟩)) (t.size + 1) 1 T (by omega) (by omega)
  have f1 : Fr H.next H (H.push tok0) := (Fr.refl _ _).push (Nat.le_refl _) _
  have hb0 : (H.push tok0).get H.next = some (.cells [.int .i64 0, .int .i64 0, .string ⟨#[]⟩, .int .i64 0] 31 false) := IH.get_push_same H tok0
  rw [cal20 _ _ (by simp)]
  simp [C20, R20, regsOf, fin, inew, Value.cells]
  generalize hX : run J okAll (.loop L20_0) _ _ = X
  obtain ⟨T1, e1, t0, t2, t4⟩ : ∃ T1, run J okAll (.loop L20_0) T1 (H.push tok0) = X ∧ T1.at 0 = .string t ∧ T1.at 2 = .pointer (some ⟨H.next, 0, none⟩) ∧ T1.at 4 = .int .i64 ((1 : Nat) : Int) := ⟨_, hX, by simp, by simp, by simp⟩
  obtain ⟨T2, g1, g0, g2, g4⟩ := kk T1 t0 t2 t4
  rw [← e1, g1]
  clear g1 e1 hX
  have sE := span_range letterB t 1 (by omega)
  have slE := sliceS_some t 0 (span letterB t 1) (by omega) sE.2
  unfold tokF
  cases hd : digitB (bt t 0) with
  | true =>
    simp only [if_true]
    have sp : span digitB t 0 = span digitB t 1 := by rw [span_step digitB t 0 hp, bt_eq t 0 hp, hd]; rfl
    rw [sp]
    have sD := span_range digitB t 1 (by omega)
    have sa := span_all digitB t _ 0 rfl (by omega)
    rw [sp] at sa
    have slD := sliceS_some t 0 (span digitB t 1) (by omega) sD.2
    have hx : ∀ j, j < (t.extract 0 (span digitB t 1)).size → digitB (bt (t.extract 0 (span digitB t 1)) j) = true := fun j hj => by
      have hj' : j < span digitB t 1 := by simp at hj; omega
      rw [bt_extract t 0 _ j (by omega) sD.2, Nat.zero_add]
      exact sa j (by omega) hj'
    have k34 := fun H => c34 H (t.extract 0 (span digitB t 1)) (by simp; omega) hx
    have hag := num_agree (t.extract 0 (span digitB t 1)) hx ((t.extract 0 (span digitB t 1)).size + 1) 0 0 (by omega) (by omega) (by omega) (by omega)
    rw [hag] at k34
    generalize hE : span digitB t 1 = E at *
    generalize hnum : numF (t.extract 0 E) ((t.extract 0 E).size + 1) 0 0 = r at *
    have hok : (numT r E).ref = if num62 r < 0 then .tuple #[tokV 0 0 ⟨#[]⟩ 0, .int .i64 0] else .tuple #[tokV 1 0 ⟨#[]⟩ (num62 r), .int .i64 (E : Int)] := by
      cases r with
      | none => rfl
      | some r =>
        have hr0 := numF_range _ hx _ _ _ _ (by omega) (by omega) hnum
        by_cases h62 : r < 4611686018427387904
        · have e1 : numT (some r) E = ⟨1, ⟨#[]⟩, r, E, true⟩ := by simp only [numT]; rw [if_pos (by omega)]; simp [h62]
          have e2 : num62 (some r) = r := if_pos h62
          rw [e1, e2, if_neg (by omega)]; rfl
        · have e2 : num62 (some r) = -1 := if_neg h62
          rw [e2, if_pos (by omega)]
          by_cases h63 : r < 9223372036854775808
          · have e1 : numT (some r) E = ⟨1, ⟨#[]⟩, r, E, false⟩ := by simp only [numT]; rw [if_pos h63]; simp [h62]
            rw [e1]; rfl
          · have e1 : numT (some r) E = ⟨1, ⟨#[]⟩, 9223372036854775807, E, false⟩ := by simp only [numT]; rw [if_neg h63]
            rw [e1]; rfl
    rw [hok]
    simp [g0, g2, g4, i0, hd]
    generalize hX : run J okAll (.loop L20_1) _ _ = X
    obtain ⟨T3, e3, m0, m2, m4⟩ : ∃ T3, run J okAll (.loop L20_1) T3 (H.push tok0) = X ∧ T3.at 0 = .string t ∧ T3.at 2 = .pointer (some ⟨H.next, 0, none⟩) ∧ T3.at 4 = .int .i64 ((1 : Nat) : Int) := ⟨_, hX, by simp [g0], by simp [g2], by simp⟩
    obtain ⟨T4, n1, n0, n2, n4⟩ := loop20_1 (H.push tok0) t hs _ (t.size + 1) 1 T3 (by omega) (by omega) m0 m2 m4
    rw [hE] at n4
    rw [← e3, n1]
    clear n1 e3 hX
    cases hneg : decide (num62 r < 0) with
    | true =>
      have hneg' := of_decide_eq_true hneg
      simp [n0, n2, n4, slD, k34, hneg, hneg', iparts, bl31a, hb0, istore, Value.cells, plain1, overlay, fin, iresult1, tokV]
      exact f1.set (Nat.le_refl _) _
    | false =>
      have hneg' := of_decide_eq_false hneg
      simp [n0, n2, n4, slD, k34, hneg, hneg', iparts, bl31b, hb0, istore, Value.cells, plain1, overlay, fin, iresult1, tokV]
      exact f1.set (Nat.le_refl _) _
  | false =>
    simp only [Bool.false_eq_true, if_false]
    by_cases h34 : bt t 0 = 34
    · simp only [if_pos h34]
      have hdg : digitB 34 = false := rfl
      have htx := txtF_suf t 1 (by omega) (t.size + 1) 0 []
      rw [txtF_fuel (t.extract 1 t.size) (t.size + 1) ((t.extract 1 t.size).size + 1) 0 [] (by simp; omega) (by omega)] at htx
      obtain ⟨H2, f2, e35⟩ := c35 (H.push tok0) (t.extract 1 t.size) (by simp; omega)
      have hb2 : H2.get H.next = some (.cells [.int .i64 0, .int .i64 0, .string ⟨#[]⟩, .int .i64 0] 31 false) := by rw [f2.2 _ (by simp)]; exact hb0
      have f3 : Fr H.next H H2 := f1.trans' f2 (by simp)
      have hend := txtF_end (t.extract 1 t.size) ((t.extract 1 t.size).size + 1) 0 []
      have hsz := size_suf t 1
      have sl1 := sliceS_some t 1 t.size (by omega) (by omega)
      rw [show 1 + 0 = 0 + 1 from rfl] at htx
      rw [htx]
      generalize txtF (t.extract 1 t.size) ((t.extract 1 t.size).size + 1) 0 [] = r at *
      cases r with
      | none =>
        simp only [txtRV] at e35
        simp [g0, g2, g4, i0, hdg, h34, sl1, bound_int, e35, iparts, bl31a, hb2, istore, Value.cells, plain1, overlay, fin, iresult1, tokV, shT, txtT, Tk.ref]
        exact f3.set (Nat.le_refl _) _
      | some q =>
        obtain ⟨l, e⟩ := q
        have he := (hend _ rfl).2
        simp only at he
        have w1 : IntKind.i64.wrap (1 + (e : Int)) = 1 + (e : Int) := wrap64 _ (by omega) (by omega)
        simp only [txtRV] at e35
        simp [g0, g2, g4, i0, hdg, h34, sl1, bound_int, e35, iparts, bl31c, hb2, istore, Value.cells, plain1, overlay, fin, iresult1, tokV, shT, txtT, Tk.ref, w1]
        exact ⟨f3.set (Nat.le_refl _) _, by omega⟩
    · simp only [if_neg h34]
      have h34D : decide (bt t 0 = 34) = false := decide_eq_false h34
      by_cases h39 : bt t 0 = 39
      · simp only [if_pos h39]
        have hdg : digitB 39 = false := rfl
        rw [show 0 + 1 = 1 from rfl]
        generalize hE : span letterB t 1 = E at *
        cases h1 : decide (E = 1) with
        | true =>
          have h1' := of_decide_eq_true h1
          subst h1'
          simp [g0, g2, g4, i0, hdg, h39, iparts, bl31a, hb0, istore, Value.cells, plain1, overlay, fin, iresult1, tokV, Tk.ref]
          exact f1.set (Nat.le_refl _) _
        | false =>
          have h1' := of_decide_eq_false h1
          have h1D : decide ((E : Int) = 1) = false := decide_eq_false (by omega)
          have hlt : 1 < E := by omega
          simp [g0, g2, g4, i0, hdg, h39, slE, h1D, hlt, iparts, bl31c, hb0, istore, Value.cells, plain1, overlay, fin, iresult1, tokV, Tk.ref]
          exact f1.set (Nat.le_refl _) _
      · simp only [if_neg h39]
        have h39D : decide (bt t 0 = 39) = false := decide_eq_false h39
        have hBb : (H.push tok0).next = H.next + 1 := rfl
        by_cases hw : smallB (bt t 0) = true ∨ greatB (bt t 0) = true
        · rw [if_pos (by simpa using hw)]
          have sp : span letterB t 0 = span letterB t 1 := by rw [span_step letterB t 0 hp, bt_eq t 0 hp, letter_of_small hw]; rfl
          have hx0 : bt (t.extract 0 (span letterB t 1)) 0 = bt t 0 := by rw [bt_extract t 0 _ 0 (by omega) sE.2]
          rw [sp]
          have kg := kind_great (t.extract 0 (span letterB t 1))
          have ks := kind_small (t.extract 0 (span letterB t 1))
          rw [hx0] at kg ks
          generalize hE : span letterB t 1 = E at *
          generalize hx : t.extract 0 E = x at *
          cases hgr : greatB (bt t 0) with
          | true =>
            rw [kg hgr]
            simp [g0, g2, g4, i0, hd, h34D, h39D, hgr, slE, iparts, bl31c, hb0, istore, Value.cells, plain1, overlay, fin, iresult1, tokV, Tk.ref, guard_undef]
            exact f1.set (Nat.le_refl _) _
          | false =>
            have hsm : smallB (bt t 0) = true := by rcases hw with h | h; exact h; rw [hgr] at h; cases h
            rw [ks hgr]
            have b1 := bl67 (H.push tok0)
            have k1 := c38 ((H.push tok0).push (.cells (boolsL.map Value.string) 9 false)) (H.next + 1) 2 x boolsL false (IH.get_push_same (H.push tok0) _) (by decide)
            have hb1 : ((H.push tok0).push (.cells (boolsL.map Value.string) 9 false)).get H.next = some (.cells [.int .i64 0, .int .i64 0, .string ⟨#[]⟩, .int .i64 0] 31 false) := by rw [IH.get_push_other _ _ _ (by simp)]; exact hb0
            have f2 : Fr H.next H ((H.push tok0).push (.cells (boolsL.map Value.string) 9 false)) := f1.push (by simp) _
            generalize hH2 : (H.push tok0).push (.cells (boolsL.map Value.string) 9 false) = H2 at *
            have hn2 : H2.next = H.next + 2 := by rw [← hH2]; rfl
            have bl2 : boolsL.length = 2 := rfl
            rw [bl2] at k1
            cases ha : amongF x boolsL with
            | true =>
              rw [ha] at k1
              simp [g0, g2, g4, i0, hd, h34D, h39D, hgr, hsm, slE, iparts, b1, k1, bl31c, hb1, istore, Value.cells, plain1, overlay, fin, iresult1, tokV, Tk.ref]
              exact f2.set (Nat.le_refl _) _
            | false =>
              rw [ha] at k1
              have k2 := c39 H2
              have k3 := c38 (H2.push (.cells (wordsL.map Value.string) 9 false)) H2.next 20 x wordsL false (IH.get_push_same H2 _) (by decide)
              have hb2 : (H2.push (.cells (wordsL.map Value.string) 9 false)).get H.next = some (.cells [.int .i64 0, .int .i64 0, .string ⟨#[]⟩, .int .i64 0] 31 false) := by rw [IH.get_push_other _ _ _ (by omega)]; exact hb1
              have f3 : Fr H.next H (H2.push (.cells (wordsL.map Value.string) 9 false)) := f2.push (by omega) _
              have wl20 : wordsL.length = 20 := rfl
              rw [wl20] at k3
              generalize hH3 : H2.push (.cells (wordsL.map Value.string) 9 false) = H3 at *
              cases hb : amongF x wordsL with
              | true =>
                rw [hb] at k3
                simp [g0, g2, g4, i0, hd, h34D, h39D, hgr, hsm, slE, iparts, b1, k1, k2, k3, bl31c, hb2, istore, Value.cells, plain1, overlay, fin, iresult1, tokV, Tk.ref, isEff, oblig, veq]
                exact f3.set (Nat.le_refl _) _
              | false =>
                rw [hb] at k3
                simp [g0, g2, g4, i0, hd, h34D, h39D, hgr, hsm, slE, iparts, b1, k1, k2, k3, bl31c, hb2, istore, Value.cells, plain1, overlay, fin, iresult1, tokV, Tk.ref, isEff, oblig, veq]
                exact f3.set (Nat.le_refl _) _
        · rw [if_neg (by simpa using hw)]
          have hsm : smallB (bt t 0) = false := by cases h : smallB (bt t 0) <;> simp_all
          have hgr : greatB (bt t 0) = false := by cases h : greatB (bt t 0) <;> simp_all
          have k4 := c40 (H.push tok0)
          have hb1 : ((H.push tok0).push (.cells (signsL.map Value.string) 9 false)).get H.next = some (.cells [.int .i64 0, .int .i64 0, .string ⟨#[]⟩, .int .i64 0] 31 false) := by rw [IH.get_push_other _ _ _ (by simp)]; exact hb0
          have f2 : Fr H.next H ((H.push tok0).push (.cells (signsL.map Value.string) 9 false)) := f1.push (by simp) _
          have key := fun T => loop20_2 ((H.push tok0).push (.cells (signsL.map Value.string) 9 false)) t H.next (H.next + 1) 24 signsL false (by omega) (IH.get_push_same (H.push tok0) _) hb1 (by decide) _ 0 T rfl (by omega)
          generalize hH2 : (H.push tok0).push (.cells (signsL.map Value.string) 9 false) = H2 at *
          have sl24 : signsL.length = 24 := rfl
          rw [sl24] at key
          simp only [List.drop_zero] at key
          simp [g0, g2, g4, i0, hd, h34D, h39D, hgr, hsm, slE, k4, iparts, isEff, oblig, veq, wantedR, gD20_23_3]
          generalize hX : run J okAll (.loop L20_2) _ _ = X
          obtain ⟨T3, e3, m0, m2, m125, m126, m127⟩ : ∃ T3, run J okAll (.loop L20_2) T3 H2 = X ∧ T3.at 0 = .string t ∧ T3.at 2 = .pointer (some ⟨H.next, 0, none⟩) ∧ T3.at 125 = .slice (some ⟨H.next + 1, 0, none⟩) 24 24 ∧ T3.at 126 = .int .i64 ((24 : Nat) : Int) ∧ T3.at 127 = .int .i64 ((0 : Nat) : Int) :=
            ⟨_, hX, by simp [g0], by simp [g2], by simp, by simp, by simp⟩
          rw [← e3]
          clear hX
          rcases key T3 m0 m2 m125 m126 m127 with ⟨T4, n1, n2, n3⟩ | ⟨T4, x, n1, n2, n3, n4⟩
          · rw [n1, n2]
            simp [n3, iparts, bl31a, hb1, istore, Value.cells, plain1, overlay, fin, iresult1, tokV, Tk.ref, signT]
            exact f2.set (Nat.le_refl _) _
          · rw [n1, n2]
            simp [n3, n4, hb1, fin, iresult1, tokV, Tk.ref, signT]
            exact f2.set (Nat.le_refl _) _
end Go.Proofs.YtjbcjcibnjbpcaaDoor.Idl
namespace Go.Proofs.YtjbcjcibnjbpcaaDoor.Idl
open Go
set_option maxHeartbeats 8000000
set_option linter.unusedSimpArgs false
theorem span_suf (q : Int → Bool) (s : ByteArray) (p : Nat) : ∀ (n j : Nat), s.size - (p + j) = n → p + j ≤ s.size → span q s (p + j) = p + span q (s.extract p s.size) j := by
  intro n
  induction n with
  | zero => intro j h1 h2; rw [span_end q s _ (by omega), span_end q _ j (by rw [size_suf]; omega)]
  | succ n ih =>
    intro j h1 h2
    have hlt : j < (s.extract p s.size).size := by rw [size_suf]; omega
    rw [span_step q s (p + j) (by omega), span_step q _ j hlt, bt_eq s (p + j) (by omega), bt_eq _ j hlt, bt_suf s p j (by omega)]
    have := ih (j + 1) (by omega) (by omega)
    rw [show p + (j + 1) = p + j + 1 by omega] at this
    rw [this]
    split <;> rfl
theorem signF_suf (s : ByteArray) (p : Nat) : ∀ S : List ByteArray, signF s p S = signF (s.extract p s.size) 0 S := by
  intro S
  induction S with
  | nil => rfl
  | cons x S ih => simp only [signF]; rw [ih, suf_zero (s.extract p s.size)]
theorem tokF_suf (s : ByteArray) (p : Nat) (hp : p < s.size) : (tokF s p).ok = (tokF (s.extract p s.size) 0).ok ∧
    ((tokF s p).ok = true → tokF s p = { tokF (s.extract p s.size) 0 with fin := (tokF (s.extract p s.size) 0).fin + p }) := by
  have hb : bt (s.extract p s.size) 0 = bt s p := bt_suf s p 0 (by omega)
  have hz := size_suf s p
  have sp := fun q j (h : p + j ≤ s.size) => span_suf q s p _ j rfl h
  have sr := fun q j (h : j ≤ (s.extract p s.size).size) => span_range q (s.extract p s.size) j h
  have ex : ∀ e, p + e ≤ s.size → (s.extract p s.size).extract 0 e = s.extract p (p + e) := fun e he => by rw [ext_ext s p 0 e he]; rfl
  unfold tokF
  rw [hb]
  cases hd : digitB (bt s p) with
  | true =>
    simp only [if_true]
    have e0 := sp digitB 0 (by omega)
    rw [Nat.add_zero] at e0
    have r0 := sr digitB 0 (by omega)
    rw [e0, ← ex _ (by omega)]
    generalize numF ((s.extract p s.size).extract 0 (span digitB (s.extract p s.size) 0)) (((s.extract p s.size).extract 0 (span digitB (s.extract p s.size) 0)).size + 1) 0 0 = r
    cases r with
    | none => exact ⟨rfl, fun h => by cases h⟩
    | some r =>
      simp only [numT]
      by_cases h63 : r < 9223372036854775808
      · rw [if_pos h63, if_pos h63]; exact ⟨rfl, fun _ => by simp only [Tk.mk.injEq, true_and, and_true]; omega⟩
      · rw [if_neg h63, if_neg h63]; exact ⟨rfl, fun h => by cases h⟩
  | false =>
    simp only [Bool.false_eq_true, if_false]
    by_cases h34 : bt s p = 34
    · simp only [if_pos h34]
      have e1 := txtF_suf s p (by omega) (s.size + 1) 1 []
      rw [txtF_fuel (s.extract p s.size) (s.size + 1) ((s.extract p s.size).size + 1) 1 [] (by omega) (by omega)] at e1
      rw [e1, Nat.zero_add]
      cases txtF (s.extract p s.size) ((s.extract p s.size).size + 1) 1 [] with
      | none => exact ⟨rfl, fun h => by cases h⟩
      | some q => exact ⟨rfl, fun _ => rfl⟩
    · simp only [if_neg h34]
      by_cases h39 : bt s p = 39
      · simp only [if_pos h39]
        have e0 := sp letterB 1 (by omega)
        have r0 := sr letterB 1 (by omega)
        rw [e0, Nat.zero_add, ← ex _ (by omega)]
        refine ⟨?_, fun h => ?_⟩
        · rw [decide_eq_decide]; omega
        · simp only [Tk.mk.injEq, true_and]
          exact ⟨by omega, by rw [decide_eq_decide]; omega⟩
      · simp only [if_neg h39]
        have e0 := sp letterB 0 (by omega)
        rw [Nat.add_zero] at e0
        have r0 := sr letterB 0 (by omega)
        split
        · rw [e0, ← ex _ (by omega)]
          exact ⟨rfl, fun _ => by simp only [Tk.mk.injEq, true_and, and_true]; omega⟩
        · rw [signF_suf s p]
          cases signF (s.extract p s.size) 0 signsL with
          | none => exact ⟨rfl, fun h => by cases h⟩
          | some x => exact ⟨rfl, fun _ => by simp only [signT, Tk.mk.injEq, true_and, and_true]; omega⟩
/-! ### Blanks -/
def blankB (c : Int) : Bool := decide (c = 32) || decide (c = 9) || decide (c = 10) || decide (c = 13)
theorem skipL_fuel (s : ByteArray) : ∀ (n m p : Nat), s.size < n + p → s.size < m + p → skipL s n p = skipL s m p := by
  intro n
  induction n with
  | zero =>
    intro m p h1 h2
    cases m with
    | zero => rfl
    | succ m => simp only [skipL]; rw [dif_neg (by omega)]
  | succ n ih =>
    intro m p h1 h2
    cases m with
    | zero => simp only [skipL]; rw [dif_neg (by omega)]
    | succ m =>
      simp only [skipL]
      have h3 := remL_nonneg s (s.size + 1) p 0
      rw [ih m (p + 1) (by omega) (by omega)]
      by_cases hr : remL s (s.size + 1) 0 p < 0
      · simp only [hr, if_true]
      · rw [ih m (remL s (s.size + 1) 0 p).toNat (by omega) (by omega)]
end Go.Proofs.YtjbcjcibnjbpcaaDoor.Idl
namespace Go.Proofs.YtjbcjcibnjbpcaaDoor.Idl
open Go
set_option maxHeartbeats 8000000
set_option maxRecDepth 100000
set_option linter.unusedSimpArgs false
theorem blank_all : ∀ n : Fin 256, decide (0 ≤ idxB ⟨#[32, 9, 10, 13]⟩ ((n.val : Nat) : Int)) = blankB ((n.val : Nat) : Int) := by decide
theorem blank_eq (c : UInt8) : decide (0 ≤ idxB ⟨#[32, 9, 10, 13]⟩ ((c.toNat : Nat) : Int)) = blankB ((c.toNat : Nat) : Int) := blank_all ⟨c.toNat, c.toNat_lt⟩
theorem skip_step (s : ByteArray) (p : Nat) (hp : p < s.size) : skipL s (s.size + 1) p =
    if blankB (bt s p) then skipL s (s.size + 1) (p + 1)
    else if prefixB (s.extract p s.size) ⟨#[40, 42]⟩ then (if remS (s.extract p s.size) < 0 then (p, (p : Int)) else skipL s (s.size + 1) (p + (remS (s.extract p s.size)).toNat))
    else (p, -1) := by
  have e : skipL s (s.size + 1) p = if 0 ≤ idxB ⟨#[32, 9, 10, 13]⟩ (s[p]).toNat then skipL s s.size (p + 1)
      else if prefixB (s.extract p s.size) ⟨#[40, 42]⟩ then (if remL s (s.size + 1) 0 p < 0 then (p, (p : Int)) else skipL s s.size (remL s (s.size + 1) 0 p).toNat)
      else (p, -1) := by simp only [skipL]; rw [dif_pos hp]
  rw [e]
  have hb := blank_eq s[p]
  rw [bt_eq s p hp] at hb ⊢
  rw [← hb]
  by_cases h1 : 0 ≤ idxB ⟨#[32, 9, 10, 13]⟩ (bt s p)
  · rw [if_pos h1, if_pos (by simp [h1])]
    exact skipL_fuel s _ _ _ (by omega) (by omega)
  · rw [if_neg h1, if_neg (show ¬ decide (0 ≤ idxB ⟨#[32, 9, 10, 13]⟩ (bt s p)) = true by simp [h1])]
    by_cases h2 : prefixB (s.extract p s.size) ⟨#[40, 42]⟩ = true
    · rw [if_pos h2, if_pos h2]
      have hr := remL_suf s p (by omega) (s.size + 1) 0 0
      rw [show p + 0 = p from rfl, remL_fuel (s.extract p s.size) (s.size + 1) ((s.extract p s.size).size + 1) 0 0 (by rw [size_suf]; omega) (by omega)] at hr
      have hS : remS (s.extract p s.size) = remL (s.extract p s.size) ((s.extract p s.size).size + 1) 0 0 := if_pos h2
      rw [hr, ← hS]
      have hg := remL_gt s (s.size + 1) p (remL s (s.size + 1) 0 p).toNat 0
      rw [hr, ← hS] at hg
      generalize remS (s.extract p s.size) = r at *
      by_cases h3 : r < 0
      · rw [if_pos h3, if_pos h3, if_pos (by omega)]
      · rw [if_neg h3] at hg
        have hg := hg (by omega)
        rw [if_neg h3, if_neg h3, if_neg (by omega)]
        rw [show (r + (p : Int)).toNat = p + r.toNat by omega]
        exact skipL_fuel s _ _ _ (by omega) (by omega)
    · rw [if_neg h2, if_neg h2]
theorem remS_zero (t : ByteArray) : remS t = 0 ↔ prefixB t ⟨#[40, 42]⟩ = false := by
  unfold remS
  cases h : prefixB t ⟨#[40, 42]⟩ with
  | false => simp
  | true =>
    have := remL_nonneg t (t.size + 1) 0 0
    simp only [if_true]
    constructor
    · intro e; omega
    · intro e; cases e
theorem lexF_skip (s : ByteArray) (p p' : Nat) (h : skipL s (s.size + 1) p = skipL s (s.size + 1) p') (k : Nat) (acc : List (Nat × Tk)) : lexF s k p acc = lexF s k p' acc := by
  cases k with
  | zero => rfl
  | succ k => simp only [lexF]; rw [h]
theorem lexF_blank (s : ByteArray) (p : Nat) (hp : p < s.size) (hb : blankB (bt s p) = true) (k : Nat) (acc : List (Nat × Tk)) : lexF s k p acc = lexF s k (p + 1) acc :=
  lexF_skip s p (p + 1) (by rw [skip_step s p hp, if_pos hb]) k acc
theorem remS_pre (t : ByteArray) (h : remS t ≠ 0) : prefixB t ⟨#[40, 42]⟩ = true := by
  cases h2 : prefixB t ⟨#[40, 42]⟩ with
  | true => rfl
  | false => exact absurd ((remS_zero _).2 h2) h
theorem lexF_remark (s : ByteArray) (p : Nat) (hp : p < s.size) (hb : blankB (bt s p) = false) (hr : 0 < remS (s.extract p s.size)) (k : Nat) (acc : List (Nat × Tk)) :
    lexF s k p acc = lexF s k (p + (remS (s.extract p s.size)).toNat) acc := by
  have h2 := remS_pre (s.extract p s.size) (by omega)
  refine lexF_skip s p _ ?_ k acc
  rw [skip_step s p hp, hb, h2]
  simp only [Bool.false_eq_true, if_false, if_true]
  rw [if_neg (by omega)]
theorem lexF_open (s : ByteArray) (p : Nat) (hp : p < s.size) (hb : blankB (bt s p) = false) (hr : remS (s.extract p s.size) < 0) (k : Nat) (acc : List (Nat × Tk)) : lexF s (k + 1) p acc = .err 10 p := by
  have h2 := remS_pre (s.extract p s.size) (by omega)
  have e : skipL s (s.size + 1) p = (p, (p : Int)) := by
    rw [skip_step s p hp, hb, h2]
    simp only [Bool.false_eq_true, if_false, if_true]
    rw [if_pos hr]
  simp only [lexF]
  rw [e]
  simp
theorem lexF_end (s : ByteArray) (p : Nat) (hp : s.size ≤ p) (hp2 : p ≤ s.size) (k : Nat) (acc : List (Nat × Tk)) : lexF s (k + 1) p acc = .ok acc := by
  have e : skipL s (s.size + 1) p = (p, -1) := by simp only [skipL]; rw [dif_neg (by omega)]
  have hps : p = s.size := by omega
  simp only [lexF]
  rw [e]
  simp [hps]
theorem lexF_tok (s : ByteArray) (p : Nat) (hp : p < s.size) (hb : blankB (bt s p) = false) (hr : remS (s.extract p s.size) = 0) (k : Nat) (acc : List (Nat × Tk)) :
    lexF s (k + 1) p acc = if (tokF s p).ok = false then .err 10 p else if acc.length = 4000 then .err 2 p else lexF s k (tokF s p).fin (acc ++ [(p, tokF s p)]) := by
  have h2 := (remS_zero _).1 hr
  have e : skipL s (s.size + 1) p = (p, -1) := by
    rw [skip_step s p hp, hb, h2]
    rfl
  have hne : ¬ p = s.size := by omega
  simp only [lexF]
  rw [e]
  simp only [hne, if_false]
  rfl
end Go.Proofs.YtjbcjcibnjbpcaaDoor.Idl
