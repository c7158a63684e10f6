/- The code of this seat's functions, without places and edges, under names of its own; printed out of the loaded program. -/
import Derived.Test.YtchlbfmjnhgpgaaGreatPack2
namespace Go.Proofs.YtchlbfmjnhgpgaaGreat.Idl
open Go
set_option maxRecDepth 100000
noncomputable section
def C96 : Code := (.seq (.region 0 #[o 2 (.assign (.const (.int .u64 0))) 62] false) (.seq (.region 1 #[o 3 (.move (.tmp 0)) 2, o 4 (.convert 2 62 (.tmp 3)) 62, o 5 (.binOp .shl 62 (.tmp 4) (.const (.int .u64 1)) 31) 62, o 6 (.binOp .or 62 (.tmp 5) (.const (.int .u64 1)) 62) 62, o 2 (.assign (.tmp 6)) 62] false) .ret))
theorem cal96 (args : Array Value) (H : IH) (h : args.size ≤ 7) : cal J okAll 96 args H = finish J [.tmp 2] (run J okAll C96 (regsOf args.toList 0 .leaf) H) := cal_er J H okAll 96 args Tryz.f96 _ C96 _ rfl rfl rfl (by kernel_rfl) rfl h rfl rfl
def C97 : Code := (.region 0 #[o 4 (.move (.tmp 0)) 79, o 5 (.call ⟨.value (.func 66), #[.tmp 4], #[79]⟩) 131, o 6 (.move (.tmp 0)) 79, o 7 (.call ⟨.value (.func 66), #[.tmp 6], #[79]⟩) 131, o 8 (.move (.tmp 1)) 3, o 9 (.nilCheck (.tmp 5)) 0, o 10 (.fieldAddr 138 (.tmp 9) 0) 0, o 11 (.fieldAddr 135 (.tmp 10) 1) 0, oz (.store 3 (.tmp 11) (.tmp 8)) 0, o 12 (.nilCheck (.tmp 7)) 0, o 13 (.fieldAddr 138 (.tmp 12) 0) 0, o 14 (.fieldAddr 135 (.tmp 13) 2) 0, oz (.store 3 (.tmp 14) (xi 0)) 0] false)
theorem cal97 (args : Array Value) (H : IH) (h : args.size ≤ 15) : cal J okAll 97 args H = finish J [] (run J okAll C97 (regsOf args.toList 0 .leaf) H) := cal_er J H okAll 97 args Tryz.f97 _ C97 _ rfl rfl rfl (by kernel_rfl) rfl h rfl rfl
def C98 : Code := (.seq (.region 0 #[o 4 (.assign (xi 0)) 2] false) (.seq (.region 1 #[o 6 (.move (.tmp 0)) 79, o 7 (.move (.tmp 1)) 3, o 8 (.call ⟨.value (.func 102), #[.tmp 6, .tmp 7], #[79, 3]⟩) 175, o 9 (.nilCheck (.tmp 8)) 0, o 10 (.load 62 (.tmp 9)) 62, o 5 (.assign (.tmp 10)) 62] false) (.seq (.region 2 #[o 11 (.move (.tmp 0)) 79, o 12 (.move (.tmp 5)) 62, o 13 (.call ⟨.value (.func 160), #[.tmp 12], #[62]⟩) 4, o 14 (.call ⟨.value (.func 63), #[.tmp 11, .tmp 13], #[79, 4]⟩) 0] false) (.seq (.region 3 #[o 15 (.move (.tmp 5)) 62, o 16 (.call ⟨.value (.func 161), #[.tmp 15], #[62]⟩) 2, o 4 (.assign (.tmp 16)) 2] false) .ret))))
theorem cal98 (args : Array Value) (H : IH) (h : args.size ≤ 17) : cal J okAll 98 args H = finish J [.tmp 4] (run J okAll C98 (regsOf args.toList 0 .leaf) H) := cal_er J H okAll 98 args Tryz.f98 _ C98 _ rfl rfl rfl (by kernel_rfl) rfl h rfl rfl
def L100_0 : Code := (.seq (.region 2 #[o 10 (.binOp .lss 3 (.tmp 9) (.tmp 8) 3) 0] false) (.seq (.cond (.tmp 10) .skip (.exit 0)) (.seq (.block 1 (.seq (.region 3 #[o 11 (.indexAddr 28 (.tmp 7) (.tmp 9)) 0, o 12 (.load 3 (.tmp 11)) 3, o 6 (.assign (.tmp 12)) 3] false) (.region 4 #[o 13 (.move (.tmp 4)) 136, o 14 (.move (.tmp 0)) 79, o 15 (.move (.tmp 6)) 3, o 16 (.call ⟨.value (.func 102), #[.tmp 14, .tmp 15], #[79, 3]⟩) 175, o 17 (.nilCheck (.tmp 16)) 0, o 18 (.load 62 (.tmp 17)) 62, o 19 (.buildSlice 136 1 #[(0, .tmp 18)]) 136, o 20 (.call ⟨.builtin .append, #[.tmp 13, .tmp 19], #[136, 136]⟩) 136, o 4 (.assign (.tmp 20)) 136] false))) (.region 5 #[o 21 (.binOp .add 3 (.tmp 9) (xi 1) 3) 3, o 9 (.move (.tmp 21)) 3] false))))
def C100 : Code := (.seq (.region 0 #[o 4 (.assign (.const (.slice none 0 0))) 136] false) (.seq (.seq (.region 1 #[o 7 (.move (.tmp 1)) 28, o 8 (.call ⟨.builtin .len, #[.tmp 7], #[28]⟩) 3, o 9 (.move (xi 0)) 3] false) (.block 0 (.loop L100_0))) (.seq (.region 6 #[o 22 (.move (.tmp 4)) 136, o 4 (.assign (.tmp 22)) 136] false) .ret)))
theorem cal100 (args : Array Value) (H : IH) (h : args.size ≤ 23) : cal J okAll 100 args H = finish J [.tmp 4] (run J okAll C100 (regsOf args.toList 0 .leaf) H) := cal_er J H okAll 100 args Tryz.f100 _ C100 _ rfl rfl rfl (by kernel_rfl) rfl h rfl rfl
def D101_0 : List Oper := regOf Tryz.f101 0
@[simp] def A101_0 : List Ann := [a0 (o 2 (.move (.tmp 0)) 79), a0 (o 3 (.nilCheck (.tmp 2)) 0), a0 (o 4 (.fieldAddr 84 (.tmp 3) 4) 0), al (o 5 (.load 3 (.tmp 4)) 3) [1], a0 (o 6 (.move (.tmp 0)) 79), ae (o 7 (.call ⟨.value (.func 66), #[.tmp 6], #[79]⟩) 131) true, a0 (o 8 (.nilCheck (.tmp 7)) 0), a0 (o 9 (.fieldAddr 138 (.tmp 8) 0) 0), a0 (o 10 (.fieldAddr 135 (.tmp 9) 0) 0), a0 (o 11 (.load 133 (.tmp 10)) 133), a0 (o 12 (.nilCheck (.tmp 11)) 0), a0 (o 13 (.fieldAddr 59 (.tmp 12) 2) 0), a0 (o 14 (.load 3 (.tmp 13)) 3), a0 (o 15 (.binOp .add 3 (.tmp 14) (xi 2) 3) 3), a0 (o 16 (.binOp .sub 3 (.tmp 5) (.tmp 15) 3) 3), a0 (o 17 (.nilCheck (.tmp 2)) 0), a0 (o 18 (.fieldAddr 84 (.tmp 17) 4) 0), ae (oz (.store 3 (.tmp 18) (.tmp 16)) 0) true]
def O101_0 : List Oper := A101_0.map (·.o)
@[simp] theorem r101_0 (T : Regs) (H : IH) : run J okAll (.region 0 D101_0.toArray true) T H = annSel J okAll D101_0.toArray T H (eRun J (cal J okAll) O101_0.toArray A101_0 T H 0 []) := r_ann (by kernel_rfl) (by kernel_rfl) 0 T H
def C101 : Code := (.seq (.region 0 D101_0.toArray true) (.region 1 #[o 19 (.move (.tmp 0)) 79, o 20 (.move (.tmp 0)) 79, o 21 (.nilCheck (.tmp 20)) 0, o 22 (.fieldAddr 84 (.tmp 21) 3) 0, o 23 (.load 82 (.tmp 22)) 82, o 24 (.move (.tmp 0)) 79, o 25 (.nilCheck (.tmp 24)) 0, o 26 (.fieldAddr 84 (.tmp 25) 3) 0, o 27 (.load 82 (.tmp 26)) 82, o 28 (.call ⟨.builtin .len, #[.tmp 27], #[82]⟩) 3, o 29 (.binOp .sub 3 (.tmp 28) (xi 1) 3) 3, o 30 (.slice 82 (.tmp 23) none (some (.tmp 29)) none) 82, o 31 (.nilCheck (.tmp 19)) 0, o 32 (.fieldAddr 84 (.tmp 31) 3) 0, oz (.store 82 (.tmp 32) (.tmp 30)) 0] false))
theorem cal101 (args : Array Value) (H : IH) (h : args.size ≤ 33) : cal J okAll 101 args H = finish J [] (run J okAll C101 (regsOf args.toList 0 .leaf) H) := cal_er J H okAll 101 args Tryz.f101 _ C101 _ rfl rfl rfl (by kernel_rfl) rfl h rfl rfl
def C102 : Code := (.seq (.region 0 #[o 4 (.assign (.const (.pointer none))) 175] false) (.seq (.region 1 #[o 6 (.move (.tmp 0)) 79, o 7 (.call ⟨.value (.func 66), #[.tmp 6], #[79]⟩) 131, o 5 (.assign (.tmp 7)) 131] false) (.seq (.region 2 #[o 8 (.move (.tmp 0)) 79, o 9 (.move (.tmp 1)) 3, o 10 (.binOp .geq 3 (.tmp 9) (xi 0) 3) 4, o 11 (.move (.tmp 10)) 4, og 12 (.move (.tmp 1)) 3 3 true, og 13 (.move (.tmp 5)) 131 3 true, og 14 (.nilCheck (.tmp 13)) 0 3 true, og 15 (.fieldAddr 138 (.tmp 14) 1) 0 3 true, og 16 (.load 136 (.tmp 15)) 136 3 true, og 17 (.call ⟨.builtin .len, #[.tmp 16], #[136]⟩) 3 3 true, og 18 (.binOp .lss 3 (.tmp 12) (.tmp 17) 3) 4 3 true, o 19 (.pick (.tmp 11) (.tmp 18) (.const (.bool false))) 4, o 20 (.call ⟨.value (.func 63), #[.tmp 8, .tmp 19], #[79, 4]⟩) 0] false) (.seq (.region 3 #[o 21 (.move (.tmp 5)) 131, o 22 (.nilCheck (.tmp 21)) 0, o 23 (.fieldAddr 138 (.tmp 22) 1) 0, o 24 (.load 136 (.tmp 23)) 136, o 25 (.move (.tmp 1)) 3, o 26 (.indexAddr 136 (.tmp 24) (.tmp 25)) 0, o 4 (.assign (.tmp 26)) 175] false) .ret))))
theorem cal102 (args : Array Value) (H : IH) (h : args.size ≤ 27) : cal J okAll 102 args H = finish J [.tmp 4] (run J okAll C102 (regsOf args.toList 0 .leaf) H) := cal_er J H okAll 102 args Tryz.f102 _ C102 _ rfl rfl rfl (by kernel_rfl) rfl h rfl rfl
def C103 : Code := (.region 0 #[o 6 (.move (.tmp 0)) 79, o 7 (.move (.tmp 1)) 3, o 8 (.call ⟨.value (.func 102), #[.tmp 6, .tmp 7], #[79, 3]⟩) 175, o 9 (.move (.tmp 2)) 62, o 10 (.nilCheck (.tmp 8)) 0, oz (.store 62 (.tmp 10) (.tmp 9)) 0] false)
theorem cal103 (args : Array Value) (H : IH) (h : args.size ≤ 11) : cal J okAll 103 args H = finish J [] (run J okAll C103 (regsOf args.toList 0 .leaf) H) := cal_er J H okAll 103 args Tryz.f103 _ C103 _ rfl rfl rfl (by kernel_rfl) rfl h rfl rfl
def C104 : Code := (.seq (.region 0 #[o 2 (.assign (.const (.pointer none))) 139] false) (.seq (.region 1 #[o 3 (.move (.tmp 0)) 131, o 4 (.nilCheck (.tmp 3)) 0, o 5 (.fieldAddr 138 (.tmp 4) 0) 0, o 6 (.fieldAddr 135 (.tmp 5) 0) 0, o 7 (.load 133 (.tmp 6)) 133, o 8 (.nilCheck (.tmp 7)) 0, o 9 (.fieldAddr 59 (.tmp 8) 3) 0, o 10 (.load 57 (.tmp 9)) 57, o 11 (.move (.tmp 0)) 131, o 12 (.nilCheck (.tmp 11)) 0, o 13 (.fieldAddr 138 (.tmp 12) 0) 0, o 14 (.fieldAddr 135 (.tmp 13) 1) 0, o 15 (.load 3 (.tmp 14)) 3, o 16 (.indexAddr 57 (.tmp 10) (.tmp 15)) 0, o 17 (.fieldAddr 56 (.tmp 16) 1) 0, o 18 (.load 54 (.tmp 17)) 54, o 19 (.move (.tmp 0)) 131, o 20 (.nilCheck (.tmp 19)) 0, o 21 (.fieldAddr 138 (.tmp 20) 0) 0, o 22 (.fieldAddr 135 (.tmp 21) 2) 0, o 23 (.load 3 (.tmp 22)) 3, o 24 (.binOp .sub 3 (.tmp 23) (xi 1) 3) 3, o 25 (.indexAddr 54 (.tmp 18) (.tmp 24)) 0, o 2 (.assign (.tmp 25)) 139] false) .ret))
theorem cal104 (args : Array Value) (H : IH) (h : args.size ≤ 26) : cal J okAll 104 args H = finish J [.tmp 2] (run J okAll C104 (regsOf args.toList 0 .leaf) H) := cal_er J H okAll 104 args Tryz.f104 _ C104 _ rfl rfl rfl (by kernel_rfl) rfl h rfl rfl
def L105_0 : Code := (.block 1 (.seq (.region 0 #[o 6 (.move (.tmp 0)) 79, o 7 (.call ⟨.value (.func 101), #[.tmp 6], #[79]⟩) 0] false) (.seq (.seq (.region 1 #[o 8 (.move (.tmp 0)) 79, o 9 (.nilCheck (.tmp 8)) 0, o 10 (.fieldAddr 84 (.tmp 9) 3) 0, o 11 (.load 82 (.tmp 10)) 82, o 12 (.call ⟨.builtin .len, #[.tmp 11], #[82]⟩) 3, o 13 (.binOp .eql 3 (.tmp 12) (xi 0) 3) 4] false) (.cond (.tmp 13) (.seq (.region 2 #[o 14 (.move (.tmp 0)) 79, o 15 (.move (.tmp 0)) 79, o 16 (.move (.tmp 1)) 62, o 17 (.call ⟨.value (.func 164), #[.tmp 15, .tmp 16], #[79, 62]⟩) 9, o 18 (.nilCheck (.tmp 14)) 0, o 19 (.fieldAddr 84 (.tmp 18) 7) 0, o 20 (.fieldAddr 44 (.tmp 19) 2) 0, oz (.store 9 (.tmp 20) (.tmp 17)) 0] false) (.region 3 #[o 21 (.move (.tmp 0)) 79, o 22 (.call ⟨.value (.func 67), #[.tmp 21, xi 2], #[79, 3]⟩) 0] false)) .skip)) (.seq (.region 4 #[o 23 (.move (.tmp 0)) 79, o 24 (.call ⟨.value (.func 66), #[.tmp 23], #[79]⟩) 131, o 25 (.call ⟨.value (.func 104), #[.tmp 24], #[131]⟩) 139, o 4 (.assign (.tmp 25)) 139] false) (.seq (.seq (.region 5 #[o 26 (.move (.tmp 4)) 139, o 27 (.nilCheck (.tmp 26)) 0, o 28 (.fieldAddr 30 (.tmp 27) 3) 0, o 29 (.load 3 (.tmp 28)) 3, o 30 (.binOp .eql 3 (.tmp 29) (xi (-1)) 3) 4] false) (.cond (.tmp 30) (.exit 1) .skip)) (.seq (.region 6 #[o 31 (.move (.tmp 0)) 79, o 32 (.move (.tmp 4)) 139, o 33 (.nilCheck (.tmp 32)) 0, o 34 (.fieldAddr 30 (.tmp 33) 4) 0, o 35 (.load 3 (.tmp 34)) 3, o 36 (.move (.tmp 1)) 62, o 37 (.call ⟨.value (.func 103), #[.tmp 31, .tmp 35, .tmp 36], #[79, 3, 62]⟩) 0] false) (.seq (.region 7 #[o 38 (.move (.tmp 0)) 79, o 39 (.call ⟨.value (.func 66), #[.tmp 38], #[79]⟩) 131, o 5 (.assign (.tmp 39)) 131] false) (.seq (.region 8 #[o 40 (.move (.tmp 5)) 131, o 41 (.move (.tmp 5)) 131, o 42 (.move (.tmp 4)) 139, o 43 (.nilCheck (.tmp 42)) 0, o 44 (.fieldAddr 30 (.tmp 43) 3) 0, o 45 (.load 3 (.tmp 44)) 3, o 46 (.nilCheck (.tmp 40)) 0, o 47 (.fieldAddr 138 (.tmp 46) 0) 0, o 48 (.fieldAddr 135 (.tmp 47) 1) 0, oz (.store 3 (.tmp 48) (.tmp 45)) 0, o 49 (.nilCheck (.tmp 41)) 0, o 50 (.fieldAddr 138 (.tmp 49) 0) 0, o 51 (.fieldAddr 135 (.tmp 50) 2) 0, oz (.store 3 (.tmp 51) (xi 0)) 0] false) .ret))))))))
def C105 : Code := (.block 0 (.loop L105_0))
theorem cal105 (args : Array Value) (H : IH) (h : args.size ≤ 52) : cal J okAll 105 args H = finish J [] (run J okAll C105 (regsOf args.toList 0 .leaf) H) := cal_er J H okAll 105 args Tryz.f105 _ C105 _ rfl rfl rfl (by kernel_rfl) rfl h rfl rfl
def C106 : Code := (.region 0 #[o 6 (.move (.tmp 0)) 79, o 7 (.move (.tmp 1)) 3, o 8 (.move (.tmp 2)) 2, o 9 (.call ⟨.value (.func 96), #[.tmp 8], #[2]⟩) 62, o 10 (.call ⟨.value (.func 103), #[.tmp 6, .tmp 7, .tmp 9], #[79, 3, 62]⟩) 0] false)
theorem cal106 (args : Array Value) (H : IH) (h : args.size ≤ 11) : cal J okAll 106 args H = finish J [] (run J okAll C106 (regsOf args.toList 0 .leaf) H) := cal_er J H okAll 106 args Tryz.f106 _ C106 _ rfl rfl rfl (by kernel_rfl) rfl h rfl rfl
def D107_1 : List Oper := regOf Tryz.f107 1
@[simp] def A107_1 : List Ann := [a0 (o 9 (.move (.tmp 0)) 79), a0 (o 10 (.move (.tmp 1)) 139), a0 (o 11 (.nilCheck (.tmp 10)) 0), a0 (o 12 (.fieldAddr 30 (.tmp 11) 2) 0), a0 (o 13 (.load 3 (.tmp 12)) 3), a0 (o 15 (.move (.tmp 0)) 79), a0 (o 16 (.move (.tmp 1)) 139), a0 (o 17 (.nilCheck (.tmp 16)) 0), a0 (o 18 (.fieldAddr 30 (.tmp 17) 3) 0), al (o 19 (.load 3 (.tmp 18)) 3) [1], ae (o 14 (.call ⟨.value (.func 98), #[.tmp 9, .tmp 13], #[79, 3]⟩) 2) true, ae (o 20 (.call ⟨.value (.func 98), #[.tmp 15, .tmp 19], #[79, 3]⟩) 2) true, a0 (o 6 (.assign (.tmp 14)) 2), a0 (o 7 (.assign (.tmp 20)) 2)]
def O107_1 : List Oper := A107_1.map (·.o)
@[simp] theorem r107_1 (T : Regs) (H : IH) : run J okAll (.region 1 D107_1.toArray true) T H = annSel J okAll D107_1.toArray T H (eRun J (cal J okAll) O107_1.toArray A107_1 T H 0 []) := r_ann (by kernel_rfl) (by kernel_rfl) 1 T H
def C107 : Code := (.seq (.region 0 #[o 4 (.assign (xi 0)) 2, o 5 (.assign (.const (.bool false))) 4] false) (.seq (.region 1 D107_1.toArray true) (.seq (.region 2 #[o 8 (.assign (.const (.bool false))) 4] false) (.seq (.seq (.region 3 #[o 21 (.move (.tmp 1)) 139, o 22 (.nilCheck (.tmp 21)) 0, o 23 (.fieldAddr 30 (.tmp 22) 5) 0, o 24 (.load 2 (.tmp 23)) 2] false) (.block 0 (.seq (.region 5 #[o 28 (.binOp .eql 2 (.tmp 24) (xi 1) 2) 4, o 27 (.assign (.tmp 28)) 4] false) (.cond (.tmp 27) (.seq (.region 6 #[o 29 (.move (.tmp 6)) 2, o 30 (.move (.tmp 7)) 2, o 31 (.call ⟨.value (.func 24), #[.tmp 29, .tmp 30], #[2, 2]⟩) 2, o 4 (.assign (.tmp 31)) 2, o 5 (.assign (.const (.bool true))) 4] false) .ret) (.seq (.region 7 #[o 33 (.binOp .eql 2 (.tmp 24) (xi 2) 2) 4, o 32 (.assign (.tmp 33)) 4] false) (.cond (.tmp 32) (.seq (.region 8 #[o 34 (.move (.tmp 6)) 2, o 35 (.move (.tmp 7)) 2, o 36 (.call ⟨.value (.func 25), #[.tmp 34, .tmp 35], #[2, 2]⟩) 2, o 4 (.assign (.tmp 36)) 2, o 5 (.assign (.const (.bool true))) 4] false) .ret) (.seq (.region 9 #[o 38 (.binOp .eql 2 (.tmp 24) (xi 3) 2) 4, o 37 (.assign (.tmp 38)) 4] false) (.cond (.tmp 37) (.seq (.region 10 #[o 39 (.move (.tmp 6)) 2, o 40 (.move (.tmp 7)) 2, o 41 (.call ⟨.value (.func 26), #[.tmp 39, .tmp 40], #[2, 2]⟩) 2, o 4 (.assign (.tmp 41)) 2, o 5 (.assign (.const (.bool true))) 4] false) .ret) (.seq (.region 11 #[o 43 (.binOp .eql 2 (.tmp 24) (xi 4) 2) 4, o 42 (.assign (.tmp 43)) 4] false) (.cond (.tmp 42) (.seq (.region 12 #[o 44 (.move (.tmp 6)) 2, o 45 (.move (.tmp 7)) 2, o 46 (.call ⟨.value (.func 27), #[.tmp 44, .tmp 45], #[2, 2]⟩) 64, o 47 (.extract (.tmp 46) 0) 2, o 48 (.extract (.tmp 46) 1) 4, o 4 (.assign (.tmp 47)) 2, o 5 (.assign (.tmp 48)) 4] false) .ret) (.seq (.region 13 #[o 50 (.binOp .eql 2 (.tmp 24) (xi 5) 2) 4, o 49 (.assign (.tmp 50)) 4] false) (.cond (.tmp 49) (.seq (.region 14 #[o 51 (.move (.tmp 6)) 2, o 52 (.move (.tmp 7)) 2, o 53 (.call ⟨.value (.func 28), #[.tmp 51, .tmp 52], #[2, 2]⟩) 64, o 54 (.extract (.tmp 53) 0) 2, o 55 (.extract (.tmp 53) 1) 4, o 4 (.assign (.tmp 54)) 2, o 5 (.assign (.tmp 55)) 4] false) .ret) (.seq (.region 15 #[o 57 (.binOp .eql 2 (.tmp 24) (xi 6) 2) 4, o 56 (.assign (.tmp 57)) 4] false) (.cond (.tmp 56) (.region 16 #[o 58 (.move (.tmp 6)) 2, o 59 (.move (.tmp 7)) 2, o 60 (.binOp .lss 2 (.tmp 58) (.tmp 59) 2) 4, o 8 (.assign (.tmp 60)) 4] false) (.seq (.region 17 #[o 62 (.binOp .eql 2 (.tmp 24) (xi 7) 2) 4, o 61 (.assign (.tmp 62)) 4] false) (.cond (.tmp 61) (.region 18 #[o 63 (.move (.tmp 6)) 2, o 64 (.move (.tmp 7)) 2, o 65 (.binOp .leq 2 (.tmp 63) (.tmp 64) 2) 4, o 8 (.assign (.tmp 65)) 4] false) (.seq (.region 19 #[o 67 (.binOp .eql 2 (.tmp 24) (xi 8) 2) 4, o 66 (.assign (.tmp 67)) 4] false) (.cond (.tmp 66) (.region 20 #[o 68 (.move (.tmp 6)) 2, o 69 (.move (.tmp 7)) 2, o 70 (.binOp .eql 2 (.tmp 68) (.tmp 69) 2) 4, o 8 (.assign (.tmp 70)) 4] false) (.region 4 #[o 25 (.move (.tmp 0)) 79, o 26 (.call ⟨.value (.func 67), #[.tmp 25, xi 6], #[79, 3]⟩) 0] false))))))))))))))))))) (.seq (.seq (.region 21 #[o 71 (.move (.tmp 8)) 4] false) (.cond (.tmp 71) (.seq (.region 22 #[o 4 (.assign (xi 1)) 2, o 5 (.assign (.const (.bool true))) 4] false) .ret) .skip)) (.seq (.region 23 #[o 4 (.assign (xi 0)) 2, o 5 (.assign (.const (.bool true))) 4] false) .ret))))))
theorem cal107 (args : Array Value) (H : IH) (h : args.size ≤ 72) : cal J okAll 107 args H = finish J [.tmp 4, .tmp 5] (run J okAll C107 (regsOf args.toList 0 .leaf) H) := cal_er J H okAll 107 args Tryz.f107 _ C107 _ rfl rfl rfl (by kernel_rfl) rfl h rfl rfl
def C108 : Code := (.seq (.region 0 #[o 4 (.assign (xi 0)) 3] false) (.seq (.seq (.region 1 #[o 5 (.move (.tmp 0)) 81, o 6 (.binOp .eql 81 (.tmp 5) (.const (.pointer none)) 81) 4, o 7 (.move (.tmp 6)) 4, og 8 (.move (.tmp 1)) 3 2 false, og 9 (.binOp .lss 3 (.tmp 8) (xi 0) 3) 4 2 false, o 10 (.pick (.tmp 7) (.const (.bool true)) (.tmp 9)) 4, o 11 (.move (.tmp 10)) 4, og 12 (.move (.tmp 1)) 3 6 false, og 13 (.move (.tmp 0)) 81 6 false, og 14 (.nilCheck (.tmp 13)) 0 6 false, og 15 (.fieldAddr 171 (.tmp 14) 2) 0 6 false, og 16 (.load 125 (.tmp 15)) 125 6 false, og 17 (.call ⟨.builtin .len, #[.tmp 16], #[125]⟩) 3 6 false, og 18 (.binOp .geq 3 (.tmp 12) (.tmp 17) 3) 4 6 false, o 19 (.pick (.tmp 11) (.const (.bool true)) (.tmp 18)) 4] false) (.cond (.tmp 19) (.seq (.region 2 #[o 4 (.assign (xi 0)) 3] false) .ret) .skip)) (.seq (.region 3 #[o 20 (.move (.tmp 0)) 81, o 21 (.nilCheck (.tmp 20)) 0, o 22 (.fieldAddr 171 (.tmp 21) 2) 0, o 23 (.load 125 (.tmp 22)) 125, o 24 (.move (.tmp 1)) 3, o 25 (.indexAddr 125 (.tmp 23) (.tmp 24)) 0, o 26 (.fieldAddr 127 (.tmp 25) 0) 0, o 27 (.load 3 (.tmp 26)) 3, o 4 (.assign (.tmp 27)) 3] false) .ret)))
theorem cal108 (args : Array Value) (H : IH) (h : args.size ≤ 28) : cal J okAll 108 args H = finish J [.tmp 4] (run J okAll C108 (regsOf args.toList 0 .leaf) H) := cal_er J H okAll 108 args Tryz.f108 _ C108 _ rfl rfl rfl (by kernel_rfl) rfl h rfl rfl
def D110_5 : List Oper := regOf Tryz.f110 5
@[simp] def A110_5 : List Ann := [a0 (o 52 (.move (.tmp 0)) 79), a0 (o 53 (.nilCheck (.tmp 52)) 0), a0 (o 54 (.fieldAddr 84 (.tmp 53) 2) 0), al (o 55 (.load 81 (.tmp 54)) 81) [1, 2], a0 (o 56 (.move (.tmp 6)) 3), a0 (o 57 (.move (.tmp 0)) 79), a0 (o 58 (.move (.tmp 1)) 139), a0 (o 59 (.nilCheck (.tmp 58)) 0), a0 (o 60 (.fieldAddr 30 (.tmp 59) 3) 0), a0 (o 61 (.load 3 (.tmp 60)) 3), ae (o 62 (.call ⟨.value (.func 98), #[.tmp 57, .tmp 61], #[79, 3]⟩) 2) true, ae (o 63 (.call ⟨.value (.func 170), #[.tmp 62], #[2]⟩) 3) true, ae (o 64 (.call ⟨.value (.func 169), #[.tmp 55, .tmp 56, .tmp 63], #[81, 3, 3]⟩) 237) true, a0 (o 51 (.move (.tmp 64)) 237), a0 (o 65 (.extract (.tmp 51) 0) 5), a0 (o 66 (.extract (.tmp 51) 1) 72), a0 (o 8 (.assign (.tmp 65)) 5), a0 (o 9 (.assign (.tmp 66)) 72)]
def O110_5 : List Oper := A110_5.map (·.o)
@[simp] theorem r110_5 (T : Regs) (H : IH) : run J okAll (.region 5 D110_5.toArray true) T H = annSel J okAll D110_5.toArray T H (eRun J (cal J okAll) O110_5.toArray A110_5 T H 0 []) := r_ann (by kernel_rfl) (by kernel_rfl) 5 T H
def D110_13 : List Oper := regOf Tryz.f110 13
@[simp] def A110_13 : List Ann := [a0 (o 112 (.move (.tmp 0)) 79), a0 (o 113 (.move (.tmp 1)) 139), a0 (o 114 (.nilCheck (.tmp 113)) 0), a0 (o 115 (.fieldAddr 30 (.tmp 114) 1) 0), al (o 116 (.load 3 (.tmp 115)) 3) [1], a0 (o 117 (.move (.tmp 12)) 9), a0 (o 118 (.move (.tmp 14)) 9), ae (o 119 (.call ⟨.value (.func 172), #[.tmp 117, .tmp 118], #[9, 9]⟩) 3) true, ae (o 120 (.call ⟨.value (.func 106), #[.tmp 112, .tmp 116, .tmp 119], #[79, 3, 2]⟩) 0) true]
def O110_13 : List Oper := A110_13.map (·.o)
@[simp] theorem r110_13 (T : Regs) (H : IH) : run J okAll (.region 13 D110_13.toArray true) T H = annSel J okAll D110_13.toArray T H (eRun J (cal J okAll) O110_13.toArray A110_13 T H 0 []) := r_ann (by kernel_rfl) (by kernel_rfl) 13 T H
def C110 : Code := (.seq (.seq (.region 0 #[o 16 (.move (.tmp 1)) 139, o 17 (.nilCheck (.tmp 16)) 0, o 18 (.fieldAddr 30 (.tmp 17) 0) 0, o 19 (.load 3 (.tmp 18)) 3, o 20 (.binOp .eql 3 (.tmp 19) (xi 11) 3) 4] false) (.cond (.tmp 20) (.seq (.region 1 #[o 22 (.move (.tmp 0)) 79, o 23 (.move (.tmp 1)) 139, o 24 (.nilCheck (.tmp 23)) 0, o 25 (.fieldAddr 30 (.tmp 24) 2) 0, o 26 (.load 3 (.tmp 25)) 3, o 27 (.call ⟨.value (.func 168), #[.tmp 22, .tmp 26, xi 2, xi 3], #[79, 3, 3, 3]⟩) 235, o 21 (.move (.tmp 27)) 235, o 28 (.extract (.tmp 21) 0) 3, o 29 (.extract (.tmp 21) 1) 3, o 4 (.assign (.tmp 28)) 3, o 5 (.assign (.tmp 29)) 3] false) (.seq (.region 2 #[o 30 (.move (.tmp 0)) 79, o 31 (.move (.tmp 1)) 139, o 32 (.nilCheck (.tmp 31)) 0, o 33 (.fieldAddr 30 (.tmp 32) 1) 0, o 34 (.load 3 (.tmp 33)) 3, o 35 (.move (.tmp 5)) 3, o 36 (.call ⟨.value (.func 106), #[.tmp 30, .tmp 34, .tmp 35], #[79, 3, 2]⟩) 0] false) .ret)) .skip)) (.seq (.region 3 #[o 38 (.move (.tmp 0)) 79, o 39 (.move (.tmp 1)) 139, o 40 (.nilCheck (.tmp 39)) 0, o 41 (.fieldAddr 30 (.tmp 40) 2) 0, o 42 (.load 3 (.tmp 41)) 3, o 43 (.call ⟨.value (.func 168), #[.tmp 38, .tmp 42, xi 3, xi 3], #[79, 3, 3, 3]⟩) 235, o 37 (.move (.tmp 43)) 235, o 44 (.extract (.tmp 37) 0) 3, o 45 (.extract (.tmp 37) 1) 3, o 6 (.assign (.tmp 44)) 3, o 7 (.assign (.tmp 45)) 3] false) (.seq (.seq (.region 4 #[o 46 (.move (.tmp 1)) 139, o 47 (.nilCheck (.tmp 46)) 0, o 48 (.fieldAddr 30 (.tmp 47) 0) 0, o 49 (.load 3 (.tmp 48)) 3, o 50 (.binOp .eql 3 (.tmp 49) (xi 12) 3) 4] false) (.cond (.tmp 50) (.seq (.region 5 D110_5.toArray true) (.seq (.seq (.region 6 #[o 67 (.move (.tmp 9)) 72, o 68 (.binOp .neq 72 (.tmp 67) (xi 0) 72) 4] false) (.cond (.tmp 68) (.seq (.region 7 #[o 69 (.move (.tmp 0)) 79, o 70 (.call ⟨.value (.func 96), #[xi 2], #[2]⟩) 62, o 71 (.call ⟨.value (.func 105), #[.tmp 69, .tmp 70], #[79, 62]⟩) 0] false) .ret) .skip)) (.seq (.region 8 #[o 72 (.move (.tmp 0)) 79, o 73 (.move (.tmp 1)) 139, o 74 (.nilCheck (.tmp 73)) 0, o 75 (.fieldAddr 30 (.tmp 74) 1) 0, o 76 (.load 3 (.tmp 75)) 3, o 77 (.move (.tmp 8)) 5, o 78 (.convert 5 2 (.tmp 77)) 2, o 79 (.call ⟨.value (.func 106), #[.tmp 72, .tmp 76, .tmp 78], #[79, 3, 2]⟩) 0] false) .ret))) .skip)) (.seq (.region 9 #[o 81 (.move (.tmp 0)) 79, o 82 (.move (.tmp 1)) 139, o 83 (.nilCheck (.tmp 82)) 0, o 84 (.fieldAddr 30 (.tmp 83) 3) 0, o 85 (.load 3 (.tmp 84)) 3, o 86 (.call ⟨.value (.func 168), #[.tmp 81, .tmp 85, xi 3, xi 3], #[79, 3, 3, 3]⟩) 235, o 80 (.move (.tmp 86)) 235, o 87 (.extract (.tmp 80) 0) 3, o 88 (.extract (.tmp 80) 1) 3, o 10 (.assign (.tmp 87)) 3, o 11 (.assign (.tmp 88)) 3] false) (.seq (.region 10 #[o 90 (.move (.tmp 0)) 79, o 91 (.nilCheck (.tmp 90)) 0, o 92 (.fieldAddr 84 (.tmp 91) 2) 0, o 93 (.load 81 (.tmp 92)) 81, o 94 (.move (.tmp 6)) 3, o 95 (.call ⟨.value (.func 171), #[.tmp 93, .tmp 94], #[81, 3]⟩) 240, o 89 (.move (.tmp 95)) 240, o 96 (.extract (.tmp 89) 0) 9, o 97 (.extract (.tmp 89) 1) 72, o 12 (.assign (.tmp 96)) 9, o 13 (.assign (.tmp 97)) 72] false) (.seq (.region 11 #[o 99 (.move (.tmp 0)) 79, o 100 (.nilCheck (.tmp 99)) 0, o 101 (.fieldAddr 84 (.tmp 100) 2) 0, o 102 (.load 81 (.tmp 101)) 81, o 103 (.move (.tmp 10)) 3, o 104 (.call ⟨.value (.func 171), #[.tmp 102, .tmp 103], #[81, 3]⟩) 240, o 98 (.move (.tmp 104)) 240, o 105 (.extract (.tmp 98) 0) 9, o 106 (.extract (.tmp 98) 1) 72, o 14 (.assign (.tmp 105)) 9, o 15 (.assign (.tmp 106)) 72] false) (.seq (.seq (.region 12 #[o 107 (.move (.tmp 1)) 139, o 108 (.nilCheck (.tmp 107)) 0, o 109 (.fieldAddr 30 (.tmp 108) 0) 0, o 110 (.load 3 (.tmp 109)) 3, o 111 (.binOp .eql 3 (.tmp 110) (xi 14) 3) 4] false) (.cond (.tmp 111) (.seq (.region 13 D110_13.toArray true) .ret) .skip)) (.seq (.region 14 #[o 121 (.move (.tmp 0)) 79, o 122 (.move (.tmp 0)) 79, o 123 (.nilCheck (.tmp 122)) 0, o 124 (.fieldAddr 84 (.tmp 123) 2) 0, o 125 (.load 81 (.tmp 124)) 81, o 126 (.call ⟨.value (.func 108), #[.tmp 125, xi 0], #[81, 3]⟩) 3, o 127 (.binOp .eql 3 (.tmp 126) (xi 3) 3) 4, o 128 (.call ⟨.value (.func 63), #[.tmp 121, .tmp 127], #[79, 4]⟩) 0] false) (.seq (.seq (.region 15 #[o 129 (.move (.tmp 12)) 9, o 130 (.call ⟨.builtin .len, #[.tmp 129], #[9]⟩) 3, o 131 (.move (.tmp 14)) 9, o 132 (.call ⟨.builtin .len, #[.tmp 131], #[9]⟩) 3, o 133 (.binOp .add 3 (.tmp 130) (.tmp 132) 3) 3, o 134 (.binOp .gtr 3 (.tmp 133) (xi 65536) 3) 4] false) (.cond (.tmp 134) (.seq (.region 16 #[o 135 (.move (.tmp 0)) 79, o 136 (.call ⟨.value (.func 96), #[xi 3], #[2]⟩) 62, o 137 (.call ⟨.value (.func 105), #[.tmp 135, .tmp 136], #[79, 62]⟩) 0] false) .ret) .skip)) (.region 17 #[o 138 (.move (.tmp 0)) 79, o 139 (.move (.tmp 1)) 139, o 140 (.move (.tmp 12)) 9, o 141 (.move (.tmp 14)) 9, o 142 (.binOp .add 9 (.tmp 140) (.tmp 141) 9) 9, o 143 (.call ⟨.value (.func 109), #[.tmp 138, .tmp 139, .tmp 142], #[79, 139, 9]⟩) 0] false))))))))))
theorem cal110 (args : Array Value) (H : IH) (h : args.size ≤ 144) : cal J okAll 110 args H = finish J [] (run J okAll C110 (regsOf args.toList 0 .leaf) H) := cal_er J H okAll 110 args Tryz.f110 _ C110 _ rfl rfl rfl (by kernel_rfl) rfl h rfl rfl
def L111_0 : Code := (.seq (.region 3 #[o 21 (.binOp .lss 3 (.tmp 20) (.tmp 19) 3) 0] false) (.seq (.cond (.tmp 21) .skip (.exit 0)) (.seq (.block 1 (.seq (.region 4 #[o 22 (.move (.tmp 20)) 3, o 6 (.assign (.tmp 22)) 3] false) (.region 5 #[o 23 (.move (.tmp 5)) 136, o 24 (.move (.tmp 6)) 3, o 25 (.call ⟨.value (.func 96), #[xi 0], #[2]⟩) 62, o 26 (.indexAddr 136 (.tmp 23) (.tmp 24)) 0, oz (.store 62 (.tmp 26) (.tmp 25)) 0] false))) (.region 6 #[o 27 (.binOp .add 3 (.tmp 20) (xi 1) 3) 3, o 20 (.move (.tmp 27)) 3] false))))
def L111_1 : Code := (.seq (.region 8 #[o 31 (.binOp .lss 3 (.tmp 30) (.tmp 29) 3) 0] false) (.seq (.cond (.tmp 31) .skip (.exit 2)) (.seq (.block 3 (.seq (.region 9 #[o 32 (.indexAddr 28 (.tmp 28) (.tmp 30)) 0, o 33 (.load 3 (.tmp 32)) 3, o 8 (.assign (.tmp 33)) 3] false) (.seq (.region 10 #[o 34 (.move (.tmp 0)) 79, o 35 (.move (.tmp 8)) 3, o 36 (.call ⟨.value (.func 102), #[.tmp 34, .tmp 35], #[79, 3]⟩) 175, o 37 (.nilCheck (.tmp 36)) 0, o 38 (.load 62 (.tmp 37)) 62, o 9 (.assign (.tmp 38)) 62] false) (.region 11 #[o 39 (.move (.tmp 5)) 136, o 40 (.move (.tmp 8)) 3, o 41 (.move (.tmp 9)) 62, o 42 (.indexAddr 136 (.tmp 39) (.tmp 40)) 0, oz (.store 62 (.tmp 42) (.tmp 41)) 0] false)))) (.region 12 #[o 43 (.binOp .add 3 (.tmp 30) (xi 1) 3) 3, o 30 (.move (.tmp 43)) 3] false))))
def C111 : Code := (.seq (.region 0 #[o 10 (.move (.tmp 0)) 79, o 11 (.call ⟨.value (.func 66), #[.tmp 10], #[79]⟩) 131, o 4 (.assign (.tmp 11)) 131] false) (.seq (.region 1 #[o 12 (.move (.tmp 4)) 131, o 13 (.nilCheck (.tmp 12)) 0, o 14 (.fieldAddr 138 (.tmp 13) 1) 0, o 15 (.load 136 (.tmp 14)) 136, o 16 (.call ⟨.builtin .len, #[.tmp 15], #[136]⟩) 3, o 17 (.makeSlice 136 (.tmp 16) (.tmp 16)) 136, o 5 (.assign (.tmp 17)) 136] false) (.seq (.seq (.region 2 #[o 18 (.move (.tmp 5)) 136, o 19 (.call ⟨.builtin .len, #[.tmp 18], #[136]⟩) 3, o 20 (.move (xi 0)) 3] false) (.block 0 (.loop L111_0))) (.seq (.seq (.region 7 #[o 28 (.move (.tmp 1)) 28, o 29 (.call ⟨.builtin .len, #[.tmp 28], #[28]⟩) 3, o 30 (.move (xi 0)) 3] false) (.block 2 (.loop L111_1))) (.region 13 #[o 44 (.move (.tmp 4)) 131, o 45 (.move (.tmp 5)) 136, o 46 (.nilCheck (.tmp 44)) 0, o 47 (.fieldAddr 138 (.tmp 46) 1) 0, oz (.store 136 (.tmp 47) (.tmp 45)) 0] false)))))
theorem cal111 (args : Array Value) (H : IH) (h : args.size ≤ 48) : cal J okAll 111 args H = finish J [] (run J okAll C111 (regsOf args.toList 0 .leaf) H) := cal_er J H okAll 111 args Tryz.f111 _ C111 _ rfl rfl rfl (by kernel_rfl) rfl h rfl rfl
def D112_4 : List Oper := regOf Tryz.f112 4
@[simp] def A112_4 : List Ann := [a0 (o 70 (.move (.tmp 0)) 79), a0 (o 71 (.move (.tmp 1)) 139), a0 (o 72 (.nilCheck (.tmp 71)) 0), a0 (o 73 (.fieldAddr 30 (.tmp 72) 2) 0), al (o 74 (.load 3 (.tmp 73)) 3) [1], a0 (o 75 (.move (.tmp 1)) 139), a0 (o 76 (.nilCheck (.tmp 75)) 0), a0 (o 77 (.fieldAddr 30 (.tmp 76) 6) 0), al (o 78 (.load 28 (.tmp 77)) 28) [1], al (o 79 (.call ⟨.builtin .len, #[.tmp 78], #[28]⟩) 3) [1], a0 (o 80 (.move (.tmp 1)) 139), a0 (o 81 (.nilCheck (.tmp 80)) 0), a0 (o 82 (.fieldAddr 30 (.tmp 81) 8) 0), al (o 83 (.load 28 (.tmp 82)) 28) [1], a0 (o 84 (.move (.tmp 0)) 79), a0 (o 85 (.move (.tmp 1)) 139), a0 (o 86 (.nilCheck (.tmp 85)) 0), a0 (o 87 (.fieldAddr 30 (.tmp 86) 6) 0), a0 (o 88 (.load 28 (.tmp 87)) 28), ae (o 89 (.call ⟨.value (.func 100), #[.tmp 84, .tmp 88], #[79, 28]⟩) 136) true, ae (o 90 (.call ⟨.value (.func 165), #[.tmp 70, .tmp 74, .tmp 79, .tmp 83, .tmp 89], #[79, 3, 3, 28, 136]⟩) 231) true, a0 (o 69 (.move (.tmp 90)) 231), a0 (o 91 (.extract (.tmp 69) 0) 3), a0 (o 92 (.extract (.tmp 69) 1) 136), a0 (o 4 (.assign (.tmp 91)) 3), a0 (o 5 (.assign (.tmp 92)) 136)]
def O112_4 : List Oper := A112_4.map (·.o)
@[simp] theorem r112_4 (T : Regs) (H : IH) : run J okAll (.region 4 D112_4.toArray true) T H = annSel J okAll D112_4.toArray T H (eRun J (cal J okAll) O112_4.toArray A112_4 T H 0 []) := r_ann (by kernel_rfl) (by kernel_rfl) 4 T H
def L112_0 : Code := (.seq (.region 6 #[o 96 (.binOp .lss 3 (.tmp 95) (.tmp 94) 3) 0] false) (.seq (.cond (.tmp 96) .skip (.exit 1)) (.seq (.block 2 (.seq (.region 7 #[o 97 (.move (.tmp 95)) 3, o 98 (.indexAddr 136 (.tmp 93) (.tmp 95)) 0, o 99 (.load 62 (.tmp 98)) 62, o 6 (.assign (.tmp 97)) 3, o 7 (.assign (.tmp 99)) 62] false) (.region 8 #[o 100 (.move (.tmp 0)) 79, o 101 (.nilCheck (.tmp 100)) 0, o 102 (.fieldAddr 84 (.tmp 101) 2) 0, o 103 (.load 81 (.tmp 102)) 81, o 104 (.move (.tmp 4)) 3, o 105 (.move (.tmp 6)) 3, o 106 (.move (.tmp 7)) 62, o 107 (.call ⟨.value (.func 173), #[.tmp 103, .tmp 104, .tmp 105, .tmp 106], #[81, 3, 3, 62]⟩) 72] false))) (.region 9 #[o 108 (.binOp .add 3 (.tmp 95) (xi 1) 3) 3, o 95 (.move (.tmp 108)) 3] false))))
def D112_10 : List Oper := regOf Tryz.f112 10
@[simp] def A112_10 : List Ann := [a0 (o 109 (.move (.tmp 0)) 79), a0 (o 110 (.move (.tmp 1)) 139), a0 (o 111 (.nilCheck (.tmp 110)) 0), a0 (o 112 (.fieldAddr 30 (.tmp 111) 1) 0), al (o 113 (.load 3 (.tmp 112)) 3) [1], a0 (o 114 (.move (.tmp 4)) 3), ae (o 115 (.call ⟨.value (.func 167), #[.tmp 114], #[3]⟩) 62) true, ae (o 116 (.call ⟨.value (.func 103), #[.tmp 109, .tmp 113, .tmp 115], #[79, 3, 62]⟩) 0) true]
def O112_10 : List Oper := A112_10.map (·.o)
@[simp] theorem r112_10 (T : Regs) (H : IH) : run J okAll (.region 10 D112_10.toArray true) T H = annSel J okAll D112_10.toArray T H (eRun J (cal J okAll) O112_10.toArray A112_10 T H 0 []) := r_ann (by kernel_rfl) (by kernel_rfl) 10 T H
def D112_17 : List Oper := regOf Tryz.f112 17
@[simp] def A112_17 : List Ann := [a0 (o 155 (.move (.tmp 0)) 79), a0 (o 156 (.move (.tmp 1)) 139), a0 (o 157 (.nilCheck (.tmp 156)) 0), a0 (o 158 (.fieldAddr 30 (.tmp 157) 2) 0), al (o 159 (.load 3 (.tmp 158)) 3) [1], a0 (o 160 (.move (.tmp 8)) 2), a0 (o 161 (.move (.tmp 1)) 139), a0 (o 162 (.nilCheck (.tmp 161)) 0), a0 (o 163 (.fieldAddr 30 (.tmp 162) 8) 0), al (o 164 (.load 28 (.tmp 163)) 28) [1], a0 (o 165 (.move (.tmp 9)) 62), ae (o 166 (.buildSlice 136 1 #[(0, .tmp 165)]) 136) true, ae (o 167 (.call ⟨.value (.func 165), #[.tmp 155, .tmp 159, .tmp 160, .tmp 164, .tmp 166], #[79, 3, 3, 28, 136]⟩) 231) true, a0 (o 154 (.move (.tmp 167)) 231), a0 (o 168 (.extract (.tmp 154) 0) 3), a0 (o 169 (.extract (.tmp 154) 1) 136), a0 (o 10 (.assign (.tmp 168)) 3), a0 (o 11 (.assign (.tmp 169)) 136)]
def O112_17 : List Oper := A112_17.map (·.o)
@[simp] theorem r112_17 (T : Regs) (H : IH) : run J okAll (.region 17 D112_17.toArray true) T H = annSel J okAll D112_17.toArray T H (eRun J (cal J okAll) O112_17.toArray A112_17 T H 0 []) := r_ann (by kernel_rfl) (by kernel_rfl) 17 T H
def L112_1 : Code := (.seq (.region 19 #[o 172 (.binOp .lss 3 (.tmp 171) (.tmp 170) 3) 4] false) (.seq (.cond (.tmp 172) .skip (.exit 3)) (.seq (.block 4 (.seq (.region 20 #[o 173 (.move (.tmp 171)) 3, o 12 (.assign (.tmp 173)) 3] false) (.region 21 #[o 174 (.move (.tmp 0)) 79, o 175 (.nilCheck (.tmp 174)) 0, o 176 (.fieldAddr 84 (.tmp 175) 2) 0, o 177 (.load 81 (.tmp 176)) 81, o 178 (.move (.tmp 10)) 3, o 179 (.move (.tmp 12)) 3, o 180 (.move (.tmp 11)) 136, o 181 (.indexAddr 136 (.tmp 180) (xi 0)) 0, o 182 (.load 62 (.tmp 181)) 62, o 183 (.call ⟨.value (.func 173), #[.tmp 177, .tmp 178, .tmp 179, .tmp 182], #[81, 3, 3, 62]⟩) 72] false))) (.region 22 #[o 184 (.binOp .add 3 (.tmp 171) (xi 1) 3) 3, o 171 (.move (.tmp 184)) 3] false))))
def D112_23 : List Oper := regOf Tryz.f112 23
@[simp] def A112_23 : List Ann := [a0 (o 185 (.move (.tmp 0)) 79), a0 (o 186 (.move (.tmp 1)) 139), a0 (o 187 (.nilCheck (.tmp 186)) 0), a0 (o 188 (.fieldAddr 30 (.tmp 187) 1) 0), al (o 189 (.load 3 (.tmp 188)) 3) [1], a0 (o 190 (.move (.tmp 10)) 3), ae (o 191 (.call ⟨.value (.func 167), #[.tmp 190], #[3]⟩) 62) true, ae (o 192 (.call ⟨.value (.func 103), #[.tmp 185, .tmp 189, .tmp 191], #[79, 3, 62]⟩) 0) true]
def O112_23 : List Oper := A112_23.map (·.o)
@[simp] theorem r112_23 (T : Regs) (H : IH) : run J okAll (.region 23 D112_23.toArray true) T H = annSel J okAll D112_23.toArray T H (eRun J (cal J okAll) O112_23.toArray A112_23 T H 0 []) := r_ann (by kernel_rfl) (by kernel_rfl) 23 T H
def D112_31 : List Oper := regOf Tryz.f112 31
@[simp] def A112_31 : List Ann := [a0 (o 239 (.move (.tmp 0)) 79), a0 (o 240 (.move (.tmp 0)) 79), a0 (o 241 (.nilCheck (.tmp 240)) 0), a0 (o 242 (.fieldAddr 84 (.tmp 241) 2) 0), al (o 243 (.load 81 (.tmp 242)) 81) [1], a0 (o 244 (.move (.tmp 17)) 3), a0 (o 245 (.move (.tmp 1)) 139), a0 (o 246 (.nilCheck (.tmp 245)) 0), a0 (o 247 (.fieldAddr 30 (.tmp 246) 3) 0), al (o 248 (.load 3 (.tmp 247)) 3) [1], a0 (o 249 (.move (.tmp 0)) 79), a0 (o 250 (.move (.tmp 1)) 139), a0 (o 251 (.nilCheck (.tmp 250)) 0), a0 (o 252 (.fieldAddr 30 (.tmp 251) 4) 0), a0 (o 253 (.load 3 (.tmp 252)) 3), ae (o 254 (.call ⟨.value (.func 102), #[.tmp 249, .tmp 253], #[79, 3]⟩) 175) true, a0 (o 255 (.nilCheck (.tmp 254)) 0), a0 (o 256 (.load 62 (.tmp 255)) 62), ae (o 257 (.call ⟨.value (.func 173), #[.tmp 243, .tmp 244, .tmp 248, .tmp 256], #[81, 3, 3, 62]⟩) 72) true, a0 (o 258 (.binOp .eql 72 (.tmp 257) (xi 0) 72) 4), ae (o 259 (.call ⟨.value (.func 63), #[.tmp 239, .tmp 258], #[79, 4]⟩) 0) true]
def O112_31 : List Oper := A112_31.map (·.o)
@[simp] theorem r112_31 (T : Regs) (H : IH) : run J okAll (.region 31 D112_31.toArray true) T H = annSel J okAll D112_31.toArray T H (eRun J (cal J okAll) O112_31.toArray A112_31 T H 0 []) := r_ann (by kernel_rfl) (by kernel_rfl) 31 T H
def D112_34 : List Oper := regOf Tryz.f112 34
@[simp] def A112_34 : List Ann := [a0 (o 272 (.move (.tmp 0)) 79), a0 (o 273 (.nilCheck (.tmp 272)) 0), a0 (o 274 (.fieldAddr 84 (.tmp 273) 2) 0), al (o 275 (.load 81 (.tmp 274)) 81) [1, 2], a0 (o 276 (.move (.tmp 19)) 3), a0 (o 277 (.move (.tmp 0)) 79), a0 (o 278 (.move (.tmp 1)) 139), a0 (o 279 (.nilCheck (.tmp 278)) 0), a0 (o 280 (.fieldAddr 30 (.tmp 279) 3) 0), a0 (o 281 (.load 3 (.tmp 280)) 3), ae (o 282 (.call ⟨.value (.func 98), #[.tmp 277, .tmp 281], #[79, 3]⟩) 2) true, ae (o 283 (.call ⟨.value (.func 170), #[.tmp 282], #[2]⟩) 3) true, ae (o 284 (.call ⟨.value (.func 174), #[.tmp 275, .tmp 276, .tmp 283], #[81, 3, 3]⟩) 244) true, a0 (o 271 (.move (.tmp 284)) 244), a0 (o 285 (.extract (.tmp 271) 0) 62), a0 (o 286 (.extract (.tmp 271) 1) 72), a0 (o 21 (.assign (.tmp 285)) 62), a0 (o 22 (.assign (.tmp 286)) 72)]
def O112_34 : List Oper := A112_34.map (·.o)
@[simp] theorem r112_34 (T : Regs) (H : IH) : run J okAll (.region 34 D112_34.toArray true) T H = annSel J okAll D112_34.toArray T H (eRun J (cal J okAll) O112_34.toArray A112_34 T H 0 []) := r_ann (by kernel_rfl) (by kernel_rfl) 34 T H
def D112_40 : List Oper := regOf Tryz.f112 40
@[simp] def A112_40 : List Ann := [a0 (o 310 (.move (.tmp 0)) 79), a0 (o 311 (.nilCheck (.tmp 310)) 0), a0 (o 312 (.fieldAddr 84 (.tmp 311) 2) 0), al (o 313 (.load 81 (.tmp 312)) 81) [1, 2, 3], a0 (o 314 (.move (.tmp 23)) 3), a0 (o 315 (.move (.tmp 0)) 79), a0 (o 316 (.move (.tmp 1)) 139), a0 (o 317 (.nilCheck (.tmp 316)) 0), a0 (o 318 (.fieldAddr 30 (.tmp 317) 3) 0), a0 (o 319 (.load 3 (.tmp 318)) 3), a0 (o 322 (.move (.tmp 0)) 79), a0 (o 323 (.move (.tmp 1)) 139), a0 (o 324 (.nilCheck (.tmp 323)) 0), a0 (o 325 (.fieldAddr 30 (.tmp 324) 4) 0), al (o 326 (.load 3 (.tmp 325)) 3) [1, 2], ae (o 320 (.call ⟨.value (.func 98), #[.tmp 315, .tmp 319], #[79, 3]⟩) 2) true, ae (o 321 (.call ⟨.value (.func 170), #[.tmp 320], #[2]⟩) 3) true, ae (o 327 (.call ⟨.value (.func 102), #[.tmp 322, .tmp 326], #[79, 3]⟩) 175) true, a0 (o 328 (.nilCheck (.tmp 327)) 0), a0 (o 329 (.load 62 (.tmp 328)) 62), ae (o 330 (.call ⟨.value (.func 173), #[.tmp 313, .tmp 314, .tmp 321, .tmp 329], #[81, 3, 3, 62]⟩) 72) true, a0 (o 331 (.binOp .neq 72 (.tmp 330) (xi 0) 72) 4)]
def O112_40 : List Oper := A112_40.map (·.o)
@[simp] theorem r112_40 (T : Regs) (H : IH) : run J okAll (.region 40 D112_40.toArray true) T H = annSel J okAll D112_40.toArray T H (eRun J (cal J okAll) O112_40.toArray A112_40 T H 0 []) := r_ann (by kernel_rfl) (by kernel_rfl) 40 T H
def C112 : Code := (.seq (.region 0 #[o 25 (.move (.tmp 1)) 139, o 26 (.nilCheck (.tmp 25)) 0, o 27 (.fieldAddr 30 (.tmp 26) 0) 0, o 28 (.load 3 (.tmp 27)) 3] false) (.block 0 (.seq (.region 2 #[o 32 (.binOp .eql 3 (.tmp 28) (xi 5) 3) 4, o 31 (.assign (.tmp 32)) 4] false) (.cond (.tmp 31) (.seq (.region 3 #[o 33 (.move (.tmp 0)) 79, o 34 (.move (.tmp 0)) 79, o 35 (.nilCheck (.tmp 34)) 0, o 36 (.fieldAddr 84 (.tmp 35) 2) 0, o 37 (.load 81 (.tmp 36)) 81, o 38 (.move (.tmp 1)) 139, o 39 (.nilCheck (.tmp 38)) 0, o 40 (.fieldAddr 30 (.tmp 39) 2) 0, o 41 (.load 3 (.tmp 40)) 3, o 42 (.call ⟨.value (.func 108), #[.tmp 37, .tmp 41], #[81, 3]⟩) 3, o 43 (.binOp .eql 3 (.tmp 42) (xi 1) 3) 4, o 44 (.move (.tmp 43)) 4, og 45 (.move (.tmp 1)) 139 11 true, og 46 (.nilCheck (.tmp 45)) 0 11 true, og 47 (.fieldAddr 30 (.tmp 46) 6) 0 11 true, og 48 (.load 28 (.tmp 47)) 28 11 true, og 49 (.call ⟨.builtin .len, #[.tmp 48], #[28]⟩) 3 11 true, og 50 (.move (.tmp 0)) 79 11 true, og 51 (.nilCheck (.tmp 50)) 0 11 true, og 52 (.fieldAddr 84 (.tmp 51) 0) 0 11 true, og 53 (.load 80 (.tmp 52)) 80 11 true, og 54 (.nilCheck (.tmp 53)) 0 11 true, og 55 (.fieldAddr 27 (.tmp 54) 1) 0 11 true, og 56 (.load 23 (.tmp 55)) 23 11 true, og 57 (.move (.tmp 1)) 139 11 true, og 58 (.nilCheck (.tmp 57)) 0 11 true, og 59 (.fieldAddr 30 (.tmp 58) 2) 0 11 true, og 60 (.load 3 (.tmp 59)) 3 11 true, og 61 (.call ⟨.builtin .max, #[xi 0, .tmp 60], #[3, 3]⟩) 3 11 true, og 62 (.indexAddr 23 (.tmp 56) (.tmp 61)) 0 11 true, og 63 (.fieldAddr 90 (.tmp 62) 1) 0 11 true, og 64 (.load 28 (.tmp 63)) 28 11 true, og 65 (.call ⟨.builtin .len, #[.tmp 64], #[28]⟩) 3 11 true, og 66 (.binOp .eql 3 (.tmp 49) (.tmp 65) 3) 4 11 true, o 67 (.pick (.tmp 44) (.tmp 66) (.const (.bool false))) 4, o 68 (.call ⟨.value (.func 63), #[.tmp 33, .tmp 67], #[79, 4]⟩) 0] false) (.seq (.region 4 D112_4.toArray true) (.seq (.seq (.region 5 #[o 93 (.move (.tmp 5)) 136, o 94 (.call ⟨.builtin .len, #[.tmp 93], #[136]⟩) 3, o 95 (.move (xi 0)) 3] false) (.block 1 (.loop L112_0))) (.region 10 D112_10.toArray true)))) (.seq (.region 11 #[o 118 (.binOp .eql 3 (.tmp 28) (xi 8) 3) 4, o 117 (.assign (.tmp 118)) 4] false) (.cond (.tmp 117) (.seq (.region 12 #[o 119 (.move (.tmp 0)) 79, o 120 (.move (.tmp 1)) 139, o 121 (.nilCheck (.tmp 120)) 0, o 122 (.fieldAddr 30 (.tmp 121) 3) 0, o 123 (.load 3 (.tmp 122)) 3, o 124 (.call ⟨.value (.func 98), #[.tmp 119, .tmp 123], #[79, 3]⟩) 2, o 8 (.assign (.tmp 124)) 2] false) (.seq (.region 13 #[o 125 (.move (.tmp 0)) 79, o 126 (.move (.tmp 1)) 139, o 127 (.nilCheck (.tmp 126)) 0, o 128 (.fieldAddr 30 (.tmp 127) 4) 0, o 129 (.load 3 (.tmp 128)) 3, o 130 (.call ⟨.value (.func 102), #[.tmp 125, .tmp 129], #[79, 3]⟩) 175, o 131 (.nilCheck (.tmp 130)) 0, o 132 (.load 62 (.tmp 131)) 62, o 9 (.assign (.tmp 132)) 62] false) (.seq (.region 14 #[o 133 (.move (.tmp 0)) 79, o 134 (.move (.tmp 0)) 79, o 135 (.nilCheck (.tmp 134)) 0, o 136 (.fieldAddr 84 (.tmp 135) 2) 0, o 137 (.load 81 (.tmp 136)) 81, o 138 (.move (.tmp 1)) 139, o 139 (.nilCheck (.tmp 138)) 0, o 140 (.fieldAddr 30 (.tmp 139) 2) 0, o 141 (.load 3 (.tmp 140)) 3, o 142 (.call ⟨.value (.func 108), #[.tmp 137, .tmp 141], #[81, 3]⟩) 3, o 143 (.binOp .eql 3 (.tmp 142) (xi 2) 3) 4, o 144 (.call ⟨.value (.func 63), #[.tmp 133, .tmp 143], #[79, 4]⟩) 0] false) (.seq (.seq (.region 15 #[o 145 (.move (.tmp 8)) 2, o 146 (.binOp .lss 2 (.tmp 145) (xi 0) 2) 4, o 147 (.move (.tmp 146)) 4, og 148 (.move (.tmp 8)) 2 2 false, og 149 (.binOp .gtr 2 (.tmp 148) (xi 65536) 2) 4 2 false, o 150 (.pick (.tmp 147) (.const (.bool true)) (.tmp 149)) 4] false) (.cond (.tmp 150) (.seq (.region 16 #[o 151 (.move (.tmp 0)) 79, o 152 (.call ⟨.value (.func 96), #[xi 3], #[2]⟩) 62, o 153 (.call ⟨.value (.func 105), #[.tmp 151, .tmp 152], #[79, 62]⟩) 0] false) .ret) .skip)) (.seq (.region 17 D112_17.toArray true) (.seq (.seq (.region 18 #[o 170 (.move (.tmp 8)) 2, o 171 (.move (xi 0)) 3] false) (.block 3 (.loop L112_1))) (.region 23 D112_23.toArray true))))))) (.seq (.region 24 #[o 194 (.binOp .eql 3 (.tmp 28) (xi 6) 3) 4, o 193 (.assign (.tmp 194)) 4] false) (.cond (.tmp 193) (.seq (.region 25 #[o 196 (.move (.tmp 0)) 79, o 197 (.move (.tmp 1)) 139, o 198 (.nilCheck (.tmp 197)) 0, o 199 (.fieldAddr 30 (.tmp 198) 2) 0, o 200 (.load 3 (.tmp 199)) 3, o 201 (.call ⟨.value (.func 168), #[.tmp 196, .tmp 200, xi 1, xi 1], #[79, 3, 3, 3]⟩) 235, o 195 (.move (.tmp 201)) 235, o 202 (.extract (.tmp 195) 0) 3, o 203 (.extract (.tmp 195) 1) 3, o 13 (.assign (.tmp 202)) 3, o 14 (.assign (.tmp 203)) 3] false) (.seq (.region 26 #[o 205 (.move (.tmp 0)) 79, o 206 (.nilCheck (.tmp 205)) 0, o 207 (.fieldAddr 84 (.tmp 206) 2) 0, o 208 (.load 81 (.tmp 207)) 81, o 209 (.move (.tmp 13)) 3, o 210 (.move (.tmp 1)) 139, o 211 (.nilCheck (.tmp 210)) 0, o 212 (.fieldAddr 30 (.tmp 211) 3) 0, o 213 (.load 3 (.tmp 212)) 3, o 214 (.call ⟨.value (.func 174), #[.tmp 208, .tmp 209, .tmp 213], #[81, 3, 3]⟩) 244, o 204 (.move (.tmp 214)) 244, o 215 (.extract (.tmp 204) 0) 62, o 216 (.extract (.tmp 204) 1) 72, o 15 (.assign (.tmp 215)) 62, o 16 (.assign (.tmp 216)) 72] false) (.seq (.region 27 #[o 217 (.move (.tmp 0)) 79, o 218 (.move (.tmp 16)) 72, o 219 (.binOp .eql 72 (.tmp 218) (xi 0) 72) 4, o 220 (.call ⟨.value (.func 63), #[.tmp 217, .tmp 219], #[79, 4]⟩) 0] false) (.region 28 #[o 221 (.move (.tmp 0)) 79, o 222 (.move (.tmp 1)) 139, o 223 (.nilCheck (.tmp 222)) 0, o 224 (.fieldAddr 30 (.tmp 223) 1) 0, o 225 (.load 3 (.tmp 224)) 3, o 226 (.move (.tmp 15)) 62, o 227 (.call ⟨.value (.func 103), #[.tmp 221, .tmp 225, .tmp 226], #[79, 3, 62]⟩) 0] false)))) (.seq (.region 29 #[o 229 (.binOp .eql 3 (.tmp 28) (xi 7) 3) 4, o 228 (.assign (.tmp 229)) 4] false) (.cond (.tmp 228) (.seq (.region 30 #[o 231 (.move (.tmp 0)) 79, o 232 (.move (.tmp 1)) 139, o 233 (.nilCheck (.tmp 232)) 0, o 234 (.fieldAddr 30 (.tmp 233) 2) 0, o 235 (.load 3 (.tmp 234)) 3, o 236 (.call ⟨.value (.func 168), #[.tmp 231, .tmp 235, xi 1, xi 1], #[79, 3, 3, 3]⟩) 235, o 230 (.move (.tmp 236)) 235, o 237 (.extract (.tmp 230) 0) 3, o 238 (.extract (.tmp 230) 1) 3, o 17 (.assign (.tmp 237)) 3, o 18 (.assign (.tmp 238)) 3] false) (.region 31 D112_31.toArray true)) (.seq (.region 32 #[o 261 (.binOp .eql 3 (.tmp 28) (xi 9) 3) 4, o 260 (.assign (.tmp 261)) 4] false) (.cond (.tmp 260) (.seq (.region 33 #[o 263 (.move (.tmp 0)) 79, o 264 (.move (.tmp 1)) 139, o 265 (.nilCheck (.tmp 264)) 0, o 266 (.fieldAddr 30 (.tmp 265) 2) 0, o 267 (.load 3 (.tmp 266)) 3, o 268 (.call ⟨.value (.func 168), #[.tmp 263, .tmp 267, xi 2, xi 2], #[79, 3, 3, 3]⟩) 235, o 262 (.move (.tmp 268)) 235, o 269 (.extract (.tmp 262) 0) 3, o 270 (.extract (.tmp 262) 1) 3, o 19 (.assign (.tmp 269)) 3, o 20 (.assign (.tmp 270)) 3] false) (.seq (.region 34 D112_34.toArray true) (.seq (.seq (.region 35 #[o 287 (.move (.tmp 22)) 72, o 288 (.binOp .neq 72 (.tmp 287) (xi 0) 72) 4] false) (.cond (.tmp 288) (.seq (.region 36 #[o 289 (.move (.tmp 0)) 79, o 290 (.call ⟨.value (.func 96), #[xi 2], #[2]⟩) 62, o 291 (.call ⟨.value (.func 105), #[.tmp 289, .tmp 290], #[79, 62]⟩) 0] false) .ret) .skip)) (.region 37 #[o 292 (.move (.tmp 0)) 79, o 293 (.move (.tmp 1)) 139, o 294 (.nilCheck (.tmp 293)) 0, o 295 (.fieldAddr 30 (.tmp 294) 1) 0, o 296 (.load 3 (.tmp 295)) 3, o 297 (.move (.tmp 21)) 62, o 298 (.call ⟨.value (.func 103), #[.tmp 292, .tmp 296, .tmp 297], #[79, 3, 62]⟩) 0] false)))) (.seq (.region 38 #[o 300 (.binOp .eql 3 (.tmp 28) (xi 10) 3) 4, o 299 (.assign (.tmp 300)) 4] false) (.cond (.tmp 299) (.seq (.region 39 #[o 302 (.move (.tmp 0)) 79, o 303 (.move (.tmp 1)) 139, o 304 (.nilCheck (.tmp 303)) 0, o 305 (.fieldAddr 30 (.tmp 304) 2) 0, o 306 (.load 3 (.tmp 305)) 3, o 307 (.call ⟨.value (.func 168), #[.tmp 302, .tmp 306, xi 2, xi 2], #[79, 3, 3, 3]⟩) 235, o 301 (.move (.tmp 307)) 235, o 308 (.extract (.tmp 301) 0) 3, o 309 (.extract (.tmp 301) 1) 3, o 23 (.assign (.tmp 308)) 3, o 24 (.assign (.tmp 309)) 3] false) (.seq (.region 40 D112_40.toArray true) (.cond (.tmp 331) (.region 41 #[o 332 (.move (.tmp 0)) 79, o 333 (.call ⟨.value (.func 96), #[xi 2], #[2]⟩) 62, o 334 (.call ⟨.value (.func 105), #[.tmp 332, .tmp 333], #[79, 62]⟩) 0] false) .skip))) (.region 1 #[o 29 (.move (.tmp 0)) 79, o 30 (.call ⟨.value (.func 67), #[.tmp 29, xi 6], #[79, 3]⟩) 0] false)))))))))))))))
theorem cal112 (args : Array Value) (H : IH) (h : args.size ≤ 335) : cal J okAll 112 args H = finish J [] (run J okAll C112 (regsOf args.toList 0 .leaf) H) := cal_er J H okAll 112 args Tryz.f112 _ C112 _ rfl rfl rfl (by kernel_rfl) rfl h rfl rfl
def C113 : Code := (.seq (.region 0 #[o 2 (.box 3 (.tmp 0)) 0, o 4 (.assign (.const (.bool false))) 4] false) (.seq (.region 1 #[o 5 (.move (.tmp 1)) 246, o 6 (.makeFunc (.func 176) #[] #[.tmp 2]) 248, o 7 (.call ⟨.value (.func 175), #[.tmp 5, .tmp 6], #[246, 248]⟩) 4, o 4 (.assign (.tmp 7)) 4] false) .ret))
theorem cal113 (args : Array Value) (H : IH) (h : args.size ≤ 8) : cal J okAll 113 args H = finish J [.tmp 4] (run J okAll C113 (regsOf args.toList 0 .leaf) H) := cal_er J H okAll 113 args Tryz.f113 _ C113 _ rfl rfl rfl (by kernel_rfl) rfl h rfl rfl
def C114 : Code := (.seq (.region 0 #[o 2 (.box 3 (.tmp 0)) 0, o 4 (.assign (.const (.bool false))) 4] false) (.seq (.region 1 #[o 5 (.move (.tmp 1)) 249, o 6 (.makeFunc (.func 178) #[] #[.tmp 2]) 251, o 7 (.call ⟨.value (.func 177), #[.tmp 5, .tmp 6], #[249, 251]⟩) 4, o 4 (.assign (.tmp 7)) 4] false) .ret))
theorem cal114 (args : Array Value) (H : IH) (h : args.size ≤ 8) : cal J okAll 114 args H = finish J [.tmp 4] (run J okAll C114 (regsOf args.toList 0 .leaf) H) := cal_er J H okAll 114 args Tryz.f114 _ C114 _ rfl rfl rfl (by kernel_rfl) rfl h rfl rfl
def C115 : Code := (.seq (.region 0 #[o 2 (.box 3 (.tmp 0)) 0, o 4 (.assign (.const (.bool false))) 4] false) (.seq (.region 1 #[o 5 (.move (.tmp 1)) 252, o 6 (.makeFunc (.func 180) #[] #[.tmp 2]) 254, o 7 (.call ⟨.value (.func 179), #[.tmp 5, .tmp 6], #[252, 254]⟩) 4, o 4 (.assign (.tmp 7)) 4] false) .ret))
theorem cal115 (args : Array Value) (H : IH) (h : args.size ≤ 8) : cal J okAll 115 args H = finish J [.tmp 4] (run J okAll C115 (regsOf args.toList 0 .leaf) H) := cal_er J H okAll 115 args Tryz.f115 _ C115 _ rfl rfl rfl (by kernel_rfl) rfl h rfl rfl
def C116 : Code := (.seq (.region 0 #[o 2 (.box 3 (.tmp 0)) 0, o 4 (.assign (.const (.bool false))) 4] false) (.seq (.region 1 #[o 5 (.move (.tmp 1)) 255, o 6 (.makeFunc (.func 182) #[] #[.tmp 2]) 257, o 7 (.call ⟨.value (.func 181), #[.tmp 5, .tmp 6], #[255, 257]⟩) 4, o 4 (.assign (.tmp 7)) 4] false) .ret))
theorem cal116 (args : Array Value) (H : IH) (h : args.size ≤ 8) : cal J okAll 116 args H = finish J [.tmp 4] (run J okAll C116 (regsOf args.toList 0 .leaf) H) := cal_er J H okAll 116 args Tryz.f116 _ C116 _ rfl rfl rfl (by kernel_rfl) rfl h rfl rfl
def C117 : Code := (.seq (.region 0 #[o 2 (.assign (.const (.bool false))) 4] false) (.seq (.region 1 #[o 3 (.move (.tmp 0)) 24, o 4 (.call ⟨.value (.func 183), #[.tmp 3, .func 184], #[24, 259]⟩) 4, o 2 (.assign (.tmp 4)) 4] false) .ret))
theorem cal117 (args : Array Value) (H : IH) (h : args.size ≤ 5) : cal J okAll 117 args H = finish J [.tmp 2] (run J okAll C117 (regsOf args.toList 0 .leaf) H) := cal_er J H okAll 117 args Tryz.f117 _ C117 _ rfl rfl rfl (by kernel_rfl) rfl h rfl rfl
def C118 : Code := (.seq (.region 0 #[o 2 (.box 3 (.tmp 0)) 0, o 4 (.assign (.const (.bool false))) 4] false) (.seq (.region 1 #[o 5 (.move (.tmp 1)) 260, o 6 (.makeFunc (.func 186) #[] #[.tmp 2]) 205, o 7 (.call ⟨.value (.func 185), #[.tmp 5, .tmp 6], #[260, 205]⟩) 4, o 4 (.assign (.tmp 7)) 4] false) .ret))
theorem cal118 (args : Array Value) (H : IH) (h : args.size ≤ 8) : cal J okAll 118 args H = finish J [.tmp 4] (run J okAll C118 (regsOf args.toList 0 .leaf) H) := cal_er J H okAll 118 args Tryz.f118 _ C118 _ rfl rfl rfl (by kernel_rfl) rfl h rfl rfl
def C119 : Code := (.seq (.region 0 #[o 2 (.box 3 (.tmp 0)) 0, o 4 (.assign (.const (.bool false))) 4] false) (.seq (.region 1 #[o 5 (.move (.tmp 1)) 262, o 6 (.makeFunc (.func 188) #[] #[.tmp 2]) 264, o 7 (.call ⟨.value (.func 187), #[.tmp 5, .tmp 6], #[262, 264]⟩) 4, o 4 (.assign (.tmp 7)) 4] false) .ret))
theorem cal119 (args : Array Value) (H : IH) (h : args.size ≤ 8) : cal J okAll 119 args H = finish J [.tmp 4] (run J okAll C119 (regsOf args.toList 0 .leaf) H) := cal_er J H okAll 119 args Tryz.f119 _ C119 _ rfl rfl rfl (by kernel_rfl) rfl h rfl rfl
def L120_0 : Code := (.seq (.region 2 #[o 9 (.binOp .lss 3 (.tmp 8) (.tmp 7) 3) 0] false) (.seq (.cond (.tmp 9) .skip (.exit 0)) (.seq (.block 1 (.seq (.region 3 #[o 10 (.move (.tmp 8)) 3, o 5 (.assign (.tmp 10)) 3] false) (.seq (.region 4 #[o 11 (.move (.tmp 1)) 142, o 12 (.move (.tmp 0)) 54, o 13 (.move (.tmp 5)) 3, o 14 (.indexAddr 54 (.tmp 12) (.tmp 13)) 0, o 15 (.load 30 (.tmp 14)) 30, o 16 (.call ⟨.value (.tmp 11), #[.tmp 15], #[30]⟩) 4] false) (.cond (.tmp 16) (.seq (.region 5 #[o 17 (.move (.tmp 5)) 3, o 4 (.assign (.tmp 17)) 3] false) .ret) .skip)))) (.region 6 #[o 18 (.binOp .add 3 (.tmp 8) (xi 1) 3) 3, o 8 (.move (.tmp 18)) 3] false))))
def C120 : Code := (.seq (.region 0 #[o 4 (.assign (xi 0)) 3] false) (.seq (.seq (.region 1 #[o 6 (.move (.tmp 0)) 54, o 7 (.call ⟨.builtin .len, #[.tmp 6], #[54]⟩) 3, o 8 (.move (xi 0)) 3] false) (.block 0 (.loop L120_0))) (.seq (.region 7 #[o 4 (.assign (xi (-1))) 3] false) .ret)))
theorem cal120 (args : Array Value) (H : IH) (h : args.size ≤ 19) : cal J okAll 120 args H = finish J [.tmp 4] (run J okAll C120 (regsOf args.toList 0 .leaf) H) := cal_er J H okAll 120 args Tryz.f120 _ C120 _ rfl rfl rfl (by kernel_rfl) rfl h rfl rfl
def C121 : Code := (.seq (.region 0 #[o 2 (.assign (.const (.string ⟨#[]⟩))) 9] false) (.seq (.seq (.region 1 #[o 3 (.move (.tmp 0)) 3] false) (.block 0 (.seq (.region 2 #[o 5 (.binOp .eql 3 (.tmp 3) (xi 1) 3) 4, o 4 (.assign (.tmp 5)) 4] false) (.cond (.tmp 4) (.seq (.region 3 #[o 2 (.assign (.const (.string ⟨#[68, 78]⟩))) 9] false) .ret) (.seq (.region 4 #[o 7 (.binOp .eql 3 (.tmp 3) (xi 2) 3) 4, o 6 (.assign (.tmp 7)) 4] false) (.cond (.tmp 6) (.seq (.region 5 #[o 2 (.assign (.const (.string ⟨#[68, 65, 108]⟩))) 9] false) .ret) (.seq (.seq (.region 6 #[o 9 (.binOp .eql 3 (.tmp 3) (xi 3) 3) 4, o 8 (.assign (.tmp 9)) 4] false) (.cond (.tmp 8) .skip (.region 7 #[o 10 (.binOp .eql 3 (.tmp 3) (xi 11) 3) 4, o 8 (.assign (.tmp 10)) 4] false))) (.cond (.tmp 8) (.seq (.region 8 #[o 2 (.assign (.const (.string ⟨#[68, 65]⟩))) 9] false) .ret) (.seq (.region 9 #[o 12 (.binOp .eql 3 (.tmp 3) (xi 4) 3) 4, o 11 (.assign (.tmp 12)) 4] false) (.cond (.tmp 11) (.seq (.region 10 #[o 2 (.assign (.const (.string ⟨#[68, 65, 66, 78]⟩))) 9] false) .ret) (.seq (.region 11 #[o 14 (.binOp .eql 3 (.tmp 3) (xi 5) 3) 4, o 13 (.assign (.tmp 14)) 4] false) (.cond (.tmp 13) (.seq (.region 12 #[o 2 (.assign (.const (.string ⟨#[68, 65, 76, 108]⟩))) 9] false) .ret) (.seq (.seq (.region 13 #[o 16 (.binOp .eql 3 (.tmp 3) (xi 6) 3) 4, o 15 (.assign (.tmp 16)) 4] false) (.cond (.tmp 15) .skip (.seq (.region 14 #[o 17 (.binOp .eql 3 (.tmp 3) (xi 9) 3) 4, o 15 (.assign (.tmp 17)) 4] false) (.cond (.tmp 15) .skip (.seq (.region 15 #[o 18 (.binOp .eql 3 (.tmp 3) (xi 12) 3) 4, o 15 (.assign (.tmp 18)) 4] false) (.cond (.tmp 15) .skip (.region 16 #[o 19 (.binOp .eql 3 (.tmp 3) (xi 14) 3) 4, o 15 (.assign (.tmp 19)) 4] false))))))) (.cond (.tmp 15) (.seq (.region 17 #[o 2 (.assign (.const (.string ⟨#[68, 65, 66]⟩))) 9] false) .ret) (.seq (.seq (.region 18 #[o 21 (.binOp .eql 3 (.tmp 3) (xi 7) 3) 4, o 20 (.assign (.tmp 21)) 4] false) (.cond (.tmp 20) .skip (.seq (.region 19 #[o 22 (.binOp .eql 3 (.tmp 3) (xi 10) 3) 4, o 20 (.assign (.tmp 22)) 4] false) (.cond (.tmp 20) .skip (.region 20 #[o 23 (.binOp .eql 3 (.tmp 3) (xi 19) 3) 4, o 20 (.assign (.tmp 23)) 4] false))))) (.cond (.tmp 20) (.seq (.region 21 #[o 2 (.assign (.const (.string ⟨#[65, 66, 67]⟩))) 9] false) .ret) (.seq (.region 22 #[o 25 (.binOp .eql 3 (.tmp 3) (xi 8) 3) 4, o 24 (.assign (.tmp 25)) 4] false) (.cond (.tmp 24) (.seq (.region 23 #[o 2 (.assign (.const (.string ⟨#[68, 65, 66, 67, 108]⟩))) 9] false) .ret) (.seq (.region 24 #[o 27 (.binOp .eql 3 (.tmp 3) (xi 13) 3) 4, o 26 (.assign (.tmp 27)) 4] false) (.cond (.tmp 26) (.seq (.region 25 #[o 2 (.assign (.const (.string ⟨#[68, 65, 66, 108]⟩))) 9] false) .ret) (.seq (.region 26 #[o 29 (.binOp .eql 3 (.tmp 3) (xi 15) 3) 4, o 28 (.assign (.tmp 29)) 4] false) (.cond (.tmp 28) (.seq (.region 27 #[o 2 (.assign (.const (.string ⟨#[68]⟩))) 9] false) .ret) (.seq (.seq (.region 28 #[o 31 (.binOp .eql 3 (.tmp 3) (xi 16) 3) 4, o 30 (.assign (.tmp 31)) 4] false) (.cond (.tmp 30) .skip (.seq (.region 29 #[o 32 (.binOp .eql 3 (.tmp 3) (xi 18) 3) 4, o 30 (.assign (.tmp 32)) 4] false) (.cond (.tmp 30) .skip (.seq (.region 30 #[o 33 (.binOp .eql 3 (.tmp 3) (xi 22) 3) 4, o 30 (.assign (.tmp 33)) 4] false) (.cond (.tmp 30) .skip (.region 31 #[o 34 (.binOp .eql 3 (.tmp 3) (xi 23) 3) 4, o 30 (.assign (.tmp 34)) 4] false))))))) (.cond (.tmp 30) (.seq (.region 32 #[o 2 (.assign (.const (.string ⟨#[65]⟩))) 9] false) .ret) (.seq (.region 33 #[o 36 (.binOp .eql 3 (.tmp 3) (xi 17) 3) 4, o 35 (.assign (.tmp 36)) 4] false) (.cond (.tmp 35) (.seq (.region 34 #[o 2 (.assign (.const (.string ⟨#[68, 65, 66, 67, 76, 108]⟩))) 9] false) .ret) (.seq (.region 35 #[o 38 (.binOp .eql 3 (.tmp 3) (xi 20) 3) 4, o 37 (.assign (.tmp 38)) 4] false) (.cond (.tmp 37) (.seq (.region 36 #[o 2 (.assign (.const (.string ⟨#[65, 76, 77, 66]⟩))) 9] false) .ret) (.seq (.region 37 #[o 40 (.binOp .eql 3 (.tmp 3) (xi 21) 3) 4, o 39 (.assign (.tmp 40)) 4] false) (.cond (.tmp 39) (.seq (.region 38 #[o 2 (.assign (.const (.string ⟨#[65, 76]⟩))) 9] false) .ret) .skip)))))))))))))))))))))))))))))) (.seq (.region 39 #[o 2 (.assign (.const (.string ⟨#[]⟩))) 9] false) .ret)))
theorem cal121 (args : Array Value) (H : IH) (h : args.size ≤ 41) : cal J okAll 121 args H = finish J [.tmp 2] (run J okAll C121 (regsOf args.toList 0 .leaf) H) := cal_er J H okAll 121 args Tryz.f121 _ C121 _ rfl rfl rfl (by kernel_rfl) rfl h rfl rfl
def C122 : Code := (.seq (.region 0 #[o 4 (.assign (.const (.pointer none))) 193] false) (.seq (.seq (.region 1 #[o 5 (.move (.tmp 1)) 5] false) (.block 0 (.seq (.region 2 #[o 7 (.binOp .eql 5 (.tmp 5) (.const (.int .u8 68)) 5) 4, o 6 (.assign (.tmp 7)) 4] false) (.cond (.tmp 6) (.seq (.region 3 #[o 8 (.move (.tmp 0)) 139, o 9 (.nilCheck (.tmp 8)) 0, o 10 (.fieldAddr 30 (.tmp 9) 1) 0, o 4 (.assign (.tmp 10)) 193] false) .ret) (.seq (.region 4 #[o 12 (.binOp .eql 5 (.tmp 5) (.const (.int .u8 65)) 5) 4, o 11 (.assign (.tmp 12)) 4] false) (.cond (.tmp 11) (.seq (.region 5 #[o 13 (.move (.tmp 0)) 139, o 14 (.nilCheck (.tmp 13)) 0, o 15 (.fieldAddr 30 (.tmp 14) 2) 0, o 4 (.assign (.tmp 15)) 193] false) .ret) (.seq (.region 6 #[o 17 (.binOp .eql 5 (.tmp 5) (.const (.int .u8 66)) 5) 4, o 16 (.assign (.tmp 17)) 4] false) (.cond (.tmp 16) (.seq (.region 7 #[o 18 (.move (.tmp 0)) 139, o 19 (.nilCheck (.tmp 18)) 0, o 20 (.fieldAddr 30 (.tmp 19) 3) 0, o 4 (.assign (.tmp 20)) 193] false) .ret) (.seq (.region 8 #[o 22 (.binOp .eql 5 (.tmp 5) (.const (.int .u8 67)) 5) 4, o 21 (.assign (.tmp 22)) 4] false) (.cond (.tmp 21) (.seq (.region 9 #[o 23 (.move (.tmp 0)) 139, o 24 (.nilCheck (.tmp 23)) 0, o 25 (.fieldAddr 30 (.tmp 24) 4) 0, o 4 (.assign (.tmp 25)) 193] false) .ret) .skip)))))))))) (.seq (.region 10 #[o 4 (.assign (.const (.pointer none))) 193] false) .ret)))
theorem cal122 (args : Array Value) (H : IH) (h : args.size ≤ 26) : cal J okAll 122 args H = finish J [.tmp 4] (run J okAll C122 (regsOf args.toList 0 .leaf) H) := cal_er J H okAll 122 args Tryz.f122 _ C122 _ rfl rfl rfl (by kernel_rfl) rfl h rfl rfl
def C123 : Code := (.seq (.region 0 #[o 4 (.assign (.const (.pointer none))) 195] false) (.seq (.seq (.region 1 #[o 5 (.move (.tmp 1)) 5] false) (.block 0 (.seq (.region 2 #[o 7 (.binOp .eql 5 (.tmp 5) (.const (.int .u8 76)) 5) 4, o 6 (.assign (.tmp 7)) 4] false) (.cond (.tmp 6) (.seq (.region 3 #[o 8 (.move (.tmp 0)) 139, o 9 (.nilCheck (.tmp 8)) 0, o 10 (.fieldAddr 30 (.tmp 9) 6) 0, o 4 (.assign (.tmp 10)) 195] false) .ret) (.seq (.region 4 #[o 12 (.binOp .eql 5 (.tmp 5) (.const (.int .u8 77)) 5) 4, o 11 (.assign (.tmp 12)) 4] false) (.cond (.tmp 11) (.seq (.region 5 #[o 13 (.move (.tmp 0)) 139, o 14 (.nilCheck (.tmp 13)) 0, o 15 (.fieldAddr 30 (.tmp 14) 7) 0, o 4 (.assign (.tmp 15)) 195] false) .ret) .skip)))))) (.seq (.region 6 #[o 16 (.move (.tmp 0)) 139, o 17 (.nilCheck (.tmp 16)) 0, o 18 (.fieldAddr 30 (.tmp 17) 8) 0, o 4 (.assign (.tmp 18)) 195] false) .ret)))
theorem cal123 (args : Array Value) (H : IH) (h : args.size ≤ 19) : cal J okAll 123 args H = finish J [.tmp 4] (run J okAll C123 (regsOf args.toList 0 .leaf) H) := cal_er J H okAll 123 args Tryz.f123 _ C123 _ rfl rfl rfl (by kernel_rfl) rfl h rfl rfl
def C160 : Code := (.seq (.region 0 #[o 2 (.assign (.const (.bool false))) 4] false) (.seq (.region 1 #[o 3 (.move (.tmp 0)) 62, o 4 (.binOp .and 62 (.tmp 3) (.const (.int .u64 1)) 62) 62, o 5 (.binOp .eql 62 (.tmp 4) (.const (.int .u64 1)) 62) 4, o 2 (.assign (.tmp 5)) 4] false) .ret))
theorem cal160 (args : Array Value) (H : IH) (h : args.size ≤ 6) : cal J okAll 160 args H = finish J [.tmp 2] (run J okAll C160 (regsOf args.toList 0 .leaf) H) := cal_er J H okAll 160 args Tryz.f160 _ C160 _ rfl rfl rfl (by kernel_rfl) rfl h rfl rfl
def C161 : Code := (.seq (.region 0 #[o 2 (.assign (xi 0)) 2] false) (.seq (.region 1 #[o 3 (.move (.tmp 0)) 62, o 4 (.convert 62 2 (.tmp 3)) 2, o 5 (.binOp .shr 2 (.tmp 4) (.const (.int .u64 1)) 31) 2, o 2 (.assign (.tmp 5)) 2] false) .ret))
theorem cal161 (args : Array Value) (H : IH) (h : args.size ≤ 6) : cal J okAll 161 args H = finish J [.tmp 2] (run J okAll C161 (regsOf args.toList 0 .leaf) H) := cal_er J H okAll 161 args Tryz.f161 _ C161 _ rfl rfl rfl (by kernel_rfl) rfl h rfl rfl
def C162 : Code := (.seq (.region 0 #[o 4 (.assign (xi 0)) 3, o 5 (.assign (xi 0)) 72] false) (.seq (.seq (.region 1 #[o 6 (.move (.tmp 0)) 81, o 7 (.move (.tmp 1)) 3, o 8 (.call ⟨.value (.func 203), #[.tmp 6, .tmp 7], #[81, 3]⟩) 4, o 9 (.unOp .not 4 (.tmp 8)) 4] false) (.cond (.tmp 9) (.seq (.region 2 #[o 4 (.assign (xi 0)) 3, o 5 (.assign (xi 1)) 72] false) .ret) .skip)) (.seq (.region 3 #[o 10 (.move (.tmp 0)) 81, o 11 (.nilCheck (.tmp 10)) 0, o 12 (.fieldAddr 171 (.tmp 11) 0) 0, o 13 (.load 136 (.tmp 12)) 136, o 14 (.move (.tmp 1)) 3, o 15 (.indexAddr 136 (.tmp 13) (.tmp 14)) 0, o 16 (.load 62 (.tmp 15)) 62, o 17 (.call ⟨.value (.func 204), #[.tmp 16], #[62]⟩) 3, o 4 (.assign (.tmp 17)) 3, o 5 (.assign (xi 0)) 72] false) .ret)))
theorem cal162 (args : Array Value) (H : IH) (h : args.size ≤ 18) : cal J okAll 162 args H = finish J [.tmp 4, .tmp 5] (run J okAll C162 (regsOf args.toList 0 .leaf) H) := cal_er J H okAll 162 args Tryz.f162 _ C162 _ rfl rfl rfl (by kernel_rfl) rfl h rfl rfl
def C163 : Code := (.seq (.region 0 #[o 2 (.assign (xi 0)) 3] false) (.seq (.region 1 #[o 3 (.move (.tmp 0)) 62, o 4 (.binOp .shr 62 (.tmp 3) (.const (.int .u64 1)) 31) 62, o 5 (.convert 62 3 (.tmp 4)) 3, o 2 (.assign (.tmp 5)) 3] false) .ret))
theorem cal163 (args : Array Value) (H : IH) (h : args.size ≤ 6) : cal J okAll 163 args H = finish J [.tmp 2] (run J okAll C163 (regsOf args.toList 0 .leaf) H) := cal_er J H okAll 163 args Tryz.f163 _ C163 _ rfl rfl rfl (by kernel_rfl) rfl h rfl rfl
def D164_2 : List Oper := regOf Tryz.f164 2
@[simp] def A164_2 : List Ann := [a0 (o 12 (.move (.tmp 0)) 79), a0 (o 13 (.nilCheck (.tmp 12)) 0), a0 (o 14 (.fieldAddr 84 (.tmp 13) 2) 0), al (o 15 (.load 81 (.tmp 14)) 81) [1], a0 (o 16 (.move (.tmp 1)) 62), ae (o 17 (.call ⟨.value (.func 163), #[.tmp 16], #[62]⟩) 3) true, ae (o 18 (.call ⟨.value (.func 162), #[.tmp 15, .tmp 17], #[81, 3]⟩) 227) true, a0 (o 11 (.move (.tmp 18)) 227), a0 (o 19 (.extract (.tmp 11) 0) 3), a0 (o 20 (.extract (.tmp 11) 1) 72), a0 (o 5 (.assign (.tmp 19)) 3), a0 (o 6 (.assign (.tmp 20)) 72)]
def O164_2 : List Oper := A164_2.map (·.o)
@[simp] theorem r164_2 (T : Regs) (H : IH) : run J okAll (.region 2 D164_2.toArray true) T H = annSel J okAll D164_2.toArray T H (eRun J (cal J okAll) O164_2.toArray A164_2 T H 0 []) := r_ann (by kernel_rfl) (by kernel_rfl) 2 T H
def C164 : Code := (.seq (.region 0 #[o 4 (.assign (.const (.string ⟨#[]⟩))) 9] false) (.seq (.seq (.region 1 #[o 8 (.move (.tmp 1)) 62, o 9 (.call ⟨.value (.func 160), #[.tmp 8], #[62]⟩) 4, o 10 (.unOp .not 4 (.tmp 9)) 4] false) (.cond (.tmp 10) (.seq (.region 2 D164_2.toArray true) (.seq (.region 3 #[o 21 (.move (.tmp 0)) 79, o 22 (.nilCheck (.tmp 21)) 0, o 23 (.fieldAddr 84 (.tmp 22) 0) 0, o 24 (.load 80 (.tmp 23)) 80, o 25 (.nilCheck (.tmp 24)) 0, o 26 (.fieldAddr 27 (.tmp 25) 1) 0, o 27 (.load 23 (.tmp 26)) 23, o 28 (.move (.tmp 5)) 3, o 29 (.indexAddr 23 (.tmp 27) (.tmp 28)) 0, o 30 (.fieldAddr 90 (.tmp 29) 2) 0, o 31 (.load 9 (.tmp 30)) 9, o 4 (.assign (.tmp 31)) 9] false) .ret)) .skip)) (.seq (.seq (.region 4 #[o 32 (.move (.tmp 1)) 62, o 33 (.call ⟨.value (.func 161), #[.tmp 32], #[62]⟩) 2, o 7 (.assign (.tmp 33)) 2] false) (.seq (.region 5 #[o 34 (.move (.tmp 7)) 2, o 35 (.binOp .geq 2 (.tmp 34) (xi 0) 2) 4, o 36 (.move (.tmp 35)) 4, og 37 (.move (.tmp 7)) 2 2 true, og 38 (.move (.tmp 0)) 79 2 true, og 39 (.nilCheck (.tmp 38)) 0 2 true, og 40 (.fieldAddr 84 (.tmp 39) 0) 0 2 true, og 41 (.load 80 (.tmp 40)) 80 2 true, og 42 (.nilCheck (.tmp 41)) 0 2 true, og 43 (.fieldAddr 27 (.tmp 42) 3) 0 2 true, og 44 (.load 24 (.tmp 43)) 24 2 true, og 45 (.call ⟨.builtin .len, #[.tmp 44], #[24]⟩) 3 2 true, og 46 (.binOp .lss 2 (.tmp 37) (.tmp 45) 2) 4 2 true, o 47 (.pick (.tmp 36) (.tmp 46) (.const (.bool false))) 4] false) (.cond (.tmp 47) (.seq (.region 6 #[o 48 (.move (.tmp 0)) 79, o 49 (.nilCheck (.tmp 48)) 0, o 50 (.fieldAddr 84 (.tmp 49) 0) 0, o 51 (.load 80 (.tmp 50)) 80, o 52 (.nilCheck (.tmp 51)) 0, o 53 (.fieldAddr 27 (.tmp 52) 3) 0, o 54 (.load 24 (.tmp 53)) 24, o 55 (.move (.tmp 7)) 2, o 56 (.indexAddr 24 (.tmp 54) (.tmp 55)) 0, o 57 (.load 9 (.tmp 56)) 9, o 4 (.assign (.tmp 57)) 9] false) .ret) .skip))) (.seq (.region 7 #[o 4 (.assign (.const (.string ⟨#[]⟩))) 9] false) .ret))))
theorem cal164 (args : Array Value) (H : IH) (h : args.size ≤ 58) : cal J okAll 164 args H = finish J [.tmp 4] (run J okAll C164 (regsOf args.toList 0 .leaf) H) := cal_er J H okAll 164 args Tryz.f164 _ C164 _ rfl rfl rfl (by kernel_rfl) rfl h rfl rfl
def D165_9 : List Oper := regOf Tryz.f165 9
@[simp] def A165_9 : List Ann := [a0 (o 68 (.move (.tmp 12)) 3), a0 (o 69 (.move (.tmp 0)) 79), a0 (o 70 (.nilCheck (.tmp 69)) 0), a0 (o 71 (.fieldAddr 84 (.tmp 70) 2) 0), a0 (o 72 (.load 81 (.tmp 71)) 81), a0 (o 74 (.move (.tmp 0)) 79), a0 (o 75 (.nilCheck (.tmp 74)) 0), a0 (o 76 (.fieldAddr 84 (.tmp 75) 2) 0), al (o 77 (.load 81 (.tmp 76)) 81) [1], ae (o 73 (.call ⟨.value (.func 207), #[.tmp 72], #[81]⟩) 3) true, ae (o 78 (.call ⟨.value (.func 208), #[.tmp 77], #[81]⟩) 3) true, a0 (o 79 (.binOp .sub 3 (.tmp 73) (.tmp 78) 3) 3), a0 (o 80 (.binOp .gtr 3 (.tmp 68) (.tmp 79) 3) 4)]
def O165_9 : List Oper := A165_9.map (·.o)
@[simp] theorem r165_9 (T : Regs) (H : IH) : run J okAll (.region 9 D165_9.toArray true) T H = annSel J okAll D165_9.toArray T H (eRun J (cal J okAll) O165_9.toArray A165_9 T H 0 []) := r_ann (by kernel_rfl) (by kernel_rfl) 9 T H
def D165_12 : List Oper := regOf Tryz.f165 12
@[simp] def A165_12 : List Ann := [a0 (o 86 (.move (.tmp 12)) 3), a0 (o 87 (.move (.tmp 0)) 79), a0 (o 88 (.nilCheck (.tmp 87)) 0), a0 (o 89 (.fieldAddr 84 (.tmp 88) 2) 0), a0 (o 90 (.load 81 (.tmp 89)) 81), a0 (o 92 (.move (.tmp 0)) 79), a0 (o 93 (.nilCheck (.tmp 92)) 0), a0 (o 94 (.fieldAddr 84 (.tmp 93) 2) 0), al (o 95 (.load 81 (.tmp 94)) 81) [1], ae (o 91 (.call ⟨.value (.func 207), #[.tmp 90], #[81]⟩) 3) true, ae (o 96 (.call ⟨.value (.func 208), #[.tmp 95], #[81]⟩) 3) true, a0 (o 97 (.binOp .sub 3 (.tmp 91) (.tmp 96) 3) 3), a0 (o 98 (.binOp .gtr 3 (.tmp 86) (.tmp 97) 3) 4)]
def O165_12 : List Oper := A165_12.map (·.o)
@[simp] theorem r165_12 (T : Regs) (H : IH) : run J okAll (.region 12 D165_12.toArray true) T H = annSel J okAll D165_12.toArray T H (eRun J (cal J okAll) O165_12.toArray A165_12 T H 0 []) := r_ann (by kernel_rfl) (by kernel_rfl) 12 T H
def C165 : Code := (.seq (.region 0 #[o 10 (.assign (xi 0)) 3, o 11 (.assign (.const (.slice none 0 0))) 136] false) (.seq (.region 1 #[o 19 (.move (.tmp 0)) 79, o 20 (.nilCheck (.tmp 19)) 0, o 21 (.fieldAddr 84 (.tmp 20) 2) 0, o 22 (.load 81 (.tmp 21)) 81, o 23 (.move (.tmp 1)) 3, o 24 (.move (.tmp 2)) 3, o 25 (.call ⟨.value (.func 205), #[.tmp 22, .tmp 23, .tmp 24], #[81, 3, 3]⟩) 227, o 18 (.move (.tmp 25)) 227, o 26 (.extract (.tmp 18) 0) 3, o 27 (.extract (.tmp 18) 1) 72, o 12 (.assign (.tmp 26)) 3, o 13 (.assign (.tmp 27)) 72] false) (.seq (.region 2 #[o 28 (.move (.tmp 0)) 79, o 29 (.move (.tmp 13)) 72, o 30 (.binOp .eql 72 (.tmp 29) (xi 0) 72) 4, o 31 (.call ⟨.value (.func 63), #[.tmp 28, .tmp 30], #[79, 4]⟩) 0] false) (.seq (.region 3 #[o 32 (.move (.tmp 0)) 79, o 33 (.move (.tmp 3)) 28, o 34 (.call ⟨.value (.func 111), #[.tmp 32, .tmp 33], #[79, 28]⟩) 0] false) (.seq (.region 4 #[o 35 (.move (.tmp 0)) 79, o 36 (.nilCheck (.tmp 35)) 0, o 37 (.fieldAddr 84 (.tmp 36) 6) 0, o 38 (.load 3 (.tmp 37)) 3, o 14 (.assign (.tmp 38)) 3] false) (.seq (.region 5 #[o 39 (.move (.tmp 0)) 79, o 40 (.nilCheck (.tmp 39)) 0, o 41 (.fieldAddr 84 (.tmp 40) 6) 0, o 42 (.load 3 (.tmp 41)) 3, o 43 (.binOp .add 3 (.tmp 42) (xi 1) 3) 3, o 44 (.nilCheck (.tmp 39)) 0, o 45 (.fieldAddr 84 (.tmp 44) 6) 0, oz (.store 3 (.tmp 45) (.tmp 43)) 0] false) (.seq (.region 6 #[o 46 (.move (.tmp 14)) 3, o 47 (.move (.tmp 0)) 79, o 48 (.nilCheck (.tmp 47)) 0, o 49 (.fieldAddr 84 (.tmp 48) 1) 0, o 50 (.fieldAddr 37 (.tmp 49) 4) 0, o 51 (.load 35 (.tmp 50)) 35, o 52 (.call ⟨.builtin .len, #[.tmp 51], #[35]⟩) 3, o 53 (.binOp .lss 3 (.tmp 46) (.tmp 52) 3) 4, o 54 (.move (.tmp 53)) 4, og 55 (.move (.tmp 0)) 79 8 true, og 56 (.nilCheck (.tmp 55)) 0 8 true, og 57 (.fieldAddr 84 (.tmp 56) 1) 0 8 true, og 58 (.fieldAddr 37 (.tmp 57) 4) 0 8 true, og 59 (.load 35 (.tmp 58)) 35 8 true, og 60 (.move (.tmp 14)) 3 8 true, og 61 (.indexAddr 35 (.tmp 59) (.tmp 60)) 0 8 true, og 62 (.load 4 (.tmp 61)) 4 8 true, o 63 (.pick (.tmp 54) (.tmp 62) (.const (.bool false))) 4, o 15 (.assign (.tmp 63)) 4] false) (.seq (.seq (.region 7 #[o 64 (.move (.tmp 15)) 4] false) (.cond (.tmp 64) (.region 8 #[o 65 (.move (.tmp 0)) 79, o 66 (.move (.tmp 4)) 136, o 67 (.call ⟨.value (.func 206), #[.tmp 65, .tmp 66], #[79, 136]⟩) 136, o 4 (.assign (.tmp 67)) 136] false) .skip)) (.seq (.seq (.region 9 D165_9.toArray true) (.cond (.tmp 80) (.seq (.seq (.region 10 #[o 81 (.move (.tmp 15)) 4, o 82 (.unOp .not 4 (.tmp 81)) 4] false) (.cond (.tmp 82) (.region 11 #[o 83 (.move (.tmp 0)) 79, o 84 (.move (.tmp 4)) 136, o 85 (.call ⟨.value (.func 206), #[.tmp 83, .tmp 84], #[79, 136]⟩) 136, o 4 (.assign (.tmp 85)) 136] false) .skip)) (.seq (.region 12 D165_12.toArray true) (.cond (.tmp 98) (.region 13 #[o 99 (.move (.tmp 0)) 79, o 100 (.call ⟨.value (.func 67), #[.tmp 99, xi 4], #[79, 3]⟩) 0] false) .skip))) .skip)) (.seq (.region 14 #[o 102 (.move (.tmp 0)) 79, o 103 (.nilCheck (.tmp 102)) 0, o 104 (.fieldAddr 84 (.tmp 103) 2) 0, o 105 (.load 81 (.tmp 104)) 81, o 106 (.move (.tmp 1)) 3, o 107 (.move (.tmp 2)) 3, o 108 (.call ⟨.value (.func 209), #[.tmp 105, .tmp 106, .tmp 107], #[81, 3, 3]⟩) 227, o 101 (.move (.tmp 108)) 227, o 109 (.extract (.tmp 101) 0) 3, o 110 (.extract (.tmp 101) 1) 72, o 16 (.assign (.tmp 109)) 3, o 17 (.assign (.tmp 110)) 72] false) (.seq (.region 15 #[o 111 (.move (.tmp 16)) 3, o 112 (.move (.tmp 4)) 136, o 10 (.assign (.tmp 111)) 3, o 11 (.assign (.tmp 112)) 136] false) .ret)))))))))))
theorem cal165 (args : Array Value) (H : IH) (h : args.size ≤ 113) : cal J okAll 165 args H = finish J [.tmp 10, .tmp 11] (run J okAll C165 (regsOf args.toList 0 .leaf) H) := cal_er J H okAll 165 args Tryz.f165 _ C165 _ rfl rfl rfl (by kernel_rfl) rfl h rfl rfl
def C167 : Code := (.seq (.region 0 #[o 2 (.assign (.const (.int .u64 0))) 62] false) (.seq (.region 1 #[o 3 (.move (.tmp 0)) 3, o 4 (.convert 3 62 (.tmp 3)) 62, o 5 (.binOp .shl 62 (.tmp 4) (.const (.int .u64 1)) 31) 62, o 6 (.binOp .or 62 (.tmp 5) (.const (.int .u64 0)) 62) 62, o 2 (.assign (.tmp 6)) 62] false) .ret))
theorem cal167 (args : Array Value) (H : IH) (h : args.size ≤ 7) : cal J okAll 167 args H = finish J [.tmp 2] (run J okAll C167 (regsOf args.toList 0 .leaf) H) := cal_er J H okAll 167 args Tryz.f167 _ C167 _ rfl rfl rfl (by kernel_rfl) rfl h rfl rfl
def C168 : Code := (.seq (.region 0 #[o 8 (.assign (xi 0)) 3, o 9 (.assign (xi 0)) 3] false) (.seq (.region 1 #[o 14 (.move (.tmp 0)) 79, o 15 (.move (.tmp 1)) 3, o 16 (.call ⟨.value (.func 102), #[.tmp 14, .tmp 15], #[79, 3]⟩) 175, o 17 (.nilCheck (.tmp 16)) 0, o 18 (.load 62 (.tmp 17)) 62, o 10 (.assign (.tmp 18)) 62] false) (.seq (.region 2 #[o 19 (.move (.tmp 0)) 79, o 20 (.move (.tmp 10)) 62, o 21 (.call ⟨.value (.func 160), #[.tmp 20], #[62]⟩) 4, o 22 (.unOp .not 4 (.tmp 21)) 4, o 23 (.call ⟨.value (.func 63), #[.tmp 19, .tmp 22], #[79, 4]⟩) 0] false) (.seq (.region 3 #[o 24 (.move (.tmp 10)) 62, o 25 (.call ⟨.value (.func 163), #[.tmp 24], #[62]⟩) 3, o 8 (.assign (.tmp 25)) 3] false) (.seq (.region 4 #[o 27 (.move (.tmp 0)) 79, o 28 (.nilCheck (.tmp 27)) 0, o 29 (.fieldAddr 84 (.tmp 28) 2) 0, o 30 (.load 81 (.tmp 29)) 81, o 31 (.move (.tmp 8)) 3, o 32 (.call ⟨.value (.func 162), #[.tmp 30, .tmp 31], #[81, 3]⟩) 227, o 26 (.move (.tmp 32)) 227, o 33 (.extract (.tmp 26) 0) 3, o 34 (.extract (.tmp 26) 1) 72, o 11 (.assign (.tmp 33)) 3, o 12 (.assign (.tmp 34)) 72] false) (.seq (.region 5 #[o 35 (.move (.tmp 0)) 79, o 36 (.nilCheck (.tmp 35)) 0, o 37 (.fieldAddr 84 (.tmp 36) 2) 0, o 38 (.load 81 (.tmp 37)) 81, o 39 (.move (.tmp 11)) 3, o 40 (.call ⟨.value (.func 108), #[.tmp 38, .tmp 39], #[81, 3]⟩) 3, o 13 (.assign (.tmp 40)) 3] false) (.seq (.region 6 #[o 41 (.move (.tmp 0)) 79, o 42 (.move (.tmp 13)) 3, o 43 (.move (.tmp 2)) 3, o 44 (.binOp .eql 3 (.tmp 42) (.tmp 43) 3) 4, o 45 (.move (.tmp 44)) 4, og 46 (.move (.tmp 13)) 3 4 false, og 47 (.move (.tmp 3)) 3 4 false, og 48 (.binOp .eql 3 (.tmp 46) (.tmp 47) 3) 4 4 false, o 49 (.pick (.tmp 45) (.const (.bool true)) (.tmp 48)) 4, o 50 (.call ⟨.value (.func 63), #[.tmp 41, .tmp 49], #[79, 4]⟩) 0] false) (.seq (.region 7 #[o 52 (.move (.tmp 0)) 79, o 53 (.nilCheck (.tmp 52)) 0, o 54 (.fieldAddr 84 (.tmp 53) 2) 0, o 55 (.load 81 (.tmp 54)) 81, o 56 (.move (.tmp 8)) 3, o 57 (.call ⟨.value (.func 211), #[.tmp 55, .tmp 56], #[81, 3]⟩) 227, o 51 (.move (.tmp 57)) 227, o 58 (.extract (.tmp 51) 0) 3, o 59 (.extract (.tmp 51) 1) 72, o 9 (.assign (.tmp 58)) 3] false) (.seq (.region 8 #[o 60 (.move (.tmp 8)) 3, o 61 (.move (.tmp 9)) 3, o 8 (.assign (.tmp 60)) 3, o 9 (.assign (.tmp 61)) 3] false) .ret)))))))))
theorem cal168 (args : Array Value) (H : IH) (h : args.size ≤ 62) : cal J okAll 168 args H = finish J [.tmp 8, .tmp 9] (run J okAll C168 (regsOf args.toList 0 .leaf) H) := cal_er J H okAll 168 args Tryz.f168 _ C168 _ rfl rfl rfl (by kernel_rfl) rfl h rfl rfl
def C170 : Code := (.seq (.region 0 #[o 2 (.assign (xi 0)) 3] false) (.seq (.seq (.region 1 #[o 3 (.move (.tmp 0)) 2, o 4 (.binOp .lss 2 (.tmp 3) (xi 0) 2) 4, o 5 (.move (.tmp 4)) 4, og 6 (.move (.tmp 0)) 2 2 false, og 7 (.binOp .gtr 2 (.tmp 6) (xi 65536) 2) 4 2 false, o 8 (.pick (.tmp 5) (.const (.bool true)) (.tmp 7)) 4] false) (.cond (.tmp 8) (.seq (.region 2 #[o 2 (.assign (xi (-1))) 3] false) .ret) .skip)) (.seq (.region 3 #[o 9 (.move (.tmp 0)) 2, o 2 (.assign (.tmp 9)) 3] false) .ret)))
theorem cal170 (args : Array Value) (H : IH) (h : args.size ≤ 10) : cal J okAll 170 args H = finish J [.tmp 2] (run J okAll C170 (regsOf args.toList 0 .leaf) H) := cal_er J H okAll 170 args Tryz.f170 _ C170 _ rfl rfl rfl (by kernel_rfl) rfl h rfl rfl
def C173 : Code := (.seq (.region 0 #[o 8 (.assign (xi 0)) 72] false) (.seq (.seq (.region 1 #[o 9 (.move (.tmp 0)) 81, o 10 (.move (.tmp 1)) 3, o 11 (.move (.tmp 2)) 3, o 12 (.call ⟨.value (.func 210), #[.tmp 9, .tmp 10, .tmp 11, .const (.bool false)], #[81, 3, 3, 4]⟩) 4, o 13 (.unOp .not 4 (.tmp 12)) 4, o 14 (.move (.tmp 13)) 4, og 15 (.move (.tmp 0)) 81 5 false, og 16 (.move (.tmp 3)) 62 5 false, og 17 (.call ⟨.value (.func 214), #[.tmp 15, .tmp 16], #[81, 62]⟩) 4 5 false, og 18 (.unOp .not 4 (.tmp 17)) 4 5 false, o 19 (.pick (.tmp 14) (.const (.bool true)) (.tmp 18)) 4] false) (.cond (.tmp 19) (.seq (.region 2 #[o 8 (.assign (xi 1)) 72] false) .ret) .skip)) (.seq (.region 3 #[o 20 (.move (.tmp 0)) 81, o 21 (.nilCheck (.tmp 20)) 0, o 22 (.fieldAddr 171 (.tmp 21) 0) 0, o 23 (.load 136 (.tmp 22)) 136, o 24 (.move (.tmp 1)) 3, o 25 (.binOp .add 3 (.tmp 24) (xi 1) 3) 3, o 26 (.move (.tmp 2)) 3, o 27 (.binOp .add 3 (.tmp 25) (.tmp 26) 3) 3, o 28 (.move (.tmp 3)) 62, o 29 (.indexAddr 136 (.tmp 23) (.tmp 27)) 0, oz (.store 62 (.tmp 29) (.tmp 28)) 0] false) (.seq (.region 4 #[o 8 (.assign (xi 0)) 72] false) .ret))))
theorem cal173 (args : Array Value) (H : IH) (h : args.size ≤ 30) : cal J okAll 173 args H = finish J [.tmp 8] (run J okAll C173 (regsOf args.toList 0 .leaf) H) := cal_er J H okAll 173 args Tryz.f173 _ C173 _ rfl rfl rfl (by kernel_rfl) rfl h rfl rfl
def C174 : Code := (.seq (.region 0 #[o 6 (.assign (.const (.int .u64 0))) 62, o 7 (.assign (xi 0)) 72] false) (.seq (.seq (.region 1 #[o 8 (.move (.tmp 0)) 81, o 9 (.move (.tmp 1)) 3, o 10 (.move (.tmp 2)) 3, o 11 (.call ⟨.value (.func 210), #[.tmp 8, .tmp 9, .tmp 10, .const (.bool false)], #[81, 3, 3, 4]⟩) 4, o 12 (.unOp .not 4 (.tmp 11)) 4] false) (.cond (.tmp 12) (.seq (.region 2 #[o 6 (.assign (.const (.int .u64 0))) 62, o 7 (.assign (xi 1)) 72] false) .ret) .skip)) (.seq (.region 3 #[o 13 (.move (.tmp 0)) 81, o 14 (.nilCheck (.tmp 13)) 0, o 15 (.fieldAddr 171 (.tmp 14) 0) 0, o 16 (.load 136 (.tmp 15)) 136, o 17 (.move (.tmp 1)) 3, o 18 (.binOp .add 3 (.tmp 17) (xi 1) 3) 3, o 19 (.move (.tmp 2)) 3, o 20 (.binOp .add 3 (.tmp 18) (.tmp 19) 3) 3, o 21 (.indexAddr 136 (.tmp 16) (.tmp 20)) 0, o 22 (.load 62 (.tmp 21)) 62, o 6 (.assign (.tmp 22)) 62, o 7 (.assign (xi 0)) 72] false) .ret)))
theorem cal174 (args : Array Value) (H : IH) (h : args.size ≤ 23) : cal J okAll 174 args H = finish J [.tmp 6, .tmp 7] (run J okAll C174 (regsOf args.toList 0 .leaf) H) := cal_er J H okAll 174 args Tryz.f174 _ C174 _ rfl rfl rfl (by kernel_rfl) rfl h rfl rfl
def C175 : Code := (.seq (.region 0 #[o 4 (.assign (.const (.bool false))) 4] false) (.seq (.region 1 #[o 5 (.move (.tmp 0)) 246, o 6 (.move (.tmp 1)) 248, o 7 (.call ⟨.value (.func 215), #[.tmp 5, .tmp 6], #[246, 248]⟩) 3, o 8 (.binOp .geq 3 (.tmp 7) (xi 0) 3) 4, o 4 (.assign (.tmp 8)) 4] false) .ret))
theorem cal175 (args : Array Value) (H : IH) (h : args.size ≤ 9) : cal J okAll 175 args H = finish J [.tmp 4] (run J okAll C175 (regsOf args.toList 0 .leaf) H) := cal_er J H okAll 175 args Tryz.f175 _ C175 _ rfl rfl rfl (by kernel_rfl) rfl h rfl rfl
def C176 : Code := (.seq (.region 0 #[o 3 (.assign (.const (.bool false))) 4] false) (.seq (.region 1 #[o 4 (.move (.tmp 0)) 22, o 5 (.call ⟨.builtin .len, #[.tmp 4], #[22]⟩) 3, o 6 (.load 3 (.tmp 1)) 3, o 7 (.binOp .gtr 3 (.tmp 5) (.tmp 6) 3) 4, o 3 (.assign (.tmp 7)) 4] false) .ret))
theorem cal176 (args : Array Value) (H : IH) (h : args.size ≤ 8) : cal J okAll 176 args H = finish J [.tmp 3] (run J okAll C176 (regsOf args.toList 0 .leaf) H) := cal_er J H okAll 176 args Tryz.f176 _ C176 _ rfl rfl rfl (by kernel_rfl) rfl h rfl rfl
def C177 : Code := (.seq (.region 0 #[o 4 (.assign (.const (.bool false))) 4] false) (.seq (.region 1 #[o 5 (.move (.tmp 0)) 249, o 6 (.move (.tmp 1)) 251, o 7 (.call ⟨.value (.func 216), #[.tmp 5, .tmp 6], #[249, 251]⟩) 3, o 8 (.binOp .geq 3 (.tmp 7) (xi 0) 3) 4, o 4 (.assign (.tmp 8)) 4] false) .ret))
theorem cal177 (args : Array Value) (H : IH) (h : args.size ≤ 9) : cal J okAll 177 args H = finish J [.tmp 4] (run J okAll C177 (regsOf args.toList 0 .leaf) H) := cal_er J H okAll 177 args Tryz.f177 _ C177 _ rfl rfl rfl (by kernel_rfl) rfl h rfl rfl
def C178 : Code := (.seq (.region 0 #[o 3 (.assign (.const (.bool false))) 4] false) (.seq (.region 1 #[o 4 (.move (.tmp 0)) 23, o 5 (.call ⟨.builtin .len, #[.tmp 4], #[23]⟩) 3, o 6 (.load 3 (.tmp 1)) 3, o 7 (.binOp .gtr 3 (.tmp 5) (.tmp 6) 3) 4, o 3 (.assign (.tmp 7)) 4] false) .ret))
theorem cal178 (args : Array Value) (H : IH) (h : args.size ≤ 8) : cal J okAll 178 args H = finish J [.tmp 3] (run J okAll C178 (regsOf args.toList 0 .leaf) H) := cal_er J H okAll 178 args Tryz.f178 _ C178 _ rfl rfl rfl (by kernel_rfl) rfl h rfl rfl
def C179 : Code := (.seq (.region 0 #[o 4 (.assign (.const (.bool false))) 4] false) (.seq (.region 1 #[o 5 (.move (.tmp 0)) 252, o 6 (.move (.tmp 1)) 254, o 7 (.call ⟨.value (.func 217), #[.tmp 5, .tmp 6], #[252, 254]⟩) 3, o 8 (.binOp .geq 3 (.tmp 7) (xi 0) 3) 4, o 4 (.assign (.tmp 8)) 4] false) .ret))
theorem cal179 (args : Array Value) (H : IH) (h : args.size ≤ 9) : cal J okAll 179 args H = finish J [.tmp 4] (run J okAll C179 (regsOf args.toList 0 .leaf) H) := cal_er J H okAll 179 args Tryz.f179 _ C179 _ rfl rfl rfl (by kernel_rfl) rfl h rfl rfl
def C180 : Code := (.seq (.region 0 #[o 3 (.assign (.const (.bool false))) 4] false) (.seq (.region 1 #[o 4 (.move (.tmp 0)) 24, o 5 (.call ⟨.builtin .len, #[.tmp 4], #[24]⟩) 3, o 6 (.load 3 (.tmp 1)) 3, o 7 (.binOp .gtr 3 (.tmp 5) (.tmp 6) 3) 4, o 3 (.assign (.tmp 7)) 4] false) .ret))
theorem cal180 (args : Array Value) (H : IH) (h : args.size ≤ 8) : cal J okAll 180 args H = finish J [.tmp 3] (run J okAll C180 (regsOf args.toList 0 .leaf) H) := cal_er J H okAll 180 args Tryz.f180 _ C180 _ rfl rfl rfl (by kernel_rfl) rfl h rfl rfl
def C181 : Code := (.seq (.region 0 #[o 4 (.assign (.const (.bool false))) 4] false) (.seq (.region 1 #[o 5 (.move (.tmp 0)) 255, o 6 (.move (.tmp 1)) 257, o 7 (.call ⟨.value (.func 218), #[.tmp 5, .tmp 6], #[255, 257]⟩) 3, o 8 (.binOp .geq 3 (.tmp 7) (xi 0) 3) 4, o 4 (.assign (.tmp 8)) 4] false) .ret))
theorem cal181 (args : Array Value) (H : IH) (h : args.size ≤ 9) : cal J okAll 181 args H = finish J [.tmp 4] (run J okAll C181 (regsOf args.toList 0 .leaf) H) := cal_er J H okAll 181 args Tryz.f181 _ C181 _ rfl rfl rfl (by kernel_rfl) rfl h rfl rfl
def C182 : Code := (.seq (.region 0 #[o 3 (.assign (.const (.bool false))) 4] false) (.seq (.region 1 #[o 4 (.move (.tmp 0)) 25, o 5 (.call ⟨.builtin .len, #[.tmp 4], #[25]⟩) 3, o 6 (.load 3 (.tmp 1)) 3, o 7 (.binOp .gtr 3 (.tmp 5) (.tmp 6) 3) 4, o 3 (.assign (.tmp 7)) 4] false) .ret))
theorem cal182 (args : Array Value) (H : IH) (h : args.size ≤ 8) : cal J okAll 182 args H = finish J [.tmp 3] (run J okAll C182 (regsOf args.toList 0 .leaf) H) := cal_er J H okAll 182 args Tryz.f182 _ C182 _ rfl rfl rfl (by kernel_rfl) rfl h rfl rfl
def C183 : Code := (.seq (.region 0 #[o 4 (.assign (.const (.bool false))) 4] false) (.seq (.region 1 #[o 5 (.move (.tmp 0)) 24, o 6 (.move (.tmp 1)) 259, o 7 (.call ⟨.value (.func 219), #[.tmp 5, .tmp 6], #[24, 259]⟩) 3, o 8 (.binOp .geq 3 (.tmp 7) (xi 0) 3) 4, o 4 (.assign (.tmp 8)) 4] false) .ret))
theorem cal183 (args : Array Value) (H : IH) (h : args.size ≤ 9) : cal J okAll 183 args H = finish J [.tmp 4] (run J okAll C183 (regsOf args.toList 0 .leaf) H) := cal_er J H okAll 183 args Tryz.f183 _ C183 _ rfl rfl rfl (by kernel_rfl) rfl h rfl rfl
def C184 : Code := (.seq (.region 0 #[o 2 (.assign (.const (.bool false))) 4] false) (.seq (.region 1 #[o 3 (.move (.tmp 0)) 9, o 4 (.call ⟨.builtin .len, #[.tmp 3], #[9]⟩) 3, o 5 (.binOp .gtr 3 (.tmp 4) (xi 16384) 3) 4, o 2 (.assign (.tmp 5)) 4] false) .ret))
theorem cal184 (args : Array Value) (H : IH) (h : args.size ≤ 6) : cal J okAll 184 args H = finish J [.tmp 2] (run J okAll C184 (regsOf args.toList 0 .leaf) H) := cal_er J H okAll 184 args Tryz.f184 _ C184 _ rfl rfl rfl (by kernel_rfl) rfl h rfl rfl
def C185 : Code := (.seq (.region 0 #[o 4 (.assign (.const (.bool false))) 4] false) (.seq (.region 1 #[o 5 (.move (.tmp 0)) 260, o 6 (.move (.tmp 1)) 205, o 7 (.call ⟨.value (.func 220), #[.tmp 5, .tmp 6], #[260, 205]⟩) 3, o 8 (.binOp .geq 3 (.tmp 7) (xi 0) 3) 4, o 4 (.assign (.tmp 8)) 4] false) .ret))
theorem cal185 (args : Array Value) (H : IH) (h : args.size ≤ 9) : cal J okAll 185 args H = finish J [.tmp 4] (run J okAll C185 (regsOf args.toList 0 .leaf) H) := cal_er J H okAll 185 args Tryz.f185 _ C185 _ rfl rfl rfl (by kernel_rfl) rfl h rfl rfl
def C186 : Code := (.seq (.region 0 #[o 3 (.assign (.const (.bool false))) 4] false) (.seq (.region 1 #[o 4 (.move (.tmp 0)) 28, o 5 (.call ⟨.builtin .len, #[.tmp 4], #[28]⟩) 3, o 6 (.load 3 (.tmp 1)) 3, o 7 (.binOp .gtr 3 (.tmp 5) (.tmp 6) 3) 4, o 3 (.assign (.tmp 7)) 4] false) .ret))
theorem cal186 (args : Array Value) (H : IH) (h : args.size ≤ 8) : cal J okAll 186 args H = finish J [.tmp 3] (run J okAll C186 (regsOf args.toList 0 .leaf) H) := cal_er J H okAll 186 args Tryz.f186 _ C186 _ rfl rfl rfl (by kernel_rfl) rfl h rfl rfl
def C187 : Code := (.seq (.region 0 #[o 4 (.assign (.const (.bool false))) 4] false) (.seq (.region 1 #[o 5 (.move (.tmp 0)) 262, o 6 (.move (.tmp 1)) 264, o 7 (.call ⟨.value (.func 221), #[.tmp 5, .tmp 6], #[262, 264]⟩) 3, o 8 (.binOp .geq 3 (.tmp 7) (xi 0) 3) 4, o 4 (.assign (.tmp 8)) 4] false) .ret))
theorem cal187 (args : Array Value) (H : IH) (h : args.size ≤ 9) : cal J okAll 187 args H = finish J [.tmp 4] (run J okAll C187 (regsOf args.toList 0 .leaf) H) := cal_er J H okAll 187 args Tryz.f187 _ C187 _ rfl rfl rfl (by kernel_rfl) rfl h rfl rfl
def C188 : Code := (.seq (.region 0 #[o 3 (.assign (.const (.bool false))) 4] false) (.seq (.region 1 #[o 4 (.move (.tmp 0)) 57, o 5 (.call ⟨.builtin .len, #[.tmp 4], #[57]⟩) 3, o 6 (.load 3 (.tmp 1)) 3, o 7 (.binOp .gtr 3 (.tmp 5) (.tmp 6) 3) 4, o 3 (.assign (.tmp 7)) 4] false) .ret))
theorem cal188 (args : Array Value) (H : IH) (h : args.size ≤ 8) : cal J okAll 188 args H = finish J [.tmp 3] (run J okAll C188 (regsOf args.toList 0 .leaf) H) := cal_er J H okAll 188 args Tryz.f188 _ C188 _ rfl rfl rfl (by kernel_rfl) rfl h rfl rfl
def C203 : Code := (.seq (.region 0 #[o 4 (.assign (.const (.bool false))) 4] false) (.seq (.region 1 #[o 5 (.move (.tmp 0)) 81, o 6 (.binOp .neq 81 (.tmp 5) (.const (.pointer none)) 81) 4, o 7 (.move (.tmp 6)) 4, og 8 (.move (.tmp 1)) 3 2 true, og 9 (.binOp .geq 3 (.tmp 8) (xi 0) 3) 4 2 true, o 10 (.pick (.tmp 7) (.tmp 9) (.const (.bool false))) 4, o 11 (.move (.tmp 10)) 4, og 12 (.move (.tmp 1)) 3 6 true, og 13 (.move (.tmp 0)) 81 6 true, og 14 (.nilCheck (.tmp 13)) 0 6 true, og 15 (.fieldAddr 171 (.tmp 14) 3) 0 6 true, og 16 (.load 3 (.tmp 15)) 3 6 true, og 17 (.binOp .lss 3 (.tmp 12) (.tmp 16) 3) 4 6 true, o 18 (.pick (.tmp 11) (.tmp 17) (.const (.bool false))) 4, o 19 (.move (.tmp 18)) 4, og 20 (.move (.tmp 0)) 81 14 true, og 21 (.nilCheck (.tmp 20)) 0 14 true, og 22 (.fieldAddr 171 (.tmp 21) 1) 0 14 true, og 23 (.load 136 (.tmp 22)) 136 14 true, og 24 (.move (.tmp 1)) 3 14 true, og 25 (.binOp .quo 3 (.tmp 24) (xi 64) 3) 3 14 true, og 26 (.indexAddr 136 (.tmp 23) (.tmp 25)) 0 14 true, og 27 (.load 62 (.tmp 26)) 62 14 true, og 28 (.move (.tmp 1)) 3 14 true, og 29 (.binOp .rem 3 (.tmp 28) (xi 64) 3) 3 14 true, og 30 (.binOp .shr 62 (.tmp 27) (.tmp 29) 3) 62 14 true, og 31 (.binOp .and 62 (.tmp 30) (.const (.int .u64 1)) 62) 62 14 true, og 32 (.binOp .eql 62 (.tmp 31) (.const (.int .u64 1)) 62) 4 14 true, o 33 (.pick (.tmp 19) (.tmp 32) (.const (.bool false))) 4, o 4 (.assign (.tmp 33)) 4] false) .ret))
theorem cal203 (args : Array Value) (H : IH) (h : args.size ≤ 34) : cal J okAll 203 args H = finish J [.tmp 4] (run J okAll C203 (regsOf args.toList 0 .leaf) H) := cal_er J H okAll 203 args Tryz.f203 _ C203 _ rfl rfl rfl (by kernel_rfl) rfl h rfl rfl
def C204 : Code := (.seq (.region 0 #[o 2 (.assign (xi 0)) 3] false) (.seq (.region 1 #[o 3 (.move (.tmp 0)) 62, o 4 (.binOp .shr 62 (.tmp 3) (.const (.int .u64 1)) 31) 62, o 5 (.binOp .and 62 (.tmp 4) (.const (.int .u64 1048575)) 62) 62, o 6 (.convert 62 3 (.tmp 5)) 3, o 2 (.assign (.tmp 6)) 3] false) .ret))
theorem cal204 (args : Array Value) (H : IH) (h : args.size ≤ 7) : cal J okAll 204 args H = finish J [.tmp 2] (run J okAll C204 (regsOf args.toList 0 .leaf) H) := cal_er J H okAll 204 args Tryz.f204 _ C204 _ rfl rfl rfl (by kernel_rfl) rfl h rfl rfl
end
end Go.Proofs.YtchlbfmjnhgpgaaGreat.Idl
namespace Go.Proofs.YtchlbfmjnhgpgaaGreat.Idl
open Go
set_option maxRecDepth 100000
noncomputable section
def C205 : Code := (.seq (.region 0 #[o 6 (.assign (xi 0)) 3, o 7 (.assign (xi 0)) 72] false) (.seq (.seq (.region 1 #[o 9 (.move (.tmp 0)) 81, o 10 (.binOp .eql 81 (.tmp 9) (.const (.pointer none)) 81) 4, o 11 (.move (.tmp 10)) 4, og 12 (.move (.tmp 1)) 3 2 false, og 13 (.binOp .lss 3 (.tmp 12) (xi 0) 3) 4 2 false, o 14 (.pick (.tmp 11) (.const (.bool true)) (.tmp 13)) 4, o 15 (.move (.tmp 14)) 4, og 16 (.move (.tmp 1)) 3 6 false, og 17 (.move (.tmp 0)) 81 6 false, og 18 (.nilCheck (.tmp 17)) 0 6 false, og 19 (.fieldAddr 171 (.tmp 18) 2) 0 6 false, og 20 (.load 125 (.tmp 19)) 125 6 false, og 21 (.call ⟨.builtin .len, #[.tmp 20], #[125]⟩) 3 6 false, og 22 (.binOp .geq 3 (.tmp 16) (.tmp 21) 3) 4 6 false, o 23 (.pick (.tmp 15) (.const (.bool true)) (.tmp 22)) 4, o 24 (.move (.tmp 23)) 4, og 25 (.move (.tmp 2)) 3 15 false, og 26 (.binOp .lss 3 (.tmp 25) (xi 0) 3) 4 15 false, o 27 (.pick (.tmp 24) (.const (.bool true)) (.tmp 26)) 4] false) (.cond (.tmp 27) (.seq (.region 2 #[o 6 (.assign (xi 0)) 3, o 7 (.assign (xi 1)) 72] false) .ret) .skip)) (.seq (.region 3 #[o 28 (.move (.tmp 0)) 81, o 29 (.nilCheck (.tmp 28)) 0, o 30 (.fieldAddr 171 (.tmp 29) 2) 0, o 31 (.load 125 (.tmp 30)) 125, o 32 (.move (.tmp 1)) 3, o 33 (.indexAddr 125 (.tmp 31) (.tmp 32)) 0, o 34 (.load 127 (.tmp 33)) 127, o 8 (.alloc 127) 0, oz (.store 127 (.tmp 8) (.tmp 34)) 0] false) (.seq (.block 0 (.seq (.region 4 #[o 36 (.fieldAddr 127 (.tmp 8) 0) 0, o 37 (.load 3 (.tmp 36)) 3, o 38 (.binOp .eql 3 (.tmp 37) (xi 1) 3) 4, o 39 (.move (.tmp 38)) 4, og 40 (.move (.tmp 2)) 3 3 true, og 41 (.fieldAddr 127 (.tmp 8) 1) 0 3 true, og 42 (.load 3 (.tmp 41)) 3 3 true, og 43 (.binOp .neq 3 (.tmp 40) (.tmp 42) 3) 4 3 true, o 44 (.pick (.tmp 39) (.tmp 43) (.const (.bool false))) 4, o 35 (.assign (.tmp 44)) 4] false) (.cond (.tmp 35) (.seq (.region 5 #[o 6 (.assign (xi 0)) 3, o 7 (.assign (xi 1)) 72] false) .ret) (.seq (.region 6 #[o 46 (.move (.tmp 2)) 3, o 47 (.binOp .gtr 3 (.tmp 46) (xi 65536) 3) 4, o 45 (.assign (.tmp 47)) 4] false) (.cond (.tmp 45) (.seq (.region 7 #[o 6 (.assign (xi 0)) 3, o 7 (.assign (xi 2)) 72] false) .ret) (.seq (.region 8 #[o 49 (.fieldAddr 127 (.tmp 8) 0) 0, o 50 (.load 3 (.tmp 49)) 3, o 51 (.binOp .eql 3 (.tmp 50) (xi 3) 3) 4, o 48 (.assign (.tmp 51)) 4] false) (.cond (.tmp 48) (.seq (.region 9 #[o 52 (.move (.tmp 2)) 3, o 53 (.binOp .add 3 (.tmp 52) (xi 7) 3) 3, o 54 (.binOp .quo 3 (.tmp 53) (xi 8) 3) 3, o 55 (.binOp .add 3 (xi 1) (.tmp 54) 3) 3, o 6 (.assign (.tmp 55)) 3, o 7 (.assign (xi 0)) 72] false) .ret) .skip))))))) (.seq (.region 10 #[o 56 (.move (.tmp 2)) 3, o 57 (.binOp .add 3 (xi 1) (.tmp 56) 3) 3, o 6 (.assign (.tmp 57)) 3, o 7 (.assign (xi 0)) 72] false) .ret)))))
theorem cal205 (args : Array Value) (H : IH) (h : args.size ≤ 58) : cal J okAll 205 args H = finish J [.tmp 6, .tmp 7] (run J okAll C205 (regsOf args.toList 0 .leaf) H) := cal_er J H okAll 205 args Tryz.f205 _ C205 _ rfl rfl rfl (by kernel_rfl) rfl h rfl rfl
def C207 : Code := (.seq (.region 0 #[o 2 (.assign (xi 0)) 3] false) (.seq (.seq (.region 1 #[o 3 (.move (.tmp 0)) 81, o 4 (.binOp .eql 81 (.tmp 3) (.const (.pointer none)) 81) 4] false) (.cond (.tmp 4) (.seq (.region 2 #[o 2 (.assign (xi 0)) 3] false) .ret) .skip)) (.seq (.region 3 #[o 5 (.move (.tmp 0)) 81, o 6 (.nilCheck (.tmp 5)) 0, o 7 (.fieldAddr 171 (.tmp 6) 0) 0, o 8 (.load 136 (.tmp 7)) 136, o 9 (.call ⟨.builtin .len, #[.tmp 8], #[136]⟩) 3, o 2 (.assign (.tmp 9)) 3] false) .ret)))
theorem cal207 (args : Array Value) (H : IH) (h : args.size ≤ 10) : cal J okAll 207 args H = finish J [.tmp 2] (run J okAll C207 (regsOf args.toList 0 .leaf) H) := cal_er J H okAll 207 args Tryz.f207 _ C207 _ rfl rfl rfl (by kernel_rfl) rfl h rfl rfl
def C208 : Code := (.seq (.region 0 #[o 2 (.assign (xi 0)) 3] false) (.seq (.seq (.region 1 #[o 3 (.move (.tmp 0)) 81, o 4 (.binOp .eql 81 (.tmp 3) (.const (.pointer none)) 81) 4] false) (.cond (.tmp 4) (.seq (.region 2 #[o 2 (.assign (xi 0)) 3] false) .ret) .skip)) (.seq (.region 3 #[o 5 (.move (.tmp 0)) 81, o 6 (.nilCheck (.tmp 5)) 0, o 7 (.fieldAddr 171 (.tmp 6) 3) 0, o 8 (.load 3 (.tmp 7)) 3, o 2 (.assign (.tmp 8)) 3] false) .ret)))
theorem cal208 (args : Array Value) (H : IH) (h : args.size ≤ 9) : cal J okAll 208 args H = finish J [.tmp 2] (run J okAll C208 (regsOf args.toList 0 .leaf) H) := cal_er J H okAll 208 args Tryz.f208 _ C208 _ rfl rfl rfl (by kernel_rfl) rfl h rfl rfl
def D209_7 : List Oper := regOf Tryz.f209 7
@[simp] def A209_7 : List Ann := [a0 (o 38 (.move (.tmp 0)) 81), a0 (o 39 (.nilCheck (.tmp 38)) 0), a0 (o 40 (.fieldAddr 171 (.tmp 39) 0) 0), al (o 41 (.load 136 (.tmp 40)) 136) [1], a0 (o 42 (.move (.tmp 10)) 3), a0 (o 43 (.move (.tmp 1)) 3), a0 (o 44 (.move (.tmp 2)) 3), ae (o 45 (.call ⟨.value (.func 224), #[.tmp 43, .tmp 44], #[3, 3]⟩) 62) true, a0 (o 46 (.indexAddr 136 (.tmp 41) (.tmp 42)) 0), ae (oz (.store 62 (.tmp 46) (.tmp 45)) 0) true]
def O209_7 : List Oper := A209_7.map (·.o)
@[simp] theorem r209_7 (T : Regs) (H : IH) : run J okAll (.region 7 D209_7.toArray true) T H = annSel J okAll D209_7.toArray T H (eRun J (cal J okAll) O209_7.toArray A209_7 T H 0 []) := r_ann (by kernel_rfl) (by kernel_rfl) 7 T H
def D209_12 : List Oper := regOf Tryz.f209 12
@[simp] def A209_12 : List Ann := [a0 (o 60 (.move (.tmp 0)) 81), a0 (o 61 (.nilCheck (.tmp 60)) 0), a0 (o 62 (.fieldAddr 171 (.tmp 61) 0) 0), al (o 63 (.load 136 (.tmp 62)) 136) [1], a0 (o 64 (.move (.tmp 10)) 3), a0 (o 65 (.binOp .add 3 (.tmp 64) (xi 1) 3) 3), a0 (o 66 (.move (.tmp 11)) 3), a0 (o 67 (.binOp .add 3 (.tmp 65) (.tmp 66) 3) 3), ae (o 68 (.call ⟨.value (.func 96), #[xi 0], #[2]⟩) 62) true, a0 (o 69 (.indexAddr 136 (.tmp 63) (.tmp 67)) 0), ae (oz (.store 62 (.tmp 69) (.tmp 68)) 0) true]
def O209_12 : List Oper := A209_12.map (·.o)
@[simp] theorem r209_12 (T : Regs) (H : IH) : run J okAll (.region 12 D209_12.toArray true) T H = annSel J okAll D209_12.toArray T H (eRun J (cal J okAll) O209_12.toArray A209_12 T H 0 []) := r_ann (by kernel_rfl) (by kernel_rfl) 12 T H
def L209_0 : Code := (.seq (.region 10 #[o 58 (.binOp .lss 3 (.tmp 57) (.tmp 56) 3) 4] false) (.seq (.cond (.tmp 58) .skip (.exit 0)) (.seq (.block 1 (.seq (.region 11 #[o 59 (.move (.tmp 57)) 3, o 11 (.assign (.tmp 59)) 3] false) (.region 12 D209_12.toArray true))) (.region 13 #[o 70 (.binOp .add 3 (.tmp 57) (xi 1) 3) 3, o 57 (.move (.tmp 70)) 3] false))))
def C209 : Code := (.seq (.region 0 #[o 6 (.assign (xi 0)) 3, o 7 (.assign (xi 0)) 72] false) (.seq (.region 1 #[o 13 (.move (.tmp 0)) 81, o 14 (.move (.tmp 1)) 3, o 15 (.move (.tmp 2)) 3, o 16 (.call ⟨.value (.func 205), #[.tmp 13, .tmp 14, .tmp 15], #[81, 3, 3]⟩) 227, o 12 (.move (.tmp 16)) 227, o 17 (.extract (.tmp 12) 0) 3, o 18 (.extract (.tmp 12) 1) 72, o 8 (.assign (.tmp 17)) 3, o 9 (.assign (.tmp 18)) 72] false) (.seq (.seq (.region 2 #[o 19 (.move (.tmp 9)) 72, o 20 (.binOp .neq 72 (.tmp 19) (xi 0) 72) 4] false) (.cond (.tmp 20) (.seq (.region 3 #[o 21 (.move (.tmp 9)) 72, o 6 (.assign (xi 0)) 3, o 7 (.assign (.tmp 21)) 72] false) .ret) .skip)) (.seq (.seq (.region 4 #[o 22 (.move (.tmp 8)) 3, o 23 (.move (.tmp 0)) 81, o 24 (.nilCheck (.tmp 23)) 0, o 25 (.fieldAddr 171 (.tmp 24) 0) 0, o 26 (.load 136 (.tmp 25)) 136, o 27 (.call ⟨.builtin .len, #[.tmp 26], #[136]⟩) 3, o 28 (.move (.tmp 0)) 81, o 29 (.nilCheck (.tmp 28)) 0, o 30 (.fieldAddr 171 (.tmp 29) 3) 0, o 31 (.load 3 (.tmp 30)) 3, o 32 (.binOp .sub 3 (.tmp 27) (.tmp 31) 3) 3, o 33 (.binOp .gtr 3 (.tmp 22) (.tmp 32) 3) 4] false) (.cond (.tmp 33) (.seq (.region 5 #[o 6 (.assign (xi 0)) 3, o 7 (.assign (xi 3)) 72] false) .ret) .skip)) (.seq (.region 6 #[o 34 (.move (.tmp 0)) 81, o 35 (.nilCheck (.tmp 34)) 0, o 36 (.fieldAddr 171 (.tmp 35) 3) 0, o 37 (.load 3 (.tmp 36)) 3, o 10 (.assign (.tmp 37)) 3] false) (.seq (.region 7 D209_7.toArray true) (.seq (.seq (.region 8 #[o 47 (.move (.tmp 0)) 81, o 48 (.nilCheck (.tmp 47)) 0, o 49 (.fieldAddr 171 (.tmp 48) 2) 0, o 50 (.load 125 (.tmp 49)) 125, o 51 (.move (.tmp 1)) 3, o 52 (.indexAddr 125 (.tmp 50) (.tmp 51)) 0, o 53 (.fieldAddr 127 (.tmp 52) 0) 0, o 54 (.load 3 (.tmp 53)) 3, o 55 (.binOp .neq 3 (.tmp 54) (xi 3) 3) 4] false) (.cond (.tmp 55) (.seq (.region 9 #[o 56 (.move (.tmp 2)) 3, o 57 (.move (xi 0)) 3] false) (.block 0 (.loop L209_0))) .skip)) (.seq (.region 14 #[o 71 (.move (.tmp 0)) 81, o 72 (.nilCheck (.tmp 71)) 0, o 73 (.fieldAddr 171 (.tmp 72) 1) 0, o 74 (.load 136 (.tmp 73)) 136, o 75 (.move (.tmp 10)) 3, o 76 (.binOp .quo 3 (.tmp 75) (xi 64) 3) 3, o 77 (.indexAddr 136 (.tmp 74) (.tmp 76)) 0, o 78 (.load 62 (.tmp 77)) 62, o 79 (.move (.tmp 10)) 3, o 80 (.binOp .rem 3 (.tmp 79) (xi 64) 3) 3, o 81 (.binOp .shl 62 (.const (.int .u64 1)) (.tmp 80) 3) 62, o 82 (.binOp .or 62 (.tmp 78) (.tmp 81) 62) 62, o 83 (.indexAddr 136 (.tmp 74) (.tmp 76)) 0, oz (.store 62 (.tmp 83) (.tmp 82)) 0] false) (.seq (.region 15 #[o 84 (.move (.tmp 0)) 81, o 85 (.nilCheck (.tmp 84)) 0, o 86 (.fieldAddr 171 (.tmp 85) 3) 0, o 87 (.load 3 (.tmp 86)) 3, o 88 (.move (.tmp 8)) 3, o 89 (.binOp .add 3 (.tmp 87) (.tmp 88) 3) 3, o 90 (.nilCheck (.tmp 84)) 0, o 91 (.fieldAddr 171 (.tmp 90) 3) 0, oz (.store 3 (.tmp 91) (.tmp 89)) 0] false) (.seq (.region 16 #[o 92 (.move (.tmp 10)) 3, o 6 (.assign (.tmp 92)) 3, o 7 (.assign (xi 0)) 72] false) .ret))))))))))
theorem cal209 (args : Array Value) (H : IH) (h : args.size ≤ 93) : cal J okAll 209 args H = finish J [.tmp 6, .tmp 7] (run J okAll C209 (regsOf args.toList 0 .leaf) H) := cal_er J H okAll 209 args Tryz.f209 _ C209 _ rfl rfl rfl (by kernel_rfl) rfl h rfl rfl
def D210_1 : List Oper := regOf Tryz.f210 1
@[simp] def A210_1 : List Ann := [a0 (o 9 (.move (.tmp 0)) 81), a0 (o 10 (.move (.tmp 1)) 3), ae (o 11 (.call ⟨.value (.func 203), #[.tmp 9, .tmp 10], #[81, 3]⟩) 4) true, a0 (o 12 (.move (.tmp 11)) 4), a0 (og 13 (.move (.tmp 0)) 81 3 true), a0 (og 14 (.nilCheck (.tmp 13)) 0 3 true), a0 (og 15 (.fieldAddr 171 (.tmp 14) 2) 0 3 true), al (og 16 (.load 125 (.tmp 15)) 125 3 true) [2], a0 (og 17 (.move (.tmp 0)) 81 3 true), a0 (og 18 (.nilCheck (.tmp 17)) 0 3 true), a0 (og 19 (.fieldAddr 171 (.tmp 18) 0) 0 3 true), a0 (og 20 (.load 136 (.tmp 19)) 136 3 true), a0 (og 21 (.move (.tmp 1)) 3 3 true), a0 (og 22 (.indexAddr 136 (.tmp 20) (.tmp 21)) 0 3 true), a0 (og 23 (.load 62 (.tmp 22)) 62 3 true), a0 (og 29 (.move (.tmp 3)) 4 3 true), ae (og 24 (.call ⟨.value (.func 204), #[.tmp 23], #[62]⟩) 3 3 true) true, a0 (og 25 (.indexAddr 125 (.tmp 16) (.tmp 24)) 0 3 true), a0 (og 26 (.fieldAddr 127 (.tmp 25) 0) 0 3 true), a0 (og 27 (.load 3 (.tmp 26)) 3 3 true), a0 (og 28 (.binOp .eql 3 (.tmp 27) (xi 3) 3) 4 3 true), a0 (og 30 (.binOp .eql 4 (.tmp 28) (.tmp 29) 4) 4 3 true), a0 (o 31 (.pick (.tmp 12) (.tmp 30) (.const (.bool false))) 4), a0 (o 32 (.move (.tmp 31)) 4), a0 (og 33 (.move (.tmp 2)) 3 23 true), a0 (og 34 (.binOp .geq 3 (.tmp 33) (xi 0) 3) 4 23 true), a0 (o 35 (.pick (.tmp 32) (.tmp 34) (.const (.bool false))) 4), a0 (o 36 (.move (.tmp 35)) 4), a0 (og 37 (.move (.tmp 2)) 3 27 true), a0 (og 38 (.move (.tmp 0)) 81 27 true), a0 (og 39 (.nilCheck (.tmp 38)) 0 27 true), a0 (og 40 (.fieldAddr 171 (.tmp 39) 0) 0 27 true), a0 (og 41 (.load 136 (.tmp 40)) 136 27 true), a0 (og 42 (.move (.tmp 1)) 3 27 true), a0 (og 43 (.indexAddr 136 (.tmp 41) (.tmp 42)) 0 27 true), a0 (og 44 (.load 62 (.tmp 43)) 62 27 true), ae (og 45 (.call ⟨.value (.func 212), #[.tmp 44], #[62]⟩) 3 27 true) true, a0 (og 46 (.binOp .lss 3 (.tmp 37) (.tmp 45) 3) 4 27 true), a0 (o 47 (.pick (.tmp 36) (.tmp 46) (.const (.bool false))) 4), a0 (o 8 (.assign (.tmp 47)) 4)]
def O210_1 : List Oper := A210_1.map (·.o)
@[simp] theorem g210_1_3 : (O210_1[3]?).bind (·.dst) = some 12 := id rfl
@[simp] theorem g210_1_23 : (O210_1[23]?).bind (·.dst) = some 32 := id rfl
@[simp] theorem g210_1_27 : (O210_1[27]?).bind (·.dst) = some 36 := id rfl
@[simp] theorem r210_1 (T : Regs) (H : IH) : run J okAll (.region 1 D210_1.toArray true) T H = annSel J okAll D210_1.toArray T H (eRun J (cal J okAll) O210_1.toArray A210_1 T H 0 []) := r_ann (by kernel_rfl) (by kernel_rfl) 1 T H
def C210 : Code := (.seq (.region 0 #[o 8 (.assign (.const (.bool false))) 4] false) (.seq (.region 1 D210_1.toArray true) .ret))
theorem cal210 (args : Array Value) (H : IH) (h : args.size ≤ 48) : cal J okAll 210 args H = finish J [.tmp 8] (run J okAll C210 (regsOf args.toList 0 .leaf) H) := cal_er J H okAll 210 args Tryz.f210 _ C210 _ rfl rfl rfl (by kernel_rfl) rfl h rfl rfl
def C211 : Code := (.seq (.region 0 #[o 4 (.assign (xi 0)) 3, o 5 (.assign (xi 0)) 72] false) (.seq (.seq (.region 1 #[o 6 (.move (.tmp 0)) 81, o 7 (.move (.tmp 1)) 3, o 8 (.call ⟨.value (.func 203), #[.tmp 6, .tmp 7], #[81, 3]⟩) 4, o 9 (.unOp .not 4 (.tmp 8)) 4] false) (.cond (.tmp 9) (.seq (.region 2 #[o 4 (.assign (xi 0)) 3, o 5 (.assign (xi 1)) 72] false) .ret) .skip)) (.seq (.region 3 #[o 10 (.move (.tmp 0)) 81, o 11 (.nilCheck (.tmp 10)) 0, o 12 (.fieldAddr 171 (.tmp 11) 0) 0, o 13 (.load 136 (.tmp 12)) 136, o 14 (.move (.tmp 1)) 3, o 15 (.indexAddr 136 (.tmp 13) (.tmp 14)) 0, o 16 (.load 62 (.tmp 15)) 62, o 17 (.call ⟨.value (.func 212), #[.tmp 16], #[62]⟩) 3, o 4 (.assign (.tmp 17)) 3, o 5 (.assign (xi 0)) 72] false) .ret)))
theorem cal211 (args : Array Value) (H : IH) (h : args.size ≤ 18) : cal J okAll 211 args H = finish J [.tmp 4, .tmp 5] (run J okAll C211 (regsOf args.toList 0 .leaf) H) := cal_er J H okAll 211 args Tryz.f211 _ C211 _ rfl rfl rfl (by kernel_rfl) rfl h rfl rfl
def C212 : Code := (.seq (.region 0 #[o 2 (.assign (xi 0)) 3] false) (.seq (.region 1 #[o 3 (.move (.tmp 0)) 62, o 4 (.binOp .shr 62 (.tmp 3) (.const (.int .u64 21)) 31) 62, o 5 (.binOp .and 62 (.tmp 4) (.const (.int .u64 1048575)) 62) 62, o 6 (.convert 62 3 (.tmp 5)) 3, o 2 (.assign (.tmp 6)) 3] false) .ret))
theorem cal212 (args : Array Value) (H : IH) (h : args.size ≤ 7) : cal J okAll 212 args H = finish J [.tmp 2] (run J okAll C212 (regsOf args.toList 0 .leaf) H) := cal_er J H okAll 212 args Tryz.f212 _ C212 _ rfl rfl rfl (by kernel_rfl) rfl h rfl rfl
def C214 : Code := (.seq (.region 0 #[o 4 (.assign (.const (.bool false))) 4] false) (.seq (.region 1 #[o 5 (.move (.tmp 0)) 81, o 6 (.binOp .neq 81 (.tmp 5) (.const (.pointer none)) 81) 4, o 7 (.move (.tmp 6)) 4, og 8 (.move (.tmp 1)) 62 2 true, og 9 (.call ⟨.value (.func 160), #[.tmp 8], #[62]⟩) 4 2 true, og 10 (.move (.tmp 9)) 4 2 true, og 11 (.move (.tmp 0)) 81 5 false, og 12 (.move (.tmp 1)) 62 5 false, og 13 (.call ⟨.value (.func 163), #[.tmp 12], #[62]⟩) 3 5 false, og 14 (.call ⟨.value (.func 203), #[.tmp 11, .tmp 13], #[81, 3]⟩) 4 5 false, og 15 (.pick (.tmp 10) (.const (.bool true)) (.tmp 14)) 4 2 true, o 16 (.pick (.tmp 7) (.tmp 15) (.const (.bool false))) 4, o 4 (.assign (.tmp 16)) 4] false) .ret))
theorem cal214 (args : Array Value) (H : IH) (h : args.size ≤ 17) : cal J okAll 214 args H = finish J [.tmp 4] (run J okAll C214 (regsOf args.toList 0 .leaf) H) := cal_er J H okAll 214 args Tryz.f214 _ C214 _ rfl rfl rfl (by kernel_rfl) rfl h rfl rfl
def L215_0 : Code := (.seq (.region 2 #[o 9 (.binOp .lss 3 (.tmp 8) (.tmp 7) 3) 0] false) (.seq (.cond (.tmp 9) .skip (.exit 0)) (.seq (.block 1 (.seq (.region 3 #[o 10 (.move (.tmp 8)) 3, o 5 (.assign (.tmp 10)) 3] false) (.seq (.region 4 #[o 11 (.move (.tmp 1)) 248, o 12 (.move (.tmp 0)) 246, o 13 (.move (.tmp 5)) 3, o 14 (.indexAddr 246 (.tmp 12) (.tmp 13)) 0, o 15 (.load 22 (.tmp 14)) 22, o 16 (.call ⟨.value (.tmp 11), #[.tmp 15], #[22]⟩) 4] false) (.cond (.tmp 16) (.seq (.region 5 #[o 17 (.move (.tmp 5)) 3, o 4 (.assign (.tmp 17)) 3] false) .ret) .skip)))) (.region 6 #[o 18 (.binOp .add 3 (.tmp 8) (xi 1) 3) 3, o 8 (.move (.tmp 18)) 3] false))))
def C215 : Code := (.seq (.region 0 #[o 4 (.assign (xi 0)) 3] false) (.seq (.seq (.region 1 #[o 6 (.move (.tmp 0)) 246, o 7 (.call ⟨.builtin .len, #[.tmp 6], #[246]⟩) 3, o 8 (.move (xi 0)) 3] false) (.block 0 (.loop L215_0))) (.seq (.region 7 #[o 4 (.assign (xi (-1))) 3] false) .ret)))
theorem cal215 (args : Array Value) (H : IH) (h : args.size ≤ 19) : cal J okAll 215 args H = finish J [.tmp 4] (run J okAll C215 (regsOf args.toList 0 .leaf) H) := cal_er J H okAll 215 args Tryz.f215 _ C215 _ rfl rfl rfl (by kernel_rfl) rfl h rfl rfl
def L216_0 : Code := (.seq (.region 2 #[o 9 (.binOp .lss 3 (.tmp 8) (.tmp 7) 3) 0] false) (.seq (.cond (.tmp 9) .skip (.exit 0)) (.seq (.block 1 (.seq (.region 3 #[o 10 (.move (.tmp 8)) 3, o 5 (.assign (.tmp 10)) 3] false) (.seq (.region 4 #[o 11 (.move (.tmp 1)) 251, o 12 (.move (.tmp 0)) 249, o 13 (.move (.tmp 5)) 3, o 14 (.indexAddr 249 (.tmp 12) (.tmp 13)) 0, o 15 (.load 23 (.tmp 14)) 23, o 16 (.call ⟨.value (.tmp 11), #[.tmp 15], #[23]⟩) 4] false) (.cond (.tmp 16) (.seq (.region 5 #[o 17 (.move (.tmp 5)) 3, o 4 (.assign (.tmp 17)) 3] false) .ret) .skip)))) (.region 6 #[o 18 (.binOp .add 3 (.tmp 8) (xi 1) 3) 3, o 8 (.move (.tmp 18)) 3] false))))
def C216 : Code := (.seq (.region 0 #[o 4 (.assign (xi 0)) 3] false) (.seq (.seq (.region 1 #[o 6 (.move (.tmp 0)) 249, o 7 (.call ⟨.builtin .len, #[.tmp 6], #[249]⟩) 3, o 8 (.move (xi 0)) 3] false) (.block 0 (.loop L216_0))) (.seq (.region 7 #[o 4 (.assign (xi (-1))) 3] false) .ret)))
theorem cal216 (args : Array Value) (H : IH) (h : args.size ≤ 19) : cal J okAll 216 args H = finish J [.tmp 4] (run J okAll C216 (regsOf args.toList 0 .leaf) H) := cal_er J H okAll 216 args Tryz.f216 _ C216 _ rfl rfl rfl (by kernel_rfl) rfl h rfl rfl
def L217_0 : Code := (.seq (.region 2 #[o 9 (.binOp .lss 3 (.tmp 8) (.tmp 7) 3) 0] false) (.seq (.cond (.tmp 9) .skip (.exit 0)) (.seq (.block 1 (.seq (.region 3 #[o 10 (.move (.tmp 8)) 3, o 5 (.assign (.tmp 10)) 3] false) (.seq (.region 4 #[o 11 (.move (.tmp 1)) 254, o 12 (.move (.tmp 0)) 252, o 13 (.move (.tmp 5)) 3, o 14 (.indexAddr 252 (.tmp 12) (.tmp 13)) 0, o 15 (.load 24 (.tmp 14)) 24, o 16 (.call ⟨.value (.tmp 11), #[.tmp 15], #[24]⟩) 4] false) (.cond (.tmp 16) (.seq (.region 5 #[o 17 (.move (.tmp 5)) 3, o 4 (.assign (.tmp 17)) 3] false) .ret) .skip)))) (.region 6 #[o 18 (.binOp .add 3 (.tmp 8) (xi 1) 3) 3, o 8 (.move (.tmp 18)) 3] false))))
def C217 : Code := (.seq (.region 0 #[o 4 (.assign (xi 0)) 3] false) (.seq (.seq (.region 1 #[o 6 (.move (.tmp 0)) 252, o 7 (.call ⟨.builtin .len, #[.tmp 6], #[252]⟩) 3, o 8 (.move (xi 0)) 3] false) (.block 0 (.loop L217_0))) (.seq (.region 7 #[o 4 (.assign (xi (-1))) 3] false) .ret)))
theorem cal217 (args : Array Value) (H : IH) (h : args.size ≤ 19) : cal J okAll 217 args H = finish J [.tmp 4] (run J okAll C217 (regsOf args.toList 0 .leaf) H) := cal_er J H okAll 217 args Tryz.f217 _ C217 _ rfl rfl rfl (by kernel_rfl) rfl h rfl rfl
def L218_0 : Code := (.seq (.region 2 #[o 9 (.binOp .lss 3 (.tmp 8) (.tmp 7) 3) 0] false) (.seq (.cond (.tmp 9) .skip (.exit 0)) (.seq (.block 1 (.seq (.region 3 #[o 10 (.move (.tmp 8)) 3, o 5 (.assign (.tmp 10)) 3] false) (.seq (.region 4 #[o 11 (.move (.tmp 1)) 257, o 12 (.move (.tmp 0)) 255, o 13 (.move (.tmp 5)) 3, o 14 (.indexAddr 255 (.tmp 12) (.tmp 13)) 0, o 15 (.load 25 (.tmp 14)) 25, o 16 (.call ⟨.value (.tmp 11), #[.tmp 15], #[25]⟩) 4] false) (.cond (.tmp 16) (.seq (.region 5 #[o 17 (.move (.tmp 5)) 3, o 4 (.assign (.tmp 17)) 3] false) .ret) .skip)))) (.region 6 #[o 18 (.binOp .add 3 (.tmp 8) (xi 1) 3) 3, o 8 (.move (.tmp 18)) 3] false))))
def C218 : Code := (.seq (.region 0 #[o 4 (.assign (xi 0)) 3] false) (.seq (.seq (.region 1 #[o 6 (.move (.tmp 0)) 255, o 7 (.call ⟨.builtin .len, #[.tmp 6], #[255]⟩) 3, o 8 (.move (xi 0)) 3] false) (.block 0 (.loop L218_0))) (.seq (.region 7 #[o 4 (.assign (xi (-1))) 3] false) .ret)))
theorem cal218 (args : Array Value) (H : IH) (h : args.size ≤ 19) : cal J okAll 218 args H = finish J [.tmp 4] (run J okAll C218 (regsOf args.toList 0 .leaf) H) := cal_er J H okAll 218 args Tryz.f218 _ C218 _ rfl rfl rfl (by kernel_rfl) rfl h rfl rfl
def L219_0 : Code := (.seq (.region 2 #[o 9 (.binOp .lss 3 (.tmp 8) (.tmp 7) 3) 0] false) (.seq (.cond (.tmp 9) .skip (.exit 0)) (.seq (.block 1 (.seq (.region 3 #[o 10 (.move (.tmp 8)) 3, o 5 (.assign (.tmp 10)) 3] false) (.seq (.region 4 #[o 11 (.move (.tmp 1)) 259, o 12 (.move (.tmp 0)) 24, o 13 (.move (.tmp 5)) 3, o 14 (.indexAddr 24 (.tmp 12) (.tmp 13)) 0, o 15 (.load 9 (.tmp 14)) 9, o 16 (.call ⟨.value (.tmp 11), #[.tmp 15], #[9]⟩) 4] false) (.cond (.tmp 16) (.seq (.region 5 #[o 17 (.move (.tmp 5)) 3, o 4 (.assign (.tmp 17)) 3] false) .ret) .skip)))) (.region 6 #[o 18 (.binOp .add 3 (.tmp 8) (xi 1) 3) 3, o 8 (.move (.tmp 18)) 3] false))))
def C219 : Code := (.seq (.region 0 #[o 4 (.assign (xi 0)) 3] false) (.seq (.seq (.region 1 #[o 6 (.move (.tmp 0)) 24, o 7 (.call ⟨.builtin .len, #[.tmp 6], #[24]⟩) 3, o 8 (.move (xi 0)) 3] false) (.block 0 (.loop L219_0))) (.seq (.region 7 #[o 4 (.assign (xi (-1))) 3] false) .ret)))
theorem cal219 (args : Array Value) (H : IH) (h : args.size ≤ 19) : cal J okAll 219 args H = finish J [.tmp 4] (run J okAll C219 (regsOf args.toList 0 .leaf) H) := cal_er J H okAll 219 args Tryz.f219 _ C219 _ rfl rfl rfl (by kernel_rfl) rfl h rfl rfl
def L220_0 : Code := (.seq (.region 2 #[o 9 (.binOp .lss 3 (.tmp 8) (.tmp 7) 3) 0] false) (.seq (.cond (.tmp 9) .skip (.exit 0)) (.seq (.block 1 (.seq (.region 3 #[o 10 (.move (.tmp 8)) 3, o 5 (.assign (.tmp 10)) 3] false) (.seq (.region 4 #[o 11 (.move (.tmp 1)) 205, o 12 (.move (.tmp 0)) 260, o 13 (.move (.tmp 5)) 3, o 14 (.indexAddr 260 (.tmp 12) (.tmp 13)) 0, o 15 (.load 28 (.tmp 14)) 28, o 16 (.call ⟨.value (.tmp 11), #[.tmp 15], #[28]⟩) 4] false) (.cond (.tmp 16) (.seq (.region 5 #[o 17 (.move (.tmp 5)) 3, o 4 (.assign (.tmp 17)) 3] false) .ret) .skip)))) (.region 6 #[o 18 (.binOp .add 3 (.tmp 8) (xi 1) 3) 3, o 8 (.move (.tmp 18)) 3] false))))
def C220 : Code := (.seq (.region 0 #[o 4 (.assign (xi 0)) 3] false) (.seq (.seq (.region 1 #[o 6 (.move (.tmp 0)) 260, o 7 (.call ⟨.builtin .len, #[.tmp 6], #[260]⟩) 3, o 8 (.move (xi 0)) 3] false) (.block 0 (.loop L220_0))) (.seq (.region 7 #[o 4 (.assign (xi (-1))) 3] false) .ret)))
theorem cal220 (args : Array Value) (H : IH) (h : args.size ≤ 19) : cal J okAll 220 args H = finish J [.tmp 4] (run J okAll C220 (regsOf args.toList 0 .leaf) H) := cal_er J H okAll 220 args Tryz.f220 _ C220 _ rfl rfl rfl (by kernel_rfl) rfl h rfl rfl
def L221_0 : Code := (.seq (.region 2 #[o 9 (.binOp .lss 3 (.tmp 8) (.tmp 7) 3) 0] false) (.seq (.cond (.tmp 9) .skip (.exit 0)) (.seq (.block 1 (.seq (.region 3 #[o 10 (.move (.tmp 8)) 3, o 5 (.assign (.tmp 10)) 3] false) (.seq (.region 4 #[o 11 (.move (.tmp 1)) 264, o 12 (.move (.tmp 0)) 262, o 13 (.move (.tmp 5)) 3, o 14 (.indexAddr 262 (.tmp 12) (.tmp 13)) 0, o 15 (.load 57 (.tmp 14)) 57, o 16 (.call ⟨.value (.tmp 11), #[.tmp 15], #[57]⟩) 4] false) (.cond (.tmp 16) (.seq (.region 5 #[o 17 (.move (.tmp 5)) 3, o 4 (.assign (.tmp 17)) 3] false) .ret) .skip)))) (.region 6 #[o 18 (.binOp .add 3 (.tmp 8) (xi 1) 3) 3, o 8 (.move (.tmp 18)) 3] false))))
def C221 : Code := (.seq (.region 0 #[o 4 (.assign (xi 0)) 3] false) (.seq (.seq (.region 1 #[o 6 (.move (.tmp 0)) 262, o 7 (.call ⟨.builtin .len, #[.tmp 6], #[262]⟩) 3, o 8 (.move (xi 0)) 3] false) (.block 0 (.loop L221_0))) (.seq (.region 7 #[o 4 (.assign (xi (-1))) 3] false) .ret)))
theorem cal221 (args : Array Value) (H : IH) (h : args.size ≤ 19) : cal J okAll 221 args H = finish J [.tmp 4] (run J okAll C221 (regsOf args.toList 0 .leaf) H) := cal_er J H okAll 221 args Tryz.f221 _ C221 _ rfl rfl rfl (by kernel_rfl) rfl h rfl rfl
def C224 : Code := (.seq (.region 0 #[o 4 (.assign (.const (.int .u64 0))) 62] false) (.seq (.region 1 #[o 5 (.move (.tmp 0)) 3, o 6 (.convert 3 62 (.tmp 5)) 62, o 7 (.binOp .and 62 (.tmp 6) (.const (.int .u64 1048575)) 62) 62, o 8 (.binOp .shl 62 (.tmp 7) (.const (.int .u64 1)) 31) 62, o 9 (.move (.tmp 1)) 3, o 10 (.convert 3 62 (.tmp 9)) 62, o 11 (.binOp .and 62 (.tmp 10) (.const (.int .u64 1048575)) 62) 62, o 12 (.binOp .shl 62 (.tmp 11) (.const (.int .u64 21)) 31) 62, o 13 (.binOp .or 62 (.tmp 8) (.tmp 12) 62) 62, o 14 (.binOp .or 62 (.tmp 13) (.const (.int .u64 1)) 62) 62, o 4 (.assign (.tmp 14)) 62] false) .ret))
theorem cal224 (args : Array Value) (H : IH) (h : args.size ≤ 15) : cal J okAll 224 args H = finish J [.tmp 4] (run J okAll C224 (regsOf args.toList 0 .leaf) H) := cal_er J H okAll 224 args Tryz.f224 _ C224 _ rfl rfl rfl (by kernel_rfl) rfl h rfl rfl
end
end Go.Proofs.YtchlbfmjnhgpgaaGreat.Idl
namespace Go.Proofs.YtchlbfmjnhgpgaaGreat.Idl
open Go
set_option maxHeartbeats 4000000
set_option maxRecDepth 100000
def wWrap (n : Int) : Int := (n + 4611686018427387904) % 9223372036854775808 - 4611686018427387904
def wImm (n : Int) : Nat := ((2 * n + 1) % 18446744073709551616).toNat
def wInt (w : Nat) : Int := if w < 9223372036854775808 then (w / 2 : Nat) else ((w / 2 : Nat) : Int) - 9223372036854775808
def wIsImm (w : Nat) : Bool := decide (w % 2 = 1)
def wPtr (a : Nat) : Nat := a * 2
def wAt (w : Nat) : Nat := w / 2
def wHead (s n : Nat) : Nat := ((n % 1048576) * 2 ^ 20 + s % 1048576) * 2 + 1
def wShape (h : Nat) : Nat := h / 2 % 1048576
def wLen (h : Nat) : Nat := h / 2097152 % 1048576
section
variable (H : IH)
theorem c_Wrap (n : Int) : cal J okAll 23 #[.int .i64 n] H = some (.ret (.int .i64 (wWrap n)), H) := by
  rw [cal23 _ _ (by simp)]
  have e : (IntKind.i64.wrap (n * 2)).fdiv 2 = wWrap n := by
    rw [wrapI, Int.fdiv_eq_ediv_of_nonneg _ (by decide)]
    unfold wWrap
    omega
  simp [C23, regsOf, fin, iresult1, e]
theorem c_Imm (n : Int) (_h : -9223372036854775808 ≤ n ∧ n ≤ 9223372036854775807) : cal J okAll 96 #[.int .i64 n] H = some (.ret (.int .u64 (wImm n)), H) := by
  rw [cal96 _ _ (by simp)]
  obtain ⟨m, hm⟩ : ∃ m : Nat, m = 2 * (n % 9223372036854775808).toNat := ⟨_, rfl⟩
  have e : IntKind.u64.wrap (IntKind.u64.wrap n * 2) = (m : Int) := by
    rw [wrapU, wrapU]
    omega
  have e2 := or_one m (by omega) (by omega)
  have e3 : m + 1 = wImm n := by unfold wImm; omega
  rw [e3] at e2
  simp [C96, regsOf, fin, iresult1, e, e2]
theorem c_Int (w : Nat) (hw : w < 18446744073709551616) : cal J okAll 161 #[.int .u64 w] H = some (.ret (.int .i64 (wInt w)), H) := by
  rw [cal161 _ _ (by simp)]
  have e : (IntKind.i64.wrap (w : Int)).fdiv 2 = wInt w := by
    rw [wrapI, Int.fdiv_eq_ediv_of_nonneg _ (by decide)]
    unfold wInt
    split <;> omega
  simp [C161, regsOf, fin, iresult1, e]
theorem c_IsImm (w : Nat) (hw : w < 18446744073709551616) : cal J okAll 160 #[.int .u64 w] H = some (.ret (.bool (wIsImm w)), H) := by
  rw [cal160 _ _ (by simp)]
  have e := and_one w hw
  have e2 : decide ((w : Int) % 2 = 1) = wIsImm w := by unfold wIsImm; rw [decide_eq_decide]; omega
  simp [C160, regsOf, fin, iresult1, e, e2]
theorem c_Ptr (a : Nat) (ha : a < 9223372036854775808) : cal J okAll 167 #[.int .i64 a] H = some (.ret (.int .u64 (wPtr a : Nat)), H) := by
  rw [cal167 _ _ (by simp)]
  have e : IntKind.u64.wrap (IntKind.u64.wrap (a : Int) * 2) = ((wPtr a : Nat) : Int) := by rw [wrapU, wrapU]; unfold wPtr; omega
  have e2 := or_zero (wPtr a) (by unfold wPtr; omega)
  simp [C167, regsOf, fin, iresult1, e, e2]
theorem c_At (w : Nat) (hw : w < 18446744073709551616) : cal J okAll 163 #[.int .u64 w] H = some (.ret (.int .i64 (wAt w : Nat)), H) := by
  rw [cal163 _ _ (by simp)]
  have e : IntKind.i64.wrap ((w : Int).fdiv 2) = ((wAt w : Nat) : Int) := by
    rw [Int.fdiv_eq_ediv_of_nonneg _ (by decide), wrapI]; unfold wAt; omega
  simp [C163, regsOf, fin, iresult1, e]
theorem fld (w k : Nat) (hw : w < 18446744073709551616) : andI .u64 ((w : Int) / (k : Int)) 1048575 = ((w / k % 1048576 : Nat) : Int) := by
  have := and_low (w / k) (Nat.lt_of_le_of_lt (Nat.div_le_self _ _) hw)
  rw [Int.natCast_ediv] at this
  exact this
theorem wrap_small (n : Nat) (h : n < 9223372036854775808) : IntKind.i64.wrap (n : Int) = (n : Int) := by rw [wrapI]; omega
theorem c_Shape (w : Nat) (hw : w < 18446744073709551616) : cal J okAll 204 #[.int .u64 w] H = some (.ret (.int .i64 (wShape w : Nat)), H) := by
  rw [cal204 _ _ (by simp)]
  have e : IntKind.i64.wrap (andI .u64 ((w : Int).fdiv 2) 1048575) = ((wShape w : Nat) : Int) := by
    rw [Int.fdiv_eq_ediv_of_nonneg _ (by decide)]
    rw [show andI .u64 ((w : Int) / 2) 1048575 = _ from fld w 2 hw]
    exact wrap_small _ (by omega)
  simp [C204, regsOf, fin, iresult1, e]
theorem c_Len (w : Nat) (hw : w < 18446744073709551616) : cal J okAll 212 #[.int .u64 w] H = some (.ret (.int .i64 (wLen w : Nat)), H) := by
  rw [cal212 _ _ (by simp)]
  have e : IntKind.i64.wrap (andI .u64 ((w : Int).fdiv 2097152) 1048575) = ((wLen w : Nat) : Int) := by
    rw [Int.fdiv_eq_ediv_of_nonneg _ (by decide)]
    rw [show andI .u64 ((w : Int) / 2097152) 1048575 = _ from fld w 2097152 hw]
    exact wrap_small _ (by omega)
  simp [C212, regsOf, fin, iresult1, e]
theorem low20 (n : Nat) (h : n < 9223372036854775808) : andI .u64 (IntKind.u64.wrap (n : Int)) 1048575 = ((n % 1048576 : Nat) : Int) := by
  rw [wrapU_nat n (by omega)]
  exact and_low n (by omega)
theorem c_Head (s n : Nat) (hs : s < 9223372036854775808) (hn : n < 9223372036854775808) : cal J okAll 224 #[.int .i64 s, .int .i64 n] H = some (.ret (.int .u64 (wHead s n : Nat)), H) := by
  rw [cal224 _ _ (by simp)]
  have a1 : IntKind.u64.wrap (andI .u64 (IntKind.u64.wrap (s : Int)) 1048575 * 2) = (((s % 1048576) * 2 : Nat) : Int) := by rw [low20 s hs, wrapU]; omega
  have a2 : IntKind.u64.wrap (andI .u64 (IntKind.u64.wrap (n : Int)) 1048575 * 2097152) = (((n % 1048576) * 2 ^ 21 : Nat) : Int) := by rw [low20 n hn, wrapU]; omega
  have a3 := or_addI' (n % 1048576) ((s % 1048576) * 2) 21 (by omega) (by omega)
  have a4 := or_one (n % 1048576 * 2 ^ 21 + s % 1048576 * 2) (by omega) (by omega)
  have a5 : n % 1048576 * 2 ^ 21 + s % 1048576 * 2 + 1 = wHead s n := by unfold wHead; omega
  rw [a5] at a4
  rw [← a3, ← a1, ← a2] at a4
  simp [C224, regsOf, fin, iresult1, a4]
end
end Go.Proofs.YtchlbfmjnhgpgaaGreat.Idl
namespace Go.Proofs.YtchlbfmjnhgpgaaGreat.Idl
open Go
set_option maxHeartbeats 4000000
set_option maxRecDepth 100000
theorem wWrap_wrap (n : Int) : wWrap (IntKind.i64.wrap n) = wWrap n := by rw [wrapI]; unfold wWrap; omega
theorem wWrap_range (n : Int) : -4611686018427387904 ≤ wWrap n ∧ wWrap n ≤ 4611686018427387903 := by unfold wWrap; omega
def wDiv (a b : Int) : Option Int := if b = 0 then none else some (wWrap (a.fdiv b))
def wMod (a b : Int) : Option Int := if b = 0 then none else some (wWrap (a.fmod b))
def pairV (r : Option Int) : Value := match r with
  | some n => .tuple #[.int .i64 n, .bool true]
  | none => .tuple #[.int .i64 0, .bool false]
theorem fdiv_tdiv (a b : Int) (hb : b ≠ 0) : a.fdiv b = if a.tmod b ≠ 0 ∧ (decide (a < 0) != decide (b < 0)) = true then a.tdiv b - 1 else a.tdiv b := by
  rw [Int.tdiv_eq_ediv, Int.fdiv_eq_ediv]
  by_cases hd : b ∣ a
  · have : a.tmod b = 0 := Int.dvd_iff_tmod_eq_zero.1 hd
    simp [hd, this]
  · have : a.tmod b ≠ 0 := fun h => hd (Int.dvd_iff_tmod_eq_zero.2 h)
    rcases Int.lt_or_gt_of_ne hb with h | h
    · have hs : b.sign = -1 := Int.sign_eq_neg_one_of_neg h
      by_cases ha : a < 0
      · simp [hd, this, h, ha, hs, show ¬ 0 ≤ b by omega, show ¬ 0 ≤ a by omega]
        omega
      · simp [hd, this, h, ha, show ¬ 0 ≤ b by omega, show 0 ≤ a by omega]
    · have hs : b.sign = 1 := Int.sign_eq_one_of_pos h
      by_cases ha : a < 0
      · simp [hd, this, ha, hs, show 0 ≤ b by omega, show ¬ b < 0 by omega, show ¬ 0 ≤ a by omega]
      · simp [hd, this, ha, show 0 ≤ b by omega, show ¬ b < 0 by omega, show 0 ≤ a by omega]
theorem fmod_tmod (a b : Int) (hb : b ≠ 0) : a.fmod b = if a.tmod b ≠ 0 ∧ (decide (a.tmod b < 0) != decide (b < 0)) = true then a.tmod b + b else a.tmod b := by
  by_cases hd : b ∣ a
  · have h1 : a.tmod b = 0 := Int.dvd_iff_tmod_eq_zero.1 hd
    have h2 : a.fmod b = 0 := by rw [Int.fmod_eq_emod, Int.dvd_iff_emod_eq_zero.1 hd]; simp [hd]
    simp [h1, h2]
  · have h0 : a.tmod b ≠ 0 := fun h => hd (Int.dvd_iff_tmod_eq_zero.2 h)
    have e1 := Int.emod_nonneg a hb
    have e2 := Int.emod_lt a hb
    have e3 : a % b ≠ 0 := fun h => hd (Int.dvd_iff_emod_eq_zero.2 h)
    have ht : a.tmod b = a % b - (if 0 ≤ a then 0 else (b.natAbs : Int)) := by
      rw [Int.tmod_eq_emod]
      by_cases ha : 0 ≤ a <;> simp [ha, hd]
    have hf : a.fmod b = a % b + (if 0 ≤ b then 0 else b) := by
      rw [Int.fmod_eq_emod]
      by_cases ha : 0 ≤ b <;> simp [ha, hd]
    rw [hf]
    simp only [ne_eq, h0, not_false_eq_true, true_and]
    rw [ht]
    rcases Int.lt_or_gt_of_ne hb with h | h
    · have hab : (b.natAbs : Int) = -b := by omega
      have hl : a % b < -b := by omega
      by_cases ha : 0 ≤ a
      · simp only [ha, if_true, show ¬ 0 ≤ b by omega, if_false, h, decide_true, Int.sub_zero]
        rw [show decide (a % b < 0) = false from decide_eq_false (by omega)]
        simp
      · simp only [ha, if_false, show ¬ 0 ≤ b by omega, h, decide_true, hab]
        rw [show decide (a % b - -b < 0) = true from decide_eq_true (by omega)]
        simp
    · have hab : (b.natAbs : Int) = b := by omega
      have hl : a % b < b := by omega
      by_cases ha : 0 ≤ a
      · simp only [ha, if_true, show 0 ≤ b by omega, show ¬ b < 0 by omega, decide_false, Int.sub_zero]
        rw [show decide (a % b < 0) = false from decide_eq_false (by omega)]
        simp
      · simp only [ha, if_false, show 0 ≤ b by omega, if_true, show ¬ b < 0 by omega, decide_false, hab]
        rw [show decide (a % b - b < 0) = true from decide_eq_true (by omega)]
        simp
section
variable (H : IH)
theorem c_Add (a b : Int) : cal J okAll 24 #[.int .i64 a, .int .i64 b] H = some (.ret (.int .i64 (wWrap (a + b))), H) := by
  rw [cal24 _ _ (by simp)]
  simp [C24, regsOf, fin, iresult1, c_Wrap, wWrap_wrap]
theorem c_Sub (a b : Int) : cal J okAll 25 #[.int .i64 a, .int .i64 b] H = some (.ret (.int .i64 (wWrap (a - b))), H) := by
  rw [cal25 _ _ (by simp)]
  simp [C25, regsOf, fin, iresult1, c_Wrap, wWrap_wrap]
theorem c_Mul (a b : Int) : cal J okAll 26 #[.int .i64 a, .int .i64 b] H = some (.ret (.int .i64 (wWrap (a * b))), H) := by
  rw [cal26 _ _ (by simp)]
  simp [C26, regsOf, fin, iresult1, c_Wrap, wWrap_wrap]
theorem c_Div (a b : Int) : cal J okAll 27 #[.int .i64 a, .int .i64 b] H = some (.ret (pairV (wDiv a b)), H) := by
  rw [cal27 _ _ (by simp)]
  by_cases hb : b = 0
  · subst hb
    simp [C27, regsOf, fin, iresult1, wDiv, pairV]
  · have hq := fdiv_tdiv a b hb
    have hbD : decide (b = 0) = false := decide_eq_false hb
    by_cases hm : a.tmod b = 0
    · have hmD : decide (a.tmod b = 0) = true := decide_eq_true hm
      simp [hm] at hq
      simp [C27, regsOf, fin, iresult1, wDiv, pairV, hb, hmD, c_Wrap, wWrap_wrap, hq]
    · have hmD : decide (a.tmod b = 0) = false := decide_eq_false hm
      by_cases hs : (decide (a < 0) != decide (b < 0)) = true
      · rw [if_pos ⟨hm, hs⟩] at hq
        have e : wWrap (IntKind.i64.wrap (IntKind.i64.wrap (a.tdiv b) - 1)) = wWrap (a.tdiv b - 1) := by rw [wrapI, wrapI]; unfold wWrap; omega
        simp [C27, regsOf, fin, iresult1, wDiv, pairV, hb, hmD, c_Wrap, e, hq, hs]
      · rw [if_neg (fun h => hs h.2)] at hq
        simp [C27, regsOf, fin, iresult1, wDiv, pairV, hb, hmD, c_Wrap, wWrap_wrap, hq, hs]
theorem c_Mod (a b : Int) (_h : -9223372036854775808 ≤ a ∧ a ≤ 9223372036854775807) : cal J okAll 28 #[.int .i64 a, .int .i64 b] H = some (.ret (pairV (wMod a b)), H) := by
  rw [cal28 _ _ (by simp)]
  by_cases hb : b = 0
  · subst hb
    simp [C28, regsOf, fin, iresult1, wMod, pairV]
  · have hq := fmod_tmod a b hb
    have hbD : decide (b = 0) = false := decide_eq_false hb
    by_cases hm : a.tmod b = 0
    · have hmD : decide (a.tmod b = 0) = true := decide_eq_true hm
      simp [hm] at hq
      simp [C28, regsOf, fin, iresult1, wMod, pairV, hb, c_Wrap, hq, hm]
    · have hmD : decide (a.tmod b = 0) = false := decide_eq_false hm
      by_cases hs : (decide (a.tmod b < 0) != decide (b < 0)) = true
      · rw [if_pos ⟨hm, hs⟩] at hq
        simp [C28, regsOf, fin, iresult1, wMod, pairV, hb, hmD, c_Wrap, wWrap_wrap, hq, hs]
      · rw [if_neg (fun h => hs h.2)] at hq
        simp [C28, regsOf, fin, iresult1, wMod, pairV, hb, hmD, c_Wrap, hq, hs]
end
end Go.Proofs.YtchlbfmjnhgpgaaGreat.Idl
namespace Go.Proofs.YtchlbfmjnhgpgaaGreat.Idl
open Go
set_option maxHeartbeats 8000000
set_option maxRecDepth 100000
set_option linter.unusedSimpArgs false
def Fr (lo : Nat) (H H' : IH) : Prop := H.next ≤ H'.next ∧ ∀ x, x < lo → H'.get x = H.get x
theorem Fr.refl (lo : Nat) (H : IH) : Fr lo H H := ⟨Nat.le_refl _, fun _ _ => rfl⟩
theorem Fr.trans {lo : Nat} {H H' H'' : IH} (h : Fr lo H H') (h' : Fr lo H' H'') : Fr lo H H'' := ⟨Nat.le_trans h.1 h'.1, fun x hx => (h'.2 x hx).trans (h.2 x hx)⟩
theorem Fr.push {lo : Nat} {H H' : IH} (h : Fr lo H H') (hlo : lo ≤ H'.next) (x : Blk) : Fr lo H (H'.push x) := ⟨Nat.le_trans h.1 (by simp), fun y hy => by rw [IH.get_push_other _ _ _ (by omega)]; exact h.2 y hy⟩
structure Hp where
  ws : List Nat
  hd : List Nat
  ly : List (Int × Int)
  top : Nat
def u64c (l : List Nat) : List Value := l.map fun w : Nat => .int .u64 (w : Int)
def lyc (l : List (Int × Int)) : List Value := l.flatMap fun p => [.int .i64 p.1, .int .i64 p.2]
def Hp.kind (σ : Hp) (s : Nat) : Int := ((σ.ly[s]?).map (·.1)).getD 0
def Hp.bit (σ : Hp) (a : Nat) : Bool := decide (((σ.hd[a / 64]?).getD 0) / 2 ^ (a % 64) % 2 = 1)
def Hp.is (σ : Hp) (a : Nat) : Bool := decide (a < σ.top) && σ.bit a
def Hp.w (σ : Hp) (a : Nat) : Nat := (σ.ws[a]?).getD 0
structure Hp.Ok (σ : Hp) : Prop where
  ws : σ.ws.length ≤ 65536
  hd : σ.hd.length = σ.ws.length / 64 + 1
  wlt : ∀ w ∈ σ.ws, w < 18446744073709551616
  hlt : ∀ w ∈ σ.hd, w < 18446744073709551616
  ly : σ.ly.length < 1048576
  top : σ.top ≤ σ.ws.length
structure HpA where
  p : Nat
  wb : Nat
  hb : Nat
  lv : Value
def HpA.below (a : HpA) (lo : Nat) : Prop := a.p < lo ∧ a.wb < lo ∧ a.hb < lo ∧ ∀ lb l c, a.lv = .slice (some ⟨lb, 0, none⟩) l c → lb < lo
theorem HpA.below.mono {a : HpA} {lo lo' : Nat} (h : a.below lo) (hl : lo ≤ lo') : a.below lo' := ⟨by have := h.1; omega, by have := h.2.1; omega, by have := h.2.2.1; omega, fun lb l c e => by have := h.2.2.2 lb l c e; omega⟩
structure HpAt (H : IH) (a : HpA) (σ : Hp) : Prop where
  obj : H.get a.p = some (.cells [.slice (some ⟨a.wb, 0, none⟩) σ.ws.length σ.ws.length, .slice (some ⟨a.hb, 0, none⟩) σ.hd.length σ.hd.length, a.lv, .int .i64 (σ.top : Int)] 171 false)
  ws : H.get a.wb = some (.cells (u64c σ.ws) 62 false)
  hd : H.get a.hb = some (.cells (u64c σ.hd) 62 false)
  ly : (a.lv = .slice none 0 0 ∧ σ.ly = []) ∨ ∃ lb, a.lv = .slice (some ⟨lb, 0, none⟩) σ.ly.length capU ∧ H.get lb = some (.cells (lyc σ.ly) 127 false)
  ok : σ.Ok
  lt : a.below H.next
  sep : a.wb ≠ a.hb
abbrev HpA.ptr (a : HpA) : Value := .pointer (some ⟨a.p, 0, none⟩)
theorem u64c_get (l : List Nat) (i : Nat) (h : i < l.length) : (u64c l)[i]? = some (.int .u64 (l[i] : Nat)) := by simp [u64c, h]
theorem u64c_len (l : List Nat) : (u64c l).length = l.length := by simp [u64c]
theorem lyc_len (l : List (Int × Int)) : (lyc l).length = 2 * l.length := by
  induction l with
  | nil => rfl
  | cons p l ih => simp only [lyc, List.flatMap_cons, List.length_append, List.length_cons, List.length_nil] at ih ⊢; omega
theorem lyc_get : ∀ (l : List (Int × Int)) (i : Nat) (h : i < l.length), (lyc l)[2 * i]? = some (.int .i64 l[i].1) ∧ (lyc l)[2 * i + 1]? = some (.int .i64 l[i].2)
  | p :: l, 0, _ => by simp [lyc]
  | p :: l, i + 1, h => by
    have := lyc_get l i (by simpa using h)
    have e : lyc (p :: l) = [.int .i64 p.1, .int .i64 p.2] ++ lyc l := rfl
    rw [e, show 2 * (i + 1) = 2 * i + 2 by omega]
    exact ⟨by rw [List.getElem?_append_right (by simp)]; exact this.1, by rw [List.getElem?_append_right (by simp)]; exact this.2⟩
theorem Hp.w_eq (σ : Hp) (i : Nat) (h : i < σ.ws.length) : σ.ws[i] = σ.w i := by simp [Hp.w, h]
section
variable {H : IH} {a : HpA} {σ : Hp}
theorem HpAt.mono (h : HpAt H a σ) {H' : IH} (hn : H.next ≤ H'.next) (hp : H'.get a.p = H.get a.p) (hw : H'.get a.wb = H.get a.wb) (hh : H'.get a.hb = H.get a.hb) (hl : ∀ lb l c, a.lv = .slice (some ⟨lb, 0, none⟩) l c → H'.get lb = H.get lb) : HpAt H' a σ := by
  refine ⟨by rw [hp]; exact h.obj, by rw [hw]; exact h.ws, by rw [hh]; exact h.hd, ?_, h.ok, h.lt.mono hn, h.sep⟩
  rcases h.ly with h1 | ⟨lb, h1, h2⟩
  · exact .inl h1
  · exact .inr ⟨lb, h1, by rw [hl _ _ _ h1]; exact h2⟩
theorem HpAt.fr (h : HpAt H a σ) {lo : Nat} (hlo : a.below lo) {H' : IH} (f : Fr lo H H') : HpAt H' a σ :=
  h.mono f.1 (f.2 _ hlo.1) (f.2 _ hlo.2.1) (f.2 _ hlo.2.2.1) fun lb l c e => f.2 _ (hlo.2.2.2 lb l c e)
theorem c_Size (h : HpAt H a σ) : cal J okAll 207 #[a.ptr] H = some (.ret (.int .i64 (σ.ws.length : Int)), H) := by
  rw [cal207 _ _ (by simp)]
  simp [C207, regsOf, fin, iresult1, nilEq, fitsNil, h.obj]
theorem c_Top (h : HpAt H a σ) : cal J okAll 208 #[a.ptr] H = some (.ret (.int .i64 (σ.top : Int)), H) := by
  rw [cal208 _ _ (by simp)]
  simp [C208, regsOf, fin, iresult1, nilEq, fitsNil, h.obj]
theorem c_Is (h : HpAt H a σ) (i : Int) : cal J okAll 203 #[a.ptr, .int .i64 i] H = some (.ret (.bool (decide (0 ≤ i) && σ.is i.toNat)), H) := by
  rw [cal203 _ _ (by simp)]
  by_cases h0 : 0 ≤ i
  · obtain ⟨n, rfl⟩ : ∃ n : Nat, i = n := ⟨i.toNat, by omega⟩
    by_cases h1 : n < σ.top
    · have hk := h.ok
      obtain ⟨q, hq⟩ : ∃ q, q = n / 64 := ⟨_, rfl⟩
      obtain ⟨r, hr⟩ : ∃ r, r = n % 64 := ⟨_, rfl⟩
      have hlt : q < σ.hd.length := by have := hk.top; have := hk.hd; omega
      have e1 : IntKind.i64.wrap ((n : Int) / 64) = (q : Int) := by rw [wrapI]; have := hk.top; have := hk.ws; omega
      have e2 : (n : Int) % 64 = (r : Int) := by omega
      have e2' : (n : Int).tmod 64 = (r : Int) := by rw [Int.tmod_eq_emod_of_nonneg (by omega)]; omega
      have hm : min r 64 = r := by omega
      have hw := hk.hlt _ (List.getElem_mem hlt)
      have hbit : σ.bit n = decide (σ.hd[q] / 2 ^ r % 2 = 1) := by unfold Hp.bit; rw [← hq, ← hr]; simp [hlt]
      have e3 : decide (andI .u64 ((σ.hd[q] : Int).fdiv (2 ^ r)) 1 = 1) = σ.bit n := by
        have : ((σ.hd[q] : Int).fdiv (2 ^ r)) = ((σ.hd[q] / 2 ^ r : Nat) : Int) := by
          have := fdiv_nat σ.hd[q] (2 ^ r)
          rw [← this]; simp
        rw [this, and_one _ (Nat.lt_of_le_of_lt (Nat.div_le_self _ _) hw), hbit, decide_eq_decide]
        omega
      have hc := u64c_get σ.hd q hlt
      have hD : decide ((n : Int) < σ.top) = true := decide_eq_true (by omega)
      have hD0 : decide ((0 : Int) ≤ (n : Int)) = true := decide_eq_true (by omega)
      simp [C203, regsOf, fin, iresult1, nilEq, fitsNil, h.obj, h.hd, iindexAddr, e1, e2, e2', e3, hm, hlt, hc, hD, hD0, Hp.is, h1]
    · have hD : decide ((n : Int) < σ.top) = false := decide_eq_false (by omega)
      have hD0 : decide ((0 : Int) ≤ (n : Int)) = true := decide_eq_true (by omega)
      simp [C203, regsOf, fin, iresult1, nilEq, fitsNil, h.obj, hD, hD0, Hp.is, h1]
  · have hD0 : decide (0 ≤ i) = false := decide_eq_false h0
    simp [C203, regsOf, fin, iresult1, nilEq, fitsNil, h.obj, hD0]
end
end Go.Proofs.YtchlbfmjnhgpgaaGreat.Idl
namespace Go.Proofs.YtchlbfmjnhgpgaaGreat.Idl
open Go
set_option maxHeartbeats 8000000
set_option maxRecDepth 100000
set_option linter.unusedSimpArgs false
section
variable {H : IH} {a : HpA} {σ : Hp}
def Hp.kindI (σ : Hp) (s : Int) : Int := if 0 ≤ s ∧ s < σ.ly.length then σ.kind s.toNat else 0
theorem HpAt.lyS (h : HpAt H a σ) : ∃ b c, a.lv = .slice b σ.ly.length c ∧ (0 < σ.ly.length → ∃ lb, b = some ⟨lb, 0, none⟩ ∧ H.get lb = some (.cells (lyc σ.ly) 127 false)) := by
  rcases h.ly with ⟨h1, h2⟩ | ⟨lb, h1, h2⟩
  · exact ⟨none, 0, by rw [h1, h2]; rfl, fun h => by rw [h2] at h; simp at h⟩
  · exact ⟨_, _, h1, fun _ => ⟨lb, rfl, h2⟩⟩
theorem Hp.kind_eq (σ : Hp) (n : Nat) (h : n < σ.ly.length) : σ.ly[n].1 = σ.kind n := by simp [Hp.kind, h]
theorem c_Kind (h : HpAt H a σ) (s : Int) : cal J okAll 108 #[a.ptr, .int .i64 s] H = some (.ret (.int .i64 (σ.kindI s)), H) := by
  rw [cal108 _ _ (by simp)]
  obtain ⟨b, c, e, hl⟩ := h.lyS
  have ho := h.obj
  rw [e] at ho
  by_cases h0 : 0 ≤ s
  · obtain ⟨n, rfl⟩ : ∃ n : Nat, s = n := ⟨s.toNat, by omega⟩
    have hD0 : decide ((n : Int) < 0) = false := decide_eq_false (by omega)
    by_cases h1 : n < σ.ly.length
    · obtain ⟨lb, rfl, hg⟩ := hl (by omega)
      have hD : ¬ σ.ly.length ≤ n := by omega
      have hc := (lyc_get σ.ly n h1).1
      rw [Nat.mul_comm] at hc
      have hk : σ.kindI n = σ.ly[n].1 := by unfold Hp.kindI; rw [if_pos (by omega)]; exact (σ.kind_eq n h1).symm
      simp [C108, regsOf, fin, iresult1, nilEq, fitsNil, ho, hg, iindexAddr, hD, hD0, h1, hc, hk]
    · have hD : σ.ly.length ≤ n := by omega
      have hk : σ.kindI n = 0 := by unfold Hp.kindI; rw [if_neg (by omega)]
      simp [C108, regsOf, fin, iresult1, nilEq, fitsNil, ho, hD, hD0, hk]
  · have hD0 : decide (s < 0) = true := decide_eq_true (by omega)
    have hk : σ.kindI s = 0 := by unfold Hp.kindI; rw [if_neg (by omega)]
    simp [C108, regsOf, fin, iresult1, nilEq, fitsNil, ho, hD0, hk]
theorem Hp.is_lt {n : Nat} (h : HpAt H a σ) (hi : σ.is n = true) : n < σ.ws.length := by
  unfold Hp.is at hi
  simp only [Bool.and_eq_true, decide_eq_true_eq] at hi
  have := h.ok.top; omega
theorem HpAt.wlt (h : HpAt H a σ) (n : Nat) : σ.w n < 18446744073709551616 := by
  unfold Hp.w
  by_cases hn : n < σ.ws.length
  · simp only [List.getElem?_eq_getElem hn, Option.getD_some]
    exact h.ok.wlt _ (List.getElem_mem hn)
  · rw [List.getElem?_eq_none (by omega)]; decide
theorem HpAt.cell (_h : HpAt H a σ) (n : Nat) (hn : n < σ.ws.length) : (u64c σ.ws)[n]? = some (.int .u64 (σ.w n : Nat)) := by rw [u64c_get _ _ hn, σ.w_eq n hn]
theorem c_HShape (h : HpAt H a σ) (s : Int) : cal J okAll 162 #[a.ptr, .int .i64 s] H = some (.ret (if 0 ≤ s ∧ σ.is s.toNat = true then .tuple #[.int .i64 (wShape (σ.w s.toNat) : Nat), .int .i64 0] else .tuple #[.int .i64 0, .int .i64 1]), H) := by
  rw [cal162 _ _ (by simp)]
  have hi := c_Is h s
  by_cases h0 : 0 ≤ s ∧ σ.is s.toNat = true
  · obtain ⟨n, rfl⟩ : ∃ n : Nat, s = n := ⟨s.toNat, by omega⟩
    have hb : (decide ((0 : Int) ≤ (n : Int)) && σ.is (n : Int).toNat) = true := by simp [h0.1]; exact h0.2
    have hn := σ.is_lt h h0.2
    rw [hb] at hi
    rw [if_pos h0]
    have hn' : n < σ.ws.length := by simpa using hn
    have hw := c_Shape H (σ.w n) (h.wlt n)
    have hc := h.cell n hn'
    simp [C162, regsOf, fin, iresult1, hi, h.obj, h.ws, iindexAddr, hn', hc, hw]
  · have hb : (decide (0 ≤ s) && σ.is s.toNat) = false := by
      rw [Bool.and_eq_false_iff]
      by_cases h1 : 0 ≤ s
      · right; simpa using fun h2 => h0 ⟨h1, h2⟩
      · left; simp [h1]
    rw [hb] at hi
    rw [if_neg h0]
    simp [C162, regsOf, fin, iresult1, hi]
theorem c_HLen (h : HpAt H a σ) (s : Int) : cal J okAll 211 #[a.ptr, .int .i64 s] H = some (.ret (if 0 ≤ s ∧ σ.is s.toNat = true then .tuple #[.int .i64 (wLen (σ.w s.toNat) : Nat), .int .i64 0] else .tuple #[.int .i64 0, .int .i64 1]), H) := by
  rw [cal211 _ _ (by simp)]
  have hi := c_Is h s
  by_cases h0 : 0 ≤ s ∧ σ.is s.toNat = true
  · obtain ⟨n, rfl⟩ : ∃ n : Nat, s = n := ⟨s.toNat, by omega⟩
    have hb : (decide ((0 : Int) ≤ (n : Int)) && σ.is (n : Int).toNat) = true := by simp [h0.1]; exact h0.2
    have hn := σ.is_lt h h0.2
    rw [hb] at hi
    rw [if_pos h0]
    have hn' : n < σ.ws.length := by simpa using hn
    have hw := c_Len H (σ.w n) (h.wlt n)
    have hc := h.cell n hn'
    simp [C211, regsOf, fin, iresult1, hi, h.obj, h.ws, iindexAddr, hn', hc, hw]
  · have hb : (decide (0 ≤ s) && σ.is s.toNat) = false := by
      rw [Bool.and_eq_false_iff]
      by_cases h1 : 0 ≤ s
      · right; simpa using fun h2 => h0 ⟨h1, h2⟩
      · left; simp [h1]
    rw [hb] at hi
    rw [if_neg h0]
    simp [C211, regsOf, fin, iresult1, hi]
def Hp.fits (σ : Hp) (w : Nat) : Bool := wIsImm w || σ.is (wAt w)
theorem c_Fits (h : HpAt H a σ) (w : Nat) (hw : w < 18446744073709551616) : cal J okAll 214 #[a.ptr, .int .u64 w] H = some (.ret (.bool (σ.fits w)), H) := by
  rw [cal214 _ _ (by simp)]
  have h1 := c_IsImm H w hw
  unfold Hp.fits
  cases hi : wIsImm w with
  | true =>
    rw [hi] at h1
    simp [C214, regsOf, fin, iresult1, nilEq, fitsNil, h.obj, h1]
  | false =>
    rw [hi] at h1
    have h2 := c_At H w hw
    have h3 := c_Is h (wAt w : Nat)
    have e : (decide ((0 : Int) ≤ ((wAt w : Nat) : Int)) && σ.is (((wAt w : Nat) : Int)).toNat) = σ.is (wAt w) := by simp
    rw [e] at h3
    simp [C214, regsOf, fin, iresult1, nilEq, fitsNil, h.obj, h1, h2, h3]
end
end Go.Proofs.YtchlbfmjnhgpgaaGreat.Idl
namespace Go.Proofs.YtchlbfmjnhgpgaaGreat.Idl
open Go
set_option maxHeartbeats 8000000
set_option maxRecDepth 100000
set_option linter.unusedSimpArgs false
def Hp.need (σ : Hp) (s n : Int) : Int × Int :=
  if 0 ≤ s ∧ s < σ.ly.length ∧ 0 ≤ n then
    if σ.kind s.toNat = 1 ∧ n ≠ ((σ.ly[s.toNat]?).map (·.2)).getD 0 then (0, 1)
    else if 65536 < n then (0, 2)
    else if σ.kind s.toNat = 3 then (1 + (n + 7) / 8, 0)
    else (1 + n, 0)
  else (0, 1)
theorem Fr.set {lo : Nat} {H H' : IH} (h : Fr lo H H') {b : Nat} (hlo : lo ≤ b) (x : Blk) : Fr lo H (H'.set b x) := ⟨by simpa using h.1, fun y hy => by rw [IH.get_set, if_neg (by omega)]; exact h.2 y hy⟩
section
variable {H : IH} {a : HpA} {σ : Hp}
theorem c_Need (h : HpAt H a σ) (s n : Int) (hn : n ≤ 9223372036854775000) : ∃ H', Fr H.next H H' ∧ cal J okAll 205 #[a.ptr, .int .i64 s, .int .i64 n] H = some (.ret (.tuple #[.int .i64 (σ.need s n).1, .int .i64 (σ.need s n).2]), H') := by
  rw [cal205 _ _ (by simp)]
  obtain ⟨b, c, e, hl⟩ := h.lyS
  have ho := h.obj
  rw [e] at ho
  by_cases h0 : 0 ≤ s
  · obtain ⟨m, rfl⟩ : ∃ m : Nat, s = m := ⟨s.toNat, by omega⟩
    have hD0 : decide ((m : Int) < 0) = false := decide_eq_false (by omega)
    by_cases h1 : m < σ.ly.length
    · obtain ⟨lb, rfl, hg⟩ := hl (by omega)
      have hD : ¬ σ.ly.length ≤ m := by omega
      by_cases h2 : 0 ≤ n
      · have hD2 : decide (n < 0) = false := decide_eq_false (by omega)
        have hc := lyc_get σ.ly m h1
        have hcs : cellsOf (some (.cells (lyc σ.ly) 127 false)) (m * 2) 2 = some [.int .i64 σ.ly[m].1, .int .i64 σ.ly[m].2] := by
          rw [cellsOf_cells, if_pos (by rw [lyc_len]; omega)]
          congr 1
          apply List.ext_getElem?
          intro i
          rw [List.getElem?_take, List.getElem?_drop, Nat.mul_comm]
          match i with
          | 0 => simpa using hc.1
          | 1 => simpa using hc.2
          | i + 2 => simp; omega
        have hneed : σ.need m n = if σ.ly[m].1 = 1 ∧ n ≠ σ.ly[m].2 then (0, 1) else if 65536 < n then (0, 2) else if σ.ly[m].1 = 3 then (1 + (n + 7) / 8, 0) else (1 + n, 0) := by
          unfold Hp.need Hp.kind
          rw [if_pos ⟨by omega, by omega, h2⟩]
          simp only [Int.toNat_natCast, List.getElem?_eq_getElem h1, Option.map_some, Option.getD_some]
        rw [hneed]
        have hF := ((Fr.refl H.next H).push (Nat.le_refl _) (.cells [.int .i64 0, .int .i64 0] 127 false)).set (b := H.next) (Nat.le_refl _) (.cells [.int .i64 σ.ly[m].1, .int .i64 σ.ly[m].2] 127 false)
        refine ⟨_, hF, ?_⟩
        generalize σ.ly[m] = l at *
        obtain ⟨k, N⟩ := l
        dsimp only at *
        by_cases k1 : k = 1 ∧ n ≠ N
        · obtain ⟨k1, k2⟩ := k1
          have k1D : decide (k = 1) = true := decide_eq_true k1
          have k2D : decide (n = N) = false := decide_eq_false k2
          rw [if_pos ⟨k1, k2⟩]
          simp [C205, regsOf, fin, iresult1, nilEq, fitsNil, ho, hg, iindexAddr, hD, hD0, hD2, h1, hcs, k1D, k2D, inew, istore, Value.cells, plain1, overlay, IH.get_push, IH.get_set, loadT_agg]
        · rw [if_neg k1]
          have hk : (decide (k = 1) = true ∧ decide (n = N) = true) ∨ (decide (k = 1) = false ∧ True) := by
            by_cases k2 : k = 1
            · exact .inl ⟨decide_eq_true k2, decide_eq_true (Classical.byContradiction fun k3 => k1 ⟨k2, k3⟩)⟩
            · exact .inr ⟨decide_eq_false k2, trivial⟩
          by_cases k3 : 65536 < n
          · have k3D : decide (65536 < n) = true := decide_eq_true k3
            rw [if_pos k3]
            rcases hk with ⟨k1D, k2D⟩ | ⟨k1D, k2D⟩ <;> simp [C205, regsOf, fin, iresult1, nilEq, fitsNil, ho, hg, iindexAddr, hD, hD0, hD2, h1, hcs, k1D, k2D, k3D, inew, istore, Value.cells, plain1, overlay, IH.get_push, IH.get_set, loadT_agg]
          · have k3D : decide (65536 < n) = false := decide_eq_false k3
            rw [if_neg k3]
            have w1 : IntKind.i64.wrap (n + 7) = n + 7 := by rw [wrapI]; omega
            have w2 : IntKind.i64.wrap ((n + 7).tdiv 8) = (n + 7) / 8 := by rw [Int.tdiv_eq_ediv_of_nonneg (by omega)]; rw [wrapI]; omega
            have w3 : IntKind.i64.wrap (1 + (n + 7) / 8) = 1 + (n + 7) / 8 := by rw [wrapI]; omega
            have w4 : IntKind.i64.wrap (1 + n) = 1 + n := by rw [wrapI]; omega
            by_cases k4 : k = 3
            · have k4D : decide (k = 3) = true := decide_eq_true k4
              rw [if_pos k4]
              rcases hk with ⟨k1D, k2D⟩ | ⟨k1D, k2D⟩ <;> simp [C205, regsOf, fin, iresult1, nilEq, fitsNil, ho, hg, iindexAddr, hD, hD0, hD2, h1, hcs, k1D, k2D, k3D, k4D, w1, w2, w3, inew, istore, Value.cells, plain1, overlay, IH.get_push, IH.get_set, loadT_agg]
            · have k4D : decide (k = 3) = false := decide_eq_false k4
              rw [if_neg k4]
              rcases hk with ⟨k1D, k2D⟩ | ⟨k1D, k2D⟩ <;> simp [C205, regsOf, fin, iresult1, nilEq, fitsNil, ho, hg, iindexAddr, hD, hD0, hD2, h1, hcs, k1D, k2D, k3D, k4D, w4, inew, istore, Value.cells, plain1, overlay, IH.get_push, IH.get_set, loadT_agg]
      · have hD2 : decide (n < 0) = true := decide_eq_true (by omega)
        refine ⟨H, Fr.refl _ _, ?_⟩
        have hneed : σ.need m n = (0, 1) := by unfold Hp.need; rw [if_neg (by omega)]
        rw [hneed]
        simp [C205, regsOf, fin, iresult1, nilEq, fitsNil, ho, hD, hD0, hD2]
    · have hD : σ.ly.length ≤ m := by omega
      refine ⟨H, Fr.refl _ _, ?_⟩
      have hneed : σ.need m n = (0, 1) := by unfold Hp.need; rw [if_neg (by omega)]
      rw [hneed]
      simp [C205, regsOf, fin, iresult1, nilEq, fitsNil, ho, hD, hD0]
  · have hD0 : decide (s < 0) = true := decide_eq_true (by omega)
    refine ⟨H, Fr.refl _ _, ?_⟩
    have hneed : σ.need s n = (0, 1) := by unfold Hp.need; rw [if_neg (by omega)]
    rw [hneed]
    simp [C205, regsOf, fin, iresult1, nilEq, fitsNil, ho, hD0]
end
end Go.Proofs.YtchlbfmjnhgpgaaGreat.Idl
namespace Go.Proofs.YtchlbfmjnhgpgaaGreat.Idl
open Go
set_option maxHeartbeats 8000000
set_option maxRecDepth 100000
set_option linter.unusedSimpArgs false
@[simp] theorem veq_int (k : IntKind) (a : Int) : veq 8 (.int k a) (.int k a) = true := by simp [veq]
@[simp] theorem veq_bool (a : Bool) : veq 8 (.bool a) (.bool a) = true := by simp [veq]
@[simp] theorem veq_ptr (a : Option Addr) : veq 8 (.pointer a) (.pointer a) = true := by simp [veq]
@[simp] theorem veq_slice (a : Option Addr) (l c : Nat) : veq 8 (.slice a l c) (.slice a l c) = true := by simp [veq]
@[simp] theorem veq_string (a : ByteArray) : veq 8 (.string a) (.string a) = true := by simp [veq]
theorem pendAdd_congr {J : Env} {P P' : Pend} (h : ∀ k H, pendOk J P k H = pendOk J P' k H) (a : Ann) (T : Regs) (v : Value) : ∀ k H, pendOk J (pendAdd a T v P) k H = pendOk J (pendAdd a T v P') k H := by
  intro k H
  unfold pendAdd
  split
  · exact h k H
  · rw [pendOk_cons, pendOk_cons, h]
theorem eRun_congr {J : Env} {call : CallR} {ops : Array Oper} : ∀ (r : List Ann) (T : Regs) (H : IH) (k : Nat) (P P' : Pend), (∀ k H, pendOk J P k H = pendOk J P' k H) → eRun J call ops r T H k P = eRun J call ops r T H k P'
  | [], _, _, _, _, _, _ => rfl
  | a :: r, T, H, k, P, P', h => by
    simp only [eRun]
    split
    · split
      · split
        · rw [h, eRun_congr r _ _ _ P P' h]
        · exact eRun_congr r _ _ _ _ _ (pendAdd_congr h a T _)
      · rfl
      · rfl
    · split
      · rw [h, eRun_congr r _ _ _ P P' h]
      · exact eRun_congr r _ _ _ P P' h
@[simp high] theorem eRes_late_load (J : Env) (call : CallR) (ops : Array Oper) (T : Regs) (H : IH) (k : Nat) (P : Pend) (dst : Option Tmp) (t : TypeId) (x : Operand) (ty : TypeId) (pos : String) (af : Array Edge) (g : Option (Nat × Bool)) (p : Bool) (s : Nat) (st : List Nat) (r : List Ann) (v : Value) :
    eRes J call ops ⟨⟨dst, .load t x, ty, pos, af, g⟩, false, p, s :: st⟩ r T k P (some (.ret v, H)) = eRun J call ops r (putR T dst v) H k ((⟨none, .load t (.const (iev T x)), 0, "", #[], none⟩, .leaf, v, s :: st) :: P) := by
  rw [eRes_late]
  refine eRun_congr r _ _ _ _ _ fun k H => ?_
  rw [pendOk_cons, pendOk_cons]
  rfl
def Hp.has (σ : Hp) (s i : Int) (b : Bool) : Bool := decide (0 ≤ s) && σ.is s.toNat && (decide (σ.kind (wShape (σ.w s.toNat)) = 3) == b) && decide (0 ≤ i) && decide (i < wLen (σ.w s.toNat))
def Hp.Shapes (σ : Hp) : Prop := ∀ n, σ.is n = true → wShape (σ.w n) < σ.ly.length
def Hp.Fit (σ : Hp) : Prop := ∀ n, σ.is n = true → n + 1 + (if σ.kind (wShape (σ.w n)) = 3 then (wLen (σ.w n) + 7) / 8 else wLen (σ.w n)) ≤ σ.top
section
variable {H : IH} {a : HpA} {σ : Hp}
theorem c_has (h : HpAt H a σ) (hs : σ.Shapes) (s i : Int) (b : Bool) : cal J okAll 210 #[a.ptr, .int .i64 s, .int .i64 i, .bool b] H = some (.ret (.bool (σ.has s i b)), H) := by
  rw [cal210 _ _ (by simp)]
  have hi := c_Is h s
  by_cases h0 : 0 ≤ s ∧ σ.is s.toNat = true
  · obtain ⟨n, rfl⟩ : ∃ n : Nat, s = n := ⟨s.toNat, by omega⟩
    have hb : (decide ((0 : Int) ≤ (n : Int)) && σ.is (n : Int).toNat) = true := by simp [h0.1]; exact h0.2
    have hn := σ.is_lt h h0.2
    have his : σ.is n = true := by simpa using h0.2
    rw [hb] at hi
    have hn' : n < σ.ws.length := by simpa using hn
    have hw := c_Shape H (σ.w n) (h.wlt n)
    have hw2 := c_Len H (σ.w n) (h.wlt n)
    have hc := h.cell n hn'
    obtain ⟨lb0, c, e, hl⟩ := h.lyS
    have ho := h.obj
    rw [e] at ho
    have hsl := hs n his
    obtain ⟨lb, rfl, hg⟩ := hl (by omega)
    have hk := (lyc_get σ.ly _ hsl).1
    rw [Nat.mul_comm, σ.kind_eq _ hsl] at hk
    have hhas : σ.has n i b = ((decide (σ.kind (wShape (σ.w n)) = 3) == b) && decide (0 ≤ i) && decide (i < wLen (σ.w n))) := by
      unfold Hp.has; rw [hb]; simp
    rw [hhas]
    cases hk3 : (decide (σ.kind (wShape (σ.w n)) = 3) == b) with
    | false => simp [C210, regsOf, fin, iresult1, hi, ho, h.ws, hg, iindexAddr, hn', hc, hw, hw2, hsl, hk, hk3]
    | true =>
      cases hi0 : decide (0 ≤ i) <;> simp [C210, regsOf, fin, iresult1, hi, ho, h.ws, hg, iindexAddr, hn', hc, hw, hw2, hsl, hk, hk3, hi0]
  · have hb : (decide (0 ≤ s) && σ.is s.toNat) = false := by
      rw [Bool.and_eq_false_iff]
      by_cases h1 : 0 ≤ s
      · right; simpa using fun h2 => h0 ⟨h1, h2⟩
      · left; simp [h1]
    rw [hb] at hi
    have hhas : σ.has s i b = false := by unfold Hp.has; rw [hb]; simp
    rw [hhas]
    simp [C210, regsOf, fin, iresult1, hi]
end
end Go.Proofs.YtchlbfmjnhgpgaaGreat.Idl
namespace Go.Proofs.YtchlbfmjnhgpgaaGreat.Idl
open Go
set_option maxHeartbeats 8000000
set_option maxRecDepth 100000
set_option linter.unusedSimpArgs false
section
variable {H : IH} {a : HpA} {σ : Hp}
theorem Hp.has_nat {s i : Int} {b : Bool} (h : σ.has s i b = true) : ∃ n k : Nat, s = n ∧ i = k ∧ σ.is n = true ∧ (decide (σ.kind (wShape (σ.w n)) = 3) == b) = true ∧ k < wLen (σ.w n) := by
  unfold Hp.has at h
  simp only [Bool.and_eq_true, decide_eq_true_eq] at h
  obtain ⟨⟨⟨⟨h1, h2⟩, h3⟩, h4⟩, h5⟩ := h
  obtain ⟨n, rfl⟩ : ∃ n : Nat, s = n := ⟨s.toNat, by omega⟩
  obtain ⟨k, rfl⟩ : ∃ k : Nat, i = k := ⟨i.toNat, by omega⟩
  exact ⟨n, k, rfl, rfl, by simpa using h2, by simpa using h3, by simpa using h5⟩
def Hp.get (σ : Hp) (s i : Int) : Nat × Int := if σ.has s i false = true then (σ.w (s.toNat + 1 + i.toNat), 0) else (0, 1)
theorem c_Get (h : HpAt H a σ) (hs : σ.Shapes) (hf : σ.Fit) (s i : Int) : cal J okAll 174 #[a.ptr, .int .i64 s, .int .i64 i] H = some (.ret (.tuple #[.int .u64 ((σ.get s i).1 : Nat), .int .i64 (σ.get s i).2]), H) := by
  rw [cal174 _ _ (by simp)]
  have hh := c_has h hs s i false
  unfold Hp.get
  by_cases hb : σ.has s i false = true
  · rw [if_pos hb]
    rw [hb] at hh
    obtain ⟨n, k, rfl, rfl, h1, h2, h3⟩ := σ.has_nat hb
    have h4 := hf n h1
    have hk3 : ¬ σ.kind (wShape (σ.w n)) = 3 := by simpa using h2
    rw [if_neg hk3] at h4
    have ht := h.ok.top
    have hlt : n + 1 + k < σ.ws.length := by omega
    have hw := h.ok.ws
    have e1 : IntKind.i64.wrap ((n : Int) + 1) = (n : Int) + 1 := by rw [wrapI]; omega
    have e2 : IntKind.i64.wrap ((n : Int) + 1 + k) = (n : Int) + 1 + k := by rw [wrapI]; omega
    have e3 : ((n : Int) + 1 + k).toNat = n + 1 + k := by omega
    have e4 : (0 : Int) ≤ (n : Int) + 1 + k := by omega
    have e5 : (n : Int) + 1 + k < σ.ws.length := by omega
    have hc := h.cell _ hlt
    simp [C174, regsOf, fin, iresult1, hh, h.obj, h.ws, iindexAddr, e1, e2, e3, e4, e5, hlt, hc]
  · rw [if_neg hb]
    simp only [Bool.not_eq_true] at hb
    rw [hb] at hh
    simp [C174, regsOf, fin, iresult1, hh]
end
end Go.Proofs.YtchlbfmjnhgpgaaGreat.Idl
namespace Go.Proofs.YtchlbfmjnhgpgaaGreat.Idl
open Go
set_option maxHeartbeats 8000000
set_option maxRecDepth 100000
set_option linter.unusedSimpArgs false
section
variable {H : IH} {a : HpA} {σ : Hp}
def Hp.setW (σ : Hp) (i w : Nat) : Hp := { σ with ws := σ.ws.set i w }
theorem u64c_set (l : List Nat) (i w : Nat) : (u64c l).set i (.int .u64 (w : Nat)) = u64c (l.set i w) := by simp [u64c, List.map_set]
theorem HpAt.ne1 (h : HpAt H a σ) : a.p ≠ a.wb := fun e => by have h1 := h.obj; rw [e, h.ws] at h1; simp at h1
theorem HpAt.ne2 (h : HpAt H a σ) : a.p ≠ a.hb := fun e => by have h1 := h.obj; rw [e, h.hd] at h1; simp at h1
theorem HpAt.ne3 (h : HpAt H a σ) {lb l c : Nat} (hl : a.lv = .slice (some ⟨lb, 0, none⟩) l c) : lb ≠ a.wb ∧ lb ≠ a.hb ∧ lb ≠ a.p := by
  rcases h.ly with ⟨h1, _⟩ | ⟨lb', h1, h2⟩
  · rw [h1] at hl; simp at hl
  · rw [h1] at hl
    simp only [Value.slice.injEq, Option.some.injEq, Addr.mk.injEq, and_true] at hl
    obtain ⟨rfl, _⟩ := hl
    refine ⟨fun e => ?_, fun e => ?_, fun e => ?_⟩
    · rw [e, h.ws] at h2; simp at h2
    · rw [e, h.hd] at h2; simp at h2
    · rw [e, h.obj] at h2; simp at h2
theorem HpAt.setW (h : HpAt H a σ) {i w : Nat} (hw : w < 18446744073709551616) : HpAt (H.set a.wb (.cells (u64c (σ.ws.set i w)) 62 false)) a (σ.setW i w) := by
  have hk := h.ok
  refine ⟨?_, ?_, ?_, ?_, ⟨by simpa [Hp.setW] using hk.ws, by simpa [Hp.setW] using hk.hd, fun x hx => ?_, hk.hlt, hk.ly, by simpa [Hp.setW] using hk.top⟩, by simpa using h.lt, h.sep⟩
  · rw [IH.get_set, if_neg h.ne1, h.obj]; simp [Hp.setW]
  · rw [IH.get_set, if_pos rfl]; rfl
  · rw [IH.get_set, if_neg (Ne.symm h.sep), h.hd]; rfl
  · rcases h.ly with h1 | ⟨lb, h1, h2⟩
    · exact .inl h1
    · exact .inr ⟨lb, h1, by rw [IH.get_set, if_neg (h.ne3 h1).1]; exact h2⟩
  · rcases List.mem_or_eq_of_mem_set hx with h1 | h1
    · exact hk.wlt x h1
    · rw [h1]; exact hw
end
end Go.Proofs.YtchlbfmjnhgpgaaGreat.Idl
namespace Go.Proofs.YtchlbfmjnhgpgaaGreat.Idl
open Go
set_option maxHeartbeats 8000000
set_option maxRecDepth 100000
set_option linter.unusedSimpArgs false
section
variable {H : IH} {a : HpA} {σ : Hp}
theorem u64c_put (l : List Nat) (i w : Nat) (h : i < l.length) : List.take i (u64c l) ++ Value.int .u64 (w : Nat) :: List.drop (i + 1) (u64c l) = u64c (l.set i w) := by
  rw [← u64c_set, List.set_eq_take_append_cons_drop, if_pos (by rw [u64c_len]; exact h)]
theorem c_Set (h : HpAt H a σ) (hs : σ.Shapes) (hf : σ.Fit) (s i : Int) (w : Nat) (hw : w < 18446744073709551616) : cal J okAll 173 #[a.ptr, .int .i64 s, .int .i64 i, .int .u64 w] H =
    if σ.has s i false && σ.fits w then some (.ret (.int .i64 0), H.set a.wb (.cells (u64c (σ.ws.set (s.toNat + 1 + i.toNat) w)) 62 false)) else some (.ret (.int .i64 1), H) := by
  rw [cal173 _ _ (by simp)]
  have hh := c_has h hs s i false
  have hfi := c_Fits h w hw
  cases hb : σ.has s i false with
  | true =>
    rw [hb] at hh
    cases hb2 : σ.fits w with
    | true =>
      rw [hb2] at hfi
      obtain ⟨n, k, rfl, rfl, h1, h2, h3⟩ := σ.has_nat hb
      have h4 := hf n h1
      have hk3 : ¬ σ.kind (wShape (σ.w n)) = 3 := by simpa using h2
      rw [if_neg hk3] at h4
      have ht := h.ok.top
      have hlt : n + 1 + k < σ.ws.length := by omega
      have hlt2 : n + 1 + k + 1 ≤ σ.ws.length := by omega
      have hw := h.ok.ws
      have e1 : IntKind.i64.wrap ((n : Int) + 1) = (n : Int) + 1 := by rw [wrapI]; omega
      have e2 : IntKind.i64.wrap ((n : Int) + 1 + k) = (n : Int) + 1 + k := by rw [wrapI]; omega
      have e3 : ((n : Int) + 1 + k).toNat = n + 1 + k := by omega
      have e4 : (0 : Int) ≤ (n : Int) + 1 + k := by omega
      have e5 : (n : Int) + 1 + k < σ.ws.length := by omega
      simp [C173, regsOf, fin, iresult1, hh, hfi, h.obj, h.ws, iindexAddr, e1, e2, e3, e4, e5, hlt, hlt2, istore, Value.cells, plain1, overlay, u64c_len, u64c_put]
    | false =>
      rw [hb2] at hfi
      simp [C173, regsOf, fin, iresult1, hh, hfi]
  | false =>
    rw [hb] at hh
    simp [C173, regsOf, fin, iresult1, hh]
end
end Go.Proofs.YtchlbfmjnhgpgaaGreat.Idl
namespace Go.Proofs.YtchlbfmjnhgpgaaGreat.Idl
open Go
set_option maxHeartbeats 8000000
set_option maxRecDepth 100000
set_option linter.unusedSimpArgs false
section
variable {H : IH} {a : HpA} {σ : Hp}
end
end Go.Proofs.YtchlbfmjnhgpgaaGreat.Idl
namespace Go.Proofs.YtchlbfmjnhgpgaaGreat.Idl
open Go
set_option maxHeartbeats 8000000
set_option maxRecDepth 100000
set_option linter.unusedSimpArgs false
theorem at_set_gt (T : Regs) (d t : Nat) (v : Value) (h : t < d) : Regs.at (Tr.set T d v) t = T.at t := by rw [at_set, if_neg (by omega)]
def Fx (l : List Nat) (H H' : IH) : Prop := H.next ≤ H'.next ∧ ∀ x, x < H.next → x ∉ l → H'.get x = H.get x
theorem Fx.refl (l : List Nat) (H : IH) : Fx l H H := ⟨Nat.le_refl _, fun _ _ _ => rfl⟩
theorem Fx.trans {l l' : List Nat} {H H' H'' : IH} (h : Fx l H H') (h' : Fx l' H' H'') (hs : ∀ x ∈ l', x ∈ l ∨ H.next ≤ x) : Fx l H H'' :=
  ⟨Nat.le_trans h.1 h'.1, fun x hx hn => (h'.2 x (Nat.lt_of_lt_of_le hx h.1) fun hm => (hs x hm).elim hn (by omega)).trans (h.2 x hx hn)⟩
theorem Fx.of_fr {l : List Nat} {H H' : IH} (h : Fr H.next H H') : Fx l H H' := ⟨h.1, fun x hx _ => h.2 x hx⟩
theorem Fx.set {l : List Nat} {H H' : IH} (h : Fx l H H') {b : Nat} (hb : b ∈ l ∨ H.next ≤ b) (x : Blk) : Fx l H (H'.set b x) :=
  ⟨by simpa using h.1, fun y hy hn => by rw [IH.get_set, if_neg (fun e => by subst e; exact hb.elim hn (by omega))]; exact h.2 y hy hn⟩
theorem Fx.push {l : List Nat} {H H' : IH} (h : Fx l H H') (x : Blk) : Fx l H (H'.push x) :=
  ⟨Nat.le_trans h.1 (by simp), fun y hy hn => by rw [IH.get_push_other _ _ _ (by have := h.1; omega)]; exact h.2 y hy hn⟩
theorem Fx.mono {l l' : List Nat} {H H' : IH} (h : Fx l H H') (hs : ∀ x ∈ l, x ∈ l' ∨ H.next ≤ x) : Fx l' H H' := ⟨h.1, fun x hx hn => h.2 x hx fun hm => (hs x hm).elim hn (by omega)⟩
@[simp] theorem u64c_at (l : List Nat) (i : Nat) (h : i < (u64c l).length) : (u64c l)[i] = .int .u64 ((l[i]'(by rw [u64c_len] at h; exact h) : Nat) : Int) := by simp [u64c]
theorem wHead_lt (s n : Nat) : wHead s n < 18446744073709551616 := by unfold wHead; omega
def bitOr (w r : Nat) : Nat := if w / 2 ^ r % 2 = 1 then w else w + 2 ^ r
theorem or_two_pow (w r : Nat) : (w ||| 2 ^ r) = bitOr w r := by
  unfold bitOr
  obtain ⟨h, l, e, hl⟩ : ∃ h l, w = 2 ^ r * h + l ∧ l < 2 ^ r := ⟨w / 2 ^ r, w % 2 ^ r, (Nat.div_add_mod _ _).symm, Nat.mod_lt _ (Nat.two_pow_pos r)⟩
  have hq : w / 2 ^ r = h := by rw [e, Nat.mul_add_div (Nat.two_pow_pos r), Nat.div_eq_of_lt hl]; omega
  have e2 : 2 ^ r * h + l = 2 ^ r * h ||| l := Nat.two_pow_add_eq_or_of_lt hl h
  have e3 : (2 ^ r : Nat) ||| l = 2 ^ r + l := by have := Nat.two_pow_add_eq_or_of_lt hl 1; simp at this; exact this.symm
  obtain ⟨g, hg⟩ : ∃ g, h = 2 * g ∨ h = 2 * g + 1 := ⟨h / 2, by omega⟩
  have e5 : (2 ^ (r + 1) : Nat) = 2 ^ r * 2 := Nat.pow_succ 2 r
  have e4 : 2 ^ r * (2 * g) + (2 ^ r + l) = 2 ^ r * (2 * g) ||| (2 ^ r + l) := by
    have := Nat.two_pow_add_eq_or_of_lt (i := r + 1) (b := 2 ^ r + l) (by omega) g
    rw [e5, Nat.mul_assoc] at this
    exact this
  rw [hq]
  rcases hg with rfl | rfl
  · rw [if_neg (by omega), e, e2, Nat.or_assoc, Nat.or_comm l, e3, ← e4, ← e2]; omega
  · rw [if_pos (by omega), e, Nat.mul_add, Nat.mul_one, Nat.add_assoc, e4, Nat.or_assoc]
    congr 1
    rw [← e3, Nat.or_assoc, Nat.or_comm l, ← Nat.or_assoc, Nat.or_self]
theorem or_bit (w r : Nat) (hw : w < 18446744073709551616) (hr : r < 64) : orI .u64 (w : Int) (IntKind.u64.wrap (2 ^ r)) = ((bitOr w r : Nat) : Int) := by
  have h1 : (BitVec.ofInt 64 (w : Int)).toNat = w := by rw [BitVec.toNat_ofInt]; omega
  have hp : 2 ^ r < 18446744073709551616 := Nat.lt_of_lt_of_le (Nat.pow_lt_pow_right (by omega) hr) (by decide)
  have h2 : (BitVec.ofInt 64 (IntKind.u64.wrap (2 ^ r))).toNat = 2 ^ r := by
    have e : (2 : Int) ^ r = ((2 ^ r : Nat) : Int) := by simp
    rw [BitVec.toNat_ofInt, wrapU, e]
    generalize 2 ^ r = m at hp
    omega
  have hl := Nat.or_lt_two_pow (n := 64) hw hp
  have h3 : (w ||| 2 ^ r) = bitOr w r := or_two_pow w r
  have e : orI .u64 (w : Int) (IntKind.u64.wrap (2 ^ r)) = IntKind.u64.wrap (((BitVec.ofInt 64 (w : Int) ||| BitVec.ofInt 64 (IntKind.u64.wrap (2 ^ r))).toNat : Nat) : Int) := rfl
  rw [e, BitVec.toNat_or, h1, h2, wrapU, h3]
  rw [h3] at hl
  omega
theorem bitOr_lt (w r : Nat) (hw : w < 18446744073709551616) (hr : r < 64) : bitOr w r < 18446744073709551616 := by
  rw [← or_two_pow]
  exact Nat.or_lt_two_pow (n := 64) hw (Nat.lt_of_lt_of_le (Nat.pow_lt_pow_right (by omega) hr) (by decide))
def fill (ws : List Nat) (a : Nat) : Nat → List Nat
  | 0 => ws
  | n + 1 => (fill ws a n).set (a + 1 + n) 1
theorem fill_len (ws : List Nat) (a n : Nat) : (fill ws a n).length = ws.length := by
  induction n with
  | zero => rfl
  | succ n ih => simp [fill, ih]
def Hp.put (σ : Hp) (s n : Nat) : Hp :=
  { σ with
    ws := if σ.kind s = 3 then σ.ws.set σ.top (wHead s n) else fill (σ.ws.set σ.top (wHead s n)) σ.top n
    hd := σ.hd.set (σ.top / 64) (bitOr ((σ.hd[σ.top / 64]?).getD 0) (σ.top % 64))
    top := σ.top + (σ.need s n).1.toNat }
section
variable {H : IH} {a : HpA} {σ : Hp}
theorem loop209 (h0 : HpAt H a σ) (at_ n : Nat) (hn : at_ + 1 + n ≤ σ.ws.length) (K : Nat → Value) (k0 : K 0 = a.ptr) (k10 : K 10 = .int .i64 (at_ : Int)) : ∀ (d i : Nat) (T : Regs) (H' : IH), i + d = n →
    HpAt H' a { σ with ws := fill σ.ws at_ i } → Fx [a.wb] H H' →
    (∀ t, t < 11 → T.at t = K t) → T.at 56 = .int .i64 (n : Int) → T.at 57 = .int .i64 (i : Int) →
    ∃ T' H'', run J okAll (.loop L209_0) T H' = some (.exit 0, T', H'') ∧ HpAt H'' a { σ with ws := fill σ.ws at_ n } ∧ Fx [a.wb] H H'' ∧ (∀ t, t < 11 → T'.at t = K t) := by
  intro d
  induction d with
  | zero =>
    intro i T H' hd hh hf hK t56 t57
    have t0 := (hK 0 (by omega)).trans k0
    have t10 := (hK 10 (by omega)).trans k10
    have hi : i = n := by omega
    subst hi
    rw [r_loop]
    simp [L209_0, t0, t10, t56, t57]
    exact ⟨_, _, ⟨rfl, rfl⟩, hh, hf, fun t ht => by rw [at_set, if_neg (by omega)]; exact hK t ht⟩
  | succ d ih =>
    intro i T H' hd hh hf hK t56 t57
    have t0 := (hK 0 (by omega)).trans k0
    have t10 := (hK 10 (by omega)).trans k10
    have hlt : i < n := by omega
    have hw : IntKind.i64.wrap ((i : Int) + 1) = ((i + 1 : Nat) : Int) := by rw [wrap64 _ (by have := h0.ok.ws; omega) (by have := h0.ok.ws; omega)]; simp
    have hk := h0.ok.ws
    have hlen := fill_len σ.ws at_ i
    have e1 : IntKind.i64.wrap ((at_ : Int) + 1) = (at_ : Int) + 1 := by rw [wrapI]; omega
    have e2 : IntKind.i64.wrap ((at_ : Int) + 1 + i) = (at_ : Int) + 1 + i := by rw [wrapI]; omega
    have e3 : ((at_ : Int) + 1 + i).toNat = at_ + 1 + i := by omega
    have e4 : (0 : Int) ≤ (at_ : Int) + 1 + i := by omega
    have e5 : (at_ : Int) + 1 + i < σ.ws.length := by omega
    have hlt2 : at_ + 1 + i < σ.ws.length := by omega
    have hi := c_Imm H' 0 (by omega)
    have hi1 : ((wImm 0 : Nat) : Int) = 1 := rfl
    have hlt3 : at_ + 1 + i + 1 ≤ σ.ws.length := by omega
    have e6 : List.take (at_ + 1 + i) (u64c (fill σ.ws at_ i)) ++ Value.int .u64 1 :: List.drop (at_ + 1 + i + 1) (u64c (fill σ.ws at_ i)) = u64c (fill σ.ws at_ (i + 1)) := u64c_put _ _ 1 (by rw [hlen]; omega)
    rw [r_loop]
    simp [L209_0, t0, t10, t56, t57, hlt, hh.obj, hh.ws, iindexAddr, e1, e2, e3, e4, e5, hlen, hlt2, hi, hi1, istore, Value.cells, plain1, overlay, u64c_len, hlt3, e6, hw]
    exact ih (i + 1) _ _ (by omega) (hh.setW (i := at_ + 1 + i) (w := 1) (by decide)) (hf.set (.inl (by simp)) _) (fun t ht => by simp (disch := omega) only [at_set_gt]; exact hK t ht) (by simp [t56]) (by simp)
theorem c_Alloc (h : HpAt H a σ) (s n k : Nat) (hn : n ≤ 65536) (hk : σ.need s n = ((k : Int), 0)) (hr : k ≤ σ.ws.length - σ.top) (hk1 : 1 ≤ k) (hsl : s < σ.ly.length) (hkk : σ.kind s ≠ 3 → k = 1 + n) :
    ∃ H', cal J okAll 209 #[a.ptr, .int .i64 s, .int .i64 n] H = some (.ret (.tuple #[.int .i64 (σ.top : Int), .int .i64 0]), H') ∧ HpAt H' a (σ.put s n) ∧ Fx [a.p, a.wb, a.hb] H H' := by
  rw [cal209 _ _ (by simp)]
  obtain ⟨H1, f1, e1⟩ := c_Need h s n (by omega)
  rw [hk] at e1
  have h1 := h.fr h.lt f1
  have ho := h1.obj
  have hok := h.ok
  have hH := c_Head H1 s n (by have := hok.ly; omega) (by omega)
  have w1 : IntKind.i64.wrap ((σ.ws.length : Int) - σ.top) = (σ.ws.length : Int) - σ.top := by rw [wrapI]; have := hok.ws; have := hok.top; omega
  have d1 : decide ((σ.ws.length : Int) - σ.top < k) = false := decide_eq_false (by have := hok.top; omega)
  have htl : σ.top < σ.ws.length := by have := hok.top; omega
  have htl1 : σ.top + 1 ≤ σ.ws.length := htl
  obtain ⟨lb0, c, el, hl⟩ := h1.lyS
  obtain ⟨lb, rfl, hg⟩ := hl (by omega)
  rw [el] at ho
  have hkd := (lyc_get σ.ly s hsl).1
  rw [Nat.mul_comm, σ.kind_eq _ hsl] at hkd
  have hne := h1.ne3 el
  have hsep := h1.sep
  have hn1 := h1.ne1
  have hn2 := h1.ne2
  obtain ⟨q, hq⟩ : ∃ q, q = σ.top / 64 := ⟨_, rfl⟩
  obtain ⟨r, hr⟩ : ∃ r, r = σ.top % 64 := ⟨_, rfl⟩
  have hws := hok.ws
  have hhd := hok.hd
  have hqlt : q < σ.hd.length := by omega
  have hqlt1 : q + 1 ≤ σ.hd.length := by omega
  have e2 : IntKind.i64.wrap ((σ.top : Int) / 64) = (q : Int) := by rw [wrapI]; omega
  have e3 : (σ.top : Int) % 64 = (r : Int) := by omega
  have e3' : (σ.top : Int).tmod 64 = (r : Int) := by rw [Int.tmod_eq_emod_of_nonneg (by omega)]; omega
  have hm : min r 64 = r := by omega
  have hw0 := hok.hlt _ (List.getElem_mem hqlt)
  have hor := or_bit σ.hd[q] r hw0 (by omega)
  have hcell := u64c_get σ.hd q hqlt
  have e4 : IntKind.i64.wrap ((σ.top : Int) + k) = (σ.top : Int) + k := by rw [wrapI]; omega
  have hsep' := Ne.symm hsep
  have hn1' := Ne.symm hn1
  have hn2' := Ne.symm hn2
  have hput : σ.put s n = { σ with ws := if σ.kind s = 3 then σ.ws.set σ.top (wHead s n) else fill (σ.ws.set σ.top (wHead s n)) σ.top n, hd := σ.hd.set q (bitOr σ.hd[q] r), top := σ.top + k } := by
    unfold Hp.put
    rw [hk, ← hq, ← hr]
    simp [List.getElem?_eq_getElem hqlt]
  have hfin : ∀ (ws' : List Nat) (H2 : IH), ws'.length = σ.ws.length → HpAt H2 a { σ with ws := ws' } → HpAt ((H2.set a.hb (.cells (u64c (σ.hd.set q (bitOr σ.hd[q] r))) 62 false)).set a.p (.cells [.slice (some ⟨a.wb, 0, none⟩) σ.ws.length σ.ws.length, .slice (some ⟨a.hb, 0, none⟩) σ.hd.length σ.hd.length, a.lv, .int .i64 ((σ.top : Int) + k)] 171 false)) a { σ with ws := ws', hd := σ.hd.set q (bitOr σ.hd[q] r), top := σ.top + k } := by
    intro ws' H2 hl h2
    have hk2 := h2.ok
    refine ⟨?_, ?_, ?_, ?_, ⟨hk2.ws, by simpa using hk2.hd, hk2.wlt, fun x hx => ?_, hk2.ly, by simp only [hl]; omega⟩, by simpa using h2.lt, h2.sep⟩
    · rw [IH.get_set, if_pos rfl]; simp [hl]
    · rw [IH.get_set, if_neg (Ne.symm hn1), IH.get_set, if_neg hsep]; exact h2.ws
    · rw [IH.get_set, if_neg (Ne.symm hn2), IH.get_set, if_pos rfl]
    · rcases h2.ly with h3 | ⟨lb, h3, h4⟩
      · exact .inl h3
      · exact .inr ⟨lb, h3, by rw [IH.get_set, if_neg (h2.ne3 h3).2.2, IH.get_set, if_neg (h2.ne3 h3).2.1]; exact h4⟩
    · rcases List.mem_or_eq_of_mem_set hx with h5 | h5
      · exact hk2.hlt x h5
      · rw [h5]; exact bitOr_lt _ _ hw0 (by omega)
  rw [hput]
  by_cases k3 : σ.kind s = 3
  · have k3d : decide (σ.kind s = 3) = true := decide_eq_true k3
    simp [C209, regsOf, fin, iresult1, e1, ho, h1.ws, h1.hd, hH, w1, d1, iindexAddr, istore, Value.cells, plain1, overlay, u64c_len, u64c_put, htl, htl1, IH.get_set, hg, hkd, k3, hne, hn1, hn2, hsl, e2, e3, e3', e4, hm, hqlt, hqlt1, hcell, hor, hsep, hsep', hn1', hn2']
    have h3 := hfin (σ.ws.set σ.top (wHead s n)) _ (by simp) (h1.setW (i := σ.top) (wHead_lt s n))
    rw [el] at h3
    exact ⟨h3, ((((Fx.of_fr f1).set (.inl (by simp)) _).set (.inl (by simp)) _).set (.inl (by simp)) _)⟩
  · have k3d : decide (σ.kind s = 3) = false := decide_eq_false k3
    have hkn := hkk k3
    simp [C209, regsOf, fin, iresult1, e1, ho, h1.ws, h1.hd, hH, w1, d1, iindexAddr, istore, Value.cells, plain1, overlay, u64c_len, u64c_put, htl, htl1, IH.get_set, hg, hkd, k3, hne, hn1, hn2, hsl]
    generalize hX : run J okAll (.loop L209_0) _ _ = X
    obtain ⟨T1, hT, a0, a10, a56, a57, a8⟩ : ∃ T1, run J okAll (.loop L209_0) T1 (H1.set a.wb (.cells (u64c (σ.ws.set σ.top (wHead s n))) 62 false)) = X ∧ T1.at 0 = a.ptr ∧ T1.at 10 = .int .i64 (σ.top : Int) ∧ T1.at 56 = .int .i64 (n : Int) ∧ T1.at 57 = .int .i64 ((0 : Nat) : Int) ∧ T1.at 8 = .int .i64 (k : Int) := ⟨_, hX, by simp, by simp, by simp, by simp, by simp⟩
    have hs1 := h1.setW (i := σ.top) (wHead_lt s n)
    obtain ⟨T', H2, q1, q2, q3, q4⟩ := loop209 hs1 σ.top n (by simp [Hp.setW]; omega) (fun t => T1.at t) a0 a10 n 0 T1 _ (by omega) hs1 (Fx.refl _ _) (fun t ht => rfl) a56 a57
    have hl2 : (fill (σ.ws.set σ.top (wHead s n)) σ.top n).length = σ.ws.length := by rw [fill_len]; simp
    have q2' : HpAt H2 a { σ with ws := fill (σ.ws.set σ.top (wHead s n)) σ.top n } := q2
    have ho2 := q2'.obj
    have hh2 := q2'.hd
    simp only [hl2] at ho2
    rw [q1] at hT
    subst hT
    have b0 := (q4 0 (by omega)).trans a0
    have b8 := (q4 8 (by omega)).trans a8
    have b10 := (q4 10 (by omega)).trans a10
    simp [regsOf, fin, iresult1, b0, b8, b10, ho2, hh2, iindexAddr, istore, Value.cells, plain1, overlay, u64c_len, u64c_put, IH.get_set, e2, e3, e3', e4, hm, hqlt, hqlt1, hor, hsep, hsep', hn1', hn2', hn1, hn2]
    exact ⟨hfin _ _ hl2 q2', (((((Fx.of_fr f1).set (.inl (by simp)) _).trans q3 (by simp)).set (.inl (by simp)) _).set (.inl (by simp)) _)⟩
end
end Go.Proofs.YtchlbfmjnhgpgaaGreat.Idl
namespace Go.Proofs.YtchlbfmjnhgpgaaGreat.Idl
open Go
set_option maxRecDepth 100000
set_option linter.unusedSimpArgs false
structure ST (st e : TypeId) (k by_ : Nat) : Prop where
  und : J.und st = some (.slice e)
  size : J.size e = some k
  bytes : J.bytes e = some by_
  zero : ∃ z, J.zero e = some z ∧ z.cells.size = k
  pos : 0 < by_
  big : by_ ≤ 1000
section
variable {H : IH} {st e : TypeId} {k by_ : Nat}
theorem app_nil (hT : ST st e k by_) {xb o m c : Nat} {new : List Value} (h1 : icells H ⟨xb, o, none⟩ (m * k) = some new) (h2 : new.length = m * k) (hm : 0 < m) (hb : m ≤ 20000000) :
    iappend J #[st, st] (.slice none 0 0) (.slice (some ⟨xb, o, none⟩) m c) H = some (.slice (some ⟨H.next, 0, none⟩) m capU, H.push (.cells new e false)) := by
  obtain ⟨z, hz, hzk⟩ := hT.zero
  have e1 : m * (3 * by_) ≤ 2 ^ 47 := by
    have : m * (3 * by_) ≤ 20000000 * 3000 := Nat.mul_le_mul hb (by have := hT.big; omega)
    omega
  have e2 : by_ ≤ 2 ^ 30 := by have := hT.big; omega
  have e3 : m ≠ 0 := by omega
  simp only [iappend, List.getElem?_toArray, List.getElem?_cons_zero, List.getElem?_cons_succ, hT.und, hT.size, hT.bytes, hz, ilenOf, ifirst, e3, if_false, Nat.zero_add, e1, hT.pos, e2, hzk, true_and, and_self, if_true, h1, h2]
theorem app_some (hT : ST st e k by_) {xb o m c b len : Nat} {new cs : List Value} (h1 : icells H ⟨xb, o, none⟩ (m * k) = some new) (h2 : new.length = m * k) (hm : 0 < m) (hb : len + m ≤ 20000000)
    (hg : H.get b = some (.cells cs e false)) (hl : len * k ≤ cs.length) (hp : new.all plain1 = true) :
    iappend J #[st, st] (.slice (some ⟨b, 0, none⟩) len capU) (.slice (some ⟨xb, o, none⟩) m c) H = some (.slice (some ⟨H.next, 0, none⟩) (len + m) capU, (H.set b .dead).push (.cells (cs.take (len * k) ++ new) e false)) := by
  obtain ⟨z, hz, hzk⟩ := hT.zero
  have e1 : (len + m) * (3 * by_) ≤ 2 ^ 47 := by
    have : (len + m) * (3 * by_) ≤ 20000000 * 3000 := Nat.mul_le_mul hb (by have := hT.big; omega)
    omega
  have e2 : by_ ≤ 2 ^ 30 := by have := hT.big; omega
  have e3 : m ≠ 0 := by omega
  have e4 : ((0 : Nat) % k != 0) = false := by simp
  simp only [iappend, List.getElem?_toArray, List.getElem?_cons_zero, List.getElem?_cons_succ, hT.und, hT.size, hT.bytes, hz, ilenOf, ifirst, e3, if_false, e1, hT.pos, e2, hzk, true_and, and_self, if_true, h1, h2, hg, hp, Nat.zero_add, hl, e4, Bool.or_false, Bool.false_eq_true, List.drop_zero]
theorem app_zero (hT : ST st e k by_) {s : Value} {b : Option Addr} {len c : Nat} (hs : s = .slice b len c) {xb : Option Addr} {c' : Nat} :
    iappend J #[st, st] s (.slice xb 0 c') H = some (s, H) := by
  obtain ⟨z, hz, hzk⟩ := hT.zero
  subst hs
  simp only [iappend, List.getElem?_toArray, List.getElem?_cons_zero, List.getElem?_cons_succ, hT.und, hT.size, hT.bytes, hz, ilenOf, if_true]
end
theorem st_ly : ST 125 127 2 16 := ⟨by simp, by simp, by simp, ⟨_, by simp; rfl, by simp [Value.cells]⟩, by decide, by decide⟩
theorem st_u64 : ST 136 62 1 8 := ⟨by simp, by simp, by simp, ⟨_, by simp; rfl, by simp [Value.cells]⟩, by decide, by decide⟩
theorem st_byte : ST 34 5 1 1 := ⟨by simp, by simp, by simp, ⟨_, by simp; rfl, by simp [Value.cells]⟩, by decide, by decide⟩
theorem st_frame : ST 82 131 1 8 := ⟨by simp, by simp, by simp, ⟨_, by simp; rfl, by simp [Value.cells]⟩, by decide, by decide⟩
theorem mk_u64 (H : IH) (n : Nat) (hn : n ≤ 1000000) : imakeSlice J 136 (.int .i64 (n : Int)) (.int .i64 (n : Int)) H = some (.slice (some ⟨H.next, 0, none⟩) n n, H.push (.cells (u64c (List.replicate n 0)) 62 false)) := by
  have h1 : (n : Int) < 9223372036854775808 := by omega
  have h2 : 8 * (n : Int) ≤ 281474976710656 := by omega
  have h3 : (0 : Int) ≤ n := by omega
  have e : (List.range n).map (fun x => (Value.int IntKind.u64 0).cells[x % (Value.int IntKind.u64 0).cells.size]!) = u64c (List.replicate n 0) := by
    have : ∀ x : Nat, (Value.int IntKind.u64 0).cells[x % (Value.int IntKind.u64 0).cells.size]! = .int .u64 0 := by
      intro x
      have : x % (Value.int IntKind.u64 0).cells.size = 0 := Nat.mod_one x
      rw [this]; rfl
    simp only [this, u64c, List.map_replicate]
    apply List.ext_getElem <;> simp
  simp [imakeSlice, h1, h2, e]
end Go.Proofs.YtchlbfmjnhgpgaaGreat.Idl
namespace Go.Proofs.YtchlbfmjnhgpgaaGreat.Idl
open Go
set_option maxHeartbeats 8000000
set_option maxRecDepth 100000
set_option linter.unusedSimpArgs false
section
variable {H : IH}
def LyAt (H : IH) (v : Value) (l : List (Int × Int)) : Prop := ∃ b c, v = .slice b l.length c ∧ (0 < l.length → ∃ lb, b = some ⟨lb, 0, none⟩ ∧ lb < H.next ∧ H.get lb = some (.cells (lyc l) 127 false))
def lyOk (p : Int × Int) : Bool := !(decide (p.1 < 1) || decide (3 < p.1) || decide (p.2 < 0) || decide (65536 < p.2))
theorem loop64 (v : Value) (l : List (Int × Int)) (hl : LyAt H v l) (hlen : l.length ≤ 512) (K : Nat → Value) : ∀ (d i : Nat) (T : Regs) (H' : IH), i + d = l.length → Fr H.next H H' →
    (∀ t, t < 4 → T.at t = K t) → T.at 17 = v → T.at 18 = .int .i64 (l.length : Int) → T.at 19 = .int .i64 (i : Int) →
    ∃ T' H'', Fr H.next H H'' ∧ if (l.drop i).all lyOk then run J okAll (.loop L64_0) T H' = some (.exit 0, T', H'') ∧ (∀ t, t < 4 → T'.at t = K t)
      else run J okAll (.loop L64_0) T H' = some (.ret, T', H'') ∧ T'.at 4 = .pointer none ∧ T'.at 5 = .int .i64 1 := by
  intro d
  induction d with
  | zero =>
    intro i T H' hd hf hK t17 t18 t19
    have hi : i = l.length := by omega
    subst hi
    rw [r_loop]
    simp [L64_0, t17, t18, t19]
    exact ⟨_, _, hf, ⟨rfl, rfl⟩, fun t ht => by simp (disch := omega) only [at_set_gt]; exact hK t ht⟩
  | succ d ih =>
    intro i T H' hd hf hK t17 t18 t19
    have hlt : i < l.length := by omega
    obtain ⟨b, c, rfl, hb⟩ := hl
    obtain ⟨lb, rfl, hlb, hg0⟩ := hb (by omega)
    have hg : H'.get lb = _ := (hf.2 lb hlb).trans hg0
    have hc := lyc_get l i hlt
    have hcs : cellsOf (some (.cells (lyc l) 127 false)) (i * 2) 2 = some [.int .i64 l[i].1, .int .i64 l[i].2] := by
      rw [cellsOf_cells, if_pos (by rw [lyc_len]; omega)]
      congr 1
      apply List.ext_getElem?
      intro j
      rw [List.getElem?_take, List.getElem?_drop, Nat.mul_comm]
      match j with
      | 0 => simpa using hc.1
      | 1 => simpa using hc.2
      | j + 2 => simp; omega
    have hdr : (l.drop i).all lyOk = (lyOk l[i] && (l.drop (i + 1)).all lyOk) := by rw [List.drop_eq_getElem_cons hlt, List.all_cons]
    rw [hdr, r_loop]
    have hF := (hf.push (by have := hf.1; omega) (.cells [.int .i64 0, .int .i64 0] 127 false)).set (b := H'.next) (by have := hf.1; omega) (.cells [.int .i64 l[i].1, .int .i64 l[i].2] 127 false)
    have hw : IntKind.i64.wrap ((i : Int) + 1) = ((i + 1 : Nat) : Int) := by rw [wrap64 _ (by omega) (by omega)]; simp
    have hlo : lyOk l[i] = !(decide (l[i].1 < 1) || decide (3 < l[i].1) || decide (l[i].2 < 0) || decide (65536 < l[i].2)) := rfl
    rw [hlo]
    generalize l[i] = p at *
    obtain ⟨k, N⟩ := p
    dsimp only at *
    cases b1 : decide (k < 1) with
    | true =>
      simp [L64_0, t17, t18, t19, hlt, iindexAddr, hg, hcs, inew, istore, Value.cells, plain1, overlay, IH.get_push, IH.get_set, loadT_agg, b1, hw]
      exact ⟨_, _, hF, ⟨rfl, rfl⟩, by simp, by simp⟩
    | false =>
      cases b2 : decide (3 < k) with
      | true =>
        simp [L64_0, t17, t18, t19, hlt, iindexAddr, hg, hcs, inew, istore, Value.cells, plain1, overlay, IH.get_push, IH.get_set, loadT_agg, b1, b2, hw]
        exact ⟨_, _, hF, ⟨rfl, rfl⟩, by simp, by simp⟩
      | false =>
        cases b3 : decide (N < 0) with
        | true =>
          simp [L64_0, t17, t18, t19, hlt, iindexAddr, hg, hcs, inew, istore, Value.cells, plain1, overlay, IH.get_push, IH.get_set, loadT_agg, b1, b2, b3, hw]
          exact ⟨_, _, hF, ⟨rfl, rfl⟩, by simp, by simp⟩
        | false =>
          cases b4 : decide (65536 < N) with
          | true =>
            simp [L64_0, t17, t18, t19, hlt, iindexAddr, hg, hcs, inew, istore, Value.cells, plain1, overlay, IH.get_push, IH.get_set, loadT_agg, b1, b2, b3, b4, hw]
            exact ⟨_, _, hF, ⟨rfl, rfl⟩, by simp, by simp⟩
          | false =>
            simp [L64_0, t17, t18, t19, hlt, iindexAddr, hg, hcs, inew, istore, Value.cells, plain1, overlay, IH.get_push, IH.get_set, loadT_agg, b1, b2, b3, b4, hw]
            exact ih (i + 1) _ _ (by omega) hF (fun t ht => by simp (disch := omega) only [at_set_gt]; exact hK t ht) (by simp [t17]) (by simp [t18]) (by simp)
def Hp.new (n : Nat) (l : List (Int × Int)) : Hp := ⟨List.replicate n 0, List.replicate (n / 64 + 1) 0, l, 0⟩
theorem bl_heap (a b d : Option Addr) (l m n l' m' n' : Nat) : ibuild J 171 [(0, .slice a l l'), (1, .slice b m m'), (2, .slice d n n')] = some (.agg #[.slice a l l', .slice b m m', .slice d n n', .int .i64 0]) := by kernel_rfl
theorem c_New_bad (n : Nat) (hn : n ≤ 65536) (v : Value) (l : List (Int × Int)) (hl : LyAt H v l) (hlen : l.length ≤ 512) (hall : ¬ l.all lyOk = true) :
    ∃ H', cal J okAll 64 #[.int .i64 n, v] H = some (.ret (.tuple #[.pointer none, .int .i64 1]), H') ∧ Fr H.next H H' := by
  rw [cal64 _ _ (by simp)]
  have h1 : decide ((512 : Int) < l.length) = false := decide_eq_false (by omega)
  have h2 : decide ((65536 : Int) < n) = false := decide_eq_false (by omega)
  have h3 : decide ((n : Int) < 0) = false := decide_eq_false (by omega)
  obtain ⟨b, c, rfl, hb⟩ := hl
  simp [C64, regsOf, fin, iresult1, h1, h2, h3]
  generalize hX : run J okAll (.loop L64_0) _ _ = X
  obtain ⟨T1, hT, a0, a1, a17, a18, a19⟩ : ∃ T1, run J okAll (.loop L64_0) T1 H = X ∧ T1.at 0 = .int .i64 (n : Int) ∧ T1.at 1 = .slice b l.length c ∧ T1.at 17 = .slice b l.length c ∧ T1.at 18 = .int .i64 (l.length : Int) ∧ T1.at 19 = .int .i64 ((0 : Nat) : Int) := ⟨_, hX, by simp, by simp, by simp, by simp, by simp⟩
  obtain ⟨T2, H2, f2, hr⟩ := loop64 _ l ⟨b, c, rfl, hb⟩ hlen (fun t => T1.at t) l.length 0 T1 H (by omega) (Fr.refl _ _) (fun t ht => rfl) a17 a18 a19
  rw [List.drop_zero] at hr
  rw [if_neg hall] at hr
  obtain ⟨hr1, hr2, hr3⟩ := hr
  rw [hT] at hr1
  subst hr1
  simp [regsOf, fin, iresult1, hr2, hr3]
  exact f2
theorem c_New (n : Nat) (hn : n ≤ 65536) (v : Value) (l : List (Int × Int)) (hl : LyAt H v l) (hlen : l.length ≤ 512) (hall : l.all lyOk = true) :
    ∃ H' a, cal J okAll 64 #[.int .i64 n, v] H = some (.ret (.tuple #[a.ptr, .int .i64 0]), H') ∧ Fr H.next H H' ∧ HpAt H' a (.new n l) ∧ H.next ≤ a.p ∧ H.next ≤ a.wb ∧ H.next ≤ a.hb ∧ (∀ lb l c, a.lv = .slice (some ⟨lb, 0, none⟩) l c → H.next ≤ lb) := by
  rw [cal64 _ _ (by simp)]
  have h1 : decide ((512 : Int) < l.length) = false := decide_eq_false (by omega)
  have h2 : decide ((65536 : Int) < n) = false := decide_eq_false (by omega)
  have h3 : decide ((n : Int) < 0) = false := decide_eq_false (by omega)
  obtain ⟨b, c, rfl, hb⟩ := hl
  simp [C64, regsOf, fin, iresult1, h1, h2, h3]
  generalize hX : run J okAll (.loop L64_0) _ _ = X
  obtain ⟨T1, hT, a0, a1, a17, a18, a19⟩ : ∃ T1, run J okAll (.loop L64_0) T1 H = X ∧ T1.at 0 = .int .i64 (n : Int) ∧ T1.at 1 = .slice b l.length c ∧ T1.at 17 = .slice b l.length c ∧ T1.at 18 = .int .i64 (l.length : Int) ∧ T1.at 19 = .int .i64 ((0 : Nat) : Int) := ⟨_, hX, by simp, by simp, by simp, by simp, by simp⟩
  obtain ⟨T2, H2, f2, hr⟩ := loop64 _ l ⟨b, c, rfl, hb⟩ hlen (fun t => T1.at t) l.length 0 T1 H (by omega) (Fr.refl _ _) (fun t ht => rfl) a17 a18 a19
  rw [List.drop_zero] at hr
  rw [if_pos hall] at hr
  obtain ⟨hr1, hr2⟩ := hr
  rw [hT] at hr1
  subst hr1
  have b0 := (hr2 0 (by omega)).trans a0
  have b1 := (hr2 1 (by omega)).trans a1
  obtain ⟨q, hq⟩ : ∃ q, q = n / 64 := ⟨_, rfl⟩
  have w1 : IntKind.i64.wrap ((n : Int) / 64) = (q : Int) := by rw [wrapI]; omega
  have w2 : IntKind.i64.wrap ((q : Int) + 1) = ((q + 1 : Nat) : Int) := by rw [wrapI]; omega
  have hN : Hp.new n l = ⟨List.replicate n 0, List.replicate (q + 1) 0, l, 0⟩ := by rw [hq]; rfl
  have hok : (Hp.new n l).Ok := ⟨by simp [Hp.new]; omega, by simp [Hp.new], fun w hw => by rw [List.eq_of_mem_replicate hw]; decide, fun w hw => by rw [List.eq_of_mem_replicate hw]; decide, by simp [Hp.new]; omega, Nat.zero_le _⟩
  rw [hN] at hok
  rw [hN]
  have hn2 := f2.1
  rcases Nat.eq_zero_or_pos l.length with hz | hp
  · have ap := app_zero st_ly (s := .slice none 0 0) rfl (H := H2) (xb := b) (c' := c)
    have m1 := mk_u64 H2 n (by omega)
    have m2 := mk_u64 (H2.push (.cells (u64c (List.replicate n 0)) 62 false)) (q + 1) (by omega)
    simp only [Int.natCast_add, Int.natCast_one, Int.cast_ofNat_Int] at m2
    rw [hz] at b1
    simp [regsOf, fin, iresult1, b0, b1, w1, w2, ap, m1, m2, iparts, bl_heap, inew, Value.cells]
    refine ⟨_, ⟨H2.next + 1 + 1, H2.next, H2.next + 1, .slice none 0 0⟩, ⟨rfl, rfl⟩, ?_, ⟨?_, ?_, ?_, .inl ⟨rfl, List.eq_nil_of_length_eq_zero hz⟩, hok, ⟨by simp, by simp <;> omega, by simp <;> omega, fun lb l c e => by simp at e⟩, by simp⟩, by simp <;> omega, by simp <;> omega, by simp <;> omega, fun lb l c e => by simp at e⟩
    · exact ((f2.push hn2 _).push (by simp <;> omega) _).push (by simp <;> omega) _
    · simp [IH.get_push] <;> omega
    · simp [IH.get_push] <;> omega
    · simp [IH.get_push] <;> omega
  · obtain ⟨lb, rfl, hlb, hg0⟩ := hb hp
    have ap := app_nil st_ly (H := H2) (xb := lb) (o := 0) (m := l.length) (c := c) (new := lyc l) (by have := lyc_len l; simp [(f2.2 lb hlb).trans hg0, this, Nat.mul_comm]; rw [List.take_of_length_le (by omega)]) (by rw [lyc_len, Nat.mul_comm]) (by omega) (by omega)
    have m1 := mk_u64 (H2.push (.cells (lyc l) 127 false)) n (by omega)
    have m2 := mk_u64 ((H2.push (.cells (lyc l) 127 false)).push (.cells (u64c (List.replicate n 0)) 62 false)) (q + 1) (by omega)
    simp only [Int.natCast_add, Int.natCast_one, Int.cast_ofNat_Int] at m2
    simp [regsOf, fin, iresult1, b0, b1, w1, w2, ap, m1, m2, iparts, bl_heap, inew, Value.cells]
    refine ⟨_, ⟨H2.next + 1 + 1 + 1, H2.next + 1, H2.next + 1 + 1, .slice (some ⟨H2.next, 0, none⟩) l.length capU⟩, ⟨rfl, rfl⟩, ?_, ⟨?_, ?_, ?_, .inr ⟨_, rfl, ?_⟩, hok, ⟨by simp, by simp <;> omega, by simp <;> omega, fun lb l c e => by simp at e; simp <;> omega⟩, by simp⟩, by simp <;> omega, by simp <;> omega, by simp <;> omega, fun lb l c e => by simp at e; omega⟩
    · exact (((f2.push hn2 _).push (by simp <;> omega) _).push (by simp <;> omega) _).push (by simp <;> omega) _
    · simp [IH.get_push] <;> omega
    · simp [IH.get_push] <;> omega
    · simp [IH.get_push] <;> omega
    · rw [IH.get_push_other _ _ _ (by simp <;> omega), IH.get_push_other _ _ _ (by simp <;> omega), IH.get_push_other _ _ _ (by simp <;> omega), IH.get_push_same]
end
end Go.Proofs.YtchlbfmjnhgpgaaGreat.Idl
namespace Go.Proofs.YtchlbfmjnhgpgaaGreat.Idl
open Go
set_option linter.unusedSimpArgs false
structure Ins where
  op : Int
  d : Int
  a : Int
  b : Int
  c : Int
  n : Int
  l : List Int
  m : List Int
  live : List Int
structure Bl where
  inn : List Int
  code : List Ins
structure Fn where
  params : List Int
  result : Int
  slots : Int
  blocks : List Bl
structure Shp where
  kind : Int
  fields : List Int
  name : ByteArray
structure Typ where
  imm : Bool
  shapes : List Int
structure Img where
  types : List Typ
  shapes : List Shp
  strings : List ByteArray
  names : List ByteArray
  funcs : List Fn
  main : Int
  exn : Int
structure Frm where
  fn : Fn
  block : Int
  at_ : Int
  slots : List Nat
structure Mst where
  fuel : Int
  heap : Int
  stack : Int
  input : List Nat
  collect : List Bool
  hp : Hp
  frames : List Frm
  words : Int
  inn : Nat
  made : Nat
  out : List Nat
  exn : ByteArray
  steps : Nat
  swept : Nat
def VM (α : Type) : Type := Mst → Option (Except Int α × Mst)
namespace VM
variable {α β : Type}
def ret (a : α) : VM α := fun σ => some (.ok a, σ)
def bind (x : VM α) (f : α → VM β) : VM β := fun σ =>
  match x σ with
  | some (.ok a, σ') => f a σ'
  | some (.error k, σ') => some (.error k, σ')
  | none => none
def upd (f : Mst → Mst) : VM Unit := fun σ => some (.ok (), f σ)
def get (f : Mst → α) : VM α := fun σ => some (.ok (f σ), σ)
def of (f : Mst → Option α) : VM α := fun σ => (f σ).map fun a => (.ok a, σ)
def fail : VM α := fun _ => none
instance : Monad VM where
  pure := VM.ret
  bind := VM.bind
end VM
def vEnd {α : Type} (k : Int) : VM α := fun σ => some (.error k, σ)
def vMust (b : Bool) : VM Unit := if b then VM.ret () else vEnd 6
def vTop : VM Frm := VM.of fun σ => σ.frames.head?
def Mst.setTop (σ : Mst) (f : Frm) : Mst := { σ with frames := f :: σ.frames.tail }
def vPop : VM Unit := do
  let f ← vTop
  VM.upd fun σ => { σ with words := σ.words - (f.fn.slots + 2), frames := σ.frames.tail }
def vSlot (i : Int) : VM Nat := do
  let f ← vTop
  vMust (decide (0 ≤ i) && decide (i < f.slots.length))
  VM.ret i.toNat
def vGet (i : Int) : VM Nat := do
  let k ← vSlot i
  let f ← vTop
  VM.ret ((f.slots[k]?).getD 0)
def vSet (i : Int) (w : Nat) : VM Unit := do
  let k ← vSlot i
  VM.upd fun σ => match σ.frames with
    | f :: fs => { σ with frames := { f with slots := f.slots.set k w } :: fs }
    | [] => σ
def vSetInt (i n : Int) : VM Unit := vSet i (wImm n)
def vNumber (i : Int) : VM Int := do
  let w ← vGet i
  vMust (wIsImm w)
  VM.ret (wInt w)
def vJump (b : Int) : VM Unit := VM.upd fun σ => match σ.frames with
    | f :: fs => { σ with frames := { f with block := b, at_ := 0 } :: fs }
    | [] => σ
end Go.Proofs.YtchlbfmjnhgpgaaGreat.Idl
namespace Go.Proofs.YtchlbfmjnhgpgaaGreat.Idl
open Go
set_option maxRecDepth 100000
set_option linter.unusedSimpArgs false
def LAt {α : Type} (lo k : Nat) (P : Nat → Nat → α → Prop) (v : Value) (l : List α) : Prop :=
  ∃ a c, v = .slice a l.length c ∧ (0 < l.length → ∃ b o, a = some ⟨b, o, none⟩ ∧ b < lo ∧ ∀ i (h : i < l.length), P b (o + i * k) l[i])
section
variable (H : IH) (lo : Nat)
def CellAt {α : Type} (e : TypeId) (V : α → Value) (b off : Nat) (x : α) : Prop := ∃ cs pr, H.get b = some (.cells cs e pr) ∧ cs[off]? = some (V x)
def intV (n : Int) : Value := .int .i64 n
def byteV (n : Nat) : Value := .int .u8 (n : Int)
abbrev IntsAt (v : Value) (l : List Int) : Prop := LAt lo 1 (CellAt H 3 intV) v l
structure InsAt (b off : Nat) (x : Ins) : Prop where
  ex : ∃ cs pr vl vm vv, H.get b = some (.cells cs 30 pr) ∧ cs[off]? = some (.int .i64 x.op) ∧ cs[off + 1]? = some (.int .i64 x.d) ∧ cs[off + 2]? = some (.int .i64 x.a) ∧
    cs[off + 3]? = some (.int .i64 x.b) ∧ cs[off + 4]? = some (.int .i64 x.c) ∧ cs[off + 5]? = some (.int .i64 x.n) ∧ cs[off + 6]? = some vl ∧ cs[off + 7]? = some vm ∧ cs[off + 8]? = some vv ∧
    IntsAt H lo vl x.l ∧ IntsAt H lo vm x.m ∧ IntsAt H lo vv x.live
structure BlAt (b off : Nat) (x : Bl) : Prop where
  ex : ∃ cs pr vi vc, H.get b = some (.cells cs 56 pr) ∧ cs[off]? = some vi ∧ cs[off + 1]? = some vc ∧ IntsAt H lo vi x.inn ∧ LAt lo 9 (InsAt H lo) vc x.code
structure FnAt (b off : Nat) (x : Fn) : Prop where
  ex : ∃ cs pr vp vb, H.get b = some (.cells cs 59 pr) ∧ cs[off]? = some vp ∧ cs[off + 1]? = some (.int .i64 x.result) ∧ cs[off + 2]? = some (.int .i64 x.slots) ∧ cs[off + 3]? = some vb ∧
    IntsAt H lo vp x.params ∧ LAt lo 2 (BlAt H lo) vb x.blocks
structure ShpAt (b off : Nat) (x : Shp) : Prop where
  ex : ∃ cs pr vf, H.get b = some (.cells cs 90 pr) ∧ cs[off]? = some (.int .i64 x.kind) ∧ cs[off + 1]? = some vf ∧ cs[off + 2]? = some (.string x.name) ∧ IntsAt H lo vf x.fields
structure TypAt (b off : Nat) (x : Typ) : Prop where
  ex : ∃ cs pr vf, H.get b = some (.cells cs 88 pr) ∧ cs[off]? = some (.bool x.imm) ∧ cs[off + 1]? = some vf ∧ IntsAt H lo vf x.shapes
structure ImV where
  types : Value
  shapes : Value
  strings : Value
  names : Value
  funcs : Value
def ImV.cells (u : ImV) (im : Img) : List Value := [u.types, u.shapes, u.strings, u.names, u.funcs, .int .i64 im.main, .int .i64 im.exn]
structure ImvAt (u : ImV) (im : Img) : Prop where
  types : LAt lo 2 (TypAt H lo) u.types im.types
  shapes : LAt lo 3 (ShpAt H lo) u.shapes im.shapes
  strings : LAt lo 1 (CellAt H 9 Value.string) u.strings im.strings
  names : LAt lo 1 (CellAt H 9 Value.string) u.names im.names
  funcs : LAt lo 4 (FnAt H lo) u.funcs im.funcs
def ImgAt (b : Nat) (im : Img) : Prop := b < lo ∧ ∃ u pr, H.get b = some (.cells (ImV.cells u im) 27 pr) ∧ ImvAt H lo u im
structure VA where
  p : Nat
  mp : Nat
  hp : HpA
  iv : Value
  cv : Value
  fv : Value
  ov : Value
  fr : List (Nat × Nat)
def bOf : Value → List Nat
  | .slice (some a) _ _ => [a.block]
  | _ => []
def frOwn : List (Nat × Nat) → List Nat
  | [] => []
  | q :: l => q.1 :: q.2 :: frOwn l
def VA.own (A : VA) : List Nat := A.p :: A.hp.p :: A.hp.wb :: A.hp.hb :: (bOf A.hp.lv ++ bOf A.fv ++ bOf A.ov ++ frOwn A.fr)
def ptrV (b : Nat) : Value := .pointer (some ⟨b, 0, none⟩)
structure InsLim (x : Ins) : Prop where
  n : -9223372036854775808 ≤ x.n ∧ x.n ≤ 9223372036854775807
  l : x.l.length ≤ 1024
  m : x.m.length ≤ 1024
  live : x.live.length ≤ 200
structure FnLim (x : Fn) : Prop where
  slots : x.slots ≤ 200
  blocks : x.blocks.length ≤ 2000
  code : ∀ b ∈ x.blocks, b.code.length ≤ 20000 ∧ ∀ y ∈ b.code, InsLim y
structure ImOk (im : Img) : Prop where
  funcs : ∀ x ∈ im.funcs, FnLim x
  fnum : im.funcs.length ≤ 1024
  shapes : im.shapes.length ≤ 512
  fields : ∀ x ∈ im.shapes, x.fields.length ≤ 200
  strings : ∀ x ∈ im.strings, x.size ≤ 16384
structure FrAt (q : Nat × Nat) (f : Frm) : Prop where
  ex : ∃ pb po, pb < lo ∧ FnAt H lo pb po f.fn ∧ H.get q.1 = some (.cells [.pointer (some ⟨pb, po, none⟩), .int .i64 f.block, .int .i64 f.at_, .slice (some ⟨q.2, 0, none⟩) f.slots.length f.slots.length] 138 false)
  slots : H.get q.2 = some (.cells (u64c f.slots) 62 false)
  wlt : ∀ w ∈ f.slots, w < 18446744073709551616
  len : (f.slots.length : Int) = f.fn.slots
  ok : FnLim f.fn
  at0 : 0 ≤ f.at_ ∧ f.at_ ≤ 20000
inductive FrsAt : List (Nat × Nat) → List Frm → Prop
  | nil : FrsAt [] []
  | cons {q : Nat × Nat} {f : Frm} {l : List (Nat × Nat)} {m : List Frm} : FrAt H lo q f → FrsAt l m → FrsAt (q :: l) (f :: m)
def FvAt (v : Value) (l : List Nat) : Prop := (v = .slice none 0 0 ∧ l = []) ∨ ∃ b cs, v = .slice (some ⟨b, 0, none⟩) l.length capU ∧ H.get b = some (.cells cs 131 false) ∧ l.length ≤ cs.length ∧ cs.take l.length = l.reverse.map ptrV
def OvAt (v : Value) (l : List Nat) : Prop := (v = .slice none 0 0 ∧ l = []) ∨ ∃ b, v = .slice (some ⟨b, 0, none⟩) l.length capU ∧ H.get b = some (.cells (l.map byteV) 5 false)
def VA.cells (A : VA) (σ : Mst) : List Value := [ptrV A.mp, A.iv, .int .i64 σ.fuel, .int .i64 σ.heap, .int .i64 σ.stack, A.cv, ptrV A.hp.p, A.fv, .int .i64 σ.words, .int .i64 (σ.inn : Int), .int .i64 (σ.made : Int), .int .i64 0, A.ov, .string σ.exn, .int .i64 (σ.steps : Int), .int .i64 (σ.swept : Int)]
def frWords : List Frm → Int
  | [] => 0
  | f :: l => f.slots.length + 2 + frWords l
structure MOk (σ : Mst) : Prop where
  words : σ.words = frWords σ.frames
  stack : σ.stack ≤ 65536 ∧ 0 ≤ σ.stack
  fits : σ.words ≤ σ.stack
  fuel : 0 ≤ σ.fuel ∧ σ.fuel ≤ 16777216
  steps : (σ.steps : Int) ≤ σ.fuel
  made : σ.made ≤ σ.steps
  swept : σ.swept ≤ σ.steps
  out : σ.out.length ≤ σ.steps
  inn : σ.inn ≤ σ.input.length ∧ σ.input.length ≤ 4611686018427387904 ∧ ∀ c ∈ σ.input, c < 256
structure VmAt (im : Img) (A : VA) (σ : Mst) : Prop where
  obj : H.get A.p = some (.cells (A.cells σ) 84 false)
  img : ImgAt H lo A.mp im
  hp : HpAt H A.hp σ.hp
  inp : LAt lo 1 (CellAt H 5 byteV) A.iv σ.input
  col : LAt lo 1 (CellAt H 4 Value.bool) A.cv σ.collect
  frs : FrsAt H lo A.fr σ.frames
  fv : FvAt H A.fv (A.fr.map (·.1))
  ov : OvAt H A.ov σ.out
  nd : A.own.Nodup
  own : ∀ x ∈ A.own, lo ≤ x ∧ x < H.next
  lo : lo ≤ H.next
  ok : MOk σ
  imok : ImOk im
end
end Go.Proofs.YtchlbfmjnhgpgaaGreat.Idl
namespace Go.Proofs.YtchlbfmjnhgpgaaGreat.Idl
open Go
set_option maxRecDepth 100000
set_option linter.unusedSimpArgs false
section
variable {H H' : IH} {lo : Nat}
def SameB (lo : Nat) (H H' : IH) : Prop := ∀ x, x < lo → H'.get x = H.get x
theorem LAt.mono {α : Type} {k : Nat} {P P' : Nat → Nat → α → Prop} {v : Value} {l : List α} (h : LAt lo k P v l) (hp : ∀ b o x, b < lo → P b o x → P' b o x) : LAt lo k P' v l := by
  obtain ⟨a, c, h1, h2⟩ := h
  refine ⟨a, c, h1, fun hl => ?_⟩
  obtain ⟨b, o, h3, h4, h5⟩ := h2 hl
  exact ⟨b, o, h3, h4, fun i hi => hp _ _ _ h4 (h5 i hi)⟩
theorem CellAt.same {α : Type} {e : TypeId} {V : α → Value} {b o : Nat} {x : α} (h : CellAt H e V b o x) (hs : SameB lo H H') (hb : b < lo) : CellAt H' e V b o x := by
  obtain ⟨cs, pr, h1, h2⟩ := h
  exact ⟨cs, pr, (hs b hb).trans h1, h2⟩
theorem IntsAt.same {v : Value} {l : List Int} (h : IntsAt H lo v l) (hs : SameB lo H H') : IntsAt H' lo v l := LAt.mono h fun _ _ _ hb hx => CellAt.same hx hs hb
theorem InsAt.same {b o : Nat} {x : Ins} (h : InsAt H lo b o x) (hs : SameB lo H H') (hb : b < lo) : InsAt H' lo b o x := by
  obtain ⟨cs, pr, vl, vm, vv, h1, h2, h3, h4, h5, h6, h7, h8, h9, h10, h11, h12, h13⟩ := h.ex
  exact ⟨cs, pr, vl, vm, vv, (hs b hb).trans h1, h2, h3, h4, h5, h6, h7, h8, h9, h10, IntsAt.same h11 hs, IntsAt.same h12 hs, IntsAt.same h13 hs⟩
theorem BlAt.same {b o : Nat} {x : Bl} (h : BlAt H lo b o x) (hs : SameB lo H H') (hb : b < lo) : BlAt H' lo b o x := by
  obtain ⟨cs, pr, vi, vc, h1, h2, h3, h4, h5⟩ := h.ex
  exact ⟨cs, pr, vi, vc, (hs b hb).trans h1, h2, h3, IntsAt.same h4 hs, h5.mono fun _ _ _ hb hx => InsAt.same hx hs hb⟩
theorem FnAt.same {b o : Nat} {x : Fn} (h : FnAt H lo b o x) (hs : SameB lo H H') (hb : b < lo) : FnAt H' lo b o x := by
  obtain ⟨cs, pr, vp, vb, h1, h2, h3, h4, h5, h6, h7⟩ := h.ex
  exact ⟨cs, pr, vp, vb, (hs b hb).trans h1, h2, h3, h4, h5, IntsAt.same h6 hs, h7.mono fun _ _ _ hb hx => BlAt.same hx hs hb⟩
theorem ShpAt.same {b o : Nat} {x : Shp} (h : ShpAt H lo b o x) (hs : SameB lo H H') (hb : b < lo) : ShpAt H' lo b o x := by
  obtain ⟨cs, pr, vf, h1, h2, h3, h4, h5⟩ := h.ex
  exact ⟨cs, pr, vf, (hs b hb).trans h1, h2, h3, h4, IntsAt.same h5 hs⟩
theorem TypAt.same {b o : Nat} {x : Typ} (h : TypAt H lo b o x) (hs : SameB lo H H') (hb : b < lo) : TypAt H' lo b o x := by
  obtain ⟨cs, pr, vf, h1, h2, h3, h4⟩ := h.ex
  exact ⟨cs, pr, vf, (hs b hb).trans h1, h2, h3, IntsAt.same h4 hs⟩
theorem ImvAt.same {u : ImV} {im : Img} (h : ImvAt H lo u im) (hs : SameB lo H H') : ImvAt H' lo u im :=
  ⟨h.types.mono fun _ _ _ hb hx => TypAt.same hx hs hb, h.shapes.mono fun _ _ _ hb hx => ShpAt.same hx hs hb, h.strings.mono fun _ _ _ hb hx => CellAt.same hx hs hb, h.names.mono fun _ _ _ hb hx => CellAt.same hx hs hb,
    h.funcs.mono fun _ _ _ hb hx => FnAt.same hx hs hb⟩
theorem ImgAt.same {b : Nat} {im : Img} (h : ImgAt H lo b im) (hs : SameB lo H H') : ImgAt H' lo b im := by
  obtain ⟨hb, u, pr, h1, h2⟩ := h
  exact ⟨hb, u, pr, (hs b hb).trans h1, ImvAt.same h2 hs⟩
theorem FrAt.same {q : Nat × Nat} {f : Frm} (h : FrAt H lo q f) (hs : SameB lo H H') (h1 : H'.get q.1 = H.get q.1) (h2 : H'.get q.2 = H.get q.2) : FrAt H' lo q f := by
  obtain ⟨pb, po, hp, hf, hg⟩ := h.ex
  exact ⟨⟨pb, po, hp, FnAt.same hf hs hp, h1.trans hg⟩, h2.trans h.slots, h.wlt, h.len, h.ok, h.at0⟩
theorem FrsAt.same {l : List (Nat × Nat)} {m : List Frm} (h : FrsAt H lo l m) (hs : SameB lo H H') (hx : ∀ x ∈ frOwn l, H'.get x = H.get x) : FrsAt H' lo l m := by
  induction h with
  | nil => exact .nil
  | cons h1 _ ih => exact .cons (FrAt.same h1 hs (hx _ (by simp [frOwn])) (hx _ (by simp [frOwn]))) (ih fun x hm => hx x (by simp [frOwn, hm]))
theorem FrsAt.len {l : List (Nat × Nat)} {m : List Frm} (h : FrsAt H lo l m) : l.length = m.length := by
  induction h with
  | nil => rfl
  | cons _ _ ih => simp [ih]
theorem FvAt.same {v : Value} {l : List Nat} (h : FvAt H v l) (hx : ∀ x ∈ bOf v, H'.get x = H.get x) : FvAt H' v l := by
  rcases h with h | ⟨b, cs, h1, h2, h3⟩
  · exact .inl h
  · exact .inr ⟨b, cs, h1, (hx b (by simp [h1, bOf])).trans h2, h3⟩
theorem OvAt.same {v : Value} {l : List Nat} (h : OvAt H v l) (hx : ∀ x ∈ bOf v, H'.get x = H.get x) : OvAt H' v l := by
  rcases h with h | ⟨b, h1, h2⟩
  · exact .inl h
  · exact .inr ⟨b, h1, (hx b (by simp [h1, bOf])).trans h2⟩
theorem HpAt.same {a : HpA} {σ : Hp} (h : HpAt H a σ) (hn : H.next ≤ H'.next) (hp : H'.get a.p = H.get a.p) (hw : H'.get a.wb = H.get a.wb) (hh : H'.get a.hb = H.get a.hb) (hl : ∀ x ∈ bOf a.lv, H'.get x = H.get x) : HpAt H' a σ :=
  h.mono hn hp hw hh fun lb l c e => hl lb (by simp [e, bOf])
variable {im : Img} {A A' : VA} {σ σ' : Mst}
theorem VmAt.same (h : VmAt H lo im A σ) (hn : H.next ≤ H'.next) (hx : ∀ x, x < lo ∨ x ∈ A.own → H'.get x = H.get x) : VmAt H' lo im A σ := by
  have hs : SameB lo H H' := fun x hx' => hx x (.inl hx')
  have ho : ∀ x, x ∈ A.own → H'.get x = H.get x := fun x hx' => hx x (.inr hx')
  refine ⟨(ho _ (by simp [VA.own])).trans h.obj, h.img.same hs, h.hp.same hn (ho _ (by simp [VA.own])) (ho _ (by simp [VA.own])) (ho _ (by simp [VA.own])) (fun x hm => ho x (by simp [VA.own, hm])), h.inp.mono fun _ _ _ hb hx => CellAt.same hx hs hb, h.col.mono fun _ _ _ hb hx => CellAt.same hx hs hb,
    h.frs.same hs fun x hm => ho x (by simp [VA.own, hm]), h.fv.same fun x hm => ho x (by simp [VA.own, hm]), h.ov.same fun x hm => ho x (by simp [VA.own, hm]), h.nd, fun x hm => ⟨(h.own x hm).1, Nat.lt_of_lt_of_le (h.own x hm).2 hn⟩, Nat.le_trans h.lo hn, h.ok, h.imok⟩
theorem VmAt.fx (h : VmAt H lo im A σ) {l : List Nat} (f : Fx l H H') (hl : ∀ x ∈ l, lo ≤ x ∧ x ∉ A.own) : VmAt H' lo im A σ :=
  h.same f.1 fun x hx => f.2 x (by rcases hx with hx | hx; exact Nat.lt_of_lt_of_le hx h.lo; exact (h.own x hx).2) fun hm => by
    rcases hx with hx | hx
    · have := (hl x hm).1; omega
    · exact (hl x hm).2 hx
theorem VmAt.setP (h : VmAt H lo im A σ) (hA : A'.p = A.p ∧ A'.mp = A.mp ∧ A'.hp = A.hp ∧ A'.iv = A.iv ∧ A'.cv = A.cv) (hσ : σ'.hp = σ.hp ∧ σ'.input = σ.input ∧ σ'.collect = σ.collect)
    (hH : H' = H.set A.p (.cells (A'.cells σ') 84 false)) (hsub : ∀ x ∈ A'.own, x ∈ A.own) (hnd : A'.own.Nodup) (hfr : FrsAt H lo A'.fr σ'.frames) (hfv : FvAt H A'.fv (A'.fr.map (·.1))) (hov : OvAt H A'.ov σ'.out)
    (hok : MOk σ') : VmAt H' lo im A' σ' := by
  obtain ⟨a1, a2, a3, a4, a5⟩ := hA
  obtain ⟨b1, b2, b3⟩ := hσ
  have hn : H'.next = H.next := by rw [hH]; rfl
  have hg : ∀ z, z ≠ A.p → H'.get z = H.get z := fun z hz => by rw [hH, IH.get_set, if_neg hz]
  have hpo := (h.own A.p (by simp [VA.own])).1
  have hs : SameB lo H H' := fun z hz => hg z (fun e => by omega)
  have hr : ∀ z, z ∈ A'.hp.p :: A'.hp.wb :: A'.hp.hb :: (bOf A'.hp.lv ++ bOf A'.fv ++ bOf A'.ov ++ frOwn A'.fr) → z ≠ A.p := by
    intro z hz e
    have h1 := hnd
    rw [VA.own, List.nodup_cons] at h1
    rw [e, ← a1] at hz
    exact h1.1 hz
  have hhp := h.hp
  rw [← a3, ← b1] at hhp
  refine ⟨by rw [a1, hH, IH.get_set, if_pos rfl], by rw [a2]; exact h.img.same hs, hhp.same (by omega) (hg _ (hr _ (by simp))) (hg _ (hr _ (by simp))) (hg _ (hr _ (by simp))) (fun z hm => hg z (hr z (by simp [hm]))),
    by rw [a4, b2]; exact h.inp.mono fun _ _ _ hb hx => CellAt.same hx hs hb, by rw [a5, b3]; exact h.col.mono fun _ _ _ hb hx => CellAt.same hx hs hb,
    hfr.same hs fun z hm => hg z (hr z (by simp [hm])), hfv.same fun z hm => hg z (hr z (by simp [hm])), hov.same fun z hm => hg z (hr z (by simp [hm])), hnd, fun x hm => by rw [hn]; exact h.own x (hsub x hm), by rw [hn]; exact h.lo, hok, h.imok⟩
end
end Go.Proofs.YtchlbfmjnhgpgaaGreat.Idl
namespace Go.Proofs.YtchlbfmjnhgpgaaGreat.Idl
open Go
set_option maxHeartbeats 8000000
set_option maxRecDepth 100000
set_option linter.unusedSimpArgs false
def overV (k : Int) : Value := .iface 86 (.agg #[.int .i64 k])
theorem iop_mkIfaceS (J : Env) (T : Regs) (H : IH) (dst : Option Tmp) (type : TypeId) (pos : String) (after : Array Edge) (guard : Option (Nat × Bool)) (t : TypeId) (x : Operand) (h : ∃ fs, J.und t = some (.struct fs)) :
    iop J ⟨dst, .makeInterface t x, type, pos, after, guard⟩ T H = some (.val (.iface t (iev T x)) H) := by
  obtain ⟨fs, h⟩ := h
  simp only [iop, h]
theorem und_over : ∃ fs, J.und 86 = some (.struct fs) := ⟨_, id rfl⟩
def panR (v : Value) (H : IH) : Option OR := match v with
  | .iface t v => some (.pan (.iface t v) H)
  | _ => none
@[simp] theorem panR_iface (t : TypeId) (v : Value) (H : IH) : panR (.iface t v) H = some (.pan (.iface t v) H) := rfl
@[simp] theorem iop_panic (J : Env) (T : Regs) (H : IH) (dst : Option Tmp) (type : TypeId) (pos : String) (after : Array Edge) (guard : Option (Nat × Bool)) (x : Operand) : iop J ⟨dst, .panic x, type, pos, after, guard⟩ T H = panR (iev T x) H := by
  cases h : iev T x <;> simp only [iop, h, panR]
theorem bl_over (k : Int) : ibuild J 86 [(0, .int .i64 k)] = some (.agg #[.int .i64 k]) := by kernel_rfl
section
variable {H : IH} {lo : Nat} {im : Img} {A : VA} {σ : Mst}
theorem c_end (v : Value) (k : Int) : cal J okAll 67 #[v, .int .i64 k] H = some (.pan (overV k), H) := by
  rw [cal67 _ _ (by simp)]
  simp [C67, regsOf, fin, iresult1, iparts, overV, bl_over, iop_mkIfaceS, und_over]
theorem c_must (v : Value) (b : Bool) : cal J okAll 63 #[v, .bool b] H = some (if b then .ret (.tuple #[]) else .pan (overV 6), H) := by
  rw [cal63 _ _ (by simp)]
  have h := c_end (H := H) v 6
  cases b <;> simp [C63, regsOf, fin, iresult1, h]
theorem frWords_len (m : List Frm) : (2 * m.length : Int) ≤ frWords m := by
  induction m with
  | nil => simp [frWords]
  | cons f m ih => simp only [frWords, List.length_cons]; omega
theorem VmAt.frlen (h : VmAt H lo im A σ) : σ.frames.length ≤ 32768 := by
  have h1 := frWords_len σ.frames
  have h2 := h.ok.words
  have h3 := h.ok.fits
  have h4 := h.ok.stack
  omega
theorem VmAt.top (h : VmAt H lo im A σ) {f : Frm} {fs : List Frm} (hf : σ.frames = f :: fs) : ∃ q l, A.fr = q :: l ∧ FrAt H lo q f ∧ FrsAt H lo l fs := by
  have h1 := h.frs
  rw [hf] at h1
  generalize A.fr = x at h1
  cases h1 with
  | cons h2 h3 => exact ⟨_, _, rfl, h2, h3⟩
theorem c_top (h : VmAt H lo im A σ) {f : Frm} {fs : List Frm} (hf : σ.frames = f :: fs) {q : Nat × Nat} {l : List (Nat × Nat)} (hq : A.fr = q :: l) :
    cal J okAll 66 #[ptrV A.p] H = some (.ret (ptrV q.1), H) := by
  rw [cal66 _ _ (by simp)]
  have ho := h.obj
  have hv := h.fv
  rw [hq] at hv
  rcases hv with ⟨_, hv⟩ | ⟨b, cs, e1, e2, e3, e4⟩
  · simp at hv
  · have hlen := h.frlen
    rw [hf, List.length_cons, ← show l.length = fs.length by have := h.frs.len; rw [hq, hf] at this; simpa using this] at hlen
    have w1 : IntKind.i64.wrap (l.length : Int) = (l.length : Int) := by rw [wrapI]; omega
    have hlt : (l.length : Int) < l.length + 1 := by omega
    have hcell : cs[l.length]? = some (ptrV q.1) := by
      have := congrArg (fun u => u[l.length]?) e4
      simpa using this
    simp only [VA.cells, e1, List.length_cons, List.length_map] at ho
    simp [C66, regsOf, fin, iresult1, ho, e2, w1, hlt, iindexAddr, hcell, ptrV]
theorem c_slot (h : VmAt H lo im A σ) {f : Frm} {fs : List Frm} (hf : σ.frames = f :: fs) {q : Nat × Nat} {l : List (Nat × Nat)} (hq : A.fr = q :: l) (i : Int) :
    cal J okAll 102 #[ptrV A.p, .int .i64 i] H = some (if (decide (0 ≤ i) && decide (i < f.slots.length)) = true then .ret (.pointer (some ⟨q.2, i.toNat, none⟩)) else .pan (overV 6), H) := by
  rw [cal102 _ _ (by simp)]
  have h1 := c_top h hf hq
  obtain ⟨q', l', e1, e2, e3⟩ := h.top hf
  rw [hq] at e1
  simp only [List.cons.injEq] at e1
  obtain ⟨rfl, rfl⟩ := e1
  obtain ⟨pb, po, _, _, hg⟩ := e2.ex
  have hm1 := c_must (H := H) (ptrV A.p) true
  have hm2 := c_must (H := H) (ptrV A.p) false
  simp only [ptrV] at h1 hm1 hm2
  cases b1 : decide (0 ≤ i) with
  | false => simp [C102, regsOf, fin, iresult1, ptrV, h1, hg, b1, hm2]
  | true =>
    have b1' : 0 ≤ i := by simpa using b1
    cases b2 : decide (i < f.slots.length) with
    | false => simp [C102, regsOf, fin, iresult1, ptrV, h1, hg, b1, b2, hm2]
    | true =>
      have b2' : i < f.slots.length := by simpa using b2
      simp [C102, regsOf, fin, iresult1, ptrV, h1, hg, b1, b2, hm1, iindexAddr, b1', b2']
end
end Go.Proofs.YtchlbfmjnhgpgaaGreat.Idl
namespace Go.Proofs.YtchlbfmjnhgpgaaGreat.Idl
open Go
set_option maxHeartbeats 8000000
set_option maxRecDepth 100000
set_option linter.unusedSimpArgs false
theorem VM.bind_cases {α β : Type} {x : VM α} {f : α → VM β} {σ σ' : Mst} {r : Except Int β} (h : (x >>= f) σ = some (r, σ')) :
    (∃ a σ1, x σ = some (.ok a, σ1) ∧ f a σ1 = some (r, σ')) ∨ ∃ k, x σ = some (.error k, σ') ∧ r = .error k := by
  change VM.bind x f σ = _ at h
  unfold VM.bind at h
  split at h
  · rename_i a σ1 e; exact .inl ⟨a, σ1, e, h⟩
  · rename_i k σ1 e
    simp only [Option.some.injEq, Prod.mk.injEq] at h
    obtain ⟨rfl, rfl⟩ := h
    exact .inr ⟨k, e, rfl⟩
  · simp at h
theorem VM.bind_ok {α β : Type} {x : VM α} {f : α → VM β} {σ σ1 : Mst} {a : α} (h : x σ = some (.ok a, σ1)) : (x >>= f) σ = f a σ1 := by
  change VM.bind x f σ = _
  unfold VM.bind
  rw [h]
theorem VM.bind_err {α β : Type} {x : VM α} {f : α → VM β} {σ σ1 : Mst} {k : Int} (h : x σ = some (.error k, σ1)) : (x >>= f) σ = some (.error k, σ1) := by
  change VM.bind x f σ = _
  unfold VM.bind
  rw [h]
theorem VM.bind_none {α β : Type} {x : VM α} {f : α → VM β} {σ : Mst} (h : x σ = none) : (x >>= f) σ = none := by
  change VM.bind x f σ = _
  unfold VM.bind
  rw [h]
theorem vMust_cases {b : Bool} {σ σ' : Mst} {r : Except Int Unit} (h : vMust b σ = some (r, σ')) : σ' = σ ∧ ((b = true ∧ r = .ok ()) ∨ (b = false ∧ r = .error 6)) := by
  unfold vMust at h
  cases b with
  | true =>
    simp only [if_true, VM.ret, Option.some.injEq, Prod.mk.injEq] at h
    exact ⟨h.2.symm, .inl ⟨rfl, h.1.symm⟩⟩
  | false =>
    simp only [Bool.false_eq_true, if_false, vEnd, Option.some.injEq, Prod.mk.injEq] at h
    exact ⟨h.2.symm, .inr ⟨rfl, h.1.symm⟩⟩
section
variable (lo : Nat)
structure Nx (H : IH) (A : VA) (H' : IH) (A' : VA) : Prop where
  p : A'.p = A.p
  fx : Fx A.own H H'
  own : ∀ x ∈ A'.own, x ∈ A.own ∨ H.next ≤ x
theorem Nx.refl (H : IH) (A : VA) : Nx H A H A := ⟨rfl, Fx.refl _ _, fun _ h => .inl h⟩
theorem Nx.trans {H H' H'' : IH} {A A' A'' : VA} (h : Nx H A H' A') (h' : Nx H' A' H'' A'') : Nx H A H'' A'' :=
  ⟨h'.p.trans h.p, h.fx.trans h'.fx h.own, fun x hx => (h'.own x hx).elim (fun h1 => h.own x h1) fun h1 => .inr (Nat.le_trans h.fx.1 h1)⟩
theorem Nx.same {lo : Nat} {im : Img} {H H' : IH} {A A' : VA} {σ : Mst} (h : VmAt H lo im A σ) (n : Nx H A H' A') : SameB lo H H' :=
  fun x hx => n.fx.2 x (Nat.lt_of_lt_of_le hx h.lo) fun hm => by have := (h.own x hm).1; omega
def RV {α : Type} (V : IH → VA → α → Value → Prop) (H' : IH) (A' : VA) (r : Except Int α) (e : IE) : Prop :=
  match r with
  | .ok a => ∃ u, e = .ret u ∧ V H' A' a u
  | .error k => e = .pan (overV k)
def UnitV : IH → VA → Unit → Value → Prop := fun _ _ _ u => u = .tuple #[]
def Out {α : Type} (im : Img) (H : IH) (A : VA) (c : Option (IE × IH)) (V : IH → VA → α → Value → Prop) (o : Option (Except Int α × Mst)) : Prop :=
  ∀ r σ', o = some (r, σ') → ∃ H' A' e, c = some (e, H') ∧ VmAt H' lo im A' σ' ∧ Nx H A H' A' ∧ RV V H' A' r e
end
section
variable {H : IH} {lo : Nat} {im : Img} {A : VA} {σ : Mst}
theorem vTop_eq {f : Frm} {fs : List Frm} (hf : σ.frames = f :: fs) : vTop σ = some (.ok f, σ) := by
  simp [vTop, VM.of, hf]
theorem vTop_nil (hf : σ.frames = []) : vTop σ = none := by
  simp [vTop, VM.of, hf]
theorem vSlot_eq {f : Frm} {fs : List Frm} (hf : σ.frames = f :: fs) (i : Int) : vSlot i σ = some (if (decide (0 ≤ i) && decide (i < f.slots.length)) = true then .ok i.toNat else .error 6, σ) := by
  unfold vSlot
  rw [VM.bind_ok (vTop_eq hf)]
  cases hb : (decide (0 ≤ i) && decide (i < f.slots.length)) with
  | true => rw [VM.bind_ok (a := ()) (σ1 := σ) rfl]; rfl
  | false => rw [VM.bind_err (k := 6) (σ1 := σ) rfl]; rfl
theorem vSlot_nil (hf : σ.frames = []) (i : Int) : vSlot i σ = none := by
  unfold vSlot
  rw [VM.bind_none (vTop_nil hf)]
theorem frOwn_nd {q : Nat × Nat} {l : List (Nat × Nat)} (h : (frOwn (q :: l)).Nodup) : q.1 ≠ q.2 ∧ q.1 ∉ frOwn l ∧ q.2 ∉ frOwn l ∧ (frOwn l).Nodup := by
  simp only [frOwn, List.nodup_cons, List.mem_cons, not_or] at h
  exact ⟨h.1.1, h.1.2, h.2.1, h.2.2⟩
theorem VA.own_split (h : A.own.Nodup) : ∀ x ∈ frOwn A.fr, x ≠ A.p ∧ x ≠ A.hp.p ∧ x ≠ A.hp.wb ∧ x ≠ A.hp.hb ∧ x ∉ bOf A.hp.lv ∧ x ∉ bOf A.fv ∧ x ∉ bOf A.ov := by
  intro x hx
  have hx2 : x ∈ bOf A.hp.lv ++ bOf A.fv ++ bOf A.ov ++ frOwn A.fr := List.mem_append_right _ hx
  simp only [VA.own, List.nodup_cons, List.mem_cons, not_or] at h
  obtain ⟨⟨_, _, _, h1⟩, ⟨_, _, h2⟩, ⟨_, h3⟩, h4, h5⟩ := h
  have h6 := (List.nodup_append.1 h5).2.2
  refine ⟨fun e => h1 (e ▸ hx2), fun e => h2 (e ▸ hx2), fun e => h3 (e ▸ hx2), fun e => h4 (e ▸ hx2), ?_, ?_, ?_⟩ <;> intro hm
  · exact h6 x (by simp [hm]) x hx rfl
  · exact h6 x (by simp [hm]) x hx rfl
  · exact h6 x (by simp [hm]) x hx rfl
theorem VmAt.setTop (h : VmAt H lo im A σ) {f f' : Frm} {fs : List Frm} (hf : σ.frames = f :: fs) {q : Nat × Nat} {l : List (Nat × Nat)} (hq : A.fr = q :: l) {H' : IH} {y : Nat} {x : Blk} (hy : y = q.1 ∨ y = q.2)
    (hH : H' = H.set y x) (hfr : FrAt H' lo q f') (hl : f'.slots.length = f.slots.length) : VmAt H' lo im A { σ with frames := f' :: fs } ∧ Nx H A H' A := by
  have hfo : frOwn A.fr = q.1 :: q.2 :: frOwn l := by rw [hq]; rfl
  have hy1 : y ∈ frOwn A.fr := by rw [hfo]; rcases hy with rfl | rfl <;> simp
  have hyo : y ∈ A.own := by simp only [VA.own, List.mem_cons, List.mem_append]; simp [hy1]
  obtain ⟨s1, s2, s3, s4, s5, s6, s7⟩ := VA.own_split h.nd y hy1
  have hg : ∀ z, z ≠ y → H'.get z = H.get z := fun z hz => by rw [hH, IH.get_set, if_neg hz]
  have hs : SameB lo H H' := fun z hz => hg z (fun e => by have := (h.own y hyo).1; omega)
  have hnd : (frOwn (q :: l)).Nodup := by
    have h1 := h.nd
    simp only [VA.own, List.nodup_cons] at h1
    have h2 := (List.nodup_append.1 h1.2.2.2.2).2.1
    rw [hq] at h2
    exact h2
  obtain ⟨n1, n2, n3, n4⟩ := frOwn_nd hnd
  have hn : H'.next = H.next := by rw [hH]; rfl
  have hfx : Fx A.own H H' := by rw [hH]; exact (Fx.refl _ _).set (.inl hyo) _
  obtain ⟨q', l', e1, e2, e3⟩ := h.top hf
  rw [hq] at e1
  simp only [List.cons.injEq] at e1
  obtain ⟨rfl, rfl⟩ := e1
  refine ⟨⟨(hg _ (Ne.symm s1)).trans h.obj, h.img.same hs, h.hp.same (by omega) (hg _ (Ne.symm s2)) (hg _ (Ne.symm s3)) (hg _ (Ne.symm s4)) (fun z hm => hg z (fun e => s5 (e ▸ hm))), h.inp.mono fun _ _ _ hb hx => CellAt.same hx hs hb, h.col.mono fun _ _ _ hb hx => CellAt.same hx hs hb,
    ?_, h.fv.same fun z hm => hg z (fun e => s6 (e ▸ hm)), h.ov.same fun z hm => hg z (fun e => s7 (e ▸ hm)), h.nd, fun x hm => by rw [hn]; exact h.own x hm, by rw [hn]; exact h.lo, ⟨?_, h.ok.stack, h.ok.fits, h.ok.fuel, h.ok.steps, h.ok.made, h.ok.swept, h.ok.out, h.ok.inn⟩, h.imok⟩, ⟨rfl, hfx, fun x hx => .inl hx⟩⟩
  · rw [hq]
    refine .cons hfr (e3.same hs fun z hm => hg z fun e => ?_)
    subst e
    rcases hy with rfl | rfl
    · exact n2 hm
    · exact n3 hm
  · have := h.ok.words
    rw [hf] at this
    simp only [frWords] at this ⊢
    rw [hl]; exact this
theorem m_set (h : VmAt H lo im A σ) (i : Int) (w : Nat) (hw : w < 18446744073709551616) : Out lo im H A (cal J okAll 103 #[ptrV A.p, .int .i64 i, .int .u64 w] H) UnitV (vSet i w σ) := by
  intro r σ' hx
  rw [cal103 _ _ (by simp)]
  unfold vSet at hx
  cases hf : σ.frames with
  | nil =>
    rw [VM.bind_none (vSlot_nil hf i)] at hx
    simp at hx
  | cons f fs =>
    obtain ⟨q, l, hq, e2, e3⟩ := h.top hf
    have h1 := c_slot h hf hq i
    have hsl := e2.slots
    cases hb : (decide (0 ≤ i) && decide (i < f.slots.length)) with
    | false =>
      rw [VM.bind_err (k := 6) (σ1 := σ) (by rw [vSlot_eq hf, hb]; rfl)] at hx
      simp only [Option.some.injEq, Prod.mk.injEq] at hx
      obtain ⟨rfl, rfl⟩ := hx
      rw [hb] at h1
      simp only [ptrV] at h1
      exact ⟨H, A, .pan (overV 6), by simp [C103, regsOf, fin, iresult1, ptrV, h1], h, .refl _ _, rfl⟩
    | true =>
      rw [VM.bind_ok (a := i.toNat) (σ1 := σ) (by rw [vSlot_eq hf, hb]; rfl)] at hx
      simp only [VM.upd, hf, Option.some.injEq, Prod.mk.injEq] at hx
      obtain ⟨rfl, rfl⟩ := hx
      rw [hb] at h1
      simp only [ptrV, if_true] at h1
      simp only [Bool.and_eq_true, decide_eq_true_eq] at hb
      have hlt : i.toNat < f.slots.length := by omega
      have hlt1 : i.toNat + 1 ≤ f.slots.length := hlt
      obtain ⟨pb, po, hpb, hfn, hg⟩ := e2.ex
      have hqq : q.1 ≠ q.2 := fun e => by rw [e, hsl] at hg; simp at hg
      obtain ⟨u1, u2⟩ := h.setTop hf hq (f' := { f with slots := f.slots.set i.toNat w }) (y := q.2) (x := .cells (u64c (f.slots.set i.toNat w)) 62 false) (.inr rfl) rfl
        ⟨⟨pb, po, hpb, FnAt.same hfn (fun z hz => by rw [IH.get_set, if_neg (fun e => by have := (h.own q.2 (by simp [VA.own, hq, frOwn])).1; omega)]) hpb, by rw [IH.get_set, if_neg hqq, hg]; simp⟩, by rw [IH.get_set, if_pos rfl], fun x hx => by
          rcases List.mem_or_eq_of_mem_set hx with h5 | h5
          · exact e2.wlt x h5
          · rw [h5]; exact hw, by simpa using e2.len, e2.ok, e2.at0⟩ (by simp)
      exact ⟨_, A, .ret (.tuple #[]), by simp [C103, regsOf, fin, iresult1, ptrV, h1, hsl, hlt, hlt1, istore, Value.cells, plain1, overlay, u64c_len, u64c_put], u1, u2, ⟨_, rfl, rfl⟩⟩
theorem wImm_lt (n : Int) : wImm n < 18446744073709551616 := by unfold wImm; omega
theorem m_setInt (h : VmAt H lo im A σ) (i n : Int) (hn : -9223372036854775808 ≤ n ∧ n ≤ 9223372036854775807) : Out lo im H A (cal J okAll 106 #[ptrV A.p, .int .i64 i, .int .i64 n] H) UnitV (vSetInt i n σ) := by
  intro r σ' hx
  rw [cal106 _ _ (by simp)]
  obtain ⟨H', A', e, h1, h2, h3, h4⟩ := m_set h i (wImm n) (wImm_lt n) r σ' hx
  have h5 := c_Imm H n hn
  simp only [ptrV] at h1
  refine ⟨H', A', e, ?_, h2, h3, h4⟩
  cases r with
  | ok a =>
    obtain ⟨u, rfl, rfl⟩ := h4
    simp [C106, regsOf, fin, iresult1, ptrV, h5, h1]
  | error k =>
    have h4 : e = .pan (overV k) := h4
    subst h4
    simp [C106, regsOf, fin, iresult1, ptrV, h5, h1]
theorem vGet_eq {f : Frm} {fs : List Frm} (hf : σ.frames = f :: fs) (i : Int) : vGet i σ = some (if (decide (0 ≤ i) && decide (i < f.slots.length)) = true then .ok ((f.slots[i.toNat]?).getD 0) else .error 6, σ) := by
  unfold vGet
  cases hb : (decide (0 ≤ i) && decide (i < f.slots.length)) with
  | true => rw [VM.bind_ok (a := i.toNat) (σ1 := σ) (by rw [vSlot_eq hf, hb]; rfl), VM.bind_ok (vTop_eq hf)]; rfl
  | false => rw [VM.bind_err (k := 6) (σ1 := σ) (by rw [vSlot_eq hf, hb]; rfl)]; rfl
theorem vGet_nil (hf : σ.frames = []) (i : Int) : vGet i σ = none := by
  unfold vGet
  rw [VM.bind_none (vSlot_nil hf i)]
theorem rd_slot (h : VmAt H lo im A σ) {i : Int} {r : Except Int Nat} {σ' : Mst} (hx : vGet i σ = some (r, σ')) :
    σ' = σ ∧ ((∃ w b o, r = .ok w ∧ w < 18446744073709551616 ∧ cal J okAll 102 #[ptrV A.p, .int .i64 i] H = some (.ret (.pointer (some ⟨b, o, none⟩)), H) ∧ cellOf (H.get b) o = some (.int .u64 (w : Int))) ∨
      (r = .error 6 ∧ cal J okAll 102 #[ptrV A.p, .int .i64 i] H = some (.pan (overV 6), H))) := by
  cases hf : σ.frames with
  | nil => rw [vGet_nil hf] at hx; simp at hx
  | cons f fs =>
    obtain ⟨q, l, hq, e2, e3⟩ := h.top hf
    have h1 := c_slot h hf hq i
    rw [vGet_eq hf, Option.some.injEq, Prod.mk.injEq] at hx
    obtain ⟨rfl, rfl⟩ := hx
    cases hb : (decide (0 ≤ i) && decide (i < f.slots.length)) with
    | false => rw [hb] at h1; exact ⟨rfl, .inr ⟨rfl, h1⟩⟩
    | true =>
      rw [hb] at h1
      simp only [Bool.and_eq_true, decide_eq_true_eq] at hb
      have hlt : i.toNat < f.slots.length := by omega
      refine ⟨rfl, .inl ⟨_, q.2, i.toNat, rfl, ?_, h1, ?_⟩⟩
      · rw [List.getElem?_eq_getElem hlt]; exact e2.wlt _ (List.getElem_mem hlt)
      · rw [e2.slots, cellOf_cells, u64c_get _ _ hlt, List.getElem?_eq_getElem hlt]; rfl
theorem m_number (h : VmAt H lo im A σ) (i : Int) {r : Except Int Int} {σ' : Mst} (hx : vNumber i σ = some (r, σ')) :
    σ' = σ ∧ ((∃ n, r = .ok n ∧ -4611686018427387904 ≤ n ∧ n ≤ 4611686018427387903 ∧ cal J okAll 98 #[ptrV A.p, .int .i64 i] H = some (.ret (.int .i64 n), H)) ∨
      (r = .error 6 ∧ cal J okAll 98 #[ptrV A.p, .int .i64 i] H = some (.pan (overV 6), H))) := by
  rw [cal98 _ _ (by simp)]
  unfold vNumber at hx
  rcases VM.bind_cases hx with ⟨w, σ1, h1, h2⟩ | ⟨k, h1, h2⟩
  · obtain ⟨rfl, h3⟩ := rd_slot h h1
    rcases h3 with ⟨w', b, o, e1, e2, e3, e4⟩ | ⟨e1, _⟩
    · simp only [Except.ok.injEq] at e1
      subst e1
      have hi := c_IsImm H w e2
      have hn := c_Int H w e2
      have hm1 := c_must (H := H) (ptrV A.p) true
      have hm2 := c_must (H := H) (ptrV A.p) false
      simp only [ptrV] at e3 hm1 hm2
      rcases VM.bind_cases h2 with ⟨u, σ2, h3, h4⟩ | ⟨k, h3, h4⟩
      · obtain ⟨rfl, h5⟩ := vMust_cases h3
        rcases h5 with ⟨h5, _⟩ | ⟨_, h5⟩
        · change some (Except.ok (wInt w), σ2) = some (r, σ') at h4
          simp only [Option.some.injEq, Prod.mk.injEq] at h4
          obtain ⟨rfl, rfl⟩ := h4
          rw [h5] at hi
          refine ⟨rfl, .inl ⟨wInt w, rfl, by unfold wInt; split <;> omega, by unfold wInt; split <;> omega, ?_⟩⟩
          simp [C98, regsOf, fin, iresult1, ptrV, e3, e4, hi, hn, hm1]
        · simp at h5
      · obtain ⟨rfl, h5⟩ := vMust_cases h3
        rcases h5 with ⟨_, h5⟩ | ⟨h5, h6⟩
        · simp at h5
        · simp only [Except.error.injEq] at h6
          subst h6
          rw [h5] at hi
          refine ⟨rfl, .inr ⟨h4, ?_⟩⟩
          simp [C98, regsOf, fin, iresult1, ptrV, e3, e4, hi, hm2]
    · simp at e1
  · obtain ⟨rfl, h3⟩ := rd_slot h h1
    rcases h3 with ⟨w', b, o, e1, _⟩ | ⟨e1, e2⟩
    · simp at e1
    · simp only [Except.error.injEq] at e1
      subst e1
      simp only [ptrV] at e2
      refine ⟨rfl, .inr ⟨h2, ?_⟩⟩
      simp [C98, regsOf, fin, iresult1, ptrV, e2]
end
end Go.Proofs.YtchlbfmjnhgpgaaGreat.Idl
namespace Go.Proofs.YtchlbfmjnhgpgaaGreat.Idl
open Go
set_option maxHeartbeats 8000000
set_option maxRecDepth 100000
set_option linter.unusedSimpArgs false
def pend (f : Frm) : Option Ins := if 0 ≤ f.block ∧ 1 ≤ f.at_ then (f.fn.blocks[f.block.toNat]?).bind fun b => b.code[(f.at_ - 1).toNat]? else none
section
variable {H : IH} {lo : Nat} {im : Img} {A : VA} {σ : Mst}
theorem frWords_nonneg (m : List Frm) : 0 ≤ frWords m := by have := frWords_len m; omega
theorem m_pop (h : VmAt H lo im A σ) : Out lo im H A (cal J okAll 101 #[ptrV A.p] H) UnitV (vPop σ) := by
  intro r σ' hx
  rw [cal101 _ _ (by simp)]
  unfold vPop at hx
  cases hf : σ.frames with
  | nil =>
    rw [VM.bind_none (vTop_nil hf)] at hx
    simp at hx
  | cons f fs =>
    obtain ⟨q, l, hq, e2, e3⟩ := h.top hf
    rw [VM.bind_ok (vTop_eq hf)] at hx
    simp only [VM.upd, hf, Option.some.injEq, Prod.mk.injEq, List.tail_cons] at hx
    obtain ⟨rfl, rfl⟩ := hx
    have h1 := c_top h hf hq
    obtain ⟨pb, po, hpb, hfn, hg⟩ := e2.ex
    obtain ⟨cs, pr, vp, vb, g1, g2, g3, g4, g5, g6, g7⟩ := hfn.ex
    have ho := h.obj
    have hv := h.fv
    rw [hq] at hv
    rcases hv with ⟨_, hv⟩ | ⟨b, fc, v1, v2, v3, v4⟩
    · simp at hv
    · have hs := e2.ok.slots
      have hlen := e2.len
      have hw := h.ok.words
      have hfits := h.ok.fits
      have hst := h.ok.stack
      have hnn := frWords_nonneg fs
      rw [hf] at hw
      simp only [frWords] at hw
      have hfl := h.frlen
      have hll : l.length = fs.length := by have := h.frs.len; rw [hq, hf] at this; simpa using this
      rw [hf, List.length_cons, ← hll] at hfl
      have w1 : IntKind.i64.wrap (f.fn.slots + 2) = f.fn.slots + 2 := by rw [wrapI]; omega
      have w2 : IntKind.i64.wrap (σ.words - (f.fn.slots + 2)) = σ.words - (f.fn.slots + 2) := by rw [wrapI]; omega
      have w3 : IntKind.i64.wrap (l.length : Int) = (l.length : Int) := by rw [wrapI]; omega
      have hlt : (l.length : Int) < l.length + 1 := by omega
      simp only [List.map_cons, List.length_cons, List.length_map] at v1 v3 v4
      simp only [VA.cells, v1] at ho
      simp only [ptrV] at h1 ho
      have hpb2 : pb ≠ A.p := fun e => by have := (h.own A.p (by simp [VA.own])).1; omega
      have hqp : q.1 ≠ A.p := fun e => by rw [e, h.obj] at hg; simp at hg
      have hbp : b ≠ A.p := fun e => by rw [e, h.obj] at v2; simp at v2
      obtain ⟨k1, k2⟩ : VmAt (H.set A.p (.cells (({ A with fv := .slice (some ⟨b, 0, none⟩) l.length capU, fr := l } : VA).cells { σ with words := σ.words - (f.fn.slots + 2), frames := fs }) 84 false)) lo im { A with fv := .slice (some ⟨b, 0, none⟩) l.length capU, fr := l } { σ with words := σ.words - (f.fn.slots + 2), frames := fs } ∧ Nx H A (H.set A.p (.cells (({ A with fv := .slice (some ⟨b, 0, none⟩) l.length capU, fr := l } : VA).cells { σ with words := σ.words - (f.fn.slots + 2), frames := fs }) 84 false)) { A with fv := .slice (some ⟨b, 0, none⟩) l.length capU, fr := l } := by
        have hsub : List.Sublist (({ A with fv := .slice (some ⟨b, 0, none⟩) l.length capU, fr := l } : VA).own) A.own := by
          simp only [VA.own, v1, bOf, hq, frOwn]
          exact (((List.Sublist.refl _).append ((List.sublist_cons_self _ _).trans (List.sublist_cons_self _ _))).cons_cons _ |>.cons_cons _ |>.cons_cons _ |>.cons_cons _)
        refine ⟨h.setP ⟨rfl, rfl, rfl, rfl, rfl⟩ ⟨rfl, rfl, rfl⟩ rfl (fun x hx => hsub.subset hx) (hsub.nodup h.nd) e3 (.inr ⟨b, fc, by simp, v2, by simp; omega, ?_⟩) h.ov ⟨by simp only; omega, h.ok.stack, by simp only; omega, h.ok.fuel, h.ok.steps, h.ok.made, h.ok.swept, h.ok.out, h.ok.inn⟩, rfl, (Fx.refl _ _).set (.inl (by simp [VA.own])) _, fun x hx => .inl (hsub.subset hx)⟩
        simp only [List.length_map]
        have := congrArg (List.take l.length) v4
        rw [List.take_take, Nat.min_eq_left (by omega)] at this
        rw [this]
        simp
      refine ⟨_, _, .ret (.tuple #[]), ?_, k1, k2, ⟨_, rfl, rfl⟩⟩
      have hcap : l.length ≤ capU := Nat.le_trans (show l.length ≤ 32768 by omega) (by decide)
      simp [C101, regsOf, fin, iresult1, ptrV, h1, ho, hg, g1, g4, w1, w2, w3, hlt, hpb2, hqp, hbp, v2, IH.get_set, istore, Value.cells, plain1, overlay, islice, ibound, VA.cells, hcap]
theorem LAt.get {α : Type} {k : Nat} {P : Nat → Nat → α → Prop} {v : Value} {l : List α} (h : LAt lo k P v l) {i : Nat} {x : α} (hx : l[i]? = some x) : ∃ b o c, v = .slice (some ⟨b, o, none⟩) l.length c ∧ b < lo ∧ i < l.length ∧ P b (o + i * k) x := by
  obtain ⟨a, c, e, h1⟩ := h
  obtain ⟨hi, rfl⟩ := List.getElem?_eq_some_iff.1 hx
  obtain ⟨b, o, rfl, h2, h3⟩ := h1 (by omega)
  exact ⟨b, o, c, e, h2, hi, h3 i hi⟩
theorem c_pending {q : Nat × Nat} {f : Frm} (h : FrAt H lo q f) {x : Ins} (hx : pend f = some x) :
    ∃ b o, b < lo ∧ InsAt H lo b o x ∧ cal J okAll 104 #[ptrV q.1] H = some (.ret (.pointer (some ⟨b, o, none⟩)), H) := by
  rw [cal104 _ _ (by simp)]
  unfold pend at hx
  split at hx
  · rename_i hb
    obtain ⟨hb0, ha1⟩ := hb
    cases hbl : f.fn.blocks[f.block.toNat]? with
    | none => rw [hbl] at hx; simp at hx
    | some bl =>
      rw [hbl] at hx
      simp only [Option.bind_some] at hx
      obtain ⟨pb, po, hpb, hfn, hg⟩ := h.ex
      obtain ⟨cs, pr, vp, vb, g1, g2, g3, g4, g5, g6, g7⟩ := hfn.ex
      obtain ⟨b1, o1, c1, rfl, l1, i1, p1⟩ := g7.get hbl
      obtain ⟨cs2, pr2, vi, vc, g8, g9, g10, g11, g12⟩ := p1.ex
      obtain ⟨b2, o2, c2, rfl, l2, i2, p2⟩ := g12.get hx
      refine ⟨b2, _, l2, p2, ?_⟩
      have ha0 := h.at0
      have w1 : IntKind.i64.wrap (f.at_ - 1) = f.at_ - 1 := by rw [wrapI]; omega
      have q1 : f.block < f.fn.blocks.length := by omega
      have q2 : f.at_ - 1 < bl.code.length := by omega
      have q3 : 0 ≤ f.at_ - 1 := by omega
      simp [C104, regsOf, fin, iresult1, ptrV, hg, g1, g5, g8, g10, w1, q1, q2, q3, hb0, ha1, iindexAddr]
  · simp at hx
theorem m_jump (h : VmAt H lo im A σ) (hne : σ.frames ≠ []) (b : Int) : Out lo im H A (cal J okAll 97 #[ptrV A.p, .int .i64 b] H) UnitV (vJump b σ) := by
  intro r σ' hx
  rw [cal97 _ _ (by simp)]
  cases hf : σ.frames with
  | nil => exact absurd hf hne
  | cons f fs =>
    simp only [vJump, VM.upd, hf, Option.some.injEq, Prod.mk.injEq] at hx
    obtain ⟨rfl, rfl⟩ := hx
    obtain ⟨q, l, hq, e2, e3⟩ := h.top hf
    have h1 := c_top h hf hq
    obtain ⟨pb, po, hpb, hfn, hg⟩ := e2.ex
    have hqo := (h.own q.1 (by simp [VA.own, hq, frOwn])).1
    have hqq : q.2 ≠ q.1 := fun e => by have := e2.slots; rw [e, hg] at this; simp at this
    obtain ⟨u1, u2⟩ := h.setTop hf hq (f' := { f with block := b, at_ := 0 }) (y := q.1) (x := .cells [.pointer (some ⟨pb, po, none⟩), .int .i64 b, .int .i64 0, .slice (some ⟨q.2, 0, none⟩) f.slots.length f.slots.length] 138 false) (.inl rfl) rfl
      ⟨⟨pb, po, hpb, FnAt.same hfn (fun z hz => by rw [IH.get_set, if_neg (fun e => by omega)]) hpb, by rw [IH.get_set, if_pos rfl]⟩, by rw [IH.get_set, if_neg hqq]; exact e2.slots, e2.wlt, e2.len, e2.ok, by simp⟩ rfl
    simp only [ptrV] at h1
    refine ⟨_, A, .ret (.tuple #[]), ?_, u1, u2, ⟨_, rfl, rfl⟩⟩
    simp [C97, regsOf, fin, iresult1, ptrV, h1, hg, istore, Value.cells, plain1, overlay]
end
end Go.Proofs.YtchlbfmjnhgpgaaGreat.Idl
namespace Go.Proofs.YtchlbfmjnhgpgaaGreat.Idl
open Go
set_option maxHeartbeats 8000000
set_option maxRecDepth 100000
set_option linter.unusedSimpArgs false
def WsAt (H : IH) (lo : Nat) (u : Value) (ws : List Nat) : Prop :=
  (u = .slice none 0 0 ∧ ws = []) ∨ ∃ b, lo ≤ b ∧ b < H.next ∧ u = .slice (some ⟨b, 0, none⟩) ws.length capU ∧ H.get b = some (.cells (u64c ws) 62 false)
theorem bs_u64 (H : IH) (w : Int) : ibuildSlice J 136 1 [(0, .int .u64 w)] H = some (.slice (some ⟨H.next, 0, none⟩) 1 1, H.push (.cells [.int .u64 w] 62 false)) := by kernel_rfl
theorem app_u64 {H : IH} {lo : Nat} {u : Value} {ws : List Nat} (h : WsAt H lo u ws) (hlo : lo ≤ H.next) (hl : ws.length ≤ 1000000) (w : Nat) :
    ∃ u' H', iappend J #[136, 136] u (.slice (some ⟨H.next, 0, none⟩) 1 1) (H.push (.cells [.int .u64 (w : Int)] 62 false)) = some (u', H') ∧ WsAt H' lo u' (ws ++ [w]) ∧ Fr lo H H' := by
  have h1 : icells (H.push (.cells [.int .u64 (w : Int)] 62 false)) ⟨H.next, 0, none⟩ (1 * 1) = some [.int .u64 (w : Int)] := by simp [IH.get_push]
  have hn : (H.push (.cells [.int .u64 (w : Int)] 62 false)).next = H.next + 1 := by simp
  rcases h with ⟨rfl, rfl⟩ | ⟨b, b1, b2, rfl, b4⟩
  · have := app_nil st_u64 (c := 1) h1 (by simp) (by omega) (by omega)
    rw [hn] at this
    refine ⟨_, _, this, .inr ⟨H.next + 1, by omega, by simp, by simp, ?_⟩, ((Fr.refl _ _).push hlo _).push (by simp; omega) _⟩
    rw [show H.next + 1 = (H.push (.cells [.int .u64 (w : Int)] 62 false)).next by simp, IH.get_push_same]; rfl
  · have hg : (H.push (.cells [.int .u64 (w : Int)] 62 false)).get b = some (.cells (u64c ws) 62 false) := by rw [IH.get_push_other _ _ _ b2]; exact b4
    have := app_some st_u64 (c := 1) (len := ws.length) h1 (by simp) (by omega) (by omega) hg (by rw [u64c_len]; omega) (by simp [plain1])
    rw [hn] at this
    refine ⟨_, _, this, .inr ⟨H.next + 1, by omega, by simp, by simp, ?_⟩, (((Fr.refl _ _).push hlo _).set b1 _).push (by simp; omega) _⟩
    rw [show H.next + 1 = ((H.push (.cells [.int .u64 (w : Int)] 62 false)).set b .dead).next by simp, IH.get_push_same]
    rw [List.take_of_length_le (by rw [u64c_len]; omega)]; simp [u64c]
def vRead : List Int → VM (List Nat)
  | [] => VM.ret []
  | i :: l => do
    let w ← vGet i
    let ws ← vRead l
    VM.ret (w :: ws)
theorem vGet_same {σ σ' : Mst} {i : Int} {r : Except Int Nat} (hx : vGet i σ = some (r, σ')) : σ' = σ ∧ (∀ k, r = .error k → k = 6) := by
  cases hf : σ.frames with
  | nil => rw [vGet_nil hf] at hx; simp at hx
  | cons f fs =>
    rw [vGet_eq hf, Option.some.injEq, Prod.mk.injEq] at hx
    obtain ⟨rfl, rfl⟩ := hx
    refine ⟨rfl, fun k hk => ?_⟩
    split at hk <;> simp at hk
    exact hk.symm
theorem vRead_same : ∀ {l : List Int} {σ σ' : Mst} {r : Except Int (List Nat)}, vRead l σ = some (r, σ') → σ' = σ ∧ (∀ k, r = .error k → k = 6) ∧ (∀ ws, r = .ok ws → ws.length = l.length)
  | [], σ, σ', r, hx => by
    change some (Except.ok [], σ) = some (r, σ') at hx
    simp only [Option.some.injEq, Prod.mk.injEq] at hx
    obtain ⟨rfl, rfl⟩ := hx
    exact ⟨rfl, fun k hk => by simp at hk, fun ws hw => by simp at hw; simp [hw]⟩
  | i :: l, σ, σ', r, hx => by
    unfold vRead at hx
    rcases VM.bind_cases hx with ⟨w, σ1, h1, h2⟩ | ⟨k, h1, h2⟩
    · obtain ⟨rfl, _⟩ := vGet_same h1
      rcases VM.bind_cases h2 with ⟨ws, σ2, h3, h4⟩ | ⟨k, h3, h4⟩
      · obtain ⟨rfl, _, hl⟩ := vRead_same h3
        change some (Except.ok (w :: ws), σ2) = some (r, σ') at h4
        simp only [Option.some.injEq, Prod.mk.injEq] at h4
        obtain ⟨rfl, rfl⟩ := h4
        exact ⟨rfl, fun k hk => by simp at hk, fun ws' hw => by simp at hw; rw [← hw]; simp [hl ws rfl]⟩
      · obtain ⟨rfl, he, _⟩ := vRead_same h3
        subst h4
        exact ⟨rfl, fun k' hk => by simp at hk; rw [← hk]; exact he k rfl, fun ws' hw => by simp at hw⟩
    · obtain ⟨rfl, he⟩ := vGet_same h1
      subst h2
      exact ⟨rfl, fun k' hk => by simp at hk; rw [← hk]; exact he k rfl, fun ws' hw => by simp at hw⟩
section
variable {H : IH} {lo : Nat} {im : Img} {A : VA} {σ : Mst}
theorem VmAt.fr (h : VmAt H lo im A σ) {H' : IH} (f : Fr H.next H H') : VmAt H' lo im A σ := h.fx (l := []) (Fx.of_fr f) (by simp)
theorem loop100 (h : VmAt H lo im A σ) {v : Value} {l : List Int} (hl : IntsAt H lo v l) (hlen : l.length ≤ 1000000) : ∀ (rest : List Int) (i : Nat) (T : Regs) (H' : IH) (ws : List Nat) (r : Except Int (List Nat)) (σ' : Mst),
    l.drop i = rest → i ≤ l.length → Fr H.next H H' → vRead rest σ = some (r, σ') → WsAt H' H.next (T.at 4) ws → ws.length = i → (∀ w ∈ ws, w < 18446744073709551616) → T.at 0 = ptrV A.p → T.at 7 = v → T.at 8 = .int .i64 (l.length : Int) → T.at 9 = .int .i64 (i : Int) →
    ∃ T' H'', Fr H.next H H'' ∧ ((∃ ws', r = .ok ws' ∧ run J okAll (.loop L100_0) T H' = some (.exit 0, T', H'') ∧ WsAt H'' H.next (T'.at 4) (ws ++ ws') ∧ (∀ w ∈ ws', w < 18446744073709551616)) ∨ (r = .error 6 ∧ run J okAll (.loop L100_0) T H' = some (.pan (overV 6), T', H''))) := by
  intro rest
  induction rest with
  | nil =>
    intro i T H' ws r σ' hr hi hf hx hw hwl hwlt t0 t7 t8 t9
    have : i = l.length := by have := congrArg List.length hr; simp at this; omega
    subst this
    change some (Except.ok [], σ) = some (r, σ') at hx
    simp only [Option.some.injEq, Prod.mk.injEq] at hx
    obtain ⟨rfl, rfl⟩ := hx
    rw [r_loop]
    simp [L100_0, t7, t8, t9]
    exact ⟨_, _, hf, ⟨rfl, rfl⟩, by simpa using hw⟩
  | cons j rest ih =>
    intro i T H' ws r σ' hr hi hf hx hw hwl hwlt t0 t7 t8 t9
    have hlt : i < l.length := by have := congrArg List.length hr; simp at this; omega
    have hj : l[i]? = some j := by have := congrArg (fun u => u[0]?) hr; simpa using this
    have hr2 : l.drop (i + 1) = rest := by rw [← List.tail_drop, hr]; rfl
    obtain ⟨b, o, c, rfl, hb, _, hcell⟩ := hl.get hj
    have hsb : SameB lo H H' := fun x hx => hf.2 x (Nat.lt_of_lt_of_le hx h.lo)
    obtain ⟨cs, pr, hg, hcs⟩ := hcell.same hsb hb
    simp only [Nat.mul_one] at hcs
    have h' := h.fr hf
    have hw1 : IntKind.i64.wrap ((i : Int) + 1) = ((i + 1 : Nat) : Int) := by rw [wrap64 _ (by omega) (by omega)]; simp
    unfold vRead at hx
    rcases VM.bind_cases hx with ⟨w, σ1, h1, h2⟩ | ⟨k, h1, h2⟩
    · obtain ⟨rfl, h3⟩ := rd_slot h' h1
      rcases h3 with ⟨w', b2, o2, e1, e2, e3, e4⟩ | ⟨e1, _⟩
      · simp only [Except.ok.injEq] at e1
        subst e1
        obtain ⟨u', H2, a1, a2, a3⟩ := app_u64 hw hf.1 (by omega) w
        simp only [intV, ptrV] at hcs e3 t0
        obtain ⟨T1, s1, s2, s3, s4, s5, s6⟩ : ∃ T1, run J okAll (.loop L100_0) T H' = run J okAll (.loop L100_0) T1 H2 ∧ T1.at 4 = u' ∧ T1.at 0 = .pointer (some ⟨A.p, 0, none⟩) ∧ T1.at 7 = .slice (some ⟨b, o, none⟩) l.length c ∧ T1.at 8 = .int .i64 (l.length : Int) ∧ T1.at 9 = .int .i64 ((i + 1 : Nat) : Int) := by
          rw [r_loop]
          simp [L100_0, t0, t7, t8, t9, hlt, iindexAddr, hg, hcs, e3, e4, bs_u64, iparts, a1, hw1]
          exact ⟨_, rfl, by simp, by simp [t0], by simp [t7], by simp [t8], by simp⟩
        rw [s1]
        rcases VM.bind_cases h2 with ⟨ws2, σ2, h4, h5⟩ | ⟨k, h4, h5⟩
        · change some (Except.ok (w :: ws2), σ2) = some (r, σ') at h5
          simp only [Option.some.injEq, Prod.mk.injEq] at h5
          obtain ⟨rfl, rfl⟩ := h5
          obtain ⟨T', H3, f3, g⟩ := ih (i + 1) T1 H2 (ws ++ [w]) (.ok ws2) σ2 hr2 (by omega) (hf.trans a3) h4 (by rw [s2]; exact a2) (by simp [hwl]) (fun x hx => by rcases List.mem_append.1 hx with hx | hx; exact hwlt x hx; simp at hx; omega) s3 s4 s5 s6
          refine ⟨T', H3, f3, ?_⟩
          rcases g with ⟨ws', g1, g2, g3, g4⟩ | ⟨g1, _⟩
          · simp only [Except.ok.injEq] at g1
            subst g1
            exact .inl ⟨_, rfl, g2, by simpa using g3, fun x hx => by rcases List.mem_cons.1 hx with hx | hx; omega; exact g4 x hx⟩
          · simp at g1
        · subst h5
          obtain ⟨T', H3, f3, g⟩ := ih (i + 1) T1 H2 (ws ++ [w]) (.error k) σ' hr2 (by omega) (hf.trans a3) h4 (by rw [s2]; exact a2) (by simp [hwl]) (fun x hx => by rcases List.mem_append.1 hx with hx | hx; exact hwlt x hx; simp at hx; omega) s3 s4 s5 s6
          refine ⟨T', H3, f3, ?_⟩
          rcases g with ⟨ws', g1, g2, g3⟩ | ⟨g1, g2⟩
          · simp at g1
          · simp only [Except.error.injEq] at g1
            subst g1
            exact .inr ⟨rfl, g2⟩
      · simp at e1
    · obtain ⟨rfl, h3⟩ := rd_slot h' h1
      rcases h3 with ⟨w', b2, o2, e1, _⟩ | ⟨e1, e2⟩
      · simp at e1
      · simp only [Except.error.injEq] at e1
        subst e1 h2
        simp only [intV, ptrV] at hcs e2 t0
        rw [r_loop]
        simp [L100_0, t0, t7, t8, t9, hlt, iindexAddr, hg, hcs, e2]
        exact hf
theorem m_read (h : VmAt H lo im A σ) {v : Value} {l : List Int} (hl : IntsAt H lo v l) (hlen : l.length ≤ 1000000) {r : Except Int (List Nat)} {σ' : Mst} (hx : vRead l σ = some (r, σ')) :
    σ' = σ ∧ ∃ H', Fr H.next H H' ∧ ((∃ ws u, r = .ok ws ∧ cal J okAll 100 #[ptrV A.p, v] H = some (.ret u, H') ∧ WsAt H' H.next u ws ∧ (∀ w ∈ ws, w < 18446744073709551616)) ∨ (r = .error 6 ∧ cal J okAll 100 #[ptrV A.p, v] H = some (.pan (overV 6), H'))) := by
  obtain ⟨e, _⟩ := vRead_same hx
  refine ⟨e, ?_⟩
  rw [cal100 _ _ (by simp)]
  obtain ⟨a, c, hv, _⟩ := id hl
  subst hv
  simp [C100, regsOf, fin, iresult1, ptrV]
  generalize hX : run J okAll (.loop L100_0) _ _ = X
  obtain ⟨T1, hT, a4, a0, a7, a8, a9⟩ : ∃ T1, run J okAll (.loop L100_0) T1 H = X ∧ T1.at 4 = .slice none 0 0 ∧ T1.at 0 = ptrV A.p ∧ T1.at 7 = .slice a l.length c ∧ T1.at 8 = .int .i64 (l.length : Int) ∧ T1.at 9 = .int .i64 ((0 : Nat) : Int) := ⟨_, hX, by simp, by simp [ptrV], by simp, by simp, by simp⟩
  obtain ⟨T', H', f, g⟩ := loop100 h hl hlen l 0 T1 H [] r σ' rfl (by omega) (Fr.refl _ _) hx (.inl ⟨a4, rfl⟩) rfl (by simp) a0 a7 a8 a9
  rcases g with ⟨ws', rfl, g2, g3, g4⟩ | ⟨rfl, g2⟩
  · rw [hT] at g2
    subst g2
    simp [regsOf, fin, iresult1]
    exact ⟨H', f, T'.at 4, ⟨rfl, rfl⟩, by simpa using g3, g4⟩
  · rw [hT] at g2
    subst g2
    simp [regsOf, fin, iresult1]
    exact f
end
end Go.Proofs.YtchlbfmjnhgpgaaGreat.Idl
namespace Go.Proofs.YtchlbfmjnhgpgaaGreat.Idl
open Go
set_option maxHeartbeats 8000000
set_option maxRecDepth 100000
set_option linter.unusedSimpArgs false
def vKeepGo : List Int → List Nat → VM (List Nat)
  | [], nx => VM.ret nx
  | i :: l, nx => do
    let w ← vGet i
    vKeepGo l (nx.set i.toNat w)
def vKeep (live : List Int) : VM Unit := do
  let f ← vTop
  let nx ← vKeepGo live (List.replicate f.slots.length 1)
  VM.upd fun σ => match σ.frames with
    | f :: fs => { σ with frames := { f with slots := nx } :: fs }
    | [] => σ
theorem vGet_ok {σ σ' : Mst} {f : Frm} {fs : List Frm} (hf : σ.frames = f :: fs) {i : Int} {w : Nat} (hx : vGet i σ = some (.ok w, σ')) : 0 ≤ i ∧ i < f.slots.length := by
  rw [vGet_eq hf, Option.some.injEq, Prod.mk.injEq] at hx
  obtain ⟨h1, _⟩ := hx
  split at h1
  · rename_i h; simp only [Bool.and_eq_true, decide_eq_true_eq] at h; exact h
  · simp at h1
section
variable {H : IH} {lo : Nat} {im : Img} {A : VA} {σ : Mst}
theorem loop111a (n nb : Nat) (hn : n ≤ 200) (K : Nat → Value) (hnb : H.next ≤ nb) (k5 : K 5 = .slice (some ⟨nb, 0, none⟩) n n) : ∀ (d i : Nat) (T : Regs) (H' : IH), i + d = n → Fr H.next H H' → nb < H'.next → H'.get nb = some (.cells (u64c (List.replicate i 1 ++ List.replicate d 0)) 62 false) →
    (∀ t, t < 6 → T.at t = K t) → T.at 19 = .int .i64 (n : Int) → T.at 20 = .int .i64 (i : Int) →
    ∃ T' H'', run J okAll (.loop L111_0) T H' = some (.exit 0, T', H'') ∧ Fr H.next H H'' ∧ nb < H''.next ∧ H''.get nb = some (.cells (u64c (List.replicate n 1)) 62 false) ∧ (∀ t, t < 6 → T'.at t = K t) := by
  intro d
  induction d with
  | zero =>
    intro i T H' hd hf hnb2 hg hK t19 t20
    have : i = n := by omega
    subst this
    rw [r_loop]
    simp [L111_0, t19, t20]
    exact ⟨_, _, ⟨rfl, rfl⟩, hf, hnb2, by simpa using hg, fun t ht => by simp (disch := omega) only [at_set_gt]; exact hK t ht⟩
  | succ d ih =>
    intro i T H' hd hf hnb2 hg hK t19 t20
    have hlt : i < n := by omega
    have t5 := (hK 5 (by omega)).trans k5
    have hi := c_Imm H' 0 (by omega)
    have hi1 : ((wImm 0 : Nat) : Int) = 1 := rfl
    have hw1 : IntKind.i64.wrap ((i : Int) + 1) = ((i + 1 : Nat) : Int) := by rw [wrap64 _ (by omega) (by omega)]; simp
    have hl0 : i + 1 ≤ i + (d + 1) := by omega
    have e6 : List.take i (u64c (List.replicate i 1 ++ List.replicate (d + 1) 0)) ++ Value.int .u64 1 :: List.drop (i + 1) (u64c (List.replicate i 1 ++ List.replicate (d + 1) 0)) = u64c (List.replicate (i + 1) 1 ++ List.replicate d 0) := by
      rw [show (Value.int .u64 1) = Value.int .u64 ((1 : Nat) : Int) from rfl, u64c_put _ _ 1 (by simp)]
      congr 1
      rw [List.set_append_right _ _ (by simp), List.length_replicate, Nat.sub_self, List.replicate_succ, List.set_cons_zero, List.replicate_succ']
      simp
    rw [r_loop]
    simp [L111_0, t5, t19, t20, hlt, hg, iindexAddr, hi, hi1, istore, Value.cells, plain1, overlay, u64c_len, hl0, e6, hw1]
    exact ih (i + 1) _ _ (by omega) (hf.set hnb _) (by simpa using hnb2) (by rw [IH.get_set, if_pos rfl]) (fun t ht => by simp (disch := omega) only [at_set_gt]; exact hK t ht) (by simp [t19]) (by simp)
theorem loop111b (h : VmAt H lo im A σ) {f : Frm} {fs : List Frm} (hf : σ.frames = f :: fs) {v : Value} {l : List Int} (hl : IntsAt H lo v l) (hlen : l.length ≤ 1000000) (nb n : Nat) (hn : n = f.slots.length) (K : Nat → Value) (hnb : H.next ≤ nb) (k0 : K 0 = ptrV A.p) (k5 : K 5 = .slice (some ⟨nb, 0, none⟩) n n) :
    ∀ (rest : List Int) (i : Nat) (T : Regs) (H' : IH) (nx : List Nat) (r : Except Int (List Nat)) (σ' : Mst),
    l.drop i = rest → i ≤ l.length → Fr H.next H H' → nb < H'.next → H'.get nb = some (.cells (u64c nx) 62 false) → nx.length = n → (∀ w ∈ nx, w < 18446744073709551616) → vKeepGo rest nx σ = some (r, σ') → (∀ t, t < 6 → T.at t = K t) → T.at 28 = v → T.at 29 = .int .i64 (l.length : Int) → T.at 30 = .int .i64 (i : Int) →
    σ' = σ ∧ ∃ T' H'', Fr H.next H H'' ∧ nb < H''.next ∧ ((∃ nx', r = .ok nx' ∧ run J okAll (.loop L111_1) T H' = some (.exit 2, T', H'') ∧ H''.get nb = some (.cells (u64c nx') 62 false) ∧ nx'.length = n ∧ (∀ w ∈ nx', w < 18446744073709551616) ∧ (∀ t, t < 6 → T'.at t = K t)) ∨ (r = .error 6 ∧ run J okAll (.loop L111_1) T H' = some (.pan (overV 6), T', H''))) := by
  intro rest
  induction rest with
  | nil =>
    intro i T H' nx r σ' hr hi hfr hnb2 hg hnl hwlt hx hK t28 t29 t30
    have : i = l.length := by have := congrArg List.length hr; simp at this; omega
    subst this
    change some (Except.ok nx, σ) = some (r, σ') at hx
    simp only [Option.some.injEq, Prod.mk.injEq] at hx
    obtain ⟨rfl, rfl⟩ := hx
    refine ⟨rfl, ?_⟩
    rw [r_loop]
    simp [L111_1, t28, t29, t30]
    exact ⟨_, _, hfr, hnb2, ⟨rfl, rfl⟩, hg, hnl, hwlt, fun t ht => by simp (disch := omega) only [at_set_gt]; exact hK t ht⟩
  | cons j rest ih =>
    intro i T H' nx r σ' hr hi hfr hnb2 hg hnl hwlt hx hK t28 t29 t30
    have hlt : i < l.length := by have := congrArg List.length hr; simp at this; omega
    have hj : l[i]? = some j := by have := congrArg (fun u => u[0]?) hr; simpa using this
    have hr2 : l.drop (i + 1) = rest := by rw [← List.tail_drop, hr]; rfl
    obtain ⟨b, o, c, rfl, hb, _, hcell⟩ := hl.get hj
    have hsb : SameB lo H H' := fun x hx => hfr.2 x (Nat.lt_of_lt_of_le hx h.lo)
    obtain ⟨cs, pr, hgc, hcs⟩ := hcell.same hsb hb
    simp only [Nat.mul_one] at hcs
    have h' := h.fr hfr
    have t0 := (hK 0 (by omega)).trans k0
    have t5 := (hK 5 (by omega)).trans k5
    have hw1 : IntKind.i64.wrap ((i : Int) + 1) = ((i + 1 : Nat) : Int) := by rw [wrap64 _ (by omega) (by omega)]; simp
    unfold vKeepGo at hx
    rcases VM.bind_cases hx with ⟨w, σ1, h1, h2⟩ | ⟨k, h1, h2⟩
    · obtain ⟨g1, g2⟩ := vGet_ok hf h1
      obtain ⟨rfl, h3⟩ := rd_slot h' h1
      rcases h3 with ⟨w', b2, o2, e1, e2, e3, e4⟩ | ⟨e1, _⟩
      · simp only [Except.ok.injEq] at e1
        subst e1
        simp only [intV, ptrV] at hcs e3 t0
        have g3 : j < n := by omega
        have g4 : j.toNat + 1 ≤ nx.length := by omega
        have g5 : j.toNat < nx.length := by omega
        obtain ⟨T1, s1, s2, s4, s5, s6⟩ : ∃ T1, run J okAll (.loop L111_1) T H' = run J okAll (.loop L111_1) T1 (H'.set nb (.cells (u64c (nx.set j.toNat w)) 62 false)) ∧ (∀ t, t < 6 → T1.at t = K t) ∧ T1.at 28 = .slice (some ⟨b, o, none⟩) l.length c ∧ T1.at 29 = .int .i64 (l.length : Int) ∧ T1.at 30 = .int .i64 ((i + 1 : Nat) : Int) := by
          rw [r_loop]
          simp [L111_1, t0, t5, t28, t29, t30, hlt, iindexAddr, hgc, hcs, e3, e4, hg, g1, g3, g4, istore, Value.cells, plain1, overlay, u64c_len, u64c_put, g5, hw1]
          exact ⟨_, rfl, fun t ht => by simp (disch := omega) only [at_set_gt]; exact hK t ht, by simp [t28], by simp [t29], by simp⟩
        rw [s1]
        exact ih (i + 1) T1 _ (nx.set j.toNat w) r σ' hr2 (by omega) (hfr.set hnb _) (by simpa using hnb2) (by rw [IH.get_set, if_pos rfl]) (by simpa using hnl) (fun x hx => by rcases List.mem_or_eq_of_mem_set hx with h5 | h5; exact hwlt x h5; omega) h2 s2 s4 s5 s6
      · simp at e1
    · obtain ⟨rfl, h3⟩ := rd_slot h' h1
      rcases h3 with ⟨w', b2, o2, e1, _⟩ | ⟨e1, e2⟩
      · simp at e1
      · simp only [Except.error.injEq] at e1
        subst e1 h2
        simp only [intV, ptrV] at hcs e2 t0
        refine ⟨rfl, ?_⟩
        rw [r_loop]
        simp [L111_1, t0, t28, t29, t30, hlt, iindexAddr, hgc, hcs, e2]
        exact ⟨_, _, hfr, hnb2, rfl, rfl⟩
theorem VmAt.newTop (h : VmAt H lo im A σ) {f f' : Frm} {fs : List Frm} (hf : σ.frames = f :: fs) {q : Nat × Nat} {l : List (Nat × Nat)} (hq : A.fr = q :: l) {nb : Nat} (hnb : nb ∉ A.own) (hnl : lo ≤ nb) (hnn : nb < H.next) {H' : IH} {x : Blk}
    (hH : H' = H.set q.1 x) (hfr : FrAt H' lo (q.1, nb) f') (hl : f'.slots.length = f.slots.length) : VmAt H' lo im { A with fr := (q.1, nb) :: l } { σ with frames := f' :: fs } ∧ Fx A.own H H' ∧ ∀ x ∈ ({ A with fr := (q.1, nb) :: l } : VA).own, x ∈ A.own ∨ x = nb := by
  have hfo : frOwn A.fr = q.1 :: q.2 :: frOwn l := by rw [hq]; rfl
  have hy1 : q.1 ∈ frOwn A.fr := by rw [hfo]; simp
  have hyo : q.1 ∈ A.own := by simp only [VA.own, List.mem_cons, List.mem_append]; simp [hy1]
  obtain ⟨s1, s2, s3, s4, s5, s6, s7⟩ := VA.own_split h.nd q.1 hy1
  have hg : ∀ z, z ≠ q.1 → H'.get z = H.get z := fun z hz => by rw [hH, IH.get_set, if_neg hz]
  have hs : SameB lo H H' := fun z hz => hg z (fun e => by have := (h.own q.1 hyo).1; omega)
  have h1 := h.nd
  have hnd : (frOwn (q :: l)).Nodup := by
    simp only [VA.own, List.nodup_cons] at h1
    have h2 := (List.nodup_append.1 h1.2.2.2.2).2.1
    rw [hq] at h2
    exact h2
  obtain ⟨n1, n2, n3, n4⟩ := frOwn_nd hnd
  have hn : H'.next = H.next := by rw [hH]; rfl
  have hfx : Fx A.own H H' := by rw [hH]; exact (Fx.refl _ _).set (.inl hyo) _
  have hown : ∀ x ∈ ({ A with fr := (q.1, nb) :: l } : VA).own, x ∈ A.own ∨ x = nb := by
    intro x hx
    simp only [VA.own, frOwn, List.mem_cons, List.mem_append, hq] at hx ⊢
    rcases hx with hx | hx | hx | hx | hx | hx | hx | hx <;> simp [hx]
  obtain ⟨q', l', e1, e2, e3⟩ := h.top hf
  rw [hq] at e1
  simp only [List.cons.injEq] at e1
  obtain ⟨rfl, rfl⟩ := e1
  have hnd2 : ({ A with fr := (q.1, nb) :: l } : VA).own.Nodup := by
    have hp : A.own = (A.p :: A.hp.p :: A.hp.wb :: A.hp.hb :: (bOf A.hp.lv ++ bOf A.fv ++ bOf A.ov ++ [q.1])) ++ q.2 :: frOwn l := by simp [VA.own, hfo]
    have hp2 : ({ A with fr := (q.1, nb) :: l } : VA).own = (A.p :: A.hp.p :: A.hp.wb :: A.hp.hb :: (bOf A.hp.lv ++ bOf A.fv ++ bOf A.ov ++ [q.1])) ++ nb :: frOwn l := by simp [VA.own, frOwn]
    rw [hp] at h1 hnb
    rw [hp2]
    obtain ⟨m1, m2, m3⟩ := List.nodup_append.1 h1
    have hnb1 := fun hm => hnb (List.mem_append_left _ hm)
    have hnb2 := fun hm => hnb (List.mem_append_right _ (List.mem_cons_of_mem _ hm))
    refine List.nodup_append.2 ⟨m1, List.nodup_cons.2 ⟨hnb2, (List.nodup_cons.1 m2).2⟩, fun a ha b hb => ?_⟩
    rcases List.mem_cons.1 hb with rfl | hb
    · exact fun e => hnb1 (e ▸ ha)
    · exact m3 a ha b (List.mem_cons_of_mem _ hb)
  refine ⟨⟨(hg _ (Ne.symm s1)).trans h.obj, h.img.same hs, h.hp.same (by omega) (hg _ (Ne.symm s2)) (hg _ (Ne.symm s3)) (hg _ (Ne.symm s4)) (fun z hm => hg z (fun e => s5 (e ▸ hm))), h.inp.mono fun _ _ _ hb hx => CellAt.same hx hs hb, h.col.mono fun _ _ _ hb hx => CellAt.same hx hs hb,
    .cons hfr (e3.same hs fun z hm => hg z fun e => n2 (e ▸ hm)), ?_, h.ov.same fun z hm => hg z (fun e => s7 (e ▸ hm)), hnd2, fun x hm => by rw [hn]; rcases hown x hm with hm | rfl; exact h.own x hm; exact ⟨hnl, hnn⟩, by rw [hn]; exact h.lo, ⟨?_, h.ok.stack, h.ok.fits, h.ok.fuel, h.ok.steps, h.ok.made, h.ok.swept, h.ok.out, h.ok.inn⟩, h.imok⟩, hfx, hown⟩
  · have := FvAt.same (H' := H') h.fv fun z hm => hg z (fun e => s6 (e ▸ hm))
    rw [hq] at this
    exact this
  · have := h.ok.words
    rw [hf] at this
    simp only [frWords] at this ⊢
    rw [hl]; exact this
theorem m_keep (h : VmAt H lo im A σ) {v : Value} {l : List Int} (hl : IntsAt H lo v l) (hlen : l.length ≤ 1000000) : Out lo im H A (cal J okAll 111 #[ptrV A.p, v] H) UnitV (vKeep l σ) := by
  intro r σ' hx
  rw [cal111 _ _ (by simp)]
  unfold vKeep at hx
  cases hf : σ.frames with
  | nil =>
    rw [VM.bind_none (vTop_nil hf)] at hx
    simp at hx
  | cons f fs =>
    rw [VM.bind_ok (vTop_eq hf)] at hx
    obtain ⟨q, ql, hq, e2, e3⟩ := h.top hf
    have h1 := c_top h hf hq
    obtain ⟨pb, po, hpb, hfn, hg⟩ := e2.ex
    obtain ⟨a, c, hv, _⟩ := id hl
    subst hv
    have hs := e2.ok.slots
    have hle := e2.len
    have hn200 : f.slots.length ≤ 200 := by omega
    have m1 := mk_u64 H f.slots.length (by omega)
    have hn0 : H.next ≤ H.next := Nat.le_refl _
    simp only [ptrV] at h1
    simp [C111, regsOf, fin, iresult1, ptrV, h1, hg, m1]
    generalize hX : run J okAll (.loop L111_0) _ _ = X
    obtain ⟨T1, hT, a0, a4, a5, a19, a20, a1⟩ : ∃ T1, run J okAll (.loop L111_0) T1 (H.push (.cells (u64c (List.replicate f.slots.length 0)) 62 false)) = X ∧ T1.at 0 = ptrV A.p ∧ T1.at 4 = ptrV q.1 ∧ T1.at 5 = .slice (some ⟨H.next, 0, none⟩) f.slots.length f.slots.length ∧ T1.at 19 = .int .i64 (f.slots.length : Int) ∧ T1.at 20 = .int .i64 ((0 : Nat) : Int) ∧ T1.at 1 = .slice a l.length c := ⟨_, hX, by simp [ptrV], by simp [ptrV], by simp, by simp, by simp, by simp⟩
    obtain ⟨T2, H2, g1, g2, g3, g4, g5⟩ := loop111a (H := H) f.slots.length H.next hn200 (fun t => T1.at t) hn0 a5 f.slots.length 0 T1 (H.push (.cells (u64c (List.replicate f.slots.length 0)) 62 false)) (by omega) ((Fr.refl _ _).push hn0 _) (by simp) (by rw [IH.get_push_same]; rfl) (fun t ht => rfl) a19 a20
    have g1 := hT.symm.trans g1
    subst g1
    have b0 := (g5 0 (by omega)).trans a0
    have b1 := (g5 1 (by omega)).trans a1
    have b4 := (g5 4 (by omega)).trans a4
    have b5 := (g5 5 (by omega)).trans a5
    simp only [ptrV] at b0 b4
    simp [b0, b1, b4, b5]
    generalize hY : run J okAll (.loop L111_1) _ _ = Y
    obtain ⟨T3, hT3, c0, c4, c5, c28, c29, c30⟩ : ∃ T3, run J okAll (.loop L111_1) T3 H2 = Y ∧ T3.at 0 = ptrV A.p ∧ T3.at 4 = ptrV q.1 ∧ T3.at 5 = .slice (some ⟨H.next, 0, none⟩) f.slots.length f.slots.length ∧ T3.at 28 = .slice a l.length c ∧ T3.at 29 = .int .i64 (l.length : Int) ∧ T3.at 30 = .int .i64 ((0 : Nat) : Int) := ⟨_, hY, by simp [b0, ptrV], by simp [b4, ptrV], by simp [b5], by simp, by simp, by simp⟩
    have hlb := loop111b h hf hl hlen H.next f.slots.length rfl (fun t => T3.at t) hn0 c0 c5 l 0 T3 H2 (List.replicate f.slots.length 1)
    rcases VM.bind_cases hx with ⟨nx, σ1, x1, x2⟩ | ⟨k, x1, x2⟩
    · obtain ⟨rfl, T4, H4, f4, n4, d⟩ := hlb _ σ1 rfl (by omega) g2 g3 g4 (by simp) (fun w hw => by rw [List.eq_of_mem_replicate hw]; decide) x1 (fun t ht => rfl) c28 c29 c30
      rcases d with ⟨nx', d1, d2, d3, d4, d5, d6⟩ | ⟨d1, _⟩
      · simp only [Except.ok.injEq] at d1
        subst d1
        have d2 := hT3.symm.trans d2
        subst d2
        have u4 := (d6 4 (by omega)).trans c4
        have u5 := (d6 5 (by omega)).trans c5
        simp only [ptrV] at u4
        simp only [VM.upd, hf, Option.some.injEq, Prod.mk.injEq] at x2
        obtain ⟨rfl, rfl⟩ := x2
        have h4 := h.fr f4
        obtain ⟨q', ql', y1, y2, y3⟩ := h4.top hf
        rw [hq] at y1
        simp only [List.cons.injEq] at y1
        obtain ⟨rfl, rfl⟩ := y1
        obtain ⟨pb', po', hpb', hfn', hg'⟩ := y2.ex
        simp [regsOf, fin, iresult1, u4, u5, hg', istore, Value.cells, plain1, overlay]
        have hqo := (h4.own q.1 (by simp [VA.own, hq, frOwn])).1
        have hlo := h.lo
        have hnbq : H.next ≠ q.1 := fun e => by have := (h.own q.1 (by simp [VA.own, hq, frOwn])).2; omega
        obtain ⟨u1, u2, u3⟩ := h4.newTop hf hq (f' := { f with slots := nx }) (nb := H.next) (x := .cells [.pointer (some ⟨pb', po', none⟩), .int .i64 f.block, .int .i64 f.at_, .slice (some ⟨H.next, 0, none⟩) nx.length nx.length] 138 false) (fun hm => by have := (h.own _ hm).2; omega) hlo n4 rfl
          ⟨⟨pb', po', hpb', FnAt.same hfn' (fun z hz => by rw [IH.get_set, if_neg (fun e => by omega)]) hpb', by rw [IH.get_set, if_pos rfl]⟩, by rw [IH.get_set, if_neg hnbq]; exact d3, d5, by rw [d4]; exact e2.len, e2.ok, e2.at0⟩ d4
        rw [d4] at u1 u2
        refine ⟨_, _, _, ⟨rfl, rfl⟩, u1, ⟨rfl, (Fx.of_fr f4).trans u2 (fun x hx => .inl hx), fun x hx => (u3 x hx).imp id (fun e => by omega)⟩, ⟨_, rfl, rfl⟩⟩
      · simp at d1
    · obtain ⟨rfl, T4, H4, f4, n4, d⟩ := hlb _ σ' rfl (by omega) g2 g3 g4 (by simp) (fun w hw => by rw [List.eq_of_mem_replicate hw]; decide) x1 (fun t ht => rfl) c28 c29 c30
      rcases d with ⟨nx', d1, _⟩ | ⟨d1, d2⟩
      · simp at d1
      · simp only [Except.error.injEq] at d1
        subst d1 x2
        have d2 := hT3.symm.trans d2
        subst d2
        simp [regsOf, fin, iresult1]
        exact ⟨H4, A, .pan (overV 6), ⟨rfl, rfl⟩, h.fr f4, ⟨rfl, Fx.of_fr f4, fun x hx => .inl hx⟩, rfl⟩
end
end Go.Proofs.YtchlbfmjnhgpgaaGreat.Idl
namespace Go.Proofs.YtchlbfmjnhgpgaaGreat.Idl
open Go
set_option maxHeartbeats 8000000
set_option maxRecDepth 100000
set_option linter.unusedSimpArgs false
def Fn.frame (x : Fn) (args : List Nat) : Frm := ⟨x, 0, 0, args ++ List.replicate (x.slots.toNat - args.length) 1⟩
def vCall (im : Img) (fi : Int) (args : List Nat) : VM Unit := do
  vMust (decide (0 ≤ fi) && decide (fi < im.funcs.length))
  let x ← VM.of fun _ => im.funcs[fi.toNat]?
  vMust (decide ((args.length : Int) ≤ x.slots) && decide (args.length = x.params.length) && decide (0 < x.blocks.length))
  let full ← VM.get fun σ => decide (σ.stack < σ.words + x.slots + 2)
  if full then vEnd 5 else
  VM.upd fun σ => { σ with words := σ.words + (x.slots + 2), frames := x.frame args :: σ.frames }
def ArgAt (H : IH) (u : Value) (ws : List Nat) : Prop := (u = .slice none 0 0 ∧ ws = []) ∨ ∃ b c, u = .slice (some ⟨b, 0, none⟩) ws.length c ∧ b < H.next ∧ H.get b = some (.cells (u64c ws) 62 false)
section
variable {H : IH} {lo : Nat} {im : Img} {A A' : VA} {σ σ' : Mst}
theorem loop65 (G : IH) (fb sb : Nat) (x0 x1 x2 : Value) (args : List Nat) (n : Nat) (hn : n ≤ 200) (K : Nat → Value) (hfs : fb ≠ sb) (hfb : G.get fb = some (.cells [x0, x1, x2, .slice (some ⟨sb, 0, none⟩) n n] 138 false)) (k7 : K 7 = ptrV fb) :
    ∀ (d i : Nat) (T : Regs) (H' : IH), args.length + i + d = n → H'.next = G.next → (∀ x, x ≠ sb → H'.get x = G.get x) → H'.get sb = some (.cells (u64c (args ++ List.replicate i 1 ++ List.replicate d 0)) 62 false) →
    (∀ t, t < 8 → T.at t = K t) → T.at 8 = .int .i64 ((args.length + i : Nat) : Int) →
    ∃ T' H'', run J okAll (.loop L65_0) T H' = some (.exit 0, T', H'') ∧ H''.next = G.next ∧ (∀ x, x ≠ sb → H''.get x = G.get x) ∧ H''.get sb = some (.cells (u64c (args ++ List.replicate (n - args.length) 1)) 62 false) ∧ (∀ t, t < 8 → T'.at t = K t) := by
  intro d
  induction d with
  | zero =>
    intro i T H' hd hnx hx hg hK t8
    have t7 := (hK 7 (by omega)).trans k7
    have hgf := (hx fb hfs).trans hfb
    have e : args.length + i = n := by omega
    rw [e] at t8
    rw [r_loop]
    simp only [ptrV] at t7
    simp [L65_0, t7, t8, hgf]
    exact ⟨_, _, ⟨rfl, rfl⟩, hnx, hx, by rw [hg]; simp [show n - args.length = i by omega], fun t ht => by simp (disch := omega) only [at_set_gt]; exact hK t ht⟩
  | succ d ih =>
    intro i T H' hd hnx hx hg hK t8
    have t7 := (hK 7 (by omega)).trans k7
    have hgf := (hx fb hfs).trans hfb
    obtain ⟨j, hj⟩ : ∃ j, j = args.length + i := ⟨_, rfl⟩
    rw [← hj] at t8
    have hlt : j < n := by omega
    have hi := c_Imm H' 0 (by omega)
    have hi1 : ((wImm 0 : Nat) : Int) = 1 := rfl
    have hw1 : IntKind.i64.wrap ((j : Int) + 1) = ((args.length + (i + 1) : Nat) : Int) := by rw [wrap64 _ (by omega) (by omega)]; simp; omega
    have hll : (args ++ List.replicate i 1 ++ List.replicate (d + 1) 0).length = n := by simp; omega
    have hl0 : j + 1 ≤ n := by omega
    have e6 : List.take j (u64c (args ++ List.replicate i 1 ++ List.replicate (d + 1) 0)) ++ Value.int .u64 1 :: List.drop (j + 1) (u64c (args ++ List.replicate i 1 ++ List.replicate (d + 1) 0)) = u64c (args ++ List.replicate (i + 1) 1 ++ List.replicate d 0) := by
      rw [show (Value.int .u64 1) = Value.int .u64 ((1 : Nat) : Int) from rfl, u64c_put _ _ 1 (by omega)]
      congr 1
      have hz : j - (args ++ List.replicate i 1).length = 0 := by simp; omega
      rw [List.set_append_right _ _ (by simp; omega), hz, List.replicate_succ, List.set_cons_zero, List.replicate_succ']
      simp
    rw [r_loop]
    simp only [ptrV] at t7
    have hlen2 := u64c_len (args ++ List.replicate i 1 ++ List.replicate (d + 1) 0)
    rw [hll] at hlen2
    generalize hL : u64c (args ++ List.replicate i 1 ++ List.replicate (d + 1) 0) = L at *
    simp [L65_0, t7, t8, hgf, hlt, hg, iindexAddr, hi, hi1, istore, Value.cells, plain1, overlay, hlen2, hl0, e6, hw1]
    exact ih (i + 1) _ _ (by omega) (by simpa using hnx) (fun x hne => by rw [IH.get_set, if_neg hne]; exact hx x hne) (by rw [IH.get_set, if_pos rfl]; simp) (fun t ht => by simp (disch := omega) only [at_set_gt]; exact hK t ht) (by simp)
theorem bOf_some (a : Addr) (n c : Nat) : bOf (.slice (some a) n c) = [a.block] := rfl
theorem VmAt.pushFrame (h : VmAt H lo im A σ) {H' : IH} {f : Frm} {fb sb nfb : Nat} {w : Int} (hn : H.next ≤ H'.next) (hx : ∀ x, x < H.next → x ≠ A.p → x ∉ bOf A.fv → H'.get x = H.get x)
    (hA : A' = { A with fv := .slice (some ⟨nfb, 0, none⟩) (A.fr.length + 1) capU, fr := (fb, sb) :: A.fr }) (hσ : σ' = { σ with words := w, frames := f :: σ.frames })
    (ho : H'.get A.p = some (.cells (A'.cells σ') 84 false)) (hfr : FrAt H' lo (fb, sb) f) {cs : List Value} (hfv : H'.get nfb = some (.cells cs 131 false)) (hcl : A.fr.length + 1 ≤ cs.length) (hct : cs.take (A.fr.length + 1) = ((A.fr.map (·.1)).reverse.map ptrV) ++ [ptrV fb])
    (b1 : H.next ≤ fb ∧ fb < H'.next) (b2 : H.next ≤ sb ∧ sb < H'.next) (b3 : H.next ≤ nfb ∧ nfb < H'.next) (d1 : fb ≠ sb) (d2 : fb ≠ nfb) (d3 : sb ≠ nfb) (hok : MOk σ') : VmAt H' lo im A' σ' ∧ Nx H A H' A' := by
  subst hA hσ
  have hnd := h.nd
  have hlt : ∀ x ∈ A.own, x < H.next := fun x hx => (h.own x hx).2
  have hp : A.own = (A.p :: A.hp.p :: A.hp.wb :: A.hp.hb :: bOf A.hp.lv) ++ (bOf A.fv ++ (bOf A.ov ++ frOwn A.fr)) := by simp [VA.own]
  have hs : SameB lo H H' := fun x hx' => hx x (Nat.lt_of_lt_of_le hx' h.lo) (fun e => by have := (h.own A.p (by simp [VA.own])).1; omega) (fun hm => by have := (h.own x (by simp [VA.own, hm])).1; omega)
  have hnp : ∀ x ∈ A.hp.p :: A.hp.wb :: A.hp.hb :: (bOf A.hp.lv ++ bOf A.fv ++ bOf A.ov ++ frOwn A.fr), x ≠ A.p := by
    intro x hx e
    rw [VA.own, List.nodup_cons] at hnd
    exact hnd.1 (e ▸ hx)
  have hnf : ∀ x, x ∈ A.hp.p :: A.hp.wb :: A.hp.hb :: bOf A.hp.lv ∨ x ∈ bOf A.ov ++ frOwn A.fr → x ∉ bOf A.fv := by
    intro x hx hm
    rw [hp] at hnd
    obtain ⟨m1, m2, m3⟩ := List.nodup_append.1 hnd
    rcases hx with hx | hx
    · exact m3 x (List.mem_cons_of_mem _ hx) x (List.mem_append_left _ hm) rfl
    · exact (List.nodup_append.1 m2).2.2 x hm x hx rfl
  have hg : ∀ x, x ∈ A.hp.p :: A.hp.wb :: A.hp.hb :: bOf A.hp.lv ∨ x ∈ bOf A.ov ++ frOwn A.fr → H'.get x = H.get x := by
    intro x hm
    refine hx x (hlt x ?_) (hnp x ?_) (hnf x hm)
    · rw [hp]; rcases hm with hm | hm
      · exact List.mem_append_left _ (List.mem_cons_of_mem _ hm)
      · exact List.mem_append_right _ (List.mem_append_right _ hm)
    · rcases hm with hm | hm
      · simp only [List.mem_cons, List.mem_append] at hm ⊢; rcases hm with hm | hm | hm | hm <;> simp [hm]
      · simp only [List.mem_cons, List.mem_append] at hm ⊢; rcases hm with hm | hm <;> simp [hm]
  have hown : ∀ x ∈ ({ A with fv := .slice (some ⟨nfb, 0, none⟩) (A.fr.length + 1) capU, fr := (fb, sb) :: A.fr } : VA).own, (x ∈ A.own ∧ x ∉ bOf A.fv) ∨ x = fb ∨ x = sb ∨ x = nfb := by
    intro x hx
    simp only [VA.own, frOwn, bOf_some, List.mem_cons, List.mem_append, List.not_mem_nil, or_false] at hx
    have h3 : ∀ y, y ∈ A.own → y = A.p ∨ (y ∈ A.hp.p :: A.hp.wb :: A.hp.hb :: bOf A.hp.lv ∨ y ∈ bOf A.ov ++ frOwn A.fr) → y ∉ bOf A.fv := by
      intro y hy hc hm
      rcases hc with rfl | hc
      · exact hnp A.p (by simp [hm]) rfl
      · exact hnf y hc hm
    rcases hx with hx | hx | hx | hx | ((hx | hx) | hx) | hx | hx | hx
    · exact .inl ⟨by simp [VA.own, hx], h3 _ (by simp [VA.own, hx]) (.inl hx)⟩
    · exact .inl ⟨by simp [VA.own, hx], h3 _ (by simp [VA.own, hx]) (.inr (.inl (by simp [hx])))⟩
    · exact .inl ⟨by simp [VA.own, hx], h3 _ (by simp [VA.own, hx]) (.inr (.inl (by simp [hx])))⟩
    · exact .inl ⟨by simp [VA.own, hx], h3 _ (by simp [VA.own, hx]) (.inr (.inl (by simp [hx])))⟩
    · exact .inl ⟨by simp [VA.own, hx], h3 _ (by simp [VA.own, hx]) (.inr (.inl (by simp [hx])))⟩
    · exact .inr (.inr (.inr hx))
    · exact .inl ⟨by simp [VA.own, hx], h3 _ (by simp [VA.own, hx]) (.inr (.inr (by simp [hx])))⟩
    · exact .inr (.inl hx)
    · exact .inr (.inr (.inl hx))
    · exact .inl ⟨by simp [VA.own, hx], h3 _ (by simp [VA.own, hx]) (.inr (.inr (by simp [hx])))⟩
  have hnd2 : ({ A with fv := .slice (some ⟨nfb, 0, none⟩) (A.fr.length + 1) capU, fr := (fb, sb) :: A.fr } : VA).own.Nodup := by
    have hq : ({ A with fv := .slice (some ⟨nfb, 0, none⟩) (A.fr.length + 1) capU, fr := (fb, sb) :: A.fr } : VA).own = (A.p :: A.hp.p :: A.hp.wb :: A.hp.hb :: bOf A.hp.lv) ++ (nfb :: (bOf A.ov ++ (fb :: sb :: frOwn A.fr))) := by simp [VA.own, frOwn, bOf]
    rw [hq]
    have hnd3 := hnd
    rw [hp] at hnd3
    obtain ⟨m1, m2, m3⟩ := List.nodup_append.1 hnd3
    obtain ⟨m4, m5, m6⟩ := List.nodup_append.1 m2
    obtain ⟨m7, m8, m9⟩ := List.nodup_append.1 m5
    have z1 : ∀ x, x ∈ A.p :: A.hp.p :: A.hp.wb :: A.hp.hb :: bOf A.hp.lv → x < H.next := fun x hx => hlt x (by rw [hp]; exact List.mem_append_left _ hx)
    have z2 : ∀ x, x ∈ bOf A.ov → x < H.next := fun x hx => hlt x (by rw [hp]; simp [hx])
    have z3 : ∀ x, x ∈ frOwn A.fr → x < H.next := fun x hx => hlt x (by rw [hp]; simp [hx])
    refine List.nodup_append.2 ⟨m1, List.nodup_cons.2 ⟨?_, List.nodup_append.2 ⟨m7, List.nodup_cons.2 ⟨?_, List.nodup_cons.2 ⟨?_, m8⟩⟩, ?_⟩⟩, ?_⟩
    · intro hm
      simp only [List.mem_append, List.mem_cons] at hm
      rcases hm with hm | hm | hm | hm
      · have := z2 _ hm; omega
      · exact d2 hm.symm
      · exact d3 hm.symm
      · have := z3 _ hm; omega
    · intro hm
      rcases List.mem_cons.1 hm with hm | hm
      · exact d1 hm
      · have := z3 _ hm; omega
    · intro hm; have := z3 _ hm; omega
    · intro a ha b hb
      simp only [List.mem_cons] at hb
      have := z2 _ ha
      rcases hb with rfl | rfl | hb
      · omega
      · omega
      · exact m9 a ha b hb
    · intro a ha b hb
      have := z1 a ha
      simp only [List.mem_append, List.mem_cons] at hb
      rcases hb with rfl | hb | rfl | rfl | hb
      · omega
      · exact m3 a ha b (by simp [hb])
      · omega
      · omega
      · exact m3 a ha b (by simp [hb])
  refine ⟨⟨ho, h.img.same hs, h.hp.same hn (hg _ (.inl (by simp))) (hg _ (.inl (by simp))) (hg _ (.inl (by simp))) (fun z hm => hg z (.inl (by simp [hm]))), h.inp.mono fun _ _ _ hb hx => CellAt.same hx hs hb, h.col.mono fun _ _ _ hb hx => CellAt.same hx hs hb,
    .cons hfr (h.frs.same hs fun z hm => hg z (.inr (by simp [hm]))), .inr ⟨nfb, cs, by simp, hfv, by simpa using hcl, by simpa using hct⟩, h.ov.same fun z hm => hg z (.inr (by simp [hm])), hnd2, fun x hm => ?_, Nat.le_trans h.lo hn, hok, h.imok⟩, ⟨rfl, ⟨hn, fun x hx1 hx2 => hx x hx1 (fun e => hx2 (by simp [VA.own, e])) (fun hm => hx2 (by simp [VA.own, hm]))⟩, fun x hm => ?_⟩⟩
  · have hlo := h.lo
    rcases hown x hm with hm | rfl | rfl | rfl
    · have := h.own x hm.1; omega
    · omega
    · omega
    · omega
  · rcases hown x hm with hm | rfl | rfl | rfl
    · exact .inl hm.1
    · exact .inr b1.1
    · exact .inr b2.1
    · exact .inr b3.1
end
end Go.Proofs.YtchlbfmjnhgpgaaGreat.Idl
namespace Go.Proofs.YtchlbfmjnhgpgaaGreat.Idl
open Go
set_option maxHeartbeats 8000000
set_option maxRecDepth 100000
set_option linter.unusedSimpArgs false
section
variable {H : IH} {lo : Nat} {im : Img} {A A' : VA} {σ σ' : Mst}
theorem cp_u64 {u : Value} {ws zs : List Nat} {sb n c : Nat} (hu : ArgAt H u ws) (hs : H.get sb = some (.cells (u64c zs) 62 false)) (hz : zs.length = n) (hl : ws.length ≤ n) :
    ∃ H', icopy J #[136, 136] (.slice (some ⟨sb, 0, none⟩) n c) u H = some (.int .i64 (ws.length : Int), H') ∧ H'.next = H.next ∧ (∀ x, x ≠ sb → H'.get x = H.get x) ∧ H'.get sb = some (.cells (u64c (ws ++ zs.drop ws.length)) 62 false) := by
  rcases hu with ⟨rfl, rfl⟩ | ⟨b, cc, rfl, hb, hg⟩
  · refine ⟨H, ?_, rfl, fun _ _ => rfl, by simpa using hs⟩
    simp [icopy, ilenOf, ifirst]
  · by_cases h0 : ws.length = 0
    · have : ws = [] := List.eq_nil_of_length_eq_zero h0
      subst this
      refine ⟨H, ?_, rfl, fun _ _ => rfl, by simpa using hs⟩
      simp [icopy, ilenOf, ifirst, hg, u64c]
    · have hmin : Nat.min ws.length n = ws.length := Nat.min_eq_left hl
      have hic : icells H ⟨b, 0, none⟩ (ws.length * 1) = some (u64c ws) := by
        have := u64c_len ws
        simp [hg, this]
        rw [List.take_of_length_le (by omega)]
      have hpl : (u64c ws).all plain1 = true := by simp [u64c, plain1]
      have hne : u64c ws ≠ [] := fun e => h0 (by rw [← u64c_len ws, e]; rfl)
      refine ⟨H.set sb (.cells (u64c (ws ++ zs.drop ws.length)) 62 false), ?_, rfl, fun x hx => by rw [IH.get_set, if_neg hx], by rw [IH.get_set, if_pos rfl]⟩
      have hput : iput H ⟨sb, 0, none⟩ (u64c ws) = some (H.set sb (.cells (u64c (ws ++ zs.drop ws.length)) 62 false)) := by
        have e : overlay (u64c zs) 0 (u64c ws) = u64c (ws ++ zs.drop ws.length) := by simp [overlay, u64c, List.map_drop]
        rw [iput_eq, hs, putOf_cells, if_pos ⟨by rw [u64c_len, u64c_len]; omega, hne, hpl⟩, e]
      simp only [icopy, List.getElem?_toArray, List.getElem?_cons_zero, st_u64.und, st_u64.size, ilenOf, hmin, ifirst, hic, h0, if_false, hput, Option.map_some]
theorem bl_spot (a : Option Addr) : ibuild J 135 [(0, .pointer a)] = some (.agg #[.pointer a, .int .i64 0, .int .i64 0]) := by kernel_rfl
theorem bl_frame (a b : Option Addr) (n c : Nat) : ibuild J 138 [(0, .agg #[.pointer a, .int .i64 0, .int .i64 0]), (1, .slice b n c)] = some (.agg #[.pointer a, .int .i64 0, .int .i64 0, .slice b n c]) := by kernel_rfl
theorem bs_frames (H : IH) (a : Option Addr) : ibuildSlice J 82 1 [(0, .pointer a)] H = some (.slice (some ⟨H.next, 0, none⟩) 1 1, H.push (.cells [.pointer a] 131 false)) := by kernel_rfl
theorem app_fr {H : IH} {v : Value} {l : List Nat} (h : FvAt H v l) (hb : ∀ x ∈ bOf v, x < H.next) (hl : l.length ≤ 40000) (fb : Nat) :
    ∃ H' cs, iappend J #[82, 82] v (.slice (some ⟨H.next, 0, none⟩) 1 1) (H.push (.cells [ptrV fb] 131 false)) = some (.slice (some ⟨H.next + 1, 0, none⟩) (l.length + 1) capU, H') ∧ H'.next = H.next + 2 ∧ (∀ x, x < H.next → x ∉ bOf v → H'.get x = H.get x) ∧
      H'.get (H.next + 1) = some (.cells cs 131 false) ∧ l.length + 1 ≤ cs.length ∧ cs.take (l.length + 1) = l.reverse.map ptrV ++ [ptrV fb] := by
  have h1 : icells (H.push (.cells [ptrV fb] 131 false)) ⟨H.next, 0, none⟩ (1 * 1) = some [ptrV fb] := by simp [IH.get_push]
  have hn : (H.push (.cells [ptrV fb] 131 false)).next = H.next + 1 := by simp
  rcases h with ⟨rfl, rfl⟩ | ⟨b, cs, rfl, b4, b5, b6⟩
  · have := app_nil st_frame (c := 1) h1 (by simp) (by omega) (by omega)
    rw [hn] at this
    refine ⟨_, [ptrV fb], this, by simp, fun x hx _ => by rw [IH.get_push_other _ _ _ (by simp; omega), IH.get_push_other _ _ _ hx], ?_, by simp, by simp⟩
    rw [show H.next + 1 = (H.push (.cells [ptrV fb] 131 false)).next by simp, IH.get_push_same]
  · have b2 : b < H.next := hb b (by simp [bOf])
    have hg : (H.push (.cells [ptrV fb] 131 false)).get b = some (.cells cs 131 false) := by rw [IH.get_push_other _ _ _ b2]; exact b4
    have := app_some st_frame (c := 1) (len := l.length) h1 (by simp) (by omega) (by omega) hg (by omega) (by simp [plain1, ptrV])
    rw [hn] at this
    refine ⟨_, cs.take (l.length * 1) ++ [ptrV fb], this, by simp, fun x hx hm => ?_, ?_, by simp; omega, ?_⟩
    · rw [IH.get_push_other _ _ _ (by simp; omega), IH.get_set, if_neg (fun e => hm (by simp [bOf, e])), IH.get_push_other _ _ _ hx]
    · rw [show H.next + 1 = ((H.push (.cells [ptrV fb] 131 false)).set b .dead).next by simp, IH.get_push_same]
    · rw [Nat.mul_one, b6, List.take_of_length_le (by simp)]
theorem m_call (h : VmAt H lo im A σ) (fi : Int) {u : Value} {args : List Nat} (hu : ArgAt H u args) (hwlt : ∀ w ∈ args, w < 18446744073709551616) : Out lo im H A (cal J okAll 65 #[ptrV A.p, .int .i64 fi, u] H) UnitV (vCall im fi args σ) := by
  intro r σ' hx
  rw [cal65 _ _ (by simp)]
  have ho := h.obj
  obtain ⟨hmp, iu, pr, hgi, hiv⟩ := h.img
  obtain ⟨fa, fc, hfv, hfl⟩ := id hiv.funcs
  have hm1 := c_must (H := H) (ptrV A.p) true
  have hm2 := c_must (H := H) (ptrV A.p) false
  obtain ⟨ua, uc, hua⟩ : ∃ ua uc, u = .slice ua args.length uc := by
    rcases hu with ⟨rfl, rfl⟩ | ⟨b, c, rfl, _⟩
    · exact ⟨none, 0, rfl⟩
    · exact ⟨_, c, rfl⟩
  simp only [ptrV] at hm1 hm2
  simp only [VA.cells, ptrV] at ho
  simp only [ImV.cells, hfv] at hgi
  unfold vCall at hx
  rcases VM.bind_cases hx with ⟨_, σ1, x0, hx2⟩ | ⟨k, x0, rfl⟩
  · obtain ⟨rfl, x1⟩ := vMust_cases x0
    rcases x1 with ⟨x1, _⟩ | ⟨_, x1⟩
    · simp only [Bool.and_eq_true, decide_eq_true_eq] at x1
      obtain ⟨y1, y2⟩ := x1
      rcases VM.bind_cases hx2 with ⟨x, σ2, x3, hx3⟩ | ⟨k, x3, rfl⟩
      · have hxe : im.funcs[fi.toNat]? = some x ∧ σ2 = σ1 := by
          unfold VM.of at x3
          cases hz : im.funcs[fi.toNat]? with
          | none => rw [hz] at x3; simp at x3
          | some z =>
            rw [hz] at x3
            simp only [Option.map_some, Option.some.injEq, Prod.mk.injEq, Except.ok.injEq] at x3
            exact ⟨by rw [x3.1], x3.2.symm⟩
        obtain ⟨hxf, rfl⟩ := hxe
        obtain ⟨pb, po, pc, e1, hpb, hi1, hfn⟩ := hiv.funcs.get hxf
        rw [hfv] at e1
        simp only [Value.slice.injEq] at e1
        obtain ⟨rfl, _, rfl⟩ := e1
        obtain ⟨cs, pr2, vp, vb, g1, g2, g3, g4, g5, g6, g7⟩ := hfn.ex
        obtain ⟨pa, pcc, rfl, _⟩ := id g6
        obtain ⟨ba, bcc, rfl, _⟩ := id g7
        have hlim := h.imok.funcs x (List.mem_of_getElem? hxf)
        rcases VM.bind_cases hx3 with ⟨_, σ3, x4, hx4⟩ | ⟨k, x4, rfl⟩
        · obtain ⟨rfl, x5⟩ := vMust_cases x4
          rcases x5 with ⟨x5, _⟩ | ⟨_, x5⟩
          · simp only [Bool.and_eq_true, decide_eq_true_eq] at x5
            obtain ⟨⟨z1, z2⟩, z3⟩ := x5
            have z1d : decide ((args.length : Int) ≤ x.slots) = true := decide_eq_true z1
            have z2d : decide ((args.length : Int) = x.params.length) = true := decide_eq_true (by omega)
            have z3d : decide ((0 : Int) < x.blocks.length) = true := decide_eq_true (by omega)
            have z3' : (0 : Int) < x.blocks.length := by omega
            obtain ⟨n, hn⟩ : ∃ n : Nat, x.slots = n := ⟨x.slots.toNat, by omega⟩
            have hlim2 := hlim.slots
            have hfits := h.ok.fits
            have hst := h.ok.stack
            have hwd := h.ok.words
            have hwn := frWords_nonneg σ3.frames
            have w1 : IntKind.i64.wrap (σ3.words + n) = σ3.words + n := by rw [wrapI]; omega
            have w2 : IntKind.i64.wrap (σ3.words + n + 2) = σ3.words + n + 2 := by rw [wrapI]; omega
            have w3 : IntKind.i64.wrap ((n : Int) + 2) = (n : Int) + 2 := by rw [wrapI]; omega
            have w4 : IntKind.i64.wrap (σ3.words + ((n : Int) + 2)) = σ3.words + ((n : Int) + 2) := by rw [wrapI]; omega
            have hen := c_end (H := H) (ptrV A.p) 5
            simp only [ptrV] at hen
            rw [hn] at g4 z1d
            have z1n : args.length ≤ n := by omega
            have z2n : x.params.length = args.length := by omega
            have hpb2 : pb ≠ A.p := fun e => by have := (h.own A.p (by simp [VA.own])).1; omega
            have hmp2 : A.mp ≠ A.p := fun e => by have := (h.own A.p (by simp [VA.own])).1; omega
            rcases VM.bind_cases hx4 with ⟨full, σ4, x7, hx5⟩ | ⟨k, x7, _⟩
            · simp only [VM.get, Option.some.injEq, Prod.mk.injEq, Except.ok.injEq] at x7
              obtain ⟨x7, rfl⟩ := x7
              cases full with
              | true =>
                rw [hn] at x7
                simp only [if_true, vEnd, Option.some.injEq, Prod.mk.injEq] at hx5
                obtain ⟨rfl, rfl⟩ := hx5
                refine ⟨H, A, .pan (overV 5), ?_, h, .refl _ _, rfl⟩
                simp [C65, regsOf, fin, iresult1, ptrV, y1, y2, hm1, hm2, ho, hgi, iindexAddr, g1, g2, g4, g5, hua, z1n, z2n, z3, z3d, z3', w1, w2, x7, hen]
              | false =>
                rw [hn] at x7
                simp only [Bool.false_eq_true, if_false, VM.upd, Option.some.injEq, Prod.mk.injEq] at hx5
                obtain ⟨rfl, rfl⟩ := hx5
                obtain ⟨H1, hH1⟩ : ∃ H1, H1 = H.set A.p (.cells [.pointer (some ⟨A.mp, 0, none⟩), A.iv, .int .i64 σ3.fuel, .int .i64 σ3.heap, .int .i64 σ3.stack, A.cv, .pointer (some ⟨A.hp.p, 0, none⟩), A.fv, .int .i64 (σ3.words + ((n : Int) + 2)), .int .i64 (σ3.inn : Int), .int .i64 (σ3.made : Int), .int .i64 0, A.ov, .string σ3.exn, .int .i64 (σ3.steps : Int), .int .i64 (σ3.swept : Int)] 84 false) := ⟨_, rfl⟩
                have n1 : H1.next = H.next := by rw [hH1]; rfl
                have m1 := mk_u64 H1 n (by omega)
                obtain ⟨H2, hH2⟩ : ∃ H2, H2 = H1.push (.cells (u64c (List.replicate n 0)) 62 false) := ⟨_, rfl⟩
                have n2 : H2.next = H.next + 1 := by rw [hH2]; simp [n1]
                obtain ⟨H3, hH3⟩ : ∃ H3, H3 = H2.push (.cells [.pointer (some ⟨pb, po + fi.toNat * 4, none⟩), .int .i64 0, .int .i64 0, .slice (some ⟨H.next, 0, none⟩) n n] 138 false) := ⟨_, rfl⟩
                have n3 : H3.next = H.next + 2 := by rw [hH3]; simp [n2]
                rw [← hH2, n1] at m1
                have old : ∀ y, y < H.next → y ≠ A.p → H3.get y = H.get y := by
                  intro y hy hne
                  rw [hH3, IH.get_push_other _ _ _ (by omega), hH2, IH.get_push_other _ _ _ (by omega), hH1, IH.get_set, if_neg hne]
                have k1 : H3.get (H.next + 1) = some (.cells [.pointer (some ⟨pb, po + fi.toNat * 4, none⟩), .int .i64 0, .int .i64 0, .slice (some ⟨H.next, 0, none⟩) n n] 138 false) := by rw [← n2, hH3, IH.get_push_same]
                have k2 : H3.get H.next = some (.cells (u64c (List.replicate n 0)) 62 false) := by rw [hH3, IH.get_push_other _ _ _ (by omega), hH2, ← n1, IH.get_push_same]
                have hg1b : H1.get pb = some (.cells cs 59 pr2) := by rw [hH1, IH.get_set, if_neg hpb2]; exact g1
                have hu3 : ArgAt H3 u args := by
                  rcases hu with hu | ⟨b, c, v1, v2, v3⟩
                  · exact .inl hu
                  · exact .inr ⟨b, c, v1, by omega, (old b v2 (fun e => by rw [e, h.obj] at v3; simp at v3)).trans v3⟩
                obtain ⟨H4, cp1, cp2, cp3, cp4⟩ := cp_u64 (n := n) (c := n) hu3 k2 (by simp) z1n
                rw [hua] at cp1
                simp [C65, regsOf, fin, iresult1, ptrV, y1, y2, hm1, hm2, ho, hgi, iindexAddr, g1, g2, g4, g5, hua, z1n, z2n, z3, z3d, z3', w1, w2, w3, w4, x7, hen, istore, Value.cells, plain1, overlay, hpb2, hmp2, ← hH1, hg1b, m1, iparts, bl_spot, bl_frame, inew, n2, ← hH3, k1, cp1]
                generalize hX : run J okAll (.loop L65_0) _ _ = X
                obtain ⟨T1, hT, a0, a7, a8⟩ : ∃ T1, run J okAll (.loop L65_0) T1 H4 = X ∧ T1.at 0 = ptrV A.p ∧ T1.at 7 = ptrV (H.next + 1) ∧ T1.at 8 = .int .i64 ((args.length + 0 : Nat) : Int) := ⟨_, hX, by simp [ptrV], by simp [ptrV], by simp⟩
                have k3 : H4.get (H.next + 1) = some (.cells [.pointer (some ⟨pb, po + fi.toNat * 4, none⟩), .int .i64 0, .int .i64 0, .slice (some ⟨H.next, 0, none⟩) n n] 138 false) := by rw [cp3 _ (by omega)]; exact k1
                obtain ⟨T2, H5, l1, l2, l3, l4, l5⟩ := loop65 H4 (H.next + 1) H.next _ _ _ args n (by omega) (fun t => T1.at t) (by omega) k3 a7 (n - args.length) 0 T1 H4 (by omega) rfl (fun _ _ => rfl) (by rw [cp4]; simp) (fun t ht => rfl) a8
                have l1 := hT.symm.trans l1
                subst l1
                have b0 := (l5 0 (by omega)).trans a0
                have b7 := (l5 7 (by omega)).trans a7
                have n5 : H5.next = H.next + 2 := by rw [l2, cp2, n3]
                have old5 : ∀ y, y < H.next → y ≠ A.p → H5.get y = H.get y := fun y hy hne => by rw [l3 y (by omega), cp3 y (by omega)]; exact old y hy hne
                have p5 : H5.get A.p = H1.get A.p := by
                  have hpn := (h.own A.p (by simp [VA.own])).2
                  rw [l3 _ (by omega), cp3 _ (by omega), hH3, IH.get_push_other _ _ _ (by omega), hH2, IH.get_push_other _ _ _ (by omega)]
                have hpn := (h.own A.p (by simp [VA.own])).2
                have hfv5 : FvAt H5 A.fv (A.fr.map (·.1)) := FvAt.same h.fv fun z hm => old5 z (h.own z (by simp [VA.own, hm])).2 (fun e => by
                  have h1 := h.nd
                  rw [VA.own, List.nodup_cons] at h1
                  exact h1.1 (by simp [← e, hm]))
                have hfl2 := h.frlen
                have hfll := h.frs.len
                obtain ⟨H6, cs6, q1, q2, q3, q4, q5, q6⟩ := app_fr hfv5 (fun z hm => by have := (h.own z (by simp [VA.own, hm])).2; omega) (by simp; omega) (H.next + 1)
                rw [n5] at q1 q2 q3 q4
                rw [hH1, IH.get_set, if_pos rfl] at p5
                simp only [ptrV] at b0 b7
                have hpf : A.p ∉ bOf A.fv := fun hm => by
                  have h1 := h.nd
                  rw [VA.own, List.nodup_cons] at h1
                  exact h1.1 (by simp [hm])
                have p6 := (q3 A.p (by omega) hpf).trans p5
                simp only [ptrV] at q1
                simp [regsOf, fin, iresult1, b0, b7, p5, iparts, bs_frames, n5, q1, p6, istore, Value.cells, plain1, overlay]
                have hbf : ∀ y, H.next ≤ y → y ∉ bOf A.fv := fun y hy hm => by have := (h.own y (by simp [VA.own, hm])).2; omega
                have hsl : (x.frame args).slots.length = n := by simp [Fn.frame, hn]; omega
                have e1 : H6.get (H.next + 1) = some (.cells [.pointer (some ⟨pb, po + fi.toNat * 4, none⟩), .int .i64 0, .int .i64 0, .slice (some ⟨H.next, 0, none⟩) n n] 138 false) := by
                  rw [q3 _ (by omega) (hbf _ (by omega)), l3 _ (by omega)]; exact k3
                have e2 : H6.get H.next = some (.cells (u64c (x.frame args).slots) 62 false) := by
                  rw [q3 _ (by omega) (hbf _ (by omega)), l4]; simp [Fn.frame, hn]
                have old6 : ∀ y, y < H.next → y ≠ A.p → y ∉ bOf A.fv → (H6.set A.p (.cells (({ A with fv := .slice (some ⟨H.next + 2 + 1, 0, none⟩) (A.fr.length + 1) capU, fr := (H.next + 1, H.next) :: A.fr } : VA).cells { σ3 with words := σ3.words + ((n : Int) + 2), frames := x.frame args :: σ3.frames }) 84 false)).get y = H.get y := fun y hy hne hm => by
                  rw [IH.get_set, if_neg hne, q3 y (by omega) hm]; exact old5 y hy hne
                have hlo := h.lo
                have hpo := (h.own A.p (by simp [VA.own])).1
                obtain ⟨u1, u2⟩ := h.pushFrame (f := x.frame args) (fb := H.next + 1) (sb := H.next) (nfb := H.next + 2 + 1) (w := σ3.words + ((n : Int) + 2)) (H' := H6.set A.p (.cells (({ A with fv := .slice (some ⟨H.next + 2 + 1, 0, none⟩) (A.fr.length + 1) capU, fr := (H.next + 1, H.next) :: A.fr } : VA).cells { σ3 with words := σ3.words + ((n : Int) + 2), frames := x.frame args :: σ3.frames }) 84 false))
                  (by simp; omega) old6 rfl rfl (by rw [IH.get_set, if_pos rfl])
                  ⟨⟨pb, po + fi.toNat * 4, hpb, FnAt.same hfn (fun z hz => old6 z (by omega) (fun e => by omega) (fun hm => by have := (h.own z (by simp [VA.own, hm])).1; omega)) hpb, by rw [IH.get_set, if_neg (by simp; omega), hsl]; exact e1⟩,
                    by rw [IH.get_set, if_neg (by simp; omega)]; exact e2, fun w hw => by
                      rcases List.mem_append.1 hw with hw | hw
                      · exact hwlt w hw
                      · rw [List.eq_of_mem_replicate hw]; decide, by rw [hsl]; exact hn.symm, hlim, by simp [Fn.frame]⟩
                  (by rw [IH.get_set, if_neg (by omega)]; exact q4) (by simpa using q5) (by simpa using q6) (by simp; omega) (by simp; omega) (by simp; omega) (by omega) (by omega) (by omega)
                  ⟨by simp only [frWords, hsl]; omega, h.ok.stack, by simp only [decide_eq_false_iff_not] at x7; simp only; omega, h.ok.fuel, h.ok.steps, h.ok.made, h.ok.swept, h.ok.out, h.ok.inn⟩
                rw [hn]
                exact ⟨_, _, _, ⟨rfl, rfl⟩, u1, u2, ⟨_, rfl, rfl⟩⟩
            · simp [VM.get] at x7
          · simp at x5
        · obtain ⟨rfl, x5⟩ := vMust_cases x4
          rcases x5 with ⟨_, x5⟩ | ⟨x5, x6⟩
          · simp at x5
          · simp only [Except.error.injEq] at x6
            subst x6
            refine ⟨H, A, .pan (overV 6), ?_, h, .refl _ _, rfl⟩
            have ea : decide ((args.length : Int) = x.params.length) = decide (args.length = x.params.length) := by rw [decide_eq_decide]; omega
            have eb : decide ((0 : Int) < x.blocks.length) = decide (0 < x.blocks.length) := by rw [decide_eq_decide]; omega
            cases z1 : decide ((args.length : Int) ≤ x.slots) with
            | false => simp [C65, regsOf, fin, iresult1, ptrV, y1, y2, hm1, hm2, ho, hgi, iindexAddr, g1, g2, g4, hua, z1]
            | true =>
              cases z2 : decide (args.length = x.params.length) with
              | false => simp [C65, regsOf, fin, iresult1, ptrV, y1, y2, hm1, hm2, ho, hgi, iindexAddr, g1, g2, g4, hua, z1, ea, z2]
              | true =>
                cases z3 : decide (0 < x.blocks.length) with
                | false => simp [C65, regsOf, fin, iresult1, ptrV, y1, y2, hm1, hm2, ho, hgi, iindexAddr, g1, g2, g4, g5, hua, z1, ea, z2, eb, z3]
                | true => rw [z1, z2, z3] at x5; simp at x5
      · unfold VM.of at x3
        cases hz : im.funcs[fi.toNat]? with
        | none => rw [hz] at x3; simp at x3
        | some z => rw [hz] at x3; simp at x3
    · simp at x1
  · obtain ⟨rfl, x1⟩ := vMust_cases x0
    rcases x1 with ⟨_, x1⟩ | ⟨x1, x2⟩
    · simp at x1
    · simp only [Except.error.injEq] at x2
      subst x2
      refine ⟨H, A, .pan (overV 6), ?_, h, .refl _ _, rfl⟩
      cases y1 : decide (0 ≤ fi) with
      | false => simp [C65, regsOf, fin, iresult1, ptrV, y1, hm2]
      | true =>
        cases y2 : decide (fi < im.funcs.length) with
        | false => simp [C65, regsOf, fin, iresult1, ptrV, y1, y2, hm2, ho, hgi]
        | true => rw [y1, y2] at x1; simp at x1
end
end Go.Proofs.YtchlbfmjnhgpgaaGreat.Idl
