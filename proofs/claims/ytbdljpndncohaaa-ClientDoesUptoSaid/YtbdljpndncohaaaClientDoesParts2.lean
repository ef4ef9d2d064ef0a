/-
A part of the proof of a law: contracts of functions over plain heaps, and what they lean on. Conditions: none.
-/
import Derived.Test.YtbdljpndncohaaaChecked
import Derived.KernelRfl
import Derived.Shelf.SlSortCmp.WholeK
import Derived.Test.YtbdljpndncohaaaBase1
import Derived.Test.YtbdljpndncohaaaBase2
import Derived.Test.YtbdljpndncohaaaClientDoesParts1
set_option linter.unusedSimpArgs false
set_option linter.unusedVariables false
namespace Go.Proofs.Ytbdljpndncohaaa
open Go.D
set_option maxRecDepth 100000
/-! (*trivet/client.Client).Answer -/
noncomputable def o14_0 : Array Oper := drawn Try.f14 0
def l14_0 : List Oper := [mo 10 (.move (T 0)),
 mo 11 (.nilCheck (T 10)),
 mo 12 (.fieldAddr 76 (T 11) 3),
 mo 13 (.load 4 (T 12)),
 mo 14 (.unOp .not 4 (T 13)),
 mo 15 (.move (T 14)),
 mg 16 5 false (.fieldAddr 47 (T 3) 0),
 mg 17 5 false (.load 2 (T 16)),
 mg 18 5 false (.move (T 0)),
 mg 19 5 false (.nilCheck (T 18)),
 mg 20 5 false (.fieldAddr 76 (T 19) 0),
 mg 21 5 false (.load 2 (T 20)),
 mg 22 5 false (.binOp .neq 2 (T 17) (T 21) 2),
 mo 23 (.pick (T 15) (.const (.bool true)) (T 22)),
 mo 24 (.move (T 23)),
 mg 25 14 false (.fieldAddr 47 (T 3) 1),
 mg 26 14 false (.load 2 (T 25)),
 mg 27 14 false (.move (T 0)),
 mg 28 14 false (.nilCheck (T 27)),
 mg 29 14 false (.fieldAddr 76 (T 28) 2),
 mg 30 14 false (.load 2 (T 29)),
 mg 31 14 false (.binOp .neq 2 (T 26) (T 30) 2),
 mo 32 (.pick (T 24) (.const (.bool true)) (T 31)),
 mo 9 (.assign (T 32))]
noncomputable def r14_0 : Code := .region 3 o14_0 true
theorem xr_14_0 {Q : DExit → St → Prop} {s : St} : xs Try.prog 75 r14_0 Q s = NC Try.prog 75 r14_0 Q s := rfl
theorem dr_14_0 {Q : DExit → St → Prop} {s : St} (h : XDraw Try.prog l14_0.toArray (befs o14_0.toList []) [] s.fr Q l14_0 0 s []) : NC Try.prog 75 r14_0 Q s :=
  NC.draw (by kernel_rfl) (by kernel_rfl) (by kernel_rfl) rfl (by kernel_rfl) (by kernel_rfl) h
attribute [go_sem] xr_14_0
noncomputable def o14_1 : Array Oper := drawn Try.f14 1
def l14_1 : List Oper := [mo 44 (.move (T 0)),
 mo 45 (.move (T 0)),
 mo 46 (.move (T 0)),
 mo 47 (.fieldAddr 47 (T 3) 2),
 mo 48 (.load 45 (T 47)),
 mo 49 (.nilCheck (T 44)),
 mo 50 (.fieldAddr 76 (T 49) 3),
 mx (.store 4 (T 50) (.const (.bool false))),
 mo 51 (.nilCheck (T 45)),
 mo 52 (.fieldAddr 76 (T 51) 8),
 mx (.store 4 (T 52) (.const (.bool true))),
 mo 53 (.nilCheck (T 46)),
 mo 54 (.fieldAddr 76 (T 53) 9),
 mx (.store 45 (T 54) (T 48))]
noncomputable def r14_1 : Code := .region 7 o14_1 true
theorem xr_14_1 {Q : DExit → St → Prop} {s : St} : xs Try.prog 75 r14_1 Q s = NC Try.prog 75 r14_1 Q s := rfl
theorem dr_14_1 {Q : DExit → St → Prop} {s : St} (h : XDraw Try.prog l14_1.toArray (befs o14_1.toList []) [(4, 7), (4, 10)] s.fr Q l14_1 0 s []) : NC Try.prog 75 r14_1 Q s :=
  NC.draw (by kernel_rfl) (by kernel_rfl) (by kernel_rfl) rfl (by kernel_rfl) (by kernel_rfl) h
attribute [go_sem] xr_14_1
noncomputable def o14_2 : Array Oper := drawn Try.f14 2
def l14_2 : List Oper := [mo 63 (.move (T 0)),
 mo 64 (.move (T 0)),
 mo 65 (.nilCheck (T 64)),
 mo 66 (.fieldAddr 76 (T 65) 7),
 mo 67 (.load 2 (T 66)),
 mo 68 (.fieldAddr 47 (T 3) 2),
 mo 69 (.fieldAddr 45 (T 68) 2),
 mo 70 (.load 2 (T 69)),
 mo 71 (.binOp .add 2 (T 70) (.const (.int .i64 1)) 2),
 mt 72 2 (.call ⟨(.builtin .max), #[(T 67), (T 71)], #[2, 2]⟩),
 mo 73 (.nilCheck (T 63)),
 mo 74 (.fieldAddr 76 (T 73) 7),
 mx (.store 2 (T 74) (T 72))]
noncomputable def r14_2 : Code := .region 9 o14_2 true
theorem xr_14_2 {Q : DExit → St → Prop} {s : St} : xs Try.prog 75 r14_2 Q s = NC Try.prog 75 r14_2 Q s := rfl
theorem dr_14_2 {Q : DExit → St → Prop} {s : St} (h : XDraw Try.prog l14_2.toArray (befs o14_2.toList []) [] s.fr Q l14_2 0 s []) : NC Try.prog 75 r14_2 Q s :=
  NC.draw (by kernel_rfl) (by kernel_rfl) (by kernel_rfl) rfl (by kernel_rfl) (by kernel_rfl) h
attribute [go_sem] xr_14_2
noncomputable def c14 : Code :=
 .seq (rg [mo 3 (.box 47 (T 1)),
 mo 4 (.assign (.const (.bool false))),
 mo 5 (.assign (.const (.int .i64 0)))])
 (.seq (.block 0 (.seq (rg [mo 7 (.move (T 0)),
 mo 8 (.call ⟨(.value (.func 31)), #[(T 7)], #[30]⟩),
 mo 6 (.assign (T 8))])
 (.cond (T 6) (.seq (rg [mo 4 (.assign (.const (.bool false))),
 mo 5 (.assign (.const (.int .i64 2)))])
 (.ret))
 (.seq (r14_0)
 (.cond (T 9) (.seq (rg [mo 4 (.assign (.const (.bool false))),
 mo 5 (.assign (.const (.int .i64 0)))])
 (.ret))
 (.seq (rg [mo 34 (.fieldAddr 47 (T 3) 2),
 mo 35 (.fieldAddr 45 (T 34) 2),
 mo 36 (.load 2 (T 35)),
 mo 37 (.binOp .lss 2 (T 36) (.const (.int .i64 0)) 2),
 mo 38 (.move (T 37)),
 mg 39 4 false (.fieldAddr 47 (T 3) 2),
 mg 40 4 false (.fieldAddr 45 (T 39) 2),
 mg 41 4 false (.load 2 (T 40)),
 mg 42 4 false (.binOp .gtr 2 (T 41) (.const (.int .i64 1099511627776)) 2),
 mo 43 (.pick (T 38) (.const (.bool true)) (T 42)),
 mo 33 (.assign (T 43))])
 (.cond (T 33) (.seq (rg [mo 4 (.assign (.const (.bool false))),
 mo 5 (.assign (.const (.int .i64 1)))])
 (.ret))
 (.skip))))))))
 (.seq (r14_1)
 (.seq (rg [mo 55 (.move (T 0)),
 mo 56 (.fieldAddr 47 (T 3) 2),
 mo 57 (.fieldAddr 45 (T 56) 1),
 mo 58 (.load 23 (T 57)),
 mo 59 (.call ⟨(.value (.func 35)), #[(T 58)], #[23]⟩),
 mo 60 (.nilCheck (T 55)),
 mo 61 (.fieldAddr 76 (T 60) 9),
 mo 62 (.fieldAddr 45 (T 61) 1),
 mx (.store 23 (T 62) (T 59))])
 (.seq (r14_2)
 (.seq (rg [mo 4 (.assign (.const (.bool true))),
 mo 5 (.assign (.const (.int .i64 0)))])
 (.ret))))))
theorem body_14 : Try.f14.body.map strip = some c14 := by kernel_rfl
theorem go_14 : GoC Try.prog 14 75 c14 [(.tmp 4), (.tmp 5)] :=
  GoC.of (fn := Try.f14) (by kernel_rfl) body_14 (by kernel_rfl) (by kernel_rfl) (by kernel_rfl)
/-! (*trivet/client.Client).Token -/
def c15 : Code :=
 .seq (rg [mo 2 (.assign (.const (.int .i64 0)))])
 (.seq (.seq (rg [mo 3 (.move (T 0)),
 mo 4 (.call ⟨(.value (.func 31)), #[(T 3)], #[30]⟩)])
 (.cond (T 4) (.seq (rg [mo 2 (.assign (.const (.int .i64 0)))])
 (.ret))
 (.skip)))
 (.seq (rg [mo 5 (.move (T 0)),
 mo 6 (.nilCheck (T 5)),
 mo 7 (.fieldAddr 76 (T 6) 7),
 mo 8 (.load 2 (T 7)),
 mo 2 (.assign (T 8))])
 (.ret)))
theorem body_15 : Try.f15.body.map strip = some c15 := by kernel_rfl
theorem go_15 : GoC Try.prog 15 9 c15 [(.tmp 2)] :=
  GoC.of (fn := Try.f15) (by kernel_rfl) body_15 (by kernel_rfl) (by kernel_rfl) (by kernel_rfl)
/-! trivet/trivetref25.New -/
def c16 : Code :=
 .seq (rg [mo 4 (.assign (.const (.pointer none))),
 mo 5 (.assign (.const (.int .i64 0)))])
 (.seq (.seq (rg [mo 6 (.move (T 0)),
 mo 7 (.binOp .lss 2 (T 6) (.const (.int .i64 1)) 2),
 mo 8 (.move (T 7)),
 mg 9 2 false (.move (T 0)),
 mg 10 2 false (.binOp .gtr 2 (T 9) (.const (.int .i64 1099511627776)) 2),
 mo 11 (.pick (T 8) (.const (.bool true)) (T 10)),
 mo 12 (.move (T 11)),
 mg 13 6 false (.move (T 1)),
 mg 14 6 false (.binOp .lss 3 (T 13) (.const (.int .i64 1)) 3),
 mo 15 (.pick (T 12) (.const (.bool true)) (T 14)),
 mo 16 (.move (T 15)),
 mg 17 10 false (.move (T 1)),
 mg 18 10 false (.binOp .gtr 3 (T 17) (.const (.int .i64 5)) 3),
 mo 19 (.pick (T 16) (.const (.bool true)) (T 18))])
 (.cond (T 19) (.seq (rg [mo 4 (.assign (.const (.pointer none))),
 mo 5 (.assign (.const (.int .i64 1)))])
 (.ret))
 (.skip)))
 (.seq (rg [mo 20 (.move (T 0)),
 mo 21 (.move (T 1)),
 mo 22 (.build 86 #[(0, (T 20)), (1, (T 21))]),
 mo 23 (.box 86 (T 22)),
 mo 4 (.assign (T 23)),
 mo 5 (.assign (.const (.int .i64 0)))])
 (.ret)))
theorem body_16 : Try.f16.body.map strip = some c16 := by kernel_rfl
theorem go_16 : GoC Try.prog 16 24 c16 [(.tmp 4), (.tmp 5)] :=
  GoC.of (fn := Try.f16) (by kernel_rfl) body_16 (by kernel_rfl) (by kernel_rfl) (by kernel_rfl)
/-! (*trivet/trivetref25.Client).Submit -/
noncomputable def o17_0 : Array Oper := drawn Try.f17 0
def l17_0 : List Oper := [mo 27 (.move (T 0)),
 mo 28 (.nilCheck (T 27)),
 mo 29 (.fieldAddr 86 (T 28) 0),
 mo 30 (.load 2 (T 29)),
 mo 31 (.move (T 0)),
 mo 32 (.nilCheck (T 31)),
 mo 33 (.fieldAddr 86 (T 32) 2),
 mo 34 (.load 2 (T 33)),
 mo 35 (.binOp .add 2 (T 34) (.const (.int .i64 1)) 2),
 mo 36 (.fieldAddr 26 (T 4) 0),
 mx (.store 2 (T 36) (T 30)),
 mo 37 (.fieldAddr 26 (T 4) 1),
 mx (.store 2 (T 37) (T 35))]
noncomputable def r17_0 : Code := .region 8 o17_0 true
theorem xr_17_0 {Q : DExit → St → Prop} {s : St} : xs Try.prog 66 r17_0 Q s = NC Try.prog 66 r17_0 Q s := rfl
theorem dr_17_0 {Q : DExit → St → Prop} {s : St} (h : XDraw Try.prog l17_0.toArray (befs o17_0.toList []) [(7, 10)] s.fr Q l17_0 0 s []) : NC Try.prog 66 r17_0 Q s :=
  NC.draw (by kernel_rfl) (by kernel_rfl) (by kernel_rfl) rfl (by kernel_rfl) (by kernel_rfl) h
attribute [go_sem] xr_17_0
noncomputable def o17_1 : Array Oper := drawn Try.f17 1
def l17_1 : List Oper := [mo 44 (.move (T 0)),
 mo 45 (.move (T 0)),
 mo 46 (.move (T 0)),
 mo 47 (.move (T 0)),
 mo 48 (.move (T 0)),
 mo 49 (.load 26 (T 4)),
 mo 50 (.fieldAddr 26 (T 4) 1),
 mo 51 (.load 2 (T 50)),
 mo 52 (.move (T 2)),
 mo 53 (.nilCheck (T 44)),
 mo 54 (.fieldAddr 86 (T 53) 3),
 mx (.store 4 (T 54) (.const (.bool true))),
 mo 55 (.nilCheck (T 45)),
 mo 56 (.fieldAddr 86 (T 55) 4),
 mx (.store 26 (T 56) (T 49)),
 mo 57 (.nilCheck (T 46)),
 mo 58 (.fieldAddr 86 (T 57) 2),
 mx (.store 2 (T 58) (T 51)),
 mo 59 (.nilCheck (T 47)),
 mo 60 (.fieldAddr 86 (T 59) 5),
 mx (.store 3 (T 60) (.const (.int .i64 0))),
 mo 61 (.nilCheck (T 48)),
 mo 62 (.fieldAddr 86 (T 61) 6),
 mx (.store 3 (T 62) (T 52))]
noncomputable def r17_1 : Code := .region 12 o17_1 true
theorem xr_17_1 {Q : DExit → St → Prop} {s : St} : xs Try.prog 66 r17_1 Q s = NC Try.prog 66 r17_1 Q s := rfl
theorem dr_17_1 {Q : DExit → St → Prop} {s : St} (h : XDraw Try.prog l17_1.toArray (befs o17_1.toList []) [(5, 11), (7, 11), (7, 14)] s.fr Q l17_1 0 s []) : NC Try.prog 66 r17_1 Q s :=
  NC.draw (by kernel_rfl) (by kernel_rfl) (by kernel_rfl) rfl (by kernel_rfl) (by kernel_rfl) h
attribute [go_sem] xr_17_1
noncomputable def c17 : Code :=
 .seq (rg [mo 4 (.box 26 (T 1)),
 mo 6 (.alloc 36),
 mo 7 (.assign (.const (.int .i64 0)))])
 (.seq (.seq (rg [mo 9 (.move (T 0)),
 mo 10 (.nilCheck (T 9)),
 mo 11 (.fieldAddr 86 (T 10) 3),
 mo 12 (.load 4 (T 11))])
 (.cond (T 12) (.seq (rg [mo 13 (.build 36 #[]),
 mx (.store 36 (T 6) (T 13)),
 mo 7 (.assign (.const (.int .i64 251)))])
 (.ret))
 (.skip)))
 (.seq (.seq (rg [mo 14 (.move (T 0)),
 mo 15 (.move (T 2)),
 mo 16 (.call ⟨(.value (.func 36)), #[(T 14), (T 15)], #[50, 3]⟩),
 mo 17 (.unOp .not 4 (T 16))])
 (.cond (T 17) (.seq (rg [mo 18 (.build 36 #[]),
 mx (.store 36 (T 6) (T 18)),
 mo 7 (.assign (.const (.int .i64 1)))])
 (.ret))
 (.skip)))
 (.seq (.seq (rg [mo 19 (.move (T 0)),
 mo 20 (.nilCheck (T 19)),
 mo 21 (.fieldAddr 86 (T 20) 2),
 mo 22 (.load 2 (T 21)),
 mo 23 (.binOp .geq 2 (T 22) (.const (.int .i64 1099511627776)) 2)])
 (.cond (T 23) (.seq (rg [mo 24 (.build 36 #[]),
 mx (.store 36 (T 6) (T 24)),
 mo 7 (.assign (.const (.int .i64 6)))])
 (.ret))
 (.skip)))
 (.seq (rg [mo 25 (.load 26 (T 4)),
 mo 26 (.call ⟨(.value (.func 21)), #[(T 25)], #[26]⟩),
 mx (.store 26 (T 4) (T 26))])
 (.seq (r17_0)
 (.seq (.seq (rg [mo 38 (.load 26 (T 4)),
 mo 39 (.call ⟨(.value (.func 23)), #[(T 38)], #[26]⟩),
 mo 8 (.assign (T 39))])
 (.seq (rg [mo 40 (.move (T 8)),
 mo 41 (.binOp .neq 31 (T 40) (.const (.int .i64 0)) 31)])
 (.cond (T 41) (.seq (rg [mo 42 (.build 36 #[]),
 mo 43 (.move (T 8)),
 mx (.store 36 (T 6) (T 42)),
 mo 7 (.assign (T 43))])
 (.ret))
 (.skip))))
 (.seq (r17_1)
 (.seq (rg [mo 63 (.move (T 2)),
 mo 64 (.load 26 (T 4)),
 mo 65 (.build 36 #[(0, (T 63)), (1, (T 64))]),
 mx (.store 36 (T 6) (T 65)),
 mo 7 (.assign (.const (.int .i64 0)))])
 (.ret)))))))))
theorem body_17 : Try.f17.body.map strip = some c17 := by kernel_rfl
theorem go_17 : GoC Try.prog 17 66 c17 [(.cell 6 36), (.tmp 7)] :=
  GoC.of (fn := Try.f17) (by kernel_rfl) body_17 (by kernel_rfl) (by kernel_rfl) (by kernel_rfl)
/-! (*trivet/client.Client).Pending -/
def c18 : Code :=
 .seq (rg [mo 2 (.alloc 26),
 mo 3 (.assign (.const (.bool false)))])
 (.seq (.seq (rg [mo 4 (.move (T 0)),
 mo 5 (.call ⟨(.value (.func 31)), #[(T 4)], #[30]⟩),
 mo 6 (.move (T 5)),
 mg 7 2 false (.move (T 0)),
 mg 8 2 false (.nilCheck (T 7)),
 mg 9 2 false (.fieldAddr 76 (T 8) 3),
 mg 10 2 false (.load 4 (T 9)),
 mg 11 2 false (.unOp .not 4 (T 10)),
 mo 12 (.pick (T 6) (.const (.bool true)) (T 11))])
 (.cond (T 12) (.seq (rg [mo 13 (.build 26 #[]),
 mx (.store 26 (T 2) (T 13)),
 mo 3 (.assign (.const (.bool false)))])
 (.ret))
 (.skip)))
 (.seq (rg [mo 14 (.move (T 0)),
 mo 15 (.nilCheck (T 14)),
 mo 16 (.fieldAddr 76 (T 15) 4),
 mo 17 (.load 26 (T 16)),
 mo 18 (.call ⟨(.value (.func 37)), #[(T 17)], #[26]⟩),
 mx (.store 26 (T 2) (T 18)),
 mo 3 (.assign (.const (.bool true)))])
 (.ret)))
theorem body_18 : Try.f18.body.map strip = some c18 := by kernel_rfl
theorem go_18 : GoC Try.prog 18 19 c18 [(.cell 2 26), (.tmp 3)] :=
  GoC.of (fn := Try.f18) (by kernel_rfl) body_18 (by kernel_rfl) (by kernel_rfl) (by kernel_rfl)
/-! (*trivet/trivetref25.Client).Pending -/
def c19 : Code :=
 .seq (rg [mo 2 (.alloc 26),
 mo 3 (.assign (.const (.bool false)))])
 (.seq (.seq (rg [mo 4 (.move (T 0)),
 mo 5 (.nilCheck (T 4)),
 mo 6 (.fieldAddr 86 (T 5) 3),
 mo 7 (.load 4 (T 6)),
 mo 8 (.unOp .not 4 (T 7))])
 (.cond (T 8) (.seq (rg [mo 9 (.build 26 #[]),
 mx (.store 26 (T 2) (T 9)),
 mo 3 (.assign (.const (.bool false)))])
 (.ret))
 (.skip)))
 (.seq (rg [mo 10 (.move (T 0)),
 mo 11 (.nilCheck (T 10)),
 mo 12 (.fieldAddr 86 (T 11) 4),
 mo 13 (.load 26 (T 12)),
 mx (.store 26 (T 2) (T 13)),
 mo 3 (.assign (.const (.bool true)))])
 (.ret)))
theorem body_19 : Try.f19.body.map strip = some c19 := by kernel_rfl
theorem go_19 : GoC Try.prog 19 14 c19 [(.cell 2 26), (.tmp 3)] :=
  GoC.of (fn := Try.f19) (by kernel_rfl) body_19 (by kernel_rfl) (by kernel_rfl) (by kernel_rfl)
/-! trivet/client.Normal -/
noncomputable def o20_0 : Array Oper := drawn Try.f20 0
def l20_0 : List Oper := [mo 5 (.fieldAddr 26 (T 1) 4),
 mo 6 (.load 24 (T 5)),
 mo 7 (.call ⟨(.value (.func 38)), #[(T 6)], #[24]⟩),
 mo 8 (.fieldAddr 26 (T 1) 5),
 mo 9 (.load 24 (T 8)),
 mo 10 (.call ⟨(.value (.func 38)), #[(T 9)], #[24]⟩),
 mo 11 (.fieldAddr 26 (T 1) 4),
 mx (.store 24 (T 11) (T 7)),
 mo 12 (.fieldAddr 26 (T 1) 5),
 mx (.store 24 (T 12) (T 10))]
noncomputable def r20_0 : Code := .region 2 o20_0 true
theorem xr_20_0 {Q : DExit → St → Prop} {s : St} : xs Try.prog 14 r20_0 Q s = NC Try.prog 14 r20_0 Q s := rfl
attribute [go_sem] xr_20_0
noncomputable def c20 : Code :=
 .seq (rg [mo 1 (.box 26 (T 0)),
 mo 2 (.alloc 26)])
 (.seq (rg [mo 3 (.load 26 (T 1)),
 mo 4 (.call ⟨(.value (.func 37)), #[(T 3)], #[26]⟩),
 mx (.store 26 (T 1) (T 4))])
 (.seq (r20_0)
 (.seq (rg [mo 13 (.load 26 (T 1)),
 mx (.store 26 (T 2) (T 13))])
 (.ret))))
theorem body_20 : Try.f20.body.map strip = some c20 := by kernel_rfl
theorem go_20 : GoC Try.prog 20 14 c20 [(.cell 2 26)] :=
  GoC.of (fn := Try.f20) (by kernel_rfl) body_20 (by kernel_rfl) (by kernel_rfl) (by kernel_rfl)
/-! trivet/trivetref25.Normal -/
noncomputable def o21_0 : Array Oper := drawn Try.f21 0
def l21_0 : List Oper := [mo 3 (.fieldAddr 26 (T 1) 4),
 mo 4 (.load 24 (T 3)),
 mo 5 (.call ⟨(.value (.func 39)), #[(T 4)], #[24]⟩),
 mo 6 (.fieldAddr 26 (T 1) 5),
 mo 7 (.load 24 (T 6)),
 mo 8 (.call ⟨(.value (.func 39)), #[(T 7)], #[24]⟩),
 mo 9 (.fieldAddr 26 (T 1) 4),
 mx (.store 24 (T 9) (T 5)),
 mo 10 (.fieldAddr 26 (T 1) 5),
 mx (.store 24 (T 10) (T 8))]
noncomputable def r21_0 : Code := .region 1 o21_0 true
theorem xr_21_0 {Q : DExit → St → Prop} {s : St} : xs Try.prog 12 r21_0 Q s = NC Try.prog 12 r21_0 Q s := rfl
attribute [go_sem] xr_21_0
noncomputable def c21 : Code :=
 .seq (rg [mo 1 (.box 26 (T 0)),
 mo 2 (.alloc 26)])
 (.seq (r21_0)
 (.seq (rg [mo 11 (.load 26 (T 1)),
 mx (.store 26 (T 2) (T 11))])
 (.ret)))
theorem body_21 : Try.f21.body.map strip = some c21 := by kernel_rfl
theorem go_21 : GoC Try.prog 21 12 c21 [(.cell 2 26)] :=
  GoC.of (fn := Try.f21) (by kernel_rfl) body_21 (by kernel_rfl) (by kernel_rfl) (by kernel_rfl)
/-! (*trivet/client.Client).Request -/
def c22 : Code :=
 .seq (rg [mo 2 (.assign (.const (.int .i64 0)))])
 (.seq (.seq (rg [mo 3 (.move (T 0)),
 mo 4 (.call ⟨(.value (.func 31)), #[(T 3)], #[30]⟩)])
 (.cond (T 4) (.seq (rg [mo 2 (.assign (.const (.int .i64 0)))])
 (.ret))
 (.skip)))
 (.seq (rg [mo 5 (.move (T 0)),
 mo 6 (.nilCheck (T 5)),
 mo 7 (.fieldAddr 76 (T 6) 2),
 mo 8 (.load 2 (T 7)),
 mo 2 (.assign (T 8))])
 (.ret)))
theorem body_22 : Try.f22.body.map strip = some c22 := by kernel_rfl
theorem go_22 : GoC Try.prog 22 9 c22 [(.tmp 2)] :=
  GoC.of (fn := Try.f22) (by kernel_rfl) body_22 (by kernel_rfl) (by kernel_rfl) (by kernel_rfl)
/-! trivet/trivetref13.Check -/
def c23 : Code :=
 .seq (rg [mo 1 (.box 26 (T 0)),
 mo 2 (.assign (.const (.int .i64 0)))])
 (.seq (.seq (rg [mo 7 (.fieldAddr 26 (T 1) 0),
 mo 8 (.load 2 (T 7)),
 mo 9 (.binOp .lss 2 (T 8) (.const (.int .i64 1)) 2),
 mo 10 (.move (T 9)),
 mg 11 3 false (.fieldAddr 26 (T 1) 0),
 mg 12 3 false (.load 2 (T 11)),
 mg 13 3 false (.binOp .gtr 2 (T 12) (.const (.int .i64 1099511627776)) 2),
 mo 14 (.pick (T 10) (.const (.bool true)) (T 13)),
 mo 15 (.move (T 14)),
 mg 16 8 false (.fieldAddr 26 (T 1) 1),
 mg 17 8 false (.load 2 (T 16)),
 mg 18 8 false (.binOp .lss 2 (T 17) (.const (.int .i64 1)) 2),
 mo 19 (.pick (T 15) (.const (.bool true)) (T 18)),
 mo 20 (.move (T 19)),
 mg 21 13 false (.fieldAddr 26 (T 1) 1),
 mg 22 13 false (.load 2 (T 21)),
 mg 23 13 false (.binOp .gtr 2 (T 22) (.const (.int .i64 1099511627776)) 2),
 mo 24 (.pick (T 20) (.const (.bool true)) (T 23))])
 (.cond (T 24) (.seq (rg [mo 2 (.assign (.const (.int .i64 1)))])
 (.ret))
 (.skip)))
 (.seq (.seq (rg [mo 25 (.fieldAddr 26 (T 1) 3),
 mo 26 (.load 23 (T 25)),
 mo 27 (.call ⟨(.builtin .len), #[(T 26)], #[23]⟩),
 mo 28 (.binOp .gtr 3 (T 27) (.const (.int .i64 8)) 3),
 mo 29 (.move (T 28)),
 mg 30 4 false (.fieldAddr 26 (T 1) 4),
 mg 31 4 false (.load 24 (T 30)),
 mg 32 4 false (.call ⟨(.builtin .len), #[(T 31)], #[24]⟩),
 mg 33 4 false (.binOp .gtr 3 (T 32) (.const (.int .i64 16)) 3),
 mo 34 (.pick (T 29) (.const (.bool true)) (T 33)),
 mo 35 (.move (T 34)),
 mg 36 10 false (.fieldAddr 26 (T 1) 5),
 mg 37 10 false (.load 24 (T 36)),
 mg 38 10 false (.call ⟨(.builtin .len), #[(T 37)], #[24]⟩),
 mg 39 10 false (.binOp .gtr 3 (T 38) (.const (.int .i64 16)) 3),
 mo 40 (.pick (T 35) (.const (.bool true)) (T 39))])
 (.cond (T 40) (.seq (rg [mo 2 (.assign (.const (.int .i64 3)))])
 (.ret))
 (.skip)))
 (.seq (.seq (rg [mo 41 (.fieldAddr 26 (T 1) 4),
 mo 42 (.load 24 (T 41)),
 mo 43 (.call ⟨(.value (.func 40)), #[(T 42)], #[24]⟩),
 mo 44 (.unOp .not 4 (T 43)),
 mo 45 (.move (T 44)),
 mg 46 4 false (.fieldAddr 26 (T 1) 5),
 mg 47 4 false (.load 24 (T 46)),
 mg 48 4 false (.call ⟨(.value (.func 40)), #[(T 47)], #[24]⟩),
 mg 49 4 false (.unOp .not 4 (T 48)),
 mo 50 (.pick (T 45) (.const (.bool true)) (T 49))])
 (.cond (T 50) (.seq (rg [mo 2 (.assign (.const (.int .i64 1)))])
 (.ret))
 (.skip)))
 (.seq (rg [mo 52 (.fieldAddr 26 (T 1) 2),
 mo 53 (.load 22 (T 52)),
 mo 54 (.call ⟨(.value (.func 41)), #[(T 53)], #[22]⟩),
 mo 51 (.move (T 54)),
 mo 55 (.extract (T 51) 0),
 mo 56 (.extract (T 51) 1),
 mo 3 (.assign (T 55)),
 mo 4 (.assign (T 56))])
 (.seq (.seq (rg [mo 57 (.move (T 4)),
 mo 58 (.binOp .neq 31 (T 57) (.const (.int .i64 0)) 31)])
 (.cond (T 58) (.seq (rg [mo 59 (.move (T 4)),
 mo 2 (.assign (T 59))])
 (.ret))
 (.skip)))
 (.seq (.seq (rg [mo 5 (.assign (.const (.int .i64 0)))])
 (.block 0 (.loop (.seq (.seq (rg [mo 60 (.move (T 5)),
 mo 61 (.move (T 3)),
 mo 62 (.call ⟨(.builtin .len), #[(T 61)], #[91]⟩),
 mo 63 (.binOp .lss 3 (T 60) (T 62) 3)])
 (.cond (T 63) (.skip)
 (.exit 0)))
 (.seq (.block 1 (.seq (rg [mo 6 (.assign (.const (.int .i64 256)))])
 (.seq (.seq (rg [mo 66 (.move (T 3)),
 mo 67 (.move (T 5)),
 mo 68 (.indexAddr 91 (T 66) (T 67)),
 mo 69 (.fieldAddr 95 (T 68) 1),
 mo 70 (.load 3 (T 69))])
 (.block 2 (.seq (.seq (rg [mo 72 (.binOp .eql 3 (T 70) (.const (.int .i64 3)) 3),
 mo 71 (.assign (T 72))])
 (.cond (T 71) (.skip)
 (rg [mo 73 (.binOp .eql 3 (T 70) (.const (.int .i64 4)) 3),
 mo 71 (.assign (T 73))])))
 (.cond (T 71) (rg [mo 74 (.fieldAddr 26 (T 1) 4),
 mo 75 (.load 24 (T 74)),
 mo 76 (.call ⟨(.builtin .len), #[(T 75)], #[24]⟩),
 mo 6 (.assign (T 76))])
 (.seq (.seq (rg [mo 78 (.binOp .eql 3 (T 70) (.const (.int .i64 5)) 3),
 mo 77 (.assign (T 78))])
 (.cond (T 77) (.skip)
 (rg [mo 79 (.binOp .eql 3 (T 70) (.const (.int .i64 6)) 3),
 mo 77 (.assign (T 79))])))
 (.cond (T 77) (rg [mo 80 (.fieldAddr 26 (T 1) 5),
 mo 81 (.load 24 (T 80)),
 mo 82 (.call ⟨(.builtin .len), #[(T 81)], #[24]⟩),
 mo 6 (.assign (T 82))])
 (.seq (rg [mo 84 (.binOp .eql 3 (T 70) (.const (.int .i64 2)) 3),
 mo 83 (.assign (T 84))])
 (.cond (T 83) (rg [mo 85 (.fieldAddr 26 (T 1) 3),
 mo 86 (.load 23 (T 85)),
 mo 87 (.call ⟨(.builtin .len), #[(T 86)], #[23]⟩),
 mo 6 (.assign (T 87))])
 (.exit 1)))))))))
 (.seq (rg [mo 88 (.move (T 3)),
 mo 89 (.move (T 5)),
 mo 90 (.indexAddr 91 (T 88) (T 89)),
 mo 91 (.fieldAddr 95 (T 90) 4),
 mo 92 (.load 2 (T 91)),
 mo 93 (.move (T 6)),
 mo 94 (.binOp .geq 2 (T 92) (T 93) 2)])
 (.cond (T 94) (.seq (rg [mo 2 (.assign (.const (.int .i64 132)))])
 (.ret))
 (.skip))))))
 (rg [mo 64 (.move (T 5)),
 mo 65 (.binOp .add 3 (T 64) (.const (.int .i64 1)) 3),
 mo 5 (.assign (T 65))]))))))
 (.seq (rg [mo 2 (.assign (.const (.int .i64 0)))])
 (.ret))))))))
theorem body_23 : Try.f23.body.map strip = some c23 := by kernel_rfl
theorem go_23 : GoC Try.prog 23 95 c23 [(.tmp 2)] :=
  GoC.of (fn := Try.f23) (by kernel_rfl) body_23 (by kernel_rfl) (by kernel_rfl) (by kernel_rfl)
/-! trivet/trivetref11.SameKeys -/
noncomputable def o24_0 : Array Oper := drawn Try.f24 0
def l24_0 : List Oper := [mo 17 (.move (T 0)),
 mo 18 (.move (T 5)),
 mo 19 (.indexAddr 24 (T 17) (T 18)),
 mo 20 (.load 54 (T 19)),
 mo 21 (.move (T 1)),
 mo 22 (.move (T 5)),
 mo 23 (.indexAddr 24 (T 21) (T 22)),
 mo 24 (.load 54 (T 23)),
 mo 25 (.binOp .neq 54 (T 20) (T 24) 54)]
noncomputable def r24_0 : Code := .region 6 o24_0 true
theorem xr_24_0 {Q : DExit → St → Prop} {s : St} : xs Try.prog 26 r24_0 Q s = NC Try.prog 26 r24_0 Q s := rfl
theorem dr_24_0 {Q : DExit → St → Prop} {s : St} (h : XDraw Try.prog l24_0.toArray (befs o24_0.toList []) [] s.fr Q l24_0 0 s []) : NC Try.prog 26 r24_0 Q s :=
  NC.draw (by kernel_rfl) (by kernel_rfl) (by kernel_rfl) rfl (by kernel_rfl) (by kernel_rfl) h
attribute [go_sem] xr_24_0
noncomputable def c24 : Code :=
 .seq (rg [mo 4 (.assign (.const (.bool false)))])
 (.seq (.seq (rg [mo 6 (.move (T 0)),
 mo 7 (.call ⟨(.builtin .len), #[(T 6)], #[24]⟩),
 mo 8 (.move (T 1)),
 mo 9 (.call ⟨(.builtin .len), #[(T 8)], #[24]⟩),
 mo 10 (.binOp .neq 3 (T 7) (T 9) 3)])
 (.cond (T 10) (.seq (rg [mo 4 (.assign (.const (.bool false)))])
 (.ret))
 (.skip)))
 (.seq (.seq (rg [mo 5 (.assign (.const (.int .i64 0)))])
 (.block 0 (.loop (.seq (.seq (rg [mo 11 (.move (T 5)),
 mo 12 (.move (T 0)),
 mo 13 (.call ⟨(.builtin .len), #[(T 12)], #[24]⟩),
 mo 14 (.binOp .lss 3 (T 11) (T 13) 3)])
 (.cond (T 14) (.skip)
 (.exit 0)))
 (.seq (.block 1 (.seq (r24_0)
 (.cond (T 25) (.seq (rg [mo 4 (.assign (.const (.bool false)))])
 (.ret))
 (.skip))))
 (rg [mo 15 (.move (T 5)),
 mo 16 (.binOp .add 3 (T 15) (.const (.int .i64 1)) 3),
 mo 5 (.assign (T 16))]))))))
 (.seq (rg [mo 4 (.assign (.const (.bool true)))])
 (.ret))))
theorem body_24 : Try.f24.body.map strip = some c24 := by kernel_rfl
theorem go_24 : GoC Try.prog 24 26 c24 [(.tmp 4)] :=
  GoC.of (fn := Try.f24) (by kernel_rfl) body_24 (by kernel_rfl) (by kernel_rfl) (by kernel_rfl)
/-! (*trivet/client.Client).Found -/
noncomputable def o25_0 : Array Oper := drawn Try.f25 0
def l25_0 : List Oper := [mo 24 (.fieldAddr 65 (T 3) 1),
 mo 25 (.load 2 (T 24)),
 mo 26 (.move (T 0)),
 mo 27 (.nilCheck (T 26)),
 mo 28 (.fieldAddr 76 (T 27) 7),
 mo 29 (.load 2 (T 28)),
 mo 30 (.binOp .lss 2 (T 25) (T 29) 2),
 mo 23 (.assign (T 30))]
noncomputable def r25_0 : Code := .region 7 o25_0 true
theorem xr_25_0 {Q : DExit → St → Prop} {s : St} : xs Try.prog 36 r25_0 Q s = NC Try.prog 36 r25_0 Q s := rfl
theorem dr_25_0 {Q : DExit → St → Prop} {s : St} (h : XDraw Try.prog l25_0.toArray (befs o25_0.toList []) [] s.fr Q l25_0 0 s []) : NC Try.prog 36 r25_0 Q s :=
  NC.draw (by kernel_rfl) (by kernel_rfl) (by kernel_rfl) rfl (by kernel_rfl) (by kernel_rfl) h
attribute [go_sem] xr_25_0
noncomputable def c25 : Code :=
 .seq (rg [mo 3 (.box 65 (T 1)),
 mo 4 (.assign (.const (.int .i64 0)))])
 (.seq (.block 0 (.seq (rg [mo 6 (.move (T 0)),
 mo 7 (.call ⟨(.value (.func 31)), #[(T 6)], #[30]⟩),
 mo 5 (.assign (T 7))])
 (.cond (T 5) (.seq (rg [mo 4 (.assign (.const (.int .i64 2)))])
 (.ret))
 (.seq (rg [mo 9 (.fieldAddr 65 (T 3) 0),
 mo 10 (.load 31 (T 9)),
 mo 11 (.binOp .neq 31 (T 10) (.const (.int .i64 0)) 31),
 mo 8 (.assign (T 11))])
 (.cond (T 8) (.seq (rg [mo 12 (.fieldAddr 65 (T 3) 0),
 mo 13 (.load 31 (T 12)),
 mo 4 (.assign (T 13))])
 (.ret))
 (.seq (rg [mo 15 (.fieldAddr 65 (T 3) 1),
 mo 16 (.load 2 (T 15)),
 mo 17 (.binOp .lss 2 (T 16) (.const (.int .i64 0)) 2),
 mo 18 (.move (T 17)),
 mg 19 3 false (.fieldAddr 65 (T 3) 1),
 mg 20 3 false (.load 2 (T 19)),
 mg 21 3 false (.binOp .gtr 2 (T 20) (.const (.int .i64 1099511627776)) 2),
 mo 22 (.pick (T 18) (.const (.bool true)) (T 21)),
 mo 14 (.assign (T 22))])
 (.cond (T 14) (.seq (rg [mo 4 (.assign (.const (.int .i64 1)))])
 (.ret))
 (.seq (r25_0)
 (.cond (T 23) (.seq (rg [mo 4 (.assign (.const (.int .i64 250)))])
 (.ret))
 (.skip))))))))))
 (.seq (rg [mo 31 (.move (T 0)),
 mo 32 (.fieldAddr 65 (T 3) 1),
 mo 33 (.load 2 (T 32)),
 mo 34 (.nilCheck (T 31)),
 mo 35 (.fieldAddr 76 (T 34) 7),
 mx (.store 2 (T 35) (T 33))])
 (.seq (rg [mo 4 (.assign (.const (.int .i64 0)))])
 (.ret))))
theorem body_25 : Try.f25.body.map strip = some c25 := by kernel_rfl
theorem go_25 : GoC Try.prog 25 36 c25 [(.tmp 4)] :=
  GoC.of (fn := Try.f25) (by kernel_rfl) body_25 (by kernel_rfl) (by kernel_rfl) (by kernel_rfl)
/-! (*trivet/trivetlaw25.pair).does -/
noncomputable def o26_0 : Array Oper := drawn Try.f26 0
def g26_0 : List (Nat × Tmp × TypeId) := [(12, 5, 36)]
def q26_0 : List YO := [.s 0 (mo 27 (.move (T 0))),
 .s 1 (mo 28 (.nilCheck (T 27))),
 .s 2 (mo 29 (.fieldAddr 72 (T 28) 0)),
 .s 3 (mo 30 (.load 30 (T 29))),
 .s 4 (mo 31 (.fieldAddr 67 (T 3) 1)),
 .s 5 (mo 32 (.load 26 (T 31))),
 .s 6 (mo 33 (.fieldAddr 67 (T 3) 2)),
 .s 7 (mo 34 (.load 3 (T 33))),
 .b 8 (mo 35 (.call ⟨(.value (.func 11)), #[(T 30), (T 32), (T 34)], #[30, 26, 3]⟩)) [0],
 .s 9 (mo 26 (.move (T 35))),
 .s 10 (mo 36 (.extract (T 26) 0)),
 .s 11 (mo 37 (.extract (T 26) 1)),
 .b 13 (mx (.store 36 (T 5) (T 36))) [],
 .s 14 (mo 6 (.assign (T 37)))]
def l26_0 : List Oper := yL g26_0 q26_0 15
noncomputable def r26_0 : Code := .region 3 o26_0 true
theorem xr_26_0 {Q : DExit → St → Prop} {s : St} : xs Try.prog 219 r26_0 Q s = NC Try.prog 219 r26_0 Q s := rfl
-- not fit to be walked: false
theorem yr_26_0 {Q : DExit → St → Prop} {s : St} (hdf : s.df = []) (h : YG Try.prog (YD Try.prog l26_0.toArray Q q26_0) g26_0 s []) : NC Try.prog 219 r26_0 Q s :=
  NC.yd (l := l26_0) (b := [0, 1, 3, 7, 0, 16, 0, 64, 255, 511, 1023, 1023, 0, 6143, 16383]) (by kernel_rfl) (by kernel_rfl) (by kernel_rfl) (by kernel_rfl) (by kernel_rfl) (by kernel_rfl) (by kernel_rfl) (by kernel_rfl) hdf h
attribute [go_sem] xr_26_0
noncomputable def o26_1 : Array Oper := drawn Try.f26 1
def g26_1 : List (Nat × Tmp × TypeId) := [(12, 7, 36)]
def q26_1 : List YO := [.s 0 (mo 39 (.move (T 0))),
 .s 1 (mo 40 (.nilCheck (T 39))),
 .s 2 (mo 41 (.fieldAddr 72 (T 40) 1)),
 .s 3 (mo 42 (.load 50 (T 41))),
 .s 4 (mo 43 (.fieldAddr 67 (T 3) 1)),
 .s 5 (mo 44 (.load 26 (T 43))),
 .s 6 (mo 45 (.fieldAddr 67 (T 3) 2)),
 .s 7 (mo 46 (.load 3 (T 45))),
 .b 8 (mo 47 (.call ⟨(.value (.func 17)), #[(T 42), (T 44), (T 46)], #[50, 26, 3]⟩)) [0],
 .s 9 (mo 38 (.move (T 47))),
 .s 10 (mo 48 (.extract (T 38) 0)),
 .s 11 (mo 49 (.extract (T 38) 1)),
 .b 13 (mx (.store 36 (T 7) (T 48))) [],
 .s 14 (mo 8 (.assign (T 49)))]
def l26_1 : List Oper := yL g26_1 q26_1 15
noncomputable def r26_1 : Code := .region 4 o26_1 true
theorem xr_26_1 {Q : DExit → St → Prop} {s : St} : xs Try.prog 219 r26_1 Q s = NC Try.prog 219 r26_1 Q s := rfl
-- not fit to be walked: false
theorem yr_26_1 {Q : DExit → St → Prop} {s : St} (hdf : s.df = []) (h : YG Try.prog (YD Try.prog l26_1.toArray Q q26_1) g26_1 s []) : NC Try.prog 219 r26_1 Q s :=
  NC.yd (l := l26_1) (b := [0, 1, 3, 7, 0, 16, 0, 64, 255, 511, 1023, 1023, 0, 6143, 16383]) (by kernel_rfl) (by kernel_rfl) (by kernel_rfl) (by kernel_rfl) (by kernel_rfl) (by kernel_rfl) (by kernel_rfl) (by kernel_rfl) hdf h
attribute [go_sem] xr_26_1
noncomputable def o26_2 : Array Oper := drawn Try.f26 2
def g26_2 : List (Nat × Tmp × TypeId) := []
def q26_2 : List YO := [.s 0 (mo 88 (.move (T 0))),
 .s 1 (mo 89 (.nilCheck (T 88))),
 .s 2 (mo 90 (.fieldAddr 72 (T 89) 1)),
 .s 3 (mo 91 (.load 50 (T 90))),
 .s 4 (mo 92 (.nilCheck (T 91))),
 .s 5 (mo 93 (.fieldAddr 86 (T 92) 0)),
 .s 6 (mo 94 (.load 2 (T 93))),
 .s 7 (mo 95 (.move (T 0))),
 .s 8 (mo 96 (.nilCheck (T 95))),
 .s 9 (mo 97 (.fieldAddr 72 (T 96) 1)),
 .l 10 (mo 98 (.load 50 (T 97))),
 .s 11 (mo 99 (.nilCheck (T 98))),
 .s 12 (mo 100 (.fieldAddr 86 (T 99) 2)),
 .l 13 (mo 101 (.load 2 (T 100))),
 .s 14 (mo 102 (.fieldAddr 67 (T 3) 3)),
 .s 15 (mo 103 (.fieldAddr 47 (T 102) 0)),
 .b 16 (mx (.store 2 (T 103) (T 94))) [0, 1],
 .s 17 (mo 104 (.fieldAddr 67 (T 3) 3)),
 .s 18 (mo 105 (.fieldAddr 47 (T 104) 1)),
 .b 19 (mx (.store 2 (T 105) (T 101))) []]
def l26_2 : List Oper := [mo 88 (.move (T 0)),
 mo 89 (.nilCheck (T 88)),
 mo 90 (.fieldAddr 72 (T 89) 1),
 mo 91 (.load 50 (T 90)),
 mo 92 (.nilCheck (T 91)),
 mo 93 (.fieldAddr 86 (T 92) 0),
 mo 94 (.load 2 (T 93)),
 mo 95 (.move (T 0)),
 mo 96 (.nilCheck (T 95)),
 mo 97 (.fieldAddr 72 (T 96) 1),
 mo 98 (.load 50 (T 97)),
 mo 99 (.nilCheck (T 98)),
 mo 100 (.fieldAddr 86 (T 99) 2),
 mo 101 (.load 2 (T 100)),
 mo 102 (.fieldAddr 67 (T 3) 3),
 mo 103 (.fieldAddr 47 (T 102) 0),
 mx (.store 2 (T 103) (T 94)),
 mo 104 (.fieldAddr 67 (T 3) 3),
 mo 105 (.fieldAddr 47 (T 104) 1),
 mx (.store 2 (T 105) (T 101))]
noncomputable def r26_2 : Code := .region 12 o26_2 true
theorem yr_26_2 {Q : DExit → St → Prop} {s : St} (hdf : s.df = []) (h : YG Try.prog (YD Try.prog l26_2.toArray Q q26_2) g26_2 s []) : NC Try.prog 219 r26_2 Q s :=
  NC.yd (l := l26_2) (b := [0, 1, 3, 7, 15, 31, 63, 0, 128, 384, 896, 1920, 3968, 8064, 127, 16511, 49279, 131071, 262143, 524287]) (by kernel_rfl) (by kernel_rfl) (by kernel_rfl) (by kernel_rfl) (by kernel_rfl) (by kernel_rfl) (by kernel_rfl) (by kernel_rfl) hdf h
noncomputable def o26_3 : Array Oper := drawn Try.f26 3
def g26_3 : List (Nat × Tmp × TypeId) := []
def q26_3 : List YO := [.s 0 (mo 107 (.move (T 0))),
 .s 1 (mo 108 (.nilCheck (T 107))),
 .s 2 (mo 109 (.fieldAddr 72 (T 108) 0)),
 .s 3 (mo 110 (.load 30 (T 109))),
 .s 4 (mo 111 (.fieldAddr 67 (T 3) 3)),
 .s 5 (mo 112 (.load 47 (T 111))),
 .b 6 (mo 113 (.call ⟨(.value (.func 14)), #[(T 110), (T 112)], #[30, 47]⟩)) [],
 .s 7 (mo 106 (.move (T 113))),
 .s 8 (mo 114 (.extract (T 106) 0)),
 .s 9 (mo 115 (.extract (T 106) 1)),
 .s 10 (mo 13 (.assign (T 114))),
 .s 11 (mo 14 (.assign (T 115)))]
def l26_3 : List Oper := [mo 107 (.move (T 0)),
 mo 108 (.nilCheck (T 107)),
 mo 109 (.fieldAddr 72 (T 108) 0),
 mo 110 (.load 30 (T 109)),
 mo 111 (.fieldAddr 67 (T 3) 3),
 mo 112 (.load 47 (T 111)),
 mo 113 (.call ⟨(.value (.func 14)), #[(T 110), (T 112)], #[30, 47]⟩),
 mo 106 (.move (T 113)),
 mo 114 (.extract (T 106) 0),
 mo 115 (.extract (T 106) 1),
 mo 13 (.assign (T 114)),
 mo 14 (.assign (T 115))]
noncomputable def r26_3 : Code := .region 13 o26_3 true
theorem xr_26_3 {Q : DExit → St → Prop} {s : St} : xs Try.prog 219 r26_3 Q s = NC Try.prog 219 r26_3 Q s := rfl
theorem yr_26_3 {Q : DExit → St → Prop} {s : St} (hdf : s.df = []) (h : YG Try.prog (YD Try.prog l26_3.toArray Q q26_3) g26_3 s []) : NC Try.prog 219 r26_3 Q s :=
  NC.yd (l := l26_3) (b := [0, 1, 3, 7, 0, 16, 63, 127, 255, 255, 511, 2047]) (by kernel_rfl) (by kernel_rfl) (by kernel_rfl) (by kernel_rfl) (by kernel_rfl) (by kernel_rfl) (by kernel_rfl) (by kernel_rfl) hdf h
attribute [go_sem] xr_26_3
noncomputable def o26_4 : Array Oper := drawn Try.f26 4
def g26_4 : List (Nat × Tmp × TypeId) := []
def q26_4 : List YO := [.s 0 (mo 117 (.move (T 0))),
 .s 1 (mo 118 (.nilCheck (T 117))),
 .s 2 (mo 119 (.fieldAddr 72 (T 118) 1)),
 .s 3 (mo 120 (.load 50 (T 119))),
 .s 4 (mo 121 (.fieldAddr 67 (T 3) 3)),
 .s 5 (mo 122 (.load 47 (T 121))),
 .b 6 (mo 123 (.call ⟨(.value (.func 44)), #[(T 120), (T 122)], #[50, 47]⟩)) [],
 .s 7 (mo 116 (.move (T 123))),
 .s 8 (mo 124 (.extract (T 116) 0)),
 .s 9 (mo 125 (.extract (T 116) 1)),
 .s 10 (mo 15 (.assign (T 124))),
 .s 11 (mo 16 (.assign (T 125)))]
def l26_4 : List Oper := [mo 117 (.move (T 0)),
 mo 118 (.nilCheck (T 117)),
 mo 119 (.fieldAddr 72 (T 118) 1),
 mo 120 (.load 50 (T 119)),
 mo 121 (.fieldAddr 67 (T 3) 3),
 mo 122 (.load 47 (T 121)),
 mo 123 (.call ⟨(.value (.func 44)), #[(T 120), (T 122)], #[50, 47]⟩),
 mo 116 (.move (T 123)),
 mo 124 (.extract (T 116) 0),
 mo 125 (.extract (T 116) 1),
 mo 15 (.assign (T 124)),
 mo 16 (.assign (T 125))]
noncomputable def r26_4 : Code := .region 14 o26_4 true
theorem xr_26_4 {Q : DExit → St → Prop} {s : St} : xs Try.prog 219 r26_4 Q s = NC Try.prog 219 r26_4 Q s := rfl
theorem yr_26_4 {Q : DExit → St → Prop} {s : St} (hdf : s.df = []) (h : YG Try.prog (YD Try.prog l26_4.toArray Q q26_4) g26_4 s []) : NC Try.prog 219 r26_4 Q s :=
  NC.yd (l := l26_4) (b := [0, 1, 3, 7, 0, 16, 63, 127, 255, 255, 511, 2047]) (by kernel_rfl) (by kernel_rfl) (by kernel_rfl) (by kernel_rfl) (by kernel_rfl) (by kernel_rfl) (by kernel_rfl) (by kernel_rfl) hdf h
attribute [go_sem] xr_26_4
noncomputable def o26_5 : Array Oper := drawn Try.f26 5
def g26_5 : List (Nat × Tmp × TypeId) := [(12, 17, 36)]
def q26_5 : List YO := [.s 0 (mo 137 (.move (T 0))),
 .s 1 (mo 138 (.nilCheck (T 137))),
 .s 2 (mo 139 (.fieldAddr 72 (T 138) 0)),
 .s 3 (mo 140 (.load 30 (T 139))),
 .s 4 (mo 141 (.fieldAddr 67 (T 3) 2)),
 .s 5 (mo 142 (.load 3 (T 141))),
 .s 6 (mo 143 (.fieldAddr 67 (T 3) 5)),
 .s 7 (mo 144 (.load 24 (T 143))),
 .b 8 (mo 145 (.call ⟨(.value (.func 28)), #[(T 140), (T 142), (T 144)], #[30, 3, 24]⟩)) [0],
 .s 9 (mo 136 (.move (T 145))),
 .s 10 (mo 146 (.extract (T 136) 0)),
 .s 11 (mo 147 (.extract (T 136) 1)),
 .b 13 (mx (.store 36 (T 17) (T 146))) [],
 .s 14 (mo 18 (.assign (T 147)))]
def l26_5 : List Oper := yL g26_5 q26_5 15
noncomputable def r26_5 : Code := .region 17 o26_5 true
theorem xr_26_5 {Q : DExit → St → Prop} {s : St} : xs Try.prog 219 r26_5 Q s = NC Try.prog 219 r26_5 Q s := rfl
-- not fit to be walked: false
theorem yr_26_5 {Q : DExit → St → Prop} {s : St} (hdf : s.df = []) (h : YG Try.prog (YD Try.prog l26_5.toArray Q q26_5) g26_5 s []) : NC Try.prog 219 r26_5 Q s :=
  NC.yd (l := l26_5) (b := [0, 1, 3, 7, 0, 16, 0, 64, 255, 511, 1023, 1023, 0, 6143, 16383]) (by kernel_rfl) (by kernel_rfl) (by kernel_rfl) (by kernel_rfl) (by kernel_rfl) (by kernel_rfl) (by kernel_rfl) (by kernel_rfl) hdf h
attribute [go_sem] xr_26_5
noncomputable def o26_6 : Array Oper := drawn Try.f26 6
def g26_6 : List (Nat × Tmp × TypeId) := [(12, 19, 36)]
def q26_6 : List YO := [.s 0 (mo 149 (.move (T 0))),
 .s 1 (mo 150 (.nilCheck (T 149))),
 .s 2 (mo 151 (.fieldAddr 72 (T 150) 1)),
 .s 3 (mo 152 (.load 50 (T 151))),
 .s 4 (mo 153 (.fieldAddr 67 (T 3) 2)),
 .s 5 (mo 154 (.load 3 (T 153))),
 .s 6 (mo 155 (.fieldAddr 67 (T 3) 5)),
 .s 7 (mo 156 (.load 24 (T 155))),
 .b 8 (mo 157 (.call ⟨(.value (.func 45)), #[(T 152), (T 154), (T 156)], #[50, 3, 24]⟩)) [0],
 .s 9 (mo 148 (.move (T 157))),
 .s 10 (mo 158 (.extract (T 148) 0)),
 .s 11 (mo 159 (.extract (T 148) 1)),
 .b 13 (mx (.store 36 (T 19) (T 158))) [],
 .s 14 (mo 20 (.assign (T 159)))]
def l26_6 : List Oper := yL g26_6 q26_6 15
noncomputable def r26_6 : Code := .region 18 o26_6 true
theorem xr_26_6 {Q : DExit → St → Prop} {s : St} : xs Try.prog 219 r26_6 Q s = NC Try.prog 219 r26_6 Q s := rfl
-- not fit to be walked: false
theorem yr_26_6 {Q : DExit → St → Prop} {s : St} (hdf : s.df = []) (h : YG Try.prog (YD Try.prog l26_6.toArray Q q26_6) g26_6 s []) : NC Try.prog 219 r26_6 Q s :=
  NC.yd (l := l26_6) (b := [0, 1, 3, 7, 0, 16, 0, 64, 255, 511, 1023, 1023, 0, 6143, 16383]) (by kernel_rfl) (by kernel_rfl) (by kernel_rfl) (by kernel_rfl) (by kernel_rfl) (by kernel_rfl) (by kernel_rfl) (by kernel_rfl) hdf h
attribute [go_sem] xr_26_6
noncomputable def o26_7 : Array Oper := drawn Try.f26 7
def g26_7 : List (Nat × Tmp × TypeId) := []
def q26_7 : List YO := [.s 0 (mo 170 (.move (T 0))),
 .s 1 (mo 171 (.nilCheck (T 170))),
 .s 2 (mo 172 (.fieldAddr 72 (T 171) 0)),
 .s 3 (mo 173 (.load 30 (T 172))),
 .s 4 (mo 174 (.fieldAddr 67 (T 3) 6)),
 .s 5 (mo 175 (.load 65 (T 174))),
 .s 7 (mo 177 (.move (T 0))),
 .s 8 (mo 178 (.nilCheck (T 177))),
 .s 9 (mo 179 (.fieldAddr 72 (T 178) 1)),
 .l 10 (mo 180 (.load 50 (T 179))),
 .s 11 (mo 181 (.fieldAddr 67 (T 3) 6)),
 .l 12 (mo 182 (.load 65 (T 181))),
 .b 6 (mo 176 (.call ⟨(.value (.func 25)), #[(T 173), (T 175)], #[30, 65]⟩)) [0, 1],
 .b 13 (mo 183 (.call ⟨(.value (.func 46)), #[(T 180), (T 182)], #[50, 65]⟩)) [],
 .s 14 (mo 184 (.binOp .eql 31 (T 176) (T 183) 31)),
 .s 15 (mo 4 (.assign (T 184)))]
def l26_7 : List Oper := [mo 170 (.move (T 0)),
 mo 171 (.nilCheck (T 170)),
 mo 172 (.fieldAddr 72 (T 171) 0),
 mo 173 (.load 30 (T 172)),
 mo 174 (.fieldAddr 67 (T 3) 6),
 mo 175 (.load 65 (T 174)),
 mo 176 (.call ⟨(.value (.func 25)), #[(T 173), (T 175)], #[30, 65]⟩),
 mo 177 (.move (T 0)),
 mo 178 (.nilCheck (T 177)),
 mo 179 (.fieldAddr 72 (T 178) 1),
 mo 180 (.load 50 (T 179)),
 mo 181 (.fieldAddr 67 (T 3) 6),
 mo 182 (.load 65 (T 181)),
 mo 183 (.call ⟨(.value (.func 46)), #[(T 180), (T 182)], #[50, 65]⟩),
 mo 184 (.binOp .eql 31 (T 176) (T 183) 31),
 mo 4 (.assign (T 184))]
noncomputable def r26_7 : Code := .region 21 o26_7 true
theorem xr_26_7 {Q : DExit → St → Prop} {s : St} : xs Try.prog 219 r26_7 Q s = NC Try.prog 219 r26_7 Q s := rfl
theorem yr_26_7 {Q : DExit → St → Prop} {s : St} (hdf : s.df = []) (h : YG Try.prog (YD Try.prog l26_7.toArray Q q26_7) g26_7 s []) : NC Try.prog 219 r26_7 Q s :=
  NC.yd (l := l26_7) (b := [0, 1, 3, 7, 0, 16, 63, 0, 128, 384, 896, 0, 2048, 8191, 16383, 32767]) (by kernel_rfl) (by kernel_rfl) (by kernel_rfl) (by kernel_rfl) (by kernel_rfl) (by kernel_rfl) (by kernel_rfl) (by kernel_rfl) hdf h
attribute [go_sem] xr_26_7
noncomputable def o26_8 : Array Oper := drawn Try.f26 8
def g26_8 : List (Nat × Tmp × TypeId) := []
def q26_8 : List YO := [.s 0 (mo 194 (.move (T 0))),
 .s 1 (mo 195 (.nilCheck (T 194))),
 .s 2 (mo 196 (.fieldAddr 72 (T 195) 0)),
 .s 3 (mo 197 (.load 30 (T 196))),
 .s 4 (mo 198 (.move (T 0))),
 .s 5 (mo 199 (.nilCheck (T 198))),
 .s 6 (mo 200 (.fieldAddr 72 (T 199) 1)),
 .s 7 (mo 201 (.load 50 (T 200))),
 .s 8 (mo 202 (.nilCheck (T 201))),
 .s 9 (mo 203 (.fieldAddr 86 (T 202) 0)),
 .s 10 (mo 204 (.load 2 (T 203))),
 .s 11 (mo 205 (.move (T 0))),
 .s 12 (mo 206 (.nilCheck (T 205))),
 .s 13 (mo 207 (.fieldAddr 72 (T 206) 1)),
 .s 14 (mo 208 (.load 50 (T 207))),
 .s 15 (mo 209 (.nilCheck (T 208))),
 .s 16 (mo 210 (.fieldAddr 86 (T 209) 2)),
 .s 17 (mo 211 (.load 2 (T 210))),
 .s 18 (mo 212 (.build 45 #[(2, (.const (.int .i64 99)))])),
 .s 19 (mo 213 (.build 47 #[(0, (T 204)), (1, (T 211)), (2, (T 212))])),
 .b 20 (mo 214 (.call ⟨(.value (.func 14)), #[(T 197), (T 213)], #[30, 47]⟩)) []]
def l26_8 : List Oper := [mo 194 (.move (T 0)),
 mo 195 (.nilCheck (T 194)),
 mo 196 (.fieldAddr 72 (T 195) 0),
 mo 197 (.load 30 (T 196)),
 mo 198 (.move (T 0)),
 mo 199 (.nilCheck (T 198)),
 mo 200 (.fieldAddr 72 (T 199) 1),
 mo 201 (.load 50 (T 200)),
 mo 202 (.nilCheck (T 201)),
 mo 203 (.fieldAddr 86 (T 202) 0),
 mo 204 (.load 2 (T 203)),
 mo 205 (.move (T 0)),
 mo 206 (.nilCheck (T 205)),
 mo 207 (.fieldAddr 72 (T 206) 1),
 mo 208 (.load 50 (T 207)),
 mo 209 (.nilCheck (T 208)),
 mo 210 (.fieldAddr 86 (T 209) 2),
 mo 211 (.load 2 (T 210)),
 mo 212 (.build 45 #[(2, (.const (.int .i64 99)))]),
 mo 213 (.build 47 #[(0, (T 204)), (1, (T 211)), (2, (T 212))]),
 mo 214 (.call ⟨(.value (.func 14)), #[(T 197), (T 213)], #[30, 47]⟩)]
noncomputable def r26_8 : Code := .region 26 o26_8 true
theorem xr_26_8 {Q : DExit → St → Prop} {s : St} : xs Try.prog 219 r26_8 Q s = NC Try.prog 219 r26_8 Q s := rfl
theorem yr_26_8 {Q : DExit → St → Prop} {s : St} (hdf : s.df = []) (h : YG Try.prog (YD Try.prog l26_8.toArray Q q26_8) g26_8 s []) : NC Try.prog 219 r26_8 Q s :=
  NC.yd (l := l26_8) (b := [0, 1, 3, 7, 0, 16, 48, 112, 240, 496, 1008, 0, 2048, 6144, 14336, 30720, 63488, 129024, 0, 524272, 1048575]) (by kernel_rfl) (by kernel_rfl) (by kernel_rfl) (by kernel_rfl) (by kernel_rfl) (by kernel_rfl) (by kernel_rfl) (by kernel_rfl) hdf h
attribute [go_sem] xr_26_8
noncomputable def c26 : Code :=
 .seq (rg [mo 3 (.box 67 (T 1)),
 mo 4 (.assign (.const (.bool false)))])
 (.seq (.seq (rg [mo 22 (.fieldAddr 67 (T 3) 0),
 mo 23 (.load 3 (T 22))])
 (.block 0 (.seq (rg [mo 25 (.binOp .eql 3 (T 23) (.const (.int .i64 0)) 3),
 mo 24 (.assign (T 25))])
 (.cond (T 24) (.seq (r26_0)
 (.seq (r26_1)
 (.seq (rg [mo 50 (.move (T 6)),
 mo 51 (.move (T 8)),
 mo 52 (.binOp .eql 31 (T 50) (T 51) 31),
 mo 53 (.move (T 52)),
 mg 54 3 true (.load 36 (T 5)),
 mg 55 3 true (.load 36 (T 7)),
 mg 56 3 true (.call ⟨(.value (.func 42)), #[(T 54), (T 55)], #[36, 36]⟩),
 mo 57 (.pick (T 53) (T 56) (.const (.bool false))),
 mo 4 (.assign (T 57))])
 (.ret))))
 (.seq (rg [mo 59 (.binOp .eql 3 (T 23) (.const (.int .i64 1)) 3),
 mo 58 (.assign (T 59))])
 (.cond (T 58) (.seq (rg [mo 61 (.move (T 0)),
 mo 62 (.nilCheck (T 61)),
 mo 63 (.fieldAddr 72 (T 62) 0),
 mo 64 (.load 30 (T 63)),
 mo 65 (.call ⟨(.value (.func 12)), #[(T 64)], #[30]⟩),
 mo 60 (.move (T 65)),
 mo 66 (.extract (T 60) 0),
 mo 67 (.extract (T 60) 1),
 mo 9 (.alloc 36),
 mx (.store 36 (T 9) (T 66)),
 mo 10 (.assign (T 67))])
 (.seq (rg [mo 69 (.move (T 0)),
 mo 70 (.nilCheck (T 69)),
 mo 71 (.fieldAddr 72 (T 70) 1),
 mo 72 (.load 50 (T 71)),
 mo 73 (.call ⟨(.value (.func 43)), #[(T 72)], #[50]⟩),
 mo 68 (.move (T 73)),
 mo 74 (.extract (T 68) 0),
 mo 75 (.extract (T 68) 1),
 mo 11 (.alloc 36),
 mx (.store 36 (T 11) (T 74)),
 mo 12 (.assign (T 75))])
 (.seq (rg [mo 76 (.move (T 10)),
 mo 77 (.move (T 12)),
 mo 78 (.binOp .eql 4 (T 76) (T 77) 4),
 mo 79 (.move (T 78)),
 mg 80 3 true (.load 36 (T 9)),
 mg 81 3 true (.load 36 (T 11)),
 mg 82 3 true (.call ⟨(.value (.func 42)), #[(T 80), (T 81)], #[36, 36]⟩),
 mo 83 (.pick (T 79) (T 82) (.const (.bool false))),
 mo 4 (.assign (T 83))])
 (.ret))))
 (.seq (rg [mo 85 (.binOp .eql 3 (T 23) (.const (.int .i64 2)) 3),
 mo 84 (.assign (T 85))])
 (.cond (T 84) (.seq (.seq (rg [mo 86 (.fieldAddr 67 (T 3) 4),
 mo 87 (.load 4 (T 86))])
 (.cond (T 87) (r26_2)
 (.skip)))
 (.seq (r26_3)
 (.seq (r26_4)
 (.seq (rg [mo 126 (.move (T 13)),
 mo 127 (.move (T 15)),
 mo 128 (.binOp .eql 4 (T 126) (T 127) 4),
 mo 129 (.move (T 128)),
 mg 130 3 true (.move (T 14)),
 mg 131 3 true (.move (T 16)),
 mg 132 3 true (.binOp .eql 31 (T 130) (T 131) 31),
 mo 133 (.pick (T 129) (T 132) (.const (.bool false))),
 mo 4 (.assign (T 133))])
 (.ret)))))
 (.seq (rg [mo 135 (.binOp .eql 3 (T 23) (.const (.int .i64 3)) 3),
 mo 134 (.assign (T 135))])
 (.cond (T 134) (.seq (r26_5)
 (.seq (r26_6)
 (.seq (rg [mo 160 (.move (T 18)),
 mo 161 (.move (T 20)),
 mo 162 (.binOp .eql 31 (T 160) (T 161) 31),
 mo 163 (.move (T 162)),
 mg 164 3 true (.load 36 (T 17)),
 mg 165 3 true (.load 36 (T 19)),
 mg 166 3 true (.call ⟨(.value (.func 42)), #[(T 164), (T 165)], #[36, 36]⟩),
 mo 167 (.pick (T 163) (T 166) (.const (.bool false))),
 mo 4 (.assign (T 167))])
 (.ret))))
 (.seq (rg [mo 169 (.binOp .eql 3 (T 23) (.const (.int .i64 4)) 3),
 mo 168 (.assign (T 169))])
 (.cond (T 168) (.seq (r26_7)
 (.ret))
 (.seq (rg [mo 186 (.binOp .eql 3 (T 23) (.const (.int .i64 5)) 3),
 mo 185 (.assign (T 186))])
 (.cond (T 185) (.seq (rg [mo 187 (.move (T 0)),
 mo 188 (.nilCheck (T 187)),
 mo 189 (.fieldAddr 72 (T 188) 0),
 mo 190 (.load 30 (T 189)),
 mo 191 (.call ⟨(.value (.func 30)), #[(T 190)], #[30]⟩),
 mo 21 (.assign (T 191))])
 (.seq (.seq (rg [mo 192 (.move (T 21)),
 mo 193 (.binOp .eql 30 (T 192) (.const (.pointer none)) 30)])
 (.cond (T 193) (.seq (rg [mo 4 (.assign (.const (.bool false)))])
 (.ret))
 (.skip)))
 (.seq (r26_8)
 (rg [mo 215 (.move (T 0)),
 mo 216 (.move (T 21)),
 mo 217 (.nilCheck (T 215)),
 mo 218 (.fieldAddr 72 (T 217) 0),
 mx (.store 30 (T 218) (T 216))]))))
 (.skip)))))))))))))))
 (.seq (rg [mo 4 (.assign (.const (.bool true)))])
 (.ret)))
theorem body_26 : Try.f26.body.map strip = some c26 := by kernel_rfl
theorem go_26 : GoC Try.prog 26 219 c26 [(.tmp 4)] :=
  GoC.of (fn := Try.f26) (by kernel_rfl) body_26 (by kernel_rfl) (by kernel_rfl) (by kernel_rfl)
end Go.Proofs.Ytbdljpndncohaaa

namespace Go.Proofs.Ytbdljpndncohaaa
open Go.D
set_option maxRecDepth 100000
/-! (*trivet/trivetlaw25.pair).is -/
noncomputable def o27_0 : Array Oper := drawn Try.f27 0
def g27_0 : List (Nat × Tmp × TypeId) := []
def q27_0 : List YO := [.s 0 (mo 33 (.move (T 4))),
 .s 1 (mo 34 (.move (T 6))),
 .s 2 (mo 35 (.binOp .eql 4 (T 33) (T 34) 4)),
 .s 3 (mo 36 (.move (T 35))),
 .s 4 (mg 37 3 true (.load 26 (T 3))),
 .s 5 (mg 38 3 true (.load 26 (T 5))),
 .b 6 (mg 39 3 true (.call ⟨(.value (.func 13)), #[(T 37), (T 38)], #[26, 26]⟩)) [],
 .s 7 (mo 40 (.pick (T 36) (T 39) (.const (.bool false)))),
 .s 8 (mo 41 (.move (T 40))),
 .s 9 (mg 42 8 true (.move (T 0))),
 .s 10 (mg 43 8 true (.nilCheck (T 42))),
 .s 11 (mg 44 8 true (.fieldAddr 72 (T 43) 0)),
 .s 12 (mg 45 8 true (.load 30 (T 44))),
 .s 14 (mg 47 8 true (.move (T 0))),
 .s 15 (mg 48 8 true (.nilCheck (T 47))),
 .s 16 (mg 49 8 true (.fieldAddr 72 (T 48) 1)),
 .l 17 (mg 50 8 true (.load 50 (T 49))),
 .s 18 (mg 51 8 true (.nilCheck (T 50))),
 .s 19 (mg 52 8 true (.fieldAddr 86 (T 51) 7)),
 .l 20 (mg 53 8 true (.load 2 (T 52))),
 .b 13 (mg 46 8 true (.call ⟨(.value (.func 15)), #[(T 45)], #[30]⟩)) [0, 1],
 .s 21 (mg 54 8 true (.binOp .eql 2 (T 46) (T 53) 2)),
 .s 22 (mo 55 (.pick (T 41) (T 54) (.const (.bool false)))),
 .s 23 (mo 56 (.move (T 55))),
 .s 24 (mg 57 23 true (.move (T 0))),
 .s 25 (mg 58 23 true (.nilCheck (T 57))),
 .s 26 (mg 59 23 true (.fieldAddr 72 (T 58) 0)),
 .s 27 (mg 60 23 true (.load 30 (T 59))),
 .s 29 (mg 62 23 true (.move (T 0))),
 .s 30 (mg 63 23 true (.nilCheck (T 62))),
 .s 31 (mg 64 23 true (.fieldAddr 72 (T 63) 1)),
 .l 32 (mg 65 23 true (.load 50 (T 64))),
 .s 33 (mg 66 23 true (.nilCheck (T 65))),
 .s 34 (mg 67 23 true (.fieldAddr 86 (T 66) 2)),
 .l 35 (mg 68 23 true (.load 2 (T 67))),
 .b 28 (mg 61 23 true (.call ⟨(.value (.func 22)), #[(T 60)], #[30]⟩)) [2, 3],
 .s 36 (mg 69 23 true (.binOp .eql 2 (T 61) (T 68) 2)),
 .s 37 (mo 70 (.pick (T 56) (T 69) (.const (.bool false)))),
 .s 38 (mo 71 (.move (T 70))),
 .s 39 (mg 72 38 true (.move (T 8))),
 .s 40 (mg 73 38 true (.move (T 0))),
 .s 41 (mg 74 38 true (.nilCheck (T 73))),
 .s 42 (mg 75 38 true (.fieldAddr 72 (T 74) 1)),
 .s 43 (mg 76 38 true (.load 50 (T 75))),
 .s 44 (mg 77 38 true (.nilCheck (T 76))),
 .s 45 (mg 78 38 true (.fieldAddr 86 (T 77) 8)),
 .s 46 (mg 79 38 true (.load 4 (T 78))),
 .s 47 (mg 80 38 true (.binOp .eql 4 (T 72) (T 79) 4)),
 .s 48 (mo 81 (.pick (T 71) (T 80) (.const (.bool false)))),
 .s 49 (mo 82 (.move (T 81))),
 .s 50 (mg 83 49 true (.load 45 (T 7))),
 .s 51 (mg 84 49 true (.move (T 0))),
 .s 52 (mg 85 49 true (.nilCheck (T 84))),
 .s 53 (mg 86 49 true (.fieldAddr 72 (T 85) 1)),
 .s 54 (mg 87 49 true (.load 50 (T 86))),
 .s 55 (mg 88 49 true (.nilCheck (T 87))),
 .s 56 (mg 89 49 true (.fieldAddr 86 (T 88) 9)),
 .s 57 (mg 90 49 true (.load 45 (T 89))),
 .b 58 (mg 91 49 true (.call ⟨(.value (.func 47)), #[(T 83), (T 90)], #[45, 45]⟩)) [],
 .s 59 (mo 92 (.pick (T 82) (T 91) (.const (.bool false)))),
 .s 60 (mo 2 (.assign (T 92)))]
def l27_0 : List Oper := [mo 33 (.move (T 4)),
 mo 34 (.move (T 6)),
 mo 35 (.binOp .eql 4 (T 33) (T 34) 4),
 mo 36 (.move (T 35)),
 mg 37 3 true (.load 26 (T 3)),
 mg 38 3 true (.load 26 (T 5)),
 mg 39 3 true (.call ⟨(.value (.func 13)), #[(T 37), (T 38)], #[26, 26]⟩),
 mo 40 (.pick (T 36) (T 39) (.const (.bool false))),
 mo 41 (.move (T 40)),
 mg 42 8 true (.move (T 0)),
 mg 43 8 true (.nilCheck (T 42)),
 mg 44 8 true (.fieldAddr 72 (T 43) 0),
 mg 45 8 true (.load 30 (T 44)),
 mg 46 8 true (.call ⟨(.value (.func 15)), #[(T 45)], #[30]⟩),
 mg 47 8 true (.move (T 0)),
 mg 48 8 true (.nilCheck (T 47)),
 mg 49 8 true (.fieldAddr 72 (T 48) 1),
 mg 50 8 true (.load 50 (T 49)),
 mg 51 8 true (.nilCheck (T 50)),
 mg 52 8 true (.fieldAddr 86 (T 51) 7),
 mg 53 8 true (.load 2 (T 52)),
 mg 54 8 true (.binOp .eql 2 (T 46) (T 53) 2),
 mo 55 (.pick (T 41) (T 54) (.const (.bool false))),
 mo 56 (.move (T 55)),
 mg 57 23 true (.move (T 0)),
 mg 58 23 true (.nilCheck (T 57)),
 mg 59 23 true (.fieldAddr 72 (T 58) 0),
 mg 60 23 true (.load 30 (T 59)),
 mg 61 23 true (.call ⟨(.value (.func 22)), #[(T 60)], #[30]⟩),
 mg 62 23 true (.move (T 0)),
 mg 63 23 true (.nilCheck (T 62)),
 mg 64 23 true (.fieldAddr 72 (T 63) 1),
 mg 65 23 true (.load 50 (T 64)),
 mg 66 23 true (.nilCheck (T 65)),
 mg 67 23 true (.fieldAddr 86 (T 66) 2),
 mg 68 23 true (.load 2 (T 67)),
 mg 69 23 true (.binOp .eql 2 (T 61) (T 68) 2),
 mo 70 (.pick (T 56) (T 69) (.const (.bool false))),
 mo 71 (.move (T 70)),
 mg 72 38 true (.move (T 8)),
 mg 73 38 true (.move (T 0)),
 mg 74 38 true (.nilCheck (T 73)),
 mg 75 38 true (.fieldAddr 72 (T 74) 1),
 mg 76 38 true (.load 50 (T 75)),
 mg 77 38 true (.nilCheck (T 76)),
 mg 78 38 true (.fieldAddr 86 (T 77) 8),
 mg 79 38 true (.load 4 (T 78)),
 mg 80 38 true (.binOp .eql 4 (T 72) (T 79) 4),
 mo 81 (.pick (T 71) (T 80) (.const (.bool false))),
 mo 82 (.move (T 81)),
 mg 83 49 true (.load 45 (T 7)),
 mg 84 49 true (.move (T 0)),
 mg 85 49 true (.nilCheck (T 84)),
 mg 86 49 true (.fieldAddr 72 (T 85) 1),
 mg 87 49 true (.load 50 (T 86)),
 mg 88 49 true (.nilCheck (T 87)),
 mg 89 49 true (.fieldAddr 86 (T 88) 9),
 mg 90 49 true (.load 45 (T 89)),
 mg 91 49 true (.call ⟨(.value (.func 47)), #[(T 83), (T 90)], #[45, 45]⟩),
 mo 92 (.pick (T 82) (T 91) (.const (.bool false))),
 mo 2 (.assign (T 92))]
noncomputable def r27_0 : Code := .region 4 o27_0 true
theorem xr_27_0 {Q : DExit → St → Prop} {s : St} : xs Try.prog 93 r27_0 Q s = NC Try.prog 93 r27_0 Q s := rfl
theorem yr_27_0 {Q : DExit → St → Prop} {s : St} (hdf : s.df = []) (h : YG Try.prog (YD Try.prog l27_0.toArray Q q27_0) g27_0 s []) : NC Try.prog 93 r27_0 Q s :=
  NC.yd (l := l27_0) (b := [0, 0, 3, 7, 15, 15, 63, 127, 255, 511, 1023, 2047, 4095, 8191, 511, 16895, 49663, 115199, 246271, 508415, 1032703, 2097151, 4194303, 8388607, 16777215, 33554431, 67108863, 134217727, 268435455, 16777215, 553648127, 1627389951, 3774873599, 8069840895, 16659775487, 33839644671, 68719476735, 137438953471, 274877906943, 549755813887, 549755813887, 1649267441663, 3848290697215, 8246337208319, 17042430230527, 34634616274943, 69818988363775, 140737488355327, 281474976710655, 562949953421311, 1125899906842623, 1125899906842623, 3377699720527871, 7881299347898367, 16888498602639359, 34902897112121343, 70931694131085311, 142989288169013247, 288230376151711743, 576460752303423487, 1152921504606846975]) (by kernel_rfl) (by kernel_rfl) (by kernel_rfl) (by kernel_rfl) (by kernel_rfl) (by kernel_rfl) (by kernel_rfl) (by kernel_rfl) hdf h
attribute [go_sem] xr_27_0
noncomputable def c27 : Code :=
 .seq (rg [mo 2 (.assign (.const (.bool false)))])
 (.seq (rg [mo 10 (.move (T 0)),
 mo 11 (.nilCheck (T 10)),
 mo 12 (.fieldAddr 72 (T 11) 0),
 mo 13 (.load 30 (T 12)),
 mo 14 (.call ⟨(.value (.func 18)), #[(T 13)], #[30]⟩),
 mo 9 (.move (T 14)),
 mo 15 (.extract (T 9) 0),
 mo 16 (.extract (T 9) 1),
 mo 3 (.alloc 26),
 mx (.store 26 (T 3) (T 15)),
 mo 4 (.assign (T 16))])
 (.seq (rg [mo 18 (.move (T 0)),
 mo 19 (.nilCheck (T 18)),
 mo 20 (.fieldAddr 72 (T 19) 1),
 mo 21 (.load 50 (T 20)),
 mo 22 (.call ⟨(.value (.func 19)), #[(T 21)], #[50]⟩),
 mo 17 (.move (T 22)),
 mo 23 (.extract (T 17) 0),
 mo 24 (.extract (T 17) 1),
 mo 5 (.alloc 26),
 mx (.store 26 (T 5) (T 23)),
 mo 6 (.assign (T 24))])
 (.seq (rg [mo 26 (.move (T 0)),
 mo 27 (.nilCheck (T 26)),
 mo 28 (.fieldAddr 72 (T 27) 0),
 mo 29 (.load 30 (T 28)),
 mo 30 (.call ⟨(.value (.func 29)), #[(T 29)], #[30]⟩),
 mo 25 (.move (T 30)),
 mo 31 (.extract (T 25) 0),
 mo 32 (.extract (T 25) 1),
 mo 7 (.alloc 45),
 mx (.store 45 (T 7) (T 31)),
 mo 8 (.assign (T 32))])
 (.seq (r27_0)
 (.ret)))))
theorem body_27 : Try.f27.body.map strip = some c27 := by kernel_rfl
theorem go_27 : GoC Try.prog 27 93 c27 [(.tmp 2)] :=
  GoC.of (fn := Try.f27) (by kernel_rfl) body_27 (by kernel_rfl) (by kernel_rfl) (by kernel_rfl)
/-! (*trivet/client.Client).Query -/
noncomputable def o28_0 : Array Oper := drawn Try.f28 0
def g28_0 : List (Nat × Tmp × TypeId) := []
def q28_0 : List YO := [.s 0 (mo 29 (.move (T 1))),
 .s 1 (mo 30 (.move (T 2))),
 .s 3 (mo 32 (.move (T 0))),
 .s 4 (mo 33 (.nilCheck (T 32))),
 .s 5 (mo 34 (.fieldAddr 76 (T 33) 7)),
 .l 6 (mo 35 (.load 2 (T 34))),
 .b 2 (mo 31 (.call ⟨(.value (.func 38)), #[(T 30)], #[24]⟩)) [0],
 .s 7 (mo 36 (.build 36 #[(0, (T 29)), (2, (.const (.bool true))), (3, (T 31)), (4, (T 35))])),
 .b 8 (mx (.store 36 (T 6) (T 36))) [],
 .s 9 (mo 7 (.assign (.const (.int .i64 0))))]
def l28_0 : List Oper := [mo 29 (.move (T 1)),
 mo 30 (.move (T 2)),
 mo 31 (.call ⟨(.value (.func 38)), #[(T 30)], #[24]⟩),
 mo 32 (.move (T 0)),
 mo 33 (.nilCheck (T 32)),
 mo 34 (.fieldAddr 76 (T 33) 7),
 mo 35 (.load 2 (T 34)),
 mo 36 (.build 36 #[(0, (T 29)), (2, (.const (.bool true))), (3, (T 31)), (4, (T 35))]),
 mx (.store 36 (T 6) (T 36)),
 mo 7 (.assign (.const (.int .i64 0)))]
noncomputable def r28_0 : Code := .region 7 o28_0 true
theorem xr_28_0 {Q : DExit → St → Prop} {s : St} : xs Try.prog 37 r28_0 Q s = NC Try.prog 37 r28_0 Q s := rfl
theorem yr_28_0 {Q : DExit → St → Prop} {s : St} (hdf : s.df = []) (h : YG Try.prog (YD Try.prog l28_0.toArray Q q28_0) g28_0 s []) : NC Try.prog 37 r28_0 Q s :=
  NC.yd (l := l28_0) (b := [0, 0, 2, 0, 8, 24, 56, 127, 255, 511]) (by kernel_rfl) (by kernel_rfl) (by kernel_rfl) (by kernel_rfl) (by kernel_rfl) (by kernel_rfl) (by kernel_rfl) (by kernel_rfl) hdf h
attribute [go_sem] xr_28_0
noncomputable def c28 : Code :=
 .seq (rg [mo 6 (.alloc 36),
 mo 7 (.assign (.const (.int .i64 0)))])
 (.seq (.block 0 (.seq (rg [mo 9 (.move (T 0)),
 mo 10 (.call ⟨(.value (.func 31)), #[(T 9)], #[30]⟩),
 mo 8 (.assign (T 10))])
 (.cond (T 8) (.seq (rg [mo 11 (.build 36 #[]),
 mx (.store 36 (T 6) (T 11)),
 mo 7 (.assign (.const (.int .i64 2)))])
 (.ret))
 (.seq (rg [mo 13 (.move (T 1)),
 mo 14 (.binOp .lss 3 (T 13) (.const (.int .i64 0)) 3),
 mo 15 (.move (T 14)),
 mg 16 2 false (.move (T 1)),
 mg 17 2 false (.move (T 0)),
 mg 18 2 false (.nilCheck (T 17)),
 mg 19 2 false (.fieldAddr 76 (T 18) 1),
 mg 20 2 false (.load 3 (T 19)),
 mg 21 2 false (.binOp .geq 3 (T 16) (T 20) 3),
 mo 22 (.pick (T 15) (.const (.bool true)) (T 21)),
 mo 12 (.assign (T 22))])
 (.cond (T 12) (.seq (rg [mo 23 (.build 36 #[]),
 mx (.store 36 (T 6) (T 23)),
 mo 7 (.assign (.const (.int .i64 1)))])
 (.ret))
 (.seq (rg [mo 25 (.move (T 2)),
 mo 26 (.call ⟨(.builtin .len), #[(T 25)], #[24]⟩),
 mo 27 (.binOp .gtr 3 (T 26) (.const (.int .i64 4096)) 3),
 mo 24 (.assign (T 27))])
 (.cond (T 24) (.seq (rg [mo 28 (.build 36 #[]),
 mx (.store 36 (T 6) (T 28)),
 mo 7 (.assign (.const (.int .i64 3)))])
 (.ret))
 (.skip))))))))
 (.seq (r28_0)
 (.ret)))
theorem body_28 : Try.f28.body.map strip = some c28 := by kernel_rfl
theorem go_28 : GoC Try.prog 28 37 c28 [(.cell 6 36), (.tmp 7)] :=
  GoC.of (fn := Try.f28) (by kernel_rfl) body_28 (by kernel_rfl) (by kernel_rfl) (by kernel_rfl)
/-! (*trivet/client.Client).Last -/
def c29 : Code :=
 .seq (rg [mo 2 (.alloc 45),
 mo 3 (.assign (.const (.bool false)))])
 (.seq (.seq (rg [mo 5 (.move (T 0)),
 mo 6 (.call ⟨(.value (.func 31)), #[(T 5)], #[30]⟩),
 mo 7 (.move (T 6)),
 mg 8 2 false (.move (T 0)),
 mg 9 2 false (.nilCheck (T 8)),
 mg 10 2 false (.fieldAddr 76 (T 9) 8),
 mg 11 2 false (.load 4 (T 10)),
 mg 12 2 false (.unOp .not 4 (T 11)),
 mo 13 (.pick (T 7) (.const (.bool true)) (T 12))])
 (.cond (T 13) (.seq (rg [mo 14 (.build 45 #[]),
 mx (.store 45 (T 2) (T 14)),
 mo 3 (.assign (.const (.bool false)))])
 (.ret))
 (.skip)))
 (.seq (rg [mo 15 (.move (T 0)),
 mo 16 (.nilCheck (T 15)),
 mo 17 (.fieldAddr 76 (T 16) 9),
 mo 18 (.load 45 (T 17)),
 mo 4 (.alloc 45),
 mx (.store 45 (T 4) (T 18))])
 (.seq (rg [mo 19 (.fieldAddr 45 (T 4) 1),
 mo 20 (.load 23 (T 19)),
 mo 21 (.call ⟨(.value (.func 35)), #[(T 20)], #[23]⟩),
 mo 22 (.fieldAddr 45 (T 4) 1),
 mx (.store 23 (T 22) (T 21))])
 (.seq (rg [mo 23 (.load 45 (T 4)),
 mx (.store 45 (T 2) (T 23)),
 mo 3 (.assign (.const (.bool true)))])
 (.ret)))))
theorem body_29 : Try.f29.body.map strip = some c29 := by kernel_rfl
theorem go_29 : GoC Try.prog 29 24 c29 [(.cell 2 45), (.tmp 3)] :=
  GoC.of (fn := Try.f29) (by kernel_rfl) body_29 (by kernel_rfl) (by kernel_rfl) (by kernel_rfl)
/-! (*trivet/client.Client).Clone -/
def c30 : Code :=
 .seq (rg [mo 2 (.assign (.const (.pointer none)))])
 (.seq (.seq (rg [mo 4 (.move (T 0)),
 mo 5 (.call ⟨(.value (.func 31)), #[(T 4)], #[30]⟩)])
 (.cond (T 5) (.seq (rg [mo 2 (.assign (.const (.pointer none)))])
 (.ret))
 (.skip)))
 (.seq (rg [mo 6 (.move (T 0)),
 mo 7 (.nilCheck (T 6)),
 mo 8 (.load 76 (T 7)),
 mo 3 (.alloc 76),
 mx (.store 76 (T 3) (T 8))])
 (.seq (rg [mo 2 (.assign (T 3))])
 (.ret))))
theorem body_30 : Try.f30.body.map strip = some c30 := by kernel_rfl
theorem go_30 : GoC Try.prog 30 9 c30 [(.tmp 2)] :=
  GoC.of (fn := Try.f30) (by kernel_rfl) body_30 (by kernel_rfl) (by kernel_rfl) (by kernel_rfl)
/-! (*trivet/client.Client).none -/
def c31 : Code :=
 .seq (rg [mo 2 (.assign (.const (.bool false)))])
 (.seq (rg [mo 3 (.move (T 0)),
 mo 4 (.binOp .eql 30 (T 3) (.const (.pointer none)) 30),
 mo 5 (.move (T 4)),
 mg 6 2 false (.move (T 0)),
 mg 7 2 false (.nilCheck (T 6)),
 mg 8 2 false (.fieldAddr 76 (T 7) 1),
 mg 9 2 false (.load 3 (T 8)),
 mg 10 2 false (.binOp .eql 3 (T 9) (.const (.int .i64 0)) 3),
 mo 11 (.pick (T 5) (.const (.bool true)) (T 10)),
 mo 2 (.assign (T 11))])
 (.ret))
theorem body_31 : Try.f31.body.map strip = some c31 := by kernel_rfl
theorem go_31 : GoC Try.prog 31 12 c31 [(.tmp 2)] :=
  GoC.of (fn := Try.f31) (by kernel_rfl) body_31 (by kernel_rfl) (by kernel_rfl) (by kernel_rfl)
/-! trivet/code.Check -/
def c32 : Code :=
 .seq (rg [mo 1 (.box 26 (T 0)),
 mo 2 (.assign (.const (.int .i64 0)))])
 (.seq (.block 0 (.seq (rg [mo 9 (.fieldAddr 26 (T 1) 0),
 mo 10 (.load 2 (T 9)),
 mo 11 (.binOp .lss 2 (T 10) (.const (.int .i64 1)) 2),
 mo 12 (.move (T 11)),
 mg 13 3 false (.fieldAddr 26 (T 1) 0),
 mg 14 3 false (.load 2 (T 13)),
 mg 15 3 false (.binOp .gtr 2 (T 14) (.const (.int .i64 1099511627776)) 2),
 mo 16 (.pick (T 12) (.const (.bool true)) (T 15)),
 mo 17 (.move (T 16)),
 mg 18 8 false (.fieldAddr 26 (T 1) 1),
 mg 19 8 false (.load 2 (T 18)),
 mg 20 8 false (.binOp .lss 2 (T 19) (.const (.int .i64 1)) 2),
 mo 21 (.pick (T 17) (.const (.bool true)) (T 20)),
 mo 22 (.move (T 21)),
 mg 23 13 false (.fieldAddr 26 (T 1) 1),
 mg 24 13 false (.load 2 (T 23)),
 mg 25 13 false (.binOp .gtr 2 (T 24) (.const (.int .i64 1099511627776)) 2),
 mo 26 (.pick (T 22) (.const (.bool true)) (T 25)),
 mo 8 (.assign (T 26))])
 (.cond (T 8) (.seq (rg [mo 2 (.assign (.const (.int .i64 1)))])
 (.ret))
 (.seq (rg [mo 28 (.fieldAddr 26 (T 1) 3),
 mo 29 (.load 23 (T 28)),
 mo 30 (.call ⟨(.builtin .len), #[(T 29)], #[23]⟩),
 mo 31 (.binOp .gtr 3 (T 30) (.const (.int .i64 8)) 3),
 mo 32 (.move (T 31)),
 mg 33 4 false (.fieldAddr 26 (T 1) 4),
 mg 34 4 false (.load 24 (T 33)),
 mg 35 4 false (.call ⟨(.builtin .len), #[(T 34)], #[24]⟩),
 mg 36 4 false (.binOp .gtr 3 (T 35) (.const (.int .i64 16)) 3),
 mo 37 (.pick (T 32) (.const (.bool true)) (T 36)),
 mo 38 (.move (T 37)),
 mg 39 10 false (.fieldAddr 26 (T 1) 5),
 mg 40 10 false (.load 24 (T 39)),
 mg 41 10 false (.call ⟨(.builtin .len), #[(T 40)], #[24]⟩),
 mg 42 10 false (.binOp .gtr 3 (T 41) (.const (.int .i64 16)) 3),
 mo 43 (.pick (T 38) (.const (.bool true)) (T 42)),
 mo 27 (.assign (T 43))])
 (.cond (T 27) (.seq (rg [mo 2 (.assign (.const (.int .i64 3)))])
 (.ret))
 (.seq (rg [mo 45 (.fieldAddr 26 (T 1) 4),
 mo 46 (.load 24 (T 45)),
 mo 47 (.call ⟨(.value (.func 48)), #[(T 46)], #[24]⟩),
 mo 48 (.unOp .not 4 (T 47)),
 mo 49 (.move (T 48)),
 mg 50 4 false (.fieldAddr 26 (T 1) 5),
 mg 51 4 false (.load 24 (T 50)),
 mg 52 4 false (.call ⟨(.value (.func 48)), #[(T 51)], #[24]⟩),
 mg 53 4 false (.unOp .not 4 (T 52)),
 mo 54 (.pick (T 49) (.const (.bool true)) (T 53)),
 mo 44 (.assign (T 54))])
 (.cond (T 44) (.seq (rg [mo 2 (.assign (.const (.int .i64 1)))])
 (.ret))
 (.skip))))))))
 (.seq (rg [mo 56 (.fieldAddr 26 (T 1) 2),
 mo 57 (.load 22 (T 56)),
 mo 58 (.call ⟨(.value (.func 49)), #[(T 57)], #[22]⟩),
 mo 55 (.move (T 58)),
 mo 59 (.extract (T 55) 0),
 mo 60 (.extract (T 55) 1),
 mo 3 (.assign (T 59)),
 mo 4 (.assign (T 60))])
 (.seq (.seq (rg [mo 61 (.move (T 4)),
 mo 62 (.binOp .neq 31 (T 61) (.const (.int .i64 0)) 31)])
 (.cond (T 62) (.seq (rg [mo 63 (.move (T 4)),
 mo 2 (.assign (T 63))])
 (.ret))
 (.skip)))
 (.seq (.seq (rg [mo 64 (.move (T 3)),
 mo 65 (.call ⟨(.builtin .len), #[(T 64)], #[91]⟩),
 mo 66 (.move (.const (.int .i64 0)))])
 (.block 1 (.loop (.seq (rg [mo 67 (.binOp .lss 3 (T 66) (T 65) 3)])
 (.seq (.cond (T 67) (.skip)
 (.exit 1))
 (.seq (.block 2 (.seq (rg [mo 68 (.indexAddr 91 (T 64) (T 66)),
 mo 69 (.load 95 (T 68)),
 mo 6 (.alloc 95),
 mx (.store 95 (T 6) (T 69))])
 (.seq (rg [mo 7 (.assign (.const (.int .i64 1048576)))])
 (.seq (.seq (rg [mo 70 (.fieldAddr 95 (T 6) 1),
 mo 71 (.load 3 (T 70))])
 (.block 3 (.seq (.seq (rg [mo 73 (.binOp .eql 3 (T 71) (.const (.int .i64 3)) 3),
 mo 72 (.assign (T 73))])
 (.cond (T 72) (.skip)
 (rg [mo 74 (.binOp .eql 3 (T 71) (.const (.int .i64 4)) 3),
 mo 72 (.assign (T 74))])))
 (.cond (T 72) (rg [mo 75 (.fieldAddr 26 (T 1) 4),
 mo 76 (.load 24 (T 75)),
 mo 77 (.call ⟨(.builtin .len), #[(T 76)], #[24]⟩),
 mo 7 (.assign (T 77))])
 (.seq (.seq (rg [mo 79 (.binOp .eql 3 (T 71) (.const (.int .i64 5)) 3),
 mo 78 (.assign (T 79))])
 (.cond (T 78) (.skip)
 (rg [mo 80 (.binOp .eql 3 (T 71) (.const (.int .i64 6)) 3),
 mo 78 (.assign (T 80))])))
 (.cond (T 78) (rg [mo 81 (.fieldAddr 26 (T 1) 5),
 mo 82 (.load 24 (T 81)),
 mo 83 (.call ⟨(.builtin .len), #[(T 82)], #[24]⟩),
 mo 7 (.assign (T 83))])
 (.seq (rg [mo 85 (.binOp .eql 3 (T 71) (.const (.int .i64 2)) 3),
 mo 84 (.assign (T 85))])
 (.cond (T 84) (rg [mo 86 (.fieldAddr 26 (T 1) 3),
 mo 87 (.load 23 (T 86)),
 mo 88 (.call ⟨(.builtin .len), #[(T 87)], #[23]⟩),
 mo 7 (.assign (T 88))])
 (.skip)))))))))
 (.seq (rg [mo 89 (.fieldAddr 95 (T 6) 4),
 mo 90 (.load 2 (T 89)),
 mo 91 (.move (T 7)),
 mo 92 (.binOp .geq 2 (T 90) (T 91) 2)])
 (.cond (T 92) (.seq (rg [mo 2 (.assign (.const (.int .i64 132)))])
 (.ret))
 (.skip)))))))
 (rg [mo 93 (.binOp .add 3 (T 66) (.const (.int .i64 1)) 3),
 mo 66 (.move (T 93))])))))))
 (.seq (rg [mo 2 (.assign (.const (.int .i64 0)))])
 (.ret))))))
theorem body_32 : Try.f32.body.map strip = some c32 := by kernel_rfl
theorem go_32 : GoC Try.prog 32 94 c32 [(.tmp 2)] :=
  GoC.of (fn := Try.f32) (by kernel_rfl) body_32 (by kernel_rfl) (by kernel_rfl) (by kernel_rfl)
/-! (*trivet/client.Client).ask -/
noncomputable def o33_0 : Array Oper := drawn Try.f33 0
def l33_0 : List Oper := [mo 3 (.move (T 0)),
 mo 4 (.nilCheck (T 3)),
 mo 5 (.fieldAddr 76 (T 4) 6),
 mo 6 (.load 3 (T 5)),
 mo 7 (.move (T 0)),
 mo 8 (.nilCheck (T 7)),
 mo 9 (.fieldAddr 76 (T 8) 4),
 mo 10 (.load 26 (T 9)),
 mo 11 (.call ⟨(.value (.func 37)), #[(T 10)], #[26]⟩),
 mo 12 (.build 36 #[(0, (T 6)), (1, (T 11))]),
 mx (.store 36 (T 2) (T 12))]
noncomputable def r33_0 : Code := .region 1 o33_0 true
theorem xr_33_0 {Q : DExit → St → Prop} {s : St} : xs Try.prog 13 r33_0 Q s = NC Try.prog 13 r33_0 Q s := rfl
attribute [go_sem] xr_33_0
noncomputable def c33 : Code :=
 .seq (rg [mo 2 (.alloc 36)])
 (.seq (r33_0)
 (.ret))
theorem body_33 : Try.f33.body.map strip = some c33 := by kernel_rfl
theorem go_33 : GoC Try.prog 33 13 c33 [(.cell 2 36)] :=
  GoC.of (fn := Try.f33) (by kernel_rfl) body_33 (by kernel_rfl) (by kernel_rfl) (by kernel_rfl)
/-! trivet/trivetref25.sameValues -/
noncomputable def o34_0 : Array Oper := drawn Try.f34 0
def l34_0 : List Oper := [mo 17 (.move (T 0)),
 mo 18 (.move (T 5)),
 mo 19 (.indexAddr 23 (T 17) (T 18)),
 mo 20 (.load 2 (T 19)),
 mo 21 (.move (T 1)),
 mo 22 (.move (T 5)),
 mo 23 (.indexAddr 23 (T 21) (T 22)),
 mo 24 (.load 2 (T 23)),
 mo 25 (.binOp .neq 2 (T 20) (T 24) 2)]
noncomputable def r34_0 : Code := .region 6 o34_0 true
theorem xr_34_0 {Q : DExit → St → Prop} {s : St} : xs Try.prog 26 r34_0 Q s = NC Try.prog 26 r34_0 Q s := rfl
theorem dr_34_0 {Q : DExit → St → Prop} {s : St} (h : XDraw Try.prog l34_0.toArray (befs o34_0.toList []) [] s.fr Q l34_0 0 s []) : NC Try.prog 26 r34_0 Q s :=
  NC.draw (by kernel_rfl) (by kernel_rfl) (by kernel_rfl) rfl (by kernel_rfl) (by kernel_rfl) h
attribute [go_sem] xr_34_0
noncomputable def c34 : Code :=
 .seq (rg [mo 4 (.assign (.const (.bool false)))])
 (.seq (.seq (rg [mo 6 (.move (T 0)),
 mo 7 (.call ⟨(.builtin .len), #[(T 6)], #[23]⟩),
 mo 8 (.move (T 1)),
 mo 9 (.call ⟨(.builtin .len), #[(T 8)], #[23]⟩),
 mo 10 (.binOp .neq 3 (T 7) (T 9) 3)])
 (.cond (T 10) (.seq (rg [mo 4 (.assign (.const (.bool false)))])
 (.ret))
 (.skip)))
 (.seq (.seq (rg [mo 5 (.assign (.const (.int .i64 0)))])
 (.block 0 (.loop (.seq (.seq (rg [mo 11 (.move (T 5)),
 mo 12 (.move (T 0)),
 mo 13 (.call ⟨(.builtin .len), #[(T 12)], #[23]⟩),
 mo 14 (.binOp .lss 3 (T 11) (T 13) 3)])
 (.cond (T 14) (.skip)
 (.exit 0)))
 (.seq (.block 1 (.seq (r34_0)
 (.cond (T 25) (.seq (rg [mo 4 (.assign (.const (.bool false)))])
 (.ret))
 (.skip))))
 (rg [mo 15 (.move (T 5)),
 mo 16 (.binOp .add 3 (T 15) (.const (.int .i64 1)) 3),
 mo 5 (.assign (T 16))]))))))
 (.seq (rg [mo 4 (.assign (.const (.bool true)))])
 (.ret))))
theorem body_34 : Try.f34.body.map strip = some c34 := by kernel_rfl
theorem go_34 : GoC Try.prog 34 26 c34 [(.tmp 4)] :=
  GoC.of (fn := Try.f34) (by kernel_rfl) body_34 (by kernel_rfl) (by kernel_rfl) (by kernel_rfl)
/-! slices.Clone[[]int64,int64] -/
def c35 : Code :=
 .seq (rg [mo 2 (.assign (.const (.slice none 0 0)))])
 (.seq (.seq (rg [mo 3 (.move (T 0)),
 mo 4 (.binOp .eql 23 (T 3) (.const (.slice none 0 0)) 23)])
 (.cond (T 4) (.seq (rg [mo 2 (.assign (.const (.slice none 0 0)))])
 (.ret))
 (.skip)))
 (.seq (rg [mo 5 (.buildSlice 23 0 #[]),
 mo 6 (.move (T 0)),
 mo 7 (.call ⟨(.builtin .append), #[(T 5), (T 6)], #[23, 23]⟩),
 mo 2 (.assign (T 7))])
 (.ret)))
theorem body_35 : Try.f35.body.map strip = some c35 := by kernel_rfl
theorem go_35 : GoC Try.prog 35 8 c35 [(.tmp 2)] :=
  GoC.of (fn := Try.f35) (by kernel_rfl) body_35 (by kernel_rfl) (by kernel_rfl) (by kernel_rfl)
/-! (*trivet/trivetref25.Client).may -/
def c36 : Code :=
 .seq (rg [mo 4 (.assign (.const (.bool false)))])
 (.seq (rg [mo 5 (.move (T 1)),
 mo 6 (.binOp .geq 3 (T 5) (.const (.int .i64 0)) 3),
 mo 7 (.move (T 6)),
 mg 8 2 true (.move (T 1)),
 mg 9 2 true (.move (T 0)),
 mg 10 2 true (.nilCheck (T 9)),
 mg 11 2 true (.fieldAddr 86 (T 10) 1),
 mg 12 2 true (.load 3 (T 11)),
 mg 13 2 true (.binOp .lss 3 (T 8) (T 12) 3),
 mo 14 (.pick (T 7) (T 13) (.const (.bool false))),
 mo 4 (.assign (T 14))])
 (.ret))
theorem body_36 : Try.f36.body.map strip = some c36 := by kernel_rfl
theorem go_36 : GoC Try.prog 36 15 c36 [(.tmp 4)] :=
  GoC.of (fn := Try.f36) (by kernel_rfl) body_36 (by kernel_rfl) (by kernel_rfl) (by kernel_rfl)
/-! trivet/client.clone -/
noncomputable def o37_0 : Array Oper := drawn Try.f37 0
def l37_0 : List Oper := [mo 3 (.fieldAddr 26 (T 1) 2),
 mo 4 (.load 22 (T 3)),
 mo 5 (.call ⟨(.value (.func 50)), #[(T 4)], #[22]⟩),
 mo 6 (.fieldAddr 26 (T 1) 3),
 mo 7 (.load 23 (T 6)),
 mo 8 (.call ⟨(.value (.func 35)), #[(T 7)], #[23]⟩),
 mo 9 (.fieldAddr 26 (T 1) 4),
 mo 10 (.load 24 (T 9)),
 mo 11 (.call ⟨(.value (.func 51)), #[(T 10)], #[24]⟩),
 mo 12 (.fieldAddr 26 (T 1) 5),
 mo 13 (.load 24 (T 12)),
 mo 14 (.call ⟨(.value (.func 51)), #[(T 13)], #[24]⟩),
 mo 15 (.fieldAddr 26 (T 1) 2),
 mx (.store 22 (T 15) (T 5)),
 mo 16 (.fieldAddr 26 (T 1) 3),
 mx (.store 23 (T 16) (T 8)),
 mo 17 (.fieldAddr 26 (T 1) 4),
 mx (.store 24 (T 17) (T 11)),
 mo 18 (.fieldAddr 26 (T 1) 5),
 mx (.store 24 (T 18) (T 14))]
noncomputable def r37_0 : Code := .region 1 o37_0 true
theorem xr_37_0 {Q : DExit → St → Prop} {s : St} : xs Try.prog 20 r37_0 Q s = NC Try.prog 20 r37_0 Q s := rfl
theorem dr_37_0 {Q : DExit → St → Prop} {s : St} (h : XDraw Try.prog l37_0.toArray (befs o37_0.toList []) [(4, 2), (7, 2), (7, 5), (10, 2), (10, 5), (10, 8)] s.fr Q l37_0 0 s []) : NC Try.prog 20 r37_0 Q s :=
  NC.draw (by kernel_rfl) (by kernel_rfl) (by kernel_rfl) rfl (by kernel_rfl) (by kernel_rfl) h
attribute [go_sem] xr_37_0
noncomputable def c37 : Code :=
 .seq (rg [mo 1 (.box 26 (T 0)),
 mo 2 (.alloc 26)])
 (.seq (r37_0)
 (.seq (rg [mo 19 (.load 26 (T 1)),
 mx (.store 26 (T 2) (T 19))])
 (.ret)))
theorem body_37 : Try.f37.body.map strip = some c37 := by kernel_rfl
theorem go_37 : GoC Try.prog 37 20 c37 [(.cell 2 26)] :=
  GoC.of (fn := Try.f37) (by kernel_rfl) body_37 (by kernel_rfl) (by kernel_rfl) (by kernel_rfl)
/-! trivet/shard.Keys -/
def c38 : Code :=
 .seq (rg [mo 2 (.assign (.const (.slice none 0 0)))])
 (.seq (rg [mo 4 (.move (T 0)),
 mo 5 (.call ⟨(.value (.func 51)), #[(T 4)], #[24]⟩),
 mo 3 (.assign (T 5))])
 (.seq (rg [mo 6 (.move (T 3)),
 mo 7 (.call ⟨(.value (.func 52)), #[(T 6), (.func 53)], #[24, 101]⟩)])
 (.seq (rg [mo 8 (.move (T 3)),
 mo 9 (.call ⟨(.value (.func 54)), #[(T 8)], #[24]⟩),
 mo 2 (.assign (T 9))])
 (.ret))))
theorem body_38 : Try.f38.body.map strip = some c38 := by kernel_rfl
theorem go_38 : GoC Try.prog 38 10 c38 [(.tmp 2)] :=
  GoC.of (fn := Try.f38) (by kernel_rfl) body_38 (by kernel_rfl) (by kernel_rfl) (by kernel_rfl)
/-! trivet/trivetref11.Keys -/
noncomputable def o39_0 : Array Oper := drawn Try.f39 0
def l39_0 : List Oper := [mo 13 (.move (T 5)),
 mo 14 (.move (T 3)),
 mo 15 (.call ⟨(.builtin .len), #[(T 14)], #[24]⟩),
 mo 16 (.binOp .lss 3 (T 13) (T 15) 3),
 mo 17 (.move (T 16)),
 mg 18 4 true (.move (T 3)),
 mg 19 4 true (.move (T 5)),
 mg 20 4 true (.indexAddr 24 (T 18) (T 19)),
 mg 21 4 true (.load 54 (T 20)),
 mg 22 4 true (.move (T 0)),
 mg 23 4 true (.move (T 4)),
 mg 24 4 true (.indexAddr 24 (T 22) (T 23)),
 mg 25 4 true (.load 54 (T 24)),
 mg 26 4 true (.call ⟨(.value (.func 55)), #[(T 21), (T 25)], #[54, 54]⟩),
 mg 27 4 true (.binOp .lss 3 (T 26) (.const (.int .i64 0)) 3),
 mo 28 (.pick (T 17) (T 27) (.const (.bool false)))]
noncomputable def r39_0 : Code := .region 6 o39_0 true
theorem xr_39_0 {Q : DExit → St → Prop} {s : St} : xs Try.prog 62 r39_0 Q s = NC Try.prog 62 r39_0 Q s := rfl
theorem dr_39_0 {Q : DExit → St → Prop} {s : St} (h : XDraw Try.prog l39_0.toArray (befs o39_0.toList []) [] s.fr Q l39_0 0 s []) : NC Try.prog 62 r39_0 Q s :=
  NC.draw (by kernel_rfl) (by kernel_rfl) (by kernel_rfl) rfl (by kernel_rfl) (by kernel_rfl) h
attribute [go_sem] xr_39_0
noncomputable def o39_1 : Array Oper := drawn Try.f39 1
def l39_1 : List Oper := [mo 31 (.move (T 5)),
 mo 32 (.move (T 3)),
 mo 33 (.call ⟨(.builtin .len), #[(T 32)], #[24]⟩),
 mo 34 (.binOp .lss 3 (T 31) (T 33) 3),
 mo 35 (.move (T 34)),
 mg 36 4 true (.move (T 3)),
 mg 37 4 true (.move (T 5)),
 mg 38 4 true (.indexAddr 24 (T 36) (T 37)),
 mg 39 4 true (.load 54 (T 38)),
 mg 40 4 true (.move (T 0)),
 mg 41 4 true (.move (T 4)),
 mg 42 4 true (.indexAddr 24 (T 40) (T 41)),
 mg 43 4 true (.load 54 (T 42)),
 mg 44 4 true (.binOp .eql 54 (T 39) (T 43) 54),
 mo 45 (.pick (T 35) (T 44) (.const (.bool false)))]
noncomputable def r39_1 : Code := .region 8 o39_1 true
theorem xr_39_1 {Q : DExit → St → Prop} {s : St} : xs Try.prog 62 r39_1 Q s = NC Try.prog 62 r39_1 Q s := rfl
theorem dr_39_1 {Q : DExit → St → Prop} {s : St} (h : XDraw Try.prog l39_1.toArray (befs o39_1.toList []) [] s.fr Q l39_1 0 s []) : NC Try.prog 62 r39_1 Q s :=
  NC.draw (by kernel_rfl) (by kernel_rfl) (by kernel_rfl) rfl (by kernel_rfl) (by kernel_rfl) h
attribute [go_sem] xr_39_1
noncomputable def o39_2 : Array Oper := drawn Try.f39 2
def l39_2 : List Oper := [mo 46 (.move (T 6)),
 mo 47 (.move (T 3)),
 mo 48 (.move (T 5)),
 mo 49 (.slice 24 (T 47) none (some (T 48)) none),
 mo 50 (.call ⟨(.builtin .append), #[(T 46), (T 49)], #[24, 24]⟩),
 mo 51 (.move (T 0)),
 mo 52 (.move (T 4)),
 mo 53 (.indexAddr 24 (T 51) (T 52)),
 mo 54 (.load 54 (T 53)),
 mo 55 (.buildSlice 24 1 #[(0, (T 54))]),
 mo 56 (.call ⟨(.builtin .append), #[(T 50), (T 55)], #[24, 24]⟩),
 mo 57 (.move (T 3)),
 mo 58 (.move (T 5)),
 mo 59 (.slice 24 (T 57) (some (T 58)) none none),
 mo 60 (.call ⟨(.builtin .append), #[(T 56), (T 59)], #[24, 24]⟩),
 mo 3 (.assign (T 60))]
noncomputable def r39_2 : Code := .region 10 o39_2 true
theorem xr_39_2 {Q : DExit → St → Prop} {s : St} : xs Try.prog 62 r39_2 Q s = NC Try.prog 62 r39_2 Q s := rfl
-- not fit to be walked: false
attribute [go_sem] xr_39_2
noncomputable def c39 : Code :=
 .seq (rg [mo 2 (.assign (.const (.slice none 0 0)))])
 (.seq (rg [mo 3 (.assign (.const (.slice none 0 0)))])
 (.seq (.seq (rg [mo 4 (.assign (.const (.int .i64 0)))])
 (.block 0 (.loop (.seq (.seq (rg [mo 7 (.move (T 4)),
 mo 8 (.move (T 0)),
 mo 9 (.call ⟨(.builtin .len), #[(T 8)], #[24]⟩),
 mo 10 (.binOp .lss 3 (T 7) (T 9) 3)])
 (.cond (T 10) (.skip)
 (.exit 0)))
 (.seq (.block 1 (.seq (rg [mo 5 (.assign (.const (.int .i64 0)))])
 (.seq (.block 2 (.loop (.seq (.seq (r39_0)
 (.cond (T 28) (.skip)
 (.exit 2)))
 (.block 3 (rg [mo 29 (.move (T 5)),
 mo 30 (.binOp .add 3 (T 29) (.const (.int .i64 1)) 3),
 mo 5 (.assign (T 30))])))))
 (.seq (.seq (r39_1)
 (.cond (T 45) (.exit 1)
 (.skip)))
 (.seq (rg [mo 6 (.assign (.const (.slice none 0 0)))])
 (r39_2))))))
 (rg [mo 11 (.move (T 4)),
 mo 12 (.binOp .add 3 (T 11) (.const (.int .i64 1)) 3),
 mo 4 (.assign (T 12))]))))))
 (.seq (rg [mo 61 (.move (T 3)),
 mo 2 (.assign (T 61))])
 (.ret))))
theorem body_39 : Try.f39.body.map strip = some c39 := by kernel_rfl
theorem go_39 : GoC Try.prog 39 62 c39 [(.tmp 2)] :=
  GoC.of (fn := Try.f39) (by kernel_rfl) body_39 (by kernel_rfl) (by kernel_rfl) (by kernel_rfl)
/-! trivet/trivetref13.rises -/
noncomputable def o40_0 : Array Oper := drawn Try.f40 0
def l40_0 : List Oper := [mo 10 (.move (T 0)),
 mo 11 (.move (T 3)),
 mo 12 (.binOp .sub 3 (T 11) (.const (.int .i64 1)) 3),
 mo 13 (.indexAddr 24 (T 10) (T 12)),
 mo 14 (.load 54 (T 13)),
 mo 15 (.move (T 0)),
 mo 16 (.move (T 3)),
 mo 17 (.indexAddr 24 (T 15) (T 16)),
 mo 18 (.load 54 (T 17)),
 mo 19 (.call ⟨(.value (.func 55)), #[(T 14), (T 18)], #[54, 54]⟩),
 mo 20 (.binOp .geq 3 (T 19) (.const (.int .i64 0)) 3)]
noncomputable def r40_0 : Code := .region 4 o40_0 true
theorem xr_40_0 {Q : DExit → St → Prop} {s : St} : xs Try.prog 21 r40_0 Q s = NC Try.prog 21 r40_0 Q s := rfl
theorem dr_40_0 {Q : DExit → St → Prop} {s : St} (h : XDraw Try.prog l40_0.toArray (befs o40_0.toList []) [] s.fr Q l40_0 0 s []) : NC Try.prog 21 r40_0 Q s :=
  NC.draw (by kernel_rfl) (by kernel_rfl) (by kernel_rfl) rfl (by kernel_rfl) (by kernel_rfl) h
attribute [go_sem] xr_40_0
noncomputable def c40 : Code :=
 .seq (rg [mo 2 (.assign (.const (.bool false)))])
 (.seq (.seq (rg [mo 3 (.assign (.const (.int .i64 1)))])
 (.block 0 (.loop (.seq (.seq (rg [mo 4 (.move (T 3)),
 mo 5 (.move (T 0)),
 mo 6 (.call ⟨(.builtin .len), #[(T 5)], #[24]⟩),
 mo 7 (.binOp .lss 3 (T 4) (T 6) 3)])
 (.cond (T 7) (.skip)
 (.exit 0)))
 (.seq (.block 1 (.seq (r40_0)
 (.cond (T 20) (.seq (rg [mo 2 (.assign (.const (.bool false)))])
 (.ret))
 (.skip))))
 (rg [mo 8 (.move (T 3)),
 mo 9 (.binOp .add 3 (T 8) (.const (.int .i64 1)) 3),
 mo 3 (.assign (T 9))]))))))
 (.seq (rg [mo 2 (.assign (.const (.bool true)))])
 (.ret)))
theorem body_40 : Try.f40.body.map strip = some c40 := by kernel_rfl
theorem go_40 : GoC Try.prog 40 21 c40 [(.tmp 2)] :=
  GoC.of (fn := Try.f40) (by kernel_rfl) body_40 (by kernel_rfl) (by kernel_rfl) (by kernel_rfl)
/-! trivet/trivetref13.Decode -/
def c41 : Code :=
 .seq (rg [mo 2 (.assign (.const (.slice none 0 0))),
 mo 3 (.assign (.const (.int .i64 0)))])
 (.seq (.seq (rg [mo 7 (.move (T 0)),
 mo 8 (.call ⟨(.builtin .len), #[(T 7)], #[22]⟩),
 mo 9 (.binOp .gtr 3 (T 8) (.const (.int .i64 512)) 3)])
 (.cond (T 9) (.seq (rg [mo 2 (.assign (.const (.slice none 0 0))),
 mo 3 (.assign (.const (.int .i64 3)))])
 (.ret))
 (.skip)))
 (.seq (rg [mo 11 (.move (T 0)),
 mo 12 (.call ⟨(.value (.func 56)), #[(T 11)], #[22]⟩),
 mo 10 (.move (T 12)),
 mo 13 (.extract (T 10) 0),
 mo 14 (.extract (T 10) 1),
 mo 4 (.assign (T 13)),
 mo 5 (.assign (T 14))])
 (.seq (.seq (rg [mo 15 (.move (T 5)),
 mo 16 (.binOp .neq 31 (T 15) (.const (.int .i64 0)) 31)])
 (.cond (T 16) (.seq (rg [mo 17 (.move (T 5)),
 mo 2 (.assign (.const (.slice none 0 0))),
 mo 3 (.assign (T 17))])
 (.ret))
 (.skip)))
 (.seq (.seq (rg [mo 6 (.assign (.const (.int .i64 0)))])
 (.block 0 (.loop (.seq (.seq (rg [mo 18 (.move (T 6)),
 mo 19 (.move (T 4)),
 mo 20 (.call ⟨(.builtin .len), #[(T 19)], #[91]⟩),
 mo 21 (.binOp .lss 3 (T 18) (T 20) 3)])
 (.cond (T 21) (.skip)
 (.exit 0)))
 (.seq (.block 1 (.seq (rg [mo 24 (.move (T 4)),
 mo 25 (.move (T 6)),
 mo 26 (.indexAddr 91 (T 24) (T 25)),
 mo 27 (.fieldAddr 95 (T 26) 1),
 mo 28 (.load 3 (T 27)),
 mo 29 (.call ⟨(.value (.func 57)), #[(T 28)], #[3]⟩),
 mo 30 (.move (T 29)),
 mg 31 6 true (.move (T 4)),
 mg 32 6 true (.move (T 4)),
 mg 33 6 true (.move (T 6)),
 mg 34 6 true (.indexAddr 91 (T 32) (T 33)),
 mg 35 6 true (.fieldAddr 95 (T 34) 4),
 mg 36 6 true (.load 2 (T 35)),
 mg 37 6 true (.call ⟨(.value (.func 58)), #[(T 31), (T 36)], #[91, 2]⟩),
 mg 38 6 true (.unOp .not 4 (T 37)),
 mo 39 (.pick (T 30) (T 38) (.const (.bool false)))])
 (.cond (T 39) (.seq (rg [mo 2 (.assign (.const (.slice none 0 0))),
 mo 3 (.assign (.const (.int .i64 131)))])
 (.ret))
 (.skip))))
 (rg [mo 22 (.move (T 6)),
 mo 23 (.binOp .add 3 (T 22) (.const (.int .i64 1)) 3),
 mo 6 (.assign (T 23))]))))))
 (.seq (rg [mo 40 (.move (T 4)),
 mo 2 (.assign (T 40)),
 mo 3 (.assign (.const (.int .i64 0)))])
 (.ret))))))
theorem body_41 : Try.f41.body.map strip = some c41 := by kernel_rfl
theorem go_41 : GoC Try.prog 41 41 c41 [(.tmp 2), (.tmp 3)] :=
  GoC.of (fn := Try.f41) (by kernel_rfl) body_41 (by kernel_rfl) (by kernel_rfl) (by kernel_rfl)
/-! trivet/trivetref25.SameAsk -/
def c42 : Code :=
 .seq (rg [mo 2 (.box 36 (T 0)),
 mo 3 (.box 36 (T 1)),
 mo 4 (.assign (.const (.bool false)))])
 (.seq (rg [mo 5 (.fieldAddr 36 (T 2) 0),
 mo 6 (.load 3 (T 5)),
 mo 7 (.fieldAddr 36 (T 3) 0),
 mo 8 (.load 3 (T 7)),
 mo 9 (.binOp .eql 3 (T 6) (T 8) 3),
 mo 10 (.move (T 9)),
 mg 11 5 true (.fieldAddr 36 (T 2) 2),
 mg 12 5 true (.load 4 (T 11)),
 mg 13 5 true (.fieldAddr 36 (T 3) 2),
 mg 14 5 true (.load 4 (T 13)),
 mg 15 5 true (.binOp .eql 4 (T 12) (T 14) 4),
 mo 16 (.pick (T 10) (T 15) (.const (.bool false))),
 mo 17 (.move (T 16)),
 mg 18 12 true (.fieldAddr 36 (T 2) 4),
 mg 19 12 true (.load 2 (T 18)),
 mg 20 12 true (.fieldAddr 36 (T 3) 4),
 mg 21 12 true (.load 2 (T 20)),
 mg 22 12 true (.binOp .eql 2 (T 19) (T 21) 2),
 mo 23 (.pick (T 17) (T 22) (.const (.bool false))),
 mo 24 (.move (T 23)),
 mg 25 19 true (.fieldAddr 36 (T 2) 1),
 mg 26 19 true (.load 26 (T 25)),
 mg 27 19 true (.fieldAddr 36 (T 3) 1),
 mg 28 19 true (.load 26 (T 27)),
 mg 29 19 true (.call ⟨(.value (.func 13)), #[(T 26), (T 28)], #[26, 26]⟩),
 mo 30 (.pick (T 24) (T 29) (.const (.bool false))),
 mo 31 (.move (T 30)),
 mg 32 26 true (.fieldAddr 36 (T 2) 3),
 mg 33 26 true (.load 24 (T 32)),
 mg 34 26 true (.fieldAddr 36 (T 3) 3),
 mg 35 26 true (.load 24 (T 34)),
 mg 36 26 true (.call ⟨(.value (.func 24)), #[(T 33), (T 35)], #[24, 24]⟩),
 mo 37 (.pick (T 31) (T 36) (.const (.bool false))),
 mo 4 (.assign (T 37))])
 (.ret))
theorem body_42 : Try.f42.body.map strip = some c42 := by kernel_rfl
theorem go_42 : GoC Try.prog 42 38 c42 [(.tmp 4)] :=
  GoC.of (fn := Try.f42) (by kernel_rfl) body_42 (by kernel_rfl) (by kernel_rfl) (by kernel_rfl)
/-! (*trivet/trivetref25.Client).Tick -/
noncomputable def o43_0 : Array Oper := drawn Try.f43 0
def l43_0 : List Oper := [mo 26 (.move (T 0)),
 mo 27 (.move (T 0)),
 mo 28 (.nilCheck (T 27)),
 mo 29 (.fieldAddr 86 (T 28) 6),
 mo 30 (.load 3 (T 29)),
 mo 31 (.binOp .add 3 (T 30) (.const (.int .i64 1)) 3),
 mo 32 (.move (T 0)),
 mo 33 (.nilCheck (T 32)),
 mo 34 (.fieldAddr 86 (T 33) 1),
 mo 35 (.load 3 (T 34)),
 mo 36 (.binOp .rem 3 (T 31) (T 35) 3),
 mo 37 (.nilCheck (T 26)),
 mo 38 (.fieldAddr 86 (T 37) 6),
 mx (.store 3 (T 38) (T 36))]
noncomputable def r43_0 : Code := .region 7 o43_0 true
theorem xr_43_0 {Q : DExit → St → Prop} {s : St} : xs Try.prog 48 r43_0 Q s = NC Try.prog 48 r43_0 Q s := rfl
theorem dr_43_0 {Q : DExit → St → Prop} {s : St} (h : XDraw Try.prog l43_0.toArray (befs o43_0.toList []) [] s.fr Q l43_0 0 s []) : NC Try.prog 48 r43_0 Q s :=
  NC.draw (by kernel_rfl) (by kernel_rfl) (by kernel_rfl) rfl (by kernel_rfl) (by kernel_rfl) h
attribute [go_sem] xr_43_0
noncomputable def o43_1 : Array Oper := drawn Try.f43 1
def l43_1 : List Oper := [mo 39 (.move (T 0)),
 mo 40 (.nilCheck (T 39)),
 mo 41 (.fieldAddr 86 (T 40) 6),
 mo 42 (.load 3 (T 41)),
 mo 43 (.move (T 0)),
 mo 44 (.nilCheck (T 43)),
 mo 45 (.fieldAddr 86 (T 44) 4),
 mo 46 (.load 26 (T 45)),
 mo 47 (.build 36 #[(0, (T 42)), (1, (T 46))]),
 mx (.store 36 (T 2) (T 47)),
 mo 3 (.assign (.const (.bool true)))]
noncomputable def r43_1 : Code := .region 8 o43_1 true
theorem xr_43_1 {Q : DExit → St → Prop} {s : St} : xs Try.prog 48 r43_1 Q s = NC Try.prog 48 r43_1 Q s := rfl
theorem dr_43_1 {Q : DExit → St → Prop} {s : St} (h : XDraw Try.prog l43_1.toArray (befs o43_1.toList []) [] s.fr Q l43_1 0 s []) : NC Try.prog 48 r43_1 Q s :=
  NC.draw (by kernel_rfl) (by kernel_rfl) (by kernel_rfl) rfl (by kernel_rfl) (by kernel_rfl) h
attribute [go_sem] xr_43_1
noncomputable def c43 : Code :=
 .seq (rg [mo 2 (.alloc 36),
 mo 3 (.assign (.const (.bool false)))])
 (.seq (.seq (rg [mo 4 (.move (T 0)),
 mo 5 (.nilCheck (T 4)),
 mo 6 (.fieldAddr 86 (T 5) 3),
 mo 7 (.load 4 (T 6)),
 mo 8 (.unOp .not 4 (T 7))])
 (.cond (T 8) (.seq (rg [mo 9 (.build 36 #[]),
 mx (.store 36 (T 2) (T 9)),
 mo 3 (.assign (.const (.bool false)))])
 (.ret))
 (.skip)))
 (.seq (rg [mo 10 (.move (T 0)),
 mo 11 (.nilCheck (T 10)),
 mo 12 (.fieldAddr 86 (T 11) 5),
 mo 13 (.load 3 (T 12)),
 mo 14 (.binOp .add 3 (T 13) (.const (.int .i64 1)) 3),
 mo 15 (.nilCheck (T 10)),
 mo 16 (.fieldAddr 86 (T 15) 5),
 mx (.store 3 (T 16) (T 14))])
 (.seq (.seq (rg [mo 17 (.move (T 0)),
 mo 18 (.nilCheck (T 17)),
 mo 19 (.fieldAddr 86 (T 18) 5),
 mo 20 (.load 3 (T 19)),
 mo 21 (.binOp .lss 3 (T 20) (.const (.int .i64 12)) 3)])
 (.cond (T 21) (.seq (rg [mo 22 (.build 36 #[]),
 mx (.store 36 (T 2) (T 22)),
 mo 3 (.assign (.const (.bool false)))])
 (.ret))
 (.skip)))
 (.seq (rg [mo 23 (.move (T 0)),
 mo 24 (.nilCheck (T 23)),
 mo 25 (.fieldAddr 86 (T 24) 5),
 mx (.store 3 (T 25) (.const (.int .i64 0)))])
 (.seq (r43_0)
 (.seq (r43_1)
 (.ret)))))))
theorem body_43 : Try.f43.body.map strip = some c43 := by kernel_rfl
theorem go_43 : GoC Try.prog 43 48 c43 [(.cell 2 36), (.tmp 3)] :=
  GoC.of (fn := Try.f43) (by kernel_rfl) body_43 (by kernel_rfl) (by kernel_rfl) (by kernel_rfl)
/-! (*trivet/trivetref25.Client).Answer -/
noncomputable def o44_0 : Array Oper := drawn Try.f44 0
def l44_0 : List Oper := [mo 6 (.move (T 0)),
 mo 7 (.nilCheck (T 6)),
 mo 8 (.fieldAddr 86 (T 7) 3),
 mo 9 (.load 4 (T 8)),
 mo 10 (.unOp .not 4 (T 9)),
 mo 11 (.move (T 10)),
 mg 12 5 false (.fieldAddr 47 (T 3) 0),
 mg 13 5 false (.load 2 (T 12)),
 mg 14 5 false (.move (T 0)),
 mg 15 5 false (.nilCheck (T 14)),
 mg 16 5 false (.fieldAddr 86 (T 15) 0),
 mg 17 5 false (.load 2 (T 16)),
 mg 18 5 false (.binOp .neq 2 (T 13) (T 17) 2),
 mo 19 (.pick (T 11) (.const (.bool true)) (T 18)),
 mo 20 (.move (T 19)),
 mg 21 14 false (.fieldAddr 47 (T 3) 1),
 mg 22 14 false (.load 2 (T 21)),
 mg 23 14 false (.move (T 0)),
 mg 24 14 false (.nilCheck (T 23)),
 mg 25 14 false (.fieldAddr 86 (T 24) 2),
 mg 26 14 false (.load 2 (T 25)),
 mg 27 14 false (.binOp .neq 2 (T 22) (T 26) 2),
 mo 28 (.pick (T 20) (.const (.bool true)) (T 27))]
noncomputable def r44_0 : Code := .region 1 o44_0 true
theorem xr_44_0 {Q : DExit → St → Prop} {s : St} : xs Try.prog 62 r44_0 Q s = NC Try.prog 62 r44_0 Q s := rfl
theorem dr_44_0 {Q : DExit → St → Prop} {s : St} (h : XDraw Try.prog l44_0.toArray (befs o44_0.toList []) [] s.fr Q l44_0 0 s []) : NC Try.prog 62 r44_0 Q s :=
  NC.draw (by kernel_rfl) (by kernel_rfl) (by kernel_rfl) rfl (by kernel_rfl) (by kernel_rfl) h
attribute [go_sem] xr_44_0
noncomputable def o44_1 : Array Oper := drawn Try.f44 1
def l44_1 : List Oper := [mo 39 (.move (T 0)),
 mo 40 (.move (T 0)),
 mo 41 (.move (T 0)),
 mo 42 (.fieldAddr 47 (T 3) 2),
 mo 43 (.load 45 (T 42)),
 mo 44 (.nilCheck (T 39)),
 mo 45 (.fieldAddr 86 (T 44) 3),
 mx (.store 4 (T 45) (.const (.bool false))),
 mo 46 (.nilCheck (T 40)),
 mo 47 (.fieldAddr 86 (T 46) 8),
 mx (.store 4 (T 47) (.const (.bool true))),
 mo 48 (.nilCheck (T 41)),
 mo 49 (.fieldAddr 86 (T 48) 9),
 mx (.store 45 (T 49) (T 43))]
noncomputable def r44_1 : Code := .region 5 o44_1 true
theorem xr_44_1 {Q : DExit → St → Prop} {s : St} : xs Try.prog 62 r44_1 Q s = NC Try.prog 62 r44_1 Q s := rfl
theorem dr_44_1 {Q : DExit → St → Prop} {s : St} (h : XDraw Try.prog l44_1.toArray (befs o44_1.toList []) [(4, 7), (4, 10)] s.fr Q l44_1 0 s []) : NC Try.prog 62 r44_1 Q s :=
  NC.draw (by kernel_rfl) (by kernel_rfl) (by kernel_rfl) rfl (by kernel_rfl) (by kernel_rfl) h
attribute [go_sem] xr_44_1
noncomputable def o44_2 : Array Oper := drawn Try.f44 2
def l44_2 : List Oper := [mo 50 (.move (T 0)),
 mo 51 (.move (T 0)),
 mo 52 (.nilCheck (T 51)),
 mo 53 (.fieldAddr 86 (T 52) 7),
 mo 54 (.load 2 (T 53)),
 mo 55 (.fieldAddr 47 (T 3) 2),
 mo 56 (.fieldAddr 45 (T 55) 2),
 mo 57 (.load 2 (T 56)),
 mo 58 (.binOp .add 2 (T 57) (.const (.int .i64 1)) 2),
 mt 59 2 (.call ⟨(.builtin .max), #[(T 54), (T 58)], #[2, 2]⟩),
 mo 60 (.nilCheck (T 50)),
 mo 61 (.fieldAddr 86 (T 60) 7),
 mx (.store 2 (T 61) (T 59))]
noncomputable def r44_2 : Code := .region 6 o44_2 true
theorem xr_44_2 {Q : DExit → St → Prop} {s : St} : xs Try.prog 62 r44_2 Q s = NC Try.prog 62 r44_2 Q s := rfl
theorem dr_44_2 {Q : DExit → St → Prop} {s : St} (h : XDraw Try.prog l44_2.toArray (befs o44_2.toList []) [] s.fr Q l44_2 0 s []) : NC Try.prog 62 r44_2 Q s :=
  NC.draw (by kernel_rfl) (by kernel_rfl) (by kernel_rfl) rfl (by kernel_rfl) (by kernel_rfl) h
attribute [go_sem] xr_44_2
noncomputable def c44 : Code :=
 .seq (rg [mo 3 (.box 47 (T 1)),
 mo 4 (.assign (.const (.bool false))),
 mo 5 (.assign (.const (.int .i64 0)))])
 (.seq (.seq (r44_0)
 (.cond (T 28) (.seq (rg [mo 4 (.assign (.const (.bool false))),
 mo 5 (.assign (.const (.int .i64 0)))])
 (.ret))
 (.skip)))
 (.seq (.seq (rg [mo 29 (.fieldAddr 47 (T 3) 2),
 mo 30 (.fieldAddr 45 (T 29) 2),
 mo 31 (.load 2 (T 30)),
 mo 32 (.binOp .lss 2 (T 31) (.const (.int .i64 0)) 2),
 mo 33 (.move (T 32)),
 mg 34 4 false (.fieldAddr 47 (T 3) 2),
 mg 35 4 false (.fieldAddr 45 (T 34) 2),
 mg 36 4 false (.load 2 (T 35)),
 mg 37 4 false (.binOp .gtr 2 (T 36) (.const (.int .i64 1099511627776)) 2),
 mo 38 (.pick (T 33) (.const (.bool true)) (T 37))])
 (.cond (T 38) (.seq (rg [mo 4 (.assign (.const (.bool false))),
 mo 5 (.assign (.const (.int .i64 1)))])
 (.ret))
 (.skip)))
 (.seq (r44_1)
 (.seq (r44_2)
 (.seq (rg [mo 4 (.assign (.const (.bool true))),
 mo 5 (.assign (.const (.int .i64 0)))])
 (.ret))))))
theorem body_44 : Try.f44.body.map strip = some c44 := by kernel_rfl
theorem go_44 : GoC Try.prog 44 62 c44 [(.tmp 4), (.tmp 5)] :=
  GoC.of (fn := Try.f44) (by kernel_rfl) body_44 (by kernel_rfl) (by kernel_rfl) (by kernel_rfl)
/-! (*trivet/trivetref25.Client).Query -/
noncomputable def o45_0 : Array Oper := drawn Try.f45 0
def g45_0 : List (Nat × Tmp × TypeId) := []
def q45_0 : List YO := [.s 0 (mo 17 (.move (T 1))),
 .s 1 (mo 18 (.move (T 2))),
 .s 3 (mo 20 (.move (T 0))),
 .s 4 (mo 21 (.nilCheck (T 20))),
 .s 5 (mo 22 (.fieldAddr 86 (T 21) 7)),
 .l 6 (mo 23 (.load 2 (T 22))),
 .b 2 (mo 19 (.call ⟨(.value (.func 39)), #[(T 18)], #[24]⟩)) [0],
 .s 7 (mo 24 (.build 36 #[(0, (T 17)), (2, (.const (.bool true))), (3, (T 19)), (4, (T 23))])),
 .b 8 (mx (.store 36 (T 6) (T 24))) [],
 .s 9 (mo 7 (.assign (.const (.int .i64 0))))]
def l45_0 : List Oper := [mo 17 (.move (T 1)),
 mo 18 (.move (T 2)),
 mo 19 (.call ⟨(.value (.func 39)), #[(T 18)], #[24]⟩),
 mo 20 (.move (T 0)),
 mo 21 (.nilCheck (T 20)),
 mo 22 (.fieldAddr 86 (T 21) 7),
 mo 23 (.load 2 (T 22)),
 mo 24 (.build 36 #[(0, (T 17)), (2, (.const (.bool true))), (3, (T 19)), (4, (T 23))]),
 mx (.store 36 (T 6) (T 24)),
 mo 7 (.assign (.const (.int .i64 0)))]
noncomputable def r45_0 : Code := .region 5 o45_0 true
theorem xr_45_0 {Q : DExit → St → Prop} {s : St} : xs Try.prog 25 r45_0 Q s = NC Try.prog 25 r45_0 Q s := rfl
theorem yr_45_0 {Q : DExit → St → Prop} {s : St} (hdf : s.df = []) (h : YG Try.prog (YD Try.prog l45_0.toArray Q q45_0) g45_0 s []) : NC Try.prog 25 r45_0 Q s :=
  NC.yd (l := l45_0) (b := [0, 0, 2, 0, 8, 24, 56, 127, 255, 511]) (by kernel_rfl) (by kernel_rfl) (by kernel_rfl) (by kernel_rfl) (by kernel_rfl) (by kernel_rfl) (by kernel_rfl) (by kernel_rfl) hdf h
attribute [go_sem] xr_45_0
noncomputable def c45 : Code :=
 .seq (rg [mo 6 (.alloc 36),
 mo 7 (.assign (.const (.int .i64 0)))])
 (.seq (.seq (rg [mo 8 (.move (T 0)),
 mo 9 (.move (T 1)),
 mo 10 (.call ⟨(.value (.func 36)), #[(T 8), (T 9)], #[50, 3]⟩),
 mo 11 (.unOp .not 4 (T 10))])
 (.cond (T 11) (.seq (rg [mo 12 (.build 36 #[]),
 mx (.store 36 (T 6) (T 12)),
 mo 7 (.assign (.const (.int .i64 1)))])
 (.ret))
 (.skip)))
 (.seq (.seq (rg [mo 13 (.move (T 2)),
 mo 14 (.call ⟨(.builtin .len), #[(T 13)], #[24]⟩),
 mo 15 (.binOp .gtr 3 (T 14) (.const (.int .i64 4096)) 3)])
 (.cond (T 15) (.seq (rg [mo 16 (.build 36 #[]),
 mx (.store 36 (T 6) (T 16)),
 mo 7 (.assign (.const (.int .i64 3)))])
 (.ret))
 (.skip)))
 (.seq (r45_0)
 (.ret))))
theorem body_45 : Try.f45.body.map strip = some c45 := by kernel_rfl
theorem go_45 : GoC Try.prog 45 25 c45 [(.cell 6 36), (.tmp 7)] :=
  GoC.of (fn := Try.f45) (by kernel_rfl) body_45 (by kernel_rfl) (by kernel_rfl) (by kernel_rfl)
end Go.Proofs.Ytbdljpndncohaaa

namespace Go.Proofs.Ytbdljpndncohaaa
open Go.D
set_option maxRecDepth 100000
/-! (*trivet/trivetref25.Client).Found -/
noncomputable def o46_0 : Array Oper := drawn Try.f46 0
def l46_0 : List Oper := [mo 18 (.fieldAddr 65 (T 3) 1),
 mo 19 (.load 2 (T 18)),
 mo 20 (.move (T 0)),
 mo 21 (.nilCheck (T 20)),
 mo 22 (.fieldAddr 86 (T 21) 7),
 mo 23 (.load 2 (T 22)),
 mo 24 (.binOp .lss 2 (T 19) (T 23) 2)]
noncomputable def r46_0 : Code := .region 5 o46_0 true
theorem xr_46_0 {Q : DExit → St → Prop} {s : St} : xs Try.prog 30 r46_0 Q s = NC Try.prog 30 r46_0 Q s := rfl
theorem dr_46_0 {Q : DExit → St → Prop} {s : St} (h : XDraw Try.prog l46_0.toArray (befs o46_0.toList []) [] s.fr Q l46_0 0 s []) : NC Try.prog 30 r46_0 Q s :=
  NC.draw (by kernel_rfl) (by kernel_rfl) (by kernel_rfl) rfl (by kernel_rfl) (by kernel_rfl) h
attribute [go_sem] xr_46_0
noncomputable def c46 : Code :=
 .seq (rg [mo 3 (.box 65 (T 1)),
 mo 4 (.assign (.const (.int .i64 0)))])
 (.seq (.seq (rg [mo 5 (.fieldAddr 65 (T 3) 0),
 mo 6 (.load 31 (T 5)),
 mo 7 (.binOp .neq 31 (T 6) (.const (.int .i64 0)) 31)])
 (.cond (T 7) (.seq (rg [mo 8 (.fieldAddr 65 (T 3) 0),
 mo 9 (.load 31 (T 8)),
 mo 4 (.assign (T 9))])
 (.ret))
 (.skip)))
 (.seq (.seq (rg [mo 10 (.fieldAddr 65 (T 3) 1),
 mo 11 (.load 2 (T 10)),
 mo 12 (.binOp .lss 2 (T 11) (.const (.int .i64 0)) 2),
 mo 13 (.move (T 12)),
 mg 14 3 false (.fieldAddr 65 (T 3) 1),
 mg 15 3 false (.load 2 (T 14)),
 mg 16 3 false (.binOp .gtr 2 (T 15) (.const (.int .i64 1099511627776)) 2),
 mo 17 (.pick (T 13) (.const (.bool true)) (T 16))])
 (.cond (T 17) (.seq (rg [mo 4 (.assign (.const (.int .i64 1)))])
 (.ret))
 (.skip)))
 (.seq (.seq (r46_0)
 (.cond (T 24) (.seq (rg [mo 4 (.assign (.const (.int .i64 250)))])
 (.ret))
 (.skip)))
 (.seq (rg [mo 25 (.move (T 0)),
 mo 26 (.fieldAddr 65 (T 3) 1),
 mo 27 (.load 2 (T 26)),
 mo 28 (.nilCheck (T 25)),
 mo 29 (.fieldAddr 86 (T 28) 7),
 mx (.store 2 (T 29) (T 27))])
 (.seq (rg [mo 4 (.assign (.const (.int .i64 0)))])
 (.ret))))))
theorem body_46 : Try.f46.body.map strip = some c46 := by kernel_rfl
theorem go_46 : GoC Try.prog 46 30 c46 [(.tmp 4)] :=
  GoC.of (fn := Try.f46) (by kernel_rfl) body_46 (by kernel_rfl) (by kernel_rfl) (by kernel_rfl)
/-! trivet/trivetref25.SameResult -/
def c47 : Code :=
 .seq (rg [mo 2 (.box 45 (T 0)),
 mo 3 (.box 45 (T 1)),
 mo 4 (.assign (.const (.bool false)))])
 (.seq (rg [mo 5 (.fieldAddr 45 (T 2) 0),
 mo 6 (.load 3 (T 5)),
 mo 7 (.fieldAddr 45 (T 3) 0),
 mo 8 (.load 3 (T 7)),
 mo 9 (.binOp .eql 3 (T 6) (T 8) 3),
 mo 10 (.move (T 9)),
 mg 11 5 true (.fieldAddr 45 (T 2) 2),
 mg 12 5 true (.load 2 (T 11)),
 mg 13 5 true (.fieldAddr 45 (T 3) 2),
 mg 14 5 true (.load 2 (T 13)),
 mg 15 5 true (.binOp .eql 2 (T 12) (T 14) 2),
 mo 16 (.pick (T 10) (T 15) (.const (.bool false))),
 mo 17 (.move (T 16)),
 mg 18 12 true (.fieldAddr 45 (T 2) 3),
 mg 19 12 true (.load 3 (T 18)),
 mg 20 12 true (.fieldAddr 45 (T 3) 3),
 mg 21 12 true (.load 3 (T 20)),
 mg 22 12 true (.binOp .eql 3 (T 19) (T 21) 3),
 mo 23 (.pick (T 17) (T 22) (.const (.bool false))),
 mo 24 (.move (T 23)),
 mg 25 19 true (.fieldAddr 45 (T 2) 1),
 mg 26 19 true (.load 23 (T 25)),
 mg 27 19 true (.fieldAddr 45 (T 3) 1),
 mg 28 19 true (.load 23 (T 27)),
 mg 29 19 true (.call ⟨(.value (.func 34)), #[(T 26), (T 28)], #[23, 23]⟩),
 mo 30 (.pick (T 24) (T 29) (.const (.bool false))),
 mo 4 (.assign (T 30))])
 (.ret))
theorem body_47 : Try.f47.body.map strip = some c47 := by kernel_rfl
theorem go_47 : GoC Try.prog 47 31 c47 [(.tmp 4)] :=
  GoC.of (fn := Try.f47) (by kernel_rfl) body_47 (by kernel_rfl) (by kernel_rfl) (by kernel_rfl)
/-! trivet/code.rises -/
noncomputable def o48_0 : Array Oper := drawn Try.f48 0
def l48_0 : List Oper := [mo 9 (.move (T 3)),
 mo 10 (.binOp .gtr 3 (T 9) (.const (.int .i64 0)) 3),
 mo 11 (.move (T 10)),
 mg 12 2 true (.move (T 0)),
 mg 13 2 true (.move (T 3)),
 mg 14 2 true (.indexAddr 24 (T 12) (T 13)),
 mg 15 2 true (.fieldAddr 54 (T 14) 0),
 mg 16 2 true (.load 21 (T 15)),
 mg 17 2 true (.move (T 0)),
 mg 18 2 true (.move (T 3)),
 mg 19 2 true (.binOp .sub 3 (T 18) (.const (.int .i64 1)) 3),
 mg 20 2 true (.indexAddr 24 (T 17) (T 19)),
 mg 21 2 true (.fieldAddr 54 (T 20) 0),
 mg 22 2 true (.load 21 (T 21)),
 mg 23 2 true (.binOp .lss 21 (T 16) (T 22) 21),
 mg 24 2 true (.move (T 23)),
 mg 25 15 false (.move (T 0)),
 mg 26 15 false (.move (T 3)),
 mg 27 15 false (.indexAddr 24 (T 25) (T 26)),
 mg 28 15 false (.fieldAddr 54 (T 27) 0),
 mg 29 15 false (.load 21 (T 28)),
 mg 30 15 false (.move (T 0)),
 mg 31 15 false (.move (T 3)),
 mg 32 15 false (.binOp .sub 3 (T 31) (.const (.int .i64 1)) 3),
 mg 33 15 false (.indexAddr 24 (T 30) (T 32)),
 mg 34 15 false (.fieldAddr 54 (T 33) 0),
 mg 35 15 false (.load 21 (T 34)),
 mg 36 15 false (.binOp .eql 21 (T 29) (T 35) 21),
 mg 37 15 false (.move (T 36)),
 mg 38 28 true (.move (T 0)),
 mg 39 28 true (.move (T 3)),
 mg 40 28 true (.indexAddr 24 (T 38) (T 39)),
 mg 41 28 true (.fieldAddr 54 (T 40) 1),
 mg 42 28 true (.load 2 (T 41)),
 mg 43 28 true (.move (T 0)),
 mg 44 28 true (.move (T 3)),
 mg 45 28 true (.binOp .sub 3 (T 44) (.const (.int .i64 1)) 3),
 mg 46 28 true (.indexAddr 24 (T 43) (T 45)),
 mg 47 28 true (.fieldAddr 54 (T 46) 1),
 mg 48 28 true (.load 2 (T 47)),
 mg 49 28 true (.binOp .leq 2 (T 42) (T 48) 2),
 mg 50 15 false (.pick (T 37) (T 49) (.const (.bool false))),
 mg 51 2 true (.pick (T 24) (.const (.bool true)) (T 50)),
 mo 52 (.pick (T 11) (T 51) (.const (.bool false)))]
noncomputable def r48_0 : Code := .region 4 o48_0 true
theorem xr_48_0 {Q : DExit → St → Prop} {s : St} : xs Try.prog 54 r48_0 Q s = NC Try.prog 54 r48_0 Q s := rfl
theorem dr_48_0 {Q : DExit → St → Prop} {s : St} (h : XDraw Try.prog l48_0.toArray (befs o48_0.toList []) [] s.fr Q l48_0 0 s []) : NC Try.prog 54 r48_0 Q s :=
  NC.draw (by kernel_rfl) (by kernel_rfl) (by kernel_rfl) rfl (by kernel_rfl) (by kernel_rfl) h
attribute [go_sem] xr_48_0
noncomputable def c48 : Code :=
 .seq (rg [mo 2 (.assign (.const (.bool false)))])
 (.seq (.seq (rg [mo 4 (.move (T 0)),
 mo 5 (.call ⟨(.builtin .len), #[(T 4)], #[24]⟩),
 mo 6 (.move (.const (.int .i64 0)))])
 (.block 0 (.loop (.seq (rg [mo 7 (.binOp .lss 3 (T 6) (T 5) 3)])
 (.seq (.cond (T 7) (.skip)
 (.exit 0))
 (.seq (.block 1 (.seq (rg [mo 8 (.move (T 6)),
 mo 3 (.assign (T 8))])
 (.seq (r48_0)
 (.cond (T 52) (.seq (rg [mo 2 (.assign (.const (.bool false)))])
 (.ret))
 (.skip)))))
 (rg [mo 53 (.binOp .add 3 (T 6) (.const (.int .i64 1)) 3),
 mo 6 (.move (T 53))])))))))
 (.seq (rg [mo 2 (.assign (.const (.bool true)))])
 (.ret)))
theorem body_48 : Try.f48.body.map strip = some c48 := by kernel_rfl
theorem go_48 : GoC Try.prog 48 54 c48 [(.tmp 2)] :=
  GoC.of (fn := Try.f48) (by kernel_rfl) body_48 (by kernel_rfl) (by kernel_rfl) (by kernel_rfl)
/-! trivet/code.Decode -/
def c49 : Code :=
 .seq (rg [mo 2 (.alloc 91),
 mo 3 (.alloc 31)])
 (.seq (.seq (rg [mo 9 (.move (T 0)),
 mo 10 (.call ⟨(.builtin .len), #[(T 9)], #[22]⟩),
 mo 11 (.binOp .gtr 3 (T 10) (.const (.int .i64 512)) 3)])
 (.cond (T 11) (.seq (rg [mx (.store 91 (T 2) (.const (.slice none 0 0))),
 mx (.store 31 (T 3) (.const (.int .i64 3)))])
 (.ret))
 (.skip)))
 (.seq (rg [mo 12 (.makeFunc (.func 59) #[] #[(T 2), (T 3)]),
 mx (.defer ⟨(.value (T 12)), #[], #[]⟩)])
 (.seq (rg [mo 13 (.move (T 0)),
 mo 14 (.call ⟨(.value (.func 61)), #[(T 13)], #[22]⟩),
 mx (.store 91 (T 2) (T 14))])
 (.seq (rg [mo 15 (.makeMap 105 none),
 mo 4 (.assign (T 15))])
 (.seq (.seq (rg [mo 16 (.load 91 (T 2)),
 mo 17 (.call ⟨(.builtin .len), #[(T 16)], #[91]⟩),
 mo 18 (.move (.const (.int .i64 0)))])
 (.block 0 (.loop (.seq (rg [mo 19 (.binOp .lss 3 (T 18) (T 17) 3)])
 (.seq (.cond (T 19) (.skip)
 (.exit 0))
 (.seq (.block 1 (.seq (rg [mo 20 (.indexAddr 91 (T 16) (T 18)),
 mo 21 (.load 95 (T 20)),
 mo 6 (.alloc 95),
 mx (.store 95 (T 6) (T 21))])
 (rg [mo 22 (.move (T 4)),
 mo 23 (.fieldAddr 95 (T 6) 0),
 mo 24 (.load 3 (T 23)),
 mx (.mapUpdate 105 (T 22) (T 24) (.const (.bool true)))])))
 (rg [mo 25 (.binOp .add 3 (T 18) (.const (.int .i64 1)) 3),
 mo 18 (.move (T 25))])))))))
 (.seq (.seq (rg [mo 26 (.load 91 (T 2)),
 mo 27 (.call ⟨(.builtin .len), #[(T 26)], #[91]⟩),
 mo 28 (.move (.const (.int .i64 0)))])
 (.block 2 (.loop (.seq (rg [mo 29 (.binOp .lss 3 (T 28) (T 27) 3)])
 (.seq (.cond (T 29) (.skip)
 (.exit 2))
 (.seq (.block 3 (.seq (rg [mo 30 (.indexAddr 91 (T 26) (T 28)),
 mo 31 (.load 95 (T 30)),
 mo 8 (.alloc 95),
 mx (.store 95 (T 8) (T 31))])
 (.seq (rg [mo 32 (.load 95 (T 8)),
 mo 33 (.call ⟨(.value (.func 62)), #[(T 32)], #[95]⟩),
 mo 34 (.move (T 33)),
 mg 35 2 true (.move (T 4)),
 mg 36 2 true (.fieldAddr 95 (T 8) 4),
 mg 37 2 true (.load 2 (T 36)),
 mg 38 2 true (.lookup 105 (T 35) (T 37) false),
 mg 39 2 true (.unOp .not 4 (T 38)),
 mo 40 (.pick (T 34) (T 39) (.const (.bool false)))])
 (.cond (T 40) (rg [mo 41 (.call ⟨(.value (.func 63)), #[(.const (.int .i64 131))], #[31]⟩)])
 (.skip)))))
 (rg [mo 42 (.binOp .add 3 (T 28) (.const (.int .i64 1)) 3),
 mo 28 (.move (T 42))])))))))
 (.seq (rg [mo 43 (.load 91 (T 2)),
 mx (.store 91 (T 2) (T 43)),
 mx (.store 31 (T 3) (.const (.int .i64 0)))])
 (.ret))))))))
theorem body_49 : Try.f49.body.map strip = some c49 := by kernel_rfl
theorem go_49 : GoC Try.prog 49 44 c49 [(.cell 2 91), (.cell 3 31)] :=
  GoC.of (fn := Try.f49) (by kernel_rfl) body_49 (by kernel_rfl) (by kernel_rfl) (by kernel_rfl)
/-! slices.Clone[[]byte,byte] -/
def c50 : Code :=
 .seq (rg [mo 2 (.assign (.const (.slice none 0 0)))])
 (.seq (.seq (rg [mo 3 (.move (T 0)),
 mo 4 (.binOp .eql 22 (T 3) (.const (.slice none 0 0)) 22)])
 (.cond (T 4) (.seq (rg [mo 2 (.assign (.const (.slice none 0 0)))])
 (.ret))
 (.skip)))
 (.seq (rg [mo 5 (.buildSlice 22 0 #[]),
 mo 6 (.move (T 0)),
 mo 7 (.call ⟨(.builtin .append), #[(T 5), (T 6)], #[22, 22]⟩),
 mo 2 (.assign (T 7))])
 (.ret)))
theorem body_50 : Try.f50.body.map strip = some c50 := by kernel_rfl
theorem go_50 : GoC Try.prog 50 8 c50 [(.tmp 2)] :=
  GoC.of (fn := Try.f50) (by kernel_rfl) body_50 (by kernel_rfl) (by kernel_rfl) (by kernel_rfl)
/-! slices.Clone[[]trivet/api.Key,trivet/api.Key] -/
def c51 : Code :=
 .seq (rg [mo 2 (.assign (.const (.slice none 0 0)))])
 (.seq (.seq (rg [mo 3 (.move (T 0)),
 mo 4 (.binOp .eql 24 (T 3) (.const (.slice none 0 0)) 24)])
 (.cond (T 4) (.seq (rg [mo 2 (.assign (.const (.slice none 0 0)))])
 (.ret))
 (.skip)))
 (.seq (rg [mo 5 (.buildSlice 24 0 #[]),
 mo 6 (.move (T 0)),
 mo 7 (.call ⟨(.builtin .append), #[(T 5), (T 6)], #[24, 24]⟩),
 mo 2 (.assign (T 7))])
 (.ret)))
theorem body_51 : Try.f51.body.map strip = some c51 := by kernel_rfl
theorem go_51 : GoC Try.prog 51 8 c51 [(.tmp 2)] :=
  GoC.of (fn := Try.f51) (by kernel_rfl) body_51 (by kernel_rfl) (by kernel_rfl) (by kernel_rfl)
/-! slices.SortFunc[[]trivet/api.Key,trivet/api.Key] -/
def c52 : Code :=
 .seq (rg [mo 5 (.move (T 0)),
 mo 6 (.call ⟨(.builtin .len), #[(T 5)], #[24]⟩),
 mo 4 (.assign (T 6))])
 (rg [mo 7 (.move (T 0)),
 mo 8 (.move (T 4)),
 mo 9 (.move (T 4)),
 mo 10 (.convert 3 110 (T 9)),
 mo 11 (.call ⟨(.value (.func 65)), #[(T 10)], #[110]⟩),
 mo 12 (.move (T 1)),
 mo 13 (.call ⟨(.value (.func 64)), #[(T 7), (.const (.int .i64 0)), (T 8), (T 11), (T 12)], #[24, 3, 3, 3, 101]⟩)])
theorem body_52 : Try.f52.body.map strip = some c52 := by kernel_rfl
theorem go_52 : GoC Try.prog 52 14 c52 [] :=
  GoC.of (fn := Try.f52) (by kernel_rfl) body_52 (by kernel_rfl) (by kernel_rfl) (by kernel_rfl)
/-! trivet/shard.Compare -/
noncomputable def o53_0 : Array Oper := drawn Try.f53 0
def l53_0 : List Oper := [mo 5 (.fieldAddr 54 (T 2) 0),
 mo 6 (.load 21 (T 5)),
 mo 7 (.fieldAddr 54 (T 3) 0),
 mo 8 (.load 21 (T 7)),
 mo 9 (.call ⟨(.value (.func 67)), #[(T 6), (T 8)], #[21, 21]⟩),
 mo 10 (.fieldAddr 54 (T 2) 1),
 mo 11 (.load 2 (T 10)),
 mo 12 (.fieldAddr 54 (T 3) 1),
 mo 13 (.load 2 (T 12)),
 mo 14 (.call ⟨(.value (.func 68)), #[(T 11), (T 13)], #[2, 2]⟩),
 mo 15 (.buildSlice 131 2 #[(0, (T 9)), (1, (T 14))]),
 mo 16 (.call ⟨(.value (.func 66)), #[(T 15)], #[131]⟩),
 mo 4 (.assign (T 16))]
noncomputable def r53_0 : Code := .region 1 o53_0 true
theorem xr_53_0 {Q : DExit → St → Prop} {s : St} : xs Try.prog 17 r53_0 Q s = NC Try.prog 17 r53_0 Q s := rfl
theorem dr_53_0 {Q : DExit → St → Prop} {s : St} (h : XDraw Try.prog l53_0.toArray (befs o53_0.toList []) [(6, 4), (8, 4)] s.fr Q l53_0 0 s []) : NC Try.prog 17 r53_0 Q s :=
  NC.draw (by kernel_rfl) (by kernel_rfl) (by kernel_rfl) rfl (by kernel_rfl) (by kernel_rfl) h
attribute [go_sem] xr_53_0
noncomputable def c53 : Code :=
 .seq (rg [mo 2 (.box 54 (T 0)),
 mo 3 (.box 54 (T 1)),
 mo 4 (.assign (.const (.int .i64 0)))])
 (.seq (r53_0)
 (.ret))
theorem body_53 : Try.f53.body.map strip = some c53 := by kernel_rfl
theorem go_53 : GoC Try.prog 53 17 c53 [(.tmp 4)] :=
  GoC.of (fn := Try.f53) (by kernel_rfl) body_53 (by kernel_rfl) (by kernel_rfl) (by kernel_rfl)
/-! slices.Compact[[]trivet/api.Key,trivet/api.Key] -/
noncomputable def o54_0 : Array Oper := drawn Try.f54 0
def l54_0 : List Oper := [mo 16 (.move (T 0)),
 mo 17 (.move (T 3)),
 mo 18 (.indexAddr 24 (T 16) (T 17)),
 mo 19 (.load 54 (T 18)),
 mo 20 (.move (T 0)),
 mo 21 (.move (T 3)),
 mo 22 (.binOp .sub 3 (T 21) (.const (.int .i64 1)) 3),
 mo 23 (.indexAddr 24 (T 20) (T 22)),
 mo 24 (.load 54 (T 23)),
 mo 25 (.binOp .eql 54 (T 19) (T 24) 54)]
noncomputable def r54_0 : Code := .region 6 o54_0 true
theorem xr_54_0 {Q : DExit → St → Prop} {s : St} : xs Try.prog 61 r54_0 Q s = NC Try.prog 61 r54_0 Q s := rfl
theorem dr_54_0 {Q : DExit → St → Prop} {s : St} (h : XDraw Try.prog l54_0.toArray (befs o54_0.toList []) [] s.fr Q l54_0 0 s []) : NC Try.prog 61 r54_0 Q s :=
  NC.draw (by kernel_rfl) (by kernel_rfl) (by kernel_rfl) rfl (by kernel_rfl) (by kernel_rfl) h
attribute [go_sem] xr_54_0
noncomputable def o54_1 : Array Oper := drawn Try.f54 1
def l54_1 : List Oper := [mo 35 (.move (T 4)),
 mo 36 (.move (T 5)),
 mo 37 (.indexAddr 24 (T 35) (T 36)),
 mo 38 (.load 54 (T 37)),
 mo 39 (.move (T 4)),
 mo 40 (.move (T 5)),
 mo 41 (.binOp .sub 3 (T 40) (.const (.int .i64 1)) 3),
 mo 42 (.indexAddr 24 (T 39) (T 41)),
 mo 43 (.load 54 (T 42)),
 mo 44 (.binOp .neq 54 (T 38) (T 43) 54)]
noncomputable def r54_1 : Code := .region 11 o54_1 true
theorem xr_54_1 {Q : DExit → St → Prop} {s : St} : xs Try.prog 61 r54_1 Q s = NC Try.prog 61 r54_1 Q s := rfl
theorem dr_54_1 {Q : DExit → St → Prop} {s : St} (h : XDraw Try.prog l54_1.toArray (befs o54_1.toList []) [] s.fr Q l54_1 0 s []) : NC Try.prog 61 r54_1 Q s :=
  NC.draw (by kernel_rfl) (by kernel_rfl) (by kernel_rfl) rfl (by kernel_rfl) (by kernel_rfl) h
attribute [go_sem] xr_54_1
noncomputable def c54 : Code :=
 .seq (rg [mo 2 (.assign (.const (.slice none 0 0)))])
 (.seq (.seq (rg [mo 6 (.move (T 0)),
 mo 7 (.call ⟨(.builtin .len), #[(T 6)], #[24]⟩),
 mo 8 (.binOp .lss 3 (T 7) (.const (.int .i64 2)) 3)])
 (.cond (T 8) (.seq (rg [mo 9 (.move (T 0)),
 mo 2 (.assign (T 9))])
 (.ret))
 (.skip)))
 (.seq (.seq (rg [mo 3 (.assign (.const (.int .i64 1)))])
 (.block 0 (.loop (.seq (.seq (rg [mo 10 (.move (T 3)),
 mo 11 (.move (T 0)),
 mo 12 (.call ⟨(.builtin .len), #[(T 11)], #[24]⟩),
 mo 13 (.binOp .lss 3 (T 10) (T 12) 3)])
 (.cond (T 13) (.skip)
 (.exit 0)))
 (.seq (.block 1 (.seq (r54_0)
 (.cond (T 25) (.seq (rg [mo 26 (.move (T 0)),
 mo 27 (.move (T 3)),
 mo 28 (.slice 24 (T 26) (some (T 27)) none none),
 mo 4 (.assign (T 28))])
 (.seq (.seq (rg [mo 5 (.assign (.const (.int .i64 1)))])
 (.block 2 (.loop (.seq (.seq (rg [mo 29 (.move (T 5)),
 mo 30 (.move (T 4)),
 mo 31 (.call ⟨(.builtin .len), #[(T 30)], #[24]⟩),
 mo 32 (.binOp .lss 3 (T 29) (T 31) 3)])
 (.cond (T 32) (.skip)
 (.exit 2)))
 (.seq (.block 3 (.seq (r54_1)
 (.cond (T 44) (.seq (rg [mo 45 (.move (T 0)),
 mo 46 (.move (T 3)),
 mo 47 (.move (T 4)),
 mo 48 (.move (T 5)),
 mo 49 (.indexAddr 24 (T 47) (T 48)),
 mo 50 (.load 54 (T 49)),
 mo 51 (.indexAddr 24 (T 45) (T 46)),
 mx (.store 54 (T 51) (T 50))])
 (rg [mo 52 (.move (T 3)),
 mo 53 (.binOp .add 3 (T 52) (.const (.int .i64 1)) 3),
 mo 3 (.assign (T 53))]))
 (.skip))))
 (rg [mo 33 (.move (T 5)),
 mo 34 (.binOp .add 3 (T 33) (.const (.int .i64 1)) 3),
 mo 5 (.assign (T 34))]))))))
 (.seq (rg [mo 54 (.move (T 0)),
 mo 55 (.move (T 3)),
 mo 56 (.slice 24 (T 54) (some (T 55)) none none),
 mx (.call ⟨(.builtin .clear), #[(T 56)], #[24]⟩)])
 (.seq (rg [mo 57 (.move (T 0)),
 mo 58 (.move (T 3)),
 mo 59 (.slice 24 (T 57) none (some (T 58)) none),
 mo 2 (.assign (T 59))])
 (.ret)))))
 (.skip))))
 (rg [mo 14 (.move (T 3)),
 mo 15 (.binOp .add 3 (T 14) (.const (.int .i64 1)) 3),
 mo 3 (.assign (T 15))]))))))
 (.seq (rg [mo 60 (.move (T 0)),
 mo 2 (.assign (T 60))])
 (.ret))))
theorem body_54 : Try.f54.body.map strip = some c54 := by kernel_rfl
theorem go_54 : GoC Try.prog 54 61 c54 [(.tmp 2)] :=
  GoC.of (fn := Try.f54) (by kernel_rfl) body_54 (by kernel_rfl) (by kernel_rfl) (by kernel_rfl)
/-! trivet/trivetref11.Compare -/
def c55 : Code :=
 .seq (rg [mo 2 (.box 54 (T 0)),
 mo 3 (.box 54 (T 1)),
 mo 4 (.assign (.const (.int .i64 0)))])
 (.seq (.seq (rg [mo 5 (.fieldAddr 54 (T 2) 0),
 mo 6 (.load 21 (T 5)),
 mo 7 (.fieldAddr 54 (T 3) 0),
 mo 8 (.load 21 (T 7)),
 mo 9 (.binOp .lss 21 (T 6) (T 8) 21),
 mo 10 (.move (T 9)),
 mg 11 5 false (.fieldAddr 54 (T 2) 0),
 mg 12 5 false (.load 21 (T 11)),
 mg 13 5 false (.fieldAddr 54 (T 3) 0),
 mg 14 5 false (.load 21 (T 13)),
 mg 15 5 false (.binOp .eql 21 (T 12) (T 14) 21),
 mg 16 5 false (.move (T 15)),
 mg 17 11 true (.fieldAddr 54 (T 2) 1),
 mg 18 11 true (.load 2 (T 17)),
 mg 19 11 true (.fieldAddr 54 (T 3) 1),
 mg 20 11 true (.load 2 (T 19)),
 mg 21 11 true (.binOp .lss 2 (T 18) (T 20) 2),
 mg 22 5 false (.pick (T 16) (T 21) (.const (.bool false))),
 mo 23 (.pick (T 10) (.const (.bool true)) (T 22))])
 (.cond (T 23) (.seq (rg [mo 4 (.assign (.const (.int .i64 (-1))))])
 (.ret))
 (.skip)))
 (.seq (.seq (rg [mo 24 (.load 54 (T 2)),
 mo 25 (.load 54 (T 3)),
 mo 26 (.binOp .eql 54 (T 24) (T 25) 54)])
 (.cond (T 26) (.seq (rg [mo 4 (.assign (.const (.int .i64 0)))])
 (.ret))
 (.skip)))
 (.seq (rg [mo 4 (.assign (.const (.int .i64 1)))])
 (.ret))))
theorem body_55 : Try.f55.body.map strip = some c55 := by kernel_rfl
theorem go_55 : GoC Try.prog 55 27 c55 [(.tmp 4)] :=
  GoC.of (fn := Try.f55) (by kernel_rfl) body_55 (by kernel_rfl) (by kernel_rfl) (by kernel_rfl)
/-! trivet/trivetref13.Walk -/
def c56 : Code :=
 .seq (rg [mo 2 (.assign (.const (.slice none 0 0))),
 mo 3 (.assign (.const (.int .i64 0)))])
 (.seq (rg [mo 4 (.assign (.const (.slice none 0 0)))])
 (.seq (.seq (rg [mo 5 (.assign (.const (.int .i64 0)))])
 (.block 0 (.loop (.seq (.seq (rg [mo 9 (.move (T 5)),
 mo 10 (.move (T 0)),
 mo 11 (.call ⟨(.builtin .len), #[(T 10)], #[22]⟩),
 mo 12 (.binOp .lss 3 (T 9) (T 11) 3)])
 (.cond (T 12) (.skip)
 (.exit 0)))
 (.block 1 (.seq (rg [mo 14 (.move (T 0)),
 mo 15 (.move (T 5)),
 mo 16 (.call ⟨(.value (.func 69)), #[(T 14), (T 15)], #[22, 3]⟩),
 mo 13 (.move (T 16)),
 mo 17 (.extract (T 13) 0),
 mo 18 (.extract (T 13) 1),
 mo 19 (.extract (T 13) 2),
 mo 6 (.alloc 95),
 mx (.store 95 (T 6) (T 17)),
 mo 7 (.assign (T 18)),
 mo 8 (.assign (T 19))])
 (.seq (.seq (rg [mo 20 (.move (T 8)),
 mo 21 (.binOp .neq 31 (T 20) (.const (.int .i64 0)) 31)])
 (.cond (T 21) (.seq (rg [mo 22 (.move (T 4)),
 mo 23 (.move (T 8)),
 mo 2 (.assign (T 22)),
 mo 3 (.assign (T 23))])
 (.ret))
 (.skip)))
 (.seq (rg [mo 24 (.move (T 4)),
 mo 25 (.load 95 (T 6)),
 mo 26 (.buildSlice 91 1 #[(0, (T 25))]),
 mo 27 (.call ⟨(.builtin .append), #[(T 24), (T 26)], #[91, 91]⟩),
 mo 4 (.assign (T 27))])
 (rg [mo 28 (.move (T 7)),
 mo 5 (.assign (T 28))])))))))))
 (.seq (rg [mo 29 (.move (T 4)),
 mo 2 (.assign (T 29)),
 mo 3 (.assign (.const (.int .i64 0)))])
 (.ret))))
theorem body_56 : Try.f56.body.map strip = some c56 := by kernel_rfl
theorem go_56 : GoC Try.prog 56 30 c56 [(.tmp 2), (.tmp 3)] :=
  GoC.of (fn := Try.f56) (by kernel_rfl) body_56 (by kernel_rfl) (by kernel_rfl) (by kernel_rfl)
/-! trivet/trivetref13.jumps -/
def c57 : Code :=
 .seq (rg [mo 2 (.assign (.const (.bool false)))])
 (.seq (rg [mo 3 (.move (T 0)),
 mo 4 (.binOp .eql 3 (T 3) (.const (.int .i64 22)) 3),
 mo 5 (.move (T 4)),
 mg 6 2 false (.move (T 0)),
 mg 7 2 false (.binOp .eql 3 (T 6) (.const (.int .i64 23)) 3),
 mo 8 (.pick (T 5) (.const (.bool true)) (T 7)),
 mo 2 (.assign (T 8))])
 (.ret))
theorem body_57 : Try.f57.body.map strip = some c57 := by kernel_rfl
theorem go_57 : GoC Try.prog 57 9 c57 [(.tmp 2)] :=
  GoC.of (fn := Try.f57) (by kernel_rfl) body_57 (by kernel_rfl) (by kernel_rfl) (by kernel_rfl)
/-! trivet/trivetref13.begins -/
def c58 : Code :=
 .seq (rg [mo 4 (.assign (.const (.bool false)))])
 (.seq (.seq (rg [mo 5 (.assign (.const (.int .i64 0)))])
 (.block 0 (.loop (.seq (.seq (rg [mo 6 (.move (T 5)),
 mo 7 (.move (T 0)),
 mo 8 (.call ⟨(.builtin .len), #[(T 7)], #[91]⟩),
 mo 9 (.binOp .lss 3 (T 6) (T 8) 3)])
 (.cond (T 9) (.skip)
 (.exit 0)))
 (.seq (.block 1 (.seq (rg [mo 12 (.move (T 0)),
 mo 13 (.move (T 5)),
 mo 14 (.indexAddr 91 (T 12) (T 13)),
 mo 15 (.fieldAddr 95 (T 14) 0),
 mo 16 (.load 3 (T 15)),
 mo 17 (.move (T 1)),
 mo 18 (.binOp .eql 2 (T 16) (T 17) 2)])
 (.cond (T 18) (.seq (rg [mo 4 (.assign (.const (.bool true)))])
 (.ret))
 (.skip))))
 (rg [mo 10 (.move (T 5)),
 mo 11 (.binOp .add 3 (T 10) (.const (.int .i64 1)) 3),
 mo 5 (.assign (T 11))]))))))
 (.seq (rg [mo 4 (.assign (.const (.bool false)))])
 (.ret)))
theorem body_58 : Try.f58.body.map strip = some c58 := by kernel_rfl
theorem go_58 : GoC Try.prog 58 19 c58 [(.tmp 4)] :=
  GoC.of (fn := Try.f58) (by kernel_rfl) body_58 (by kernel_rfl) (by kernel_rfl) (by kernel_rfl)
/-! trivet/code.Decode$1 -/
def c59 : Code :=
 .seq (rg [mo 3 (.call ⟨(.builtin .recover), #[], #[]⟩),
 mo 2 (.assign (T 3))])
 (.seq (rg [mo 4 (.move (T 2)),
 mo 5 (.binOp .neq 20 (T 4) (.const .nilIface) 20)])
 (.cond (T 5) (rg [mo 6 (.move (T 2)),
 mo 7 (.call ⟨(.value (.func 60)), #[(T 6)], #[20]⟩),
 mx (.store 91 (T 0) (.const (.slice none 0 0))),
 mx (.store 31 (T 1) (T 7))])
 (.skip)))
theorem body_59 : Try.f59.body.map strip = some c59 := by kernel_rfl
/-! trivet/code.caught -/
def c60 : Code :=
 .seq (rg [mo 2 (.assign (.const (.int .i64 0)))])
 (.seq (rg [mo 6 (.move (T 0)),
 mo 7 (.typeAssert (T 6) 20 117 true),
 mo 5 (.move (T 7)),
 mo 8 (.extract (T 5) 0),
 mo 9 (.extract (T 5) 1),
 mo 3 (.alloc 117),
 mx (.store 117 (T 3) (T 8)),
 mo 4 (.assign (T 9))])
 (.seq (.seq (rg [mo 10 (.move (T 4)),
 mo 11 (.unOp .not 4 (T 10))])
 (.cond (T 11) (rg [mo 12 (.move (T 0)),
 mx (.panic (T 12))])
 (.skip)))
 (.seq (rg [mo 13 (.fieldAddr 117 (T 3) 0),
 mo 14 (.load 31 (T 13)),
 mo 2 (.assign (T 14))])
 (.ret))))
theorem body_60 : Try.f60.body.map strip = some c60 := by kernel_rfl
theorem go_60 : GoC Try.prog 60 15 c60 [(.tmp 2)] :=
  GoC.of (fn := Try.f60) (by kernel_rfl) body_60 (by kernel_rfl) (by kernel_rfl) (by kernel_rfl)
/-! trivet/code.all -/
def c61 : Code :=
 .seq (rg [mo 2 (.assign (.const (.slice none 0 0)))])
 (.seq (rg [mo 3 (.assign (.const (.slice none 0 0)))])
 (.seq (.seq (rg [mo 4 (.assign (.const (.int .i64 0)))])
 (.block 0 (.loop (.seq (.seq (rg [mo 8 (.move (T 4)),
 mo 9 (.move (T 0)),
 mo 10 (.call ⟨(.builtin .len), #[(T 9)], #[22]⟩),
 mo 11 (.binOp .lss 3 (T 8) (T 10) 3)])
 (.cond (T 11) (.skip)
 (.exit 0)))
 (.block 1 (.seq (rg [mo 13 (.move (T 0)),
 mo 14 (.move (T 4)),
 mo 15 (.call ⟨(.value (.func 70)), #[(T 13), (T 14)], #[22, 3]⟩),
 mo 12 (.move (T 15)),
 mo 16 (.extract (T 12) 0),
 mo 17 (.extract (T 12) 1),
 mo 18 (.extract (T 12) 2),
 mo 5 (.alloc 95),
 mx (.store 95 (T 5) (T 16)),
 mo 6 (.assign (T 17)),
 mo 7 (.assign (T 18))])
 (.seq (rg [mo 19 (.move (T 7)),
 mo 20 (.call ⟨(.value (.func 63)), #[(T 19)], #[31]⟩)])
 (.seq (rg [mo 21 (.move (T 3)),
 mo 22 (.load 95 (T 5)),
 mo 23 (.buildSlice 91 1 #[(0, (T 22))]),
 mo 24 (.call ⟨(.builtin .append), #[(T 21), (T 23)], #[91, 91]⟩),
 mo 3 (.assign (T 24))])
 (rg [mo 25 (.move (T 6)),
 mo 4 (.assign (T 25))])))))))))
 (.seq (rg [mo 26 (.move (T 3)),
 mo 2 (.assign (T 26))])
 (.ret))))
theorem body_61 : Try.f61.body.map strip = some c61 := by kernel_rfl
theorem go_61 : GoC Try.prog 61 27 c61 [(.tmp 2)] :=
  GoC.of (fn := Try.f61) (by kernel_rfl) body_61 (by kernel_rfl) (by kernel_rfl) (by kernel_rfl)
/-! trivet/code.jumps -/
def c62 : Code :=
 .seq (rg [mo 1 (.box 95 (T 0)),
 mo 2 (.assign (.const (.bool false)))])
 (.seq (rg [mo 3 (.fieldAddr 95 (T 1) 1),
 mo 4 (.load 3 (T 3)),
 mo 5 (.binOp .eql 3 (T 4) (.const (.int .i64 22)) 3),
 mo 6 (.move (T 5)),
 mg 7 3 false (.fieldAddr 95 (T 1) 1),
 mg 8 3 false (.load 3 (T 7)),
 mg 9 3 false (.binOp .eql 3 (T 8) (.const (.int .i64 23)) 3),
 mo 10 (.pick (T 6) (.const (.bool true)) (T 9)),
 mo 2 (.assign (T 10))])
 (.ret))
theorem body_62 : Try.f62.body.map strip = some c62 := by kernel_rfl
theorem go_62 : GoC Try.prog 62 11 c62 [(.tmp 2)] :=
  GoC.of (fn := Try.f62) (by kernel_rfl) body_62 (by kernel_rfl) (by kernel_rfl) (by kernel_rfl)
/-! trivet/code.must -/
def c63 : Code :=
 .seq (rg [mo 2 (.move (T 0)),
 mo 3 (.binOp .neq 31 (T 2) (.const (.int .i64 0)) 31)])
 (.cond (T 3) (rg [mo 4 (.move (T 0)),
 mo 5 (.build 117 #[(0, (T 4))]),
 mo 6 (.makeInterface 117 (T 5)),
 mx (.panic (T 6))])
 (.skip))
theorem body_63 : Try.f63.body.map strip = some c63 := by kernel_rfl
theorem go_63 : GoC Try.prog 63 7 c63 [] :=
  GoC.of (fn := Try.f63) (by kernel_rfl) body_63 (by kernel_rfl) (by kernel_rfl) (by kernel_rfl)
/-! slices.pdqsortCmpFunc[trivet/api.Key] -/
noncomputable def o64_0 : Array Oper := drawn Try.f64 0
noncomputable def r64_0 : Code := .region 17 o64_0 true
noncomputable def c64 : Code :=
 .seq (rg [mo 10 (.assign (.const (.bool true)))])
 (.seq (rg [mo 11 (.assign (.const (.bool true)))])
 (.block 0 (.loop (.block 1 (.seq (rg [mo 21 (.move (T 2)),
 mo 22 (.move (T 1)),
 mo 23 (.binOp .sub 3 (T 21) (T 22) 3),
 mo 12 (.assign (T 23))])
 (.seq (.seq (rg [mo 24 (.move (T 12)),
 mo 25 (.binOp .leq 3 (T 24) (.const (.int .i64 12)) 3)])
 (.cond (T 25) (.seq (rg [mo 26 (.move (T 0)),
 mo 27 (.move (T 1)),
 mo 28 (.move (T 2)),
 mo 29 (.move (T 4)),
 mo 30 (.call ⟨(.value (.func 71)), #[(T 26), (T 27), (T 28), (T 29)], #[24, 3, 3, 101]⟩)])
 (.ret))
 (.skip)))
 (.seq (.seq (rg [mo 31 (.move (T 3)),
 mo 32 (.binOp .eql 3 (T 31) (.const (.int .i64 0)) 3)])
 (.cond (T 32) (.seq (rg [mo 33 (.move (T 0)),
 mo 34 (.move (T 1)),
 mo 35 (.move (T 2)),
 mo 36 (.move (T 4)),
 mo 37 (.call ⟨(.value (.func 72)), #[(T 33), (T 34), (T 35), (T 36)], #[24, 3, 3, 101]⟩)])
 (.ret))
 (.skip)))
 (.seq (.seq (rg [mo 38 (.move (T 10)),
 mo 39 (.unOp .not 4 (T 38))])
 (.cond (T 39) (.seq (rg [mo 40 (.move (T 0)),
 mo 41 (.move (T 1)),
 mo 42 (.move (T 2)),
 mo 43 (.move (T 4)),
 mo 44 (.call ⟨(.value (.func 73)), #[(T 40), (T 41), (T 42), (T 43)], #[24, 3, 3, 101]⟩)])
 (rg [mo 45 (.move (T 3)),
 mo 46 (.binOp .sub 3 (T 45) (.const (.int .i64 1)) 3),
 mo 3 (.assign (T 46))]))
 (.skip)))
 (.seq (rg [mo 48 (.move (T 0)),
 mo 49 (.move (T 1)),
 mo 50 (.move (T 2)),
 mo 51 (.move (T 4)),
 mo 52 (.call ⟨(.value (.func 74)), #[(T 48), (T 49), (T 50), (T 51)], #[24, 3, 3, 101]⟩),
 mo 47 (.move (T 52)),
 mo 53 (.extract (T 47) 0),
 mo 54 (.extract (T 47) 1),
 mo 13 (.assign (T 53)),
 mo 14 (.assign (T 54))])
 (.seq (.seq (rg [mo 55 (.move (T 14)),
 mo 56 (.binOp .eql 120 (T 55) (.const (.int .i64 2)) 120)])
 (.cond (T 56) (.seq (rg [mo 57 (.move (T 0)),
 mo 58 (.move (T 1)),
 mo 59 (.move (T 2)),
 mo 60 (.move (T 4)),
 mo 61 (.call ⟨(.value (.func 75)), #[(T 57), (T 58), (T 59), (T 60)], #[24, 3, 3, 101]⟩)])
 (.seq (rg [mo 62 (.move (T 2)),
 mo 63 (.binOp .sub 3 (T 62) (.const (.int .i64 1)) 3),
 mo 64 (.move (T 13)),
 mo 65 (.move (T 1)),
 mo 66 (.binOp .sub 3 (T 64) (T 65) 3),
 mo 67 (.binOp .sub 3 (T 63) (T 66) 3),
 mo 13 (.assign (T 67))])
 (rg [mo 14 (.assign (.const (.int .i64 1)))])))
 (.skip)))
 (.seq (.seq (rg [mo 68 (.move (T 10)),
 mo 69 (.move (T 68)),
 mg 70 1 true (.move (T 11)),
 mo 71 (.pick (T 69) (T 70) (.const (.bool false))),
 mo 72 (.move (T 71)),
 mg 73 4 true (.move (T 14)),
 mg 74 4 true (.binOp .eql 120 (T 73) (.const (.int .i64 1)) 120),
 mo 75 (.pick (T 72) (T 74) (.const (.bool false)))])
 (.cond (T 75) (.seq (rg [mo 76 (.move (T 0)),
 mo 77 (.move (T 1)),
 mo 78 (.move (T 2)),
 mo 79 (.move (T 4)),
 mo 80 (.call ⟨(.value (.func 76)), #[(T 76), (T 77), (T 78), (T 79)], #[24, 3, 3, 101]⟩)])
 (.cond (T 80) (.ret)
 (.skip)))
 (.skip)))
 (.seq (.seq (r64_0)
 (.cond (T 97) (.seq (rg [mo 98 (.move (T 0)),
 mo 99 (.move (T 1)),
 mo 100 (.move (T 2)),
 mo 101 (.move (T 13)),
 mo 102 (.move (T 4)),
 mo 103 (.call ⟨(.value (.func 77)), #[(T 98), (T 99), (T 100), (T 101), (T 102)], #[24, 3, 3, 3, 101]⟩),
 mo 15 (.assign (T 103))])
 (.seq (rg [mo 104 (.move (T 15)),
 mo 1 (.assign (T 104))])
 (.exit 1)))
 (.skip)))
 (.seq (rg [mo 106 (.move (T 0)),
 mo 107 (.move (T 1)),
 mo 108 (.move (T 2)),
 mo 109 (.move (T 13)),
 mo 110 (.move (T 4)),
 mo 111 (.call ⟨(.value (.func 78)), #[(T 106), (T 107), (T 108), (T 109), (T 110)], #[24, 3, 3, 3, 101]⟩),
 mo 105 (.move (T 111)),
 mo 112 (.extract (T 105) 0),
 mo 113 (.extract (T 105) 1),
 mo 16 (.assign (T 112)),
 mo 17 (.assign (T 113))])
 (.seq (rg [mo 114 (.move (T 17)),
 mo 11 (.assign (T 114))])
 (.seq (rg [mo 115 (.move (T 16)),
 mo 116 (.move (T 1)),
 mo 117 (.binOp .sub 3 (T 115) (T 116) 3),
 mo 118 (.move (T 2)),
 mo 119 (.move (T 16)),
 mo 120 (.binOp .sub 3 (T 118) (T 119) 3),
 mo 18 (.assign (T 117)),
 mo 19 (.assign (T 120))])
 (.seq (rg [mo 121 (.move (T 12)),
 mo 122 (.binOp .quo 3 (T 121) (.const (.int .i64 8)) 3),
 mo 20 (.assign (T 122))])
 (.seq (rg [mo 123 (.move (T 18)),
 mo 124 (.move (T 19)),
 mo 125 (.binOp .lss 3 (T 123) (T 124) 3)])
 (.cond (T 125) (.seq (rg [mo 126 (.move (T 18)),
 mo 127 (.move (T 20)),
 mo 128 (.binOp .geq 3 (T 126) (T 127) 3),
 mo 10 (.assign (T 128))])
 (.seq (rg [mo 129 (.move (T 0)),
 mo 130 (.move (T 1)),
 mo 131 (.move (T 16)),
 mo 132 (.move (T 3)),
 mo 133 (.move (T 4)),
 mo 134 (.call ⟨(.value (.func 64)), #[(T 129), (T 130), (T 131), (T 132), (T 133)], #[24, 3, 3, 3, 101]⟩)])
 (rg [mo 135 (.move (T 16)),
 mo 136 (.binOp .add 3 (T 135) (.const (.int .i64 1)) 3),
 mo 1 (.assign (T 136))])))
 (.seq (rg [mo 137 (.move (T 19)),
 mo 138 (.move (T 20)),
 mo 139 (.binOp .geq 3 (T 137) (T 138) 3),
 mo 10 (.assign (T 139))])
 (.seq (rg [mo 140 (.move (T 0)),
 mo 141 (.move (T 16)),
 mo 142 (.binOp .add 3 (T 141) (.const (.int .i64 1)) 3),
 mo 143 (.move (T 2)),
 mo 144 (.move (T 3)),
 mo 145 (.move (T 4)),
 mo 146 (.call ⟨(.value (.func 64)), #[(T 140), (T 142), (T 143), (T 144), (T 145)], #[24, 3, 3, 3, 101]⟩)])
 (rg [mo 147 (.move (T 16)),
 mo 2 (.assign (T 147))])))))))))))))))))))))
theorem body_64 : Try.f64.body.map strip = some c64 := by kernel_rfl
theorem go_64 : GoC Try.prog 64 148 c64 [] :=
  GoC.of (fn := Try.f64) (by kernel_rfl) body_64 (by kernel_rfl) (by kernel_rfl) (by kernel_rfl)
/-! math/bits.Len -/
def c65 : Code :=
 .seq (rg [mo 2 (.assign (.const (.int .i64 0)))])
 (.seq (.cond (.const (.bool false)) (.seq (rg [mo 3 (.move (T 0)),
 mo 4 (.convert 110 128 (T 3)),
 mo 5 (.call ⟨(.value (.func 79)), #[(T 4)], #[128]⟩),
 mo 2 (.assign (T 5))])
 (.ret))
 (.skip))
 (.seq (rg [mo 6 (.move (T 0)),
 mo 7 (.call ⟨(.value (.func 80)), #[(T 6)], #[130]⟩),
 mo 2 (.assign (T 7))])
 (.ret)))
theorem body_65 : Try.f65.body.map strip = some c65 := by kernel_rfl
theorem go_65 : GoC Try.prog 65 8 c65 [(.tmp 2)] :=
  GoC.of (fn := Try.f65) (by kernel_rfl) body_65 (by kernel_rfl) (by kernel_rfl) (by kernel_rfl)
/-! cmp.Or[int] -/
def c66 : Code :=
 .seq (rg [mo 2 (.assign (.const (.int .i64 0)))])
 (.seq (rg [mo 3 (.assign (.const (.int .i64 0)))])
 (.seq (.seq (rg [mo 6 (.move (T 0)),
 mo 7 (.call ⟨(.builtin .len), #[(T 6)], #[131]⟩),
 mo 8 (.move (.const (.int .i64 0)))])
 (.block 0 (.loop (.seq (rg [mo 9 (.binOp .lss 3 (T 8) (T 7) 3)])
 (.seq (.cond (T 9) (.skip)
 (.exit 0))
 (.seq (.block 1 (.seq (rg [mo 10 (.indexAddr 131 (T 6) (T 8)),
 mo 11 (.load 3 (T 10)),
 mo 5 (.assign (T 11))])
 (.seq (rg [mo 12 (.move (T 5)),
 mo 13 (.move (T 3)),
 mo 14 (.binOp .neq 3 (T 12) (T 13) 3)])
 (.cond (T 14) (.seq (rg [mo 15 (.move (T 5)),
 mo 2 (.assign (T 15))])
 (.ret))
 (.skip)))))
 (rg [mo 16 (.binOp .add 3 (T 8) (.const (.int .i64 1)) 3),
 mo 8 (.move (T 16))])))))))
 (.seq (rg [mo 17 (.move (T 3)),
 mo 2 (.assign (T 17))])
 (.ret))))
theorem body_66 : Try.f66.body.map strip = some c66 := by kernel_rfl
theorem go_66 : GoC Try.prog 66 18 c66 [(.tmp 2)] :=
  GoC.of (fn := Try.f66) (by kernel_rfl) body_66 (by kernel_rfl) (by kernel_rfl) (by kernel_rfl)
/-! cmp.Compare[int32] -/
def c67 : Code :=
 .seq (rg [mo 4 (.assign (.const (.int .i64 0)))])
 (.seq (rg [mo 7 (.move (T 0)),
 mo 8 (.call ⟨(.value (.func 81)), #[(T 7)], #[21]⟩),
 mo 5 (.assign (T 8))])
 (.seq (rg [mo 9 (.move (T 1)),
 mo 10 (.call ⟨(.value (.func 81)), #[(T 9)], #[21]⟩),
 mo 6 (.assign (T 10))])
 (.seq (.seq (rg [mo 11 (.move (T 5))])
 (.cond (T 11) (.seq (.seq (rg [mo 12 (.move (T 6))])
 (.cond (T 12) (.seq (rg [mo 4 (.assign (.const (.int .i64 0)))])
 (.ret))
 (.skip)))
 (.seq (rg [mo 4 (.assign (.const (.int .i64 (-1))))])
 (.ret)))
 (.skip)))
 (.seq (.seq (rg [mo 13 (.move (T 6))])
 (.cond (T 13) (.seq (rg [mo 4 (.assign (.const (.int .i64 1)))])
 (.ret))
 (.skip)))
 (.seq (.seq (rg [mo 14 (.move (T 0)),
 mo 15 (.move (T 1)),
 mo 16 (.binOp .lss 21 (T 14) (T 15) 21)])
 (.cond (T 16) (.seq (rg [mo 4 (.assign (.const (.int .i64 (-1))))])
 (.ret))
 (.skip)))
 (.seq (.seq (rg [mo 17 (.move (T 0)),
 mo 18 (.move (T 1)),
 mo 19 (.binOp .gtr 21 (T 17) (T 18) 21)])
 (.cond (T 19) (.seq (rg [mo 4 (.assign (.const (.int .i64 1)))])
 (.ret))
 (.skip)))
 (.seq (rg [mo 4 (.assign (.const (.int .i64 0)))])
 (.ret))))))))
theorem body_67 : Try.f67.body.map strip = some c67 := by kernel_rfl
theorem go_67 : GoC Try.prog 67 20 c67 [(.tmp 4)] :=
  GoC.of (fn := Try.f67) (by kernel_rfl) body_67 (by kernel_rfl) (by kernel_rfl) (by kernel_rfl)
/-! cmp.Compare[int64] -/
def c68 : Code :=
 .seq (rg [mo 4 (.assign (.const (.int .i64 0)))])
 (.seq (rg [mo 7 (.move (T 0)),
 mo 8 (.call ⟨(.value (.func 82)), #[(T 7)], #[2]⟩),
 mo 5 (.assign (T 8))])
 (.seq (rg [mo 9 (.move (T 1)),
 mo 10 (.call ⟨(.value (.func 82)), #[(T 9)], #[2]⟩),
 mo 6 (.assign (T 10))])
 (.seq (.seq (rg [mo 11 (.move (T 5))])
 (.cond (T 11) (.seq (.seq (rg [mo 12 (.move (T 6))])
 (.cond (T 12) (.seq (rg [mo 4 (.assign (.const (.int .i64 0)))])
 (.ret))
 (.skip)))
 (.seq (rg [mo 4 (.assign (.const (.int .i64 (-1))))])
 (.ret)))
 (.skip)))
 (.seq (.seq (rg [mo 13 (.move (T 6))])
 (.cond (T 13) (.seq (rg [mo 4 (.assign (.const (.int .i64 1)))])
 (.ret))
 (.skip)))
 (.seq (.seq (rg [mo 14 (.move (T 0)),
 mo 15 (.move (T 1)),
 mo 16 (.binOp .lss 2 (T 14) (T 15) 2)])
 (.cond (T 16) (.seq (rg [mo 4 (.assign (.const (.int .i64 (-1))))])
 (.ret))
 (.skip)))
 (.seq (.seq (rg [mo 17 (.move (T 0)),
 mo 18 (.move (T 1)),
 mo 19 (.binOp .gtr 2 (T 17) (T 18) 2)])
 (.cond (T 19) (.seq (rg [mo 4 (.assign (.const (.int .i64 1)))])
 (.ret))
 (.skip)))
 (.seq (rg [mo 4 (.assign (.const (.int .i64 0)))])
 (.ret))))))))
theorem body_68 : Try.f68.body.map strip = some c68 := by kernel_rfl
theorem go_68 : GoC Try.prog 68 20 c68 [(.tmp 4)] :=
  GoC.of (fn := Try.f68) (by kernel_rfl) body_68 (by kernel_rfl) (by kernel_rfl) (by kernel_rfl)
/-! trivet/trivetref13.One -/
noncomputable def o69_0 : Array Oper := drawn Try.f69 0
def l69_0 : List Oper := [mo 82 (.fieldAddr 95 (T 8) 4),
 mo 83 (.load 2 (T 82)),
 mo 84 (.move (T 0)),
 mo 85 (.move (T 9)),
 mo 86 (.binOp .add 3 (T 85) (.const (.int .i64 1)) 3),
 mo 87 (.indexAddr 22 (T 84) (T 86)),
 mo 88 (.load 5 (T 87)),
 mo 89 (.convert 5 2 (T 88)),
 mo 90 (.binOp .mul 2 (.const (.int .i64 256)) (T 89) 2),
 mo 91 (.binOp .add 2 (T 83) (T 90) 2),
 mo 92 (.fieldAddr 95 (T 8) 4),
 mx (.store 2 (T 92) (T 91))]
noncomputable def r69_0 : Code := .region 18 o69_0 true
theorem xr_69_0 {Q : DExit → St → Prop} {s : St} : xs Try.prog 115 r69_0 Q s = NC Try.prog 115 r69_0 Q s := rfl
theorem dr_69_0 {Q : DExit → St → Prop} {s : St} (h : XDraw Try.prog l69_0.toArray (befs o69_0.toList []) [] s.fr Q l69_0 0 s []) : NC Try.prog 115 r69_0 Q s :=
  NC.draw (by kernel_rfl) (by kernel_rfl) (by kernel_rfl) rfl (by kernel_rfl) (by kernel_rfl) h
attribute [go_sem] xr_69_0
noncomputable def c69 : Code :=
 .seq (rg [mo 4 (.alloc 95),
 mo 5 (.assign (.const (.int .i64 0))),
 mo 6 (.assign (.const (.int .i64 0)))])
 (.seq (.seq (rg [mo 12 (.move (T 1)),
 mo 13 (.binOp .lss 3 (T 12) (.const (.int .i64 0)) 3),
 mo 14 (.move (T 13)),
 mg 15 2 false (.move (T 1)),
 mg 16 2 false (.move (T 0)),
 mg 17 2 false (.call ⟨(.builtin .len), #[(T 16)], #[22]⟩),
 mg 18 2 false (.binOp .geq 3 (T 15) (T 17) 3),
 mo 19 (.pick (T 14) (.const (.bool true)) (T 18))])
 (.cond (T 19) (.seq (rg [mo 20 (.build 95 #[]),
 mx (.store 95 (T 4) (T 20)),
 mo 5 (.assign (.const (.int .i64 0))),
 mo 6 (.assign (.const (.int .i64 130)))])
 (.ret))
 (.skip)))
 (.seq (rg [mo 21 (.move (T 0)),
 mo 22 (.move (T 1)),
 mo 23 (.indexAddr 22 (T 21) (T 22)),
 mo 24 (.load 5 (T 23)),
 mo 25 (.convert 5 3 (T 24)),
 mo 26 (.call ⟨(.value (.func 83)), #[(T 25)], #[3]⟩),
 mo 7 (.assign (T 26))])
 (.seq (.seq (rg [mo 27 (.move (T 7)),
 mo 28 (.binOp .eql 3 (T 27) (.const (.int .i64 0)) 3),
 mo 29 (.move (T 28)),
 mg 30 2 false (.move (T 7)),
 mg 31 2 false (.move (T 0)),
 mg 32 2 false (.call ⟨(.builtin .len), #[(T 31)], #[22]⟩),
 mg 33 2 false (.move (T 1)),
 mg 34 2 false (.binOp .sub 3 (T 32) (T 33) 3),
 mg 35 2 false (.binOp .gtr 3 (T 30) (T 34) 3),
 mo 36 (.pick (T 29) (.const (.bool true)) (T 35))])
 (.cond (T 36) (.seq (rg [mo 37 (.build 95 #[]),
 mx (.store 95 (T 4) (T 37)),
 mo 5 (.assign (.const (.int .i64 0))),
 mo 6 (.assign (.const (.int .i64 130)))])
 (.ret))
 (.skip)))
 (.seq (rg [mo 38 (.move (T 1)),
 mo 39 (.move (T 0)),
 mo 40 (.move (T 1)),
 mo 41 (.indexAddr 22 (T 39) (T 40)),
 mo 42 (.load 5 (T 41)),
 mo 43 (.convert 5 3 (T 42)),
 mo 44 (.build 95 #[(0, (T 38)), (1, (T 43))]),
 mo 8 (.alloc 95),
 mx (.store 95 (T 8) (T 44))])
 (.seq (rg [mo 45 (.move (T 1)),
 mo 46 (.binOp .add 3 (T 45) (.const (.int .i64 1)) 3),
 mo 9 (.assign (T 46))])
 (.seq (.seq (rg [mo 47 (.fieldAddr 95 (T 8) 1),
 mo 48 (.load 3 (T 47)),
 mo 49 (.call ⟨(.value (.func 84)), #[(T 48)], #[3]⟩)])
 (.cond (T 49) (.seq (rg [mo 50 (.move (T 0)),
 mo 51 (.move (T 9)),
 mo 52 (.indexAddr 22 (T 50) (T 51)),
 mo 53 (.load 5 (T 52)),
 mo 54 (.convert 5 3 (T 53)),
 mo 55 (.fieldAddr 95 (T 8) 2),
 mx (.store 3 (T 55) (T 54))])
 (rg [mo 56 (.move (T 9)),
 mo 57 (.binOp .add 3 (T 56) (.const (.int .i64 1)) 3),
 mo 9 (.assign (T 57))]))
 (.skip)))
 (.seq (.seq (rg [mo 58 (.fieldAddr 95 (T 8) 1),
 mo 59 (.load 3 (T 58)),
 mo 60 (.call ⟨(.value (.func 85)), #[(T 59)], #[3]⟩)])
 (.cond (T 60) (.seq (rg [mo 61 (.move (T 0)),
 mo 62 (.move (T 9)),
 mo 63 (.indexAddr 22 (T 61) (T 62)),
 mo 64 (.load 5 (T 63)),
 mo 65 (.convert 5 3 (T 64)),
 mo 66 (.fieldAddr 95 (T 8) 3),
 mx (.store 3 (T 66) (T 65))])
 (rg [mo 67 (.move (T 9)),
 mo 68 (.binOp .add 3 (T 67) (.const (.int .i64 1)) 3),
 mo 9 (.assign (T 68))]))
 (.skip)))
 (.seq (rg [mo 69 (.fieldAddr 95 (T 8) 1),
 mo 70 (.load 3 (T 69)),
 mo 71 (.call ⟨(.value (.func 86)), #[(T 70)], #[3]⟩),
 mo 10 (.assign (T 71))])
 (.seq (.seq (rg [mo 72 (.move (T 10)),
 mo 73 (.binOp .geq 3 (T 72) (.const (.int .i64 1)) 3)])
 (.cond (T 73) (rg [mo 74 (.move (T 0)),
 mo 75 (.move (T 9)),
 mo 76 (.indexAddr 22 (T 74) (T 75)),
 mo 77 (.load 5 (T 76)),
 mo 78 (.convert 5 2 (T 77)),
 mo 79 (.fieldAddr 95 (T 8) 4),
 mx (.store 2 (T 79) (T 78))])
 (.skip)))
 (.seq (.seq (rg [mo 80 (.move (T 10)),
 mo 81 (.binOp .eql 3 (T 80) (.const (.int .i64 2)) 3)])
 (.cond (T 81) (.seq (r69_0)
 (.seq (rg [mo 93 (.fieldAddr 95 (T 8) 1),
 mo 94 (.load 3 (T 93)),
 mo 95 (.binOp .eql 3 (T 94) (.const (.int .i64 1)) 3),
 mo 96 (.move (T 95)),
 mg 97 3 true (.fieldAddr 95 (T 8) 4),
 mg 98 3 true (.load 2 (T 97)),
 mg 99 3 true (.binOp .geq 2 (T 98) (.const (.int .i64 32768)) 2),
 mo 100 (.pick (T 96) (T 99) (.const (.bool false)))])
 (.cond (T 100) (rg [mo 101 (.fieldAddr 95 (T 8) 4),
 mo 102 (.load 2 (T 101)),
 mo 103 (.binOp .sub 2 (T 102) (.const (.int .i64 65536)) 2),
 mo 104 (.fieldAddr 95 (T 8) 4),
 mx (.store 2 (T 104) (T 103))])
 (.skip))))
 (.skip)))
 (.seq (.seq (rg [mo 105 (.load 95 (T 8)),
 mo 106 (.call ⟨(.value (.func 87)), #[(T 105)], #[95]⟩),
 mo 11 (.assign (T 106))])
 (.seq (rg [mo 107 (.move (T 11)),
 mo 108 (.binOp .neq 31 (T 107) (.const (.int .i64 0)) 31)])
 (.cond (T 108) (.seq (rg [mo 109 (.build 95 #[]),
 mo 110 (.move (T 11)),
 mx (.store 95 (T 4) (T 109)),
 mo 5 (.assign (.const (.int .i64 0))),
 mo 6 (.assign (T 110))])
 (.ret))
 (.skip))))
 (.seq (rg [mo 111 (.load 95 (T 8)),
 mo 112 (.move (T 1)),
 mo 113 (.move (T 7)),
 mo 114 (.binOp .add 3 (T 112) (T 113) 3),
 mx (.store 95 (T 4) (T 111)),
 mo 5 (.assign (T 114)),
 mo 6 (.assign (.const (.int .i64 0)))])
 (.ret)))))))))))))
theorem body_69 : Try.f69.body.map strip = some c69 := by kernel_rfl
theorem go_69 : GoC Try.prog 69 115 c69 [(.cell 4 95), (.tmp 5), (.tmp 6)] :=
  GoC.of (fn := Try.f69) (by kernel_rfl) body_69 (by kernel_rfl) (by kernel_rfl) (by kernel_rfl)
end Go.Proofs.Ytbdljpndncohaaa

namespace Go.Proofs.Ytbdljpndncohaaa
open Go.D
set_option maxRecDepth 100000
/-! trivet/code.One -/
noncomputable def o70_0 : Array Oper := drawn Try.f70 0
def l70_0 : List Oper := [mo 65 (.move (T 12)),
 mo 66 (.indexAddr 22 (T 65) (.const (.int .i64 0))),
 mo 67 (.load 5 (T 66)),
 mo 68 (.convert 5 3 (T 67)),
 mo 69 (.move (T 12)),
 mo 70 (.slice 22 (T 69) (some (.const (.int .i64 1))) none none),
 mo 71 (.fieldAddr 95 (T 9) 2),
 mx (.store 3 (T 71) (T 68)),
 mo 12 (.assign (T 70))]
noncomputable def r70_0 : Code := .region 10 o70_0 true
noncomputable def o70_1 : Array Oper := drawn Try.f70 1
def l70_1 : List Oper := [mo 75 (.move (T 12)),
 mo 76 (.indexAddr 22 (T 75) (.const (.int .i64 0))),
 mo 77 (.load 5 (T 76)),
 mo 78 (.convert 5 3 (T 77)),
 mo 79 (.move (T 12)),
 mo 80 (.slice 22 (T 79) (some (.const (.int .i64 1))) none none),
 mo 81 (.fieldAddr 95 (T 9) 3),
 mx (.store 3 (T 81) (T 78)),
 mo 12 (.assign (T 80))]
noncomputable def r70_1 : Code := .region 12 o70_1 true
noncomputable def o70_2 : Array Oper := drawn Try.f70 2
def l70_2 : List Oper := [mo 95 (.move (T 12)),
 mo 96 (.indexAddr 22 (T 95) (.const (.int .i64 0))),
 mo 97 (.load 5 (T 96)),
 mo 98 (.convert 5 27 (T 97)),
 mo 99 (.move (T 12)),
 mo 100 (.indexAddr 22 (T 99) (.const (.int .i64 1))),
 mo 101 (.load 5 (T 100)),
 mo 102 (.convert 5 27 (T 101)),
 mo 103 (.binOp .shl 27 (T 102) (.const (.int .u64 8)) 110),
 mo 104 (.binOp .or 27 (T 98) (T 103) 27),
 mo 105 (.convert 27 137 (T 104)),
 mo 106 (.convert 137 2 (T 105)),
 mo 107 (.fieldAddr 95 (T 9) 4),
 mx (.store 2 (T 107) (T 106))]
noncomputable def r70_2 : Code := .region 16 o70_2 true
theorem dr_70_2 {Q : DExit → St → Prop} {s : St} (h : XDraw Try.prog l70_2.toArray (befs o70_2.toList []) [] s.fr Q l70_2 0 s []) : NC Try.prog 132 r70_2 Q s :=
  NC.draw (by kernel_rfl) (by kernel_rfl) (by kernel_rfl) rfl (by kernel_rfl) (by kernel_rfl) h
noncomputable def o70_3 : Array Oper := drawn Try.f70 3
def l70_3 : List Oper := [mo 112 (.move (T 12)),
 mo 113 (.indexAddr 22 (T 112) (.const (.int .i64 0))),
 mo 114 (.load 5 (T 113)),
 mo 115 (.convert 5 27 (T 114)),
 mo 116 (.move (T 12)),
 mo 117 (.indexAddr 22 (T 116) (.const (.int .i64 1))),
 mo 118 (.load 5 (T 117)),
 mo 119 (.convert 5 27 (T 118)),
 mo 120 (.binOp .shl 27 (T 119) (.const (.int .u64 8)) 110),
 mo 121 (.binOp .or 27 (T 115) (T 120) 27),
 mo 122 (.convert 27 2 (T 121)),
 mo 123 (.fieldAddr 95 (T 9) 4),
 mx (.store 2 (T 123) (T 122))]
noncomputable def r70_3 : Code := .region 18 o70_3 true
theorem dr_70_3 {Q : DExit → St → Prop} {s : St} (h : XDraw Try.prog l70_3.toArray (befs o70_3.toList []) [] s.fr Q l70_3 0 s []) : NC Try.prog 132 r70_3 Q s :=
  NC.draw (by kernel_rfl) (by kernel_rfl) (by kernel_rfl) rfl (by kernel_rfl) (by kernel_rfl) h
noncomputable def c70 : Code :=
 .seq (rg [mo 4 (.alloc 95),
 mo 5 (.assign (.const (.int .i64 0))),
 mo 6 (.assign (.const (.int .i64 0)))])
 (.seq (.seq (rg [mo 13 (.move (T 1)),
 mo 14 (.binOp .lss 3 (T 13) (.const (.int .i64 0)) 3),
 mo 15 (.move (T 14)),
 mg 16 2 false (.move (T 1)),
 mg 17 2 false (.move (T 0)),
 mg 18 2 false (.call ⟨(.builtin .len), #[(T 17)], #[22]⟩),
 mg 19 2 false (.binOp .geq 3 (T 16) (T 18) 3),
 mo 20 (.pick (T 15) (.const (.bool true)) (T 19))])
 (.cond (T 20) (.seq (rg [mo 21 (.build 95 #[]),
 mx (.store 95 (T 4) (T 21)),
 mo 5 (.assign (.const (.int .i64 0))),
 mo 6 (.assign (.const (.int .i64 130)))])
 (.ret))
 (.skip)))
 (.seq (rg [mo 23 (.move (T 0)),
 mo 24 (.move (T 1)),
 mo 25 (.indexAddr 22 (T 23) (T 24)),
 mo 26 (.load 5 (T 25)),
 mo 27 (.convert 5 3 (T 26)),
 mo 28 (.call ⟨(.value (.func 88)), #[(T 27)], #[3]⟩),
 mo 22 (.move (T 28)),
 mo 29 (.extract (T 22) 0),
 mo 30 (.extract (T 22) 1),
 mo 7 (.assign (T 29)),
 mo 8 (.assign (T 30))])
 (.seq (.seq (rg [mo 31 (.move (T 8)),
 mo 32 (.unOp .not 4 (T 31)),
 mo 33 (.move (T 32)),
 mg 34 2 false (.move (T 7)),
 mg 35 2 false (.move (T 0)),
 mg 36 2 false (.call ⟨(.builtin .len), #[(T 35)], #[22]⟩),
 mg 37 2 false (.move (T 1)),
 mg 38 2 false (.binOp .sub 3 (T 36) (T 37) 3),
 mg 39 2 false (.binOp .gtr 3 (T 34) (T 38) 3),
 mo 40 (.pick (T 33) (.const (.bool true)) (T 39))])
 (.cond (T 40) (.seq (rg [mo 41 (.build 95 #[]),
 mx (.store 95 (T 4) (T 41)),
 mo 5 (.assign (.const (.int .i64 0))),
 mo 6 (.assign (.const (.int .i64 130)))])
 (.ret))
 (.skip)))
 (.seq (rg [mo 42 (.move (T 1)),
 mo 43 (.move (T 0)),
 mo 44 (.move (T 1)),
 mo 45 (.indexAddr 22 (T 43) (T 44)),
 mo 46 (.load 5 (T 45)),
 mo 47 (.convert 5 3 (T 46)),
 mo 48 (.build 95 #[(0, (T 42)), (1, (T 47))]),
 mo 9 (.alloc 95),
 mx (.store 95 (T 9) (T 48))])
 (.seq (rg [mo 50 (.fieldAddr 95 (T 9) 1),
 mo 51 (.load 3 (T 50)),
 mo 52 (.call ⟨(.value (.func 89)), #[(T 51)], #[3]⟩),
 mo 49 (.move (T 52)),
 mo 53 (.extract (T 49) 0),
 mo 54 (.extract (T 49) 1),
 mo 10 (.assign (T 53)),
 mo 11 (.assign (T 54))])
 (.seq (rg [mo 55 (.move (T 0)),
 mo 56 (.move (T 1)),
 mo 57 (.binOp .add 3 (T 56) (.const (.int .i64 1)) 3),
 mo 58 (.move (T 1)),
 mo 59 (.move (T 7)),
 mo 60 (.binOp .add 3 (T 58) (T 59) 3),
 mo 61 (.slice 22 (T 55) (some (T 57)) (some (T 60)) none),
 mo 12 (.assign (T 61))])
 (.seq (.seq (rg [mo 62 (.move (T 10)),
 mo 63 (.binOp .and 3 (T 62) (.const (.int .i64 1)) 3),
 mo 64 (.binOp .neq 3 (T 63) (.const (.int .i64 0)) 3)])
 (.cond (T 64) (r70_0)
 (.skip)))
 (.seq (.seq (rg [mo 72 (.move (T 10)),
 mo 73 (.binOp .and 3 (T 72) (.const (.int .i64 2)) 3),
 mo 74 (.binOp .neq 3 (T 73) (.const (.int .i64 0)) 3)])
 (.cond (T 74) (r70_1)
 (.skip)))
 (.seq (.block 0 (.seq (rg [mo 83 (.move (T 10)),
 mo 84 (.binOp .and 3 (T 83) (.const (.int .i64 4)) 3),
 mo 85 (.binOp .neq 3 (T 84) (.const (.int .i64 0)) 3),
 mo 82 (.assign (T 85))])
 (.cond (T 82) (rg [mo 86 (.move (T 12)),
 mo 87 (.indexAddr 22 (T 86) (.const (.int .i64 0))),
 mo 88 (.load 5 (T 87)),
 mo 89 (.convert 5 2 (T 88)),
 mo 90 (.fieldAddr 95 (T 9) 4),
 mx (.store 2 (T 90) (T 89))])
 (.seq (rg [mo 92 (.move (T 10)),
 mo 93 (.binOp .and 3 (T 92) (.const (.int .i64 8)) 3),
 mo 94 (.binOp .neq 3 (T 93) (.const (.int .i64 0)) 3),
 mo 91 (.assign (T 94))])
 (.cond (T 91) (r70_2)
 (.seq (rg [mo 109 (.move (T 10)),
 mo 110 (.binOp .and 3 (T 109) (.const (.int .i64 16)) 3),
 mo 111 (.binOp .neq 3 (T 110) (.const (.int .i64 0)) 3),
 mo 108 (.assign (T 111))])
 (.cond (T 108) (r70_3)
 (.skip))))))))
 (.seq (.seq (rg [mo 124 (.load 95 (T 9)),
 mo 125 (.call ⟨(.value (.func 90)), #[(T 124)], #[95]⟩),
 mo 126 (.unOp .not 4 (T 125))])
 (.cond (T 126) (.seq (rg [mo 127 (.build 95 #[]),
 mx (.store 95 (T 4) (T 127)),
 mo 5 (.assign (.const (.int .i64 0))),
 mo 6 (.assign (.const (.int .i64 132)))])
 (.ret))
 (.skip)))
 (.seq (rg [mo 128 (.load 95 (T 9)),
 mo 129 (.move (T 1)),
 mo 130 (.move (T 7)),
 mo 131 (.binOp .add 3 (T 129) (T 130) 3),
 mx (.store 95 (T 4) (T 128)),
 mo 5 (.assign (T 131)),
 mo 6 (.assign (.const (.int .i64 0)))])
 (.ret))))))))))))
theorem body_70 : Try.f70.body.map strip = some c70 := by kernel_rfl
theorem go_70 : GoC Try.prog 70 132 c70 [(.cell 4 95), (.tmp 5), (.tmp 6)] :=
  GoC.of (fn := Try.f70) (by kernel_rfl) body_70 (by kernel_rfl) (by kernel_rfl) (by kernel_rfl)
/-! slices.insertionSortCmpFunc[trivet/api.Key] -/
noncomputable def o71_0 : Array Oper := drawn Try.f71 0
noncomputable def r71_0 : Code := .region 4 o71_0 true
noncomputable def o71_1 : Array Oper := drawn Try.f71 1
noncomputable def r71_1 : Code := .region 6 o71_1 true
noncomputable def c71 : Code :=
 .seq (rg [mo 10 (.move (T 1)),
 mo 11 (.binOp .add 3 (T 10) (.const (.int .i64 1)) 3),
 mo 8 (.assign (T 11))])
 (.block 0 (.loop (.seq (.seq (rg [mo 12 (.move (T 8)),
 mo 13 (.move (T 2)),
 mo 14 (.binOp .lss 3 (T 12) (T 13) 3)])
 (.cond (T 14) (.skip)
 (.exit 0)))
 (.seq (.block 1 (.seq (rg [mo 17 (.move (T 8)),
 mo 9 (.assign (T 17))])
 (.block 2 (.loop (.seq (.seq (r71_0)
 (.cond (T 34) (.skip)
 (.exit 2)))
 (.seq (.block 3 (r71_1))
 (rg [mo 35 (.move (T 9)),
 mo 36 (.binOp .sub 3 (T 35) (.const (.int .i64 1)) 3),
 mo 9 (.assign (T 36))])))))))
 (rg [mo 15 (.move (T 8)),
 mo 16 (.binOp .add 3 (T 15) (.const (.int .i64 1)) 3),
 mo 8 (.assign (T 16))])))))
theorem body_71 : Try.f71.body.map strip = some c71 := by kernel_rfl
theorem go_71 : GoC Try.prog 71 53 c71 [] :=
  GoC.of (fn := Try.f71) (by kernel_rfl) body_71 (by kernel_rfl) (by kernel_rfl) (by kernel_rfl)
end Go.Proofs.Ytbdljpndncohaaa

namespace Go.Proofs.Ytbdljpndncohaaa
open Go.D
set_option maxRecDepth 100000
/-! math/bits.Len64 -/
def c80 : Code :=
 .seq (rg [mo 2 (.assign (.const (.int .i64 0)))])
 (.seq (.seq (rg [mo 3 (.move (T 0)),
 mo 4 (.binOp .geq 130 (T 3) (.const (.int .u64 4294967296)) 130)])
 (.cond (T 4) (.seq (rg [mo 5 (.move (T 0)),
 mo 6 (.binOp .shr 130 (T 5) (.const (.int .u64 32)) 110),
 mo 0 (.assign (T 6))])
 (rg [mo 2 (.assign (.const (.int .i64 32)))]))
 (.skip)))
 (.seq (.seq (rg [mo 7 (.move (T 0)),
 mo 8 (.binOp .geq 130 (T 7) (.const (.int .u64 65536)) 130)])
 (.cond (T 8) (.seq (rg [mo 9 (.move (T 0)),
 mo 10 (.binOp .shr 130 (T 9) (.const (.int .u64 16)) 110),
 mo 0 (.assign (T 10))])
 (rg [mo 11 (.move (T 2)),
 mo 12 (.binOp .add 3 (T 11) (.const (.int .i64 16)) 3),
 mo 2 (.assign (T 12))]))
 (.skip)))
 (.seq (.seq (rg [mo 13 (.move (T 0)),
 mo 14 (.binOp .geq 130 (T 13) (.const (.int .u64 256)) 130)])
 (.cond (T 14) (.seq (rg [mo 15 (.move (T 0)),
 mo 16 (.binOp .shr 130 (T 15) (.const (.int .u64 8)) 110),
 mo 0 (.assign (T 16))])
 (rg [mo 17 (.move (T 2)),
 mo 18 (.binOp .add 3 (T 17) (.const (.int .i64 8)) 3),
 mo 2 (.assign (T 18))]))
 (.skip)))
 (.seq (rg [mo 19 (.move (T 2)),
 mo 20 (.move (T 0)),
 mo 21 (.convert 130 5 (T 20)),
 mo 22 (.index 9 (.const (.string (ByteArray.mk (List.toArray (List.append (List.append [0, 1, 2, 2, 3, 3, 3, 3, 4, 4, 4, 4, 4, 4, 4, 4, 5, 5, 5, 5, 5, 5, 5, 5, 5, 5, 5, 5, 5, 5, 5, 5, 6, 6, 6, 6, 6, 6, 6, 6, 6, 6, 6, 6, 6, 6, 6, 6, 6, 6, 6, 6, 6, 6, 6, 6, 6, 6, 6, 6, 6, 6, 6, 6] [7, 7, 7, 7, 7, 7, 7, 7, 7, 7, 7, 7, 7, 7, 7, 7, 7, 7, 7, 7, 7, 7, 7, 7, 7, 7, 7, 7, 7, 7, 7, 7, 7, 7, 7, 7, 7, 7, 7, 7, 7, 7, 7, 7, 7, 7, 7, 7, 7, 7, 7, 7, 7, 7, 7, 7, 7, 7, 7, 7, 7, 7, 7, 7]) (List.append [8, 8, 8, 8, 8, 8, 8, 8, 8, 8, 8, 8, 8, 8, 8, 8, 8, 8, 8, 8, 8, 8, 8, 8, 8, 8, 8, 8, 8, 8, 8, 8, 8, 8, 8, 8, 8, 8, 8, 8, 8, 8, 8, 8, 8, 8, 8, 8, 8, 8, 8, 8, 8, 8, 8, 8, 8, 8, 8, 8, 8, 8, 8, 8] [8, 8, 8, 8, 8, 8, 8, 8, 8, 8, 8, 8, 8, 8, 8, 8, 8, 8, 8, 8, 8, 8, 8, 8, 8, 8, 8, 8, 8, 8, 8, 8, 8, 8, 8, 8, 8, 8, 8, 8, 8, 8, 8, 8, 8, 8, 8, 8, 8, 8, 8, 8, 8, 8, 8, 8, 8, 8, 8, 8, 8, 8, 8, 8])))))) (T 21)),
 mo 23 (.convert 5 3 (T 22)),
 mo 24 (.binOp .add 3 (T 19) (T 23) 3),
 mo 2 (.assign (T 24))])
 (.ret)))))
theorem body_80 : Try.f80.body.map strip = some c80 := by kernel_rfl
theorem go_80 : GoC Try.prog 80 25 c80 [(.tmp 2)] :=
  GoC.of (fn := Try.f80) (by kernel_rfl) body_80 (by kernel_rfl) (by kernel_rfl) (by kernel_rfl)
/-! cmp.isNaN[int32] -/
def c81 : Code :=
 .seq (rg [mo 2 (.assign (.const (.bool false)))])
 (.seq (rg [mo 3 (.move (T 0)),
 mo 4 (.move (T 0)),
 mo 5 (.binOp .neq 21 (T 3) (T 4) 21),
 mo 2 (.assign (T 5))])
 (.ret))
theorem body_81 : Try.f81.body.map strip = some c81 := by kernel_rfl
theorem go_81 : GoC Try.prog 81 6 c81 [(.tmp 2)] :=
  GoC.of (fn := Try.f81) (by kernel_rfl) body_81 (by kernel_rfl) (by kernel_rfl) (by kernel_rfl)
/-! cmp.isNaN[int64] -/
def c82 : Code :=
 .seq (rg [mo 2 (.assign (.const (.bool false)))])
 (.seq (rg [mo 3 (.move (T 0)),
 mo 4 (.move (T 0)),
 mo 5 (.binOp .neq 2 (T 3) (T 4) 2),
 mo 2 (.assign (T 5))])
 (.ret))
theorem body_82 : Try.f82.body.map strip = some c82 := by kernel_rfl
theorem go_82 : GoC Try.prog 82 6 c82 [(.tmp 2)] :=
  GoC.of (fn := Try.f82) (by kernel_rfl) body_82 (by kernel_rfl) (by kernel_rfl) (by kernel_rfl)
/-! trivet/trivetref13.Size -/
def c83 : Code :=
 .seq (rg [mo 2 (.assign (.const (.int .i64 0)))])
 (.seq (.seq (rg [mo 3 (.move (T 0))])
 (.block 0 (.seq (rg [mo 5 (.binOp .eql 3 (T 3) (.const (.int .i64 0)) 3),
 mo 4 (.assign (T 5))])
 (.cond (T 4) (.seq (rg [mo 2 (.assign (.const (.int .i64 1)))])
 (.ret))
 (.seq (.seq (rg [mo 7 (.binOp .eql 3 (T 3) (.const (.int .i64 6)) 3),
 mo 6 (.assign (T 7))])
 (.cond (T 6) (.skip)
 (.seq (rg [mo 8 (.binOp .eql 3 (T 3) (.const (.int .i64 24)) 3),
 mo 6 (.assign (T 8))])
 (.cond (T 6) (.skip)
 (rg [mo 9 (.binOp .eql 3 (T 3) (.const (.int .i64 25)) 3),
 mo 6 (.assign (T 9))])))))
 (.cond (T 6) (.seq (rg [mo 2 (.assign (.const (.int .i64 2)))])
 (.ret))
 (.seq (.seq (rg [mo 11 (.binOp .eql 3 (T 3) (.const (.int .i64 2)) 3),
 mo 10 (.assign (T 11))])
 (.cond (T 10) (.skip)
 (.seq (rg [mo 12 (.binOp .eql 3 (T 3) (.const (.int .i64 3)) 3),
 mo 10 (.assign (T 12))])
 (.cond (T 10) (.skip)
 (.seq (rg [mo 13 (.binOp .eql 3 (T 3) (.const (.int .i64 4)) 3),
 mo 10 (.assign (T 13))])
 (.cond (T 10) (.skip)
 (.seq (rg [mo 14 (.binOp .eql 3 (T 3) (.const (.int .i64 5)) 3),
 mo 10 (.assign (T 14))])
 (.cond (T 10) (.skip)
 (.seq (rg [mo 15 (.binOp .eql 3 (T 3) (.const (.int .i64 19)) 3),
 mo 10 (.assign (T 15))])
 (.cond (T 10) (.skip)
 (rg [mo 16 (.binOp .eql 3 (T 3) (.const (.int .i64 22)) 3),
 mo 10 (.assign (T 16))])))))))))))
 (.cond (T 10) (.seq (rg [mo 2 (.assign (.const (.int .i64 3)))])
 (.ret))
 (.seq (.seq (rg [mo 18 (.binOp .eql 3 (T 3) (.const (.int .i64 1)) 3),
 mo 17 (.assign (T 18))])
 (.cond (T 17) (.skip)
 (.seq (rg [mo 19 (.binOp .eql 3 (T 3) (.const (.int .i64 23)) 3),
 mo 17 (.assign (T 19))])
 (.cond (T 17) (.skip)
 (.seq (rg [mo 20 (.binOp .eql 3 (T 3) (.const (.int .i64 26)) 3),
 mo 17 (.assign (T 20))])
 (.cond (T 17) (.skip)
 (rg [mo 21 (.binOp .eql 3 (T 3) (.const (.int .i64 27)) 3),
 mo 17 (.assign (T 21))])))))))
 (.cond (T 17) (.seq (rg [mo 2 (.assign (.const (.int .i64 4)))])
 (.ret))
 (.skip)))))))))))
 (.seq (.seq (rg [mo 22 (.move (T 0)),
 mo 23 (.binOp .geq 3 (T 22) (.const (.int .i64 7)) 3),
 mo 24 (.move (T 23)),
 mg 25 2 true (.move (T 0)),
 mg 26 2 true (.binOp .leq 3 (T 25) (.const (.int .i64 21)) 3),
 mo 27 (.pick (T 24) (T 26) (.const (.bool false)))])
 (.cond (T 27) (.seq (rg [mo 2 (.assign (.const (.int .i64 3)))])
 (.ret))
 (.skip)))
 (.seq (rg [mo 2 (.assign (.const (.int .i64 0)))])
 (.ret))))
theorem body_83 : Try.f83.body.map strip = some c83 := by kernel_rfl
theorem go_83 : GoC Try.prog 83 28 c83 [(.tmp 2)] :=
  GoC.of (fn := Try.f83) (by kernel_rfl) body_83 (by kernel_rfl) (by kernel_rfl) (by kernel_rfl)
/-! trivet/trivetref13.first -/
def c84 : Code :=
 .seq (rg [mo 2 (.assign (.const (.bool false)))])
 (.seq (rg [mo 3 (.move (T 0)),
 mo 4 (.binOp .neq 3 (T 3) (.const (.int .i64 0)) 3),
 mo 5 (.move (T 4)),
 mg 6 2 true (.move (T 0)),
 mg 7 2 true (.binOp .neq 3 (T 6) (.const (.int .i64 6)) 3),
 mo 8 (.pick (T 5) (T 7) (.const (.bool false))),
 mo 9 (.move (T 8)),
 mg 10 6 true (.move (T 0)),
 mg 11 6 true (.binOp .neq 3 (T 10) (.const (.int .i64 22)) 3),
 mo 12 (.pick (T 9) (T 11) (.const (.bool false))),
 mo 13 (.move (T 12)),
 mg 14 10 true (.move (T 0)),
 mg 15 10 true (.binOp .neq 3 (T 14) (.const (.int .i64 25)) 3),
 mo 16 (.pick (T 13) (T 15) (.const (.bool false))),
 mo 2 (.assign (T 16))])
 (.ret))
theorem body_84 : Try.f84.body.map strip = some c84 := by kernel_rfl
theorem go_84 : GoC Try.prog 84 17 c84 [(.tmp 2)] :=
  GoC.of (fn := Try.f84) (by kernel_rfl) body_84 (by kernel_rfl) (by kernel_rfl) (by kernel_rfl)
/-! trivet/trivetref13.two -/
def c85 : Code :=
 .seq (rg [mo 2 (.assign (.const (.bool false)))])
 (.seq (rg [mo 3 (.move (T 0)),
 mo 4 (.binOp .geq 3 (T 3) (.const (.int .i64 7)) 3),
 mo 5 (.move (T 4)),
 mg 6 2 true (.move (T 0)),
 mg 7 2 true (.binOp .leq 3 (T 6) (.const (.int .i64 18)) 3),
 mo 8 (.pick (T 5) (T 7) (.const (.bool false))),
 mo 9 (.move (T 8)),
 mg 10 6 false (.move (T 0)),
 mg 11 6 false (.binOp .eql 3 (T 10) (.const (.int .i64 20)) 3),
 mo 12 (.pick (T 9) (.const (.bool true)) (T 11)),
 mo 13 (.move (T 12)),
 mg 14 10 false (.move (T 0)),
 mg 15 10 false (.binOp .eql 3 (T 14) (.const (.int .i64 21)) 3),
 mo 16 (.pick (T 13) (.const (.bool true)) (T 15)),
 mo 17 (.move (T 16)),
 mg 18 14 false (.move (T 0)),
 mg 19 14 false (.binOp .eql 3 (T 18) (.const (.int .i64 26)) 3),
 mo 20 (.pick (T 17) (.const (.bool true)) (T 19)),
 mo 21 (.move (T 20)),
 mg 22 18 false (.move (T 0)),
 mg 23 18 false (.binOp .eql 3 (T 22) (.const (.int .i64 27)) 3),
 mo 24 (.pick (T 21) (.const (.bool true)) (T 23)),
 mo 2 (.assign (T 24))])
 (.ret))
theorem body_85 : Try.f85.body.map strip = some c85 := by kernel_rfl
theorem go_85 : GoC Try.prog 85 25 c85 [(.tmp 2)] :=
  GoC.of (fn := Try.f85) (by kernel_rfl) body_85 (by kernel_rfl) (by kernel_rfl) (by kernel_rfl)
/-! trivet/trivetref13.wide -/
def c86 : Code :=
 .seq (rg [mo 2 (.assign (.const (.int .i64 0)))])
 (.seq (rg [mo 4 (.move (T 0)),
 mo 5 (.call ⟨(.value (.func 83)), #[(T 4)], #[3]⟩),
 mo 6 (.binOp .sub 3 (T 5) (.const (.int .i64 1)) 3),
 mo 3 (.assign (T 6))])
 (.seq (.seq (rg [mo 7 (.move (T 0)),
 mo 8 (.call ⟨(.value (.func 84)), #[(T 7)], #[3]⟩)])
 (.cond (T 8) (rg [mo 9 (.move (T 3)),
 mo 10 (.binOp .sub 3 (T 9) (.const (.int .i64 1)) 3),
 mo 3 (.assign (T 10))])
 (.skip)))
 (.seq (.seq (rg [mo 11 (.move (T 0)),
 mo 12 (.call ⟨(.value (.func 85)), #[(T 11)], #[3]⟩)])
 (.cond (T 12) (rg [mo 13 (.move (T 3)),
 mo 14 (.binOp .sub 3 (T 13) (.const (.int .i64 1)) 3),
 mo 3 (.assign (T 14))])
 (.skip)))
 (.seq (rg [mo 15 (.move (T 3)),
 mo 2 (.assign (T 15))])
 (.ret)))))
theorem body_86 : Try.f86.body.map strip = some c86 := by kernel_rfl
theorem go_86 : GoC Try.prog 86 16 c86 [(.tmp 2)] :=
  GoC.of (fn := Try.f86) (by kernel_rfl) body_86 (by kernel_rfl) (by kernel_rfl) (by kernel_rfl)
/-! trivet/trivetref13.index -/
def c87 : Code :=
 .seq (rg [mo 1 (.box 95 (T 0)),
 mo 2 (.assign (.const (.int .i64 0)))])
 (.seq (.seq (rg [mo 3 (.fieldAddr 95 (T 1) 1),
 mo 4 (.load 3 (T 3)),
 mo 5 (.call ⟨(.value (.func 84)), #[(T 4)], #[3]⟩),
 mo 6 (.move (T 5)),
 mg 7 3 true (.fieldAddr 95 (T 1) 2),
 mg 8 3 true (.load 3 (T 7)),
 mg 9 3 true (.binOp .lss 3 (T 8) (.const (.int .i64 0)) 3),
 mg 10 3 true (.move (T 9)),
 mg 11 7 false (.fieldAddr 95 (T 1) 2),
 mg 12 7 false (.load 3 (T 11)),
 mg 13 7 false (.binOp .geq 3 (T 12) (.const (.int .i64 8)) 3),
 mg 14 3 true (.pick (T 10) (.const (.bool true)) (T 13)),
 mo 15 (.pick (T 6) (T 14) (.const (.bool false))),
 mo 16 (.move (T 15)),
 mg 17 13 false (.fieldAddr 95 (T 1) 1),
 mg 18 13 false (.load 3 (T 17)),
 mg 19 13 false (.call ⟨(.value (.func 85)), #[(T 18)], #[3]⟩),
 mg 20 13 false (.move (T 19)),
 mg 21 17 true (.fieldAddr 95 (T 1) 3),
 mg 22 17 true (.load 3 (T 21)),
 mg 23 17 true (.binOp .lss 3 (T 22) (.const (.int .i64 0)) 3),
 mg 24 17 true (.move (T 23)),
 mg 25 21 false (.fieldAddr 95 (T 1) 3),
 mg 26 21 false (.load 3 (T 25)),
 mg 27 21 false (.binOp .geq 3 (T 26) (.const (.int .i64 8)) 3),
 mg 28 17 true (.pick (T 24) (.const (.bool true)) (T 27)),
 mg 29 13 false (.pick (T 20) (T 28) (.const (.bool false))),
 mo 30 (.pick (T 16) (.const (.bool true)) (T 29))])
 (.cond (T 30) (.seq (rg [mo 2 (.assign (.const (.int .i64 132)))])
 (.ret))
 (.skip)))
 (.seq (.seq (rg [mo 31 (.fieldAddr 95 (T 1) 1),
 mo 32 (.load 3 (T 31)),
 mo 33 (.binOp .eql 3 (T 32) (.const (.int .i64 19)) 3),
 mo 34 (.move (T 33)),
 mg 35 3 true (.fieldAddr 95 (T 1) 4),
 mg 36 3 true (.load 2 (T 35)),
 mg 37 3 true (.binOp .neq 2 (T 36) (.const (.int .i64 8)) 2),
 mo 38 (.pick (T 34) (T 37) (.const (.bool false))),
 mo 39 (.move (T 38)),
 mg 40 8 true (.fieldAddr 95 (T 1) 4),
 mg 41 8 true (.load 2 (T 40)),
 mg 42 8 true (.binOp .neq 2 (T 41) (.const (.int .i64 16)) 2),
 mo 43 (.pick (T 39) (T 42) (.const (.bool false))),
 mo 44 (.move (T 43)),
 mg 45 13 true (.fieldAddr 95 (T 1) 4),
 mg 46 13 true (.load 2 (T 45)),
 mg 47 13 true (.binOp .neq 2 (T 46) (.const (.int .i64 32)) 2),
 mo 48 (.pick (T 44) (T 47) (.const (.bool false)))])
 (.cond (T 48) (.seq (rg [mo 2 (.assign (.const (.int .i64 132)))])
 (.ret))
 (.skip)))
 (.seq (rg [mo 2 (.assign (.const (.int .i64 0)))])
 (.ret))))
theorem body_87 : Try.f87.body.map strip = some c87 := by kernel_rfl
theorem go_87 : GoC Try.prog 87 49 c87 [(.tmp 2)] :=
  GoC.of (fn := Try.f87) (by kernel_rfl) body_87 (by kernel_rfl) (by kernel_rfl) (by kernel_rfl)
/-! trivet/code.Size -/
def c88 : Code :=
 .seq (rg [mo 2 (.assign (.const (.int .i64 0))),
 mo 3 (.assign (.const (.bool false)))])
 (.seq (rg [mo 10 (.move (T 0)),
 mo 11 (.call ⟨(.value (.func 89)), #[(T 10)], #[3]⟩),
 mo 9 (.move (T 11)),
 mo 12 (.extract (T 9) 0),
 mo 13 (.extract (T 9) 1),
 mo 4 (.assign (T 12)),
 mo 5 (.assign (T 13))])
 (.seq (.seq (rg [mo 14 (.move (T 5)),
 mo 15 (.unOp .not 4 (T 14))])
 (.cond (T 15) (.seq (rg [mo 2 (.assign (.const (.int .i64 0))),
 mo 3 (.assign (.const (.bool false)))])
 (.ret))
 (.skip)))
 (.seq (rg [mo 6 (.assign (.const (.int .i64 1)))])
 (.seq (.seq (rg [mo 16 (.build 144 #[(0, (.const (.int .i64 1))), (1, (.const (.int .i64 1)))]),
 mo 17 (.build 144 #[(0, (.const (.int .i64 2))), (1, (.const (.int .i64 1)))]),
 mo 18 (.build 144 #[(0, (.const (.int .i64 4))), (1, (.const (.int .i64 1)))]),
 mo 19 (.build 144 #[(0, (.const (.int .i64 8))), (1, (.const (.int .i64 2)))]),
 mo 20 (.build 144 #[(0, (.const (.int .i64 16))), (1, (.const (.int .i64 2)))]),
 mo 21 (.build 145 #[(0, (T 16)), (1, (T 17)), (2, (T 18)), (3, (T 19)), (4, (T 20))]),
 mo 22 (.move (.const (.int .i64 0)))])
 (.block 0 (.loop (.seq (rg [mo 23 (.binOp .lss 3 (T 22) (.const (.int .i64 5)) 3)])
 (.seq (.cond (T 23) (.skip)
 (.exit 0))
 (.seq (.block 1 (.seq (rg [mo 24 (.index 145 (T 21) (T 22)),
 mo 8 (.alloc 144),
 mx (.store 144 (T 8) (T 24))])
 (.seq (rg [mo 25 (.move (T 4)),
 mo 26 (.indexAddr 144 (T 8) (.const (.int .i64 0))),
 mo 27 (.load 3 (T 26)),
 mo 28 (.binOp .and 3 (T 25) (T 27) 3),
 mo 29 (.binOp .neq 3 (T 28) (.const (.int .i64 0)) 3)])
 (.cond (T 29) (rg [mo 30 (.move (T 6)),
 mo 31 (.indexAddr 144 (T 8) (.const (.int .i64 1))),
 mo 32 (.load 3 (T 31)),
 mo 33 (.binOp .add 3 (T 30) (T 32) 3),
 mo 6 (.assign (T 33))])
 (.skip)))))
 (rg [mo 34 (.binOp .add 3 (T 22) (.const (.int .i64 1)) 3),
 mo 22 (.move (T 34))])))))))
 (.seq (rg [mo 35 (.move (T 6)),
 mo 2 (.assign (T 35)),
 mo 3 (.assign (.const (.bool true)))])
 (.ret))))))
theorem body_88 : Try.f88.body.map strip = some c88 := by kernel_rfl
theorem go_88 : GoC Try.prog 88 36 c88 [(.tmp 2), (.tmp 3)] :=
  GoC.of (fn := Try.f88) (by kernel_rfl) body_88 (by kernel_rfl) (by kernel_rfl) (by kernel_rfl)
/-! trivet/code.form -/
def c89 : Code :=
 .seq (rg [mo 2 (.assign (.const (.int .i64 0))),
 mo 3 (.assign (.const (.bool false)))])
 (.seq (rg [mo 5 (.build 146 #[(0, (.const (.int .i64 0))), (1, (.const (.int .i64 9))), (2, (.const (.int .i64 5))), (3, (.const (.int .i64 5))), (4, (.const (.int .i64 5))), (5, (.const (.int .i64 5))), (6, (.const (.int .i64 4))), (7, (.const (.int .i64 3))), (8, (.const (.int .i64 3))), (9, (.const (.int .i64 3))), (10, (.const (.int .i64 3))), (11, (.const (.int .i64 3))), (12, (.const (.int .i64 3))), (13, (.const (.int .i64 3))), (14, (.const (.int .i64 3))), (15, (.const (.int .i64 3))), (16, (.const (.int .i64 3))), (17, (.const (.int .i64 3))), (18, (.const (.int .i64 3))), (19, (.const (.int .i64 5))), (20, (.const (.int .i64 3))), (21, (.const (.int .i64 3))), (22, (.const (.int .i64 16))), (23, (.const (.int .i64 17))), (24, (.const (.int .i64 1))), (25, (.const (.int .i64 4))), (26, (.const (.int .i64 7))), (27, (.const (.int .i64 7)))]),
 mo 4 (.alloc 146),
 mx (.store 146 (T 4) (T 5))])
 (.seq (.seq (rg [mo 6 (.move (T 0)),
 mo 7 (.binOp .lss 3 (T 6) (.const (.int .i64 0)) 3),
 mo 8 (.move (T 7)),
 mg 9 2 false (.move (T 0)),
 mg 10 2 false (.binOp .geq 3 (T 9) (.const (.int .i64 28)) 3),
 mo 11 (.pick (T 8) (.const (.bool true)) (T 10))])
 (.cond (T 11) (.seq (rg [mo 2 (.assign (.const (.int .i64 0))),
 mo 3 (.assign (.const (.bool false)))])
 (.ret))
 (.skip)))
 (.seq (rg [mo 12 (.move (T 0)),
 mo 13 (.indexAddr 146 (T 4) (T 12)),
 mo 14 (.load 3 (T 13)),
 mo 2 (.assign (T 14)),
 mo 3 (.assign (.const (.bool true)))])
 (.ret))))
theorem body_89 : Try.f89.body.map strip = some c89 := by kernel_rfl
theorem go_89 : GoC Try.prog 89 15 c89 [(.tmp 2), (.tmp 3)] :=
  GoC.of (fn := Try.f89) (by kernel_rfl) body_89 (by kernel_rfl) (by kernel_rfl) (by kernel_rfl)
/-! trivet/code.index -/
def c90 : Code :=
 .seq (rg [mo 1 (.box 95 (T 0)),
 mo 2 (.assign (.const (.bool false)))])
 (.seq (rg [mo 3 (.fieldAddr 95 (T 1) 2),
 mo 4 (.load 3 (T 3)),
 mo 5 (.binOp .geq 3 (T 4) (.const (.int .i64 0)) 3),
 mo 6 (.move (T 5)),
 mg 7 3 true (.fieldAddr 95 (T 1) 2),
 mg 8 3 true (.load 3 (T 7)),
 mg 9 3 true (.binOp .lss 3 (T 8) (.const (.int .i64 8)) 3),
 mo 10 (.pick (T 6) (T 9) (.const (.bool false))),
 mo 11 (.move (T 10)),
 mg 12 8 true (.fieldAddr 95 (T 1) 3),
 mg 13 8 true (.load 3 (T 12)),
 mg 14 8 true (.binOp .geq 3 (T 13) (.const (.int .i64 0)) 3),
 mo 15 (.pick (T 11) (T 14) (.const (.bool false))),
 mo 16 (.move (T 15)),
 mg 17 13 true (.fieldAddr 95 (T 1) 3),
 mg 18 13 true (.load 3 (T 17)),
 mg 19 13 true (.binOp .lss 3 (T 18) (.const (.int .i64 8)) 3),
 mo 20 (.pick (T 16) (T 19) (.const (.bool false))),
 mo 21 (.move (T 20)),
 mg 22 18 true (.fieldAddr 95 (T 1) 1),
 mg 23 18 true (.load 3 (T 22)),
 mg 24 18 true (.binOp .neq 3 (T 23) (.const (.int .i64 19)) 3),
 mg 25 18 true (.move (T 24)),
 mg 26 22 false (.fieldAddr 95 (T 1) 4),
 mg 27 22 false (.load 2 (T 26)),
 mg 28 22 false (.binOp .eql 2 (T 27) (.const (.int .i64 8)) 2),
 mg 29 18 true (.pick (T 25) (.const (.bool true)) (T 28)),
 mg 30 18 true (.move (T 29)),
 mg 31 27 false (.fieldAddr 95 (T 1) 4),
 mg 32 27 false (.load 2 (T 31)),
 mg 33 27 false (.binOp .eql 2 (T 32) (.const (.int .i64 16)) 2),
 mg 34 18 true (.pick (T 30) (.const (.bool true)) (T 33)),
 mg 35 18 true (.move (T 34)),
 mg 36 32 false (.fieldAddr 95 (T 1) 4),
 mg 37 32 false (.load 2 (T 36)),
 mg 38 32 false (.binOp .eql 2 (T 37) (.const (.int .i64 32)) 2),
 mg 39 18 true (.pick (T 35) (.const (.bool true)) (T 38)),
 mo 40 (.pick (T 21) (T 39) (.const (.bool false))),
 mo 2 (.assign (T 40))])
 (.ret))
theorem body_90 : Try.f90.body.map strip = some c90 := by kernel_rfl
theorem go_90 : GoC Try.prog 90 41 c90 [(.tmp 2)] :=
  GoC.of (fn := Try.f90) (by kernel_rfl) body_90 (by kernel_rfl) (by kernel_rfl) (by kernel_rfl)
end Go.Proofs.Ytbdljpndncohaaa

namespace Go.Proofs.Ytbdljpndncohaaa
open Go.D
set_option maxRecDepth 100000

theorem clone_u8 {h : DHeap} {b : Value} {l : List Int} (hb : Arg fU8.rep h b l) (hl : l.length ≤ 4294967296) : DC Try.prog 50 [b] h (.ret (cloneV h b l)) (cloneH fU8 h b l) := by
  refine Ct.cloned hb (go_50 (by simp) ?_)
  simp -implicitDefEqProofs (disch:=first|omega|simp only [go_sem,Nat.reduceAdd]) only [go_sem,Int.reduceLT,Int.reduceLE,Int.reduceEq,reduceIte, c50, hb.nilEq isl_22]
  refine XIf_split (fun hn => ?_) (fun hn => ?_)
  · simp -implicitDefEqProofs (disch:=first|omega|simp only [go_sem,Nat.reduceAdd]) only [go_sem,Int.reduceLT,Int.reduceLE,Int.reduceEq,reduceIte]
    obtain ⟨_, rfl⟩ := isNilV_nil hb hn
    exact ⟨_, rfl, _, rfl, .nil _ (.refl h), hn.symm⟩
  · have m0 : Made fU8 h (h.push (.row [] 1 false)) (.slice (some ⟨h.next, 0, none⟩) 0 0) [] := .none0 fU8 (.refl h) rfl
    obtain ⟨v2, h2, e2, m2, k2⟩ := m0.append app_22 (hb.ext (Ext.push1 _ _)) (by simpa using hl) (by decide)
    simp -implicitDefEqProofs (disch:=first|omega|simp only [go_sem,Nat.reduceAdd]) only [go_sem,Int.reduceLT,Int.reduceLE,Int.reduceEq,reduceIte, e2]
    exact ⟨_, rfl, _, rfl, m2, (m0.isNil_append rfl m2 fun hk => (k2 hk).1).trans hn.symm⟩

end Go.Proofs.Ytbdljpndncohaaa

namespace Go.Proofs.Ytbdljpndncohaaa
open Go.D
set_option maxRecDepth 100000

end Go.Proofs.Ytbdljpndncohaaa

namespace Go.Proofs.Ytbdljpndncohaaa
open Go.D
set_option maxRecDepth 100000

end Go.Proofs.Ytbdljpndncohaaa

namespace Go.Proofs.Ytbdljpndncohaaa
open Go.D
set_option maxRecDepth 100000

theorem nan32_c {h : DHeap} {n : Int} : DC Try.prog 81 [.int .i32 n] h (.ret (.bool false)) h := by
  refine Ct.pure (go_81 (by simp) ?_) (vin_bool _)
  simp -implicitDefEqProofs (disch:=first|omega|simp only [go_sem,Nat.reduceAdd]) only [go_sem,Int.reduceLT,Int.reduceLE,Int.reduceEq,reduceIte, c81]
  exact ⟨_, rfl, rfl, .refl h⟩
theorem nan64_c {h : DHeap} {n : Int} : DC Try.prog 82 [.int .i64 n] h (.ret (.bool false)) h := by
  refine Ct.pure (go_82 (by simp) ?_) (vin_bool _)
  simp -implicitDefEqProofs (disch:=first|omega|simp only [go_sem,Nat.reduceAdd]) only [go_sem,Int.reduceLT,Int.reduceLE,Int.reduceEq,reduceIte, c82]
  exact ⟨_, rfl, rfl, .refl h⟩
def cmpI (a b : Int) : Int := if a < b then -1 else if b < a then 1 else 0
theorem cmp32_c {h : DHeap} {a b : Int} : DC Try.prog 67 [.int .i32 a, .int .i32 b] h (.ret (.int .i64 (cmpI a b))) h := by
  refine Ct.pure (go_67 (by simp) ?_) (vin_int _ _)
  unfold cmpI
  simp -implicitDefEqProofs (disch:=first|omega|simp only [go_sem,Nat.reduceAdd]) only [go_sem,Int.reduceLT,Int.reduceLE,Int.reduceEq,reduceIte, c67]
  refine ncall nan32_c ?_
  simp -implicitDefEqProofs (disch:=first|omega|simp only [go_sem,Nat.reduceAdd]) only [go_sem,Int.reduceLT,Int.reduceLE,Int.reduceEq,reduceIte]
  refine ncall nan32_c ?_
  by_cases h0 : a < b
  · simp -implicitDefEqProofs (disch:=first|omega|simp only [go_sem,Nat.reduceAdd]) only [go_sem,Int.reduceLT,Int.reduceLE,Int.reduceEq,reduceIte, h0]
    exact ⟨_, rfl, rfl, .refl h⟩
  by_cases h1 : b < a
  · simp -implicitDefEqProofs (disch:=first|omega|simp only [go_sem,Nat.reduceAdd]) only [go_sem,Int.reduceLT,Int.reduceLE,Int.reduceEq,reduceIte, h0, gt_iff_lt, h1]
    exact ⟨_, rfl, rfl, .refl h⟩
  · simp -implicitDefEqProofs (disch:=first|omega|simp only [go_sem,Nat.reduceAdd]) only [go_sem,Int.reduceLT,Int.reduceLE,Int.reduceEq,reduceIte, h0, gt_iff_lt, h1]
    exact ⟨_, rfl, rfl, .refl h⟩
theorem cmp64_c {h : DHeap} {a b : Int} : DC Try.prog 68 [.int .i64 a, .int .i64 b] h (.ret (.int .i64 (cmpI a b))) h := by
  refine Ct.pure (go_68 (by simp) ?_) (vin_int _ _)
  unfold cmpI
  simp -implicitDefEqProofs (disch:=first|omega|simp only [go_sem,Nat.reduceAdd]) only [go_sem,Int.reduceLT,Int.reduceLE,Int.reduceEq,reduceIte, c68]
  refine ncall nan64_c ?_
  simp -implicitDefEqProofs (disch:=first|omega|simp only [go_sem,Nat.reduceAdd]) only [go_sem,Int.reduceLT,Int.reduceLE,Int.reduceEq,reduceIte]
  refine ncall nan64_c ?_
  by_cases h0 : a < b
  · simp -implicitDefEqProofs (disch:=first|omega|simp only [go_sem,Nat.reduceAdd]) only [go_sem,Int.reduceLT,Int.reduceLE,Int.reduceEq,reduceIte, h0]
    exact ⟨_, rfl, rfl, .refl h⟩
  by_cases h1 : b < a
  · simp -implicitDefEqProofs (disch:=first|omega|simp only [go_sem,Nat.reduceAdd]) only [go_sem,Int.reduceLT,Int.reduceLE,Int.reduceEq,reduceIte, h0, gt_iff_lt, h1]
    exact ⟨_, rfl, rfl, .refl h⟩
  · simp -implicitDefEqProofs (disch:=first|omega|simp only [go_sem,Nat.reduceAdd]) only [go_sem,Int.reduceLT,Int.reduceLE,Int.reduceEq,reduceIte, h0, gt_iff_lt, h1]
    exact ⟨_, rfl, rfl, .refl h⟩
def orI : List Int → Int
  | [] => 0
  | a :: l => if a = 0 then orI l else a
theorem or_c {h : DHeap} {b : Value} {l : List Int} (hb : Arg fI64.rep h b l) (hlen : l.length ≤ 4294967296) : DC Try.prog 66 [b] h (.ret (.int .i64 (orI l))) h := by
  refine Ct.pure (go_66 (by simp) ?_) (vin_int _ _)
  have el := hb.dLen (P := Try.prog) (ts := #[131]) (t := 131) rfl isl_131
  simp -implicitDefEqProofs (disch:=first|omega|simp only [go_sem,Nat.reduceAdd]) only [go_sem,Int.reduceLT,Int.reduceLE,Int.reduceEq,reduceIte, c66, el]
  refine xloop (σ := Nat) (by kernel_rfl) (fun i s => s.df = [] ∧ s.h = h ∧ s.fr 3 = some (.int .i64 0) ∧ s.fr 6 = some b ∧ s.fr 7 = some (.int .i64 l.length) ∧ s.fr 8 = some (.int .i64 (i : Nat)) ∧ i ≤ l.length ∧ orI (l.drop i) = orI l) (fun i => l.length - i) 0 ?_ ?_
  · simp -implicitDefEqProofs (disch:=first|omega|simp only [go_sem,Nat.reduceAdd]) only [go_sem,Int.reduceLT,Int.reduceLE,Int.reduceEq,reduceIte]
    exact ⟨by trivial, by trivial, by trivial, by trivial, by trivial, by trivial, Nat.zero_le _, by rw [List.drop_zero]⟩
  · rintro i ⟨fr, df, hh, rd⟩ K hK hX ⟨rfl, rfl, h3, h6, h7, h8, hi, ho⟩
    simp only at h3 h6 h7 h8
    simp -implicitDefEqProofs (disch:=first|omega|simp only [go_sem,Nat.reduceAdd]) only [go_sem,Int.reduceLT,Int.reduceLE,Int.reduceEq,reduceIte, h3, h6, h7, h8]
    refine XIf_dec (fun hc1 => ?_) (fun hc1 => ?_)
    · have hj : i < l.length := by omega
      obtain ⟨id2, o2, e2, _, hat2⟩ := hb.idx (P := Try.prog) (t := 131) el_131 (k := .i64) (i := i) (x := l[i]) (by simp)
      have hw := wrap_succ hj (by omega)
      rw [List.drop_eq_getElem_cons hj] at ho
      by_cases hx : l[i] = 0
      · simp -implicitDefEqProofs (disch:=first|omega|simp only [go_sem,Nat.reduceAdd]) only [go_sem,Int.reduceLT,Int.reduceLE,Int.reduceEq,reduceIte, h3, h6, h7, h8, e2, hat2.int, hx, hw]
        refine hK (i + 1) _ ?_ (by omega)
        exact ⟨by trivial, by trivial, by simp -implicitDefEqProofs (disch:=first|omega|simp only [go_sem,Nat.reduceAdd]) only [go_sem,Int.reduceLT,Int.reduceLE,Int.reduceEq,reduceIte, h3], by simp -implicitDefEqProofs (disch:=first|omega|simp only [go_sem,Nat.reduceAdd]) only [go_sem,Int.reduceLT,Int.reduceLE,Int.reduceEq,reduceIte, h6], by simp -implicitDefEqProofs (disch:=first|omega|simp only [go_sem,Nat.reduceAdd]) only [go_sem,Int.reduceLT,Int.reduceLE,Int.reduceEq,reduceIte, h7], vz, by omega, by rw [← ho, orI, if_pos hx]⟩
      · simp -implicitDefEqProofs (disch:=first|omega|simp only [go_sem,Nat.reduceAdd]) only [go_sem,Int.reduceLT,Int.reduceLE,Int.reduceEq,reduceIte, h3, h6, h7, h8, e2, hat2.int, hx, hw]
        refine hX _ _ (by simp) ?_
        simp -implicitDefEqProofs (disch:=first|omega|simp only [go_sem,Nat.reduceAdd]) only [go_sem,Int.reduceLT,Int.reduceLE,Int.reduceEq,reduceIte]
        refine ⟨_, rfl, ?_, .refl hh⟩
        rw [← ho, orI, if_neg hx]
    · obtain rfl : i = l.length := by omega
      refine hX _ _ (by simp) ?_
      simp -implicitDefEqProofs (disch:=first|omega|simp only [go_sem,Nat.reduceAdd]) only [go_sem,Int.reduceLT,Int.reduceLE,Int.reduceEq,reduceIte, h3]
      refine ⟨_, rfl, ?_, .refl hh⟩
      rw [← ho, List.drop_length]; rfl
end Go.Proofs.Ytbdljpndncohaaa

namespace Go.Proofs.Ytbdljpndncohaaa
open Go.D
set_option maxRecDepth 100000

abbrev keyV (k : Key) : Value := .agg #[.int .i32 k.t, .int .i64 k.r]
def keyLt (a b : Key) : Bool := decide (a.t < b.t) || (decide (a.t = b.t) && decide (a.r < b.r))
def keyCmp (a b : Key) : Int := if cmpI a.t b.t = 0 then cmpI a.r b.r else cmpI a.t b.t
theorem cmpI_zero {a b : Int} : cmpI a b = 0 ↔ a = b := by
  unfold cmpI; split
  · constructor <;> intro h <;> omega
  · split
    · constructor <;> intro h <;> omega
    · constructor <;> intro h <;> omega
theorem cmpI_neg {a b : Int} : cmpI a b < 0 ↔ a < b := by
  unfold cmpI; split
  · constructor <;> intro h <;> omega
  · split
    · constructor <;> intro h <;> omega
    · constructor <;> intro h <;> omega
theorem keyCmp_neg (a b : Key) : decide (keyCmp a b < 0) = keyLt a b := by
  unfold keyCmp keyLt
  by_cases h : a.t = b.t
  · rw [if_pos (cmpI_zero.2 h)]
    rw [show decide (a.t < b.t) = false by simp; omega, show decide (a.t = b.t) = true by simp [h]]
    simp [cmpI_neg]
  · rw [if_neg (fun hh => h (cmpI_zero.1 hh)), show decide (a.t = b.t) = false by simp [h]]
    simp [cmpI_neg]
theorem keyCmp_or (a b : Key) : orI [cmpI a.t b.t, cmpI a.r b.r] = keyCmp a b := by
  unfold keyCmp orI orI orI
  split
  · split
    · rename_i h; exact h.symm
    · rfl
  · rfl
theorem cmpI_ok (a b : Int) : inK .i64 (cmpI a b) := by
  unfold cmpI; split
  · exact inK_i64.2 ⟨by decide, by decide⟩
  · split <;> exact inK_i64.2 ⟨by decide, by decide⟩
theorem compare_c {h : DHeap} {a b : Key} : DC Try.prog 53 [keyV a, keyV b] h (.ret (.int .i64 (keyCmp a b))) h := by
  refine Ct.pure (go_53 (by simp) ?_) (vin_int _ _)
  simp -implicitDefEqProofs (disch:=first|omega|simp only [go_sem,Nat.reduceAdd]) only [go_sem,Int.reduceLT,Int.reduceLE,Int.reduceEq,reduceIte, c53]
  refine dr_53_0 ?_
  simp -implicitDefEqProofs (disch:=first|omega|simp only [go_sem,Nat.reduceAdd]) only [go_sem,Int.reduceLT,Int.reduceLE,Int.reduceEq,reduceIte, l53_0, cellAt_p1, cellAt_p0, Nat.add_zero, Nat.zero_add]
  refine dcall cmp32_c ?_
  simp -implicitDefEqProofs (disch:=first|omega|simp only [go_sem,Nat.reduceAdd]) only [go_sem,Int.reduceLT,Int.reduceLE,Int.reduceEq,reduceIte, l53_0, cellAt_p1, cellAt_p0, Nat.add_zero, Nat.zero_add]
  refine dcall cmp64_c ?_
  simp -implicitDefEqProofs (disch:=first|omega|simp only [go_sem,Nat.reduceAdd]) only [go_sem,Int.reduceLT,Int.reduceLE,Int.reduceEq,reduceIte]
  have ha : ∀ K : DHeap, Arg fI64.rep (K.push (.row [.int .i64 (cmpI a.t b.t), .int .i64 (cmpI a.r b.r)] 1 false)) (.slice (some ⟨K.next, 0, none⟩) 2 2) [cmpI a.t b.t, cmpI a.r b.r] := fun K =>
    built fI64 K rfl rfl rfl (fun x hx => by
      rcases List.mem_cons.1 hx with rfl | hx
      · exact cmpI_ok _ _
      · rw [List.mem_singleton.1 hx]; exact cmpI_ok _ _)
  refine dcall (or_c (ha _) (Nat.le_of_ble_eq_true rfl)) ?_
  rw [keyCmp_or]
  simp -implicitDefEqProofs (disch:=first|omega|simp only [go_sem,Nat.reduceAdd]) only [go_sem,Int.reduceLT,Int.reduceLE,Int.reduceEq,reduceIte, Nat.reduceAdd]
  refine ⟨⟨XSt1_at (i := 6) (j := 4) rfl rfl rfl ?_, XSt1_at (i := 8) (j := 4) rfl rfl rfl ?_, trivial⟩, _, rfl, rfl, ((Ext.push1 _ _).push _).push _⟩
  · rw [if_pos (by decide)]
    refine Ld_on (p := .pointer (some ⟨h.next, 1, none⟩)) ?_ ?_ (ld_2.trans cellAt_p1)
    · simp -implicitDefEqProofs (disch:=first|omega|simp only [go_sem,Nat.reduceAdd]) only [go_sem,Int.reduceLT,Int.reduceLE,Int.reduceEq,reduceIte]
    · simp -implicitDefEqProofs (disch:=first|omega|simp only [go_sem,Nat.reduceAdd]) only [go_sem,Int.reduceLT,Int.reduceLE,Int.reduceEq,reduceIte]
  · rw [if_pos (by decide)]
    refine Ld_on (p := .pointer (some ⟨_, 1, none⟩)) ?_ ?_ (ld_2.trans cellAt_p0)
    · simp -implicitDefEqProofs (disch:=first|omega|simp only [go_sem,Nat.reduceAdd]) only [go_sem,Int.reduceLT,Int.reduceLE,Int.reduceEq,reduceIte]
    · simp -implicitDefEqProofs (disch:=first|omega|simp only [go_sem,Nat.reduceAdd]) only [go_sem,Int.reduceLT,Int.reduceLE,Int.reduceEq,reduceIte]
/-- each below the next -/
def risesB {α : Type} (lt : α → α → Bool) : List α → Bool
  | a :: b :: l => lt a b && risesB lt (b :: l)
  | _ => true
theorem risesB_short {α : Type} {lt : α → α → Bool} : ∀ {l : List α}, l.length ≤ 1 → risesB lt l = true
  | [], _ => rfl
  | [_], _ => rfl
  | _ :: _ :: _, h => by simp at h
theorem risesB_two {α : Type} {lt : α → α → Bool} {l : List α} {j : Nat} (h : j + 1 < l.length) : risesB lt (l.drop j) = (lt l[j] l[j + 1] && risesB lt (l.drop (j + 1))) := by
  rw [List.drop_eq_getElem_cons (show j < l.length by omega), List.drop_eq_getElem_cons h, risesB]
end Go.Proofs.Ytbdljpndncohaaa

namespace Go.Proofs.Ytbdljpndncohaaa
open Go.D
set_option maxRecDepth 100000

end Go.Proofs.Ytbdljpndncohaaa

namespace Go.Proofs.Ytbdljpndncohaaa
open Go.D
set_option maxRecDepth 100000

end Go.Proofs.Ytbdljpndncohaaa

namespace Go.Proofs.Ytbdljpndncohaaa
open Go.D
set_option maxRecDepth 100000

end Go.Proofs.Ytbdljpndncohaaa

namespace Go.Proofs.Ytbdljpndncohaaa
open Go.D
set_option maxRecDepth 100000

theorem fld_key : fldsOf Try.prog 54 = some [(21, 0), (2, 1)] := by kernel_rfl
theorem und_i32 : Try.prog.underlying 21 = some (.int .i32) := by kernel_rfl
theorem und_i64 : Try.prog.underlying 2 = some (.int .i64) := by kernel_rfl
theorem grd_key : Try.prog.eqGuardType Try.prog.depth 54 = false := by kernel_rfl
theorem Key.ext_iff' {a b : Key} : a = b ↔ a.t = b.t ∧ a.r = b.r := by cases a; cases b; simp
theorem Cell.ext_iff' {a b : Cell} : a = b ↔ a.k = b.k ∧ a.v = b.v ∧ a.s = b.s := by cases a; cases b; simp
theorem key_eq (d : Nat) (a b : Key) : quick Try.prog (Op.equalIn (d + 1 + 1) 54 (keyV a) (keyV b)) = some (.inr (decide (a = b))) := by
  refine quick_struct fld_key ⟨_, _, _, _, quick_part_one one_21 rfl, quick_part_one one_21 rfl, quick_int und_i32, ⟨_, _, _, _, quick_part_one one_2 rfl, quick_part_one one_2 rfl, quick_int und_i64, rfl, rfl⟩, ?_⟩
  rw [decide_eq_decide.2 Key.ext_iff', Bool.decide_and, Bool.and_true]
  rfl
theorem bin_key {a b : Key} {h : DHeap} {ox oy : Operand} : dBinOp Try.prog .neq 54 ox oy (keyV a) (keyV b) h = .ok (.value (.bool (!decide (a = b)))) h := (bin_agg rfl rfl grd_key (key_eq 9998 a b)).2
theorem bin_key' {a b : Key} {h : DHeap} {ox oy : Operand} : dBinOp Try.prog .eql 54 ox oy (keyV a) (keyV b) h = .ok (.value (.bool (decide (a = b)))) h := (bin_agg rfl rfl grd_key (key_eq 9998 a b)).1

/-- two lists, one by one -/
def sameL {α : Type} (eq : α → α → Bool) : List α → List α → Bool
  | [], [] => true
  | a :: l, b :: m => eq a b && sameL eq l m
  | _, _ => false
theorem sameL_len {α : Type} {eq : α → α → Bool} : ∀ {l m : List α}, l.length ≠ m.length → sameL eq l m = false
  | [], [], h => by simp at h
  | [], _ :: _, _ => rfl
  | _ :: _, [], _ => rfl
  | a :: l, b :: m, h => by
    simp only [sameL]
    rw [sameL_len (l := l) (m := m) (by simpa using h), Bool.and_false]
end Go.Proofs.Ytbdljpndncohaaa

namespace Go.Proofs.Ytbdljpndncohaaa
open Go.D
set_option maxRecDepth 100000

end Go.Proofs.Ytbdljpndncohaaa

namespace Go.Proofs.Ytbdljpndncohaaa
open Go.D
set_option maxRecDepth 100000

end Go.Proofs.Ytbdljpndncohaaa

namespace Go.Proofs.Ytbdljpndncohaaa
open Go.D
set_option maxRecDepth 100000

end Go.Proofs.Ytbdljpndncohaaa

namespace Go.Proofs.Ytbdljpndncohaaa
open Go.D
set_option maxRecDepth 100000

theorem Sl.upto {S : Nat → Prop} {h h1 : DHeap} {b : Value} {l : List Int} (hb : Sl fU8.rep S h b l) (e : ∀ i, S i → h1.get i = h.get i) : Sl fU8.rep S h1 b l := hb.keep e
end Go.Proofs.Ytbdljpndncohaaa

namespace Go.Proofs.Ytbdljpndncohaaa
open Go.D
set_option maxRecDepth 100000

end Go.Proofs.Ytbdljpndncohaaa

namespace Go.Proofs.Ytbdljpndncohaaa
open Go.D
set_option maxRecDepth 100000

end Go.Proofs.Ytbdljpndncohaaa

namespace Go.Proofs.Ytbdljpndncohaaa
open Go.D
set_option maxRecDepth 100000

end Go.Proofs.Ytbdljpndncohaaa

namespace Go.Proofs.Ytbdljpndncohaaa
open Go.D
set_option maxRecDepth 100000

def firstB (n : Int) : Bool := !decide (n = 0) && (!decide (n = 6) && (!decide (n = 22) && !decide (n = 25)))
theorem first_c {h : DHeap} {n : Int} : DC Try.prog 84 [.int .i64 n] h (.ret (.bool (firstB n))) h := by
  refine Ct.pure (go_84 (by simp) ?_) (vin_bool _)
  simp -implicitDefEqProofs (disch:=first|omega|simp only [go_sem,Nat.reduceAdd]) only [go_sem,Int.reduceLT,Int.reduceLE,Int.reduceEq,reduceIte,true_and, c84]
  (repeat' first | (refine NStp_split (fun hb => ?_) (fun hb => ?_) <;> (try simp only [Bool.not_eq_true', Bool.not_eq_false'] at hb) <;> simp -implicitDefEqProofs (disch:=first|omega|simp only [go_sem,Nat.reduceAdd]) only [go_sem,Int.reduceLT,Int.reduceLE,Int.reduceEq,reduceIte,true_and, dPick_t, dPick_f, hb]) | (refine XIf_split (fun hb => ?_) (fun hb => ?_) <;> (try simp only [Bool.not_eq_true', Bool.not_eq_false'] at hb) <;> simp -implicitDefEqProofs (disch:=first|omega|simp only [go_sem,Nat.reduceAdd]) only [go_sem,Int.reduceLT,Int.reduceLE,Int.reduceEq,reduceIte,true_and, dPick_t, dPick_f, hb]))
  all_goals exact ⟨_, rfl, by simp_all [firstB], .refl _⟩
def twoB (n : Int) : Bool := decide (7 ≤ n) && decide (n ≤ 18) || (decide (n = 20) || (decide (n = 21) || (decide (n = 26) || decide (n = 27))))
theorem two_c {h : DHeap} {n : Int} : DC Try.prog 85 [.int .i64 n] h (.ret (.bool (twoB n))) h := by
  refine Ct.pure (go_85 (by simp) ?_) (vin_bool _)
  simp -implicitDefEqProofs (disch:=first|omega|simp only [go_sem,Nat.reduceAdd]) only [go_sem,Int.reduceLT,Int.reduceLE,Int.reduceEq,reduceIte,true_and, c85]
  (repeat' first | (refine NStp_split (fun hb => ?_) (fun hb => ?_) <;> (try simp only [Bool.not_eq_true', Bool.not_eq_false'] at hb) <;> simp -implicitDefEqProofs (disch:=first|omega|simp only [go_sem,Nat.reduceAdd]) only [go_sem,Int.reduceLT,Int.reduceLE,Int.reduceEq,reduceIte,true_and, dPick_t, dPick_f, hb]) | (refine XIf_split (fun hb => ?_) (fun hb => ?_) <;> (try simp only [Bool.not_eq_true', Bool.not_eq_false'] at hb) <;> simp -implicitDefEqProofs (disch:=first|omega|simp only [go_sem,Nat.reduceAdd]) only [go_sem,Int.reduceLT,Int.reduceLE,Int.reduceEq,reduceIte,true_and, dPick_t, dPick_f, hb]))
  all_goals exact ⟨_, rfl, by simp_all [twoB] <;> omega, .refl _⟩
def jumpsB (n : Int) : Bool := decide (n = 22) || decide (n = 23)
theorem refJumps_c {h : DHeap} {n : Int} : DC Try.prog 57 [.int .i64 n] h (.ret (.bool (jumpsB n))) h := by
  refine Ct.pure (go_57 (by simp) ?_) (vin_bool _)
  simp -implicitDefEqProofs (disch:=first|omega|simp only [go_sem,Nat.reduceAdd]) only [go_sem,Int.reduceLT,Int.reduceLE,Int.reduceEq,reduceIte,true_and, c57]
  (repeat' first | (refine NStp_split (fun hb => ?_) (fun hb => ?_) <;> (try simp only [Bool.not_eq_true', Bool.not_eq_false'] at hb) <;> simp -implicitDefEqProofs (disch:=first|omega|simp only [go_sem,Nat.reduceAdd]) only [go_sem,Int.reduceLT,Int.reduceLE,Int.reduceEq,reduceIte,true_and, dPick_t, dPick_f, hb]) | (refine XIf_split (fun hb => ?_) (fun hb => ?_) <;> (try simp only [Bool.not_eq_true', Bool.not_eq_false'] at hb) <;> simp -implicitDefEqProofs (disch:=first|omega|simp only [go_sem,Nat.reduceAdd]) only [go_sem,Int.reduceLT,Int.reduceLE,Int.reduceEq,reduceIte,true_and, dPick_t, dPick_f, hb]))
  all_goals exact ⟨_, rfl, by simp_all [jumpsB], .refl _⟩
def sizeI (n : Int) : Int := if n = 0 then 1 else if n = 6 ∨ n = 24 ∨ n = 25 then 2 else if n = 2 ∨ n = 3 ∨ n = 4 ∨ n = 5 ∨ n = 19 ∨ n = 22 then 3 else if n = 1 ∨ n = 23 ∨ n = 26 ∨ n = 27 then 4 else if 7 ≤ n ∧ n ≤ 21 then 3 else 0
theorem refSize_c {h : DHeap} {n : Int} : DC Try.prog 83 [.int .i64 n] h (.ret (.int .i64 (sizeI n))) h := by
  refine Ct.pure (go_83 (by simp) ?_) (vin_int _ _)
  simp -implicitDefEqProofs (disch:=first|omega|simp only [go_sem,Nat.reduceAdd]) only [go_sem,Int.reduceLT,Int.reduceLE,Int.reduceEq,reduceIte,true_and, c83]
  (repeat' first | (refine NStp_split (fun hb => ?_) (fun hb => ?_) <;> (try simp only [Bool.not_eq_true', Bool.not_eq_false'] at hb) <;> simp -implicitDefEqProofs (disch:=first|omega|simp only [go_sem,Nat.reduceAdd]) only [go_sem,Int.reduceLT,Int.reduceLE,Int.reduceEq,reduceIte,true_and, dPick_t, dPick_f, hb]) | (refine XIf_split (fun hb => ?_) (fun hb => ?_) <;> (try simp only [Bool.not_eq_true', Bool.not_eq_false'] at hb) <;> simp -implicitDefEqProofs (disch:=first|omega|simp only [go_sem,Nat.reduceAdd]) only [go_sem,Int.reduceLT,Int.reduceLE,Int.reduceEq,reduceIte,true_and, dPick_t, dPick_f, hb]))
  all_goals exact ⟨_, rfl, by simp_all [sizeI] <;> omega, .refl _⟩

def wideI (n : Int) : Int := sizeI n - 1 - (if firstB n then 1 else 0) - (if twoB n then 1 else 0)
theorem sizeI_le (n : Int) : 0 ≤ sizeI n ∧ sizeI n ≤ 4 := by
  unfold sizeI
  repeat' split
  all_goals omega
theorem refWide_c {h : DHeap} {n : Int} : DC Try.prog 86 [.int .i64 n] h (.ret (.int .i64 (wideI n))) h := by
  refine Ct.pure (go_86 (by simp) ?_) (vin_int _ _)
  have hs := sizeI_le n
  simp -implicitDefEqProofs (disch:=first|omega|simp only [go_sem,Nat.reduceAdd]) only [go_sem,Int.reduceLT,Int.reduceLE,Int.reduceEq,reduceIte,true_and, c86]
  refine ncall refSize_c ?_
  simp -implicitDefEqProofs (disch:=first|omega|simp only [go_sem,Nat.reduceAdd]) only [go_sem,Int.reduceLT,Int.reduceLE,Int.reduceEq,reduceIte,true_and]
  refine ncall first_c ?_
  simp -implicitDefEqProofs (disch:=first|omega|simp only [go_sem,Nat.reduceAdd]) only [go_sem,Int.reduceLT,Int.reduceLE,Int.reduceEq,reduceIte,true_and]
  refine XIf_split (fun h1 => ?_) (fun h1 => ?_)
  all_goals simp -implicitDefEqProofs (disch:=first|omega|simp only [go_sem,Nat.reduceAdd]) only [go_sem,Int.reduceLT,Int.reduceLE,Int.reduceEq,reduceIte,true_and, h1]
  all_goals refine ncall two_c ?_
  all_goals simp -implicitDefEqProofs (disch:=first|omega|simp only [go_sem,Nat.reduceAdd]) only [go_sem,Int.reduceLT,Int.reduceLE,Int.reduceEq,reduceIte,true_and]
  all_goals refine XIf_split (fun h2 => ?_) (fun h2 => ?_)
  all_goals simp -implicitDefEqProofs (disch:=first|omega|simp only [go_sem,Nat.reduceAdd]) only [go_sem,Int.reduceLT,Int.reduceLE,Int.reduceEq,reduceIte,true_and, h2]
  all_goals refine ⟨_, rfl, ?_, .refl _⟩
  all_goals simp only [wideI, h1, h2, if_true, if_false, Bool.false_eq_true]
  all_goals congr 2
  · rw [wrap_i64_in (n := sizeI n - 1) (by omega) (by omega), wrap_i64_in (n := sizeI n - 1 - 1) (by omega) (by omega), wrap_i64_in (by omega) (by omega)]
  · rw [wrap_i64_in (n := sizeI n - 1) (by omega) (by omega), wrap_i64_in (by omega) (by omega)]; omega
  · rw [wrap_i64_in (n := sizeI n - 1) (by omega) (by omega), wrap_i64_in (by omega) (by omega)]; omega
  · rw [wrap_i64_in (n := sizeI n - 1) (by omega) (by omega)]; omega
def indexE (x : Instr) : Int :=
  if firstB x.op && (decide (x.a < 0) || decide (8 ≤ x.a)) || twoB x.op && (decide (x.b < 0) || decide (8 ≤ x.b)) then 132
  else if decide (x.op = 19) && (!decide (x.imm = 8) && (!decide (x.imm = 16) && !decide (x.imm = 32))) then 132 else 0
theorem refIndex_c {h : DHeap} {x : Instr} : DC Try.prog 87 [instrV x] h (.ret (.int .i64 (indexE x))) h := by
  obtain ⟨x1, x2, x3, x4, x5⟩ := x
  refine Ct.pure (go_87 (by simp) ?_) (vin_int _ _)
  obtain ⟨H, hH⟩ : ∃ H, H = h.push (.row [.int .i64 x1, .int .i64 x2, .int .i64 x3, .int .i64 x4, .int .i64 x5] 0 false) := ⟨_, rfl⟩
  have hE : Ext h H := by rw [hH]; exact Ext.push1 _ _
  have g : H.get h.next = some (.row [.int .i64 x1, .int .i64 x2, .int .i64 x3, .int .i64 x4, .int .i64 x5] 0 false) := by rw [hH]; exact get_push_same _ _
  have a1 : cellAt H h.next 1 = some (.int .i64 x2) := cellAt_row g
  have a2 : cellAt H h.next 2 = some (.int .i64 x3) := cellAt_row g
  have a3 : cellAt H h.next 3 = some (.int .i64 x4) := cellAt_row g
  have a4 : cellAt H h.next 4 = some (.int .i64 x5) := cellAt_row g
  simp -implicitDefEqProofs (disch:=first|omega|simp only [go_sem,Nat.reduceAdd]) only [go_sem,Int.reduceLT,Int.reduceLE,Int.reduceEq,reduceIte,true_and, c87, ← hH, a1]
  clear hH
  refine ncall first_c ?_
  simp -implicitDefEqProofs (disch:=first|omega|simp only [go_sem,Nat.reduceAdd]) only [go_sem,Int.reduceLT,Int.reduceLE,Int.reduceEq,reduceIte,true_and, a1, a2]
  (repeat' first | (refine NStp_split (fun hb => ?_) (fun hb => ?_) <;> (try simp only [Bool.not_eq_true', Bool.not_eq_false'] at hb) <;> simp -implicitDefEqProofs (disch:=first|omega|simp only [go_sem,Nat.reduceAdd]) only [go_sem,Int.reduceLT,Int.reduceLE,Int.reduceEq,reduceIte,true_and, dPick_t, dPick_f, hb, a1, a2, a3, a4]) | (refine XIf_split (fun hb => ?_) (fun hb => ?_) <;> (try simp only [Bool.not_eq_true', Bool.not_eq_false'] at hb) <;> simp -implicitDefEqProofs (disch:=first|omega|simp only [go_sem,Nat.reduceAdd]) only [go_sem,Int.reduceLT,Int.reduceLE,Int.reduceEq,reduceIte,true_and, dPick_t, dPick_f, hb, a1, a2, a3, a4]))
  all_goals first
    | (refine ncall two_c ?_
       simp -implicitDefEqProofs (disch:=first|omega|simp only [go_sem,Nat.reduceAdd]) only [go_sem,Int.reduceLT,Int.reduceLE,Int.reduceEq,reduceIte,true_and, a1, a2, a3, a4, dPick_t, dPick_f, *])
    | skip
  (repeat' first | (refine NStp_split (fun hb => ?_) (fun hb => ?_) <;> (try simp only [Bool.not_eq_true', Bool.not_eq_false'] at hb) <;> simp -implicitDefEqProofs (disch:=first|omega|simp only [go_sem,Nat.reduceAdd]) only [go_sem,Int.reduceLT,Int.reduceLE,Int.reduceEq,reduceIte,true_and, dPick_t, dPick_f, hb, a1, a2, a3, a4]) | (refine XIf_split (fun hb => ?_) (fun hb => ?_) <;> (try simp only [Bool.not_eq_true', Bool.not_eq_false'] at hb) <;> simp -implicitDefEqProofs (disch:=first|omega|simp only [go_sem,Nat.reduceAdd]) only [go_sem,Int.reduceLT,Int.reduceLE,Int.reduceEq,reduceIte,true_and, dPick_t, dPick_f, hb, a1, a2, a3, a4]))
  all_goals exact ⟨_, rfl, by simp_all [indexE] <;> omega, hE⟩
end Go.Proofs.Ytbdljpndncohaaa

namespace Go.Proofs.Ytbdljpndncohaaa
open Go.D
set_option maxRecDepth 100000

abbrev zeroInstr : Instr := ⟨0, 0, 0, 0, 0⟩
/-- an instruction's number: of two bytes, with a sign, if it is a constant's -/
def immW (op w x y : Int) : Int := if w = 2 then (if op = 1 ∧ 32768 ≤ x + 256 * y then x + 256 * y - 65536 else x + 256 * y) else if 1 ≤ w then x else 0
def oneI (l : List Int) (i : Nat) : Instr :=
  let op := l.getD i 0
  let k2 := i + 1 + if firstB op then 1 else 0
  let k3 := k2 + if twoB op then 1 else 0
  ⟨i, op, if firstB op then l.getD (i + 1) 0 else 0, if twoB op then l.getD k2 0 else 0, immW op (wideI op) (l.getD k3 0) (l.getD (k3 + 1) 0)⟩
/-- the instruction at an address, where the next one is, what is wrong -/
def oneT (l : List Int) (i : Nat) : Instr × Int × Int :=
  if l.length ≤ i then (zeroInstr, 0, 130)
  else if sizeI (l.getD i 0) = 0 ∨ (l.length : Int) - i < sizeI (l.getD i 0) then (zeroInstr, 0, 130)
  else if indexE (oneI l i) = 0 then (oneI l i, i + sizeI (l.getD i 0), 0) else (zeroInstr, 0, indexE (oneI l i))
theorem byte_at {h : DHeap} {v : Value} {l : List Int} (hb : Arg fU8.rep h v l) {i : Nat} (hi : i < l.length) :
    ∃ id o, dIndexAddr Try.prog 22 v (.int .i64 (i : Nat)) = some (.pointer (some ⟨id, o, none⟩)) ∧ (∀ K, Ext h K → cellAt K id o = some (.int .u8 (l.getD i 0))) ∧ 0 ≤ l.getD i 0 ∧ l.getD i 0 ≤ 255 := by
  have hx : l[i]? = some l[i] := List.getElem?_eq_getElem hi
  have hgd : l.getD i 0 = l[i] := by rw [List.getD_eq_getElem?_getD, hx]; rfl
  obtain ⟨id, o, e1, hid, hat⟩ := hb.idx (P := Try.prog) (t := 22) el_22 (k := .i64) hx
  have hok := inK_u8.1 (hb.ok _ (List.getElem_mem hi))
  refine ⟨id, o, e1, fun K e => ?_, by rw [hgd]; exact hok.1, by rw [hgd]; exact hok.2⟩
  have := (hat.flat).1 0 (by decide)
  rw [Nat.add_zero] at this
  unfold cellAt at this ⊢
  rw [e.get _ hid, hgd]
  exact this
theorem size_split {n : Int} (h : sizeI n ≠ 0) : 0 ≤ wideI n ∧ wideI n ≤ 2 ∧ 0 ≤ n ∧ n < 28 := by
  have h1 : 0 ≤ n ∧ n < 28 := by
    unfold sizeI at h
    repeat' split at h
    all_goals omega
  obtain ⟨k, rfl⟩ : ∃ k : Nat, n = k := ⟨n.toNat, by omega⟩
  have : ∀ k : Nat, k < 28 → 0 ≤ wideI k ∧ wideI k ≤ 2 := by decide
  have := this k (by omega)
  omega
theorem res_i {fr : Fr} {K : DHeap} {a b c id : Nat} {x : Instr} {n e : Int} (f2 : fr a = some (.pointer (some ⟨id, 0, none⟩))) (f3 : fr b = some (.int .i64 n)) (f4 : fr c = some (.int .i64 e)) (hk : K.get id = some (.row (fInstr.enc x) 0 false)) :
    dResults Try.prog [.cell a 95, .tmp b, .tmp c] fr K = some (.tuple #[instrV x, .int .i64 n, .int .i64 e]) := by
  rw [dResults_d3, dRes1_cell, f2, dResC_some, dRes1_tmp, dRes1_tmp, f3, f4]
  have e1 : dLoad Try.prog 95 (.pointer (some ⟨id, 0, none⟩)) K = some (instrV x) := ld_95.trans (by rw [cellsAt_row hk (Nat.le_of_ble_eq_true rfl)]; rfl)
  rw [e1]
  rfl
theorem bd_instr0 : dBuild Try.prog 95 [] = some (instrV zeroInstr) := dBuild_at plc_95 rfl
theorem bd_instr2 {p o : Int} : dBuild Try.prog 95 [(0, .int .i64 p), (1, .int .i64 o)] = some (instrV ⟨p, o, 0, 0, 0⟩) := dBuild_at plc_95 rfl
theorem vin_one {S : Nat → Prop} {x : Instr} {n e : Int} : VIn S (.tuple #[instrV x, .int .i64 n, .int .i64 e]) := by
  refine .tuple fun v hv => ?_
  simp only [List.mem_toArray, List.mem_cons, List.not_mem_nil, or_false] at hv
  rcases hv with rfl | rfl | rfl
  · exact .agg fun v hv => by
      simp only [List.mem_toArray, List.mem_cons, List.not_mem_nil, or_false] at hv
      rcases hv with rfl | rfl | rfl | rfl | rfl <;> exact .int _ _
  · exact .int _ _
  · exact .int _ _
theorem store5_push {h : DHeap} {z : Nat} {a b c d e a' b' c' d' e' : Value} (hv : [a, b, c, d, e].all Value.oneCell' = true) : storeAt (h.push (.row [a', b', c', d', e'] z false)) h.next 0 [a, b, c, d, e] = some (h.push (.row [a, b, c, d, e] z false)) := storeAll_push rfl hv
/-- how things lie on the way -/
def OneM (B : Nat) (H : DHeap) (v : Value) (i : Nat) (op a b imm k : Int) (s : St) : Prop :=
  s.df = [] ∧ s.rd = none ∧ s.fr 0 = some v ∧ s.fr 1 = some (.int .i64 (i : Nat)) ∧ s.fr 4 = some (.pointer (some ⟨B, 0, none⟩)) ∧ s.fr 7 = some (.int .i64 (sizeI op)) ∧ s.fr 8 = some (.pointer (some ⟨H.next, 0, none⟩)) ∧ s.fr 9 = some (.int .i64 k) ∧ s.h = H.push (.row (fInstr.enc ⟨(i : Nat), op, a, b, imm⟩) 0 false)
set_option maxHeartbeats 2000000 in
theorem refOne_c {h : DHeap} {v : Value} {l : List Int} {i : Nat} (hb : Arg fU8.rep h v l) (hl : l.length ≤ 4294967296) (hi : i ≤ 4294967296) :
    DC Try.prog 69 [v, .int .i64 (i : Nat)] h (.ret (.tuple #[instrV (oneT l i).1, .int .i64 (oneT l i).2.1, .int .i64 (oneT l i).2.2])) h := by
  refine Ct.pure (go_69 (by simp) ?_) vin_one
  obtain ⟨H, hH⟩ : ∃ H, H = h.push (.row [.int .i64 0, .int .i64 0, .int .i64 0, .int .i64 0, .int .i64 0] 0 false) := ⟨_, rfl⟩
  have hE : Ext h H := by rw [hH]; exact Ext.push1 _ _
  have g : H.get h.next = some (.row (fInstr.enc zeroInstr) 0 false) := by rw [hH]; exact get_push_same _ _
  have hHn : H.next = h.next + 1 := by rw [hH]; rfl
  have el : ∀ K, dLen Try.prog #[22] v K = some (.int .i64 (l.length : Nat)) := hb.lens (P := Try.prog) (ts := #[22]) (t := 22) rfl isl_22
  have hz : storeAt H h.next 0 [.int .i64 0, .int .i64 0, .int .i64 0, .int .i64 0, .int .i64 0] = some H := by
    rw [storeAt_row g (Nat.le_of_ble_eq_true rfl) rfl]
    exact congrArg some (set_self g)
  have hneg : ¬ ((i : Nat) : Int) < 0 := by omega
  by_cases h0 : ((l.length : Nat) : Int) ≤ (i : Nat)
  · have h0' := eq_true h0
    simp -implicitDefEqProofs (disch:=first|omega|simp only [go_sem,Nat.reduceAdd]) only [go_sem,Int.reduceLT,Int.reduceLE,Int.reduceEq,reduceIte,true_and, c69, ← hH, hneg, h0', el, dPick_t, dPick_f, bd_instr0, hz]
    refine ret_at (res_i (n := 0) (e := 130) vz vz vz g) ⟨?_, hE⟩
    rw [oneT, if_pos (by omega)]
  have hil : i < l.length := by omega
  obtain ⟨id0, o0, ia0, lb0, r0, r1⟩ := byte_at hb hil
  obtain ⟨op, hop⟩ : ∃ op, l.getD i 0 = op := ⟨_, rfl⟩
  rw [hop] at lb0 r0 r1
  have hw0 : IntKind.i64.wrap op = op := wrap_i64_in (by omega) (by omega)
  simp -implicitDefEqProofs (disch:=first|omega|simp only [go_sem,Nat.reduceAdd]) only [go_sem,Int.reduceLT,Int.reduceLE,Int.reduceEq,reduceIte,true_and, c69, ← hH, hneg, h0, el, dPick_t, dPick_f, ia0, lb0 H hE, hw0]
  refine ncall refSize_c ?_
  have hs := sizeI_le op
  have hwl : IntKind.i64.wrap ((l.length : Int) - (i : Nat)) = (l.length : Int) - (i : Nat) := wrap_i64_in (by omega) (by omega)
  by_cases h1 : sizeI op = 0
  · have h1' := eq_true h1
    simp -implicitDefEqProofs (disch:=first|omega|simp only [go_sem,Nat.reduceAdd]) only [go_sem,Int.reduceLT,Int.reduceLE,Int.reduceEq,reduceIte,true_and, h1', dPick_t, dPick_f, bd_instr0, hz]
    refine ret_at (res_i (n := 0) (e := 130) vz vz vz g) ⟨?_, hE⟩
    rw [oneT, if_neg (by omega), hop, if_pos (.inl h1)]
  by_cases h2 : (l.length : Int) - (i : Nat) < sizeI op
  · have h2' := eq_true h2
    simp -implicitDefEqProofs (disch:=first|omega|simp only [go_sem,Nat.reduceAdd]) only [go_sem,Int.reduceLT,Int.reduceLE,Int.reduceEq,reduceIte,true_and, h1, hwl, h2', el, dPick_t, dPick_f, bd_instr0, hz]
    refine ret_at (res_i (n := 0) (e := 130) vz vz vz g) ⟨?_, hE⟩
    rw [oneT, if_neg (by omega), hop, if_pos (.inr h2)]
  obtain ⟨w1, w2, w3, w4⟩ := size_split h1
  have hT : oneT l i = if indexE (oneI l i) = 0 then (oneI l i, i + sizeI op, 0) else (zeroInstr, 0, indexE (oneI l i)) := by
    rw [oneT, if_neg (by omega), hop, if_neg (by omega)]
  have hsz : sizeI op = 1 + (if firstB op then 1 else 0) + (if twoB op then 1 else 0) + wideI op := by unfold wideI; omega
  have cI : ∀ x, cellAt (H.push (.row (fInstr.enc x) 0 false)) H.next 1 = some (.int .i64 x.op) := fun x => cellAt_row (get_push_same _ _)
  have cI4 : ∀ x, cellAt (H.push (.row (fInstr.enc x) 0 false)) H.next 4 = some (.int .i64 x.imm) := fun x => cellAt_row (get_push_same _ _)
  have hEP : ∀ o, Ext h (H.push o) := fun o => hE.push o
  have sI : ∀ (x : Instr) (j : Nat) (n : Int), j < 5 → storeAt (H.push (.row (fInstr.enc x) 0 false)) H.next j [.int .i64 n] = some ((H.push (.row (fInstr.enc x) 0 false)).set H.next (.row (setAt (fInstr.enc x) j [.int .i64 n]) 0 false)) := fun x j n hj => storeAt_row (get_push_same _ _) (by rw [fInstr.len]; exact hj) rfl
  have lc : ∀ x, cellsAt (H.push (.row (fInstr.enc x) 0 false)) H.next 0 5 = some (instrV x) := fun x => by rw [cellsAt_row (get_push_same _ _) (Nat.le_of_ble_eq_true rfl)]; rfl
  have hw1 : IntKind.i64.wrap ((i : Int) + 1) = ((i + 1 : Nat) : Int) := by rw [wrap_i64_in (by omega) (by omega)]; omega
  have hst5 : ∀ a b c d e : Int, storeAt (H.push (.row [.int .i64 0, .int .i64 0, .int .i64 0, .int .i64 0, .int .i64 0] 0 false)) H.next 0 [.int .i64 a, .int .i64 b, .int .i64 c, .int .i64 d, .int .i64 e] = some (H.push (.row (fInstr.enc ⟨a, b, c, d, e⟩) 0 false)) := fun a b c d e => store5_push rfl
  simp -implicitDefEqProofs (disch:=first|omega|simp only [go_sem,Nat.reduceAdd]) only [go_sem,Int.reduceLT,Int.reduceLE,Int.reduceEq,reduceIte,true_and, h1, hwl, h2, el, dPick_t, dPick_f, ia0, lb0 H hE, hw0, bd_instr2, hst5, hw1, cI]
  refine ncall first_c ?_
  simp -implicitDefEqProofs (disch:=first|omega|simp only [go_sem,Nat.reduceAdd]) only [go_sem,Int.reduceLT,Int.reduceLE,Int.reduceEq,reduceIte,true_and]
  obtain ⟨k2, hk2⟩ : ∃ k2, k2 = i + 1 + if firstB op then 1 else 0 := ⟨_, rfl⟩
  obtain ⟨xa, hxa⟩ : ∃ xa, xa = if firstB op then l.getD (i + 1) 0 else 0 := ⟨_, rfl⟩
  refine XIf_cut (OneM h.next H v i op xa 0 0 (k2 : Nat)) (fun hf => ?_) (fun hf => ?_) ?_
  · rw [hf] at hk2 hxa hsz
    simp only [if_true] at hk2 hxa hsz
    obtain ⟨id1, o1, ia1, lb1, q0, q1⟩ := byte_at hb (i := i + 1) (by omega)
    rw [← hxa] at lb1 q0 q1
    have hwa : IntKind.i64.wrap xa = xa := wrap_i64_in (by omega) (by omega)
    have hw2 : IntKind.i64.wrap (((i + 1 : Nat) : Int) + 1) = ((k2 : Nat) : Int) := by rw [wrap_i64_in (by omega) (by omega)]; omega
    simp -implicitDefEqProofs (disch:=first|omega|simp only [go_sem,Nat.reduceAdd]) only [go_sem,Int.reduceLT,Int.reduceLE,Int.reduceEq,reduceIte,true_and, ia1, lb1 _ (hEP _), hwa, sI, hw2]
    exact ⟨rfl, rfl, vz, vz, vz, vz, vz, vz, set_push_same _ _ _⟩
  · rw [hf] at hk2 hxa hsz
    simp only [Bool.false_eq_true, if_false] at hk2 hxa hsz
    simp -implicitDefEqProofs (disch:=first|omega|simp only [go_sem,Nat.reduceAdd]) only [go_sem,Int.reduceLT,Int.reduceLE,Int.reduceEq,reduceIte,true_and]
    exact ⟨rfl, rfl, vz, vz, vz, vz, vz, by rw [hk2]; simp -implicitDefEqProofs (disch:=first|omega|simp only [go_sem,Nat.reduceAdd]) only [go_sem,Int.reduceLT,Int.reduceLE,Int.reduceEq,reduceIte,true_and], by rw [hxa]⟩
  rintro ⟨fr, df, K, rd⟩ ⟨rfl, rfl, f0, f1, f4, f7, f8, f9, hK⟩
  simp only at f0 f1 f4 f7 f8 f9 hK
  subst hK
  simp -implicitDefEqProofs (disch:=first|omega|simp only [go_sem,Nat.reduceAdd]) only [go_sem,Int.reduceLT,Int.reduceLE,Int.reduceEq,reduceIte,true_and, f8, cI]
  refine ncall two_c ?_
  simp -implicitDefEqProofs (disch:=first|omega|simp only [go_sem,Nat.reduceAdd]) only [go_sem,Int.reduceLT,Int.reduceLE,Int.reduceEq,reduceIte,true_and]
  obtain ⟨k3, hk3⟩ : ∃ k3, k3 = k2 + if twoB op then 1 else 0 := ⟨_, rfl⟩
  obtain ⟨xb, hxb⟩ : ∃ xb, xb = if twoB op then l.getD k2 0 else 0 := ⟨_, rfl⟩
  have hk2l : (k2 : Int) + (if twoB op then 1 else 0) + wideI op = i + sizeI op := by
    rw [hk2, hsz]
    split <;> simp <;> omega
  refine XIf_cut (OneM h.next H v i op xa xb 0 (k3 : Nat)) (fun hf => ?_) (fun hf => ?_) ?_
  · rw [hf] at hk3 hxb hk2l
    simp only [if_true] at hk3 hxb hk2l
    obtain ⟨id1, o1, ia1, lb1, q0, q1⟩ := byte_at hb (i := k2) (by omega)
    rw [← hxb] at lb1 q0 q1
    have hwa : IntKind.i64.wrap xb = xb := wrap_i64_in (by omega) (by omega)
    have hw2 : IntKind.i64.wrap ((k2 : Int) + 1) = ((k3 : Nat) : Int) := by rw [wrap_i64_in (by omega) (by omega)]; omega
    simp -implicitDefEqProofs (disch:=first|omega|simp only [go_sem,Nat.reduceAdd]) only [go_sem,Int.reduceLT,Int.reduceLE,Int.reduceEq,reduceIte,true_and, f0, f8, f9, ia1, lb1 _ (hEP _), hwa, sI, hw2]
    exact ⟨rfl, rfl, (vy f0), (vy f1), (vy f4), (vy f7), (vy f8), vz, set_push_same _ _ _⟩
  · rw [hf] at hk3 hxb
    simp only [Bool.false_eq_true, if_false] at hk3 hxb
    simp -implicitDefEqProofs (disch:=first|omega|simp only [go_sem,Nat.reduceAdd]) only [go_sem,Int.reduceLT,Int.reduceLE,Int.reduceEq,reduceIte,true_and]
    exact ⟨rfl, rfl, (vy f0), (vy f1), (vy f4), (vy f7), (vy f8), by rw [hk3]; simp -implicitDefEqProofs (disch:=first|omega|simp only [go_sem,Nat.reduceAdd]) only [go_sem,Int.reduceLT,Int.reduceLE,Int.reduceEq,reduceIte,true_and, f9], by rw [hxb]⟩
  clear f0 f1 f4 f7 f8 f9 fr
  rintro ⟨fr, df, K, rd⟩ ⟨rfl, rfl, f0, f1, f4, f7, f8, f9, hK⟩
  simp only at f0 f1 f4 f7 f8 f9 hK
  subst hK
  simp -implicitDefEqProofs (disch:=first|omega|simp only [go_sem,Nat.reduceAdd]) only [go_sem,Int.reduceLT,Int.reduceLE,Int.reduceEq,reduceIte,true_and, f8, cI]
  refine ncall refWide_c ?_
  have hk3l : (k3 : Int) + wideI op = i + sizeI op := by
    rw [← hk2l, hk3]
    split <;> simp
  obtain ⟨w, hw⟩ : ∃ w, wideI op = w := ⟨_, rfl⟩
  rw [hw] at w1 w2 hk3l
  rw [hw]
  have hone : oneI l i = ⟨(i : Nat), op, xa, xb, immW op w (l.getD k3 0) (l.getD (k3 + 1) 0)⟩ := by
    unfold oneI
    simp only [hop, ← hxa, ← hk2, ← hxb, ← hk3, hw]
  obtain ⟨x, hx⟩ : ∃ x, l.getD k3 0 = x := ⟨_, rfl⟩
  obtain ⟨y, hy⟩ : ∃ y, l.getD (k3 + 1) 0 = y := ⟨_, rfl⟩
  rw [hx, hy] at hone
  simp -implicitDefEqProofs (disch:=first|omega|simp only [go_sem,Nat.reduceAdd]) only [go_sem,Int.reduceLT,Int.reduceLE,Int.reduceEq,reduceIte,true_and]
  refine XIf_cutd (fun s => OneM h.next H v i op xa xb (if 1 ≤ w then x else 0) (k3 : Nat) s ∧ s.fr 10 = some (.int .i64 w)) (fun hf => ?_) (fun hf => ?_) ?_
  · rw [if_pos hf]
    obtain ⟨id1, o1, ia1, lb1, q0, q1⟩ := byte_at hb (i := k3) (by omega)
    rw [hx] at lb1 q0 q1
    have hwa : IntKind.i64.wrap x = x := wrap_i64_in (by omega) (by omega)
    simp -implicitDefEqProofs (disch:=first|omega|simp only [go_sem,Nat.reduceAdd]) only [go_sem,Int.reduceLT,Int.reduceLE,Int.reduceEq,reduceIte,true_and, f0, f8, f9, ia1, lb1 _ (hEP _), hwa, sI]
    exact ⟨⟨rfl, rfl, (vy f0), (vy f1), (vy f4), (vy f7), (vy f8), (vy f9), set_push_same _ _ _⟩, vz⟩
  · rw [if_neg hf]
    simp -implicitDefEqProofs (disch:=first|omega|simp only [go_sem,Nat.reduceAdd]) only [go_sem,Int.reduceLT,Int.reduceLE,Int.reduceEq,reduceIte,true_and]
    exact ⟨⟨rfl, rfl, (vy f0), (vy f1), (vy f4), (vy f7), (vy f8), (vy f9), rfl⟩, vz⟩
  clear f0 f1 f4 f7 f8 f9 fr
  rintro ⟨fr, df, K, rd⟩ ⟨⟨rfl, rfl, f0, f1, f4, f7, f8, f9, hK⟩, f10⟩
  simp only at f0 f1 f4 f7 f8 f9 hK f10
  subst hK
  simp -implicitDefEqProofs (disch:=first|omega|simp only [go_sem,Nat.reduceAdd]) only [go_sem,Int.reduceLT,Int.reduceLE,Int.reduceEq,reduceIte,true_and, f10]
  refine XIf_cutd (OneM h.next H v i op xa xb (immW op w x y) (k3 : Nat)) (fun hf => ?_) (fun hf => ?_) ?_
  · have h1w : 1 ≤ w := by omega
    rw [if_pos h1w]
    obtain ⟨id1, o1, ia1, lb1, q0, q1⟩ := byte_at hb (i := k3 + 1) (by omega)
    rw [hy] at lb1 q0 q1
    obtain ⟨_, _, _, _, p0, p1⟩ := byte_at hb (i := k3) (by omega)
    rw [hx] at p0 p1
    have hwa : IntKind.i64.wrap y = y := wrap_i64_in (by omega) (by omega)
    have hwb : IntKind.i64.wrap (256 * y) = 256 * y := wrap_i64_in (by omega) (by omega)
    have hwc : IntKind.i64.wrap (x + 256 * y) = x + 256 * y := wrap_i64_in (by omega) (by omega)
    have hwd : IntKind.i64.wrap (x + 256 * y - 65536) = x + 256 * y - 65536 := wrap_i64_in (by omega) (by omega)
    have hwk : IntKind.i64.wrap ((k3 : Int) + 1) = ((k3 + 1 : Nat) : Int) := by rw [wrap_i64_in (by omega) (by omega)]; omega
    have hsp : ∀ a b, (H.push (.row (fInstr.enc a) 0 false)).set H.next (.row (fInstr.enc b) 0 false) = H.push (.row (fInstr.enc b) 0 false) := fun a b => set_push_same _ _ _
    have s4 : ∀ n m, storeAt (H.push (.row (fInstr.enc ⟨(i : Nat), op, xa, xb, n⟩) 0 false)) H.next 4 [.int .i64 m] = some (H.push (.row (fInstr.enc ⟨(i : Nat), op, xa, xb, m⟩) 0 false)) := fun n m => by
      rw [sI _ 4 m (by decide)]
      exact congrArg some (set_push_same _ _ _)
    simp -implicitDefEqProofs (disch:=first|omega|simp only [go_sem,Nat.reduceAdd]) only [go_sem,Int.reduceLT,Int.reduceLE,Int.reduceEq,reduceIte,true_and]
    refine dr_69_0 ?_
    simp -implicitDefEqProofs (disch:=first|omega|simp only [go_sem,Nat.reduceAdd]) only [go_sem,Int.reduceLT,Int.reduceLE,Int.reduceEq,reduceIte,true_and, l69_0, f0, f8, f9, cI4, hwk, ia1, lb1 _ (hEP _), hwa, hwb, hwc, s4]
    by_cases h1c : op = 1
    · by_cases h2c : 32768 ≤ x + 256 * y
      · have e1 := eq_true h1c
        have e2 := eq_true h2c
        simp -implicitDefEqProofs (disch:=first|omega|simp only [go_sem,Nat.reduceAdd]) only [go_sem,Int.reduceLT,Int.reduceLE,Int.reduceEq,reduceIte,true_and, f8, cI, cI4, e1, e2, dPick_t, dPick_f, hwd, s4]
        refine ⟨rfl, rfl, (vy f0), (vy f1), (vy f4), (vy f7), (vy f8), (vy f9), ?_⟩
        rw [immW, if_pos hf, if_pos ⟨h1c, h2c⟩]
      · have e1 := eq_true h1c
        simp -implicitDefEqProofs (disch:=first|omega|simp only [go_sem,Nat.reduceAdd]) only [go_sem,Int.reduceLT,Int.reduceLE,Int.reduceEq,reduceIte,true_and, f8, cI, cI4, e1, h2c, dPick_t, dPick_f]
        refine ⟨rfl, rfl, (vy f0), (vy f1), (vy f4), (vy f7), (vy f8), (vy f9), ?_⟩
        rw [immW, if_pos hf, if_neg (fun hh => h2c hh.2)]
    · simp -implicitDefEqProofs (disch:=first|omega|simp only [go_sem,Nat.reduceAdd]) only [go_sem,Int.reduceLT,Int.reduceLE,Int.reduceEq,reduceIte,true_and, f8, cI, cI4, h1c, dPick_t, dPick_f]
      refine ⟨rfl, rfl, (vy f0), (vy f1), (vy f4), (vy f7), (vy f8), (vy f9), ?_⟩
      rw [immW, if_pos hf, if_neg (fun hh => h1c hh.1)]
  · simp -implicitDefEqProofs (disch:=first|omega|simp only [go_sem,Nat.reduceAdd]) only [go_sem,Int.reduceLT,Int.reduceLE,Int.reduceEq,reduceIte,true_and]
    refine ⟨rfl, rfl, (vy f0), (vy f1), (vy f4), (vy f7), (vy f8), (vy f9), ?_⟩
    rw [immW, if_neg hf]
  clear f0 f1 f4 f7 f8 f9 f10 fr
  rintro ⟨fr, df, K, rd⟩ ⟨rfl, rfl, f0, f1, f4, f7, f8, f9, hK⟩
  simp only at f0 f1 f4 f7 f8 f9 hK
  subst hK
  rw [← hone] at *
  simp -implicitDefEqProofs (disch:=first|omega|simp only [go_sem,Nat.reduceAdd]) only [go_sem,Int.reduceLT,Int.reduceLE,Int.reduceEq,reduceIte,true_and, f8, lc]
  refine ncall refIndex_c ?_
  simp -implicitDefEqProofs (disch:=first|omega|simp only [go_sem,Nat.reduceAdd]) only [go_sem,Int.reduceLT,Int.reduceLE,Int.reduceEq,reduceIte,true_and]
  have g' : (H.push (.row (fInstr.enc (oneI l i)) 0 false)).get h.next = some (.row (fInstr.enc zeroInstr) 0 false) := (get_push_other _ _ (by omega)).trans g
  have hst : ∀ x : Instr, storeAt (H.push (.row (fInstr.enc (oneI l i)) 0 false)) h.next 0 [.int .i64 x.pos, .int .i64 x.op, .int .i64 x.a, .int .i64 x.b, .int .i64 x.imm] = some ((H.push (.row (fInstr.enc (oneI l i)) 0 false)).set h.next (.row (fInstr.enc x) 0 false)) := fun x => storeAll g' rfl rfl
  by_cases he : indexE (oneI l i) = 0
  · have he' := eq_true he
    have hwe : IntKind.i64.wrap ((i : Int) + sizeI op) = i + sizeI op := wrap_i64_in (by omega) (by omega)
    simp -implicitDefEqProofs (disch:=first|omega|simp only [go_sem,Nat.reduceAdd]) only [go_sem,Int.reduceLT,Int.reduceLE,Int.reduceEq,reduceIte,true_and, he', f8, f1, f7, lc, hwe, f4, hst]
    refine ret_at (res_i (x := oneI l i) (n := i + sizeI op) (e := 0) (vy f4) vz vz (get_set_same _ _)) ⟨?_, (hEP _).set (by omega)⟩
    rw [hT, if_pos he]
  · simp -implicitDefEqProofs (disch:=first|omega|simp only [go_sem,Nat.reduceAdd]) only [go_sem,Int.reduceLT,Int.reduceLE,Int.reduceEq,reduceIte,true_and, he, bd_instr0, f4, hst zeroInstr]
    refine ret_at (res_i (x := zeroInstr) (n := 0) (e := indexE (oneI l i)) (vy f4) vz vz (get_set_same _ _)) ⟨?_, (hEP _).set (by omega)⟩
    rw [hT, if_neg he]
end Go.Proofs.Ytbdljpndncohaaa

namespace Go.Proofs.Ytbdljpndncohaaa
open Go.D
set_option maxRecDepth 100000

def formL : List Int := [0, 9, 5, 5, 5, 5, 4, 3, 3, 3, 3, 3, 3, 3, 3, 3, 3, 3, 3, 5, 3, 3, 16, 17, 1, 4, 7, 7]
def andI (a b : Int) : Int := IntKind.i64.wrap (BitVec.ofInt IntKind.i64.bits a &&& BitVec.ofInt IntKind.i64.bits b).toNat
theorem bin_andI {P : Program} {t : TypeId} {ox oy : Operand} {a b : Int} {h : DHeap} : dBinOp P .and t ox oy (.int .i64 a) (.int .i64 b) h = .ok (.value (.int .i64 (andI a b))) h := bin_and
theorem ar_form : arrElem Try.prog 146 = some (28, 1) := by kernel_rfl
theorem ar_pair : arrElem Try.prog 144 = some (2, 1) := by kernel_rfl
theorem vin_nb {S : Nat → Prop} {n : Int} {b : Bool} : VIn S (.tuple #[.int .i64 n, .bool b]) := by
  refine .tuple fun v hv => ?_
  simp only [List.mem_toArray, List.mem_cons, List.not_mem_nil, or_false] at hv
  rcases hv with rfl | rfl
  · exact .int _ _
  · exact .bool _
abbrev formV : List Value := formL.map (.int .i64 ·)
theorem bd_form : dBuild Try.prog 146 [(0, .int .i64 0), (1, .int .i64 9), (2, .int .i64 5), (3, .int .i64 5), (4, .int .i64 5), (5, .int .i64 5), (6, .int .i64 4), (7, .int .i64 3), (8, .int .i64 3), (9, .int .i64 3), (10, .int .i64 3), (11, .int .i64 3), (12, .int .i64 3), (13, .int .i64 3), (14, .int .i64 3), (15, .int .i64 3), (16, .int .i64 3), (17, .int .i64 3), (18, .int .i64 3), (19, .int .i64 5), (20, .int .i64 3), (21, .int .i64 3), (22, .int .i64 16), (23, .int .i64 17), (24, .int .i64 1), (25, .int .i64 4), (26, .int .i64 7), (27, .int .i64 7)] = some (.agg formV.toArray) := by kernel_rfl
theorem form_c {h : DHeap} {n : Nat} : DC Try.prog 89 [.int .i64 (n : Nat)] h (.ret (.tuple #[.int .i64 (formL.getD n 0), .bool (decide (n < 28))])) h := by
  refine Ct.pure (go_89 (by simp) ?_) vin_nb
  have hst : ∀ cs : List Value, cs.length = 28 → storeAt (h.push (.row cs 1 false)) h.next 0 formV = some (h.push (.row formV 1 false)) := fun cs hl => storeAll_push (by rw [hl]; rfl) rfl
  have hs : ∀ K, dStore Try.prog 146 (.pointer (some ⟨h.next, 0, none⟩)) (.agg formV.toArray) K = storeAt K h.next 0 formV := fun K => st_146 rfl
  have hc : ∀ o, cellAt (h.push (.row formV 1 false)) h.next o = formV[o]? := fun o => cellAt_row (get_push_same _ _)
  have hneg : ¬ ((n : Nat) : Int) < 0 := by omega
  by_cases hn : (28 : Int) ≤ (n : Nat)
  · have hn' := eq_true hn
    simp -implicitDefEqProofs (disch:=first|omega|simp only [go_sem,Nat.reduceAdd]) only [go_sem,Int.reduceLT,Int.reduceLE,Int.reduceEq,reduceIte,true_and, c89, bd_form, hs, hst, hneg, hn', dPick_t, dPick_f]
    refine ⟨_, rfl, ?_, Ext.push1 _ _⟩
    rw [decide_eq_false (by omega), List.getD_eq_getElem?_getD, List.getElem?_eq_none (by simp [formL]; omega)]
    rfl
  · have hia : dIndexAddr Try.prog 146 (.pointer (some ⟨h.next, 0, none⟩)) (.int .i64 (n : Nat)) = some (.pointer (some ⟨h.next, n, none⟩)) := by
      rw [dIndexAddr_arr ar_form (by omega) (by omega)]
      simp
    have hl : formV[n]? = some (.int .i64 (formL.getD n 0)) := by
      have h28 : n < formL.length := by simp [formL]; omega
      rw [List.getElem?_map, List.getElem?_eq_getElem h28, List.getD_eq_getElem?_getD, List.getElem?_eq_getElem h28]
      rfl
    simp -implicitDefEqProofs (disch:=first|omega|simp only [go_sem,Nat.reduceAdd]) only [go_sem,Int.reduceLT,Int.reduceLE,Int.reduceEq,reduceIte,true_and, c89, bd_form, hs, hst, hneg, hn, dPick_t, dPick_f, hia, hc, hl]
    refine ⟨_, rfl, ?_, Ext.push1 _ _⟩
    rw [decide_eq_true (by omega)]
def masks : List (Int × Int) := [(1, 1), (2, 1), (4, 1), (8, 2), (16, 2)]
def sizeUp (f : Int) (l : List (Int × Int)) : Int := l.foldl (fun n x => if andI f x.1 = 0 then n else n + x.2) 1
theorem pairAt : ∀ i : Nat, i < 5 → dIndex Try.prog 145 (.agg #[.int .i64 1, .int .i64 1, .int .i64 2, .int .i64 1, .int .i64 4, .int .i64 1, .int .i64 8, .int .i64 2, .int .i64 16, .int .i64 2]) (.int .i64 (i : Nat)) = some (.agg #[.int .i64 (masks.getD i (0, 0)).1, .int .i64 (masks.getD i (0, 0)).2])
  | 0, _ => by kernel_rfl
  | 1, _ => by kernel_rfl
  | 2, _ => by kernel_rfl
  | 3, _ => by kernel_rfl
  | 4, _ => by kernel_rfl
theorem bd_pair {a b : Int} : dBuild Try.prog 144 [(0, .int .i64 a), (1, .int .i64 b)] = some (.agg #[.int .i64 a, .int .i64 b]) := by kernel_rfl
theorem bd_pairs : dBuild Try.prog 145 [(0, .agg #[.int .i64 1, .int .i64 1]), (1, .agg #[.int .i64 2, .int .i64 1]), (2, .agg #[.int .i64 4, .int .i64 1]), (3, .agg #[.int .i64 8, .int .i64 2]), (4, .agg #[.int .i64 16, .int .i64 2])] = some (.agg #[.int .i64 1, .int .i64 1, .int .i64 2, .int .i64 1, .int .i64 4, .int .i64 1, .int .i64 8, .int .i64 2, .int .i64 16, .int .i64 2]) := by kernel_rfl
theorem ia_pair {id k : Nat} (hk : k < 2) : dIndexAddr Try.prog 144 (.pointer (some ⟨id, 0, none⟩)) (.int .i64 (k : Nat)) = some (.pointer (some ⟨id, k, none⟩)) := by
  rw [dIndexAddr_arr ar_pair (by omega) (by omega)]
  simp
theorem sizeUp_succ {f : Int} {i : Nat} (hi : i < 5) : sizeUp f (masks.take (i + 1)) = if andI f (masks.getD i (0, 0)).1 = 0 then sizeUp f (masks.take i) else sizeUp f (masks.take i) + (masks.getD i (0, 0)).2 := by
  unfold sizeUp
  have hl : i < masks.length := hi
  rw [List.take_succ_eq_append_getElem hl, List.foldl_append, List.getD_eq_getElem?_getD, List.getElem?_eq_getElem hl]
  rfl
theorem sizeUp_le (f : Int) (i : Nat) : 1 ≤ sizeUp f (masks.take i) ∧ sizeUp f (masks.take i) ≤ 8 := by
  match i with
  | 0 => simp [sizeUp]
  | 1 => simp [sizeUp, masks]; split <;> omega
  | 2 => simp [sizeUp, masks]; repeat' split
         all_goals omega
  | 3 => simp [sizeUp, masks]; repeat' split
         all_goals omega
  | 4 => simp [sizeUp, masks]; repeat' split
         all_goals omega
  | i + 5 => simp [sizeUp, masks]; repeat' split
             all_goals omega
/-- an instruction's size, and whether there is one -/
def sizeC (n : Nat) : Int := if n < 28 then sizeUp (formL.getD n 0) masks else 0
theorem size_c {h : DHeap} {n : Nat} : DC Try.prog 88 [.int .i64 (n : Nat)] h (.ret (.tuple #[.int .i64 (sizeC n), .bool (decide (n < 28))])) h := by
  refine Ct.pure (go_88 (by simp) ?_) vin_nb
  simp -implicitDefEqProofs (disch:=first|omega|simp only [go_sem,Nat.reduceAdd]) only [go_sem,Int.reduceLT,Int.reduceLE,Int.reduceEq,reduceIte,true_and, c88]
  refine ncall form_c ?_
  by_cases hn : n < 28
  case neg =>
    have hd := decide_eq_false hn
    simp -implicitDefEqProofs (disch:=first|omega|simp only [go_sem,Nat.reduceAdd]) only [go_sem,Int.reduceLT,Int.reduceLE,Int.reduceEq,reduceIte,true_and, hd]
    exact ⟨_, rfl, by simp [sizeC, hn], .refl _⟩
  have hd := decide_eq_true hn
  obtain ⟨f, hf⟩ : ∃ f, formL.getD n 0 = f := ⟨_, rfl⟩
  rw [hf]
  simp -implicitDefEqProofs (disch:=first|omega|simp only [go_sem,Nat.reduceAdd]) only [go_sem,Int.reduceLT,Int.reduceLE,Int.reduceEq,reduceIte,true_and, hd, bd_pair, bd_pairs]
  refine xloop (σ := Nat) (by kernel_rfl) (fun i s => s.df = [] ∧ s.fr 4 = some (.int .i64 f) ∧ s.fr 6 = some (.int .i64 (sizeUp f (masks.take i))) ∧ s.fr 21 = some (.agg #[.int .i64 1, .int .i64 1, .int .i64 2, .int .i64 1, .int .i64 4, .int .i64 1, .int .i64 8, .int .i64 2, .int .i64 16, .int .i64 2]) ∧ s.fr 22 = some (.int .i64 (i : Nat)) ∧ i ≤ 5 ∧ Ext h s.h) (fun i => 5 - i) 0 ?_ ?_
  · simp -implicitDefEqProofs (disch:=first|omega|simp only [go_sem,Nat.reduceAdd]) only [go_sem,Int.reduceLT,Int.reduceLE,Int.reduceEq,reduceIte,true_and]
    exact ⟨rfl, rfl, Nat.zero_le _, .refl _⟩
  · rintro i ⟨fr, df, K, rd⟩ K' hK' hX ⟨rfl, f4, f6, f21, f22, hi, hE⟩
    simp only at f4 f6 f21 f22 hE
    simp -implicitDefEqProofs (disch:=first|omega|simp only [go_sem,Nat.reduceAdd]) only [go_sem,Int.reduceLT,Int.reduceLE,Int.reduceEq,reduceIte,true_and, f22]
    refine XIf_dec (fun hc1 => ?_) (fun hc1 => ?_)
    · have hi5 : i < 5 := by omega
      have hx := pairAt i hi5
      have hsu := sizeUp_succ (f := f) hi5
      have hle := sizeUp_le f i
      have hle2 := sizeUp_le f (i + 1)
      obtain ⟨a, ha⟩ : ∃ a, (masks.getD i (0, 0)).1 = a := ⟨_, rfl⟩
      obtain ⟨b, hb⟩ : ∃ b, (masks.getD i (0, 0)).2 = b := ⟨_, rfl⟩
      rw [ha, hb] at hx hsu
      obtain ⟨K1, hK1⟩ : ∃ K1, K1 = K.push (.row [.int .i64 a, .int .i64 b] 1 false) := ⟨_, rfl⟩
      have g : K1.get K.next = some (.row [.int .i64 a, .int .i64 b] 1 false) := by rw [hK1]; exact get_push_same _ _
      have c0 : cellAt K1 K.next 0 = some (.int .i64 a) := cellAt_row g
      have c1 : cellAt K1 K.next 1 = some (.int .i64 b) := cellAt_row g
      have hst : storeAt (K.push (.row [.int .i64 0, .int .i64 0] 1 false)) K.next 0 [.int .i64 a, .int .i64 b] = some K1 := by rw [hK1]; exact storeAll_push rfl rfl
      have i0 : dIndexAddr Try.prog 144 (.pointer (some ⟨K.next, 0, none⟩)) (.int .i64 0) = some (.pointer (some ⟨K.next, 0, none⟩)) := ia_pair (id := K.next) (k := 0) (by decide)
      have i1 : dIndexAddr Try.prog 144 (.pointer (some ⟨K.next, 0, none⟩)) (.int .i64 1) = some (.pointer (some ⟨K.next, 1, none⟩)) := ia_pair (id := K.next) (k := 1) (by decide)
      have hE1 : Ext h K1 := by rw [hK1]; exact hE.push _
      have hw1 := wrap_succ hi5 (by omega)
      simp -implicitDefEqProofs (disch:=first|omega|simp only [go_sem,Nat.reduceAdd]) only [go_sem,Int.reduceLT,Int.reduceLE,Int.reduceEq,reduceIte,true_and, f21, f22, hx, hst, f4, i0, c0, ↓bin_andI]
      by_cases hz : andI f a = 0
      · have hz' := eq_true hz
        rw [if_pos hz] at hsu
        simp -implicitDefEqProofs (disch:=first|omega|simp only [go_sem,Nat.reduceAdd]) only [go_sem,Int.reduceLT,Int.reduceLE,Int.reduceEq,reduceIte,true_and, hz', f22, hw1]
        refine hK' (i + 1) _ ?_ (by omega)
        exact ⟨by trivial, (vy f4), by rw [hsu]; simp -implicitDefEqProofs (disch:=first|omega|simp only [go_sem,Nat.reduceAdd]) only [go_sem,Int.reduceLT,Int.reduceLE,Int.reduceEq,reduceIte,true_and, f6], (vy f21), vz, by omega, hE1⟩
      · rw [if_neg hz] at hsu
        have hwz : IntKind.i64.wrap (sizeUp f (masks.take i) + b) = sizeUp f (masks.take (i + 1)) := by rw [← hsu]; exact wrap_i64_in (by omega) (by omega)
        simp -implicitDefEqProofs (disch:=first|omega|simp only [go_sem,Nat.reduceAdd]) only [go_sem,Int.reduceLT,Int.reduceLE,Int.reduceEq,reduceIte,true_and, hz, f22, f6, hw1, i1, c1, hwz]
        refine hK' (i + 1) _ ?_ (by omega)
        exact ⟨by trivial, (vy f4), vz, (vy f21), vz, by omega, hE1⟩
    · obtain rfl : i = 5 := by omega
      refine hX _ _ (by simp) ?_
      simp -implicitDefEqProofs (disch:=first|omega|simp only [go_sem,Nat.reduceAdd]) only [go_sem,Int.reduceLT,Int.reduceLE,Int.reduceEq,reduceIte,true_and, f6]
      refine ⟨_, rfl, ?_, hE⟩
      rw [sizeC, if_pos hn, hf]
      rfl
end Go.Proofs.Ytbdljpndncohaaa

namespace Go.Proofs.Ytbdljpndncohaaa
open Go.D
set_option maxRecDepth 100000

def indexB (x : Instr) : Bool := decide (0 ≤ x.a) && (decide (x.a < 8) && (decide (0 ≤ x.b) && (decide (x.b < 8) && (!decide (x.op = 19) || (decide (x.imm = 8) || (decide (x.imm = 16) || decide (x.imm = 32)))))))
theorem index_c {h : DHeap} {x : Instr} : DC Try.prog 90 [instrV x] h (.ret (.bool (indexB x))) h := by
  obtain ⟨x1, x2, x3, x4, x5⟩ := x
  refine Ct.pure (go_90 (by simp) ?_) (vin_bool _)
  obtain ⟨H, hH⟩ : ∃ H, H = h.push (.row [.int .i64 x1, .int .i64 x2, .int .i64 x3, .int .i64 x4, .int .i64 x5] 0 false) := ⟨_, rfl⟩
  have hE : Ext h H := by rw [hH]; exact Ext.push1 _ _
  have g : H.get h.next = some (.row [.int .i64 x1, .int .i64 x2, .int .i64 x3, .int .i64 x4, .int .i64 x5] 0 false) := by rw [hH]; exact get_push_same _ _
  have a1 : cellAt H h.next 1 = some (.int .i64 x2) := cellAt_row g
  have a2 : cellAt H h.next 2 = some (.int .i64 x3) := cellAt_row g
  have a3 : cellAt H h.next 3 = some (.int .i64 x4) := cellAt_row g
  have a4 : cellAt H h.next 4 = some (.int .i64 x5) := cellAt_row g
  simp -implicitDefEqProofs (disch:=first|omega|simp only [go_sem,Nat.reduceAdd]) only [go_sem,Int.reduceLT,Int.reduceLE,Int.reduceEq,reduceIte,true_and, c90, ← hH, a2]
  clear hH
  (repeat' first | (refine NStp_split (fun hb => ?_) (fun hb => ?_) <;> (try simp only [Bool.not_eq_true', Bool.not_eq_false'] at hb) <;> simp -implicitDefEqProofs (disch:=first|omega|simp only [go_sem,Nat.reduceAdd]) only [go_sem,Int.reduceLT,Int.reduceLE,Int.reduceEq,reduceIte,true_and, dPick_t, dPick_f, hb, a1, a2, a3, a4]) | (refine XIf_split (fun hb => ?_) (fun hb => ?_) <;> (try simp only [Bool.not_eq_true', Bool.not_eq_false'] at hb) <;> simp -implicitDefEqProofs (disch:=first|omega|simp only [go_sem,Nat.reduceAdd]) only [go_sem,Int.reduceLT,Int.reduceLE,Int.reduceEq,reduceIte,true_and, dPick_t, dPick_f, hb, a1, a2, a3, a4]))
  all_goals exact ⟨_, rfl, by simp_all [indexB] <;> omega, hE⟩
theorem dSlice_ext {P : Program} {t : TypeId} {α : Type} {R : Rep α} {h K : DHeap} {u : Value} {l : List α} {lo hi mx : Option Value} (hu : Arg R h u l) (e : Ext h K) : dSlice P t u lo hi mx K = dSlice P t u lo hi mx h := by
  rcases hu with ⟨rfl, rfl⟩ | ⟨id, o, c, cells, esz, ro, rfl, hid, _⟩
  · cases hd : P.underlying t with
    | none => simp only [dSlice, hd]
    | some d => cases d <;> simp only [dSlice, hd]
  · have hf : ∀ z, rowFits K id z = rowFits h id z := fun z => by unfold rowFits; rw [e.get _ hid]
    cases hd : P.underlying t with
    | none => simp only [dSlice, hd]
    | some d => cases d <;> simp only [dSlice, hd, hf]
/-- the rest of some bytes, behind the first -/
theorem rest_of {h : DHeap} {u : Value} {l : List Int} {k : Nat} (hu : Arg fU8.rep h u l) (hk : k ≤ l.length) : ∃ u', (∀ K, Ext h K → dSlice Try.prog 22 u (some (.int .i64 (k : Nat))) none none K = some u') ∧ Arg fU8.rep h u' (l.drop k) := by
  have hj : boundOf (none : Option Value) l.length l.length = some l.length := rfl
  obtain ⟨u', e1, e2⟩ := hu.slice (P := Try.prog) (t := 22) el_22 (by decide) hj (bound_nat (k := .i64) hk) hk (Nat.le_refl _)
  rw [List.take_length] at e2
  exact ⟨u', fun K e => (dSlice_ext hu e).trans e1, e2⟩
theorem part_of {h : DHeap} {u : Value} {l : List Int} {i j : Nat} (hu : Arg fU8.rep h u l) (hi : i ≤ j) (hj : j ≤ l.length) : ∃ u', (∀ K, Ext h K → dSlice Try.prog 22 u (some (.int .i64 (i : Nat))) (some (.int .i64 (j : Nat))) none K = some u') ∧ Arg fU8.rep h u' ((l.take j).drop i) := by
  obtain ⟨u', e1, e2⟩ := hu.slice (P := Try.prog) (t := 22) el_22 (by decide) (bound_nat (k := .i64) hj) (bound_nat (k := .i64) hi) hi hj
  exact ⟨u', fun K e => (dSlice_ext hu e).trans e1, e2⟩
theorem one_region0 {K0 K1 : DHeap} {u u' : Value} {id o B : Nat} {x : Int} {fr : Fr} {rd : Option Nat} (f9 : fr 9 = some (.pointer (some ⟨B, 0, none⟩))) (f12 : fr 12 = some u)
    (h1 : dIndexAddr Try.prog 22 u (.int .i64 0) = some (.pointer (some ⟨id, o, none⟩))) (c0 : cellAt K0 id o = some (.int .u8 x)) (c1 : cellAt K1 id o = some (.int .u8 x)) (hx : IntKind.i64.wrap x = x)
    (hs0 : dSlice Try.prog 22 u (some (.int .i64 1)) none none K0 = some u') (hs1 : dSlice Try.prog 22 u (some (.int .i64 1)) none none K1 = some u') (s0 : storeAt K0 B 2 [.int .i64 x] = some K1) (s1 : storeAt K1 B 2 [.int .i64 x] = some K1) :
    NC Try.prog 132 r70_0 (DThen (fun s => s.df = [] ∧ s.rd = rd ∧ s.h = K1 ∧ s.fr 12 = some u' ∧ s.fr 0 = fr 0 ∧ s.fr 1 = fr 1 ∧ s.fr 4 = fr 4 ∧ s.fr 7 = fr 7 ∧ s.fr 9 = fr 9 ∧ s.fr 10 = fr 10) (fun _ _ => False)) ⟨fr, [], K0, rd⟩ := by
  refine NC.regs (l := l70_0) (by kernel_rfl) (by kernel_rfl) (by kernel_rfl) rfl (by kernel_rfl) (by kernel_rfl) (fun a b => b = a ∨ b = K1) (fun _ => .inl rfl) (fun a b c h g => ?_) (fun i h v => (i = 7 → h = K1) ∧ (i ≠ 7 → v = ([u, .pointer (some ⟨id, o, none⟩), .int .u8 x, .int .i64 x, u, u', .pointer (some ⟨B, 2, none⟩), undef, u'] : List Value).getD i undef)) ?_ ?_
  · rcases g with rfl | rfl
    · exact h
    · exact .inr rfl
  case refine_3 =>
    rintro ⟨fr1, df1, K, rd1⟩ g hF
    obtain ⟨_, q7, _⟩ := (hF 7 (by decide)).fact
    have f8 := (hF 8 (by decide)).eq (d := 12) (c := u') rfl fun _ _ e => e.2 (by decide)
    exact ⟨g.df, g.rd, q7 rfl, f8, g.fr 0 (by kernel_rfl), g.fr 1 (by kernel_rfl), g.fr 4 (by kernel_rfl), g.fr 7 (by kernel_rfl), g.fr 9 (by kernel_rfl), g.fr 10 (by kernel_rfl)⟩
  intro i oo s ho g hpre hown hF
  have F9 : s.fr 9 = some (.pointer (some ⟨B, 0, none⟩)) := (g.fr 9 (by kernel_rfl)).trans f9
  have hi' : i < 9 := (List.getElem?_eq_some_iff.1 ho).1
  have hh : s.h = K0 ∨ s.h = K1 := g.ext
  have hc : cellAt s.h id o = some (.int .u8 x) := by rcases hh with e | e <;> rw [e] <;> assumption
  have hs : dSlice Try.prog 22 u (some (.int .i64 1)) none none s.h = some u' := by rcases hh with e | e <;> rw [e] <;> assumption
  match i, hi' with
  | 0, _ =>
    simp only [l70_0, List.getElem?_cons_zero, List.getElem?_cons_succ, Option.some.injEq] at ho
    subst ho
    have F12 : s.fr 12 = some u := (hpre 8 12 (by kernel_rfl) (by kernel_rfl)).trans f12
    exact reg_pure (v := u) (fun _ => .inl rfl) vz (vy F12) ⟨fun e => absurd e (by decide), fun _ => rfl⟩
  | 1, _ =>
    simp only [l70_0, List.getElem?_cons_zero, List.getElem?_cons_succ, Option.some.injEq] at ho
    subst ho
    have f0 : s.fr 65 = some (u) := (hF 0 (by kernel_rfl)).eq rfl fun _ _ e => e.2 (by decide)
    exact reg_pure (v := .pointer (some ⟨id, o, none⟩)) (fun _ => .inl rfl) vz (by simp -implicitDefEqProofs (disch:=first|omega|simp only [go_sem,Nat.reduceAdd]) only [go_sem,Int.reduceLT,Int.reduceLE,Int.reduceEq,reduceIte,true_and, f0, h1]) ⟨fun e => absurd e (by decide), fun _ => rfl⟩
  | 2, _ =>
    simp only [l70_0, List.getElem?_cons_zero, List.getElem?_cons_succ, Option.some.injEq] at ho
    subst ho
    have f1 : s.fr 66 = some (.pointer (some ⟨id, o, none⟩)) := (hF 1 (by kernel_rfl)).eq rfl fun _ _ e => e.2 (by decide)
    exact reg_pure (v := .int .u8 x) (fun _ => .inl rfl) vz (by simp -implicitDefEqProofs (disch:=first|omega|simp only [go_sem,Nat.reduceAdd]) only [go_sem,Int.reduceLT,Int.reduceLE,Int.reduceEq,reduceIte,true_and, f1, hc]) ⟨fun e => absurd e (by decide), fun _ => rfl⟩
  | 3, _ =>
    simp only [l70_0, List.getElem?_cons_zero, List.getElem?_cons_succ, Option.some.injEq] at ho
    subst ho
    have f2 : s.fr 67 = some (.int .u8 x) := (hF 2 (by kernel_rfl)).eq rfl fun _ _ e => e.2 (by decide)
    exact reg_pure (v := .int .i64 x) (fun _ => .inl rfl) vz (by simp -implicitDefEqProofs (disch:=first|omega|simp only [go_sem,Nat.reduceAdd]) only [go_sem,Int.reduceLT,Int.reduceLE,Int.reduceEq,reduceIte,true_and, f2, hx]) ⟨fun e => absurd e (by decide), fun _ => rfl⟩
  | 4, _ =>
    simp only [l70_0, List.getElem?_cons_zero, List.getElem?_cons_succ, Option.some.injEq] at ho
    subst ho
    have F12 : s.fr 12 = some u := (hpre 8 12 (by kernel_rfl) (by kernel_rfl)).trans f12
    exact reg_pure (v := u) (fun _ => .inl rfl) vz (vy F12) ⟨fun e => absurd e (by decide), fun _ => rfl⟩
  | 5, _ =>
    simp only [l70_0, List.getElem?_cons_zero, List.getElem?_cons_succ, Option.some.injEq] at ho
    subst ho
    have f4 : s.fr 69 = some (u) := (hF 4 (by kernel_rfl)).eq rfl fun _ _ e => e.2 (by decide)
    exact reg_pure (v := u') (fun _ => .inl rfl) vz (by simp -implicitDefEqProofs (disch:=first|omega|simp only [go_sem,Nat.reduceAdd]) only [go_sem,Int.reduceLT,Int.reduceLE,Int.reduceEq,reduceIte,true_and, f4, hs]) ⟨fun e => absurd e (by decide), fun _ => rfl⟩
  | 6, _ =>
    simp only [l70_0, List.getElem?_cons_zero, List.getElem?_cons_succ, Option.some.injEq] at ho
    subst ho
    exact reg_pure (v := .pointer (some ⟨B, 2, none⟩)) (fun _ => .inl rfl) vz (vy F9) ⟨fun e => absurd e (by decide), fun _ => rfl⟩
  | 7, _ =>
    simp only [l70_0, List.getElem?_cons_zero, List.getElem?_cons_succ, Option.some.injEq] at ho
    subst ho
    have f3 : s.fr 68 = some (.int .i64 x) := (hF 3 (by kernel_rfl)).eq rfl fun _ _ e => e.2 (by decide)
    have f6 : s.fr 71 = some (.pointer (some ⟨B, 2, none⟩)) := (hF 6 (by kernel_rfl)).eq rfl fun _ _ e => e.2 (by decide)
    have hst : storeAt s.h B 2 [.int .i64 x] = some K1 := by rcases hh with e | e <;> rw [e] <;> assumption
    exact reg_store (h' := K1) vz (by simp -implicitDefEqProofs (disch:=first|omega|simp only [go_sem,Nat.reduceAdd]) only [go_sem,Int.reduceLT,Int.reduceLE,Int.reduceEq,reduceIte,true_and, f3, f6, hst]) (.inr rfl) ⟨fun _ => rfl, fun e => absurd rfl e⟩ fun j u hj hv => ⟨fun _ => rfl, hv.2⟩
  | 8, _ =>
    simp only [l70_0, List.getElem?_cons_zero, List.getElem?_cons_succ, Option.some.injEq] at ho
    subst ho
    have f5 : s.fr 70 = some (u') := (hF 5 (by kernel_rfl)).eq rfl fun _ _ e => e.2 (by decide)
    exact reg_pure (v := u') (fun _ => .inl rfl) vz (vy f5) ⟨fun e => absurd e (by decide), fun _ => rfl⟩
theorem one_region1 {K0 K1 : DHeap} {u u' : Value} {id o B : Nat} {x : Int} {fr : Fr} {rd : Option Nat} (f9 : fr 9 = some (.pointer (some ⟨B, 0, none⟩))) (f12 : fr 12 = some u)
    (h1 : dIndexAddr Try.prog 22 u (.int .i64 0) = some (.pointer (some ⟨id, o, none⟩))) (c0 : cellAt K0 id o = some (.int .u8 x)) (c1 : cellAt K1 id o = some (.int .u8 x)) (hx : IntKind.i64.wrap x = x)
    (hs0 : dSlice Try.prog 22 u (some (.int .i64 1)) none none K0 = some u') (hs1 : dSlice Try.prog 22 u (some (.int .i64 1)) none none K1 = some u') (s0 : storeAt K0 B 3 [.int .i64 x] = some K1) (s1 : storeAt K1 B 3 [.int .i64 x] = some K1) :
    NC Try.prog 132 r70_1 (DThen (fun s => s.df = [] ∧ s.rd = rd ∧ s.h = K1 ∧ s.fr 12 = some u' ∧ s.fr 0 = fr 0 ∧ s.fr 1 = fr 1 ∧ s.fr 4 = fr 4 ∧ s.fr 7 = fr 7 ∧ s.fr 9 = fr 9 ∧ s.fr 10 = fr 10) (fun _ _ => False)) ⟨fr, [], K0, rd⟩ := by
  refine NC.regs (l := l70_1) (by kernel_rfl) (by kernel_rfl) (by kernel_rfl) rfl (by kernel_rfl) (by kernel_rfl) (fun a b => b = a ∨ b = K1) (fun _ => .inl rfl) (fun a b c h g => ?_) (fun i h v => (i = 7 → h = K1) ∧ (i ≠ 7 → v = ([u, .pointer (some ⟨id, o, none⟩), .int .u8 x, .int .i64 x, u, u', .pointer (some ⟨B, 3, none⟩), undef, u'] : List Value).getD i undef)) ?_ ?_
  · rcases g with rfl | rfl
    · exact h
    · exact .inr rfl
  case refine_3 =>
    rintro ⟨fr1, df1, K, rd1⟩ g hF
    obtain ⟨_, q7, _⟩ := (hF 7 (by decide)).fact
    have f8 := (hF 8 (by decide)).eq (d := 12) (c := u') rfl fun _ _ e => e.2 (by decide)
    exact ⟨g.df, g.rd, q7 rfl, f8, g.fr 0 (by kernel_rfl), g.fr 1 (by kernel_rfl), g.fr 4 (by kernel_rfl), g.fr 7 (by kernel_rfl), g.fr 9 (by kernel_rfl), g.fr 10 (by kernel_rfl)⟩
  intro i oo s ho g hpre hown hF
  have F9 : s.fr 9 = some (.pointer (some ⟨B, 0, none⟩)) := (g.fr 9 (by kernel_rfl)).trans f9
  have hi' : i < 9 := (List.getElem?_eq_some_iff.1 ho).1
  have hh : s.h = K0 ∨ s.h = K1 := g.ext
  have hc : cellAt s.h id o = some (.int .u8 x) := by rcases hh with e | e <;> rw [e] <;> assumption
  have hs : dSlice Try.prog 22 u (some (.int .i64 1)) none none s.h = some u' := by rcases hh with e | e <;> rw [e] <;> assumption
  match i, hi' with
  | 0, _ =>
    simp only [l70_1, List.getElem?_cons_zero, List.getElem?_cons_succ, Option.some.injEq] at ho
    subst ho
    have F12 : s.fr 12 = some u := (hpre 8 12 (by kernel_rfl) (by kernel_rfl)).trans f12
    exact reg_pure (v := u) (fun _ => .inl rfl) vz (vy F12) ⟨fun e => absurd e (by decide), fun _ => rfl⟩
  | 1, _ =>
    simp only [l70_1, List.getElem?_cons_zero, List.getElem?_cons_succ, Option.some.injEq] at ho
    subst ho
    have f0 : s.fr 75 = some (u) := (hF 0 (by kernel_rfl)).eq rfl fun _ _ e => e.2 (by decide)
    exact reg_pure (v := .pointer (some ⟨id, o, none⟩)) (fun _ => .inl rfl) vz (by simp -implicitDefEqProofs (disch:=first|omega|simp only [go_sem,Nat.reduceAdd]) only [go_sem,Int.reduceLT,Int.reduceLE,Int.reduceEq,reduceIte,true_and, f0, h1]) ⟨fun e => absurd e (by decide), fun _ => rfl⟩
  | 2, _ =>
    simp only [l70_1, List.getElem?_cons_zero, List.getElem?_cons_succ, Option.some.injEq] at ho
    subst ho
    have f1 : s.fr 76 = some (.pointer (some ⟨id, o, none⟩)) := (hF 1 (by kernel_rfl)).eq rfl fun _ _ e => e.2 (by decide)
    exact reg_pure (v := .int .u8 x) (fun _ => .inl rfl) vz (by simp -implicitDefEqProofs (disch:=first|omega|simp only [go_sem,Nat.reduceAdd]) only [go_sem,Int.reduceLT,Int.reduceLE,Int.reduceEq,reduceIte,true_and, f1, hc]) ⟨fun e => absurd e (by decide), fun _ => rfl⟩
  | 3, _ =>
    simp only [l70_1, List.getElem?_cons_zero, List.getElem?_cons_succ, Option.some.injEq] at ho
    subst ho
    have f2 : s.fr 77 = some (.int .u8 x) := (hF 2 (by kernel_rfl)).eq rfl fun _ _ e => e.2 (by decide)
    exact reg_pure (v := .int .i64 x) (fun _ => .inl rfl) vz (by simp -implicitDefEqProofs (disch:=first|omega|simp only [go_sem,Nat.reduceAdd]) only [go_sem,Int.reduceLT,Int.reduceLE,Int.reduceEq,reduceIte,true_and, f2, hx]) ⟨fun e => absurd e (by decide), fun _ => rfl⟩
  | 4, _ =>
    simp only [l70_1, List.getElem?_cons_zero, List.getElem?_cons_succ, Option.some.injEq] at ho
    subst ho
    have F12 : s.fr 12 = some u := (hpre 8 12 (by kernel_rfl) (by kernel_rfl)).trans f12
    exact reg_pure (v := u) (fun _ => .inl rfl) vz (vy F12) ⟨fun e => absurd e (by decide), fun _ => rfl⟩
  | 5, _ =>
    simp only [l70_1, List.getElem?_cons_zero, List.getElem?_cons_succ, Option.some.injEq] at ho
    subst ho
    have f4 : s.fr 79 = some (u) := (hF 4 (by kernel_rfl)).eq rfl fun _ _ e => e.2 (by decide)
    exact reg_pure (v := u') (fun _ => .inl rfl) vz (by simp -implicitDefEqProofs (disch:=first|omega|simp only [go_sem,Nat.reduceAdd]) only [go_sem,Int.reduceLT,Int.reduceLE,Int.reduceEq,reduceIte,true_and, f4, hs]) ⟨fun e => absurd e (by decide), fun _ => rfl⟩
  | 6, _ =>
    simp only [l70_1, List.getElem?_cons_zero, List.getElem?_cons_succ, Option.some.injEq] at ho
    subst ho
    exact reg_pure (v := .pointer (some ⟨B, 3, none⟩)) (fun _ => .inl rfl) vz (vy F9) ⟨fun e => absurd e (by decide), fun _ => rfl⟩
  | 7, _ =>
    simp only [l70_1, List.getElem?_cons_zero, List.getElem?_cons_succ, Option.some.injEq] at ho
    subst ho
    have f3 : s.fr 78 = some (.int .i64 x) := (hF 3 (by kernel_rfl)).eq rfl fun _ _ e => e.2 (by decide)
    have f6 : s.fr 81 = some (.pointer (some ⟨B, 3, none⟩)) := (hF 6 (by kernel_rfl)).eq rfl fun _ _ e => e.2 (by decide)
    have hst : storeAt s.h B 3 [.int .i64 x] = some K1 := by rcases hh with e | e <;> rw [e] <;> assumption
    exact reg_store (h' := K1) vz (by simp -implicitDefEqProofs (disch:=first|omega|simp only [go_sem,Nat.reduceAdd]) only [go_sem,Int.reduceLT,Int.reduceLE,Int.reduceEq,reduceIte,true_and, f3, f6, hst]) (.inr rfl) ⟨fun _ => rfl, fun e => absurd rfl e⟩ fun j u hj hv => ⟨fun _ => rfl, hv.2⟩
  | 8, _ =>
    simp only [l70_1, List.getElem?_cons_zero, List.getElem?_cons_succ, Option.some.injEq] at ho
    subst ho
    have f5 : s.fr 80 = some (u') := (hF 5 (by kernel_rfl)).eq rfl fun _ _ e => e.2 (by decide)
    exact reg_pure (v := u') (fun _ => .inl rfl) vz (vy f5) ⟨fun e => absurd e (by decide), fun _ => rfl⟩
end Go.Proofs.Ytbdljpndncohaaa

namespace Go.Proofs.Ytbdljpndncohaaa
open Go.D
set_option maxRecDepth 100000

/-- the program's tables are the reference's -/
theorem tables {n : Nat} (hn : n < 28) : sizeC n = sizeI n ∧ (andI (formL.getD n 0) 1 = 0 ↔ firstB n = false) ∧ (andI (formL.getD n 0) 2 = 0 ↔ twoB n = false) ∧ (andI (formL.getD n 0) 4 = 0 ↔ wideI n ≠ 1) ∧ (andI (formL.getD n 0) 8 = 0 ↔ n ≠ 1) ∧ (andI (formL.getD n 0) 16 = 0 ↔ ¬ (wideI n = 2 ∧ n ≠ 1)) ∧ (n = 1 → wideI n = 2) ∧ sizeI n ≠ 0 := by
  have : ∀ n : Nat, n < 28 → sizeC n = sizeI n ∧ (andI (formL.getD n 0) 1 = 0 ↔ firstB n = false) ∧ (andI (formL.getD n 0) 2 = 0 ↔ twoB n = false) ∧ (andI (formL.getD n 0) 4 = 0 ↔ wideI n ≠ 1) ∧ (andI (formL.getD n 0) 8 = 0 ↔ n ≠ 1) ∧ (andI (formL.getD n 0) 16 = 0 ↔ ¬ (wideI n = 2 ∧ n ≠ 1)) ∧ (n = 1 → wideI n = 2) ∧ sizeI n ≠ 0 := by decide
  exact this n hn
theorem size_none {n : Int} (hn : 28 ≤ n) : sizeI n = 0 := by
  unfold sizeI
  repeat' split
  all_goals omega
theorem indexB_eq {l : List Int} {i : Nat} (hb : ∀ j, 0 ≤ l.getD j 0) : indexB (oneI l i) = decide (indexE (oneI l i) = 0) ∧ (indexE (oneI l i) ≠ 0 → indexE (oneI l i) = 132) := by
  have h1 := hb (i + 1)
  have h2 := hb (i + 1 + if firstB (l.getD i 0) then 1 else 0)
  have e1 : (oneI l i).a = if firstB (l.getD i 0) then l.getD (i + 1) 0 else 0 := rfl
  have e2 : (oneI l i).b = if twoB (l.getD i 0) then l.getD (i + 1 + if firstB (l.getD i 0) then 1 else 0) 0 else 0 := rfl
  have e3 : (oneI l i).op = l.getD i 0 := rfl
  generalize oneI l i = x at e1 e2 e3 ⊢
  generalize l.getD (i + 1 + if firstB (l.getD i 0) then 1 else 0) 0 = yb at h2 e2
  generalize l.getD (i + 1) 0 = ya at h1 e1
  rw [← e3] at e1 e2
  unfold indexB indexE
  cases hf : firstB x.op <;> cases ht : twoB x.op <;> rw [hf] at e1 <;> rw [ht] at e2 <;> simp only [Bool.false_eq_true, if_true, if_false] at e1 e2
  all_goals
    rw [e1, e2]
    constructor
    · by_cases p19 : x.op = 19 <;> by_cases p8 : x.imm = 8 <;> by_cases p16 : x.imm = 16 <;> by_cases p32 : x.imm = 32 <;> by_cases q1 : ya < 8 <;> by_cases q2 : yb < 8 <;> simp [p19, p8, p16, p32, q1, q2, h1, h2, Int.not_lt.1, Int.not_le.2, Int.not_lt.2] <;> omega
    · intro h
      split at h
      · rw [if_pos (by assumption)]
      · rw [if_neg (by assumption)]
        split at h
        · rw [if_pos (by assumption)]
        · exact absurd rfl h
theorem or16 {x y : Int} (hx : 0 ≤ x) (hx2 : x ≤ 255) (hy : 0 ≤ y) (hy2 : y ≤ 255) :
    IntKind.u16.wrap (((BitVec.ofInt 16 x ||| BitVec.ofInt 16 (IntKind.u16.wrap (y * 256))).toNat : Nat) : Int) = x + 256 * y := by
  obtain ⟨m, rfl⟩ : ∃ m : Nat, y = m := ⟨y.toNat, by omega⟩
  obtain ⟨n, rfl⟩ : ∃ n : Nat, x = n := ⟨x.toNat, by omega⟩
  have h1 : IntKind.u16.wrap ((m : Int) * 256) = ((m * 256 : Nat) : Int) := by rw [wrap_in (inK_u16.2 ⟨by omega, by omega⟩)]; omega
  rw [h1]
  have h3 : (BitVec.ofInt 16 ((m * 256 : Nat) : Int)).toNat = m * 256 := by simp; omega
  have h4 : (BitVec.ofInt 16 (n : Int)).toNat = n := by simp; omega
  rw [BitVec.toNat_or, h3, h4]
  have h5 : n ||| m * 256 = m * 256 + n := by
    rw [Nat.or_comm, show m * 256 = m <<< 8 by rw [Nat.shiftLeft_eq]]
    exact (Nat.shiftLeft_add_eq_or_of_lt (by omega) m).symm
  rw [h5, wrap_in (inK_u16.2 ⟨by omega, by omega⟩)]
  omega
theorem wrap_i16 {n : Int} (h0 : 0 ≤ n) (h1 : n ≤ 65535) : IntKind.i16.wrap n = if 32768 ≤ n then n - 65536 else n := by
  have e : n % 2 ^ 16 = n := by omega
  simp only [IntKind.wrap, IntKind.signed, IntKind.bits, e]
  by_cases h2 : 32768 ≤ n
  · rw [if_pos h2, if_pos (by simpa using h2)]
    rfl
  · rw [if_neg h2, if_neg (by simpa using h2)]
def orH (a b : Int) : Int := IntKind.u16.wrap (BitVec.ofInt IntKind.u16.bits a ||| BitVec.ofInt IntKind.u16.bits b).toNat
theorem bin_orH {P : Program} {t : TypeId} {ox oy : Operand} {a b : Int} {h : DHeap} : dBinOp P .or t ox oy (.int .u16 a) (.int .u16 b) h = .ok (.value (.int .u16 (orH a b))) h := bin_or
theorem bin_shl8 {P : Program} {t : TypeId} {ox oy : Operand} {a : Int} {h : DHeap} : dBinOp P .shl t ox oy (.int .u16 a) (.int .u64 8) h = .ok (.value (.int .u16 (IntKind.u16.wrap (a * 256)))) h := bin_shl (by decide)
theorem orH_eq {x y : Int} (hx : 0 ≤ x) (hx2 : x ≤ 255) (hy : 0 ≤ y) (hy2 : y ≤ 255) : orH x (IntKind.u16.wrap (y * 256)) = x + 256 * y := or16 hx hx2 hy hy2
theorem XIf_cutB {P : Program} {nt id : Nat} {x y : Code} {K : St → Prop} {Q : DExit → St → Prop} {s : St} {t : Bool} (M : St → Prop) (h1 : t = true → xs P nt x (DBlock id (DThen M Q)) s) (h2 : t = false → xs P nt y (DBlock id (DThen M Q)) s) (h3 : ∀ s', M s' → K s') :
    XIf P nt x y (DBlock id (DThen K Q)) s (some (.bool t)) := ⟨fun ht => xblock_cut M (h1 ht) h3, fun ht => xblock_cut M (h2 ht) h3⟩
/-- how things lie on the way -/
def OnE (B : Nat) (H : DHeap) (i : Nat) (op : Int) (x : Instr) (s : St) : Prop :=
  s.df = [] ∧ s.rd = none ∧ s.fr 1 = some (.int .i64 (i : Nat)) ∧ s.fr 4 = some (.pointer (some ⟨B, 0, none⟩)) ∧ s.fr 7 = some (.int .i64 (sizeI op)) ∧ s.fr 9 = some (.pointer (some ⟨H.next, 0, none⟩)) ∧ s.h = H.push (.row (fInstr.enc x) 0 false)
def OnM (B : Nat) (H : DHeap) (v : Value) (i : Nat) (op f a b imm : Int) (u : Value) (s : St) : Prop :=
  s.df = [] ∧ s.rd = none ∧ s.fr 0 = some v ∧ s.fr 1 = some (.int .i64 (i : Nat)) ∧ s.fr 4 = some (.pointer (some ⟨B, 0, none⟩)) ∧ s.fr 7 = some (.int .i64 (sizeI op)) ∧ s.fr 9 = some (.pointer (some ⟨H.next, 0, none⟩)) ∧ s.fr 10 = some (.int .i64 f) ∧ s.fr 12 = some u ∧ s.h = H.push (.row (fInstr.enc ⟨(i : Nat), op, a, b, imm⟩) 0 false)
theorem getD_part {l : List Int} {j k m : Nat} (hm : k + j < m) : ((l.take m).drop k).getD j 0 = l.getD (k + j) 0 := by
  simp [List.getD_eq_getElem?_getD, List.getElem?_take, hm]
set_option maxHeartbeats 2000000 in
theorem one_c {h : DHeap} {v : Value} {l : List Int} {i : Nat} (hb : Arg fU8.rep h v l) (hl : l.length ≤ 4294967296) (hi : i ≤ 4294967296) :
    DC Try.prog 70 [v, .int .i64 (i : Nat)] h (.ret (.tuple #[instrV (oneT l i).1, .int .i64 (oneT l i).2.1, .int .i64 (oneT l i).2.2])) h := by
  refine Ct.pure (go_70 (by simp) ?_) vin_one
  obtain ⟨H, hH⟩ : ∃ H, H = h.push (.row [.int .i64 0, .int .i64 0, .int .i64 0, .int .i64 0, .int .i64 0] 0 false) := ⟨_, rfl⟩
  have hE : Ext h H := by rw [hH]; exact Ext.push1 _ _
  have g : H.get h.next = some (.row (fInstr.enc zeroInstr) 0 false) := by rw [hH]; exact get_push_same _ _
  have hHn : H.next = h.next + 1 := by rw [hH]; rfl
  have el : ∀ K, dLen Try.prog #[22] v K = some (.int .i64 (l.length : Nat)) := hb.lens (P := Try.prog) (ts := #[22]) (t := 22) rfl isl_22
  have hz : storeAt H h.next 0 [.int .i64 0, .int .i64 0, .int .i64 0, .int .i64 0, .int .i64 0] = some H := by
    rw [storeAt_row g (Nat.le_of_ble_eq_true rfl) rfl]
    exact congrArg some (set_self g)
  have hneg : ¬ ((i : Nat) : Int) < 0 := by omega
  by_cases h0 : ((l.length : Nat) : Int) ≤ (i : Nat)
  · have h0' := eq_true h0
    simp -implicitDefEqProofs (disch:=first|omega|simp only [go_sem,Nat.reduceAdd]) only [go_sem,Int.reduceLT,Int.reduceLE,Int.reduceEq,reduceIte,true_and, c70, ← hH, hneg, h0', el, dPick_t, dPick_f, bd_instr0, hz]
    refine ret_at (res_i (n := 0) (e := 130) vz vz vz g) ⟨?_, hE⟩
    rw [oneT, if_pos (by omega)]
  have hil : i < l.length := by omega
  have hbyte : ∀ j, 0 ≤ l.getD j 0 ∧ l.getD j 0 ≤ 255 := fun j => by
    by_cases hj : j < l.length
    · obtain ⟨_, _, _, _, a, b⟩ := byte_at hb hj
      exact ⟨a, b⟩
    · rw [List.getD_eq_getElem?_getD, List.getElem?_eq_none (by omega)]
      exact ⟨Int.le_refl _, by decide⟩
  obtain ⟨id0, o0, ia0, lb0, r0, r1⟩ := byte_at hb hil
  obtain ⟨opn, hopn⟩ : ∃ n : Nat, l.getD i 0 = (n : Int) := ⟨(l.getD i 0).toNat, by omega⟩
  rw [hopn] at lb0 r0 r1
  have hw0 : IntKind.i64.wrap (opn : Int) = opn := wrap_i64_in (by omega) (by omega)
  simp -implicitDefEqProofs (disch:=first|omega|simp only [go_sem,Nat.reduceAdd]) only [go_sem,Int.reduceLT,Int.reduceLE,Int.reduceEq,reduceIte,true_and, c70, ← hH, hneg, h0, el, dPick_t, dPick_f, ia0, lb0 H hE, hw0]
  refine ncall size_c ?_
  have hwl : IntKind.i64.wrap ((l.length : Int) - (i : Nat)) = (l.length : Int) - (i : Nat) := wrap_i64_in (by omega) (by omega)
  by_cases h1 : opn < 28
  case neg =>
    have h1' := decide_eq_false h1
    simp -implicitDefEqProofs (disch:=first|omega|simp only [go_sem,Nat.reduceAdd]) only [go_sem,Int.reduceLT,Int.reduceLE,Int.reduceEq,reduceIte,true_and, h1', dPick_t, dPick_f, bd_instr0, hz]
    refine ret_at (res_i (n := 0) (e := 130) vz vz vz g) ⟨?_, hE⟩
    rw [oneT, if_neg (by omega), hopn, if_pos (.inl (size_none (by omega)))]
  have h1' := decide_eq_true h1
  obtain ⟨t1, t2, t3, t4, t5, t6, t7, t8⟩ := tables h1
  rw [t1]
  by_cases h2 : (l.length : Int) - (i : Nat) < sizeI opn
  · have h2' := eq_true h2
    simp -implicitDefEqProofs (disch:=first|omega|simp only [go_sem,Nat.reduceAdd]) only [go_sem,Int.reduceLT,Int.reduceLE,Int.reduceEq,reduceIte,true_and, h1', hwl, h2', el, dPick_t, dPick_f, bd_instr0, hz]
    refine ret_at (res_i (n := 0) (e := 130) vz vz vz g) ⟨?_, hE⟩
    rw [oneT, if_neg (by omega), hopn, if_pos (.inr h2)]
  obtain ⟨f, hf⟩ : ∃ f, formL.getD opn 0 = f := ⟨_, rfl⟩
  rw [hf] at t2 t3 t4 t5 t6
  have hs := sizeI_le opn
  obtain ⟨w1, w2, w3, w4⟩ := size_split t8
  have hT : oneT l i = if indexE (oneI l i) = 0 then (oneI l i, i + sizeI opn, 0) else (zeroInstr, 0, indexE (oneI l i)) := by
    rw [oneT, if_neg (by omega), hopn, if_neg (by omega)]
  have hsz : sizeI opn = 1 + (if firstB opn then 1 else 0) + (if twoB opn then 1 else 0) + wideI opn := by unfold wideI; omega
  have hst5 : ∀ a b c d e : Int, storeAt (H.push (.row [.int .i64 0, .int .i64 0, .int .i64 0, .int .i64 0, .int .i64 0] 0 false)) H.next 0 [.int .i64 a, .int .i64 b, .int .i64 c, .int .i64 d, .int .i64 e] = some (H.push (.row (fInstr.enc ⟨a, b, c, d, e⟩) 0 false)) := fun a b c d e => store5_push rfl
  have cI : ∀ x, cellAt (H.push (.row (fInstr.enc x) 0 false)) H.next 1 = some (.int .i64 x.op) := fun x => cellAt_row (get_push_same _ _)
  have lc : ∀ x, cellsAt (H.push (.row (fInstr.enc x) 0 false)) H.next 0 5 = some (instrV x) := fun x => by rw [cellsAt_row (get_push_same _ _) (Nat.le_of_ble_eq_true rfl)]; rfl
  have hEP : ∀ o, Ext h (H.push o) := fun o => hE.push o
  have hw1 : IntKind.i64.wrap ((i : Int) + 1) = ((i + 1 : Nat) : Int) := by rw [wrap_i64_in (by omega) (by omega)]; omega
  obtain ⟨m, hm⟩ : ∃ m : Nat, (m : Int) = i + sizeI opn := ⟨(i + sizeI opn).toNat, by omega⟩
  have hw2 : IntKind.i64.wrap ((i : Int) + sizeI opn) = (m : Nat) := by rw [wrap_i64_in (by omega) (by omega)]; omega
  obtain ⟨u0, hu0, hr0⟩ := part_of hb (i := i + 1) (j := m) (by omega) (by omega)
  simp -implicitDefEqProofs (disch:=first|omega|simp only [go_sem,Nat.reduceAdd]) only [go_sem,Int.reduceLT,Int.reduceLE,Int.reduceEq,reduceIte,true_and, h1', hwl, h2, el, dPick_t, dPick_f, ia0, lb0 H hE, hw0, bd_instr2, hst5, cI]
  refine ncall form_c ?_
  rw [hf]
  simp -implicitDefEqProofs (disch:=first|omega|simp only [go_sem,Nat.reduceAdd]) only [go_sem,Int.reduceLT,Int.reduceLE,Int.reduceEq,reduceIte,true_and, hw1, hw2, hu0 _ (hEP _), ↓bin_andI]
  -- what the rest begins with
  have hd : ∀ (u : Value) (k : Nat), Arg fU8.rep h u ((l.take m).drop k) → k < m → ∃ id o u', dIndexAddr Try.prog 22 u (.int .i64 0) = some (.pointer (some ⟨id, o, none⟩)) ∧ (∀ K, Ext h K → cellAt K id o = some (.int .u8 (l.getD k 0))) ∧ (∀ K, Ext h K → dSlice Try.prog 22 u (some (.int .i64 1)) none none K = some u') ∧ Arg fU8.rep h u' ((l.take m).drop (k + 1)) := by
    intro u k hu hk
    have hlen : ((l.take m).drop k).length = m - k := by rw [List.length_drop, List.length_take, Nat.min_eq_left (by omega)]
    obtain ⟨id, o, e1, e2, _, _⟩ := byte_at hu (i := 0) (by omega)
    obtain ⟨u', e3, e4⟩ := rest_of hu (k := 1) (by omega)
    rw [getD_part (by omega)] at e2
    rw [List.drop_drop] at e4
    exact ⟨id, o, u', e1, e2, e3, e4⟩
  have hwx : ∀ j, IntKind.i64.wrap (l.getD j 0) = l.getD j 0 := fun j => by
    have := hbyte j
    exact wrap_i64_in (by omega) (by omega)
  have hsp : ∀ a b, (H.push (.row (fInstr.enc a) 0 false)).set H.next (.row (fInstr.enc b) 0 false) = H.push (.row (fInstr.enc b) 0 false) := fun a b => set_push_same _ _ _
  have sA : ∀ a b n c d e, storeAt (H.push (.row (fInstr.enc ⟨a, b, n, c, d⟩) 0 false)) H.next 2 [.int .i64 e] = some (H.push (.row (fInstr.enc ⟨a, b, e, c, d⟩) 0 false)) := fun a b n c d e => by
    rw [storeAt_row (get_push_same _ _) (Nat.le_of_ble_eq_true rfl) rfl]
    exact congrArg some (set_push_same _ _ _)
  have sB : ∀ a b n c d e, storeAt (H.push (.row (fInstr.enc ⟨a, b, n, c, d⟩) 0 false)) H.next 3 [.int .i64 e] = some (H.push (.row (fInstr.enc ⟨a, b, n, e, d⟩) 0 false)) := fun a b n c d e => by
    rw [storeAt_row (get_push_same _ _) (Nat.le_of_ble_eq_true rfl) rfl]
    exact congrArg some (set_push_same _ _ _)
  have sC : ∀ a b n c d e, storeAt (H.push (.row (fInstr.enc ⟨a, b, n, c, d⟩) 0 false)) H.next 4 [.int .i64 e] = some (H.push (.row (fInstr.enc ⟨a, b, n, c, e⟩) 0 false)) := fun a b n c d e => by
    rw [storeAt_row (get_push_same _ _) (Nat.le_of_ble_eq_true rfl) rfl]
    exact congrArg some (set_push_same _ _ _)
  obtain ⟨k2, hk2⟩ : ∃ k2, k2 = i + 1 + if firstB opn then 1 else 0 := ⟨_, rfl⟩
  obtain ⟨xa, hxa⟩ : ∃ xa, xa = if firstB opn then l.getD (i + 1) 0 else 0 := ⟨_, rfl⟩
  have hk2l : (k2 : Int) + (if twoB opn then 1 else 0) + wideI opn = m := by
    rw [hm, hk2, hsz]
    split <;> simp <;> omega
  refine XIf_cut (fun s => ∃ u, OnM h.next H v i opn f xa 0 0 u s ∧ Arg fU8.rep h u ((l.take m).drop k2)) (fun ht => ?_) (fun ht => ?_) ?_
  · have hf1 : firstB opn = true := by
      cases hh : firstB opn with
      | true => rfl
      | false => rw [decide_eq_true (t2.2 hh)] at ht; cases ht
    rw [hf1] at hk2 hxa
    simp only [if_true] at hk2 hxa
    obtain ⟨id1, o1, u1, e1, e2, e3, e4⟩ := hd u0 (i + 1) hr0 (by
      rw [hf1] at hsz
      simp only [if_true] at hsz
      have : 0 ≤ (if twoB opn then (1 : Int) else 0) := by split <;> omega
      omega)
    rw [← hxa] at e2
    refine NC.mono (one_region0 (K1 := H.push (.row (fInstr.enc ⟨(i : Nat), opn, xa, 0, 0⟩) 0 false)) (x := xa) (B := H.next) vz vz e1 (e2 _ (hEP _)) (e2 _ (hEP _)) (by rw [hxa]; exact hwx _) (e3 _ (hEP _)) (e3 _ (hEP _)) (sA _ _ _ _ _ _) (sA _ _ _ _ _ _)) ?_
    rintro e ⟨fr1, df1, hh1, rd1⟩ hM
    cases e <;> try exact hM.elim
    obtain ⟨rfl, rfl, rfl, q12, q0, q1, q4, q7, q9, q10⟩ := hM
    refine ⟨u1, ⟨rfl, rfl, q0.trans vz, q1.trans vz, q4.trans vz, q7.trans vz, q9.trans vz, q10.trans vz, q12, rfl⟩, ?_⟩
    rw [hk2]
    exact e4
  · have hf1 : firstB opn = false := by
      cases hh : firstB opn with
      | false => rfl
      | true => rw [decide_eq_false (fun h => by rw [t2.1 h] at hh; cases hh)] at ht; cases ht
    rw [hf1] at hk2 hxa
    simp only [Bool.false_eq_true, if_false, Nat.add_zero] at hk2 hxa
    simp -implicitDefEqProofs (disch:=first|omega|simp only [go_sem,Nat.reduceAdd]) only [go_sem,Int.reduceLT,Int.reduceLE,Int.reduceEq,reduceIte,true_and]
    refine ⟨u0, ⟨rfl, rfl, vz, vz, vz, vz, vz, vz, vz, by rw [hxa]⟩, ?_⟩
    rw [hk2]
    exact hr0
  rintro ⟨fr, df, K, rd⟩ ⟨u1, ⟨rfl, rfl, f0, f1, f4, f7, f9, f10, f12, hK⟩, hr1⟩
  simp only at f0 f1 f4 f7 f9 f10 f12 hK
  subst hK
  obtain ⟨k3, hk3⟩ : ∃ k3, k3 = k2 + if twoB opn then 1 else 0 := ⟨_, rfl⟩
  obtain ⟨xb, hxb⟩ : ∃ xb, xb = if twoB opn then l.getD k2 0 else 0 := ⟨_, rfl⟩
  have hk3l : (k3 : Int) + wideI opn = m := by
    rw [← hk2l, hk3]
    split <;> simp
  simp -implicitDefEqProofs (disch:=first|omega|simp only [go_sem,Nat.reduceAdd]) only [go_sem,Int.reduceLT,Int.reduceLE,Int.reduceEq,reduceIte,true_and, f10, ↓bin_andI]
  refine XIf_cut (fun s => ∃ u, OnM h.next H v i opn f xa xb 0 u s ∧ Arg fU8.rep h u ((l.take m).drop k3)) (fun ht => ?_) (fun ht => ?_) ?_
  · have hf1 : twoB opn = true := by
      cases hh : twoB opn with
      | true => rfl
      | false => rw [decide_eq_true (t3.2 hh)] at ht; cases ht
    rw [hf1] at hk3 hxb hk2l
    simp only [if_true] at hk3 hxb hk2l
    obtain ⟨id1, o1, u2, e1, e2, e3, e4⟩ := hd u1 k2 hr1 (by omega)
    rw [← hxb] at e2
    refine NC.mono (one_region1 (K1 := H.push (.row (fInstr.enc ⟨(i : Nat), opn, xa, xb, 0⟩) 0 false)) (x := xb) (B := H.next) (vy f9) (vy f12) e1 (e2 _ (hEP _)) (e2 _ (hEP _)) (by rw [hxb]; exact hwx _) (e3 _ (hEP _)) (e3 _ (hEP _)) (sB _ _ _ _ _ _) (sB _ _ _ _ _ _)) ?_
    rintro e ⟨fr1, df1, hh1, rd1⟩ hM
    cases e <;> try exact hM.elim
    obtain ⟨rfl, rfl, rfl, q12, q0, q1, q4, q7, q9, q10⟩ := hM
    refine ⟨u2, ⟨rfl, rfl, q0.trans (vy f0), q1.trans (vy f1), q4.trans (vy f4), q7.trans (vy f7), q9.trans (vy f9), q10.trans (vy f10), q12, rfl⟩, ?_⟩
    rw [hk3]
    exact e4
  · have hf1 : twoB opn = false := by
      cases hh : twoB opn with
      | false => rfl
      | true => rw [decide_eq_false (fun h => by rw [t3.1 h] at hh; cases hh)] at ht; cases ht
    rw [hf1] at hk3 hxb
    simp only [Bool.false_eq_true, if_false, Nat.add_zero] at hk3 hxb
    simp -implicitDefEqProofs (disch:=first|omega|simp only [go_sem,Nat.reduceAdd]) only [go_sem,Int.reduceLT,Int.reduceLE,Int.reduceEq,reduceIte,true_and]
    refine ⟨u1, ⟨rfl, rfl, (vy f0), (vy f1), (vy f4), (vy f7), (vy f9), (vy f10), (vy f12), by rw [hxb]⟩, ?_⟩
    rw [hk3]
    exact hr1
  clear f0 f1 f4 f7 f9 f10 f12 fr
  rintro ⟨fr, df, K, rd⟩ ⟨u2, ⟨rfl, rfl, f0, f1, f4, f7, f9, f10, f12, hK⟩, hr2⟩
  simp only at f0 f1 f4 f7 f9 f10 f12 hK
  subst hK
  simp -implicitDefEqProofs (disch:=first|omega|simp only [go_sem,Nat.reduceAdd]) only [go_sem,Int.reduceLT,Int.reduceLE,Int.reduceEq,reduceIte,true_and, f10, ↓bin_andI]
  obtain ⟨w, hw⟩ : ∃ w, wideI opn = w := ⟨_, rfl⟩
  rw [hw] at w1 w2 hk3l t4 t6 t7
  obtain ⟨x, hx⟩ : ∃ x, l.getD k3 0 = x := ⟨_, rfl⟩
  obtain ⟨y, hy⟩ : ∃ y, l.getD (k3 + 1) 0 = y := ⟨_, rfl⟩
  have hone : oneI l i = ⟨(i : Nat), opn, xa, xb, immW opn w x y⟩ := by
    unfold oneI
    simp only [hopn, ← hxa, ← hk2, ← hxb, ← hk3, hw, hx, hy]
  have bx := hbyte k3
  have b_y := hbyte (k3 + 1)
  rw [hx] at bx
  rw [hy] at b_y
  have hwx1 : IntKind.i64.wrap x = x := wrap_i64_in (by omega) (by omega)
  have hux : IntKind.u16.wrap x = x := wrap_in (inK_u16.2 ⟨by omega, by omega⟩)
  have huy : IntKind.u16.wrap y = y := wrap_in (inK_u16.2 ⟨by omega, by omega⟩)
  have hor := orH_eq bx.1 bx.2 b_y.1 b_y.2
  have two : w = 2 → ∃ id0 o0 id1 o1, dIndexAddr Try.prog 22 u2 (.int .i64 0) = some (.pointer (some ⟨id0, o0, none⟩)) ∧ dIndexAddr Try.prog 22 u2 (.int .i64 1) = some (.pointer (some ⟨id1, o1, none⟩)) ∧ (∀ K, Ext h K → cellAt K id0 o0 = some (.int .u8 x)) ∧ ∀ K, Ext h K → cellAt K id1 o1 = some (.int .u8 y) := fun hw2 => by
    have hlen : ((l.take m).drop k3).length = m - k3 := by rw [List.length_drop, List.length_take, Nat.min_eq_left (by omega)]
    obtain ⟨id0, o0, e1, e2, _, _⟩ := byte_at hr2 (i := 0) (by omega)
    obtain ⟨id1, o1, e3, e4, _, _⟩ := byte_at hr2 (i := 1) (by omega)
    rw [getD_part (by omega)] at e2 e4
    rw [Nat.add_zero, hx] at e2
    rw [hy] at e4
    exact ⟨id0, o0, id1, o1, e1, e3, e2, e4⟩
  refine XIf_cutB (OnE h.next H i opn (oneI l i)) (fun ht => ?_) (fun ht => ?_) ?_
  · have hw1' : w = 1 := by
      cases Int.decEq w 1 with
      | isTrue e => exact e
      | isFalse e => rw [decide_eq_true (t4.2 e)] at ht; cases ht
    obtain ⟨id1, o1, u3, e1, e2, _, _⟩ := hd u2 k3 hr2 (by omega)
    rw [hx] at e2
    simp -implicitDefEqProofs (disch:=first|omega|simp only [go_sem,Nat.reduceAdd]) only [go_sem,Int.reduceLT,Int.reduceLE,Int.reduceEq,reduceIte,true_and, f9, f12, e1, e2 _ (hEP _), hwx1, sC]
    refine ⟨rfl, rfl, (vy f1), (vy f4), (vy f7), (vy f9), ?_⟩
    rw [hone]
    rw [immW, if_neg (by omega), if_pos (by omega)]
  · have hw1' : w ≠ 1 := fun e => by
      rw [decide_eq_false (fun h => t4.1 h e)] at ht
      cases ht
    simp -implicitDefEqProofs (disch:=first|omega|simp only [go_sem,Nat.reduceAdd]) only [go_sem,Int.reduceLT,Int.reduceLE,Int.reduceEq,reduceIte,true_and, f10, ↓bin_andI]
    refine XIf_split (fun ht => ?_) (fun ht => ?_)
    · have ho1 : opn = 1 := by
        cases Nat.decEq opn 1 with
        | isTrue e => exact e
        | isFalse e => rw [decide_eq_true (t5.2 e)] at ht; cases ht
      have hw2' := t7 ho1
      obtain ⟨id0', o0', id1, o1, e1, e2, e3, e4⟩ := two hw2'
      have hsg := wrap_i16 (n := x + 256 * y) (by omega) (by omega)
      obtain ⟨z, hz⟩ : ∃ z, IntKind.i16.wrap (x + 256 * y) = z := ⟨_, rfl⟩
      have hzz : IntKind.i64.wrap z = z := by
        rw [hz] at hsg
        split at hsg <;> exact wrap_i64_in (by omega) (by omega)
      have himm : immW opn w x y = z := by
        rw [← hz, hsg]
        unfold immW
        rw [if_pos hw2', ho1]
        by_cases hb : 32768 ≤ x + 256 * y
        · simp [hb]
        · simp [hb]
      refine dr_70_2 ?_
      simp -implicitDefEqProofs (disch:=first|omega|simp only [go_sem,Nat.reduceAdd]) only [go_sem,Int.reduceLT,Int.reduceLE,Int.reduceEq,reduceIte,true_and, l70_2, f9, f12, e1, e2, e3 _ (hEP _), e4 _ (hEP _), hux, huy, bin_shl8, ↓bin_orH, hor, hz, hzz, sC]
      refine ⟨rfl, rfl, (vy f1), (vy f4), (vy f7), (vy f9), ?_⟩
      rw [hone, himm]
    · have ho1 : opn ≠ 1 := fun e => by
        rw [decide_eq_false (fun h => t5.1 h e)] at ht
        cases ht
      simp -implicitDefEqProofs (disch:=first|omega|simp only [go_sem,Nat.reduceAdd]) only [go_sem,Int.reduceLT,Int.reduceLE,Int.reduceEq,reduceIte,true_and, f10, ↓bin_andI]
      refine XIf_split (fun ht => ?_) (fun ht => ?_)
      · have hw2' : w = 2 := by
          cases Int.decEq w 2 with
          | isTrue e => exact e
          | isFalse e => rw [decide_eq_true (t6.2 fun hh => e hh.1)] at ht; cases ht
        obtain ⟨id0', o0', id1, o1, e1, e2, e3, e4⟩ := two hw2'
        have hzz : IntKind.i64.wrap (x + 256 * y) = x + 256 * y := wrap_i64_in (by omega) (by omega)
        refine dr_70_3 ?_
        simp -implicitDefEqProofs (disch:=first|omega|simp only [go_sem,Nat.reduceAdd]) only [go_sem,Int.reduceLT,Int.reduceLE,Int.reduceEq,reduceIte,true_and, l70_3, f9, f12, e1, e2, e3 _ (hEP _), e4 _ (hEP _), hux, huy, bin_shl8, ↓bin_orH, hor, hzz, sC]
        refine ⟨rfl, rfl, (vy f1), (vy f4), (vy f7), (vy f9), ?_⟩
        rw [hone]
        rw [immW, if_pos hw2', if_neg (fun hh => ho1 (by have := hh.1; omega))]
      · have hw2' : w ≠ 2 := fun e => by
          rw [decide_eq_false (fun h => t6.1 h ⟨e, ho1⟩)] at ht
          cases ht
        simp -implicitDefEqProofs (disch:=first|omega|simp only [go_sem,Nat.reduceAdd]) only [go_sem,Int.reduceLT,Int.reduceLE,Int.reduceEq,reduceIte,true_and]
        refine ⟨rfl, rfl, (vy f1), (vy f4), (vy f7), (vy f9), ?_⟩
        rw [hone]
        rw [immW, if_neg hw2', if_neg (by omega)]
  clear f0 f1 f4 f7 f9 f10 f12 fr
  rintro ⟨fr, df, K, rd⟩ ⟨rfl, rfl, f1, f4, f7, f9, hK⟩
  simp only at f1 f4 f7 f9 hK
  subst hK
  obtain ⟨hix, h132⟩ := indexB_eq (l := l) (i := i) fun j => (hbyte j).1
  simp -implicitDefEqProofs (disch:=first|omega|simp only [go_sem,Nat.reduceAdd]) only [go_sem,Int.reduceLT,Int.reduceLE,Int.reduceEq,reduceIte,true_and, f9, lc]
  refine ncall index_c ?_
  rw [hix]
  have g' : (H.push (.row (fInstr.enc (oneI l i)) 0 false)).get h.next = some (.row (fInstr.enc zeroInstr) 0 false) := (get_push_other _ _ (by omega)).trans g
  have hst : ∀ x : Instr, storeAt (H.push (.row (fInstr.enc (oneI l i)) 0 false)) h.next 0 [.int .i64 x.pos, .int .i64 x.op, .int .i64 x.a, .int .i64 x.b, .int .i64 x.imm] = some ((H.push (.row (fInstr.enc (oneI l i)) 0 false)).set h.next (.row (fInstr.enc x) 0 false)) := fun x => storeAll g' rfl rfl
  by_cases he : indexE (oneI l i) = 0
  · have he' := eq_true he
    simp -implicitDefEqProofs (disch:=first|omega|simp only [go_sem,Nat.reduceAdd]) only [go_sem,Int.reduceLT,Int.reduceLE,Int.reduceEq,reduceIte,true_and, he', f9, f1, f7, lc, hw2, f4, hst]
    refine ret_at (res_i (x := oneI l i) (n := i + sizeI opn) (e := 0) (vy f4) (by rw [← hm]; simp -implicitDefEqProofs (disch:=first|omega|simp only [go_sem,Nat.reduceAdd]) only [go_sem,Int.reduceLT,Int.reduceLE,Int.reduceEq,reduceIte,true_and]) vz (get_set_same _ _)) ⟨?_, (hEP _).set (by omega)⟩
    rw [hT, if_pos he]
  · simp -implicitDefEqProofs (disch:=first|omega|simp only [go_sem,Nat.reduceAdd]) only [go_sem,Int.reduceLT,Int.reduceLE,Int.reduceEq,reduceIte,true_and, he, bd_instr0, f4, hst zeroInstr]
    refine ret_at (res_i (x := zeroInstr) (n := 0) (e := 132) (vy f4) vz vz (get_set_same _ _)) ⟨?_, (hEP _).set (by omega)⟩
    rw [hT, if_neg he, h132 he]
end Go.Proofs.Ytbdljpndncohaaa

namespace Go.Proofs.Ytbdljpndncohaaa
open Go.D
set_option maxRecDepth 100000

/-- the instructions from an address on, and what is wrong with the first that may not be -/
def walkF (l : List Int) : Nat → Nat → List Instr × Int
  | 0, _ => ([], 0)
  | n + 1, i => if l.length ≤ i then ([], 0) else if (oneT l i).2.2 = 0 then ((oneT l i).1 :: (walkF l n (oneT l i).2.1.toNat).1, (walkF l n (oneT l i).2.1.toNat).2) else ([], (oneT l i).2.2)
theorem oneT_next {l : List Int} {i : Nat} (h : (oneT l i).2.2 = 0) : (oneT l i).1 = oneI l i ∧ (oneT l i).2.1 = i + sizeI (l.getD i 0) ∧ i < l.length ∧ 1 ≤ sizeI (l.getD i 0) ∧ (i : Int) + sizeI (l.getD i 0) ≤ l.length ∧ indexE (oneI l i) = 0 := by
  unfold oneT at h ⊢
  split at h
  · exact absurd h (by decide)
  · rename_i h1
    rw [if_neg h1]
    split at h
    · exact absurd h (by decide)
    · rename_i h2
      rw [if_neg h2]
      have := sizeI_le (l.getD i 0)
      split at h
      · rename_i h3
        rw [if_pos h3]
        refine ⟨rfl, rfl, by omega, by omega, by omega, h3⟩
      · rename_i h3
        exact absurd h h3
theorem walkF_any {l : List Int} : ∀ {n m i : Nat}, l.length - i ≤ n → l.length - i ≤ m → walkF l n i = walkF l m i
  | 0, 0, i, _, _ => rfl
  | 0, m + 1, i, h, _ => by simp only [walkF]; rw [if_pos (by omega)]
  | n + 1, 0, i, _, h => by simp only [walkF]; rw [if_pos (by omega)]
  | n + 1, m + 1, i, h1, h2 => by
    simp only [walkF]
    by_cases h : l.length ≤ i
    · rw [if_pos h, if_pos h]
    · rw [if_neg h, if_neg h]
      by_cases he : (oneT l i).2.2 = 0
      · obtain ⟨_, a, b, c, _⟩ := oneT_next he
        rw [if_pos he, if_pos he, walkF_any (n := n) (m := m) (by omega) (by omega)]
      · rw [if_neg he, if_neg he]
def walkAt (l : List Int) (i : Nat) : List Instr × Int := walkF l l.length i
theorem walkAt_end {l : List Int} {i : Nat} (h : l.length ≤ i) : walkAt l i = ([], 0) := by
  unfold walkAt
  rw [walkF_any (m := 0) (by omega) (by omega)]
  rfl
theorem walkAt_step {l : List Int} {i : Nat} (h : i < l.length) : walkAt l i = if (oneT l i).2.2 = 0 then ((oneT l i).1 :: (walkAt l (oneT l i).2.1.toNat).1, (walkAt l (oneT l i).2.1.toNat).2) else ([], (oneT l i).2.2) := by
  unfold walkAt
  rw [walkF_any (m := l.length + 1) (by omega) (by omega)]
  conv => lhs; rw [walkF]
  rw [if_neg (by omega)]
theorem walkAt_len {l : List Int} : ∀ {n i : Nat}, l.length - i ≤ n → (walkAt l i).1.length ≤ l.length - i
  | 0, i, h => by rw [walkAt_end (by omega)]; simp
  | n + 1, i, h => by
    by_cases hi : i < l.length
    · rw [walkAt_step hi]
      split
      · rename_i he
        obtain ⟨_, a, b, c, d⟩ := oneT_next he
        have := walkAt_len (l := l) (n := n) (i := (oneT l i).2.1.toNat) (by omega)
        simp only [List.length_cons]
        omega
      · simp
    · rw [walkAt_end (by omega)]; simp
theorem oneT_ok {l : List Int} {i : Nat} (hl : l.length ≤ 4294967296) (hb : ∀ j, 0 ≤ l.getD j 0 ∧ l.getD j 0 ≤ 255) (h : (oneT l i).2.2 = 0) : fInstr.ok (oneT l i).1 := by
  obtain ⟨e, a, b, c, d⟩ := oneT_next h
  rw [e]
  have b0 := hb i
  have b1 := hb (i + 1)
  have b2 := hb (i + 1 + if firstB (l.getD i 0) then 1 else 0)
  have b3 := hb (i + 1 + (if firstB (l.getD i 0) then 1 else 0) + if twoB (l.getD i 0) then 1 else 0)
  have b4 := hb (i + 1 + (if firstB (l.getD i 0) then 1 else 0) + (if twoB (l.getD i 0) then 1 else 0) + 1)
  have k1 : ∀ n : Int, -65536 ≤ n → n ≤ 4294967296 → inK .i64 n := fun n h1 h2 => inK_i64.2 ⟨by omega, by omega⟩
  refine ⟨k1 _ ?_ ?_, k1 _ ?_ ?_, k1 _ ?_ ?_, k1 _ ?_ ?_, k1 _ ?_ ?_⟩
  all_goals simp only [oneI, immW]
  all_goals first
    | omega
    | (repeat' split
       all_goals omega)
theorem store5 {h : DHeap} {x : Instr} : storeAt (h.push (.row [.int .i64 0, .int .i64 0, .int .i64 0, .int .i64 0, .int .i64 0] 0 false)) h.next 0 [.int .i64 x.pos, .int .i64 x.op, .int .i64 x.a, .int .i64 x.b, .int .i64 x.imm] = some (h.push (.row (fInstr.enc x) 0 false)) := store5_push rfl
theorem bytes_le {h : DHeap} {v : Value} {l : List Int} (hb : Arg fU8.rep h v l) : ∀ j, 0 ≤ l.getD j 0 ∧ l.getD j 0 ≤ 255 := fun j => by
  by_cases hj : j < l.length
  · obtain ⟨_, _, _, _, a, b⟩ := byte_at hb hj
    exact ⟨a, b⟩
  · rw [List.getD_eq_getElem?_getD, List.getElem?_eq_none (by omega)]
    exact ⟨Int.le_refl _, by decide⟩
theorem refWalk_c {h : DHeap} {v : Value} {l : List Int} (hb : Arg fU8.rep h v l) (hl : l.length ≤ 1048576) :
    Ct Try.prog 56 [v] h fun r h1 => ∃ w, r = .ret (.tuple #[w, .int .i64 (walkAt l 0).2]) ∧ Made fInstr h h1 w (walkAt l 0).1 := by
  refine go_56 (by simp) ?_
  have el : ∀ K, dLen Try.prog #[22] v K = some (.int .i64 (l.length : Nat)) := hb.lens (P := Try.prog) (ts := #[22]) (t := 22) rfl isl_22
  have hbl := bytes_le hb
  simp -implicitDefEqProofs (disch:=first|omega|simp only [go_sem,Nat.reduceAdd]) only [go_sem,Int.reduceLT,Int.reduceLE,Int.reduceEq,reduceIte,true_and, c56]
  refine xloop (σ := Nat × List Instr) (by kernel_rfl) (fun a s => s.df = [] ∧ s.fr 0 = some v ∧ s.fr 5 = some (.int .i64 (a.1 : Nat)) ∧ (∃ w, s.fr 4 = some w ∧ Made fInstr h s.h w a.2) ∧ a.1 ≤ l.length ∧ a.2.length ≤ a.1 ∧ walkAt l 0 = (a.2 ++ (walkAt l a.1).1, (walkAt l a.1).2)) (fun a => l.length - a.1) (0, []) ?_ ?_
  · simp -implicitDefEqProofs (disch:=first|omega|simp only [go_sem,Nat.reduceAdd]) only [go_sem,Int.reduceLT,Int.reduceLE,Int.reduceEq,reduceIte,true_and]
    exact ⟨rfl, ⟨_, rfl, .nil _ (.refl h)⟩, Nat.zero_le _, Nat.le_refl _, trivial⟩
  · rintro ⟨i, acc⟩ ⟨fr, df, K, rd⟩ K' hK' hX ⟨rfl, f0, f5, ⟨w, f4, hm⟩, hi, hal, hw⟩
    simp only at f0 f5 f4 hm hi hal hw
    have hE := hm.ext
    simp -implicitDefEqProofs (disch:=first|omega|simp only [go_sem,Nat.reduceAdd]) only [go_sem,Int.reduceLT,Int.reduceLE,Int.reduceEq,reduceIte,true_and, f0, f5, el]
    refine XIf_dec (fun hc1 => ?_) (fun hc1 => ?_)
    · have hil : i < l.length := by omega
      have hst := walkAt_step hil
      simp -implicitDefEqProofs (disch:=first|omega|simp only [go_sem,Nat.reduceAdd]) only [go_sem,Int.reduceLT,Int.reduceLE,Int.reduceEq,reduceIte,true_and, f0, f5]
      refine ncall (refOne_c (hb.ext hE) (by omega) (by omega)) ?_
      obtain ⟨x, hx⟩ : ∃ x, (oneT l i).1 = x := ⟨_, rfl⟩
      obtain ⟨K1, hK1⟩ : ∃ K1, K1 = K.push (.row (fInstr.enc x) 0 false) := ⟨_, rfl⟩
      have g : K1.get K.next = some (.row (fInstr.enc x) 0 false) := by rw [hK1]; exact get_push_same _ _
      have lc : cellsAt K1 K.next 0 5 = some (instrV x) := by rw [cellsAt_row g (Nat.le_of_ble_eq_true rfl)]; rfl
      have hm1 : Made fInstr h K1 w acc := hm.on (by rw [hK1]; exact Ext.push1 _ _)
      rw [hx]
      have s5 := store5 (h := K) (x := x)
      rw [← hK1] at s5
      by_cases he : (oneT l i).2.2 = 0
      · have he' := eq_true he
        obtain ⟨e1, e2, _, e4, e5⟩ := oneT_next he
        have hok := oneT_ok (by omega) hbl he
        rw [hx] at hok
        rw [if_pos he, hx] at hst
        obtain ⟨nx, hnx⟩ : ∃ nx : Nat, (oneT l i).2.1 = nx := ⟨(oneT l i).2.1.toNat, by omega⟩
        rw [hnx] at hst ⊢
        have hbs : ∀ K : DHeap, dBuildSlice Try.prog 91 1 [(0, instrV x)] K = some (.slice (some ⟨K.next, 0, none⟩) 1 1, K.push (.row (fInstr.enc x) 5 false)) := fun K => bs1_91 rfl
        obtain ⟨w2, h2, e6, m2⟩ := hm1.snoc app_91 (y := x) (cs := fInstr.enc x) (z := 5) rfl rfl hok (by omega) (by decide)
        simp -implicitDefEqProofs (disch:=first|omega|simp only [go_sem,Nat.reduceAdd]) only [go_sem,Int.reduceLT,Int.reduceLE,Int.reduceEq,reduceIte,true_and, he', s5, f4, lc, hbs, e6]
        refine hK' (nx, acc ++ [x]) _ ?_ (by simp only; omega)
        refine ⟨by trivial, (vy f0), vz, ⟨w2, vz, m2⟩, by simp only; omega, by simp; omega, ?_⟩
        rw [hw, hst]
        simp
      · rw [if_neg he] at hst
        simp -implicitDefEqProofs (disch:=first|omega|simp only [go_sem,Nat.reduceAdd]) only [go_sem,Int.reduceLT,Int.reduceLE,Int.reduceEq,reduceIte,true_and, he, s5, f4]
        refine hX _ _ (by simp) ?_
        simp -implicitDefEqProofs (disch:=first|omega|simp only [go_sem,Nat.reduceAdd]) only [go_sem,Int.reduceLT,Int.reduceLE,Int.reduceEq,reduceIte,true_and]
        refine ⟨_, rfl, w, ?_, ?_⟩
        · rw [hw, hst]
        · rw [hw, hst, List.append_nil]; exact hm1
    · refine hX _ _ (by simp) ?_
      simp -implicitDefEqProofs (disch:=first|omega|simp only [go_sem,Nat.reduceAdd]) only [go_sem,Int.reduceLT,Int.reduceLE,Int.reduceEq,reduceIte,true_and, f4]
      have := walkAt_end (l := l) (i := i) (by omega)
      refine ⟨_, rfl, w, ?_, ?_⟩
      · rw [hw, this]
      · rw [hw, this, List.append_nil]; exact hm
end Go.Proofs.Ytbdljpndncohaaa

namespace Go.D
open Go.Sort Go.Proofs
variable {P : Program} {α : Type}

/-- the empty heap -/
def h00 : DHeap := ⟨fun _ => none, 0, 0⟩
theorem sim00 (w : World) : Sim (fun _ => none) h00 w where
  lt := fun _ _ h => (by cases h)
  blk := fun _ _ h => (by cases h)
  obj := fun _ _ h => (by cases h)
  sep := fun _ _ _ _ h => (by cases h)
  glob := fun g hg => absurd hg (Nat.not_lt_zero g)
/-- what is done without any block of one's own changes none -/
theorem grown_of {ι' : Inj} {h' : DHeap} {w w' : World} (st : Step (fun _ => none) ι' h00 h' w w') : ∃ q os', w' = grow (w.drewN q) os' := by
  refine ⟨w'.drawn - w.drawn, w'.heap.extract w.heap.size w'.heap.size, ?_⟩
  have hh : w'.heap = w.heap ++ w'.heap.extract w.heap.size w'.heap.size := by
    refine Array.ext_getElem? fun b => ?_
    rw [Array.getElem?_append]
    by_cases hb : b < w.heap.size
    · rw [if_pos hb]
      exact st.frame b hb fun id e he => by cases he
    · rw [if_neg hb, Array.getElem?_extract]
      have := st.size
      by_cases hb2 : b < w'.heap.size
      · rw [if_pos (by omega)]
        congr 1; omega
      · rw [Array.getElem?_eq_none (by omega), if_neg (by omega)]
  have h1 := st.os
  have h2 := st.tape
  have h3 := st.output
  have h4 := st.drawn
  obtain ⟨hp, tp, dr, o, out⟩ := w'
  simp only at hh h1 h2 h3 h4 ⊢
  subst h1 h2 h3
  rw [World.mk.injEq]
  refine ⟨hh, rfl, ?_, rfl, rfl⟩
  show dr = w.drawn + (dr - w.drawn)
  omega
theorem VRel.aggFlat {ι : Inj} {l : List Value} (h : l.all flat1 = true) : VRel ι (.agg l.toArray) (.agg l.toArray) :=
  .agg rfl fun i v v' a b => by
    rw [a] at b; cases b
    exact flat1_rel ι (list_all_get h (by simpa using a))
/-- a function of two values that have no blocks, as the library asks of what it sorts by -/
theorem cmpLays_of {g : Nat} {enc : α → List Value} {k : Nat} {cf : α → α → Int} [Inhabited α] (hflat : ∀ x, (enc x).all flat1 = true) (hdc : ∀ x y, DC P g [.agg (enc x).toArray, .agg (enc y).toArray] h00 (.ret (.int .i64 (cf x y))) h00) (blk off size : Nat) (w : World) :
    CmpLays P g #[] enc k cf blk off size w := by
  intro m os dk _ x y
  have := (hdc x y).2 0 (fun _ => none) (sortWorldK enc k w blk off m dk os) (#[.agg (enc x).toArray, .agg (enc y).toArray] ++ #[]) (sim00 _) (by
    simp only [Array.append_empty]
    exact ((LRel.nil _).cons (.aggFlat (hflat y))).cons (.aggFlat (hflat x)))
  refine Calls.mono (callsIn_wide.1 this) ?_
  rintro e w' ⟨ι', he, _, st⟩
  cases e with
  | returned v => cases he; exact ⟨rfl, grown_of st⟩
  | _ => exact he.elim
theorem flatMap_get {F : FRep α} [Inhabited α] : ∀ (l : List α) (i r : Nat), i < l.length → r < F.z → (l.flatMap F.enc)[i * F.z + r]? = (F.enc (l.toArray[i]!))[r]?
  | [], i, r, hi, _ => by simp at hi
  | x :: l, 0, r, _, hr => by
    rw [List.flatMap_cons, Nat.zero_mul, Nat.zero_add, List.getElem?_append_left (by rw [F.len]; exact hr)]
    rfl
  | x :: l, i + 1, r, hi, hr => by
    rw [List.flatMap_cons, Nat.succ_mul, List.getElem?_append_right (by rw [F.len]; omega), F.len, show i * F.z + F.z + r - F.z = i * F.z + r by omega]
    have := flatMap_get l i r (by simpa using hi) hr
    rw [this]
    simp
theorem flatK_list {F : FRep α} [Inhabited α] (l : List α) : flatK F.enc F.z l.toArray = (l.flatMap F.enc).toArray := by
  have hs : (flatK F.enc F.z l.toArray).size = (l.flatMap F.enc).toArray.size := by rw [size_flatK, List.size_toArray, List.size_toArray, flatMap_len]
  refine ext_get! hs fun t ht => ?_
  rw [size_flatK, List.size_toArray] at ht
  rw [get_flatK _ _ _ _ (by simpa using ht)]
  have hz : 0 < F.z := by
    rcases Nat.eq_zero_or_pos F.z with h | h
    · rw [h] at ht; simp at ht
    · exact h
  have h1 : t / F.z < l.length := (Nat.div_lt_iff_lt_mul hz).2 ht
  have h2 : t % F.z < F.z := Nat.mod_lt _ hz
  have := flatMap_get (F := F) l (t / F.z) (t % F.z) h1 h2
  rw [Nat.div_add_mod' t F.z] at this
  have h3 : t < (l.flatMap F.enc).length := by rw [flatMap_len]; exact ht
  obtain ⟨x, hx⟩ : ∃ x, l.toArray[t / F.z]! = x := ⟨_, rfl⟩
  rw [hx] at this ⊢
  have h4 : t % F.z < (F.enc x).length := by rw [F.len]; exact h2
  rw [List.getElem?_eq_getElem h3, List.getElem?_eq_getElem h4] at this
  rw [getElem!_pos (F.enc x) (t % F.z) h4, getElem!_pos (l.flatMap F.enc).toArray t (by simpa using h3)]
  simpa using (Option.some.inj this).symm
/-- a row of flat data, as the library has it -/
theorem holds_of {F : FRep α} [Inhabited α] {ι : Inj} {h : DHeap} {w : World} {id o : Nat} {e : Ent} {cells : List Value} {esz : Nat} {l : List α} (s : Sim ι h w) (he : ι id = some e) (hg : h.get id = some (.row cells esz false)) (hl : o + l.length * F.z ≤ cells.length)
    (hc : (cells.drop o).take (l.length * F.z) = l.flatMap F.enc) : HoldsK F.enc F.z w e.block (e.shift + o) l.toArray := by
  obtain ⟨_, _, cur, ty, fz, h3, h4, h5⟩ := s.row he hg
  obtain ⟨hsz, hlen, hfz⟩ := h5 rfl
  unfold HoldsK
  rw [flatK_list]
  intro j hj
  have hj2 : j < l.length * F.z := by rw [← flatMap_len]; simpa using hj
  have h6 : cells[o + j]? = (l.flatMap F.enc)[j]? := by
    rw [← hc, List.getElem?_take, if_pos hj2, List.getElem?_drop]
  have h7 : j < (l.flatMap F.enc).length := by simpa using hj
  rw [List.getElem?_eq_getElem h7] at h6
  obtain ⟨v', h8, h9⟩ := h4 _ _ h6
  have hfl := List.all_eq_true.1 (flatMap_flat F l) _ (List.getElem_mem h7)
  have h10 : v' = (l.flatMap F.enc)[j] := by
    unfold flat1 at hfl
    generalize (l.flatMap F.enc)[j] = x at hfl h9
    cases h9 <;> first | rfl | cases hfl
  constructor
  · simp only [World.cell?, h3]
    rw [getElem!_pos (l.flatMap F.enc).toArray j (by simpa using h7)]
    simp only [id_eq, List.getElem_toArray]
    rw [show e.shift + o + j = e.shift + (o + j) by omega, h8, h10]
    rfl
  · simp only [World.frozen?, h3]
    rw [Bool.and_eq_false_iff]
    simp only [decide_eq_false_iff_not]
    have := hfz (e.shift + o + j) (by omega)
    omega
/-- a row is written anew, and the world grows -/
theorem Sim.rewrite {ι : Inj} {h : DHeap} {w w' : World} {id : Nat} {e : Ent} {cells cells' : List Value} {esz : Nat} {cur cur' : Array Value} {ty : TypeId} {fz : Nat × Nat} (s : Sim ι h w) (he : ι id = some e) (hg : h.get id = some (.row cells esz false)) (hcur : w.heap[e.block]? = some (.cells cur ty fz)) (hcur' : w'.heap[e.block]? = some (.cells cur' ty fz)) (hsz : cur'.size = cur.size)
    (hrel : ∀ (i : Nat) v, cells'[i]? = some v → ∃ v', cur'[e.shift + i]? = some v' ∧ VRel ι v v') (hlen : cells'.length = cells.length) (hoth : ∀ b, b < w.heap.size → b ≠ e.block → w'.heap[b]? = w.heap[b]?) (hsize : w.heap.size ≤ w'.heap.size) (h1 : w'.os = w.os) (h2 : w'.tape = w.tape) (h3 : w'.output = w.output) (h4 : w.drawn ≤ w'.drawn) :
    Sim ι (h.set id (.row cells' esz false)) w' ∧ Step ι ι h (h.set id (.row cells' esz false)) w w' := by
  obtain ⟨hro, hez, cur0, ty0, fz0, k3, k4, k5⟩ := s.row he hg
  rw [hcur] at k3
  cases k3
  obtain ⟨l1, l2, l3⟩ := k5 rfl
  refine ⟨⟨s.lt, fun i x hx => Nat.lt_of_lt_of_le (s.blk i x hx) hsize, ?_, ?_, s.glob⟩, ⟨Inj.le_refl _, fun i x a b => (by rw [a] at b; cases b), Nat.le_refl _, rfl, h1, h2, h3, hsize, ?_, h4⟩⟩
  · intro id' e' h'
    simp only [DHeap.set]
    by_cases hid : id' = id
    · subst hid
      rw [he] at h'
      cases h'
      exact ⟨.row cells' esz false, by rw [if_pos rfl], hro, hez, cur', ty, fz, hcur', hrel, fun _ => ⟨by rw [hsz]; exact l1, by rw [hlen]; exact l2, l3⟩⟩
    · rw [if_neg hid]
      obtain ⟨o, a, b⟩ := s.obj _ _ h'
      by_cases hbl : e'.block = e.block
      · rcases s.sep id' id e' e h' he hid hbl with hd | hd | hd
        · rw [a] at hd; cases hd; exact ⟨_, a, b⟩
        · rw [hg] at hd; cases hd
        · rw [hro] at hd; cases hd.2
      · exact ⟨o, a, b.mono (Inj.le_refl _) (hoth _ (s.blk _ _ h') hbl)⟩
  · intro id1 id2 e1 e2 a b c d
    simp only [DHeap.set]
    rcases s.sep id1 id2 e1 e2 a b c d with hd | hd | hd
    · left
      rw [if_neg (fun hx => by subst hx; rw [hg] at hd; cases hd)]
      exact hd
    · right; left
      rw [if_neg (fun hx => by subst hx; rw [hg] at hd; cases hd)]
      exact hd
    · exact .inr (.inr hd)
  · intro b hb hx
    refine hoth b hb fun hbe => ?_
    have hy := hx id e he hbe.symm
    rw [hro] at hy; cases hy
theorem world_sorted {F : FRep α} [Inhabited α] {ι : Inj} {h : DHeap} {w : World} {id o : Nat} {e : Ent} {cells : List Value} {esz : Nat} (l' : List α) (m : Nat) (os : Array Obj) (s : Sim ι h w) (he : ι id = some e) (hg : h.get id = some (.row cells esz false)) (hl : o + l'.length * F.z ≤ cells.length) :
    Sim ι (h.set id (.row (setAt cells o (l'.flatMap F.enc)) esz false)) (sortWorldK F.enc F.z w e.block (e.shift + o) m l'.toArray os) ∧ Step ι ι h (h.set id (.row (setAt cells o (l'.flatMap F.enc)) esz false)) w (sortWorldK F.enc F.z w e.block (e.shift + o) m l'.toArray os) := by
  obtain ⟨_, _, cur, ty, fz, h3, h4, h5⟩ := s.row he hg
  obtain ⟨hsz, hlen, hfz⟩ := h5 rfl
  have hb := s.blk _ _ he
  have hlk : ∀ b, b < w.heap.size → (sortWorldK F.enc F.z w e.block (e.shift + o) m l'.toArray os).heap[b]? = (w.heap.modify e.block (onCells (putCells _root_.id (e.shift + o) (l'.flatMap F.enc).toArray)))[b]? := fun b hb => by
    show ((w.heap.modify e.block (onCells (putCells _root_.id (e.shift + o) (flatK F.enc F.z l'.toArray)))) ++ os)[b]? = _
    rw [Array.getElem?_append_left (by simpa using hb), flatK_list]
  refine s.rewrite (cur := cur) (cur' := putCells _root_.id (e.shift + o) (l'.flatMap F.enc).toArray cur) (ty := ty) (fz := fz) he hg h3 ?_ (by simp [putCells]) (fun i v hv => ?_) (setAt_length _ _ _) (fun b hb hne => ?_) ?_ rfl rfl rfl (Nat.le_add_right _ _)
  · rw [hlk _ hb, Array.getElem?_modify, if_pos rfl, h3]
    rfl
  · rw [setAt_get, flatMap_len] at hv
    simp only [putCells, Array.getElem?_mapIdx]
    by_cases hi : o ≤ i ∧ i < o + l'.length * F.z ∧ i < cells.length
    · rw [if_pos hi] at hv
      obtain ⟨u, hu, _⟩ := h4 i cells[i] (List.getElem?_eq_getElem hi.2.2)
      rw [hu]
      have h7 : i - o < (l'.flatMap F.enc).length := by rw [flatMap_len]; omega
      have hv2 := hv
      rw [List.getElem?_eq_getElem h7] at hv2
      refine ⟨v, ?_, flat1_rel ι (list_all_get (flatMap_flat F l') hv)⟩
      simp only [Option.map_some, id_eq]
      rw [if_pos ⟨by omega, by simp only [List.size_toArray, flatMap_len]; omega⟩, show e.shift + i - (e.shift + o) = i - o by omega, getElem!_pos (l'.flatMap F.enc).toArray (i - o) (by simpa using h7)]
      simpa using hv2
    · rw [if_neg hi] at hv
      obtain ⟨u, hu, hr⟩ := h4 i v hv
      have := (List.getElem?_eq_some_iff.1 hv).1
      rw [hu]
      refine ⟨u, ?_, hr⟩
      simp only [Option.map_some]
      rw [if_neg]
      simp only [List.size_toArray, flatMap_len]
      omega
  · rw [hlk b hb, Array.getElem?_modify, if_neg (fun hh => hne hh.symm)]
  · show _ ≤ ((w.heap.modify e.block (onCells (putCells _root_.id (e.shift + o) (flatK F.enc F.z l'.toArray)))) ++ os).size
    simp
/-- slices.SortFunc: a row of flat data, sorted -/
theorem sort_ct {F : FRep α} [Inhabited α] {ρ : Go.Shelf.Ren} {k : Nat} (hk : F.z = k) (L : SlLaysF0.n6 P ρ) (aE : ∀ w, (isAgg (ρ.t 24)).run P w = .ok true w) (zE : ∀ w, (Go.sizeOf (ρ.t 24)).run P w = .ok k w) {cf : α → α → Int} (hO : SWO (ltOf cf)) {g : Nat} (eg : ∀ args w, (callFunc g args).run P w = .ok (.enter g args) w)
    (hdc : ∀ x y, DC P g [.agg (F.enc x).toArray, .agg (F.enc y).toArray] h00 (.ret (.int .i64 (cf x y))) h00) {h : DHeap} {id o c : Nat} {cells : List Value} {l : List α} {esz : Nat} (hg : h.get id = some (.row cells esz false)) (h0 : 0 < l.length) (hl : o + l.length * F.z ≤ cells.length) (hc : (cells.drop o).take (l.length * F.z) = l.flatMap F.enc) (hsz : l.length < 4611686018427387904) :
    Ct P (ρ.f 6) [.slice (some ⟨id, o, none⟩) l.length c, .func (.func g) #[] #[]] h fun r h1 => r = .ret (.tuple #[]) ∧ ∃ l' : List α, l'.Perm l ∧ SortedIn (ltOf cf) 0 l.length l'.toArray ∧ h1 = h.set id (.row (setAt cells o (l'.flatMap F.enc)) esz false) := by
  subst hk
  intro n ι w args' s ha
  obtain ⟨a0, e0, r0⟩ := ha.get (i := 0) rfl
  obtain ⟨a1, e1, r1⟩ := ha.get (i := 1) rfl
  have hsz2 : args'.toList.length = 2 := ha.1.symm
  have hargs : args' = #[a0, a1] := by
    obtain ⟨L⟩ := args'
    match L, hsz2 with
    | [x, y], _ => simp at e0 e1; rw [e0, e1]
  cases r0 with
  | @slice _ _ _ _ cap' e a' he hl' hx ha' hb =>
  cases r1 with
  | func hf q1 q2 q3 q4 =>
  rename_i first' cap2
  obtain rfl : first' = #[] := by simpa using q1.symm
  obtain rfl : cap2 = #[] := by simpa using q3.symm
  obtain rfl := ha' (by omega)
  have hm := holds_of s he hg hl hc
  have hcalls := AnyQ.slices_SortFunc L F.z aE zE F.enc F.len (fun x v hv => flat1_one (List.all_eq_true.1 (F.flat x) v hv)) cf hO g #[] e.block (e.shift + o) cap' l.toArray w eg (cmpLays_of F.flat hdc _ _ _ _) hm (s.blk _ _ he) (by simpa using hsz)
  rw [hargs]
  refine callsIn_wide.2 (Calls.mono hcalls ?_)
  rintro en w' ⟨rfl, d', m, os, hp, hs, rfl⟩
  obtain ⟨p1, _, p3⟩ := hp
  have hd : d' = d'.toList.toArray := by simp
  have hlen : d'.toList.length = l.length := by simpa using p1
  have hperm : d'.toList.Perm l := by
    have e1 : (d'.extract 0 l.toArray.size).toList = d'.toList := by rw [← p1]; simp
    have e2 : (l.toArray.extract 0 l.toArray.size).toList = l := by simp
    rw [e1, e2] at p3
    exact p3
  obtain ⟨q5, q6⟩ := world_sorted (F := F) d'.toList m os s he hg (by rw [hlen]; exact hl)
  rw [hd]
  refine ⟨ι, .ret (.tuple #[]), _, ⟨rfl, d'.toList, hperm, ?_, rfl⟩, ⟨q6.next, q6.ng⟩, .tuple rfl (fun i v v' h1 => by simp at h1), q5, q6⟩
  simpa using hs
end Go.D
