/-
A part of the proof of a law: contracts of functions over plain heaps, and what they lean on. Conditions: none.
-/
import Derived.Test.YtlhgijpdhniddaaChecked
import Derived.KernelRfl
import Derived.Test.YtlhgijpdhniddaaBase1
import Derived.Test.YtlhgijpdhniddaaBase2
set_option linter.unusedSimpArgs false
set_option linter.unusedVariables false
namespace Go.Proofs.Ytlhgijpdhniddaa
open Go.D
set_option maxRecDepth 100000
/-! trivet/trivetlaw22.StateReads -/
def c3 : Code :=
 .seq (rg [mo 2 (.assign (.const (.bool false)))])
 (.seq (rg [mo 8 (.move (T 0)),
   mo 9 (.call ⟨(.value (.func 10)), #[(T 8)], #[22]⟩),
   mo 7 (.move (T 9)),
   mo 10 (.extract (T 7) 0),
   mo 11 (.extract (T 7) 1),
   mo 3 (.alloc 26),
   mx (.store 26 (T 3) (T 10)),
   mo 4 (.assign (T 11))])
 (.seq (rg [mo 13 (.move (T 0)),
   mo 14 (.call ⟨(.value (.func 11)), #[(T 13)], #[22]⟩),
   mo 12 (.move (T 14)),
   mo 15 (.extract (T 12) 0),
   mo 16 (.extract (T 12) 1),
   mo 5 (.alloc 26),
   mx (.store 26 (T 5) (T 15)),
   mo 6 (.assign (T 16))])
 (.seq (rg [mo 17 (.call ⟨(.value (.func 12)), #[], #[]⟩),
   mo 18 (.move (T 17)),
   mg 19 1 true (.move (T 4)),
   mg 20 1 true (.move (T 6)),
   mg 21 1 true (.binOp .eql 27 (T 19) (T 20) 27),
   mo 22 (.pick (T 18) (T 21) (.const (.bool false))),
   mo 23 (.move (T 22)),
   mg 24 6 true (.load 26 (T 3)),
   mg 25 6 true (.load 26 (T 5)),
   mg 26 6 true (.call ⟨(.value (.func 13)), #[(T 24), (T 25)], #[26, 26]⟩),
   mo 27 (.pick (T 23) (T 26) (.const (.bool false))),
   mo 2 (.assign (T 27))])
 (.ret))))
/-! trivet/trivetlaw22.StateApart -/
def o4_0 : Array Oper := #[⟨(some 31), (.move (T 5)), 22, "law.go:99", #[], none⟩,
 ⟨(some 32), (.move (T 7)), 22, "law.go:99", #[], none⟩,
 ⟨(some 33), (.call ⟨(.value (.func 15)), #[(T 31), (T 32)], #[22, 22]⟩), 4, "law.go:99", #[⟨0, .data⟩, ⟨1, .data⟩], none⟩,
 ⟨(some 34), (.move (T 9)), 4, "law.go:99", #[], none⟩,
 ⟨(some 35), (.binOp .eql 4 (T 33) (T 34) 4), 4, "law.go:99", #[⟨2, .data⟩, ⟨3, .data⟩], none⟩,
 ⟨(some 36), (.move (T 35)), 4, "law.go:99", #[⟨4, .data⟩, ⟨2, .chain⟩], none⟩,
 ⟨(some 37), (.move (T 9)), 4, "law.go:99", #[⟨5, .guard⟩], (some (5, true))⟩,
 ⟨(some 38), (.unOp .not 4 (T 37)), 4, "law.go:99", #[⟨6, .data⟩, ⟨5, .guard⟩], (some (5, true))⟩,
 ⟨(some 39), (.move (T 38)), 4, "law.go:99", #[⟨7, .data⟩, ⟨5, .chain⟩, ⟨5, .guard⟩], (some (5, true))⟩,
 ⟨(some 40), (.load 26 (T 2)), 26, "law.go:99", #[⟨8, .guard⟩], (some (8, false))⟩,
 ⟨(some 41), (.call ⟨(.value (.func 16)), #[(T 40)], #[26]⟩), 36, "law.go:99", #[⟨9, .data⟩, ⟨8, .chain⟩, ⟨8, .guard⟩], (some (8, false))⟩,
 ⟨(some 42), (.load 26 (T 3)), 26, "law.go:99", #[⟨8, .guard⟩], (some (8, false))⟩,
 ⟨(some 43), (.call ⟨(.value (.func 16)), #[(T 42)], #[26]⟩), 36, "law.go:99", #[⟨11, .data⟩, ⟨10, .chain⟩, ⟨8, .guard⟩], (some (8, false))⟩,
 ⟨(some 44), (.binOp .eql 36 (T 41) (T 43) 36), 4, "law.go:99", #[⟨10, .data⟩, ⟨12, .data⟩, ⟨8, .guard⟩], (some (8, false))⟩,
 ⟨(some 45), (.pick (T 39) (.const (.bool true)) (T 44)), 4, "law.go:99", #[⟨8, .data⟩, ⟨13, .data⟩, ⟨5, .guard⟩], (some (5, true))⟩,
 ⟨(some 46), (.pick (T 36) (T 45) (.const (.bool false))), 4, "law.go:99", #[⟨5, .data⟩, ⟨14, .data⟩], none⟩,
 ⟨(some 4), (.assign (T 46)), 4, "law.go:99", #[⟨15, .data⟩, ⟨12, .chain⟩, ⟨0, .phase⟩, ⟨1, .phase⟩, ⟨2, .phase⟩, ⟨3, .phase⟩, ⟨4, .phase⟩, ⟨5, .phase⟩, ⟨6, .phase⟩, ⟨7, .phase⟩, ⟨8, .phase⟩, ⟨9, .phase⟩, ⟨10, .phase⟩, ⟨11, .phase⟩, ⟨12, .phase⟩, ⟨13, .phase⟩, ⟨14, .phase⟩, ⟨15, .phase⟩], none⟩]
def r4_0 : Code := .region 8 o4_0 true
def c4 : Code :=
 .seq (rg [mo 2 (.box 26 (T 0)),
   mo 3 (.box 26 (T 1)),
   mo 4 (.assign (.const (.bool false)))])
 (.seq (rg [mo 11 (.load 26 (T 2)),
   mo 12 (.call ⟨(.value (.func 14)), #[(T 11)], #[26]⟩),
   mo 10 (.move (T 12)),
   mo 13 (.extract (T 10) 0),
   mo 14 (.extract (T 10) 1),
   mo 5 (.assign (T 13)),
   mo 6 (.assign (T 14))])
 (.seq (rg [mo 16 (.load 26 (T 3)),
   mo 17 (.call ⟨(.value (.func 14)), #[(T 16)], #[26]⟩),
   mo 15 (.move (T 17)),
   mo 18 (.extract (T 15) 0),
   mo 19 (.extract (T 15) 1),
   mo 7 (.assign (T 18)),
   mo 8 (.assign (T 19))])
 (.seq (.seq (rg [mo 20 (.call ⟨(.value (.func 12)), #[], #[]⟩),
    mo 21 (.unOp .not 4 (T 20))])
  (.cond (T 21) (.seq (rg [mo 4 (.assign (.const (.bool false)))])
   (.ret))
  (.skip)))
 (.seq (.seq (rg [mo 22 (.move (T 6)),
    mo 23 (.binOp .neq 27 (T 22) (.const (.int .i64 0)) 27),
    mo 24 (.move (T 23)),
    mg 25 2 false (.move (T 8)),
    mg 26 2 false (.binOp .neq 27 (T 25) (.const (.int .i64 0)) 27),
    mo 27 (.pick (T 24) (.const (.bool true)) (T 26))])
  (.cond (T 27) (.seq (rg [mo 4 (.assign (.const (.bool true)))])
   (.ret))
  (.skip)))
 (.seq (rg [mo 28 (.load 26 (T 2)),
   mo 29 (.load 26 (T 3)),
   mo 30 (.call ⟨(.value (.func 13)), #[(T 28), (T 29)], #[26, 26]⟩),
   mo 9 (.assign (T 30))])
 (.seq (r4_0)
 (.ret)))))))
/-! trivet/trivetlaw22.StateChecks -/
def o5_0 : Array Oper := #[⟨(some 5), (.call ⟨(.value (.func 12)), #[], #[]⟩), 4, "law.go:26", #[], none⟩,
 ⟨(some 6), (.move (T 5)), 4, "law.go:26", #[⟨0, .data⟩, ⟨0, .chain⟩], none⟩,
 ⟨(some 7), (.load 26 (T 2)), 26, "law.go:26", #[⟨1, .guard⟩], (some (1, true))⟩,
 ⟨(some 8), (.call ⟨(.value (.func 17)), #[(T 7)], #[26]⟩), 27, "law.go:26", #[⟨2, .data⟩, ⟨1, .chain⟩, ⟨1, .guard⟩], (some (1, true))⟩,
 ⟨(some 9), (.load 26 (T 2)), 26, "law.go:26", #[⟨1, .guard⟩], (some (1, true))⟩,
 ⟨(some 10), (.call ⟨(.value (.func 18)), #[(T 9)], #[26]⟩), 27, "law.go:26", #[⟨4, .data⟩, ⟨3, .chain⟩, ⟨1, .guard⟩], (some (1, true))⟩,
 ⟨(some 11), (.binOp .eql 27 (T 8) (T 10) 27), 4, "law.go:26", #[⟨3, .data⟩, ⟨5, .data⟩, ⟨1, .guard⟩], (some (1, true))⟩,
 ⟨(some 12), (.pick (T 6) (T 11) (.const (.bool false))), 4, "law.go:26", #[⟨1, .data⟩, ⟨6, .data⟩], none⟩,
 ⟨(some 13), (.move (T 12)), 4, "law.go:26", #[⟨7, .data⟩, ⟨5, .chain⟩], none⟩,
 ⟨(some 14), (.load 26 (T 2)), 26, "law.go:26", #[⟨8, .guard⟩], (some (8, true))⟩,
 ⟨(some 15), (.load 26 (T 3)), 26, "law.go:26", #[⟨8, .guard⟩], (some (8, true))⟩,
 ⟨(some 16), (.call ⟨(.value (.func 19)), #[(T 14), (T 15)], #[26, 26]⟩), 4, "law.go:26", #[⟨9, .data⟩, ⟨10, .data⟩, ⟨8, .chain⟩, ⟨8, .guard⟩], (some (8, true))⟩,
 ⟨(some 17), (.load 26 (T 2)), 26, "law.go:26", #[⟨8, .guard⟩], (some (8, true))⟩,
 ⟨(some 18), (.load 26 (T 3)), 26, "law.go:26", #[⟨8, .guard⟩], (some (8, true))⟩,
 ⟨(some 19), (.call ⟨(.value (.func 13)), #[(T 17), (T 18)], #[26, 26]⟩), 4, "law.go:26", #[⟨12, .data⟩, ⟨13, .data⟩, ⟨11, .chain⟩, ⟨8, .guard⟩], (some (8, true))⟩,
 ⟨(some 20), (.binOp .eql 4 (T 16) (T 19) 4), 4, "law.go:26", #[⟨11, .data⟩, ⟨14, .data⟩, ⟨8, .guard⟩], (some (8, true))⟩,
 ⟨(some 21), (.pick (T 13) (T 20) (.const (.bool false))), 4, "law.go:26", #[⟨8, .data⟩, ⟨15, .data⟩], none⟩,
 ⟨(some 22), (.move (T 21)), 4, "law.go:26", #[⟨16, .data⟩, ⟨14, .chain⟩], none⟩,
 ⟨(some 23), (.load 26 (T 2)), 26, "law.go:26", #[⟨17, .guard⟩], (some (17, true))⟩,
 ⟨(some 24), (.load 26 (T 2)), 26, "law.go:26", #[⟨17, .guard⟩], (some (17, true))⟩,
 ⟨(some 25), (.call ⟨(.value (.func 19)), #[(T 23), (T 24)], #[26, 26]⟩), 4, "law.go:26", #[⟨18, .data⟩, ⟨19, .data⟩, ⟨17, .chain⟩, ⟨17, .guard⟩], (some (17, true))⟩,
 ⟨(some 26), (.pick (T 22) (T 25) (.const (.bool false))), 4, "law.go:26", #[⟨17, .data⟩, ⟨20, .data⟩], none⟩,
 ⟨(some 27), (.move (T 26)), 4, "law.go:26", #[⟨21, .data⟩, ⟨20, .chain⟩], none⟩,
 ⟨(some 28), (.load 26 (T 2)), 26, "law.go:26", #[⟨22, .guard⟩], (some (22, true))⟩,
 ⟨(some 29), (.call ⟨(.value (.func 20)), #[(T 28)], #[26]⟩), 26, "law.go:26", #[⟨23, .data⟩, ⟨22, .chain⟩, ⟨22, .guard⟩], (some (22, true))⟩,
 ⟨(some 30), (.load 26 (T 2)), 26, "law.go:26", #[⟨22, .guard⟩], (some (22, true))⟩,
 ⟨(some 31), (.call ⟨(.value (.func 13)), #[(T 29), (T 30)], #[26, 26]⟩), 4, "law.go:26", #[⟨24, .data⟩, ⟨25, .data⟩, ⟨24, .chain⟩, ⟨22, .guard⟩], (some (22, true))⟩,
 ⟨(some 32), (.pick (T 27) (T 31) (.const (.bool false))), 4, "law.go:26", #[⟨22, .data⟩, ⟨26, .data⟩], none⟩,
 ⟨(some 4), (.assign (T 32)), 4, "law.go:26", #[⟨27, .data⟩, ⟨26, .chain⟩, ⟨0, .phase⟩, ⟨1, .phase⟩, ⟨2, .phase⟩, ⟨3, .phase⟩, ⟨4, .phase⟩, ⟨5, .phase⟩, ⟨6, .phase⟩, ⟨7, .phase⟩, ⟨8, .phase⟩, ⟨9, .phase⟩, ⟨10, .phase⟩, ⟨11, .phase⟩, ⟨12, .phase⟩, ⟨13, .phase⟩, ⟨14, .phase⟩, ⟨15, .phase⟩, ⟨16, .phase⟩, ⟨17, .phase⟩, ⟨18, .phase⟩, ⟨19, .phase⟩, ⟨20, .phase⟩, ⟨21, .phase⟩, ⟨22, .phase⟩, ⟨23, .phase⟩, ⟨24, .phase⟩, ⟨25, .phase⟩, ⟨26, .phase⟩, ⟨27, .phase⟩], none⟩]
def r5_0 : Code := .region 1 o5_0 true
def c5 : Code :=
 .seq (rg [mo 2 (.box 26 (T 0)),
   mo 3 (.box 26 (T 1)),
   mo 4 (.assign (.const (.bool false)))])
 (.seq (r5_0)
 (.ret))
/-! trivet/trivetlaw22.StateOwn -/
def fa7_0 : Code :=
 .region 21 #[⟨(some 8), (.alloc 57), 0, "law.go:135", #[], none⟩,
  ⟨none, (.store 57 (T 8) (T 74)), 0, "law.go:135", #[⟨0, .data⟩, ⟨0, .phase⟩], none⟩] false
def fb7_0 : Code :=
 .block 7 (.seq (.region 22 #[⟨(some 75), (.fieldAddr 57 (T 8) 3), 0, "law.go:136", #[], none⟩,
    ⟨(some 76), (.load 22 (T 75)), 22, "law.go:136", #[⟨0, .data⟩], none⟩,
    ⟨(some 77), (.call ⟨(.builtin .len), #[(T 76)], #[22]⟩), 3, "law.go:136", #[⟨1, .data⟩], none⟩,
    ⟨(some 78), (.move (.const (.int .i64 0))), 3, "law.go:136", #[], none⟩] false)
  (.block 8 (.loop (.seq (.region 23 #[⟨(some 79), (.binOp .lss 3 (T 78) (T 77) 3), 0, "law.go:136", #[], none⟩] false)
    (.seq (.cond (T 79) (.skip)
     (.exit 8))
    (.seq (.block 9 (.seq (.region 24 #[⟨(some 80), (.move (T 78)), 3, "law.go:136", #[], none⟩,
        ⟨(some 9), (.assign (T 80)), 3, "law.go:136", #[⟨0, .data⟩, ⟨0, .phase⟩], none⟩] false)
      (.region 25 #[⟨(some 81), (.fieldAddr 57 (T 8) 3), 0, "law.go:137", #[], none⟩,
       ⟨(some 82), (.load 22 (T 81)), 22, "law.go:137", #[⟨0, .data⟩], none⟩,
       ⟨(some 83), (.move (T 9)), 3, "law.go:137", #[], none⟩,
       ⟨(some 84), (.indexAddr 22 (T 82) (T 83)), 0, "law.go:137", #[⟨1, .data⟩, ⟨2, .data⟩], none⟩,
       ⟨(some 85), (.load 5 (T 84)), 5, "law.go:137", #[⟨3, .data⟩], none⟩,
       ⟨(some 86), (.binOp .xor 5 (T 85) (.const (.int .u8 85)) 5), 5, "law.go:137", #[⟨4, .data⟩], none⟩,
       ⟨(some 87), (.indexAddr 22 (T 82) (T 83)), 0, "law.go:137", #[⟨1, .data⟩, ⟨2, .data⟩, ⟨0, .phase⟩, ⟨1, .phase⟩, ⟨2, .phase⟩, ⟨3, .phase⟩, ⟨4, .phase⟩, ⟨5, .phase⟩], none⟩,
       ⟨none, (.store 5 (T 87) (T 86)), 0, "law.go:137", #[⟨6, .data⟩, ⟨5, .data⟩, ⟨0, .phase⟩, ⟨1, .phase⟩, ⟨2, .phase⟩, ⟨3, .phase⟩, ⟨4, .phase⟩, ⟨5, .phase⟩], none⟩] false)))
    (.region 26 #[⟨(some 88), (.binOp .add 3 (T 78) (.const (.int .i64 1)) 3), 3, "law.go:136", #[], none⟩,
     ⟨(some 78), (.move (T 88)), 3, "law.go:136", #[⟨0, .data⟩], none⟩] false)))))))
def sa7_0 : Code :=
 rg [mo 8 (.alloc 57),
  mx (.store 57 (T 8) (T 74))]
def sb7_0 : Code :=
 .block 7 (.seq (rg [mo 75 (.fieldAddr 57 (T 8) 3),
    mo 76 (.load 22 (T 75)),
    mo 77 (.call ⟨(.builtin .len), #[(T 76)], #[22]⟩),
    mo 78 (.move (.const (.int .i64 0)))])
  (.block 8 (.loop (.seq (rg [mo 79 (.binOp .lss 3 (T 78) (T 77) 3)])
    (.seq (.cond (T 79) (.skip)
     (.exit 8))
    (.seq (.block 9 (.seq (rg [mo 80 (.move (T 78)),
        mo 9 (.assign (T 80))])
      (rg [mo 81 (.fieldAddr 57 (T 8) 3),
       mo 82 (.load 22 (T 81)),
       mo 83 (.move (T 9)),
       mo 84 (.indexAddr 22 (T 82) (T 83)),
       mo 85 (.load 5 (T 84)),
       mo 86 (.binOp .xor 5 (T 85) (.const (.int .u8 85)) 5),
       mo 87 (.indexAddr 22 (T 82) (T 83)),
       mx (.store 5 (T 87) (T 86))])))
    (rg [mo 88 (.binOp .add 3 (T 78) (.const (.int .i64 1)) 3),
     mo 78 (.move (T 88))])))))))
theorem ta7_0 : Go.D.strip fa7_0 = sa7_0 := by kernel_rfl
theorem tb7_0 : Go.D.strip fb7_0 = sb7_0 := by kernel_rfl
def c7 : Code :=
 .seq (rg [mo 1 (.box 26 (T 0)),
   mo 2 (.assign (.const (.bool false)))])
 (.seq (.seq (rg [mo 10 (.call ⟨(.value (.func 12)), #[], #[]⟩),
    mo 11 (.unOp .not 4 (T 10))])
  (.cond (T 11) (.seq (rg [mo 2 (.assign (.const (.bool false)))])
   (.ret))
  (.skip)))
 (.seq (rg [mo 12 (.load 26 (T 1)),
   mo 13 (.call ⟨(.value (.func 25)), #[(T 12)], #[26]⟩),
   mo 3 (.assign (T 13))])
 (.seq (rg [mo 14 (.load 26 (T 1)),
   mo 15 (.call ⟨(.value (.func 20)), #[(T 14)], #[26]⟩),
   mo 4 (.alloc 26),
   mx (.store 26 (T 4) (T 15))])
 (.seq (.seq (rg [mo 16 (.fieldAddr 26 (T 4) 1),
    mo 17 (.load 23 (T 16)),
    mo 18 (.call ⟨(.builtin .len), #[(T 17)], #[23]⟩),
    mo 19 (.move (.const (.int .i64 0)))])
  (.block 0 (.loop (.seq (rg [mo 20 (.binOp .lss 3 (T 19) (T 18) 3)])
    (.seq (.cond (T 20) (.skip)
     (.exit 0))
    (.seq (.block 1 (.seq (rg [mo 21 (.move (T 19)),
        mo 5 (.assign (T 21))])
      (rg [mo 22 (.fieldAddr 26 (T 4) 1),
       mo 23 (.load 23 (T 22)),
       mo 24 (.move (T 5)),
       mo 25 (.indexAddr 23 (T 23) (T 24)),
       mo 26 (.fieldAddr 50 (T 25) 1),
       mo 27 (.load 2 (T 26)),
       mo 28 (.binOp .add 2 (T 27) (.const (.int .i64 1)) 2),
       mo 29 (.indexAddr 23 (T 23) (T 24)),
       mo 30 (.fieldAddr 50 (T 29) 1),
       mx (.store 2 (T 30) (T 28))])))
    (rg [mo 31 (.binOp .add 3 (T 19) (.const (.int .i64 1)) 3),
     mo 19 (.move (T 31))])))))))
 (.seq (.seq (rg [mo 32 (.fieldAddr 26 (T 4) 2),
    mo 33 (.load 24 (T 32)),
    mo 34 (.call ⟨(.builtin .len), #[(T 33)], #[24]⟩),
    mo 35 (.move (.const (.int .i64 0)))])
  (.block 2 (.loop (.seq (rg [mo 36 (.binOp .lss 3 (T 35) (T 34) 3)])
    (.seq (.cond (T 36) (.skip)
     (.exit 2))
    (.seq (.block 3 (.seq (rg [mo 37 (.move (T 35)),
        mo 6 (.assign (T 37))])
      (.seq (rg [mo 38 (.fieldAddr 26 (T 4) 2),
        mo 39 (.load 24 (T 38)),
        mo 40 (.move (T 6)),
        mo 41 (.indexAddr 24 (T 39) (T 40)),
        mo 42 (.fieldAddr 55 (T 41) 1),
        mo 43 (.load 2 (T 42)),
        mo 44 (.binOp .add 2 (T 43) (.const (.int .i64 1)) 2),
        mo 45 (.indexAddr 24 (T 39) (T 40)),
        mo 46 (.fieldAddr 55 (T 45) 1),
        mx (.store 2 (T 46) (T 44))])
      (.seq (rg [mo 47 (.fieldAddr 26 (T 4) 2),
        mo 48 (.load 24 (T 47)),
        mo 49 (.move (T 6)),
        mo 50 (.indexAddr 24 (T 48) (T 49)),
        mo 51 (.fieldAddr 55 (T 50) 2),
        mo 52 (.fieldAddr 53 (T 51) 1),
        mo 53 (.load 51 (T 52)),
        mo 54 (.call ⟨(.builtin .len), #[(T 53)], #[51]⟩),
        mo 55 (.move (.const (.int .i64 0)))])
      (.block 4 (.loop (.seq (rg [mo 56 (.binOp .lss 3 (T 55) (T 54) 3)])
        (.seq (.cond (T 56) (.skip)
         (.exit 4))
        (.seq (.block 5 (.seq (rg [mo 57 (.move (T 55)),
            mo 7 (.assign (T 57))])
          (rg [mo 58 (.fieldAddr 26 (T 4) 2),
           mo 59 (.load 24 (T 58)),
           mo 60 (.move (T 6)),
           mo 61 (.indexAddr 24 (T 59) (T 60)),
           mo 62 (.fieldAddr 55 (T 61) 2),
           mo 63 (.fieldAddr 53 (T 62) 1),
           mo 64 (.load 51 (T 63)),
           mo 65 (.move (T 7)),
           mo 66 (.indexAddr 51 (T 64) (T 65)),
           mo 67 (.load 2 (T 66)),
           mo 68 (.binOp .add 2 (T 67) (.const (.int .i64 1)) 2),
           mo 69 (.indexAddr 51 (T 64) (T 65)),
           mx (.store 2 (T 69) (T 68))])))
        (rg [mo 70 (.binOp .add 3 (T 55) (.const (.int .i64 1)) 3),
         mo 55 (.move (T 70))]))))))))))
    (rg [mo 71 (.binOp .add 3 (T 35) (.const (.int .i64 1)) 3),
     mo 35 (.move (T 71))])))))))
 (.seq (.seq (rg [mo 72 (.load 26 (T 1)),
    mo 73 (.call ⟨(.value (.func 23)), #[(T 72)], #[26]⟩)])
  (.block 6 (.rangeFunc (T 73) #[74] fa7_0 fb7_0)))
 (.seq (rg [mo 89 (.load 26 (T 1)),
   mo 90 (.call ⟨(.value (.func 25)), #[(T 89)], #[26]⟩),
   mo 91 (.move (T 3)),
   mo 92 (.binOp .eql 36 (T 90) (T 91) 36),
   mo 93 (.move (T 92)),
   mg 94 4 true (.load 26 (T 1)),
   mg 95 4 true (.call ⟨(.value (.func 16)), #[(T 94)], #[26]⟩),
   mg 96 4 true (.move (T 3)),
   mg 97 4 true (.binOp .eql 36 (T 95) (T 96) 36),
   mo 98 (.pick (T 93) (T 97) (.const (.bool false))),
   mo 2 (.assign (T 98))])
 (.ret))))))))
theorem body_7 : Try.f7.body.map strip = some c7 := by kernel_rfl
theorem go_7 {args : List Value} {h : DHeap} {R : DEnd → DHeap → Prop} (ha : args.length ≤ 99) (hx : xs Try.prog 99 c7 (XPost Try.prog [(.tmp 2)] R) ⟨argsFr args 99, [], h, none⟩) : Ct Try.prog 7 args h R :=
  Ct_xs (show Try.prog.funcs[7]? = some Try.f7 by kernel_rfl) body_7 (by kernel_rfl) (by kernel_rfl) ha (by kernel_rfl) hx
/-! trivet/trivetlaw22.StateBuilds -/
def c8 : Code :=
 .seq (rg [mo 2 (.assign (.const (.bool false)))])
 (.seq (rg [mo 8 (.move (T 0)),
   mo 9 (.call ⟨(.value (.func 26)), #[(T 8)], #[44]⟩),
   mo 7 (.move (T 9)),
   mo 10 (.extract (T 7) 0),
   mo 11 (.extract (T 7) 1),
   mo 3 (.alloc 26),
   mx (.store 26 (T 3) (T 10)),
   mo 4 (.assign (T 11))])
 (.seq (rg [mo 13 (.move (T 0)),
   mo 14 (.call ⟨(.value (.func 27)), #[(T 13)], #[44]⟩),
   mo 12 (.move (T 14)),
   mo 15 (.extract (T 12) 0),
   mo 16 (.extract (T 12) 1),
   mo 5 (.alloc 26),
   mx (.store 26 (T 5) (T 15)),
   mo 6 (.assign (T 16))])
 (.seq (rg [mo 17 (.call ⟨(.value (.func 12)), #[], #[]⟩),
   mo 18 (.move (T 17)),
   mg 19 1 true (.move (T 4)),
   mg 20 1 true (.move (T 6)),
   mg 21 1 true (.binOp .eql 27 (T 19) (T 20) 27),
   mo 22 (.pick (T 18) (T 21) (.const (.bool false))),
   mo 23 (.move (T 22)),
   mg 24 6 true (.load 26 (T 3)),
   mg 25 6 true (.load 26 (T 5)),
   mg 26 6 true (.call ⟨(.value (.func 13)), #[(T 24), (T 25)], #[26, 26]⟩),
   mo 27 (.pick (T 23) (T 26) (.const (.bool false))),
   mo 2 (.assign (T 27))])
 (.ret))))
/-! trivet/state.Parse -/
def o10_0 : Array Oper := #[⟨(some 27), (.fieldAddr 26 (T 5) 1), 0, "state.go:131", #[], none⟩,
 ⟨(some 28), (.load 23 (T 27)), 23, "state.go:131", #[⟨0, .data⟩], none⟩,
 ⟨(some 29), (.move (T 4)), 62, "state.go:131", #[], none⟩,
 ⟨(some 30), (.call ⟨(.value (.func 30)), #[(T 29)], #[62]⟩), 50, "state.go:131", #[⟨2, .data⟩], none⟩,
 ⟨(some 31), (.buildSlice 23 1 #[(0, (T 30))]), 23, "state.go:131", #[⟨3, .data⟩], none⟩,
 ⟨(some 32), (.call ⟨(.builtin .append), #[(T 28), (T 31)], #[23, 23]⟩), 23, "state.go:131", #[⟨1, .data⟩, ⟨4, .data⟩, ⟨3, .chain⟩], none⟩,
 ⟨(some 33), (.fieldAddr 26 (T 5) 1), 0, "state.go:131", #[⟨0, .phase⟩, ⟨1, .phase⟩, ⟨2, .phase⟩, ⟨3, .phase⟩, ⟨4, .phase⟩, ⟨5, .phase⟩], none⟩,
 ⟨none, (.store 23 (T 33) (T 32)), 0, "state.go:131", #[⟨6, .data⟩, ⟨5, .data⟩, ⟨5, .chain⟩, ⟨0, .phase⟩, ⟨1, .phase⟩, ⟨2, .phase⟩, ⟨3, .phase⟩, ⟨4, .phase⟩, ⟨5, .phase⟩], none⟩]
def l10_0 : List Oper := [mo 27 (.fieldAddr 26 (T 5) 1),
 mo 28 (.load 23 (T 27)),
 mo 29 (.move (T 4)),
 mo 30 (.call ⟨(.value (.func 30)), #[(T 29)], #[62]⟩),
 mo 31 (.buildSlice 23 1 #[(0, (T 30))]),
 mo 32 (.call ⟨(.builtin .append), #[(T 28), (T 31)], #[23, 23]⟩),
 mo 33 (.fieldAddr 26 (T 5) 1),
 mx (.store 23 (T 33) (T 32))]
def r10_0 : Code := .region 6 o10_0 true
theorem xr_10_0 {Q : DExit → St → Prop} {s : St} : xs Try.prog 105 r10_0 Q s = NC Try.prog 105 r10_0 Q s := rfl
theorem dr_10_0 {Q : DExit → St → Prop} {s : St} (h : XDraw Try.prog l10_0.toArray (befs o10_0.toList []) [(1, 3), (1, 4)] s.fr Q l10_0 0 s []) : NC Try.prog 105 r10_0 Q s :=
  NC.draw (by kernel_rfl) (by kernel_rfl) (by kernel_rfl) rfl (by kernel_rfl) (by kernel_rfl) h
attribute [go_sem] xr_10_0
def o10_1 : Array Oper := #[⟨(some 47), (.fieldAddr 26 (T 5) 2), 0, "state.go:134", #[], none⟩,
 ⟨(some 48), (.load 24 (T 47)), 24, "state.go:134", #[⟨0, .data⟩], none⟩,
 ⟨(some 49), (.move (T 4)), 62, "state.go:134", #[], none⟩,
 ⟨(some 50), (.call ⟨(.value (.func 31)), #[(T 49)], #[62]⟩), 55, "state.go:134", #[⟨2, .data⟩], none⟩,
 ⟨(some 51), (.buildSlice 24 1 #[(0, (T 50))]), 24, "state.go:134", #[⟨3, .data⟩], none⟩,
 ⟨(some 52), (.call ⟨(.builtin .append), #[(T 48), (T 51)], #[24, 24]⟩), 24, "state.go:134", #[⟨1, .data⟩, ⟨4, .data⟩, ⟨3, .chain⟩], none⟩,
 ⟨(some 53), (.fieldAddr 26 (T 5) 2), 0, "state.go:134", #[⟨0, .phase⟩, ⟨1, .phase⟩, ⟨2, .phase⟩, ⟨3, .phase⟩, ⟨4, .phase⟩, ⟨5, .phase⟩], none⟩,
 ⟨none, (.store 24 (T 53) (T 52)), 0, "state.go:134", #[⟨6, .data⟩, ⟨5, .data⟩, ⟨5, .chain⟩, ⟨0, .phase⟩, ⟨1, .phase⟩, ⟨2, .phase⟩, ⟨3, .phase⟩, ⟨4, .phase⟩, ⟨5, .phase⟩], none⟩]
def l10_1 : List Oper := [mo 47 (.fieldAddr 26 (T 5) 2),
 mo 48 (.load 24 (T 47)),
 mo 49 (.move (T 4)),
 mo 50 (.call ⟨(.value (.func 31)), #[(T 49)], #[62]⟩),
 mo 51 (.buildSlice 24 1 #[(0, (T 50))]),
 mo 52 (.call ⟨(.builtin .append), #[(T 48), (T 51)], #[24, 24]⟩),
 mo 53 (.fieldAddr 26 (T 5) 2),
 mx (.store 24 (T 53) (T 52))]
def r10_1 : Code := .region 10 o10_1 true
theorem xr_10_1 {Q : DExit → St → Prop} {s : St} : xs Try.prog 105 r10_1 Q s = NC Try.prog 105 r10_1 Q s := rfl
theorem dr_10_1 {Q : DExit → St → Prop} {s : St} (h : XDraw Try.prog l10_1.toArray (befs o10_1.toList []) [(1, 3), (1, 4)] s.fr Q l10_1 0 s []) : NC Try.prog 105 r10_1 Q s :=
  NC.draw (by kernel_rfl) (by kernel_rfl) (by kernel_rfl) rfl (by kernel_rfl) (by kernel_rfl) h
attribute [go_sem] xr_10_1
def o10_2 : Array Oper := #[⟨(some 99), (.build 26 #[]), 26, "state.go:146", #[], none⟩,
 ⟨(some 100), (.move (T 4)), 62, "state.go:146", #[⟨5, (.gcOnly Go.Departure.lateStores)⟩], none⟩,
 ⟨(some 101), (.nilCheck (T 100)), 0, "state.go:146", #[⟨1, .data⟩, ⟨5, (.gcOnly Go.Departure.lateStores)⟩], none⟩,
 ⟨(some 102), (.fieldAddr 64 (T 101) 1), 0, "state.go:146", #[⟨2, .data⟩, ⟨5, (.gcOnly Go.Departure.lateStores)⟩], none⟩,
 ⟨(some 103), (.load 27 (T 102)), 27, "state.go:146", #[⟨3, .data⟩, ⟨5, (.gcOnly Go.Departure.lateStores)⟩], none⟩,
 ⟨none, (.store 26 (T 2) (T 99)), 0, "state.go:146", #[⟨0, .data⟩, ⟨0, .phase⟩, ⟨1, (.textOnly Go.Departure.lateStores)⟩, ⟨2, (.textOnly Go.Departure.lateStores)⟩, ⟨3, (.textOnly Go.Departure.lateStores)⟩, ⟨4, (.textOnly Go.Departure.lateStores)⟩], none⟩,
 ⟨(some 3), (.assign (T 103)), 27, "state.go:146", #[⟨4, .data⟩, ⟨5, .chain⟩, ⟨0, .phase⟩, ⟨1, .phase⟩, ⟨2, .phase⟩, ⟨3, .phase⟩, ⟨4, .phase⟩, ⟨5, .phase⟩], none⟩]
def l10_2 : List Oper := [mo 99 (.build 26 #[]),
 mo 100 (.move (T 4)),
 mo 101 (.nilCheck (T 100)),
 mo 102 (.fieldAddr 64 (T 101) 1),
 mo 103 (.load 27 (T 102)),
 mx (.store 26 (T 2) (T 99)),
 mo 3 (.assign (T 103))]
def r10_2 : Code := .region 18 o10_2 true
theorem xr_10_2 {Q : DExit → St → Prop} {s : St} : xs Try.prog 105 r10_2 Q s = NC Try.prog 105 r10_2 Q s := rfl
theorem dr_10_2 {Q : DExit → St → Prop} {s : St} (h : XDraw Try.prog l10_2.toArray (befs o10_2.toList []) [(4, 5)] s.fr Q l10_2 0 s []) : NC Try.prog 105 r10_2 Q s :=
  NC.draw (by kernel_rfl) (by kernel_rfl) (by kernel_rfl) rfl (by kernel_rfl) (by kernel_rfl) h
attribute [go_sem] xr_10_2
def c10 : Code :=
 .seq (rg [mo 2 (.alloc 26),
   mo 3 (.assign (.const (.int .i64 0)))])
 (.seq (rg [mo 8 (.move (T 0)),
   mo 9 (.build 64 #[(0, (T 8))]),
   mo 10 (.box 64 (T 9)),
   mo 4 (.assign (T 10))])
 (.seq (rg [mo 11 (.move (T 4)),
   mo 12 (.call ⟨(.value (.func 28)), #[(T 11)], #[62]⟩),
   mo 13 (.build 26 #[(0, (T 12))]),
   mo 5 (.alloc 26),
   mx (.store 26 (T 5) (T 13))])
 (.seq (.seq (rg [mo 14 (.move (T 4)),
    mo 15 (.call ⟨(.value (.func 29)), #[(T 14), (.const (.int .i64 1048576))], #[62, 2]⟩),
    mo 6 (.assign (T 15))])
  (.block 0 (.loop (.seq (.seq (rg [mo 16 (.move (T 6)),
       mo 17 (.binOp .gtr 2 (T 16) (.const (.int .i64 0)) 2),
       mo 18 (.move (T 17)),
       mg 19 2 true (.move (T 4)),
       mg 20 2 true (.nilCheck (T 19)),
       mg 21 2 true (.fieldAddr 64 (T 20) 1),
       mg 22 2 true (.load 27 (T 21)),
       mg 23 2 true (.binOp .eql 27 (T 22) (.const (.int .i64 0)) 27),
       mo 24 (.pick (T 18) (T 23) (.const (.bool false)))])
     (.cond (T 24) (.skip)
     (.exit 0)))
    (.seq (.block 1 (r10_0))
    (rg [mo 25 (.move (T 6)),
     mo 26 (.binOp .sub 2 (T 25) (.const (.int .i64 1)) 2),
     mo 6 (.assign (T 26))]))))))
 (.seq (.seq (rg [mo 34 (.move (T 4)),
    mo 35 (.call ⟨(.value (.func 29)), #[(T 34), (.const (.int .i64 1048576))], #[62, 2]⟩),
    mo 7 (.assign (T 35))])
  (.block 2 (.loop (.seq (.seq (rg [mo 36 (.move (T 7)),
       mo 37 (.binOp .gtr 2 (T 36) (.const (.int .i64 0)) 2),
       mo 38 (.move (T 37)),
       mg 39 2 true (.move (T 4)),
       mg 40 2 true (.nilCheck (T 39)),
       mg 41 2 true (.fieldAddr 64 (T 40) 1),
       mg 42 2 true (.load 27 (T 41)),
       mg 43 2 true (.binOp .eql 27 (T 42) (.const (.int .i64 0)) 27),
       mo 44 (.pick (T 38) (T 43) (.const (.bool false)))])
     (.cond (T 44) (.skip)
     (.exit 2)))
    (.seq (.block 3 (r10_1))
    (rg [mo 45 (.move (T 7)),
     mo 46 (.binOp .sub 2 (T 45) (.const (.int .i64 1)) 2),
     mo 7 (.assign (T 46))]))))))
 (.seq (.seq (rg [mo 54 (.move (T 4)),
    mo 55 (.nilCheck (T 54)),
    mo 56 (.fieldAddr 64 (T 55) 1),
    mo 57 (.load 27 (T 56)),
    mo 58 (.binOp .eql 27 (T 57) (.const (.int .i64 0)) 27),
    mo 59 (.move (T 58)),
    mg 60 5 true (.move (T 4)),
    mg 61 5 true (.nilCheck (T 60)),
    mg 62 5 true (.fieldAddr 64 (T 61) 0),
    mg 63 5 true (.load 22 (T 62)),
    mg 64 5 true (.call ⟨(.builtin .len), #[(T 63)], #[22]⟩),
    mg 65 5 true (.binOp .gtr 3 (T 64) (.const (.int .i64 0)) 3),
    mo 66 (.pick (T 59) (T 65) (.const (.bool false)))])
  (.cond (T 66) (rg [mo 67 (.move (T 4)),
    mo 68 (.nilCheck (T 67)),
    mo 69 (.fieldAddr 64 (T 68) 1),
    mx (.store 27 (T 69) (.const (.int .i64 13)))])
  (.skip)))
 (.seq (.seq (rg [mo 70 (.move (T 4)),
    mo 71 (.nilCheck (T 70)),
    mo 72 (.fieldAddr 64 (T 71) 1),
    mo 73 (.load 27 (T 72)),
    mo 74 (.binOp .eql 27 (T 73) (.const (.int .i64 0)) 27),
    mo 75 (.move (T 74)),
    mg 76 5 true (.move (T 4)),
    mg 77 5 true (.nilCheck (T 76)),
    mg 78 5 true (.fieldAddr 64 (T 77) 2),
    mg 79 5 true (.load 4 (T 78)),
    mo 80 (.pick (T 75) (T 79) (.const (.bool false)))])
  (.cond (T 80) (rg [mo 81 (.move (T 4)),
    mo 82 (.nilCheck (T 81)),
    mo 83 (.fieldAddr 64 (T 82) 1),
    mx (.store 27 (T 83) (.const (.int .i64 220)))])
  (.skip)))
 (.seq (.seq (rg [mo 84 (.move (T 4)),
    mo 85 (.nilCheck (T 84)),
    mo 86 (.fieldAddr 64 (T 85) 1),
    mo 87 (.load 27 (T 86)),
    mo 88 (.binOp .eql 27 (T 87) (.const (.int .i64 0)) 27)])
  (.cond (T 88) (rg [mo 89 (.move (T 4)),
    mo 90 (.load 26 (T 5)),
    mo 91 (.call ⟨(.value (.func 17)), #[(T 90)], #[26]⟩),
    mo 92 (.nilCheck (T 89)),
    mo 93 (.fieldAddr 64 (T 92) 1),
    mx (.store 27 (T 93) (T 91))])
  (.skip)))
 (.seq (.seq (rg [mo 94 (.move (T 4)),
    mo 95 (.nilCheck (T 94)),
    mo 96 (.fieldAddr 64 (T 95) 1),
    mo 97 (.load 27 (T 96)),
    mo 98 (.binOp .neq 27 (T 97) (.const (.int .i64 0)) 27)])
  (.cond (T 98) (.seq (r10_2)
   (.ret))
  (.skip)))
 (.seq (rg [mo 104 (.load 26 (T 5)),
   mx (.store 26 (T 2) (T 104)),
   mo 3 (.assign (.const (.int .i64 0)))])
 (.ret))))))))))
theorem body_10 : Try.f10.body.map strip = some c10 := by kernel_rfl
theorem go_10 {args : List Value} {h : DHeap} {R : DEnd → DHeap → Prop} (ha : args.length ≤ 105) (hx : xs Try.prog 105 c10 (XPost Try.prog [(.cell 2 26), (.tmp 3)] R) ⟨argsFr args 105, [], h, none⟩) : Ct Try.prog 10 args h R :=
  Ct_xs (show Try.prog.funcs[10]? = some Try.f10 by kernel_rfl) body_10 (by kernel_rfl) (by kernel_rfl) ha (by kernel_rfl) hx
/-! trivet/trivetref22.Parse -/
/-! trivet/trivetlaw22.begun -/
def c12 : Code :=
 .seq (rg [mo 0 (.assign (.const (.bool false)))])
 (.seq (rg [mo 6 (.build 48 #[(1, (.const (.int .i64 1)))]),
   mo 7 (.build 50 #[(0, (T 6)), (1, (.const (.int .i64 5)))]),
   mo 8 (.buildSlice 23 1 #[(0, (T 7))]),
   mo 9 (.build 26 #[(0, (.const (.int .i64 1))), (1, (T 8))]),
   mo 1 (.alloc 26),
   mx (.store 26 (T 1) (T 9))])
 (.seq (rg [mo 11 (.load 26 (T 1)),
   mo 12 (.call ⟨(.value (.func 14)), #[(T 11)], #[26]⟩),
   mo 10 (.move (T 12)),
   mo 13 (.extract (T 10) 0),
   mo 14 (.extract (T 10) 1),
   mo 2 (.assign (T 13)),
   mo 3 (.assign (T 14))])
 (.seq (rg [mo 16 (.move (T 2)),
   mo 17 (.call ⟨(.value (.func 10)), #[(T 16)], #[22]⟩),
   mo 15 (.move (T 17)),
   mo 18 (.extract (T 15) 0),
   mo 19 (.extract (T 15) 1),
   mo 4 (.alloc 26),
   mx (.store 26 (T 4) (T 18)),
   mo 5 (.assign (T 19))])
 (.seq (rg [mo 20 (.move (T 2)),
   mo 21 (.buildSlice 22 11 #[(0, (.const (.int .u8 2))), (1, (.const (.int .u8 1))), (2, (.const (.int .u8 2))), (3, (.const (.int .u8 1))), (4, (.const (.int .u8 0))), (5, (.const (.int .u8 2))), (6, (.const (.int .u8 1))), (7, (.const (.int .u8 2))), (8, (.const (.int .u8 5))), (9, (.const (.int .u8 0))), (10, (.const (.int .u8 0)))]),
   mo 22 (.call ⟨(.value (.func 15)), #[(T 20), (T 21)], #[22, 22]⟩),
   mo 23 (.move (T 22)),
   mg 24 3 true (.move (T 3)),
   mg 25 3 true (.binOp .eql 27 (T 24) (.const (.int .i64 0)) 27),
   mo 26 (.pick (T 23) (T 25) (.const (.bool false))),
   mo 27 (.move (T 26)),
   mg 28 7 true (.move (T 5)),
   mg 29 7 true (.binOp .eql 27 (T 28) (.const (.int .i64 0)) 27),
   mo 30 (.pick (T 27) (T 29) (.const (.bool false))),
   mo 31 (.move (T 30)),
   mg 32 11 true (.load 26 (T 1)),
   mg 33 11 true (.load 26 (T 4)),
   mg 34 11 true (.call ⟨(.value (.func 19)), #[(T 32), (T 33)], #[26, 26]⟩),
   mo 35 (.pick (T 31) (T 34) (.const (.bool false))),
   mo 36 (.move (T 35)),
   mg 37 16 true (.load 26 (T 1)),
   mg 38 16 true (.call ⟨(.value (.func 16)), #[(T 37)], #[26]⟩),
   mg 39 16 true (.binOp .neq 36 (T 38) (.const (.int .u64 0)) 36),
   mo 40 (.pick (T 36) (T 39) (.const (.bool false))),
   mo 0 (.assign (T 40))])
 (.ret)))))
theorem body_12 : Try.f12.body.map strip = some c12 := by kernel_rfl
theorem go_12 {args : List Value} {h : DHeap} {R : DEnd → DHeap → Prop} (ha : args.length ≤ 41) (hx : xs Try.prog 41 c12 (XPost Try.prog [(.tmp 0)] R) ⟨argsFr args 41, [], h, none⟩) : Ct Try.prog 12 args h R :=
  Ct_xs (show Try.prog.funcs[12]? = some Try.f12 by kernel_rfl) body_12 (by kernel_rfl) (by kernel_rfl) ha (by kernel_rfl) hx
end Go.Proofs.Ytlhgijpdhniddaa

namespace Go.Proofs.Ytlhgijpdhniddaa
open Go.D
set_option maxRecDepth 100000
/-! trivet/trivetref22.May -/
def o37_0 : Array Oper := #[⟨(some 28), (.fieldAddr 50 (T 4) 2), 0, "ref.go:28", #[], none⟩,
 ⟨(some 29), (.load 2 (T 28)), 2, "ref.go:28", #[⟨0, .data⟩], none⟩,
 ⟨(some 30), (.binOp .lss 2 (T 29) (.const (.int .i64 0)) 2), 4, "ref.go:28", #[⟨1, .data⟩], none⟩,
 ⟨(some 31), (.move (T 30)), 4, "ref.go:28", #[⟨2, .data⟩], none⟩,
 ⟨(some 32), (.fieldAddr 50 (T 4) 2), 0, "ref.go:28", #[⟨3, .guard⟩], (some (3, false))⟩,
 ⟨(some 33), (.load 2 (T 32)), 2, "ref.go:28", #[⟨4, .data⟩, ⟨3, .guard⟩], (some (3, false))⟩,
 ⟨(some 34), (.fieldAddr 26 (T 1) 0), 0, "ref.go:28", #[⟨3, .guard⟩], (some (3, false))⟩,
 ⟨(some 35), (.load 2 (T 34)), 2, "ref.go:28", #[⟨6, .data⟩, ⟨3, .guard⟩], (some (3, false))⟩,
 ⟨(some 36), (.binOp .geq 2 (T 33) (T 35) 2), 4, "ref.go:28", #[⟨5, .data⟩, ⟨7, .data⟩, ⟨3, .guard⟩], (some (3, false))⟩,
 ⟨(some 37), (.pick (T 31) (.const (.bool true)) (T 36)), 4, "ref.go:28", #[⟨3, .data⟩, ⟨8, .data⟩], none⟩,
 ⟨(some 38), (.move (T 37)), 4, "ref.go:28", #[⟨9, .data⟩, ⟨3, .chain⟩], none⟩,
 ⟨(some 39), (.move (T 3)), 3, "ref.go:28", #[⟨10, .guard⟩], (some (10, false))⟩,
 ⟨(some 40), (.binOp .gtr 3 (T 39) (.const (.int .i64 0)) 3), 4, "ref.go:28", #[⟨11, .data⟩, ⟨10, .guard⟩], (some (10, false))⟩,
 ⟨(some 41), (.move (T 40)), 4, "ref.go:28", #[⟨12, .data⟩, ⟨10, .chain⟩, ⟨10, .guard⟩], (some (10, false))⟩,
 ⟨(some 42), (.fieldAddr 26 (T 1) 1), 0, "ref.go:28", #[⟨13, .guard⟩], (some (13, true))⟩,
 ⟨(some 43), (.load 23 (T 42)), 23, "ref.go:28", #[⟨14, .data⟩, ⟨13, .guard⟩], (some (13, true))⟩,
 ⟨(some 44), (.move (T 3)), 3, "ref.go:28", #[⟨13, .guard⟩], (some (13, true))⟩,
 ⟨(some 45), (.binOp .sub 3 (T 44) (.const (.int .i64 1)) 3), 3, "ref.go:28", #[⟨16, .data⟩, ⟨13, .guard⟩], (some (13, true))⟩,
 ⟨(some 46), (.indexAddr 23 (T 43) (T 45)), 0, "ref.go:28", #[⟨15, .data⟩, ⟨17, .data⟩, ⟨13, .guard⟩], (some (13, true))⟩,
 ⟨(some 47), (.fieldAddr 50 (T 46) 0), 0, "ref.go:28", #[⟨18, .data⟩, ⟨13, .guard⟩], (some (13, true))⟩,
 ⟨(some 48), (.load 48 (T 47)), 48, "ref.go:28", #[⟨19, .data⟩, ⟨13, .guard⟩], (some (13, true))⟩,
 ⟨(some 49), (.fieldAddr 50 (T 4) 0), 0, "ref.go:28", #[⟨13, .guard⟩], (some (13, true))⟩,
 ⟨(some 50), (.load 48 (T 49)), 48, "ref.go:28", #[⟨21, .data⟩, ⟨13, .guard⟩], (some (13, true))⟩,
 ⟨(some 51), (.call ⟨(.value (.func 65)), #[(T 48), (T 50)], #[48, 48]⟩), 4, "ref.go:28", #[⟨20, .data⟩, ⟨22, .data⟩, ⟨13, .chain⟩, ⟨13, .guard⟩], (some (13, true))⟩,
 ⟨(some 52), (.unOp .not 4 (T 51)), 4, "ref.go:28", #[⟨23, .data⟩, ⟨13, .guard⟩], (some (13, true))⟩,
 ⟨(some 53), (.pick (T 41) (T 52) (.const (.bool false))), 4, "ref.go:28", #[⟨13, .data⟩, ⟨24, .data⟩, ⟨10, .guard⟩], (some (10, false))⟩,
 ⟨(some 54), (.pick (T 38) (.const (.bool true)) (T 53)), 4, "ref.go:28", #[⟨10, .data⟩, ⟨25, .data⟩], none⟩]
def l37_0 : List Oper := [mo 28 (.fieldAddr 50 (T 4) 2),
 mo 29 (.load 2 (T 28)),
 mo 30 (.binOp .lss 2 (T 29) (.const (.int .i64 0)) 2),
 mo 31 (.move (T 30)),
 mg 32 3 false (.fieldAddr 50 (T 4) 2),
 mg 33 3 false (.load 2 (T 32)),
 mg 34 3 false (.fieldAddr 26 (T 1) 0),
 mg 35 3 false (.load 2 (T 34)),
 mg 36 3 false (.binOp .geq 2 (T 33) (T 35) 2),
 mo 37 (.pick (T 31) (.const (.bool true)) (T 36)),
 mo 38 (.move (T 37)),
 mg 39 10 false (.move (T 3)),
 mg 40 10 false (.binOp .gtr 3 (T 39) (.const (.int .i64 0)) 3),
 mg 41 10 false (.move (T 40)),
 mg 42 13 true (.fieldAddr 26 (T 1) 1),
 mg 43 13 true (.load 23 (T 42)),
 mg 44 13 true (.move (T 3)),
 mg 45 13 true (.binOp .sub 3 (T 44) (.const (.int .i64 1)) 3),
 mg 46 13 true (.indexAddr 23 (T 43) (T 45)),
 mg 47 13 true (.fieldAddr 50 (T 46) 0),
 mg 48 13 true (.load 48 (T 47)),
 mg 49 13 true (.fieldAddr 50 (T 4) 0),
 mg 50 13 true (.load 48 (T 49)),
 mg 51 13 true (.call ⟨(.value (.func 65)), #[(T 48), (T 50)], #[48, 48]⟩),
 mg 52 13 true (.unOp .not 4 (T 51)),
 mg 53 10 false (.pick (T 41) (T 52) (.const (.bool false))),
 mo 54 (.pick (T 38) (.const (.bool true)) (T 53))]
def r37_0 : Code := .region 7 o37_0 true
theorem xr_37_0 {Q : DExit → St → Prop} {s : St} : xs Try.prog 91 r37_0 Q s = NC Try.prog 91 r37_0 Q s := rfl
theorem dr_37_0 {Q : DExit → St → Prop} {s : St} (h : XDraw Try.prog l37_0.toArray (befs o37_0.toList []) [] s.fr Q l37_0 0 s []) : NC Try.prog 91 r37_0 Q s :=
  NC.draw (by kernel_rfl) (by kernel_rfl) (by kernel_rfl) rfl (by kernel_rfl) (by kernel_rfl) h
attribute [go_sem] xr_37_0
def o37_1 : Array Oper := #[⟨(some 62), (.fieldAddr 26 (T 1) 2), 0, "ref.go:33", #[], none⟩,
 ⟨(some 63), (.load 24 (T 62)), 24, "ref.go:33", #[⟨0, .data⟩], none⟩,
 ⟨(some 64), (.move (T 5)), 3, "ref.go:33", #[], none⟩,
 ⟨(some 65), (.indexAddr 24 (T 63) (T 64)), 0, "ref.go:33", #[⟨1, .data⟩, ⟨2, .data⟩], none⟩,
 ⟨(some 66), (.load 55 (T 65)), 55, "ref.go:33", #[⟨3, .data⟩], none⟩,
 ⟨(some 67), (.fieldAddr 26 (T 1) 0), 0, "ref.go:33", #[], none⟩,
 ⟨(some 68), (.load 2 (T 67)), 2, "ref.go:33", #[⟨5, .data⟩], none⟩,
 ⟨(some 69), (.call ⟨(.value (.func 66)), #[(T 66), (T 68)], #[55, 2]⟩), 4, "ref.go:33", #[⟨4, .data⟩, ⟨6, .data⟩], none⟩,
 ⟨(some 70), (.unOp .not 4 (T 69)), 4, "ref.go:33", #[⟨7, .data⟩], none⟩,
 ⟨(some 71), (.move (T 70)), 4, "ref.go:33", #[⟨8, .data⟩, ⟨7, .chain⟩], none⟩,
 ⟨(some 72), (.move (T 5)), 3, "ref.go:33", #[⟨9, .guard⟩], (some (9, false))⟩,
 ⟨(some 73), (.binOp .gtr 3 (T 72) (.const (.int .i64 0)) 3), 4, "ref.go:33", #[⟨10, .data⟩, ⟨9, .guard⟩], (some (9, false))⟩,
 ⟨(some 74), (.move (T 73)), 4, "ref.go:33", #[⟨11, .data⟩, ⟨9, .chain⟩, ⟨9, .guard⟩], (some (9, false))⟩,
 ⟨(some 75), (.fieldAddr 26 (T 1) 2), 0, "ref.go:33", #[⟨12, .guard⟩], (some (12, true))⟩,
 ⟨(some 76), (.load 24 (T 75)), 24, "ref.go:33", #[⟨13, .data⟩, ⟨12, .guard⟩], (some (12, true))⟩,
 ⟨(some 77), (.move (T 5)), 3, "ref.go:33", #[⟨12, .guard⟩], (some (12, true))⟩,
 ⟨(some 78), (.binOp .sub 3 (T 77) (.const (.int .i64 1)) 3), 3, "ref.go:33", #[⟨15, .data⟩, ⟨12, .guard⟩], (some (12, true))⟩,
 ⟨(some 79), (.indexAddr 24 (T 76) (T 78)), 0, "ref.go:33", #[⟨14, .data⟩, ⟨16, .data⟩, ⟨12, .guard⟩], (some (12, true))⟩,
 ⟨(some 80), (.fieldAddr 55 (T 79) 0), 0, "ref.go:33", #[⟨17, .data⟩, ⟨12, .guard⟩], (some (12, true))⟩,
 ⟨(some 81), (.load 2 (T 80)), 2, "ref.go:33", #[⟨18, .data⟩, ⟨12, .guard⟩], (some (12, true))⟩,
 ⟨(some 82), (.fieldAddr 26 (T 1) 2), 0, "ref.go:33", #[⟨12, .guard⟩], (some (12, true))⟩,
 ⟨(some 83), (.load 24 (T 82)), 24, "ref.go:33", #[⟨20, .data⟩, ⟨12, .guard⟩], (some (12, true))⟩,
 ⟨(some 84), (.move (T 5)), 3, "ref.go:33", #[⟨12, .guard⟩], (some (12, true))⟩,
 ⟨(some 85), (.indexAddr 24 (T 83) (T 84)), 0, "ref.go:33", #[⟨21, .data⟩, ⟨22, .data⟩, ⟨12, .guard⟩], (some (12, true))⟩,
 ⟨(some 86), (.fieldAddr 55 (T 85) 0), 0, "ref.go:33", #[⟨23, .data⟩, ⟨12, .guard⟩], (some (12, true))⟩,
 ⟨(some 87), (.load 2 (T 86)), 2, "ref.go:33", #[⟨24, .data⟩, ⟨12, .guard⟩], (some (12, true))⟩,
 ⟨(some 88), (.binOp .geq 2 (T 81) (T 87) 2), 4, "ref.go:33", #[⟨19, .data⟩, ⟨25, .data⟩, ⟨12, .guard⟩], (some (12, true))⟩,
 ⟨(some 89), (.pick (T 74) (T 88) (.const (.bool false))), 4, "ref.go:33", #[⟨12, .data⟩, ⟨26, .data⟩, ⟨9, .guard⟩], (some (9, false))⟩,
 ⟨(some 90), (.pick (T 71) (.const (.bool true)) (T 89)), 4, "ref.go:33", #[⟨9, .data⟩, ⟨27, .data⟩], none⟩]
def l37_1 : List Oper := [mo 62 (.fieldAddr 26 (T 1) 2),
 mo 63 (.load 24 (T 62)),
 mo 64 (.move (T 5)),
 mo 65 (.indexAddr 24 (T 63) (T 64)),
 mo 66 (.load 55 (T 65)),
 mo 67 (.fieldAddr 26 (T 1) 0),
 mo 68 (.load 2 (T 67)),
 mo 69 (.call ⟨(.value (.func 66)), #[(T 66), (T 68)], #[55, 2]⟩),
 mo 70 (.unOp .not 4 (T 69)),
 mo 71 (.move (T 70)),
 mg 72 9 false (.move (T 5)),
 mg 73 9 false (.binOp .gtr 3 (T 72) (.const (.int .i64 0)) 3),
 mg 74 9 false (.move (T 73)),
 mg 75 12 true (.fieldAddr 26 (T 1) 2),
 mg 76 12 true (.load 24 (T 75)),
 mg 77 12 true (.move (T 5)),
 mg 78 12 true (.binOp .sub 3 (T 77) (.const (.int .i64 1)) 3),
 mg 79 12 true (.indexAddr 24 (T 76) (T 78)),
 mg 80 12 true (.fieldAddr 55 (T 79) 0),
 mg 81 12 true (.load 2 (T 80)),
 mg 82 12 true (.fieldAddr 26 (T 1) 2),
 mg 83 12 true (.load 24 (T 82)),
 mg 84 12 true (.move (T 5)),
 mg 85 12 true (.indexAddr 24 (T 83) (T 84)),
 mg 86 12 true (.fieldAddr 55 (T 85) 0),
 mg 87 12 true (.load 2 (T 86)),
 mg 88 12 true (.binOp .geq 2 (T 81) (T 87) 2),
 mg 89 9 false (.pick (T 74) (T 88) (.const (.bool false))),
 mo 90 (.pick (T 71) (.const (.bool true)) (T 89))]
def r37_1 : Code := .region 12 o37_1 true
theorem xr_37_1 {Q : DExit → St → Prop} {s : St} : xs Try.prog 91 r37_1 Q s = NC Try.prog 91 r37_1 Q s := rfl
theorem dr_37_1 {Q : DExit → St → Prop} {s : St} (h : XDraw Try.prog l37_1.toArray (befs o37_1.toList []) [] s.fr Q l37_1 0 s []) : NC Try.prog 91 r37_1 Q s :=
  NC.draw (by kernel_rfl) (by kernel_rfl) (by kernel_rfl) rfl (by kernel_rfl) (by kernel_rfl) h
attribute [go_sem] xr_37_1
def c37 : Code :=
 .seq (rg [mo 1 (.box 26 (T 0)),
   mo 2 (.assign (.const (.bool false)))])
 (.seq (.seq (rg [mo 6 (.fieldAddr 26 (T 1) 0),
    mo 7 (.load 2 (T 6)),
    mo 8 (.call ⟨(.value (.func 64)), #[(T 7)], #[2]⟩),
    mo 9 (.unOp .not 4 (T 8)),
    mo 10 (.move (T 9)),
    mg 11 4 false (.fieldAddr 26 (T 1) 2),
    mg 12 4 false (.load 24 (T 11)),
    mg 13 4 false (.call ⟨(.builtin .len), #[(T 12)], #[24]⟩),
    mg 14 4 false (.binOp .gtr 3 (T 13) (.const (.int .i64 64)) 3),
    mo 15 (.pick (T 10) (.const (.bool true)) (T 14))])
  (.cond (T 15) (.seq (rg [mo 2 (.assign (.const (.bool false)))])
   (.ret))
  (.skip)))
 (.seq (.seq (rg [mo 3 (.assign (.const (.int .i64 0)))])
  (.block 0 (.loop (.seq (.seq (rg [mo 16 (.move (T 3)),
       mo 17 (.fieldAddr 26 (T 1) 1),
       mo 18 (.load 23 (T 17)),
       mo 19 (.call ⟨(.builtin .len), #[(T 18)], #[23]⟩),
       mo 20 (.binOp .lss 3 (T 16) (T 19) 3)])
     (.cond (T 20) (.skip)
     (.exit 0)))
    (.seq (.block 1 (.seq (rg [mo 23 (.fieldAddr 26 (T 1) 1),
        mo 24 (.load 23 (T 23)),
        mo 25 (.move (T 3)),
        mo 26 (.indexAddr 23 (T 24) (T 25)),
        mo 27 (.load 50 (T 26)),
        mo 4 (.alloc 50),
        mx (.store 50 (T 4) (T 27))])
      (.seq (r37_0)
      (.cond (T 54) (.seq (rg [mo 2 (.assign (.const (.bool false)))])
       (.ret))
      (.skip)))))
    (rg [mo 21 (.move (T 3)),
     mo 22 (.binOp .add 3 (T 21) (.const (.int .i64 1)) 3),
     mo 3 (.assign (T 22))]))))))
 (.seq (.seq (rg [mo 5 (.assign (.const (.int .i64 0)))])
  (.block 2 (.loop (.seq (.seq (rg [mo 55 (.move (T 5)),
       mo 56 (.fieldAddr 26 (T 1) 2),
       mo 57 (.load 24 (T 56)),
       mo 58 (.call ⟨(.builtin .len), #[(T 57)], #[24]⟩),
       mo 59 (.binOp .lss 3 (T 55) (T 58) 3)])
     (.cond (T 59) (.skip)
     (.exit 2)))
    (.seq (.block 3 (.seq (r37_1)
      (.cond (T 90) (.seq (rg [mo 2 (.assign (.const (.bool false)))])
       (.ret))
      (.skip))))
    (rg [mo 60 (.move (T 5)),
     mo 61 (.binOp .add 3 (T 60) (.const (.int .i64 1)) 3),
     mo 5 (.assign (T 61))]))))))
 (.seq (rg [mo 2 (.assign (.const (.bool true)))])
 (.ret)))))
theorem body_37 : Try.f37.body.map strip = some c37 := by kernel_rfl
theorem go_37 {args : List Value} {h : DHeap} {R : DEnd → DHeap → Prop} (ha : args.length ≤ 91) (hx : xs Try.prog 91 c37 (XPost Try.prog [(.tmp 2)] R) ⟨argsFr args 91, [], h, none⟩) : Ct Try.prog 37 args h R :=
  Ct_xs (show Try.prog.funcs[37]? = some Try.f37 by kernel_rfl) body_37 (by kernel_rfl) (by kernel_rfl) ha (by kernel_rfl) hx
/-! (*trivet/trivetref04.Reader).Fail -/
/-! trivet/trivetref12.SameCells -/
/-! trivet/trivetref20.SameRow -/
/-! (*trivet/state.writer).put -/
def c41 : Code :=
 rg [mo 4 (.move (T 0)),
  mo 5 (.move (T 0)),
  mo 6 (.nilCheck (T 5)),
  mo 7 (.fieldAddr 80 (T 6) 0),
  mo 8 (.load 22 (T 7)),
  mo 9 (.move (T 1)),
  mo 10 (.call ⟨(.value (.func 68)), #[(T 8), (T 9)], #[22, 51]⟩),
  mo 11 (.nilCheck (T 4)),
  mo 12 (.fieldAddr 80 (T 11) 0),
  mx (.store 22 (T 12) (T 10))]
theorem body_41 : Try.f41.body.map strip = some c41 := by kernel_rfl
theorem go_41 {args : List Value} {h : DHeap} {R : DEnd → DHeap → Prop} (ha : args.length ≤ 13) (hx : xs Try.prog 13 c41 (XPost Try.prog [] R) ⟨argsFr args 13, [], h, none⟩) : Ct Try.prog 41 args h R :=
  Ct_xs (show Try.prog.funcs[41]? = some Try.f41 by kernel_rfl) body_41 (by kernel_rfl) (by kernel_rfl) ha (by kernel_rfl) hx
/-! trivet/shard.Hash -/
def o42_0 : Array Oper := #[⟨(some 6), (.fieldAddr 48 (T 1) 0), 0, "shard.go:46", #[], none⟩,
 ⟨(some 7), (.load 21 (T 6)), 21, "shard.go:46", #[⟨0, .data⟩], none⟩,
 ⟨(some 8), (.convert 21 103 (T 7)), 103, "shard.go:46", #[⟨1, .data⟩], none⟩,
 ⟨(some 9), (.convert 103 36 (T 8)), 36, "shard.go:46", #[⟨2, .data⟩], none⟩,
 ⟨(some 10), (.fieldAddr 48 (T 1) 1), 0, "shard.go:46", #[⟨7, (.gcOnly Go.Departure.lateStores)⟩], none⟩,
 ⟨(some 11), (.load 2 (T 10)), 2, "shard.go:46", #[⟨4, .data⟩, ⟨7, (.gcOnly Go.Departure.lateStores)⟩], none⟩,
 ⟨(some 12), (.convert 2 36 (T 11)), 36, "shard.go:46", #[⟨5, .data⟩, ⟨7, (.gcOnly Go.Departure.lateStores)⟩], none⟩,
 ⟨(some 3), (.assign (T 9)), 36, "shard.go:46", #[⟨3, .data⟩, ⟨0, .phase⟩, ⟨1, .phase⟩, ⟨2, .phase⟩, ⟨3, .phase⟩, ⟨4, (.textOnly Go.Departure.lateStores)⟩, ⟨5, (.textOnly Go.Departure.lateStores)⟩, ⟨6, (.textOnly Go.Departure.lateStores)⟩], none⟩,
 ⟨(some 4), (.assign (T 12)), 36, "shard.go:46", #[⟨6, .data⟩, ⟨7, .chain⟩, ⟨0, .phase⟩, ⟨1, .phase⟩, ⟨2, .phase⟩, ⟨3, .phase⟩, ⟨4, .phase⟩, ⟨5, .phase⟩, ⟨6, .phase⟩, ⟨7, .phase⟩], none⟩]
def l42_0 : List Oper := [mo 6 (.fieldAddr 48 (T 1) 0),
 mo 7 (.load 21 (T 6)),
 mo 8 (.convert 21 103 (T 7)),
 mo 9 (.convert 103 36 (T 8)),
 mo 10 (.fieldAddr 48 (T 1) 1),
 mo 11 (.load 2 (T 10)),
 mo 12 (.convert 2 36 (T 11)),
 mo 3 (.assign (T 9)),
 mo 4 (.assign (T 12))]
def r42_0 : Code := .region 1 o42_0 true
theorem xr_42_0 {Q : DExit → St → Prop} {s : St} : xs Try.prog 28 r42_0 Q s = NC Try.prog 28 r42_0 Q s := rfl
theorem dr_42_0 {Q : DExit → St → Prop} {s : St} (h : XDraw Try.prog l42_0.toArray (befs o42_0.toList []) [] s.fr Q l42_0 0 s []) : NC Try.prog 28 r42_0 Q s :=
  NC.draw (by kernel_rfl) (by kernel_rfl) (by kernel_rfl) rfl (by kernel_rfl) (by kernel_rfl) h
attribute [go_sem] xr_42_0
def c42 : Code :=
 .seq (rg [mo 1 (.box 48 (T 0)),
   mo 2 (.assign (.const (.int .u64 0)))])
 (.seq (r42_0)
 (.seq (rg [mo 13 (.move (T 4)),
   mo 14 (.binOp .add 36 (T 13) (.const (.int .u64 11400714819323198485)) 36),
   mo 15 (.call ⟨(.value (.func 69)), #[(T 14)], #[36]⟩),
   mo 5 (.assign (T 15))])
 (.seq (rg [mo 16 (.move (T 5)),
   mo 17 (.move (T 3)),
   mo 18 (.binOp .add 36 (T 16) (T 17) 36),
   mo 19 (.call ⟨(.value (.func 69)), #[(T 18)], #[36]⟩),
   mo 5 (.assign (T 19))])
 (.seq (rg [mo 20 (.move (T 5)),
   mo 21 (.move (T 4)),
   mo 22 (.binOp .shr 36 (T 21) (.const (.int .u64 32)) 105),
   mo 23 (.binOp .add 36 (T 20) (T 22) 36),
   mo 24 (.move (T 3)),
   mo 25 (.binOp .shl 36 (T 24) (.const (.int .u64 32)) 105),
   mo 26 (.binOp .add 36 (T 23) (T 25) 36),
   mo 27 (.call ⟨(.value (.func 69)), #[(T 26)], #[36]⟩),
   mo 2 (.assign (T 27))])
 (.ret)))))
theorem body_42 : Try.f42.body.map strip = some c42 := by kernel_rfl
theorem go_42 {args : List Value} {h : DHeap} {R : DEnd → DHeap → Prop} (ha : args.length ≤ 28) (hx : xs Try.prog 28 c42 (XPost Try.prog [(.tmp 2)] R) ⟨argsFr args 28, [], h, none⟩) : Ct Try.prog 42 args h R :=
  Ct_xs (show Try.prog.funcs[42]? = some Try.f42 by kernel_rfl) body_42 (by kernel_rfl) (by kernel_rfl) ha (by kernel_rfl) hx
/-! trivet/state.count -/
def c43 : Code :=
 .seq (rg [mo 4 (.assign (.const (.bool false)))])
 (.seq (rg [mo 5 (.move (T 0)),
   mo 6 (.binOp .geq 2 (T 5) (.const (.int .i64 0)) 2),
   mo 7 (.move (T 6)),
   mg 8 2 true (.move (T 0)),
   mg 9 2 true (.move (T 1)),
   mg 10 2 true (.binOp .leq 2 (T 8) (T 9) 2),
   mo 11 (.pick (T 7) (T 10) (.const (.bool false))),
   mo 4 (.assign (T 11))])
 (.ret))
theorem body_43 : Try.f43.body.map strip = some c43 := by kernel_rfl
theorem go_43 {args : List Value} {h : DHeap} {R : DEnd → DHeap → Prop} (ha : args.length ≤ 12) (hx : xs Try.prog 12 c43 (XPost Try.prog [(.tmp 4)] R) ⟨argsFr args 12, [], h, none⟩) : Ct Try.prog 43 args h R :=
  Ct_xs (show Try.prog.funcs[43]? = some Try.f43 by kernel_rfl) body_43 (by kernel_rfl) (by kernel_rfl) ha (by kernel_rfl) hx
/-! trivet/state.rises[trivet/api.Cell] -/
def o44_0 : Array Oper := #[⟨(some 12), (.move (T 1)), 86, "state.go:24", #[], none⟩,
 ⟨(some 13), (.move (T 0)), 23, "state.go:24", #[], none⟩,
 ⟨(some 14), (.move (T 5)), 3, "state.go:24", #[], none⟩,
 ⟨(some 15), (.binOp .sub 3 (T 14) (.const (.int .i64 1)) 3), 3, "state.go:24", #[⟨2, .data⟩], none⟩,
 ⟨(some 16), (.indexAddr 23 (T 13) (T 15)), 0, "state.go:24", #[⟨1, .data⟩, ⟨3, .data⟩], none⟩,
 ⟨(some 17), (.load 50 (T 16)), 50, "state.go:24", #[⟨4, .data⟩], none⟩,
 ⟨(some 18), (.move (T 0)), 23, "state.go:24", #[], none⟩,
 ⟨(some 19), (.move (T 5)), 3, "state.go:24", #[], none⟩,
 ⟨(some 20), (.indexAddr 23 (T 18) (T 19)), 0, "state.go:24", #[⟨6, .data⟩, ⟨7, .data⟩], none⟩,
 ⟨(some 21), (.load 50 (T 20)), 50, "state.go:24", #[⟨8, .data⟩], none⟩,
 ⟨(some 22), (.call ⟨(.value (T 12)), #[(T 17), (T 21)], #[50, 50]⟩), 4, "state.go:24", #[⟨0, .data⟩, ⟨5, .data⟩, ⟨9, .data⟩], none⟩,
 ⟨(some 23), (.unOp .not 4 (T 22)), 4, "state.go:24", #[⟨10, .data⟩], none⟩]
def l44_0 : List Oper := [mo 12 (.move (T 1)),
 mo 13 (.move (T 0)),
 mo 14 (.move (T 5)),
 mo 15 (.binOp .sub 3 (T 14) (.const (.int .i64 1)) 3),
 mo 16 (.indexAddr 23 (T 13) (T 15)),
 mo 17 (.load 50 (T 16)),
 mo 18 (.move (T 0)),
 mo 19 (.move (T 5)),
 mo 20 (.indexAddr 23 (T 18) (T 19)),
 mo 21 (.load 50 (T 20)),
 mo 22 (.call ⟨(.value (T 12)), #[(T 17), (T 21)], #[50, 50]⟩),
 mo 23 (.unOp .not 4 (T 22))]
def r44_0 : Code := .region 4 o44_0 true
theorem xr_44_0 {Q : DExit → St → Prop} {s : St} : xs Try.prog 24 r44_0 Q s = NC Try.prog 24 r44_0 Q s := rfl
theorem dr_44_0 {Q : DExit → St → Prop} {s : St} (h : XDraw Try.prog l44_0.toArray (befs o44_0.toList []) [] s.fr Q l44_0 0 s []) : NC Try.prog 24 r44_0 Q s :=
  NC.draw (by kernel_rfl) (by kernel_rfl) (by kernel_rfl) rfl (by kernel_rfl) (by kernel_rfl) h
attribute [go_sem] xr_44_0
def c44 : Code :=
 .seq (rg [mo 4 (.assign (.const (.bool false)))])
 (.seq (.seq (rg [mo 5 (.assign (.const (.int .i64 1)))])
  (.block 0 (.loop (.seq (.seq (rg [mo 6 (.move (T 5)),
       mo 7 (.move (T 0)),
       mo 8 (.call ⟨(.builtin .len), #[(T 7)], #[23]⟩),
       mo 9 (.binOp .lss 3 (T 6) (T 8) 3)])
     (.cond (T 9) (.skip)
     (.exit 0)))
    (.seq (.block 1 (.seq (r44_0)
      (.cond (T 23) (.seq (rg [mo 4 (.assign (.const (.bool false)))])
       (.ret))
      (.skip))))
    (rg [mo 10 (.move (T 5)),
     mo 11 (.binOp .add 3 (T 10) (.const (.int .i64 1)) 3),
     mo 5 (.assign (T 11))]))))))
 (.seq (rg [mo 4 (.assign (.const (.bool true)))])
 (.ret)))
theorem body_44 : Try.f44.body.map strip = some c44 := by kernel_rfl
theorem go_44 {args : List Value} {h : DHeap} {R : DEnd → DHeap → Prop} (ha : args.length ≤ 24) (hx : xs Try.prog 24 c44 (XPost Try.prog [(.tmp 4)] R) ⟨argsFr args 24, [], h, none⟩) : Ct Try.prog 44 args h R :=
  Ct_xs (show Try.prog.funcs[44]? = some Try.f44 by kernel_rfl) body_44 (by kernel_rfl) (by kernel_rfl) ha (by kernel_rfl) hx
/-! trivet/state.Check$1 -/
def c45 : Code :=
 .seq (rg [mo 2 (.box 50 (T 0)),
   mo 3 (.box 50 (T 1)),
   mo 4 (.assign (.const (.bool false)))])
 (.seq (rg [mo 5 (.fieldAddr 50 (T 2) 0),
   mo 6 (.load 48 (T 5)),
   mo 7 (.fieldAddr 50 (T 3) 0),
   mo 8 (.load 48 (T 7)),
   mo 9 (.call ⟨(.value (.func 46)), #[(T 6), (T 8)], #[48, 48]⟩),
   mo 10 (.binOp .lss 3 (T 9) (.const (.int .i64 0)) 3),
   mo 4 (.assign (T 10))])
 (.ret))
theorem body_45 : Try.f45.body.map strip = some c45 := by kernel_rfl
theorem go_45 {args : List Value} {h : DHeap} {R : DEnd → DHeap → Prop} (ha : args.length ≤ 11) (hx : xs Try.prog 11 c45 (XPost Try.prog [(.tmp 4)] R) ⟨argsFr args 11, [], h, none⟩) : Ct Try.prog 45 args h R :=
  Ct_xs (show Try.prog.funcs[45]? = some Try.f45 by kernel_rfl) body_45 (by kernel_rfl) (by kernel_rfl) ha (by kernel_rfl) hx
/-! trivet/shard.Compare -/
def o46_0 : Array Oper := #[⟨(some 5), (.fieldAddr 48 (T 2) 0), 0, "shard.go:14", #[], none⟩,
 ⟨(some 6), (.load 21 (T 5)), 21, "shard.go:14", #[⟨0, .data⟩], none⟩,
 ⟨(some 7), (.fieldAddr 48 (T 3) 0), 0, "shard.go:14", #[], none⟩,
 ⟨(some 8), (.load 21 (T 7)), 21, "shard.go:14", #[⟨2, .data⟩], none⟩,
 ⟨(some 9), (.call ⟨(.value (.func 71)), #[(T 6), (T 8)], #[21, 21]⟩), 3, "shard.go:14", #[⟨1, .data⟩, ⟨3, .data⟩], none⟩,
 ⟨(some 10), (.fieldAddr 48 (T 2) 1), 0, "shard.go:14", #[], none⟩,
 ⟨(some 11), (.load 2 (T 10)), 2, "shard.go:14", #[⟨5, .data⟩], none⟩,
 ⟨(some 12), (.fieldAddr 48 (T 3) 1), 0, "shard.go:14", #[], none⟩,
 ⟨(some 13), (.load 2 (T 12)), 2, "shard.go:14", #[⟨7, .data⟩], none⟩,
 ⟨(some 14), (.call ⟨(.value (.func 72)), #[(T 11), (T 13)], #[2, 2]⟩), 3, "shard.go:14", #[⟨6, .data⟩, ⟨8, .data⟩, ⟨4, .chain⟩], none⟩,
 ⟨(some 15), (.buildSlice 115 2 #[(0, (T 9)), (1, (T 14))]), 115, "shard.go:14", #[⟨4, .data⟩, ⟨9, .data⟩], none⟩,
 ⟨(some 16), (.call ⟨(.value (.func 70)), #[(T 15)], #[115]⟩), 3, "shard.go:14", #[⟨10, .data⟩, ⟨9, .chain⟩], none⟩,
 ⟨(some 4), (.assign (T 16)), 3, "shard.go:14", #[⟨11, .data⟩, ⟨11, .chain⟩, ⟨0, .phase⟩, ⟨1, .phase⟩, ⟨2, .phase⟩, ⟨3, .phase⟩, ⟨4, .phase⟩, ⟨5, .phase⟩, ⟨6, .phase⟩, ⟨7, .phase⟩, ⟨8, .phase⟩, ⟨9, .phase⟩, ⟨10, .phase⟩, ⟨11, .phase⟩], none⟩]
def l46_0 : List Oper := [mo 5 (.fieldAddr 48 (T 2) 0),
 mo 6 (.load 21 (T 5)),
 mo 7 (.fieldAddr 48 (T 3) 0),
 mo 8 (.load 21 (T 7)),
 mo 9 (.call ⟨(.value (.func 71)), #[(T 6), (T 8)], #[21, 21]⟩),
 mo 10 (.fieldAddr 48 (T 2) 1),
 mo 11 (.load 2 (T 10)),
 mo 12 (.fieldAddr 48 (T 3) 1),
 mo 13 (.load 2 (T 12)),
 mo 14 (.call ⟨(.value (.func 72)), #[(T 11), (T 13)], #[2, 2]⟩),
 mo 15 (.buildSlice 115 2 #[(0, (T 9)), (1, (T 14))]),
 mo 16 (.call ⟨(.value (.func 70)), #[(T 15)], #[115]⟩),
 mo 4 (.assign (T 16))]
def r46_0 : Code := .region 1 o46_0 true
theorem xr_46_0 {Q : DExit → St → Prop} {s : St} : xs Try.prog 17 r46_0 Q s = NC Try.prog 17 r46_0 Q s := rfl
theorem dr_46_0 {Q : DExit → St → Prop} {s : St} (h : XDraw Try.prog l46_0.toArray (befs o46_0.toList []) [(6, 4), (8, 4)] s.fr Q l46_0 0 s []) : NC Try.prog 17 r46_0 Q s :=
  NC.draw (by kernel_rfl) (by kernel_rfl) (by kernel_rfl) rfl (by kernel_rfl) (by kernel_rfl) h
attribute [go_sem] xr_46_0
def c46 : Code :=
 .seq (rg [mo 2 (.box 48 (T 0)),
   mo 3 (.box 48 (T 1)),
   mo 4 (.assign (.const (.int .i64 0)))])
 (.seq (r46_0)
 (.ret))
theorem body_46 : Try.f46.body.map strip = some c46 := by kernel_rfl
theorem go_46 {args : List Value} {h : DHeap} {R : DEnd → DHeap → Prop} (ha : args.length ≤ 17) (hx : xs Try.prog 17 c46 (XPost Try.prog [(.tmp 4)] R) ⟨argsFr args 17, [], h, none⟩) : Ct Try.prog 46 args h R :=
  Ct_xs (show Try.prog.funcs[46]? = some Try.f46 by kernel_rfl) body_46 (by kernel_rfl) (by kernel_rfl) ha (by kernel_rfl) hx
/-! trivet/state.rises[trivet/api.Row] -/
def o47_0 : Array Oper := #[⟨(some 12), (.move (T 1)), 77, "state.go:24", #[], none⟩,
 ⟨(some 13), (.move (T 0)), 24, "state.go:24", #[], none⟩,
 ⟨(some 14), (.move (T 5)), 3, "state.go:24", #[], none⟩,
 ⟨(some 15), (.binOp .sub 3 (T 14) (.const (.int .i64 1)) 3), 3, "state.go:24", #[⟨2, .data⟩], none⟩,
 ⟨(some 16), (.indexAddr 24 (T 13) (T 15)), 0, "state.go:24", #[⟨1, .data⟩, ⟨3, .data⟩], none⟩,
 ⟨(some 17), (.load 55 (T 16)), 55, "state.go:24", #[⟨4, .data⟩], none⟩,
 ⟨(some 18), (.move (T 0)), 24, "state.go:24", #[], none⟩,
 ⟨(some 19), (.move (T 5)), 3, "state.go:24", #[], none⟩,
 ⟨(some 20), (.indexAddr 24 (T 18) (T 19)), 0, "state.go:24", #[⟨6, .data⟩, ⟨7, .data⟩], none⟩,
 ⟨(some 21), (.load 55 (T 20)), 55, "state.go:24", #[⟨8, .data⟩], none⟩,
 ⟨(some 22), (.call ⟨(.value (T 12)), #[(T 17), (T 21)], #[55, 55]⟩), 4, "state.go:24", #[⟨0, .data⟩, ⟨5, .data⟩, ⟨9, .data⟩], none⟩,
 ⟨(some 23), (.unOp .not 4 (T 22)), 4, "state.go:24", #[⟨10, .data⟩], none⟩]
def l47_0 : List Oper := [mo 12 (.move (T 1)),
 mo 13 (.move (T 0)),
 mo 14 (.move (T 5)),
 mo 15 (.binOp .sub 3 (T 14) (.const (.int .i64 1)) 3),
 mo 16 (.indexAddr 24 (T 13) (T 15)),
 mo 17 (.load 55 (T 16)),
 mo 18 (.move (T 0)),
 mo 19 (.move (T 5)),
 mo 20 (.indexAddr 24 (T 18) (T 19)),
 mo 21 (.load 55 (T 20)),
 mo 22 (.call ⟨(.value (T 12)), #[(T 17), (T 21)], #[55, 55]⟩),
 mo 23 (.unOp .not 4 (T 22))]
def r47_0 : Code := .region 4 o47_0 true
theorem xr_47_0 {Q : DExit → St → Prop} {s : St} : xs Try.prog 24 r47_0 Q s = NC Try.prog 24 r47_0 Q s := rfl
theorem dr_47_0 {Q : DExit → St → Prop} {s : St} (h : XDraw Try.prog l47_0.toArray (befs o47_0.toList []) [] s.fr Q l47_0 0 s []) : NC Try.prog 24 r47_0 Q s :=
  NC.draw (by kernel_rfl) (by kernel_rfl) (by kernel_rfl) rfl (by kernel_rfl) (by kernel_rfl) h
attribute [go_sem] xr_47_0
def c47 : Code :=
 .seq (rg [mo 4 (.assign (.const (.bool false)))])
 (.seq (.seq (rg [mo 5 (.assign (.const (.int .i64 1)))])
  (.block 0 (.loop (.seq (.seq (rg [mo 6 (.move (T 5)),
       mo 7 (.move (T 0)),
       mo 8 (.call ⟨(.builtin .len), #[(T 7)], #[24]⟩),
       mo 9 (.binOp .lss 3 (T 6) (T 8) 3)])
     (.cond (T 9) (.skip)
     (.exit 0)))
    (.seq (.block 1 (.seq (r47_0)
      (.cond (T 23) (.seq (rg [mo 4 (.assign (.const (.bool false)))])
       (.ret))
      (.skip))))
    (rg [mo 10 (.move (T 5)),
     mo 11 (.binOp .add 3 (T 10) (.const (.int .i64 1)) 3),
     mo 5 (.assign (T 11))]))))))
 (.seq (rg [mo 4 (.assign (.const (.bool true)))])
 (.ret)))
theorem body_47 : Try.f47.body.map strip = some c47 := by kernel_rfl
theorem go_47 {args : List Value} {h : DHeap} {R : DEnd → DHeap → Prop} (ha : args.length ≤ 24) (hx : xs Try.prog 24 c47 (XPost Try.prog [(.tmp 4)] R) ⟨argsFr args 24, [], h, none⟩) : Ct Try.prog 47 args h R :=
  Ct_xs (show Try.prog.funcs[47]? = some Try.f47 by kernel_rfl) body_47 (by kernel_rfl) (by kernel_rfl) ha (by kernel_rfl) hx
/-! trivet/state.Check$2 -/
def c48 : Code :=
 .seq (rg [mo 2 (.box 55 (T 0)),
   mo 3 (.box 55 (T 1)),
   mo 4 (.assign (.const (.bool false)))])
 (.seq (rg [mo 5 (.fieldAddr 55 (T 2) 0),
   mo 6 (.load 2 (T 5)),
   mo 7 (.fieldAddr 55 (T 3) 0),
   mo 8 (.load 2 (T 7)),
   mo 9 (.binOp .lss 2 (T 6) (T 8) 2),
   mo 4 (.assign (T 9))])
 (.ret))
theorem body_48 : Try.f48.body.map strip = some c48 := by kernel_rfl
theorem go_48 {args : List Value} {h : DHeap} {R : DEnd → DHeap → Prop} (ha : args.length ≤ 10) (hx : xs Try.prog 10 c48 (XPost Try.prog [(.tmp 4)] R) ⟨argsFr args 10, [], h, none⟩) : Ct Try.prog 48 args h R :=
  Ct_xs (show Try.prog.funcs[48]? = some Try.f48 by kernel_rfl) body_48 (by kernel_rfl) (by kernel_rfl) ha (by kernel_rfl) hx
/-! slices.Equal[[]trivet/api.Cell,trivet/api.Cell] -/
def o49_0 : Array Oper := #[⟨(some 16), (.move (T 0)), 23, "slices.go:25", #[], none⟩,
 ⟨(some 17), (.move (T 5)), 3, "slices.go:25", #[], none⟩,
 ⟨(some 18), (.indexAddr 23 (T 16) (T 17)), 0, "slices.go:25", #[⟨0, .data⟩, ⟨1, .data⟩], none⟩,
 ⟨(some 19), (.load 50 (T 18)), 50, "slices.go:25", #[⟨2, .data⟩], none⟩,
 ⟨(some 20), (.move (T 1)), 23, "slices.go:25", #[], none⟩,
 ⟨(some 21), (.move (T 5)), 3, "slices.go:25", #[], none⟩,
 ⟨(some 22), (.indexAddr 23 (T 20) (T 21)), 0, "slices.go:25", #[⟨4, .data⟩, ⟨5, .data⟩], none⟩,
 ⟨(some 23), (.load 50 (T 22)), 50, "slices.go:25", #[⟨6, .data⟩], none⟩,
 ⟨(some 24), (.binOp .neq 50 (T 19) (T 23) 50), 4, "slices.go:25", #[⟨3, .data⟩, ⟨7, .data⟩], none⟩]
def l49_0 : List Oper := [mo 16 (.move (T 0)),
 mo 17 (.move (T 5)),
 mo 18 (.indexAddr 23 (T 16) (T 17)),
 mo 19 (.load 50 (T 18)),
 mo 20 (.move (T 1)),
 mo 21 (.move (T 5)),
 mo 22 (.indexAddr 23 (T 20) (T 21)),
 mo 23 (.load 50 (T 22)),
 mo 24 (.binOp .neq 50 (T 19) (T 23) 50)]
def r49_0 : Code := .region 6 o49_0 true
theorem xr_49_0 {Q : DExit → St → Prop} {s : St} : xs Try.prog 26 r49_0 Q s = NC Try.prog 26 r49_0 Q s := rfl
theorem dr_49_0 {Q : DExit → St → Prop} {s : St} (h : XDraw Try.prog l49_0.toArray (befs o49_0.toList []) [] s.fr Q l49_0 0 s []) : NC Try.prog 26 r49_0 Q s :=
  NC.draw (by kernel_rfl) (by kernel_rfl) (by kernel_rfl) rfl (by kernel_rfl) (by kernel_rfl) h
attribute [go_sem] xr_49_0
def c49 : Code :=
 .seq (rg [mo 4 (.assign (.const (.bool false)))])
 (.seq (.seq (rg [mo 6 (.move (T 0)),
    mo 7 (.call ⟨(.builtin .len), #[(T 6)], #[23]⟩),
    mo 8 (.move (T 1)),
    mo 9 (.call ⟨(.builtin .len), #[(T 8)], #[23]⟩),
    mo 10 (.binOp .neq 3 (T 7) (T 9) 3)])
  (.cond (T 10) (.seq (rg [mo 4 (.assign (.const (.bool false)))])
   (.ret))
  (.skip)))
 (.seq (.seq (rg [mo 11 (.move (T 0)),
    mo 12 (.call ⟨(.builtin .len), #[(T 11)], #[23]⟩),
    mo 13 (.move (.const (.int .i64 0)))])
  (.block 0 (.loop (.seq (rg [mo 14 (.binOp .lss 3 (T 13) (T 12) 3)])
    (.seq (.cond (T 14) (.skip)
     (.exit 0))
    (.seq (.block 1 (.seq (rg [mo 15 (.move (T 13)),
        mo 5 (.assign (T 15))])
      (.seq (r49_0)
      (.cond (T 24) (.seq (rg [mo 4 (.assign (.const (.bool false)))])
       (.ret))
      (.skip)))))
    (rg [mo 25 (.binOp .add 3 (T 13) (.const (.int .i64 1)) 3),
     mo 13 (.move (T 25))])))))))
 (.seq (rg [mo 4 (.assign (.const (.bool true)))])
 (.ret))))
theorem body_49 : Try.f49.body.map strip = some c49 := by kernel_rfl
theorem go_49 {args : List Value} {h : DHeap} {R : DEnd → DHeap → Prop} (ha : args.length ≤ 26) (hx : xs Try.prog 26 c49 (XPost Try.prog [(.tmp 4)] R) ⟨argsFr args 26, [], h, none⟩) : Ct Try.prog 49 args h R :=
  Ct_xs (show Try.prog.funcs[49]? = some Try.f49 by kernel_rfl) body_49 (by kernel_rfl) (by kernel_rfl) ha (by kernel_rfl) hx
/-! slices.EqualFunc[[]trivet/api.Row,[]trivet/api.Row,trivet/api.Row,trivet/api.Row] -/
def c50 : Code :=
 .seq (rg [mo 6 (.assign (.const (.bool false)))])
 (.seq (.seq (rg [mo 10 (.move (T 0)),
    mo 11 (.call ⟨(.builtin .len), #[(T 10)], #[24]⟩),
    mo 12 (.move (T 1)),
    mo 13 (.call ⟨(.builtin .len), #[(T 12)], #[24]⟩),
    mo 14 (.binOp .neq 3 (T 11) (T 13) 3)])
  (.cond (T 14) (.seq (rg [mo 6 (.assign (.const (.bool false)))])
   (.ret))
  (.skip)))
 (.seq (.seq (rg [mo 15 (.move (T 0)),
    mo 16 (.call ⟨(.builtin .len), #[(T 15)], #[24]⟩),
    mo 17 (.move (.const (.int .i64 0)))])
  (.block 0 (.loop (.seq (rg [mo 18 (.binOp .lss 3 (T 17) (T 16) 3)])
    (.seq (.cond (T 18) (.skip)
     (.exit 0))
    (.seq (.block 1 (.seq (rg [mo 19 (.move (T 17)),
        mo 20 (.indexAddr 24 (T 15) (T 17)),
        mo 21 (.load 55 (T 20)),
        mo 8 (.alloc 55),
        mo 7 (.assign (T 19)),
        mx (.store 55 (T 8) (T 21))])
      (.seq (rg [mo 22 (.move (T 1)),
        mo 23 (.move (T 7)),
        mo 24 (.indexAddr 24 (T 22) (T 23)),
        mo 25 (.load 55 (T 24)),
        mo 9 (.alloc 55),
        mx (.store 55 (T 9) (T 25))])
      (.seq (rg [mo 26 (.move (T 2)),
        mo 27 (.load 55 (T 8)),
        mo 28 (.load 55 (T 9)),
        mo 29 (.call ⟨(.value (T 26)), #[(T 27), (T 28)], #[55, 55]⟩),
        mo 30 (.unOp .not 4 (T 29))])
      (.cond (T 30) (.seq (rg [mo 6 (.assign (.const (.bool false)))])
       (.ret))
      (.skip))))))
    (rg [mo 31 (.binOp .add 3 (T 17) (.const (.int .i64 1)) 3),
     mo 17 (.move (T 31))])))))))
 (.seq (rg [mo 6 (.assign (.const (.bool true)))])
 (.ret))))
theorem body_50 : Try.f50.body.map strip = some c50 := by kernel_rfl
theorem go_50 {args : List Value} {h : DHeap} {R : DEnd → DHeap → Prop} (ha : args.length ≤ 32) (hx : xs Try.prog 32 c50 (XPost Try.prog [(.tmp 6)] R) ⟨argsFr args 32, [], h, none⟩) : Ct Try.prog 50 args h R :=
  Ct_xs (show Try.prog.funcs[50]? = some Try.f50 by kernel_rfl) body_50 (by kernel_rfl) (by kernel_rfl) ha (by kernel_rfl) hx
/-! trivet/state.sameRow -/
/-! slices.Clone[[]int64,int64] -/
def c52 : Code :=
 .seq (rg [mo 2 (.assign (.const (.slice none 0 0)))])
 (.seq (.seq (rg [mo 3 (.move (T 0)),
    mo 4 (.binOp .eql 51 (T 3) (.const (.slice none 0 0)) 51)])
  (.cond (T 4) (.seq (rg [mo 2 (.assign (.const (.slice none 0 0)))])
   (.ret))
  (.skip)))
 (.seq (rg [mo 5 (.buildSlice 51 0 #[]),
   mo 6 (.move (T 0)),
   mo 7 (.call ⟨(.builtin .append), #[(T 5), (T 6)], #[51, 51]⟩),
   mo 2 (.assign (T 7))])
 (.ret)))
theorem body_52 : Try.f52.body.map strip = some c52 := by kernel_rfl
theorem go_52 {args : List Value} {h : DHeap} {R : DEnd → DHeap → Prop} (ha : args.length ≤ 8) (hx : xs Try.prog 8 c52 (XPost Try.prog [(.tmp 2)] R) ⟨argsFr args 8, [], h, none⟩) : Ct Try.prog 52 args h R :=
  Ct_xs (show Try.prog.funcs[52]? = some Try.f52 by kernel_rfl) body_52 (by kernel_rfl) (by kernel_rfl) ha (by kernel_rfl) hx
/-! slices.Clone[[]trivet/api.Cell,trivet/api.Cell] -/
def c53 : Code :=
 .seq (rg [mo 2 (.assign (.const (.slice none 0 0)))])
 (.seq (.seq (rg [mo 3 (.move (T 0)),
    mo 4 (.binOp .eql 23 (T 3) (.const (.slice none 0 0)) 23)])
  (.cond (T 4) (.seq (rg [mo 2 (.assign (.const (.slice none 0 0)))])
   (.ret))
  (.skip)))
 (.seq (rg [mo 5 (.buildSlice 23 0 #[]),
   mo 6 (.move (T 0)),
   mo 7 (.call ⟨(.builtin .append), #[(T 5), (T 6)], #[23, 23]⟩),
   mo 2 (.assign (T 7))])
 (.ret)))
theorem body_53 : Try.f53.body.map strip = some c53 := by kernel_rfl
theorem go_53 {args : List Value} {h : DHeap} {R : DEnd → DHeap → Prop} (ha : args.length ≤ 8) (hx : xs Try.prog 8 c53 (XPost Try.prog [(.tmp 2)] R) ⟨argsFr args 8, [], h, none⟩) : Ct Try.prog 53 args h R :=
  Ct_xs (show Try.prog.funcs[53]? = some Try.f53 by kernel_rfl) body_53 (by kernel_rfl) (by kernel_rfl) ha (by kernel_rfl) hx
/-! trivet/trivetref22.num -/
def c54 : Code :=
 .seq (rg [mo 4 (.assign (.const (.slice none 0 0)))])
 (.seq (rg [mo 5 (.move (T 0)),
   mo 6 (.move (T 1)),
   mo 7 (.call ⟨(.value (.func 74)), #[(T 5), (T 6)], #[22, 51]⟩),
   mo 4 (.assign (T 7))])
 (.ret))
theorem body_54 : Try.f54.body.map strip = some c54 := by kernel_rfl
theorem go_54 {args : List Value} {h : DHeap} {R : DEnd → DHeap → Prop} (ha : args.length ≤ 8) (hx : xs Try.prog 8 c54 (XPost Try.prog [(.tmp 4)] R) ⟨argsFr args 8, [], h, none⟩) : Ct Try.prog 54 args h R :=
  Ct_xs (show Try.prog.funcs[54]? = some Try.f54 by kernel_rfl) body_54 (by kernel_rfl) (by kernel_rfl) ha (by kernel_rfl) hx
/-! trivet/trivetref04.SamePart -/
/-! trivet/state.cut -/
def c56 : Code :=
 .seq (rg [mo 6 (.assign (.const (.slice none 0 0)))])
 (.seq (rg [mo 7 (.move (T 0)),
   mo 8 (.move (T 1)),
   mo 9 (.move (T 2)),
   mo 10 (.move (T 2)),
   mo 11 (.slice 22 (T 7) (some (T 8)) (some (T 9)) (some (T 10))),
   mo 6 (.assign (T 11))])
 (.ret))
theorem body_56 : Try.f56.body.map strip = some c56 := by kernel_rfl
theorem go_56 {args : List Value} {h : DHeap} {R : DEnd → DHeap → Prop} (ha : args.length ≤ 12) (hx : xs Try.prog 12 c56 (XPost Try.prog [(.tmp 6)] R) ⟨argsFr args 12, [], h, none⟩) : Ct Try.prog 56 args h R :=
  Ct_xs (show Try.prog.funcs[56]? = some Try.f56 by kernel_rfl) body_56 (by kernel_rfl) (by kernel_rfl) ha (by kernel_rfl) hx
/-! trivet/state.Parts$1 -/
def c57 : Code :=
 .seq (rg [mo 5 (.load 44 (T 1)),
   mo 6 (.call ⟨(.builtin .len), #[(T 5)], #[44]⟩),
   mo 7 (.move (.const (.int .i64 0)))])
 (.block 0 (.loop (.seq (rg [mo 8 (.binOp .lss 3 (T 7) (T 6) 3)])
   (.seq (.cond (T 8) (.skip)
    (.exit 0))
   (.seq (.block 1 (.seq (rg [mo 9 (.indexAddr 44 (T 5) (T 7)),
       mo 10 (.load 57 (T 9)),
       mo 4 (.alloc 57),
       mx (.store 57 (T 4) (T 10))])
     (.seq (rg [mo 11 (.fieldAddr 57 (T 4) 3),
       mo 12 (.load 22 (T 11)),
       mo 13 (.call ⟨(.value (.func 58)), #[(T 12)], #[22]⟩),
       mo 14 (.fieldAddr 57 (T 4) 3),
       mx (.store 22 (T 14) (T 13))])
     (.seq (rg [mo 15 (.move (T 0)),
       mo 16 (.load 57 (T 4)),
       mo 17 (.call ⟨(.value (T 15)), #[(T 16)], #[57]⟩),
       mo 18 (.unOp .not 4 (T 17))])
     (.cond (T 18) (.ret)
     (.skip))))))
   (rg [mo 19 (.binOp .add 3 (T 7) (.const (.int .i64 1)) 3),
    mo 7 (.move (T 19))]))))))
theorem body_57 : Try.f57.body.map strip = some c57 := by kernel_rfl
theorem go_57 {args : List Value} {h : DHeap} {R : DEnd → DHeap → Prop} (ha : args.length ≤ 20) (hx : xs Try.prog 20 c57 (XPost Try.prog [] R) ⟨argsFr args 20, [], h, none⟩) : Ct Try.prog 57 args h R :=
  Ct_xs (show Try.prog.funcs[57]? = some Try.f57 by kernel_rfl) body_57 (by kernel_rfl) (by kernel_rfl) ha (by kernel_rfl) hx
/-! slices.Clone[[]byte,byte] -/
def c58 : Code :=
 .seq (rg [mo 2 (.assign (.const (.slice none 0 0)))])
 (.seq (.seq (rg [mo 3 (.move (T 0)),
    mo 4 (.binOp .eql 22 (T 3) (.const (.slice none 0 0)) 22)])
  (.cond (T 4) (.seq (rg [mo 2 (.assign (.const (.slice none 0 0)))])
   (.ret))
  (.skip)))
 (.seq (rg [mo 5 (.buildSlice 22 0 #[]),
   mo 6 (.move (T 0)),
   mo 7 (.call ⟨(.builtin .append), #[(T 5), (T 6)], #[22, 22]⟩),
   mo 2 (.assign (T 7))])
 (.ret)))
theorem body_58 : Try.f58.body.map strip = some c58 := by kernel_rfl
theorem go_58 {args : List Value} {h : DHeap} {R : DEnd → DHeap → Prop} (ha : args.length ≤ 8) (hx : xs Try.prog 8 c58 (XPost Try.prog [(.tmp 2)] R) ⟨argsFr args 8, [], h, none⟩) : Ct Try.prog 58 args h R :=
  Ct_xs (show Try.prog.funcs[58]? = some Try.f58 by kernel_rfl) body_58 (by kernel_rfl) (by kernel_rfl) ha (by kernel_rfl) hx
/-! trivet/trivetref11.Hash -/
def o59_0 : Array Oper := #[⟨(some 5), (.fieldAddr 48 (T 1) 0), 0, "ref.go:70", #[], none⟩,
 ⟨(some 6), (.load 21 (T 5)), 21, "ref.go:70", #[⟨0, .data⟩], none⟩,
 ⟨(some 7), (.convert 21 103 (T 6)), 103, "ref.go:70", #[⟨1, .data⟩], none⟩,
 ⟨(some 8), (.convert 103 36 (T 7)), 36, "ref.go:70", #[⟨2, .data⟩], none⟩,
 ⟨(some 9), (.fieldAddr 48 (T 1) 1), 0, "ref.go:70", #[⟨7, (.gcOnly Go.Departure.lateStores)⟩], none⟩,
 ⟨(some 10), (.load 2 (T 9)), 2, "ref.go:70", #[⟨4, .data⟩, ⟨7, (.gcOnly Go.Departure.lateStores)⟩], none⟩,
 ⟨(some 11), (.convert 2 36 (T 10)), 36, "ref.go:70", #[⟨5, .data⟩, ⟨7, (.gcOnly Go.Departure.lateStores)⟩], none⟩,
 ⟨(some 3), (.assign (T 8)), 36, "ref.go:70", #[⟨3, .data⟩, ⟨0, .phase⟩, ⟨1, .phase⟩, ⟨2, .phase⟩, ⟨3, .phase⟩, ⟨4, (.textOnly Go.Departure.lateStores)⟩, ⟨5, (.textOnly Go.Departure.lateStores)⟩, ⟨6, (.textOnly Go.Departure.lateStores)⟩], none⟩,
 ⟨(some 4), (.assign (T 11)), 36, "ref.go:70", #[⟨6, .data⟩, ⟨7, .chain⟩, ⟨0, .phase⟩, ⟨1, .phase⟩, ⟨2, .phase⟩, ⟨3, .phase⟩, ⟨4, .phase⟩, ⟨5, .phase⟩, ⟨6, .phase⟩, ⟨7, .phase⟩], none⟩]
def l59_0 : List Oper := [mo 5 (.fieldAddr 48 (T 1) 0),
 mo 6 (.load 21 (T 5)),
 mo 7 (.convert 21 103 (T 6)),
 mo 8 (.convert 103 36 (T 7)),
 mo 9 (.fieldAddr 48 (T 1) 1),
 mo 10 (.load 2 (T 9)),
 mo 11 (.convert 2 36 (T 10)),
 mo 3 (.assign (T 8)),
 mo 4 (.assign (T 11))]
def r59_0 : Code := .region 1 o59_0 true
theorem xr_59_0 {Q : DExit → St → Prop} {s : St} : xs Try.prog 25 r59_0 Q s = NC Try.prog 25 r59_0 Q s := rfl
theorem dr_59_0 {Q : DExit → St → Prop} {s : St} (h : XDraw Try.prog l59_0.toArray (befs o59_0.toList []) [] s.fr Q l59_0 0 s []) : NC Try.prog 25 r59_0 Q s :=
  NC.draw (by kernel_rfl) (by kernel_rfl) (by kernel_rfl) rfl (by kernel_rfl) (by kernel_rfl) h
attribute [go_sem] xr_59_0
def c59 : Code :=
 .seq (rg [mo 1 (.box 48 (T 0)),
   mo 2 (.assign (.const (.int .u64 0)))])
 (.seq (r59_0)
 (.seq (rg [mo 12 (.move (T 4)),
   mo 13 (.binOp .add 36 (T 12) (.const (.int .u64 11400714819323198485)) 36),
   mo 14 (.call ⟨(.value (.func 75)), #[(T 13)], #[36]⟩),
   mo 15 (.move (T 3)),
   mo 16 (.binOp .add 36 (T 14) (T 15) 36),
   mo 17 (.call ⟨(.value (.func 75)), #[(T 16)], #[36]⟩),
   mo 18 (.move (T 4)),
   mo 19 (.binOp .shr 36 (T 18) (.const (.int .u64 32)) 105),
   mo 20 (.binOp .add 36 (T 17) (T 19) 36),
   mo 21 (.move (T 3)),
   mo 22 (.binOp .shl 36 (T 21) (.const (.int .u64 32)) 105),
   mo 23 (.binOp .add 36 (T 20) (T 22) 36),
   mo 24 (.call ⟨(.value (.func 75)), #[(T 23)], #[36]⟩),
   mo 2 (.assign (T 24))])
 (.ret)))
theorem body_59 : Try.f59.body.map strip = some c59 := by kernel_rfl
theorem go_59 {args : List Value} {h : DHeap} {R : DEnd → DHeap → Prop} (ha : args.length ≤ 25) (hx : xs Try.prog 25 c59 (XPost Try.prog [(.tmp 2)] R) ⟨argsFr args 25, [], h, none⟩) : Ct Try.prog 59 args h R :=
  Ct_xs (show Try.prog.funcs[59]? = some Try.f59 by kernel_rfl) body_59 (by kernel_rfl) (by kernel_rfl) ha (by kernel_rfl) hx
/-! slices.Equal[[]byte,byte] -/
/-! trivet/shape.TakeNum -/
def o61_0 : Array Oper := #[⟨(some 7), (.load 2 (T 2)), 2, "shape.go:93", #[], none⟩,
 ⟨(some 8), (.load 3 (T 3)), 3, "shape.go:93", #[], none⟩,
 ⟨(some 9), (.move (T 4)), 27, "shape.go:93", #[⟨4, (.gcOnly Go.Departure.lateStores)⟩], none⟩,
 ⟨none, (.store 2 (T 2) (T 7)), 0, "shape.go:93", #[⟨0, .data⟩, ⟨0, .phase⟩, ⟨1, (.textOnly Go.Departure.lateStoresUnsure)⟩, ⟨2, (.textOnly Go.Departure.lateStores)⟩], none⟩,
 ⟨none, (.store 3 (T 3) (T 8)), 0, "shape.go:93", #[⟨1, .data⟩, ⟨3, .chain⟩, ⟨0, .phase⟩, ⟨1, .phase⟩, ⟨2, (.textOnly Go.Departure.lateStores)⟩, ⟨3, .phase⟩], none⟩,
 ⟨(some 4), (.assign (T 9)), 27, "shape.go:93", #[⟨2, .data⟩, ⟨4, .chain⟩, ⟨0, .phase⟩, ⟨1, .phase⟩, ⟨2, .phase⟩, ⟨3, .phase⟩, ⟨4, .phase⟩], none⟩]
def l61_0 : List Oper := [mo 7 (.load 2 (T 2)),
 mo 8 (.load 3 (T 3)),
 mo 9 (.move (T 4)),
 mx (.store 2 (T 2) (T 7)),
 mx (.store 3 (T 3) (T 8)),
 mo 4 (.assign (T 9))]
def r61_0 : Code := .region 2 o61_0 true
theorem xr_61_0 {Q : DExit → St → Prop} {s : St} : xs Try.prog 10 r61_0 Q s = NC Try.prog 10 r61_0 Q s := rfl
theorem dr_61_0 {Q : DExit → St → Prop} {s : St} (h : XDraw Try.prog l61_0.toArray (befs o61_0.toList []) [(1, 3)] s.fr Q l61_0 0 s []) : NC Try.prog 10 r61_0 Q s :=
  NC.draw (by kernel_rfl) (by kernel_rfl) (by kernel_rfl) rfl (by kernel_rfl) (by kernel_rfl) h
attribute [go_sem] xr_61_0
def c61 : Code :=
 .seq (rg [mo 1 (.box 22 (T 0)),
   mo 2 (.alloc 2),
   mo 3 (.alloc 3),
   mo 4 (.assign (.const (.int .i64 0)))])
 (.seq (rg [mo 5 (.makeFunc (.func 77) #[] #[(T 1), (T 2), (T 3)]),
   mo 6 (.call ⟨(.value (.func 76)), #[(T 5)], #[1]⟩),
   mo 4 (.assign (T 6))])
 (.seq (r61_0)
 (.ret)))
theorem body_61 : Try.f61.body.map strip = some c61 := by kernel_rfl
theorem go_61 {args : List Value} {h : DHeap} {R : DEnd → DHeap → Prop} (ha : args.length ≤ 10) (hx : xs Try.prog 10 c61 (XPost Try.prog [(.cell 2 2), (.cell 3 3), (.tmp 4)] R) ⟨argsFr args 10, [], h, none⟩) : Ct Try.prog 61 args h R :=
  Ct_xs (show Try.prog.funcs[61]? = some Try.f61 by kernel_rfl) body_61 (by kernel_rfl) (by kernel_rfl) ha (by kernel_rfl) hx
end Go.Proofs.Ytlhgijpdhniddaa

namespace Go.Proofs.Ytlhgijpdhniddaa
open Go.D
set_option maxRecDepth 100000
/-! trivet/trivetref22.Same -/
/-! trivet/state.Bytes -/
def c14 : Code :=
 .seq (rg [mo 1 (.box 26 (T 0)),
   mo 2 (.assign (.const (.slice none 0 0))),
   mo 3 (.assign (.const (.int .i64 0)))])
 (.seq (.seq (rg [mo 10 (.load 26 (T 1)),
    mo 11 (.call ⟨(.value (.func 17)), #[(T 10)], #[26]⟩),
    mo 4 (.assign (T 11))])
  (.seq (rg [mo 12 (.move (T 4)),
    mo 13 (.binOp .neq 27 (T 12) (.const (.int .i64 0)) 27)])
  (.cond (T 13) (.seq (rg [mo 14 (.move (T 4)),
     mo 2 (.assign (.const (.slice none 0 0))),
     mo 3 (.assign (T 14))])
   (.ret))
  (.skip))))
 (.seq (rg [mo 15 (.build 80 #[]),
   mo 16 (.box 80 (T 15)),
   mo 5 (.assign (T 16))])
 (.seq (rg [mo 17 (.move (T 5)),
   mo 18 (.fieldAddr 26 (T 1) 0),
   mo 19 (.load 2 (T 18)),
   mo 20 (.fieldAddr 26 (T 1) 1),
   mo 21 (.load 23 (T 20)),
   mo 22 (.call ⟨(.builtin .len), #[(T 21)], #[23]⟩),
   mo 23 (.buildSlice 51 2 #[(0, (T 19)), (1, (T 22))]),
   mo 24 (.call ⟨(.value (.func 41)), #[(T 17), (T 23)], #[78, 51]⟩)])
 (.seq (.seq (rg [mo 25 (.fieldAddr 26 (T 1) 1),
    mo 26 (.load 23 (T 25)),
    mo 27 (.call ⟨(.builtin .len), #[(T 26)], #[23]⟩),
    mo 28 (.move (.const (.int .i64 0)))])
  (.block 0 (.loop (.seq (rg [mo 29 (.binOp .lss 3 (T 28) (T 27) 3)])
    (.seq (.cond (T 29) (.skip)
     (.exit 0))
    (.seq (.block 1 (.seq (rg [mo 30 (.indexAddr 23 (T 26) (T 28)),
        mo 31 (.load 50 (T 30)),
        mo 7 (.alloc 50),
        mx (.store 50 (T 7) (T 31))])
      (rg [mo 32 (.move (T 5)),
       mo 33 (.fieldAddr 50 (T 7) 0),
       mo 34 (.fieldAddr 48 (T 33) 0),
       mo 35 (.load 21 (T 34)),
       mo 36 (.convert 21 2 (T 35)),
       mo 37 (.fieldAddr 50 (T 7) 0),
       mo 38 (.fieldAddr 48 (T 37) 1),
       mo 39 (.load 2 (T 38)),
       mo 40 (.fieldAddr 50 (T 7) 1),
       mo 41 (.load 2 (T 40)),
       mo 42 (.fieldAddr 50 (T 7) 2),
       mo 43 (.load 2 (T 42)),
       mo 44 (.buildSlice 51 4 #[(0, (T 36)), (1, (T 39)), (2, (T 41)), (3, (T 43))]),
       mo 45 (.call ⟨(.value (.func 41)), #[(T 32), (T 44)], #[78, 51]⟩)])))
    (rg [mo 46 (.binOp .add 3 (T 28) (.const (.int .i64 1)) 3),
     mo 28 (.move (T 46))])))))))
 (.seq (rg [mo 47 (.move (T 5)),
   mo 48 (.fieldAddr 26 (T 1) 2),
   mo 49 (.load 24 (T 48)),
   mo 50 (.call ⟨(.builtin .len), #[(T 49)], #[24]⟩),
   mo 51 (.buildSlice 51 1 #[(0, (T 50))]),
   mo 52 (.call ⟨(.value (.func 41)), #[(T 47), (T 51)], #[78, 51]⟩)])
 (.seq (.seq (rg [mo 53 (.fieldAddr 26 (T 1) 2),
    mo 54 (.load 24 (T 53)),
    mo 55 (.call ⟨(.builtin .len), #[(T 54)], #[24]⟩),
    mo 56 (.move (.const (.int .i64 0)))])
  (.block 2 (.loop (.seq (rg [mo 57 (.binOp .lss 3 (T 56) (T 55) 3)])
    (.seq (.cond (T 57) (.skip)
     (.exit 2))
    (.seq (.block 3 (.seq (rg [mo 58 (.indexAddr 24 (T 54) (T 56)),
        mo 59 (.load 55 (T 58)),
        mo 9 (.alloc 55),
        mx (.store 55 (T 9) (T 59))])
      (.seq (rg [mo 60 (.move (T 5)),
        mo 61 (.fieldAddr 55 (T 9) 0),
        mo 62 (.load 2 (T 61)),
        mo 63 (.fieldAddr 55 (T 9) 1),
        mo 64 (.load 2 (T 63)),
        mo 65 (.fieldAddr 55 (T 9) 2),
        mo 66 (.fieldAddr 53 (T 65) 0),
        mo 67 (.load 3 (T 66)),
        mo 68 (.fieldAddr 55 (T 9) 2),
        mo 69 (.fieldAddr 53 (T 68) 1),
        mo 70 (.load 51 (T 69)),
        mo 71 (.call ⟨(.builtin .len), #[(T 70)], #[51]⟩),
        mo 72 (.buildSlice 51 4 #[(0, (T 62)), (1, (T 64)), (2, (T 67)), (3, (T 71))]),
        mo 73 (.call ⟨(.value (.func 41)), #[(T 60), (T 72)], #[78, 51]⟩)])
      (.seq (rg [mo 74 (.move (T 5)),
        mo 75 (.fieldAddr 55 (T 9) 2),
        mo 76 (.fieldAddr 53 (T 75) 1),
        mo 77 (.load 51 (T 76)),
        mo 78 (.call ⟨(.value (.func 41)), #[(T 74), (T 77)], #[78, 51]⟩)])
      (rg [mo 79 (.move (T 5)),
       mo 80 (.fieldAddr 55 (T 9) 2),
       mo 81 (.fieldAddr 53 (T 80) 2),
       mo 82 (.load 2 (T 81)),
       mo 83 (.fieldAddr 55 (T 9) 2),
       mo 84 (.fieldAddr 53 (T 83) 3),
       mo 85 (.load 3 (T 84)),
       mo 86 (.buildSlice 51 2 #[(0, (T 82)), (1, (T 85))]),
       mo 87 (.call ⟨(.value (.func 41)), #[(T 79), (T 86)], #[78, 51]⟩)])))))
    (rg [mo 88 (.binOp .add 3 (T 56) (.const (.int .i64 1)) 3),
     mo 56 (.move (T 88))])))))))
 (.seq (.seq (rg [mo 89 (.move (T 5)),
    mo 90 (.nilCheck (T 89)),
    mo 91 (.fieldAddr 80 (T 90) 0),
    mo 92 (.load 22 (T 91)),
    mo 93 (.call ⟨(.builtin .len), #[(T 92)], #[22]⟩),
    mo 94 (.binOp .gtr 3 (T 93) (.const (.int .i64 1048576)) 3)])
  (.cond (T 94) (.seq (rg [mo 2 (.assign (.const (.slice none 0 0))),
     mo 3 (.assign (.const (.int .i64 3)))])
   (.ret))
  (.skip)))
 (.seq (rg [mo 95 (.move (T 5)),
   mo 96 (.nilCheck (T 95)),
   mo 97 (.fieldAddr 80 (T 96) 0),
   mo 98 (.load 22 (T 97)),
   mo 2 (.assign (T 98)),
   mo 3 (.assign (.const (.int .i64 0)))])
 (.ret)))))))))
theorem body_14 : Try.f14.body.map strip = some c14 := by kernel_rfl
theorem go_14 {args : List Value} {h : DHeap} {R : DEnd → DHeap → Prop} (ha : args.length ≤ 99) (hx : xs Try.prog 99 c14 (XPost Try.prog [(.tmp 2), (.tmp 3)] R) ⟨argsFr args 99, [], h, none⟩) : Ct Try.prog 14 args h R :=
  Ct_xs (show Try.prog.funcs[14]? = some Try.f14 by kernel_rfl) body_14 (by kernel_rfl) (by kernel_rfl) ha (by kernel_rfl) hx
/-! bytes.Equal -/
def c15 : Code :=
 .seq (rg [mo 4 (.assign (.const (.bool false)))])
 (.seq (rg [mo 5 (.move (T 0)),
   mo 6 (.convert 22 9 (T 5)),
   mo 7 (.move (T 1)),
   mo 8 (.convert 22 9 (T 7)),
   mo 9 (.binOp .eql 9 (T 6) (T 8) 9),
   mo 4 (.assign (T 9))])
 (.ret))
theorem body_15 : Try.f15.body.map strip = some c15 := by kernel_rfl
theorem go_15 {args : List Value} {h : DHeap} {R : DEnd → DHeap → Prop} (ha : args.length ≤ 10) (hx : xs Try.prog 10 c15 (XPost Try.prog [(.tmp 4)] R) ⟨argsFr args 10, [], h, none⟩) : Ct Try.prog 15 args h R :=
  Ct_xs (show Try.prog.funcs[15]? = some Try.f15 by kernel_rfl) body_15 (by kernel_rfl) (by kernel_rfl) ha (by kernel_rfl) hx
/-! trivet/state.Digest -/
def c16 : Code :=
 .seq (rg [mo 1 (.box 26 (T 0)),
   mo 2 (.assign (.const (.int .u64 0)))])
 (.seq (rg [mo 9 (.load 26 (T 1)),
   mo 10 (.call ⟨(.value (.func 14)), #[(T 9)], #[26]⟩),
   mo 8 (.move (T 10)),
   mo 11 (.extract (T 8) 0),
   mo 12 (.extract (T 8) 1),
   mo 3 (.assign (T 11)),
   mo 4 (.assign (T 12))])
 (.seq (.seq (rg [mo 13 (.move (T 4)),
    mo 14 (.binOp .neq 27 (T 13) (.const (.int .i64 0)) 27)])
  (.cond (T 14) (.seq (rg [mo 2 (.assign (.const (.int .u64 0)))])
   (.ret))
  (.skip)))
 (.seq (rg [mo 5 (.assign (.const (.int .u64 0)))])
 (.seq (.seq (rg [mo 15 (.move (T 3)),
    mo 16 (.call ⟨(.builtin .len), #[(T 15)], #[22]⟩),
    mo 17 (.move (.const (.int .i64 0)))])
  (.block 0 (.loop (.seq (rg [mo 18 (.binOp .lss 3 (T 17) (T 16) 3)])
    (.seq (.cond (T 18) (.skip)
     (.exit 0))
    (.seq (.block 1 (.seq (rg [mo 19 (.indexAddr 22 (T 15) (T 17)),
        mo 20 (.load 5 (T 19)),
        mo 7 (.assign (T 20))])
      (rg [mo 21 (.move (T 7)),
       mo 22 (.convert 5 21 (T 21)),
       mo 23 (.move (T 5)),
       mo 24 (.convert 36 2 (T 23)),
       mo 25 (.build 48 #[(0, (T 22)), (1, (T 24))]),
       mo 26 (.call ⟨(.value (.func 42)), #[(T 25)], #[48]⟩),
       mo 5 (.assign (T 26))])))
    (rg [mo 27 (.binOp .add 3 (T 17) (.const (.int .i64 1)) 3),
     mo 17 (.move (T 27))])))))))
 (.seq (rg [mo 28 (.move (T 5)),
   mo 2 (.assign (T 28))])
 (.ret))))))
theorem body_16 : Try.f16.body.map strip = some c16 := by kernel_rfl
theorem go_16 {args : List Value} {h : DHeap} {R : DEnd → DHeap → Prop} (ha : args.length ≤ 29) (hx : xs Try.prog 29 c16 (XPost Try.prog [(.tmp 2)] R) ⟨argsFr args 29, [], h, none⟩) : Ct Try.prog 16 args h R :=
  Ct_xs (show Try.prog.funcs[16]? = some Try.f16 by kernel_rfl) body_16 (by kernel_rfl) (by kernel_rfl) ha (by kernel_rfl) hx
/-! trivet/state.Check -/
def c17 : Code :=
 .seq (rg [mo 1 (.box 26 (T 0)),
   mo 2 (.assign (.const (.int .i64 0)))])
 (.seq (rg [mo 9 (.fieldAddr 26 (T 1) 0),
   mo 10 (.load 2 (T 9)),
   mo 11 (.call ⟨(.value (.func 43)), #[(T 10), (.const (.int .i64 1099511627776))], #[2, 2]⟩),
   mo 12 (.move (T 11)),
   mg 13 3 true (.fieldAddr 26 (T 1) 2),
   mg 14 3 true (.load 24 (T 13)),
   mg 15 3 true (.call ⟨(.builtin .len), #[(T 14)], #[24]⟩),
   mg 16 3 true (.binOp .leq 3 (T 15) (.const (.int .i64 64)) 3),
   mo 17 (.pick (T 12) (T 16) (.const (.bool false))),
   mo 3 (.assign (T 17))])
 (.seq (rg [mo 18 (.move (T 3)),
   mo 19 (.move (T 18)),
   mg 20 1 true (.fieldAddr 26 (T 1) 1),
   mg 21 1 true (.load 23 (T 20)),
   mg 22 1 true (.call ⟨(.value (.func 44)), #[(T 21), (.func 45)], #[23, 86]⟩),
   mo 23 (.pick (T 19) (T 22) (.const (.bool false))),
   mo 24 (.move (T 23)),
   mg 25 6 true (.fieldAddr 26 (T 1) 2),
   mg 26 6 true (.load 24 (T 25)),
   mg 27 6 true (.call ⟨(.value (.func 47)), #[(T 26), (.func 48)], #[24, 77]⟩),
   mo 28 (.pick (T 24) (T 27) (.const (.bool false))),
   mo 3 (.assign (T 28))])
 (.seq (.seq (rg [mo 29 (.fieldAddr 26 (T 1) 1),
    mo 30 (.load 23 (T 29)),
    mo 31 (.call ⟨(.builtin .len), #[(T 30)], #[23]⟩),
    mo 32 (.move (.const (.int .i64 0)))])
  (.block 0 (.loop (.seq (rg [mo 33 (.binOp .lss 3 (T 32) (T 31) 3)])
    (.seq (.cond (T 33) (.skip)
     (.exit 0))
    (.seq (.block 1 (.seq (rg [mo 34 (.indexAddr 23 (T 30) (T 32)),
        mo 35 (.load 50 (T 34)),
        mo 5 (.alloc 50),
        mx (.store 50 (T 5) (T 35))])
      (rg [mo 36 (.move (T 3)),
       mo 37 (.move (T 36)),
       mg 38 1 true (.fieldAddr 50 (T 5) 2),
       mg 39 1 true (.load 2 (T 38)),
       mg 40 1 true (.fieldAddr 26 (T 1) 0),
       mg 41 1 true (.load 2 (T 40)),
       mg 42 1 true (.binOp .sub 2 (T 41) (.const (.int .i64 1)) 2),
       mg 43 1 true (.call ⟨(.value (.func 43)), #[(T 39), (T 42)], #[2, 2]⟩),
       mo 44 (.pick (T 37) (T 43) (.const (.bool false))),
       mo 3 (.assign (T 44))])))
    (rg [mo 45 (.binOp .add 3 (T 32) (.const (.int .i64 1)) 3),
     mo 32 (.move (T 45))])))))))
 (.seq (.seq (rg [mo 46 (.fieldAddr 26 (T 1) 2),
    mo 47 (.load 24 (T 46)),
    mo 48 (.call ⟨(.builtin .len), #[(T 47)], #[24]⟩),
    mo 49 (.move (.const (.int .i64 0)))])
  (.block 2 (.loop (.seq (rg [mo 50 (.binOp .lss 3 (T 49) (T 48) 3)])
    (.seq (.cond (T 50) (.skip)
     (.exit 2))
    (.seq (.block 3 (.seq (rg [mo 51 (.indexAddr 24 (T 47) (T 49)),
        mo 52 (.load 55 (T 51)),
        mo 7 (.alloc 55),
        mx (.store 55 (T 7) (T 52))])
      (.seq (rg [mo 53 (.fieldAddr 55 (T 7) 2),
        mo 54 (.load 53 (T 53)),
        mo 8 (.alloc 53),
        mx (.store 53 (T 8) (T 54))])
      (.seq (rg [mo 55 (.move (T 3)),
        mo 56 (.move (T 55)),
        mg 57 1 true (.fieldAddr 55 (T 7) 0),
        mg 58 1 true (.load 2 (T 57)),
        mg 59 1 true (.binOp .sub 2 (T 58) (.const (.int .i64 1)) 2),
        mg 60 1 true (.call ⟨(.value (.func 43)), #[(T 59), (.const (.int .i64 1099511627775))], #[2, 2]⟩),
        mo 61 (.pick (T 56) (T 60) (.const (.bool false))),
        mo 62 (.move (T 61)),
        mg 63 7 true (.fieldAddr 55 (T 7) 1),
        mg 64 7 true (.load 2 (T 63)),
        mg 65 7 true (.binOp .sub 2 (T 64) (.const (.int .i64 1)) 2),
        mg 66 7 true (.call ⟨(.value (.func 43)), #[(T 65), (.const (.int .i64 1099511627775))], #[2, 2]⟩),
        mo 67 (.pick (T 62) (T 66) (.const (.bool false))),
        mo 3 (.assign (T 67))])
      (rg [mo 68 (.move (T 3)),
       mo 69 (.move (T 68)),
       mg 70 1 true (.fieldAddr 53 (T 8) 0),
       mg 71 1 true (.load 3 (T 70)),
       mg 72 1 true (.call ⟨(.value (.func 43)), #[(T 71), (.const (.int .i64 355))], #[2, 2]⟩),
       mo 73 (.pick (T 69) (T 72) (.const (.bool false))),
       mo 74 (.move (T 73)),
       mg 75 6 true (.fieldAddr 53 (T 8) 1),
       mg 76 6 true (.load 51 (T 75)),
       mg 77 6 true (.call ⟨(.builtin .len), #[(T 76)], #[51]⟩),
       mg 78 6 true (.binOp .leq 3 (T 77) (.const (.int .i64 8)) 3),
       mo 79 (.pick (T 74) (T 78) (.const (.bool false))),
       mo 80 (.move (T 79)),
       mg 81 12 true (.fieldAddr 53 (T 8) 2),
       mg 82 12 true (.load 2 (T 81)),
       mg 83 12 true (.fieldAddr 26 (T 1) 0),
       mg 84 12 true (.load 2 (T 83)),
       mg 85 12 true (.binOp .sub 2 (T 84) (.const (.int .i64 1)) 2),
       mg 86 12 true (.call ⟨(.value (.func 43)), #[(T 82), (T 85)], #[2, 2]⟩),
       mo 87 (.pick (T 80) (T 86) (.const (.bool false))),
       mo 88 (.move (T 87)),
       mg 89 20 true (.fieldAddr 53 (T 8) 3),
       mg 90 20 true (.load 3 (T 89)),
       mg 91 20 true (.call ⟨(.value (.func 43)), #[(T 90), (.const (.int .i64 15))], #[2, 2]⟩),
       mo 92 (.pick (T 88) (T 91) (.const (.bool false))),
       mo 3 (.assign (T 92))])))))
    (rg [mo 93 (.binOp .add 3 (T 49) (.const (.int .i64 1)) 3),
     mo 49 (.move (T 93))])))))))
 (.seq (.seq (rg [mo 94 (.move (T 3)),
    mo 95 (.unOp .not 4 (T 94))])
  (.cond (T 95) (.seq (rg [mo 2 (.assign (.const (.int .i64 220)))])
   (.ret))
  (.skip)))
 (.seq (rg [mo 2 (.assign (.const (.int .i64 0)))])
 (.ret)))))))
theorem body_17 : Try.f17.body.map strip = some c17 := by kernel_rfl
theorem go_17 {args : List Value} {h : DHeap} {R : DEnd → DHeap → Prop} (ha : args.length ≤ 96) (hx : xs Try.prog 96 c17 (XPost Try.prog [(.tmp 2)] R) ⟨argsFr args 96, [], h, none⟩) : Ct Try.prog 17 args h R :=
  Ct_xs (show Try.prog.funcs[17]? = some Try.f17 by kernel_rfl) body_17 (by kernel_rfl) (by kernel_rfl) ha (by kernel_rfl) hx
/-! trivet/trivetref22.Check -/
/-! trivet/state.Same -/
def c19 : Code :=
 .seq (rg [mo 2 (.box 26 (T 0)),
   mo 3 (.box 26 (T 1)),
   mo 4 (.assign (.const (.bool false)))])
 (.seq (rg [mo 5 (.fieldAddr 26 (T 2) 0),
   mo 6 (.load 2 (T 5)),
   mo 7 (.fieldAddr 26 (T 3) 0),
   mo 8 (.load 2 (T 7)),
   mo 9 (.binOp .eql 2 (T 6) (T 8) 2),
   mo 10 (.move (T 9)),
   mg 11 5 true (.fieldAddr 26 (T 2) 1),
   mg 12 5 true (.load 23 (T 11)),
   mg 13 5 true (.fieldAddr 26 (T 3) 1),
   mg 14 5 true (.load 23 (T 13)),
   mg 15 5 true (.call ⟨(.value (.func 49)), #[(T 12), (T 14)], #[23, 23]⟩),
   mo 16 (.pick (T 10) (T 15) (.const (.bool false))),
   mo 17 (.move (T 16)),
   mg 18 12 true (.fieldAddr 26 (T 2) 2),
   mg 19 12 true (.load 24 (T 18)),
   mg 20 12 true (.fieldAddr 26 (T 3) 2),
   mg 21 12 true (.load 24 (T 20)),
   mg 22 12 true (.call ⟨(.value (.func 50)), #[(T 19), (T 21), (.func 51)], #[24, 24, 77]⟩),
   mo 23 (.pick (T 17) (T 22) (.const (.bool false))),
   mo 4 (.assign (T 23))])
 (.ret))
theorem body_19 : Try.f19.body.map strip = some c19 := by kernel_rfl
theorem go_19 {args : List Value} {h : DHeap} {R : DEnd → DHeap → Prop} (ha : args.length ≤ 24) (hx : xs Try.prog 24 c19 (XPost Try.prog [(.tmp 4)] R) ⟨argsFr args 24, [], h, none⟩) : Ct Try.prog 19 args h R :=
  Ct_xs (show Try.prog.funcs[19]? = some Try.f19 by kernel_rfl) body_19 (by kernel_rfl) (by kernel_rfl) ha (by kernel_rfl) hx
/-! trivet/state.Clone -/
def o20_0 : Array Oper := #[⟨(some 31), (.fieldAddr 26 (T 1) 0), 0, "state.go:233", #[], none⟩,
 ⟨(some 32), (.load 2 (T 31)), 2, "state.go:233", #[⟨0, .data⟩], none⟩,
 ⟨(some 33), (.fieldAddr 26 (T 1) 1), 0, "state.go:233", #[], none⟩,
 ⟨(some 34), (.load 23 (T 33)), 23, "state.go:233", #[⟨2, .data⟩], none⟩,
 ⟨(some 35), (.call ⟨(.value (.func 53)), #[(T 34)], #[23]⟩), 23, "state.go:233", #[⟨3, .data⟩], none⟩,
 ⟨(some 36), (.move (T 3)), 24, "state.go:233", #[], none⟩,
 ⟨(some 37), (.build 26 #[(0, (T 32)), (1, (T 35)), (2, (T 36))]), 26, "state.go:233", #[⟨1, .data⟩, ⟨4, .data⟩, ⟨5, .data⟩], none⟩,
 ⟨none, (.store 26 (T 2) (T 37)), 0, "state.go:233", #[⟨6, .data⟩, ⟨4, .chain⟩, ⟨0, .phase⟩, ⟨1, .phase⟩, ⟨2, .phase⟩, ⟨3, .phase⟩, ⟨4, .phase⟩, ⟨5, .phase⟩, ⟨6, .phase⟩], none⟩]
def l20_0 : List Oper := [mo 31 (.fieldAddr 26 (T 1) 0),
 mo 32 (.load 2 (T 31)),
 mo 33 (.fieldAddr 26 (T 1) 1),
 mo 34 (.load 23 (T 33)),
 mo 35 (.call ⟨(.value (.func 53)), #[(T 34)], #[23]⟩),
 mo 36 (.move (T 3)),
 mo 37 (.build 26 #[(0, (T 32)), (1, (T 35)), (2, (T 36))]),
 mx (.store 26 (T 2) (T 37))]
def r20_0 : Code := .region 8 o20_0 true
theorem xr_20_0 {Q : DExit → St → Prop} {s : St} : xs Try.prog 38 r20_0 Q s = NC Try.prog 38 r20_0 Q s := rfl
theorem dr_20_0 {Q : DExit → St → Prop} {s : St} (h : XDraw Try.prog l20_0.toArray (befs o20_0.toList []) [(1, 4)] s.fr Q l20_0 0 s []) : NC Try.prog 38 r20_0 Q s :=
  NC.draw (by kernel_rfl) (by kernel_rfl) (by kernel_rfl) rfl (by kernel_rfl) (by kernel_rfl) h
attribute [go_sem] xr_20_0
def c20 : Code :=
 .seq (rg [mo 1 (.box 26 (T 0)),
   mo 2 (.alloc 26)])
 (.seq (rg [mo 5 (.fieldAddr 26 (T 1) 2),
   mo 6 (.load 24 (T 5)),
   mo 7 (.call ⟨(.builtin .len), #[(T 6)], #[24]⟩),
   mo 8 (.makeSlice 24 (T 7) (T 7)),
   mo 3 (.assign (T 8))])
 (.seq (rg [mo 9 (.move (T 3)),
   mo 10 (.fieldAddr 26 (T 1) 2),
   mo 11 (.load 24 (T 10)),
   mo 12 (.call ⟨(.builtin .copy), #[(T 9), (T 11)], #[24, 24]⟩)])
 (.seq (.seq (rg [mo 13 (.move (T 3)),
    mo 14 (.call ⟨(.builtin .len), #[(T 13)], #[24]⟩),
    mo 15 (.move (.const (.int .i64 0)))])
  (.block 0 (.loop (.seq (rg [mo 16 (.binOp .lss 3 (T 15) (T 14) 3)])
    (.seq (.cond (T 16) (.skip)
     (.exit 0))
    (.seq (.block 1 (.seq (rg [mo 17 (.move (T 15)),
        mo 4 (.assign (T 17))])
      (rg [mo 18 (.move (T 3)),
       mo 19 (.move (T 4)),
       mo 20 (.move (T 3)),
       mo 21 (.move (T 4)),
       mo 22 (.indexAddr 24 (T 20) (T 21)),
       mo 23 (.fieldAddr 55 (T 22) 2),
       mo 24 (.fieldAddr 53 (T 23) 1),
       mo 25 (.load 51 (T 24)),
       mo 26 (.call ⟨(.value (.func 52)), #[(T 25)], #[51]⟩),
       mo 27 (.indexAddr 24 (T 18) (T 19)),
       mo 28 (.fieldAddr 55 (T 27) 2),
       mo 29 (.fieldAddr 53 (T 28) 1),
       mx (.store 51 (T 29) (T 26))])))
    (rg [mo 30 (.binOp .add 3 (T 15) (.const (.int .i64 1)) 3),
     mo 15 (.move (T 30))])))))))
 (.seq (r20_0)
 (.ret)))))
theorem body_20 : Try.f20.body.map strip = some c20 := by kernel_rfl
theorem go_20 {args : List Value} {h : DHeap} {R : DEnd → DHeap → Prop} (ha : args.length ≤ 38) (hx : xs Try.prog 38 c20 (XPost Try.prog [(.cell 2 26)] R) ⟨argsFr args 38, [], h, none⟩) : Ct Try.prog 20 args h R :=
  Ct_xs (show Try.prog.funcs[20]? = some Try.f20 by kernel_rfl) body_20 (by kernel_rfl) (by kernel_rfl) ha (by kernel_rfl) hx
/-! trivet/trivetref22.Bytes -/
def o21_0 : Array Oper := #[⟨(some 63), (.move (T 4)), 22, "ref.go:76", #[], none⟩,
 ⟨(some 64), (.fieldAddr 55 (T 8) 0), 0, "ref.go:76", #[], none⟩,
 ⟨(some 65), (.load 2 (T 64)), 2, "ref.go:76", #[⟨1, .data⟩], none⟩,
 ⟨(some 66), (.fieldAddr 55 (T 8) 1), 0, "ref.go:76", #[], none⟩,
 ⟨(some 67), (.load 2 (T 66)), 2, "ref.go:76", #[⟨3, .data⟩], none⟩,
 ⟨(some 68), (.fieldAddr 55 (T 8) 2), 0, "ref.go:76", #[], none⟩,
 ⟨(some 69), (.fieldAddr 53 (T 68) 0), 0, "ref.go:76", #[⟨5, .data⟩], none⟩,
 ⟨(some 70), (.load 3 (T 69)), 3, "ref.go:76", #[⟨6, .data⟩], none⟩,
 ⟨(some 71), (.fieldAddr 55 (T 8) 2), 0, "ref.go:76", #[], none⟩,
 ⟨(some 72), (.fieldAddr 53 (T 71) 1), 0, "ref.go:76", #[⟨8, .data⟩], none⟩,
 ⟨(some 73), (.load 51 (T 72)), 51, "ref.go:76", #[⟨9, .data⟩], none⟩,
 ⟨(some 74), (.call ⟨(.builtin .len), #[(T 73)], #[51]⟩), 3, "ref.go:76", #[⟨10, .data⟩], none⟩,
 ⟨(some 75), (.buildSlice 51 4 #[(0, (T 65)), (1, (T 67)), (2, (T 70)), (3, (T 74))]), 51, "ref.go:76", #[⟨2, .data⟩, ⟨4, .data⟩, ⟨7, .data⟩, ⟨11, .data⟩], none⟩,
 ⟨(some 76), (.call ⟨(.value (.func 54)), #[(T 63), (T 75)], #[22, 51]⟩), 22, "ref.go:76", #[⟨0, .data⟩, ⟨12, .data⟩], none⟩,
 ⟨(some 77), (.fieldAddr 55 (T 8) 2), 0, "ref.go:76", #[], none⟩,
 ⟨(some 78), (.fieldAddr 53 (T 77) 1), 0, "ref.go:76", #[⟨14, .data⟩], none⟩,
 ⟨(some 79), (.load 51 (T 78)), 51, "ref.go:76", #[⟨15, .data⟩], none⟩,
 ⟨(some 80), (.call ⟨(.value (.func 54)), #[(T 76), (T 79)], #[22, 51]⟩), 22, "ref.go:76", #[⟨13, .data⟩, ⟨16, .data⟩, ⟨13, .chain⟩], none⟩,
 ⟨(some 4), (.assign (T 80)), 22, "ref.go:76", #[⟨17, .data⟩, ⟨17, .chain⟩, ⟨0, .phase⟩, ⟨1, .phase⟩, ⟨2, .phase⟩, ⟨3, .phase⟩, ⟨4, .phase⟩, ⟨5, .phase⟩, ⟨6, .phase⟩, ⟨7, .phase⟩, ⟨8, .phase⟩, ⟨9, .phase⟩, ⟨10, .phase⟩, ⟨11, .phase⟩, ⟨12, .phase⟩, ⟨13, .phase⟩, ⟨14, .phase⟩, ⟨15, .phase⟩, ⟨16, .phase⟩, ⟨17, .phase⟩], none⟩]
def l21_0 : List Oper := [mo 63 (.move (T 4)),
 mo 64 (.fieldAddr 55 (T 8) 0),
 mo 65 (.load 2 (T 64)),
 mo 66 (.fieldAddr 55 (T 8) 1),
 mo 67 (.load 2 (T 66)),
 mo 68 (.fieldAddr 55 (T 8) 2),
 mo 69 (.fieldAddr 53 (T 68) 0),
 mo 70 (.load 3 (T 69)),
 mo 71 (.fieldAddr 55 (T 8) 2),
 mo 72 (.fieldAddr 53 (T 71) 1),
 mo 73 (.load 51 (T 72)),
 mo 74 (.call ⟨(.builtin .len), #[(T 73)], #[51]⟩),
 mo 75 (.buildSlice 51 4 #[(0, (T 65)), (1, (T 67)), (2, (T 70)), (3, (T 74))]),
 mo 76 (.call ⟨(.value (.func 54)), #[(T 63), (T 75)], #[22, 51]⟩),
 mo 77 (.fieldAddr 55 (T 8) 2),
 mo 78 (.fieldAddr 53 (T 77) 1),
 mo 79 (.load 51 (T 78)),
 mo 80 (.call ⟨(.value (.func 54)), #[(T 76), (T 79)], #[22, 51]⟩),
 mo 4 (.assign (T 80))]
def r21_0 : Code := .region 14 o21_0 true
theorem xr_21_0 {Q : DExit → St → Prop} {s : St} : xs Try.prog 94 r21_0 Q s = NC Try.prog 94 r21_0 Q s := rfl
theorem dr_21_0 {Q : DExit → St → Prop} {s : St} (h : XDraw Try.prog l21_0.toArray (befs o21_0.toList []) [(2, 11), (4, 11), (7, 11), (16, 11), (16, 12), (16, 13)] s.fr Q l21_0 0 s []) : NC Try.prog 94 r21_0 Q s :=
  NC.draw (by kernel_rfl) (by kernel_rfl) (by kernel_rfl) rfl (by kernel_rfl) (by kernel_rfl) h
attribute [go_sem] xr_21_0
def c21 : Code :=
 .seq (rg [mo 1 (.box 26 (T 0)),
   mo 2 (.assign (.const (.slice none 0 0))),
   mo 3 (.assign (.const (.int .i64 0)))])
 (.seq (.seq (rg [mo 9 (.load 26 (T 1)),
    mo 10 (.call ⟨(.value (.func 37)), #[(T 9)], #[26]⟩),
    mo 11 (.unOp .not 4 (T 10))])
  (.cond (T 11) (.seq (rg [mo 2 (.assign (.const (.slice none 0 0))),
     mo 3 (.assign (.const (.int .i64 220)))])
   (.ret))
  (.skip)))
 (.seq (rg [mo 12 (.fieldAddr 26 (T 1) 0),
   mo 13 (.load 2 (T 12)),
   mo 14 (.fieldAddr 26 (T 1) 1),
   mo 15 (.load 23 (T 14)),
   mo 16 (.call ⟨(.builtin .len), #[(T 15)], #[23]⟩),
   mo 17 (.buildSlice 51 2 #[(0, (T 13)), (1, (T 16))]),
   mo 18 (.call ⟨(.value (.func 54)), #[(.const (.slice none 0 0)), (T 17)], #[22, 51]⟩),
   mo 4 (.assign (T 18))])
 (.seq (.seq (rg [mo 5 (.assign (.const (.int .i64 0)))])
  (.block 0 (.loop (.seq (.seq (rg [mo 19 (.move (T 5)),
       mo 20 (.fieldAddr 26 (T 1) 1),
       mo 21 (.load 23 (T 20)),
       mo 22 (.call ⟨(.builtin .len), #[(T 21)], #[23]⟩),
       mo 23 (.binOp .lss 3 (T 19) (T 22) 3)])
     (.cond (T 23) (.skip)
     (.exit 0)))
    (.seq (.block 1 (.seq (rg [mo 26 (.fieldAddr 26 (T 1) 1),
        mo 27 (.load 23 (T 26)),
        mo 28 (.move (T 5)),
        mo 29 (.indexAddr 23 (T 27) (T 28)),
        mo 30 (.load 50 (T 29)),
        mo 6 (.alloc 50),
        mx (.store 50 (T 6) (T 30))])
      (rg [mo 31 (.move (T 4)),
       mo 32 (.fieldAddr 50 (T 6) 0),
       mo 33 (.fieldAddr 48 (T 32) 0),
       mo 34 (.load 21 (T 33)),
       mo 35 (.convert 21 2 (T 34)),
       mo 36 (.fieldAddr 50 (T 6) 0),
       mo 37 (.fieldAddr 48 (T 36) 1),
       mo 38 (.load 2 (T 37)),
       mo 39 (.fieldAddr 50 (T 6) 1),
       mo 40 (.load 2 (T 39)),
       mo 41 (.fieldAddr 50 (T 6) 2),
       mo 42 (.load 2 (T 41)),
       mo 43 (.buildSlice 51 4 #[(0, (T 35)), (1, (T 38)), (2, (T 40)), (3, (T 42))]),
       mo 44 (.call ⟨(.value (.func 54)), #[(T 31), (T 43)], #[22, 51]⟩),
       mo 4 (.assign (T 44))])))
    (rg [mo 24 (.move (T 5)),
     mo 25 (.binOp .add 3 (T 24) (.const (.int .i64 1)) 3),
     mo 5 (.assign (T 25))]))))))
 (.seq (rg [mo 45 (.move (T 4)),
   mo 46 (.fieldAddr 26 (T 1) 2),
   mo 47 (.load 24 (T 46)),
   mo 48 (.call ⟨(.builtin .len), #[(T 47)], #[24]⟩),
   mo 49 (.buildSlice 51 1 #[(0, (T 48))]),
   mo 50 (.call ⟨(.value (.func 54)), #[(T 45), (T 49)], #[22, 51]⟩),
   mo 4 (.assign (T 50))])
 (.seq (.seq (rg [mo 7 (.assign (.const (.int .i64 0)))])
  (.block 2 (.loop (.seq (.seq (rg [mo 51 (.move (T 7)),
       mo 52 (.fieldAddr 26 (T 1) 2),
       mo 53 (.load 24 (T 52)),
       mo 54 (.call ⟨(.builtin .len), #[(T 53)], #[24]⟩),
       mo 55 (.binOp .lss 3 (T 51) (T 54) 3)])
     (.cond (T 55) (.skip)
     (.exit 2)))
    (.seq (.block 3 (.seq (rg [mo 58 (.fieldAddr 26 (T 1) 2),
        mo 59 (.load 24 (T 58)),
        mo 60 (.move (T 7)),
        mo 61 (.indexAddr 24 (T 59) (T 60)),
        mo 62 (.load 55 (T 61)),
        mo 8 (.alloc 55),
        mx (.store 55 (T 8) (T 62))])
      (.seq (r21_0)
      (rg [mo 81 (.move (T 4)),
       mo 82 (.fieldAddr 55 (T 8) 2),
       mo 83 (.fieldAddr 53 (T 82) 2),
       mo 84 (.load 2 (T 83)),
       mo 85 (.fieldAddr 55 (T 8) 2),
       mo 86 (.fieldAddr 53 (T 85) 3),
       mo 87 (.load 3 (T 86)),
       mo 88 (.buildSlice 51 2 #[(0, (T 84)), (1, (T 87))]),
       mo 89 (.call ⟨(.value (.func 54)), #[(T 81), (T 88)], #[22, 51]⟩),
       mo 4 (.assign (T 89))]))))
    (rg [mo 56 (.move (T 7)),
     mo 57 (.binOp .add 3 (T 56) (.const (.int .i64 1)) 3),
     mo 7 (.assign (T 57))]))))))
 (.seq (.seq (rg [mo 90 (.move (T 4)),
    mo 91 (.call ⟨(.builtin .len), #[(T 90)], #[22]⟩),
    mo 92 (.binOp .gtr 3 (T 91) (.const (.int .i64 1048576)) 3)])
  (.cond (T 92) (.seq (rg [mo 2 (.assign (.const (.slice none 0 0))),
     mo 3 (.assign (.const (.int .i64 3)))])
   (.ret))
  (.skip)))
 (.seq (rg [mo 93 (.move (T 4)),
   mo 2 (.assign (T 93)),
   mo 3 (.assign (.const (.int .i64 0)))])
 (.ret))))))))
theorem body_21 : Try.f21.body.map strip = some c21 := by kernel_rfl
theorem go_21 {args : List Value} {h : DHeap} {R : DEnd → DHeap → Prop} (ha : args.length ≤ 94) (hx : xs Try.prog 94 c21 (XPost Try.prog [(.tmp 2), (.tmp 3)] R) ⟨argsFr args 94, [], h, none⟩) : Ct Try.prog 21 args h R :=
  Ct_xs (show Try.prog.funcs[21]? = some Try.f21 by kernel_rfl) body_21 (by kernel_rfl) (by kernel_rfl) ha (by kernel_rfl) hx
/-! trivet/state.Parts -/
def o23_0 : Array Oper := #[⟨(some 24), (.load 44 (T 5)), 44, "state.go:161", #[], none⟩,
 ⟨(some 25), (.fieldAddr 26 (T 1) 0), 0, "state.go:161", #[], none⟩,
 ⟨(some 26), (.load 2 (T 25)), 2, "state.go:161", #[⟨1, .data⟩], none⟩,
 ⟨(some 27), (.move (T 7)), 3, "state.go:161", #[], none⟩,
 ⟨(some 28), (.move (T 6)), 3, "state.go:161", #[], none⟩,
 ⟨(some 29), (.move (T 3)), 22, "state.go:161", #[], none⟩,
 ⟨(some 30), (.move (T 7)), 3, "state.go:161", #[], none⟩,
 ⟨(some 31), (.binOp .mul 3 (T 30) (.const (.int .i64 16384)) 3), 3, "state.go:161", #[⟨6, .data⟩], none⟩,
 ⟨(some 32), (.move (T 3)), 22, "state.go:161", #[], none⟩,
 ⟨(some 33), (.call ⟨(.builtin .len), #[(T 32)], #[22]⟩), 3, "state.go:161", #[⟨8, .data⟩], none⟩,
 ⟨(some 34), (.move (T 7)), 3, "state.go:161", #[], none⟩,
 ⟨(some 35), (.binOp .add 3 (T 34) (.const (.int .i64 1)) 3), 3, "state.go:161", #[⟨10, .data⟩], none⟩,
 ⟨(some 36), (.binOp .mul 3 (T 35) (.const (.int .i64 16384)) 3), 3, "state.go:161", #[⟨11, .data⟩], none⟩,
 ⟨(some 37), (.call ⟨(.builtin .min), #[(T 33), (T 36)], #[3, 3]⟩), 3, "state.go:161", #[⟨9, .data⟩, ⟨12, .data⟩], none⟩,
 ⟨(some 38), (.call ⟨(.value (.func 56)), #[(T 29), (T 31), (T 37)], #[22, 3, 3]⟩), 22, "state.go:161", #[⟨5, .data⟩, ⟨7, .data⟩, ⟨13, .data⟩], none⟩,
 ⟨(some 39), (.build 57 #[(0, (T 26)), (1, (T 27)), (2, (T 28)), (3, (T 38))]), 57, "state.go:161", #[⟨2, .data⟩, ⟨3, .data⟩, ⟨4, .data⟩, ⟨14, .data⟩], none⟩,
 ⟨(some 40), (.buildSlice 44 1 #[(0, (T 39))]), 44, "state.go:161", #[⟨15, .data⟩], none⟩,
 ⟨(some 41), (.call ⟨(.builtin .append), #[(T 24), (T 40)], #[44, 44]⟩), 44, "state.go:161", #[⟨0, .data⟩, ⟨16, .data⟩, ⟨14, .chain⟩], none⟩,
 ⟨none, (.store 44 (T 5) (T 41)), 0, "state.go:161", #[⟨17, .data⟩, ⟨17, .chain⟩, ⟨0, .phase⟩, ⟨1, .phase⟩, ⟨2, .phase⟩, ⟨3, .phase⟩, ⟨4, .phase⟩, ⟨5, .phase⟩, ⟨6, .phase⟩, ⟨7, .phase⟩, ⟨8, .phase⟩, ⟨9, .phase⟩, ⟨10, .phase⟩, ⟨11, .phase⟩, ⟨12, .phase⟩, ⟨13, .phase⟩, ⟨14, .phase⟩, ⟨15, .phase⟩, ⟨16, .phase⟩, ⟨17, .phase⟩], none⟩]
def l23_0 : List Oper := [mo 24 (.load 44 (T 5)),
 mo 25 (.fieldAddr 26 (T 1) 0),
 mo 26 (.load 2 (T 25)),
 mo 27 (.move (T 7)),
 mo 28 (.move (T 6)),
 mo 29 (.move (T 3)),
 mo 30 (.move (T 7)),
 mo 31 (.binOp .mul 3 (T 30) (.const (.int .i64 16384)) 3),
 mo 32 (.move (T 3)),
 mo 33 (.call ⟨(.builtin .len), #[(T 32)], #[22]⟩),
 mo 34 (.move (T 7)),
 mo 35 (.binOp .add 3 (T 34) (.const (.int .i64 1)) 3),
 mo 36 (.binOp .mul 3 (T 35) (.const (.int .i64 16384)) 3),
 mt 37 3 (.call ⟨(.builtin .min), #[(T 33), (T 36)], #[3, 3]⟩),
 mo 38 (.call ⟨(.value (.func 56)), #[(T 29), (T 31), (T 37)], #[22, 3, 3]⟩),
 mo 39 (.build 57 #[(0, (T 26)), (1, (T 27)), (2, (T 28)), (3, (T 38))]),
 mo 40 (.buildSlice 44 1 #[(0, (T 39))]),
 mo 41 (.call ⟨(.builtin .append), #[(T 24), (T 40)], #[44, 44]⟩),
 mx (.store 44 (T 5) (T 41))]
def r23_0 : Code := .region 8 o23_0 true
theorem xr_23_0 {Q : DExit → St → Prop} {s : St} : xs Try.prog 44 r23_0 Q s = NC Try.prog 44 r23_0 Q s := rfl
theorem dr_23_0 {Q : DExit → St → Prop} {s : St} (h : XDraw Try.prog l23_0.toArray (befs o23_0.toList []) [(0, 9), (0, 13), (0, 14), (0, 16), (2, 9), (2, 13), (2, 14)] s.fr Q l23_0 0 s []) : NC Try.prog 44 r23_0 Q s :=
  NC.draw (by kernel_rfl) (by kernel_rfl) (by kernel_rfl) rfl (by kernel_rfl) (by kernel_rfl) h
attribute [go_sem] xr_23_0
def c23 : Code :=
 .seq (rg [mo 1 (.box 26 (T 0)),
   mo 2 (.assign (.const .nilFunc))])
 (.seq (rg [mo 9 (.load 26 (T 1)),
   mo 10 (.call ⟨(.value (.func 14)), #[(T 9)], #[26]⟩),
   mo 8 (.move (T 10)),
   mo 11 (.extract (T 8) 0),
   mo 12 (.extract (T 8) 1),
   mo 3 (.assign (T 11)),
   mo 4 (.assign (T 12))])
 (.seq (rg [mo 5 (.alloc 44)])
 (.seq (.seq (rg [mo 13 (.move (T 4)),
    mo 14 (.binOp .eql 27 (T 13) (.const (.int .i64 0)) 27)])
  (.cond (T 14) (.seq (rg [mo 15 (.move (T 3)),
     mo 16 (.call ⟨(.builtin .len), #[(T 15)], #[22]⟩),
     mo 17 (.binOp .add 3 (T 16) (.const (.int .i64 16384)) 3),
     mo 18 (.binOp .sub 3 (T 17) (.const (.int .i64 1)) 3),
     mo 19 (.binOp .quo 3 (T 18) (.const (.int .i64 16384)) 3),
     mo 6 (.assign (T 19))])
   (.seq (rg [mo 20 (.move (T 6)),
     mo 21 (.move (.const (.int .i64 0)))])
   (.block 0 (.loop (.seq (rg [mo 22 (.binOp .lss 3 (T 21) (T 20) 3)])
     (.seq (.cond (T 22) (.skip)
      (.exit 0))
     (.seq (.block 1 (.seq (rg [mo 23 (.move (T 21)),
         mo 7 (.assign (T 23))])
       (r23_0)))
     (rg [mo 42 (.binOp .add 3 (T 21) (.const (.int .i64 1)) 3),
      mo 21 (.move (T 42))]))))))))
  (.skip)))
 (.seq (rg [mo 43 (.makeFunc (.func 57) #[] #[(T 5)]),
   mo 2 (.assign (T 43))])
 (.ret)))))
theorem body_23 : Try.f23.body.map strip = some c23 := by kernel_rfl
theorem go_23 {args : List Value} {h : DHeap} {R : DEnd → DHeap → Prop} (ha : args.length ≤ 44) (hx : xs Try.prog 44 c23 (XPost Try.prog [(.tmp 2)] R) ⟨argsFr args 44, [], h, none⟩) : Ct Try.prog 23 args h R :=
  Ct_xs (show Try.prog.funcs[23]? = some Try.f23 by kernel_rfl) body_23 (by kernel_rfl) (by kernel_rfl) ha (by kernel_rfl) hx
/-! trivet/trivetref22.Parts -/
/-! trivet/trivetref22.Digest -/
def c25 : Code :=
 .seq (rg [mo 1 (.box 26 (T 0)),
   mo 2 (.assign (.const (.int .u64 0)))])
 (.seq (rg [mo 8 (.load 26 (T 1)),
   mo 9 (.call ⟨(.value (.func 21)), #[(T 8)], #[26]⟩),
   mo 7 (.move (T 9)),
   mo 10 (.extract (T 7) 0),
   mo 11 (.extract (T 7) 1),
   mo 3 (.assign (T 10)),
   mo 4 (.assign (T 11))])
 (.seq (.seq (rg [mo 12 (.move (T 4)),
    mo 13 (.binOp .neq 27 (T 12) (.const (.int .i64 0)) 27)])
  (.cond (T 13) (.seq (rg [mo 2 (.assign (.const (.int .u64 0)))])
   (.ret))
  (.skip)))
 (.seq (rg [mo 5 (.assign (.const (.int .u64 0)))])
 (.seq (.seq (rg [mo 6 (.assign (.const (.int .i64 0)))])
  (.block 0 (.loop (.seq (.seq (rg [mo 14 (.move (T 6)),
       mo 15 (.move (T 3)),
       mo 16 (.call ⟨(.builtin .len), #[(T 15)], #[22]⟩),
       mo 17 (.binOp .lss 3 (T 14) (T 16) 3)])
     (.cond (T 17) (.skip)
     (.exit 0)))
    (.seq (.block 1 (rg [mo 20 (.move (T 3)),
       mo 21 (.move (T 6)),
       mo 22 (.indexAddr 22 (T 20) (T 21)),
       mo 23 (.load 5 (T 22)),
       mo 24 (.convert 5 21 (T 23)),
       mo 25 (.move (T 5)),
       mo 26 (.convert 36 2 (T 25)),
       mo 27 (.build 48 #[(0, (T 24)), (1, (T 26))]),
       mo 28 (.call ⟨(.value (.func 59)), #[(T 27)], #[48]⟩),
       mo 5 (.assign (T 28))]))
    (rg [mo 18 (.move (T 6)),
     mo 19 (.binOp .add 3 (T 18) (.const (.int .i64 1)) 3),
     mo 6 (.assign (T 19))]))))))
 (.seq (rg [mo 29 (.move (T 5)),
   mo 2 (.assign (T 29))])
 (.ret))))))
theorem body_25 : Try.f25.body.map strip = some c25 := by kernel_rfl
theorem go_25 {args : List Value} {h : DHeap} {R : DEnd → DHeap → Prop} (ha : args.length ≤ 30) (hx : xs Try.prog 30 c25 (XPost Try.prog [(.tmp 2)] R) ⟨argsFr args 30, [], h, none⟩) : Ct Try.prog 25 args h R :=
  Ct_xs (show Try.prog.funcs[25]? = some Try.f25 by kernel_rfl) body_25 (by kernel_rfl) (by kernel_rfl) ha (by kernel_rfl) hx
end Go.Proofs.Ytlhgijpdhniddaa

namespace Go.Proofs.Ytlhgijpdhniddaa
open Go.D
set_option maxRecDepth 100000
/-! trivet/trivetref01.TakeNum -/
/-! (*trivet/trivetref04.Reader).Small -/
/-! trivet/trivetref22.count -/
def c64 : Code :=
 .seq (rg [mo 2 (.assign (.const (.bool false)))])
 (.seq (rg [mo 3 (.move (T 0)),
   mo 4 (.binOp .geq 2 (T 3) (.const (.int .i64 0)) 2),
   mo 5 (.move (T 4)),
   mg 6 2 true (.move (T 0)),
   mg 7 2 true (.binOp .leq 2 (T 6) (.const (.int .i64 1099511627776)) 2),
   mo 8 (.pick (T 5) (T 7) (.const (.bool false))),
   mo 2 (.assign (T 8))])
 (.ret))
theorem body_64 : Try.f64.body.map strip = some c64 := by kernel_rfl
theorem go_64 {args : List Value} {h : DHeap} {R : DEnd → DHeap → Prop} (ha : args.length ≤ 9) (hx : xs Try.prog 9 c64 (XPost Try.prog [(.tmp 2)] R) ⟨argsFr args 9, [], h, none⟩) : Ct Try.prog 64 args h R :=
  Ct_xs (show Try.prog.funcs[64]? = some Try.f64 by kernel_rfl) body_64 (by kernel_rfl) (by kernel_rfl) ha (by kernel_rfl) hx
/-! trivet/trivetref04.Less -/
def c65 : Code :=
 .seq (rg [mo 2 (.box 48 (T 0)),
   mo 3 (.box 48 (T 1)),
   mo 4 (.assign (.const (.bool false)))])
 (.seq (rg [mo 5 (.fieldAddr 48 (T 2) 0),
   mo 6 (.load 21 (T 5)),
   mo 7 (.fieldAddr 48 (T 3) 0),
   mo 8 (.load 21 (T 7)),
   mo 9 (.binOp .lss 21 (T 6) (T 8) 21),
   mo 10 (.move (T 9)),
   mg 11 5 false (.fieldAddr 48 (T 2) 0),
   mg 12 5 false (.load 21 (T 11)),
   mg 13 5 false (.fieldAddr 48 (T 3) 0),
   mg 14 5 false (.load 21 (T 13)),
   mg 15 5 false (.binOp .eql 21 (T 12) (T 14) 21),
   mg 16 5 false (.move (T 15)),
   mg 17 11 true (.fieldAddr 48 (T 2) 1),
   mg 18 11 true (.load 2 (T 17)),
   mg 19 11 true (.fieldAddr 48 (T 3) 1),
   mg 20 11 true (.load 2 (T 19)),
   mg 21 11 true (.binOp .lss 2 (T 18) (T 20) 2),
   mg 22 5 false (.pick (T 16) (T 21) (.const (.bool false))),
   mo 23 (.pick (T 10) (.const (.bool true)) (T 22)),
   mo 4 (.assign (T 23))])
 (.ret))
theorem body_65 : Try.f65.body.map strip = some c65 := by kernel_rfl
theorem go_65 {args : List Value} {h : DHeap} {R : DEnd → DHeap → Prop} (ha : args.length ≤ 24) (hx : xs Try.prog 24 c65 (XPost Try.prog [(.tmp 4)] R) ⟨argsFr args 24, [], h, none⟩) : Ct Try.prog 65 args h R :=
  Ct_xs (show Try.prog.funcs[65]? = some Try.f65 by kernel_rfl) body_65 (by kernel_rfl) (by kernel_rfl) ha (by kernel_rfl) hx
/-! trivet/trivetref22.mayRow -/
def c66 : Code :=
 .seq (rg [mo 2 (.box 55 (T 0)),
   mo 4 (.assign (.const (.bool false)))])
 (.seq (rg [mo 6 (.fieldAddr 55 (T 2) 2),
   mo 7 (.load 53 (T 6)),
   mo 5 (.alloc 53),
   mx (.store 53 (T 5) (T 7))])
 (.seq (rg [mo 8 (.fieldAddr 55 (T 2) 0),
   mo 9 (.load 2 (T 8)),
   mo 10 (.binOp .geq 2 (T 9) (.const (.int .i64 1)) 2),
   mo 11 (.move (T 10)),
   mg 12 3 true (.fieldAddr 55 (T 2) 0),
   mg 13 3 true (.load 2 (T 12)),
   mg 14 3 true (.call ⟨(.value (.func 64)), #[(T 13)], #[2]⟩),
   mo 15 (.pick (T 11) (T 14) (.const (.bool false))),
   mo 16 (.move (T 15)),
   mg 17 8 true (.fieldAddr 55 (T 2) 1),
   mg 18 8 true (.load 2 (T 17)),
   mg 19 8 true (.binOp .geq 2 (T 18) (.const (.int .i64 1)) 2),
   mo 20 (.pick (T 16) (T 19) (.const (.bool false))),
   mo 21 (.move (T 20)),
   mg 22 13 true (.fieldAddr 55 (T 2) 1),
   mg 23 13 true (.load 2 (T 22)),
   mg 24 13 true (.call ⟨(.value (.func 64)), #[(T 23)], #[2]⟩),
   mo 25 (.pick (T 21) (T 24) (.const (.bool false))),
   mo 26 (.move (T 25)),
   mg 27 18 true (.fieldAddr 53 (T 5) 0),
   mg 28 18 true (.load 3 (T 27)),
   mg 29 18 true (.binOp .geq 3 (T 28) (.const (.int .i64 0)) 3),
   mo 30 (.pick (T 26) (T 29) (.const (.bool false))),
   mo 31 (.move (T 30)),
   mg 32 23 true (.fieldAddr 53 (T 5) 0),
   mg 33 23 true (.load 3 (T 32)),
   mg 34 23 true (.binOp .leq 3 (T 33) (.const (.int .i64 355)) 3),
   mo 35 (.pick (T 31) (T 34) (.const (.bool false))),
   mo 36 (.move (T 35)),
   mg 37 28 true (.fieldAddr 53 (T 5) 1),
   mg 38 28 true (.load 51 (T 37)),
   mg 39 28 true (.call ⟨(.builtin .len), #[(T 38)], #[51]⟩),
   mg 40 28 true (.binOp .leq 3 (T 39) (.const (.int .i64 8)) 3),
   mo 41 (.pick (T 36) (T 40) (.const (.bool false))),
   mo 42 (.move (T 41)),
   mg 43 34 true (.fieldAddr 53 (T 5) 2),
   mg 44 34 true (.load 2 (T 43)),
   mg 45 34 true (.binOp .geq 2 (T 44) (.const (.int .i64 0)) 2),
   mo 46 (.pick (T 42) (T 45) (.const (.bool false))),
   mo 47 (.move (T 46)),
   mg 48 39 true (.fieldAddr 53 (T 5) 2),
   mg 49 39 true (.load 2 (T 48)),
   mg 50 39 true (.move (T 1)),
   mg 51 39 true (.binOp .lss 2 (T 49) (T 50) 2),
   mo 52 (.pick (T 47) (T 51) (.const (.bool false))),
   mo 53 (.move (T 52)),
   mg 54 45 true (.fieldAddr 53 (T 5) 3),
   mg 55 45 true (.load 3 (T 54)),
   mg 56 45 true (.binOp .geq 3 (T 55) (.const (.int .i64 0)) 3),
   mo 57 (.pick (T 53) (T 56) (.const (.bool false))),
   mo 58 (.move (T 57)),
   mg 59 50 true (.fieldAddr 53 (T 5) 3),
   mg 60 50 true (.load 3 (T 59)),
   mg 61 50 true (.binOp .lss 3 (T 60) (.const (.int .i64 16)) 3),
   mo 62 (.pick (T 58) (T 61) (.const (.bool false))),
   mo 4 (.assign (T 62))])
 (.ret)))
theorem body_66 : Try.f66.body.map strip = some c66 := by kernel_rfl
theorem go_66 {args : List Value} {h : DHeap} {R : DEnd → DHeap → Prop} (ha : args.length ≤ 63) (hx : xs Try.prog 63 c66 (XPost Try.prog [(.tmp 4)] R) ⟨argsFr args 63, [], h, none⟩) : Ct Try.prog 66 args h R :=
  Ct_xs (show Try.prog.funcs[66]? = some Try.f66 by kernel_rfl) body_66 (by kernel_rfl) (by kernel_rfl) ha (by kernel_rfl) hx
/-! trivet/trivetref20.SameResult -/
/-! trivet/shape.Num -/
def c68 : Code :=
 .seq (rg [mo 4 (.assign (.const (.slice none 0 0)))])
 (.seq (rg [mo 7 (.move (T 0)),
   mo 8 (.call ⟨(.value (.func 79)), #[(T 7)], #[22]⟩),
   mo 0 (.assign (T 8))])
 (.seq (.seq (rg [mo 9 (.move (T 1)),
    mo 10 (.call ⟨(.builtin .len), #[(T 9)], #[51]⟩),
    mo 11 (.move (.const (.int .i64 0)))])
  (.block 0 (.loop (.seq (rg [mo 12 (.binOp .lss 3 (T 11) (T 10) 3)])
    (.seq (.cond (T 12) (.skip)
     (.exit 0))
    (.seq (.block 1 (.seq (rg [mo 13 (.indexAddr 51 (T 9) (T 11)),
        mo 14 (.load 2 (T 13)),
        mo 6 (.assign (T 14))])
      (rg [mo 15 (.move (T 0)),
       mo 16 (.move (T 6)),
       mo 17 (.call ⟨(.value (.func 80)), #[(T 16)], #[2]⟩),
       mo 18 (.call ⟨(.builtin .append), #[(T 15), (T 17)], #[22, 22]⟩),
       mo 0 (.assign (T 18))])))
    (rg [mo 19 (.binOp .add 3 (T 11) (.const (.int .i64 1)) 3),
     mo 11 (.move (T 19))])))))))
 (.seq (rg [mo 20 (.move (T 0)),
   mo 21 (.call ⟨(.value (.func 58)), #[(T 20)], #[22]⟩),
   mo 4 (.assign (T 21))])
 (.ret))))
theorem body_68 : Try.f68.body.map strip = some c68 := by kernel_rfl
theorem go_68 {args : List Value} {h : DHeap} {R : DEnd → DHeap → Prop} (ha : args.length ≤ 22) (hx : xs Try.prog 22 c68 (XPost Try.prog [(.tmp 4)] R) ⟨argsFr args 22, [], h, none⟩) : Ct Try.prog 68 args h R :=
  Ct_xs (show Try.prog.funcs[68]? = some Try.f68 by kernel_rfl) body_68 (by kernel_rfl) (by kernel_rfl) ha (by kernel_rfl) hx
/-! trivet/shard.mix -/
def c69 : Code :=
 .seq (rg [mo 2 (.assign (.const (.int .u64 0)))])
 (.seq (rg [mo 3 (.move (T 0)),
   mo 4 (.move (T 0)),
   mo 5 (.binOp .shl 36 (T 4) (.const (.int .u64 13)) 105),
   mo 6 (.binOp .xor 36 (T 3) (T 5) 36),
   mo 0 (.assign (T 6))])
 (.seq (rg [mo 7 (.move (T 0)),
   mo 8 (.move (T 0)),
   mo 9 (.binOp .shr 36 (T 8) (.const (.int .u64 7)) 105),
   mo 10 (.binOp .xor 36 (T 7) (T 9) 36),
   mo 0 (.assign (T 10))])
 (.seq (rg [mo 11 (.move (T 0)),
   mo 12 (.move (T 0)),
   mo 13 (.binOp .shl 36 (T 12) (.const (.int .u64 17)) 105),
   mo 14 (.binOp .xor 36 (T 11) (T 13) 36),
   mo 2 (.assign (T 14))])
 (.ret))))
theorem body_69 : Try.f69.body.map strip = some c69 := by kernel_rfl
theorem go_69 {args : List Value} {h : DHeap} {R : DEnd → DHeap → Prop} (ha : args.length ≤ 15) (hx : xs Try.prog 15 c69 (XPost Try.prog [(.tmp 2)] R) ⟨argsFr args 15, [], h, none⟩) : Ct Try.prog 69 args h R :=
  Ct_xs (show Try.prog.funcs[69]? = some Try.f69 by kernel_rfl) body_69 (by kernel_rfl) (by kernel_rfl) ha (by kernel_rfl) hx
/-! cmp.Or[int] -/
def c70 : Code :=
 .seq (rg [mo 2 (.assign (.const (.int .i64 0)))])
 (.seq (rg [mo 3 (.assign (.const (.int .i64 0)))])
 (.seq (.seq (rg [mo 6 (.move (T 0)),
    mo 7 (.call ⟨(.builtin .len), #[(T 6)], #[115]⟩),
    mo 8 (.move (.const (.int .i64 0)))])
  (.block 0 (.loop (.seq (rg [mo 9 (.binOp .lss 3 (T 8) (T 7) 3)])
    (.seq (.cond (T 9) (.skip)
     (.exit 0))
    (.seq (.block 1 (.seq (rg [mo 10 (.indexAddr 115 (T 6) (T 8)),
        mo 11 (.load 3 (T 10)),
        mo 5 (.assign (T 11))])
      (.seq (rg [mo 12 (.move (T 5)),
        mo 13 (.move (T 3)),
        mo 14 (.binOp .neq 3 (T 12) (T 13) 3)])
      (.cond (T 14) (.seq (rg [mo 15 (.move (T 5)),
         mo 2 (.assign (T 15))])
       (.ret))
      (.skip)))))
    (rg [mo 16 (.binOp .add 3 (T 8) (.const (.int .i64 1)) 3),
     mo 8 (.move (T 16))])))))))
 (.seq (rg [mo 17 (.move (T 3)),
   mo 2 (.assign (T 17))])
 (.ret))))
theorem body_70 : Try.f70.body.map strip = some c70 := by kernel_rfl
theorem go_70 {args : List Value} {h : DHeap} {R : DEnd → DHeap → Prop} (ha : args.length ≤ 18) (hx : xs Try.prog 18 c70 (XPost Try.prog [(.tmp 2)] R) ⟨argsFr args 18, [], h, none⟩) : Ct Try.prog 70 args h R :=
  Ct_xs (show Try.prog.funcs[70]? = some Try.f70 by kernel_rfl) body_70 (by kernel_rfl) (by kernel_rfl) ha (by kernel_rfl) hx
/-! cmp.Compare[int32] -/
def c71 : Code :=
 .seq (rg [mo 4 (.assign (.const (.int .i64 0)))])
 (.seq (rg [mo 7 (.move (T 0)),
   mo 8 (.call ⟨(.value (.func 81)), #[(T 7)], #[21]⟩),
   mo 5 (.assign (T 8))])
 (.seq (rg [mo 9 (.move (T 1)),
   mo 10 (.call ⟨(.value (.func 81)), #[(T 9)], #[21]⟩),
   mo 6 (.assign (T 10))])
 (.seq (.seq (rg [mo 11 (.move (T 5))])
  (.cond (T 11) (.seq (.seq (rg [mo 12 (.move (T 6))])
    (.cond (T 12) (.seq (rg [mo 4 (.assign (.const (.int .i64 0)))])
     (.ret))
    (.skip)))
   (.seq (rg [mo 4 (.assign (.const (.int .i64 (-1))))])
   (.ret)))
  (.skip)))
 (.seq (.seq (rg [mo 13 (.move (T 6))])
  (.cond (T 13) (.seq (rg [mo 4 (.assign (.const (.int .i64 1)))])
   (.ret))
  (.skip)))
 (.seq (.seq (rg [mo 14 (.move (T 0)),
    mo 15 (.move (T 1)),
    mo 16 (.binOp .lss 21 (T 14) (T 15) 21)])
  (.cond (T 16) (.seq (rg [mo 4 (.assign (.const (.int .i64 (-1))))])
   (.ret))
  (.skip)))
 (.seq (.seq (rg [mo 17 (.move (T 0)),
    mo 18 (.move (T 1)),
    mo 19 (.binOp .gtr 21 (T 17) (T 18) 21)])
  (.cond (T 19) (.seq (rg [mo 4 (.assign (.const (.int .i64 1)))])
   (.ret))
  (.skip)))
 (.seq (rg [mo 4 (.assign (.const (.int .i64 0)))])
 (.ret))))))))
theorem body_71 : Try.f71.body.map strip = some c71 := by kernel_rfl
theorem go_71 {args : List Value} {h : DHeap} {R : DEnd → DHeap → Prop} (ha : args.length ≤ 20) (hx : xs Try.prog 20 c71 (XPost Try.prog [(.tmp 4)] R) ⟨argsFr args 20, [], h, none⟩) : Ct Try.prog 71 args h R :=
  Ct_xs (show Try.prog.funcs[71]? = some Try.f71 by kernel_rfl) body_71 (by kernel_rfl) (by kernel_rfl) ha (by kernel_rfl) hx
/-! cmp.Compare[int64] -/
def c72 : Code :=
 .seq (rg [mo 4 (.assign (.const (.int .i64 0)))])
 (.seq (rg [mo 7 (.move (T 0)),
   mo 8 (.call ⟨(.value (.func 82)), #[(T 7)], #[2]⟩),
   mo 5 (.assign (T 8))])
 (.seq (rg [mo 9 (.move (T 1)),
   mo 10 (.call ⟨(.value (.func 82)), #[(T 9)], #[2]⟩),
   mo 6 (.assign (T 10))])
 (.seq (.seq (rg [mo 11 (.move (T 5))])
  (.cond (T 11) (.seq (.seq (rg [mo 12 (.move (T 6))])
    (.cond (T 12) (.seq (rg [mo 4 (.assign (.const (.int .i64 0)))])
     (.ret))
    (.skip)))
   (.seq (rg [mo 4 (.assign (.const (.int .i64 (-1))))])
   (.ret)))
  (.skip)))
 (.seq (.seq (rg [mo 13 (.move (T 6))])
  (.cond (T 13) (.seq (rg [mo 4 (.assign (.const (.int .i64 1)))])
   (.ret))
  (.skip)))
 (.seq (.seq (rg [mo 14 (.move (T 0)),
    mo 15 (.move (T 1)),
    mo 16 (.binOp .lss 2 (T 14) (T 15) 2)])
  (.cond (T 16) (.seq (rg [mo 4 (.assign (.const (.int .i64 (-1))))])
   (.ret))
  (.skip)))
 (.seq (.seq (rg [mo 17 (.move (T 0)),
    mo 18 (.move (T 1)),
    mo 19 (.binOp .gtr 2 (T 17) (T 18) 2)])
  (.cond (T 19) (.seq (rg [mo 4 (.assign (.const (.int .i64 1)))])
   (.ret))
  (.skip)))
 (.seq (rg [mo 4 (.assign (.const (.int .i64 0)))])
 (.ret))))))))
theorem body_72 : Try.f72.body.map strip = some c72 := by kernel_rfl
theorem go_72 {args : List Value} {h : DHeap} {R : DEnd → DHeap → Prop} (ha : args.length ≤ 20) (hx : xs Try.prog 20 c72 (XPost Try.prog [(.tmp 4)] R) ⟨argsFr args 20, [], h, none⟩) : Ct Try.prog 72 args h R :=
  Ct_xs (show Try.prog.funcs[72]? = some Try.f72 by kernel_rfl) body_72 (by kernel_rfl) (by kernel_rfl) ha (by kernel_rfl) hx
/-! slices.Equal[[]int64,int64] -/
/-! trivet/trivetref01.Put -/
def c74 : Code :=
 .seq (rg [mo 4 (.assign (.const (.slice none 0 0)))])
 (.seq (rg [mo 5 (.assign (.const (.slice none 0 0)))])
 (.seq (rg [mo 7 (.move (T 5)),
   mo 8 (.move (T 0)),
   mo 9 (.call ⟨(.builtin .append), #[(T 7), (T 8)], #[22, 22]⟩),
   mo 5 (.assign (T 9))])
 (.seq (.seq (rg [mo 6 (.assign (.const (.int .i64 0)))])
  (.block 0 (.loop (.seq (.seq (rg [mo 10 (.move (T 6)),
       mo 11 (.move (T 1)),
       mo 12 (.call ⟨(.builtin .len), #[(T 11)], #[51]⟩),
       mo 13 (.binOp .lss 3 (T 10) (T 12) 3)])
     (.cond (T 13) (.skip)
     (.exit 0)))
    (.seq (.block 1 (rg [mo 16 (.move (T 5)),
       mo 17 (.move (T 1)),
       mo 18 (.move (T 6)),
       mo 19 (.indexAddr 51 (T 17) (T 18)),
       mo 20 (.load 2 (T 19)),
       mo 21 (.call ⟨(.value (.func 83)), #[(T 20)], #[2]⟩),
       mo 22 (.call ⟨(.builtin .append), #[(T 16), (T 21)], #[22, 22]⟩),
       mo 5 (.assign (T 22))]))
    (rg [mo 14 (.move (T 6)),
     mo 15 (.binOp .add 3 (T 14) (.const (.int .i64 1)) 3),
     mo 6 (.assign (T 15))]))))))
 (.seq (rg [mo 23 (.move (T 5)),
   mo 4 (.assign (T 23))])
 (.ret)))))
theorem body_74 : Try.f74.body.map strip = some c74 := by kernel_rfl
theorem go_74 {args : List Value} {h : DHeap} {R : DEnd → DHeap → Prop} (ha : args.length ≤ 24) (hx : xs Try.prog 24 c74 (XPost Try.prog [(.tmp 4)] R) ⟨argsFr args 24, [], h, none⟩) : Ct Try.prog 74 args h R :=
  Ct_xs (show Try.prog.funcs[74]? = some Try.f74 by kernel_rfl) body_74 (by kernel_rfl) (by kernel_rfl) ha (by kernel_rfl) hx
/-! trivet/trivetref11.mix -/
def c75 : Code :=
 .seq (rg [mo 2 (.assign (.const (.int .u64 0)))])
 (.seq (rg [mo 3 (.move (T 0)),
   mo 4 (.move (T 0)),
   mo 5 (.binOp .shl 36 (T 4) (.const (.int .u64 13)) 105),
   mo 6 (.binOp .xor 36 (T 3) (T 5) 36),
   mo 0 (.assign (T 6))])
 (.seq (rg [mo 7 (.move (T 0)),
   mo 8 (.move (T 0)),
   mo 9 (.binOp .shr 36 (T 8) (.const (.int .u64 7)) 105),
   mo 10 (.binOp .xor 36 (T 7) (T 9) 36),
   mo 0 (.assign (T 10))])
 (.seq (rg [mo 11 (.move (T 0)),
   mo 12 (.move (T 0)),
   mo 13 (.binOp .shl 36 (T 12) (.const (.int .u64 17)) 105),
   mo 14 (.binOp .xor 36 (T 11) (T 13) 36),
   mo 2 (.assign (T 14))])
 (.ret))))
theorem body_75 : Try.f75.body.map strip = some c75 := by kernel_rfl
theorem go_75 {args : List Value} {h : DHeap} {R : DEnd → DHeap → Prop} (ha : args.length ≤ 15) (hx : xs Try.prog 15 c75 (XPost Try.prog [(.tmp 2)] R) ⟨argsFr args 15, [], h, none⟩) : Ct Try.prog 75 args h R :=
  Ct_xs (show Try.prog.funcs[75]? = some Try.f75 by kernel_rfl) body_75 (by kernel_rfl) (by kernel_rfl) ha (by kernel_rfl) hx
/-! trivet/shape.try -/
def c76 : Code :=
 .seq (rg [mo 2 (.alloc 27)])
 (.seq (rg [mo 3 (.makeFunc (.func 84) #[] #[(T 2)]),
   mx (.defer ⟨(.value (T 3)), #[], #[]⟩)])
 (.seq (rg [mo 4 (.move (T 0)),
   mo 5 (.call ⟨(.value (T 4)), #[], #[]⟩)])
 (.seq (rg [mx (.store 27 (T 2) (.const (.int .i64 0)))])
 (.ret))))
theorem body_76 : Try.f76.body.map strip = some c76 := by kernel_rfl
theorem go_76 {args : List Value} {h : DHeap} {R : DEnd → DHeap → Prop} (ha : args.length ≤ 6) (hx : xs Try.prog 6 c76 (XPost Try.prog [(.cell 2 27)] R) ⟨argsFr args 6, [], h, none⟩) : Ct Try.prog 76 args h R :=
  Ct_xs (show Try.prog.funcs[76]? = some Try.f76 by kernel_rfl) body_76 (by kernel_rfl) (by kernel_rfl) ha (by kernel_rfl) hx
/-! trivet/shape.TakeNum$1 -/
def c77 : Code :=
 rg [mo 4 (.load 22 (T 0)),
  mo 5 (.call ⟨(.value (.func 78)), #[(T 4)], #[22]⟩),
  mo 3 (.move (T 5)),
  mo 6 (.extract (T 3) 0),
  mo 7 (.extract (T 3) 1),
  mx (.store 2 (T 1) (T 6)),
  mx (.store 3 (T 2) (T 7))]
theorem body_77 : Try.f77.body.map strip = some c77 := by kernel_rfl
theorem go_77 {args : List Value} {h : DHeap} {R : DEnd → DHeap → Prop} (ha : args.length ≤ 8) (hx : xs Try.prog 8 c77 (XPost Try.prog [] R) ⟨argsFr args 8, [], h, none⟩) : Ct Try.prog 77 args h R :=
  Ct_xs (show Try.prog.funcs[77]? = some Try.f77 by kernel_rfl) body_77 (by kernel_rfl) (by kernel_rfl) ha (by kernel_rfl) hx
/-! trivet/shape.take -/
def c78 : Code :=
 .seq (rg [mo 2 (.assign (.const (.int .i64 0))),
   mo 3 (.assign (.const (.int .i64 0)))])
 (.seq (rg [mo 8 (.move (T 0)),
   mo 9 (.call ⟨(.builtin .len), #[(T 8)], #[22]⟩),
   mo 10 (.binOp .eql 3 (T 9) (.const (.int .i64 0)) 3),
   mo 11 (.call ⟨(.value (.func 85)), #[(T 10), (.const (.int .i64 10))], #[4, 27]⟩)])
 (.seq (rg [mo 12 (.move (T 0)),
   mo 13 (.indexAddr 22 (T 12) (.const (.int .i64 0))),
   mo 14 (.load 5 (T 13)),
   mo 15 (.binOp .gtr 5 (T 14) (.const (.int .u8 17)) 5),
   mo 16 (.move (T 15)),
   mg 17 4 false (.move (T 0)),
   mg 18 4 false (.indexAddr 22 (T 17) (.const (.int .i64 0))),
   mg 19 4 false (.load 5 (T 18)),
   mg 20 4 false (.binOp .eql 5 (T 19) (.const (.int .u8 1)) 5),
   mo 21 (.pick (T 16) (.const (.bool true)) (T 20)),
   mo 22 (.call ⟨(.value (.func 85)), #[(T 21), (.const (.int .i64 11))], #[4, 27]⟩)])
 (.seq (rg [mo 23 (.move (T 0)),
   mo 24 (.indexAddr 22 (T 23) (.const (.int .i64 0))),
   mo 25 (.load 5 (T 24)),
   mo 26 (.binOp .quo 5 (T 25) (.const (.int .u8 2)) 5),
   mo 27 (.convert 5 3 (T 26)),
   mo 4 (.assign (T 27))])
 (.seq (rg [mo 28 (.move (T 0)),
   mo 29 (.call ⟨(.builtin .len), #[(T 28)], #[22]⟩),
   mo 30 (.move (T 4)),
   mo 31 (.binOp .leq 3 (T 29) (T 30) 3),
   mo 32 (.call ⟨(.value (.func 85)), #[(T 31), (.const (.int .i64 10))], #[4, 27]⟩)])
 (.seq (rg [mo 33 (.move (T 4)),
   mo 34 (.binOp .gtr 3 (T 33) (.const (.int .i64 0)) 3),
   mo 35 (.move (T 34)),
   mg 36 2 true (.move (T 0)),
   mg 37 2 true (.move (T 4)),
   mg 38 2 true (.indexAddr 22 (T 36) (T 37)),
   mg 39 2 true (.load 5 (T 38)),
   mg 40 2 true (.binOp .eql 5 (T 39) (.const (.int .u8 0)) 5),
   mo 41 (.pick (T 35) (T 40) (.const (.bool false))),
   mo 42 (.call ⟨(.value (.func 85)), #[(T 41), (.const (.int .i64 11))], #[4, 27]⟩)])
 (.seq (rg [mo 5 (.assign (.const (.int .u64 0)))])
 (.seq (.seq (rg [mo 43 (.move (T 4)),
    mo 6 (.assign (T 43))])
  (.block 0 (.loop (.seq (.seq (rg [mo 44 (.move (T 6)),
       mo 45 (.binOp .gtr 3 (T 44) (.const (.int .i64 0)) 3)])
     (.cond (T 45) (.skip)
     (.exit 0)))
    (.seq (.block 1 (rg [mo 48 (.move (T 5)),
       mo 49 (.binOp .shl 36 (T 48) (.const (.int .u64 8)) 105),
       mo 50 (.move (T 0)),
       mo 51 (.move (T 6)),
       mo 52 (.indexAddr 22 (T 50) (T 51)),
       mo 53 (.load 5 (T 52)),
       mo 54 (.convert 5 36 (T 53)),
       mo 55 (.binOp .or 36 (T 49) (T 54) 36),
       mo 5 (.assign (T 55))]))
    (rg [mo 46 (.move (T 6)),
     mo 47 (.binOp .sub 3 (T 46) (.const (.int .i64 1)) 3),
     mo 6 (.assign (T 47))]))))))
 (.seq (rg [mo 56 (.move (T 0)),
   mo 57 (.indexAddr 22 (T 56) (.const (.int .i64 0))),
   mo 58 (.load 5 (T 57)),
   mo 59 (.binOp .rem 5 (T 58) (.const (.int .u8 2)) 5),
   mo 60 (.binOp .eql 5 (T 59) (.const (.int .u8 1)) 5),
   mo 7 (.assign (T 60))])
 (.seq (rg [mo 61 (.move (T 5)),
   mo 62 (.binOp .gtr 36 (T 61) (.const (.int .u64 9223372036854775808)) 36),
   mo 63 (.move (T 62)),
   mg 64 2 false (.move (T 5)),
   mg 65 2 false (.binOp .eql 36 (T 64) (.const (.int .u64 9223372036854775808)) 36),
   mg 66 2 false (.move (T 65)),
   mg 67 5 true (.move (T 7)),
   mg 68 5 true (.unOp .not 4 (T 67)),
   mg 69 2 false (.pick (T 66) (T 68) (.const (.bool false))),
   mo 70 (.pick (T 63) (.const (.bool true)) (T 69)),
   mo 71 (.call ⟨(.value (.func 85)), #[(T 70), (.const (.int .i64 11))], #[4, 27]⟩)])
 (.seq (.seq (rg [mo 72 (.move (T 7))])
  (.cond (T 72) (rg [mo 73 (.move (T 5)),
    mo 74 (.unOp .neg 36 (T 73)),
    mo 5 (.assign (T 74))])
  (.skip)))
 (.seq (rg [mo 75 (.move (T 5)),
   mo 76 (.convert 36 2 (T 75)),
   mo 77 (.move (T 4)),
   mo 78 (.binOp .add 3 (T 77) (.const (.int .i64 1)) 3),
   mo 2 (.assign (T 76)),
   mo 3 (.assign (T 78))])
 (.ret))))))))))))
theorem body_78 : Try.f78.body.map strip = some c78 := by kernel_rfl
theorem go_78 {args : List Value} {h : DHeap} {R : DEnd → DHeap → Prop} (ha : args.length ≤ 79) (hx : xs Try.prog 79 c78 (XPost Try.prog [(.tmp 2), (.tmp 3)] R) ⟨argsFr args 79, [], h, none⟩) : Ct Try.prog 78 args h R :=
  Ct_xs (show Try.prog.funcs[78]? = some Try.f78 by kernel_rfl) body_78 (by kernel_rfl) (by kernel_rfl) ha (by kernel_rfl) hx
/-! slices.Clip[[]byte,byte] -/
def c79 : Code :=
 .seq (rg [mo 2 (.assign (.const (.slice none 0 0)))])
 (.seq (rg [mo 3 (.move (T 0)),
   mo 4 (.move (T 0)),
   mo 5 (.call ⟨(.builtin .len), #[(T 4)], #[22]⟩),
   mo 6 (.move (T 0)),
   mo 7 (.call ⟨(.builtin .len), #[(T 6)], #[22]⟩),
   mo 8 (.slice 22 (T 3) none (some (T 5)) (some (T 7))),
   mo 2 (.assign (T 8))])
 (.ret))
theorem body_79 : Try.f79.body.map strip = some c79 := by kernel_rfl
theorem go_79 {args : List Value} {h : DHeap} {R : DEnd → DHeap → Prop} (ha : args.length ≤ 9) (hx : xs Try.prog 9 c79 (XPost Try.prog [(.tmp 2)] R) ⟨argsFr args 9, [], h, none⟩) : Ct Try.prog 79 args h R :=
  Ct_xs (show Try.prog.funcs[79]? = some Try.f79 by kernel_rfl) body_79 (by kernel_rfl) (by kernel_rfl) ha (by kernel_rfl) hx
/-! trivet/shape.number -/
def c80 : Code :=
 .seq (rg [mo 2 (.assign (.const (.slice none 0 0)))])
 (.seq (rg [mo 6 (.move (T 0)),
   mo 7 (.convert 2 36 (T 6)),
   mo 3 (.assign (.const (.int .u8 0))),
   mo 4 (.assign (T 7))])
 (.seq (.seq (rg [mo 8 (.move (T 0)),
    mo 9 (.binOp .lss 2 (T 8) (.const (.int .i64 0)) 2)])
  (.cond (T 9) (rg [mo 10 (.move (T 4)),
    mo 11 (.unOp .neg 36 (T 10)),
    mo 3 (.assign (.const (.int .u8 1))),
    mo 4 (.assign (T 11))])
  (.skip)))
 (.seq (rg [mo 12 (.move (T 4)),
   mo 13 (.call ⟨(.value (.func 86)), #[(T 12)], #[36]⟩),
   mo 5 (.assign (T 13))])
 (.seq (rg [mo 14 (.move (T 5)),
   mo 15 (.call ⟨(.builtin .len), #[(T 14)], #[22]⟩),
   mo 16 (.convert 3 5 (T 15)),
   mo 17 (.binOp .mul 5 (.const (.int .u8 2)) (T 16) 5),
   mo 18 (.move (T 3)),
   mo 19 (.binOp .add 5 (T 17) (T 18) 5),
   mo 20 (.buildSlice 22 1 #[(0, (T 19))]),
   mo 21 (.move (T 5)),
   mo 22 (.call ⟨(.builtin .append), #[(T 20), (T 21)], #[22, 22]⟩),
   mo 2 (.assign (T 22))])
 (.ret)))))
theorem body_80 : Try.f80.body.map strip = some c80 := by kernel_rfl
theorem go_80 {args : List Value} {h : DHeap} {R : DEnd → DHeap → Prop} (ha : args.length ≤ 23) (hx : xs Try.prog 23 c80 (XPost Try.prog [(.tmp 2)] R) ⟨argsFr args 23, [], h, none⟩) : Ct Try.prog 80 args h R :=
  Ct_xs (show Try.prog.funcs[80]? = some Try.f80 by kernel_rfl) body_80 (by kernel_rfl) (by kernel_rfl) ha (by kernel_rfl) hx
/-! cmp.isNaN[int32] -/
def c81 : Code :=
 .seq (rg [mo 2 (.assign (.const (.bool false)))])
 (.seq (rg [mo 3 (.move (T 0)),
   mo 4 (.move (T 0)),
   mo 5 (.binOp .neq 21 (T 3) (T 4) 21),
   mo 2 (.assign (T 5))])
 (.ret))
theorem body_81 : Try.f81.body.map strip = some c81 := by kernel_rfl
theorem go_81 {args : List Value} {h : DHeap} {R : DEnd → DHeap → Prop} (ha : args.length ≤ 6) (hx : xs Try.prog 6 c81 (XPost Try.prog [(.tmp 2)] R) ⟨argsFr args 6, [], h, none⟩) : Ct Try.prog 81 args h R :=
  Ct_xs (show Try.prog.funcs[81]? = some Try.f81 by kernel_rfl) body_81 (by kernel_rfl) (by kernel_rfl) ha (by kernel_rfl) hx
/-! cmp.isNaN[int64] -/
def c82 : Code :=
 .seq (rg [mo 2 (.assign (.const (.bool false)))])
 (.seq (rg [mo 3 (.move (T 0)),
   mo 4 (.move (T 0)),
   mo 5 (.binOp .neq 2 (T 3) (T 4) 2),
   mo 2 (.assign (T 5))])
 (.ret))
theorem body_82 : Try.f82.body.map strip = some c82 := by kernel_rfl
theorem go_82 {args : List Value} {h : DHeap} {R : DEnd → DHeap → Prop} (ha : args.length ≤ 6) (hx : xs Try.prog 6 c82 (XPost Try.prog [(.tmp 2)] R) ⟨argsFr args 6, [], h, none⟩) : Ct Try.prog 82 args h R :=
  Ct_xs (show Try.prog.funcs[82]? = some Try.f82 by kernel_rfl) body_82 (by kernel_rfl) (by kernel_rfl) ha (by kernel_rfl) hx
/-! trivet/trivetref01.Num -/
def c83 : Code :=
 .seq (rg [mo 2 (.assign (.const (.slice none 0 0)))])
 (.seq (rg [mo 7 (.move (T 0)),
   mo 8 (.convert 2 36 (T 7)),
   mo 3 (.assign (T 8))])
 (.seq (rg [mo 4 (.assign (.const (.int .u8 0)))])
 (.seq (.seq (rg [mo 9 (.move (T 0)),
    mo 10 (.binOp .lss 2 (T 9) (.const (.int .i64 0)) 2)])
  (.cond (T 10) (.seq (rg [mo 11 (.move (T 0)),
     mo 12 (.binOp .add 2 (T 11) (.const (.int .i64 1)) 2),
     mo 13 (.unOp .neg 2 (T 12)),
     mo 14 (.convert 2 36 (T 13)),
     mo 15 (.binOp .add 36 (T 14) (.const (.int .u64 1)) 36),
     mo 3 (.assign (T 15))])
   (rg [mo 4 (.assign (.const (.int .u8 1)))]))
  (.skip)))
 (.seq (rg [mo 5 (.assign (.const (.slice none 0 0)))])
 (.seq (.block 0 (.loop (.seq (.seq (rg [mo 16 (.move (T 3)),
       mo 17 (.binOp .gtr 36 (T 16) (.const (.int .u64 0)) 36)])
     (.cond (T 17) (.skip)
     (.exit 0)))
    (.block 1 (.seq (rg [mo 18 (.move (T 5)),
       mo 19 (.move (T 3)),
       mo 20 (.binOp .rem 36 (T 19) (.const (.int .u64 256)) 36),
       mo 21 (.convert 36 5 (T 20)),
       mo 22 (.buildSlice 22 1 #[(0, (T 21))]),
       mo 23 (.call ⟨(.builtin .append), #[(T 18), (T 22)], #[22, 22]⟩),
       mo 5 (.assign (T 23))])
     (rg [mo 24 (.move (T 3)),
      mo 25 (.binOp .quo 36 (T 24) (.const (.int .u64 256)) 36),
      mo 3 (.assign (T 25))]))))))
 (.seq (rg [mo 26 (.move (T 5)),
   mo 27 (.call ⟨(.builtin .len), #[(T 26)], #[22]⟩),
   mo 28 (.binOp .mul 3 (.const (.int .i64 2)) (T 27) 3),
   mo 29 (.convert 3 5 (T 28)),
   mo 30 (.move (T 4)),
   mo 31 (.binOp .add 5 (T 29) (T 30) 5),
   mo 32 (.buildSlice 22 1 #[(0, (T 31))]),
   mo 6 (.assign (T 32))])
 (.seq (rg [mo 33 (.move (T 6)),
   mo 34 (.move (T 5)),
   mo 35 (.call ⟨(.builtin .append), #[(T 33), (T 34)], #[22, 22]⟩),
   mo 2 (.assign (T 35))])
 (.ret))))))))
theorem body_83 : Try.f83.body.map strip = some c83 := by kernel_rfl
theorem go_83 {args : List Value} {h : DHeap} {R : DEnd → DHeap → Prop} (ha : args.length ≤ 36) (hx : xs Try.prog 36 c83 (XPost Try.prog [(.tmp 2)] R) ⟨argsFr args 36, [], h, none⟩) : Ct Try.prog 83 args h R :=
  Ct_xs (show Try.prog.funcs[83]? = some Try.f83 by kernel_rfl) body_83 (by kernel_rfl) (by kernel_rfl) ha (by kernel_rfl) hx
/-! trivet/shape.try$1 -/
def c84 : Code :=
 .seq (rg [mo 4 (.call ⟨(.builtin .recover), #[], #[]⟩),
   mo 1 (.assign (T 4))])
 (.seq (rg [mo 5 (.move (T 1)),
   mo 6 (.binOp .neq 20 (T 5) (.const .nilIface) 20)])
 (.cond (T 6) (.seq (rg [mo 8 (.move (T 1)),
    mo 9 (.typeAssert (T 8) 20 118 true),
    mo 7 (.move (T 9)),
    mo 10 (.extract (T 7) 0),
    mo 11 (.extract (T 7) 1),
    mo 2 (.alloc 118),
    mx (.store 118 (T 2) (T 10)),
    mo 3 (.assign (T 11))])
  (.seq (.seq (rg [mo 12 (.move (T 3)),
     mo 13 (.unOp .not 4 (T 12))])
   (.cond (T 13) (rg [mo 14 (.move (T 1)),
     mx (.panic (T 14))])
   (.skip)))
  (rg [mo 15 (.fieldAddr 118 (T 2) 0),
   mo 16 (.load 27 (T 15)),
   mx (.store 27 (T 0) (T 16))])))
 (.skip)))
theorem body_84 : Try.f84.body.map strip = some c84 := by kernel_rfl
/-! trivet/shape.give -/
def c85 : Code :=
 .seq (rg [mo 4 (.move (T 0))])
 (.cond (T 4) (rg [mo 5 (.move (T 1)),
   mo 6 (.build 118 #[(0, (T 5))]),
   mo 7 (.makeInterface 118 (T 6)),
   mx (.panic (T 7))])
 (.skip))
theorem body_85 : Try.f85.body.map strip = some c85 := by kernel_rfl
theorem go_85 {args : List Value} {h : DHeap} {R : DEnd → DHeap → Prop} (ha : args.length ≤ 8) (hx : xs Try.prog 8 c85 (XPost Try.prog [] R) ⟨argsFr args 8, [], h, none⟩) : Ct Try.prog 85 args h R :=
  Ct_xs (show Try.prog.funcs[85]? = some Try.f85 by kernel_rfl) body_85 (by kernel_rfl) (by kernel_rfl) ha (by kernel_rfl) hx
/-! trivet/shape.low -/
def c86 : Code :=
 .seq (rg [mo 2 (.assign (.const (.slice none 0 0)))])
 (.seq (rg [mo 3 (.assign (.const (.slice none 0 0)))])
 (.seq (.block 0 (.loop (.seq (.seq (rg [mo 4 (.move (T 0)),
       mo 5 (.binOp .gtr 36 (T 4) (.const (.int .u64 0)) 36)])
     (.cond (T 5) (.skip)
     (.exit 0)))
    (.seq (.block 1 (rg [mo 8 (.move (T 3)),
       mo 9 (.move (T 0)),
       mo 10 (.convert 36 5 (T 9)),
       mo 11 (.buildSlice 22 1 #[(0, (T 10))]),
       mo 12 (.call ⟨(.builtin .append), #[(T 8), (T 11)], #[22, 22]⟩),
       mo 3 (.assign (T 12))]))
    (rg [mo 6 (.move (T 0)),
     mo 7 (.binOp .shr 36 (T 6) (.const (.int .u64 8)) 105),
     mo 0 (.assign (T 7))])))))
 (.seq (rg [mo 13 (.move (T 3)),
   mo 2 (.assign (T 13))])
 (.ret))))
theorem body_86 : Try.f86.body.map strip = some c86 := by kernel_rfl
theorem go_86 {args : List Value} {h : DHeap} {R : DEnd → DHeap → Prop} (ha : args.length ≤ 14) (hx : xs Try.prog 14 c86 (XPost Try.prog [(.tmp 2)] R) ⟨argsFr args 14, [], h, none⟩) : Ct Try.prog 86 args h R :=
  Ct_xs (show Try.prog.funcs[86]? = some Try.f86 by kernel_rfl) body_86 (by kernel_rfl) (by kernel_rfl) ha (by kernel_rfl) hx
end Go.Proofs.Ytlhgijpdhniddaa

namespace Go.Proofs.Ytlhgijpdhniddaa
open Go.D
set_option maxRecDepth 100000
/-! trivet/state.Build -/
def fa26_0 : Code :=
 .region 16 #[⟨(some 10), (.alloc 57), 0, "state.go:191", #[], none⟩,
  ⟨none, (.store 57 (T 10) (T 59)), 0, "state.go:191", #[⟨0, .data⟩, ⟨0, .phase⟩], none⟩] false
def fb26_0 : Code :=
 .block 3 (.seq (.seq (.region 17 #[⟨(some 60), (.load 3 (T 9)), 3, "state.go:192", #[], none⟩,
     ⟨(some 61), (.load 44 (T 1)), 44, "state.go:192", #[], none⟩,
     ⟨(some 62), (.call ⟨(.builtin .len), #[(T 61)], #[44]⟩), 3, "state.go:192", #[⟨1, .data⟩], none⟩,
     ⟨(some 63), (.binOp .geq 3 (T 60) (T 62) 3), 4, "state.go:192", #[⟨0, .data⟩, ⟨2, .data⟩], none⟩,
     ⟨(some 64), (.move (T 63)), 4, "state.go:192", #[⟨3, .data⟩], none⟩,
     ⟨(some 65), (.fieldAddr 57 (T 10) 0), 0, "state.go:192", #[⟨4, .guard⟩], (some (4, false))⟩,
     ⟨(some 66), (.load 2 (T 65)), 2, "state.go:192", #[⟨5, .data⟩, ⟨4, .guard⟩], (some (4, false))⟩,
     ⟨(some 67), (.load 44 (T 1)), 44, "state.go:192", #[⟨4, .guard⟩], (some (4, false))⟩,
     ⟨(some 68), (.load 3 (T 9)), 3, "state.go:192", #[⟨4, .guard⟩], (some (4, false))⟩,
     ⟨(some 69), (.indexAddr 44 (T 67) (T 68)), 0, "state.go:192", #[⟨7, .data⟩, ⟨8, .data⟩, ⟨4, .guard⟩], (some (4, false))⟩,
     ⟨(some 70), (.fieldAddr 57 (T 69) 0), 0, "state.go:192", #[⟨9, .data⟩, ⟨4, .guard⟩], (some (4, false))⟩,
     ⟨(some 71), (.load 2 (T 70)), 2, "state.go:192", #[⟨10, .data⟩, ⟨4, .guard⟩], (some (4, false))⟩,
     ⟨(some 72), (.binOp .neq 2 (T 66) (T 71) 2), 4, "state.go:192", #[⟨6, .data⟩, ⟨11, .data⟩, ⟨4, .guard⟩], (some (4, false))⟩,
     ⟨(some 73), (.pick (T 64) (.const (.bool true)) (T 72)), 4, "state.go:192", #[⟨4, .data⟩, ⟨12, .data⟩], none⟩,
     ⟨(some 74), (.move (T 73)), 4, "state.go:192", #[⟨13, .data⟩, ⟨4, .chain⟩], none⟩,
     ⟨(some 75), (.fieldAddr 57 (T 10) 3), 0, "state.go:192", #[⟨14, .guard⟩], (some (14, false))⟩,
     ⟨(some 76), (.load 22 (T 75)), 22, "state.go:192", #[⟨15, .data⟩, ⟨14, .guard⟩], (some (14, false))⟩,
     ⟨(some 77), (.load 44 (T 1)), 44, "state.go:192", #[⟨14, .guard⟩], (some (14, false))⟩,
     ⟨(some 78), (.load 3 (T 9)), 3, "state.go:192", #[⟨14, .guard⟩], (some (14, false))⟩,
     ⟨(some 79), (.indexAddr 44 (T 77) (T 78)), 0, "state.go:192", #[⟨17, .data⟩, ⟨18, .data⟩, ⟨14, .guard⟩], (some (14, false))⟩,
     ⟨(some 80), (.fieldAddr 57 (T 79) 3), 0, "state.go:192", #[⟨19, .data⟩, ⟨14, .guard⟩], (some (14, false))⟩,
     ⟨(some 81), (.load 22 (T 80)), 22, "state.go:192", #[⟨20, .data⟩, ⟨14, .guard⟩], (some (14, false))⟩,
     ⟨(some 82), (.call ⟨(.value (.func 60)), #[(T 76), (T 81)], #[22, 22]⟩), 4, "state.go:192", #[⟨16, .data⟩, ⟨21, .data⟩, ⟨14, .chain⟩, ⟨14, .guard⟩], (some (14, false))⟩,
     ⟨(some 83), (.unOp .not 4 (T 82)), 4, "state.go:192", #[⟨22, .data⟩, ⟨14, .guard⟩], (some (14, false))⟩,
     ⟨(some 84), (.pick (T 74) (.const (.bool true)) (T 83)), 4, "state.go:192", #[⟨14, .data⟩, ⟨23, .data⟩], none⟩] true)
   (.cond (T 84) (.seq (.region 18 #[⟨(some 85), (.build 26 #[]), 26, "state.go:193", #[], none⟩,
      ⟨none, (.store 26 (T 2) (T 85)), 0, "state.go:193", #[⟨0, .data⟩, ⟨0, .phase⟩], none⟩,
      ⟨none, (.store 27 (T 3) (.const (.int .i64 221))), 0, "state.go:193", #[⟨1, .chain⟩, ⟨0, .phase⟩, ⟨1, .phase⟩], none⟩] false)
    (.ret))
   (.skip)))
  (.region 19 #[⟨(some 86), (.load 3 (T 9)), 3, "state.go:195", #[], none⟩,
   ⟨(some 87), (.binOp .add 3 (T 86) (.const (.int .i64 1)) 3), 3, "state.go:195", #[⟨0, .data⟩], none⟩,
   ⟨none, (.store 3 (T 9) (T 87)), 0, "state.go:195", #[⟨1, .data⟩, ⟨0, .phase⟩, ⟨1, .phase⟩], none⟩] false))
/-! trivet/trivetref22.Build -/
/-! (*trivet/state.reader).int -/
def c28 : Code :=
 .seq (rg [mo 2 (.assign (.const (.int .i64 0)))])
 (.seq (.seq (rg [mo 6 (.move (T 0)),
    mo 7 (.nilCheck (T 6)),
    mo 8 (.fieldAddr 64 (T 7) 1),
    mo 9 (.load 27 (T 8)),
    mo 10 (.binOp .neq 27 (T 9) (.const (.int .i64 0)) 27)])
  (.cond (T 10) (.seq (rg [mo 2 (.assign (.const (.int .i64 0)))])
   (.ret))
  (.skip)))
 (.seq (rg [mo 12 (.move (T 0)),
   mo 13 (.nilCheck (T 12)),
   mo 14 (.fieldAddr 64 (T 13) 0),
   mo 15 (.load 22 (T 14)),
   mo 16 (.call ⟨(.value (.func 61)), #[(T 15)], #[22]⟩),
   mo 11 (.move (T 16)),
   mo 17 (.extract (T 11) 0),
   mo 18 (.extract (T 11) 1),
   mo 19 (.extract (T 11) 2),
   mo 3 (.assign (T 17)),
   mo 4 (.assign (T 18)),
   mo 5 (.assign (T 19))])
 (.seq (rg [mo 20 (.move (T 0)),
   mo 21 (.move (T 0)),
   mo 22 (.move (T 0)),
   mo 23 (.nilCheck (T 22)),
   mo 24 (.fieldAddr 64 (T 23) 0),
   mo 25 (.load 22 (T 24)),
   mo 26 (.move (T 4)),
   mo 27 (.slice 22 (T 25) (some (T 26)) none none),
   mo 28 (.move (T 5)),
   mo 29 (.nilCheck (T 20)),
   mo 30 (.fieldAddr 64 (T 29) 0),
   mx (.store 22 (T 30) (T 27)),
   mo 31 (.nilCheck (T 21)),
   mo 32 (.fieldAddr 64 (T 31) 1),
   mx (.store 27 (T 32) (T 28))])
 (.seq (rg [mo 33 (.move (T 3)),
   mo 2 (.assign (T 33))])
 (.ret)))))
theorem body_28 : Try.f28.body.map strip = some c28 := by kernel_rfl
theorem go_28 {args : List Value} {h : DHeap} {R : DEnd → DHeap → Prop} (ha : args.length ≤ 34) (hx : xs Try.prog 34 c28 (XPost Try.prog [(.tmp 2)] R) ⟨argsFr args 34, [], h, none⟩) : Ct Try.prog 28 args h R :=
  Ct_xs (show Try.prog.funcs[28]? = some Try.f28 by kernel_rfl) body_28 (by kernel_rfl) (by kernel_rfl) ha (by kernel_rfl) hx
/-! (*trivet/state.reader).many -/
def c29 : Code :=
 .seq (rg [mo 4 (.assign (.const (.int .i64 0)))])
 (.seq (rg [mo 6 (.move (T 0)),
   mo 7 (.call ⟨(.value (.func 28)), #[(T 6)], #[62]⟩),
   mo 5 (.assign (T 7))])
 (.seq (.seq (rg [mo 8 (.move (T 0)),
    mo 9 (.nilCheck (T 8)),
    mo 10 (.fieldAddr 64 (T 9) 1),
    mo 11 (.load 27 (T 10)),
    mo 12 (.binOp .eql 27 (T 11) (.const (.int .i64 0)) 27),
    mo 13 (.move (T 12)),
    mg 14 5 true (.move (T 5)),
    mg 15 5 true (.move (T 1)),
    mg 16 5 true (.call ⟨(.value (.func 43)), #[(T 14), (T 15)], #[2, 2]⟩),
    mg 17 5 true (.unOp .not 4 (T 16)),
    mo 18 (.pick (T 13) (T 17) (.const (.bool false)))])
  (.cond (T 18) (rg [mo 19 (.move (T 0)),
    mo 20 (.nilCheck (T 19)),
    mo 21 (.fieldAddr 64 (T 20) 1),
    mx (.store 27 (T 21) (.const (.int .i64 220)))])
  (.skip)))
 (.seq (.seq (rg [mo 22 (.move (T 0)),
    mo 23 (.nilCheck (T 22)),
    mo 24 (.fieldAddr 64 (T 23) 1),
    mo 25 (.load 27 (T 24)),
    mo 26 (.binOp .neq 27 (T 25) (.const (.int .i64 0)) 27)])
  (.cond (T 26) (.seq (rg [mo 4 (.assign (.const (.int .i64 0)))])
   (.ret))
  (.skip)))
 (.seq (rg [mo 27 (.move (T 5)),
   mo 4 (.assign (T 27))])
 (.ret)))))
theorem body_29 : Try.f29.body.map strip = some c29 := by kernel_rfl
theorem go_29 {args : List Value} {h : DHeap} {R : DEnd → DHeap → Prop} (ha : args.length ≤ 28) (hx : xs Try.prog 28 c29 (XPost Try.prog [(.tmp 4)] R) ⟨argsFr args 28, [], h, none⟩) : Ct Try.prog 29 args h R :=
  Ct_xs (show Try.prog.funcs[29]? = some Try.f29 by kernel_rfl) body_29 (by kernel_rfl) (by kernel_rfl) ha (by kernel_rfl) hx
/-! (*trivet/state.reader).cell -/
def c30 : Code :=
 .seq (rg [mo 2 (.alloc 50)])
 (.seq (rg [mo 5 (.move (T 0)),
   mo 6 (.call ⟨(.value (.func 28)), #[(T 5)], #[62]⟩),
   mo 3 (.assign (T 6))])
 (.seq (rg [mo 7 (.move (T 3)),
   mo 8 (.convert 2 21 (T 7)),
   mo 9 (.build 48 #[(0, (T 8))]),
   mo 10 (.build 50 #[(0, (T 9))]),
   mo 4 (.alloc 50),
   mx (.store 50 (T 4) (T 10))])
 (.seq (rg [mo 11 (.move (T 0)),
   mo 12 (.move (T 0)),
   mo 13 (.nilCheck (T 12)),
   mo 14 (.fieldAddr 64 (T 13) 2),
   mo 15 (.load 4 (T 14)),
   mo 16 (.move (T 15)),
   mg 17 5 false (.fieldAddr 50 (T 4) 0),
   mg 18 5 false (.fieldAddr 48 (T 17) 0),
   mg 19 5 false (.load 21 (T 18)),
   mg 20 5 false (.convert 21 2 (T 19)),
   mg 21 5 false (.move (T 3)),
   mg 22 5 false (.binOp .neq 2 (T 20) (T 21) 2),
   mo 23 (.pick (T 16) (.const (.bool true)) (T 22)),
   mo 24 (.nilCheck (T 11)),
   mo 25 (.fieldAddr 64 (T 24) 2),
   mx (.store 4 (T 25) (T 23))])
 (.seq (rg [mo 26 (.move (T 0)),
   mo 27 (.call ⟨(.value (.func 28)), #[(T 26)], #[62]⟩),
   mo 28 (.fieldAddr 50 (T 4) 0),
   mo 29 (.fieldAddr 48 (T 28) 1),
   mx (.store 2 (T 29) (T 27))])
 (.seq (rg [mo 30 (.move (T 0)),
   mo 31 (.call ⟨(.value (.func 28)), #[(T 30)], #[62]⟩),
   mo 32 (.fieldAddr 50 (T 4) 1),
   mx (.store 2 (T 32) (T 31))])
 (.seq (rg [mo 33 (.move (T 0)),
   mo 34 (.call ⟨(.value (.func 28)), #[(T 33)], #[62]⟩),
   mo 35 (.fieldAddr 50 (T 4) 2),
   mx (.store 2 (T 35) (T 34))])
 (.seq (rg [mo 36 (.load 50 (T 4)),
   mx (.store 50 (T 2) (T 36))])
 (.ret))))))))
theorem body_30 : Try.f30.body.map strip = some c30 := by kernel_rfl
theorem go_30 {args : List Value} {h : DHeap} {R : DEnd → DHeap → Prop} (ha : args.length ≤ 37) (hx : xs Try.prog 37 c30 (XPost Try.prog [(.cell 2 50)] R) ⟨argsFr args 37, [], h, none⟩) : Ct Try.prog 30 args h R :=
  Ct_xs (show Try.prog.funcs[30]? = some Try.f30 by kernel_rfl) body_30 (by kernel_rfl) (by kernel_rfl) ha (by kernel_rfl) hx
/-! (*trivet/state.reader).row -/
def o31_0 : Array Oper := #[⟨(some 18), (.fieldAddr 55 (T 3) 2), 0, "state.go:119", #[], none⟩,
 ⟨(some 19), (.fieldAddr 53 (T 18) 1), 0, "state.go:119", #[⟨0, .data⟩], none⟩,
 ⟨(some 20), (.load 51 (T 19)), 51, "state.go:119", #[⟨1, .data⟩], none⟩,
 ⟨(some 21), (.move (T 0)), 62, "state.go:119", #[], none⟩,
 ⟨(some 22), (.call ⟨(.value (.func 28)), #[(T 21)], #[62]⟩), 2, "state.go:119", #[⟨3, .data⟩], none⟩,
 ⟨(some 23), (.buildSlice 51 1 #[(0, (T 22))]), 51, "state.go:119", #[⟨4, .data⟩], none⟩,
 ⟨(some 24), (.call ⟨(.builtin .append), #[(T 20), (T 23)], #[51, 51]⟩), 51, "state.go:119", #[⟨2, .data⟩, ⟨5, .data⟩, ⟨4, .chain⟩], none⟩,
 ⟨(some 25), (.fieldAddr 55 (T 3) 2), 0, "state.go:119", #[⟨0, .phase⟩, ⟨1, .phase⟩, ⟨2, .phase⟩, ⟨3, .phase⟩, ⟨4, .phase⟩, ⟨5, .phase⟩, ⟨6, .phase⟩], none⟩,
 ⟨(some 26), (.fieldAddr 53 (T 25) 1), 0, "state.go:119", #[⟨7, .data⟩, ⟨0, .phase⟩, ⟨1, .phase⟩, ⟨2, .phase⟩, ⟨3, .phase⟩, ⟨4, .phase⟩, ⟨5, .phase⟩, ⟨6, .phase⟩], none⟩,
 ⟨none, (.store 51 (T 26) (T 24)), 0, "state.go:119", #[⟨8, .data⟩, ⟨6, .data⟩, ⟨6, .chain⟩, ⟨0, .phase⟩, ⟨1, .phase⟩, ⟨2, .phase⟩, ⟨3, .phase⟩, ⟨4, .phase⟩, ⟨5, .phase⟩, ⟨6, .phase⟩], none⟩]
def l31_0 : List Oper := [mo 18 (.fieldAddr 55 (T 3) 2),
 mo 19 (.fieldAddr 53 (T 18) 1),
 mo 20 (.load 51 (T 19)),
 mo 21 (.move (T 0)),
 mo 22 (.call ⟨(.value (.func 28)), #[(T 21)], #[62]⟩),
 mo 23 (.buildSlice 51 1 #[(0, (T 22))]),
 mo 24 (.call ⟨(.builtin .append), #[(T 20), (T 23)], #[51, 51]⟩),
 mo 25 (.fieldAddr 55 (T 3) 2),
 mo 26 (.fieldAddr 53 (T 25) 1),
 mx (.store 51 (T 26) (T 24))]
def r31_0 : Code := .region 6 o31_0 true
theorem xr_31_0 {Q : DExit → St → Prop} {s : St} : xs Try.prog 37 r31_0 Q s = NC Try.prog 37 r31_0 Q s := rfl
theorem dr_31_0 {Q : DExit → St → Prop} {s : St} (h : XDraw Try.prog l31_0.toArray (befs o31_0.toList []) [(2, 4), (2, 5)] s.fr Q l31_0 0 s []) : NC Try.prog 37 r31_0 Q s :=
  NC.draw (by kernel_rfl) (by kernel_rfl) (by kernel_rfl) rfl (by kernel_rfl) (by kernel_rfl) h
attribute [go_sem] xr_31_0
def c31 : Code :=
 .seq (rg [mo 2 (.alloc 55)])
 (.seq (rg [mo 4 (.move (T 0)),
   mo 5 (.call ⟨(.value (.func 28)), #[(T 4)], #[62]⟩),
   mo 6 (.build 55 #[(0, (T 5))]),
   mo 3 (.alloc 55),
   mx (.store 55 (T 3) (T 6))])
 (.seq (rg [mo 7 (.move (T 0)),
   mo 8 (.call ⟨(.value (.func 28)), #[(T 7)], #[62]⟩),
   mo 9 (.fieldAddr 55 (T 3) 1),
   mx (.store 2 (T 9) (T 8))])
 (.seq (rg [mo 10 (.move (T 0)),
   mo 11 (.call ⟨(.value (.func 28)), #[(T 10)], #[62]⟩),
   mo 12 (.fieldAddr 55 (T 3) 2),
   mo 13 (.fieldAddr 53 (T 12) 0),
   mx (.store 3 (T 13) (T 11))])
 (.seq (.seq (rg [mo 14 (.move (T 0)),
    mo 15 (.call ⟨(.value (.func 29)), #[(T 14), (.const (.int .i64 8))], #[62, 2]⟩),
    mo 16 (.move (.const (.int .i64 0)))])
  (.block 0 (.loop (.seq (rg [mo 17 (.binOp .lss 2 (T 16) (T 15) 2)])
    (.seq (.cond (T 17) (.skip)
     (.exit 0))
    (.seq (.block 1 (r31_0))
    (rg [mo 27 (.binOp .add 2 (T 16) (.const (.int .i64 1)) 2),
     mo 16 (.move (T 27))])))))))
 (.seq (rg [mo 28 (.move (T 0)),
   mo 29 (.call ⟨(.value (.func 28)), #[(T 28)], #[62]⟩),
   mo 30 (.fieldAddr 55 (T 3) 2),
   mo 31 (.fieldAddr 53 (T 30) 2),
   mx (.store 2 (T 31) (T 29))])
 (.seq (rg [mo 32 (.move (T 0)),
   mo 33 (.call ⟨(.value (.func 28)), #[(T 32)], #[62]⟩),
   mo 34 (.fieldAddr 55 (T 3) 2),
   mo 35 (.fieldAddr 53 (T 34) 3),
   mx (.store 3 (T 35) (T 33))])
 (.seq (rg [mo 36 (.load 55 (T 3)),
   mx (.store 55 (T 2) (T 36))])
 (.ret))))))))
theorem body_31 : Try.f31.body.map strip = some c31 := by kernel_rfl
theorem go_31 {args : List Value} {h : DHeap} {R : DEnd → DHeap → Prop} (ha : args.length ≤ 37) (hx : xs Try.prog 37 c31 (XPost Try.prog [(.cell 2 55)] R) ⟨argsFr args 37, [], h, none⟩) : Ct Try.prog 31 args h R :=
  Ct_xs (show Try.prog.funcs[31]? = some Try.f31 by kernel_rfl) body_31 (by kernel_rfl) (by kernel_rfl) ha (by kernel_rfl) hx
/-! (*trivet/trivetref04.Reader).Num -/
/-! trivet/trivetref22.length -/
/-! trivet/trivetref22.cell -/
/-! trivet/trivetref22.row -/
/-! (*trivet/trivetref04.Reader).End -/
end Go.Proofs.Ytlhgijpdhniddaa

namespace Go.Proofs.Ytlhgijpdhniddaa
open Go.D
theorem one_2 : tyOne Try.prog 2 = true := by kernel_rfl
theorem ld_2 {h : DHeap} {id o : Nat} : dLoad Try.prog 2 (.pointer (some ⟨id, o, none⟩)) h = cellAt h id o := dLoad_one one_2
theorem st_2 {h : DHeap} {id o : Nat} {v : Value} (hv : v.cells = #[v]) : dStore Try.prog 2 (.pointer (some ⟨id, o, none⟩)) v h = storeAt h id o [v] := dStore_one one_2 hv
theorem one_3 : tyOne Try.prog 3 = true := by kernel_rfl
theorem ld_3 {h : DHeap} {id o : Nat} : dLoad Try.prog 3 (.pointer (some ⟨id, o, none⟩)) h = cellAt h id o := dLoad_one one_3
theorem st_3 {h : DHeap} {id o : Nat} {v : Value} (hv : v.cells = #[v]) : dStore Try.prog 3 (.pointer (some ⟨id, o, none⟩)) v h = storeAt h id o [v] := dStore_one one_3 hv
theorem one_4 : tyOne Try.prog 4 = true := by kernel_rfl
theorem ld_4 {h : DHeap} {id o : Nat} : dLoad Try.prog 4 (.pointer (some ⟨id, o, none⟩)) h = cellAt h id o := dLoad_one one_4
theorem one_5 : tyOne Try.prog 5 = true := by kernel_rfl
theorem ld_5 {h : DHeap} {id o : Nat} : dLoad Try.prog 5 (.pointer (some ⟨id, o, none⟩)) h = cellAt h id o := dLoad_one one_5
theorem one_21 : tyOne Try.prog 21 = true := by kernel_rfl
theorem ld_21 {h : DHeap} {id o : Nat} : dLoad Try.prog 21 (.pointer (some ⟨id, o, none⟩)) h = cellAt h id o := dLoad_one one_21
theorem one_22 : tyOne Try.prog 22 = true := by kernel_rfl
theorem ld_22 {h : DHeap} {id o : Nat} : dLoad Try.prog 22 (.pointer (some ⟨id, o, none⟩)) h = cellAt h id o := dLoad_one one_22
theorem st_22 {h : DHeap} {id o : Nat} {v : Value} (hv : v.cells = #[v]) : dStore Try.prog 22 (.pointer (some ⟨id, o, none⟩)) v h = storeAt h id o [v] := dStore_one one_22 hv
theorem one_23 : tyOne Try.prog 23 = true := by kernel_rfl
theorem ld_23 {h : DHeap} {id o : Nat} : dLoad Try.prog 23 (.pointer (some ⟨id, o, none⟩)) h = cellAt h id o := dLoad_one one_23
theorem st_23 {h : DHeap} {id o : Nat} {v : Value} (hv : v.cells = #[v]) : dStore Try.prog 23 (.pointer (some ⟨id, o, none⟩)) v h = storeAt h id o [v] := dStore_one one_23 hv
theorem one_24 : tyOne Try.prog 24 = true := by kernel_rfl
theorem ld_24 {h : DHeap} {id o : Nat} : dLoad Try.prog 24 (.pointer (some ⟨id, o, none⟩)) h = cellAt h id o := dLoad_one one_24
theorem st_24 {h : DHeap} {id o : Nat} {v : Value} (hv : v.cells = #[v]) : dStore Try.prog 24 (.pointer (some ⟨id, o, none⟩)) v h = storeAt h id o [v] := dStore_one one_24 hv
theorem agg_26 : tyAgg Try.prog 26 = some 3 := by kernel_rfl
theorem ld_26 {h : DHeap} {id o : Nat} : dLoad Try.prog 26 (.pointer (some ⟨id, o, none⟩)) h = cellsAt h id o 3 := dLoad_agg agg_26
theorem st_26 {h : DHeap} {id o : Nat} {cs : Array Value} (hv : cs.size = 3) : dStore Try.prog 26 (.pointer (some ⟨id, o, none⟩)) (.agg cs) h = storeAt h id o cs.toList := dStore_agg agg_26 hv
theorem one_27 : tyOne Try.prog 27 = true := by kernel_rfl
theorem ld_27 {h : DHeap} {id o : Nat} : dLoad Try.prog 27 (.pointer (some ⟨id, o, none⟩)) h = cellAt h id o := dLoad_one one_27
theorem st_27 {h : DHeap} {id o : Nat} {v : Value} (hv : v.cells = #[v]) : dStore Try.prog 27 (.pointer (some ⟨id, o, none⟩)) v h = storeAt h id o [v] := dStore_one one_27 hv
theorem one_44 : tyOne Try.prog 44 = true := by kernel_rfl
theorem ld_44 {h : DHeap} {id o : Nat} : dLoad Try.prog 44 (.pointer (some ⟨id, o, none⟩)) h = cellAt h id o := dLoad_one one_44
theorem st_44 {h : DHeap} {id o : Nat} {v : Value} (hv : v.cells = #[v]) : dStore Try.prog 44 (.pointer (some ⟨id, o, none⟩)) v h = storeAt h id o [v] := dStore_one one_44 hv
theorem agg_48 : tyAgg Try.prog 48 = some 2 := by kernel_rfl
theorem ld_48 {h : DHeap} {id o : Nat} : dLoad Try.prog 48 (.pointer (some ⟨id, o, none⟩)) h = cellsAt h id o 2 := dLoad_agg agg_48
theorem agg_50 : tyAgg Try.prog 50 = some 4 := by kernel_rfl
theorem ld_50 {h : DHeap} {id o : Nat} : dLoad Try.prog 50 (.pointer (some ⟨id, o, none⟩)) h = cellsAt h id o 4 := dLoad_agg agg_50
theorem st_50 {h : DHeap} {id o : Nat} {cs : Array Value} (hv : cs.size = 4) : dStore Try.prog 50 (.pointer (some ⟨id, o, none⟩)) (.agg cs) h = storeAt h id o cs.toList := dStore_agg agg_50 hv
theorem one_51 : tyOne Try.prog 51 = true := by kernel_rfl
theorem ld_51 {h : DHeap} {id o : Nat} : dLoad Try.prog 51 (.pointer (some ⟨id, o, none⟩)) h = cellAt h id o := dLoad_one one_51
theorem st_51 {h : DHeap} {id o : Nat} {v : Value} (hv : v.cells = #[v]) : dStore Try.prog 51 (.pointer (some ⟨id, o, none⟩)) v h = storeAt h id o [v] := dStore_one one_51 hv
theorem agg_53 : tyAgg Try.prog 53 = some 4 := by kernel_rfl
theorem ld_53 {h : DHeap} {id o : Nat} : dLoad Try.prog 53 (.pointer (some ⟨id, o, none⟩)) h = cellsAt h id o 4 := dLoad_agg agg_53
theorem st_53 {h : DHeap} {id o : Nat} {cs : Array Value} (hv : cs.size = 4) : dStore Try.prog 53 (.pointer (some ⟨id, o, none⟩)) (.agg cs) h = storeAt h id o cs.toList := dStore_agg agg_53 hv
theorem agg_55 : tyAgg Try.prog 55 = some 6 := by kernel_rfl
theorem ld_55 {h : DHeap} {id o : Nat} : dLoad Try.prog 55 (.pointer (some ⟨id, o, none⟩)) h = cellsAt h id o 6 := dLoad_agg agg_55
theorem st_55 {h : DHeap} {id o : Nat} {cs : Array Value} (hv : cs.size = 6) : dStore Try.prog 55 (.pointer (some ⟨id, o, none⟩)) (.agg cs) h = storeAt h id o cs.toList := dStore_agg agg_55 hv
theorem agg_57 : tyAgg Try.prog 57 = some 4 := by kernel_rfl
theorem ld_57 {h : DHeap} {id o : Nat} : dLoad Try.prog 57 (.pointer (some ⟨id, o, none⟩)) h = cellsAt h id o 4 := dLoad_agg agg_57
theorem st_57 {h : DHeap} {id o : Nat} {cs : Array Value} (hv : cs.size = 4) : dStore Try.prog 57 (.pointer (some ⟨id, o, none⟩)) (.agg cs) h = storeAt h id o cs.toList := dStore_agg agg_57 hv
theorem agg_118 : tyAgg Try.prog 118 = some 1 := by kernel_rfl
theorem st_118 {h : DHeap} {id o : Nat} {cs : Array Value} (hv : cs.size = 1) : dStore Try.prog 118 (.pointer (some ⟨id, o, none⟩)) (.agg cs) h = storeAt h id o cs.toList := dStore_agg agg_118 hv
theorem fa_26_0 {id o : Nat} : dFieldAddr Try.prog 26 (.pointer (some ⟨id, o, none⟩)) 0 = some (.pointer (some ⟨id, o + 0, none⟩)) := dFieldAddr_at (show fieldOff Try.prog 26 0 = some 0 by kernel_rfl)
theorem fa_26_1 {id o : Nat} : dFieldAddr Try.prog 26 (.pointer (some ⟨id, o, none⟩)) 1 = some (.pointer (some ⟨id, o + 1, none⟩)) := dFieldAddr_at (show fieldOff Try.prog 26 1 = some 1 by kernel_rfl)
theorem fa_26_2 {id o : Nat} : dFieldAddr Try.prog 26 (.pointer (some ⟨id, o, none⟩)) 2 = some (.pointer (some ⟨id, o + 2, none⟩)) := dFieldAddr_at (show fieldOff Try.prog 26 2 = some 2 by kernel_rfl)
theorem fa_48_0 {id o : Nat} : dFieldAddr Try.prog 48 (.pointer (some ⟨id, o, none⟩)) 0 = some (.pointer (some ⟨id, o + 0, none⟩)) := dFieldAddr_at (show fieldOff Try.prog 48 0 = some 0 by kernel_rfl)
theorem fa_48_1 {id o : Nat} : dFieldAddr Try.prog 48 (.pointer (some ⟨id, o, none⟩)) 1 = some (.pointer (some ⟨id, o + 1, none⟩)) := dFieldAddr_at (show fieldOff Try.prog 48 1 = some 1 by kernel_rfl)
theorem fa_50_0 {id o : Nat} : dFieldAddr Try.prog 50 (.pointer (some ⟨id, o, none⟩)) 0 = some (.pointer (some ⟨id, o + 0, none⟩)) := dFieldAddr_at (show fieldOff Try.prog 50 0 = some 0 by kernel_rfl)
theorem fa_50_1 {id o : Nat} : dFieldAddr Try.prog 50 (.pointer (some ⟨id, o, none⟩)) 1 = some (.pointer (some ⟨id, o + 2, none⟩)) := dFieldAddr_at (show fieldOff Try.prog 50 1 = some 2 by kernel_rfl)
theorem fa_50_2 {id o : Nat} : dFieldAddr Try.prog 50 (.pointer (some ⟨id, o, none⟩)) 2 = some (.pointer (some ⟨id, o + 3, none⟩)) := dFieldAddr_at (show fieldOff Try.prog 50 2 = some 3 by kernel_rfl)
theorem fa_53_0 {id o : Nat} : dFieldAddr Try.prog 53 (.pointer (some ⟨id, o, none⟩)) 0 = some (.pointer (some ⟨id, o + 0, none⟩)) := dFieldAddr_at (show fieldOff Try.prog 53 0 = some 0 by kernel_rfl)
theorem fa_53_1 {id o : Nat} : dFieldAddr Try.prog 53 (.pointer (some ⟨id, o, none⟩)) 1 = some (.pointer (some ⟨id, o + 1, none⟩)) := dFieldAddr_at (show fieldOff Try.prog 53 1 = some 1 by kernel_rfl)
theorem fa_53_2 {id o : Nat} : dFieldAddr Try.prog 53 (.pointer (some ⟨id, o, none⟩)) 2 = some (.pointer (some ⟨id, o + 2, none⟩)) := dFieldAddr_at (show fieldOff Try.prog 53 2 = some 2 by kernel_rfl)
theorem fa_53_3 {id o : Nat} : dFieldAddr Try.prog 53 (.pointer (some ⟨id, o, none⟩)) 3 = some (.pointer (some ⟨id, o + 3, none⟩)) := dFieldAddr_at (show fieldOff Try.prog 53 3 = some 3 by kernel_rfl)
theorem fa_55_0 {id o : Nat} : dFieldAddr Try.prog 55 (.pointer (some ⟨id, o, none⟩)) 0 = some (.pointer (some ⟨id, o + 0, none⟩)) := dFieldAddr_at (show fieldOff Try.prog 55 0 = some 0 by kernel_rfl)
theorem fa_55_1 {id o : Nat} : dFieldAddr Try.prog 55 (.pointer (some ⟨id, o, none⟩)) 1 = some (.pointer (some ⟨id, o + 1, none⟩)) := dFieldAddr_at (show fieldOff Try.prog 55 1 = some 1 by kernel_rfl)
theorem fa_55_2 {id o : Nat} : dFieldAddr Try.prog 55 (.pointer (some ⟨id, o, none⟩)) 2 = some (.pointer (some ⟨id, o + 2, none⟩)) := dFieldAddr_at (show fieldOff Try.prog 55 2 = some 2 by kernel_rfl)
theorem fa_57_3 {id o : Nat} : dFieldAddr Try.prog 57 (.pointer (some ⟨id, o, none⟩)) 3 = some (.pointer (some ⟨id, o + 3, none⟩)) := dFieldAddr_at (show fieldOff Try.prog 57 3 = some 3 by kernel_rfl)
theorem fa_64_0 {id o : Nat} : dFieldAddr Try.prog 64 (.pointer (some ⟨id, o, none⟩)) 0 = some (.pointer (some ⟨id, o + 0, none⟩)) := dFieldAddr_at (show fieldOff Try.prog 64 0 = some 0 by kernel_rfl)
theorem fa_64_1 {id o : Nat} : dFieldAddr Try.prog 64 (.pointer (some ⟨id, o, none⟩)) 1 = some (.pointer (some ⟨id, o + 1, none⟩)) := dFieldAddr_at (show fieldOff Try.prog 64 1 = some 1 by kernel_rfl)
theorem fa_64_2 {id o : Nat} : dFieldAddr Try.prog 64 (.pointer (some ⟨id, o, none⟩)) 2 = some (.pointer (some ⟨id, o + 2, none⟩)) := dFieldAddr_at (show fieldOff Try.prog 64 2 = some 2 by kernel_rfl)
theorem fa_80_0 {id o : Nat} : dFieldAddr Try.prog 80 (.pointer (some ⟨id, o, none⟩)) 0 = some (.pointer (some ⟨id, o + 0, none⟩)) := dFieldAddr_at (show fieldOff Try.prog 80 0 = some 0 by kernel_rfl)
theorem fa_118_0 {id o : Nat} : dFieldAddr Try.prog 118 (.pointer (some ⟨id, o, none⟩)) 0 = some (.pointer (some ⟨id, o + 0, none⟩)) := dFieldAddr_at (show fieldOff Try.prog 118 0 = some 0 by kernel_rfl)
theorem el_22 : slElem Try.prog 22 = some 1 := by kernel_rfl
theorem ia_22 {id o len cap : Nat} {k : IntKind} {i : Int} (h2 : 0 ≤ i) (h3 : i < (len : Int)) : dIndexAddr Try.prog 22 (.slice (some ⟨id, o, none⟩) len cap) (.int k i) = some (.pointer (some ⟨id, o + i.toNat * 1, none⟩)) := dIndexAddr_at el_22 h2 h3
theorem el_23 : slElem Try.prog 23 = some 4 := by kernel_rfl
theorem ia_23 {id o len cap : Nat} {k : IntKind} {i : Int} (h2 : 0 ≤ i) (h3 : i < (len : Int)) : dIndexAddr Try.prog 23 (.slice (some ⟨id, o, none⟩) len cap) (.int k i) = some (.pointer (some ⟨id, o + i.toNat * 4, none⟩)) := dIndexAddr_at el_23 h2 h3
theorem el_24 : slElem Try.prog 24 = some 6 := by kernel_rfl
theorem ia_24 {id o len cap : Nat} {k : IntKind} {i : Int} (h2 : 0 ≤ i) (h3 : i < (len : Int)) : dIndexAddr Try.prog 24 (.slice (some ⟨id, o, none⟩) len cap) (.int k i) = some (.pointer (some ⟨id, o + i.toNat * 6, none⟩)) := dIndexAddr_at el_24 h2 h3
theorem el_44 : slElem Try.prog 44 = some 4 := by kernel_rfl
theorem el_51 : slElem Try.prog 51 = some 1 := by kernel_rfl
theorem ia_51 {id o len cap : Nat} {k : IntKind} {i : Int} (h2 : 0 ≤ i) (h3 : i < (len : Int)) : dIndexAddr Try.prog 51 (.slice (some ⟨id, o, none⟩) len cap) (.int k i) = some (.pointer (some ⟨id, o + i.toNat * 1, none⟩)) := dIndexAddr_at el_51 h2 h3
theorem el_115 : slElem Try.prog 115 = some 1 := by kernel_rfl
theorem cv_2_21 {h : DHeap} {k : IntKind} {n : Int} : dConvertO Try.prog 2 21 h (some (.int k n)) = .ok (.value (.int .i32 (IntKind.i32.wrap n))) h := dConvertO_int (show Try.prog.underlying 2 = some (.int .i64) by kernel_rfl) (show Try.prog.underlying 21 = some (.int .i32) by kernel_rfl)
theorem cv_2_36 {h : DHeap} {k : IntKind} {n : Int} : dConvertO Try.prog 2 36 h (some (.int k n)) = .ok (.value (.int .u64 (IntKind.u64.wrap n))) h := dConvertO_int (show Try.prog.underlying 2 = some (.int .i64) by kernel_rfl) (show Try.prog.underlying 36 = some (.int .u64) by kernel_rfl)
theorem cv_3_5 {h : DHeap} {k : IntKind} {n : Int} : dConvertO Try.prog 3 5 h (some (.int k n)) = .ok (.value (.int .u8 (IntKind.u8.wrap n))) h := dConvertO_int (show Try.prog.underlying 3 = some (.int .i64) by kernel_rfl) (show Try.prog.underlying 5 = some (.int .u8) by kernel_rfl)
theorem cv_5_3 {h : DHeap} {k : IntKind} {n : Int} : dConvertO Try.prog 5 3 h (some (.int k n)) = .ok (.value (.int .i64 (IntKind.i64.wrap n))) h := dConvertO_int (show Try.prog.underlying 5 = some (.int .u8) by kernel_rfl) (show Try.prog.underlying 3 = some (.int .i64) by kernel_rfl)
theorem cv_5_21 {h : DHeap} {k : IntKind} {n : Int} : dConvertO Try.prog 5 21 h (some (.int k n)) = .ok (.value (.int .i32 (IntKind.i32.wrap n))) h := dConvertO_int (show Try.prog.underlying 5 = some (.int .u8) by kernel_rfl) (show Try.prog.underlying 21 = some (.int .i32) by kernel_rfl)
theorem cv_5_36 {h : DHeap} {k : IntKind} {n : Int} : dConvertO Try.prog 5 36 h (some (.int k n)) = .ok (.value (.int .u64 (IntKind.u64.wrap n))) h := dConvertO_int (show Try.prog.underlying 5 = some (.int .u8) by kernel_rfl) (show Try.prog.underlying 36 = some (.int .u64) by kernel_rfl)
theorem cv_21_2 {h : DHeap} {k : IntKind} {n : Int} : dConvertO Try.prog 21 2 h (some (.int k n)) = .ok (.value (.int .i64 (IntKind.i64.wrap n))) h := dConvertO_int (show Try.prog.underlying 21 = some (.int .i32) by kernel_rfl) (show Try.prog.underlying 2 = some (.int .i64) by kernel_rfl)
theorem cv_21_103 {h : DHeap} {k : IntKind} {n : Int} : dConvertO Try.prog 21 103 h (some (.int k n)) = .ok (.value (.int .u32 (IntKind.u32.wrap n))) h := dConvertO_int (show Try.prog.underlying 21 = some (.int .i32) by kernel_rfl) (show Try.prog.underlying 103 = some (.int .u32) by kernel_rfl)
theorem cv_36_2 {h : DHeap} {k : IntKind} {n : Int} : dConvertO Try.prog 36 2 h (some (.int k n)) = .ok (.value (.int .i64 (IntKind.i64.wrap n))) h := dConvertO_int (show Try.prog.underlying 36 = some (.int .u64) by kernel_rfl) (show Try.prog.underlying 2 = some (.int .i64) by kernel_rfl)
theorem cv_36_5 {h : DHeap} {k : IntKind} {n : Int} : dConvertO Try.prog 36 5 h (some (.int k n)) = .ok (.value (.int .u8 (IntKind.u8.wrap n))) h := dConvertO_int (show Try.prog.underlying 36 = some (.int .u64) by kernel_rfl) (show Try.prog.underlying 5 = some (.int .u8) by kernel_rfl)
theorem cv_103_36 {h : DHeap} {k : IntKind} {n : Int} : dConvertO Try.prog 103 36 h (some (.int k n)) = .ok (.value (.int .u64 (IntKind.u64.wrap n))) h := dConvertO_int (show Try.prog.underlying 103 = some (.int .u32) by kernel_rfl) (show Try.prog.underlying 36 = some (.int .u64) by kernel_rfl)
theorem mi_118 {h : DHeap} {v : Value} : dMkIface Try.prog 118 h (some v) = .ok (.value (.iface 118 v)) h := dMkIface_some (by kernel_rfl)
theorem ta_118 {h : DHeap} {v : Value} {ok : Bool} : dTypeAssertO Try.prog 118 ok h (some (.iface 118 v)) = .ok (.value (if ok then .tuple #[v, .bool true] else v)) h := dTypeAssertO_same (by kernel_rfl) ok
theorem ca_10 {h : DHeap} {first cap : Array Value} {vs : List Value} : dCallO Try.prog h (some (.func (.func 10) first cap)) (some vs) = .ok (.enter 10 (first.toList ++ vs ++ cap.toList)) h := dCallO_func (by kernel_rfl) _ _ _
theorem ca_12 {h : DHeap} {first cap : Array Value} {vs : List Value} : dCallO Try.prog h (some (.func (.func 12) first cap)) (some vs) = .ok (.enter 12 (first.toList ++ vs ++ cap.toList)) h := dCallO_func (by kernel_rfl) _ _ _
theorem ca_14 {h : DHeap} {first cap : Array Value} {vs : List Value} : dCallO Try.prog h (some (.func (.func 14) first cap)) (some vs) = .ok (.enter 14 (first.toList ++ vs ++ cap.toList)) h := dCallO_func (by kernel_rfl) _ _ _
theorem ca_15 {h : DHeap} {first cap : Array Value} {vs : List Value} : dCallO Try.prog h (some (.func (.func 15) first cap)) (some vs) = .ok (.enter 15 (first.toList ++ vs ++ cap.toList)) h := dCallO_func (by kernel_rfl) _ _ _
theorem ca_16 {h : DHeap} {first cap : Array Value} {vs : List Value} : dCallO Try.prog h (some (.func (.func 16) first cap)) (some vs) = .ok (.enter 16 (first.toList ++ vs ++ cap.toList)) h := dCallO_func (by kernel_rfl) _ _ _
theorem ca_17 {h : DHeap} {first cap : Array Value} {vs : List Value} : dCallO Try.prog h (some (.func (.func 17) first cap)) (some vs) = .ok (.enter 17 (first.toList ++ vs ++ cap.toList)) h := dCallO_func (by kernel_rfl) _ _ _
theorem ca_19 {h : DHeap} {first cap : Array Value} {vs : List Value} : dCallO Try.prog h (some (.func (.func 19) first cap)) (some vs) = .ok (.enter 19 (first.toList ++ vs ++ cap.toList)) h := dCallO_func (by kernel_rfl) _ _ _
theorem ca_20 {h : DHeap} {first cap : Array Value} {vs : List Value} : dCallO Try.prog h (some (.func (.func 20) first cap)) (some vs) = .ok (.enter 20 (first.toList ++ vs ++ cap.toList)) h := dCallO_func (by kernel_rfl) _ _ _
theorem ca_21 {h : DHeap} {first cap : Array Value} {vs : List Value} : dCallO Try.prog h (some (.func (.func 21) first cap)) (some vs) = .ok (.enter 21 (first.toList ++ vs ++ cap.toList)) h := dCallO_func (by kernel_rfl) _ _ _
theorem ca_23 {h : DHeap} {first cap : Array Value} {vs : List Value} : dCallO Try.prog h (some (.func (.func 23) first cap)) (some vs) = .ok (.enter 23 (first.toList ++ vs ++ cap.toList)) h := dCallO_func (by kernel_rfl) _ _ _
theorem ca_25 {h : DHeap} {first cap : Array Value} {vs : List Value} : dCallO Try.prog h (some (.func (.func 25) first cap)) (some vs) = .ok (.enter 25 (first.toList ++ vs ++ cap.toList)) h := dCallO_func (by kernel_rfl) _ _ _
theorem ca_28 {h : DHeap} {first cap : Array Value} {vs : List Value} : dCallO Try.prog h (some (.func (.func 28) first cap)) (some vs) = .ok (.enter 28 (first.toList ++ vs ++ cap.toList)) h := dCallO_func (by kernel_rfl) _ _ _
theorem ca_29 {h : DHeap} {first cap : Array Value} {vs : List Value} : dCallO Try.prog h (some (.func (.func 29) first cap)) (some vs) = .ok (.enter 29 (first.toList ++ vs ++ cap.toList)) h := dCallO_func (by kernel_rfl) _ _ _
theorem ca_30 {h : DHeap} {first cap : Array Value} {vs : List Value} : dCallO Try.prog h (some (.func (.func 30) first cap)) (some vs) = .ok (.enter 30 (first.toList ++ vs ++ cap.toList)) h := dCallO_func (by kernel_rfl) _ _ _
theorem ca_31 {h : DHeap} {first cap : Array Value} {vs : List Value} : dCallO Try.prog h (some (.func (.func 31) first cap)) (some vs) = .ok (.enter 31 (first.toList ++ vs ++ cap.toList)) h := dCallO_func (by kernel_rfl) _ _ _
theorem ca_37 {h : DHeap} {first cap : Array Value} {vs : List Value} : dCallO Try.prog h (some (.func (.func 37) first cap)) (some vs) = .ok (.enter 37 (first.toList ++ vs ++ cap.toList)) h := dCallO_func (by kernel_rfl) _ _ _
theorem ca_41 {h : DHeap} {first cap : Array Value} {vs : List Value} : dCallO Try.prog h (some (.func (.func 41) first cap)) (some vs) = .ok (.enter 41 (first.toList ++ vs ++ cap.toList)) h := dCallO_func (by kernel_rfl) _ _ _
theorem ca_42 {h : DHeap} {first cap : Array Value} {vs : List Value} : dCallO Try.prog h (some (.func (.func 42) first cap)) (some vs) = .ok (.enter 42 (first.toList ++ vs ++ cap.toList)) h := dCallO_func (by kernel_rfl) _ _ _
theorem ca_43 {h : DHeap} {first cap : Array Value} {vs : List Value} : dCallO Try.prog h (some (.func (.func 43) first cap)) (some vs) = .ok (.enter 43 (first.toList ++ vs ++ cap.toList)) h := dCallO_func (by kernel_rfl) _ _ _
theorem ca_44 {h : DHeap} {first cap : Array Value} {vs : List Value} : dCallO Try.prog h (some (.func (.func 44) first cap)) (some vs) = .ok (.enter 44 (first.toList ++ vs ++ cap.toList)) h := dCallO_func (by kernel_rfl) _ _ _
theorem ca_45 {h : DHeap} {first cap : Array Value} {vs : List Value} : dCallO Try.prog h (some (.func (.func 45) first cap)) (some vs) = .ok (.enter 45 (first.toList ++ vs ++ cap.toList)) h := dCallO_func (by kernel_rfl) _ _ _
theorem ca_46 {h : DHeap} {first cap : Array Value} {vs : List Value} : dCallO Try.prog h (some (.func (.func 46) first cap)) (some vs) = .ok (.enter 46 (first.toList ++ vs ++ cap.toList)) h := dCallO_func (by kernel_rfl) _ _ _
theorem ca_47 {h : DHeap} {first cap : Array Value} {vs : List Value} : dCallO Try.prog h (some (.func (.func 47) first cap)) (some vs) = .ok (.enter 47 (first.toList ++ vs ++ cap.toList)) h := dCallO_func (by kernel_rfl) _ _ _
theorem ca_48 {h : DHeap} {first cap : Array Value} {vs : List Value} : dCallO Try.prog h (some (.func (.func 48) first cap)) (some vs) = .ok (.enter 48 (first.toList ++ vs ++ cap.toList)) h := dCallO_func (by kernel_rfl) _ _ _
theorem ca_49 {h : DHeap} {first cap : Array Value} {vs : List Value} : dCallO Try.prog h (some (.func (.func 49) first cap)) (some vs) = .ok (.enter 49 (first.toList ++ vs ++ cap.toList)) h := dCallO_func (by kernel_rfl) _ _ _
theorem ca_50 {h : DHeap} {first cap : Array Value} {vs : List Value} : dCallO Try.prog h (some (.func (.func 50) first cap)) (some vs) = .ok (.enter 50 (first.toList ++ vs ++ cap.toList)) h := dCallO_func (by kernel_rfl) _ _ _
theorem ca_52 {h : DHeap} {first cap : Array Value} {vs : List Value} : dCallO Try.prog h (some (.func (.func 52) first cap)) (some vs) = .ok (.enter 52 (first.toList ++ vs ++ cap.toList)) h := dCallO_func (by kernel_rfl) _ _ _
theorem ca_53 {h : DHeap} {first cap : Array Value} {vs : List Value} : dCallO Try.prog h (some (.func (.func 53) first cap)) (some vs) = .ok (.enter 53 (first.toList ++ vs ++ cap.toList)) h := dCallO_func (by kernel_rfl) _ _ _
theorem ca_54 {h : DHeap} {first cap : Array Value} {vs : List Value} : dCallO Try.prog h (some (.func (.func 54) first cap)) (some vs) = .ok (.enter 54 (first.toList ++ vs ++ cap.toList)) h := dCallO_func (by kernel_rfl) _ _ _
theorem ca_56 {h : DHeap} {first cap : Array Value} {vs : List Value} : dCallO Try.prog h (some (.func (.func 56) first cap)) (some vs) = .ok (.enter 56 (first.toList ++ vs ++ cap.toList)) h := dCallO_func (by kernel_rfl) _ _ _
theorem ca_58 {h : DHeap} {first cap : Array Value} {vs : List Value} : dCallO Try.prog h (some (.func (.func 58) first cap)) (some vs) = .ok (.enter 58 (first.toList ++ vs ++ cap.toList)) h := dCallO_func (by kernel_rfl) _ _ _
theorem ca_59 {h : DHeap} {first cap : Array Value} {vs : List Value} : dCallO Try.prog h (some (.func (.func 59) first cap)) (some vs) = .ok (.enter 59 (first.toList ++ vs ++ cap.toList)) h := dCallO_func (by kernel_rfl) _ _ _
theorem ca_61 {h : DHeap} {first cap : Array Value} {vs : List Value} : dCallO Try.prog h (some (.func (.func 61) first cap)) (some vs) = .ok (.enter 61 (first.toList ++ vs ++ cap.toList)) h := dCallO_func (by kernel_rfl) _ _ _
theorem ca_64 {h : DHeap} {first cap : Array Value} {vs : List Value} : dCallO Try.prog h (some (.func (.func 64) first cap)) (some vs) = .ok (.enter 64 (first.toList ++ vs ++ cap.toList)) h := dCallO_func (by kernel_rfl) _ _ _
theorem ca_65 {h : DHeap} {first cap : Array Value} {vs : List Value} : dCallO Try.prog h (some (.func (.func 65) first cap)) (some vs) = .ok (.enter 65 (first.toList ++ vs ++ cap.toList)) h := dCallO_func (by kernel_rfl) _ _ _
theorem ca_66 {h : DHeap} {first cap : Array Value} {vs : List Value} : dCallO Try.prog h (some (.func (.func 66) first cap)) (some vs) = .ok (.enter 66 (first.toList ++ vs ++ cap.toList)) h := dCallO_func (by kernel_rfl) _ _ _
theorem ca_68 {h : DHeap} {first cap : Array Value} {vs : List Value} : dCallO Try.prog h (some (.func (.func 68) first cap)) (some vs) = .ok (.enter 68 (first.toList ++ vs ++ cap.toList)) h := dCallO_func (by kernel_rfl) _ _ _
theorem ca_69 {h : DHeap} {first cap : Array Value} {vs : List Value} : dCallO Try.prog h (some (.func (.func 69) first cap)) (some vs) = .ok (.enter 69 (first.toList ++ vs ++ cap.toList)) h := dCallO_func (by kernel_rfl) _ _ _
theorem ca_70 {h : DHeap} {first cap : Array Value} {vs : List Value} : dCallO Try.prog h (some (.func (.func 70) first cap)) (some vs) = .ok (.enter 70 (first.toList ++ vs ++ cap.toList)) h := dCallO_func (by kernel_rfl) _ _ _
theorem ca_71 {h : DHeap} {first cap : Array Value} {vs : List Value} : dCallO Try.prog h (some (.func (.func 71) first cap)) (some vs) = .ok (.enter 71 (first.toList ++ vs ++ cap.toList)) h := dCallO_func (by kernel_rfl) _ _ _
theorem ca_72 {h : DHeap} {first cap : Array Value} {vs : List Value} : dCallO Try.prog h (some (.func (.func 72) first cap)) (some vs) = .ok (.enter 72 (first.toList ++ vs ++ cap.toList)) h := dCallO_func (by kernel_rfl) _ _ _
theorem ca_74 {h : DHeap} {first cap : Array Value} {vs : List Value} : dCallO Try.prog h (some (.func (.func 74) first cap)) (some vs) = .ok (.enter 74 (first.toList ++ vs ++ cap.toList)) h := dCallO_func (by kernel_rfl) _ _ _
theorem ca_75 {h : DHeap} {first cap : Array Value} {vs : List Value} : dCallO Try.prog h (some (.func (.func 75) first cap)) (some vs) = .ok (.enter 75 (first.toList ++ vs ++ cap.toList)) h := dCallO_func (by kernel_rfl) _ _ _
theorem ca_76 {h : DHeap} {first cap : Array Value} {vs : List Value} : dCallO Try.prog h (some (.func (.func 76) first cap)) (some vs) = .ok (.enter 76 (first.toList ++ vs ++ cap.toList)) h := dCallO_func (by kernel_rfl) _ _ _
theorem ca_78 {h : DHeap} {first cap : Array Value} {vs : List Value} : dCallO Try.prog h (some (.func (.func 78) first cap)) (some vs) = .ok (.enter 78 (first.toList ++ vs ++ cap.toList)) h := dCallO_func (by kernel_rfl) _ _ _
theorem ca_79 {h : DHeap} {first cap : Array Value} {vs : List Value} : dCallO Try.prog h (some (.func (.func 79) first cap)) (some vs) = .ok (.enter 79 (first.toList ++ vs ++ cap.toList)) h := dCallO_func (by kernel_rfl) _ _ _
theorem ca_80 {h : DHeap} {first cap : Array Value} {vs : List Value} : dCallO Try.prog h (some (.func (.func 80) first cap)) (some vs) = .ok (.enter 80 (first.toList ++ vs ++ cap.toList)) h := dCallO_func (by kernel_rfl) _ _ _
theorem ca_81 {h : DHeap} {first cap : Array Value} {vs : List Value} : dCallO Try.prog h (some (.func (.func 81) first cap)) (some vs) = .ok (.enter 81 (first.toList ++ vs ++ cap.toList)) h := dCallO_func (by kernel_rfl) _ _ _
theorem ca_82 {h : DHeap} {first cap : Array Value} {vs : List Value} : dCallO Try.prog h (some (.func (.func 82) first cap)) (some vs) = .ok (.enter 82 (first.toList ++ vs ++ cap.toList)) h := dCallO_func (by kernel_rfl) _ _ _
theorem ca_83 {h : DHeap} {first cap : Array Value} {vs : List Value} : dCallO Try.prog h (some (.func (.func 83) first cap)) (some vs) = .ok (.enter 83 (first.toList ++ vs ++ cap.toList)) h := dCallO_func (by kernel_rfl) _ _ _
theorem de_84 {h : DHeap} {first cap : Array Value} {vs : List Value} : dDeferO Try.prog h (some (.func (.func 84) first cap)) (some vs) = .ok (.defer 84 (first.toList ++ vs ++ cap.toList)) h := dDeferO_func (by kernel_rfl) _ _ _
theorem ca_85 {h : DHeap} {first cap : Array Value} {vs : List Value} : dCallO Try.prog h (some (.func (.func 85) first cap)) (some vs) = .ok (.enter 85 (first.toList ++ vs ++ cap.toList)) h := dCallO_func (by kernel_rfl) _ _ _
theorem ca_86 {h : DHeap} {first cap : Array Value} {vs : List Value} : dCallO Try.prog h (some (.func (.func 86) first cap)) (some vs) = .ok (.enter 86 (first.toList ++ vs ++ cap.toList)) h := dCallO_func (by kernel_rfl) _ _ _
theorem esz_2 : eszOf Try.prog 2 = 0 := by kernel_rfl
theorem esz_3 : eszOf Try.prog 3 = 0 := by kernel_rfl
theorem esz_22 : eszOf Try.prog 22 = 0 := by kernel_rfl
theorem esz_26 : eszOf Try.prog 26 = 0 := by kernel_rfl
theorem esz_27 : eszOf Try.prog 27 = 0 := by kernel_rfl
theorem esz_44 : eszOf Try.prog 44 = 0 := by kernel_rfl
theorem esz_48 : eszOf Try.prog 48 = 0 := by kernel_rfl
theorem esz_50 : eszOf Try.prog 50 = 0 := by kernel_rfl
theorem esz_53 : eszOf Try.prog 53 = 0 := by kernel_rfl
theorem esz_55 : eszOf Try.prog 55 = 0 := by kernel_rfl
theorem esz_57 : eszOf Try.prog 57 = 0 := by kernel_rfl
theorem esz_64 : eszOf Try.prog 64 = 0 := by kernel_rfl
theorem esz_80 : eszOf Try.prog 80 = 0 := by kernel_rfl
theorem esz_118 : eszOf Try.prog 118 = 0 := by kernel_rfl
theorem al_2 {h : DHeap} : dAlloc Try.prog 2 h = some (.pointer (some ⟨h.next, 0, none⟩), h.push (.row [Value.int IntKind.i64 0] 0 false)) := dAlloc_zero (show zeroCells Try.prog 2 = some [Value.int IntKind.i64 0] by kernel_rfl) (by decide) esz_2
theorem al_3 {h : DHeap} : dAlloc Try.prog 3 h = some (.pointer (some ⟨h.next, 0, none⟩), h.push (.row [Value.int IntKind.i64 0] 0 false)) := dAlloc_zero (show zeroCells Try.prog 3 = some [Value.int IntKind.i64 0] by kernel_rfl) (by decide) esz_3
theorem al_26 {h : DHeap} : dAlloc Try.prog 26 h = some (.pointer (some ⟨h.next, 0, none⟩), h.push (.row [Value.int IntKind.i64 0, Value.slice none 0 0, Value.slice none 0 0] 0 false)) := dAlloc_zero (show zeroCells Try.prog 26 = some [Value.int IntKind.i64 0, Value.slice none 0 0, Value.slice none 0 0] by kernel_rfl) (by decide) esz_26
theorem al_27 {h : DHeap} : dAlloc Try.prog 27 h = some (.pointer (some ⟨h.next, 0, none⟩), h.push (.row [Value.int IntKind.i64 0] 0 false)) := dAlloc_zero (show zeroCells Try.prog 27 = some [Value.int IntKind.i64 0] by kernel_rfl) (by decide) esz_27
theorem al_44 {h : DHeap} : dAlloc Try.prog 44 h = some (.pointer (some ⟨h.next, 0, none⟩), h.push (.row [Value.slice none 0 0] 0 false)) := dAlloc_zero (show zeroCells Try.prog 44 = some [Value.slice none 0 0] by kernel_rfl) (by decide) esz_44
theorem al_50 {h : DHeap} : dAlloc Try.prog 50 h = some (.pointer (some ⟨h.next, 0, none⟩), h.push (.row [Value.int IntKind.i32 0, Value.int IntKind.i64 0, Value.int IntKind.i64 0, Value.int IntKind.i64 0] 0 false)) := dAlloc_zero (show zeroCells Try.prog 50 = some [Value.int IntKind.i32 0, Value.int IntKind.i64 0, Value.int IntKind.i64 0, Value.int IntKind.i64 0] by kernel_rfl) (by decide) esz_50
theorem al_53 {h : DHeap} : dAlloc Try.prog 53 h = some (.pointer (some ⟨h.next, 0, none⟩), h.push (.row [Value.int IntKind.i64 0, Value.slice none 0 0, Value.int IntKind.i64 0, Value.int IntKind.i64 0] 0 false)) := dAlloc_zero (show zeroCells Try.prog 53 = some [Value.int IntKind.i64 0, Value.slice none 0 0, Value.int IntKind.i64 0, Value.int IntKind.i64 0] by kernel_rfl) (by decide) esz_53
theorem al_55 {h : DHeap} : dAlloc Try.prog 55 h = some (.pointer (some ⟨h.next, 0, none⟩), h.push (.row [Value.int IntKind.i64 0, Value.int IntKind.i64 0, Value.int IntKind.i64 0, Value.slice none 0 0, Value.int IntKind.i64 0, Value.int IntKind.i64 0] 0 false)) := dAlloc_zero (show zeroCells Try.prog 55 = some [Value.int IntKind.i64 0, Value.int IntKind.i64 0, Value.int IntKind.i64 0, Value.slice none 0 0, Value.int IntKind.i64 0, Value.int IntKind.i64 0] by kernel_rfl) (by decide) esz_55
theorem al_57 {h : DHeap} : dAlloc Try.prog 57 h = some (.pointer (some ⟨h.next, 0, none⟩), h.push (.row [Value.int IntKind.i64 0, Value.int IntKind.i64 0, Value.int IntKind.i64 0, Value.slice none 0 0] 0 false)) := dAlloc_zero (show zeroCells Try.prog 57 = some [Value.int IntKind.i64 0, Value.int IntKind.i64 0, Value.int IntKind.i64 0, Value.slice none 0 0] by kernel_rfl) (by decide) esz_57
theorem al_118 {h : DHeap} : dAlloc Try.prog 118 h = some (.pointer (some ⟨h.next, 0, none⟩), h.push (.row [Value.int IntKind.i64 0] 0 false)) := dAlloc_zero (show zeroCells Try.prog 118 = some [Value.int IntKind.i64 0] by kernel_rfl) (by decide) esz_118
theorem isl_22 : isSliceT Try.prog 22 = true := by kernel_rfl
theorem lnv_22 {α : Type} {h h1 : DHeap} {l : List α} : dLen Try.prog #[22] (lv h l) h1 = some (.int .i64 l.length) := dLen_lv (t := 22) rfl isl_22
theorem isl_23 : isSliceT Try.prog 23 = true := by kernel_rfl
theorem isl_24 : isSliceT Try.prog 24 = true := by kernel_rfl
theorem len_24 {h : DHeap} {a : Option Addr} {n c : Nat} : dLen Try.prog #[24] (.slice a n c) h = some (goInt n) := dLen_slice (t := 24) rfl isl_24
theorem isl_44 : isSliceT Try.prog 44 = true := by kernel_rfl
theorem isl_51 : isSliceT Try.prog 51 = true := by kernel_rfl
theorem isl_115 : isSliceT Try.prog 115 = true := by kernel_rfl
theorem app_22 : appT Try.prog #[22, 22] = some (1, 1) := by kernel_rfl
theorem app_23 : appT Try.prog #[23, 23] = some (4, 32) := by kernel_rfl
theorem app_24 : appT Try.prog #[24, 24] = some (6, 64) := by kernel_rfl
theorem app_44 : appT Try.prog #[44, 44] = some (4, 48) := by kernel_rfl
theorem app_51 : appT Try.prog #[51, 51] = some (1, 8) := by kernel_rfl
theorem bsl_22 : bslT Try.prog 22 = some (1, [Value.int IntKind.u8 0]) := by kernel_rfl
theorem bs0_22 {h : DHeap} : dBuildSlice Try.prog 22 0 [] h = some (.slice (some ⟨h.next, 0, none⟩) 0 0, h.push (.row [] 1 false)) := dBuildSlice_0 bsl_22
theorem bs1_22 {h : DHeap} {a : Value} (ha : a.cells.size = 1) : dBuildSlice Try.prog 22 1 [(0, a)] h = some (.slice (some ⟨h.next, 0, none⟩) 1 1, h.push (.row a.cells.toList 1 false)) := dBuildSlice_1 bsl_22 ha (by decide)
theorem bsl_23 : bslT Try.prog 23 = some (4, [Value.int IntKind.i32 0, Value.int IntKind.i64 0, Value.int IntKind.i64 0, Value.int IntKind.i64 0]) := by kernel_rfl
theorem bs0_23 {h : DHeap} : dBuildSlice Try.prog 23 0 [] h = some (.slice (some ⟨h.next, 0, none⟩) 0 0, h.push (.row [] 4 false)) := dBuildSlice_0 bsl_23
theorem bs1_23 {h : DHeap} {a : Value} (ha : a.cells.size = 4) : dBuildSlice Try.prog 23 1 [(0, a)] h = some (.slice (some ⟨h.next, 0, none⟩) 1 1, h.push (.row a.cells.toList 4 false)) := dBuildSlice_1 bsl_23 ha (by decide)
theorem bsl_24 : bslT Try.prog 24 = some (6, [Value.int IntKind.i64 0, Value.int IntKind.i64 0, Value.int IntKind.i64 0, Value.slice none 0 0, Value.int IntKind.i64 0, Value.int IntKind.i64 0]) := by kernel_rfl
theorem bs1_24 {h : DHeap} {a : Value} (ha : a.cells.size = 6) : dBuildSlice Try.prog 24 1 [(0, a)] h = some (.slice (some ⟨h.next, 0, none⟩) 1 1, h.push (.row a.cells.toList 6 false)) := dBuildSlice_1 bsl_24 ha (by decide)
theorem bsl_44 : bslT Try.prog 44 = some (4, [Value.int IntKind.i64 0, Value.int IntKind.i64 0, Value.int IntKind.i64 0, Value.slice none 0 0]) := by kernel_rfl
theorem bs1_44 {h : DHeap} {a : Value} (ha : a.cells.size = 4) : dBuildSlice Try.prog 44 1 [(0, a)] h = some (.slice (some ⟨h.next, 0, none⟩) 1 1, h.push (.row a.cells.toList 4 false)) := dBuildSlice_1 bsl_44 ha (by decide)
theorem bsl_51 : bslT Try.prog 51 = some (1, [Value.int IntKind.i64 0]) := by kernel_rfl
theorem bs0_51 {h : DHeap} : dBuildSlice Try.prog 51 0 [] h = some (.slice (some ⟨h.next, 0, none⟩) 0 0, h.push (.row [] 1 false)) := dBuildSlice_0 bsl_51
theorem bs1_51 {h : DHeap} {a : Value} (ha : a.cells.size = 1) : dBuildSlice Try.prog 51 1 [(0, a)] h = some (.slice (some ⟨h.next, 0, none⟩) 1 1, h.push (.row a.cells.toList 1 false)) := dBuildSlice_1 bsl_51 ha (by decide)
theorem bs2_51 {h : DHeap} {a b : Value} (ha : a.cells.size = 1) (hb : b.cells.size = 1) : dBuildSlice Try.prog 51 2 [(0, a), (1, b)] h = some (.slice (some ⟨h.next, 0, none⟩) 2 2, h.push (.row (a.cells.toList ++ b.cells.toList) 1 false)) := dBuildSlice_2 bsl_51 ha hb (by decide)
theorem bsl_115 : bslT Try.prog 115 = some (1, [Value.int IntKind.i64 0]) := by kernel_rfl
theorem bs2_115 {h : DHeap} {a b : Value} (ha : a.cells.size = 1) (hb : b.cells.size = 1) : dBuildSlice Try.prog 115 2 [(0, a), (1, b)] h = some (.slice (some ⟨h.next, 0, none⟩) 2 2, h.push (.row (a.cells.toList ++ b.cells.toList) 1 false)) := dBuildSlice_2 bsl_115 ha hb (by decide)
theorem plc_26 : plcOf Try.prog 26 = some ([(0, 1), (1, 1), (2, 1)], [Value.int IntKind.i64 0, Value.slice none 0 0, Value.slice none 0 0]) := by kernel_rfl
theorem plc_48 : plcOf Try.prog 48 = some ([(0, 1), (1, 1)], [Value.int IntKind.i32 0, Value.int IntKind.i64 0]) := by kernel_rfl
theorem plc_50 : plcOf Try.prog 50 = some ([(0, 2), (2, 1), (3, 1)], [Value.int IntKind.i32 0, Value.int IntKind.i64 0, Value.int IntKind.i64 0, Value.int IntKind.i64 0]) := by kernel_rfl
theorem plc_55 : plcOf Try.prog 55 = some ([(0, 1), (1, 1), (2, 4)], [Value.int IntKind.i64 0, Value.int IntKind.i64 0, Value.int IntKind.i64 0, Value.slice none 0 0, Value.int IntKind.i64 0, Value.int IntKind.i64 0]) := by kernel_rfl
theorem plc_57 : plcOf Try.prog 57 = some ([(0, 1), (1, 1), (2, 1), (3, 1)], [Value.int IntKind.i64 0, Value.int IntKind.i64 0, Value.int IntKind.i64 0, Value.slice none 0 0]) := by kernel_rfl
theorem plc_64 : plcOf Try.prog 64 = some ([(0, 1), (1, 1), (2, 1)], [Value.slice none 0 0, Value.int IntKind.i64 0, Value.bool false]) := by kernel_rfl
theorem plc_80 : plcOf Try.prog 80 = some ([(0, 1)], [Value.slice none 0 0]) := by kernel_rfl
theorem plc_118 : plcOf Try.prog 118 = some ([(0, 1)], [Value.int IntKind.i64 0]) := by kernel_rfl
attribute [go_sem] ld_2 st_2 ld_3 st_3 ld_4 ld_5 ld_21 ld_22 st_22 ld_23 st_23 ld_24 st_24 ld_26 st_26 ld_27 st_27 ld_44 st_44 ld_48 ld_50
attribute [go_sem] st_50 ld_51 st_51 ld_53 st_53 ld_55 st_55 ld_57 st_57 st_118 fa_26_0 fa_26_1 fa_26_2 fa_48_0 fa_48_1 fa_50_0 fa_50_1 fa_50_2 fa_53_0 fa_53_1 fa_53_2 fa_53_3 fa_55_0 fa_55_1
attribute [go_sem] fa_55_2 fa_57_3 fa_64_0 fa_64_1 fa_64_2 fa_80_0 fa_118_0 cv_2_21 cv_2_36 cv_3_5 cv_5_3 cv_5_21 cv_5_36 cv_21_2 cv_21_103 cv_36_2 cv_36_5 cv_103_36
attribute [go_sem] mi_118 ta_118 ca_10 ca_12 ca_14 ca_15 ca_16 ca_17 ca_19 ca_20 ca_21
attribute [go_sem] ca_23 ca_25 ca_28 ca_29 ca_30 ca_31
attribute [go_sem] ca_37 ca_41 ca_42 ca_43 ca_44 ca_45 ca_46
attribute [go_sem] ca_47 ca_48 ca_49 ca_50 ca_52 ca_53 ca_54 ca_56 ca_58
attribute [go_sem] ca_59 ca_61 ca_64 ca_65 ca_66 ca_68 ca_69 ca_70 ca_71
attribute [go_sem] ca_72 ca_74 ca_75 ca_76 ca_78 ca_79 ca_80 ca_81 ca_82 ca_83
attribute [go_sem] de_84 ca_85 ca_86 esz_2 esz_3 esz_22 esz_26 esz_27 esz_44 esz_48 esz_50 esz_53 esz_55 esz_57 esz_64 esz_80 esz_118 al_2 al_3
attribute [go_sem] al_26 al_27 al_44 al_50 al_53 al_55 al_57 al_118 lnv_22 len_24 bs0_22 bs1_22 bs0_23 bs1_23
attribute [go_sem] bs1_24 bs1_44 bs0_51 bs1_51 bs2_51 bs2_115
end Go.Proofs.Ytlhgijpdhniddaa

namespace Go.Proofs.Ytlhgijpdhniddaa
open Go.D

theorem sti_2 {h : DHeap} {id o : Nat} {k : IntKind} {n : Int} : dStore Try.prog 2 (.pointer (some ⟨id, o, none⟩)) (.int k n) h = storeAt h id o [(.int k n)] := dStore_one one_2 rfl
theorem sti_3 {h : DHeap} {id o : Nat} {k : IntKind} {n : Int} : dStore Try.prog 3 (.pointer (some ⟨id, o, none⟩)) (.int k n) h = storeAt h id o [(.int k n)] := dStore_one one_3 rfl
theorem stb_4 {h : DHeap} {id o : Nat} {b : Bool} : dStore Try.prog 4 (.pointer (some ⟨id, o, none⟩)) (.bool b) h = storeAt h id o [(.bool b)] := dStore_one one_4 rfl
theorem sti_5 {h : DHeap} {id o : Nat} {k : IntKind} {n : Int} : dStore Try.prog 5 (.pointer (some ⟨id, o, none⟩)) (.int k n) h = storeAt h id o [(.int k n)] := dStore_one one_5 rfl
theorem sti_27 {h : DHeap} {id o : Nat} {k : IntKind} {n : Int} : dStore Try.prog 27 (.pointer (some ⟨id, o, none⟩)) (.int k n) h = storeAt h id o [(.int k n)] := dStore_one one_27 rfl
attribute [go_sem] sti_2 sti_3 stb_4 sti_5 sti_27
end Go.Proofs.Ytlhgijpdhniddaa

namespace Go.D

structure Key where
  t : Int
  r : Int
  deriving DecidableEq
structure Cell where
  k : Key
  v : Int
  s : Int
  deriving DecidableEq
abbrev fI64 := fI .i64
abbrev fU8 := fI .u8
def fKey : FRep Key := fM (fP (fI .i32) (fI .i64)) (fun k => (k.t, k.r)) fun x y h => by
  cases x; cases y; simp at h; simp [h]
def fCell : FRep Cell := fM (fP fKey (fP (fI .i64) (fI .i64))) (fun c => (c.k, c.v, c.s)) fun x y h => by
  cases x; cases y; simp at h; simp [h]
/-- a result: how it ended, what it answered, at which place -/
structure Res where
  e : Int
  vs : List Int
  s : Int
  p : Int
structure Row where
  ses : Int
  req : Int
  x : Res
structure State where
  slot : Int
  cells : List Cell
  rows : List Row
structure Part where
  slot : Int
  index : Int
  many : Int
  data : List Int
def rRes : Rep Res := rM (rP (fI64.rep) (rP (rSl fI64.rep) (rP (fI64.rep) (fI64.rep)))) fun x => (x.e, x.vs, x.s, x.p)
def rRow : Rep Row := rM (rP fI64.rep (rP fI64.rep rRes)) fun x => (x.ses, x.req, x.x)
def rState : Rep State := rM (rP fI64.rep (rP (rSl fCell.rep) (rSl rRow))) fun x => (x.slot, x.cells, x.rows)
def rPart : Rep Part := rM (rP fI64.rep (rP fI64.rep (rP fI64.rep (rSl fU8.rep)))) fun x => (x.slot, x.index, x.many, x.data)

/-! ### Numbers -/
theorem wrap_in {k : IntKind} {n : Int} (h : inK k n) : k.wrap n = n := by
  unfold inK IntKind.min IntKind.max IntKind.signed IntKind.bits at h
  unfold IntKind.wrap IntKind.signed IntKind.bits
  cases k <;> simp at h ⊢ <;> omega
theorem wrap_ok (k : IntKind) (n : Int) : inK k (k.wrap n) := by
  unfold inK IntKind.min IntKind.max IntKind.wrap IntKind.signed IntKind.bits
  cases k <;> simp <;> omega
theorem inK_u8 {n : Int} : inK .u8 n ↔ 0 ≤ n ∧ n ≤ 255 := by
  simp [inK, IntKind.min, IntKind.max, IntKind.signed, IntKind.bits]
theorem inK_i64 {n : Int} : inK .i64 n ↔ -9223372036854775808 ≤ n ∧ n ≤ 9223372036854775807 := by
  simp [inK, IntKind.min, IntKind.max, IntKind.signed, IntKind.bits]
theorem inK_i32 {n : Int} : inK .i32 n ↔ -2147483648 ≤ n ∧ n ≤ 2147483647 := by
  simp [inK, IntKind.min, IntKind.max, IntKind.signed, IntKind.bits]
theorem wrap_u8 (n : Int) : IntKind.u8.wrap n = n % 256 := by
  simp [IntKind.wrap, IntKind.signed, IntKind.bits]
theorem wrap_u64 (n : Int) : IntKind.u64.wrap n = n % 18446744073709551616 := by
  simp [IntKind.wrap, IntKind.signed, IntKind.bits]
theorem wrap_i64_in {n : Int} (h0 : -9223372036854775808 ≤ n) (h1 : n ≤ 9223372036854775807) : IntKind.i64.wrap n = n := wrap_in (inK_i64.2 ⟨h0, h1⟩)
end Go.D

namespace Go.Proofs.Ytlhgijpdhniddaa
open Go.D
set_option maxRecDepth 100000

def lowN (u : Nat) : List Int := if h : u = 0 then [] else ((u % 256 : Nat) : Int) :: lowN (u / 256)
theorem lowN_zero : lowN 0 = [] := by rw [lowN]; simp
theorem lowN_pos {u : Nat} (h : u ≠ 0) : lowN u = ((u % 256 : Nat) : Int) :: lowN (u / 256) := by rw [lowN]; simp [h]
theorem lowN_len : ∀ (n u : Nat), u < 256 ^ n → (lowN u).length ≤ n
  | 0, u, h => by
    have : u = 0 := by omega
    subst this; simp [lowN_zero]
  | n + 1, u, h => by
    by_cases h0 : u = 0
    · subst h0; simp [lowN_zero]
    · rw [lowN_pos h0, List.length_cons]
      have := lowN_len n (u / 256) (by rw [Nat.div_lt_iff_lt_mul (by decide)]; rw [Nat.pow_succ] at h; exact h)
      omega
theorem lowN_8 {u : Nat} (hu : u < 2 ^ 64) : (lowN u).length ≤ 8 := lowN_len 8 u (by simpa using hu)
theorem lowN_ok : ∀ (n u : Nat), u < n → ∀ x ∈ lowN u, fU8.ok x
  | 0, u, h => by omega
  | n + 1, u, h => by
    by_cases h0 : u = 0
    · subst h0; simp [lowN_zero]
    · rw [lowN_pos h0]
      intro x hx
      rcases List.mem_cons.1 hx with rfl | hx
      · exact inK_u8.2 ⟨by omega, by omega⟩
      · exact lowN_ok n (u / 256) (by omega) x hx

theorem shr8 (a : Nat) : ((a : Int).fdiv (2 ^ min (8 : Int).toNat 64)) = ((a / 256 : Nat) : Int) := by
  have : (2 : Int) ^ min (8 : Int).toNat 64 = 256 := by decide
  rw [this, Int.fdiv_eq_ediv_of_nonneg _ (by decide)]; rfl

theorem low_c {h : DHeap} {u : Nat} (hu : u < 2 ^ 64) : DC Try.prog 86 [.int .u64 u] h (.ret (lv h (lowN u))) (lh fU8 h (lowN u)) := by
  refine Ct.made (go_86 (by simp) ?_)
  simp -implicitDefEqProofs (disch := first | omega | (simp only [go_sem, List.size_toArray, List.length_cons, List.length_nil, Nat.reduceAdd]; done)) only [go_sem, Int.reduceLT, Int.reduceLE, Int.reduceEq, reduceIte, c86]
  refine xloop (σ := Nat × List Int) (by kernel_rfl) (fun a s => s.df = [] ∧ s.fr 0 = some (.int .u64 a.1) ∧ a.1 < 2 ^ 64 ∧ ∃ v, s.fr 3 = some v ∧ Made fU8 h s.h v a.2 ∧ lowN u = a.2 ++ lowN a.1 ∧ (a.2 = [] → v = .slice none 0 0)) (fun a => a.1) (u, []) ?_ ?_
  · simp -implicitDefEqProofs (disch := first | omega | (simp only [go_sem, List.size_toArray, List.length_cons, List.length_nil, Nat.reduceAdd]; done)) only [go_sem, Int.reduceLT, Int.reduceLE, Int.reduceEq, reduceIte]
    exact ⟨by trivial, by trivial, hu, _, rfl, .nil _ (.refl h), by simp, fun _ => rfl⟩
  · rintro ⟨a, l⟩ ⟨fr, df, hh, rd⟩ K hK hX ⟨rfl, h0, ha, v, h3, m, hl, hv⟩
    simp only at h0 h3 m hl ha hv
    simp -implicitDefEqProofs (disch := first | omega | (simp only [go_sem, List.size_toArray, List.length_cons, List.length_nil, Nat.reduceAdd]; done)) only [go_sem, Int.reduceLT, Int.reduceLE, Int.reduceEq, reduceIte, h0, h3]
    refine XIf_dec ?_ ?_
    · intro hc
      have hlen := lowN_8 hu
      rw [hl, List.length_append] at hlen
      obtain ⟨v2, h2, e2, m2⟩ := m.snoc app_22 (y := IntKind.u8.wrap a) (cs := [.int .u8 (IntKind.u8.wrap a)]) (z := 1) rfl rfl (wrap_ok _ _) (by omega) (by decide)
      simp -implicitDefEqProofs (disch := first | omega | (simp only [go_sem, List.size_toArray, List.length_cons, List.length_nil, Nat.reduceAdd]; done)) only [go_sem, Int.reduceLT, Int.reduceLE, Int.reduceEq, reduceIte, h0, h3, e2, bin_shr, shr8]
      refine hK (a / 256, l ++ [IntKind.u8.wrap a]) _ ?_ ?_
      · refine ⟨rfl, by simp -implicitDefEqProofs (disch := first | omega | (simp only [go_sem, List.size_toArray, List.length_cons, List.length_nil, Nat.reduceAdd]; done)) only [go_sem, Int.reduceLT, Int.reduceLE, Int.reduceEq, reduceIte], ?_, v2, by simp -implicitDefEqProofs (disch := first | omega | (simp only [go_sem, List.size_toArray, List.length_cons, List.length_nil, Nat.reduceAdd]; done)) only [go_sem, Int.reduceLT, Int.reduceLE, Int.reduceEq, reduceIte], m2, ?_, by simp⟩
        · simp only; omega
        · rw [hl, lowN_pos (by omega), wrap_u8]; simp
      · simp only; omega
    · intro hc
      have ha0 : a = 0 := by omega
      subst ha0
      refine hX _ _ (by simp) ?_
      simp -implicitDefEqProofs (disch := first | omega | (simp only [go_sem, List.size_toArray, List.length_cons, List.length_nil, Nat.reduceAdd]; done)) only [go_sem, Int.reduceLT, Int.reduceLE, Int.reduceEq, reduceIte, h0, h3]
      rw [hl, lowN_zero, List.append_nil]
      exact ⟨_, rfl, _, rfl, m, hv⟩

/-- a number's bytes -/
def numB (n : Int) : List Int := (2 * ((lowN n.natAbs).length : Int) + if n < 0 then 1 else 0) :: lowN n.natAbs
theorem numB_len {n : Int} (hn : inK .i64 n) : (numB n).length ≤ 9 := by
  have := inK_i64.1 hn
  have := lowN_8 (u := n.natAbs) (by omega)
  simp [numB]; omega
theorem numB_pos (n : Int) : 0 < (numB n).length := by simp [numB]
theorem numB_ok {n : Int} (hn : inK .i64 n) : ∀ x ∈ numB n, fU8.ok x := by
  have h1 := inK_i64.1 hn
  have h2 := lowN_8 (u := n.natAbs) (by omega)
  intro x hx
  rcases List.mem_cons.1 hx with rfl | hx
  · refine inK_u8.2 ?_
    split <;> omega
  · exact lowN_ok _ _ (Nat.lt_succ_self _) x hx

theorem number_c {h : DHeap} {n : Int} (hn : inK .i64 n) : DC Try.prog 80 [.int .i64 n] h (.ret (lv h (numB n))) (lh fU8 h (numB n)) := by
  have h1 := inK_i64.1 hn
  have h2 := lowN_8 (u := n.natAbs) (by omega)
  refine Ct.made (go_80 (by simp) ?_)
  simp -implicitDefEqProofs (disch := first | omega | (simp only [go_sem, List.size_toArray, List.length_cons, List.length_nil, Nat.reduceAdd]; done)) only [go_sem, Int.reduceLT, Int.reduceLE, Int.reduceEq, reduceIte, c80]
  refine XIf_cutd (fun s => s.df = [] ∧ s.h = h ∧ s.fr 3 = some (.int .u8 (if n < 0 then 1 else 0)) ∧ s.fr 4 = some (.int .u64 n.natAbs)) (fun h0 => ?_) (fun h0 => ?_) ?_
  · simp -implicitDefEqProofs (disch := first | omega | (simp only [go_sem, List.size_toArray, List.length_cons, List.length_nil, Nat.reduceAdd]; done)) only [go_sem, Int.reduceLT, Int.reduceLE, Int.reduceEq, reduceIte, wrap_u64]
    rw [if_pos h0]
    refine ⟨by trivial, by trivial, by trivial, ?_⟩
    congr 2; omega
  · simp -implicitDefEqProofs (disch := first | omega | (simp only [go_sem, List.size_toArray, List.length_cons, List.length_nil, Nat.reduceAdd]; done)) only [go_sem, Int.reduceLT, Int.reduceLE, Int.reduceEq, reduceIte, wrap_u64]
    rw [if_neg h0]
    refine ⟨by trivial, by trivial, by trivial, ?_⟩
    congr 2; omega
  · rintro ⟨fr, df, hh, rd⟩ ⟨rfl, rfl, h3, h4⟩
    simp only at h3 h4
    simp -implicitDefEqProofs (disch := first | omega | (simp only [go_sem, List.size_toArray, List.length_cons, List.length_nil, Nat.reduceAdd]; done)) only [go_sem, Int.reduceLT, Int.reduceLE, Int.reduceEq, reduceIte, h3, h4]
    refine ncall (low_c (by omega)) ?_
    have hd : IntKind.u8.wrap (IntKind.u8.wrap (2 * IntKind.u8.wrap ((lowN n.natAbs).length : Int)) + if n < 0 then 1 else 0) = 2 * ((lowN n.natAbs).length : Int) + if n < 0 then 1 else 0 := by
      rw [wrap_u8, wrap_u8, wrap_u8]; split <;> omega
    have hk : fU8.ok (2 * ((lowN n.natAbs).length : Int) + if n < 0 then 1 else 0) := inK_u8.2 (by split <;> omega)
    have m0 := lh_made fU8 hh (l := lowN n.natAbs) (lowN_ok _ _ (Nat.lt_succ_self _))
    have m1 : Made fU8 hh ((lh fU8 hh (lowN n.natAbs)).push (.row [.int .u8 (2 * ((lowN n.natAbs).length : Int) + if n < 0 then 1 else 0)] 1 false)) (.slice (some ⟨(lh fU8 hh (lowN n.natAbs)).next, 0, none⟩) 1 1) [2 * ((lowN n.natAbs).length : Int) + if n < 0 then 1 else 0] :=
      Made.one (F := fU8) m0.ext rfl rfl hk
    obtain ⟨v2, h5, e2, m2, _⟩ := m1.append app_22 (m0.arg.ext (Ext.push1 _ _)) (by simp; omega) (by decide)
    simp -implicitDefEqProofs (disch := first | omega | (simp only [go_sem, List.size_toArray, List.length_cons, List.length_nil, Nat.reduceAdd]; done)) only [go_sem, Int.reduceLT, Int.reduceLE, Int.reduceEq, reduceIte, h3, h4, hd, e2]
    exact ⟨_, rfl, _, rfl, m2, by simp [numB]⟩

/-- numbers' bytes -/
def numsB (l : List Int) : List Int := l.flatMap numB
theorem numsB_len {l : List Int} (hl : ∀ n ∈ l, inK .i64 n) : (numsB l).length ≤ 9 * l.length := by
  induction l with
  | nil => simp [numsB]
  | cons n l ih =>
    have := numB_len (hl n (by simp))
    have := ih fun m hm => hl m (by simp [hm])
    simp only [numsB, List.flatMap_cons, List.length_append, List.length_cons] at *
    omega
theorem numsB_snoc (l : List Int) (n : Int) : numsB (l ++ [n]) = numsB l ++ numB n := by simp [numsB]

theorem clip_c {h : DHeap} {b : Value} {l : List Int} (hb : Arg fU8.rep h b l) : ∃ b', DC Try.prog 79 [b] h (.ret b') h ∧ Grown fU8 h h b' l := by
  obtain ⟨b', e, g⟩ := hb.clip (P := Try.prog) (t := 22) (k1 := .i64) (k2 := .i64) el_22 (by decide)
  refine ⟨b', Ct.pure (go_79 (by simp) ?_) g.arg.vin, g⟩
  simp -implicitDefEqProofs (disch := first | omega | (simp only [go_sem, List.size_toArray, List.length_cons, List.length_nil, Nat.reduceAdd]; done)) only [go_sem, Int.reduceLT, Int.reduceLE, Int.reduceEq, reduceIte, c79, hb.dLen (ts := #[22]) rfl isl_22, Option.map_some, e]
  exact ⟨_, rfl, rfl, .refl h⟩

theorem clone_u8 {h : DHeap} {b : Value} {l : List Int} (hb : Arg fU8.rep h b l) (hl : l.length ≤ 4294967296) : DC Try.prog 58 [b] h (.ret (cloneV h b l)) (cloneH fU8 h b l) := by
  refine Ct.cloned hb (go_58 (by simp) ?_)
  simp -implicitDefEqProofs (disch := first | omega | (simp only [go_sem, List.size_toArray, List.length_cons, List.length_nil, Nat.reduceAdd]; done)) only [go_sem, Int.reduceLT, Int.reduceLE, Int.reduceEq, reduceIte, c58, hb.nilEq isl_22]
  refine XIf_split (fun hn => ?_) (fun hn => ?_)
  · simp -implicitDefEqProofs (disch := first | omega | (simp only [go_sem, List.size_toArray, List.length_cons, List.length_nil, Nat.reduceAdd]; done)) only [go_sem, Int.reduceLT, Int.reduceLE, Int.reduceEq, reduceIte]
    obtain ⟨_, rfl⟩ := isNilV_nil hb hn
    exact ⟨_, rfl, _, rfl, .nil _ (.refl h), hn.symm⟩
  · have m0 : Made fU8 h (h.push (.row [] 1 false)) (.slice (some ⟨h.next, 0, none⟩) 0 0) [] := .none0 fU8 (.refl h) rfl
    obtain ⟨v2, h2, e2, m2, k2⟩ := m0.append app_22 (hb.ext (Ext.push1 _ _)) (by simpa using hl) (by decide)
    simp -implicitDefEqProofs (disch := first | omega | (simp only [go_sem, List.size_toArray, List.length_cons, List.length_nil, Nat.reduceAdd]; done)) only [go_sem, Int.reduceLT, Int.reduceLE, Int.reduceEq, reduceIte, e2]
    exact ⟨_, rfl, _, rfl, m2, (m0.isNil_append rfl m2 fun hk => (k2 hk).1).trans hn.symm⟩

theorem Num_c {h : DHeap} {b l : Value} {lb ll : List Int} (hb : Arg fU8.rep h b lb) (hl : Arg fI64.rep h l ll) (hlen : lb.length + 9 * ll.length ≤ 1073741824) (hne : lb ++ numsB ll ≠ []) :
    DC Try.prog 68 [b, l] h (.ret (lv h (lb ++ numsB ll))) (lh fU8 h (lb ++ numsB ll)) := by
  have hok := hl.ok
  have hnl := numsB_len hok
  refine Ct.made (go_68 (by simp) ?_)
  obtain ⟨b', hclip, hg⟩ := clip_c hb
  simp -implicitDefEqProofs (disch := first | omega | (simp only [go_sem, List.size_toArray, List.length_cons, List.length_nil, Nat.reduceAdd]; done)) only [go_sem, Int.reduceLT, Int.reduceLE, Int.reduceEq, reduceIte, c68]
  refine ncall hclip ?_
  simp -implicitDefEqProofs (disch := first | omega | (simp only [go_sem, List.size_toArray, List.length_cons, List.length_nil, Nat.reduceAdd]; done)) only [go_sem, Int.reduceLT, Int.reduceLE, Int.reduceEq, reduceIte, hl.dLen (ts := #[51]) rfl isl_51]
  refine xloop (σ := Nat × Value) (by kernel_rfl) (fun a s => s.df = [] ∧ s.fr 9 = some l ∧ s.fr 10 = some (.int .i64 ll.length) ∧ s.fr 11 = some (.int .i64 a.1) ∧ a.1 ≤ ll.length ∧ s.fr 0 = some a.2 ∧ Grown fU8 h s.h a.2 (lb ++ numsB (ll.take a.1))) (fun a => ll.length - a.1) (0, b') ?_ ?_
  · simp -implicitDefEqProofs (disch := first | omega | (simp only [go_sem, List.size_toArray, List.length_cons, List.length_nil, Nat.reduceAdd]; done)) only [go_sem, Int.reduceLT, Int.reduceLE, Int.reduceEq, reduceIte]
    refine ⟨by trivial, by trivial, by trivial, rfl, by simp, by trivial, by simpa [numsB] using hg⟩
  · rintro ⟨i, v⟩ ⟨fr, df, hh, rd⟩ K hK hX ⟨rfl, h9, h10, h11, hi, h0, m⟩
    simp only at h9 h10 h11 hi h0 m
    simp -implicitDefEqProofs (disch := first | omega | (simp only [go_sem, List.size_toArray, List.length_cons, List.length_nil, Nat.reduceAdd]; done)) only [go_sem, Int.reduceLT, Int.reduceLE, Int.reduceEq, reduceIte, h9, h10, h11, h0]
    refine XIf_dec (fun hc => ?_) (fun hc => ?_)
    · have hi' : i < ll.length := by omega
      have hx := get_of_lt hi'
      have hki := hok _ (List.getElem_mem hi')
      obtain ⟨id, o, e1, _, hat⟩ := (hl.ext m.ext).idx (P := Try.prog) (t := 51) el_51 (k := .i64) hx
      simp -implicitDefEqProofs (disch := first | omega | (simp only [go_sem, List.size_toArray, List.length_cons, List.length_nil, Nat.reduceAdd]; done)) only [go_sem, Int.reduceLT, Int.reduceLE, Int.reduceEq, reduceIte, h9, h10, h11, h0, e1, hat.int]
      refine ncall (number_c hki) ?_
      have mb := lh_made fU8 hh (numB_ok hki)
      have hsn := take_snoc hx
      have hnl2 := numsB_len (l := ll.take i) fun n hn => hok n (List.mem_of_mem_take hn)
      have hnb := numB_len hki
      obtain ⟨v2, h5, e2, m2, _⟩ := (m.on mb.ext).append app_22 mb.arg (by simp at hnl2 ⊢; omega) (by decide)
      simp -implicitDefEqProofs (disch := first | omega | (simp only [go_sem, List.size_toArray, List.length_cons, List.length_nil, Nat.reduceAdd]; done)) only [go_sem, Int.reduceLT, Int.reduceLE, Int.reduceEq, reduceIte, h9, h10, h11, h0, e2, wrap_succ hi' (by omega)]
      refine hK (i + 1, v2) _ ?_ ?_
      · refine ⟨by trivial, by simp -implicitDefEqProofs (disch := first | omega | (simp only [go_sem, List.size_toArray, List.length_cons, List.length_nil, Nat.reduceAdd]; done)) only [go_sem, Int.reduceLT, Int.reduceLE, Int.reduceEq, reduceIte, h9], by simp -implicitDefEqProofs (disch := first | omega | (simp only [go_sem, List.size_toArray, List.length_cons, List.length_nil, Nat.reduceAdd]; done)) only [go_sem, Int.reduceLT, Int.reduceLE, Int.reduceEq, reduceIte, h10], by simp -implicitDefEqProofs (disch := first | omega | (simp only [go_sem, List.size_toArray, List.length_cons, List.length_nil, Nat.reduceAdd]; done)) only [go_sem, Int.reduceLT, Int.reduceLE, Int.reduceEq, reduceIte], by simp only; omega, by simp -implicitDefEqProofs (disch := first | omega | (simp only [go_sem, List.size_toArray, List.length_cons, List.length_nil, Nat.reduceAdd]; done)) only [go_sem, Int.reduceLT, Int.reduceLE, Int.reduceEq, reduceIte], ?_⟩
        simp only [hsn, numsB_snoc]
        rw [← List.append_assoc]; exact m2
      · simp only; omega
    · have hi' : i = ll.length := by omega
      subst hi'
      rw [List.take_length] at m
      refine hX _ _ (by simp) ?_
      simp -implicitDefEqProofs (disch := first | omega | (simp only [go_sem, List.size_toArray, List.length_cons, List.length_nil, Nat.reduceAdd]; done)) only [go_sem, Int.reduceLT, Int.reduceLE, Int.reduceEq, reduceIte, h0]
      refine ncall (clone_u8 m.arg (by simp; omega)) ?_
      simp -implicitDefEqProofs (disch := first | omega | (simp only [go_sem, List.size_toArray, List.length_cons, List.length_nil, Nat.reduceAdd]; done)) only [go_sem, Int.reduceLT, Int.reduceLE, Int.reduceEq, reduceIte]
      have mc := clone_made (h := hh) m.arg
      refine ⟨_, rfl, _, rfl, ⟨m.ext.trans mc.ext, ?_⟩, fun h0 => absurd h0 hne⟩
      obtain ⟨w, a, b⟩ := mc.own
      exact ⟨w, a, fun i hi => Nat.le_trans m.ext.next (b i hi)⟩
end Go.Proofs.Ytlhgijpdhniddaa

namespace Go.Proofs.Ytlhgijpdhniddaa
open Go.D
set_option maxRecDepth 100000

theorem refNum_c {h : DHeap} {n : Int} (hn : inK .i64 n) : DC Try.prog 83 [.int .i64 n] h (.ret (lv h (numB n))) (lh fU8 h (numB n)) := by
  have h1 := inK_i64.1 hn
  have h2 := lowN_8 (u := n.natAbs) (by omega)
  refine Ct.made (go_83 (by simp) ?_)
  simp -implicitDefEqProofs (disch := first | omega | (simp only [go_sem, List.size_toArray, List.length_cons, List.length_nil, Nat.reduceAdd]; done)) only [go_sem, Int.reduceLT, Int.reduceLE, Int.reduceEq, reduceIte, c83]
  refine XIf_cutd (fun s => s.df = [] ∧ s.h = h ∧ s.fr 4 = some (.int .u8 (if n < 0 then 1 else 0)) ∧ s.fr 3 = some (.int .u64 n.natAbs)) (fun h0 => ?_) (fun h0 => ?_) ?_
  · simp -implicitDefEqProofs (disch := first | omega | (simp only [go_sem, List.size_toArray, List.length_cons, List.length_nil, Nat.reduceAdd]; done)) only [go_sem, Int.reduceLT, Int.reduceLE, Int.reduceEq, reduceIte]
    rw [if_pos h0]
    refine ⟨by trivial, by trivial, by trivial, ?_⟩
    rw [wrap_i64_in (n := n + 1) (by omega) (by omega), wrap_i64_in (n := 0 - (n + 1)) (by omega) (by omega), wrap_u64, wrap_u64]
    congr 2; omega
  · simp -implicitDefEqProofs (disch := first | omega | (simp only [go_sem, List.size_toArray, List.length_cons, List.length_nil, Nat.reduceAdd]; done)) only [go_sem, Int.reduceLT, Int.reduceLE, Int.reduceEq, reduceIte, wrap_u64]
    rw [if_neg h0]
    refine ⟨by trivial, by trivial, by trivial, ?_⟩
    congr 2; omega
  · rintro ⟨fr, df, hh, rd⟩ ⟨rfl, rfl, h4, h3⟩
    simp only at h3 h4
    simp -implicitDefEqProofs (disch := first | omega | (simp only [go_sem, List.size_toArray, List.length_cons, List.length_nil, Nat.reduceAdd]; done)) only [go_sem, Int.reduceLT, Int.reduceLE, Int.reduceEq, reduceIte, h3, h4]
    refine xloop (σ := Nat × List Int) (by kernel_rfl) (fun a s => s.df = [] ∧ s.fr 4 = some (.int .u8 (if n < 0 then 1 else 0)) ∧ s.fr 3 = some (.int .u64 a.1) ∧ a.1 < 2 ^ 64 ∧ ∃ v, s.fr 5 = some v ∧ Made fU8 hh s.h v a.2 ∧ lowN n.natAbs = a.2 ++ lowN a.1 ∧ (a.2 = [] → v = .slice none 0 0)) (fun a => a.1) (n.natAbs, []) ?_ ?_
    · simp -implicitDefEqProofs (disch := first | omega | (simp only [go_sem, List.size_toArray, List.length_cons, List.length_nil, Nat.reduceAdd]; done)) only [go_sem, Int.reduceLT, Int.reduceLE, Int.reduceEq, reduceIte, h3, h4]
      exact ⟨by trivial, by trivial, by trivial, show n.natAbs < 2 ^ 64 by omega, _, rfl, .nil _ (.refl hh), by simp, fun _ => rfl⟩
    · rintro ⟨a, l⟩ ⟨fr, df, hp, rd⟩ K hK hX ⟨rfl, h4, h3, ha, v, h5, m, hl, hv⟩
      simp only at h4 h3 h5 m hl ha hv
      simp -implicitDefEqProofs (disch := first | omega | (simp only [go_sem, List.size_toArray, List.length_cons, List.length_nil, Nat.reduceAdd]; done)) only [go_sem, Int.reduceLT, Int.reduceLE, Int.reduceEq, reduceIte, h3, h4, h5]
      have hlen := h2
      rw [hl, List.length_append] at hlen
      refine XIf_dec (fun hc => ?_) (fun hc => ?_)
      · have hr : (a : Int).tmod 256 = ((a % 256 : Nat) : Int) := by rw [Int.tmod_eq_emod_of_nonneg (by omega)]; rfl
        have hq : (a : Int).tdiv 256 = ((a / 256 : Nat) : Int) := by rw [Int.tdiv_eq_ediv_of_nonneg (by omega)]; rfl
        have hw8 : IntKind.u8.wrap ((a % 256 : Nat) : Int) = ((a % 256 : Nat) : Int) := by rw [wrap_u8]; omega
        have hw64 : IntKind.u64.wrap ((a / 256 : Nat) : Int) = ((a / 256 : Nat) : Int) := by rw [wrap_u64]; omega
        obtain ⟨v2, h6, e2, m2⟩ := m.snoc app_22 (y := ((a % 256 : Nat) : Int)) (cs := [.int .u8 ((a % 256 : Nat) : Int)]) (z := 1) rfl rfl (inK_u8.2 (by omega)) (by omega) (by decide)
        simp -implicitDefEqProofs (disch := first | omega | (simp only [go_sem, List.size_toArray, List.length_cons, List.length_nil, Nat.reduceAdd]; done)) only [go_sem, Int.reduceLT, Int.reduceLE, Int.reduceEq, reduceIte, h3, h4, h5, bin_rem, bin_quo, hr, hq, hw8, hw64, e2]
        refine hK (a / 256, l ++ [((a % 256 : Nat) : Int)]) _ ?_ ?_
        · refine ⟨by trivial, by simp -implicitDefEqProofs (disch := first | omega | (simp only [go_sem, List.size_toArray, List.length_cons, List.length_nil, Nat.reduceAdd]; done)) only [go_sem, Int.reduceLT, Int.reduceLE, Int.reduceEq, reduceIte, h4], by simp -implicitDefEqProofs (disch := first | omega | (simp only [go_sem, List.size_toArray, List.length_cons, List.length_nil, Nat.reduceAdd]; done)) only [go_sem, Int.reduceLT, Int.reduceLE, Int.reduceEq, reduceIte], by simp only; omega, v2, by simp -implicitDefEqProofs (disch := first | omega | (simp only [go_sem, List.size_toArray, List.length_cons, List.length_nil, Nat.reduceAdd]; done)) only [go_sem, Int.reduceLT, Int.reduceLE, Int.reduceEq, reduceIte], m2, ?_, by simp⟩
          rw [hl, lowN_pos (by omega)]; simp
        · simp only; omega
      · have ha0 : a = 0 := by omega
        subst ha0
        rw [lowN_zero, List.append_nil] at hl
        refine hX _ _ (by simp) ?_
        have hd : IntKind.u8.wrap (IntKind.u8.wrap (IntKind.i64.wrap (2 * (l.length : Int))) + if n < 0 then 1 else 0) = 2 * ((lowN n.natAbs).length : Int) + if n < 0 then 1 else 0 := by
          rw [wrap_i64_in (by omega) (by omega), wrap_u8, wrap_u8, hl]; split <;> omega
        have hk : fU8.ok (2 * ((lowN n.natAbs).length : Int) + if n < 0 then 1 else 0) := inK_u8.2 (by split <;> omega)
        have m1 := Made.one (F := fU8) (z := 1) (cs := [.int .u8 (2 * ((lowN n.natAbs).length : Int) + if n < 0 then 1 else 0)]) m.ext rfl rfl hk
        obtain ⟨v2, h6, e2, m2, _⟩ := m1.append app_22 (m.arg.ext (Ext.push1 _ _)) (by simp; omega) (by decide)
        rw [← hl] at m2
        simp -implicitDefEqProofs (disch := first | omega | (simp only [go_sem, List.size_toArray, List.length_cons, List.length_nil, Nat.reduceAdd]; done)) only [go_sem, Int.reduceLT, Int.reduceLE, Int.reduceEq, reduceIte, h4, h5, m.arg.dLen (ts := #[22]) rfl isl_22, hd, e2]
        exact ⟨_, rfl, _, rfl, m2, by simp [numB]⟩

theorem Put_c {h : DHeap} {b l : Value} {lb ll : List Int} (hb : Arg fU8.rep h b lb) (hl : Arg fI64.rep h l ll) (hlen : lb.length + 9 * ll.length ≤ 1073741824) :
    DC Try.prog 74 [b, l] h (.ret (lv h (lb ++ numsB ll))) (lh fU8 h (lb ++ numsB ll)) := by
  have hok := hl.ok
  have hnl := numsB_len hok
  refine Ct.made (go_74 (by simp) ?_)
  obtain ⟨v0, h0', e0, m0, k0⟩ := (Made.nil fU8 (Ext.refl h)).append app_22 hb (by simp; omega) (by decide)
  rw [List.nil_append] at m0
  simp -implicitDefEqProofs (disch := first | omega | (simp only [go_sem, List.size_toArray, List.length_cons, List.length_nil, Nat.reduceAdd]; done)) only [go_sem, Int.reduceLT, Int.reduceLE, Int.reduceEq, reduceIte, c74, e0]
  refine xloop (σ := Nat × Value) (by kernel_rfl) (fun a s => s.df = [] ∧ s.fr 1 = some l ∧ s.fr 6 = some (.int .i64 a.1) ∧ a.1 ≤ ll.length ∧ s.fr 5 = some a.2 ∧ Made fU8 h s.h a.2 (lb ++ numsB (ll.take a.1)) ∧ (lb ++ numsB (ll.take a.1) = [] → a.2 = .slice none 0 0)) (fun a => ll.length - a.1) (0, v0) ?_ ?_
  · simp -implicitDefEqProofs (disch := first | omega | (simp only [go_sem, List.size_toArray, List.length_cons, List.length_nil, Nat.reduceAdd]; done)) only [go_sem, Int.reduceLT, Int.reduceLE, Int.reduceEq, reduceIte]
    exact ⟨by trivial, by trivial, rfl, by simp, by trivial, by simpa [numsB] using m0, fun hk => (k0 (by simpa [numsB] using hk)).1⟩
  · rintro ⟨i, v⟩ ⟨fr, df, hh, rd⟩ K hK hX ⟨rfl, h1, h6, hi, h5, m, hv⟩
    simp only at h1 h6 hi h5 m hv
    have hl2 := hl.ext m.ext
    simp -implicitDefEqProofs (disch := first | omega | (simp only [go_sem, List.size_toArray, List.length_cons, List.length_nil, Nat.reduceAdd]; done)) only [go_sem, Int.reduceLT, Int.reduceLE, Int.reduceEq, reduceIte, h1, h6, h5, hl2.dLen (ts := #[51]) rfl isl_51]
    refine XIf_dec (fun hc => ?_) (fun hc => ?_)
    · have hi' : i < ll.length := by omega
      have hx := get_of_lt hi'
      have hki := hok _ (List.getElem_mem hi')
      obtain ⟨id, o, e1, _, hat⟩ := hl2.idx (P := Try.prog) (t := 51) el_51 (k := .i64) hx
      simp -implicitDefEqProofs (disch := first | omega | (simp only [go_sem, List.size_toArray, List.length_cons, List.length_nil, Nat.reduceAdd]; done)) only [go_sem, Int.reduceLT, Int.reduceLE, Int.reduceEq, reduceIte, h1, h6, h5, e1, hat.int]
      refine ncall (refNum_c hki) ?_
      have mb := lh_made fU8 hh (numB_ok hki)
      have hsn := take_snoc hx
      have hnl2 := numsB_len (l := ll.take i) fun n hn => hok n (List.mem_of_mem_take hn)
      have hnb := numB_len hki
      obtain ⟨v2, h7, e2, m2, _⟩ := (m.on mb.ext).append app_22 mb.arg (by simp at hnl2 ⊢; omega) (by decide)
      simp -implicitDefEqProofs (disch := first | omega | (simp only [go_sem, List.size_toArray, List.length_cons, List.length_nil, Nat.reduceAdd]; done)) only [go_sem, Int.reduceLT, Int.reduceLE, Int.reduceEq, reduceIte, h1, h6, h5, e2, wrap_succ hi' (by omega)]
      refine hK (i + 1, v2) _ ?_ ?_
      · refine ⟨by trivial, by simp -implicitDefEqProofs (disch := first | omega | (simp only [go_sem, List.size_toArray, List.length_cons, List.length_nil, Nat.reduceAdd]; done)) only [go_sem, Int.reduceLT, Int.reduceLE, Int.reduceEq, reduceIte, h1], by simp -implicitDefEqProofs (disch := first | omega | (simp only [go_sem, List.size_toArray, List.length_cons, List.length_nil, Nat.reduceAdd]; done)) only [go_sem, Int.reduceLT, Int.reduceLE, Int.reduceEq, reduceIte], by simp only; omega, by simp -implicitDefEqProofs (disch := first | omega | (simp only [go_sem, List.size_toArray, List.length_cons, List.length_nil, Nat.reduceAdd]; done)) only [go_sem, Int.reduceLT, Int.reduceLE, Int.reduceEq, reduceIte], ?_, ?_⟩
        · simp only [hsn, numsB_snoc]
          rw [← List.append_assoc]; exact m2
        · simp only [hsn, numsB_snoc]
          intro hk
          simp [numB] at hk
      · simp only; omega
    · have hi' : i = ll.length := by omega
      subst hi'
      rw [List.take_length] at m hv
      refine hX _ _ (by simp) ?_
      simp -implicitDefEqProofs (disch := first | omega | (simp only [go_sem, List.size_toArray, List.length_cons, List.length_nil, Nat.reduceAdd]; done)) only [go_sem, Int.reduceLT, Int.reduceLE, Int.reduceEq, reduceIte, h5]
      exact ⟨_, rfl, _, rfl, m, hv⟩
theorem refnum_c {h : DHeap} {b l : Value} {lb ll : List Int} (hb : Arg fU8.rep h b lb) (hl : Arg fI64.rep h l ll) (hlen : lb.length + 9 * ll.length ≤ 1073741824) :
    DC Try.prog 54 [b, l] h (.ret (lv h (lb ++ numsB ll))) (lh fU8 h (lb ++ numsB ll)) := by
  have hok : ∀ x ∈ lb ++ numsB ll, fU8.ok x := by
    intro x hx
    rcases List.mem_append.1 hx with hx | hx
    · exact hb.ok x hx
    · obtain ⟨n, hn, hx⟩ := List.mem_flatMap.1 hx
      exact numB_ok (hl.ok n hn) x hx
  refine Ct.made (go_54 (by simp) ?_)
  simp -implicitDefEqProofs (disch := first | omega | (simp only [go_sem, List.size_toArray, List.length_cons, List.length_nil, Nat.reduceAdd]; done)) only [go_sem, Int.reduceLT, Int.reduceLE, Int.reduceEq, reduceIte, c54]
  refine ncall (Put_c hb hl hlen) ?_
  simp -implicitDefEqProofs (disch := first | omega | (simp only [go_sem, List.size_toArray, List.length_cons, List.length_nil, Nat.reduceAdd]; done)) only [go_sem, Int.reduceLT, Int.reduceLE, Int.reduceEq, reduceIte]
  exact ⟨_, rfl, _, rfl, lh_made fU8 h hok, fun hk => by rw [hk]; rfl⟩
end Go.Proofs.Ytlhgijpdhniddaa

namespace Go.Proofs.Ytlhgijpdhniddaa
open Go.D
set_option maxRecDepth 100000

def leI : List Int → Int
  | [] => 0
  | c :: r => c + 256 * leI r
theorem leI_bound : ∀ (n : Nat) (l : List Int), (∀ x ∈ l, 0 ≤ x ∧ x ≤ 255) → l.length ≤ n → 0 ≤ leI l ∧ leI l < 256 ^ n
  | _, [], _, _ => ⟨Int.le_refl _, by simp only [leI]; exact Int.pow_pos (by decide)⟩
  | 0, c :: r, _, h => by simp at h
  | n + 1, c :: r, hb, h => by
    have h1 := leI_bound n r (fun x hx => hb x (by simp [hx])) (by simpa using h)
    have h2 := hb c (by simp)
    simp only [leI]
    rw [Int.pow_succ]
    omega

/-- the number with which bytes begin, its size, what is wrong -/
def takeI : List Int → Int × Int × Int
  | [] => (0, 0, 10)
  | c :: r =>
    if 17 < c ∨ c = 1 then (0, 0, 11)
    else if r.length < (c / 2).toNat then (0, 0, 10)
    else if 0 < (c / 2).toNat ∧ r[(c / 2).toNat - 1]? = some 0 then (0, 0, 11)
    else if 9223372036854775808 < leI (r.take (c / 2).toNat) ∨ leI (r.take (c / 2).toNat) = 9223372036854775808 ∧ c % 2 = 0 then (0, 0, 11)
    else (if c % 2 = 1 then - leI (r.take (c / 2).toNat) else leI (r.take (c / 2).toNat), (c / 2).toNat + 1, 0)
theorem takeI_in {l : List Int} (hb : ∀ x ∈ l, 0 ≤ x ∧ x ≤ 255) : inK .i64 (takeI l).1 := by
  cases l with
  | nil => exact inK_i64.2 (by decide)
  | cons c r =>
    simp only [takeI]
    have h1 := leI_bound (r.take (c / 2).toNat).length (r.take (c / 2).toNat) (fun x hx => hb x (by simp [List.mem_of_mem_take hx])) (Nat.le_refl _)
    repeat' split
    all_goals first | (exact inK_i64.2 (by decide)) | (refine inK_i64.2 ?_; simp only; omega)

theorem takeI_form {c : Int} {r : List Int} (_ : 0 ≤ c ∧ c ≤ 255) (h : 17 < c ∨ c = 1) : takeI (c :: r) = (0, 0, 11) := by simp only [takeI]; rw [if_pos h]
theorem takeI_ends {c : Int} {r : List Int} {k : Nat} (hk : (c / 2).toNat = k) (h1 : ¬ 17 < c) (h2 : ¬ c = 1) (h : r.length < k) : takeI (c :: r) = (0, 0, 10) := by
  simp only [takeI, hk]; rw [if_neg (by omega), if_pos h]
theorem takeI_nought {c : Int} {r : List Int} {k : Nat} (hk : (c / 2).toNat = k) (h1 : ¬ 17 < c) (h2 : ¬ c = 1) (h3 : ¬ r.length < k) (h : 0 < k ∧ r[k - 1]? = some 0) : takeI (c :: r) = (0, 0, 11) := by
  simp only [takeI, hk]; rw [if_neg (by omega), if_neg h3, if_pos h]
theorem takeI_wide {c : Int} {r : List Int} {k : Nat} (hk : (c / 2).toNat = k) (h1 : ¬ 17 < c) (h2 : ¬ c = 1) (h3 : ¬ r.length < k) (h4 : ¬ (0 < k ∧ r[k - 1]? = some 0))
    (h : 9223372036854775808 < leI (r.take k) ∨ leI (r.take k) = 9223372036854775808 ∧ c % 2 = 0) : takeI (c :: r) = (0, 0, 11) := by
  simp only [takeI, hk]; rw [if_neg (by omega), if_neg h3, if_neg h4, if_pos h]
theorem takeI_ok {c : Int} {r : List Int} {k : Nat} (hk : (c / 2).toNat = k) (h1 : ¬ 17 < c) (h2 : ¬ c = 1) (h3 : ¬ r.length < k) (h4 : ¬ (0 < k ∧ r[k - 1]? = some 0))
    (h : ¬ (9223372036854775808 < leI (r.take k) ∨ leI (r.take k) = 9223372036854775808 ∧ c % 2 = 0)) : takeI (c :: r) = (if c % 2 = 1 then - leI (r.take k) else leI (r.take k), (k : Int) + 1, 0) := by
  simp only [takeI, hk]; rw [if_neg (by omega), if_neg h3, if_neg h4, if_neg h]

theorem stepLe {r : List Int} {i k : Nat} (hi : i < k) (hk : k ≤ r.length) : leI ((r.take k).drop i) = r[i] + 256 * leI ((r.take k).drop (i + 1)) := by
  have hl : i < (r.take k).length := by simp; omega
  rw [List.drop_eq_getElem_cons hl]
  simp [leI]

end Go.Proofs.Ytlhgijpdhniddaa

namespace Go.Proofs.Ytlhgijpdhniddaa
open Go.D
set_option maxRecDepth 100000

/-- what gives up with an error -/
def wrongV (e : Int) : Value := .iface 118 (.agg #[.int .i64 e])
theorem wrongV_vin {S : Nat → Prop} (e : Int) : VIn S (wrongV e) := .iface (.agg fun v hv => by simp at hv; subst hv; exact .int _ _)
theorem bd_wrong (e : Int) : dBuild Try.prog 118 [(0, .int .i64 e)] = some (.agg #[.int .i64 e]) := dBuild_at plc_118 rfl
theorem give_no {h : DHeap} (e : Int) : DC Try.prog 85 [.bool false, .int .i64 e] h (.ret (.tuple #[])) h := by
  refine Ct.pure (go_85 (by simp) ?_) (.tuple fun v hv => by simp at hv)
  simp -implicitDefEqProofs (disch := first | omega | (simp only [go_sem, List.size_toArray, List.length_cons, List.length_nil, Nat.reduceAdd]; done)) only [go_sem, Int.reduceLT, Int.reduceLE, Int.reduceEq, reduceIte, c85]
  exact ⟨_, rfl, rfl, .refl h⟩
theorem give_yes {h : DHeap} (e : Int) : DC Try.prog 85 [.bool true, .int .i64 e] h (.pan (wrongV e)) h := by
  refine Ct.purePan (go_85 (by simp) ?_) (wrongV_vin e)
  simp -implicitDefEqProofs (disch := first | omega | (simp only [go_sem, List.size_toArray, List.length_cons, List.length_nil, Nat.reduceAdd]; done)) only [go_sem, Int.reduceLT, Int.reduceLE, Int.reduceEq, reduceIte, c85, bd_wrong]
  exact ⟨rfl, .refl h⟩

theorem orBytes {a c : Int} (ha : 0 ≤ a) (ha2 : a < 72057594037927936) (hc : 0 ≤ c) (hc2 : c ≤ 255) :
    IntKind.u64.wrap (((BitVec.ofInt 64 (IntKind.u64.wrap (a * 256)) ||| BitVec.ofInt 64 (IntKind.u64.wrap c)).toNat : Nat) : Int) = c + 256 * a := by
  obtain ⟨m, rfl⟩ := Int.eq_ofNat_of_zero_le ha
  obtain ⟨n, rfl⟩ := Int.eq_ofNat_of_zero_le hc
  have h1 : IntKind.u64.wrap ((m : Int) * 256) = ((m * 256 : Nat) : Int) := by rw [wrap_u64]; omega
  have h2 : IntKind.u64.wrap (n : Int) = (n : Int) := by rw [wrap_u64]; omega
  rw [h1, h2]
  have h3 : (BitVec.ofInt 64 ((m * 256 : Nat) : Int)).toNat = m * 256 := by
    rw [BitVec.ofInt_natCast, BitVec.toNat_ofNat]; omega
  have h4 : (BitVec.ofInt 64 (n : Int)).toNat = n := by
    rw [BitVec.ofInt_natCast, BitVec.toNat_ofNat]; omega
  rw [BitVec.toNat_or, h3, h4]
  have h5 : m * 256 ||| n = m * 256 + n := by
    have := Nat.shiftLeft_add_eq_or_of_lt (show n < 2 ^ 8 by omega) m
    rw [Nat.shiftLeft_eq] at this
    exact this.symm
  rw [h5, wrap_u64]; omega

/-- as it is told by those who give up -/
def takeEnd (l : List Int) : DEnd := if (takeI l).2.2 = 0 then .ret (.tuple #[.int .i64 (takeI l).1, .int .i64 (takeI l).2.1]) else .pan (wrongV (takeI l).2.2)

theorem negWrap {u : Int} (h0 : 0 ≤ u) (h1 : u ≤ 9223372036854775808) : IntKind.i64.wrap (IntKind.u64.wrap (0 - u)) = - u := by
  by_cases hu0 : u = 0
  · subst hu0; decide
  · rw [wrap_u64, show (0 - u) % 18446744073709551616 = 18446744073709551616 - u by omega]
    have hx : ∀ n : Int, IntKind.i64.wrap n = if n % 18446744073709551616 ≥ 9223372036854775808 then n % 18446744073709551616 - 18446744073709551616 else n % 18446744073709551616 := by
      intro n
      simp [IntKind.wrap, IntKind.signed, IntKind.bits]
    rw [hx]
    split <;> omega
theorem takeEnd_vin {S : Nat → Prop} (l : List Int) : EndIn S (takeEnd l) := by
  by_cases h0 : (takeI l).2.2 = 0
  · simp only [takeEnd, h0, if_true]; exact vin_ints _ _ _ _
  · simp only [takeEnd, h0, if_false]; exact wrongV_vin _
theorem take_c {h : DHeap} {b : Value} {l : List Int} (hb : Arg fU8.rep h b l) (hlen : l.length ≤ 4294967296) :
    DC Try.prog 78 [b] h (takeEnd l) h := by
  have hok : ∀ x ∈ l, 0 ≤ x ∧ x ≤ 255 := fun x hx => inK_u8.1 (hb.ok x hx)
  refine Ct.pureEnd (go_78 (by simp) ?_) (takeEnd_vin l)
  have el := hb.dLen (P := Try.prog) (ts := #[22]) (t := 22) rfl isl_22
  have pan : ∀ {e : Int} {n k : Int}, takeI l = (n, k, e) → e ≠ 0 → takeEnd l = .pan (wrongV e) := by
    intro e n k hh he
    unfold takeEnd; rw [hh, if_neg he]
  simp -implicitDefEqProofs (disch := first | omega | (simp only [go_sem, List.size_toArray, List.length_cons, List.length_nil, Nat.reduceAdd]; done)) only [go_sem, Int.reduceLT, Int.reduceLE, Int.reduceEq, reduceIte, c78, el]
  cases l with
  | nil =>
    simp -implicitDefEqProofs (disch := first | omega | (simp only [go_sem, List.size_toArray, List.length_cons, List.length_nil, Nat.reduceAdd]; done)) only [go_sem, Int.reduceLT, Int.reduceLE, Int.reduceEq, reduceIte, List.length_nil, Int.natCast_zero]
    refine ncall_pan (give_yes _) ?_
    simp -implicitDefEqProofs (disch := first | omega | (simp only [go_sem, List.size_toArray, List.length_cons, List.length_nil, Nat.reduceAdd]; done)) only [go_sem, Int.reduceLT, Int.reduceLE, Int.reduceEq, reduceIte]
    exact ⟨(pan (e := 10) rfl (by decide)).symm, .refl h⟩
  | cons c r =>
    have hc := hok c (by simp)
    have hl0 : ¬ (((c :: r).length : Int) = 0) := by simp; omega
    obtain ⟨id, o, e1, _, hat⟩ := hb.idx (P := Try.prog) (t := 22) el_22 (k := .i64) (i := 0) (x := c) rfl
    have e1' : dIndexAddr Try.prog 22 b (.int .i64 0) = some (.pointer (some ⟨id, o, none⟩)) := e1
    obtain ⟨k, hk⟩ : ∃ k : Nat, (c / 2).toNat = k := ⟨_, rfl⟩
    have hkc : (k : Int) = c / 2 := by omega
    have hq : IntKind.i64.wrap (IntKind.u8.wrap (c.tdiv 2)) = (k : Int) := by
      rw [Int.tdiv_eq_ediv_of_nonneg hc.1, wrap_u8, wrap_i64_in (by omega) (by omega)]; omega
    simp -implicitDefEqProofs (disch := first | omega | (simp only [go_sem, List.size_toArray, List.length_cons, List.length_nil, Nat.reduceAdd]; done)) only [go_sem, Int.reduceLT, Int.reduceLE, Int.reduceEq, reduceIte, hl0]
    refine ncall (give_no _) ?_
    by_cases h17 : 17 < c
    · simp -implicitDefEqProofs (disch := first | omega | (simp only [go_sem, List.size_toArray, List.length_cons, List.length_nil, Nat.reduceAdd]; done)) only [go_sem, Int.reduceLT, Int.reduceLE, Int.reduceEq, reduceIte, e1', hat.int, h17]
      refine ncall_pan (give_yes _) ?_
      simp -implicitDefEqProofs (disch := first | omega | (simp only [go_sem, List.size_toArray, List.length_cons, List.length_nil, Nat.reduceAdd]; done)) only [go_sem, Int.reduceLT, Int.reduceLE, Int.reduceEq, reduceIte]
      exact ⟨(pan (takeI_form hc (.inl h17)) (by decide)).symm, .refl h⟩
    by_cases h1 : c = 1
    · subst h1
      simp -implicitDefEqProofs (disch := first | omega | (simp only [go_sem, List.size_toArray, List.length_cons, List.length_nil, Nat.reduceAdd]; done)) only [go_sem, Int.reduceLT, Int.reduceLE, Int.reduceEq, reduceIte, e1', hat.int]
      refine ncall_pan (give_yes _) ?_
      simp -implicitDefEqProofs (disch := first | omega | (simp only [go_sem, List.size_toArray, List.length_cons, List.length_nil, Nat.reduceAdd]; done)) only [go_sem, Int.reduceLT, Int.reduceLE, Int.reduceEq, reduceIte]
      exact ⟨(pan (takeI_form hc (.inr rfl)) (by decide)).symm, .refl h⟩
    simp -implicitDefEqProofs (disch := first | omega | (simp only [go_sem, List.size_toArray, List.length_cons, List.length_nil, Nat.reduceAdd]; done)) only [go_sem, Int.reduceLT, Int.reduceLE, Int.reduceEq, reduceIte, e1', hat.int, h17, h1]
    refine ncall (give_no _) ?_
    have hk8 : k ≤ 8 := by omega
    by_cases hrk : r.length < k
    · have hrk' : (((c :: r).length : Nat) : Int) ≤ (k : Int) := by simp; omega
      simp -implicitDefEqProofs (disch := first | omega | (simp only [go_sem, List.size_toArray, List.length_cons, List.length_nil, Nat.reduceAdd]; done)) only [go_sem, Int.reduceLT, Int.reduceLE, Int.reduceEq, reduceIte, e1', hat.int, bin_quo, hq, el, hrk']
      refine ncall_pan (give_yes _) ?_
      simp -implicitDefEqProofs (disch := first | omega | (simp only [go_sem, List.size_toArray, List.length_cons, List.length_nil, Nat.reduceAdd]; done)) only [go_sem, Int.reduceLT, Int.reduceLE, Int.reduceEq, reduceIte]
      exact ⟨(pan (takeI_ends hk h17 h1 hrk) (by decide)).symm, .refl h⟩
    have hrk' : ¬ (((c :: r).length : Nat) : Int) ≤ (k : Int) := by simp; omega
    simp -implicitDefEqProofs (disch := first | omega | (simp only [go_sem, List.size_toArray, List.length_cons, List.length_nil, Nat.reduceAdd]; done)) only [go_sem, Int.reduceLT, Int.reduceLE, Int.reduceEq, reduceIte, e1', hat.int, bin_quo, hq, el, hrk']
    refine ncall (give_no _) ?_
    have hrok : ∀ x ∈ r, 0 ≤ x ∧ x ≤ 255 := fun x hx => hok x (by simp [hx])
    by_cases hn : 0 < k ∧ r[k - 1]? = some 0
    · obtain ⟨id2, o2, e2, _, hat2⟩ := hb.idx (P := Try.prog) (t := 22) el_22 (k := .i64) (i := k) (x := 0) (by
        rw [show k = k - 1 + 1 by omega, List.getElem?_cons_succ]; exact hn.2)
      have hk0 : 0 < (k : Int) := by omega
      simp -implicitDefEqProofs (disch := first | omega | (simp only [go_sem, List.size_toArray, List.length_cons, List.length_nil, Nat.reduceAdd]; done)) only [go_sem, Int.reduceLT, Int.reduceLE, Int.reduceEq, reduceIte, hk0, e2, hat2.int]
      refine ncall_pan (give_yes _) ?_
      simp -implicitDefEqProofs (disch := first | omega | (simp only [go_sem, List.size_toArray, List.length_cons, List.length_nil, Nat.reduceAdd]; done)) only [go_sem, Int.reduceLT, Int.reduceLE, Int.reduceEq, reduceIte]
      exact ⟨(pan (takeI_nought hk h17 h1 hrk hn) (by decide)).symm, .refl h⟩
    have hcase : k = 0 ∨ ∃ x, r[k - 1]? = some x ∧ ¬ x = 0 ∧ 0 < k := by
      by_cases hk0 : k = 0
      · exact .inl hk0
      · have hlt : k - 1 < r.length := by omega
        refine .inr ⟨r[k - 1], get_of_lt hlt, fun hx => hn ⟨by omega, by rw [get_of_lt hlt, hx]⟩, by omega⟩
    rcases hcase with hk0 | ⟨x, hx, hx0, hk0⟩
    · have hk0' : ¬ 0 < (k : Int) := by omega
      simp -implicitDefEqProofs (disch := first | omega | (simp only [go_sem, List.size_toArray, List.length_cons, List.length_nil, Nat.reduceAdd]; done)) only [go_sem, Int.reduceLT, Int.reduceLE, Int.reduceEq, reduceIte, hk0']
      refine ncall (give_no _) ?_
      simp -implicitDefEqProofs (disch := first | omega | (simp only [go_sem, List.size_toArray, List.length_cons, List.length_nil, Nat.reduceAdd]; done)) only [go_sem, Int.reduceLT, Int.reduceLE, Int.reduceEq, reduceIte]
      refine xloop (σ := Nat) (by kernel_rfl) (fun i s => s.df = [] ∧ s.h = h ∧ s.fr 0 = some b ∧ s.fr 4 = some (.int .i64 k) ∧ s.fr 6 = some (.int .i64 i) ∧ i ≤ k ∧ s.fr 5 = some (.int .u64 (leI ((r.take k).drop i)))) (fun i => i) k ?_ ?_
      · simp -implicitDefEqProofs (disch := first | omega | (simp only [go_sem, List.size_toArray, List.length_cons, List.length_nil, Nat.reduceAdd]; done)) only [go_sem, Int.reduceLT, Int.reduceLE, Int.reduceEq, reduceIte]
        refine ⟨by trivial, by trivial, by trivial, by trivial, by trivial, Nat.le_refl _, ?_⟩
        rw [List.drop_of_length_le (by simp; omega)]; rfl
      · rintro i ⟨fr, df, hh, rd⟩ K hK hX ⟨rfl, rfl, h0, h5, h7, hi, h6⟩
        simp only at h0 h5 h7 h6
        simp -implicitDefEqProofs (disch := first | omega | (simp only [go_sem, List.size_toArray, List.length_cons, List.length_nil, Nat.reduceAdd]; done)) only [go_sem, Int.reduceLT, Int.reduceLE, Int.reduceEq, reduceIte, h0, h5, h6, h7]
        refine XIf_dec (fun hc1 => ?_) (fun hc1 => ?_)
        · obtain ⟨j, rfl⟩ : ∃ j, i = j + 1 := ⟨i - 1, by omega⟩
          have hj : j < r.length := by omega
          obtain ⟨id2, o2, e2, _, hat2⟩ := hb.idx (P := Try.prog) (t := 22) el_22 (k := .i64) (i := j + 1) (x := r[j]) (by simp)
          have hst := stepLe (r := r) (i := j) (k := k) (by omega) (by omega)
          have hb1 := leI_bound 7 ((r.take k).drop (j + 1)) (fun x hx => hrok x (List.mem_of_mem_take (List.mem_of_mem_drop hx))) (by simp; omega)
          have hbj := hrok r[j] (List.getElem_mem hj)
          have hw := orBytes hb1.1 (by omega) hbj.1 hbj.2
          rw [← hst] at hw
          have hsh : (2 : Int) ^ min (Int.toNat 8) 64 = 256 := by decide
          have hw2 : IntKind.i64.wrap (((j + 1 : Nat) : Int) - 1) = (j : Int) := by rw [wrap_i64_in (by omega) (by omega)]; omega
          simp -implicitDefEqProofs (disch := first | omega | (simp only [go_sem, List.size_toArray, List.length_cons, List.length_nil, Nat.reduceAdd]; done)) only [go_sem, Int.reduceLT, Int.reduceLE, Int.reduceEq, reduceIte, h0, h5, h6, h7, e2, hat2.int, bin_shl, hsh, hw, hw2]
          refine hK j _ ?_ (by omega)
          refine ⟨by trivial, by trivial, by simp -implicitDefEqProofs (disch := first | omega | (simp only [go_sem, List.size_toArray, List.length_cons, List.length_nil, Nat.reduceAdd]; done)) only [go_sem, Int.reduceLT, Int.reduceLE, Int.reduceEq, reduceIte, h0], by simp -implicitDefEqProofs (disch := first | omega | (simp only [go_sem, List.size_toArray, List.length_cons, List.length_nil, Nat.reduceAdd]; done)) only [go_sem, Int.reduceLT, Int.reduceLE, Int.reduceEq, reduceIte, h5], by simp -implicitDefEqProofs (disch := first | omega | (simp only [go_sem, List.size_toArray, List.length_cons, List.length_nil, Nat.reduceAdd]; done)) only [go_sem, Int.reduceLT, Int.reduceLE, Int.reduceEq, reduceIte], by omega, ?_⟩
          simp -implicitDefEqProofs (disch := first | omega | (simp only [go_sem, List.size_toArray, List.length_cons, List.length_nil, Nat.reduceAdd]; done)) only [go_sem, Int.reduceLT, Int.reduceLE, Int.reduceEq, reduceIte]
          exact congrArg (fun z => some (Value.int IntKind.u64 z)) hw
        · obtain rfl : i = 0 := by omega
          rw [List.drop_zero] at h6
          refine hX _ _ (by simp) ?_
          have hub := leI_bound 8 (r.take k) (fun x hx => hrok x (List.mem_of_mem_take hx)) (by simp; omega)
          obtain ⟨u, hu⟩ : ∃ u, leI (r.take k) = u := ⟨_, rfl⟩
          rw [hu] at h6 hub
          have hrem : c.tmod 2 = c % 2 := Int.tmod_eq_emod_of_nonneg hc.1
          have hkw : IntKind.i64.wrap ((k : Int) + 1) = (k : Int) + 1 := by rw [wrap_i64_in (by omega) (by omega)]
          by_cases hw : 9223372036854775808 < u
          · simp -implicitDefEqProofs (disch := first | omega | (simp only [go_sem, List.size_toArray, List.length_cons, List.length_nil, Nat.reduceAdd]; done)) only [go_sem, Int.reduceLT, Int.reduceLE, Int.reduceEq, reduceIte, h0, h5, h6, h7, e1', hat.int, bin_rem, hrem, hw]
            refine ncall_pan (give_yes _) ?_
            simp -implicitDefEqProofs (disch := first | omega | (simp only [go_sem, List.size_toArray, List.length_cons, List.length_nil, Nat.reduceAdd]; done)) only [go_sem, Int.reduceLT, Int.reduceLE, Int.reduceEq, reduceIte]
            exact ⟨(pan (takeI_wide hk h17 h1 hrk hn (by rw [hu]; omega)) (by decide)).symm, .refl hh⟩
          by_cases hp : c % 2 = 1
          · have hte : takeEnd (c :: r) = .ret (.tuple #[.int .i64 (- u), .int .i64 ((k : Int) + 1)]) := by
              unfold takeEnd; rw [takeI_ok hk h17 h1 hrk hn (by rw [hu]; omega), hu, if_pos hp, if_pos rfl]
            have hv := negWrap (u := u) (by omega) (by omega)
            rw [hte]
            by_cases hue : u = 9223372036854775808
            · simp -implicitDefEqProofs (disch := first | omega | (simp only [go_sem, List.size_toArray, List.length_cons, List.length_nil, Nat.reduceAdd]; done)) only [go_sem, Int.reduceLT, Int.reduceLE, Int.reduceEq, reduceIte, h0, h5, h6, h7, e1', hat.int, bin_rem, hrem, hw, hp, hue]
              refine ncall (give_no _) ?_
              rw [← hue]
              simp -implicitDefEqProofs (disch := first | omega | (simp only [go_sem, List.size_toArray, List.length_cons, List.length_nil, Nat.reduceAdd]; done)) only [go_sem, Int.reduceLT, Int.reduceLE, Int.reduceEq, reduceIte, h0, h5, h6, h7, hv, hkw]
              exact ⟨_, rfl, rfl, .refl hh⟩
            · simp -implicitDefEqProofs (disch := first | omega | (simp only [go_sem, List.size_toArray, List.length_cons, List.length_nil, Nat.reduceAdd]; done)) only [go_sem, Int.reduceLT, Int.reduceLE, Int.reduceEq, reduceIte, h0, h5, h6, h7, e1', hat.int, bin_rem, hrem, hw, hp, hue]
              refine ncall (give_no _) ?_
              simp -implicitDefEqProofs (disch := first | omega | (simp only [go_sem, List.size_toArray, List.length_cons, List.length_nil, Nat.reduceAdd]; done)) only [go_sem, Int.reduceLT, Int.reduceLE, Int.reduceEq, reduceIte, h0, h5, h6, h7, hv, hkw]
              exact ⟨_, rfl, rfl, .refl hh⟩
          · by_cases hue : u = 9223372036854775808
            · simp -implicitDefEqProofs (disch := first | omega | (simp only [go_sem, List.size_toArray, List.length_cons, List.length_nil, Nat.reduceAdd]; done)) only [go_sem, Int.reduceLT, Int.reduceLE, Int.reduceEq, reduceIte, h0, h5, h6, h7, e1', hat.int, bin_rem, hrem, hw, hp, hue]
              refine ncall_pan (give_yes _) ?_
              simp -implicitDefEqProofs (disch := first | omega | (simp only [go_sem, List.size_toArray, List.length_cons, List.length_nil, Nat.reduceAdd]; done)) only [go_sem, Int.reduceLT, Int.reduceLE, Int.reduceEq, reduceIte]
              exact ⟨(pan (takeI_wide hk h17 h1 hrk hn (by rw [hu]; omega)) (by decide)).symm, .refl hh⟩
            · have hte : takeEnd (c :: r) = .ret (.tuple #[.int .i64 u, .int .i64 ((k : Int) + 1)]) := by
                unfold takeEnd; rw [takeI_ok hk h17 h1 hrk hn (by rw [hu]; omega), hu, if_neg hp, if_pos rfl]
              rw [hte]
              simp -implicitDefEqProofs (disch := first | omega | (simp only [go_sem, List.size_toArray, List.length_cons, List.length_nil, Nat.reduceAdd]; done)) only [go_sem, Int.reduceLT, Int.reduceLE, Int.reduceEq, reduceIte, h0, h5, h6, h7, e1', hat.int, bin_rem, hrem, hw, hp, hue]
              refine ncall (give_no _) ?_
              simp -implicitDefEqProofs (disch := first | omega | (simp only [go_sem, List.size_toArray, List.length_cons, List.length_nil, Nat.reduceAdd]; done)) only [go_sem, Int.reduceLT, Int.reduceLE, Int.reduceEq, reduceIte, h0, h5, h6, h7, wrap_i64_in (n := u) (by omega) (by omega), hkw]
              exact ⟨_, rfl, rfl, .refl hh⟩
    · have hk0' : 0 < (k : Int) := by omega
      obtain ⟨id2, o2, e2, _, hat2⟩ := hb.idx (P := Try.prog) (t := 22) el_22 (k := .i64) (i := k) (x := x) (by
        rw [show k = k - 1 + 1 by omega, List.getElem?_cons_succ]; exact hx)
      simp -implicitDefEqProofs (disch := first | omega | (simp only [go_sem, List.size_toArray, List.length_cons, List.length_nil, Nat.reduceAdd]; done)) only [go_sem, Int.reduceLT, Int.reduceLE, Int.reduceEq, reduceIte, hk0', e2, hat2.int, hx0]
      refine ncall (give_no _) ?_
      simp -implicitDefEqProofs (disch := first | omega | (simp only [go_sem, List.size_toArray, List.length_cons, List.length_nil, Nat.reduceAdd]; done)) only [go_sem, Int.reduceLT, Int.reduceLE, Int.reduceEq, reduceIte]
      refine xloop (σ := Nat) (by kernel_rfl) (fun i s => s.df = [] ∧ s.h = h ∧ s.fr 0 = some b ∧ s.fr 4 = some (.int .i64 k) ∧ s.fr 6 = some (.int .i64 i) ∧ i ≤ k ∧ s.fr 5 = some (.int .u64 (leI ((r.take k).drop i)))) (fun i => i) k ?_ ?_
      · simp -implicitDefEqProofs (disch := first | omega | (simp only [go_sem, List.size_toArray, List.length_cons, List.length_nil, Nat.reduceAdd]; done)) only [go_sem, Int.reduceLT, Int.reduceLE, Int.reduceEq, reduceIte]
        refine ⟨by trivial, by trivial, by trivial, by trivial, by trivial, Nat.le_refl _, ?_⟩
        rw [List.drop_of_length_le (by simp; omega)]; rfl
      · rintro i ⟨fr, df, hh, rd⟩ K hK hX ⟨rfl, rfl, h0, h5, h7, hi, h6⟩
        simp only at h0 h5 h7 h6
        simp -implicitDefEqProofs (disch := first | omega | (simp only [go_sem, List.size_toArray, List.length_cons, List.length_nil, Nat.reduceAdd]; done)) only [go_sem, Int.reduceLT, Int.reduceLE, Int.reduceEq, reduceIte, h0, h5, h6, h7]
        refine XIf_dec (fun hc1 => ?_) (fun hc1 => ?_)
        · obtain ⟨j, rfl⟩ : ∃ j, i = j + 1 := ⟨i - 1, by omega⟩
          have hj : j < r.length := by omega
          obtain ⟨id2, o2, e2, _, hat2⟩ := hb.idx (P := Try.prog) (t := 22) el_22 (k := .i64) (i := j + 1) (x := r[j]) (by simp)
          have hst := stepLe (r := r) (i := j) (k := k) (by omega) (by omega)
          have hb1 := leI_bound 7 ((r.take k).drop (j + 1)) (fun x hx => hrok x (List.mem_of_mem_take (List.mem_of_mem_drop hx))) (by simp; omega)
          have hbj := hrok r[j] (List.getElem_mem hj)
          have hw := orBytes hb1.1 (by omega) hbj.1 hbj.2
          rw [← hst] at hw
          have hsh : (2 : Int) ^ min (Int.toNat 8) 64 = 256 := by decide
          have hw2 : IntKind.i64.wrap (((j + 1 : Nat) : Int) - 1) = (j : Int) := by rw [wrap_i64_in (by omega) (by omega)]; omega
          simp -implicitDefEqProofs (disch := first | omega | (simp only [go_sem, List.size_toArray, List.length_cons, List.length_nil, Nat.reduceAdd]; done)) only [go_sem, Int.reduceLT, Int.reduceLE, Int.reduceEq, reduceIte, h0, h5, h6, h7, e2, hat2.int, bin_shl, hsh, hw, hw2]
          refine hK j _ ?_ (by omega)
          refine ⟨by trivial, by trivial, by simp -implicitDefEqProofs (disch := first | omega | (simp only [go_sem, List.size_toArray, List.length_cons, List.length_nil, Nat.reduceAdd]; done)) only [go_sem, Int.reduceLT, Int.reduceLE, Int.reduceEq, reduceIte, h0], by simp -implicitDefEqProofs (disch := first | omega | (simp only [go_sem, List.size_toArray, List.length_cons, List.length_nil, Nat.reduceAdd]; done)) only [go_sem, Int.reduceLT, Int.reduceLE, Int.reduceEq, reduceIte, h5], by simp -implicitDefEqProofs (disch := first | omega | (simp only [go_sem, List.size_toArray, List.length_cons, List.length_nil, Nat.reduceAdd]; done)) only [go_sem, Int.reduceLT, Int.reduceLE, Int.reduceEq, reduceIte], by omega, ?_⟩
          simp -implicitDefEqProofs (disch := first | omega | (simp only [go_sem, List.size_toArray, List.length_cons, List.length_nil, Nat.reduceAdd]; done)) only [go_sem, Int.reduceLT, Int.reduceLE, Int.reduceEq, reduceIte]
          exact congrArg (fun z => some (Value.int IntKind.u64 z)) hw
        · obtain rfl : i = 0 := by omega
          rw [List.drop_zero] at h6
          refine hX _ _ (by simp) ?_
          have hub := leI_bound 8 (r.take k) (fun x hx => hrok x (List.mem_of_mem_take hx)) (by simp; omega)
          obtain ⟨u, hu⟩ : ∃ u, leI (r.take k) = u := ⟨_, rfl⟩
          rw [hu] at h6 hub
          have hrem : c.tmod 2 = c % 2 := Int.tmod_eq_emod_of_nonneg hc.1
          have hkw : IntKind.i64.wrap ((k : Int) + 1) = (k : Int) + 1 := by rw [wrap_i64_in (by omega) (by omega)]
          by_cases hw : 9223372036854775808 < u
          · simp -implicitDefEqProofs (disch := first | omega | (simp only [go_sem, List.size_toArray, List.length_cons, List.length_nil, Nat.reduceAdd]; done)) only [go_sem, Int.reduceLT, Int.reduceLE, Int.reduceEq, reduceIte, h0, h5, h6, h7, e1', hat.int, bin_rem, hrem, hw]
            refine ncall_pan (give_yes _) ?_
            simp -implicitDefEqProofs (disch := first | omega | (simp only [go_sem, List.size_toArray, List.length_cons, List.length_nil, Nat.reduceAdd]; done)) only [go_sem, Int.reduceLT, Int.reduceLE, Int.reduceEq, reduceIte]
            exact ⟨(pan (takeI_wide hk h17 h1 hrk hn (by rw [hu]; omega)) (by decide)).symm, .refl hh⟩
          by_cases hp : c % 2 = 1
          · have hte : takeEnd (c :: r) = .ret (.tuple #[.int .i64 (- u), .int .i64 ((k : Int) + 1)]) := by
              unfold takeEnd; rw [takeI_ok hk h17 h1 hrk hn (by rw [hu]; omega), hu, if_pos hp, if_pos rfl]
            have hv := negWrap (u := u) (by omega) (by omega)
            rw [hte]
            by_cases hue : u = 9223372036854775808
            · simp -implicitDefEqProofs (disch := first | omega | (simp only [go_sem, List.size_toArray, List.length_cons, List.length_nil, Nat.reduceAdd]; done)) only [go_sem, Int.reduceLT, Int.reduceLE, Int.reduceEq, reduceIte, h0, h5, h6, h7, e1', hat.int, bin_rem, hrem, hw, hp, hue]
              refine ncall (give_no _) ?_
              rw [← hue]
              simp -implicitDefEqProofs (disch := first | omega | (simp only [go_sem, List.size_toArray, List.length_cons, List.length_nil, Nat.reduceAdd]; done)) only [go_sem, Int.reduceLT, Int.reduceLE, Int.reduceEq, reduceIte, h0, h5, h6, h7, hv, hkw]
              exact ⟨_, rfl, rfl, .refl hh⟩
            · simp -implicitDefEqProofs (disch := first | omega | (simp only [go_sem, List.size_toArray, List.length_cons, List.length_nil, Nat.reduceAdd]; done)) only [go_sem, Int.reduceLT, Int.reduceLE, Int.reduceEq, reduceIte, h0, h5, h6, h7, e1', hat.int, bin_rem, hrem, hw, hp, hue]
              refine ncall (give_no _) ?_
              simp -implicitDefEqProofs (disch := first | omega | (simp only [go_sem, List.size_toArray, List.length_cons, List.length_nil, Nat.reduceAdd]; done)) only [go_sem, Int.reduceLT, Int.reduceLE, Int.reduceEq, reduceIte, h0, h5, h6, h7, hv, hkw]
              exact ⟨_, rfl, rfl, .refl hh⟩
          · by_cases hue : u = 9223372036854775808
            · simp -implicitDefEqProofs (disch := first | omega | (simp only [go_sem, List.size_toArray, List.length_cons, List.length_nil, Nat.reduceAdd]; done)) only [go_sem, Int.reduceLT, Int.reduceLE, Int.reduceEq, reduceIte, h0, h5, h6, h7, e1', hat.int, bin_rem, hrem, hw, hp, hue]
              refine ncall_pan (give_yes _) ?_
              simp -implicitDefEqProofs (disch := first | omega | (simp only [go_sem, List.size_toArray, List.length_cons, List.length_nil, Nat.reduceAdd]; done)) only [go_sem, Int.reduceLT, Int.reduceLE, Int.reduceEq, reduceIte]
              exact ⟨(pan (takeI_wide hk h17 h1 hrk hn (by rw [hu]; omega)) (by decide)).symm, .refl hh⟩
            · have hte : takeEnd (c :: r) = .ret (.tuple #[.int .i64 u, .int .i64 ((k : Int) + 1)]) := by
                unfold takeEnd; rw [takeI_ok hk h17 h1 hrk hn (by rw [hu]; omega), hu, if_neg hp, if_pos rfl]
              rw [hte]
              simp -implicitDefEqProofs (disch := first | omega | (simp only [go_sem, List.size_toArray, List.length_cons, List.length_nil, Nat.reduceAdd]; done)) only [go_sem, Int.reduceLT, Int.reduceLE, Int.reduceEq, reduceIte, h0, h5, h6, h7, e1', hat.int, bin_rem, hrem, hw, hp, hue]
              refine ncall (give_no _) ?_
              simp -implicitDefEqProofs (disch := first | omega | (simp only [go_sem, List.size_toArray, List.length_cons, List.length_nil, Nat.reduceAdd]; done)) only [go_sem, Int.reduceLT, Int.reduceLE, Int.reduceEq, reduceIte, h0, h5, h6, h7, wrap_i64_in (n := u) (by omega) (by omega), hkw]
              exact ⟨_, rfl, rfl, .refl hh⟩
end Go.Proofs.Ytlhgijpdhniddaa

namespace Go.Proofs.Ytlhgijpdhniddaa
open Go.D
set_option maxRecDepth 100000

theorem neq_nil {t : TypeId} {e : Int} {ox oy : Operand} {h : DHeap} : dBinOp Try.prog .neq 20 ox oy (.iface t (.agg #[.int .i64 e])) .nilIface h = .ok (.value (.bool true)) h := by
  kernel_rfl
theorem neq_nil2 {i : Nat} {h : DHeap} : dBinOp Try.prog .neq 20 (T i) (.const .nilIface) .nilIface .nilIface h = .ok (.value (.bool false)) h := by
  kernel_rfl
/-- where nothing was given up -/
theorem caught_ret {h : DHeap} {x : Value} : DCD Try.prog 84 [x] .ret h .ret h := by
  refine DCD_recN (fn := Try.f84) (rs := []) (by kernel_rfl) body_84 (by kernel_rfl) (by kernel_rfl) (n := 17) (Nat.le_add_left 1 16) (by kernel_rfl) (.refl h) ?_
  simp only [XOpsR]
  simp -implicitDefEqProofs (disch := first | omega | (simp only [go_sem, List.size_toArray, List.length_cons, List.length_nil, Nat.reduceAdd]; done)) only [go_sem, Int.reduceLT, Int.reduceLE, Int.reduceEq, reduceIte, dBuiltin_recover, neq_nil2]
  exact ⟨trivial, trivial, trivial, rfl, trivial⟩
/-- where it was -/
theorem caught_pan {h : DHeap} {id : Nat} {e : Int} {c : Value} {z : Nat} (hg : h.get id = some (.row [c] z false)) (hi : id < h.next) :
    ∃ h', DCD Try.prog 84 [.pointer (some ⟨id, 0, none⟩)] (.pan (wrongV e)) h (.recd (wrongV e)) h' ∧ (∀ j, j < h.next → j ≠ id → h'.get j = h.get j) ∧ h'.get id = some (.row [.int .i64 e] z false) ∧ h'.next = h.next + 1 ∧ h'.ng = h.ng := by
  refine ⟨((h.push (.row [.int .i64 e] 0 false))).set id (.row [.int .i64 e] z false), DCD_recN (fn := Try.f84) (rs := []) (by kernel_rfl) body_84 (by kernel_rfl) (by kernel_rfl) (n := 17) (Nat.le_add_left 1 16) (by kernel_rfl) ?_ ?_, ?_, ?_, rfl, rfl⟩
  · exact ⟨Nat.le_succ _, rfl⟩
  · simp only [XOpsR]
    have hst : dStore Try.prog 27 (.pointer (some ⟨id, 0, none⟩)) (.int .i64 e) (h.push (.row [.int .i64 e] 0 false)) = _ := (st_27 rfl).trans (store1 ((get_push_other _ _ hi).trans hg) rfl)
    simp -implicitDefEqProofs (disch := first | omega | (simp only [go_sem, List.size_toArray, List.length_cons, List.length_nil, Nat.reduceAdd]; done)) only [go_sem, Int.reduceLT, Int.reduceLE, Int.reduceEq, reduceIte, dBuiltin_recover, wrongV, neq_nil, store1_push (v := .int .i64 e) rfl, cell1_push, Nat.add_zero, hst]
    exact ⟨trivial, trivial, trivial, rfl, trivial⟩
  · intro j h1 h2
    rw [get_set_other _ _ h2, get_push_other _ _ h1]
  · exact get_set_same _ _
theorem good_caught : goodFn Try.prog 84 = true := by kernel_rfl
/-- what runs to its end -/
theorem try_ret {h : DHeap} {f : FuncId} {cs : List Value} {Q : DHeap → Prop} (hc : Ct Try.prog f cs (h.push (.row [.int .i64 0] 0 false)) fun r h1 => (∃ v, r = .ret v) ∧ Q h1) (hg : ∀ h1, Q h1 → h1.get h.next = some (.row [.int .i64 0] 0 false)) (hf : goodFn Try.prog f = true) :
    Ct Try.prog 76 [.func (.func f) #[] cs.toArray] h fun r h1 => r = .ret (.int .i64 0) ∧ Q h1 := by
  refine go_76 (by simp) ?_
  simp -implicitDefEqProofs (disch := first | omega | (simp only [go_sem, List.size_toArray, List.length_cons, List.length_nil, Nat.reduceAdd]; done)) only [go_sem, Int.reduceLT, Int.reduceLE, Int.reduceEq, reduceIte, c76, dCallO_func hf, List.nil_append, true_and]
  refine ncall_ct hc ?_
  rintro r h1 ⟨⟨v, rfl⟩, hq⟩
  have hst : dStore Try.prog 27 (.pointer (some ⟨h.next, 0, none⟩)) (.int .i64 0) h1 = some h1 := (st_27 rfl).trans ((store1 (hg h1 hq) rfl).trans (by rw [set_self (hg h1 hq)]))
  simp -implicitDefEqProofs (disch := first | omega | (simp only [go_sem, List.size_toArray, List.length_cons, List.length_nil, Nat.reduceAdd]; done)) only [go_sem, Int.reduceLT, Int.reduceLE, Int.reduceEq, reduceIte, hst, XEnd]
  refine XLv_fn good_caught caught_ret ?_
  simp -implicitDefEqProofs (disch := first | omega | (simp only [go_sem, List.size_toArray, List.length_cons, List.length_nil, Nat.reduceAdd]; done)) only [go_sem, Int.reduceLT, Int.reduceLE, Int.reduceEq, reduceIte, settleD, XLv_ret, dResults_c1, dResC_some]
  exact ⟨_, cell1 (hg h1 hq), rfl, hq⟩
/-- what gives up -/
theorem try_pan {h h1 : DHeap} {f : FuncId} {cs : List Value} {e : Int} (hc : DC Try.prog f cs (h.push (.row [.int .i64 0] 0 false)) (.pan (wrongV e)) h1) (hg : h1.get h.next = some (.row [.int .i64 0] 0 false)) (hi : h.next < h1.next) (hf : goodFn Try.prog f = true) :
    Ct Try.prog 76 [.func (.func f) #[] cs.toArray] h fun r h2 => r = .ret (.int .i64 e) ∧ h2.next = h1.next + 1 ∧ h2.ng = h1.ng ∧ (∀ j, j < h1.next → j ≠ h.next → h2.get j = h1.get j) := by
  refine go_76 (by simp) ?_
  simp -implicitDefEqProofs (disch := first | omega | (simp only [go_sem, List.size_toArray, List.length_cons, List.length_nil, Nat.reduceAdd]; done)) only [go_sem, Int.reduceLT, Int.reduceLE, Int.reduceEq, reduceIte, c76, dCallO_func hf, List.nil_append, true_and]
  refine ncall_pan hc ?_
  simp -implicitDefEqProofs (disch := first | omega | (simp only [go_sem, List.size_toArray, List.length_cons, List.length_nil, Nat.reduceAdd]; done)) only [go_sem, Int.reduceLT, Int.reduceLE, Int.reduceEq, reduceIte]
  obtain ⟨h2, hd, h3, h4, h5, h6⟩ := caught_pan (e := e) hg hi
  refine XLv_fn good_caught hd ?_
  simp -implicitDefEqProofs (disch := first | omega | (simp only [go_sem, List.size_toArray, List.length_cons, List.length_nil, Nat.reduceAdd]; done)) only [go_sem, Int.reduceLT, Int.reduceLE, Int.reduceEq, reduceIte, settleD, XLv_ret, dResults_c1, dResC_some]
  exact ⟨_, cell1 h4, rfl, h5, h6, h3⟩
/-- the closure, at three boxes -/
theorem boxed_no {h : DHeap} {a x y za zx zy : Nat} {b vx vy : Value} {l : List Int} (hb : Arg fU8.rep h b l) (hlen : l.length ≤ 4294967296) (ha : h.get a = some (.row [b] za false)) (h0 : ¬ (takeI l).2.2 = 0) :
    DC Try.prog 77 [.pointer (some ⟨a, 0, none⟩), .pointer (some ⟨x, 0, none⟩), .pointer (some ⟨y, 0, none⟩)] h (.pan (wrongV (takeI l).2.2)) h := by
  refine Ct.purePan (go_77 (by simp) ?_) (wrongV_vin _)
  have hld : dLoad Try.prog 22 (.pointer (some ⟨a, 0, none⟩)) h = some b := ld_22.trans (cell1 ha)
  have ht := take_c hb hlen
  rw [takeEnd, if_neg h0] at ht
  simp -implicitDefEqProofs (disch := first | omega | (simp only [go_sem, List.size_toArray, List.length_cons, List.length_nil, Nat.reduceAdd]; done)) only [go_sem, Int.reduceLT, Int.reduceLE, Int.reduceEq, reduceIte, c77, hld, true_and]
  refine ncall_pan ht ?_
  simp -implicitDefEqProofs (disch := first | omega | (simp only [go_sem, List.size_toArray, List.length_cons, List.length_nil, Nat.reduceAdd]; done)) only [go_sem, Int.reduceLT, Int.reduceLE, Int.reduceEq, reduceIte]
  exact ⟨by trivial, .refl h⟩
theorem boxed_ok {h : DHeap} {a x y za zx zy : Nat} {b vx vy : Value} {l : List Int} (hb : Arg fU8.rep h b l) (hlen : l.length ≤ 4294967296) (ha : h.get a = some (.row [b] za false)) (h0 : (takeI l).2.2 = 0)
    (hx : h.get x = some (.row [vx] zx false)) (hy : h.get y = some (.row [vy] zy false)) (hxy : y ≠ x) :
    Ct Try.prog 77 [.pointer (some ⟨a, 0, none⟩), .pointer (some ⟨x, 0, none⟩), .pointer (some ⟨y, 0, none⟩)] h fun r h1 => r = .ret (.tuple #[]) ∧ h1 = (h.set x (.row [.int .i64 (takeI l).1] zx false)).set y (.row [.int .i64 (takeI l).2.1] zy false) := by
  refine go_77 (by simp) ?_
  have hld : dLoad Try.prog 22 (.pointer (some ⟨a, 0, none⟩)) h = some b := ld_22.trans (cell1 ha)
  have ht := take_c hb hlen
  rw [takeEnd, if_pos h0] at ht
  simp -implicitDefEqProofs (disch := first | omega | (simp only [go_sem, List.size_toArray, List.length_cons, List.length_nil, Nat.reduceAdd]; done)) only [go_sem, Int.reduceLT, Int.reduceLE, Int.reduceEq, reduceIte, c77, hld, true_and]
  refine ncall ht ?_
  have h1 : dStore Try.prog 2 (.pointer (some ⟨x, 0, none⟩)) (.int .i64 (takeI l).1) h = _ := (st_2 rfl).trans (store1 hx rfl)
  have h2 : dStore Try.prog 3 (.pointer (some ⟨y, 0, none⟩)) (.int .i64 (takeI l).2.1) (h.set x (.row [.int .i64 (takeI l).1] zx false)) = _ := (st_3 rfl).trans (store1 ((get_set_other _ _ hxy).trans hy) rfl)
  simp -implicitDefEqProofs (disch := first | omega | (simp only [go_sem, List.size_toArray, List.length_cons, List.length_nil, Nat.reduceAdd]; done)) only [go_sem, Int.reduceLT, Int.reduceLE, Int.reduceEq, reduceIte, h1, h2]
  exact ⟨_, rfl, by trivial, by trivial⟩
theorem good_boxed : goodFn Try.prog 77 = true := by kernel_rfl
theorem boxedEnd {s : St} {R : DEnd → DHeap → Prop} {i j : Nat} {n k e : Int} (hdf : s.df = []) (hrd : s.rd = none) (f2 : s.fr 2 = some (.pointer (some ⟨i, 0, none⟩))) (f3 : s.fr 3 = some (.pointer (some ⟨j, 0, none⟩))) (f4 : s.fr 4 = some (.int .i64 e))
    (hi : s.h.get i = some (.row [.int .i64 n] 0 false)) (hj : s.h.get j = some (.row [.int .i64 k] 0 false)) (hR : R (.ret (.tuple #[.int .i64 n, .int .i64 k, .int .i64 e])) s.h) :
    xs Try.prog 10 (.seq r61_0 .ret) (XPost Try.prog [(.cell 2 2), (.cell 3 3), (.tmp 4)] R) s := by
  obtain ⟨fr, df, h, rd⟩ := s
  simp only at hdf hrd f2 f3 f4 hi hj hR
  subst hdf; subst hrd
  have l1 : dLoad Try.prog 2 (.pointer (some ⟨i, 0, none⟩)) h = some (.int .i64 n) := ld_2.trans (cell1 hi)
  have l2 : dLoad Try.prog 3 (.pointer (some ⟨j, 0, none⟩)) h = some (.int .i64 k) := ld_3.trans (cell1 hj)
  have s1 : dStore Try.prog 2 (.pointer (some ⟨i, 0, none⟩)) (.int .i64 n) h = some h := (st_2 rfl).trans ((store1 hi rfl).trans (by rw [set_self hi]))
  have s2 : dStore Try.prog 3 (.pointer (some ⟨j, 0, none⟩)) (.int .i64 k) h = some h := (st_3 rfl).trans ((store1 hj rfl).trans (by rw [set_self hj]))
  simp -implicitDefEqProofs (disch := first | omega | (simp only [go_sem, List.size_toArray, List.length_cons, List.length_nil, Nat.reduceAdd]; done)) only [go_sem, Int.reduceLT, Int.reduceLE, Int.reduceEq, reduceIte]
  refine dr_61_0 ?_
  simp -implicitDefEqProofs (disch := first | omega | (simp only [go_sem, List.size_toArray, List.length_cons, List.length_nil, Nat.reduceAdd]; done)) only [go_sem, Int.reduceLT, Int.reduceLE, Int.reduceEq, reduceIte, l61_0, f2, f3, f4, l1, l2, s1, s2, true_and]
  refine ⟨⟨XSt1_at (i := 1) (j := 3) rfl rfl rfl ?_, trivial⟩, .tuple #[.int .i64 n, .int .i64 k, .int .i64 e], ?_, hR⟩
  · rw [if_neg (by decide)]
    refine Ld_on (p := .pointer (some ⟨j, 0, none⟩)) ?_ ?_ l2
    · simp -implicitDefEqProofs (disch := first | omega | (simp only [go_sem, List.size_toArray, List.length_cons, List.length_nil, Nat.reduceAdd]; done)) only [go_sem, Int.reduceLT, Int.reduceLE, Int.reduceEq, reduceIte]
    · simp -implicitDefEqProofs (disch := first | omega | (simp only [go_sem, List.size_toArray, List.length_cons, List.length_nil, Nat.reduceAdd]; done)) only [go_sem, Int.reduceLT, Int.reduceLE, Int.reduceEq, reduceIte, f3]
  · simp -implicitDefEqProofs (disch := first | omega | (simp only [go_sem, List.size_toArray, List.length_cons, List.length_nil, Nat.reduceAdd]; done)) only [go_sem, Int.reduceLT, Int.reduceLE, Int.reduceEq, reduceIte, dResults_d3, dRes1_tmp, dRes1_cell, dResC_some, f2, f3, l1, l2]
/-- a number of bytes, or what is wrong with it: shape.TakeNum -/
theorem takeNum_c {h : DHeap} {b : Value} {l : List Int} (hb : Arg fU8.rep h b l) (hlen : l.length ≤ 4294967296) :
    DC Try.prog 61 [b] h (.ret (.tuple #[.int .i64 (if (takeI l).2.2 = 0 then (takeI l).1 else 0), .int .i64 (if (takeI l).2.2 = 0 then (takeI l).2.1 else 0), .int .i64 (takeI l).2.2])) h := by
  refine Ct.pure (go_61 (by simp) ?_) (vin_ints3 _ _ _ _ _ _)
  obtain ⟨ba, bc, rfl⟩ := hb.isSlice
  obtain ⟨b, hbe⟩ : ∃ b, b = Value.slice ba l.length bc := ⟨_, rfl⟩
  simp -implicitDefEqProofs (disch := first | omega | (simp only [go_sem, List.size_toArray, List.length_cons, List.length_nil, Nat.reduceAdd]; done)) only [go_sem, Int.reduceLT, Int.reduceLE, Int.reduceEq, reduceIte, c61, next_push, true_and]
  rw [← hbe] at hb ⊢
  obtain ⟨H, hH⟩ : ∃ H, H = ((h.push (DObj.row [b] 0 false)).push (DObj.row [Value.int IntKind.i64 0] 0 false)).push (DObj.row [Value.int IntKind.i64 0] 0 false) := ⟨_, rfl⟩
  have hex : Ext h H := by rw [hH]; exact ((Ext.push1 _ _).push _).push _
  have hnx : H.next = h.next + 1 + 1 + 1 := by rw [hH]; rfl
  have hga : H.get h.next = some (.row [b] 0 false) := by
    rw [hH, get_push_other _ _ (by simp only [next_push]; omega), get_push_other _ _ (by simp only [next_push]; omega), get_push_same]
  have hgx : H.get (h.next + 1) = some (.row [.int .i64 0] 0 false) := by
    rw [hH, get_push_other _ _ (by simp only [next_push]; omega), get_push_at _ _ (by simp only [next_push])]
  have hgy : H.get (h.next + 1 + 1) = some (.row [.int .i64 0] 0 false) := by
    rw [hH, get_push_at _ _ (by simp only [next_push])]
  rw [← hH]
  have hb1 := hb.ext (hex.push (.row [.int .i64 0] 0 false))
  by_cases h0 : (takeI l).2.2 = 0
  · have hc := boxed_ok (h := H.push (.row [.int .i64 0] 0 false)) (x := h.next + 1) (y := h.next + 1 + 1) (zx := 0) (zy := 0) (vx := .int .i64 0) (vy := .int .i64 0) hb1 hlen ((get_push_other _ _ (by omega)).trans hga) h0 ((get_push_other _ _ (by omega)).trans hgx) ((get_push_other _ _ (by omega)).trans hgy) (by omega)
    refine ncall_ct (try_ret (Q := fun h1 => h1 = _) (Ct.mono hc fun r h1 hh => ⟨⟨_, hh.1⟩, hh.2⟩) ?_ good_boxed) ?_
    · rintro h1 rfl
      rw [get_set_other _ _ (by omega), get_set_other _ _ (by omega), get_push_same]
    rintro r h1 ⟨rfl, rfl⟩
    simp -implicitDefEqProofs (disch := first | omega | (simp only [go_sem, List.size_toArray, List.length_cons, List.length_nil, Nat.reduceAdd]; done)) only [go_sem, Int.reduceLT, Int.reduceLE, Int.reduceEq, reduceIte, XEnd]
    refine boxedEnd (i := h.next + 1) (j := h.next + 1 + 1) (n := (takeI l).1) (k := (takeI l).2.1) (e := 0) rfl rfl ?_ ?_ ?_ ?_ ?_ ?_
    · simp -implicitDefEqProofs (disch := first | omega | (simp only [go_sem, List.size_toArray, List.length_cons, List.length_nil, Nat.reduceAdd]; done)) only [go_sem, Int.reduceLT, Int.reduceLE, Int.reduceEq, reduceIte]
    · simp -implicitDefEqProofs (disch := first | omega | (simp only [go_sem, List.size_toArray, List.length_cons, List.length_nil, Nat.reduceAdd]; done)) only [go_sem, Int.reduceLT, Int.reduceLE, Int.reduceEq, reduceIte]
    · simp -implicitDefEqProofs (disch := first | omega | (simp only [go_sem, List.size_toArray, List.length_cons, List.length_nil, Nat.reduceAdd]; done)) only [go_sem, Int.reduceLT, Int.reduceLE, Int.reduceEq, reduceIte]
    · rw [get_set_other _ _ (by omega), get_set_same]
    · rw [get_set_same]
    · refine ⟨by rw [h0]; rfl, ((hex.push _).set (by omega)).set (by omega)⟩
  · have hc := boxed_no (h := H.push (.row [.int .i64 0] 0 false)) (x := h.next + 1) (y := h.next + 1 + 1) (zx := 0) (zy := 0) (vx := b) (vy := b) hb1 hlen ((get_push_other _ _ (by omega)).trans hga) h0
    refine ncall_ct (try_pan hc (get_push_same _ _) (Nat.lt_succ_self _) good_boxed) ?_
    rintro r h2 ⟨rfl, e1, e2, e3⟩
    simp -implicitDefEqProofs (disch := first | omega | (simp only [go_sem, List.size_toArray, List.length_cons, List.length_nil, Nat.reduceAdd]; done)) only [go_sem, Int.reduceLT, Int.reduceLE, Int.reduceEq, reduceIte, XEnd]
    refine boxedEnd (i := h.next + 1) (j := h.next + 1 + 1) (n := 0) (k := 0) (e := (takeI l).2.2) rfl rfl ?_ ?_ ?_ ?_ ?_ ?_
    · simp -implicitDefEqProofs (disch := first | omega | (simp only [go_sem, List.size_toArray, List.length_cons, List.length_nil, Nat.reduceAdd]; done)) only [go_sem, Int.reduceLT, Int.reduceLE, Int.reduceEq, reduceIte]
    · simp -implicitDefEqProofs (disch := first | omega | (simp only [go_sem, List.size_toArray, List.length_cons, List.length_nil, Nat.reduceAdd]; done)) only [go_sem, Int.reduceLT, Int.reduceLE, Int.reduceEq, reduceIte]
    · simp -implicitDefEqProofs (disch := first | omega | (simp only [go_sem, List.size_toArray, List.length_cons, List.length_nil, Nat.reduceAdd]; done)) only [go_sem, Int.reduceLT, Int.reduceLE, Int.reduceEq, reduceIte]
    · exact (e3 _ (by rw [next_push]; omega) (by omega)).trans ((get_push_other _ _ (by omega)).trans hgx)
    · exact (e3 _ (by rw [next_push]; omega) (by omega)).trans ((get_push_other _ _ (by omega)).trans hgy)
    · refine ⟨by simp only [if_neg h0], ⟨by rw [e1, next_push]; omega, by rw [e2, ng_push]; exact hex.ng, fun i hi => ?_⟩⟩
      rw [e3 _ (by rw [next_push]; omega) (by omega), get_push_other _ _ (by omega)]
      exact hex.get i hi
end Go.Proofs.Ytlhgijpdhniddaa

namespace Go.Proofs.Ytlhgijpdhniddaa
open Go.D
set_option maxRecDepth 100000

def countB (n m : Int) : Bool := decide (0 ≤ n) && decide (n ≤ m)
theorem count_c {h : DHeap} {n m : Int} : DC Try.prog 43 [.int .i64 n, .int .i64 m] h (.ret (.bool (countB n m))) h := by
  refine Ct.pure (go_43 (by simp) ?_) (vin_bool _)
  unfold countB
  by_cases h0 : 0 ≤ n
  · simp -implicitDefEqProofs (disch := first | omega | (simp only [go_sem, List.size_toArray, List.length_cons, List.length_nil, Nat.reduceAdd]; done)) only [go_sem, Int.reduceLT, Int.reduceLE, Int.reduceEq, reduceIte, c43, ge_iff_le, h0, dPick_t, Bool.true_and]
    exact ⟨_, rfl, rfl, .refl h⟩
  · simp -implicitDefEqProofs (disch := first | omega | (simp only [go_sem, List.size_toArray, List.length_cons, List.length_nil, Nat.reduceAdd]; done)) only [go_sem, Int.reduceLT, Int.reduceLE, Int.reduceEq, reduceIte, c43, ge_iff_le, h0, dPick_f, Bool.false_and]
    exact ⟨_, rfl, rfl, .refl h⟩

theorem nan32_c {h : DHeap} {n : Int} : DC Try.prog 81 [.int .i32 n] h (.ret (.bool false)) h := by
  refine Ct.pure (go_81 (by simp) ?_) (vin_bool _)
  simp -implicitDefEqProofs (disch := first | omega | (simp only [go_sem, List.size_toArray, List.length_cons, List.length_nil, Nat.reduceAdd]; done)) only [go_sem, Int.reduceLT, Int.reduceLE, Int.reduceEq, reduceIte, c81]
  exact ⟨_, rfl, rfl, .refl h⟩
theorem nan64_c {h : DHeap} {n : Int} : DC Try.prog 82 [.int .i64 n] h (.ret (.bool false)) h := by
  refine Ct.pure (go_82 (by simp) ?_) (vin_bool _)
  simp -implicitDefEqProofs (disch := first | omega | (simp only [go_sem, List.size_toArray, List.length_cons, List.length_nil, Nat.reduceAdd]; done)) only [go_sem, Int.reduceLT, Int.reduceLE, Int.reduceEq, reduceIte, c82]
  exact ⟨_, rfl, rfl, .refl h⟩
def cmpI (a b : Int) : Int := if a < b then -1 else if b < a then 1 else 0
theorem cmp32_c {h : DHeap} {a b : Int} : DC Try.prog 71 [.int .i32 a, .int .i32 b] h (.ret (.int .i64 (cmpI a b))) h := by
  refine Ct.pure (go_71 (by simp) ?_) (vin_int _ _)
  unfold cmpI
  simp -implicitDefEqProofs (disch := first | omega | (simp only [go_sem, List.size_toArray, List.length_cons, List.length_nil, Nat.reduceAdd]; done)) only [go_sem, Int.reduceLT, Int.reduceLE, Int.reduceEq, reduceIte, c71]
  refine ncall nan32_c ?_
  simp -implicitDefEqProofs (disch := first | omega | (simp only [go_sem, List.size_toArray, List.length_cons, List.length_nil, Nat.reduceAdd]; done)) only [go_sem, Int.reduceLT, Int.reduceLE, Int.reduceEq, reduceIte]
  refine ncall nan32_c ?_
  by_cases h0 : a < b
  · simp -implicitDefEqProofs (disch := first | omega | (simp only [go_sem, List.size_toArray, List.length_cons, List.length_nil, Nat.reduceAdd]; done)) only [go_sem, Int.reduceLT, Int.reduceLE, Int.reduceEq, reduceIte, h0]
    exact ⟨_, rfl, rfl, .refl h⟩
  by_cases h1 : b < a
  · simp -implicitDefEqProofs (disch := first | omega | (simp only [go_sem, List.size_toArray, List.length_cons, List.length_nil, Nat.reduceAdd]; done)) only [go_sem, Int.reduceLT, Int.reduceLE, Int.reduceEq, reduceIte, h0, gt_iff_lt, h1]
    exact ⟨_, rfl, rfl, .refl h⟩
  · simp -implicitDefEqProofs (disch := first | omega | (simp only [go_sem, List.size_toArray, List.length_cons, List.length_nil, Nat.reduceAdd]; done)) only [go_sem, Int.reduceLT, Int.reduceLE, Int.reduceEq, reduceIte, h0, gt_iff_lt, h1]
    exact ⟨_, rfl, rfl, .refl h⟩
theorem cmp64_c {h : DHeap} {a b : Int} : DC Try.prog 72 [.int .i64 a, .int .i64 b] h (.ret (.int .i64 (cmpI a b))) h := by
  refine Ct.pure (go_72 (by simp) ?_) (vin_int _ _)
  unfold cmpI
  simp -implicitDefEqProofs (disch := first | omega | (simp only [go_sem, List.size_toArray, List.length_cons, List.length_nil, Nat.reduceAdd]; done)) only [go_sem, Int.reduceLT, Int.reduceLE, Int.reduceEq, reduceIte, c72]
  refine ncall nan64_c ?_
  simp -implicitDefEqProofs (disch := first | omega | (simp only [go_sem, List.size_toArray, List.length_cons, List.length_nil, Nat.reduceAdd]; done)) only [go_sem, Int.reduceLT, Int.reduceLE, Int.reduceEq, reduceIte]
  refine ncall nan64_c ?_
  by_cases h0 : a < b
  · simp -implicitDefEqProofs (disch := first | omega | (simp only [go_sem, List.size_toArray, List.length_cons, List.length_nil, Nat.reduceAdd]; done)) only [go_sem, Int.reduceLT, Int.reduceLE, Int.reduceEq, reduceIte, h0]
    exact ⟨_, rfl, rfl, .refl h⟩
  by_cases h1 : b < a
  · simp -implicitDefEqProofs (disch := first | omega | (simp only [go_sem, List.size_toArray, List.length_cons, List.length_nil, Nat.reduceAdd]; done)) only [go_sem, Int.reduceLT, Int.reduceLE, Int.reduceEq, reduceIte, h0, gt_iff_lt, h1]
    exact ⟨_, rfl, rfl, .refl h⟩
  · simp -implicitDefEqProofs (disch := first | omega | (simp only [go_sem, List.size_toArray, List.length_cons, List.length_nil, Nat.reduceAdd]; done)) only [go_sem, Int.reduceLT, Int.reduceLE, Int.reduceEq, reduceIte, h0, gt_iff_lt, h1]
    exact ⟨_, rfl, rfl, .refl h⟩
def orI : List Int → Int
  | [] => 0
  | a :: l => if a = 0 then orI l else a
theorem or_c {h : DHeap} {b : Value} {l : List Int} (hb : Arg fI64.rep h b l) (hlen : l.length ≤ 4294967296) : DC Try.prog 70 [b] h (.ret (.int .i64 (orI l))) h := by
  refine Ct.pure (go_70 (by simp) ?_) (vin_int _ _)
  have el := hb.dLen (P := Try.prog) (ts := #[115]) (t := 115) rfl isl_115
  simp -implicitDefEqProofs (disch := first | omega | (simp only [go_sem, List.size_toArray, List.length_cons, List.length_nil, Nat.reduceAdd]; done)) only [go_sem, Int.reduceLT, Int.reduceLE, Int.reduceEq, reduceIte, c70, el]
  refine xloop (σ := Nat) (by kernel_rfl) (fun i s => s.df = [] ∧ s.h = h ∧ s.fr 3 = some (.int .i64 0) ∧ s.fr 6 = some b ∧ s.fr 7 = some (.int .i64 l.length) ∧ s.fr 8 = some (.int .i64 (i : Nat)) ∧ i ≤ l.length ∧ orI (l.drop i) = orI l) (fun i => l.length - i) 0 ?_ ?_
  · simp -implicitDefEqProofs (disch := first | omega | (simp only [go_sem, List.size_toArray, List.length_cons, List.length_nil, Nat.reduceAdd]; done)) only [go_sem, Int.reduceLT, Int.reduceLE, Int.reduceEq, reduceIte]
    exact ⟨by trivial, by trivial, by trivial, by trivial, by trivial, by trivial, Nat.zero_le _, by rw [List.drop_zero]⟩
  · rintro i ⟨fr, df, hh, rd⟩ K hK hX ⟨rfl, rfl, h3, h6, h7, h8, hi, ho⟩
    simp only at h3 h6 h7 h8
    simp -implicitDefEqProofs (disch := first | omega | (simp only [go_sem, List.size_toArray, List.length_cons, List.length_nil, Nat.reduceAdd]; done)) only [go_sem, Int.reduceLT, Int.reduceLE, Int.reduceEq, reduceIte, h3, h6, h7, h8]
    refine XIf_dec (fun hc1 => ?_) (fun hc1 => ?_)
    · have hj : i < l.length := by omega
      obtain ⟨id2, o2, e2, _, hat2⟩ := hb.idx (P := Try.prog) (t := 115) el_115 (k := .i64) (i := i) (x := l[i]) (by simp)
      have hw := wrap_succ hj (by omega)
      rw [List.drop_eq_getElem_cons hj] at ho
      by_cases hx : l[i] = 0
      · simp -implicitDefEqProofs (disch := first | omega | (simp only [go_sem, List.size_toArray, List.length_cons, List.length_nil, Nat.reduceAdd]; done)) only [go_sem, Int.reduceLT, Int.reduceLE, Int.reduceEq, reduceIte, h3, h6, h7, h8, e2, hat2.int, hx, hw]
        refine hK (i + 1) _ ?_ (by omega)
        exact ⟨by trivial, by trivial, by simp -implicitDefEqProofs (disch := first | omega | (simp only [go_sem, List.size_toArray, List.length_cons, List.length_nil, Nat.reduceAdd]; done)) only [go_sem, Int.reduceLT, Int.reduceLE, Int.reduceEq, reduceIte, h3], by simp -implicitDefEqProofs (disch := first | omega | (simp only [go_sem, List.size_toArray, List.length_cons, List.length_nil, Nat.reduceAdd]; done)) only [go_sem, Int.reduceLT, Int.reduceLE, Int.reduceEq, reduceIte, h6], by simp -implicitDefEqProofs (disch := first | omega | (simp only [go_sem, List.size_toArray, List.length_cons, List.length_nil, Nat.reduceAdd]; done)) only [go_sem, Int.reduceLT, Int.reduceLE, Int.reduceEq, reduceIte, h7], by simp -implicitDefEqProofs (disch := first | omega | (simp only [go_sem, List.size_toArray, List.length_cons, List.length_nil, Nat.reduceAdd]; done)) only [go_sem, Int.reduceLT, Int.reduceLE, Int.reduceEq, reduceIte], by omega, by rw [← ho, orI, if_pos hx]⟩
      · simp -implicitDefEqProofs (disch := first | omega | (simp only [go_sem, List.size_toArray, List.length_cons, List.length_nil, Nat.reduceAdd]; done)) only [go_sem, Int.reduceLT, Int.reduceLE, Int.reduceEq, reduceIte, h3, h6, h7, h8, e2, hat2.int, hx, hw]
        refine hX _ _ (by simp) ?_
        simp -implicitDefEqProofs (disch := first | omega | (simp only [go_sem, List.size_toArray, List.length_cons, List.length_nil, Nat.reduceAdd]; done)) only [go_sem, Int.reduceLT, Int.reduceLE, Int.reduceEq, reduceIte]
        refine ⟨_, rfl, ?_, .refl hh⟩
        rw [← ho, orI, if_neg hx]
    · obtain rfl : i = l.length := by omega
      refine hX _ _ (by simp) ?_
      simp -implicitDefEqProofs (disch := first | omega | (simp only [go_sem, List.size_toArray, List.length_cons, List.length_nil, Nat.reduceAdd]; done)) only [go_sem, Int.reduceLT, Int.reduceLE, Int.reduceEq, reduceIte, h3]
      refine ⟨_, rfl, ?_, .refl hh⟩
      rw [← ho, List.drop_length]; rfl
end Go.Proofs.Ytlhgijpdhniddaa
