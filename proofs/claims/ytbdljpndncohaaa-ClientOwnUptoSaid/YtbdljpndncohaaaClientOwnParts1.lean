/-
A part of the proof of a law: contracts of functions over plain heaps, and what they lean on. Conditions: none.
-/
import Derived.Test.YtbdljpndncohaaaChecked
import Derived.KernelRfl
import Derived.Test.YtbdljpndncohaaaBase1
import Derived.Test.YtbdljpndncohaaaBase2
set_option linter.unusedSimpArgs false
set_option linter.unusedVariables false
namespace Go.Proofs.Ytbdljpndncohaaa
open Go.D
set_option maxRecDepth 100000
/-! trivet/trivetlaw25.ClientAsks -/
def o3_0 : Array Oper := #[⟨(some 22), (.fieldAddr 29 (T 3) 0), 0, "law.go:160", #[], none⟩,
 ⟨(some 23), (.load 3 (T 22)), 3, "law.go:160", #[⟨0, .data⟩], none⟩,
 ⟨(some 24), (.fieldAddr 29 (T 3) 1), 0, "law.go:160", #[⟨6, (.gcOnly Go.Departure.lateStores)⟩], none⟩,
 ⟨(some 25), (.load 3 (T 24)), 3, "law.go:160", #[⟨2, .data⟩, ⟨6, (.gcOnly Go.Departure.lateStores)⟩], none⟩,
 ⟨(some 26), (.fieldAddr 29 (T 3) 2), 0, "law.go:160", #[⟨7, (.gcOnly Go.Departure.lateStores)⟩], none⟩,
 ⟨(some 27), (.load 27 (T 26)), 27, "law.go:160", #[⟨4, .data⟩, ⟨7, (.gcOnly Go.Departure.lateStores)⟩], none⟩,
 ⟨(some 5), (.assign (T 23)), 3, "law.go:160", #[⟨1, .data⟩, ⟨0, .phase⟩, ⟨1, .phase⟩, ⟨2, (.textOnly Go.Departure.lateStores)⟩, ⟨3, (.textOnly Go.Departure.lateStores)⟩, ⟨4, (.textOnly Go.Departure.lateStores)⟩, ⟨5, (.textOnly Go.Departure.lateStores)⟩], none⟩,
 ⟨(some 6), (.assign (T 25)), 3, "law.go:160", #[⟨3, .data⟩, ⟨6, .chain⟩, ⟨0, .phase⟩, ⟨1, .phase⟩, ⟨2, .phase⟩, ⟨3, .phase⟩, ⟨4, (.textOnly Go.Departure.lateStores)⟩, ⟨5, (.textOnly Go.Departure.lateStores)⟩, ⟨6, .phase⟩], none⟩,
 ⟨(some 7), (.assign (T 27)), 27, "law.go:160", #[⟨5, .data⟩, ⟨7, .chain⟩, ⟨0, .phase⟩, ⟨1, .phase⟩, ⟨2, .phase⟩, ⟨3, .phase⟩, ⟨4, .phase⟩, ⟨5, .phase⟩, ⟨6, .phase⟩, ⟨7, .phase⟩], none⟩]
def r3_0 : Code := .region 1 o3_0 true
def c3 : Code :=
 .seq (rg [mo 2 (.box 26 (T 0)),
   mo 3 (.box 29 (T 1)),
   mo 4 (.assign (.const (.bool false)))])
 (.seq (r3_0)
 (.seq (rg [mo 29 (.move (T 6)),
   mo 30 (.call ⟨(.value (.func 9)), #[(.const (.int .i64 7)), (T 29)], #[2, 3]⟩),
   mo 28 (.move (T 30)),
   mo 31 (.extract (T 28) 0),
   mo 32 (.extract (T 28) 1),
   mo 8 (.assign (T 31)),
   mo 9 (.assign (T 32))])
 (.seq (.seq (rg [mo 33 (.move (T 9)),
    mo 34 (.binOp .neq 31 (T 33) (.const (.int .i64 0)) 31),
    mo 35 (.move (T 34)),
    mg 36 2 false (.call ⟨(.value (.func 10)), #[], #[]⟩),
    mg 37 2 false (.unOp .not 4 (T 36)),
    mo 38 (.pick (T 35) (.const (.bool true)) (T 37))])
  (.cond (T 38) (.seq (rg [mo 39 (.move (T 9)),
     mo 40 (.binOp .eql 31 (T 39) (.const (.int .i64 1)) 31),
     mo 41 (.move (T 40)),
     mg 42 2 true (.call ⟨(.value (.func 10)), #[], #[]⟩),
     mo 43 (.pick (T 41) (T 42) (.const (.bool false))),
     mo 4 (.assign (T 43))])
   (.ret))
  (.skip)))
 (.seq (rg [mo 45 (.move (T 8)),
   mo 46 (.load 26 (T 2)),
   mo 47 (.move (T 5)),
   mo 48 (.call ⟨(.value (.func 11)), #[(T 45), (T 46), (T 47)], #[30, 26, 3]⟩),
   mo 44 (.move (T 48)),
   mo 49 (.extract (T 44) 0),
   mo 50 (.extract (T 44) 1),
   mo 10 (.alloc 36),
   mx (.store 36 (T 10) (T 49)),
   mo 9 (.assign (T 50))])
 (.seq (.seq (rg [mo 51 (.move (T 9)),
    mo 52 (.binOp .neq 31 (T 51) (.const (.int .i64 0)) 31)])
  (.cond (T 52) (.seq (rg [mo 4 (.assign (.const (.bool true)))])
   (.ret))
  (.skip)))
 (.seq (rg [mo 53 (.move (T 5)),
   mo 11 (.assign (T 53))])
 (.seq (.seq (rg [mo 54 (.move (T 7)),
    mo 55 (.binOp .rem 27 (T 54) (.const (.int .u16 200)) 27),
    mo 56 (.convert 27 3 (T 55)),
    mo 57 (.move (.const (.int .i64 0)))])
  (.block 0 (.loop (.seq (rg [mo 58 (.binOp .lss 3 (T 57) (T 56) 3)])
    (.seq (.cond (T 58) (.skip)
     (.exit 0))
    (.seq (.block 1 (.seq (rg [mo 59 (.move (T 57)),
        mo 12 (.assign (T 59))])
      (.seq (rg [mo 61 (.move (T 8)),
        mo 62 (.call ⟨(.value (.func 12)), #[(T 61)], #[30]⟩),
        mo 60 (.move (T 62)),
        mo 63 (.extract (T 60) 0),
        mo 64 (.extract (T 60) 1),
        mo 13 (.alloc 36),
        mx (.store 36 (T 13) (T 63)),
        mo 14 (.assign (T 64))])
      (.seq (.seq (rg [mo 65 (.move (T 14)),
         mo 66 (.move (T 12)),
         mo 67 (.binOp .rem 3 (T 66) (.const (.int .i64 12)) 3),
         mo 68 (.binOp .eql 3 (T 67) (.const (.int .i64 11)) 3),
         mo 69 (.binOp .neq 4 (T 65) (T 68) 4)])
       (.cond (T 69) (.seq (rg [mo 4 (.assign (.const (.bool false)))])
        (.ret))
       (.skip)))
      (.seq (.seq (rg [mo 70 (.move (T 14)),
         mo 71 (.unOp .not 4 (T 70))])
       (.cond (T 71) (.exit 1)
       (.skip)))
      (.seq (rg [mo 72 (.move (T 11)),
        mo 73 (.binOp .add 3 (T 72) (.const (.int .i64 1)) 3),
        mo 74 (.move (T 6)),
        mo 75 (.binOp .rem 3 (T 73) (T 74) 3),
        mo 11 (.assign (T 75))])
      (.seq (rg [mo 76 (.fieldAddr 36 (T 13) 0),
        mo 77 (.load 3 (T 76)),
        mo 78 (.move (T 11)),
        mo 79 (.binOp .neq 3 (T 77) (T 78) 3),
        mo 80 (.move (T 79)),
        mg 81 4 false (.fieldAddr 36 (T 13) 1),
        mg 82 4 false (.load 26 (T 81)),
        mg 83 4 false (.fieldAddr 36 (T 10) 1),
        mg 84 4 false (.load 26 (T 83)),
        mg 85 4 false (.call ⟨(.value (.func 13)), #[(T 82), (T 84)], #[26, 26]⟩),
        mg 86 4 false (.unOp .not 4 (T 85)),
        mo 87 (.pick (T 80) (.const (.bool true)) (T 86))])
      (.cond (T 87) (.seq (rg [mo 4 (.assign (.const (.bool false)))])
       (.ret))
      (.skip)))))))))
    (rg [mo 88 (.binOp .add 3 (T 57) (.const (.int .i64 1)) 3),
     mo 57 (.move (T 88))])))))))
 (.seq (.seq (rg [mo 90 (.move (T 8)),
    mo 91 (.load 26 (T 2)),
    mo 92 (.move (T 5)),
    mo 93 (.call ⟨(.value (.func 11)), #[(T 90), (T 91), (T 92)], #[30, 26, 3]⟩),
    mo 89 (.move (T 93)),
    mo 94 (.extract (T 89) 0),
    mo 95 (.extract (T 89) 1),
    mo 15 (.alloc 36),
    mx (.store 36 (T 15) (T 94)),
    mo 16 (.assign (T 95))])
  (.seq (rg [mo 96 (.move (T 16)),
    mo 97 (.binOp .neq 31 (T 96) (.const (.int .i64 251)) 31)])
  (.cond (T 97) (.seq (rg [mo 4 (.assign (.const (.bool false)))])
   (.ret))
  (.skip))))
 (.seq (rg [mo 99 (.move (T 8)),
   mo 100 (.build 47 #[(0, (.const (.int .i64 7))), (1, (.const (.int .i64 1)))]),
   mo 101 (.call ⟨(.value (.func 14)), #[(T 99), (T 100)], #[30, 47]⟩),
   mo 98 (.move (T 101)),
   mo 102 (.extract (T 98) 0),
   mo 103 (.extract (T 98) 1),
   mo 17 (.assign (T 102)),
   mo 9 (.assign (T 103))])
 (.seq (rg [mo 105 (.move (T 8)),
   mo 106 (.call ⟨(.value (.func 12)), #[(T 105)], #[30]⟩),
   mo 104 (.move (T 106)),
   mo 107 (.extract (T 104) 0),
   mo 108 (.extract (T 104) 1),
   mo 18 (.alloc 36),
   mx (.store 36 (T 18) (T 107)),
   mo 19 (.assign (T 108))])
 (.seq (rg [mo 110 (.move (T 8)),
   mo 111 (.build 45 #[(2, (.const (.int .i64 9)))]),
   mo 112 (.build 47 #[(0, (.const (.int .i64 7))), (1, (.const (.int .i64 1))), (2, (T 111))]),
   mo 113 (.call ⟨(.value (.func 14)), #[(T 110), (T 112)], #[30, 47]⟩),
   mo 109 (.move (T 113)),
   mo 114 (.extract (T 109) 0),
   mo 115 (.extract (T 109) 1),
   mo 20 (.assign (T 114)),
   mo 21 (.assign (T 115))])
 (.seq (rg [mo 116 (.move (T 17)),
   mo 117 (.move (T 116)),
   mg 118 1 true (.move (T 9)),
   mg 119 1 true (.binOp .eql 31 (T 118) (.const (.int .i64 0)) 31),
   mo 120 (.pick (T 117) (T 119) (.const (.bool false))),
   mo 121 (.move (T 120)),
   mg 122 5 true (.move (T 19)),
   mg 123 5 true (.unOp .not 4 (T 122)),
   mo 124 (.pick (T 121) (T 123) (.const (.bool false))),
   mo 125 (.move (T 124)),
   mg 126 9 true (.move (T 20)),
   mg 127 9 true (.unOp .not 4 (T 126)),
   mo 128 (.pick (T 125) (T 127) (.const (.bool false))),
   mo 129 (.move (T 128)),
   mg 130 13 true (.move (T 21)),
   mg 131 13 true (.binOp .eql 31 (T 130) (.const (.int .i64 0)) 31),
   mo 132 (.pick (T 129) (T 131) (.const (.bool false))),
   mo 133 (.move (T 132)),
   mg 134 17 true (.move (T 8)),
   mg 135 17 true (.call ⟨(.value (.func 15)), #[(T 134)], #[30]⟩),
   mg 136 17 true (.binOp .eql 2 (T 135) (.const (.int .i64 1)) 2),
   mo 137 (.pick (T 133) (T 136) (.const (.bool false))),
   mo 4 (.assign (T 137))])
 (.ret)))))))))))))
/-! trivet/trivetlaw25.ClientOwn -/
def o4_0 : Array Oper := #[⟨(some 34), (.buildSlice 22 0 #[]), 22, "law.go:218", #[], none⟩,
 ⟨(some 35), (.fieldAddr 26 (T 1) 2), 0, "law.go:218", #[], none⟩,
 ⟨(some 36), (.load 22 (T 35)), 22, "law.go:218", #[⟨1, .data⟩], none⟩,
 ⟨(some 37), (.call ⟨(.builtin .append), #[(T 34), (T 36)], #[22, 22]⟩), 22, "law.go:218", #[⟨0, .data⟩, ⟨2, .data⟩], none⟩,
 ⟨(some 38), (.buildSlice 23 0 #[]), 23, "law.go:218", #[], none⟩,
 ⟨(some 39), (.fieldAddr 26 (T 1) 3), 0, "law.go:218", #[], none⟩,
 ⟨(some 40), (.load 23 (T 39)), 23, "law.go:218", #[⟨5, .data⟩], none⟩,
 ⟨(some 41), (.call ⟨(.builtin .append), #[(T 38), (T 40)], #[23, 23]⟩), 23, "law.go:218", #[⟨4, .data⟩, ⟨6, .data⟩, ⟨3, .chain⟩], none⟩,
 ⟨(some 42), (.fieldAddr 26 (T 7) 2), 0, "law.go:218", #[⟨0, .phase⟩, ⟨1, .phase⟩, ⟨2, .phase⟩, ⟨3, .phase⟩, ⟨4, (.textOnly Go.Departure.lateStores)⟩, ⟨5, (.textOnly Go.Departure.lateStores)⟩, ⟨6, (.textOnly Go.Departure.lateStores)⟩, ⟨7, (.textOnly Go.Departure.lateStoresUnsure)⟩], none⟩,
 ⟨none, (.store 22 (T 42) (T 37)), 0, "law.go:218", #[⟨8, .data⟩, ⟨3, .data⟩, ⟨7, .chain⟩, ⟨0, .phase⟩, ⟨1, .phase⟩, ⟨2, .phase⟩, ⟨3, .phase⟩, ⟨4, (.textOnly Go.Departure.lateStores)⟩, ⟨5, (.textOnly Go.Departure.lateStores)⟩, ⟨6, (.textOnly Go.Departure.lateStores)⟩, ⟨7, (.textOnly Go.Departure.lateStoresUnsure)⟩], none⟩,
 ⟨(some 43), (.fieldAddr 26 (T 7) 3), 0, "law.go:218", #[⟨0, .phase⟩, ⟨1, .phase⟩, ⟨2, .phase⟩, ⟨3, .phase⟩, ⟨4, .phase⟩, ⟨5, .phase⟩, ⟨6, .phase⟩, ⟨7, .phase⟩, ⟨8, .phase⟩, ⟨9, .phase⟩], none⟩,
 ⟨none, (.store 23 (T 43) (T 41)), 0, "law.go:218", #[⟨10, .data⟩, ⟨7, .data⟩, ⟨9, .chain⟩, ⟨0, .phase⟩, ⟨1, .phase⟩, ⟨2, .phase⟩, ⟨3, .phase⟩, ⟨4, .phase⟩, ⟨5, .phase⟩, ⟨6, .phase⟩, ⟨7, .phase⟩, ⟨8, .phase⟩, ⟨9, .phase⟩], none⟩]
def l4_0 : List Oper := [mo 34 (.buildSlice 22 0 #[]),
 mo 35 (.fieldAddr 26 (T 1) 2),
 mo 36 (.load 22 (T 35)),
 mo 37 (.call ⟨(.builtin .append), #[(T 34), (T 36)], #[22, 22]⟩),
 mo 38 (.buildSlice 23 0 #[]),
 mo 39 (.fieldAddr 26 (T 1) 3),
 mo 40 (.load 23 (T 39)),
 mo 41 (.call ⟨(.builtin .append), #[(T 38), (T 40)], #[23, 23]⟩),
 mo 42 (.fieldAddr 26 (T 7) 2),
 mx (.store 22 (T 42) (T 37)),
 mo 43 (.fieldAddr 26 (T 7) 3),
 mx (.store 23 (T 43) (T 41))]
def r4_0 : Code := .region 6 o4_0 true
theorem xr_4_0 {Q : DExit → St → Prop} {s : St} : xs Try.prog 137 r4_0 Q s = NC Try.prog 137 r4_0 Q s := rfl
-- not fit to be walked: false
attribute [go_sem] xr_4_0
def o4_1 : Array Oper := #[⟨(some 44), (.buildSlice 24 0 #[]), 24, "law.go:219", #[], none⟩,
 ⟨(some 45), (.fieldAddr 26 (T 1) 4), 0, "law.go:219", #[], none⟩,
 ⟨(some 46), (.load 24 (T 45)), 24, "law.go:219", #[⟨1, .data⟩], none⟩,
 ⟨(some 47), (.call ⟨(.builtin .append), #[(T 44), (T 46)], #[24, 24]⟩), 24, "law.go:219", #[⟨0, .data⟩, ⟨2, .data⟩], none⟩,
 ⟨(some 48), (.buildSlice 24 0 #[]), 24, "law.go:219", #[], none⟩,
 ⟨(some 49), (.fieldAddr 26 (T 1) 5), 0, "law.go:219", #[], none⟩,
 ⟨(some 50), (.load 24 (T 49)), 24, "law.go:219", #[⟨5, .data⟩], none⟩,
 ⟨(some 51), (.call ⟨(.builtin .append), #[(T 48), (T 50)], #[24, 24]⟩), 24, "law.go:219", #[⟨4, .data⟩, ⟨6, .data⟩, ⟨3, .chain⟩], none⟩,
 ⟨(some 52), (.fieldAddr 26 (T 7) 4), 0, "law.go:219", #[⟨0, .phase⟩, ⟨1, .phase⟩, ⟨2, .phase⟩, ⟨3, .phase⟩, ⟨4, (.textOnly Go.Departure.lateStores)⟩, ⟨5, (.textOnly Go.Departure.lateStores)⟩, ⟨6, (.textOnly Go.Departure.lateStores)⟩, ⟨7, (.textOnly Go.Departure.lateStoresUnsure)⟩], none⟩,
 ⟨none, (.store 24 (T 52) (T 47)), 0, "law.go:219", #[⟨8, .data⟩, ⟨3, .data⟩, ⟨7, .chain⟩, ⟨0, .phase⟩, ⟨1, .phase⟩, ⟨2, .phase⟩, ⟨3, .phase⟩, ⟨4, (.textOnly Go.Departure.lateStores)⟩, ⟨5, (.textOnly Go.Departure.lateStores)⟩, ⟨6, (.textOnly Go.Departure.lateStores)⟩, ⟨7, (.textOnly Go.Departure.lateStoresUnsure)⟩], none⟩,
 ⟨(some 53), (.fieldAddr 26 (T 7) 5), 0, "law.go:219", #[⟨0, .phase⟩, ⟨1, .phase⟩, ⟨2, .phase⟩, ⟨3, .phase⟩, ⟨4, .phase⟩, ⟨5, .phase⟩, ⟨6, .phase⟩, ⟨7, .phase⟩, ⟨8, .phase⟩, ⟨9, .phase⟩], none⟩,
 ⟨none, (.store 24 (T 53) (T 51)), 0, "law.go:219", #[⟨10, .data⟩, ⟨7, .data⟩, ⟨9, .chain⟩, ⟨0, .phase⟩, ⟨1, .phase⟩, ⟨2, .phase⟩, ⟨3, .phase⟩, ⟨4, .phase⟩, ⟨5, .phase⟩, ⟨6, .phase⟩, ⟨7, .phase⟩, ⟨8, .phase⟩, ⟨9, .phase⟩], none⟩]
def l4_1 : List Oper := [mo 44 (.buildSlice 24 0 #[]),
 mo 45 (.fieldAddr 26 (T 1) 4),
 mo 46 (.load 24 (T 45)),
 mo 47 (.call ⟨(.builtin .append), #[(T 44), (T 46)], #[24, 24]⟩),
 mo 48 (.buildSlice 24 0 #[]),
 mo 49 (.fieldAddr 26 (T 1) 5),
 mo 50 (.load 24 (T 49)),
 mo 51 (.call ⟨(.builtin .append), #[(T 48), (T 50)], #[24, 24]⟩),
 mo 52 (.fieldAddr 26 (T 7) 4),
 mx (.store 24 (T 52) (T 47)),
 mo 53 (.fieldAddr 26 (T 7) 5),
 mx (.store 24 (T 53) (T 51))]
def r4_1 : Code := .region 7 o4_1 true
theorem xr_4_1 {Q : DExit → St → Prop} {s : St} : xs Try.prog 137 r4_1 Q s = NC Try.prog 137 r4_1 Q s := rfl
-- not fit to be walked: false
attribute [go_sem] xr_4_1
def c4 : Code :=
 .seq (rg [mo 1 (.box 26 (T 0)),
   mo 2 (.assign (.const (.bool false)))])
 (.seq (rg [mo 20 (.call ⟨(.value (.func 9)), #[(.const (.int .i64 2)), (.const (.int .i64 2))], #[2, 3]⟩),
   mo 19 (.move (T 20)),
   mo 21 (.extract (T 19) 0),
   mo 22 (.extract (T 19) 1),
   mo 3 (.assign (T 21)),
   mo 4 (.assign (T 22))])
 (.seq (rg [mo 24 (.call ⟨(.value (.func 16)), #[(.const (.int .i64 2)), (.const (.int .i64 2))], #[2, 3]⟩),
   mo 23 (.move (T 24)),
   mo 25 (.extract (T 23) 0),
   mo 26 (.extract (T 23) 1),
   mo 5 (.assign (T 25)),
   mo 6 (.assign (T 26))])
 (.seq (.seq (rg [mo 27 (.move (T 4)),
    mo 28 (.binOp .neq 31 (T 27) (.const (.int .i64 0)) 31),
    mo 29 (.move (T 28)),
    mg 30 2 false (.call ⟨(.value (.func 10)), #[], #[]⟩),
    mg 31 2 false (.unOp .not 4 (T 30)),
    mo 32 (.pick (T 29) (.const (.bool true)) (T 31))])
  (.cond (T 32) (.seq (rg [mo 2 (.assign (.const (.bool false)))])
   (.ret))
  (.skip)))
 (.seq (rg [mo 33 (.load 26 (T 1)),
   mo 7 (.alloc 26),
   mx (.store 26 (T 7) (T 33))])
 (.seq (r4_0)
 (.seq (r4_1)
 (.seq (rg [mo 55 (.move (T 3)),
   mo 56 (.load 26 (T 7)),
   mo 57 (.call ⟨(.value (.func 11)), #[(T 55), (T 56), (.const (.int .i64 0))], #[30, 26, 3]⟩),
   mo 54 (.move (T 57)),
   mo 58 (.extract (T 54) 0),
   mo 59 (.extract (T 54) 1),
   mo 8 (.alloc 36),
   mx (.store 36 (T 8) (T 58)),
   mo 4 (.assign (T 59))])
 (.seq (.seq (rg [mo 61 (.move (T 5)),
    mo 62 (.load 26 (T 1)),
    mo 63 (.call ⟨(.value (.func 17)), #[(T 61), (T 62), (.const (.int .i64 0))], #[50, 26, 3]⟩),
    mo 60 (.move (T 63)),
    mo 64 (.extract (T 60) 0),
    mo 65 (.extract (T 60) 1),
    mo 9 (.alloc 36),
    mx (.store 36 (T 9) (T 64)),
    mo 10 (.assign (T 65))])
  (.seq (rg [mo 66 (.move (T 4)),
    mo 67 (.move (T 10)),
    mo 68 (.binOp .neq 31 (T 66) (T 67) 31)])
  (.cond (T 68) (.seq (rg [mo 2 (.assign (.const (.bool false)))])
   (.ret))
  (.skip))))
 (.seq (.seq (rg [mo 69 (.fieldAddr 26 (T 7) 2),
    mo 70 (.load 22 (T 69)),
    mo 71 (.call ⟨(.builtin .len), #[(T 70)], #[22]⟩),
    mo 72 (.move (.const (.int .i64 0)))])
  (.block 0 (.loop (.seq (rg [mo 73 (.binOp .lss 3 (T 72) (T 71) 3)])
    (.seq (.cond (T 73) (.skip)
     (.exit 0))
    (.seq (.block 1 (.seq (rg [mo 74 (.move (T 72)),
        mo 11 (.assign (T 74))])
      (rg [mo 75 (.fieldAddr 26 (T 7) 2),
       mo 76 (.load 22 (T 75)),
       mo 77 (.move (T 11)),
       mo 78 (.indexAddr 22 (T 76) (T 77)),
       mx (.store 5 (T 78) (.const (.int .u8 99)))])))
    (rg [mo 79 (.binOp .add 3 (T 72) (.const (.int .i64 1)) 3),
     mo 72 (.move (T 79))])))))))
 (.seq (.seq (rg [mo 80 (.fieldAddr 26 (T 7) 4),
    mo 81 (.load 24 (T 80)),
    mo 82 (.call ⟨(.builtin .len), #[(T 81)], #[24]⟩),
    mo 83 (.move (.const (.int .i64 0)))])
  (.block 2 (.loop (.seq (rg [mo 84 (.binOp .lss 3 (T 83) (T 82) 3)])
    (.seq (.cond (T 84) (.skip)
     (.exit 2))
    (.seq (.block 3 (.seq (rg [mo 85 (.move (T 83)),
        mo 12 (.assign (T 85))])
      (rg [mo 86 (.fieldAddr 26 (T 7) 4),
       mo 87 (.load 24 (T 86)),
       mo 88 (.move (T 12)),
       mo 89 (.indexAddr 24 (T 87) (T 88)),
       mo 90 (.fieldAddr 54 (T 89) 1),
       mx (.store 2 (T 90) (.const (.int .i64 (-9))))])))
    (rg [mo 91 (.binOp .add 3 (T 83) (.const (.int .i64 1)) 3),
     mo 83 (.move (T 91))])))))))
 (.seq (.seq (rg [mo 92 (.fieldAddr 36 (T 8) 1),
    mo 93 (.fieldAddr 26 (T 92) 2),
    mo 94 (.load 22 (T 93)),
    mo 95 (.call ⟨(.builtin .len), #[(T 94)], #[22]⟩),
    mo 96 (.move (.const (.int .i64 0)))])
  (.block 4 (.loop (.seq (rg [mo 97 (.binOp .lss 3 (T 96) (T 95) 3)])
    (.seq (.cond (T 97) (.skip)
     (.exit 4))
    (.seq (.block 5 (.seq (rg [mo 98 (.move (T 96)),
        mo 13 (.assign (T 98))])
      (rg [mo 99 (.fieldAddr 36 (T 8) 1),
       mo 100 (.fieldAddr 26 (T 99) 2),
       mo 101 (.load 22 (T 100)),
       mo 102 (.move (T 13)),
       mo 103 (.indexAddr 22 (T 101) (T 102)),
       mx (.store 5 (T 103) (.const (.int .u8 98)))])))
    (rg [mo 104 (.binOp .add 3 (T 96) (.const (.int .i64 1)) 3),
     mo 96 (.move (T 104))])))))))
 (.seq (.seq (rg [mo 105 (.fieldAddr 36 (T 8) 1),
    mo 106 (.fieldAddr 26 (T 105) 5),
    mo 107 (.load 24 (T 106)),
    mo 108 (.call ⟨(.builtin .len), #[(T 107)], #[24]⟩),
    mo 109 (.move (.const (.int .i64 0)))])
  (.block 6 (.loop (.seq (rg [mo 110 (.binOp .lss 3 (T 109) (T 108) 3)])
    (.seq (.cond (T 110) (.skip)
     (.exit 6))
    (.seq (.block 7 (.seq (rg [mo 111 (.move (T 109)),
        mo 14 (.assign (T 111))])
      (rg [mo 112 (.fieldAddr 36 (T 8) 1),
       mo 113 (.fieldAddr 26 (T 112) 5),
       mo 114 (.load 24 (T 113)),
       mo 115 (.move (T 14)),
       mo 116 (.indexAddr 24 (T 114) (T 115)),
       mo 117 (.fieldAddr 54 (T 116) 1),
       mx (.store 2 (T 117) (.const (.int .i64 (-9))))])))
    (rg [mo 118 (.binOp .add 3 (T 109) (.const (.int .i64 1)) 3),
     mo 109 (.move (T 118))])))))))
 (.seq (rg [mo 120 (.move (T 3)),
   mo 121 (.call ⟨(.value (.func 18)), #[(T 120)], #[30]⟩),
   mo 119 (.move (T 121)),
   mo 122 (.extract (T 119) 0),
   mo 123 (.extract (T 119) 1),
   mo 15 (.alloc 26),
   mx (.store 26 (T 15) (T 122)),
   mo 16 (.assign (T 123))])
 (.seq (rg [mo 125 (.move (T 5)),
   mo 126 (.call ⟨(.value (.func 19)), #[(T 125)], #[50]⟩),
   mo 124 (.move (T 126)),
   mo 127 (.extract (T 124) 0),
   mo 128 (.extract (T 124) 1),
   mo 17 (.alloc 26),
   mx (.store 26 (T 17) (T 127)),
   mo 18 (.assign (T 128))])
 (.seq (rg [mo 129 (.move (T 16)),
   mo 130 (.move (T 18)),
   mo 131 (.binOp .eql 4 (T 129) (T 130) 4),
   mo 132 (.move (T 131)),
   mg 133 3 true (.load 26 (T 15)),
   mg 134 3 true (.load 26 (T 17)),
   mg 135 3 true (.call ⟨(.value (.func 13)), #[(T 133), (T 134)], #[26, 26]⟩),
   mo 136 (.pick (T 132) (T 135) (.const (.bool false))),
   mo 2 (.assign (T 136))])
 (.ret))))))))))))))))
theorem body_4 : Try.f4.body.map strip = some c4 := by kernel_rfl
theorem go_4 {args : List Value} {h : DHeap} {R : DEnd → DHeap → Prop} (ha : args.length ≤ 137) (hx : xs Try.prog 137 c4 (XPost Try.prog [(.tmp 2)] R) ⟨argsFr args 137, [], h, none⟩) : Ct Try.prog 4 args h R :=
  Ct_xs (show Try.prog.funcs[4]? = some Try.f4 by kernel_rfl) body_4 (by kernel_rfl) (by kernel_rfl) ha (by kernel_rfl) hx
/-! trivet/trivetlaw25.ClientNormal -/
def o5_0 : Array Oper := #[⟨(some 23), (.load 26 (T 7)), 26, "law.go:199", #[], none⟩,
 ⟨(some 24), (.load 26 (T 2)), 26, "law.go:199", #[], none⟩,
 ⟨(some 25), (.call ⟨(.value (.func 21)), #[(T 24)], #[26]⟩), 26, "law.go:199", #[⟨1, .data⟩], none⟩,
 ⟨(some 26), (.call ⟨(.value (.func 13)), #[(T 23), (T 25)], #[26, 26]⟩), 4, "law.go:199", #[⟨0, .data⟩, ⟨2, .data⟩, ⟨2, .chain⟩], none⟩,
 ⟨(some 27), (.unOp .not 4 (T 26)), 4, "law.go:199", #[⟨3, .data⟩], none⟩]
def r5_0 : Code := .region 5 o5_0 true
def c5 : Code :=
 .seq (rg [mo 2 (.box 26 (T 0)),
   mo 4 (.assign (.const (.bool false)))])
 (.seq (rg [mo 12 (.call ⟨(.value (.func 9)), #[(.const (.int .i64 2)), (.const (.int .i64 2))], #[2, 3]⟩),
   mo 11 (.move (T 12)),
   mo 13 (.extract (T 11) 0),
   mo 14 (.extract (T 11) 1),
   mo 5 (.assign (T 13)),
   mo 6 (.assign (T 14))])
 (.seq (.seq (rg [mo 15 (.move (T 6)),
    mo 16 (.binOp .neq 31 (T 15) (.const (.int .i64 0)) 31),
    mo 17 (.move (T 16)),
    mg 18 2 false (.call ⟨(.value (.func 10)), #[], #[]⟩),
    mg 19 2 false (.unOp .not 4 (T 18)),
    mo 20 (.pick (T 17) (.const (.bool true)) (T 19))])
  (.cond (T 20) (.seq (rg [mo 4 (.assign (.const (.bool false)))])
   (.ret))
  (.skip)))
 (.seq (rg [mo 21 (.load 26 (T 2)),
   mo 22 (.call ⟨(.value (.func 20)), #[(T 21)], #[26]⟩),
   mo 7 (.alloc 26),
   mx (.store 26 (T 7) (T 22))])
 (.seq (.seq (r5_0)
  (.cond (T 27) (.seq (rg [mo 4 (.assign (.const (.bool false)))])
   (.ret))
  (.skip)))
 (.seq (rg [mo 29 (.move (T 5)),
   mo 30 (.load 26 (T 2)),
   mo 31 (.move (T 1)),
   mo 32 (.call ⟨(.value (.func 11)), #[(T 29), (T 30), (T 31)], #[30, 26, 3]⟩),
   mo 28 (.move (T 32)),
   mo 33 (.extract (T 28) 0),
   mo 34 (.extract (T 28) 1),
   mo 8 (.alloc 36),
   mx (.store 36 (T 8) (T 33)),
   mo 6 (.assign (T 34))])
 (.seq (.seq (rg [mo 35 (.move (T 6)),
    mo 36 (.binOp .neq 31 (T 35) (.const (.int .i64 0)) 31)])
  (.cond (T 36) (.seq (rg [mo 38 (.move (T 5)),
     mo 39 (.call ⟨(.value (.func 18)), #[(T 38)], #[30]⟩),
     mo 37 (.move (T 39)),
     mo 40 (.extract (T 37) 0),
     mo 41 (.extract (T 37) 1),
     mo 9 (.alloc 26),
     mx (.store 26 (T 9) (T 40)),
     mo 10 (.assign (T 41))])
   (.seq (rg [mo 42 (.move (T 10)),
     mo 43 (.unOp .not 4 (T 42)),
     mo 44 (.move (T 43)),
     mg 45 2 true (.move (T 5)),
     mg 46 2 true (.call ⟨(.value (.func 22)), #[(T 45)], #[30]⟩),
     mg 47 2 true (.binOp .eql 2 (T 46) (.const (.int .i64 0)) 2),
     mo 48 (.pick (T 44) (T 47) (.const (.bool false))),
     mo 4 (.assign (T 48))])
   (.ret)))
  (.skip)))
 (.seq (rg [mo 49 (.fieldAddr 36 (T 8) 1),
   mo 50 (.load 26 (T 49)),
   mo 51 (.call ⟨(.value (.func 23)), #[(T 50)], #[26]⟩),
   mo 52 (.binOp .eql 31 (T 51) (.const (.int .i64 0)) 31),
   mo 53 (.move (T 52)),
   mg 54 4 true (.fieldAddr 36 (T 8) 1),
   mg 55 4 true (.fieldAddr 26 (T 54) 4),
   mg 56 4 true (.load 24 (T 55)),
   mg 57 4 true (.fieldAddr 26 (T 7) 4),
   mg 58 4 true (.load 24 (T 57)),
   mg 59 4 true (.call ⟨(.value (.func 24)), #[(T 56), (T 58)], #[24, 24]⟩),
   mo 60 (.pick (T 53) (T 59) (.const (.bool false))),
   mo 61 (.move (T 60)),
   mg 62 12 true (.fieldAddr 36 (T 8) 1),
   mg 63 12 true (.fieldAddr 26 (T 62) 0),
   mg 64 12 true (.load 2 (T 63)),
   mg 65 12 true (.binOp .eql 2 (T 64) (.const (.int .i64 2)) 2),
   mo 66 (.pick (T 61) (T 65) (.const (.bool false))),
   mo 67 (.move (T 66)),
   mg 68 18 true (.fieldAddr 36 (T 8) 1),
   mg 69 18 true (.fieldAddr 26 (T 68) 1),
   mg 70 18 true (.load 2 (T 69)),
   mg 71 18 true (.binOp .eql 2 (T 70) (.const (.int .i64 1)) 2),
   mo 72 (.pick (T 67) (T 71) (.const (.bool false))),
   mo 4 (.assign (T 72))])
 (.ret))))))))
/-! trivet/trivetlaw25.ClientNone -/
/-! trivet/client.New -/
def c9 : Code :=
 .seq (rg [mo 4 (.assign (.const (.pointer none))),
   mo 5 (.assign (.const (.int .i64 0)))])
 (.seq (.seq (rg [mo 6 (.move (T 0)),
    mo 7 (.binOp .lss 2 (T 6) (.const (.int .i64 1)) 2),
    mo 8 (.move (T 7)),
    mg 9 2 false (.move (T 0)),
    mg 10 2 false (.binOp .gtr 2 (T 9) (.const (.int .i64 1099511627776)) 2),
    mo 11 (.pick (T 8) (.const (.bool true)) (T 10)),
    mo 12 (.move (T 11)),
    mg 13 6 false (.move (T 1)),
    mg 14 6 false (.binOp .lss 3 (T 13) (.const (.int .i64 1)) 3),
    mo 15 (.pick (T 12) (.const (.bool true)) (T 14)),
    mo 16 (.move (T 15)),
    mg 17 10 false (.move (T 1)),
    mg 18 10 false (.binOp .gtr 3 (T 17) (.const (.int .i64 5)) 3),
    mo 19 (.pick (T 16) (.const (.bool true)) (T 18))])
  (.cond (T 19) (.seq (rg [mo 4 (.assign (.const (.pointer none))),
     mo 5 (.assign (.const (.int .i64 1)))])
   (.ret))
  (.skip)))
 (.seq (rg [mo 20 (.move (T 0)),
   mo 21 (.move (T 1)),
   mo 22 (.build 76 #[(0, (T 20)), (1, (T 21))]),
   mo 23 (.box 76 (T 22)),
   mo 4 (.assign (T 23)),
   mo 5 (.assign (.const (.int .i64 0)))])
 (.ret)))
theorem body_9 : Try.f9.body.map strip = some c9 := by kernel_rfl
theorem go_9 {args : List Value} {h : DHeap} {R : DEnd → DHeap → Prop} (ha : args.length ≤ 24) (hx : xs Try.prog 24 c9 (XPost Try.prog [(.tmp 4), (.tmp 5)] R) ⟨argsFr args 24, [], h, none⟩) : Ct Try.prog 9 args h R :=
  Ct_xs (show Try.prog.funcs[9]? = some Try.f9 by kernel_rfl) body_9 (by kernel_rfl) (by kernel_rfl) ha (by kernel_rfl) hx
/-! trivet/trivetlaw25.live -/
def c10 : Code :=
 .seq (rg [mo 0 (.assign (.const (.bool false)))])
 (.seq (rg [mo 10 (.call ⟨(.value (.func 9)), #[(.const (.int .i64 3)), (.const (.int .i64 3))], #[2, 3]⟩),
   mo 9 (.move (T 10)),
   mo 11 (.extract (T 9) 0),
   mo 12 (.extract (T 9) 1),
   mo 1 (.assign (T 11)),
   mo 2 (.assign (T 12))])
 (.seq (.seq (rg [mo 13 (.move (T 2)),
    mo 14 (.binOp .neq 31 (T 13) (.const (.int .i64 0)) 31),
    mo 15 (.move (T 14)),
    mg 16 2 false (.move (T 1)),
    mg 17 2 false (.binOp .eql 30 (T 16) (.const (.pointer none)) 30),
    mo 18 (.pick (T 15) (.const (.bool true)) (T 17))])
  (.cond (T 18) (.seq (rg [mo 0 (.assign (.const (.bool false)))])
   (.ret))
  (.skip)))
 (.seq (rg [mo 20 (.move (T 1)),
   mo 21 (.build 26 #[]),
   mo 22 (.call ⟨(.value (.func 11)), #[(T 20), (T 21), (.const (.int .i64 1))], #[30, 26, 3]⟩),
   mo 19 (.move (T 22)),
   mo 23 (.extract (T 19) 0),
   mo 24 (.extract (T 19) 1),
   mo 3 (.alloc 36),
   mx (.store 36 (T 3) (T 23)),
   mo 2 (.assign (T 24))])
 (.seq (.seq (rg [mo 25 (.move (T 2)),
    mo 26 (.binOp .neq 31 (T 25) (.const (.int .i64 0)) 31),
    mo 27 (.move (T 26)),
    mg 28 2 false (.fieldAddr 36 (T 3) 0),
    mg 29 2 false (.load 3 (T 28)),
    mg 30 2 false (.binOp .neq 3 (T 29) (.const (.int .i64 1)) 3),
    mo 31 (.pick (T 27) (.const (.bool true)) (T 30)),
    mo 32 (.move (T 31)),
    mg 33 7 false (.fieldAddr 36 (T 3) 1),
    mg 34 7 false (.fieldAddr 26 (T 33) 0),
    mg 35 7 false (.load 2 (T 34)),
    mg 36 7 false (.binOp .neq 2 (T 35) (.const (.int .i64 3)) 2),
    mo 37 (.pick (T 32) (.const (.bool true)) (T 36)),
    mo 38 (.move (T 37)),
    mg 39 13 false (.fieldAddr 36 (T 3) 1),
    mg 40 13 false (.fieldAddr 26 (T 39) 1),
    mg 41 13 false (.load 2 (T 40)),
    mg 42 13 false (.binOp .neq 2 (T 41) (.const (.int .i64 1)) 2),
    mo 43 (.pick (T 38) (.const (.bool true)) (T 42))])
  (.cond (T 43) (.seq (rg [mo 0 (.assign (.const (.bool false)))])
   (.ret))
  (.skip)))
 (.seq (.seq (rg [mo 44 (.move (.const (.int .i64 0)))])
  (.block 0 (.loop (.seq (rg [mo 45 (.binOp .lss 3 (T 44) (.const (.int .i64 11)) 3)])
    (.seq (.cond (T 45) (.skip)
     (.exit 0))
    (.seq (.block 1 (.seq (rg [mo 47 (.move (T 1)),
        mo 48 (.call ⟨(.value (.func 12)), #[(T 47)], #[30]⟩),
        mo 46 (.move (T 48)),
        mo 49 (.extract (T 46) 0),
        mo 50 (.extract (T 46) 1),
        mo 4 (.alloc 36),
        mx (.store 36 (T 4) (T 49)),
        mo 5 (.assign (T 50))])
      (.seq (rg [mo 51 (.move (T 5))])
      (.cond (T 51) (.seq (rg [mo 0 (.assign (.const (.bool false)))])
       (.ret))
      (.skip)))))
    (rg [mo 52 (.binOp .add 3 (T 44) (.const (.int .i64 1)) 3),
     mo 44 (.move (T 52))])))))))
 (.seq (rg [mo 54 (.move (T 1)),
   mo 55 (.call ⟨(.value (.func 12)), #[(T 54)], #[30]⟩),
   mo 53 (.move (T 55)),
   mo 56 (.extract (T 53) 0),
   mo 57 (.extract (T 53) 1),
   mo 6 (.alloc 36),
   mx (.store 36 (T 6) (T 56)),
   mo 7 (.assign (T 57))])
 (.seq (rg [mo 59 (.move (T 1)),
   mo 60 (.build 45 #[(2, (.const (.int .i64 4)))]),
   mo 61 (.build 47 #[(0, (.const (.int .i64 3))), (1, (.const (.int .i64 1))), (2, (T 60))]),
   mo 62 (.call ⟨(.value (.func 14)), #[(T 59), (T 61)], #[30, 47]⟩),
   mo 58 (.move (T 62)),
   mo 63 (.extract (T 58) 0),
   mo 64 (.extract (T 58) 1),
   mo 8 (.assign (T 63)),
   mo 2 (.assign (T 64))])
 (.seq (rg [mo 65 (.move (T 7)),
   mo 66 (.move (T 65)),
   mg 67 1 true (.fieldAddr 36 (T 6) 0),
   mg 68 1 true (.load 3 (T 67)),
   mg 69 1 true (.binOp .eql 3 (T 68) (.const (.int .i64 2)) 3),
   mo 70 (.pick (T 66) (T 69) (.const (.bool false))),
   mo 71 (.move (T 70)),
   mg 72 6 true (.move (T 8)),
   mo 73 (.pick (T 71) (T 72) (.const (.bool false))),
   mo 74 (.move (T 73)),
   mg 75 9 true (.move (T 2)),
   mg 76 9 true (.binOp .eql 31 (T 75) (.const (.int .i64 0)) 31),
   mo 77 (.pick (T 74) (T 76) (.const (.bool false))),
   mo 78 (.move (T 77)),
   mg 79 13 true (.move (T 1)),
   mg 80 13 true (.call ⟨(.value (.func 15)), #[(T 79)], #[30]⟩),
   mg 81 13 true (.binOp .eql 2 (T 80) (.const (.int .i64 5)) 2),
   mo 82 (.pick (T 78) (T 81) (.const (.bool false))),
   mo 0 (.assign (T 82))])
 (.ret)))))))))
theorem body_10 : Try.f10.body.map strip = some c10 := by kernel_rfl
theorem go_10 {args : List Value} {h : DHeap} {R : DEnd → DHeap → Prop} (ha : args.length ≤ 83) (hx : xs Try.prog 83 c10 (XPost Try.prog [(.tmp 0)] R) ⟨argsFr args 83, [], h, none⟩) : Ct Try.prog 10 args h R :=
  Ct_xs (show Try.prog.funcs[10]? = some Try.f10 by kernel_rfl) body_10 (by kernel_rfl) (by kernel_rfl) ha (by kernel_rfl) hx
end Go.Proofs.Ytbdljpndncohaaa

namespace Go.Proofs.Ytbdljpndncohaaa
open Go.D
set_option maxRecDepth 100000
/-! (*trivet/client.Client).Submit -/
def o11_0 : Array Oper := #[⟨(some 40), (.move (T 0)), 30, "client.go:63", #[], none⟩,
 ⟨(some 41), (.nilCheck (T 40)), 0, "client.go:63", #[⟨0, .data⟩], none⟩,
 ⟨(some 42), (.fieldAddr 76 (T 41) 0), 0, "client.go:63", #[⟨1, .data⟩], none⟩,
 ⟨(some 43), (.load 2 (T 42)), 2, "client.go:63", #[⟨2, .data⟩], none⟩,
 ⟨(some 44), (.move (T 0)), 30, "client.go:63", #[⟨10, (.gcOnly Go.Departure.lateStores)⟩], none⟩,
 ⟨(some 45), (.nilCheck (T 44)), 0, "client.go:63", #[⟨4, .data⟩, ⟨10, (.gcOnly Go.Departure.lateStores)⟩], none⟩,
 ⟨(some 46), (.fieldAddr 76 (T 45) 2), 0, "client.go:63", #[⟨5, .data⟩, ⟨10, (.gcOnly Go.Departure.lateStores)⟩], none⟩,
 ⟨(some 47), (.load 2 (T 46)), 2, "client.go:63", #[⟨6, .data⟩, ⟨10, (.gcOnly Go.Departure.lateStores)⟩], none⟩,
 ⟨(some 48), (.binOp .add 2 (T 47) (.const (.int .i64 1)) 2), 2, "client.go:63", #[⟨7, .data⟩, ⟨10, (.gcOnly Go.Departure.lateStores)⟩], none⟩,
 ⟨(some 49), (.fieldAddr 26 (T 4) 0), 0, "client.go:63", #[⟨0, .phase⟩, ⟨1, .phase⟩, ⟨2, .phase⟩, ⟨3, .phase⟩, ⟨4, (.textOnly Go.Departure.lateStores)⟩, ⟨5, (.textOnly Go.Departure.lateStores)⟩, ⟨6, (.textOnly Go.Departure.lateStores)⟩, ⟨7, (.textOnly Go.Departure.lateStores)⟩, ⟨8, (.textOnly Go.Departure.lateStores)⟩], none⟩,
 ⟨none, (.store 2 (T 49) (T 43)), 0, "client.go:63", #[⟨9, .data⟩, ⟨3, .data⟩, ⟨0, .phase⟩, ⟨1, .phase⟩, ⟨2, .phase⟩, ⟨3, .phase⟩, ⟨4, (.textOnly Go.Departure.lateStores)⟩, ⟨5, (.textOnly Go.Departure.lateStores)⟩, ⟨6, (.textOnly Go.Departure.lateStores)⟩, ⟨7, (.textOnly Go.Departure.lateStores)⟩, ⟨8, (.textOnly Go.Departure.lateStores)⟩], none⟩,
 ⟨(some 50), (.fieldAddr 26 (T 4) 1), 0, "client.go:63", #[⟨0, .phase⟩, ⟨1, .phase⟩, ⟨2, .phase⟩, ⟨3, .phase⟩, ⟨4, .phase⟩, ⟨5, .phase⟩, ⟨6, .phase⟩, ⟨7, .phase⟩, ⟨8, .phase⟩, ⟨9, .phase⟩, ⟨10, .phase⟩], none⟩,
 ⟨none, (.store 2 (T 50) (T 48)), 0, "client.go:63", #[⟨11, .data⟩, ⟨8, .data⟩, ⟨10, .chain⟩, ⟨0, .phase⟩, ⟨1, .phase⟩, ⟨2, .phase⟩, ⟨3, .phase⟩, ⟨4, .phase⟩, ⟨5, .phase⟩, ⟨6, .phase⟩, ⟨7, .phase⟩, ⟨8, .phase⟩, ⟨9, .phase⟩, ⟨10, .phase⟩], none⟩]
def l11_0 : List Oper := [mo 40 (.move (T 0)),
 mo 41 (.nilCheck (T 40)),
 mo 42 (.fieldAddr 76 (T 41) 0),
 mo 43 (.load 2 (T 42)),
 mo 44 (.move (T 0)),
 mo 45 (.nilCheck (T 44)),
 mo 46 (.fieldAddr 76 (T 45) 2),
 mo 47 (.load 2 (T 46)),
 mo 48 (.binOp .add 2 (T 47) (.const (.int .i64 1)) 2),
 mo 49 (.fieldAddr 26 (T 4) 0),
 mx (.store 2 (T 49) (T 43)),
 mo 50 (.fieldAddr 26 (T 4) 1),
 mx (.store 2 (T 50) (T 48))]
def r11_0 : Code := .region 10 o11_0 true
theorem xr_11_0 {Q : DExit → St → Prop} {s : St} : xs Try.prog 78 r11_0 Q s = NC Try.prog 78 r11_0 Q s := rfl
theorem dr_11_0 {Q : DExit → St → Prop} {s : St} (h : XDraw Try.prog l11_0.toArray (befs o11_0.toList []) [(7, 10)] s.fr Q l11_0 0 s []) : NC Try.prog 78 r11_0 Q s :=
  NC.draw (by kernel_rfl) (by kernel_rfl) (by kernel_rfl) rfl (by kernel_rfl) (by kernel_rfl) h
attribute [go_sem] xr_11_0
def o11_1 : Array Oper := #[⟨(some 57), (.move (T 0)), 30, "client.go:67", #[], none⟩,
 ⟨(some 58), (.move (T 0)), 30, "client.go:67", #[⟨11, (.gcOnly Go.Departure.lateStores)⟩], none⟩,
 ⟨(some 59), (.move (T 0)), 30, "client.go:67", #[⟨14, (.gcOnly Go.Departure.lateStores)⟩], none⟩,
 ⟨(some 60), (.move (T 0)), 30, "client.go:67", #[⟨17, (.gcOnly Go.Departure.lateStores)⟩], none⟩,
 ⟨(some 61), (.move (T 0)), 30, "client.go:67", #[⟨20, (.gcOnly Go.Departure.lateStores)⟩], none⟩,
 ⟨(some 62), (.load 26 (T 4)), 26, "client.go:67", #[], none⟩,
 ⟨(some 63), (.fieldAddr 26 (T 4) 1), 0, "client.go:67", #[⟨11, (.gcOnly Go.Departure.lateStores)⟩], none⟩,
 ⟨(some 64), (.load 2 (T 63)), 2, "client.go:67", #[⟨6, .data⟩, ⟨11, (.gcOnly Go.Departure.lateStores)⟩], none⟩,
 ⟨(some 65), (.move (T 2)), 3, "client.go:67", #[⟨20, (.gcOnly Go.Departure.lateStores)⟩], none⟩,
 ⟨(some 66), (.nilCheck (T 57)), 0, "client.go:67", #[⟨0, .data⟩, ⟨0, .phase⟩, ⟨1, (.textOnly Go.Departure.lateStores)⟩, ⟨2, (.textOnly Go.Departure.lateStores)⟩, ⟨3, (.textOnly Go.Departure.lateStores)⟩, ⟨4, (.textOnly Go.Departure.lateStores)⟩, ⟨5, .phase⟩, ⟨6, (.textOnly Go.Departure.lateStores)⟩, ⟨7, (.textOnly Go.Departure.lateStores)⟩, ⟨8, (.textOnly Go.Departure.lateStores)⟩], none⟩,
 ⟨(some 67), (.fieldAddr 76 (T 66) 4), 0, "client.go:67", #[⟨9, .data⟩, ⟨0, .phase⟩, ⟨1, (.textOnly Go.Departure.lateStores)⟩, ⟨2, (.textOnly Go.Departure.lateStores)⟩, ⟨3, (.textOnly Go.Departure.lateStores)⟩, ⟨4, (.textOnly Go.Departure.lateStores)⟩, ⟨5, .phase⟩, ⟨6, (.textOnly Go.Departure.lateStores)⟩, ⟨7, (.textOnly Go.Departure.lateStores)⟩, ⟨8, (.textOnly Go.Departure.lateStores)⟩], none⟩,
 ⟨none, (.store 26 (T 67) (T 62)), 0, "client.go:67", #[⟨10, .data⟩, ⟨5, .data⟩, ⟨0, .phase⟩, ⟨1, (.textOnly Go.Departure.lateStores)⟩, ⟨2, (.textOnly Go.Departure.lateStores)⟩, ⟨3, (.textOnly Go.Departure.lateStores)⟩, ⟨4, (.textOnly Go.Departure.lateStores)⟩, ⟨5, .phase⟩, ⟨6, (.textOnly Go.Departure.lateStores)⟩, ⟨7, (.textOnly Go.Departure.lateStores)⟩, ⟨8, (.textOnly Go.Departure.lateStores)⟩], none⟩,
 ⟨(some 68), (.nilCheck (T 58)), 0, "client.go:67", #[⟨1, .data⟩, ⟨0, .phase⟩, ⟨1, .phase⟩, ⟨2, (.textOnly Go.Departure.lateStores)⟩, ⟨3, (.textOnly Go.Departure.lateStores)⟩, ⟨4, (.textOnly Go.Departure.lateStores)⟩, ⟨5, .phase⟩, ⟨6, .phase⟩, ⟨7, .phase⟩, ⟨8, (.textOnly Go.Departure.lateStores)⟩, ⟨9, .phase⟩, ⟨10, .phase⟩, ⟨11, .phase⟩], none⟩,
 ⟨(some 69), (.fieldAddr 76 (T 68) 2), 0, "client.go:67", #[⟨12, .data⟩, ⟨0, .phase⟩, ⟨1, .phase⟩, ⟨2, (.textOnly Go.Departure.lateStores)⟩, ⟨3, (.textOnly Go.Departure.lateStores)⟩, ⟨4, (.textOnly Go.Departure.lateStores)⟩, ⟨5, .phase⟩, ⟨6, .phase⟩, ⟨7, .phase⟩, ⟨8, (.textOnly Go.Departure.lateStores)⟩, ⟨9, .phase⟩, ⟨10, .phase⟩, ⟨11, .phase⟩], none⟩,
 ⟨none, (.store 2 (T 69) (T 64)), 0, "client.go:67", #[⟨13, .data⟩, ⟨7, .data⟩, ⟨11, .chain⟩, ⟨0, .phase⟩, ⟨1, .phase⟩, ⟨2, (.textOnly Go.Departure.lateStores)⟩, ⟨3, (.textOnly Go.Departure.lateStores)⟩, ⟨4, (.textOnly Go.Departure.lateStores)⟩, ⟨5, .phase⟩, ⟨6, .phase⟩, ⟨7, .phase⟩, ⟨8, (.textOnly Go.Departure.lateStores)⟩, ⟨9, .phase⟩, ⟨10, .phase⟩, ⟨11, .phase⟩], none⟩,
 ⟨(some 70), (.nilCheck (T 59)), 0, "client.go:67", #[⟨2, .data⟩, ⟨0, .phase⟩, ⟨1, .phase⟩, ⟨2, .phase⟩, ⟨3, (.textOnly Go.Departure.lateStores)⟩, ⟨4, (.textOnly Go.Departure.lateStores)⟩, ⟨5, .phase⟩, ⟨6, .phase⟩, ⟨7, .phase⟩, ⟨8, (.textOnly Go.Departure.lateStores)⟩, ⟨9, .phase⟩, ⟨10, .phase⟩, ⟨11, .phase⟩, ⟨12, .phase⟩, ⟨13, .phase⟩, ⟨14, .phase⟩], none⟩,
 ⟨(some 71), (.fieldAddr 76 (T 70) 3), 0, "client.go:67", #[⟨15, .data⟩, ⟨0, .phase⟩, ⟨1, .phase⟩, ⟨2, .phase⟩, ⟨3, (.textOnly Go.Departure.lateStores)⟩, ⟨4, (.textOnly Go.Departure.lateStores)⟩, ⟨5, .phase⟩, ⟨6, .phase⟩, ⟨7, .phase⟩, ⟨8, (.textOnly Go.Departure.lateStores)⟩, ⟨9, .phase⟩, ⟨10, .phase⟩, ⟨11, .phase⟩, ⟨12, .phase⟩, ⟨13, .phase⟩, ⟨14, .phase⟩], none⟩,
 ⟨none, (.store 4 (T 71) (.const (.bool true))), 0, "client.go:67", #[⟨16, .data⟩, ⟨14, .chain⟩, ⟨0, .phase⟩, ⟨1, .phase⟩, ⟨2, .phase⟩, ⟨3, (.textOnly Go.Departure.lateStores)⟩, ⟨4, (.textOnly Go.Departure.lateStores)⟩, ⟨5, .phase⟩, ⟨6, .phase⟩, ⟨7, .phase⟩, ⟨8, (.textOnly Go.Departure.lateStores)⟩, ⟨9, .phase⟩, ⟨10, .phase⟩, ⟨11, .phase⟩, ⟨12, .phase⟩, ⟨13, .phase⟩, ⟨14, .phase⟩], none⟩,
 ⟨(some 72), (.nilCheck (T 60)), 0, "client.go:67", #[⟨3, .data⟩, ⟨0, .phase⟩, ⟨1, .phase⟩, ⟨2, .phase⟩, ⟨3, .phase⟩, ⟨4, (.textOnly Go.Departure.lateStores)⟩, ⟨5, .phase⟩, ⟨6, .phase⟩, ⟨7, .phase⟩, ⟨8, (.textOnly Go.Departure.lateStores)⟩, ⟨9, .phase⟩, ⟨10, .phase⟩, ⟨11, .phase⟩, ⟨12, .phase⟩, ⟨13, .phase⟩, ⟨14, .phase⟩, ⟨15, .phase⟩, ⟨16, .phase⟩, ⟨17, .phase⟩], none⟩,
 ⟨(some 73), (.fieldAddr 76 (T 72) 5), 0, "client.go:67", #[⟨18, .data⟩, ⟨0, .phase⟩, ⟨1, .phase⟩, ⟨2, .phase⟩, ⟨3, .phase⟩, ⟨4, (.textOnly Go.Departure.lateStores)⟩, ⟨5, .phase⟩, ⟨6, .phase⟩, ⟨7, .phase⟩, ⟨8, (.textOnly Go.Departure.lateStores)⟩, ⟨9, .phase⟩, ⟨10, .phase⟩, ⟨11, .phase⟩, ⟨12, .phase⟩, ⟨13, .phase⟩, ⟨14, .phase⟩, ⟨15, .phase⟩, ⟨16, .phase⟩, ⟨17, .phase⟩], none⟩,
 ⟨none, (.store 3 (T 73) (.const (.int .i64 0))), 0, "client.go:67", #[⟨19, .data⟩, ⟨17, .chain⟩, ⟨0, .phase⟩, ⟨1, .phase⟩, ⟨2, .phase⟩, ⟨3, .phase⟩, ⟨4, (.textOnly Go.Departure.lateStores)⟩, ⟨5, .phase⟩, ⟨6, .phase⟩, ⟨7, .phase⟩, ⟨8, (.textOnly Go.Departure.lateStores)⟩, ⟨9, .phase⟩, ⟨10, .phase⟩, ⟨11, .phase⟩, ⟨12, .phase⟩, ⟨13, .phase⟩, ⟨14, .phase⟩, ⟨15, .phase⟩, ⟨16, .phase⟩, ⟨17, .phase⟩], none⟩,
 ⟨(some 74), (.nilCheck (T 61)), 0, "client.go:67", #[⟨4, .data⟩, ⟨0, .phase⟩, ⟨1, .phase⟩, ⟨2, .phase⟩, ⟨3, .phase⟩, ⟨4, .phase⟩, ⟨5, .phase⟩, ⟨6, .phase⟩, ⟨7, .phase⟩, ⟨8, .phase⟩, ⟨9, .phase⟩, ⟨10, .phase⟩, ⟨11, .phase⟩, ⟨12, .phase⟩, ⟨13, .phase⟩, ⟨14, .phase⟩, ⟨15, .phase⟩, ⟨16, .phase⟩, ⟨17, .phase⟩, ⟨18, .phase⟩, ⟨19, .phase⟩, ⟨20, .phase⟩], none⟩,
 ⟨(some 75), (.fieldAddr 76 (T 74) 6), 0, "client.go:67", #[⟨21, .data⟩, ⟨0, .phase⟩, ⟨1, .phase⟩, ⟨2, .phase⟩, ⟨3, .phase⟩, ⟨4, .phase⟩, ⟨5, .phase⟩, ⟨6, .phase⟩, ⟨7, .phase⟩, ⟨8, .phase⟩, ⟨9, .phase⟩, ⟨10, .phase⟩, ⟨11, .phase⟩, ⟨12, .phase⟩, ⟨13, .phase⟩, ⟨14, .phase⟩, ⟨15, .phase⟩, ⟨16, .phase⟩, ⟨17, .phase⟩, ⟨18, .phase⟩, ⟨19, .phase⟩, ⟨20, .phase⟩], none⟩,
 ⟨none, (.store 3 (T 75) (T 65)), 0, "client.go:67", #[⟨22, .data⟩, ⟨8, .data⟩, ⟨20, .chain⟩, ⟨0, .phase⟩, ⟨1, .phase⟩, ⟨2, .phase⟩, ⟨3, .phase⟩, ⟨4, .phase⟩, ⟨5, .phase⟩, ⟨6, .phase⟩, ⟨7, .phase⟩, ⟨8, .phase⟩, ⟨9, .phase⟩, ⟨10, .phase⟩, ⟨11, .phase⟩, ⟨12, .phase⟩, ⟨13, .phase⟩, ⟨14, .phase⟩, ⟨15, .phase⟩, ⟨16, .phase⟩, ⟨17, .phase⟩, ⟨18, .phase⟩, ⟨19, .phase⟩, ⟨20, .phase⟩], none⟩]
def l11_1 : List Oper := [mo 57 (.move (T 0)),
 mo 58 (.move (T 0)),
 mo 59 (.move (T 0)),
 mo 60 (.move (T 0)),
 mo 61 (.move (T 0)),
 mo 62 (.load 26 (T 4)),
 mo 63 (.fieldAddr 26 (T 4) 1),
 mo 64 (.load 2 (T 63)),
 mo 65 (.move (T 2)),
 mo 66 (.nilCheck (T 57)),
 mo 67 (.fieldAddr 76 (T 66) 4),
 mx (.store 26 (T 67) (T 62)),
 mo 68 (.nilCheck (T 58)),
 mo 69 (.fieldAddr 76 (T 68) 2),
 mx (.store 2 (T 69) (T 64)),
 mo 70 (.nilCheck (T 59)),
 mo 71 (.fieldAddr 76 (T 70) 3),
 mx (.store 4 (T 71) (.const (.bool true))),
 mo 72 (.nilCheck (T 60)),
 mo 73 (.fieldAddr 76 (T 72) 5),
 mx (.store 3 (T 73) (.const (.int .i64 0))),
 mo 74 (.nilCheck (T 61)),
 mo 75 (.fieldAddr 76 (T 74) 6),
 mx (.store 3 (T 75) (T 65))]
def r11_1 : Code := .region 14 o11_1 true
theorem xr_11_1 {Q : DExit → St → Prop} {s : St} : xs Try.prog 78 r11_1 Q s = NC Try.prog 78 r11_1 Q s := rfl
theorem dr_11_1 {Q : DExit → St → Prop} {s : St} (h : XDraw Try.prog l11_1.toArray (befs o11_1.toList []) [(7, 11)] s.fr Q l11_1 0 s []) : NC Try.prog 78 r11_1 Q s :=
  NC.draw (by kernel_rfl) (by kernel_rfl) (by kernel_rfl) rfl (by kernel_rfl) (by kernel_rfl) h
attribute [go_sem] xr_11_1
def c11 : Code :=
 .seq (rg [mo 4 (.box 26 (T 1)),
   mo 6 (.alloc 36),
   mo 7 (.assign (.const (.int .i64 0)))])
 (.seq (.block 0 (.seq (rg [mo 10 (.move (T 0)),
     mo 11 (.call ⟨(.value (.func 31)), #[(T 10)], #[30]⟩),
     mo 9 (.assign (T 11))])
   (.cond (T 9) (.seq (rg [mo 12 (.build 36 #[]),
      mx (.store 36 (T 6) (T 12)),
      mo 7 (.assign (.const (.int .i64 2)))])
    (.ret))
   (.seq (rg [mo 14 (.move (T 0)),
      mo 15 (.nilCheck (T 14)),
      mo 16 (.fieldAddr 76 (T 15) 3),
      mo 17 (.load 4 (T 16)),
      mo 13 (.assign (T 17))])
    (.cond (T 13) (.seq (rg [mo 18 (.build 36 #[]),
       mx (.store 36 (T 6) (T 18)),
       mo 7 (.assign (.const (.int .i64 251)))])
     (.ret))
    (.seq (rg [mo 20 (.move (T 2)),
       mo 21 (.binOp .lss 3 (T 20) (.const (.int .i64 0)) 3),
       mo 22 (.move (T 21)),
       mg 23 2 false (.move (T 2)),
       mg 24 2 false (.move (T 0)),
       mg 25 2 false (.nilCheck (T 24)),
       mg 26 2 false (.fieldAddr 76 (T 25) 1),
       mg 27 2 false (.load 3 (T 26)),
       mg 28 2 false (.binOp .geq 3 (T 23) (T 27) 3),
       mo 29 (.pick (T 22) (.const (.bool true)) (T 28)),
       mo 19 (.assign (T 29))])
     (.cond (T 19) (.seq (rg [mo 30 (.build 36 #[]),
        mx (.store 36 (T 6) (T 30)),
        mo 7 (.assign (.const (.int .i64 1)))])
      (.ret))
     (.seq (rg [mo 32 (.move (T 0)),
        mo 33 (.nilCheck (T 32)),
        mo 34 (.fieldAddr 76 (T 33) 2),
        mo 35 (.load 2 (T 34)),
        mo 36 (.binOp .geq 2 (T 35) (.const (.int .i64 1099511627776)) 2),
        mo 31 (.assign (T 36))])
      (.cond (T 31) (.seq (rg [mo 37 (.build 36 #[]),
         mx (.store 36 (T 6) (T 37)),
         mo 7 (.assign (.const (.int .i64 6)))])
       (.ret))
      (.skip))))))))))
 (.seq (rg [mo 38 (.load 26 (T 4)),
   mo 39 (.call ⟨(.value (.func 20)), #[(T 38)], #[26]⟩),
   mx (.store 26 (T 4) (T 39))])
 (.seq (r11_0)
 (.seq (.seq (rg [mo 51 (.load 26 (T 4)),
    mo 52 (.call ⟨(.value (.func 32)), #[(T 51)], #[26]⟩),
    mo 8 (.assign (T 52))])
  (.seq (rg [mo 53 (.move (T 8)),
    mo 54 (.binOp .neq 31 (T 53) (.const (.int .i64 0)) 31)])
  (.cond (T 54) (.seq (rg [mo 55 (.build 36 #[]),
     mo 56 (.move (T 8)),
     mx (.store 36 (T 6) (T 55)),
     mo 7 (.assign (T 56))])
   (.ret))
  (.skip))))
 (.seq (r11_1)
 (.seq (rg [mo 76 (.move (T 0)),
   mo 77 (.call ⟨(.value (.func 33)), #[(T 76)], #[30]⟩),
   mx (.store 36 (T 6) (T 77)),
   mo 7 (.assign (.const (.int .i64 0)))])
 (.ret)))))))
theorem body_11 : Try.f11.body.map strip = some c11 := by kernel_rfl
theorem go_11 {args : List Value} {h : DHeap} {R : DEnd → DHeap → Prop} (ha : args.length ≤ 78) (hx : xs Try.prog 78 c11 (XPost Try.prog [(.cell 6 36), (.tmp 7)] R) ⟨argsFr args 78, [], h, none⟩) : Ct Try.prog 11 args h R :=
  Ct_xs (show Try.prog.funcs[11]? = some Try.f11 by kernel_rfl) body_11 (by kernel_rfl) (by kernel_rfl) ha (by kernel_rfl) hx
/-! (*trivet/client.Client).Tick -/
def o12_0 : Array Oper := #[⟨(some 27), (.move (T 0)), 30, "client.go:82", #[], none⟩,
 ⟨(some 28), (.move (T 0)), 30, "client.go:82", #[⟨14, (.gcOnly Go.Departure.lateStores)⟩], none⟩,
 ⟨(some 29), (.move (T 0)), 30, "client.go:82", #[], none⟩,
 ⟨(some 30), (.nilCheck (T 29)), 0, "client.go:82", #[⟨2, .data⟩], none⟩,
 ⟨(some 31), (.fieldAddr 76 (T 30) 6), 0, "client.go:82", #[⟨3, .data⟩], none⟩,
 ⟨(some 32), (.load 3 (T 31)), 3, "client.go:82", #[⟨4, .data⟩], none⟩,
 ⟨(some 33), (.binOp .add 3 (T 32) (.const (.int .i64 1)) 3), 3, "client.go:82", #[⟨5, .data⟩], none⟩,
 ⟨(some 34), (.move (T 0)), 30, "client.go:82", #[], none⟩,
 ⟨(some 35), (.nilCheck (T 34)), 0, "client.go:82", #[⟨7, .data⟩], none⟩,
 ⟨(some 36), (.fieldAddr 76 (T 35) 1), 0, "client.go:82", #[⟨8, .data⟩], none⟩,
 ⟨(some 37), (.load 3 (T 36)), 3, "client.go:82", #[⟨9, .data⟩], none⟩,
 ⟨(some 38), (.binOp .rem 3 (T 33) (T 37) 3), 3, "client.go:82", #[⟨6, .data⟩, ⟨10, .data⟩], none⟩,
 ⟨(some 39), (.nilCheck (T 27)), 0, "client.go:82", #[⟨0, .data⟩, ⟨0, .phase⟩, ⟨1, (.textOnly Go.Departure.lateStores)⟩, ⟨2, (.textOnly Go.Departure.lateStores)⟩, ⟨3, (.textOnly Go.Departure.lateStoresUnsure)⟩, ⟨4, (.textOnly Go.Departure.lateStoresUnsure)⟩, ⟨5, .phase⟩, ⟨6, (.textOnly Go.Departure.lateStoresUnsure)⟩, ⟨7, (.textOnly Go.Departure.lateStores)⟩, ⟨8, (.textOnly Go.Departure.lateStoresUnsure)⟩, ⟨9, (.textOnly Go.Departure.lateStoresUnsure)⟩, ⟨10, .phase⟩, ⟨11, (.textOnly Go.Departure.lateStoresUnsure)⟩], none⟩,
 ⟨(some 40), (.fieldAddr 76 (T 39) 5), 0, "client.go:82", #[⟨12, .data⟩, ⟨0, .phase⟩, ⟨1, (.textOnly Go.Departure.lateStores)⟩, ⟨2, (.textOnly Go.Departure.lateStores)⟩, ⟨3, (.textOnly Go.Departure.lateStoresUnsure)⟩, ⟨4, (.textOnly Go.Departure.lateStoresUnsure)⟩, ⟨5, .phase⟩, ⟨6, (.textOnly Go.Departure.lateStoresUnsure)⟩, ⟨7, (.textOnly Go.Departure.lateStores)⟩, ⟨8, (.textOnly Go.Departure.lateStoresUnsure)⟩, ⟨9, (.textOnly Go.Departure.lateStoresUnsure)⟩, ⟨10, .phase⟩, ⟨11, (.textOnly Go.Departure.lateStoresUnsure)⟩], none⟩,
 ⟨none, (.store 3 (T 40) (.const (.int .i64 0))), 0, "client.go:82", #[⟨13, .data⟩, ⟨0, .phase⟩, ⟨1, (.textOnly Go.Departure.lateStores)⟩, ⟨2, (.textOnly Go.Departure.lateStores)⟩, ⟨3, (.textOnly Go.Departure.lateStoresUnsure)⟩, ⟨4, (.textOnly Go.Departure.lateStoresUnsure)⟩, ⟨5, .phase⟩, ⟨6, (.textOnly Go.Departure.lateStoresUnsure)⟩, ⟨7, (.textOnly Go.Departure.lateStores)⟩, ⟨8, (.textOnly Go.Departure.lateStoresUnsure)⟩, ⟨9, (.textOnly Go.Departure.lateStoresUnsure)⟩, ⟨10, .phase⟩, ⟨11, (.textOnly Go.Departure.lateStoresUnsure)⟩], none⟩,
 ⟨(some 41), (.nilCheck (T 28)), 0, "client.go:82", #[⟨1, .data⟩, ⟨0, .phase⟩, ⟨1, .phase⟩, ⟨2, .phase⟩, ⟨3, .phase⟩, ⟨4, .phase⟩, ⟨5, .phase⟩, ⟨6, .phase⟩, ⟨7, .phase⟩, ⟨8, .phase⟩, ⟨9, .phase⟩, ⟨10, .phase⟩, ⟨11, .phase⟩, ⟨12, .phase⟩, ⟨13, .phase⟩, ⟨14, .phase⟩], none⟩,
 ⟨(some 42), (.fieldAddr 76 (T 41) 6), 0, "client.go:82", #[⟨15, .data⟩, ⟨0, .phase⟩, ⟨1, .phase⟩, ⟨2, .phase⟩, ⟨3, .phase⟩, ⟨4, .phase⟩, ⟨5, .phase⟩, ⟨6, .phase⟩, ⟨7, .phase⟩, ⟨8, .phase⟩, ⟨9, .phase⟩, ⟨10, .phase⟩, ⟨11, .phase⟩, ⟨12, .phase⟩, ⟨13, .phase⟩, ⟨14, .phase⟩], none⟩,
 ⟨none, (.store 3 (T 42) (T 38)), 0, "client.go:82", #[⟨16, .data⟩, ⟨11, .data⟩, ⟨14, .chain⟩, ⟨0, .phase⟩, ⟨1, .phase⟩, ⟨2, .phase⟩, ⟨3, .phase⟩, ⟨4, .phase⟩, ⟨5, .phase⟩, ⟨6, .phase⟩, ⟨7, .phase⟩, ⟨8, .phase⟩, ⟨9, .phase⟩, ⟨10, .phase⟩, ⟨11, .phase⟩, ⟨12, .phase⟩, ⟨13, .phase⟩, ⟨14, .phase⟩], none⟩]
def l12_0 : List Oper := [mo 27 (.move (T 0)),
 mo 28 (.move (T 0)),
 mo 29 (.move (T 0)),
 mo 30 (.nilCheck (T 29)),
 mo 31 (.fieldAddr 76 (T 30) 6),
 mo 32 (.load 3 (T 31)),
 mo 33 (.binOp .add 3 (T 32) (.const (.int .i64 1)) 3),
 mo 34 (.move (T 0)),
 mo 35 (.nilCheck (T 34)),
 mo 36 (.fieldAddr 76 (T 35) 1),
 mo 37 (.load 3 (T 36)),
 mo 38 (.binOp .rem 3 (T 33) (T 37) 3),
 mo 39 (.nilCheck (T 27)),
 mo 40 (.fieldAddr 76 (T 39) 5),
 mx (.store 3 (T 40) (.const (.int .i64 0))),
 mo 41 (.nilCheck (T 28)),
 mo 42 (.fieldAddr 76 (T 41) 6),
 mx (.store 3 (T 42) (T 38))]
def r12_0 : Code := .region 6 o12_0 true
theorem xr_12_0 {Q : DExit → St → Prop} {s : St} : xs Try.prog 45 r12_0 Q s = NC Try.prog 45 r12_0 Q s := rfl
theorem dr_12_0 {Q : DExit → St → Prop} {s : St} (h : XDraw Try.prog l12_0.toArray (befs o12_0.toList []) [] s.fr Q l12_0 0 s []) : NC Try.prog 45 r12_0 Q s :=
  NC.draw (by kernel_rfl) (by kernel_rfl) (by kernel_rfl) rfl (by kernel_rfl) (by kernel_rfl) h
attribute [go_sem] xr_12_0
def c12 : Code :=
 .seq (rg [mo 2 (.alloc 36),
   mo 3 (.assign (.const (.bool false)))])
 (.seq (.seq (rg [mo 4 (.move (T 0)),
    mo 5 (.call ⟨(.value (.func 31)), #[(T 4)], #[30]⟩),
    mo 6 (.move (T 5)),
    mg 7 2 false (.move (T 0)),
    mg 8 2 false (.nilCheck (T 7)),
    mg 9 2 false (.fieldAddr 76 (T 8) 3),
    mg 10 2 false (.load 4 (T 9)),
    mg 11 2 false (.unOp .not 4 (T 10)),
    mo 12 (.pick (T 6) (.const (.bool true)) (T 11))])
  (.cond (T 12) (.seq (rg [mo 13 (.build 36 #[]),
     mx (.store 36 (T 2) (T 13)),
     mo 3 (.assign (.const (.bool false)))])
   (.ret))
  (.skip)))
 (.seq (.seq (rg [mo 14 (.move (T 0)),
    mo 15 (.nilCheck (T 14)),
    mo 16 (.fieldAddr 76 (T 15) 5),
    mo 17 (.load 3 (T 16)),
    mo 18 (.binOp .add 3 (T 17) (.const (.int .i64 1)) 3),
    mo 19 (.nilCheck (T 14)),
    mo 20 (.fieldAddr 76 (T 19) 5),
    mx (.store 3 (T 20) (T 18))])
  (.seq (rg [mo 21 (.move (T 0)),
    mo 22 (.nilCheck (T 21)),
    mo 23 (.fieldAddr 76 (T 22) 5),
    mo 24 (.load 3 (T 23)),
    mo 25 (.binOp .lss 3 (T 24) (.const (.int .i64 12)) 3)])
  (.cond (T 25) (.seq (rg [mo 26 (.build 36 #[]),
     mx (.store 36 (T 2) (T 26)),
     mo 3 (.assign (.const (.bool false)))])
   (.ret))
  (.skip))))
 (.seq (r12_0)
 (.seq (rg [mo 43 (.move (T 0)),
   mo 44 (.call ⟨(.value (.func 33)), #[(T 43)], #[30]⟩),
   mx (.store 36 (T 2) (T 44)),
   mo 3 (.assign (.const (.bool true)))])
 (.ret)))))
theorem body_12 : Try.f12.body.map strip = some c12 := by kernel_rfl
theorem go_12 {args : List Value} {h : DHeap} {R : DEnd → DHeap → Prop} (ha : args.length ≤ 45) (hx : xs Try.prog 45 c12 (XPost Try.prog [(.cell 2 36), (.tmp 3)] R) ⟨argsFr args 45, [], h, none⟩) : Ct Try.prog 12 args h R :=
  Ct_xs (show Try.prog.funcs[12]? = some Try.f12 by kernel_rfl) body_12 (by kernel_rfl) (by kernel_rfl) ha (by kernel_rfl) hx
/-! trivet/trivetref25.SameTxn -/
def o13_0 : Array Oper := #[⟨(some 42), (.fieldAddr 26 (T 2) 2), 0, "ref.go:133", #[], none⟩,
 ⟨(some 43), (.load 22 (T 42)), 22, "ref.go:133", #[⟨0, .data⟩], none⟩,
 ⟨(some 44), (.move (T 5)), 3, "ref.go:133", #[], none⟩,
 ⟨(some 45), (.indexAddr 22 (T 43) (T 44)), 0, "ref.go:133", #[⟨1, .data⟩, ⟨2, .data⟩], none⟩,
 ⟨(some 46), (.load 5 (T 45)), 5, "ref.go:133", #[⟨3, .data⟩], none⟩,
 ⟨(some 47), (.fieldAddr 26 (T 3) 2), 0, "ref.go:133", #[], none⟩,
 ⟨(some 48), (.load 22 (T 47)), 22, "ref.go:133", #[⟨5, .data⟩], none⟩,
 ⟨(some 49), (.move (T 5)), 3, "ref.go:133", #[], none⟩,
 ⟨(some 50), (.indexAddr 22 (T 48) (T 49)), 0, "ref.go:133", #[⟨6, .data⟩, ⟨7, .data⟩], none⟩,
 ⟨(some 51), (.load 5 (T 50)), 5, "ref.go:133", #[⟨8, .data⟩], none⟩,
 ⟨(some 52), (.binOp .neq 5 (T 46) (T 51) 5), 4, "ref.go:133", #[⟨4, .data⟩, ⟨9, .data⟩], none⟩]
def l13_0 : List Oper := [mo 42 (.fieldAddr 26 (T 2) 2),
 mo 43 (.load 22 (T 42)),
 mo 44 (.move (T 5)),
 mo 45 (.indexAddr 22 (T 43) (T 44)),
 mo 46 (.load 5 (T 45)),
 mo 47 (.fieldAddr 26 (T 3) 2),
 mo 48 (.load 22 (T 47)),
 mo 49 (.move (T 5)),
 mo 50 (.indexAddr 22 (T 48) (T 49)),
 mo 51 (.load 5 (T 50)),
 mo 52 (.binOp .neq 5 (T 46) (T 51) 5)]
def r13_0 : Code := .region 6 o13_0 true
theorem xr_13_0 {Q : DExit → St → Prop} {s : St} : xs Try.prog 65 r13_0 Q s = NC Try.prog 65 r13_0 Q s := rfl
theorem dr_13_0 {Q : DExit → St → Prop} {s : St} (h : XDraw Try.prog l13_0.toArray (befs o13_0.toList []) [] s.fr Q l13_0 0 s []) : NC Try.prog 65 r13_0 Q s :=
  NC.draw (by kernel_rfl) (by kernel_rfl) (by kernel_rfl) rfl (by kernel_rfl) (by kernel_rfl) h
attribute [go_sem] xr_13_0
def c13 : Code :=
 .seq (rg [mo 2 (.box 26 (T 0)),
   mo 3 (.box 26 (T 1)),
   mo 4 (.assign (.const (.bool false)))])
 (.seq (.seq (rg [mo 6 (.fieldAddr 26 (T 2) 0),
    mo 7 (.load 2 (T 6)),
    mo 8 (.fieldAddr 26 (T 3) 0),
    mo 9 (.load 2 (T 8)),
    mo 10 (.binOp .neq 2 (T 7) (T 9) 2),
    mo 11 (.move (T 10)),
    mg 12 5 false (.fieldAddr 26 (T 2) 1),
    mg 13 5 false (.load 2 (T 12)),
    mg 14 5 false (.fieldAddr 26 (T 3) 1),
    mg 15 5 false (.load 2 (T 14)),
    mg 16 5 false (.binOp .neq 2 (T 13) (T 15) 2),
    mo 17 (.pick (T 11) (.const (.bool true)) (T 16)),
    mo 18 (.move (T 17)),
    mg 19 12 false (.fieldAddr 26 (T 2) 2),
    mg 20 12 false (.load 22 (T 19)),
    mg 21 12 false (.call ⟨(.builtin .len), #[(T 20)], #[22]⟩),
    mg 22 12 false (.fieldAddr 26 (T 3) 2),
    mg 23 12 false (.load 22 (T 22)),
    mg 24 12 false (.call ⟨(.builtin .len), #[(T 23)], #[22]⟩),
    mg 25 12 false (.binOp .neq 3 (T 21) (T 24) 3),
    mo 26 (.pick (T 18) (.const (.bool true)) (T 25)),
    mo 27 (.move (T 26)),
    mg 28 21 false (.fieldAddr 26 (T 2) 3),
    mg 29 21 false (.load 23 (T 28)),
    mg 30 21 false (.fieldAddr 26 (T 3) 3),
    mg 31 21 false (.load 23 (T 30)),
    mg 32 21 false (.call ⟨(.value (.func 34)), #[(T 29), (T 31)], #[23, 23]⟩),
    mg 33 21 false (.unOp .not 4 (T 32)),
    mo 34 (.pick (T 27) (.const (.bool true)) (T 33))])
  (.cond (T 34) (.seq (rg [mo 4 (.assign (.const (.bool false)))])
   (.ret))
  (.skip)))
 (.seq (.seq (rg [mo 5 (.assign (.const (.int .i64 0)))])
  (.block 0 (.loop (.seq (.seq (rg [mo 35 (.move (T 5)),
       mo 36 (.fieldAddr 26 (T 2) 2),
       mo 37 (.load 22 (T 36)),
       mo 38 (.call ⟨(.builtin .len), #[(T 37)], #[22]⟩),
       mo 39 (.binOp .lss 3 (T 35) (T 38) 3)])
     (.cond (T 39) (.skip)
     (.exit 0)))
    (.seq (.block 1 (.seq (r13_0)
      (.cond (T 52) (.seq (rg [mo 4 (.assign (.const (.bool false)))])
       (.ret))
      (.skip))))
    (rg [mo 40 (.move (T 5)),
     mo 41 (.binOp .add 3 (T 40) (.const (.int .i64 1)) 3),
     mo 5 (.assign (T 41))]))))))
 (.seq (rg [mo 53 (.fieldAddr 26 (T 2) 4),
   mo 54 (.load 24 (T 53)),
   mo 55 (.fieldAddr 26 (T 3) 4),
   mo 56 (.load 24 (T 55)),
   mo 57 (.call ⟨(.value (.func 24)), #[(T 54), (T 56)], #[24, 24]⟩),
   mo 58 (.move (T 57)),
   mg 59 5 true (.fieldAddr 26 (T 2) 5),
   mg 60 5 true (.load 24 (T 59)),
   mg 61 5 true (.fieldAddr 26 (T 3) 5),
   mg 62 5 true (.load 24 (T 61)),
   mg 63 5 true (.call ⟨(.value (.func 24)), #[(T 60), (T 62)], #[24, 24]⟩),
   mo 64 (.pick (T 58) (T 63) (.const (.bool false))),
   mo 4 (.assign (T 64))])
 (.ret))))
theorem body_13 : Try.f13.body.map strip = some c13 := by kernel_rfl
theorem go_13 {args : List Value} {h : DHeap} {R : DEnd → DHeap → Prop} (ha : args.length ≤ 65) (hx : xs Try.prog 65 c13 (XPost Try.prog [(.tmp 4)] R) ⟨argsFr args 65, [], h, none⟩) : Ct Try.prog 13 args h R :=
  Ct_xs (show Try.prog.funcs[13]? = some Try.f13 by kernel_rfl) body_13 (by kernel_rfl) (by kernel_rfl) ha (by kernel_rfl) hx
/-! (*trivet/client.Client).Answer -/
def o14_0 : Array Oper := #[⟨(some 10), (.move (T 0)), 30, "client.go:91", #[], none⟩,
 ⟨(some 11), (.nilCheck (T 10)), 0, "client.go:91", #[⟨0, .data⟩], none⟩,
 ⟨(some 12), (.fieldAddr 76 (T 11) 3), 0, "client.go:91", #[⟨1, .data⟩], none⟩,
 ⟨(some 13), (.load 4 (T 12)), 4, "client.go:91", #[⟨2, .data⟩], none⟩,
 ⟨(some 14), (.unOp .not 4 (T 13)), 4, "client.go:91", #[⟨3, .data⟩], none⟩,
 ⟨(some 15), (.move (T 14)), 4, "client.go:91", #[⟨4, .data⟩], none⟩,
 ⟨(some 16), (.fieldAddr 47 (T 3) 0), 0, "client.go:91", #[⟨5, .guard⟩], (some (5, false))⟩,
 ⟨(some 17), (.load 2 (T 16)), 2, "client.go:91", #[⟨6, .data⟩, ⟨5, .guard⟩], (some (5, false))⟩,
 ⟨(some 18), (.move (T 0)), 30, "client.go:91", #[⟨5, .guard⟩], (some (5, false))⟩,
 ⟨(some 19), (.nilCheck (T 18)), 0, "client.go:91", #[⟨8, .data⟩, ⟨5, .guard⟩], (some (5, false))⟩,
 ⟨(some 20), (.fieldAddr 76 (T 19) 0), 0, "client.go:91", #[⟨9, .data⟩, ⟨5, .guard⟩], (some (5, false))⟩,
 ⟨(some 21), (.load 2 (T 20)), 2, "client.go:91", #[⟨10, .data⟩, ⟨5, .guard⟩], (some (5, false))⟩,
 ⟨(some 22), (.binOp .neq 2 (T 17) (T 21) 2), 4, "client.go:91", #[⟨7, .data⟩, ⟨11, .data⟩, ⟨5, .guard⟩], (some (5, false))⟩,
 ⟨(some 23), (.pick (T 15) (.const (.bool true)) (T 22)), 4, "client.go:91", #[⟨5, .data⟩, ⟨12, .data⟩], none⟩,
 ⟨(some 24), (.move (T 23)), 4, "client.go:91", #[⟨13, .data⟩, ⟨5, .chain⟩], none⟩,
 ⟨(some 25), (.fieldAddr 47 (T 3) 1), 0, "client.go:91", #[⟨14, .guard⟩], (some (14, false))⟩,
 ⟨(some 26), (.load 2 (T 25)), 2, "client.go:91", #[⟨15, .data⟩, ⟨14, .guard⟩], (some (14, false))⟩,
 ⟨(some 27), (.move (T 0)), 30, "client.go:91", #[⟨14, .guard⟩], (some (14, false))⟩,
 ⟨(some 28), (.nilCheck (T 27)), 0, "client.go:91", #[⟨17, .data⟩, ⟨14, .guard⟩], (some (14, false))⟩,
 ⟨(some 29), (.fieldAddr 76 (T 28) 2), 0, "client.go:91", #[⟨18, .data⟩, ⟨14, .guard⟩], (some (14, false))⟩,
 ⟨(some 30), (.load 2 (T 29)), 2, "client.go:91", #[⟨19, .data⟩, ⟨14, .guard⟩], (some (14, false))⟩,
 ⟨(some 31), (.binOp .neq 2 (T 26) (T 30) 2), 4, "client.go:91", #[⟨16, .data⟩, ⟨20, .data⟩, ⟨14, .guard⟩], (some (14, false))⟩,
 ⟨(some 32), (.pick (T 24) (.const (.bool true)) (T 31)), 4, "client.go:91", #[⟨14, .data⟩, ⟨21, .data⟩], none⟩,
 ⟨(some 9), (.assign (T 32)), 4, "client.go:91", #[⟨22, .data⟩, ⟨14, .chain⟩], none⟩]
def l14_0 : List Oper := [mo 10 (.move (T 0)),
 mo 11 (.nilCheck (T 10)),
 mo 12 (.fieldAddr 76 (T 11) 3),
 mo 13 (.load 4 (T 12)),
 mo 14 (.unOp .not 4 (T 13)),
 mo 15 (.move (T 14)),
 mg 16 5 false (.fieldAddr 47 (T 3) 0),
 mg 17 5 false (.load 2 (T 16)),
 mg 18 5 false (.move (T 0)),
 mg 19 5 false (.nilCheck (T 18)),
 mg 20 5 false (.fieldAddr 76 (T 19) 0),
 mg 21 5 false (.load 2 (T 20)),
 mg 22 5 false (.binOp .neq 2 (T 17) (T 21) 2),
 mo 23 (.pick (T 15) (.const (.bool true)) (T 22)),
 mo 24 (.move (T 23)),
 mg 25 14 false (.fieldAddr 47 (T 3) 1),
 mg 26 14 false (.load 2 (T 25)),
 mg 27 14 false (.move (T 0)),
 mg 28 14 false (.nilCheck (T 27)),
 mg 29 14 false (.fieldAddr 76 (T 28) 2),
 mg 30 14 false (.load 2 (T 29)),
 mg 31 14 false (.binOp .neq 2 (T 26) (T 30) 2),
 mo 32 (.pick (T 24) (.const (.bool true)) (T 31)),
 mo 9 (.assign (T 32))]
def r14_0 : Code := .region 3 o14_0 true
theorem xr_14_0 {Q : DExit → St → Prop} {s : St} : xs Try.prog 75 r14_0 Q s = NC Try.prog 75 r14_0 Q s := rfl
theorem dr_14_0 {Q : DExit → St → Prop} {s : St} (h : XDraw Try.prog l14_0.toArray (befs o14_0.toList []) [] s.fr Q l14_0 0 s []) : NC Try.prog 75 r14_0 Q s :=
  NC.draw (by kernel_rfl) (by kernel_rfl) (by kernel_rfl) rfl (by kernel_rfl) (by kernel_rfl) h
attribute [go_sem] xr_14_0
def o14_1 : Array Oper := #[⟨(some 44), (.move (T 0)), 30, "client.go:96", #[], none⟩,
 ⟨(some 45), (.move (T 0)), 30, "client.go:96", #[⟨7, (.gcOnly Go.Departure.lateStores)⟩], none⟩,
 ⟨(some 46), (.move (T 0)), 30, "client.go:96", #[⟨10, (.gcOnly Go.Departure.lateStores)⟩], none⟩,
 ⟨(some 47), (.fieldAddr 47 (T 3) 2), 0, "client.go:96", #[⟨10, (.gcOnly Go.Departure.lateStores)⟩], none⟩,
 ⟨(some 48), (.load 45 (T 47)), 45, "client.go:96", #[⟨3, .data⟩, ⟨10, (.gcOnly Go.Departure.lateStores)⟩], none⟩,
 ⟨(some 49), (.nilCheck (T 44)), 0, "client.go:96", #[⟨0, .data⟩, ⟨0, .phase⟩, ⟨1, (.textOnly Go.Departure.lateStores)⟩, ⟨2, (.textOnly Go.Departure.lateStores)⟩, ⟨3, (.textOnly Go.Departure.lateStores)⟩, ⟨4, (.textOnly Go.Departure.lateStores)⟩], none⟩,
 ⟨(some 50), (.fieldAddr 76 (T 49) 3), 0, "client.go:96", #[⟨5, .data⟩, ⟨0, .phase⟩, ⟨1, (.textOnly Go.Departure.lateStores)⟩, ⟨2, (.textOnly Go.Departure.lateStores)⟩, ⟨3, (.textOnly Go.Departure.lateStores)⟩, ⟨4, (.textOnly Go.Departure.lateStores)⟩], none⟩,
 ⟨none, (.store 4 (T 50) (.const (.bool false))), 0, "client.go:96", #[⟨6, .data⟩, ⟨0, .phase⟩, ⟨1, (.textOnly Go.Departure.lateStores)⟩, ⟨2, (.textOnly Go.Departure.lateStores)⟩, ⟨3, (.textOnly Go.Departure.lateStores)⟩, ⟨4, (.textOnly Go.Departure.lateStores)⟩], none⟩,
 ⟨(some 51), (.nilCheck (T 45)), 0, "client.go:96", #[⟨1, .data⟩, ⟨0, .phase⟩, ⟨1, .phase⟩, ⟨2, (.textOnly Go.Departure.lateStores)⟩, ⟨3, (.textOnly Go.Departure.lateStores)⟩, ⟨4, (.textOnly Go.Departure.lateStores)⟩, ⟨5, .phase⟩, ⟨6, .phase⟩, ⟨7, .phase⟩], none⟩,
 ⟨(some 52), (.fieldAddr 76 (T 51) 8), 0, "client.go:96", #[⟨8, .data⟩, ⟨0, .phase⟩, ⟨1, .phase⟩, ⟨2, (.textOnly Go.Departure.lateStores)⟩, ⟨3, (.textOnly Go.Departure.lateStores)⟩, ⟨4, (.textOnly Go.Departure.lateStores)⟩, ⟨5, .phase⟩, ⟨6, .phase⟩, ⟨7, .phase⟩], none⟩,
 ⟨none, (.store 4 (T 52) (.const (.bool true))), 0, "client.go:96", #[⟨9, .data⟩, ⟨7, .chain⟩, ⟨0, .phase⟩, ⟨1, .phase⟩, ⟨2, (.textOnly Go.Departure.lateStores)⟩, ⟨3, (.textOnly Go.Departure.lateStores)⟩, ⟨4, (.textOnly Go.Departure.lateStores)⟩, ⟨5, .phase⟩, ⟨6, .phase⟩, ⟨7, .phase⟩], none⟩,
 ⟨(some 53), (.nilCheck (T 46)), 0, "client.go:96", #[⟨2, .data⟩, ⟨0, .phase⟩, ⟨1, .phase⟩, ⟨2, .phase⟩, ⟨3, .phase⟩, ⟨4, .phase⟩, ⟨5, .phase⟩, ⟨6, .phase⟩, ⟨7, .phase⟩, ⟨8, .phase⟩, ⟨9, .phase⟩, ⟨10, .phase⟩], none⟩,
 ⟨(some 54), (.fieldAddr 76 (T 53) 9), 0, "client.go:96", #[⟨11, .data⟩, ⟨0, .phase⟩, ⟨1, .phase⟩, ⟨2, .phase⟩, ⟨3, .phase⟩, ⟨4, .phase⟩, ⟨5, .phase⟩, ⟨6, .phase⟩, ⟨7, .phase⟩, ⟨8, .phase⟩, ⟨9, .phase⟩, ⟨10, .phase⟩], none⟩,
 ⟨none, (.store 45 (T 54) (T 48)), 0, "client.go:96", #[⟨12, .data⟩, ⟨4, .data⟩, ⟨10, .chain⟩, ⟨0, .phase⟩, ⟨1, .phase⟩, ⟨2, .phase⟩, ⟨3, .phase⟩, ⟨4, .phase⟩, ⟨5, .phase⟩, ⟨6, .phase⟩, ⟨7, .phase⟩, ⟨8, .phase⟩, ⟨9, .phase⟩, ⟨10, .phase⟩], none⟩]
def l14_1 : List Oper := [mo 44 (.move (T 0)),
 mo 45 (.move (T 0)),
 mo 46 (.move (T 0)),
 mo 47 (.fieldAddr 47 (T 3) 2),
 mo 48 (.load 45 (T 47)),
 mo 49 (.nilCheck (T 44)),
 mo 50 (.fieldAddr 76 (T 49) 3),
 mx (.store 4 (T 50) (.const (.bool false))),
 mo 51 (.nilCheck (T 45)),
 mo 52 (.fieldAddr 76 (T 51) 8),
 mx (.store 4 (T 52) (.const (.bool true))),
 mo 53 (.nilCheck (T 46)),
 mo 54 (.fieldAddr 76 (T 53) 9),
 mx (.store 45 (T 54) (T 48))]
def r14_1 : Code := .region 7 o14_1 true
theorem xr_14_1 {Q : DExit → St → Prop} {s : St} : xs Try.prog 75 r14_1 Q s = NC Try.prog 75 r14_1 Q s := rfl
theorem dr_14_1 {Q : DExit → St → Prop} {s : St} (h : XDraw Try.prog l14_1.toArray (befs o14_1.toList []) [(4, 7), (4, 10)] s.fr Q l14_1 0 s []) : NC Try.prog 75 r14_1 Q s :=
  NC.draw (by kernel_rfl) (by kernel_rfl) (by kernel_rfl) rfl (by kernel_rfl) (by kernel_rfl) h
attribute [go_sem] xr_14_1
def o14_2 : Array Oper := #[⟨(some 63), (.move (T 0)), 30, "client.go:98", #[], none⟩,
 ⟨(some 64), (.move (T 0)), 30, "client.go:98", #[], none⟩,
 ⟨(some 65), (.nilCheck (T 64)), 0, "client.go:98", #[⟨1, .data⟩], none⟩,
 ⟨(some 66), (.fieldAddr 76 (T 65) 7), 0, "client.go:98", #[⟨2, .data⟩], none⟩,
 ⟨(some 67), (.load 2 (T 66)), 2, "client.go:98", #[⟨3, .data⟩], none⟩,
 ⟨(some 68), (.fieldAddr 47 (T 3) 2), 0, "client.go:98", #[], none⟩,
 ⟨(some 69), (.fieldAddr 45 (T 68) 2), 0, "client.go:98", #[⟨5, .data⟩], none⟩,
 ⟨(some 70), (.load 2 (T 69)), 2, "client.go:98", #[⟨6, .data⟩], none⟩,
 ⟨(some 71), (.binOp .add 2 (T 70) (.const (.int .i64 1)) 2), 2, "client.go:98", #[⟨7, .data⟩], none⟩,
 ⟨(some 72), (.call ⟨(.builtin .max), #[(T 67), (T 71)], #[2, 2]⟩), 2, "client.go:98", #[⟨4, .data⟩, ⟨8, .data⟩], none⟩,
 ⟨(some 73), (.nilCheck (T 63)), 0, "client.go:98", #[⟨0, .data⟩, ⟨0, .phase⟩, ⟨1, .phase⟩, ⟨2, .phase⟩, ⟨3, .phase⟩, ⟨4, .phase⟩, ⟨5, .phase⟩, ⟨6, .phase⟩, ⟨7, .phase⟩, ⟨8, .phase⟩, ⟨9, .phase⟩], none⟩,
 ⟨(some 74), (.fieldAddr 76 (T 73) 7), 0, "client.go:98", #[⟨10, .data⟩, ⟨0, .phase⟩, ⟨1, .phase⟩, ⟨2, .phase⟩, ⟨3, .phase⟩, ⟨4, .phase⟩, ⟨5, .phase⟩, ⟨6, .phase⟩, ⟨7, .phase⟩, ⟨8, .phase⟩, ⟨9, .phase⟩], none⟩,
 ⟨none, (.store 2 (T 74) (T 72)), 0, "client.go:98", #[⟨11, .data⟩, ⟨9, .data⟩, ⟨0, .phase⟩, ⟨1, .phase⟩, ⟨2, .phase⟩, ⟨3, .phase⟩, ⟨4, .phase⟩, ⟨5, .phase⟩, ⟨6, .phase⟩, ⟨7, .phase⟩, ⟨8, .phase⟩, ⟨9, .phase⟩], none⟩]
def l14_2 : List Oper := [mo 63 (.move (T 0)),
 mo 64 (.move (T 0)),
 mo 65 (.nilCheck (T 64)),
 mo 66 (.fieldAddr 76 (T 65) 7),
 mo 67 (.load 2 (T 66)),
 mo 68 (.fieldAddr 47 (T 3) 2),
 mo 69 (.fieldAddr 45 (T 68) 2),
 mo 70 (.load 2 (T 69)),
 mo 71 (.binOp .add 2 (T 70) (.const (.int .i64 1)) 2),
 mt 72 2 (.call ⟨(.builtin .max), #[(T 67), (T 71)], #[2, 2]⟩),
 mo 73 (.nilCheck (T 63)),
 mo 74 (.fieldAddr 76 (T 73) 7),
 mx (.store 2 (T 74) (T 72))]
def r14_2 : Code := .region 9 o14_2 true
theorem xr_14_2 {Q : DExit → St → Prop} {s : St} : xs Try.prog 75 r14_2 Q s = NC Try.prog 75 r14_2 Q s := rfl
theorem dr_14_2 {Q : DExit → St → Prop} {s : St} (h : XDraw Try.prog l14_2.toArray (befs o14_2.toList []) [] s.fr Q l14_2 0 s []) : NC Try.prog 75 r14_2 Q s :=
  NC.draw (by kernel_rfl) (by kernel_rfl) (by kernel_rfl) rfl (by kernel_rfl) (by kernel_rfl) h
attribute [go_sem] xr_14_2
def c14 : Code :=
 .seq (rg [mo 3 (.box 47 (T 1)),
   mo 4 (.assign (.const (.bool false))),
   mo 5 (.assign (.const (.int .i64 0)))])
 (.seq (.block 0 (.seq (rg [mo 7 (.move (T 0)),
     mo 8 (.call ⟨(.value (.func 31)), #[(T 7)], #[30]⟩),
     mo 6 (.assign (T 8))])
   (.cond (T 6) (.seq (rg [mo 4 (.assign (.const (.bool false))),
      mo 5 (.assign (.const (.int .i64 2)))])
    (.ret))
   (.seq (r14_0)
    (.cond (T 9) (.seq (rg [mo 4 (.assign (.const (.bool false))),
       mo 5 (.assign (.const (.int .i64 0)))])
     (.ret))
    (.seq (rg [mo 34 (.fieldAddr 47 (T 3) 2),
       mo 35 (.fieldAddr 45 (T 34) 2),
       mo 36 (.load 2 (T 35)),
       mo 37 (.binOp .lss 2 (T 36) (.const (.int .i64 0)) 2),
       mo 38 (.move (T 37)),
       mg 39 4 false (.fieldAddr 47 (T 3) 2),
       mg 40 4 false (.fieldAddr 45 (T 39) 2),
       mg 41 4 false (.load 2 (T 40)),
       mg 42 4 false (.binOp .gtr 2 (T 41) (.const (.int .i64 1099511627776)) 2),
       mo 43 (.pick (T 38) (.const (.bool true)) (T 42)),
       mo 33 (.assign (T 43))])
     (.cond (T 33) (.seq (rg [mo 4 (.assign (.const (.bool false))),
        mo 5 (.assign (.const (.int .i64 1)))])
      (.ret))
     (.skip))))))))
 (.seq (r14_1)
 (.seq (rg [mo 55 (.move (T 0)),
   mo 56 (.fieldAddr 47 (T 3) 2),
   mo 57 (.fieldAddr 45 (T 56) 1),
   mo 58 (.load 23 (T 57)),
   mo 59 (.call ⟨(.value (.func 35)), #[(T 58)], #[23]⟩),
   mo 60 (.nilCheck (T 55)),
   mo 61 (.fieldAddr 76 (T 60) 9),
   mo 62 (.fieldAddr 45 (T 61) 1),
   mx (.store 23 (T 62) (T 59))])
 (.seq (r14_2)
 (.seq (rg [mo 4 (.assign (.const (.bool true))),
   mo 5 (.assign (.const (.int .i64 0)))])
 (.ret))))))
theorem body_14 : Try.f14.body.map strip = some c14 := by kernel_rfl
theorem go_14 {args : List Value} {h : DHeap} {R : DEnd → DHeap → Prop} (ha : args.length ≤ 75) (hx : xs Try.prog 75 c14 (XPost Try.prog [(.tmp 4), (.tmp 5)] R) ⟨argsFr args 75, [], h, none⟩) : Ct Try.prog 14 args h R :=
  Ct_xs (show Try.prog.funcs[14]? = some Try.f14 by kernel_rfl) body_14 (by kernel_rfl) (by kernel_rfl) ha (by kernel_rfl) hx
/-! (*trivet/client.Client).Token -/
def c15 : Code :=
 .seq (rg [mo 2 (.assign (.const (.int .i64 0)))])
 (.seq (.seq (rg [mo 3 (.move (T 0)),
    mo 4 (.call ⟨(.value (.func 31)), #[(T 3)], #[30]⟩)])
  (.cond (T 4) (.seq (rg [mo 2 (.assign (.const (.int .i64 0)))])
   (.ret))
  (.skip)))
 (.seq (rg [mo 5 (.move (T 0)),
   mo 6 (.nilCheck (T 5)),
   mo 7 (.fieldAddr 76 (T 6) 7),
   mo 8 (.load 2 (T 7)),
   mo 2 (.assign (T 8))])
 (.ret)))
theorem body_15 : Try.f15.body.map strip = some c15 := by kernel_rfl
theorem go_15 {args : List Value} {h : DHeap} {R : DEnd → DHeap → Prop} (ha : args.length ≤ 9) (hx : xs Try.prog 9 c15 (XPost Try.prog [(.tmp 2)] R) ⟨argsFr args 9, [], h, none⟩) : Ct Try.prog 15 args h R :=
  Ct_xs (show Try.prog.funcs[15]? = some Try.f15 by kernel_rfl) body_15 (by kernel_rfl) (by kernel_rfl) ha (by kernel_rfl) hx
/-! trivet/trivetref25.New -/
def c16 : Code :=
 .seq (rg [mo 4 (.assign (.const (.pointer none))),
   mo 5 (.assign (.const (.int .i64 0)))])
 (.seq (.seq (rg [mo 6 (.move (T 0)),
    mo 7 (.binOp .lss 2 (T 6) (.const (.int .i64 1)) 2),
    mo 8 (.move (T 7)),
    mg 9 2 false (.move (T 0)),
    mg 10 2 false (.binOp .gtr 2 (T 9) (.const (.int .i64 1099511627776)) 2),
    mo 11 (.pick (T 8) (.const (.bool true)) (T 10)),
    mo 12 (.move (T 11)),
    mg 13 6 false (.move (T 1)),
    mg 14 6 false (.binOp .lss 3 (T 13) (.const (.int .i64 1)) 3),
    mo 15 (.pick (T 12) (.const (.bool true)) (T 14)),
    mo 16 (.move (T 15)),
    mg 17 10 false (.move (T 1)),
    mg 18 10 false (.binOp .gtr 3 (T 17) (.const (.int .i64 5)) 3),
    mo 19 (.pick (T 16) (.const (.bool true)) (T 18))])
  (.cond (T 19) (.seq (rg [mo 4 (.assign (.const (.pointer none))),
     mo 5 (.assign (.const (.int .i64 1)))])
   (.ret))
  (.skip)))
 (.seq (rg [mo 20 (.move (T 0)),
   mo 21 (.move (T 1)),
   mo 22 (.build 86 #[(0, (T 20)), (1, (T 21))]),
   mo 23 (.box 86 (T 22)),
   mo 4 (.assign (T 23)),
   mo 5 (.assign (.const (.int .i64 0)))])
 (.ret)))
theorem body_16 : Try.f16.body.map strip = some c16 := by kernel_rfl
theorem go_16 {args : List Value} {h : DHeap} {R : DEnd → DHeap → Prop} (ha : args.length ≤ 24) (hx : xs Try.prog 24 c16 (XPost Try.prog [(.tmp 4), (.tmp 5)] R) ⟨argsFr args 24, [], h, none⟩) : Ct Try.prog 16 args h R :=
  Ct_xs (show Try.prog.funcs[16]? = some Try.f16 by kernel_rfl) body_16 (by kernel_rfl) (by kernel_rfl) ha (by kernel_rfl) hx
/-! (*trivet/trivetref25.Client).Submit -/
def o17_0 : Array Oper := #[⟨(some 27), (.move (T 0)), 50, "ref.go:52", #[], none⟩,
 ⟨(some 28), (.nilCheck (T 27)), 0, "ref.go:52", #[⟨0, .data⟩], none⟩,
 ⟨(some 29), (.fieldAddr 86 (T 28) 0), 0, "ref.go:52", #[⟨1, .data⟩], none⟩,
 ⟨(some 30), (.load 2 (T 29)), 2, "ref.go:52", #[⟨2, .data⟩], none⟩,
 ⟨(some 31), (.move (T 0)), 50, "ref.go:52", #[⟨10, (.gcOnly Go.Departure.lateStores)⟩], none⟩,
 ⟨(some 32), (.nilCheck (T 31)), 0, "ref.go:52", #[⟨4, .data⟩, ⟨10, (.gcOnly Go.Departure.lateStores)⟩], none⟩,
 ⟨(some 33), (.fieldAddr 86 (T 32) 2), 0, "ref.go:52", #[⟨5, .data⟩, ⟨10, (.gcOnly Go.Departure.lateStores)⟩], none⟩,
 ⟨(some 34), (.load 2 (T 33)), 2, "ref.go:52", #[⟨6, .data⟩, ⟨10, (.gcOnly Go.Departure.lateStores)⟩], none⟩,
 ⟨(some 35), (.binOp .add 2 (T 34) (.const (.int .i64 1)) 2), 2, "ref.go:52", #[⟨7, .data⟩, ⟨10, (.gcOnly Go.Departure.lateStores)⟩], none⟩,
 ⟨(some 36), (.fieldAddr 26 (T 4) 0), 0, "ref.go:52", #[⟨0, .phase⟩, ⟨1, .phase⟩, ⟨2, .phase⟩, ⟨3, .phase⟩, ⟨4, (.textOnly Go.Departure.lateStores)⟩, ⟨5, (.textOnly Go.Departure.lateStores)⟩, ⟨6, (.textOnly Go.Departure.lateStores)⟩, ⟨7, (.textOnly Go.Departure.lateStores)⟩, ⟨8, (.textOnly Go.Departure.lateStores)⟩], none⟩,
 ⟨none, (.store 2 (T 36) (T 30)), 0, "ref.go:52", #[⟨9, .data⟩, ⟨3, .data⟩, ⟨0, .phase⟩, ⟨1, .phase⟩, ⟨2, .phase⟩, ⟨3, .phase⟩, ⟨4, (.textOnly Go.Departure.lateStores)⟩, ⟨5, (.textOnly Go.Departure.lateStores)⟩, ⟨6, (.textOnly Go.Departure.lateStores)⟩, ⟨7, (.textOnly Go.Departure.lateStores)⟩, ⟨8, (.textOnly Go.Departure.lateStores)⟩], none⟩,
 ⟨(some 37), (.fieldAddr 26 (T 4) 1), 0, "ref.go:52", #[⟨0, .phase⟩, ⟨1, .phase⟩, ⟨2, .phase⟩, ⟨3, .phase⟩, ⟨4, .phase⟩, ⟨5, .phase⟩, ⟨6, .phase⟩, ⟨7, .phase⟩, ⟨8, .phase⟩, ⟨9, .phase⟩, ⟨10, .phase⟩], none⟩,
 ⟨none, (.store 2 (T 37) (T 35)), 0, "ref.go:52", #[⟨11, .data⟩, ⟨8, .data⟩, ⟨10, .chain⟩, ⟨0, .phase⟩, ⟨1, .phase⟩, ⟨2, .phase⟩, ⟨3, .phase⟩, ⟨4, .phase⟩, ⟨5, .phase⟩, ⟨6, .phase⟩, ⟨7, .phase⟩, ⟨8, .phase⟩, ⟨9, .phase⟩, ⟨10, .phase⟩], none⟩]
def l17_0 : List Oper := [mo 27 (.move (T 0)),
 mo 28 (.nilCheck (T 27)),
 mo 29 (.fieldAddr 86 (T 28) 0),
 mo 30 (.load 2 (T 29)),
 mo 31 (.move (T 0)),
 mo 32 (.nilCheck (T 31)),
 mo 33 (.fieldAddr 86 (T 32) 2),
 mo 34 (.load 2 (T 33)),
 mo 35 (.binOp .add 2 (T 34) (.const (.int .i64 1)) 2),
 mo 36 (.fieldAddr 26 (T 4) 0),
 mx (.store 2 (T 36) (T 30)),
 mo 37 (.fieldAddr 26 (T 4) 1),
 mx (.store 2 (T 37) (T 35))]
def r17_0 : Code := .region 8 o17_0 true
theorem xr_17_0 {Q : DExit → St → Prop} {s : St} : xs Try.prog 66 r17_0 Q s = NC Try.prog 66 r17_0 Q s := rfl
theorem dr_17_0 {Q : DExit → St → Prop} {s : St} (h : XDraw Try.prog l17_0.toArray (befs o17_0.toList []) [(7, 10)] s.fr Q l17_0 0 s []) : NC Try.prog 66 r17_0 Q s :=
  NC.draw (by kernel_rfl) (by kernel_rfl) (by kernel_rfl) rfl (by kernel_rfl) (by kernel_rfl) h
attribute [go_sem] xr_17_0
def o17_1 : Array Oper := #[⟨(some 44), (.move (T 0)), 50, "ref.go:56", #[], none⟩,
 ⟨(some 45), (.move (T 0)), 50, "ref.go:56", #[⟨11, (.gcOnly Go.Departure.lateStores)⟩], none⟩,
 ⟨(some 46), (.move (T 0)), 50, "ref.go:56", #[⟨14, (.gcOnly Go.Departure.lateStores)⟩], none⟩,
 ⟨(some 47), (.move (T 0)), 50, "ref.go:56", #[⟨17, (.gcOnly Go.Departure.lateStores)⟩], none⟩,
 ⟨(some 48), (.move (T 0)), 50, "ref.go:56", #[⟨20, (.gcOnly Go.Departure.lateStores)⟩], none⟩,
 ⟨(some 49), (.load 26 (T 4)), 26, "ref.go:56", #[⟨11, (.gcOnly Go.Departure.lateStores)⟩], none⟩,
 ⟨(some 50), (.fieldAddr 26 (T 4) 1), 0, "ref.go:56", #[⟨14, (.gcOnly Go.Departure.lateStores)⟩], none⟩,
 ⟨(some 51), (.load 2 (T 50)), 2, "ref.go:56", #[⟨6, .data⟩, ⟨14, (.gcOnly Go.Departure.lateStores)⟩], none⟩,
 ⟨(some 52), (.move (T 2)), 3, "ref.go:56", #[⟨20, (.gcOnly Go.Departure.lateStores)⟩], none⟩,
 ⟨(some 53), (.nilCheck (T 44)), 0, "ref.go:56", #[⟨0, .data⟩, ⟨0, .phase⟩, ⟨1, (.textOnly Go.Departure.lateStores)⟩, ⟨2, (.textOnly Go.Departure.lateStores)⟩, ⟨3, (.textOnly Go.Departure.lateStores)⟩, ⟨4, (.textOnly Go.Departure.lateStores)⟩, ⟨5, (.textOnly Go.Departure.lateStores)⟩, ⟨6, (.textOnly Go.Departure.lateStores)⟩, ⟨7, (.textOnly Go.Departure.lateStores)⟩, ⟨8, (.textOnly Go.Departure.lateStores)⟩], none⟩,
 ⟨(some 54), (.fieldAddr 86 (T 53) 3), 0, "ref.go:56", #[⟨9, .data⟩, ⟨0, .phase⟩, ⟨1, (.textOnly Go.Departure.lateStores)⟩, ⟨2, (.textOnly Go.Departure.lateStores)⟩, ⟨3, (.textOnly Go.Departure.lateStores)⟩, ⟨4, (.textOnly Go.Departure.lateStores)⟩, ⟨5, (.textOnly Go.Departure.lateStores)⟩, ⟨6, (.textOnly Go.Departure.lateStores)⟩, ⟨7, (.textOnly Go.Departure.lateStores)⟩, ⟨8, (.textOnly Go.Departure.lateStores)⟩], none⟩,
 ⟨none, (.store 4 (T 54) (.const (.bool true))), 0, "ref.go:56", #[⟨10, .data⟩, ⟨0, .phase⟩, ⟨1, (.textOnly Go.Departure.lateStores)⟩, ⟨2, (.textOnly Go.Departure.lateStores)⟩, ⟨3, (.textOnly Go.Departure.lateStores)⟩, ⟨4, (.textOnly Go.Departure.lateStores)⟩, ⟨5, (.textOnly Go.Departure.lateStores)⟩, ⟨6, (.textOnly Go.Departure.lateStores)⟩, ⟨7, (.textOnly Go.Departure.lateStores)⟩, ⟨8, (.textOnly Go.Departure.lateStores)⟩], none⟩,
 ⟨(some 55), (.nilCheck (T 45)), 0, "ref.go:56", #[⟨1, .data⟩, ⟨0, .phase⟩, ⟨1, .phase⟩, ⟨2, (.textOnly Go.Departure.lateStores)⟩, ⟨3, (.textOnly Go.Departure.lateStores)⟩, ⟨4, (.textOnly Go.Departure.lateStores)⟩, ⟨5, .phase⟩, ⟨6, (.textOnly Go.Departure.lateStores)⟩, ⟨7, (.textOnly Go.Departure.lateStores)⟩, ⟨8, (.textOnly Go.Departure.lateStores)⟩, ⟨9, .phase⟩, ⟨10, .phase⟩, ⟨11, .phase⟩], none⟩,
 ⟨(some 56), (.fieldAddr 86 (T 55) 4), 0, "ref.go:56", #[⟨12, .data⟩, ⟨0, .phase⟩, ⟨1, .phase⟩, ⟨2, (.textOnly Go.Departure.lateStores)⟩, ⟨3, (.textOnly Go.Departure.lateStores)⟩, ⟨4, (.textOnly Go.Departure.lateStores)⟩, ⟨5, .phase⟩, ⟨6, (.textOnly Go.Departure.lateStores)⟩, ⟨7, (.textOnly Go.Departure.lateStores)⟩, ⟨8, (.textOnly Go.Departure.lateStores)⟩, ⟨9, .phase⟩, ⟨10, .phase⟩, ⟨11, .phase⟩], none⟩,
 ⟨none, (.store 26 (T 56) (T 49)), 0, "ref.go:56", #[⟨13, .data⟩, ⟨5, .data⟩, ⟨11, .chain⟩, ⟨0, .phase⟩, ⟨1, .phase⟩, ⟨2, (.textOnly Go.Departure.lateStores)⟩, ⟨3, (.textOnly Go.Departure.lateStores)⟩, ⟨4, (.textOnly Go.Departure.lateStores)⟩, ⟨5, .phase⟩, ⟨6, (.textOnly Go.Departure.lateStores)⟩, ⟨7, (.textOnly Go.Departure.lateStores)⟩, ⟨8, (.textOnly Go.Departure.lateStores)⟩, ⟨9, .phase⟩, ⟨10, .phase⟩, ⟨11, .phase⟩], none⟩,
 ⟨(some 57), (.nilCheck (T 46)), 0, "ref.go:56", #[⟨2, .data⟩, ⟨0, .phase⟩, ⟨1, .phase⟩, ⟨2, .phase⟩, ⟨3, (.textOnly Go.Departure.lateStores)⟩, ⟨4, (.textOnly Go.Departure.lateStores)⟩, ⟨5, .phase⟩, ⟨6, .phase⟩, ⟨7, .phase⟩, ⟨8, (.textOnly Go.Departure.lateStores)⟩, ⟨9, .phase⟩, ⟨10, .phase⟩, ⟨11, .phase⟩, ⟨12, .phase⟩, ⟨13, .phase⟩, ⟨14, .phase⟩], none⟩,
 ⟨(some 58), (.fieldAddr 86 (T 57) 2), 0, "ref.go:56", #[⟨15, .data⟩, ⟨0, .phase⟩, ⟨1, .phase⟩, ⟨2, .phase⟩, ⟨3, (.textOnly Go.Departure.lateStores)⟩, ⟨4, (.textOnly Go.Departure.lateStores)⟩, ⟨5, .phase⟩, ⟨6, .phase⟩, ⟨7, .phase⟩, ⟨8, (.textOnly Go.Departure.lateStores)⟩, ⟨9, .phase⟩, ⟨10, .phase⟩, ⟨11, .phase⟩, ⟨12, .phase⟩, ⟨13, .phase⟩, ⟨14, .phase⟩], none⟩,
 ⟨none, (.store 2 (T 58) (T 51)), 0, "ref.go:56", #[⟨16, .data⟩, ⟨7, .data⟩, ⟨14, .chain⟩, ⟨0, .phase⟩, ⟨1, .phase⟩, ⟨2, .phase⟩, ⟨3, (.textOnly Go.Departure.lateStores)⟩, ⟨4, (.textOnly Go.Departure.lateStores)⟩, ⟨5, .phase⟩, ⟨6, .phase⟩, ⟨7, .phase⟩, ⟨8, (.textOnly Go.Departure.lateStores)⟩, ⟨9, .phase⟩, ⟨10, .phase⟩, ⟨11, .phase⟩, ⟨12, .phase⟩, ⟨13, .phase⟩, ⟨14, .phase⟩], none⟩,
 ⟨(some 59), (.nilCheck (T 47)), 0, "ref.go:56", #[⟨3, .data⟩, ⟨0, .phase⟩, ⟨1, .phase⟩, ⟨2, .phase⟩, ⟨3, .phase⟩, ⟨4, (.textOnly Go.Departure.lateStores)⟩, ⟨5, .phase⟩, ⟨6, .phase⟩, ⟨7, .phase⟩, ⟨8, (.textOnly Go.Departure.lateStores)⟩, ⟨9, .phase⟩, ⟨10, .phase⟩, ⟨11, .phase⟩, ⟨12, .phase⟩, ⟨13, .phase⟩, ⟨14, .phase⟩, ⟨15, .phase⟩, ⟨16, .phase⟩, ⟨17, .phase⟩], none⟩,
 ⟨(some 60), (.fieldAddr 86 (T 59) 5), 0, "ref.go:56", #[⟨18, .data⟩, ⟨0, .phase⟩, ⟨1, .phase⟩, ⟨2, .phase⟩, ⟨3, .phase⟩, ⟨4, (.textOnly Go.Departure.lateStores)⟩, ⟨5, .phase⟩, ⟨6, .phase⟩, ⟨7, .phase⟩, ⟨8, (.textOnly Go.Departure.lateStores)⟩, ⟨9, .phase⟩, ⟨10, .phase⟩, ⟨11, .phase⟩, ⟨12, .phase⟩, ⟨13, .phase⟩, ⟨14, .phase⟩, ⟨15, .phase⟩, ⟨16, .phase⟩, ⟨17, .phase⟩], none⟩,
 ⟨none, (.store 3 (T 60) (.const (.int .i64 0))), 0, "ref.go:56", #[⟨19, .data⟩, ⟨17, .chain⟩, ⟨0, .phase⟩, ⟨1, .phase⟩, ⟨2, .phase⟩, ⟨3, .phase⟩, ⟨4, (.textOnly Go.Departure.lateStores)⟩, ⟨5, .phase⟩, ⟨6, .phase⟩, ⟨7, .phase⟩, ⟨8, (.textOnly Go.Departure.lateStores)⟩, ⟨9, .phase⟩, ⟨10, .phase⟩, ⟨11, .phase⟩, ⟨12, .phase⟩, ⟨13, .phase⟩, ⟨14, .phase⟩, ⟨15, .phase⟩, ⟨16, .phase⟩, ⟨17, .phase⟩], none⟩,
 ⟨(some 61), (.nilCheck (T 48)), 0, "ref.go:56", #[⟨4, .data⟩, ⟨0, .phase⟩, ⟨1, .phase⟩, ⟨2, .phase⟩, ⟨3, .phase⟩, ⟨4, .phase⟩, ⟨5, .phase⟩, ⟨6, .phase⟩, ⟨7, .phase⟩, ⟨8, .phase⟩, ⟨9, .phase⟩, ⟨10, .phase⟩, ⟨11, .phase⟩, ⟨12, .phase⟩, ⟨13, .phase⟩, ⟨14, .phase⟩, ⟨15, .phase⟩, ⟨16, .phase⟩, ⟨17, .phase⟩, ⟨18, .phase⟩, ⟨19, .phase⟩, ⟨20, .phase⟩], none⟩,
 ⟨(some 62), (.fieldAddr 86 (T 61) 6), 0, "ref.go:56", #[⟨21, .data⟩, ⟨0, .phase⟩, ⟨1, .phase⟩, ⟨2, .phase⟩, ⟨3, .phase⟩, ⟨4, .phase⟩, ⟨5, .phase⟩, ⟨6, .phase⟩, ⟨7, .phase⟩, ⟨8, .phase⟩, ⟨9, .phase⟩, ⟨10, .phase⟩, ⟨11, .phase⟩, ⟨12, .phase⟩, ⟨13, .phase⟩, ⟨14, .phase⟩, ⟨15, .phase⟩, ⟨16, .phase⟩, ⟨17, .phase⟩, ⟨18, .phase⟩, ⟨19, .phase⟩, ⟨20, .phase⟩], none⟩,
 ⟨none, (.store 3 (T 62) (T 52)), 0, "ref.go:56", #[⟨22, .data⟩, ⟨8, .data⟩, ⟨20, .chain⟩, ⟨0, .phase⟩, ⟨1, .phase⟩, ⟨2, .phase⟩, ⟨3, .phase⟩, ⟨4, .phase⟩, ⟨5, .phase⟩, ⟨6, .phase⟩, ⟨7, .phase⟩, ⟨8, .phase⟩, ⟨9, .phase⟩, ⟨10, .phase⟩, ⟨11, .phase⟩, ⟨12, .phase⟩, ⟨13, .phase⟩, ⟨14, .phase⟩, ⟨15, .phase⟩, ⟨16, .phase⟩, ⟨17, .phase⟩, ⟨18, .phase⟩, ⟨19, .phase⟩, ⟨20, .phase⟩], none⟩]
def l17_1 : List Oper := [mo 44 (.move (T 0)),
 mo 45 (.move (T 0)),
 mo 46 (.move (T 0)),
 mo 47 (.move (T 0)),
 mo 48 (.move (T 0)),
 mo 49 (.load 26 (T 4)),
 mo 50 (.fieldAddr 26 (T 4) 1),
 mo 51 (.load 2 (T 50)),
 mo 52 (.move (T 2)),
 mo 53 (.nilCheck (T 44)),
 mo 54 (.fieldAddr 86 (T 53) 3),
 mx (.store 4 (T 54) (.const (.bool true))),
 mo 55 (.nilCheck (T 45)),
 mo 56 (.fieldAddr 86 (T 55) 4),
 mx (.store 26 (T 56) (T 49)),
 mo 57 (.nilCheck (T 46)),
 mo 58 (.fieldAddr 86 (T 57) 2),
 mx (.store 2 (T 58) (T 51)),
 mo 59 (.nilCheck (T 47)),
 mo 60 (.fieldAddr 86 (T 59) 5),
 mx (.store 3 (T 60) (.const (.int .i64 0))),
 mo 61 (.nilCheck (T 48)),
 mo 62 (.fieldAddr 86 (T 61) 6),
 mx (.store 3 (T 62) (T 52))]
def r17_1 : Code := .region 12 o17_1 true
theorem xr_17_1 {Q : DExit → St → Prop} {s : St} : xs Try.prog 66 r17_1 Q s = NC Try.prog 66 r17_1 Q s := rfl
theorem dr_17_1 {Q : DExit → St → Prop} {s : St} (h : XDraw Try.prog l17_1.toArray (befs o17_1.toList []) [(5, 11), (7, 11), (7, 14)] s.fr Q l17_1 0 s []) : NC Try.prog 66 r17_1 Q s :=
  NC.draw (by kernel_rfl) (by kernel_rfl) (by kernel_rfl) rfl (by kernel_rfl) (by kernel_rfl) h
attribute [go_sem] xr_17_1
def c17 : Code :=
 .seq (rg [mo 4 (.box 26 (T 1)),
   mo 6 (.alloc 36),
   mo 7 (.assign (.const (.int .i64 0)))])
 (.seq (.seq (rg [mo 9 (.move (T 0)),
    mo 10 (.nilCheck (T 9)),
    mo 11 (.fieldAddr 86 (T 10) 3),
    mo 12 (.load 4 (T 11))])
  (.cond (T 12) (.seq (rg [mo 13 (.build 36 #[]),
     mx (.store 36 (T 6) (T 13)),
     mo 7 (.assign (.const (.int .i64 251)))])
   (.ret))
  (.skip)))
 (.seq (.seq (rg [mo 14 (.move (T 0)),
    mo 15 (.move (T 2)),
    mo 16 (.call ⟨(.value (.func 36)), #[(T 14), (T 15)], #[50, 3]⟩),
    mo 17 (.unOp .not 4 (T 16))])
  (.cond (T 17) (.seq (rg [mo 18 (.build 36 #[]),
     mx (.store 36 (T 6) (T 18)),
     mo 7 (.assign (.const (.int .i64 1)))])
   (.ret))
  (.skip)))
 (.seq (.seq (rg [mo 19 (.move (T 0)),
    mo 20 (.nilCheck (T 19)),
    mo 21 (.fieldAddr 86 (T 20) 2),
    mo 22 (.load 2 (T 21)),
    mo 23 (.binOp .geq 2 (T 22) (.const (.int .i64 1099511627776)) 2)])
  (.cond (T 23) (.seq (rg [mo 24 (.build 36 #[]),
     mx (.store 36 (T 6) (T 24)),
     mo 7 (.assign (.const (.int .i64 6)))])
   (.ret))
  (.skip)))
 (.seq (rg [mo 25 (.load 26 (T 4)),
   mo 26 (.call ⟨(.value (.func 21)), #[(T 25)], #[26]⟩),
   mx (.store 26 (T 4) (T 26))])
 (.seq (r17_0)
 (.seq (.seq (rg [mo 38 (.load 26 (T 4)),
    mo 39 (.call ⟨(.value (.func 23)), #[(T 38)], #[26]⟩),
    mo 8 (.assign (T 39))])
  (.seq (rg [mo 40 (.move (T 8)),
    mo 41 (.binOp .neq 31 (T 40) (.const (.int .i64 0)) 31)])
  (.cond (T 41) (.seq (rg [mo 42 (.build 36 #[]),
     mo 43 (.move (T 8)),
     mx (.store 36 (T 6) (T 42)),
     mo 7 (.assign (T 43))])
   (.ret))
  (.skip))))
 (.seq (r17_1)
 (.seq (rg [mo 63 (.move (T 2)),
   mo 64 (.load 26 (T 4)),
   mo 65 (.build 36 #[(0, (T 63)), (1, (T 64))]),
   mx (.store 36 (T 6) (T 65)),
   mo 7 (.assign (.const (.int .i64 0)))])
 (.ret)))))))))
theorem body_17 : Try.f17.body.map strip = some c17 := by kernel_rfl
theorem go_17 {args : List Value} {h : DHeap} {R : DEnd → DHeap → Prop} (ha : args.length ≤ 66) (hx : xs Try.prog 66 c17 (XPost Try.prog [(.cell 6 36), (.tmp 7)] R) ⟨argsFr args 66, [], h, none⟩) : Ct Try.prog 17 args h R :=
  Ct_xs (show Try.prog.funcs[17]? = some Try.f17 by kernel_rfl) body_17 (by kernel_rfl) (by kernel_rfl) ha (by kernel_rfl) hx
/-! (*trivet/client.Client).Pending -/
def c18 : Code :=
 .seq (rg [mo 2 (.alloc 26),
   mo 3 (.assign (.const (.bool false)))])
 (.seq (.seq (rg [mo 4 (.move (T 0)),
    mo 5 (.call ⟨(.value (.func 31)), #[(T 4)], #[30]⟩),
    mo 6 (.move (T 5)),
    mg 7 2 false (.move (T 0)),
    mg 8 2 false (.nilCheck (T 7)),
    mg 9 2 false (.fieldAddr 76 (T 8) 3),
    mg 10 2 false (.load 4 (T 9)),
    mg 11 2 false (.unOp .not 4 (T 10)),
    mo 12 (.pick (T 6) (.const (.bool true)) (T 11))])
  (.cond (T 12) (.seq (rg [mo 13 (.build 26 #[]),
     mx (.store 26 (T 2) (T 13)),
     mo 3 (.assign (.const (.bool false)))])
   (.ret))
  (.skip)))
 (.seq (rg [mo 14 (.move (T 0)),
   mo 15 (.nilCheck (T 14)),
   mo 16 (.fieldAddr 76 (T 15) 4),
   mo 17 (.load 26 (T 16)),
   mo 18 (.call ⟨(.value (.func 37)), #[(T 17)], #[26]⟩),
   mx (.store 26 (T 2) (T 18)),
   mo 3 (.assign (.const (.bool true)))])
 (.ret)))
theorem body_18 : Try.f18.body.map strip = some c18 := by kernel_rfl
theorem go_18 {args : List Value} {h : DHeap} {R : DEnd → DHeap → Prop} (ha : args.length ≤ 19) (hx : xs Try.prog 19 c18 (XPost Try.prog [(.cell 2 26), (.tmp 3)] R) ⟨argsFr args 19, [], h, none⟩) : Ct Try.prog 18 args h R :=
  Ct_xs (show Try.prog.funcs[18]? = some Try.f18 by kernel_rfl) body_18 (by kernel_rfl) (by kernel_rfl) ha (by kernel_rfl) hx
/-! (*trivet/trivetref25.Client).Pending -/
def c19 : Code :=
 .seq (rg [mo 2 (.alloc 26),
   mo 3 (.assign (.const (.bool false)))])
 (.seq (.seq (rg [mo 4 (.move (T 0)),
    mo 5 (.nilCheck (T 4)),
    mo 6 (.fieldAddr 86 (T 5) 3),
    mo 7 (.load 4 (T 6)),
    mo 8 (.unOp .not 4 (T 7))])
  (.cond (T 8) (.seq (rg [mo 9 (.build 26 #[]),
     mx (.store 26 (T 2) (T 9)),
     mo 3 (.assign (.const (.bool false)))])
   (.ret))
  (.skip)))
 (.seq (rg [mo 10 (.move (T 0)),
   mo 11 (.nilCheck (T 10)),
   mo 12 (.fieldAddr 86 (T 11) 4),
   mo 13 (.load 26 (T 12)),
   mx (.store 26 (T 2) (T 13)),
   mo 3 (.assign (.const (.bool true)))])
 (.ret)))
theorem body_19 : Try.f19.body.map strip = some c19 := by kernel_rfl
theorem go_19 {args : List Value} {h : DHeap} {R : DEnd → DHeap → Prop} (ha : args.length ≤ 14) (hx : xs Try.prog 14 c19 (XPost Try.prog [(.cell 2 26), (.tmp 3)] R) ⟨argsFr args 14, [], h, none⟩) : Ct Try.prog 19 args h R :=
  Ct_xs (show Try.prog.funcs[19]? = some Try.f19 by kernel_rfl) body_19 (by kernel_rfl) (by kernel_rfl) ha (by kernel_rfl) hx
end Go.Proofs.Ytbdljpndncohaaa

namespace Go.Proofs.Ytbdljpndncohaaa
open Go.D
set_option maxRecDepth 100000
/-! (*trivet/client.Client).Query -/
/-! (*trivet/client.Client).Last -/
/-! (*trivet/client.Client).Clone -/
/-! (*trivet/client.Client).none -/
def c31 : Code :=
 .seq (rg [mo 2 (.assign (.const (.bool false)))])
 (.seq (rg [mo 3 (.move (T 0)),
   mo 4 (.binOp .eql 30 (T 3) (.const (.pointer none)) 30),
   mo 5 (.move (T 4)),
   mg 6 2 false (.move (T 0)),
   mg 7 2 false (.nilCheck (T 6)),
   mg 8 2 false (.fieldAddr 76 (T 7) 1),
   mg 9 2 false (.load 3 (T 8)),
   mg 10 2 false (.binOp .eql 3 (T 9) (.const (.int .i64 0)) 3),
   mo 11 (.pick (T 5) (.const (.bool true)) (T 10)),
   mo 2 (.assign (T 11))])
 (.ret))
theorem body_31 : Try.f31.body.map strip = some c31 := by kernel_rfl
theorem go_31 {args : List Value} {h : DHeap} {R : DEnd → DHeap → Prop} (ha : args.length ≤ 12) (hx : xs Try.prog 12 c31 (XPost Try.prog [(.tmp 2)] R) ⟨argsFr args 12, [], h, none⟩) : Ct Try.prog 31 args h R :=
  Ct_xs (show Try.prog.funcs[31]? = some Try.f31 by kernel_rfl) body_31 (by kernel_rfl) (by kernel_rfl) ha (by kernel_rfl) hx
/-! trivet/code.Check -/
def c32 : Code :=
 .seq (rg [mo 1 (.box 26 (T 0)),
   mo 2 (.assign (.const (.int .i64 0)))])
 (.seq (.block 0 (.seq (rg [mo 9 (.fieldAddr 26 (T 1) 0),
     mo 10 (.load 2 (T 9)),
     mo 11 (.binOp .lss 2 (T 10) (.const (.int .i64 1)) 2),
     mo 12 (.move (T 11)),
     mg 13 3 false (.fieldAddr 26 (T 1) 0),
     mg 14 3 false (.load 2 (T 13)),
     mg 15 3 false (.binOp .gtr 2 (T 14) (.const (.int .i64 1099511627776)) 2),
     mo 16 (.pick (T 12) (.const (.bool true)) (T 15)),
     mo 17 (.move (T 16)),
     mg 18 8 false (.fieldAddr 26 (T 1) 1),
     mg 19 8 false (.load 2 (T 18)),
     mg 20 8 false (.binOp .lss 2 (T 19) (.const (.int .i64 1)) 2),
     mo 21 (.pick (T 17) (.const (.bool true)) (T 20)),
     mo 22 (.move (T 21)),
     mg 23 13 false (.fieldAddr 26 (T 1) 1),
     mg 24 13 false (.load 2 (T 23)),
     mg 25 13 false (.binOp .gtr 2 (T 24) (.const (.int .i64 1099511627776)) 2),
     mo 26 (.pick (T 22) (.const (.bool true)) (T 25)),
     mo 8 (.assign (T 26))])
   (.cond (T 8) (.seq (rg [mo 2 (.assign (.const (.int .i64 1)))])
    (.ret))
   (.seq (rg [mo 28 (.fieldAddr 26 (T 1) 3),
      mo 29 (.load 23 (T 28)),
      mo 30 (.call ⟨(.builtin .len), #[(T 29)], #[23]⟩),
      mo 31 (.binOp .gtr 3 (T 30) (.const (.int .i64 8)) 3),
      mo 32 (.move (T 31)),
      mg 33 4 false (.fieldAddr 26 (T 1) 4),
      mg 34 4 false (.load 24 (T 33)),
      mg 35 4 false (.call ⟨(.builtin .len), #[(T 34)], #[24]⟩),
      mg 36 4 false (.binOp .gtr 3 (T 35) (.const (.int .i64 16)) 3),
      mo 37 (.pick (T 32) (.const (.bool true)) (T 36)),
      mo 38 (.move (T 37)),
      mg 39 10 false (.fieldAddr 26 (T 1) 5),
      mg 40 10 false (.load 24 (T 39)),
      mg 41 10 false (.call ⟨(.builtin .len), #[(T 40)], #[24]⟩),
      mg 42 10 false (.binOp .gtr 3 (T 41) (.const (.int .i64 16)) 3),
      mo 43 (.pick (T 38) (.const (.bool true)) (T 42)),
      mo 27 (.assign (T 43))])
    (.cond (T 27) (.seq (rg [mo 2 (.assign (.const (.int .i64 3)))])
     (.ret))
    (.seq (rg [mo 45 (.fieldAddr 26 (T 1) 4),
       mo 46 (.load 24 (T 45)),
       mo 47 (.call ⟨(.value (.func 48)), #[(T 46)], #[24]⟩),
       mo 48 (.unOp .not 4 (T 47)),
       mo 49 (.move (T 48)),
       mg 50 4 false (.fieldAddr 26 (T 1) 5),
       mg 51 4 false (.load 24 (T 50)),
       mg 52 4 false (.call ⟨(.value (.func 48)), #[(T 51)], #[24]⟩),
       mg 53 4 false (.unOp .not 4 (T 52)),
       mo 54 (.pick (T 49) (.const (.bool true)) (T 53)),
       mo 44 (.assign (T 54))])
     (.cond (T 44) (.seq (rg [mo 2 (.assign (.const (.int .i64 1)))])
      (.ret))
     (.skip))))))))
 (.seq (rg [mo 56 (.fieldAddr 26 (T 1) 2),
   mo 57 (.load 22 (T 56)),
   mo 58 (.call ⟨(.value (.func 49)), #[(T 57)], #[22]⟩),
   mo 55 (.move (T 58)),
   mo 59 (.extract (T 55) 0),
   mo 60 (.extract (T 55) 1),
   mo 3 (.assign (T 59)),
   mo 4 (.assign (T 60))])
 (.seq (.seq (rg [mo 61 (.move (T 4)),
    mo 62 (.binOp .neq 31 (T 61) (.const (.int .i64 0)) 31)])
  (.cond (T 62) (.seq (rg [mo 63 (.move (T 4)),
     mo 2 (.assign (T 63))])
   (.ret))
  (.skip)))
 (.seq (.seq (rg [mo 64 (.move (T 3)),
    mo 65 (.call ⟨(.builtin .len), #[(T 64)], #[91]⟩),
    mo 66 (.move (.const (.int .i64 0)))])
  (.block 1 (.loop (.seq (rg [mo 67 (.binOp .lss 3 (T 66) (T 65) 3)])
    (.seq (.cond (T 67) (.skip)
     (.exit 1))
    (.seq (.block 2 (.seq (rg [mo 68 (.indexAddr 91 (T 64) (T 66)),
        mo 69 (.load 95 (T 68)),
        mo 6 (.alloc 95),
        mx (.store 95 (T 6) (T 69))])
      (.seq (rg [mo 7 (.assign (.const (.int .i64 1048576)))])
      (.seq (.seq (rg [mo 70 (.fieldAddr 95 (T 6) 1),
         mo 71 (.load 3 (T 70))])
       (.block 3 (.seq (.seq (rg [mo 73 (.binOp .eql 3 (T 71) (.const (.int .i64 3)) 3),
           mo 72 (.assign (T 73))])
         (.cond (T 72) (.skip)
         (rg [mo 74 (.binOp .eql 3 (T 71) (.const (.int .i64 4)) 3),
           mo 72 (.assign (T 74))])))
        (.cond (T 72) (rg [mo 75 (.fieldAddr 26 (T 1) 4),
          mo 76 (.load 24 (T 75)),
          mo 77 (.call ⟨(.builtin .len), #[(T 76)], #[24]⟩),
          mo 7 (.assign (T 77))])
        (.seq (.seq (rg [mo 79 (.binOp .eql 3 (T 71) (.const (.int .i64 5)) 3),
            mo 78 (.assign (T 79))])
          (.cond (T 78) (.skip)
          (rg [mo 80 (.binOp .eql 3 (T 71) (.const (.int .i64 6)) 3),
            mo 78 (.assign (T 80))])))
         (.cond (T 78) (rg [mo 81 (.fieldAddr 26 (T 1) 5),
           mo 82 (.load 24 (T 81)),
           mo 83 (.call ⟨(.builtin .len), #[(T 82)], #[24]⟩),
           mo 7 (.assign (T 83))])
         (.seq (rg [mo 85 (.binOp .eql 3 (T 71) (.const (.int .i64 2)) 3),
            mo 84 (.assign (T 85))])
          (.cond (T 84) (rg [mo 86 (.fieldAddr 26 (T 1) 3),
            mo 87 (.load 23 (T 86)),
            mo 88 (.call ⟨(.builtin .len), #[(T 87)], #[23]⟩),
            mo 7 (.assign (T 88))])
          (.skip)))))))))
      (.seq (rg [mo 89 (.fieldAddr 95 (T 6) 4),
        mo 90 (.load 2 (T 89)),
        mo 91 (.move (T 7)),
        mo 92 (.binOp .geq 2 (T 90) (T 91) 2)])
      (.cond (T 92) (.seq (rg [mo 2 (.assign (.const (.int .i64 132)))])
       (.ret))
      (.skip)))))))
    (rg [mo 93 (.binOp .add 3 (T 66) (.const (.int .i64 1)) 3),
     mo 66 (.move (T 93))])))))))
 (.seq (rg [mo 2 (.assign (.const (.int .i64 0)))])
 (.ret))))))
theorem body_32 : Try.f32.body.map strip = some c32 := by kernel_rfl
theorem go_32 {args : List Value} {h : DHeap} {R : DEnd → DHeap → Prop} (ha : args.length ≤ 94) (hx : xs Try.prog 94 c32 (XPost Try.prog [(.tmp 2)] R) ⟨argsFr args 94, [], h, none⟩) : Ct Try.prog 32 args h R :=
  Ct_xs (show Try.prog.funcs[32]? = some Try.f32 by kernel_rfl) body_32 (by kernel_rfl) (by kernel_rfl) ha (by kernel_rfl) hx
/-! (*trivet/client.Client).ask -/
def o33_0 : Array Oper := #[⟨(some 3), (.move (T 0)), 30, "client.go:72", #[], none⟩,
 ⟨(some 4), (.nilCheck (T 3)), 0, "client.go:72", #[⟨0, .data⟩], none⟩,
 ⟨(some 5), (.fieldAddr 76 (T 4) 6), 0, "client.go:72", #[⟨1, .data⟩], none⟩,
 ⟨(some 6), (.load 3 (T 5)), 3, "client.go:72", #[⟨2, .data⟩], none⟩,
 ⟨(some 7), (.move (T 0)), 30, "client.go:72", #[], none⟩,
 ⟨(some 8), (.nilCheck (T 7)), 0, "client.go:72", #[⟨4, .data⟩], none⟩,
 ⟨(some 9), (.fieldAddr 76 (T 8) 4), 0, "client.go:72", #[⟨5, .data⟩], none⟩,
 ⟨(some 10), (.load 26 (T 9)), 26, "client.go:72", #[⟨6, .data⟩], none⟩,
 ⟨(some 11), (.call ⟨(.value (.func 37)), #[(T 10)], #[26]⟩), 26, "client.go:72", #[⟨7, .data⟩], none⟩,
 ⟨(some 12), (.build 36 #[(0, (T 6)), (1, (T 11))]), 36, "client.go:72", #[⟨3, .data⟩, ⟨8, .data⟩], none⟩,
 ⟨none, (.store 36 (T 2) (T 12)), 0, "client.go:72", #[⟨9, .data⟩, ⟨8, .chain⟩, ⟨0, .phase⟩, ⟨1, .phase⟩, ⟨2, .phase⟩, ⟨3, .phase⟩, ⟨4, .phase⟩, ⟨5, .phase⟩, ⟨6, .phase⟩, ⟨7, .phase⟩, ⟨8, .phase⟩, ⟨9, .phase⟩], none⟩]
def l33_0 : List Oper := [mo 3 (.move (T 0)),
 mo 4 (.nilCheck (T 3)),
 mo 5 (.fieldAddr 76 (T 4) 6),
 mo 6 (.load 3 (T 5)),
 mo 7 (.move (T 0)),
 mo 8 (.nilCheck (T 7)),
 mo 9 (.fieldAddr 76 (T 8) 4),
 mo 10 (.load 26 (T 9)),
 mo 11 (.call ⟨(.value (.func 37)), #[(T 10)], #[26]⟩),
 mo 12 (.build 36 #[(0, (T 6)), (1, (T 11))]),
 mx (.store 36 (T 2) (T 12))]
def r33_0 : Code := .region 1 o33_0 true
theorem xr_33_0 {Q : DExit → St → Prop} {s : St} : xs Try.prog 13 r33_0 Q s = NC Try.prog 13 r33_0 Q s := rfl
attribute [go_sem] xr_33_0
def c33 : Code :=
 .seq (rg [mo 2 (.alloc 36)])
 (.seq (r33_0)
 (.ret))
theorem body_33 : Try.f33.body.map strip = some c33 := by kernel_rfl
theorem go_33 {args : List Value} {h : DHeap} {R : DEnd → DHeap → Prop} (ha : args.length ≤ 13) (hx : xs Try.prog 13 c33 (XPost Try.prog [(.cell 2 36)] R) ⟨argsFr args 13, [], h, none⟩) : Ct Try.prog 33 args h R :=
  Ct_xs (show Try.prog.funcs[33]? = some Try.f33 by kernel_rfl) body_33 (by kernel_rfl) (by kernel_rfl) ha (by kernel_rfl) hx
/-! trivet/trivetref25.sameValues -/
def o34_0 : Array Oper := #[⟨(some 17), (.move (T 0)), 23, "ref.go:145", #[], none⟩,
 ⟨(some 18), (.move (T 5)), 3, "ref.go:145", #[], none⟩,
 ⟨(some 19), (.indexAddr 23 (T 17) (T 18)), 0, "ref.go:145", #[⟨0, .data⟩, ⟨1, .data⟩], none⟩,
 ⟨(some 20), (.load 2 (T 19)), 2, "ref.go:145", #[⟨2, .data⟩], none⟩,
 ⟨(some 21), (.move (T 1)), 23, "ref.go:145", #[], none⟩,
 ⟨(some 22), (.move (T 5)), 3, "ref.go:145", #[], none⟩,
 ⟨(some 23), (.indexAddr 23 (T 21) (T 22)), 0, "ref.go:145", #[⟨4, .data⟩, ⟨5, .data⟩], none⟩,
 ⟨(some 24), (.load 2 (T 23)), 2, "ref.go:145", #[⟨6, .data⟩], none⟩,
 ⟨(some 25), (.binOp .neq 2 (T 20) (T 24) 2), 4, "ref.go:145", #[⟨3, .data⟩, ⟨7, .data⟩], none⟩]
def l34_0 : List Oper := [mo 17 (.move (T 0)),
 mo 18 (.move (T 5)),
 mo 19 (.indexAddr 23 (T 17) (T 18)),
 mo 20 (.load 2 (T 19)),
 mo 21 (.move (T 1)),
 mo 22 (.move (T 5)),
 mo 23 (.indexAddr 23 (T 21) (T 22)),
 mo 24 (.load 2 (T 23)),
 mo 25 (.binOp .neq 2 (T 20) (T 24) 2)]
def r34_0 : Code := .region 6 o34_0 true
theorem xr_34_0 {Q : DExit → St → Prop} {s : St} : xs Try.prog 26 r34_0 Q s = NC Try.prog 26 r34_0 Q s := rfl
theorem dr_34_0 {Q : DExit → St → Prop} {s : St} (h : XDraw Try.prog l34_0.toArray (befs o34_0.toList []) [] s.fr Q l34_0 0 s []) : NC Try.prog 26 r34_0 Q s :=
  NC.draw (by kernel_rfl) (by kernel_rfl) (by kernel_rfl) rfl (by kernel_rfl) (by kernel_rfl) h
attribute [go_sem] xr_34_0
def c34 : Code :=
 .seq (rg [mo 4 (.assign (.const (.bool false)))])
 (.seq (.seq (rg [mo 6 (.move (T 0)),
    mo 7 (.call ⟨(.builtin .len), #[(T 6)], #[23]⟩),
    mo 8 (.move (T 1)),
    mo 9 (.call ⟨(.builtin .len), #[(T 8)], #[23]⟩),
    mo 10 (.binOp .neq 3 (T 7) (T 9) 3)])
  (.cond (T 10) (.seq (rg [mo 4 (.assign (.const (.bool false)))])
   (.ret))
  (.skip)))
 (.seq (.seq (rg [mo 5 (.assign (.const (.int .i64 0)))])
  (.block 0 (.loop (.seq (.seq (rg [mo 11 (.move (T 5)),
       mo 12 (.move (T 0)),
       mo 13 (.call ⟨(.builtin .len), #[(T 12)], #[23]⟩),
       mo 14 (.binOp .lss 3 (T 11) (T 13) 3)])
     (.cond (T 14) (.skip)
     (.exit 0)))
    (.seq (.block 1 (.seq (r34_0)
      (.cond (T 25) (.seq (rg [mo 4 (.assign (.const (.bool false)))])
       (.ret))
      (.skip))))
    (rg [mo 15 (.move (T 5)),
     mo 16 (.binOp .add 3 (T 15) (.const (.int .i64 1)) 3),
     mo 5 (.assign (T 16))]))))))
 (.seq (rg [mo 4 (.assign (.const (.bool true)))])
 (.ret))))
theorem body_34 : Try.f34.body.map strip = some c34 := by kernel_rfl
theorem go_34 {args : List Value} {h : DHeap} {R : DEnd → DHeap → Prop} (ha : args.length ≤ 26) (hx : xs Try.prog 26 c34 (XPost Try.prog [(.tmp 4)] R) ⟨argsFr args 26, [], h, none⟩) : Ct Try.prog 34 args h R :=
  Ct_xs (show Try.prog.funcs[34]? = some Try.f34 by kernel_rfl) body_34 (by kernel_rfl) (by kernel_rfl) ha (by kernel_rfl) hx
/-! slices.Clone[[]int64,int64] -/
def c35 : Code :=
 .seq (rg [mo 2 (.assign (.const (.slice none 0 0)))])
 (.seq (.seq (rg [mo 3 (.move (T 0)),
    mo 4 (.binOp .eql 23 (T 3) (.const (.slice none 0 0)) 23)])
  (.cond (T 4) (.seq (rg [mo 2 (.assign (.const (.slice none 0 0)))])
   (.ret))
  (.skip)))
 (.seq (rg [mo 5 (.buildSlice 23 0 #[]),
   mo 6 (.move (T 0)),
   mo 7 (.call ⟨(.builtin .append), #[(T 5), (T 6)], #[23, 23]⟩),
   mo 2 (.assign (T 7))])
 (.ret)))
theorem body_35 : Try.f35.body.map strip = some c35 := by kernel_rfl
theorem go_35 {args : List Value} {h : DHeap} {R : DEnd → DHeap → Prop} (ha : args.length ≤ 8) (hx : xs Try.prog 8 c35 (XPost Try.prog [(.tmp 2)] R) ⟨argsFr args 8, [], h, none⟩) : Ct Try.prog 35 args h R :=
  Ct_xs (show Try.prog.funcs[35]? = some Try.f35 by kernel_rfl) body_35 (by kernel_rfl) (by kernel_rfl) ha (by kernel_rfl) hx
/-! (*trivet/trivetref25.Client).may -/
def c36 : Code :=
 .seq (rg [mo 4 (.assign (.const (.bool false)))])
 (.seq (rg [mo 5 (.move (T 1)),
   mo 6 (.binOp .geq 3 (T 5) (.const (.int .i64 0)) 3),
   mo 7 (.move (T 6)),
   mg 8 2 true (.move (T 1)),
   mg 9 2 true (.move (T 0)),
   mg 10 2 true (.nilCheck (T 9)),
   mg 11 2 true (.fieldAddr 86 (T 10) 1),
   mg 12 2 true (.load 3 (T 11)),
   mg 13 2 true (.binOp .lss 3 (T 8) (T 12) 3),
   mo 14 (.pick (T 7) (T 13) (.const (.bool false))),
   mo 4 (.assign (T 14))])
 (.ret))
theorem body_36 : Try.f36.body.map strip = some c36 := by kernel_rfl
theorem go_36 {args : List Value} {h : DHeap} {R : DEnd → DHeap → Prop} (ha : args.length ≤ 15) (hx : xs Try.prog 15 c36 (XPost Try.prog [(.tmp 4)] R) ⟨argsFr args 15, [], h, none⟩) : Ct Try.prog 36 args h R :=
  Ct_xs (show Try.prog.funcs[36]? = some Try.f36 by kernel_rfl) body_36 (by kernel_rfl) (by kernel_rfl) ha (by kernel_rfl) hx
/-! trivet/client.clone -/
def o37_0 : Array Oper := #[⟨(some 3), (.fieldAddr 26 (T 1) 2), 0, "client.go:39", #[], none⟩,
 ⟨(some 4), (.load 22 (T 3)), 22, "client.go:39", #[⟨0, .data⟩], none⟩,
 ⟨(some 5), (.call ⟨(.value (.func 50)), #[(T 4)], #[22]⟩), 22, "client.go:39", #[⟨1, .data⟩], none⟩,
 ⟨(some 6), (.fieldAddr 26 (T 1) 3), 0, "client.go:39", #[], none⟩,
 ⟨(some 7), (.load 23 (T 6)), 23, "client.go:39", #[⟨3, .data⟩], none⟩,
 ⟨(some 8), (.call ⟨(.value (.func 35)), #[(T 7)], #[23]⟩), 23, "client.go:39", #[⟨4, .data⟩, ⟨2, .chain⟩], none⟩,
 ⟨(some 9), (.fieldAddr 26 (T 1) 4), 0, "client.go:39", #[], none⟩,
 ⟨(some 10), (.load 24 (T 9)), 24, "client.go:39", #[⟨6, .data⟩], none⟩,
 ⟨(some 11), (.call ⟨(.value (.func 51)), #[(T 10)], #[24]⟩), 24, "client.go:39", #[⟨7, .data⟩, ⟨5, .chain⟩], none⟩,
 ⟨(some 12), (.fieldAddr 26 (T 1) 5), 0, "client.go:39", #[], none⟩,
 ⟨(some 13), (.load 24 (T 12)), 24, "client.go:39", #[⟨9, .data⟩], none⟩,
 ⟨(some 14), (.call ⟨(.value (.func 51)), #[(T 13)], #[24]⟩), 24, "client.go:39", #[⟨10, .data⟩, ⟨8, .chain⟩], none⟩,
 ⟨(some 15), (.fieldAddr 26 (T 1) 2), 0, "client.go:39", #[⟨0, .phase⟩, ⟨1, .phase⟩, ⟨2, .phase⟩, ⟨3, .phase⟩, ⟨4, .phase⟩, ⟨5, (.textOnly Go.Departure.lateStoresUnsure)⟩, ⟨6, .phase⟩, ⟨7, .phase⟩, ⟨8, (.textOnly Go.Departure.lateStoresUnsure)⟩, ⟨9, .phase⟩, ⟨10, .phase⟩, ⟨11, (.textOnly Go.Departure.lateStoresUnsure)⟩], none⟩,
 ⟨none, (.store 22 (T 15) (T 5)), 0, "client.go:39", #[⟨12, .data⟩, ⟨2, .data⟩, ⟨11, .chain⟩, ⟨0, .phase⟩, ⟨1, .phase⟩, ⟨2, .phase⟩, ⟨3, .phase⟩, ⟨4, .phase⟩, ⟨5, (.textOnly Go.Departure.lateStoresUnsure)⟩, ⟨6, .phase⟩, ⟨7, .phase⟩, ⟨8, (.textOnly Go.Departure.lateStoresUnsure)⟩, ⟨9, .phase⟩, ⟨10, .phase⟩, ⟨11, (.textOnly Go.Departure.lateStoresUnsure)⟩], none⟩,
 ⟨(some 16), (.fieldAddr 26 (T 1) 3), 0, "client.go:39", #[⟨0, .phase⟩, ⟨1, .phase⟩, ⟨2, .phase⟩, ⟨3, .phase⟩, ⟨4, .phase⟩, ⟨5, .phase⟩, ⟨6, .phase⟩, ⟨7, .phase⟩, ⟨8, (.textOnly Go.Departure.lateStoresUnsure)⟩, ⟨9, .phase⟩, ⟨10, .phase⟩, ⟨11, (.textOnly Go.Departure.lateStoresUnsure)⟩, ⟨12, .phase⟩, ⟨13, .phase⟩], none⟩,
 ⟨none, (.store 23 (T 16) (T 8)), 0, "client.go:39", #[⟨14, .data⟩, ⟨5, .data⟩, ⟨13, .chain⟩, ⟨0, .phase⟩, ⟨1, .phase⟩, ⟨2, .phase⟩, ⟨3, .phase⟩, ⟨4, .phase⟩, ⟨5, .phase⟩, ⟨6, .phase⟩, ⟨7, .phase⟩, ⟨8, (.textOnly Go.Departure.lateStoresUnsure)⟩, ⟨9, .phase⟩, ⟨10, .phase⟩, ⟨11, (.textOnly Go.Departure.lateStoresUnsure)⟩, ⟨12, .phase⟩, ⟨13, .phase⟩], none⟩,
 ⟨(some 17), (.fieldAddr 26 (T 1) 4), 0, "client.go:39", #[⟨0, .phase⟩, ⟨1, .phase⟩, ⟨2, .phase⟩, ⟨3, .phase⟩, ⟨4, .phase⟩, ⟨5, .phase⟩, ⟨6, .phase⟩, ⟨7, .phase⟩, ⟨8, .phase⟩, ⟨9, .phase⟩, ⟨10, .phase⟩, ⟨11, (.textOnly Go.Departure.lateStoresUnsure)⟩, ⟨12, .phase⟩, ⟨13, .phase⟩, ⟨14, .phase⟩, ⟨15, .phase⟩], none⟩,
 ⟨none, (.store 24 (T 17) (T 11)), 0, "client.go:39", #[⟨16, .data⟩, ⟨8, .data⟩, ⟨15, .chain⟩, ⟨0, .phase⟩, ⟨1, .phase⟩, ⟨2, .phase⟩, ⟨3, .phase⟩, ⟨4, .phase⟩, ⟨5, .phase⟩, ⟨6, .phase⟩, ⟨7, .phase⟩, ⟨8, .phase⟩, ⟨9, .phase⟩, ⟨10, .phase⟩, ⟨11, (.textOnly Go.Departure.lateStoresUnsure)⟩, ⟨12, .phase⟩, ⟨13, .phase⟩, ⟨14, .phase⟩, ⟨15, .phase⟩], none⟩,
 ⟨(some 18), (.fieldAddr 26 (T 1) 5), 0, "client.go:39", #[⟨0, .phase⟩, ⟨1, .phase⟩, ⟨2, .phase⟩, ⟨3, .phase⟩, ⟨4, .phase⟩, ⟨5, .phase⟩, ⟨6, .phase⟩, ⟨7, .phase⟩, ⟨8, .phase⟩, ⟨9, .phase⟩, ⟨10, .phase⟩, ⟨11, .phase⟩, ⟨12, .phase⟩, ⟨13, .phase⟩, ⟨14, .phase⟩, ⟨15, .phase⟩, ⟨16, .phase⟩, ⟨17, .phase⟩], none⟩,
 ⟨none, (.store 24 (T 18) (T 14)), 0, "client.go:39", #[⟨18, .data⟩, ⟨11, .data⟩, ⟨17, .chain⟩, ⟨0, .phase⟩, ⟨1, .phase⟩, ⟨2, .phase⟩, ⟨3, .phase⟩, ⟨4, .phase⟩, ⟨5, .phase⟩, ⟨6, .phase⟩, ⟨7, .phase⟩, ⟨8, .phase⟩, ⟨9, .phase⟩, ⟨10, .phase⟩, ⟨11, .phase⟩, ⟨12, .phase⟩, ⟨13, .phase⟩, ⟨14, .phase⟩, ⟨15, .phase⟩, ⟨16, .phase⟩, ⟨17, .phase⟩], none⟩]
def l37_0 : List Oper := [mo 3 (.fieldAddr 26 (T 1) 2),
 mo 4 (.load 22 (T 3)),
 mo 5 (.call ⟨(.value (.func 50)), #[(T 4)], #[22]⟩),
 mo 6 (.fieldAddr 26 (T 1) 3),
 mo 7 (.load 23 (T 6)),
 mo 8 (.call ⟨(.value (.func 35)), #[(T 7)], #[23]⟩),
 mo 9 (.fieldAddr 26 (T 1) 4),
 mo 10 (.load 24 (T 9)),
 mo 11 (.call ⟨(.value (.func 51)), #[(T 10)], #[24]⟩),
 mo 12 (.fieldAddr 26 (T 1) 5),
 mo 13 (.load 24 (T 12)),
 mo 14 (.call ⟨(.value (.func 51)), #[(T 13)], #[24]⟩),
 mo 15 (.fieldAddr 26 (T 1) 2),
 mx (.store 22 (T 15) (T 5)),
 mo 16 (.fieldAddr 26 (T 1) 3),
 mx (.store 23 (T 16) (T 8)),
 mo 17 (.fieldAddr 26 (T 1) 4),
 mx (.store 24 (T 17) (T 11)),
 mo 18 (.fieldAddr 26 (T 1) 5),
 mx (.store 24 (T 18) (T 14))]
def r37_0 : Code := .region 1 o37_0 true
theorem xr_37_0 {Q : DExit → St → Prop} {s : St} : xs Try.prog 20 r37_0 Q s = NC Try.prog 20 r37_0 Q s := rfl
theorem dr_37_0 {Q : DExit → St → Prop} {s : St} (h : XDraw Try.prog l37_0.toArray (befs o37_0.toList []) [(4, 2), (7, 2), (7, 5), (10, 2), (10, 5), (10, 8)] s.fr Q l37_0 0 s []) : NC Try.prog 20 r37_0 Q s :=
  NC.draw (by kernel_rfl) (by kernel_rfl) (by kernel_rfl) rfl (by kernel_rfl) (by kernel_rfl) h
attribute [go_sem] xr_37_0
def c37 : Code :=
 .seq (rg [mo 1 (.box 26 (T 0)),
   mo 2 (.alloc 26)])
 (.seq (r37_0)
 (.seq (rg [mo 19 (.load 26 (T 1)),
   mx (.store 26 (T 2) (T 19))])
 (.ret)))
theorem body_37 : Try.f37.body.map strip = some c37 := by kernel_rfl
theorem go_37 {args : List Value} {h : DHeap} {R : DEnd → DHeap → Prop} (ha : args.length ≤ 20) (hx : xs Try.prog 20 c37 (XPost Try.prog [(.cell 2 26)] R) ⟨argsFr args 20, [], h, none⟩) : Ct Try.prog 37 args h R :=
  Ct_xs (show Try.prog.funcs[37]? = some Try.f37 by kernel_rfl) body_37 (by kernel_rfl) (by kernel_rfl) ha (by kernel_rfl) hx
/-! trivet/shard.Keys -/
def c38 : Code :=
 .seq (rg [mo 2 (.assign (.const (.slice none 0 0)))])
 (.seq (rg [mo 4 (.move (T 0)),
   mo 5 (.call ⟨(.value (.func 51)), #[(T 4)], #[24]⟩),
   mo 3 (.assign (T 5))])
 (.seq (rg [mo 6 (.move (T 3)),
   mo 7 (.call ⟨(.value (.func 52)), #[(T 6), (.func 53)], #[24, 101]⟩)])
 (.seq (rg [mo 8 (.move (T 3)),
   mo 9 (.call ⟨(.value (.func 54)), #[(T 8)], #[24]⟩),
   mo 2 (.assign (T 9))])
 (.ret))))
theorem body_38 : Try.f38.body.map strip = some c38 := by kernel_rfl
theorem go_38 {args : List Value} {h : DHeap} {R : DEnd → DHeap → Prop} (ha : args.length ≤ 10) (hx : xs Try.prog 10 c38 (XPost Try.prog [(.tmp 2)] R) ⟨argsFr args 10, [], h, none⟩) : Ct Try.prog 38 args h R :=
  Ct_xs (show Try.prog.funcs[38]? = some Try.f38 by kernel_rfl) body_38 (by kernel_rfl) (by kernel_rfl) ha (by kernel_rfl) hx
/-! trivet/trivetref11.Keys -/
def o39_0 : Array Oper := #[⟨(some 13), (.move (T 5)), 3, "ref.go:22", #[], none⟩,
 ⟨(some 14), (.move (T 3)), 24, "ref.go:22", #[], none⟩,
 ⟨(some 15), (.call ⟨(.builtin .len), #[(T 14)], #[24]⟩), 3, "ref.go:22", #[⟨1, .data⟩], none⟩,
 ⟨(some 16), (.binOp .lss 3 (T 13) (T 15) 3), 4, "ref.go:22", #[⟨0, .data⟩, ⟨2, .data⟩], none⟩,
 ⟨(some 17), (.move (T 16)), 4, "ref.go:22", #[⟨3, .data⟩], none⟩,
 ⟨(some 18), (.move (T 3)), 24, "ref.go:22", #[⟨4, .guard⟩], (some (4, true))⟩,
 ⟨(some 19), (.move (T 5)), 3, "ref.go:22", #[⟨4, .guard⟩], (some (4, true))⟩,
 ⟨(some 20), (.indexAddr 24 (T 18) (T 19)), 0, "ref.go:22", #[⟨5, .data⟩, ⟨6, .data⟩, ⟨4, .guard⟩], (some (4, true))⟩,
 ⟨(some 21), (.load 54 (T 20)), 54, "ref.go:22", #[⟨7, .data⟩, ⟨4, .guard⟩], (some (4, true))⟩,
 ⟨(some 22), (.move (T 0)), 24, "ref.go:22", #[⟨4, .guard⟩], (some (4, true))⟩,
 ⟨(some 23), (.move (T 4)), 3, "ref.go:22", #[⟨4, .guard⟩], (some (4, true))⟩,
 ⟨(some 24), (.indexAddr 24 (T 22) (T 23)), 0, "ref.go:22", #[⟨9, .data⟩, ⟨10, .data⟩, ⟨4, .guard⟩], (some (4, true))⟩,
 ⟨(some 25), (.load 54 (T 24)), 54, "ref.go:22", #[⟨11, .data⟩, ⟨4, .guard⟩], (some (4, true))⟩,
 ⟨(some 26), (.call ⟨(.value (.func 55)), #[(T 21), (T 25)], #[54, 54]⟩), 3, "ref.go:22", #[⟨8, .data⟩, ⟨12, .data⟩, ⟨4, .chain⟩, ⟨4, .guard⟩], (some (4, true))⟩,
 ⟨(some 27), (.binOp .lss 3 (T 26) (.const (.int .i64 0)) 3), 4, "ref.go:22", #[⟨13, .data⟩, ⟨4, .guard⟩], (some (4, true))⟩,
 ⟨(some 28), (.pick (T 17) (T 27) (.const (.bool false))), 4, "ref.go:22", #[⟨4, .data⟩, ⟨14, .data⟩], none⟩]
def l39_0 : List Oper := [mo 13 (.move (T 5)),
 mo 14 (.move (T 3)),
 mo 15 (.call ⟨(.builtin .len), #[(T 14)], #[24]⟩),
 mo 16 (.binOp .lss 3 (T 13) (T 15) 3),
 mo 17 (.move (T 16)),
 mg 18 4 true (.move (T 3)),
 mg 19 4 true (.move (T 5)),
 mg 20 4 true (.indexAddr 24 (T 18) (T 19)),
 mg 21 4 true (.load 54 (T 20)),
 mg 22 4 true (.move (T 0)),
 mg 23 4 true (.move (T 4)),
 mg 24 4 true (.indexAddr 24 (T 22) (T 23)),
 mg 25 4 true (.load 54 (T 24)),
 mg 26 4 true (.call ⟨(.value (.func 55)), #[(T 21), (T 25)], #[54, 54]⟩),
 mg 27 4 true (.binOp .lss 3 (T 26) (.const (.int .i64 0)) 3),
 mo 28 (.pick (T 17) (T 27) (.const (.bool false)))]
def r39_0 : Code := .region 6 o39_0 true
theorem xr_39_0 {Q : DExit → St → Prop} {s : St} : xs Try.prog 62 r39_0 Q s = NC Try.prog 62 r39_0 Q s := rfl
theorem dr_39_0 {Q : DExit → St → Prop} {s : St} (h : XDraw Try.prog l39_0.toArray (befs o39_0.toList []) [] s.fr Q l39_0 0 s []) : NC Try.prog 62 r39_0 Q s :=
  NC.draw (by kernel_rfl) (by kernel_rfl) (by kernel_rfl) rfl (by kernel_rfl) (by kernel_rfl) h
attribute [go_sem] xr_39_0
def o39_1 : Array Oper := #[⟨(some 31), (.move (T 5)), 3, "ref.go:25", #[], none⟩,
 ⟨(some 32), (.move (T 3)), 24, "ref.go:25", #[], none⟩,
 ⟨(some 33), (.call ⟨(.builtin .len), #[(T 32)], #[24]⟩), 3, "ref.go:25", #[⟨1, .data⟩], none⟩,
 ⟨(some 34), (.binOp .lss 3 (T 31) (T 33) 3), 4, "ref.go:25", #[⟨0, .data⟩, ⟨2, .data⟩], none⟩,
 ⟨(some 35), (.move (T 34)), 4, "ref.go:25", #[⟨3, .data⟩], none⟩,
 ⟨(some 36), (.move (T 3)), 24, "ref.go:25", #[⟨4, .guard⟩], (some (4, true))⟩,
 ⟨(some 37), (.move (T 5)), 3, "ref.go:25", #[⟨4, .guard⟩], (some (4, true))⟩,
 ⟨(some 38), (.indexAddr 24 (T 36) (T 37)), 0, "ref.go:25", #[⟨5, .data⟩, ⟨6, .data⟩, ⟨4, .guard⟩], (some (4, true))⟩,
 ⟨(some 39), (.load 54 (T 38)), 54, "ref.go:25", #[⟨7, .data⟩, ⟨4, .guard⟩], (some (4, true))⟩,
 ⟨(some 40), (.move (T 0)), 24, "ref.go:25", #[⟨4, .guard⟩], (some (4, true))⟩,
 ⟨(some 41), (.move (T 4)), 3, "ref.go:25", #[⟨4, .guard⟩], (some (4, true))⟩,
 ⟨(some 42), (.indexAddr 24 (T 40) (T 41)), 0, "ref.go:25", #[⟨9, .data⟩, ⟨10, .data⟩, ⟨4, .guard⟩], (some (4, true))⟩,
 ⟨(some 43), (.load 54 (T 42)), 54, "ref.go:25", #[⟨11, .data⟩, ⟨4, .guard⟩], (some (4, true))⟩,
 ⟨(some 44), (.binOp .eql 54 (T 39) (T 43) 54), 4, "ref.go:25", #[⟨8, .data⟩, ⟨12, .data⟩, ⟨4, .guard⟩], (some (4, true))⟩,
 ⟨(some 45), (.pick (T 35) (T 44) (.const (.bool false))), 4, "ref.go:25", #[⟨4, .data⟩, ⟨13, .data⟩], none⟩]
def l39_1 : List Oper := [mo 31 (.move (T 5)),
 mo 32 (.move (T 3)),
 mo 33 (.call ⟨(.builtin .len), #[(T 32)], #[24]⟩),
 mo 34 (.binOp .lss 3 (T 31) (T 33) 3),
 mo 35 (.move (T 34)),
 mg 36 4 true (.move (T 3)),
 mg 37 4 true (.move (T 5)),
 mg 38 4 true (.indexAddr 24 (T 36) (T 37)),
 mg 39 4 true (.load 54 (T 38)),
 mg 40 4 true (.move (T 0)),
 mg 41 4 true (.move (T 4)),
 mg 42 4 true (.indexAddr 24 (T 40) (T 41)),
 mg 43 4 true (.load 54 (T 42)),
 mg 44 4 true (.binOp .eql 54 (T 39) (T 43) 54),
 mo 45 (.pick (T 35) (T 44) (.const (.bool false)))]
def r39_1 : Code := .region 8 o39_1 true
theorem xr_39_1 {Q : DExit → St → Prop} {s : St} : xs Try.prog 62 r39_1 Q s = NC Try.prog 62 r39_1 Q s := rfl
theorem dr_39_1 {Q : DExit → St → Prop} {s : St} (h : XDraw Try.prog l39_1.toArray (befs o39_1.toList []) [] s.fr Q l39_1 0 s []) : NC Try.prog 62 r39_1 Q s :=
  NC.draw (by kernel_rfl) (by kernel_rfl) (by kernel_rfl) rfl (by kernel_rfl) (by kernel_rfl) h
attribute [go_sem] xr_39_1
def o39_2 : Array Oper := #[⟨(some 46), (.move (T 6)), 24, "ref.go:29", #[], none⟩,
 ⟨(some 47), (.move (T 3)), 24, "ref.go:29", #[], none⟩,
 ⟨(some 48), (.move (T 5)), 3, "ref.go:29", #[], none⟩,
 ⟨(some 49), (.slice 24 (T 47) none (some (T 48)) none), 24, "ref.go:29", #[⟨1, .data⟩, ⟨2, .data⟩], none⟩,
 ⟨(some 50), (.call ⟨(.builtin .append), #[(T 46), (T 49)], #[24, 24]⟩), 24, "ref.go:29", #[⟨0, .data⟩, ⟨3, .data⟩], none⟩,
 ⟨(some 51), (.move (T 0)), 24, "ref.go:29", #[], none⟩,
 ⟨(some 52), (.move (T 4)), 3, "ref.go:29", #[], none⟩,
 ⟨(some 53), (.indexAddr 24 (T 51) (T 52)), 0, "ref.go:29", #[⟨5, .data⟩, ⟨6, .data⟩], none⟩,
 ⟨(some 54), (.load 54 (T 53)), 54, "ref.go:29", #[⟨7, .data⟩], none⟩,
 ⟨(some 55), (.buildSlice 24 1 #[(0, (T 54))]), 24, "ref.go:29", #[⟨8, .data⟩], none⟩,
 ⟨(some 56), (.call ⟨(.builtin .append), #[(T 50), (T 55)], #[24, 24]⟩), 24, "ref.go:29", #[⟨4, .data⟩, ⟨9, .data⟩, ⟨4, .chain⟩], none⟩,
 ⟨(some 57), (.move (T 3)), 24, "ref.go:29", #[], none⟩,
 ⟨(some 58), (.move (T 5)), 3, "ref.go:29", #[], none⟩,
 ⟨(some 59), (.slice 24 (T 57) (some (T 58)) none none), 24, "ref.go:29", #[⟨11, .data⟩, ⟨12, .data⟩], none⟩,
 ⟨(some 60), (.call ⟨(.builtin .append), #[(T 56), (T 59)], #[24, 24]⟩), 24, "ref.go:29", #[⟨10, .data⟩, ⟨13, .data⟩, ⟨10, .chain⟩], none⟩,
 ⟨(some 3), (.assign (T 60)), 24, "ref.go:29", #[⟨14, .data⟩, ⟨14, .chain⟩, ⟨0, .phase⟩, ⟨1, .phase⟩, ⟨2, .phase⟩, ⟨3, .phase⟩, ⟨4, .phase⟩, ⟨5, .phase⟩, ⟨6, .phase⟩, ⟨7, .phase⟩, ⟨8, .phase⟩, ⟨9, .phase⟩, ⟨10, .phase⟩, ⟨11, .phase⟩, ⟨12, .phase⟩, ⟨13, .phase⟩, ⟨14, .phase⟩], none⟩]
def l39_2 : List Oper := [mo 46 (.move (T 6)),
 mo 47 (.move (T 3)),
 mo 48 (.move (T 5)),
 mo 49 (.slice 24 (T 47) none (some (T 48)) none),
 mo 50 (.call ⟨(.builtin .append), #[(T 46), (T 49)], #[24, 24]⟩),
 mo 51 (.move (T 0)),
 mo 52 (.move (T 4)),
 mo 53 (.indexAddr 24 (T 51) (T 52)),
 mo 54 (.load 54 (T 53)),
 mo 55 (.buildSlice 24 1 #[(0, (T 54))]),
 mo 56 (.call ⟨(.builtin .append), #[(T 50), (T 55)], #[24, 24]⟩),
 mo 57 (.move (T 3)),
 mo 58 (.move (T 5)),
 mo 59 (.slice 24 (T 57) (some (T 58)) none none),
 mo 60 (.call ⟨(.builtin .append), #[(T 56), (T 59)], #[24, 24]⟩),
 mo 3 (.assign (T 60))]
def r39_2 : Code := .region 10 o39_2 true
theorem xr_39_2 {Q : DExit → St → Prop} {s : St} : xs Try.prog 62 r39_2 Q s = NC Try.prog 62 r39_2 Q s := rfl
-- not fit to be walked: false
attribute [go_sem] xr_39_2
def c39 : Code :=
 .seq (rg [mo 2 (.assign (.const (.slice none 0 0)))])
 (.seq (rg [mo 3 (.assign (.const (.slice none 0 0)))])
 (.seq (.seq (rg [mo 4 (.assign (.const (.int .i64 0)))])
  (.block 0 (.loop (.seq (.seq (rg [mo 7 (.move (T 4)),
       mo 8 (.move (T 0)),
       mo 9 (.call ⟨(.builtin .len), #[(T 8)], #[24]⟩),
       mo 10 (.binOp .lss 3 (T 7) (T 9) 3)])
     (.cond (T 10) (.skip)
     (.exit 0)))
    (.seq (.block 1 (.seq (rg [mo 5 (.assign (.const (.int .i64 0)))])
      (.seq (.block 2 (.loop (.seq (.seq (r39_0)
          (.cond (T 28) (.skip)
          (.exit 2)))
         (.block 3 (rg [mo 29 (.move (T 5)),
           mo 30 (.binOp .add 3 (T 29) (.const (.int .i64 1)) 3),
           mo 5 (.assign (T 30))])))))
      (.seq (.seq (r39_1)
       (.cond (T 45) (.exit 1)
       (.skip)))
      (.seq (rg [mo 6 (.assign (.const (.slice none 0 0)))])
      (r39_2))))))
    (rg [mo 11 (.move (T 4)),
     mo 12 (.binOp .add 3 (T 11) (.const (.int .i64 1)) 3),
     mo 4 (.assign (T 12))]))))))
 (.seq (rg [mo 61 (.move (T 3)),
   mo 2 (.assign (T 61))])
 (.ret))))
theorem body_39 : Try.f39.body.map strip = some c39 := by kernel_rfl
theorem go_39 {args : List Value} {h : DHeap} {R : DEnd → DHeap → Prop} (ha : args.length ≤ 62) (hx : xs Try.prog 62 c39 (XPost Try.prog [(.tmp 2)] R) ⟨argsFr args 62, [], h, none⟩) : Ct Try.prog 39 args h R :=
  Ct_xs (show Try.prog.funcs[39]? = some Try.f39 by kernel_rfl) body_39 (by kernel_rfl) (by kernel_rfl) ha (by kernel_rfl) hx
/-! trivet/trivetref13.rises -/
def o40_0 : Array Oper := #[⟨(some 10), (.move (T 0)), 24, "ref.go:186", #[], none⟩,
 ⟨(some 11), (.move (T 3)), 3, "ref.go:186", #[], none⟩,
 ⟨(some 12), (.binOp .sub 3 (T 11) (.const (.int .i64 1)) 3), 3, "ref.go:186", #[⟨1, .data⟩], none⟩,
 ⟨(some 13), (.indexAddr 24 (T 10) (T 12)), 0, "ref.go:186", #[⟨0, .data⟩, ⟨2, .data⟩], none⟩,
 ⟨(some 14), (.load 54 (T 13)), 54, "ref.go:186", #[⟨3, .data⟩], none⟩,
 ⟨(some 15), (.move (T 0)), 24, "ref.go:186", #[], none⟩,
 ⟨(some 16), (.move (T 3)), 3, "ref.go:186", #[], none⟩,
 ⟨(some 17), (.indexAddr 24 (T 15) (T 16)), 0, "ref.go:186", #[⟨5, .data⟩, ⟨6, .data⟩], none⟩,
 ⟨(some 18), (.load 54 (T 17)), 54, "ref.go:186", #[⟨7, .data⟩], none⟩,
 ⟨(some 19), (.call ⟨(.value (.func 55)), #[(T 14), (T 18)], #[54, 54]⟩), 3, "ref.go:186", #[⟨4, .data⟩, ⟨8, .data⟩], none⟩,
 ⟨(some 20), (.binOp .geq 3 (T 19) (.const (.int .i64 0)) 3), 4, "ref.go:186", #[⟨9, .data⟩], none⟩]
def l40_0 : List Oper := [mo 10 (.move (T 0)),
 mo 11 (.move (T 3)),
 mo 12 (.binOp .sub 3 (T 11) (.const (.int .i64 1)) 3),
 mo 13 (.indexAddr 24 (T 10) (T 12)),
 mo 14 (.load 54 (T 13)),
 mo 15 (.move (T 0)),
 mo 16 (.move (T 3)),
 mo 17 (.indexAddr 24 (T 15) (T 16)),
 mo 18 (.load 54 (T 17)),
 mo 19 (.call ⟨(.value (.func 55)), #[(T 14), (T 18)], #[54, 54]⟩),
 mo 20 (.binOp .geq 3 (T 19) (.const (.int .i64 0)) 3)]
def r40_0 : Code := .region 4 o40_0 true
theorem xr_40_0 {Q : DExit → St → Prop} {s : St} : xs Try.prog 21 r40_0 Q s = NC Try.prog 21 r40_0 Q s := rfl
theorem dr_40_0 {Q : DExit → St → Prop} {s : St} (h : XDraw Try.prog l40_0.toArray (befs o40_0.toList []) [] s.fr Q l40_0 0 s []) : NC Try.prog 21 r40_0 Q s :=
  NC.draw (by kernel_rfl) (by kernel_rfl) (by kernel_rfl) rfl (by kernel_rfl) (by kernel_rfl) h
attribute [go_sem] xr_40_0
def c40 : Code :=
 .seq (rg [mo 2 (.assign (.const (.bool false)))])
 (.seq (.seq (rg [mo 3 (.assign (.const (.int .i64 1)))])
  (.block 0 (.loop (.seq (.seq (rg [mo 4 (.move (T 3)),
       mo 5 (.move (T 0)),
       mo 6 (.call ⟨(.builtin .len), #[(T 5)], #[24]⟩),
       mo 7 (.binOp .lss 3 (T 4) (T 6) 3)])
     (.cond (T 7) (.skip)
     (.exit 0)))
    (.seq (.block 1 (.seq (r40_0)
      (.cond (T 20) (.seq (rg [mo 2 (.assign (.const (.bool false)))])
       (.ret))
      (.skip))))
    (rg [mo 8 (.move (T 3)),
     mo 9 (.binOp .add 3 (T 8) (.const (.int .i64 1)) 3),
     mo 3 (.assign (T 9))]))))))
 (.seq (rg [mo 2 (.assign (.const (.bool true)))])
 (.ret)))
theorem body_40 : Try.f40.body.map strip = some c40 := by kernel_rfl
theorem go_40 {args : List Value} {h : DHeap} {R : DEnd → DHeap → Prop} (ha : args.length ≤ 21) (hx : xs Try.prog 21 c40 (XPost Try.prog [(.tmp 2)] R) ⟨argsFr args 21, [], h, none⟩) : Ct Try.prog 40 args h R :=
  Ct_xs (show Try.prog.funcs[40]? = some Try.f40 by kernel_rfl) body_40 (by kernel_rfl) (by kernel_rfl) ha (by kernel_rfl) hx
/-! trivet/trivetref13.Decode -/
def c41 : Code :=
 .seq (rg [mo 2 (.assign (.const (.slice none 0 0))),
   mo 3 (.assign (.const (.int .i64 0)))])
 (.seq (.seq (rg [mo 7 (.move (T 0)),
    mo 8 (.call ⟨(.builtin .len), #[(T 7)], #[22]⟩),
    mo 9 (.binOp .gtr 3 (T 8) (.const (.int .i64 512)) 3)])
  (.cond (T 9) (.seq (rg [mo 2 (.assign (.const (.slice none 0 0))),
     mo 3 (.assign (.const (.int .i64 3)))])
   (.ret))
  (.skip)))
 (.seq (rg [mo 11 (.move (T 0)),
   mo 12 (.call ⟨(.value (.func 56)), #[(T 11)], #[22]⟩),
   mo 10 (.move (T 12)),
   mo 13 (.extract (T 10) 0),
   mo 14 (.extract (T 10) 1),
   mo 4 (.assign (T 13)),
   mo 5 (.assign (T 14))])
 (.seq (.seq (rg [mo 15 (.move (T 5)),
    mo 16 (.binOp .neq 31 (T 15) (.const (.int .i64 0)) 31)])
  (.cond (T 16) (.seq (rg [mo 17 (.move (T 5)),
     mo 2 (.assign (.const (.slice none 0 0))),
     mo 3 (.assign (T 17))])
   (.ret))
  (.skip)))
 (.seq (.seq (rg [mo 6 (.assign (.const (.int .i64 0)))])
  (.block 0 (.loop (.seq (.seq (rg [mo 18 (.move (T 6)),
       mo 19 (.move (T 4)),
       mo 20 (.call ⟨(.builtin .len), #[(T 19)], #[91]⟩),
       mo 21 (.binOp .lss 3 (T 18) (T 20) 3)])
     (.cond (T 21) (.skip)
     (.exit 0)))
    (.seq (.block 1 (.seq (rg [mo 24 (.move (T 4)),
        mo 25 (.move (T 6)),
        mo 26 (.indexAddr 91 (T 24) (T 25)),
        mo 27 (.fieldAddr 95 (T 26) 1),
        mo 28 (.load 3 (T 27)),
        mo 29 (.call ⟨(.value (.func 57)), #[(T 28)], #[3]⟩),
        mo 30 (.move (T 29)),
        mg 31 6 true (.move (T 4)),
        mg 32 6 true (.move (T 4)),
        mg 33 6 true (.move (T 6)),
        mg 34 6 true (.indexAddr 91 (T 32) (T 33)),
        mg 35 6 true (.fieldAddr 95 (T 34) 4),
        mg 36 6 true (.load 2 (T 35)),
        mg 37 6 true (.call ⟨(.value (.func 58)), #[(T 31), (T 36)], #[91, 2]⟩),
        mg 38 6 true (.unOp .not 4 (T 37)),
        mo 39 (.pick (T 30) (T 38) (.const (.bool false)))])
      (.cond (T 39) (.seq (rg [mo 2 (.assign (.const (.slice none 0 0))),
         mo 3 (.assign (.const (.int .i64 131)))])
       (.ret))
      (.skip))))
    (rg [mo 22 (.move (T 6)),
     mo 23 (.binOp .add 3 (T 22) (.const (.int .i64 1)) 3),
     mo 6 (.assign (T 23))]))))))
 (.seq (rg [mo 40 (.move (T 4)),
   mo 2 (.assign (T 40)),
   mo 3 (.assign (.const (.int .i64 0)))])
 (.ret))))))
theorem body_41 : Try.f41.body.map strip = some c41 := by kernel_rfl
theorem go_41 {args : List Value} {h : DHeap} {R : DEnd → DHeap → Prop} (ha : args.length ≤ 41) (hx : xs Try.prog 41 c41 (XPost Try.prog [(.tmp 2), (.tmp 3)] R) ⟨argsFr args 41, [], h, none⟩) : Ct Try.prog 41 args h R :=
  Ct_xs (show Try.prog.funcs[41]? = some Try.f41 by kernel_rfl) body_41 (by kernel_rfl) (by kernel_rfl) ha (by kernel_rfl) hx
end Go.Proofs.Ytbdljpndncohaaa

namespace Go.Proofs.Ytbdljpndncohaaa
open Go.D
set_option maxRecDepth 100000
/-! trivet/client.Normal -/
def o20_0 : Array Oper := #[⟨(some 5), (.fieldAddr 26 (T 1) 4), 0, "client.go:46", #[], none⟩,
 ⟨(some 6), (.load 24 (T 5)), 24, "client.go:46", #[⟨0, .data⟩], none⟩,
 ⟨(some 7), (.call ⟨(.value (.func 38)), #[(T 6)], #[24]⟩), 24, "client.go:46", #[⟨1, .data⟩], none⟩,
 ⟨(some 8), (.fieldAddr 26 (T 1) 5), 0, "client.go:46", #[], none⟩,
 ⟨(some 9), (.load 24 (T 8)), 24, "client.go:46", #[⟨3, .data⟩], none⟩,
 ⟨(some 10), (.call ⟨(.value (.func 38)), #[(T 9)], #[24]⟩), 24, "client.go:46", #[⟨4, .data⟩, ⟨2, .chain⟩], none⟩,
 ⟨(some 11), (.fieldAddr 26 (T 1) 4), 0, "client.go:46", #[⟨0, .phase⟩, ⟨1, .phase⟩, ⟨2, .phase⟩, ⟨3, .phase⟩, ⟨4, .phase⟩, ⟨5, (.textOnly Go.Departure.lateStoresUnsure)⟩], none⟩,
 ⟨none, (.store 24 (T 11) (T 7)), 0, "client.go:46", #[⟨6, .data⟩, ⟨2, .data⟩, ⟨5, .chain⟩, ⟨0, .phase⟩, ⟨1, .phase⟩, ⟨2, .phase⟩, ⟨3, .phase⟩, ⟨4, .phase⟩, ⟨5, (.textOnly Go.Departure.lateStoresUnsure)⟩], none⟩,
 ⟨(some 12), (.fieldAddr 26 (T 1) 5), 0, "client.go:46", #[⟨0, .phase⟩, ⟨1, .phase⟩, ⟨2, .phase⟩, ⟨3, .phase⟩, ⟨4, .phase⟩, ⟨5, .phase⟩, ⟨6, .phase⟩, ⟨7, .phase⟩], none⟩,
 ⟨none, (.store 24 (T 12) (T 10)), 0, "client.go:46", #[⟨8, .data⟩, ⟨5, .data⟩, ⟨7, .chain⟩, ⟨0, .phase⟩, ⟨1, .phase⟩, ⟨2, .phase⟩, ⟨3, .phase⟩, ⟨4, .phase⟩, ⟨5, .phase⟩, ⟨6, .phase⟩, ⟨7, .phase⟩], none⟩]
def l20_0 : List Oper := [mo 5 (.fieldAddr 26 (T 1) 4),
 mo 6 (.load 24 (T 5)),
 mo 7 (.call ⟨(.value (.func 38)), #[(T 6)], #[24]⟩),
 mo 8 (.fieldAddr 26 (T 1) 5),
 mo 9 (.load 24 (T 8)),
 mo 10 (.call ⟨(.value (.func 38)), #[(T 9)], #[24]⟩),
 mo 11 (.fieldAddr 26 (T 1) 4),
 mx (.store 24 (T 11) (T 7)),
 mo 12 (.fieldAddr 26 (T 1) 5),
 mx (.store 24 (T 12) (T 10))]
def r20_0 : Code := .region 2 o20_0 true
theorem xr_20_0 {Q : DExit → St → Prop} {s : St} : xs Try.prog 14 r20_0 Q s = NC Try.prog 14 r20_0 Q s := rfl
attribute [go_sem] xr_20_0
def c20 : Code :=
 .seq (rg [mo 1 (.box 26 (T 0)),
   mo 2 (.alloc 26)])
 (.seq (rg [mo 3 (.load 26 (T 1)),
   mo 4 (.call ⟨(.value (.func 37)), #[(T 3)], #[26]⟩),
   mx (.store 26 (T 1) (T 4))])
 (.seq (r20_0)
 (.seq (rg [mo 13 (.load 26 (T 1)),
   mx (.store 26 (T 2) (T 13))])
 (.ret))))
theorem body_20 : Try.f20.body.map strip = some c20 := by kernel_rfl
theorem go_20 {args : List Value} {h : DHeap} {R : DEnd → DHeap → Prop} (ha : args.length ≤ 14) (hx : xs Try.prog 14 c20 (XPost Try.prog [(.cell 2 26)] R) ⟨argsFr args 14, [], h, none⟩) : Ct Try.prog 20 args h R :=
  Ct_xs (show Try.prog.funcs[20]? = some Try.f20 by kernel_rfl) body_20 (by kernel_rfl) (by kernel_rfl) ha (by kernel_rfl) hx
/-! trivet/trivetref25.Normal -/
def o21_0 : Array Oper := #[⟨(some 3), (.fieldAddr 26 (T 1) 4), 0, "ref.go:34", #[], none⟩,
 ⟨(some 4), (.load 24 (T 3)), 24, "ref.go:34", #[⟨0, .data⟩], none⟩,
 ⟨(some 5), (.call ⟨(.value (.func 39)), #[(T 4)], #[24]⟩), 24, "ref.go:34", #[⟨1, .data⟩], none⟩,
 ⟨(some 6), (.fieldAddr 26 (T 1) 5), 0, "ref.go:34", #[], none⟩,
 ⟨(some 7), (.load 24 (T 6)), 24, "ref.go:34", #[⟨3, .data⟩], none⟩,
 ⟨(some 8), (.call ⟨(.value (.func 39)), #[(T 7)], #[24]⟩), 24, "ref.go:34", #[⟨4, .data⟩, ⟨2, .chain⟩], none⟩,
 ⟨(some 9), (.fieldAddr 26 (T 1) 4), 0, "ref.go:34", #[⟨0, .phase⟩, ⟨1, .phase⟩, ⟨2, .phase⟩, ⟨3, .phase⟩, ⟨4, .phase⟩, ⟨5, (.textOnly Go.Departure.lateStoresUnsure)⟩], none⟩,
 ⟨none, (.store 24 (T 9) (T 5)), 0, "ref.go:34", #[⟨6, .data⟩, ⟨2, .data⟩, ⟨5, .chain⟩, ⟨0, .phase⟩, ⟨1, .phase⟩, ⟨2, .phase⟩, ⟨3, .phase⟩, ⟨4, .phase⟩, ⟨5, (.textOnly Go.Departure.lateStoresUnsure)⟩], none⟩,
 ⟨(some 10), (.fieldAddr 26 (T 1) 5), 0, "ref.go:34", #[⟨0, .phase⟩, ⟨1, .phase⟩, ⟨2, .phase⟩, ⟨3, .phase⟩, ⟨4, .phase⟩, ⟨5, .phase⟩, ⟨6, .phase⟩, ⟨7, .phase⟩], none⟩,
 ⟨none, (.store 24 (T 10) (T 8)), 0, "ref.go:34", #[⟨8, .data⟩, ⟨5, .data⟩, ⟨7, .chain⟩, ⟨0, .phase⟩, ⟨1, .phase⟩, ⟨2, .phase⟩, ⟨3, .phase⟩, ⟨4, .phase⟩, ⟨5, .phase⟩, ⟨6, .phase⟩, ⟨7, .phase⟩], none⟩]
def l21_0 : List Oper := [mo 3 (.fieldAddr 26 (T 1) 4),
 mo 4 (.load 24 (T 3)),
 mo 5 (.call ⟨(.value (.func 39)), #[(T 4)], #[24]⟩),
 mo 6 (.fieldAddr 26 (T 1) 5),
 mo 7 (.load 24 (T 6)),
 mo 8 (.call ⟨(.value (.func 39)), #[(T 7)], #[24]⟩),
 mo 9 (.fieldAddr 26 (T 1) 4),
 mx (.store 24 (T 9) (T 5)),
 mo 10 (.fieldAddr 26 (T 1) 5),
 mx (.store 24 (T 10) (T 8))]
def r21_0 : Code := .region 1 o21_0 true
theorem xr_21_0 {Q : DExit → St → Prop} {s : St} : xs Try.prog 12 r21_0 Q s = NC Try.prog 12 r21_0 Q s := rfl
attribute [go_sem] xr_21_0
def c21 : Code :=
 .seq (rg [mo 1 (.box 26 (T 0)),
   mo 2 (.alloc 26)])
 (.seq (r21_0)
 (.seq (rg [mo 11 (.load 26 (T 1)),
   mx (.store 26 (T 2) (T 11))])
 (.ret)))
theorem body_21 : Try.f21.body.map strip = some c21 := by kernel_rfl
theorem go_21 {args : List Value} {h : DHeap} {R : DEnd → DHeap → Prop} (ha : args.length ≤ 12) (hx : xs Try.prog 12 c21 (XPost Try.prog [(.cell 2 26)] R) ⟨argsFr args 12, [], h, none⟩) : Ct Try.prog 21 args h R :=
  Ct_xs (show Try.prog.funcs[21]? = some Try.f21 by kernel_rfl) body_21 (by kernel_rfl) (by kernel_rfl) ha (by kernel_rfl) hx
/-! (*trivet/client.Client).Request -/
/-! trivet/trivetref13.Check -/
def c23 : Code :=
 .seq (rg [mo 1 (.box 26 (T 0)),
   mo 2 (.assign (.const (.int .i64 0)))])
 (.seq (.seq (rg [mo 7 (.fieldAddr 26 (T 1) 0),
    mo 8 (.load 2 (T 7)),
    mo 9 (.binOp .lss 2 (T 8) (.const (.int .i64 1)) 2),
    mo 10 (.move (T 9)),
    mg 11 3 false (.fieldAddr 26 (T 1) 0),
    mg 12 3 false (.load 2 (T 11)),
    mg 13 3 false (.binOp .gtr 2 (T 12) (.const (.int .i64 1099511627776)) 2),
    mo 14 (.pick (T 10) (.const (.bool true)) (T 13)),
    mo 15 (.move (T 14)),
    mg 16 8 false (.fieldAddr 26 (T 1) 1),
    mg 17 8 false (.load 2 (T 16)),
    mg 18 8 false (.binOp .lss 2 (T 17) (.const (.int .i64 1)) 2),
    mo 19 (.pick (T 15) (.const (.bool true)) (T 18)),
    mo 20 (.move (T 19)),
    mg 21 13 false (.fieldAddr 26 (T 1) 1),
    mg 22 13 false (.load 2 (T 21)),
    mg 23 13 false (.binOp .gtr 2 (T 22) (.const (.int .i64 1099511627776)) 2),
    mo 24 (.pick (T 20) (.const (.bool true)) (T 23))])
  (.cond (T 24) (.seq (rg [mo 2 (.assign (.const (.int .i64 1)))])
   (.ret))
  (.skip)))
 (.seq (.seq (rg [mo 25 (.fieldAddr 26 (T 1) 3),
    mo 26 (.load 23 (T 25)),
    mo 27 (.call ⟨(.builtin .len), #[(T 26)], #[23]⟩),
    mo 28 (.binOp .gtr 3 (T 27) (.const (.int .i64 8)) 3),
    mo 29 (.move (T 28)),
    mg 30 4 false (.fieldAddr 26 (T 1) 4),
    mg 31 4 false (.load 24 (T 30)),
    mg 32 4 false (.call ⟨(.builtin .len), #[(T 31)], #[24]⟩),
    mg 33 4 false (.binOp .gtr 3 (T 32) (.const (.int .i64 16)) 3),
    mo 34 (.pick (T 29) (.const (.bool true)) (T 33)),
    mo 35 (.move (T 34)),
    mg 36 10 false (.fieldAddr 26 (T 1) 5),
    mg 37 10 false (.load 24 (T 36)),
    mg 38 10 false (.call ⟨(.builtin .len), #[(T 37)], #[24]⟩),
    mg 39 10 false (.binOp .gtr 3 (T 38) (.const (.int .i64 16)) 3),
    mo 40 (.pick (T 35) (.const (.bool true)) (T 39))])
  (.cond (T 40) (.seq (rg [mo 2 (.assign (.const (.int .i64 3)))])
   (.ret))
  (.skip)))
 (.seq (.seq (rg [mo 41 (.fieldAddr 26 (T 1) 4),
    mo 42 (.load 24 (T 41)),
    mo 43 (.call ⟨(.value (.func 40)), #[(T 42)], #[24]⟩),
    mo 44 (.unOp .not 4 (T 43)),
    mo 45 (.move (T 44)),
    mg 46 4 false (.fieldAddr 26 (T 1) 5),
    mg 47 4 false (.load 24 (T 46)),
    mg 48 4 false (.call ⟨(.value (.func 40)), #[(T 47)], #[24]⟩),
    mg 49 4 false (.unOp .not 4 (T 48)),
    mo 50 (.pick (T 45) (.const (.bool true)) (T 49))])
  (.cond (T 50) (.seq (rg [mo 2 (.assign (.const (.int .i64 1)))])
   (.ret))
  (.skip)))
 (.seq (rg [mo 52 (.fieldAddr 26 (T 1) 2),
   mo 53 (.load 22 (T 52)),
   mo 54 (.call ⟨(.value (.func 41)), #[(T 53)], #[22]⟩),
   mo 51 (.move (T 54)),
   mo 55 (.extract (T 51) 0),
   mo 56 (.extract (T 51) 1),
   mo 3 (.assign (T 55)),
   mo 4 (.assign (T 56))])
 (.seq (.seq (rg [mo 57 (.move (T 4)),
    mo 58 (.binOp .neq 31 (T 57) (.const (.int .i64 0)) 31)])
  (.cond (T 58) (.seq (rg [mo 59 (.move (T 4)),
     mo 2 (.assign (T 59))])
   (.ret))
  (.skip)))
 (.seq (.seq (rg [mo 5 (.assign (.const (.int .i64 0)))])
  (.block 0 (.loop (.seq (.seq (rg [mo 60 (.move (T 5)),
       mo 61 (.move (T 3)),
       mo 62 (.call ⟨(.builtin .len), #[(T 61)], #[91]⟩),
       mo 63 (.binOp .lss 3 (T 60) (T 62) 3)])
     (.cond (T 63) (.skip)
     (.exit 0)))
    (.seq (.block 1 (.seq (rg [mo 6 (.assign (.const (.int .i64 256)))])
      (.seq (.seq (rg [mo 66 (.move (T 3)),
         mo 67 (.move (T 5)),
         mo 68 (.indexAddr 91 (T 66) (T 67)),
         mo 69 (.fieldAddr 95 (T 68) 1),
         mo 70 (.load 3 (T 69))])
       (.block 2 (.seq (.seq (rg [mo 72 (.binOp .eql 3 (T 70) (.const (.int .i64 3)) 3),
           mo 71 (.assign (T 72))])
         (.cond (T 71) (.skip)
         (rg [mo 73 (.binOp .eql 3 (T 70) (.const (.int .i64 4)) 3),
           mo 71 (.assign (T 73))])))
        (.cond (T 71) (rg [mo 74 (.fieldAddr 26 (T 1) 4),
          mo 75 (.load 24 (T 74)),
          mo 76 (.call ⟨(.builtin .len), #[(T 75)], #[24]⟩),
          mo 6 (.assign (T 76))])
        (.seq (.seq (rg [mo 78 (.binOp .eql 3 (T 70) (.const (.int .i64 5)) 3),
            mo 77 (.assign (T 78))])
          (.cond (T 77) (.skip)
          (rg [mo 79 (.binOp .eql 3 (T 70) (.const (.int .i64 6)) 3),
            mo 77 (.assign (T 79))])))
         (.cond (T 77) (rg [mo 80 (.fieldAddr 26 (T 1) 5),
           mo 81 (.load 24 (T 80)),
           mo 82 (.call ⟨(.builtin .len), #[(T 81)], #[24]⟩),
           mo 6 (.assign (T 82))])
         (.seq (rg [mo 84 (.binOp .eql 3 (T 70) (.const (.int .i64 2)) 3),
            mo 83 (.assign (T 84))])
          (.cond (T 83) (rg [mo 85 (.fieldAddr 26 (T 1) 3),
            mo 86 (.load 23 (T 85)),
            mo 87 (.call ⟨(.builtin .len), #[(T 86)], #[23]⟩),
            mo 6 (.assign (T 87))])
          (.exit 1)))))))))
      (.seq (rg [mo 88 (.move (T 3)),
        mo 89 (.move (T 5)),
        mo 90 (.indexAddr 91 (T 88) (T 89)),
        mo 91 (.fieldAddr 95 (T 90) 4),
        mo 92 (.load 2 (T 91)),
        mo 93 (.move (T 6)),
        mo 94 (.binOp .geq 2 (T 92) (T 93) 2)])
      (.cond (T 94) (.seq (rg [mo 2 (.assign (.const (.int .i64 132)))])
       (.ret))
      (.skip))))))
    (rg [mo 64 (.move (T 5)),
     mo 65 (.binOp .add 3 (T 64) (.const (.int .i64 1)) 3),
     mo 5 (.assign (T 65))]))))))
 (.seq (rg [mo 2 (.assign (.const (.int .i64 0)))])
 (.ret))))))))
theorem body_23 : Try.f23.body.map strip = some c23 := by kernel_rfl
theorem go_23 {args : List Value} {h : DHeap} {R : DEnd → DHeap → Prop} (ha : args.length ≤ 95) (hx : xs Try.prog 95 c23 (XPost Try.prog [(.tmp 2)] R) ⟨argsFr args 95, [], h, none⟩) : Ct Try.prog 23 args h R :=
  Ct_xs (show Try.prog.funcs[23]? = some Try.f23 by kernel_rfl) body_23 (by kernel_rfl) (by kernel_rfl) ha (by kernel_rfl) hx
/-! trivet/trivetref11.SameKeys -/
def o24_0 : Array Oper := #[⟨(some 17), (.move (T 0)), 24, "ref.go:136", #[], none⟩,
 ⟨(some 18), (.move (T 5)), 3, "ref.go:136", #[], none⟩,
 ⟨(some 19), (.indexAddr 24 (T 17) (T 18)), 0, "ref.go:136", #[⟨0, .data⟩, ⟨1, .data⟩], none⟩,
 ⟨(some 20), (.load 54 (T 19)), 54, "ref.go:136", #[⟨2, .data⟩], none⟩,
 ⟨(some 21), (.move (T 1)), 24, "ref.go:136", #[], none⟩,
 ⟨(some 22), (.move (T 5)), 3, "ref.go:136", #[], none⟩,
 ⟨(some 23), (.indexAddr 24 (T 21) (T 22)), 0, "ref.go:136", #[⟨4, .data⟩, ⟨5, .data⟩], none⟩,
 ⟨(some 24), (.load 54 (T 23)), 54, "ref.go:136", #[⟨6, .data⟩], none⟩,
 ⟨(some 25), (.binOp .neq 54 (T 20) (T 24) 54), 4, "ref.go:136", #[⟨3, .data⟩, ⟨7, .data⟩], none⟩]
def l24_0 : List Oper := [mo 17 (.move (T 0)),
 mo 18 (.move (T 5)),
 mo 19 (.indexAddr 24 (T 17) (T 18)),
 mo 20 (.load 54 (T 19)),
 mo 21 (.move (T 1)),
 mo 22 (.move (T 5)),
 mo 23 (.indexAddr 24 (T 21) (T 22)),
 mo 24 (.load 54 (T 23)),
 mo 25 (.binOp .neq 54 (T 20) (T 24) 54)]
def r24_0 : Code := .region 6 o24_0 true
theorem xr_24_0 {Q : DExit → St → Prop} {s : St} : xs Try.prog 26 r24_0 Q s = NC Try.prog 26 r24_0 Q s := rfl
theorem dr_24_0 {Q : DExit → St → Prop} {s : St} (h : XDraw Try.prog l24_0.toArray (befs o24_0.toList []) [] s.fr Q l24_0 0 s []) : NC Try.prog 26 r24_0 Q s :=
  NC.draw (by kernel_rfl) (by kernel_rfl) (by kernel_rfl) rfl (by kernel_rfl) (by kernel_rfl) h
attribute [go_sem] xr_24_0
def c24 : Code :=
 .seq (rg [mo 4 (.assign (.const (.bool false)))])
 (.seq (.seq (rg [mo 6 (.move (T 0)),
    mo 7 (.call ⟨(.builtin .len), #[(T 6)], #[24]⟩),
    mo 8 (.move (T 1)),
    mo 9 (.call ⟨(.builtin .len), #[(T 8)], #[24]⟩),
    mo 10 (.binOp .neq 3 (T 7) (T 9) 3)])
  (.cond (T 10) (.seq (rg [mo 4 (.assign (.const (.bool false)))])
   (.ret))
  (.skip)))
 (.seq (.seq (rg [mo 5 (.assign (.const (.int .i64 0)))])
  (.block 0 (.loop (.seq (.seq (rg [mo 11 (.move (T 5)),
       mo 12 (.move (T 0)),
       mo 13 (.call ⟨(.builtin .len), #[(T 12)], #[24]⟩),
       mo 14 (.binOp .lss 3 (T 11) (T 13) 3)])
     (.cond (T 14) (.skip)
     (.exit 0)))
    (.seq (.block 1 (.seq (r24_0)
      (.cond (T 25) (.seq (rg [mo 4 (.assign (.const (.bool false)))])
       (.ret))
      (.skip))))
    (rg [mo 15 (.move (T 5)),
     mo 16 (.binOp .add 3 (T 15) (.const (.int .i64 1)) 3),
     mo 5 (.assign (T 16))]))))))
 (.seq (rg [mo 4 (.assign (.const (.bool true)))])
 (.ret))))
theorem body_24 : Try.f24.body.map strip = some c24 := by kernel_rfl
theorem go_24 {args : List Value} {h : DHeap} {R : DEnd → DHeap → Prop} (ha : args.length ≤ 26) (hx : xs Try.prog 26 c24 (XPost Try.prog [(.tmp 4)] R) ⟨argsFr args 26, [], h, none⟩) : Ct Try.prog 24 args h R :=
  Ct_xs (show Try.prog.funcs[24]? = some Try.f24 by kernel_rfl) body_24 (by kernel_rfl) (by kernel_rfl) ha (by kernel_rfl) hx
/-! (*trivet/client.Client).Found -/
end Go.Proofs.Ytbdljpndncohaaa

namespace Go.Proofs.Ytbdljpndncohaaa
open Go.D
set_option maxRecDepth 100000
/-! trivet/code.rises -/
def o48_0 : Array Oper := #[⟨(some 9), (.move (T 3)), 3, "code.go:196", #[], none⟩,
 ⟨(some 10), (.binOp .gtr 3 (T 9) (.const (.int .i64 0)) 3), 4, "code.go:196", #[⟨0, .data⟩], none⟩,
 ⟨(some 11), (.move (T 10)), 4, "code.go:196", #[⟨1, .data⟩], none⟩,
 ⟨(some 12), (.move (T 0)), 24, "code.go:196", #[⟨2, .guard⟩], (some (2, true))⟩,
 ⟨(some 13), (.move (T 3)), 3, "code.go:196", #[⟨2, .guard⟩], (some (2, true))⟩,
 ⟨(some 14), (.indexAddr 24 (T 12) (T 13)), 0, "code.go:196", #[⟨3, .data⟩, ⟨4, .data⟩, ⟨2, .guard⟩], (some (2, true))⟩,
 ⟨(some 15), (.fieldAddr 54 (T 14) 0), 0, "code.go:196", #[⟨5, .data⟩, ⟨2, .guard⟩], (some (2, true))⟩,
 ⟨(some 16), (.load 21 (T 15)), 21, "code.go:196", #[⟨6, .data⟩, ⟨2, .guard⟩], (some (2, true))⟩,
 ⟨(some 17), (.move (T 0)), 24, "code.go:196", #[⟨2, .guard⟩], (some (2, true))⟩,
 ⟨(some 18), (.move (T 3)), 3, "code.go:196", #[⟨2, .guard⟩], (some (2, true))⟩,
 ⟨(some 19), (.binOp .sub 3 (T 18) (.const (.int .i64 1)) 3), 3, "code.go:196", #[⟨9, .data⟩, ⟨2, .guard⟩], (some (2, true))⟩,
 ⟨(some 20), (.indexAddr 24 (T 17) (T 19)), 0, "code.go:196", #[⟨8, .data⟩, ⟨10, .data⟩, ⟨2, .guard⟩], (some (2, true))⟩,
 ⟨(some 21), (.fieldAddr 54 (T 20) 0), 0, "code.go:196", #[⟨11, .data⟩, ⟨2, .guard⟩], (some (2, true))⟩,
 ⟨(some 22), (.load 21 (T 21)), 21, "code.go:196", #[⟨12, .data⟩, ⟨2, .guard⟩], (some (2, true))⟩,
 ⟨(some 23), (.binOp .lss 21 (T 16) (T 22) 21), 4, "code.go:196", #[⟨7, .data⟩, ⟨13, .data⟩, ⟨2, .guard⟩], (some (2, true))⟩,
 ⟨(some 24), (.move (T 23)), 4, "code.go:196", #[⟨14, .data⟩, ⟨2, .chain⟩, ⟨2, .guard⟩], (some (2, true))⟩,
 ⟨(some 25), (.move (T 0)), 24, "code.go:196", #[⟨15, .guard⟩], (some (15, false))⟩,
 ⟨(some 26), (.move (T 3)), 3, "code.go:196", #[⟨15, .guard⟩], (some (15, false))⟩,
 ⟨(some 27), (.indexAddr 24 (T 25) (T 26)), 0, "code.go:196", #[⟨16, .data⟩, ⟨17, .data⟩, ⟨15, .guard⟩], (some (15, false))⟩,
 ⟨(some 28), (.fieldAddr 54 (T 27) 0), 0, "code.go:196", #[⟨18, .data⟩, ⟨15, .guard⟩], (some (15, false))⟩,
 ⟨(some 29), (.load 21 (T 28)), 21, "code.go:196", #[⟨19, .data⟩, ⟨15, .guard⟩], (some (15, false))⟩,
 ⟨(some 30), (.move (T 0)), 24, "code.go:196", #[⟨15, .guard⟩], (some (15, false))⟩,
 ⟨(some 31), (.move (T 3)), 3, "code.go:196", #[⟨15, .guard⟩], (some (15, false))⟩,
 ⟨(some 32), (.binOp .sub 3 (T 31) (.const (.int .i64 1)) 3), 3, "code.go:196", #[⟨22, .data⟩, ⟨15, .guard⟩], (some (15, false))⟩,
 ⟨(some 33), (.indexAddr 24 (T 30) (T 32)), 0, "code.go:196", #[⟨21, .data⟩, ⟨23, .data⟩, ⟨15, .guard⟩], (some (15, false))⟩,
 ⟨(some 34), (.fieldAddr 54 (T 33) 0), 0, "code.go:196", #[⟨24, .data⟩, ⟨15, .guard⟩], (some (15, false))⟩,
 ⟨(some 35), (.load 21 (T 34)), 21, "code.go:196", #[⟨25, .data⟩, ⟨15, .guard⟩], (some (15, false))⟩,
 ⟨(some 36), (.binOp .eql 21 (T 29) (T 35) 21), 4, "code.go:196", #[⟨20, .data⟩, ⟨26, .data⟩, ⟨15, .guard⟩], (some (15, false))⟩,
 ⟨(some 37), (.move (T 36)), 4, "code.go:196", #[⟨27, .data⟩, ⟨15, .chain⟩, ⟨15, .guard⟩], (some (15, false))⟩,
 ⟨(some 38), (.move (T 0)), 24, "code.go:196", #[⟨28, .guard⟩], (some (28, true))⟩,
 ⟨(some 39), (.move (T 3)), 3, "code.go:196", #[⟨28, .guard⟩], (some (28, true))⟩,
 ⟨(some 40), (.indexAddr 24 (T 38) (T 39)), 0, "code.go:196", #[⟨29, .data⟩, ⟨30, .data⟩, ⟨28, .guard⟩], (some (28, true))⟩,
 ⟨(some 41), (.fieldAddr 54 (T 40) 1), 0, "code.go:196", #[⟨31, .data⟩, ⟨28, .guard⟩], (some (28, true))⟩,
 ⟨(some 42), (.load 2 (T 41)), 2, "code.go:196", #[⟨32, .data⟩, ⟨28, .guard⟩], (some (28, true))⟩,
 ⟨(some 43), (.move (T 0)), 24, "code.go:196", #[⟨28, .guard⟩], (some (28, true))⟩,
 ⟨(some 44), (.move (T 3)), 3, "code.go:196", #[⟨28, .guard⟩], (some (28, true))⟩,
 ⟨(some 45), (.binOp .sub 3 (T 44) (.const (.int .i64 1)) 3), 3, "code.go:196", #[⟨35, .data⟩, ⟨28, .guard⟩], (some (28, true))⟩,
 ⟨(some 46), (.indexAddr 24 (T 43) (T 45)), 0, "code.go:196", #[⟨34, .data⟩, ⟨36, .data⟩, ⟨28, .guard⟩], (some (28, true))⟩,
 ⟨(some 47), (.fieldAddr 54 (T 46) 1), 0, "code.go:196", #[⟨37, .data⟩, ⟨28, .guard⟩], (some (28, true))⟩,
 ⟨(some 48), (.load 2 (T 47)), 2, "code.go:196", #[⟨38, .data⟩, ⟨28, .guard⟩], (some (28, true))⟩,
 ⟨(some 49), (.binOp .leq 2 (T 42) (T 48) 2), 4, "code.go:196", #[⟨33, .data⟩, ⟨39, .data⟩, ⟨28, .guard⟩], (some (28, true))⟩,
 ⟨(some 50), (.pick (T 37) (T 49) (.const (.bool false))), 4, "code.go:196", #[⟨28, .data⟩, ⟨40, .data⟩, ⟨15, .guard⟩], (some (15, false))⟩,
 ⟨(some 51), (.pick (T 24) (.const (.bool true)) (T 50)), 4, "code.go:196", #[⟨15, .data⟩, ⟨41, .data⟩, ⟨2, .guard⟩], (some (2, true))⟩,
 ⟨(some 52), (.pick (T 11) (T 51) (.const (.bool false))), 4, "code.go:196", #[⟨2, .data⟩, ⟨42, .data⟩], none⟩]
def l48_0 : List Oper := [mo 9 (.move (T 3)),
 mo 10 (.binOp .gtr 3 (T 9) (.const (.int .i64 0)) 3),
 mo 11 (.move (T 10)),
 mg 12 2 true (.move (T 0)),
 mg 13 2 true (.move (T 3)),
 mg 14 2 true (.indexAddr 24 (T 12) (T 13)),
 mg 15 2 true (.fieldAddr 54 (T 14) 0),
 mg 16 2 true (.load 21 (T 15)),
 mg 17 2 true (.move (T 0)),
 mg 18 2 true (.move (T 3)),
 mg 19 2 true (.binOp .sub 3 (T 18) (.const (.int .i64 1)) 3),
 mg 20 2 true (.indexAddr 24 (T 17) (T 19)),
 mg 21 2 true (.fieldAddr 54 (T 20) 0),
 mg 22 2 true (.load 21 (T 21)),
 mg 23 2 true (.binOp .lss 21 (T 16) (T 22) 21),
 mg 24 2 true (.move (T 23)),
 mg 25 15 false (.move (T 0)),
 mg 26 15 false (.move (T 3)),
 mg 27 15 false (.indexAddr 24 (T 25) (T 26)),
 mg 28 15 false (.fieldAddr 54 (T 27) 0),
 mg 29 15 false (.load 21 (T 28)),
 mg 30 15 false (.move (T 0)),
 mg 31 15 false (.move (T 3)),
 mg 32 15 false (.binOp .sub 3 (T 31) (.const (.int .i64 1)) 3),
 mg 33 15 false (.indexAddr 24 (T 30) (T 32)),
 mg 34 15 false (.fieldAddr 54 (T 33) 0),
 mg 35 15 false (.load 21 (T 34)),
 mg 36 15 false (.binOp .eql 21 (T 29) (T 35) 21),
 mg 37 15 false (.move (T 36)),
 mg 38 28 true (.move (T 0)),
 mg 39 28 true (.move (T 3)),
 mg 40 28 true (.indexAddr 24 (T 38) (T 39)),
 mg 41 28 true (.fieldAddr 54 (T 40) 1),
 mg 42 28 true (.load 2 (T 41)),
 mg 43 28 true (.move (T 0)),
 mg 44 28 true (.move (T 3)),
 mg 45 28 true (.binOp .sub 3 (T 44) (.const (.int .i64 1)) 3),
 mg 46 28 true (.indexAddr 24 (T 43) (T 45)),
 mg 47 28 true (.fieldAddr 54 (T 46) 1),
 mg 48 28 true (.load 2 (T 47)),
 mg 49 28 true (.binOp .leq 2 (T 42) (T 48) 2),
 mg 50 15 false (.pick (T 37) (T 49) (.const (.bool false))),
 mg 51 2 true (.pick (T 24) (.const (.bool true)) (T 50)),
 mo 52 (.pick (T 11) (T 51) (.const (.bool false)))]
def r48_0 : Code := .region 4 o48_0 true
theorem xr_48_0 {Q : DExit → St → Prop} {s : St} : xs Try.prog 54 r48_0 Q s = NC Try.prog 54 r48_0 Q s := rfl
theorem dr_48_0 {Q : DExit → St → Prop} {s : St} (h : XDraw Try.prog l48_0.toArray (befs o48_0.toList []) [] s.fr Q l48_0 0 s []) : NC Try.prog 54 r48_0 Q s :=
  NC.draw (by kernel_rfl) (by kernel_rfl) (by kernel_rfl) rfl (by kernel_rfl) (by kernel_rfl) h
attribute [go_sem] xr_48_0
def c48 : Code :=
 .seq (rg [mo 2 (.assign (.const (.bool false)))])
 (.seq (.seq (rg [mo 4 (.move (T 0)),
    mo 5 (.call ⟨(.builtin .len), #[(T 4)], #[24]⟩),
    mo 6 (.move (.const (.int .i64 0)))])
  (.block 0 (.loop (.seq (rg [mo 7 (.binOp .lss 3 (T 6) (T 5) 3)])
    (.seq (.cond (T 7) (.skip)
     (.exit 0))
    (.seq (.block 1 (.seq (rg [mo 8 (.move (T 6)),
        mo 3 (.assign (T 8))])
      (.seq (r48_0)
      (.cond (T 52) (.seq (rg [mo 2 (.assign (.const (.bool false)))])
       (.ret))
      (.skip)))))
    (rg [mo 53 (.binOp .add 3 (T 6) (.const (.int .i64 1)) 3),
     mo 6 (.move (T 53))])))))))
 (.seq (rg [mo 2 (.assign (.const (.bool true)))])
 (.ret)))
theorem body_48 : Try.f48.body.map strip = some c48 := by kernel_rfl
theorem go_48 {args : List Value} {h : DHeap} {R : DEnd → DHeap → Prop} (ha : args.length ≤ 54) (hx : xs Try.prog 54 c48 (XPost Try.prog [(.tmp 2)] R) ⟨argsFr args 54, [], h, none⟩) : Ct Try.prog 48 args h R :=
  Ct_xs (show Try.prog.funcs[48]? = some Try.f48 by kernel_rfl) body_48 (by kernel_rfl) (by kernel_rfl) ha (by kernel_rfl) hx
/-! trivet/code.Decode -/
def c49 : Code :=
 .seq (rg [mo 2 (.alloc 91),
   mo 3 (.alloc 31)])
 (.seq (.seq (rg [mo 9 (.move (T 0)),
    mo 10 (.call ⟨(.builtin .len), #[(T 9)], #[22]⟩),
    mo 11 (.binOp .gtr 3 (T 10) (.const (.int .i64 512)) 3)])
  (.cond (T 11) (.seq (rg [mx (.store 91 (T 2) (.const (.slice none 0 0))),
     mx (.store 31 (T 3) (.const (.int .i64 3)))])
   (.ret))
  (.skip)))
 (.seq (rg [mo 12 (.makeFunc (.func 59) #[] #[(T 2), (T 3)]),
   mx (.defer ⟨(.value (T 12)), #[], #[]⟩)])
 (.seq (rg [mo 13 (.move (T 0)),
   mo 14 (.call ⟨(.value (.func 61)), #[(T 13)], #[22]⟩),
   mx (.store 91 (T 2) (T 14))])
 (.seq (rg [mo 15 (.makeMap 105 none),
   mo 4 (.assign (T 15))])
 (.seq (.seq (rg [mo 16 (.load 91 (T 2)),
    mo 17 (.call ⟨(.builtin .len), #[(T 16)], #[91]⟩),
    mo 18 (.move (.const (.int .i64 0)))])
  (.block 0 (.loop (.seq (rg [mo 19 (.binOp .lss 3 (T 18) (T 17) 3)])
    (.seq (.cond (T 19) (.skip)
     (.exit 0))
    (.seq (.block 1 (.seq (rg [mo 20 (.indexAddr 91 (T 16) (T 18)),
        mo 21 (.load 95 (T 20)),
        mo 6 (.alloc 95),
        mx (.store 95 (T 6) (T 21))])
      (rg [mo 22 (.move (T 4)),
       mo 23 (.fieldAddr 95 (T 6) 0),
       mo 24 (.load 3 (T 23)),
       mx (.mapUpdate 105 (T 22) (T 24) (.const (.bool true)))])))
    (rg [mo 25 (.binOp .add 3 (T 18) (.const (.int .i64 1)) 3),
     mo 18 (.move (T 25))])))))))
 (.seq (.seq (rg [mo 26 (.load 91 (T 2)),
    mo 27 (.call ⟨(.builtin .len), #[(T 26)], #[91]⟩),
    mo 28 (.move (.const (.int .i64 0)))])
  (.block 2 (.loop (.seq (rg [mo 29 (.binOp .lss 3 (T 28) (T 27) 3)])
    (.seq (.cond (T 29) (.skip)
     (.exit 2))
    (.seq (.block 3 (.seq (rg [mo 30 (.indexAddr 91 (T 26) (T 28)),
        mo 31 (.load 95 (T 30)),
        mo 8 (.alloc 95),
        mx (.store 95 (T 8) (T 31))])
      (.seq (rg [mo 32 (.load 95 (T 8)),
        mo 33 (.call ⟨(.value (.func 62)), #[(T 32)], #[95]⟩),
        mo 34 (.move (T 33)),
        mg 35 2 true (.move (T 4)),
        mg 36 2 true (.fieldAddr 95 (T 8) 4),
        mg 37 2 true (.load 2 (T 36)),
        mg 38 2 true (.lookup 105 (T 35) (T 37) false),
        mg 39 2 true (.unOp .not 4 (T 38)),
        mo 40 (.pick (T 34) (T 39) (.const (.bool false)))])
      (.cond (T 40) (rg [mo 41 (.call ⟨(.value (.func 63)), #[(.const (.int .i64 131))], #[31]⟩)])
      (.skip)))))
    (rg [mo 42 (.binOp .add 3 (T 28) (.const (.int .i64 1)) 3),
     mo 28 (.move (T 42))])))))))
 (.seq (rg [mo 43 (.load 91 (T 2)),
   mx (.store 91 (T 2) (T 43)),
   mx (.store 31 (T 3) (.const (.int .i64 0)))])
 (.ret))))))))
theorem body_49 : Try.f49.body.map strip = some c49 := by kernel_rfl
theorem go_49 {args : List Value} {h : DHeap} {R : DEnd → DHeap → Prop} (ha : args.length ≤ 44) (hx : xs Try.prog 44 c49 (XPost Try.prog [(.cell 2 91), (.cell 3 31)] R) ⟨argsFr args 44, [], h, none⟩) : Ct Try.prog 49 args h R :=
  Ct_xs (show Try.prog.funcs[49]? = some Try.f49 by kernel_rfl) body_49 (by kernel_rfl) (by kernel_rfl) ha (by kernel_rfl) hx
/-! slices.Clone[[]byte,byte] -/
def c50 : Code :=
 .seq (rg [mo 2 (.assign (.const (.slice none 0 0)))])
 (.seq (.seq (rg [mo 3 (.move (T 0)),
    mo 4 (.binOp .eql 22 (T 3) (.const (.slice none 0 0)) 22)])
  (.cond (T 4) (.seq (rg [mo 2 (.assign (.const (.slice none 0 0)))])
   (.ret))
  (.skip)))
 (.seq (rg [mo 5 (.buildSlice 22 0 #[]),
   mo 6 (.move (T 0)),
   mo 7 (.call ⟨(.builtin .append), #[(T 5), (T 6)], #[22, 22]⟩),
   mo 2 (.assign (T 7))])
 (.ret)))
theorem body_50 : Try.f50.body.map strip = some c50 := by kernel_rfl
theorem go_50 {args : List Value} {h : DHeap} {R : DEnd → DHeap → Prop} (ha : args.length ≤ 8) (hx : xs Try.prog 8 c50 (XPost Try.prog [(.tmp 2)] R) ⟨argsFr args 8, [], h, none⟩) : Ct Try.prog 50 args h R :=
  Ct_xs (show Try.prog.funcs[50]? = some Try.f50 by kernel_rfl) body_50 (by kernel_rfl) (by kernel_rfl) ha (by kernel_rfl) hx
/-! slices.Clone[[]trivet/api.Key,trivet/api.Key] -/
def c51 : Code :=
 .seq (rg [mo 2 (.assign (.const (.slice none 0 0)))])
 (.seq (.seq (rg [mo 3 (.move (T 0)),
    mo 4 (.binOp .eql 24 (T 3) (.const (.slice none 0 0)) 24)])
  (.cond (T 4) (.seq (rg [mo 2 (.assign (.const (.slice none 0 0)))])
   (.ret))
  (.skip)))
 (.seq (rg [mo 5 (.buildSlice 24 0 #[]),
   mo 6 (.move (T 0)),
   mo 7 (.call ⟨(.builtin .append), #[(T 5), (T 6)], #[24, 24]⟩),
   mo 2 (.assign (T 7))])
 (.ret)))
theorem body_51 : Try.f51.body.map strip = some c51 := by kernel_rfl
theorem go_51 {args : List Value} {h : DHeap} {R : DEnd → DHeap → Prop} (ha : args.length ≤ 8) (hx : xs Try.prog 8 c51 (XPost Try.prog [(.tmp 2)] R) ⟨argsFr args 8, [], h, none⟩) : Ct Try.prog 51 args h R :=
  Ct_xs (show Try.prog.funcs[51]? = some Try.f51 by kernel_rfl) body_51 (by kernel_rfl) (by kernel_rfl) ha (by kernel_rfl) hx
/-! slices.SortFunc[[]trivet/api.Key,trivet/api.Key] -/
def c52 : Code :=
 .seq (rg [mo 5 (.move (T 0)),
   mo 6 (.call ⟨(.builtin .len), #[(T 5)], #[24]⟩),
   mo 4 (.assign (T 6))])
 (rg [mo 7 (.move (T 0)),
  mo 8 (.move (T 4)),
  mo 9 (.move (T 4)),
  mo 10 (.convert 3 110 (T 9)),
  mo 11 (.call ⟨(.value (.func 65)), #[(T 10)], #[110]⟩),
  mo 12 (.move (T 1)),
  mo 13 (.call ⟨(.value (.func 64)), #[(T 7), (.const (.int .i64 0)), (T 8), (T 11), (T 12)], #[24, 3, 3, 3, 101]⟩)])
theorem body_52 : Try.f52.body.map strip = some c52 := by kernel_rfl
theorem go_52 {args : List Value} {h : DHeap} {R : DEnd → DHeap → Prop} (ha : args.length ≤ 14) (hx : xs Try.prog 14 c52 (XPost Try.prog [] R) ⟨argsFr args 14, [], h, none⟩) : Ct Try.prog 52 args h R :=
  Ct_xs (show Try.prog.funcs[52]? = some Try.f52 by kernel_rfl) body_52 (by kernel_rfl) (by kernel_rfl) ha (by kernel_rfl) hx
/-! trivet/shard.Compare -/
def o53_0 : Array Oper := #[⟨(some 5), (.fieldAddr 54 (T 2) 0), 0, "shard.go:14", #[], none⟩,
 ⟨(some 6), (.load 21 (T 5)), 21, "shard.go:14", #[⟨0, .data⟩], none⟩,
 ⟨(some 7), (.fieldAddr 54 (T 3) 0), 0, "shard.go:14", #[], none⟩,
 ⟨(some 8), (.load 21 (T 7)), 21, "shard.go:14", #[⟨2, .data⟩], none⟩,
 ⟨(some 9), (.call ⟨(.value (.func 67)), #[(T 6), (T 8)], #[21, 21]⟩), 3, "shard.go:14", #[⟨1, .data⟩, ⟨3, .data⟩], none⟩,
 ⟨(some 10), (.fieldAddr 54 (T 2) 1), 0, "shard.go:14", #[], none⟩,
 ⟨(some 11), (.load 2 (T 10)), 2, "shard.go:14", #[⟨5, .data⟩], none⟩,
 ⟨(some 12), (.fieldAddr 54 (T 3) 1), 0, "shard.go:14", #[], none⟩,
 ⟨(some 13), (.load 2 (T 12)), 2, "shard.go:14", #[⟨7, .data⟩], none⟩,
 ⟨(some 14), (.call ⟨(.value (.func 68)), #[(T 11), (T 13)], #[2, 2]⟩), 3, "shard.go:14", #[⟨6, .data⟩, ⟨8, .data⟩, ⟨4, .chain⟩], none⟩,
 ⟨(some 15), (.buildSlice 131 2 #[(0, (T 9)), (1, (T 14))]), 131, "shard.go:14", #[⟨4, .data⟩, ⟨9, .data⟩], none⟩,
 ⟨(some 16), (.call ⟨(.value (.func 66)), #[(T 15)], #[131]⟩), 3, "shard.go:14", #[⟨10, .data⟩, ⟨9, .chain⟩], none⟩,
 ⟨(some 4), (.assign (T 16)), 3, "shard.go:14", #[⟨11, .data⟩, ⟨11, .chain⟩, ⟨0, .phase⟩, ⟨1, .phase⟩, ⟨2, .phase⟩, ⟨3, .phase⟩, ⟨4, .phase⟩, ⟨5, .phase⟩, ⟨6, .phase⟩, ⟨7, .phase⟩, ⟨8, .phase⟩, ⟨9, .phase⟩, ⟨10, .phase⟩, ⟨11, .phase⟩], none⟩]
def l53_0 : List Oper := [mo 5 (.fieldAddr 54 (T 2) 0),
 mo 6 (.load 21 (T 5)),
 mo 7 (.fieldAddr 54 (T 3) 0),
 mo 8 (.load 21 (T 7)),
 mo 9 (.call ⟨(.value (.func 67)), #[(T 6), (T 8)], #[21, 21]⟩),
 mo 10 (.fieldAddr 54 (T 2) 1),
 mo 11 (.load 2 (T 10)),
 mo 12 (.fieldAddr 54 (T 3) 1),
 mo 13 (.load 2 (T 12)),
 mo 14 (.call ⟨(.value (.func 68)), #[(T 11), (T 13)], #[2, 2]⟩),
 mo 15 (.buildSlice 131 2 #[(0, (T 9)), (1, (T 14))]),
 mo 16 (.call ⟨(.value (.func 66)), #[(T 15)], #[131]⟩),
 mo 4 (.assign (T 16))]
def r53_0 : Code := .region 1 o53_0 true
theorem xr_53_0 {Q : DExit → St → Prop} {s : St} : xs Try.prog 17 r53_0 Q s = NC Try.prog 17 r53_0 Q s := rfl
theorem dr_53_0 {Q : DExit → St → Prop} {s : St} (h : XDraw Try.prog l53_0.toArray (befs o53_0.toList []) [(6, 4), (8, 4)] s.fr Q l53_0 0 s []) : NC Try.prog 17 r53_0 Q s :=
  NC.draw (by kernel_rfl) (by kernel_rfl) (by kernel_rfl) rfl (by kernel_rfl) (by kernel_rfl) h
attribute [go_sem] xr_53_0
def c53 : Code :=
 .seq (rg [mo 2 (.box 54 (T 0)),
   mo 3 (.box 54 (T 1)),
   mo 4 (.assign (.const (.int .i64 0)))])
 (.seq (r53_0)
 (.ret))
theorem body_53 : Try.f53.body.map strip = some c53 := by kernel_rfl
theorem go_53 {args : List Value} {h : DHeap} {R : DEnd → DHeap → Prop} (ha : args.length ≤ 17) (hx : xs Try.prog 17 c53 (XPost Try.prog [(.tmp 4)] R) ⟨argsFr args 17, [], h, none⟩) : Ct Try.prog 53 args h R :=
  Ct_xs (show Try.prog.funcs[53]? = some Try.f53 by kernel_rfl) body_53 (by kernel_rfl) (by kernel_rfl) ha (by kernel_rfl) hx
/-! slices.Compact[[]trivet/api.Key,trivet/api.Key] -/
def o54_0 : Array Oper := #[⟨(some 16), (.move (T 0)), 24, "slices.go:376", #[], none⟩,
 ⟨(some 17), (.move (T 3)), 3, "slices.go:376", #[], none⟩,
 ⟨(some 18), (.indexAddr 24 (T 16) (T 17)), 0, "slices.go:376", #[⟨0, .data⟩, ⟨1, .data⟩], none⟩,
 ⟨(some 19), (.load 54 (T 18)), 54, "slices.go:376", #[⟨2, .data⟩], none⟩,
 ⟨(some 20), (.move (T 0)), 24, "slices.go:376", #[], none⟩,
 ⟨(some 21), (.move (T 3)), 3, "slices.go:376", #[], none⟩,
 ⟨(some 22), (.binOp .sub 3 (T 21) (.const (.int .i64 1)) 3), 3, "slices.go:376", #[⟨5, .data⟩], none⟩,
 ⟨(some 23), (.indexAddr 24 (T 20) (T 22)), 0, "slices.go:376", #[⟨4, .data⟩, ⟨6, .data⟩], none⟩,
 ⟨(some 24), (.load 54 (T 23)), 54, "slices.go:376", #[⟨7, .data⟩], none⟩,
 ⟨(some 25), (.binOp .eql 54 (T 19) (T 24) 54), 4, "slices.go:376", #[⟨3, .data⟩, ⟨8, .data⟩], none⟩]
def l54_0 : List Oper := [mo 16 (.move (T 0)),
 mo 17 (.move (T 3)),
 mo 18 (.indexAddr 24 (T 16) (T 17)),
 mo 19 (.load 54 (T 18)),
 mo 20 (.move (T 0)),
 mo 21 (.move (T 3)),
 mo 22 (.binOp .sub 3 (T 21) (.const (.int .i64 1)) 3),
 mo 23 (.indexAddr 24 (T 20) (T 22)),
 mo 24 (.load 54 (T 23)),
 mo 25 (.binOp .eql 54 (T 19) (T 24) 54)]
def r54_0 : Code := .region 6 o54_0 true
theorem xr_54_0 {Q : DExit → St → Prop} {s : St} : xs Try.prog 61 r54_0 Q s = NC Try.prog 61 r54_0 Q s := rfl
theorem dr_54_0 {Q : DExit → St → Prop} {s : St} (h : XDraw Try.prog l54_0.toArray (befs o54_0.toList []) [] s.fr Q l54_0 0 s []) : NC Try.prog 61 r54_0 Q s :=
  NC.draw (by kernel_rfl) (by kernel_rfl) (by kernel_rfl) rfl (by kernel_rfl) (by kernel_rfl) h
attribute [go_sem] xr_54_0
def o54_1 : Array Oper := #[⟨(some 35), (.move (T 4)), 24, "slices.go:379", #[], none⟩,
 ⟨(some 36), (.move (T 5)), 3, "slices.go:379", #[], none⟩,
 ⟨(some 37), (.indexAddr 24 (T 35) (T 36)), 0, "slices.go:379", #[⟨0, .data⟩, ⟨1, .data⟩], none⟩,
 ⟨(some 38), (.load 54 (T 37)), 54, "slices.go:379", #[⟨2, .data⟩], none⟩,
 ⟨(some 39), (.move (T 4)), 24, "slices.go:379", #[], none⟩,
 ⟨(some 40), (.move (T 5)), 3, "slices.go:379", #[], none⟩,
 ⟨(some 41), (.binOp .sub 3 (T 40) (.const (.int .i64 1)) 3), 3, "slices.go:379", #[⟨5, .data⟩], none⟩,
 ⟨(some 42), (.indexAddr 24 (T 39) (T 41)), 0, "slices.go:379", #[⟨4, .data⟩, ⟨6, .data⟩], none⟩,
 ⟨(some 43), (.load 54 (T 42)), 54, "slices.go:379", #[⟨7, .data⟩], none⟩,
 ⟨(some 44), (.binOp .neq 54 (T 38) (T 43) 54), 4, "slices.go:379", #[⟨3, .data⟩, ⟨8, .data⟩], none⟩]
def l54_1 : List Oper := [mo 35 (.move (T 4)),
 mo 36 (.move (T 5)),
 mo 37 (.indexAddr 24 (T 35) (T 36)),
 mo 38 (.load 54 (T 37)),
 mo 39 (.move (T 4)),
 mo 40 (.move (T 5)),
 mo 41 (.binOp .sub 3 (T 40) (.const (.int .i64 1)) 3),
 mo 42 (.indexAddr 24 (T 39) (T 41)),
 mo 43 (.load 54 (T 42)),
 mo 44 (.binOp .neq 54 (T 38) (T 43) 54)]
def r54_1 : Code := .region 11 o54_1 true
theorem xr_54_1 {Q : DExit → St → Prop} {s : St} : xs Try.prog 61 r54_1 Q s = NC Try.prog 61 r54_1 Q s := rfl
theorem dr_54_1 {Q : DExit → St → Prop} {s : St} (h : XDraw Try.prog l54_1.toArray (befs o54_1.toList []) [] s.fr Q l54_1 0 s []) : NC Try.prog 61 r54_1 Q s :=
  NC.draw (by kernel_rfl) (by kernel_rfl) (by kernel_rfl) rfl (by kernel_rfl) (by kernel_rfl) h
attribute [go_sem] xr_54_1
def c54 : Code :=
 .seq (rg [mo 2 (.assign (.const (.slice none 0 0)))])
 (.seq (.seq (rg [mo 6 (.move (T 0)),
    mo 7 (.call ⟨(.builtin .len), #[(T 6)], #[24]⟩),
    mo 8 (.binOp .lss 3 (T 7) (.const (.int .i64 2)) 3)])
  (.cond (T 8) (.seq (rg [mo 9 (.move (T 0)),
     mo 2 (.assign (T 9))])
   (.ret))
  (.skip)))
 (.seq (.seq (rg [mo 3 (.assign (.const (.int .i64 1)))])
  (.block 0 (.loop (.seq (.seq (rg [mo 10 (.move (T 3)),
       mo 11 (.move (T 0)),
       mo 12 (.call ⟨(.builtin .len), #[(T 11)], #[24]⟩),
       mo 13 (.binOp .lss 3 (T 10) (T 12) 3)])
     (.cond (T 13) (.skip)
     (.exit 0)))
    (.seq (.block 1 (.seq (r54_0)
      (.cond (T 25) (.seq (rg [mo 26 (.move (T 0)),
         mo 27 (.move (T 3)),
         mo 28 (.slice 24 (T 26) (some (T 27)) none none),
         mo 4 (.assign (T 28))])
       (.seq (.seq (rg [mo 5 (.assign (.const (.int .i64 1)))])
        (.block 2 (.loop (.seq (.seq (rg [mo 29 (.move (T 5)),
             mo 30 (.move (T 4)),
             mo 31 (.call ⟨(.builtin .len), #[(T 30)], #[24]⟩),
             mo 32 (.binOp .lss 3 (T 29) (T 31) 3)])
           (.cond (T 32) (.skip)
           (.exit 2)))
          (.seq (.block 3 (.seq (r54_1)
            (.cond (T 44) (.seq (rg [mo 45 (.move (T 0)),
               mo 46 (.move (T 3)),
               mo 47 (.move (T 4)),
               mo 48 (.move (T 5)),
               mo 49 (.indexAddr 24 (T 47) (T 48)),
               mo 50 (.load 54 (T 49)),
               mo 51 (.indexAddr 24 (T 45) (T 46)),
               mx (.store 54 (T 51) (T 50))])
             (rg [mo 52 (.move (T 3)),
              mo 53 (.binOp .add 3 (T 52) (.const (.int .i64 1)) 3),
              mo 3 (.assign (T 53))]))
            (.skip))))
          (rg [mo 33 (.move (T 5)),
           mo 34 (.binOp .add 3 (T 33) (.const (.int .i64 1)) 3),
           mo 5 (.assign (T 34))]))))))
       (.seq (rg [mo 54 (.move (T 0)),
         mo 55 (.move (T 3)),
         mo 56 (.slice 24 (T 54) (some (T 55)) none none),
         mx (.call ⟨(.builtin .clear), #[(T 56)], #[24]⟩)])
       (.seq (rg [mo 57 (.move (T 0)),
         mo 58 (.move (T 3)),
         mo 59 (.slice 24 (T 57) none (some (T 58)) none),
         mo 2 (.assign (T 59))])
       (.ret)))))
      (.skip))))
    (rg [mo 14 (.move (T 3)),
     mo 15 (.binOp .add 3 (T 14) (.const (.int .i64 1)) 3),
     mo 3 (.assign (T 15))]))))))
 (.seq (rg [mo 60 (.move (T 0)),
   mo 2 (.assign (T 60))])
 (.ret))))
theorem body_54 : Try.f54.body.map strip = some c54 := by kernel_rfl
theorem go_54 {args : List Value} {h : DHeap} {R : DEnd → DHeap → Prop} (ha : args.length ≤ 61) (hx : xs Try.prog 61 c54 (XPost Try.prog [(.tmp 2)] R) ⟨argsFr args 61, [], h, none⟩) : Ct Try.prog 54 args h R :=
  Ct_xs (show Try.prog.funcs[54]? = some Try.f54 by kernel_rfl) body_54 (by kernel_rfl) (by kernel_rfl) ha (by kernel_rfl) hx
/-! trivet/trivetref11.Compare -/
def c55 : Code :=
 .seq (rg [mo 2 (.box 54 (T 0)),
   mo 3 (.box 54 (T 1)),
   mo 4 (.assign (.const (.int .i64 0)))])
 (.seq (.seq (rg [mo 5 (.fieldAddr 54 (T 2) 0),
    mo 6 (.load 21 (T 5)),
    mo 7 (.fieldAddr 54 (T 3) 0),
    mo 8 (.load 21 (T 7)),
    mo 9 (.binOp .lss 21 (T 6) (T 8) 21),
    mo 10 (.move (T 9)),
    mg 11 5 false (.fieldAddr 54 (T 2) 0),
    mg 12 5 false (.load 21 (T 11)),
    mg 13 5 false (.fieldAddr 54 (T 3) 0),
    mg 14 5 false (.load 21 (T 13)),
    mg 15 5 false (.binOp .eql 21 (T 12) (T 14) 21),
    mg 16 5 false (.move (T 15)),
    mg 17 11 true (.fieldAddr 54 (T 2) 1),
    mg 18 11 true (.load 2 (T 17)),
    mg 19 11 true (.fieldAddr 54 (T 3) 1),
    mg 20 11 true (.load 2 (T 19)),
    mg 21 11 true (.binOp .lss 2 (T 18) (T 20) 2),
    mg 22 5 false (.pick (T 16) (T 21) (.const (.bool false))),
    mo 23 (.pick (T 10) (.const (.bool true)) (T 22))])
  (.cond (T 23) (.seq (rg [mo 4 (.assign (.const (.int .i64 (-1))))])
   (.ret))
  (.skip)))
 (.seq (.seq (rg [mo 24 (.load 54 (T 2)),
    mo 25 (.load 54 (T 3)),
    mo 26 (.binOp .eql 54 (T 24) (T 25) 54)])
  (.cond (T 26) (.seq (rg [mo 4 (.assign (.const (.int .i64 0)))])
   (.ret))
  (.skip)))
 (.seq (rg [mo 4 (.assign (.const (.int .i64 1)))])
 (.ret))))
theorem body_55 : Try.f55.body.map strip = some c55 := by kernel_rfl
theorem go_55 {args : List Value} {h : DHeap} {R : DEnd → DHeap → Prop} (ha : args.length ≤ 27) (hx : xs Try.prog 27 c55 (XPost Try.prog [(.tmp 4)] R) ⟨argsFr args 27, [], h, none⟩) : Ct Try.prog 55 args h R :=
  Ct_xs (show Try.prog.funcs[55]? = some Try.f55 by kernel_rfl) body_55 (by kernel_rfl) (by kernel_rfl) ha (by kernel_rfl) hx
/-! trivet/trivetref13.Walk -/
def c56 : Code :=
 .seq (rg [mo 2 (.assign (.const (.slice none 0 0))),
   mo 3 (.assign (.const (.int .i64 0)))])
 (.seq (rg [mo 4 (.assign (.const (.slice none 0 0)))])
 (.seq (.seq (rg [mo 5 (.assign (.const (.int .i64 0)))])
  (.block 0 (.loop (.seq (.seq (rg [mo 9 (.move (T 5)),
       mo 10 (.move (T 0)),
       mo 11 (.call ⟨(.builtin .len), #[(T 10)], #[22]⟩),
       mo 12 (.binOp .lss 3 (T 9) (T 11) 3)])
     (.cond (T 12) (.skip)
     (.exit 0)))
    (.block 1 (.seq (rg [mo 14 (.move (T 0)),
       mo 15 (.move (T 5)),
       mo 16 (.call ⟨(.value (.func 69)), #[(T 14), (T 15)], #[22, 3]⟩),
       mo 13 (.move (T 16)),
       mo 17 (.extract (T 13) 0),
       mo 18 (.extract (T 13) 1),
       mo 19 (.extract (T 13) 2),
       mo 6 (.alloc 95),
       mx (.store 95 (T 6) (T 17)),
       mo 7 (.assign (T 18)),
       mo 8 (.assign (T 19))])
     (.seq (.seq (rg [mo 20 (.move (T 8)),
        mo 21 (.binOp .neq 31 (T 20) (.const (.int .i64 0)) 31)])
      (.cond (T 21) (.seq (rg [mo 22 (.move (T 4)),
         mo 23 (.move (T 8)),
         mo 2 (.assign (T 22)),
         mo 3 (.assign (T 23))])
       (.ret))
      (.skip)))
     (.seq (rg [mo 24 (.move (T 4)),
       mo 25 (.load 95 (T 6)),
       mo 26 (.buildSlice 91 1 #[(0, (T 25))]),
       mo 27 (.call ⟨(.builtin .append), #[(T 24), (T 26)], #[91, 91]⟩),
       mo 4 (.assign (T 27))])
     (rg [mo 28 (.move (T 7)),
      mo 5 (.assign (T 28))])))))))))
 (.seq (rg [mo 29 (.move (T 4)),
   mo 2 (.assign (T 29)),
   mo 3 (.assign (.const (.int .i64 0)))])
 (.ret))))
theorem body_56 : Try.f56.body.map strip = some c56 := by kernel_rfl
theorem go_56 {args : List Value} {h : DHeap} {R : DEnd → DHeap → Prop} (ha : args.length ≤ 30) (hx : xs Try.prog 30 c56 (XPost Try.prog [(.tmp 2), (.tmp 3)] R) ⟨argsFr args 30, [], h, none⟩) : Ct Try.prog 56 args h R :=
  Ct_xs (show Try.prog.funcs[56]? = some Try.f56 by kernel_rfl) body_56 (by kernel_rfl) (by kernel_rfl) ha (by kernel_rfl) hx
/-! trivet/trivetref13.jumps -/
def c57 : Code :=
 .seq (rg [mo 2 (.assign (.const (.bool false)))])
 (.seq (rg [mo 3 (.move (T 0)),
   mo 4 (.binOp .eql 3 (T 3) (.const (.int .i64 22)) 3),
   mo 5 (.move (T 4)),
   mg 6 2 false (.move (T 0)),
   mg 7 2 false (.binOp .eql 3 (T 6) (.const (.int .i64 23)) 3),
   mo 8 (.pick (T 5) (.const (.bool true)) (T 7)),
   mo 2 (.assign (T 8))])
 (.ret))
theorem body_57 : Try.f57.body.map strip = some c57 := by kernel_rfl
theorem go_57 {args : List Value} {h : DHeap} {R : DEnd → DHeap → Prop} (ha : args.length ≤ 9) (hx : xs Try.prog 9 c57 (XPost Try.prog [(.tmp 2)] R) ⟨argsFr args 9, [], h, none⟩) : Ct Try.prog 57 args h R :=
  Ct_xs (show Try.prog.funcs[57]? = some Try.f57 by kernel_rfl) body_57 (by kernel_rfl) (by kernel_rfl) ha (by kernel_rfl) hx
/-! trivet/trivetref13.begins -/
def c58 : Code :=
 .seq (rg [mo 4 (.assign (.const (.bool false)))])
 (.seq (.seq (rg [mo 5 (.assign (.const (.int .i64 0)))])
  (.block 0 (.loop (.seq (.seq (rg [mo 6 (.move (T 5)),
       mo 7 (.move (T 0)),
       mo 8 (.call ⟨(.builtin .len), #[(T 7)], #[91]⟩),
       mo 9 (.binOp .lss 3 (T 6) (T 8) 3)])
     (.cond (T 9) (.skip)
     (.exit 0)))
    (.seq (.block 1 (.seq (rg [mo 12 (.move (T 0)),
        mo 13 (.move (T 5)),
        mo 14 (.indexAddr 91 (T 12) (T 13)),
        mo 15 (.fieldAddr 95 (T 14) 0),
        mo 16 (.load 3 (T 15)),
        mo 17 (.move (T 1)),
        mo 18 (.binOp .eql 2 (T 16) (T 17) 2)])
      (.cond (T 18) (.seq (rg [mo 4 (.assign (.const (.bool true)))])
       (.ret))
      (.skip))))
    (rg [mo 10 (.move (T 5)),
     mo 11 (.binOp .add 3 (T 10) (.const (.int .i64 1)) 3),
     mo 5 (.assign (T 11))]))))))
 (.seq (rg [mo 4 (.assign (.const (.bool false)))])
 (.ret)))
theorem body_58 : Try.f58.body.map strip = some c58 := by kernel_rfl
theorem go_58 {args : List Value} {h : DHeap} {R : DEnd → DHeap → Prop} (ha : args.length ≤ 19) (hx : xs Try.prog 19 c58 (XPost Try.prog [(.tmp 4)] R) ⟨argsFr args 19, [], h, none⟩) : Ct Try.prog 58 args h R :=
  Ct_xs (show Try.prog.funcs[58]? = some Try.f58 by kernel_rfl) body_58 (by kernel_rfl) (by kernel_rfl) ha (by kernel_rfl) hx
/-! trivet/code.Decode$1 -/
def c59 : Code :=
 .seq (rg [mo 3 (.call ⟨(.builtin .recover), #[], #[]⟩),
   mo 2 (.assign (T 3))])
 (.seq (rg [mo 4 (.move (T 2)),
   mo 5 (.binOp .neq 20 (T 4) (.const .nilIface) 20)])
 (.cond (T 5) (rg [mo 6 (.move (T 2)),
   mo 7 (.call ⟨(.value (.func 60)), #[(T 6)], #[20]⟩),
   mx (.store 91 (T 0) (.const (.slice none 0 0))),
   mx (.store 31 (T 1) (T 7))])
 (.skip)))
theorem body_59 : Try.f59.body.map strip = some c59 := by kernel_rfl
/-! trivet/code.caught -/
def c60 : Code :=
 .seq (rg [mo 2 (.assign (.const (.int .i64 0)))])
 (.seq (rg [mo 6 (.move (T 0)),
   mo 7 (.typeAssert (T 6) 20 117 true),
   mo 5 (.move (T 7)),
   mo 8 (.extract (T 5) 0),
   mo 9 (.extract (T 5) 1),
   mo 3 (.alloc 117),
   mx (.store 117 (T 3) (T 8)),
   mo 4 (.assign (T 9))])
 (.seq (.seq (rg [mo 10 (.move (T 4)),
    mo 11 (.unOp .not 4 (T 10))])
  (.cond (T 11) (rg [mo 12 (.move (T 0)),
    mx (.panic (T 12))])
  (.skip)))
 (.seq (rg [mo 13 (.fieldAddr 117 (T 3) 0),
   mo 14 (.load 31 (T 13)),
   mo 2 (.assign (T 14))])
 (.ret))))
theorem body_60 : Try.f60.body.map strip = some c60 := by kernel_rfl
theorem go_60 {args : List Value} {h : DHeap} {R : DEnd → DHeap → Prop} (ha : args.length ≤ 15) (hx : xs Try.prog 15 c60 (XPost Try.prog [(.tmp 2)] R) ⟨argsFr args 15, [], h, none⟩) : Ct Try.prog 60 args h R :=
  Ct_xs (show Try.prog.funcs[60]? = some Try.f60 by kernel_rfl) body_60 (by kernel_rfl) (by kernel_rfl) ha (by kernel_rfl) hx
/-! trivet/code.all -/
def c61 : Code :=
 .seq (rg [mo 2 (.assign (.const (.slice none 0 0)))])
 (.seq (rg [mo 3 (.assign (.const (.slice none 0 0)))])
 (.seq (.seq (rg [mo 4 (.assign (.const (.int .i64 0)))])
  (.block 0 (.loop (.seq (.seq (rg [mo 8 (.move (T 4)),
       mo 9 (.move (T 0)),
       mo 10 (.call ⟨(.builtin .len), #[(T 9)], #[22]⟩),
       mo 11 (.binOp .lss 3 (T 8) (T 10) 3)])
     (.cond (T 11) (.skip)
     (.exit 0)))
    (.block 1 (.seq (rg [mo 13 (.move (T 0)),
       mo 14 (.move (T 4)),
       mo 15 (.call ⟨(.value (.func 70)), #[(T 13), (T 14)], #[22, 3]⟩),
       mo 12 (.move (T 15)),
       mo 16 (.extract (T 12) 0),
       mo 17 (.extract (T 12) 1),
       mo 18 (.extract (T 12) 2),
       mo 5 (.alloc 95),
       mx (.store 95 (T 5) (T 16)),
       mo 6 (.assign (T 17)),
       mo 7 (.assign (T 18))])
     (.seq (rg [mo 19 (.move (T 7)),
       mo 20 (.call ⟨(.value (.func 63)), #[(T 19)], #[31]⟩)])
     (.seq (rg [mo 21 (.move (T 3)),
       mo 22 (.load 95 (T 5)),
       mo 23 (.buildSlice 91 1 #[(0, (T 22))]),
       mo 24 (.call ⟨(.builtin .append), #[(T 21), (T 23)], #[91, 91]⟩),
       mo 3 (.assign (T 24))])
     (rg [mo 25 (.move (T 6)),
      mo 4 (.assign (T 25))])))))))))
 (.seq (rg [mo 26 (.move (T 3)),
   mo 2 (.assign (T 26))])
 (.ret))))
theorem body_61 : Try.f61.body.map strip = some c61 := by kernel_rfl
theorem go_61 {args : List Value} {h : DHeap} {R : DEnd → DHeap → Prop} (ha : args.length ≤ 27) (hx : xs Try.prog 27 c61 (XPost Try.prog [(.tmp 2)] R) ⟨argsFr args 27, [], h, none⟩) : Ct Try.prog 61 args h R :=
  Ct_xs (show Try.prog.funcs[61]? = some Try.f61 by kernel_rfl) body_61 (by kernel_rfl) (by kernel_rfl) ha (by kernel_rfl) hx
/-! trivet/code.jumps -/
def c62 : Code :=
 .seq (rg [mo 1 (.box 95 (T 0)),
   mo 2 (.assign (.const (.bool false)))])
 (.seq (rg [mo 3 (.fieldAddr 95 (T 1) 1),
   mo 4 (.load 3 (T 3)),
   mo 5 (.binOp .eql 3 (T 4) (.const (.int .i64 22)) 3),
   mo 6 (.move (T 5)),
   mg 7 3 false (.fieldAddr 95 (T 1) 1),
   mg 8 3 false (.load 3 (T 7)),
   mg 9 3 false (.binOp .eql 3 (T 8) (.const (.int .i64 23)) 3),
   mo 10 (.pick (T 6) (.const (.bool true)) (T 9)),
   mo 2 (.assign (T 10))])
 (.ret))
theorem body_62 : Try.f62.body.map strip = some c62 := by kernel_rfl
theorem go_62 {args : List Value} {h : DHeap} {R : DEnd → DHeap → Prop} (ha : args.length ≤ 11) (hx : xs Try.prog 11 c62 (XPost Try.prog [(.tmp 2)] R) ⟨argsFr args 11, [], h, none⟩) : Ct Try.prog 62 args h R :=
  Ct_xs (show Try.prog.funcs[62]? = some Try.f62 by kernel_rfl) body_62 (by kernel_rfl) (by kernel_rfl) ha (by kernel_rfl) hx
end Go.Proofs.Ytbdljpndncohaaa

namespace Go.Proofs.Ytbdljpndncohaaa
open Go.D
set_option maxRecDepth 100000
/-! trivet/code.must -/
def c63 : Code :=
 .seq (rg [mo 2 (.move (T 0)),
   mo 3 (.binOp .neq 31 (T 2) (.const (.int .i64 0)) 31)])
 (.cond (T 3) (rg [mo 4 (.move (T 0)),
   mo 5 (.build 117 #[(0, (T 4))]),
   mo 6 (.makeInterface 117 (T 5)),
   mx (.panic (T 6))])
 (.skip))
theorem body_63 : Try.f63.body.map strip = some c63 := by kernel_rfl
theorem go_63 {args : List Value} {h : DHeap} {R : DEnd → DHeap → Prop} (ha : args.length ≤ 7) (hx : xs Try.prog 7 c63 (XPost Try.prog [] R) ⟨argsFr args 7, [], h, none⟩) : Ct Try.prog 63 args h R :=
  Ct_xs (show Try.prog.funcs[63]? = some Try.f63 by kernel_rfl) body_63 (by kernel_rfl) (by kernel_rfl) ha (by kernel_rfl) hx
/-! slices.pdqsortCmpFunc[trivet/api.Key] -/
def o64_0 : Array Oper := #[⟨(some 81), (.move (T 1)), 3, "zsortanyfunc.go:108", #[], none⟩,
 ⟨(some 82), (.binOp .gtr 3 (T 81) (.const (.int .i64 0)) 3), 4, "zsortanyfunc.go:108", #[⟨0, .data⟩], none⟩,
 ⟨(some 83), (.move (T 82)), 4, "zsortanyfunc.go:108", #[⟨1, .data⟩], none⟩,
 ⟨(some 84), (.move (T 4)), 101, "zsortanyfunc.go:108", #[⟨2, .guard⟩], (some (2, true))⟩,
 ⟨(some 85), (.move (T 0)), 24, "zsortanyfunc.go:108", #[⟨2, .guard⟩], (some (2, true))⟩,
 ⟨(some 86), (.move (T 1)), 3, "zsortanyfunc.go:108", #[⟨2, .guard⟩], (some (2, true))⟩,
 ⟨(some 87), (.binOp .sub 3 (T 86) (.const (.int .i64 1)) 3), 3, "zsortanyfunc.go:108", #[⟨5, .data⟩, ⟨2, .guard⟩], (some (2, true))⟩,
 ⟨(some 88), (.indexAddr 24 (T 85) (T 87)), 0, "zsortanyfunc.go:108", #[⟨4, .data⟩, ⟨6, .data⟩, ⟨2, .guard⟩], (some (2, true))⟩,
 ⟨(some 89), (.load 54 (T 88)), 54, "zsortanyfunc.go:108", #[⟨7, .data⟩, ⟨2, .guard⟩], (some (2, true))⟩,
 ⟨(some 90), (.move (T 0)), 24, "zsortanyfunc.go:108", #[⟨2, .guard⟩], (some (2, true))⟩,
 ⟨(some 91), (.move (T 13)), 3, "zsortanyfunc.go:108", #[⟨2, .guard⟩], (some (2, true))⟩,
 ⟨(some 92), (.indexAddr 24 (T 90) (T 91)), 0, "zsortanyfunc.go:108", #[⟨9, .data⟩, ⟨10, .data⟩, ⟨2, .guard⟩], (some (2, true))⟩,
 ⟨(some 93), (.load 54 (T 92)), 54, "zsortanyfunc.go:108", #[⟨11, .data⟩, ⟨2, .guard⟩], (some (2, true))⟩,
 ⟨(some 94), (.call ⟨(.value (T 84)), #[(T 89), (T 93)], #[54, 54]⟩), 3, "zsortanyfunc.go:108", #[⟨3, .data⟩, ⟨8, .data⟩, ⟨12, .data⟩, ⟨2, .chain⟩, ⟨2, .guard⟩], (some (2, true))⟩,
 ⟨(some 95), (.binOp .lss 3 (T 94) (.const (.int .i64 0)) 3), 4, "zsortanyfunc.go:108", #[⟨13, .data⟩, ⟨2, .guard⟩], (some (2, true))⟩,
 ⟨(some 96), (.unOp .not 4 (T 95)), 4, "zsortanyfunc.go:108", #[⟨14, .data⟩, ⟨2, .guard⟩], (some (2, true))⟩,
 ⟨(some 97), (.pick (T 83) (T 96) (.const (.bool false))), 4, "zsortanyfunc.go:108", #[⟨2, .data⟩, ⟨15, .data⟩], none⟩]
def r64_0 : Code := .region 17 o64_0 true
def c64 : Code :=
 .seq (rg [mo 10 (.assign (.const (.bool true)))])
 (.seq (rg [mo 11 (.assign (.const (.bool true)))])
 (.block 0 (.loop (.block 1 (.seq (rg [mo 21 (.move (T 2)),
      mo 22 (.move (T 1)),
      mo 23 (.binOp .sub 3 (T 21) (T 22) 3),
      mo 12 (.assign (T 23))])
    (.seq (.seq (rg [mo 24 (.move (T 12)),
       mo 25 (.binOp .leq 3 (T 24) (.const (.int .i64 12)) 3)])
     (.cond (T 25) (.seq (rg [mo 26 (.move (T 0)),
        mo 27 (.move (T 1)),
        mo 28 (.move (T 2)),
        mo 29 (.move (T 4)),
        mo 30 (.call ⟨(.value (.func 71)), #[(T 26), (T 27), (T 28), (T 29)], #[24, 3, 3, 101]⟩)])
      (.ret))
     (.skip)))
    (.seq (.seq (rg [mo 31 (.move (T 3)),
       mo 32 (.binOp .eql 3 (T 31) (.const (.int .i64 0)) 3)])
     (.cond (T 32) (.seq (rg [mo 33 (.move (T 0)),
        mo 34 (.move (T 1)),
        mo 35 (.move (T 2)),
        mo 36 (.move (T 4)),
        mo 37 (.call ⟨(.value (.func 72)), #[(T 33), (T 34), (T 35), (T 36)], #[24, 3, 3, 101]⟩)])
      (.ret))
     (.skip)))
    (.seq (.seq (rg [mo 38 (.move (T 10)),
       mo 39 (.unOp .not 4 (T 38))])
     (.cond (T 39) (.seq (rg [mo 40 (.move (T 0)),
        mo 41 (.move (T 1)),
        mo 42 (.move (T 2)),
        mo 43 (.move (T 4)),
        mo 44 (.call ⟨(.value (.func 73)), #[(T 40), (T 41), (T 42), (T 43)], #[24, 3, 3, 101]⟩)])
      (rg [mo 45 (.move (T 3)),
       mo 46 (.binOp .sub 3 (T 45) (.const (.int .i64 1)) 3),
       mo 3 (.assign (T 46))]))
     (.skip)))
    (.seq (rg [mo 48 (.move (T 0)),
      mo 49 (.move (T 1)),
      mo 50 (.move (T 2)),
      mo 51 (.move (T 4)),
      mo 52 (.call ⟨(.value (.func 74)), #[(T 48), (T 49), (T 50), (T 51)], #[24, 3, 3, 101]⟩),
      mo 47 (.move (T 52)),
      mo 53 (.extract (T 47) 0),
      mo 54 (.extract (T 47) 1),
      mo 13 (.assign (T 53)),
      mo 14 (.assign (T 54))])
    (.seq (.seq (rg [mo 55 (.move (T 14)),
       mo 56 (.binOp .eql 120 (T 55) (.const (.int .i64 2)) 120)])
     (.cond (T 56) (.seq (rg [mo 57 (.move (T 0)),
        mo 58 (.move (T 1)),
        mo 59 (.move (T 2)),
        mo 60 (.move (T 4)),
        mo 61 (.call ⟨(.value (.func 75)), #[(T 57), (T 58), (T 59), (T 60)], #[24, 3, 3, 101]⟩)])
      (.seq (rg [mo 62 (.move (T 2)),
        mo 63 (.binOp .sub 3 (T 62) (.const (.int .i64 1)) 3),
        mo 64 (.move (T 13)),
        mo 65 (.move (T 1)),
        mo 66 (.binOp .sub 3 (T 64) (T 65) 3),
        mo 67 (.binOp .sub 3 (T 63) (T 66) 3),
        mo 13 (.assign (T 67))])
      (rg [mo 14 (.assign (.const (.int .i64 1)))])))
     (.skip)))
    (.seq (.seq (rg [mo 68 (.move (T 10)),
       mo 69 (.move (T 68)),
       mg 70 1 true (.move (T 11)),
       mo 71 (.pick (T 69) (T 70) (.const (.bool false))),
       mo 72 (.move (T 71)),
       mg 73 4 true (.move (T 14)),
       mg 74 4 true (.binOp .eql 120 (T 73) (.const (.int .i64 1)) 120),
       mo 75 (.pick (T 72) (T 74) (.const (.bool false)))])
     (.cond (T 75) (.seq (rg [mo 76 (.move (T 0)),
        mo 77 (.move (T 1)),
        mo 78 (.move (T 2)),
        mo 79 (.move (T 4)),
        mo 80 (.call ⟨(.value (.func 76)), #[(T 76), (T 77), (T 78), (T 79)], #[24, 3, 3, 101]⟩)])
      (.cond (T 80) (.ret)
      (.skip)))
     (.skip)))
    (.seq (.seq (r64_0)
     (.cond (T 97) (.seq (rg [mo 98 (.move (T 0)),
        mo 99 (.move (T 1)),
        mo 100 (.move (T 2)),
        mo 101 (.move (T 13)),
        mo 102 (.move (T 4)),
        mo 103 (.call ⟨(.value (.func 77)), #[(T 98), (T 99), (T 100), (T 101), (T 102)], #[24, 3, 3, 3, 101]⟩),
        mo 15 (.assign (T 103))])
      (.seq (rg [mo 104 (.move (T 15)),
        mo 1 (.assign (T 104))])
      (.exit 1)))
     (.skip)))
    (.seq (rg [mo 106 (.move (T 0)),
      mo 107 (.move (T 1)),
      mo 108 (.move (T 2)),
      mo 109 (.move (T 13)),
      mo 110 (.move (T 4)),
      mo 111 (.call ⟨(.value (.func 78)), #[(T 106), (T 107), (T 108), (T 109), (T 110)], #[24, 3, 3, 3, 101]⟩),
      mo 105 (.move (T 111)),
      mo 112 (.extract (T 105) 0),
      mo 113 (.extract (T 105) 1),
      mo 16 (.assign (T 112)),
      mo 17 (.assign (T 113))])
    (.seq (rg [mo 114 (.move (T 17)),
      mo 11 (.assign (T 114))])
    (.seq (rg [mo 115 (.move (T 16)),
      mo 116 (.move (T 1)),
      mo 117 (.binOp .sub 3 (T 115) (T 116) 3),
      mo 118 (.move (T 2)),
      mo 119 (.move (T 16)),
      mo 120 (.binOp .sub 3 (T 118) (T 119) 3),
      mo 18 (.assign (T 117)),
      mo 19 (.assign (T 120))])
    (.seq (rg [mo 121 (.move (T 12)),
      mo 122 (.binOp .quo 3 (T 121) (.const (.int .i64 8)) 3),
      mo 20 (.assign (T 122))])
    (.seq (rg [mo 123 (.move (T 18)),
      mo 124 (.move (T 19)),
      mo 125 (.binOp .lss 3 (T 123) (T 124) 3)])
    (.cond (T 125) (.seq (rg [mo 126 (.move (T 18)),
       mo 127 (.move (T 20)),
       mo 128 (.binOp .geq 3 (T 126) (T 127) 3),
       mo 10 (.assign (T 128))])
     (.seq (rg [mo 129 (.move (T 0)),
       mo 130 (.move (T 1)),
       mo 131 (.move (T 16)),
       mo 132 (.move (T 3)),
       mo 133 (.move (T 4)),
       mo 134 (.call ⟨(.value (.func 64)), #[(T 129), (T 130), (T 131), (T 132), (T 133)], #[24, 3, 3, 3, 101]⟩)])
     (rg [mo 135 (.move (T 16)),
      mo 136 (.binOp .add 3 (T 135) (.const (.int .i64 1)) 3),
      mo 1 (.assign (T 136))])))
    (.seq (rg [mo 137 (.move (T 19)),
       mo 138 (.move (T 20)),
       mo 139 (.binOp .geq 3 (T 137) (T 138) 3),
       mo 10 (.assign (T 139))])
     (.seq (rg [mo 140 (.move (T 0)),
       mo 141 (.move (T 16)),
       mo 142 (.binOp .add 3 (T 141) (.const (.int .i64 1)) 3),
       mo 143 (.move (T 2)),
       mo 144 (.move (T 3)),
       mo 145 (.move (T 4)),
       mo 146 (.call ⟨(.value (.func 64)), #[(T 140), (T 142), (T 143), (T 144), (T 145)], #[24, 3, 3, 3, 101]⟩)])
     (rg [mo 147 (.move (T 16)),
      mo 2 (.assign (T 147))])))))))))))))))))))))
theorem body_64 : Try.f64.body.map strip = some c64 := by kernel_rfl
theorem go_64 {args : List Value} {h : DHeap} {R : DEnd → DHeap → Prop} (ha : args.length ≤ 148) (hx : xs Try.prog 148 c64 (XPost Try.prog [] R) ⟨argsFr args 148, [], h, none⟩) : Ct Try.prog 64 args h R :=
  Ct_xs (show Try.prog.funcs[64]? = some Try.f64 by kernel_rfl) body_64 (by kernel_rfl) (by kernel_rfl) ha (by kernel_rfl) hx
/-! math/bits.Len -/
def c65 : Code :=
 .seq (rg [mo 2 (.assign (.const (.int .i64 0)))])
 (.seq (.cond (.const (.bool false)) (.seq (rg [mo 3 (.move (T 0)),
     mo 4 (.convert 110 128 (T 3)),
     mo 5 (.call ⟨(.value (.func 79)), #[(T 4)], #[128]⟩),
     mo 2 (.assign (T 5))])
   (.ret))
  (.skip))
 (.seq (rg [mo 6 (.move (T 0)),
   mo 7 (.call ⟨(.value (.func 80)), #[(T 6)], #[130]⟩),
   mo 2 (.assign (T 7))])
 (.ret)))
theorem body_65 : Try.f65.body.map strip = some c65 := by kernel_rfl
theorem go_65 {args : List Value} {h : DHeap} {R : DEnd → DHeap → Prop} (ha : args.length ≤ 8) (hx : xs Try.prog 8 c65 (XPost Try.prog [(.tmp 2)] R) ⟨argsFr args 8, [], h, none⟩) : Ct Try.prog 65 args h R :=
  Ct_xs (show Try.prog.funcs[65]? = some Try.f65 by kernel_rfl) body_65 (by kernel_rfl) (by kernel_rfl) ha (by kernel_rfl) hx
/-! cmp.Or[int] -/
def c66 : Code :=
 .seq (rg [mo 2 (.assign (.const (.int .i64 0)))])
 (.seq (rg [mo 3 (.assign (.const (.int .i64 0)))])
 (.seq (.seq (rg [mo 6 (.move (T 0)),
    mo 7 (.call ⟨(.builtin .len), #[(T 6)], #[131]⟩),
    mo 8 (.move (.const (.int .i64 0)))])
  (.block 0 (.loop (.seq (rg [mo 9 (.binOp .lss 3 (T 8) (T 7) 3)])
    (.seq (.cond (T 9) (.skip)
     (.exit 0))
    (.seq (.block 1 (.seq (rg [mo 10 (.indexAddr 131 (T 6) (T 8)),
        mo 11 (.load 3 (T 10)),
        mo 5 (.assign (T 11))])
      (.seq (rg [mo 12 (.move (T 5)),
        mo 13 (.move (T 3)),
        mo 14 (.binOp .neq 3 (T 12) (T 13) 3)])
      (.cond (T 14) (.seq (rg [mo 15 (.move (T 5)),
         mo 2 (.assign (T 15))])
       (.ret))
      (.skip)))))
    (rg [mo 16 (.binOp .add 3 (T 8) (.const (.int .i64 1)) 3),
     mo 8 (.move (T 16))])))))))
 (.seq (rg [mo 17 (.move (T 3)),
   mo 2 (.assign (T 17))])
 (.ret))))
theorem body_66 : Try.f66.body.map strip = some c66 := by kernel_rfl
theorem go_66 {args : List Value} {h : DHeap} {R : DEnd → DHeap → Prop} (ha : args.length ≤ 18) (hx : xs Try.prog 18 c66 (XPost Try.prog [(.tmp 2)] R) ⟨argsFr args 18, [], h, none⟩) : Ct Try.prog 66 args h R :=
  Ct_xs (show Try.prog.funcs[66]? = some Try.f66 by kernel_rfl) body_66 (by kernel_rfl) (by kernel_rfl) ha (by kernel_rfl) hx
/-! cmp.Compare[int32] -/
def c67 : Code :=
 .seq (rg [mo 4 (.assign (.const (.int .i64 0)))])
 (.seq (rg [mo 7 (.move (T 0)),
   mo 8 (.call ⟨(.value (.func 81)), #[(T 7)], #[21]⟩),
   mo 5 (.assign (T 8))])
 (.seq (rg [mo 9 (.move (T 1)),
   mo 10 (.call ⟨(.value (.func 81)), #[(T 9)], #[21]⟩),
   mo 6 (.assign (T 10))])
 (.seq (.seq (rg [mo 11 (.move (T 5))])
  (.cond (T 11) (.seq (.seq (rg [mo 12 (.move (T 6))])
    (.cond (T 12) (.seq (rg [mo 4 (.assign (.const (.int .i64 0)))])
     (.ret))
    (.skip)))
   (.seq (rg [mo 4 (.assign (.const (.int .i64 (-1))))])
   (.ret)))
  (.skip)))
 (.seq (.seq (rg [mo 13 (.move (T 6))])
  (.cond (T 13) (.seq (rg [mo 4 (.assign (.const (.int .i64 1)))])
   (.ret))
  (.skip)))
 (.seq (.seq (rg [mo 14 (.move (T 0)),
    mo 15 (.move (T 1)),
    mo 16 (.binOp .lss 21 (T 14) (T 15) 21)])
  (.cond (T 16) (.seq (rg [mo 4 (.assign (.const (.int .i64 (-1))))])
   (.ret))
  (.skip)))
 (.seq (.seq (rg [mo 17 (.move (T 0)),
    mo 18 (.move (T 1)),
    mo 19 (.binOp .gtr 21 (T 17) (T 18) 21)])
  (.cond (T 19) (.seq (rg [mo 4 (.assign (.const (.int .i64 1)))])
   (.ret))
  (.skip)))
 (.seq (rg [mo 4 (.assign (.const (.int .i64 0)))])
 (.ret))))))))
theorem body_67 : Try.f67.body.map strip = some c67 := by kernel_rfl
theorem go_67 {args : List Value} {h : DHeap} {R : DEnd → DHeap → Prop} (ha : args.length ≤ 20) (hx : xs Try.prog 20 c67 (XPost Try.prog [(.tmp 4)] R) ⟨argsFr args 20, [], h, none⟩) : Ct Try.prog 67 args h R :=
  Ct_xs (show Try.prog.funcs[67]? = some Try.f67 by kernel_rfl) body_67 (by kernel_rfl) (by kernel_rfl) ha (by kernel_rfl) hx
/-! cmp.Compare[int64] -/
def c68 : Code :=
 .seq (rg [mo 4 (.assign (.const (.int .i64 0)))])
 (.seq (rg [mo 7 (.move (T 0)),
   mo 8 (.call ⟨(.value (.func 82)), #[(T 7)], #[2]⟩),
   mo 5 (.assign (T 8))])
 (.seq (rg [mo 9 (.move (T 1)),
   mo 10 (.call ⟨(.value (.func 82)), #[(T 9)], #[2]⟩),
   mo 6 (.assign (T 10))])
 (.seq (.seq (rg [mo 11 (.move (T 5))])
  (.cond (T 11) (.seq (.seq (rg [mo 12 (.move (T 6))])
    (.cond (T 12) (.seq (rg [mo 4 (.assign (.const (.int .i64 0)))])
     (.ret))
    (.skip)))
   (.seq (rg [mo 4 (.assign (.const (.int .i64 (-1))))])
   (.ret)))
  (.skip)))
 (.seq (.seq (rg [mo 13 (.move (T 6))])
  (.cond (T 13) (.seq (rg [mo 4 (.assign (.const (.int .i64 1)))])
   (.ret))
  (.skip)))
 (.seq (.seq (rg [mo 14 (.move (T 0)),
    mo 15 (.move (T 1)),
    mo 16 (.binOp .lss 2 (T 14) (T 15) 2)])
  (.cond (T 16) (.seq (rg [mo 4 (.assign (.const (.int .i64 (-1))))])
   (.ret))
  (.skip)))
 (.seq (.seq (rg [mo 17 (.move (T 0)),
    mo 18 (.move (T 1)),
    mo 19 (.binOp .gtr 2 (T 17) (T 18) 2)])
  (.cond (T 19) (.seq (rg [mo 4 (.assign (.const (.int .i64 1)))])
   (.ret))
  (.skip)))
 (.seq (rg [mo 4 (.assign (.const (.int .i64 0)))])
 (.ret))))))))
theorem body_68 : Try.f68.body.map strip = some c68 := by kernel_rfl
theorem go_68 {args : List Value} {h : DHeap} {R : DEnd → DHeap → Prop} (ha : args.length ≤ 20) (hx : xs Try.prog 20 c68 (XPost Try.prog [(.tmp 4)] R) ⟨argsFr args 20, [], h, none⟩) : Ct Try.prog 68 args h R :=
  Ct_xs (show Try.prog.funcs[68]? = some Try.f68 by kernel_rfl) body_68 (by kernel_rfl) (by kernel_rfl) ha (by kernel_rfl) hx
/-! trivet/trivetref13.One -/
def o69_0 : Array Oper := #[⟨(some 82), (.fieldAddr 95 (T 8) 4), 0, "ref.go:84", #[], none⟩,
 ⟨(some 83), (.load 2 (T 82)), 2, "ref.go:84", #[⟨0, .data⟩], none⟩,
 ⟨(some 84), (.move (T 0)), 22, "ref.go:84", #[], none⟩,
 ⟨(some 85), (.move (T 9)), 3, "ref.go:84", #[], none⟩,
 ⟨(some 86), (.binOp .add 3 (T 85) (.const (.int .i64 1)) 3), 3, "ref.go:84", #[⟨3, .data⟩], none⟩,
 ⟨(some 87), (.indexAddr 22 (T 84) (T 86)), 0, "ref.go:84", #[⟨2, .data⟩, ⟨4, .data⟩], none⟩,
 ⟨(some 88), (.load 5 (T 87)), 5, "ref.go:84", #[⟨5, .data⟩], none⟩,
 ⟨(some 89), (.convert 5 2 (T 88)), 2, "ref.go:84", #[⟨6, .data⟩], none⟩,
 ⟨(some 90), (.binOp .mul 2 (.const (.int .i64 256)) (T 89) 2), 2, "ref.go:84", #[⟨7, .data⟩], none⟩,
 ⟨(some 91), (.binOp .add 2 (T 83) (T 90) 2), 2, "ref.go:84", #[⟨1, .data⟩, ⟨8, .data⟩], none⟩,
 ⟨(some 92), (.fieldAddr 95 (T 8) 4), 0, "ref.go:84", #[⟨0, .phase⟩, ⟨1, .phase⟩, ⟨2, .phase⟩, ⟨3, .phase⟩, ⟨4, .phase⟩, ⟨5, .phase⟩, ⟨6, .phase⟩, ⟨7, .phase⟩, ⟨8, .phase⟩, ⟨9, .phase⟩], none⟩,
 ⟨none, (.store 2 (T 92) (T 91)), 0, "ref.go:84", #[⟨10, .data⟩, ⟨9, .data⟩, ⟨0, .phase⟩, ⟨1, .phase⟩, ⟨2, .phase⟩, ⟨3, .phase⟩, ⟨4, .phase⟩, ⟨5, .phase⟩, ⟨6, .phase⟩, ⟨7, .phase⟩, ⟨8, .phase⟩, ⟨9, .phase⟩], none⟩]
def l69_0 : List Oper := [mo 82 (.fieldAddr 95 (T 8) 4),
 mo 83 (.load 2 (T 82)),
 mo 84 (.move (T 0)),
 mo 85 (.move (T 9)),
 mo 86 (.binOp .add 3 (T 85) (.const (.int .i64 1)) 3),
 mo 87 (.indexAddr 22 (T 84) (T 86)),
 mo 88 (.load 5 (T 87)),
 mo 89 (.convert 5 2 (T 88)),
 mo 90 (.binOp .mul 2 (.const (.int .i64 256)) (T 89) 2),
 mo 91 (.binOp .add 2 (T 83) (T 90) 2),
 mo 92 (.fieldAddr 95 (T 8) 4),
 mx (.store 2 (T 92) (T 91))]
def r69_0 : Code := .region 18 o69_0 true
theorem xr_69_0 {Q : DExit → St → Prop} {s : St} : xs Try.prog 115 r69_0 Q s = NC Try.prog 115 r69_0 Q s := rfl
theorem dr_69_0 {Q : DExit → St → Prop} {s : St} (h : XDraw Try.prog l69_0.toArray (befs o69_0.toList []) [] s.fr Q l69_0 0 s []) : NC Try.prog 115 r69_0 Q s :=
  NC.draw (by kernel_rfl) (by kernel_rfl) (by kernel_rfl) rfl (by kernel_rfl) (by kernel_rfl) h
attribute [go_sem] xr_69_0
def c69 : Code :=
 .seq (rg [mo 4 (.alloc 95),
   mo 5 (.assign (.const (.int .i64 0))),
   mo 6 (.assign (.const (.int .i64 0)))])
 (.seq (.seq (rg [mo 12 (.move (T 1)),
    mo 13 (.binOp .lss 3 (T 12) (.const (.int .i64 0)) 3),
    mo 14 (.move (T 13)),
    mg 15 2 false (.move (T 1)),
    mg 16 2 false (.move (T 0)),
    mg 17 2 false (.call ⟨(.builtin .len), #[(T 16)], #[22]⟩),
    mg 18 2 false (.binOp .geq 3 (T 15) (T 17) 3),
    mo 19 (.pick (T 14) (.const (.bool true)) (T 18))])
  (.cond (T 19) (.seq (rg [mo 20 (.build 95 #[]),
     mx (.store 95 (T 4) (T 20)),
     mo 5 (.assign (.const (.int .i64 0))),
     mo 6 (.assign (.const (.int .i64 130)))])
   (.ret))
  (.skip)))
 (.seq (rg [mo 21 (.move (T 0)),
   mo 22 (.move (T 1)),
   mo 23 (.indexAddr 22 (T 21) (T 22)),
   mo 24 (.load 5 (T 23)),
   mo 25 (.convert 5 3 (T 24)),
   mo 26 (.call ⟨(.value (.func 83)), #[(T 25)], #[3]⟩),
   mo 7 (.assign (T 26))])
 (.seq (.seq (rg [mo 27 (.move (T 7)),
    mo 28 (.binOp .eql 3 (T 27) (.const (.int .i64 0)) 3),
    mo 29 (.move (T 28)),
    mg 30 2 false (.move (T 7)),
    mg 31 2 false (.move (T 0)),
    mg 32 2 false (.call ⟨(.builtin .len), #[(T 31)], #[22]⟩),
    mg 33 2 false (.move (T 1)),
    mg 34 2 false (.binOp .sub 3 (T 32) (T 33) 3),
    mg 35 2 false (.binOp .gtr 3 (T 30) (T 34) 3),
    mo 36 (.pick (T 29) (.const (.bool true)) (T 35))])
  (.cond (T 36) (.seq (rg [mo 37 (.build 95 #[]),
     mx (.store 95 (T 4) (T 37)),
     mo 5 (.assign (.const (.int .i64 0))),
     mo 6 (.assign (.const (.int .i64 130)))])
   (.ret))
  (.skip)))
 (.seq (rg [mo 38 (.move (T 1)),
   mo 39 (.move (T 0)),
   mo 40 (.move (T 1)),
   mo 41 (.indexAddr 22 (T 39) (T 40)),
   mo 42 (.load 5 (T 41)),
   mo 43 (.convert 5 3 (T 42)),
   mo 44 (.build 95 #[(0, (T 38)), (1, (T 43))]),
   mo 8 (.alloc 95),
   mx (.store 95 (T 8) (T 44))])
 (.seq (rg [mo 45 (.move (T 1)),
   mo 46 (.binOp .add 3 (T 45) (.const (.int .i64 1)) 3),
   mo 9 (.assign (T 46))])
 (.seq (.seq (rg [mo 47 (.fieldAddr 95 (T 8) 1),
    mo 48 (.load 3 (T 47)),
    mo 49 (.call ⟨(.value (.func 84)), #[(T 48)], #[3]⟩)])
  (.cond (T 49) (.seq (rg [mo 50 (.move (T 0)),
     mo 51 (.move (T 9)),
     mo 52 (.indexAddr 22 (T 50) (T 51)),
     mo 53 (.load 5 (T 52)),
     mo 54 (.convert 5 3 (T 53)),
     mo 55 (.fieldAddr 95 (T 8) 2),
     mx (.store 3 (T 55) (T 54))])
   (rg [mo 56 (.move (T 9)),
    mo 57 (.binOp .add 3 (T 56) (.const (.int .i64 1)) 3),
    mo 9 (.assign (T 57))]))
  (.skip)))
 (.seq (.seq (rg [mo 58 (.fieldAddr 95 (T 8) 1),
    mo 59 (.load 3 (T 58)),
    mo 60 (.call ⟨(.value (.func 85)), #[(T 59)], #[3]⟩)])
  (.cond (T 60) (.seq (rg [mo 61 (.move (T 0)),
     mo 62 (.move (T 9)),
     mo 63 (.indexAddr 22 (T 61) (T 62)),
     mo 64 (.load 5 (T 63)),
     mo 65 (.convert 5 3 (T 64)),
     mo 66 (.fieldAddr 95 (T 8) 3),
     mx (.store 3 (T 66) (T 65))])
   (rg [mo 67 (.move (T 9)),
    mo 68 (.binOp .add 3 (T 67) (.const (.int .i64 1)) 3),
    mo 9 (.assign (T 68))]))
  (.skip)))
 (.seq (rg [mo 69 (.fieldAddr 95 (T 8) 1),
   mo 70 (.load 3 (T 69)),
   mo 71 (.call ⟨(.value (.func 86)), #[(T 70)], #[3]⟩),
   mo 10 (.assign (T 71))])
 (.seq (.seq (rg [mo 72 (.move (T 10)),
    mo 73 (.binOp .geq 3 (T 72) (.const (.int .i64 1)) 3)])
  (.cond (T 73) (rg [mo 74 (.move (T 0)),
    mo 75 (.move (T 9)),
    mo 76 (.indexAddr 22 (T 74) (T 75)),
    mo 77 (.load 5 (T 76)),
    mo 78 (.convert 5 2 (T 77)),
    mo 79 (.fieldAddr 95 (T 8) 4),
    mx (.store 2 (T 79) (T 78))])
  (.skip)))
 (.seq (.seq (rg [mo 80 (.move (T 10)),
    mo 81 (.binOp .eql 3 (T 80) (.const (.int .i64 2)) 3)])
  (.cond (T 81) (.seq (r69_0)
   (.seq (rg [mo 93 (.fieldAddr 95 (T 8) 1),
     mo 94 (.load 3 (T 93)),
     mo 95 (.binOp .eql 3 (T 94) (.const (.int .i64 1)) 3),
     mo 96 (.move (T 95)),
     mg 97 3 true (.fieldAddr 95 (T 8) 4),
     mg 98 3 true (.load 2 (T 97)),
     mg 99 3 true (.binOp .geq 2 (T 98) (.const (.int .i64 32768)) 2),
     mo 100 (.pick (T 96) (T 99) (.const (.bool false)))])
   (.cond (T 100) (rg [mo 101 (.fieldAddr 95 (T 8) 4),
     mo 102 (.load 2 (T 101)),
     mo 103 (.binOp .sub 2 (T 102) (.const (.int .i64 65536)) 2),
     mo 104 (.fieldAddr 95 (T 8) 4),
     mx (.store 2 (T 104) (T 103))])
   (.skip))))
  (.skip)))
 (.seq (.seq (rg [mo 105 (.load 95 (T 8)),
    mo 106 (.call ⟨(.value (.func 87)), #[(T 105)], #[95]⟩),
    mo 11 (.assign (T 106))])
  (.seq (rg [mo 107 (.move (T 11)),
    mo 108 (.binOp .neq 31 (T 107) (.const (.int .i64 0)) 31)])
  (.cond (T 108) (.seq (rg [mo 109 (.build 95 #[]),
     mo 110 (.move (T 11)),
     mx (.store 95 (T 4) (T 109)),
     mo 5 (.assign (.const (.int .i64 0))),
     mo 6 (.assign (T 110))])
   (.ret))
  (.skip))))
 (.seq (rg [mo 111 (.load 95 (T 8)),
   mo 112 (.move (T 1)),
   mo 113 (.move (T 7)),
   mo 114 (.binOp .add 3 (T 112) (T 113) 3),
   mx (.store 95 (T 4) (T 111)),
   mo 5 (.assign (T 114)),
   mo 6 (.assign (.const (.int .i64 0)))])
 (.ret)))))))))))))
theorem body_69 : Try.f69.body.map strip = some c69 := by kernel_rfl
theorem go_69 {args : List Value} {h : DHeap} {R : DEnd → DHeap → Prop} (ha : args.length ≤ 115) (hx : xs Try.prog 115 c69 (XPost Try.prog [(.cell 4 95), (.tmp 5), (.tmp 6)] R) ⟨argsFr args 115, [], h, none⟩) : Ct Try.prog 69 args h R :=
  Ct_xs (show Try.prog.funcs[69]? = some Try.f69 by kernel_rfl) body_69 (by kernel_rfl) (by kernel_rfl) ha (by kernel_rfl) hx
/-! trivet/code.One -/
def o70_0 : Array Oper := #[⟨(some 65), (.move (T 12)), 22, "code.go:67", #[], none⟩,
 ⟨(some 66), (.indexAddr 22 (T 65) (.const (.int .i64 0))), 0, "code.go:67", #[⟨0, .data⟩], none⟩,
 ⟨(some 67), (.load 5 (T 66)), 5, "code.go:67", #[⟨1, .data⟩], none⟩,
 ⟨(some 68), (.convert 5 3 (T 67)), 3, "code.go:67", #[⟨2, .data⟩], none⟩,
 ⟨(some 69), (.move (T 12)), 22, "code.go:67", #[], none⟩,
 ⟨(some 70), (.slice 22 (T 69) (some (.const (.int .i64 1))) none none), 22, "code.go:67", #[⟨4, .data⟩], none⟩,
 ⟨(some 71), (.fieldAddr 95 (T 9) 2), 0, "code.go:67", #[⟨0, .phase⟩, ⟨1, .phase⟩, ⟨2, .phase⟩, ⟨3, .phase⟩, ⟨4, (.textOnly Go.Departure.lateStores)⟩, ⟨5, (.textOnly Go.Departure.lateStoresUnsure)⟩], none⟩,
 ⟨none, (.store 3 (T 71) (T 68)), 0, "code.go:67", #[⟨6, .data⟩, ⟨3, .data⟩, ⟨0, .phase⟩, ⟨1, .phase⟩, ⟨2, .phase⟩, ⟨3, .phase⟩, ⟨4, (.textOnly Go.Departure.lateStores)⟩, ⟨5, (.textOnly Go.Departure.lateStoresUnsure)⟩], none⟩,
 ⟨(some 12), (.assign (T 70)), 22, "code.go:67", #[⟨5, .data⟩, ⟨7, .chain⟩, ⟨0, .phase⟩, ⟨1, .phase⟩, ⟨2, .phase⟩, ⟨3, .phase⟩, ⟨4, .phase⟩, ⟨5, .phase⟩, ⟨6, .phase⟩, ⟨7, .phase⟩], none⟩]
def l70_0 : List Oper := [mo 65 (.move (T 12)),
 mo 66 (.indexAddr 22 (T 65) (.const (.int .i64 0))),
 mo 67 (.load 5 (T 66)),
 mo 68 (.convert 5 3 (T 67)),
 mo 69 (.move (T 12)),
 mo 70 (.slice 22 (T 69) (some (.const (.int .i64 1))) none none),
 mo 71 (.fieldAddr 95 (T 9) 2),
 mx (.store 3 (T 71) (T 68)),
 mo 12 (.assign (T 70))]
def r70_0 : Code := .region 10 o70_0 true
def o70_1 : Array Oper := #[⟨(some 75), (.move (T 12)), 22, "code.go:70", #[], none⟩,
 ⟨(some 76), (.indexAddr 22 (T 75) (.const (.int .i64 0))), 0, "code.go:70", #[⟨0, .data⟩], none⟩,
 ⟨(some 77), (.load 5 (T 76)), 5, "code.go:70", #[⟨1, .data⟩], none⟩,
 ⟨(some 78), (.convert 5 3 (T 77)), 3, "code.go:70", #[⟨2, .data⟩], none⟩,
 ⟨(some 79), (.move (T 12)), 22, "code.go:70", #[], none⟩,
 ⟨(some 80), (.slice 22 (T 79) (some (.const (.int .i64 1))) none none), 22, "code.go:70", #[⟨4, .data⟩], none⟩,
 ⟨(some 81), (.fieldAddr 95 (T 9) 3), 0, "code.go:70", #[⟨0, .phase⟩, ⟨1, .phase⟩, ⟨2, .phase⟩, ⟨3, .phase⟩, ⟨4, (.textOnly Go.Departure.lateStores)⟩, ⟨5, (.textOnly Go.Departure.lateStoresUnsure)⟩], none⟩,
 ⟨none, (.store 3 (T 81) (T 78)), 0, "code.go:70", #[⟨6, .data⟩, ⟨3, .data⟩, ⟨0, .phase⟩, ⟨1, .phase⟩, ⟨2, .phase⟩, ⟨3, .phase⟩, ⟨4, (.textOnly Go.Departure.lateStores)⟩, ⟨5, (.textOnly Go.Departure.lateStoresUnsure)⟩], none⟩,
 ⟨(some 12), (.assign (T 80)), 22, "code.go:70", #[⟨5, .data⟩, ⟨7, .chain⟩, ⟨0, .phase⟩, ⟨1, .phase⟩, ⟨2, .phase⟩, ⟨3, .phase⟩, ⟨4, .phase⟩, ⟨5, .phase⟩, ⟨6, .phase⟩, ⟨7, .phase⟩], none⟩]
def l70_1 : List Oper := [mo 75 (.move (T 12)),
 mo 76 (.indexAddr 22 (T 75) (.const (.int .i64 0))),
 mo 77 (.load 5 (T 76)),
 mo 78 (.convert 5 3 (T 77)),
 mo 79 (.move (T 12)),
 mo 80 (.slice 22 (T 79) (some (.const (.int .i64 1))) none none),
 mo 81 (.fieldAddr 95 (T 9) 3),
 mx (.store 3 (T 81) (T 78)),
 mo 12 (.assign (T 80))]
def r70_1 : Code := .region 12 o70_1 true
def o70_2 : Array Oper := #[⟨(some 95), (.move (T 12)), 22, "code.go:76", #[], none⟩,
 ⟨(some 96), (.indexAddr 22 (T 95) (.const (.int .i64 0))), 0, "code.go:76", #[⟨0, .data⟩], none⟩,
 ⟨(some 97), (.load 5 (T 96)), 5, "code.go:76", #[⟨1, .data⟩], none⟩,
 ⟨(some 98), (.convert 5 27 (T 97)), 27, "code.go:76", #[⟨2, .data⟩], none⟩,
 ⟨(some 99), (.move (T 12)), 22, "code.go:76", #[], none⟩,
 ⟨(some 100), (.indexAddr 22 (T 99) (.const (.int .i64 1))), 0, "code.go:76", #[⟨4, .data⟩], none⟩,
 ⟨(some 101), (.load 5 (T 100)), 5, "code.go:76", #[⟨5, .data⟩], none⟩,
 ⟨(some 102), (.convert 5 27 (T 101)), 27, "code.go:76", #[⟨6, .data⟩], none⟩,
 ⟨(some 103), (.binOp .shl 27 (T 102) (.const (.int .u64 8)) 110), 27, "code.go:76", #[⟨7, .data⟩], none⟩,
 ⟨(some 104), (.binOp .or 27 (T 98) (T 103) 27), 27, "code.go:76", #[⟨3, .data⟩, ⟨8, .data⟩], none⟩,
 ⟨(some 105), (.convert 27 137 (T 104)), 137, "code.go:76", #[⟨9, .data⟩], none⟩,
 ⟨(some 106), (.convert 137 2 (T 105)), 2, "code.go:76", #[⟨10, .data⟩], none⟩,
 ⟨(some 107), (.fieldAddr 95 (T 9) 4), 0, "code.go:76", #[⟨0, .phase⟩, ⟨1, .phase⟩, ⟨2, .phase⟩, ⟨3, .phase⟩, ⟨4, .phase⟩, ⟨5, .phase⟩, ⟨6, .phase⟩, ⟨7, .phase⟩, ⟨8, .phase⟩, ⟨9, .phase⟩, ⟨10, .phase⟩, ⟨11, .phase⟩], none⟩,
 ⟨none, (.store 2 (T 107) (T 106)), 0, "code.go:76", #[⟨12, .data⟩, ⟨11, .data⟩, ⟨0, .phase⟩, ⟨1, .phase⟩, ⟨2, .phase⟩, ⟨3, .phase⟩, ⟨4, .phase⟩, ⟨5, .phase⟩, ⟨6, .phase⟩, ⟨7, .phase⟩, ⟨8, .phase⟩, ⟨9, .phase⟩, ⟨10, .phase⟩, ⟨11, .phase⟩], none⟩]
def l70_2 : List Oper := [mo 95 (.move (T 12)),
 mo 96 (.indexAddr 22 (T 95) (.const (.int .i64 0))),
 mo 97 (.load 5 (T 96)),
 mo 98 (.convert 5 27 (T 97)),
 mo 99 (.move (T 12)),
 mo 100 (.indexAddr 22 (T 99) (.const (.int .i64 1))),
 mo 101 (.load 5 (T 100)),
 mo 102 (.convert 5 27 (T 101)),
 mo 103 (.binOp .shl 27 (T 102) (.const (.int .u64 8)) 110),
 mo 104 (.binOp .or 27 (T 98) (T 103) 27),
 mo 105 (.convert 27 137 (T 104)),
 mo 106 (.convert 137 2 (T 105)),
 mo 107 (.fieldAddr 95 (T 9) 4),
 mx (.store 2 (T 107) (T 106))]
def r70_2 : Code := .region 16 o70_2 true
theorem dr_70_2 {Q : DExit → St → Prop} {s : St} (h : XDraw Try.prog l70_2.toArray (befs o70_2.toList []) [] s.fr Q l70_2 0 s []) : NC Try.prog 132 r70_2 Q s :=
  NC.draw (by kernel_rfl) (by kernel_rfl) (by kernel_rfl) rfl (by kernel_rfl) (by kernel_rfl) h
def o70_3 : Array Oper := #[⟨(some 112), (.move (T 12)), 22, "code.go:78", #[], none⟩,
 ⟨(some 113), (.indexAddr 22 (T 112) (.const (.int .i64 0))), 0, "code.go:78", #[⟨0, .data⟩], none⟩,
 ⟨(some 114), (.load 5 (T 113)), 5, "code.go:78", #[⟨1, .data⟩], none⟩,
 ⟨(some 115), (.convert 5 27 (T 114)), 27, "code.go:78", #[⟨2, .data⟩], none⟩,
 ⟨(some 116), (.move (T 12)), 22, "code.go:78", #[], none⟩,
 ⟨(some 117), (.indexAddr 22 (T 116) (.const (.int .i64 1))), 0, "code.go:78", #[⟨4, .data⟩], none⟩,
 ⟨(some 118), (.load 5 (T 117)), 5, "code.go:78", #[⟨5, .data⟩], none⟩,
 ⟨(some 119), (.convert 5 27 (T 118)), 27, "code.go:78", #[⟨6, .data⟩], none⟩,
 ⟨(some 120), (.binOp .shl 27 (T 119) (.const (.int .u64 8)) 110), 27, "code.go:78", #[⟨7, .data⟩], none⟩,
 ⟨(some 121), (.binOp .or 27 (T 115) (T 120) 27), 27, "code.go:78", #[⟨3, .data⟩, ⟨8, .data⟩], none⟩,
 ⟨(some 122), (.convert 27 2 (T 121)), 2, "code.go:78", #[⟨9, .data⟩], none⟩,
 ⟨(some 123), (.fieldAddr 95 (T 9) 4), 0, "code.go:78", #[⟨0, .phase⟩, ⟨1, .phase⟩, ⟨2, .phase⟩, ⟨3, .phase⟩, ⟨4, .phase⟩, ⟨5, .phase⟩, ⟨6, .phase⟩, ⟨7, .phase⟩, ⟨8, .phase⟩, ⟨9, .phase⟩, ⟨10, .phase⟩], none⟩,
 ⟨none, (.store 2 (T 123) (T 122)), 0, "code.go:78", #[⟨11, .data⟩, ⟨10, .data⟩, ⟨0, .phase⟩, ⟨1, .phase⟩, ⟨2, .phase⟩, ⟨3, .phase⟩, ⟨4, .phase⟩, ⟨5, .phase⟩, ⟨6, .phase⟩, ⟨7, .phase⟩, ⟨8, .phase⟩, ⟨9, .phase⟩, ⟨10, .phase⟩], none⟩]
def l70_3 : List Oper := [mo 112 (.move (T 12)),
 mo 113 (.indexAddr 22 (T 112) (.const (.int .i64 0))),
 mo 114 (.load 5 (T 113)),
 mo 115 (.convert 5 27 (T 114)),
 mo 116 (.move (T 12)),
 mo 117 (.indexAddr 22 (T 116) (.const (.int .i64 1))),
 mo 118 (.load 5 (T 117)),
 mo 119 (.convert 5 27 (T 118)),
 mo 120 (.binOp .shl 27 (T 119) (.const (.int .u64 8)) 110),
 mo 121 (.binOp .or 27 (T 115) (T 120) 27),
 mo 122 (.convert 27 2 (T 121)),
 mo 123 (.fieldAddr 95 (T 9) 4),
 mx (.store 2 (T 123) (T 122))]
def r70_3 : Code := .region 18 o70_3 true
theorem dr_70_3 {Q : DExit → St → Prop} {s : St} (h : XDraw Try.prog l70_3.toArray (befs o70_3.toList []) [] s.fr Q l70_3 0 s []) : NC Try.prog 132 r70_3 Q s :=
  NC.draw (by kernel_rfl) (by kernel_rfl) (by kernel_rfl) rfl (by kernel_rfl) (by kernel_rfl) h
def c70 : Code :=
 .seq (rg [mo 4 (.alloc 95),
   mo 5 (.assign (.const (.int .i64 0))),
   mo 6 (.assign (.const (.int .i64 0)))])
 (.seq (.seq (rg [mo 13 (.move (T 1)),
    mo 14 (.binOp .lss 3 (T 13) (.const (.int .i64 0)) 3),
    mo 15 (.move (T 14)),
    mg 16 2 false (.move (T 1)),
    mg 17 2 false (.move (T 0)),
    mg 18 2 false (.call ⟨(.builtin .len), #[(T 17)], #[22]⟩),
    mg 19 2 false (.binOp .geq 3 (T 16) (T 18) 3),
    mo 20 (.pick (T 15) (.const (.bool true)) (T 19))])
  (.cond (T 20) (.seq (rg [mo 21 (.build 95 #[]),
     mx (.store 95 (T 4) (T 21)),
     mo 5 (.assign (.const (.int .i64 0))),
     mo 6 (.assign (.const (.int .i64 130)))])
   (.ret))
  (.skip)))
 (.seq (rg [mo 23 (.move (T 0)),
   mo 24 (.move (T 1)),
   mo 25 (.indexAddr 22 (T 23) (T 24)),
   mo 26 (.load 5 (T 25)),
   mo 27 (.convert 5 3 (T 26)),
   mo 28 (.call ⟨(.value (.func 88)), #[(T 27)], #[3]⟩),
   mo 22 (.move (T 28)),
   mo 29 (.extract (T 22) 0),
   mo 30 (.extract (T 22) 1),
   mo 7 (.assign (T 29)),
   mo 8 (.assign (T 30))])
 (.seq (.seq (rg [mo 31 (.move (T 8)),
    mo 32 (.unOp .not 4 (T 31)),
    mo 33 (.move (T 32)),
    mg 34 2 false (.move (T 7)),
    mg 35 2 false (.move (T 0)),
    mg 36 2 false (.call ⟨(.builtin .len), #[(T 35)], #[22]⟩),
    mg 37 2 false (.move (T 1)),
    mg 38 2 false (.binOp .sub 3 (T 36) (T 37) 3),
    mg 39 2 false (.binOp .gtr 3 (T 34) (T 38) 3),
    mo 40 (.pick (T 33) (.const (.bool true)) (T 39))])
  (.cond (T 40) (.seq (rg [mo 41 (.build 95 #[]),
     mx (.store 95 (T 4) (T 41)),
     mo 5 (.assign (.const (.int .i64 0))),
     mo 6 (.assign (.const (.int .i64 130)))])
   (.ret))
  (.skip)))
 (.seq (rg [mo 42 (.move (T 1)),
   mo 43 (.move (T 0)),
   mo 44 (.move (T 1)),
   mo 45 (.indexAddr 22 (T 43) (T 44)),
   mo 46 (.load 5 (T 45)),
   mo 47 (.convert 5 3 (T 46)),
   mo 48 (.build 95 #[(0, (T 42)), (1, (T 47))]),
   mo 9 (.alloc 95),
   mx (.store 95 (T 9) (T 48))])
 (.seq (rg [mo 50 (.fieldAddr 95 (T 9) 1),
   mo 51 (.load 3 (T 50)),
   mo 52 (.call ⟨(.value (.func 89)), #[(T 51)], #[3]⟩),
   mo 49 (.move (T 52)),
   mo 53 (.extract (T 49) 0),
   mo 54 (.extract (T 49) 1),
   mo 10 (.assign (T 53)),
   mo 11 (.assign (T 54))])
 (.seq (rg [mo 55 (.move (T 0)),
   mo 56 (.move (T 1)),
   mo 57 (.binOp .add 3 (T 56) (.const (.int .i64 1)) 3),
   mo 58 (.move (T 1)),
   mo 59 (.move (T 7)),
   mo 60 (.binOp .add 3 (T 58) (T 59) 3),
   mo 61 (.slice 22 (T 55) (some (T 57)) (some (T 60)) none),
   mo 12 (.assign (T 61))])
 (.seq (.seq (rg [mo 62 (.move (T 10)),
    mo 63 (.binOp .and 3 (T 62) (.const (.int .i64 1)) 3),
    mo 64 (.binOp .neq 3 (T 63) (.const (.int .i64 0)) 3)])
  (.cond (T 64) (r70_0)
  (.skip)))
 (.seq (.seq (rg [mo 72 (.move (T 10)),
    mo 73 (.binOp .and 3 (T 72) (.const (.int .i64 2)) 3),
    mo 74 (.binOp .neq 3 (T 73) (.const (.int .i64 0)) 3)])
  (.cond (T 74) (r70_1)
  (.skip)))
 (.seq (.block 0 (.seq (rg [mo 83 (.move (T 10)),
     mo 84 (.binOp .and 3 (T 83) (.const (.int .i64 4)) 3),
     mo 85 (.binOp .neq 3 (T 84) (.const (.int .i64 0)) 3),
     mo 82 (.assign (T 85))])
   (.cond (T 82) (rg [mo 86 (.move (T 12)),
     mo 87 (.indexAddr 22 (T 86) (.const (.int .i64 0))),
     mo 88 (.load 5 (T 87)),
     mo 89 (.convert 5 2 (T 88)),
     mo 90 (.fieldAddr 95 (T 9) 4),
     mx (.store 2 (T 90) (T 89))])
   (.seq (rg [mo 92 (.move (T 10)),
      mo 93 (.binOp .and 3 (T 92) (.const (.int .i64 8)) 3),
      mo 94 (.binOp .neq 3 (T 93) (.const (.int .i64 0)) 3),
      mo 91 (.assign (T 94))])
    (.cond (T 91) (r70_2)
    (.seq (rg [mo 109 (.move (T 10)),
       mo 110 (.binOp .and 3 (T 109) (.const (.int .i64 16)) 3),
       mo 111 (.binOp .neq 3 (T 110) (.const (.int .i64 0)) 3),
       mo 108 (.assign (T 111))])
     (.cond (T 108) (r70_3)
     (.skip))))))))
 (.seq (.seq (rg [mo 124 (.load 95 (T 9)),
    mo 125 (.call ⟨(.value (.func 90)), #[(T 124)], #[95]⟩),
    mo 126 (.unOp .not 4 (T 125))])
  (.cond (T 126) (.seq (rg [mo 127 (.build 95 #[]),
     mx (.store 95 (T 4) (T 127)),
     mo 5 (.assign (.const (.int .i64 0))),
     mo 6 (.assign (.const (.int .i64 132)))])
   (.ret))
  (.skip)))
 (.seq (rg [mo 128 (.load 95 (T 9)),
   mo 129 (.move (T 1)),
   mo 130 (.move (T 7)),
   mo 131 (.binOp .add 3 (T 129) (T 130) 3),
   mx (.store 95 (T 4) (T 128)),
   mo 5 (.assign (T 131)),
   mo 6 (.assign (.const (.int .i64 0)))])
 (.ret))))))))))))
theorem body_70 : Try.f70.body.map strip = some c70 := by kernel_rfl
theorem go_70 {args : List Value} {h : DHeap} {R : DEnd → DHeap → Prop} (ha : args.length ≤ 132) (hx : xs Try.prog 132 c70 (XPost Try.prog [(.cell 4 95), (.tmp 5), (.tmp 6)] R) ⟨argsFr args 132, [], h, none⟩) : Ct Try.prog 70 args h R :=
  Ct_xs (show Try.prog.funcs[70]? = some Try.f70 by kernel_rfl) body_70 (by kernel_rfl) (by kernel_rfl) ha (by kernel_rfl) hx
/-! slices.insertionSortCmpFunc[trivet/api.Key] -/
def o71_0 : Array Oper := #[⟨(some 18), (.move (T 9)), 3, "zsortanyfunc.go:12", #[], none⟩,
 ⟨(some 19), (.move (T 1)), 3, "zsortanyfunc.go:12", #[], none⟩,
 ⟨(some 20), (.binOp .gtr 3 (T 18) (T 19) 3), 4, "zsortanyfunc.go:12", #[⟨0, .data⟩, ⟨1, .data⟩], none⟩,
 ⟨(some 21), (.move (T 20)), 4, "zsortanyfunc.go:12", #[⟨2, .data⟩], none⟩,
 ⟨(some 22), (.move (T 3)), 101, "zsortanyfunc.go:12", #[⟨3, .guard⟩], (some (3, true))⟩,
 ⟨(some 23), (.move (T 0)), 24, "zsortanyfunc.go:12", #[⟨3, .guard⟩], (some (3, true))⟩,
 ⟨(some 24), (.move (T 9)), 3, "zsortanyfunc.go:12", #[⟨3, .guard⟩], (some (3, true))⟩,
 ⟨(some 25), (.indexAddr 24 (T 23) (T 24)), 0, "zsortanyfunc.go:12", #[⟨5, .data⟩, ⟨6, .data⟩, ⟨3, .guard⟩], (some (3, true))⟩,
 ⟨(some 26), (.load 54 (T 25)), 54, "zsortanyfunc.go:12", #[⟨7, .data⟩, ⟨3, .guard⟩], (some (3, true))⟩,
 ⟨(some 27), (.move (T 0)), 24, "zsortanyfunc.go:12", #[⟨3, .guard⟩], (some (3, true))⟩,
 ⟨(some 28), (.move (T 9)), 3, "zsortanyfunc.go:12", #[⟨3, .guard⟩], (some (3, true))⟩,
 ⟨(some 29), (.binOp .sub 3 (T 28) (.const (.int .i64 1)) 3), 3, "zsortanyfunc.go:12", #[⟨10, .data⟩, ⟨3, .guard⟩], (some (3, true))⟩,
 ⟨(some 30), (.indexAddr 24 (T 27) (T 29)), 0, "zsortanyfunc.go:12", #[⟨9, .data⟩, ⟨11, .data⟩, ⟨3, .guard⟩], (some (3, true))⟩,
 ⟨(some 31), (.load 54 (T 30)), 54, "zsortanyfunc.go:12", #[⟨12, .data⟩, ⟨3, .guard⟩], (some (3, true))⟩,
 ⟨(some 32), (.call ⟨(.value (T 22)), #[(T 26), (T 31)], #[54, 54]⟩), 3, "zsortanyfunc.go:12", #[⟨4, .data⟩, ⟨8, .data⟩, ⟨13, .data⟩, ⟨3, .chain⟩, ⟨3, .guard⟩], (some (3, true))⟩,
 ⟨(some 33), (.binOp .lss 3 (T 32) (.const (.int .i64 0)) 3), 4, "zsortanyfunc.go:12", #[⟨14, .data⟩, ⟨3, .guard⟩], (some (3, true))⟩,
 ⟨(some 34), (.pick (T 21) (T 33) (.const (.bool false))), 4, "zsortanyfunc.go:12", #[⟨3, .data⟩, ⟨15, .data⟩], none⟩]
def r71_0 : Code := .region 4 o71_0 true
def o71_1 : Array Oper := #[⟨(some 37), (.move (T 0)), 24, "zsortanyfunc.go:13", #[], none⟩,
 ⟨(some 38), (.move (T 9)), 3, "zsortanyfunc.go:13", #[], none⟩,
 ⟨(some 39), (.move (T 0)), 24, "zsortanyfunc.go:13", #[⟨15, (.gcOnly Go.Departure.lateStores)⟩], none⟩,
 ⟨(some 40), (.move (T 9)), 3, "zsortanyfunc.go:13", #[⟨15, (.gcOnly Go.Departure.lateStores)⟩], none⟩,
 ⟨(some 41), (.binOp .sub 3 (T 40) (.const (.int .i64 1)) 3), 3, "zsortanyfunc.go:13", #[⟨3, .data⟩, ⟨15, (.gcOnly Go.Departure.lateStores)⟩], none⟩,
 ⟨(some 42), (.move (T 0)), 24, "zsortanyfunc.go:13", #[], none⟩,
 ⟨(some 43), (.move (T 9)), 3, "zsortanyfunc.go:13", #[], none⟩,
 ⟨(some 44), (.binOp .sub 3 (T 43) (.const (.int .i64 1)) 3), 3, "zsortanyfunc.go:13", #[⟨6, .data⟩], none⟩,
 ⟨(some 45), (.indexAddr 24 (T 42) (T 44)), 0, "zsortanyfunc.go:13", #[⟨5, .data⟩, ⟨7, .data⟩], none⟩,
 ⟨(some 46), (.load 54 (T 45)), 54, "zsortanyfunc.go:13", #[⟨8, .data⟩], none⟩,
 ⟨(some 47), (.move (T 0)), 24, "zsortanyfunc.go:13", #[], none⟩,
 ⟨(some 48), (.move (T 9)), 3, "zsortanyfunc.go:13", #[], none⟩,
 ⟨(some 49), (.indexAddr 24 (T 47) (T 48)), 0, "zsortanyfunc.go:13", #[⟨10, .data⟩, ⟨11, .data⟩], none⟩,
 ⟨(some 50), (.load 54 (T 49)), 54, "zsortanyfunc.go:13", #[⟨12, .data⟩], none⟩,
 ⟨(some 51), (.indexAddr 24 (T 37) (T 38)), 0, "zsortanyfunc.go:13", #[⟨0, .data⟩, ⟨1, .data⟩, ⟨0, .phase⟩, ⟨1, .phase⟩, ⟨2, (.textOnly Go.Departure.lateStores)⟩, ⟨3, (.textOnly Go.Departure.lateStores)⟩, ⟨4, (.textOnly Go.Departure.lateStores)⟩, ⟨5, .phase⟩, ⟨6, .phase⟩, ⟨7, .phase⟩, ⟨8, .phase⟩, ⟨9, .phase⟩, ⟨10, (.textOnly Go.Departure.lateStores)⟩, ⟨11, (.textOnly Go.Departure.lateStores)⟩, ⟨12, (.textOnly Go.Departure.lateStoresUnsure)⟩, ⟨13, .phase⟩], none⟩,
 ⟨none, (.store 54 (T 51) (T 46)), 0, "zsortanyfunc.go:13", #[⟨14, .data⟩, ⟨9, .data⟩, ⟨0, .phase⟩, ⟨1, .phase⟩, ⟨2, (.textOnly Go.Departure.lateStores)⟩, ⟨3, (.textOnly Go.Departure.lateStores)⟩, ⟨4, (.textOnly Go.Departure.lateStores)⟩, ⟨5, .phase⟩, ⟨6, .phase⟩, ⟨7, .phase⟩, ⟨8, .phase⟩, ⟨9, .phase⟩, ⟨10, (.textOnly Go.Departure.lateStores)⟩, ⟨11, (.textOnly Go.Departure.lateStores)⟩, ⟨12, (.textOnly Go.Departure.lateStoresUnsure)⟩, ⟨13, .phase⟩], none⟩,
 ⟨(some 52), (.indexAddr 24 (T 39) (T 41)), 0, "zsortanyfunc.go:13", #[⟨2, .data⟩, ⟨4, .data⟩, ⟨0, .phase⟩, ⟨1, .phase⟩, ⟨2, .phase⟩, ⟨3, .phase⟩, ⟨4, .phase⟩, ⟨5, .phase⟩, ⟨6, .phase⟩, ⟨7, .phase⟩, ⟨8, .phase⟩, ⟨9, .phase⟩, ⟨10, .phase⟩, ⟨11, .phase⟩, ⟨12, .phase⟩, ⟨13, .phase⟩, ⟨14, .phase⟩, ⟨15, .phase⟩], none⟩,
 ⟨none, (.store 54 (T 52) (T 50)), 0, "zsortanyfunc.go:13", #[⟨16, .data⟩, ⟨13, .data⟩, ⟨15, .chain⟩, ⟨0, .phase⟩, ⟨1, .phase⟩, ⟨2, .phase⟩, ⟨3, .phase⟩, ⟨4, .phase⟩, ⟨5, .phase⟩, ⟨6, .phase⟩, ⟨7, .phase⟩, ⟨8, .phase⟩, ⟨9, .phase⟩, ⟨10, .phase⟩, ⟨11, .phase⟩, ⟨12, .phase⟩, ⟨13, .phase⟩, ⟨14, .phase⟩, ⟨15, .phase⟩], none⟩]
def r71_1 : Code := .region 6 o71_1 true
def c71 : Code :=
 .seq (rg [mo 10 (.move (T 1)),
   mo 11 (.binOp .add 3 (T 10) (.const (.int .i64 1)) 3),
   mo 8 (.assign (T 11))])
 (.block 0 (.loop (.seq (.seq (rg [mo 12 (.move (T 8)),
      mo 13 (.move (T 2)),
      mo 14 (.binOp .lss 3 (T 12) (T 13) 3)])
    (.cond (T 14) (.skip)
    (.exit 0)))
   (.seq (.block 1 (.seq (rg [mo 17 (.move (T 8)),
       mo 9 (.assign (T 17))])
     (.block 2 (.loop (.seq (.seq (r71_0)
        (.cond (T 34) (.skip)
        (.exit 2)))
       (.seq (.block 3 (r71_1))
       (rg [mo 35 (.move (T 9)),
        mo 36 (.binOp .sub 3 (T 35) (.const (.int .i64 1)) 3),
        mo 9 (.assign (T 36))])))))))
   (rg [mo 15 (.move (T 8)),
    mo 16 (.binOp .add 3 (T 15) (.const (.int .i64 1)) 3),
    mo 8 (.assign (T 16))])))))
theorem body_71 : Try.f71.body.map strip = some c71 := by kernel_rfl
theorem go_71 {args : List Value} {h : DHeap} {R : DEnd → DHeap → Prop} (ha : args.length ≤ 53) (hx : xs Try.prog 53 c71 (XPost Try.prog [] R) ⟨argsFr args 53, [], h, none⟩) : Ct Try.prog 71 args h R :=
  Ct_xs (show Try.prog.funcs[71]? = some Try.f71 by kernel_rfl) body_71 (by kernel_rfl) (by kernel_rfl) ha (by kernel_rfl) hx
end Go.Proofs.Ytbdljpndncohaaa

namespace Go.Proofs.Ytbdljpndncohaaa
open Go.D
set_option maxRecDepth 100000
/-! math/bits.Len64 -/
def c80 : Code :=
 .seq (rg [mo 2 (.assign (.const (.int .i64 0)))])
 (.seq (.seq (rg [mo 3 (.move (T 0)),
    mo 4 (.binOp .geq 130 (T 3) (.const (.int .u64 4294967296)) 130)])
  (.cond (T 4) (.seq (rg [mo 5 (.move (T 0)),
     mo 6 (.binOp .shr 130 (T 5) (.const (.int .u64 32)) 110),
     mo 0 (.assign (T 6))])
   (rg [mo 2 (.assign (.const (.int .i64 32)))]))
  (.skip)))
 (.seq (.seq (rg [mo 7 (.move (T 0)),
    mo 8 (.binOp .geq 130 (T 7) (.const (.int .u64 65536)) 130)])
  (.cond (T 8) (.seq (rg [mo 9 (.move (T 0)),
     mo 10 (.binOp .shr 130 (T 9) (.const (.int .u64 16)) 110),
     mo 0 (.assign (T 10))])
   (rg [mo 11 (.move (T 2)),
    mo 12 (.binOp .add 3 (T 11) (.const (.int .i64 16)) 3),
    mo 2 (.assign (T 12))]))
  (.skip)))
 (.seq (.seq (rg [mo 13 (.move (T 0)),
    mo 14 (.binOp .geq 130 (T 13) (.const (.int .u64 256)) 130)])
  (.cond (T 14) (.seq (rg [mo 15 (.move (T 0)),
     mo 16 (.binOp .shr 130 (T 15) (.const (.int .u64 8)) 110),
     mo 0 (.assign (T 16))])
   (rg [mo 17 (.move (T 2)),
    mo 18 (.binOp .add 3 (T 17) (.const (.int .i64 8)) 3),
    mo 2 (.assign (T 18))]))
  (.skip)))
 (.seq (rg [mo 19 (.move (T 2)),
   mo 20 (.move (T 0)),
   mo 21 (.convert 130 5 (T 20)),
   mo 22 (.index 9 (.const (.string (ByteArray.mk (List.toArray (List.append (List.append [0, 1, 2, 2, 3, 3, 3, 3, 4, 4, 4, 4, 4, 4, 4, 4, 5, 5, 5, 5, 5, 5, 5, 5, 5, 5, 5, 5, 5, 5, 5, 5, 6, 6, 6, 6, 6, 6, 6, 6, 6, 6, 6, 6, 6, 6, 6, 6, 6, 6, 6, 6, 6, 6, 6, 6, 6, 6, 6, 6, 6, 6, 6, 6] [7, 7, 7, 7, 7, 7, 7, 7, 7, 7, 7, 7, 7, 7, 7, 7, 7, 7, 7, 7, 7, 7, 7, 7, 7, 7, 7, 7, 7, 7, 7, 7, 7, 7, 7, 7, 7, 7, 7, 7, 7, 7, 7, 7, 7, 7, 7, 7, 7, 7, 7, 7, 7, 7, 7, 7, 7, 7, 7, 7, 7, 7, 7, 7]) (List.append [8, 8, 8, 8, 8, 8, 8, 8, 8, 8, 8, 8, 8, 8, 8, 8, 8, 8, 8, 8, 8, 8, 8, 8, 8, 8, 8, 8, 8, 8, 8, 8, 8, 8, 8, 8, 8, 8, 8, 8, 8, 8, 8, 8, 8, 8, 8, 8, 8, 8, 8, 8, 8, 8, 8, 8, 8, 8, 8, 8, 8, 8, 8, 8] [8, 8, 8, 8, 8, 8, 8, 8, 8, 8, 8, 8, 8, 8, 8, 8, 8, 8, 8, 8, 8, 8, 8, 8, 8, 8, 8, 8, 8, 8, 8, 8, 8, 8, 8, 8, 8, 8, 8, 8, 8, 8, 8, 8, 8, 8, 8, 8, 8, 8, 8, 8, 8, 8, 8, 8, 8, 8, 8, 8, 8, 8, 8, 8])))))) (T 21)),
   mo 23 (.convert 5 3 (T 22)),
   mo 24 (.binOp .add 3 (T 19) (T 23) 3),
   mo 2 (.assign (T 24))])
 (.ret)))))
theorem body_80 : Try.f80.body.map strip = some c80 := by kernel_rfl
theorem go_80 {args : List Value} {h : DHeap} {R : DEnd → DHeap → Prop} (ha : args.length ≤ 25) (hx : xs Try.prog 25 c80 (XPost Try.prog [(.tmp 2)] R) ⟨argsFr args 25, [], h, none⟩) : Ct Try.prog 80 args h R :=
  Ct_xs (show Try.prog.funcs[80]? = some Try.f80 by kernel_rfl) body_80 (by kernel_rfl) (by kernel_rfl) ha (by kernel_rfl) hx
/-! cmp.isNaN[int32] -/
def c81 : Code :=
 .seq (rg [mo 2 (.assign (.const (.bool false)))])
 (.seq (rg [mo 3 (.move (T 0)),
   mo 4 (.move (T 0)),
   mo 5 (.binOp .neq 21 (T 3) (T 4) 21),
   mo 2 (.assign (T 5))])
 (.ret))
theorem body_81 : Try.f81.body.map strip = some c81 := by kernel_rfl
theorem go_81 {args : List Value} {h : DHeap} {R : DEnd → DHeap → Prop} (ha : args.length ≤ 6) (hx : xs Try.prog 6 c81 (XPost Try.prog [(.tmp 2)] R) ⟨argsFr args 6, [], h, none⟩) : Ct Try.prog 81 args h R :=
  Ct_xs (show Try.prog.funcs[81]? = some Try.f81 by kernel_rfl) body_81 (by kernel_rfl) (by kernel_rfl) ha (by kernel_rfl) hx
/-! cmp.isNaN[int64] -/
def c82 : Code :=
 .seq (rg [mo 2 (.assign (.const (.bool false)))])
 (.seq (rg [mo 3 (.move (T 0)),
   mo 4 (.move (T 0)),
   mo 5 (.binOp .neq 2 (T 3) (T 4) 2),
   mo 2 (.assign (T 5))])
 (.ret))
theorem body_82 : Try.f82.body.map strip = some c82 := by kernel_rfl
theorem go_82 {args : List Value} {h : DHeap} {R : DEnd → DHeap → Prop} (ha : args.length ≤ 6) (hx : xs Try.prog 6 c82 (XPost Try.prog [(.tmp 2)] R) ⟨argsFr args 6, [], h, none⟩) : Ct Try.prog 82 args h R :=
  Ct_xs (show Try.prog.funcs[82]? = some Try.f82 by kernel_rfl) body_82 (by kernel_rfl) (by kernel_rfl) ha (by kernel_rfl) hx
/-! trivet/trivetref13.Size -/
def c83 : Code :=
 .seq (rg [mo 2 (.assign (.const (.int .i64 0)))])
 (.seq (.seq (rg [mo 3 (.move (T 0))])
  (.block 0 (.seq (rg [mo 5 (.binOp .eql 3 (T 3) (.const (.int .i64 0)) 3),
     mo 4 (.assign (T 5))])
   (.cond (T 4) (.seq (rg [mo 2 (.assign (.const (.int .i64 1)))])
    (.ret))
   (.seq (.seq (rg [mo 7 (.binOp .eql 3 (T 3) (.const (.int .i64 6)) 3),
       mo 6 (.assign (T 7))])
     (.cond (T 6) (.skip)
     (.seq (rg [mo 8 (.binOp .eql 3 (T 3) (.const (.int .i64 24)) 3),
        mo 6 (.assign (T 8))])
      (.cond (T 6) (.skip)
      (rg [mo 9 (.binOp .eql 3 (T 3) (.const (.int .i64 25)) 3),
        mo 6 (.assign (T 9))])))))
    (.cond (T 6) (.seq (rg [mo 2 (.assign (.const (.int .i64 2)))])
     (.ret))
    (.seq (.seq (rg [mo 11 (.binOp .eql 3 (T 3) (.const (.int .i64 2)) 3),
        mo 10 (.assign (T 11))])
      (.cond (T 10) (.skip)
      (.seq (rg [mo 12 (.binOp .eql 3 (T 3) (.const (.int .i64 3)) 3),
         mo 10 (.assign (T 12))])
       (.cond (T 10) (.skip)
       (.seq (rg [mo 13 (.binOp .eql 3 (T 3) (.const (.int .i64 4)) 3),
          mo 10 (.assign (T 13))])
        (.cond (T 10) (.skip)
        (.seq (rg [mo 14 (.binOp .eql 3 (T 3) (.const (.int .i64 5)) 3),
           mo 10 (.assign (T 14))])
         (.cond (T 10) (.skip)
         (.seq (rg [mo 15 (.binOp .eql 3 (T 3) (.const (.int .i64 19)) 3),
            mo 10 (.assign (T 15))])
          (.cond (T 10) (.skip)
          (rg [mo 16 (.binOp .eql 3 (T 3) (.const (.int .i64 22)) 3),
            mo 10 (.assign (T 16))])))))))))))
     (.cond (T 10) (.seq (rg [mo 2 (.assign (.const (.int .i64 3)))])
      (.ret))
     (.seq (.seq (rg [mo 18 (.binOp .eql 3 (T 3) (.const (.int .i64 1)) 3),
         mo 17 (.assign (T 18))])
       (.cond (T 17) (.skip)
       (.seq (rg [mo 19 (.binOp .eql 3 (T 3) (.const (.int .i64 23)) 3),
          mo 17 (.assign (T 19))])
        (.cond (T 17) (.skip)
        (.seq (rg [mo 20 (.binOp .eql 3 (T 3) (.const (.int .i64 26)) 3),
           mo 17 (.assign (T 20))])
         (.cond (T 17) (.skip)
         (rg [mo 21 (.binOp .eql 3 (T 3) (.const (.int .i64 27)) 3),
           mo 17 (.assign (T 21))])))))))
      (.cond (T 17) (.seq (rg [mo 2 (.assign (.const (.int .i64 4)))])
       (.ret))
      (.skip)))))))))))
 (.seq (.seq (rg [mo 22 (.move (T 0)),
    mo 23 (.binOp .geq 3 (T 22) (.const (.int .i64 7)) 3),
    mo 24 (.move (T 23)),
    mg 25 2 true (.move (T 0)),
    mg 26 2 true (.binOp .leq 3 (T 25) (.const (.int .i64 21)) 3),
    mo 27 (.pick (T 24) (T 26) (.const (.bool false)))])
  (.cond (T 27) (.seq (rg [mo 2 (.assign (.const (.int .i64 3)))])
   (.ret))
  (.skip)))
 (.seq (rg [mo 2 (.assign (.const (.int .i64 0)))])
 (.ret))))
theorem body_83 : Try.f83.body.map strip = some c83 := by kernel_rfl
theorem go_83 {args : List Value} {h : DHeap} {R : DEnd → DHeap → Prop} (ha : args.length ≤ 28) (hx : xs Try.prog 28 c83 (XPost Try.prog [(.tmp 2)] R) ⟨argsFr args 28, [], h, none⟩) : Ct Try.prog 83 args h R :=
  Ct_xs (show Try.prog.funcs[83]? = some Try.f83 by kernel_rfl) body_83 (by kernel_rfl) (by kernel_rfl) ha (by kernel_rfl) hx
/-! trivet/trivetref13.first -/
def c84 : Code :=
 .seq (rg [mo 2 (.assign (.const (.bool false)))])
 (.seq (rg [mo 3 (.move (T 0)),
   mo 4 (.binOp .neq 3 (T 3) (.const (.int .i64 0)) 3),
   mo 5 (.move (T 4)),
   mg 6 2 true (.move (T 0)),
   mg 7 2 true (.binOp .neq 3 (T 6) (.const (.int .i64 6)) 3),
   mo 8 (.pick (T 5) (T 7) (.const (.bool false))),
   mo 9 (.move (T 8)),
   mg 10 6 true (.move (T 0)),
   mg 11 6 true (.binOp .neq 3 (T 10) (.const (.int .i64 22)) 3),
   mo 12 (.pick (T 9) (T 11) (.const (.bool false))),
   mo 13 (.move (T 12)),
   mg 14 10 true (.move (T 0)),
   mg 15 10 true (.binOp .neq 3 (T 14) (.const (.int .i64 25)) 3),
   mo 16 (.pick (T 13) (T 15) (.const (.bool false))),
   mo 2 (.assign (T 16))])
 (.ret))
theorem body_84 : Try.f84.body.map strip = some c84 := by kernel_rfl
theorem go_84 {args : List Value} {h : DHeap} {R : DEnd → DHeap → Prop} (ha : args.length ≤ 17) (hx : xs Try.prog 17 c84 (XPost Try.prog [(.tmp 2)] R) ⟨argsFr args 17, [], h, none⟩) : Ct Try.prog 84 args h R :=
  Ct_xs (show Try.prog.funcs[84]? = some Try.f84 by kernel_rfl) body_84 (by kernel_rfl) (by kernel_rfl) ha (by kernel_rfl) hx
/-! trivet/trivetref13.two -/
def c85 : Code :=
 .seq (rg [mo 2 (.assign (.const (.bool false)))])
 (.seq (rg [mo 3 (.move (T 0)),
   mo 4 (.binOp .geq 3 (T 3) (.const (.int .i64 7)) 3),
   mo 5 (.move (T 4)),
   mg 6 2 true (.move (T 0)),
   mg 7 2 true (.binOp .leq 3 (T 6) (.const (.int .i64 18)) 3),
   mo 8 (.pick (T 5) (T 7) (.const (.bool false))),
   mo 9 (.move (T 8)),
   mg 10 6 false (.move (T 0)),
   mg 11 6 false (.binOp .eql 3 (T 10) (.const (.int .i64 20)) 3),
   mo 12 (.pick (T 9) (.const (.bool true)) (T 11)),
   mo 13 (.move (T 12)),
   mg 14 10 false (.move (T 0)),
   mg 15 10 false (.binOp .eql 3 (T 14) (.const (.int .i64 21)) 3),
   mo 16 (.pick (T 13) (.const (.bool true)) (T 15)),
   mo 17 (.move (T 16)),
   mg 18 14 false (.move (T 0)),
   mg 19 14 false (.binOp .eql 3 (T 18) (.const (.int .i64 26)) 3),
   mo 20 (.pick (T 17) (.const (.bool true)) (T 19)),
   mo 21 (.move (T 20)),
   mg 22 18 false (.move (T 0)),
   mg 23 18 false (.binOp .eql 3 (T 22) (.const (.int .i64 27)) 3),
   mo 24 (.pick (T 21) (.const (.bool true)) (T 23)),
   mo 2 (.assign (T 24))])
 (.ret))
theorem body_85 : Try.f85.body.map strip = some c85 := by kernel_rfl
theorem go_85 {args : List Value} {h : DHeap} {R : DEnd → DHeap → Prop} (ha : args.length ≤ 25) (hx : xs Try.prog 25 c85 (XPost Try.prog [(.tmp 2)] R) ⟨argsFr args 25, [], h, none⟩) : Ct Try.prog 85 args h R :=
  Ct_xs (show Try.prog.funcs[85]? = some Try.f85 by kernel_rfl) body_85 (by kernel_rfl) (by kernel_rfl) ha (by kernel_rfl) hx
/-! trivet/trivetref13.wide -/
def c86 : Code :=
 .seq (rg [mo 2 (.assign (.const (.int .i64 0)))])
 (.seq (rg [mo 4 (.move (T 0)),
   mo 5 (.call ⟨(.value (.func 83)), #[(T 4)], #[3]⟩),
   mo 6 (.binOp .sub 3 (T 5) (.const (.int .i64 1)) 3),
   mo 3 (.assign (T 6))])
 (.seq (.seq (rg [mo 7 (.move (T 0)),
    mo 8 (.call ⟨(.value (.func 84)), #[(T 7)], #[3]⟩)])
  (.cond (T 8) (rg [mo 9 (.move (T 3)),
    mo 10 (.binOp .sub 3 (T 9) (.const (.int .i64 1)) 3),
    mo 3 (.assign (T 10))])
  (.skip)))
 (.seq (.seq (rg [mo 11 (.move (T 0)),
    mo 12 (.call ⟨(.value (.func 85)), #[(T 11)], #[3]⟩)])
  (.cond (T 12) (rg [mo 13 (.move (T 3)),
    mo 14 (.binOp .sub 3 (T 13) (.const (.int .i64 1)) 3),
    mo 3 (.assign (T 14))])
  (.skip)))
 (.seq (rg [mo 15 (.move (T 3)),
   mo 2 (.assign (T 15))])
 (.ret)))))
theorem body_86 : Try.f86.body.map strip = some c86 := by kernel_rfl
theorem go_86 {args : List Value} {h : DHeap} {R : DEnd → DHeap → Prop} (ha : args.length ≤ 16) (hx : xs Try.prog 16 c86 (XPost Try.prog [(.tmp 2)] R) ⟨argsFr args 16, [], h, none⟩) : Ct Try.prog 86 args h R :=
  Ct_xs (show Try.prog.funcs[86]? = some Try.f86 by kernel_rfl) body_86 (by kernel_rfl) (by kernel_rfl) ha (by kernel_rfl) hx
/-! trivet/trivetref13.index -/
def c87 : Code :=
 .seq (rg [mo 1 (.box 95 (T 0)),
   mo 2 (.assign (.const (.int .i64 0)))])
 (.seq (.seq (rg [mo 3 (.fieldAddr 95 (T 1) 1),
    mo 4 (.load 3 (T 3)),
    mo 5 (.call ⟨(.value (.func 84)), #[(T 4)], #[3]⟩),
    mo 6 (.move (T 5)),
    mg 7 3 true (.fieldAddr 95 (T 1) 2),
    mg 8 3 true (.load 3 (T 7)),
    mg 9 3 true (.binOp .lss 3 (T 8) (.const (.int .i64 0)) 3),
    mg 10 3 true (.move (T 9)),
    mg 11 7 false (.fieldAddr 95 (T 1) 2),
    mg 12 7 false (.load 3 (T 11)),
    mg 13 7 false (.binOp .geq 3 (T 12) (.const (.int .i64 8)) 3),
    mg 14 3 true (.pick (T 10) (.const (.bool true)) (T 13)),
    mo 15 (.pick (T 6) (T 14) (.const (.bool false))),
    mo 16 (.move (T 15)),
    mg 17 13 false (.fieldAddr 95 (T 1) 1),
    mg 18 13 false (.load 3 (T 17)),
    mg 19 13 false (.call ⟨(.value (.func 85)), #[(T 18)], #[3]⟩),
    mg 20 13 false (.move (T 19)),
    mg 21 17 true (.fieldAddr 95 (T 1) 3),
    mg 22 17 true (.load 3 (T 21)),
    mg 23 17 true (.binOp .lss 3 (T 22) (.const (.int .i64 0)) 3),
    mg 24 17 true (.move (T 23)),
    mg 25 21 false (.fieldAddr 95 (T 1) 3),
    mg 26 21 false (.load 3 (T 25)),
    mg 27 21 false (.binOp .geq 3 (T 26) (.const (.int .i64 8)) 3),
    mg 28 17 true (.pick (T 24) (.const (.bool true)) (T 27)),
    mg 29 13 false (.pick (T 20) (T 28) (.const (.bool false))),
    mo 30 (.pick (T 16) (.const (.bool true)) (T 29))])
  (.cond (T 30) (.seq (rg [mo 2 (.assign (.const (.int .i64 132)))])
   (.ret))
  (.skip)))
 (.seq (.seq (rg [mo 31 (.fieldAddr 95 (T 1) 1),
    mo 32 (.load 3 (T 31)),
    mo 33 (.binOp .eql 3 (T 32) (.const (.int .i64 19)) 3),
    mo 34 (.move (T 33)),
    mg 35 3 true (.fieldAddr 95 (T 1) 4),
    mg 36 3 true (.load 2 (T 35)),
    mg 37 3 true (.binOp .neq 2 (T 36) (.const (.int .i64 8)) 2),
    mo 38 (.pick (T 34) (T 37) (.const (.bool false))),
    mo 39 (.move (T 38)),
    mg 40 8 true (.fieldAddr 95 (T 1) 4),
    mg 41 8 true (.load 2 (T 40)),
    mg 42 8 true (.binOp .neq 2 (T 41) (.const (.int .i64 16)) 2),
    mo 43 (.pick (T 39) (T 42) (.const (.bool false))),
    mo 44 (.move (T 43)),
    mg 45 13 true (.fieldAddr 95 (T 1) 4),
    mg 46 13 true (.load 2 (T 45)),
    mg 47 13 true (.binOp .neq 2 (T 46) (.const (.int .i64 32)) 2),
    mo 48 (.pick (T 44) (T 47) (.const (.bool false)))])
  (.cond (T 48) (.seq (rg [mo 2 (.assign (.const (.int .i64 132)))])
   (.ret))
  (.skip)))
 (.seq (rg [mo 2 (.assign (.const (.int .i64 0)))])
 (.ret))))
theorem body_87 : Try.f87.body.map strip = some c87 := by kernel_rfl
theorem go_87 {args : List Value} {h : DHeap} {R : DEnd → DHeap → Prop} (ha : args.length ≤ 49) (hx : xs Try.prog 49 c87 (XPost Try.prog [(.tmp 2)] R) ⟨argsFr args 49, [], h, none⟩) : Ct Try.prog 87 args h R :=
  Ct_xs (show Try.prog.funcs[87]? = some Try.f87 by kernel_rfl) body_87 (by kernel_rfl) (by kernel_rfl) ha (by kernel_rfl) hx
/-! trivet/code.Size -/
def c88 : Code :=
 .seq (rg [mo 2 (.assign (.const (.int .i64 0))),
   mo 3 (.assign (.const (.bool false)))])
 (.seq (rg [mo 10 (.move (T 0)),
   mo 11 (.call ⟨(.value (.func 89)), #[(T 10)], #[3]⟩),
   mo 9 (.move (T 11)),
   mo 12 (.extract (T 9) 0),
   mo 13 (.extract (T 9) 1),
   mo 4 (.assign (T 12)),
   mo 5 (.assign (T 13))])
 (.seq (.seq (rg [mo 14 (.move (T 5)),
    mo 15 (.unOp .not 4 (T 14))])
  (.cond (T 15) (.seq (rg [mo 2 (.assign (.const (.int .i64 0))),
     mo 3 (.assign (.const (.bool false)))])
   (.ret))
  (.skip)))
 (.seq (rg [mo 6 (.assign (.const (.int .i64 1)))])
 (.seq (.seq (rg [mo 16 (.build 144 #[(0, (.const (.int .i64 1))), (1, (.const (.int .i64 1)))]),
    mo 17 (.build 144 #[(0, (.const (.int .i64 2))), (1, (.const (.int .i64 1)))]),
    mo 18 (.build 144 #[(0, (.const (.int .i64 4))), (1, (.const (.int .i64 1)))]),
    mo 19 (.build 144 #[(0, (.const (.int .i64 8))), (1, (.const (.int .i64 2)))]),
    mo 20 (.build 144 #[(0, (.const (.int .i64 16))), (1, (.const (.int .i64 2)))]),
    mo 21 (.build 145 #[(0, (T 16)), (1, (T 17)), (2, (T 18)), (3, (T 19)), (4, (T 20))]),
    mo 22 (.move (.const (.int .i64 0)))])
  (.block 0 (.loop (.seq (rg [mo 23 (.binOp .lss 3 (T 22) (.const (.int .i64 5)) 3)])
    (.seq (.cond (T 23) (.skip)
     (.exit 0))
    (.seq (.block 1 (.seq (rg [mo 24 (.index 145 (T 21) (T 22)),
        mo 8 (.alloc 144),
        mx (.store 144 (T 8) (T 24))])
      (.seq (rg [mo 25 (.move (T 4)),
        mo 26 (.indexAddr 144 (T 8) (.const (.int .i64 0))),
        mo 27 (.load 3 (T 26)),
        mo 28 (.binOp .and 3 (T 25) (T 27) 3),
        mo 29 (.binOp .neq 3 (T 28) (.const (.int .i64 0)) 3)])
      (.cond (T 29) (rg [mo 30 (.move (T 6)),
        mo 31 (.indexAddr 144 (T 8) (.const (.int .i64 1))),
        mo 32 (.load 3 (T 31)),
        mo 33 (.binOp .add 3 (T 30) (T 32) 3),
        mo 6 (.assign (T 33))])
      (.skip)))))
    (rg [mo 34 (.binOp .add 3 (T 22) (.const (.int .i64 1)) 3),
     mo 22 (.move (T 34))])))))))
 (.seq (rg [mo 35 (.move (T 6)),
   mo 2 (.assign (T 35)),
   mo 3 (.assign (.const (.bool true)))])
 (.ret))))))
theorem body_88 : Try.f88.body.map strip = some c88 := by kernel_rfl
theorem go_88 {args : List Value} {h : DHeap} {R : DEnd → DHeap → Prop} (ha : args.length ≤ 36) (hx : xs Try.prog 36 c88 (XPost Try.prog [(.tmp 2), (.tmp 3)] R) ⟨argsFr args 36, [], h, none⟩) : Ct Try.prog 88 args h R :=
  Ct_xs (show Try.prog.funcs[88]? = some Try.f88 by kernel_rfl) body_88 (by kernel_rfl) (by kernel_rfl) ha (by kernel_rfl) hx
/-! trivet/code.form -/
def c89 : Code :=
 .seq (rg [mo 2 (.assign (.const (.int .i64 0))),
   mo 3 (.assign (.const (.bool false)))])
 (.seq (rg [mo 5 (.build 146 #[(0, (.const (.int .i64 0))), (1, (.const (.int .i64 9))), (2, (.const (.int .i64 5))), (3, (.const (.int .i64 5))), (4, (.const (.int .i64 5))), (5, (.const (.int .i64 5))), (6, (.const (.int .i64 4))), (7, (.const (.int .i64 3))), (8, (.const (.int .i64 3))), (9, (.const (.int .i64 3))), (10, (.const (.int .i64 3))), (11, (.const (.int .i64 3))), (12, (.const (.int .i64 3))), (13, (.const (.int .i64 3))), (14, (.const (.int .i64 3))), (15, (.const (.int .i64 3))), (16, (.const (.int .i64 3))), (17, (.const (.int .i64 3))), (18, (.const (.int .i64 3))), (19, (.const (.int .i64 5))), (20, (.const (.int .i64 3))), (21, (.const (.int .i64 3))), (22, (.const (.int .i64 16))), (23, (.const (.int .i64 17))), (24, (.const (.int .i64 1))), (25, (.const (.int .i64 4))), (26, (.const (.int .i64 7))), (27, (.const (.int .i64 7)))]),
   mo 4 (.alloc 146),
   mx (.store 146 (T 4) (T 5))])
 (.seq (.seq (rg [mo 6 (.move (T 0)),
    mo 7 (.binOp .lss 3 (T 6) (.const (.int .i64 0)) 3),
    mo 8 (.move (T 7)),
    mg 9 2 false (.move (T 0)),
    mg 10 2 false (.binOp .geq 3 (T 9) (.const (.int .i64 28)) 3),
    mo 11 (.pick (T 8) (.const (.bool true)) (T 10))])
  (.cond (T 11) (.seq (rg [mo 2 (.assign (.const (.int .i64 0))),
     mo 3 (.assign (.const (.bool false)))])
   (.ret))
  (.skip)))
 (.seq (rg [mo 12 (.move (T 0)),
   mo 13 (.indexAddr 146 (T 4) (T 12)),
   mo 14 (.load 3 (T 13)),
   mo 2 (.assign (T 14)),
   mo 3 (.assign (.const (.bool true)))])
 (.ret))))
theorem body_89 : Try.f89.body.map strip = some c89 := by kernel_rfl
theorem go_89 {args : List Value} {h : DHeap} {R : DEnd → DHeap → Prop} (ha : args.length ≤ 15) (hx : xs Try.prog 15 c89 (XPost Try.prog [(.tmp 2), (.tmp 3)] R) ⟨argsFr args 15, [], h, none⟩) : Ct Try.prog 89 args h R :=
  Ct_xs (show Try.prog.funcs[89]? = some Try.f89 by kernel_rfl) body_89 (by kernel_rfl) (by kernel_rfl) ha (by kernel_rfl) hx
/-! trivet/code.index -/
def c90 : Code :=
 .seq (rg [mo 1 (.box 95 (T 0)),
   mo 2 (.assign (.const (.bool false)))])
 (.seq (rg [mo 3 (.fieldAddr 95 (T 1) 2),
   mo 4 (.load 3 (T 3)),
   mo 5 (.binOp .geq 3 (T 4) (.const (.int .i64 0)) 3),
   mo 6 (.move (T 5)),
   mg 7 3 true (.fieldAddr 95 (T 1) 2),
   mg 8 3 true (.load 3 (T 7)),
   mg 9 3 true (.binOp .lss 3 (T 8) (.const (.int .i64 8)) 3),
   mo 10 (.pick (T 6) (T 9) (.const (.bool false))),
   mo 11 (.move (T 10)),
   mg 12 8 true (.fieldAddr 95 (T 1) 3),
   mg 13 8 true (.load 3 (T 12)),
   mg 14 8 true (.binOp .geq 3 (T 13) (.const (.int .i64 0)) 3),
   mo 15 (.pick (T 11) (T 14) (.const (.bool false))),
   mo 16 (.move (T 15)),
   mg 17 13 true (.fieldAddr 95 (T 1) 3),
   mg 18 13 true (.load 3 (T 17)),
   mg 19 13 true (.binOp .lss 3 (T 18) (.const (.int .i64 8)) 3),
   mo 20 (.pick (T 16) (T 19) (.const (.bool false))),
   mo 21 (.move (T 20)),
   mg 22 18 true (.fieldAddr 95 (T 1) 1),
   mg 23 18 true (.load 3 (T 22)),
   mg 24 18 true (.binOp .neq 3 (T 23) (.const (.int .i64 19)) 3),
   mg 25 18 true (.move (T 24)),
   mg 26 22 false (.fieldAddr 95 (T 1) 4),
   mg 27 22 false (.load 2 (T 26)),
   mg 28 22 false (.binOp .eql 2 (T 27) (.const (.int .i64 8)) 2),
   mg 29 18 true (.pick (T 25) (.const (.bool true)) (T 28)),
   mg 30 18 true (.move (T 29)),
   mg 31 27 false (.fieldAddr 95 (T 1) 4),
   mg 32 27 false (.load 2 (T 31)),
   mg 33 27 false (.binOp .eql 2 (T 32) (.const (.int .i64 16)) 2),
   mg 34 18 true (.pick (T 30) (.const (.bool true)) (T 33)),
   mg 35 18 true (.move (T 34)),
   mg 36 32 false (.fieldAddr 95 (T 1) 4),
   mg 37 32 false (.load 2 (T 36)),
   mg 38 32 false (.binOp .eql 2 (T 37) (.const (.int .i64 32)) 2),
   mg 39 18 true (.pick (T 35) (.const (.bool true)) (T 38)),
   mo 40 (.pick (T 21) (T 39) (.const (.bool false))),
   mo 2 (.assign (T 40))])
 (.ret))
theorem body_90 : Try.f90.body.map strip = some c90 := by kernel_rfl
theorem go_90 {args : List Value} {h : DHeap} {R : DEnd → DHeap → Prop} (ha : args.length ≤ 41) (hx : xs Try.prog 41 c90 (XPost Try.prog [(.tmp 2)] R) ⟨argsFr args 41, [], h, none⟩) : Ct Try.prog 90 args h R :=
  Ct_xs (show Try.prog.funcs[90]? = some Try.f90 by kernel_rfl) body_90 (by kernel_rfl) (by kernel_rfl) ha (by kernel_rfl) hx
end Go.Proofs.Ytbdljpndncohaaa

namespace Go.Proofs.Ytbdljpndncohaaa
open Go.D
theorem one_2 : tyOne Try.prog 2 = true := by kernel_rfl
theorem ld_2 {h : DHeap} {id o : Nat} : dLoad Try.prog 2 (.pointer (some ⟨id, o, none⟩)) h = cellAt h id o := dLoad_one one_2
theorem one_3 : tyOne Try.prog 3 = true := by kernel_rfl
theorem ld_3 {h : DHeap} {id o : Nat} : dLoad Try.prog 3 (.pointer (some ⟨id, o, none⟩)) h = cellAt h id o := dLoad_one one_3
theorem one_4 : tyOne Try.prog 4 = true := by kernel_rfl
theorem ld_4 {h : DHeap} {id o : Nat} : dLoad Try.prog 4 (.pointer (some ⟨id, o, none⟩)) h = cellAt h id o := dLoad_one one_4
theorem one_5 : tyOne Try.prog 5 = true := by kernel_rfl
theorem ld_5 {h : DHeap} {id o : Nat} : dLoad Try.prog 5 (.pointer (some ⟨id, o, none⟩)) h = cellAt h id o := dLoad_one one_5
theorem one_21 : tyOne Try.prog 21 = true := by kernel_rfl
theorem ld_21 {h : DHeap} {id o : Nat} : dLoad Try.prog 21 (.pointer (some ⟨id, o, none⟩)) h = cellAt h id o := dLoad_one one_21
theorem one_22 : tyOne Try.prog 22 = true := by kernel_rfl
theorem ld_22 {h : DHeap} {id o : Nat} : dLoad Try.prog 22 (.pointer (some ⟨id, o, none⟩)) h = cellAt h id o := dLoad_one one_22
theorem st_22 {h : DHeap} {id o : Nat} {v : Value} (hv : v.cells = #[v]) : dStore Try.prog 22 (.pointer (some ⟨id, o, none⟩)) v h = storeAt h id o [v] := dStore_one one_22 hv
theorem one_23 : tyOne Try.prog 23 = true := by kernel_rfl
theorem ld_23 {h : DHeap} {id o : Nat} : dLoad Try.prog 23 (.pointer (some ⟨id, o, none⟩)) h = cellAt h id o := dLoad_one one_23
theorem st_23 {h : DHeap} {id o : Nat} {v : Value} (hv : v.cells = #[v]) : dStore Try.prog 23 (.pointer (some ⟨id, o, none⟩)) v h = storeAt h id o [v] := dStore_one one_23 hv
theorem one_24 : tyOne Try.prog 24 = true := by kernel_rfl
theorem ld_24 {h : DHeap} {id o : Nat} : dLoad Try.prog 24 (.pointer (some ⟨id, o, none⟩)) h = cellAt h id o := dLoad_one one_24
theorem st_24 {h : DHeap} {id o : Nat} {v : Value} (hv : v.cells = #[v]) : dStore Try.prog 24 (.pointer (some ⟨id, o, none⟩)) v h = storeAt h id o [v] := dStore_one one_24 hv
theorem agg_26 : tyAgg Try.prog 26 = some 6 := by kernel_rfl
theorem ld_26 {h : DHeap} {id o : Nat} : dLoad Try.prog 26 (.pointer (some ⟨id, o, none⟩)) h = cellsAt h id o 6 := dLoad_agg agg_26
theorem st_26 {h : DHeap} {id o : Nat} {cs : Array Value} (hv : cs.size = 6) : dStore Try.prog 26 (.pointer (some ⟨id, o, none⟩)) (.agg cs) h = storeAt h id o cs.toList := dStore_agg agg_26 hv
theorem one_31 : tyOne Try.prog 31 = true := by kernel_rfl
theorem ld_31 {h : DHeap} {id o : Nat} : dLoad Try.prog 31 (.pointer (some ⟨id, o, none⟩)) h = cellAt h id o := dLoad_one one_31
theorem agg_36 : tyAgg Try.prog 36 = some 10 := by kernel_rfl
theorem ld_36 {h : DHeap} {id o : Nat} : dLoad Try.prog 36 (.pointer (some ⟨id, o, none⟩)) h = cellsAt h id o 10 := dLoad_agg agg_36
theorem st_36 {h : DHeap} {id o : Nat} {cs : Array Value} (hv : cs.size = 10) : dStore Try.prog 36 (.pointer (some ⟨id, o, none⟩)) (.agg cs) h = storeAt h id o cs.toList := dStore_agg agg_36 hv
theorem agg_45 : tyAgg Try.prog 45 = some 4 := by kernel_rfl
theorem ld_45 {h : DHeap} {id o : Nat} : dLoad Try.prog 45 (.pointer (some ⟨id, o, none⟩)) h = cellsAt h id o 4 := dLoad_agg agg_45
theorem st_45 {h : DHeap} {id o : Nat} {cs : Array Value} (hv : cs.size = 4) : dStore Try.prog 45 (.pointer (some ⟨id, o, none⟩)) (.agg cs) h = storeAt h id o cs.toList := dStore_agg agg_45 hv
theorem agg_54 : tyAgg Try.prog 54 = some 2 := by kernel_rfl
theorem ld_54 {h : DHeap} {id o : Nat} : dLoad Try.prog 54 (.pointer (some ⟨id, o, none⟩)) h = cellsAt h id o 2 := dLoad_agg agg_54
theorem st_54 {h : DHeap} {id o : Nat} {cs : Array Value} (hv : cs.size = 2) : dStore Try.prog 54 (.pointer (some ⟨id, o, none⟩)) (.agg cs) h = storeAt h id o cs.toList := dStore_agg agg_54 hv
theorem one_91 : tyOne Try.prog 91 = true := by kernel_rfl
theorem ld_91 {h : DHeap} {id o : Nat} : dLoad Try.prog 91 (.pointer (some ⟨id, o, none⟩)) h = cellAt h id o := dLoad_one one_91
theorem st_91 {h : DHeap} {id o : Nat} {v : Value} (hv : v.cells = #[v]) : dStore Try.prog 91 (.pointer (some ⟨id, o, none⟩)) v h = storeAt h id o [v] := dStore_one one_91 hv
theorem agg_95 : tyAgg Try.prog 95 = some 5 := by kernel_rfl
theorem ld_95 {h : DHeap} {id o : Nat} : dLoad Try.prog 95 (.pointer (some ⟨id, o, none⟩)) h = cellsAt h id o 5 := dLoad_agg agg_95
theorem st_95 {h : DHeap} {id o : Nat} {cs : Array Value} (hv : cs.size = 5) : dStore Try.prog 95 (.pointer (some ⟨id, o, none⟩)) (.agg cs) h = storeAt h id o cs.toList := dStore_agg agg_95 hv
theorem agg_117 : tyAgg Try.prog 117 = some 1 := by kernel_rfl
theorem st_117 {h : DHeap} {id o : Nat} {cs : Array Value} (hv : cs.size = 1) : dStore Try.prog 117 (.pointer (some ⟨id, o, none⟩)) (.agg cs) h = storeAt h id o cs.toList := dStore_agg agg_117 hv
theorem agg_144 : tyAgg Try.prog 144 = some 2 := by kernel_rfl
theorem st_144 {h : DHeap} {id o : Nat} {cs : Array Value} (hv : cs.size = 2) : dStore Try.prog 144 (.pointer (some ⟨id, o, none⟩)) (.agg cs) h = storeAt h id o cs.toList := dStore_agg agg_144 hv
theorem agg_146 : tyAgg Try.prog 146 = some 28 := by kernel_rfl
theorem st_146 {h : DHeap} {id o : Nat} {cs : Array Value} (hv : cs.size = 28) : dStore Try.prog 146 (.pointer (some ⟨id, o, none⟩)) (.agg cs) h = storeAt h id o cs.toList := dStore_agg agg_146 hv
theorem fa_26_0 {id o : Nat} : dFieldAddr Try.prog 26 (.pointer (some ⟨id, o, none⟩)) 0 = some (.pointer (some ⟨id, o + 0, none⟩)) := dFieldAddr_at (show fieldOff Try.prog 26 0 = some 0 by kernel_rfl)
theorem fa_26_1 {id o : Nat} : dFieldAddr Try.prog 26 (.pointer (some ⟨id, o, none⟩)) 1 = some (.pointer (some ⟨id, o + 1, none⟩)) := dFieldAddr_at (show fieldOff Try.prog 26 1 = some 1 by kernel_rfl)
theorem fa_26_2 {id o : Nat} : dFieldAddr Try.prog 26 (.pointer (some ⟨id, o, none⟩)) 2 = some (.pointer (some ⟨id, o + 2, none⟩)) := dFieldAddr_at (show fieldOff Try.prog 26 2 = some 2 by kernel_rfl)
theorem fa_26_3 {id o : Nat} : dFieldAddr Try.prog 26 (.pointer (some ⟨id, o, none⟩)) 3 = some (.pointer (some ⟨id, o + 3, none⟩)) := dFieldAddr_at (show fieldOff Try.prog 26 3 = some 3 by kernel_rfl)
theorem fa_26_4 {id o : Nat} : dFieldAddr Try.prog 26 (.pointer (some ⟨id, o, none⟩)) 4 = some (.pointer (some ⟨id, o + 4, none⟩)) := dFieldAddr_at (show fieldOff Try.prog 26 4 = some 4 by kernel_rfl)
theorem fa_26_5 {id o : Nat} : dFieldAddr Try.prog 26 (.pointer (some ⟨id, o, none⟩)) 5 = some (.pointer (some ⟨id, o + 5, none⟩)) := dFieldAddr_at (show fieldOff Try.prog 26 5 = some 5 by kernel_rfl)
theorem fa_36_0 {id o : Nat} : dFieldAddr Try.prog 36 (.pointer (some ⟨id, o, none⟩)) 0 = some (.pointer (some ⟨id, o + 0, none⟩)) := dFieldAddr_at (show fieldOff Try.prog 36 0 = some 0 by kernel_rfl)
theorem fa_36_1 {id o : Nat} : dFieldAddr Try.prog 36 (.pointer (some ⟨id, o, none⟩)) 1 = some (.pointer (some ⟨id, o + 1, none⟩)) := dFieldAddr_at (show fieldOff Try.prog 36 1 = some 1 by kernel_rfl)
theorem fa_45_1 {id o : Nat} : dFieldAddr Try.prog 45 (.pointer (some ⟨id, o, none⟩)) 1 = some (.pointer (some ⟨id, o + 1, none⟩)) := dFieldAddr_at (show fieldOff Try.prog 45 1 = some 1 by kernel_rfl)
theorem fa_45_2 {id o : Nat} : dFieldAddr Try.prog 45 (.pointer (some ⟨id, o, none⟩)) 2 = some (.pointer (some ⟨id, o + 2, none⟩)) := dFieldAddr_at (show fieldOff Try.prog 45 2 = some 2 by kernel_rfl)
theorem fa_47_0 {id o : Nat} : dFieldAddr Try.prog 47 (.pointer (some ⟨id, o, none⟩)) 0 = some (.pointer (some ⟨id, o + 0, none⟩)) := dFieldAddr_at (show fieldOff Try.prog 47 0 = some 0 by kernel_rfl)
theorem fa_47_1 {id o : Nat} : dFieldAddr Try.prog 47 (.pointer (some ⟨id, o, none⟩)) 1 = some (.pointer (some ⟨id, o + 1, none⟩)) := dFieldAddr_at (show fieldOff Try.prog 47 1 = some 1 by kernel_rfl)
theorem fa_47_2 {id o : Nat} : dFieldAddr Try.prog 47 (.pointer (some ⟨id, o, none⟩)) 2 = some (.pointer (some ⟨id, o + 2, none⟩)) := dFieldAddr_at (show fieldOff Try.prog 47 2 = some 2 by kernel_rfl)
theorem fa_54_0 {id o : Nat} : dFieldAddr Try.prog 54 (.pointer (some ⟨id, o, none⟩)) 0 = some (.pointer (some ⟨id, o + 0, none⟩)) := dFieldAddr_at (show fieldOff Try.prog 54 0 = some 0 by kernel_rfl)
theorem fa_54_1 {id o : Nat} : dFieldAddr Try.prog 54 (.pointer (some ⟨id, o, none⟩)) 1 = some (.pointer (some ⟨id, o + 1, none⟩)) := dFieldAddr_at (show fieldOff Try.prog 54 1 = some 1 by kernel_rfl)
theorem fa_76_0 {id o : Nat} : dFieldAddr Try.prog 76 (.pointer (some ⟨id, o, none⟩)) 0 = some (.pointer (some ⟨id, o + 0, none⟩)) := dFieldAddr_at (show fieldOff Try.prog 76 0 = some 0 by kernel_rfl)
theorem fa_76_1 {id o : Nat} : dFieldAddr Try.prog 76 (.pointer (some ⟨id, o, none⟩)) 1 = some (.pointer (some ⟨id, o + 1, none⟩)) := dFieldAddr_at (show fieldOff Try.prog 76 1 = some 1 by kernel_rfl)
theorem fa_76_2 {id o : Nat} : dFieldAddr Try.prog 76 (.pointer (some ⟨id, o, none⟩)) 2 = some (.pointer (some ⟨id, o + 2, none⟩)) := dFieldAddr_at (show fieldOff Try.prog 76 2 = some 2 by kernel_rfl)
theorem fa_76_3 {id o : Nat} : dFieldAddr Try.prog 76 (.pointer (some ⟨id, o, none⟩)) 3 = some (.pointer (some ⟨id, o + 3, none⟩)) := dFieldAddr_at (show fieldOff Try.prog 76 3 = some 3 by kernel_rfl)
theorem fa_76_4 {id o : Nat} : dFieldAddr Try.prog 76 (.pointer (some ⟨id, o, none⟩)) 4 = some (.pointer (some ⟨id, o + 4, none⟩)) := dFieldAddr_at (show fieldOff Try.prog 76 4 = some 4 by kernel_rfl)
theorem fa_76_5 {id o : Nat} : dFieldAddr Try.prog 76 (.pointer (some ⟨id, o, none⟩)) 5 = some (.pointer (some ⟨id, o + 10, none⟩)) := dFieldAddr_at (show fieldOff Try.prog 76 5 = some 10 by kernel_rfl)
theorem fa_76_6 {id o : Nat} : dFieldAddr Try.prog 76 (.pointer (some ⟨id, o, none⟩)) 6 = some (.pointer (some ⟨id, o + 11, none⟩)) := dFieldAddr_at (show fieldOff Try.prog 76 6 = some 11 by kernel_rfl)
theorem fa_76_7 {id o : Nat} : dFieldAddr Try.prog 76 (.pointer (some ⟨id, o, none⟩)) 7 = some (.pointer (some ⟨id, o + 12, none⟩)) := dFieldAddr_at (show fieldOff Try.prog 76 7 = some 12 by kernel_rfl)
theorem fa_76_8 {id o : Nat} : dFieldAddr Try.prog 76 (.pointer (some ⟨id, o, none⟩)) 8 = some (.pointer (some ⟨id, o + 13, none⟩)) := dFieldAddr_at (show fieldOff Try.prog 76 8 = some 13 by kernel_rfl)
theorem fa_76_9 {id o : Nat} : dFieldAddr Try.prog 76 (.pointer (some ⟨id, o, none⟩)) 9 = some (.pointer (some ⟨id, o + 14, none⟩)) := dFieldAddr_at (show fieldOff Try.prog 76 9 = some 14 by kernel_rfl)
theorem fa_86_0 {id o : Nat} : dFieldAddr Try.prog 86 (.pointer (some ⟨id, o, none⟩)) 0 = some (.pointer (some ⟨id, o + 0, none⟩)) := dFieldAddr_at (show fieldOff Try.prog 86 0 = some 0 by kernel_rfl)
theorem fa_86_1 {id o : Nat} : dFieldAddr Try.prog 86 (.pointer (some ⟨id, o, none⟩)) 1 = some (.pointer (some ⟨id, o + 1, none⟩)) := dFieldAddr_at (show fieldOff Try.prog 86 1 = some 1 by kernel_rfl)
theorem fa_86_2 {id o : Nat} : dFieldAddr Try.prog 86 (.pointer (some ⟨id, o, none⟩)) 2 = some (.pointer (some ⟨id, o + 2, none⟩)) := dFieldAddr_at (show fieldOff Try.prog 86 2 = some 2 by kernel_rfl)
theorem fa_86_3 {id o : Nat} : dFieldAddr Try.prog 86 (.pointer (some ⟨id, o, none⟩)) 3 = some (.pointer (some ⟨id, o + 3, none⟩)) := dFieldAddr_at (show fieldOff Try.prog 86 3 = some 3 by kernel_rfl)
theorem fa_86_4 {id o : Nat} : dFieldAddr Try.prog 86 (.pointer (some ⟨id, o, none⟩)) 4 = some (.pointer (some ⟨id, o + 4, none⟩)) := dFieldAddr_at (show fieldOff Try.prog 86 4 = some 4 by kernel_rfl)
theorem fa_86_5 {id o : Nat} : dFieldAddr Try.prog 86 (.pointer (some ⟨id, o, none⟩)) 5 = some (.pointer (some ⟨id, o + 10, none⟩)) := dFieldAddr_at (show fieldOff Try.prog 86 5 = some 10 by kernel_rfl)
theorem fa_86_6 {id o : Nat} : dFieldAddr Try.prog 86 (.pointer (some ⟨id, o, none⟩)) 6 = some (.pointer (some ⟨id, o + 11, none⟩)) := dFieldAddr_at (show fieldOff Try.prog 86 6 = some 11 by kernel_rfl)
theorem fa_95_0 {id o : Nat} : dFieldAddr Try.prog 95 (.pointer (some ⟨id, o, none⟩)) 0 = some (.pointer (some ⟨id, o + 0, none⟩)) := dFieldAddr_at (show fieldOff Try.prog 95 0 = some 0 by kernel_rfl)
theorem fa_95_1 {id o : Nat} : dFieldAddr Try.prog 95 (.pointer (some ⟨id, o, none⟩)) 1 = some (.pointer (some ⟨id, o + 1, none⟩)) := dFieldAddr_at (show fieldOff Try.prog 95 1 = some 1 by kernel_rfl)
theorem fa_95_2 {id o : Nat} : dFieldAddr Try.prog 95 (.pointer (some ⟨id, o, none⟩)) 2 = some (.pointer (some ⟨id, o + 2, none⟩)) := dFieldAddr_at (show fieldOff Try.prog 95 2 = some 2 by kernel_rfl)
theorem fa_95_3 {id o : Nat} : dFieldAddr Try.prog 95 (.pointer (some ⟨id, o, none⟩)) 3 = some (.pointer (some ⟨id, o + 3, none⟩)) := dFieldAddr_at (show fieldOff Try.prog 95 3 = some 3 by kernel_rfl)
theorem fa_95_4 {id o : Nat} : dFieldAddr Try.prog 95 (.pointer (some ⟨id, o, none⟩)) 4 = some (.pointer (some ⟨id, o + 4, none⟩)) := dFieldAddr_at (show fieldOff Try.prog 95 4 = some 4 by kernel_rfl)
theorem fa_117_0 {id o : Nat} : dFieldAddr Try.prog 117 (.pointer (some ⟨id, o, none⟩)) 0 = some (.pointer (some ⟨id, o + 0, none⟩)) := dFieldAddr_at (show fieldOff Try.prog 117 0 = some 0 by kernel_rfl)
theorem el_22 : slElem Try.prog 22 = some 1 := by kernel_rfl
theorem el_23 : slElem Try.prog 23 = some 1 := by kernel_rfl
theorem el_24 : slElem Try.prog 24 = some 2 := by kernel_rfl
theorem el_91 : slElem Try.prog 91 = some 5 := by kernel_rfl
theorem el_131 : slElem Try.prog 131 = some 1 := by kernel_rfl
theorem cv_3_110 {h : DHeap} {k : IntKind} {n : Int} : dConvertO Try.prog 3 110 h (some (.int k n)) = .ok (.value (.int .u64 (IntKind.u64.wrap n))) h := dConvertO_int (show Try.prog.underlying 3 = some (.int .i64) by kernel_rfl) (show Try.prog.underlying 110 = some (.int .u64) by kernel_rfl)
theorem cv_5_2 {h : DHeap} {k : IntKind} {n : Int} : dConvertO Try.prog 5 2 h (some (.int k n)) = .ok (.value (.int .i64 (IntKind.i64.wrap n))) h := dConvertO_int (show Try.prog.underlying 5 = some (.int .u8) by kernel_rfl) (show Try.prog.underlying 2 = some (.int .i64) by kernel_rfl)
theorem cv_5_3 {h : DHeap} {k : IntKind} {n : Int} : dConvertO Try.prog 5 3 h (some (.int k n)) = .ok (.value (.int .i64 (IntKind.i64.wrap n))) h := dConvertO_int (show Try.prog.underlying 5 = some (.int .u8) by kernel_rfl) (show Try.prog.underlying 3 = some (.int .i64) by kernel_rfl)
theorem cv_5_27 {h : DHeap} {k : IntKind} {n : Int} : dConvertO Try.prog 5 27 h (some (.int k n)) = .ok (.value (.int .u16 (IntKind.u16.wrap n))) h := dConvertO_int (show Try.prog.underlying 5 = some (.int .u8) by kernel_rfl) (show Try.prog.underlying 27 = some (.int .u16) by kernel_rfl)
theorem cv_27_2 {h : DHeap} {k : IntKind} {n : Int} : dConvertO Try.prog 27 2 h (some (.int k n)) = .ok (.value (.int .i64 (IntKind.i64.wrap n))) h := dConvertO_int (show Try.prog.underlying 27 = some (.int .u16) by kernel_rfl) (show Try.prog.underlying 2 = some (.int .i64) by kernel_rfl)
theorem cv_27_137 {h : DHeap} {k : IntKind} {n : Int} : dConvertO Try.prog 27 137 h (some (.int k n)) = .ok (.value (.int .i16 (IntKind.i16.wrap n))) h := dConvertO_int (show Try.prog.underlying 27 = some (.int .u16) by kernel_rfl) (show Try.prog.underlying 137 = some (.int .i16) by kernel_rfl)
theorem cv_130_5 {h : DHeap} {k : IntKind} {n : Int} : dConvertO Try.prog 130 5 h (some (.int k n)) = .ok (.value (.int .u8 (IntKind.u8.wrap n))) h := dConvertO_int (show Try.prog.underlying 130 = some (.int .u64) by kernel_rfl) (show Try.prog.underlying 5 = some (.int .u8) by kernel_rfl)
theorem cv_137_2 {h : DHeap} {k : IntKind} {n : Int} : dConvertO Try.prog 137 2 h (some (.int k n)) = .ok (.value (.int .i64 (IntKind.i64.wrap n))) h := dConvertO_int (show Try.prog.underlying 137 = some (.int .i16) by kernel_rfl) (show Try.prog.underlying 2 = some (.int .i64) by kernel_rfl)
theorem mi_117 {h : DHeap} {v : Value} : dMkIface Try.prog 117 h (some v) = .ok (.value (.iface 117 v)) h := dMkIface_some (by kernel_rfl)
theorem ta_117 {h : DHeap} {v : Value} {ok : Bool} : dTypeAssertO Try.prog 117 ok h (some (.iface 117 v)) = .ok (.value (if ok then .tuple #[v, .bool true] else v)) h := dTypeAssertO_same (by kernel_rfl) ok
theorem ca_9 {h : DHeap} {first cap : Array Value} {vs : List Value} : dCallO Try.prog h (some (.func (.func 9) first cap)) (some vs) = .ok (.enter 9 (first.toList ++ vs ++ cap.toList)) h := dCallO_func (by kernel_rfl) _ _ _
theorem ca_10 {h : DHeap} {first cap : Array Value} {vs : List Value} : dCallO Try.prog h (some (.func (.func 10) first cap)) (some vs) = .ok (.enter 10 (first.toList ++ vs ++ cap.toList)) h := dCallO_func (by kernel_rfl) _ _ _
theorem ca_11 {h : DHeap} {first cap : Array Value} {vs : List Value} : dCallO Try.prog h (some (.func (.func 11) first cap)) (some vs) = .ok (.enter 11 (first.toList ++ vs ++ cap.toList)) h := dCallO_func (by kernel_rfl) _ _ _
theorem ca_12 {h : DHeap} {first cap : Array Value} {vs : List Value} : dCallO Try.prog h (some (.func (.func 12) first cap)) (some vs) = .ok (.enter 12 (first.toList ++ vs ++ cap.toList)) h := dCallO_func (by kernel_rfl) _ _ _
theorem ca_13 {h : DHeap} {first cap : Array Value} {vs : List Value} : dCallO Try.prog h (some (.func (.func 13) first cap)) (some vs) = .ok (.enter 13 (first.toList ++ vs ++ cap.toList)) h := dCallO_func (by kernel_rfl) _ _ _
theorem ca_14 {h : DHeap} {first cap : Array Value} {vs : List Value} : dCallO Try.prog h (some (.func (.func 14) first cap)) (some vs) = .ok (.enter 14 (first.toList ++ vs ++ cap.toList)) h := dCallO_func (by kernel_rfl) _ _ _
theorem ca_15 {h : DHeap} {first cap : Array Value} {vs : List Value} : dCallO Try.prog h (some (.func (.func 15) first cap)) (some vs) = .ok (.enter 15 (first.toList ++ vs ++ cap.toList)) h := dCallO_func (by kernel_rfl) _ _ _
theorem ca_16 {h : DHeap} {first cap : Array Value} {vs : List Value} : dCallO Try.prog h (some (.func (.func 16) first cap)) (some vs) = .ok (.enter 16 (first.toList ++ vs ++ cap.toList)) h := dCallO_func (by kernel_rfl) _ _ _
theorem ca_17 {h : DHeap} {first cap : Array Value} {vs : List Value} : dCallO Try.prog h (some (.func (.func 17) first cap)) (some vs) = .ok (.enter 17 (first.toList ++ vs ++ cap.toList)) h := dCallO_func (by kernel_rfl) _ _ _
theorem ca_18 {h : DHeap} {first cap : Array Value} {vs : List Value} : dCallO Try.prog h (some (.func (.func 18) first cap)) (some vs) = .ok (.enter 18 (first.toList ++ vs ++ cap.toList)) h := dCallO_func (by kernel_rfl) _ _ _
theorem ca_19 {h : DHeap} {first cap : Array Value} {vs : List Value} : dCallO Try.prog h (some (.func (.func 19) first cap)) (some vs) = .ok (.enter 19 (first.toList ++ vs ++ cap.toList)) h := dCallO_func (by kernel_rfl) _ _ _
theorem ca_20 {h : DHeap} {first cap : Array Value} {vs : List Value} : dCallO Try.prog h (some (.func (.func 20) first cap)) (some vs) = .ok (.enter 20 (first.toList ++ vs ++ cap.toList)) h := dCallO_func (by kernel_rfl) _ _ _
theorem ca_21 {h : DHeap} {first cap : Array Value} {vs : List Value} : dCallO Try.prog h (some (.func (.func 21) first cap)) (some vs) = .ok (.enter 21 (first.toList ++ vs ++ cap.toList)) h := dCallO_func (by kernel_rfl) _ _ _
theorem ca_23 {h : DHeap} {first cap : Array Value} {vs : List Value} : dCallO Try.prog h (some (.func (.func 23) first cap)) (some vs) = .ok (.enter 23 (first.toList ++ vs ++ cap.toList)) h := dCallO_func (by kernel_rfl) _ _ _
theorem ca_24 {h : DHeap} {first cap : Array Value} {vs : List Value} : dCallO Try.prog h (some (.func (.func 24) first cap)) (some vs) = .ok (.enter 24 (first.toList ++ vs ++ cap.toList)) h := dCallO_func (by kernel_rfl) _ _ _
theorem ca_31 {h : DHeap} {first cap : Array Value} {vs : List Value} : dCallO Try.prog h (some (.func (.func 31) first cap)) (some vs) = .ok (.enter 31 (first.toList ++ vs ++ cap.toList)) h := dCallO_func (by kernel_rfl) _ _ _
theorem ca_32 {h : DHeap} {first cap : Array Value} {vs : List Value} : dCallO Try.prog h (some (.func (.func 32) first cap)) (some vs) = .ok (.enter 32 (first.toList ++ vs ++ cap.toList)) h := dCallO_func (by kernel_rfl) _ _ _
theorem ca_33 {h : DHeap} {first cap : Array Value} {vs : List Value} : dCallO Try.prog h (some (.func (.func 33) first cap)) (some vs) = .ok (.enter 33 (first.toList ++ vs ++ cap.toList)) h := dCallO_func (by kernel_rfl) _ _ _
theorem ca_34 {h : DHeap} {first cap : Array Value} {vs : List Value} : dCallO Try.prog h (some (.func (.func 34) first cap)) (some vs) = .ok (.enter 34 (first.toList ++ vs ++ cap.toList)) h := dCallO_func (by kernel_rfl) _ _ _
theorem ca_35 {h : DHeap} {first cap : Array Value} {vs : List Value} : dCallO Try.prog h (some (.func (.func 35) first cap)) (some vs) = .ok (.enter 35 (first.toList ++ vs ++ cap.toList)) h := dCallO_func (by kernel_rfl) _ _ _
theorem ca_36 {h : DHeap} {first cap : Array Value} {vs : List Value} : dCallO Try.prog h (some (.func (.func 36) first cap)) (some vs) = .ok (.enter 36 (first.toList ++ vs ++ cap.toList)) h := dCallO_func (by kernel_rfl) _ _ _
theorem ca_37 {h : DHeap} {first cap : Array Value} {vs : List Value} : dCallO Try.prog h (some (.func (.func 37) first cap)) (some vs) = .ok (.enter 37 (first.toList ++ vs ++ cap.toList)) h := dCallO_func (by kernel_rfl) _ _ _
theorem ca_38 {h : DHeap} {first cap : Array Value} {vs : List Value} : dCallO Try.prog h (some (.func (.func 38) first cap)) (some vs) = .ok (.enter 38 (first.toList ++ vs ++ cap.toList)) h := dCallO_func (by kernel_rfl) _ _ _
theorem ca_39 {h : DHeap} {first cap : Array Value} {vs : List Value} : dCallO Try.prog h (some (.func (.func 39) first cap)) (some vs) = .ok (.enter 39 (first.toList ++ vs ++ cap.toList)) h := dCallO_func (by kernel_rfl) _ _ _
theorem ca_40 {h : DHeap} {first cap : Array Value} {vs : List Value} : dCallO Try.prog h (some (.func (.func 40) first cap)) (some vs) = .ok (.enter 40 (first.toList ++ vs ++ cap.toList)) h := dCallO_func (by kernel_rfl) _ _ _
theorem ca_41 {h : DHeap} {first cap : Array Value} {vs : List Value} : dCallO Try.prog h (some (.func (.func 41) first cap)) (some vs) = .ok (.enter 41 (first.toList ++ vs ++ cap.toList)) h := dCallO_func (by kernel_rfl) _ _ _
theorem ca_48 {h : DHeap} {first cap : Array Value} {vs : List Value} : dCallO Try.prog h (some (.func (.func 48) first cap)) (some vs) = .ok (.enter 48 (first.toList ++ vs ++ cap.toList)) h := dCallO_func (by kernel_rfl) _ _ _
theorem ca_49 {h : DHeap} {first cap : Array Value} {vs : List Value} : dCallO Try.prog h (some (.func (.func 49) first cap)) (some vs) = .ok (.enter 49 (first.toList ++ vs ++ cap.toList)) h := dCallO_func (by kernel_rfl) _ _ _
theorem ca_50 {h : DHeap} {first cap : Array Value} {vs : List Value} : dCallO Try.prog h (some (.func (.func 50) first cap)) (some vs) = .ok (.enter 50 (first.toList ++ vs ++ cap.toList)) h := dCallO_func (by kernel_rfl) _ _ _
theorem ca_51 {h : DHeap} {first cap : Array Value} {vs : List Value} : dCallO Try.prog h (some (.func (.func 51) first cap)) (some vs) = .ok (.enter 51 (first.toList ++ vs ++ cap.toList)) h := dCallO_func (by kernel_rfl) _ _ _
theorem ca_52 {h : DHeap} {first cap : Array Value} {vs : List Value} : dCallO Try.prog h (some (.func (.func 52) first cap)) (some vs) = .ok (.enter 52 (first.toList ++ vs ++ cap.toList)) h := dCallO_func (by kernel_rfl) _ _ _
theorem ca_55 {h : DHeap} {first cap : Array Value} {vs : List Value} : dCallO Try.prog h (some (.func (.func 55) first cap)) (some vs) = .ok (.enter 55 (first.toList ++ vs ++ cap.toList)) h := dCallO_func (by kernel_rfl) _ _ _
theorem ca_56 {h : DHeap} {first cap : Array Value} {vs : List Value} : dCallO Try.prog h (some (.func (.func 56) first cap)) (some vs) = .ok (.enter 56 (first.toList ++ vs ++ cap.toList)) h := dCallO_func (by kernel_rfl) _ _ _
theorem ca_57 {h : DHeap} {first cap : Array Value} {vs : List Value} : dCallO Try.prog h (some (.func (.func 57) first cap)) (some vs) = .ok (.enter 57 (first.toList ++ vs ++ cap.toList)) h := dCallO_func (by kernel_rfl) _ _ _
theorem ca_58 {h : DHeap} {first cap : Array Value} {vs : List Value} : dCallO Try.prog h (some (.func (.func 58) first cap)) (some vs) = .ok (.enter 58 (first.toList ++ vs ++ cap.toList)) h := dCallO_func (by kernel_rfl) _ _ _
theorem de_59 {h : DHeap} {first cap : Array Value} {vs : List Value} : dDeferO Try.prog h (some (.func (.func 59) first cap)) (some vs) = .ok (.defer 59 (first.toList ++ vs ++ cap.toList)) h := dDeferO_func (by kernel_rfl) _ _ _
theorem ca_60 {h : DHeap} {first cap : Array Value} {vs : List Value} : dCallO Try.prog h (some (.func (.func 60) first cap)) (some vs) = .ok (.enter 60 (first.toList ++ vs ++ cap.toList)) h := dCallO_func (by kernel_rfl) _ _ _
theorem ca_61 {h : DHeap} {first cap : Array Value} {vs : List Value} : dCallO Try.prog h (some (.func (.func 61) first cap)) (some vs) = .ok (.enter 61 (first.toList ++ vs ++ cap.toList)) h := dCallO_func (by kernel_rfl) _ _ _
theorem ca_62 {h : DHeap} {first cap : Array Value} {vs : List Value} : dCallO Try.prog h (some (.func (.func 62) first cap)) (some vs) = .ok (.enter 62 (first.toList ++ vs ++ cap.toList)) h := dCallO_func (by kernel_rfl) _ _ _
theorem ca_63 {h : DHeap} {first cap : Array Value} {vs : List Value} : dCallO Try.prog h (some (.func (.func 63) first cap)) (some vs) = .ok (.enter 63 (first.toList ++ vs ++ cap.toList)) h := dCallO_func (by kernel_rfl) _ _ _
theorem ca_64 {h : DHeap} {first cap : Array Value} {vs : List Value} : dCallO Try.prog h (some (.func (.func 64) first cap)) (some vs) = .ok (.enter 64 (first.toList ++ vs ++ cap.toList)) h := dCallO_func (by kernel_rfl) _ _ _
theorem ca_65 {h : DHeap} {first cap : Array Value} {vs : List Value} : dCallO Try.prog h (some (.func (.func 65) first cap)) (some vs) = .ok (.enter 65 (first.toList ++ vs ++ cap.toList)) h := dCallO_func (by kernel_rfl) _ _ _
theorem ca_66 {h : DHeap} {first cap : Array Value} {vs : List Value} : dCallO Try.prog h (some (.func (.func 66) first cap)) (some vs) = .ok (.enter 66 (first.toList ++ vs ++ cap.toList)) h := dCallO_func (by kernel_rfl) _ _ _
theorem ca_67 {h : DHeap} {first cap : Array Value} {vs : List Value} : dCallO Try.prog h (some (.func (.func 67) first cap)) (some vs) = .ok (.enter 67 (first.toList ++ vs ++ cap.toList)) h := dCallO_func (by kernel_rfl) _ _ _
theorem ca_68 {h : DHeap} {first cap : Array Value} {vs : List Value} : dCallO Try.prog h (some (.func (.func 68) first cap)) (some vs) = .ok (.enter 68 (first.toList ++ vs ++ cap.toList)) h := dCallO_func (by kernel_rfl) _ _ _
theorem ca_69 {h : DHeap} {first cap : Array Value} {vs : List Value} : dCallO Try.prog h (some (.func (.func 69) first cap)) (some vs) = .ok (.enter 69 (first.toList ++ vs ++ cap.toList)) h := dCallO_func (by kernel_rfl) _ _ _
theorem ca_70 {h : DHeap} {first cap : Array Value} {vs : List Value} : dCallO Try.prog h (some (.func (.func 70) first cap)) (some vs) = .ok (.enter 70 (first.toList ++ vs ++ cap.toList)) h := dCallO_func (by kernel_rfl) _ _ _
theorem ca_71 {h : DHeap} {first cap : Array Value} {vs : List Value} : dCallO Try.prog h (some (.func (.func 71) first cap)) (some vs) = .ok (.enter 71 (first.toList ++ vs ++ cap.toList)) h := dCallO_func (by kernel_rfl) _ _ _
theorem ca_80 {h : DHeap} {first cap : Array Value} {vs : List Value} : dCallO Try.prog h (some (.func (.func 80) first cap)) (some vs) = .ok (.enter 80 (first.toList ++ vs ++ cap.toList)) h := dCallO_func (by kernel_rfl) _ _ _
theorem ca_81 {h : DHeap} {first cap : Array Value} {vs : List Value} : dCallO Try.prog h (some (.func (.func 81) first cap)) (some vs) = .ok (.enter 81 (first.toList ++ vs ++ cap.toList)) h := dCallO_func (by kernel_rfl) _ _ _
theorem ca_82 {h : DHeap} {first cap : Array Value} {vs : List Value} : dCallO Try.prog h (some (.func (.func 82) first cap)) (some vs) = .ok (.enter 82 (first.toList ++ vs ++ cap.toList)) h := dCallO_func (by kernel_rfl) _ _ _
theorem ca_83 {h : DHeap} {first cap : Array Value} {vs : List Value} : dCallO Try.prog h (some (.func (.func 83) first cap)) (some vs) = .ok (.enter 83 (first.toList ++ vs ++ cap.toList)) h := dCallO_func (by kernel_rfl) _ _ _
theorem ca_84 {h : DHeap} {first cap : Array Value} {vs : List Value} : dCallO Try.prog h (some (.func (.func 84) first cap)) (some vs) = .ok (.enter 84 (first.toList ++ vs ++ cap.toList)) h := dCallO_func (by kernel_rfl) _ _ _
theorem ca_85 {h : DHeap} {first cap : Array Value} {vs : List Value} : dCallO Try.prog h (some (.func (.func 85) first cap)) (some vs) = .ok (.enter 85 (first.toList ++ vs ++ cap.toList)) h := dCallO_func (by kernel_rfl) _ _ _
theorem ca_86 {h : DHeap} {first cap : Array Value} {vs : List Value} : dCallO Try.prog h (some (.func (.func 86) first cap)) (some vs) = .ok (.enter 86 (first.toList ++ vs ++ cap.toList)) h := dCallO_func (by kernel_rfl) _ _ _
theorem ca_87 {h : DHeap} {first cap : Array Value} {vs : List Value} : dCallO Try.prog h (some (.func (.func 87) first cap)) (some vs) = .ok (.enter 87 (first.toList ++ vs ++ cap.toList)) h := dCallO_func (by kernel_rfl) _ _ _
theorem ca_88 {h : DHeap} {first cap : Array Value} {vs : List Value} : dCallO Try.prog h (some (.func (.func 88) first cap)) (some vs) = .ok (.enter 88 (first.toList ++ vs ++ cap.toList)) h := dCallO_func (by kernel_rfl) _ _ _
theorem ca_89 {h : DHeap} {first cap : Array Value} {vs : List Value} : dCallO Try.prog h (some (.func (.func 89) first cap)) (some vs) = .ok (.enter 89 (first.toList ++ vs ++ cap.toList)) h := dCallO_func (by kernel_rfl) _ _ _
theorem ca_90 {h : DHeap} {first cap : Array Value} {vs : List Value} : dCallO Try.prog h (some (.func (.func 90) first cap)) (some vs) = .ok (.enter 90 (first.toList ++ vs ++ cap.toList)) h := dCallO_func (by kernel_rfl) _ _ _
theorem esz_26 : eszOf Try.prog 26 = 0 := by kernel_rfl
theorem esz_31 : eszOf Try.prog 31 = 0 := by kernel_rfl
theorem esz_36 : eszOf Try.prog 36 = 0 := by kernel_rfl
theorem esz_47 : eszOf Try.prog 47 = 0 := by kernel_rfl
theorem esz_54 : eszOf Try.prog 54 = 0 := by kernel_rfl
theorem esz_76 : eszOf Try.prog 76 = 0 := by kernel_rfl
theorem esz_86 : eszOf Try.prog 86 = 0 := by kernel_rfl
theorem esz_91 : eszOf Try.prog 91 = 0 := by kernel_rfl
theorem esz_95 : eszOf Try.prog 95 = 0 := by kernel_rfl
theorem esz_117 : eszOf Try.prog 117 = 0 := by kernel_rfl
theorem esz_144 : eszOf Try.prog 144 = 1 := by kernel_rfl
theorem esz_146 : eszOf Try.prog 146 = 1 := by kernel_rfl
theorem al_26 {h : DHeap} : dAlloc Try.prog 26 h = some (.pointer (some ⟨h.next, 0, none⟩), h.push (.row [Value.int IntKind.i64 0, Value.int IntKind.i64 0, Value.slice none 0 0, Value.slice none 0 0, Value.slice none 0 0, Value.slice none 0 0] 0 false)) := dAlloc_zero (show zeroCells Try.prog 26 = some [Value.int IntKind.i64 0, Value.int IntKind.i64 0, Value.slice none 0 0, Value.slice none 0 0, Value.slice none 0 0, Value.slice none 0 0] by kernel_rfl) (by decide) esz_26
theorem al_31 {h : DHeap} : dAlloc Try.prog 31 h = some (.pointer (some ⟨h.next, 0, none⟩), h.push (.row [Value.int IntKind.i64 0] 0 false)) := dAlloc_zero (show zeroCells Try.prog 31 = some [Value.int IntKind.i64 0] by kernel_rfl) (by decide) esz_31
theorem al_36 {h : DHeap} : dAlloc Try.prog 36 h = some (.pointer (some ⟨h.next, 0, none⟩), h.push (.row [Value.int IntKind.i64 0, Value.int IntKind.i64 0, Value.int IntKind.i64 0, Value.slice none 0 0, Value.slice none 0 0, Value.slice none 0 0, Value.slice none 0 0, Value.bool false, Value.slice none 0 0, Value.int IntKind.i64 0] 0 false)) := dAlloc_zero (show zeroCells Try.prog 36 = some [Value.int IntKind.i64 0, Value.int IntKind.i64 0, Value.int IntKind.i64 0, Value.slice none 0 0, Value.slice none 0 0, Value.slice none 0 0, Value.slice none 0 0, Value.bool false, Value.slice none 0 0, Value.int IntKind.i64 0] by kernel_rfl) (by decide) esz_36
theorem al_91 {h : DHeap} : dAlloc Try.prog 91 h = some (.pointer (some ⟨h.next, 0, none⟩), h.push (.row [Value.slice none 0 0] 0 false)) := dAlloc_zero (show zeroCells Try.prog 91 = some [Value.slice none 0 0] by kernel_rfl) (by decide) esz_91
theorem al_95 {h : DHeap} : dAlloc Try.prog 95 h = some (.pointer (some ⟨h.next, 0, none⟩), h.push (.row [Value.int IntKind.i64 0, Value.int IntKind.i64 0, Value.int IntKind.i64 0, Value.int IntKind.i64 0, Value.int IntKind.i64 0] 0 false)) := dAlloc_zero (show zeroCells Try.prog 95 = some [Value.int IntKind.i64 0, Value.int IntKind.i64 0, Value.int IntKind.i64 0, Value.int IntKind.i64 0, Value.int IntKind.i64 0] by kernel_rfl) (by decide) esz_95
theorem al_117 {h : DHeap} : dAlloc Try.prog 117 h = some (.pointer (some ⟨h.next, 0, none⟩), h.push (.row [Value.int IntKind.i64 0] 0 false)) := dAlloc_zero (show zeroCells Try.prog 117 = some [Value.int IntKind.i64 0] by kernel_rfl) (by decide) esz_117
theorem al_144 {h : DHeap} : dAlloc Try.prog 144 h = some (.pointer (some ⟨h.next, 0, none⟩), h.push (.row [Value.int IntKind.i64 0, Value.int IntKind.i64 0] 1 false)) := dAlloc_zero (show zeroCells Try.prog 144 = some [Value.int IntKind.i64 0, Value.int IntKind.i64 0] by kernel_rfl) (by decide) esz_144
theorem al_146 {h : DHeap} : dAlloc Try.prog 146 h = some (.pointer (some ⟨h.next, 0, none⟩), h.push (.row [Value.int IntKind.i64 0, Value.int IntKind.i64 0, Value.int IntKind.i64 0, Value.int IntKind.i64 0, Value.int IntKind.i64 0, Value.int IntKind.i64 0, Value.int IntKind.i64 0, Value.int IntKind.i64 0, Value.int IntKind.i64 0, Value.int IntKind.i64 0, Value.int IntKind.i64 0, Value.int IntKind.i64 0, Value.int IntKind.i64 0, Value.int IntKind.i64 0, Value.int IntKind.i64 0, Value.int IntKind.i64 0, Value.int IntKind.i64 0, Value.int IntKind.i64 0, Value.int IntKind.i64 0, Value.int IntKind.i64 0, Value.int IntKind.i64 0, Value.int IntKind.i64 0, Value.int IntKind.i64 0, Value.int IntKind.i64 0, Value.int IntKind.i64 0, Value.int IntKind.i64 0, Value.int IntKind.i64 0, Value.int IntKind.i64 0] 1 false)) := dAlloc_zero (show zeroCells Try.prog 146 = some [Value.int IntKind.i64 0, Value.int IntKind.i64 0, Value.int IntKind.i64 0, Value.int IntKind.i64 0, Value.int IntKind.i64 0, Value.int IntKind.i64 0, Value.int IntKind.i64 0, Value.int IntKind.i64 0, Value.int IntKind.i64 0, Value.int IntKind.i64 0, Value.int IntKind.i64 0, Value.int IntKind.i64 0, Value.int IntKind.i64 0, Value.int IntKind.i64 0, Value.int IntKind.i64 0, Value.int IntKind.i64 0, Value.int IntKind.i64 0, Value.int IntKind.i64 0, Value.int IntKind.i64 0, Value.int IntKind.i64 0, Value.int IntKind.i64 0, Value.int IntKind.i64 0, Value.int IntKind.i64 0, Value.int IntKind.i64 0, Value.int IntKind.i64 0, Value.int IntKind.i64 0, Value.int IntKind.i64 0, Value.int IntKind.i64 0] by kernel_rfl) (by decide) esz_146
theorem isl_22 : isSliceT Try.prog 22 = true := by kernel_rfl
theorem isl_23 : isSliceT Try.prog 23 = true := by kernel_rfl
theorem isl_24 : isSliceT Try.prog 24 = true := by kernel_rfl
theorem isl_91 : isSliceT Try.prog 91 = true := by kernel_rfl
theorem isl_131 : isSliceT Try.prog 131 = true := by kernel_rfl
theorem app_22 : appT Try.prog #[22, 22] = some (1, 1) := by kernel_rfl
theorem app_23 : appT Try.prog #[23, 23] = some (1, 8) := by kernel_rfl
theorem app_24 : appT Try.prog #[24, 24] = some (2, 16) := by kernel_rfl
theorem app_91 : appT Try.prog #[91, 91] = some (5, 40) := by kernel_rfl
theorem bsl_22 : bslT Try.prog 22 = some (1, [Value.int IntKind.u8 0]) := by kernel_rfl
theorem bs0_22 {h : DHeap} : dBuildSlice Try.prog 22 0 [] h = some (.slice (some ⟨h.next, 0, none⟩) 0 0, h.push (.row [] 1 false)) := dBuildSlice_0 bsl_22
theorem bsl_23 : bslT Try.prog 23 = some (1, [Value.int IntKind.i64 0]) := by kernel_rfl
theorem bs0_23 {h : DHeap} : dBuildSlice Try.prog 23 0 [] h = some (.slice (some ⟨h.next, 0, none⟩) 0 0, h.push (.row [] 1 false)) := dBuildSlice_0 bsl_23
theorem bsl_24 : bslT Try.prog 24 = some (2, [Value.int IntKind.i32 0, Value.int IntKind.i64 0]) := by kernel_rfl
theorem bs0_24 {h : DHeap} : dBuildSlice Try.prog 24 0 [] h = some (.slice (some ⟨h.next, 0, none⟩) 0 0, h.push (.row [] 2 false)) := dBuildSlice_0 bsl_24
theorem bs1_24 {h : DHeap} {a : Value} (ha : a.cells.size = 2) : dBuildSlice Try.prog 24 1 [(0, a)] h = some (.slice (some ⟨h.next, 0, none⟩) 1 1, h.push (.row a.cells.toList 2 false)) := dBuildSlice_1 bsl_24 ha (by decide)
theorem bsl_91 : bslT Try.prog 91 = some (5, [Value.int IntKind.i64 0, Value.int IntKind.i64 0, Value.int IntKind.i64 0, Value.int IntKind.i64 0, Value.int IntKind.i64 0]) := by kernel_rfl
theorem bs1_91 {h : DHeap} {a : Value} (ha : a.cells.size = 5) : dBuildSlice Try.prog 91 1 [(0, a)] h = some (.slice (some ⟨h.next, 0, none⟩) 1 1, h.push (.row a.cells.toList 5 false)) := dBuildSlice_1 bsl_91 ha (by decide)
theorem bsl_131 : bslT Try.prog 131 = some (1, [Value.int IntKind.i64 0]) := by kernel_rfl
theorem bs2_131 {h : DHeap} {a b : Value} (ha : a.cells.size = 1) (hb : b.cells.size = 1) : dBuildSlice Try.prog 131 2 [(0, a), (1, b)] h = some (.slice (some ⟨h.next, 0, none⟩) 2 2, h.push (.row (a.cells.toList ++ b.cells.toList) 1 false)) := dBuildSlice_2 bsl_131 ha hb (by decide)
theorem plc_26 : plcOf Try.prog 26 = some ([(0, 1), (1, 1), (2, 1), (3, 1), (4, 1), (5, 1)], [Value.int IntKind.i64 0, Value.int IntKind.i64 0, Value.slice none 0 0, Value.slice none 0 0, Value.slice none 0 0, Value.slice none 0 0]) := by kernel_rfl
theorem plc_36 : plcOf Try.prog 36 = some ([(0, 1), (1, 6), (7, 1), (8, 1), (9, 1)], [Value.int IntKind.i64 0, Value.int IntKind.i64 0, Value.int IntKind.i64 0, Value.slice none 0 0, Value.slice none 0 0, Value.slice none 0 0, Value.slice none 0 0, Value.bool false, Value.slice none 0 0, Value.int IntKind.i64 0]) := by kernel_rfl
theorem plc_45 : plcOf Try.prog 45 = some ([(0, 1), (1, 1), (2, 1), (3, 1)], [Value.int IntKind.i64 0, Value.slice none 0 0, Value.int IntKind.i64 0, Value.int IntKind.i64 0]) := by kernel_rfl
theorem plc_47 : plcOf Try.prog 47 = some ([(0, 1), (1, 1), (2, 4)], [Value.int IntKind.i64 0, Value.int IntKind.i64 0, Value.int IntKind.i64 0, Value.slice none 0 0, Value.int IntKind.i64 0, Value.int IntKind.i64 0]) := by kernel_rfl
theorem plc_76 : plcOf Try.prog 76 = some ([(0, 1), (1, 1), (2, 1), (3, 1), (4, 6), (10, 1), (11, 1), (12, 1), (13, 1), (14, 4)], [Value.int IntKind.i64 0, Value.int IntKind.i64 0, Value.int IntKind.i64 0, Value.bool false, Value.int IntKind.i64 0, Value.int IntKind.i64 0, Value.slice none 0 0, Value.slice none 0 0, Value.slice none 0 0, Value.slice none 0 0, Value.int IntKind.i64 0, Value.int IntKind.i64 0, Value.int IntKind.i64 0, Value.bool false, Value.int IntKind.i64 0, Value.slice none 0 0, Value.int IntKind.i64 0, Value.int IntKind.i64 0]) := by kernel_rfl
theorem plc_86 : plcOf Try.prog 86 = some ([(0, 1), (1, 1), (2, 1), (3, 1), (4, 6), (10, 1), (11, 1), (12, 1), (13, 1), (14, 4)], [Value.int IntKind.i64 0, Value.int IntKind.i64 0, Value.int IntKind.i64 0, Value.bool false, Value.int IntKind.i64 0, Value.int IntKind.i64 0, Value.slice none 0 0, Value.slice none 0 0, Value.slice none 0 0, Value.slice none 0 0, Value.int IntKind.i64 0, Value.int IntKind.i64 0, Value.int IntKind.i64 0, Value.bool false, Value.int IntKind.i64 0, Value.slice none 0 0, Value.int IntKind.i64 0, Value.int IntKind.i64 0]) := by kernel_rfl
theorem plc_95 : plcOf Try.prog 95 = some ([(0, 1), (1, 1), (2, 1), (3, 1), (4, 1)], [Value.int IntKind.i64 0, Value.int IntKind.i64 0, Value.int IntKind.i64 0, Value.int IntKind.i64 0, Value.int IntKind.i64 0]) := by kernel_rfl
theorem plc_117 : plcOf Try.prog 117 = some ([(0, 1)], [Value.int IntKind.i64 0]) := by kernel_rfl
theorem mixed : Try.prog.follows .mixedOrders = true := by kernel_rfl
attribute [go_sem] ld_2 ld_3 ld_4 ld_5 ld_21 ld_22 st_22 ld_23 st_23 ld_24 st_24 ld_26 st_26 ld_31 ld_36
attribute [go_sem] st_36 ld_45 st_45 ld_54 st_54 ld_91 st_91 ld_95 st_95 st_117 st_144
attribute [go_sem] st_146 fa_26_0 fa_26_1 fa_26_2 fa_26_3 fa_26_4 fa_26_5 fa_36_0 fa_36_1 fa_45_1 fa_45_2 fa_47_0 fa_47_1 fa_47_2 fa_54_0 fa_54_1
attribute [go_sem] fa_76_0 fa_76_1 fa_76_2 fa_76_3 fa_76_4 fa_76_5 fa_76_6 fa_76_7 fa_76_8 fa_76_9 fa_86_0 fa_86_1 fa_86_2 fa_86_3
attribute [go_sem] fa_86_4 fa_86_5 fa_86_6 fa_95_0 fa_95_1 fa_95_2 fa_95_3 fa_95_4 fa_117_0 cv_3_110 cv_5_2 cv_5_3 cv_5_27 cv_27_2 cv_27_137 cv_130_5 cv_137_2
attribute [go_sem] mi_117 ta_117 ca_9 ca_10 ca_11 ca_12 ca_13 ca_14 ca_15 ca_16 ca_17 ca_18 ca_19 ca_20
attribute [go_sem] ca_21 ca_23 ca_24 ca_31 ca_32
attribute [go_sem] ca_33 ca_34 ca_35 ca_36 ca_37 ca_38 ca_39 ca_40 ca_41
attribute [go_sem] ca_48 ca_49 ca_50 ca_51 ca_52 ca_55 ca_56 ca_57
attribute [go_sem] ca_58 de_59 ca_60 ca_61 ca_62 ca_63 ca_64 ca_65 ca_66 ca_67 ca_68 ca_69 ca_70
attribute [go_sem] ca_71 ca_80 ca_81 ca_82
attribute [go_sem] ca_83 ca_84 ca_85 ca_86 ca_87 ca_88 ca_89 ca_90
attribute [go_sem] esz_26 esz_31 esz_36 esz_47 esz_54 esz_76 esz_86 esz_91 esz_95 esz_117 esz_144 esz_146 al_26 al_31
attribute [go_sem] al_36 al_91 al_95 al_117 al_144 al_146 bs0_22
attribute [go_sem] bs0_23 bs0_24 bs1_24 bs1_91 bs2_131
end Go.Proofs.Ytbdljpndncohaaa

namespace Go.Proofs.Ytbdljpndncohaaa
open Go.D

theorem sti_2 {h : DHeap} {id o : Nat} {k : IntKind} {n : Int} : dStore Try.prog 2 (.pointer (some ⟨id, o, none⟩)) (.int k n) h = storeAt h id o [(.int k n)] := dStore_one one_2 rfl
theorem sti_3 {h : DHeap} {id o : Nat} {k : IntKind} {n : Int} : dStore Try.prog 3 (.pointer (some ⟨id, o, none⟩)) (.int k n) h = storeAt h id o [(.int k n)] := dStore_one one_3 rfl
theorem stb_4 {h : DHeap} {id o : Nat} {b : Bool} : dStore Try.prog 4 (.pointer (some ⟨id, o, none⟩)) (.bool b) h = storeAt h id o [(.bool b)] := dStore_one one_4 rfl
theorem sti_5 {h : DHeap} {id o : Nat} {k : IntKind} {n : Int} : dStore Try.prog 5 (.pointer (some ⟨id, o, none⟩)) (.int k n) h = storeAt h id o [(.int k n)] := dStore_one one_5 rfl
theorem sti_31 {h : DHeap} {id o : Nat} {k : IntKind} {n : Int} : dStore Try.prog 31 (.pointer (some ⟨id, o, none⟩)) (.int k n) h = storeAt h id o [(.int k n)] := dStore_one one_31 rfl
theorem stl_91 {h : DHeap} {id o : Nat} {a : Option Addr} {m c : Nat} : dStore Try.prog 91 (.pointer (some ⟨id, o, none⟩)) (.slice a m c) h = storeAt h id o [(.slice a m c)] := dStore_one one_91 rfl
attribute [go_sem] sti_2 sti_3 stb_4 sti_5 sti_31 stl_91
end Go.Proofs.Ytbdljpndncohaaa

namespace Go.D
attribute [go_sem] List.size_toArray List.length_cons List.length_nil Nat.zero_add Nat.add_zero Option.map_some
structure Key where
  t : Int
  r : Int
  deriving DecidableEq
structure Cell where
  k : Key
  v : Int
  s : Int
  deriving DecidableEq
structure Pair where
  k : Key
  v : Int
  deriving DecidableEq
abbrev fI64 := fI .i64
abbrev fU8 := fI .u8
def fKey : FRep Key := fM (fP (fI .i32) (fI .i64)) (fun k => (k.t, k.r)) fun x y h => by
  cases x; cases y; simp at h; simp [h]
/-- a result: how it ended, what it answered, at which place -/
structure Res where
  e : Int
  vs : List Int
  s : Int
  p : Int
structure Row where
  ses : Int
  req : Int
  x : Res
/-! ### Numbers -/
theorem wrap_in {k : IntKind} {n : Int} (h : inK k n) : k.wrap n = n := by
  unfold inK IntKind.min IntKind.max IntKind.signed IntKind.bits at h
  unfold IntKind.wrap IntKind.signed IntKind.bits
  cases k <;> simp at h ⊢ <;> omega
theorem inK_u8 {n : Int} : inK .u8 n ↔ 0 ≤ n ∧ n ≤ 255 := by
  simp [inK, IntKind.min, IntKind.max, IntKind.signed, IntKind.bits]
theorem inK_u16 {n : Int} : inK .u16 n ↔ 0 ≤ n ∧ n ≤ 65535 := by
  simp [inK, IntKind.min, IntKind.max, IntKind.signed, IntKind.bits]
theorem inK_i64 {n : Int} : inK .i64 n ↔ -9223372036854775808 ≤ n ∧ n ≤ 9223372036854775807 := by
  simp [inK, IntKind.min, IntKind.max, IntKind.signed, IntKind.bits]
theorem wrap_i64_in {n : Int} (h0 : -9223372036854775808 ≤ n) (h1 : n ≤ 9223372036854775807) : IntKind.i64.wrap n = n := wrap_in (inK_i64.2 ⟨h0, h1⟩)
end Go.D
