/-
A part of the proof of a law: contracts of functions over plain heaps, and what they lean on. Conditions: none.
-/
import Derived.Test.YtbdljpndncohaaaChecked
import Derived.KernelRfl
import Derived.Shelf.SlSortCmp.WholeK
import Derived.Test.YtbdljpndncohaaaProg
import Derived.Test.YtbdljpndncohaaaRows
import Derived.ChangeArms
import Derived.ChangeOld
import Derived.ChangeReads
import Derived.ChangeSame
import Derived.WalkKit
import Derived.ProofKit
import Derived.OpenShut
import Derived.JoinedCond
import Derived.Test.YtbdljpndncohaaaBase1
import Derived.Test.YtbdljpndncohaaaBase2
set_option linter.unusedSimpArgs false
set_option linter.unusedVariables false
namespace Go.Proofs.Ytbdljpndncohaaa
open Go.D
set_option maxRecDepth 100000
/-! trivet/trivetlaw25.ClientAsks -/
def o3_0 : Array Oper := #[⟨(some 22), (.fieldAddr 29 (T 3) 0), 0, "law.go:160", #[], none⟩,
 ⟨(some 23), (.load 3 (T 22)), 3, "law.go:160", #[⟨0, .data⟩], none⟩,
 ⟨(some 24), (.fieldAddr 29 (T 3) 1), 0, "law.go:160", #[⟨6, (.gcOnly Go.Departure.lateStores)⟩], none⟩,
 ⟨(some 25), (.load 3 (T 24)), 3, "law.go:160", #[⟨2, .data⟩, ⟨6, (.gcOnly Go.Departure.lateStores)⟩], none⟩,
 ⟨(some 26), (.fieldAddr 29 (T 3) 2), 0, "law.go:160", #[⟨7, (.gcOnly Go.Departure.lateStores)⟩], none⟩,
 ⟨(some 27), (.load 27 (T 26)), 27, "law.go:160", #[⟨4, .data⟩, ⟨7, (.gcOnly Go.Departure.lateStores)⟩], none⟩,
 ⟨(some 5), (.assign (T 23)), 3, "law.go:160", #[⟨1, .data⟩, ⟨0, .phase⟩, ⟨1, .phase⟩, ⟨2, (.textOnly Go.Departure.lateStores)⟩, ⟨3, (.textOnly Go.Departure.lateStores)⟩, ⟨4, (.textOnly Go.Departure.lateStores)⟩, ⟨5, (.textOnly Go.Departure.lateStores)⟩], none⟩,
 ⟨(some 6), (.assign (T 25)), 3, "law.go:160", #[⟨3, .data⟩, ⟨6, .chain⟩, ⟨0, .phase⟩, ⟨1, .phase⟩, ⟨2, .phase⟩, ⟨3, .phase⟩, ⟨4, (.textOnly Go.Departure.lateStores)⟩, ⟨5, (.textOnly Go.Departure.lateStores)⟩, ⟨6, .phase⟩], none⟩,
 ⟨(some 7), (.assign (T 27)), 27, "law.go:160", #[⟨5, .data⟩, ⟨7, .chain⟩, ⟨0, .phase⟩, ⟨1, .phase⟩, ⟨2, .phase⟩, ⟨3, .phase⟩, ⟨4, .phase⟩, ⟨5, .phase⟩, ⟨6, .phase⟩, ⟨7, .phase⟩], none⟩]
def r3_0 : Code := .region 1 o3_0 true
def c3 : Code :=
 .seq (rg [mo 2 (.box 26 (T 0)),
   mo 3 (.box 29 (T 1)),
   mo 4 (.assign (.const (.bool false)))])
 (.seq (r3_0)
 (.seq (rg [mo 29 (.move (T 6)),
   mo 30 (.call ⟨(.value (.func 9)), #[(.const (.int .i64 7)), (T 29)], #[2, 3]⟩),
   mo 28 (.move (T 30)),
   mo 31 (.extract (T 28) 0),
   mo 32 (.extract (T 28) 1),
   mo 8 (.assign (T 31)),
   mo 9 (.assign (T 32))])
 (.seq (.seq (rg [mo 33 (.move (T 9)),
    mo 34 (.binOp .neq 31 (T 33) (.const (.int .i64 0)) 31),
    mo 35 (.move (T 34)),
    mg 36 2 false (.call ⟨(.value (.func 10)), #[], #[]⟩),
    mg 37 2 false (.unOp .not 4 (T 36)),
    mo 38 (.pick (T 35) (.const (.bool true)) (T 37))])
  (.cond (T 38) (.seq (rg [mo 39 (.move (T 9)),
     mo 40 (.binOp .eql 31 (T 39) (.const (.int .i64 1)) 31),
     mo 41 (.move (T 40)),
     mg 42 2 true (.call ⟨(.value (.func 10)), #[], #[]⟩),
     mo 43 (.pick (T 41) (T 42) (.const (.bool false))),
     mo 4 (.assign (T 43))])
   (.ret))
  (.skip)))
 (.seq (rg [mo 45 (.move (T 8)),
   mo 46 (.load 26 (T 2)),
   mo 47 (.move (T 5)),
   mo 48 (.call ⟨(.value (.func 11)), #[(T 45), (T 46), (T 47)], #[30, 26, 3]⟩),
   mo 44 (.move (T 48)),
   mo 49 (.extract (T 44) 0),
   mo 50 (.extract (T 44) 1),
   mo 10 (.alloc 36),
   mx (.store 36 (T 10) (T 49)),
   mo 9 (.assign (T 50))])
 (.seq (.seq (rg [mo 51 (.move (T 9)),
    mo 52 (.binOp .neq 31 (T 51) (.const (.int .i64 0)) 31)])
  (.cond (T 52) (.seq (rg [mo 4 (.assign (.const (.bool true)))])
   (.ret))
  (.skip)))
 (.seq (rg [mo 53 (.move (T 5)),
   mo 11 (.assign (T 53))])
 (.seq (.seq (rg [mo 54 (.move (T 7)),
    mo 55 (.binOp .rem 27 (T 54) (.const (.int .u16 200)) 27),
    mo 56 (.convert 27 3 (T 55)),
    mo 57 (.move (.const (.int .i64 0)))])
  (.block 0 (.loop (.seq (rg [mo 58 (.binOp .lss 3 (T 57) (T 56) 3)])
    (.seq (.cond (T 58) (.skip)
     (.exit 0))
    (.seq (.block 1 (.seq (rg [mo 59 (.move (T 57)),
        mo 12 (.assign (T 59))])
      (.seq (rg [mo 61 (.move (T 8)),
        mo 62 (.call ⟨(.value (.func 12)), #[(T 61)], #[30]⟩),
        mo 60 (.move (T 62)),
        mo 63 (.extract (T 60) 0),
        mo 64 (.extract (T 60) 1),
        mo 13 (.alloc 36),
        mx (.store 36 (T 13) (T 63)),
        mo 14 (.assign (T 64))])
      (.seq (.seq (rg [mo 65 (.move (T 14)),
         mo 66 (.move (T 12)),
         mo 67 (.binOp .rem 3 (T 66) (.const (.int .i64 12)) 3),
         mo 68 (.binOp .eql 3 (T 67) (.const (.int .i64 11)) 3),
         mo 69 (.binOp .neq 4 (T 65) (T 68) 4)])
       (.cond (T 69) (.seq (rg [mo 4 (.assign (.const (.bool false)))])
        (.ret))
       (.skip)))
      (.seq (.seq (rg [mo 70 (.move (T 14)),
         mo 71 (.unOp .not 4 (T 70))])
       (.cond (T 71) (.exit 1)
       (.skip)))
      (.seq (rg [mo 72 (.move (T 11)),
        mo 73 (.binOp .add 3 (T 72) (.const (.int .i64 1)) 3),
        mo 74 (.move (T 6)),
        mo 75 (.binOp .rem 3 (T 73) (T 74) 3),
        mo 11 (.assign (T 75))])
      (.seq (rg [mo 76 (.fieldAddr 36 (T 13) 0),
        mo 77 (.load 3 (T 76)),
        mo 78 (.move (T 11)),
        mo 79 (.binOp .neq 3 (T 77) (T 78) 3),
        mo 80 (.move (T 79)),
        mg 81 4 false (.fieldAddr 36 (T 13) 1),
        mg 82 4 false (.load 26 (T 81)),
        mg 83 4 false (.fieldAddr 36 (T 10) 1),
        mg 84 4 false (.load 26 (T 83)),
        mg 85 4 false (.call ⟨(.value (.func 13)), #[(T 82), (T 84)], #[26, 26]⟩),
        mg 86 4 false (.unOp .not 4 (T 85)),
        mo 87 (.pick (T 80) (.const (.bool true)) (T 86))])
      (.cond (T 87) (.seq (rg [mo 4 (.assign (.const (.bool false)))])
       (.ret))
      (.skip)))))))))
    (rg [mo 88 (.binOp .add 3 (T 57) (.const (.int .i64 1)) 3),
     mo 57 (.move (T 88))])))))))
 (.seq (.seq (rg [mo 90 (.move (T 8)),
    mo 91 (.load 26 (T 2)),
    mo 92 (.move (T 5)),
    mo 93 (.call ⟨(.value (.func 11)), #[(T 90), (T 91), (T 92)], #[30, 26, 3]⟩),
    mo 89 (.move (T 93)),
    mo 94 (.extract (T 89) 0),
    mo 95 (.extract (T 89) 1),
    mo 15 (.alloc 36),
    mx (.store 36 (T 15) (T 94)),
    mo 16 (.assign (T 95))])
  (.seq (rg [mo 96 (.move (T 16)),
    mo 97 (.binOp .neq 31 (T 96) (.const (.int .i64 251)) 31)])
  (.cond (T 97) (.seq (rg [mo 4 (.assign (.const (.bool false)))])
   (.ret))
  (.skip))))
 (.seq (rg [mo 99 (.move (T 8)),
   mo 100 (.build 47 #[(0, (.const (.int .i64 7))), (1, (.const (.int .i64 1)))]),
   mo 101 (.call ⟨(.value (.func 14)), #[(T 99), (T 100)], #[30, 47]⟩),
   mo 98 (.move (T 101)),
   mo 102 (.extract (T 98) 0),
   mo 103 (.extract (T 98) 1),
   mo 17 (.assign (T 102)),
   mo 9 (.assign (T 103))])
 (.seq (rg [mo 105 (.move (T 8)),
   mo 106 (.call ⟨(.value (.func 12)), #[(T 105)], #[30]⟩),
   mo 104 (.move (T 106)),
   mo 107 (.extract (T 104) 0),
   mo 108 (.extract (T 104) 1),
   mo 18 (.alloc 36),
   mx (.store 36 (T 18) (T 107)),
   mo 19 (.assign (T 108))])
 (.seq (rg [mo 110 (.move (T 8)),
   mo 111 (.build 45 #[(2, (.const (.int .i64 9)))]),
   mo 112 (.build 47 #[(0, (.const (.int .i64 7))), (1, (.const (.int .i64 1))), (2, (T 111))]),
   mo 113 (.call ⟨(.value (.func 14)), #[(T 110), (T 112)], #[30, 47]⟩),
   mo 109 (.move (T 113)),
   mo 114 (.extract (T 109) 0),
   mo 115 (.extract (T 109) 1),
   mo 20 (.assign (T 114)),
   mo 21 (.assign (T 115))])
 (.seq (rg [mo 116 (.move (T 17)),
   mo 117 (.move (T 116)),
   mg 118 1 true (.move (T 9)),
   mg 119 1 true (.binOp .eql 31 (T 118) (.const (.int .i64 0)) 31),
   mo 120 (.pick (T 117) (T 119) (.const (.bool false))),
   mo 121 (.move (T 120)),
   mg 122 5 true (.move (T 19)),
   mg 123 5 true (.unOp .not 4 (T 122)),
   mo 124 (.pick (T 121) (T 123) (.const (.bool false))),
   mo 125 (.move (T 124)),
   mg 126 9 true (.move (T 20)),
   mg 127 9 true (.unOp .not 4 (T 126)),
   mo 128 (.pick (T 125) (T 127) (.const (.bool false))),
   mo 129 (.move (T 128)),
   mg 130 13 true (.move (T 21)),
   mg 131 13 true (.binOp .eql 31 (T 130) (.const (.int .i64 0)) 31),
   mo 132 (.pick (T 129) (T 131) (.const (.bool false))),
   mo 133 (.move (T 132)),
   mg 134 17 true (.move (T 8)),
   mg 135 17 true (.call ⟨(.value (.func 15)), #[(T 134)], #[30]⟩),
   mg 136 17 true (.binOp .eql 2 (T 135) (.const (.int .i64 1)) 2),
   mo 137 (.pick (T 133) (T 136) (.const (.bool false))),
   mo 4 (.assign (T 137))])
 (.ret)))))))))))))
/-! trivet/trivetlaw25.ClientNormal -/
def o5_0 : Array Oper := #[⟨(some 23), (.load 26 (T 7)), 26, "law.go:199", #[], none⟩,
 ⟨(some 24), (.load 26 (T 2)), 26, "law.go:199", #[], none⟩,
 ⟨(some 25), (.call ⟨(.value (.func 21)), #[(T 24)], #[26]⟩), 26, "law.go:199", #[⟨1, .data⟩], none⟩,
 ⟨(some 26), (.call ⟨(.value (.func 13)), #[(T 23), (T 25)], #[26, 26]⟩), 4, "law.go:199", #[⟨0, .data⟩, ⟨2, .data⟩, ⟨2, .chain⟩], none⟩,
 ⟨(some 27), (.unOp .not 4 (T 26)), 4, "law.go:199", #[⟨3, .data⟩], none⟩]
def r5_0 : Code := .region 5 o5_0 true
def c5 : Code :=
 .seq (rg [mo 2 (.box 26 (T 0)),
   mo 4 (.assign (.const (.bool false)))])
 (.seq (rg [mo 12 (.call ⟨(.value (.func 9)), #[(.const (.int .i64 2)), (.const (.int .i64 2))], #[2, 3]⟩),
   mo 11 (.move (T 12)),
   mo 13 (.extract (T 11) 0),
   mo 14 (.extract (T 11) 1),
   mo 5 (.assign (T 13)),
   mo 6 (.assign (T 14))])
 (.seq (.seq (rg [mo 15 (.move (T 6)),
    mo 16 (.binOp .neq 31 (T 15) (.const (.int .i64 0)) 31),
    mo 17 (.move (T 16)),
    mg 18 2 false (.call ⟨(.value (.func 10)), #[], #[]⟩),
    mg 19 2 false (.unOp .not 4 (T 18)),
    mo 20 (.pick (T 17) (.const (.bool true)) (T 19))])
  (.cond (T 20) (.seq (rg [mo 4 (.assign (.const (.bool false)))])
   (.ret))
  (.skip)))
 (.seq (rg [mo 21 (.load 26 (T 2)),
   mo 22 (.call ⟨(.value (.func 20)), #[(T 21)], #[26]⟩),
   mo 7 (.alloc 26),
   mx (.store 26 (T 7) (T 22))])
 (.seq (.seq (r5_0)
  (.cond (T 27) (.seq (rg [mo 4 (.assign (.const (.bool false)))])
   (.ret))
  (.skip)))
 (.seq (rg [mo 29 (.move (T 5)),
   mo 30 (.load 26 (T 2)),
   mo 31 (.move (T 1)),
   mo 32 (.call ⟨(.value (.func 11)), #[(T 29), (T 30), (T 31)], #[30, 26, 3]⟩),
   mo 28 (.move (T 32)),
   mo 33 (.extract (T 28) 0),
   mo 34 (.extract (T 28) 1),
   mo 8 (.alloc 36),
   mx (.store 36 (T 8) (T 33)),
   mo 6 (.assign (T 34))])
 (.seq (.seq (rg [mo 35 (.move (T 6)),
    mo 36 (.binOp .neq 31 (T 35) (.const (.int .i64 0)) 31)])
  (.cond (T 36) (.seq (rg [mo 38 (.move (T 5)),
     mo 39 (.call ⟨(.value (.func 18)), #[(T 38)], #[30]⟩),
     mo 37 (.move (T 39)),
     mo 40 (.extract (T 37) 0),
     mo 41 (.extract (T 37) 1),
     mo 9 (.alloc 26),
     mx (.store 26 (T 9) (T 40)),
     mo 10 (.assign (T 41))])
   (.seq (rg [mo 42 (.move (T 10)),
     mo 43 (.unOp .not 4 (T 42)),
     mo 44 (.move (T 43)),
     mg 45 2 true (.move (T 5)),
     mg 46 2 true (.call ⟨(.value (.func 22)), #[(T 45)], #[30]⟩),
     mg 47 2 true (.binOp .eql 2 (T 46) (.const (.int .i64 0)) 2),
     mo 48 (.pick (T 44) (T 47) (.const (.bool false))),
     mo 4 (.assign (T 48))])
   (.ret)))
  (.skip)))
 (.seq (rg [mo 49 (.fieldAddr 36 (T 8) 1),
   mo 50 (.load 26 (T 49)),
   mo 51 (.call ⟨(.value (.func 23)), #[(T 50)], #[26]⟩),
   mo 52 (.binOp .eql 31 (T 51) (.const (.int .i64 0)) 31),
   mo 53 (.move (T 52)),
   mg 54 4 true (.fieldAddr 36 (T 8) 1),
   mg 55 4 true (.fieldAddr 26 (T 54) 4),
   mg 56 4 true (.load 24 (T 55)),
   mg 57 4 true (.fieldAddr 26 (T 7) 4),
   mg 58 4 true (.load 24 (T 57)),
   mg 59 4 true (.call ⟨(.value (.func 24)), #[(T 56), (T 58)], #[24, 24]⟩),
   mo 60 (.pick (T 53) (T 59) (.const (.bool false))),
   mo 61 (.move (T 60)),
   mg 62 12 true (.fieldAddr 36 (T 8) 1),
   mg 63 12 true (.fieldAddr 26 (T 62) 0),
   mg 64 12 true (.load 2 (T 63)),
   mg 65 12 true (.binOp .eql 2 (T 64) (.const (.int .i64 2)) 2),
   mo 66 (.pick (T 61) (T 65) (.const (.bool false))),
   mo 67 (.move (T 66)),
   mg 68 18 true (.fieldAddr 36 (T 8) 1),
   mg 69 18 true (.fieldAddr 26 (T 68) 1),
   mg 70 18 true (.load 2 (T 69)),
   mg 71 18 true (.binOp .eql 2 (T 70) (.const (.int .i64 1)) 2),
   mo 72 (.pick (T 67) (T 71) (.const (.bool false))),
   mo 4 (.assign (T 72))])
 (.ret))))))))
/-! trivet/trivetlaw25.ClientTokens -/
def o6_0 : Array Oper := #[⟨(some 62), (.move (T 8)), 4, "law.go:136", #[], none⟩,
 ⟨(some 63), (.move (T 62)), 4, "law.go:136", #[⟨0, .data⟩], none⟩,
 ⟨(some 64), (.move (T 3)), 30, "law.go:136", #[⟨1, .guard⟩], (some (1, true))⟩,
 ⟨(some 65), (.call ⟨(.value (.func 15)), #[(T 64)], #[30]⟩), 2, "law.go:136", #[⟨2, .data⟩, ⟨1, .chain⟩, ⟨1, .guard⟩], (some (1, true))⟩,
 ⟨(some 66), (.fieldAddr 67 (T 6) 3), 0, "law.go:136", #[⟨1, .guard⟩], (some (1, true))⟩,
 ⟨(some 67), (.fieldAddr 47 (T 66) 2), 0, "law.go:136", #[⟨4, .data⟩, ⟨1, .guard⟩], (some (1, true))⟩,
 ⟨(some 68), (.fieldAddr 45 (T 67) 2), 0, "law.go:136", #[⟨5, .data⟩, ⟨1, .guard⟩], (some (1, true))⟩,
 ⟨(some 69), (.load 2 (T 68)), 2, "law.go:136", #[⟨6, .data⟩, ⟨1, .guard⟩], (some (1, true))⟩,
 ⟨(some 70), (.binOp .leq 2 (T 65) (T 69) 2), 4, "law.go:136", #[⟨3, .data⟩, ⟨7, .data⟩, ⟨1, .guard⟩], (some (1, true))⟩,
 ⟨(some 71), (.pick (T 63) (T 70) (.const (.bool false))), 4, "law.go:136", #[⟨1, .data⟩, ⟨8, .data⟩], none⟩]
def l6_0 : List Oper := [mo 62 (.move (T 8)),
 mo 63 (.move (T 62)),
 mg 64 1 true (.move (T 3)),
 mg 65 1 true (.call ⟨(.value (.func 15)), #[(T 64)], #[30]⟩),
 mg 66 1 true (.fieldAddr 67 (T 6) 3),
 mg 67 1 true (.fieldAddr 47 (T 66) 2),
 mg 68 1 true (.fieldAddr 45 (T 67) 2),
 mg 69 1 true (.load 2 (T 68)),
 mg 70 1 true (.binOp .leq 2 (T 65) (T 69) 2),
 mo 71 (.pick (T 63) (T 70) (.const (.bool false)))]
def r6_0 : Code := .region 16 o6_0 true
theorem xr_6_0 {Q : DExit → St → Prop} {s : St} : xs Try.prog 110 r6_0 Q s = NC Try.prog 110 r6_0 Q s := rfl
theorem dr_6_0 {Q : DExit → St → Prop} {s : St} (h : XDraw Try.prog l6_0.toArray (befs o6_0.toList []) [(7, 3)] s.fr Q l6_0 0 s []) : NC Try.prog 110 r6_0 Q s :=
  NC.draw (by kernel_rfl) (by kernel_rfl) (by kernel_rfl) rfl (by kernel_rfl) (by kernel_rfl) h
attribute [go_sem] xr_6_0
def o6_1 : Array Oper := #[⟨(some 78), (.move (T 10)), 31, "law.go:140", #[], none⟩,
 ⟨(some 79), (.binOp .eql 31 (T 78) (.const (.int .i64 0)) 31), 4, "law.go:140", #[⟨0, .data⟩], none⟩,
 ⟨(some 80), (.move (T 79)), 4, "law.go:140", #[⟨1, .data⟩], none⟩,
 ⟨(some 81), (.fieldAddr 67 (T 6) 6), 0, "law.go:140", #[⟨2, .guard⟩], (some (2, true))⟩,
 ⟨(some 82), (.fieldAddr 65 (T 81) 1), 0, "law.go:140", #[⟨3, .data⟩, ⟨2, .guard⟩], (some (2, true))⟩,
 ⟨(some 83), (.load 2 (T 82)), 2, "law.go:140", #[⟨4, .data⟩, ⟨2, .guard⟩], (some (2, true))⟩,
 ⟨(some 84), (.move (T 7)), 2, "law.go:140", #[⟨2, .guard⟩], (some (2, true))⟩,
 ⟨(some 85), (.binOp .lss 2 (T 83) (T 84) 2), 4, "law.go:140", #[⟨5, .data⟩, ⟨6, .data⟩, ⟨2, .guard⟩], (some (2, true))⟩,
 ⟨(some 86), (.move (T 85)), 4, "law.go:140", #[⟨7, .data⟩, ⟨2, .chain⟩, ⟨2, .guard⟩], (some (2, true))⟩,
 ⟨(some 87), (.move (T 3)), 30, "law.go:140", #[⟨8, .guard⟩], (some (8, false))⟩,
 ⟨(some 88), (.call ⟨(.value (.func 15)), #[(T 87)], #[30]⟩), 2, "law.go:140", #[⟨9, .data⟩, ⟨8, .chain⟩, ⟨8, .guard⟩], (some (8, false))⟩,
 ⟨(some 89), (.fieldAddr 67 (T 6) 6), 0, "law.go:140", #[⟨8, .guard⟩], (some (8, false))⟩,
 ⟨(some 90), (.fieldAddr 65 (T 89) 1), 0, "law.go:140", #[⟨11, .data⟩, ⟨8, .guard⟩], (some (8, false))⟩,
 ⟨(some 91), (.load 2 (T 90)), 2, "law.go:140", #[⟨12, .data⟩, ⟨8, .guard⟩], (some (8, false))⟩,
 ⟨(some 92), (.binOp .neq 2 (T 88) (T 91) 2), 4, "law.go:140", #[⟨10, .data⟩, ⟨13, .data⟩, ⟨8, .guard⟩], (some (8, false))⟩,
 ⟨(some 93), (.pick (T 86) (.const (.bool true)) (T 92)), 4, "law.go:140", #[⟨8, .data⟩, ⟨14, .data⟩, ⟨2, .guard⟩], (some (2, true))⟩,
 ⟨(some 94), (.pick (T 80) (T 93) (.const (.bool false))), 4, "law.go:140", #[⟨2, .data⟩, ⟨15, .data⟩], none⟩,
 ⟨(some 95), (.move (T 94)), 4, "law.go:140", #[⟨16, .data⟩, ⟨10, .chain⟩], none⟩,
 ⟨(some 96), (.move (T 10)), 31, "law.go:140", #[⟨17, .guard⟩], (some (17, false))⟩,
 ⟨(some 97), (.binOp .neq 31 (T 96) (.const (.int .i64 0)) 31), 4, "law.go:140", #[⟨18, .data⟩, ⟨17, .guard⟩], (some (17, false))⟩,
 ⟨(some 98), (.move (T 97)), 4, "law.go:140", #[⟨19, .data⟩, ⟨17, .chain⟩, ⟨17, .guard⟩], (some (17, false))⟩,
 ⟨(some 99), (.move (T 3)), 30, "law.go:140", #[⟨20, .guard⟩], (some (20, true))⟩,
 ⟨(some 100), (.call ⟨(.value (.func 15)), #[(T 99)], #[30]⟩), 2, "law.go:140", #[⟨21, .data⟩, ⟨20, .chain⟩, ⟨20, .guard⟩], (some (20, true))⟩,
 ⟨(some 101), (.move (T 7)), 2, "law.go:140", #[⟨20, .guard⟩], (some (20, true))⟩,
 ⟨(some 102), (.binOp .neq 2 (T 100) (T 101) 2), 4, "law.go:140", #[⟨22, .data⟩, ⟨23, .data⟩, ⟨20, .guard⟩], (some (20, true))⟩,
 ⟨(some 103), (.pick (T 98) (T 102) (.const (.bool false))), 4, "law.go:140", #[⟨20, .data⟩, ⟨24, .data⟩, ⟨17, .guard⟩], (some (17, false))⟩,
 ⟨(some 104), (.pick (T 95) (.const (.bool true)) (T 103)), 4, "law.go:140", #[⟨17, .data⟩, ⟨25, .data⟩], none⟩]
def l6_1 : List Oper := [mo 78 (.move (T 10)),
 mo 79 (.binOp .eql 31 (T 78) (.const (.int .i64 0)) 31),
 mo 80 (.move (T 79)),
 mg 81 2 true (.fieldAddr 67 (T 6) 6),
 mg 82 2 true (.fieldAddr 65 (T 81) 1),
 mg 83 2 true (.load 2 (T 82)),
 mg 84 2 true (.move (T 7)),
 mg 85 2 true (.binOp .lss 2 (T 83) (T 84) 2),
 mg 86 2 true (.move (T 85)),
 mg 87 8 false (.move (T 3)),
 mg 88 8 false (.call ⟨(.value (.func 15)), #[(T 87)], #[30]⟩),
 mg 89 8 false (.fieldAddr 67 (T 6) 6),
 mg 90 8 false (.fieldAddr 65 (T 89) 1),
 mg 91 8 false (.load 2 (T 90)),
 mg 92 8 false (.binOp .neq 2 (T 88) (T 91) 2),
 mg 93 2 true (.pick (T 86) (.const (.bool true)) (T 92)),
 mo 94 (.pick (T 80) (T 93) (.const (.bool false))),
 mo 95 (.move (T 94)),
 mg 96 17 false (.move (T 10)),
 mg 97 17 false (.binOp .neq 31 (T 96) (.const (.int .i64 0)) 31),
 mg 98 17 false (.move (T 97)),
 mg 99 20 true (.move (T 3)),
 mg 100 20 true (.call ⟨(.value (.func 15)), #[(T 99)], #[30]⟩),
 mg 101 20 true (.move (T 7)),
 mg 102 20 true (.binOp .neq 2 (T 100) (T 101) 2),
 mg 103 17 false (.pick (T 98) (T 102) (.const (.bool false))),
 mo 104 (.pick (T 95) (.const (.bool true)) (T 103))]
def r6_1 : Code := .region 20 o6_1 true
theorem xr_6_1 {Q : DExit → St → Prop} {s : St} : xs Try.prog 110 r6_1 Q s = NC Try.prog 110 r6_1 Q s := rfl
theorem dr_6_1 {Q : DExit → St → Prop} {s : St} (h : XDraw Try.prog l6_1.toArray (befs o6_1.toList []) [(13, 10)] s.fr Q l6_1 0 s []) : NC Try.prog 110 r6_1 Q s :=
  NC.draw (by kernel_rfl) (by kernel_rfl) (by kernel_rfl) rfl (by kernel_rfl) (by kernel_rfl) h
attribute [go_sem] xr_6_1
def c6 : Code :=
 .seq (rg [mo 2 (.assign (.const (.bool false)))])
 (.seq (rg [mo 12 (.call ⟨(.value (.func 9)), #[(.const (.int .i64 1)), (.const (.int .i64 3))], #[2, 3]⟩),
   mo 11 (.move (T 12)),
   mo 13 (.extract (T 11) 0),
   mo 14 (.extract (T 11) 1),
   mo 3 (.assign (T 13)),
   mo 4 (.assign (T 14))])
 (.seq (.seq (rg [mo 15 (.move (T 4)),
    mo 16 (.binOp .neq 31 (T 15) (.const (.int .i64 0)) 31),
    mo 17 (.move (T 16)),
    mg 18 2 false (.move (T 3)),
    mg 19 2 false (.binOp .eql 30 (T 18) (.const (.pointer none)) 30),
    mo 20 (.pick (T 17) (.const (.bool true)) (T 19)),
    mo 21 (.move (T 20)),
    mg 22 6 false (.call ⟨(.value (.func 10)), #[], #[]⟩),
    mg 23 6 false (.unOp .not 4 (T 22)),
    mo 24 (.pick (T 21) (.const (.bool true)) (T 23))])
  (.cond (T 24) (.seq (rg [mo 2 (.assign (.const (.bool false)))])
   (.ret))
  (.skip)))
 (.seq (.seq (rg [mo 25 (.move (T 0)),
    mo 26 (.call ⟨(.builtin .len), #[(T 25)], #[62]⟩),
    mo 27 (.move (.const (.int .i64 0)))])
  (.block 0 (.loop (.seq (rg [mo 28 (.binOp .lss 3 (T 27) (T 26) 3)])
    (.seq (.cond (T 28) (.skip)
     (.exit 0))
    (.seq (.block 1 (.seq (rg [mo 29 (.indexAddr 62 (T 25) (T 27)),
        mo 30 (.load 67 (T 29)),
        mo 6 (.alloc 67),
        mx (.store 67 (T 6) (T 30))])
      (.seq (rg [mo 31 (.move (T 3)),
        mo 32 (.call ⟨(.value (.func 15)), #[(T 31)], #[30]⟩),
        mo 7 (.assign (T 32))])
      (.seq (.seq (rg [mo 33 (.fieldAddr 67 (T 6) 0),
         mo 34 (.load 3 (T 33))])
       (.block 2 (.seq (rg [mo 36 (.binOp .eql 3 (T 34) (.const (.int .i64 0)) 3),
          mo 35 (.assign (T 36))])
        (.cond (T 35) (rg [mo 37 (.move (T 3)),
          mo 38 (.fieldAddr 67 (T 6) 1),
          mo 39 (.load 26 (T 38)),
          mo 40 (.fieldAddr 67 (T 6) 2),
          mo 41 (.load 3 (T 40)),
          mo 42 (.call ⟨(.value (.func 11)), #[(T 37), (T 39), (T 41)], #[30, 26, 3]⟩)])
        (.seq (rg [mo 44 (.binOp .eql 3 (T 34) (.const (.int .i64 1)) 3),
           mo 43 (.assign (T 44))])
         (.cond (T 43) (rg [mo 45 (.move (T 3)),
           mo 46 (.call ⟨(.value (.func 12)), #[(T 45)], #[30]⟩)])
         (.seq (rg [mo 48 (.binOp .eql 3 (T 34) (.const (.int .i64 2)) 3),
            mo 47 (.assign (T 48))])
          (.cond (T 47) (.seq (rg [mo 49 (.move (T 3)),
             mo 50 (.call ⟨(.value (.func 22)), #[(T 49)], #[30]⟩),
             mo 51 (.fieldAddr 67 (T 6) 3),
             mo 52 (.fieldAddr 47 (T 51) 0),
             mx (.store 2 (T 52) (.const (.int .i64 1))),
             mo 53 (.fieldAddr 67 (T 6) 3),
             mo 54 (.fieldAddr 47 (T 53) 1),
             mx (.store 2 (T 54) (T 50))])
           (.seq (rg [mo 56 (.move (T 3)),
             mo 57 (.fieldAddr 67 (T 6) 3),
             mo 58 (.load 47 (T 57)),
             mo 59 (.call ⟨(.value (.func 14)), #[(T 56), (T 58)], #[30, 47]⟩),
             mo 55 (.move (T 59)),
             mo 60 (.extract (T 55) 0),
             mo 61 (.extract (T 55) 1),
             mo 8 (.assign (T 60)),
             mo 9 (.assign (T 61))])
           (.seq (r6_0)
           (.cond (T 71) (.seq (rg [mo 2 (.assign (.const (.bool false)))])
            (.ret))
           (.skip)))))
          (.seq (rg [mo 73 (.binOp .eql 3 (T 34) (.const (.int .i64 4)) 3),
             mo 72 (.assign (T 73))])
           (.cond (T 72) (.seq (rg [mo 74 (.move (T 3)),
              mo 75 (.fieldAddr 67 (T 6) 6),
              mo 76 (.load 65 (T 75)),
              mo 77 (.call ⟨(.value (.func 25)), #[(T 74), (T 76)], #[30, 65]⟩),
              mo 10 (.assign (T 77))])
            (.seq (r6_1)
            (.cond (T 104) (.seq (rg [mo 2 (.assign (.const (.bool false)))])
             (.ret))
            (.skip))))
           (.skip)))))))))))
      (.seq (rg [mo 105 (.move (T 3)),
        mo 106 (.call ⟨(.value (.func 15)), #[(T 105)], #[30]⟩),
        mo 107 (.move (T 7)),
        mo 108 (.binOp .lss 2 (T 106) (T 107) 2)])
      (.cond (T 108) (.seq (rg [mo 2 (.assign (.const (.bool false)))])
       (.ret))
      (.skip)))))))
    (rg [mo 109 (.binOp .add 3 (T 27) (.const (.int .i64 1)) 3),
     mo 27 (.move (T 109))])))))))
 (.seq (rg [mo 2 (.assign (.const (.bool true)))])
 (.ret)))))
theorem body_6 : Try.f6.body.map strip = some c6 := by kernel_rfl
theorem go_6 {args : List Value} {h : DHeap} {R : DEnd → DHeap → Prop} (ha : args.length ≤ 110) (hx : xs Try.prog 110 c6 (XPost Try.prog [(.tmp 2)] R) ⟨argsFr args 110, [], h, none⟩) : Ct Try.prog 6 args h R :=
  Ct_xs (show Try.prog.funcs[6]? = some Try.f6 by kernel_rfl) body_6 (by kernel_rfl) (by kernel_rfl) ha (by kernel_rfl) hx
/-! trivet/trivetlaw25.ClientNone -/
/-! trivet/client.New -/
def c9 : Code :=
 .seq (rg [mo 4 (.assign (.const (.pointer none))),
   mo 5 (.assign (.const (.int .i64 0)))])
 (.seq (.seq (rg [mo 6 (.move (T 0)),
    mo 7 (.binOp .lss 2 (T 6) (.const (.int .i64 1)) 2),
    mo 8 (.move (T 7)),
    mg 9 2 false (.move (T 0)),
    mg 10 2 false (.binOp .gtr 2 (T 9) (.const (.int .i64 1099511627776)) 2),
    mo 11 (.pick (T 8) (.const (.bool true)) (T 10)),
    mo 12 (.move (T 11)),
    mg 13 6 false (.move (T 1)),
    mg 14 6 false (.binOp .lss 3 (T 13) (.const (.int .i64 1)) 3),
    mo 15 (.pick (T 12) (.const (.bool true)) (T 14)),
    mo 16 (.move (T 15)),
    mg 17 10 false (.move (T 1)),
    mg 18 10 false (.binOp .gtr 3 (T 17) (.const (.int .i64 5)) 3),
    mo 19 (.pick (T 16) (.const (.bool true)) (T 18))])
  (.cond (T 19) (.seq (rg [mo 4 (.assign (.const (.pointer none))),
     mo 5 (.assign (.const (.int .i64 1)))])
   (.ret))
  (.skip)))
 (.seq (rg [mo 20 (.move (T 0)),
   mo 21 (.move (T 1)),
   mo 22 (.build 76 #[(0, (T 20)), (1, (T 21))]),
   mo 23 (.box 76 (T 22)),
   mo 4 (.assign (T 23)),
   mo 5 (.assign (.const (.int .i64 0)))])
 (.ret)))
theorem body_9 : Try.f9.body.map strip = some c9 := by kernel_rfl
theorem go_9 {args : List Value} {h : DHeap} {R : DEnd → DHeap → Prop} (ha : args.length ≤ 24) (hx : xs Try.prog 24 c9 (XPost Try.prog [(.tmp 4), (.tmp 5)] R) ⟨argsFr args 24, [], h, none⟩) : Ct Try.prog 9 args h R :=
  Ct_xs (show Try.prog.funcs[9]? = some Try.f9 by kernel_rfl) body_9 (by kernel_rfl) (by kernel_rfl) ha (by kernel_rfl) hx
/-! trivet/trivetlaw25.live -/
def c10 : Code :=
 .seq (rg [mo 0 (.assign (.const (.bool false)))])
 (.seq (rg [mo 10 (.call ⟨(.value (.func 9)), #[(.const (.int .i64 3)), (.const (.int .i64 3))], #[2, 3]⟩),
   mo 9 (.move (T 10)),
   mo 11 (.extract (T 9) 0),
   mo 12 (.extract (T 9) 1),
   mo 1 (.assign (T 11)),
   mo 2 (.assign (T 12))])
 (.seq (.seq (rg [mo 13 (.move (T 2)),
    mo 14 (.binOp .neq 31 (T 13) (.const (.int .i64 0)) 31),
    mo 15 (.move (T 14)),
    mg 16 2 false (.move (T 1)),
    mg 17 2 false (.binOp .eql 30 (T 16) (.const (.pointer none)) 30),
    mo 18 (.pick (T 15) (.const (.bool true)) (T 17))])
  (.cond (T 18) (.seq (rg [mo 0 (.assign (.const (.bool false)))])
   (.ret))
  (.skip)))
 (.seq (rg [mo 20 (.move (T 1)),
   mo 21 (.build 26 #[]),
   mo 22 (.call ⟨(.value (.func 11)), #[(T 20), (T 21), (.const (.int .i64 1))], #[30, 26, 3]⟩),
   mo 19 (.move (T 22)),
   mo 23 (.extract (T 19) 0),
   mo 24 (.extract (T 19) 1),
   mo 3 (.alloc 36),
   mx (.store 36 (T 3) (T 23)),
   mo 2 (.assign (T 24))])
 (.seq (.seq (rg [mo 25 (.move (T 2)),
    mo 26 (.binOp .neq 31 (T 25) (.const (.int .i64 0)) 31),
    mo 27 (.move (T 26)),
    mg 28 2 false (.fieldAddr 36 (T 3) 0),
    mg 29 2 false (.load 3 (T 28)),
    mg 30 2 false (.binOp .neq 3 (T 29) (.const (.int .i64 1)) 3),
    mo 31 (.pick (T 27) (.const (.bool true)) (T 30)),
    mo 32 (.move (T 31)),
    mg 33 7 false (.fieldAddr 36 (T 3) 1),
    mg 34 7 false (.fieldAddr 26 (T 33) 0),
    mg 35 7 false (.load 2 (T 34)),
    mg 36 7 false (.binOp .neq 2 (T 35) (.const (.int .i64 3)) 2),
    mo 37 (.pick (T 32) (.const (.bool true)) (T 36)),
    mo 38 (.move (T 37)),
    mg 39 13 false (.fieldAddr 36 (T 3) 1),
    mg 40 13 false (.fieldAddr 26 (T 39) 1),
    mg 41 13 false (.load 2 (T 40)),
    mg 42 13 false (.binOp .neq 2 (T 41) (.const (.int .i64 1)) 2),
    mo 43 (.pick (T 38) (.const (.bool true)) (T 42))])
  (.cond (T 43) (.seq (rg [mo 0 (.assign (.const (.bool false)))])
   (.ret))
  (.skip)))
 (.seq (.seq (rg [mo 44 (.move (.const (.int .i64 0)))])
  (.block 0 (.loop (.seq (rg [mo 45 (.binOp .lss 3 (T 44) (.const (.int .i64 11)) 3)])
    (.seq (.cond (T 45) (.skip)
     (.exit 0))
    (.seq (.block 1 (.seq (rg [mo 47 (.move (T 1)),
        mo 48 (.call ⟨(.value (.func 12)), #[(T 47)], #[30]⟩),
        mo 46 (.move (T 48)),
        mo 49 (.extract (T 46) 0),
        mo 50 (.extract (T 46) 1),
        mo 4 (.alloc 36),
        mx (.store 36 (T 4) (T 49)),
        mo 5 (.assign (T 50))])
      (.seq (rg [mo 51 (.move (T 5))])
      (.cond (T 51) (.seq (rg [mo 0 (.assign (.const (.bool false)))])
       (.ret))
      (.skip)))))
    (rg [mo 52 (.binOp .add 3 (T 44) (.const (.int .i64 1)) 3),
     mo 44 (.move (T 52))])))))))
 (.seq (rg [mo 54 (.move (T 1)),
   mo 55 (.call ⟨(.value (.func 12)), #[(T 54)], #[30]⟩),
   mo 53 (.move (T 55)),
   mo 56 (.extract (T 53) 0),
   mo 57 (.extract (T 53) 1),
   mo 6 (.alloc 36),
   mx (.store 36 (T 6) (T 56)),
   mo 7 (.assign (T 57))])
 (.seq (rg [mo 59 (.move (T 1)),
   mo 60 (.build 45 #[(2, (.const (.int .i64 4)))]),
   mo 61 (.build 47 #[(0, (.const (.int .i64 3))), (1, (.const (.int .i64 1))), (2, (T 60))]),
   mo 62 (.call ⟨(.value (.func 14)), #[(T 59), (T 61)], #[30, 47]⟩),
   mo 58 (.move (T 62)),
   mo 63 (.extract (T 58) 0),
   mo 64 (.extract (T 58) 1),
   mo 8 (.assign (T 63)),
   mo 2 (.assign (T 64))])
 (.seq (rg [mo 65 (.move (T 7)),
   mo 66 (.move (T 65)),
   mg 67 1 true (.fieldAddr 36 (T 6) 0),
   mg 68 1 true (.load 3 (T 67)),
   mg 69 1 true (.binOp .eql 3 (T 68) (.const (.int .i64 2)) 3),
   mo 70 (.pick (T 66) (T 69) (.const (.bool false))),
   mo 71 (.move (T 70)),
   mg 72 6 true (.move (T 8)),
   mo 73 (.pick (T 71) (T 72) (.const (.bool false))),
   mo 74 (.move (T 73)),
   mg 75 9 true (.move (T 2)),
   mg 76 9 true (.binOp .eql 31 (T 75) (.const (.int .i64 0)) 31),
   mo 77 (.pick (T 74) (T 76) (.const (.bool false))),
   mo 78 (.move (T 77)),
   mg 79 13 true (.move (T 1)),
   mg 80 13 true (.call ⟨(.value (.func 15)), #[(T 79)], #[30]⟩),
   mg 81 13 true (.binOp .eql 2 (T 80) (.const (.int .i64 5)) 2),
   mo 82 (.pick (T 78) (T 81) (.const (.bool false))),
   mo 0 (.assign (T 82))])
 (.ret)))))))))
theorem body_10 : Try.f10.body.map strip = some c10 := by kernel_rfl
theorem go_10 {args : List Value} {h : DHeap} {R : DEnd → DHeap → Prop} (ha : args.length ≤ 83) (hx : xs Try.prog 83 c10 (XPost Try.prog [(.tmp 0)] R) ⟨argsFr args 83, [], h, none⟩) : Ct Try.prog 10 args h R :=
  Ct_xs (show Try.prog.funcs[10]? = some Try.f10 by kernel_rfl) body_10 (by kernel_rfl) (by kernel_rfl) ha (by kernel_rfl) hx
end Go.Proofs.Ytbdljpndncohaaa

namespace Go.Proofs.Ytbdljpndncohaaa
open Go.D
set_option maxRecDepth 100000
/-! trivet/client.Normal -/
def o20_0 : Array Oper := #[⟨(some 5), (.fieldAddr 26 (T 1) 4), 0, "client.go:46", #[], none⟩,
 ⟨(some 6), (.load 24 (T 5)), 24, "client.go:46", #[⟨0, .data⟩], none⟩,
 ⟨(some 7), (.call ⟨(.value (.func 38)), #[(T 6)], #[24]⟩), 24, "client.go:46", #[⟨1, .data⟩], none⟩,
 ⟨(some 8), (.fieldAddr 26 (T 1) 5), 0, "client.go:46", #[], none⟩,
 ⟨(some 9), (.load 24 (T 8)), 24, "client.go:46", #[⟨3, .data⟩], none⟩,
 ⟨(some 10), (.call ⟨(.value (.func 38)), #[(T 9)], #[24]⟩), 24, "client.go:46", #[⟨4, .data⟩, ⟨2, .chain⟩], none⟩,
 ⟨(some 11), (.fieldAddr 26 (T 1) 4), 0, "client.go:46", #[⟨0, .phase⟩, ⟨1, .phase⟩, ⟨2, .phase⟩, ⟨3, .phase⟩, ⟨4, .phase⟩, ⟨5, (.textOnly Go.Departure.lateStoresUnsure)⟩], none⟩,
 ⟨none, (.store 24 (T 11) (T 7)), 0, "client.go:46", #[⟨6, .data⟩, ⟨2, .data⟩, ⟨5, .chain⟩, ⟨0, .phase⟩, ⟨1, .phase⟩, ⟨2, .phase⟩, ⟨3, .phase⟩, ⟨4, .phase⟩, ⟨5, (.textOnly Go.Departure.lateStoresUnsure)⟩], none⟩,
 ⟨(some 12), (.fieldAddr 26 (T 1) 5), 0, "client.go:46", #[⟨0, .phase⟩, ⟨1, .phase⟩, ⟨2, .phase⟩, ⟨3, .phase⟩, ⟨4, .phase⟩, ⟨5, .phase⟩, ⟨6, .phase⟩, ⟨7, .phase⟩], none⟩,
 ⟨none, (.store 24 (T 12) (T 10)), 0, "client.go:46", #[⟨8, .data⟩, ⟨5, .data⟩, ⟨7, .chain⟩, ⟨0, .phase⟩, ⟨1, .phase⟩, ⟨2, .phase⟩, ⟨3, .phase⟩, ⟨4, .phase⟩, ⟨5, .phase⟩, ⟨6, .phase⟩, ⟨7, .phase⟩], none⟩]
def l20_0 : List Oper := [mo 5 (.fieldAddr 26 (T 1) 4),
 mo 6 (.load 24 (T 5)),
 mo 7 (.call ⟨(.value (.func 38)), #[(T 6)], #[24]⟩),
 mo 8 (.fieldAddr 26 (T 1) 5),
 mo 9 (.load 24 (T 8)),
 mo 10 (.call ⟨(.value (.func 38)), #[(T 9)], #[24]⟩),
 mo 11 (.fieldAddr 26 (T 1) 4),
 mx (.store 24 (T 11) (T 7)),
 mo 12 (.fieldAddr 26 (T 1) 5),
 mx (.store 24 (T 12) (T 10))]
def r20_0 : Code := .region 2 o20_0 true
theorem xr_20_0 {Q : DExit → St → Prop} {s : St} : xs Try.prog 14 r20_0 Q s = NC Try.prog 14 r20_0 Q s := rfl
attribute [go_sem] xr_20_0
def c20 : Code :=
 .seq (rg [mo 1 (.box 26 (T 0)),
   mo 2 (.alloc 26)])
 (.seq (rg [mo 3 (.load 26 (T 1)),
   mo 4 (.call ⟨(.value (.func 37)), #[(T 3)], #[26]⟩),
   mx (.store 26 (T 1) (T 4))])
 (.seq (r20_0)
 (.seq (rg [mo 13 (.load 26 (T 1)),
   mx (.store 26 (T 2) (T 13))])
 (.ret))))
theorem body_20 : Try.f20.body.map strip = some c20 := by kernel_rfl
theorem go_20 {args : List Value} {h : DHeap} {R : DEnd → DHeap → Prop} (ha : args.length ≤ 14) (hx : xs Try.prog 14 c20 (XPost Try.prog [(.cell 2 26)] R) ⟨argsFr args 14, [], h, none⟩) : Ct Try.prog 20 args h R :=
  Ct_xs (show Try.prog.funcs[20]? = some Try.f20 by kernel_rfl) body_20 (by kernel_rfl) (by kernel_rfl) ha (by kernel_rfl) hx
/-! trivet/trivetref25.Normal -/
/-! (*trivet/client.Client).Request -/
def c22 : Code :=
 .seq (rg [mo 2 (.assign (.const (.int .i64 0)))])
 (.seq (.seq (rg [mo 3 (.move (T 0)),
    mo 4 (.call ⟨(.value (.func 31)), #[(T 3)], #[30]⟩)])
  (.cond (T 4) (.seq (rg [mo 2 (.assign (.const (.int .i64 0)))])
   (.ret))
  (.skip)))
 (.seq (rg [mo 5 (.move (T 0)),
   mo 6 (.nilCheck (T 5)),
   mo 7 (.fieldAddr 76 (T 6) 2),
   mo 8 (.load 2 (T 7)),
   mo 2 (.assign (T 8))])
 (.ret)))
theorem body_22 : Try.f22.body.map strip = some c22 := by kernel_rfl
theorem go_22 {args : List Value} {h : DHeap} {R : DEnd → DHeap → Prop} (ha : args.length ≤ 9) (hx : xs Try.prog 9 c22 (XPost Try.prog [(.tmp 2)] R) ⟨argsFr args 9, [], h, none⟩) : Ct Try.prog 22 args h R :=
  Ct_xs (show Try.prog.funcs[22]? = some Try.f22 by kernel_rfl) body_22 (by kernel_rfl) (by kernel_rfl) ha (by kernel_rfl) hx
/-! trivet/trivetref13.Check -/
/-! trivet/trivetref11.SameKeys -/
/-! (*trivet/client.Client).Found -/
def o25_0 : Array Oper := #[⟨(some 24), (.fieldAddr 65 (T 3) 1), 0, "client.go:124", #[], none⟩,
 ⟨(some 25), (.load 2 (T 24)), 2, "client.go:124", #[⟨0, .data⟩], none⟩,
 ⟨(some 26), (.move (T 0)), 30, "client.go:124", #[], none⟩,
 ⟨(some 27), (.nilCheck (T 26)), 0, "client.go:124", #[⟨2, .data⟩], none⟩,
 ⟨(some 28), (.fieldAddr 76 (T 27) 7), 0, "client.go:124", #[⟨3, .data⟩], none⟩,
 ⟨(some 29), (.load 2 (T 28)), 2, "client.go:124", #[⟨4, .data⟩], none⟩,
 ⟨(some 30), (.binOp .lss 2 (T 25) (T 29) 2), 4, "client.go:124", #[⟨1, .data⟩, ⟨5, .data⟩], none⟩,
 ⟨(some 23), (.assign (T 30)), 4, "client.go:124", #[⟨6, .data⟩], none⟩]
def l25_0 : List Oper := [mo 24 (.fieldAddr 65 (T 3) 1),
 mo 25 (.load 2 (T 24)),
 mo 26 (.move (T 0)),
 mo 27 (.nilCheck (T 26)),
 mo 28 (.fieldAddr 76 (T 27) 7),
 mo 29 (.load 2 (T 28)),
 mo 30 (.binOp .lss 2 (T 25) (T 29) 2),
 mo 23 (.assign (T 30))]
def r25_0 : Code := .region 7 o25_0 true
theorem xr_25_0 {Q : DExit → St → Prop} {s : St} : xs Try.prog 36 r25_0 Q s = NC Try.prog 36 r25_0 Q s := rfl
theorem dr_25_0 {Q : DExit → St → Prop} {s : St} (h : XDraw Try.prog l25_0.toArray (befs o25_0.toList []) [] s.fr Q l25_0 0 s []) : NC Try.prog 36 r25_0 Q s :=
  NC.draw (by kernel_rfl) (by kernel_rfl) (by kernel_rfl) rfl (by kernel_rfl) (by kernel_rfl) h
attribute [go_sem] xr_25_0
def c25 : Code :=
 .seq (rg [mo 3 (.box 65 (T 1)),
   mo 4 (.assign (.const (.int .i64 0)))])
 (.seq (.block 0 (.seq (rg [mo 6 (.move (T 0)),
     mo 7 (.call ⟨(.value (.func 31)), #[(T 6)], #[30]⟩),
     mo 5 (.assign (T 7))])
   (.cond (T 5) (.seq (rg [mo 4 (.assign (.const (.int .i64 2)))])
    (.ret))
   (.seq (rg [mo 9 (.fieldAddr 65 (T 3) 0),
      mo 10 (.load 31 (T 9)),
      mo 11 (.binOp .neq 31 (T 10) (.const (.int .i64 0)) 31),
      mo 8 (.assign (T 11))])
    (.cond (T 8) (.seq (rg [mo 12 (.fieldAddr 65 (T 3) 0),
       mo 13 (.load 31 (T 12)),
       mo 4 (.assign (T 13))])
     (.ret))
    (.seq (rg [mo 15 (.fieldAddr 65 (T 3) 1),
       mo 16 (.load 2 (T 15)),
       mo 17 (.binOp .lss 2 (T 16) (.const (.int .i64 0)) 2),
       mo 18 (.move (T 17)),
       mg 19 3 false (.fieldAddr 65 (T 3) 1),
       mg 20 3 false (.load 2 (T 19)),
       mg 21 3 false (.binOp .gtr 2 (T 20) (.const (.int .i64 1099511627776)) 2),
       mo 22 (.pick (T 18) (.const (.bool true)) (T 21)),
       mo 14 (.assign (T 22))])
     (.cond (T 14) (.seq (rg [mo 4 (.assign (.const (.int .i64 1)))])
      (.ret))
     (.seq (r25_0)
      (.cond (T 23) (.seq (rg [mo 4 (.assign (.const (.int .i64 250)))])
       (.ret))
      (.skip))))))))))
 (.seq (rg [mo 31 (.move (T 0)),
   mo 32 (.fieldAddr 65 (T 3) 1),
   mo 33 (.load 2 (T 32)),
   mo 34 (.nilCheck (T 31)),
   mo 35 (.fieldAddr 76 (T 34) 7),
   mx (.store 2 (T 35) (T 33))])
 (.seq (rg [mo 4 (.assign (.const (.int .i64 0)))])
 (.ret))))
theorem body_25 : Try.f25.body.map strip = some c25 := by kernel_rfl
theorem go_25 {args : List Value} {h : DHeap} {R : DEnd → DHeap → Prop} (ha : args.length ≤ 36) (hx : xs Try.prog 36 c25 (XPost Try.prog [(.tmp 4)] R) ⟨argsFr args 36, [], h, none⟩) : Ct Try.prog 25 args h R :=
  Ct_xs (show Try.prog.funcs[25]? = some Try.f25 by kernel_rfl) body_25 (by kernel_rfl) (by kernel_rfl) ha (by kernel_rfl) hx
end Go.Proofs.Ytbdljpndncohaaa

namespace Go.Proofs.Ytbdljpndncohaaa
open Go.D
set_option maxRecDepth 100000
/-! (*trivet/client.Client).Submit -/
def o11_0 : Array Oper := #[⟨(some 40), (.move (T 0)), 30, "client.go:63", #[], none⟩,
 ⟨(some 41), (.nilCheck (T 40)), 0, "client.go:63", #[⟨0, .data⟩], none⟩,
 ⟨(some 42), (.fieldAddr 76 (T 41) 0), 0, "client.go:63", #[⟨1, .data⟩], none⟩,
 ⟨(some 43), (.load 2 (T 42)), 2, "client.go:63", #[⟨2, .data⟩], none⟩,
 ⟨(some 44), (.move (T 0)), 30, "client.go:63", #[⟨10, (.gcOnly Go.Departure.lateStores)⟩], none⟩,
 ⟨(some 45), (.nilCheck (T 44)), 0, "client.go:63", #[⟨4, .data⟩, ⟨10, (.gcOnly Go.Departure.lateStores)⟩], none⟩,
 ⟨(some 46), (.fieldAddr 76 (T 45) 2), 0, "client.go:63", #[⟨5, .data⟩, ⟨10, (.gcOnly Go.Departure.lateStores)⟩], none⟩,
 ⟨(some 47), (.load 2 (T 46)), 2, "client.go:63", #[⟨6, .data⟩, ⟨10, (.gcOnly Go.Departure.lateStores)⟩], none⟩,
 ⟨(some 48), (.binOp .add 2 (T 47) (.const (.int .i64 1)) 2), 2, "client.go:63", #[⟨7, .data⟩, ⟨10, (.gcOnly Go.Departure.lateStores)⟩], none⟩,
 ⟨(some 49), (.fieldAddr 26 (T 4) 0), 0, "client.go:63", #[⟨0, .phase⟩, ⟨1, .phase⟩, ⟨2, .phase⟩, ⟨3, .phase⟩, ⟨4, (.textOnly Go.Departure.lateStores)⟩, ⟨5, (.textOnly Go.Departure.lateStores)⟩, ⟨6, (.textOnly Go.Departure.lateStores)⟩, ⟨7, (.textOnly Go.Departure.lateStores)⟩, ⟨8, (.textOnly Go.Departure.lateStores)⟩], none⟩,
 ⟨none, (.store 2 (T 49) (T 43)), 0, "client.go:63", #[⟨9, .data⟩, ⟨3, .data⟩, ⟨0, .phase⟩, ⟨1, .phase⟩, ⟨2, .phase⟩, ⟨3, .phase⟩, ⟨4, (.textOnly Go.Departure.lateStores)⟩, ⟨5, (.textOnly Go.Departure.lateStores)⟩, ⟨6, (.textOnly Go.Departure.lateStores)⟩, ⟨7, (.textOnly Go.Departure.lateStores)⟩, ⟨8, (.textOnly Go.Departure.lateStores)⟩], none⟩,
 ⟨(some 50), (.fieldAddr 26 (T 4) 1), 0, "client.go:63", #[⟨0, .phase⟩, ⟨1, .phase⟩, ⟨2, .phase⟩, ⟨3, .phase⟩, ⟨4, .phase⟩, ⟨5, .phase⟩, ⟨6, .phase⟩, ⟨7, .phase⟩, ⟨8, .phase⟩, ⟨9, .phase⟩, ⟨10, .phase⟩], none⟩,
 ⟨none, (.store 2 (T 50) (T 48)), 0, "client.go:63", #[⟨11, .data⟩, ⟨8, .data⟩, ⟨10, .chain⟩, ⟨0, .phase⟩, ⟨1, .phase⟩, ⟨2, .phase⟩, ⟨3, .phase⟩, ⟨4, .phase⟩, ⟨5, .phase⟩, ⟨6, .phase⟩, ⟨7, .phase⟩, ⟨8, .phase⟩, ⟨9, .phase⟩, ⟨10, .phase⟩], none⟩]
def l11_0 : List Oper := [mo 40 (.move (T 0)),
 mo 41 (.nilCheck (T 40)),
 mo 42 (.fieldAddr 76 (T 41) 0),
 mo 43 (.load 2 (T 42)),
 mo 44 (.move (T 0)),
 mo 45 (.nilCheck (T 44)),
 mo 46 (.fieldAddr 76 (T 45) 2),
 mo 47 (.load 2 (T 46)),
 mo 48 (.binOp .add 2 (T 47) (.const (.int .i64 1)) 2),
 mo 49 (.fieldAddr 26 (T 4) 0),
 mx (.store 2 (T 49) (T 43)),
 mo 50 (.fieldAddr 26 (T 4) 1),
 mx (.store 2 (T 50) (T 48))]
def r11_0 : Code := .region 10 o11_0 true
theorem xr_11_0 {Q : DExit → St → Prop} {s : St} : xs Try.prog 78 r11_0 Q s = NC Try.prog 78 r11_0 Q s := rfl
theorem dr_11_0 {Q : DExit → St → Prop} {s : St} (h : XDraw Try.prog l11_0.toArray (befs o11_0.toList []) [(7, 10)] s.fr Q l11_0 0 s []) : NC Try.prog 78 r11_0 Q s :=
  NC.draw (by kernel_rfl) (by kernel_rfl) (by kernel_rfl) rfl (by kernel_rfl) (by kernel_rfl) h
attribute [go_sem] xr_11_0
def o11_1 : Array Oper := #[⟨(some 57), (.move (T 0)), 30, "client.go:67", #[], none⟩,
 ⟨(some 58), (.move (T 0)), 30, "client.go:67", #[⟨11, (.gcOnly Go.Departure.lateStores)⟩], none⟩,
 ⟨(some 59), (.move (T 0)), 30, "client.go:67", #[⟨14, (.gcOnly Go.Departure.lateStores)⟩], none⟩,
 ⟨(some 60), (.move (T 0)), 30, "client.go:67", #[⟨17, (.gcOnly Go.Departure.lateStores)⟩], none⟩,
 ⟨(some 61), (.move (T 0)), 30, "client.go:67", #[⟨20, (.gcOnly Go.Departure.lateStores)⟩], none⟩,
 ⟨(some 62), (.load 26 (T 4)), 26, "client.go:67", #[], none⟩,
 ⟨(some 63), (.fieldAddr 26 (T 4) 1), 0, "client.go:67", #[⟨11, (.gcOnly Go.Departure.lateStores)⟩], none⟩,
 ⟨(some 64), (.load 2 (T 63)), 2, "client.go:67", #[⟨6, .data⟩, ⟨11, (.gcOnly Go.Departure.lateStores)⟩], none⟩,
 ⟨(some 65), (.move (T 2)), 3, "client.go:67", #[⟨20, (.gcOnly Go.Departure.lateStores)⟩], none⟩,
 ⟨(some 66), (.nilCheck (T 57)), 0, "client.go:67", #[⟨0, .data⟩, ⟨0, .phase⟩, ⟨1, (.textOnly Go.Departure.lateStores)⟩, ⟨2, (.textOnly Go.Departure.lateStores)⟩, ⟨3, (.textOnly Go.Departure.lateStores)⟩, ⟨4, (.textOnly Go.Departure.lateStores)⟩, ⟨5, .phase⟩, ⟨6, (.textOnly Go.Departure.lateStores)⟩, ⟨7, (.textOnly Go.Departure.lateStores)⟩, ⟨8, (.textOnly Go.Departure.lateStores)⟩], none⟩,
 ⟨(some 67), (.fieldAddr 76 (T 66) 4), 0, "client.go:67", #[⟨9, .data⟩, ⟨0, .phase⟩, ⟨1, (.textOnly Go.Departure.lateStores)⟩, ⟨2, (.textOnly Go.Departure.lateStores)⟩, ⟨3, (.textOnly Go.Departure.lateStores)⟩, ⟨4, (.textOnly Go.Departure.lateStores)⟩, ⟨5, .phase⟩, ⟨6, (.textOnly Go.Departure.lateStores)⟩, ⟨7, (.textOnly Go.Departure.lateStores)⟩, ⟨8, (.textOnly Go.Departure.lateStores)⟩], none⟩,
 ⟨none, (.store 26 (T 67) (T 62)), 0, "client.go:67", #[⟨10, .data⟩, ⟨5, .data⟩, ⟨0, .phase⟩, ⟨1, (.textOnly Go.Departure.lateStores)⟩, ⟨2, (.textOnly Go.Departure.lateStores)⟩, ⟨3, (.textOnly Go.Departure.lateStores)⟩, ⟨4, (.textOnly Go.Departure.lateStores)⟩, ⟨5, .phase⟩, ⟨6, (.textOnly Go.Departure.lateStores)⟩, ⟨7, (.textOnly Go.Departure.lateStores)⟩, ⟨8, (.textOnly Go.Departure.lateStores)⟩], none⟩,
 ⟨(some 68), (.nilCheck (T 58)), 0, "client.go:67", #[⟨1, .data⟩, ⟨0, .phase⟩, ⟨1, .phase⟩, ⟨2, (.textOnly Go.Departure.lateStores)⟩, ⟨3, (.textOnly Go.Departure.lateStores)⟩, ⟨4, (.textOnly Go.Departure.lateStores)⟩, ⟨5, .phase⟩, ⟨6, .phase⟩, ⟨7, .phase⟩, ⟨8, (.textOnly Go.Departure.lateStores)⟩, ⟨9, .phase⟩, ⟨10, .phase⟩, ⟨11, .phase⟩], none⟩,
 ⟨(some 69), (.fieldAddr 76 (T 68) 2), 0, "client.go:67", #[⟨12, .data⟩, ⟨0, .phase⟩, ⟨1, .phase⟩, ⟨2, (.textOnly Go.Departure.lateStores)⟩, ⟨3, (.textOnly Go.Departure.lateStores)⟩, ⟨4, (.textOnly Go.Departure.lateStores)⟩, ⟨5, .phase⟩, ⟨6, .phase⟩, ⟨7, .phase⟩, ⟨8, (.textOnly Go.Departure.lateStores)⟩, ⟨9, .phase⟩, ⟨10, .phase⟩, ⟨11, .phase⟩], none⟩,
 ⟨none, (.store 2 (T 69) (T 64)), 0, "client.go:67", #[⟨13, .data⟩, ⟨7, .data⟩, ⟨11, .chain⟩, ⟨0, .phase⟩, ⟨1, .phase⟩, ⟨2, (.textOnly Go.Departure.lateStores)⟩, ⟨3, (.textOnly Go.Departure.lateStores)⟩, ⟨4, (.textOnly Go.Departure.lateStores)⟩, ⟨5, .phase⟩, ⟨6, .phase⟩, ⟨7, .phase⟩, ⟨8, (.textOnly Go.Departure.lateStores)⟩, ⟨9, .phase⟩, ⟨10, .phase⟩, ⟨11, .phase⟩], none⟩,
 ⟨(some 70), (.nilCheck (T 59)), 0, "client.go:67", #[⟨2, .data⟩, ⟨0, .phase⟩, ⟨1, .phase⟩, ⟨2, .phase⟩, ⟨3, (.textOnly Go.Departure.lateStores)⟩, ⟨4, (.textOnly Go.Departure.lateStores)⟩, ⟨5, .phase⟩, ⟨6, .phase⟩, ⟨7, .phase⟩, ⟨8, (.textOnly Go.Departure.lateStores)⟩, ⟨9, .phase⟩, ⟨10, .phase⟩, ⟨11, .phase⟩, ⟨12, .phase⟩, ⟨13, .phase⟩, ⟨14, .phase⟩], none⟩,
 ⟨(some 71), (.fieldAddr 76 (T 70) 3), 0, "client.go:67", #[⟨15, .data⟩, ⟨0, .phase⟩, ⟨1, .phase⟩, ⟨2, .phase⟩, ⟨3, (.textOnly Go.Departure.lateStores)⟩, ⟨4, (.textOnly Go.Departure.lateStores)⟩, ⟨5, .phase⟩, ⟨6, .phase⟩, ⟨7, .phase⟩, ⟨8, (.textOnly Go.Departure.lateStores)⟩, ⟨9, .phase⟩, ⟨10, .phase⟩, ⟨11, .phase⟩, ⟨12, .phase⟩, ⟨13, .phase⟩, ⟨14, .phase⟩], none⟩,
 ⟨none, (.store 4 (T 71) (.const (.bool true))), 0, "client.go:67", #[⟨16, .data⟩, ⟨14, .chain⟩, ⟨0, .phase⟩, ⟨1, .phase⟩, ⟨2, .phase⟩, ⟨3, (.textOnly Go.Departure.lateStores)⟩, ⟨4, (.textOnly Go.Departure.lateStores)⟩, ⟨5, .phase⟩, ⟨6, .phase⟩, ⟨7, .phase⟩, ⟨8, (.textOnly Go.Departure.lateStores)⟩, ⟨9, .phase⟩, ⟨10, .phase⟩, ⟨11, .phase⟩, ⟨12, .phase⟩, ⟨13, .phase⟩, ⟨14, .phase⟩], none⟩,
 ⟨(some 72), (.nilCheck (T 60)), 0, "client.go:67", #[⟨3, .data⟩, ⟨0, .phase⟩, ⟨1, .phase⟩, ⟨2, .phase⟩, ⟨3, .phase⟩, ⟨4, (.textOnly Go.Departure.lateStores)⟩, ⟨5, .phase⟩, ⟨6, .phase⟩, ⟨7, .phase⟩, ⟨8, (.textOnly Go.Departure.lateStores)⟩, ⟨9, .phase⟩, ⟨10, .phase⟩, ⟨11, .phase⟩, ⟨12, .phase⟩, ⟨13, .phase⟩, ⟨14, .phase⟩, ⟨15, .phase⟩, ⟨16, .phase⟩, ⟨17, .phase⟩], none⟩,
 ⟨(some 73), (.fieldAddr 76 (T 72) 5), 0, "client.go:67", #[⟨18, .data⟩, ⟨0, .phase⟩, ⟨1, .phase⟩, ⟨2, .phase⟩, ⟨3, .phase⟩, ⟨4, (.textOnly Go.Departure.lateStores)⟩, ⟨5, .phase⟩, ⟨6, .phase⟩, ⟨7, .phase⟩, ⟨8, (.textOnly Go.Departure.lateStores)⟩, ⟨9, .phase⟩, ⟨10, .phase⟩, ⟨11, .phase⟩, ⟨12, .phase⟩, ⟨13, .phase⟩, ⟨14, .phase⟩, ⟨15, .phase⟩, ⟨16, .phase⟩, ⟨17, .phase⟩], none⟩,
 ⟨none, (.store 3 (T 73) (.const (.int .i64 0))), 0, "client.go:67", #[⟨19, .data⟩, ⟨17, .chain⟩, ⟨0, .phase⟩, ⟨1, .phase⟩, ⟨2, .phase⟩, ⟨3, .phase⟩, ⟨4, (.textOnly Go.Departure.lateStores)⟩, ⟨5, .phase⟩, ⟨6, .phase⟩, ⟨7, .phase⟩, ⟨8, (.textOnly Go.Departure.lateStores)⟩, ⟨9, .phase⟩, ⟨10, .phase⟩, ⟨11, .phase⟩, ⟨12, .phase⟩, ⟨13, .phase⟩, ⟨14, .phase⟩, ⟨15, .phase⟩, ⟨16, .phase⟩, ⟨17, .phase⟩], none⟩,
 ⟨(some 74), (.nilCheck (T 61)), 0, "client.go:67", #[⟨4, .data⟩, ⟨0, .phase⟩, ⟨1, .phase⟩, ⟨2, .phase⟩, ⟨3, .phase⟩, ⟨4, .phase⟩, ⟨5, .phase⟩, ⟨6, .phase⟩, ⟨7, .phase⟩, ⟨8, .phase⟩, ⟨9, .phase⟩, ⟨10, .phase⟩, ⟨11, .phase⟩, ⟨12, .phase⟩, ⟨13, .phase⟩, ⟨14, .phase⟩, ⟨15, .phase⟩, ⟨16, .phase⟩, ⟨17, .phase⟩, ⟨18, .phase⟩, ⟨19, .phase⟩, ⟨20, .phase⟩], none⟩,
 ⟨(some 75), (.fieldAddr 76 (T 74) 6), 0, "client.go:67", #[⟨21, .data⟩, ⟨0, .phase⟩, ⟨1, .phase⟩, ⟨2, .phase⟩, ⟨3, .phase⟩, ⟨4, .phase⟩, ⟨5, .phase⟩, ⟨6, .phase⟩, ⟨7, .phase⟩, ⟨8, .phase⟩, ⟨9, .phase⟩, ⟨10, .phase⟩, ⟨11, .phase⟩, ⟨12, .phase⟩, ⟨13, .phase⟩, ⟨14, .phase⟩, ⟨15, .phase⟩, ⟨16, .phase⟩, ⟨17, .phase⟩, ⟨18, .phase⟩, ⟨19, .phase⟩, ⟨20, .phase⟩], none⟩,
 ⟨none, (.store 3 (T 75) (T 65)), 0, "client.go:67", #[⟨22, .data⟩, ⟨8, .data⟩, ⟨20, .chain⟩, ⟨0, .phase⟩, ⟨1, .phase⟩, ⟨2, .phase⟩, ⟨3, .phase⟩, ⟨4, .phase⟩, ⟨5, .phase⟩, ⟨6, .phase⟩, ⟨7, .phase⟩, ⟨8, .phase⟩, ⟨9, .phase⟩, ⟨10, .phase⟩, ⟨11, .phase⟩, ⟨12, .phase⟩, ⟨13, .phase⟩, ⟨14, .phase⟩, ⟨15, .phase⟩, ⟨16, .phase⟩, ⟨17, .phase⟩, ⟨18, .phase⟩, ⟨19, .phase⟩, ⟨20, .phase⟩], none⟩]
def l11_1 : List Oper := [mo 57 (.move (T 0)),
 mo 58 (.move (T 0)),
 mo 59 (.move (T 0)),
 mo 60 (.move (T 0)),
 mo 61 (.move (T 0)),
 mo 62 (.load 26 (T 4)),
 mo 63 (.fieldAddr 26 (T 4) 1),
 mo 64 (.load 2 (T 63)),
 mo 65 (.move (T 2)),
 mo 66 (.nilCheck (T 57)),
 mo 67 (.fieldAddr 76 (T 66) 4),
 mx (.store 26 (T 67) (T 62)),
 mo 68 (.nilCheck (T 58)),
 mo 69 (.fieldAddr 76 (T 68) 2),
 mx (.store 2 (T 69) (T 64)),
 mo 70 (.nilCheck (T 59)),
 mo 71 (.fieldAddr 76 (T 70) 3),
 mx (.store 4 (T 71) (.const (.bool true))),
 mo 72 (.nilCheck (T 60)),
 mo 73 (.fieldAddr 76 (T 72) 5),
 mx (.store 3 (T 73) (.const (.int .i64 0))),
 mo 74 (.nilCheck (T 61)),
 mo 75 (.fieldAddr 76 (T 74) 6),
 mx (.store 3 (T 75) (T 65))]
def r11_1 : Code := .region 14 o11_1 true
theorem xr_11_1 {Q : DExit → St → Prop} {s : St} : xs Try.prog 78 r11_1 Q s = NC Try.prog 78 r11_1 Q s := rfl
theorem dr_11_1 {Q : DExit → St → Prop} {s : St} (h : XDraw Try.prog l11_1.toArray (befs o11_1.toList []) [(7, 11)] s.fr Q l11_1 0 s []) : NC Try.prog 78 r11_1 Q s :=
  NC.draw (by kernel_rfl) (by kernel_rfl) (by kernel_rfl) rfl (by kernel_rfl) (by kernel_rfl) h
attribute [go_sem] xr_11_1
def c11 : Code :=
 .seq (rg [mo 4 (.box 26 (T 1)),
   mo 6 (.alloc 36),
   mo 7 (.assign (.const (.int .i64 0)))])
 (.seq (.block 0 (.seq (rg [mo 10 (.move (T 0)),
     mo 11 (.call ⟨(.value (.func 31)), #[(T 10)], #[30]⟩),
     mo 9 (.assign (T 11))])
   (.cond (T 9) (.seq (rg [mo 12 (.build 36 #[]),
      mx (.store 36 (T 6) (T 12)),
      mo 7 (.assign (.const (.int .i64 2)))])
    (.ret))
   (.seq (rg [mo 14 (.move (T 0)),
      mo 15 (.nilCheck (T 14)),
      mo 16 (.fieldAddr 76 (T 15) 3),
      mo 17 (.load 4 (T 16)),
      mo 13 (.assign (T 17))])
    (.cond (T 13) (.seq (rg [mo 18 (.build 36 #[]),
       mx (.store 36 (T 6) (T 18)),
       mo 7 (.assign (.const (.int .i64 251)))])
     (.ret))
    (.seq (rg [mo 20 (.move (T 2)),
       mo 21 (.binOp .lss 3 (T 20) (.const (.int .i64 0)) 3),
       mo 22 (.move (T 21)),
       mg 23 2 false (.move (T 2)),
       mg 24 2 false (.move (T 0)),
       mg 25 2 false (.nilCheck (T 24)),
       mg 26 2 false (.fieldAddr 76 (T 25) 1),
       mg 27 2 false (.load 3 (T 26)),
       mg 28 2 false (.binOp .geq 3 (T 23) (T 27) 3),
       mo 29 (.pick (T 22) (.const (.bool true)) (T 28)),
       mo 19 (.assign (T 29))])
     (.cond (T 19) (.seq (rg [mo 30 (.build 36 #[]),
        mx (.store 36 (T 6) (T 30)),
        mo 7 (.assign (.const (.int .i64 1)))])
      (.ret))
     (.seq (rg [mo 32 (.move (T 0)),
        mo 33 (.nilCheck (T 32)),
        mo 34 (.fieldAddr 76 (T 33) 2),
        mo 35 (.load 2 (T 34)),
        mo 36 (.binOp .geq 2 (T 35) (.const (.int .i64 1099511627776)) 2),
        mo 31 (.assign (T 36))])
      (.cond (T 31) (.seq (rg [mo 37 (.build 36 #[]),
         mx (.store 36 (T 6) (T 37)),
         mo 7 (.assign (.const (.int .i64 6)))])
       (.ret))
      (.skip))))))))))
 (.seq (rg [mo 38 (.load 26 (T 4)),
   mo 39 (.call ⟨(.value (.func 20)), #[(T 38)], #[26]⟩),
   mx (.store 26 (T 4) (T 39))])
 (.seq (r11_0)
 (.seq (.seq (rg [mo 51 (.load 26 (T 4)),
    mo 52 (.call ⟨(.value (.func 32)), #[(T 51)], #[26]⟩),
    mo 8 (.assign (T 52))])
  (.seq (rg [mo 53 (.move (T 8)),
    mo 54 (.binOp .neq 31 (T 53) (.const (.int .i64 0)) 31)])
  (.cond (T 54) (.seq (rg [mo 55 (.build 36 #[]),
     mo 56 (.move (T 8)),
     mx (.store 36 (T 6) (T 55)),
     mo 7 (.assign (T 56))])
   (.ret))
  (.skip))))
 (.seq (r11_1)
 (.seq (rg [mo 76 (.move (T 0)),
   mo 77 (.call ⟨(.value (.func 33)), #[(T 76)], #[30]⟩),
   mx (.store 36 (T 6) (T 77)),
   mo 7 (.assign (.const (.int .i64 0)))])
 (.ret)))))))
theorem body_11 : Try.f11.body.map strip = some c11 := by kernel_rfl
theorem go_11 {args : List Value} {h : DHeap} {R : DEnd → DHeap → Prop} (ha : args.length ≤ 78) (hx : xs Try.prog 78 c11 (XPost Try.prog [(.cell 6 36), (.tmp 7)] R) ⟨argsFr args 78, [], h, none⟩) : Ct Try.prog 11 args h R :=
  Ct_xs (show Try.prog.funcs[11]? = some Try.f11 by kernel_rfl) body_11 (by kernel_rfl) (by kernel_rfl) ha (by kernel_rfl) hx
/-! (*trivet/client.Client).Tick -/
def o12_0 : Array Oper := #[⟨(some 27), (.move (T 0)), 30, "client.go:82", #[], none⟩,
 ⟨(some 28), (.move (T 0)), 30, "client.go:82", #[⟨14, (.gcOnly Go.Departure.lateStores)⟩], none⟩,
 ⟨(some 29), (.move (T 0)), 30, "client.go:82", #[], none⟩,
 ⟨(some 30), (.nilCheck (T 29)), 0, "client.go:82", #[⟨2, .data⟩], none⟩,
 ⟨(some 31), (.fieldAddr 76 (T 30) 6), 0, "client.go:82", #[⟨3, .data⟩], none⟩,
 ⟨(some 32), (.load 3 (T 31)), 3, "client.go:82", #[⟨4, .data⟩], none⟩,
 ⟨(some 33), (.binOp .add 3 (T 32) (.const (.int .i64 1)) 3), 3, "client.go:82", #[⟨5, .data⟩], none⟩,
 ⟨(some 34), (.move (T 0)), 30, "client.go:82", #[], none⟩,
 ⟨(some 35), (.nilCheck (T 34)), 0, "client.go:82", #[⟨7, .data⟩], none⟩,
 ⟨(some 36), (.fieldAddr 76 (T 35) 1), 0, "client.go:82", #[⟨8, .data⟩], none⟩,
 ⟨(some 37), (.load 3 (T 36)), 3, "client.go:82", #[⟨9, .data⟩], none⟩,
 ⟨(some 38), (.binOp .rem 3 (T 33) (T 37) 3), 3, "client.go:82", #[⟨6, .data⟩, ⟨10, .data⟩], none⟩,
 ⟨(some 39), (.nilCheck (T 27)), 0, "client.go:82", #[⟨0, .data⟩, ⟨0, .phase⟩, ⟨1, (.textOnly Go.Departure.lateStores)⟩, ⟨2, (.textOnly Go.Departure.lateStores)⟩, ⟨3, (.textOnly Go.Departure.lateStoresUnsure)⟩, ⟨4, (.textOnly Go.Departure.lateStoresUnsure)⟩, ⟨5, .phase⟩, ⟨6, (.textOnly Go.Departure.lateStoresUnsure)⟩, ⟨7, (.textOnly Go.Departure.lateStores)⟩, ⟨8, (.textOnly Go.Departure.lateStoresUnsure)⟩, ⟨9, (.textOnly Go.Departure.lateStoresUnsure)⟩, ⟨10, .phase⟩, ⟨11, (.textOnly Go.Departure.lateStoresUnsure)⟩], none⟩,
 ⟨(some 40), (.fieldAddr 76 (T 39) 5), 0, "client.go:82", #[⟨12, .data⟩, ⟨0, .phase⟩, ⟨1, (.textOnly Go.Departure.lateStores)⟩, ⟨2, (.textOnly Go.Departure.lateStores)⟩, ⟨3, (.textOnly Go.Departure.lateStoresUnsure)⟩, ⟨4, (.textOnly Go.Departure.lateStoresUnsure)⟩, ⟨5, .phase⟩, ⟨6, (.textOnly Go.Departure.lateStoresUnsure)⟩, ⟨7, (.textOnly Go.Departure.lateStores)⟩, ⟨8, (.textOnly Go.Departure.lateStoresUnsure)⟩, ⟨9, (.textOnly Go.Departure.lateStoresUnsure)⟩, ⟨10, .phase⟩, ⟨11, (.textOnly Go.Departure.lateStoresUnsure)⟩], none⟩,
 ⟨none, (.store 3 (T 40) (.const (.int .i64 0))), 0, "client.go:82", #[⟨13, .data⟩, ⟨0, .phase⟩, ⟨1, (.textOnly Go.Departure.lateStores)⟩, ⟨2, (.textOnly Go.Departure.lateStores)⟩, ⟨3, (.textOnly Go.Departure.lateStoresUnsure)⟩, ⟨4, (.textOnly Go.Departure.lateStoresUnsure)⟩, ⟨5, .phase⟩, ⟨6, (.textOnly Go.Departure.lateStoresUnsure)⟩, ⟨7, (.textOnly Go.Departure.lateStores)⟩, ⟨8, (.textOnly Go.Departure.lateStoresUnsure)⟩, ⟨9, (.textOnly Go.Departure.lateStoresUnsure)⟩, ⟨10, .phase⟩, ⟨11, (.textOnly Go.Departure.lateStoresUnsure)⟩], none⟩,
 ⟨(some 41), (.nilCheck (T 28)), 0, "client.go:82", #[⟨1, .data⟩, ⟨0, .phase⟩, ⟨1, .phase⟩, ⟨2, .phase⟩, ⟨3, .phase⟩, ⟨4, .phase⟩, ⟨5, .phase⟩, ⟨6, .phase⟩, ⟨7, .phase⟩, ⟨8, .phase⟩, ⟨9, .phase⟩, ⟨10, .phase⟩, ⟨11, .phase⟩, ⟨12, .phase⟩, ⟨13, .phase⟩, ⟨14, .phase⟩], none⟩,
 ⟨(some 42), (.fieldAddr 76 (T 41) 6), 0, "client.go:82", #[⟨15, .data⟩, ⟨0, .phase⟩, ⟨1, .phase⟩, ⟨2, .phase⟩, ⟨3, .phase⟩, ⟨4, .phase⟩, ⟨5, .phase⟩, ⟨6, .phase⟩, ⟨7, .phase⟩, ⟨8, .phase⟩, ⟨9, .phase⟩, ⟨10, .phase⟩, ⟨11, .phase⟩, ⟨12, .phase⟩, ⟨13, .phase⟩, ⟨14, .phase⟩], none⟩,
 ⟨none, (.store 3 (T 42) (T 38)), 0, "client.go:82", #[⟨16, .data⟩, ⟨11, .data⟩, ⟨14, .chain⟩, ⟨0, .phase⟩, ⟨1, .phase⟩, ⟨2, .phase⟩, ⟨3, .phase⟩, ⟨4, .phase⟩, ⟨5, .phase⟩, ⟨6, .phase⟩, ⟨7, .phase⟩, ⟨8, .phase⟩, ⟨9, .phase⟩, ⟨10, .phase⟩, ⟨11, .phase⟩, ⟨12, .phase⟩, ⟨13, .phase⟩, ⟨14, .phase⟩], none⟩]
def l12_0 : List Oper := [mo 27 (.move (T 0)),
 mo 28 (.move (T 0)),
 mo 29 (.move (T 0)),
 mo 30 (.nilCheck (T 29)),
 mo 31 (.fieldAddr 76 (T 30) 6),
 mo 32 (.load 3 (T 31)),
 mo 33 (.binOp .add 3 (T 32) (.const (.int .i64 1)) 3),
 mo 34 (.move (T 0)),
 mo 35 (.nilCheck (T 34)),
 mo 36 (.fieldAddr 76 (T 35) 1),
 mo 37 (.load 3 (T 36)),
 mo 38 (.binOp .rem 3 (T 33) (T 37) 3),
 mo 39 (.nilCheck (T 27)),
 mo 40 (.fieldAddr 76 (T 39) 5),
 mx (.store 3 (T 40) (.const (.int .i64 0))),
 mo 41 (.nilCheck (T 28)),
 mo 42 (.fieldAddr 76 (T 41) 6),
 mx (.store 3 (T 42) (T 38))]
def r12_0 : Code := .region 6 o12_0 true
theorem xr_12_0 {Q : DExit → St → Prop} {s : St} : xs Try.prog 45 r12_0 Q s = NC Try.prog 45 r12_0 Q s := rfl
theorem dr_12_0 {Q : DExit → St → Prop} {s : St} (h : XDraw Try.prog l12_0.toArray (befs o12_0.toList []) [] s.fr Q l12_0 0 s []) : NC Try.prog 45 r12_0 Q s :=
  NC.draw (by kernel_rfl) (by kernel_rfl) (by kernel_rfl) rfl (by kernel_rfl) (by kernel_rfl) h
attribute [go_sem] xr_12_0
def c12 : Code :=
 .seq (rg [mo 2 (.alloc 36),
   mo 3 (.assign (.const (.bool false)))])
 (.seq (.seq (rg [mo 4 (.move (T 0)),
    mo 5 (.call ⟨(.value (.func 31)), #[(T 4)], #[30]⟩),
    mo 6 (.move (T 5)),
    mg 7 2 false (.move (T 0)),
    mg 8 2 false (.nilCheck (T 7)),
    mg 9 2 false (.fieldAddr 76 (T 8) 3),
    mg 10 2 false (.load 4 (T 9)),
    mg 11 2 false (.unOp .not 4 (T 10)),
    mo 12 (.pick (T 6) (.const (.bool true)) (T 11))])
  (.cond (T 12) (.seq (rg [mo 13 (.build 36 #[]),
     mx (.store 36 (T 2) (T 13)),
     mo 3 (.assign (.const (.bool false)))])
   (.ret))
  (.skip)))
 (.seq (.seq (rg [mo 14 (.move (T 0)),
    mo 15 (.nilCheck (T 14)),
    mo 16 (.fieldAddr 76 (T 15) 5),
    mo 17 (.load 3 (T 16)),
    mo 18 (.binOp .add 3 (T 17) (.const (.int .i64 1)) 3),
    mo 19 (.nilCheck (T 14)),
    mo 20 (.fieldAddr 76 (T 19) 5),
    mx (.store 3 (T 20) (T 18))])
  (.seq (rg [mo 21 (.move (T 0)),
    mo 22 (.nilCheck (T 21)),
    mo 23 (.fieldAddr 76 (T 22) 5),
    mo 24 (.load 3 (T 23)),
    mo 25 (.binOp .lss 3 (T 24) (.const (.int .i64 12)) 3)])
  (.cond (T 25) (.seq (rg [mo 26 (.build 36 #[]),
     mx (.store 36 (T 2) (T 26)),
     mo 3 (.assign (.const (.bool false)))])
   (.ret))
  (.skip))))
 (.seq (r12_0)
 (.seq (rg [mo 43 (.move (T 0)),
   mo 44 (.call ⟨(.value (.func 33)), #[(T 43)], #[30]⟩),
   mx (.store 36 (T 2) (T 44)),
   mo 3 (.assign (.const (.bool true)))])
 (.ret)))))
theorem body_12 : Try.f12.body.map strip = some c12 := by kernel_rfl
theorem go_12 {args : List Value} {h : DHeap} {R : DEnd → DHeap → Prop} (ha : args.length ≤ 45) (hx : xs Try.prog 45 c12 (XPost Try.prog [(.cell 2 36), (.tmp 3)] R) ⟨argsFr args 45, [], h, none⟩) : Ct Try.prog 12 args h R :=
  Ct_xs (show Try.prog.funcs[12]? = some Try.f12 by kernel_rfl) body_12 (by kernel_rfl) (by kernel_rfl) ha (by kernel_rfl) hx
/-! trivet/trivetref25.SameTxn -/
/-! (*trivet/client.Client).Answer -/
def o14_0 : Array Oper := #[⟨(some 10), (.move (T 0)), 30, "client.go:91", #[], none⟩,
 ⟨(some 11), (.nilCheck (T 10)), 0, "client.go:91", #[⟨0, .data⟩], none⟩,
 ⟨(some 12), (.fieldAddr 76 (T 11) 3), 0, "client.go:91", #[⟨1, .data⟩], none⟩,
 ⟨(some 13), (.load 4 (T 12)), 4, "client.go:91", #[⟨2, .data⟩], none⟩,
 ⟨(some 14), (.unOp .not 4 (T 13)), 4, "client.go:91", #[⟨3, .data⟩], none⟩,
 ⟨(some 15), (.move (T 14)), 4, "client.go:91", #[⟨4, .data⟩], none⟩,
 ⟨(some 16), (.fieldAddr 47 (T 3) 0), 0, "client.go:91", #[⟨5, .guard⟩], (some (5, false))⟩,
 ⟨(some 17), (.load 2 (T 16)), 2, "client.go:91", #[⟨6, .data⟩, ⟨5, .guard⟩], (some (5, false))⟩,
 ⟨(some 18), (.move (T 0)), 30, "client.go:91", #[⟨5, .guard⟩], (some (5, false))⟩,
 ⟨(some 19), (.nilCheck (T 18)), 0, "client.go:91", #[⟨8, .data⟩, ⟨5, .guard⟩], (some (5, false))⟩,
 ⟨(some 20), (.fieldAddr 76 (T 19) 0), 0, "client.go:91", #[⟨9, .data⟩, ⟨5, .guard⟩], (some (5, false))⟩,
 ⟨(some 21), (.load 2 (T 20)), 2, "client.go:91", #[⟨10, .data⟩, ⟨5, .guard⟩], (some (5, false))⟩,
 ⟨(some 22), (.binOp .neq 2 (T 17) (T 21) 2), 4, "client.go:91", #[⟨7, .data⟩, ⟨11, .data⟩, ⟨5, .guard⟩], (some (5, false))⟩,
 ⟨(some 23), (.pick (T 15) (.const (.bool true)) (T 22)), 4, "client.go:91", #[⟨5, .data⟩, ⟨12, .data⟩], none⟩,
 ⟨(some 24), (.move (T 23)), 4, "client.go:91", #[⟨13, .data⟩, ⟨5, .chain⟩], none⟩,
 ⟨(some 25), (.fieldAddr 47 (T 3) 1), 0, "client.go:91", #[⟨14, .guard⟩], (some (14, false))⟩,
 ⟨(some 26), (.load 2 (T 25)), 2, "client.go:91", #[⟨15, .data⟩, ⟨14, .guard⟩], (some (14, false))⟩,
 ⟨(some 27), (.move (T 0)), 30, "client.go:91", #[⟨14, .guard⟩], (some (14, false))⟩,
 ⟨(some 28), (.nilCheck (T 27)), 0, "client.go:91", #[⟨17, .data⟩, ⟨14, .guard⟩], (some (14, false))⟩,
 ⟨(some 29), (.fieldAddr 76 (T 28) 2), 0, "client.go:91", #[⟨18, .data⟩, ⟨14, .guard⟩], (some (14, false))⟩,
 ⟨(some 30), (.load 2 (T 29)), 2, "client.go:91", #[⟨19, .data⟩, ⟨14, .guard⟩], (some (14, false))⟩,
 ⟨(some 31), (.binOp .neq 2 (T 26) (T 30) 2), 4, "client.go:91", #[⟨16, .data⟩, ⟨20, .data⟩, ⟨14, .guard⟩], (some (14, false))⟩,
 ⟨(some 32), (.pick (T 24) (.const (.bool true)) (T 31)), 4, "client.go:91", #[⟨14, .data⟩, ⟨21, .data⟩], none⟩,
 ⟨(some 9), (.assign (T 32)), 4, "client.go:91", #[⟨22, .data⟩, ⟨14, .chain⟩], none⟩]
def l14_0 : List Oper := [mo 10 (.move (T 0)),
 mo 11 (.nilCheck (T 10)),
 mo 12 (.fieldAddr 76 (T 11) 3),
 mo 13 (.load 4 (T 12)),
 mo 14 (.unOp .not 4 (T 13)),
 mo 15 (.move (T 14)),
 mg 16 5 false (.fieldAddr 47 (T 3) 0),
 mg 17 5 false (.load 2 (T 16)),
 mg 18 5 false (.move (T 0)),
 mg 19 5 false (.nilCheck (T 18)),
 mg 20 5 false (.fieldAddr 76 (T 19) 0),
 mg 21 5 false (.load 2 (T 20)),
 mg 22 5 false (.binOp .neq 2 (T 17) (T 21) 2),
 mo 23 (.pick (T 15) (.const (.bool true)) (T 22)),
 mo 24 (.move (T 23)),
 mg 25 14 false (.fieldAddr 47 (T 3) 1),
 mg 26 14 false (.load 2 (T 25)),
 mg 27 14 false (.move (T 0)),
 mg 28 14 false (.nilCheck (T 27)),
 mg 29 14 false (.fieldAddr 76 (T 28) 2),
 mg 30 14 false (.load 2 (T 29)),
 mg 31 14 false (.binOp .neq 2 (T 26) (T 30) 2),
 mo 32 (.pick (T 24) (.const (.bool true)) (T 31)),
 mo 9 (.assign (T 32))]
def r14_0 : Code := .region 3 o14_0 true
theorem xr_14_0 {Q : DExit → St → Prop} {s : St} : xs Try.prog 75 r14_0 Q s = NC Try.prog 75 r14_0 Q s := rfl
theorem dr_14_0 {Q : DExit → St → Prop} {s : St} (h : XDraw Try.prog l14_0.toArray (befs o14_0.toList []) [] s.fr Q l14_0 0 s []) : NC Try.prog 75 r14_0 Q s :=
  NC.draw (by kernel_rfl) (by kernel_rfl) (by kernel_rfl) rfl (by kernel_rfl) (by kernel_rfl) h
attribute [go_sem] xr_14_0
def o14_1 : Array Oper := #[⟨(some 44), (.move (T 0)), 30, "client.go:96", #[], none⟩,
 ⟨(some 45), (.move (T 0)), 30, "client.go:96", #[⟨7, (.gcOnly Go.Departure.lateStores)⟩], none⟩,
 ⟨(some 46), (.move (T 0)), 30, "client.go:96", #[⟨10, (.gcOnly Go.Departure.lateStores)⟩], none⟩,
 ⟨(some 47), (.fieldAddr 47 (T 3) 2), 0, "client.go:96", #[⟨10, (.gcOnly Go.Departure.lateStores)⟩], none⟩,
 ⟨(some 48), (.load 45 (T 47)), 45, "client.go:96", #[⟨3, .data⟩, ⟨10, (.gcOnly Go.Departure.lateStores)⟩], none⟩,
 ⟨(some 49), (.nilCheck (T 44)), 0, "client.go:96", #[⟨0, .data⟩, ⟨0, .phase⟩, ⟨1, (.textOnly Go.Departure.lateStores)⟩, ⟨2, (.textOnly Go.Departure.lateStores)⟩, ⟨3, (.textOnly Go.Departure.lateStores)⟩, ⟨4, (.textOnly Go.Departure.lateStores)⟩], none⟩,
 ⟨(some 50), (.fieldAddr 76 (T 49) 3), 0, "client.go:96", #[⟨5, .data⟩, ⟨0, .phase⟩, ⟨1, (.textOnly Go.Departure.lateStores)⟩, ⟨2, (.textOnly Go.Departure.lateStores)⟩, ⟨3, (.textOnly Go.Departure.lateStores)⟩, ⟨4, (.textOnly Go.Departure.lateStores)⟩], none⟩,
 ⟨none, (.store 4 (T 50) (.const (.bool false))), 0, "client.go:96", #[⟨6, .data⟩, ⟨0, .phase⟩, ⟨1, (.textOnly Go.Departure.lateStores)⟩, ⟨2, (.textOnly Go.Departure.lateStores)⟩, ⟨3, (.textOnly Go.Departure.lateStores)⟩, ⟨4, (.textOnly Go.Departure.lateStores)⟩], none⟩,
 ⟨(some 51), (.nilCheck (T 45)), 0, "client.go:96", #[⟨1, .data⟩, ⟨0, .phase⟩, ⟨1, .phase⟩, ⟨2, (.textOnly Go.Departure.lateStores)⟩, ⟨3, (.textOnly Go.Departure.lateStores)⟩, ⟨4, (.textOnly Go.Departure.lateStores)⟩, ⟨5, .phase⟩, ⟨6, .phase⟩, ⟨7, .phase⟩], none⟩,
 ⟨(some 52), (.fieldAddr 76 (T 51) 8), 0, "client.go:96", #[⟨8, .data⟩, ⟨0, .phase⟩, ⟨1, .phase⟩, ⟨2, (.textOnly Go.Departure.lateStores)⟩, ⟨3, (.textOnly Go.Departure.lateStores)⟩, ⟨4, (.textOnly Go.Departure.lateStores)⟩, ⟨5, .phase⟩, ⟨6, .phase⟩, ⟨7, .phase⟩], none⟩,
 ⟨none, (.store 4 (T 52) (.const (.bool true))), 0, "client.go:96", #[⟨9, .data⟩, ⟨7, .chain⟩, ⟨0, .phase⟩, ⟨1, .phase⟩, ⟨2, (.textOnly Go.Departure.lateStores)⟩, ⟨3, (.textOnly Go.Departure.lateStores)⟩, ⟨4, (.textOnly Go.Departure.lateStores)⟩, ⟨5, .phase⟩, ⟨6, .phase⟩, ⟨7, .phase⟩], none⟩,
 ⟨(some 53), (.nilCheck (T 46)), 0, "client.go:96", #[⟨2, .data⟩, ⟨0, .phase⟩, ⟨1, .phase⟩, ⟨2, .phase⟩, ⟨3, .phase⟩, ⟨4, .phase⟩, ⟨5, .phase⟩, ⟨6, .phase⟩, ⟨7, .phase⟩, ⟨8, .phase⟩, ⟨9, .phase⟩, ⟨10, .phase⟩], none⟩,
 ⟨(some 54), (.fieldAddr 76 (T 53) 9), 0, "client.go:96", #[⟨11, .data⟩, ⟨0, .phase⟩, ⟨1, .phase⟩, ⟨2, .phase⟩, ⟨3, .phase⟩, ⟨4, .phase⟩, ⟨5, .phase⟩, ⟨6, .phase⟩, ⟨7, .phase⟩, ⟨8, .phase⟩, ⟨9, .phase⟩, ⟨10, .phase⟩], none⟩,
 ⟨none, (.store 45 (T 54) (T 48)), 0, "client.go:96", #[⟨12, .data⟩, ⟨4, .data⟩, ⟨10, .chain⟩, ⟨0, .phase⟩, ⟨1, .phase⟩, ⟨2, .phase⟩, ⟨3, .phase⟩, ⟨4, .phase⟩, ⟨5, .phase⟩, ⟨6, .phase⟩, ⟨7, .phase⟩, ⟨8, .phase⟩, ⟨9, .phase⟩, ⟨10, .phase⟩], none⟩]
def l14_1 : List Oper := [mo 44 (.move (T 0)),
 mo 45 (.move (T 0)),
 mo 46 (.move (T 0)),
 mo 47 (.fieldAddr 47 (T 3) 2),
 mo 48 (.load 45 (T 47)),
 mo 49 (.nilCheck (T 44)),
 mo 50 (.fieldAddr 76 (T 49) 3),
 mx (.store 4 (T 50) (.const (.bool false))),
 mo 51 (.nilCheck (T 45)),
 mo 52 (.fieldAddr 76 (T 51) 8),
 mx (.store 4 (T 52) (.const (.bool true))),
 mo 53 (.nilCheck (T 46)),
 mo 54 (.fieldAddr 76 (T 53) 9),
 mx (.store 45 (T 54) (T 48))]
def r14_1 : Code := .region 7 o14_1 true
theorem xr_14_1 {Q : DExit → St → Prop} {s : St} : xs Try.prog 75 r14_1 Q s = NC Try.prog 75 r14_1 Q s := rfl
theorem dr_14_1 {Q : DExit → St → Prop} {s : St} (h : XDraw Try.prog l14_1.toArray (befs o14_1.toList []) [(4, 7), (4, 10)] s.fr Q l14_1 0 s []) : NC Try.prog 75 r14_1 Q s :=
  NC.draw (by kernel_rfl) (by kernel_rfl) (by kernel_rfl) rfl (by kernel_rfl) (by kernel_rfl) h
attribute [go_sem] xr_14_1
def o14_2 : Array Oper := #[⟨(some 63), (.move (T 0)), 30, "client.go:98", #[], none⟩,
 ⟨(some 64), (.move (T 0)), 30, "client.go:98", #[], none⟩,
 ⟨(some 65), (.nilCheck (T 64)), 0, "client.go:98", #[⟨1, .data⟩], none⟩,
 ⟨(some 66), (.fieldAddr 76 (T 65) 7), 0, "client.go:98", #[⟨2, .data⟩], none⟩,
 ⟨(some 67), (.load 2 (T 66)), 2, "client.go:98", #[⟨3, .data⟩], none⟩,
 ⟨(some 68), (.fieldAddr 47 (T 3) 2), 0, "client.go:98", #[], none⟩,
 ⟨(some 69), (.fieldAddr 45 (T 68) 2), 0, "client.go:98", #[⟨5, .data⟩], none⟩,
 ⟨(some 70), (.load 2 (T 69)), 2, "client.go:98", #[⟨6, .data⟩], none⟩,
 ⟨(some 71), (.binOp .add 2 (T 70) (.const (.int .i64 1)) 2), 2, "client.go:98", #[⟨7, .data⟩], none⟩,
 ⟨(some 72), (.call ⟨(.builtin .max), #[(T 67), (T 71)], #[2, 2]⟩), 2, "client.go:98", #[⟨4, .data⟩, ⟨8, .data⟩], none⟩,
 ⟨(some 73), (.nilCheck (T 63)), 0, "client.go:98", #[⟨0, .data⟩, ⟨0, .phase⟩, ⟨1, .phase⟩, ⟨2, .phase⟩, ⟨3, .phase⟩, ⟨4, .phase⟩, ⟨5, .phase⟩, ⟨6, .phase⟩, ⟨7, .phase⟩, ⟨8, .phase⟩, ⟨9, .phase⟩], none⟩,
 ⟨(some 74), (.fieldAddr 76 (T 73) 7), 0, "client.go:98", #[⟨10, .data⟩, ⟨0, .phase⟩, ⟨1, .phase⟩, ⟨2, .phase⟩, ⟨3, .phase⟩, ⟨4, .phase⟩, ⟨5, .phase⟩, ⟨6, .phase⟩, ⟨7, .phase⟩, ⟨8, .phase⟩, ⟨9, .phase⟩], none⟩,
 ⟨none, (.store 2 (T 74) (T 72)), 0, "client.go:98", #[⟨11, .data⟩, ⟨9, .data⟩, ⟨0, .phase⟩, ⟨1, .phase⟩, ⟨2, .phase⟩, ⟨3, .phase⟩, ⟨4, .phase⟩, ⟨5, .phase⟩, ⟨6, .phase⟩, ⟨7, .phase⟩, ⟨8, .phase⟩, ⟨9, .phase⟩], none⟩]
def l14_2 : List Oper := [mo 63 (.move (T 0)),
 mo 64 (.move (T 0)),
 mo 65 (.nilCheck (T 64)),
 mo 66 (.fieldAddr 76 (T 65) 7),
 mo 67 (.load 2 (T 66)),
 mo 68 (.fieldAddr 47 (T 3) 2),
 mo 69 (.fieldAddr 45 (T 68) 2),
 mo 70 (.load 2 (T 69)),
 mo 71 (.binOp .add 2 (T 70) (.const (.int .i64 1)) 2),
 mt 72 2 (.call ⟨(.builtin .max), #[(T 67), (T 71)], #[2, 2]⟩),
 mo 73 (.nilCheck (T 63)),
 mo 74 (.fieldAddr 76 (T 73) 7),
 mx (.store 2 (T 74) (T 72))]
def r14_2 : Code := .region 9 o14_2 true
theorem xr_14_2 {Q : DExit → St → Prop} {s : St} : xs Try.prog 75 r14_2 Q s = NC Try.prog 75 r14_2 Q s := rfl
theorem dr_14_2 {Q : DExit → St → Prop} {s : St} (h : XDraw Try.prog l14_2.toArray (befs o14_2.toList []) [] s.fr Q l14_2 0 s []) : NC Try.prog 75 r14_2 Q s :=
  NC.draw (by kernel_rfl) (by kernel_rfl) (by kernel_rfl) rfl (by kernel_rfl) (by kernel_rfl) h
attribute [go_sem] xr_14_2
def c14 : Code :=
 .seq (rg [mo 3 (.box 47 (T 1)),
   mo 4 (.assign (.const (.bool false))),
   mo 5 (.assign (.const (.int .i64 0)))])
 (.seq (.block 0 (.seq (rg [mo 7 (.move (T 0)),
     mo 8 (.call ⟨(.value (.func 31)), #[(T 7)], #[30]⟩),
     mo 6 (.assign (T 8))])
   (.cond (T 6) (.seq (rg [mo 4 (.assign (.const (.bool false))),
      mo 5 (.assign (.const (.int .i64 2)))])
    (.ret))
   (.seq (r14_0)
    (.cond (T 9) (.seq (rg [mo 4 (.assign (.const (.bool false))),
       mo 5 (.assign (.const (.int .i64 0)))])
     (.ret))
    (.seq (rg [mo 34 (.fieldAddr 47 (T 3) 2),
       mo 35 (.fieldAddr 45 (T 34) 2),
       mo 36 (.load 2 (T 35)),
       mo 37 (.binOp .lss 2 (T 36) (.const (.int .i64 0)) 2),
       mo 38 (.move (T 37)),
       mg 39 4 false (.fieldAddr 47 (T 3) 2),
       mg 40 4 false (.fieldAddr 45 (T 39) 2),
       mg 41 4 false (.load 2 (T 40)),
       mg 42 4 false (.binOp .gtr 2 (T 41) (.const (.int .i64 1099511627776)) 2),
       mo 43 (.pick (T 38) (.const (.bool true)) (T 42)),
       mo 33 (.assign (T 43))])
     (.cond (T 33) (.seq (rg [mo 4 (.assign (.const (.bool false))),
        mo 5 (.assign (.const (.int .i64 1)))])
      (.ret))
     (.skip))))))))
 (.seq (r14_1)
 (.seq (rg [mo 55 (.move (T 0)),
   mo 56 (.fieldAddr 47 (T 3) 2),
   mo 57 (.fieldAddr 45 (T 56) 1),
   mo 58 (.load 23 (T 57)),
   mo 59 (.call ⟨(.value (.func 35)), #[(T 58)], #[23]⟩),
   mo 60 (.nilCheck (T 55)),
   mo 61 (.fieldAddr 76 (T 60) 9),
   mo 62 (.fieldAddr 45 (T 61) 1),
   mx (.store 23 (T 62) (T 59))])
 (.seq (r14_2)
 (.seq (rg [mo 4 (.assign (.const (.bool true))),
   mo 5 (.assign (.const (.int .i64 0)))])
 (.ret))))))
theorem body_14 : Try.f14.body.map strip = some c14 := by kernel_rfl
theorem go_14 {args : List Value} {h : DHeap} {R : DEnd → DHeap → Prop} (ha : args.length ≤ 75) (hx : xs Try.prog 75 c14 (XPost Try.prog [(.tmp 4), (.tmp 5)] R) ⟨argsFr args 75, [], h, none⟩) : Ct Try.prog 14 args h R :=
  Ct_xs (show Try.prog.funcs[14]? = some Try.f14 by kernel_rfl) body_14 (by kernel_rfl) (by kernel_rfl) ha (by kernel_rfl) hx
/-! (*trivet/client.Client).Token -/
def c15 : Code :=
 .seq (rg [mo 2 (.assign (.const (.int .i64 0)))])
 (.seq (.seq (rg [mo 3 (.move (T 0)),
    mo 4 (.call ⟨(.value (.func 31)), #[(T 3)], #[30]⟩)])
  (.cond (T 4) (.seq (rg [mo 2 (.assign (.const (.int .i64 0)))])
   (.ret))
  (.skip)))
 (.seq (rg [mo 5 (.move (T 0)),
   mo 6 (.nilCheck (T 5)),
   mo 7 (.fieldAddr 76 (T 6) 7),
   mo 8 (.load 2 (T 7)),
   mo 2 (.assign (T 8))])
 (.ret)))
theorem body_15 : Try.f15.body.map strip = some c15 := by kernel_rfl
theorem go_15 {args : List Value} {h : DHeap} {R : DEnd → DHeap → Prop} (ha : args.length ≤ 9) (hx : xs Try.prog 9 c15 (XPost Try.prog [(.tmp 2)] R) ⟨argsFr args 9, [], h, none⟩) : Ct Try.prog 15 args h R :=
  Ct_xs (show Try.prog.funcs[15]? = some Try.f15 by kernel_rfl) body_15 (by kernel_rfl) (by kernel_rfl) ha (by kernel_rfl) hx
/-! (*trivet/client.Client).Pending -/
end Go.Proofs.Ytbdljpndncohaaa

namespace Go.Proofs.Ytbdljpndncohaaa
open Go.D
set_option maxRecDepth 100000
/-! (*trivet/client.Client).Query -/
/-! (*trivet/client.Client).Last -/
/-! (*trivet/client.Client).Clone -/
/-! (*trivet/client.Client).none -/
def c31 : Code :=
 .seq (rg [mo 2 (.assign (.const (.bool false)))])
 (.seq (rg [mo 3 (.move (T 0)),
   mo 4 (.binOp .eql 30 (T 3) (.const (.pointer none)) 30),
   mo 5 (.move (T 4)),
   mg 6 2 false (.move (T 0)),
   mg 7 2 false (.nilCheck (T 6)),
   mg 8 2 false (.fieldAddr 76 (T 7) 1),
   mg 9 2 false (.load 3 (T 8)),
   mg 10 2 false (.binOp .eql 3 (T 9) (.const (.int .i64 0)) 3),
   mo 11 (.pick (T 5) (.const (.bool true)) (T 10)),
   mo 2 (.assign (T 11))])
 (.ret))
theorem body_31 : Try.f31.body.map strip = some c31 := by kernel_rfl
theorem go_31 {args : List Value} {h : DHeap} {R : DEnd → DHeap → Prop} (ha : args.length ≤ 12) (hx : xs Try.prog 12 c31 (XPost Try.prog [(.tmp 2)] R) ⟨argsFr args 12, [], h, none⟩) : Ct Try.prog 31 args h R :=
  Ct_xs (show Try.prog.funcs[31]? = some Try.f31 by kernel_rfl) body_31 (by kernel_rfl) (by kernel_rfl) ha (by kernel_rfl) hx
/-! trivet/code.Check -/
def c32 : Code :=
 .seq (rg [mo 1 (.box 26 (T 0)),
   mo 2 (.assign (.const (.int .i64 0)))])
 (.seq (.block 0 (.seq (rg [mo 9 (.fieldAddr 26 (T 1) 0),
     mo 10 (.load 2 (T 9)),
     mo 11 (.binOp .lss 2 (T 10) (.const (.int .i64 1)) 2),
     mo 12 (.move (T 11)),
     mg 13 3 false (.fieldAddr 26 (T 1) 0),
     mg 14 3 false (.load 2 (T 13)),
     mg 15 3 false (.binOp .gtr 2 (T 14) (.const (.int .i64 1099511627776)) 2),
     mo 16 (.pick (T 12) (.const (.bool true)) (T 15)),
     mo 17 (.move (T 16)),
     mg 18 8 false (.fieldAddr 26 (T 1) 1),
     mg 19 8 false (.load 2 (T 18)),
     mg 20 8 false (.binOp .lss 2 (T 19) (.const (.int .i64 1)) 2),
     mo 21 (.pick (T 17) (.const (.bool true)) (T 20)),
     mo 22 (.move (T 21)),
     mg 23 13 false (.fieldAddr 26 (T 1) 1),
     mg 24 13 false (.load 2 (T 23)),
     mg 25 13 false (.binOp .gtr 2 (T 24) (.const (.int .i64 1099511627776)) 2),
     mo 26 (.pick (T 22) (.const (.bool true)) (T 25)),
     mo 8 (.assign (T 26))])
   (.cond (T 8) (.seq (rg [mo 2 (.assign (.const (.int .i64 1)))])
    (.ret))
   (.seq (rg [mo 28 (.fieldAddr 26 (T 1) 3),
      mo 29 (.load 23 (T 28)),
      mo 30 (.call ⟨(.builtin .len), #[(T 29)], #[23]⟩),
      mo 31 (.binOp .gtr 3 (T 30) (.const (.int .i64 8)) 3),
      mo 32 (.move (T 31)),
      mg 33 4 false (.fieldAddr 26 (T 1) 4),
      mg 34 4 false (.load 24 (T 33)),
      mg 35 4 false (.call ⟨(.builtin .len), #[(T 34)], #[24]⟩),
      mg 36 4 false (.binOp .gtr 3 (T 35) (.const (.int .i64 16)) 3),
      mo 37 (.pick (T 32) (.const (.bool true)) (T 36)),
      mo 38 (.move (T 37)),
      mg 39 10 false (.fieldAddr 26 (T 1) 5),
      mg 40 10 false (.load 24 (T 39)),
      mg 41 10 false (.call ⟨(.builtin .len), #[(T 40)], #[24]⟩),
      mg 42 10 false (.binOp .gtr 3 (T 41) (.const (.int .i64 16)) 3),
      mo 43 (.pick (T 38) (.const (.bool true)) (T 42)),
      mo 27 (.assign (T 43))])
    (.cond (T 27) (.seq (rg [mo 2 (.assign (.const (.int .i64 3)))])
     (.ret))
    (.seq (rg [mo 45 (.fieldAddr 26 (T 1) 4),
       mo 46 (.load 24 (T 45)),
       mo 47 (.call ⟨(.value (.func 48)), #[(T 46)], #[24]⟩),
       mo 48 (.unOp .not 4 (T 47)),
       mo 49 (.move (T 48)),
       mg 50 4 false (.fieldAddr 26 (T 1) 5),
       mg 51 4 false (.load 24 (T 50)),
       mg 52 4 false (.call ⟨(.value (.func 48)), #[(T 51)], #[24]⟩),
       mg 53 4 false (.unOp .not 4 (T 52)),
       mo 54 (.pick (T 49) (.const (.bool true)) (T 53)),
       mo 44 (.assign (T 54))])
     (.cond (T 44) (.seq (rg [mo 2 (.assign (.const (.int .i64 1)))])
      (.ret))
     (.skip))))))))
 (.seq (rg [mo 56 (.fieldAddr 26 (T 1) 2),
   mo 57 (.load 22 (T 56)),
   mo 58 (.call ⟨(.value (.func 49)), #[(T 57)], #[22]⟩),
   mo 55 (.move (T 58)),
   mo 59 (.extract (T 55) 0),
   mo 60 (.extract (T 55) 1),
   mo 3 (.assign (T 59)),
   mo 4 (.assign (T 60))])
 (.seq (.seq (rg [mo 61 (.move (T 4)),
    mo 62 (.binOp .neq 31 (T 61) (.const (.int .i64 0)) 31)])
  (.cond (T 62) (.seq (rg [mo 63 (.move (T 4)),
     mo 2 (.assign (T 63))])
   (.ret))
  (.skip)))
 (.seq (.seq (rg [mo 64 (.move (T 3)),
    mo 65 (.call ⟨(.builtin .len), #[(T 64)], #[91]⟩),
    mo 66 (.move (.const (.int .i64 0)))])
  (.block 1 (.loop (.seq (rg [mo 67 (.binOp .lss 3 (T 66) (T 65) 3)])
    (.seq (.cond (T 67) (.skip)
     (.exit 1))
    (.seq (.block 2 (.seq (rg [mo 68 (.indexAddr 91 (T 64) (T 66)),
        mo 69 (.load 95 (T 68)),
        mo 6 (.alloc 95),
        mx (.store 95 (T 6) (T 69))])
      (.seq (rg [mo 7 (.assign (.const (.int .i64 1048576)))])
      (.seq (.seq (rg [mo 70 (.fieldAddr 95 (T 6) 1),
         mo 71 (.load 3 (T 70))])
       (.block 3 (.seq (.seq (rg [mo 73 (.binOp .eql 3 (T 71) (.const (.int .i64 3)) 3),
           mo 72 (.assign (T 73))])
         (.cond (T 72) (.skip)
         (rg [mo 74 (.binOp .eql 3 (T 71) (.const (.int .i64 4)) 3),
           mo 72 (.assign (T 74))])))
        (.cond (T 72) (rg [mo 75 (.fieldAddr 26 (T 1) 4),
          mo 76 (.load 24 (T 75)),
          mo 77 (.call ⟨(.builtin .len), #[(T 76)], #[24]⟩),
          mo 7 (.assign (T 77))])
        (.seq (.seq (rg [mo 79 (.binOp .eql 3 (T 71) (.const (.int .i64 5)) 3),
            mo 78 (.assign (T 79))])
          (.cond (T 78) (.skip)
          (rg [mo 80 (.binOp .eql 3 (T 71) (.const (.int .i64 6)) 3),
            mo 78 (.assign (T 80))])))
         (.cond (T 78) (rg [mo 81 (.fieldAddr 26 (T 1) 5),
           mo 82 (.load 24 (T 81)),
           mo 83 (.call ⟨(.builtin .len), #[(T 82)], #[24]⟩),
           mo 7 (.assign (T 83))])
         (.seq (rg [mo 85 (.binOp .eql 3 (T 71) (.const (.int .i64 2)) 3),
            mo 84 (.assign (T 85))])
          (.cond (T 84) (rg [mo 86 (.fieldAddr 26 (T 1) 3),
            mo 87 (.load 23 (T 86)),
            mo 88 (.call ⟨(.builtin .len), #[(T 87)], #[23]⟩),
            mo 7 (.assign (T 88))])
          (.skip)))))))))
      (.seq (rg [mo 89 (.fieldAddr 95 (T 6) 4),
        mo 90 (.load 2 (T 89)),
        mo 91 (.move (T 7)),
        mo 92 (.binOp .geq 2 (T 90) (T 91) 2)])
      (.cond (T 92) (.seq (rg [mo 2 (.assign (.const (.int .i64 132)))])
       (.ret))
      (.skip)))))))
    (rg [mo 93 (.binOp .add 3 (T 66) (.const (.int .i64 1)) 3),
     mo 66 (.move (T 93))])))))))
 (.seq (rg [mo 2 (.assign (.const (.int .i64 0)))])
 (.ret))))))
theorem body_32 : Try.f32.body.map strip = some c32 := by kernel_rfl
theorem go_32 {args : List Value} {h : DHeap} {R : DEnd → DHeap → Prop} (ha : args.length ≤ 94) (hx : xs Try.prog 94 c32 (XPost Try.prog [(.tmp 2)] R) ⟨argsFr args 94, [], h, none⟩) : Ct Try.prog 32 args h R :=
  Ct_xs (show Try.prog.funcs[32]? = some Try.f32 by kernel_rfl) body_32 (by kernel_rfl) (by kernel_rfl) ha (by kernel_rfl) hx
/-! (*trivet/client.Client).ask -/
def o33_0 : Array Oper := #[⟨(some 3), (.move (T 0)), 30, "client.go:72", #[], none⟩,
 ⟨(some 4), (.nilCheck (T 3)), 0, "client.go:72", #[⟨0, .data⟩], none⟩,
 ⟨(some 5), (.fieldAddr 76 (T 4) 6), 0, "client.go:72", #[⟨1, .data⟩], none⟩,
 ⟨(some 6), (.load 3 (T 5)), 3, "client.go:72", #[⟨2, .data⟩], none⟩,
 ⟨(some 7), (.move (T 0)), 30, "client.go:72", #[], none⟩,
 ⟨(some 8), (.nilCheck (T 7)), 0, "client.go:72", #[⟨4, .data⟩], none⟩,
 ⟨(some 9), (.fieldAddr 76 (T 8) 4), 0, "client.go:72", #[⟨5, .data⟩], none⟩,
 ⟨(some 10), (.load 26 (T 9)), 26, "client.go:72", #[⟨6, .data⟩], none⟩,
 ⟨(some 11), (.call ⟨(.value (.func 37)), #[(T 10)], #[26]⟩), 26, "client.go:72", #[⟨7, .data⟩], none⟩,
 ⟨(some 12), (.build 36 #[(0, (T 6)), (1, (T 11))]), 36, "client.go:72", #[⟨3, .data⟩, ⟨8, .data⟩], none⟩,
 ⟨none, (.store 36 (T 2) (T 12)), 0, "client.go:72", #[⟨9, .data⟩, ⟨8, .chain⟩, ⟨0, .phase⟩, ⟨1, .phase⟩, ⟨2, .phase⟩, ⟨3, .phase⟩, ⟨4, .phase⟩, ⟨5, .phase⟩, ⟨6, .phase⟩, ⟨7, .phase⟩, ⟨8, .phase⟩, ⟨9, .phase⟩], none⟩]
def l33_0 : List Oper := [mo 3 (.move (T 0)),
 mo 4 (.nilCheck (T 3)),
 mo 5 (.fieldAddr 76 (T 4) 6),
 mo 6 (.load 3 (T 5)),
 mo 7 (.move (T 0)),
 mo 8 (.nilCheck (T 7)),
 mo 9 (.fieldAddr 76 (T 8) 4),
 mo 10 (.load 26 (T 9)),
 mo 11 (.call ⟨(.value (.func 37)), #[(T 10)], #[26]⟩),
 mo 12 (.build 36 #[(0, (T 6)), (1, (T 11))]),
 mx (.store 36 (T 2) (T 12))]
def r33_0 : Code := .region 1 o33_0 true
theorem xr_33_0 {Q : DExit → St → Prop} {s : St} : xs Try.prog 13 r33_0 Q s = NC Try.prog 13 r33_0 Q s := rfl
attribute [go_sem] xr_33_0
def c33 : Code :=
 .seq (rg [mo 2 (.alloc 36)])
 (.seq (r33_0)
 (.ret))
theorem body_33 : Try.f33.body.map strip = some c33 := by kernel_rfl
theorem go_33 {args : List Value} {h : DHeap} {R : DEnd → DHeap → Prop} (ha : args.length ≤ 13) (hx : xs Try.prog 13 c33 (XPost Try.prog [(.cell 2 36)] R) ⟨argsFr args 13, [], h, none⟩) : Ct Try.prog 33 args h R :=
  Ct_xs (show Try.prog.funcs[33]? = some Try.f33 by kernel_rfl) body_33 (by kernel_rfl) (by kernel_rfl) ha (by kernel_rfl) hx
/-! trivet/trivetref25.sameValues -/
/-! slices.Clone[[]int64,int64] -/
def c35 : Code :=
 .seq (rg [mo 2 (.assign (.const (.slice none 0 0)))])
 (.seq (.seq (rg [mo 3 (.move (T 0)),
    mo 4 (.binOp .eql 23 (T 3) (.const (.slice none 0 0)) 23)])
  (.cond (T 4) (.seq (rg [mo 2 (.assign (.const (.slice none 0 0)))])
   (.ret))
  (.skip)))
 (.seq (rg [mo 5 (.buildSlice 23 0 #[]),
   mo 6 (.move (T 0)),
   mo 7 (.call ⟨(.builtin .append), #[(T 5), (T 6)], #[23, 23]⟩),
   mo 2 (.assign (T 7))])
 (.ret)))
theorem body_35 : Try.f35.body.map strip = some c35 := by kernel_rfl
theorem go_35 {args : List Value} {h : DHeap} {R : DEnd → DHeap → Prop} (ha : args.length ≤ 8) (hx : xs Try.prog 8 c35 (XPost Try.prog [(.tmp 2)] R) ⟨argsFr args 8, [], h, none⟩) : Ct Try.prog 35 args h R :=
  Ct_xs (show Try.prog.funcs[35]? = some Try.f35 by kernel_rfl) body_35 (by kernel_rfl) (by kernel_rfl) ha (by kernel_rfl) hx
/-! trivet/client.clone -/
def o37_0 : Array Oper := #[⟨(some 3), (.fieldAddr 26 (T 1) 2), 0, "client.go:39", #[], none⟩,
 ⟨(some 4), (.load 22 (T 3)), 22, "client.go:39", #[⟨0, .data⟩], none⟩,
 ⟨(some 5), (.call ⟨(.value (.func 50)), #[(T 4)], #[22]⟩), 22, "client.go:39", #[⟨1, .data⟩], none⟩,
 ⟨(some 6), (.fieldAddr 26 (T 1) 3), 0, "client.go:39", #[], none⟩,
 ⟨(some 7), (.load 23 (T 6)), 23, "client.go:39", #[⟨3, .data⟩], none⟩,
 ⟨(some 8), (.call ⟨(.value (.func 35)), #[(T 7)], #[23]⟩), 23, "client.go:39", #[⟨4, .data⟩, ⟨2, .chain⟩], none⟩,
 ⟨(some 9), (.fieldAddr 26 (T 1) 4), 0, "client.go:39", #[], none⟩,
 ⟨(some 10), (.load 24 (T 9)), 24, "client.go:39", #[⟨6, .data⟩], none⟩,
 ⟨(some 11), (.call ⟨(.value (.func 51)), #[(T 10)], #[24]⟩), 24, "client.go:39", #[⟨7, .data⟩, ⟨5, .chain⟩], none⟩,
 ⟨(some 12), (.fieldAddr 26 (T 1) 5), 0, "client.go:39", #[], none⟩,
 ⟨(some 13), (.load 24 (T 12)), 24, "client.go:39", #[⟨9, .data⟩], none⟩,
 ⟨(some 14), (.call ⟨(.value (.func 51)), #[(T 13)], #[24]⟩), 24, "client.go:39", #[⟨10, .data⟩, ⟨8, .chain⟩], none⟩,
 ⟨(some 15), (.fieldAddr 26 (T 1) 2), 0, "client.go:39", #[⟨0, .phase⟩, ⟨1, .phase⟩, ⟨2, .phase⟩, ⟨3, .phase⟩, ⟨4, .phase⟩, ⟨5, (.textOnly Go.Departure.lateStoresUnsure)⟩, ⟨6, .phase⟩, ⟨7, .phase⟩, ⟨8, (.textOnly Go.Departure.lateStoresUnsure)⟩, ⟨9, .phase⟩, ⟨10, .phase⟩, ⟨11, (.textOnly Go.Departure.lateStoresUnsure)⟩], none⟩,
 ⟨none, (.store 22 (T 15) (T 5)), 0, "client.go:39", #[⟨12, .data⟩, ⟨2, .data⟩, ⟨11, .chain⟩, ⟨0, .phase⟩, ⟨1, .phase⟩, ⟨2, .phase⟩, ⟨3, .phase⟩, ⟨4, .phase⟩, ⟨5, (.textOnly Go.Departure.lateStoresUnsure)⟩, ⟨6, .phase⟩, ⟨7, .phase⟩, ⟨8, (.textOnly Go.Departure.lateStoresUnsure)⟩, ⟨9, .phase⟩, ⟨10, .phase⟩, ⟨11, (.textOnly Go.Departure.lateStoresUnsure)⟩], none⟩,
 ⟨(some 16), (.fieldAddr 26 (T 1) 3), 0, "client.go:39", #[⟨0, .phase⟩, ⟨1, .phase⟩, ⟨2, .phase⟩, ⟨3, .phase⟩, ⟨4, .phase⟩, ⟨5, .phase⟩, ⟨6, .phase⟩, ⟨7, .phase⟩, ⟨8, (.textOnly Go.Departure.lateStoresUnsure)⟩, ⟨9, .phase⟩, ⟨10, .phase⟩, ⟨11, (.textOnly Go.Departure.lateStoresUnsure)⟩, ⟨12, .phase⟩, ⟨13, .phase⟩], none⟩,
 ⟨none, (.store 23 (T 16) (T 8)), 0, "client.go:39", #[⟨14, .data⟩, ⟨5, .data⟩, ⟨13, .chain⟩, ⟨0, .phase⟩, ⟨1, .phase⟩, ⟨2, .phase⟩, ⟨3, .phase⟩, ⟨4, .phase⟩, ⟨5, .phase⟩, ⟨6, .phase⟩, ⟨7, .phase⟩, ⟨8, (.textOnly Go.Departure.lateStoresUnsure)⟩, ⟨9, .phase⟩, ⟨10, .phase⟩, ⟨11, (.textOnly Go.Departure.lateStoresUnsure)⟩, ⟨12, .phase⟩, ⟨13, .phase⟩], none⟩,
 ⟨(some 17), (.fieldAddr 26 (T 1) 4), 0, "client.go:39", #[⟨0, .phase⟩, ⟨1, .phase⟩, ⟨2, .phase⟩, ⟨3, .phase⟩, ⟨4, .phase⟩, ⟨5, .phase⟩, ⟨6, .phase⟩, ⟨7, .phase⟩, ⟨8, .phase⟩, ⟨9, .phase⟩, ⟨10, .phase⟩, ⟨11, (.textOnly Go.Departure.lateStoresUnsure)⟩, ⟨12, .phase⟩, ⟨13, .phase⟩, ⟨14, .phase⟩, ⟨15, .phase⟩], none⟩,
 ⟨none, (.store 24 (T 17) (T 11)), 0, "client.go:39", #[⟨16, .data⟩, ⟨8, .data⟩, ⟨15, .chain⟩, ⟨0, .phase⟩, ⟨1, .phase⟩, ⟨2, .phase⟩, ⟨3, .phase⟩, ⟨4, .phase⟩, ⟨5, .phase⟩, ⟨6, .phase⟩, ⟨7, .phase⟩, ⟨8, .phase⟩, ⟨9, .phase⟩, ⟨10, .phase⟩, ⟨11, (.textOnly Go.Departure.lateStoresUnsure)⟩, ⟨12, .phase⟩, ⟨13, .phase⟩, ⟨14, .phase⟩, ⟨15, .phase⟩], none⟩,
 ⟨(some 18), (.fieldAddr 26 (T 1) 5), 0, "client.go:39", #[⟨0, .phase⟩, ⟨1, .phase⟩, ⟨2, .phase⟩, ⟨3, .phase⟩, ⟨4, .phase⟩, ⟨5, .phase⟩, ⟨6, .phase⟩, ⟨7, .phase⟩, ⟨8, .phase⟩, ⟨9, .phase⟩, ⟨10, .phase⟩, ⟨11, .phase⟩, ⟨12, .phase⟩, ⟨13, .phase⟩, ⟨14, .phase⟩, ⟨15, .phase⟩, ⟨16, .phase⟩, ⟨17, .phase⟩], none⟩,
 ⟨none, (.store 24 (T 18) (T 14)), 0, "client.go:39", #[⟨18, .data⟩, ⟨11, .data⟩, ⟨17, .chain⟩, ⟨0, .phase⟩, ⟨1, .phase⟩, ⟨2, .phase⟩, ⟨3, .phase⟩, ⟨4, .phase⟩, ⟨5, .phase⟩, ⟨6, .phase⟩, ⟨7, .phase⟩, ⟨8, .phase⟩, ⟨9, .phase⟩, ⟨10, .phase⟩, ⟨11, .phase⟩, ⟨12, .phase⟩, ⟨13, .phase⟩, ⟨14, .phase⟩, ⟨15, .phase⟩, ⟨16, .phase⟩, ⟨17, .phase⟩], none⟩]
def l37_0 : List Oper := [mo 3 (.fieldAddr 26 (T 1) 2),
 mo 4 (.load 22 (T 3)),
 mo 5 (.call ⟨(.value (.func 50)), #[(T 4)], #[22]⟩),
 mo 6 (.fieldAddr 26 (T 1) 3),
 mo 7 (.load 23 (T 6)),
 mo 8 (.call ⟨(.value (.func 35)), #[(T 7)], #[23]⟩),
 mo 9 (.fieldAddr 26 (T 1) 4),
 mo 10 (.load 24 (T 9)),
 mo 11 (.call ⟨(.value (.func 51)), #[(T 10)], #[24]⟩),
 mo 12 (.fieldAddr 26 (T 1) 5),
 mo 13 (.load 24 (T 12)),
 mo 14 (.call ⟨(.value (.func 51)), #[(T 13)], #[24]⟩),
 mo 15 (.fieldAddr 26 (T 1) 2),
 mx (.store 22 (T 15) (T 5)),
 mo 16 (.fieldAddr 26 (T 1) 3),
 mx (.store 23 (T 16) (T 8)),
 mo 17 (.fieldAddr 26 (T 1) 4),
 mx (.store 24 (T 17) (T 11)),
 mo 18 (.fieldAddr 26 (T 1) 5),
 mx (.store 24 (T 18) (T 14))]
def r37_0 : Code := .region 1 o37_0 true
theorem xr_37_0 {Q : DExit → St → Prop} {s : St} : xs Try.prog 20 r37_0 Q s = NC Try.prog 20 r37_0 Q s := rfl
theorem dr_37_0 {Q : DExit → St → Prop} {s : St} (h : XDraw Try.prog l37_0.toArray (befs o37_0.toList []) [(4, 2), (7, 2), (7, 5), (10, 2), (10, 5), (10, 8)] s.fr Q l37_0 0 s []) : NC Try.prog 20 r37_0 Q s :=
  NC.draw (by kernel_rfl) (by kernel_rfl) (by kernel_rfl) rfl (by kernel_rfl) (by kernel_rfl) h
attribute [go_sem] xr_37_0
def c37 : Code :=
 .seq (rg [mo 1 (.box 26 (T 0)),
   mo 2 (.alloc 26)])
 (.seq (r37_0)
 (.seq (rg [mo 19 (.load 26 (T 1)),
   mx (.store 26 (T 2) (T 19))])
 (.ret)))
theorem body_37 : Try.f37.body.map strip = some c37 := by kernel_rfl
theorem go_37 {args : List Value} {h : DHeap} {R : DEnd → DHeap → Prop} (ha : args.length ≤ 20) (hx : xs Try.prog 20 c37 (XPost Try.prog [(.cell 2 26)] R) ⟨argsFr args 20, [], h, none⟩) : Ct Try.prog 37 args h R :=
  Ct_xs (show Try.prog.funcs[37]? = some Try.f37 by kernel_rfl) body_37 (by kernel_rfl) (by kernel_rfl) ha (by kernel_rfl) hx
/-! trivet/shard.Keys -/
def c38 : Code :=
 .seq (rg [mo 2 (.assign (.const (.slice none 0 0)))])
 (.seq (rg [mo 4 (.move (T 0)),
   mo 5 (.call ⟨(.value (.func 51)), #[(T 4)], #[24]⟩),
   mo 3 (.assign (T 5))])
 (.seq (rg [mo 6 (.move (T 3)),
   mo 7 (.call ⟨(.value (.func 52)), #[(T 6), (.func 53)], #[24, 101]⟩)])
 (.seq (rg [mo 8 (.move (T 3)),
   mo 9 (.call ⟨(.value (.func 54)), #[(T 8)], #[24]⟩),
   mo 2 (.assign (T 9))])
 (.ret))))
theorem body_38 : Try.f38.body.map strip = some c38 := by kernel_rfl
theorem go_38 {args : List Value} {h : DHeap} {R : DEnd → DHeap → Prop} (ha : args.length ≤ 10) (hx : xs Try.prog 10 c38 (XPost Try.prog [(.tmp 2)] R) ⟨argsFr args 10, [], h, none⟩) : Ct Try.prog 38 args h R :=
  Ct_xs (show Try.prog.funcs[38]? = some Try.f38 by kernel_rfl) body_38 (by kernel_rfl) (by kernel_rfl) ha (by kernel_rfl) hx
/-! trivet/trivetref11.Keys -/
/-! trivet/trivetref13.rises -/
/-! trivet/trivetref13.Decode -/
end Go.Proofs.Ytbdljpndncohaaa

namespace Go.Proofs.Ytbdljpndncohaaa
open Go.D
set_option maxRecDepth 100000
/-! trivet/code.rises -/
def o48_0 : Array Oper := #[⟨(some 9), (.move (T 3)), 3, "code.go:196", #[], none⟩,
 ⟨(some 10), (.binOp .gtr 3 (T 9) (.const (.int .i64 0)) 3), 4, "code.go:196", #[⟨0, .data⟩], none⟩,
 ⟨(some 11), (.move (T 10)), 4, "code.go:196", #[⟨1, .data⟩], none⟩,
 ⟨(some 12), (.move (T 0)), 24, "code.go:196", #[⟨2, .guard⟩], (some (2, true))⟩,
 ⟨(some 13), (.move (T 3)), 3, "code.go:196", #[⟨2, .guard⟩], (some (2, true))⟩,
 ⟨(some 14), (.indexAddr 24 (T 12) (T 13)), 0, "code.go:196", #[⟨3, .data⟩, ⟨4, .data⟩, ⟨2, .guard⟩], (some (2, true))⟩,
 ⟨(some 15), (.fieldAddr 54 (T 14) 0), 0, "code.go:196", #[⟨5, .data⟩, ⟨2, .guard⟩], (some (2, true))⟩,
 ⟨(some 16), (.load 21 (T 15)), 21, "code.go:196", #[⟨6, .data⟩, ⟨2, .guard⟩], (some (2, true))⟩,
 ⟨(some 17), (.move (T 0)), 24, "code.go:196", #[⟨2, .guard⟩], (some (2, true))⟩,
 ⟨(some 18), (.move (T 3)), 3, "code.go:196", #[⟨2, .guard⟩], (some (2, true))⟩,
 ⟨(some 19), (.binOp .sub 3 (T 18) (.const (.int .i64 1)) 3), 3, "code.go:196", #[⟨9, .data⟩, ⟨2, .guard⟩], (some (2, true))⟩,
 ⟨(some 20), (.indexAddr 24 (T 17) (T 19)), 0, "code.go:196", #[⟨8, .data⟩, ⟨10, .data⟩, ⟨2, .guard⟩], (some (2, true))⟩,
 ⟨(some 21), (.fieldAddr 54 (T 20) 0), 0, "code.go:196", #[⟨11, .data⟩, ⟨2, .guard⟩], (some (2, true))⟩,
 ⟨(some 22), (.load 21 (T 21)), 21, "code.go:196", #[⟨12, .data⟩, ⟨2, .guard⟩], (some (2, true))⟩,
 ⟨(some 23), (.binOp .lss 21 (T 16) (T 22) 21), 4, "code.go:196", #[⟨7, .data⟩, ⟨13, .data⟩, ⟨2, .guard⟩], (some (2, true))⟩,
 ⟨(some 24), (.move (T 23)), 4, "code.go:196", #[⟨14, .data⟩, ⟨2, .chain⟩, ⟨2, .guard⟩], (some (2, true))⟩,
 ⟨(some 25), (.move (T 0)), 24, "code.go:196", #[⟨15, .guard⟩], (some (15, false))⟩,
 ⟨(some 26), (.move (T 3)), 3, "code.go:196", #[⟨15, .guard⟩], (some (15, false))⟩,
 ⟨(some 27), (.indexAddr 24 (T 25) (T 26)), 0, "code.go:196", #[⟨16, .data⟩, ⟨17, .data⟩, ⟨15, .guard⟩], (some (15, false))⟩,
 ⟨(some 28), (.fieldAddr 54 (T 27) 0), 0, "code.go:196", #[⟨18, .data⟩, ⟨15, .guard⟩], (some (15, false))⟩,
 ⟨(some 29), (.load 21 (T 28)), 21, "code.go:196", #[⟨19, .data⟩, ⟨15, .guard⟩], (some (15, false))⟩,
 ⟨(some 30), (.move (T 0)), 24, "code.go:196", #[⟨15, .guard⟩], (some (15, false))⟩,
 ⟨(some 31), (.move (T 3)), 3, "code.go:196", #[⟨15, .guard⟩], (some (15, false))⟩,
 ⟨(some 32), (.binOp .sub 3 (T 31) (.const (.int .i64 1)) 3), 3, "code.go:196", #[⟨22, .data⟩, ⟨15, .guard⟩], (some (15, false))⟩,
 ⟨(some 33), (.indexAddr 24 (T 30) (T 32)), 0, "code.go:196", #[⟨21, .data⟩, ⟨23, .data⟩, ⟨15, .guard⟩], (some (15, false))⟩,
 ⟨(some 34), (.fieldAddr 54 (T 33) 0), 0, "code.go:196", #[⟨24, .data⟩, ⟨15, .guard⟩], (some (15, false))⟩,
 ⟨(some 35), (.load 21 (T 34)), 21, "code.go:196", #[⟨25, .data⟩, ⟨15, .guard⟩], (some (15, false))⟩,
 ⟨(some 36), (.binOp .eql 21 (T 29) (T 35) 21), 4, "code.go:196", #[⟨20, .data⟩, ⟨26, .data⟩, ⟨15, .guard⟩], (some (15, false))⟩,
 ⟨(some 37), (.move (T 36)), 4, "code.go:196", #[⟨27, .data⟩, ⟨15, .chain⟩, ⟨15, .guard⟩], (some (15, false))⟩,
 ⟨(some 38), (.move (T 0)), 24, "code.go:196", #[⟨28, .guard⟩], (some (28, true))⟩,
 ⟨(some 39), (.move (T 3)), 3, "code.go:196", #[⟨28, .guard⟩], (some (28, true))⟩,
 ⟨(some 40), (.indexAddr 24 (T 38) (T 39)), 0, "code.go:196", #[⟨29, .data⟩, ⟨30, .data⟩, ⟨28, .guard⟩], (some (28, true))⟩,
 ⟨(some 41), (.fieldAddr 54 (T 40) 1), 0, "code.go:196", #[⟨31, .data⟩, ⟨28, .guard⟩], (some (28, true))⟩,
 ⟨(some 42), (.load 2 (T 41)), 2, "code.go:196", #[⟨32, .data⟩, ⟨28, .guard⟩], (some (28, true))⟩,
 ⟨(some 43), (.move (T 0)), 24, "code.go:196", #[⟨28, .guard⟩], (some (28, true))⟩,
 ⟨(some 44), (.move (T 3)), 3, "code.go:196", #[⟨28, .guard⟩], (some (28, true))⟩,
 ⟨(some 45), (.binOp .sub 3 (T 44) (.const (.int .i64 1)) 3), 3, "code.go:196", #[⟨35, .data⟩, ⟨28, .guard⟩], (some (28, true))⟩,
 ⟨(some 46), (.indexAddr 24 (T 43) (T 45)), 0, "code.go:196", #[⟨34, .data⟩, ⟨36, .data⟩, ⟨28, .guard⟩], (some (28, true))⟩,
 ⟨(some 47), (.fieldAddr 54 (T 46) 1), 0, "code.go:196", #[⟨37, .data⟩, ⟨28, .guard⟩], (some (28, true))⟩,
 ⟨(some 48), (.load 2 (T 47)), 2, "code.go:196", #[⟨38, .data⟩, ⟨28, .guard⟩], (some (28, true))⟩,
 ⟨(some 49), (.binOp .leq 2 (T 42) (T 48) 2), 4, "code.go:196", #[⟨33, .data⟩, ⟨39, .data⟩, ⟨28, .guard⟩], (some (28, true))⟩,
 ⟨(some 50), (.pick (T 37) (T 49) (.const (.bool false))), 4, "code.go:196", #[⟨28, .data⟩, ⟨40, .data⟩, ⟨15, .guard⟩], (some (15, false))⟩,
 ⟨(some 51), (.pick (T 24) (.const (.bool true)) (T 50)), 4, "code.go:196", #[⟨15, .data⟩, ⟨41, .data⟩, ⟨2, .guard⟩], (some (2, true))⟩,
 ⟨(some 52), (.pick (T 11) (T 51) (.const (.bool false))), 4, "code.go:196", #[⟨2, .data⟩, ⟨42, .data⟩], none⟩]
def l48_0 : List Oper := [mo 9 (.move (T 3)),
 mo 10 (.binOp .gtr 3 (T 9) (.const (.int .i64 0)) 3),
 mo 11 (.move (T 10)),
 mg 12 2 true (.move (T 0)),
 mg 13 2 true (.move (T 3)),
 mg 14 2 true (.indexAddr 24 (T 12) (T 13)),
 mg 15 2 true (.fieldAddr 54 (T 14) 0),
 mg 16 2 true (.load 21 (T 15)),
 mg 17 2 true (.move (T 0)),
 mg 18 2 true (.move (T 3)),
 mg 19 2 true (.binOp .sub 3 (T 18) (.const (.int .i64 1)) 3),
 mg 20 2 true (.indexAddr 24 (T 17) (T 19)),
 mg 21 2 true (.fieldAddr 54 (T 20) 0),
 mg 22 2 true (.load 21 (T 21)),
 mg 23 2 true (.binOp .lss 21 (T 16) (T 22) 21),
 mg 24 2 true (.move (T 23)),
 mg 25 15 false (.move (T 0)),
 mg 26 15 false (.move (T 3)),
 mg 27 15 false (.indexAddr 24 (T 25) (T 26)),
 mg 28 15 false (.fieldAddr 54 (T 27) 0),
 mg 29 15 false (.load 21 (T 28)),
 mg 30 15 false (.move (T 0)),
 mg 31 15 false (.move (T 3)),
 mg 32 15 false (.binOp .sub 3 (T 31) (.const (.int .i64 1)) 3),
 mg 33 15 false (.indexAddr 24 (T 30) (T 32)),
 mg 34 15 false (.fieldAddr 54 (T 33) 0),
 mg 35 15 false (.load 21 (T 34)),
 mg 36 15 false (.binOp .eql 21 (T 29) (T 35) 21),
 mg 37 15 false (.move (T 36)),
 mg 38 28 true (.move (T 0)),
 mg 39 28 true (.move (T 3)),
 mg 40 28 true (.indexAddr 24 (T 38) (T 39)),
 mg 41 28 true (.fieldAddr 54 (T 40) 1),
 mg 42 28 true (.load 2 (T 41)),
 mg 43 28 true (.move (T 0)),
 mg 44 28 true (.move (T 3)),
 mg 45 28 true (.binOp .sub 3 (T 44) (.const (.int .i64 1)) 3),
 mg 46 28 true (.indexAddr 24 (T 43) (T 45)),
 mg 47 28 true (.fieldAddr 54 (T 46) 1),
 mg 48 28 true (.load 2 (T 47)),
 mg 49 28 true (.binOp .leq 2 (T 42) (T 48) 2),
 mg 50 15 false (.pick (T 37) (T 49) (.const (.bool false))),
 mg 51 2 true (.pick (T 24) (.const (.bool true)) (T 50)),
 mo 52 (.pick (T 11) (T 51) (.const (.bool false)))]
def r48_0 : Code := .region 4 o48_0 true
theorem xr_48_0 {Q : DExit → St → Prop} {s : St} : xs Try.prog 54 r48_0 Q s = NC Try.prog 54 r48_0 Q s := rfl
theorem dr_48_0 {Q : DExit → St → Prop} {s : St} (h : XDraw Try.prog l48_0.toArray (befs o48_0.toList []) [] s.fr Q l48_0 0 s []) : NC Try.prog 54 r48_0 Q s :=
  NC.draw (by kernel_rfl) (by kernel_rfl) (by kernel_rfl) rfl (by kernel_rfl) (by kernel_rfl) h
attribute [go_sem] xr_48_0
def c48 : Code :=
 .seq (rg [mo 2 (.assign (.const (.bool false)))])
 (.seq (.seq (rg [mo 4 (.move (T 0)),
    mo 5 (.call ⟨(.builtin .len), #[(T 4)], #[24]⟩),
    mo 6 (.move (.const (.int .i64 0)))])
  (.block 0 (.loop (.seq (rg [mo 7 (.binOp .lss 3 (T 6) (T 5) 3)])
    (.seq (.cond (T 7) (.skip)
     (.exit 0))
    (.seq (.block 1 (.seq (rg [mo 8 (.move (T 6)),
        mo 3 (.assign (T 8))])
      (.seq (r48_0)
      (.cond (T 52) (.seq (rg [mo 2 (.assign (.const (.bool false)))])
       (.ret))
      (.skip)))))
    (rg [mo 53 (.binOp .add 3 (T 6) (.const (.int .i64 1)) 3),
     mo 6 (.move (T 53))])))))))
 (.seq (rg [mo 2 (.assign (.const (.bool true)))])
 (.ret)))
theorem body_48 : Try.f48.body.map strip = some c48 := by kernel_rfl
theorem go_48 {args : List Value} {h : DHeap} {R : DEnd → DHeap → Prop} (ha : args.length ≤ 54) (hx : xs Try.prog 54 c48 (XPost Try.prog [(.tmp 2)] R) ⟨argsFr args 54, [], h, none⟩) : Ct Try.prog 48 args h R :=
  Ct_xs (show Try.prog.funcs[48]? = some Try.f48 by kernel_rfl) body_48 (by kernel_rfl) (by kernel_rfl) ha (by kernel_rfl) hx
/-! trivet/code.Decode -/
def c49 : Code :=
 .seq (rg [mo 2 (.alloc 91),
   mo 3 (.alloc 31)])
 (.seq (.seq (rg [mo 9 (.move (T 0)),
    mo 10 (.call ⟨(.builtin .len), #[(T 9)], #[22]⟩),
    mo 11 (.binOp .gtr 3 (T 10) (.const (.int .i64 512)) 3)])
  (.cond (T 11) (.seq (rg [mx (.store 91 (T 2) (.const (.slice none 0 0))),
     mx (.store 31 (T 3) (.const (.int .i64 3)))])
   (.ret))
  (.skip)))
 (.seq (rg [mo 12 (.makeFunc (.func 59) #[] #[(T 2), (T 3)]),
   mx (.defer ⟨(.value (T 12)), #[], #[]⟩)])
 (.seq (rg [mo 13 (.move (T 0)),
   mo 14 (.call ⟨(.value (.func 61)), #[(T 13)], #[22]⟩),
   mx (.store 91 (T 2) (T 14))])
 (.seq (rg [mo 15 (.makeMap 105 none),
   mo 4 (.assign (T 15))])
 (.seq (.seq (rg [mo 16 (.load 91 (T 2)),
    mo 17 (.call ⟨(.builtin .len), #[(T 16)], #[91]⟩),
    mo 18 (.move (.const (.int .i64 0)))])
  (.block 0 (.loop (.seq (rg [mo 19 (.binOp .lss 3 (T 18) (T 17) 3)])
    (.seq (.cond (T 19) (.skip)
     (.exit 0))
    (.seq (.block 1 (.seq (rg [mo 20 (.indexAddr 91 (T 16) (T 18)),
        mo 21 (.load 95 (T 20)),
        mo 6 (.alloc 95),
        mx (.store 95 (T 6) (T 21))])
      (rg [mo 22 (.move (T 4)),
       mo 23 (.fieldAddr 95 (T 6) 0),
       mo 24 (.load 3 (T 23)),
       mx (.mapUpdate 105 (T 22) (T 24) (.const (.bool true)))])))
    (rg [mo 25 (.binOp .add 3 (T 18) (.const (.int .i64 1)) 3),
     mo 18 (.move (T 25))])))))))
 (.seq (.seq (rg [mo 26 (.load 91 (T 2)),
    mo 27 (.call ⟨(.builtin .len), #[(T 26)], #[91]⟩),
    mo 28 (.move (.const (.int .i64 0)))])
  (.block 2 (.loop (.seq (rg [mo 29 (.binOp .lss 3 (T 28) (T 27) 3)])
    (.seq (.cond (T 29) (.skip)
     (.exit 2))
    (.seq (.block 3 (.seq (rg [mo 30 (.indexAddr 91 (T 26) (T 28)),
        mo 31 (.load 95 (T 30)),
        mo 8 (.alloc 95),
        mx (.store 95 (T 8) (T 31))])
      (.seq (rg [mo 32 (.load 95 (T 8)),
        mo 33 (.call ⟨(.value (.func 62)), #[(T 32)], #[95]⟩),
        mo 34 (.move (T 33)),
        mg 35 2 true (.move (T 4)),
        mg 36 2 true (.fieldAddr 95 (T 8) 4),
        mg 37 2 true (.load 2 (T 36)),
        mg 38 2 true (.lookup 105 (T 35) (T 37) false),
        mg 39 2 true (.unOp .not 4 (T 38)),
        mo 40 (.pick (T 34) (T 39) (.const (.bool false)))])
      (.cond (T 40) (rg [mo 41 (.call ⟨(.value (.func 63)), #[(.const (.int .i64 131))], #[31]⟩)])
      (.skip)))))
    (rg [mo 42 (.binOp .add 3 (T 28) (.const (.int .i64 1)) 3),
     mo 28 (.move (T 42))])))))))
 (.seq (rg [mo 43 (.load 91 (T 2)),
   mx (.store 91 (T 2) (T 43)),
   mx (.store 31 (T 3) (.const (.int .i64 0)))])
 (.ret))))))))
theorem body_49 : Try.f49.body.map strip = some c49 := by kernel_rfl
theorem go_49 {args : List Value} {h : DHeap} {R : DEnd → DHeap → Prop} (ha : args.length ≤ 44) (hx : xs Try.prog 44 c49 (XPost Try.prog [(.cell 2 91), (.cell 3 31)] R) ⟨argsFr args 44, [], h, none⟩) : Ct Try.prog 49 args h R :=
  Ct_xs (show Try.prog.funcs[49]? = some Try.f49 by kernel_rfl) body_49 (by kernel_rfl) (by kernel_rfl) ha (by kernel_rfl) hx
/-! slices.Clone[[]byte,byte] -/
def c50 : Code :=
 .seq (rg [mo 2 (.assign (.const (.slice none 0 0)))])
 (.seq (.seq (rg [mo 3 (.move (T 0)),
    mo 4 (.binOp .eql 22 (T 3) (.const (.slice none 0 0)) 22)])
  (.cond (T 4) (.seq (rg [mo 2 (.assign (.const (.slice none 0 0)))])
   (.ret))
  (.skip)))
 (.seq (rg [mo 5 (.buildSlice 22 0 #[]),
   mo 6 (.move (T 0)),
   mo 7 (.call ⟨(.builtin .append), #[(T 5), (T 6)], #[22, 22]⟩),
   mo 2 (.assign (T 7))])
 (.ret)))
theorem body_50 : Try.f50.body.map strip = some c50 := by kernel_rfl
theorem go_50 {args : List Value} {h : DHeap} {R : DEnd → DHeap → Prop} (ha : args.length ≤ 8) (hx : xs Try.prog 8 c50 (XPost Try.prog [(.tmp 2)] R) ⟨argsFr args 8, [], h, none⟩) : Ct Try.prog 50 args h R :=
  Ct_xs (show Try.prog.funcs[50]? = some Try.f50 by kernel_rfl) body_50 (by kernel_rfl) (by kernel_rfl) ha (by kernel_rfl) hx
/-! slices.Clone[[]trivet/api.Key,trivet/api.Key] -/
def c51 : Code :=
 .seq (rg [mo 2 (.assign (.const (.slice none 0 0)))])
 (.seq (.seq (rg [mo 3 (.move (T 0)),
    mo 4 (.binOp .eql 24 (T 3) (.const (.slice none 0 0)) 24)])
  (.cond (T 4) (.seq (rg [mo 2 (.assign (.const (.slice none 0 0)))])
   (.ret))
  (.skip)))
 (.seq (rg [mo 5 (.buildSlice 24 0 #[]),
   mo 6 (.move (T 0)),
   mo 7 (.call ⟨(.builtin .append), #[(T 5), (T 6)], #[24, 24]⟩),
   mo 2 (.assign (T 7))])
 (.ret)))
theorem body_51 : Try.f51.body.map strip = some c51 := by kernel_rfl
theorem go_51 {args : List Value} {h : DHeap} {R : DEnd → DHeap → Prop} (ha : args.length ≤ 8) (hx : xs Try.prog 8 c51 (XPost Try.prog [(.tmp 2)] R) ⟨argsFr args 8, [], h, none⟩) : Ct Try.prog 51 args h R :=
  Ct_xs (show Try.prog.funcs[51]? = some Try.f51 by kernel_rfl) body_51 (by kernel_rfl) (by kernel_rfl) ha (by kernel_rfl) hx
/-! slices.SortFunc[[]trivet/api.Key,trivet/api.Key] -/
def c52 : Code :=
 .seq (rg [mo 5 (.move (T 0)),
   mo 6 (.call ⟨(.builtin .len), #[(T 5)], #[24]⟩),
   mo 4 (.assign (T 6))])
 (rg [mo 7 (.move (T 0)),
  mo 8 (.move (T 4)),
  mo 9 (.move (T 4)),
  mo 10 (.convert 3 110 (T 9)),
  mo 11 (.call ⟨(.value (.func 65)), #[(T 10)], #[110]⟩),
  mo 12 (.move (T 1)),
  mo 13 (.call ⟨(.value (.func 64)), #[(T 7), (.const (.int .i64 0)), (T 8), (T 11), (T 12)], #[24, 3, 3, 3, 101]⟩)])
theorem body_52 : Try.f52.body.map strip = some c52 := by kernel_rfl
theorem go_52 {args : List Value} {h : DHeap} {R : DEnd → DHeap → Prop} (ha : args.length ≤ 14) (hx : xs Try.prog 14 c52 (XPost Try.prog [] R) ⟨argsFr args 14, [], h, none⟩) : Ct Try.prog 52 args h R :=
  Ct_xs (show Try.prog.funcs[52]? = some Try.f52 by kernel_rfl) body_52 (by kernel_rfl) (by kernel_rfl) ha (by kernel_rfl) hx
/-! trivet/shard.Compare -/
def o53_0 : Array Oper := #[⟨(some 5), (.fieldAddr 54 (T 2) 0), 0, "shard.go:14", #[], none⟩,
 ⟨(some 6), (.load 21 (T 5)), 21, "shard.go:14", #[⟨0, .data⟩], none⟩,
 ⟨(some 7), (.fieldAddr 54 (T 3) 0), 0, "shard.go:14", #[], none⟩,
 ⟨(some 8), (.load 21 (T 7)), 21, "shard.go:14", #[⟨2, .data⟩], none⟩,
 ⟨(some 9), (.call ⟨(.value (.func 67)), #[(T 6), (T 8)], #[21, 21]⟩), 3, "shard.go:14", #[⟨1, .data⟩, ⟨3, .data⟩], none⟩,
 ⟨(some 10), (.fieldAddr 54 (T 2) 1), 0, "shard.go:14", #[], none⟩,
 ⟨(some 11), (.load 2 (T 10)), 2, "shard.go:14", #[⟨5, .data⟩], none⟩,
 ⟨(some 12), (.fieldAddr 54 (T 3) 1), 0, "shard.go:14", #[], none⟩,
 ⟨(some 13), (.load 2 (T 12)), 2, "shard.go:14", #[⟨7, .data⟩], none⟩,
 ⟨(some 14), (.call ⟨(.value (.func 68)), #[(T 11), (T 13)], #[2, 2]⟩), 3, "shard.go:14", #[⟨6, .data⟩, ⟨8, .data⟩, ⟨4, .chain⟩], none⟩,
 ⟨(some 15), (.buildSlice 131 2 #[(0, (T 9)), (1, (T 14))]), 131, "shard.go:14", #[⟨4, .data⟩, ⟨9, .data⟩], none⟩,
 ⟨(some 16), (.call ⟨(.value (.func 66)), #[(T 15)], #[131]⟩), 3, "shard.go:14", #[⟨10, .data⟩, ⟨9, .chain⟩], none⟩,
 ⟨(some 4), (.assign (T 16)), 3, "shard.go:14", #[⟨11, .data⟩, ⟨11, .chain⟩, ⟨0, .phase⟩, ⟨1, .phase⟩, ⟨2, .phase⟩, ⟨3, .phase⟩, ⟨4, .phase⟩, ⟨5, .phase⟩, ⟨6, .phase⟩, ⟨7, .phase⟩, ⟨8, .phase⟩, ⟨9, .phase⟩, ⟨10, .phase⟩, ⟨11, .phase⟩], none⟩]
def l53_0 : List Oper := [mo 5 (.fieldAddr 54 (T 2) 0),
 mo 6 (.load 21 (T 5)),
 mo 7 (.fieldAddr 54 (T 3) 0),
 mo 8 (.load 21 (T 7)),
 mo 9 (.call ⟨(.value (.func 67)), #[(T 6), (T 8)], #[21, 21]⟩),
 mo 10 (.fieldAddr 54 (T 2) 1),
 mo 11 (.load 2 (T 10)),
 mo 12 (.fieldAddr 54 (T 3) 1),
 mo 13 (.load 2 (T 12)),
 mo 14 (.call ⟨(.value (.func 68)), #[(T 11), (T 13)], #[2, 2]⟩),
 mo 15 (.buildSlice 131 2 #[(0, (T 9)), (1, (T 14))]),
 mo 16 (.call ⟨(.value (.func 66)), #[(T 15)], #[131]⟩),
 mo 4 (.assign (T 16))]
def r53_0 : Code := .region 1 o53_0 true
theorem xr_53_0 {Q : DExit → St → Prop} {s : St} : xs Try.prog 17 r53_0 Q s = NC Try.prog 17 r53_0 Q s := rfl
theorem dr_53_0 {Q : DExit → St → Prop} {s : St} (h : XDraw Try.prog l53_0.toArray (befs o53_0.toList []) [(6, 4), (8, 4)] s.fr Q l53_0 0 s []) : NC Try.prog 17 r53_0 Q s :=
  NC.draw (by kernel_rfl) (by kernel_rfl) (by kernel_rfl) rfl (by kernel_rfl) (by kernel_rfl) h
attribute [go_sem] xr_53_0
def c53 : Code :=
 .seq (rg [mo 2 (.box 54 (T 0)),
   mo 3 (.box 54 (T 1)),
   mo 4 (.assign (.const (.int .i64 0)))])
 (.seq (r53_0)
 (.ret))
theorem body_53 : Try.f53.body.map strip = some c53 := by kernel_rfl
theorem go_53 {args : List Value} {h : DHeap} {R : DEnd → DHeap → Prop} (ha : args.length ≤ 17) (hx : xs Try.prog 17 c53 (XPost Try.prog [(.tmp 4)] R) ⟨argsFr args 17, [], h, none⟩) : Ct Try.prog 53 args h R :=
  Ct_xs (show Try.prog.funcs[53]? = some Try.f53 by kernel_rfl) body_53 (by kernel_rfl) (by kernel_rfl) ha (by kernel_rfl) hx
/-! slices.Compact[[]trivet/api.Key,trivet/api.Key] -/
def o54_0 : Array Oper := #[⟨(some 16), (.move (T 0)), 24, "slices.go:376", #[], none⟩,
 ⟨(some 17), (.move (T 3)), 3, "slices.go:376", #[], none⟩,
 ⟨(some 18), (.indexAddr 24 (T 16) (T 17)), 0, "slices.go:376", #[⟨0, .data⟩, ⟨1, .data⟩], none⟩,
 ⟨(some 19), (.load 54 (T 18)), 54, "slices.go:376", #[⟨2, .data⟩], none⟩,
 ⟨(some 20), (.move (T 0)), 24, "slices.go:376", #[], none⟩,
 ⟨(some 21), (.move (T 3)), 3, "slices.go:376", #[], none⟩,
 ⟨(some 22), (.binOp .sub 3 (T 21) (.const (.int .i64 1)) 3), 3, "slices.go:376", #[⟨5, .data⟩], none⟩,
 ⟨(some 23), (.indexAddr 24 (T 20) (T 22)), 0, "slices.go:376", #[⟨4, .data⟩, ⟨6, .data⟩], none⟩,
 ⟨(some 24), (.load 54 (T 23)), 54, "slices.go:376", #[⟨7, .data⟩], none⟩,
 ⟨(some 25), (.binOp .eql 54 (T 19) (T 24) 54), 4, "slices.go:376", #[⟨3, .data⟩, ⟨8, .data⟩], none⟩]
def l54_0 : List Oper := [mo 16 (.move (T 0)),
 mo 17 (.move (T 3)),
 mo 18 (.indexAddr 24 (T 16) (T 17)),
 mo 19 (.load 54 (T 18)),
 mo 20 (.move (T 0)),
 mo 21 (.move (T 3)),
 mo 22 (.binOp .sub 3 (T 21) (.const (.int .i64 1)) 3),
 mo 23 (.indexAddr 24 (T 20) (T 22)),
 mo 24 (.load 54 (T 23)),
 mo 25 (.binOp .eql 54 (T 19) (T 24) 54)]
def r54_0 : Code := .region 6 o54_0 true
theorem xr_54_0 {Q : DExit → St → Prop} {s : St} : xs Try.prog 61 r54_0 Q s = NC Try.prog 61 r54_0 Q s := rfl
theorem dr_54_0 {Q : DExit → St → Prop} {s : St} (h : XDraw Try.prog l54_0.toArray (befs o54_0.toList []) [] s.fr Q l54_0 0 s []) : NC Try.prog 61 r54_0 Q s :=
  NC.draw (by kernel_rfl) (by kernel_rfl) (by kernel_rfl) rfl (by kernel_rfl) (by kernel_rfl) h
attribute [go_sem] xr_54_0
def o54_1 : Array Oper := #[⟨(some 35), (.move (T 4)), 24, "slices.go:379", #[], none⟩,
 ⟨(some 36), (.move (T 5)), 3, "slices.go:379", #[], none⟩,
 ⟨(some 37), (.indexAddr 24 (T 35) (T 36)), 0, "slices.go:379", #[⟨0, .data⟩, ⟨1, .data⟩], none⟩,
 ⟨(some 38), (.load 54 (T 37)), 54, "slices.go:379", #[⟨2, .data⟩], none⟩,
 ⟨(some 39), (.move (T 4)), 24, "slices.go:379", #[], none⟩,
 ⟨(some 40), (.move (T 5)), 3, "slices.go:379", #[], none⟩,
 ⟨(some 41), (.binOp .sub 3 (T 40) (.const (.int .i64 1)) 3), 3, "slices.go:379", #[⟨5, .data⟩], none⟩,
 ⟨(some 42), (.indexAddr 24 (T 39) (T 41)), 0, "slices.go:379", #[⟨4, .data⟩, ⟨6, .data⟩], none⟩,
 ⟨(some 43), (.load 54 (T 42)), 54, "slices.go:379", #[⟨7, .data⟩], none⟩,
 ⟨(some 44), (.binOp .neq 54 (T 38) (T 43) 54), 4, "slices.go:379", #[⟨3, .data⟩, ⟨8, .data⟩], none⟩]
def l54_1 : List Oper := [mo 35 (.move (T 4)),
 mo 36 (.move (T 5)),
 mo 37 (.indexAddr 24 (T 35) (T 36)),
 mo 38 (.load 54 (T 37)),
 mo 39 (.move (T 4)),
 mo 40 (.move (T 5)),
 mo 41 (.binOp .sub 3 (T 40) (.const (.int .i64 1)) 3),
 mo 42 (.indexAddr 24 (T 39) (T 41)),
 mo 43 (.load 54 (T 42)),
 mo 44 (.binOp .neq 54 (T 38) (T 43) 54)]
def r54_1 : Code := .region 11 o54_1 true
theorem xr_54_1 {Q : DExit → St → Prop} {s : St} : xs Try.prog 61 r54_1 Q s = NC Try.prog 61 r54_1 Q s := rfl
theorem dr_54_1 {Q : DExit → St → Prop} {s : St} (h : XDraw Try.prog l54_1.toArray (befs o54_1.toList []) [] s.fr Q l54_1 0 s []) : NC Try.prog 61 r54_1 Q s :=
  NC.draw (by kernel_rfl) (by kernel_rfl) (by kernel_rfl) rfl (by kernel_rfl) (by kernel_rfl) h
attribute [go_sem] xr_54_1
def c54 : Code :=
 .seq (rg [mo 2 (.assign (.const (.slice none 0 0)))])
 (.seq (.seq (rg [mo 6 (.move (T 0)),
    mo 7 (.call ⟨(.builtin .len), #[(T 6)], #[24]⟩),
    mo 8 (.binOp .lss 3 (T 7) (.const (.int .i64 2)) 3)])
  (.cond (T 8) (.seq (rg [mo 9 (.move (T 0)),
     mo 2 (.assign (T 9))])
   (.ret))
  (.skip)))
 (.seq (.seq (rg [mo 3 (.assign (.const (.int .i64 1)))])
  (.block 0 (.loop (.seq (.seq (rg [mo 10 (.move (T 3)),
       mo 11 (.move (T 0)),
       mo 12 (.call ⟨(.builtin .len), #[(T 11)], #[24]⟩),
       mo 13 (.binOp .lss 3 (T 10) (T 12) 3)])
     (.cond (T 13) (.skip)
     (.exit 0)))
    (.seq (.block 1 (.seq (r54_0)
      (.cond (T 25) (.seq (rg [mo 26 (.move (T 0)),
         mo 27 (.move (T 3)),
         mo 28 (.slice 24 (T 26) (some (T 27)) none none),
         mo 4 (.assign (T 28))])
       (.seq (.seq (rg [mo 5 (.assign (.const (.int .i64 1)))])
        (.block 2 (.loop (.seq (.seq (rg [mo 29 (.move (T 5)),
             mo 30 (.move (T 4)),
             mo 31 (.call ⟨(.builtin .len), #[(T 30)], #[24]⟩),
             mo 32 (.binOp .lss 3 (T 29) (T 31) 3)])
           (.cond (T 32) (.skip)
           (.exit 2)))
          (.seq (.block 3 (.seq (r54_1)
            (.cond (T 44) (.seq (rg [mo 45 (.move (T 0)),
               mo 46 (.move (T 3)),
               mo 47 (.move (T 4)),
               mo 48 (.move (T 5)),
               mo 49 (.indexAddr 24 (T 47) (T 48)),
               mo 50 (.load 54 (T 49)),
               mo 51 (.indexAddr 24 (T 45) (T 46)),
               mx (.store 54 (T 51) (T 50))])
             (rg [mo 52 (.move (T 3)),
              mo 53 (.binOp .add 3 (T 52) (.const (.int .i64 1)) 3),
              mo 3 (.assign (T 53))]))
            (.skip))))
          (rg [mo 33 (.move (T 5)),
           mo 34 (.binOp .add 3 (T 33) (.const (.int .i64 1)) 3),
           mo 5 (.assign (T 34))]))))))
       (.seq (rg [mo 54 (.move (T 0)),
         mo 55 (.move (T 3)),
         mo 56 (.slice 24 (T 54) (some (T 55)) none none),
         mx (.call ⟨(.builtin .clear), #[(T 56)], #[24]⟩)])
       (.seq (rg [mo 57 (.move (T 0)),
         mo 58 (.move (T 3)),
         mo 59 (.slice 24 (T 57) none (some (T 58)) none),
         mo 2 (.assign (T 59))])
       (.ret)))))
      (.skip))))
    (rg [mo 14 (.move (T 3)),
     mo 15 (.binOp .add 3 (T 14) (.const (.int .i64 1)) 3),
     mo 3 (.assign (T 15))]))))))
 (.seq (rg [mo 60 (.move (T 0)),
   mo 2 (.assign (T 60))])
 (.ret))))
theorem body_54 : Try.f54.body.map strip = some c54 := by kernel_rfl
theorem go_54 {args : List Value} {h : DHeap} {R : DEnd → DHeap → Prop} (ha : args.length ≤ 61) (hx : xs Try.prog 61 c54 (XPost Try.prog [(.tmp 2)] R) ⟨argsFr args 61, [], h, none⟩) : Ct Try.prog 54 args h R :=
  Ct_xs (show Try.prog.funcs[54]? = some Try.f54 by kernel_rfl) body_54 (by kernel_rfl) (by kernel_rfl) ha (by kernel_rfl) hx
/-! trivet/trivetref11.Compare -/
/-! trivet/trivetref13.Walk -/
/-! trivet/trivetref13.jumps -/
/-! trivet/trivetref13.begins -/
/-! trivet/code.Decode$1 -/
def c59 : Code :=
 .seq (rg [mo 3 (.call ⟨(.builtin .recover), #[], #[]⟩),
   mo 2 (.assign (T 3))])
 (.seq (rg [mo 4 (.move (T 2)),
   mo 5 (.binOp .neq 20 (T 4) (.const .nilIface) 20)])
 (.cond (T 5) (rg [mo 6 (.move (T 2)),
   mo 7 (.call ⟨(.value (.func 60)), #[(T 6)], #[20]⟩),
   mx (.store 91 (T 0) (.const (.slice none 0 0))),
   mx (.store 31 (T 1) (T 7))])
 (.skip)))
theorem body_59 : Try.f59.body.map strip = some c59 := by kernel_rfl
/-! trivet/code.caught -/
def c60 : Code :=
 .seq (rg [mo 2 (.assign (.const (.int .i64 0)))])
 (.seq (rg [mo 6 (.move (T 0)),
   mo 7 (.typeAssert (T 6) 20 117 true),
   mo 5 (.move (T 7)),
   mo 8 (.extract (T 5) 0),
   mo 9 (.extract (T 5) 1),
   mo 3 (.alloc 117),
   mx (.store 117 (T 3) (T 8)),
   mo 4 (.assign (T 9))])
 (.seq (.seq (rg [mo 10 (.move (T 4)),
    mo 11 (.unOp .not 4 (T 10))])
  (.cond (T 11) (rg [mo 12 (.move (T 0)),
    mx (.panic (T 12))])
  (.skip)))
 (.seq (rg [mo 13 (.fieldAddr 117 (T 3) 0),
   mo 14 (.load 31 (T 13)),
   mo 2 (.assign (T 14))])
 (.ret))))
theorem body_60 : Try.f60.body.map strip = some c60 := by kernel_rfl
theorem go_60 {args : List Value} {h : DHeap} {R : DEnd → DHeap → Prop} (ha : args.length ≤ 15) (hx : xs Try.prog 15 c60 (XPost Try.prog [(.tmp 2)] R) ⟨argsFr args 15, [], h, none⟩) : Ct Try.prog 60 args h R :=
  Ct_xs (show Try.prog.funcs[60]? = some Try.f60 by kernel_rfl) body_60 (by kernel_rfl) (by kernel_rfl) ha (by kernel_rfl) hx
/-! trivet/code.all -/
def c61 : Code :=
 .seq (rg [mo 2 (.assign (.const (.slice none 0 0)))])
 (.seq (rg [mo 3 (.assign (.const (.slice none 0 0)))])
 (.seq (.seq (rg [mo 4 (.assign (.const (.int .i64 0)))])
  (.block 0 (.loop (.seq (.seq (rg [mo 8 (.move (T 4)),
       mo 9 (.move (T 0)),
       mo 10 (.call ⟨(.builtin .len), #[(T 9)], #[22]⟩),
       mo 11 (.binOp .lss 3 (T 8) (T 10) 3)])
     (.cond (T 11) (.skip)
     (.exit 0)))
    (.block 1 (.seq (rg [mo 13 (.move (T 0)),
       mo 14 (.move (T 4)),
       mo 15 (.call ⟨(.value (.func 70)), #[(T 13), (T 14)], #[22, 3]⟩),
       mo 12 (.move (T 15)),
       mo 16 (.extract (T 12) 0),
       mo 17 (.extract (T 12) 1),
       mo 18 (.extract (T 12) 2),
       mo 5 (.alloc 95),
       mx (.store 95 (T 5) (T 16)),
       mo 6 (.assign (T 17)),
       mo 7 (.assign (T 18))])
     (.seq (rg [mo 19 (.move (T 7)),
       mo 20 (.call ⟨(.value (.func 63)), #[(T 19)], #[31]⟩)])
     (.seq (rg [mo 21 (.move (T 3)),
       mo 22 (.load 95 (T 5)),
       mo 23 (.buildSlice 91 1 #[(0, (T 22))]),
       mo 24 (.call ⟨(.builtin .append), #[(T 21), (T 23)], #[91, 91]⟩),
       mo 3 (.assign (T 24))])
     (rg [mo 25 (.move (T 6)),
      mo 4 (.assign (T 25))])))))))))
 (.seq (rg [mo 26 (.move (T 3)),
   mo 2 (.assign (T 26))])
 (.ret))))
theorem body_61 : Try.f61.body.map strip = some c61 := by kernel_rfl
theorem go_61 {args : List Value} {h : DHeap} {R : DEnd → DHeap → Prop} (ha : args.length ≤ 27) (hx : xs Try.prog 27 c61 (XPost Try.prog [(.tmp 2)] R) ⟨argsFr args 27, [], h, none⟩) : Ct Try.prog 61 args h R :=
  Ct_xs (show Try.prog.funcs[61]? = some Try.f61 by kernel_rfl) body_61 (by kernel_rfl) (by kernel_rfl) ha (by kernel_rfl) hx
/-! trivet/code.jumps -/
def c62 : Code :=
 .seq (rg [mo 1 (.box 95 (T 0)),
   mo 2 (.assign (.const (.bool false)))])
 (.seq (rg [mo 3 (.fieldAddr 95 (T 1) 1),
   mo 4 (.load 3 (T 3)),
   mo 5 (.binOp .eql 3 (T 4) (.const (.int .i64 22)) 3),
   mo 6 (.move (T 5)),
   mg 7 3 false (.fieldAddr 95 (T 1) 1),
   mg 8 3 false (.load 3 (T 7)),
   mg 9 3 false (.binOp .eql 3 (T 8) (.const (.int .i64 23)) 3),
   mo 10 (.pick (T 6) (.const (.bool true)) (T 9)),
   mo 2 (.assign (T 10))])
 (.ret))
theorem body_62 : Try.f62.body.map strip = some c62 := by kernel_rfl
theorem go_62 {args : List Value} {h : DHeap} {R : DEnd → DHeap → Prop} (ha : args.length ≤ 11) (hx : xs Try.prog 11 c62 (XPost Try.prog [(.tmp 2)] R) ⟨argsFr args 11, [], h, none⟩) : Ct Try.prog 62 args h R :=
  Ct_xs (show Try.prog.funcs[62]? = some Try.f62 by kernel_rfl) body_62 (by kernel_rfl) (by kernel_rfl) ha (by kernel_rfl) hx
end Go.Proofs.Ytbdljpndncohaaa

namespace Go.Proofs.Ytbdljpndncohaaa
open Go.D
set_option maxRecDepth 100000
/-! trivet/code.must -/
def c63 : Code :=
 .seq (rg [mo 2 (.move (T 0)),
   mo 3 (.binOp .neq 31 (T 2) (.const (.int .i64 0)) 31)])
 (.cond (T 3) (rg [mo 4 (.move (T 0)),
   mo 5 (.build 117 #[(0, (T 4))]),
   mo 6 (.makeInterface 117 (T 5)),
   mx (.panic (T 6))])
 (.skip))
theorem body_63 : Try.f63.body.map strip = some c63 := by kernel_rfl
theorem go_63 {args : List Value} {h : DHeap} {R : DEnd → DHeap → Prop} (ha : args.length ≤ 7) (hx : xs Try.prog 7 c63 (XPost Try.prog [] R) ⟨argsFr args 7, [], h, none⟩) : Ct Try.prog 63 args h R :=
  Ct_xs (show Try.prog.funcs[63]? = some Try.f63 by kernel_rfl) body_63 (by kernel_rfl) (by kernel_rfl) ha (by kernel_rfl) hx
/-! slices.pdqsortCmpFunc[trivet/api.Key] -/
def o64_0 : Array Oper := #[⟨(some 81), (.move (T 1)), 3, "zsortanyfunc.go:108", #[], none⟩,
 ⟨(some 82), (.binOp .gtr 3 (T 81) (.const (.int .i64 0)) 3), 4, "zsortanyfunc.go:108", #[⟨0, .data⟩], none⟩,
 ⟨(some 83), (.move (T 82)), 4, "zsortanyfunc.go:108", #[⟨1, .data⟩], none⟩,
 ⟨(some 84), (.move (T 4)), 101, "zsortanyfunc.go:108", #[⟨2, .guard⟩], (some (2, true))⟩,
 ⟨(some 85), (.move (T 0)), 24, "zsortanyfunc.go:108", #[⟨2, .guard⟩], (some (2, true))⟩,
 ⟨(some 86), (.move (T 1)), 3, "zsortanyfunc.go:108", #[⟨2, .guard⟩], (some (2, true))⟩,
 ⟨(some 87), (.binOp .sub 3 (T 86) (.const (.int .i64 1)) 3), 3, "zsortanyfunc.go:108", #[⟨5, .data⟩, ⟨2, .guard⟩], (some (2, true))⟩,
 ⟨(some 88), (.indexAddr 24 (T 85) (T 87)), 0, "zsortanyfunc.go:108", #[⟨4, .data⟩, ⟨6, .data⟩, ⟨2, .guard⟩], (some (2, true))⟩,
 ⟨(some 89), (.load 54 (T 88)), 54, "zsortanyfunc.go:108", #[⟨7, .data⟩, ⟨2, .guard⟩], (some (2, true))⟩,
 ⟨(some 90), (.move (T 0)), 24, "zsortanyfunc.go:108", #[⟨2, .guard⟩], (some (2, true))⟩,
 ⟨(some 91), (.move (T 13)), 3, "zsortanyfunc.go:108", #[⟨2, .guard⟩], (some (2, true))⟩,
 ⟨(some 92), (.indexAddr 24 (T 90) (T 91)), 0, "zsortanyfunc.go:108", #[⟨9, .data⟩, ⟨10, .data⟩, ⟨2, .guard⟩], (some (2, true))⟩,
 ⟨(some 93), (.load 54 (T 92)), 54, "zsortanyfunc.go:108", #[⟨11, .data⟩, ⟨2, .guard⟩], (some (2, true))⟩,
 ⟨(some 94), (.call ⟨(.value (T 84)), #[(T 89), (T 93)], #[54, 54]⟩), 3, "zsortanyfunc.go:108", #[⟨3, .data⟩, ⟨8, .data⟩, ⟨12, .data⟩, ⟨2, .chain⟩, ⟨2, .guard⟩], (some (2, true))⟩,
 ⟨(some 95), (.binOp .lss 3 (T 94) (.const (.int .i64 0)) 3), 4, "zsortanyfunc.go:108", #[⟨13, .data⟩, ⟨2, .guard⟩], (some (2, true))⟩,
 ⟨(some 96), (.unOp .not 4 (T 95)), 4, "zsortanyfunc.go:108", #[⟨14, .data⟩, ⟨2, .guard⟩], (some (2, true))⟩,
 ⟨(some 97), (.pick (T 83) (T 96) (.const (.bool false))), 4, "zsortanyfunc.go:108", #[⟨2, .data⟩, ⟨15, .data⟩], none⟩]
def r64_0 : Code := .region 17 o64_0 true
def c64 : Code :=
 .seq (rg [mo 10 (.assign (.const (.bool true)))])
 (.seq (rg [mo 11 (.assign (.const (.bool true)))])
 (.block 0 (.loop (.block 1 (.seq (rg [mo 21 (.move (T 2)),
      mo 22 (.move (T 1)),
      mo 23 (.binOp .sub 3 (T 21) (T 22) 3),
      mo 12 (.assign (T 23))])
    (.seq (.seq (rg [mo 24 (.move (T 12)),
       mo 25 (.binOp .leq 3 (T 24) (.const (.int .i64 12)) 3)])
     (.cond (T 25) (.seq (rg [mo 26 (.move (T 0)),
        mo 27 (.move (T 1)),
        mo 28 (.move (T 2)),
        mo 29 (.move (T 4)),
        mo 30 (.call ⟨(.value (.func 71)), #[(T 26), (T 27), (T 28), (T 29)], #[24, 3, 3, 101]⟩)])
      (.ret))
     (.skip)))
    (.seq (.seq (rg [mo 31 (.move (T 3)),
       mo 32 (.binOp .eql 3 (T 31) (.const (.int .i64 0)) 3)])
     (.cond (T 32) (.seq (rg [mo 33 (.move (T 0)),
        mo 34 (.move (T 1)),
        mo 35 (.move (T 2)),
        mo 36 (.move (T 4)),
        mo 37 (.call ⟨(.value (.func 72)), #[(T 33), (T 34), (T 35), (T 36)], #[24, 3, 3, 101]⟩)])
      (.ret))
     (.skip)))
    (.seq (.seq (rg [mo 38 (.move (T 10)),
       mo 39 (.unOp .not 4 (T 38))])
     (.cond (T 39) (.seq (rg [mo 40 (.move (T 0)),
        mo 41 (.move (T 1)),
        mo 42 (.move (T 2)),
        mo 43 (.move (T 4)),
        mo 44 (.call ⟨(.value (.func 73)), #[(T 40), (T 41), (T 42), (T 43)], #[24, 3, 3, 101]⟩)])
      (rg [mo 45 (.move (T 3)),
       mo 46 (.binOp .sub 3 (T 45) (.const (.int .i64 1)) 3),
       mo 3 (.assign (T 46))]))
     (.skip)))
    (.seq (rg [mo 48 (.move (T 0)),
      mo 49 (.move (T 1)),
      mo 50 (.move (T 2)),
      mo 51 (.move (T 4)),
      mo 52 (.call ⟨(.value (.func 74)), #[(T 48), (T 49), (T 50), (T 51)], #[24, 3, 3, 101]⟩),
      mo 47 (.move (T 52)),
      mo 53 (.extract (T 47) 0),
      mo 54 (.extract (T 47) 1),
      mo 13 (.assign (T 53)),
      mo 14 (.assign (T 54))])
    (.seq (.seq (rg [mo 55 (.move (T 14)),
       mo 56 (.binOp .eql 120 (T 55) (.const (.int .i64 2)) 120)])
     (.cond (T 56) (.seq (rg [mo 57 (.move (T 0)),
        mo 58 (.move (T 1)),
        mo 59 (.move (T 2)),
        mo 60 (.move (T 4)),
        mo 61 (.call ⟨(.value (.func 75)), #[(T 57), (T 58), (T 59), (T 60)], #[24, 3, 3, 101]⟩)])
      (.seq (rg [mo 62 (.move (T 2)),
        mo 63 (.binOp .sub 3 (T 62) (.const (.int .i64 1)) 3),
        mo 64 (.move (T 13)),
        mo 65 (.move (T 1)),
        mo 66 (.binOp .sub 3 (T 64) (T 65) 3),
        mo 67 (.binOp .sub 3 (T 63) (T 66) 3),
        mo 13 (.assign (T 67))])
      (rg [mo 14 (.assign (.const (.int .i64 1)))])))
     (.skip)))
    (.seq (.seq (rg [mo 68 (.move (T 10)),
       mo 69 (.move (T 68)),
       mg 70 1 true (.move (T 11)),
       mo 71 (.pick (T 69) (T 70) (.const (.bool false))),
       mo 72 (.move (T 71)),
       mg 73 4 true (.move (T 14)),
       mg 74 4 true (.binOp .eql 120 (T 73) (.const (.int .i64 1)) 120),
       mo 75 (.pick (T 72) (T 74) (.const (.bool false)))])
     (.cond (T 75) (.seq (rg [mo 76 (.move (T 0)),
        mo 77 (.move (T 1)),
        mo 78 (.move (T 2)),
        mo 79 (.move (T 4)),
        mo 80 (.call ⟨(.value (.func 76)), #[(T 76), (T 77), (T 78), (T 79)], #[24, 3, 3, 101]⟩)])
      (.cond (T 80) (.ret)
      (.skip)))
     (.skip)))
    (.seq (.seq (r64_0)
     (.cond (T 97) (.seq (rg [mo 98 (.move (T 0)),
        mo 99 (.move (T 1)),
        mo 100 (.move (T 2)),
        mo 101 (.move (T 13)),
        mo 102 (.move (T 4)),
        mo 103 (.call ⟨(.value (.func 77)), #[(T 98), (T 99), (T 100), (T 101), (T 102)], #[24, 3, 3, 3, 101]⟩),
        mo 15 (.assign (T 103))])
      (.seq (rg [mo 104 (.move (T 15)),
        mo 1 (.assign (T 104))])
      (.exit 1)))
     (.skip)))
    (.seq (rg [mo 106 (.move (T 0)),
      mo 107 (.move (T 1)),
      mo 108 (.move (T 2)),
      mo 109 (.move (T 13)),
      mo 110 (.move (T 4)),
      mo 111 (.call ⟨(.value (.func 78)), #[(T 106), (T 107), (T 108), (T 109), (T 110)], #[24, 3, 3, 3, 101]⟩),
      mo 105 (.move (T 111)),
      mo 112 (.extract (T 105) 0),
      mo 113 (.extract (T 105) 1),
      mo 16 (.assign (T 112)),
      mo 17 (.assign (T 113))])
    (.seq (rg [mo 114 (.move (T 17)),
      mo 11 (.assign (T 114))])
    (.seq (rg [mo 115 (.move (T 16)),
      mo 116 (.move (T 1)),
      mo 117 (.binOp .sub 3 (T 115) (T 116) 3),
      mo 118 (.move (T 2)),
      mo 119 (.move (T 16)),
      mo 120 (.binOp .sub 3 (T 118) (T 119) 3),
      mo 18 (.assign (T 117)),
      mo 19 (.assign (T 120))])
    (.seq (rg [mo 121 (.move (T 12)),
      mo 122 (.binOp .quo 3 (T 121) (.const (.int .i64 8)) 3),
      mo 20 (.assign (T 122))])
    (.seq (rg [mo 123 (.move (T 18)),
      mo 124 (.move (T 19)),
      mo 125 (.binOp .lss 3 (T 123) (T 124) 3)])
    (.cond (T 125) (.seq (rg [mo 126 (.move (T 18)),
       mo 127 (.move (T 20)),
       mo 128 (.binOp .geq 3 (T 126) (T 127) 3),
       mo 10 (.assign (T 128))])
     (.seq (rg [mo 129 (.move (T 0)),
       mo 130 (.move (T 1)),
       mo 131 (.move (T 16)),
       mo 132 (.move (T 3)),
       mo 133 (.move (T 4)),
       mo 134 (.call ⟨(.value (.func 64)), #[(T 129), (T 130), (T 131), (T 132), (T 133)], #[24, 3, 3, 3, 101]⟩)])
     (rg [mo 135 (.move (T 16)),
      mo 136 (.binOp .add 3 (T 135) (.const (.int .i64 1)) 3),
      mo 1 (.assign (T 136))])))
    (.seq (rg [mo 137 (.move (T 19)),
       mo 138 (.move (T 20)),
       mo 139 (.binOp .geq 3 (T 137) (T 138) 3),
       mo 10 (.assign (T 139))])
     (.seq (rg [mo 140 (.move (T 0)),
       mo 141 (.move (T 16)),
       mo 142 (.binOp .add 3 (T 141) (.const (.int .i64 1)) 3),
       mo 143 (.move (T 2)),
       mo 144 (.move (T 3)),
       mo 145 (.move (T 4)),
       mo 146 (.call ⟨(.value (.func 64)), #[(T 140), (T 142), (T 143), (T 144), (T 145)], #[24, 3, 3, 3, 101]⟩)])
     (rg [mo 147 (.move (T 16)),
      mo 2 (.assign (T 147))])))))))))))))))))))))
theorem body_64 : Try.f64.body.map strip = some c64 := by kernel_rfl
theorem go_64 {args : List Value} {h : DHeap} {R : DEnd → DHeap → Prop} (ha : args.length ≤ 148) (hx : xs Try.prog 148 c64 (XPost Try.prog [] R) ⟨argsFr args 148, [], h, none⟩) : Ct Try.prog 64 args h R :=
  Ct_xs (show Try.prog.funcs[64]? = some Try.f64 by kernel_rfl) body_64 (by kernel_rfl) (by kernel_rfl) ha (by kernel_rfl) hx
/-! math/bits.Len -/
def c65 : Code :=
 .seq (rg [mo 2 (.assign (.const (.int .i64 0)))])
 (.seq (.cond (.const (.bool false)) (.seq (rg [mo 3 (.move (T 0)),
     mo 4 (.convert 110 128 (T 3)),
     mo 5 (.call ⟨(.value (.func 79)), #[(T 4)], #[128]⟩),
     mo 2 (.assign (T 5))])
   (.ret))
  (.skip))
 (.seq (rg [mo 6 (.move (T 0)),
   mo 7 (.call ⟨(.value (.func 80)), #[(T 6)], #[130]⟩),
   mo 2 (.assign (T 7))])
 (.ret)))
theorem body_65 : Try.f65.body.map strip = some c65 := by kernel_rfl
theorem go_65 {args : List Value} {h : DHeap} {R : DEnd → DHeap → Prop} (ha : args.length ≤ 8) (hx : xs Try.prog 8 c65 (XPost Try.prog [(.tmp 2)] R) ⟨argsFr args 8, [], h, none⟩) : Ct Try.prog 65 args h R :=
  Ct_xs (show Try.prog.funcs[65]? = some Try.f65 by kernel_rfl) body_65 (by kernel_rfl) (by kernel_rfl) ha (by kernel_rfl) hx
/-! cmp.Or[int] -/
def c66 : Code :=
 .seq (rg [mo 2 (.assign (.const (.int .i64 0)))])
 (.seq (rg [mo 3 (.assign (.const (.int .i64 0)))])
 (.seq (.seq (rg [mo 6 (.move (T 0)),
    mo 7 (.call ⟨(.builtin .len), #[(T 6)], #[131]⟩),
    mo 8 (.move (.const (.int .i64 0)))])
  (.block 0 (.loop (.seq (rg [mo 9 (.binOp .lss 3 (T 8) (T 7) 3)])
    (.seq (.cond (T 9) (.skip)
     (.exit 0))
    (.seq (.block 1 (.seq (rg [mo 10 (.indexAddr 131 (T 6) (T 8)),
        mo 11 (.load 3 (T 10)),
        mo 5 (.assign (T 11))])
      (.seq (rg [mo 12 (.move (T 5)),
        mo 13 (.move (T 3)),
        mo 14 (.binOp .neq 3 (T 12) (T 13) 3)])
      (.cond (T 14) (.seq (rg [mo 15 (.move (T 5)),
         mo 2 (.assign (T 15))])
       (.ret))
      (.skip)))))
    (rg [mo 16 (.binOp .add 3 (T 8) (.const (.int .i64 1)) 3),
     mo 8 (.move (T 16))])))))))
 (.seq (rg [mo 17 (.move (T 3)),
   mo 2 (.assign (T 17))])
 (.ret))))
theorem body_66 : Try.f66.body.map strip = some c66 := by kernel_rfl
theorem go_66 {args : List Value} {h : DHeap} {R : DEnd → DHeap → Prop} (ha : args.length ≤ 18) (hx : xs Try.prog 18 c66 (XPost Try.prog [(.tmp 2)] R) ⟨argsFr args 18, [], h, none⟩) : Ct Try.prog 66 args h R :=
  Ct_xs (show Try.prog.funcs[66]? = some Try.f66 by kernel_rfl) body_66 (by kernel_rfl) (by kernel_rfl) ha (by kernel_rfl) hx
/-! cmp.Compare[int32] -/
def c67 : Code :=
 .seq (rg [mo 4 (.assign (.const (.int .i64 0)))])
 (.seq (rg [mo 7 (.move (T 0)),
   mo 8 (.call ⟨(.value (.func 81)), #[(T 7)], #[21]⟩),
   mo 5 (.assign (T 8))])
 (.seq (rg [mo 9 (.move (T 1)),
   mo 10 (.call ⟨(.value (.func 81)), #[(T 9)], #[21]⟩),
   mo 6 (.assign (T 10))])
 (.seq (.seq (rg [mo 11 (.move (T 5))])
  (.cond (T 11) (.seq (.seq (rg [mo 12 (.move (T 6))])
    (.cond (T 12) (.seq (rg [mo 4 (.assign (.const (.int .i64 0)))])
     (.ret))
    (.skip)))
   (.seq (rg [mo 4 (.assign (.const (.int .i64 (-1))))])
   (.ret)))
  (.skip)))
 (.seq (.seq (rg [mo 13 (.move (T 6))])
  (.cond (T 13) (.seq (rg [mo 4 (.assign (.const (.int .i64 1)))])
   (.ret))
  (.skip)))
 (.seq (.seq (rg [mo 14 (.move (T 0)),
    mo 15 (.move (T 1)),
    mo 16 (.binOp .lss 21 (T 14) (T 15) 21)])
  (.cond (T 16) (.seq (rg [mo 4 (.assign (.const (.int .i64 (-1))))])
   (.ret))
  (.skip)))
 (.seq (.seq (rg [mo 17 (.move (T 0)),
    mo 18 (.move (T 1)),
    mo 19 (.binOp .gtr 21 (T 17) (T 18) 21)])
  (.cond (T 19) (.seq (rg [mo 4 (.assign (.const (.int .i64 1)))])
   (.ret))
  (.skip)))
 (.seq (rg [mo 4 (.assign (.const (.int .i64 0)))])
 (.ret))))))))
theorem body_67 : Try.f67.body.map strip = some c67 := by kernel_rfl
theorem go_67 {args : List Value} {h : DHeap} {R : DEnd → DHeap → Prop} (ha : args.length ≤ 20) (hx : xs Try.prog 20 c67 (XPost Try.prog [(.tmp 4)] R) ⟨argsFr args 20, [], h, none⟩) : Ct Try.prog 67 args h R :=
  Ct_xs (show Try.prog.funcs[67]? = some Try.f67 by kernel_rfl) body_67 (by kernel_rfl) (by kernel_rfl) ha (by kernel_rfl) hx
/-! cmp.Compare[int64] -/
def c68 : Code :=
 .seq (rg [mo 4 (.assign (.const (.int .i64 0)))])
 (.seq (rg [mo 7 (.move (T 0)),
   mo 8 (.call ⟨(.value (.func 82)), #[(T 7)], #[2]⟩),
   mo 5 (.assign (T 8))])
 (.seq (rg [mo 9 (.move (T 1)),
   mo 10 (.call ⟨(.value (.func 82)), #[(T 9)], #[2]⟩),
   mo 6 (.assign (T 10))])
 (.seq (.seq (rg [mo 11 (.move (T 5))])
  (.cond (T 11) (.seq (.seq (rg [mo 12 (.move (T 6))])
    (.cond (T 12) (.seq (rg [mo 4 (.assign (.const (.int .i64 0)))])
     (.ret))
    (.skip)))
   (.seq (rg [mo 4 (.assign (.const (.int .i64 (-1))))])
   (.ret)))
  (.skip)))
 (.seq (.seq (rg [mo 13 (.move (T 6))])
  (.cond (T 13) (.seq (rg [mo 4 (.assign (.const (.int .i64 1)))])
   (.ret))
  (.skip)))
 (.seq (.seq (rg [mo 14 (.move (T 0)),
    mo 15 (.move (T 1)),
    mo 16 (.binOp .lss 2 (T 14) (T 15) 2)])
  (.cond (T 16) (.seq (rg [mo 4 (.assign (.const (.int .i64 (-1))))])
   (.ret))
  (.skip)))
 (.seq (.seq (rg [mo 17 (.move (T 0)),
    mo 18 (.move (T 1)),
    mo 19 (.binOp .gtr 2 (T 17) (T 18) 2)])
  (.cond (T 19) (.seq (rg [mo 4 (.assign (.const (.int .i64 1)))])
   (.ret))
  (.skip)))
 (.seq (rg [mo 4 (.assign (.const (.int .i64 0)))])
 (.ret))))))))
theorem body_68 : Try.f68.body.map strip = some c68 := by kernel_rfl
theorem go_68 {args : List Value} {h : DHeap} {R : DEnd → DHeap → Prop} (ha : args.length ≤ 20) (hx : xs Try.prog 20 c68 (XPost Try.prog [(.tmp 4)] R) ⟨argsFr args 20, [], h, none⟩) : Ct Try.prog 68 args h R :=
  Ct_xs (show Try.prog.funcs[68]? = some Try.f68 by kernel_rfl) body_68 (by kernel_rfl) (by kernel_rfl) ha (by kernel_rfl) hx
/-! trivet/trivetref13.One -/
/-! trivet/code.One -/
def o70_0 : Array Oper := #[⟨(some 65), (.move (T 12)), 22, "code.go:67", #[], none⟩,
 ⟨(some 66), (.indexAddr 22 (T 65) (.const (.int .i64 0))), 0, "code.go:67", #[⟨0, .data⟩], none⟩,
 ⟨(some 67), (.load 5 (T 66)), 5, "code.go:67", #[⟨1, .data⟩], none⟩,
 ⟨(some 68), (.convert 5 3 (T 67)), 3, "code.go:67", #[⟨2, .data⟩], none⟩,
 ⟨(some 69), (.move (T 12)), 22, "code.go:67", #[], none⟩,
 ⟨(some 70), (.slice 22 (T 69) (some (.const (.int .i64 1))) none none), 22, "code.go:67", #[⟨4, .data⟩], none⟩,
 ⟨(some 71), (.fieldAddr 95 (T 9) 2), 0, "code.go:67", #[⟨0, .phase⟩, ⟨1, .phase⟩, ⟨2, .phase⟩, ⟨3, .phase⟩, ⟨4, (.textOnly Go.Departure.lateStores)⟩, ⟨5, (.textOnly Go.Departure.lateStoresUnsure)⟩], none⟩,
 ⟨none, (.store 3 (T 71) (T 68)), 0, "code.go:67", #[⟨6, .data⟩, ⟨3, .data⟩, ⟨0, .phase⟩, ⟨1, .phase⟩, ⟨2, .phase⟩, ⟨3, .phase⟩, ⟨4, (.textOnly Go.Departure.lateStores)⟩, ⟨5, (.textOnly Go.Departure.lateStoresUnsure)⟩], none⟩,
 ⟨(some 12), (.assign (T 70)), 22, "code.go:67", #[⟨5, .data⟩, ⟨7, .chain⟩, ⟨0, .phase⟩, ⟨1, .phase⟩, ⟨2, .phase⟩, ⟨3, .phase⟩, ⟨4, .phase⟩, ⟨5, .phase⟩, ⟨6, .phase⟩, ⟨7, .phase⟩], none⟩]
def l70_0 : List Oper := [mo 65 (.move (T 12)),
 mo 66 (.indexAddr 22 (T 65) (.const (.int .i64 0))),
 mo 67 (.load 5 (T 66)),
 mo 68 (.convert 5 3 (T 67)),
 mo 69 (.move (T 12)),
 mo 70 (.slice 22 (T 69) (some (.const (.int .i64 1))) none none),
 mo 71 (.fieldAddr 95 (T 9) 2),
 mx (.store 3 (T 71) (T 68)),
 mo 12 (.assign (T 70))]
def r70_0 : Code := .region 10 o70_0 true
def o70_1 : Array Oper := #[⟨(some 75), (.move (T 12)), 22, "code.go:70", #[], none⟩,
 ⟨(some 76), (.indexAddr 22 (T 75) (.const (.int .i64 0))), 0, "code.go:70", #[⟨0, .data⟩], none⟩,
 ⟨(some 77), (.load 5 (T 76)), 5, "code.go:70", #[⟨1, .data⟩], none⟩,
 ⟨(some 78), (.convert 5 3 (T 77)), 3, "code.go:70", #[⟨2, .data⟩], none⟩,
 ⟨(some 79), (.move (T 12)), 22, "code.go:70", #[], none⟩,
 ⟨(some 80), (.slice 22 (T 79) (some (.const (.int .i64 1))) none none), 22, "code.go:70", #[⟨4, .data⟩], none⟩,
 ⟨(some 81), (.fieldAddr 95 (T 9) 3), 0, "code.go:70", #[⟨0, .phase⟩, ⟨1, .phase⟩, ⟨2, .phase⟩, ⟨3, .phase⟩, ⟨4, (.textOnly Go.Departure.lateStores)⟩, ⟨5, (.textOnly Go.Departure.lateStoresUnsure)⟩], none⟩,
 ⟨none, (.store 3 (T 81) (T 78)), 0, "code.go:70", #[⟨6, .data⟩, ⟨3, .data⟩, ⟨0, .phase⟩, ⟨1, .phase⟩, ⟨2, .phase⟩, ⟨3, .phase⟩, ⟨4, (.textOnly Go.Departure.lateStores)⟩, ⟨5, (.textOnly Go.Departure.lateStoresUnsure)⟩], none⟩,
 ⟨(some 12), (.assign (T 80)), 22, "code.go:70", #[⟨5, .data⟩, ⟨7, .chain⟩, ⟨0, .phase⟩, ⟨1, .phase⟩, ⟨2, .phase⟩, ⟨3, .phase⟩, ⟨4, .phase⟩, ⟨5, .phase⟩, ⟨6, .phase⟩, ⟨7, .phase⟩], none⟩]
def l70_1 : List Oper := [mo 75 (.move (T 12)),
 mo 76 (.indexAddr 22 (T 75) (.const (.int .i64 0))),
 mo 77 (.load 5 (T 76)),
 mo 78 (.convert 5 3 (T 77)),
 mo 79 (.move (T 12)),
 mo 80 (.slice 22 (T 79) (some (.const (.int .i64 1))) none none),
 mo 81 (.fieldAddr 95 (T 9) 3),
 mx (.store 3 (T 81) (T 78)),
 mo 12 (.assign (T 80))]
def r70_1 : Code := .region 12 o70_1 true
def o70_2 : Array Oper := #[⟨(some 95), (.move (T 12)), 22, "code.go:76", #[], none⟩,
 ⟨(some 96), (.indexAddr 22 (T 95) (.const (.int .i64 0))), 0, "code.go:76", #[⟨0, .data⟩], none⟩,
 ⟨(some 97), (.load 5 (T 96)), 5, "code.go:76", #[⟨1, .data⟩], none⟩,
 ⟨(some 98), (.convert 5 27 (T 97)), 27, "code.go:76", #[⟨2, .data⟩], none⟩,
 ⟨(some 99), (.move (T 12)), 22, "code.go:76", #[], none⟩,
 ⟨(some 100), (.indexAddr 22 (T 99) (.const (.int .i64 1))), 0, "code.go:76", #[⟨4, .data⟩], none⟩,
 ⟨(some 101), (.load 5 (T 100)), 5, "code.go:76", #[⟨5, .data⟩], none⟩,
 ⟨(some 102), (.convert 5 27 (T 101)), 27, "code.go:76", #[⟨6, .data⟩], none⟩,
 ⟨(some 103), (.binOp .shl 27 (T 102) (.const (.int .u64 8)) 110), 27, "code.go:76", #[⟨7, .data⟩], none⟩,
 ⟨(some 104), (.binOp .or 27 (T 98) (T 103) 27), 27, "code.go:76", #[⟨3, .data⟩, ⟨8, .data⟩], none⟩,
 ⟨(some 105), (.convert 27 137 (T 104)), 137, "code.go:76", #[⟨9, .data⟩], none⟩,
 ⟨(some 106), (.convert 137 2 (T 105)), 2, "code.go:76", #[⟨10, .data⟩], none⟩,
 ⟨(some 107), (.fieldAddr 95 (T 9) 4), 0, "code.go:76", #[⟨0, .phase⟩, ⟨1, .phase⟩, ⟨2, .phase⟩, ⟨3, .phase⟩, ⟨4, .phase⟩, ⟨5, .phase⟩, ⟨6, .phase⟩, ⟨7, .phase⟩, ⟨8, .phase⟩, ⟨9, .phase⟩, ⟨10, .phase⟩, ⟨11, .phase⟩], none⟩,
 ⟨none, (.store 2 (T 107) (T 106)), 0, "code.go:76", #[⟨12, .data⟩, ⟨11, .data⟩, ⟨0, .phase⟩, ⟨1, .phase⟩, ⟨2, .phase⟩, ⟨3, .phase⟩, ⟨4, .phase⟩, ⟨5, .phase⟩, ⟨6, .phase⟩, ⟨7, .phase⟩, ⟨8, .phase⟩, ⟨9, .phase⟩, ⟨10, .phase⟩, ⟨11, .phase⟩], none⟩]
def l70_2 : List Oper := [mo 95 (.move (T 12)),
 mo 96 (.indexAddr 22 (T 95) (.const (.int .i64 0))),
 mo 97 (.load 5 (T 96)),
 mo 98 (.convert 5 27 (T 97)),
 mo 99 (.move (T 12)),
 mo 100 (.indexAddr 22 (T 99) (.const (.int .i64 1))),
 mo 101 (.load 5 (T 100)),
 mo 102 (.convert 5 27 (T 101)),
 mo 103 (.binOp .shl 27 (T 102) (.const (.int .u64 8)) 110),
 mo 104 (.binOp .or 27 (T 98) (T 103) 27),
 mo 105 (.convert 27 137 (T 104)),
 mo 106 (.convert 137 2 (T 105)),
 mo 107 (.fieldAddr 95 (T 9) 4),
 mx (.store 2 (T 107) (T 106))]
def r70_2 : Code := .region 16 o70_2 true
theorem dr_70_2 {Q : DExit → St → Prop} {s : St} (h : XDraw Try.prog l70_2.toArray (befs o70_2.toList []) [] s.fr Q l70_2 0 s []) : NC Try.prog 132 r70_2 Q s :=
  NC.draw (by kernel_rfl) (by kernel_rfl) (by kernel_rfl) rfl (by kernel_rfl) (by kernel_rfl) h
def o70_3 : Array Oper := #[⟨(some 112), (.move (T 12)), 22, "code.go:78", #[], none⟩,
 ⟨(some 113), (.indexAddr 22 (T 112) (.const (.int .i64 0))), 0, "code.go:78", #[⟨0, .data⟩], none⟩,
 ⟨(some 114), (.load 5 (T 113)), 5, "code.go:78", #[⟨1, .data⟩], none⟩,
 ⟨(some 115), (.convert 5 27 (T 114)), 27, "code.go:78", #[⟨2, .data⟩], none⟩,
 ⟨(some 116), (.move (T 12)), 22, "code.go:78", #[], none⟩,
 ⟨(some 117), (.indexAddr 22 (T 116) (.const (.int .i64 1))), 0, "code.go:78", #[⟨4, .data⟩], none⟩,
 ⟨(some 118), (.load 5 (T 117)), 5, "code.go:78", #[⟨5, .data⟩], none⟩,
 ⟨(some 119), (.convert 5 27 (T 118)), 27, "code.go:78", #[⟨6, .data⟩], none⟩,
 ⟨(some 120), (.binOp .shl 27 (T 119) (.const (.int .u64 8)) 110), 27, "code.go:78", #[⟨7, .data⟩], none⟩,
 ⟨(some 121), (.binOp .or 27 (T 115) (T 120) 27), 27, "code.go:78", #[⟨3, .data⟩, ⟨8, .data⟩], none⟩,
 ⟨(some 122), (.convert 27 2 (T 121)), 2, "code.go:78", #[⟨9, .data⟩], none⟩,
 ⟨(some 123), (.fieldAddr 95 (T 9) 4), 0, "code.go:78", #[⟨0, .phase⟩, ⟨1, .phase⟩, ⟨2, .phase⟩, ⟨3, .phase⟩, ⟨4, .phase⟩, ⟨5, .phase⟩, ⟨6, .phase⟩, ⟨7, .phase⟩, ⟨8, .phase⟩, ⟨9, .phase⟩, ⟨10, .phase⟩], none⟩,
 ⟨none, (.store 2 (T 123) (T 122)), 0, "code.go:78", #[⟨11, .data⟩, ⟨10, .data⟩, ⟨0, .phase⟩, ⟨1, .phase⟩, ⟨2, .phase⟩, ⟨3, .phase⟩, ⟨4, .phase⟩, ⟨5, .phase⟩, ⟨6, .phase⟩, ⟨7, .phase⟩, ⟨8, .phase⟩, ⟨9, .phase⟩, ⟨10, .phase⟩], none⟩]
def l70_3 : List Oper := [mo 112 (.move (T 12)),
 mo 113 (.indexAddr 22 (T 112) (.const (.int .i64 0))),
 mo 114 (.load 5 (T 113)),
 mo 115 (.convert 5 27 (T 114)),
 mo 116 (.move (T 12)),
 mo 117 (.indexAddr 22 (T 116) (.const (.int .i64 1))),
 mo 118 (.load 5 (T 117)),
 mo 119 (.convert 5 27 (T 118)),
 mo 120 (.binOp .shl 27 (T 119) (.const (.int .u64 8)) 110),
 mo 121 (.binOp .or 27 (T 115) (T 120) 27),
 mo 122 (.convert 27 2 (T 121)),
 mo 123 (.fieldAddr 95 (T 9) 4),
 mx (.store 2 (T 123) (T 122))]
def r70_3 : Code := .region 18 o70_3 true
theorem dr_70_3 {Q : DExit → St → Prop} {s : St} (h : XDraw Try.prog l70_3.toArray (befs o70_3.toList []) [] s.fr Q l70_3 0 s []) : NC Try.prog 132 r70_3 Q s :=
  NC.draw (by kernel_rfl) (by kernel_rfl) (by kernel_rfl) rfl (by kernel_rfl) (by kernel_rfl) h
def c70 : Code :=
 .seq (rg [mo 4 (.alloc 95),
   mo 5 (.assign (.const (.int .i64 0))),
   mo 6 (.assign (.const (.int .i64 0)))])
 (.seq (.seq (rg [mo 13 (.move (T 1)),
    mo 14 (.binOp .lss 3 (T 13) (.const (.int .i64 0)) 3),
    mo 15 (.move (T 14)),
    mg 16 2 false (.move (T 1)),
    mg 17 2 false (.move (T 0)),
    mg 18 2 false (.call ⟨(.builtin .len), #[(T 17)], #[22]⟩),
    mg 19 2 false (.binOp .geq 3 (T 16) (T 18) 3),
    mo 20 (.pick (T 15) (.const (.bool true)) (T 19))])
  (.cond (T 20) (.seq (rg [mo 21 (.build 95 #[]),
     mx (.store 95 (T 4) (T 21)),
     mo 5 (.assign (.const (.int .i64 0))),
     mo 6 (.assign (.const (.int .i64 130)))])
   (.ret))
  (.skip)))
 (.seq (rg [mo 23 (.move (T 0)),
   mo 24 (.move (T 1)),
   mo 25 (.indexAddr 22 (T 23) (T 24)),
   mo 26 (.load 5 (T 25)),
   mo 27 (.convert 5 3 (T 26)),
   mo 28 (.call ⟨(.value (.func 88)), #[(T 27)], #[3]⟩),
   mo 22 (.move (T 28)),
   mo 29 (.extract (T 22) 0),
   mo 30 (.extract (T 22) 1),
   mo 7 (.assign (T 29)),
   mo 8 (.assign (T 30))])
 (.seq (.seq (rg [mo 31 (.move (T 8)),
    mo 32 (.unOp .not 4 (T 31)),
    mo 33 (.move (T 32)),
    mg 34 2 false (.move (T 7)),
    mg 35 2 false (.move (T 0)),
    mg 36 2 false (.call ⟨(.builtin .len), #[(T 35)], #[22]⟩),
    mg 37 2 false (.move (T 1)),
    mg 38 2 false (.binOp .sub 3 (T 36) (T 37) 3),
    mg 39 2 false (.binOp .gtr 3 (T 34) (T 38) 3),
    mo 40 (.pick (T 33) (.const (.bool true)) (T 39))])
  (.cond (T 40) (.seq (rg [mo 41 (.build 95 #[]),
     mx (.store 95 (T 4) (T 41)),
     mo 5 (.assign (.const (.int .i64 0))),
     mo 6 (.assign (.const (.int .i64 130)))])
   (.ret))
  (.skip)))
 (.seq (rg [mo 42 (.move (T 1)),
   mo 43 (.move (T 0)),
   mo 44 (.move (T 1)),
   mo 45 (.indexAddr 22 (T 43) (T 44)),
   mo 46 (.load 5 (T 45)),
   mo 47 (.convert 5 3 (T 46)),
   mo 48 (.build 95 #[(0, (T 42)), (1, (T 47))]),
   mo 9 (.alloc 95),
   mx (.store 95 (T 9) (T 48))])
 (.seq (rg [mo 50 (.fieldAddr 95 (T 9) 1),
   mo 51 (.load 3 (T 50)),
   mo 52 (.call ⟨(.value (.func 89)), #[(T 51)], #[3]⟩),
   mo 49 (.move (T 52)),
   mo 53 (.extract (T 49) 0),
   mo 54 (.extract (T 49) 1),
   mo 10 (.assign (T 53)),
   mo 11 (.assign (T 54))])
 (.seq (rg [mo 55 (.move (T 0)),
   mo 56 (.move (T 1)),
   mo 57 (.binOp .add 3 (T 56) (.const (.int .i64 1)) 3),
   mo 58 (.move (T 1)),
   mo 59 (.move (T 7)),
   mo 60 (.binOp .add 3 (T 58) (T 59) 3),
   mo 61 (.slice 22 (T 55) (some (T 57)) (some (T 60)) none),
   mo 12 (.assign (T 61))])
 (.seq (.seq (rg [mo 62 (.move (T 10)),
    mo 63 (.binOp .and 3 (T 62) (.const (.int .i64 1)) 3),
    mo 64 (.binOp .neq 3 (T 63) (.const (.int .i64 0)) 3)])
  (.cond (T 64) (r70_0)
  (.skip)))
 (.seq (.seq (rg [mo 72 (.move (T 10)),
    mo 73 (.binOp .and 3 (T 72) (.const (.int .i64 2)) 3),
    mo 74 (.binOp .neq 3 (T 73) (.const (.int .i64 0)) 3)])
  (.cond (T 74) (r70_1)
  (.skip)))
 (.seq (.block 0 (.seq (rg [mo 83 (.move (T 10)),
     mo 84 (.binOp .and 3 (T 83) (.const (.int .i64 4)) 3),
     mo 85 (.binOp .neq 3 (T 84) (.const (.int .i64 0)) 3),
     mo 82 (.assign (T 85))])
   (.cond (T 82) (rg [mo 86 (.move (T 12)),
     mo 87 (.indexAddr 22 (T 86) (.const (.int .i64 0))),
     mo 88 (.load 5 (T 87)),
     mo 89 (.convert 5 2 (T 88)),
     mo 90 (.fieldAddr 95 (T 9) 4),
     mx (.store 2 (T 90) (T 89))])
   (.seq (rg [mo 92 (.move (T 10)),
      mo 93 (.binOp .and 3 (T 92) (.const (.int .i64 8)) 3),
      mo 94 (.binOp .neq 3 (T 93) (.const (.int .i64 0)) 3),
      mo 91 (.assign (T 94))])
    (.cond (T 91) (r70_2)
    (.seq (rg [mo 109 (.move (T 10)),
       mo 110 (.binOp .and 3 (T 109) (.const (.int .i64 16)) 3),
       mo 111 (.binOp .neq 3 (T 110) (.const (.int .i64 0)) 3),
       mo 108 (.assign (T 111))])
     (.cond (T 108) (r70_3)
     (.skip))))))))
 (.seq (.seq (rg [mo 124 (.load 95 (T 9)),
    mo 125 (.call ⟨(.value (.func 90)), #[(T 124)], #[95]⟩),
    mo 126 (.unOp .not 4 (T 125))])
  (.cond (T 126) (.seq (rg [mo 127 (.build 95 #[]),
     mx (.store 95 (T 4) (T 127)),
     mo 5 (.assign (.const (.int .i64 0))),
     mo 6 (.assign (.const (.int .i64 132)))])
   (.ret))
  (.skip)))
 (.seq (rg [mo 128 (.load 95 (T 9)),
   mo 129 (.move (T 1)),
   mo 130 (.move (T 7)),
   mo 131 (.binOp .add 3 (T 129) (T 130) 3),
   mx (.store 95 (T 4) (T 128)),
   mo 5 (.assign (T 131)),
   mo 6 (.assign (.const (.int .i64 0)))])
 (.ret))))))))))))
theorem body_70 : Try.f70.body.map strip = some c70 := by kernel_rfl
theorem go_70 {args : List Value} {h : DHeap} {R : DEnd → DHeap → Prop} (ha : args.length ≤ 132) (hx : xs Try.prog 132 c70 (XPost Try.prog [(.cell 4 95), (.tmp 5), (.tmp 6)] R) ⟨argsFr args 132, [], h, none⟩) : Ct Try.prog 70 args h R :=
  Ct_xs (show Try.prog.funcs[70]? = some Try.f70 by kernel_rfl) body_70 (by kernel_rfl) (by kernel_rfl) ha (by kernel_rfl) hx
/-! slices.insertionSortCmpFunc[trivet/api.Key] -/
def o71_0 : Array Oper := #[⟨(some 18), (.move (T 9)), 3, "zsortanyfunc.go:12", #[], none⟩,
 ⟨(some 19), (.move (T 1)), 3, "zsortanyfunc.go:12", #[], none⟩,
 ⟨(some 20), (.binOp .gtr 3 (T 18) (T 19) 3), 4, "zsortanyfunc.go:12", #[⟨0, .data⟩, ⟨1, .data⟩], none⟩,
 ⟨(some 21), (.move (T 20)), 4, "zsortanyfunc.go:12", #[⟨2, .data⟩], none⟩,
 ⟨(some 22), (.move (T 3)), 101, "zsortanyfunc.go:12", #[⟨3, .guard⟩], (some (3, true))⟩,
 ⟨(some 23), (.move (T 0)), 24, "zsortanyfunc.go:12", #[⟨3, .guard⟩], (some (3, true))⟩,
 ⟨(some 24), (.move (T 9)), 3, "zsortanyfunc.go:12", #[⟨3, .guard⟩], (some (3, true))⟩,
 ⟨(some 25), (.indexAddr 24 (T 23) (T 24)), 0, "zsortanyfunc.go:12", #[⟨5, .data⟩, ⟨6, .data⟩, ⟨3, .guard⟩], (some (3, true))⟩,
 ⟨(some 26), (.load 54 (T 25)), 54, "zsortanyfunc.go:12", #[⟨7, .data⟩, ⟨3, .guard⟩], (some (3, true))⟩,
 ⟨(some 27), (.move (T 0)), 24, "zsortanyfunc.go:12", #[⟨3, .guard⟩], (some (3, true))⟩,
 ⟨(some 28), (.move (T 9)), 3, "zsortanyfunc.go:12", #[⟨3, .guard⟩], (some (3, true))⟩,
 ⟨(some 29), (.binOp .sub 3 (T 28) (.const (.int .i64 1)) 3), 3, "zsortanyfunc.go:12", #[⟨10, .data⟩, ⟨3, .guard⟩], (some (3, true))⟩,
 ⟨(some 30), (.indexAddr 24 (T 27) (T 29)), 0, "zsortanyfunc.go:12", #[⟨9, .data⟩, ⟨11, .data⟩, ⟨3, .guard⟩], (some (3, true))⟩,
 ⟨(some 31), (.load 54 (T 30)), 54, "zsortanyfunc.go:12", #[⟨12, .data⟩, ⟨3, .guard⟩], (some (3, true))⟩,
 ⟨(some 32), (.call ⟨(.value (T 22)), #[(T 26), (T 31)], #[54, 54]⟩), 3, "zsortanyfunc.go:12", #[⟨4, .data⟩, ⟨8, .data⟩, ⟨13, .data⟩, ⟨3, .chain⟩, ⟨3, .guard⟩], (some (3, true))⟩,
 ⟨(some 33), (.binOp .lss 3 (T 32) (.const (.int .i64 0)) 3), 4, "zsortanyfunc.go:12", #[⟨14, .data⟩, ⟨3, .guard⟩], (some (3, true))⟩,
 ⟨(some 34), (.pick (T 21) (T 33) (.const (.bool false))), 4, "zsortanyfunc.go:12", #[⟨3, .data⟩, ⟨15, .data⟩], none⟩]
def r71_0 : Code := .region 4 o71_0 true
def o71_1 : Array Oper := #[⟨(some 37), (.move (T 0)), 24, "zsortanyfunc.go:13", #[], none⟩,
 ⟨(some 38), (.move (T 9)), 3, "zsortanyfunc.go:13", #[], none⟩,
 ⟨(some 39), (.move (T 0)), 24, "zsortanyfunc.go:13", #[⟨15, (.gcOnly Go.Departure.lateStores)⟩], none⟩,
 ⟨(some 40), (.move (T 9)), 3, "zsortanyfunc.go:13", #[⟨15, (.gcOnly Go.Departure.lateStores)⟩], none⟩,
 ⟨(some 41), (.binOp .sub 3 (T 40) (.const (.int .i64 1)) 3), 3, "zsortanyfunc.go:13", #[⟨3, .data⟩, ⟨15, (.gcOnly Go.Departure.lateStores)⟩], none⟩,
 ⟨(some 42), (.move (T 0)), 24, "zsortanyfunc.go:13", #[], none⟩,
 ⟨(some 43), (.move (T 9)), 3, "zsortanyfunc.go:13", #[], none⟩,
 ⟨(some 44), (.binOp .sub 3 (T 43) (.const (.int .i64 1)) 3), 3, "zsortanyfunc.go:13", #[⟨6, .data⟩], none⟩,
 ⟨(some 45), (.indexAddr 24 (T 42) (T 44)), 0, "zsortanyfunc.go:13", #[⟨5, .data⟩, ⟨7, .data⟩], none⟩,
 ⟨(some 46), (.load 54 (T 45)), 54, "zsortanyfunc.go:13", #[⟨8, .data⟩], none⟩,
 ⟨(some 47), (.move (T 0)), 24, "zsortanyfunc.go:13", #[], none⟩,
 ⟨(some 48), (.move (T 9)), 3, "zsortanyfunc.go:13", #[], none⟩,
 ⟨(some 49), (.indexAddr 24 (T 47) (T 48)), 0, "zsortanyfunc.go:13", #[⟨10, .data⟩, ⟨11, .data⟩], none⟩,
 ⟨(some 50), (.load 54 (T 49)), 54, "zsortanyfunc.go:13", #[⟨12, .data⟩], none⟩,
 ⟨(some 51), (.indexAddr 24 (T 37) (T 38)), 0, "zsortanyfunc.go:13", #[⟨0, .data⟩, ⟨1, .data⟩, ⟨0, .phase⟩, ⟨1, .phase⟩, ⟨2, (.textOnly Go.Departure.lateStores)⟩, ⟨3, (.textOnly Go.Departure.lateStores)⟩, ⟨4, (.textOnly Go.Departure.lateStores)⟩, ⟨5, .phase⟩, ⟨6, .phase⟩, ⟨7, .phase⟩, ⟨8, .phase⟩, ⟨9, .phase⟩, ⟨10, (.textOnly Go.Departure.lateStores)⟩, ⟨11, (.textOnly Go.Departure.lateStores)⟩, ⟨12, (.textOnly Go.Departure.lateStoresUnsure)⟩, ⟨13, .phase⟩], none⟩,
 ⟨none, (.store 54 (T 51) (T 46)), 0, "zsortanyfunc.go:13", #[⟨14, .data⟩, ⟨9, .data⟩, ⟨0, .phase⟩, ⟨1, .phase⟩, ⟨2, (.textOnly Go.Departure.lateStores)⟩, ⟨3, (.textOnly Go.Departure.lateStores)⟩, ⟨4, (.textOnly Go.Departure.lateStores)⟩, ⟨5, .phase⟩, ⟨6, .phase⟩, ⟨7, .phase⟩, ⟨8, .phase⟩, ⟨9, .phase⟩, ⟨10, (.textOnly Go.Departure.lateStores)⟩, ⟨11, (.textOnly Go.Departure.lateStores)⟩, ⟨12, (.textOnly Go.Departure.lateStoresUnsure)⟩, ⟨13, .phase⟩], none⟩,
 ⟨(some 52), (.indexAddr 24 (T 39) (T 41)), 0, "zsortanyfunc.go:13", #[⟨2, .data⟩, ⟨4, .data⟩, ⟨0, .phase⟩, ⟨1, .phase⟩, ⟨2, .phase⟩, ⟨3, .phase⟩, ⟨4, .phase⟩, ⟨5, .phase⟩, ⟨6, .phase⟩, ⟨7, .phase⟩, ⟨8, .phase⟩, ⟨9, .phase⟩, ⟨10, .phase⟩, ⟨11, .phase⟩, ⟨12, .phase⟩, ⟨13, .phase⟩, ⟨14, .phase⟩, ⟨15, .phase⟩], none⟩,
 ⟨none, (.store 54 (T 52) (T 50)), 0, "zsortanyfunc.go:13", #[⟨16, .data⟩, ⟨13, .data⟩, ⟨15, .chain⟩, ⟨0, .phase⟩, ⟨1, .phase⟩, ⟨2, .phase⟩, ⟨3, .phase⟩, ⟨4, .phase⟩, ⟨5, .phase⟩, ⟨6, .phase⟩, ⟨7, .phase⟩, ⟨8, .phase⟩, ⟨9, .phase⟩, ⟨10, .phase⟩, ⟨11, .phase⟩, ⟨12, .phase⟩, ⟨13, .phase⟩, ⟨14, .phase⟩, ⟨15, .phase⟩], none⟩]
def r71_1 : Code := .region 6 o71_1 true
def c71 : Code :=
 .seq (rg [mo 10 (.move (T 1)),
   mo 11 (.binOp .add 3 (T 10) (.const (.int .i64 1)) 3),
   mo 8 (.assign (T 11))])
 (.block 0 (.loop (.seq (.seq (rg [mo 12 (.move (T 8)),
      mo 13 (.move (T 2)),
      mo 14 (.binOp .lss 3 (T 12) (T 13) 3)])
    (.cond (T 14) (.skip)
    (.exit 0)))
   (.seq (.block 1 (.seq (rg [mo 17 (.move (T 8)),
       mo 9 (.assign (T 17))])
     (.block 2 (.loop (.seq (.seq (r71_0)
        (.cond (T 34) (.skip)
        (.exit 2)))
       (.seq (.block 3 (r71_1))
       (rg [mo 35 (.move (T 9)),
        mo 36 (.binOp .sub 3 (T 35) (.const (.int .i64 1)) 3),
        mo 9 (.assign (T 36))])))))))
   (rg [mo 15 (.move (T 8)),
    mo 16 (.binOp .add 3 (T 15) (.const (.int .i64 1)) 3),
    mo 8 (.assign (T 16))])))))
theorem body_71 : Try.f71.body.map strip = some c71 := by kernel_rfl
theorem go_71 {args : List Value} {h : DHeap} {R : DEnd → DHeap → Prop} (ha : args.length ≤ 53) (hx : xs Try.prog 53 c71 (XPost Try.prog [] R) ⟨argsFr args 53, [], h, none⟩) : Ct Try.prog 71 args h R :=
  Ct_xs (show Try.prog.funcs[71]? = some Try.f71 by kernel_rfl) body_71 (by kernel_rfl) (by kernel_rfl) ha (by kernel_rfl) hx
end Go.Proofs.Ytbdljpndncohaaa

namespace Go.Proofs.Ytbdljpndncohaaa
open Go.D
set_option maxRecDepth 100000
/-! math/bits.Len64 -/
def c80 : Code :=
 .seq (rg [mo 2 (.assign (.const (.int .i64 0)))])
 (.seq (.seq (rg [mo 3 (.move (T 0)),
    mo 4 (.binOp .geq 130 (T 3) (.const (.int .u64 4294967296)) 130)])
  (.cond (T 4) (.seq (rg [mo 5 (.move (T 0)),
     mo 6 (.binOp .shr 130 (T 5) (.const (.int .u64 32)) 110),
     mo 0 (.assign (T 6))])
   (rg [mo 2 (.assign (.const (.int .i64 32)))]))
  (.skip)))
 (.seq (.seq (rg [mo 7 (.move (T 0)),
    mo 8 (.binOp .geq 130 (T 7) (.const (.int .u64 65536)) 130)])
  (.cond (T 8) (.seq (rg [mo 9 (.move (T 0)),
     mo 10 (.binOp .shr 130 (T 9) (.const (.int .u64 16)) 110),
     mo 0 (.assign (T 10))])
   (rg [mo 11 (.move (T 2)),
    mo 12 (.binOp .add 3 (T 11) (.const (.int .i64 16)) 3),
    mo 2 (.assign (T 12))]))
  (.skip)))
 (.seq (.seq (rg [mo 13 (.move (T 0)),
    mo 14 (.binOp .geq 130 (T 13) (.const (.int .u64 256)) 130)])
  (.cond (T 14) (.seq (rg [mo 15 (.move (T 0)),
     mo 16 (.binOp .shr 130 (T 15) (.const (.int .u64 8)) 110),
     mo 0 (.assign (T 16))])
   (rg [mo 17 (.move (T 2)),
    mo 18 (.binOp .add 3 (T 17) (.const (.int .i64 8)) 3),
    mo 2 (.assign (T 18))]))
  (.skip)))
 (.seq (rg [mo 19 (.move (T 2)),
   mo 20 (.move (T 0)),
   mo 21 (.convert 130 5 (T 20)),
   mo 22 (.index 9 (.const (.string (ByteArray.mk (List.toArray (List.append (List.append [0, 1, 2, 2, 3, 3, 3, 3, 4, 4, 4, 4, 4, 4, 4, 4, 5, 5, 5, 5, 5, 5, 5, 5, 5, 5, 5, 5, 5, 5, 5, 5, 6, 6, 6, 6, 6, 6, 6, 6, 6, 6, 6, 6, 6, 6, 6, 6, 6, 6, 6, 6, 6, 6, 6, 6, 6, 6, 6, 6, 6, 6, 6, 6] [7, 7, 7, 7, 7, 7, 7, 7, 7, 7, 7, 7, 7, 7, 7, 7, 7, 7, 7, 7, 7, 7, 7, 7, 7, 7, 7, 7, 7, 7, 7, 7, 7, 7, 7, 7, 7, 7, 7, 7, 7, 7, 7, 7, 7, 7, 7, 7, 7, 7, 7, 7, 7, 7, 7, 7, 7, 7, 7, 7, 7, 7, 7, 7]) (List.append [8, 8, 8, 8, 8, 8, 8, 8, 8, 8, 8, 8, 8, 8, 8, 8, 8, 8, 8, 8, 8, 8, 8, 8, 8, 8, 8, 8, 8, 8, 8, 8, 8, 8, 8, 8, 8, 8, 8, 8, 8, 8, 8, 8, 8, 8, 8, 8, 8, 8, 8, 8, 8, 8, 8, 8, 8, 8, 8, 8, 8, 8, 8, 8] [8, 8, 8, 8, 8, 8, 8, 8, 8, 8, 8, 8, 8, 8, 8, 8, 8, 8, 8, 8, 8, 8, 8, 8, 8, 8, 8, 8, 8, 8, 8, 8, 8, 8, 8, 8, 8, 8, 8, 8, 8, 8, 8, 8, 8, 8, 8, 8, 8, 8, 8, 8, 8, 8, 8, 8, 8, 8, 8, 8, 8, 8, 8, 8])))))) (T 21)),
   mo 23 (.convert 5 3 (T 22)),
   mo 24 (.binOp .add 3 (T 19) (T 23) 3),
   mo 2 (.assign (T 24))])
 (.ret)))))
theorem body_80 : Try.f80.body.map strip = some c80 := by kernel_rfl
theorem go_80 {args : List Value} {h : DHeap} {R : DEnd → DHeap → Prop} (ha : args.length ≤ 25) (hx : xs Try.prog 25 c80 (XPost Try.prog [(.tmp 2)] R) ⟨argsFr args 25, [], h, none⟩) : Ct Try.prog 80 args h R :=
  Ct_xs (show Try.prog.funcs[80]? = some Try.f80 by kernel_rfl) body_80 (by kernel_rfl) (by kernel_rfl) ha (by kernel_rfl) hx
/-! cmp.isNaN[int32] -/
def c81 : Code :=
 .seq (rg [mo 2 (.assign (.const (.bool false)))])
 (.seq (rg [mo 3 (.move (T 0)),
   mo 4 (.move (T 0)),
   mo 5 (.binOp .neq 21 (T 3) (T 4) 21),
   mo 2 (.assign (T 5))])
 (.ret))
theorem body_81 : Try.f81.body.map strip = some c81 := by kernel_rfl
theorem go_81 {args : List Value} {h : DHeap} {R : DEnd → DHeap → Prop} (ha : args.length ≤ 6) (hx : xs Try.prog 6 c81 (XPost Try.prog [(.tmp 2)] R) ⟨argsFr args 6, [], h, none⟩) : Ct Try.prog 81 args h R :=
  Ct_xs (show Try.prog.funcs[81]? = some Try.f81 by kernel_rfl) body_81 (by kernel_rfl) (by kernel_rfl) ha (by kernel_rfl) hx
/-! cmp.isNaN[int64] -/
def c82 : Code :=
 .seq (rg [mo 2 (.assign (.const (.bool false)))])
 (.seq (rg [mo 3 (.move (T 0)),
   mo 4 (.move (T 0)),
   mo 5 (.binOp .neq 2 (T 3) (T 4) 2),
   mo 2 (.assign (T 5))])
 (.ret))
theorem body_82 : Try.f82.body.map strip = some c82 := by kernel_rfl
theorem go_82 {args : List Value} {h : DHeap} {R : DEnd → DHeap → Prop} (ha : args.length ≤ 6) (hx : xs Try.prog 6 c82 (XPost Try.prog [(.tmp 2)] R) ⟨argsFr args 6, [], h, none⟩) : Ct Try.prog 82 args h R :=
  Ct_xs (show Try.prog.funcs[82]? = some Try.f82 by kernel_rfl) body_82 (by kernel_rfl) (by kernel_rfl) ha (by kernel_rfl) hx
/-! trivet/trivetref13.Size -/
/-! trivet/trivetref13.first -/
/-! trivet/trivetref13.two -/
/-! trivet/trivetref13.wide -/
/-! trivet/trivetref13.index -/
/-! trivet/code.Size -/
def c88 : Code :=
 .seq (rg [mo 2 (.assign (.const (.int .i64 0))),
   mo 3 (.assign (.const (.bool false)))])
 (.seq (rg [mo 10 (.move (T 0)),
   mo 11 (.call ⟨(.value (.func 89)), #[(T 10)], #[3]⟩),
   mo 9 (.move (T 11)),
   mo 12 (.extract (T 9) 0),
   mo 13 (.extract (T 9) 1),
   mo 4 (.assign (T 12)),
   mo 5 (.assign (T 13))])
 (.seq (.seq (rg [mo 14 (.move (T 5)),
    mo 15 (.unOp .not 4 (T 14))])
  (.cond (T 15) (.seq (rg [mo 2 (.assign (.const (.int .i64 0))),
     mo 3 (.assign (.const (.bool false)))])
   (.ret))
  (.skip)))
 (.seq (rg [mo 6 (.assign (.const (.int .i64 1)))])
 (.seq (.seq (rg [mo 16 (.build 144 #[(0, (.const (.int .i64 1))), (1, (.const (.int .i64 1)))]),
    mo 17 (.build 144 #[(0, (.const (.int .i64 2))), (1, (.const (.int .i64 1)))]),
    mo 18 (.build 144 #[(0, (.const (.int .i64 4))), (1, (.const (.int .i64 1)))]),
    mo 19 (.build 144 #[(0, (.const (.int .i64 8))), (1, (.const (.int .i64 2)))]),
    mo 20 (.build 144 #[(0, (.const (.int .i64 16))), (1, (.const (.int .i64 2)))]),
    mo 21 (.build 145 #[(0, (T 16)), (1, (T 17)), (2, (T 18)), (3, (T 19)), (4, (T 20))]),
    mo 22 (.move (.const (.int .i64 0)))])
  (.block 0 (.loop (.seq (rg [mo 23 (.binOp .lss 3 (T 22) (.const (.int .i64 5)) 3)])
    (.seq (.cond (T 23) (.skip)
     (.exit 0))
    (.seq (.block 1 (.seq (rg [mo 24 (.index 145 (T 21) (T 22)),
        mo 8 (.alloc 144),
        mx (.store 144 (T 8) (T 24))])
      (.seq (rg [mo 25 (.move (T 4)),
        mo 26 (.indexAddr 144 (T 8) (.const (.int .i64 0))),
        mo 27 (.load 3 (T 26)),
        mo 28 (.binOp .and 3 (T 25) (T 27) 3),
        mo 29 (.binOp .neq 3 (T 28) (.const (.int .i64 0)) 3)])
      (.cond (T 29) (rg [mo 30 (.move (T 6)),
        mo 31 (.indexAddr 144 (T 8) (.const (.int .i64 1))),
        mo 32 (.load 3 (T 31)),
        mo 33 (.binOp .add 3 (T 30) (T 32) 3),
        mo 6 (.assign (T 33))])
      (.skip)))))
    (rg [mo 34 (.binOp .add 3 (T 22) (.const (.int .i64 1)) 3),
     mo 22 (.move (T 34))])))))))
 (.seq (rg [mo 35 (.move (T 6)),
   mo 2 (.assign (T 35)),
   mo 3 (.assign (.const (.bool true)))])
 (.ret))))))
theorem body_88 : Try.f88.body.map strip = some c88 := by kernel_rfl
theorem go_88 {args : List Value} {h : DHeap} {R : DEnd → DHeap → Prop} (ha : args.length ≤ 36) (hx : xs Try.prog 36 c88 (XPost Try.prog [(.tmp 2), (.tmp 3)] R) ⟨argsFr args 36, [], h, none⟩) : Ct Try.prog 88 args h R :=
  Ct_xs (show Try.prog.funcs[88]? = some Try.f88 by kernel_rfl) body_88 (by kernel_rfl) (by kernel_rfl) ha (by kernel_rfl) hx
/-! trivet/code.form -/
def c89 : Code :=
 .seq (rg [mo 2 (.assign (.const (.int .i64 0))),
   mo 3 (.assign (.const (.bool false)))])
 (.seq (rg [mo 5 (.build 146 #[(0, (.const (.int .i64 0))), (1, (.const (.int .i64 9))), (2, (.const (.int .i64 5))), (3, (.const (.int .i64 5))), (4, (.const (.int .i64 5))), (5, (.const (.int .i64 5))), (6, (.const (.int .i64 4))), (7, (.const (.int .i64 3))), (8, (.const (.int .i64 3))), (9, (.const (.int .i64 3))), (10, (.const (.int .i64 3))), (11, (.const (.int .i64 3))), (12, (.const (.int .i64 3))), (13, (.const (.int .i64 3))), (14, (.const (.int .i64 3))), (15, (.const (.int .i64 3))), (16, (.const (.int .i64 3))), (17, (.const (.int .i64 3))), (18, (.const (.int .i64 3))), (19, (.const (.int .i64 5))), (20, (.const (.int .i64 3))), (21, (.const (.int .i64 3))), (22, (.const (.int .i64 16))), (23, (.const (.int .i64 17))), (24, (.const (.int .i64 1))), (25, (.const (.int .i64 4))), (26, (.const (.int .i64 7))), (27, (.const (.int .i64 7)))]),
   mo 4 (.alloc 146),
   mx (.store 146 (T 4) (T 5))])
 (.seq (.seq (rg [mo 6 (.move (T 0)),
    mo 7 (.binOp .lss 3 (T 6) (.const (.int .i64 0)) 3),
    mo 8 (.move (T 7)),
    mg 9 2 false (.move (T 0)),
    mg 10 2 false (.binOp .geq 3 (T 9) (.const (.int .i64 28)) 3),
    mo 11 (.pick (T 8) (.const (.bool true)) (T 10))])
  (.cond (T 11) (.seq (rg [mo 2 (.assign (.const (.int .i64 0))),
     mo 3 (.assign (.const (.bool false)))])
   (.ret))
  (.skip)))
 (.seq (rg [mo 12 (.move (T 0)),
   mo 13 (.indexAddr 146 (T 4) (T 12)),
   mo 14 (.load 3 (T 13)),
   mo 2 (.assign (T 14)),
   mo 3 (.assign (.const (.bool true)))])
 (.ret))))
theorem body_89 : Try.f89.body.map strip = some c89 := by kernel_rfl
theorem go_89 {args : List Value} {h : DHeap} {R : DEnd → DHeap → Prop} (ha : args.length ≤ 15) (hx : xs Try.prog 15 c89 (XPost Try.prog [(.tmp 2), (.tmp 3)] R) ⟨argsFr args 15, [], h, none⟩) : Ct Try.prog 89 args h R :=
  Ct_xs (show Try.prog.funcs[89]? = some Try.f89 by kernel_rfl) body_89 (by kernel_rfl) (by kernel_rfl) ha (by kernel_rfl) hx
/-! trivet/code.index -/
def c90 : Code :=
 .seq (rg [mo 1 (.box 95 (T 0)),
   mo 2 (.assign (.const (.bool false)))])
 (.seq (rg [mo 3 (.fieldAddr 95 (T 1) 2),
   mo 4 (.load 3 (T 3)),
   mo 5 (.binOp .geq 3 (T 4) (.const (.int .i64 0)) 3),
   mo 6 (.move (T 5)),
   mg 7 3 true (.fieldAddr 95 (T 1) 2),
   mg 8 3 true (.load 3 (T 7)),
   mg 9 3 true (.binOp .lss 3 (T 8) (.const (.int .i64 8)) 3),
   mo 10 (.pick (T 6) (T 9) (.const (.bool false))),
   mo 11 (.move (T 10)),
   mg 12 8 true (.fieldAddr 95 (T 1) 3),
   mg 13 8 true (.load 3 (T 12)),
   mg 14 8 true (.binOp .geq 3 (T 13) (.const (.int .i64 0)) 3),
   mo 15 (.pick (T 11) (T 14) (.const (.bool false))),
   mo 16 (.move (T 15)),
   mg 17 13 true (.fieldAddr 95 (T 1) 3),
   mg 18 13 true (.load 3 (T 17)),
   mg 19 13 true (.binOp .lss 3 (T 18) (.const (.int .i64 8)) 3),
   mo 20 (.pick (T 16) (T 19) (.const (.bool false))),
   mo 21 (.move (T 20)),
   mg 22 18 true (.fieldAddr 95 (T 1) 1),
   mg 23 18 true (.load 3 (T 22)),
   mg 24 18 true (.binOp .neq 3 (T 23) (.const (.int .i64 19)) 3),
   mg 25 18 true (.move (T 24)),
   mg 26 22 false (.fieldAddr 95 (T 1) 4),
   mg 27 22 false (.load 2 (T 26)),
   mg 28 22 false (.binOp .eql 2 (T 27) (.const (.int .i64 8)) 2),
   mg 29 18 true (.pick (T 25) (.const (.bool true)) (T 28)),
   mg 30 18 true (.move (T 29)),
   mg 31 27 false (.fieldAddr 95 (T 1) 4),
   mg 32 27 false (.load 2 (T 31)),
   mg 33 27 false (.binOp .eql 2 (T 32) (.const (.int .i64 16)) 2),
   mg 34 18 true (.pick (T 30) (.const (.bool true)) (T 33)),
   mg 35 18 true (.move (T 34)),
   mg 36 32 false (.fieldAddr 95 (T 1) 4),
   mg 37 32 false (.load 2 (T 36)),
   mg 38 32 false (.binOp .eql 2 (T 37) (.const (.int .i64 32)) 2),
   mg 39 18 true (.pick (T 35) (.const (.bool true)) (T 38)),
   mo 40 (.pick (T 21) (T 39) (.const (.bool false))),
   mo 2 (.assign (T 40))])
 (.ret))
theorem body_90 : Try.f90.body.map strip = some c90 := by kernel_rfl
theorem go_90 {args : List Value} {h : DHeap} {R : DEnd → DHeap → Prop} (ha : args.length ≤ 41) (hx : xs Try.prog 41 c90 (XPost Try.prog [(.tmp 2)] R) ⟨argsFr args 41, [], h, none⟩) : Ct Try.prog 90 args h R :=
  Ct_xs (show Try.prog.funcs[90]? = some Try.f90 by kernel_rfl) body_90 (by kernel_rfl) (by kernel_rfl) ha (by kernel_rfl) hx
end Go.Proofs.Ytbdljpndncohaaa

namespace Go.Proofs.Ytbdljpndncohaaa
open Go.D
theorem one_2 : tyOne Try.prog 2 = true := by kernel_rfl
theorem ld_2 {h : DHeap} {id o : Nat} : dLoad Try.prog 2 (.pointer (some ⟨id, o, none⟩)) h = cellAt h id o := dLoad_one one_2
theorem one_3 : tyOne Try.prog 3 = true := by kernel_rfl
theorem ld_3 {h : DHeap} {id o : Nat} : dLoad Try.prog 3 (.pointer (some ⟨id, o, none⟩)) h = cellAt h id o := dLoad_one one_3
theorem one_4 : tyOne Try.prog 4 = true := by kernel_rfl
theorem ld_4 {h : DHeap} {id o : Nat} : dLoad Try.prog 4 (.pointer (some ⟨id, o, none⟩)) h = cellAt h id o := dLoad_one one_4
theorem one_5 : tyOne Try.prog 5 = true := by kernel_rfl
theorem ld_5 {h : DHeap} {id o : Nat} : dLoad Try.prog 5 (.pointer (some ⟨id, o, none⟩)) h = cellAt h id o := dLoad_one one_5
theorem one_21 : tyOne Try.prog 21 = true := by kernel_rfl
theorem ld_21 {h : DHeap} {id o : Nat} : dLoad Try.prog 21 (.pointer (some ⟨id, o, none⟩)) h = cellAt h id o := dLoad_one one_21
theorem one_22 : tyOne Try.prog 22 = true := by kernel_rfl
theorem ld_22 {h : DHeap} {id o : Nat} : dLoad Try.prog 22 (.pointer (some ⟨id, o, none⟩)) h = cellAt h id o := dLoad_one one_22
theorem st_22 {h : DHeap} {id o : Nat} {v : Value} (hv : v.cells = #[v]) : dStore Try.prog 22 (.pointer (some ⟨id, o, none⟩)) v h = storeAt h id o [v] := dStore_one one_22 hv
theorem one_23 : tyOne Try.prog 23 = true := by kernel_rfl
theorem ld_23 {h : DHeap} {id o : Nat} : dLoad Try.prog 23 (.pointer (some ⟨id, o, none⟩)) h = cellAt h id o := dLoad_one one_23
theorem st_23 {h : DHeap} {id o : Nat} {v : Value} (hv : v.cells = #[v]) : dStore Try.prog 23 (.pointer (some ⟨id, o, none⟩)) v h = storeAt h id o [v] := dStore_one one_23 hv
theorem one_24 : tyOne Try.prog 24 = true := by kernel_rfl
theorem ld_24 {h : DHeap} {id o : Nat} : dLoad Try.prog 24 (.pointer (some ⟨id, o, none⟩)) h = cellAt h id o := dLoad_one one_24
theorem st_24 {h : DHeap} {id o : Nat} {v : Value} (hv : v.cells = #[v]) : dStore Try.prog 24 (.pointer (some ⟨id, o, none⟩)) v h = storeAt h id o [v] := dStore_one one_24 hv
theorem agg_26 : tyAgg Try.prog 26 = some 6 := by kernel_rfl
theorem ld_26 {h : DHeap} {id o : Nat} : dLoad Try.prog 26 (.pointer (some ⟨id, o, none⟩)) h = cellsAt h id o 6 := dLoad_agg agg_26
theorem st_26 {h : DHeap} {id o : Nat} {cs : Array Value} (hv : cs.size = 6) : dStore Try.prog 26 (.pointer (some ⟨id, o, none⟩)) (.agg cs) h = storeAt h id o cs.toList := dStore_agg agg_26 hv
theorem one_31 : tyOne Try.prog 31 = true := by kernel_rfl
theorem ld_31 {h : DHeap} {id o : Nat} : dLoad Try.prog 31 (.pointer (some ⟨id, o, none⟩)) h = cellAt h id o := dLoad_one one_31
theorem agg_36 : tyAgg Try.prog 36 = some 10 := by kernel_rfl
theorem ld_36 {h : DHeap} {id o : Nat} : dLoad Try.prog 36 (.pointer (some ⟨id, o, none⟩)) h = cellsAt h id o 10 := dLoad_agg agg_36
theorem st_36 {h : DHeap} {id o : Nat} {cs : Array Value} (hv : cs.size = 10) : dStore Try.prog 36 (.pointer (some ⟨id, o, none⟩)) (.agg cs) h = storeAt h id o cs.toList := dStore_agg agg_36 hv
theorem agg_45 : tyAgg Try.prog 45 = some 4 := by kernel_rfl
theorem ld_45 {h : DHeap} {id o : Nat} : dLoad Try.prog 45 (.pointer (some ⟨id, o, none⟩)) h = cellsAt h id o 4 := dLoad_agg agg_45
theorem st_45 {h : DHeap} {id o : Nat} {cs : Array Value} (hv : cs.size = 4) : dStore Try.prog 45 (.pointer (some ⟨id, o, none⟩)) (.agg cs) h = storeAt h id o cs.toList := dStore_agg agg_45 hv
theorem agg_47 : tyAgg Try.prog 47 = some 6 := by kernel_rfl
theorem ld_47 {h : DHeap} {id o : Nat} : dLoad Try.prog 47 (.pointer (some ⟨id, o, none⟩)) h = cellsAt h id o 6 := dLoad_agg agg_47
theorem agg_54 : tyAgg Try.prog 54 = some 2 := by kernel_rfl
theorem ld_54 {h : DHeap} {id o : Nat} : dLoad Try.prog 54 (.pointer (some ⟨id, o, none⟩)) h = cellsAt h id o 2 := dLoad_agg agg_54
theorem st_54 {h : DHeap} {id o : Nat} {cs : Array Value} (hv : cs.size = 2) : dStore Try.prog 54 (.pointer (some ⟨id, o, none⟩)) (.agg cs) h = storeAt h id o cs.toList := dStore_agg agg_54 hv
theorem agg_65 : tyAgg Try.prog 65 = some 3 := by kernel_rfl
theorem ld_65 {h : DHeap} {id o : Nat} : dLoad Try.prog 65 (.pointer (some ⟨id, o, none⟩)) h = cellsAt h id o 3 := dLoad_agg agg_65
theorem agg_67 : tyAgg Try.prog 67 = some 19 := by kernel_rfl
theorem ld_67 {h : DHeap} {id o : Nat} : dLoad Try.prog 67 (.pointer (some ⟨id, o, none⟩)) h = cellsAt h id o 19 := dLoad_agg agg_67
theorem st_67 {h : DHeap} {id o : Nat} {cs : Array Value} (hv : cs.size = 19) : dStore Try.prog 67 (.pointer (some ⟨id, o, none⟩)) (.agg cs) h = storeAt h id o cs.toList := dStore_agg agg_67 hv
theorem one_91 : tyOne Try.prog 91 = true := by kernel_rfl
theorem ld_91 {h : DHeap} {id o : Nat} : dLoad Try.prog 91 (.pointer (some ⟨id, o, none⟩)) h = cellAt h id o := dLoad_one one_91
theorem st_91 {h : DHeap} {id o : Nat} {v : Value} (hv : v.cells = #[v]) : dStore Try.prog 91 (.pointer (some ⟨id, o, none⟩)) v h = storeAt h id o [v] := dStore_one one_91 hv
theorem agg_95 : tyAgg Try.prog 95 = some 5 := by kernel_rfl
theorem ld_95 {h : DHeap} {id o : Nat} : dLoad Try.prog 95 (.pointer (some ⟨id, o, none⟩)) h = cellsAt h id o 5 := dLoad_agg agg_95
theorem st_95 {h : DHeap} {id o : Nat} {cs : Array Value} (hv : cs.size = 5) : dStore Try.prog 95 (.pointer (some ⟨id, o, none⟩)) (.agg cs) h = storeAt h id o cs.toList := dStore_agg agg_95 hv
theorem agg_117 : tyAgg Try.prog 117 = some 1 := by kernel_rfl
theorem st_117 {h : DHeap} {id o : Nat} {cs : Array Value} (hv : cs.size = 1) : dStore Try.prog 117 (.pointer (some ⟨id, o, none⟩)) (.agg cs) h = storeAt h id o cs.toList := dStore_agg agg_117 hv
theorem agg_144 : tyAgg Try.prog 144 = some 2 := by kernel_rfl
theorem st_144 {h : DHeap} {id o : Nat} {cs : Array Value} (hv : cs.size = 2) : dStore Try.prog 144 (.pointer (some ⟨id, o, none⟩)) (.agg cs) h = storeAt h id o cs.toList := dStore_agg agg_144 hv
theorem agg_146 : tyAgg Try.prog 146 = some 28 := by kernel_rfl
theorem st_146 {h : DHeap} {id o : Nat} {cs : Array Value} (hv : cs.size = 28) : dStore Try.prog 146 (.pointer (some ⟨id, o, none⟩)) (.agg cs) h = storeAt h id o cs.toList := dStore_agg agg_146 hv
theorem fa_26_0 {id o : Nat} : dFieldAddr Try.prog 26 (.pointer (some ⟨id, o, none⟩)) 0 = some (.pointer (some ⟨id, o + 0, none⟩)) := dFieldAddr_at (show fieldOff Try.prog 26 0 = some 0 by kernel_rfl)
theorem fa_26_1 {id o : Nat} : dFieldAddr Try.prog 26 (.pointer (some ⟨id, o, none⟩)) 1 = some (.pointer (some ⟨id, o + 1, none⟩)) := dFieldAddr_at (show fieldOff Try.prog 26 1 = some 1 by kernel_rfl)
theorem fa_26_2 {id o : Nat} : dFieldAddr Try.prog 26 (.pointer (some ⟨id, o, none⟩)) 2 = some (.pointer (some ⟨id, o + 2, none⟩)) := dFieldAddr_at (show fieldOff Try.prog 26 2 = some 2 by kernel_rfl)
theorem fa_26_3 {id o : Nat} : dFieldAddr Try.prog 26 (.pointer (some ⟨id, o, none⟩)) 3 = some (.pointer (some ⟨id, o + 3, none⟩)) := dFieldAddr_at (show fieldOff Try.prog 26 3 = some 3 by kernel_rfl)
theorem fa_26_4 {id o : Nat} : dFieldAddr Try.prog 26 (.pointer (some ⟨id, o, none⟩)) 4 = some (.pointer (some ⟨id, o + 4, none⟩)) := dFieldAddr_at (show fieldOff Try.prog 26 4 = some 4 by kernel_rfl)
theorem fa_26_5 {id o : Nat} : dFieldAddr Try.prog 26 (.pointer (some ⟨id, o, none⟩)) 5 = some (.pointer (some ⟨id, o + 5, none⟩)) := dFieldAddr_at (show fieldOff Try.prog 26 5 = some 5 by kernel_rfl)
theorem fa_36_0 {id o : Nat} : dFieldAddr Try.prog 36 (.pointer (some ⟨id, o, none⟩)) 0 = some (.pointer (some ⟨id, o + 0, none⟩)) := dFieldAddr_at (show fieldOff Try.prog 36 0 = some 0 by kernel_rfl)
theorem fa_36_1 {id o : Nat} : dFieldAddr Try.prog 36 (.pointer (some ⟨id, o, none⟩)) 1 = some (.pointer (some ⟨id, o + 1, none⟩)) := dFieldAddr_at (show fieldOff Try.prog 36 1 = some 1 by kernel_rfl)
theorem fa_45_1 {id o : Nat} : dFieldAddr Try.prog 45 (.pointer (some ⟨id, o, none⟩)) 1 = some (.pointer (some ⟨id, o + 1, none⟩)) := dFieldAddr_at (show fieldOff Try.prog 45 1 = some 1 by kernel_rfl)
theorem fa_45_2 {id o : Nat} : dFieldAddr Try.prog 45 (.pointer (some ⟨id, o, none⟩)) 2 = some (.pointer (some ⟨id, o + 2, none⟩)) := dFieldAddr_at (show fieldOff Try.prog 45 2 = some 2 by kernel_rfl)
theorem fa_47_0 {id o : Nat} : dFieldAddr Try.prog 47 (.pointer (some ⟨id, o, none⟩)) 0 = some (.pointer (some ⟨id, o + 0, none⟩)) := dFieldAddr_at (show fieldOff Try.prog 47 0 = some 0 by kernel_rfl)
theorem fa_47_1 {id o : Nat} : dFieldAddr Try.prog 47 (.pointer (some ⟨id, o, none⟩)) 1 = some (.pointer (some ⟨id, o + 1, none⟩)) := dFieldAddr_at (show fieldOff Try.prog 47 1 = some 1 by kernel_rfl)
theorem fa_47_2 {id o : Nat} : dFieldAddr Try.prog 47 (.pointer (some ⟨id, o, none⟩)) 2 = some (.pointer (some ⟨id, o + 2, none⟩)) := dFieldAddr_at (show fieldOff Try.prog 47 2 = some 2 by kernel_rfl)
theorem fa_54_0 {id o : Nat} : dFieldAddr Try.prog 54 (.pointer (some ⟨id, o, none⟩)) 0 = some (.pointer (some ⟨id, o + 0, none⟩)) := dFieldAddr_at (show fieldOff Try.prog 54 0 = some 0 by kernel_rfl)
theorem fa_54_1 {id o : Nat} : dFieldAddr Try.prog 54 (.pointer (some ⟨id, o, none⟩)) 1 = some (.pointer (some ⟨id, o + 1, none⟩)) := dFieldAddr_at (show fieldOff Try.prog 54 1 = some 1 by kernel_rfl)
theorem fa_65_0 {id o : Nat} : dFieldAddr Try.prog 65 (.pointer (some ⟨id, o, none⟩)) 0 = some (.pointer (some ⟨id, o + 0, none⟩)) := dFieldAddr_at (show fieldOff Try.prog 65 0 = some 0 by kernel_rfl)
theorem fa_65_1 {id o : Nat} : dFieldAddr Try.prog 65 (.pointer (some ⟨id, o, none⟩)) 1 = some (.pointer (some ⟨id, o + 1, none⟩)) := dFieldAddr_at (show fieldOff Try.prog 65 1 = some 1 by kernel_rfl)
theorem fa_67_0 {id o : Nat} : dFieldAddr Try.prog 67 (.pointer (some ⟨id, o, none⟩)) 0 = some (.pointer (some ⟨id, o + 0, none⟩)) := dFieldAddr_at (show fieldOff Try.prog 67 0 = some 0 by kernel_rfl)
theorem fa_67_1 {id o : Nat} : dFieldAddr Try.prog 67 (.pointer (some ⟨id, o, none⟩)) 1 = some (.pointer (some ⟨id, o + 1, none⟩)) := dFieldAddr_at (show fieldOff Try.prog 67 1 = some 1 by kernel_rfl)
theorem fa_67_2 {id o : Nat} : dFieldAddr Try.prog 67 (.pointer (some ⟨id, o, none⟩)) 2 = some (.pointer (some ⟨id, o + 7, none⟩)) := dFieldAddr_at (show fieldOff Try.prog 67 2 = some 7 by kernel_rfl)
theorem fa_67_3 {id o : Nat} : dFieldAddr Try.prog 67 (.pointer (some ⟨id, o, none⟩)) 3 = some (.pointer (some ⟨id, o + 8, none⟩)) := dFieldAddr_at (show fieldOff Try.prog 67 3 = some 8 by kernel_rfl)
theorem fa_67_6 {id o : Nat} : dFieldAddr Try.prog 67 (.pointer (some ⟨id, o, none⟩)) 6 = some (.pointer (some ⟨id, o + 16, none⟩)) := dFieldAddr_at (show fieldOff Try.prog 67 6 = some 16 by kernel_rfl)
theorem fa_76_0 {id o : Nat} : dFieldAddr Try.prog 76 (.pointer (some ⟨id, o, none⟩)) 0 = some (.pointer (some ⟨id, o + 0, none⟩)) := dFieldAddr_at (show fieldOff Try.prog 76 0 = some 0 by kernel_rfl)
theorem fa_76_1 {id o : Nat} : dFieldAddr Try.prog 76 (.pointer (some ⟨id, o, none⟩)) 1 = some (.pointer (some ⟨id, o + 1, none⟩)) := dFieldAddr_at (show fieldOff Try.prog 76 1 = some 1 by kernel_rfl)
theorem fa_76_2 {id o : Nat} : dFieldAddr Try.prog 76 (.pointer (some ⟨id, o, none⟩)) 2 = some (.pointer (some ⟨id, o + 2, none⟩)) := dFieldAddr_at (show fieldOff Try.prog 76 2 = some 2 by kernel_rfl)
theorem fa_76_3 {id o : Nat} : dFieldAddr Try.prog 76 (.pointer (some ⟨id, o, none⟩)) 3 = some (.pointer (some ⟨id, o + 3, none⟩)) := dFieldAddr_at (show fieldOff Try.prog 76 3 = some 3 by kernel_rfl)
theorem fa_76_4 {id o : Nat} : dFieldAddr Try.prog 76 (.pointer (some ⟨id, o, none⟩)) 4 = some (.pointer (some ⟨id, o + 4, none⟩)) := dFieldAddr_at (show fieldOff Try.prog 76 4 = some 4 by kernel_rfl)
theorem fa_76_5 {id o : Nat} : dFieldAddr Try.prog 76 (.pointer (some ⟨id, o, none⟩)) 5 = some (.pointer (some ⟨id, o + 10, none⟩)) := dFieldAddr_at (show fieldOff Try.prog 76 5 = some 10 by kernel_rfl)
theorem fa_76_6 {id o : Nat} : dFieldAddr Try.prog 76 (.pointer (some ⟨id, o, none⟩)) 6 = some (.pointer (some ⟨id, o + 11, none⟩)) := dFieldAddr_at (show fieldOff Try.prog 76 6 = some 11 by kernel_rfl)
theorem fa_76_7 {id o : Nat} : dFieldAddr Try.prog 76 (.pointer (some ⟨id, o, none⟩)) 7 = some (.pointer (some ⟨id, o + 12, none⟩)) := dFieldAddr_at (show fieldOff Try.prog 76 7 = some 12 by kernel_rfl)
theorem fa_76_8 {id o : Nat} : dFieldAddr Try.prog 76 (.pointer (some ⟨id, o, none⟩)) 8 = some (.pointer (some ⟨id, o + 13, none⟩)) := dFieldAddr_at (show fieldOff Try.prog 76 8 = some 13 by kernel_rfl)
theorem fa_76_9 {id o : Nat} : dFieldAddr Try.prog 76 (.pointer (some ⟨id, o, none⟩)) 9 = some (.pointer (some ⟨id, o + 14, none⟩)) := dFieldAddr_at (show fieldOff Try.prog 76 9 = some 14 by kernel_rfl)
theorem fa_95_0 {id o : Nat} : dFieldAddr Try.prog 95 (.pointer (some ⟨id, o, none⟩)) 0 = some (.pointer (some ⟨id, o + 0, none⟩)) := dFieldAddr_at (show fieldOff Try.prog 95 0 = some 0 by kernel_rfl)
theorem fa_95_1 {id o : Nat} : dFieldAddr Try.prog 95 (.pointer (some ⟨id, o, none⟩)) 1 = some (.pointer (some ⟨id, o + 1, none⟩)) := dFieldAddr_at (show fieldOff Try.prog 95 1 = some 1 by kernel_rfl)
theorem fa_95_2 {id o : Nat} : dFieldAddr Try.prog 95 (.pointer (some ⟨id, o, none⟩)) 2 = some (.pointer (some ⟨id, o + 2, none⟩)) := dFieldAddr_at (show fieldOff Try.prog 95 2 = some 2 by kernel_rfl)
theorem fa_95_3 {id o : Nat} : dFieldAddr Try.prog 95 (.pointer (some ⟨id, o, none⟩)) 3 = some (.pointer (some ⟨id, o + 3, none⟩)) := dFieldAddr_at (show fieldOff Try.prog 95 3 = some 3 by kernel_rfl)
theorem fa_95_4 {id o : Nat} : dFieldAddr Try.prog 95 (.pointer (some ⟨id, o, none⟩)) 4 = some (.pointer (some ⟨id, o + 4, none⟩)) := dFieldAddr_at (show fieldOff Try.prog 95 4 = some 4 by kernel_rfl)
theorem fa_117_0 {id o : Nat} : dFieldAddr Try.prog 117 (.pointer (some ⟨id, o, none⟩)) 0 = some (.pointer (some ⟨id, o + 0, none⟩)) := dFieldAddr_at (show fieldOff Try.prog 117 0 = some 0 by kernel_rfl)
theorem el_22 : slElem Try.prog 22 = some 1 := by kernel_rfl
theorem el_24 : slElem Try.prog 24 = some 2 := by kernel_rfl
theorem el_62 : slElem Try.prog 62 = some 19 := by kernel_rfl
theorem el_91 : slElem Try.prog 91 = some 5 := by kernel_rfl
theorem el_131 : slElem Try.prog 131 = some 1 := by kernel_rfl
theorem cv_3_110 {h : DHeap} {k : IntKind} {n : Int} : dConvertO Try.prog 3 110 h (some (.int k n)) = .ok (.value (.int .u64 (IntKind.u64.wrap n))) h := dConvertO_int (show Try.prog.underlying 3 = some (.int .i64) by kernel_rfl) (show Try.prog.underlying 110 = some (.int .u64) by kernel_rfl)
theorem cv_5_2 {h : DHeap} {k : IntKind} {n : Int} : dConvertO Try.prog 5 2 h (some (.int k n)) = .ok (.value (.int .i64 (IntKind.i64.wrap n))) h := dConvertO_int (show Try.prog.underlying 5 = some (.int .u8) by kernel_rfl) (show Try.prog.underlying 2 = some (.int .i64) by kernel_rfl)
theorem cv_5_3 {h : DHeap} {k : IntKind} {n : Int} : dConvertO Try.prog 5 3 h (some (.int k n)) = .ok (.value (.int .i64 (IntKind.i64.wrap n))) h := dConvertO_int (show Try.prog.underlying 5 = some (.int .u8) by kernel_rfl) (show Try.prog.underlying 3 = some (.int .i64) by kernel_rfl)
theorem cv_5_27 {h : DHeap} {k : IntKind} {n : Int} : dConvertO Try.prog 5 27 h (some (.int k n)) = .ok (.value (.int .u16 (IntKind.u16.wrap n))) h := dConvertO_int (show Try.prog.underlying 5 = some (.int .u8) by kernel_rfl) (show Try.prog.underlying 27 = some (.int .u16) by kernel_rfl)
theorem cv_27_2 {h : DHeap} {k : IntKind} {n : Int} : dConvertO Try.prog 27 2 h (some (.int k n)) = .ok (.value (.int .i64 (IntKind.i64.wrap n))) h := dConvertO_int (show Try.prog.underlying 27 = some (.int .u16) by kernel_rfl) (show Try.prog.underlying 2 = some (.int .i64) by kernel_rfl)
theorem cv_27_137 {h : DHeap} {k : IntKind} {n : Int} : dConvertO Try.prog 27 137 h (some (.int k n)) = .ok (.value (.int .i16 (IntKind.i16.wrap n))) h := dConvertO_int (show Try.prog.underlying 27 = some (.int .u16) by kernel_rfl) (show Try.prog.underlying 137 = some (.int .i16) by kernel_rfl)
theorem cv_130_5 {h : DHeap} {k : IntKind} {n : Int} : dConvertO Try.prog 130 5 h (some (.int k n)) = .ok (.value (.int .u8 (IntKind.u8.wrap n))) h := dConvertO_int (show Try.prog.underlying 130 = some (.int .u64) by kernel_rfl) (show Try.prog.underlying 5 = some (.int .u8) by kernel_rfl)
theorem cv_137_2 {h : DHeap} {k : IntKind} {n : Int} : dConvertO Try.prog 137 2 h (some (.int k n)) = .ok (.value (.int .i64 (IntKind.i64.wrap n))) h := dConvertO_int (show Try.prog.underlying 137 = some (.int .i16) by kernel_rfl) (show Try.prog.underlying 2 = some (.int .i64) by kernel_rfl)
theorem mi_117 {h : DHeap} {v : Value} : dMkIface Try.prog 117 h (some v) = .ok (.value (.iface 117 v)) h := dMkIface_some (by kernel_rfl)
theorem ta_117 {h : DHeap} {v : Value} {ok : Bool} : dTypeAssertO Try.prog 117 ok h (some (.iface 117 v)) = .ok (.value (if ok then .tuple #[v, .bool true] else v)) h := dTypeAssertO_same (by kernel_rfl) ok
theorem ca_9 {h : DHeap} {first cap : Array Value} {vs : List Value} : dCallO Try.prog h (some (.func (.func 9) first cap)) (some vs) = .ok (.enter 9 (first.toList ++ vs ++ cap.toList)) h := dCallO_func (by kernel_rfl) _ _ _
theorem ca_10 {h : DHeap} {first cap : Array Value} {vs : List Value} : dCallO Try.prog h (some (.func (.func 10) first cap)) (some vs) = .ok (.enter 10 (first.toList ++ vs ++ cap.toList)) h := dCallO_func (by kernel_rfl) _ _ _
theorem ca_11 {h : DHeap} {first cap : Array Value} {vs : List Value} : dCallO Try.prog h (some (.func (.func 11) first cap)) (some vs) = .ok (.enter 11 (first.toList ++ vs ++ cap.toList)) h := dCallO_func (by kernel_rfl) _ _ _
theorem ca_12 {h : DHeap} {first cap : Array Value} {vs : List Value} : dCallO Try.prog h (some (.func (.func 12) first cap)) (some vs) = .ok (.enter 12 (first.toList ++ vs ++ cap.toList)) h := dCallO_func (by kernel_rfl) _ _ _
theorem ca_14 {h : DHeap} {first cap : Array Value} {vs : List Value} : dCallO Try.prog h (some (.func (.func 14) first cap)) (some vs) = .ok (.enter 14 (first.toList ++ vs ++ cap.toList)) h := dCallO_func (by kernel_rfl) _ _ _
theorem ca_15 {h : DHeap} {first cap : Array Value} {vs : List Value} : dCallO Try.prog h (some (.func (.func 15) first cap)) (some vs) = .ok (.enter 15 (first.toList ++ vs ++ cap.toList)) h := dCallO_func (by kernel_rfl) _ _ _
theorem ca_20 {h : DHeap} {first cap : Array Value} {vs : List Value} : dCallO Try.prog h (some (.func (.func 20) first cap)) (some vs) = .ok (.enter 20 (first.toList ++ vs ++ cap.toList)) h := dCallO_func (by kernel_rfl) _ _ _
theorem ca_22 {h : DHeap} {first cap : Array Value} {vs : List Value} : dCallO Try.prog h (some (.func (.func 22) first cap)) (some vs) = .ok (.enter 22 (first.toList ++ vs ++ cap.toList)) h := dCallO_func (by kernel_rfl) _ _ _
theorem ca_25 {h : DHeap} {first cap : Array Value} {vs : List Value} : dCallO Try.prog h (some (.func (.func 25) first cap)) (some vs) = .ok (.enter 25 (first.toList ++ vs ++ cap.toList)) h := dCallO_func (by kernel_rfl) _ _ _
theorem ca_31 {h : DHeap} {first cap : Array Value} {vs : List Value} : dCallO Try.prog h (some (.func (.func 31) first cap)) (some vs) = .ok (.enter 31 (first.toList ++ vs ++ cap.toList)) h := dCallO_func (by kernel_rfl) _ _ _
theorem ca_32 {h : DHeap} {first cap : Array Value} {vs : List Value} : dCallO Try.prog h (some (.func (.func 32) first cap)) (some vs) = .ok (.enter 32 (first.toList ++ vs ++ cap.toList)) h := dCallO_func (by kernel_rfl) _ _ _
theorem ca_33 {h : DHeap} {first cap : Array Value} {vs : List Value} : dCallO Try.prog h (some (.func (.func 33) first cap)) (some vs) = .ok (.enter 33 (first.toList ++ vs ++ cap.toList)) h := dCallO_func (by kernel_rfl) _ _ _
theorem ca_35 {h : DHeap} {first cap : Array Value} {vs : List Value} : dCallO Try.prog h (some (.func (.func 35) first cap)) (some vs) = .ok (.enter 35 (first.toList ++ vs ++ cap.toList)) h := dCallO_func (by kernel_rfl) _ _ _
theorem ca_37 {h : DHeap} {first cap : Array Value} {vs : List Value} : dCallO Try.prog h (some (.func (.func 37) first cap)) (some vs) = .ok (.enter 37 (first.toList ++ vs ++ cap.toList)) h := dCallO_func (by kernel_rfl) _ _ _
theorem ca_38 {h : DHeap} {first cap : Array Value} {vs : List Value} : dCallO Try.prog h (some (.func (.func 38) first cap)) (some vs) = .ok (.enter 38 (first.toList ++ vs ++ cap.toList)) h := dCallO_func (by kernel_rfl) _ _ _
theorem ca_48 {h : DHeap} {first cap : Array Value} {vs : List Value} : dCallO Try.prog h (some (.func (.func 48) first cap)) (some vs) = .ok (.enter 48 (first.toList ++ vs ++ cap.toList)) h := dCallO_func (by kernel_rfl) _ _ _
theorem ca_49 {h : DHeap} {first cap : Array Value} {vs : List Value} : dCallO Try.prog h (some (.func (.func 49) first cap)) (some vs) = .ok (.enter 49 (first.toList ++ vs ++ cap.toList)) h := dCallO_func (by kernel_rfl) _ _ _
theorem ca_50 {h : DHeap} {first cap : Array Value} {vs : List Value} : dCallO Try.prog h (some (.func (.func 50) first cap)) (some vs) = .ok (.enter 50 (first.toList ++ vs ++ cap.toList)) h := dCallO_func (by kernel_rfl) _ _ _
theorem ca_51 {h : DHeap} {first cap : Array Value} {vs : List Value} : dCallO Try.prog h (some (.func (.func 51) first cap)) (some vs) = .ok (.enter 51 (first.toList ++ vs ++ cap.toList)) h := dCallO_func (by kernel_rfl) _ _ _
theorem ca_52 {h : DHeap} {first cap : Array Value} {vs : List Value} : dCallO Try.prog h (some (.func (.func 52) first cap)) (some vs) = .ok (.enter 52 (first.toList ++ vs ++ cap.toList)) h := dCallO_func (by kernel_rfl) _ _ _
theorem de_59 {h : DHeap} {first cap : Array Value} {vs : List Value} : dDeferO Try.prog h (some (.func (.func 59) first cap)) (some vs) = .ok (.defer 59 (first.toList ++ vs ++ cap.toList)) h := dDeferO_func (by kernel_rfl) _ _ _
theorem ca_60 {h : DHeap} {first cap : Array Value} {vs : List Value} : dCallO Try.prog h (some (.func (.func 60) first cap)) (some vs) = .ok (.enter 60 (first.toList ++ vs ++ cap.toList)) h := dCallO_func (by kernel_rfl) _ _ _
theorem ca_61 {h : DHeap} {first cap : Array Value} {vs : List Value} : dCallO Try.prog h (some (.func (.func 61) first cap)) (some vs) = .ok (.enter 61 (first.toList ++ vs ++ cap.toList)) h := dCallO_func (by kernel_rfl) _ _ _
theorem ca_62 {h : DHeap} {first cap : Array Value} {vs : List Value} : dCallO Try.prog h (some (.func (.func 62) first cap)) (some vs) = .ok (.enter 62 (first.toList ++ vs ++ cap.toList)) h := dCallO_func (by kernel_rfl) _ _ _
theorem ca_63 {h : DHeap} {first cap : Array Value} {vs : List Value} : dCallO Try.prog h (some (.func (.func 63) first cap)) (some vs) = .ok (.enter 63 (first.toList ++ vs ++ cap.toList)) h := dCallO_func (by kernel_rfl) _ _ _
theorem ca_64 {h : DHeap} {first cap : Array Value} {vs : List Value} : dCallO Try.prog h (some (.func (.func 64) first cap)) (some vs) = .ok (.enter 64 (first.toList ++ vs ++ cap.toList)) h := dCallO_func (by kernel_rfl) _ _ _
theorem ca_65 {h : DHeap} {first cap : Array Value} {vs : List Value} : dCallO Try.prog h (some (.func (.func 65) first cap)) (some vs) = .ok (.enter 65 (first.toList ++ vs ++ cap.toList)) h := dCallO_func (by kernel_rfl) _ _ _
theorem ca_66 {h : DHeap} {first cap : Array Value} {vs : List Value} : dCallO Try.prog h (some (.func (.func 66) first cap)) (some vs) = .ok (.enter 66 (first.toList ++ vs ++ cap.toList)) h := dCallO_func (by kernel_rfl) _ _ _
theorem ca_67 {h : DHeap} {first cap : Array Value} {vs : List Value} : dCallO Try.prog h (some (.func (.func 67) first cap)) (some vs) = .ok (.enter 67 (first.toList ++ vs ++ cap.toList)) h := dCallO_func (by kernel_rfl) _ _ _
theorem ca_68 {h : DHeap} {first cap : Array Value} {vs : List Value} : dCallO Try.prog h (some (.func (.func 68) first cap)) (some vs) = .ok (.enter 68 (first.toList ++ vs ++ cap.toList)) h := dCallO_func (by kernel_rfl) _ _ _
theorem ca_70 {h : DHeap} {first cap : Array Value} {vs : List Value} : dCallO Try.prog h (some (.func (.func 70) first cap)) (some vs) = .ok (.enter 70 (first.toList ++ vs ++ cap.toList)) h := dCallO_func (by kernel_rfl) _ _ _
theorem ca_71 {h : DHeap} {first cap : Array Value} {vs : List Value} : dCallO Try.prog h (some (.func (.func 71) first cap)) (some vs) = .ok (.enter 71 (first.toList ++ vs ++ cap.toList)) h := dCallO_func (by kernel_rfl) _ _ _
theorem ca_80 {h : DHeap} {first cap : Array Value} {vs : List Value} : dCallO Try.prog h (some (.func (.func 80) first cap)) (some vs) = .ok (.enter 80 (first.toList ++ vs ++ cap.toList)) h := dCallO_func (by kernel_rfl) _ _ _
theorem ca_81 {h : DHeap} {first cap : Array Value} {vs : List Value} : dCallO Try.prog h (some (.func (.func 81) first cap)) (some vs) = .ok (.enter 81 (first.toList ++ vs ++ cap.toList)) h := dCallO_func (by kernel_rfl) _ _ _
theorem ca_82 {h : DHeap} {first cap : Array Value} {vs : List Value} : dCallO Try.prog h (some (.func (.func 82) first cap)) (some vs) = .ok (.enter 82 (first.toList ++ vs ++ cap.toList)) h := dCallO_func (by kernel_rfl) _ _ _
theorem ca_88 {h : DHeap} {first cap : Array Value} {vs : List Value} : dCallO Try.prog h (some (.func (.func 88) first cap)) (some vs) = .ok (.enter 88 (first.toList ++ vs ++ cap.toList)) h := dCallO_func (by kernel_rfl) _ _ _
theorem ca_89 {h : DHeap} {first cap : Array Value} {vs : List Value} : dCallO Try.prog h (some (.func (.func 89) first cap)) (some vs) = .ok (.enter 89 (first.toList ++ vs ++ cap.toList)) h := dCallO_func (by kernel_rfl) _ _ _
theorem ca_90 {h : DHeap} {first cap : Array Value} {vs : List Value} : dCallO Try.prog h (some (.func (.func 90) first cap)) (some vs) = .ok (.enter 90 (first.toList ++ vs ++ cap.toList)) h := dCallO_func (by kernel_rfl) _ _ _
theorem esz_26 : eszOf Try.prog 26 = 0 := by kernel_rfl
theorem esz_31 : eszOf Try.prog 31 = 0 := by kernel_rfl
theorem esz_36 : eszOf Try.prog 36 = 0 := by kernel_rfl
theorem esz_47 : eszOf Try.prog 47 = 0 := by kernel_rfl
theorem esz_54 : eszOf Try.prog 54 = 0 := by kernel_rfl
theorem esz_65 : eszOf Try.prog 65 = 0 := by kernel_rfl
theorem esz_67 : eszOf Try.prog 67 = 0 := by kernel_rfl
theorem esz_76 : eszOf Try.prog 76 = 0 := by kernel_rfl
theorem esz_91 : eszOf Try.prog 91 = 0 := by kernel_rfl
theorem esz_95 : eszOf Try.prog 95 = 0 := by kernel_rfl
theorem esz_117 : eszOf Try.prog 117 = 0 := by kernel_rfl
theorem esz_144 : eszOf Try.prog 144 = 1 := by kernel_rfl
theorem esz_146 : eszOf Try.prog 146 = 1 := by kernel_rfl
theorem al_26 {h : DHeap} : dAlloc Try.prog 26 h = some (.pointer (some ⟨h.next, 0, none⟩), h.push (.row [Value.int IntKind.i64 0, Value.int IntKind.i64 0, Value.slice none 0 0, Value.slice none 0 0, Value.slice none 0 0, Value.slice none 0 0] 0 false)) := dAlloc_zero (show zeroCells Try.prog 26 = some [Value.int IntKind.i64 0, Value.int IntKind.i64 0, Value.slice none 0 0, Value.slice none 0 0, Value.slice none 0 0, Value.slice none 0 0] by kernel_rfl) (by decide) esz_26
theorem al_31 {h : DHeap} : dAlloc Try.prog 31 h = some (.pointer (some ⟨h.next, 0, none⟩), h.push (.row [Value.int IntKind.i64 0] 0 false)) := dAlloc_zero (show zeroCells Try.prog 31 = some [Value.int IntKind.i64 0] by kernel_rfl) (by decide) esz_31
theorem al_36 {h : DHeap} : dAlloc Try.prog 36 h = some (.pointer (some ⟨h.next, 0, none⟩), h.push (.row [Value.int IntKind.i64 0, Value.int IntKind.i64 0, Value.int IntKind.i64 0, Value.slice none 0 0, Value.slice none 0 0, Value.slice none 0 0, Value.slice none 0 0, Value.bool false, Value.slice none 0 0, Value.int IntKind.i64 0] 0 false)) := dAlloc_zero (show zeroCells Try.prog 36 = some [Value.int IntKind.i64 0, Value.int IntKind.i64 0, Value.int IntKind.i64 0, Value.slice none 0 0, Value.slice none 0 0, Value.slice none 0 0, Value.slice none 0 0, Value.bool false, Value.slice none 0 0, Value.int IntKind.i64 0] by kernel_rfl) (by decide) esz_36
theorem al_67 {h : DHeap} : dAlloc Try.prog 67 h = some (.pointer (some ⟨h.next, 0, none⟩), h.push (.row [Value.int IntKind.i64 0, Value.int IntKind.i64 0, Value.int IntKind.i64 0, Value.slice none 0 0, Value.slice none 0 0, Value.slice none 0 0, Value.slice none 0 0, Value.int IntKind.i64 0, Value.int IntKind.i64 0, Value.int IntKind.i64 0, Value.int IntKind.i64 0, Value.slice none 0 0, Value.int IntKind.i64 0, Value.int IntKind.i64 0, Value.bool false, Value.slice none 0 0, Value.int IntKind.i64 0, Value.int IntKind.i64 0, Value.slice none 0 0] 0 false)) := dAlloc_zero (show zeroCells Try.prog 67 = some [Value.int IntKind.i64 0, Value.int IntKind.i64 0, Value.int IntKind.i64 0, Value.slice none 0 0, Value.slice none 0 0, Value.slice none 0 0, Value.slice none 0 0, Value.int IntKind.i64 0, Value.int IntKind.i64 0, Value.int IntKind.i64 0, Value.int IntKind.i64 0, Value.slice none 0 0, Value.int IntKind.i64 0, Value.int IntKind.i64 0, Value.bool false, Value.slice none 0 0, Value.int IntKind.i64 0, Value.int IntKind.i64 0, Value.slice none 0 0] by kernel_rfl) (by decide) esz_67
theorem al_91 {h : DHeap} : dAlloc Try.prog 91 h = some (.pointer (some ⟨h.next, 0, none⟩), h.push (.row [Value.slice none 0 0] 0 false)) := dAlloc_zero (show zeroCells Try.prog 91 = some [Value.slice none 0 0] by kernel_rfl) (by decide) esz_91
theorem al_95 {h : DHeap} : dAlloc Try.prog 95 h = some (.pointer (some ⟨h.next, 0, none⟩), h.push (.row [Value.int IntKind.i64 0, Value.int IntKind.i64 0, Value.int IntKind.i64 0, Value.int IntKind.i64 0, Value.int IntKind.i64 0] 0 false)) := dAlloc_zero (show zeroCells Try.prog 95 = some [Value.int IntKind.i64 0, Value.int IntKind.i64 0, Value.int IntKind.i64 0, Value.int IntKind.i64 0, Value.int IntKind.i64 0] by kernel_rfl) (by decide) esz_95
theorem al_117 {h : DHeap} : dAlloc Try.prog 117 h = some (.pointer (some ⟨h.next, 0, none⟩), h.push (.row [Value.int IntKind.i64 0] 0 false)) := dAlloc_zero (show zeroCells Try.prog 117 = some [Value.int IntKind.i64 0] by kernel_rfl) (by decide) esz_117
theorem al_144 {h : DHeap} : dAlloc Try.prog 144 h = some (.pointer (some ⟨h.next, 0, none⟩), h.push (.row [Value.int IntKind.i64 0, Value.int IntKind.i64 0] 1 false)) := dAlloc_zero (show zeroCells Try.prog 144 = some [Value.int IntKind.i64 0, Value.int IntKind.i64 0] by kernel_rfl) (by decide) esz_144
theorem al_146 {h : DHeap} : dAlloc Try.prog 146 h = some (.pointer (some ⟨h.next, 0, none⟩), h.push (.row [Value.int IntKind.i64 0, Value.int IntKind.i64 0, Value.int IntKind.i64 0, Value.int IntKind.i64 0, Value.int IntKind.i64 0, Value.int IntKind.i64 0, Value.int IntKind.i64 0, Value.int IntKind.i64 0, Value.int IntKind.i64 0, Value.int IntKind.i64 0, Value.int IntKind.i64 0, Value.int IntKind.i64 0, Value.int IntKind.i64 0, Value.int IntKind.i64 0, Value.int IntKind.i64 0, Value.int IntKind.i64 0, Value.int IntKind.i64 0, Value.int IntKind.i64 0, Value.int IntKind.i64 0, Value.int IntKind.i64 0, Value.int IntKind.i64 0, Value.int IntKind.i64 0, Value.int IntKind.i64 0, Value.int IntKind.i64 0, Value.int IntKind.i64 0, Value.int IntKind.i64 0, Value.int IntKind.i64 0, Value.int IntKind.i64 0] 1 false)) := dAlloc_zero (show zeroCells Try.prog 146 = some [Value.int IntKind.i64 0, Value.int IntKind.i64 0, Value.int IntKind.i64 0, Value.int IntKind.i64 0, Value.int IntKind.i64 0, Value.int IntKind.i64 0, Value.int IntKind.i64 0, Value.int IntKind.i64 0, Value.int IntKind.i64 0, Value.int IntKind.i64 0, Value.int IntKind.i64 0, Value.int IntKind.i64 0, Value.int IntKind.i64 0, Value.int IntKind.i64 0, Value.int IntKind.i64 0, Value.int IntKind.i64 0, Value.int IntKind.i64 0, Value.int IntKind.i64 0, Value.int IntKind.i64 0, Value.int IntKind.i64 0, Value.int IntKind.i64 0, Value.int IntKind.i64 0, Value.int IntKind.i64 0, Value.int IntKind.i64 0, Value.int IntKind.i64 0, Value.int IntKind.i64 0, Value.int IntKind.i64 0, Value.int IntKind.i64 0] by kernel_rfl) (by decide) esz_146
theorem isl_22 : isSliceT Try.prog 22 = true := by kernel_rfl
theorem isl_23 : isSliceT Try.prog 23 = true := by kernel_rfl
theorem isl_24 : isSliceT Try.prog 24 = true := by kernel_rfl
theorem isl_62 : isSliceT Try.prog 62 = true := by kernel_rfl
theorem isl_91 : isSliceT Try.prog 91 = true := by kernel_rfl
theorem isl_131 : isSliceT Try.prog 131 = true := by kernel_rfl
theorem app_22 : appT Try.prog #[22, 22] = some (1, 1) := by kernel_rfl
theorem app_23 : appT Try.prog #[23, 23] = some (1, 8) := by kernel_rfl
theorem app_24 : appT Try.prog #[24, 24] = some (2, 16) := by kernel_rfl
theorem app_91 : appT Try.prog #[91, 91] = some (5, 40) := by kernel_rfl
theorem bsl_22 : bslT Try.prog 22 = some (1, [Value.int IntKind.u8 0]) := by kernel_rfl
theorem bs0_22 {h : DHeap} : dBuildSlice Try.prog 22 0 [] h = some (.slice (some ⟨h.next, 0, none⟩) 0 0, h.push (.row [] 1 false)) := dBuildSlice_0 bsl_22
theorem bsl_23 : bslT Try.prog 23 = some (1, [Value.int IntKind.i64 0]) := by kernel_rfl
theorem bs0_23 {h : DHeap} : dBuildSlice Try.prog 23 0 [] h = some (.slice (some ⟨h.next, 0, none⟩) 0 0, h.push (.row [] 1 false)) := dBuildSlice_0 bsl_23
theorem bsl_24 : bslT Try.prog 24 = some (2, [Value.int IntKind.i32 0, Value.int IntKind.i64 0]) := by kernel_rfl
theorem bs0_24 {h : DHeap} : dBuildSlice Try.prog 24 0 [] h = some (.slice (some ⟨h.next, 0, none⟩) 0 0, h.push (.row [] 2 false)) := dBuildSlice_0 bsl_24
theorem bsl_91 : bslT Try.prog 91 = some (5, [Value.int IntKind.i64 0, Value.int IntKind.i64 0, Value.int IntKind.i64 0, Value.int IntKind.i64 0, Value.int IntKind.i64 0]) := by kernel_rfl
theorem bs1_91 {h : DHeap} {a : Value} (ha : a.cells.size = 5) : dBuildSlice Try.prog 91 1 [(0, a)] h = some (.slice (some ⟨h.next, 0, none⟩) 1 1, h.push (.row a.cells.toList 5 false)) := dBuildSlice_1 bsl_91 ha (by decide)
theorem bsl_131 : bslT Try.prog 131 = some (1, [Value.int IntKind.i64 0]) := by kernel_rfl
theorem bs2_131 {h : DHeap} {a b : Value} (ha : a.cells.size = 1) (hb : b.cells.size = 1) : dBuildSlice Try.prog 131 2 [(0, a), (1, b)] h = some (.slice (some ⟨h.next, 0, none⟩) 2 2, h.push (.row (a.cells.toList ++ b.cells.toList) 1 false)) := dBuildSlice_2 bsl_131 ha hb (by decide)
theorem plc_26 : plcOf Try.prog 26 = some ([(0, 1), (1, 1), (2, 1), (3, 1), (4, 1), (5, 1)], [Value.int IntKind.i64 0, Value.int IntKind.i64 0, Value.slice none 0 0, Value.slice none 0 0, Value.slice none 0 0, Value.slice none 0 0]) := by kernel_rfl
theorem plc_36 : plcOf Try.prog 36 = some ([(0, 1), (1, 6), (7, 1), (8, 1), (9, 1)], [Value.int IntKind.i64 0, Value.int IntKind.i64 0, Value.int IntKind.i64 0, Value.slice none 0 0, Value.slice none 0 0, Value.slice none 0 0, Value.slice none 0 0, Value.bool false, Value.slice none 0 0, Value.int IntKind.i64 0]) := by kernel_rfl
theorem plc_45 : plcOf Try.prog 45 = some ([(0, 1), (1, 1), (2, 1), (3, 1)], [Value.int IntKind.i64 0, Value.slice none 0 0, Value.int IntKind.i64 0, Value.int IntKind.i64 0]) := by kernel_rfl
theorem plc_47 : plcOf Try.prog 47 = some ([(0, 1), (1, 1), (2, 4)], [Value.int IntKind.i64 0, Value.int IntKind.i64 0, Value.int IntKind.i64 0, Value.slice none 0 0, Value.int IntKind.i64 0, Value.int IntKind.i64 0]) := by kernel_rfl
theorem plc_76 : plcOf Try.prog 76 = some ([(0, 1), (1, 1), (2, 1), (3, 1), (4, 6), (10, 1), (11, 1), (12, 1), (13, 1), (14, 4)], [Value.int IntKind.i64 0, Value.int IntKind.i64 0, Value.int IntKind.i64 0, Value.bool false, Value.int IntKind.i64 0, Value.int IntKind.i64 0, Value.slice none 0 0, Value.slice none 0 0, Value.slice none 0 0, Value.slice none 0 0, Value.int IntKind.i64 0, Value.int IntKind.i64 0, Value.int IntKind.i64 0, Value.bool false, Value.int IntKind.i64 0, Value.slice none 0 0, Value.int IntKind.i64 0, Value.int IntKind.i64 0]) := by kernel_rfl
theorem plc_95 : plcOf Try.prog 95 = some ([(0, 1), (1, 1), (2, 1), (3, 1), (4, 1)], [Value.int IntKind.i64 0, Value.int IntKind.i64 0, Value.int IntKind.i64 0, Value.int IntKind.i64 0, Value.int IntKind.i64 0]) := by kernel_rfl
theorem plc_117 : plcOf Try.prog 117 = some ([(0, 1)], [Value.int IntKind.i64 0]) := by kernel_rfl
theorem mixed : Try.prog.follows .mixedOrders = true := by kernel_rfl
attribute [go_sem] ld_2 ld_3 ld_4 ld_5 ld_21 ld_22 st_22 ld_23 st_23 ld_24 st_24 ld_26 st_26 ld_31 ld_36
attribute [go_sem] st_36 ld_45 st_45 ld_47 ld_54 st_54 ld_65 ld_67 st_67 ld_91 st_91 ld_95 st_95 st_117 st_144
attribute [go_sem] st_146 fa_26_0 fa_26_1 fa_26_2 fa_26_3 fa_26_4 fa_26_5 fa_36_0 fa_36_1 fa_45_1 fa_45_2 fa_47_0 fa_47_1 fa_47_2 fa_54_0 fa_54_1
attribute [go_sem] fa_65_0 fa_65_1 fa_67_0 fa_67_1 fa_67_2 fa_67_3 fa_67_6 fa_76_0 fa_76_1 fa_76_2 fa_76_3 fa_76_4 fa_76_5 fa_76_6 fa_76_7 fa_76_8 fa_76_9
attribute [go_sem] fa_95_0 fa_95_1 fa_95_2 fa_95_3 fa_95_4 fa_117_0 cv_3_110 cv_5_2 cv_5_3 cv_5_27 cv_27_2 cv_27_137 cv_130_5 cv_137_2
attribute [go_sem] mi_117 ta_117 ca_9 ca_10 ca_11 ca_12 ca_14 ca_15 ca_20
attribute [go_sem] ca_22 ca_25 ca_31 ca_32
attribute [go_sem] ca_33 ca_35 ca_37 ca_38
attribute [go_sem] ca_48 ca_49 ca_50 ca_51 ca_52
attribute [go_sem] de_59 ca_60 ca_61 ca_62 ca_63 ca_64 ca_65 ca_66 ca_67 ca_68 ca_70
attribute [go_sem] ca_71 ca_80 ca_81 ca_82
attribute [go_sem] ca_88 ca_89 ca_90
attribute [go_sem] esz_26 esz_31 esz_36 esz_47 esz_54 esz_65 esz_67 esz_76 esz_91 esz_95 esz_117 esz_144 esz_146 al_26 al_31
attribute [go_sem] al_36 al_67 al_91 al_95 al_117 al_144 al_146 bs0_22
attribute [go_sem] bs0_23 bs0_24 bs1_91 bs2_131
end Go.Proofs.Ytbdljpndncohaaa

namespace Go.Proofs.Ytbdljpndncohaaa
open Go.D

theorem sti_2 {h : DHeap} {id o : Nat} {k : IntKind} {n : Int} : dStore Try.prog 2 (.pointer (some ⟨id, o, none⟩)) (.int k n) h = storeAt h id o [(.int k n)] := dStore_one one_2 rfl
theorem sti_3 {h : DHeap} {id o : Nat} {k : IntKind} {n : Int} : dStore Try.prog 3 (.pointer (some ⟨id, o, none⟩)) (.int k n) h = storeAt h id o [(.int k n)] := dStore_one one_3 rfl
theorem stb_4 {h : DHeap} {id o : Nat} {b : Bool} : dStore Try.prog 4 (.pointer (some ⟨id, o, none⟩)) (.bool b) h = storeAt h id o [(.bool b)] := dStore_one one_4 rfl
theorem sti_31 {h : DHeap} {id o : Nat} {k : IntKind} {n : Int} : dStore Try.prog 31 (.pointer (some ⟨id, o, none⟩)) (.int k n) h = storeAt h id o [(.int k n)] := dStore_one one_31 rfl
theorem stl_91 {h : DHeap} {id o : Nat} {a : Option Addr} {m c : Nat} : dStore Try.prog 91 (.pointer (some ⟨id, o, none⟩)) (.slice a m c) h = storeAt h id o [(.slice a m c)] := dStore_one one_91 rfl
attribute [go_sem] sti_2 sti_3 stb_4 sti_31 stl_91
end Go.Proofs.Ytbdljpndncohaaa

namespace Go.D

structure Key where
  t : Int
  r : Int
  deriving DecidableEq
structure Cell where
  k : Key
  v : Int
  s : Int
  deriving DecidableEq
structure Pair where
  k : Key
  v : Int
  deriving DecidableEq
abbrev fI64 := fI .i64
abbrev fU8 := fI .u8
def fKey : FRep Key := fM (fP (fI .i32) (fI .i64)) (fun k => (k.t, k.r)) fun x y h => by
  cases x; cases y; simp at h; simp [h]
def fPair : FRep Pair := fM (fP fKey (fI .i64)) (fun c => (c.k, c.v)) fun x y h => by
  cases x; cases y; simp at h; simp [h]
/-- a result: how it ended, what it answered, at which place -/
structure Res where
  e : Int
  vs : List Int
  s : Int
  p : Int
structure Row where
  ses : Int
  req : Int
  x : Res
def rRes : Rep Res := rM (rP (fI64.rep) (rP (rSl fI64.rep) (rP (fI64.rep) (fI64.rep)))) fun x => (x.e, x.vs, x.s, x.p)
/-! ### Numbers -/
theorem wrap_in {k : IntKind} {n : Int} (h : inK k n) : k.wrap n = n := by
  unfold inK IntKind.min IntKind.max IntKind.signed IntKind.bits at h
  unfold IntKind.wrap IntKind.signed IntKind.bits
  cases k <;> simp at h ⊢ <;> omega
theorem inK_u8 {n : Int} : inK .u8 n ↔ 0 ≤ n ∧ n ≤ 255 := by
  simp [inK, IntKind.min, IntKind.max, IntKind.signed, IntKind.bits]
theorem inK_u16 {n : Int} : inK .u16 n ↔ 0 ≤ n ∧ n ≤ 65535 := by
  simp [inK, IntKind.min, IntKind.max, IntKind.signed, IntKind.bits]
theorem inK_i64 {n : Int} : inK .i64 n ↔ -9223372036854775808 ≤ n ∧ n ≤ 9223372036854775807 := by
  simp [inK, IntKind.min, IntKind.max, IntKind.signed, IntKind.bits]
theorem wrap_i64_in {n : Int} (h0 : -9223372036854775808 ≤ n) (h1 : n ≤ 9223372036854775807) : IntKind.i64.wrap n = n := wrap_in (inK_i64.2 ⟨h0, h1⟩)
end Go.D

namespace Go.Proofs.Ytbdljpndncohaaa
open Go.D
set_option maxRecDepth 100000

theorem clone_u8 {h : DHeap} {b : Value} {l : List Int} (hb : Arg fU8.rep h b l) (hl : l.length ≤ 4294967296) : DC Try.prog 50 [b] h (.ret (cloneV h b l)) (cloneH fU8 h b l) := by
  refine Ct.cloned hb (go_50 (by simp) ?_)
  simp -implicitDefEqProofs (disch := first | omega | (simp only [go_sem, List.size_toArray, List.length_cons, List.length_nil, Nat.reduceAdd]; done)) only [go_sem, Int.reduceLT, Int.reduceLE, Int.reduceEq, reduceIte, c50, hb.nilEq isl_22]
  refine XIf_split (fun hn => ?_) (fun hn => ?_)
  · simp -implicitDefEqProofs (disch := first | omega | (simp only [go_sem, List.size_toArray, List.length_cons, List.length_nil, Nat.reduceAdd]; done)) only [go_sem, Int.reduceLT, Int.reduceLE, Int.reduceEq, reduceIte]
    obtain ⟨_, rfl⟩ := isNilV_nil hb hn
    exact ⟨_, rfl, _, rfl, .nil _ (.refl h), hn.symm⟩
  · have m0 : Made fU8 h (h.push (.row [] 1 false)) (.slice (some ⟨h.next, 0, none⟩) 0 0) [] := .none0 fU8 (.refl h) rfl
    obtain ⟨v2, h2, e2, m2, k2⟩ := m0.append app_22 (hb.ext (Ext.push1 _ _)) (by simpa using hl) (by decide)
    simp -implicitDefEqProofs (disch := first | omega | (simp only [go_sem, List.size_toArray, List.length_cons, List.length_nil, Nat.reduceAdd]; done)) only [go_sem, Int.reduceLT, Int.reduceLE, Int.reduceEq, reduceIte, e2]
    exact ⟨_, rfl, _, rfl, m2, (m0.isNil_append rfl m2 fun hk => (k2 hk).1).trans hn.symm⟩

end Go.Proofs.Ytbdljpndncohaaa

namespace Go.Proofs.Ytbdljpndncohaaa
open Go.D
set_option maxRecDepth 100000

end Go.Proofs.Ytbdljpndncohaaa

namespace Go.Proofs.Ytbdljpndncohaaa
open Go.D
set_option maxRecDepth 100000

end Go.Proofs.Ytbdljpndncohaaa

namespace Go.Proofs.Ytbdljpndncohaaa
open Go.D
set_option maxRecDepth 100000

theorem nan32_c {h : DHeap} {n : Int} : DC Try.prog 81 [.int .i32 n] h (.ret (.bool false)) h := by
  refine Ct.pure (go_81 (by simp) ?_) (vin_bool _)
  simp -implicitDefEqProofs (disch := first | omega | (simp only [go_sem, List.size_toArray, List.length_cons, List.length_nil, Nat.reduceAdd]; done)) only [go_sem, Int.reduceLT, Int.reduceLE, Int.reduceEq, reduceIte, c81]
  exact ⟨_, rfl, rfl, .refl h⟩
theorem nan64_c {h : DHeap} {n : Int} : DC Try.prog 82 [.int .i64 n] h (.ret (.bool false)) h := by
  refine Ct.pure (go_82 (by simp) ?_) (vin_bool _)
  simp -implicitDefEqProofs (disch := first | omega | (simp only [go_sem, List.size_toArray, List.length_cons, List.length_nil, Nat.reduceAdd]; done)) only [go_sem, Int.reduceLT, Int.reduceLE, Int.reduceEq, reduceIte, c82]
  exact ⟨_, rfl, rfl, .refl h⟩
def cmpI (a b : Int) : Int := if a < b then -1 else if b < a then 1 else 0
theorem cmp32_c {h : DHeap} {a b : Int} : DC Try.prog 67 [.int .i32 a, .int .i32 b] h (.ret (.int .i64 (cmpI a b))) h := by
  refine Ct.pure (go_67 (by simp) ?_) (vin_int _ _)
  unfold cmpI
  simp -implicitDefEqProofs (disch := first | omega | (simp only [go_sem, List.size_toArray, List.length_cons, List.length_nil, Nat.reduceAdd]; done)) only [go_sem, Int.reduceLT, Int.reduceLE, Int.reduceEq, reduceIte, c67]
  refine ncall nan32_c ?_
  simp -implicitDefEqProofs (disch := first | omega | (simp only [go_sem, List.size_toArray, List.length_cons, List.length_nil, Nat.reduceAdd]; done)) only [go_sem, Int.reduceLT, Int.reduceLE, Int.reduceEq, reduceIte]
  refine ncall nan32_c ?_
  by_cases h0 : a < b
  · simp -implicitDefEqProofs (disch := first | omega | (simp only [go_sem, List.size_toArray, List.length_cons, List.length_nil, Nat.reduceAdd]; done)) only [go_sem, Int.reduceLT, Int.reduceLE, Int.reduceEq, reduceIte, h0]
    exact ⟨_, rfl, rfl, .refl h⟩
  by_cases h1 : b < a
  · simp -implicitDefEqProofs (disch := first | omega | (simp only [go_sem, List.size_toArray, List.length_cons, List.length_nil, Nat.reduceAdd]; done)) only [go_sem, Int.reduceLT, Int.reduceLE, Int.reduceEq, reduceIte, h0, gt_iff_lt, h1]
    exact ⟨_, rfl, rfl, .refl h⟩
  · simp -implicitDefEqProofs (disch := first | omega | (simp only [go_sem, List.size_toArray, List.length_cons, List.length_nil, Nat.reduceAdd]; done)) only [go_sem, Int.reduceLT, Int.reduceLE, Int.reduceEq, reduceIte, h0, gt_iff_lt, h1]
    exact ⟨_, rfl, rfl, .refl h⟩
theorem cmp64_c {h : DHeap} {a b : Int} : DC Try.prog 68 [.int .i64 a, .int .i64 b] h (.ret (.int .i64 (cmpI a b))) h := by
  refine Ct.pure (go_68 (by simp) ?_) (vin_int _ _)
  unfold cmpI
  simp -implicitDefEqProofs (disch := first | omega | (simp only [go_sem, List.size_toArray, List.length_cons, List.length_nil, Nat.reduceAdd]; done)) only [go_sem, Int.reduceLT, Int.reduceLE, Int.reduceEq, reduceIte, c68]
  refine ncall nan64_c ?_
  simp -implicitDefEqProofs (disch := first | omega | (simp only [go_sem, List.size_toArray, List.length_cons, List.length_nil, Nat.reduceAdd]; done)) only [go_sem, Int.reduceLT, Int.reduceLE, Int.reduceEq, reduceIte]
  refine ncall nan64_c ?_
  by_cases h0 : a < b
  · simp -implicitDefEqProofs (disch := first | omega | (simp only [go_sem, List.size_toArray, List.length_cons, List.length_nil, Nat.reduceAdd]; done)) only [go_sem, Int.reduceLT, Int.reduceLE, Int.reduceEq, reduceIte, h0]
    exact ⟨_, rfl, rfl, .refl h⟩
  by_cases h1 : b < a
  · simp -implicitDefEqProofs (disch := first | omega | (simp only [go_sem, List.size_toArray, List.length_cons, List.length_nil, Nat.reduceAdd]; done)) only [go_sem, Int.reduceLT, Int.reduceLE, Int.reduceEq, reduceIte, h0, gt_iff_lt, h1]
    exact ⟨_, rfl, rfl, .refl h⟩
  · simp -implicitDefEqProofs (disch := first | omega | (simp only [go_sem, List.size_toArray, List.length_cons, List.length_nil, Nat.reduceAdd]; done)) only [go_sem, Int.reduceLT, Int.reduceLE, Int.reduceEq, reduceIte, h0, gt_iff_lt, h1]
    exact ⟨_, rfl, rfl, .refl h⟩
def orI : List Int → Int
  | [] => 0
  | a :: l => if a = 0 then orI l else a
theorem or_c {h : DHeap} {b : Value} {l : List Int} (hb : Arg fI64.rep h b l) (hlen : l.length ≤ 4294967296) : DC Try.prog 66 [b] h (.ret (.int .i64 (orI l))) h := by
  refine Ct.pure (go_66 (by simp) ?_) (vin_int _ _)
  have el := hb.dLen (P := Try.prog) (ts := #[131]) (t := 131) rfl isl_131
  simp -implicitDefEqProofs (disch := first | omega | (simp only [go_sem, List.size_toArray, List.length_cons, List.length_nil, Nat.reduceAdd]; done)) only [go_sem, Int.reduceLT, Int.reduceLE, Int.reduceEq, reduceIte, c66, el]
  refine xloop (σ := Nat) (by kernel_rfl) (fun i s => s.df = [] ∧ s.h = h ∧ s.fr 3 = some (.int .i64 0) ∧ s.fr 6 = some b ∧ s.fr 7 = some (.int .i64 l.length) ∧ s.fr 8 = some (.int .i64 (i : Nat)) ∧ i ≤ l.length ∧ orI (l.drop i) = orI l) (fun i => l.length - i) 0 ?_ ?_
  · simp -implicitDefEqProofs (disch := first | omega | (simp only [go_sem, List.size_toArray, List.length_cons, List.length_nil, Nat.reduceAdd]; done)) only [go_sem, Int.reduceLT, Int.reduceLE, Int.reduceEq, reduceIte]
    exact ⟨by trivial, by trivial, by trivial, by trivial, by trivial, by trivial, Nat.zero_le _, by rw [List.drop_zero]⟩
  · rintro i ⟨fr, df, hh, rd⟩ K hK hX ⟨rfl, rfl, h3, h6, h7, h8, hi, ho⟩
    simp only at h3 h6 h7 h8
    simp -implicitDefEqProofs (disch := first | omega | (simp only [go_sem, List.size_toArray, List.length_cons, List.length_nil, Nat.reduceAdd]; done)) only [go_sem, Int.reduceLT, Int.reduceLE, Int.reduceEq, reduceIte, h3, h6, h7, h8]
    refine XIf_dec (fun hc1 => ?_) (fun hc1 => ?_)
    · have hj : i < l.length := by omega
      obtain ⟨id2, o2, e2, _, hat2⟩ := hb.idx (P := Try.prog) (t := 131) el_131 (k := .i64) (i := i) (x := l[i]) (by simp)
      have hw := wrap_succ hj (by omega)
      rw [List.drop_eq_getElem_cons hj] at ho
      by_cases hx : l[i] = 0
      · simp -implicitDefEqProofs (disch := first | omega | (simp only [go_sem, List.size_toArray, List.length_cons, List.length_nil, Nat.reduceAdd]; done)) only [go_sem, Int.reduceLT, Int.reduceLE, Int.reduceEq, reduceIte, h3, h6, h7, h8, e2, hat2.int, hx, hw]
        refine hK (i + 1) _ ?_ (by omega)
        exact ⟨by trivial, by trivial, by simp -implicitDefEqProofs (disch := first | omega | (simp only [go_sem, List.size_toArray, List.length_cons, List.length_nil, Nat.reduceAdd]; done)) only [go_sem, Int.reduceLT, Int.reduceLE, Int.reduceEq, reduceIte, h3], by simp -implicitDefEqProofs (disch := first | omega | (simp only [go_sem, List.size_toArray, List.length_cons, List.length_nil, Nat.reduceAdd]; done)) only [go_sem, Int.reduceLT, Int.reduceLE, Int.reduceEq, reduceIte, h6], by simp -implicitDefEqProofs (disch := first | omega | (simp only [go_sem, List.size_toArray, List.length_cons, List.length_nil, Nat.reduceAdd]; done)) only [go_sem, Int.reduceLT, Int.reduceLE, Int.reduceEq, reduceIte, h7], by simp -implicitDefEqProofs (disch := first | omega | (simp only [go_sem, List.size_toArray, List.length_cons, List.length_nil, Nat.reduceAdd]; done)) only [go_sem, Int.reduceLT, Int.reduceLE, Int.reduceEq, reduceIte], by omega, by rw [← ho, orI, if_pos hx]⟩
      · simp -implicitDefEqProofs (disch := first | omega | (simp only [go_sem, List.size_toArray, List.length_cons, List.length_nil, Nat.reduceAdd]; done)) only [go_sem, Int.reduceLT, Int.reduceLE, Int.reduceEq, reduceIte, h3, h6, h7, h8, e2, hat2.int, hx, hw]
        refine hX _ _ (by simp) ?_
        simp -implicitDefEqProofs (disch := first | omega | (simp only [go_sem, List.size_toArray, List.length_cons, List.length_nil, Nat.reduceAdd]; done)) only [go_sem, Int.reduceLT, Int.reduceLE, Int.reduceEq, reduceIte]
        refine ⟨_, rfl, ?_, .refl hh⟩
        rw [← ho, orI, if_neg hx]
    · obtain rfl : i = l.length := by omega
      refine hX _ _ (by simp) ?_
      simp -implicitDefEqProofs (disch := first | omega | (simp only [go_sem, List.size_toArray, List.length_cons, List.length_nil, Nat.reduceAdd]; done)) only [go_sem, Int.reduceLT, Int.reduceLE, Int.reduceEq, reduceIte, h3]
      refine ⟨_, rfl, ?_, .refl hh⟩
      rw [← ho, List.drop_length]; rfl
end Go.Proofs.Ytbdljpndncohaaa

namespace Go.Proofs.Ytbdljpndncohaaa
open Go.D
set_option maxRecDepth 100000

abbrev keyV (k : Key) : Value := .agg #[.int .i32 k.t, .int .i64 k.r]
def keyLt (a b : Key) : Bool := decide (a.t < b.t) || (decide (a.t = b.t) && decide (a.r < b.r))
def keyCmp (a b : Key) : Int := if cmpI a.t b.t = 0 then cmpI a.r b.r else cmpI a.t b.t
theorem cmpI_zero {a b : Int} : cmpI a b = 0 ↔ a = b := by
  unfold cmpI; split
  · constructor <;> intro h <;> omega
  · split
    · constructor <;> intro h <;> omega
    · constructor <;> intro h <;> omega
theorem cmpI_neg {a b : Int} : cmpI a b < 0 ↔ a < b := by
  unfold cmpI; split
  · constructor <;> intro h <;> omega
  · split
    · constructor <;> intro h <;> omega
    · constructor <;> intro h <;> omega
theorem keyCmp_neg (a b : Key) : decide (keyCmp a b < 0) = keyLt a b := by
  unfold keyCmp keyLt
  by_cases h : a.t = b.t
  · rw [if_pos (cmpI_zero.2 h)]
    rw [show decide (a.t < b.t) = false by simp; omega, show decide (a.t = b.t) = true by simp [h]]
    simp [cmpI_neg]
  · rw [if_neg (fun hh => h (cmpI_zero.1 hh)), show decide (a.t = b.t) = false by simp [h]]
    simp [cmpI_neg]
theorem keyCmp_or (a b : Key) : orI [cmpI a.t b.t, cmpI a.r b.r] = keyCmp a b := by
  unfold keyCmp orI orI orI
  split
  · split
    · rename_i h; exact h.symm
    · rfl
  · rfl
theorem cmpI_ok (a b : Int) : inK .i64 (cmpI a b) := by
  unfold cmpI; split
  · exact inK_i64.2 ⟨by decide, by decide⟩
  · split <;> exact inK_i64.2 ⟨by decide, by decide⟩
theorem compare_c {h : DHeap} {a b : Key} : DC Try.prog 53 [keyV a, keyV b] h (.ret (.int .i64 (keyCmp a b))) h := by
  refine Ct.pure (go_53 (by simp) ?_) (vin_int _ _)
  simp -implicitDefEqProofs (disch := first | omega | (simp only [go_sem, List.size_toArray, List.length_cons, List.length_nil, Nat.reduceAdd]; done)) only [go_sem, Int.reduceLT, Int.reduceLE, Int.reduceEq, reduceIte, c53]
  refine dr_53_0 ?_
  simp -implicitDefEqProofs (disch := first | omega | (simp only [go_sem, List.size_toArray, List.length_cons, List.length_nil, Nat.reduceAdd]; done)) only [go_sem, Int.reduceLT, Int.reduceLE, Int.reduceEq, reduceIte, l53_0, cellAt_p1, cellAt_p0, Nat.add_zero, Nat.zero_add]
  refine dcall cmp32_c ?_
  simp -implicitDefEqProofs (disch := first | omega | (simp only [go_sem, List.size_toArray, List.length_cons, List.length_nil, Nat.reduceAdd]; done)) only [go_sem, Int.reduceLT, Int.reduceLE, Int.reduceEq, reduceIte, l53_0, cellAt_p1, cellAt_p0, Nat.add_zero, Nat.zero_add]
  refine dcall cmp64_c ?_
  simp -implicitDefEqProofs (disch := first | omega | (simp only [go_sem, List.size_toArray, List.length_cons, List.length_nil, Nat.reduceAdd]; done)) only [go_sem, Int.reduceLT, Int.reduceLE, Int.reduceEq, reduceIte]
  have ha : ∀ K : DHeap, Arg fI64.rep (K.push (.row [.int .i64 (cmpI a.t b.t), .int .i64 (cmpI a.r b.r)] 1 false)) (.slice (some ⟨K.next, 0, none⟩) 2 2) [cmpI a.t b.t, cmpI a.r b.r] := fun K =>
    built fI64 K rfl rfl rfl (fun x hx => by
      rcases List.mem_cons.1 hx with rfl | hx
      · exact cmpI_ok _ _
      · rw [List.mem_singleton.1 hx]; exact cmpI_ok _ _)
  refine dcall (or_c (ha _) (Nat.le_of_ble_eq_true rfl)) ?_
  rw [keyCmp_or]
  simp -implicitDefEqProofs (disch := first | omega | (simp only [go_sem, List.size_toArray, List.length_cons, List.length_nil, Nat.reduceAdd]; done)) only [go_sem, Int.reduceLT, Int.reduceLE, Int.reduceEq, reduceIte, Nat.reduceAdd]
  refine ⟨⟨XSt1_at (i := 6) (j := 4) rfl rfl rfl ?_, XSt1_at (i := 8) (j := 4) rfl rfl rfl ?_, trivial⟩, _, rfl, rfl, ((Ext.push1 _ _).push _).push _⟩
  · rw [if_pos (by decide)]
    refine Ld_on (p := .pointer (some ⟨h.next, 1, none⟩)) ?_ ?_ (ld_2.trans cellAt_p1)
    · simp -implicitDefEqProofs (disch := first | omega | (simp only [go_sem, List.size_toArray, List.length_cons, List.length_nil, Nat.reduceAdd]; done)) only [go_sem, Int.reduceLT, Int.reduceLE, Int.reduceEq, reduceIte]
    · simp -implicitDefEqProofs (disch := first | omega | (simp only [go_sem, List.size_toArray, List.length_cons, List.length_nil, Nat.reduceAdd]; done)) only [go_sem, Int.reduceLT, Int.reduceLE, Int.reduceEq, reduceIte]
  · rw [if_pos (by decide)]
    refine Ld_on (p := .pointer (some ⟨_, 1, none⟩)) ?_ ?_ (ld_2.trans cellAt_p0)
    · simp -implicitDefEqProofs (disch := first | omega | (simp only [go_sem, List.size_toArray, List.length_cons, List.length_nil, Nat.reduceAdd]; done)) only [go_sem, Int.reduceLT, Int.reduceLE, Int.reduceEq, reduceIte]
    · simp -implicitDefEqProofs (disch := first | omega | (simp only [go_sem, List.size_toArray, List.length_cons, List.length_nil, Nat.reduceAdd]; done)) only [go_sem, Int.reduceLT, Int.reduceLE, Int.reduceEq, reduceIte]
/-- each below the next -/
def risesB {α : Type} (lt : α → α → Bool) : List α → Bool
  | a :: b :: l => lt a b && risesB lt (b :: l)
  | _ => true
theorem risesB_short {α : Type} {lt : α → α → Bool} : ∀ {l : List α}, l.length ≤ 1 → risesB lt l = true
  | [], _ => rfl
  | [_], _ => rfl
  | _ :: _ :: _, h => by simp at h
theorem risesB_two {α : Type} {lt : α → α → Bool} {l : List α} {j : Nat} (h : j + 1 < l.length) : risesB lt (l.drop j) = (lt l[j] l[j + 1] && risesB lt (l.drop (j + 1))) := by
  rw [List.drop_eq_getElem_cons (show j < l.length by omega), List.drop_eq_getElem_cons h, risesB]
end Go.Proofs.Ytbdljpndncohaaa

namespace Go.Proofs.Ytbdljpndncohaaa
open Go.D
set_option maxRecDepth 100000

end Go.Proofs.Ytbdljpndncohaaa

namespace Go.Proofs.Ytbdljpndncohaaa
open Go.D
set_option maxRecDepth 100000

end Go.Proofs.Ytbdljpndncohaaa

namespace Go.Proofs.Ytbdljpndncohaaa
open Go.D
set_option maxRecDepth 100000

end Go.Proofs.Ytbdljpndncohaaa

namespace Go.Proofs.Ytbdljpndncohaaa
open Go.D
set_option maxRecDepth 100000

theorem fld_key : fldsOf Try.prog 54 = some [(21, 0), (2, 1)] := by kernel_rfl
theorem und_i32 : Try.prog.underlying 21 = some (.int .i32) := by kernel_rfl
theorem und_i64 : Try.prog.underlying 2 = some (.int .i64) := by kernel_rfl
theorem grd_key : Try.prog.eqGuardType Try.prog.depth 54 = false := by kernel_rfl
theorem Key.ext_iff' {a b : Key} : a = b ↔ a.t = b.t ∧ a.r = b.r := by cases a; cases b; simp
theorem Cell.ext_iff' {a b : Cell} : a = b ↔ a.k = b.k ∧ a.v = b.v ∧ a.s = b.s := by cases a; cases b; simp
theorem key_eq (d : Nat) (a b : Key) : quick Try.prog (Op.equalIn (d + 1 + 1) 54 (keyV a) (keyV b)) = some (.inr (decide (a = b))) := by
  refine quick_struct fld_key ⟨_, _, _, _, quick_part_one one_21 rfl, quick_part_one one_21 rfl, quick_int und_i32, ⟨_, _, _, _, quick_part_one one_2 rfl, quick_part_one one_2 rfl, quick_int und_i64, rfl, rfl⟩, ?_⟩
  rw [decide_eq_decide.2 Key.ext_iff', Bool.decide_and, Bool.and_true]
  rfl
theorem bin_key {a b : Key} {h : DHeap} {ox oy : Operand} : dBinOp Try.prog .neq 54 ox oy (keyV a) (keyV b) h = .ok (.value (.bool (!decide (a = b)))) h := (bin_agg rfl rfl grd_key (key_eq 9998 a b)).2
theorem bin_key' {a b : Key} {h : DHeap} {ox oy : Operand} : dBinOp Try.prog .eql 54 ox oy (keyV a) (keyV b) h = .ok (.value (.bool (decide (a = b)))) h := (bin_agg rfl rfl grd_key (key_eq 9998 a b)).1

end Go.Proofs.Ytbdljpndncohaaa

namespace Go.Proofs.Ytbdljpndncohaaa
open Go.D
set_option maxRecDepth 100000

end Go.Proofs.Ytbdljpndncohaaa

namespace Go.Proofs.Ytbdljpndncohaaa
open Go.D
set_option maxRecDepth 100000

end Go.Proofs.Ytbdljpndncohaaa

namespace Go.Proofs.Ytbdljpndncohaaa
open Go.D
set_option maxRecDepth 100000

end Go.Proofs.Ytbdljpndncohaaa

namespace Go.Proofs.Ytbdljpndncohaaa
open Go.D
set_option maxRecDepth 100000

theorem Sl.upto {S : Nat → Prop} {h h1 : DHeap} {b : Value} {l : List Int} (hb : Sl fU8.rep S h b l) (e : ∀ i, S i → h1.get i = h.get i) : Sl fU8.rep S h1 b l := hb.keep e
end Go.Proofs.Ytbdljpndncohaaa

namespace Go.Proofs.Ytbdljpndncohaaa
open Go.D
set_option maxRecDepth 100000

end Go.Proofs.Ytbdljpndncohaaa

namespace Go.Proofs.Ytbdljpndncohaaa
open Go.D
set_option maxRecDepth 100000

end Go.Proofs.Ytbdljpndncohaaa

namespace Go.Proofs.Ytbdljpndncohaaa
open Go.D
set_option maxRecDepth 100000

end Go.Proofs.Ytbdljpndncohaaa

namespace Go.Proofs.Ytbdljpndncohaaa
open Go.Proofs
def sortKey_ren : Go.Shelf.Ren := ⟨fun | 6 => 52 | 15 => 65 | 14 => 64 | 28 => 79 | 29 => 80 | 20 => 71 | 21 => 72 | 22 => 73 | 23 => 74 | 24 => 75 | 25 => 76 | 26 => 77 | 27 => 78 | 46 => 91 | 47 => 92 | 48 => 93 | 49 => 94 | 50 => 95 | 57 => 96 | n => n, fun | 22 => 24 | 24 => 54 | 25 => 101 | 3 => 3 | 39 => 110 | 0 => 0 | 53 => 128 | 55 => 130 | 4 => 4 | 46 => 121 | 45 => 120 | 50 => 125 | 5 => 5 | 9 => 9 | 66 => 138 | 70 => 142 | 76 => 147 | 77 => 148 | n => n, fun | n => n⟩
theorem sortKey : SlLaysF0.n6 Try.prog sortKey_ren where
  mixed := by kernel_rfl
  f6 := ⟨ "slices.SortFunc[[]trivet/api.Key,trivet/api.Key]", by decide, Try.func52.trans (congrArg some (by kernel_rfl))⟩
  f14 := ⟨ "slices.pdqsortCmpFunc[trivet/api.Key]", by decide, Try.func64.trans (congrArg some (by kernel_rfl))⟩
  f15 := Try.func65.trans (congrArg some (by kernel_rfl))
  f20 := ⟨ "slices.insertionSortCmpFunc[trivet/api.Key]", by decide, Try.func71.trans (congrArg some (by kernel_rfl))⟩
  f21 := ⟨ "slices.heapSortCmpFunc[trivet/api.Key]", by decide, Try.func72.trans (congrArg some (by kernel_rfl))⟩
  f22 := ⟨ "slices.breakPatternsCmpFunc[trivet/api.Key]", by decide, Try.func73.trans (congrArg some (by kernel_rfl))⟩
  f23 := ⟨ "slices.choosePivotCmpFunc[trivet/api.Key]", by decide, Try.func74.trans (congrArg some (by kernel_rfl))⟩
  f24 := ⟨ "slices.reverseRangeCmpFunc[trivet/api.Key]", by decide, Try.func75.trans (congrArg some (by kernel_rfl))⟩
  f25 := ⟨ "slices.partialInsertionSortCmpFunc[trivet/api.Key]", by decide, Try.func76.trans (congrArg some (by kernel_rfl))⟩
  f26 := ⟨ "slices.partitionEqualCmpFunc[trivet/api.Key]", by decide, Try.func77.trans (congrArg some (by kernel_rfl))⟩
  f27 := ⟨ "slices.partitionCmpFunc[trivet/api.Key]", by decide, Try.func78.trans (congrArg some (by kernel_rfl))⟩
  f28 := Try.func79.trans (congrArg some (by kernel_rfl))
  f29 := Try.func80.trans (congrArg some (by kernel_rfl))
  f46 := ⟨ "slices.siftDownCmpFunc[trivet/api.Key]", by decide, Try.func91.trans (congrArg some (by kernel_rfl))⟩
  f47 := Try.func92.trans (congrArg some (by kernel_rfl))
  f48 := Try.func93.trans (congrArg some (by kernel_rfl))
  f49 := ⟨ "slices.medianAdjacentCmpFunc[trivet/api.Key]", by decide, Try.func94.trans (congrArg some (by kernel_rfl))⟩
  f50 := ⟨ "slices.medianCmpFunc[trivet/api.Key]", by decide, Try.func95.trans (congrArg some (by kernel_rfl))⟩
  f57 := ⟨ "slices.order2CmpFunc[trivet/api.Key]", by decide, Try.func96.trans (congrArg some (by kernel_rfl))⟩
  t0 := Try.underlying0
  a0 := Try.isAgg0
  z0 := Try.sizeOf0
  v0 := Try.zeroValue0
  t3 := Try.underlying3
  a3 := Try.isAgg3
  z3 := Try.sizeOf3
  v3 := Try.zeroValue3
  t4 := Try.underlying4
  a4 := Try.isAgg4
  z4 := Try.sizeOf4
  v4 := Try.zeroValue4
  t5 := Try.underlying5
  a5 := Try.isAgg5
  z5 := Try.sizeOf5
  v5 := Try.zeroValue5
  t9 := Try.underlying9
  a9 := Try.isAgg9
  z9 := Try.sizeOf9
  v9 := Try.zeroValue9
  t22 := Try.underlying24
  a22 := Try.isAgg24
  z22 := Try.sizeOf24
  v22 := Try.zeroValue24
  t25 := Try.underlying101
  a25 := Try.isAgg101
  z25 := Try.sizeOf101
  v25 := Try.zeroValue101
  t39 := Try.underlying110
  a39 := Try.isAgg110
  z39 := Try.sizeOf110
  v39 := Try.zeroValue110
  t45 := Try.underlying120
  a45 := Try.isAgg120
  z45 := Try.sizeOf120
  v45 := Try.zeroValue120
  t46 := Try.underlying121
  a46 := Try.isAgg121
  z46 := Try.sizeOf121
  v46 := Try.zeroValue121
  t50 := Try.underlying125
  a50 := Try.isAgg125
  z50 := Try.sizeOf125
  v50 := Try.zeroValue125
  t53 := Try.underlying128
  a53 := Try.isAgg128
  z53 := Try.sizeOf128
  v53 := Try.zeroValue128
  t55 := Try.underlying130
  a55 := Try.isAgg130
  z55 := Try.sizeOf130
  v55 := Try.zeroValue130
  t66 := Try.underlying138
  a66 := Try.isAgg138
  z66 := Try.sizeOf138
  v66 := Try.zeroValue138
  t70 := Try.underlying142
  a70 := Try.isAgg142
  z70 := Try.sizeOf142
  v70 := Try.zeroValue142
  t76 := Try.underlying147
  a76 := Try.isAgg147
  z76 := Try.sizeOf147
  v76 := Try.zeroValue147
  t77 := Try.underlying148
  a77 := Try.isAgg148
  z77 := Try.sizeOf148
  v77 := Try.zeroValue148
end Go.Proofs.Ytbdljpndncohaaa

namespace Go.D
open Go.Proofs.Ytbdljpndncohaaa (Rows.uptoBulk Rows.uptoBulkAll)
variable {P : Program}

/-- a picture of which nothing may be written -/
structure Rds (ι : Inj) (h : DHeap) (W : World) : Prop where
  sim : Sim ι h W
  ro : ∀ id e, ι id = some e → e.ro = true
/-- there are cells -/
def Blk (W : World) : Prop := ∃ (b : Nat) (c : Array Value) (t : TypeId) (fz : Nat × Nat), W.heap[b]? = some (Obj.cells c t fz)
/-- there are, if a slice names some -/
def BlkOf (W : World) (cs : List Value) : Prop := ∀ a len cap, Value.slice (some a) len cap ∈ cs → Blk W
theorem BlkOf.of {W : World} (b : Blk W) (cs : List Value) : BlkOf W cs := fun _ _ _ _ => b
theorem BlkOf.sub {W : World} {cs ds : List Value} (b : BlkOf W cs) (h : ∀ v ∈ ds, v ∈ cs) : BlkOf W ds := fun a l c hm => b a l c (h _ hm)
theorem Rds.none (W : World) : Rds (fun _ => none) ⟨fun _ => none, 0, 0⟩ W :=
  ⟨⟨fun _ _ h => (by cases h), fun _ _ h => (by cases h), fun _ _ h => (by cases h), fun _ _ _ _ h => (by cases h), fun g hg => absurd hg (Nat.not_lt_zero _)⟩, fun _ _ h => by cases h⟩
theorem Rds.push {ι : Inj} {h : DHeap} {W : World} (s : Rds ι h W) {b : Nat} {cur : Array Value} {ty : TypeId} {fz : Nat × Nat} (hb : W.heap[b]? = some (.cells cur ty fz)) (shift z : Nat) {cells : List Value}
    (hc : ∀ (i : Nat) v, cells[i]? = some v → ∃ v', cur[shift + i]? = some v' ∧ VRel ι v v') :
    Rds (ι.upd h.next ⟨b, shift, z, 0, true⟩) (h.push (.row cells z true)) W ∧ ι.le (ι.upd h.next ⟨b, shift, z, 0, true⟩) ∧ Ext h (h.push (.row cells z true)) := by
  have hle : ι.le (ι.upd h.next ⟨b, shift, z, 0, true⟩) := Inj.upd_le s.sim.fresh
  have hbl : b < W.heap.size := by
    cases hx : W.heap[b]? with
    | none => rw [hx] at hb; cases hb
    | some _ => exact (Array.getElem?_eq_some_iff.1 hx).1
  have hcase : ∀ id e, (ι.upd h.next ⟨b, shift, z, 0, true⟩) id = some e → (id = h.next ∧ e = ⟨b, shift, z, 0, true⟩) ∨ (id ≠ h.next ∧ ι id = some e) := by
    intro id e he
    unfold Inj.upd at he
    split at he
    · cases he; exact .inl ⟨‹_›, rfl⟩
    · exact .inr ⟨‹_›, he⟩
  have hro : ∀ id e, (ι.upd h.next ⟨b, shift, z, 0, true⟩) id = some e → e.ro = true := by
    intro id e he
    rcases hcase id e he with ⟨_, rfl⟩ | ⟨_, he⟩
    · rfl
    · exact s.ro id e he
  refine ⟨⟨⟨?_, ?_, ?_, ?_, ?_⟩, hro⟩, hle, Ext.push1 _ _⟩
  · intro id e he
    rcases hcase id e he with ⟨rfl, _⟩ | ⟨_, he⟩
    · exact Nat.lt_succ_self _
    · exact Nat.lt_succ_of_lt (s.sim.lt id e he)
  · intro id e he
    rcases hcase id e he with ⟨_, rfl⟩ | ⟨_, he⟩
    · exact hbl
    · exact s.sim.blk id e he
  · intro id e he
    rcases hcase id e he with ⟨rfl, rfl⟩ | ⟨_, he⟩
    · refine ⟨_, get_push_same _ _, rfl, rfl, cur, ty, fz, hb, fun i v hv => ?_, fun hh => by cases hh⟩
      obtain ⟨v', a, r⟩ := hc i v hv
      exact ⟨v', a, r.mono hle⟩
    · obtain ⟨o, a, r⟩ := s.sim.obj id e he
      exact ⟨o, (get_push_other _ _ (s.sim.lt id e he)).trans a, r.mono hle rfl⟩
  · intro id id' e e' he he' _ _
    exact .inr (.inr ⟨hro _ _ he, hro _ _ he'⟩)
  · intro g hg
    obtain ⟨e, a, r⟩ := s.sim.glob g hg
    exact ⟨e, hle _ _ a, r⟩

/-- the cells of a type's data lie as 'R' reads them; the bulk of what is read is at most that of the datum; and they stay as they are read -/
structure Lays {α : Type} (P : Program) (t : TypeId) (R : Rep α) (B : α → Nat) : Prop where
  size : P.cellsOf t = R.z
  lay : ∀ {H : Type} (enc : TypeId × Value → H) (W : World) (n : Nat) (cs : List Value) (x : DataW H × List MemPlace), DataW.trod enc P W 0 (fun _ => true) true n t cs = some x → BlkOf W cs → ∀ (ι : Inj) (h : DHeap), Rds ι h W →
    ∃ ι' h' cs0 y, Rds ι' h' W ∧ ι.le ι' ∧ Ext h h' ∧ LRel ι' cs0 cs ∧ R.rd (fun i => i < h'.next) h' cs0 y ∧ B y ≤ Rows.uptoBulk x.1
  stay : ∀ {H : Type} (enc : TypeId × Value → H) (W W' : World) (n : Nat) (cs : List Value) (x : DataW H × List MemPlace) (sp : Nat → Bool), DataW.trod enc P W 0 (fun _ => true) true n t cs = some x → (∀ p ∈ x.2, W.sameAt W' p) → (∀ p ∈ x.2, sp p.block = true) →
    DataW.trod enc P W' 0 sp true n t cs = some x

theorem Rows.one_le {H : Type} (d : DataW H) : 1 ≤ Rows.uptoBulk d := by
  cases d with
  | lit l => cases l <;> simp [Rows.uptoBulk]
  | nil => simp [Rows.uptoBulk]
  | ptr d => simp [Rows.uptoBulk]
  | slice elems spare => simp [Rows.uptoBulk]
  | agg parts => simp [Rows.uptoBulk]
  | iface t d => simp [Rows.uptoBulk]
  | map entries => simp [Rows.uptoBulk]
  | held h => simp [Rows.uptoBulk]
theorem wf_in {k : IntKind} {n : Int} (h : (Lit.int k n).wf = true) : inK k n := by
  simpa [Lit.wf, inK] using h
theorem trod_pos {H : Type} {enc : TypeId × Value → H} {W : World} {base : Nat} {sp : Nat → Bool} {hd : Bool} {n : Nat} {t : TypeId} {cs : List Value} {x : DataW H × List MemPlace} (h : DataW.trod enc P W base sp hd n t cs = some x) : ∃ m, n = m + 1 := by
  cases n with
  | zero => simp [DataW.trod] at h
  | succ m => exact ⟨m, rfl⟩
theorem Lays.int {t : TypeId} {k : IntKind} (hu : P.underlying t = some (.int k)) (hz : P.cellsOf t = 1) : Lays P t (fI k).rep (fun _ => 1) where
  size := hz
  lay enc W n cs x h _ ι hh s := by
    obtain ⟨m, rfl, rfl, hw⟩ := DataW.trod_int hu h
    exact ⟨ι, hh, [.int k m], m, s, Inj.le_refl _, .refl _, (LRel.nil ι).cons (.int _ _), ⟨rfl, wf_in hw⟩, Rows.one_le _⟩
  stay enc W W' n cs x sp h _ _ := by
    obtain ⟨m, rfl⟩ := trod_pos h
    obtain ⟨i, rfl, rfl, hw⟩ := DataW.trod_int hu h
    simp only [DataW.trod, hu]
    rw [if_pos (by simpa using hw)]
theorem Lays.bool {t : TypeId} (hu : P.underlying t = some .bool) (hz : P.cellsOf t = 1) : Lays P t fB.rep (fun _ => 1) where
  size := hz
  lay enc W n cs x h _ ι hh s := by
    obtain ⟨m, rfl, rfl⟩ := DataW.trod_bool hu h
    exact ⟨ι, hh, [.bool m], m, s, Inj.le_refl _, .refl _, (LRel.nil ι).cons (.bool _), ⟨rfl, trivial⟩, Rows.one_le _⟩
  stay enc W W' n cs x sp h _ _ := by
    obtain ⟨m, rfl⟩ := trod_pos h
    obtain ⟨i, rfl, rfl⟩ := DataW.trod_bool hu h
    simp only [DataW.trod, hu]
/-- read in another way -/
theorem Lays.conv {α β : Type} {t : TypeId} {R : Rep α} {B : α → Nat} {Q : Rep β} {C : β → Nat} (a : Lays P t R B) (hz : R.z = Q.z) (f : α → β) (hf : ∀ S h cs x, R.rd S h cs x → Q.rd S h cs (f x)) (hC : ∀ x, C (f x) ≤ B x) : Lays P t Q C where
  size := a.size.trans hz
  lay enc W n cs x h b ι hh s := by
    obtain ⟨ι', h', cs0, y, g1, g2, g3, g4, g5, g6⟩ := a.lay enc W n cs x h b ι hh s
    exact ⟨ι', h', cs0, f y, g1, g2, g3, g4, hf _ _ _ _ g5, Nat.le_trans (hC y) g6⟩
  stay := a.stay

/-! ### Structs -/
/-- fields that lie one behind the other -/
inductive Flds (P : Program) : {α : Type} → Nat → List Field → Rep α → (α → Nat) → Prop
  | one {α : Type} {off : Nat} {f : Field} {R : Rep α} {B : α → Nat} (ho : f.offset = off) (hl : Lays P f.type R B) : Flds P off [f] R B
  | cons {α β : Type} {off : Nat} {f : Field} {fs : List Field} {R : Rep α} {B : α → Nat} {Q : Rep β} {C : β → Nat} (ho : f.offset = off) (hl : Lays P f.type R B) (hr : Flds P (off + R.z) fs Q C) : Flds P off (f :: fs) (rP R Q) (fun x => B x.1 + C x.2)
theorem rd_ext {α : Type} (R : Rep α) {h h' : DHeap} {cs : List Value} {x : α} (a : R.rd (fun i => i < h.next) h cs x) (e : Ext h h') : R.rd (fun i => i < h'.next) h' cs x := R.mono a fun i hi => ⟨Nat.lt_of_lt_of_le hi e.next, e.get i hi⟩
theorem Flds.lay {α : Type} {off : Nat} {fs : List Field} {R : Rep α} {B : α → Nat} (a : Flds P off fs R B) : ∀ {H : Type} (enc : TypeId × Value → H) (W : World) (n : Nat) (cs : List Value) (xs : List (DataW H × List MemPlace)), xs.length = fs.length →
    (∀ (i : Nat) (f : Field), fs[i]? = some f → DataW.trod enc P W 0 (fun _ => true) true n f.type ((cs.drop f.offset).take (P.cellsOf f.type)) = xs[i]?) → BlkOf W cs → ∀ (ι : Inj) (h : DHeap), Rds ι h W →
    ∃ ι' h' cs0 y, Rds ι' h' W ∧ ι.le ι' ∧ Ext h h' ∧ LRel ι' cs0 ((cs.drop off).take R.z) ∧ R.rd (fun i => i < h'.next) h' cs0 y ∧ B y ≤ Rows.uptoBulkAll (xs.map (·.1)) := by
  induction a with
  | @one α off f R B ho hl =>
    intro H enc W n cs xs hlen hx b ι h s
    match xs, hlen with
    | [x], _ =>
      have := hx 0 f rfl
      obtain ⟨ι', h', cs0, y, g1, g2, g3, g4, g5, g6⟩ := hl.lay enc W n _ x this (b.sub fun v hv => List.mem_of_mem_drop (List.mem_of_mem_take hv)) ι h s
      rw [hl.size, ho] at g4
      exact ⟨ι', h', cs0, y, g1, g2, g3, g4, g5, by simp [Rows.uptoBulkAll]; exact g6⟩
  | @cons α β off f fs R B Q C ho hl hr ih =>
    intro H enc W n cs xs hlen hx b ι h s
    match xs, hlen with
    | x :: xs, hlen =>
      have h0 := hx 0 f rfl
      obtain ⟨ι1, h1, c1, y1, g1, g2, g3, g4, g5, g6⟩ := hl.lay enc W n _ x h0 (b.sub fun v hv => List.mem_of_mem_drop (List.mem_of_mem_take hv)) ι h s
      rw [hl.size, ho] at g4
      obtain ⟨ι2, h2, c2, y2, k1, k2, k3, k4, k5, k6⟩ := ih enc W n cs xs (by simpa using hlen) (fun i f hf => by simpa using hx (i + 1) f (by simpa using hf)) b ι1 h1 g1
      refine ⟨ι2, h2, c1 ++ c2, (y1, y2), k1, Inj.le_trans g2 k2, g3.trans k3, ?_, ⟨c1, c2, rfl, rd_ext R g5 k3, k5⟩, ?_⟩
      · have := (g4.mono k2).append k4
        have e : (cs.drop off).take (rP R Q).z = (cs.drop off).take R.z ++ (cs.drop (off + R.z)).take Q.z := by
          show (cs.drop off).take (R.z + Q.z) = _
          rw [List.take_add, List.drop_drop]
        rw [e]; exact this
      · simp only [List.map_cons, Rows.uptoBulkAll]; omega
theorem Flds.stay {α : Type} {off : Nat} {fs : List Field} {R : Rep α} {B : α → Nat} (a : Flds P off fs R B) : ∀ {H : Type} (enc : TypeId × Value → H) (W W' : World) (n : Nat) (cs : List Value) (sp : Nat → Bool) (f : Field) (x : DataW H × List MemPlace), f ∈ fs →
    DataW.trod enc P W 0 (fun _ => true) true n f.type ((cs.drop f.offset).take (P.cellsOf f.type)) = some x → (∀ p ∈ x.2, W.sameAt W' p) → (∀ p ∈ x.2, sp p.block = true) → DataW.trod enc P W' 0 sp true n f.type ((cs.drop f.offset).take (P.cellsOf f.type)) = some x := by
  induction a with
  | one ho hl =>
    intro H enc W W' n cs sp f x hf h1 h2 h3
    simp only [List.mem_singleton] at hf
    subst hf
    exact hl.stay enc W W' n _ x sp h1 h2 h3
  | cons ho hl hr ih =>
    intro H enc W W' n cs sp f x hf h1 h2 h3
    rcases List.mem_cons.1 hf with rfl | hf
    · exact hl.stay enc W W' n _ x sp h1 h2 h3
    · exact ih enc W W' n cs sp f x hf h1 h2 h3
theorem Lays.struct {α : Type} {t : TypeId} {fs : Array Field} {R : Rep α} {B : α → Nat} (hu : P.underlying t = some (.struct fs)) (hz : P.cellsOf t = R.z) (a : Flds P 0 fs.toList R B) : Lays P t R B where
  size := hz
  lay enc W n cs x h b ι hh s := by
    obtain ⟨xs, m, rfl, rfl, hl, hxl, hx⟩ := DataW.trod_struct hu h
    obtain ⟨ι', h', cs0, y, g1, g2, g3, g4, g5, g6⟩ := a.lay enc W m cs xs (by simpa using hxl) (fun i f hf => hx i f (by simpa using hf)) b ι hh s
    refine ⟨ι', h', cs0, y, g1, g2, g3, ?_, g5, ?_⟩
    · rw [List.drop_zero, List.take_of_length_le (by omega)] at g4; exact g4
    · simp only [Rows.uptoBulk]; omega
  stay enc W W' n cs x sp h h2 h3 := by
    obtain ⟨m, rfl⟩ := trod_pos h
    simp only [DataW.trod, hu] at h ⊢
    split at h
    · rename_i hl
      rw [if_pos hl]
      simp only [Option.map_eq_some_iff] at h ⊢
      obtain ⟨xs, hm, rfl⟩ := h
      exact ⟨xs, mapM_carry hm (fun f y hf hy hv => a.stay enc W W' m cs sp f y hf hv (fun p hp => h2 p (List.mem_flatMap.2 ⟨y, hy, hp⟩)) (fun p hp => h3 p (List.mem_flatMap.2 ⟨y, hy, hp⟩))), rfl⟩
    · cases h

/-! ### Slices -/
theorem add_add (a : Addr) (i j : Nat) : ((a.add i).add j).block = a.block ∧ ((a.add i).add j).off = a.off + (i + j) := by
  unfold Addr.add
  split <;> split <;> simp_all [Nat.add_assoc]
theorem cell_at {W : World} {a : Addr} {v : Value} (h : W.cell? a = some v) : a.spot = none ∧ ∃ cur ty fz, W.heap[a.block]? = some (.cells cur ty fz) ∧ cur[a.off]? = some v := by
  unfold World.cell? at h
  split at h
  · rename_i c ty fz e
    split at h
    · cases h
    · rename_i hs
      exact ⟨by simpa using hs, c, ty, fz, e, h⟩
  · cases h
theorem cells_get {W : World} {base : Nat} {a : Addr} {n : Nat} {cs : List Value} (h : W.cells? base a n = some cs) : cs.length = n ∧ ∀ j, j < n → W.cell? (a.add j) = cs[j]? := by
  unfold World.cells? at h
  split at h
  · refine ⟨by simpa using mapM_some_length h, fun j hj => ?_⟩
    exact mapM_some_get h j j (by simp [hj])
  · cases h
def sumB {α : Type} (B : α → Nat) : List α → Nat
  | [] => 0
  | x :: l => max 1 (B x) + sumB B l
theorem sumB_append {α : Type} (B : α → Nat) (l k : List α) : sumB B (l ++ k) = sumB B l + sumB B k := by
  induction l with
  | nil => simp [sumB]
  | cons x l ih => simp only [List.cons_append, sumB, ih]; omega
theorem sumB_len {α : Type} (B : α → Nat) (l : List α) : l.length ≤ sumB B l := by
  induction l with
  | nil => simp
  | cons x l ih => simp only [List.length_cons, sumB]; omega
theorem bulk_append {H : Type} (l r : List (DataW H)) : Rows.uptoBulkAll (l ++ r) = Rows.uptoBulkAll l + Rows.uptoBulkAll r := by
  induction l with
  | nil => simp [Rows.uptoBulkAll]
  | cons x l ih => simp only [List.cons_append, Rows.uptoBulkAll, ih]; omega
theorem Lays.elems {α : Type} {e : TypeId} {R : Rep α} {B : α → Nat} (a : Lays P e R B) {H : Type} (enc : TypeId × Value → H) (W : World) (m : Nat) (ad : Addr) (elems : List (DataW H × List MemPlace))
    (he : ∀ i, i < elems.length → (W.cells? 0 (ad.add (i * P.cellsOf e)) (P.cellsOf e)).bind (DataW.trod enc P W 0 (fun _ => true) true m e) = elems[i]?) (b : Blk W) (ι : Inj) (h : DHeap) (s : Rds ι h W) : ∀ k, k ≤ elems.length →
    ∃ ι' h' cells ys, Rds ι' h' W ∧ ι.le ι' ∧ Ext h h' ∧ ys.length = k ∧ Els R (fun i => i < h'.next) h' cells ys ∧ (∀ (i : Nat) v, cells[i]? = some v → ∃ v' cur ty fz, W.heap[ad.block]? = some (.cells cur ty fz) ∧ cur[ad.off + i]? = some v' ∧ VRel ι' v v') ∧
      sumB B ys ≤ Rows.uptoBulkAll ((elems.take k).map (·.1)) := by
  intro k
  induction k with
  | zero => exact fun _ => ⟨ι, h, [], [], s, Inj.le_refl _, .refl _, rfl, rfl, fun i v hv => by simp at hv, by simp [sumB]⟩
  | succ k ih =>
    intro hk
    obtain ⟨ι1, h1, c1, ys, g1, g2, g3, g4, g5, g6, g7⟩ := ih (by omega)
    have hlt : k < elems.length := by omega
    have h0 := he k hlt
    rw [List.getElem?_eq_getElem hlt, Option.bind_eq_some_iff] at h0
    obtain ⟨cs, hc, ht⟩ := h0
    obtain ⟨hcl, hcg⟩ := cells_get hc
    obtain ⟨ι2, h2, c2, y, k1, k2, k3, k4, k5, k6⟩ := a.lay enc W m cs _ ht (.of b _) ι1 h1 g1
    have hl1 : c1.length = k * R.z := by rw [g5.len, g4]
    have hl2 : c2.length = R.z := R.len k5
    refine ⟨ι2, h2, c1 ++ c2, ys ++ [y], k1, Inj.le_trans g2 k2, g3.trans k3, by simp [g4], Els.append (g5.mono fun i hi => ⟨Nat.lt_of_lt_of_le hi k3.next, k3.get i hi⟩) (.single k5), fun i v hv => ?_, ?_⟩
    · rw [List.getElem?_append] at hv
      split at hv
      · obtain ⟨v', cur, ty, fz, x1, x2, x3⟩ := g6 i v hv
        exact ⟨v', cur, ty, fz, x1, x2, x3.mono k2⟩
      · rename_i hi
        have hj : i - c1.length < c2.length := (List.getElem?_eq_some_iff.1 hv).1
        obtain ⟨v', hv', hr⟩ := k4.get hv
        have hj' : i - c1.length < P.cellsOf e := by rw [a.size]; omega
        have hcell := hcg (i - c1.length) hj'
        rw [hv'] at hcell
        obtain ⟨_, cur, ty, fz, x1, x2⟩ := cell_at hcell
        obtain ⟨y1, y2⟩ := add_add ad (k * P.cellsOf e) (i - c1.length)
        rw [y1] at x1
        rw [y2, a.size, hl1] at x2
        exact ⟨v', cur, ty, fz, x1, by rw [show ad.off + (k * R.z + (i - k * R.z)) = ad.off + i by omega] at x2; exact x2, hr⟩
    · rw [sumB_append, List.take_add_one, List.getElem?_eq_getElem hlt]
      simp only [List.map_append, bulk_append, Option.toList_some, List.map_cons, List.map_nil, Rows.uptoBulkAll, sumB]
      have := Rows.one_le elems[k].1
      omega
theorem Lays.slice {α : Type} {t e : TypeId} {R : Rep α} {B : α → Nat} (hu : P.underlying t = some (.slice e)) (hz : P.cellsOf t = 1) (hp : 0 < R.z) (a : Lays P e R B) : Lays P t (rSl R) (sumB B) where
  size := hz
  lay enc W n cs x h b ι hh s := by
    rcases DataW.trod_slice hu h with ⟨rfl, rfl⟩ | ⟨ad, len, cap, elems, rest, m, rfl, rfl, rfl, hb0, hlc, hcm, hel, he, hs, _⟩
    · exact ⟨ι, hh, [.slice none 0 0], [], s, Inj.le_refl _, .refl _, (LRel.nil ι).cons .snil, ⟨_, rfl, Sl.nil _ _ _⟩, Nat.zero_le _⟩
    · replace b : Blk W := b ad len cap (by simp)
      obtain ⟨hrl, hr⟩ := hs rfl
      obtain ⟨ι1, h1, cells, ys, g1, g2, g3, g4, g5, g6, g7⟩ := a.elems enc W m ad elems (fun i hi => he i (by omega)) b ι hh s elems.length (Nat.le_refl _)
      have hcl : cells.length = len * R.z := by rw [g5.len, g4, hel]
      rw [List.take_length] at g7
      -- the block
      have hblk : ∃ bb sh cur ty fz, W.heap[bb]? = some (.cells cur ty fz) ∧ (0 < cap → ad = ⟨bb, sh, none⟩) ∧ ∀ (i : Nat) v, cells[i]? = some v → ∃ v', cur[sh + i]? = some v' ∧ VRel ι1 v v' := by
        by_cases hc0 : cap = 0
        · obtain ⟨bb, cur, ty, fz, e1⟩ := b
          refine ⟨bb, 0, cur, ty, fz, e1, fun hh => by omega, fun i v hv => ?_⟩
          have := (List.getElem?_eq_some_iff.1 hv).1
          rw [hcl, show len = 0 by omega] at this
          omega
        · have h0 : ∃ v, W.cell? ((ad.add 0).add 0) = some v := by
            by_cases hl0 : len = 0
            · have hx := hr 0 (by omega)
              rw [List.getElem?_eq_getElem (by omega), Option.bind_eq_some_iff] at hx
              obtain ⟨cs', hc', _⟩ := hx
              obtain ⟨q1, q2⟩ := cells_get hc'
              have := q2 0 (by rw [a.size]; exact hp)
              rw [hl0, Nat.zero_add, Nat.zero_mul, List.getElem?_eq_getElem (by rw [q1, a.size]; exact hp)] at this
              exact ⟨_, this⟩
            · have hx := he 0 (by omega)
              rw [List.getElem?_eq_getElem (by omega), Option.bind_eq_some_iff] at hx
              obtain ⟨cs', hc', _⟩ := hx
              obtain ⟨q1, q2⟩ := cells_get hc'
              have := q2 0 (by rw [a.size]; exact hp)
              rw [Nat.zero_mul, List.getElem?_eq_getElem (by rw [q1, a.size]; exact hp)] at this
              exact ⟨_, this⟩
          obtain ⟨v0, hv0⟩ := h0
          have hadd : (ad.add 0).add 0 = ad := by simp [Addr.add]
          rw [hadd] at hv0
          obtain ⟨hsp, cur, ty, fz, e1, _⟩ := cell_at hv0
          refine ⟨ad.block, ad.off, cur, ty, fz, e1, fun _ => by cases ad; simp_all, fun i v hv => ?_⟩
          obtain ⟨v', cur', ty', fz', x1, x2, x3⟩ := g6 i v hv
          rw [e1] at x1
          cases x1
          exact ⟨v', x2, x3⟩
      obtain ⟨bb, sh, cur, ty, fz, e1, e2, e3⟩ := hblk
      obtain ⟨k1, k2, k3⟩ := g1.push e1 sh R.z e3
      refine ⟨_, _, [.slice (some ⟨h1.next, 0, none⟩) ys.length cap], ys, k1, Inj.le_trans g2 k2, g3.trans k3, (LRel.nil _).cons ?_, ⟨_, rfl, .inr ⟨h1.next, 0, cap, cells, R.z, true, rfl, Nat.lt_succ_self _, get_push_same _ _, .inl rfl, ?_, ?_⟩⟩, ?_⟩
      · rw [show len = ys.length by omega]
        exact .slice (Inj.upd_same _ _ _) (by omega) (fun h => h) (fun hc => e2 hc) (fun hh => by cases hh)
      · rw [hcl, g4, hel]; omega
      · rw [List.drop_zero, List.take_of_length_le (by rw [hcl, g4, hel]; exact Nat.le_refl _)]
        exact g5.mono fun i hi => ⟨Nat.lt_of_lt_of_le hi k3.next, k3.get i hi⟩
      · simp only [Rows.uptoBulk]; omega
  stay enc W W' n cs x sp h h2 h3 := by
    obtain ⟨m, rfl⟩ := trod_pos h
    rcases DataW.trod_slice hu h with ⟨rfl, rfl⟩ | ⟨ad, len, cap, _, _, _, _, rfl, _⟩
    · simp only [DataW.trod, hu]
    · simp only [DataW.trod, hu, if_true] at h ⊢
      split at h
      · rename_i hc
        rw [if_pos hc]
        simp only [Option.map_eq_some_iff, Option.bind_eq_some_iff] at h ⊢
        obtain ⟨elems, he, rest, hrest, rfl⟩ := h
        have hlen : elems.length = len := by simpa using mapM_some_length he
        have hrl : rest.length = cap - len := by simpa using mapM_some_length hrest
        have one : ∀ (i : Nat) (y : DataW _ × List MemPlace), i < elems.length + rest.length → y ∈ elems ++ rest →
            (W.cells? 0 (ad.add (i * P.cellsOf e)) (P.cellsOf e)).bind (DataW.trod enc P W 0 (fun _ => true) true m e) = some y → (W'.cells? 0 (ad.add (i * P.cellsOf e)) (P.cellsOf e)).bind (DataW.trod enc P W' 0 sp true m e) = some y := by
          intro i y hi hy hv
          simp only [Option.bind_eq_some_iff] at hv ⊢
          obtain ⟨cs', hc', hy'⟩ := hv
          have hm : ∀ p ∈ y.2, p ∈ (elems ++ rest).flatMap (·.2) := fun p hp => List.mem_flatMap.2 ⟨y, hy, hp⟩
          refine ⟨cs', World.cells?_carry hc' (fun p hp => h2 p ?_), a.stay enc W W' m cs' y sp hy' (fun p hp => h2 p (List.mem_append_right _ (hm p hp))) (fun p hp => h3 p (List.mem_append_right _ (hm p hp)))⟩
          obtain ⟨j, hj, rfl⟩ := MemPlace.mem_row.1 hp
          refine List.mem_append_left _ (MemPlace.mem_row.2 ⟨i * P.cellsOf e + j, ?_, ?_⟩)
          · calc i * P.cellsOf e + j < i * P.cellsOf e + P.cellsOf e := by omega
              _ = (i + 1) * P.cellsOf e := by rw [Nat.add_mul, Nat.one_mul]
              _ ≤ (elems.length + rest.length) * P.cellsOf e := Nat.mul_le_mul_right _ hi
          · unfold Addr.add
            split
            · rename_i h0
              simp [h0]
            · simp [Nat.add_assoc]
        refine ⟨elems, mapM_carry he (fun i y hi hy => one i y (by have : i < len := (by simpa using hi); omega) (by simp [hy])), rest, ?_, rfl⟩
        by_cases hc0 : cap - len = 0
        · have hr0 : rest = [] := List.eq_nil_of_length_eq_zero (by omega)
          rw [hr0, hc0]
          split <;> rfl
        · have hsp : sp ad.block = true := by
            have : MemPlace.cell ad.block (ad.off + 0) ∈ MemPlace.row ad ((elems.length + rest.length) * P.cellsOf e) := MemPlace.mem_row.2 ⟨0, by
              rw [a.size]
              exact Nat.mul_pos (by omega) hp, rfl⟩
            exact h3 _ (List.mem_append_left _ this)
          rw [if_pos hsp]
          exact mapM_carry hrest (fun j y hj hy => one (len + j) y (by have : j < cap - len := (by simpa using hj); omega) (by simp [hy]))
      · cases h
end Go.D

namespace Go.D
open Go.Proofs.Ytbdljpndncohaaa (Rows.uptoBulk Rows.uptoBulkAll Rows.uptoSmall)
open Go.ChangeShapes Go.RowKit
variable {P : Program}

/-- a parameter's value: one cell, or a struct's cells -/
def argV (agg : Bool) (cs : List Value) : Value := if agg then .agg cs.toArray else cs.headD undef
def oneDesc : TypeDesc → Bool
  | .int _ | .bool | .slice _ => true
  | _ => false
/-- a parameter's type: a struct, or one cell that is read -/
def Par (P : Program) (t : TypeId) (agg : Bool) : Prop := if agg then ∃ fs, P.underlying t = some (.struct fs) else ∃ d, P.underlying t = some d ∧ oneDesc d = true
theorem has_blk {W : World} {base : Nat} {a : Addr} {e : TypeId} {n : Nat} (h : W.has P .any base a e n) : Blk W := by
  obtain ⟨_, _, row, cells, hs, _⟩ := h
  unfold World.shape? at hs
  split at hs
  · rename_i c elem fz e
    exact ⟨_, _, _, _, e⟩
  · cases hs
theorem okCell_blk {W : World} {base : Nat} {t : TypeId} {a : Addr} {len cap : Nat} (h : Cell.okWide P W .any base t (.slice (some a) len cap)) : Blk W := by
  unfold Cell.okWide at h
  split at h <;> try simp_all
  unfold Cell.ok at h
  split at h <;> try simp_all
  exact has_blk h.2.2
theorem ok_blk {W : World} {base : Nat} {t : TypeId} {v : Value} (h : Value.okWide P W .any base t v) : BlkOf W v.cells.toList := by
  intro a len cap hm
  unfold Value.okWide at h
  have one : Cell.okWide P W .any base t v → Blk W := fun hc => by
    have hv : v.cells = #[v] ∨ (∃ cs, v = .agg cs) ∨ (∃ cs, v = .tuple cs) := by
      cases v <;> first | exact .inl rfl | exact .inr (.inl ⟨_, rfl⟩) | exact .inr (.inr ⟨_, rfl⟩)
    rcases hv with hv | ⟨cs, rfl⟩ | ⟨cs, rfl⟩
    · rw [hv] at hm
      simp only [List.mem_singleton] at hm
      subst hm
      exact okCell_blk hc
    · exfalso
      unfold Cell.okWide at hc
      split at hc <;> simp_all
      unfold Cell.ok at hc
      split at hc <;> simp_all
    · exfalso
      unfold Cell.okWide at hc
      split at hc <;> simp_all
      unfold Cell.ok at hc
      split at hc <;> simp_all
  have agg : (∃ cs, v = .agg cs ∧ cs.size = P.cellsOf t ∧ Row.okWide P W .any base t cs) → Blk W := fun ⟨cs, e, _, ts, _, _, hr⟩ => by
    subst e
    obtain ⟨i, hi⟩ := List.mem_iff_getElem?.1 hm
    obtain ⟨u, _, hu⟩ := hr i _ (by simpa [Value.cells] using hi)
    exact okCell_blk hu
  split at h
  · exact agg h
  · exact agg h
  · exact one h
theorem Lays.arg {α : Type} {t : TypeId} {R : Rep α} {B : α → Nat} {agg : Bool} (hp : Par P t agg) (a : Lays P t R B) {H : Type} {enc : TypeId × Value → H} {W : World} {base : Nat} {v : Value} {d : DataW H} {ps : List MemPlace}
    (ht : DataW.Trod enc P W 0 (fun _ => true) true t v d ps) (hv : Value.okWide P W .any base t v) {ι : Inj} {h : DHeap} (s : Rds ι h W) :
    ∃ ι' h' cs0 y, Rds ι' h' W ∧ ι.le ι' ∧ Ext h h' ∧ VRel ι' (argV agg cs0) v ∧ R.rd (fun i => i < h'.next) h' cs0 y ∧ B y ≤ Rows.uptoBulk d := by
  obtain ⟨n, hn⟩ := ht
  obtain ⟨ι', h', cs0, y, g1, g2, g3, g4, g5, g6⟩ := a.lay enc W n _ _ hn (ok_blk hv) ι h s
  refine ⟨ι', h', cs0, y, g1, g2, g3, ?_, g5, g6⟩
  unfold Par at hp
  unfold Value.okWide at hv
  cases agg with
  | true =>
    obtain ⟨fs, hu⟩ := hp
    rw [hu] at hv
    obtain ⟨cs, rfl, _⟩ := hv
    obtain ⟨x1, x2⟩ := g4
    exact .agg (by simpa [Value.cells] using x1) (fun i v v' a b => x2 i v v' (by simpa using a) (by simpa [Value.cells] using b))
  | false =>
    obtain ⟨de, hu, ho⟩ := hp
    have hc : Cell.okWide P W .any base t v := by
      rw [hu] at hv
      cases de <;> first | exact hv | simp [oneDesc] at ho
    have h1 : v.cells = #[v] := by
      cases v <;> first | rfl | (exfalso; unfold Cell.okWide at hc; rw [hu] at hc; cases de <;> simp [oneDesc, Cell.ok, hu] at ho hc)
    rw [h1] at g4
    obtain ⟨x1, x2⟩ := g4
    match cs0, x1 with
    | [c], _ => exact x2 0 c v rfl rfl

/-- parameters, one behind the other -/
inductive Pars (P : Program) : {α : Type} → List TypeId → ((Nat → Prop) → DHeap → List Value → α → Prop) → (α → Nat) → Prop
  | nil : Pars P [] (fun _ _ vs (_ : Unit) => vs = []) (fun _ => 0)
  | cons {α β : Type} {t : TypeId} {ts : List TypeId} {agg : Bool} {R : Rep α} {B : α → Nat} {Q : (Nat → Prop) → DHeap → List Value → β → Prop} {C : β → Nat} (hp : Par P t agg) (hl : Lays P t R B) (hr : Pars P ts Q C) :
      Pars P (t :: ts) (fun S h vs (x : α × β) => ∃ cs vs', vs = argV agg cs :: vs' ∧ R.rd S h cs x.1 ∧ Q S h vs' x.2) (fun x => B x.1 + C x.2)
theorem Pars.lay {α : Type} {ts : List TypeId} {Q : (Nat → Prop) → DHeap → List Value → α → Prop} {B : α → Nat} (a : Pars P ts Q B) : ∀ {H : Type} {enc : TypeId × Value → H} {W : World} {base : Nat} {vs : List Value} {ds : List (DataW H)} {ps : List MemPlace},
    DataW.TrodAll enc P W 0 (fun _ => true) true ts vs ds ps → (∀ (j : Nat) t v, ts[j]? = some t → vs[j]? = some v → Value.okWide P W .any base t v) → ∀ {ι : Inj} {h : DHeap}, Rds ι h W →
    ∃ ι' h' vs0 y, Rds ι' h' W ∧ ι.le ι' ∧ Ext h h' ∧ LRel ι' vs0 vs ∧ (∀ h1, Ext h' h1 → Q (fun i => i < h1.next) h1 vs0 y) ∧ B y ≤ Rows.uptoBulkAll ds := by
  induction a with
  | nil =>
    intro H enc W base vs ds ps ht hv ι h s
    obtain ⟨rfl, rfl, rfl⟩ := trodAll_nil ht
    exact ⟨ι, h, [], (), s, Inj.le_refl _, .refl _, LRel.nil _, fun _ _ => rfl, Nat.le_refl _⟩
  | cons hp hl hr ih =>
    intro H enc W base vs ds ps ht hv ι h s
    obtain ⟨v, vs, d, ds, p, q, rfl, rfl, rfl, t1, t2⟩ := trodAll_cons ht
    obtain ⟨ι1, h1, cs, y, g1, g2, g3, g4, g5, g6⟩ := hl.arg hp t1 (hv 0 _ _ rfl rfl) s
    obtain ⟨ι2, h2, vs0, z, k1, k2, k3, k4, k5, k6⟩ := ih t2 (fun j t v a b => hv (j + 1) t v a b) g1
    exact ⟨ι2, h2, argV _ cs :: vs0, (y, z), k1, Inj.le_trans g2 k2, g3.trans k3, LRel.cons (g4.mono k2) k4, fun h3 e => ⟨cs, vs0, rfl, rd_ext _ g5 (k3.trans e), k5 h3 e⟩, by simp only [Rows.uptoBulkAll]; omega⟩
theorem Pars.stay {α : Type} {ts : List TypeId} {Q : (Nat → Prop) → DHeap → List Value → α → Prop} {B : α → Nat} (a : Pars P ts Q B) : ∀ {H : Type} {enc : TypeId × Value → H} {W W' : World} {sp : Nat → Bool} {vs : List Value} {ds : List (DataW H)} {ps : List MemPlace},
    DataW.TrodAll enc P W 0 (fun _ => true) true ts vs ds ps → (∀ p ∈ ps, W.sameAt W' p) → (∀ p ∈ ps, sp p.block = true) → DataW.TrodAll enc P W' 0 sp true ts vs ds ps := by
  induction a with
  | nil =>
    intro H enc W W' sp vs ds ps ht _ _
    obtain ⟨rfl, rfl, rfl⟩ := trodAll_nil ht
    rfl
  | cons hp hl hr ih =>
    intro H enc W W' sp vs ds ps ht h2 h3
    obtain ⟨v, vs, d, ds, p, q, rfl, rfl, rfl, ⟨n, t1⟩, t2⟩ := trodAll_cons ht
    exact ⟨p, q, ⟨n, hl.stay enc W W' n _ _ sp t1 (fun x hx => h2 x (List.mem_append_left _ hx)) (fun x hx => h3 x (List.mem_append_left _ hx))⟩, ih t2 (fun x hx => h2 x (List.mem_append_right _ hx)) (fun x hx => h3 x (List.mem_append_right _ hx)), rfl⟩

section
variable {H : Type} {enc : TypeId × Value → H}
/-- what was there is as it was -/
theorem post_of_kept {f : Func} {s : ChangeSpec} {apart fresh handsOn again : Bool} {W W' : World} {args : Array Value} {v : Value} {ds gs : List (DataW H)} {before pa pv : List MemPlace}
    (hW : DataW.Whole enc P f.params.toList s.vars apart W args.toList ds gs before)
    (hres : ∀ (b : Nat) (sp : Nat → Bool) (hd : Bool), DataW.TrodAll enc P W' b sp hd f.resultTypes.toList (v.resultList f.resultTypes.size) (s.fn H (ds ++ gs)).results [])
    (hargs : ∀ sp : Nat → Bool, (∀ p ∈ before, sp p.block = true) → DataW.TrodAll enc P W' 0 sp true f.params.toList args.toList (s.fn H (ds ++ gs)).args pa)
    (hvars : ∀ sp : Nat → Bool, (∀ p ∈ before, sp p.block = true) → DataW.TrodVars enc P W' sp s.vars (s.fn H (ds ++ gs)).vars pv)
    (hps : before = pa ++ pv) (hos : W'.os = W.os) (hout : W'.output = W.output) (hk : ∀ b, b < W.heap.size → W'.heap[b]? = W.heap[b]?)
    (hok : ∀ (j : Nat) (t : TypeId) (r : Value), f.resultTypes[j]? = some t → (v.resultList f.resultTypes.size)[j]? = some r → Value.okWide P W' .any 0 t r) :
    s.post enc P f apart fresh handsOn again W args v W' := by
  have hlt := hW.lt
  have hold : ∀ p ∈ before, (fun b => decide (b < W.heap.size)) p.block = true := fun p hp => by simpa using hlt p hp
  have hkept : ∀ may, W.keptBut W' may := fun may => ⟨hos, hout, fun i hi => by
    rw [hk i hi]
    exact (World.keptBut_refl W may).2.2 i hi⟩
  refine ⟨ds, gs, before, [], pa, pv, hW, hres _ _ _, hargs _ hold, hvars _ hold, hkept _, fun _ => ?_⟩
  · obtain ⟨_, _, _, _, _, hz, hn⟩ := hW
    refine ⟨hok, _, _, ([] ++ pa) ++ pv, ⟨[] ++ pa, pv, trodAll_append (hargs _ (fun _ _ => rfl)) (hres _ _ _), hvars _ (fun _ _ => rfl), rfl, ?_, ?_⟩, ?_⟩
    · intro b off hp
      have hp' : MemPlace.cell b off ∈ before := by rw [hps]; simpa using hp
      have : W'.frozen? ⟨b, off, none⟩ = W.frozen? ⟨b, off, none⟩ := by
        simp only [World.frozen?]
        rw [hk b (hlt _ hp')]
      rw [this]
      exact hz b off hp'
    · intro ha
      have := hn ha
      rw [hps] at this
      simpa using this
    · intro p hp _
      rw [hps]
      simpa using hp
theorem trodVars_nil {W : World} {sp : Nat → Bool} {gs : List (DataW H)} {q : List MemPlace} (h : DataW.TrodVars enc P W sp [] gs q) : gs = [] ∧ q = [] := by
  cases gs with
  | nil => exact ⟨rfl, h⟩
  | cons => exact h.elim

/-- a law: its contract over plain heaps gives its statement -/
theorem law_kept {α : Type} {f : FuncId} {fn : Func} {ts : List TypeId} {Q : (Nat → Prop) → DHeap → List Value → α → Prop} {B : α → Nat} {tb : TypeId} {s : ChangeSpec} {apart fresh handsOn again : Bool} (hts : fn.params.toList = ts) (pars : Pars P ts Q B)
    (hrt : fn.resultTypes = #[tb]) (hb : P.underlying tb = some .bool) (hs : s.vars = []) (hfn : ∀ ds : List (DataW H), ds.length = ts.length → s.fn H ds = { results := [.lit (.bool true)], args := ds })
    (ct : ∀ h vs x, h.ng = 0 → Q (fun i => i < h.next) h vs x → B x ≤ 1048576 → Ct P f vs h (fun r _ => r = .ret (.bool true)))
    (W : World) (base : Nat) (args : Array Value) (ds gs : List (DataW H)) (before : List MemPlace)
    (hval : ∀ (j : Nat) t v, fn.params[j]? = some t → args[j]? = some v → Value.okWide P W .any base t v)
    (hW : DataW.Whole enc P fn.params.toList s.vars apart W args.toList ds gs before) (hk : Rows.uptoSmall H (ds ++ gs) = true) :
    Calls P f args W fun e W' => ∃ v, e = .returned v ∧ s.post enc P fn apart fresh handsOn again W args v W' := by
  have hW' := hW
  obtain ⟨p, q, hA, hV, rfl, hfz, hnd⟩ := hW
  rw [hs] at hV
  obtain ⟨rfl, rfl⟩ := trodVars_nil hV
  rw [hts] at hA
  have hk' : Rows.uptoBulkAll ds ≤ 1048576 := by
    have := of_decide_eq_true hk
    simpa using this
  obtain ⟨ι, h, vs, y, s1, _, he, hr, hq, hB⟩ := pars.lay hA (fun j t v a b => hval j t v (by simpa [← hts] using a) (by simpa using b)) (Rds.none W)
  have hng : h.ng = 0 := he.ng
  have c := ct h vs y hng (hq h (.refl _)) (by omega) 0 ι W args s1.sim hr
  refine callsIn_wide.1 (CallsIn.mono c fun e W' ⟨ι', r, h', hR, _, hE, sim', st⟩ => ?_)
  subst hR
  cases e with
  | returned v =>
    have hv : v = .bool true := by
      have : VRel ι' (.bool true) v := hE
      cases this; rfl
    subst hv
    have hheap : ∀ b, b < W.heap.size → W'.heap[b]? = W.heap[b]? := fun b hb => st.frame b hb fun id e he _ => s1.ro id e he
    have hlen : ds.length = ts.length := by
      have : ∀ {ts : List TypeId} {vs : List Value} {ds : List (DataW H)} {ps : List MemPlace}, DataW.TrodAll enc P W 0 (fun _ => true) true ts vs ds ps → ds.length = ts.length := by
        intro ts
        induction ts with
        | nil => intro vs ds ps h; obtain ⟨_, rfl, _⟩ := trodAll_nil h; rfl
        | cons t ts ih =>
          intro vs ds ps h
          obtain ⟨_, _, _, _, _, _, _, rfl, _, _, h2⟩ := trodAll_cons h
          simp [ih h2]
      exact this hA
    have hlt : ∀ x ∈ p, x.block < W.heap.size := DataW.TrodAll.lt hA
    have hsame : ∀ x ∈ p, W.sameAt W' x := fun x hx => by
      have hb := hheap _ (hlt x hx)
      cases x with
      | cell b off => simp only [World.sameAt, World.cell?]; rw [show W'.heap[b]? = W.heap[b]? from hb]
      | map b => exact hb
    refine ⟨_, rfl, post_of_kept (pa := p) (pv := []) hW' ?_ ?_ ?_ rfl st.os st.output hheap ?_⟩
    · intro b sp hd
      rw [List.append_nil, hfn ds hlen, hrt]
      exact trodAll_cons_mk (shut_bool hb _) trodAll_mk0
    · intro sp hsp
      rw [List.append_nil, hfn ds hlen, hts]
      exact pars.stay hA hsame (fun x hx => hsp x (by simpa using hx))
    · intro sp hsp
      rw [List.append_nil, hfn ds hlen, hs]
      rfl
    · intro j t r h1 h2
      rw [hrt] at h1 h2
      cases j with
      | zero =>
        simp at h1
        simp [Value.resultList] at h2
        subst h1; subst h2
        simp [Value.okWide, hb, Cell.okWide, Cell.ok]
      | succ j => simp at h1
  | _ => exact hE.elim
end
end Go.D

namespace Go.D
variable {P : Program} {α : Type} {R : Rep α} {S S' : Nat → Prop} {K h : DHeap} {v : Value} {l : List α}

theorem laid_src {cs : List Value} {x : α} {z n : Nat} (hx : R.rd S K cs x) (hz : z = R.z) (hp : 0 < R.z) : srcCells R.z 1 (.slice (some ⟨K.next, 0, none⟩) 1 n) (K.push (.row cs z false)) = some cs := by
  subst hz
  have hl := R.len hx
  simp only [srcCells, get_push_same]
  simp [hl]
  exact List.take_of_length_le (by omega)
/-- one element more -/
theorem Owns.snoc {w : Option Nat} {ts : Array TypeId} {cs : List Value} {x : α} {z b : Nat} (ho : Owns R S K v l w) (hS : ∀ i, S i → i < K.next ∧ w ≠ some i) (hx : R.rd S K cs x) (hz : z = R.z) (hp : 0 < R.z) (hT : appT P ts = some (R.z, b)) (hlen : l.length + 1 ≤ 4294967296) (hb : b ≤ 32768) :
    ∃ v' h2, dAppend P ts v (.slice (some ⟨K.next, 0, none⟩) 1 1) (K.push (.row cs z false)) = some (v', h2) ∧ h2.next = K.next + 2 ∧ h2.ng = K.ng ∧ (∀ i, i < K.next → w ≠ some i → h2.get i = K.get i) ∧
      Owns R S h2 v' (l ++ [x]) (some (K.next + 1)) := by
  have hw := ho.lt
  have hg : ∀ i, S i → (K.push (.row cs z false)).get i = K.get i := fun i hi => get_push_other _ _ (hS i hi).1
  have ho2 : Owns R S (K.push (.row cs z false)) v l w := ho.mono (Nat.le_succ _) (fun i hi => get_push_other _ _ (hw i hi)) (fun i hi => ⟨hi, hg i hi⟩)
  have hm : (l.length + 1) * b ≤ 4294967296 * 32768 := Nat.mul_le_mul hlen hb
  obtain ⟨v', h2, w', e3, g, o, hw'⟩ := ho2.append (k := [x]) (x := .slice (some ⟨K.next, 0, none⟩) 1 1) hT (fun i hi => ⟨Nat.lt_succ_of_lt (hS i hi).1, (hS i hi).2⟩) rfl (laid_src hx hz hp) (.single (R.mono hx fun i hi => ⟨hi, hg i hi⟩)) (by simp only [List.length_singleton]; omega) (by simp only [List.length_singleton]; omega)
  rcases hw' with ⟨h0, _⟩ | ⟨h0, h1⟩
  · cases h0
  · subst h0
    exact ⟨v', h2, e3, h1, g.ng, fun i hi hwi => (g.get i (Nat.lt_succ_of_lt hi) hwi).trans (get_push_other _ _ hi), o⟩
/-- a load that is not made -/
theorem Ld_offL {ops : Array Oper} {dst : Option Tmp} {t : TypeId} {a : Operand} {ty : TypeId} {pos : String} {aft : Array Edge} {gd : Option (Nat × Bool)} {fr : Fr} (hw : dWanted ops fr ⟨dst, .load t a, ty, pos, aft, gd⟩ = some false) : Ld P ops ⟨dst, .load t a, ty, pos, aft, gd⟩ fr h undef := Ld_off hw
/-- a list of one's own is read by whoever -/
theorem Owns.arg {w : Option Nat} (a : Owns R S h v l w) (hS : ∀ i, S i → i < h.next) : Arg R h v l := by
  have hlt := a.lt
  exact a.sl.mono fun i hi => ⟨by
    rcases hi with hi | hi
    · exact hS i hi
    · exact hlt i hi, rfl⟩
end Go.D

namespace Go.D
variable {P : Program}

/-- fields by their types and places -/
inductive Fld2 (P : Program) : {α : Type} → Nat → List (TypeId × Nat) → Rep α → (α → Nat) → Prop
  | one {α : Type} {off : Nat} {t : TypeId} {R : Rep α} {B : α → Nat} (hl : Lays P t R B) : Fld2 P off [(t, off)] R B
  | cons {α β : Type} {off : Nat} {t : TypeId} {l : List (TypeId × Nat)} {R : Rep α} {B : α → Nat} {Q : Rep β} {C : β → Nat} (hl : Lays P t R B) (hr : Fld2 P (off + R.z) l Q C) : Fld2 P off ((t, off) :: l) (rP R Q) (fun x => B x.1 + C x.2)
theorem Fld2.flds {α : Type} {off : Nat} {l : List (TypeId × Nat)} {R : Rep α} {B : α → Nat} (a : Fld2 P off l R B) : ∀ fs : List Field, fs.map (fun f => (f.type, f.offset)) = l → Flds P off fs R B := by
  induction a with
  | one hl =>
    intro fs h
    match fs, h with
    | [f], h =>
      simp only [List.map_cons, List.map_nil, List.cons.injEq, Prod.mk.injEq, and_true] at h
      obtain ⟨rfl, rfl⟩ := h
      exact .one rfl hl
  | cons hl hr ih =>
    intro fs h
    cases fs with
    | nil => cases h
    | cons f fs =>
      simp only [List.map_cons, List.cons.injEq, Prod.mk.injEq] at h
      obtain ⟨⟨rfl, rfl⟩, h2⟩ := h
      exact .cons rfl hl (ih fs h2)
theorem Lays.of {α : Type} {t : TypeId} {l : List (TypeId × Nat)} {R : Rep α} {B : α → Nat} (hf : fldsOf P t = some l) (hz : P.cellsOf t = R.z) (a : Fld2 P 0 l R B) : Lays P t R B := by
  unfold fldsOf at hf
  split at hf
  · rename_i fs hu
    split at hf
    · cases hf
      exact .struct hu hz (a.flds _ rfl)
    · cases hf
  · cases hf
/-- flat pairs -/
theorem rP_flat {α β : Type} {F : FRep α} {G : FRep β} {S : Nat → Prop} {h : DHeap} {cs : List Value} {x : α × β} (a : (rP F.rep G.rep).rd S h cs x) : (fP F G).rep.rd S h cs x := by
  obtain ⟨c1, c2, rfl, ⟨rfl, h1⟩, rfl, h2⟩ := a
  exact ⟨rfl, h1, h2⟩
theorem Lays.pair {α β : Type} {t : TypeId} {F : FRep α} {G : FRep β} {C : α × β → Nat} (a : Lays P t (rP F.rep G.rep) C) : Lays P t (fP F G).rep C := a.conv (Q := (fP F G).rep) rfl id (fun _ _ _ _ => rP_flat) (fun _ => Nat.le_refl _)
end Go.D

namespace Go.Proofs.Ytbdljpndncohaaa
open Go.D
set_option maxRecDepth 100000
theorem lay_u8 : Lays Try.prog 5 fU8.rep (fun _ => 1) := .int (by kernel_rfl) (by kernel_rfl)
theorem lay_i32 : Lays Try.prog 21 (fI .i32).rep (fun _ => 1) := .int (by kernel_rfl) (by kernel_rfl)
theorem lay_i64 : Lays Try.prog 2 fI64.rep (fun _ => 1) := .int (by kernel_rfl) (by kernel_rfl)
theorem lay_int : Lays Try.prog 3 fI64.rep (fun _ => 1) := .int (by kernel_rfl) (by kernel_rfl)
theorem lay_bytes : Lays Try.prog 22 (rSl fU8.rep) (sumB fun _ => 1) := .slice (e := 5) (by kernel_rfl) (by kernel_rfl) (by decide) lay_u8
theorem lay_ints : Lays Try.prog 23 (rSl fI64.rep) (sumB fun _ => 1) := .slice (e := 2) (by kernel_rfl) (by kernel_rfl) (by decide) lay_i64
theorem lay_key : Lays Try.prog 54 fKey.rep (fun _ => 2) :=
  (Lays.of (l := [(21, 0), (2, 1)]) (by kernel_rfl) (by kernel_rfl) (.cons lay_i32 (.one lay_i64))).pair.conv (Q := fKey.rep) rfl (fun x => ⟨x.1, x.2⟩) (fun _ _ _ _ h => h) (fun _ => Nat.le_refl _)
def bulkRes (x : Res) : Nat := 3 + sumB (fun _ => 1) x.vs
theorem lay_res : Lays Try.prog 45 rRes bulkRes :=
  (Lays.of (l := [(3, 0), (23, 1), (2, 2), (3, 3)]) (by kernel_rfl) (by kernel_rfl) (.cons lay_int (.cons lay_ints (.cons lay_i64 (.one lay_int))))).conv (Q := rRes) rfl (fun x => ⟨x.1, x.2.1, x.2.2.1, x.2.2.2⟩) (fun _ _ _ _ h => h)
    (fun x => by simp only [bulkRes]; omega)
end Go.Proofs.Ytbdljpndncohaaa

namespace Go.D
variable {P : Program} {nt : Nat}

theorem NC.range_aux {g : Operand} {ps : Array Tmp} {assign body : Code} {Q : DExit → St → Prop} {s : St} {fv : Value} {l : Nat} {df : List DDef} {h1 : DHeap} {f : FuncId} {args : List Value}
    (hg : evalF s.h.ng s.fr g = some fv) (hh : HStep s.h h1)
    (henter : ∀ (r : Option Nat) (ι : Inj) (a : Act) (w : World) (fn : FuncId), SRel nt ι s r a w → ∃ (ι1 : Inj) (e : Ent) (mark : List Deferred) (w1 : World), (Instr.enterLoop fn a.tmps ps assign body r).run P w = .ok (e.block, mark) w1 ∧
      ι1 l = some e ∧ e.shift = 0 ∧ Sim ι1 h1 w1 ∧ Step ι ι1 s.h h1 w w1 ∧ DefRel ι1 df (mark ++ a.defers))
    (ht : dTarget P fv [.func (.yield l) #[] #[]] h1 = some (.enter f args)) {R : DEnd → DHeap → Prop}
    (hc : Ct P f args h1 R) (hx : ∀ r h2, R r h2 → XRangePost l s.fr df s.rd Q r h2) : NC P nt (.rangeFunc g ps assign body) Q s := by
  intro n rr ι a w hs
  refine wpIn_rangeFunc fun fn _ => ?_
  obtain ⟨ι1, eb, mark, w1, he, hl, hsh, s1, st1, hd1⟩ := henter rr ι a w fn hs
  have hfv : VRel ι fv (a.eval g) := evalF_rel (P := P) hs.sim (a := a) (ops := #[]) (o := ⟨none, .move g, 0, "", #[], none⟩) (fun t _ u hu => hs.fr.2 t u hu) g (by simp [Op.operands]) _ hg
  have hy : LRel ι1 [.func (.yield l) #[] #[]] (#[.func (.yield eb.block) #[] #[]] : Array Value).toList := (LRel.nil ι1).cons (.yield hl hsh)
  obtain ⟨d, x', hd, hinv, hn, hdd⟩ := dTarget_ok ht s1 (hfv.mono st1.le) hy
  cases x' with
  | enter f' args' =>
    obtain ⟨rfl, hargs, _⟩ := hn
    refine ⟨eb.block, mark, w1, d, w1, f', args', w1, he, ?_, fun _ _ => trivial, hinv, fun hh => absurd hh (by simp [FW]), ?_⟩
    · simpa [resolve, rangeCall, Act.eval] using hd
    · refine CallsIn.mono (hc (n - 1) ι1 w1 args' s1 hargs) fun en w2 ⟨ι2, r, h2, hR, hh2, k1, k2, k3⟩ => ?_
      have hp := hx r h2 hR
      have hl2 := k3.le l eb hl
      have hfr := (hs.fr.mono st1.le).mono k3.le
      have hdf := hd1.mono k3.le
      have hrd := (hs.rd.mono st1.le).mono k3.le
      have hst := st1.trans k3
      cases r with
      | pan v =>
        cases en with
        | panicked ch => exact ⟨ι2, .pan v, _, hp, hh.trans hh2, k1, ⟨hfr, hdf, k2, hrd⟩, hst⟩
        | _ => exact k1.elim
      | ret v =>
        cases en with
        | returned v' =>
          obtain ⟨d, hgd, hbusy, hq⟩ := hp
          obtain ⟨_, _, lp, hlp, hlr⟩ := k2.loopAt hl2 hgd
          obtain ⟨q1, q2⟩ := k2.setLoop hl2 hgd hlp hlr .exhausted d.pending
          have hend := run_endLoop (P := P) hlp (by rw [hlr.state]; exact hbusy)
          rw [hlr.pending] at hend
          refine ⟨d.pending, _, hend, ?_⟩
          have fin : ∀ (e : DExit) ex, Q e ⟨s.fr, df, h2.set l (.loop { d with state := .exhausted, pending := d.pending }), s.rd⟩ → ExitRel ι2 e ex →
              ∃ ι' e s', Q e s' ∧ HStep s.h s'.h ∧ ExitRel ι' e ex ∧ SRel nt ι' s' rr { a with defers := mark ++ a.defers } (w2.putObj eb.block (.loop { lp with state := .exhausted, pending := d.pending })) ∧ Step ι ι' s.h s'.h w (w2.putObj eb.block (.loop { lp with state := .exhausted, pending := d.pending })) :=
            fun e ex hq hex => ⟨ι2, e, _, hq, hh.trans (hh2.trans (HStep.set _ _ _)), hex, ⟨hfr, hdf, q1, hrd⟩, hst.trans q2⟩
          cases hpe : d.pending with
          | none =>
            rw [hpe] at hq fin
            exact fin .normal _ hq trivial
          | some c =>
            rw [hpe] at hq fin
            cases c with
            | ret => exact wpIn_ret (fin .ret _ hq trivial)
            | exit id => exact wpIn_exit (fin (.exit id) _ hq rfl)
            | _ => exact hq.elim
        | _ => exact k1.elim
  | _ => exact hn.elim
/-- an outermost loop -/
theorem NC.range {g : Operand} {ps : Array Tmp} {assign body : Code} {Q : DExit → St → Prop} {s : St} {fv : Value} {f : FuncId} {args : List Value} {h1 : DHeap}
    (hrd : s.rd = none) (hg : evalF s.h.ng s.fr g = some fv) (hh1 : h1 = (s.h.push (.marks true)).push (.loop ⟨nt, s.fr, ps, assign, body, s.h.next, .ready, none⟩))
    (ht : dTarget P fv [.func (.yield (s.h.next + 1)) #[] #[]] h1 = some (.enter f args)) {R : DEnd → DHeap → Prop}
    (hc : Ct P f args h1 R) (hx : ∀ r h2, R r h2 → XRangePost (s.h.next + 1) s.fr (.mark s.h.next :: s.df) s.rd Q r h2) : NC P nt (.rangeFunc g ps assign body) Q s := by
  subst hh1
  refine NC.range_aux hg ((HStep.push _ _).trans (HStep.push _ _)) (fun r ι a w fn hs => ?_) ht hc hx
  have hr : r = none := by
    have := hs.rd
    rw [hrd] at this
    cases r with
    | none => rfl
    | some _ => exact this.elim
  subst hr
  obtain ⟨a1, a2⟩ := hs.sim.alloc (.marks true) (.deferred (some [])) ⟨w.heap.size, 0, 0, 0, false⟩ rfl ⟨rfl, rfl, World.alloc_heap_new _ _⟩
  have hsz : (w.alloc (.deferred (some []))).heap.size = w.heap.size + 1 := World.size_alloc _ _
  have hm : (ι.upd s.h.next ⟨w.heap.size, 0, 0, 0, false⟩) s.h.next = some ⟨w.heap.size, 0, 0, 0, false⟩ := Inj.upd_same _ _ _
  obtain ⟨b1, b2⟩ := a1.alloc (.loop ⟨nt, s.fr, ps, assign, body, s.h.next, .ready, none⟩) (.loop { state := .ready, pending := none, fn, tmps := a.tmps, params := ps, assign, body, defers := w.heap.size })
    ⟨w.heap.size + 1, 0, 0, 0, false⟩ hsz.symm ⟨rfl, rfl, _, by rw [← hsz]; exact World.alloc_heap_new _ _,
      ⟨(hs.fr.mono a2.le).mono (Inj.upd_le a1.fresh), rfl, rfl, rfl, rfl, rfl, ⟨w.heap.size, 0, 0, 0, false⟩, Inj.upd_le a1.fresh _ _ hm, rfl, rfl⟩⟩
  refine ⟨_, ⟨w.heap.size + 1, 0, 0, 0, false⟩, _, _, run_enterLoop_outer fn a.tmps ps assign body, ?_, rfl, b1, a2.trans b2, ?_⟩
  · exact Inj.upd_same _ _ _
  · exact ⟨⟨_, b2.le _ _ hm, rfl, rfl⟩, (hs.df.mono a2.le).mono b2.le⟩
/-- code in a loop over a function, walked without its places -/
theorem NC.strip {c c0 : Code} {Q : DExit → St → Prop} {s : St} (hs : Go.D.strip c0 = c) (hk : codeOK nt c = true) (h : xs P nt c Q s) : NC P nt c0 Q s := by
  subst hs
  exact xs_sound c0 Q s (by rw [← codeOK_strip]; exact hk) h
end Go.D

namespace Go.D
variable {P : Program} {α : Type} {R : Rep α} {S : Nat → Prop} {h : DHeap} {v : Value} {l : List α} {t : TypeId}

theorem bound_nat {k : IntKind} {n d y : Nat} (h : n ≤ y) : boundOf (some (.int k (n : Int))) d y = some n := by
  simp only [boundOf]
  rw [if_pos (by omega)]
  rfl
end Go.D

namespace Go.D
variable {P : Program} {nt : Nat}

/-- the heap in a loop over a function that was begun at hB: what the loop may change is ids, and what was made since -/
structure Rng (hB : DHeap) (D : DLoop) (ids : Nat → Prop) (K : DHeap) : Prop where
  old : ∀ j, j < hB.next → ¬ ids j → K.get j = hB.get j
  nx : hB.next + 2 ≤ K.next
  ng : K.ng = hB.ng
  mrk : K.get hB.next = some (.marks true)
  lp : K.get (hB.next + 1) = some (.loop D)
section
variable {hB K K' : DHeap} {D D' : DLoop} {ids : Nat → Prop} {o : DObj} {id : Nat}
theorem Rng.start (hB : DHeap) (D : DLoop) (ids : Nat → Prop) : Rng hB D ids ((hB.push (.marks true)).push (.loop D)) :=
  ⟨fun j hj _ => by rw [get_push_other _ _ (by rw [next_push]; omega), get_push_other _ _ hj], Nat.le_refl _, rfl, get_p1, get_push_same _ _⟩
theorem Rng.ext (r : Rng hB D ids K) (e : Ext K K') : Rng hB D ids K' :=
  ⟨fun j hj hi => (e.get j (by have := r.nx; omega)).trans (r.old j hj hi), Nat.le_trans r.nx e.next, e.ng.trans r.ng, (e.get _ (by have := r.nx; omega)).trans r.mrk, (e.get _ (by have := r.nx; omega)).trans r.lp⟩
theorem Rng.set (r : Rng hB D ids K) (hi : ids id) (hid : id < hB.next) : Rng hB D ids (K.set id o) :=
  ⟨fun j hj hij => (get_set_other _ _ (by intro hh; subst hh; exact hij hi)).trans (r.old j hj hij), r.nx, r.ng, (get_set_other _ _ (by omega)).trans r.mrk, (get_set_other _ _ (by omega)).trans r.lp⟩
theorem Rng.push (r : Rng hB D ids K) (o : DObj) : Rng hB D ids (K.push o) := r.ext (Ext.push1 _ _)
theorem Rng.loop (r : Rng hB D ids K) (D' : DLoop) : Rng hB D' ids (K.set (hB.next + 1) (.loop D')) :=
  ⟨fun j hj hij => (get_set_other _ _ (by omega)).trans (r.old j hj hij), r.nx, r.ng, (get_set_other _ _ (by omega)).trans r.mrk, get_set_same _ _⟩
theorem Rng.keep (r : Rng hB D ids K) (hn : K.next ≤ K'.next) (hg : K'.ng = K.ng) (h : ∀ j, j < hB.next + 2 → K'.get j = K.get j) : Rng hB D ids K' :=
  ⟨fun j hj hi => (h j (by omega)).trans (r.old j hj hi), Nat.le_trans r.nx hn, hg.trans r.ng, (h _ (by omega)).trans r.mrk, (h _ (by omega)).trans r.lp⟩
/-- what was there at h, under hB, and is not changed -/
theorem Rng.below {h : DHeap} (r : Rng hB D ids K) (e : Ext h hB) (hi : ∀ j, ids j → h.next ≤ j) : Ext h K :=
  ⟨Nat.le_trans e.next (by have := r.nx; omega), r.ng.trans e.ng, fun j hj => (r.old j (Nat.lt_of_lt_of_le hj e.next) (fun hh => by have := hi j hh; omega)).trans (e.get j hj)⟩
end
end Go.D
