/-
A part of the proof of a law: contracts of functions over plain heaps, and what they lean on. Conditions: none.
-/
import Derived.Test.YthjmkmoiopmfcaaChecked
import Derived.KernelRfl
import Derived.Sort.Statements
import Derived.Test.YthjmkmoiopmfcaaBase1
import Derived.Test.YthjmkmoiopmfcaaBase2
import Derived.Test.YthjmkmoiopmfcaaEvalOwnParts1
set_option linter.unusedSimpArgs false
set_option linter.unusedVariables false
namespace Go.Proofs.Ythjmkmoiopmfcaa
open Go.D
set_option maxRecDepth 100000
noncomputable def o44_0:Array Oper:=drawn Try.f44 0
def g44_0:List (Nat × Tmp × TypeId):=[]
def q44_0:List YO:=[.s 0 (mo 18 (.move (T 0))),
 .s 1 (mo 19 (.move (T 1))),
 .s 2 (mo 20 (.binOp .quo 2 (T 18) (T 19) 2)),
 .s 3 (mo 21 (.move (T 0))),
 .s 4 (mo 22 (.move (T 1))),
 .s 5 (mo 23 (.binOp .rem 2 (T 21) (T 22) 2)),
 .s 6 (mo 4 (.assign (T 20))),
 .s 7 (mo 5 (.assign (T 23))),
 .s 8 (mo 6 (.assign (.const (.bool true))))]
def l44_0:List Oper:=[mo 18 (.move (T 0)),
 mo 19 (.move (T 1)),
 mo 20 (.binOp .quo 2 (T 18) (T 19) 2),
 mo 21 (.move (T 0)),
 mo 22 (.move (T 1)),
 mo 23 (.binOp .rem 2 (T 21) (T 22) 2),
 mo 4 (.assign (T 20)),
 mo 5 (.assign (T 23)),
 mo 6 (.assign (.const (.bool true)))]
noncomputable def r44_0:Code:=.region 5 o44_0 true
theorem xr_44_0 {Q:DExit→St→Prop} {s:St}:xs Try.prog 24 r44_0 Q s=NC Try.prog 24 r44_0 Q s:=rfl
theorem yr_44_0 {Q:DExit→St→Prop} {s:St} (hdf:s.df=[]) (h:YG Try.prog (YD Try.prog l44_0.toArray Q q44_0) g44_0 s []):NC Try.prog 24 r44_0 Q s:=
 NC.yd (l:=l44_0) (b:=[0,0,3,0,0,24,7,127,255]) (by kernel_rfl) (by kernel_rfl) (by kernel_rfl) (by kernel_rfl) (by kernel_rfl) (by kernel_rfl) (by kernel_rfl) (by kernel_rfl) hdf h
attribute [go_sem] xr_44_0
noncomputable def c44:Code:=
 .seq (rg [mo 4 (.assign (.const (.int .i64 0))),
 mo 5 (.assign (.const (.int .i64 0))),
 mo 6 (.assign (.const (.bool false)))])
 (.seq (.block 0 (.seq (rg [mo 8 (.move (T 1)),
 mo 9 (.binOp .eql 2 (T 8) (.const (.int .i64 0)) 2),
 mo 7 (.assign (T 9))])
 (.cond (T 7) (.seq (rg [mo 4 (.assign (.const (.int .i64 0))),
 mo 5 (.assign (.const (.int .i64 0))),
 mo 6 (.assign (.const (.bool false)))])
 (.ret))
 (.seq (rg [mo 11 (.move (T 0)),
 mo 12 (.binOp .eql 2 (T 11) (.const (.int .i64 (-9223372036854775808))) 2),
 mo 13 (.move (T 12)),
 mg 14 2 true (.move (T 1)),
 mg 15 2 true (.binOp .eql 2 (T 14) (.const (.int .i64 (-1))) 2),
 mo 16 (.pick (T 13) (T 15) (.const (.bool false))),
 mo 10 (.assign (T 16))])
 (.cond (T 10) (.seq (rg [mo 17 (.move (T 0)),
 mo 4 (.assign (T 17)),
 mo 5 (.assign (.const (.int .i64 0))),
 mo 6 (.assign (.const (.bool true)))])
 (.ret))
 (.skip))))))
 (.seq (r44_0)
 (.ret)))
theorem body_44:Try.f44.body.map strip=some c44:=by kernel_rfl
theorem go_44:GoC Try.prog 44 24 c44 [(.tmp 4),(.tmp 5),(.tmp 6)]:=
 GoC.of (fn:=Try.f44) (by kernel_rfl) body_44 (by kernel_rfl) (by kernel_rfl) (by kernel_rfl)
def c45:Code:=
 .seq (rg [mo 2 (.assign (.const (.int .i64 0)))])
 (.seq (.seq (rg [mo 3 (.move (T 0))])
 (.cond (T 3) (.seq (rg [mo 2 (.assign (.const (.int .i64 1)))])
 (.ret))
 (.skip)))
 (.seq (rg [mo 2 (.assign (.const (.int .i64 0)))])
 (.ret)))
theorem body_45:Try.f45.body.map strip=some c45:=by kernel_rfl
theorem go_45:GoC Try.prog 45 4 c45 [(.tmp 2)]:=
 GoC.of (fn:=Try.f45) (by kernel_rfl) body_45 (by kernel_rfl) (by kernel_rfl) (by kernel_rfl)
noncomputable def o47_0:Array Oper:=drawn Try.f47 0
def g47_0:List (Nat × Tmp × TypeId):=[]
def q47_0:List YO:=[.s 0 (mo 11 (.load 44 (T 3))),
 .s 1 (mo 12 (.move (T 0))),
 .s 2 (mo 13 (.move (T 5))),
 .s 3 (mo 14 (.indexAddr 24 (T 12) (T 13))),
 .s 4 (mo 15 (.load 44 (T 14))),
 .s 5 (mo 16 (.binOp .eql 44 (T 11) (T 15) 44))]
def l47_0:List Oper:=[mo 11 (.load 44 (T 3)),
 mo 12 (.move (T 0)),
 mo 13 (.move (T 5)),
 mo 14 (.indexAddr 24 (T 12) (T 13)),
 mo 15 (.load 44 (T 14)),
 mo 16 (.binOp .eql 44 (T 11) (T 15) 44)]
noncomputable def r47_0:Code:=.region 4 o47_0 true
theorem xr_47_0 {Q:DExit→St→Prop} {s:St}:xs Try.prog 19 r47_0 Q s=NC Try.prog 19 r47_0 Q s:=rfl
theorem yr_47_0 {Q:DExit→St→Prop} {s:St} (hdf:s.df=[]) (h:YG Try.prog (YD Try.prog l47_0.toArray Q q47_0) g47_0 s []):NC Try.prog 19 r47_0 Q s:=
 NC.yd (l:=l47_0) (b:=[0,0,0,6,14,31]) (by kernel_rfl) (by kernel_rfl) (by kernel_rfl) (by kernel_rfl) (by kernel_rfl) (by kernel_rfl) (by kernel_rfl) (by kernel_rfl) hdf h
attribute [go_sem] xr_47_0
noncomputable def c47:Code:=
 .seq (rg [mo 3 (.box 44 (T 1)),
 mo 4 (.assign (.const (.int .i64 0)))])
 (.seq (.seq (rg [mo 6 (.move (T 0)),
 mo 7 (.call ⟨(.builtin .len),#[(T 6)],#[24]⟩),
 mo 8 (.move (.const (.int .i64 0)))])
 (.block 0 (.loop (.seq (rg [mo 9 (.binOp .lss 3 (T 8) (T 7) 3)])
 (.seq (.cond (T 9) (.skip)
 (.exit 0))
 (.seq (.block 1 (.seq (rg [mo 10 (.move (T 8)),
 mo 5 (.assign (T 10))])
 (.seq (r47_0)
 (.cond (T 16) (.seq (rg [mo 17 (.move (T 5)),
 mo 4 (.assign (T 17))])
 (.ret))
 (.skip)))))
 (rg [mo 18 (.binOp .add 3 (T 8) (.const (.int .i64 1)) 3),
 mo 8 (.move (T 18))])))))))
 (.seq (rg [mo 4 (.assign (.const (.int .i64 (-1))))])
 (.ret)))
theorem body_47:Try.f47.body.map strip=some c47:=by kernel_rfl
theorem go_47:GoC Try.prog 47 19 c47 [(.tmp 4)]:=
 GoC.of (fn:=Try.f47) (by kernel_rfl) body_47 (by kernel_rfl) (by kernel_rfl) (by kernel_rfl)
def c48:Code:=
 .seq (rg [mo 4 (.assign (.const (.slice none 0 0)))])
 (.seq (rg [mo 8 (.move (T 0)),
 mo 9 (.move (T 1)),
 mo 10 (.call ⟨(.value (.func 73)),#[(T 8),(T 9)],#[27,100]⟩),
 mo 5 (.assign (T 10))])
 (.seq (.seq (rg [mo 11 (.move (T 5)),
 mo 12 (.binOp .eql 3 (T 11) (.const (.int .i64 (-1))) 3)])
 (.cond (T 12) (.seq (rg [mo 13 (.move (T 0)),
 mo 4 (.assign (T 13))])
 (.ret))
 (.skip)))
 (.seq (.seq (rg [mo 14 (.move (T 5)),
 mo 15 (.binOp .add 3 (T 14) (.const (.int .i64 1)) 3),
 mo 6 (.assign (T 15))])
 (.block 0 (.loop (.seq (.seq (rg [mo 16 (.move (T 6)),
 mo 17 (.move (T 0)),
 mo 18 (.call ⟨(.builtin .len),#[(T 17)],#[27]⟩),
 mo 19 (.binOp .lss 3 (T 16) (T 18) 3)])
 (.cond (T 19) (.skip)
 (.exit 0)))
 (.seq (.block 1 (.seq (rg [mo 22 (.move (T 0)),
 mo 23 (.move (T 6)),
 mo 24 (.indexAddr 27 (T 22) (T 23)),
 mo 25 (.load 46 (T 24)),
 mo 7 (.alloc 46),
 mx (.store 46 (T 7) (T 25))])
 (.seq (rg [mo 26 (.move (T 1)),
 mo 27 (.load 46 (T 7)),
 mo 28 (.call ⟨(.value (T 26)),#[(T 27)],#[46]⟩),
 mo 29 (.unOp .not 4 (T 28))])
 (.cond (T 29) (.seq (rg [mo 30 (.move (T 0)),
 mo 31 (.move (T 5)),
 mo 32 (.load 46 (T 7)),
 mo 33 (.indexAddr 27 (T 30) (T 31)),
 mx (.store 46 (T 33) (T 32))])
 (rg [mo 34 (.move (T 5)),
 mo 35 (.binOp .add 3 (T 34) (.const (.int .i64 1)) 3),
 mo 5 (.assign (T 35))]))
 (.skip)))))
 (rg [mo 20 (.move (T 6)),
 mo 21 (.binOp .add 3 (T 20) (.const (.int .i64 1)) 3),
 mo 6 (.assign (T 21))]))))))
 (.seq (rg [mo 36 (.move (T 0)),
 mo 37 (.move (T 5)),
 mo 38 (.slice 27 (T 36) (some (T 37)) none none),
 mx (.call ⟨(.builtin .clear),#[(T 38)],#[27]⟩)])
 (.seq (rg [mo 39 (.move (T 0)),
 mo 40 (.move (T 5)),
 mo 41 (.slice 27 (T 39) none (some (T 40)) none),
 mo 4 (.assign (T 41))])
 (.ret))))))
theorem body_48:Try.f48.body.map strip=some c48:=by kernel_rfl
theorem go_48:GoC Try.prog 48 42 c48 [(.tmp 4)]:=
 GoC.of (fn:=Try.f48) (by kernel_rfl) body_48 (by kernel_rfl) (by kernel_rfl) (by kernel_rfl)
noncomputable def o49_0:Array Oper:=drawn Try.f49 0
def g49_0:List (Nat × Tmp × TypeId):=[]
def q49_0:List YO:=[.s 0 (mo 30 (.move (T 6))),
 .l 1 (mo 31 (.load 44 (T 8))),
 .s 2 (mo 32 (.move (T 3))),
 .s 3 (mo 33 (.load 44 (T 8))),
 .b 4 (mo 34 (.lookup 64 (T 32) (T 33) false)) [0],
 .s 5 (mo 35 (.build 46 #[(0,(T 31)),(1,(T 34))])),
 .b 6 (mo 36 (.buildSlice 27 1 #[(0,(T 35))])) [],
 .b 7 (mo 37 (.call ⟨(.builtin .append),#[(T 30),(T 36)],#[27,27]⟩)) [],
 .s 8 (mo 6 (.assign (T 37)))]
def l49_0:List Oper:=[mo 30 (.move (T 6)),
 mo 31 (.load 44 (T 8)),
 mo 32 (.move (T 3)),
 mo 33 (.load 44 (T 8)),
 mo 34 (.lookup 64 (T 32) (T 33) false),
 mo 35 (.build 46 #[(0,(T 31)),(1,(T 34))]),
 mo 36 (.buildSlice 27 1 #[(0,(T 35))]),
 mo 37 (.call ⟨(.builtin .append),#[(T 30),(T 36)],#[27,27]⟩),
 mo 6 (.assign (T 37))]
noncomputable def r49_0:Code:=.region 11 o49_0 true
theorem xr_49_0 {Q:DExit→St→Prop} {s:St}:xs Try.prog 40 r49_0 Q s=NC Try.prog 40 r49_0 Q s:=rfl
theorem yr_49_0 {Q:DExit→St→Prop} {s:St} (hdf:s.df=[]) (h:YG Try.prog (YD Try.prog l49_0.toArray Q q49_0) g49_0 s []):NC Try.prog 40 r49_0 Q s:=
 NC.yd (l:=l49_0) (b:=[0,0,0,0,12,30,62,127,255]) (by kernel_rfl) (by kernel_rfl) (by kernel_rfl) (by kernel_rfl) (by kernel_rfl) (by kernel_rfl) (by kernel_rfl) (by kernel_rfl) hdf h
attribute [go_sem] xr_49_0
noncomputable def c49:Code:=
 .seq (rg [mo 2 (.assign (.const (.slice none 0 0)))])
 (.seq (rg [mo 9 (.makeMap 64 none),
 mo 3 (.assign (T 9))])
 (.seq (.seq (rg [mo 10 (.move (T 0)),
 mo 11 (.call ⟨(.builtin .len),#[(T 10)],#[27]⟩),
 mo 12 (.move (.const (.int .i64 0)))])
 (.block 0 (.loop (.seq (rg [mo 13 (.binOp .lss 3 (T 12) (T 11) 3)])
 (.seq (.cond (T 13) (.skip)
 (.exit 0))
 (.seq (.block 1 (.seq (rg [mo 14 (.indexAddr 27 (T 10) (T 12)),
 mo 15 (.load 46 (T 14)),
 mo 5 (.alloc 46),
 mx (.store 46 (T 5) (T 15))])
 (rg [mo 16 (.move (T 3)),
 mo 17 (.fieldAddr 46 (T 5) 0),
 mo 18 (.load 44 (T 17)),
 mo 19 (.fieldAddr 46 (T 5) 1),
 mo 20 (.load 2 (T 19)),
 mx (.mapUpdate 64 (T 16) (T 18) (T 20))])))
 (rg [mo 21 (.binOp .add 3 (T 12) (.const (.int .i64 1)) 3),
 mo 12 (.move (T 21))])))))))
 (.seq (rg [mo 6 (.assign (.const (.slice none 0 0)))])
 (.seq (.seq (rg [mo 22 (.move (T 3)),
 mo 23 (.call ⟨(.value (.func 75)),#[(T 22)],#[64]⟩),
 mo 24 (.call ⟨(.value (.func 74)),#[(T 23),(.func 76)],#[119,121]⟩),
 mo 25 (.call ⟨(.builtin .len),#[(T 24)],#[24]⟩),
 mo 26 (.move (.const (.int .i64 0)))])
 (.block 2 (.loop (.seq (rg [mo 27 (.binOp .lss 3 (T 26) (T 25) 3)])
 (.seq (.cond (T 27) (.skip)
 (.exit 2))
 (.seq (.block 3 (.seq (rg [mo 28 (.indexAddr 24 (T 24) (T 26)),
 mo 29 (.load 44 (T 28)),
 mo 8 (.alloc 44),
 mx (.store 44 (T 8) (T 29))])
 (r49_0)))
 (rg [mo 38 (.binOp .add 3 (T 26) (.const (.int .i64 1)) 3),
 mo 26 (.move (T 38))])))))))
 (.seq (rg [mo 39 (.move (T 6)),
 mo 2 (.assign (T 39))])
 (.ret))))))
theorem body_49:Try.f49.body.map strip=some c49:=by kernel_rfl
theorem go_49:GoC Try.prog 49 40 c49 [(.tmp 2)]:=
 GoC.of (fn:=Try.f49) (by kernel_rfl) body_49 (by kernel_rfl) (by kernel_rfl) (by kernel_rfl)
def c50:Code:=
 .seq (rg [mo 2 (.box 46 (T 0)),
 mo 3 (.assign (.const (.bool false)))])
 (.seq (rg [mo 4 (.fieldAddr 26 (T 1) 4),
 mo 5 (.load 24 (T 4)),
 mo 6 (.fieldAddr 46 (T 2) 0),
 mo 7 (.load 44 (T 6)),
 mo 8 (.call ⟨(.value (.func 51)),#[(T 5),(T 7)],#[24,44]⟩),
 mo 9 (.unOp .not 4 (T 8)),
 mo 3 (.assign (T 9))])
 (.ret))
theorem body_50:Try.f50.body.map strip=some c50:=by kernel_rfl
theorem go_50:GoC Try.prog 50 10 c50 [(.tmp 3)]:=
 GoC.of (fn:=Try.f50) (by kernel_rfl) body_50 (by kernel_rfl) (by kernel_rfl) (by kernel_rfl)
def c51:Code:=
 .seq (rg [mo 3 (.box 44 (T 1)),
 mo 4 (.assign (.const (.bool false)))])
 (.seq (rg [mo 5 (.move (T 0)),
 mo 6 (.load 44 (T 3)),
 mo 7 (.call ⟨(.value (.func 19)),#[(T 5),(T 6)],#[24,44]⟩),
 mo 4 (.assign (T 7))])
 (.ret))
theorem body_51:Try.f51.body.map strip=some c51:=by kernel_rfl
theorem go_51:GoC Try.prog 51 8 c51 [(.tmp 4)]:=
 GoC.of (fn:=Try.f51) (by kernel_rfl) body_51 (by kernel_rfl) (by kernel_rfl) (by kernel_rfl)
noncomputable def o52_0:Array Oper:=drawn Try.f52 0
def l52_0:List Oper:=[mo 9 (.move (T 3)),
 mo 10 (.binOp .gtr 3 (T 9) (.const (.int .i64 0)) 3),
 mo 11 (.move (T 10)),
 mg 12 2 true (.move (T 0)),
 mg 13 2 true (.move (T 3)),
 mg 14 2 true (.indexAddr 24 (T 12) (T 13)),
 mg 15 2 true (.fieldAddr 44 (T 14) 0),
 mg 16 2 true (.load 21 (T 15)),
 mg 17 2 true (.move (T 0)),
 mg 18 2 true (.move (T 3)),
 mg 19 2 true (.binOp .sub 3 (T 18) (.const (.int .i64 1)) 3),
 mg 20 2 true (.indexAddr 24 (T 17) (T 19)),
 mg 21 2 true (.fieldAddr 44 (T 20) 0),
 mg 22 2 true (.load 21 (T 21)),
 mg 23 2 true (.binOp .lss 21 (T 16) (T 22) 21),
 mg 24 2 true (.move (T 23)),
 mg 25 15 false (.move (T 0)),
 mg 26 15 false (.move (T 3)),
 mg 27 15 false (.indexAddr 24 (T 25) (T 26)),
 mg 28 15 false (.fieldAddr 44 (T 27) 0),
 mg 29 15 false (.load 21 (T 28)),
 mg 30 15 false (.move (T 0)),
 mg 31 15 false (.move (T 3)),
 mg 32 15 false (.binOp .sub 3 (T 31) (.const (.int .i64 1)) 3),
 mg 33 15 false (.indexAddr 24 (T 30) (T 32)),
 mg 34 15 false (.fieldAddr 44 (T 33) 0),
 mg 35 15 false (.load 21 (T 34)),
 mg 36 15 false (.binOp .eql 21 (T 29) (T 35) 21),
 mg 37 15 false (.move (T 36)),
 mg 38 28 true (.move (T 0)),
 mg 39 28 true (.move (T 3)),
 mg 40 28 true (.indexAddr 24 (T 38) (T 39)),
 mg 41 28 true (.fieldAddr 44 (T 40) 1),
 mg 42 28 true (.load 2 (T 41)),
 mg 43 28 true (.move (T 0)),
 mg 44 28 true (.move (T 3)),
 mg 45 28 true (.binOp .sub 3 (T 44) (.const (.int .i64 1)) 3),
 mg 46 28 true (.indexAddr 24 (T 43) (T 45)),
 mg 47 28 true (.fieldAddr 44 (T 46) 1),
 mg 48 28 true (.load 2 (T 47)),
 mg 49 28 true (.binOp .leq 2 (T 42) (T 48) 2),
 mg 50 15 false (.pick (T 37) (T 49) (.const (.bool false))),
 mg 51 2 true (.pick (T 24) (.const (.bool true)) (T 50)),
 mo 52 (.pick (T 11) (T 51) (.const (.bool false)))]
noncomputable def r52_0:Code:=.region 4 o52_0 true
theorem xr_52_0 {Q:DExit→St→Prop} {s:St}:xs Try.prog 54 r52_0 Q s=NC Try.prog 54 r52_0 Q s:=rfl
theorem dr_52_0 {Q:DExit→St→Prop} {s:St} (h:XDraw Try.prog l52_0.toArray (befs o52_0.toList []) [] s.fr Q l52_0 0 s []):NC Try.prog 54 r52_0 Q s:=
 NC.draw (by kernel_rfl) (by kernel_rfl) (by kernel_rfl) rfl (by kernel_rfl) (by kernel_rfl) h
attribute [go_sem] xr_52_0
noncomputable def c52:Code:=
 .seq (rg [mo 2 (.assign (.const (.bool false)))])
 (.seq (.seq (rg [mo 4 (.move (T 0)),
 mo 5 (.call ⟨(.builtin .len),#[(T 4)],#[24]⟩),
 mo 6 (.move (.const (.int .i64 0)))])
 (.block 0 (.loop (.seq (rg [mo 7 (.binOp .lss 3 (T 6) (T 5) 3)])
 (.seq (.cond (T 7) (.skip)
 (.exit 0))
 (.seq (.block 1 (.seq (rg [mo 8 (.move (T 6)),
 mo 3 (.assign (T 8))])
 (.seq (r52_0)
 (.cond (T 52) (.seq (rg [mo 2 (.assign (.const (.bool false)))])
 (.ret))
 (.skip)))))
 (rg [mo 53 (.binOp .add 3 (T 6) (.const (.int .i64 1)) 3),
 mo 6 (.move (T 53))])))))))
 (.seq (rg [mo 2 (.assign (.const (.bool true)))])
 (.ret)))
theorem body_52:Try.f52.body.map strip=some c52:=by kernel_rfl
theorem go_52:GoC Try.prog 52 54 c52 [(.tmp 2)]:=
 GoC.of (fn:=Try.f52) (by kernel_rfl) body_52 (by kernel_rfl) (by kernel_rfl) (by kernel_rfl)
def c53:Code:=
 .seq (rg [mo 2 (.assign (.const (.slice none 0 0)))])
 (.seq (rg [mo 4 (.move (T 0)),
 mo 5 (.call ⟨(.value (.func 77)),#[(T 4)],#[24]⟩),
 mo 3 (.assign (T 5))])
 (.seq (rg [mo 6 (.move (T 3)),
 mo 7 (.call ⟨(.value (.func 78)),#[(T 6),(.func 76)],#[24,121]⟩)])
 (.seq (rg [mo 8 (.move (T 3)),
 mo 9 (.call ⟨(.value (.func 79)),#[(T 8)],#[24]⟩),
 mo 2 (.assign (T 9))])
 (.ret))))
theorem body_53:Try.f53.body.map strip=some c53:=by kernel_rfl
theorem go_53:GoC Try.prog 53 10 c53 [(.tmp 2)]:=
 GoC.of (fn:=Try.f53) (by kernel_rfl) body_53 (by kernel_rfl) (by kernel_rfl) (by kernel_rfl)
def c54:Code:=
 .seq (rg [mo 2 (.box 46 (T 0)),
 mo 3 (.assign (.const (.bool false)))])
 (.seq (rg [mo 4 (.load 103 (T 1)),
 mo 5 (.fieldAddr 46 (T 2) 0),
 mo 6 (.load 44 (T 5)),
 mo 7 (.lookup 103 (T 4) (T 6) false),
 mo 3 (.assign (T 7))])
 (.ret))
theorem body_54:Try.f54.body.map strip=some c54:=by kernel_rfl
theorem go_54:GoC Try.prog 54 8 c54 [(.tmp 3)]:=
 GoC.of (fn:=Try.f54) (by kernel_rfl) body_54 (by kernel_rfl) (by kernel_rfl) (by kernel_rfl)
noncomputable def o57_0:Array Oper:=drawn Try.f57 0
def g57_0:List (Nat × Tmp × TypeId):=[]
def q57_0:List YO:=[.s 0 (mo 17 (.move (T 0))),
 .s 1 (mo 18 (.move (T 5))),
 .s 2 (mo 19 (.indexAddr 24 (T 17) (T 18))),
 .s 3 (mo 20 (.load 44 (T 19))),
 .s 4 (mo 21 (.move (T 1))),
 .s 5 (mo 22 (.move (T 5))),
 .s 6 (mo 23 (.indexAddr 24 (T 21) (T 22))),
 .s 7 (mo 24 (.load 44 (T 23))),
 .s 8 (mo 25 (.binOp .neq 44 (T 20) (T 24) 44))]
def l57_0:List Oper:=[mo 17 (.move (T 0)),
 mo 18 (.move (T 5)),
 mo 19 (.indexAddr 24 (T 17) (T 18)),
 mo 20 (.load 44 (T 19)),
 mo 21 (.move (T 1)),
 mo 22 (.move (T 5)),
 mo 23 (.indexAddr 24 (T 21) (T 22)),
 mo 24 (.load 44 (T 23)),
 mo 25 (.binOp .neq 44 (T 20) (T 24) 44)]
noncomputable def r57_0:Code:=.region 6 o57_0 true
theorem xr_57_0 {Q:DExit→St→Prop} {s:St}:xs Try.prog 26 r57_0 Q s=NC Try.prog 26 r57_0 Q s:=rfl
theorem yr_57_0 {Q:DExit→St→Prop} {s:St} (hdf:s.df=[]) (h:YG Try.prog (YD Try.prog l57_0.toArray Q q57_0) g57_0 s []):NC Try.prog 26 r57_0 Q s:=
 NC.yd (l:=l57_0) (b:=[0,0,3,7,0,0,48,112,255]) (by kernel_rfl) (by kernel_rfl) (by kernel_rfl) (by kernel_rfl) (by kernel_rfl) (by kernel_rfl) (by kernel_rfl) (by kernel_rfl) hdf h
attribute [go_sem] xr_57_0
noncomputable def c57:Code:=
 .seq (rg [mo 4 (.assign (.const (.bool false)))])
 (.seq (.seq (rg [mo 6 (.move (T 0)),
 mo 7 (.call ⟨(.builtin .len),#[(T 6)],#[24]⟩),
 mo 8 (.move (T 1)),
 mo 9 (.call ⟨(.builtin .len),#[(T 8)],#[24]⟩),
 mo 10 (.binOp .neq 3 (T 7) (T 9) 3)])
 (.cond (T 10) (.seq (rg [mo 4 (.assign (.const (.bool false)))])
 (.ret))
 (.skip)))
 (.seq (.seq (rg [mo 5 (.assign (.const (.int .i64 0)))])
 (.block 0 (.loop (.seq (.seq (rg [mo 11 (.move (T 5)),
 mo 12 (.move (T 0)),
 mo 13 (.call ⟨(.builtin .len),#[(T 12)],#[24]⟩),
 mo 14 (.binOp .lss 3 (T 11) (T 13) 3)])
 (.cond (T 14) (.skip)
 (.exit 0)))
 (.seq (.block 1 (.seq (r57_0)
 (.cond (T 25) (.seq (rg [mo 4 (.assign (.const (.bool false)))])
 (.ret))
 (.skip))))
 (rg [mo 15 (.move (T 5)),
 mo 16 (.binOp .add 3 (T 15) (.const (.int .i64 1)) 3),
 mo 5 (.assign (T 16))]))))))
 (.seq (rg [mo 4 (.assign (.const (.bool true)))])
 (.ret))))
theorem body_57:Try.f57.body.map strip=some c57:=by kernel_rfl
theorem go_57:GoC Try.prog 57 26 c57 [(.tmp 4)]:=
 GoC.of (fn:=Try.f57) (by kernel_rfl) body_57 (by kernel_rfl) (by kernel_rfl) (by kernel_rfl)
def c58:Code:=
 .seq (rg [mo 3 (.call ⟨(.builtin .recover),#[],#[]⟩),
 mo 2 (.assign (T 3))])
 (.seq (rg [mo 4 (.move (T 2)),
 mo 5 (.binOp .neq 20 (T 4) (.const .nilIface) 20)])
 (.cond (T 5) (rg [mo 6 (.move (T 2)),
 mo 7 (.call ⟨(.value (.func 59)),#[(T 6)],#[20]⟩),
 mx (.store 74 (T 0) (.const (.slice none 0 0))),
 mx (.store 53 (T 1) (T 7))])
 (.skip)))
theorem body_58:Try.f58.body.map strip=some c58:=by kernel_rfl
def c59:Code:=
 .seq (rg [mo 2 (.assign (.const (.int .i64 0)))])
 (.seq (rg [mo 6 (.move (T 0)),
 mo 7 (.typeAssert (T 6) 20 125 true),
 mo 5 (.move (T 7)),
 mo 8 (.extract (T 5) 0),
 mo 9 (.extract (T 5) 1),
 mo 3 (.alloc 125),
 mx (.store 125 (T 3) (T 8)),
 mo 4 (.assign (T 9))])
 (.seq (.seq (rg [mo 10 (.move (T 4)),
 mo 11 (.unOp .not 4 (T 10))])
 (.cond (T 11) (rg [mo 12 (.move (T 0)),
 mx (.panic (T 12))])
 (.skip)))
 (.seq (rg [mo 13 (.fieldAddr 125 (T 3) 0),
 mo 14 (.load 53 (T 13)),
 mo 2 (.assign (T 14))])
 (.ret))))
theorem body_59:Try.f59.body.map strip=some c59:=by kernel_rfl
theorem go_59:GoC Try.prog 59 15 c59 [(.tmp 2)]:=
 GoC.of (fn:=Try.f59) (by kernel_rfl) body_59 (by kernel_rfl) (by kernel_rfl) (by kernel_rfl)
def c60:Code:=
 .seq (rg [mo 2 (.assign (.const (.slice none 0 0)))])
 (.seq (rg [mo 3 (.assign (.const (.slice none 0 0)))])
 (.seq (.seq (rg [mo 4 (.assign (.const (.int .i64 0)))])
 (.block 0 (.loop (.seq (.seq (rg [mo 8 (.move (T 4)),
 mo 9 (.move (T 0)),
 mo 10 (.call ⟨(.builtin .len),#[(T 9)],#[22]⟩),
 mo 11 (.binOp .lss 3 (T 8) (T 10) 3)])
 (.cond (T 11) (.skip)
 (.exit 0)))
 (.block 1 (.seq (rg [mo 13 (.move (T 0)),
 mo 14 (.move (T 4)),
 mo 15 (.call ⟨(.value (.func 81)),#[(T 13),(T 14)],#[22,3]⟩),
 mo 12 (.move (T 15)),
 mo 16 (.extract (T 12) 0),
 mo 17 (.extract (T 12) 1),
 mo 18 (.extract (T 12) 2),
 mo 5 (.alloc 83),
 mx (.store 83 (T 5) (T 16)),
 mo 6 (.assign (T 17)),
 mo 7 (.assign (T 18))])
 (.seq (rg [mo 19 (.move (T 7)),
 mo 20 (.call ⟨(.value (.func 62)),#[(T 19)],#[53]⟩)])
 (.seq (rg [mo 21 (.move (T 3)),
 mo 22 (.load 83 (T 5)),
 mo 23 (.buildSlice 74 1 #[(0,(T 22))]),
 mo 24 (.call ⟨(.builtin .append),#[(T 21),(T 23)],#[74,74]⟩),
 mo 3 (.assign (T 24))])
 (rg [mo 25 (.move (T 6)),
 mo 4 (.assign (T 25))])))))))))
 (.seq (rg [mo 26 (.move (T 3)),
 mo 2 (.assign (T 26))])
 (.ret))))
theorem body_60:Try.f60.body.map strip=some c60:=by kernel_rfl
theorem go_60:GoC Try.prog 60 27 c60 [(.tmp 2)]:=
 GoC.of (fn:=Try.f60) (by kernel_rfl) body_60 (by kernel_rfl) (by kernel_rfl) (by kernel_rfl)
def c61:Code:=
 .seq (rg [mo 1 (.box 83 (T 0)),
 mo 2 (.assign (.const (.bool false)))])
 (.seq (rg [mo 3 (.fieldAddr 83 (T 1) 1),
 mo 4 (.load 3 (T 3)),
 mo 5 (.binOp .eql 3 (T 4) (.const (.int .i64 22)) 3),
 mo 6 (.move (T 5)),
 mg 7 3 false (.fieldAddr 83 (T 1) 1),
 mg 8 3 false (.load 3 (T 7)),
 mg 9 3 false (.binOp .eql 3 (T 8) (.const (.int .i64 23)) 3),
 mo 10 (.pick (T 6) (.const (.bool true)) (T 9)),
 mo 2 (.assign (T 10))])
 (.ret))
theorem body_61:Try.f61.body.map strip=some c61:=by kernel_rfl
theorem go_61:GoC Try.prog 61 11 c61 [(.tmp 2)]:=
 GoC.of (fn:=Try.f61) (by kernel_rfl) body_61 (by kernel_rfl) (by kernel_rfl) (by kernel_rfl)
def c62:Code:=
 .seq (rg [mo 2 (.move (T 0)),
 mo 3 (.binOp .neq 53 (T 2) (.const (.int .i64 0)) 53)])
 (.cond (T 3) (rg [mo 4 (.move (T 0)),
 mo 5 (.build 125 #[(0,(T 4))]),
 mo 6 (.makeInterface 125 (T 5)),
 mx (.panic (T 6))])
 (.skip))
theorem body_62:Try.f62.body.map strip=some c62:=by kernel_rfl
theorem go_62:GoC Try.prog 62 7 c62 []:=
 GoC.of (fn:=Try.f62) (by kernel_rfl) body_62 (by kernel_rfl) (by kernel_rfl) (by kernel_rfl)
end Go.Proofs.Ythjmkmoiopmfcaa

namespace Go.Proofs.Ythjmkmoiopmfcaa
open Go.D
set_option maxRecDepth 100000
noncomputable def o63_0:Array Oper:=drawn Try.f63 0
def g63_0:List (Nat × Tmp × TypeId):=[(9,6,51)]
def q63_0:List YO:=[.s 0 (mo 11 (.move (T 0))),
 .s 1 (mo 12 (.nilCheck (T 11))),
 .s 2 (mo 13 (.fieldAddr 81 (T 12) 3)),
 .s 3 (mo 14 (.load 63 (T 13))),
 .s 4 (mo 15 (.load 44 (T 3))),
 .b 5 (mo 16 (.lookup 63 (T 14) (T 15) true)) [0],
 .s 6 (mo 10 (.move (T 16))),
 .s 7 (mo 17 (.extract (T 10) 0)),
 .s 8 (mo 18 (.extract (T 10) 1)),
 .b 10 (mx (.store 51 (T 6) (T 17))) [],
 .s 11 (mo 7 (.assign (T 18)))]
def l63_0:List Oper:=yL g63_0 q63_0 12
noncomputable def r63_0:Code:=.region 1 o63_0 true
theorem xr_63_0 {Q:DExit→St→Prop} {s:St}:xs Try.prog 36 r63_0 Q s=NC Try.prog 36 r63_0 Q s:=rfl
theorem yr_63_0 {Q:DExit→St→Prop} {s:St} (hdf:s.df=[]) (h:YG Try.prog (YD Try.prog l63_0.toArray Q q63_0) g63_0 s []):NC Try.prog 36 r63_0 Q s:=
 NC.yd (l:=l63_0) (b:=[0,1,3,7,0,31,63,127,127,0,767,2047]) (by kernel_rfl) (by kernel_rfl) (by kernel_rfl) (by kernel_rfl) (by kernel_rfl) (by kernel_rfl) (by kernel_rfl) (by kernel_rfl) hdf h
attribute [go_sem] xr_63_0
noncomputable def o63_1:Array Oper:=drawn Try.f63 1
def g63_1:List (Nat × Tmp × TypeId):=[]
def q63_1:List YO:=[.s 0 (mo 20 (.fieldAddr 51 (T 6) 1)),
 .s 1 (mo 21 (.load 2 (T 20))),
 .s 2 (mo 22 (.fieldAddr 51 (T 6) 2)),
 .s 3 (mo 23 (.load 4 (T 22))),
 .s 4 (mo 24 (.unOp .not 4 (T 23))),
 .s 5 (mo 4 (.assign (T 21))),
 .s 6 (mo 5 (.assign (T 24)))]
def l63_1:List Oper:=[mo 20 (.fieldAddr 51 (T 6) 1),
 mo 21 (.load 2 (T 20)),
 mo 22 (.fieldAddr 51 (T 6) 2),
 mo 23 (.load 4 (T 22)),
 mo 24 (.unOp .not 4 (T 23)),
 mo 4 (.assign (T 21)),
 mo 5 (.assign (T 24))]
noncomputable def r63_1:Code:=.region 3 o63_1 true
theorem xr_63_1 {Q:DExit→St→Prop} {s:St}:xs Try.prog 36 r63_1 Q s=NC Try.prog 36 r63_1 Q s:=rfl
theorem yr_63_1 {Q:DExit→St→Prop} {s:St} (hdf:s.df=[]) (h:YG Try.prog (YD Try.prog l63_1.toArray Q q63_1) g63_1 s []):NC Try.prog 36 r63_1 Q s:=
 NC.yd (l:=l63_1) (b:=[0,1,0,4,12,3,63]) (by kernel_rfl) (by kernel_rfl) (by kernel_rfl) (by kernel_rfl) (by kernel_rfl) (by kernel_rfl) (by kernel_rfl) (by kernel_rfl) hdf h
attribute [go_sem] xr_63_1
noncomputable def o63_2:Array Oper:=drawn Try.f63 2
def g63_2:List (Nat × Tmp × TypeId):=[]
def q63_2:List YO:=[.s 0 (mo 26 (.move (T 0))),
 .s 1 (mo 27 (.nilCheck (T 26))),
 .s 2 (mo 28 (.fieldAddr 81 (T 27) 2)),
 .s 3 (mo 29 (.load 64 (T 28))),
 .s 4 (mo 30 (.load 44 (T 3))),
 .b 5 (mo 31 (.lookup 64 (T 29) (T 30) true)) [],
 .s 6 (mo 25 (.move (T 31))),
 .s 7 (mo 32 (.extract (T 25) 0)),
 .s 8 (mo 33 (.extract (T 25) 1)),
 .s 9 (mo 8 (.assign (T 32))),
 .s 10 (mo 9 (.assign (T 33)))]
def l63_2:List Oper:=[mo 26 (.move (T 0)),
 mo 27 (.nilCheck (T 26)),
 mo 28 (.fieldAddr 81 (T 27) 2),
 mo 29 (.load 64 (T 28)),
 mo 30 (.load 44 (T 3)),
 mo 31 (.lookup 64 (T 29) (T 30) true),
 mo 25 (.move (T 31)),
 mo 32 (.extract (T 25) 0),
 mo 33 (.extract (T 25) 1),
 mo 8 (.assign (T 32)),
 mo 9 (.assign (T 33))]
noncomputable def r63_2:Code:=.region 4 o63_2 true
theorem xr_63_2 {Q:DExit→St→Prop} {s:St}:xs Try.prog 36 r63_2 Q s=NC Try.prog 36 r63_2 Q s:=rfl
theorem yr_63_2 {Q:DExit→St→Prop} {s:St} (hdf:s.df=[]) (h:YG Try.prog (YD Try.prog l63_2.toArray Q q63_2) g63_2 s []):NC Try.prog 36 r63_2 Q s:=
 NC.yd (l:=l63_2) (b:=[0,1,3,7,0,31,63,127,127,255,1023]) (by kernel_rfl) (by kernel_rfl) (by kernel_rfl) (by kernel_rfl) (by kernel_rfl) (by kernel_rfl) (by kernel_rfl) (by kernel_rfl) hdf h
attribute [go_sem] xr_63_2
noncomputable def c63:Code:=
 .seq (rg [mo 3 (.box 44 (T 1)),
 mo 4 (.assign (.const (.int .i64 0))),
 mo 5 (.assign (.const (.bool false)))])
 (.seq (.seq (r63_0)
 (.seq (rg [mo 19 (.move (T 7))])
 (.cond (T 19) (.seq (r63_1)
 (.ret))
 (.skip))))
 (.seq (r63_2)
 (.seq (rg [mo 34 (.move (T 8)),
 mo 35 (.move (T 9)),
 mo 4 (.assign (T 34)),
 mo 5 (.assign (T 35))])
 (.ret))))
theorem body_63:Try.f63.body.map strip=some c63:=by kernel_rfl
theorem go_63:GoC Try.prog 63 36 c63 [(.tmp 4),(.tmp 5)]:=
 GoC.of (fn:=Try.f63) (by kernel_rfl) body_63 (by kernel_rfl) (by kernel_rfl) (by kernel_rfl)
def c64:Code:=
 rg [mo 4 (.move (T 0)),
 mo 5 (.move (T 0)),
 mo 6 (.nilCheck (T 5)),
 mo 7 (.fieldAddr 81 (T 6) 6),
 mo 8 (.load 78 (T 7)),
 mo 9 (.move (T 1)),
 mo 10 (.lookup 78 (T 8) (T 9) false),
 mo 11 (.nilCheck (T 4)),
 mo 12 (.fieldAddr 81 (T 11) 5),
 mx (.store 3 (T 12) (T 10))]
theorem body_64:Try.f64.body.map strip=some c64:=by kernel_rfl
theorem go_64:GoC Try.prog 64 13 c64 []:=
 GoC.of (fn:=Try.f64) (by kernel_rfl) body_64 (by kernel_rfl) (by kernel_rfl) (by kernel_rfl)
def c73:Code:=
 .seq (rg [mo 4 (.assign (.const (.int .i64 0)))])
 (.seq (.seq (rg [mo 6 (.move (T 0)),
 mo 7 (.call ⟨(.builtin .len),#[(T 6)],#[27]⟩),
 mo 8 (.move (.const (.int .i64 0)))])
 (.block 0 (.loop (.seq (rg [mo 9 (.binOp .lss 3 (T 8) (T 7) 3)])
 (.seq (.cond (T 9) (.skip)
 (.exit 0))
 (.seq (.block 1 (.seq (rg [mo 10 (.move (T 8)),
 mo 5 (.assign (T 10))])
 (.seq (rg [mo 11 (.move (T 1)),
 mo 12 (.move (T 0)),
 mo 13 (.move (T 5)),
 mo 14 (.indexAddr 27 (T 12) (T 13)),
 mo 15 (.load 46 (T 14)),
 mo 16 (.call ⟨(.value (T 11)),#[(T 15)],#[46]⟩)])
 (.cond (T 16) (.seq (rg [mo 17 (.move (T 5)),
 mo 4 (.assign (T 17))])
 (.ret))
 (.skip)))))
 (rg [mo 18 (.binOp .add 3 (T 8) (.const (.int .i64 1)) 3),
 mo 8 (.move (T 18))])))))))
 (.seq (rg [mo 4 (.assign (.const (.int .i64 (-1))))])
 (.ret)))
theorem body_73:Try.f73.body.map strip=some c73:=by kernel_rfl
theorem go_73:GoC Try.prog 73 19 c73 [(.tmp 4)]:=
 GoC.of (fn:=Try.f73) (by kernel_rfl) body_73 (by kernel_rfl) (by kernel_rfl) (by kernel_rfl)
def c74:Code:=
 .seq (rg [mo 4 (.assign (.const (.slice none 0 0)))])
 (.seq (rg [mo 6 (.move (T 0)),
 mo 7 (.call ⟨(.value (.func 86)),#[(T 6)],#[119]⟩),
 mo 5 (.assign (T 7))])
 (.seq (rg [mo 8 (.move (T 5)),
 mo 9 (.move (T 1)),
 mo 10 (.call ⟨(.value (.func 78)),#[(T 8),(T 9)],#[24,121]⟩)])
 (.seq (rg [mo 11 (.move (T 5)),
 mo 4 (.assign (T 11))])
 (.ret))))
theorem body_74:Try.f74.body.map strip=some c74:=by kernel_rfl
theorem go_74:GoC Try.prog 74 12 c74 [(.tmp 4)]:=
 GoC.of (fn:=Try.f74) (by kernel_rfl) body_74 (by kernel_rfl) (by kernel_rfl) (by kernel_rfl)
def c75:Code:=
 .seq (rg [mo 1 (.box 64 (T 0)),
 mo 2 (.assign (.const .nilFunc))])
 (.seq (rg [mo 3 (.makeFunc (.func 87) #[] #[(T 1)]),
 mo 2 (.assign (T 3))])
 (.ret))
theorem body_75:Try.f75.body.map strip=some c75:=by kernel_rfl
theorem go_75:GoC Try.prog 75 4 c75 [(.tmp 2)]:=
 GoC.of (fn:=Try.f75) (by kernel_rfl) body_75 (by kernel_rfl) (by kernel_rfl) (by kernel_rfl)
noncomputable def o76_0:Array Oper:=drawn Try.f76 0
def l76_0:List Oper:=[mo 5 (.fieldAddr 44 (T 2) 0),
 mo 6 (.load 21 (T 5)),
 mo 7 (.fieldAddr 44 (T 3) 0),
 mo 8 (.load 21 (T 7)),
 mo 9 (.call ⟨(.value (.func 89)),#[(T 6),(T 8)],#[21,21]⟩),
 mo 10 (.fieldAddr 44 (T 2) 1),
 mo 11 (.load 2 (T 10)),
 mo 12 (.fieldAddr 44 (T 3) 1),
 mo 13 (.load 2 (T 12)),
 mo 14 (.call ⟨(.value (.func 90)),#[(T 11),(T 13)],#[2,2]⟩),
 mo 15 (.buildSlice 138 2 #[(0,(T 9)),(1,(T 14))]),
 mo 16 (.call ⟨(.value (.func 88)),#[(T 15)],#[138]⟩),
 mo 4 (.assign (T 16))]
noncomputable def r76_0:Code:=.region 1 o76_0 true
theorem xr_76_0 {Q:DExit→St→Prop} {s:St}:xs Try.prog 17 r76_0 Q s=NC Try.prog 17 r76_0 Q s:=rfl
theorem dr_76_0 {Q:DExit→St→Prop} {s:St} (h:XDraw Try.prog l76_0.toArray (befs o76_0.toList []) [(6,4),(8,4)] s.fr Q l76_0 0 s []):NC Try.prog 17 r76_0 Q s:=
 NC.draw (by kernel_rfl) (by kernel_rfl) (by kernel_rfl) rfl (by kernel_rfl) (by kernel_rfl) h
attribute [go_sem] xr_76_0
noncomputable def c76:Code:=
 .seq (rg [mo 2 (.box 44 (T 0)),
 mo 3 (.box 44 (T 1)),
 mo 4 (.assign (.const (.int .i64 0)))])
 (.seq (r76_0)
 (.ret))
theorem body_76:Try.f76.body.map strip=some c76:=by kernel_rfl
theorem go_76:GoC Try.prog 76 17 c76 [(.tmp 4)]:=
 GoC.of (fn:=Try.f76) (by kernel_rfl) body_76 (by kernel_rfl) (by kernel_rfl) (by kernel_rfl)
def c77:Code:=
 .seq (rg [mo 2 (.assign (.const (.slice none 0 0)))])
 (.seq (.seq (rg [mo 3 (.move (T 0)),
 mo 4 (.binOp .eql 24 (T 3) (.const (.slice none 0 0)) 24)])
 (.cond (T 4) (.seq (rg [mo 2 (.assign (.const (.slice none 0 0)))])
 (.ret))
 (.skip)))
 (.seq (rg [mo 5 (.buildSlice 24 0 #[]),
 mo 6 (.move (T 0)),
 mo 7 (.call ⟨(.builtin .append),#[(T 5),(T 6)],#[24,24]⟩),
 mo 2 (.assign (T 7))])
 (.ret)))
theorem body_77:Try.f77.body.map strip=some c77:=by kernel_rfl
theorem go_77:GoC Try.prog 77 8 c77 [(.tmp 2)]:=
 GoC.of (fn:=Try.f77) (by kernel_rfl) body_77 (by kernel_rfl) (by kernel_rfl) (by kernel_rfl)
def c78:Code:=
 .seq (rg [mo 5 (.move (T 0)),
 mo 6 (.call ⟨(.builtin .len),#[(T 5)],#[24]⟩),
 mo 4 (.assign (T 6))])
 (rg [mo 7 (.move (T 0)),
 mo 8 (.move (T 4)),
 mo 9 (.move (T 4)),
 mo 10 (.convert 3 96 (T 9)),
 mo 11 (.call ⟨(.value (.func 92)),#[(T 10)],#[96]⟩),
 mo 12 (.move (T 1)),
 mo 13 (.call ⟨(.value (.func 91)),#[(T 7),(.const (.int .i64 0)),(T 8),(T 11),(T 12)],#[24,3,3,3,121]⟩)])
theorem body_78:Try.f78.body.map strip=some c78:=by kernel_rfl
theorem go_78:GoC Try.prog 78 14 c78 []:=
 GoC.of (fn:=Try.f78) (by kernel_rfl) body_78 (by kernel_rfl) (by kernel_rfl) (by kernel_rfl)
noncomputable def o79_0:Array Oper:=drawn Try.f79 0
def l79_0:List Oper:=[mo 16 (.move (T 0)),
 mo 17 (.move (T 3)),
 mo 18 (.indexAddr 24 (T 16) (T 17)),
 mo 19 (.load 44 (T 18)),
 mo 20 (.move (T 0)),
 mo 21 (.move (T 3)),
 mo 22 (.binOp .sub 3 (T 21) (.const (.int .i64 1)) 3),
 mo 23 (.indexAddr 24 (T 20) (T 22)),
 mo 24 (.load 44 (T 23)),
 mo 25 (.binOp .eql 44 (T 19) (T 24) 44)]
noncomputable def r79_0:Code:=.region 6 o79_0 true
theorem xr_79_0 {Q:DExit→St→Prop} {s:St}:xs Try.prog 61 r79_0 Q s=NC Try.prog 61 r79_0 Q s:=rfl
theorem dr_79_0 {Q:DExit→St→Prop} {s:St} (h:XDraw Try.prog l79_0.toArray (befs o79_0.toList []) [] s.fr Q l79_0 0 s []):NC Try.prog 61 r79_0 Q s:=
 NC.draw (by kernel_rfl) (by kernel_rfl) (by kernel_rfl) rfl (by kernel_rfl) (by kernel_rfl) h
attribute [go_sem] xr_79_0
noncomputable def o79_1:Array Oper:=drawn Try.f79 1
def l79_1:List Oper:=[mo 35 (.move (T 4)),
 mo 36 (.move (T 5)),
 mo 37 (.indexAddr 24 (T 35) (T 36)),
 mo 38 (.load 44 (T 37)),
 mo 39 (.move (T 4)),
 mo 40 (.move (T 5)),
 mo 41 (.binOp .sub 3 (T 40) (.const (.int .i64 1)) 3),
 mo 42 (.indexAddr 24 (T 39) (T 41)),
 mo 43 (.load 44 (T 42)),
 mo 44 (.binOp .neq 44 (T 38) (T 43) 44)]
noncomputable def r79_1:Code:=.region 11 o79_1 true
theorem xr_79_1 {Q:DExit→St→Prop} {s:St}:xs Try.prog 61 r79_1 Q s=NC Try.prog 61 r79_1 Q s:=rfl
theorem dr_79_1 {Q:DExit→St→Prop} {s:St} (h:XDraw Try.prog l79_1.toArray (befs o79_1.toList []) [] s.fr Q l79_1 0 s []):NC Try.prog 61 r79_1 Q s:=
 NC.draw (by kernel_rfl) (by kernel_rfl) (by kernel_rfl) rfl (by kernel_rfl) (by kernel_rfl) h
attribute [go_sem] xr_79_1
noncomputable def c79:Code:=
 .seq (rg [mo 2 (.assign (.const (.slice none 0 0)))])
 (.seq (.seq (rg [mo 6 (.move (T 0)),
 mo 7 (.call ⟨(.builtin .len),#[(T 6)],#[24]⟩),
 mo 8 (.binOp .lss 3 (T 7) (.const (.int .i64 2)) 3)])
 (.cond (T 8) (.seq (rg [mo 9 (.move (T 0)),
 mo 2 (.assign (T 9))])
 (.ret))
 (.skip)))
 (.seq (.seq (rg [mo 3 (.assign (.const (.int .i64 1)))])
 (.block 0 (.loop (.seq (.seq (rg [mo 10 (.move (T 3)),
 mo 11 (.move (T 0)),
 mo 12 (.call ⟨(.builtin .len),#[(T 11)],#[24]⟩),
 mo 13 (.binOp .lss 3 (T 10) (T 12) 3)])
 (.cond (T 13) (.skip)
 (.exit 0)))
 (.seq (.block 1 (.seq (r79_0)
 (.cond (T 25) (.seq (rg [mo 26 (.move (T 0)),
 mo 27 (.move (T 3)),
 mo 28 (.slice 24 (T 26) (some (T 27)) none none),
 mo 4 (.assign (T 28))])
 (.seq (.seq (rg [mo 5 (.assign (.const (.int .i64 1)))])
 (.block 2 (.loop (.seq (.seq (rg [mo 29 (.move (T 5)),
 mo 30 (.move (T 4)),
 mo 31 (.call ⟨(.builtin .len),#[(T 30)],#[24]⟩),
 mo 32 (.binOp .lss 3 (T 29) (T 31) 3)])
 (.cond (T 32) (.skip)
 (.exit 2)))
 (.seq (.block 3 (.seq (r79_1)
 (.cond (T 44) (.seq (rg [mo 45 (.move (T 0)),
 mo 46 (.move (T 3)),
 mo 47 (.move (T 4)),
 mo 48 (.move (T 5)),
 mo 49 (.indexAddr 24 (T 47) (T 48)),
 mo 50 (.load 44 (T 49)),
 mo 51 (.indexAddr 24 (T 45) (T 46)),
 mx (.store 44 (T 51) (T 50))])
 (rg [mo 52 (.move (T 3)),
 mo 53 (.binOp .add 3 (T 52) (.const (.int .i64 1)) 3),
 mo 3 (.assign (T 53))]))
 (.skip))))
 (rg [mo 33 (.move (T 5)),
 mo 34 (.binOp .add 3 (T 33) (.const (.int .i64 1)) 3),
 mo 5 (.assign (T 34))]))))))
 (.seq (rg [mo 54 (.move (T 0)),
 mo 55 (.move (T 3)),
 mo 56 (.slice 24 (T 54) (some (T 55)) none none),
 mx (.call ⟨(.builtin .clear),#[(T 56)],#[24]⟩)])
 (.seq (rg [mo 57 (.move (T 0)),
 mo 58 (.move (T 3)),
 mo 59 (.slice 24 (T 57) none (some (T 58)) none),
 mo 2 (.assign (T 59))])
 (.ret)))))
 (.skip))))
 (rg [mo 14 (.move (T 3)),
 mo 15 (.binOp .add 3 (T 14) (.const (.int .i64 1)) 3),
 mo 3 (.assign (T 15))]))))))
 (.seq (rg [mo 60 (.move (T 0)),
 mo 2 (.assign (T 60))])
 (.ret))))
theorem body_79:Try.f79.body.map strip=some c79:=by kernel_rfl
theorem go_79:GoC Try.prog 79 61 c79 [(.tmp 2)]:=
 GoC.of (fn:=Try.f79) (by kernel_rfl) body_79 (by kernel_rfl) (by kernel_rfl) (by kernel_rfl)
end Go.Proofs.Ythjmkmoiopmfcaa

namespace Go.Proofs.Ythjmkmoiopmfcaa
open Go.D
set_option maxRecDepth 100000
noncomputable def o81_0:Array Oper:=drawn Try.f81 0
def l81_0:List Oper:=[mo 65 (.move (T 12)),
 mo 66 (.indexAddr 22 (T 65) (.const (.int .i64 0))),
 mo 67 (.load 5 (T 66)),
 mo 68 (.convert 5 3 (T 67)),
 mo 69 (.move (T 12)),
 mo 70 (.slice 22 (T 69) (some (.const (.int .i64 1))) none none),
 mo 71 (.fieldAddr 83 (T 9) 2),
 mx (.store 3 (T 71) (T 68)),
 mo 12 (.assign (T 70))]
noncomputable def r81_0:Code:=.region 10 o81_0 true
noncomputable def o81_1:Array Oper:=drawn Try.f81 1
def l81_1:List Oper:=[mo 75 (.move (T 12)),
 mo 76 (.indexAddr 22 (T 75) (.const (.int .i64 0))),
 mo 77 (.load 5 (T 76)),
 mo 78 (.convert 5 3 (T 77)),
 mo 79 (.move (T 12)),
 mo 80 (.slice 22 (T 79) (some (.const (.int .i64 1))) none none),
 mo 81 (.fieldAddr 83 (T 9) 3),
 mx (.store 3 (T 81) (T 78)),
 mo 12 (.assign (T 80))]
noncomputable def r81_1:Code:=.region 12 o81_1 true
noncomputable def o81_2:Array Oper:=drawn Try.f81 2
def l81_2:List Oper:=[mo 95 (.move (T 12)),
 mo 96 (.indexAddr 22 (T 95) (.const (.int .i64 0))),
 mo 97 (.load 5 (T 96)),
 mo 98 (.convert 5 41 (T 97)),
 mo 99 (.move (T 12)),
 mo 100 (.indexAddr 22 (T 99) (.const (.int .i64 1))),
 mo 101 (.load 5 (T 100)),
 mo 102 (.convert 5 41 (T 101)),
 mo 103 (.binOp .shl 41 (T 102) (.const (.int .u64 8)) 96),
 mo 104 (.binOp .or 41 (T 98) (T 103) 41),
 mo 105 (.convert 41 39 (T 104)),
 mo 106 (.convert 39 2 (T 105)),
 mo 107 (.fieldAddr 83 (T 9) 4),
 mx (.store 2 (T 107) (T 106))]
noncomputable def r81_2:Code:=.region 16 o81_2 true
theorem dr_81_2 {Q:DExit→St→Prop} {s:St} (h:XDraw Try.prog l81_2.toArray (befs o81_2.toList []) [] s.fr Q l81_2 0 s []):NC Try.prog 132 r81_2 Q s:=
 NC.draw (by kernel_rfl) (by kernel_rfl) (by kernel_rfl) rfl (by kernel_rfl) (by kernel_rfl) h
noncomputable def o81_3:Array Oper:=drawn Try.f81 3
def l81_3:List Oper:=[mo 112 (.move (T 12)),
 mo 113 (.indexAddr 22 (T 112) (.const (.int .i64 0))),
 mo 114 (.load 5 (T 113)),
 mo 115 (.convert 5 41 (T 114)),
 mo 116 (.move (T 12)),
 mo 117 (.indexAddr 22 (T 116) (.const (.int .i64 1))),
 mo 118 (.load 5 (T 117)),
 mo 119 (.convert 5 41 (T 118)),
 mo 120 (.binOp .shl 41 (T 119) (.const (.int .u64 8)) 96),
 mo 121 (.binOp .or 41 (T 115) (T 120) 41),
 mo 122 (.convert 41 2 (T 121)),
 mo 123 (.fieldAddr 83 (T 9) 4),
 mx (.store 2 (T 123) (T 122))]
noncomputable def r81_3:Code:=.region 18 o81_3 true
theorem dr_81_3 {Q:DExit→St→Prop} {s:St} (h:XDraw Try.prog l81_3.toArray (befs o81_3.toList []) [] s.fr Q l81_3 0 s []):NC Try.prog 132 r81_3 Q s:=
 NC.draw (by kernel_rfl) (by kernel_rfl) (by kernel_rfl) rfl (by kernel_rfl) (by kernel_rfl) h
noncomputable def c81:Code:=
 .seq (rg [mo 4 (.alloc 83),
 mo 5 (.assign (.const (.int .i64 0))),
 mo 6 (.assign (.const (.int .i64 0)))])
 (.seq (.seq (rg [mo 13 (.move (T 1)),
 mo 14 (.binOp .lss 3 (T 13) (.const (.int .i64 0)) 3),
 mo 15 (.move (T 14)),
 mg 16 2 false (.move (T 1)),
 mg 17 2 false (.move (T 0)),
 mg 18 2 false (.call ⟨(.builtin .len),#[(T 17)],#[22]⟩),
 mg 19 2 false (.binOp .geq 3 (T 16) (T 18) 3),
 mo 20 (.pick (T 15) (.const (.bool true)) (T 19))])
 (.cond (T 20) (.seq (rg [mo 21 (.build 83 #[]),
 mx (.store 83 (T 4) (T 21)),
 mo 5 (.assign (.const (.int .i64 0))),
 mo 6 (.assign (.const (.int .i64 130)))])
 (.ret))
 (.skip)))
 (.seq (rg [mo 23 (.move (T 0)),
 mo 24 (.move (T 1)),
 mo 25 (.indexAddr 22 (T 23) (T 24)),
 mo 26 (.load 5 (T 25)),
 mo 27 (.convert 5 3 (T 26)),
 mo 28 (.call ⟨(.value (.func 93)),#[(T 27)],#[3]⟩),
 mo 22 (.move (T 28)),
 mo 29 (.extract (T 22) 0),
 mo 30 (.extract (T 22) 1),
 mo 7 (.assign (T 29)),
 mo 8 (.assign (T 30))])
 (.seq (.seq (rg [mo 31 (.move (T 8)),
 mo 32 (.unOp .not 4 (T 31)),
 mo 33 (.move (T 32)),
 mg 34 2 false (.move (T 7)),
 mg 35 2 false (.move (T 0)),
 mg 36 2 false (.call ⟨(.builtin .len),#[(T 35)],#[22]⟩),
 mg 37 2 false (.move (T 1)),
 mg 38 2 false (.binOp .sub 3 (T 36) (T 37) 3),
 mg 39 2 false (.binOp .gtr 3 (T 34) (T 38) 3),
 mo 40 (.pick (T 33) (.const (.bool true)) (T 39))])
 (.cond (T 40) (.seq (rg [mo 41 (.build 83 #[]),
 mx (.store 83 (T 4) (T 41)),
 mo 5 (.assign (.const (.int .i64 0))),
 mo 6 (.assign (.const (.int .i64 130)))])
 (.ret))
 (.skip)))
 (.seq (rg [mo 42 (.move (T 1)),
 mo 43 (.move (T 0)),
 mo 44 (.move (T 1)),
 mo 45 (.indexAddr 22 (T 43) (T 44)),
 mo 46 (.load 5 (T 45)),
 mo 47 (.convert 5 3 (T 46)),
 mo 48 (.build 83 #[(0,(T 42)),(1,(T 47))]),
 mo 9 (.alloc 83),
 mx (.store 83 (T 9) (T 48))])
 (.seq (rg [mo 50 (.fieldAddr 83 (T 9) 1),
 mo 51 (.load 3 (T 50)),
 mo 52 (.call ⟨(.value (.func 94)),#[(T 51)],#[3]⟩),
 mo 49 (.move (T 52)),
 mo 53 (.extract (T 49) 0),
 mo 54 (.extract (T 49) 1),
 mo 10 (.assign (T 53)),
 mo 11 (.assign (T 54))])
 (.seq (rg [mo 55 (.move (T 0)),
 mo 56 (.move (T 1)),
 mo 57 (.binOp .add 3 (T 56) (.const (.int .i64 1)) 3),
 mo 58 (.move (T 1)),
 mo 59 (.move (T 7)),
 mo 60 (.binOp .add 3 (T 58) (T 59) 3),
 mo 61 (.slice 22 (T 55) (some (T 57)) (some (T 60)) none),
 mo 12 (.assign (T 61))])
 (.seq (.seq (rg [mo 62 (.move (T 10)),
 mo 63 (.binOp .and 3 (T 62) (.const (.int .i64 1)) 3),
 mo 64 (.binOp .neq 3 (T 63) (.const (.int .i64 0)) 3)])
 (.cond (T 64) (r81_0)
 (.skip)))
 (.seq (.seq (rg [mo 72 (.move (T 10)),
 mo 73 (.binOp .and 3 (T 72) (.const (.int .i64 2)) 3),
 mo 74 (.binOp .neq 3 (T 73) (.const (.int .i64 0)) 3)])
 (.cond (T 74) (r81_1)
 (.skip)))
 (.seq (.block 0 (.seq (rg [mo 83 (.move (T 10)),
 mo 84 (.binOp .and 3 (T 83) (.const (.int .i64 4)) 3),
 mo 85 (.binOp .neq 3 (T 84) (.const (.int .i64 0)) 3),
 mo 82 (.assign (T 85))])
 (.cond (T 82) (rg [mo 86 (.move (T 12)),
 mo 87 (.indexAddr 22 (T 86) (.const (.int .i64 0))),
 mo 88 (.load 5 (T 87)),
 mo 89 (.convert 5 2 (T 88)),
 mo 90 (.fieldAddr 83 (T 9) 4),
 mx (.store 2 (T 90) (T 89))])
 (.seq (rg [mo 92 (.move (T 10)),
 mo 93 (.binOp .and 3 (T 92) (.const (.int .i64 8)) 3),
 mo 94 (.binOp .neq 3 (T 93) (.const (.int .i64 0)) 3),
 mo 91 (.assign (T 94))])
 (.cond (T 91) (r81_2)
 (.seq (rg [mo 109 (.move (T 10)),
 mo 110 (.binOp .and 3 (T 109) (.const (.int .i64 16)) 3),
 mo 111 (.binOp .neq 3 (T 110) (.const (.int .i64 0)) 3),
 mo 108 (.assign (T 111))])
 (.cond (T 108) (r81_3)
 (.skip))))))))
 (.seq (.seq (rg [mo 124 (.load 83 (T 9)),
 mo 125 (.call ⟨(.value (.func 95)),#[(T 124)],#[83]⟩),
 mo 126 (.unOp .not 4 (T 125))])
 (.cond (T 126) (.seq (rg [mo 127 (.build 83 #[]),
 mx (.store 83 (T 4) (T 127)),
 mo 5 (.assign (.const (.int .i64 0))),
 mo 6 (.assign (.const (.int .i64 132)))])
 (.ret))
 (.skip)))
 (.seq (rg [mo 128 (.load 83 (T 9)),
 mo 129 (.move (T 1)),
 mo 130 (.move (T 7)),
 mo 131 (.binOp .add 3 (T 129) (T 130) 3),
 mx (.store 83 (T 4) (T 128)),
 mo 5 (.assign (T 131)),
 mo 6 (.assign (.const (.int .i64 0)))])
 (.ret))))))))))))
theorem body_81:Try.f81.body.map strip=some c81:=by kernel_rfl
theorem go_81:GoC Try.prog 81 132 c81 [(.cell 4 83),(.tmp 5),(.tmp 6)]:=
 GoC.of (fn:=Try.f81) (by kernel_rfl) body_81 (by kernel_rfl) (by kernel_rfl) (by kernel_rfl)
def c86:Code:=
 .seq (rg [mo 2 (.assign (.const (.slice none 0 0)))])
 (.seq (rg [mo 3 (.move (T 0)),
 mo 4 (.call ⟨(.value (.func 96)),#[(.const (.slice none 0 0)),(T 3)],#[24,119]⟩),
 mo 2 (.assign (T 4))])
 (.ret))
theorem body_86:Try.f86.body.map strip=some c86:=by kernel_rfl
theorem go_86:GoC Try.prog 86 5 c86 [(.tmp 2)]:=
 GoC.of (fn:=Try.f86) (by kernel_rfl) body_86 (by kernel_rfl) (by kernel_rfl) (by kernel_rfl)
def c87:Code:=
 .seq (rg [mo 4 (.load 64 (T 1)),
 mo 5 (.range 64 (T 4))])
 (.block 0 (.loop (.seq (rg [mo 6 (.next (T 5) false),
 mo 7 (.extract (T 6) 0)])
 (.seq (.cond (T 7) (.skip)
 (.exit 0))
 (.block 1 (.seq (rg [mo 8 (.entry (T 5)),
 mo 9 (.extract (T 8) 0),
 mo 3 (.alloc 44),
 mx (.store 44 (T 3) (T 9))])
 (.seq (rg [mo 10 (.move (T 0)),
 mo 11 (.load 44 (T 3)),
 mo 12 (.call ⟨(.value (T 10)),#[(T 11)],#[44]⟩),
 mo 13 (.unOp .not 4 (T 12))])
 (.cond (T 13) (.ret)
 (.skip)))))))))
theorem body_87:Try.f87.body.map strip=some c87:=by kernel_rfl
theorem go_87:GoC Try.prog 87 14 c87 []:=
 GoC.of (fn:=Try.f87) (by kernel_rfl) body_87 (by kernel_rfl) (by kernel_rfl) (by kernel_rfl)
def c88:Code:=
 .seq (rg [mo 2 (.assign (.const (.int .i64 0)))])
 (.seq (rg [mo 3 (.assign (.const (.int .i64 0)))])
 (.seq (.seq (rg [mo 6 (.move (T 0)),
 mo 7 (.call ⟨(.builtin .len),#[(T 6)],#[138]⟩),
 mo 8 (.move (.const (.int .i64 0)))])
 (.block 0 (.loop (.seq (rg [mo 9 (.binOp .lss 3 (T 8) (T 7) 3)])
 (.seq (.cond (T 9) (.skip)
 (.exit 0))
 (.seq (.block 1 (.seq (rg [mo 10 (.indexAddr 138 (T 6) (T 8)),
 mo 11 (.load 3 (T 10)),
 mo 5 (.assign (T 11))])
 (.seq (rg [mo 12 (.move (T 5)),
 mo 13 (.move (T 3)),
 mo 14 (.binOp .neq 3 (T 12) (T 13) 3)])
 (.cond (T 14) (.seq (rg [mo 15 (.move (T 5)),
 mo 2 (.assign (T 15))])
 (.ret))
 (.skip)))))
 (rg [mo 16 (.binOp .add 3 (T 8) (.const (.int .i64 1)) 3),
 mo 8 (.move (T 16))])))))))
 (.seq (rg [mo 17 (.move (T 3)),
 mo 2 (.assign (T 17))])
 (.ret))))
theorem body_88:Try.f88.body.map strip=some c88:=by kernel_rfl
theorem go_88:GoC Try.prog 88 18 c88 [(.tmp 2)]:=
 GoC.of (fn:=Try.f88) (by kernel_rfl) body_88 (by kernel_rfl) (by kernel_rfl) (by kernel_rfl)
def c89:Code:=
 .seq (rg [mo 4 (.assign (.const (.int .i64 0)))])
 (.seq (rg [mo 7 (.move (T 0)),
 mo 8 (.call ⟨(.value (.func 97)),#[(T 7)],#[21]⟩),
 mo 5 (.assign (T 8))])
 (.seq (rg [mo 9 (.move (T 1)),
 mo 10 (.call ⟨(.value (.func 97)),#[(T 9)],#[21]⟩),
 mo 6 (.assign (T 10))])
 (.seq (.seq (rg [mo 11 (.move (T 5))])
 (.cond (T 11) (.seq (.seq (rg [mo 12 (.move (T 6))])
 (.cond (T 12) (.seq (rg [mo 4 (.assign (.const (.int .i64 0)))])
 (.ret))
 (.skip)))
 (.seq (rg [mo 4 (.assign (.const (.int .i64 (-1))))])
 (.ret)))
 (.skip)))
 (.seq (.seq (rg [mo 13 (.move (T 6))])
 (.cond (T 13) (.seq (rg [mo 4 (.assign (.const (.int .i64 1)))])
 (.ret))
 (.skip)))
 (.seq (.seq (rg [mo 14 (.move (T 0)),
 mo 15 (.move (T 1)),
 mo 16 (.binOp .lss 21 (T 14) (T 15) 21)])
 (.cond (T 16) (.seq (rg [mo 4 (.assign (.const (.int .i64 (-1))))])
 (.ret))
 (.skip)))
 (.seq (.seq (rg [mo 17 (.move (T 0)),
 mo 18 (.move (T 1)),
 mo 19 (.binOp .gtr 21 (T 17) (T 18) 21)])
 (.cond (T 19) (.seq (rg [mo 4 (.assign (.const (.int .i64 1)))])
 (.ret))
 (.skip)))
 (.seq (rg [mo 4 (.assign (.const (.int .i64 0)))])
 (.ret))))))))
theorem body_89:Try.f89.body.map strip=some c89:=by kernel_rfl
theorem go_89:GoC Try.prog 89 20 c89 [(.tmp 4)]:=
 GoC.of (fn:=Try.f89) (by kernel_rfl) body_89 (by kernel_rfl) (by kernel_rfl) (by kernel_rfl)
def c90:Code:=
 .seq (rg [mo 4 (.assign (.const (.int .i64 0)))])
 (.seq (rg [mo 7 (.move (T 0)),
 mo 8 (.call ⟨(.value (.func 98)),#[(T 7)],#[2]⟩),
 mo 5 (.assign (T 8))])
 (.seq (rg [mo 9 (.move (T 1)),
 mo 10 (.call ⟨(.value (.func 98)),#[(T 9)],#[2]⟩),
 mo 6 (.assign (T 10))])
 (.seq (.seq (rg [mo 11 (.move (T 5))])
 (.cond (T 11) (.seq (.seq (rg [mo 12 (.move (T 6))])
 (.cond (T 12) (.seq (rg [mo 4 (.assign (.const (.int .i64 0)))])
 (.ret))
 (.skip)))
 (.seq (rg [mo 4 (.assign (.const (.int .i64 (-1))))])
 (.ret)))
 (.skip)))
 (.seq (.seq (rg [mo 13 (.move (T 6))])
 (.cond (T 13) (.seq (rg [mo 4 (.assign (.const (.int .i64 1)))])
 (.ret))
 (.skip)))
 (.seq (.seq (rg [mo 14 (.move (T 0)),
 mo 15 (.move (T 1)),
 mo 16 (.binOp .lss 2 (T 14) (T 15) 2)])
 (.cond (T 16) (.seq (rg [mo 4 (.assign (.const (.int .i64 (-1))))])
 (.ret))
 (.skip)))
 (.seq (.seq (rg [mo 17 (.move (T 0)),
 mo 18 (.move (T 1)),
 mo 19 (.binOp .gtr 2 (T 17) (T 18) 2)])
 (.cond (T 19) (.seq (rg [mo 4 (.assign (.const (.int .i64 1)))])
 (.ret))
 (.skip)))
 (.seq (rg [mo 4 (.assign (.const (.int .i64 0)))])
 (.ret))))))))
theorem body_90:Try.f90.body.map strip=some c90:=by kernel_rfl
theorem go_90:GoC Try.prog 90 20 c90 [(.tmp 4)]:=
 GoC.of (fn:=Try.f90) (by kernel_rfl) body_90 (by kernel_rfl) (by kernel_rfl) (by kernel_rfl)
noncomputable def o91_0:Array Oper:=drawn Try.f91 0
noncomputable def r91_0:Code:=.region 17 o91_0 true
noncomputable def c91:Code:=
 .seq (rg [mo 10 (.assign (.const (.bool true)))])
 (.seq (rg [mo 11 (.assign (.const (.bool true)))])
 (.block 0 (.loop (.block 1 (.seq (rg [mo 21 (.move (T 2)),
 mo 22 (.move (T 1)),
 mo 23 (.binOp .sub 3 (T 21) (T 22) 3),
 mo 12 (.assign (T 23))])
 (.seq (.seq (rg [mo 24 (.move (T 12)),
 mo 25 (.binOp .leq 3 (T 24) (.const (.int .i64 12)) 3)])
 (.cond (T 25) (.seq (rg [mo 26 (.move (T 0)),
 mo 27 (.move (T 1)),
 mo 28 (.move (T 2)),
 mo 29 (.move (T 4)),
 mo 30 (.call ⟨(.value (.func 99)),#[(T 26),(T 27),(T 28),(T 29)],#[24,3,3,121]⟩)])
 (.ret))
 (.skip)))
 (.seq (.seq (rg [mo 31 (.move (T 3)),
 mo 32 (.binOp .eql 3 (T 31) (.const (.int .i64 0)) 3)])
 (.cond (T 32) (.seq (rg [mo 33 (.move (T 0)),
 mo 34 (.move (T 1)),
 mo 35 (.move (T 2)),
 mo 36 (.move (T 4)),
 mo 37 (.call ⟨(.value (.func 100)),#[(T 33),(T 34),(T 35),(T 36)],#[24,3,3,121]⟩)])
 (.ret))
 (.skip)))
 (.seq (.seq (rg [mo 38 (.move (T 10)),
 mo 39 (.unOp .not 4 (T 38))])
 (.cond (T 39) (.seq (rg [mo 40 (.move (T 0)),
 mo 41 (.move (T 1)),
 mo 42 (.move (T 2)),
 mo 43 (.move (T 4)),
 mo 44 (.call ⟨(.value (.func 101)),#[(T 40),(T 41),(T 42),(T 43)],#[24,3,3,121]⟩)])
 (rg [mo 45 (.move (T 3)),
 mo 46 (.binOp .sub 3 (T 45) (.const (.int .i64 1)) 3),
 mo 3 (.assign (T 46))]))
 (.skip)))
 (.seq (rg [mo 48 (.move (T 0)),
 mo 49 (.move (T 1)),
 mo 50 (.move (T 2)),
 mo 51 (.move (T 4)),
 mo 52 (.call ⟨(.value (.func 102)),#[(T 48),(T 49),(T 50),(T 51)],#[24,3,3,121]⟩),
 mo 47 (.move (T 52)),
 mo 53 (.extract (T 47) 0),
 mo 54 (.extract (T 47) 1),
 mo 13 (.assign (T 53)),
 mo 14 (.assign (T 54))])
 (.seq (.seq (rg [mo 55 (.move (T 14)),
 mo 56 (.binOp .eql 142 (T 55) (.const (.int .i64 2)) 142)])
 (.cond (T 56) (.seq (rg [mo 57 (.move (T 0)),
 mo 58 (.move (T 1)),
 mo 59 (.move (T 2)),
 mo 60 (.move (T 4)),
 mo 61 (.call ⟨(.value (.func 103)),#[(T 57),(T 58),(T 59),(T 60)],#[24,3,3,121]⟩)])
 (.seq (rg [mo 62 (.move (T 2)),
 mo 63 (.binOp .sub 3 (T 62) (.const (.int .i64 1)) 3),
 mo 64 (.move (T 13)),
 mo 65 (.move (T 1)),
 mo 66 (.binOp .sub 3 (T 64) (T 65) 3),
 mo 67 (.binOp .sub 3 (T 63) (T 66) 3),
 mo 13 (.assign (T 67))])
 (rg [mo 14 (.assign (.const (.int .i64 1)))])))
 (.skip)))
 (.seq (.seq (rg [mo 68 (.move (T 10)),
 mo 69 (.move (T 68)),
 mg 70 1 true (.move (T 11)),
 mo 71 (.pick (T 69) (T 70) (.const (.bool false))),
 mo 72 (.move (T 71)),
 mg 73 4 true (.move (T 14)),
 mg 74 4 true (.binOp .eql 142 (T 73) (.const (.int .i64 1)) 142),
 mo 75 (.pick (T 72) (T 74) (.const (.bool false)))])
 (.cond (T 75) (.seq (rg [mo 76 (.move (T 0)),
 mo 77 (.move (T 1)),
 mo 78 (.move (T 2)),
 mo 79 (.move (T 4)),
 mo 80 (.call ⟨(.value (.func 104)),#[(T 76),(T 77),(T 78),(T 79)],#[24,3,3,121]⟩)])
 (.cond (T 80) (.ret)
 (.skip)))
 (.skip)))
 (.seq (.seq (r91_0)
 (.cond (T 97) (.seq (rg [mo 98 (.move (T 0)),
 mo 99 (.move (T 1)),
 mo 100 (.move (T 2)),
 mo 101 (.move (T 13)),
 mo 102 (.move (T 4)),
 mo 103 (.call ⟨(.value (.func 105)),#[(T 98),(T 99),(T 100),(T 101),(T 102)],#[24,3,3,3,121]⟩),
 mo 15 (.assign (T 103))])
 (.seq (rg [mo 104 (.move (T 15)),
 mo 1 (.assign (T 104))])
 (.exit 1)))
 (.skip)))
 (.seq (rg [mo 106 (.move (T 0)),
 mo 107 (.move (T 1)),
 mo 108 (.move (T 2)),
 mo 109 (.move (T 13)),
 mo 110 (.move (T 4)),
 mo 111 (.call ⟨(.value (.func 106)),#[(T 106),(T 107),(T 108),(T 109),(T 110)],#[24,3,3,3,121]⟩),
 mo 105 (.move (T 111)),
 mo 112 (.extract (T 105) 0),
 mo 113 (.extract (T 105) 1),
 mo 16 (.assign (T 112)),
 mo 17 (.assign (T 113))])
 (.seq (rg [mo 114 (.move (T 17)),
 mo 11 (.assign (T 114))])
 (.seq (rg [mo 115 (.move (T 16)),
 mo 116 (.move (T 1)),
 mo 117 (.binOp .sub 3 (T 115) (T 116) 3),
 mo 118 (.move (T 2)),
 mo 119 (.move (T 16)),
 mo 120 (.binOp .sub 3 (T 118) (T 119) 3),
 mo 18 (.assign (T 117)),
 mo 19 (.assign (T 120))])
 (.seq (rg [mo 121 (.move (T 12)),
 mo 122 (.binOp .quo 3 (T 121) (.const (.int .i64 8)) 3),
 mo 20 (.assign (T 122))])
 (.seq (rg [mo 123 (.move (T 18)),
 mo 124 (.move (T 19)),
 mo 125 (.binOp .lss 3 (T 123) (T 124) 3)])
 (.cond (T 125) (.seq (rg [mo 126 (.move (T 18)),
 mo 127 (.move (T 20)),
 mo 128 (.binOp .geq 3 (T 126) (T 127) 3),
 mo 10 (.assign (T 128))])
 (.seq (rg [mo 129 (.move (T 0)),
 mo 130 (.move (T 1)),
 mo 131 (.move (T 16)),
 mo 132 (.move (T 3)),
 mo 133 (.move (T 4)),
 mo 134 (.call ⟨(.value (.func 91)),#[(T 129),(T 130),(T 131),(T 132),(T 133)],#[24,3,3,3,121]⟩)])
 (rg [mo 135 (.move (T 16)),
 mo 136 (.binOp .add 3 (T 135) (.const (.int .i64 1)) 3),
 mo 1 (.assign (T 136))])))
 (.seq (rg [mo 137 (.move (T 19)),
 mo 138 (.move (T 20)),
 mo 139 (.binOp .geq 3 (T 137) (T 138) 3),
 mo 10 (.assign (T 139))])
 (.seq (rg [mo 140 (.move (T 0)),
 mo 141 (.move (T 16)),
 mo 142 (.binOp .add 3 (T 141) (.const (.int .i64 1)) 3),
 mo 143 (.move (T 2)),
 mo 144 (.move (T 3)),
 mo 145 (.move (T 4)),
 mo 146 (.call ⟨(.value (.func 91)),#[(T 140),(T 142),(T 143),(T 144),(T 145)],#[24,3,3,3,121]⟩)])
 (rg [mo 147 (.move (T 16)),
 mo 2 (.assign (T 147))])))))))))))))))))))))
theorem body_91:Try.f91.body.map strip=some c91:=by kernel_rfl
theorem go_91:GoC Try.prog 91 148 c91 []:=
 GoC.of (fn:=Try.f91) (by kernel_rfl) body_91 (by kernel_rfl) (by kernel_rfl) (by kernel_rfl)
def c92:Code:=
 .seq (rg [mo 2 (.assign (.const (.int .i64 0)))])
 (.seq (.cond (.const (.bool false)) (.seq (rg [mo 3 (.move (T 0)),
 mo 4 (.convert 96 149 (T 3)),
 mo 5 (.call ⟨(.value (.func 107)),#[(T 4)],#[149]⟩),
 mo 2 (.assign (T 5))])
 (.ret))
 (.skip))
 (.seq (rg [mo 6 (.move (T 0)),
 mo 7 (.call ⟨(.value (.func 108)),#[(T 6)],#[92]⟩),
 mo 2 (.assign (T 7))])
 (.ret)))
theorem body_92:Try.f92.body.map strip=some c92:=by kernel_rfl
theorem go_92:GoC Try.prog 92 8 c92 [(.tmp 2)]:=
 GoC.of (fn:=Try.f92) (by kernel_rfl) body_92 (by kernel_rfl) (by kernel_rfl) (by kernel_rfl)
def c93:Code:=
 .seq (rg [mo 2 (.assign (.const (.int .i64 0))),
 mo 3 (.assign (.const (.bool false)))])
 (.seq (rg [mo 10 (.move (T 0)),
 mo 11 (.call ⟨(.value (.func 94)),#[(T 10)],#[3]⟩),
 mo 9 (.move (T 11)),
 mo 12 (.extract (T 9) 0),
 mo 13 (.extract (T 9) 1),
 mo 4 (.assign (T 12)),
 mo 5 (.assign (T 13))])
 (.seq (.seq (rg [mo 14 (.move (T 5)),
 mo 15 (.unOp .not 4 (T 14))])
 (.cond (T 15) (.seq (rg [mo 2 (.assign (.const (.int .i64 0))),
 mo 3 (.assign (.const (.bool false)))])
 (.ret))
 (.skip)))
 (.seq (rg [mo 6 (.assign (.const (.int .i64 1)))])
 (.seq (.seq (rg [mo 16 (.build 151 #[(0,(.const (.int .i64 1))),(1,(.const (.int .i64 1)))]),
 mo 17 (.build 151 #[(0,(.const (.int .i64 2))),(1,(.const (.int .i64 1)))]),
 mo 18 (.build 151 #[(0,(.const (.int .i64 4))),(1,(.const (.int .i64 1)))]),
 mo 19 (.build 151 #[(0,(.const (.int .i64 8))),(1,(.const (.int .i64 2)))]),
 mo 20 (.build 151 #[(0,(.const (.int .i64 16))),(1,(.const (.int .i64 2)))]),
 mo 21 (.build 152 #[(0,(T 16)),(1,(T 17)),(2,(T 18)),(3,(T 19)),(4,(T 20))]),
 mo 22 (.move (.const (.int .i64 0)))])
 (.block 0 (.loop (.seq (rg [mo 23 (.binOp .lss 3 (T 22) (.const (.int .i64 5)) 3)])
 (.seq (.cond (T 23) (.skip)
 (.exit 0))
 (.seq (.block 1 (.seq (rg [mo 24 (.index 152 (T 21) (T 22)),
 mo 8 (.alloc 151),
 mx (.store 151 (T 8) (T 24))])
 (.seq (rg [mo 25 (.move (T 4)),
 mo 26 (.indexAddr 151 (T 8) (.const (.int .i64 0))),
 mo 27 (.load 3 (T 26)),
 mo 28 (.binOp .and 3 (T 25) (T 27) 3),
 mo 29 (.binOp .neq 3 (T 28) (.const (.int .i64 0)) 3)])
 (.cond (T 29) (rg [mo 30 (.move (T 6)),
 mo 31 (.indexAddr 151 (T 8) (.const (.int .i64 1))),
 mo 32 (.load 3 (T 31)),
 mo 33 (.binOp .add 3 (T 30) (T 32) 3),
 mo 6 (.assign (T 33))])
 (.skip)))))
 (rg [mo 34 (.binOp .add 3 (T 22) (.const (.int .i64 1)) 3),
 mo 22 (.move (T 34))])))))))
 (.seq (rg [mo 35 (.move (T 6)),
 mo 2 (.assign (T 35)),
 mo 3 (.assign (.const (.bool true)))])
 (.ret))))))
theorem body_93:Try.f93.body.map strip=some c93:=by kernel_rfl
theorem go_93:GoC Try.prog 93 36 c93 [(.tmp 2),(.tmp 3)]:=
 GoC.of (fn:=Try.f93) (by kernel_rfl) body_93 (by kernel_rfl) (by kernel_rfl) (by kernel_rfl)
def c94:Code:=
 .seq (rg [mo 2 (.assign (.const (.int .i64 0))),
 mo 3 (.assign (.const (.bool false)))])
 (.seq (rg [mo 5 (.build 153 #[(0,(.const (.int .i64 0))),(1,(.const (.int .i64 9))),(2,(.const (.int .i64 5))),(3,(.const (.int .i64 5))),(4,(.const (.int .i64 5))),(5,(.const (.int .i64 5))),(6,(.const (.int .i64 4))),(7,(.const (.int .i64 3))),(8,(.const (.int .i64 3))),(9,(.const (.int .i64 3))),(10,(.const (.int .i64 3))),(11,(.const (.int .i64 3))),(12,(.const (.int .i64 3))),(13,(.const (.int .i64 3))),(14,(.const (.int .i64 3))),(15,(.const (.int .i64 3))),(16,(.const (.int .i64 3))),(17,(.const (.int .i64 3))),(18,(.const (.int .i64 3))),(19,(.const (.int .i64 5))),(20,(.const (.int .i64 3))),(21,(.const (.int .i64 3))),(22,(.const (.int .i64 16))),(23,(.const (.int .i64 17))),(24,(.const (.int .i64 1))),(25,(.const (.int .i64 4))),(26,(.const (.int .i64 7))),(27,(.const (.int .i64 7)))]),
 mo 4 (.alloc 153),
 mx (.store 153 (T 4) (T 5))])
 (.seq (.seq (rg [mo 6 (.move (T 0)),
 mo 7 (.binOp .lss 3 (T 6) (.const (.int .i64 0)) 3),
 mo 8 (.move (T 7)),
 mg 9 2 false (.move (T 0)),
 mg 10 2 false (.binOp .geq 3 (T 9) (.const (.int .i64 28)) 3),
 mo 11 (.pick (T 8) (.const (.bool true)) (T 10))])
 (.cond (T 11) (.seq (rg [mo 2 (.assign (.const (.int .i64 0))),
 mo 3 (.assign (.const (.bool false)))])
 (.ret))
 (.skip)))
 (.seq (rg [mo 12 (.move (T 0)),
 mo 13 (.indexAddr 153 (T 4) (T 12)),
 mo 14 (.load 3 (T 13)),
 mo 2 (.assign (T 14)),
 mo 3 (.assign (.const (.bool true)))])
 (.ret))))
theorem body_94:Try.f94.body.map strip=some c94:=by kernel_rfl
theorem go_94:GoC Try.prog 94 15 c94 [(.tmp 2),(.tmp 3)]:=
 GoC.of (fn:=Try.f94) (by kernel_rfl) body_94 (by kernel_rfl) (by kernel_rfl) (by kernel_rfl)
def c95:Code:=
 .seq (rg [mo 1 (.box 83 (T 0)),
 mo 2 (.assign (.const (.bool false)))])
 (.seq (rg [mo 3 (.fieldAddr 83 (T 1) 2),
 mo 4 (.load 3 (T 3)),
 mo 5 (.binOp .geq 3 (T 4) (.const (.int .i64 0)) 3),
 mo 6 (.move (T 5)),
 mg 7 3 true (.fieldAddr 83 (T 1) 2),
 mg 8 3 true (.load 3 (T 7)),
 mg 9 3 true (.binOp .lss 3 (T 8) (.const (.int .i64 8)) 3),
 mo 10 (.pick (T 6) (T 9) (.const (.bool false))),
 mo 11 (.move (T 10)),
 mg 12 8 true (.fieldAddr 83 (T 1) 3),
 mg 13 8 true (.load 3 (T 12)),
 mg 14 8 true (.binOp .geq 3 (T 13) (.const (.int .i64 0)) 3),
 mo 15 (.pick (T 11) (T 14) (.const (.bool false))),
 mo 16 (.move (T 15)),
 mg 17 13 true (.fieldAddr 83 (T 1) 3),
 mg 18 13 true (.load 3 (T 17)),
 mg 19 13 true (.binOp .lss 3 (T 18) (.const (.int .i64 8)) 3),
 mo 20 (.pick (T 16) (T 19) (.const (.bool false))),
 mo 21 (.move (T 20)),
 mg 22 18 true (.fieldAddr 83 (T 1) 1),
 mg 23 18 true (.load 3 (T 22)),
 mg 24 18 true (.binOp .neq 3 (T 23) (.const (.int .i64 19)) 3),
 mg 25 18 true (.move (T 24)),
 mg 26 22 false (.fieldAddr 83 (T 1) 4),
 mg 27 22 false (.load 2 (T 26)),
 mg 28 22 false (.binOp .eql 2 (T 27) (.const (.int .i64 8)) 2),
 mg 29 18 true (.pick (T 25) (.const (.bool true)) (T 28)),
 mg 30 18 true (.move (T 29)),
 mg 31 27 false (.fieldAddr 83 (T 1) 4),
 mg 32 27 false (.load 2 (T 31)),
 mg 33 27 false (.binOp .eql 2 (T 32) (.const (.int .i64 16)) 2),
 mg 34 18 true (.pick (T 30) (.const (.bool true)) (T 33)),
 mg 35 18 true (.move (T 34)),
 mg 36 32 false (.fieldAddr 83 (T 1) 4),
 mg 37 32 false (.load 2 (T 36)),
 mg 38 32 false (.binOp .eql 2 (T 37) (.const (.int .i64 32)) 2),
 mg 39 18 true (.pick (T 35) (.const (.bool true)) (T 38)),
 mo 40 (.pick (T 21) (T 39) (.const (.bool false))),
 mo 2 (.assign (T 40))])
 (.ret))
theorem body_95:Try.f95.body.map strip=some c95:=by kernel_rfl
theorem go_95:GoC Try.prog 95 41 c95 [(.tmp 2)]:=
 GoC.of (fn:=Try.f95) (by kernel_rfl) body_95 (by kernel_rfl) (by kernel_rfl) (by kernel_rfl)
def fa96_0:Code:=
 .region 2 #[⟨(some 5),(.alloc 44),0,"iter.go:51",#[],none⟩,
  ⟨none,(.store 44 (T 5) (T 7)),0,"iter.go:51",#[⟨0,.data⟩,⟨0,.phase⟩],none⟩] false
def fb96_0:Code:=
 .block 1 (.region 3 #[⟨(some 8),(.load 24 (T 2)),24,"iter.go:52",#[],none⟩,
  ⟨(some 9),(.load 44 (T 5)),44,"iter.go:52",#[],none⟩,
  ⟨(some 10),(.buildSlice 24 1 #[(0,(T 9))]),24,"iter.go:52",#[⟨1,.data⟩],none⟩,
  ⟨(some 11),(.call ⟨(.builtin .append),#[(T 8),(T 10)],#[24,24]⟩),24,"iter.go:52",#[⟨0,.data⟩,⟨2,.data⟩],none⟩,
  ⟨none,(.store 24 (T 2) (T 11)),0,"iter.go:52",#[⟨3,.data⟩,⟨3,.chain⟩,⟨0,.phase⟩,⟨1,.phase⟩,⟨2,.phase⟩,⟨3,.phase⟩],none⟩] false)
def sa96_0:Code:=
 rg [mo 5 (.alloc 44),
  mx (.store 44 (T 5) (T 7))]
def sb96_0:Code:=
 .block 1 (rg [mo 8 (.load 24 (T 2)),
  mo 9 (.load 44 (T 5)),
  mo 10 (.buildSlice 24 1 #[(0,(T 9))]),
  mo 11 (.call ⟨(.builtin .append),#[(T 8),(T 10)],#[24,24]⟩),
  mx (.store 24 (T 2) (T 11))])
theorem ta96_0:Go.D.strip fa96_0=sa96_0:=by kernel_rfl
theorem tb96_0:Go.D.strip fb96_0=sb96_0:=by kernel_rfl
noncomputable def c96:Code:=
 .seq (rg [mo 2 (.box 24 (T 0)),
 mo 4 (.assign (.const (.slice none 0 0)))])
 (.seq (.seq (rg [mo 6 (.move (T 1))])
 (.block 0 (.rangeFunc (T 6) #[7] fa96_0 fb96_0)))
 (.seq (rg [mo 12 (.load 24 (T 2)),
 mo 4 (.assign (T 12))])
 (.ret)))
theorem body_96:Try.f96.body.map strip=some c96:=by kernel_rfl
theorem go_96:GoC Try.prog 96 13 c96 [(.tmp 4)]:=
 GoC.of (fn:=Try.f96) (by kernel_rfl) body_96 (by kernel_rfl) (by kernel_rfl) (by kernel_rfl)
def c97:Code:=
 .seq (rg [mo 2 (.assign (.const (.bool false)))])
 (.seq (rg [mo 3 (.move (T 0)),
 mo 4 (.move (T 0)),
 mo 5 (.binOp .neq 21 (T 3) (T 4) 21),
 mo 2 (.assign (T 5))])
 (.ret))
theorem body_97:Try.f97.body.map strip=some c97:=by kernel_rfl
theorem go_97:GoC Try.prog 97 6 c97 [(.tmp 2)]:=
 GoC.of (fn:=Try.f97) (by kernel_rfl) body_97 (by kernel_rfl) (by kernel_rfl) (by kernel_rfl)
def c98:Code:=
 .seq (rg [mo 2 (.assign (.const (.bool false)))])
 (.seq (rg [mo 3 (.move (T 0)),
 mo 4 (.move (T 0)),
 mo 5 (.binOp .neq 2 (T 3) (T 4) 2),
 mo 2 (.assign (T 5))])
 (.ret))
theorem body_98:Try.f98.body.map strip=some c98:=by kernel_rfl
theorem go_98:GoC Try.prog 98 6 c98 [(.tmp 2)]:=
 GoC.of (fn:=Try.f98) (by kernel_rfl) body_98 (by kernel_rfl) (by kernel_rfl) (by kernel_rfl)
noncomputable def o99_0:Array Oper:=drawn Try.f99 0
noncomputable def r99_0:Code:=.region 4 o99_0 true
noncomputable def o99_1:Array Oper:=drawn Try.f99 1
noncomputable def r99_1:Code:=.region 6 o99_1 true
noncomputable def c99:Code:=
 .seq (rg [mo 10 (.move (T 1)),
 mo 11 (.binOp .add 3 (T 10) (.const (.int .i64 1)) 3),
 mo 8 (.assign (T 11))])
 (.block 0 (.loop (.seq (.seq (rg [mo 12 (.move (T 8)),
 mo 13 (.move (T 2)),
 mo 14 (.binOp .lss 3 (T 12) (T 13) 3)])
 (.cond (T 14) (.skip)
 (.exit 0)))
 (.seq (.block 1 (.seq (rg [mo 17 (.move (T 8)),
 mo 9 (.assign (T 17))])
 (.block 2 (.loop (.seq (.seq (r99_0)
 (.cond (T 34) (.skip)
 (.exit 2)))
 (.seq (.block 3 (r99_1))
 (rg [mo 35 (.move (T 9)),
 mo 36 (.binOp .sub 3 (T 35) (.const (.int .i64 1)) 3),
 mo 9 (.assign (T 36))])))))))
 (rg [mo 15 (.move (T 8)),
 mo 16 (.binOp .add 3 (T 15) (.const (.int .i64 1)) 3),
 mo 8 (.assign (T 16))])))))
theorem body_99:Try.f99.body.map strip=some c99:=by kernel_rfl
theorem go_99:GoC Try.prog 99 53 c99 []:=
 GoC.of (fn:=Try.f99) (by kernel_rfl) body_99 (by kernel_rfl) (by kernel_rfl) (by kernel_rfl)
end Go.Proofs.Ythjmkmoiopmfcaa

namespace Go.Proofs.Ythjmkmoiopmfcaa
open Go.D
set_option maxRecDepth 100000
noncomputable def o35_0:Array Oper:=drawn Try.f35 0
def g35_0:List (Nat × Tmp × TypeId):=[]
def q35_0:List YO:=[.s 0 (mo 17 (.move (T 0))),
 .s 1 (mo 18 (.move (T 5))),
 .s 2 (mo 19 (.indexAddr 27 (T 17) (T 18))),
 .s 3 (mo 20 (.load 46 (T 19))),
 .s 4 (mo 21 (.move (T 1))),
 .s 5 (mo 22 (.move (T 5))),
 .s 6 (mo 23 (.indexAddr 27 (T 21) (T 22))),
 .s 7 (mo 24 (.load 46 (T 23))),
 .s 8 (mo 25 (.binOp .neq 46 (T 20) (T 24) 46))]
def l35_0:List Oper:=[mo 17 (.move (T 0)),
 mo 18 (.move (T 5)),
 mo 19 (.indexAddr 27 (T 17) (T 18)),
 mo 20 (.load 46 (T 19)),
 mo 21 (.move (T 1)),
 mo 22 (.move (T 5)),
 mo 23 (.indexAddr 27 (T 21) (T 22)),
 mo 24 (.load 46 (T 23)),
 mo 25 (.binOp .neq 46 (T 20) (T 24) 46)]
noncomputable def r35_0:Code:=.region 6 o35_0 true
theorem xr_35_0 {Q:DExit→St→Prop} {s:St}:xs Try.prog 26 r35_0 Q s=NC Try.prog 26 r35_0 Q s:=rfl
theorem yr_35_0 {Q:DExit→St→Prop} {s:St} (hdf:s.df=[]) (h:YG Try.prog (YD Try.prog l35_0.toArray Q q35_0) g35_0 s []):NC Try.prog 26 r35_0 Q s:=
 NC.yd (l:=l35_0) (b:=[0,0,3,7,0,0,48,112,255]) (by kernel_rfl) (by kernel_rfl) (by kernel_rfl) (by kernel_rfl) (by kernel_rfl) (by kernel_rfl) (by kernel_rfl) (by kernel_rfl) hdf h
attribute [go_sem] xr_35_0
noncomputable def c35:Code:=
 .seq (rg [mo 4 (.assign (.const (.bool false)))])
 (.seq (.seq (rg [mo 6 (.move (T 0)),
 mo 7 (.call ⟨(.builtin .len),#[(T 6)],#[27]⟩),
 mo 8 (.move (T 1)),
 mo 9 (.call ⟨(.builtin .len),#[(T 8)],#[27]⟩),
 mo 10 (.binOp .neq 3 (T 7) (T 9) 3)])
 (.cond (T 10) (.seq (rg [mo 4 (.assign (.const (.bool false)))])
 (.ret))
 (.skip)))
 (.seq (.seq (rg [mo 5 (.assign (.const (.int .i64 0)))])
 (.block 0 (.loop (.seq (.seq (rg [mo 11 (.move (T 5)),
 mo 12 (.move (T 0)),
 mo 13 (.call ⟨(.builtin .len),#[(T 12)],#[27]⟩),
 mo 14 (.binOp .lss 3 (T 11) (T 13) 3)])
 (.cond (T 14) (.skip)
 (.exit 0)))
 (.seq (.block 1 (.seq (r35_0)
 (.cond (T 25) (.seq (rg [mo 4 (.assign (.const (.bool false)))])
 (.ret))
 (.skip))))
 (rg [mo 15 (.move (T 5)),
 mo 16 (.binOp .add 3 (T 15) (.const (.int .i64 1)) 3),
 mo 5 (.assign (T 16))]))))))
 (.seq (rg [mo 4 (.assign (.const (.bool true)))])
 (.ret))))
theorem body_35:Try.f35.body.map strip=some c35:=by kernel_rfl
theorem go_35:GoC Try.prog 35 26 c35 [(.tmp 4)]:=
 GoC.of (fn:=Try.f35) (by kernel_rfl) body_35 (by kernel_rfl) (by kernel_rfl) (by kernel_rfl)
def c36:Code:=
 .seq (rg [mo 0 (.alloc 26)])
 (.seq (rg [mo 2 (.build 44 #[(0,(.const (.int .i32 1))),(1,(.const (.int .i64 2)))]),
 mo 3 (.buildSlice 24 1 #[(0,(T 2))]),
 mo 1 (.assign (T 3))])
 (.seq (rg [mo 4 (.buildSlice 22 12 #[(0,(.const (.int .u8 1))),(1,(.const (.int .u8 0))),(2,(.const (.int .u8 7))),(3,(.const (.int .u8 0))),(4,(.const (.int .u8 5))),(5,(.const (.int .u8 0))),(6,(.const (.int .u8 0))),(7,(.const (.int .u8 3))),(8,(.const (.int .u8 1))),(9,(.const (.int .u8 0))),(10,(.const (.int .u8 24))),(11,(.const (.int .u8 1)))]),
 mo 5 (.move (T 1)),
 mo 6 (.move (T 1)),
 mo 7 (.build 26 #[(0,(.const (.int .i64 1))),(1,(.const (.int .i64 1))),(2,(T 4)),(4,(T 5)),(5,(T 6))]),
 mx (.store 26 (T 0) (T 7))])
 (.ret)))
theorem body_36:Try.f36.body.map strip=some c36:=by kernel_rfl
theorem go_36:GoC Try.prog 36 8 c36 [(.cell 0 26)]:=
 GoC.of (fn:=Try.f36) (by kernel_rfl) body_36 (by kernel_rfl) (by kernel_rfl) (by kernel_rfl)
noncomputable def o37_0:Array Oper:=drawn Try.f37 0
def l37_0:List Oper:=[mo 16 (.move (T 0)),
 mo 17 (.move (T 5)),
 mo 18 (.indexAddr 23 (T 16) (T 17)),
 mo 19 (.load 2 (T 18)),
 mo 20 (.move (T 1)),
 mo 21 (.move (T 5)),
 mo 22 (.indexAddr 23 (T 20) (T 21)),
 mo 23 (.load 2 (T 22)),
 mo 24 (.binOp .neq 2 (T 19) (T 23) 2)]
noncomputable def r37_0:Code:=.region 6 o37_0 true
theorem xr_37_0 {Q:DExit→St→Prop} {s:St}:xs Try.prog 26 r37_0 Q s=NC Try.prog 26 r37_0 Q s:=rfl
theorem dr_37_0 {Q:DExit→St→Prop} {s:St} (h:XDraw Try.prog l37_0.toArray (befs o37_0.toList []) [] s.fr Q l37_0 0 s []):NC Try.prog 26 r37_0 Q s:=
 NC.draw (by kernel_rfl) (by kernel_rfl) (by kernel_rfl) rfl (by kernel_rfl) (by kernel_rfl) h
attribute [go_sem] xr_37_0
noncomputable def c37:Code:=
 .seq (rg [mo 4 (.assign (.const (.bool false)))])
 (.seq (.seq (rg [mo 6 (.move (T 0)),
 mo 7 (.call ⟨(.builtin .len),#[(T 6)],#[23]⟩),
 mo 8 (.move (T 1)),
 mo 9 (.call ⟨(.builtin .len),#[(T 8)],#[23]⟩),
 mo 10 (.binOp .neq 3 (T 7) (T 9) 3)])
 (.cond (T 10) (.seq (rg [mo 4 (.assign (.const (.bool false)))])
 (.ret))
 (.skip)))
 (.seq (.seq (rg [mo 11 (.move (T 0)),
 mo 12 (.call ⟨(.builtin .len),#[(T 11)],#[23]⟩),
 mo 13 (.move (.const (.int .i64 0)))])
 (.block 0 (.loop (.seq (rg [mo 14 (.binOp .lss 3 (T 13) (T 12) 3)])
 (.seq (.cond (T 14) (.skip)
 (.exit 0))
 (.seq (.block 1 (.seq (rg [mo 15 (.move (T 13)),
 mo 5 (.assign (T 15))])
 (.seq (r37_0)
 (.cond (T 24) (.seq (rg [mo 4 (.assign (.const (.bool false)))])
 (.ret))
 (.skip)))))
 (rg [mo 25 (.binOp .add 3 (T 13) (.const (.int .i64 1)) 3),
 mo 13 (.move (T 25))])))))))
 (.seq (rg [mo 4 (.assign (.const (.bool true)))])
 (.ret))))
theorem body_37:Try.f37.body.map strip=some c37:=by kernel_rfl
theorem go_37:GoC Try.prog 37 26 c37 [(.tmp 4)]:=
 GoC.of (fn:=Try.f37) (by kernel_rfl) body_37 (by kernel_rfl) (by kernel_rfl) (by kernel_rfl)
noncomputable def o38_0:Array Oper:=drawn Try.f38 0
def g38_0:List (Nat × Tmp × TypeId):=[]
def q38_0:List YO:=[.s 0 (mo 17 (.move (T 0))),
 .s 1 (mo 18 (.move (T 5))),
 .s 2 (mo 19 (.indexAddr 23 (T 17) (T 18))),
 .s 3 (mo 20 (.load 2 (T 19))),
 .s 4 (mo 21 (.move (T 1))),
 .s 5 (mo 22 (.move (T 5))),
 .s 6 (mo 23 (.indexAddr 23 (T 21) (T 22))),
 .s 7 (mo 24 (.load 2 (T 23))),
 .s 8 (mo 25 (.binOp .neq 2 (T 20) (T 24) 2))]
def l38_0:List Oper:=[mo 17 (.move (T 0)),
 mo 18 (.move (T 5)),
 mo 19 (.indexAddr 23 (T 17) (T 18)),
 mo 20 (.load 2 (T 19)),
 mo 21 (.move (T 1)),
 mo 22 (.move (T 5)),
 mo 23 (.indexAddr 23 (T 21) (T 22)),
 mo 24 (.load 2 (T 23)),
 mo 25 (.binOp .neq 2 (T 20) (T 24) 2)]
noncomputable def r38_0:Code:=.region 6 o38_0 true
theorem xr_38_0 {Q:DExit→St→Prop} {s:St}:xs Try.prog 26 r38_0 Q s=NC Try.prog 26 r38_0 Q s:=rfl
theorem yr_38_0 {Q:DExit→St→Prop} {s:St} (hdf:s.df=[]) (h:YG Try.prog (YD Try.prog l38_0.toArray Q q38_0) g38_0 s []):NC Try.prog 26 r38_0 Q s:=
 NC.yd (l:=l38_0) (b:=[0,0,3,7,0,0,48,112,255]) (by kernel_rfl) (by kernel_rfl) (by kernel_rfl) (by kernel_rfl) (by kernel_rfl) (by kernel_rfl) (by kernel_rfl) (by kernel_rfl) hdf h
attribute [go_sem] xr_38_0
noncomputable def c38:Code:=
 .seq (rg [mo 4 (.assign (.const (.bool false)))])
 (.seq (.seq (rg [mo 6 (.move (T 0)),
 mo 7 (.call ⟨(.builtin .len),#[(T 6)],#[23]⟩),
 mo 8 (.move (T 1)),
 mo 9 (.call ⟨(.builtin .len),#[(T 8)],#[23]⟩),
 mo 10 (.binOp .neq 3 (T 7) (T 9) 3)])
 (.cond (T 10) (.seq (rg [mo 4 (.assign (.const (.bool false)))])
 (.ret))
 (.skip)))
 (.seq (.seq (rg [mo 5 (.assign (.const (.int .i64 0)))])
 (.block 0 (.loop (.seq (.seq (rg [mo 11 (.move (T 5)),
 mo 12 (.move (T 0)),
 mo 13 (.call ⟨(.builtin .len),#[(T 12)],#[23]⟩),
 mo 14 (.binOp .lss 3 (T 11) (T 13) 3)])
 (.cond (T 14) (.skip)
 (.exit 0)))
 (.seq (.block 1 (.seq (r38_0)
 (.cond (T 25) (.seq (rg [mo 4 (.assign (.const (.bool false)))])
 (.ret))
 (.skip))))
 (rg [mo 15 (.move (T 5)),
 mo 16 (.binOp .add 3 (T 15) (.const (.int .i64 1)) 3),
 mo 5 (.assign (T 16))]))))))
 (.seq (rg [mo 4 (.assign (.const (.bool true)))])
 (.ret))))
theorem body_38:Try.f38.body.map strip=some c38:=by kernel_rfl
theorem go_38:GoC Try.prog 38 26 c38 [(.tmp 4)]:=
 GoC.of (fn:=Try.f38) (by kernel_rfl) body_38 (by kernel_rfl) (by kernel_rfl) (by kernel_rfl)
def c39:Code:=
 .seq (rg [mo 2 (.alloc 74),
 mo 3 (.alloc 53)])
 (.seq (.seq (rg [mo 9 (.move (T 0)),
 mo 10 (.call ⟨(.builtin .len),#[(T 9)],#[22]⟩),
 mo 11 (.binOp .gtr 3 (T 10) (.const (.int .i64 512)) 3)])
 (.cond (T 11) (.seq (rg [mx (.store 74 (T 2) (.const (.slice none 0 0))),
 mx (.store 53 (T 3) (.const (.int .i64 3)))])
 (.ret))
 (.skip)))
 (.seq (rg [mo 12 (.makeFunc (.func 58) #[] #[(T 2),(T 3)]),
 mx (.defer ⟨(.value (T 12)),#[],#[]⟩)])
 (.seq (rg [mo 13 (.move (T 0)),
 mo 14 (.call ⟨(.value (.func 60)),#[(T 13)],#[22]⟩),
 mx (.store 74 (T 2) (T 14))])
 (.seq (rg [mo 15 (.makeMap 107 none),
 mo 4 (.assign (T 15))])
 (.seq (.seq (rg [mo 16 (.load 74 (T 2)),
 mo 17 (.call ⟨(.builtin .len),#[(T 16)],#[74]⟩),
 mo 18 (.move (.const (.int .i64 0)))])
 (.block 0 (.loop (.seq (rg [mo 19 (.binOp .lss 3 (T 18) (T 17) 3)])
 (.seq (.cond (T 19) (.skip)
 (.exit 0))
 (.seq (.block 1 (.seq (rg [mo 20 (.indexAddr 74 (T 16) (T 18)),
 mo 21 (.load 83 (T 20)),
 mo 6 (.alloc 83),
 mx (.store 83 (T 6) (T 21))])
 (rg [mo 22 (.move (T 4)),
 mo 23 (.fieldAddr 83 (T 6) 0),
 mo 24 (.load 3 (T 23)),
 mx (.mapUpdate 107 (T 22) (T 24) (.const (.bool true)))])))
 (rg [mo 25 (.binOp .add 3 (T 18) (.const (.int .i64 1)) 3),
 mo 18 (.move (T 25))])))))))
 (.seq (.seq (rg [mo 26 (.load 74 (T 2)),
 mo 27 (.call ⟨(.builtin .len),#[(T 26)],#[74]⟩),
 mo 28 (.move (.const (.int .i64 0)))])
 (.block 2 (.loop (.seq (rg [mo 29 (.binOp .lss 3 (T 28) (T 27) 3)])
 (.seq (.cond (T 29) (.skip)
 (.exit 2))
 (.seq (.block 3 (.seq (rg [mo 30 (.indexAddr 74 (T 26) (T 28)),
 mo 31 (.load 83 (T 30)),
 mo 8 (.alloc 83),
 mx (.store 83 (T 8) (T 31))])
 (.seq (rg [mo 32 (.load 83 (T 8)),
 mo 33 (.call ⟨(.value (.func 61)),#[(T 32)],#[83]⟩),
 mo 34 (.move (T 33)),
 mg 35 2 true (.move (T 4)),
 mg 36 2 true (.fieldAddr 83 (T 8) 4),
 mg 37 2 true (.load 2 (T 36)),
 mg 38 2 true (.lookup 107 (T 35) (T 37) false),
 mg 39 2 true (.unOp .not 4 (T 38)),
 mo 40 (.pick (T 34) (T 39) (.const (.bool false)))])
 (.cond (T 40) (rg [mo 41 (.call ⟨(.value (.func 62)),#[(.const (.int .i64 131))],#[53]⟩)])
 (.skip)))))
 (rg [mo 42 (.binOp .add 3 (T 28) (.const (.int .i64 1)) 3),
 mo 28 (.move (T 42))])))))))
 (.seq (rg [mo 43 (.load 74 (T 2)),
 mx (.store 74 (T 2) (T 43)),
 mx (.store 53 (T 3) (.const (.int .i64 0)))])
 (.ret))))))))
theorem body_39:Try.f39.body.map strip=some c39:=by kernel_rfl
theorem go_39:GoC Try.prog 39 44 c39 [(.cell 2 74),(.cell 3 53)]:=
 GoC.of (fn:=Try.f39) (by kernel_rfl) body_39 (by kernel_rfl) (by kernel_rfl) (by kernel_rfl)
noncomputable def o40_0:Array Oper:=drawn Try.f40 0
def g40_0:List (Nat × Tmp × TypeId):=[]
def q40_0:List YO:=[.s 0 (mo 15 (.move (T 0))),
 .s 1 (mo 16 (.fieldAddr 83 (T 3) 2)),
 .s 2 (mo 17 (.load 3 (T 16))),
 .s 3 (mo 18 (.nilCheck (T 15))),
 .s 4 (mo 19 (.fieldAddr 81 (T 18) 1)),
 .s 5 (mo 20 (.indexAddr 79 (T 19) (T 17))),
 .s 6 (mo 21 (.move (T 0))),
 .s 7 (mo 22 (.fieldAddr 83 (T 3) 3)),
 .s 8 (mo 23 (.load 3 (T 22))),
 .s 9 (mo 24 (.nilCheck (T 21))),
 .s 10 (mo 25 (.fieldAddr 81 (T 24) 1)),
 .s 11 (mo 26 (.indexAddr 79 (T 25) (T 23))),
 .s 12 (mo 27 (.load 2 (T 26))),
 .s 13 (mo 5 (.assign (T 20))),
 .s 14 (mo 6 (.assign (T 27)))]
def l40_0:List Oper:=[mo 15 (.move (T 0)),
 mo 16 (.fieldAddr 83 (T 3) 2),
 mo 17 (.load 3 (T 16)),
 mo 18 (.nilCheck (T 15)),
 mo 19 (.fieldAddr 81 (T 18) 1),
 mo 20 (.indexAddr 79 (T 19) (T 17)),
 mo 21 (.move (T 0)),
 mo 22 (.fieldAddr 83 (T 3) 3),
 mo 23 (.load 3 (T 22)),
 mo 24 (.nilCheck (T 21)),
 mo 25 (.fieldAddr 81 (T 24) 1),
 mo 26 (.indexAddr 79 (T 25) (T 23)),
 mo 27 (.load 2 (T 26)),
 mo 5 (.assign (T 20)),
 mo 6 (.assign (T 27))]
noncomputable def r40_0:Code:=.region 1 o40_0 true
theorem xr_40_0 {Q:DExit→St→Prop} {s:St}:xs Try.prog 248 r40_0 Q s=NC Try.prog 248 r40_0 Q s:=rfl
theorem yr_40_0 {Q:DExit→St→Prop} {s:St} (hdf:s.df=[]) (h:YG Try.prog (YD Try.prog l40_0.toArray Q q40_0) g40_0 s []):NC Try.prog 248 r40_0 Q s:=
 NC.yd (l:=l40_0) (b:=[0,0,2,1,9,31,0,0,128,64,576,1984,4032,63,16383]) (by kernel_rfl) (by kernel_rfl) (by kernel_rfl) (by kernel_rfl) (by kernel_rfl) (by kernel_rfl) (by kernel_rfl) (by kernel_rfl) hdf h
attribute [go_sem] xr_40_0
noncomputable def o40_1:Array Oper:=drawn Try.f40 1
def g40_1:List (Nat × Tmp × TypeId):=[]
def q40_1:List YO:=[.s 0 (mo 56 (.move (T 5))),
 .s 1 (mo 57 (.move (T 0))),
 .s 2 (mo 58 (.nilCheck (T 57))),
 .s 3 (mo 59 (.fieldAddr 81 (T 58) 0)),
 .s 4 (mo 60 (.fieldAddr 26 (T 59) 3)),
 .s 5 (mo 61 (.load 23 (T 60))),
 .s 6 (mo 62 (.fieldAddr 83 (T 3) 4)),
 .s 7 (mo 63 (.load 2 (T 62))),
 .s 8 (mo 64 (.indexAddr 23 (T 61) (T 63))),
 .s 9 (mo 65 (.load 2 (T 64))),
 .s 10 (mo 66 (.nilCheck (T 56))),
 .b 11 (mx (.store 2 (T 66) (T 65))) []]
def l40_1:List Oper:=[mo 56 (.move (T 5)),
 mo 57 (.move (T 0)),
 mo 58 (.nilCheck (T 57)),
 mo 59 (.fieldAddr 81 (T 58) 0),
 mo 60 (.fieldAddr 26 (T 59) 3),
 mo 61 (.load 23 (T 60)),
 mo 62 (.fieldAddr 83 (T 3) 4),
 mo 63 (.load 2 (T 62)),
 mo 64 (.indexAddr 23 (T 61) (T 63)),
 mo 65 (.load 2 (T 64)),
 mo 66 (.nilCheck (T 56)),
 mx (.store 2 (T 66) (T 65))]
noncomputable def r40_1:Code:=.region 12 o40_1 true
theorem xr_40_1 {Q:DExit→St→Prop} {s:St}:xs Try.prog 248 r40_1 Q s=NC Try.prog 248 r40_1 Q s:=rfl
theorem yr_40_1 {Q:DExit→St→Prop} {s:St} (hdf:s.df=[]) (h:YG Try.prog (YD Try.prog l40_1.toArray Q q40_1) g40_1 s []):NC Try.prog 248 r40_1 Q s:=
 NC.yd (l:=l40_1) (b:=[0,0,2,6,14,30,0,64,254,510,1023,2047]) (by kernel_rfl) (by kernel_rfl) (by kernel_rfl) (by kernel_rfl) (by kernel_rfl) (by kernel_rfl) (by kernel_rfl) (by kernel_rfl) hdf h
attribute [go_sem] xr_40_1
noncomputable def o40_2:Array Oper:=drawn Try.f40 2
def g40_2:List (Nat × Tmp × TypeId):=[]
def q40_2:List YO:=[.s 0 (mo 75 (.move (T 5))),
 .s 1 (mo 76 (.move (T 0))),
 .s 2 (mo 77 (.move (T 0))),
 .s 3 (mo 78 (.nilCheck (T 77))),
 .s 4 (mo 79 (.fieldAddr 81 (T 78) 0)),
 .s 5 (mo 80 (.fieldAddr 26 (T 79) 4)),
 .s 6 (mo 81 (.load 24 (T 80))),
 .s 7 (mo 82 (.fieldAddr 83 (T 3) 4)),
 .s 8 (mo 83 (.load 2 (T 82))),
 .s 9 (mo 84 (.indexAddr 24 (T 81) (T 83))),
 .s 10 (mo 85 (.load 44 (T 84))),
 .b 11 (mo 86 (.call ⟨(.value (.func 63)),#[(T 76),(T 85)],#[77,44]⟩)) [],
 .s 12 (mo 74 (.move (T 86))),
 .s 13 (mo 87 (.extract (T 74) 0)),
 .s 14 (mo 88 (.extract (T 74) 1)),
 .s 15 (mo 89 (.nilCheck (T 75))),
 .b 16 (mx (.store 2 (T 89) (T 87))) []]
def l40_2:List Oper:=[mo 75 (.move (T 5)),
 mo 76 (.move (T 0)),
 mo 77 (.move (T 0)),
 mo 78 (.nilCheck (T 77)),
 mo 79 (.fieldAddr 81 (T 78) 0),
 mo 80 (.fieldAddr 26 (T 79) 4),
 mo 81 (.load 24 (T 80)),
 mo 82 (.fieldAddr 83 (T 3) 4),
 mo 83 (.load 2 (T 82)),
 mo 84 (.indexAddr 24 (T 81) (T 83)),
 mo 85 (.load 44 (T 84)),
 mo 86 (.call ⟨(.value (.func 63)),#[(T 76),(T 85)],#[77,44]⟩),
 mo 74 (.move (T 86)),
 mo 87 (.extract (T 74) 0),
 mo 88 (.extract (T 74) 1),
 mo 89 (.nilCheck (T 75)),
 mx (.store 2 (T 89) (T 87))]
noncomputable def r40_2:Code:=.region 16 o40_2 true
theorem xr_40_2 {Q:DExit→St→Prop} {s:St}:xs Try.prog 248 r40_2 Q s=NC Try.prog 248 r40_2 Q s:=rfl
theorem yr_40_2 {Q:DExit→St→Prop} {s:St} (hdf:s.df=[]) (h:YG Try.prog (YD Try.prog l40_2.toArray Q q40_2) g40_2 s []):NC Try.prog 248 r40_2 Q s:=
 NC.yd (l:=l40_2) (b:=[0,0,0,4,12,28,60,0,128,508,1020,2046,4094,8190,8190,16383,49151]) (by kernel_rfl) (by kernel_rfl) (by kernel_rfl) (by kernel_rfl) (by kernel_rfl) (by kernel_rfl) (by kernel_rfl) (by kernel_rfl) hdf h
attribute [go_sem] xr_40_2
noncomputable def o40_3:Array Oper:=drawn Try.f40 3
def g40_3:List (Nat × Tmp × TypeId):=[]
def q40_3:List YO:=[.s 0 (mo 93 (.move (T 0))),
 .s 1 (mo 94 (.move (T 0))),
 .s 2 (mo 95 (.nilCheck (T 94))),
 .s 3 (mo 96 (.fieldAddr 81 (T 95) 0)),
 .s 4 (mo 97 (.fieldAddr 26 (T 96) 4)),
 .s 5 (mo 98 (.load 24 (T 97))),
 .s 6 (mo 99 (.fieldAddr 83 (T 3) 4)),
 .s 7 (mo 100 (.load 2 (T 99))),
 .s 8 (mo 101 (.indexAddr 24 (T 98) (T 100))),
 .s 9 (mo 102 (.load 44 (T 101))),
 .b 10 (mo 103 (.call ⟨(.value (.func 63)),#[(T 93),(T 102)],#[77,44]⟩)) [],
 .s 11 (mo 92 (.move (T 103))),
 .s 12 (mo 104 (.extract (T 92) 0)),
 .s 13 (mo 105 (.extract (T 92) 1)),
 .s 14 (mo 7 (.assign (T 104))),
 .s 15 (mo 8 (.assign (T 105)))]
def l40_3:List Oper:=[mo 93 (.move (T 0)),
 mo 94 (.move (T 0)),
 mo 95 (.nilCheck (T 94)),
 mo 96 (.fieldAddr 81 (T 95) 0),
 mo 97 (.fieldAddr 26 (T 96) 4),
 mo 98 (.load 24 (T 97)),
 mo 99 (.fieldAddr 83 (T 3) 4),
 mo 100 (.load 2 (T 99)),
 mo 101 (.indexAddr 24 (T 98) (T 100)),
 mo 102 (.load 44 (T 101)),
 mo 103 (.call ⟨(.value (.func 63)),#[(T 93),(T 102)],#[77,44]⟩),
 mo 92 (.move (T 103)),
 mo 104 (.extract (T 92) 0),
 mo 105 (.extract (T 92) 1),
 mo 7 (.assign (T 104)),
 mo 8 (.assign (T 105))]
noncomputable def r40_3:Code:=.region 18 o40_3 true
theorem xr_40_3 {Q:DExit→St→Prop} {s:St}:xs Try.prog 248 r40_3 Q s=NC Try.prog 248 r40_3 Q s:=rfl
theorem yr_40_3 {Q:DExit→St→Prop} {s:St} (hdf:s.df=[]) (h:YG Try.prog (YD Try.prog l40_3.toArray Q q40_3) g40_3 s []):NC Try.prog 248 r40_3 Q s:=
 NC.yd (l:=l40_3) (b:=[0,0,2,6,14,30,0,64,254,510,1023,2047,4095,4095,8191,32767]) (by kernel_rfl) (by kernel_rfl) (by kernel_rfl) (by kernel_rfl) (by kernel_rfl) (by kernel_rfl) (by kernel_rfl) (by kernel_rfl) hdf h
attribute [go_sem] xr_40_3
noncomputable def o40_4:Array Oper:=drawn Try.f40 4
def g40_4:List (Nat × Tmp × TypeId):=[(9,9,44)]
def q40_4:List YO:=[.s 0 (mo 112 (.move (T 0))),
 .s 1 (mo 113 (.nilCheck (T 112))),
 .s 2 (mo 114 (.fieldAddr 81 (T 113) 0)),
 .s 3 (mo 115 (.fieldAddr 26 (T 114) 5)),
 .s 4 (mo 116 (.load 24 (T 115))),
 .s 5 (mo 117 (.fieldAddr 83 (T 3) 4)),
 .s 6 (mo 118 (.load 2 (T 117))),
 .s 7 (mo 119 (.indexAddr 24 (T 116) (T 118))),
 .s 8 (mo 120 (.load 44 (T 119))),
 .b 10 (mx (.store 44 (T 9) (T 120))) []]
def l40_4:List Oper:=[mo 112 (.move (T 0)),
 mo 113 (.nilCheck (T 112)),
 mo 114 (.fieldAddr 81 (T 113) 0),
 mo 115 (.fieldAddr 26 (T 114) 5),
 mo 116 (.load 24 (T 115)),
 mo 117 (.fieldAddr 83 (T 3) 4),
 mo 118 (.load 2 (T 117)),
 mo 119 (.indexAddr 24 (T 116) (T 118)),
 mo 120 (.load 44 (T 119)),
 mo 9 (.alloc 44),
 mx (.store 44 (T 9) (T 120))]
noncomputable def r40_4:Code:=.region 21 o40_4 true
theorem xr_40_4 {Q:DExit→St→Prop} {s:St}:xs Try.prog 248 r40_4 Q s=NC Try.prog 248 r40_4 Q s:=rfl
theorem yr_40_4 {Q:DExit→St→Prop} {s:St} (hdf:s.df=[]) (h:YG Try.prog (YD Try.prog l40_4.toArray Q q40_4) g40_4 s []):NC Try.prog 248 r40_4 Q s:=
 NC.yd (l:=l40_4) (b:=[0,1,3,7,15,0,32,127,255,0,1023]) (by kernel_rfl) (by kernel_rfl) (by kernel_rfl) (by kernel_rfl) (by kernel_rfl) (by kernel_rfl) (by kernel_rfl) (by kernel_rfl) hdf h
attribute [go_sem] xr_40_4
noncomputable def o40_5:Array Oper:=drawn Try.f40 5
def g40_5:List (Nat × Tmp × TypeId):=[]
def q40_5:List YO:=[.s 0 (mo 121 (.move (T 0))),
 .s 1 (mo 122 (.nilCheck (T 121))),
 .s 2 (mo 123 (.fieldAddr 81 (T 122) 3)),
 .s 3 (mo 124 (.load 63 (T 123))),
 .s 4 (mo 125 (.load 44 (T 9))),
 .s 5 (mo 126 (.load 44 (T 9))),
 .s 6 (mo 127 (.move (T 5))),
 .s 7 (mo 128 (.nilCheck (T 127))),
 .s 8 (mo 129 (.load 2 (T 128))),
 .s 9 (mo 130 (.build 51 #[(0,(T 126)),(1,(T 129))])),
 .b 10 (mx (.mapUpdate 63 (T 124) (T 125) (T 130))) []]
def l40_5:List Oper:=[mo 121 (.move (T 0)),
 mo 122 (.nilCheck (T 121)),
 mo 123 (.fieldAddr 81 (T 122) 3),
 mo 124 (.load 63 (T 123)),
 mo 125 (.load 44 (T 9)),
 mo 126 (.load 44 (T 9)),
 mo 127 (.move (T 5)),
 mo 128 (.nilCheck (T 127)),
 mo 129 (.load 2 (T 128)),
 mo 130 (.build 51 #[(0,(T 126)),(1,(T 129))]),
 mx (.mapUpdate 63 (T 124) (T 125) (T 130))]
noncomputable def r40_5:Code:=.region 22 o40_5 true
theorem xr_40_5 {Q:DExit→St→Prop} {s:St}:xs Try.prog 248 r40_5 Q s=NC Try.prog 248 r40_5 Q s:=rfl
theorem yr_40_5 {Q:DExit→St→Prop} {s:St} (hdf:s.df=[]) (h:YG Try.prog (YD Try.prog l40_5.toArray Q q40_5) g40_5 s []):NC Try.prog 248 r40_5 Q s:=
 NC.yd (l:=l40_5) (b:=[0,1,3,7,0,0,0,64,192,480,1023]) (by kernel_rfl) (by kernel_rfl) (by kernel_rfl) (by kernel_rfl) (by kernel_rfl) (by kernel_rfl) (by kernel_rfl) (by kernel_rfl) hdf h
attribute [go_sem] xr_40_5
noncomputable def o40_6:Array Oper:=drawn Try.f40 6
def g40_6:List (Nat × Tmp × TypeId):=[(9,10,44)]
def q40_6:List YO:=[.s 0 (mo 133 (.move (T 0))),
 .s 1 (mo 134 (.nilCheck (T 133))),
 .s 2 (mo 135 (.fieldAddr 81 (T 134) 0)),
 .s 3 (mo 136 (.fieldAddr 26 (T 135) 5)),
 .s 4 (mo 137 (.load 24 (T 136))),
 .s 5 (mo 138 (.fieldAddr 83 (T 3) 4)),
 .s 6 (mo 139 (.load 2 (T 138))),
 .s 7 (mo 140 (.indexAddr 24 (T 137) (T 139))),
 .s 8 (mo 141 (.load 44 (T 140))),
 .b 10 (mx (.store 44 (T 10) (T 141))) []]
def l40_6:List Oper:=[mo 133 (.move (T 0)),
 mo 134 (.nilCheck (T 133)),
 mo 135 (.fieldAddr 81 (T 134) 0),
 mo 136 (.fieldAddr 26 (T 135) 5),
 mo 137 (.load 24 (T 136)),
 mo 138 (.fieldAddr 83 (T 3) 4),
 mo 139 (.load 2 (T 138)),
 mo 140 (.indexAddr 24 (T 137) (T 139)),
 mo 141 (.load 44 (T 140)),
 mo 10 (.alloc 44),
 mx (.store 44 (T 10) (T 141))]
noncomputable def r40_6:Code:=.region 24 o40_6 true
theorem xr_40_6 {Q:DExit→St→Prop} {s:St}:xs Try.prog 248 r40_6 Q s=NC Try.prog 248 r40_6 Q s:=rfl
theorem yr_40_6 {Q:DExit→St→Prop} {s:St} (hdf:s.df=[]) (h:YG Try.prog (YD Try.prog l40_6.toArray Q q40_6) g40_6 s []):NC Try.prog 248 r40_6 Q s:=
 NC.yd (l:=l40_6) (b:=[0,1,3,7,15,0,32,127,255,0,1023]) (by kernel_rfl) (by kernel_rfl) (by kernel_rfl) (by kernel_rfl) (by kernel_rfl) (by kernel_rfl) (by kernel_rfl) (by kernel_rfl) hdf h
attribute [go_sem] xr_40_6
noncomputable def o40_7:Array Oper:=drawn Try.f40 7
def g40_7:List (Nat × Tmp × TypeId):=[]
def q40_7:List YO:=[.s 0 (mo 142 (.move (T 0))),
 .s 1 (mo 143 (.nilCheck (T 142))),
 .s 2 (mo 144 (.fieldAddr 81 (T 143) 3)),
 .s 3 (mo 145 (.load 63 (T 144))),
 .s 4 (mo 146 (.load 44 (T 10))),
 .s 5 (mo 147 (.load 44 (T 10))),
 .s 6 (mo 148 (.build 51 #[(0,(T 147)),(2,(.const (.bool true)))])),
 .b 7 (mx (.mapUpdate 63 (T 145) (T 146) (T 148))) []]
def l40_7:List Oper:=[mo 142 (.move (T 0)),
 mo 143 (.nilCheck (T 142)),
 mo 144 (.fieldAddr 81 (T 143) 3),
 mo 145 (.load 63 (T 144)),
 mo 146 (.load 44 (T 10)),
 mo 147 (.load 44 (T 10)),
 mo 148 (.build 51 #[(0,(T 147)),(2,(.const (.bool true)))]),
 mx (.mapUpdate 63 (T 145) (T 146) (T 148))]
noncomputable def r40_7:Code:=.region 25 o40_7 true
theorem xr_40_7 {Q:DExit→St→Prop} {s:St}:xs Try.prog 248 r40_7 Q s=NC Try.prog 248 r40_7 Q s:=rfl
theorem yr_40_7 {Q:DExit→St→Prop} {s:St} (hdf:s.df=[]) (h:YG Try.prog (YD Try.prog l40_7.toArray Q q40_7) g40_7 s []):NC Try.prog 248 r40_7 Q s:=
 NC.yd (l:=l40_7) (b:=[0,1,3,7,0,0,32,127]) (by kernel_rfl) (by kernel_rfl) (by kernel_rfl) (by kernel_rfl) (by kernel_rfl) (by kernel_rfl) (by kernel_rfl) (by kernel_rfl) hdf h
attribute [go_sem] xr_40_7
noncomputable def o40_8:Array Oper:=drawn Try.f40 8
def g40_8:List (Nat × Tmp × TypeId):=[]
def q40_8:List YO:=[.s 0 (mo 151 (.move (T 5))),
 .s 1 (mo 152 (.move (T 5))),
 .s 2 (mo 153 (.nilCheck (T 152))),
 .s 3 (mo 154 (.load 2 (T 153))),
 .s 4 (mo 155 (.fieldAddr 83 (T 3) 4)),
 .s 5 (mo 156 (.load 2 (T 155))),
 .b 6 (mo 157 (.call ⟨(.value (.func 17)),#[(T 154),(T 156)],#[2,2]⟩)) [],
 .s 7 (mo 158 (.nilCheck (T 151))),
 .b 8 (mx (.store 2 (T 158) (T 157))) []]
def l40_8:List Oper:=[mo 151 (.move (T 5)),
 mo 152 (.move (T 5)),
 mo 153 (.nilCheck (T 152)),
 mo 154 (.load 2 (T 153)),
 mo 155 (.fieldAddr 83 (T 3) 4),
 mo 156 (.load 2 (T 155)),
 mo 157 (.call ⟨(.value (.func 17)),#[(T 154),(T 156)],#[2,2]⟩),
 mo 158 (.nilCheck (T 151)),
 mx (.store 2 (T 158) (T 157))]
noncomputable def r40_8:Code:=.region 27 o40_8 true
theorem xr_40_8 {Q:DExit→St→Prop} {s:St}:xs Try.prog 248 r40_8 Q s=NC Try.prog 248 r40_8 Q s:=rfl
theorem yr_40_8 {Q:DExit→St→Prop} {s:St} (hdf:s.df=[]) (h:YG Try.prog (YD Try.prog l40_8.toArray Q q40_8) g40_8 s []):NC Try.prog 248 r40_8 Q s:=
 NC.yd (l:=l40_8) (b:=[0,0,2,6,0,16,62,127,255]) (by kernel_rfl) (by kernel_rfl) (by kernel_rfl) (by kernel_rfl) (by kernel_rfl) (by kernel_rfl) (by kernel_rfl) (by kernel_rfl) hdf h
attribute [go_sem] xr_40_8
noncomputable def o40_9:Array Oper:=drawn Try.f40 9
def g40_9:List (Nat × Tmp × TypeId):=[]
def q40_9:List YO:=[.s 0 (mo 183 (.move (T 0))),
 .s 1 (mo 184 (.move (T 0))),
 .s 2 (mo 185 (.nilCheck (T 184))),
 .s 3 (mo 186 (.fieldAddr 81 (T 185) 4)),
 .l 4 (mo 187 (.load 23 (T 186))),
 .s 5 (mo 188 (.move (T 5))),
 .s 6 (mo 189 (.nilCheck (T 188))),
 .s 7 (mo 190 (.load 2 (T 189))),
 .b 8 (mo 191 (.buildSlice 23 1 #[(0,(T 190))])) [0],
 .b 9 (mo 192 (.call ⟨(.builtin .append),#[(T 187),(T 191)],#[23,23]⟩)) [],
 .s 10 (mo 193 (.nilCheck (T 183))),
 .s 11 (mo 194 (.fieldAddr 81 (T 193) 4)),
 .b 12 (mx (.store 23 (T 194) (T 192))) []]
def l40_9:List Oper:=[mo 183 (.move (T 0)),
 mo 184 (.move (T 0)),
 mo 185 (.nilCheck (T 184)),
 mo 186 (.fieldAddr 81 (T 185) 4),
 mo 187 (.load 23 (T 186)),
 mo 188 (.move (T 5)),
 mo 189 (.nilCheck (T 188)),
 mo 190 (.load 2 (T 189)),
 mo 191 (.buildSlice 23 1 #[(0,(T 190))]),
 mo 192 (.call ⟨(.builtin .append),#[(T 187),(T 191)],#[23,23]⟩),
 mo 193 (.nilCheck (T 183)),
 mo 194 (.fieldAddr 81 (T 193) 4),
 mx (.store 23 (T 194) (T 192))]
noncomputable def r40_9:Code:=.region 36 o40_9 true
theorem xr_40_9 {Q:DExit→St→Prop} {s:St}:xs Try.prog 248 r40_9 Q s=NC Try.prog 248 r40_9 Q s:=rfl
theorem yr_40_9 {Q:DExit→St→Prop} {s:St} (hdf:s.df=[]) (h:YG Try.prog (YD Try.prog l40_9.toArray Q q40_9) g40_9 s []):NC Try.prog 248 r40_9 Q s:=
 NC.yd (l:=l40_9) (b:=[0,0,2,6,14,0,32,96,224,510,1023,2047,4095]) (by kernel_rfl) (by kernel_rfl) (by kernel_rfl) (by kernel_rfl) (by kernel_rfl) (by kernel_rfl) (by kernel_rfl) (by kernel_rfl) hdf h
attribute [go_sem] xr_40_9
noncomputable def o40_10:Array Oper:=drawn Try.f40 10
def g40_10:List (Nat × Tmp × TypeId):=[]
def q40_10:List YO:=[.s 0 (mo 207 (.move (T 0))),
 .s 1 (mo 208 (.nilCheck (T 207))),
 .s 2 (mo 209 (.fieldAddr 81 (T 208) 0)),
 .s 3 (mo 210 (.fieldAddr 26 (T 209) 4)),
 .s 4 (mo 211 (.load 24 (T 210))),
 .s 5 (mo 212 (.load 44 (T 11))),
 .b 6 (mo 213 (.call ⟨(.value (.func 51)),#[(T 211),(T 212)],#[24,44]⟩)) [],
 .s 7 (mo 214 (.unOp .not 4 (T 213)))]
def l40_10:List Oper:=[mo 207 (.move (T 0)),
 mo 208 (.nilCheck (T 207)),
 mo 209 (.fieldAddr 81 (T 208) 0),
 mo 210 (.fieldAddr 26 (T 209) 4),
 mo 211 (.load 24 (T 210)),
 mo 212 (.load 44 (T 11)),
 mo 213 (.call ⟨(.value (.func 51)),#[(T 211),(T 212)],#[24,44]⟩),
 mo 214 (.unOp .not 4 (T 213))]
noncomputable def r40_10:Code:=.region 41 o40_10 true
theorem xr_40_10 {Q:DExit→St→Prop} {s:St}:xs Try.prog 248 r40_10 Q s=NC Try.prog 248 r40_10 Q s:=rfl
theorem yr_40_10 {Q:DExit→St→Prop} {s:St} (hdf:s.df=[]) (h:YG Try.prog (YD Try.prog l40_10.toArray Q q40_10) g40_10 s []):NC Try.prog 248 r40_10 Q s:=
 NC.yd (l:=l40_10) (b:=[0,1,3,7,15,0,63,127]) (by kernel_rfl) (by kernel_rfl) (by kernel_rfl) (by kernel_rfl) (by kernel_rfl) (by kernel_rfl) (by kernel_rfl) (by kernel_rfl) hdf h
attribute [go_sem] xr_40_10
noncomputable def o40_11:Array Oper:=drawn Try.f40 11
def g40_11:List (Nat × Tmp × TypeId):=[]
def q40_11:List YO:=[.s 0 (mo 230 (.move (T 0))),
 .s 1 (mo 231 (.nilCheck (T 230))),
 .s 2 (mo 232 (.fieldAddr 81 (T 231) 0)),
 .s 3 (mo 233 (.fieldAddr 26 (T 232) 5)),
 .s 4 (mo 234 (.load 24 (T 233))),
 .s 5 (mo 235 (.load 44 (T 12))),
 .b 6 (mo 236 (.call ⟨(.value (.func 51)),#[(T 234),(T 235)],#[24,44]⟩)) [],
 .s 7 (mo 237 (.unOp .not 4 (T 236)))]
def l40_11:List Oper:=[mo 230 (.move (T 0)),
 mo 231 (.nilCheck (T 230)),
 mo 232 (.fieldAddr 81 (T 231) 0),
 mo 233 (.fieldAddr 26 (T 232) 5),
 mo 234 (.load 24 (T 233)),
 mo 235 (.load 44 (T 12)),
 mo 236 (.call ⟨(.value (.func 51)),#[(T 234),(T 235)],#[24,44]⟩),
 mo 237 (.unOp .not 4 (T 236))]
noncomputable def r40_11:Code:=.region 46 o40_11 true
theorem xr_40_11 {Q:DExit→St→Prop} {s:St}:xs Try.prog 248 r40_11 Q s=NC Try.prog 248 r40_11 Q s:=rfl
theorem yr_40_11 {Q:DExit→St→Prop} {s:St} (hdf:s.df=[]) (h:YG Try.prog (YD Try.prog l40_11.toArray Q q40_11) g40_11 s []):NC Try.prog 248 r40_11 Q s:=
 NC.yd (l:=l40_11) (b:=[0,1,3,7,15,0,63,127]) (by kernel_rfl) (by kernel_rfl) (by kernel_rfl) (by kernel_rfl) (by kernel_rfl) (by kernel_rfl) (by kernel_rfl) (by kernel_rfl) hdf h
attribute [go_sem] xr_40_11
noncomputable def o40_12:Array Oper:=drawn Try.f40 12
def g40_12:List (Nat × Tmp × TypeId):=[]
def q40_12:List YO:=[.s 0 (mo 238 (.move (T 0))),
 .s 1 (mo 239 (.nilCheck (T 238))),
 .s 2 (mo 240 (.fieldAddr 81 (T 239) 3)),
 .s 3 (mo 241 (.load 63 (T 240))),
 .s 4 (mo 242 (.load 44 (T 12))),
 .s 5 (mo 243 (.load 44 (T 12))),
 .s 6 (mo 244 (.move (T 5))),
 .s 7 (mo 245 (.nilCheck (T 244))),
 .s 8 (mo 246 (.load 2 (T 245))),
 .s 9 (mo 247 (.build 51 #[(0,(T 243)),(1,(T 246))])),
 .b 10 (mx (.mapUpdate 63 (T 241) (T 242) (T 247))) []]
def l40_12:List Oper:=[mo 238 (.move (T 0)),
 mo 239 (.nilCheck (T 238)),
 mo 240 (.fieldAddr 81 (T 239) 3),
 mo 241 (.load 63 (T 240)),
 mo 242 (.load 44 (T 12)),
 mo 243 (.load 44 (T 12)),
 mo 244 (.move (T 5)),
 mo 245 (.nilCheck (T 244)),
 mo 246 (.load 2 (T 245)),
 mo 247 (.build 51 #[(0,(T 243)),(1,(T 246))]),
 mx (.mapUpdate 63 (T 241) (T 242) (T 247))]
noncomputable def r40_12:Code:=.region 48 o40_12 true
theorem xr_40_12 {Q:DExit→St→Prop} {s:St}:xs Try.prog 248 r40_12 Q s=NC Try.prog 248 r40_12 Q s:=rfl
theorem yr_40_12 {Q:DExit→St→Prop} {s:St} (hdf:s.df=[]) (h:YG Try.prog (YD Try.prog l40_12.toArray Q q40_12) g40_12 s []):NC Try.prog 248 r40_12 Q s:=
 NC.yd (l:=l40_12) (b:=[0,1,3,7,0,0,0,64,192,480,1023]) (by kernel_rfl) (by kernel_rfl) (by kernel_rfl) (by kernel_rfl) (by kernel_rfl) (by kernel_rfl) (by kernel_rfl) (by kernel_rfl) hdf h
attribute [go_sem] xr_40_12
noncomputable def o40_13:Array Oper:=drawn Try.f40 13
def g40_13:List (Nat × Tmp × TypeId):=[]
def q40_13:List YO:=[.s 0 (mo 31 (.fieldAddr 83 (T 3) 1)),
 .s 1 (mo 32 (.load 3 (T 31))),
 .s 2 (mo 33 (.move (T 5))),
 .s 3 (mo 34 (.nilCheck (T 33))),
 .s 4 (mo 35 (.load 2 (T 34))),
 .s 5 (mo 36 (.move (T 6))),
 .b 6 (mo 37 (.call ⟨(.value (.func 15)),#[(T 32),(T 35),(T 36)],#[3,2,2]⟩)) [],
 .s 7 (mo 30 (.move (T 37))),
 .s 8 (mo 38 (.extract (T 30) 0)),
 .s 9 (mo 39 (.extract (T 30) 1)),
 .s 10 (mo 13 (.assign (T 38))),
 .s 11 (mo 14 (.assign (T 39)))]
def l40_13:List Oper:=[mo 31 (.fieldAddr 83 (T 3) 1),
 mo 32 (.load 3 (T 31)),
 mo 33 (.move (T 5)),
 mo 34 (.nilCheck (T 33)),
 mo 35 (.load 2 (T 34)),
 mo 36 (.move (T 6)),
 mo 37 (.call ⟨(.value (.func 15)),#[(T 32),(T 35),(T 36)],#[3,2,2]⟩),
 mo 30 (.move (T 37)),
 mo 38 (.extract (T 30) 0),
 mo 39 (.extract (T 30) 1),
 mo 13 (.assign (T 38)),
 mo 14 (.assign (T 39))]
noncomputable def r40_13:Code:=.region 3 o40_13 true
theorem xr_40_13 {Q:DExit→St→Prop} {s:St}:xs Try.prog 248 r40_13 Q s=NC Try.prog 248 r40_13 Q s:=rfl
theorem yr_40_13 {Q:DExit→St→Prop} {s:St} (hdf:s.df=[]) (h:YG Try.prog (YD Try.prog l40_13.toArray Q q40_13) g40_13 s []):NC Try.prog 248 r40_13 Q s:=
 NC.yd (l:=l40_13) (b:=[0,1,0,4,12,0,63,127,255,255,511,2047]) (by kernel_rfl) (by kernel_rfl) (by kernel_rfl) (by kernel_rfl) (by kernel_rfl) (by kernel_rfl) (by kernel_rfl) (by kernel_rfl) hdf h
attribute [go_sem] xr_40_13
noncomputable def c40:Code:=
 .seq (rg [mo 3 (.box 83 (T 1)),
 mo 4 (.assign (.const (.int .i64 0)))])
 (.seq (r40_0)
 (.seq (.seq (rg [mo 28 (.fieldAddr 83 (T 3) 1),
 mo 29 (.load 3 (T 28))])
 (.block 0 (.seq (rg [mo 47 (.binOp .eql 3 (T 29) (.const (.int .i64 0)) 3),
 mo 46 (.assign (T 47))])
 (.cond (T 46) (.seq (rg [mo 4 (.assign (.const (.int .i64 0)))])
 (.ret))
 (.seq (rg [mo 49 (.binOp .eql 3 (T 29) (.const (.int .i64 1)) 3),
 mo 48 (.assign (T 49))])
 (.cond (T 48) (rg [mo 50 (.move (T 5)),
 mo 51 (.fieldAddr 83 (T 3) 4),
 mo 52 (.load 2 (T 51)),
 mo 53 (.nilCheck (T 50)),
 mx (.store 2 (T 53) (T 52))])
 (.seq (rg [mo 55 (.binOp .eql 3 (T 29) (.const (.int .i64 2)) 3),
 mo 54 (.assign (T 55))])
 (.cond (T 54) (r40_1)
 (.seq (rg [mo 68 (.binOp .eql 3 (T 29) (.const (.int .i64 7)) 3),
 mo 67 (.assign (T 68))])
 (.cond (T 67) (rg [mo 69 (.move (T 5)),
 mo 70 (.move (T 6)),
 mo 71 (.nilCheck (T 69)),
 mx (.store 2 (T 71) (T 70))])
 (.seq (rg [mo 73 (.binOp .eql 3 (T 29) (.const (.int .i64 3)) 3),
 mo 72 (.assign (T 73))])
 (.cond (T 72) (r40_2)
 (.seq (rg [mo 91 (.binOp .eql 3 (T 29) (.const (.int .i64 4)) 3),
 mo 90 (.assign (T 91))])
 (.cond (T 90) (.seq (r40_3)
 (rg [mo 106 (.move (T 5)),
 mo 107 (.move (T 8)),
 mo 108 (.call ⟨(.value (.func 45)),#[(T 107)],#[4]⟩),
 mo 109 (.nilCheck (T 106)),
 mx (.store 2 (T 109) (T 108))]))
 (.seq (rg [mo 111 (.binOp .eql 3 (T 29) (.const (.int .i64 5)) 3),
 mo 110 (.assign (T 111))])
 (.cond (T 110) (.seq (r40_4)
 (r40_5))
 (.seq (rg [mo 132 (.binOp .eql 3 (T 29) (.const (.int .i64 6)) 3),
 mo 131 (.assign (T 132))])
 (.cond (T 131) (.seq (r40_6)
 (r40_7))
 (.seq (rg [mo 150 (.binOp .eql 3 (T 29) (.const (.int .i64 19)) 3),
 mo 149 (.assign (T 150))])
 (.cond (T 149) (r40_8)
 (.seq (rg [mo 160 (.binOp .eql 3 (T 29) (.const (.int .i64 22)) 3),
 mo 159 (.assign (T 160))])
 (.cond (T 159) (rg [mo 161 (.move (T 0)),
 mo 162 (.fieldAddr 83 (T 3) 4),
 mo 163 (.load 2 (T 162)),
 mo 164 (.call ⟨(.value (.func 64)),#[(T 161),(T 163)],#[77,2]⟩)])
 (.seq (rg [mo 166 (.binOp .eql 3 (T 29) (.const (.int .i64 23)) 3),
 mo 165 (.assign (T 166))])
 (.cond (T 165) (.seq (rg [mo 167 (.move (T 5)),
 mo 168 (.nilCheck (T 167)),
 mo 169 (.load 2 (T 168)),
 mo 170 (.binOp .neq 2 (T 169) (.const (.int .i64 0)) 2)])
 (.cond (T 170) (rg [mo 171 (.move (T 0)),
 mo 172 (.fieldAddr 83 (T 3) 4),
 mo 173 (.load 2 (T 172)),
 mo 174 (.call ⟨(.value (.func 64)),#[(T 171),(T 173)],#[77,2]⟩)])
 (.skip)))
 (.seq (rg [mo 176 (.binOp .eql 3 (T 29) (.const (.int .i64 24)) 3),
 mo 175 (.assign (T 176))])
 (.cond (T 175) (.seq (.seq (rg [mo 177 (.move (T 0)),
 mo 178 (.nilCheck (T 177)),
 mo 179 (.fieldAddr 81 (T 178) 4),
 mo 180 (.load 23 (T 179)),
 mo 181 (.call ⟨(.builtin .len),#[(T 180)],#[23]⟩),
 mo 182 (.binOp .geq 3 (T 181) (.const (.int .i64 8)) 3)])
 (.cond (T 182) (.seq (rg [mo 4 (.assign (.const (.int .i64 5)))])
 (.ret))
 (.skip)))
 (r40_9))
 (.seq (rg [mo 196 (.binOp .eql 3 (T 29) (.const (.int .i64 25)) 3),
 mo 195 (.assign (T 196))])
 (.cond (T 195) (.seq (rg [mo 197 (.fieldAddr 83 (T 3) 4),
 mo 198 (.load 2 (T 197)),
 mo 199 (.binOp .add 3 (.const (.int .i64 100)) (T 198) 3),
 mo 4 (.assign (T 199))])
 (.ret))
 (.seq (rg [mo 201 (.binOp .eql 3 (T 29) (.const (.int .i64 26)) 3),
 mo 200 (.assign (T 201))])
 (.cond (T 200) (.seq (rg [mo 202 (.fieldAddr 83 (T 3) 4),
 mo 203 (.load 2 (T 202)),
 mo 204 (.convert 2 21 (T 203)),
 mo 205 (.move (T 6)),
 mo 206 (.build 44 #[(0,(T 204)),(1,(T 205))]),
 mo 11 (.alloc 44),
 mx (.store 44 (T 11) (T 206))])
 (.seq (.seq (r40_10)
 (.cond (T 214) (.seq (rg [mo 4 (.assign (.const (.int .i64 4)))])
 (.ret))
 (.skip)))
 (rg [mo 216 (.move (T 5)),
 mo 217 (.move (T 0)),
 mo 218 (.load 44 (T 11)),
 mo 219 (.call ⟨(.value (.func 63)),#[(T 217),(T 218)],#[77,44]⟩),
 mo 215 (.move (T 219)),
 mo 220 (.extract (T 215) 0),
 mo 221 (.extract (T 215) 1),
 mo 222 (.nilCheck (T 216)),
 mx (.store 2 (T 222) (T 220))])))
 (.seq (rg [mo 224 (.binOp .eql 3 (T 29) (.const (.int .i64 27)) 3),
 mo 223 (.assign (T 224))])
 (.cond (T 223) (.seq (rg [mo 225 (.fieldAddr 83 (T 3) 4),
 mo 226 (.load 2 (T 225)),
 mo 227 (.convert 2 21 (T 226)),
 mo 228 (.move (T 6)),
 mo 229 (.build 44 #[(0,(T 227)),(1,(T 228))]),
 mo 12 (.alloc 44),
 mx (.store 44 (T 12) (T 229))])
 (.seq (.seq (r40_11)
 (.cond (T 237) (.seq (rg [mo 4 (.assign (.const (.int .i64 4)))])
 (.ret))
 (.skip)))
 (r40_12)))
 (.seq (r40_13)
 (.seq (.seq (rg [mo 40 (.move (T 14)),
 mo 41 (.binOp .neq 3 (T 40) (.const (.int .i64 0)) 3)])
 (.cond (T 41) (.seq (rg [mo 42 (.move (T 14)),
 mo 4 (.assign (T 42))])
 (.ret))
 (.skip)))
 (rg [mo 43 (.move (T 5)),
 mo 44 (.move (T 13)),
 mo 45 (.nilCheck (T 43)),
 mx (.store 2 (T 45) (T 44))])))))))))))))))))))))))))))))))))))
 (.seq (rg [mo 4 (.assign (.const (.int .i64 (-1))))])
 (.ret))))
theorem body_40:Try.f40.body.map strip=some c40:=by kernel_rfl
theorem go_40:GoC Try.prog 40 248 c40 [(.tmp 4)]:=
 GoC.of (fn:=Try.f40) (by kernel_rfl) body_40 (by kernel_rfl) (by kernel_rfl) (by kernel_rfl)
end Go.Proofs.Ythjmkmoiopmfcaa

namespace Go.Proofs.Ythjmkmoiopmfcaa
open Go.D
set_option maxRecDepth 100000
def c108:Code:=
 .seq (rg [mo 2 (.assign (.const (.int .i64 0)))])
 (.seq (.seq (rg [mo 3 (.move (T 0)),
 mo 4 (.binOp .geq 92 (T 3) (.const (.int .u64 4294967296)) 92)])
 (.cond (T 4) (.seq (rg [mo 5 (.move (T 0)),
 mo 6 (.binOp .shr 92 (T 5) (.const (.int .u64 32)) 96),
 mo 0 (.assign (T 6))])
 (rg [mo 2 (.assign (.const (.int .i64 32)))]))
 (.skip)))
 (.seq (.seq (rg [mo 7 (.move (T 0)),
 mo 8 (.binOp .geq 92 (T 7) (.const (.int .u64 65536)) 92)])
 (.cond (T 8) (.seq (rg [mo 9 (.move (T 0)),
 mo 10 (.binOp .shr 92 (T 9) (.const (.int .u64 16)) 96),
 mo 0 (.assign (T 10))])
 (rg [mo 11 (.move (T 2)),
 mo 12 (.binOp .add 3 (T 11) (.const (.int .i64 16)) 3),
 mo 2 (.assign (T 12))]))
 (.skip)))
 (.seq (.seq (rg [mo 13 (.move (T 0)),
 mo 14 (.binOp .geq 92 (T 13) (.const (.int .u64 256)) 92)])
 (.cond (T 14) (.seq (rg [mo 15 (.move (T 0)),
 mo 16 (.binOp .shr 92 (T 15) (.const (.int .u64 8)) 96),
 mo 0 (.assign (T 16))])
 (rg [mo 17 (.move (T 2)),
 mo 18 (.binOp .add 3 (T 17) (.const (.int .i64 8)) 3),
 mo 2 (.assign (T 18))]))
 (.skip)))
 (.seq (rg [mo 19 (.move (T 2)),
 mo 20 (.move (T 0)),
 mo 21 (.convert 92 5 (T 20)),
 mo 22 (.index 9 (.const (.string (ByteArray.mk (List.toArray (List.append (List.append [0,1,2,2,3,3,3,3,4,4,4,4,4,4,4,4,5,5,5,5,5,5,5,5,5,5,5,5,5,5,5,5,6,6,6,6,6,6,6,6,6,6,6,6,6,6,6,6,6,6,6,6,6,6,6,6,6,6,6,6,6,6,6,6] [7,7,7,7,7,7,7,7,7,7,7,7,7,7,7,7,7,7,7,7,7,7,7,7,7,7,7,7,7,7,7,7,7,7,7,7,7,7,7,7,7,7,7,7,7,7,7,7,7,7,7,7,7,7,7,7,7,7,7,7,7,7,7,7]) (List.append [8,8,8,8,8,8,8,8,8,8,8,8,8,8,8,8,8,8,8,8,8,8,8,8,8,8,8,8,8,8,8,8,8,8,8,8,8,8,8,8,8,8,8,8,8,8,8,8,8,8,8,8,8,8,8,8,8,8,8,8,8,8,8,8] [8,8,8,8,8,8,8,8,8,8,8,8,8,8,8,8,8,8,8,8,8,8,8,8,8,8,8,8,8,8,8,8,8,8,8,8,8,8,8,8,8,8,8,8,8,8,8,8,8,8,8,8,8,8,8,8,8,8,8,8,8,8,8,8])))))) (T 21)),
 mo 23 (.convert 5 3 (T 22)),
 mo 24 (.binOp .add 3 (T 19) (T 23) 3),
 mo 2 (.assign (T 24))])
 (.ret)))))
theorem body_108:Try.f108.body.map strip=some c108:=by kernel_rfl
theorem go_108:GoC Try.prog 108 25 c108 [(.tmp 2)]:=
 GoC.of (fn:=Try.f108) (by kernel_rfl) body_108 (by kernel_rfl) (by kernel_rfl) (by kernel_rfl)
end Go.Proofs.Ythjmkmoiopmfcaa

namespace Go.Proofs.Ythjmkmoiopmfcaa
open Go.D
set_option maxRecDepth 100000
theorem truth_c {h:DHeap} {b:Bool}:DC Try.prog 45 [.bool b] h (.ret (.int .i64 (if b then 1 else 0))) h:=by
 refine Ct.pure (go_45 (by simp) ?_) (vin_int _ _)
 cases b <;> simp -implicitDefEqProofs (disch:=first|omega|simp only[go_sem]) only[go_sem,true_and,c45] <;> exact ⟨_,rfl,rfl,.refl _⟩
def narrow (a n:Int):Int:=if n=8 then IntKind.i8.wrap a else if n=16 then IntKind.i16.wrap a else if n=32 then IntKind.i32.wrap a else a
theorem wrn_i8 {a:Int}:IntKind.i64.wrap (IntKind.i8.wrap a)=IntKind.i8.wrap a:=by simp[IntKind.wrap,IntKind.bits,IntKind.signed];omega
theorem wrn_i16 {a:Int}:IntKind.i64.wrap (IntKind.i16.wrap a)=IntKind.i16.wrap a:=by simp[IntKind.wrap,IntKind.bits,IntKind.signed];omega
theorem wrn_i32 {a:Int}:IntKind.i64.wrap (IntKind.i32.wrap a)=IntKind.i32.wrap a:=by simp[IntKind.wrap,IntKind.bits,IntKind.signed];omega
theorem narrow_c {h:DHeap} {a n:Int}:DC Try.prog 17 [.int .i64 a,.int .i64 n] h (.ret (.int .i64 (narrow a n))) h:=by
 refine Ct.pure (go_17 (by simp) ?_) (vin_int _ _)
 by_cases h8:n=8
 ·simp -implicitDefEqProofs (disch:=first|omega|simp only[go_sem]) only[go_sem,true_and,c17,h8]
  exact ⟨_,rfl,congrArg (fun z=>DEnd.ret (Value.int IntKind.i64 z)) wrn_i8,.refl _⟩
 by_cases h16:n=16
 ·simp -implicitDefEqProofs (disch:=first|omega|simp only[go_sem]) only[go_sem,true_and,c17,h16]
  exact ⟨_,rfl,congrArg (fun z=>DEnd.ret (Value.int IntKind.i64 z)) wrn_i16,.refl _⟩
 by_cases h32:n=32
 ·simp -implicitDefEqProofs (disch:=first|omega|simp only[go_sem]) only[go_sem,true_and,c17,h32]
  exact ⟨_,rfl,congrArg (fun z=>DEnd.ret (Value.int IntKind.i64 z)) wrn_i32,.refl _⟩
 simp -implicitDefEqProofs (disch:=first|omega|simp only[go_sem]) only[go_sem,true_and,c17,h8,h16,h32]
 exact ⟨_,rfl,by simp[narrow,h8,h16,h32],.refl _⟩
end Go.Proofs.Ythjmkmoiopmfcaa

namespace Go.Proofs.Ythjmkmoiopmfcaa
open Go.D
set_option maxRecDepth 100000
def cnt (b:Int):Nat:=(BitVec.ofInt 64 b &&& BitVec.ofInt 64 63).toNat
theorem cnt_lt (b:Int):cnt b<64:=by
 have:(BitVec.ofInt 64 b &&& BitVec.ofInt 64 63).toNat≤(BitVec.ofInt 64 63).toNat:=by rw[BitVec.toNat_and];exact Nat.and_le_right
 have e:(BitVec.ofInt 64 63).toNat=63:=by decide
 unfold cnt;omega
theorem bits64:IntKind.i64.bits=64:=rfl
theorem bitsu64:IntKind.u64.bits=64:=rfl
theorem ofInt_wrap {a:Int}:BitVec.ofInt 64 (IntKind.u64.wrap a)=BitVec.ofInt 64 a:=by
 apply BitVec.eq_of_toInt_eq
 rw[BitVec.toInt_ofInt,BitVec.toInt_ofInt]
 simp[IntKind.wrap,IntKind.bits,IntKind.signed]
 exact Int.emod_bmod a 18446744073709551616
theorem cnt_u {b:Int}:IntKind.u64.wrap (cnt b:Nat)=cnt b:=by have:=cnt_lt b;simp[IntKind.wrap,IntKind.bits,IntKind.signed];omega
theorem cnt_eq {b:Int}:(BitVec.ofInt 64 b &&& BitVec.ofInt 64 63).toNat=cnt b:=rfl
theorem min_cnt {b:Int}:min (cnt b) 64=cnt b:=by have:=cnt_lt b;omega
theorem bin_cnt {P:Program} {t:TypeId} {ox oy:Operand} {b:Int} {h:DHeap}:dBinOp P .and t ox oy (.int .u64 (IntKind.u64.wrap b)) (.int .u64 63) h=.ok (.value (.int .u64 (cnt b:Nat))) h:=by
 refine bin_and.trans ?_
 show DR.ok (.value (.int .u64 (IntKind.u64.wrap (((BitVec.ofInt 64 (IntKind.u64.wrap b) &&& BitVec.ofInt 64 63).toNat:Nat):Int)))) h=_
 rw[ofInt_wrap,cnt_eq,cnt_u]
def bin2 (op a b:Int):Int × Int:=
 let w:=IntKind.i64.wrap
 if op=8 then (w (a+b),0) else if op=9 then (w (a - b),0) else if op=10 then (w (a*b),0)
 else if op=11 then (if b=0 then (0,3) else (w (a.tdiv b),0))
 else if op=12 then (if b=0 then (0,3) else (a.tmod b,0))
 else if op=13 then (w (BitVec.ofInt 64 a &&& BitVec.ofInt 64 b).toNat,0)
 else if op=14 then (w (BitVec.ofInt 64 a ||| BitVec.ofInt 64 b).toNat,0)
 else if op=15 then (w (BitVec.ofInt 64 a ^^^ BitVec.ofInt 64 b).toNat,0)
 else if op=16 then (w (a*2 ^ cnt b),0)
 else if op=17 then (a.fdiv (2 ^ cnt b),0)
 else if op=18 then (w ((IntKind.u64.wrap a).fdiv (2 ^ cnt b)),0)
 else if op=20 then (if a<b then 1 else 0,0)
 else if op=21 then (if a=b then 1 else 0,0)
 else (0,1)
def bin2V (op a b:Int):Value:=.tuple #[.int .i64 (bin2 op a b).1,.int .i64 (bin2 op a b).2]
theorem divide_c {h:DHeap} {a b:Int}:DC Try.prog 44 [.int .i64 a,.int .i64 b] h (.ret (.tuple #[.int .i64 (if b=0 then 0 else IntKind.i64.wrap (a.tdiv b)),.int .i64 (if b=0 then 0 else a.tmod b),.bool (!decide (b=0))])) h:=by
 refine Ct.pure (go_44 (by simp) ?_) (flat3_vin _ rfl)
 by_cases hb:b=0
 ·simp -implicitDefEqProofs (disch:=first|omega|simp only[go_sem]) only[go_sem,true_and,c44,hb]
  exact ⟨_,rfl,rfl,.refl _⟩
 by_cases ha:a=-9223372036854775808
 ·by_cases h1:b=-1
  ·simp -implicitDefEqProofs (disch:=first|omega|simp only[go_sem]) only[go_sem,true_and,c44,hb,ha,h1]
   exact ⟨_,rfl,by rfl,.refl _⟩
  ·simp -implicitDefEqProofs (disch:=first|omega|simp only[go_sem]) only[go_sem,true_and,c44,hb,ha,h1]
   refine yr_44_0 rfl ?_
   simp -implicitDefEqProofs (disch:=first|omega|simp only[go_sem]) only[go_sem,true_and,g44_0,q44_0]
   simp -implicitDefEqProofs (disch:=first|omega|simp only[go_sem]) only[go_sem,true_and,bin_quo hb,bin_rem hb]
   exact ⟨_,rfl,by simp[hb],.refl _⟩
 ·simp -implicitDefEqProofs (disch:=first|omega|simp only[go_sem]) only[go_sem,true_and,c44,hb,ha]
  refine yr_44_0 rfl ?_
  simp -implicitDefEqProofs (disch:=first|omega|simp only[go_sem]) only[go_sem,true_and,g44_0,q44_0]
  simp -implicitDefEqProofs (disch:=first|omega|simp only[go_sem]) only[go_sem,true_and,bin_quo hb,bin_rem hb]
  exact ⟨_,rfl,by simp[hb],.refl _⟩
theorem binary_c {h:DHeap} {o a b:Int}:DC Try.prog 15 [.int .i64 o,.int .i64 a,.int .i64 b] h (.ret (bin2V o a b)) h:=by
 refine Ct.pure (go_15 (by simp) ?_) (flat3_vin _ rfl)
 have n0:¬ ((cnt b:Nat):Int)<0:=by omega
 simp -implicitDefEqProofs (disch:=first|omega|simp only[go_sem]) only[go_sem,true_and,c15,↓bin_cnt]
 by_cases h8:o=8
 ·simp -implicitDefEqProofs (disch:=first|omega|simp only[go_sem]) only[go_sem,true_and,h8];exact ⟨_,rfl,rfl,.refl _⟩
 by_cases h9:o=9
 ·simp -implicitDefEqProofs (disch:=first|omega|simp only[go_sem]) only[go_sem,true_and,h9];exact ⟨_,rfl,rfl,.refl _⟩
 by_cases h10:o=10
 ·simp -implicitDefEqProofs (disch:=first|omega|simp only[go_sem]) only[go_sem,true_and,h10];exact ⟨_,rfl,rfl,.refl _⟩
 by_cases h11:o=11
 ·simp -implicitDefEqProofs (disch:=first|omega|simp only[go_sem]) only[go_sem,true_and,h11]
  refine ncall divide_c ?_
  by_cases hb:b=0
  ·simp -implicitDefEqProofs (disch:=first|omega|simp only[go_sem]) only[go_sem,true_and,hb];exact ⟨_,rfl,by simp[bin2V,bin2],.refl _⟩
  ·simp -implicitDefEqProofs (disch:=first|omega|simp only[go_sem]) only[go_sem,true_and,hb];exact ⟨_,rfl,by simp[bin2V,bin2,hb],.refl _⟩
 by_cases h12:o=12
 ·simp -implicitDefEqProofs (disch:=first|omega|simp only[go_sem]) only[go_sem,true_and,h12]
  refine ncall divide_c ?_
  by_cases hb:b=0
  ·simp -implicitDefEqProofs (disch:=first|omega|simp only[go_sem]) only[go_sem,true_and,hb];exact ⟨_,rfl,by simp[bin2V,bin2],.refl _⟩
  ·simp -implicitDefEqProofs (disch:=first|omega|simp only[go_sem]) only[go_sem,true_and,hb];exact ⟨_,rfl,by simp[bin2V,bin2,hb],.refl _⟩
 by_cases h13:o=13
 ·simp -implicitDefEqProofs (disch:=first|omega|simp only[go_sem]) only[go_sem,true_and,h13,bits64];exact ⟨_,rfl,rfl,.refl _⟩
 by_cases h14:o=14
 ·simp -implicitDefEqProofs (disch:=first|omega|simp only[go_sem]) only[go_sem,true_and,h14,bits64];exact ⟨_,rfl,rfl,.refl _⟩
 by_cases h15:o=15
 ·simp -implicitDefEqProofs (disch:=first|omega|simp only[go_sem]) only[go_sem,true_and,h15,bits64];exact ⟨_,rfl,rfl,.refl _⟩
 by_cases h16:o=16
 ·simp -implicitDefEqProofs (disch:=first|omega|simp only[go_sem]) only[go_sem,true_and,h16,bits64,bin_shl n0,Int.toNat_natCast,min_cnt];exact ⟨_,rfl,rfl,.refl _⟩
 by_cases h17:o=17
 ·simp -implicitDefEqProofs (disch:=first|omega|simp only[go_sem]) only[go_sem,true_and,h17,bits64,bin_shr n0,Int.toNat_natCast,min_cnt];exact ⟨_,rfl,rfl,.refl _⟩
 by_cases h18:o=18
 ·simp -implicitDefEqProofs (disch:=first|omega|simp only[go_sem]) only[go_sem,true_and,h18,bitsu64,bin_shr n0,Int.toNat_natCast,min_cnt];exact ⟨_,rfl,rfl,.refl _⟩
 by_cases h20:o=20
 ·simp -implicitDefEqProofs (disch:=first|omega|simp only[go_sem]) only[go_sem,true_and,h20]
  refine ncall truth_c ?_
  simp -implicitDefEqProofs (disch:=first|omega|simp only[go_sem]) only[go_sem,true_and]
  exact ⟨_,rfl,by simp[bin2V,bin2],.refl _⟩
 by_cases h21:o=21
 ·simp -implicitDefEqProofs (disch:=first|omega|simp only[go_sem]) only[go_sem,true_and,h21]
  refine ncall truth_c ?_
  simp -implicitDefEqProofs (disch:=first|omega|simp only[go_sem]) only[go_sem,true_and]
  exact ⟨_,rfl,by simp[bin2V,bin2],.refl _⟩
 simp -implicitDefEqProofs (disch:=first|omega|simp only[go_sem]) only[go_sem,true_and,h8,h9,h10,h11,h12,h13,h14,h15,h16,h17,h18,h20,h21]
 exact ⟨_,rfl,by simp[bin2V,bin2, *],.refl _⟩
end Go.Proofs.Ythjmkmoiopmfcaa

namespace Go.Proofs.Ythjmkmoiopmfcaa
open Go.D
set_option maxRecDepth 100000
theorem nan32_c {h:DHeap} {n:Int}:DC Try.prog 97 [.int .i32 n] h (.ret (.bool false)) h:=by
 refine Ct.pure (go_97 (by simp) ?_) (vin_bool _)
 simp -implicitDefEqProofs (disch:=first|omega|simp only[go_sem]) only[go_sem,c97]
 exact ⟨_,rfl,rfl,.refl h⟩
theorem nan64_c {h:DHeap} {n:Int}:DC Try.prog 98 [.int .i64 n] h (.ret (.bool false)) h:=by
 refine Ct.pure (go_98 (by simp) ?_) (vin_bool _)
 simp -implicitDefEqProofs (disch:=first|omega|simp only[go_sem]) only[go_sem,c98]
 exact ⟨_,rfl,rfl,.refl h⟩
def cmpI (a b:Int):Int:=if a<b then -1 else if b<a then 1 else 0
theorem cmp32_c {h:DHeap} {a b:Int}:DC Try.prog 89 [.int .i32 a,.int .i32 b] h (.ret (.int .i64 (cmpI a b))) h:=by
 refine Ct.pure (go_89 (by simp) ?_) (vin_int _ _)
 unfold cmpI
 simp -implicitDefEqProofs (disch:=first|omega|simp only[go_sem]) only[go_sem,c89]
 refine ncall nan32_c ?_
 simp -implicitDefEqProofs (disch:=first|omega|simp only[go_sem]) only[go_sem]
 refine ncall nan32_c ?_
 by_cases h0:a<b
 ·simp -implicitDefEqProofs (disch:=first|omega|simp only[go_sem]) only[go_sem,h0]
  exact ⟨_,rfl,rfl,.refl h⟩
 by_cases h1:b<a
 ·simp -implicitDefEqProofs (disch:=first|omega|simp only[go_sem]) only[go_sem,h0,gt_iff_lt,h1]
  exact ⟨_,rfl,rfl,.refl h⟩
 ·simp -implicitDefEqProofs (disch:=first|omega|simp only[go_sem]) only[go_sem,h0,gt_iff_lt,h1]
  exact ⟨_,rfl,rfl,.refl h⟩
theorem cmp64_c {h:DHeap} {a b:Int}:DC Try.prog 90 [.int .i64 a,.int .i64 b] h (.ret (.int .i64 (cmpI a b))) h:=by
 refine Ct.pure (go_90 (by simp) ?_) (vin_int _ _)
 unfold cmpI
 simp -implicitDefEqProofs (disch:=first|omega|simp only[go_sem]) only[go_sem,c90]
 refine ncall nan64_c ?_
 simp -implicitDefEqProofs (disch:=first|omega|simp only[go_sem]) only[go_sem]
 refine ncall nan64_c ?_
 by_cases h0:a<b
 ·simp -implicitDefEqProofs (disch:=first|omega|simp only[go_sem]) only[go_sem,h0]
  exact ⟨_,rfl,rfl,.refl h⟩
 by_cases h1:b<a
 ·simp -implicitDefEqProofs (disch:=first|omega|simp only[go_sem]) only[go_sem,h0,gt_iff_lt,h1]
  exact ⟨_,rfl,rfl,.refl h⟩
 ·simp -implicitDefEqProofs (disch:=first|omega|simp only[go_sem]) only[go_sem,h0,gt_iff_lt,h1]
  exact ⟨_,rfl,rfl,.refl h⟩
def orI:List Int→Int
 | []=>0
 | a :: l=>if a=0 then orI l else a
theorem or_c {h:DHeap} {b:Value} {l:List Int} (hb:Arg fI64.rep h b l) (hlen:l.length≤4294967296):DC Try.prog 88 [b] h (.ret (.int .i64 (orI l))) h:=by
 refine Ct.pure (go_88 (by simp) ?_) (vin_int _ _)
 have el:=hb.dLen (P:=Try.prog) (ts:=#[138]) (t:=138) rfl isl_138
 simp -implicitDefEqProofs (disch:=first|omega|simp only[go_sem]) only[go_sem,c88,el]
 refine xloop (σ:=Nat) (by kernel_rfl) (fun i s=>s.df=[]∧s.h=h∧s.fr 3=some (.int .i64 0)∧s.fr 6=some b∧s.fr 7=some (.int .i64 l.length)∧s.fr 8=some (.int .i64 (i:Nat))∧i≤l.length∧orI (l.drop i)=orI l) (fun i=>l.length - i) 0 ?_ ?_
 ·simp -implicitDefEqProofs (disch:=first|omega|simp only[go_sem]) only[go_sem]
  exact ⟨by trivial,by trivial,by trivial,by trivial,by trivial,by trivial,Nat.zero_le _,by rw[List.drop_zero]⟩
 ·rintro i ⟨fr,df,hh,rd⟩ K hK hX ⟨rfl,rfl,h3,h6,h7,h8,hi,ho⟩
  simp only at h3 h6 h7 h8
  simp -implicitDefEqProofs (disch:=first|omega|simp only[go_sem]) only[go_sem,h3,h6,h7,h8]
  refine XIf_dec (fun hc1=>?_) (fun hc1=>?_)
  ·have hj:i<l.length:=by omega
   obtain ⟨id2,o2,e2,_,hat2⟩:=hb.idx (P:=Try.prog) (t:=138) el_138 (k:=.i64) (i:=i) (x:=l[i]) (by simp)
   have hw:=wrap_succ hj (by omega)
   rw[List.drop_eq_getElem_cons hj]at ho
   by_cases hx:l[i]=0
   ·simp -implicitDefEqProofs (disch:=first|omega|simp only[go_sem]) only[go_sem,h3,h6,h7,h8,e2,hat2.int,hx,hw]
    refine hK (i+1) _ ?_ (by omega)
    exact ⟨by trivial,by trivial,by simp -implicitDefEqProofs (disch:=first|omega|simp only[go_sem]) only[go_sem,h3],by simp -implicitDefEqProofs (disch:=first|omega|simp only[go_sem]) only[go_sem,h6],by simp -implicitDefEqProofs (disch:=first|omega|simp only[go_sem]) only[go_sem,h7],vz,by omega,by rw[← ho,orI,if_pos hx]⟩
   ·simp -implicitDefEqProofs (disch:=first|omega|simp only[go_sem]) only[go_sem,h3,h6,h7,h8,e2,hat2.int,hx,hw]
    refine hX _ _ (by simp) ?_
    simp -implicitDefEqProofs (disch:=first|omega|simp only[go_sem]) only[go_sem]
    refine ⟨_,rfl,?_,.refl hh⟩
    rw[← ho,orI,if_neg hx]
  ·obtain rfl:i=l.length:=by omega
   refine hX _ _ (by simp) ?_
   simp -implicitDefEqProofs (disch:=first|omega|simp only[go_sem]) only[go_sem,h3]
   refine ⟨_,rfl,?_,.refl hh⟩
   rw[← ho,List.drop_length];rfl
end Go.Proofs.Ythjmkmoiopmfcaa

namespace Go.Proofs.Ythjmkmoiopmfcaa
open Go.D
set_option maxRecDepth 100000
abbrev keyV (k:Key):Value:=.agg #[.int .i32 k.t,.int .i64 k.r]
def keyLt (a b:Key):Bool:=decide (a.t<b.t)||(decide (a.t=b.t)&&decide (a.r<b.r))
def keyCmp (a b:Key):Int:=if cmpI a.t b.t=0 then cmpI a.r b.r else cmpI a.t b.t
theorem cmpI_zero {a b:Int}:cmpI a b=0↔a=b:=by
 unfold cmpI;split
 ·constructor <;> intro h <;> omega
 ·split
  ·constructor <;> intro h <;> omega
  ·constructor <;> intro h <;> omega
theorem cmpI_neg {a b:Int}:cmpI a b<0↔a<b:=by
 unfold cmpI;split
 ·constructor <;> intro h <;> omega
 ·split
  ·constructor <;> intro h <;> omega
  ·constructor <;> intro h <;> omega
theorem keyCmp_neg (a b:Key):decide (keyCmp a b<0)=keyLt a b:=by
 unfold keyCmp keyLt
 by_cases h:a.t=b.t
 ·rw[if_pos (cmpI_zero.2 h)]
  rw[show decide (a.t<b.t)=false by simp;omega,show decide (a.t=b.t)=true by simp[h]]
  simp[cmpI_neg]
 ·rw[if_neg (fun hh=>h (cmpI_zero.1 hh)),show decide (a.t=b.t)=false by simp[h]]
  simp[cmpI_neg]
theorem keyCmp_or (a b:Key):orI [cmpI a.t b.t,cmpI a.r b.r]=keyCmp a b:=by
 unfold keyCmp orI orI orI
 split
 ·split
  ·rename_i h;exact h.symm
  ·rfl
 ·rfl
theorem cmpI_ok (a b:Int):inK .i64 (cmpI a b):=by
 unfold cmpI;split
 ·exact inK_i64.2 ⟨by decide,by decide⟩
 ·split <;> exact inK_i64.2 ⟨by decide,by decide⟩
theorem compare_c {h:DHeap} {a b:Key}:DC Try.prog 76 [keyV a,keyV b] h (.ret (.int .i64 (keyCmp a b))) h:=by
 refine Ct.pure (go_76 (by simp) ?_) (vin_int _ _)
 simp -implicitDefEqProofs (disch:=first|omega|simp only[go_sem]) only[go_sem,c76]
 refine dr_76_0 ?_
 simp -implicitDefEqProofs (disch:=first|omega|simp only[go_sem]) only[go_sem,l76_0,cellAt_p1,cellAt_p0,Nat.add_zero,Nat.zero_add]
 refine dcall cmp32_c ?_
 simp -implicitDefEqProofs (disch:=first|omega|simp only[go_sem]) only[go_sem,l76_0,cellAt_p1,cellAt_p0,Nat.add_zero,Nat.zero_add]
 refine dcall cmp64_c ?_
 simp -implicitDefEqProofs (disch:=first|omega|simp only[go_sem]) only[go_sem]
 have ha:∀ K:DHeap,Arg fI64.rep (K.push (.row [.int .i64 (cmpI a.t b.t),.int .i64 (cmpI a.r b.r)] 1 false)) (.slice (some ⟨K.next,0,none⟩) 2 2) [cmpI a.t b.t,cmpI a.r b.r]:=fun K=>
  built fI64 K rfl rfl rfl (fun x hx=>by
   rcases List.mem_cons.1 hx with rfl | hx
   ·exact cmpI_ok _ _
   ·rw[List.mem_singleton.1 hx];exact cmpI_ok _ _)
 refine dcall (or_c (ha _) (Nat.le_of_ble_eq_true rfl)) ?_
 rw[keyCmp_or]
 simp -implicitDefEqProofs (disch:=first|omega|simp only[go_sem]) only[go_sem,Nat.reduceAdd]
 refine ⟨⟨XSt1_at (i:=6) (j:=4) rfl rfl rfl ?_,XSt1_at (i:=8) (j:=4) rfl rfl rfl ?_,trivial⟩,_,rfl,rfl,((Ext.push1 _ _).push _).push _⟩
 ·rw[if_pos (by decide)]
  refine Ld_on (p:=.pointer (some ⟨h.next,1,none⟩)) ?_ ?_ (ld_2.trans cellAt_p1)
  ·simp -implicitDefEqProofs (disch:=first|omega|simp only[go_sem]) only[go_sem]
  ·simp -implicitDefEqProofs (disch:=first|omega|simp only[go_sem]) only[go_sem]
 ·rw[if_pos (by decide)]
  refine Ld_on (p:=.pointer (some ⟨_,1,none⟩)) ?_ ?_ (ld_2.trans cellAt_p0)
  ·simp -implicitDefEqProofs (disch:=first|omega|simp only[go_sem]) only[go_sem]
  ·simp -implicitDefEqProofs (disch:=first|omega|simp only[go_sem]) only[go_sem]
def risesB {α:Type} (lt:α→α→Bool):List α→Bool
 | a :: b :: l=>lt a b&&risesB lt (b :: l)
 | _=>true
theorem risesB_short {α:Type} {lt:α→α→Bool}:∀ {l:List α},l.length≤1→risesB lt l=true
 | [],_=>rfl
 | [_],_=>rfl
 | _ :: _ :: _,h=>by simp at h
theorem risesB_two {α:Type} {lt:α→α→Bool} {l:List α} {j:Nat} (h:j+1<l.length):risesB lt (l.drop j)=(lt l[j] l[j+1]&&risesB lt (l.drop (j+1))):=by
 rw[List.drop_eq_getElem_cons (show j<l.length by omega),List.drop_eq_getElem_cons h,risesB]
end Go.Proofs.Ythjmkmoiopmfcaa

namespace Go.Proofs.Ythjmkmoiopmfcaa
open Go.D
set_option maxRecDepth 100000
end Go.Proofs.Ythjmkmoiopmfcaa

namespace Go.Proofs.Ythjmkmoiopmfcaa
open Go.D
set_option maxRecDepth 100000
end Go.Proofs.Ythjmkmoiopmfcaa

namespace Go.Proofs.Ythjmkmoiopmfcaa
open Go.D
set_option maxRecDepth 100000
end Go.Proofs.Ythjmkmoiopmfcaa

namespace Go.Proofs.Ythjmkmoiopmfcaa
open Go.D
set_option maxRecDepth 100000
theorem fld_key:fldsOf Try.prog 44=some [(21,0),(2,1)]:=by kernel_rfl
theorem und_i32:Try.prog.underlying 21=some (.int .i32):=by kernel_rfl
theorem und_i64:Try.prog.underlying 2=some (.int .i64):=by kernel_rfl
theorem grd_key:Try.prog.eqGuardType Try.prog.depth 44=false:=by kernel_rfl
theorem Key.ext_iff' {a b:Key}:a=b↔a.t=b.t∧a.r=b.r:=by cases a;cases b;simp
theorem Cell.ext_iff' {a b:Cell}:a=b↔a.k=b.k∧a.v=b.v∧a.s=b.s:=by cases a;cases b;simp
theorem key_eq (d:Nat) (a b:Key):quick Try.prog (Op.equalIn (d+1+1) 44 (keyV a) (keyV b))=some (.inr (decide (a=b))):=by
 refine quick_struct fld_key ⟨_,_,_,_,quick_part_one one_21 rfl,quick_part_one one_21 rfl,quick_int und_i32,⟨_,_,_,_,quick_part_one one_2 rfl,quick_part_one one_2 rfl,quick_int und_i64,rfl,rfl⟩,?_⟩
 rw[decide_eq_decide.2 Key.ext_iff',Bool.decide_and,Bool.and_true]
 rfl
theorem bin_key {a b:Key} {h:DHeap} {ox oy:Operand}:dBinOp Try.prog .neq 44 ox oy (keyV a) (keyV b) h=.ok (.value (.bool (!decide (a=b)))) h:=(bin_agg rfl rfl grd_key (key_eq 9998 a b)).2
theorem bin_key' {a b:Key} {h:DHeap} {ox oy:Operand}:dBinOp Try.prog .eql 44 ox oy (keyV a) (keyV b) h=.ok (.value (.bool (decide (a=b)))) h:=(bin_agg rfl rfl grd_key (key_eq 9998 a b)).1
def sameL {α:Type} (eq:α→α→Bool):List α→List α→Bool
 | [],[]=>true
 | a :: l,b :: m=>eq a b&&sameL eq l m
 | _,_=>false
theorem sameL_len {α:Type} {eq:α→α→Bool}:∀ {l m:List α},l.length≠m.length→sameL eq l m=false
 | [],[],h=>by simp at h
 | [],_ :: _,_=>rfl
 | _ :: _,[],_=>rfl
 | a :: l,b :: m,h=>by
   simp only[sameL]
   rw[sameL_len (l:=l) (m:=m) (by simpa using h),Bool.and_false]
theorem sameL_drop {α:Type} {eq:α→α→Bool} {l m:List α} {i:Nat} (hl:i<l.length) (hm:i<m.length):sameL eq (l.drop i) (m.drop i)=(eq l[i] m[i]&&sameL eq (l.drop (i+1)) (m.drop (i+1))):=by
 rw[List.drop_eq_getElem_cons hl,List.drop_eq_getElem_cons hm,sameL]
theorem sameL_end {α:Type} {eq:α→α→Bool} {l m:List α} (h:l.length=m.length):sameL eq (l.drop l.length) (m.drop l.length)=true:=by
 rw[List.drop_length,h,List.drop_length];rfl
end Go.Proofs.Ythjmkmoiopmfcaa

namespace Go.Proofs.Ythjmkmoiopmfcaa
open Go.D
set_option maxRecDepth 100000
end Go.Proofs.Ythjmkmoiopmfcaa

namespace Go.Proofs.Ythjmkmoiopmfcaa
open Go.D
set_option maxRecDepth 100000
end Go.Proofs.Ythjmkmoiopmfcaa

namespace Go.Proofs.Ythjmkmoiopmfcaa
open Go.D
set_option maxRecDepth 100000
end Go.Proofs.Ythjmkmoiopmfcaa

namespace Go.Proofs.Ythjmkmoiopmfcaa
open Go.D
set_option maxRecDepth 100000
theorem Sl.upto {S:Nat→Prop} {h h1:DHeap} {b:Value} {l:List Int} (hb:Sl fU8.rep S h b l) (e:∀ i,S i→h1.get i=h.get i):Sl fU8.rep S h1 b l:=hb.keep e
end Go.Proofs.Ythjmkmoiopmfcaa

namespace Go.Proofs.Ythjmkmoiopmfcaa
open Go.D
set_option maxRecDepth 100000
theorem eqInts_c {h:DHeap} {a b:Value} {l m:List Int} (ha:Arg fI64.rep h a l) (hb:Arg fI64.rep h b m) (hlen:l.length≤4294967296) :
 DC Try.prog 37 [a,b] h (.ret (.bool (sameL (fun a b:Int=>decide (a=b)) l m))) h:=by
 refine Ct.pure (go_37 (by simp) ?_) (vin_bool _)
 have ea:=ha.lens (P:=Try.prog) (ts:=#[23]) (t:=23) rfl isl_23
 have eb:=hb.lens (P:=Try.prog) (ts:=#[23]) (t:=23) rfl isl_23
 by_cases hl:l.length=m.length
 case neg=>
  have hli:¬ ((l.length:Nat):Int)=(m.length:Nat):=by omega
  simp -implicitDefEqProofs (disch:=first|omega|simp only[go_sem]) only[go_sem,true_and,c37,ea,eb,hli]
  exact ⟨_,rfl,by rw[sameL_len hl],.refl h⟩
 have hli:((l.length:Nat):Int)=(m.length:Nat):=by omega
 simp -implicitDefEqProofs (disch:=first|omega|simp only[go_sem]) only[go_sem,true_and,c37,ea,eb,hli]
 refine xloop (σ:=Nat) (by kernel_rfl) (fun i s=>s.df=[]∧s.h=h∧s.fr 0=some a∧s.fr 1=some b∧s.fr 12=some (.int .i64 (l.length:Nat))∧s.fr 13=some (.int .i64 (i:Nat))∧i≤l.length∧sameL (fun a b:Int=>decide (a=b)) (l.drop i) (m.drop i)=sameL (fun a b:Int=>decide (a=b)) l m) (fun i=>l.length - i) 0 ?_ ?_
 ·simp -implicitDefEqProofs (disch:=first|omega|simp only[go_sem]) only[go_sem,true_and,hli]
  exact ⟨rfl,Nat.zero_le _,by rw[List.drop_zero,List.drop_zero]⟩
 ·rintro i ⟨fr,df,hh,rd⟩ K hK hX ⟨rfl,rfl,f0,f1,f12,f13,hi,ho⟩
  simp only at f0 f1 f12 f13
  simp -implicitDefEqProofs (disch:=first|omega|simp only[go_sem]) only[go_sem,true_and,f0,f1,f12,f13]
  refine XIf_dec (fun hc1=>?_) (fun hc1=>?_)
  ·have hj:i<l.length:=by omega
   have hk:i<m.length:=by omega
   obtain ⟨id1,o1,e1,_,hat1⟩:=ha.idx (P:=Try.prog) (t:=23) el_23 (k:=.i64) (i:=i) (x:=l[i]) (by simp)
   obtain ⟨id2,o2,e2,_,hat2⟩:=hb.idx (P:=Try.prog) (t:=23) el_23 (k:=.i64) (i:=i) (x:=m[i]) (by simp)
   have hw:=wrap_succ hj (by omega)
   have l1:=hat1.int
   have l2:=hat2.int
   rw[sameL_drop hj hk]at ho
   simp -implicitDefEqProofs (disch:=first|omega|simp only[go_sem]) only[go_sem,true_and,f13]
   refine dr_37_0 ?_
   by_cases hlt:l[i]=m[i]
   ·rw[decide_eq_true hlt,Bool.true_and]at ho
    simp -implicitDefEqProofs (disch:=first|omega|simp only[go_sem]) only[go_sem,true_and,l37_0,f0,f1,f13,e1,e2,l1,l2, hlt,hw]
    refine hK (i+1) _ ?_ (by omega)
    exact ⟨by trivial,by trivial,(vy f0),(vy f1),(vy f12),vz,by omega,ho⟩
   ·rw[decide_eq_false hlt,Bool.false_and]at ho
    simp -implicitDefEqProofs (disch:=first|omega|simp only[go_sem]) only[go_sem,true_and,l37_0,f0,f1,f13,e1,e2,l1,l2, hlt]
    refine hX _ _ (by simp) ?_
    simp -implicitDefEqProofs (disch:=first|omega|simp only[go_sem]) only[go_sem,true_and]
    exact ⟨_,rfl,by rw[← ho],.refl hh⟩
  ·obtain rfl:i=l.length:=by omega
   refine hX _ _ (by simp) ?_
   simp -implicitDefEqProofs (disch:=first|omega|simp only[go_sem]) only[go_sem,true_and]
   exact ⟨_,rfl,by rw[← ho,sameL_end hl],.refl hh⟩
end Go.Proofs.Ythjmkmoiopmfcaa

namespace Go.Proofs.Ythjmkmoiopmfcaa
open Go.D
set_option maxRecDepth 100000
end Go.Proofs.Ythjmkmoiopmfcaa

namespace Go.Proofs.Ythjmkmoiopmfcaa
open Go.D
set_option maxRecDepth 100000
end Go.Proofs.Ythjmkmoiopmfcaa

namespace Go.Proofs.Ythjmkmoiopmfcaa
open Go.D
set_option maxRecDepth 100000
def firstB (n:Int):Bool:=!decide (n=0)&&(!decide (n=6)&&(!decide (n=22)&&!decide (n=25)))
def twoB (n:Int):Bool:=decide (7≤n)&&decide (n≤18)||(decide (n=20)||(decide (n=21)||(decide (n=26)||decide (n=27))))
def jumpsB (n:Int):Bool:=decide (n=22)||decide (n=23)
def sizeI (n:Int):Int:=if n=0 then 1 else if n=6∨n=24∨n=25 then 2 else if n=2∨n=3∨n=4∨n=5∨n=19∨n=22 then 3 else if n=1∨n=23∨n=26∨n=27 then 4 else if 7≤n∧n≤21 then 3 else 0
def wideI (n:Int):Int:=sizeI n - 1 - (if firstB n then 1 else 0) - (if twoB n then 1 else 0)
theorem sizeI_le (n:Int):0≤sizeI n∧sizeI n≤4:=by
 unfold sizeI
 repeat' split
 all_goals omega
def indexE (x:Instr):Int:=
 if firstB x.op&&(decide (x.a<0)||decide (8≤x.a))||twoB x.op&&(decide (x.b<0)||decide (8≤x.b)) then 132
 else if decide (x.op=19)&&(!decide (x.imm=8)&&(!decide (x.imm=16)&&!decide (x.imm=32))) then 132 else 0
end Go.Proofs.Ythjmkmoiopmfcaa

namespace Go.Proofs.Ythjmkmoiopmfcaa
open Go.D
set_option maxRecDepth 100000
abbrev zeroInstr:Instr:=⟨0,0,0,0,0⟩
def immW (op w x y:Int):Int:=if w=2 then (if op=1∧32768≤x+256*y then x+256*y - 65536 else x+256*y) else if 1≤w then x else 0
def oneI (l:List Int) (i:Nat):Instr:=
 let op:=l.getD i 0
 let k2:=i+1+if firstB op then 1 else 0
 let k3:=k2+if twoB op then 1 else 0
 ⟨i,op,if firstB op then l.getD (i+1) 0 else 0,if twoB op then l.getD k2 0 else 0,immW op (wideI op) (l.getD k3 0) (l.getD (k3+1) 0)⟩
def oneT (l:List Int) (i:Nat):Instr × Int × Int:=
 if l.length≤i then (zeroInstr,0,130)
 else if sizeI (l.getD i 0)=0∨(l.length:Int) - i<sizeI (l.getD i 0) then (zeroInstr,0,130)
 else if indexE (oneI l i)=0 then (oneI l i,i+sizeI (l.getD i 0),0) else (zeroInstr,0,indexE (oneI l i))
theorem byte_at {h:DHeap} {v:Value} {l:List Int} (hb:Arg fU8.rep h v l) {i:Nat} (hi:i<l.length) :
 ∃ id o,dIndexAddr Try.prog 22 v (.int .i64 (i:Nat))=some (.pointer (some ⟨id,o,none⟩))∧(∀ K,Ext h K→cellAt K id o=some (.int .u8 (l.getD i 0)))∧0≤l.getD i 0∧l.getD i 0≤255:=by
 have hx:l[i]? = some l[i]:=List.getElem?_eq_getElem hi
 have hgd:l.getD i 0=l[i]:=by rw[List.getD_eq_getElem?_getD,hx];rfl
 obtain ⟨id,o,e1,hid,hat⟩:=hb.idx (P:=Try.prog) (t:=22) el_22 (k:=.i64) hx
 have hok:=inK_u8.1 (hb.ok _ (List.getElem_mem hi))
 refine ⟨id,o,e1,fun K e=>?_,by rw[hgd];exact hok.1,by rw[hgd];exact hok.2⟩
 have:=(hat.flat).1 0 (by decide)
 rw[Nat.add_zero]at this
 unfold cellAt at this ⊢
 rw[e.get _ hid,hgd]
 exact this
theorem size_split {n:Int} (h:sizeI n≠0):0≤wideI n∧wideI n≤2∧0≤n∧n<28:=by
 have h1:0≤n∧n<28:=by
  unfold sizeI at h
  repeat' split at h
  all_goals omega
 obtain ⟨k,rfl⟩:∃ k:Nat,n=k:=⟨n.toNat,by omega⟩
 have:∀ k:Nat,k<28→0≤wideI k∧wideI k≤2:=by decide
 have:=this k (by omega)
 omega
theorem res_i {fr:Fr} {K:DHeap} {a b c id:Nat} {x:Instr} {n e:Int} (f2:fr a=some (.pointer (some ⟨id,0,none⟩))) (f3:fr b=some (.int .i64 n)) (f4:fr c=some (.int .i64 e)) (hk:K.get id=some (.row (fInstr.enc x) 0 false)) :
 dResults Try.prog [.cell a 83,.tmp b,.tmp c] fr K=some (.tuple #[instrV x,.int .i64 n,.int .i64 e]):=by
 rw[dResults_d3,dRes1_cell,f2,dResC_some,dRes1_tmp,dRes1_tmp,f3,f4]
 have e1:dLoad Try.prog 83 (.pointer (some ⟨id,0,none⟩)) K=some (instrV x):=ld_83.trans (by rw[cellsAt_row hk (Nat.le_of_ble_eq_true rfl)];rfl)
 rw[e1]
 rfl
theorem bd_instr0:dBuild Try.prog 83 []=some (instrV zeroInstr):=dBuild_at plc_83 rfl
theorem bd_instr2 {p o:Int}:dBuild Try.prog 83 [(0,.int .i64 p),(1,.int .i64 o)]=some (instrV ⟨p,o,0,0,0⟩):=dBuild_at plc_83 rfl
theorem vin_one {S:Nat→Prop} {x:Instr} {n e:Int}:VIn S (.tuple #[instrV x,.int .i64 n,.int .i64 e]):=by
 refine .tuple fun v hv=>?_
 simp only[List.mem_toArray,List.mem_cons,List.not_mem_nil,or_false]at hv
 rcases hv with rfl | rfl | rfl
 ·exact .agg fun v hv=>by
   simp only[List.mem_toArray,List.mem_cons,List.not_mem_nil,or_false]at hv
   rcases hv with rfl | rfl | rfl | rfl | rfl <;> exact .int _ _
 ·exact .int _ _
 ·exact .int _ _
theorem store5_push {h:DHeap} {z:Nat} {a b c d e a' b' c' d' e':Value} (hv:[a,b,c,d,e].all Value.oneCell'=true):storeAt (h.push (.row [a',b',c',d',e'] z false)) h.next 0 [a,b,c,d,e]=some (h.push (.row [a,b,c,d,e] z false)):=storeAll_push rfl hv
end Go.Proofs.Ythjmkmoiopmfcaa

namespace Go.Proofs.Ythjmkmoiopmfcaa
open Go.D
set_option maxRecDepth 100000
def formL:List Int:=[0,9,5,5,5,5,4,3,3,3,3,3,3,3,3,3,3,3,3,5,3,3,16,17,1,4,7,7]
def andI (a b:Int):Int:=IntKind.i64.wrap (BitVec.ofInt IntKind.i64.bits a &&& BitVec.ofInt IntKind.i64.bits b).toNat
theorem bin_andI {P:Program} {t:TypeId} {ox oy:Operand} {a b:Int} {h:DHeap}:dBinOp P .and t ox oy (.int .i64 a) (.int .i64 b) h=.ok (.value (.int .i64 (andI a b))) h:=bin_and
theorem ar_form:arrElem Try.prog 153=some (28,1):=by kernel_rfl
theorem ar_pair:arrElem Try.prog 151=some (2,1):=by kernel_rfl
theorem vin_nb {S:Nat→Prop} {n:Int} {b:Bool}:VIn S (.tuple #[.int .i64 n,.bool b]):=by
 refine .tuple fun v hv=>?_
 simp only[List.mem_toArray,List.mem_cons,List.not_mem_nil,or_false]at hv
 rcases hv with rfl | rfl
 ·exact .int _ _
 ·exact .bool _
abbrev formV:List Value:=formL.map (.int .i64 ·)
theorem bd_form:dBuild Try.prog 153 [(0,.int .i64 0),(1,.int .i64 9),(2,.int .i64 5),(3,.int .i64 5),(4,.int .i64 5),(5,.int .i64 5),(6,.int .i64 4),(7,.int .i64 3),(8,.int .i64 3),(9,.int .i64 3),(10,.int .i64 3),(11,.int .i64 3),(12,.int .i64 3),(13,.int .i64 3),(14,.int .i64 3),(15,.int .i64 3),(16,.int .i64 3),(17,.int .i64 3),(18,.int .i64 3),(19,.int .i64 5),(20,.int .i64 3),(21,.int .i64 3),(22,.int .i64 16),(23,.int .i64 17),(24,.int .i64 1),(25,.int .i64 4),(26,.int .i64 7),(27,.int .i64 7)]=some (.agg formV.toArray):=by kernel_rfl
theorem form_c {h:DHeap} {n:Nat}:DC Try.prog 94 [.int .i64 (n:Nat)] h (.ret (.tuple #[.int .i64 (formL.getD n 0),.bool (decide (n<28))])) h:=by
 refine Ct.pure (go_94 (by simp) ?_) vin_nb
 have hst:∀ cs:List Value,cs.length=28→storeAt (h.push (.row cs 1 false)) h.next 0 formV=some (h.push (.row formV 1 false)):=fun cs hl=>storeAll_push (by rw[hl];rfl) rfl
 have hs:∀ K,dStore Try.prog 153 (.pointer (some ⟨h.next,0,none⟩)) (.agg formV.toArray) K=storeAt K h.next 0 formV:=fun K=>st_153 rfl
 have hc:∀ o,cellAt (h.push (.row formV 1 false)) h.next o=formV[o]?:=fun o=>cellAt_row (get_push_same _ _)
 have hneg:¬ ((n:Nat):Int)<0:=by omega
 by_cases hn:(28:Int)≤(n:Nat)
 ·have hn':=eq_true hn
  simp -implicitDefEqProofs (disch:=first|omega|simp only[go_sem]) only[go_sem,true_and,c94,bd_form,hs,hst,hneg,hn',dPick_t,dPick_f]
  refine ⟨_,rfl,?_,Ext.push1 _ _⟩
  rw[decide_eq_false (by omega),List.getD_eq_getElem?_getD,List.getElem?_eq_none (by simp[formL];omega)]
  rfl
 ·have hia:dIndexAddr Try.prog 153 (.pointer (some ⟨h.next,0,none⟩)) (.int .i64 (n:Nat))=some (.pointer (some ⟨h.next,n,none⟩)):=by
   rw[dIndexAddr_arr ar_form (by omega) (by omega)]
   simp
  have hl:formV[n]? = some (.int .i64 (formL.getD n 0)):=by
   have h28:n<formL.length:=by simp[formL];omega
   rw[List.getElem?_map,List.getElem?_eq_getElem h28,List.getD_eq_getElem?_getD,List.getElem?_eq_getElem h28]
   rfl
  simp -implicitDefEqProofs (disch:=first|omega|simp only[go_sem]) only[go_sem,true_and,c94,bd_form,hs,hst,hneg,hn,dPick_t,dPick_f,hia,hc,hl]
  refine ⟨_,rfl,?_,Ext.push1 _ _⟩
  rw[decide_eq_true (by omega)]
def masks:List (Int × Int):=[(1,1),(2,1),(4,1),(8,2),(16,2)]
def sizeUp (f:Int) (l:List (Int × Int)):Int:=l.foldl (fun n x=>if andI f x.1=0 then n else n+x.2) 1
theorem pairAt:∀ i:Nat,i<5→dIndex Try.prog 152 (.agg #[.int .i64 1,.int .i64 1,.int .i64 2,.int .i64 1,.int .i64 4,.int .i64 1,.int .i64 8,.int .i64 2,.int .i64 16,.int .i64 2]) (.int .i64 (i:Nat))=some (.agg #[.int .i64 (masks.getD i (0,0)).1,.int .i64 (masks.getD i (0,0)).2])
 | 0,_=>by kernel_rfl
 | 1,_=>by kernel_rfl
 | 2,_=>by kernel_rfl
 | 3,_=>by kernel_rfl
 | 4,_=>by kernel_rfl
theorem bd_pair {a b:Int}:dBuild Try.prog 151 [(0,.int .i64 a),(1,.int .i64 b)]=some (.agg #[.int .i64 a,.int .i64 b]):=by kernel_rfl
theorem bd_pairs:dBuild Try.prog 152 [(0,.agg #[.int .i64 1,.int .i64 1]),(1,.agg #[.int .i64 2,.int .i64 1]),(2,.agg #[.int .i64 4,.int .i64 1]),(3,.agg #[.int .i64 8,.int .i64 2]),(4,.agg #[.int .i64 16,.int .i64 2])]=some (.agg #[.int .i64 1,.int .i64 1,.int .i64 2,.int .i64 1,.int .i64 4,.int .i64 1,.int .i64 8,.int .i64 2,.int .i64 16,.int .i64 2]):=by kernel_rfl
theorem ia_pair {id k:Nat} (hk:k<2):dIndexAddr Try.prog 151 (.pointer (some ⟨id,0,none⟩)) (.int .i64 (k:Nat))=some (.pointer (some ⟨id,k,none⟩)):=by
 rw[dIndexAddr_arr ar_pair (by omega) (by omega)]
 simp
theorem sizeUp_succ {f:Int} {i:Nat} (hi:i<5):sizeUp f (masks.take (i+1))=if andI f (masks.getD i (0,0)).1=0 then sizeUp f (masks.take i) else sizeUp f (masks.take i)+(masks.getD i (0,0)).2:=by
 unfold sizeUp
 have hl:i<masks.length:=hi
 rw[List.take_succ_eq_append_getElem hl,List.foldl_append,List.getD_eq_getElem?_getD,List.getElem?_eq_getElem hl]
 rfl
theorem sizeUp_le (f:Int) (i:Nat):1≤sizeUp f (masks.take i)∧sizeUp f (masks.take i)≤8:=by
 match i with
 | 0=>simp[sizeUp]
 | 1=>simp[sizeUp,masks];split <;> omega
 | 2=>simp[sizeUp,masks];repeat' split
      all_goals omega
 | 3=>simp[sizeUp,masks];repeat' split
      all_goals omega
 | 4=>simp[sizeUp,masks];repeat' split
      all_goals omega
 | i+5=>simp[sizeUp,masks];repeat' split
        all_goals omega
def sizeC (n:Nat):Int:=if n<28 then sizeUp (formL.getD n 0) masks else 0
theorem size_c {h:DHeap} {n:Nat}:DC Try.prog 93 [.int .i64 (n:Nat)] h (.ret (.tuple #[.int .i64 (sizeC n),.bool (decide (n<28))])) h:=by
 refine Ct.pure (go_93 (by simp) ?_) vin_nb
 simp -implicitDefEqProofs (disch:=first|omega|simp only[go_sem]) only[go_sem,true_and,c93]
 refine ncall form_c ?_
 by_cases hn:n<28
 case neg=>
  have hd:=decide_eq_false hn
  simp -implicitDefEqProofs (disch:=first|omega|simp only[go_sem]) only[go_sem,true_and,hd]
  exact ⟨_,rfl,by simp[sizeC,hn],.refl _⟩
 have hd:=decide_eq_true hn
 obtain ⟨f,hf⟩:∃ f,formL.getD n 0=f:=⟨_,rfl⟩
 rw[hf]
 simp -implicitDefEqProofs (disch:=first|omega|simp only[go_sem]) only[go_sem,true_and,hd,bd_pair,bd_pairs]
 refine xloop (σ:=Nat) (by kernel_rfl) (fun i s=>s.df=[]∧s.fr 4=some (.int .i64 f)∧s.fr 6=some (.int .i64 (sizeUp f (masks.take i)))∧s.fr 21=some (.agg #[.int .i64 1,.int .i64 1,.int .i64 2,.int .i64 1,.int .i64 4,.int .i64 1,.int .i64 8,.int .i64 2,.int .i64 16,.int .i64 2])∧s.fr 22=some (.int .i64 (i:Nat))∧i≤5∧Ext h s.h) (fun i=>5 - i) 0 ?_ ?_
 ·simp -implicitDefEqProofs (disch:=first|omega|simp only[go_sem]) only[go_sem,true_and]
  exact ⟨rfl,rfl,Nat.zero_le _,.refl _⟩
 ·rintro i ⟨fr,df,K,rd⟩ K' hK' hX ⟨rfl,f4,f6,f21,f22,hi,hE⟩
  simp only at f4 f6 f21 f22 hE
  simp -implicitDefEqProofs (disch:=first|omega|simp only[go_sem]) only[go_sem,true_and,f22]
  refine XIf_dec (fun hc1=>?_) (fun hc1=>?_)
  ·have hi5:i<5:=by omega
   have hx:=pairAt i hi5
   have hsu:=sizeUp_succ (f:=f) hi5
   have hle:=sizeUp_le f i
   have hle2:=sizeUp_le f (i+1)
   obtain ⟨a,ha⟩:∃ a,(masks.getD i (0,0)).1=a:=⟨_,rfl⟩
   obtain ⟨b,hb⟩:∃ b,(masks.getD i (0,0)).2=b:=⟨_,rfl⟩
   rw[ha,hb]at hx hsu
   obtain ⟨K1,hK1⟩:∃ K1,K1=K.push (.row [.int .i64 a,.int .i64 b] 1 false):=⟨_,rfl⟩
   have g:K1.get K.next=some (.row [.int .i64 a,.int .i64 b] 1 false):=by rw[hK1];exact get_push_same _ _
   have c0:cellAt K1 K.next 0=some (.int .i64 a):=cellAt_row g
   have c1:cellAt K1 K.next 1=some (.int .i64 b):=cellAt_row g
   have hst:storeAt (K.push (.row [.int .i64 0,.int .i64 0] 1 false)) K.next 0 [.int .i64 a,.int .i64 b]=some K1:=by rw[hK1];exact storeAll_push rfl rfl
   have i0:dIndexAddr Try.prog 151 (.pointer (some ⟨K.next,0,none⟩)) (.int .i64 0)=some (.pointer (some ⟨K.next,0,none⟩)):=ia_pair (id:=K.next) (k:=0) (by decide)
   have i1:dIndexAddr Try.prog 151 (.pointer (some ⟨K.next,0,none⟩)) (.int .i64 1)=some (.pointer (some ⟨K.next,1,none⟩)):=ia_pair (id:=K.next) (k:=1) (by decide)
   have hE1:Ext h K1:=by rw[hK1];exact hE.push _
   have hw1:=wrap_succ hi5 (by omega)
   simp -implicitDefEqProofs (disch:=first|omega|simp only[go_sem]) only[go_sem,true_and,f21,f22,hx,hst,f4,i0,c0,↓bin_andI]
   by_cases hz:andI f a=0
   ·have hz':=eq_true hz
    rw[if_pos hz]at hsu
    simp -implicitDefEqProofs (disch:=first|omega|simp only[go_sem]) only[go_sem,true_and,hz',f22,hw1]
    refine hK' (i+1) _ ?_ (by omega)
    exact ⟨by trivial,(vy f4),by rw[hsu];simp -implicitDefEqProofs (disch:=first|omega|simp only[go_sem]) only[go_sem,true_and,f6],(vy f21),vz,by omega,hE1⟩
   ·rw[if_neg hz]at hsu
    have hwz:IntKind.i64.wrap (sizeUp f (masks.take i)+b)=sizeUp f (masks.take (i+1)):=by rw[← hsu];exact wrap_i64_in (by omega) (by omega)
    simp -implicitDefEqProofs (disch:=first|omega|simp only[go_sem]) only[go_sem,true_and,hz,f22,f6,hw1,i1,c1,hwz]
    refine hK' (i+1) _ ?_ (by omega)
    exact ⟨by trivial,(vy f4),vz,(vy f21),vz,by omega,hE1⟩
  ·obtain rfl:i=5:=by omega
   refine hX _ _ (by simp) ?_
   simp -implicitDefEqProofs (disch:=first|omega|simp only[go_sem]) only[go_sem,true_and,f6]
   refine ⟨_,rfl,?_,hE⟩
   rw[sizeC,if_pos hn,hf]
   rfl
end Go.Proofs.Ythjmkmoiopmfcaa

namespace Go.Proofs.Ythjmkmoiopmfcaa
open Go.D
set_option maxRecDepth 100000
def indexB (x:Instr):Bool:=decide (0≤x.a)&&(decide (x.a<8)&&(decide (0≤x.b)&&(decide (x.b<8)&&(!decide (x.op=19)||(decide (x.imm=8)||(decide (x.imm=16)||decide (x.imm=32)))))))
theorem index_c {h:DHeap} {x:Instr}:DC Try.prog 95 [instrV x] h (.ret (.bool (indexB x))) h:=by
 obtain ⟨x1,x2,x3,x4,x5⟩:=x
 refine Ct.pure (go_95 (by simp) ?_) (vin_bool _)
 obtain ⟨H,hH⟩:∃ H,H=h.push (.row [.int .i64 x1,.int .i64 x2,.int .i64 x3,.int .i64 x4,.int .i64 x5] 0 false):=⟨_,rfl⟩
 have hE:Ext h H:=by rw[hH];exact Ext.push1 _ _
 have g:H.get h.next=some (.row [.int .i64 x1,.int .i64 x2,.int .i64 x3,.int .i64 x4,.int .i64 x5] 0 false):=by rw[hH];exact get_push_same _ _
 have a1:cellAt H h.next 1=some (.int .i64 x2):=cellAt_row g
 have a2:cellAt H h.next 2=some (.int .i64 x3):=cellAt_row g
 have a3:cellAt H h.next 3=some (.int .i64 x4):=cellAt_row g
 have a4:cellAt H h.next 4=some (.int .i64 x5):=cellAt_row g
 simp -implicitDefEqProofs (disch:=first|omega|simp only[go_sem]) only[go_sem,true_and,c95,← hH,a2]
 clear hH
 (repeat' first | (refine NStp_split (fun hb=>?_) (fun hb=>?_) <;> (try simp only[Bool.not_eq_true',Bool.not_eq_false']at hb) <;> simp -implicitDefEqProofs (disch:=first|omega|simp only[go_sem]) only[go_sem,true_and,dPick_t,dPick_f,hb,a1,a2,a3,a4]) | (refine XIf_split (fun hb=>?_) (fun hb=>?_) <;> (try simp only[Bool.not_eq_true',Bool.not_eq_false']at hb) <;> simp -implicitDefEqProofs (disch:=first|omega|simp only[go_sem]) only[go_sem,true_and,dPick_t,dPick_f,hb,a1,a2,a3,a4]))
 all_goals exact ⟨_,rfl,by simp_all [indexB] <;> omega,hE⟩
theorem dSlice_ext {P:Program} {t:TypeId} {α:Type} {R:Rep α} {h K:DHeap} {u:Value} {l:List α} {lo hi mx:Option Value} (hu:Arg R h u l) (e:Ext h K):dSlice P t u lo hi mx K=dSlice P t u lo hi mx h:=by
 rcases hu with ⟨rfl,rfl⟩ | ⟨id,o,c,cells,esz,ro,rfl,hid,_⟩
 ·cases hd:P.underlying t with
  | none=>simp only[dSlice,hd]
  | some d=>cases d <;> simp only[dSlice,hd]
 ·have hf:∀ z,rowFits K id z=rowFits h id z:=fun z=>by unfold rowFits;rw[e.get _ hid]
  cases hd:P.underlying t with
  | none=>simp only[dSlice,hd]
  | some d=>cases d <;> simp only[dSlice,hd,hf]
theorem rest_of {h:DHeap} {u:Value} {l:List Int} {k:Nat} (hu:Arg fU8.rep h u l) (hk:k≤l.length):∃ u',(∀ K,Ext h K→dSlice Try.prog 22 u (some (.int .i64 (k:Nat))) none none K=some u')∧Arg fU8.rep h u' (l.drop k):=by
 have hj:boundOf (none:Option Value) l.length l.length=some l.length:=rfl
 obtain ⟨u',e1,e2⟩:=hu.slice (P:=Try.prog) (t:=22) el_22 (by decide) hj (bound_nat (k:=.i64) hk) hk (Nat.le_refl _)
 rw[List.take_length]at e2
 exact ⟨u',fun K e=>(dSlice_ext hu e).trans e1,e2⟩
theorem part_of {h:DHeap} {u:Value} {l:List Int} {i j:Nat} (hu:Arg fU8.rep h u l) (hi:i≤j) (hj:j≤l.length):∃ u',(∀ K,Ext h K→dSlice Try.prog 22 u (some (.int .i64 (i:Nat))) (some (.int .i64 (j:Nat))) none K=some u')∧Arg fU8.rep h u' ((l.take j).drop i):=by
 obtain ⟨u',e1,e2⟩:=hu.slice (P:=Try.prog) (t:=22) el_22 (by decide) (bound_nat (k:=.i64) hj) (bound_nat (k:=.i64) hi) hi hj
 exact ⟨u',fun K e=>(dSlice_ext hu e).trans e1,e2⟩
theorem one_region0 {K0 K1:DHeap} {u u':Value} {id o B:Nat} {x:Int} {fr:Fr} {rd:Option Nat} (f9:fr 9=some (.pointer (some ⟨B,0,none⟩))) (f12:fr 12=some u)
 (h1:dIndexAddr Try.prog 22 u (.int .i64 0)=some (.pointer (some ⟨id,o,none⟩))) (c0:cellAt K0 id o=some (.int .u8 x)) (c1:cellAt K1 id o=some (.int .u8 x)) (hx:IntKind.i64.wrap x=x)
 (hs0:dSlice Try.prog 22 u (some (.int .i64 1)) none none K0=some u') (hs1:dSlice Try.prog 22 u (some (.int .i64 1)) none none K1=some u') (s0:storeAt K0 B 2 [.int .i64 x]=some K1) (s1:storeAt K1 B 2 [.int .i64 x]=some K1) :
 NC Try.prog 132 r81_0 (DThen (fun s=>s.df=[]∧s.rd=rd∧s.h=K1∧s.fr 12=some u'∧s.fr 0=fr 0∧s.fr 1=fr 1∧s.fr 4=fr 4∧s.fr 7=fr 7∧s.fr 9=fr 9∧s.fr 10=fr 10) (fun _ _=>False)) ⟨fr,[],K0,rd⟩:=by
 refine NC.regs (l:=l81_0) (by kernel_rfl) (by kernel_rfl) (by kernel_rfl) rfl (by kernel_rfl) (by kernel_rfl) (fun a b=>b=a∨b=K1) (fun _=>.inl rfl) (fun a b c h g=>?_) (fun i h v=>(i=7→h=K1)∧(i≠7→v=([u,.pointer (some ⟨id,o,none⟩),.int .u8 x,.int .i64 x,u,u',.pointer (some ⟨B,2,none⟩),undef,u']:List Value).getD i undef)) ?_ ?_
 ·rcases g with rfl | rfl
  ·exact h
  ·exact .inr rfl
 case refine_3=>
  rintro ⟨fr1,df1,K,rd1⟩ g hF
  obtain ⟨_,q7,_⟩:=(hF 7 (by decide)).fact
  have f8:=(hF 8 (by decide)).eq (d:=12) (c:=u') rfl fun _ _ e=>e.2 (by decide)
  exact ⟨g.df,g.rd,q7 rfl,f8,g.fr 0 (by kernel_rfl),g.fr 1 (by kernel_rfl),g.fr 4 (by kernel_rfl),g.fr 7 (by kernel_rfl),g.fr 9 (by kernel_rfl),g.fr 10 (by kernel_rfl)⟩
 intro i oo s ho g hpre hown hF
 have F9:s.fr 9=some (.pointer (some ⟨B,0,none⟩)):=(g.fr 9 (by kernel_rfl)).trans f9
 have hi':i<9:=(List.getElem?_eq_some_iff.1 ho).1
 have hh:s.h=K0∨s.h=K1:=g.ext
 have hc:cellAt s.h id o=some (.int .u8 x):=by rcases hh with e | e <;> rw[e] <;> assumption
 have hs:dSlice Try.prog 22 u (some (.int .i64 1)) none none s.h=some u':=by rcases hh with e | e <;> rw[e] <;> assumption
 match i,hi' with
 | 0,_=>
   simp only[l81_0,List.getElem?_cons_zero,List.getElem?_cons_succ,Option.some.injEq]at ho
   subst ho
   have F12:s.fr 12=some u:=(hpre 8 12 (by kernel_rfl) (by kernel_rfl)).trans f12
   exact reg_pure (v:=u) (fun _=>.inl rfl) vz (vy F12) ⟨fun e=>absurd e (by decide),fun _=>rfl⟩
 | 1,_=>
   simp only[l81_0,List.getElem?_cons_zero,List.getElem?_cons_succ,Option.some.injEq]at ho
   subst ho
   have f0:s.fr 65=some (u):=(hF 0 (by kernel_rfl)).eq rfl fun _ _ e=>e.2 (by decide)
   exact reg_pure (v:=.pointer (some ⟨id,o,none⟩)) (fun _=>.inl rfl) vz (by simp -implicitDefEqProofs (disch:=first|omega|simp only[go_sem]) only[go_sem,true_and,f0,h1]) ⟨fun e=>absurd e (by decide),fun _=>rfl⟩
 | 2,_=>
   simp only[l81_0,List.getElem?_cons_zero,List.getElem?_cons_succ,Option.some.injEq]at ho
   subst ho
   have f1:s.fr 66=some (.pointer (some ⟨id,o,none⟩)):=(hF 1 (by kernel_rfl)).eq rfl fun _ _ e=>e.2 (by decide)
   exact reg_pure (v:=.int .u8 x) (fun _=>.inl rfl) vz (by simp -implicitDefEqProofs (disch:=first|omega|simp only[go_sem]) only[go_sem,true_and,f1,hc]) ⟨fun e=>absurd e (by decide),fun _=>rfl⟩
 | 3,_=>
   simp only[l81_0,List.getElem?_cons_zero,List.getElem?_cons_succ,Option.some.injEq]at ho
   subst ho
   have f2:s.fr 67=some (.int .u8 x):=(hF 2 (by kernel_rfl)).eq rfl fun _ _ e=>e.2 (by decide)
   exact reg_pure (v:=.int .i64 x) (fun _=>.inl rfl) vz (by simp -implicitDefEqProofs (disch:=first|omega|simp only[go_sem]) only[go_sem,true_and,f2,hx]) ⟨fun e=>absurd e (by decide),fun _=>rfl⟩
 | 4,_=>
   simp only[l81_0,List.getElem?_cons_zero,List.getElem?_cons_succ,Option.some.injEq]at ho
   subst ho
   have F12:s.fr 12=some u:=(hpre 8 12 (by kernel_rfl) (by kernel_rfl)).trans f12
   exact reg_pure (v:=u) (fun _=>.inl rfl) vz (vy F12) ⟨fun e=>absurd e (by decide),fun _=>rfl⟩
 | 5,_=>
   simp only[l81_0,List.getElem?_cons_zero,List.getElem?_cons_succ,Option.some.injEq]at ho
   subst ho
   have f4:s.fr 69=some (u):=(hF 4 (by kernel_rfl)).eq rfl fun _ _ e=>e.2 (by decide)
   exact reg_pure (v:=u') (fun _=>.inl rfl) vz (by simp -implicitDefEqProofs (disch:=first|omega|simp only[go_sem]) only[go_sem,true_and,f4,hs]) ⟨fun e=>absurd e (by decide),fun _=>rfl⟩
 | 6,_=>
   simp only[l81_0,List.getElem?_cons_zero,List.getElem?_cons_succ,Option.some.injEq]at ho
   subst ho
   exact reg_pure (v:=.pointer (some ⟨B,2,none⟩)) (fun _=>.inl rfl) vz (vy F9) ⟨fun e=>absurd e (by decide),fun _=>rfl⟩
 | 7,_=>
   simp only[l81_0,List.getElem?_cons_zero,List.getElem?_cons_succ,Option.some.injEq]at ho
   subst ho
   have f3:s.fr 68=some (.int .i64 x):=(hF 3 (by kernel_rfl)).eq rfl fun _ _ e=>e.2 (by decide)
   have f6:s.fr 71=some (.pointer (some ⟨B,2,none⟩)):=(hF 6 (by kernel_rfl)).eq rfl fun _ _ e=>e.2 (by decide)
   have hst:storeAt s.h B 2 [.int .i64 x]=some K1:=by rcases hh with e | e <;> rw[e] <;> assumption
   exact reg_store (h':=K1) vz (by simp -implicitDefEqProofs (disch:=first|omega|simp only[go_sem]) only[go_sem,true_and,f3,f6,hst]) (.inr rfl) ⟨fun _=>rfl,fun e=>absurd rfl e⟩ fun j u hj hv=>⟨fun _=>rfl,hv.2⟩
 | 8,_=>
   simp only[l81_0,List.getElem?_cons_zero,List.getElem?_cons_succ,Option.some.injEq]at ho
   subst ho
   have f5:s.fr 70=some (u'):=(hF 5 (by kernel_rfl)).eq rfl fun _ _ e=>e.2 (by decide)
   exact reg_pure (v:=u') (fun _=>.inl rfl) vz (vy f5) ⟨fun e=>absurd e (by decide),fun _=>rfl⟩
theorem one_region1 {K0 K1:DHeap} {u u':Value} {id o B:Nat} {x:Int} {fr:Fr} {rd:Option Nat} (f9:fr 9=some (.pointer (some ⟨B,0,none⟩))) (f12:fr 12=some u)
 (h1:dIndexAddr Try.prog 22 u (.int .i64 0)=some (.pointer (some ⟨id,o,none⟩))) (c0:cellAt K0 id o=some (.int .u8 x)) (c1:cellAt K1 id o=some (.int .u8 x)) (hx:IntKind.i64.wrap x=x)
 (hs0:dSlice Try.prog 22 u (some (.int .i64 1)) none none K0=some u') (hs1:dSlice Try.prog 22 u (some (.int .i64 1)) none none K1=some u') (s0:storeAt K0 B 3 [.int .i64 x]=some K1) (s1:storeAt K1 B 3 [.int .i64 x]=some K1) :
 NC Try.prog 132 r81_1 (DThen (fun s=>s.df=[]∧s.rd=rd∧s.h=K1∧s.fr 12=some u'∧s.fr 0=fr 0∧s.fr 1=fr 1∧s.fr 4=fr 4∧s.fr 7=fr 7∧s.fr 9=fr 9∧s.fr 10=fr 10) (fun _ _=>False)) ⟨fr,[],K0,rd⟩:=by
 refine NC.regs (l:=l81_1) (by kernel_rfl) (by kernel_rfl) (by kernel_rfl) rfl (by kernel_rfl) (by kernel_rfl) (fun a b=>b=a∨b=K1) (fun _=>.inl rfl) (fun a b c h g=>?_) (fun i h v=>(i=7→h=K1)∧(i≠7→v=([u,.pointer (some ⟨id,o,none⟩),.int .u8 x,.int .i64 x,u,u',.pointer (some ⟨B,3,none⟩),undef,u']:List Value).getD i undef)) ?_ ?_
 ·rcases g with rfl | rfl
  ·exact h
  ·exact .inr rfl
 case refine_3=>
  rintro ⟨fr1,df1,K,rd1⟩ g hF
  obtain ⟨_,q7,_⟩:=(hF 7 (by decide)).fact
  have f8:=(hF 8 (by decide)).eq (d:=12) (c:=u') rfl fun _ _ e=>e.2 (by decide)
  exact ⟨g.df,g.rd,q7 rfl,f8,g.fr 0 (by kernel_rfl),g.fr 1 (by kernel_rfl),g.fr 4 (by kernel_rfl),g.fr 7 (by kernel_rfl),g.fr 9 (by kernel_rfl),g.fr 10 (by kernel_rfl)⟩
 intro i oo s ho g hpre hown hF
 have F9:s.fr 9=some (.pointer (some ⟨B,0,none⟩)):=(g.fr 9 (by kernel_rfl)).trans f9
 have hi':i<9:=(List.getElem?_eq_some_iff.1 ho).1
 have hh:s.h=K0∨s.h=K1:=g.ext
 have hc:cellAt s.h id o=some (.int .u8 x):=by rcases hh with e | e <;> rw[e] <;> assumption
 have hs:dSlice Try.prog 22 u (some (.int .i64 1)) none none s.h=some u':=by rcases hh with e | e <;> rw[e] <;> assumption
 match i,hi' with
 | 0,_=>
   simp only[l81_1,List.getElem?_cons_zero,List.getElem?_cons_succ,Option.some.injEq]at ho
   subst ho
   have F12:s.fr 12=some u:=(hpre 8 12 (by kernel_rfl) (by kernel_rfl)).trans f12
   exact reg_pure (v:=u) (fun _=>.inl rfl) vz (vy F12) ⟨fun e=>absurd e (by decide),fun _=>rfl⟩
 | 1,_=>
   simp only[l81_1,List.getElem?_cons_zero,List.getElem?_cons_succ,Option.some.injEq]at ho
   subst ho
   have f0:s.fr 75=some (u):=(hF 0 (by kernel_rfl)).eq rfl fun _ _ e=>e.2 (by decide)
   exact reg_pure (v:=.pointer (some ⟨id,o,none⟩)) (fun _=>.inl rfl) vz (by simp -implicitDefEqProofs (disch:=first|omega|simp only[go_sem]) only[go_sem,true_and,f0,h1]) ⟨fun e=>absurd e (by decide),fun _=>rfl⟩
 | 2,_=>
   simp only[l81_1,List.getElem?_cons_zero,List.getElem?_cons_succ,Option.some.injEq]at ho
   subst ho
   have f1:s.fr 76=some (.pointer (some ⟨id,o,none⟩)):=(hF 1 (by kernel_rfl)).eq rfl fun _ _ e=>e.2 (by decide)
   exact reg_pure (v:=.int .u8 x) (fun _=>.inl rfl) vz (by simp -implicitDefEqProofs (disch:=first|omega|simp only[go_sem]) only[go_sem,true_and,f1,hc]) ⟨fun e=>absurd e (by decide),fun _=>rfl⟩
 | 3,_=>
   simp only[l81_1,List.getElem?_cons_zero,List.getElem?_cons_succ,Option.some.injEq]at ho
   subst ho
   have f2:s.fr 77=some (.int .u8 x):=(hF 2 (by kernel_rfl)).eq rfl fun _ _ e=>e.2 (by decide)
   exact reg_pure (v:=.int .i64 x) (fun _=>.inl rfl) vz (by simp -implicitDefEqProofs (disch:=first|omega|simp only[go_sem]) only[go_sem,true_and,f2,hx]) ⟨fun e=>absurd e (by decide),fun _=>rfl⟩
 | 4,_=>
   simp only[l81_1,List.getElem?_cons_zero,List.getElem?_cons_succ,Option.some.injEq]at ho
   subst ho
   have F12:s.fr 12=some u:=(hpre 8 12 (by kernel_rfl) (by kernel_rfl)).trans f12
   exact reg_pure (v:=u) (fun _=>.inl rfl) vz (vy F12) ⟨fun e=>absurd e (by decide),fun _=>rfl⟩
 | 5,_=>
   simp only[l81_1,List.getElem?_cons_zero,List.getElem?_cons_succ,Option.some.injEq]at ho
   subst ho
   have f4:s.fr 79=some (u):=(hF 4 (by kernel_rfl)).eq rfl fun _ _ e=>e.2 (by decide)
   exact reg_pure (v:=u') (fun _=>.inl rfl) vz (by simp -implicitDefEqProofs (disch:=first|omega|simp only[go_sem]) only[go_sem,true_and,f4,hs]) ⟨fun e=>absurd e (by decide),fun _=>rfl⟩
 | 6,_=>
   simp only[l81_1,List.getElem?_cons_zero,List.getElem?_cons_succ,Option.some.injEq]at ho
   subst ho
   exact reg_pure (v:=.pointer (some ⟨B,3,none⟩)) (fun _=>.inl rfl) vz (vy F9) ⟨fun e=>absurd e (by decide),fun _=>rfl⟩
 | 7,_=>
   simp only[l81_1,List.getElem?_cons_zero,List.getElem?_cons_succ,Option.some.injEq]at ho
   subst ho
   have f3:s.fr 78=some (.int .i64 x):=(hF 3 (by kernel_rfl)).eq rfl fun _ _ e=>e.2 (by decide)
   have f6:s.fr 81=some (.pointer (some ⟨B,3,none⟩)):=(hF 6 (by kernel_rfl)).eq rfl fun _ _ e=>e.2 (by decide)
   have hst:storeAt s.h B 3 [.int .i64 x]=some K1:=by rcases hh with e | e <;> rw[e] <;> assumption
   exact reg_store (h':=K1) vz (by simp -implicitDefEqProofs (disch:=first|omega|simp only[go_sem]) only[go_sem,true_and,f3,f6,hst]) (.inr rfl) ⟨fun _=>rfl,fun e=>absurd rfl e⟩ fun j u hj hv=>⟨fun _=>rfl,hv.2⟩
 | 8,_=>
   simp only[l81_1,List.getElem?_cons_zero,List.getElem?_cons_succ,Option.some.injEq]at ho
   subst ho
   have f5:s.fr 80=some (u'):=(hF 5 (by kernel_rfl)).eq rfl fun _ _ e=>e.2 (by decide)
   exact reg_pure (v:=u') (fun _=>.inl rfl) vz (vy f5) ⟨fun e=>absurd e (by decide),fun _=>rfl⟩
end Go.Proofs.Ythjmkmoiopmfcaa

namespace Go.Proofs.Ythjmkmoiopmfcaa
open Go.D
set_option maxRecDepth 100000
theorem tables {n:Nat} (hn:n<28):sizeC n=sizeI n∧(andI (formL.getD n 0) 1=0↔firstB n=false)∧(andI (formL.getD n 0) 2=0↔twoB n=false)∧(andI (formL.getD n 0) 4=0↔wideI n≠1)∧(andI (formL.getD n 0) 8=0↔n≠1)∧(andI (formL.getD n 0) 16=0↔¬ (wideI n=2∧n≠1))∧(n=1→wideI n=2)∧sizeI n≠0:=by
 have:∀ n:Nat,n<28→sizeC n=sizeI n∧(andI (formL.getD n 0) 1=0↔firstB n=false)∧(andI (formL.getD n 0) 2=0↔twoB n=false)∧(andI (formL.getD n 0) 4=0↔wideI n≠1)∧(andI (formL.getD n 0) 8=0↔n≠1)∧(andI (formL.getD n 0) 16=0↔¬ (wideI n=2∧n≠1))∧(n=1→wideI n=2)∧sizeI n≠0:=by decide
 exact this n hn
theorem size_none {n:Int} (hn:28≤n):sizeI n=0:=by
 unfold sizeI
 repeat' split
 all_goals omega
theorem indexB_eq {l:List Int} {i:Nat} (hb:∀ j,0≤l.getD j 0):indexB (oneI l i)=decide (indexE (oneI l i)=0)∧(indexE (oneI l i)≠0→indexE (oneI l i)=132):=by
 have h1:=hb (i+1)
 have h2:=hb (i+1+if firstB (l.getD i 0) then 1 else 0)
 have e1:(oneI l i).a=if firstB (l.getD i 0) then l.getD (i+1) 0 else 0:=rfl
 have e2:(oneI l i).b=if twoB (l.getD i 0) then l.getD (i+1+if firstB (l.getD i 0) then 1 else 0) 0 else 0:=rfl
 have e3:(oneI l i).op=l.getD i 0:=rfl
 generalize oneI l i=x at e1 e2 e3 ⊢
 generalize l.getD (i+1+if firstB (l.getD i 0) then 1 else 0) 0=yb at h2 e2
 generalize l.getD (i+1) 0=ya at h1 e1
 rw[← e3]at e1 e2
 unfold indexB indexE
 cases hf:firstB x.op <;> cases ht:twoB x.op <;> rw[hf]at e1 <;> rw[ht]at e2 <;> simp only[Bool.false_eq_true,if_true,if_false]at e1 e2
 all_goals
  rw[e1,e2]
  constructor
  ·by_cases p19:x.op=19 <;> by_cases p8:x.imm=8 <;> by_cases p16:x.imm=16 <;> by_cases p32:x.imm=32 <;> by_cases q1:ya<8 <;> by_cases q2:yb<8 <;> simp[p19,p8,p16,p32,q1,q2,h1,h2,Int.not_lt.1,Int.not_le.2,Int.not_lt.2] <;> omega
  ·intro h
   split at h
   ·rw[if_pos (by assumption)]
   ·rw[if_neg (by assumption)]
    split at h
    ·rw[if_pos (by assumption)]
    ·exact absurd rfl h
theorem or16 {x y:Int} (hx:0≤x) (hx2:x≤255) (hy:0≤y) (hy2:y≤255) :
 IntKind.u16.wrap (((BitVec.ofInt 16 x ||| BitVec.ofInt 16 (IntKind.u16.wrap (y*256))).toNat:Nat):Int)=x+256*y:=by
 obtain ⟨m,rfl⟩:∃ m:Nat,y=m:=⟨y.toNat,by omega⟩
 obtain ⟨n,rfl⟩:∃ n:Nat,x=n:=⟨x.toNat,by omega⟩
 have h1:IntKind.u16.wrap ((m:Int)*256)=((m*256:Nat):Int):=by rw[wrap_in (inK_u16.2 ⟨by omega,by omega⟩)];omega
 rw[h1]
 have h3:(BitVec.ofInt 16 ((m*256:Nat):Int)).toNat=m*256:=by simp;omega
 have h4:(BitVec.ofInt 16 (n:Int)).toNat=n:=by simp;omega
 rw[BitVec.toNat_or,h3,h4]
 have h5:n ||| m*256=m*256+n:=by
  rw[Nat.or_comm,show m*256=m <<< 8 by rw[Nat.shiftLeft_eq]]
  exact (Nat.shiftLeft_add_eq_or_of_lt (by omega) m).symm
 rw[h5,wrap_in (inK_u16.2 ⟨by omega,by omega⟩)]
 omega
theorem wrap_i16 {n:Int} (h0:0≤n) (h1:n≤65535):IntKind.i16.wrap n=if 32768≤n then n - 65536 else n:=by
 have e:n % 2 ^ 16=n:=by omega
 simp only[IntKind.wrap,IntKind.signed,IntKind.bits,e]
 by_cases h2:32768≤n
 ·rw[if_pos h2,if_pos (by simpa using h2)]
  rfl
 ·rw[if_neg h2,if_neg (by simpa using h2)]
def orH (a b:Int):Int:=IntKind.u16.wrap (BitVec.ofInt IntKind.u16.bits a ||| BitVec.ofInt IntKind.u16.bits b).toNat
theorem bin_orH {P:Program} {t:TypeId} {ox oy:Operand} {a b:Int} {h:DHeap}:dBinOp P .or t ox oy (.int .u16 a) (.int .u16 b) h=.ok (.value (.int .u16 (orH a b))) h:=bin_or
theorem bin_shl8 {P:Program} {t:TypeId} {ox oy:Operand} {a:Int} {h:DHeap}:dBinOp P .shl t ox oy (.int .u16 a) (.int .u64 8) h=.ok (.value (.int .u16 (IntKind.u16.wrap (a*256)))) h:=bin_shl (by decide)
theorem orH_eq {x y:Int} (hx:0≤x) (hx2:x≤255) (hy:0≤y) (hy2:y≤255):orH x (IntKind.u16.wrap (y*256))=x+256*y:=or16 hx hx2 hy hy2
theorem XIf_cutB {P:Program} {nt id:Nat} {x y:Code} {K:St→Prop} {Q:DExit→St→Prop} {s:St} {t:Bool} (M:St→Prop) (h1:t=true→xs P nt x (DBlock id (DThen M Q)) s) (h2:t=false→xs P nt y (DBlock id (DThen M Q)) s) (h3:∀ s',M s'→K s') :
 XIf P nt x y (DBlock id (DThen K Q)) s (some (.bool t)):=⟨fun ht=>xblock_cut M (h1 ht) h3,fun ht=>xblock_cut M (h2 ht) h3⟩
def OnE (B:Nat) (H:DHeap) (i:Nat) (op:Int) (x:Instr) (s:St):Prop:=
 s.df=[]∧s.rd=none∧s.fr 1=some (.int .i64 (i:Nat))∧s.fr 4=some (.pointer (some ⟨B,0,none⟩))∧s.fr 7=some (.int .i64 (sizeI op))∧s.fr 9=some (.pointer (some ⟨H.next,0,none⟩))∧s.h=H.push (.row (fInstr.enc x) 0 false)
def OnM (B:Nat) (H:DHeap) (v:Value) (i:Nat) (op f a b imm:Int) (u:Value) (s:St):Prop:=
 s.df=[]∧s.rd=none∧s.fr 0=some v∧s.fr 1=some (.int .i64 (i:Nat))∧s.fr 4=some (.pointer (some ⟨B,0,none⟩))∧s.fr 7=some (.int .i64 (sizeI op))∧s.fr 9=some (.pointer (some ⟨H.next,0,none⟩))∧s.fr 10=some (.int .i64 f)∧s.fr 12=some u∧s.h=H.push (.row (fInstr.enc ⟨(i:Nat),op,a,b,imm⟩) 0 false)
theorem getD_part {l:List Int} {j k m:Nat} (hm:k+j<m):((l.take m).drop k).getD j 0=l.getD (k+j) 0:=by
 simp[List.getD_eq_getElem?_getD,List.getElem?_take,hm]
set_option maxHeartbeats 2000000 in
theorem one_c {h:DHeap} {v:Value} {l:List Int} {i:Nat} (hb:Arg fU8.rep h v l) (hl:l.length≤4294967296) (hi:i≤4294967296) :
 DC Try.prog 81 [v,.int .i64 (i:Nat)] h (.ret (.tuple #[instrV (oneT l i).1,.int .i64 (oneT l i).2.1,.int .i64 (oneT l i).2.2])) h:=by
 refine Ct.pure (go_81 (by simp) ?_) vin_one
 obtain ⟨H,hH⟩:∃ H,H=h.push (.row [.int .i64 0,.int .i64 0,.int .i64 0,.int .i64 0,.int .i64 0] 0 false):=⟨_,rfl⟩
 have hE:Ext h H:=by rw[hH];exact Ext.push1 _ _
 have g:H.get h.next=some (.row (fInstr.enc zeroInstr) 0 false):=by rw[hH];exact get_push_same _ _
 have hHn:H.next=h.next+1:=by rw[hH];rfl
 have el:∀ K,dLen Try.prog #[22] v K=some (.int .i64 (l.length:Nat)):=hb.lens (P:=Try.prog) (ts:=#[22]) (t:=22) rfl isl_22
 have hz:storeAt H h.next 0 [.int .i64 0,.int .i64 0,.int .i64 0,.int .i64 0,.int .i64 0]=some H:=by
  rw[storeAt_row g (Nat.le_of_ble_eq_true rfl) rfl]
  exact congrArg some (set_self g)
 have hneg:¬ ((i:Nat):Int)<0:=by omega
 by_cases h0:((l.length:Nat):Int)≤(i:Nat)
 ·have h0':=eq_true h0
  simp -implicitDefEqProofs (disch:=first|omega|simp only[go_sem]) only[go_sem,true_and,c81,← hH,hneg,h0',el,dPick_t,dPick_f,bd_instr0,hz]
  refine ret_at (res_i (n:=0) (e:=130) vz vz vz g) ⟨?_,hE⟩
  rw[oneT,if_pos (by omega)]
 have hil:i<l.length:=by omega
 have hbyte:∀ j,0≤l.getD j 0∧l.getD j 0≤255:=fun j=>by
  by_cases hj:j<l.length
  ·obtain ⟨_,_,_,_,a,b⟩:=byte_at hb hj
   exact ⟨a,b⟩
  ·rw[List.getD_eq_getElem?_getD,List.getElem?_eq_none (by omega)]
   exact ⟨Int.le_refl _,by decide⟩
 obtain ⟨id0,o0,ia0,lb0,r0,r1⟩:=byte_at hb hil
 obtain ⟨opn,hopn⟩:∃ n:Nat,l.getD i 0=(n:Int):=⟨(l.getD i 0).toNat,by omega⟩
 rw[hopn]at lb0 r0 r1
 have hw0:IntKind.i64.wrap (opn:Int)=opn:=wrap_i64_in (by omega) (by omega)
 simp -implicitDefEqProofs (disch:=first|omega|simp only[go_sem]) only[go_sem,true_and,c81,← hH,hneg,h0,el,dPick_t,dPick_f,ia0,lb0 H hE,hw0]
 refine ncall size_c ?_
 have hwl:IntKind.i64.wrap ((l.length:Int) - (i:Nat))=(l.length:Int) - (i:Nat):=wrap_i64_in (by omega) (by omega)
 by_cases h1:opn<28
 case neg=>
  have h1':=decide_eq_false h1
  simp -implicitDefEqProofs (disch:=first|omega|simp only[go_sem]) only[go_sem,true_and,h1',dPick_t,dPick_f,bd_instr0,hz]
  refine ret_at (res_i (n:=0) (e:=130) vz vz vz g) ⟨?_,hE⟩
  rw[oneT,if_neg (by omega),hopn,if_pos (.inl (size_none (by omega)))]
 have h1':=decide_eq_true h1
 obtain ⟨t1,t2,t3,t4,t5,t6,t7,t8⟩:=tables h1
 rw[t1]
 by_cases h2:(l.length:Int) - (i:Nat)<sizeI opn
 ·have h2':=eq_true h2
  simp -implicitDefEqProofs (disch:=first|omega|simp only[go_sem]) only[go_sem,true_and,h1',hwl,h2',el,dPick_t,dPick_f,bd_instr0,hz]
  refine ret_at (res_i (n:=0) (e:=130) vz vz vz g) ⟨?_,hE⟩
  rw[oneT,if_neg (by omega),hopn,if_pos (.inr h2)]
 obtain ⟨f,hf⟩:∃ f,formL.getD opn 0=f:=⟨_,rfl⟩
 rw[hf]at t2 t3 t4 t5 t6
 have hs:=sizeI_le opn
 obtain ⟨w1,w2,w3,w4⟩:=size_split t8
 have hT:oneT l i=if indexE (oneI l i)=0 then (oneI l i,i+sizeI opn,0) else (zeroInstr,0,indexE (oneI l i)):=by
  rw[oneT,if_neg (by omega),hopn,if_neg (by omega)]
 have hsz:sizeI opn=1+(if firstB opn then 1 else 0)+(if twoB opn then 1 else 0)+wideI opn:=by unfold wideI;omega
 have hst5:∀ a b c d e:Int,storeAt (H.push (.row [.int .i64 0,.int .i64 0,.int .i64 0,.int .i64 0,.int .i64 0] 0 false)) H.next 0 [.int .i64 a,.int .i64 b,.int .i64 c,.int .i64 d,.int .i64 e]=some (H.push (.row (fInstr.enc ⟨a,b,c,d,e⟩) 0 false)):=fun a b c d e=>store5_push rfl
 have cI:∀ x,cellAt (H.push (.row (fInstr.enc x) 0 false)) H.next 1=some (.int .i64 x.op):=fun x=>cellAt_row (get_push_same _ _)
 have lc:∀ x,cellsAt (H.push (.row (fInstr.enc x) 0 false)) H.next 0 5=some (instrV x):=fun x=>by rw[cellsAt_row (get_push_same _ _) (Nat.le_of_ble_eq_true rfl)];rfl
 have hEP:∀ o,Ext h (H.push o):=fun o=>hE.push o
 have hw1:IntKind.i64.wrap ((i:Int)+1)=((i+1:Nat):Int):=by rw[wrap_i64_in (by omega) (by omega)];omega
 obtain ⟨m,hm⟩:∃ m:Nat,(m:Int)=i+sizeI opn:=⟨(i+sizeI opn).toNat,by omega⟩
 have hw2:IntKind.i64.wrap ((i:Int)+sizeI opn)=(m:Nat):=by rw[wrap_i64_in (by omega) (by omega)];omega
 obtain ⟨u0,hu0,hr0⟩:=part_of hb (i:=i+1) (j:=m) (by omega) (by omega)
 simp -implicitDefEqProofs (disch:=first|omega|simp only[go_sem]) only[go_sem,true_and,h1',hwl,h2,el,dPick_t,dPick_f,ia0,lb0 H hE,hw0,bd_instr2,hst5,cI]
 refine ncall form_c ?_
 rw[hf]
 simp -implicitDefEqProofs (disch:=first|omega|simp only[go_sem]) only[go_sem,true_and,hw1,hw2,hu0 _ (hEP _),↓bin_andI]
 have hd:∀ (u:Value) (k:Nat),Arg fU8.rep h u ((l.take m).drop k)→k<m→∃ id o u',dIndexAddr Try.prog 22 u (.int .i64 0)=some (.pointer (some ⟨id,o,none⟩))∧(∀ K,Ext h K→cellAt K id o=some (.int .u8 (l.getD k 0)))∧(∀ K,Ext h K→dSlice Try.prog 22 u (some (.int .i64 1)) none none K=some u')∧Arg fU8.rep h u' ((l.take m).drop (k+1)):=by
  intro u k hu hk
  have hlen:((l.take m).drop k).length=m - k:=by rw[List.length_drop,List.length_take,Nat.min_eq_left (by omega)]
  obtain ⟨id,o,e1,e2,_,_⟩:=byte_at hu (i:=0) (by omega)
  obtain ⟨u',e3,e4⟩:=rest_of hu (k:=1) (by omega)
  rw[getD_part (by omega)]at e2
  rw[List.drop_drop]at e4
  exact ⟨id,o,u',e1,e2,e3,e4⟩
 have hwx:∀ j,IntKind.i64.wrap (l.getD j 0)=l.getD j 0:=fun j=>by
  have:=hbyte j
  exact wrap_i64_in (by omega) (by omega)
 have hsp:∀ a b,(H.push (.row (fInstr.enc a) 0 false)).set H.next (.row (fInstr.enc b) 0 false)=H.push (.row (fInstr.enc b) 0 false):=fun a b=>set_push_same _ _ _
 have sA:∀ a b n c d e,storeAt (H.push (.row (fInstr.enc ⟨a,b,n,c,d⟩) 0 false)) H.next 2 [.int .i64 e]=some (H.push (.row (fInstr.enc ⟨a,b,e,c,d⟩) 0 false)):=fun a b n c d e=>by
  rw[storeAt_row (get_push_same _ _) (Nat.le_of_ble_eq_true rfl) rfl]
  exact congrArg some (set_push_same _ _ _)
 have sB:∀ a b n c d e,storeAt (H.push (.row (fInstr.enc ⟨a,b,n,c,d⟩) 0 false)) H.next 3 [.int .i64 e]=some (H.push (.row (fInstr.enc ⟨a,b,n,e,d⟩) 0 false)):=fun a b n c d e=>by
  rw[storeAt_row (get_push_same _ _) (Nat.le_of_ble_eq_true rfl) rfl]
  exact congrArg some (set_push_same _ _ _)
 have sC:∀ a b n c d e,storeAt (H.push (.row (fInstr.enc ⟨a,b,n,c,d⟩) 0 false)) H.next 4 [.int .i64 e]=some (H.push (.row (fInstr.enc ⟨a,b,n,c,e⟩) 0 false)):=fun a b n c d e=>by
  rw[storeAt_row (get_push_same _ _) (Nat.le_of_ble_eq_true rfl) rfl]
  exact congrArg some (set_push_same _ _ _)
 obtain ⟨k2,hk2⟩:∃ k2,k2=i+1+if firstB opn then 1 else 0:=⟨_,rfl⟩
 obtain ⟨xa,hxa⟩:∃ xa,xa=if firstB opn then l.getD (i+1) 0 else 0:=⟨_,rfl⟩
 have hk2l:(k2:Int)+(if twoB opn then 1 else 0)+wideI opn=m:=by
  rw[hm,hk2,hsz]
  split <;> simp <;> omega
 refine XIf_cut (fun s=>∃ u,OnM h.next H v i opn f xa 0 0 u s∧Arg fU8.rep h u ((l.take m).drop k2)) (fun ht=>?_) (fun ht=>?_) ?_
 ·have hf1:firstB opn=true:=by
   cases hh:firstB opn with
   | true=>rfl
   | false=>rw[decide_eq_true (t2.2 hh)]at ht;cases ht
  rw[hf1]at hk2 hxa
  simp only[if_true]at hk2 hxa
  obtain ⟨id1,o1,u1,e1,e2,e3,e4⟩:=hd u0 (i+1) hr0 (by
   rw[hf1]at hsz
   simp only[if_true]at hsz
   have:0≤(if twoB opn then (1:Int) else 0):=by split <;> omega
   omega)
  rw[← hxa]at e2
  refine NC.mono (one_region0 (K1:=H.push (.row (fInstr.enc ⟨(i:Nat),opn,xa,0,0⟩) 0 false)) (x:=xa) (B:=H.next) vz vz e1 (e2 _ (hEP _)) (e2 _ (hEP _)) (by rw[hxa];exact hwx _) (e3 _ (hEP _)) (e3 _ (hEP _)) (sA _ _ _ _ _ _) (sA _ _ _ _ _ _)) ?_
  rintro e ⟨fr1,df1,hh1,rd1⟩ hM
  cases e <;> try exact hM.elim
  obtain ⟨rfl,rfl,rfl,q12,q0,q1,q4,q7,q9,q10⟩:=hM
  refine ⟨u1,⟨rfl,rfl,q0.trans vz,q1.trans vz,q4.trans vz,q7.trans vz,q9.trans vz,q10.trans vz,q12,rfl⟩,?_⟩
  rw[hk2]
  exact e4
 ·have hf1:firstB opn=false:=by
   cases hh:firstB opn with
   | false=>rfl
   | true=>rw[decide_eq_false (fun h=>by rw[t2.1 h]at hh;cases hh)]at ht;cases ht
  rw[hf1]at hk2 hxa
  simp only[Bool.false_eq_true,if_false,Nat.add_zero]at hk2 hxa
  simp -implicitDefEqProofs (disch:=first|omega|simp only[go_sem]) only[go_sem,true_and]
  refine ⟨u0,⟨rfl,rfl,vz,vz,vz,vz,vz,vz,vz,by rw[hxa]⟩,?_⟩
  rw[hk2]
  exact hr0
 rintro ⟨fr,df,K,rd⟩ ⟨u1,⟨rfl,rfl,f0,f1,f4,f7,f9,f10,f12,hK⟩,hr1⟩
 simp only at f0 f1 f4 f7 f9 f10 f12 hK
 subst hK
 obtain ⟨k3,hk3⟩:∃ k3,k3=k2+if twoB opn then 1 else 0:=⟨_,rfl⟩
 obtain ⟨xb,hxb⟩:∃ xb,xb=if twoB opn then l.getD k2 0 else 0:=⟨_,rfl⟩
 have hk3l:(k3:Int)+wideI opn=m:=by
  rw[← hk2l,hk3]
  split <;> simp
 simp -implicitDefEqProofs (disch:=first|omega|simp only[go_sem]) only[go_sem,true_and,f10,↓bin_andI]
 refine XIf_cut (fun s=>∃ u,OnM h.next H v i opn f xa xb 0 u s∧Arg fU8.rep h u ((l.take m).drop k3)) (fun ht=>?_) (fun ht=>?_) ?_
 ·have hf1:twoB opn=true:=by
   cases hh:twoB opn with
   | true=>rfl
   | false=>rw[decide_eq_true (t3.2 hh)]at ht;cases ht
  rw[hf1]at hk3 hxb hk2l
  simp only[if_true]at hk3 hxb hk2l
  obtain ⟨id1,o1,u2,e1,e2,e3,e4⟩:=hd u1 k2 hr1 (by omega)
  rw[← hxb]at e2
  refine NC.mono (one_region1 (K1:=H.push (.row (fInstr.enc ⟨(i:Nat),opn,xa,xb,0⟩) 0 false)) (x:=xb) (B:=H.next) (vy f9) (vy f12) e1 (e2 _ (hEP _)) (e2 _ (hEP _)) (by rw[hxb];exact hwx _) (e3 _ (hEP _)) (e3 _ (hEP _)) (sB _ _ _ _ _ _) (sB _ _ _ _ _ _)) ?_
  rintro e ⟨fr1,df1,hh1,rd1⟩ hM
  cases e <;> try exact hM.elim
  obtain ⟨rfl,rfl,rfl,q12,q0,q1,q4,q7,q9,q10⟩:=hM
  refine ⟨u2,⟨rfl,rfl,q0.trans (vy f0),q1.trans (vy f1),q4.trans (vy f4),q7.trans (vy f7),q9.trans (vy f9),q10.trans (vy f10),q12,rfl⟩,?_⟩
  rw[hk3]
  exact e4
 ·have hf1:twoB opn=false:=by
   cases hh:twoB opn with
   | false=>rfl
   | true=>rw[decide_eq_false (fun h=>by rw[t3.1 h]at hh;cases hh)]at ht;cases ht
  rw[hf1]at hk3 hxb
  simp only[Bool.false_eq_true,if_false,Nat.add_zero]at hk3 hxb
  simp -implicitDefEqProofs (disch:=first|omega|simp only[go_sem]) only[go_sem,true_and]
  refine ⟨u1,⟨rfl,rfl,(vy f0),(vy f1),(vy f4),(vy f7),(vy f9),(vy f10),(vy f12),by rw[hxb]⟩,?_⟩
  rw[hk3]
  exact hr1
 clear f0 f1 f4 f7 f9 f10 f12 fr
 rintro ⟨fr,df,K,rd⟩ ⟨u2,⟨rfl,rfl,f0,f1,f4,f7,f9,f10,f12,hK⟩,hr2⟩
 simp only at f0 f1 f4 f7 f9 f10 f12 hK
 subst hK
 simp -implicitDefEqProofs (disch:=first|omega|simp only[go_sem]) only[go_sem,true_and,f10,↓bin_andI]
 obtain ⟨w,hw⟩:∃ w,wideI opn=w:=⟨_,rfl⟩
 rw[hw]at w1 w2 hk3l t4 t6 t7
 obtain ⟨x,hx⟩:∃ x,l.getD k3 0=x:=⟨_,rfl⟩
 obtain ⟨y,hy⟩:∃ y,l.getD (k3+1) 0=y:=⟨_,rfl⟩
 have hone:oneI l i=⟨(i:Nat),opn,xa,xb,immW opn w x y⟩:=by
  unfold oneI
  simp only[hopn,← hxa,← hk2,← hxb,← hk3,hw,hx,hy]
 have bx:=hbyte k3
 have b_y:=hbyte (k3+1)
 rw[hx]at bx
 rw[hy]at b_y
 have hwx1:IntKind.i64.wrap x=x:=wrap_i64_in (by omega) (by omega)
 have hux:IntKind.u16.wrap x=x:=wrap_in (inK_u16.2 ⟨by omega,by omega⟩)
 have huy:IntKind.u16.wrap y=y:=wrap_in (inK_u16.2 ⟨by omega,by omega⟩)
 have hor:=orH_eq bx.1 bx.2 b_y.1 b_y.2
 have two:w=2→∃ id0 o0 id1 o1,dIndexAddr Try.prog 22 u2 (.int .i64 0)=some (.pointer (some ⟨id0,o0,none⟩))∧dIndexAddr Try.prog 22 u2 (.int .i64 1)=some (.pointer (some ⟨id1,o1,none⟩))∧(∀ K,Ext h K→cellAt K id0 o0=some (.int .u8 x))∧∀ K,Ext h K→cellAt K id1 o1=some (.int .u8 y):=fun hw2=>by
  have hlen:((l.take m).drop k3).length=m - k3:=by rw[List.length_drop,List.length_take,Nat.min_eq_left (by omega)]
  obtain ⟨id0,o0,e1,e2,_,_⟩:=byte_at hr2 (i:=0) (by omega)
  obtain ⟨id1,o1,e3,e4,_,_⟩:=byte_at hr2 (i:=1) (by omega)
  rw[getD_part (by omega)]at e2 e4
  rw[Nat.add_zero,hx]at e2
  rw[hy]at e4
  exact ⟨id0,o0,id1,o1,e1,e3,e2,e4⟩
 refine XIf_cutB (OnE h.next H i opn (oneI l i)) (fun ht=>?_) (fun ht=>?_) ?_
 ·have hw1':w=1:=by
   cases Int.decEq w 1 with
   | isTrue e=>exact e
   | isFalse e=>rw[decide_eq_true (t4.2 e)]at ht;cases ht
  obtain ⟨id1,o1,u3,e1,e2,_,_⟩:=hd u2 k3 hr2 (by omega)
  rw[hx]at e2
  simp -implicitDefEqProofs (disch:=first|omega|simp only[go_sem]) only[go_sem,true_and,f9,f12,e1,e2 _ (hEP _),hwx1,sC]
  refine ⟨rfl,rfl,(vy f1),(vy f4),(vy f7),(vy f9),?_⟩
  rw[hone]
  rw[immW,if_neg (by omega),if_pos (by omega)]
 ·have hw1':w≠1:=fun e=>by
   rw[decide_eq_false (fun h=>t4.1 h e)]at ht
   cases ht
  simp -implicitDefEqProofs (disch:=first|omega|simp only[go_sem]) only[go_sem,true_and,f10,↓bin_andI]
  refine XIf_split (fun ht=>?_) (fun ht=>?_)
  ·have ho1:opn=1:=by
    cases Nat.decEq opn 1 with
    | isTrue e=>exact e
    | isFalse e=>rw[decide_eq_true (t5.2 e)]at ht;cases ht
   have hw2':=t7 ho1
   obtain ⟨id0',o0',id1,o1,e1,e2,e3,e4⟩:=two hw2'
   have hsg:=wrap_i16 (n:=x+256*y) (by omega) (by omega)
   obtain ⟨z,hz⟩:∃ z,IntKind.i16.wrap (x+256*y)=z:=⟨_,rfl⟩
   have hzz:IntKind.i64.wrap z=z:=by
    rw[hz]at hsg
    split at hsg <;> exact wrap_i64_in (by omega) (by omega)
   have himm:immW opn w x y=z:=by
    rw[← hz,hsg]
    unfold immW
    rw[if_pos hw2',ho1]
    by_cases hb:32768≤x+256*y
    ·simp[hb]
    ·simp[hb]
   refine dr_81_2 ?_
   simp -implicitDefEqProofs (disch:=first|omega|simp only[go_sem]) only[go_sem,true_and,l81_2,f9,f12,e1,e2,e3 _ (hEP _),e4 _ (hEP _),hux,huy,bin_shl8,↓bin_orH,hor,hz,hzz,sC]
   refine ⟨rfl,rfl,(vy f1),(vy f4),(vy f7),(vy f9),?_⟩
   rw[hone,himm]
  ·have ho1:opn≠1:=fun e=>by
    rw[decide_eq_false (fun h=>t5.1 h e)]at ht
    cases ht
   simp -implicitDefEqProofs (disch:=first|omega|simp only[go_sem]) only[go_sem,true_and,f10,↓bin_andI]
   refine XIf_split (fun ht=>?_) (fun ht=>?_)
   ·have hw2':w=2:=by
     cases Int.decEq w 2 with
     | isTrue e=>exact e
     | isFalse e=>rw[decide_eq_true (t6.2 fun hh=>e hh.1)]at ht;cases ht
    obtain ⟨id0',o0',id1,o1,e1,e2,e3,e4⟩:=two hw2'
    have hzz:IntKind.i64.wrap (x+256*y)=x+256*y:=wrap_i64_in (by omega) (by omega)
    refine dr_81_3 ?_
    simp -implicitDefEqProofs (disch:=first|omega|simp only[go_sem]) only[go_sem,true_and,l81_3,f9,f12,e1,e2,e3 _ (hEP _),e4 _ (hEP _),hux,huy,bin_shl8,↓bin_orH,hor,hzz,sC]
    refine ⟨rfl,rfl,(vy f1),(vy f4),(vy f7),(vy f9),?_⟩
    rw[hone]
    rw[immW,if_pos hw2',if_neg (fun hh=>ho1 (by have:=hh.1;omega))]
   ·have hw2':w≠2:=fun e=>by
     rw[decide_eq_false (fun h=>t6.1 h ⟨e,ho1⟩)]at ht
     cases ht
    simp -implicitDefEqProofs (disch:=first|omega|simp only[go_sem]) only[go_sem,true_and]
    refine ⟨rfl,rfl,(vy f1),(vy f4),(vy f7),(vy f9),?_⟩
    rw[hone]
    rw[immW,if_neg hw2',if_neg (by omega)]
 clear f0 f1 f4 f7 f9 f10 f12 fr
 rintro ⟨fr,df,K,rd⟩ ⟨rfl,rfl,f1,f4,f7,f9,hK⟩
 simp only at f1 f4 f7 f9 hK
 subst hK
 obtain ⟨hix,h132⟩:=indexB_eq (l:=l) (i:=i) fun j=>(hbyte j).1
 simp -implicitDefEqProofs (disch:=first|omega|simp only[go_sem]) only[go_sem,true_and,f9,lc]
 refine ncall index_c ?_
 rw[hix]
 have g':(H.push (.row (fInstr.enc (oneI l i)) 0 false)).get h.next=some (.row (fInstr.enc zeroInstr) 0 false):=(get_push_other _ _ (by omega)).trans g
 have hst:∀ x:Instr,storeAt (H.push (.row (fInstr.enc (oneI l i)) 0 false)) h.next 0 [.int .i64 x.pos,.int .i64 x.op,.int .i64 x.a,.int .i64 x.b,.int .i64 x.imm]=some ((H.push (.row (fInstr.enc (oneI l i)) 0 false)).set h.next (.row (fInstr.enc x) 0 false)):=fun x=>storeAll g' rfl rfl
 by_cases he:indexE (oneI l i)=0
 ·have he':=eq_true he
  simp -implicitDefEqProofs (disch:=first|omega|simp only[go_sem]) only[go_sem,true_and,he',f9,f1,f7,lc,hw2,f4,hst]
  refine ret_at (res_i (x:=oneI l i) (n:=i+sizeI opn) (e:=0) (vy f4) (by rw[← hm];simp -implicitDefEqProofs (disch:=first|omega|simp only[go_sem]) only[go_sem,true_and]) vz (get_set_same _ _)) ⟨?_,(hEP _).set (by omega)⟩
  rw[hT,if_pos he]
 ·simp -implicitDefEqProofs (disch:=first|omega|simp only[go_sem]) only[go_sem,true_and,he,bd_instr0,f4,hst zeroInstr]
  refine ret_at (res_i (x:=zeroInstr) (n:=0) (e:=132) (vy f4) vz vz (get_set_same _ _)) ⟨?_,(hEP _).set (by omega)⟩
  rw[hT,if_neg he,h132 he]
end Go.Proofs.Ythjmkmoiopmfcaa

namespace Go.Proofs.Ythjmkmoiopmfcaa
open Go.D
set_option maxRecDepth 100000
def walkF (l:List Int):Nat→Nat→List Instr × Int
 | 0,_=>([],0)
 | n+1,i=>if l.length≤i then ([],0) else if (oneT l i).2.2=0 then ((oneT l i).1 :: (walkF l n (oneT l i).2.1.toNat).1,(walkF l n (oneT l i).2.1.toNat).2) else ([],(oneT l i).2.2)
theorem oneT_next {l:List Int} {i:Nat} (h:(oneT l i).2.2=0):(oneT l i).1=oneI l i∧(oneT l i).2.1=i+sizeI (l.getD i 0)∧i<l.length∧1≤sizeI (l.getD i 0)∧(i:Int)+sizeI (l.getD i 0)≤l.length∧indexE (oneI l i)=0:=by
 unfold oneT at h ⊢
 split at h
 ·exact absurd h (by decide)
 ·rename_i h1
  rw[if_neg h1]
  split at h
  ·exact absurd h (by decide)
  ·rename_i h2
   rw[if_neg h2]
   have:=sizeI_le (l.getD i 0)
   split at h
   ·rename_i h3
    rw[if_pos h3]
    refine ⟨rfl,rfl,by omega,by omega,by omega,h3⟩
   ·rename_i h3
    exact absurd h h3
theorem walkF_any {l:List Int}:∀ {n m i:Nat},l.length - i≤n→l.length - i≤m→walkF l n i=walkF l m i
 | 0,0,i,_,_=>rfl
 | 0,m+1,i,h,_=>by simp only[walkF];rw[if_pos (by omega)]
 | n+1,0,i,_,h=>by simp only[walkF];rw[if_pos (by omega)]
 | n+1,m+1,i,h1,h2=>by
   simp only[walkF]
   by_cases h:l.length≤i
   ·rw[if_pos h,if_pos h]
   ·rw[if_neg h,if_neg h]
    by_cases he:(oneT l i).2.2=0
    ·obtain ⟨_,a,b,c,_⟩:=oneT_next he
     rw[if_pos he,if_pos he,walkF_any (n:=n) (m:=m) (by omega) (by omega)]
    ·rw[if_neg he,if_neg he]
def walkAt (l:List Int) (i:Nat):List Instr × Int:=walkF l l.length i
theorem walkAt_end {l:List Int} {i:Nat} (h:l.length≤i):walkAt l i=([],0):=by
 unfold walkAt
 rw[walkF_any (m:=0) (by omega) (by omega)]
 rfl
theorem walkAt_step {l:List Int} {i:Nat} (h:i<l.length):walkAt l i=if (oneT l i).2.2=0 then ((oneT l i).1 :: (walkAt l (oneT l i).2.1.toNat).1,(walkAt l (oneT l i).2.1.toNat).2) else ([],(oneT l i).2.2):=by
 unfold walkAt
 rw[walkF_any (m:=l.length+1) (by omega) (by omega)]
 conv=>lhs;rw[walkF]
 rw[if_neg (by omega)]
theorem walkAt_len {l:List Int}:∀ {n i:Nat},l.length - i≤n→(walkAt l i).1.length≤l.length - i
 | 0,i,h=>by rw[walkAt_end (by omega)];simp
 | n+1,i,h=>by
   by_cases hi:i<l.length
   ·rw[walkAt_step hi]
    split
    ·rename_i he
     obtain ⟨_,a,b,c,d⟩:=oneT_next he
     have:=walkAt_len (l:=l) (n:=n) (i:=(oneT l i).2.1.toNat) (by omega)
     simp only[List.length_cons]
     omega
    ·simp
   ·rw[walkAt_end (by omega)];simp
theorem oneT_ok {l:List Int} {i:Nat} (hl:l.length≤4294967296) (hb:∀ j,0≤l.getD j 0∧l.getD j 0≤255) (h:(oneT l i).2.2=0):fInstr.ok (oneT l i).1:=by
 obtain ⟨e,a,b,c,d⟩:=oneT_next h
 rw[e]
 have b0:=hb i
 have b1:=hb (i+1)
 have b2:=hb (i+1+if firstB (l.getD i 0) then 1 else 0)
 have b3:=hb (i+1+(if firstB (l.getD i 0) then 1 else 0)+if twoB (l.getD i 0) then 1 else 0)
 have b4:=hb (i+1+(if firstB (l.getD i 0) then 1 else 0)+(if twoB (l.getD i 0) then 1 else 0)+1)
 have k1:∀ n:Int,-65536≤n→n≤4294967296→inK .i64 n:=fun n h1 h2=>inK_i64.2 ⟨by omega,by omega⟩
 refine ⟨k1 _ ?_ ?_,k1 _ ?_ ?_,k1 _ ?_ ?_,k1 _ ?_ ?_,k1 _ ?_ ?_⟩
 all_goals simp only[oneI,immW]
 all_goals first
  | omega
  | (repeat' split
     all_goals omega)
theorem store5 {h:DHeap} {x:Instr}:storeAt (h.push (.row [.int .i64 0,.int .i64 0,.int .i64 0,.int .i64 0,.int .i64 0] 0 false)) h.next 0 [.int .i64 x.pos,.int .i64 x.op,.int .i64 x.a,.int .i64 x.b,.int .i64 x.imm]=some (h.push (.row (fInstr.enc x) 0 false)):=store5_push rfl
theorem bytes_le {h:DHeap} {v:Value} {l:List Int} (hb:Arg fU8.rep h v l):∀ j,0≤l.getD j 0∧l.getD j 0≤255:=fun j=>by
 by_cases hj:j<l.length
 ·obtain ⟨_,_,_,_,a,b⟩:=byte_at hb hj
  exact ⟨a,b⟩
 ·rw[List.getD_eq_getElem?_getD,List.getElem?_eq_none (by omega)]
  exact ⟨Int.le_refl _,by decide⟩
end Go.Proofs.Ythjmkmoiopmfcaa

namespace Go.D
variable {P:Program}
structure SetT (P:Program) (t:TypeId) (k:IntKind):Prop where
 map:∃ kt et,P.underlying t=some (.map kt et)∧P.underlying kt=some (.int k)∧zeroOf P et=some (.bool false)
def SetAt (k:IntKind) (h:DHeap) (id:Nat) (ks:List Int):Prop:=
 ∃ es c,h.get id=some (.map es c)∧(∀ e∈es,∃ n,e.key=.int k n∧e.val=.bool true)∧∀ n,n∈ks↔∃ e∈es,e.key=.int k n
theorem findNow_int {k:IntKind} {n:Int}:∀ {es:List MapEntry} {i:Nat},(∀ e∈es,∃ m,e.key=.int k m∧e.val=.bool true) →
 (∃ j,Instr.findNow (.int k) (.int k n) es i=some (some (j,.bool true))∧i≤j∧∃ e,es[j - i]? = some e∧e.key=.int k n)∨(Instr.findNow (.int k) (.int k n) es i=some none∧∀ e∈es,e.key≠.int k n)
 | [],i,_=>.inr ⟨rfl,fun e he=>by simp at he⟩
 | e :: es,i,h=>by
   obtain ⟨m,h1,h2⟩:=h e (by simp)
   have ih:=findNow_int (k:=k) (n:=n) (es:=es) (i:=i+1) fun e he=>h e (by simp[he])
   simp only[Instr.findNow,h1,Instr.sameNow,if_true]
   by_cases hm:n=m
   ·subst hm
    refine .inl ⟨i,by simp[h2],Nat.le_refl _,e,by simp,h1⟩
   ·have:(n==m)=false:=by simpa using hm
    rw[this]
    rcases ih with ⟨j,a,b,e',c,d⟩ | ⟨a,b⟩
    ·exact .inl ⟨j,a,by omega,e',by rw[show j - i=(j - (i+1))+1 by omega];exact c,d⟩
    ·refine .inr ⟨a,fun e' he=>?_⟩
     rcases List.mem_cons.1 he with rfl | he
     ·rw[h1]
      intro hh
      cases hh
      exact hm rfl
     ·exact b e' he
theorem quick_und {t:TypeId} {d:TypeDesc} (hu:P.underlying t=some d):quick P (underlying t)=some (.inr d):=by
 simp only[underlying,program,Bind.bind,Sem.bind,quick,hu]
 rfl
theorem checkKey_intN {kt:TypeId} {k:IntKind} (hu:P.underlying kt=some (.int k)) (b:Bool) (n:Int) (m:Nat):quick P (Instr.checkKey b (m+1) kt (.int k n))=some (.inr ()):=by
 unfold Instr.checkKey
 rw[quick_bind (quick_und hu)]
 rfl
theorem checkKey_int {kt:TypeId} {k:IntKind} (hu:P.underlying kt=some (.int k)) (b:Bool) (n:Int):∃ u,quick P (Instr.checkKey b 10000 kt (.int k n))=some (.inr u):=⟨(),checkKey_intN hu b n 9999⟩
theorem sameBits_int {k:IntKind} {n:Int} (m:Nat):Instr.sameBits (m+1) (.int k n) (.int k n)=true:=by simp[Instr.sameBits]
theorem SetAt.lookup {t:TypeId} {k:IntKind} {h:DHeap} {id:Nat} {ks:List Int} (T:SetT P t k) (a:SetAt k h id ks) (n:Int):dLookup P t (.map (some id)) (.int k n) false h=some (.bool (decide (n∈ks))):=by
 obtain ⟨kt,et,u1,u2,u3⟩:=T.map
 obtain ⟨es,c,g,e1,e2⟩:=a
 obtain ⟨u,hck⟩:=checkKey_int (P:=P) u2 es.isEmpty n
 have hm:dMapEs (.map (some id)) h=some es:=by simp only[dMapEs,g]
 have hf3:flat3 (.int k n)=true:=rfl
 simp only[dLookup,u1,hm,hf3,if_true,hck]
 rcases findNow_int (k:=k) (n:=n) (es:=es) (i:=0) e1 with ⟨j,a,_,e,c,d⟩ | ⟨a,b⟩
 ·have hfd:dFind P kt (.int k n) es=some (some j):=by simp only[dFind,u2,a];rfl
  rw[Nat.sub_zero]at c
  obtain ⟨m,h1,h2⟩:=e1 e (List.mem_of_getElem? c)
  rw[decide_eq_true ((e2 n).2 ⟨e,List.mem_of_getElem? c,d⟩)]
  simp only[hfd,c,h2]
  rfl
 ·have hfd:dFind P kt (.int k n) es=some none:=by simp only[dFind,u2,a];rfl
  rw[decide_eq_false (fun hh=>by
   obtain ⟨e,he,hk⟩:=(e2 n).1 hh
   exact b e he hk)]
  simp only[hfd,u3]
  rfl
theorem SetAt.update {t:TypeId} {k:IntKind} {h:DHeap} {id:Nat} {ks:List Int} (T:SetT P t k) (a:SetAt k h id ks) (n:Int):∃ o,dMapUpdate P t (.map (some id)) (.int k n) (.bool true) h=some (h.set id o)∧SetAt k (h.set id o) id (ks++[n]):=by
 obtain ⟨kt,et,u1,u2,u3⟩:=T.map
 obtain ⟨es,c,g,e1,e2⟩:=a
 obtain ⟨u,hck⟩:=checkKey_int (P:=P) u2 false n
 have hf3:flat3 (.int k n)=true:=rfl
 simp only[dMapUpdate,u1,g,hf3,if_true,hck]
 rcases findNow_int (k:=k) (n:=n) (es:=es) (i:=0) e1 with ⟨j,a,_,e,c',d⟩ | ⟨a,b⟩
 ·have hfd:dFind P kt (.int k n) es=some (some j):=by simp only[dFind,u2,a];rfl
  rw[Nat.sub_zero]at c'
  have hsb:Instr.sameBits 10000 e.key (.int k n)=true:=by
   rw[d]
   exact sameBits_int 9999
  simp only[hfd,c',hsb,if_true]
  refine ⟨_,rfl,_,_,get_set_same _ _,fun e' he=>?_,fun m=>?_⟩
  ·rcases List.mem_or_eq_of_mem_set he with he | he
   ·exact e1 e' he
   ·exact ⟨n,by rw[he],by rw[he]⟩
  ·rw[List.mem_append,e2 m]
   constructor
   ·rintro (⟨e',he,hk⟩ | hm)
    ·obtain ⟨i,hi⟩:=List.mem_iff_getElem?.1 he
     by_cases hij:j=i
     ·subst hij
      rw[c']at hi
      cases hi
      rw[d]at hk
      cases hk
      exact ⟨{ e with key:=.int k n,val:=.bool true },List.mem_iff_getElem?.2 ⟨j,by rw[List.getElem?_set,if_pos rfl,if_pos (List.getElem?_eq_some_iff.1 c').1]⟩,rfl⟩
     ·exact ⟨e',List.mem_iff_getElem?.2 ⟨i,by rw[List.getElem?_set,if_neg hij];exact hi⟩,hk⟩
    ·simp only[List.mem_singleton]at hm
     subst hm
     exact ⟨{ e with key:=.int k m,val:=.bool true },List.mem_iff_getElem?.2 ⟨j,by rw[List.getElem?_set,if_pos rfl,if_pos (List.getElem?_eq_some_iff.1 c').1]⟩,rfl⟩
   ·rintro ⟨e',he,hk⟩
    rcases List.mem_or_eq_of_mem_set he with he | he
    ·exact .inl ⟨e',he,hk⟩
    ·rw[he]at hk
     cases hk
     exact .inr (by simp)
 ·have hfd:dFind P kt (.int k n) es=some none:=by simp only[dFind,u2,a];rfl
  simp only[hfd]
  refine ⟨_,rfl,_,_,get_set_same _ _,fun e' he=>?_,fun m=>?_⟩
  ·rcases List.mem_append.1 he with he | he
   ·exact e1 e' he
   ·simp only[List.mem_singleton]at he
    exact ⟨n,by rw[he],by rw[he]⟩
  ·rw[List.mem_append,e2 m]
   constructor
   ·rintro (⟨e',he,hk⟩ | hm)
    ·exact ⟨e',by simp[he],hk⟩
    ·simp only[List.mem_singleton]at hm
     subst hm
     exact ⟨_,List.mem_append.2 (.inr (List.mem_singleton.2 rfl)),rfl⟩
   ·rintro ⟨e',he,hk⟩
    rcases List.mem_append.1 he with he | he
    ·exact .inl ⟨e',he,hk⟩
    ·simp only[List.mem_singleton]at he
     rw[he]at hk
     cases hk
     exact .inr (by simp)
theorem SetAt.keep {k:IntKind} {h h':DHeap} {id:Nat} {ks:List Int} (a:SetAt k h id ks) (hg:h'.get id=h.get id):SetAt k h' id ks:=by
 obtain ⟨es,c,g,e⟩:=a
 exact ⟨es,c,hg.trans g,e⟩
theorem SetAt.new {k:IntKind} {h:DHeap}:SetAt k (h.push (.map [] 0)) h.next []:=⟨[],0,get_push_same _ _,by simp,by simp⟩
theorem XLoop_cut {nt id:Nat} {c:Code} {K:St→Prop} {Q:DExit→St→Prop} {s:St} (M:St→Prop) (h1:XLoop P nt c (DBlock id (DThen M Q)) s) (h3:∀ s',M s'→K s'):XLoop P nt c (DBlock id (DThen K Q)) s:=xblock_cut (c:=.loop c) M h1 h3
end Go.D

namespace Go.Proofs.Ythjmkmoiopmfcaa
open Go.D
set_option maxRecDepth 100000
def failV (e:Int):Value:=.iface 125 (.agg #[.int .i64 e])
theorem failV_vin {S:Nat→Prop} (e:Int):VIn S (failV e):=.iface (.agg fun v hv=>by simp at hv;subst hv;exact .int _ _)
theorem bd_fail (e:Int):dBuild Try.prog 125 [(0,.int .i64 e)]=some (.agg #[.int .i64 e]):=dBuild_at plc_125 rfl
theorem must_no {h:DHeap}:DC Try.prog 62 [.int .i64 0] h (.ret (.tuple #[])) h:=by
 refine Ct.pure (go_62 (by simp) ?_) (.tuple fun v hv=>by simp at hv)
 simp -implicitDefEqProofs (disch:=first|omega|simp only[go_sem]) only[go_sem,true_and,c62]
 exact ⟨_,rfl,rfl,.refl h⟩
theorem must_yes {h:DHeap} {e:Int} (he:e≠0):DC Try.prog 62 [.int .i64 e] h (.pan (failV e)) h:=by
 refine Ct.purePan (go_62 (by simp) ?_) (failV_vin e)
 simp -implicitDefEqProofs (disch:=first|omega|simp only[go_sem]) only[go_sem,true_and,c62,bd_fail,he]
 exact ⟨rfl,.refl h⟩
theorem all_c {h:DHeap} {v:Value} {l:List Int} (hb:Arg fU8.rep h v l) (hl:l.length≤1048576) :
 Ct Try.prog 60 [v] h fun r h1=>((walkAt l 0).2=0∧∃ w,r=.ret w∧Made fInstr h h1 w (walkAt l 0).1)∨((walkAt l 0).2≠0∧r=.pan (failV (walkAt l 0).2)∧Ext h h1):=by
 refine go_60 (by simp) ?_
 have el:∀ K,dLen Try.prog #[22] v K=some (.int .i64 (l.length:Nat)):=hb.lens (P:=Try.prog) (ts:=#[22]) (t:=22) rfl isl_22
 have hbl:=bytes_le hb
 simp -implicitDefEqProofs (disch:=first|omega|simp only[go_sem]) only[go_sem,true_and,c60]
 refine xloop (σ:=Nat × List Instr) (by kernel_rfl) (fun a s=>s.df=[]∧s.rd=none∧s.fr 0=some v∧s.fr 4=some (.int .i64 (a.1:Nat))∧(∃ w,s.fr 3=some w∧Made fInstr h s.h w a.2)∧a.1≤l.length∧a.2.length≤a.1∧walkAt l 0=(a.2++(walkAt l a.1).1,(walkAt l a.1).2)) (fun a=>l.length - a.1) (0,[]) ?_ ?_
 ·simp -implicitDefEqProofs (disch:=first|omega|simp only[go_sem]) only[go_sem,true_and]
  exact ⟨rfl,⟨_,rfl,.nil _ (.refl h)⟩,Nat.zero_le _,Nat.le_refl _,trivial⟩
 ·rintro ⟨i,acc⟩ ⟨fr,df,K,rd⟩ K' hK' hX ⟨rfl,hrd,f0,f4,⟨w,f3,hm⟩,hi,hal,hw⟩
  simp only at hrd f0 f4 f3 hm hi hal hw
  subst hrd
  have hE:=hm.ext
  simp -implicitDefEqProofs (disch:=first|omega|simp only[go_sem]) only[go_sem,true_and,f0,f4,el]
  refine XIf_dec (fun hc1=>?_) (fun hc1=>?_)
  ·have hil:i<l.length:=by omega
   have hst:=walkAt_step hil
   simp -implicitDefEqProofs (disch:=first|omega|simp only[go_sem]) only[go_sem,true_and,f0,f4]
   refine ncall (one_c (hb.ext hE) (by omega) (by omega)) ?_
   obtain ⟨x,hx⟩:∃ x,(oneT l i).1=x:=⟨_,rfl⟩
   obtain ⟨K1,hK1⟩:∃ K1,K1=K.push (.row (fInstr.enc x) 0 false):=⟨_,rfl⟩
   have g:K1.get K.next=some (.row (fInstr.enc x) 0 false):=by rw[hK1];exact get_push_same _ _
   have lc:cellsAt K1 K.next 0 5=some (instrV x):=by rw[cellsAt_row g (Nat.le_of_ble_eq_true rfl)];rfl
   have hm1:Made fInstr h K1 w acc:=hm.on (by rw[hK1];exact Ext.push1 _ _)
   rw[hx]
   have s5:=store5 (h:=K) (x:=x)
   rw[← hK1]at s5
   by_cases he:(oneT l i).2.2=0
   ·obtain ⟨e1,e2,_,e4,e5⟩:=oneT_next he
    have hok:=oneT_ok (by omega) hbl he
    rw[hx]at hok
    rw[if_pos he,hx]at hst
    obtain ⟨nx,hnx⟩:∃ nx:Nat,(oneT l i).2.1=nx:=⟨(oneT l i).2.1.toNat,by omega⟩
    rw[hnx]at hst ⊢
    rw[he]
    have hbs:∀ K:DHeap,dBuildSlice Try.prog 74 1 [(0,instrV x)] K=some (.slice (some ⟨K.next,0,none⟩) 1 1,K.push (.row (fInstr.enc x) 5 false)):=fun K=>bs1_74 rfl
    obtain ⟨w2,h2,e6,m2⟩:=hm1.snoc app_74 (y:=x) (cs:=fInstr.enc x) (z:=5) rfl rfl hok (by omega) (by decide)
    simp -implicitDefEqProofs (disch:=first|omega|simp only[go_sem]) only[go_sem,true_and,s5]
    refine ncall must_no ?_
    simp -implicitDefEqProofs (disch:=first|omega|simp only[go_sem]) only[go_sem,true_and,f3,lc,hbs,e6]
    refine hK' (nx,acc++[x]) _ ?_ (by simp only;omega)
    refine ⟨by trivial,by trivial,(vy f0),vz,⟨w2,vz,m2⟩,by simp only;omega,by simp;omega,?_⟩
    rw[hw,hst]
    simp
   ·rw[if_neg he]at hst
    simp -implicitDefEqProofs (disch:=first|omega|simp only[go_sem]) only[go_sem,true_and,s5]
    refine ncall_pan (must_yes he) ?_
    refine hX _ _ (by simp) ?_
    simp -implicitDefEqProofs (disch:=first|omega|simp only[go_sem]) only[go_sem,true_and]
    refine .inr ⟨?_,?_,hm1.ext⟩
    ·rw[hw,hst];exact he
    ·rw[hw,hst]
  ·refine hX _ _ (by simp) ?_
   simp -implicitDefEqProofs (disch:=first|omega|simp only[go_sem]) only[go_sem,true_and,f3]
   have:=walkAt_end (l:=l) (i:=i) (by omega)
   refine ⟨_,rfl,.inl ⟨?_,w,rfl,?_⟩⟩
   ·rw[hw,this]
   ·rw[hw,this,List.append_nil];exact hm
theorem caught_c {h:DHeap} {e:Int}:DC Try.prog 59 [failV e] h (.ret (.int .i64 e)) h:=by
 refine Ct.pure (go_59 (by simp) ?_) (vin_int _ _)
 simp -implicitDefEqProofs (disch:=first|omega|simp only[go_sem]) only[go_sem,true_and,c59,failV,store1_push (v:=.int .i64 e) rfl,cell1_push]
 exact ⟨_,rfl,rfl,Ext.push1 _ _⟩
theorem neq_fail {e:Int} {ox oy:Operand} {h:DHeap}:dBinOp Try.prog .neq 20 ox oy (failV e) .nilIface h=.ok (.value (.bool true)) h:=by
 kernel_rfl
theorem neq_none {i:Nat} {h:DHeap}:dBinOp Try.prog .neq 20 (T i) (.const .nilIface) .nilIface .nilIface h=.ok (.value (.bool false)) h:=by
 kernel_rfl
theorem dec_ret {h:DHeap} {x y:Value}:DCD Try.prog 58 [x,y] .ret h .ret h:=by
 refine DCD_recN (fn:=Try.f58) (rs:=[]) (by kernel_rfl) body_58 (by kernel_rfl) (by kernel_rfl) (n:=8) (Nat.le_of_ble_eq_true rfl) (by kernel_rfl) (.refl h) ?_
 simp only[XOpsR]
 simp -implicitDefEqProofs (disch:=first|omega|simp only[go_sem]) only[go_sem,true_and,dBuiltin_recover,neq_none]
 exact ⟨rfl,trivial⟩
theorem dec_pan {h:DHeap} {a b:Nat} {e:Int} {c d:Value} {z y:Nat} (ha:h.get a=some (.row [c] z false)) (hb:h.get b=some (.row [d] y false)) (hab:b≠a) :
 DCD Try.prog 58 [.pointer (some ⟨a,0,none⟩),.pointer (some ⟨b,0,none⟩)] (.pan (failV e)) h (.recd (failV e)) ((h.set a (.row [.slice none 0 0] z false)).set b (.row [.int .i64 e] y false)):=by
 refine DCD_recN (fn:=Try.f58) (rs:=[]) (by kernel_rfl) body_58 (by kernel_rfl) (by kernel_rfl) (n:=8) (Nat.le_of_ble_eq_true rfl) (by kernel_rfl) ((HStep.set _ _ _).trans (HStep.set _ _ _)) ?_
 simp only[XOpsR]
 have w1:=storeAt_row (o:=0) (vs:=[.slice none 0 0]) ha (Nat.le_of_ble_eq_true rfl) rfl
 have w2:=storeAt_row (o:=0) (vs:=[.int .i64 e]) ((get_set_other _ _ hab).trans hb:(h.set a (.row (setAt [c] 0 [.slice none 0 0]) z false)).get b=_) (Nat.le_of_ble_eq_true rfl) rfl
 have tc:=caught_c (h:=h) (e:=e)
 simp -implicitDefEqProofs (disch:=first|omega|simp only[go_sem]) only[go_sem,true_and,dBuiltin_recover,neq_fail]
 refine ncall tc ?_
 simp -implicitDefEqProofs (disch:=first|omega|simp only[go_sem]) only[go_sem,true_and,w1,w2]
 exact ⟨rfl,rfl⟩
end Go.Proofs.Ythjmkmoiopmfcaa

namespace Go.Proofs.Ythjmkmoiopmfcaa
open Go.D
set_option maxRecDepth 100000
def targetsOk (xs:List Instr):Bool:=xs.all fun x=>!jumpsB x.op||decide (x.imm∈xs.map (·.pos))
def decE (l:List Int):Int:=if 512<l.length then 3 else if (walkAt l 0).2≠0 then (walkAt l 0).2 else if targetsOk (walkAt l 0).1 then 0 else 131
def decL (l:List Int):List Instr:=if decE l=0 then (walkAt l 0).1 else []
theorem instr_idx {S:Nat→Prop} {h:DHeap} {v:Value} {l:List Instr} {i:Nat} (hb:Sl fInstr.rep S h v l) (hi:i<l.length) :
 ∃ id o,dIndexAddr Try.prog 74 v (.int .i64 (i:Nat))=some (.pointer (some ⟨id,o,none⟩))∧cellsAt h id o 5=some (instrV l[i])∧cellAt h id (o+0)=some (.int .i64 l[i].pos)∧cellAt h id (o+1)=some (.int .i64 l[i].op)∧cellAt h id (o+4)=some (.int .i64 l[i].imm):=by
 obtain ⟨id,o,g,hs,hat⟩:=hb.idx (P:=Try.prog) (t:=74) el_74 (k:=.i64) (List.getElem?_eq_getElem hi)
 obtain ⟨a,b,_⟩:=hat.flat
 exact ⟨id,o,g,b,a 0 (by decide),a 1 (by decide),a 4 (by decide)⟩
def jumpsSo (l:List Instr) (i:Nat):Prop:=∀ j x,j<i→l[j]? = some x→jumpsB x.op=true→x.imm∈l.map (·.pos)
theorem targets_all {l:List Instr} (h:jumpsSo l l.length):targetsOk l=true:=by
 unfold targetsOk
 rw[List.all_eq_true]
 intro x hx
 obtain ⟨j,hj⟩:=List.mem_iff_getElem?.1 hx
 cases hb:jumpsB x.op with
 | false=>rfl
 | true=>simpa using h j x (List.getElem?_eq_some_iff.1 hj).1 hj hb
theorem targets_bad {l:List Instr} {x:Instr} (hx:x∈l) (hb:jumpsB x.op=true) (hm:x.imm∉l.map (·.pos)):targetsOk l=false:=by
 unfold targetsOk
 rw[List.all_eq_false]
 exact ⟨x,hx,by simp[hb];simpa using hm⟩
theorem jumpsSo_succ {l:List Instr} {i:Nat} (hi:i<l.length) (h:jumpsSo l i) (hx:jumpsB l[i].op=true→l[i].imm∈l.map (·.pos)):jumpsSo l (i+1):=by
 intro j x hj hjx hb
 by_cases hji:j=i
 ·subst hji
  rw[List.getElem?_eq_getElem hi]at hjx
  cases hjx
  exact hx hb
 ·exact h j x (by omega) hjx hb
theorem jumps_c {h:DHeap} {x:Instr}:DC Try.prog 61 [instrV x] h (.ret (.bool (jumpsB x.op))) h:=by
 obtain ⟨x1,x2,x3,x4,x5⟩:=x
 refine Ct.pure (go_61 (by simp) ?_) (vin_bool _)
 obtain ⟨H,hH⟩:∃ H,H=h.push (.row [.int .i64 x1,.int .i64 x2,.int .i64 x3,.int .i64 x4,.int .i64 x5] 0 false):=⟨_,rfl⟩
 have hE:Ext h H:=by rw[hH];exact Ext.push1 _ _
 have g:H.get h.next=some (.row [.int .i64 x1,.int .i64 x2,.int .i64 x3,.int .i64 x4,.int .i64 x5] 0 false):=by rw[hH];exact get_push_same _ _
 have a1:cellAt H h.next 1=some (.int .i64 x2):=cellAt_row g
 simp -implicitDefEqProofs (disch:=first|omega|simp only[go_sem]) only[go_sem,true_and,c61,← hH,a1]
 clear hH
 (repeat' first | (refine NStp_split (fun hb=>?_) (fun hb=>?_) <;> (try simp only[Bool.not_eq_true',Bool.not_eq_false']at hb) <;> simp -implicitDefEqProofs (disch:=first|omega|simp only[go_sem]) only[go_sem,true_and,dPick_t,dPick_f,hb,a1]) | (refine XIf_split (fun hb=>?_) (fun hb=>?_) <;> (try simp only[Bool.not_eq_true',Bool.not_eq_false']at hb) <;> simp -implicitDefEqProofs (disch:=first|omega|simp only[go_sem]) only[go_sem,true_and,dPick_t,dPick_f,hb,a1]))
 all_goals exact ⟨_,rfl,by simp_all [jumpsB],hE⟩
end Go.Proofs.Ythjmkmoiopmfcaa

namespace Go.Proofs.Ythjmkmoiopmfcaa
open Go.D
set_option maxRecDepth 100000
theorem good_dec:goodFn Try.prog 58=true:=by kernel_rfl
theorem set_begins:SetT Try.prog 107 .i64:=⟨2,4,by kernel_rfl,by kernel_rfl,by kernel_rfl⟩
theorem res_d {fr:Fr} {K:DHeap} {a b id id2:Nat} {w:Value} {e:Int} {z y:Nat} (f2:fr a=some (.pointer (some ⟨id,0,none⟩))) (f3:fr b=some (.pointer (some ⟨id2,0,none⟩))) (hk:K.get id=some (.row [w] z false)) (hk2:K.get id2=some (.row [.int .i64 e] y false)) :
 dResults Try.prog [.cell a 74,.cell b 53] fr K=some (.tuple #[w,.int .i64 e]):=by
 rw[dResults_d2,dRes1_cell,dRes1_cell,f2,f3,dResC_some,dResC_some]
 have e1:dLoad Try.prog 74 (.pointer (some ⟨id,0,none⟩)) K=some w:=ld_74.trans (cellAt_row hk)
 have e2:dLoad Try.prog 53 (.pointer (some ⟨id2,0,none⟩)) K=some (.int .i64 e):=ld_53.trans (cellAt_row hk2)
 rw[e1,e2,tup2_some]
structure DecI (h:DHeap) (a b mp n0:Nat) (w:Value) (xs:List Instr) (ks:List Int) (K:DHeap):Prop where
 ext:Ext h K
 ga:K.get a=some (.row [w] 0 false)
 gb:K.get b=some (.row [.int .i64 0] 0 false)
 sm:SetAt .i64 K mp ks
 sl:Sl fInstr.rep (fun j=>n0≤j∧j<mp) K w xs
 lt:mp<K.next
 ab:h.next≤a∧h.next≤b∧a<n0∧b<n0∧a≠b∧n0≤mp
theorem DecI.push {h:DHeap} {a b mp n0:Nat} {w:Value} {xs:List Instr} {ks:List Int} {K K':DHeap} (s:DecI h a b mp n0 w xs ks K) (e:Ext K K'):DecI h a b mp n0 w xs ks K':=by
 have hl:=s.lt
 have ha:=s.ab
 exact ⟨s.ext.trans e,(e.get _ (by omega)).trans s.ga,(e.get _ (by omega)).trans s.gb,s.sm.keep (e.get _ hl),s.sl.mono fun j hj=>⟨hj,e.get _ (by omega)⟩,Nat.lt_of_lt_of_le hl e.next,ha⟩
theorem DecI.upd {h:DHeap} {a b mp n0:Nat} {w:Value} {xs:List Instr} {ks ks':List Int} {K:DHeap} {o:DObj} (s:DecI h a b mp n0 w xs ks K) (hs:SetAt .i64 (K.set mp o) mp ks'):DecI h a b mp n0 w xs ks' (K.set mp o):=by
 have ha:=s.ab
 exact ⟨s.ext.set (by omega),(get_set_other _ _ (by omega)).trans s.ga,(get_set_other _ _ (by omega)).trans s.gb,hs,s.sl.mono fun j hj=>⟨hj,get_set_other _ _ (by omega)⟩,s.lt,ha⟩
theorem decode_c {h:DHeap} {v:Value} {l:List Int} (hb:Arg fU8.rep h v l) (hl:l.length≤1048576) :
 Ct Try.prog 39 [v] h fun r h1=>∃ w,r=.ret (.tuple #[w,.int .i64 (decE l)])∧Ext h h1∧Arg fInstr.rep h1 w (decL l):=by
 refine go_39 (by simp) ?_
 have el:∀ K,dLen Try.prog #[22] v K=some (.int .i64 (l.length:Nat)):=hb.lens (P:=Try.prog) (ts:=#[22]) (t:=22) rfl isl_22
 obtain ⟨H,hH⟩:∃ H,H=(h.push (.row [.slice none 0 0] 0 false)).push (.row [.int .i64 0] 0 false):=⟨_,rfl⟩
 have hE:Ext h H:=by rw[hH];exact (Ext.push1 _ _).push _
 have hHn:H.next=h.next+2:=by rw[hH];rfl
 have ga:H.get h.next=some (.row [.slice none 0 0] 0 false):=by rw[hH];exact get_p1
 have gb:H.get (h.next+1)=some (.row [.int .i64 0] 0 false):=by rw[hH];exact get_push_same _ _
 by_cases h0:(512:Int)<(l.length:Nat)
 ·have h0':=eq_true h0
  have hD:decE l=3:=by rw[decE,if_pos (by omega)]
  have w1:storeAt H h.next 0 [.slice none 0 0]=some H:=by
   rw[storeAt_row ga (Nat.le_of_ble_eq_true rfl) rfl]
   exact congrArg some (set_self ga)
  have w2:=storeAt_row (o:=0) (vs:=[.int .i64 3]) gb (Nat.le_of_ble_eq_true rfl) rfl
  simp -implicitDefEqProofs (disch:=first|omega|simp only[go_sem]) only[go_sem,true_and,c39,next_push,← hH,el,h0',w1,w2]
  refine ret_at (res_d vz vz ((get_set_other _ _ (by omega)).trans ga) (get_set_same _ _)) ⟨_,by rw[hD],hE.set (by omega),?_⟩
  rw[decL,hD]
  exact .nil _ _ _
 have hE0:decE l=if (walkAt l 0).2≠0 then (walkAt l 0).2 else if targetsOk (walkAt l 0).1 then 0 else 131:=by rw[decE,if_neg (by omega)]
 simp -implicitDefEqProofs (disch:=first|omega|simp only[go_sem]) only[go_sem,true_and,c39,next_push,← hH,el,h0]
 refine ncall_ct (all_c (hb.ext hE) hl) ?_
 have hlen:=walkAt_len (l:=l) (n:=l.length) (i:=0) (by omega)
 obtain ⟨xs,hxs⟩:∃ xs,(walkAt l 0).1=xs:=⟨_,rfl⟩
 obtain ⟨e,he⟩:∃ e,(walkAt l 0).2=e:=⟨_,rfl⟩
 rw[hxs,he]
 rw[hxs]at hlen
 rw[hxs,he]at hE0
 rintro r h1 (⟨he0,w,rfl,hm⟩ | ⟨he0,rfl,hE1⟩)
 case inr=>
  rw[if_pos he0]at hE0
  have ga1:=(hE1.get _ (by omega)).trans ga
  have gb1:=(hE1.get _ (by omega)).trans gb
  simp -implicitDefEqProofs (disch:=first|omega|simp only[go_sem]) only[go_sem,true_and,XEnd]
  refine XLv_fn good_dec (dec_pan ga1 gb1 (by omega)) ?_
  simp -implicitDefEqProofs (disch:=first|omega|simp only[go_sem]) only[go_sem,true_and,settleD,XLv_ret]
  refine ret_at (res_d vz vz ((get_set_other _ _ (by omega)).trans (get_set_same _ _)) (get_set_same _ _)) ⟨_,by rw[hE0],((hE.trans hE1).set (by omega)).set (by omega),?_⟩
  rw[decL,hE0,if_neg he0]
  exact .nil _ _ _
 rw[if_neg (fun hh=>hh he0)]at hE0
 have hE1:=hm.ext
 have hE1n:=hE1.next
 have ga1:=(hE1.get _ (by omega)).trans ga
 have gb1:=(hE1.get _ (by omega)).trans gb
 have hone:[w].all Value.oneCell'=true:=by obtain ⟨_,_,rfl⟩:=hm.sl.isSlice;rfl
 have w1:=storeAt_row (o:=0) (vs:=[w]) ga1 (Nat.le_of_ble_eq_true rfl) hone
 have sst:∀ K,dStore Try.prog 74 (.pointer (some ⟨h.next,0,none⟩)) w K=storeAt K h.next 0 [w]:=fun K=>st_74 hm.sl.cells1
 obtain ⟨K0,hK0⟩:∃ K0,K0=(h1.set h.next (.row [w] 0 false)).push (.map [] 0):=⟨_,rfl⟩
 have elw:∀ K,dLen Try.prog #[74] w K=some (.int .i64 (xs.length:Nat)):=hm.arg.lens (P:=Try.prog) (ts:=#[74]) (t:=74) rfl isl_74
 have I0:DecI h h.next (h.next+1) h1.next H.next w xs [] K0:=by
  have hEs:Ext h (h1.set h.next (.row [w] 0 false)):=(hE.trans hE1).set (by omega)
  refine ⟨by rw[hK0];exact hEs.push _,?_,?_,?_,?_,?_,by omega⟩
  ·rw[hK0,get_push_other _ _ (by simp only[next_set];omega)];exact get_set_same _ _
  ·rw[hK0,get_push_other _ _ (by simp only[next_set];omega),get_set_other _ _ (by omega)];exact gb1
  ·rw[hK0];exact SetAt.new
  ·refine hm.sl.mono fun j hj=>⟨hj,?_⟩
   rw[hK0,get_push_other _ _ (by simp only[next_set];omega),get_set_other _ _ (by omega)]
  ·rw[hK0];exact Nat.lt_succ_self _
 have lw:∀ {ks K},DecI h h.next (h.next+1) h1.next H.next w xs ks K→cellAt K h.next 0=some w:=fun s=>cellAt_row s.ga
 simp -implicitDefEqProofs (disch:=first|omega|simp only[go_sem]) only[go_sem,true_and,XEnd,sst,w1,setAt]
 have hK0':∀ x,x=[w]→(h1.set h.next (.row x 0 false)).push (.map [] 0)=K0:=fun x hx=>by rw[hx,hK0]
 simp only[List.set_cons_zero,next_set,← hK0]
 simp -implicitDefEqProofs (disch:=first|omega|simp only[go_sem]) only[go_sem,true_and,lw I0,elw]
 refine XLoop_cut (fun s=>s.df=[.fn 58 [.pointer (some ⟨h.next,0,none⟩),.pointer (some ⟨h.next+1,0,none⟩)]]∧s.rd=none∧s.fr 2=some (.pointer (some ⟨h.next,0,none⟩))∧s.fr 3=some (.pointer (some ⟨h.next+1,0,none⟩))∧s.fr 4=some (.map (some h1.next))∧DecI h h.next (h.next+1) h1.next H.next w xs (xs.map (·.pos)) s.h) ?_ ?_
 ·refine xloop (σ:=Nat) (by kernel_rfl) (fun i s=>s.df=[.fn 58 [.pointer (some ⟨h.next,0,none⟩),.pointer (some ⟨h.next+1,0,none⟩)]]∧s.rd=none∧s.fr 2=some (.pointer (some ⟨h.next,0,none⟩))∧s.fr 3=some (.pointer (some ⟨h.next+1,0,none⟩))∧s.fr 4=some (.map (some h1.next))∧s.fr 16=some w∧s.fr 17=some (.int .i64 (xs.length:Nat))∧s.fr 18=some (.int .i64 (i:Nat))∧i≤xs.length∧DecI h h.next (h.next+1) h1.next H.next w xs ((xs.take i).map (·.pos)) s.h) (fun i=>xs.length - i) 0 ?_ ?_
  ·simp -implicitDefEqProofs (disch:=first|omega|simp only[go_sem]) only[go_sem,true_and]
   exact ⟨rfl,Nat.zero_le _,I0⟩
  ·rintro i ⟨fr,df,K,rd⟩ K' hK' hX ⟨hdf,hrd,f2,f3,f4,f16,f17,f18,hi,I⟩
   simp only at hdf hrd f2 f3 f4 f16 f17 f18 I
   subst hdf hrd
   simp -implicitDefEqProofs (disch:=first|omega|simp only[go_sem]) only[go_sem,true_and,f17,f18]
   refine XIf_dec (fun hc1=>?_) (fun hc1=>?_)
   ·have hj:i<xs.length:=by omega
    obtain ⟨id,o,g,c5,_,_,_⟩:=instr_idx I.sl hj
    have hw1:=wrap_succ hj (by omega)
    obtain ⟨x,hx⟩:∃ x,xs[i]=x:=⟨_,rfl⟩
    rw[hx]at c5
    obtain ⟨K1,hK1⟩:∃ K1,K1=K.push (.row (fInstr.enc x) 0 false):=⟨_,rfl⟩
    have g1:K1.get K.next=some (.row (fInstr.enc x) 0 false):=by rw[hK1];exact get_push_same _ _
    have p0:cellAt K1 K.next 0=some (.int .i64 x.pos):=cellAt_row g1
    have s5:=store5 (h:=K) (x:=x)
    rw[← hK1]at s5
    have I1:DecI h h.next (h.next+1) h1.next H.next w xs ((xs.take i).map (·.pos)) K1:=I.push (by rw[hK1];exact Ext.push1 _ _)
    obtain ⟨ob,hu,hs⟩:=I1.sm.update set_begins x.pos
    simp -implicitDefEqProofs (disch:=first|omega|simp only[go_sem]) only[go_sem,true_and,f16,f18,g,c5,s5,f4,p0,hu,hw1]
    refine hK' (i+1) _ ?_ (by omega)
    refine ⟨by trivial,by trivial,(vy f2),(vy f3),(vy f4),(vy f16),(vy f17),vz,by omega,?_⟩
    have:=I1.upd hs
    rw[show xs.take (i+1)=xs.take i++[x] by rw[← hx];simp]
    simpa using this
   ·obtain rfl:i=xs.length:=by omega
    refine hX _ _ (by simp) ?_
    rw[List.take_length]at I
    exact ⟨rfl,rfl,f2,f3,f4,I⟩
 rintro ⟨fr,df,K,rd⟩ ⟨hdf,hrd,f2,f3,f4,I⟩
 simp only at hdf hrd f2 f3 f4 I
 subst hdf hrd
 simp -implicitDefEqProofs (disch:=first|omega|simp only[go_sem]) only[go_sem,true_and,f2,lw I,elw]
 refine xloop (σ:=Nat) (by kernel_rfl) (fun i s=>s.df=[.fn 58 [.pointer (some ⟨h.next,0,none⟩),.pointer (some ⟨h.next+1,0,none⟩)]]∧s.rd=none∧s.fr 2=some (.pointer (some ⟨h.next,0,none⟩))∧s.fr 3=some (.pointer (some ⟨h.next+1,0,none⟩))∧s.fr 4=some (.map (some h1.next))∧s.fr 26=some w∧s.fr 27=some (.int .i64 (xs.length:Nat))∧s.fr 28=some (.int .i64 (i:Nat))∧i≤xs.length∧jumpsSo xs i∧DecI h h.next (h.next+1) h1.next H.next w xs (xs.map (·.pos)) s.h) (fun i=>xs.length - i) 0 ?_ ?_
 ·simp -implicitDefEqProofs (disch:=first|omega|simp only[go_sem]) only[go_sem,true_and,f2,f3,f4]
  exact ⟨rfl,Nat.zero_le _,fun j x hj=>absurd hj (Nat.not_lt_zero j),I⟩
 clear f2 f3 f4 I K fr
 rintro i ⟨fr,df,K,rd⟩ K' hK' hX ⟨hdf,hrd,f2,f3,f4,f26,f27,f28,hi,hso,I⟩
 simp only at hdf hrd f2 f3 f4 f26 f27 f28 I
 subst hdf hrd
 simp -implicitDefEqProofs (disch:=first|omega|simp only[go_sem]) only[go_sem,true_and,f27,f28]
 refine XIf_dec (fun hc1=>?_) (fun hc1=>?_)
 ·have hj:i<xs.length:=by omega
  obtain ⟨id,o,g,c5,_,_,_⟩:=instr_idx I.sl hj
  have hw1:=wrap_succ hj (by omega)
  have hmem:=List.getElem_mem hj
  have hsucc:=fun hx=>jumpsSo_succ hj hso hx
  have hbad:=fun (a:jumpsB xs[i].op=true) (b:xs[i].imm∉xs.map (·.pos))=>targets_bad hmem a b
  obtain ⟨x,hx⟩:∃ x,xs[i]=x:=⟨_,rfl⟩
  rw[hx]at c5
  rw[hx]at hsucc hbad
  obtain ⟨K1,hK1⟩:∃ K1,K1=K.push (.row (fInstr.enc x) 0 false):=⟨_,rfl⟩
  have g1:K1.get K.next=some (.row (fInstr.enc x) 0 false):=by rw[hK1];exact get_push_same _ _
  have p4:cellAt K1 K.next 4=some (.int .i64 x.imm):=cellAt_row g1
  have pc:cellsAt K1 K.next 0 5=some (instrV x):=by rw[cellsAt_row g1 (Nat.le_of_ble_eq_true rfl)];rfl
  have s5:=store5 (h:=K) (x:=x)
  rw[← hK1]at s5
  have I1:DecI h h.next (h.next+1) h1.next H.next w xs (xs.map (·.pos)) K1:=I.push (by rw[hK1];exact Ext.push1 _ _)
  simp -implicitDefEqProofs (disch:=first|omega|simp only[go_sem]) only[go_sem,true_and,f26,f28,g,c5,s5,pc]
  refine ncall jumps_c ?_
  by_cases hjb:jumpsB x.op=true
  case neg=>
   have hjb':jumpsB x.op=false:=by simpa using hjb
   simp -implicitDefEqProofs (disch:=first|omega|simp only[go_sem]) only[go_sem,true_and,hjb',dPick_t,dPick_f,f28,hw1]
   refine hK' (i+1) _ ?_ (by omega)
   exact ⟨by trivial,by trivial,(vy f2),(vy f3),(vy f4),(vy f26),(vy f27),vz,by omega,hsucc fun hh=>absurd hh hjb,I1⟩
  have hlk:=I1.sm.lookup set_begins x.imm
  by_cases hin:x.imm∈xs.map (·.pos)
  ·rw[decide_eq_true hin]at hlk
   simp -implicitDefEqProofs (disch:=first|omega|simp only[go_sem]) only[go_sem,true_and,hjb,f4,p4,hlk,dPick_t,dPick_f,f28,hw1]
   refine hK' (i+1) _ ?_ (by omega)
   exact ⟨by trivial,by trivial,(vy f2),(vy f3),(vy f4),(vy f26),(vy f27),vz,by omega,hsucc fun _=>hin,I1⟩
  ·rw[decide_eq_false hin]at hlk
   rw[hbad hjb hin]at hE0
   simp only[Bool.false_eq_true,if_false]at hE0
   simp -implicitDefEqProofs (disch:=first|omega|simp only[go_sem]) only[go_sem,true_and,hjb,f4,p4,hlk,dPick_t,dPick_f]
   refine ncall_pan (must_yes (by decide)) ?_
   refine hX _ _ (by simp) ?_
   simp -implicitDefEqProofs (disch:=first|omega|simp only[go_sem]) only[go_sem,true_and]
   refine XLv_fn good_dec (dec_pan I1.ga I1.gb (by omega)) ?_
   simp -implicitDefEqProofs (disch:=first|omega|simp only[go_sem]) only[go_sem,true_and,settleD,XLv_ret]
   refine ret_at (res_d (vy f2) (vy f3) ((get_set_other _ _ (by omega)).trans (get_set_same _ _)) (get_set_same _ _)) ⟨_,by rw[hE0],(I1.ext.set (by omega)).set (by omega),?_⟩
   rw[decL,hE0]
   exact .nil _ _ _
 ·obtain rfl:i=xs.length:=by omega
  rw[targets_all hso]at hE0
  simp only[if_true]at hE0
  refine hX _ _ (by simp) ?_
  have w2:storeAt K h.next 0 [w]=some K:=by
   rw[storeAt_row I.ga (Nat.le_of_ble_eq_true rfl) hone]
   exact congrArg some (set_self I.ga)
  have w3:storeAt K (h.next+1) 0 [.int .i64 0]=some K:=by
   rw[storeAt_row I.gb (Nat.le_of_ble_eq_true rfl) rfl]
   exact congrArg some (set_self I.gb)
  simp -implicitDefEqProofs (disch:=first|omega|simp only[go_sem]) only[go_sem,true_and,f2,f3,lw I,sst,w2,w3]
  refine XLv_fn good_dec dec_ret ?_
  simp -implicitDefEqProofs (disch:=first|omega|simp only[go_sem]) only[go_sem,true_and,settleD,XLv_ret]
  refine ret_at (res_d (vy f2) (vy f3) I.ga I.gb) ⟨_,by rw[hE0],I.ext,?_⟩
  rw[decL,hE0,if_pos rfl,hxs]
  have hlt:=I.lt
  exact I.sl.mono fun j hj=>⟨by omega,rfl⟩
end Go.Proofs.Ythjmkmoiopmfcaa

namespace Go.Proofs.Ythjmkmoiopmfcaa
open Go.D
set_option maxRecDepth 100000
theorem key_idx {S:Nat→Prop} {h:DHeap} {v:Value} {l:List Key} {i:Nat} (hb:Sl fKey.rep S h v l) (hi:i<l.length) :
 ∃ id o,dIndexAddr Try.prog 24 v (.int .i64 (i:Nat))=some (.pointer (some ⟨id,o,none⟩))∧cellsAt h id o 2=some (keyV l[i])∧cellAt h id (o+0)=some (.int .i32 l[i].t)∧cellAt h id (o+1)=some (.int .i64 l[i].r):=by
 obtain ⟨id,o,g,hs,hat⟩:=hb.idx (P:=Try.prog) (t:=24) el_24 (k:=.i64) (List.getElem?_eq_getElem hi)
 obtain ⟨a,b,_⟩:=hat.flat
 exact ⟨id,o,g,b,a 0 (by decide),a 1 (by decide)⟩
theorem keyLt_neg {a b:Key}:keyLt a b=!(decide (b.t<a.t)||(decide (b.t=a.t)&&decide (b.r≤a.r))):=by
 unfold keyLt
 by_cases h1:b.t<a.t
 ·simp[h1];omega
 ·by_cases h2:b.t=a.t
  ·by_cases h3:b.r≤a.r
   ·simp[h1,h2,h3,Int.not_lt.2]
   ·simp[h1,h2,h3,Int.not_le.1]
  ·simp[h1,h2];omega
theorem rises_c {h:DHeap} {v:Value} {l:List Key} (hb:Arg fKey.rep h v l) (hl:l.length≤4294967296):DC Try.prog 52 [v] h (.ret (.bool (risesB keyLt l))) h:=by
 refine Ct.pure (go_52 (by simp) ?_) (vin_bool _)
 have el:∀ K,dLen Try.prog #[24] v K=some (.int .i64 (l.length:Nat)):=hb.lens (P:=Try.prog) (ts:=#[24]) (t:=24) rfl isl_24
 simp -implicitDefEqProofs (disch:=first|omega|simp only[go_sem]) only[go_sem,true_and,c52,el]
 refine xloop (σ:=Nat) (by kernel_rfl) (fun i s=>s.df=[]∧s.h=h∧s.fr 0=some v∧s.fr 5=some (.int .i64 (l.length:Nat))∧s.fr 6=some (.int .i64 (i:Nat))∧i≤l.length∧risesB keyLt (l.drop (i - 1))=risesB keyLt l) (fun i=>l.length - i) 0 ?_ ?_
 ·simp -implicitDefEqProofs (disch:=first|omega|simp only[go_sem]) only[go_sem,true_and]
  exact ⟨rfl,Nat.zero_le _,rfl⟩
 ·rintro i ⟨fr,df,K,rd⟩ K' hK' hX ⟨rfl,rfl,f0,f5,f6,hi,ho⟩
  simp only at f0 f5 f6
  simp -implicitDefEqProofs (disch:=first|omega|simp only[go_sem]) only[go_sem,true_and,f5,f6]
  refine XIf_dec (fun hc1=>?_) (fun hc1=>?_)
  ·have hj:i<l.length:=by omega
   have hw1:=wrap_succ hj (by omega)
   simp -implicitDefEqProofs (disch:=first|omega|simp only[go_sem]) only[go_sem,true_and,f6]
   refine dr_52_0 ?_
   by_cases h0:(0:Int)<(i:Nat)
   case neg=>
    obtain rfl:i=0:=by omega
    simp -implicitDefEqProofs (disch:=first|omega|simp only[go_sem]) only[go_sem,true_and,l52_0,h0,dPick_t,dPick_f,f6,hw1,XStab_nil]
    refine hK' (0+1) _ ?_ (by omega)
    exact ⟨by trivial,by trivial,(vy f0),(vy f5),vz,by omega,ho⟩
   obtain ⟨j,rfl⟩:∃ j,i=j+1:=⟨i - 1,by omega⟩
   have h0':=eq_true h0
   have hwm:IntKind.i64.wrap (((j+1:Nat):Int) - 1)=(j:Nat):=by rw[wrap_i64_in (by omega) (by omega)];omega
   obtain ⟨id1,o1,g1,_,a0,a1⟩:=key_idx hb (i:=j+1) hj
   obtain ⟨id2,o2,g2,_,b0,b1⟩:=key_idx hb (i:=j) (by omega)
   rw[Nat.add_zero]at a0 b0
   rw[Nat.add_sub_cancel,risesB_two hj,keyLt_neg]at ho
   have good:∀ {s:St},s.df=[]→s.h=K→s.fr 0=some v→s.fr 5=some (.int .i64 (l.length:Nat))→s.fr 6=some (.int .i64 ((j+1+1:Nat):Int))→(decide (l[j+1].t<l[j].t)||(decide (l[j+1].t=l[j].t)&&decide (l[j+1].r≤l[j].r)))=false→K' .normal s:=fun a b c d e f=>by
    refine hK' (j+1+1) _ ⟨a,b,c,d,e,by omega,?_⟩ (by omega)
    rw[f,Bool.not_false,Bool.true_and]at ho
    exact ho
   by_cases h1:l[j+1].t<l[j].t
   ·have h1':=eq_true h1
    simp -implicitDefEqProofs (disch:=first|omega|simp only[go_sem]) only[go_sem,true_and,l52_0,f0,f6,h0',h1',g1,g2,hwm,a0,a1,b0,b1,dPick_t,dPick_f,XStab_nil]
    refine hX _ _ (by simp) ?_
    simp -implicitDefEqProofs (disch:=first|omega|simp only[go_sem]) only[go_sem,true_and]
    refine ⟨_,rfl,?_,.refl _⟩
    rw[← ho]
    simp[h1]
   by_cases h2:l[j+1].t=l[j].t
   case neg=>
    simp -implicitDefEqProofs (disch:=first|omega|simp only[go_sem]) only[go_sem,true_and,l52_0,f0,f6,h0',h1,h2,g1,g2,hwm,a0,a1,b0,b1,dPick_t,dPick_f,XStab_nil,hw1]
    exact good rfl rfl (vy f0) (vy f5) vz (by simp[h1,h2])
   have h2':=eq_true h2
   by_cases h3:l[j+1].r≤l[j].r
   ·have h3':=eq_true h3
    simp -implicitDefEqProofs (disch:=first|omega|simp only[go_sem]) only[go_sem,true_and,l52_0,f0,f6,h0',h1,h2',h3',g1,g2,hwm,a0,a1,b0,b1,dPick_t,dPick_f,XStab_nil]
    refine hX _ _ (by simp) ?_
    simp -implicitDefEqProofs (disch:=first|omega|simp only[go_sem]) only[go_sem,true_and]
    refine ⟨_,rfl,?_,.refl _⟩
    rw[← ho]
    simp[h1,h2,h3]
   ·simp -implicitDefEqProofs (disch:=first|omega|simp only[go_sem]) only[go_sem,true_and,l52_0,f0,f6,h0',h1,h2',h3,g1,g2,hwm,a0,a1,b0,b1,dPick_t,dPick_f,XStab_nil,hw1]
    exact good rfl rfl (vy f0) (vy f5) vz (by simp[h1,h2,h3])
  ·refine hX _ _ (by simp) ?_
   simp -implicitDefEqProofs (disch:=first|omega|simp only[go_sem]) only[go_sem,true_and]
   refine ⟨_,rfl,?_,.refl _⟩
   rw[← ho,risesB_short (by simp;omega)]
end Go.Proofs.Ythjmkmoiopmfcaa

namespace Go.Proofs.Ythjmkmoiopmfcaa
open Go.D
set_option maxRecDepth 100000
end Go.Proofs.Ythjmkmoiopmfcaa

namespace Go.Proofs.Ythjmkmoiopmfcaa
open Go.D
set_option maxRecDepth 100000
def badI (t:Txn) (x:Instr):Bool:=
 if x.op=3∨x.op=4 then decide ((t.reads.length:Int)≤x.imm) else if x.op=5∨x.op=6 then decide ((t.writes.length:Int)≤x.imm) else if x.op=2 then decide ((t.args.length:Int)≤x.imm) else false
def txnE (t:Txn):Int:=
 if t.ses<1∨1099511627776<t.ses∨t.req<1∨1099511627776<t.req then 1
 else if 8<t.args.length∨16<t.reads.length∨16<t.writes.length then 3
 else if risesB keyLt t.reads=false∨risesB keyLt t.writes=false then 1
 else if decE t.code≠0 then decE t.code
 else if (decL t.code).any (badI t) then 132 else 0
theorem walk_imm {l:List Int} (hb:∀ j,0≤l.getD j 0∧l.getD j 0≤255):∀ (n i:Nat),∀ x∈(walkF l n i).1,x.imm≤65535
 | 0,i,x,hx=>by simp[walkF]at hx
 | n+1,i,x,hx=>by
   simp only[walkF]at hx
   split at hx
   ·simp at hx
   ·split at hx
    ·rename_i he
     rcases List.mem_cons.1 hx with rfl | hx
     ·obtain ⟨e,_⟩:=oneT_next he
      rw[e]
      have b3:=hb (i+1+(if firstB (l.getD i 0) then 1 else 0)+if twoB (l.getD i 0) then 1 else 0)
      have b4:=hb (i+1+(if firstB (l.getD i 0) then 1 else 0)+(if twoB (l.getD i 0) then 1 else 0)+1)
      simp only[oneI,immW]
      generalize l.getD (i+1+(if firstB (l.getD i 0) then 1 else 0)+if twoB (l.getD i 0) then 1 else 0) 0=y3 at b3 ⊢
      generalize l.getD (i+1+(if firstB (l.getD i 0) then 1 else 0)+(if twoB (l.getD i 0) then 1 else 0)+1) 0=y4 at b4 ⊢
      repeat' split
      all_goals omega
     ·exact walk_imm hb n _ x hx
    ·simp at hx
theorem decL_imm {l:List Int} (hb:∀ j,0≤l.getD j 0∧l.getD j 0≤255):∀ x∈decL l,x.imm≤65535:=by
 intro x hx
 unfold decL at hx
 split at hx
 ·exact walk_imm hb _ _ x hx
 ·simp at hx
structure TxnAt (h:DHeap) (id:Nat) (t:Txn) (vc va vr vw:Value):Prop where
 c0:cellAt h id 0=some (.int .i64 t.ses)
 c1:cellAt h id 1=some (.int .i64 t.req)
 c2:cellAt h id 2=some vc
 c3:cellAt h id 3=some va
 c4:cellAt h id 4=some vr
 c5:cellAt h id 5=some vw
theorem TxnAt.of {h:DHeap} {id z:Nat} {ro:Bool} {t:Txn} {vc va vr vw:Value} (g:h.get id=some (.row [.int .i64 t.ses,.int .i64 t.req,vc,va,vr,vw] z ro)):TxnAt h id t vc va vr vw:=
 ⟨cellAt_row g,cellAt_row g,cellAt_row g,cellAt_row g,cellAt_row g,cellAt_row g⟩
theorem any_take {t:Txn} {l:List Instr} {i:Nat} (hi:i<l.length) (h:(l.take i).any (badI t)=false) (hx:badI t l[i]=false):(l.take (i+1)).any (badI t)=false:=by
 rw[List.take_succ_eq_append_getElem hi,List.any_append,h,Bool.false_or]
 simp[hx]
end Go.Proofs.Ythjmkmoiopmfcaa

namespace Go.Proofs.Ythjmkmoiopmfcaa
open Go.D
set_option maxRecDepth 100000
set_option maxHeartbeats 1000000 in
theorem checkT_c {h:DHeap} {t:Txn} {vc va vr vw:Value} (hc:Arg fU8.rep h vc t.code) (ha:Arg fI64.rep h va t.args) (hr:Arg fKey.rep h vr t.reads) (hw:Arg fKey.rep h vw t.writes) (hl:t.code.length≤1048576) (hby:∀ j,0≤t.code.getD j 0∧t.code.getD j 0≤255) :
 DC Try.prog 23 [txnV t.ses t.req vc va vr vw] h (.ret (.int .i64 (txnE t))) h:=by
 refine Ct.pure (go_23 (by simp) ?_) (vin_int _ _)
 have hvc:=hc.cells1
 have hva:=ha.cells1
 have hvr:=hr.cells1
 have hvw:=hw.cells1
 obtain ⟨H,hH⟩:∃ H,H=h.push (.row [.int .i64 t.ses,.int .i64 t.req,vc,va,vr,vw] 0 false):=⟨_,rfl⟩
 have hE:Ext h H:=by rw[hH];exact Ext.push1 _ _
 have g:H.get h.next=some (.row [.int .i64 t.ses,.int .i64 t.req,vc,va,vr,vw] 0 false):=by rw[hH];exact get_push_same _ _
 have hHn:H.next=h.next+1:=by rw[hH];rfl
 have LT:∀ K,Ext H K→TxnAt K h.next t vc va vr vw:=fun K e=>TxnAt.of ((e.get _ (by omega)).trans g)
 have L0:=LT H (.refl _)
 have ea:∀ K,dLen Try.prog #[23] va K=some (.int .i64 (t.args.length:Nat)):=ha.lens (P:=Try.prog) (ts:=#[23]) (t:=23) rfl isl_23
 have er:∀ K,dLen Try.prog #[24] vr K=some (.int .i64 (t.reads.length:Nat)):=hr.lens (P:=Try.prog) (ts:=#[24]) (t:=24) rfl isl_24
 have ew:∀ K,dLen Try.prog #[24] vw K=some (.int .i64 (t.writes.length:Nat)):=hw.lens (P:=Try.prog) (ts:=#[24]) (t:=24) rfl isl_24
 by_cases p1:t.ses<1∨1099511627776<t.ses∨t.req<1∨1099511627776<t.req
 ·have hT:txnE t=1:=by rw[txnE,if_pos p1]
  by_cases q1:t.ses<1
  ·have q1':=eq_true q1
   simp -implicitDefEqProofs (disch:=first|omega|simp only[go_sem]) only[go_sem,true_and,c23,← hH,L0.c0,L0.c1,q1',dPick_t,dPick_f]
   exact ⟨_,rfl,by rw[hT],hE⟩
  by_cases q2:1099511627776<t.ses
  ·have q2':=eq_true q2
   simp -implicitDefEqProofs (disch:=first|omega|simp only[go_sem]) only[go_sem,true_and,c23,← hH,L0.c0,L0.c1,q1,q2',dPick_t,dPick_f]
   exact ⟨_,rfl,by rw[hT],hE⟩
  by_cases q3:t.req<1
  ·have q3':=eq_true q3
   simp -implicitDefEqProofs (disch:=first|omega|simp only[go_sem]) only[go_sem,true_and,c23,← hH,L0.c0,L0.c1,q1,q2,q3',dPick_t,dPick_f]
   exact ⟨_,rfl,by rw[hT],hE⟩
  have q4:1099511627776<t.req:=by omega
  have q4':=eq_true q4
  simp -implicitDefEqProofs (disch:=first|omega|simp only[go_sem]) only[go_sem,true_and,c23,← hH,L0.c0,L0.c1,q1,q2,q3,q4',dPick_t,dPick_f]
  exact ⟨_,rfl,by rw[hT],hE⟩
 have q1:¬ t.ses<1:=fun hh=>p1 (.inl hh)
 have q2:¬ 1099511627776<t.ses:=fun hh=>p1 (.inr (.inl hh))
 have q3:¬ t.req<1:=fun hh=>p1 (.inr (.inr (.inl hh)))
 have q4:¬ 1099511627776<t.req:=fun hh=>p1 (.inr (.inr (.inr hh)))
 by_cases p2:8<t.args.length∨16<t.reads.length∨16<t.writes.length
 ·have hT:txnE t=3:=by rw[txnE,if_neg p1,if_pos p2]
  by_cases r1:(8:Int)<(t.args.length:Nat)
  ·have r1':=eq_true r1
   simp -implicitDefEqProofs (disch:=first|omega|simp only[go_sem]) only[go_sem,true_and,c23,← hH,L0.c0,L0.c1,L0.c3,L0.c4,L0.c5,ea,er,ew,q1,q2,q3,q4,r1',dPick_t,dPick_f]
   exact ⟨_,rfl,by rw[hT],hE⟩
  by_cases r2:(16:Int)<(t.reads.length:Nat)
  ·have r2':=eq_true r2
   simp -implicitDefEqProofs (disch:=first|omega|simp only[go_sem]) only[go_sem,true_and,c23,← hH,L0.c0,L0.c1,L0.c3,L0.c4,L0.c5,ea,er,ew,q1,q2,q3,q4,r1,r2',dPick_t,dPick_f]
   exact ⟨_,rfl,by rw[hT],hE⟩
  have r3:(16:Int)<(t.writes.length:Nat):=by omega
  have r3':=eq_true r3
  simp -implicitDefEqProofs (disch:=first|omega|simp only[go_sem]) only[go_sem,true_and,c23,← hH,L0.c0,L0.c1,L0.c3,L0.c4,L0.c5,ea,er,ew,q1,q2,q3,q4,r1,r2,r3',dPick_t,dPick_f]
  exact ⟨_,rfl,by rw[hT],hE⟩
 have r1:¬ (8:Int)<(t.args.length:Nat):=by omega
 have r2:¬ (16:Int)<(t.reads.length:Nat):=by omega
 have r3:¬ (16:Int)<(t.writes.length:Nat):=by omega
 simp -implicitDefEqProofs (disch:=first|omega|simp only[go_sem]) only[go_sem,true_and,c23,← hH,L0.c0,L0.c1,L0.c3,L0.c4,L0.c5,ea,er,ew,q1,q2,q3,q4,r1,r2,r3,dPick_t,dPick_f]
 refine ncall (rises_c (hr.ext hE) (by omega)) ?_
 cases u1:risesB keyLt t.reads with
 | false=>
   have hT:txnE t=1:=by rw[txnE,if_neg p1,if_neg p2,if_pos (.inl u1)]
   simp -implicitDefEqProofs (disch:=first|omega|simp only[go_sem]) only[go_sem,true_and,dPick_t,dPick_f]
   exact ⟨_,rfl,by rw[hT],hE⟩
 | true=>
 simp -implicitDefEqProofs (disch:=first|omega|simp only[go_sem]) only[go_sem,true_and,L0.c5]
 refine ncall (rises_c (hw.ext hE) (by omega)) ?_
 cases u2:risesB keyLt t.writes with
 | false=>
   have hT:txnE t=1:=by rw[txnE,if_neg p1,if_neg p2,if_pos (.inr u2)]
   simp -implicitDefEqProofs (disch:=first|omega|simp only[go_sem]) only[go_sem,true_and,dPick_t,dPick_f]
   exact ⟨_,rfl,by rw[hT],hE⟩
 | true=>
 have hT:txnE t=if decE t.code≠0 then decE t.code else if (decL t.code).any (badI t) then 132 else 0:=by rw[txnE,if_neg p1,if_neg p2,if_neg (by simp[u1,u2])]
 simp -implicitDefEqProofs (disch:=first|omega|simp only[go_sem]) only[go_sem,true_and,dPick_t,dPick_f,L0.c2]
 refine ncall_ct (decode_c (hc.ext hE) hl) ?_
 rintro r h1 ⟨w,rfl,hE1,hxs⟩
 have L1:=LT h1 hE1
 by_cases he:decE t.code=0
 case neg=>
  rw[if_pos he]at hT
  simp -implicitDefEqProofs (disch:=first|omega|simp only[go_sem]) only[go_sem,true_and,XEnd,he]
  exact ⟨_,rfl,by rw[hT],hE.trans hE1⟩
 have he':=eq_true he
 rw[if_neg (fun hh=>hh he)]at hT
 obtain ⟨xs,hx⟩:∃ xs,decL t.code=xs:=⟨_,rfl⟩
 rw[hx]at hxs hT
 have elw:∀ K,dLen Try.prog #[74] w K=some (.int .i64 (xs.length:Nat)):=hxs.lens (P:=Try.prog) (ts:=#[74]) (t:=74) rfl isl_74
 have hxl:xs.length≤1048576:=by
  rw[← hx]
  rw[decL,if_pos he]
  have:=walkAt_len (l:=t.code) (n:=t.code.length) (i:=0) (by omega)
  omega
 simp -implicitDefEqProofs (disch:=first|omega|simp only[go_sem]) only[go_sem,true_and,XEnd,he',elw]
 have himm:=decL_imm hby
 rw[hx]at himm
 refine xloop (σ:=Nat) (by kernel_rfl) (fun i s=>s.df=[]∧s.rd=none∧Ext h1 s.h∧s.fr 1=some (.pointer (some ⟨h.next,0,none⟩))∧s.fr 64=some w∧s.fr 65=some (.int .i64 (xs.length:Nat))∧s.fr 66=some (.int .i64 (i:Nat))∧i≤xs.length∧(xs.take i).any (badI t)=false) (fun i=>xs.length - i) 0 ?_ ?_
 ·simp -implicitDefEqProofs (disch:=first|omega|simp only[go_sem]) only[go_sem,true_and]
  exact ⟨.refl _,rfl,Nat.zero_le _,rfl⟩
 ·rintro i ⟨fr,df,K,rd⟩ K' hK' hX ⟨hdf,hrd,hEK,f1,f64,f65,f66,hi,hn⟩
  simp only at hdf hrd hEK f1 f64 f65 f66
  subst hdf hrd
  simp -implicitDefEqProofs (disch:=first|omega|simp only[go_sem]) only[go_sem,true_and,f65,f66]
  refine XIf_dec (fun hc1=>?_) (fun hc1=>?_)
  ·have hj:i<xs.length:=by omega
   obtain ⟨id,o,g',c5,_,_,_⟩:=instr_idx (hxs.ext hEK) hj
   have hw1:=wrap_succ hj (by omega)
   have hmem:=List.getElem_mem hj
   have him:=himm _ hmem
   have hsucc:=fun hx=>any_take (t:=t) hj hn hx
   have hbad:∀ hb:badI t xs[i]=true,xs.any (badI t)=true:=fun hb=>List.any_eq_true.2 ⟨_,hmem,hb⟩
   obtain ⟨x,hxi⟩:∃ x,xs[i]=x:=⟨_,rfl⟩
   rw[hxi]at c5 hsucc hbad him
   obtain ⟨K1,hK1⟩:∃ K1,K1=K.push (.row (fInstr.enc x) 0 false):=⟨_,rfl⟩
   have g1:K1.get K.next=some (.row (fInstr.enc x) 0 false):=by rw[hK1];exact get_push_same _ _
   have p1':cellAt K1 K.next 1=some (.int .i64 x.op):=cellAt_row g1
   have p4:cellAt K1 K.next 4=some (.int .i64 x.imm):=cellAt_row g1
   have s5:=store5 (h:=K) (x:=x)
   rw[← hK1]at s5
   have hEK1:Ext h1 K1:=hEK.trans (by rw[hK1];exact Ext.push1 _ _)
   have L2:=LT K1 (hE1.trans hEK1)
   have good:∀ {s:St},s.df=[]→s.rd=none→s.h=K1→s.fr 1=some (.pointer (some ⟨h.next,0,none⟩))→s.fr 64=some w→s.fr 65=some (.int .i64 (xs.length:Nat))→s.fr 66=some (.int .i64 ((i+1:Nat):Int))→badI t x=false→K' .normal s:=fun a r b c d e g f=>
    hK' (i+1) _ ⟨a,r,b▸hEK1,c,d,e,g,by omega,hsucc f⟩ (by omega)
   have bad:badI t x=true→∃ v,some (Value.int .i64 132)=some v∧DEnd.ret v=.ret (.int .i64 (txnE t))∧Ext h K1:=fun hb=>by
    rw[hbad hb,if_pos rfl]at hT
    exact ⟨_,rfl,by rw[hT],(hE.trans hE1).trans hEK1⟩
   by_cases n3:x.op=3
   ·have o':=eq_true n3
    have hb:badI t x=decide ((t.reads.length:Int)≤x.imm):=by simp[badI,n3]
    by_cases hm:(t.reads.length:Int)≤x.imm
    ·have hm':=eq_true hm
     simp -implicitDefEqProofs (disch:=first|omega|simp only[go_sem]) only[go_sem,true_and,f1,f64,f66,g',c5,s5,p1',p4,L2.c4,er,o',hm']
     refine hX _ _ (by simp) ?_
     simp -implicitDefEqProofs (disch:=first|omega|simp only[go_sem]) only[go_sem,true_and]
     exact bad (by rw[hb,decide_eq_true hm])
    ·simp -implicitDefEqProofs (disch:=first|omega|simp only[go_sem]) only[go_sem,true_and,f1,f64,f66,g',c5,s5,p1',p4,L2.c4,er,o',hm,hw1]
     exact good rfl rfl rfl (vy f1) (vy f64) (vy f65) vz (by rw[hb,decide_eq_false hm])
   by_cases n4:x.op=4
   ·have o':=eq_true n4
    have hb:badI t x=decide ((t.reads.length:Int)≤x.imm):=by simp[badI,n3,n4]
    by_cases hm:(t.reads.length:Int)≤x.imm
    ·have hm':=eq_true hm
     simp -implicitDefEqProofs (disch:=first|omega|simp only[go_sem]) only[go_sem,true_and,f1,f64,f66,g',c5,s5,p1',p4,L2.c4,er,n3,o',hm']
     refine hX _ _ (by simp) ?_
     simp -implicitDefEqProofs (disch:=first|omega|simp only[go_sem]) only[go_sem,true_and]
     exact bad (by rw[hb,decide_eq_true hm])
    ·simp -implicitDefEqProofs (disch:=first|omega|simp only[go_sem]) only[go_sem,true_and,f1,f64,f66,g',c5,s5,p1',p4,L2.c4,er,n3,o',hm,hw1]
     exact good rfl rfl rfl (vy f1) (vy f64) (vy f65) vz (by rw[hb,decide_eq_false hm])
   by_cases n5:x.op=5
   ·have o':=eq_true n5
    have hb:badI t x=decide ((t.writes.length:Int)≤x.imm):=by simp[badI,n3,n4,n5]
    by_cases hm:(t.writes.length:Int)≤x.imm
    ·have hm':=eq_true hm
     simp -implicitDefEqProofs (disch:=first|omega|simp only[go_sem]) only[go_sem,true_and,f1,f64,f66,g',c5,s5,p1',p4,L2.c5,ew,n3,n4,o',hm']
     refine hX _ _ (by simp) ?_
     simp -implicitDefEqProofs (disch:=first|omega|simp only[go_sem]) only[go_sem,true_and]
     exact bad (by rw[hb,decide_eq_true hm])
    ·simp -implicitDefEqProofs (disch:=first|omega|simp only[go_sem]) only[go_sem,true_and,f1,f64,f66,g',c5,s5,p1',p4,L2.c5,ew,n3,n4,o',hm,hw1]
     exact good rfl rfl rfl (vy f1) (vy f64) (vy f65) vz (by rw[hb,decide_eq_false hm])
   by_cases n6:x.op=6
   ·have o':=eq_true n6
    have hb:badI t x=decide ((t.writes.length:Int)≤x.imm):=by simp[badI,n3,n4,n5,n6]
    by_cases hm:(t.writes.length:Int)≤x.imm
    ·have hm':=eq_true hm
     simp -implicitDefEqProofs (disch:=first|omega|simp only[go_sem]) only[go_sem,true_and,f1,f64,f66,g',c5,s5,p1',p4,L2.c5,ew,n3,n4,n5,o',hm']
     refine hX _ _ (by simp) ?_
     simp -implicitDefEqProofs (disch:=first|omega|simp only[go_sem]) only[go_sem,true_and]
     exact bad (by rw[hb,decide_eq_true hm])
    ·simp -implicitDefEqProofs (disch:=first|omega|simp only[go_sem]) only[go_sem,true_and,f1,f64,f66,g',c5,s5,p1',p4,L2.c5,ew,n3,n4,n5,o',hm,hw1]
     exact good rfl rfl rfl (vy f1) (vy f64) (vy f65) vz (by rw[hb,decide_eq_false hm])
   by_cases n2:x.op=2
   ·have o':=eq_true n2
    have hb:badI t x=decide ((t.args.length:Int)≤x.imm):=by simp[badI,n3,n4,n5,n6,n2]
    by_cases hm:(t.args.length:Int)≤x.imm
    ·have hm':=eq_true hm
     simp -implicitDefEqProofs (disch:=first|omega|simp only[go_sem]) only[go_sem,true_and,f1,f64,f66,g',c5,s5,p1',p4,L2.c3,ea,n3,n4,n5,n6,o',hm']
     refine hX _ _ (by simp) ?_
     simp -implicitDefEqProofs (disch:=first|omega|simp only[go_sem]) only[go_sem,true_and]
     exact bad (by rw[hb,decide_eq_true hm])
    ·simp -implicitDefEqProofs (disch:=first|omega|simp only[go_sem]) only[go_sem,true_and,f1,f64,f66,g',c5,s5,p1',p4,L2.c3,ea,n3,n4,n5,n6,o',hm,hw1]
     exact good rfl rfl rfl (vy f1) (vy f64) (vy f65) vz (by rw[hb,decide_eq_false hm])
   have hb:badI t x=false:=by simp[badI,n3,n4,n5,n6,n2]
   have hm:¬ 1048576≤x.imm:=by omega
   simp -implicitDefEqProofs (disch:=first|omega|simp only[go_sem]) only[go_sem,true_and,f1,f64,f66,g',c5,s5,p1',p4,n3,n4,n5,n6,n2,hm,hw1]
   exact good rfl rfl rfl (vy f1) (vy f64) (vy f65) vz hb
  ·obtain rfl:i=xs.length:=by omega
   rw[List.take_length]at hn
   rw[hn]at hT
   refine hX _ _ (by simp) ?_
   simp -implicitDefEqProofs (disch:=first|omega|simp only[go_sem]) only[go_sem,true_and]
   exact ⟨_,rfl,by rw[hT];rfl,(hE.trans hE1).trans hEK⟩
end Go.Proofs.Ythjmkmoiopmfcaa

namespace Go.Proofs.Ythjmkmoiopmfcaa
open Go.D
set_option maxRecDepth 100000
theorem clone_keys {h:DHeap} {b:Value} {l:List Key} (hb:Arg fKey.rep h b l) (hl:l.length≤4294967296):DC Try.prog 77 [b] h (.ret (cloneV h b l)) (cloneH fKey h b l):=by
 refine Ct.cloned hb (go_77 (by simp) ?_)
 simp -implicitDefEqProofs (disch:=first|omega|simp only[go_sem]) only[go_sem,c77,hb.nilEq isl_24]
 refine XIf_split (fun hn=>?_) (fun hn=>?_)
 ·simp -implicitDefEqProofs (disch:=first|omega|simp only[go_sem]) only[go_sem]
  obtain ⟨_,rfl⟩:=isNilV_nil hb hn
  exact ⟨_,rfl,_,rfl,.nil _ (.refl h),hn.symm⟩
 ·have m0:Made fKey h (h.push (.row [] 2 false)) (.slice (some ⟨h.next,0,none⟩) 0 0) []:=.none0 fKey (.refl h) rfl
  obtain ⟨v2,h2,e2,m2,k2⟩:=m0.append app_24 (hb.ext (Ext.push1 _ _)) (by simpa using hl) (by decide)
  simp -implicitDefEqProofs (disch:=first|omega|simp only[go_sem]) only[go_sem,e2]
  exact ⟨_,rfl,_,rfl,m2,(m0.isNil_append rfl m2 fun hk=>(k2 hk).1).trans hn.symm⟩
structure TxV (S:Nat→Prop) (h:DHeap) (t:Txn) (vc va vr vw:Value):Prop where
 c:Sl fU8.rep S h vc t.code
 a:Sl fI64.rep S h va t.args
 r:Sl fKey.rep S h vr t.reads
 w:Sl fKey.rep S h vw t.writes
theorem TxV.mono {S S':Nat→Prop} {h h':DHeap} {t:Txn} {vc va vr vw:Value} (x:TxV S h t vc va vr vw) (m:∀ i,S i→S' i∧h'.get i=h.get i):TxV S' h' t vc va vr vw:=
 ⟨x.c.mono m,x.a.mono m,x.r.mono m,x.w.mono m⟩
structure TxLen (t:Txn):Prop where
 c:t.code.length≤1048576
 a:t.args.length≤1048576
 r:t.reads.length≤1048576
 w:t.writes.length≤1048576
abbrev InH (h:DHeap):Nat→Prop:=fun i=>i<h.next
abbrev Fresh (h h1:DHeap):Nat→Prop:=fun i=>h.next≤i∧i<h1.next
theorem TxV.ext {h h1:DHeap} {t:Txn} {vc va vr vw:Value} (x:TxV (InH h) h t vc va vr vw) (e:Ext h h1):TxV (InH h1) h1 t vc va vr vw:=
 x.mono fun i hi=>⟨Nat.lt_of_lt_of_le hi e.next,e.get i hi⟩
theorem TxV.one {S:Nat→Prop} {h:DHeap} {t:Txn} {vc va vr vw:Value} (x:TxV S h t vc va vr vw) (a b:Int):[.int .i64 a,.int .i64 b,vc,va,vr,vw].all Value.oneCell'=true:=by
 obtain ⟨_,_,rfl⟩:=x.c.isSlice
 obtain ⟨_,_,rfl⟩:=x.a.isSlice
 obtain ⟨_,_,rfl⟩:=x.r.isSlice
 obtain ⟨_,_,rfl⟩:=x.w.isSlice
 rfl
theorem store_cell {K:DHeap} {id o z:Nat} {R R':List Value} {v:Value} (hv:v.cells=#[v]) (hone:[v].all Value.oneCell'=true) (ho:o+1≤R.length) (hR:R.set o v=R') (g:K.get id=some (.row R z false)):storeAt K id o [v]=some (K.set id (.row R' z false)):=by
 subst hR
 exact storeAt_row g ho hone
theorem one_sl {α:Type} {R:Rep α} {S:Nat→Prop} {h:DHeap} {v:Value} {l:List α} (x:Sl R S h v l):[v].all Value.oneCell'=true:=by obtain ⟨_,_,rfl⟩:=x.isSlice;rfl
def Wrt (h:DHeap) (i:Nat):Prop:=∃ cs z,h.get i=some (.row cs z false)
theorem Made.slW {α:Type} {F:FRep α} {h h1:DHeap} {v:Value} {l:List α} (m:Made F h h1 v l):Sl F.rep (fun i=>Fresh h h1 i∧Wrt h1 i) h1 v l:=by
 obtain ⟨w,a,b⟩:=m.own
 rcases a with ⟨rfl,rfl,_⟩ | ⟨_,_,a⟩ | ⟨id,cap,cells,rfl,rfl,lt,g,hl,els⟩
 ·exact .nil _ _ _
 ·rcases a with ⟨rfl,rfl⟩ | ⟨id,o,cap,cells,esz,ro,h1,h2,_⟩
  ·exact .nil _ _ _
  ·exact h2.elim
 ·exact .inr ⟨id,0,cap,cells,_,false,rfl,⟨⟨b id rfl,lt⟩,cells,_,g⟩,g,.inr rfl,by omega,Els.flat.2 (Els.flat.1 els)⟩
theorem slW_mono {α:Type} {R:Rep α} {S S':Nat→Prop} {h h':DHeap} {v:Value} {l:List α} (x:Sl R (fun i=>S i∧Wrt h i) h v l) (m:∀ i,S i→S' i∧h'.get i=h.get i):Sl R (fun i=>S' i∧Wrt h' i) h' v l:=
 x.mono fun i hi=>by
  obtain ⟨a,b⟩:=m i hi.1
  obtain ⟨cs,z,g⟩:=hi.2
  exact ⟨⟨a,cs,z,b.trans g⟩,b⟩
def TxW (S:Nat→Prop) (h:DHeap) (t:Txn) (vc va vr vw:Value):Prop:=TxV (fun i=>S i∧Wrt h i) h t vc va vr vw
theorem TxW.v {S:Nat→Prop} {h:DHeap} {t:Txn} {vc va vr vw:Value} (x:TxW S h t vc va vr vw):TxV S h t vc va vr vw:=TxV.mono x fun _ hi=>⟨hi.1,rfl⟩
theorem TxW.mono {S S':Nat→Prop} {h h':DHeap} {t:Txn} {vc va vr vw:Value} (x:TxW S h t vc va vr vw) (m:∀ i,S i→S' i∧h'.get i=h.get i):TxW S' h' t vc va vr vw:=
 ⟨slW_mono x.c m,slW_mono x.a m,slW_mono x.r m,slW_mono x.w m⟩
end Go.Proofs.Ythjmkmoiopmfcaa

namespace Go.Proofs.Ythjmkmoiopmfcaa
open Go.D
set_option maxRecDepth 100000
theorem idx_first {P:Program} {t:TypeId} {s:ByteArray} (ht:P.underlying t=some .string) (hs:s[0]? = some 0):dIndex P t (.string s) (.int .u8 (IntKind.u8.wrap 0))=some (.int .u8 0):=by
 rw[show IntKind.u8.wrap 0=0 by decide]
 unfold dIndex
 rw[ht]
 simp only[Int.le_refl,if_true,Int.toNat_zero,hs]
 rfl
theorem len64_0 {h:DHeap}:DC Try.prog 108 [.int .u64 0] h (.ret (.int .i64 0)) h:=by
 refine Ct.pure (go_108 (by simp) ?_) (vin_int _ _)
 simp -implicitDefEqProofs (disch:=first|omega|simp only[go_sem]) only[go_sem,true_and,c108]
 rw[idx_first (by kernel_rfl) (by kernel_rfl)]
 simp -implicitDefEqProofs (disch:=first|omega|simp only[go_sem]) only[go_sem,true_and]
 exact ⟨_,rfl,congrArg (fun z=>DEnd.ret (Value.int IntKind.i64 z)) (by decide),.refl _⟩
theorem len_0 {h:DHeap}:DC Try.prog 92 [.int .u64 0] h (.ret (.int .i64 0)) h:=by
 refine Ct.pure (go_92 (by simp) ?_) (vin_int _ _)
 simp -implicitDefEqProofs (disch:=first|omega|simp only[go_sem]) only[go_sem,true_and,c92]
 refine ncall len64_0 ?_
 simp -implicitDefEqProofs (disch:=first|omega|simp only[go_sem]) only[go_sem,true_and]
 exact ⟨_,rfl,rfl,.refl _⟩
theorem insertion_0 {h:DHeap} {v:Value} {g:Value}:Ct Try.prog 99 [v,.int .i64 0,.int .i64 0,g] h fun r h1=>r=.ret (.tuple #[])∧h1=h:=by
 refine go_99 (by simp) ?_
 simp -implicitDefEqProofs (disch:=first|omega|simp only[go_sem]) only[go_sem,true_and,c99]
 refine xloop (σ:=Nat) (by kernel_rfl) (fun j s=>s.df=[]∧s.h=h∧s.fr 2=some (.int .i64 0)∧s.fr 8=some (.int .i64 1)) (fun j=>0) 0 ?_ ?_
 ·simp -implicitDefEqProofs (disch:=first|omega|simp only[go_sem]) only[go_sem,true_and]
  exact congrArg some (congrArg (Value.int IntKind.i64) (by decide))
 ·rintro i ⟨fr,df,K,rd⟩ K' hK' hX ⟨rfl,rfl,f2,f8⟩
  simp only at f2 f8
  simp -implicitDefEqProofs (disch:=first|omega|simp only[go_sem]) only[go_sem,true_and,f2,f8]
  refine hX _ _ (by simp) ?_
  simp -implicitDefEqProofs (disch:=first|omega|simp only[go_sem]) only[go_sem,true_and]
  exact ⟨_,rfl,rfl,trivial⟩
theorem pdq_0 {h:DHeap} {v g x:Value}:Ct Try.prog 91 [v,.int .i64 0,.int .i64 0,x,g] h fun r h1=>r=.ret (.tuple #[])∧h1=h:=by
 refine go_91 (by simp) ?_
 have e0:IntKind.i64.wrap (0 - 0)=0:=by decide
 simp -implicitDefEqProofs (disch:=first|omega|simp only[go_sem]) only[go_sem,true_and,c91]
 refine xloop (σ:=Nat) (by kernel_rfl) (fun j s=>s.df=[]∧s.rd=none∧s.h=h∧s.fr 0=some v∧s.fr 1=some (.int .i64 0)∧s.fr 2=some (.int .i64 0)∧s.fr 4=some g) (fun j=>0) 0 ?_ ?_
 ·simp -implicitDefEqProofs (disch:=first|omega|simp only[go_sem]) only[go_sem,true_and]
 ·rintro i ⟨fr,df,K,rd⟩ K' hK' hX ⟨rfl,rfl,rfl,f0,f1,f2,f4⟩
  simp only at f0 f1 f2 f4
  simp -implicitDefEqProofs (disch:=first|omega|simp only[go_sem]) only[go_sem,true_and,f0,f1,f2,f4,e0]
  refine ncall_ct insertion_0 ?_
  rintro r h1 ⟨rfl,rfl⟩
  simp -implicitDefEqProofs (disch:=first|omega|simp only[go_sem]) only[go_sem,true_and,XEnd]
  refine hX _ _ (by simp) ?_
  simp -implicitDefEqProofs (disch:=first|omega|simp only[go_sem]) only[go_sem,true_and]
  exact ⟨_,rfl,rfl,trivial⟩
theorem sort_0 {h:DHeap} {v:Value} {g:Value} (hb:Arg fKey.rep h v []):Ct Try.prog 78 [v,g] h fun r h1=>r=.ret (.tuple #[])∧h1=h:=by
 refine go_78 (by simp) ?_
 have el:∀ K,dLen Try.prog #[24] v K=some (.int .i64 ((([]:List Key).length:Nat):Int)):=hb.lens (P:=Try.prog) (ts:=#[24]) (t:=24) rfl isl_24
 have e0:IntKind.u64.wrap ((0:Nat):Int)=0:=by decide
 simp -implicitDefEqProofs (disch:=first|omega|simp only[go_sem]) only[go_sem,true_and,c78,el,List.length_nil,e0]
 refine ncall len_0 ?_
 simp -implicitDefEqProofs (disch:=first|omega|simp only[go_sem]) only[go_sem,true_and]
 refine ncall_ct pdq_0 ?_
 rintro r h1 ⟨rfl,rfl⟩
 simp -implicitDefEqProofs (disch:=first|omega|simp only[go_sem]) only[go_sem,true_and,XEnd]
 exact ⟨_,rfl,rfl,trivial⟩
end Go.Proofs.Ythjmkmoiopmfcaa

namespace Go.Proofs.Ythjmkmoiopmfcaa
open Go.D
set_option maxRecDepth 100000
theorem lay_bool:Lays Try.prog 4 fB.rep (fun _=>1):=.bool (by kernel_rfl) (by kernel_rfl)
theorem lay_keys:Lays Try.prog 24 (rSl fKey.rep) (sumB fun _=>2):=.slice (e:=44) (by kernel_rfl) (by kernel_rfl) (by decide) lay_key
theorem lay_pair:Lays Try.prog 46 fPair.rep (fun _=>3):=
 (Lays.of (l:=[(44,0),(2,2)]) (by kernel_rfl) (by kernel_rfl) (.cons lay_key (.one lay_i64))).conv (Q:=fPair.rep) rfl (fun x=>⟨x.1,x.2⟩)
   (fun _ _ _ _ h=>by
     obtain ⟨c1,c2,rfl,⟨rfl,k1⟩,rfl,k2⟩:=h
     exact ⟨rfl,k1,k2⟩) (fun _=>Nat.le_refl _)
theorem lay_pairs:Lays Try.prog 27 (rSl fPair.rep) (sumB fun _=>3):=.slice (e:=46) (by kernel_rfl) (by kernel_rfl) (by decide) lay_pair
def bulkTxn (x:Txn):Nat:=2+(sumB (fun _=>1) x.code+(sumB (fun _=>1) x.args+(sumB (fun _=>2) x.reads+sumB (fun _=>2) x.writes)))
abbrev txnF:List (Nat × Nat):=[(2,0),(2,1),(22,2),(23,3),(24,4),(24,5)]
theorem lay_txn:Lays Try.prog 26 rTxn bulkTxn:=
 (Lays.of (l:=txnF) (by kernel_rfl) (by kernel_rfl) (.cons lay_i64 (.cons lay_i64 (.cons lay_bytes (.cons lay_ints (.cons lay_keys (.one lay_keys))))))).conv (Q:=rTxn) rfl (fun x=>⟨x.1,x.2.1,x.2.2.1,x.2.2.2.1,x.2.2.2.2.1,x.2.2.2.2.2⟩) (fun _ _ _ _ h=>h)
   (fun x=>by simp only[bulkTxn];omega)
theorem par_txn:Par Try.prog 26 true:=par_struct (l:=txnF) (by kernel_rfl)
theorem txn_in {S:Nat→Prop} {h:DHeap} {cs:List Value} {x:Txn} (a:rTxn.rd S h cs x):∃ vc va vr vw,cs=[.int .i64 x.ses,.int .i64 x.req,vc,va,vr,vw]∧inK .i64 x.ses∧inK .i64 x.req∧TxV S h x vc va vr vw:=by
 obtain ⟨_,_,rfl,⟨rfl,k1⟩,_,_,rfl,⟨rfl,k2⟩,_,_,rfl,⟨vc,rfl,h1⟩,_,_,rfl,⟨va,rfl,h2⟩,_,_,rfl,⟨vr,rfl,h3⟩,vw,rfl,h4⟩:=a
 exact ⟨vc,va,vr,vw,rfl,k1,k2,h1,h2,h3,h4⟩
theorem bulk_txn (x:Txn):x.code.length≤bulkTxn x∧x.args.length≤bulkTxn x∧x.reads.length≤bulkTxn x∧x.writes.length≤bulkTxn x:=by
 have h1:=sumB_len (fun _=>1) x.code
 have h2:=sumB_len (fun _=>1) x.args
 have h3:=sumB_len (fun _=>2) x.reads
 have h4:=sumB_len (fun _=>2) x.writes
 have hb:bulkTxn x=2+(sumB (fun _=>1) x.code+(sumB (fun _=>1) x.args+(sumB (fun _=>2) x.reads+sumB (fun _=>2) x.writes))):=rfl
 omega
theorem txn_len {x:Txn} (h:bulkTxn x≤1048576):TxLen x:=by
 have:=bulk_txn x
 exact ⟨by omega,by omega,by omega,by omega⟩
end Go.Proofs.Ythjmkmoiopmfcaa

namespace Go.D
variable {P:Program} {nt:Nat}
structure KeyOf (P:Program) (kt:TypeId) {κ:Type} (enc:κ→Value):Prop where
 flat:∀ k,flat3 (enc k)=true
 inj:∀ a b,enc a=enc b→a=b
 chk:∀ (b:Bool) k,∃ u,quick P (Instr.checkKey b 10000 kt (enc k))=some (.inr u)
 bits:∀ k,Instr.sameBits 10000 (enc k) (enc k)=true
 find:∀ k (es:List MapEntry),(∀ e∈es,∃ a,e.key=enc a)→∃ r,dFind P kt (enc k) es=some r∧(∀ i,r=some i→∃ e,es[i]? = some e∧e.key=enc k)∧(r=none→∀ e∈es,e.key≠enc k)
theorem findNow_intK {k:IntKind} {n:Int}:∀ {es:List MapEntry} {i:Nat},(∀ e∈es,∃ m,e.key=.int k m) →
 (∃ j v,Instr.findNow (.int k) (.int k n) es i=some (some (j,v))∧i≤j∧∃ e,es[j - i]? = some e∧e.key=.int k n)∨(Instr.findNow (.int k) (.int k n) es i=some none∧∀ e∈es,e.key≠.int k n)
 | [],i,_=>.inr ⟨rfl,fun e he=>by simp at he⟩
 | e :: es,i,h=>by
   obtain ⟨m,h1⟩:=h e (by simp)
   have ih:=findNow_intK (k:=k) (n:=n) (es:=es) (i:=i+1) fun e he=>h e (by simp[he])
   simp only[Instr.findNow,h1,Instr.sameNow,if_true]
   by_cases hm:n=m
   ·subst hm
    refine .inl ⟨i,e.val,by simp,Nat.le_refl _,e,by simp,h1⟩
   ·have:(n==m)=false:=by simpa using hm
    rw[this]
    rcases ih with ⟨j,v,a,b,e',c,d⟩ | ⟨a,b⟩
    ·exact .inl ⟨j,v,a,by omega,e',by rw[show j - i=(j - (i+1))+1 by omega];exact c,d⟩
    ·refine .inr ⟨a,fun e' he=>?_⟩
     rcases List.mem_cons.1 he with rfl | he
     ·rw[h1]
      intro hh
      cases hh
      exact hm rfl
     ·exact b e' he
theorem KeyOf.int {kt:TypeId} {k:IntKind} (hu:P.underlying kt=some (.int k)):KeyOf P kt (fun n:Int=>Value.int k n) where
 flat _:=rfl
 inj a b h:=by cases h;rfl
 chk b n:=checkKey_int hu b n
 bits n:=sameBits_int 9999
 find n es h:=by
  unfold dFind
  rw[hu]
  rcases findNow_intK (n:=n) (i:=0) h with ⟨j,v,a,_,e,c,d⟩ | ⟨a,b⟩
  ·exact ⟨some j,by simp only[a];rfl,fun i hi=>(by cases hi;exact ⟨e,c,d⟩),fun h=>by cases h⟩
  ·exact ⟨none,by simp only[a];rfl,fun i hi=>(by cases hi),fun _=>b⟩
theorem dFindK_eq {kt:TypeId} {κ:Type} [DecidableEq κ] {enc:κ→Value} (heq:∀ a b,quick P (Op.equal kt (enc a) (enc b))=some (.inr (decide (a=b)))) (inj:∀ a b,enc a=enc b→a=b) {k:κ}:∀ {es:List MapEntry} {i:Nat},(∀ e∈es,∃ a,e.key=enc a) →
 (∃ j,dFindK P kt (enc k) es i=some (some j)∧i≤j∧∃ e,es[j - i]? = some e∧e.key=enc k)∨(dFindK P kt (enc k) es i=some none∧∀ e∈es,e.key≠enc k)
 | [],i,_=>.inr ⟨rfl,fun e he=>by simp at he⟩
 | e :: es,i,h=>by
   obtain ⟨m,h1⟩:=h e (by simp)
   have ih:=dFindK_eq heq inj (k:=k) (es:=es) (i:=i+1) fun e he=>h e (by simp[he])
   unfold dFindK
   rw[h1,heq]
   by_cases hm:k=m
   ·subst hm
    rw[decide_eq_true rfl]
    exact .inl ⟨i,rfl,Nat.le_refl _,e,by simp,h1⟩
   ·rw[decide_eq_false hm]
    rcases ih with ⟨j,a,b,e',c,d⟩ | ⟨a,b⟩
    ·exact .inl ⟨j,a,by omega,e',by rw[show j - i=(j - (i+1))+1 by omega];exact c,d⟩
    ·refine .inr ⟨a,fun e' he=>?_⟩
     rcases List.mem_cons.1 he with rfl | he
     ·rw[h1]
      exact fun hh=>hm (inj _ _ hh).symm
     ·exact b e' he
theorem KeyOf.eq {kt:TypeId} {κ:Type} [DecidableEq κ] {enc:κ→Value} {d:TypeDesc} (hu:P.underlying kt=some d) (flat:∀ k,flat3 (enc k)=true) (inj:∀ a b,enc a=enc b→a=b) (chk:∀ (b:Bool) k,∃ u,quick P (Instr.checkKey b 10000 kt (enc k))=some (.inr u)) (bits:∀ k,Instr.sameBits 10000 (enc k) (enc k)=true)
 (hnow:∀ a b,Instr.sameNow d (enc a) (enc b)=none) (heq:∀ a b,quick P (Op.equal kt (enc a) (enc b))=some (.inr (decide (a=b)))):KeyOf P kt enc where
 flat:=flat
 inj:=inj
 chk:=chk
 bits:=bits
 find k es h:=by
  unfold dFind
  rw[hu]
  cases es with
  | nil=>exact ⟨none,rfl,fun i hi=>(by cases hi),fun _ e he=>by cases he⟩
  | cons e es=>
    obtain ⟨m,h1⟩:=h e (by simp)
    have:Instr.findNow d (enc k) (e :: es) 0=none:=by simp only[Instr.findNow,h1,hnow]
    simp only[this]
    rcases dFindK_eq heq inj (k:=k) (i:=0) h with ⟨j,a,_,e',c,q⟩ | ⟨a,b⟩
    ·exact ⟨some j,a,fun i hi=>(by cases hi;exact ⟨e',c,q⟩),fun h=>by cases h⟩
    ·exact ⟨none,a,fun i hi=>(by cases hi),fun _=>b⟩
section
variable {κ:Type} [DecidableEq κ]
def mget (m:List (κ × Value)) (k:κ):Option Value:=(m.find? fun p=>p.1=k).map (·.2)
def mput (m:List (κ × Value)) (k:κ) (v:Value):List (κ × Value):=if k∈m.map (·.1) then m.map (fun p=>if p.1=k then (k,v) else p) else m++[(k,v)]
theorem mget_none {m:List (κ × Value)} {k:κ}:mget m k=none↔k∉m.map (·.1):=by
 unfold mget
 rw[Option.map_eq_none_iff,List.find?_eq_none]
 constructor
 ·intro h hm
  obtain ⟨p,hp,e⟩:=List.mem_map.1 hm
  exact h p hp (by simpa using e)
 ·intro h p hp e
  exact h (List.mem_map.2 ⟨p,hp,by simpa using e⟩)
theorem mget_mem {m:List (κ × Value)} (hn:(m.map (·.1)).Nodup) {k:κ} {v:Value}:mget m k=some v↔(k,v)∈m:=by
 induction m with
 | nil=>simp[mget]
 | cons p m ih=>
   obtain ⟨k0,v0⟩:=p
   simp only[List.map_cons,List.nodup_cons]at hn
   unfold mget at ih ⊢
   by_cases h:k0=k
   ·subst h
    rw[List.find?_cons_of_pos (by simp)]
    simp only[Option.map_some,Option.some.injEq,List.mem_cons,Prod.mk.injEq,true_and]
    constructor
    ·rintro rfl;exact .inl rfl
    ·rintro (rfl | hm)
     ·rfl
     ·exact absurd (List.mem_map.2 ⟨_,hm,rfl⟩) hn.1
   ·rw[List.find?_cons_of_neg (by simpa using h),ih hn.2]
    simp only[List.mem_cons,Prod.mk.injEq]
    constructor
    ·exact .inr
    ·rintro (⟨rfl,_⟩ | hm)
     ·exact absurd rfl h
     ·exact hm
theorem mput_keys {m:List (κ × Value)} {k:κ} {v:Value}:(mput m k v).map (·.1)=if k∈m.map (·.1) then m.map (·.1) else m.map (·.1)++[k]:=by
 unfold mput
 split
 ·rw[List.map_map]
  refine List.map_congr_left fun p _=>?_
  show (if p.1=k then (k,v) else p).1=p.1
  split
  ·rename_i h;exact h.symm
  ·rfl
 ·simp
theorem mput_nodup {m:List (κ × Value)} {k:κ} {v:Value} (hn:(m.map (·.1)).Nodup):((mput m k v).map (·.1)).Nodup:=by
 rw[mput_keys]
 split
 ·exact hn
 ·rename_i h
  refine List.nodup_append.2 ⟨hn,by simp,fun a ha b hb=>?_⟩
  simp only[List.mem_singleton]at hb
  subst hb
  exact fun e=>h (e▸ha)
theorem mget_mput {m:List (κ × Value)} {k k':κ} {v:Value} (hn:(m.map (·.1)).Nodup):mget (mput m k v) k'=if k'=k then some v else mget m k':=by
 have hn':=mput_nodup (k:=k) (v:=v) hn
 have key:∀ u,mget (mput m k v) k'=some u↔(if k'=k then some v else mget m k')=some u:=fun u=>by
  rw[mget_mem hn']
  unfold mput
  split
  ·rename_i hk
   rw[List.mem_map]
   constructor
   ·rintro ⟨p,hp,he⟩
    split at he
    ·cases he
     rw[if_pos rfl]
    ·rename_i hne
     subst he
     rw[if_neg hne]
     exact (mget_mem hn).2 hp
   ·intro he
    split at he
    ·rename_i hkk
     cases he
     obtain ⟨p,hp,hpk⟩:=List.mem_map.1 hk
     exact ⟨p,hp,by rw[if_pos hpk,hkk]⟩
    ·rename_i hne
     exact ⟨(k',u),(mget_mem hn).1 he,by rw[if_neg hne]⟩
  ·rename_i hk
   rw[List.mem_append,List.mem_singleton]
   constructor
   ·rintro (hp | hp)
    ·have:k'≠k:=fun e=>hk (e▸List.mem_map.2 ⟨_,hp,rfl⟩)
     rw[if_neg this]
     exact (mget_mem hn).2 hp
    ·cases hp
     rw[if_pos rfl]
   ·intro he
    split at he
    ·rename_i hkk
     cases he
     exact .inr (by rw[hkk])
    ·exact .inl ((mget_mem hn).1 he)
 cases h1:(if k'=k then some v else mget m k') with
 | some u=>exact (key u).2 h1
 | none=>
   cases h2:mget (mput m k v) k' with
   | none=>rfl
   | some u=>
     have:=(key u).1 h2
     rw[h1]at this
     cases this
end
def MapAt {κ:Type} (enc:κ→Value) (h:DHeap) (id:Nat) (m:List (κ × Value)):Prop:=
 ∃ es c,h.get id=some (.map es c)∧es.map (fun e=>(e.key,e.val))=m.map (fun p=>(enc p.1,p.2))∧(m.map (·.1)).Nodup∧(es.map (·.born)).Nodup∧∀ e∈es,e.born<c
theorem MapAt.keep {κ:Type} {enc:κ→Value} {h h':DHeap} {id:Nat} {m:List (κ × Value)} (a:MapAt enc h id m) (hg:h'.get id=h.get id):MapAt enc h' id m:=by
 obtain ⟨es,c,g,r⟩:=a
 exact ⟨es,c,hg.trans g,r⟩
theorem MapAt.new {κ:Type} {enc:κ→Value} {h:DHeap}:MapAt enc (h.push (.map [] 0)) h.next []:=
 ⟨[],0,get_push_same _ _,rfl,by simp,by simp,fun e he=>by cases he⟩
structure MapT (P:Program) (t:TypeId) {κ:Type} (enc:κ→Value) (z:Value):Prop where
 map:∃ kt et,P.underlying t=some (.map kt et)∧KeyOf P kt enc∧zeroOf P et=some z
theorem MapAt.es_key {κ:Type} {enc:κ→Value} {m:List (κ × Value)} {es:List MapEntry} (hm:es.map (fun e=>(e.key,e.val))=m.map (fun p=>(enc p.1,p.2))) {i:Nat} {e:MapEntry} (he:es[i]? = some e):∃ p,m[i]? = some p∧e.key=enc p.1∧e.val=p.2:=by
 have:=congrArg (fun l=>l[i]?) hm
 simp only[List.getElem?_map,he,Option.map_some]at this
 cases hp:m[i]? with
 | none=>rw[hp]at this;cases this
 | some p=>
   rw[hp]at this
   simp only[Option.map_some,Option.some.injEq,Prod.mk.injEq]at this
   exact ⟨p,rfl,this.1,this.2⟩
theorem MapAt.found {κ:Type} [DecidableEq κ] {enc:κ→Value} {kt:TypeId} {m:List (κ × Value)} {es:List MapEntry} (K:KeyOf P kt enc) (hm:es.map (fun e=>(e.key,e.val))=m.map (fun p=>(enc p.1,p.2))) (hn:(m.map (·.1)).Nodup) (k:κ) :
 (∃ i e v,dFind P kt (enc k) es=some (some i)∧es[i]? = some e∧m[i]? = some (k,v)∧e.key=enc k∧e.val=v∧mget m k=some v)∨(dFind P kt (enc k) es=some none∧k∉m.map (·.1)):=by
 have hk:∀ e∈es,∃ a,e.key=enc a:=fun e he=>by
  obtain ⟨i,hi⟩:=List.getElem?_of_mem he
  obtain ⟨p,_,h2,_⟩:=MapAt.es_key hm hi
  exact ⟨_,h2⟩
 obtain ⟨r,h1,h2,h3⟩:=K.find k es hk
 cases r with
 | some i=>
   obtain ⟨e,a,b⟩:=h2 i rfl
   obtain ⟨p,c,d,e'⟩:=MapAt.es_key hm a
   have:p.1=k:=K.inj _ _ (d.symm.trans b)
   refine .inl ⟨i,e,p.2,h1,a,by rw[← this];exact c,b,e',(mget_mem hn).2 ?_⟩
   rw[← this]
   exact List.mem_of_getElem? c
 | none=>
   refine .inr ⟨h1,fun hm2=>?_⟩
   obtain ⟨p,hp,hpk⟩:=List.mem_map.1 hm2
   obtain ⟨i,hi⟩:=List.getElem?_of_mem hp
   have:=congrArg (fun l=>l[i]?) hm
   simp only[List.getElem?_map,hi,Option.map_some]at this
   cases he:es[i]? with
   | none=>rw[he]at this;cases this
   | some e=>
     rw[he]at this
     simp only[Option.map_some,Option.some.injEq,Prod.mk.injEq]at this
     exact h3 rfl e (List.mem_of_getElem? he) (by rw[this.1,hpk])
theorem MapAt.lookup {κ:Type} [DecidableEq κ] {enc:κ→Value} {z:Value} {t:TypeId} {h:DHeap} {id:Nat} {m:List (κ × Value)} (T:MapT P t enc z) (a:MapAt enc h id m) (k:κ) (ok:Bool) :
 dLookup P t (.map (some id)) (enc k) ok h=some (if ok then .tuple #[(mget m k).getD z,.bool (mget m k).isSome] else (mget m k).getD z):=by
 obtain ⟨kt,et,hu,K,hz⟩:=T.map
 obtain ⟨es,c,g,hm,hn,_,_⟩:=a
 obtain ⟨u,hc⟩:=K.chk es.isEmpty k
 unfold dLookup
 simp only[hu,dMapEs,g,K.flat k,if_true,hc]
 rcases MapAt.found K hm hn k with ⟨i,e,v,h1,h2,h3,h4,h5,h6⟩ | ⟨h1,h2⟩
 ·simp only[h1,h2,h6,h5,Option.getD_some,Option.isSome_some]
 ·simp only[h1,hz,mget_none.2 h2,Option.getD_none,Option.isSome_none]
theorem MapAt.update {κ:Type} [DecidableEq κ] {enc:κ→Value} {z:Value} {t:TypeId} {h:DHeap} {id:Nat} {m:List (κ × Value)} (T:MapT P t enc z) (a:MapAt enc h id m) (k:κ) (v:Value) :
 ∃ o,dMapUpdate P t (.map (some id)) (enc k) v h=some (h.set id o)∧MapAt enc (h.set id o) id (mput m k v):=by
 obtain ⟨kt,et,hu,K,hz⟩:=T.map
 obtain ⟨es,c,g,hm,hn,hb,hlt⟩:=a
 obtain ⟨u,hc⟩:=K.chk false k
 unfold dMapUpdate
 simp only[hu,g,K.flat k,if_true,hc]
 rcases MapAt.found K hm hn k with ⟨i,e,v0,h1,h2,h3,h4,h5,h6⟩ | ⟨h1,h2⟩
 ·have hbits:Instr.sameBits 10000 e.key (enc k)=true:=by rw[h4];exact K.bits k
  simp only[h1,h2,hbits,if_true]
  refine ⟨_,rfl,_,_,get_set_same _ _,?_,mput_nodup hn,?_,?_⟩
  ·have hk:k∈m.map (·.1):=List.mem_map.2 ⟨_,List.mem_of_getElem? h3,rfl⟩
   rw[mput,if_pos hk,List.map_set,hm]
   refine List.ext_getElem? fun j=>?_
   rw[List.getElem?_set,List.getElem?_map,List.getElem?_map,List.getElem?_map]
   by_cases hj:i=j
   ·subst hj
    have hlen:i<(m.map fun p=>(enc p.1,p.2)).length:=by simpa using (List.getElem?_eq_some_iff.1 h3).1
    rw[if_pos rfl,if_pos hlen,h3]
    simp
   ·rw[if_neg hj]
    cases hp:m[j]? with
    | none=>rfl
    | some p=>
      have:p.1≠k:=fun e=>by
       have q1:(m.map (·.1))[j]? = some k:=by rw[List.getElem?_map,hp];simp[e]
       have q2:(m.map (·.1))[i]? = some k:=by rw[List.getElem?_map,h3];rfl
       have hil:=(List.getElem?_eq_some_iff.1 q2).1
       exact hj ((List.getElem?_inj hil hn).1 (q2.trans q1.symm))
      simp[this]
  ·have:(es.set i { e with key:=enc k,val:=v }).map (·.born)=es.map (·.born):=by
    rw[List.map_set]
    refine List.ext_getElem? fun j=>?_
    rw[List.getElem?_set]
    split
    ·rename_i hj
     subst hj
     rw[List.getElem?_map,h2,List.length_map,if_pos (List.getElem?_eq_some_iff.1 h2).1]
     rfl
    ·rfl
   rw[this]
   exact hb
  ·intro e' he'
   rcases List.mem_or_eq_of_mem_set he' with he' | rfl
   ·exact hlt e' he'
   ·exact hlt e (List.mem_of_getElem? h2)
 ·simp only[h1]
  refine ⟨_,rfl,_,_,get_set_same _ _,?_,mput_nodup hn,?_,?_⟩
  ·rw[mput,if_neg h2,List.map_append,List.map_append,hm]
   rfl
  ·rw[List.map_append]
   refine List.nodup_append.2 ⟨hb,by simp,fun x hx y hy=>?_⟩
   obtain ⟨e,he,rfl⟩:=List.mem_map.1 hx
   simp only[List.map_cons,List.map_nil,List.mem_singleton]at hy
   have:=hlt e he
   omega
  ·intro e he
   rcases List.mem_append.1 he with he | he
   ·have:=hlt e he
    omega
   ·simp only[List.mem_singleton]at he
    subst he
    exact Nat.lt_succ_self _
def RngAt {κ:Type} (enc:κ→Value) (h:DHeap) (r id:Nat) (m:List (κ × Value)) (dn:List κ):Prop:=
 ∃ es c seen,h.get id=some (.map es c)∧h.get r=some (.iter (some id) c seen c)∧es.map (fun e=>(e.key,e.val))=m.map (fun p=>(enc p.1,p.2))∧(m.map (·.1)).Nodup∧(es.map (·.born)).Nodup∧(∀ e∈es,e.born<c) ∧
  ∀ (i:Nat) e p,es[i]? = some e→m[i]? = some p→(e.born∈seen↔p.1∈dn)
theorem RngAt.keep {κ:Type} {enc:κ→Value} {h h':DHeap} {r id:Nat} {m:List (κ × Value)} {dn:List κ} (a:RngAt enc h r id m dn) (h1:h'.get id=h.get id) (h2:h'.get r=h.get r):RngAt enc h' r id m dn:=by
 obtain ⟨es,c,seen,g1,g2,q⟩:=a
 exact ⟨es,c,seen,h1.trans g1,h2.trans g2,q⟩
theorem RngAt.map {κ:Type} {enc:κ→Value} {h:DHeap} {r id:Nat} {m:List (κ × Value)} {dn:List κ} (a:RngAt enc h r id m dn):MapAt enc h id m:=by
 obtain ⟨es,c,seen,g1,g2,q1,q2,q3,q4,_⟩:=a
 exact ⟨es,c,g1,q1,q2,q3,q4⟩
theorem MapAt.range {κ:Type} {enc:κ→Value} {t:TypeId} {h:DHeap} {id:Nat} {m:List (κ × Value)} {kt et:TypeId} (hu:P.underlying t=some (.map kt et)) (a:MapAt enc h id m) (hid:id<h.next) :
 ∃ o,dRange P t (.map (some id)) h=some (.pointer (some ⟨h.next,0,none⟩),h.push o)∧RngAt enc (h.push o) h.next id m []:=by
 obtain ⟨es,c,g,q1,q2,q3,q4⟩:=a
 refine ⟨.iter (some id) c [] c,?_,es,c,[],(get_push_other _ _ hid).trans g,get_push_same _ _,q1,q2,q3,q4,fun i e p _ _=>by simp⟩
 unfold dRange
 simp only[hu,g]
theorem find_bornD {e:MapEntry}:∀ {es:List MapEntry},(es.map (·.born)).Nodup→e∈es→es.find? (fun x=>x.born==e.born)=some e
 | [],_,h=>by cases h
 | a :: es,hn,h=>by
   rw[List.find?_cons]
   rw[List.map_cons,List.nodup_cons]at hn
   rcases List.mem_cons.1 h with rfl | h
   ·simp
   ·have:(a.born==e.born)=false:=by
     simp only[beq_eq_false_iff_ne,ne_eq]
     exact fun hh=>hn.1 (hh▸List.mem_map.2 ⟨e,h,rfl⟩)
    rw[this]
    exact find_bornD hn.2 h
theorem RngAt.next {κ:Type} {enc:κ→Value} {h:DHeap} {r id:Nat} {m:List (κ × Value)} {dn:List κ} (hf:∀ k,flat3 (enc k)=true) (hne:id≠r) (a:RngAt enc h r id m dn) :
 ∃ l,dNext (.pointer (some ⟨r,0,none⟩)) h=some (l,h.set r .dead)∧∀ p∈l,(p=(.tuple #[.bool false],h)∧∀ k∈m.map (·.1),k∈dn) ∨
  ∃ k v o,(k,v)∈m∧k∉dn∧p=(.tuple #[.bool true,enc k,v],h.set r o)∧dEntry (.pointer (some ⟨r,0,none⟩)) (h.set r o)=some (.tuple #[enc k,v])∧RngAt enc (h.set r o) r id m (k :: dn):=by
 obtain ⟨es,c,seen,g1,g2,q1,q2,q3,q4,q5⟩:=a
 have hc1:(!seen.isEmpty&&!es.isEmpty&&es.all fun e=>decide (e.born ≥ c))=false:=by
  cases es with
  | nil=>simp
  | cons e es=>
    have:=q4 e (by simp)
    have h1:decide (e.born ≥ c)=false:=decide_eq_false (by omega)
    simp[h1]
 have hc2:(es.all fun e=>flat3 e.key)=true:=List.all_eq_true.2 fun e he=>by
  obtain ⟨i,hi⟩:=List.getElem?_of_mem he
  obtain ⟨p,_,h2,_⟩:=MapAt.es_key q1 hi
  rw[h2]
  exact hf _
 unfold dNext
 simp only[g2,g1,hc1,hc2,Bool.not_true,Bool.or_false,Bool.false_eq_true,if_false]
 refine ⟨_,rfl,fun p hp=>?_⟩
 rcases List.mem_append.1 hp with hp | hp
 ·split at hp
  ·rename_i hemp
   simp only[List.mem_singleton]at hp
   refine .inl ⟨hp,fun k hk=>?_⟩
   obtain ⟨pr,hpm,rfl⟩:=List.mem_map.1 hk
   obtain ⟨i,hi⟩:=List.getElem?_of_mem hpm
   have:=congrArg (fun l=>l[i]?) q1
   simp only[List.getElem?_map,hi,Option.map_some]at this
   cases he:es[i]? with
   | none=>rw[he]at this;cases this
   | some e=>
     refine (q5 i e pr he hi).1 ?_
     cases hs:seen.contains e.born with
     | true=>exact List.contains_iff_mem.1 hs
     | false=>
       exfalso
       have hm:=List.mem_of_getElem? he
       have:e∈(es.filter fun e=>!seen.contains e.born).filter fun e=>decide (e.born<c):=by
        simp only[List.mem_filter,hs,Bool.not_false,decide_eq_true_eq,and_true]
        exact ⟨hm,q4 e hm⟩
       rw[List.isEmpty_iff.1 hemp]at this
       cases this
  ·cases hp
 ·obtain ⟨e,hem,rfl⟩:=List.mem_map.1 hp
  have he:e∈es∧seen.contains e.born=false:=by
   rcases List.mem_append.1 hem with h | h
   ·simp only[List.mem_filter,Bool.not_eq_true']at h
    exact h.1
   ·simp only[List.mem_filter,Bool.not_eq_true']at h
    exact h.1
  obtain ⟨i,hi⟩:=List.getElem?_of_mem he.1
  obtain ⟨pr,hpi,hk,hv⟩:=MapAt.es_key q1 hi
  have hns:e.born∉seen:=fun hh=>by rw[List.contains_iff_mem.2 hh]at he;cases he.2
  refine .inr ⟨pr.1,pr.2,.iter (some id) c (seen++[e.born]) c,List.mem_of_getElem? hpi,fun hd=>hns ((q5 i e pr hi hpi).2 hd),by rw[hk,hv],?_,es,c,seen++[e.born],(get_set_other _ _ hne).trans g1,get_set_same _ _,q1,q2,q3,q4,fun j e' p' hj hpj=>?_⟩
  ·have h1:(h.set r (.iter (some id) c (seen++[e.born]) c)).get r=some (.iter (some id) c (seen++[e.born]) c):=get_set_same _ _
   have h2:(h.set r (.iter (some id) c (seen++[e.born]) c)).get id=some (.map es c):=(get_set_other _ _ hne).trans g1
   have h3:(seen++[e.born]).getLast? = some e.born:=by simp
   unfold dEntry
   simp only[h1,h2,h3,if_true,find_bornD q3 he.1,hk,hf,hv]
  rw[List.mem_append,List.mem_singleton,List.mem_cons,q5 j e' p' hj hpj]
  have hij:e'.born=e.born↔j=i:=by
   have a1:(es.map (·.born))[j]? = some e'.born:=by rw[List.getElem?_map,hj];rfl
   have a2:(es.map (·.born))[i]? = some e.born:=by rw[List.getElem?_map,hi];rfl
   constructor
   ·intro hh
    exact (List.getElem?_inj (List.getElem?_eq_some_iff.1 a1).1 q3).1 (by rw[a1,a2,hh])
   ·intro hh
    subst hh
    rw[hj]at hi
    cases hi
    rfl
  have hij2:p'.1=pr.1↔j=i:=by
   have a1:(m.map (·.1))[j]? = some p'.1:=by rw[List.getElem?_map,hpj];rfl
   have a2:(m.map (·.1))[i]? = some pr.1:=by rw[List.getElem?_map,hpi];rfl
   constructor
   ·intro hh
    exact (List.getElem?_inj (List.getElem?_eq_some_iff.1 a1).1 q2).1 (by rw[a1,a2,hh])
   ·intro hh
    subst hh
    rw[hpj]at hpi
    cases hpi
    rfl
  rw[hij,hij2]
  exact Or.comm
def dRangeO (P:Program) (t:TypeId) (h:DHeap):Option Value→DR
 | some v=>.ofp (dRange P t v h)
 | none=>.bad
def DR.ofk:Option (List (Value × DHeap) × DHeap)→DR
 | some (l,h')=>.ok (.pick l) h'
 | none=>.bad
def dNextO (h:DHeap):Option Value→DR
 | some v=>DR.ofk (dNext v h)
 | none=>.bad
theorem dOp_range {ρ:Operand→Option Value} {h:DHeap} (dst:Option Tmp) (t:TypeId) (x:Operand) (ty:TypeId) (pos:String) (aft:Array Edge) (gd:Option (Nat × Bool)):dOp P ρ ⟨dst,.range t x,ty,pos,aft,gd⟩ h=dRangeO P t h (ρ x):=by
 unfold dOp dRangeO
 simp only
 cases ρ x <;> rfl
theorem dOp_next {ρ:Operand→Option Value} {h:DHeap} (dst:Option Tmp) (x:Operand) (ty:TypeId) (pos:String) (aft:Array Edge) (gd:Option (Nat × Bool)):dOp P ρ ⟨dst,.next x false,ty,pos,aft,gd⟩ h=dNextO h (ρ x):=by
 unfold dOp dNextO DR.ofk
 simp only
 cases ρ x with
 | none=>rfl
 | some v=>rfl
theorem dRangeO_some {t:TypeId} {h:DHeap} {v:Value}:dRangeO P t h (some v)=.ofp (dRange P t v h):=rfl
theorem dNextO_some {h:DHeap} {v:Value}:dNextO h (some v)=DR.ofk (dNext v h):=rfl
theorem ofk_some {l:List (Value × DHeap)} {h:DHeap}:DR.ofk (some (l,h))=.ok (.pick l) h:=rfl
theorem NNx_pick (ops:Array Oper) (o:Oper) (rest:List Oper) (s:St) (Q:DExit→St→Prop) (l:List (Value × DHeap)) (h:DHeap):NNx P ops o rest s Q (.ok (.pick l) h)=∀ p∈l,NOps P ops rest ⟨s.fr.put o.dst p.1,s.df,p.2,s.rd⟩ Q:=rfl
def dEntryO (h:DHeap):Option Value→DR
 | some v=>.ofv h (dEntry v h)
 | none=>.bad
theorem dOp_entry {ρ:Operand→Option Value} {h:DHeap} (dst:Option Tmp) (x:Operand) (ty:TypeId) (pos:String) (aft:Array Edge) (gd:Option (Nat × Bool)):dOp P ρ ⟨dst,.entry x,ty,pos,aft,gd⟩ h=dEntryO h (ρ x):=by
 unfold dOp dEntryO
 simp only
 cases ρ x <;> rfl
theorem dEntryO_some {h:DHeap} {v:Value}:dEntryO h (some v)=.ofv h (dEntry v h):=rfl
attribute [go_sem] dOp_entry dEntryO_some dOp_range dOp_next dRangeO_some dNextO_some ofk_some NNx_pick
end Go.D

namespace Go.Proofs.Ythjmkmoiopmfcaa
open Go.D
set_option maxRecDepth 100000
theorem keyV_inj (a b:Key) (h:keyV a=keyV b):a=b:=by
 cases a;cases b
 simp only[keyV]at h
 simpa using h
theorem und_key:∃ d,Try.prog.underlying 44=some d∧∀ a b,Instr.sameNow d (keyV a) (keyV b)=none:=⟨_,rfl,fun _ _=>rfl⟩
theorem chk_key (b:Bool) (k:Key):∃ u,quick Try.prog (Instr.checkKey b 10000 44 (keyV k))=some (.inr u):=⟨_,rfl⟩
theorem bits_key (k:Key):Instr.sameBits 10000 (keyV k) (keyV k)=true:=by
 simp[Instr.sameBits,keyV]
theorem keyOf:KeyOf Try.prog 44 keyV:=
 have ⟨_,hu,hn⟩:=und_key
 .eq hu (fun _=>rfl) keyV_inj chk_key bits_key hn (key_eq 9998)
end Go.Proofs.Ythjmkmoiopmfcaa

namespace Go.Proofs.Ythjmkmoiopmfcaa
open Go.D
set_option maxRecDepth 100000
theorem nodup_len {α:Type} [DecidableEq α]:∀ {a b:List α},a.Nodup→(∀ x∈a,x∈b)→a.length≤b.length
 | [],_,_,_=>Nat.zero_le _
 | x :: a,b,hn,hs=>by
   rw[List.nodup_cons]at hn
   have h1:=nodup_len (a:=a) (b:=b.erase x) hn.2 fun y hy=>(List.mem_erase_of_ne (fun (hh:y=x)=>hn.1 (hh▸hy))).2 (hs y (by simp[hy]))
   have h2:=List.length_erase_of_mem (hs x (by simp))
   have h3:=List.length_pos_of_mem (hs x (by simp))
   rw[List.length_cons]
   omega
structure But (r:Nat) (K K':DHeap):Prop where
 next:K.next≤K'.next
 ng:K'.ng=K.ng
 get:∀ j,j<K.next→j≠r→K'.get j=K.get j
theorem und_map64:Try.prog.underlying 64=some (.map 44 2):=by kernel_rfl
theorem yields_keys {h:DHeap} {c l p id:Nat} {D:DLoop} {m:List (Key × Value)} (I:List Key→DHeap→Prop) (hp:D.params=#[p]) (hps:p<D.size) (hid:id<h.next) (hc:c<h.next) (hl:l<h.next)
 (h0:I [] h) (hI:∀ dn K,I dn K→K.get l=some (.loop D)∧K.get c=some (.row [.map (some id)] 0 false)∧MapAt keyV K id m) (hE:∀ dn K K',I dn K→But h.next K K'→I dn K')
 (hR:∀ dn K k,I dn K→k∉dn→k∈m.map (·.1)→h.next<K.next→Rt Try.prog l D.size (putParams D.tmps [p] [keyV k]) D.assign D.body K fun r H=>r=.ret (.bool true)∧I (k :: dn) H∧H.get id=K.get id∧H.get h.next=K.get h.next∧K.next≤H.next) :
 Ct Try.prog 87 [.func (.yield l) #[] #[],.pointer (some ⟨c,0,none⟩)] h fun r H=>(∃ v,r=.ret v)∧∃ dn,dn.Nodup∧(∀ k,k∈dn↔k∈m.map (·.1))∧I dn H:=by
 refine go_87 (by simp) ?_
 obtain ⟨hl0,hc0,hm0⟩:=hI [] h h0
 have C0:cellAt h c 0=some (.map (some id)):=cellAt_row hc0
 obtain ⟨o,hr0,hr1⟩:=hm0.range und_map64 hid
 simp -implicitDefEqProofs (disch:=first|omega|simp only[go_sem]) only[go_sem,true_and,c87,C0,hr0]
 refine xloop (σ:=List Key) (by kernel_rfl) (fun dn s=>s.df=[]∧s.fr 0=some (.func (.yield l) #[] #[])∧s.fr 5=some (.pointer (some ⟨h.next,0,none⟩))∧h.next<s.h.next∧dn.Nodup∧(∀ k∈dn,k∈m.map (·.1))∧RngAt keyV s.h h.next id m dn∧I dn s.h) (fun dn=>m.length - dn.length) [] ?_ ?_
 ·simp -implicitDefEqProofs (disch:=first|omega|simp only[go_sem]) only[go_sem,true_and]
  exact ⟨Nat.lt_succ_self _,.nil,fun k hk=>(by cases hk),hr1,hE _ _ _ h0 ⟨Nat.le_succ _,rfl,fun j hj _=>get_push_other _ _ hj⟩⟩
 ·rintro dn ⟨fr,df,hh,rd⟩ K' hK' hX ⟨rfl,f0,f5,hlt,hnd,hsub,hrng,hinv⟩
  simp only at f0 f5 hlt hrng hinv
  obtain ⟨L,hL,hall⟩:=hrng.next (fun _=>rfl) (by omega)
  simp -implicitDefEqProofs (disch:=first|omega|simp only[go_sem]) only[go_sem,true_and,f5,hL]
  intro pp hpp
  rcases hall pp hpp with ⟨rfl,hd⟩ | ⟨k,v,o2,hk,hnk,rfl,hent,hr2⟩
  ·simp -implicitDefEqProofs (disch:=first|omega|simp only[go_sem]) only[go_sem,true_and]
   refine hX _ _ (by simp) ?_
   simp -implicitDefEqProofs (disch:=first|omega|simp only[go_sem]) only[go_sem,true_and]
   exact ⟨_,rfl,⟨_,rfl⟩,dn,hnd,fun k=>⟨hsub k,hd k⟩,hinv⟩
  obtain ⟨K1,hK1⟩:∃ K,K=hh.set h.next o2:=⟨_,rfl⟩
  rw[← hK1]at hent hr2
  obtain ⟨K2,hK2⟩:∃ K,K=K1.push (.row [.int .i32 k.t,.int .i64 k.r] 0 false):=⟨_,rfl⟩
  have hK1n:K1.next=hh.next:=by rw[hK1];rfl
  have hK2n:K2.next=hh.next+1:=by rw[hK2];exact congrArg (·+1) hK1n
  have g2:K2.get K1.next=some (.row [.int .i32 k.t,.int .i64 k.r] 0 false):=by rw[hK2];exact get_push_same _ _
  have hst:dStore Try.prog 44 (.pointer (some ⟨K1.next,0,none⟩)) (keyV k) (K1.push (.row [.int .i32 0,.int .i64 0] 0 false))=some K2:=by
   rw[hK2]
   exact (st_44 rfl).trans (storeAll_push rfl rfl)
  have l2:cellsAt K2 K1.next 0 2=some (keyV k):=by rw[cellsAt_row g2 (Nat.le_of_ble_eq_true rfl)];rfl
  have oth:∀ j,j<hh.next→j≠h.next→K2.get j=hh.get j:=fun j hj hne=>by rw[hK2,get_push_other _ _ (by omega),hK1,get_set_other _ _ hne]
  have hI2:I dn K2:=hE dn hh K2 hinv ⟨by omega,by rw[hK2,hK1];rfl,oth⟩
  have hl2:K2.get l=some (.loop D):=(hI dn K2 hI2).1
  have hr3:RngAt keyV K2 h.next id m (k :: dn):=hr2.keep (by rw[hK2];exact get_push_other _ _ (by omega)) (by rw[hK2];exact get_push_other _ _ (by omega))
  have hy:dCallO Try.prog K2 (some (.func (.yield l) #[] #[])) (some [keyV k])=.ok (.round l D.size (putParams D.tmps [p] [keyV k]) D.assign D.body) K2:=by
   rw[dCallO_yield hl2 _ (by rw[hp];rfl) (by rw[hp];simpa using hps),hp]
  have hkm:k∈m.map (·.1):=List.mem_map.2 ⟨_,hk,rfl⟩
  simp -implicitDefEqProofs (disch:=first|omega|simp only[go_sem]) only[go_sem,true_and,← hK1,f5,hent,hst,f0,l2,hy]
  refine nround_rt (hR dn K2 k hI2 hnk hkm (by omega)) ?_
  rintro r H ⟨rfl,hI3,e1,e2,e3⟩
  simp -implicitDefEqProofs (disch:=first|omega|simp only[go_sem]) only[go_sem,true_and,XEnd]
  have hlen:(k :: dn).length≤m.length:=by
   have:=nodup_len (a:=k :: dn) (b:=m.map (·.1)) (List.nodup_cons.2 ⟨hnk,hnd⟩) (fun x hx=>by
    rcases List.mem_cons.1 hx with rfl | hx
    ·exact hkm
    ·exact hsub x hx)
   simpa using this
  refine hK' (k :: dn) _ ?_ (by rw[List.length_cons]at hlen ⊢;omega)
  exact ⟨by trivial,(vy f0),(vy f5),show h.next<H.next by omega,List.nodup_cons.2 ⟨hnk,hnd⟩,fun x hx=>(by
   rcases List.mem_cons.1 hx with rfl | hx
   ·exact hkm
   ·exact hsub x hx),hr3.keep e1 e2,hI3⟩
end Go.Proofs.Ythjmkmoiopmfcaa

namespace Go.Proofs.Ythjmkmoiopmfcaa
open Go.D
set_option maxRecDepth 100000
abbrev appD (fr:Fr) (k:Nat):DLoop:=⟨13,fr,#[7],fa96_0,fb96_0,k,.ready,none⟩
structure AppI (hB:DHeap) (fr:Fr) (b:Nat) (dn:List Key) (K:DHeap):Prop where
 r:Rng hB (appD fr hB.next) (fun j=>j=b) K
 box:∃ v w,K.get b=some (.row [v] 0 false)∧Owns fKey.rep NoS K v dn.reverse w∧∀ i,w=some i→hB.next+2<i
theorem AppI.but {hB K K':DHeap} {fr:Fr} {b:Nat} {dn:List Key} (s:AppI hB fr b dn K) (hb:b<hB.next) (e:But (hB.next+2) K K'):AppI hB fr b dn K':=by
 have hn:=s.r.nx
 obtain ⟨v,w,g,o,hw⟩:=s.box
 exact ⟨s.r.keep e.next e.ng fun j hj=>e.get j (by omega) (by omega),v,w,(e.get _ (by omega) (by omega)).trans g,o.mono e.next (fun i hi=>e.get i (o.lt i hi) (by have:=hw i hi;omega)) (fun i hi=>hi.elim),hw⟩
theorem app_round {hB K:DHeap} {fr:Fr} {b:Nat} {dn:List Key} {k:Key} (hk:fKey.ok k) (hlen:dn.length+1≤4294967296) (hb:b<hB.next) (f2:fr 2=some (.pointer (some ⟨b,0,none⟩))) (hnx:hB.next+2<K.next) (s:AppI hB fr b dn K) :
 Rt Try.prog (hB.next+1) 13 (putParams fr [7] [keyV k]) fa96_0 fb96_0 K fun r H=>r=.ret (.bool true)∧AppI hB fr b (k :: dn) H∧H.get (hB.next+2)=K.get (hB.next+2)∧K.next≤H.next:=by
 obtain ⟨v,w,gb,o,hw⟩:=s.box
 have hwl:=o.lt
 refine Rt_walk ta96_0 tb96_0 (by kernel_rfl) (by kernel_rfl) ?_
 obtain ⟨K1,hK1⟩:∃ K1,K1=K.push (.row [.int .i32 k.t,.int .i64 k.r] 0 false):=⟨_,rfl⟩
 have hst:dStore Try.prog 44 (.pointer (some ⟨K.next,0,none⟩)) (keyV k) (K.push (.row [.int .i32 0,.int .i64 0] 0 false))=some K1:=by
  rw[hK1]
  exact (st_44 rfl).trans (storeAll_push rfl rfl)
 have r1:=s.r.push (.row [.int .i32 k.t,.int .i64 k.r] 0 false)
 rw[← hK1]at r1
 simp -implicitDefEqProofs (disch:=first|omega|simp only[go_sem]) only[go_sem,true_and,sa96_0,putParams,hst]
 refine ⟨_,r1.lp,rfl,?_⟩
 obtain ⟨D2,hD2⟩:∃ D2:DLoop,D2={ appD fr hB.next with state:=.busy,pending:=(appD fr hB.next).pending }:=⟨_,rfl⟩
 rw[← hD2]
 obtain ⟨K2,hK2⟩:∃ K2,K2=K1.set (hB.next+1) (.loop D2):=⟨_,rfl⟩
 rw[← hK2]
 have r2:Rng hB D2 (fun j=>j=b) K2:=by rw[hK2];exact r1.loop _
 have hK2n:K2.next=K.next+1:=by rw[hK2,hK1];rfl
 have hK2g:K2.ng=K.ng:=by rw[hK2,hK1];rfl
 have oth:∀ j,j<K.next→j≠hB.next+1→K2.get j=K.get j:=fun j hj hne=>by rw[hK2,get_set_other _ _ hne,hK1,get_push_other _ _ hj]
 have gb2:K2.get b=some (.row [v] 0 false):=(oth _ (by omega) (by omega)).trans gb
 have gk2:K2.get K.next=some (.row [.int .i32 k.t,.int .i64 k.r] 0 false):=by rw[hK2,get_set_other _ _ (by omega),hK1];exact get_push_same _ _
 have o2:Owns fKey.rep NoS K2 v dn.reverse w:=o.mono (by omega) (fun i hi=>oth i (hwl i hi) (by have:=hw i hi;omega)) (fun i hi=>hi.elim)
 have lb:cellAt K2 b 0=some v:=cellAt_row gb2
 have lk:cellsAt K2 K.next 0 2=some (keyV k):=by rw[cellsAt_row gk2 (Nat.le_of_ble_eq_true rfl)];rfl
 obtain ⟨v',h2,e6,n2,ng2,gg,o3⟩:=o2.snoc (cs:=[.int .i32 k.t,.int .i64 k.r]) (x:=k) (z:=2) (fun i hi=>hi.elim) ⟨rfl,hk⟩ rfl (by decide) app_24 (by simpa using hlen) (by decide)
 have hv':v'.cells=#[v']:=o3.sl.cells1
 have hone:[v'].all Value.oneCell'=true:=by obtain ⟨_,_,rfl⟩:=o3.sl.isSlice;rfl
 have gb3:h2.get b=some (.row [v] 0 false):=(gg _ (by omega) (fun h=>by have:=hw b h;omega)).trans gb2
 have w1:dStore Try.prog 24 (.pointer (some ⟨b,0,none⟩)) v' h2=some (h2.set b (.row [v'] 0 false)):=(st_24 hv').trans (storeAt_row gb3 (Nat.le_of_ble_eq_true rfl) hone)
 simp -implicitDefEqProofs (disch:=first|omega|simp only[go_sem]) only[go_sem,true_and,sb96_0,f2,lb,lk,e6,w1]
 have hnw:∀ j,j<hB.next+3→w≠some j:=fun j hj h=>by have:=hw j h;omega
 have r3:Rng hB D2 (fun j=>j=b) h2:=r2.keep (by omega) ng2 fun j hj=>gg j (by omega) (hnw j (by omega))
 have r4:Rng hB D2 (fun j=>j=b) (h2.set b (.row [v'] 0 false)):=r3.set rfl hb
 refine ⟨D2,r4.lp,rfl,?_,?_,?_⟩
 ·subst hD2
  refine ⟨r4.loop _,v',some (K2.next+1),(get_set_other _ _ (by omega)).trans (get_set_same _ _),?_,fun i hi=>by cases hi;omega⟩
  rw[List.reverse_cons]
  exact o3.mono (Nat.le_refl _) (fun i hi=>by cases hi;rw[get_set_other _ _ (by omega),get_set_other _ _ (by omega)]) (fun i hi=>hi.elim)
 ·rw[get_set_other _ _ (by omega),get_set_other _ _ (by omega),gg _ (by omega) (hnw _ (by omega)),oth _ (by omega) (by omega)]
 ·show K.next≤h2.next
  omega
end Go.Proofs.Ythjmkmoiopmfcaa

namespace Go.Proofs.Ythjmkmoiopmfcaa
open Go.D
set_option maxRecDepth 100000
theorem app_loop {hB:DHeap} {fr:Fr} {b c id:Nat} {m:List (Key × Value)} {Q:DExit→St→Prop} (hlen:m.length≤4294967296) (hok:∀ k∈m.map (·.1),fKey.ok k)
 (f2:fr 2=some (.pointer (some ⟨b,0,none⟩))) (f6:fr 6=some (.func (.func 87) #[] #[.pointer (some ⟨c,0,none⟩)]))
 (hb:b<hB.next) (gb:hB.get b=some (.row [.slice none 0 0] 0 false)) (hc:c<hB.next∧c≠b) (gc:hB.get c=some (.row [.map (some id)] 0 false)) (hid:id<hB.next∧id≠b) (hm:MapAt keyV hB id m)
 (hA:∀ dn H,dn.Nodup→(∀ k,k∈dn↔k∈m.map (·.1))→AppI hB fr b dn H→Q .normal ⟨fr,[.mark hB.next],H.set (hB.next+1) (.loop { appD fr hB.next with state:=.exhausted }),none⟩) :
 NC Try.prog 13 (.rangeFunc (T 6) #[7] fa96_0 fb96_0) Q ⟨fr,[],hB,none⟩:=by
 refine NC.range_yields (fv:=.func (.func 87) #[] #[.pointer (some ⟨c,0,none⟩)]) (A:=fun H=>∃ dn,dn.Nodup∧(∀ k,k∈dn↔k∈m.map (·.1))∧AppI hB fr b dn H) (B:=fun _=>False) rfl (vy f6) (fun K=>dTarget_func (by kernel_rfl) _ _ _ K) ?_ (fun H ⟨dn,h1,h2,s⟩=>⟨s.r.lp,hA dn H h1 h2 s⟩) (fun H s=>s.elim)
 have e:Ext hB ((hB.push (.marks true)).push (.loop (appD fr hB.next))):=(Ext.push1 _ _).push _
 refine (yields_keys (D:=appD fr hB.next) (p:=7) (id:=id) (m:=m) (fun dn K=>AppI hB fr b dn K∧dn.Nodup∧∀ k∈dn,k∈m.map (·.1)) rfl (Nat.le_of_ble_eq_true rfl) (Nat.lt_of_lt_of_le hid.1 e.next) (Nat.lt_of_lt_of_le hc.1 e.next) (Nat.lt_succ_self _) ?_ (fun dn K ⟨s,_,_⟩=>⟨s.r.lp,(s.r.old _ hc.1 hc.2).trans gc,hm.keep (s.r.old _ hid.1 hid.2)⟩) (fun dn K K' ⟨s,h1,h2⟩ e=>⟨s.but hb e,h1,h2⟩) ?_).mono fun r H ⟨h1,dn,h2,h3,h4,_⟩=>⟨h1,.inl ⟨dn,h2,h3,h4⟩⟩
 ·exact ⟨⟨Rng.start _ _ _,_,_,(e.get _ hb).trans gb,Owns.nil _ _ _,fun i hi=>by cases hi⟩,.nil,fun k hk=>by cases hk⟩
 ·rintro dn K k ⟨s,hn,hs⟩ hnk hkm hlt
  have hl:(k :: dn).length≤m.length:=by
   have:=nodup_len (a:=k :: dn) (b:=m.map (·.1)) (List.nodup_cons.2 ⟨hnk,hn⟩) (fun x hx=>by
    rcases List.mem_cons.1 hx with rfl | hx
    ·exact hkm
    ·exact hs x hx)
   simpa using this
  refine (app_round (hok k hkm) (by rw[List.length_cons]at hl;omega) hb f2 hlt s).mono fun r H ⟨h1,h2,h3,h4⟩=>⟨h1,⟨h2,List.nodup_cons.2 ⟨hnk,hn⟩,fun x hx=>?_⟩,(h2.r.old _ hid.1 hid.2).trans (s.r.old _ hid.1 hid.2).symm,h3,h4⟩
  rcases List.mem_cons.1 hx with rfl | hx
  ·exact hkm
  ·exact hs x hx
theorem appendSeq_c {h:DHeap} {c id:Nat} {m:List (Key × Value)} (hlen:m.length≤4294967296) (hok:∀ k∈m.map (·.1),fKey.ok k) (hc:c<h.next) (gc:h.get c=some (.row [.map (some id)] 0 false)) (hid:id<h.next) (hm:MapAt keyV h id m) :
 Ct Try.prog 96 [.slice none 0 0,.func (.func 87) #[] #[.pointer (some ⟨c,0,none⟩)]] h fun r h1=>∃ v dn,r=.ret v∧dn.Nodup∧(∀ k,k∈dn↔k∈m.map (·.1))∧Made fKey h h1 v dn:=by
 refine go_96 (by simp) ?_
 obtain ⟨H0,hH0⟩:∃ H,H=h.push (.row [.slice none 0 0] 0 false):=⟨_,rfl⟩
 have hE0:Ext h H0:=by rw[hH0];exact Ext.push1 _ _
 have hH0n:H0.next=h.next+1:=by rw[hH0];rfl
 have gb:H0.get h.next=some (.row [.slice none 0 0] 0 false):=by rw[hH0];exact get_push_same _ _
 simp -implicitDefEqProofs (disch:=first|omega|simp only[go_sem]) only[go_sem,true_and,c96,← hH0]
 refine app_loop (b:=h.next) (c:=c) (id:=id) (m:=m) hlen hok vz vz (by omega) gb ⟨by omega,by omega⟩ ((hE0.get _ hc).trans gc) ⟨by omega,by omega⟩ (hm.keep (hE0.get _ hid)) (fun dn H hn hmem s=>?_)
 generalize hHf:H.set (H0.next+1) _=Hf
 obtain ⟨rr,v,w,g,o,hw⟩:=s
 have nr:=rr.nx
 have oth:∀ j,j≠H0.next+1→Hf.get j=H.get j:=fun j hj=>by rw[← hHf];exact get_set_other _ _ hj
 have nf:Hf.next=H.next:=by rw[← hHf];rfl
 have hEf:Ext h Hf:=by rw[← hHf];exact (rr.below hE0 fun j hj=>by rw[hj];exact Nat.le_refl _).set (by omega)
 have hM:Hf.get H0.next=some (.marks true):=(oth _ (by omega)).trans rr.mrk
 have k1:cellAt Hf h.next 0=some v:=cellAt_row ((oth _ (by omega)).trans g)
 have o1:Owns fKey.rep NoS (Hf.set H0.next (.marks false)) v dn.reverse w:=o.mono (Nat.le_of_eq nf.symm) (fun i hi=>by have:=hw i hi;rw[get_set_other _ _ (by omega),oth _ (by omega)]) (fun i hi=>hi.elim)
 simp -implicitDefEqProofs (disch:=first|omega|simp only[go_sem]) only[go_sem,true_and,k1]
 refine XLv_mark hM ?_
 simp -implicitDefEqProofs (disch:=first|omega|simp only[go_sem]) only[go_sem,true_and]
 exact ⟨_,rfl,v,dn.reverse,rfl,List.pairwise_reverse.2 (hn.imp fun h=>h.symm),fun k=>by rw[List.mem_reverse];exact hmem k,hEf.set (by omega),w,o1,fun i hi=>by have:=hw i hi;omega⟩
end Go.Proofs.Ythjmkmoiopmfcaa

namespace Go.D
variable {P:Program} {nt:Nat}
section
variable {ops:Array Oper} {o:Oper} {s:St} {E:DHeap→DHeap→Prop} {V:Nat→DHeap→Value→Prop} {cons:Nat→Option Nat} {b:List Nat} {i:Nat} {Q:DExit→St→Prop} {v:Value} {h':DHeap}
end
end Go.D

namespace Go.Proofs.Ythjmkmoiopmfcaa
open Go.D
open Go.Sort
set_option maxRecDepth 100000
theorem keyLt_iff {a b:Key}:keyLt a b=true↔a.t<b.t∨(a.t=b.t∧a.r<b.r):=by simp[keyLt]
theorem keyLt_irr (a:Key):keyLt a a=false:=by
 cases h:keyLt a a with
 | false=>rfl
 | true=>have:=keyLt_iff.1 h;omega
theorem keyLt_trans {a b c:Key} (h:keyLt a b=true) (g:keyLt b c=true):keyLt a c=true:=by
 rw[keyLt_iff]at *;omega
theorem keyLt_asym {a b:Key} (h:keyLt a b=true):keyLt b a=false:=by
 cases g:keyLt b a with
 | false=>rfl
 | true=>rw[keyLt_iff]at h g;omega
theorem key_ext {a b:Key} (h:a.t=b.t) (g:a.r=b.r):a=b:=by cases a;cases b;simp at h g;simp[h,g]
theorem keyLt_total {a b:Key} (h:keyLt a b=false) (hn:a≠b):keyLt b a=true:=by
 rw[keyLt_iff]
 have h':¬ (a.t<b.t∨(a.t=b.t∧a.r<b.r)):=fun hh=>by rw[keyLt_iff.2 hh]at h;cases h
 by_cases ht:a.t=b.t
 ·have:a.r≠b.r:=fun hr=>hn (key_ext ht hr)
  omega
 ·omega
theorem keyLt_swo:SWO keyLt where
 irrefl:=keyLt_irr
 trans:=fun _ _ _ h g=>keyLt_trans h g
 ntrans:=fun x y z h g=>by
  cases k:keyLt x z with
  | false=>rfl
  | true=>
    have h':¬ (x.t<y.t∨(x.t=y.t∧x.r<y.r)):=fun hh=>by rw[keyLt_iff.2 hh]at h;cases h
    have g':¬ (y.t<z.t∨(y.t=z.t∧y.r<z.r)):=fun hh=>by rw[keyLt_iff.2 hh]at g;cases g
    have:=keyLt_iff.1 k
    omega
abbrev UpK (l:List Key):Prop:=l.Pairwise fun a b=>keyLt a b=true
theorem up_eq:∀ {l m:List Key},UpK l→UpK m→(∀ x,x∈l↔x∈m)→l=m
 | [],[],_,_,_=>rfl
 | [],y :: m,_,_,h=>absurd ((h y).2 List.mem_cons_self) (by simp)
 | x :: l,[],_,_,h=>absurd ((h x).1 List.mem_cons_self) (by simp)
 | x :: l,y :: m,hl,hm,h=>by
   obtain ⟨hx,hl'⟩:=List.pairwise_cons.1 hl
   obtain ⟨hy,hm'⟩:=List.pairwise_cons.1 hm
   have e:x=y:=by
    rcases List.mem_cons.1 ((h x).1 List.mem_cons_self) with e | e
    ·exact e
    ·rcases List.mem_cons.1 ((h y).2 List.mem_cons_self) with e' | e'
     ·exact e'.symm
     ·have a:=hx y e'
      rw[keyLt_asym (hy x e)]at a
      cases a
   subst e
   refine congrArg (x :: ·) (up_eq hl' hm' fun z=>⟨fun hz=>?_,fun hz=>?_⟩)
   ·rcases List.mem_cons.1 ((h z).1 (List.mem_cons_of_mem _ hz)) with e | e
    ·subst e;have:=hx z hz;rw[keyLt_irr]at this;cases this
    ·exact e
   ·rcases List.mem_cons.1 ((h z).2 (List.mem_cons_of_mem _ hz)) with e | e
    ·subst e;have:=hy z hz;rw[keyLt_irr]at this;cases this
    ·exact e
def insK (x:Key):List Key→List Key
 | []=>[x]
 | y :: l=>if keyLt y x=true then y :: insK x l else if y=x then y :: l else x :: y :: l
def keysN (l:List Key):List Key:=l.foldl (fun r x=>insK x r) []
theorem mem_insK {x z:Key}:∀ {l:List Key},z∈insK x l↔z=x∨z∈l
 | []=>by simp[insK]
 | y :: l=>by
   unfold insK
   split
   ·rw[List.mem_cons,mem_insK,List.mem_cons]
    constructor
    ·rintro (h | h | h) <;> simp[h]
    ·rintro (h | h | h) <;> simp[h]
   ·split
    ·rename_i e;subst e
     simp
    ·simp
theorem insK_up {x:Key}:∀ {l:List Key},UpK l→UpK (insK x l)
 | [],_=>by simp[insK]
 | y :: l,h=>by
   obtain ⟨hy,hl⟩:=List.pairwise_cons.1 h
   unfold insK
   split
   ·rename_i e
    refine List.pairwise_cons.2 ⟨fun z hz=>?_,insK_up hl⟩
    rcases mem_insK.1 hz with rfl | hz
    ·exact e
    ·exact hy z hz
   ·rename_i e
    split
    ·exact h
    ·rename_i hn
     have hxy:=keyLt_total (by simpa using e) hn
     refine List.pairwise_cons.2 ⟨fun z hz=>?_,h⟩
     rcases List.mem_cons.1 hz with rfl | hz
     ·exact hxy
     ·exact keyLt_trans hxy (hy z hz)
theorem insK_len {x:Key}:∀ {l:List Key},(insK x l).length≤l.length+1
 | []=>by simp[insK]
 | y :: l=>by
   unfold insK
   have:=insK_len (x:=x) (l:=l)
   split
   ·simp;omega
   ·split <;> simp
theorem fold_ins:∀ (l r:List Key),UpK r→UpK (l.foldl (fun r x=>insK x r) r)∧∀ z,z∈l.foldl (fun r x=>insK x r) r↔z∈l∨z∈r
 | [],r,h=>by simp[h]
 | x :: l,r,h=>by
   obtain ⟨a,b⟩:=fold_ins l (insK x r) (insK_up h)
   refine ⟨a,fun z=>?_⟩
   rw[List.foldl_cons,b z,mem_insK,List.mem_cons]
   constructor
   ·rintro (h | h | h) <;> simp[h]
   ·rintro ((h | h) | h) <;> simp[h]
theorem keysN_up (l:List Key):UpK (keysN l):=(fold_ins l [] .nil).1
theorem mem_keysN {l:List Key} {z:Key}:z∈keysN l↔z∈l:=by
 have:=(fold_ins l [] .nil).2 z
 simpa [keysN] using this
theorem fold_len:∀ (l r:List Key),(l.foldl (fun r x=>insK x r) r).length≤l.length+r.length
 | [],r=>by simp
 | x :: l,r=>by
   have h1:=fold_len l (insK x r)
   have h2:=insK_len (x:=x) (l:=r)
   simp only[List.foldl_cons,List.length_cons]
   omega
theorem keysN_len (l:List Key):(keysN l).length≤l.length:=by simpa [keysN] using fold_len l []
def compK:List Key→List Key
 | []=>[]
 | [x]=>[x]
 | x :: y :: l=>if x=y then compK (y :: l) else x :: compK (y :: l)
theorem mem_compK {z:Key}:∀ {l:List Key},z∈compK l↔z∈l
 | []=>by simp[compK]
 | [x]=>by simp[compK]
 | x :: y :: l=>by
   unfold compK
   have:=mem_compK (z:=z) (l:=y :: l)
   split
   ·rename_i e;subst e
    rw[this];simp
   ·rw[List.mem_cons,this];simp
theorem compK_up:∀ {l:List Key},l.Pairwise (fun a b=>keyLt b a=false)→UpK (compK l)
 | [],_=>by simp[compK]
 | [x],_=>by simp[compK]
 | x :: y :: l,h=>by
   obtain ⟨hx,hl⟩:=List.pairwise_cons.1 h
   unfold compK
   split
   ·exact compK_up hl
   ·rename_i hn
    have hxy:=keyLt_total (hx y List.mem_cons_self) (fun e=>hn e.symm)
    refine List.pairwise_cons.2 ⟨fun z hz=>?_,compK_up hl⟩
    rcases List.mem_cons.1 (mem_compK.1 hz) with rfl | hz
    ·exact hxy
    ·have hyz:=(List.pairwise_cons.1 hl).1 z hz
     by_cases e:z=y
     ·rw[e];exact hxy
     ·exact keyLt_trans hxy (keyLt_total hyz e)
theorem keys_same {l l':List Key} (hp:l'.Perm l) (hs:l'.Pairwise (fun a b=>keyLt b a=false)):compK l'=keysN l:=
 up_eq (compK_up hs) (keysN_up l) fun z=>by rw[mem_compK,mem_keysN,hp.mem_iff]
instance:Inhabited Key:=⟨⟨0,0⟩⟩
theorem sorted_list {l:List Key} {n:Nat} (hn:n=l.length) (h:SortedIn keyLt 0 n l.toArray):l.Pairwise (fun a b=>keyLt b a=false):=by
 subst hn
 refine List.pairwise_iff_getElem.2 fun i j hi hj hij=>?_
 have:=h i j (Nat.zero_le _) hij hj
 simpa [hi,hj] using this
end Go.Proofs.Ythjmkmoiopmfcaa

namespace Go.Proofs.Ythjmkmoiopmfcaa
open Go.D
set_option maxRecDepth 100000
theorem _root_.Go.D.Made.base {α:Type} {F:FRep α} {h0 h1 h2:DHeap} {v:Value} {l:List α} (m:Made F h1 h2 v l) (e:Ext h0 h1):Made F h0 h2 v l:=by
 obtain ⟨w,a,b⟩:=m.own
 exact ⟨e.trans m.ext,w,a,fun i hi=>Nat.le_trans e.next (b i hi)⟩
end Go.Proofs.Ythjmkmoiopmfcaa
