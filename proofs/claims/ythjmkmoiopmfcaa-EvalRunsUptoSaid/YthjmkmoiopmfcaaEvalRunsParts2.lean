/-
A part of the proof of a law: contracts of functions over plain heaps, and what they lean on. Conditions: none.
-/
import Derived.Test.YthjmkmoiopmfcaaChecked
import Derived.KernelRfl
import Derived.Test.YthjmkmoiopmfcaaBase1
import Derived.Test.YthjmkmoiopmfcaaBase2
import Derived.Test.YthjmkmoiopmfcaaEvalRunsParts1
set_option linter.unusedSimpArgs false
set_option linter.unusedVariables false
namespace Go.Proofs.Ythjmkmoiopmfcaa
open Go.D
set_option maxRecDepth 100000
noncomputable def o43_0:Array Oper:=drawn Try.f43 0
def g43_0:List (Nat × Tmp × TypeId):=[]
def q43_0:List YO:=[.s 0 (mo 51 (.move (T 0))),
 .s 1 (mo 52 (.fieldAddr 83 (T 4) 2)),
 .s 2 (mo 53 (.load 3 (T 52))),
 .s 3 (mo 54 (.fieldAddr 83 (T 4) 4)),
 .s 4 (mo 55 (.load 2 (T 54))),
 .s 5 (mo 56 (.nilCheck (T 51))),
 .s 6 (mo 57 (.fieldAddr 87 (T 56) 2)),
 .s 7 (mo 58 (.indexAddr 79 (T 57) (T 53))),
 .b 8 (mx (.store 2 (T 58) (T 55))) []]
def l43_0:List Oper:=[mo 51 (.move (T 0)),
 mo 52 (.fieldAddr 83 (T 4) 2),
 mo 53 (.load 3 (T 52)),
 mo 54 (.fieldAddr 83 (T 4) 4),
 mo 55 (.load 2 (T 54)),
 mo 56 (.nilCheck (T 51)),
 mo 57 (.fieldAddr 87 (T 56) 2),
 mo 58 (.indexAddr 79 (T 57) (T 53)),
 mx (.store 2 (T 58) (T 55))]
noncomputable def r43_0:Code:=.region 10 o43_0 true
theorem xr_43_0 {Q:DExit→St→Prop} {s:St}:xs Try.prog 173 r43_0 Q s=NC Try.prog 173 r43_0 Q s:=rfl
theorem yr_43_0 {Q:DExit→St→Prop} {s:St} (hdf:s.df=[]) (h:YG Try.prog (YD Try.prog l43_0.toArray Q q43_0) g43_0 s []):NC Try.prog 173 r43_0 Q s:=
 NC.yd (l:=l43_0) (b:=[0,0,2,0,8,1,33,127,255]) (by kernel_rfl) (by kernel_rfl) (by kernel_rfl) (by kernel_rfl) (by kernel_rfl) (by kernel_rfl) (by kernel_rfl) (by kernel_rfl) hdf h
attribute [go_sem] xr_43_0
noncomputable def o43_1:Array Oper:=drawn Try.f43 1
def g43_1:List (Nat × Tmp × TypeId):=[]
def q43_1:List YO:=[.s 0 (mo 61 (.move (T 0))),
 .s 1 (mo 62 (.fieldAddr 83 (T 4) 2)),
 .s 2 (mo 63 (.load 3 (T 62))),
 .s 3 (mo 64 (.move (T 0))),
 .s 4 (mo 65 (.nilCheck (T 64))),
 .s 5 (mo 66 (.fieldAddr 87 (T 65) 0)),
 .s 6 (mo 67 (.fieldAddr 26 (T 66) 3)),
 .s 7 (mo 68 (.load 23 (T 67))),
 .s 8 (mo 69 (.fieldAddr 83 (T 4) 4)),
 .s 9 (mo 70 (.load 2 (T 69))),
 .s 10 (mo 71 (.indexAddr 23 (T 68) (T 70))),
 .s 11 (mo 72 (.load 2 (T 71))),
 .s 12 (mo 73 (.nilCheck (T 61))),
 .s 13 (mo 74 (.fieldAddr 87 (T 73) 2)),
 .s 14 (mo 75 (.indexAddr 79 (T 74) (T 63))),
 .b 15 (mx (.store 2 (T 75) (T 72))) []]
def l43_1:List Oper:=[mo 61 (.move (T 0)),
 mo 62 (.fieldAddr 83 (T 4) 2),
 mo 63 (.load 3 (T 62)),
 mo 64 (.move (T 0)),
 mo 65 (.nilCheck (T 64)),
 mo 66 (.fieldAddr 87 (T 65) 0),
 mo 67 (.fieldAddr 26 (T 66) 3),
 mo 68 (.load 23 (T 67)),
 mo 69 (.fieldAddr 83 (T 4) 4),
 mo 70 (.load 2 (T 69)),
 mo 71 (.indexAddr 23 (T 68) (T 70)),
 mo 72 (.load 2 (T 71)),
 mo 73 (.nilCheck (T 61)),
 mo 74 (.fieldAddr 87 (T 73) 2),
 mo 75 (.indexAddr 79 (T 74) (T 63)),
 mx (.store 2 (T 75) (T 72))]
noncomputable def r43_1:Code:=.region 12 o43_1 true
theorem xr_43_1 {Q:DExit→St→Prop} {s:St}:xs Try.prog 173 r43_1 Q s=NC Try.prog 173 r43_1 Q s:=rfl
theorem yr_43_1 {Q:DExit→St→Prop} {s:St} (hdf:s.df=[]) (h:YG Try.prog (YD Try.prog l43_1.toArray Q q43_1) g43_1 s []):NC Try.prog 173 r43_1 Q s:=
 NC.yd (l:=l43_1) (b:=[0,0,2,0,8,24,56,120,0,256,1016,2040,1,4097,16383,32767]) (by kernel_rfl) (by kernel_rfl) (by kernel_rfl) (by kernel_rfl) (by kernel_rfl) (by kernel_rfl) (by kernel_rfl) (by kernel_rfl) hdf h
attribute [go_sem] xr_43_1
noncomputable def o43_2:Array Oper:=drawn Try.f43 2
def g43_2:List (Nat × Tmp × TypeId):=[]
def q43_2:List YO:=[.s 0 (mo 78 (.move (T 0))),
 .s 1 (mo 79 (.fieldAddr 83 (T 4) 2)),
 .s 2 (mo 80 (.load 3 (T 79))),
 .s 3 (mo 81 (.move (T 0))),
 .s 4 (mo 82 (.fieldAddr 83 (T 4) 3)),
 .s 5 (mo 83 (.load 3 (T 82))),
 .s 6 (mo 84 (.nilCheck (T 81))),
 .s 7 (mo 85 (.fieldAddr 87 (T 84) 2)),
 .s 8 (mo 86 (.indexAddr 79 (T 85) (T 83))),
 .s 9 (mo 87 (.load 2 (T 86))),
 .s 10 (mo 88 (.nilCheck (T 78))),
 .s 11 (mo 89 (.fieldAddr 87 (T 88) 2)),
 .s 12 (mo 90 (.indexAddr 79 (T 89) (T 80))),
 .b 13 (mx (.store 2 (T 90) (T 87))) []]
def l43_2:List Oper:=[mo 78 (.move (T 0)),
 mo 79 (.fieldAddr 83 (T 4) 2),
 mo 80 (.load 3 (T 79)),
 mo 81 (.move (T 0)),
 mo 82 (.fieldAddr 83 (T 4) 3),
 mo 83 (.load 3 (T 82)),
 mo 84 (.nilCheck (T 81)),
 mo 85 (.fieldAddr 87 (T 84) 2),
 mo 86 (.indexAddr 79 (T 85) (T 83)),
 mo 87 (.load 2 (T 86)),
 mo 88 (.nilCheck (T 78)),
 mo 89 (.fieldAddr 87 (T 88) 2),
 mo 90 (.indexAddr 79 (T 89) (T 80)),
 mx (.store 2 (T 90) (T 87))]
noncomputable def r43_2:Code:=.region 14 o43_2 true
theorem xr_43_2 {Q:DExit→St→Prop} {s:St}:xs Try.prog 173 r43_2 Q s=NC Try.prog 173 r43_2 Q s:=rfl
theorem yr_43_2 {Q:DExit→St→Prop} {s:St} (hdf:s.df=[]) (h:YG Try.prog (YD Try.prog l43_2.toArray Q q43_2) g43_2 s []):NC Try.prog 173 r43_2 Q s:=
 NC.yd (l:=l43_2) (b:=[0,0,2,0,0,16,8,72,248,504,1,1025,4095,8191]) (by kernel_rfl) (by kernel_rfl) (by kernel_rfl) (by kernel_rfl) (by kernel_rfl) (by kernel_rfl) (by kernel_rfl) (by kernel_rfl) hdf h
attribute [go_sem] xr_43_2
noncomputable def o43_3:Array Oper:=drawn Try.f43 3
def g43_3:List (Nat × Tmp × TypeId):=[]
def q43_3:List YO:=[.s 0 (mo 93 (.move (T 0))),
 .s 1 (mo 94 (.fieldAddr 83 (T 4) 2)),
 .l 2 (mo 95 (.load 3 (T 94))),
 .s 3 (mo 96 (.move (T 0))),
 .s 4 (mo 97 (.fieldAddr 83 (T 4) 2)),
 .s 5 (mo 98 (.load 3 (T 97))),
 .s 6 (mo 99 (.nilCheck (T 96))),
 .s 7 (mo 100 (.fieldAddr 87 (T 99) 2)),
 .s 8 (mo 101 (.indexAddr 79 (T 100) (T 98))),
 .s 9 (mo 102 (.load 2 (T 101))),
 .s 10 (mo 103 (.fieldAddr 83 (T 4) 4)),
 .s 11 (mo 104 (.load 2 (T 103))),
 .s 13 (mo 106 (.nilCheck (T 93))),
 .s 14 (mo 107 (.fieldAddr 87 (T 106) 2)),
 .b 12 (mo 105 (.call ⟨(.value (.func 18)),#[(T 102),(T 104)],#[2,2]⟩)) [0],
 .s 15 (mo 108 (.indexAddr 79 (T 107) (T 95))),
 .b 16 (mx (.store 2 (T 108) (T 105))) []]
def l43_3:List Oper:=[mo 93 (.move (T 0)),
 mo 94 (.fieldAddr 83 (T 4) 2),
 mo 95 (.load 3 (T 94)),
 mo 96 (.move (T 0)),
 mo 97 (.fieldAddr 83 (T 4) 2),
 mo 98 (.load 3 (T 97)),
 mo 99 (.nilCheck (T 96)),
 mo 100 (.fieldAddr 87 (T 99) 2),
 mo 101 (.indexAddr 79 (T 100) (T 98)),
 mo 102 (.load 2 (T 101)),
 mo 103 (.fieldAddr 83 (T 4) 4),
 mo 104 (.load 2 (T 103)),
 mo 105 (.call ⟨(.value (.func 18)),#[(T 102),(T 104)],#[2,2]⟩),
 mo 106 (.nilCheck (T 93)),
 mo 107 (.fieldAddr 87 (T 106) 2),
 mo 108 (.indexAddr 79 (T 107) (T 95)),
 mx (.store 2 (T 108) (T 105))]
noncomputable def r43_3:Code:=.region 16 o43_3 true
theorem xr_43_3 {Q:DExit→St→Prop} {s:St}:xs Try.prog 173 r43_3 Q s=NC Try.prog 173 r43_3 Q s:=rfl
theorem yr_43_3 {Q:DExit→St→Prop} {s:St} (hdf:s.df=[]) (h:YG Try.prog (YD Try.prog l43_3.toArray Q q43_3) g43_3 s []):NC Try.prog 173 r43_3 Q s:=
 NC.yd (l:=l43_3) (b:=[0,0,2,0,0,16,8,72,248,504,0,1024,4088,1,8193,32767,65535]) (by kernel_rfl) (by kernel_rfl) (by kernel_rfl) (by kernel_rfl) (by kernel_rfl) (by kernel_rfl) (by kernel_rfl) (by kernel_rfl) hdf h
attribute [go_sem] xr_43_3
noncomputable def o43_4:Array Oper:=drawn Try.f43 4
def g43_4:List (Nat × Tmp × TypeId):=[]
def q43_4:List YO:=[.s 0 (mo 118 (.move (T 0))),
 .s 1 (mo 119 (.fieldAddr 83 (T 4) 2)),
 .s 2 (mo 120 (.load 3 (T 119))),
 .s 3 (mo 121 (.nilCheck (T 118))),
 .s 4 (mo 122 (.fieldAddr 87 (T 121) 2)),
 .s 5 (mo 123 (.indexAddr 79 (T 122) (T 120))),
 .s 6 (mo 124 (.load 2 (T 123))),
 .s 7 (mo 125 (.binOp .neq 2 (T 124) (.const (.int .i64 0)) 2))]
def l43_4:List Oper:=[mo 118 (.move (T 0)),
 mo 119 (.fieldAddr 83 (T 4) 2),
 mo 120 (.load 3 (T 119)),
 mo 121 (.nilCheck (T 118)),
 mo 122 (.fieldAddr 87 (T 121) 2),
 mo 123 (.indexAddr 79 (T 122) (T 120)),
 mo 124 (.load 2 (T 123)),
 mo 125 (.binOp .neq 2 (T 124) (.const (.int .i64 0)) 2)]
noncomputable def r43_4:Code:=.region 20 o43_4 true
theorem xr_43_4 {Q:DExit→St→Prop} {s:St}:xs Try.prog 173 r43_4 Q s=NC Try.prog 173 r43_4 Q s:=rfl
theorem yr_43_4 {Q:DExit→St→Prop} {s:St} (hdf:s.df=[]) (h:YG Try.prog (YD Try.prog l43_4.toArray Q q43_4) g43_4 s []):NC Try.prog 173 r43_4 Q s:=
 NC.yd (l:=l43_4) (b:=[0,0,2,1,9,31,63,127]) (by kernel_rfl) (by kernel_rfl) (by kernel_rfl) (by kernel_rfl) (by kernel_rfl) (by kernel_rfl) (by kernel_rfl) (by kernel_rfl) hdf h
attribute [go_sem] xr_43_4
noncomputable def o43_5:Array Oper:=drawn Try.f43 5
def g43_5:List (Nat × Tmp × TypeId):=[]
def q43_5:List YO:=[.s 0 (mo 139 (.move (T 0))),
 .s 1 (mo 140 (.move (T 0))),
 .s 2 (mo 141 (.nilCheck (T 140))),
 .s 3 (mo 142 (.fieldAddr 87 (T 141) 4)),
 .l 4 (mo 143 (.load 23 (T 142))),
 .s 5 (mo 144 (.move (T 0))),
 .s 6 (mo 145 (.fieldAddr 83 (T 4) 2)),
 .s 7 (mo 146 (.load 3 (T 145))),
 .s 8 (mo 147 (.nilCheck (T 144))),
 .s 9 (mo 148 (.fieldAddr 87 (T 147) 2)),
 .s 10 (mo 149 (.indexAddr 79 (T 148) (T 146))),
 .s 11 (mo 150 (.load 2 (T 149))),
 .b 12 (mo 151 (.buildSlice 23 1 #[(0,(T 150))])) [0],
 .b 13 (mo 152 (.call ⟨(.builtin .append),#[(T 143),(T 151)],#[23,23]⟩)) [],
 .s 14 (mo 153 (.nilCheck (T 139))),
 .s 15 (mo 154 (.fieldAddr 87 (T 153) 4)),
 .b 16 (mx (.store 23 (T 154) (T 152))) []]
def l43_5:List Oper:=[mo 139 (.move (T 0)),
 mo 140 (.move (T 0)),
 mo 141 (.nilCheck (T 140)),
 mo 142 (.fieldAddr 87 (T 141) 4),
 mo 143 (.load 23 (T 142)),
 mo 144 (.move (T 0)),
 mo 145 (.fieldAddr 83 (T 4) 2),
 mo 146 (.load 3 (T 145)),
 mo 147 (.nilCheck (T 144)),
 mo 148 (.fieldAddr 87 (T 147) 2),
 mo 149 (.indexAddr 79 (T 148) (T 146)),
 mo 150 (.load 2 (T 149)),
 mo 151 (.buildSlice 23 1 #[(0,(T 150))]),
 mo 152 (.call ⟨(.builtin .append),#[(T 143),(T 151)],#[23,23]⟩),
 mo 153 (.nilCheck (T 139)),
 mo 154 (.fieldAddr 87 (T 153) 4),
 mx (.store 23 (T 154) (T 152))]
noncomputable def r43_5:Code:=.region 25 o43_5 true
theorem xr_43_5 {Q:DExit→St→Prop} {s:St}:xs Try.prog 173 r43_5 Q s=NC Try.prog 173 r43_5 Q s:=rfl
theorem yr_43_5 {Q:DExit→St→Prop} {s:St} (hdf:s.df=[]) (h:YG Try.prog (YD Try.prog l43_5.toArray Q q43_5) g43_5 s []):NC Try.prog 173 r43_5 Q s:=
 NC.yd (l:=l43_5) (b:=[0,0,2,6,14,0,0,64,32,288,992,2016,4064,8190,16383,32767,65535]) (by kernel_rfl) (by kernel_rfl) (by kernel_rfl) (by kernel_rfl) (by kernel_rfl) (by kernel_rfl) (by kernel_rfl) (by kernel_rfl) hdf h
attribute [go_sem] xr_43_5
noncomputable def o43_6:Array Oper:=drawn Try.f43 6
def g43_6:List (Nat × Tmp × TypeId):=[]
def q43_6:List YO:=[.s 0 (mo 157 (.fieldAddr 83 (T 4) 4)),
 .s 1 (mo 158 (.load 2 (T 157))),
 .s 2 (mo 159 (.binOp .add 3 (.const (.int .i64 100)) (T 158) 3)),
 .s 3 (mo 6 (.assign (.const (.bool true)))),
 .s 4 (mo 7 (.assign (T 159)))]
def l43_6:List Oper:=[mo 157 (.fieldAddr 83 (T 4) 4),
 mo 158 (.load 2 (T 157)),
 mo 159 (.binOp .add 3 (.const (.int .i64 100)) (T 158) 3),
 mo 6 (.assign (.const (.bool true))),
 mo 7 (.assign (T 159))]
noncomputable def r43_6:Code:=.region 27 o43_6 true
theorem xr_43_6 {Q:DExit→St→Prop} {s:St}:xs Try.prog 173 r43_6 Q s=NC Try.prog 173 r43_6 Q s:=rfl
theorem yr_43_6 {Q:DExit→St→Prop} {s:St} (hdf:s.df=[]) (h:YG Try.prog (YD Try.prog l43_6.toArray Q q43_6) g43_6 s []):NC Try.prog 173 r43_6 Q s:=
 NC.yd (l:=l43_6) (b:=[0,1,3,0,15]) (by kernel_rfl) (by kernel_rfl) (by kernel_rfl) (by kernel_rfl) (by kernel_rfl) (by kernel_rfl) (by kernel_rfl) (by kernel_rfl) hdf h
attribute [go_sem] xr_43_6
noncomputable def o43_7:Array Oper:=drawn Try.f43 7
def g43_7:List (Nat × Tmp × TypeId):=[]
def q43_7:List YO:=[.s 0 (mo 18 (.fieldAddr 83 (T 4) 1)),
 .s 1 (mo 19 (.load 3 (T 18))),
 .s 2 (mo 20 (.move (T 0))),
 .s 3 (mo 21 (.fieldAddr 83 (T 4) 2)),
 .s 4 (mo 22 (.load 3 (T 21))),
 .s 5 (mo 23 (.nilCheck (T 20))),
 .s 6 (mo 24 (.fieldAddr 87 (T 23) 2)),
 .s 7 (mo 25 (.indexAddr 79 (T 24) (T 22))),
 .s 8 (mo 26 (.load 2 (T 25))),
 .s 9 (mo 27 (.move (T 0))),
 .s 10 (mo 28 (.fieldAddr 83 (T 4) 3)),
 .s 11 (mo 29 (.load 3 (T 28))),
 .s 12 (mo 30 (.nilCheck (T 27))),
 .s 13 (mo 31 (.fieldAddr 87 (T 30) 2)),
 .s 14 (mo 32 (.indexAddr 79 (T 31) (T 29))),
 .s 15 (mo 33 (.load 2 (T 32))),
 .b 16 (mo 34 (.call ⟨(.value (.func 16)),#[(T 19),(T 26),(T 33)],#[3,2,2]⟩)) [],
 .s 17 (mo 17 (.move (T 34))),
 .s 18 (mo 35 (.extract (T 17) 0)),
 .s 19 (mo 36 (.extract (T 17) 1)),
 .s 20 (mo 9 (.assign (T 35))),
 .s 21 (mo 10 (.assign (T 36)))]
def l43_7:List Oper:=[mo 18 (.fieldAddr 83 (T 4) 1),
 mo 19 (.load 3 (T 18)),
 mo 20 (.move (T 0)),
 mo 21 (.fieldAddr 83 (T 4) 2),
 mo 22 (.load 3 (T 21)),
 mo 23 (.nilCheck (T 20)),
 mo 24 (.fieldAddr 87 (T 23) 2),
 mo 25 (.indexAddr 79 (T 24) (T 22)),
 mo 26 (.load 2 (T 25)),
 mo 27 (.move (T 0)),
 mo 28 (.fieldAddr 83 (T 4) 3),
 mo 29 (.load 3 (T 28)),
 mo 30 (.nilCheck (T 27)),
 mo 31 (.fieldAddr 87 (T 30) 2),
 mo 32 (.indexAddr 79 (T 31) (T 29)),
 mo 33 (.load 2 (T 32)),
 mo 34 (.call ⟨(.value (.func 16)),#[(T 19),(T 26),(T 33)],#[3,2,2]⟩),
 mo 17 (.move (T 34)),
 mo 35 (.extract (T 17) 0),
 mo 36 (.extract (T 17) 1),
 mo 9 (.assign (T 35)),
 mo 10 (.assign (T 36))]
noncomputable def r43_7:Code:=.region 3 o43_7 true
theorem xr_43_7 {Q:DExit→St→Prop} {s:St}:xs Try.prog 173 r43_7 Q s=NC Try.prog 173 r43_7 Q s:=rfl
theorem yr_43_7 {Q:DExit→St→Prop} {s:St} (hdf:s.df=[]) (h:YG Try.prog (YD Try.prog l43_7.toArray Q q43_7) g43_7 s []):NC Try.prog 173 r43_7 Q s:=
 NC.yd (l:=l43_7) (b:=[0,1,0,0,8,4,36,124,252,0,0,1024,512,4608,15872,32256,65535,131071,262143,262143,524287,2097151]) (by kernel_rfl) (by kernel_rfl) (by kernel_rfl) (by kernel_rfl) (by kernel_rfl) (by kernel_rfl) (by kernel_rfl) (by kernel_rfl) hdf h
attribute [go_sem] xr_43_7
noncomputable def o43_8:Array Oper:=drawn Try.f43 8
def g43_8:List (Nat × Tmp × TypeId):=[]
def q43_8:List YO:=[.s 0 (mo 40 (.move (T 0))),
 .s 1 (mo 41 (.fieldAddr 83 (T 4) 2)),
 .s 2 (mo 42 (.load 3 (T 41))),
 .s 3 (mo 43 (.move (T 9))),
 .s 4 (mo 44 (.nilCheck (T 40))),
 .s 5 (mo 45 (.fieldAddr 87 (T 44) 2)),
 .s 6 (mo 46 (.indexAddr 79 (T 45) (T 42))),
 .b 7 (mx (.store 2 (T 46) (T 43))) []]
def l43_8:List Oper:=[mo 40 (.move (T 0)),
 mo 41 (.fieldAddr 83 (T 4) 2),
 mo 42 (.load 3 (T 41)),
 mo 43 (.move (T 9)),
 mo 44 (.nilCheck (T 40)),
 mo 45 (.fieldAddr 87 (T 44) 2),
 mo 46 (.indexAddr 79 (T 45) (T 42)),
 mx (.store 2 (T 46) (T 43))]
noncomputable def r43_8:Code:=.region 6 o43_8 true
theorem xr_43_8 {Q:DExit→St→Prop} {s:St}:xs Try.prog 173 r43_8 Q s=NC Try.prog 173 r43_8 Q s:=rfl
theorem yr_43_8 {Q:DExit→St→Prop} {s:St} (hdf:s.df=[]) (h:YG Try.prog (YD Try.prog l43_8.toArray Q q43_8) g43_8 s []):NC Try.prog 173 r43_8 Q s:=
 NC.yd (l:=l43_8) (b:=[0,0,2,0,1,17,63,127]) (by kernel_rfl) (by kernel_rfl) (by kernel_rfl) (by kernel_rfl) (by kernel_rfl) (by kernel_rfl) (by kernel_rfl) (by kernel_rfl) hdf h
attribute [go_sem] xr_43_8
noncomputable def c43:Code:=
 .seq (rg [mo 4 (.box 83 (T 1)),
 mo 6 (.assign (.const (.bool false))),
 mo 7 (.assign (.const (.int .i64 0)))])
 (.seq (rg [mo 11 (.move (T 0)),
 mo 12 (.move (T 2)),
 mo 13 (.nilCheck (T 11)),
 mo 14 (.fieldAddr 87 (T 13) 5),
 mx (.store 3 (T 14) (T 12))])
 (.seq (.seq (rg [mo 15 (.fieldAddr 83 (T 4) 1),
 mo 16 (.load 3 (T 15))])
 (.block 0 (.seq (rg [mo 48 (.binOp .eql 3 (T 16) (.const (.int .i64 0)) 3),
 mo 47 (.assign (T 48))])
 (.cond (T 47) (.seq (rg [mo 6 (.assign (.const (.bool true))),
 mo 7 (.assign (.const (.int .i64 0)))])
 (.ret))
 (.seq (rg [mo 50 (.binOp .eql 3 (T 16) (.const (.int .i64 1)) 3),
 mo 49 (.assign (T 50))])
 (.cond (T 49) (r43_0)
 (.seq (rg [mo 60 (.binOp .eql 3 (T 16) (.const (.int .i64 2)) 3),
 mo 59 (.assign (T 60))])
 (.cond (T 59) (r43_1)
 (.seq (rg [mo 77 (.binOp .eql 3 (T 16) (.const (.int .i64 7)) 3),
 mo 76 (.assign (T 77))])
 (.cond (T 76) (r43_2)
 (.seq (rg [mo 92 (.binOp .eql 3 (T 16) (.const (.int .i64 19)) 3),
 mo 91 (.assign (T 92))])
 (.cond (T 91) (r43_3)
 (.seq (rg [mo 110 (.binOp .eql 3 (T 16) (.const (.int .i64 22)) 3),
 mo 109 (.assign (T 110))])
 (.cond (T 109) (rg [mo 111 (.move (T 0)),
 mo 112 (.fieldAddr 83 (T 4) 4),
 mo 113 (.load 2 (T 112)),
 mo 114 (.nilCheck (T 111)),
 mo 115 (.fieldAddr 87 (T 114) 5),
 mx (.store 3 (T 115) (T 113))])
 (.seq (rg [mo 117 (.binOp .eql 3 (T 16) (.const (.int .i64 23)) 3),
 mo 116 (.assign (T 117))])
 (.cond (T 116) (.seq (r43_4)
 (.cond (T 125) (rg [mo 126 (.move (T 0)),
 mo 127 (.fieldAddr 83 (T 4) 4),
 mo 128 (.load 2 (T 127)),
 mo 129 (.nilCheck (T 126)),
 mo 130 (.fieldAddr 87 (T 129) 5),
 mx (.store 3 (T 130) (T 128))])
 (.skip)))
 (.seq (rg [mo 132 (.binOp .eql 3 (T 16) (.const (.int .i64 24)) 3),
 mo 131 (.assign (T 132))])
 (.cond (T 131) (.seq (.seq (rg [mo 133 (.move (T 0)),
 mo 134 (.nilCheck (T 133)),
 mo 135 (.fieldAddr 87 (T 134) 4),
 mo 136 (.load 23 (T 135)),
 mo 137 (.call ⟨(.builtin .len),#[(T 136)],#[23]⟩),
 mo 138 (.binOp .geq 3 (T 137) (.const (.int .i64 8)) 3)])
 (.cond (T 138) (.seq (rg [mo 6 (.assign (.const (.bool true))),
 mo 7 (.assign (.const (.int .i64 5)))])
 (.ret))
 (.skip)))
 (r43_5))
 (.seq (rg [mo 156 (.binOp .eql 3 (T 16) (.const (.int .i64 25)) 3),
 mo 155 (.assign (T 156))])
 (.cond (T 155) (.seq (r43_6)
 (.ret))
 (.seq (.seq (rg [mo 161 (.binOp .eql 3 (T 16) (.const (.int .i64 3)) 3),
 mo 160 (.assign (T 161))])
 (.cond (T 160) (.skip)
 (.seq (rg [mo 162 (.binOp .eql 3 (T 16) (.const (.int .i64 4)) 3),
 mo 160 (.assign (T 162))])
 (.cond (T 160) (.skip)
 (.seq (rg [mo 163 (.binOp .eql 3 (T 16) (.const (.int .i64 5)) 3),
 mo 160 (.assign (T 163))])
 (.cond (T 160) (.skip)
 (.seq (rg [mo 164 (.binOp .eql 3 (T 16) (.const (.int .i64 6)) 3),
 mo 160 (.assign (T 164))])
 (.cond (T 160) (.skip)
 (.seq (rg [mo 165 (.binOp .eql 3 (T 16) (.const (.int .i64 26)) 3),
 mo 160 (.assign (T 165))])
 (.cond (T 160) (.skip)
 (rg [mo 166 (.binOp .eql 3 (T 16) (.const (.int .i64 27)) 3),
 mo 160 (.assign (T 166))])))))))))))
 (.cond (T 160) (.seq (rg [mo 167 (.move (T 0)),
 mo 168 (.load 83 (T 4)),
 mo 169 (.call ⟨(.value (.func 72)),#[(T 167),(T 168)],#[85,83]⟩),
 mo 8 (.assign (T 169))])
 (.seq (rg [mo 170 (.move (T 8)),
 mo 171 (.binOp .neq 3 (T 170) (.const (.int .i64 0)) 3),
 mo 172 (.move (T 8)),
 mo 6 (.assign (T 171)),
 mo 7 (.assign (T 172))])
 (.ret)))
 (.seq (r43_7)
 (.seq (.seq (rg [mo 37 (.move (T 10)),
 mo 38 (.binOp .neq 3 (T 37) (.const (.int .i64 0)) 3)])
 (.cond (T 38) (.seq (rg [mo 39 (.move (T 10)),
 mo 6 (.assign (.const (.bool true))),
 mo 7 (.assign (T 39))])
 (.ret))
 (.skip)))
 (r43_8)))))))))))))))))))))))))
 (.seq (rg [mo 6 (.assign (.const (.bool false))),
 mo 7 (.assign (.const (.int .i64 0)))])
 (.ret))))
theorem body_43:Try.f43.body.map strip=some c43:=by kernel_rfl
theorem go_43:GoC Try.prog 43 173 c43 [(.tmp 6),(.tmp 7)]:=
 GoC.of (fn:=Try.f43) (by kernel_rfl) body_43 (by kernel_rfl) (by kernel_rfl) (by kernel_rfl)
noncomputable def o44_0:Array Oper:=drawn Try.f44 0
def g44_0:List (Nat × Tmp × TypeId):=[]
def q44_0:List YO:=[.s 0 (mo 18 (.move (T 0))),
 .s 1 (mo 19 (.move (T 1))),
 .s 2 (mo 20 (.binOp .quo 2 (T 18) (T 19) 2)),
 .s 3 (mo 21 (.move (T 0))),
 .s 4 (mo 22 (.move (T 1))),
 .s 5 (mo 23 (.binOp .rem 2 (T 21) (T 22) 2)),
 .s 6 (mo 4 (.assign (T 20))),
 .s 7 (mo 5 (.assign (T 23))),
 .s 8 (mo 6 (.assign (.const (.bool true))))]
def l44_0:List Oper:=[mo 18 (.move (T 0)),
 mo 19 (.move (T 1)),
 mo 20 (.binOp .quo 2 (T 18) (T 19) 2),
 mo 21 (.move (T 0)),
 mo 22 (.move (T 1)),
 mo 23 (.binOp .rem 2 (T 21) (T 22) 2),
 mo 4 (.assign (T 20)),
 mo 5 (.assign (T 23)),
 mo 6 (.assign (.const (.bool true)))]
noncomputable def r44_0:Code:=.region 5 o44_0 true
theorem xr_44_0 {Q:DExit→St→Prop} {s:St}:xs Try.prog 24 r44_0 Q s=NC Try.prog 24 r44_0 Q s:=rfl
theorem yr_44_0 {Q:DExit→St→Prop} {s:St} (hdf:s.df=[]) (h:YG Try.prog (YD Try.prog l44_0.toArray Q q44_0) g44_0 s []):NC Try.prog 24 r44_0 Q s:=
 NC.yd (l:=l44_0) (b:=[0,0,3,0,0,24,7,127,255]) (by kernel_rfl) (by kernel_rfl) (by kernel_rfl) (by kernel_rfl) (by kernel_rfl) (by kernel_rfl) (by kernel_rfl) (by kernel_rfl) hdf h
attribute [go_sem] xr_44_0
noncomputable def c44:Code:=
 .seq (rg [mo 4 (.assign (.const (.int .i64 0))),
 mo 5 (.assign (.const (.int .i64 0))),
 mo 6 (.assign (.const (.bool false)))])
 (.seq (.block 0 (.seq (rg [mo 8 (.move (T 1)),
 mo 9 (.binOp .eql 2 (T 8) (.const (.int .i64 0)) 2),
 mo 7 (.assign (T 9))])
 (.cond (T 7) (.seq (rg [mo 4 (.assign (.const (.int .i64 0))),
 mo 5 (.assign (.const (.int .i64 0))),
 mo 6 (.assign (.const (.bool false)))])
 (.ret))
 (.seq (rg [mo 11 (.move (T 0)),
 mo 12 (.binOp .eql 2 (T 11) (.const (.int .i64 (-9223372036854775808))) 2),
 mo 13 (.move (T 12)),
 mg 14 2 true (.move (T 1)),
 mg 15 2 true (.binOp .eql 2 (T 14) (.const (.int .i64 (-1))) 2),
 mo 16 (.pick (T 13) (T 15) (.const (.bool false))),
 mo 10 (.assign (T 16))])
 (.cond (T 10) (.seq (rg [mo 17 (.move (T 0)),
 mo 4 (.assign (T 17)),
 mo 5 (.assign (.const (.int .i64 0))),
 mo 6 (.assign (.const (.bool true)))])
 (.ret))
 (.skip))))))
 (.seq (r44_0)
 (.ret)))
theorem body_44:Try.f44.body.map strip=some c44:=by kernel_rfl
theorem go_44:GoC Try.prog 44 24 c44 [(.tmp 4),(.tmp 5),(.tmp 6)]:=
 GoC.of (fn:=Try.f44) (by kernel_rfl) body_44 (by kernel_rfl) (by kernel_rfl) (by kernel_rfl)
def c45:Code:=
 .seq (rg [mo 2 (.assign (.const (.int .i64 0)))])
 (.seq (.seq (rg [mo 3 (.move (T 0))])
 (.cond (T 3) (.seq (rg [mo 2 (.assign (.const (.int .i64 1)))])
 (.ret))
 (.skip)))
 (.seq (rg [mo 2 (.assign (.const (.int .i64 0)))])
 (.ret)))
theorem body_45:Try.f45.body.map strip=some c45:=by kernel_rfl
theorem go_45:GoC Try.prog 45 4 c45 [(.tmp 2)]:=
 GoC.of (fn:=Try.f45) (by kernel_rfl) body_45 (by kernel_rfl) (by kernel_rfl) (by kernel_rfl)
def c46:Code:=
 .seq (rg [mo 2 (.assign (.const (.int .i64 0)))])
 (.seq (.seq (rg [mo 3 (.move (T 0))])
 (.cond (T 3) (.seq (rg [mo 2 (.assign (.const (.int .i64 1)))])
 (.ret))
 (.skip)))
 (.seq (rg [mo 2 (.assign (.const (.int .i64 0)))])
 (.ret)))
theorem body_46:Try.f46.body.map strip=some c46:=by kernel_rfl
theorem go_46:GoC Try.prog 46 4 c46 [(.tmp 2)]:=
 GoC.of (fn:=Try.f46) (by kernel_rfl) body_46 (by kernel_rfl) (by kernel_rfl) (by kernel_rfl)
noncomputable def o47_0:Array Oper:=drawn Try.f47 0
def g47_0:List (Nat × Tmp × TypeId):=[]
def q47_0:List YO:=[.s 0 (mo 11 (.load 44 (T 3))),
 .s 1 (mo 12 (.move (T 0))),
 .s 2 (mo 13 (.move (T 5))),
 .s 3 (mo 14 (.indexAddr 24 (T 12) (T 13))),
 .s 4 (mo 15 (.load 44 (T 14))),
 .s 5 (mo 16 (.binOp .eql 44 (T 11) (T 15) 44))]
def l47_0:List Oper:=[mo 11 (.load 44 (T 3)),
 mo 12 (.move (T 0)),
 mo 13 (.move (T 5)),
 mo 14 (.indexAddr 24 (T 12) (T 13)),
 mo 15 (.load 44 (T 14)),
 mo 16 (.binOp .eql 44 (T 11) (T 15) 44)]
noncomputable def r47_0:Code:=.region 4 o47_0 true
theorem xr_47_0 {Q:DExit→St→Prop} {s:St}:xs Try.prog 19 r47_0 Q s=NC Try.prog 19 r47_0 Q s:=rfl
theorem yr_47_0 {Q:DExit→St→Prop} {s:St} (hdf:s.df=[]) (h:YG Try.prog (YD Try.prog l47_0.toArray Q q47_0) g47_0 s []):NC Try.prog 19 r47_0 Q s:=
 NC.yd (l:=l47_0) (b:=[0,0,0,6,14,31]) (by kernel_rfl) (by kernel_rfl) (by kernel_rfl) (by kernel_rfl) (by kernel_rfl) (by kernel_rfl) (by kernel_rfl) (by kernel_rfl) hdf h
attribute [go_sem] xr_47_0
noncomputable def c47:Code:=
 .seq (rg [mo 3 (.box 44 (T 1)),
 mo 4 (.assign (.const (.int .i64 0)))])
 (.seq (.seq (rg [mo 6 (.move (T 0)),
 mo 7 (.call ⟨(.builtin .len),#[(T 6)],#[24]⟩),
 mo 8 (.move (.const (.int .i64 0)))])
 (.block 0 (.loop (.seq (rg [mo 9 (.binOp .lss 3 (T 8) (T 7) 3)])
 (.seq (.cond (T 9) (.skip)
 (.exit 0))
 (.seq (.block 1 (.seq (rg [mo 10 (.move (T 8)),
 mo 5 (.assign (T 10))])
 (.seq (r47_0)
 (.cond (T 16) (.seq (rg [mo 17 (.move (T 5)),
 mo 4 (.assign (T 17))])
 (.ret))
 (.skip)))))
 (rg [mo 18 (.binOp .add 3 (T 8) (.const (.int .i64 1)) 3),
 mo 8 (.move (T 18))])))))))
 (.seq (rg [mo 4 (.assign (.const (.int .i64 (-1))))])
 (.ret)))
theorem body_47:Try.f47.body.map strip=some c47:=by kernel_rfl
theorem go_47:GoC Try.prog 47 19 c47 [(.tmp 4)]:=
 GoC.of (fn:=Try.f47) (by kernel_rfl) body_47 (by kernel_rfl) (by kernel_rfl) (by kernel_rfl)
def c48:Code:=
 .seq (rg [mo 4 (.assign (.const (.slice none 0 0)))])
 (.seq (rg [mo 8 (.move (T 0)),
 mo 9 (.move (T 1)),
 mo 10 (.call ⟨(.value (.func 73)),#[(T 8),(T 9)],#[27,100]⟩),
 mo 5 (.assign (T 10))])
 (.seq (.seq (rg [mo 11 (.move (T 5)),
 mo 12 (.binOp .eql 3 (T 11) (.const (.int .i64 (-1))) 3)])
 (.cond (T 12) (.seq (rg [mo 13 (.move (T 0)),
 mo 4 (.assign (T 13))])
 (.ret))
 (.skip)))
 (.seq (.seq (rg [mo 14 (.move (T 5)),
 mo 15 (.binOp .add 3 (T 14) (.const (.int .i64 1)) 3),
 mo 6 (.assign (T 15))])
 (.block 0 (.loop (.seq (.seq (rg [mo 16 (.move (T 6)),
 mo 17 (.move (T 0)),
 mo 18 (.call ⟨(.builtin .len),#[(T 17)],#[27]⟩),
 mo 19 (.binOp .lss 3 (T 16) (T 18) 3)])
 (.cond (T 19) (.skip)
 (.exit 0)))
 (.seq (.block 1 (.seq (rg [mo 22 (.move (T 0)),
 mo 23 (.move (T 6)),
 mo 24 (.indexAddr 27 (T 22) (T 23)),
 mo 25 (.load 46 (T 24)),
 mo 7 (.alloc 46),
 mx (.store 46 (T 7) (T 25))])
 (.seq (rg [mo 26 (.move (T 1)),
 mo 27 (.load 46 (T 7)),
 mo 28 (.call ⟨(.value (T 26)),#[(T 27)],#[46]⟩),
 mo 29 (.unOp .not 4 (T 28))])
 (.cond (T 29) (.seq (rg [mo 30 (.move (T 0)),
 mo 31 (.move (T 5)),
 mo 32 (.load 46 (T 7)),
 mo 33 (.indexAddr 27 (T 30) (T 31)),
 mx (.store 46 (T 33) (T 32))])
 (rg [mo 34 (.move (T 5)),
 mo 35 (.binOp .add 3 (T 34) (.const (.int .i64 1)) 3),
 mo 5 (.assign (T 35))]))
 (.skip)))))
 (rg [mo 20 (.move (T 6)),
 mo 21 (.binOp .add 3 (T 20) (.const (.int .i64 1)) 3),
 mo 6 (.assign (T 21))]))))))
 (.seq (rg [mo 36 (.move (T 0)),
 mo 37 (.move (T 5)),
 mo 38 (.slice 27 (T 36) (some (T 37)) none none),
 mx (.call ⟨(.builtin .clear),#[(T 38)],#[27]⟩)])
 (.seq (rg [mo 39 (.move (T 0)),
 mo 40 (.move (T 5)),
 mo 41 (.slice 27 (T 39) none (some (T 40)) none),
 mo 4 (.assign (T 41))])
 (.ret))))))
theorem body_48:Try.f48.body.map strip=some c48:=by kernel_rfl
theorem go_48:GoC Try.prog 48 42 c48 [(.tmp 4)]:=
 GoC.of (fn:=Try.f48) (by kernel_rfl) body_48 (by kernel_rfl) (by kernel_rfl) (by kernel_rfl)
noncomputable def o49_0:Array Oper:=drawn Try.f49 0
def g49_0:List (Nat × Tmp × TypeId):=[]
def q49_0:List YO:=[.s 0 (mo 30 (.move (T 6))),
 .l 1 (mo 31 (.load 44 (T 8))),
 .s 2 (mo 32 (.move (T 3))),
 .s 3 (mo 33 (.load 44 (T 8))),
 .b 4 (mo 34 (.lookup 64 (T 32) (T 33) false)) [0],
 .s 5 (mo 35 (.build 46 #[(0,(T 31)),(1,(T 34))])),
 .b 6 (mo 36 (.buildSlice 27 1 #[(0,(T 35))])) [],
 .b 7 (mo 37 (.call ⟨(.builtin .append),#[(T 30),(T 36)],#[27,27]⟩)) [],
 .s 8 (mo 6 (.assign (T 37)))]
def l49_0:List Oper:=[mo 30 (.move (T 6)),
 mo 31 (.load 44 (T 8)),
 mo 32 (.move (T 3)),
 mo 33 (.load 44 (T 8)),
 mo 34 (.lookup 64 (T 32) (T 33) false),
 mo 35 (.build 46 #[(0,(T 31)),(1,(T 34))]),
 mo 36 (.buildSlice 27 1 #[(0,(T 35))]),
 mo 37 (.call ⟨(.builtin .append),#[(T 30),(T 36)],#[27,27]⟩),
 mo 6 (.assign (T 37))]
noncomputable def r49_0:Code:=.region 11 o49_0 true
theorem xr_49_0 {Q:DExit→St→Prop} {s:St}:xs Try.prog 40 r49_0 Q s=NC Try.prog 40 r49_0 Q s:=rfl
theorem yr_49_0 {Q:DExit→St→Prop} {s:St} (hdf:s.df=[]) (h:YG Try.prog (YD Try.prog l49_0.toArray Q q49_0) g49_0 s []):NC Try.prog 40 r49_0 Q s:=
 NC.yd (l:=l49_0) (b:=[0,0,0,0,12,30,62,127,255]) (by kernel_rfl) (by kernel_rfl) (by kernel_rfl) (by kernel_rfl) (by kernel_rfl) (by kernel_rfl) (by kernel_rfl) (by kernel_rfl) hdf h
attribute [go_sem] xr_49_0
noncomputable def c49:Code:=
 .seq (rg [mo 2 (.assign (.const (.slice none 0 0)))])
 (.seq (rg [mo 9 (.makeMap 64 none),
 mo 3 (.assign (T 9))])
 (.seq (.seq (rg [mo 10 (.move (T 0)),
 mo 11 (.call ⟨(.builtin .len),#[(T 10)],#[27]⟩),
 mo 12 (.move (.const (.int .i64 0)))])
 (.block 0 (.loop (.seq (rg [mo 13 (.binOp .lss 3 (T 12) (T 11) 3)])
 (.seq (.cond (T 13) (.skip)
 (.exit 0))
 (.seq (.block 1 (.seq (rg [mo 14 (.indexAddr 27 (T 10) (T 12)),
 mo 15 (.load 46 (T 14)),
 mo 5 (.alloc 46),
 mx (.store 46 (T 5) (T 15))])
 (rg [mo 16 (.move (T 3)),
 mo 17 (.fieldAddr 46 (T 5) 0),
 mo 18 (.load 44 (T 17)),
 mo 19 (.fieldAddr 46 (T 5) 1),
 mo 20 (.load 2 (T 19)),
 mx (.mapUpdate 64 (T 16) (T 18) (T 20))])))
 (rg [mo 21 (.binOp .add 3 (T 12) (.const (.int .i64 1)) 3),
 mo 12 (.move (T 21))])))))))
 (.seq (rg [mo 6 (.assign (.const (.slice none 0 0)))])
 (.seq (.seq (rg [mo 22 (.move (T 3)),
 mo 23 (.call ⟨(.value (.func 75)),#[(T 22)],#[64]⟩),
 mo 24 (.call ⟨(.value (.func 74)),#[(T 23),(.func 76)],#[119,121]⟩),
 mo 25 (.call ⟨(.builtin .len),#[(T 24)],#[24]⟩),
 mo 26 (.move (.const (.int .i64 0)))])
 (.block 2 (.loop (.seq (rg [mo 27 (.binOp .lss 3 (T 26) (T 25) 3)])
 (.seq (.cond (T 27) (.skip)
 (.exit 2))
 (.seq (.block 3 (.seq (rg [mo 28 (.indexAddr 24 (T 24) (T 26)),
 mo 29 (.load 44 (T 28)),
 mo 8 (.alloc 44),
 mx (.store 44 (T 8) (T 29))])
 (r49_0)))
 (rg [mo 38 (.binOp .add 3 (T 26) (.const (.int .i64 1)) 3),
 mo 26 (.move (T 38))])))))))
 (.seq (rg [mo 39 (.move (T 6)),
 mo 2 (.assign (T 39))])
 (.ret))))))
theorem body_49:Try.f49.body.map strip=some c49:=by kernel_rfl
theorem go_49:GoC Try.prog 49 40 c49 [(.tmp 2)]:=
 GoC.of (fn:=Try.f49) (by kernel_rfl) body_49 (by kernel_rfl) (by kernel_rfl) (by kernel_rfl)
def c50:Code:=
 .seq (rg [mo 2 (.box 46 (T 0)),
 mo 3 (.assign (.const (.bool false)))])
 (.seq (rg [mo 4 (.fieldAddr 26 (T 1) 4),
 mo 5 (.load 24 (T 4)),
 mo 6 (.fieldAddr 46 (T 2) 0),
 mo 7 (.load 44 (T 6)),
 mo 8 (.call ⟨(.value (.func 51)),#[(T 5),(T 7)],#[24,44]⟩),
 mo 9 (.unOp .not 4 (T 8)),
 mo 3 (.assign (T 9))])
 (.ret))
theorem body_50:Try.f50.body.map strip=some c50:=by kernel_rfl
theorem go_50:GoC Try.prog 50 10 c50 [(.tmp 3)]:=
 GoC.of (fn:=Try.f50) (by kernel_rfl) body_50 (by kernel_rfl) (by kernel_rfl) (by kernel_rfl)
def c51:Code:=
 .seq (rg [mo 3 (.box 44 (T 1)),
 mo 4 (.assign (.const (.bool false)))])
 (.seq (rg [mo 5 (.move (T 0)),
 mo 6 (.load 44 (T 3)),
 mo 7 (.call ⟨(.value (.func 19)),#[(T 5),(T 6)],#[24,44]⟩),
 mo 4 (.assign (T 7))])
 (.ret))
theorem body_51:Try.f51.body.map strip=some c51:=by kernel_rfl
theorem go_51:GoC Try.prog 51 8 c51 [(.tmp 4)]:=
 GoC.of (fn:=Try.f51) (by kernel_rfl) body_51 (by kernel_rfl) (by kernel_rfl) (by kernel_rfl)
noncomputable def o52_0:Array Oper:=drawn Try.f52 0
def l52_0:List Oper:=[mo 9 (.move (T 3)),
 mo 10 (.binOp .gtr 3 (T 9) (.const (.int .i64 0)) 3),
 mo 11 (.move (T 10)),
 mg 12 2 true (.move (T 0)),
 mg 13 2 true (.move (T 3)),
 mg 14 2 true (.indexAddr 24 (T 12) (T 13)),
 mg 15 2 true (.fieldAddr 44 (T 14) 0),
 mg 16 2 true (.load 21 (T 15)),
 mg 17 2 true (.move (T 0)),
 mg 18 2 true (.move (T 3)),
 mg 19 2 true (.binOp .sub 3 (T 18) (.const (.int .i64 1)) 3),
 mg 20 2 true (.indexAddr 24 (T 17) (T 19)),
 mg 21 2 true (.fieldAddr 44 (T 20) 0),
 mg 22 2 true (.load 21 (T 21)),
 mg 23 2 true (.binOp .lss 21 (T 16) (T 22) 21),
 mg 24 2 true (.move (T 23)),
 mg 25 15 false (.move (T 0)),
 mg 26 15 false (.move (T 3)),
 mg 27 15 false (.indexAddr 24 (T 25) (T 26)),
 mg 28 15 false (.fieldAddr 44 (T 27) 0),
 mg 29 15 false (.load 21 (T 28)),
 mg 30 15 false (.move (T 0)),
 mg 31 15 false (.move (T 3)),
 mg 32 15 false (.binOp .sub 3 (T 31) (.const (.int .i64 1)) 3),
 mg 33 15 false (.indexAddr 24 (T 30) (T 32)),
 mg 34 15 false (.fieldAddr 44 (T 33) 0),
 mg 35 15 false (.load 21 (T 34)),
 mg 36 15 false (.binOp .eql 21 (T 29) (T 35) 21),
 mg 37 15 false (.move (T 36)),
 mg 38 28 true (.move (T 0)),
 mg 39 28 true (.move (T 3)),
 mg 40 28 true (.indexAddr 24 (T 38) (T 39)),
 mg 41 28 true (.fieldAddr 44 (T 40) 1),
 mg 42 28 true (.load 2 (T 41)),
 mg 43 28 true (.move (T 0)),
 mg 44 28 true (.move (T 3)),
 mg 45 28 true (.binOp .sub 3 (T 44) (.const (.int .i64 1)) 3),
 mg 46 28 true (.indexAddr 24 (T 43) (T 45)),
 mg 47 28 true (.fieldAddr 44 (T 46) 1),
 mg 48 28 true (.load 2 (T 47)),
 mg 49 28 true (.binOp .leq 2 (T 42) (T 48) 2),
 mg 50 15 false (.pick (T 37) (T 49) (.const (.bool false))),
 mg 51 2 true (.pick (T 24) (.const (.bool true)) (T 50)),
 mo 52 (.pick (T 11) (T 51) (.const (.bool false)))]
noncomputable def r52_0:Code:=.region 4 o52_0 true
theorem xr_52_0 {Q:DExit→St→Prop} {s:St}:xs Try.prog 54 r52_0 Q s=NC Try.prog 54 r52_0 Q s:=rfl
theorem dr_52_0 {Q:DExit→St→Prop} {s:St} (h:XDraw Try.prog l52_0.toArray (befs o52_0.toList []) [] s.fr Q l52_0 0 s []):NC Try.prog 54 r52_0 Q s:=
 NC.draw (by kernel_rfl) (by kernel_rfl) (by kernel_rfl) rfl (by kernel_rfl) (by kernel_rfl) h
attribute [go_sem] xr_52_0
noncomputable def c52:Code:=
 .seq (rg [mo 2 (.assign (.const (.bool false)))])
 (.seq (.seq (rg [mo 4 (.move (T 0)),
 mo 5 (.call ⟨(.builtin .len),#[(T 4)],#[24]⟩),
 mo 6 (.move (.const (.int .i64 0)))])
 (.block 0 (.loop (.seq (rg [mo 7 (.binOp .lss 3 (T 6) (T 5) 3)])
 (.seq (.cond (T 7) (.skip)
 (.exit 0))
 (.seq (.block 1 (.seq (rg [mo 8 (.move (T 6)),
 mo 3 (.assign (T 8))])
 (.seq (r52_0)
 (.cond (T 52) (.seq (rg [mo 2 (.assign (.const (.bool false)))])
 (.ret))
 (.skip)))))
 (rg [mo 53 (.binOp .add 3 (T 6) (.const (.int .i64 1)) 3),
 mo 6 (.move (T 53))])))))))
 (.seq (rg [mo 2 (.assign (.const (.bool true)))])
 (.ret)))
theorem body_52:Try.f52.body.map strip=some c52:=by kernel_rfl
theorem go_52:GoC Try.prog 52 54 c52 [(.tmp 2)]:=
 GoC.of (fn:=Try.f52) (by kernel_rfl) body_52 (by kernel_rfl) (by kernel_rfl) (by kernel_rfl)
def c53:Code:=
 .seq (rg [mo 2 (.assign (.const (.slice none 0 0)))])
 (.seq (rg [mo 4 (.move (T 0)),
 mo 5 (.call ⟨(.value (.func 77)),#[(T 4)],#[24]⟩),
 mo 3 (.assign (T 5))])
 (.seq (rg [mo 6 (.move (T 3)),
 mo 7 (.call ⟨(.value (.func 78)),#[(T 6),(.func 76)],#[24,121]⟩)])
 (.seq (rg [mo 8 (.move (T 3)),
 mo 9 (.call ⟨(.value (.func 79)),#[(T 8)],#[24]⟩),
 mo 2 (.assign (T 9))])
 (.ret))))
theorem body_53:Try.f53.body.map strip=some c53:=by kernel_rfl
theorem go_53:GoC Try.prog 53 10 c53 [(.tmp 2)]:=
 GoC.of (fn:=Try.f53) (by kernel_rfl) body_53 (by kernel_rfl) (by kernel_rfl) (by kernel_rfl)
noncomputable def o55_0:Array Oper:=drawn Try.f55 0
def g55_0:List (Nat × Tmp × TypeId):=[]
def q55_0:List YO:=[.s 0 (mo 13 (.move (T 5))),
 .s 1 (mo 14 (.move (T 3))),
 .b 2 (mo 15 (.call ⟨(.builtin .len),#[(T 14)],#[27]⟩)) [],
 .s 3 (mo 16 (.binOp .lss 3 (T 13) (T 15) 3)),
 .s 4 (mo 17 (.move (T 16))),
 .s 5 (mg 18 4 true (.move (T 3))),
 .s 6 (mg 19 4 true (.move (T 5))),
 .s 7 (mg 20 4 true (.indexAddr 27 (T 18) (T 19))),
 .s 8 (mg 21 4 true (.fieldAddr 46 (T 20) 0)),
 .s 9 (mg 22 4 true (.load 44 (T 21))),
 .s 10 (mg 23 4 true (.move (T 0))),
 .s 11 (mg 24 4 true (.move (T 4))),
 .s 12 (mg 25 4 true (.indexAddr 27 (T 23) (T 24))),
 .s 13 (mg 26 4 true (.fieldAddr 46 (T 25) 0)),
 .s 14 (mg 27 4 true (.load 44 (T 26))),
 .b 15 (mg 28 4 true (.call ⟨(.value (.func 80)),#[(T 22),(T 27)],#[44,44]⟩)) [],
 .s 16 (mg 29 4 true (.binOp .lss 3 (T 28) (.const (.int .i64 0)) 3)),
 .s 17 (mo 30 (.pick (T 17) (T 29) (.const (.bool false))))]
def l55_0:List Oper:=[mo 13 (.move (T 5)),
 mo 14 (.move (T 3)),
 mo 15 (.call ⟨(.builtin .len),#[(T 14)],#[27]⟩),
 mo 16 (.binOp .lss 3 (T 13) (T 15) 3),
 mo 17 (.move (T 16)),
 mg 18 4 true (.move (T 3)),
 mg 19 4 true (.move (T 5)),
 mg 20 4 true (.indexAddr 27 (T 18) (T 19)),
 mg 21 4 true (.fieldAddr 46 (T 20) 0),
 mg 22 4 true (.load 44 (T 21)),
 mg 23 4 true (.move (T 0)),
 mg 24 4 true (.move (T 4)),
 mg 25 4 true (.indexAddr 27 (T 23) (T 24)),
 mg 26 4 true (.fieldAddr 46 (T 25) 0),
 mg 27 4 true (.load 44 (T 26)),
 mg 28 4 true (.call ⟨(.value (.func 80)),#[(T 22),(T 27)],#[44,44]⟩),
 mg 29 4 true (.binOp .lss 3 (T 28) (.const (.int .i64 0)) 3),
 mo 30 (.pick (T 17) (T 29) (.const (.bool false)))]
noncomputable def r55_0:Code:=.region 6 o55_0 true
theorem xr_55_0 {Q:DExit→St→Prop} {s:St}:xs Try.prog 69 r55_0 Q s=NC Try.prog 69 r55_0 Q s:=rfl
theorem yr_55_0 {Q:DExit→St→Prop} {s:St} (hdf:s.df=[]) (h:YG Try.prog (YD Try.prog l55_0.toArray Q q55_0) g55_0 s []):NC Try.prog 69 r55_0 Q s:=
 NC.yd (l:=l55_0) (b:=[0,0,2,7,15,31,31,127,255,511,31,31,3103,7199,15391,32767,65535,131071]) (by kernel_rfl) (by kernel_rfl) (by kernel_rfl) (by kernel_rfl) (by kernel_rfl) (by kernel_rfl) (by kernel_rfl) (by kernel_rfl) hdf h
attribute [go_sem] xr_55_0
noncomputable def o55_1:Array Oper:=drawn Try.f55 1
def l55_1:List Oper:=[mo 33 (.move (T 6)),
 mo 34 (.move (T 3)),
 mo 35 (.move (T 5)),
 mo 36 (.slice 27 (T 34) none (some (T 35)) none),
 mo 37 (.call ⟨(.builtin .append),#[(T 33),(T 36)],#[27,27]⟩),
 mo 38 (.move (T 0)),
 mo 39 (.move (T 4)),
 mo 40 (.indexAddr 27 (T 38) (T 39)),
 mo 41 (.load 46 (T 40)),
 mo 42 (.buildSlice 27 1 #[(0,(T 41))]),
 mo 43 (.call ⟨(.builtin .append),#[(T 37),(T 42)],#[27,27]⟩),
 mo 6 (.assign (T 43))]
noncomputable def r55_1:Code:=.region 9 o55_1 true
theorem xr_55_1 {Q:DExit→St→Prop} {s:St}:xs Try.prog 69 r55_1 Q s=NC Try.prog 69 r55_1 Q s:=rfl
attribute [go_sem] xr_55_1
noncomputable def o55_2:Array Oper:=drawn Try.f55 2
def g55_2:List (Nat × Tmp × TypeId):=[]
def q55_2:List YO:=[.s 0 (mo 44 (.move (T 5))),
 .s 1 (mo 45 (.move (T 3))),
 .b 2 (mo 46 (.call ⟨(.builtin .len),#[(T 45)],#[27]⟩)) [],
 .s 3 (mo 47 (.binOp .lss 3 (T 44) (T 46) 3)),
 .s 4 (mo 48 (.move (T 47))),
 .s 5 (mg 49 4 true (.move (T 3))),
 .s 6 (mg 50 4 true (.move (T 5))),
 .s 7 (mg 51 4 true (.indexAddr 27 (T 49) (T 50))),
 .s 8 (mg 52 4 true (.fieldAddr 46 (T 51) 0)),
 .s 9 (mg 53 4 true (.load 44 (T 52))),
 .s 10 (mg 54 4 true (.move (T 0))),
 .s 11 (mg 55 4 true (.move (T 4))),
 .s 12 (mg 56 4 true (.indexAddr 27 (T 54) (T 55))),
 .s 13 (mg 57 4 true (.fieldAddr 46 (T 56) 0)),
 .s 14 (mg 58 4 true (.load 44 (T 57))),
 .s 15 (mg 59 4 true (.binOp .eql 44 (T 53) (T 58) 44)),
 .s 16 (mo 60 (.pick (T 48) (T 59) (.const (.bool false))))]
def l55_2:List Oper:=[mo 44 (.move (T 5)),
 mo 45 (.move (T 3)),
 mo 46 (.call ⟨(.builtin .len),#[(T 45)],#[27]⟩),
 mo 47 (.binOp .lss 3 (T 44) (T 46) 3),
 mo 48 (.move (T 47)),
 mg 49 4 true (.move (T 3)),
 mg 50 4 true (.move (T 5)),
 mg 51 4 true (.indexAddr 27 (T 49) (T 50)),
 mg 52 4 true (.fieldAddr 46 (T 51) 0),
 mg 53 4 true (.load 44 (T 52)),
 mg 54 4 true (.move (T 0)),
 mg 55 4 true (.move (T 4)),
 mg 56 4 true (.indexAddr 27 (T 54) (T 55)),
 mg 57 4 true (.fieldAddr 46 (T 56) 0),
 mg 58 4 true (.load 44 (T 57)),
 mg 59 4 true (.binOp .eql 44 (T 53) (T 58) 44),
 mo 60 (.pick (T 48) (T 59) (.const (.bool false)))]
noncomputable def r55_2:Code:=.region 10 o55_2 true
theorem xr_55_2 {Q:DExit→St→Prop} {s:St}:xs Try.prog 69 r55_2 Q s=NC Try.prog 69 r55_2 Q s:=rfl
theorem yr_55_2 {Q:DExit→St→Prop} {s:St} (hdf:s.df=[]) (h:YG Try.prog (YD Try.prog l55_2.toArray Q q55_2) g55_2 s []):NC Try.prog 69 r55_2 Q s:=
 NC.yd (l:=l55_2) (b:=[0,0,2,7,15,31,31,127,255,511,31,31,3103,7199,15391,32767,65535]) (by kernel_rfl) (by kernel_rfl) (by kernel_rfl) (by kernel_rfl) (by kernel_rfl) (by kernel_rfl) (by kernel_rfl) (by kernel_rfl) hdf h
attribute [go_sem] xr_55_2
noncomputable def c55:Code:=
 .seq (rg [mo 2 (.assign (.const (.slice none 0 0)))])
 (.seq (rg [mo 3 (.assign (.const (.slice none 0 0)))])
 (.seq (.seq (rg [mo 4 (.assign (.const (.int .i64 0)))])
 (.block 0 (.loop (.seq (.seq (rg [mo 7 (.move (T 4)),
 mo 8 (.move (T 0)),
 mo 9 (.call ⟨(.builtin .len),#[(T 8)],#[27]⟩),
 mo 10 (.binOp .lss 3 (T 7) (T 9) 3)])
 (.cond (T 10) (.skip)
 (.exit 0)))
 (.seq (.block 1 (.seq (rg [mo 5 (.assign (.const (.int .i64 0)))])
 (.seq (.block 2 (.loop (.seq (.seq (r55_0)
 (.cond (T 30) (.skip)
 (.exit 2)))
 (.block 3 (rg [mo 31 (.move (T 5)),
 mo 32 (.binOp .add 3 (T 31) (.const (.int .i64 1)) 3),
 mo 5 (.assign (T 32))])))))
 (.seq (rg [mo 6 (.assign (.const (.slice none 0 0)))])
 (.seq (r55_1)
 (.seq (.seq (r55_2)
 (.cond (T 60) (rg [mo 61 (.move (T 5)),
 mo 62 (.binOp .add 3 (T 61) (.const (.int .i64 1)) 3),
 mo 5 (.assign (T 62))])
 (.skip)))
 (rg [mo 63 (.move (T 6)),
 mo 64 (.move (T 3)),
 mo 65 (.move (T 5)),
 mo 66 (.slice 27 (T 64) (some (T 65)) none none),
 mo 67 (.call ⟨(.builtin .append),#[(T 63),(T 66)],#[27,27]⟩),
 mo 3 (.assign (T 67))])))))))
 (rg [mo 11 (.move (T 4)),
 mo 12 (.binOp .add 3 (T 11) (.const (.int .i64 1)) 3),
 mo 4 (.assign (T 12))]))))))
 (.seq (rg [mo 68 (.move (T 3)),
 mo 2 (.assign (T 68))])
 (.ret))))
theorem body_55:Try.f55.body.map strip=some c55:=by kernel_rfl
theorem go_55:GoC Try.prog 55 69 c55 [(.tmp 2)]:=
 GoC.of (fn:=Try.f55) (by kernel_rfl) body_55 (by kernel_rfl) (by kernel_rfl) (by kernel_rfl)
noncomputable def o56_0:Array Oper:=drawn Try.f56 0
def g56_0:List (Nat × Tmp × TypeId):=[]
def q56_0:List YO:=[.s 0 (mo 12 (.move (T 0))),
 .s 1 (mo 13 (.move (T 5))),
 .s 2 (mo 14 (.indexAddr 24 (T 12) (T 13))),
 .s 3 (mo 15 (.load 44 (T 14))),
 .s 4 (mo 16 (.load 44 (T 3))),
 .s 5 (mo 17 (.binOp .eql 44 (T 15) (T 16) 44))]
def l56_0:List Oper:=[mo 12 (.move (T 0)),
 mo 13 (.move (T 5)),
 mo 14 (.indexAddr 24 (T 12) (T 13)),
 mo 15 (.load 44 (T 14)),
 mo 16 (.load 44 (T 3)),
 mo 17 (.binOp .eql 44 (T 15) (T 16) 44)]
noncomputable def r56_0:Code:=.region 4 o56_0 true
theorem xr_56_0 {Q:DExit→St→Prop} {s:St}:xs Try.prog 18 r56_0 Q s=NC Try.prog 18 r56_0 Q s:=rfl
theorem yr_56_0 {Q:DExit→St→Prop} {s:St} (hdf:s.df=[]) (h:YG Try.prog (YD Try.prog l56_0.toArray Q q56_0) g56_0 s []):NC Try.prog 18 r56_0 Q s:=
 NC.yd (l:=l56_0) (b:=[0,0,3,7,0,31]) (by kernel_rfl) (by kernel_rfl) (by kernel_rfl) (by kernel_rfl) (by kernel_rfl) (by kernel_rfl) (by kernel_rfl) (by kernel_rfl) hdf h
attribute [go_sem] xr_56_0
noncomputable def c56:Code:=
 .seq (rg [mo 3 (.box 44 (T 1)),
 mo 4 (.assign (.const (.bool false)))])
 (.seq (.seq (rg [mo 5 (.assign (.const (.int .i64 0)))])
 (.block 0 (.loop (.seq (.seq (rg [mo 6 (.move (T 5)),
 mo 7 (.move (T 0)),
 mo 8 (.call ⟨(.builtin .len),#[(T 7)],#[24]⟩),
 mo 9 (.binOp .lss 3 (T 6) (T 8) 3)])
 (.cond (T 9) (.skip)
 (.exit 0)))
 (.seq (.block 1 (.seq (r56_0)
 (.cond (T 17) (.seq (rg [mo 4 (.assign (.const (.bool true)))])
 (.ret))
 (.skip))))
 (rg [mo 10 (.move (T 5)),
 mo 11 (.binOp .add 3 (T 10) (.const (.int .i64 1)) 3),
 mo 5 (.assign (T 11))]))))))
 (.seq (rg [mo 4 (.assign (.const (.bool false)))])
 (.ret)))
theorem body_56:Try.f56.body.map strip=some c56:=by kernel_rfl
theorem go_56:GoC Try.prog 56 18 c56 [(.tmp 4)]:=
 GoC.of (fn:=Try.f56) (by kernel_rfl) body_56 (by kernel_rfl) (by kernel_rfl) (by kernel_rfl)
def c58:Code:=
 .seq (rg [mo 3 (.call ⟨(.builtin .recover),#[],#[]⟩),
 mo 2 (.assign (T 3))])
 (.seq (rg [mo 4 (.move (T 2)),
 mo 5 (.binOp .neq 20 (T 4) (.const .nilIface) 20)])
 (.cond (T 5) (rg [mo 6 (.move (T 2)),
 mo 7 (.call ⟨(.value (.func 59)),#[(T 6)],#[20]⟩),
 mx (.store 74 (T 0) (.const (.slice none 0 0))),
 mx (.store 53 (T 1) (T 7))])
 (.skip)))
theorem body_58:Try.f58.body.map strip=some c58:=by kernel_rfl
def c59:Code:=
 .seq (rg [mo 2 (.assign (.const (.int .i64 0)))])
 (.seq (rg [mo 6 (.move (T 0)),
 mo 7 (.typeAssert (T 6) 20 125 true),
 mo 5 (.move (T 7)),
 mo 8 (.extract (T 5) 0),
 mo 9 (.extract (T 5) 1),
 mo 3 (.alloc 125),
 mx (.store 125 (T 3) (T 8)),
 mo 4 (.assign (T 9))])
 (.seq (.seq (rg [mo 10 (.move (T 4)),
 mo 11 (.unOp .not 4 (T 10))])
 (.cond (T 11) (rg [mo 12 (.move (T 0)),
 mx (.panic (T 12))])
 (.skip)))
 (.seq (rg [mo 13 (.fieldAddr 125 (T 3) 0),
 mo 14 (.load 53 (T 13)),
 mo 2 (.assign (T 14))])
 (.ret))))
theorem body_59:Try.f59.body.map strip=some c59:=by kernel_rfl
theorem go_59:GoC Try.prog 59 15 c59 [(.tmp 2)]:=
 GoC.of (fn:=Try.f59) (by kernel_rfl) body_59 (by kernel_rfl) (by kernel_rfl) (by kernel_rfl)
def c60:Code:=
 .seq (rg [mo 2 (.assign (.const (.slice none 0 0)))])
 (.seq (rg [mo 3 (.assign (.const (.slice none 0 0)))])
 (.seq (.seq (rg [mo 4 (.assign (.const (.int .i64 0)))])
 (.block 0 (.loop (.seq (.seq (rg [mo 8 (.move (T 4)),
 mo 9 (.move (T 0)),
 mo 10 (.call ⟨(.builtin .len),#[(T 9)],#[22]⟩),
 mo 11 (.binOp .lss 3 (T 8) (T 10) 3)])
 (.cond (T 11) (.skip)
 (.exit 0)))
 (.block 1 (.seq (rg [mo 13 (.move (T 0)),
 mo 14 (.move (T 4)),
 mo 15 (.call ⟨(.value (.func 81)),#[(T 13),(T 14)],#[22,3]⟩),
 mo 12 (.move (T 15)),
 mo 16 (.extract (T 12) 0),
 mo 17 (.extract (T 12) 1),
 mo 18 (.extract (T 12) 2),
 mo 5 (.alloc 83),
 mx (.store 83 (T 5) (T 16)),
 mo 6 (.assign (T 17)),
 mo 7 (.assign (T 18))])
 (.seq (rg [mo 19 (.move (T 7)),
 mo 20 (.call ⟨(.value (.func 62)),#[(T 19)],#[53]⟩)])
 (.seq (rg [mo 21 (.move (T 3)),
 mo 22 (.load 83 (T 5)),
 mo 23 (.buildSlice 74 1 #[(0,(T 22))]),
 mo 24 (.call ⟨(.builtin .append),#[(T 21),(T 23)],#[74,74]⟩),
 mo 3 (.assign (T 24))])
 (rg [mo 25 (.move (T 6)),
 mo 4 (.assign (T 25))])))))))))
 (.seq (rg [mo 26 (.move (T 3)),
 mo 2 (.assign (T 26))])
 (.ret))))
theorem body_60:Try.f60.body.map strip=some c60:=by kernel_rfl
theorem go_60:GoC Try.prog 60 27 c60 [(.tmp 2)]:=
 GoC.of (fn:=Try.f60) (by kernel_rfl) body_60 (by kernel_rfl) (by kernel_rfl) (by kernel_rfl)
def c61:Code:=
 .seq (rg [mo 1 (.box 83 (T 0)),
 mo 2 (.assign (.const (.bool false)))])
 (.seq (rg [mo 3 (.fieldAddr 83 (T 1) 1),
 mo 4 (.load 3 (T 3)),
 mo 5 (.binOp .eql 3 (T 4) (.const (.int .i64 22)) 3),
 mo 6 (.move (T 5)),
 mg 7 3 false (.fieldAddr 83 (T 1) 1),
 mg 8 3 false (.load 3 (T 7)),
 mg 9 3 false (.binOp .eql 3 (T 8) (.const (.int .i64 23)) 3),
 mo 10 (.pick (T 6) (.const (.bool true)) (T 9)),
 mo 2 (.assign (T 10))])
 (.ret))
theorem body_61:Try.f61.body.map strip=some c61:=by kernel_rfl
theorem go_61:GoC Try.prog 61 11 c61 [(.tmp 2)]:=
 GoC.of (fn:=Try.f61) (by kernel_rfl) body_61 (by kernel_rfl) (by kernel_rfl) (by kernel_rfl)
def c62:Code:=
 .seq (rg [mo 2 (.move (T 0)),
 mo 3 (.binOp .neq 53 (T 2) (.const (.int .i64 0)) 53)])
 (.cond (T 3) (rg [mo 4 (.move (T 0)),
 mo 5 (.build 125 #[(0,(T 4))]),
 mo 6 (.makeInterface 125 (T 5)),
 mx (.panic (T 6))])
 (.skip))
theorem body_62:Try.f62.body.map strip=some c62:=by kernel_rfl
theorem go_62:GoC Try.prog 62 7 c62 []:=
 GoC.of (fn:=Try.f62) (by kernel_rfl) body_62 (by kernel_rfl) (by kernel_rfl) (by kernel_rfl)
end Go.Proofs.Ythjmkmoiopmfcaa

namespace Go.Proofs.Ythjmkmoiopmfcaa
open Go.D
set_option maxRecDepth 100000
noncomputable def o63_0:Array Oper:=drawn Try.f63 0
def g63_0:List (Nat × Tmp × TypeId):=[(9,6,51)]
def q63_0:List YO:=[.s 0 (mo 11 (.move (T 0))),
 .s 1 (mo 12 (.nilCheck (T 11))),
 .s 2 (mo 13 (.fieldAddr 81 (T 12) 3)),
 .s 3 (mo 14 (.load 63 (T 13))),
 .s 4 (mo 15 (.load 44 (T 3))),
 .b 5 (mo 16 (.lookup 63 (T 14) (T 15) true)) [0],
 .s 6 (mo 10 (.move (T 16))),
 .s 7 (mo 17 (.extract (T 10) 0)),
 .s 8 (mo 18 (.extract (T 10) 1)),
 .b 10 (mx (.store 51 (T 6) (T 17))) [],
 .s 11 (mo 7 (.assign (T 18)))]
def l63_0:List Oper:=yL g63_0 q63_0 12
noncomputable def r63_0:Code:=.region 1 o63_0 true
theorem xr_63_0 {Q:DExit→St→Prop} {s:St}:xs Try.prog 36 r63_0 Q s=NC Try.prog 36 r63_0 Q s:=rfl
theorem yr_63_0 {Q:DExit→St→Prop} {s:St} (hdf:s.df=[]) (h:YG Try.prog (YD Try.prog l63_0.toArray Q q63_0) g63_0 s []):NC Try.prog 36 r63_0 Q s:=
 NC.yd (l:=l63_0) (b:=[0,1,3,7,0,31,63,127,127,0,767,2047]) (by kernel_rfl) (by kernel_rfl) (by kernel_rfl) (by kernel_rfl) (by kernel_rfl) (by kernel_rfl) (by kernel_rfl) (by kernel_rfl) hdf h
attribute [go_sem] xr_63_0
noncomputable def o63_1:Array Oper:=drawn Try.f63 1
def g63_1:List (Nat × Tmp × TypeId):=[]
def q63_1:List YO:=[.s 0 (mo 20 (.fieldAddr 51 (T 6) 1)),
 .s 1 (mo 21 (.load 2 (T 20))),
 .s 2 (mo 22 (.fieldAddr 51 (T 6) 2)),
 .s 3 (mo 23 (.load 4 (T 22))),
 .s 4 (mo 24 (.unOp .not 4 (T 23))),
 .s 5 (mo 4 (.assign (T 21))),
 .s 6 (mo 5 (.assign (T 24)))]
def l63_1:List Oper:=[mo 20 (.fieldAddr 51 (T 6) 1),
 mo 21 (.load 2 (T 20)),
 mo 22 (.fieldAddr 51 (T 6) 2),
 mo 23 (.load 4 (T 22)),
 mo 24 (.unOp .not 4 (T 23)),
 mo 4 (.assign (T 21)),
 mo 5 (.assign (T 24))]
noncomputable def r63_1:Code:=.region 3 o63_1 true
theorem xr_63_1 {Q:DExit→St→Prop} {s:St}:xs Try.prog 36 r63_1 Q s=NC Try.prog 36 r63_1 Q s:=rfl
theorem yr_63_1 {Q:DExit→St→Prop} {s:St} (hdf:s.df=[]) (h:YG Try.prog (YD Try.prog l63_1.toArray Q q63_1) g63_1 s []):NC Try.prog 36 r63_1 Q s:=
 NC.yd (l:=l63_1) (b:=[0,1,0,4,12,3,63]) (by kernel_rfl) (by kernel_rfl) (by kernel_rfl) (by kernel_rfl) (by kernel_rfl) (by kernel_rfl) (by kernel_rfl) (by kernel_rfl) hdf h
attribute [go_sem] xr_63_1
noncomputable def o63_2:Array Oper:=drawn Try.f63 2
def g63_2:List (Nat × Tmp × TypeId):=[]
def q63_2:List YO:=[.s 0 (mo 26 (.move (T 0))),
 .s 1 (mo 27 (.nilCheck (T 26))),
 .s 2 (mo 28 (.fieldAddr 81 (T 27) 2)),
 .s 3 (mo 29 (.load 64 (T 28))),
 .s 4 (mo 30 (.load 44 (T 3))),
 .b 5 (mo 31 (.lookup 64 (T 29) (T 30) true)) [],
 .s 6 (mo 25 (.move (T 31))),
 .s 7 (mo 32 (.extract (T 25) 0)),
 .s 8 (mo 33 (.extract (T 25) 1)),
 .s 9 (mo 8 (.assign (T 32))),
 .s 10 (mo 9 (.assign (T 33)))]
def l63_2:List Oper:=[mo 26 (.move (T 0)),
 mo 27 (.nilCheck (T 26)),
 mo 28 (.fieldAddr 81 (T 27) 2),
 mo 29 (.load 64 (T 28)),
 mo 30 (.load 44 (T 3)),
 mo 31 (.lookup 64 (T 29) (T 30) true),
 mo 25 (.move (T 31)),
 mo 32 (.extract (T 25) 0),
 mo 33 (.extract (T 25) 1),
 mo 8 (.assign (T 32)),
 mo 9 (.assign (T 33))]
noncomputable def r63_2:Code:=.region 4 o63_2 true
theorem xr_63_2 {Q:DExit→St→Prop} {s:St}:xs Try.prog 36 r63_2 Q s=NC Try.prog 36 r63_2 Q s:=rfl
theorem yr_63_2 {Q:DExit→St→Prop} {s:St} (hdf:s.df=[]) (h:YG Try.prog (YD Try.prog l63_2.toArray Q q63_2) g63_2 s []):NC Try.prog 36 r63_2 Q s:=
 NC.yd (l:=l63_2) (b:=[0,1,3,7,0,31,63,127,127,255,1023]) (by kernel_rfl) (by kernel_rfl) (by kernel_rfl) (by kernel_rfl) (by kernel_rfl) (by kernel_rfl) (by kernel_rfl) (by kernel_rfl) hdf h
attribute [go_sem] xr_63_2
noncomputable def c63:Code:=
 .seq (rg [mo 3 (.box 44 (T 1)),
 mo 4 (.assign (.const (.int .i64 0))),
 mo 5 (.assign (.const (.bool false)))])
 (.seq (.seq (r63_0)
 (.seq (rg [mo 19 (.move (T 7))])
 (.cond (T 19) (.seq (r63_1)
 (.ret))
 (.skip))))
 (.seq (r63_2)
 (.seq (rg [mo 34 (.move (T 8)),
 mo 35 (.move (T 9)),
 mo 4 (.assign (T 34)),
 mo 5 (.assign (T 35))])
 (.ret))))
theorem body_63:Try.f63.body.map strip=some c63:=by kernel_rfl
theorem go_63:GoC Try.prog 63 36 c63 [(.tmp 4),(.tmp 5)]:=
 GoC.of (fn:=Try.f63) (by kernel_rfl) body_63 (by kernel_rfl) (by kernel_rfl) (by kernel_rfl)
def c64:Code:=
 rg [mo 4 (.move (T 0)),
 mo 5 (.move (T 0)),
 mo 6 (.nilCheck (T 5)),
 mo 7 (.fieldAddr 81 (T 6) 6),
 mo 8 (.load 78 (T 7)),
 mo 9 (.move (T 1)),
 mo 10 (.lookup 78 (T 8) (T 9) false),
 mo 11 (.nilCheck (T 4)),
 mo 12 (.fieldAddr 81 (T 11) 5),
 mx (.store 3 (T 12) (T 10))]
theorem body_64:Try.f64.body.map strip=some c64:=by kernel_rfl
theorem go_64:GoC Try.prog 64 13 c64 []:=
 GoC.of (fn:=Try.f64) (by kernel_rfl) body_64 (by kernel_rfl) (by kernel_rfl) (by kernel_rfl)
noncomputable def o65_0:Array Oper:=drawn Try.f65 0
def l65_0:List Oper:=[mo 10 (.move (T 0)),
 mo 11 (.move (T 3)),
 mo 12 (.binOp .sub 3 (T 11) (.const (.int .i64 1)) 3),
 mo 13 (.indexAddr 24 (T 10) (T 12)),
 mo 14 (.load 44 (T 13)),
 mo 15 (.move (T 0)),
 mo 16 (.move (T 3)),
 mo 17 (.indexAddr 24 (T 15) (T 16)),
 mo 18 (.load 44 (T 17)),
 mo 19 (.call ⟨(.value (.func 80)),#[(T 14),(T 18)],#[44,44]⟩),
 mo 20 (.binOp .geq 3 (T 19) (.const (.int .i64 0)) 3)]
noncomputable def r65_0:Code:=.region 4 o65_0 true
theorem xr_65_0 {Q:DExit→St→Prop} {s:St}:xs Try.prog 21 r65_0 Q s=NC Try.prog 21 r65_0 Q s:=rfl
theorem dr_65_0 {Q:DExit→St→Prop} {s:St} (h:XDraw Try.prog l65_0.toArray (befs o65_0.toList []) [] s.fr Q l65_0 0 s []):NC Try.prog 21 r65_0 Q s:=
 NC.draw (by kernel_rfl) (by kernel_rfl) (by kernel_rfl) rfl (by kernel_rfl) (by kernel_rfl) h
attribute [go_sem] xr_65_0
noncomputable def c65:Code:=
 .seq (rg [mo 2 (.assign (.const (.bool false)))])
 (.seq (.seq (rg [mo 3 (.assign (.const (.int .i64 1)))])
 (.block 0 (.loop (.seq (.seq (rg [mo 4 (.move (T 3)),
 mo 5 (.move (T 0)),
 mo 6 (.call ⟨(.builtin .len),#[(T 5)],#[24]⟩),
 mo 7 (.binOp .lss 3 (T 4) (T 6) 3)])
 (.cond (T 7) (.skip)
 (.exit 0)))
 (.seq (.block 1 (.seq (r65_0)
 (.cond (T 20) (.seq (rg [mo 2 (.assign (.const (.bool false)))])
 (.ret))
 (.skip))))
 (rg [mo 8 (.move (T 3)),
 mo 9 (.binOp .add 3 (T 8) (.const (.int .i64 1)) 3),
 mo 3 (.assign (T 9))]))))))
 (.seq (rg [mo 2 (.assign (.const (.bool true)))])
 (.ret)))
theorem body_65:Try.f65.body.map strip=some c65:=by kernel_rfl
theorem go_65:GoC Try.prog 65 21 c65 [(.tmp 2)]:=
 GoC.of (fn:=Try.f65) (by kernel_rfl) body_65 (by kernel_rfl) (by kernel_rfl) (by kernel_rfl)
def c66:Code:=
 .seq (rg [mo 2 (.assign (.const (.slice none 0 0))),
 mo 3 (.assign (.const (.int .i64 0)))])
 (.seq (.seq (rg [mo 7 (.move (T 0)),
 mo 8 (.call ⟨(.builtin .len),#[(T 7)],#[22]⟩),
 mo 9 (.binOp .gtr 3 (T 8) (.const (.int .i64 512)) 3)])
 (.cond (T 9) (.seq (rg [mo 2 (.assign (.const (.slice none 0 0))),
 mo 3 (.assign (.const (.int .i64 3)))])
 (.ret))
 (.skip)))
 (.seq (rg [mo 11 (.move (T 0)),
 mo 12 (.call ⟨(.value (.func 82)),#[(T 11)],#[22]⟩),
 mo 10 (.move (T 12)),
 mo 13 (.extract (T 10) 0),
 mo 14 (.extract (T 10) 1),
 mo 4 (.assign (T 13)),
 mo 5 (.assign (T 14))])
 (.seq (.seq (rg [mo 15 (.move (T 5)),
 mo 16 (.binOp .neq 53 (T 15) (.const (.int .i64 0)) 53)])
 (.cond (T 16) (.seq (rg [mo 17 (.move (T 5)),
 mo 2 (.assign (.const (.slice none 0 0))),
 mo 3 (.assign (T 17))])
 (.ret))
 (.skip)))
 (.seq (.seq (rg [mo 6 (.assign (.const (.int .i64 0)))])
 (.block 0 (.loop (.seq (.seq (rg [mo 18 (.move (T 6)),
 mo 19 (.move (T 4)),
 mo 20 (.call ⟨(.builtin .len),#[(T 19)],#[74]⟩),
 mo 21 (.binOp .lss 3 (T 18) (T 20) 3)])
 (.cond (T 21) (.skip)
 (.exit 0)))
 (.seq (.block 1 (.seq (rg [mo 24 (.move (T 4)),
 mo 25 (.move (T 6)),
 mo 26 (.indexAddr 74 (T 24) (T 25)),
 mo 27 (.fieldAddr 83 (T 26) 1),
 mo 28 (.load 3 (T 27)),
 mo 29 (.call ⟨(.value (.func 83)),#[(T 28)],#[3]⟩),
 mo 30 (.move (T 29)),
 mg 31 6 true (.move (T 4)),
 mg 32 6 true (.move (T 4)),
 mg 33 6 true (.move (T 6)),
 mg 34 6 true (.indexAddr 74 (T 32) (T 33)),
 mg 35 6 true (.fieldAddr 83 (T 34) 4),
 mg 36 6 true (.load 2 (T 35)),
 mg 37 6 true (.call ⟨(.value (.func 84)),#[(T 31),(T 36)],#[74,2]⟩),
 mg 38 6 true (.unOp .not 4 (T 37)),
 mo 39 (.pick (T 30) (T 38) (.const (.bool false)))])
 (.cond (T 39) (.seq (rg [mo 2 (.assign (.const (.slice none 0 0))),
 mo 3 (.assign (.const (.int .i64 131)))])
 (.ret))
 (.skip))))
 (rg [mo 22 (.move (T 6)),
 mo 23 (.binOp .add 3 (T 22) (.const (.int .i64 1)) 3),
 mo 6 (.assign (T 23))]))))))
 (.seq (rg [mo 40 (.move (T 4)),
 mo 2 (.assign (T 40)),
 mo 3 (.assign (.const (.int .i64 0)))])
 (.ret))))))
theorem body_66:Try.f66.body.map strip=some c66:=by kernel_rfl
theorem go_66:GoC Try.prog 66 41 c66 [(.tmp 2),(.tmp 3)]:=
 GoC.of (fn:=Try.f66) (by kernel_rfl) body_66 (by kernel_rfl) (by kernel_rfl) (by kernel_rfl)
def c67:Code:=
 .seq (rg [mo 2 (.assign (.const (.int .i64 0)))])
 (.seq (.seq (rg [mo 3 (.move (T 0))])
 (.block 0 (.seq (rg [mo 5 (.binOp .eql 3 (T 3) (.const (.int .i64 0)) 3),
 mo 4 (.assign (T 5))])
 (.cond (T 4) (.seq (rg [mo 2 (.assign (.const (.int .i64 1)))])
 (.ret))
 (.seq (.seq (rg [mo 7 (.binOp .eql 3 (T 3) (.const (.int .i64 6)) 3),
 mo 6 (.assign (T 7))])
 (.cond (T 6) (.skip)
 (.seq (rg [mo 8 (.binOp .eql 3 (T 3) (.const (.int .i64 24)) 3),
 mo 6 (.assign (T 8))])
 (.cond (T 6) (.skip)
 (rg [mo 9 (.binOp .eql 3 (T 3) (.const (.int .i64 25)) 3),
 mo 6 (.assign (T 9))])))))
 (.cond (T 6) (.seq (rg [mo 2 (.assign (.const (.int .i64 2)))])
 (.ret))
 (.seq (.seq (rg [mo 11 (.binOp .eql 3 (T 3) (.const (.int .i64 2)) 3),
 mo 10 (.assign (T 11))])
 (.cond (T 10) (.skip)
 (.seq (rg [mo 12 (.binOp .eql 3 (T 3) (.const (.int .i64 3)) 3),
 mo 10 (.assign (T 12))])
 (.cond (T 10) (.skip)
 (.seq (rg [mo 13 (.binOp .eql 3 (T 3) (.const (.int .i64 4)) 3),
 mo 10 (.assign (T 13))])
 (.cond (T 10) (.skip)
 (.seq (rg [mo 14 (.binOp .eql 3 (T 3) (.const (.int .i64 5)) 3),
 mo 10 (.assign (T 14))])
 (.cond (T 10) (.skip)
 (.seq (rg [mo 15 (.binOp .eql 3 (T 3) (.const (.int .i64 19)) 3),
 mo 10 (.assign (T 15))])
 (.cond (T 10) (.skip)
 (rg [mo 16 (.binOp .eql 3 (T 3) (.const (.int .i64 22)) 3),
 mo 10 (.assign (T 16))])))))))))))
 (.cond (T 10) (.seq (rg [mo 2 (.assign (.const (.int .i64 3)))])
 (.ret))
 (.seq (.seq (rg [mo 18 (.binOp .eql 3 (T 3) (.const (.int .i64 1)) 3),
 mo 17 (.assign (T 18))])
 (.cond (T 17) (.skip)
 (.seq (rg [mo 19 (.binOp .eql 3 (T 3) (.const (.int .i64 23)) 3),
 mo 17 (.assign (T 19))])
 (.cond (T 17) (.skip)
 (.seq (rg [mo 20 (.binOp .eql 3 (T 3) (.const (.int .i64 26)) 3),
 mo 17 (.assign (T 20))])
 (.cond (T 17) (.skip)
 (rg [mo 21 (.binOp .eql 3 (T 3) (.const (.int .i64 27)) 3),
 mo 17 (.assign (T 21))])))))))
 (.cond (T 17) (.seq (rg [mo 2 (.assign (.const (.int .i64 4)))])
 (.ret))
 (.skip)))))))))))
 (.seq (.seq (rg [mo 22 (.move (T 0)),
 mo 23 (.binOp .geq 3 (T 22) (.const (.int .i64 7)) 3),
 mo 24 (.move (T 23)),
 mg 25 2 true (.move (T 0)),
 mg 26 2 true (.binOp .leq 3 (T 25) (.const (.int .i64 21)) 3),
 mo 27 (.pick (T 24) (T 26) (.const (.bool false)))])
 (.cond (T 27) (.seq (rg [mo 2 (.assign (.const (.int .i64 3)))])
 (.ret))
 (.skip)))
 (.seq (rg [mo 2 (.assign (.const (.int .i64 0)))])
 (.ret))))
theorem body_67:Try.f67.body.map strip=some c67:=by kernel_rfl
theorem go_67:GoC Try.prog 67 28 c67 [(.tmp 2)]:=
 GoC.of (fn:=Try.f67) (by kernel_rfl) body_67 (by kernel_rfl) (by kernel_rfl) (by kernel_rfl)
def c68:Code:=
 .seq (rg [mo 2 (.assign (.const (.bool false)))])
 (.seq (rg [mo 3 (.move (T 0)),
 mo 4 (.binOp .neq 3 (T 3) (.const (.int .i64 0)) 3),
 mo 5 (.move (T 4)),
 mg 6 2 true (.move (T 0)),
 mg 7 2 true (.binOp .neq 3 (T 6) (.const (.int .i64 6)) 3),
 mo 8 (.pick (T 5) (T 7) (.const (.bool false))),
 mo 9 (.move (T 8)),
 mg 10 6 true (.move (T 0)),
 mg 11 6 true (.binOp .neq 3 (T 10) (.const (.int .i64 22)) 3),
 mo 12 (.pick (T 9) (T 11) (.const (.bool false))),
 mo 13 (.move (T 12)),
 mg 14 10 true (.move (T 0)),
 mg 15 10 true (.binOp .neq 3 (T 14) (.const (.int .i64 25)) 3),
 mo 16 (.pick (T 13) (T 15) (.const (.bool false))),
 mo 2 (.assign (T 16))])
 (.ret))
theorem body_68:Try.f68.body.map strip=some c68:=by kernel_rfl
theorem go_68:GoC Try.prog 68 17 c68 [(.tmp 2)]:=
 GoC.of (fn:=Try.f68) (by kernel_rfl) body_68 (by kernel_rfl) (by kernel_rfl) (by kernel_rfl)
def c69:Code:=
 .seq (rg [mo 2 (.assign (.const (.bool false)))])
 (.seq (rg [mo 3 (.move (T 0)),
 mo 4 (.binOp .geq 3 (T 3) (.const (.int .i64 7)) 3),
 mo 5 (.move (T 4)),
 mg 6 2 true (.move (T 0)),
 mg 7 2 true (.binOp .leq 3 (T 6) (.const (.int .i64 18)) 3),
 mo 8 (.pick (T 5) (T 7) (.const (.bool false))),
 mo 9 (.move (T 8)),
 mg 10 6 false (.move (T 0)),
 mg 11 6 false (.binOp .eql 3 (T 10) (.const (.int .i64 20)) 3),
 mo 12 (.pick (T 9) (.const (.bool true)) (T 11)),
 mo 13 (.move (T 12)),
 mg 14 10 false (.move (T 0)),
 mg 15 10 false (.binOp .eql 3 (T 14) (.const (.int .i64 21)) 3),
 mo 16 (.pick (T 13) (.const (.bool true)) (T 15)),
 mo 17 (.move (T 16)),
 mg 18 14 false (.move (T 0)),
 mg 19 14 false (.binOp .eql 3 (T 18) (.const (.int .i64 26)) 3),
 mo 20 (.pick (T 17) (.const (.bool true)) (T 19)),
 mo 21 (.move (T 20)),
 mg 22 18 false (.move (T 0)),
 mg 23 18 false (.binOp .eql 3 (T 22) (.const (.int .i64 27)) 3),
 mo 24 (.pick (T 21) (.const (.bool true)) (T 23)),
 mo 2 (.assign (T 24))])
 (.ret))
theorem body_69:Try.f69.body.map strip=some c69:=by kernel_rfl
theorem go_69:GoC Try.prog 69 25 c69 [(.tmp 2)]:=
 GoC.of (fn:=Try.f69) (by kernel_rfl) body_69 (by kernel_rfl) (by kernel_rfl) (by kernel_rfl)
def c70:Code:=
 .seq (rg [mo 2 (.assign (.const (.int .i64 0)))])
 (.seq (rg [mo 4 (.move (T 0)),
 mo 5 (.call ⟨(.value (.func 67)),#[(T 4)],#[3]⟩),
 mo 6 (.binOp .sub 3 (T 5) (.const (.int .i64 1)) 3),
 mo 3 (.assign (T 6))])
 (.seq (.seq (rg [mo 7 (.move (T 0)),
 mo 8 (.call ⟨(.value (.func 68)),#[(T 7)],#[3]⟩)])
 (.cond (T 8) (rg [mo 9 (.move (T 3)),
 mo 10 (.binOp .sub 3 (T 9) (.const (.int .i64 1)) 3),
 mo 3 (.assign (T 10))])
 (.skip)))
 (.seq (.seq (rg [mo 11 (.move (T 0)),
 mo 12 (.call ⟨(.value (.func 69)),#[(T 11)],#[3]⟩)])
 (.cond (T 12) (rg [mo 13 (.move (T 3)),
 mo 14 (.binOp .sub 3 (T 13) (.const (.int .i64 1)) 3),
 mo 3 (.assign (T 14))])
 (.skip)))
 (.seq (rg [mo 15 (.move (T 3)),
 mo 2 (.assign (T 15))])
 (.ret)))))
theorem body_70:Try.f70.body.map strip=some c70:=by kernel_rfl
theorem go_70:GoC Try.prog 70 16 c70 [(.tmp 2)]:=
 GoC.of (fn:=Try.f70) (by kernel_rfl) body_70 (by kernel_rfl) (by kernel_rfl) (by kernel_rfl)
def c71:Code:=
 .seq (rg [mo 1 (.box 83 (T 0)),
 mo 2 (.assign (.const (.int .i64 0)))])
 (.seq (.seq (rg [mo 3 (.fieldAddr 83 (T 1) 1),
 mo 4 (.load 3 (T 3)),
 mo 5 (.call ⟨(.value (.func 68)),#[(T 4)],#[3]⟩),
 mo 6 (.move (T 5)),
 mg 7 3 true (.fieldAddr 83 (T 1) 2),
 mg 8 3 true (.load 3 (T 7)),
 mg 9 3 true (.binOp .lss 3 (T 8) (.const (.int .i64 0)) 3),
 mg 10 3 true (.move (T 9)),
 mg 11 7 false (.fieldAddr 83 (T 1) 2),
 mg 12 7 false (.load 3 (T 11)),
 mg 13 7 false (.binOp .geq 3 (T 12) (.const (.int .i64 8)) 3),
 mg 14 3 true (.pick (T 10) (.const (.bool true)) (T 13)),
 mo 15 (.pick (T 6) (T 14) (.const (.bool false))),
 mo 16 (.move (T 15)),
 mg 17 13 false (.fieldAddr 83 (T 1) 1),
 mg 18 13 false (.load 3 (T 17)),
 mg 19 13 false (.call ⟨(.value (.func 69)),#[(T 18)],#[3]⟩),
 mg 20 13 false (.move (T 19)),
 mg 21 17 true (.fieldAddr 83 (T 1) 3),
 mg 22 17 true (.load 3 (T 21)),
 mg 23 17 true (.binOp .lss 3 (T 22) (.const (.int .i64 0)) 3),
 mg 24 17 true (.move (T 23)),
 mg 25 21 false (.fieldAddr 83 (T 1) 3),
 mg 26 21 false (.load 3 (T 25)),
 mg 27 21 false (.binOp .geq 3 (T 26) (.const (.int .i64 8)) 3),
 mg 28 17 true (.pick (T 24) (.const (.bool true)) (T 27)),
 mg 29 13 false (.pick (T 20) (T 28) (.const (.bool false))),
 mo 30 (.pick (T 16) (.const (.bool true)) (T 29))])
 (.cond (T 30) (.seq (rg [mo 2 (.assign (.const (.int .i64 132)))])
 (.ret))
 (.skip)))
 (.seq (.seq (rg [mo 31 (.fieldAddr 83 (T 1) 1),
 mo 32 (.load 3 (T 31)),
 mo 33 (.binOp .eql 3 (T 32) (.const (.int .i64 19)) 3),
 mo 34 (.move (T 33)),
 mg 35 3 true (.fieldAddr 83 (T 1) 4),
 mg 36 3 true (.load 2 (T 35)),
 mg 37 3 true (.binOp .neq 2 (T 36) (.const (.int .i64 8)) 2),
 mo 38 (.pick (T 34) (T 37) (.const (.bool false))),
 mo 39 (.move (T 38)),
 mg 40 8 true (.fieldAddr 83 (T 1) 4),
 mg 41 8 true (.load 2 (T 40)),
 mg 42 8 true (.binOp .neq 2 (T 41) (.const (.int .i64 16)) 2),
 mo 43 (.pick (T 39) (T 42) (.const (.bool false))),
 mo 44 (.move (T 43)),
 mg 45 13 true (.fieldAddr 83 (T 1) 4),
 mg 46 13 true (.load 2 (T 45)),
 mg 47 13 true (.binOp .neq 2 (T 46) (.const (.int .i64 32)) 2),
 mo 48 (.pick (T 44) (T 47) (.const (.bool false)))])
 (.cond (T 48) (.seq (rg [mo 2 (.assign (.const (.int .i64 132)))])
 (.ret))
 (.skip)))
 (.seq (rg [mo 2 (.assign (.const (.int .i64 0)))])
 (.ret))))
theorem body_71:Try.f71.body.map strip=some c71:=by kernel_rfl
theorem go_71:GoC Try.prog 71 49 c71 [(.tmp 2)]:=
 GoC.of (fn:=Try.f71) (by kernel_rfl) body_71 (by kernel_rfl) (by kernel_rfl) (by kernel_rfl)
noncomputable def o72_0:Array Oper:=drawn Try.f72 0
def g72_0:List (Nat × Tmp × TypeId):=[(11,5,44)]
def q72_0:List YO:=[.s 0 (mo 8 (.fieldAddr 83 (T 3) 4)),
 .s 1 (mo 9 (.load 2 (T 8))),
 .s 2 (mo 10 (.convert 2 21 (T 9))),
 .s 3 (mo 11 (.move (T 0))),
 .s 4 (mo 12 (.fieldAddr 83 (T 3) 3)),
 .s 5 (mo 13 (.load 3 (T 12))),
 .s 6 (mo 14 (.nilCheck (T 11))),
 .s 7 (mo 15 (.fieldAddr 87 (T 14) 2)),
 .s 8 (mo 16 (.indexAddr 79 (T 15) (T 13))),
 .s 9 (mo 17 (.load 2 (T 16))),
 .s 10 (mo 18 (.build 44 #[(0,(T 10)),(1,(T 17))])),
 .b 12 (mx (.store 44 (T 5) (T 18))) []]
def l72_0:List Oper:=[mo 8 (.fieldAddr 83 (T 3) 4),
 mo 9 (.load 2 (T 8)),
 mo 10 (.convert 2 21 (T 9)),
 mo 11 (.move (T 0)),
 mo 12 (.fieldAddr 83 (T 3) 3),
 mo 13 (.load 3 (T 12)),
 mo 14 (.nilCheck (T 11)),
 mo 15 (.fieldAddr 87 (T 14) 2),
 mo 16 (.indexAddr 79 (T 15) (T 13)),
 mo 17 (.load 2 (T 16)),
 mo 18 (.build 44 #[(0,(T 10)),(1,(T 17))]),
 mo 5 (.alloc 44),
 mx (.store 44 (T 5) (T 18))]
noncomputable def r72_0:Code:=.region 1 o72_0 true
theorem xr_72_0 {Q:DExit→St→Prop} {s:St}:xs Try.prog 166 r72_0 Q s=NC Try.prog 166 r72_0 Q s:=rfl
theorem yr_72_0 {Q:DExit→St→Prop} {s:St} (hdf:s.df=[]) (h:YG Try.prog (YD Try.prog l72_0.toArray Q q72_0) g72_0 s []):NC Try.prog 166 r72_0 Q s:=
 NC.yd (l:=l72_0) (b:=[0,1,3,0,0,16,8,72,248,504,1023,0,4095]) (by kernel_rfl) (by kernel_rfl) (by kernel_rfl) (by kernel_rfl) (by kernel_rfl) (by kernel_rfl) (by kernel_rfl) (by kernel_rfl) hdf h
attribute [go_sem] xr_72_0
noncomputable def o72_1:Array Oper:=drawn Try.f72 1
def g72_1:List (Nat × Tmp × TypeId):=[]
def q72_1:List YO:=[.s 0 (mo 24 (.move (T 0))),
 .s 1 (mo 25 (.fieldAddr 83 (T 3) 2)),
 .l 2 (mo 26 (.load 3 (T 25))),
 .s 3 (mo 27 (.move (T 0))),
 .s 4 (mo 28 (.move (T 0))),
 .s 5 (mo 29 (.nilCheck (T 28))),
 .s 6 (mo 30 (.fieldAddr 87 (T 29) 0)),
 .s 7 (mo 31 (.fieldAddr 26 (T 30) 4)),
 .s 8 (mo 32 (.load 24 (T 31))),
 .s 9 (mo 33 (.fieldAddr 83 (T 3) 4)),
 .s 10 (mo 34 (.load 2 (T 33))),
 .s 11 (mo 35 (.indexAddr 24 (T 32) (T 34))),
 .s 12 (mo 36 (.load 44 (T 35))),
 .s 17 (mo 40 (.nilCheck (T 24))),
 .s 18 (mo 41 (.fieldAddr 87 (T 40) 2)),
 .b 13 (mo 37 (.call ⟨(.value (.func 85)),#[(T 27),(T 36)],#[85,44]⟩)) [0],
 .s 14 (mo 23 (.move (T 37))),
 .s 15 (mo 38 (.extract (T 23) 0)),
 .s 16 (mo 39 (.extract (T 23) 1)),
 .s 19 (mo 42 (.indexAddr 79 (T 41) (T 26))),
 .b 20 (mx (.store 2 (T 42) (T 38))) []]
def l72_1:List Oper:=[mo 24 (.move (T 0)),
 mo 25 (.fieldAddr 83 (T 3) 2),
 mo 26 (.load 3 (T 25)),
 mo 27 (.move (T 0)),
 mo 28 (.move (T 0)),
 mo 29 (.nilCheck (T 28)),
 mo 30 (.fieldAddr 87 (T 29) 0),
 mo 31 (.fieldAddr 26 (T 30) 4),
 mo 32 (.load 24 (T 31)),
 mo 33 (.fieldAddr 83 (T 3) 4),
 mo 34 (.load 2 (T 33)),
 mo 35 (.indexAddr 24 (T 32) (T 34)),
 mo 36 (.load 44 (T 35)),
 mo 37 (.call ⟨(.value (.func 85)),#[(T 27),(T 36)],#[85,44]⟩),
 mo 23 (.move (T 37)),
 mo 38 (.extract (T 23) 0),
 mo 39 (.extract (T 23) 1),
 mo 40 (.nilCheck (T 24)),
 mo 41 (.fieldAddr 87 (T 40) 2),
 mo 42 (.indexAddr 79 (T 41) (T 26)),
 mx (.store 2 (T 42) (T 38))]
noncomputable def r72_1:Code:=.region 4 o72_1 true
theorem xr_72_1 {Q:DExit→St→Prop} {s:St}:xs Try.prog 166 r72_1 Q s=NC Try.prog 166 r72_1 Q s:=rfl
theorem yr_72_1 {Q:DExit→St→Prop} {s:St} (hdf:s.df=[]) (h:YG Try.prog (YD Try.prog l72_1.toArray Q q72_1) g72_1 s []):NC Try.prog 166 r72_1 Q s:=
 NC.yd (l:=l72_1) (b:=[0,0,2,0,0,16,48,112,240,0,512,2032,4080,8184,16376,32760,32760,1,131073,458751,983039]) (by kernel_rfl) (by kernel_rfl) (by kernel_rfl) (by kernel_rfl) (by kernel_rfl) (by kernel_rfl) (by kernel_rfl) (by kernel_rfl) hdf h
attribute [go_sem] xr_72_1
noncomputable def o72_2:Array Oper:=drawn Try.f72 2
def g72_2:List (Nat × Tmp × TypeId):=[]
def q72_2:List YO:=[.s 0 (mo 46 (.move (T 0))),
 .s 1 (mo 47 (.move (T 0))),
 .s 2 (mo 48 (.nilCheck (T 47))),
 .s 3 (mo 49 (.fieldAddr 87 (T 48) 0)),
 .s 4 (mo 50 (.fieldAddr 26 (T 49) 4)),
 .s 5 (mo 51 (.load 24 (T 50))),
 .s 6 (mo 52 (.fieldAddr 83 (T 3) 4)),
 .s 7 (mo 53 (.load 2 (T 52))),
 .s 8 (mo 54 (.indexAddr 24 (T 51) (T 53))),
 .s 9 (mo 55 (.load 44 (T 54))),
 .b 10 (mo 56 (.call ⟨(.value (.func 85)),#[(T 46),(T 55)],#[85,44]⟩)) [],
 .s 11 (mo 45 (.move (T 56))),
 .s 12 (mo 57 (.extract (T 45) 0)),
 .s 13 (mo 58 (.extract (T 45) 1)),
 .s 14 (mo 6 (.assign (T 57))),
 .s 15 (mo 7 (.assign (T 58)))]
def l72_2:List Oper:=[mo 46 (.move (T 0)),
 mo 47 (.move (T 0)),
 mo 48 (.nilCheck (T 47)),
 mo 49 (.fieldAddr 87 (T 48) 0),
 mo 50 (.fieldAddr 26 (T 49) 4),
 mo 51 (.load 24 (T 50)),
 mo 52 (.fieldAddr 83 (T 3) 4),
 mo 53 (.load 2 (T 52)),
 mo 54 (.indexAddr 24 (T 51) (T 53)),
 mo 55 (.load 44 (T 54)),
 mo 56 (.call ⟨(.value (.func 85)),#[(T 46),(T 55)],#[85,44]⟩),
 mo 45 (.move (T 56)),
 mo 57 (.extract (T 45) 0),
 mo 58 (.extract (T 45) 1),
 mo 6 (.assign (T 57)),
 mo 7 (.assign (T 58))]
noncomputable def r72_2:Code:=.region 6 o72_2 true
theorem xr_72_2 {Q:DExit→St→Prop} {s:St}:xs Try.prog 166 r72_2 Q s=NC Try.prog 166 r72_2 Q s:=rfl
theorem yr_72_2 {Q:DExit→St→Prop} {s:St} (hdf:s.df=[]) (h:YG Try.prog (YD Try.prog l72_2.toArray Q q72_2) g72_2 s []):NC Try.prog 166 r72_2 Q s:=
 NC.yd (l:=l72_2) (b:=[0,0,2,6,14,30,0,64,254,510,1023,2047,4095,4095,8191,32767]) (by kernel_rfl) (by kernel_rfl) (by kernel_rfl) (by kernel_rfl) (by kernel_rfl) (by kernel_rfl) (by kernel_rfl) (by kernel_rfl) hdf h
attribute [go_sem] xr_72_2
noncomputable def o72_3:Array Oper:=drawn Try.f72 3
def g72_3:List (Nat × Tmp × TypeId):=[]
def q72_3:List YO:=[.s 0 (mo 59 (.move (T 0))),
 .s 1 (mo 60 (.fieldAddr 83 (T 3) 2)),
 .l 2 (mo 61 (.load 3 (T 60))),
 .s 3 (mo 62 (.move (T 7))),
 .s 5 (mo 64 (.nilCheck (T 59))),
 .s 6 (mo 65 (.fieldAddr 87 (T 64) 2)),
 .b 4 (mo 63 (.call ⟨(.value (.func 46)),#[(T 62)],#[4]⟩)) [0],
 .s 7 (mo 66 (.indexAddr 79 (T 65) (T 61))),
 .b 8 (mx (.store 2 (T 66) (T 63))) []]
def l72_3:List Oper:=[mo 59 (.move (T 0)),
 mo 60 (.fieldAddr 83 (T 3) 2),
 mo 61 (.load 3 (T 60)),
 mo 62 (.move (T 7)),
 mo 63 (.call ⟨(.value (.func 46)),#[(T 62)],#[4]⟩),
 mo 64 (.nilCheck (T 59)),
 mo 65 (.fieldAddr 87 (T 64) 2),
 mo 66 (.indexAddr 79 (T 65) (T 61)),
 mx (.store 2 (T 66) (T 63))]
noncomputable def r72_3:Code:=.region 7 o72_3 true
theorem xr_72_3 {Q:DExit→St→Prop} {s:St}:xs Try.prog 166 r72_3 Q s=NC Try.prog 166 r72_3 Q s:=rfl
theorem yr_72_3 {Q:DExit→St→Prop} {s:St} (hdf:s.df=[]) (h:YG Try.prog (YD Try.prog l72_3.toArray Q q72_3) g72_3 s []):NC Try.prog 166 r72_3 Q s:=
 NC.yd (l:=l72_3) (b:=[0,0,2,0,8,1,33,127,255]) (by kernel_rfl) (by kernel_rfl) (by kernel_rfl) (by kernel_rfl) (by kernel_rfl) (by kernel_rfl) (by kernel_rfl) (by kernel_rfl) hdf h
attribute [go_sem] xr_72_3
noncomputable def o72_4:Array Oper:=drawn Try.f72 4
def g72_4:List (Nat × Tmp × TypeId):=[]
def q72_4:List YO:=[.s 0 (mo 69 (.move (T 0))),
 .s 1 (mo 70 (.move (T 0))),
 .s 2 (mo 71 (.nilCheck (T 70))),
 .s 3 (mo 72 (.fieldAddr 87 (T 71) 3)),
 .l 4 (mo 73 (.load 30 (T 72))),
 .s 5 (mo 74 (.move (T 0))),
 .s 6 (mo 75 (.nilCheck (T 74))),
 .s 7 (mo 76 (.fieldAddr 87 (T 75) 0)),
 .s 8 (mo 77 (.fieldAddr 26 (T 76) 5)),
 .s 9 (mo 78 (.load 24 (T 77))),
 .s 10 (mo 79 (.fieldAddr 83 (T 3) 4)),
 .s 11 (mo 80 (.load 2 (T 79))),
 .s 12 (mo 81 (.indexAddr 24 (T 78) (T 80))),
 .s 13 (mo 82 (.load 44 (T 81))),
 .s 14 (mo 83 (.move (T 0))),
 .s 15 (mo 84 (.fieldAddr 83 (T 3) 2)),
 .s 16 (mo 85 (.load 3 (T 84))),
 .s 17 (mo 86 (.nilCheck (T 83))),
 .s 18 (mo 87 (.fieldAddr 87 (T 86) 2)),
 .s 19 (mo 88 (.indexAddr 79 (T 87) (T 85))),
 .s 20 (mo 89 (.load 2 (T 88))),
 .s 21 (mo 90 (.build 51 #[(0,(T 82)),(1,(T 89))])),
 .b 22 (mo 91 (.buildSlice 30 1 #[(0,(T 90))])) [0],
 .b 23 (mo 92 (.call ⟨(.builtin .append),#[(T 73),(T 91)],#[30,30]⟩)) [],
 .s 24 (mo 93 (.nilCheck (T 69))),
 .s 25 (mo 94 (.fieldAddr 87 (T 93) 3)),
 .b 26 (mx (.store 30 (T 94) (T 92))) []]
def l72_4:List Oper:=[mo 69 (.move (T 0)),
 mo 70 (.move (T 0)),
 mo 71 (.nilCheck (T 70)),
 mo 72 (.fieldAddr 87 (T 71) 3),
 mo 73 (.load 30 (T 72)),
 mo 74 (.move (T 0)),
 mo 75 (.nilCheck (T 74)),
 mo 76 (.fieldAddr 87 (T 75) 0),
 mo 77 (.fieldAddr 26 (T 76) 5),
 mo 78 (.load 24 (T 77)),
 mo 79 (.fieldAddr 83 (T 3) 4),
 mo 80 (.load 2 (T 79)),
 mo 81 (.indexAddr 24 (T 78) (T 80)),
 mo 82 (.load 44 (T 81)),
 mo 83 (.move (T 0)),
 mo 84 (.fieldAddr 83 (T 3) 2),
 mo 85 (.load 3 (T 84)),
 mo 86 (.nilCheck (T 83)),
 mo 87 (.fieldAddr 87 (T 86) 2),
 mo 88 (.indexAddr 79 (T 87) (T 85)),
 mo 89 (.load 2 (T 88)),
 mo 90 (.build 51 #[(0,(T 82)),(1,(T 89))]),
 mo 91 (.buildSlice 30 1 #[(0,(T 90))]),
 mo 92 (.call ⟨(.builtin .append),#[(T 73),(T 91)],#[30,30]⟩),
 mo 93 (.nilCheck (T 69)),
 mo 94 (.fieldAddr 87 (T 93) 3),
 mx (.store 30 (T 94) (T 92))]
noncomputable def r72_4:Code:=.region 9 o72_4 true
theorem xr_72_4 {Q:DExit→St→Prop} {s:St}:xs Try.prog 166 r72_4 Q s=NC Try.prog 166 r72_4 Q s:=rfl
theorem yr_72_4 {Q:DExit→St→Prop} {s:St} (hdf:s.df=[]) (h:YG Try.prog (YD Try.prog l72_4.toArray Q q72_4) g72_4 s []):NC Try.prog 166 r72_4 Q s:=
 NC.yd (l:=l72_4) (b:=[0,0,2,6,14,0,32,96,224,480,0,1024,4064,8160,0,0,32768,16384,147456,507904,1032192,2097120,4194272,8388606,16777215,33554431,67108863]) (by kernel_rfl) (by kernel_rfl) (by kernel_rfl) (by kernel_rfl) (by kernel_rfl) (by kernel_rfl) (by kernel_rfl) (by kernel_rfl) hdf h
attribute [go_sem] xr_72_4
noncomputable def o72_5:Array Oper:=drawn Try.f72 5
def g72_5:List (Nat × Tmp × TypeId):=[]
def q72_5:List YO:=[.s 0 (mo 97 (.move (T 0))),
 .s 1 (mo 98 (.move (T 0))),
 .s 2 (mo 99 (.nilCheck (T 98))),
 .s 3 (mo 100 (.fieldAddr 87 (T 99) 3)),
 .l 4 (mo 101 (.load 30 (T 100))),
 .s 5 (mo 102 (.move (T 0))),
 .s 6 (mo 103 (.nilCheck (T 102))),
 .s 7 (mo 104 (.fieldAddr 87 (T 103) 0)),
 .s 8 (mo 105 (.fieldAddr 26 (T 104) 5)),
 .s 9 (mo 106 (.load 24 (T 105))),
 .s 10 (mo 107 (.fieldAddr 83 (T 3) 4)),
 .s 11 (mo 108 (.load 2 (T 107))),
 .s 12 (mo 109 (.indexAddr 24 (T 106) (T 108))),
 .s 13 (mo 110 (.load 44 (T 109))),
 .s 14 (mo 111 (.build 51 #[(0,(T 110)),(2,(.const (.bool true)))])),
 .b 15 (mo 112 (.buildSlice 30 1 #[(0,(T 111))])) [0],
 .b 16 (mo 113 (.call ⟨(.builtin .append),#[(T 101),(T 112)],#[30,30]⟩)) [],
 .s 17 (mo 114 (.nilCheck (T 97))),
 .s 18 (mo 115 (.fieldAddr 87 (T 114) 3)),
 .b 19 (mx (.store 30 (T 115) (T 113))) []]
def l72_5:List Oper:=[mo 97 (.move (T 0)),
 mo 98 (.move (T 0)),
 mo 99 (.nilCheck (T 98)),
 mo 100 (.fieldAddr 87 (T 99) 3),
 mo 101 (.load 30 (T 100)),
 mo 102 (.move (T 0)),
 mo 103 (.nilCheck (T 102)),
 mo 104 (.fieldAddr 87 (T 103) 0),
 mo 105 (.fieldAddr 26 (T 104) 5),
 mo 106 (.load 24 (T 105)),
 mo 107 (.fieldAddr 83 (T 3) 4),
 mo 108 (.load 2 (T 107)),
 mo 109 (.indexAddr 24 (T 106) (T 108)),
 mo 110 (.load 44 (T 109)),
 mo 111 (.build 51 #[(0,(T 110)),(2,(.const (.bool true)))]),
 mo 112 (.buildSlice 30 1 #[(0,(T 111))]),
 mo 113 (.call ⟨(.builtin .append),#[(T 101),(T 112)],#[30,30]⟩),
 mo 114 (.nilCheck (T 97)),
 mo 115 (.fieldAddr 87 (T 114) 3),
 mx (.store 30 (T 115) (T 113))]
noncomputable def r72_5:Code:=.region 11 o72_5 true
theorem xr_72_5 {Q:DExit→St→Prop} {s:St}:xs Try.prog 166 r72_5 Q s=NC Try.prog 166 r72_5 Q s:=rfl
theorem yr_72_5 {Q:DExit→St→Prop} {s:St} (hdf:s.df=[]) (h:YG Try.prog (YD Try.prog l72_5.toArray Q q72_5) g72_5 s []):NC Try.prog 166 r72_5 Q s:=
 NC.yd (l:=l72_5) (b:=[0,0,2,6,14,0,32,96,224,480,0,1024,4064,8160,16352,32736,65534,131071,262143,524287]) (by kernel_rfl) (by kernel_rfl) (by kernel_rfl) (by kernel_rfl) (by kernel_rfl) (by kernel_rfl) (by kernel_rfl) (by kernel_rfl) hdf h
attribute [go_sem] xr_72_5
noncomputable def o72_6:Array Oper:=drawn Try.f72 6
def g72_6:List (Nat × Tmp × TypeId):=[]
def q72_6:List YO:=[.s 0 (mo 118 (.move (T 0))),
 .s 1 (mo 119 (.nilCheck (T 118))),
 .s 2 (mo 120 (.fieldAddr 87 (T 119) 0)),
 .s 3 (mo 121 (.fieldAddr 26 (T 120) 4)),
 .s 4 (mo 122 (.load 24 (T 121))),
 .s 5 (mo 123 (.load 44 (T 5))),
 .b 6 (mo 124 (.call ⟨(.value (.func 56)),#[(T 122),(T 123)],#[24,44]⟩)) [],
 .s 7 (mo 125 (.unOp .not 4 (T 124)))]
def l72_6:List Oper:=[mo 118 (.move (T 0)),
 mo 119 (.nilCheck (T 118)),
 mo 120 (.fieldAddr 87 (T 119) 0),
 mo 121 (.fieldAddr 26 (T 120) 4),
 mo 122 (.load 24 (T 121)),
 mo 123 (.load 44 (T 5)),
 mo 124 (.call ⟨(.value (.func 56)),#[(T 122),(T 123)],#[24,44]⟩),
 mo 125 (.unOp .not 4 (T 124))]
noncomputable def r72_6:Code:=.region 13 o72_6 true
theorem xr_72_6 {Q:DExit→St→Prop} {s:St}:xs Try.prog 166 r72_6 Q s=NC Try.prog 166 r72_6 Q s:=rfl
theorem yr_72_6 {Q:DExit→St→Prop} {s:St} (hdf:s.df=[]) (h:YG Try.prog (YD Try.prog l72_6.toArray Q q72_6) g72_6 s []):NC Try.prog 166 r72_6 Q s:=
 NC.yd (l:=l72_6) (b:=[0,1,3,7,15,0,63,127]) (by kernel_rfl) (by kernel_rfl) (by kernel_rfl) (by kernel_rfl) (by kernel_rfl) (by kernel_rfl) (by kernel_rfl) (by kernel_rfl) hdf h
attribute [go_sem] xr_72_6
noncomputable def o72_7:Array Oper:=drawn Try.f72 7
def g72_7:List (Nat × Tmp × TypeId):=[]
def q72_7:List YO:=[.s 0 (mo 127 (.move (T 0))),
 .s 1 (mo 128 (.fieldAddr 83 (T 3) 2)),
 .l 2 (mo 129 (.load 3 (T 128))),
 .s 3 (mo 130 (.move (T 0))),
 .s 4 (mo 131 (.load 44 (T 5))),
 .s 9 (mo 135 (.nilCheck (T 127))),
 .s 10 (mo 136 (.fieldAddr 87 (T 135) 2)),
 .b 5 (mo 132 (.call ⟨(.value (.func 85)),#[(T 130),(T 131)],#[85,44]⟩)) [0],
 .s 6 (mo 126 (.move (T 132))),
 .s 7 (mo 133 (.extract (T 126) 0)),
 .s 8 (mo 134 (.extract (T 126) 1)),
 .s 11 (mo 137 (.indexAddr 79 (T 136) (T 129))),
 .b 12 (mx (.store 2 (T 137) (T 133))) []]
def l72_7:List Oper:=[mo 127 (.move (T 0)),
 mo 128 (.fieldAddr 83 (T 3) 2),
 mo 129 (.load 3 (T 128)),
 mo 130 (.move (T 0)),
 mo 131 (.load 44 (T 5)),
 mo 132 (.call ⟨(.value (.func 85)),#[(T 130),(T 131)],#[85,44]⟩),
 mo 126 (.move (T 132)),
 mo 133 (.extract (T 126) 0),
 mo 134 (.extract (T 126) 1),
 mo 135 (.nilCheck (T 127)),
 mo 136 (.fieldAddr 87 (T 135) 2),
 mo 137 (.indexAddr 79 (T 136) (T 129)),
 mx (.store 2 (T 137) (T 133))]
noncomputable def r72_7:Code:=.region 15 o72_7 true
theorem xr_72_7 {Q:DExit→St→Prop} {s:St}:xs Try.prog 166 r72_7 Q s=NC Try.prog 166 r72_7 Q s:=rfl
theorem yr_72_7 {Q:DExit→St→Prop} {s:St} (hdf:s.df=[]) (h:YG Try.prog (YD Try.prog l72_7.toArray Q q72_7) g72_7 s []):NC Try.prog 166 r72_7 Q s:=
 NC.yd (l:=l72_7) (b:=[0,0,2,0,0,24,56,120,120,1,513,1791,3839]) (by kernel_rfl) (by kernel_rfl) (by kernel_rfl) (by kernel_rfl) (by kernel_rfl) (by kernel_rfl) (by kernel_rfl) (by kernel_rfl) hdf h
attribute [go_sem] xr_72_7
noncomputable def o72_8:Array Oper:=drawn Try.f72 8
def g72_8:List (Nat × Tmp × TypeId):=[]
def q72_8:List YO:=[.s 0 (mo 140 (.move (T 0))),
 .s 1 (mo 141 (.nilCheck (T 140))),
 .s 2 (mo 142 (.fieldAddr 87 (T 141) 0)),
 .s 3 (mo 143 (.fieldAddr 26 (T 142) 5)),
 .s 4 (mo 144 (.load 24 (T 143))),
 .s 5 (mo 145 (.load 44 (T 5))),
 .b 6 (mo 146 (.call ⟨(.value (.func 56)),#[(T 144),(T 145)],#[24,44]⟩)) [],
 .s 7 (mo 147 (.unOp .not 4 (T 146)))]
def l72_8:List Oper:=[mo 140 (.move (T 0)),
 mo 141 (.nilCheck (T 140)),
 mo 142 (.fieldAddr 87 (T 141) 0),
 mo 143 (.fieldAddr 26 (T 142) 5),
 mo 144 (.load 24 (T 143)),
 mo 145 (.load 44 (T 5)),
 mo 146 (.call ⟨(.value (.func 56)),#[(T 144),(T 145)],#[24,44]⟩),
 mo 147 (.unOp .not 4 (T 146))]
noncomputable def r72_8:Code:=.region 17 o72_8 true
theorem xr_72_8 {Q:DExit→St→Prop} {s:St}:xs Try.prog 166 r72_8 Q s=NC Try.prog 166 r72_8 Q s:=rfl
theorem yr_72_8 {Q:DExit→St→Prop} {s:St} (hdf:s.df=[]) (h:YG Try.prog (YD Try.prog l72_8.toArray Q q72_8) g72_8 s []):NC Try.prog 166 r72_8 Q s:=
 NC.yd (l:=l72_8) (b:=[0,1,3,7,15,0,63,127]) (by kernel_rfl) (by kernel_rfl) (by kernel_rfl) (by kernel_rfl) (by kernel_rfl) (by kernel_rfl) (by kernel_rfl) (by kernel_rfl) hdf h
attribute [go_sem] xr_72_8
noncomputable def o72_9:Array Oper:=drawn Try.f72 9
def g72_9:List (Nat × Tmp × TypeId):=[]
def q72_9:List YO:=[.s 0 (mo 148 (.move (T 0))),
 .s 1 (mo 149 (.move (T 0))),
 .s 2 (mo 150 (.nilCheck (T 149))),
 .s 3 (mo 151 (.fieldAddr 87 (T 150) 3)),
 .l 4 (mo 152 (.load 30 (T 151))),
 .s 5 (mo 153 (.load 44 (T 5))),
 .s 6 (mo 154 (.move (T 0))),
 .s 7 (mo 155 (.fieldAddr 83 (T 3) 2)),
 .s 8 (mo 156 (.load 3 (T 155))),
 .s 9 (mo 157 (.nilCheck (T 154))),
 .s 10 (mo 158 (.fieldAddr 87 (T 157) 2)),
 .s 11 (mo 159 (.indexAddr 79 (T 158) (T 156))),
 .s 12 (mo 160 (.load 2 (T 159))),
 .s 13 (mo 161 (.build 51 #[(0,(T 153)),(1,(T 160))])),
 .b 14 (mo 162 (.buildSlice 30 1 #[(0,(T 161))])) [0],
 .b 15 (mo 163 (.call ⟨(.builtin .append),#[(T 152),(T 162)],#[30,30]⟩)) [],
 .s 16 (mo 164 (.nilCheck (T 148))),
 .s 17 (mo 165 (.fieldAddr 87 (T 164) 3)),
 .b 18 (mx (.store 30 (T 165) (T 163))) []]
def l72_9:List Oper:=[mo 148 (.move (T 0)),
 mo 149 (.move (T 0)),
 mo 150 (.nilCheck (T 149)),
 mo 151 (.fieldAddr 87 (T 150) 3),
 mo 152 (.load 30 (T 151)),
 mo 153 (.load 44 (T 5)),
 mo 154 (.move (T 0)),
 mo 155 (.fieldAddr 83 (T 3) 2),
 mo 156 (.load 3 (T 155)),
 mo 157 (.nilCheck (T 154)),
 mo 158 (.fieldAddr 87 (T 157) 2),
 mo 159 (.indexAddr 79 (T 158) (T 156)),
 mo 160 (.load 2 (T 159)),
 mo 161 (.build 51 #[(0,(T 153)),(1,(T 160))]),
 mo 162 (.buildSlice 30 1 #[(0,(T 161))]),
 mo 163 (.call ⟨(.builtin .append),#[(T 152),(T 162)],#[30,30]⟩),
 mo 164 (.nilCheck (T 148)),
 mo 165 (.fieldAddr 87 (T 164) 3),
 mx (.store 30 (T 165) (T 163))]
noncomputable def r72_9:Code:=.region 19 o72_9 true
theorem xr_72_9 {Q:DExit→St→Prop} {s:St}:xs Try.prog 166 r72_9 Q s=NC Try.prog 166 r72_9 Q s:=rfl
theorem yr_72_9 {Q:DExit→St→Prop} {s:St} (hdf:s.df=[]) (h:YG Try.prog (YD Try.prog l72_9.toArray Q q72_9) g72_9 s []):NC Try.prog 166 r72_9 Q s:=
 NC.yd (l:=l72_9) (b:=[0,0,2,6,14,0,0,0,128,64,576,1984,4032,8160,16352,32766,65535,131071,262143]) (by kernel_rfl) (by kernel_rfl) (by kernel_rfl) (by kernel_rfl) (by kernel_rfl) (by kernel_rfl) (by kernel_rfl) (by kernel_rfl) hdf h
attribute [go_sem] xr_72_9
noncomputable def c72:Code:=
 .seq (rg [mo 3 (.box 83 (T 1)),
 mo 4 (.assign (.const (.int .i64 0)))])
 (.seq (r72_0)
 (.seq (.seq (rg [mo 19 (.fieldAddr 83 (T 3) 1),
 mo 20 (.load 3 (T 19))])
 (.block 0 (.seq (rg [mo 22 (.binOp .eql 3 (T 20) (.const (.int .i64 3)) 3),
 mo 21 (.assign (T 22))])
 (.cond (T 21) (r72_1)
 (.seq (rg [mo 44 (.binOp .eql 3 (T 20) (.const (.int .i64 4)) 3),
 mo 43 (.assign (T 44))])
 (.cond (T 43) (.seq (r72_2)
 (r72_3))
 (.seq (rg [mo 68 (.binOp .eql 3 (T 20) (.const (.int .i64 5)) 3),
 mo 67 (.assign (T 68))])
 (.cond (T 67) (r72_4)
 (.seq (rg [mo 96 (.binOp .eql 3 (T 20) (.const (.int .i64 6)) 3),
 mo 95 (.assign (T 96))])
 (.cond (T 95) (r72_5)
 (.seq (rg [mo 117 (.binOp .eql 3 (T 20) (.const (.int .i64 26)) 3),
 mo 116 (.assign (T 117))])
 (.cond (T 116) (.seq (.seq (r72_6)
 (.cond (T 125) (.seq (rg [mo 4 (.assign (.const (.int .i64 4)))])
 (.ret))
 (.skip)))
 (r72_7))
 (.seq (rg [mo 139 (.binOp .eql 3 (T 20) (.const (.int .i64 27)) 3),
 mo 138 (.assign (T 139))])
 (.cond (T 138) (.seq (.seq (r72_8)
 (.cond (T 147) (.seq (rg [mo 4 (.assign (.const (.int .i64 4)))])
 (.ret))
 (.skip)))
 (r72_9))
 (.skip)))))))))))))))
 (.seq (rg [mo 4 (.assign (.const (.int .i64 0)))])
 (.ret))))
theorem body_72:Try.f72.body.map strip=some c72:=by kernel_rfl
theorem go_72:GoC Try.prog 72 166 c72 [(.tmp 4)]:=
 GoC.of (fn:=Try.f72) (by kernel_rfl) body_72 (by kernel_rfl) (by kernel_rfl) (by kernel_rfl)
def c73:Code:=
 .seq (rg [mo 4 (.assign (.const (.int .i64 0)))])
 (.seq (.seq (rg [mo 6 (.move (T 0)),
 mo 7 (.call ⟨(.builtin .len),#[(T 6)],#[27]⟩),
 mo 8 (.move (.const (.int .i64 0)))])
 (.block 0 (.loop (.seq (rg [mo 9 (.binOp .lss 3 (T 8) (T 7) 3)])
 (.seq (.cond (T 9) (.skip)
 (.exit 0))
 (.seq (.block 1 (.seq (rg [mo 10 (.move (T 8)),
 mo 5 (.assign (T 10))])
 (.seq (rg [mo 11 (.move (T 1)),
 mo 12 (.move (T 0)),
 mo 13 (.move (T 5)),
 mo 14 (.indexAddr 27 (T 12) (T 13)),
 mo 15 (.load 46 (T 14)),
 mo 16 (.call ⟨(.value (T 11)),#[(T 15)],#[46]⟩)])
 (.cond (T 16) (.seq (rg [mo 17 (.move (T 5)),
 mo 4 (.assign (T 17))])
 (.ret))
 (.skip)))))
 (rg [mo 18 (.binOp .add 3 (T 8) (.const (.int .i64 1)) 3),
 mo 8 (.move (T 18))])))))))
 (.seq (rg [mo 4 (.assign (.const (.int .i64 (-1))))])
 (.ret)))
theorem body_73:Try.f73.body.map strip=some c73:=by kernel_rfl
theorem go_73:GoC Try.prog 73 19 c73 [(.tmp 4)]:=
 GoC.of (fn:=Try.f73) (by kernel_rfl) body_73 (by kernel_rfl) (by kernel_rfl) (by kernel_rfl)
def c74:Code:=
 .seq (rg [mo 4 (.assign (.const (.slice none 0 0)))])
 (.seq (rg [mo 6 (.move (T 0)),
 mo 7 (.call ⟨(.value (.func 86)),#[(T 6)],#[119]⟩),
 mo 5 (.assign (T 7))])
 (.seq (rg [mo 8 (.move (T 5)),
 mo 9 (.move (T 1)),
 mo 10 (.call ⟨(.value (.func 78)),#[(T 8),(T 9)],#[24,121]⟩)])
 (.seq (rg [mo 11 (.move (T 5)),
 mo 4 (.assign (T 11))])
 (.ret))))
theorem body_74:Try.f74.body.map strip=some c74:=by kernel_rfl
theorem go_74:GoC Try.prog 74 12 c74 [(.tmp 4)]:=
 GoC.of (fn:=Try.f74) (by kernel_rfl) body_74 (by kernel_rfl) (by kernel_rfl) (by kernel_rfl)
def c75:Code:=
 .seq (rg [mo 1 (.box 64 (T 0)),
 mo 2 (.assign (.const .nilFunc))])
 (.seq (rg [mo 3 (.makeFunc (.func 87) #[] #[(T 1)]),
 mo 2 (.assign (T 3))])
 (.ret))
theorem body_75:Try.f75.body.map strip=some c75:=by kernel_rfl
theorem go_75:GoC Try.prog 75 4 c75 [(.tmp 2)]:=
 GoC.of (fn:=Try.f75) (by kernel_rfl) body_75 (by kernel_rfl) (by kernel_rfl) (by kernel_rfl)
noncomputable def o76_0:Array Oper:=drawn Try.f76 0
def l76_0:List Oper:=[mo 5 (.fieldAddr 44 (T 2) 0),
 mo 6 (.load 21 (T 5)),
 mo 7 (.fieldAddr 44 (T 3) 0),
 mo 8 (.load 21 (T 7)),
 mo 9 (.call ⟨(.value (.func 89)),#[(T 6),(T 8)],#[21,21]⟩),
 mo 10 (.fieldAddr 44 (T 2) 1),
 mo 11 (.load 2 (T 10)),
 mo 12 (.fieldAddr 44 (T 3) 1),
 mo 13 (.load 2 (T 12)),
 mo 14 (.call ⟨(.value (.func 90)),#[(T 11),(T 13)],#[2,2]⟩),
 mo 15 (.buildSlice 138 2 #[(0,(T 9)),(1,(T 14))]),
 mo 16 (.call ⟨(.value (.func 88)),#[(T 15)],#[138]⟩),
 mo 4 (.assign (T 16))]
noncomputable def r76_0:Code:=.region 1 o76_0 true
theorem xr_76_0 {Q:DExit→St→Prop} {s:St}:xs Try.prog 17 r76_0 Q s=NC Try.prog 17 r76_0 Q s:=rfl
theorem dr_76_0 {Q:DExit→St→Prop} {s:St} (h:XDraw Try.prog l76_0.toArray (befs o76_0.toList []) [(6,4),(8,4)] s.fr Q l76_0 0 s []):NC Try.prog 17 r76_0 Q s:=
 NC.draw (by kernel_rfl) (by kernel_rfl) (by kernel_rfl) rfl (by kernel_rfl) (by kernel_rfl) h
attribute [go_sem] xr_76_0
noncomputable def c76:Code:=
 .seq (rg [mo 2 (.box 44 (T 0)),
 mo 3 (.box 44 (T 1)),
 mo 4 (.assign (.const (.int .i64 0)))])
 (.seq (r76_0)
 (.ret))
theorem body_76:Try.f76.body.map strip=some c76:=by kernel_rfl
theorem go_76:GoC Try.prog 76 17 c76 [(.tmp 4)]:=
 GoC.of (fn:=Try.f76) (by kernel_rfl) body_76 (by kernel_rfl) (by kernel_rfl) (by kernel_rfl)
def c77:Code:=
 .seq (rg [mo 2 (.assign (.const (.slice none 0 0)))])
 (.seq (.seq (rg [mo 3 (.move (T 0)),
 mo 4 (.binOp .eql 24 (T 3) (.const (.slice none 0 0)) 24)])
 (.cond (T 4) (.seq (rg [mo 2 (.assign (.const (.slice none 0 0)))])
 (.ret))
 (.skip)))
 (.seq (rg [mo 5 (.buildSlice 24 0 #[]),
 mo 6 (.move (T 0)),
 mo 7 (.call ⟨(.builtin .append),#[(T 5),(T 6)],#[24,24]⟩),
 mo 2 (.assign (T 7))])
 (.ret)))
theorem body_77:Try.f77.body.map strip=some c77:=by kernel_rfl
theorem go_77:GoC Try.prog 77 8 c77 [(.tmp 2)]:=
 GoC.of (fn:=Try.f77) (by kernel_rfl) body_77 (by kernel_rfl) (by kernel_rfl) (by kernel_rfl)
def c78:Code:=
 .seq (rg [mo 5 (.move (T 0)),
 mo 6 (.call ⟨(.builtin .len),#[(T 5)],#[24]⟩),
 mo 4 (.assign (T 6))])
 (rg [mo 7 (.move (T 0)),
 mo 8 (.move (T 4)),
 mo 9 (.move (T 4)),
 mo 10 (.convert 3 96 (T 9)),
 mo 11 (.call ⟨(.value (.func 92)),#[(T 10)],#[96]⟩),
 mo 12 (.move (T 1)),
 mo 13 (.call ⟨(.value (.func 91)),#[(T 7),(.const (.int .i64 0)),(T 8),(T 11),(T 12)],#[24,3,3,3,121]⟩)])
theorem body_78:Try.f78.body.map strip=some c78:=by kernel_rfl
theorem go_78:GoC Try.prog 78 14 c78 []:=
 GoC.of (fn:=Try.f78) (by kernel_rfl) body_78 (by kernel_rfl) (by kernel_rfl) (by kernel_rfl)
noncomputable def o79_0:Array Oper:=drawn Try.f79 0
def l79_0:List Oper:=[mo 16 (.move (T 0)),
 mo 17 (.move (T 3)),
 mo 18 (.indexAddr 24 (T 16) (T 17)),
 mo 19 (.load 44 (T 18)),
 mo 20 (.move (T 0)),
 mo 21 (.move (T 3)),
 mo 22 (.binOp .sub 3 (T 21) (.const (.int .i64 1)) 3),
 mo 23 (.indexAddr 24 (T 20) (T 22)),
 mo 24 (.load 44 (T 23)),
 mo 25 (.binOp .eql 44 (T 19) (T 24) 44)]
noncomputable def r79_0:Code:=.region 6 o79_0 true
theorem xr_79_0 {Q:DExit→St→Prop} {s:St}:xs Try.prog 61 r79_0 Q s=NC Try.prog 61 r79_0 Q s:=rfl
theorem dr_79_0 {Q:DExit→St→Prop} {s:St} (h:XDraw Try.prog l79_0.toArray (befs o79_0.toList []) [] s.fr Q l79_0 0 s []):NC Try.prog 61 r79_0 Q s:=
 NC.draw (by kernel_rfl) (by kernel_rfl) (by kernel_rfl) rfl (by kernel_rfl) (by kernel_rfl) h
attribute [go_sem] xr_79_0
noncomputable def o79_1:Array Oper:=drawn Try.f79 1
def l79_1:List Oper:=[mo 35 (.move (T 4)),
 mo 36 (.move (T 5)),
 mo 37 (.indexAddr 24 (T 35) (T 36)),
 mo 38 (.load 44 (T 37)),
 mo 39 (.move (T 4)),
 mo 40 (.move (T 5)),
 mo 41 (.binOp .sub 3 (T 40) (.const (.int .i64 1)) 3),
 mo 42 (.indexAddr 24 (T 39) (T 41)),
 mo 43 (.load 44 (T 42)),
 mo 44 (.binOp .neq 44 (T 38) (T 43) 44)]
noncomputable def r79_1:Code:=.region 11 o79_1 true
theorem xr_79_1 {Q:DExit→St→Prop} {s:St}:xs Try.prog 61 r79_1 Q s=NC Try.prog 61 r79_1 Q s:=rfl
theorem dr_79_1 {Q:DExit→St→Prop} {s:St} (h:XDraw Try.prog l79_1.toArray (befs o79_1.toList []) [] s.fr Q l79_1 0 s []):NC Try.prog 61 r79_1 Q s:=
 NC.draw (by kernel_rfl) (by kernel_rfl) (by kernel_rfl) rfl (by kernel_rfl) (by kernel_rfl) h
attribute [go_sem] xr_79_1
noncomputable def c79:Code:=
 .seq (rg [mo 2 (.assign (.const (.slice none 0 0)))])
 (.seq (.seq (rg [mo 6 (.move (T 0)),
 mo 7 (.call ⟨(.builtin .len),#[(T 6)],#[24]⟩),
 mo 8 (.binOp .lss 3 (T 7) (.const (.int .i64 2)) 3)])
 (.cond (T 8) (.seq (rg [mo 9 (.move (T 0)),
 mo 2 (.assign (T 9))])
 (.ret))
 (.skip)))
 (.seq (.seq (rg [mo 3 (.assign (.const (.int .i64 1)))])
 (.block 0 (.loop (.seq (.seq (rg [mo 10 (.move (T 3)),
 mo 11 (.move (T 0)),
 mo 12 (.call ⟨(.builtin .len),#[(T 11)],#[24]⟩),
 mo 13 (.binOp .lss 3 (T 10) (T 12) 3)])
 (.cond (T 13) (.skip)
 (.exit 0)))
 (.seq (.block 1 (.seq (r79_0)
 (.cond (T 25) (.seq (rg [mo 26 (.move (T 0)),
 mo 27 (.move (T 3)),
 mo 28 (.slice 24 (T 26) (some (T 27)) none none),
 mo 4 (.assign (T 28))])
 (.seq (.seq (rg [mo 5 (.assign (.const (.int .i64 1)))])
 (.block 2 (.loop (.seq (.seq (rg [mo 29 (.move (T 5)),
 mo 30 (.move (T 4)),
 mo 31 (.call ⟨(.builtin .len),#[(T 30)],#[24]⟩),
 mo 32 (.binOp .lss 3 (T 29) (T 31) 3)])
 (.cond (T 32) (.skip)
 (.exit 2)))
 (.seq (.block 3 (.seq (r79_1)
 (.cond (T 44) (.seq (rg [mo 45 (.move (T 0)),
 mo 46 (.move (T 3)),
 mo 47 (.move (T 4)),
 mo 48 (.move (T 5)),
 mo 49 (.indexAddr 24 (T 47) (T 48)),
 mo 50 (.load 44 (T 49)),
 mo 51 (.indexAddr 24 (T 45) (T 46)),
 mx (.store 44 (T 51) (T 50))])
 (rg [mo 52 (.move (T 3)),
 mo 53 (.binOp .add 3 (T 52) (.const (.int .i64 1)) 3),
 mo 3 (.assign (T 53))]))
 (.skip))))
 (rg [mo 33 (.move (T 5)),
 mo 34 (.binOp .add 3 (T 33) (.const (.int .i64 1)) 3),
 mo 5 (.assign (T 34))]))))))
 (.seq (rg [mo 54 (.move (T 0)),
 mo 55 (.move (T 3)),
 mo 56 (.slice 24 (T 54) (some (T 55)) none none),
 mx (.call ⟨(.builtin .clear),#[(T 56)],#[24]⟩)])
 (.seq (rg [mo 57 (.move (T 0)),
 mo 58 (.move (T 3)),
 mo 59 (.slice 24 (T 57) none (some (T 58)) none),
 mo 2 (.assign (T 59))])
 (.ret)))))
 (.skip))))
 (rg [mo 14 (.move (T 3)),
 mo 15 (.binOp .add 3 (T 14) (.const (.int .i64 1)) 3),
 mo 3 (.assign (T 15))]))))))
 (.seq (rg [mo 60 (.move (T 0)),
 mo 2 (.assign (T 60))])
 (.ret))))
theorem body_79:Try.f79.body.map strip=some c79:=by kernel_rfl
theorem go_79:GoC Try.prog 79 61 c79 [(.tmp 2)]:=
 GoC.of (fn:=Try.f79) (by kernel_rfl) body_79 (by kernel_rfl) (by kernel_rfl) (by kernel_rfl)
def c80:Code:=
 .seq (rg [mo 2 (.box 44 (T 0)),
 mo 3 (.box 44 (T 1)),
 mo 4 (.assign (.const (.int .i64 0)))])
 (.seq (.seq (rg [mo 5 (.fieldAddr 44 (T 2) 0),
 mo 6 (.load 21 (T 5)),
 mo 7 (.fieldAddr 44 (T 3) 0),
 mo 8 (.load 21 (T 7)),
 mo 9 (.binOp .lss 21 (T 6) (T 8) 21),
 mo 10 (.move (T 9)),
 mg 11 5 false (.fieldAddr 44 (T 2) 0),
 mg 12 5 false (.load 21 (T 11)),
 mg 13 5 false (.fieldAddr 44 (T 3) 0),
 mg 14 5 false (.load 21 (T 13)),
 mg 15 5 false (.binOp .eql 21 (T 12) (T 14) 21),
 mg 16 5 false (.move (T 15)),
 mg 17 11 true (.fieldAddr 44 (T 2) 1),
 mg 18 11 true (.load 2 (T 17)),
 mg 19 11 true (.fieldAddr 44 (T 3) 1),
 mg 20 11 true (.load 2 (T 19)),
 mg 21 11 true (.binOp .lss 2 (T 18) (T 20) 2),
 mg 22 5 false (.pick (T 16) (T 21) (.const (.bool false))),
 mo 23 (.pick (T 10) (.const (.bool true)) (T 22))])
 (.cond (T 23) (.seq (rg [mo 4 (.assign (.const (.int .i64 (-1))))])
 (.ret))
 (.skip)))
 (.seq (.seq (rg [mo 24 (.load 44 (T 2)),
 mo 25 (.load 44 (T 3)),
 mo 26 (.binOp .eql 44 (T 24) (T 25) 44)])
 (.cond (T 26) (.seq (rg [mo 4 (.assign (.const (.int .i64 0)))])
 (.ret))
 (.skip)))
 (.seq (rg [mo 4 (.assign (.const (.int .i64 1)))])
 (.ret))))
theorem body_80:Try.f80.body.map strip=some c80:=by kernel_rfl
theorem go_80:GoC Try.prog 80 27 c80 [(.tmp 4)]:=
 GoC.of (fn:=Try.f80) (by kernel_rfl) body_80 (by kernel_rfl) (by kernel_rfl) (by kernel_rfl)
end Go.Proofs.Ythjmkmoiopmfcaa

namespace Go.Proofs.Ythjmkmoiopmfcaa
open Go.D
set_option maxRecDepth 100000
noncomputable def o81_0:Array Oper:=drawn Try.f81 0
def l81_0:List Oper:=[mo 65 (.move (T 12)),
 mo 66 (.indexAddr 22 (T 65) (.const (.int .i64 0))),
 mo 67 (.load 5 (T 66)),
 mo 68 (.convert 5 3 (T 67)),
 mo 69 (.move (T 12)),
 mo 70 (.slice 22 (T 69) (some (.const (.int .i64 1))) none none),
 mo 71 (.fieldAddr 83 (T 9) 2),
 mx (.store 3 (T 71) (T 68)),
 mo 12 (.assign (T 70))]
noncomputable def r81_0:Code:=.region 10 o81_0 true
noncomputable def o81_1:Array Oper:=drawn Try.f81 1
def l81_1:List Oper:=[mo 75 (.move (T 12)),
 mo 76 (.indexAddr 22 (T 75) (.const (.int .i64 0))),
 mo 77 (.load 5 (T 76)),
 mo 78 (.convert 5 3 (T 77)),
 mo 79 (.move (T 12)),
 mo 80 (.slice 22 (T 79) (some (.const (.int .i64 1))) none none),
 mo 81 (.fieldAddr 83 (T 9) 3),
 mx (.store 3 (T 81) (T 78)),
 mo 12 (.assign (T 80))]
noncomputable def r81_1:Code:=.region 12 o81_1 true
noncomputable def o81_2:Array Oper:=drawn Try.f81 2
def l81_2:List Oper:=[mo 95 (.move (T 12)),
 mo 96 (.indexAddr 22 (T 95) (.const (.int .i64 0))),
 mo 97 (.load 5 (T 96)),
 mo 98 (.convert 5 41 (T 97)),
 mo 99 (.move (T 12)),
 mo 100 (.indexAddr 22 (T 99) (.const (.int .i64 1))),
 mo 101 (.load 5 (T 100)),
 mo 102 (.convert 5 41 (T 101)),
 mo 103 (.binOp .shl 41 (T 102) (.const (.int .u64 8)) 96),
 mo 104 (.binOp .or 41 (T 98) (T 103) 41),
 mo 105 (.convert 41 39 (T 104)),
 mo 106 (.convert 39 2 (T 105)),
 mo 107 (.fieldAddr 83 (T 9) 4),
 mx (.store 2 (T 107) (T 106))]
noncomputable def r81_2:Code:=.region 16 o81_2 true
theorem dr_81_2 {Q:DExit→St→Prop} {s:St} (h:XDraw Try.prog l81_2.toArray (befs o81_2.toList []) [] s.fr Q l81_2 0 s []):NC Try.prog 132 r81_2 Q s:=
 NC.draw (by kernel_rfl) (by kernel_rfl) (by kernel_rfl) rfl (by kernel_rfl) (by kernel_rfl) h
noncomputable def o81_3:Array Oper:=drawn Try.f81 3
def l81_3:List Oper:=[mo 112 (.move (T 12)),
 mo 113 (.indexAddr 22 (T 112) (.const (.int .i64 0))),
 mo 114 (.load 5 (T 113)),
 mo 115 (.convert 5 41 (T 114)),
 mo 116 (.move (T 12)),
 mo 117 (.indexAddr 22 (T 116) (.const (.int .i64 1))),
 mo 118 (.load 5 (T 117)),
 mo 119 (.convert 5 41 (T 118)),
 mo 120 (.binOp .shl 41 (T 119) (.const (.int .u64 8)) 96),
 mo 121 (.binOp .or 41 (T 115) (T 120) 41),
 mo 122 (.convert 41 2 (T 121)),
 mo 123 (.fieldAddr 83 (T 9) 4),
 mx (.store 2 (T 123) (T 122))]
noncomputable def r81_3:Code:=.region 18 o81_3 true
theorem dr_81_3 {Q:DExit→St→Prop} {s:St} (h:XDraw Try.prog l81_3.toArray (befs o81_3.toList []) [] s.fr Q l81_3 0 s []):NC Try.prog 132 r81_3 Q s:=
 NC.draw (by kernel_rfl) (by kernel_rfl) (by kernel_rfl) rfl (by kernel_rfl) (by kernel_rfl) h
noncomputable def c81:Code:=
 .seq (rg [mo 4 (.alloc 83),
 mo 5 (.assign (.const (.int .i64 0))),
 mo 6 (.assign (.const (.int .i64 0)))])
 (.seq (.seq (rg [mo 13 (.move (T 1)),
 mo 14 (.binOp .lss 3 (T 13) (.const (.int .i64 0)) 3),
 mo 15 (.move (T 14)),
 mg 16 2 false (.move (T 1)),
 mg 17 2 false (.move (T 0)),
 mg 18 2 false (.call ⟨(.builtin .len),#[(T 17)],#[22]⟩),
 mg 19 2 false (.binOp .geq 3 (T 16) (T 18) 3),
 mo 20 (.pick (T 15) (.const (.bool true)) (T 19))])
 (.cond (T 20) (.seq (rg [mo 21 (.build 83 #[]),
 mx (.store 83 (T 4) (T 21)),
 mo 5 (.assign (.const (.int .i64 0))),
 mo 6 (.assign (.const (.int .i64 130)))])
 (.ret))
 (.skip)))
 (.seq (rg [mo 23 (.move (T 0)),
 mo 24 (.move (T 1)),
 mo 25 (.indexAddr 22 (T 23) (T 24)),
 mo 26 (.load 5 (T 25)),
 mo 27 (.convert 5 3 (T 26)),
 mo 28 (.call ⟨(.value (.func 93)),#[(T 27)],#[3]⟩),
 mo 22 (.move (T 28)),
 mo 29 (.extract (T 22) 0),
 mo 30 (.extract (T 22) 1),
 mo 7 (.assign (T 29)),
 mo 8 (.assign (T 30))])
 (.seq (.seq (rg [mo 31 (.move (T 8)),
 mo 32 (.unOp .not 4 (T 31)),
 mo 33 (.move (T 32)),
 mg 34 2 false (.move (T 7)),
 mg 35 2 false (.move (T 0)),
 mg 36 2 false (.call ⟨(.builtin .len),#[(T 35)],#[22]⟩),
 mg 37 2 false (.move (T 1)),
 mg 38 2 false (.binOp .sub 3 (T 36) (T 37) 3),
 mg 39 2 false (.binOp .gtr 3 (T 34) (T 38) 3),
 mo 40 (.pick (T 33) (.const (.bool true)) (T 39))])
 (.cond (T 40) (.seq (rg [mo 41 (.build 83 #[]),
 mx (.store 83 (T 4) (T 41)),
 mo 5 (.assign (.const (.int .i64 0))),
 mo 6 (.assign (.const (.int .i64 130)))])
 (.ret))
 (.skip)))
 (.seq (rg [mo 42 (.move (T 1)),
 mo 43 (.move (T 0)),
 mo 44 (.move (T 1)),
 mo 45 (.indexAddr 22 (T 43) (T 44)),
 mo 46 (.load 5 (T 45)),
 mo 47 (.convert 5 3 (T 46)),
 mo 48 (.build 83 #[(0,(T 42)),(1,(T 47))]),
 mo 9 (.alloc 83),
 mx (.store 83 (T 9) (T 48))])
 (.seq (rg [mo 50 (.fieldAddr 83 (T 9) 1),
 mo 51 (.load 3 (T 50)),
 mo 52 (.call ⟨(.value (.func 94)),#[(T 51)],#[3]⟩),
 mo 49 (.move (T 52)),
 mo 53 (.extract (T 49) 0),
 mo 54 (.extract (T 49) 1),
 mo 10 (.assign (T 53)),
 mo 11 (.assign (T 54))])
 (.seq (rg [mo 55 (.move (T 0)),
 mo 56 (.move (T 1)),
 mo 57 (.binOp .add 3 (T 56) (.const (.int .i64 1)) 3),
 mo 58 (.move (T 1)),
 mo 59 (.move (T 7)),
 mo 60 (.binOp .add 3 (T 58) (T 59) 3),
 mo 61 (.slice 22 (T 55) (some (T 57)) (some (T 60)) none),
 mo 12 (.assign (T 61))])
 (.seq (.seq (rg [mo 62 (.move (T 10)),
 mo 63 (.binOp .and 3 (T 62) (.const (.int .i64 1)) 3),
 mo 64 (.binOp .neq 3 (T 63) (.const (.int .i64 0)) 3)])
 (.cond (T 64) (r81_0)
 (.skip)))
 (.seq (.seq (rg [mo 72 (.move (T 10)),
 mo 73 (.binOp .and 3 (T 72) (.const (.int .i64 2)) 3),
 mo 74 (.binOp .neq 3 (T 73) (.const (.int .i64 0)) 3)])
 (.cond (T 74) (r81_1)
 (.skip)))
 (.seq (.block 0 (.seq (rg [mo 83 (.move (T 10)),
 mo 84 (.binOp .and 3 (T 83) (.const (.int .i64 4)) 3),
 mo 85 (.binOp .neq 3 (T 84) (.const (.int .i64 0)) 3),
 mo 82 (.assign (T 85))])
 (.cond (T 82) (rg [mo 86 (.move (T 12)),
 mo 87 (.indexAddr 22 (T 86) (.const (.int .i64 0))),
 mo 88 (.load 5 (T 87)),
 mo 89 (.convert 5 2 (T 88)),
 mo 90 (.fieldAddr 83 (T 9) 4),
 mx (.store 2 (T 90) (T 89))])
 (.seq (rg [mo 92 (.move (T 10)),
 mo 93 (.binOp .and 3 (T 92) (.const (.int .i64 8)) 3),
 mo 94 (.binOp .neq 3 (T 93) (.const (.int .i64 0)) 3),
 mo 91 (.assign (T 94))])
 (.cond (T 91) (r81_2)
 (.seq (rg [mo 109 (.move (T 10)),
 mo 110 (.binOp .and 3 (T 109) (.const (.int .i64 16)) 3),
 mo 111 (.binOp .neq 3 (T 110) (.const (.int .i64 0)) 3),
 mo 108 (.assign (T 111))])
 (.cond (T 108) (r81_3)
 (.skip))))))))
 (.seq (.seq (rg [mo 124 (.load 83 (T 9)),
 mo 125 (.call ⟨(.value (.func 95)),#[(T 124)],#[83]⟩),
 mo 126 (.unOp .not 4 (T 125))])
 (.cond (T 126) (.seq (rg [mo 127 (.build 83 #[]),
 mx (.store 83 (T 4) (T 127)),
 mo 5 (.assign (.const (.int .i64 0))),
 mo 6 (.assign (.const (.int .i64 132)))])
 (.ret))
 (.skip)))
 (.seq (rg [mo 128 (.load 83 (T 9)),
 mo 129 (.move (T 1)),
 mo 130 (.move (T 7)),
 mo 131 (.binOp .add 3 (T 129) (T 130) 3),
 mx (.store 83 (T 4) (T 128)),
 mo 5 (.assign (T 131)),
 mo 6 (.assign (.const (.int .i64 0)))])
 (.ret))))))))))))
theorem body_81:Try.f81.body.map strip=some c81:=by kernel_rfl
theorem go_81:GoC Try.prog 81 132 c81 [(.cell 4 83),(.tmp 5),(.tmp 6)]:=
 GoC.of (fn:=Try.f81) (by kernel_rfl) body_81 (by kernel_rfl) (by kernel_rfl) (by kernel_rfl)
def c82:Code:=
 .seq (rg [mo 2 (.assign (.const (.slice none 0 0))),
 mo 3 (.assign (.const (.int .i64 0)))])
 (.seq (rg [mo 4 (.assign (.const (.slice none 0 0)))])
 (.seq (.seq (rg [mo 5 (.assign (.const (.int .i64 0)))])
 (.block 0 (.loop (.seq (.seq (rg [mo 9 (.move (T 5)),
 mo 10 (.move (T 0)),
 mo 11 (.call ⟨(.builtin .len),#[(T 10)],#[22]⟩),
 mo 12 (.binOp .lss 3 (T 9) (T 11) 3)])
 (.cond (T 12) (.skip)
 (.exit 0)))
 (.block 1 (.seq (rg [mo 14 (.move (T 0)),
 mo 15 (.move (T 5)),
 mo 16 (.call ⟨(.value (.func 42)),#[(T 14),(T 15)],#[22,3]⟩),
 mo 13 (.move (T 16)),
 mo 17 (.extract (T 13) 0),
 mo 18 (.extract (T 13) 1),
 mo 19 (.extract (T 13) 2),
 mo 6 (.alloc 83),
 mx (.store 83 (T 6) (T 17)),
 mo 7 (.assign (T 18)),
 mo 8 (.assign (T 19))])
 (.seq (.seq (rg [mo 20 (.move (T 8)),
 mo 21 (.binOp .neq 53 (T 20) (.const (.int .i64 0)) 53)])
 (.cond (T 21) (.seq (rg [mo 22 (.move (T 4)),
 mo 23 (.move (T 8)),
 mo 2 (.assign (T 22)),
 mo 3 (.assign (T 23))])
 (.ret))
 (.skip)))
 (.seq (rg [mo 24 (.move (T 4)),
 mo 25 (.load 83 (T 6)),
 mo 26 (.buildSlice 74 1 #[(0,(T 25))]),
 mo 27 (.call ⟨(.builtin .append),#[(T 24),(T 26)],#[74,74]⟩),
 mo 4 (.assign (T 27))])
 (rg [mo 28 (.move (T 7)),
 mo 5 (.assign (T 28))])))))))))
 (.seq (rg [mo 29 (.move (T 4)),
 mo 2 (.assign (T 29)),
 mo 3 (.assign (.const (.int .i64 0)))])
 (.ret))))
theorem body_82:Try.f82.body.map strip=some c82:=by kernel_rfl
theorem go_82:GoC Try.prog 82 30 c82 [(.tmp 2),(.tmp 3)]:=
 GoC.of (fn:=Try.f82) (by kernel_rfl) body_82 (by kernel_rfl) (by kernel_rfl) (by kernel_rfl)
def c83:Code:=
 .seq (rg [mo 2 (.assign (.const (.bool false)))])
 (.seq (rg [mo 3 (.move (T 0)),
 mo 4 (.binOp .eql 3 (T 3) (.const (.int .i64 22)) 3),
 mo 5 (.move (T 4)),
 mg 6 2 false (.move (T 0)),
 mg 7 2 false (.binOp .eql 3 (T 6) (.const (.int .i64 23)) 3),
 mo 8 (.pick (T 5) (.const (.bool true)) (T 7)),
 mo 2 (.assign (T 8))])
 (.ret))
theorem body_83:Try.f83.body.map strip=some c83:=by kernel_rfl
theorem go_83:GoC Try.prog 83 9 c83 [(.tmp 2)]:=
 GoC.of (fn:=Try.f83) (by kernel_rfl) body_83 (by kernel_rfl) (by kernel_rfl) (by kernel_rfl)
def c84:Code:=
 .seq (rg [mo 4 (.assign (.const (.bool false)))])
 (.seq (.seq (rg [mo 5 (.assign (.const (.int .i64 0)))])
 (.block 0 (.loop (.seq (.seq (rg [mo 6 (.move (T 5)),
 mo 7 (.move (T 0)),
 mo 8 (.call ⟨(.builtin .len),#[(T 7)],#[74]⟩),
 mo 9 (.binOp .lss 3 (T 6) (T 8) 3)])
 (.cond (T 9) (.skip)
 (.exit 0)))
 (.seq (.block 1 (.seq (rg [mo 12 (.move (T 0)),
 mo 13 (.move (T 5)),
 mo 14 (.indexAddr 74 (T 12) (T 13)),
 mo 15 (.fieldAddr 83 (T 14) 0),
 mo 16 (.load 3 (T 15)),
 mo 17 (.move (T 1)),
 mo 18 (.binOp .eql 2 (T 16) (T 17) 2)])
 (.cond (T 18) (.seq (rg [mo 4 (.assign (.const (.bool true)))])
 (.ret))
 (.skip))))
 (rg [mo 10 (.move (T 5)),
 mo 11 (.binOp .add 3 (T 10) (.const (.int .i64 1)) 3),
 mo 5 (.assign (T 11))]))))))
 (.seq (rg [mo 4 (.assign (.const (.bool false)))])
 (.ret)))
theorem body_84:Try.f84.body.map strip=some c84:=by kernel_rfl
theorem go_84:GoC Try.prog 84 19 c84 [(.tmp 4)]:=
 GoC.of (fn:=Try.f84) (by kernel_rfl) body_84 (by kernel_rfl) (by kernel_rfl) (by kernel_rfl)
noncomputable def o85_0:Array Oper:=drawn Try.f85 0
def g85_0:List (Nat × Tmp × TypeId):=[]
def q85_0:List YO:=[.s 0 (mo 18 (.move (T 0))),
 .s 1 (mo 19 (.nilCheck (T 18))),
 .s 2 (mo 20 (.fieldAddr 87 (T 19) 3)),
 .s 3 (mo 21 (.load 30 (T 20))),
 .s 4 (mo 22 (.move (T 6))),
 .s 5 (mo 23 (.indexAddr 30 (T 21) (T 22))),
 .s 6 (mo 24 (.fieldAddr 51 (T 23) 0)),
 .s 7 (mo 25 (.load 44 (T 24))),
 .s 8 (mo 26 (.load 44 (T 3))),
 .s 9 (mo 27 (.binOp .eql 44 (T 25) (T 26) 44))]
def l85_0:List Oper:=[mo 18 (.move (T 0)),
 mo 19 (.nilCheck (T 18)),
 mo 20 (.fieldAddr 87 (T 19) 3),
 mo 21 (.load 30 (T 20)),
 mo 22 (.move (T 6)),
 mo 23 (.indexAddr 30 (T 21) (T 22)),
 mo 24 (.fieldAddr 51 (T 23) 0),
 mo 25 (.load 44 (T 24)),
 mo 26 (.load 44 (T 3)),
 mo 27 (.binOp .eql 44 (T 25) (T 26) 44)]
noncomputable def r85_0:Code:=.region 4 o85_0 true
theorem xr_85_0 {Q:DExit→St→Prop} {s:St}:xs Try.prog 72 r85_0 Q s=NC Try.prog 72 r85_0 Q s:=rfl
theorem yr_85_0 {Q:DExit→St→Prop} {s:St} (hdf:s.df=[]) (h:YG Try.prog (YD Try.prog l85_0.toArray Q q85_0) g85_0 s []):NC Try.prog 72 r85_0 Q s:=
 NC.yd (l:=l85_0) (b:=[0,1,3,7,0,31,63,127,0,511]) (by kernel_rfl) (by kernel_rfl) (by kernel_rfl) (by kernel_rfl) (by kernel_rfl) (by kernel_rfl) (by kernel_rfl) (by kernel_rfl) hdf h
attribute [go_sem] xr_85_0
noncomputable def o85_1:Array Oper:=drawn Try.f85 1
def g85_1:List (Nat × Tmp × TypeId):=[]
def q85_1:List YO:=[.s 0 (mo 28 (.move (T 0))),
 .s 1 (mo 29 (.nilCheck (T 28))),
 .s 2 (mo 30 (.fieldAddr 87 (T 29) 3)),
 .s 3 (mo 31 (.load 30 (T 30))),
 .s 4 (mo 32 (.move (T 6))),
 .s 5 (mo 33 (.indexAddr 30 (T 31) (T 32))),
 .s 6 (mo 34 (.fieldAddr 51 (T 33) 1)),
 .s 7 (mo 35 (.load 2 (T 34))),
 .s 8 (mo 36 (.move (T 0))),
 .s 9 (mo 37 (.nilCheck (T 36))),
 .s 10 (mo 38 (.fieldAddr 87 (T 37) 3)),
 .s 11 (mo 39 (.load 30 (T 38))),
 .s 12 (mo 40 (.move (T 6))),
 .s 13 (mo 41 (.indexAddr 30 (T 39) (T 40))),
 .s 14 (mo 42 (.fieldAddr 51 (T 41) 2)),
 .s 15 (mo 43 (.load 4 (T 42))),
 .s 16 (mo 44 (.unOp .not 4 (T 43))),
 .s 17 (mo 4 (.assign (T 35))),
 .s 18 (mo 5 (.assign (T 44)))]
def l85_1:List Oper:=[mo 28 (.move (T 0)),
 mo 29 (.nilCheck (T 28)),
 mo 30 (.fieldAddr 87 (T 29) 3),
 mo 31 (.load 30 (T 30)),
 mo 32 (.move (T 6)),
 mo 33 (.indexAddr 30 (T 31) (T 32)),
 mo 34 (.fieldAddr 51 (T 33) 1),
 mo 35 (.load 2 (T 34)),
 mo 36 (.move (T 0)),
 mo 37 (.nilCheck (T 36)),
 mo 38 (.fieldAddr 87 (T 37) 3),
 mo 39 (.load 30 (T 38)),
 mo 40 (.move (T 6)),
 mo 41 (.indexAddr 30 (T 39) (T 40)),
 mo 42 (.fieldAddr 51 (T 41) 2),
 mo 43 (.load 4 (T 42)),
 mo 44 (.unOp .not 4 (T 43)),
 mo 4 (.assign (T 35)),
 mo 5 (.assign (T 44))]
noncomputable def r85_1:Code:=.region 5 o85_1 true
theorem xr_85_1 {Q:DExit→St→Prop} {s:St}:xs Try.prog 72 r85_1 Q s=NC Try.prog 72 r85_1 Q s:=rfl
theorem yr_85_1 {Q:DExit→St→Prop} {s:St} (hdf:s.df=[]) (h:YG Try.prog (YD Try.prog l85_1.toArray Q q85_1) g85_1 s []):NC Try.prog 72 r85_1 Q s:=
 NC.yd (l:=l85_1) (b:=[0,1,3,7,0,31,63,127,0,256,768,1792,0,7936,16128,32512,65280,255,262143]) (by kernel_rfl) (by kernel_rfl) (by kernel_rfl) (by kernel_rfl) (by kernel_rfl) (by kernel_rfl) (by kernel_rfl) (by kernel_rfl) hdf h
attribute [go_sem] xr_85_1
noncomputable def o85_2:Array Oper:=drawn Try.f85 2
def g85_2:List (Nat × Tmp × TypeId):=[]
def q85_2:List YO:=[.s 0 (mo 54 (.move (T 0))),
 .s 1 (mo 55 (.nilCheck (T 54))),
 .s 2 (mo 56 (.fieldAddr 87 (T 55) 1)),
 .s 3 (mo 57 (.load 27 (T 56))),
 .s 4 (mo 58 (.move (T 7))),
 .s 5 (mo 59 (.indexAddr 27 (T 57) (T 58))),
 .s 6 (mo 60 (.fieldAddr 46 (T 59) 0)),
 .s 7 (mo 61 (.load 44 (T 60))),
 .s 8 (mo 62 (.load 44 (T 3))),
 .s 9 (mo 63 (.binOp .eql 44 (T 61) (T 62) 44))]
def l85_2:List Oper:=[mo 54 (.move (T 0)),
 mo 55 (.nilCheck (T 54)),
 mo 56 (.fieldAddr 87 (T 55) 1),
 mo 57 (.load 27 (T 56)),
 mo 58 (.move (T 7)),
 mo 59 (.indexAddr 27 (T 57) (T 58)),
 mo 60 (.fieldAddr 46 (T 59) 0),
 mo 61 (.load 44 (T 60)),
 mo 62 (.load 44 (T 3)),
 mo 63 (.binOp .eql 44 (T 61) (T 62) 44)]
noncomputable def r85_2:Code:=.region 9 o85_2 true
theorem xr_85_2 {Q:DExit→St→Prop} {s:St}:xs Try.prog 72 r85_2 Q s=NC Try.prog 72 r85_2 Q s:=rfl
theorem yr_85_2 {Q:DExit→St→Prop} {s:St} (hdf:s.df=[]) (h:YG Try.prog (YD Try.prog l85_2.toArray Q q85_2) g85_2 s []):NC Try.prog 72 r85_2 Q s:=
 NC.yd (l:=l85_2) (b:=[0,1,3,7,0,31,63,127,0,511]) (by kernel_rfl) (by kernel_rfl) (by kernel_rfl) (by kernel_rfl) (by kernel_rfl) (by kernel_rfl) (by kernel_rfl) (by kernel_rfl) hdf h
attribute [go_sem] xr_85_2
noncomputable def c85:Code:=
 .seq (rg [mo 3 (.box 44 (T 1)),
 mo 4 (.assign (.const (.int .i64 0))),
 mo 5 (.assign (.const (.bool false)))])
 (.seq (.seq (rg [mo 8 (.move (T 0)),
 mo 9 (.nilCheck (T 8)),
 mo 10 (.fieldAddr 87 (T 9) 3),
 mo 11 (.load 30 (T 10)),
 mo 12 (.call ⟨(.builtin .len),#[(T 11)],#[30]⟩),
 mo 13 (.binOp .sub 3 (T 12) (.const (.int .i64 1)) 3),
 mo 6 (.assign (T 13))])
 (.block 0 (.loop (.seq (.seq (rg [mo 14 (.move (T 6)),
 mo 15 (.binOp .geq 3 (T 14) (.const (.int .i64 0)) 3)])
 (.cond (T 15) (.skip)
 (.exit 0)))
 (.seq (.block 1 (.seq (r85_0)
 (.cond (T 27) (.seq (r85_1)
 (.ret))
 (.skip))))
 (rg [mo 16 (.move (T 6)),
 mo 17 (.binOp .sub 3 (T 16) (.const (.int .i64 1)) 3),
 mo 6 (.assign (T 17))]))))))
 (.seq (.seq (rg [mo 7 (.assign (.const (.int .i64 0)))])
 (.block 2 (.loop (.seq (.seq (rg [mo 45 (.move (T 7)),
 mo 46 (.move (T 0)),
 mo 47 (.nilCheck (T 46)),
 mo 48 (.fieldAddr 87 (T 47) 1),
 mo 49 (.load 27 (T 48)),
 mo 50 (.call ⟨(.builtin .len),#[(T 49)],#[27]⟩),
 mo 51 (.binOp .lss 3 (T 45) (T 50) 3)])
 (.cond (T 51) (.skip)
 (.exit 2)))
 (.seq (.block 3 (.seq (r85_2)
 (.cond (T 63) (.seq (rg [mo 64 (.move (T 0)),
 mo 65 (.nilCheck (T 64)),
 mo 66 (.fieldAddr 87 (T 65) 1),
 mo 67 (.load 27 (T 66)),
 mo 68 (.move (T 7)),
 mo 69 (.indexAddr 27 (T 67) (T 68)),
 mo 70 (.fieldAddr 46 (T 69) 1),
 mo 71 (.load 2 (T 70)),
 mo 4 (.assign (T 71)),
 mo 5 (.assign (.const (.bool true)))])
 (.ret))
 (.skip))))
 (rg [mo 52 (.move (T 7)),
 mo 53 (.binOp .add 3 (T 52) (.const (.int .i64 1)) 3),
 mo 7 (.assign (T 53))]))))))
 (.seq (rg [mo 4 (.assign (.const (.int .i64 0))),
 mo 5 (.assign (.const (.bool false)))])
 (.ret))))
theorem body_85:Try.f85.body.map strip=some c85:=by kernel_rfl
theorem go_85:GoC Try.prog 85 72 c85 [(.tmp 4),(.tmp 5)]:=
 GoC.of (fn:=Try.f85) (by kernel_rfl) body_85 (by kernel_rfl) (by kernel_rfl) (by kernel_rfl)
def c86:Code:=
 .seq (rg [mo 2 (.assign (.const (.slice none 0 0)))])
 (.seq (rg [mo 3 (.move (T 0)),
 mo 4 (.call ⟨(.value (.func 96)),#[(.const (.slice none 0 0)),(T 3)],#[24,119]⟩),
 mo 2 (.assign (T 4))])
 (.ret))
theorem body_86:Try.f86.body.map strip=some c86:=by kernel_rfl
theorem go_86:GoC Try.prog 86 5 c86 [(.tmp 2)]:=
 GoC.of (fn:=Try.f86) (by kernel_rfl) body_86 (by kernel_rfl) (by kernel_rfl) (by kernel_rfl)
def c87:Code:=
 .seq (rg [mo 4 (.load 64 (T 1)),
 mo 5 (.range 64 (T 4))])
 (.block 0 (.loop (.seq (rg [mo 6 (.next (T 5) false),
 mo 7 (.extract (T 6) 0)])
 (.seq (.cond (T 7) (.skip)
 (.exit 0))
 (.block 1 (.seq (rg [mo 8 (.entry (T 5)),
 mo 9 (.extract (T 8) 0),
 mo 3 (.alloc 44),
 mx (.store 44 (T 3) (T 9))])
 (.seq (rg [mo 10 (.move (T 0)),
 mo 11 (.load 44 (T 3)),
 mo 12 (.call ⟨(.value (T 10)),#[(T 11)],#[44]⟩),
 mo 13 (.unOp .not 4 (T 12))])
 (.cond (T 13) (.ret)
 (.skip)))))))))
theorem body_87:Try.f87.body.map strip=some c87:=by kernel_rfl
theorem go_87:GoC Try.prog 87 14 c87 []:=
 GoC.of (fn:=Try.f87) (by kernel_rfl) body_87 (by kernel_rfl) (by kernel_rfl) (by kernel_rfl)
def c88:Code:=
 .seq (rg [mo 2 (.assign (.const (.int .i64 0)))])
 (.seq (rg [mo 3 (.assign (.const (.int .i64 0)))])
 (.seq (.seq (rg [mo 6 (.move (T 0)),
 mo 7 (.call ⟨(.builtin .len),#[(T 6)],#[138]⟩),
 mo 8 (.move (.const (.int .i64 0)))])
 (.block 0 (.loop (.seq (rg [mo 9 (.binOp .lss 3 (T 8) (T 7) 3)])
 (.seq (.cond (T 9) (.skip)
 (.exit 0))
 (.seq (.block 1 (.seq (rg [mo 10 (.indexAddr 138 (T 6) (T 8)),
 mo 11 (.load 3 (T 10)),
 mo 5 (.assign (T 11))])
 (.seq (rg [mo 12 (.move (T 5)),
 mo 13 (.move (T 3)),
 mo 14 (.binOp .neq 3 (T 12) (T 13) 3)])
 (.cond (T 14) (.seq (rg [mo 15 (.move (T 5)),
 mo 2 (.assign (T 15))])
 (.ret))
 (.skip)))))
 (rg [mo 16 (.binOp .add 3 (T 8) (.const (.int .i64 1)) 3),
 mo 8 (.move (T 16))])))))))
 (.seq (rg [mo 17 (.move (T 3)),
 mo 2 (.assign (T 17))])
 (.ret))))
theorem body_88:Try.f88.body.map strip=some c88:=by kernel_rfl
theorem go_88:GoC Try.prog 88 18 c88 [(.tmp 2)]:=
 GoC.of (fn:=Try.f88) (by kernel_rfl) body_88 (by kernel_rfl) (by kernel_rfl) (by kernel_rfl)
def c89:Code:=
 .seq (rg [mo 4 (.assign (.const (.int .i64 0)))])
 (.seq (rg [mo 7 (.move (T 0)),
 mo 8 (.call ⟨(.value (.func 97)),#[(T 7)],#[21]⟩),
 mo 5 (.assign (T 8))])
 (.seq (rg [mo 9 (.move (T 1)),
 mo 10 (.call ⟨(.value (.func 97)),#[(T 9)],#[21]⟩),
 mo 6 (.assign (T 10))])
 (.seq (.seq (rg [mo 11 (.move (T 5))])
 (.cond (T 11) (.seq (.seq (rg [mo 12 (.move (T 6))])
 (.cond (T 12) (.seq (rg [mo 4 (.assign (.const (.int .i64 0)))])
 (.ret))
 (.skip)))
 (.seq (rg [mo 4 (.assign (.const (.int .i64 (-1))))])
 (.ret)))
 (.skip)))
 (.seq (.seq (rg [mo 13 (.move (T 6))])
 (.cond (T 13) (.seq (rg [mo 4 (.assign (.const (.int .i64 1)))])
 (.ret))
 (.skip)))
 (.seq (.seq (rg [mo 14 (.move (T 0)),
 mo 15 (.move (T 1)),
 mo 16 (.binOp .lss 21 (T 14) (T 15) 21)])
 (.cond (T 16) (.seq (rg [mo 4 (.assign (.const (.int .i64 (-1))))])
 (.ret))
 (.skip)))
 (.seq (.seq (rg [mo 17 (.move (T 0)),
 mo 18 (.move (T 1)),
 mo 19 (.binOp .gtr 21 (T 17) (T 18) 21)])
 (.cond (T 19) (.seq (rg [mo 4 (.assign (.const (.int .i64 1)))])
 (.ret))
 (.skip)))
 (.seq (rg [mo 4 (.assign (.const (.int .i64 0)))])
 (.ret))))))))
theorem body_89:Try.f89.body.map strip=some c89:=by kernel_rfl
theorem go_89:GoC Try.prog 89 20 c89 [(.tmp 4)]:=
 GoC.of (fn:=Try.f89) (by kernel_rfl) body_89 (by kernel_rfl) (by kernel_rfl) (by kernel_rfl)
def c90:Code:=
 .seq (rg [mo 4 (.assign (.const (.int .i64 0)))])
 (.seq (rg [mo 7 (.move (T 0)),
 mo 8 (.call ⟨(.value (.func 98)),#[(T 7)],#[2]⟩),
 mo 5 (.assign (T 8))])
 (.seq (rg [mo 9 (.move (T 1)),
 mo 10 (.call ⟨(.value (.func 98)),#[(T 9)],#[2]⟩),
 mo 6 (.assign (T 10))])
 (.seq (.seq (rg [mo 11 (.move (T 5))])
 (.cond (T 11) (.seq (.seq (rg [mo 12 (.move (T 6))])
 (.cond (T 12) (.seq (rg [mo 4 (.assign (.const (.int .i64 0)))])
 (.ret))
 (.skip)))
 (.seq (rg [mo 4 (.assign (.const (.int .i64 (-1))))])
 (.ret)))
 (.skip)))
 (.seq (.seq (rg [mo 13 (.move (T 6))])
 (.cond (T 13) (.seq (rg [mo 4 (.assign (.const (.int .i64 1)))])
 (.ret))
 (.skip)))
 (.seq (.seq (rg [mo 14 (.move (T 0)),
 mo 15 (.move (T 1)),
 mo 16 (.binOp .lss 2 (T 14) (T 15) 2)])
 (.cond (T 16) (.seq (rg [mo 4 (.assign (.const (.int .i64 (-1))))])
 (.ret))
 (.skip)))
 (.seq (.seq (rg [mo 17 (.move (T 0)),
 mo 18 (.move (T 1)),
 mo 19 (.binOp .gtr 2 (T 17) (T 18) 2)])
 (.cond (T 19) (.seq (rg [mo 4 (.assign (.const (.int .i64 1)))])
 (.ret))
 (.skip)))
 (.seq (rg [mo 4 (.assign (.const (.int .i64 0)))])
 (.ret))))))))
theorem body_90:Try.f90.body.map strip=some c90:=by kernel_rfl
theorem go_90:GoC Try.prog 90 20 c90 [(.tmp 4)]:=
 GoC.of (fn:=Try.f90) (by kernel_rfl) body_90 (by kernel_rfl) (by kernel_rfl) (by kernel_rfl)
noncomputable def o91_0:Array Oper:=drawn Try.f91 0
noncomputable def r91_0:Code:=.region 17 o91_0 true
noncomputable def c91:Code:=
 .seq (rg [mo 10 (.assign (.const (.bool true)))])
 (.seq (rg [mo 11 (.assign (.const (.bool true)))])
 (.block 0 (.loop (.block 1 (.seq (rg [mo 21 (.move (T 2)),
 mo 22 (.move (T 1)),
 mo 23 (.binOp .sub 3 (T 21) (T 22) 3),
 mo 12 (.assign (T 23))])
 (.seq (.seq (rg [mo 24 (.move (T 12)),
 mo 25 (.binOp .leq 3 (T 24) (.const (.int .i64 12)) 3)])
 (.cond (T 25) (.seq (rg [mo 26 (.move (T 0)),
 mo 27 (.move (T 1)),
 mo 28 (.move (T 2)),
 mo 29 (.move (T 4)),
 mo 30 (.call ⟨(.value (.func 99)),#[(T 26),(T 27),(T 28),(T 29)],#[24,3,3,121]⟩)])
 (.ret))
 (.skip)))
 (.seq (.seq (rg [mo 31 (.move (T 3)),
 mo 32 (.binOp .eql 3 (T 31) (.const (.int .i64 0)) 3)])
 (.cond (T 32) (.seq (rg [mo 33 (.move (T 0)),
 mo 34 (.move (T 1)),
 mo 35 (.move (T 2)),
 mo 36 (.move (T 4)),
 mo 37 (.call ⟨(.value (.func 100)),#[(T 33),(T 34),(T 35),(T 36)],#[24,3,3,121]⟩)])
 (.ret))
 (.skip)))
 (.seq (.seq (rg [mo 38 (.move (T 10)),
 mo 39 (.unOp .not 4 (T 38))])
 (.cond (T 39) (.seq (rg [mo 40 (.move (T 0)),
 mo 41 (.move (T 1)),
 mo 42 (.move (T 2)),
 mo 43 (.move (T 4)),
 mo 44 (.call ⟨(.value (.func 101)),#[(T 40),(T 41),(T 42),(T 43)],#[24,3,3,121]⟩)])
 (rg [mo 45 (.move (T 3)),
 mo 46 (.binOp .sub 3 (T 45) (.const (.int .i64 1)) 3),
 mo 3 (.assign (T 46))]))
 (.skip)))
 (.seq (rg [mo 48 (.move (T 0)),
 mo 49 (.move (T 1)),
 mo 50 (.move (T 2)),
 mo 51 (.move (T 4)),
 mo 52 (.call ⟨(.value (.func 102)),#[(T 48),(T 49),(T 50),(T 51)],#[24,3,3,121]⟩),
 mo 47 (.move (T 52)),
 mo 53 (.extract (T 47) 0),
 mo 54 (.extract (T 47) 1),
 mo 13 (.assign (T 53)),
 mo 14 (.assign (T 54))])
 (.seq (.seq (rg [mo 55 (.move (T 14)),
 mo 56 (.binOp .eql 142 (T 55) (.const (.int .i64 2)) 142)])
 (.cond (T 56) (.seq (rg [mo 57 (.move (T 0)),
 mo 58 (.move (T 1)),
 mo 59 (.move (T 2)),
 mo 60 (.move (T 4)),
 mo 61 (.call ⟨(.value (.func 103)),#[(T 57),(T 58),(T 59),(T 60)],#[24,3,3,121]⟩)])
 (.seq (rg [mo 62 (.move (T 2)),
 mo 63 (.binOp .sub 3 (T 62) (.const (.int .i64 1)) 3),
 mo 64 (.move (T 13)),
 mo 65 (.move (T 1)),
 mo 66 (.binOp .sub 3 (T 64) (T 65) 3),
 mo 67 (.binOp .sub 3 (T 63) (T 66) 3),
 mo 13 (.assign (T 67))])
 (rg [mo 14 (.assign (.const (.int .i64 1)))])))
 (.skip)))
 (.seq (.seq (rg [mo 68 (.move (T 10)),
 mo 69 (.move (T 68)),
 mg 70 1 true (.move (T 11)),
 mo 71 (.pick (T 69) (T 70) (.const (.bool false))),
 mo 72 (.move (T 71)),
 mg 73 4 true (.move (T 14)),
 mg 74 4 true (.binOp .eql 142 (T 73) (.const (.int .i64 1)) 142),
 mo 75 (.pick (T 72) (T 74) (.const (.bool false)))])
 (.cond (T 75) (.seq (rg [mo 76 (.move (T 0)),
 mo 77 (.move (T 1)),
 mo 78 (.move (T 2)),
 mo 79 (.move (T 4)),
 mo 80 (.call ⟨(.value (.func 104)),#[(T 76),(T 77),(T 78),(T 79)],#[24,3,3,121]⟩)])
 (.cond (T 80) (.ret)
 (.skip)))
 (.skip)))
 (.seq (.seq (r91_0)
 (.cond (T 97) (.seq (rg [mo 98 (.move (T 0)),
 mo 99 (.move (T 1)),
 mo 100 (.move (T 2)),
 mo 101 (.move (T 13)),
 mo 102 (.move (T 4)),
 mo 103 (.call ⟨(.value (.func 105)),#[(T 98),(T 99),(T 100),(T 101),(T 102)],#[24,3,3,3,121]⟩),
 mo 15 (.assign (T 103))])
 (.seq (rg [mo 104 (.move (T 15)),
 mo 1 (.assign (T 104))])
 (.exit 1)))
 (.skip)))
 (.seq (rg [mo 106 (.move (T 0)),
 mo 107 (.move (T 1)),
 mo 108 (.move (T 2)),
 mo 109 (.move (T 13)),
 mo 110 (.move (T 4)),
 mo 111 (.call ⟨(.value (.func 106)),#[(T 106),(T 107),(T 108),(T 109),(T 110)],#[24,3,3,3,121]⟩),
 mo 105 (.move (T 111)),
 mo 112 (.extract (T 105) 0),
 mo 113 (.extract (T 105) 1),
 mo 16 (.assign (T 112)),
 mo 17 (.assign (T 113))])
 (.seq (rg [mo 114 (.move (T 17)),
 mo 11 (.assign (T 114))])
 (.seq (rg [mo 115 (.move (T 16)),
 mo 116 (.move (T 1)),
 mo 117 (.binOp .sub 3 (T 115) (T 116) 3),
 mo 118 (.move (T 2)),
 mo 119 (.move (T 16)),
 mo 120 (.binOp .sub 3 (T 118) (T 119) 3),
 mo 18 (.assign (T 117)),
 mo 19 (.assign (T 120))])
 (.seq (rg [mo 121 (.move (T 12)),
 mo 122 (.binOp .quo 3 (T 121) (.const (.int .i64 8)) 3),
 mo 20 (.assign (T 122))])
 (.seq (rg [mo 123 (.move (T 18)),
 mo 124 (.move (T 19)),
 mo 125 (.binOp .lss 3 (T 123) (T 124) 3)])
 (.cond (T 125) (.seq (rg [mo 126 (.move (T 18)),
 mo 127 (.move (T 20)),
 mo 128 (.binOp .geq 3 (T 126) (T 127) 3),
 mo 10 (.assign (T 128))])
 (.seq (rg [mo 129 (.move (T 0)),
 mo 130 (.move (T 1)),
 mo 131 (.move (T 16)),
 mo 132 (.move (T 3)),
 mo 133 (.move (T 4)),
 mo 134 (.call ⟨(.value (.func 91)),#[(T 129),(T 130),(T 131),(T 132),(T 133)],#[24,3,3,3,121]⟩)])
 (rg [mo 135 (.move (T 16)),
 mo 136 (.binOp .add 3 (T 135) (.const (.int .i64 1)) 3),
 mo 1 (.assign (T 136))])))
 (.seq (rg [mo 137 (.move (T 19)),
 mo 138 (.move (T 20)),
 mo 139 (.binOp .geq 3 (T 137) (T 138) 3),
 mo 10 (.assign (T 139))])
 (.seq (rg [mo 140 (.move (T 0)),
 mo 141 (.move (T 16)),
 mo 142 (.binOp .add 3 (T 141) (.const (.int .i64 1)) 3),
 mo 143 (.move (T 2)),
 mo 144 (.move (T 3)),
 mo 145 (.move (T 4)),
 mo 146 (.call ⟨(.value (.func 91)),#[(T 140),(T 142),(T 143),(T 144),(T 145)],#[24,3,3,3,121]⟩)])
 (rg [mo 147 (.move (T 16)),
 mo 2 (.assign (T 147))])))))))))))))))))))))
theorem body_91:Try.f91.body.map strip=some c91:=by kernel_rfl
theorem go_91:GoC Try.prog 91 148 c91 []:=
 GoC.of (fn:=Try.f91) (by kernel_rfl) body_91 (by kernel_rfl) (by kernel_rfl) (by kernel_rfl)
def c92:Code:=
 .seq (rg [mo 2 (.assign (.const (.int .i64 0)))])
 (.seq (.cond (.const (.bool false)) (.seq (rg [mo 3 (.move (T 0)),
 mo 4 (.convert 96 149 (T 3)),
 mo 5 (.call ⟨(.value (.func 107)),#[(T 4)],#[149]⟩),
 mo 2 (.assign (T 5))])
 (.ret))
 (.skip))
 (.seq (rg [mo 6 (.move (T 0)),
 mo 7 (.call ⟨(.value (.func 108)),#[(T 6)],#[92]⟩),
 mo 2 (.assign (T 7))])
 (.ret)))
theorem body_92:Try.f92.body.map strip=some c92:=by kernel_rfl
theorem go_92:GoC Try.prog 92 8 c92 [(.tmp 2)]:=
 GoC.of (fn:=Try.f92) (by kernel_rfl) body_92 (by kernel_rfl) (by kernel_rfl) (by kernel_rfl)
def c93:Code:=
 .seq (rg [mo 2 (.assign (.const (.int .i64 0))),
 mo 3 (.assign (.const (.bool false)))])
 (.seq (rg [mo 10 (.move (T 0)),
 mo 11 (.call ⟨(.value (.func 94)),#[(T 10)],#[3]⟩),
 mo 9 (.move (T 11)),
 mo 12 (.extract (T 9) 0),
 mo 13 (.extract (T 9) 1),
 mo 4 (.assign (T 12)),
 mo 5 (.assign (T 13))])
 (.seq (.seq (rg [mo 14 (.move (T 5)),
 mo 15 (.unOp .not 4 (T 14))])
 (.cond (T 15) (.seq (rg [mo 2 (.assign (.const (.int .i64 0))),
 mo 3 (.assign (.const (.bool false)))])
 (.ret))
 (.skip)))
 (.seq (rg [mo 6 (.assign (.const (.int .i64 1)))])
 (.seq (.seq (rg [mo 16 (.build 151 #[(0,(.const (.int .i64 1))),(1,(.const (.int .i64 1)))]),
 mo 17 (.build 151 #[(0,(.const (.int .i64 2))),(1,(.const (.int .i64 1)))]),
 mo 18 (.build 151 #[(0,(.const (.int .i64 4))),(1,(.const (.int .i64 1)))]),
 mo 19 (.build 151 #[(0,(.const (.int .i64 8))),(1,(.const (.int .i64 2)))]),
 mo 20 (.build 151 #[(0,(.const (.int .i64 16))),(1,(.const (.int .i64 2)))]),
 mo 21 (.build 152 #[(0,(T 16)),(1,(T 17)),(2,(T 18)),(3,(T 19)),(4,(T 20))]),
 mo 22 (.move (.const (.int .i64 0)))])
 (.block 0 (.loop (.seq (rg [mo 23 (.binOp .lss 3 (T 22) (.const (.int .i64 5)) 3)])
 (.seq (.cond (T 23) (.skip)
 (.exit 0))
 (.seq (.block 1 (.seq (rg [mo 24 (.index 152 (T 21) (T 22)),
 mo 8 (.alloc 151),
 mx (.store 151 (T 8) (T 24))])
 (.seq (rg [mo 25 (.move (T 4)),
 mo 26 (.indexAddr 151 (T 8) (.const (.int .i64 0))),
 mo 27 (.load 3 (T 26)),
 mo 28 (.binOp .and 3 (T 25) (T 27) 3),
 mo 29 (.binOp .neq 3 (T 28) (.const (.int .i64 0)) 3)])
 (.cond (T 29) (rg [mo 30 (.move (T 6)),
 mo 31 (.indexAddr 151 (T 8) (.const (.int .i64 1))),
 mo 32 (.load 3 (T 31)),
 mo 33 (.binOp .add 3 (T 30) (T 32) 3),
 mo 6 (.assign (T 33))])
 (.skip)))))
 (rg [mo 34 (.binOp .add 3 (T 22) (.const (.int .i64 1)) 3),
 mo 22 (.move (T 34))])))))))
 (.seq (rg [mo 35 (.move (T 6)),
 mo 2 (.assign (T 35)),
 mo 3 (.assign (.const (.bool true)))])
 (.ret))))))
theorem body_93:Try.f93.body.map strip=some c93:=by kernel_rfl
theorem go_93:GoC Try.prog 93 36 c93 [(.tmp 2),(.tmp 3)]:=
 GoC.of (fn:=Try.f93) (by kernel_rfl) body_93 (by kernel_rfl) (by kernel_rfl) (by kernel_rfl)
def c94:Code:=
 .seq (rg [mo 2 (.assign (.const (.int .i64 0))),
 mo 3 (.assign (.const (.bool false)))])
 (.seq (rg [mo 5 (.build 153 #[(0,(.const (.int .i64 0))),(1,(.const (.int .i64 9))),(2,(.const (.int .i64 5))),(3,(.const (.int .i64 5))),(4,(.const (.int .i64 5))),(5,(.const (.int .i64 5))),(6,(.const (.int .i64 4))),(7,(.const (.int .i64 3))),(8,(.const (.int .i64 3))),(9,(.const (.int .i64 3))),(10,(.const (.int .i64 3))),(11,(.const (.int .i64 3))),(12,(.const (.int .i64 3))),(13,(.const (.int .i64 3))),(14,(.const (.int .i64 3))),(15,(.const (.int .i64 3))),(16,(.const (.int .i64 3))),(17,(.const (.int .i64 3))),(18,(.const (.int .i64 3))),(19,(.const (.int .i64 5))),(20,(.const (.int .i64 3))),(21,(.const (.int .i64 3))),(22,(.const (.int .i64 16))),(23,(.const (.int .i64 17))),(24,(.const (.int .i64 1))),(25,(.const (.int .i64 4))),(26,(.const (.int .i64 7))),(27,(.const (.int .i64 7)))]),
 mo 4 (.alloc 153),
 mx (.store 153 (T 4) (T 5))])
 (.seq (.seq (rg [mo 6 (.move (T 0)),
 mo 7 (.binOp .lss 3 (T 6) (.const (.int .i64 0)) 3),
 mo 8 (.move (T 7)),
 mg 9 2 false (.move (T 0)),
 mg 10 2 false (.binOp .geq 3 (T 9) (.const (.int .i64 28)) 3),
 mo 11 (.pick (T 8) (.const (.bool true)) (T 10))])
 (.cond (T 11) (.seq (rg [mo 2 (.assign (.const (.int .i64 0))),
 mo 3 (.assign (.const (.bool false)))])
 (.ret))
 (.skip)))
 (.seq (rg [mo 12 (.move (T 0)),
 mo 13 (.indexAddr 153 (T 4) (T 12)),
 mo 14 (.load 3 (T 13)),
 mo 2 (.assign (T 14)),
 mo 3 (.assign (.const (.bool true)))])
 (.ret))))
theorem body_94:Try.f94.body.map strip=some c94:=by kernel_rfl
theorem go_94:GoC Try.prog 94 15 c94 [(.tmp 2),(.tmp 3)]:=
 GoC.of (fn:=Try.f94) (by kernel_rfl) body_94 (by kernel_rfl) (by kernel_rfl) (by kernel_rfl)
def c95:Code:=
 .seq (rg [mo 1 (.box 83 (T 0)),
 mo 2 (.assign (.const (.bool false)))])
 (.seq (rg [mo 3 (.fieldAddr 83 (T 1) 2),
 mo 4 (.load 3 (T 3)),
 mo 5 (.binOp .geq 3 (T 4) (.const (.int .i64 0)) 3),
 mo 6 (.move (T 5)),
 mg 7 3 true (.fieldAddr 83 (T 1) 2),
 mg 8 3 true (.load 3 (T 7)),
 mg 9 3 true (.binOp .lss 3 (T 8) (.const (.int .i64 8)) 3),
 mo 10 (.pick (T 6) (T 9) (.const (.bool false))),
 mo 11 (.move (T 10)),
 mg 12 8 true (.fieldAddr 83 (T 1) 3),
 mg 13 8 true (.load 3 (T 12)),
 mg 14 8 true (.binOp .geq 3 (T 13) (.const (.int .i64 0)) 3),
 mo 15 (.pick (T 11) (T 14) (.const (.bool false))),
 mo 16 (.move (T 15)),
 mg 17 13 true (.fieldAddr 83 (T 1) 3),
 mg 18 13 true (.load 3 (T 17)),
 mg 19 13 true (.binOp .lss 3 (T 18) (.const (.int .i64 8)) 3),
 mo 20 (.pick (T 16) (T 19) (.const (.bool false))),
 mo 21 (.move (T 20)),
 mg 22 18 true (.fieldAddr 83 (T 1) 1),
 mg 23 18 true (.load 3 (T 22)),
 mg 24 18 true (.binOp .neq 3 (T 23) (.const (.int .i64 19)) 3),
 mg 25 18 true (.move (T 24)),
 mg 26 22 false (.fieldAddr 83 (T 1) 4),
 mg 27 22 false (.load 2 (T 26)),
 mg 28 22 false (.binOp .eql 2 (T 27) (.const (.int .i64 8)) 2),
 mg 29 18 true (.pick (T 25) (.const (.bool true)) (T 28)),
 mg 30 18 true (.move (T 29)),
 mg 31 27 false (.fieldAddr 83 (T 1) 4),
 mg 32 27 false (.load 2 (T 31)),
 mg 33 27 false (.binOp .eql 2 (T 32) (.const (.int .i64 16)) 2),
 mg 34 18 true (.pick (T 30) (.const (.bool true)) (T 33)),
 mg 35 18 true (.move (T 34)),
 mg 36 32 false (.fieldAddr 83 (T 1) 4),
 mg 37 32 false (.load 2 (T 36)),
 mg 38 32 false (.binOp .eql 2 (T 37) (.const (.int .i64 32)) 2),
 mg 39 18 true (.pick (T 35) (.const (.bool true)) (T 38)),
 mo 40 (.pick (T 21) (T 39) (.const (.bool false))),
 mo 2 (.assign (T 40))])
 (.ret))
theorem body_95:Try.f95.body.map strip=some c95:=by kernel_rfl
theorem go_95:GoC Try.prog 95 41 c95 [(.tmp 2)]:=
 GoC.of (fn:=Try.f95) (by kernel_rfl) body_95 (by kernel_rfl) (by kernel_rfl) (by kernel_rfl)
def fa96_0:Code:=
 .region 2 #[⟨(some 5),(.alloc 44),0,"iter.go:51",#[],none⟩,
  ⟨none,(.store 44 (T 5) (T 7)),0,"iter.go:51",#[⟨0,.data⟩,⟨0,.phase⟩],none⟩] false
def fb96_0:Code:=
 .block 1 (.region 3 #[⟨(some 8),(.load 24 (T 2)),24,"iter.go:52",#[],none⟩,
  ⟨(some 9),(.load 44 (T 5)),44,"iter.go:52",#[],none⟩,
  ⟨(some 10),(.buildSlice 24 1 #[(0,(T 9))]),24,"iter.go:52",#[⟨1,.data⟩],none⟩,
  ⟨(some 11),(.call ⟨(.builtin .append),#[(T 8),(T 10)],#[24,24]⟩),24,"iter.go:52",#[⟨0,.data⟩,⟨2,.data⟩],none⟩,
  ⟨none,(.store 24 (T 2) (T 11)),0,"iter.go:52",#[⟨3,.data⟩,⟨3,.chain⟩,⟨0,.phase⟩,⟨1,.phase⟩,⟨2,.phase⟩,⟨3,.phase⟩],none⟩] false)
def sa96_0:Code:=
 rg [mo 5 (.alloc 44),
  mx (.store 44 (T 5) (T 7))]
def sb96_0:Code:=
 .block 1 (rg [mo 8 (.load 24 (T 2)),
  mo 9 (.load 44 (T 5)),
  mo 10 (.buildSlice 24 1 #[(0,(T 9))]),
  mo 11 (.call ⟨(.builtin .append),#[(T 8),(T 10)],#[24,24]⟩),
  mx (.store 24 (T 2) (T 11))])
theorem ta96_0:Go.D.strip fa96_0=sa96_0:=by kernel_rfl
theorem tb96_0:Go.D.strip fb96_0=sb96_0:=by kernel_rfl
noncomputable def c96:Code:=
 .seq (rg [mo 2 (.box 24 (T 0)),
 mo 4 (.assign (.const (.slice none 0 0)))])
 (.seq (.seq (rg [mo 6 (.move (T 1))])
 (.block 0 (.rangeFunc (T 6) #[7] fa96_0 fb96_0)))
 (.seq (rg [mo 12 (.load 24 (T 2)),
 mo 4 (.assign (T 12))])
 (.ret)))
theorem body_96:Try.f96.body.map strip=some c96:=by kernel_rfl
theorem go_96:GoC Try.prog 96 13 c96 [(.tmp 4)]:=
 GoC.of (fn:=Try.f96) (by kernel_rfl) body_96 (by kernel_rfl) (by kernel_rfl) (by kernel_rfl)
def c97:Code:=
 .seq (rg [mo 2 (.assign (.const (.bool false)))])
 (.seq (rg [mo 3 (.move (T 0)),
 mo 4 (.move (T 0)),
 mo 5 (.binOp .neq 21 (T 3) (T 4) 21),
 mo 2 (.assign (T 5))])
 (.ret))
theorem body_97:Try.f97.body.map strip=some c97:=by kernel_rfl
theorem go_97:GoC Try.prog 97 6 c97 [(.tmp 2)]:=
 GoC.of (fn:=Try.f97) (by kernel_rfl) body_97 (by kernel_rfl) (by kernel_rfl) (by kernel_rfl)
def c98:Code:=
 .seq (rg [mo 2 (.assign (.const (.bool false)))])
 (.seq (rg [mo 3 (.move (T 0)),
 mo 4 (.move (T 0)),
 mo 5 (.binOp .neq 2 (T 3) (T 4) 2),
 mo 2 (.assign (T 5))])
 (.ret))
theorem body_98:Try.f98.body.map strip=some c98:=by kernel_rfl
theorem go_98:GoC Try.prog 98 6 c98 [(.tmp 2)]:=
 GoC.of (fn:=Try.f98) (by kernel_rfl) body_98 (by kernel_rfl) (by kernel_rfl) (by kernel_rfl)
noncomputable def o99_0:Array Oper:=drawn Try.f99 0
noncomputable def r99_0:Code:=.region 4 o99_0 true
noncomputable def o99_1:Array Oper:=drawn Try.f99 1
noncomputable def r99_1:Code:=.region 6 o99_1 true
noncomputable def c99:Code:=
 .seq (rg [mo 10 (.move (T 1)),
 mo 11 (.binOp .add 3 (T 10) (.const (.int .i64 1)) 3),
 mo 8 (.assign (T 11))])
 (.block 0 (.loop (.seq (.seq (rg [mo 12 (.move (T 8)),
 mo 13 (.move (T 2)),
 mo 14 (.binOp .lss 3 (T 12) (T 13) 3)])
 (.cond (T 14) (.skip)
 (.exit 0)))
 (.seq (.block 1 (.seq (rg [mo 17 (.move (T 8)),
 mo 9 (.assign (T 17))])
 (.block 2 (.loop (.seq (.seq (r99_0)
 (.cond (T 34) (.skip)
 (.exit 2)))
 (.seq (.block 3 (r99_1))
 (rg [mo 35 (.move (T 9)),
 mo 36 (.binOp .sub 3 (T 35) (.const (.int .i64 1)) 3),
 mo 9 (.assign (T 36))])))))))
 (rg [mo 15 (.move (T 8)),
 mo 16 (.binOp .add 3 (T 15) (.const (.int .i64 1)) 3),
 mo 8 (.assign (T 16))])))))
theorem body_99:Try.f99.body.map strip=some c99:=by kernel_rfl
theorem go_99:GoC Try.prog 99 53 c99 []:=
 GoC.of (fn:=Try.f99) (by kernel_rfl) body_99 (by kernel_rfl) (by kernel_rfl) (by kernel_rfl)
end Go.Proofs.Ythjmkmoiopmfcaa

namespace Go.Proofs.Ythjmkmoiopmfcaa
open Go.D
set_option maxRecDepth 100000
def c36:Code:=
 .seq (rg [mo 0 (.alloc 26)])
 (.seq (rg [mo 2 (.build 44 #[(0,(.const (.int .i32 1))),(1,(.const (.int .i64 2)))]),
 mo 3 (.buildSlice 24 1 #[(0,(T 2))]),
 mo 1 (.assign (T 3))])
 (.seq (rg [mo 4 (.buildSlice 22 12 #[(0,(.const (.int .u8 1))),(1,(.const (.int .u8 0))),(2,(.const (.int .u8 7))),(3,(.const (.int .u8 0))),(4,(.const (.int .u8 5))),(5,(.const (.int .u8 0))),(6,(.const (.int .u8 0))),(7,(.const (.int .u8 3))),(8,(.const (.int .u8 1))),(9,(.const (.int .u8 0))),(10,(.const (.int .u8 24))),(11,(.const (.int .u8 1)))]),
 mo 5 (.move (T 1)),
 mo 6 (.move (T 1)),
 mo 7 (.build 26 #[(0,(.const (.int .i64 1))),(1,(.const (.int .i64 1))),(2,(T 4)),(4,(T 5)),(5,(T 6))]),
 mx (.store 26 (T 0) (T 7))])
 (.ret)))
theorem body_36:Try.f36.body.map strip=some c36:=by kernel_rfl
theorem go_36:GoC Try.prog 36 8 c36 [(.cell 0 26)]:=
 GoC.of (fn:=Try.f36) (by kernel_rfl) body_36 (by kernel_rfl) (by kernel_rfl) (by kernel_rfl)
noncomputable def o37_0:Array Oper:=drawn Try.f37 0
def l37_0:List Oper:=[mo 16 (.move (T 0)),
 mo 17 (.move (T 5)),
 mo 18 (.indexAddr 23 (T 16) (T 17)),
 mo 19 (.load 2 (T 18)),
 mo 20 (.move (T 1)),
 mo 21 (.move (T 5)),
 mo 22 (.indexAddr 23 (T 20) (T 21)),
 mo 23 (.load 2 (T 22)),
 mo 24 (.binOp .neq 2 (T 19) (T 23) 2)]
noncomputable def r37_0:Code:=.region 6 o37_0 true
theorem xr_37_0 {Q:DExit→St→Prop} {s:St}:xs Try.prog 26 r37_0 Q s=NC Try.prog 26 r37_0 Q s:=rfl
theorem dr_37_0 {Q:DExit→St→Prop} {s:St} (h:XDraw Try.prog l37_0.toArray (befs o37_0.toList []) [] s.fr Q l37_0 0 s []):NC Try.prog 26 r37_0 Q s:=
 NC.draw (by kernel_rfl) (by kernel_rfl) (by kernel_rfl) rfl (by kernel_rfl) (by kernel_rfl) h
attribute [go_sem] xr_37_0
noncomputable def c37:Code:=
 .seq (rg [mo 4 (.assign (.const (.bool false)))])
 (.seq (.seq (rg [mo 6 (.move (T 0)),
 mo 7 (.call ⟨(.builtin .len),#[(T 6)],#[23]⟩),
 mo 8 (.move (T 1)),
 mo 9 (.call ⟨(.builtin .len),#[(T 8)],#[23]⟩),
 mo 10 (.binOp .neq 3 (T 7) (T 9) 3)])
 (.cond (T 10) (.seq (rg [mo 4 (.assign (.const (.bool false)))])
 (.ret))
 (.skip)))
 (.seq (.seq (rg [mo 11 (.move (T 0)),
 mo 12 (.call ⟨(.builtin .len),#[(T 11)],#[23]⟩),
 mo 13 (.move (.const (.int .i64 0)))])
 (.block 0 (.loop (.seq (rg [mo 14 (.binOp .lss 3 (T 13) (T 12) 3)])
 (.seq (.cond (T 14) (.skip)
 (.exit 0))
 (.seq (.block 1 (.seq (rg [mo 15 (.move (T 13)),
 mo 5 (.assign (T 15))])
 (.seq (r37_0)
 (.cond (T 24) (.seq (rg [mo 4 (.assign (.const (.bool false)))])
 (.ret))
 (.skip)))))
 (rg [mo 25 (.binOp .add 3 (T 13) (.const (.int .i64 1)) 3),
 mo 13 (.move (T 25))])))))))
 (.seq (rg [mo 4 (.assign (.const (.bool true)))])
 (.ret))))
theorem body_37:Try.f37.body.map strip=some c37:=by kernel_rfl
theorem go_37:GoC Try.prog 37 26 c37 [(.tmp 4)]:=
 GoC.of (fn:=Try.f37) (by kernel_rfl) body_37 (by kernel_rfl) (by kernel_rfl) (by kernel_rfl)
noncomputable def o38_0:Array Oper:=drawn Try.f38 0
def g38_0:List (Nat × Tmp × TypeId):=[]
def q38_0:List YO:=[.s 0 (mo 17 (.move (T 0))),
 .s 1 (mo 18 (.move (T 5))),
 .s 2 (mo 19 (.indexAddr 23 (T 17) (T 18))),
 .s 3 (mo 20 (.load 2 (T 19))),
 .s 4 (mo 21 (.move (T 1))),
 .s 5 (mo 22 (.move (T 5))),
 .s 6 (mo 23 (.indexAddr 23 (T 21) (T 22))),
 .s 7 (mo 24 (.load 2 (T 23))),
 .s 8 (mo 25 (.binOp .neq 2 (T 20) (T 24) 2))]
def l38_0:List Oper:=[mo 17 (.move (T 0)),
 mo 18 (.move (T 5)),
 mo 19 (.indexAddr 23 (T 17) (T 18)),
 mo 20 (.load 2 (T 19)),
 mo 21 (.move (T 1)),
 mo 22 (.move (T 5)),
 mo 23 (.indexAddr 23 (T 21) (T 22)),
 mo 24 (.load 2 (T 23)),
 mo 25 (.binOp .neq 2 (T 20) (T 24) 2)]
noncomputable def r38_0:Code:=.region 6 o38_0 true
theorem xr_38_0 {Q:DExit→St→Prop} {s:St}:xs Try.prog 26 r38_0 Q s=NC Try.prog 26 r38_0 Q s:=rfl
theorem yr_38_0 {Q:DExit→St→Prop} {s:St} (hdf:s.df=[]) (h:YG Try.prog (YD Try.prog l38_0.toArray Q q38_0) g38_0 s []):NC Try.prog 26 r38_0 Q s:=
 NC.yd (l:=l38_0) (b:=[0,0,3,7,0,0,48,112,255]) (by kernel_rfl) (by kernel_rfl) (by kernel_rfl) (by kernel_rfl) (by kernel_rfl) (by kernel_rfl) (by kernel_rfl) (by kernel_rfl) hdf h
attribute [go_sem] xr_38_0
noncomputable def c38:Code:=
 .seq (rg [mo 4 (.assign (.const (.bool false)))])
 (.seq (.seq (rg [mo 6 (.move (T 0)),
 mo 7 (.call ⟨(.builtin .len),#[(T 6)],#[23]⟩),
 mo 8 (.move (T 1)),
 mo 9 (.call ⟨(.builtin .len),#[(T 8)],#[23]⟩),
 mo 10 (.binOp .neq 3 (T 7) (T 9) 3)])
 (.cond (T 10) (.seq (rg [mo 4 (.assign (.const (.bool false)))])
 (.ret))
 (.skip)))
 (.seq (.seq (rg [mo 5 (.assign (.const (.int .i64 0)))])
 (.block 0 (.loop (.seq (.seq (rg [mo 11 (.move (T 5)),
 mo 12 (.move (T 0)),
 mo 13 (.call ⟨(.builtin .len),#[(T 12)],#[23]⟩),
 mo 14 (.binOp .lss 3 (T 11) (T 13) 3)])
 (.cond (T 14) (.skip)
 (.exit 0)))
 (.seq (.block 1 (.seq (r38_0)
 (.cond (T 25) (.seq (rg [mo 4 (.assign (.const (.bool false)))])
 (.ret))
 (.skip))))
 (rg [mo 15 (.move (T 5)),
 mo 16 (.binOp .add 3 (T 15) (.const (.int .i64 1)) 3),
 mo 5 (.assign (T 16))]))))))
 (.seq (rg [mo 4 (.assign (.const (.bool true)))])
 (.ret))))
theorem body_38:Try.f38.body.map strip=some c38:=by kernel_rfl
theorem go_38:GoC Try.prog 38 26 c38 [(.tmp 4)]:=
 GoC.of (fn:=Try.f38) (by kernel_rfl) body_38 (by kernel_rfl) (by kernel_rfl) (by kernel_rfl)
def c39:Code:=
 .seq (rg [mo 2 (.alloc 74),
 mo 3 (.alloc 53)])
 (.seq (.seq (rg [mo 9 (.move (T 0)),
 mo 10 (.call ⟨(.builtin .len),#[(T 9)],#[22]⟩),
 mo 11 (.binOp .gtr 3 (T 10) (.const (.int .i64 512)) 3)])
 (.cond (T 11) (.seq (rg [mx (.store 74 (T 2) (.const (.slice none 0 0))),
 mx (.store 53 (T 3) (.const (.int .i64 3)))])
 (.ret))
 (.skip)))
 (.seq (rg [mo 12 (.makeFunc (.func 58) #[] #[(T 2),(T 3)]),
 mx (.defer ⟨(.value (T 12)),#[],#[]⟩)])
 (.seq (rg [mo 13 (.move (T 0)),
 mo 14 (.call ⟨(.value (.func 60)),#[(T 13)],#[22]⟩),
 mx (.store 74 (T 2) (T 14))])
 (.seq (rg [mo 15 (.makeMap 107 none),
 mo 4 (.assign (T 15))])
 (.seq (.seq (rg [mo 16 (.load 74 (T 2)),
 mo 17 (.call ⟨(.builtin .len),#[(T 16)],#[74]⟩),
 mo 18 (.move (.const (.int .i64 0)))])
 (.block 0 (.loop (.seq (rg [mo 19 (.binOp .lss 3 (T 18) (T 17) 3)])
 (.seq (.cond (T 19) (.skip)
 (.exit 0))
 (.seq (.block 1 (.seq (rg [mo 20 (.indexAddr 74 (T 16) (T 18)),
 mo 21 (.load 83 (T 20)),
 mo 6 (.alloc 83),
 mx (.store 83 (T 6) (T 21))])
 (rg [mo 22 (.move (T 4)),
 mo 23 (.fieldAddr 83 (T 6) 0),
 mo 24 (.load 3 (T 23)),
 mx (.mapUpdate 107 (T 22) (T 24) (.const (.bool true)))])))
 (rg [mo 25 (.binOp .add 3 (T 18) (.const (.int .i64 1)) 3),
 mo 18 (.move (T 25))])))))))
 (.seq (.seq (rg [mo 26 (.load 74 (T 2)),
 mo 27 (.call ⟨(.builtin .len),#[(T 26)],#[74]⟩),
 mo 28 (.move (.const (.int .i64 0)))])
 (.block 2 (.loop (.seq (rg [mo 29 (.binOp .lss 3 (T 28) (T 27) 3)])
 (.seq (.cond (T 29) (.skip)
 (.exit 2))
 (.seq (.block 3 (.seq (rg [mo 30 (.indexAddr 74 (T 26) (T 28)),
 mo 31 (.load 83 (T 30)),
 mo 8 (.alloc 83),
 mx (.store 83 (T 8) (T 31))])
 (.seq (rg [mo 32 (.load 83 (T 8)),
 mo 33 (.call ⟨(.value (.func 61)),#[(T 32)],#[83]⟩),
 mo 34 (.move (T 33)),
 mg 35 2 true (.move (T 4)),
 mg 36 2 true (.fieldAddr 83 (T 8) 4),
 mg 37 2 true (.load 2 (T 36)),
 mg 38 2 true (.lookup 107 (T 35) (T 37) false),
 mg 39 2 true (.unOp .not 4 (T 38)),
 mo 40 (.pick (T 34) (T 39) (.const (.bool false)))])
 (.cond (T 40) (rg [mo 41 (.call ⟨(.value (.func 62)),#[(.const (.int .i64 131))],#[53]⟩)])
 (.skip)))))
 (rg [mo 42 (.binOp .add 3 (T 28) (.const (.int .i64 1)) 3),
 mo 28 (.move (T 42))])))))))
 (.seq (rg [mo 43 (.load 74 (T 2)),
 mx (.store 74 (T 2) (T 43)),
 mx (.store 53 (T 3) (.const (.int .i64 0)))])
 (.ret))))))))
theorem body_39:Try.f39.body.map strip=some c39:=by kernel_rfl
theorem go_39:GoC Try.prog 39 44 c39 [(.cell 2 74),(.cell 3 53)]:=
 GoC.of (fn:=Try.f39) (by kernel_rfl) body_39 (by kernel_rfl) (by kernel_rfl) (by kernel_rfl)
noncomputable def o40_0:Array Oper:=drawn Try.f40 0
def g40_0:List (Nat × Tmp × TypeId):=[]
def q40_0:List YO:=[.s 0 (mo 15 (.move (T 0))),
 .s 1 (mo 16 (.fieldAddr 83 (T 3) 2)),
 .s 2 (mo 17 (.load 3 (T 16))),
 .s 3 (mo 18 (.nilCheck (T 15))),
 .s 4 (mo 19 (.fieldAddr 81 (T 18) 1)),
 .s 5 (mo 20 (.indexAddr 79 (T 19) (T 17))),
 .s 6 (mo 21 (.move (T 0))),
 .s 7 (mo 22 (.fieldAddr 83 (T 3) 3)),
 .s 8 (mo 23 (.load 3 (T 22))),
 .s 9 (mo 24 (.nilCheck (T 21))),
 .s 10 (mo 25 (.fieldAddr 81 (T 24) 1)),
 .s 11 (mo 26 (.indexAddr 79 (T 25) (T 23))),
 .s 12 (mo 27 (.load 2 (T 26))),
 .s 13 (mo 5 (.assign (T 20))),
 .s 14 (mo 6 (.assign (T 27)))]
def l40_0:List Oper:=[mo 15 (.move (T 0)),
 mo 16 (.fieldAddr 83 (T 3) 2),
 mo 17 (.load 3 (T 16)),
 mo 18 (.nilCheck (T 15)),
 mo 19 (.fieldAddr 81 (T 18) 1),
 mo 20 (.indexAddr 79 (T 19) (T 17)),
 mo 21 (.move (T 0)),
 mo 22 (.fieldAddr 83 (T 3) 3),
 mo 23 (.load 3 (T 22)),
 mo 24 (.nilCheck (T 21)),
 mo 25 (.fieldAddr 81 (T 24) 1),
 mo 26 (.indexAddr 79 (T 25) (T 23)),
 mo 27 (.load 2 (T 26)),
 mo 5 (.assign (T 20)),
 mo 6 (.assign (T 27))]
noncomputable def r40_0:Code:=.region 1 o40_0 true
theorem xr_40_0 {Q:DExit→St→Prop} {s:St}:xs Try.prog 248 r40_0 Q s=NC Try.prog 248 r40_0 Q s:=rfl
theorem yr_40_0 {Q:DExit→St→Prop} {s:St} (hdf:s.df=[]) (h:YG Try.prog (YD Try.prog l40_0.toArray Q q40_0) g40_0 s []):NC Try.prog 248 r40_0 Q s:=
 NC.yd (l:=l40_0) (b:=[0,0,2,1,9,31,0,0,128,64,576,1984,4032,63,16383]) (by kernel_rfl) (by kernel_rfl) (by kernel_rfl) (by kernel_rfl) (by kernel_rfl) (by kernel_rfl) (by kernel_rfl) (by kernel_rfl) hdf h
attribute [go_sem] xr_40_0
noncomputable def o40_1:Array Oper:=drawn Try.f40 1
def g40_1:List (Nat × Tmp × TypeId):=[]
def q40_1:List YO:=[.s 0 (mo 56 (.move (T 5))),
 .s 1 (mo 57 (.move (T 0))),
 .s 2 (mo 58 (.nilCheck (T 57))),
 .s 3 (mo 59 (.fieldAddr 81 (T 58) 0)),
 .s 4 (mo 60 (.fieldAddr 26 (T 59) 3)),
 .s 5 (mo 61 (.load 23 (T 60))),
 .s 6 (mo 62 (.fieldAddr 83 (T 3) 4)),
 .s 7 (mo 63 (.load 2 (T 62))),
 .s 8 (mo 64 (.indexAddr 23 (T 61) (T 63))),
 .s 9 (mo 65 (.load 2 (T 64))),
 .s 10 (mo 66 (.nilCheck (T 56))),
 .b 11 (mx (.store 2 (T 66) (T 65))) []]
def l40_1:List Oper:=[mo 56 (.move (T 5)),
 mo 57 (.move (T 0)),
 mo 58 (.nilCheck (T 57)),
 mo 59 (.fieldAddr 81 (T 58) 0),
 mo 60 (.fieldAddr 26 (T 59) 3),
 mo 61 (.load 23 (T 60)),
 mo 62 (.fieldAddr 83 (T 3) 4),
 mo 63 (.load 2 (T 62)),
 mo 64 (.indexAddr 23 (T 61) (T 63)),
 mo 65 (.load 2 (T 64)),
 mo 66 (.nilCheck (T 56)),
 mx (.store 2 (T 66) (T 65))]
noncomputable def r40_1:Code:=.region 12 o40_1 true
theorem xr_40_1 {Q:DExit→St→Prop} {s:St}:xs Try.prog 248 r40_1 Q s=NC Try.prog 248 r40_1 Q s:=rfl
theorem yr_40_1 {Q:DExit→St→Prop} {s:St} (hdf:s.df=[]) (h:YG Try.prog (YD Try.prog l40_1.toArray Q q40_1) g40_1 s []):NC Try.prog 248 r40_1 Q s:=
 NC.yd (l:=l40_1) (b:=[0,0,2,6,14,30,0,64,254,510,1023,2047]) (by kernel_rfl) (by kernel_rfl) (by kernel_rfl) (by kernel_rfl) (by kernel_rfl) (by kernel_rfl) (by kernel_rfl) (by kernel_rfl) hdf h
attribute [go_sem] xr_40_1
noncomputable def o40_2:Array Oper:=drawn Try.f40 2
def g40_2:List (Nat × Tmp × TypeId):=[]
def q40_2:List YO:=[.s 0 (mo 75 (.move (T 5))),
 .s 1 (mo 76 (.move (T 0))),
 .s 2 (mo 77 (.move (T 0))),
 .s 3 (mo 78 (.nilCheck (T 77))),
 .s 4 (mo 79 (.fieldAddr 81 (T 78) 0)),
 .s 5 (mo 80 (.fieldAddr 26 (T 79) 4)),
 .s 6 (mo 81 (.load 24 (T 80))),
 .s 7 (mo 82 (.fieldAddr 83 (T 3) 4)),
 .s 8 (mo 83 (.load 2 (T 82))),
 .s 9 (mo 84 (.indexAddr 24 (T 81) (T 83))),
 .s 10 (mo 85 (.load 44 (T 84))),
 .b 11 (mo 86 (.call ⟨(.value (.func 63)),#[(T 76),(T 85)],#[77,44]⟩)) [],
 .s 12 (mo 74 (.move (T 86))),
 .s 13 (mo 87 (.extract (T 74) 0)),
 .s 14 (mo 88 (.extract (T 74) 1)),
 .s 15 (mo 89 (.nilCheck (T 75))),
 .b 16 (mx (.store 2 (T 89) (T 87))) []]
def l40_2:List Oper:=[mo 75 (.move (T 5)),
 mo 76 (.move (T 0)),
 mo 77 (.move (T 0)),
 mo 78 (.nilCheck (T 77)),
 mo 79 (.fieldAddr 81 (T 78) 0),
 mo 80 (.fieldAddr 26 (T 79) 4),
 mo 81 (.load 24 (T 80)),
 mo 82 (.fieldAddr 83 (T 3) 4),
 mo 83 (.load 2 (T 82)),
 mo 84 (.indexAddr 24 (T 81) (T 83)),
 mo 85 (.load 44 (T 84)),
 mo 86 (.call ⟨(.value (.func 63)),#[(T 76),(T 85)],#[77,44]⟩),
 mo 74 (.move (T 86)),
 mo 87 (.extract (T 74) 0),
 mo 88 (.extract (T 74) 1),
 mo 89 (.nilCheck (T 75)),
 mx (.store 2 (T 89) (T 87))]
noncomputable def r40_2:Code:=.region 16 o40_2 true
theorem xr_40_2 {Q:DExit→St→Prop} {s:St}:xs Try.prog 248 r40_2 Q s=NC Try.prog 248 r40_2 Q s:=rfl
theorem yr_40_2 {Q:DExit→St→Prop} {s:St} (hdf:s.df=[]) (h:YG Try.prog (YD Try.prog l40_2.toArray Q q40_2) g40_2 s []):NC Try.prog 248 r40_2 Q s:=
 NC.yd (l:=l40_2) (b:=[0,0,0,4,12,28,60,0,128,508,1020,2046,4094,8190,8190,16383,49151]) (by kernel_rfl) (by kernel_rfl) (by kernel_rfl) (by kernel_rfl) (by kernel_rfl) (by kernel_rfl) (by kernel_rfl) (by kernel_rfl) hdf h
attribute [go_sem] xr_40_2
noncomputable def o40_3:Array Oper:=drawn Try.f40 3
def g40_3:List (Nat × Tmp × TypeId):=[]
def q40_3:List YO:=[.s 0 (mo 93 (.move (T 0))),
 .s 1 (mo 94 (.move (T 0))),
 .s 2 (mo 95 (.nilCheck (T 94))),
 .s 3 (mo 96 (.fieldAddr 81 (T 95) 0)),
 .s 4 (mo 97 (.fieldAddr 26 (T 96) 4)),
 .s 5 (mo 98 (.load 24 (T 97))),
 .s 6 (mo 99 (.fieldAddr 83 (T 3) 4)),
 .s 7 (mo 100 (.load 2 (T 99))),
 .s 8 (mo 101 (.indexAddr 24 (T 98) (T 100))),
 .s 9 (mo 102 (.load 44 (T 101))),
 .b 10 (mo 103 (.call ⟨(.value (.func 63)),#[(T 93),(T 102)],#[77,44]⟩)) [],
 .s 11 (mo 92 (.move (T 103))),
 .s 12 (mo 104 (.extract (T 92) 0)),
 .s 13 (mo 105 (.extract (T 92) 1)),
 .s 14 (mo 7 (.assign (T 104))),
 .s 15 (mo 8 (.assign (T 105)))]
def l40_3:List Oper:=[mo 93 (.move (T 0)),
 mo 94 (.move (T 0)),
 mo 95 (.nilCheck (T 94)),
 mo 96 (.fieldAddr 81 (T 95) 0),
 mo 97 (.fieldAddr 26 (T 96) 4),
 mo 98 (.load 24 (T 97)),
 mo 99 (.fieldAddr 83 (T 3) 4),
 mo 100 (.load 2 (T 99)),
 mo 101 (.indexAddr 24 (T 98) (T 100)),
 mo 102 (.load 44 (T 101)),
 mo 103 (.call ⟨(.value (.func 63)),#[(T 93),(T 102)],#[77,44]⟩),
 mo 92 (.move (T 103)),
 mo 104 (.extract (T 92) 0),
 mo 105 (.extract (T 92) 1),
 mo 7 (.assign (T 104)),
 mo 8 (.assign (T 105))]
noncomputable def r40_3:Code:=.region 18 o40_3 true
theorem xr_40_3 {Q:DExit→St→Prop} {s:St}:xs Try.prog 248 r40_3 Q s=NC Try.prog 248 r40_3 Q s:=rfl
theorem yr_40_3 {Q:DExit→St→Prop} {s:St} (hdf:s.df=[]) (h:YG Try.prog (YD Try.prog l40_3.toArray Q q40_3) g40_3 s []):NC Try.prog 248 r40_3 Q s:=
 NC.yd (l:=l40_3) (b:=[0,0,2,6,14,30,0,64,254,510,1023,2047,4095,4095,8191,32767]) (by kernel_rfl) (by kernel_rfl) (by kernel_rfl) (by kernel_rfl) (by kernel_rfl) (by kernel_rfl) (by kernel_rfl) (by kernel_rfl) hdf h
attribute [go_sem] xr_40_3
noncomputable def o40_4:Array Oper:=drawn Try.f40 4
def g40_4:List (Nat × Tmp × TypeId):=[(9,9,44)]
def q40_4:List YO:=[.s 0 (mo 112 (.move (T 0))),
 .s 1 (mo 113 (.nilCheck (T 112))),
 .s 2 (mo 114 (.fieldAddr 81 (T 113) 0)),
 .s 3 (mo 115 (.fieldAddr 26 (T 114) 5)),
 .s 4 (mo 116 (.load 24 (T 115))),
 .s 5 (mo 117 (.fieldAddr 83 (T 3) 4)),
 .s 6 (mo 118 (.load 2 (T 117))),
 .s 7 (mo 119 (.indexAddr 24 (T 116) (T 118))),
 .s 8 (mo 120 (.load 44 (T 119))),
 .b 10 (mx (.store 44 (T 9) (T 120))) []]
def l40_4:List Oper:=[mo 112 (.move (T 0)),
 mo 113 (.nilCheck (T 112)),
 mo 114 (.fieldAddr 81 (T 113) 0),
 mo 115 (.fieldAddr 26 (T 114) 5),
 mo 116 (.load 24 (T 115)),
 mo 117 (.fieldAddr 83 (T 3) 4),
 mo 118 (.load 2 (T 117)),
 mo 119 (.indexAddr 24 (T 116) (T 118)),
 mo 120 (.load 44 (T 119)),
 mo 9 (.alloc 44),
 mx (.store 44 (T 9) (T 120))]
noncomputable def r40_4:Code:=.region 21 o40_4 true
theorem xr_40_4 {Q:DExit→St→Prop} {s:St}:xs Try.prog 248 r40_4 Q s=NC Try.prog 248 r40_4 Q s:=rfl
theorem yr_40_4 {Q:DExit→St→Prop} {s:St} (hdf:s.df=[]) (h:YG Try.prog (YD Try.prog l40_4.toArray Q q40_4) g40_4 s []):NC Try.prog 248 r40_4 Q s:=
 NC.yd (l:=l40_4) (b:=[0,1,3,7,15,0,32,127,255,0,1023]) (by kernel_rfl) (by kernel_rfl) (by kernel_rfl) (by kernel_rfl) (by kernel_rfl) (by kernel_rfl) (by kernel_rfl) (by kernel_rfl) hdf h
attribute [go_sem] xr_40_4
noncomputable def o40_5:Array Oper:=drawn Try.f40 5
def g40_5:List (Nat × Tmp × TypeId):=[]
def q40_5:List YO:=[.s 0 (mo 121 (.move (T 0))),
 .s 1 (mo 122 (.nilCheck (T 121))),
 .s 2 (mo 123 (.fieldAddr 81 (T 122) 3)),
 .s 3 (mo 124 (.load 63 (T 123))),
 .s 4 (mo 125 (.load 44 (T 9))),
 .s 5 (mo 126 (.load 44 (T 9))),
 .s 6 (mo 127 (.move (T 5))),
 .s 7 (mo 128 (.nilCheck (T 127))),
 .s 8 (mo 129 (.load 2 (T 128))),
 .s 9 (mo 130 (.build 51 #[(0,(T 126)),(1,(T 129))])),
 .b 10 (mx (.mapUpdate 63 (T 124) (T 125) (T 130))) []]
def l40_5:List Oper:=[mo 121 (.move (T 0)),
 mo 122 (.nilCheck (T 121)),
 mo 123 (.fieldAddr 81 (T 122) 3),
 mo 124 (.load 63 (T 123)),
 mo 125 (.load 44 (T 9)),
 mo 126 (.load 44 (T 9)),
 mo 127 (.move (T 5)),
 mo 128 (.nilCheck (T 127)),
 mo 129 (.load 2 (T 128)),
 mo 130 (.build 51 #[(0,(T 126)),(1,(T 129))]),
 mx (.mapUpdate 63 (T 124) (T 125) (T 130))]
noncomputable def r40_5:Code:=.region 22 o40_5 true
theorem xr_40_5 {Q:DExit→St→Prop} {s:St}:xs Try.prog 248 r40_5 Q s=NC Try.prog 248 r40_5 Q s:=rfl
theorem yr_40_5 {Q:DExit→St→Prop} {s:St} (hdf:s.df=[]) (h:YG Try.prog (YD Try.prog l40_5.toArray Q q40_5) g40_5 s []):NC Try.prog 248 r40_5 Q s:=
 NC.yd (l:=l40_5) (b:=[0,1,3,7,0,0,0,64,192,480,1023]) (by kernel_rfl) (by kernel_rfl) (by kernel_rfl) (by kernel_rfl) (by kernel_rfl) (by kernel_rfl) (by kernel_rfl) (by kernel_rfl) hdf h
attribute [go_sem] xr_40_5
noncomputable def o40_6:Array Oper:=drawn Try.f40 6
def g40_6:List (Nat × Tmp × TypeId):=[(9,10,44)]
def q40_6:List YO:=[.s 0 (mo 133 (.move (T 0))),
 .s 1 (mo 134 (.nilCheck (T 133))),
 .s 2 (mo 135 (.fieldAddr 81 (T 134) 0)),
 .s 3 (mo 136 (.fieldAddr 26 (T 135) 5)),
 .s 4 (mo 137 (.load 24 (T 136))),
 .s 5 (mo 138 (.fieldAddr 83 (T 3) 4)),
 .s 6 (mo 139 (.load 2 (T 138))),
 .s 7 (mo 140 (.indexAddr 24 (T 137) (T 139))),
 .s 8 (mo 141 (.load 44 (T 140))),
 .b 10 (mx (.store 44 (T 10) (T 141))) []]
def l40_6:List Oper:=[mo 133 (.move (T 0)),
 mo 134 (.nilCheck (T 133)),
 mo 135 (.fieldAddr 81 (T 134) 0),
 mo 136 (.fieldAddr 26 (T 135) 5),
 mo 137 (.load 24 (T 136)),
 mo 138 (.fieldAddr 83 (T 3) 4),
 mo 139 (.load 2 (T 138)),
 mo 140 (.indexAddr 24 (T 137) (T 139)),
 mo 141 (.load 44 (T 140)),
 mo 10 (.alloc 44),
 mx (.store 44 (T 10) (T 141))]
noncomputable def r40_6:Code:=.region 24 o40_6 true
theorem xr_40_6 {Q:DExit→St→Prop} {s:St}:xs Try.prog 248 r40_6 Q s=NC Try.prog 248 r40_6 Q s:=rfl
theorem yr_40_6 {Q:DExit→St→Prop} {s:St} (hdf:s.df=[]) (h:YG Try.prog (YD Try.prog l40_6.toArray Q q40_6) g40_6 s []):NC Try.prog 248 r40_6 Q s:=
 NC.yd (l:=l40_6) (b:=[0,1,3,7,15,0,32,127,255,0,1023]) (by kernel_rfl) (by kernel_rfl) (by kernel_rfl) (by kernel_rfl) (by kernel_rfl) (by kernel_rfl) (by kernel_rfl) (by kernel_rfl) hdf h
attribute [go_sem] xr_40_6
noncomputable def o40_7:Array Oper:=drawn Try.f40 7
def g40_7:List (Nat × Tmp × TypeId):=[]
def q40_7:List YO:=[.s 0 (mo 142 (.move (T 0))),
 .s 1 (mo 143 (.nilCheck (T 142))),
 .s 2 (mo 144 (.fieldAddr 81 (T 143) 3)),
 .s 3 (mo 145 (.load 63 (T 144))),
 .s 4 (mo 146 (.load 44 (T 10))),
 .s 5 (mo 147 (.load 44 (T 10))),
 .s 6 (mo 148 (.build 51 #[(0,(T 147)),(2,(.const (.bool true)))])),
 .b 7 (mx (.mapUpdate 63 (T 145) (T 146) (T 148))) []]
def l40_7:List Oper:=[mo 142 (.move (T 0)),
 mo 143 (.nilCheck (T 142)),
 mo 144 (.fieldAddr 81 (T 143) 3),
 mo 145 (.load 63 (T 144)),
 mo 146 (.load 44 (T 10)),
 mo 147 (.load 44 (T 10)),
 mo 148 (.build 51 #[(0,(T 147)),(2,(.const (.bool true)))]),
 mx (.mapUpdate 63 (T 145) (T 146) (T 148))]
noncomputable def r40_7:Code:=.region 25 o40_7 true
theorem xr_40_7 {Q:DExit→St→Prop} {s:St}:xs Try.prog 248 r40_7 Q s=NC Try.prog 248 r40_7 Q s:=rfl
theorem yr_40_7 {Q:DExit→St→Prop} {s:St} (hdf:s.df=[]) (h:YG Try.prog (YD Try.prog l40_7.toArray Q q40_7) g40_7 s []):NC Try.prog 248 r40_7 Q s:=
 NC.yd (l:=l40_7) (b:=[0,1,3,7,0,0,32,127]) (by kernel_rfl) (by kernel_rfl) (by kernel_rfl) (by kernel_rfl) (by kernel_rfl) (by kernel_rfl) (by kernel_rfl) (by kernel_rfl) hdf h
attribute [go_sem] xr_40_7
noncomputable def o40_8:Array Oper:=drawn Try.f40 8
def g40_8:List (Nat × Tmp × TypeId):=[]
def q40_8:List YO:=[.s 0 (mo 151 (.move (T 5))),
 .s 1 (mo 152 (.move (T 5))),
 .s 2 (mo 153 (.nilCheck (T 152))),
 .s 3 (mo 154 (.load 2 (T 153))),
 .s 4 (mo 155 (.fieldAddr 83 (T 3) 4)),
 .s 5 (mo 156 (.load 2 (T 155))),
 .b 6 (mo 157 (.call ⟨(.value (.func 17)),#[(T 154),(T 156)],#[2,2]⟩)) [],
 .s 7 (mo 158 (.nilCheck (T 151))),
 .b 8 (mx (.store 2 (T 158) (T 157))) []]
def l40_8:List Oper:=[mo 151 (.move (T 5)),
 mo 152 (.move (T 5)),
 mo 153 (.nilCheck (T 152)),
 mo 154 (.load 2 (T 153)),
 mo 155 (.fieldAddr 83 (T 3) 4),
 mo 156 (.load 2 (T 155)),
 mo 157 (.call ⟨(.value (.func 17)),#[(T 154),(T 156)],#[2,2]⟩),
 mo 158 (.nilCheck (T 151)),
 mx (.store 2 (T 158) (T 157))]
noncomputable def r40_8:Code:=.region 27 o40_8 true
theorem xr_40_8 {Q:DExit→St→Prop} {s:St}:xs Try.prog 248 r40_8 Q s=NC Try.prog 248 r40_8 Q s:=rfl
theorem yr_40_8 {Q:DExit→St→Prop} {s:St} (hdf:s.df=[]) (h:YG Try.prog (YD Try.prog l40_8.toArray Q q40_8) g40_8 s []):NC Try.prog 248 r40_8 Q s:=
 NC.yd (l:=l40_8) (b:=[0,0,2,6,0,16,62,127,255]) (by kernel_rfl) (by kernel_rfl) (by kernel_rfl) (by kernel_rfl) (by kernel_rfl) (by kernel_rfl) (by kernel_rfl) (by kernel_rfl) hdf h
attribute [go_sem] xr_40_8
noncomputable def o40_9:Array Oper:=drawn Try.f40 9
def g40_9:List (Nat × Tmp × TypeId):=[]
def q40_9:List YO:=[.s 0 (mo 183 (.move (T 0))),
 .s 1 (mo 184 (.move (T 0))),
 .s 2 (mo 185 (.nilCheck (T 184))),
 .s 3 (mo 186 (.fieldAddr 81 (T 185) 4)),
 .l 4 (mo 187 (.load 23 (T 186))),
 .s 5 (mo 188 (.move (T 5))),
 .s 6 (mo 189 (.nilCheck (T 188))),
 .s 7 (mo 190 (.load 2 (T 189))),
 .b 8 (mo 191 (.buildSlice 23 1 #[(0,(T 190))])) [0],
 .b 9 (mo 192 (.call ⟨(.builtin .append),#[(T 187),(T 191)],#[23,23]⟩)) [],
 .s 10 (mo 193 (.nilCheck (T 183))),
 .s 11 (mo 194 (.fieldAddr 81 (T 193) 4)),
 .b 12 (mx (.store 23 (T 194) (T 192))) []]
def l40_9:List Oper:=[mo 183 (.move (T 0)),
 mo 184 (.move (T 0)),
 mo 185 (.nilCheck (T 184)),
 mo 186 (.fieldAddr 81 (T 185) 4),
 mo 187 (.load 23 (T 186)),
 mo 188 (.move (T 5)),
 mo 189 (.nilCheck (T 188)),
 mo 190 (.load 2 (T 189)),
 mo 191 (.buildSlice 23 1 #[(0,(T 190))]),
 mo 192 (.call ⟨(.builtin .append),#[(T 187),(T 191)],#[23,23]⟩),
 mo 193 (.nilCheck (T 183)),
 mo 194 (.fieldAddr 81 (T 193) 4),
 mx (.store 23 (T 194) (T 192))]
noncomputable def r40_9:Code:=.region 36 o40_9 true
theorem xr_40_9 {Q:DExit→St→Prop} {s:St}:xs Try.prog 248 r40_9 Q s=NC Try.prog 248 r40_9 Q s:=rfl
theorem yr_40_9 {Q:DExit→St→Prop} {s:St} (hdf:s.df=[]) (h:YG Try.prog (YD Try.prog l40_9.toArray Q q40_9) g40_9 s []):NC Try.prog 248 r40_9 Q s:=
 NC.yd (l:=l40_9) (b:=[0,0,2,6,14,0,32,96,224,510,1023,2047,4095]) (by kernel_rfl) (by kernel_rfl) (by kernel_rfl) (by kernel_rfl) (by kernel_rfl) (by kernel_rfl) (by kernel_rfl) (by kernel_rfl) hdf h
attribute [go_sem] xr_40_9
noncomputable def o40_10:Array Oper:=drawn Try.f40 10
def g40_10:List (Nat × Tmp × TypeId):=[]
def q40_10:List YO:=[.s 0 (mo 207 (.move (T 0))),
 .s 1 (mo 208 (.nilCheck (T 207))),
 .s 2 (mo 209 (.fieldAddr 81 (T 208) 0)),
 .s 3 (mo 210 (.fieldAddr 26 (T 209) 4)),
 .s 4 (mo 211 (.load 24 (T 210))),
 .s 5 (mo 212 (.load 44 (T 11))),
 .b 6 (mo 213 (.call ⟨(.value (.func 51)),#[(T 211),(T 212)],#[24,44]⟩)) [],
 .s 7 (mo 214 (.unOp .not 4 (T 213)))]
def l40_10:List Oper:=[mo 207 (.move (T 0)),
 mo 208 (.nilCheck (T 207)),
 mo 209 (.fieldAddr 81 (T 208) 0),
 mo 210 (.fieldAddr 26 (T 209) 4),
 mo 211 (.load 24 (T 210)),
 mo 212 (.load 44 (T 11)),
 mo 213 (.call ⟨(.value (.func 51)),#[(T 211),(T 212)],#[24,44]⟩),
 mo 214 (.unOp .not 4 (T 213))]
noncomputable def r40_10:Code:=.region 41 o40_10 true
theorem xr_40_10 {Q:DExit→St→Prop} {s:St}:xs Try.prog 248 r40_10 Q s=NC Try.prog 248 r40_10 Q s:=rfl
theorem yr_40_10 {Q:DExit→St→Prop} {s:St} (hdf:s.df=[]) (h:YG Try.prog (YD Try.prog l40_10.toArray Q q40_10) g40_10 s []):NC Try.prog 248 r40_10 Q s:=
 NC.yd (l:=l40_10) (b:=[0,1,3,7,15,0,63,127]) (by kernel_rfl) (by kernel_rfl) (by kernel_rfl) (by kernel_rfl) (by kernel_rfl) (by kernel_rfl) (by kernel_rfl) (by kernel_rfl) hdf h
attribute [go_sem] xr_40_10
noncomputable def o40_11:Array Oper:=drawn Try.f40 11
def g40_11:List (Nat × Tmp × TypeId):=[]
def q40_11:List YO:=[.s 0 (mo 230 (.move (T 0))),
 .s 1 (mo 231 (.nilCheck (T 230))),
 .s 2 (mo 232 (.fieldAddr 81 (T 231) 0)),
 .s 3 (mo 233 (.fieldAddr 26 (T 232) 5)),
 .s 4 (mo 234 (.load 24 (T 233))),
 .s 5 (mo 235 (.load 44 (T 12))),
 .b 6 (mo 236 (.call ⟨(.value (.func 51)),#[(T 234),(T 235)],#[24,44]⟩)) [],
 .s 7 (mo 237 (.unOp .not 4 (T 236)))]
def l40_11:List Oper:=[mo 230 (.move (T 0)),
 mo 231 (.nilCheck (T 230)),
 mo 232 (.fieldAddr 81 (T 231) 0),
 mo 233 (.fieldAddr 26 (T 232) 5),
 mo 234 (.load 24 (T 233)),
 mo 235 (.load 44 (T 12)),
 mo 236 (.call ⟨(.value (.func 51)),#[(T 234),(T 235)],#[24,44]⟩),
 mo 237 (.unOp .not 4 (T 236))]
noncomputable def r40_11:Code:=.region 46 o40_11 true
theorem xr_40_11 {Q:DExit→St→Prop} {s:St}:xs Try.prog 248 r40_11 Q s=NC Try.prog 248 r40_11 Q s:=rfl
theorem yr_40_11 {Q:DExit→St→Prop} {s:St} (hdf:s.df=[]) (h:YG Try.prog (YD Try.prog l40_11.toArray Q q40_11) g40_11 s []):NC Try.prog 248 r40_11 Q s:=
 NC.yd (l:=l40_11) (b:=[0,1,3,7,15,0,63,127]) (by kernel_rfl) (by kernel_rfl) (by kernel_rfl) (by kernel_rfl) (by kernel_rfl) (by kernel_rfl) (by kernel_rfl) (by kernel_rfl) hdf h
attribute [go_sem] xr_40_11
noncomputable def o40_12:Array Oper:=drawn Try.f40 12
def g40_12:List (Nat × Tmp × TypeId):=[]
def q40_12:List YO:=[.s 0 (mo 238 (.move (T 0))),
 .s 1 (mo 239 (.nilCheck (T 238))),
 .s 2 (mo 240 (.fieldAddr 81 (T 239) 3)),
 .s 3 (mo 241 (.load 63 (T 240))),
 .s 4 (mo 242 (.load 44 (T 12))),
 .s 5 (mo 243 (.load 44 (T 12))),
 .s 6 (mo 244 (.move (T 5))),
 .s 7 (mo 245 (.nilCheck (T 244))),
 .s 8 (mo 246 (.load 2 (T 245))),
 .s 9 (mo 247 (.build 51 #[(0,(T 243)),(1,(T 246))])),
 .b 10 (mx (.mapUpdate 63 (T 241) (T 242) (T 247))) []]
def l40_12:List Oper:=[mo 238 (.move (T 0)),
 mo 239 (.nilCheck (T 238)),
 mo 240 (.fieldAddr 81 (T 239) 3),
 mo 241 (.load 63 (T 240)),
 mo 242 (.load 44 (T 12)),
 mo 243 (.load 44 (T 12)),
 mo 244 (.move (T 5)),
 mo 245 (.nilCheck (T 244)),
 mo 246 (.load 2 (T 245)),
 mo 247 (.build 51 #[(0,(T 243)),(1,(T 246))]),
 mx (.mapUpdate 63 (T 241) (T 242) (T 247))]
noncomputable def r40_12:Code:=.region 48 o40_12 true
theorem xr_40_12 {Q:DExit→St→Prop} {s:St}:xs Try.prog 248 r40_12 Q s=NC Try.prog 248 r40_12 Q s:=rfl
theorem yr_40_12 {Q:DExit→St→Prop} {s:St} (hdf:s.df=[]) (h:YG Try.prog (YD Try.prog l40_12.toArray Q q40_12) g40_12 s []):NC Try.prog 248 r40_12 Q s:=
 NC.yd (l:=l40_12) (b:=[0,1,3,7,0,0,0,64,192,480,1023]) (by kernel_rfl) (by kernel_rfl) (by kernel_rfl) (by kernel_rfl) (by kernel_rfl) (by kernel_rfl) (by kernel_rfl) (by kernel_rfl) hdf h
attribute [go_sem] xr_40_12
noncomputable def o40_13:Array Oper:=drawn Try.f40 13
def g40_13:List (Nat × Tmp × TypeId):=[]
def q40_13:List YO:=[.s 0 (mo 31 (.fieldAddr 83 (T 3) 1)),
 .s 1 (mo 32 (.load 3 (T 31))),
 .s 2 (mo 33 (.move (T 5))),
 .s 3 (mo 34 (.nilCheck (T 33))),
 .s 4 (mo 35 (.load 2 (T 34))),
 .s 5 (mo 36 (.move (T 6))),
 .b 6 (mo 37 (.call ⟨(.value (.func 15)),#[(T 32),(T 35),(T 36)],#[3,2,2]⟩)) [],
 .s 7 (mo 30 (.move (T 37))),
 .s 8 (mo 38 (.extract (T 30) 0)),
 .s 9 (mo 39 (.extract (T 30) 1)),
 .s 10 (mo 13 (.assign (T 38))),
 .s 11 (mo 14 (.assign (T 39)))]
def l40_13:List Oper:=[mo 31 (.fieldAddr 83 (T 3) 1),
 mo 32 (.load 3 (T 31)),
 mo 33 (.move (T 5)),
 mo 34 (.nilCheck (T 33)),
 mo 35 (.load 2 (T 34)),
 mo 36 (.move (T 6)),
 mo 37 (.call ⟨(.value (.func 15)),#[(T 32),(T 35),(T 36)],#[3,2,2]⟩),
 mo 30 (.move (T 37)),
 mo 38 (.extract (T 30) 0),
 mo 39 (.extract (T 30) 1),
 mo 13 (.assign (T 38)),
 mo 14 (.assign (T 39))]
noncomputable def r40_13:Code:=.region 3 o40_13 true
theorem xr_40_13 {Q:DExit→St→Prop} {s:St}:xs Try.prog 248 r40_13 Q s=NC Try.prog 248 r40_13 Q s:=rfl
theorem yr_40_13 {Q:DExit→St→Prop} {s:St} (hdf:s.df=[]) (h:YG Try.prog (YD Try.prog l40_13.toArray Q q40_13) g40_13 s []):NC Try.prog 248 r40_13 Q s:=
 NC.yd (l:=l40_13) (b:=[0,1,0,4,12,0,63,127,255,255,511,2047]) (by kernel_rfl) (by kernel_rfl) (by kernel_rfl) (by kernel_rfl) (by kernel_rfl) (by kernel_rfl) (by kernel_rfl) (by kernel_rfl) hdf h
attribute [go_sem] xr_40_13
noncomputable def c40:Code:=
 .seq (rg [mo 3 (.box 83 (T 1)),
 mo 4 (.assign (.const (.int .i64 0)))])
 (.seq (r40_0)
 (.seq (.seq (rg [mo 28 (.fieldAddr 83 (T 3) 1),
 mo 29 (.load 3 (T 28))])
 (.block 0 (.seq (rg [mo 47 (.binOp .eql 3 (T 29) (.const (.int .i64 0)) 3),
 mo 46 (.assign (T 47))])
 (.cond (T 46) (.seq (rg [mo 4 (.assign (.const (.int .i64 0)))])
 (.ret))
 (.seq (rg [mo 49 (.binOp .eql 3 (T 29) (.const (.int .i64 1)) 3),
 mo 48 (.assign (T 49))])
 (.cond (T 48) (rg [mo 50 (.move (T 5)),
 mo 51 (.fieldAddr 83 (T 3) 4),
 mo 52 (.load 2 (T 51)),
 mo 53 (.nilCheck (T 50)),
 mx (.store 2 (T 53) (T 52))])
 (.seq (rg [mo 55 (.binOp .eql 3 (T 29) (.const (.int .i64 2)) 3),
 mo 54 (.assign (T 55))])
 (.cond (T 54) (r40_1)
 (.seq (rg [mo 68 (.binOp .eql 3 (T 29) (.const (.int .i64 7)) 3),
 mo 67 (.assign (T 68))])
 (.cond (T 67) (rg [mo 69 (.move (T 5)),
 mo 70 (.move (T 6)),
 mo 71 (.nilCheck (T 69)),
 mx (.store 2 (T 71) (T 70))])
 (.seq (rg [mo 73 (.binOp .eql 3 (T 29) (.const (.int .i64 3)) 3),
 mo 72 (.assign (T 73))])
 (.cond (T 72) (r40_2)
 (.seq (rg [mo 91 (.binOp .eql 3 (T 29) (.const (.int .i64 4)) 3),
 mo 90 (.assign (T 91))])
 (.cond (T 90) (.seq (r40_3)
 (rg [mo 106 (.move (T 5)),
 mo 107 (.move (T 8)),
 mo 108 (.call ⟨(.value (.func 45)),#[(T 107)],#[4]⟩),
 mo 109 (.nilCheck (T 106)),
 mx (.store 2 (T 109) (T 108))]))
 (.seq (rg [mo 111 (.binOp .eql 3 (T 29) (.const (.int .i64 5)) 3),
 mo 110 (.assign (T 111))])
 (.cond (T 110) (.seq (r40_4)
 (r40_5))
 (.seq (rg [mo 132 (.binOp .eql 3 (T 29) (.const (.int .i64 6)) 3),
 mo 131 (.assign (T 132))])
 (.cond (T 131) (.seq (r40_6)
 (r40_7))
 (.seq (rg [mo 150 (.binOp .eql 3 (T 29) (.const (.int .i64 19)) 3),
 mo 149 (.assign (T 150))])
 (.cond (T 149) (r40_8)
 (.seq (rg [mo 160 (.binOp .eql 3 (T 29) (.const (.int .i64 22)) 3),
 mo 159 (.assign (T 160))])
 (.cond (T 159) (rg [mo 161 (.move (T 0)),
 mo 162 (.fieldAddr 83 (T 3) 4),
 mo 163 (.load 2 (T 162)),
 mo 164 (.call ⟨(.value (.func 64)),#[(T 161),(T 163)],#[77,2]⟩)])
 (.seq (rg [mo 166 (.binOp .eql 3 (T 29) (.const (.int .i64 23)) 3),
 mo 165 (.assign (T 166))])
 (.cond (T 165) (.seq (rg [mo 167 (.move (T 5)),
 mo 168 (.nilCheck (T 167)),
 mo 169 (.load 2 (T 168)),
 mo 170 (.binOp .neq 2 (T 169) (.const (.int .i64 0)) 2)])
 (.cond (T 170) (rg [mo 171 (.move (T 0)),
 mo 172 (.fieldAddr 83 (T 3) 4),
 mo 173 (.load 2 (T 172)),
 mo 174 (.call ⟨(.value (.func 64)),#[(T 171),(T 173)],#[77,2]⟩)])
 (.skip)))
 (.seq (rg [mo 176 (.binOp .eql 3 (T 29) (.const (.int .i64 24)) 3),
 mo 175 (.assign (T 176))])
 (.cond (T 175) (.seq (.seq (rg [mo 177 (.move (T 0)),
 mo 178 (.nilCheck (T 177)),
 mo 179 (.fieldAddr 81 (T 178) 4),
 mo 180 (.load 23 (T 179)),
 mo 181 (.call ⟨(.builtin .len),#[(T 180)],#[23]⟩),
 mo 182 (.binOp .geq 3 (T 181) (.const (.int .i64 8)) 3)])
 (.cond (T 182) (.seq (rg [mo 4 (.assign (.const (.int .i64 5)))])
 (.ret))
 (.skip)))
 (r40_9))
 (.seq (rg [mo 196 (.binOp .eql 3 (T 29) (.const (.int .i64 25)) 3),
 mo 195 (.assign (T 196))])
 (.cond (T 195) (.seq (rg [mo 197 (.fieldAddr 83 (T 3) 4),
 mo 198 (.load 2 (T 197)),
 mo 199 (.binOp .add 3 (.const (.int .i64 100)) (T 198) 3),
 mo 4 (.assign (T 199))])
 (.ret))
 (.seq (rg [mo 201 (.binOp .eql 3 (T 29) (.const (.int .i64 26)) 3),
 mo 200 (.assign (T 201))])
 (.cond (T 200) (.seq (rg [mo 202 (.fieldAddr 83 (T 3) 4),
 mo 203 (.load 2 (T 202)),
 mo 204 (.convert 2 21 (T 203)),
 mo 205 (.move (T 6)),
 mo 206 (.build 44 #[(0,(T 204)),(1,(T 205))]),
 mo 11 (.alloc 44),
 mx (.store 44 (T 11) (T 206))])
 (.seq (.seq (r40_10)
 (.cond (T 214) (.seq (rg [mo 4 (.assign (.const (.int .i64 4)))])
 (.ret))
 (.skip)))
 (rg [mo 216 (.move (T 5)),
 mo 217 (.move (T 0)),
 mo 218 (.load 44 (T 11)),
 mo 219 (.call ⟨(.value (.func 63)),#[(T 217),(T 218)],#[77,44]⟩),
 mo 215 (.move (T 219)),
 mo 220 (.extract (T 215) 0),
 mo 221 (.extract (T 215) 1),
 mo 222 (.nilCheck (T 216)),
 mx (.store 2 (T 222) (T 220))])))
 (.seq (rg [mo 224 (.binOp .eql 3 (T 29) (.const (.int .i64 27)) 3),
 mo 223 (.assign (T 224))])
 (.cond (T 223) (.seq (rg [mo 225 (.fieldAddr 83 (T 3) 4),
 mo 226 (.load 2 (T 225)),
 mo 227 (.convert 2 21 (T 226)),
 mo 228 (.move (T 6)),
 mo 229 (.build 44 #[(0,(T 227)),(1,(T 228))]),
 mo 12 (.alloc 44),
 mx (.store 44 (T 12) (T 229))])
 (.seq (.seq (r40_11)
 (.cond (T 237) (.seq (rg [mo 4 (.assign (.const (.int .i64 4)))])
 (.ret))
 (.skip)))
 (r40_12)))
 (.seq (r40_13)
 (.seq (.seq (rg [mo 40 (.move (T 14)),
 mo 41 (.binOp .neq 3 (T 40) (.const (.int .i64 0)) 3)])
 (.cond (T 41) (.seq (rg [mo 42 (.move (T 14)),
 mo 4 (.assign (T 42))])
 (.ret))
 (.skip)))
 (rg [mo 43 (.move (T 5)),
 mo 44 (.move (T 13)),
 mo 45 (.nilCheck (T 43)),
 mx (.store 2 (T 45) (T 44))])))))))))))))))))))))))))))))))))))
 (.seq (rg [mo 4 (.assign (.const (.int .i64 (-1))))])
 (.ret))))
theorem body_40:Try.f40.body.map strip=some c40:=by kernel_rfl
theorem go_40:GoC Try.prog 40 248 c40 [(.tmp 4)]:=
 GoC.of (fn:=Try.f40) (by kernel_rfl) body_40 (by kernel_rfl) (by kernel_rfl) (by kernel_rfl)
def c41:Code:=
 .seq (rg [mo 1 (.box 26 (T 0)),
 mo 2 (.assign (.const (.int .i64 0)))])
 (.seq (.seq (rg [mo 7 (.fieldAddr 26 (T 1) 0),
 mo 8 (.load 2 (T 7)),
 mo 9 (.binOp .lss 2 (T 8) (.const (.int .i64 1)) 2),
 mo 10 (.move (T 9)),
 mg 11 3 false (.fieldAddr 26 (T 1) 0),
 mg 12 3 false (.load 2 (T 11)),
 mg 13 3 false (.binOp .gtr 2 (T 12) (.const (.int .i64 1099511627776)) 2),
 mo 14 (.pick (T 10) (.const (.bool true)) (T 13)),
 mo 15 (.move (T 14)),
 mg 16 8 false (.fieldAddr 26 (T 1) 1),
 mg 17 8 false (.load 2 (T 16)),
 mg 18 8 false (.binOp .lss 2 (T 17) (.const (.int .i64 1)) 2),
 mo 19 (.pick (T 15) (.const (.bool true)) (T 18)),
 mo 20 (.move (T 19)),
 mg 21 13 false (.fieldAddr 26 (T 1) 1),
 mg 22 13 false (.load 2 (T 21)),
 mg 23 13 false (.binOp .gtr 2 (T 22) (.const (.int .i64 1099511627776)) 2),
 mo 24 (.pick (T 20) (.const (.bool true)) (T 23))])
 (.cond (T 24) (.seq (rg [mo 2 (.assign (.const (.int .i64 1)))])
 (.ret))
 (.skip)))
 (.seq (.seq (rg [mo 25 (.fieldAddr 26 (T 1) 3),
 mo 26 (.load 23 (T 25)),
 mo 27 (.call ⟨(.builtin .len),#[(T 26)],#[23]⟩),
 mo 28 (.binOp .gtr 3 (T 27) (.const (.int .i64 8)) 3),
 mo 29 (.move (T 28)),
 mg 30 4 false (.fieldAddr 26 (T 1) 4),
 mg 31 4 false (.load 24 (T 30)),
 mg 32 4 false (.call ⟨(.builtin .len),#[(T 31)],#[24]⟩),
 mg 33 4 false (.binOp .gtr 3 (T 32) (.const (.int .i64 16)) 3),
 mo 34 (.pick (T 29) (.const (.bool true)) (T 33)),
 mo 35 (.move (T 34)),
 mg 36 10 false (.fieldAddr 26 (T 1) 5),
 mg 37 10 false (.load 24 (T 36)),
 mg 38 10 false (.call ⟨(.builtin .len),#[(T 37)],#[24]⟩),
 mg 39 10 false (.binOp .gtr 3 (T 38) (.const (.int .i64 16)) 3),
 mo 40 (.pick (T 35) (.const (.bool true)) (T 39))])
 (.cond (T 40) (.seq (rg [mo 2 (.assign (.const (.int .i64 3)))])
 (.ret))
 (.skip)))
 (.seq (.seq (rg [mo 41 (.fieldAddr 26 (T 1) 4),
 mo 42 (.load 24 (T 41)),
 mo 43 (.call ⟨(.value (.func 65)),#[(T 42)],#[24]⟩),
 mo 44 (.unOp .not 4 (T 43)),
 mo 45 (.move (T 44)),
 mg 46 4 false (.fieldAddr 26 (T 1) 5),
 mg 47 4 false (.load 24 (T 46)),
 mg 48 4 false (.call ⟨(.value (.func 65)),#[(T 47)],#[24]⟩),
 mg 49 4 false (.unOp .not 4 (T 48)),
 mo 50 (.pick (T 45) (.const (.bool true)) (T 49))])
 (.cond (T 50) (.seq (rg [mo 2 (.assign (.const (.int .i64 1)))])
 (.ret))
 (.skip)))
 (.seq (rg [mo 52 (.fieldAddr 26 (T 1) 2),
 mo 53 (.load 22 (T 52)),
 mo 54 (.call ⟨(.value (.func 66)),#[(T 53)],#[22]⟩),
 mo 51 (.move (T 54)),
 mo 55 (.extract (T 51) 0),
 mo 56 (.extract (T 51) 1),
 mo 3 (.assign (T 55)),
 mo 4 (.assign (T 56))])
 (.seq (.seq (rg [mo 57 (.move (T 4)),
 mo 58 (.binOp .neq 53 (T 57) (.const (.int .i64 0)) 53)])
 (.cond (T 58) (.seq (rg [mo 59 (.move (T 4)),
 mo 2 (.assign (T 59))])
 (.ret))
 (.skip)))
 (.seq (.seq (rg [mo 5 (.assign (.const (.int .i64 0)))])
 (.block 0 (.loop (.seq (.seq (rg [mo 60 (.move (T 5)),
 mo 61 (.move (T 3)),
 mo 62 (.call ⟨(.builtin .len),#[(T 61)],#[74]⟩),
 mo 63 (.binOp .lss 3 (T 60) (T 62) 3)])
 (.cond (T 63) (.skip)
 (.exit 0)))
 (.seq (.block 1 (.seq (rg [mo 6 (.assign (.const (.int .i64 256)))])
 (.seq (.seq (rg [mo 66 (.move (T 3)),
 mo 67 (.move (T 5)),
 mo 68 (.indexAddr 74 (T 66) (T 67)),
 mo 69 (.fieldAddr 83 (T 68) 1),
 mo 70 (.load 3 (T 69))])
 (.block 2 (.seq (.seq (rg [mo 72 (.binOp .eql 3 (T 70) (.const (.int .i64 3)) 3),
 mo 71 (.assign (T 72))])
 (.cond (T 71) (.skip)
 (rg [mo 73 (.binOp .eql 3 (T 70) (.const (.int .i64 4)) 3),
 mo 71 (.assign (T 73))])))
 (.cond (T 71) (rg [mo 74 (.fieldAddr 26 (T 1) 4),
 mo 75 (.load 24 (T 74)),
 mo 76 (.call ⟨(.builtin .len),#[(T 75)],#[24]⟩),
 mo 6 (.assign (T 76))])
 (.seq (.seq (rg [mo 78 (.binOp .eql 3 (T 70) (.const (.int .i64 5)) 3),
 mo 77 (.assign (T 78))])
 (.cond (T 77) (.skip)
 (rg [mo 79 (.binOp .eql 3 (T 70) (.const (.int .i64 6)) 3),
 mo 77 (.assign (T 79))])))
 (.cond (T 77) (rg [mo 80 (.fieldAddr 26 (T 1) 5),
 mo 81 (.load 24 (T 80)),
 mo 82 (.call ⟨(.builtin .len),#[(T 81)],#[24]⟩),
 mo 6 (.assign (T 82))])
 (.seq (rg [mo 84 (.binOp .eql 3 (T 70) (.const (.int .i64 2)) 3),
 mo 83 (.assign (T 84))])
 (.cond (T 83) (rg [mo 85 (.fieldAddr 26 (T 1) 3),
 mo 86 (.load 23 (T 85)),
 mo 87 (.call ⟨(.builtin .len),#[(T 86)],#[23]⟩),
 mo 6 (.assign (T 87))])
 (.exit 1)))))))))
 (.seq (rg [mo 88 (.move (T 3)),
 mo 89 (.move (T 5)),
 mo 90 (.indexAddr 74 (T 88) (T 89)),
 mo 91 (.fieldAddr 83 (T 90) 4),
 mo 92 (.load 2 (T 91)),
 mo 93 (.move (T 6)),
 mo 94 (.binOp .geq 2 (T 92) (T 93) 2)])
 (.cond (T 94) (.seq (rg [mo 2 (.assign (.const (.int .i64 132)))])
 (.ret))
 (.skip))))))
 (rg [mo 64 (.move (T 5)),
 mo 65 (.binOp .add 3 (T 64) (.const (.int .i64 1)) 3),
 mo 5 (.assign (T 65))]))))))
 (.seq (rg [mo 2 (.assign (.const (.int .i64 0)))])
 (.ret))))))))
theorem body_41:Try.f41.body.map strip=some c41:=by kernel_rfl
theorem go_41:GoC Try.prog 41 95 c41 [(.tmp 2)]:=
 GoC.of (fn:=Try.f41) (by kernel_rfl) body_41 (by kernel_rfl) (by kernel_rfl) (by kernel_rfl)
noncomputable def o42_0:Array Oper:=drawn Try.f42 0
def l42_0:List Oper:=[mo 82 (.fieldAddr 83 (T 8) 4),
 mo 83 (.load 2 (T 82)),
 mo 84 (.move (T 0)),
 mo 85 (.move (T 9)),
 mo 86 (.binOp .add 3 (T 85) (.const (.int .i64 1)) 3),
 mo 87 (.indexAddr 22 (T 84) (T 86)),
 mo 88 (.load 5 (T 87)),
 mo 89 (.convert 5 2 (T 88)),
 mo 90 (.binOp .mul 2 (.const (.int .i64 256)) (T 89) 2),
 mo 91 (.binOp .add 2 (T 83) (T 90) 2),
 mo 92 (.fieldAddr 83 (T 8) 4),
 mx (.store 2 (T 92) (T 91))]
noncomputable def r42_0:Code:=.region 18 o42_0 true
theorem xr_42_0 {Q:DExit→St→Prop} {s:St}:xs Try.prog 115 r42_0 Q s=NC Try.prog 115 r42_0 Q s:=rfl
theorem dr_42_0 {Q:DExit→St→Prop} {s:St} (h:XDraw Try.prog l42_0.toArray (befs o42_0.toList []) [] s.fr Q l42_0 0 s []):NC Try.prog 115 r42_0 Q s:=
 NC.draw (by kernel_rfl) (by kernel_rfl) (by kernel_rfl) rfl (by kernel_rfl) (by kernel_rfl) h
attribute [go_sem] xr_42_0
noncomputable def c42:Code:=
 .seq (rg [mo 4 (.alloc 83),
 mo 5 (.assign (.const (.int .i64 0))),
 mo 6 (.assign (.const (.int .i64 0)))])
 (.seq (.seq (rg [mo 12 (.move (T 1)),
 mo 13 (.binOp .lss 3 (T 12) (.const (.int .i64 0)) 3),
 mo 14 (.move (T 13)),
 mg 15 2 false (.move (T 1)),
 mg 16 2 false (.move (T 0)),
 mg 17 2 false (.call ⟨(.builtin .len),#[(T 16)],#[22]⟩),
 mg 18 2 false (.binOp .geq 3 (T 15) (T 17) 3),
 mo 19 (.pick (T 14) (.const (.bool true)) (T 18))])
 (.cond (T 19) (.seq (rg [mo 20 (.build 83 #[]),
 mx (.store 83 (T 4) (T 20)),
 mo 5 (.assign (.const (.int .i64 0))),
 mo 6 (.assign (.const (.int .i64 130)))])
 (.ret))
 (.skip)))
 (.seq (rg [mo 21 (.move (T 0)),
 mo 22 (.move (T 1)),
 mo 23 (.indexAddr 22 (T 21) (T 22)),
 mo 24 (.load 5 (T 23)),
 mo 25 (.convert 5 3 (T 24)),
 mo 26 (.call ⟨(.value (.func 67)),#[(T 25)],#[3]⟩),
 mo 7 (.assign (T 26))])
 (.seq (.seq (rg [mo 27 (.move (T 7)),
 mo 28 (.binOp .eql 3 (T 27) (.const (.int .i64 0)) 3),
 mo 29 (.move (T 28)),
 mg 30 2 false (.move (T 7)),
 mg 31 2 false (.move (T 0)),
 mg 32 2 false (.call ⟨(.builtin .len),#[(T 31)],#[22]⟩),
 mg 33 2 false (.move (T 1)),
 mg 34 2 false (.binOp .sub 3 (T 32) (T 33) 3),
 mg 35 2 false (.binOp .gtr 3 (T 30) (T 34) 3),
 mo 36 (.pick (T 29) (.const (.bool true)) (T 35))])
 (.cond (T 36) (.seq (rg [mo 37 (.build 83 #[]),
 mx (.store 83 (T 4) (T 37)),
 mo 5 (.assign (.const (.int .i64 0))),
 mo 6 (.assign (.const (.int .i64 130)))])
 (.ret))
 (.skip)))
 (.seq (rg [mo 38 (.move (T 1)),
 mo 39 (.move (T 0)),
 mo 40 (.move (T 1)),
 mo 41 (.indexAddr 22 (T 39) (T 40)),
 mo 42 (.load 5 (T 41)),
 mo 43 (.convert 5 3 (T 42)),
 mo 44 (.build 83 #[(0,(T 38)),(1,(T 43))]),
 mo 8 (.alloc 83),
 mx (.store 83 (T 8) (T 44))])
 (.seq (rg [mo 45 (.move (T 1)),
 mo 46 (.binOp .add 3 (T 45) (.const (.int .i64 1)) 3),
 mo 9 (.assign (T 46))])
 (.seq (.seq (rg [mo 47 (.fieldAddr 83 (T 8) 1),
 mo 48 (.load 3 (T 47)),
 mo 49 (.call ⟨(.value (.func 68)),#[(T 48)],#[3]⟩)])
 (.cond (T 49) (.seq (rg [mo 50 (.move (T 0)),
 mo 51 (.move (T 9)),
 mo 52 (.indexAddr 22 (T 50) (T 51)),
 mo 53 (.load 5 (T 52)),
 mo 54 (.convert 5 3 (T 53)),
 mo 55 (.fieldAddr 83 (T 8) 2),
 mx (.store 3 (T 55) (T 54))])
 (rg [mo 56 (.move (T 9)),
 mo 57 (.binOp .add 3 (T 56) (.const (.int .i64 1)) 3),
 mo 9 (.assign (T 57))]))
 (.skip)))
 (.seq (.seq (rg [mo 58 (.fieldAddr 83 (T 8) 1),
 mo 59 (.load 3 (T 58)),
 mo 60 (.call ⟨(.value (.func 69)),#[(T 59)],#[3]⟩)])
 (.cond (T 60) (.seq (rg [mo 61 (.move (T 0)),
 mo 62 (.move (T 9)),
 mo 63 (.indexAddr 22 (T 61) (T 62)),
 mo 64 (.load 5 (T 63)),
 mo 65 (.convert 5 3 (T 64)),
 mo 66 (.fieldAddr 83 (T 8) 3),
 mx (.store 3 (T 66) (T 65))])
 (rg [mo 67 (.move (T 9)),
 mo 68 (.binOp .add 3 (T 67) (.const (.int .i64 1)) 3),
 mo 9 (.assign (T 68))]))
 (.skip)))
 (.seq (rg [mo 69 (.fieldAddr 83 (T 8) 1),
 mo 70 (.load 3 (T 69)),
 mo 71 (.call ⟨(.value (.func 70)),#[(T 70)],#[3]⟩),
 mo 10 (.assign (T 71))])
 (.seq (.seq (rg [mo 72 (.move (T 10)),
 mo 73 (.binOp .geq 3 (T 72) (.const (.int .i64 1)) 3)])
 (.cond (T 73) (rg [mo 74 (.move (T 0)),
 mo 75 (.move (T 9)),
 mo 76 (.indexAddr 22 (T 74) (T 75)),
 mo 77 (.load 5 (T 76)),
 mo 78 (.convert 5 2 (T 77)),
 mo 79 (.fieldAddr 83 (T 8) 4),
 mx (.store 2 (T 79) (T 78))])
 (.skip)))
 (.seq (.seq (rg [mo 80 (.move (T 10)),
 mo 81 (.binOp .eql 3 (T 80) (.const (.int .i64 2)) 3)])
 (.cond (T 81) (.seq (r42_0)
 (.seq (rg [mo 93 (.fieldAddr 83 (T 8) 1),
 mo 94 (.load 3 (T 93)),
 mo 95 (.binOp .eql 3 (T 94) (.const (.int .i64 1)) 3),
 mo 96 (.move (T 95)),
 mg 97 3 true (.fieldAddr 83 (T 8) 4),
 mg 98 3 true (.load 2 (T 97)),
 mg 99 3 true (.binOp .geq 2 (T 98) (.const (.int .i64 32768)) 2),
 mo 100 (.pick (T 96) (T 99) (.const (.bool false)))])
 (.cond (T 100) (rg [mo 101 (.fieldAddr 83 (T 8) 4),
 mo 102 (.load 2 (T 101)),
 mo 103 (.binOp .sub 2 (T 102) (.const (.int .i64 65536)) 2),
 mo 104 (.fieldAddr 83 (T 8) 4),
 mx (.store 2 (T 104) (T 103))])
 (.skip))))
 (.skip)))
 (.seq (.seq (rg [mo 105 (.load 83 (T 8)),
 mo 106 (.call ⟨(.value (.func 71)),#[(T 105)],#[83]⟩),
 mo 11 (.assign (T 106))])
 (.seq (rg [mo 107 (.move (T 11)),
 mo 108 (.binOp .neq 53 (T 107) (.const (.int .i64 0)) 53)])
 (.cond (T 108) (.seq (rg [mo 109 (.build 83 #[]),
 mo 110 (.move (T 11)),
 mx (.store 83 (T 4) (T 109)),
 mo 5 (.assign (.const (.int .i64 0))),
 mo 6 (.assign (T 110))])
 (.ret))
 (.skip))))
 (.seq (rg [mo 111 (.load 83 (T 8)),
 mo 112 (.move (T 1)),
 mo 113 (.move (T 7)),
 mo 114 (.binOp .add 3 (T 112) (T 113) 3),
 mx (.store 83 (T 4) (T 111)),
 mo 5 (.assign (T 114)),
 mo 6 (.assign (.const (.int .i64 0)))])
 (.ret)))))))))))))
theorem body_42:Try.f42.body.map strip=some c42:=by kernel_rfl
theorem go_42:GoC Try.prog 42 115 c42 [(.cell 4 83),(.tmp 5),(.tmp 6)]:=
 GoC.of (fn:=Try.f42) (by kernel_rfl) body_42 (by kernel_rfl) (by kernel_rfl) (by kernel_rfl)
end Go.Proofs.Ythjmkmoiopmfcaa

namespace Go.Proofs.Ythjmkmoiopmfcaa
open Go.D
set_option maxRecDepth 100000
def c108:Code:=
 .seq (rg [mo 2 (.assign (.const (.int .i64 0)))])
 (.seq (.seq (rg [mo 3 (.move (T 0)),
 mo 4 (.binOp .geq 92 (T 3) (.const (.int .u64 4294967296)) 92)])
 (.cond (T 4) (.seq (rg [mo 5 (.move (T 0)),
 mo 6 (.binOp .shr 92 (T 5) (.const (.int .u64 32)) 96),
 mo 0 (.assign (T 6))])
 (rg [mo 2 (.assign (.const (.int .i64 32)))]))
 (.skip)))
 (.seq (.seq (rg [mo 7 (.move (T 0)),
 mo 8 (.binOp .geq 92 (T 7) (.const (.int .u64 65536)) 92)])
 (.cond (T 8) (.seq (rg [mo 9 (.move (T 0)),
 mo 10 (.binOp .shr 92 (T 9) (.const (.int .u64 16)) 96),
 mo 0 (.assign (T 10))])
 (rg [mo 11 (.move (T 2)),
 mo 12 (.binOp .add 3 (T 11) (.const (.int .i64 16)) 3),
 mo 2 (.assign (T 12))]))
 (.skip)))
 (.seq (.seq (rg [mo 13 (.move (T 0)),
 mo 14 (.binOp .geq 92 (T 13) (.const (.int .u64 256)) 92)])
 (.cond (T 14) (.seq (rg [mo 15 (.move (T 0)),
 mo 16 (.binOp .shr 92 (T 15) (.const (.int .u64 8)) 96),
 mo 0 (.assign (T 16))])
 (rg [mo 17 (.move (T 2)),
 mo 18 (.binOp .add 3 (T 17) (.const (.int .i64 8)) 3),
 mo 2 (.assign (T 18))]))
 (.skip)))
 (.seq (rg [mo 19 (.move (T 2)),
 mo 20 (.move (T 0)),
 mo 21 (.convert 92 5 (T 20)),
 mo 22 (.index 9 (.const (.string (ByteArray.mk (List.toArray (List.append (List.append [0,1,2,2,3,3,3,3,4,4,4,4,4,4,4,4,5,5,5,5,5,5,5,5,5,5,5,5,5,5,5,5,6,6,6,6,6,6,6,6,6,6,6,6,6,6,6,6,6,6,6,6,6,6,6,6,6,6,6,6,6,6,6,6] [7,7,7,7,7,7,7,7,7,7,7,7,7,7,7,7,7,7,7,7,7,7,7,7,7,7,7,7,7,7,7,7,7,7,7,7,7,7,7,7,7,7,7,7,7,7,7,7,7,7,7,7,7,7,7,7,7,7,7,7,7,7,7,7]) (List.append [8,8,8,8,8,8,8,8,8,8,8,8,8,8,8,8,8,8,8,8,8,8,8,8,8,8,8,8,8,8,8,8,8,8,8,8,8,8,8,8,8,8,8,8,8,8,8,8,8,8,8,8,8,8,8,8,8,8,8,8,8,8,8,8] [8,8,8,8,8,8,8,8,8,8,8,8,8,8,8,8,8,8,8,8,8,8,8,8,8,8,8,8,8,8,8,8,8,8,8,8,8,8,8,8,8,8,8,8,8,8,8,8,8,8,8,8,8,8,8,8,8,8,8,8,8,8,8,8])))))) (T 21)),
 mo 23 (.convert 5 3 (T 22)),
 mo 24 (.binOp .add 3 (T 19) (T 23) 3),
 mo 2 (.assign (T 24))])
 (.ret)))))
theorem body_108:Try.f108.body.map strip=some c108:=by kernel_rfl
theorem go_108:GoC Try.prog 108 25 c108 [(.tmp 2)]:=
 GoC.of (fn:=Try.f108) (by kernel_rfl) body_108 (by kernel_rfl) (by kernel_rfl) (by kernel_rfl)
end Go.Proofs.Ythjmkmoiopmfcaa

namespace Go.Proofs.Ythjmkmoiopmfcaa
open Go.D
set_option maxRecDepth 100000
theorem truth_c {h:DHeap} {b:Bool}:DC Try.prog 45 [.bool b] h (.ret (.int .i64 (if b then 1 else 0))) h:=by
 refine Ct.pure (go_45 (by simp) ?_) (vin_int _ _)
 cases b <;> simp -implicitDefEqProofs (disch:=first|omega|simp only[go_sem]) only[go_sem,true_and,c45] <;> exact ⟨_,rfl,rfl,.refl _⟩
theorem truth_r {h:DHeap} {b:Bool}:DC Try.prog 46 [.bool b] h (.ret (.int .i64 (if b then 1 else 0))) h:=by
 refine Ct.pure (go_46 (by simp) ?_) (vin_int _ _)
 cases b <;> simp -implicitDefEqProofs (disch:=first|omega|simp only[go_sem]) only[go_sem,true_and,c46] <;> exact ⟨_,rfl,rfl,.refl _⟩
def narrow (a n:Int):Int:=if n=8 then IntKind.i8.wrap a else if n=16 then IntKind.i16.wrap a else if n=32 then IntKind.i32.wrap a else a
theorem wrn_i8 {a:Int}:IntKind.i64.wrap (IntKind.i8.wrap a)=IntKind.i8.wrap a:=by simp[IntKind.wrap,IntKind.bits,IntKind.signed];omega
theorem wrn_i16 {a:Int}:IntKind.i64.wrap (IntKind.i16.wrap a)=IntKind.i16.wrap a:=by simp[IntKind.wrap,IntKind.bits,IntKind.signed];omega
theorem wrn_i32 {a:Int}:IntKind.i64.wrap (IntKind.i32.wrap a)=IntKind.i32.wrap a:=by simp[IntKind.wrap,IntKind.bits,IntKind.signed];omega
theorem narrow_c {h:DHeap} {a n:Int}:DC Try.prog 17 [.int .i64 a,.int .i64 n] h (.ret (.int .i64 (narrow a n))) h:=by
 refine Ct.pure (go_17 (by simp) ?_) (vin_int _ _)
 by_cases h8:n=8
 ·simp -implicitDefEqProofs (disch:=first|omega|simp only[go_sem]) only[go_sem,true_and,c17,h8]
  exact ⟨_,rfl,congrArg (fun z=>DEnd.ret (Value.int IntKind.i64 z)) wrn_i8,.refl _⟩
 by_cases h16:n=16
 ·simp -implicitDefEqProofs (disch:=first|omega|simp only[go_sem]) only[go_sem,true_and,c17,h16]
  exact ⟨_,rfl,congrArg (fun z=>DEnd.ret (Value.int IntKind.i64 z)) wrn_i16,.refl _⟩
 by_cases h32:n=32
 ·simp -implicitDefEqProofs (disch:=first|omega|simp only[go_sem]) only[go_sem,true_and,c17,h32]
  exact ⟨_,rfl,congrArg (fun z=>DEnd.ret (Value.int IntKind.i64 z)) wrn_i32,.refl _⟩
 simp -implicitDefEqProofs (disch:=first|omega|simp only[go_sem]) only[go_sem,true_and,c17,h8,h16,h32]
 exact ⟨_,rfl,by simp[narrow,h8,h16,h32],.refl _⟩
theorem sh8 {a:Int}:(IntKind.i64.wrap (a*2 ^ 56)).fdiv (2 ^ 56)=IntKind.i8.wrap a:=by
 rw[Int.fdiv_eq_ediv_of_nonneg _ (by decide)];simp[IntKind.wrap,IntKind.bits,IntKind.signed];omega
theorem sh16 {a:Int}:(IntKind.i64.wrap (a*2 ^ 48)).fdiv (2 ^ 48)=IntKind.i16.wrap a:=by
 rw[Int.fdiv_eq_ediv_of_nonneg _ (by decide)];simp[IntKind.wrap,IntKind.bits,IntKind.signed];omega
theorem sh32 {a:Int}:(IntKind.i64.wrap (a*2 ^ 32)).fdiv (2 ^ 32)=IntKind.i32.wrap a:=by
 rw[Int.fdiv_eq_ediv_of_nonneg _ (by decide)];simp[IntKind.wrap,IntKind.bits,IntKind.signed];omega
theorem narrow_r {h:DHeap} {a n:Int}:DC Try.prog 18 [.int .i64 a,.int .i64 n] h (.ret (.int .i64 (narrow a n))) h:=by
 refine Ct.pure (go_18 (by simp) ?_) (vin_int _ _)
 by_cases h8:n=8
 ·have e1:IntKind.i64.wrap (64 - 8)=56:=by decide
  have e2:IntKind.u64.wrap 56=56:=by decide
  simp -implicitDefEqProofs (disch:=first|omega|simp only[go_sem]) only[go_sem,true_and,c18,h8,e1,e2]
  exact ⟨_,rfl,congrArg (fun z=>DEnd.ret (Value.int IntKind.i64 z)) sh8,.refl _⟩
 by_cases h16:n=16
 ·have e1:IntKind.i64.wrap (64 - 16)=48:=by decide
  have e2:IntKind.u64.wrap 48=48:=by decide
  simp -implicitDefEqProofs (disch:=first|omega|simp only[go_sem]) only[go_sem,true_and,c18,h16,e1,e2]
  exact ⟨_,rfl,congrArg (fun z=>DEnd.ret (Value.int IntKind.i64 z)) sh16,.refl _⟩
 by_cases h32:n=32
 ·have e1:IntKind.i64.wrap (64 - 32)=32:=by decide
  have e2:IntKind.u64.wrap 32=32:=by decide
  simp -implicitDefEqProofs (disch:=first|omega|simp only[go_sem]) only[go_sem,true_and,c18,h32,e1,e2]
  exact ⟨_,rfl,congrArg (fun z=>DEnd.ret (Value.int IntKind.i64 z)) sh32,.refl _⟩
 simp -implicitDefEqProofs (disch:=first|omega|simp only[go_sem]) only[go_sem,true_and,c18,h8,h16,h32]
 exact ⟨_,rfl,by simp[narrow,h8,h16,h32],.refl _⟩
end Go.Proofs.Ythjmkmoiopmfcaa

namespace Go.Proofs.Ythjmkmoiopmfcaa
open Go.D
set_option maxRecDepth 100000
def cnt (b:Int):Nat:=(BitVec.ofInt 64 b &&& BitVec.ofInt 64 63).toNat
theorem cnt_lt (b:Int):cnt b<64:=by
 have:(BitVec.ofInt 64 b &&& BitVec.ofInt 64 63).toNat≤(BitVec.ofInt 64 63).toNat:=by rw[BitVec.toNat_and];exact Nat.and_le_right
 have e:(BitVec.ofInt 64 63).toNat=63:=by decide
 unfold cnt;omega
theorem bits64:IntKind.i64.bits=64:=rfl
theorem bitsu64:IntKind.u64.bits=64:=rfl
theorem ofInt_wrap {a:Int}:BitVec.ofInt 64 (IntKind.u64.wrap a)=BitVec.ofInt 64 a:=by
 apply BitVec.eq_of_toInt_eq
 rw[BitVec.toInt_ofInt,BitVec.toInt_ofInt]
 simp[IntKind.wrap,IntKind.bits,IntKind.signed]
 exact Int.emod_bmod a 18446744073709551616
theorem cnt_u {b:Int}:IntKind.u64.wrap (cnt b:Nat)=cnt b:=by have:=cnt_lt b;simp[IntKind.wrap,IntKind.bits,IntKind.signed];omega
theorem cnt_i {b:Int}:IntKind.i64.wrap (cnt b:Nat)=cnt b:=by have:=cnt_lt b;simp[IntKind.wrap,IntKind.bits,IntKind.signed];omega
theorem cnt_eq {b:Int}:(BitVec.ofInt 64 b &&& BitVec.ofInt 64 63).toNat=cnt b:=rfl
theorem min_cnt {b:Int}:min (cnt b) 64=cnt b:=by have:=cnt_lt b;omega
theorem bin_cnt {P:Program} {t:TypeId} {ox oy:Operand} {b:Int} {h:DHeap}:dBinOp P .and t ox oy (.int .u64 (IntKind.u64.wrap b)) (.int .u64 63) h=.ok (.value (.int .u64 (cnt b:Nat))) h:=by
 refine bin_and.trans ?_
 show DR.ok (.value (.int .u64 (IntKind.u64.wrap (((BitVec.ofInt 64 (IntKind.u64.wrap b) &&& BitVec.ofInt 64 63).toNat:Nat):Int)))) h=_
 rw[ofInt_wrap,cnt_eq,cnt_u]
theorem bin_cnti {P:Program} {t:TypeId} {ox oy:Operand} {b:Int} {h:DHeap}:dBinOp P .and t ox oy (.int .i64 b) (.int .i64 63) h=.ok (.value (.int .i64 (cnt b:Nat))) h:=by
 refine bin_and.trans ?_
 show DR.ok (.value (.int .i64 (IntKind.i64.wrap (((BitVec.ofInt 64 b &&& BitVec.ofInt 64 63).toNat:Nat):Int)))) h=_
 rw[cnt_eq,cnt_i]
def bin2 (op a b:Int):Int × Int:=
 let w:=IntKind.i64.wrap
 if op=8 then (w (a+b),0) else if op=9 then (w (a - b),0) else if op=10 then (w (a*b),0)
 else if op=11 then (if b=0 then (0,3) else (w (a.tdiv b),0))
 else if op=12 then (if b=0 then (0,3) else (a.tmod b,0))
 else if op=13 then (w (BitVec.ofInt 64 a &&& BitVec.ofInt 64 b).toNat,0)
 else if op=14 then (w (BitVec.ofInt 64 a ||| BitVec.ofInt 64 b).toNat,0)
 else if op=15 then (w (BitVec.ofInt 64 a ^^^ BitVec.ofInt 64 b).toNat,0)
 else if op=16 then (w (a*2 ^ cnt b),0)
 else if op=17 then (a.fdiv (2 ^ cnt b),0)
 else if op=18 then (w ((IntKind.u64.wrap a).fdiv (2 ^ cnt b)),0)
 else if op=20 then (if a<b then 1 else 0,0)
 else if op=21 then (if a=b then 1 else 0,0)
 else (0,1)
def bin2V (op a b:Int):Value:=.tuple #[.int .i64 (bin2 op a b).1,.int .i64 (bin2 op a b).2]
theorem divide_c {h:DHeap} {a b:Int}:DC Try.prog 44 [.int .i64 a,.int .i64 b] h (.ret (.tuple #[.int .i64 (if b=0 then 0 else IntKind.i64.wrap (a.tdiv b)),.int .i64 (if b=0 then 0 else a.tmod b),.bool (!decide (b=0))])) h:=by
 refine Ct.pure (go_44 (by simp) ?_) (flat3_vin _ rfl)
 by_cases hb:b=0
 ·simp -implicitDefEqProofs (disch:=first|omega|simp only[go_sem]) only[go_sem,true_and,c44,hb]
  exact ⟨_,rfl,rfl,.refl _⟩
 by_cases ha:a=-9223372036854775808
 ·by_cases h1:b=-1
  ·simp -implicitDefEqProofs (disch:=first|omega|simp only[go_sem]) only[go_sem,true_and,c44,hb,ha,h1]
   exact ⟨_,rfl,by rfl,.refl _⟩
  ·simp -implicitDefEqProofs (disch:=first|omega|simp only[go_sem]) only[go_sem,true_and,c44,hb,ha,h1]
   refine yr_44_0 rfl ?_
   simp -implicitDefEqProofs (disch:=first|omega|simp only[go_sem]) only[go_sem,true_and,g44_0,q44_0]
   simp -implicitDefEqProofs (disch:=first|omega|simp only[go_sem]) only[go_sem,true_and,bin_quo hb,bin_rem hb]
   exact ⟨_,rfl,by simp[hb],.refl _⟩
 ·simp -implicitDefEqProofs (disch:=first|omega|simp only[go_sem]) only[go_sem,true_and,c44,hb,ha]
  refine yr_44_0 rfl ?_
  simp -implicitDefEqProofs (disch:=first|omega|simp only[go_sem]) only[go_sem,true_and,g44_0,q44_0]
  simp -implicitDefEqProofs (disch:=first|omega|simp only[go_sem]) only[go_sem,true_and,bin_quo hb,bin_rem hb]
  exact ⟨_,rfl,by simp[hb],.refl _⟩
theorem binary_c {h:DHeap} {o a b:Int}:DC Try.prog 15 [.int .i64 o,.int .i64 a,.int .i64 b] h (.ret (bin2V o a b)) h:=by
 refine Ct.pure (go_15 (by simp) ?_) (flat3_vin _ rfl)
 have n0:¬ ((cnt b:Nat):Int)<0:=by omega
 simp -implicitDefEqProofs (disch:=first|omega|simp only[go_sem]) only[go_sem,true_and,c15,↓bin_cnt]
 by_cases h8:o=8
 ·simp -implicitDefEqProofs (disch:=first|omega|simp only[go_sem]) only[go_sem,true_and,h8];exact ⟨_,rfl,rfl,.refl _⟩
 by_cases h9:o=9
 ·simp -implicitDefEqProofs (disch:=first|omega|simp only[go_sem]) only[go_sem,true_and,h9];exact ⟨_,rfl,rfl,.refl _⟩
 by_cases h10:o=10
 ·simp -implicitDefEqProofs (disch:=first|omega|simp only[go_sem]) only[go_sem,true_and,h10];exact ⟨_,rfl,rfl,.refl _⟩
 by_cases h11:o=11
 ·simp -implicitDefEqProofs (disch:=first|omega|simp only[go_sem]) only[go_sem,true_and,h11]
  refine ncall divide_c ?_
  by_cases hb:b=0
  ·simp -implicitDefEqProofs (disch:=first|omega|simp only[go_sem]) only[go_sem,true_and,hb];exact ⟨_,rfl,by simp[bin2V,bin2],.refl _⟩
  ·simp -implicitDefEqProofs (disch:=first|omega|simp only[go_sem]) only[go_sem,true_and,hb];exact ⟨_,rfl,by simp[bin2V,bin2,hb],.refl _⟩
 by_cases h12:o=12
 ·simp -implicitDefEqProofs (disch:=first|omega|simp only[go_sem]) only[go_sem,true_and,h12]
  refine ncall divide_c ?_
  by_cases hb:b=0
  ·simp -implicitDefEqProofs (disch:=first|omega|simp only[go_sem]) only[go_sem,true_and,hb];exact ⟨_,rfl,by simp[bin2V,bin2],.refl _⟩
  ·simp -implicitDefEqProofs (disch:=first|omega|simp only[go_sem]) only[go_sem,true_and,hb];exact ⟨_,rfl,by simp[bin2V,bin2,hb],.refl _⟩
 by_cases h13:o=13
 ·simp -implicitDefEqProofs (disch:=first|omega|simp only[go_sem]) only[go_sem,true_and,h13,bits64];exact ⟨_,rfl,rfl,.refl _⟩
 by_cases h14:o=14
 ·simp -implicitDefEqProofs (disch:=first|omega|simp only[go_sem]) only[go_sem,true_and,h14,bits64];exact ⟨_,rfl,rfl,.refl _⟩
 by_cases h15:o=15
 ·simp -implicitDefEqProofs (disch:=first|omega|simp only[go_sem]) only[go_sem,true_and,h15,bits64];exact ⟨_,rfl,rfl,.refl _⟩
 by_cases h16:o=16
 ·simp -implicitDefEqProofs (disch:=first|omega|simp only[go_sem]) only[go_sem,true_and,h16,bits64,bin_shl n0,Int.toNat_natCast,min_cnt];exact ⟨_,rfl,rfl,.refl _⟩
 by_cases h17:o=17
 ·simp -implicitDefEqProofs (disch:=first|omega|simp only[go_sem]) only[go_sem,true_and,h17,bits64,bin_shr n0,Int.toNat_natCast,min_cnt];exact ⟨_,rfl,rfl,.refl _⟩
 by_cases h18:o=18
 ·simp -implicitDefEqProofs (disch:=first|omega|simp only[go_sem]) only[go_sem,true_and,h18,bitsu64,bin_shr n0,Int.toNat_natCast,min_cnt];exact ⟨_,rfl,rfl,.refl _⟩
 by_cases h20:o=20
 ·simp -implicitDefEqProofs (disch:=first|omega|simp only[go_sem]) only[go_sem,true_and,h20]
  refine ncall truth_c ?_
  simp -implicitDefEqProofs (disch:=first|omega|simp only[go_sem]) only[go_sem,true_and]
  exact ⟨_,rfl,by simp[bin2V,bin2],.refl _⟩
 by_cases h21:o=21
 ·simp -implicitDefEqProofs (disch:=first|omega|simp only[go_sem]) only[go_sem,true_and,h21]
  refine ncall truth_c ?_
  simp -implicitDefEqProofs (disch:=first|omega|simp only[go_sem]) only[go_sem,true_and]
  exact ⟨_,rfl,by simp[bin2V,bin2],.refl _⟩
 simp -implicitDefEqProofs (disch:=first|omega|simp only[go_sem]) only[go_sem,true_and,h8,h9,h10,h11,h12,h13,h14,h15,h16,h17,h18,h20,h21]
 exact ⟨_,rfl,by simp[bin2V,bin2, *],.refl _⟩
theorem binary_r {h:DHeap} {o a b:Int}:DC Try.prog 16 [.int .i64 o,.int .i64 a,.int .i64 b] h (.ret (bin2V o a b)) h:=by
 refine Ct.pure (go_16 (by simp) ?_) (flat3_vin _ rfl)
 have n0:¬ ((cnt b:Nat):Int)<0:=by omega
 simp -implicitDefEqProofs (disch:=first|omega|simp only[go_sem]) only[go_sem,true_and,c16,↓bin_cnti,cnt_u]
 by_cases h8:o=8
 ·simp -implicitDefEqProofs (disch:=first|omega|simp only[go_sem]) only[go_sem,true_and,h8];exact ⟨_,rfl,rfl,.refl _⟩
 by_cases h9:o=9
 ·simp -implicitDefEqProofs (disch:=first|omega|simp only[go_sem]) only[go_sem,true_and,h9];exact ⟨_,rfl,rfl,.refl _⟩
 by_cases h10:o=10
 ·simp -implicitDefEqProofs (disch:=first|omega|simp only[go_sem]) only[go_sem,true_and,h10];exact ⟨_,rfl,rfl,.refl _⟩
 by_cases h11:o=11
 ·by_cases hb:b=0
  ·simp -implicitDefEqProofs (disch:=first|omega|simp only[go_sem]) only[go_sem,true_and,h11,hb];exact ⟨_,rfl,by simp[bin2V,bin2,oneOrTuple],.refl _⟩
  ·simp -implicitDefEqProofs (disch:=first|omega|simp only[go_sem]) only[go_sem,true_and,h11,hb,bin_quo hb];exact ⟨_,rfl,by simp[bin2V,bin2,hb,oneOrTuple],.refl _⟩
 by_cases h12:o=12
 ·by_cases hb:b=0
  ·simp -implicitDefEqProofs (disch:=first|omega|simp only[go_sem]) only[go_sem,true_and,h12,hb];exact ⟨_,rfl,by simp[bin2V,bin2,oneOrTuple],.refl _⟩
  ·simp -implicitDefEqProofs (disch:=first|omega|simp only[go_sem]) only[go_sem,true_and,h12,hb,bin_rem hb];exact ⟨_,rfl,by simp[bin2V,bin2,hb,oneOrTuple],.refl _⟩
 by_cases h13:o=13
 ·simp -implicitDefEqProofs (disch:=first|omega|simp only[go_sem]) only[go_sem,true_and,h13,bits64];exact ⟨_,rfl,rfl,.refl _⟩
 by_cases h14:o=14
 ·simp -implicitDefEqProofs (disch:=first|omega|simp only[go_sem]) only[go_sem,true_and,h14,bits64];exact ⟨_,rfl,rfl,.refl _⟩
 by_cases h15:o=15
 ·simp -implicitDefEqProofs (disch:=first|omega|simp only[go_sem]) only[go_sem,true_and,h15,bits64];exact ⟨_,rfl,rfl,.refl _⟩
 by_cases h16:o=16
 ·simp -implicitDefEqProofs (disch:=first|omega|simp only[go_sem]) only[go_sem,true_and,h16,bits64,bin_shl n0,Int.toNat_natCast,min_cnt];exact ⟨_,rfl,rfl,.refl _⟩
 by_cases h17:o=17
 ·simp -implicitDefEqProofs (disch:=first|omega|simp only[go_sem]) only[go_sem,true_and,h17,bits64,bin_shr n0,Int.toNat_natCast,min_cnt];exact ⟨_,rfl,rfl,.refl _⟩
 by_cases h18:o=18
 ·simp -implicitDefEqProofs (disch:=first|omega|simp only[go_sem]) only[go_sem,true_and,h18,bitsu64,bin_shr n0,Int.toNat_natCast,min_cnt];exact ⟨_,rfl,rfl,.refl _⟩
 by_cases h20:o=20
 ·simp -implicitDefEqProofs (disch:=first|omega|simp only[go_sem]) only[go_sem,true_and,h20]
  refine ncall truth_r ?_
  simp -implicitDefEqProofs (disch:=first|omega|simp only[go_sem]) only[go_sem,true_and]
  exact ⟨_,rfl,by simp[bin2V,bin2],.refl _⟩
 by_cases h21:o=21
 ·simp -implicitDefEqProofs (disch:=first|omega|simp only[go_sem]) only[go_sem,true_and,h21]
  refine ncall truth_r ?_
  simp -implicitDefEqProofs (disch:=first|omega|simp only[go_sem]) only[go_sem,true_and]
  exact ⟨_,rfl,by simp[bin2V,bin2],.refl _⟩
 simp -implicitDefEqProofs (disch:=first|omega|simp only[go_sem]) only[go_sem,true_and,h8,h9,h10,h11,h12,h13,h14,h15,h16,h17,h18,h20,h21]
 exact ⟨_,rfl,by simp[bin2V,bin2, *],.refl _⟩
end Go.Proofs.Ythjmkmoiopmfcaa

namespace Go.Proofs.Ythjmkmoiopmfcaa
open Go.D
set_option maxRecDepth 100000
theorem nan32_c {h:DHeap} {n:Int}:DC Try.prog 97 [.int .i32 n] h (.ret (.bool false)) h:=by
 refine Ct.pure (go_97 (by simp) ?_) (vin_bool _)
 simp -implicitDefEqProofs (disch:=first|omega|simp only[go_sem]) only[go_sem,c97]
 exact ⟨_,rfl,rfl,.refl h⟩
theorem nan64_c {h:DHeap} {n:Int}:DC Try.prog 98 [.int .i64 n] h (.ret (.bool false)) h:=by
 refine Ct.pure (go_98 (by simp) ?_) (vin_bool _)
 simp -implicitDefEqProofs (disch:=first|omega|simp only[go_sem]) only[go_sem,c98]
 exact ⟨_,rfl,rfl,.refl h⟩
def cmpI (a b:Int):Int:=if a<b then -1 else if b<a then 1 else 0
theorem cmp32_c {h:DHeap} {a b:Int}:DC Try.prog 89 [.int .i32 a,.int .i32 b] h (.ret (.int .i64 (cmpI a b))) h:=by
 refine Ct.pure (go_89 (by simp) ?_) (vin_int _ _)
 unfold cmpI
 simp -implicitDefEqProofs (disch:=first|omega|simp only[go_sem]) only[go_sem,c89]
 refine ncall nan32_c ?_
 simp -implicitDefEqProofs (disch:=first|omega|simp only[go_sem]) only[go_sem]
 refine ncall nan32_c ?_
 by_cases h0:a<b
 ·simp -implicitDefEqProofs (disch:=first|omega|simp only[go_sem]) only[go_sem,h0]
  exact ⟨_,rfl,rfl,.refl h⟩
 by_cases h1:b<a
 ·simp -implicitDefEqProofs (disch:=first|omega|simp only[go_sem]) only[go_sem,h0,gt_iff_lt,h1]
  exact ⟨_,rfl,rfl,.refl h⟩
 ·simp -implicitDefEqProofs (disch:=first|omega|simp only[go_sem]) only[go_sem,h0,gt_iff_lt,h1]
  exact ⟨_,rfl,rfl,.refl h⟩
theorem cmp64_c {h:DHeap} {a b:Int}:DC Try.prog 90 [.int .i64 a,.int .i64 b] h (.ret (.int .i64 (cmpI a b))) h:=by
 refine Ct.pure (go_90 (by simp) ?_) (vin_int _ _)
 unfold cmpI
 simp -implicitDefEqProofs (disch:=first|omega|simp only[go_sem]) only[go_sem,c90]
 refine ncall nan64_c ?_
 simp -implicitDefEqProofs (disch:=first|omega|simp only[go_sem]) only[go_sem]
 refine ncall nan64_c ?_
 by_cases h0:a<b
 ·simp -implicitDefEqProofs (disch:=first|omega|simp only[go_sem]) only[go_sem,h0]
  exact ⟨_,rfl,rfl,.refl h⟩
 by_cases h1:b<a
 ·simp -implicitDefEqProofs (disch:=first|omega|simp only[go_sem]) only[go_sem,h0,gt_iff_lt,h1]
  exact ⟨_,rfl,rfl,.refl h⟩
 ·simp -implicitDefEqProofs (disch:=first|omega|simp only[go_sem]) only[go_sem,h0,gt_iff_lt,h1]
  exact ⟨_,rfl,rfl,.refl h⟩
def orI:List Int→Int
 | []=>0
 | a :: l=>if a=0 then orI l else a
theorem or_c {h:DHeap} {b:Value} {l:List Int} (hb:Arg fI64.rep h b l) (hlen:l.length≤4294967296):DC Try.prog 88 [b] h (.ret (.int .i64 (orI l))) h:=by
 refine Ct.pure (go_88 (by simp) ?_) (vin_int _ _)
 have el:=hb.dLen (P:=Try.prog) (ts:=#[138]) (t:=138) rfl isl_138
 simp -implicitDefEqProofs (disch:=first|omega|simp only[go_sem]) only[go_sem,c88,el]
 refine xloop (σ:=Nat) (by kernel_rfl) (fun i s=>s.df=[]∧s.h=h∧s.fr 3=some (.int .i64 0)∧s.fr 6=some b∧s.fr 7=some (.int .i64 l.length)∧s.fr 8=some (.int .i64 (i:Nat))∧i≤l.length∧orI (l.drop i)=orI l) (fun i=>l.length - i) 0 ?_ ?_
 ·simp -implicitDefEqProofs (disch:=first|omega|simp only[go_sem]) only[go_sem]
  exact ⟨by trivial,by trivial,by trivial,by trivial,by trivial,by trivial,Nat.zero_le _,by rw[List.drop_zero]⟩
 ·rintro i ⟨fr,df,hh,rd⟩ K hK hX ⟨rfl,rfl,h3,h6,h7,h8,hi,ho⟩
  simp only at h3 h6 h7 h8
  simp -implicitDefEqProofs (disch:=first|omega|simp only[go_sem]) only[go_sem,h3,h6,h7,h8]
  refine XIf_dec (fun hc1=>?_) (fun hc1=>?_)
  ·have hj:i<l.length:=by omega
   obtain ⟨id2,o2,e2,_,hat2⟩:=hb.idx (P:=Try.prog) (t:=138) el_138 (k:=.i64) (i:=i) (x:=l[i]) (by simp)
   have hw:=wrap_succ hj (by omega)
   rw[List.drop_eq_getElem_cons hj]at ho
   by_cases hx:l[i]=0
   ·simp -implicitDefEqProofs (disch:=first|omega|simp only[go_sem]) only[go_sem,h3,h6,h7,h8,e2,hat2.int,hx,hw]
    refine hK (i+1) _ ?_ (by omega)
    exact ⟨by trivial,by trivial,by simp -implicitDefEqProofs (disch:=first|omega|simp only[go_sem]) only[go_sem,h3],by simp -implicitDefEqProofs (disch:=first|omega|simp only[go_sem]) only[go_sem,h6],by simp -implicitDefEqProofs (disch:=first|omega|simp only[go_sem]) only[go_sem,h7],vz,by omega,by rw[← ho,orI,if_pos hx]⟩
   ·simp -implicitDefEqProofs (disch:=first|omega|simp only[go_sem]) only[go_sem,h3,h6,h7,h8,e2,hat2.int,hx,hw]
    refine hX _ _ (by simp) ?_
    simp -implicitDefEqProofs (disch:=first|omega|simp only[go_sem]) only[go_sem]
    refine ⟨_,rfl,?_,.refl hh⟩
    rw[← ho,orI,if_neg hx]
  ·obtain rfl:i=l.length:=by omega
   refine hX _ _ (by simp) ?_
   simp -implicitDefEqProofs (disch:=first|omega|simp only[go_sem]) only[go_sem,h3]
   refine ⟨_,rfl,?_,.refl hh⟩
   rw[← ho,List.drop_length];rfl
end Go.Proofs.Ythjmkmoiopmfcaa

namespace Go.Proofs.Ythjmkmoiopmfcaa
open Go.D
set_option maxRecDepth 100000
abbrev keyV (k:Key):Value:=.agg #[.int .i32 k.t,.int .i64 k.r]
def keyLt (a b:Key):Bool:=decide (a.t<b.t)||(decide (a.t=b.t)&&decide (a.r<b.r))
def keyCmp (a b:Key):Int:=if cmpI a.t b.t=0 then cmpI a.r b.r else cmpI a.t b.t
theorem cmpI_zero {a b:Int}:cmpI a b=0↔a=b:=by
 unfold cmpI;split
 ·constructor <;> intro h <;> omega
 ·split
  ·constructor <;> intro h <;> omega
  ·constructor <;> intro h <;> omega
theorem cmpI_neg {a b:Int}:cmpI a b<0↔a<b:=by
 unfold cmpI;split
 ·constructor <;> intro h <;> omega
 ·split
  ·constructor <;> intro h <;> omega
  ·constructor <;> intro h <;> omega
theorem keyCmp_neg (a b:Key):decide (keyCmp a b<0)=keyLt a b:=by
 unfold keyCmp keyLt
 by_cases h:a.t=b.t
 ·rw[if_pos (cmpI_zero.2 h)]
  rw[show decide (a.t<b.t)=false by simp;omega,show decide (a.t=b.t)=true by simp[h]]
  simp[cmpI_neg]
 ·rw[if_neg (fun hh=>h (cmpI_zero.1 hh)),show decide (a.t=b.t)=false by simp[h]]
  simp[cmpI_neg]
theorem keyCmp_or (a b:Key):orI [cmpI a.t b.t,cmpI a.r b.r]=keyCmp a b:=by
 unfold keyCmp orI orI orI
 split
 ·split
  ·rename_i h;exact h.symm
  ·rfl
 ·rfl
theorem cmpI_ok (a b:Int):inK .i64 (cmpI a b):=by
 unfold cmpI;split
 ·exact inK_i64.2 ⟨by decide,by decide⟩
 ·split <;> exact inK_i64.2 ⟨by decide,by decide⟩
theorem compare_c {h:DHeap} {a b:Key}:DC Try.prog 76 [keyV a,keyV b] h (.ret (.int .i64 (keyCmp a b))) h:=by
 refine Ct.pure (go_76 (by simp) ?_) (vin_int _ _)
 simp -implicitDefEqProofs (disch:=first|omega|simp only[go_sem]) only[go_sem,c76]
 refine dr_76_0 ?_
 simp -implicitDefEqProofs (disch:=first|omega|simp only[go_sem]) only[go_sem,l76_0,cellAt_p1,cellAt_p0,Nat.add_zero,Nat.zero_add]
 refine dcall cmp32_c ?_
 simp -implicitDefEqProofs (disch:=first|omega|simp only[go_sem]) only[go_sem,l76_0,cellAt_p1,cellAt_p0,Nat.add_zero,Nat.zero_add]
 refine dcall cmp64_c ?_
 simp -implicitDefEqProofs (disch:=first|omega|simp only[go_sem]) only[go_sem]
 have ha:∀ K:DHeap,Arg fI64.rep (K.push (.row [.int .i64 (cmpI a.t b.t),.int .i64 (cmpI a.r b.r)] 1 false)) (.slice (some ⟨K.next,0,none⟩) 2 2) [cmpI a.t b.t,cmpI a.r b.r]:=fun K=>
  built fI64 K rfl rfl rfl (fun x hx=>by
   rcases List.mem_cons.1 hx with rfl | hx
   ·exact cmpI_ok _ _
   ·rw[List.mem_singleton.1 hx];exact cmpI_ok _ _)
 refine dcall (or_c (ha _) (Nat.le_of_ble_eq_true rfl)) ?_
 rw[keyCmp_or]
 simp -implicitDefEqProofs (disch:=first|omega|simp only[go_sem]) only[go_sem,Nat.reduceAdd]
 refine ⟨⟨XSt1_at (i:=6) (j:=4) rfl rfl rfl ?_,XSt1_at (i:=8) (j:=4) rfl rfl rfl ?_,trivial⟩,_,rfl,rfl,((Ext.push1 _ _).push _).push _⟩
 ·rw[if_pos (by decide)]
  refine Ld_on (p:=.pointer (some ⟨h.next,1,none⟩)) ?_ ?_ (ld_2.trans cellAt_p1)
  ·simp -implicitDefEqProofs (disch:=first|omega|simp only[go_sem]) only[go_sem]
  ·simp -implicitDefEqProofs (disch:=first|omega|simp only[go_sem]) only[go_sem]
 ·rw[if_pos (by decide)]
  refine Ld_on (p:=.pointer (some ⟨_,1,none⟩)) ?_ ?_ (ld_2.trans cellAt_p0)
  ·simp -implicitDefEqProofs (disch:=first|omega|simp only[go_sem]) only[go_sem]
  ·simp -implicitDefEqProofs (disch:=first|omega|simp only[go_sem]) only[go_sem]
theorem less_c {h:DHeap} {a b:Key}:DC Try.prog 22 [keyV a,keyV b] h (.ret (.bool (keyLt a b))) h:=by
 refine Ct.pure (go_22 (by simp) ?_) (vin_bool _)
 unfold keyLt
 by_cases h0:a.t<b.t
 ·simp -implicitDefEqProofs (disch:=first|omega|simp only[go_sem]) only[go_sem,c22,cellAt_p1,cellAt_p0,Nat.add_zero,Nat.zero_add,h0,dPick_t,dPick_f,Bool.true_or]
  exact ⟨_,rfl,rfl,(Ext.push1 _ _).push _⟩
 by_cases h1:a.t=b.t
 ·simp -implicitDefEqProofs (disch:=first|omega|simp only[go_sem]) only[go_sem,c22,cellAt_p1,cellAt_p0,Nat.add_zero,Nat.zero_add,h0,h1,dPick_t,dPick_f,Bool.false_or,Bool.true_and,Int.lt_irrefl]
  exact ⟨_,rfl,rfl,(Ext.push1 _ _).push _⟩
 ·simp -implicitDefEqProofs (disch:=first|omega|simp only[go_sem]) only[go_sem,c22,cellAt_p1,cellAt_p0,Nat.add_zero,Nat.zero_add,h0,h1,dPick_t,dPick_f,Bool.false_or,Bool.false_and]
  exact ⟨_,rfl,rfl,(Ext.push1 _ _).push _⟩
def risesB {α:Type} (lt:α→α→Bool):List α→Bool
 | a :: b :: l=>lt a b&&risesB lt (b :: l)
 | _=>true
theorem risesB_short {α:Type} {lt:α→α→Bool}:∀ {l:List α},l.length≤1→risesB lt l=true
 | [],_=>rfl
 | [_],_=>rfl
 | _ :: _ :: _,h=>by simp at h
theorem risesB_two {α:Type} {lt:α→α→Bool} {l:List α} {j:Nat} (h:j+1<l.length):risesB lt (l.drop j)=(lt l[j] l[j+1]&&risesB lt (l.drop (j+1))):=by
 rw[List.drop_eq_getElem_cons (show j<l.length by omega),List.drop_eq_getElem_cons h,risesB]
end Go.Proofs.Ythjmkmoiopmfcaa

namespace Go.Proofs.Ythjmkmoiopmfcaa
open Go.D
set_option maxRecDepth 100000
end Go.Proofs.Ythjmkmoiopmfcaa

namespace Go.Proofs.Ythjmkmoiopmfcaa
open Go.D
set_option maxRecDepth 100000
end Go.Proofs.Ythjmkmoiopmfcaa

namespace Go.Proofs.Ythjmkmoiopmfcaa
open Go.D
set_option maxRecDepth 100000
end Go.Proofs.Ythjmkmoiopmfcaa

namespace Go.Proofs.Ythjmkmoiopmfcaa
open Go.D
set_option maxRecDepth 100000
theorem fld_key:fldsOf Try.prog 44=some [(21,0),(2,1)]:=by kernel_rfl
theorem und_i32:Try.prog.underlying 21=some (.int .i32):=by kernel_rfl
theorem und_i64:Try.prog.underlying 2=some (.int .i64):=by kernel_rfl
theorem grd_key:Try.prog.eqGuardType Try.prog.depth 44=false:=by kernel_rfl
theorem Key.ext_iff' {a b:Key}:a=b↔a.t=b.t∧a.r=b.r:=by cases a;cases b;simp
theorem Cell.ext_iff' {a b:Cell}:a=b↔a.k=b.k∧a.v=b.v∧a.s=b.s:=by cases a;cases b;simp
theorem key_eq (d:Nat) (a b:Key):quick Try.prog (Op.equalIn (d+1+1) 44 (keyV a) (keyV b))=some (.inr (decide (a=b))):=by
 refine quick_struct fld_key ⟨_,_,_,_,quick_part_one one_21 rfl,quick_part_one one_21 rfl,quick_int und_i32,⟨_,_,_,_,quick_part_one one_2 rfl,quick_part_one one_2 rfl,quick_int und_i64,rfl,rfl⟩,?_⟩
 rw[decide_eq_decide.2 Key.ext_iff',Bool.decide_and,Bool.and_true]
 rfl
theorem bin_key {a b:Key} {h:DHeap} {ox oy:Operand}:dBinOp Try.prog .neq 44 ox oy (keyV a) (keyV b) h=.ok (.value (.bool (!decide (a=b)))) h:=(bin_agg rfl rfl grd_key (key_eq 9998 a b)).2
theorem bin_key' {a b:Key} {h:DHeap} {ox oy:Operand}:dBinOp Try.prog .eql 44 ox oy (keyV a) (keyV b) h=.ok (.value (.bool (decide (a=b)))) h:=(bin_agg rfl rfl grd_key (key_eq 9998 a b)).1
def sameL {α:Type} (eq:α→α→Bool):List α→List α→Bool
 | [],[]=>true
 | a :: l,b :: m=>eq a b&&sameL eq l m
 | _,_=>false
theorem sameL_len {α:Type} {eq:α→α→Bool}:∀ {l m:List α},l.length≠m.length→sameL eq l m=false
 | [],[],h=>by simp at h
 | [],_ :: _,_=>rfl
 | _ :: _,[],_=>rfl
 | a :: l,b :: m,h=>by
   simp only[sameL]
   rw[sameL_len (l:=l) (m:=m) (by simpa using h),Bool.and_false]
theorem sameL_drop {α:Type} {eq:α→α→Bool} {l m:List α} {i:Nat} (hl:i<l.length) (hm:i<m.length):sameL eq (l.drop i) (m.drop i)=(eq l[i] m[i]&&sameL eq (l.drop (i+1)) (m.drop (i+1))):=by
 rw[List.drop_eq_getElem_cons hl,List.drop_eq_getElem_cons hm,sameL]
theorem sameL_end {α:Type} {eq:α→α→Bool} {l m:List α} (h:l.length=m.length):sameL eq (l.drop l.length) (m.drop l.length)=true:=by
 rw[List.drop_length,h,List.drop_length];rfl
end Go.Proofs.Ythjmkmoiopmfcaa

namespace Go.Proofs.Ythjmkmoiopmfcaa
open Go.D
set_option maxRecDepth 100000
end Go.Proofs.Ythjmkmoiopmfcaa

namespace Go.Proofs.Ythjmkmoiopmfcaa
open Go.D
set_option maxRecDepth 100000
end Go.Proofs.Ythjmkmoiopmfcaa

namespace Go.Proofs.Ythjmkmoiopmfcaa
open Go.D
set_option maxRecDepth 100000
end Go.Proofs.Ythjmkmoiopmfcaa

namespace Go.Proofs.Ythjmkmoiopmfcaa
open Go.D
set_option maxRecDepth 100000
theorem Sl.upto {S:Nat→Prop} {h h1:DHeap} {b:Value} {l:List Int} (hb:Sl fU8.rep S h b l) (e:∀ i,S i→h1.get i=h.get i):Sl fU8.rep S h1 b l:=hb.keep e
end Go.Proofs.Ythjmkmoiopmfcaa

namespace Go.Proofs.Ythjmkmoiopmfcaa
open Go.D
set_option maxRecDepth 100000
theorem eqInts_c {h:DHeap} {a b:Value} {l m:List Int} (ha:Arg fI64.rep h a l) (hb:Arg fI64.rep h b m) (hlen:l.length≤4294967296) :
 DC Try.prog 37 [a,b] h (.ret (.bool (sameL (fun a b:Int=>decide (a=b)) l m))) h:=by
 refine Ct.pure (go_37 (by simp) ?_) (vin_bool _)
 have ea:=ha.lens (P:=Try.prog) (ts:=#[23]) (t:=23) rfl isl_23
 have eb:=hb.lens (P:=Try.prog) (ts:=#[23]) (t:=23) rfl isl_23
 by_cases hl:l.length=m.length
 case neg=>
  have hli:¬ ((l.length:Nat):Int)=(m.length:Nat):=by omega
  simp -implicitDefEqProofs (disch:=first|omega|simp only[go_sem]) only[go_sem,true_and,c37,ea,eb,hli]
  exact ⟨_,rfl,by rw[sameL_len hl],.refl h⟩
 have hli:((l.length:Nat):Int)=(m.length:Nat):=by omega
 simp -implicitDefEqProofs (disch:=first|omega|simp only[go_sem]) only[go_sem,true_and,c37,ea,eb,hli]
 refine xloop (σ:=Nat) (by kernel_rfl) (fun i s=>s.df=[]∧s.h=h∧s.fr 0=some a∧s.fr 1=some b∧s.fr 12=some (.int .i64 (l.length:Nat))∧s.fr 13=some (.int .i64 (i:Nat))∧i≤l.length∧sameL (fun a b:Int=>decide (a=b)) (l.drop i) (m.drop i)=sameL (fun a b:Int=>decide (a=b)) l m) (fun i=>l.length - i) 0 ?_ ?_
 ·simp -implicitDefEqProofs (disch:=first|omega|simp only[go_sem]) only[go_sem,true_and,hli]
  exact ⟨rfl,Nat.zero_le _,by rw[List.drop_zero,List.drop_zero]⟩
 ·rintro i ⟨fr,df,hh,rd⟩ K hK hX ⟨rfl,rfl,f0,f1,f12,f13,hi,ho⟩
  simp only at f0 f1 f12 f13
  simp -implicitDefEqProofs (disch:=first|omega|simp only[go_sem]) only[go_sem,true_and,f0,f1,f12,f13]
  refine XIf_dec (fun hc1=>?_) (fun hc1=>?_)
  ·have hj:i<l.length:=by omega
   have hk:i<m.length:=by omega
   obtain ⟨id1,o1,e1,_,hat1⟩:=ha.idx (P:=Try.prog) (t:=23) el_23 (k:=.i64) (i:=i) (x:=l[i]) (by simp)
   obtain ⟨id2,o2,e2,_,hat2⟩:=hb.idx (P:=Try.prog) (t:=23) el_23 (k:=.i64) (i:=i) (x:=m[i]) (by simp)
   have hw:=wrap_succ hj (by omega)
   have l1:=hat1.int
   have l2:=hat2.int
   rw[sameL_drop hj hk]at ho
   simp -implicitDefEqProofs (disch:=first|omega|simp only[go_sem]) only[go_sem,true_and,f13]
   refine dr_37_0 ?_
   by_cases hlt:l[i]=m[i]
   ·rw[decide_eq_true hlt,Bool.true_and]at ho
    simp -implicitDefEqProofs (disch:=first|omega|simp only[go_sem]) only[go_sem,true_and,l37_0,f0,f1,f13,e1,e2,l1,l2, hlt,hw]
    refine hK (i+1) _ ?_ (by omega)
    exact ⟨by trivial,by trivial,(vy f0),(vy f1),(vy f12),vz,by omega,ho⟩
   ·rw[decide_eq_false hlt,Bool.false_and]at ho
    simp -implicitDefEqProofs (disch:=first|omega|simp only[go_sem]) only[go_sem,true_and,l37_0,f0,f1,f13,e1,e2,l1,l2, hlt]
    refine hX _ _ (by simp) ?_
    simp -implicitDefEqProofs (disch:=first|omega|simp only[go_sem]) only[go_sem,true_and]
    exact ⟨_,rfl,by rw[← ho],.refl hh⟩
  ·obtain rfl:i=l.length:=by omega
   refine hX _ _ (by simp) ?_
   simp -implicitDefEqProofs (disch:=first|omega|simp only[go_sem]) only[go_sem,true_and]
   exact ⟨_,rfl,by rw[← ho,sameL_end hl],.refl hh⟩
end Go.Proofs.Ythjmkmoiopmfcaa

namespace Go.Proofs.Ythjmkmoiopmfcaa
open Go.D
set_option maxRecDepth 100000
end Go.Proofs.Ythjmkmoiopmfcaa

namespace Go.Proofs.Ythjmkmoiopmfcaa
open Go.D
set_option maxRecDepth 100000
end Go.Proofs.Ythjmkmoiopmfcaa

namespace Go.Proofs.Ythjmkmoiopmfcaa
open Go.D
set_option maxRecDepth 100000
def firstB (n:Int):Bool:=!decide (n=0)&&(!decide (n=6)&&(!decide (n=22)&&!decide (n=25)))
theorem first_c {h:DHeap} {n:Int}:DC Try.prog 68 [.int .i64 n] h (.ret (.bool (firstB n))) h:=by
 refine Ct.pure (go_68 (by simp) ?_) (vin_bool _)
 simp -implicitDefEqProofs (disch:=first|omega|simp only[go_sem]) only[go_sem,true_and,c68]
 (repeat' first | (refine NStp_split (fun hb=>?_) (fun hb=>?_) <;> (try simp only[Bool.not_eq_true',Bool.not_eq_false']at hb) <;> simp -implicitDefEqProofs (disch:=first|omega|simp only[go_sem]) only[go_sem,true_and,dPick_t,dPick_f,hb]) | (refine XIf_split (fun hb=>?_) (fun hb=>?_) <;> (try simp only[Bool.not_eq_true',Bool.not_eq_false']at hb) <;> simp -implicitDefEqProofs (disch:=first|omega|simp only[go_sem]) only[go_sem,true_and,dPick_t,dPick_f,hb]))
 all_goals exact ⟨_,rfl,by simp_all [firstB],.refl _⟩
def twoB (n:Int):Bool:=decide (7≤n)&&decide (n≤18)||(decide (n=20)||(decide (n=21)||(decide (n=26)||decide (n=27))))
theorem two_c {h:DHeap} {n:Int}:DC Try.prog 69 [.int .i64 n] h (.ret (.bool (twoB n))) h:=by
 refine Ct.pure (go_69 (by simp) ?_) (vin_bool _)
 simp -implicitDefEqProofs (disch:=first|omega|simp only[go_sem]) only[go_sem,true_and,c69]
 (repeat' first | (refine NStp_split (fun hb=>?_) (fun hb=>?_) <;> (try simp only[Bool.not_eq_true',Bool.not_eq_false']at hb) <;> simp -implicitDefEqProofs (disch:=first|omega|simp only[go_sem]) only[go_sem,true_and,dPick_t,dPick_f,hb]) | (refine XIf_split (fun hb=>?_) (fun hb=>?_) <;> (try simp only[Bool.not_eq_true',Bool.not_eq_false']at hb) <;> simp -implicitDefEqProofs (disch:=first|omega|simp only[go_sem]) only[go_sem,true_and,dPick_t,dPick_f,hb]))
 all_goals exact ⟨_,rfl,by simp_all [twoB] <;> omega,.refl _⟩
def jumpsB (n:Int):Bool:=decide (n=22)||decide (n=23)
theorem refJumps_c {h:DHeap} {n:Int}:DC Try.prog 83 [.int .i64 n] h (.ret (.bool (jumpsB n))) h:=by
 refine Ct.pure (go_83 (by simp) ?_) (vin_bool _)
 simp -implicitDefEqProofs (disch:=first|omega|simp only[go_sem]) only[go_sem,true_and,c83]
 (repeat' first | (refine NStp_split (fun hb=>?_) (fun hb=>?_) <;> (try simp only[Bool.not_eq_true',Bool.not_eq_false']at hb) <;> simp -implicitDefEqProofs (disch:=first|omega|simp only[go_sem]) only[go_sem,true_and,dPick_t,dPick_f,hb]) | (refine XIf_split (fun hb=>?_) (fun hb=>?_) <;> (try simp only[Bool.not_eq_true',Bool.not_eq_false']at hb) <;> simp -implicitDefEqProofs (disch:=first|omega|simp only[go_sem]) only[go_sem,true_and,dPick_t,dPick_f,hb]))
 all_goals exact ⟨_,rfl,by simp_all [jumpsB],.refl _⟩
def sizeI (n:Int):Int:=if n=0 then 1 else if n=6∨n=24∨n=25 then 2 else if n=2∨n=3∨n=4∨n=5∨n=19∨n=22 then 3 else if n=1∨n=23∨n=26∨n=27 then 4 else if 7≤n∧n≤21 then 3 else 0
theorem refSize_c {h:DHeap} {n:Int}:DC Try.prog 67 [.int .i64 n] h (.ret (.int .i64 (sizeI n))) h:=by
 refine Ct.pure (go_67 (by simp) ?_) (vin_int _ _)
 simp -implicitDefEqProofs (disch:=first|omega|simp only[go_sem]) only[go_sem,true_and,c67]
 (repeat' first | (refine NStp_split (fun hb=>?_) (fun hb=>?_) <;> (try simp only[Bool.not_eq_true',Bool.not_eq_false']at hb) <;> simp -implicitDefEqProofs (disch:=first|omega|simp only[go_sem]) only[go_sem,true_and,dPick_t,dPick_f,hb]) | (refine XIf_split (fun hb=>?_) (fun hb=>?_) <;> (try simp only[Bool.not_eq_true',Bool.not_eq_false']at hb) <;> simp -implicitDefEqProofs (disch:=first|omega|simp only[go_sem]) only[go_sem,true_and,dPick_t,dPick_f,hb]))
 all_goals exact ⟨_,rfl,by simp_all [sizeI] <;> omega,.refl _⟩
def wideI (n:Int):Int:=sizeI n - 1 - (if firstB n then 1 else 0) - (if twoB n then 1 else 0)
theorem sizeI_le (n:Int):0≤sizeI n∧sizeI n≤4:=by
 unfold sizeI
 repeat' split
 all_goals omega
theorem refWide_c {h:DHeap} {n:Int}:DC Try.prog 70 [.int .i64 n] h (.ret (.int .i64 (wideI n))) h:=by
 refine Ct.pure (go_70 (by simp) ?_) (vin_int _ _)
 have hs:=sizeI_le n
 simp -implicitDefEqProofs (disch:=first|omega|simp only[go_sem]) only[go_sem,true_and,c70]
 refine ncall refSize_c ?_
 simp -implicitDefEqProofs (disch:=first|omega|simp only[go_sem]) only[go_sem,true_and]
 refine ncall first_c ?_
 simp -implicitDefEqProofs (disch:=first|omega|simp only[go_sem]) only[go_sem,true_and]
 refine XIf_split (fun h1=>?_) (fun h1=>?_)
 all_goals simp -implicitDefEqProofs (disch:=first|omega|simp only[go_sem]) only[go_sem,true_and,h1]
 all_goals refine ncall two_c ?_
 all_goals simp -implicitDefEqProofs (disch:=first|omega|simp only[go_sem]) only[go_sem,true_and]
 all_goals refine XIf_split (fun h2=>?_) (fun h2=>?_)
 all_goals simp -implicitDefEqProofs (disch:=first|omega|simp only[go_sem]) only[go_sem,true_and,h2]
 all_goals refine ⟨_,rfl,?_,.refl _⟩
 all_goals simp only[wideI,h1,h2,if_true,if_false,Bool.false_eq_true]
 all_goals congr 2
 ·rw[wrap_i64_in (n:=sizeI n - 1) (by omega) (by omega),wrap_i64_in (n:=sizeI n - 1 - 1) (by omega) (by omega),wrap_i64_in (by omega) (by omega)]
 ·rw[wrap_i64_in (n:=sizeI n - 1) (by omega) (by omega),wrap_i64_in (by omega) (by omega)];omega
 ·rw[wrap_i64_in (n:=sizeI n - 1) (by omega) (by omega),wrap_i64_in (by omega) (by omega)];omega
 ·rw[wrap_i64_in (n:=sizeI n - 1) (by omega) (by omega)];omega
def indexE (x:Instr):Int:=
 if firstB x.op&&(decide (x.a<0)||decide (8≤x.a))||twoB x.op&&(decide (x.b<0)||decide (8≤x.b)) then 132
 else if decide (x.op=19)&&(!decide (x.imm=8)&&(!decide (x.imm=16)&&!decide (x.imm=32))) then 132 else 0
theorem refIndex_c {h:DHeap} {x:Instr}:DC Try.prog 71 [instrV x] h (.ret (.int .i64 (indexE x))) h:=by
 obtain ⟨x1,x2,x3,x4,x5⟩:=x
 refine Ct.pure (go_71 (by simp) ?_) (vin_int _ _)
 obtain ⟨H,hH⟩:∃ H,H=h.push (.row [.int .i64 x1,.int .i64 x2,.int .i64 x3,.int .i64 x4,.int .i64 x5] 0 false):=⟨_,rfl⟩
 have hE:Ext h H:=by rw[hH];exact Ext.push1 _ _
 have g:H.get h.next=some (.row [.int .i64 x1,.int .i64 x2,.int .i64 x3,.int .i64 x4,.int .i64 x5] 0 false):=by rw[hH];exact get_push_same _ _
 have a1:cellAt H h.next 1=some (.int .i64 x2):=cellAt_row g
 have a2:cellAt H h.next 2=some (.int .i64 x3):=cellAt_row g
 have a3:cellAt H h.next 3=some (.int .i64 x4):=cellAt_row g
 have a4:cellAt H h.next 4=some (.int .i64 x5):=cellAt_row g
 simp -implicitDefEqProofs (disch:=first|omega|simp only[go_sem]) only[go_sem,true_and,c71,← hH,a1]
 clear hH
 refine ncall first_c ?_
 simp -implicitDefEqProofs (disch:=first|omega|simp only[go_sem]) only[go_sem,true_and,a1,a2]
 (repeat' first | (refine NStp_split (fun hb=>?_) (fun hb=>?_) <;> (try simp only[Bool.not_eq_true',Bool.not_eq_false']at hb) <;> simp -implicitDefEqProofs (disch:=first|omega|simp only[go_sem]) only[go_sem,true_and,dPick_t,dPick_f,hb,a1,a2,a3,a4]) | (refine XIf_split (fun hb=>?_) (fun hb=>?_) <;> (try simp only[Bool.not_eq_true',Bool.not_eq_false']at hb) <;> simp -implicitDefEqProofs (disch:=first|omega|simp only[go_sem]) only[go_sem,true_and,dPick_t,dPick_f,hb,a1,a2,a3,a4]))
 all_goals first
  | (refine ncall two_c ?_
     simp -implicitDefEqProofs (disch:=first|omega|simp only[go_sem]) only[go_sem,true_and,a1,a2,a3,a4,dPick_t,dPick_f, *])
  | skip
 (repeat' first | (refine NStp_split (fun hb=>?_) (fun hb=>?_) <;> (try simp only[Bool.not_eq_true',Bool.not_eq_false']at hb) <;> simp -implicitDefEqProofs (disch:=first|omega|simp only[go_sem]) only[go_sem,true_and,dPick_t,dPick_f,hb,a1,a2,a3,a4]) | (refine XIf_split (fun hb=>?_) (fun hb=>?_) <;> (try simp only[Bool.not_eq_true',Bool.not_eq_false']at hb) <;> simp -implicitDefEqProofs (disch:=first|omega|simp only[go_sem]) only[go_sem,true_and,dPick_t,dPick_f,hb,a1,a2,a3,a4]))
 all_goals exact ⟨_,rfl,by simp_all [indexE] <;> omega,hE⟩
end Go.Proofs.Ythjmkmoiopmfcaa

namespace Go.Proofs.Ythjmkmoiopmfcaa
open Go.D
set_option maxRecDepth 100000
abbrev zeroInstr:Instr:=⟨0,0,0,0,0⟩
def immW (op w x y:Int):Int:=if w=2 then (if op=1∧32768≤x+256*y then x+256*y - 65536 else x+256*y) else if 1≤w then x else 0
def oneI (l:List Int) (i:Nat):Instr:=
 let op:=l.getD i 0
 let k2:=i+1+if firstB op then 1 else 0
 let k3:=k2+if twoB op then 1 else 0
 ⟨i,op,if firstB op then l.getD (i+1) 0 else 0,if twoB op then l.getD k2 0 else 0,immW op (wideI op) (l.getD k3 0) (l.getD (k3+1) 0)⟩
def oneT (l:List Int) (i:Nat):Instr × Int × Int:=
 if l.length≤i then (zeroInstr,0,130)
 else if sizeI (l.getD i 0)=0∨(l.length:Int) - i<sizeI (l.getD i 0) then (zeroInstr,0,130)
 else if indexE (oneI l i)=0 then (oneI l i,i+sizeI (l.getD i 0),0) else (zeroInstr,0,indexE (oneI l i))
theorem byte_at {h:DHeap} {v:Value} {l:List Int} (hb:Arg fU8.rep h v l) {i:Nat} (hi:i<l.length) :
 ∃ id o,dIndexAddr Try.prog 22 v (.int .i64 (i:Nat))=some (.pointer (some ⟨id,o,none⟩))∧(∀ K,Ext h K→cellAt K id o=some (.int .u8 (l.getD i 0)))∧0≤l.getD i 0∧l.getD i 0≤255:=by
 have hx:l[i]? = some l[i]:=List.getElem?_eq_getElem hi
 have hgd:l.getD i 0=l[i]:=by rw[List.getD_eq_getElem?_getD,hx];rfl
 obtain ⟨id,o,e1,hid,hat⟩:=hb.idx (P:=Try.prog) (t:=22) el_22 (k:=.i64) hx
 have hok:=inK_u8.1 (hb.ok _ (List.getElem_mem hi))
 refine ⟨id,o,e1,fun K e=>?_,by rw[hgd];exact hok.1,by rw[hgd];exact hok.2⟩
 have:=(hat.flat).1 0 (by decide)
 rw[Nat.add_zero]at this
 unfold cellAt at this ⊢
 rw[e.get _ hid,hgd]
 exact this
theorem size_split {n:Int} (h:sizeI n≠0):0≤wideI n∧wideI n≤2∧0≤n∧n<28:=by
 have h1:0≤n∧n<28:=by
  unfold sizeI at h
  repeat' split at h
  all_goals omega
 obtain ⟨k,rfl⟩:∃ k:Nat,n=k:=⟨n.toNat,by omega⟩
 have:∀ k:Nat,k<28→0≤wideI k∧wideI k≤2:=by decide
 have:=this k (by omega)
 omega
theorem res_i {fr:Fr} {K:DHeap} {a b c id:Nat} {x:Instr} {n e:Int} (f2:fr a=some (.pointer (some ⟨id,0,none⟩))) (f3:fr b=some (.int .i64 n)) (f4:fr c=some (.int .i64 e)) (hk:K.get id=some (.row (fInstr.enc x) 0 false)) :
 dResults Try.prog [.cell a 83,.tmp b,.tmp c] fr K=some (.tuple #[instrV x,.int .i64 n,.int .i64 e]):=by
 rw[dResults_d3,dRes1_cell,f2,dResC_some,dRes1_tmp,dRes1_tmp,f3,f4]
 have e1:dLoad Try.prog 83 (.pointer (some ⟨id,0,none⟩)) K=some (instrV x):=ld_83.trans (by rw[cellsAt_row hk (Nat.le_of_ble_eq_true rfl)];rfl)
 rw[e1]
 rfl
theorem bd_instr0:dBuild Try.prog 83 []=some (instrV zeroInstr):=dBuild_at plc_83 rfl
theorem bd_instr2 {p o:Int}:dBuild Try.prog 83 [(0,.int .i64 p),(1,.int .i64 o)]=some (instrV ⟨p,o,0,0,0⟩):=dBuild_at plc_83 rfl
theorem vin_one {S:Nat→Prop} {x:Instr} {n e:Int}:VIn S (.tuple #[instrV x,.int .i64 n,.int .i64 e]):=by
 refine .tuple fun v hv=>?_
 simp only[List.mem_toArray,List.mem_cons,List.not_mem_nil,or_false]at hv
 rcases hv with rfl | rfl | rfl
 ·exact .agg fun v hv=>by
   simp only[List.mem_toArray,List.mem_cons,List.not_mem_nil,or_false]at hv
   rcases hv with rfl | rfl | rfl | rfl | rfl <;> exact .int _ _
 ·exact .int _ _
 ·exact .int _ _
theorem store5_push {h:DHeap} {z:Nat} {a b c d e a' b' c' d' e':Value} (hv:[a,b,c,d,e].all Value.oneCell'=true):storeAt (h.push (.row [a',b',c',d',e'] z false)) h.next 0 [a,b,c,d,e]=some (h.push (.row [a,b,c,d,e] z false)):=storeAll_push rfl hv
def OneM (B:Nat) (H:DHeap) (v:Value) (i:Nat) (op a b imm k:Int) (s:St):Prop:=
 s.df=[]∧s.rd=none∧s.fr 0=some v∧s.fr 1=some (.int .i64 (i:Nat))∧s.fr 4=some (.pointer (some ⟨B,0,none⟩))∧s.fr 7=some (.int .i64 (sizeI op))∧s.fr 8=some (.pointer (some ⟨H.next,0,none⟩))∧s.fr 9=some (.int .i64 k)∧s.h=H.push (.row (fInstr.enc ⟨(i:Nat),op,a,b,imm⟩) 0 false)
set_option maxHeartbeats 2000000 in
theorem refOne_c {h:DHeap} {v:Value} {l:List Int} {i:Nat} (hb:Arg fU8.rep h v l) (hl:l.length≤4294967296) (hi:i≤4294967296) :
 DC Try.prog 42 [v,.int .i64 (i:Nat)] h (.ret (.tuple #[instrV (oneT l i).1,.int .i64 (oneT l i).2.1,.int .i64 (oneT l i).2.2])) h:=by
 refine Ct.pure (go_42 (by simp) ?_) vin_one
 obtain ⟨H,hH⟩:∃ H,H=h.push (.row [.int .i64 0,.int .i64 0,.int .i64 0,.int .i64 0,.int .i64 0] 0 false):=⟨_,rfl⟩
 have hE:Ext h H:=by rw[hH];exact Ext.push1 _ _
 have g:H.get h.next=some (.row (fInstr.enc zeroInstr) 0 false):=by rw[hH];exact get_push_same _ _
 have hHn:H.next=h.next+1:=by rw[hH];rfl
 have el:∀ K,dLen Try.prog #[22] v K=some (.int .i64 (l.length:Nat)):=hb.lens (P:=Try.prog) (ts:=#[22]) (t:=22) rfl isl_22
 have hz:storeAt H h.next 0 [.int .i64 0,.int .i64 0,.int .i64 0,.int .i64 0,.int .i64 0]=some H:=by
  rw[storeAt_row g (Nat.le_of_ble_eq_true rfl) rfl]
  exact congrArg some (set_self g)
 have hneg:¬ ((i:Nat):Int)<0:=by omega
 by_cases h0:((l.length:Nat):Int)≤(i:Nat)
 ·have h0':=eq_true h0
  simp -implicitDefEqProofs (disch:=first|omega|simp only[go_sem]) only[go_sem,true_and,c42,← hH,hneg,h0',el,dPick_t,dPick_f,bd_instr0,hz]
  refine ret_at (res_i (n:=0) (e:=130) vz vz vz g) ⟨?_,hE⟩
  rw[oneT,if_pos (by omega)]
 have hil:i<l.length:=by omega
 obtain ⟨id0,o0,ia0,lb0,r0,r1⟩:=byte_at hb hil
 obtain ⟨op,hop⟩:∃ op,l.getD i 0=op:=⟨_,rfl⟩
 rw[hop]at lb0 r0 r1
 have hw0:IntKind.i64.wrap op=op:=wrap_i64_in (by omega) (by omega)
 simp -implicitDefEqProofs (disch:=first|omega|simp only[go_sem]) only[go_sem,true_and,c42,← hH,hneg,h0,el,dPick_t,dPick_f,ia0,lb0 H hE,hw0]
 refine ncall refSize_c ?_
 have hs:=sizeI_le op
 have hwl:IntKind.i64.wrap ((l.length:Int) - (i:Nat))=(l.length:Int) - (i:Nat):=wrap_i64_in (by omega) (by omega)
 by_cases h1:sizeI op=0
 ·have h1':=eq_true h1
  simp -implicitDefEqProofs (disch:=first|omega|simp only[go_sem]) only[go_sem,true_and,h1',dPick_t,dPick_f,bd_instr0,hz]
  refine ret_at (res_i (n:=0) (e:=130) vz vz vz g) ⟨?_,hE⟩
  rw[oneT,if_neg (by omega),hop,if_pos (.inl h1)]
 by_cases h2:(l.length:Int) - (i:Nat)<sizeI op
 ·have h2':=eq_true h2
  simp -implicitDefEqProofs (disch:=first|omega|simp only[go_sem]) only[go_sem,true_and,h1,hwl,h2',el,dPick_t,dPick_f,bd_instr0,hz]
  refine ret_at (res_i (n:=0) (e:=130) vz vz vz g) ⟨?_,hE⟩
  rw[oneT,if_neg (by omega),hop,if_pos (.inr h2)]
 obtain ⟨w1,w2,w3,w4⟩:=size_split h1
 have hT:oneT l i=if indexE (oneI l i)=0 then (oneI l i,i+sizeI op,0) else (zeroInstr,0,indexE (oneI l i)):=by
  rw[oneT,if_neg (by omega),hop,if_neg (by omega)]
 have hsz:sizeI op=1+(if firstB op then 1 else 0)+(if twoB op then 1 else 0)+wideI op:=by unfold wideI;omega
 have cI:∀ x,cellAt (H.push (.row (fInstr.enc x) 0 false)) H.next 1=some (.int .i64 x.op):=fun x=>cellAt_row (get_push_same _ _)
 have cI4:∀ x,cellAt (H.push (.row (fInstr.enc x) 0 false)) H.next 4=some (.int .i64 x.imm):=fun x=>cellAt_row (get_push_same _ _)
 have hEP:∀ o,Ext h (H.push o):=fun o=>hE.push o
 have sI:∀ (x:Instr) (j:Nat) (n:Int),j<5→storeAt (H.push (.row (fInstr.enc x) 0 false)) H.next j [.int .i64 n]=some ((H.push (.row (fInstr.enc x) 0 false)).set H.next (.row (setAt (fInstr.enc x) j [.int .i64 n]) 0 false)):=fun x j n hj=>storeAt_row (get_push_same _ _) (by rw[fInstr.len];exact hj) rfl
 have lc:∀ x,cellsAt (H.push (.row (fInstr.enc x) 0 false)) H.next 0 5=some (instrV x):=fun x=>by rw[cellsAt_row (get_push_same _ _) (Nat.le_of_ble_eq_true rfl)];rfl
 have hw1:IntKind.i64.wrap ((i:Int)+1)=((i+1:Nat):Int):=by rw[wrap_i64_in (by omega) (by omega)];omega
 have hst5:∀ a b c d e:Int,storeAt (H.push (.row [.int .i64 0,.int .i64 0,.int .i64 0,.int .i64 0,.int .i64 0] 0 false)) H.next 0 [.int .i64 a,.int .i64 b,.int .i64 c,.int .i64 d,.int .i64 e]=some (H.push (.row (fInstr.enc ⟨a,b,c,d,e⟩) 0 false)):=fun a b c d e=>store5_push rfl
 simp -implicitDefEqProofs (disch:=first|omega|simp only[go_sem]) only[go_sem,true_and,h1,hwl,h2,el,dPick_t,dPick_f,ia0,lb0 H hE,hw0,bd_instr2,hst5,hw1,cI]
 refine ncall first_c ?_
 simp -implicitDefEqProofs (disch:=first|omega|simp only[go_sem]) only[go_sem,true_and]
 obtain ⟨k2,hk2⟩:∃ k2,k2=i+1+if firstB op then 1 else 0:=⟨_,rfl⟩
 obtain ⟨xa,hxa⟩:∃ xa,xa=if firstB op then l.getD (i+1) 0 else 0:=⟨_,rfl⟩
 refine XIf_cut (OneM h.next H v i op xa 0 0 (k2:Nat)) (fun hf=>?_) (fun hf=>?_) ?_
 ·rw[hf]at hk2 hxa hsz
  simp only[if_true]at hk2 hxa hsz
  obtain ⟨id1,o1,ia1,lb1,q0,q1⟩:=byte_at hb (i:=i+1) (by omega)
  rw[← hxa]at lb1 q0 q1
  have hwa:IntKind.i64.wrap xa=xa:=wrap_i64_in (by omega) (by omega)
  have hw2:IntKind.i64.wrap (((i+1:Nat):Int)+1)=((k2:Nat):Int):=by rw[wrap_i64_in (by omega) (by omega)];omega
  simp -implicitDefEqProofs (disch:=first|omega|simp only[go_sem]) only[go_sem,true_and,ia1,lb1 _ (hEP _),hwa,sI,hw2]
  exact ⟨rfl,rfl,vz,vz,vz,vz,vz,vz,set_push_same _ _ _⟩
 ·rw[hf]at hk2 hxa hsz
  simp only[Bool.false_eq_true,if_false]at hk2 hxa hsz
  simp -implicitDefEqProofs (disch:=first|omega|simp only[go_sem]) only[go_sem,true_and]
  exact ⟨rfl,rfl,vz,vz,vz,vz,vz,by rw[hk2];simp -implicitDefEqProofs (disch:=first|omega|simp only[go_sem]) only[go_sem,true_and],by rw[hxa]⟩
 rintro ⟨fr,df,K,rd⟩ ⟨rfl,rfl,f0,f1,f4,f7,f8,f9,hK⟩
 simp only at f0 f1 f4 f7 f8 f9 hK
 subst hK
 simp -implicitDefEqProofs (disch:=first|omega|simp only[go_sem]) only[go_sem,true_and,f8,cI]
 refine ncall two_c ?_
 simp -implicitDefEqProofs (disch:=first|omega|simp only[go_sem]) only[go_sem,true_and]
 obtain ⟨k3,hk3⟩:∃ k3,k3=k2+if twoB op then 1 else 0:=⟨_,rfl⟩
 obtain ⟨xb,hxb⟩:∃ xb,xb=if twoB op then l.getD k2 0 else 0:=⟨_,rfl⟩
 have hk2l:(k2:Int)+(if twoB op then 1 else 0)+wideI op=i+sizeI op:=by
  rw[hk2,hsz]
  split <;> simp <;> omega
 refine XIf_cut (OneM h.next H v i op xa xb 0 (k3:Nat)) (fun hf=>?_) (fun hf=>?_) ?_
 ·rw[hf]at hk3 hxb hk2l
  simp only[if_true]at hk3 hxb hk2l
  obtain ⟨id1,o1,ia1,lb1,q0,q1⟩:=byte_at hb (i:=k2) (by omega)
  rw[← hxb]at lb1 q0 q1
  have hwa:IntKind.i64.wrap xb=xb:=wrap_i64_in (by omega) (by omega)
  have hw2:IntKind.i64.wrap ((k2:Int)+1)=((k3:Nat):Int):=by rw[wrap_i64_in (by omega) (by omega)];omega
  simp -implicitDefEqProofs (disch:=first|omega|simp only[go_sem]) only[go_sem,true_and,f0,f8,f9,ia1,lb1 _ (hEP _),hwa,sI,hw2]
  exact ⟨rfl,rfl,(vy f0),(vy f1),(vy f4),(vy f7),(vy f8),vz,set_push_same _ _ _⟩
 ·rw[hf]at hk3 hxb
  simp only[Bool.false_eq_true,if_false]at hk3 hxb
  simp -implicitDefEqProofs (disch:=first|omega|simp only[go_sem]) only[go_sem,true_and]
  exact ⟨rfl,rfl,(vy f0),(vy f1),(vy f4),(vy f7),(vy f8),by rw[hk3];simp -implicitDefEqProofs (disch:=first|omega|simp only[go_sem]) only[go_sem,true_and,f9],by rw[hxb]⟩
 clear f0 f1 f4 f7 f8 f9 fr
 rintro ⟨fr,df,K,rd⟩ ⟨rfl,rfl,f0,f1,f4,f7,f8,f9,hK⟩
 simp only at f0 f1 f4 f7 f8 f9 hK
 subst hK
 simp -implicitDefEqProofs (disch:=first|omega|simp only[go_sem]) only[go_sem,true_and,f8,cI]
 refine ncall refWide_c ?_
 have hk3l:(k3:Int)+wideI op=i+sizeI op:=by
  rw[← hk2l,hk3]
  split <;> simp
 obtain ⟨w,hw⟩:∃ w,wideI op=w:=⟨_,rfl⟩
 rw[hw]at w1 w2 hk3l
 rw[hw]
 have hone:oneI l i=⟨(i:Nat),op,xa,xb,immW op w (l.getD k3 0) (l.getD (k3+1) 0)⟩:=by
  unfold oneI
  simp only[hop,← hxa,← hk2,← hxb,← hk3,hw]
 obtain ⟨x,hx⟩:∃ x,l.getD k3 0=x:=⟨_,rfl⟩
 obtain ⟨y,hy⟩:∃ y,l.getD (k3+1) 0=y:=⟨_,rfl⟩
 rw[hx,hy]at hone
 simp -implicitDefEqProofs (disch:=first|omega|simp only[go_sem]) only[go_sem,true_and]
 refine XIf_cutd (fun s=>OneM h.next H v i op xa xb (if 1≤w then x else 0) (k3:Nat) s∧s.fr 10=some (.int .i64 w)) (fun hf=>?_) (fun hf=>?_) ?_
 ·rw[if_pos hf]
  obtain ⟨id1,o1,ia1,lb1,q0,q1⟩:=byte_at hb (i:=k3) (by omega)
  rw[hx]at lb1 q0 q1
  have hwa:IntKind.i64.wrap x=x:=wrap_i64_in (by omega) (by omega)
  simp -implicitDefEqProofs (disch:=first|omega|simp only[go_sem]) only[go_sem,true_and,f0,f8,f9,ia1,lb1 _ (hEP _),hwa,sI]
  exact ⟨⟨rfl,rfl,(vy f0),(vy f1),(vy f4),(vy f7),(vy f8),(vy f9),set_push_same _ _ _⟩,vz⟩
 ·rw[if_neg hf]
  simp -implicitDefEqProofs (disch:=first|omega|simp only[go_sem]) only[go_sem,true_and]
  exact ⟨⟨rfl,rfl,(vy f0),(vy f1),(vy f4),(vy f7),(vy f8),(vy f9),rfl⟩,vz⟩
 clear f0 f1 f4 f7 f8 f9 fr
 rintro ⟨fr,df,K,rd⟩ ⟨⟨rfl,rfl,f0,f1,f4,f7,f8,f9,hK⟩,f10⟩
 simp only at f0 f1 f4 f7 f8 f9 hK f10
 subst hK
 simp -implicitDefEqProofs (disch:=first|omega|simp only[go_sem]) only[go_sem,true_and,f10]
 refine XIf_cutd (OneM h.next H v i op xa xb (immW op w x y) (k3:Nat)) (fun hf=>?_) (fun hf=>?_) ?_
 ·have h1w:1≤w:=by omega
  rw[if_pos h1w]
  obtain ⟨id1,o1,ia1,lb1,q0,q1⟩:=byte_at hb (i:=k3+1) (by omega)
  rw[hy]at lb1 q0 q1
  obtain ⟨_,_,_,_,p0,p1⟩:=byte_at hb (i:=k3) (by omega)
  rw[hx]at p0 p1
  have hwa:IntKind.i64.wrap y=y:=wrap_i64_in (by omega) (by omega)
  have hwb:IntKind.i64.wrap (256*y)=256*y:=wrap_i64_in (by omega) (by omega)
  have hwc:IntKind.i64.wrap (x+256*y)=x+256*y:=wrap_i64_in (by omega) (by omega)
  have hwd:IntKind.i64.wrap (x+256*y - 65536)=x+256*y - 65536:=wrap_i64_in (by omega) (by omega)
  have hwk:IntKind.i64.wrap ((k3:Int)+1)=((k3+1:Nat):Int):=by rw[wrap_i64_in (by omega) (by omega)];omega
  have hsp:∀ a b,(H.push (.row (fInstr.enc a) 0 false)).set H.next (.row (fInstr.enc b) 0 false)=H.push (.row (fInstr.enc b) 0 false):=fun a b=>set_push_same _ _ _
  have s4:∀ n m,storeAt (H.push (.row (fInstr.enc ⟨(i:Nat),op,xa,xb,n⟩) 0 false)) H.next 4 [.int .i64 m]=some (H.push (.row (fInstr.enc ⟨(i:Nat),op,xa,xb,m⟩) 0 false)):=fun n m=>by
   rw[sI _ 4 m (by decide)]
   exact congrArg some (set_push_same _ _ _)
  simp -implicitDefEqProofs (disch:=first|omega|simp only[go_sem]) only[go_sem,true_and]
  refine dr_42_0 ?_
  simp -implicitDefEqProofs (disch:=first|omega|simp only[go_sem]) only[go_sem,true_and,l42_0,f0,f8,f9,cI4,hwk,ia1,lb1 _ (hEP _),hwa,hwb,hwc,s4]
  by_cases h1c:op=1
  ·by_cases h2c:32768≤x+256*y
   ·have e1:=eq_true h1c
    have e2:=eq_true h2c
    simp -implicitDefEqProofs (disch:=first|omega|simp only[go_sem]) only[go_sem,true_and,f8,cI,cI4,e1,e2,dPick_t,dPick_f,hwd,s4]
    refine ⟨rfl,rfl,(vy f0),(vy f1),(vy f4),(vy f7),(vy f8),(vy f9),?_⟩
    rw[immW,if_pos hf,if_pos ⟨h1c,h2c⟩]
   ·have e1:=eq_true h1c
    simp -implicitDefEqProofs (disch:=first|omega|simp only[go_sem]) only[go_sem,true_and,f8,cI,cI4,e1,h2c,dPick_t,dPick_f]
    refine ⟨rfl,rfl,(vy f0),(vy f1),(vy f4),(vy f7),(vy f8),(vy f9),?_⟩
    rw[immW,if_pos hf,if_neg (fun hh=>h2c hh.2)]
  ·simp -implicitDefEqProofs (disch:=first|omega|simp only[go_sem]) only[go_sem,true_and,f8,cI,cI4,h1c,dPick_t,dPick_f]
   refine ⟨rfl,rfl,(vy f0),(vy f1),(vy f4),(vy f7),(vy f8),(vy f9),?_⟩
   rw[immW,if_pos hf,if_neg (fun hh=>h1c hh.1)]
 ·simp -implicitDefEqProofs (disch:=first|omega|simp only[go_sem]) only[go_sem,true_and]
  refine ⟨rfl,rfl,(vy f0),(vy f1),(vy f4),(vy f7),(vy f8),(vy f9),?_⟩
  rw[immW,if_neg hf]
 clear f0 f1 f4 f7 f8 f9 f10 fr
 rintro ⟨fr,df,K,rd⟩ ⟨rfl,rfl,f0,f1,f4,f7,f8,f9,hK⟩
 simp only at f0 f1 f4 f7 f8 f9 hK
 subst hK
 rw[← hone]at *
 simp -implicitDefEqProofs (disch:=first|omega|simp only[go_sem]) only[go_sem,true_and,f8,lc]
 refine ncall refIndex_c ?_
 simp -implicitDefEqProofs (disch:=first|omega|simp only[go_sem]) only[go_sem,true_and]
 have g':(H.push (.row (fInstr.enc (oneI l i)) 0 false)).get h.next=some (.row (fInstr.enc zeroInstr) 0 false):=(get_push_other _ _ (by omega)).trans g
 have hst:∀ x:Instr,storeAt (H.push (.row (fInstr.enc (oneI l i)) 0 false)) h.next 0 [.int .i64 x.pos,.int .i64 x.op,.int .i64 x.a,.int .i64 x.b,.int .i64 x.imm]=some ((H.push (.row (fInstr.enc (oneI l i)) 0 false)).set h.next (.row (fInstr.enc x) 0 false)):=fun x=>storeAll g' rfl rfl
 by_cases he:indexE (oneI l i)=0
 ·have he':=eq_true he
  have hwe:IntKind.i64.wrap ((i:Int)+sizeI op)=i+sizeI op:=wrap_i64_in (by omega) (by omega)
  simp -implicitDefEqProofs (disch:=first|omega|simp only[go_sem]) only[go_sem,true_and,he',f8,f1,f7,lc,hwe,f4,hst]
  refine ret_at (res_i (x:=oneI l i) (n:=i+sizeI op) (e:=0) (vy f4) vz vz (get_set_same _ _)) ⟨?_,(hEP _).set (by omega)⟩
  rw[hT,if_pos he]
 ·simp -implicitDefEqProofs (disch:=first|omega|simp only[go_sem]) only[go_sem,true_and,he,bd_instr0,f4,hst zeroInstr]
  refine ret_at (res_i (x:=zeroInstr) (n:=0) (e:=indexE (oneI l i)) (vy f4) vz vz (get_set_same _ _)) ⟨?_,(hEP _).set (by omega)⟩
  rw[hT,if_neg he]
end Go.Proofs.Ythjmkmoiopmfcaa

namespace Go.Proofs.Ythjmkmoiopmfcaa
open Go.D
set_option maxRecDepth 100000
def formL:List Int:=[0,9,5,5,5,5,4,3,3,3,3,3,3,3,3,3,3,3,3,5,3,3,16,17,1,4,7,7]
def andI (a b:Int):Int:=IntKind.i64.wrap (BitVec.ofInt IntKind.i64.bits a &&& BitVec.ofInt IntKind.i64.bits b).toNat
theorem bin_andI {P:Program} {t:TypeId} {ox oy:Operand} {a b:Int} {h:DHeap}:dBinOp P .and t ox oy (.int .i64 a) (.int .i64 b) h=.ok (.value (.int .i64 (andI a b))) h:=bin_and
theorem ar_form:arrElem Try.prog 153=some (28,1):=by kernel_rfl
theorem ar_pair:arrElem Try.prog 151=some (2,1):=by kernel_rfl
theorem vin_nb {S:Nat→Prop} {n:Int} {b:Bool}:VIn S (.tuple #[.int .i64 n,.bool b]):=by
 refine .tuple fun v hv=>?_
 simp only[List.mem_toArray,List.mem_cons,List.not_mem_nil,or_false]at hv
 rcases hv with rfl | rfl
 ·exact .int _ _
 ·exact .bool _
abbrev formV:List Value:=formL.map (.int .i64 ·)
theorem bd_form:dBuild Try.prog 153 [(0,.int .i64 0),(1,.int .i64 9),(2,.int .i64 5),(3,.int .i64 5),(4,.int .i64 5),(5,.int .i64 5),(6,.int .i64 4),(7,.int .i64 3),(8,.int .i64 3),(9,.int .i64 3),(10,.int .i64 3),(11,.int .i64 3),(12,.int .i64 3),(13,.int .i64 3),(14,.int .i64 3),(15,.int .i64 3),(16,.int .i64 3),(17,.int .i64 3),(18,.int .i64 3),(19,.int .i64 5),(20,.int .i64 3),(21,.int .i64 3),(22,.int .i64 16),(23,.int .i64 17),(24,.int .i64 1),(25,.int .i64 4),(26,.int .i64 7),(27,.int .i64 7)]=some (.agg formV.toArray):=by kernel_rfl
theorem form_c {h:DHeap} {n:Nat}:DC Try.prog 94 [.int .i64 (n:Nat)] h (.ret (.tuple #[.int .i64 (formL.getD n 0),.bool (decide (n<28))])) h:=by
 refine Ct.pure (go_94 (by simp) ?_) vin_nb
 have hst:∀ cs:List Value,cs.length=28→storeAt (h.push (.row cs 1 false)) h.next 0 formV=some (h.push (.row formV 1 false)):=fun cs hl=>storeAll_push (by rw[hl];rfl) rfl
 have hs:∀ K,dStore Try.prog 153 (.pointer (some ⟨h.next,0,none⟩)) (.agg formV.toArray) K=storeAt K h.next 0 formV:=fun K=>st_153 rfl
 have hc:∀ o,cellAt (h.push (.row formV 1 false)) h.next o=formV[o]?:=fun o=>cellAt_row (get_push_same _ _)
 have hneg:¬ ((n:Nat):Int)<0:=by omega
 by_cases hn:(28:Int)≤(n:Nat)
 ·have hn':=eq_true hn
  simp -implicitDefEqProofs (disch:=first|omega|simp only[go_sem]) only[go_sem,true_and,c94,bd_form,hs,hst,hneg,hn',dPick_t,dPick_f]
  refine ⟨_,rfl,?_,Ext.push1 _ _⟩
  rw[decide_eq_false (by omega),List.getD_eq_getElem?_getD,List.getElem?_eq_none (by simp[formL];omega)]
  rfl
 ·have hia:dIndexAddr Try.prog 153 (.pointer (some ⟨h.next,0,none⟩)) (.int .i64 (n:Nat))=some (.pointer (some ⟨h.next,n,none⟩)):=by
   rw[dIndexAddr_arr ar_form (by omega) (by omega)]
   simp
  have hl:formV[n]? = some (.int .i64 (formL.getD n 0)):=by
   have h28:n<formL.length:=by simp[formL];omega
   rw[List.getElem?_map,List.getElem?_eq_getElem h28,List.getD_eq_getElem?_getD,List.getElem?_eq_getElem h28]
   rfl
  simp -implicitDefEqProofs (disch:=first|omega|simp only[go_sem]) only[go_sem,true_and,c94,bd_form,hs,hst,hneg,hn,dPick_t,dPick_f,hia,hc,hl]
  refine ⟨_,rfl,?_,Ext.push1 _ _⟩
  rw[decide_eq_true (by omega)]
def masks:List (Int × Int):=[(1,1),(2,1),(4,1),(8,2),(16,2)]
def sizeUp (f:Int) (l:List (Int × Int)):Int:=l.foldl (fun n x=>if andI f x.1=0 then n else n+x.2) 1
theorem pairAt:∀ i:Nat,i<5→dIndex Try.prog 152 (.agg #[.int .i64 1,.int .i64 1,.int .i64 2,.int .i64 1,.int .i64 4,.int .i64 1,.int .i64 8,.int .i64 2,.int .i64 16,.int .i64 2]) (.int .i64 (i:Nat))=some (.agg #[.int .i64 (masks.getD i (0,0)).1,.int .i64 (masks.getD i (0,0)).2])
 | 0,_=>by kernel_rfl
 | 1,_=>by kernel_rfl
 | 2,_=>by kernel_rfl
 | 3,_=>by kernel_rfl
 | 4,_=>by kernel_rfl
theorem bd_pair {a b:Int}:dBuild Try.prog 151 [(0,.int .i64 a),(1,.int .i64 b)]=some (.agg #[.int .i64 a,.int .i64 b]):=by kernel_rfl
theorem bd_pairs:dBuild Try.prog 152 [(0,.agg #[.int .i64 1,.int .i64 1]),(1,.agg #[.int .i64 2,.int .i64 1]),(2,.agg #[.int .i64 4,.int .i64 1]),(3,.agg #[.int .i64 8,.int .i64 2]),(4,.agg #[.int .i64 16,.int .i64 2])]=some (.agg #[.int .i64 1,.int .i64 1,.int .i64 2,.int .i64 1,.int .i64 4,.int .i64 1,.int .i64 8,.int .i64 2,.int .i64 16,.int .i64 2]):=by kernel_rfl
theorem ia_pair {id k:Nat} (hk:k<2):dIndexAddr Try.prog 151 (.pointer (some ⟨id,0,none⟩)) (.int .i64 (k:Nat))=some (.pointer (some ⟨id,k,none⟩)):=by
 rw[dIndexAddr_arr ar_pair (by omega) (by omega)]
 simp
theorem sizeUp_succ {f:Int} {i:Nat} (hi:i<5):sizeUp f (masks.take (i+1))=if andI f (masks.getD i (0,0)).1=0 then sizeUp f (masks.take i) else sizeUp f (masks.take i)+(masks.getD i (0,0)).2:=by
 unfold sizeUp
 have hl:i<masks.length:=hi
 rw[List.take_succ_eq_append_getElem hl,List.foldl_append,List.getD_eq_getElem?_getD,List.getElem?_eq_getElem hl]
 rfl
theorem sizeUp_le (f:Int) (i:Nat):1≤sizeUp f (masks.take i)∧sizeUp f (masks.take i)≤8:=by
 match i with
 | 0=>simp[sizeUp]
 | 1=>simp[sizeUp,masks];split <;> omega
 | 2=>simp[sizeUp,masks];repeat' split
      all_goals omega
 | 3=>simp[sizeUp,masks];repeat' split
      all_goals omega
 | 4=>simp[sizeUp,masks];repeat' split
      all_goals omega
 | i+5=>simp[sizeUp,masks];repeat' split
        all_goals omega
def sizeC (n:Nat):Int:=if n<28 then sizeUp (formL.getD n 0) masks else 0
theorem size_c {h:DHeap} {n:Nat}:DC Try.prog 93 [.int .i64 (n:Nat)] h (.ret (.tuple #[.int .i64 (sizeC n),.bool (decide (n<28))])) h:=by
 refine Ct.pure (go_93 (by simp) ?_) vin_nb
 simp -implicitDefEqProofs (disch:=first|omega|simp only[go_sem]) only[go_sem,true_and,c93]
 refine ncall form_c ?_
 by_cases hn:n<28
 case neg=>
  have hd:=decide_eq_false hn
  simp -implicitDefEqProofs (disch:=first|omega|simp only[go_sem]) only[go_sem,true_and,hd]
  exact ⟨_,rfl,by simp[sizeC,hn],.refl _⟩
 have hd:=decide_eq_true hn
 obtain ⟨f,hf⟩:∃ f,formL.getD n 0=f:=⟨_,rfl⟩
 rw[hf]
 simp -implicitDefEqProofs (disch:=first|omega|simp only[go_sem]) only[go_sem,true_and,hd,bd_pair,bd_pairs]
 refine xloop (σ:=Nat) (by kernel_rfl) (fun i s=>s.df=[]∧s.fr 4=some (.int .i64 f)∧s.fr 6=some (.int .i64 (sizeUp f (masks.take i)))∧s.fr 21=some (.agg #[.int .i64 1,.int .i64 1,.int .i64 2,.int .i64 1,.int .i64 4,.int .i64 1,.int .i64 8,.int .i64 2,.int .i64 16,.int .i64 2])∧s.fr 22=some (.int .i64 (i:Nat))∧i≤5∧Ext h s.h) (fun i=>5 - i) 0 ?_ ?_
 ·simp -implicitDefEqProofs (disch:=first|omega|simp only[go_sem]) only[go_sem,true_and]
  exact ⟨rfl,rfl,Nat.zero_le _,.refl _⟩
 ·rintro i ⟨fr,df,K,rd⟩ K' hK' hX ⟨rfl,f4,f6,f21,f22,hi,hE⟩
  simp only at f4 f6 f21 f22 hE
  simp -implicitDefEqProofs (disch:=first|omega|simp only[go_sem]) only[go_sem,true_and,f22]
  refine XIf_dec (fun hc1=>?_) (fun hc1=>?_)
  ·have hi5:i<5:=by omega
   have hx:=pairAt i hi5
   have hsu:=sizeUp_succ (f:=f) hi5
   have hle:=sizeUp_le f i
   have hle2:=sizeUp_le f (i+1)
   obtain ⟨a,ha⟩:∃ a,(masks.getD i (0,0)).1=a:=⟨_,rfl⟩
   obtain ⟨b,hb⟩:∃ b,(masks.getD i (0,0)).2=b:=⟨_,rfl⟩
   rw[ha,hb]at hx hsu
   obtain ⟨K1,hK1⟩:∃ K1,K1=K.push (.row [.int .i64 a,.int .i64 b] 1 false):=⟨_,rfl⟩
   have g:K1.get K.next=some (.row [.int .i64 a,.int .i64 b] 1 false):=by rw[hK1];exact get_push_same _ _
   have c0:cellAt K1 K.next 0=some (.int .i64 a):=cellAt_row g
   have c1:cellAt K1 K.next 1=some (.int .i64 b):=cellAt_row g
   have hst:storeAt (K.push (.row [.int .i64 0,.int .i64 0] 1 false)) K.next 0 [.int .i64 a,.int .i64 b]=some K1:=by rw[hK1];exact storeAll_push rfl rfl
   have i0:dIndexAddr Try.prog 151 (.pointer (some ⟨K.next,0,none⟩)) (.int .i64 0)=some (.pointer (some ⟨K.next,0,none⟩)):=ia_pair (id:=K.next) (k:=0) (by decide)
   have i1:dIndexAddr Try.prog 151 (.pointer (some ⟨K.next,0,none⟩)) (.int .i64 1)=some (.pointer (some ⟨K.next,1,none⟩)):=ia_pair (id:=K.next) (k:=1) (by decide)
   have hE1:Ext h K1:=by rw[hK1];exact hE.push _
   have hw1:=wrap_succ hi5 (by omega)
   simp -implicitDefEqProofs (disch:=first|omega|simp only[go_sem]) only[go_sem,true_and,f21,f22,hx,hst,f4,i0,c0,↓bin_andI]
   by_cases hz:andI f a=0
   ·have hz':=eq_true hz
    rw[if_pos hz]at hsu
    simp -implicitDefEqProofs (disch:=first|omega|simp only[go_sem]) only[go_sem,true_and,hz',f22,hw1]
    refine hK' (i+1) _ ?_ (by omega)
    exact ⟨by trivial,(vy f4),by rw[hsu];simp -implicitDefEqProofs (disch:=first|omega|simp only[go_sem]) only[go_sem,true_and,f6],(vy f21),vz,by omega,hE1⟩
   ·rw[if_neg hz]at hsu
    have hwz:IntKind.i64.wrap (sizeUp f (masks.take i)+b)=sizeUp f (masks.take (i+1)):=by rw[← hsu];exact wrap_i64_in (by omega) (by omega)
    simp -implicitDefEqProofs (disch:=first|omega|simp only[go_sem]) only[go_sem,true_and,hz,f22,f6,hw1,i1,c1,hwz]
    refine hK' (i+1) _ ?_ (by omega)
    exact ⟨by trivial,(vy f4),vz,(vy f21),vz,by omega,hE1⟩
  ·obtain rfl:i=5:=by omega
   refine hX _ _ (by simp) ?_
   simp -implicitDefEqProofs (disch:=first|omega|simp only[go_sem]) only[go_sem,true_and,f6]
   refine ⟨_,rfl,?_,hE⟩
   rw[sizeC,if_pos hn,hf]
   rfl
end Go.Proofs.Ythjmkmoiopmfcaa

namespace Go.Proofs.Ythjmkmoiopmfcaa
open Go.D
set_option maxRecDepth 100000
def indexB (x:Instr):Bool:=decide (0≤x.a)&&(decide (x.a<8)&&(decide (0≤x.b)&&(decide (x.b<8)&&(!decide (x.op=19)||(decide (x.imm=8)||(decide (x.imm=16)||decide (x.imm=32)))))))
theorem index_c {h:DHeap} {x:Instr}:DC Try.prog 95 [instrV x] h (.ret (.bool (indexB x))) h:=by
 obtain ⟨x1,x2,x3,x4,x5⟩:=x
 refine Ct.pure (go_95 (by simp) ?_) (vin_bool _)
 obtain ⟨H,hH⟩:∃ H,H=h.push (.row [.int .i64 x1,.int .i64 x2,.int .i64 x3,.int .i64 x4,.int .i64 x5] 0 false):=⟨_,rfl⟩
 have hE:Ext h H:=by rw[hH];exact Ext.push1 _ _
 have g:H.get h.next=some (.row [.int .i64 x1,.int .i64 x2,.int .i64 x3,.int .i64 x4,.int .i64 x5] 0 false):=by rw[hH];exact get_push_same _ _
 have a1:cellAt H h.next 1=some (.int .i64 x2):=cellAt_row g
 have a2:cellAt H h.next 2=some (.int .i64 x3):=cellAt_row g
 have a3:cellAt H h.next 3=some (.int .i64 x4):=cellAt_row g
 have a4:cellAt H h.next 4=some (.int .i64 x5):=cellAt_row g
 simp -implicitDefEqProofs (disch:=first|omega|simp only[go_sem]) only[go_sem,true_and,c95,← hH,a2]
 clear hH
 (repeat' first | (refine NStp_split (fun hb=>?_) (fun hb=>?_) <;> (try simp only[Bool.not_eq_true',Bool.not_eq_false']at hb) <;> simp -implicitDefEqProofs (disch:=first|omega|simp only[go_sem]) only[go_sem,true_and,dPick_t,dPick_f,hb,a1,a2,a3,a4]) | (refine XIf_split (fun hb=>?_) (fun hb=>?_) <;> (try simp only[Bool.not_eq_true',Bool.not_eq_false']at hb) <;> simp -implicitDefEqProofs (disch:=first|omega|simp only[go_sem]) only[go_sem,true_and,dPick_t,dPick_f,hb,a1,a2,a3,a4]))
 all_goals exact ⟨_,rfl,by simp_all [indexB] <;> omega,hE⟩
theorem dSlice_ext {P:Program} {t:TypeId} {α:Type} {R:Rep α} {h K:DHeap} {u:Value} {l:List α} {lo hi mx:Option Value} (hu:Arg R h u l) (e:Ext h K):dSlice P t u lo hi mx K=dSlice P t u lo hi mx h:=by
 rcases hu with ⟨rfl,rfl⟩ | ⟨id,o,c,cells,esz,ro,rfl,hid,_⟩
 ·cases hd:P.underlying t with
  | none=>simp only[dSlice,hd]
  | some d=>cases d <;> simp only[dSlice,hd]
 ·have hf:∀ z,rowFits K id z=rowFits h id z:=fun z=>by unfold rowFits;rw[e.get _ hid]
  cases hd:P.underlying t with
  | none=>simp only[dSlice,hd]
  | some d=>cases d <;> simp only[dSlice,hd,hf]
theorem rest_of {h:DHeap} {u:Value} {l:List Int} {k:Nat} (hu:Arg fU8.rep h u l) (hk:k≤l.length):∃ u',(∀ K,Ext h K→dSlice Try.prog 22 u (some (.int .i64 (k:Nat))) none none K=some u')∧Arg fU8.rep h u' (l.drop k):=by
 have hj:boundOf (none:Option Value) l.length l.length=some l.length:=rfl
 obtain ⟨u',e1,e2⟩:=hu.slice (P:=Try.prog) (t:=22) el_22 (by decide) hj (bound_nat (k:=.i64) hk) hk (Nat.le_refl _)
 rw[List.take_length]at e2
 exact ⟨u',fun K e=>(dSlice_ext hu e).trans e1,e2⟩
theorem part_of {h:DHeap} {u:Value} {l:List Int} {i j:Nat} (hu:Arg fU8.rep h u l) (hi:i≤j) (hj:j≤l.length):∃ u',(∀ K,Ext h K→dSlice Try.prog 22 u (some (.int .i64 (i:Nat))) (some (.int .i64 (j:Nat))) none K=some u')∧Arg fU8.rep h u' ((l.take j).drop i):=by
 obtain ⟨u',e1,e2⟩:=hu.slice (P:=Try.prog) (t:=22) el_22 (by decide) (bound_nat (k:=.i64) hj) (bound_nat (k:=.i64) hi) hi hj
 exact ⟨u',fun K e=>(dSlice_ext hu e).trans e1,e2⟩
theorem one_region0 {K0 K1:DHeap} {u u':Value} {id o B:Nat} {x:Int} {fr:Fr} {rd:Option Nat} (f9:fr 9=some (.pointer (some ⟨B,0,none⟩))) (f12:fr 12=some u)
 (h1:dIndexAddr Try.prog 22 u (.int .i64 0)=some (.pointer (some ⟨id,o,none⟩))) (c0:cellAt K0 id o=some (.int .u8 x)) (c1:cellAt K1 id o=some (.int .u8 x)) (hx:IntKind.i64.wrap x=x)
 (hs0:dSlice Try.prog 22 u (some (.int .i64 1)) none none K0=some u') (hs1:dSlice Try.prog 22 u (some (.int .i64 1)) none none K1=some u') (s0:storeAt K0 B 2 [.int .i64 x]=some K1) (s1:storeAt K1 B 2 [.int .i64 x]=some K1) :
 NC Try.prog 132 r81_0 (DThen (fun s=>s.df=[]∧s.rd=rd∧s.h=K1∧s.fr 12=some u'∧s.fr 0=fr 0∧s.fr 1=fr 1∧s.fr 4=fr 4∧s.fr 7=fr 7∧s.fr 9=fr 9∧s.fr 10=fr 10) (fun _ _=>False)) ⟨fr,[],K0,rd⟩:=by
 refine NC.regs (l:=l81_0) (by kernel_rfl) (by kernel_rfl) (by kernel_rfl) rfl (by kernel_rfl) (by kernel_rfl) (fun a b=>b=a∨b=K1) (fun _=>.inl rfl) (fun a b c h g=>?_) (fun i h v=>(i=7→h=K1)∧(i≠7→v=([u,.pointer (some ⟨id,o,none⟩),.int .u8 x,.int .i64 x,u,u',.pointer (some ⟨B,2,none⟩),undef,u']:List Value).getD i undef)) ?_ ?_
 ·rcases g with rfl | rfl
  ·exact h
  ·exact .inr rfl
 case refine_3=>
  rintro ⟨fr1,df1,K,rd1⟩ g hF
  obtain ⟨_,q7,_⟩:=(hF 7 (by decide)).fact
  have f8:=(hF 8 (by decide)).eq (d:=12) (c:=u') rfl fun _ _ e=>e.2 (by decide)
  exact ⟨g.df,g.rd,q7 rfl,f8,g.fr 0 (by kernel_rfl),g.fr 1 (by kernel_rfl),g.fr 4 (by kernel_rfl),g.fr 7 (by kernel_rfl),g.fr 9 (by kernel_rfl),g.fr 10 (by kernel_rfl)⟩
 intro i oo s ho g hpre hown hF
 have F9:s.fr 9=some (.pointer (some ⟨B,0,none⟩)):=(g.fr 9 (by kernel_rfl)).trans f9
 have hi':i<9:=(List.getElem?_eq_some_iff.1 ho).1
 have hh:s.h=K0∨s.h=K1:=g.ext
 have hc:cellAt s.h id o=some (.int .u8 x):=by rcases hh with e | e <;> rw[e] <;> assumption
 have hs:dSlice Try.prog 22 u (some (.int .i64 1)) none none s.h=some u':=by rcases hh with e | e <;> rw[e] <;> assumption
 match i,hi' with
 | 0,_=>
   simp only[l81_0,List.getElem?_cons_zero,List.getElem?_cons_succ,Option.some.injEq]at ho
   subst ho
   have F12:s.fr 12=some u:=(hpre 8 12 (by kernel_rfl) (by kernel_rfl)).trans f12
   exact reg_pure (v:=u) (fun _=>.inl rfl) vz (vy F12) ⟨fun e=>absurd e (by decide),fun _=>rfl⟩
 | 1,_=>
   simp only[l81_0,List.getElem?_cons_zero,List.getElem?_cons_succ,Option.some.injEq]at ho
   subst ho
   have f0:s.fr 65=some (u):=(hF 0 (by kernel_rfl)).eq rfl fun _ _ e=>e.2 (by decide)
   exact reg_pure (v:=.pointer (some ⟨id,o,none⟩)) (fun _=>.inl rfl) vz (by simp -implicitDefEqProofs (disch:=first|omega|simp only[go_sem]) only[go_sem,true_and,f0,h1]) ⟨fun e=>absurd e (by decide),fun _=>rfl⟩
 | 2,_=>
   simp only[l81_0,List.getElem?_cons_zero,List.getElem?_cons_succ,Option.some.injEq]at ho
   subst ho
   have f1:s.fr 66=some (.pointer (some ⟨id,o,none⟩)):=(hF 1 (by kernel_rfl)).eq rfl fun _ _ e=>e.2 (by decide)
   exact reg_pure (v:=.int .u8 x) (fun _=>.inl rfl) vz (by simp -implicitDefEqProofs (disch:=first|omega|simp only[go_sem]) only[go_sem,true_and,f1,hc]) ⟨fun e=>absurd e (by decide),fun _=>rfl⟩
 | 3,_=>
   simp only[l81_0,List.getElem?_cons_zero,List.getElem?_cons_succ,Option.some.injEq]at ho
   subst ho
   have f2:s.fr 67=some (.int .u8 x):=(hF 2 (by kernel_rfl)).eq rfl fun _ _ e=>e.2 (by decide)
   exact reg_pure (v:=.int .i64 x) (fun _=>.inl rfl) vz (by simp -implicitDefEqProofs (disch:=first|omega|simp only[go_sem]) only[go_sem,true_and,f2,hx]) ⟨fun e=>absurd e (by decide),fun _=>rfl⟩
 | 4,_=>
   simp only[l81_0,List.getElem?_cons_zero,List.getElem?_cons_succ,Option.some.injEq]at ho
   subst ho
   have F12:s.fr 12=some u:=(hpre 8 12 (by kernel_rfl) (by kernel_rfl)).trans f12
   exact reg_pure (v:=u) (fun _=>.inl rfl) vz (vy F12) ⟨fun e=>absurd e (by decide),fun _=>rfl⟩
 | 5,_=>
   simp only[l81_0,List.getElem?_cons_zero,List.getElem?_cons_succ,Option.some.injEq]at ho
   subst ho
   have f4:s.fr 69=some (u):=(hF 4 (by kernel_rfl)).eq rfl fun _ _ e=>e.2 (by decide)
   exact reg_pure (v:=u') (fun _=>.inl rfl) vz (by simp -implicitDefEqProofs (disch:=first|omega|simp only[go_sem]) only[go_sem,true_and,f4,hs]) ⟨fun e=>absurd e (by decide),fun _=>rfl⟩
 | 6,_=>
   simp only[l81_0,List.getElem?_cons_zero,List.getElem?_cons_succ,Option.some.injEq]at ho
   subst ho
   exact reg_pure (v:=.pointer (some ⟨B,2,none⟩)) (fun _=>.inl rfl) vz (vy F9) ⟨fun e=>absurd e (by decide),fun _=>rfl⟩
 | 7,_=>
   simp only[l81_0,List.getElem?_cons_zero,List.getElem?_cons_succ,Option.some.injEq]at ho
   subst ho
   have f3:s.fr 68=some (.int .i64 x):=(hF 3 (by kernel_rfl)).eq rfl fun _ _ e=>e.2 (by decide)
   have f6:s.fr 71=some (.pointer (some ⟨B,2,none⟩)):=(hF 6 (by kernel_rfl)).eq rfl fun _ _ e=>e.2 (by decide)
   have hst:storeAt s.h B 2 [.int .i64 x]=some K1:=by rcases hh with e | e <;> rw[e] <;> assumption
   exact reg_store (h':=K1) vz (by simp -implicitDefEqProofs (disch:=first|omega|simp only[go_sem]) only[go_sem,true_and,f3,f6,hst]) (.inr rfl) ⟨fun _=>rfl,fun e=>absurd rfl e⟩ fun j u hj hv=>⟨fun _=>rfl,hv.2⟩
 | 8,_=>
   simp only[l81_0,List.getElem?_cons_zero,List.getElem?_cons_succ,Option.some.injEq]at ho
   subst ho
   have f5:s.fr 70=some (u'):=(hF 5 (by kernel_rfl)).eq rfl fun _ _ e=>e.2 (by decide)
   exact reg_pure (v:=u') (fun _=>.inl rfl) vz (vy f5) ⟨fun e=>absurd e (by decide),fun _=>rfl⟩
theorem one_region1 {K0 K1:DHeap} {u u':Value} {id o B:Nat} {x:Int} {fr:Fr} {rd:Option Nat} (f9:fr 9=some (.pointer (some ⟨B,0,none⟩))) (f12:fr 12=some u)
 (h1:dIndexAddr Try.prog 22 u (.int .i64 0)=some (.pointer (some ⟨id,o,none⟩))) (c0:cellAt K0 id o=some (.int .u8 x)) (c1:cellAt K1 id o=some (.int .u8 x)) (hx:IntKind.i64.wrap x=x)
 (hs0:dSlice Try.prog 22 u (some (.int .i64 1)) none none K0=some u') (hs1:dSlice Try.prog 22 u (some (.int .i64 1)) none none K1=some u') (s0:storeAt K0 B 3 [.int .i64 x]=some K1) (s1:storeAt K1 B 3 [.int .i64 x]=some K1) :
 NC Try.prog 132 r81_1 (DThen (fun s=>s.df=[]∧s.rd=rd∧s.h=K1∧s.fr 12=some u'∧s.fr 0=fr 0∧s.fr 1=fr 1∧s.fr 4=fr 4∧s.fr 7=fr 7∧s.fr 9=fr 9∧s.fr 10=fr 10) (fun _ _=>False)) ⟨fr,[],K0,rd⟩:=by
 refine NC.regs (l:=l81_1) (by kernel_rfl) (by kernel_rfl) (by kernel_rfl) rfl (by kernel_rfl) (by kernel_rfl) (fun a b=>b=a∨b=K1) (fun _=>.inl rfl) (fun a b c h g=>?_) (fun i h v=>(i=7→h=K1)∧(i≠7→v=([u,.pointer (some ⟨id,o,none⟩),.int .u8 x,.int .i64 x,u,u',.pointer (some ⟨B,3,none⟩),undef,u']:List Value).getD i undef)) ?_ ?_
 ·rcases g with rfl | rfl
  ·exact h
  ·exact .inr rfl
 case refine_3=>
  rintro ⟨fr1,df1,K,rd1⟩ g hF
  obtain ⟨_,q7,_⟩:=(hF 7 (by decide)).fact
  have f8:=(hF 8 (by decide)).eq (d:=12) (c:=u') rfl fun _ _ e=>e.2 (by decide)
  exact ⟨g.df,g.rd,q7 rfl,f8,g.fr 0 (by kernel_rfl),g.fr 1 (by kernel_rfl),g.fr 4 (by kernel_rfl),g.fr 7 (by kernel_rfl),g.fr 9 (by kernel_rfl),g.fr 10 (by kernel_rfl)⟩
 intro i oo s ho g hpre hown hF
 have F9:s.fr 9=some (.pointer (some ⟨B,0,none⟩)):=(g.fr 9 (by kernel_rfl)).trans f9
 have hi':i<9:=(List.getElem?_eq_some_iff.1 ho).1
 have hh:s.h=K0∨s.h=K1:=g.ext
 have hc:cellAt s.h id o=some (.int .u8 x):=by rcases hh with e | e <;> rw[e] <;> assumption
 have hs:dSlice Try.prog 22 u (some (.int .i64 1)) none none s.h=some u':=by rcases hh with e | e <;> rw[e] <;> assumption
 match i,hi' with
 | 0,_=>
   simp only[l81_1,List.getElem?_cons_zero,List.getElem?_cons_succ,Option.some.injEq]at ho
   subst ho
   have F12:s.fr 12=some u:=(hpre 8 12 (by kernel_rfl) (by kernel_rfl)).trans f12
   exact reg_pure (v:=u) (fun _=>.inl rfl) vz (vy F12) ⟨fun e=>absurd e (by decide),fun _=>rfl⟩
 | 1,_=>
   simp only[l81_1,List.getElem?_cons_zero,List.getElem?_cons_succ,Option.some.injEq]at ho
   subst ho
   have f0:s.fr 75=some (u):=(hF 0 (by kernel_rfl)).eq rfl fun _ _ e=>e.2 (by decide)
   exact reg_pure (v:=.pointer (some ⟨id,o,none⟩)) (fun _=>.inl rfl) vz (by simp -implicitDefEqProofs (disch:=first|omega|simp only[go_sem]) only[go_sem,true_and,f0,h1]) ⟨fun e=>absurd e (by decide),fun _=>rfl⟩
 | 2,_=>
   simp only[l81_1,List.getElem?_cons_zero,List.getElem?_cons_succ,Option.some.injEq]at ho
   subst ho
   have f1:s.fr 76=some (.pointer (some ⟨id,o,none⟩)):=(hF 1 (by kernel_rfl)).eq rfl fun _ _ e=>e.2 (by decide)
   exact reg_pure (v:=.int .u8 x) (fun _=>.inl rfl) vz (by simp -implicitDefEqProofs (disch:=first|omega|simp only[go_sem]) only[go_sem,true_and,f1,hc]) ⟨fun e=>absurd e (by decide),fun _=>rfl⟩
 | 3,_=>
   simp only[l81_1,List.getElem?_cons_zero,List.getElem?_cons_succ,Option.some.injEq]at ho
   subst ho
   have f2:s.fr 77=some (.int .u8 x):=(hF 2 (by kernel_rfl)).eq rfl fun _ _ e=>e.2 (by decide)
   exact reg_pure (v:=.int .i64 x) (fun _=>.inl rfl) vz (by simp -implicitDefEqProofs (disch:=first|omega|simp only[go_sem]) only[go_sem,true_and,f2,hx]) ⟨fun e=>absurd e (by decide),fun _=>rfl⟩
 | 4,_=>
   simp only[l81_1,List.getElem?_cons_zero,List.getElem?_cons_succ,Option.some.injEq]at ho
   subst ho
   have F12:s.fr 12=some u:=(hpre 8 12 (by kernel_rfl) (by kernel_rfl)).trans f12
   exact reg_pure (v:=u) (fun _=>.inl rfl) vz (vy F12) ⟨fun e=>absurd e (by decide),fun _=>rfl⟩
 | 5,_=>
   simp only[l81_1,List.getElem?_cons_zero,List.getElem?_cons_succ,Option.some.injEq]at ho
   subst ho
   have f4:s.fr 79=some (u):=(hF 4 (by kernel_rfl)).eq rfl fun _ _ e=>e.2 (by decide)
   exact reg_pure (v:=u') (fun _=>.inl rfl) vz (by simp -implicitDefEqProofs (disch:=first|omega|simp only[go_sem]) only[go_sem,true_and,f4,hs]) ⟨fun e=>absurd e (by decide),fun _=>rfl⟩
 | 6,_=>
   simp only[l81_1,List.getElem?_cons_zero,List.getElem?_cons_succ,Option.some.injEq]at ho
   subst ho
   exact reg_pure (v:=.pointer (some ⟨B,3,none⟩)) (fun _=>.inl rfl) vz (vy F9) ⟨fun e=>absurd e (by decide),fun _=>rfl⟩
 | 7,_=>
   simp only[l81_1,List.getElem?_cons_zero,List.getElem?_cons_succ,Option.some.injEq]at ho
   subst ho
   have f3:s.fr 78=some (.int .i64 x):=(hF 3 (by kernel_rfl)).eq rfl fun _ _ e=>e.2 (by decide)
   have f6:s.fr 81=some (.pointer (some ⟨B,3,none⟩)):=(hF 6 (by kernel_rfl)).eq rfl fun _ _ e=>e.2 (by decide)
   have hst:storeAt s.h B 3 [.int .i64 x]=some K1:=by rcases hh with e | e <;> rw[e] <;> assumption
   exact reg_store (h':=K1) vz (by simp -implicitDefEqProofs (disch:=first|omega|simp only[go_sem]) only[go_sem,true_and,f3,f6,hst]) (.inr rfl) ⟨fun _=>rfl,fun e=>absurd rfl e⟩ fun j u hj hv=>⟨fun _=>rfl,hv.2⟩
 | 8,_=>
   simp only[l81_1,List.getElem?_cons_zero,List.getElem?_cons_succ,Option.some.injEq]at ho
   subst ho
   have f5:s.fr 80=some (u'):=(hF 5 (by kernel_rfl)).eq rfl fun _ _ e=>e.2 (by decide)
   exact reg_pure (v:=u') (fun _=>.inl rfl) vz (vy f5) ⟨fun e=>absurd e (by decide),fun _=>rfl⟩
end Go.Proofs.Ythjmkmoiopmfcaa

namespace Go.Proofs.Ythjmkmoiopmfcaa
open Go.D
set_option maxRecDepth 100000
theorem tables {n:Nat} (hn:n<28):sizeC n=sizeI n∧(andI (formL.getD n 0) 1=0↔firstB n=false)∧(andI (formL.getD n 0) 2=0↔twoB n=false)∧(andI (formL.getD n 0) 4=0↔wideI n≠1)∧(andI (formL.getD n 0) 8=0↔n≠1)∧(andI (formL.getD n 0) 16=0↔¬ (wideI n=2∧n≠1))∧(n=1→wideI n=2)∧sizeI n≠0:=by
 have:∀ n:Nat,n<28→sizeC n=sizeI n∧(andI (formL.getD n 0) 1=0↔firstB n=false)∧(andI (formL.getD n 0) 2=0↔twoB n=false)∧(andI (formL.getD n 0) 4=0↔wideI n≠1)∧(andI (formL.getD n 0) 8=0↔n≠1)∧(andI (formL.getD n 0) 16=0↔¬ (wideI n=2∧n≠1))∧(n=1→wideI n=2)∧sizeI n≠0:=by decide
 exact this n hn
theorem size_none {n:Int} (hn:28≤n):sizeI n=0:=by
 unfold sizeI
 repeat' split
 all_goals omega
theorem indexB_eq {l:List Int} {i:Nat} (hb:∀ j,0≤l.getD j 0):indexB (oneI l i)=decide (indexE (oneI l i)=0)∧(indexE (oneI l i)≠0→indexE (oneI l i)=132):=by
 have h1:=hb (i+1)
 have h2:=hb (i+1+if firstB (l.getD i 0) then 1 else 0)
 have e1:(oneI l i).a=if firstB (l.getD i 0) then l.getD (i+1) 0 else 0:=rfl
 have e2:(oneI l i).b=if twoB (l.getD i 0) then l.getD (i+1+if firstB (l.getD i 0) then 1 else 0) 0 else 0:=rfl
 have e3:(oneI l i).op=l.getD i 0:=rfl
 generalize oneI l i=x at e1 e2 e3 ⊢
 generalize l.getD (i+1+if firstB (l.getD i 0) then 1 else 0) 0=yb at h2 e2
 generalize l.getD (i+1) 0=ya at h1 e1
 rw[← e3]at e1 e2
 unfold indexB indexE
 cases hf:firstB x.op <;> cases ht:twoB x.op <;> rw[hf]at e1 <;> rw[ht]at e2 <;> simp only[Bool.false_eq_true,if_true,if_false]at e1 e2
 all_goals
  rw[e1,e2]
  constructor
  ·by_cases p19:x.op=19 <;> by_cases p8:x.imm=8 <;> by_cases p16:x.imm=16 <;> by_cases p32:x.imm=32 <;> by_cases q1:ya<8 <;> by_cases q2:yb<8 <;> simp[p19,p8,p16,p32,q1,q2,h1,h2,Int.not_lt.1,Int.not_le.2,Int.not_lt.2] <;> omega
  ·intro h
   split at h
   ·rw[if_pos (by assumption)]
   ·rw[if_neg (by assumption)]
    split at h
    ·rw[if_pos (by assumption)]
    ·exact absurd rfl h
theorem or16 {x y:Int} (hx:0≤x) (hx2:x≤255) (hy:0≤y) (hy2:y≤255) :
 IntKind.u16.wrap (((BitVec.ofInt 16 x ||| BitVec.ofInt 16 (IntKind.u16.wrap (y*256))).toNat:Nat):Int)=x+256*y:=by
 obtain ⟨m,rfl⟩:∃ m:Nat,y=m:=⟨y.toNat,by omega⟩
 obtain ⟨n,rfl⟩:∃ n:Nat,x=n:=⟨x.toNat,by omega⟩
 have h1:IntKind.u16.wrap ((m:Int)*256)=((m*256:Nat):Int):=by rw[wrap_in (inK_u16.2 ⟨by omega,by omega⟩)];omega
 rw[h1]
 have h3:(BitVec.ofInt 16 ((m*256:Nat):Int)).toNat=m*256:=by simp;omega
 have h4:(BitVec.ofInt 16 (n:Int)).toNat=n:=by simp;omega
 rw[BitVec.toNat_or,h3,h4]
 have h5:n ||| m*256=m*256+n:=by
  rw[Nat.or_comm,show m*256=m <<< 8 by rw[Nat.shiftLeft_eq]]
  exact (Nat.shiftLeft_add_eq_or_of_lt (by omega) m).symm
 rw[h5,wrap_in (inK_u16.2 ⟨by omega,by omega⟩)]
 omega
theorem wrap_i16 {n:Int} (h0:0≤n) (h1:n≤65535):IntKind.i16.wrap n=if 32768≤n then n - 65536 else n:=by
 have e:n % 2 ^ 16=n:=by omega
 simp only[IntKind.wrap,IntKind.signed,IntKind.bits,e]
 by_cases h2:32768≤n
 ·rw[if_pos h2,if_pos (by simpa using h2)]
  rfl
 ·rw[if_neg h2,if_neg (by simpa using h2)]
def orH (a b:Int):Int:=IntKind.u16.wrap (BitVec.ofInt IntKind.u16.bits a ||| BitVec.ofInt IntKind.u16.bits b).toNat
theorem bin_orH {P:Program} {t:TypeId} {ox oy:Operand} {a b:Int} {h:DHeap}:dBinOp P .or t ox oy (.int .u16 a) (.int .u16 b) h=.ok (.value (.int .u16 (orH a b))) h:=bin_or
theorem bin_shl8 {P:Program} {t:TypeId} {ox oy:Operand} {a:Int} {h:DHeap}:dBinOp P .shl t ox oy (.int .u16 a) (.int .u64 8) h=.ok (.value (.int .u16 (IntKind.u16.wrap (a*256)))) h:=bin_shl (by decide)
theorem orH_eq {x y:Int} (hx:0≤x) (hx2:x≤255) (hy:0≤y) (hy2:y≤255):orH x (IntKind.u16.wrap (y*256))=x+256*y:=or16 hx hx2 hy hy2
theorem XIf_cutB {P:Program} {nt id:Nat} {x y:Code} {K:St→Prop} {Q:DExit→St→Prop} {s:St} {t:Bool} (M:St→Prop) (h1:t=true→xs P nt x (DBlock id (DThen M Q)) s) (h2:t=false→xs P nt y (DBlock id (DThen M Q)) s) (h3:∀ s',M s'→K s') :
 XIf P nt x y (DBlock id (DThen K Q)) s (some (.bool t)):=⟨fun ht=>xblock_cut M (h1 ht) h3,fun ht=>xblock_cut M (h2 ht) h3⟩
def OnE (B:Nat) (H:DHeap) (i:Nat) (op:Int) (x:Instr) (s:St):Prop:=
 s.df=[]∧s.rd=none∧s.fr 1=some (.int .i64 (i:Nat))∧s.fr 4=some (.pointer (some ⟨B,0,none⟩))∧s.fr 7=some (.int .i64 (sizeI op))∧s.fr 9=some (.pointer (some ⟨H.next,0,none⟩))∧s.h=H.push (.row (fInstr.enc x) 0 false)
def OnM (B:Nat) (H:DHeap) (v:Value) (i:Nat) (op f a b imm:Int) (u:Value) (s:St):Prop:=
 s.df=[]∧s.rd=none∧s.fr 0=some v∧s.fr 1=some (.int .i64 (i:Nat))∧s.fr 4=some (.pointer (some ⟨B,0,none⟩))∧s.fr 7=some (.int .i64 (sizeI op))∧s.fr 9=some (.pointer (some ⟨H.next,0,none⟩))∧s.fr 10=some (.int .i64 f)∧s.fr 12=some u∧s.h=H.push (.row (fInstr.enc ⟨(i:Nat),op,a,b,imm⟩) 0 false)
theorem getD_part {l:List Int} {j k m:Nat} (hm:k+j<m):((l.take m).drop k).getD j 0=l.getD (k+j) 0:=by
 simp[List.getD_eq_getElem?_getD,List.getElem?_take,hm]
set_option maxHeartbeats 2000000 in
theorem one_c {h:DHeap} {v:Value} {l:List Int} {i:Nat} (hb:Arg fU8.rep h v l) (hl:l.length≤4294967296) (hi:i≤4294967296) :
 DC Try.prog 81 [v,.int .i64 (i:Nat)] h (.ret (.tuple #[instrV (oneT l i).1,.int .i64 (oneT l i).2.1,.int .i64 (oneT l i).2.2])) h:=by
 refine Ct.pure (go_81 (by simp) ?_) vin_one
 obtain ⟨H,hH⟩:∃ H,H=h.push (.row [.int .i64 0,.int .i64 0,.int .i64 0,.int .i64 0,.int .i64 0] 0 false):=⟨_,rfl⟩
 have hE:Ext h H:=by rw[hH];exact Ext.push1 _ _
 have g:H.get h.next=some (.row (fInstr.enc zeroInstr) 0 false):=by rw[hH];exact get_push_same _ _
 have hHn:H.next=h.next+1:=by rw[hH];rfl
 have el:∀ K,dLen Try.prog #[22] v K=some (.int .i64 (l.length:Nat)):=hb.lens (P:=Try.prog) (ts:=#[22]) (t:=22) rfl isl_22
 have hz:storeAt H h.next 0 [.int .i64 0,.int .i64 0,.int .i64 0,.int .i64 0,.int .i64 0]=some H:=by
  rw[storeAt_row g (Nat.le_of_ble_eq_true rfl) rfl]
  exact congrArg some (set_self g)
 have hneg:¬ ((i:Nat):Int)<0:=by omega
 by_cases h0:((l.length:Nat):Int)≤(i:Nat)
 ·have h0':=eq_true h0
  simp -implicitDefEqProofs (disch:=first|omega|simp only[go_sem]) only[go_sem,true_and,c81,← hH,hneg,h0',el,dPick_t,dPick_f,bd_instr0,hz]
  refine ret_at (res_i (n:=0) (e:=130) vz vz vz g) ⟨?_,hE⟩
  rw[oneT,if_pos (by omega)]
 have hil:i<l.length:=by omega
 have hbyte:∀ j,0≤l.getD j 0∧l.getD j 0≤255:=fun j=>by
  by_cases hj:j<l.length
  ·obtain ⟨_,_,_,_,a,b⟩:=byte_at hb hj
   exact ⟨a,b⟩
  ·rw[List.getD_eq_getElem?_getD,List.getElem?_eq_none (by omega)]
   exact ⟨Int.le_refl _,by decide⟩
 obtain ⟨id0,o0,ia0,lb0,r0,r1⟩:=byte_at hb hil
 obtain ⟨opn,hopn⟩:∃ n:Nat,l.getD i 0=(n:Int):=⟨(l.getD i 0).toNat,by omega⟩
 rw[hopn]at lb0 r0 r1
 have hw0:IntKind.i64.wrap (opn:Int)=opn:=wrap_i64_in (by omega) (by omega)
 simp -implicitDefEqProofs (disch:=first|omega|simp only[go_sem]) only[go_sem,true_and,c81,← hH,hneg,h0,el,dPick_t,dPick_f,ia0,lb0 H hE,hw0]
 refine ncall size_c ?_
 have hwl:IntKind.i64.wrap ((l.length:Int) - (i:Nat))=(l.length:Int) - (i:Nat):=wrap_i64_in (by omega) (by omega)
 by_cases h1:opn<28
 case neg=>
  have h1':=decide_eq_false h1
  simp -implicitDefEqProofs (disch:=first|omega|simp only[go_sem]) only[go_sem,true_and,h1',dPick_t,dPick_f,bd_instr0,hz]
  refine ret_at (res_i (n:=0) (e:=130) vz vz vz g) ⟨?_,hE⟩
  rw[oneT,if_neg (by omega),hopn,if_pos (.inl (size_none (by omega)))]
 have h1':=decide_eq_true h1
 obtain ⟨t1,t2,t3,t4,t5,t6,t7,t8⟩:=tables h1
 rw[t1]
 by_cases h2:(l.length:Int) - (i:Nat)<sizeI opn
 ·have h2':=eq_true h2
  simp -implicitDefEqProofs (disch:=first|omega|simp only[go_sem]) only[go_sem,true_and,h1',hwl,h2',el,dPick_t,dPick_f,bd_instr0,hz]
  refine ret_at (res_i (n:=0) (e:=130) vz vz vz g) ⟨?_,hE⟩
  rw[oneT,if_neg (by omega),hopn,if_pos (.inr h2)]
 obtain ⟨f,hf⟩:∃ f,formL.getD opn 0=f:=⟨_,rfl⟩
 rw[hf]at t2 t3 t4 t5 t6
 have hs:=sizeI_le opn
 obtain ⟨w1,w2,w3,w4⟩:=size_split t8
 have hT:oneT l i=if indexE (oneI l i)=0 then (oneI l i,i+sizeI opn,0) else (zeroInstr,0,indexE (oneI l i)):=by
  rw[oneT,if_neg (by omega),hopn,if_neg (by omega)]
 have hsz:sizeI opn=1+(if firstB opn then 1 else 0)+(if twoB opn then 1 else 0)+wideI opn:=by unfold wideI;omega
 have hst5:∀ a b c d e:Int,storeAt (H.push (.row [.int .i64 0,.int .i64 0,.int .i64 0,.int .i64 0,.int .i64 0] 0 false)) H.next 0 [.int .i64 a,.int .i64 b,.int .i64 c,.int .i64 d,.int .i64 e]=some (H.push (.row (fInstr.enc ⟨a,b,c,d,e⟩) 0 false)):=fun a b c d e=>store5_push rfl
 have cI:∀ x,cellAt (H.push (.row (fInstr.enc x) 0 false)) H.next 1=some (.int .i64 x.op):=fun x=>cellAt_row (get_push_same _ _)
 have lc:∀ x,cellsAt (H.push (.row (fInstr.enc x) 0 false)) H.next 0 5=some (instrV x):=fun x=>by rw[cellsAt_row (get_push_same _ _) (Nat.le_of_ble_eq_true rfl)];rfl
 have hEP:∀ o,Ext h (H.push o):=fun o=>hE.push o
 have hw1:IntKind.i64.wrap ((i:Int)+1)=((i+1:Nat):Int):=by rw[wrap_i64_in (by omega) (by omega)];omega
 obtain ⟨m,hm⟩:∃ m:Nat,(m:Int)=i+sizeI opn:=⟨(i+sizeI opn).toNat,by omega⟩
 have hw2:IntKind.i64.wrap ((i:Int)+sizeI opn)=(m:Nat):=by rw[wrap_i64_in (by omega) (by omega)];omega
 obtain ⟨u0,hu0,hr0⟩:=part_of hb (i:=i+1) (j:=m) (by omega) (by omega)
 simp -implicitDefEqProofs (disch:=first|omega|simp only[go_sem]) only[go_sem,true_and,h1',hwl,h2,el,dPick_t,dPick_f,ia0,lb0 H hE,hw0,bd_instr2,hst5,cI]
 refine ncall form_c ?_
 rw[hf]
 simp -implicitDefEqProofs (disch:=first|omega|simp only[go_sem]) only[go_sem,true_and,hw1,hw2,hu0 _ (hEP _),↓bin_andI]
 have hd:∀ (u:Value) (k:Nat),Arg fU8.rep h u ((l.take m).drop k)→k<m→∃ id o u',dIndexAddr Try.prog 22 u (.int .i64 0)=some (.pointer (some ⟨id,o,none⟩))∧(∀ K,Ext h K→cellAt K id o=some (.int .u8 (l.getD k 0)))∧(∀ K,Ext h K→dSlice Try.prog 22 u (some (.int .i64 1)) none none K=some u')∧Arg fU8.rep h u' ((l.take m).drop (k+1)):=by
  intro u k hu hk
  have hlen:((l.take m).drop k).length=m - k:=by rw[List.length_drop,List.length_take,Nat.min_eq_left (by omega)]
  obtain ⟨id,o,e1,e2,_,_⟩:=byte_at hu (i:=0) (by omega)
  obtain ⟨u',e3,e4⟩:=rest_of hu (k:=1) (by omega)
  rw[getD_part (by omega)]at e2
  rw[List.drop_drop]at e4
  exact ⟨id,o,u',e1,e2,e3,e4⟩
 have hwx:∀ j,IntKind.i64.wrap (l.getD j 0)=l.getD j 0:=fun j=>by
  have:=hbyte j
  exact wrap_i64_in (by omega) (by omega)
 have hsp:∀ a b,(H.push (.row (fInstr.enc a) 0 false)).set H.next (.row (fInstr.enc b) 0 false)=H.push (.row (fInstr.enc b) 0 false):=fun a b=>set_push_same _ _ _
 have sA:∀ a b n c d e,storeAt (H.push (.row (fInstr.enc ⟨a,b,n,c,d⟩) 0 false)) H.next 2 [.int .i64 e]=some (H.push (.row (fInstr.enc ⟨a,b,e,c,d⟩) 0 false)):=fun a b n c d e=>by
  rw[storeAt_row (get_push_same _ _) (Nat.le_of_ble_eq_true rfl) rfl]
  exact congrArg some (set_push_same _ _ _)
 have sB:∀ a b n c d e,storeAt (H.push (.row (fInstr.enc ⟨a,b,n,c,d⟩) 0 false)) H.next 3 [.int .i64 e]=some (H.push (.row (fInstr.enc ⟨a,b,n,e,d⟩) 0 false)):=fun a b n c d e=>by
  rw[storeAt_row (get_push_same _ _) (Nat.le_of_ble_eq_true rfl) rfl]
  exact congrArg some (set_push_same _ _ _)
 have sC:∀ a b n c d e,storeAt (H.push (.row (fInstr.enc ⟨a,b,n,c,d⟩) 0 false)) H.next 4 [.int .i64 e]=some (H.push (.row (fInstr.enc ⟨a,b,n,c,e⟩) 0 false)):=fun a b n c d e=>by
  rw[storeAt_row (get_push_same _ _) (Nat.le_of_ble_eq_true rfl) rfl]
  exact congrArg some (set_push_same _ _ _)
 obtain ⟨k2,hk2⟩:∃ k2,k2=i+1+if firstB opn then 1 else 0:=⟨_,rfl⟩
 obtain ⟨xa,hxa⟩:∃ xa,xa=if firstB opn then l.getD (i+1) 0 else 0:=⟨_,rfl⟩
 have hk2l:(k2:Int)+(if twoB opn then 1 else 0)+wideI opn=m:=by
  rw[hm,hk2,hsz]
  split <;> simp <;> omega
 refine XIf_cut (fun s=>∃ u,OnM h.next H v i opn f xa 0 0 u s∧Arg fU8.rep h u ((l.take m).drop k2)) (fun ht=>?_) (fun ht=>?_) ?_
 ·have hf1:firstB opn=true:=by
   cases hh:firstB opn with
   | true=>rfl
   | false=>rw[decide_eq_true (t2.2 hh)]at ht;cases ht
  rw[hf1]at hk2 hxa
  simp only[if_true]at hk2 hxa
  obtain ⟨id1,o1,u1,e1,e2,e3,e4⟩:=hd u0 (i+1) hr0 (by
   rw[hf1]at hsz
   simp only[if_true]at hsz
   have:0≤(if twoB opn then (1:Int) else 0):=by split <;> omega
   omega)
  rw[← hxa]at e2
  refine NC.mono (one_region0 (K1:=H.push (.row (fInstr.enc ⟨(i:Nat),opn,xa,0,0⟩) 0 false)) (x:=xa) (B:=H.next) vz vz e1 (e2 _ (hEP _)) (e2 _ (hEP _)) (by rw[hxa];exact hwx _) (e3 _ (hEP _)) (e3 _ (hEP _)) (sA _ _ _ _ _ _) (sA _ _ _ _ _ _)) ?_
  rintro e ⟨fr1,df1,hh1,rd1⟩ hM
  cases e <;> try exact hM.elim
  obtain ⟨rfl,rfl,rfl,q12,q0,q1,q4,q7,q9,q10⟩:=hM
  refine ⟨u1,⟨rfl,rfl,q0.trans vz,q1.trans vz,q4.trans vz,q7.trans vz,q9.trans vz,q10.trans vz,q12,rfl⟩,?_⟩
  rw[hk2]
  exact e4
 ·have hf1:firstB opn=false:=by
   cases hh:firstB opn with
   | false=>rfl
   | true=>rw[decide_eq_false (fun h=>by rw[t2.1 h]at hh;cases hh)]at ht;cases ht
  rw[hf1]at hk2 hxa
  simp only[Bool.false_eq_true,if_false,Nat.add_zero]at hk2 hxa
  simp -implicitDefEqProofs (disch:=first|omega|simp only[go_sem]) only[go_sem,true_and]
  refine ⟨u0,⟨rfl,rfl,vz,vz,vz,vz,vz,vz,vz,by rw[hxa]⟩,?_⟩
  rw[hk2]
  exact hr0
 rintro ⟨fr,df,K,rd⟩ ⟨u1,⟨rfl,rfl,f0,f1,f4,f7,f9,f10,f12,hK⟩,hr1⟩
 simp only at f0 f1 f4 f7 f9 f10 f12 hK
 subst hK
 obtain ⟨k3,hk3⟩:∃ k3,k3=k2+if twoB opn then 1 else 0:=⟨_,rfl⟩
 obtain ⟨xb,hxb⟩:∃ xb,xb=if twoB opn then l.getD k2 0 else 0:=⟨_,rfl⟩
 have hk3l:(k3:Int)+wideI opn=m:=by
  rw[← hk2l,hk3]
  split <;> simp
 simp -implicitDefEqProofs (disch:=first|omega|simp only[go_sem]) only[go_sem,true_and,f10,↓bin_andI]
 refine XIf_cut (fun s=>∃ u,OnM h.next H v i opn f xa xb 0 u s∧Arg fU8.rep h u ((l.take m).drop k3)) (fun ht=>?_) (fun ht=>?_) ?_
 ·have hf1:twoB opn=true:=by
   cases hh:twoB opn with
   | true=>rfl
   | false=>rw[decide_eq_true (t3.2 hh)]at ht;cases ht
  rw[hf1]at hk3 hxb hk2l
  simp only[if_true]at hk3 hxb hk2l
  obtain ⟨id1,o1,u2,e1,e2,e3,e4⟩:=hd u1 k2 hr1 (by omega)
  rw[← hxb]at e2
  refine NC.mono (one_region1 (K1:=H.push (.row (fInstr.enc ⟨(i:Nat),opn,xa,xb,0⟩) 0 false)) (x:=xb) (B:=H.next) (vy f9) (vy f12) e1 (e2 _ (hEP _)) (e2 _ (hEP _)) (by rw[hxb];exact hwx _) (e3 _ (hEP _)) (e3 _ (hEP _)) (sB _ _ _ _ _ _) (sB _ _ _ _ _ _)) ?_
  rintro e ⟨fr1,df1,hh1,rd1⟩ hM
  cases e <;> try exact hM.elim
  obtain ⟨rfl,rfl,rfl,q12,q0,q1,q4,q7,q9,q10⟩:=hM
  refine ⟨u2,⟨rfl,rfl,q0.trans (vy f0),q1.trans (vy f1),q4.trans (vy f4),q7.trans (vy f7),q9.trans (vy f9),q10.trans (vy f10),q12,rfl⟩,?_⟩
  rw[hk3]
  exact e4
 ·have hf1:twoB opn=false:=by
   cases hh:twoB opn with
   | false=>rfl
   | true=>rw[decide_eq_false (fun h=>by rw[t3.1 h]at hh;cases hh)]at ht;cases ht
  rw[hf1]at hk3 hxb
  simp only[Bool.false_eq_true,if_false,Nat.add_zero]at hk3 hxb
  simp -implicitDefEqProofs (disch:=first|omega|simp only[go_sem]) only[go_sem,true_and]
  refine ⟨u1,⟨rfl,rfl,(vy f0),(vy f1),(vy f4),(vy f7),(vy f9),(vy f10),(vy f12),by rw[hxb]⟩,?_⟩
  rw[hk3]
  exact hr1
 clear f0 f1 f4 f7 f9 f10 f12 fr
 rintro ⟨fr,df,K,rd⟩ ⟨u2,⟨rfl,rfl,f0,f1,f4,f7,f9,f10,f12,hK⟩,hr2⟩
 simp only at f0 f1 f4 f7 f9 f10 f12 hK
 subst hK
 simp -implicitDefEqProofs (disch:=first|omega|simp only[go_sem]) only[go_sem,true_and,f10,↓bin_andI]
 obtain ⟨w,hw⟩:∃ w,wideI opn=w:=⟨_,rfl⟩
 rw[hw]at w1 w2 hk3l t4 t6 t7
 obtain ⟨x,hx⟩:∃ x,l.getD k3 0=x:=⟨_,rfl⟩
 obtain ⟨y,hy⟩:∃ y,l.getD (k3+1) 0=y:=⟨_,rfl⟩
 have hone:oneI l i=⟨(i:Nat),opn,xa,xb,immW opn w x y⟩:=by
  unfold oneI
  simp only[hopn,← hxa,← hk2,← hxb,← hk3,hw,hx,hy]
 have bx:=hbyte k3
 have b_y:=hbyte (k3+1)
 rw[hx]at bx
 rw[hy]at b_y
 have hwx1:IntKind.i64.wrap x=x:=wrap_i64_in (by omega) (by omega)
 have hux:IntKind.u16.wrap x=x:=wrap_in (inK_u16.2 ⟨by omega,by omega⟩)
 have huy:IntKind.u16.wrap y=y:=wrap_in (inK_u16.2 ⟨by omega,by omega⟩)
 have hor:=orH_eq bx.1 bx.2 b_y.1 b_y.2
 have two:w=2→∃ id0 o0 id1 o1,dIndexAddr Try.prog 22 u2 (.int .i64 0)=some (.pointer (some ⟨id0,o0,none⟩))∧dIndexAddr Try.prog 22 u2 (.int .i64 1)=some (.pointer (some ⟨id1,o1,none⟩))∧(∀ K,Ext h K→cellAt K id0 o0=some (.int .u8 x))∧∀ K,Ext h K→cellAt K id1 o1=some (.int .u8 y):=fun hw2=>by
  have hlen:((l.take m).drop k3).length=m - k3:=by rw[List.length_drop,List.length_take,Nat.min_eq_left (by omega)]
  obtain ⟨id0,o0,e1,e2,_,_⟩:=byte_at hr2 (i:=0) (by omega)
  obtain ⟨id1,o1,e3,e4,_,_⟩:=byte_at hr2 (i:=1) (by omega)
  rw[getD_part (by omega)]at e2 e4
  rw[Nat.add_zero,hx]at e2
  rw[hy]at e4
  exact ⟨id0,o0,id1,o1,e1,e3,e2,e4⟩
 refine XIf_cutB (OnE h.next H i opn (oneI l i)) (fun ht=>?_) (fun ht=>?_) ?_
 ·have hw1':w=1:=by
   cases Int.decEq w 1 with
   | isTrue e=>exact e
   | isFalse e=>rw[decide_eq_true (t4.2 e)]at ht;cases ht
  obtain ⟨id1,o1,u3,e1,e2,_,_⟩:=hd u2 k3 hr2 (by omega)
  rw[hx]at e2
  simp -implicitDefEqProofs (disch:=first|omega|simp only[go_sem]) only[go_sem,true_and,f9,f12,e1,e2 _ (hEP _),hwx1,sC]
  refine ⟨rfl,rfl,(vy f1),(vy f4),(vy f7),(vy f9),?_⟩
  rw[hone]
  rw[immW,if_neg (by omega),if_pos (by omega)]
 ·have hw1':w≠1:=fun e=>by
   rw[decide_eq_false (fun h=>t4.1 h e)]at ht
   cases ht
  simp -implicitDefEqProofs (disch:=first|omega|simp only[go_sem]) only[go_sem,true_and,f10,↓bin_andI]
  refine XIf_split (fun ht=>?_) (fun ht=>?_)
  ·have ho1:opn=1:=by
    cases Nat.decEq opn 1 with
    | isTrue e=>exact e
    | isFalse e=>rw[decide_eq_true (t5.2 e)]at ht;cases ht
   have hw2':=t7 ho1
   obtain ⟨id0',o0',id1,o1,e1,e2,e3,e4⟩:=two hw2'
   have hsg:=wrap_i16 (n:=x+256*y) (by omega) (by omega)
   obtain ⟨z,hz⟩:∃ z,IntKind.i16.wrap (x+256*y)=z:=⟨_,rfl⟩
   have hzz:IntKind.i64.wrap z=z:=by
    rw[hz]at hsg
    split at hsg <;> exact wrap_i64_in (by omega) (by omega)
   have himm:immW opn w x y=z:=by
    rw[← hz,hsg]
    unfold immW
    rw[if_pos hw2',ho1]
    by_cases hb:32768≤x+256*y
    ·simp[hb]
    ·simp[hb]
   refine dr_81_2 ?_
   simp -implicitDefEqProofs (disch:=first|omega|simp only[go_sem]) only[go_sem,true_and,l81_2,f9,f12,e1,e2,e3 _ (hEP _),e4 _ (hEP _),hux,huy,bin_shl8,↓bin_orH,hor,hz,hzz,sC]
   refine ⟨rfl,rfl,(vy f1),(vy f4),(vy f7),(vy f9),?_⟩
   rw[hone,himm]
  ·have ho1:opn≠1:=fun e=>by
    rw[decide_eq_false (fun h=>t5.1 h e)]at ht
    cases ht
   simp -implicitDefEqProofs (disch:=first|omega|simp only[go_sem]) only[go_sem,true_and,f10,↓bin_andI]
   refine XIf_split (fun ht=>?_) (fun ht=>?_)
   ·have hw2':w=2:=by
     cases Int.decEq w 2 with
     | isTrue e=>exact e
     | isFalse e=>rw[decide_eq_true (t6.2 fun hh=>e hh.1)]at ht;cases ht
    obtain ⟨id0',o0',id1,o1,e1,e2,e3,e4⟩:=two hw2'
    have hzz:IntKind.i64.wrap (x+256*y)=x+256*y:=wrap_i64_in (by omega) (by omega)
    refine dr_81_3 ?_
    simp -implicitDefEqProofs (disch:=first|omega|simp only[go_sem]) only[go_sem,true_and,l81_3,f9,f12,e1,e2,e3 _ (hEP _),e4 _ (hEP _),hux,huy,bin_shl8,↓bin_orH,hor,hzz,sC]
    refine ⟨rfl,rfl,(vy f1),(vy f4),(vy f7),(vy f9),?_⟩
    rw[hone]
    rw[immW,if_pos hw2',if_neg (fun hh=>ho1 (by have:=hh.1;omega))]
   ·have hw2':w≠2:=fun e=>by
     rw[decide_eq_false (fun h=>t6.1 h ⟨e,ho1⟩)]at ht
     cases ht
    simp -implicitDefEqProofs (disch:=first|omega|simp only[go_sem]) only[go_sem,true_and]
    refine ⟨rfl,rfl,(vy f1),(vy f4),(vy f7),(vy f9),?_⟩
    rw[hone]
    rw[immW,if_neg hw2',if_neg (by omega)]
 clear f0 f1 f4 f7 f9 f10 f12 fr
 rintro ⟨fr,df,K,rd⟩ ⟨rfl,rfl,f1,f4,f7,f9,hK⟩
 simp only at f1 f4 f7 f9 hK
 subst hK
 obtain ⟨hix,h132⟩:=indexB_eq (l:=l) (i:=i) fun j=>(hbyte j).1
 simp -implicitDefEqProofs (disch:=first|omega|simp only[go_sem]) only[go_sem,true_and,f9,lc]
 refine ncall index_c ?_
 rw[hix]
 have g':(H.push (.row (fInstr.enc (oneI l i)) 0 false)).get h.next=some (.row (fInstr.enc zeroInstr) 0 false):=(get_push_other _ _ (by omega)).trans g
 have hst:∀ x:Instr,storeAt (H.push (.row (fInstr.enc (oneI l i)) 0 false)) h.next 0 [.int .i64 x.pos,.int .i64 x.op,.int .i64 x.a,.int .i64 x.b,.int .i64 x.imm]=some ((H.push (.row (fInstr.enc (oneI l i)) 0 false)).set h.next (.row (fInstr.enc x) 0 false)):=fun x=>storeAll g' rfl rfl
 by_cases he:indexE (oneI l i)=0
 ·have he':=eq_true he
  simp -implicitDefEqProofs (disch:=first|omega|simp only[go_sem]) only[go_sem,true_and,he',f9,f1,f7,lc,hw2,f4,hst]
  refine ret_at (res_i (x:=oneI l i) (n:=i+sizeI opn) (e:=0) (vy f4) (by rw[← hm];simp -implicitDefEqProofs (disch:=first|omega|simp only[go_sem]) only[go_sem,true_and]) vz (get_set_same _ _)) ⟨?_,(hEP _).set (by omega)⟩
  rw[hT,if_pos he]
 ·simp -implicitDefEqProofs (disch:=first|omega|simp only[go_sem]) only[go_sem,true_and,he,bd_instr0,f4,hst zeroInstr]
  refine ret_at (res_i (x:=zeroInstr) (n:=0) (e:=132) (vy f4) vz vz (get_set_same _ _)) ⟨?_,(hEP _).set (by omega)⟩
  rw[hT,if_neg he,h132 he]
end Go.Proofs.Ythjmkmoiopmfcaa

namespace Go.Proofs.Ythjmkmoiopmfcaa
open Go.D
set_option maxRecDepth 100000
def walkF (l:List Int):Nat→Nat→List Instr × Int
 | 0,_=>([],0)
 | n+1,i=>if l.length≤i then ([],0) else if (oneT l i).2.2=0 then ((oneT l i).1 :: (walkF l n (oneT l i).2.1.toNat).1,(walkF l n (oneT l i).2.1.toNat).2) else ([],(oneT l i).2.2)
theorem oneT_next {l:List Int} {i:Nat} (h:(oneT l i).2.2=0):(oneT l i).1=oneI l i∧(oneT l i).2.1=i+sizeI (l.getD i 0)∧i<l.length∧1≤sizeI (l.getD i 0)∧(i:Int)+sizeI (l.getD i 0)≤l.length∧indexE (oneI l i)=0:=by
 unfold oneT at h ⊢
 split at h
 ·exact absurd h (by decide)
 ·rename_i h1
  rw[if_neg h1]
  split at h
  ·exact absurd h (by decide)
  ·rename_i h2
   rw[if_neg h2]
   have:=sizeI_le (l.getD i 0)
   split at h
   ·rename_i h3
    rw[if_pos h3]
    refine ⟨rfl,rfl,by omega,by omega,by omega,h3⟩
   ·rename_i h3
    exact absurd h h3
theorem walkF_any {l:List Int}:∀ {n m i:Nat},l.length - i≤n→l.length - i≤m→walkF l n i=walkF l m i
 | 0,0,i,_,_=>rfl
 | 0,m+1,i,h,_=>by simp only[walkF];rw[if_pos (by omega)]
 | n+1,0,i,_,h=>by simp only[walkF];rw[if_pos (by omega)]
 | n+1,m+1,i,h1,h2=>by
   simp only[walkF]
   by_cases h:l.length≤i
   ·rw[if_pos h,if_pos h]
   ·rw[if_neg h,if_neg h]
    by_cases he:(oneT l i).2.2=0
    ·obtain ⟨_,a,b,c,_⟩:=oneT_next he
     rw[if_pos he,if_pos he,walkF_any (n:=n) (m:=m) (by omega) (by omega)]
    ·rw[if_neg he,if_neg he]
def walkAt (l:List Int) (i:Nat):List Instr × Int:=walkF l l.length i
theorem walkAt_end {l:List Int} {i:Nat} (h:l.length≤i):walkAt l i=([],0):=by
 unfold walkAt
 rw[walkF_any (m:=0) (by omega) (by omega)]
 rfl
theorem walkAt_step {l:List Int} {i:Nat} (h:i<l.length):walkAt l i=if (oneT l i).2.2=0 then ((oneT l i).1 :: (walkAt l (oneT l i).2.1.toNat).1,(walkAt l (oneT l i).2.1.toNat).2) else ([],(oneT l i).2.2):=by
 unfold walkAt
 rw[walkF_any (m:=l.length+1) (by omega) (by omega)]
 conv=>lhs;rw[walkF]
 rw[if_neg (by omega)]
theorem walkAt_len {l:List Int}:∀ {n i:Nat},l.length - i≤n→(walkAt l i).1.length≤l.length - i
 | 0,i,h=>by rw[walkAt_end (by omega)];simp
 | n+1,i,h=>by
   by_cases hi:i<l.length
   ·rw[walkAt_step hi]
    split
    ·rename_i he
     obtain ⟨_,a,b,c,d⟩:=oneT_next he
     have:=walkAt_len (l:=l) (n:=n) (i:=(oneT l i).2.1.toNat) (by omega)
     simp only[List.length_cons]
     omega
    ·simp
   ·rw[walkAt_end (by omega)];simp
theorem oneT_ok {l:List Int} {i:Nat} (hl:l.length≤4294967296) (hb:∀ j,0≤l.getD j 0∧l.getD j 0≤255) (h:(oneT l i).2.2=0):fInstr.ok (oneT l i).1:=by
 obtain ⟨e,a,b,c,d⟩:=oneT_next h
 rw[e]
 have b0:=hb i
 have b1:=hb (i+1)
 have b2:=hb (i+1+if firstB (l.getD i 0) then 1 else 0)
 have b3:=hb (i+1+(if firstB (l.getD i 0) then 1 else 0)+if twoB (l.getD i 0) then 1 else 0)
 have b4:=hb (i+1+(if firstB (l.getD i 0) then 1 else 0)+(if twoB (l.getD i 0) then 1 else 0)+1)
 have k1:∀ n:Int,-65536≤n→n≤4294967296→inK .i64 n:=fun n h1 h2=>inK_i64.2 ⟨by omega,by omega⟩
 refine ⟨k1 _ ?_ ?_,k1 _ ?_ ?_,k1 _ ?_ ?_,k1 _ ?_ ?_,k1 _ ?_ ?_⟩
 all_goals simp only[oneI,immW]
 all_goals first
  | omega
  | (repeat' split
     all_goals omega)
theorem store5 {h:DHeap} {x:Instr}:storeAt (h.push (.row [.int .i64 0,.int .i64 0,.int .i64 0,.int .i64 0,.int .i64 0] 0 false)) h.next 0 [.int .i64 x.pos,.int .i64 x.op,.int .i64 x.a,.int .i64 x.b,.int .i64 x.imm]=some (h.push (.row (fInstr.enc x) 0 false)):=store5_push rfl
theorem bytes_le {h:DHeap} {v:Value} {l:List Int} (hb:Arg fU8.rep h v l):∀ j,0≤l.getD j 0∧l.getD j 0≤255:=fun j=>by
 by_cases hj:j<l.length
 ·obtain ⟨_,_,_,_,a,b⟩:=byte_at hb hj
  exact ⟨a,b⟩
 ·rw[List.getD_eq_getElem?_getD,List.getElem?_eq_none (by omega)]
  exact ⟨Int.le_refl _,by decide⟩
theorem refWalk_c {h:DHeap} {v:Value} {l:List Int} (hb:Arg fU8.rep h v l) (hl:l.length≤1048576) :
 Ct Try.prog 82 [v] h fun r h1=>∃ w,r=.ret (.tuple #[w,.int .i64 (walkAt l 0).2])∧Made fInstr h h1 w (walkAt l 0).1:=by
 refine go_82 (by simp) ?_
 have el:∀ K,dLen Try.prog #[22] v K=some (.int .i64 (l.length:Nat)):=hb.lens (P:=Try.prog) (ts:=#[22]) (t:=22) rfl isl_22
 have hbl:=bytes_le hb
 simp -implicitDefEqProofs (disch:=first|omega|simp only[go_sem]) only[go_sem,true_and,c82]
 refine xloop (σ:=Nat × List Instr) (by kernel_rfl) (fun a s=>s.df=[]∧s.fr 0=some v∧s.fr 5=some (.int .i64 (a.1:Nat))∧(∃ w,s.fr 4=some w∧Made fInstr h s.h w a.2)∧a.1≤l.length∧a.2.length≤a.1∧walkAt l 0=(a.2++(walkAt l a.1).1,(walkAt l a.1).2)) (fun a=>l.length - a.1) (0,[]) ?_ ?_
 ·simp -implicitDefEqProofs (disch:=first|omega|simp only[go_sem]) only[go_sem,true_and]
  exact ⟨rfl,⟨_,rfl,.nil _ (.refl h)⟩,Nat.zero_le _,Nat.le_refl _,trivial⟩
 ·rintro ⟨i,acc⟩ ⟨fr,df,K,rd⟩ K' hK' hX ⟨rfl,f0,f5,⟨w,f4,hm⟩,hi,hal,hw⟩
  simp only at f0 f5 f4 hm hi hal hw
  have hE:=hm.ext
  simp -implicitDefEqProofs (disch:=first|omega|simp only[go_sem]) only[go_sem,true_and,f0,f5,el]
  refine XIf_dec (fun hc1=>?_) (fun hc1=>?_)
  ·have hil:i<l.length:=by omega
   have hst:=walkAt_step hil
   simp -implicitDefEqProofs (disch:=first|omega|simp only[go_sem]) only[go_sem,true_and,f0,f5]
   refine ncall (refOne_c (hb.ext hE) (by omega) (by omega)) ?_
   obtain ⟨x,hx⟩:∃ x,(oneT l i).1=x:=⟨_,rfl⟩
   obtain ⟨K1,hK1⟩:∃ K1,K1=K.push (.row (fInstr.enc x) 0 false):=⟨_,rfl⟩
   have g:K1.get K.next=some (.row (fInstr.enc x) 0 false):=by rw[hK1];exact get_push_same _ _
   have lc:cellsAt K1 K.next 0 5=some (instrV x):=by rw[cellsAt_row g (Nat.le_of_ble_eq_true rfl)];rfl
   have hm1:Made fInstr h K1 w acc:=hm.on (by rw[hK1];exact Ext.push1 _ _)
   rw[hx]
   have s5:=store5 (h:=K) (x:=x)
   rw[← hK1]at s5
   by_cases he:(oneT l i).2.2=0
   ·have he':=eq_true he
    obtain ⟨e1,e2,_,e4,e5⟩:=oneT_next he
    have hok:=oneT_ok (by omega) hbl he
    rw[hx]at hok
    rw[if_pos he,hx]at hst
    obtain ⟨nx,hnx⟩:∃ nx:Nat,(oneT l i).2.1=nx:=⟨(oneT l i).2.1.toNat,by omega⟩
    rw[hnx]at hst ⊢
    have hbs:∀ K:DHeap,dBuildSlice Try.prog 74 1 [(0,instrV x)] K=some (.slice (some ⟨K.next,0,none⟩) 1 1,K.push (.row (fInstr.enc x) 5 false)):=fun K=>bs1_74 rfl
    obtain ⟨w2,h2,e6,m2⟩:=hm1.snoc app_74 (y:=x) (cs:=fInstr.enc x) (z:=5) rfl rfl hok (by omega) (by decide)
    simp -implicitDefEqProofs (disch:=first|omega|simp only[go_sem]) only[go_sem,true_and,he',s5,f4,lc,hbs,e6]
    refine hK' (nx,acc++[x]) _ ?_ (by simp only;omega)
    refine ⟨by trivial,(vy f0),vz,⟨w2,vz,m2⟩,by simp only;omega,by simp;omega,?_⟩
    rw[hw,hst]
    simp
   ·rw[if_neg he]at hst
    simp -implicitDefEqProofs (disch:=first|omega|simp only[go_sem]) only[go_sem,true_and,he,s5,f4]
    refine hX _ _ (by simp) ?_
    simp -implicitDefEqProofs (disch:=first|omega|simp only[go_sem]) only[go_sem,true_and]
    refine ⟨_,rfl,w,?_,?_⟩
    ·rw[hw,hst]
    ·rw[hw,hst,List.append_nil];exact hm1
  ·refine hX _ _ (by simp) ?_
   simp -implicitDefEqProofs (disch:=first|omega|simp only[go_sem]) only[go_sem,true_and,f4]
   have:=walkAt_end (l:=l) (i:=i) (by omega)
   refine ⟨_,rfl,w,?_,?_⟩
   ·rw[hw,this]
   ·rw[hw,this,List.append_nil];exact hm
end Go.Proofs.Ythjmkmoiopmfcaa
