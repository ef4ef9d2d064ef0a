/-
A part of the proof of a law: contracts of functions over plain heaps, and what they lean on. Conditions: none.
-/
import Derived.Test.YthjmkmoiopmfcaaChecked
import Derived.KernelRfl
import Derived.Shelf.SlSortCmp.WholeK
import Derived.Test.YthjmkmoiopmfcaaProg
import Derived.Test.YthjmkmoiopmfcaaRows
import Derived.ChangeArms
import Derived.ChangeOld
import Derived.ChangeReads
import Derived.ChangeSame
import Derived.WalkKit
import Derived.ProofKit
import Derived.OpenShut
import Derived.JoinedCond
import Derived.Test.YthjmkmoiopmfcaaBase1
import Derived.Test.YthjmkmoiopmfcaaBase2
set_option linter.unusedSimpArgs false
set_option linter.unusedVariables false
namespace Go.Proofs.Ythjmkmoiopmfcaa
open Go.D
theorem one_2:tyOne Try.prog 2=true:=by kernel_rfl
theorem ld_2 {h:DHeap} {id o:Nat}:dLoad Try.prog 2 (.pointer (some ⟨id,o,none⟩)) h=cellAt h id o:=dLoad_one one_2
theorem one_3:tyOne Try.prog 3=true:=by kernel_rfl
theorem ld_3 {h:DHeap} {id o:Nat}:dLoad Try.prog 3 (.pointer (some ⟨id,o,none⟩)) h=cellAt h id o:=dLoad_one one_3
theorem one_4:tyOne Try.prog 4=true:=by kernel_rfl
theorem ld_4 {h:DHeap} {id o:Nat}:dLoad Try.prog 4 (.pointer (some ⟨id,o,none⟩)) h=cellAt h id o:=dLoad_one one_4
theorem one_5:tyOne Try.prog 5=true:=by kernel_rfl
theorem ld_5 {h:DHeap} {id o:Nat}:dLoad Try.prog 5 (.pointer (some ⟨id,o,none⟩)) h=cellAt h id o:=dLoad_one one_5
theorem one_21:tyOne Try.prog 21=true:=by kernel_rfl
theorem ld_21 {h:DHeap} {id o:Nat}:dLoad Try.prog 21 (.pointer (some ⟨id,o,none⟩)) h=cellAt h id o:=dLoad_one one_21
theorem one_22:tyOne Try.prog 22=true:=by kernel_rfl
theorem ld_22 {h:DHeap} {id o:Nat}:dLoad Try.prog 22 (.pointer (some ⟨id,o,none⟩)) h=cellAt h id o:=dLoad_one one_22
theorem st_22 {h:DHeap} {id o:Nat} {v:Value} (hv:v.cells=#[v]):dStore Try.prog 22 (.pointer (some ⟨id,o,none⟩)) v h=storeAt h id o [v]:=dStore_one one_22 hv
theorem one_23:tyOne Try.prog 23=true:=by kernel_rfl
theorem ld_23 {h:DHeap} {id o:Nat}:dLoad Try.prog 23 (.pointer (some ⟨id,o,none⟩)) h=cellAt h id o:=dLoad_one one_23
theorem st_23 {h:DHeap} {id o:Nat} {v:Value} (hv:v.cells=#[v]):dStore Try.prog 23 (.pointer (some ⟨id,o,none⟩)) v h=storeAt h id o [v]:=dStore_one one_23 hv
theorem one_24:tyOne Try.prog 24=true:=by kernel_rfl
theorem ld_24 {h:DHeap} {id o:Nat}:dLoad Try.prog 24 (.pointer (some ⟨id,o,none⟩)) h=cellAt h id o:=dLoad_one one_24
theorem st_24 {h:DHeap} {id o:Nat} {v:Value} (hv:v.cells=#[v]):dStore Try.prog 24 (.pointer (some ⟨id,o,none⟩)) v h=storeAt h id o [v]:=dStore_one one_24 hv
theorem agg_26:tyAgg Try.prog 26=some 6:=by kernel_rfl
theorem ld_26 {h:DHeap} {id o:Nat}:dLoad Try.prog 26 (.pointer (some ⟨id,o,none⟩)) h=cellsAt h id o 6:=dLoad_agg agg_26
theorem st_26 {h:DHeap} {id o:Nat} {cs:Array Value} (hv:cs.size=6):dStore Try.prog 26 (.pointer (some ⟨id,o,none⟩)) (.agg cs) h=storeAt h id o cs.toList:=dStore_agg agg_26 hv
theorem one_27:tyOne Try.prog 27=true:=by kernel_rfl
theorem ld_27 {h:DHeap} {id o:Nat}:dLoad Try.prog 27 (.pointer (some ⟨id,o,none⟩)) h=cellAt h id o:=dLoad_one one_27
theorem one_30:tyOne Try.prog 30=true:=by kernel_rfl
theorem ld_30 {h:DHeap} {id o:Nat}:dLoad Try.prog 30 (.pointer (some ⟨id,o,none⟩)) h=cellAt h id o:=dLoad_one one_30
theorem agg_32:tyAgg Try.prog 32=some 4:=by kernel_rfl
theorem ld_32 {h:DHeap} {id o:Nat}:dLoad Try.prog 32 (.pointer (some ⟨id,o,none⟩)) h=cellsAt h id o 4:=dLoad_agg agg_32
theorem st_32 {h:DHeap} {id o:Nat} {cs:Array Value} (hv:cs.size=4):dStore Try.prog 32 (.pointer (some ⟨id,o,none⟩)) (.agg cs) h=storeAt h id o cs.toList:=dStore_agg agg_32 hv
theorem agg_44:tyAgg Try.prog 44=some 2:=by kernel_rfl
theorem ld_44 {h:DHeap} {id o:Nat}:dLoad Try.prog 44 (.pointer (some ⟨id,o,none⟩)) h=cellsAt h id o 2:=dLoad_agg agg_44
theorem st_44 {h:DHeap} {id o:Nat} {cs:Array Value} (hv:cs.size=2):dStore Try.prog 44 (.pointer (some ⟨id,o,none⟩)) (.agg cs) h=storeAt h id o cs.toList:=dStore_agg agg_44 hv
theorem agg_46:tyAgg Try.prog 46=some 3:=by kernel_rfl
theorem ld_46 {h:DHeap} {id o:Nat}:dLoad Try.prog 46 (.pointer (some ⟨id,o,none⟩)) h=cellsAt h id o 3:=dLoad_agg agg_46
theorem st_46 {h:DHeap} {id o:Nat} {cs:Array Value} (hv:cs.size=3):dStore Try.prog 46 (.pointer (some ⟨id,o,none⟩)) (.agg cs) h=storeAt h id o cs.toList:=dStore_agg agg_46 hv
theorem agg_51:tyAgg Try.prog 51=some 4:=by kernel_rfl
theorem ld_51 {h:DHeap} {id o:Nat}:dLoad Try.prog 51 (.pointer (some ⟨id,o,none⟩)) h=cellsAt h id o 4:=dLoad_agg agg_51
theorem st_51 {h:DHeap} {id o:Nat} {cs:Array Value} (hv:cs.size=4):dStore Try.prog 51 (.pointer (some ⟨id,o,none⟩)) (.agg cs) h=storeAt h id o cs.toList:=dStore_agg agg_51 hv
theorem one_53:tyOne Try.prog 53=true:=by kernel_rfl
theorem ld_53 {h:DHeap} {id o:Nat}:dLoad Try.prog 53 (.pointer (some ⟨id,o,none⟩)) h=cellAt h id o:=dLoad_one one_53
theorem one_63:tyOne Try.prog 63=true:=by kernel_rfl
theorem ld_63 {h:DHeap} {id o:Nat}:dLoad Try.prog 63 (.pointer (some ⟨id,o,none⟩)) h=cellAt h id o:=dLoad_one one_63
theorem one_64:tyOne Try.prog 64=true:=by kernel_rfl
theorem ld_64 {h:DHeap} {id o:Nat}:dLoad Try.prog 64 (.pointer (some ⟨id,o,none⟩)) h=cellAt h id o:=dLoad_one one_64
theorem one_74:tyOne Try.prog 74=true:=by kernel_rfl
theorem ld_74 {h:DHeap} {id o:Nat}:dLoad Try.prog 74 (.pointer (some ⟨id,o,none⟩)) h=cellAt h id o:=dLoad_one one_74
theorem st_74 {h:DHeap} {id o:Nat} {v:Value} (hv:v.cells=#[v]):dStore Try.prog 74 (.pointer (some ⟨id,o,none⟩)) v h=storeAt h id o [v]:=dStore_one one_74 hv
theorem one_78:tyOne Try.prog 78=true:=by kernel_rfl
theorem ld_78 {h:DHeap} {id o:Nat}:dLoad Try.prog 78 (.pointer (some ⟨id,o,none⟩)) h=cellAt h id o:=dLoad_one one_78
theorem agg_83:tyAgg Try.prog 83=some 5:=by kernel_rfl
theorem ld_83 {h:DHeap} {id o:Nat}:dLoad Try.prog 83 (.pointer (some ⟨id,o,none⟩)) h=cellsAt h id o 5:=dLoad_agg agg_83
theorem st_83 {h:DHeap} {id o:Nat} {cs:Array Value} (hv:cs.size=5):dStore Try.prog 83 (.pointer (some ⟨id,o,none⟩)) (.agg cs) h=storeAt h id o cs.toList:=dStore_agg agg_83 hv
theorem one_103:tyOne Try.prog 103=true:=by kernel_rfl
theorem ld_103 {h:DHeap} {id o:Nat}:dLoad Try.prog 103 (.pointer (some ⟨id,o,none⟩)) h=cellAt h id o:=dLoad_one one_103
theorem st_103 {h:DHeap} {id o:Nat} {v:Value} (hv:v.cells=#[v]):dStore Try.prog 103 (.pointer (some ⟨id,o,none⟩)) v h=storeAt h id o [v]:=dStore_one one_103 hv
theorem agg_125:tyAgg Try.prog 125=some 1:=by kernel_rfl
theorem st_125 {h:DHeap} {id o:Nat} {cs:Array Value} (hv:cs.size=1):dStore Try.prog 125 (.pointer (some ⟨id,o,none⟩)) (.agg cs) h=storeAt h id o cs.toList:=dStore_agg agg_125 hv
theorem agg_151:tyAgg Try.prog 151=some 2:=by kernel_rfl
theorem st_151 {h:DHeap} {id o:Nat} {cs:Array Value} (hv:cs.size=2):dStore Try.prog 151 (.pointer (some ⟨id,o,none⟩)) (.agg cs) h=storeAt h id o cs.toList:=dStore_agg agg_151 hv
theorem agg_153:tyAgg Try.prog 153=some 28:=by kernel_rfl
theorem st_153 {h:DHeap} {id o:Nat} {cs:Array Value} (hv:cs.size=28):dStore Try.prog 153 (.pointer (some ⟨id,o,none⟩)) (.agg cs) h=storeAt h id o cs.toList:=dStore_agg agg_153 hv
theorem fa_26_0 {id o:Nat}:dFieldAddr Try.prog 26 (.pointer (some ⟨id,o,none⟩)) 0=some (.pointer (some ⟨id,o+0,none⟩)):=dFieldAddr_at (show fieldOff Try.prog 26 0=some 0 by kernel_rfl)
theorem fa_26_1 {id o:Nat}:dFieldAddr Try.prog 26 (.pointer (some ⟨id,o,none⟩)) 1=some (.pointer (some ⟨id,o+1,none⟩)):=dFieldAddr_at (show fieldOff Try.prog 26 1=some 1 by kernel_rfl)
theorem fa_26_2 {id o:Nat}:dFieldAddr Try.prog 26 (.pointer (some ⟨id,o,none⟩)) 2=some (.pointer (some ⟨id,o+2,none⟩)):=dFieldAddr_at (show fieldOff Try.prog 26 2=some 2 by kernel_rfl)
theorem fa_26_3 {id o:Nat}:dFieldAddr Try.prog 26 (.pointer (some ⟨id,o,none⟩)) 3=some (.pointer (some ⟨id,o+3,none⟩)):=dFieldAddr_at (show fieldOff Try.prog 26 3=some 3 by kernel_rfl)
theorem fa_26_4 {id o:Nat}:dFieldAddr Try.prog 26 (.pointer (some ⟨id,o,none⟩)) 4=some (.pointer (some ⟨id,o+4,none⟩)):=dFieldAddr_at (show fieldOff Try.prog 26 4=some 4 by kernel_rfl)
theorem fa_26_5 {id o:Nat}:dFieldAddr Try.prog 26 (.pointer (some ⟨id,o,none⟩)) 5=some (.pointer (some ⟨id,o+5,none⟩)):=dFieldAddr_at (show fieldOff Try.prog 26 5=some 5 by kernel_rfl)
theorem fa_32_0 {id o:Nat}:dFieldAddr Try.prog 32 (.pointer (some ⟨id,o,none⟩)) 0=some (.pointer (some ⟨id,o+0,none⟩)):=dFieldAddr_at (show fieldOff Try.prog 32 0=some 0 by kernel_rfl)
theorem fa_32_1 {id o:Nat}:dFieldAddr Try.prog 32 (.pointer (some ⟨id,o,none⟩)) 1=some (.pointer (some ⟨id,o+1,none⟩)):=dFieldAddr_at (show fieldOff Try.prog 32 1=some 1 by kernel_rfl)
theorem fa_32_2 {id o:Nat}:dFieldAddr Try.prog 32 (.pointer (some ⟨id,o,none⟩)) 2=some (.pointer (some ⟨id,o+2,none⟩)):=dFieldAddr_at (show fieldOff Try.prog 32 2=some 2 by kernel_rfl)
theorem fa_32_3 {id o:Nat}:dFieldAddr Try.prog 32 (.pointer (some ⟨id,o,none⟩)) 3=some (.pointer (some ⟨id,o+3,none⟩)):=dFieldAddr_at (show fieldOff Try.prog 32 3=some 3 by kernel_rfl)
theorem fa_44_0 {id o:Nat}:dFieldAddr Try.prog 44 (.pointer (some ⟨id,o,none⟩)) 0=some (.pointer (some ⟨id,o+0,none⟩)):=dFieldAddr_at (show fieldOff Try.prog 44 0=some 0 by kernel_rfl)
theorem fa_44_1 {id o:Nat}:dFieldAddr Try.prog 44 (.pointer (some ⟨id,o,none⟩)) 1=some (.pointer (some ⟨id,o+1,none⟩)):=dFieldAddr_at (show fieldOff Try.prog 44 1=some 1 by kernel_rfl)
theorem fa_46_0 {id o:Nat}:dFieldAddr Try.prog 46 (.pointer (some ⟨id,o,none⟩)) 0=some (.pointer (some ⟨id,o+0,none⟩)):=dFieldAddr_at (show fieldOff Try.prog 46 0=some 0 by kernel_rfl)
theorem fa_46_1 {id o:Nat}:dFieldAddr Try.prog 46 (.pointer (some ⟨id,o,none⟩)) 1=some (.pointer (some ⟨id,o+2,none⟩)):=dFieldAddr_at (show fieldOff Try.prog 46 1=some 2 by kernel_rfl)
theorem fa_51_0 {id o:Nat}:dFieldAddr Try.prog 51 (.pointer (some ⟨id,o,none⟩)) 0=some (.pointer (some ⟨id,o+0,none⟩)):=dFieldAddr_at (show fieldOff Try.prog 51 0=some 0 by kernel_rfl)
theorem fa_51_1 {id o:Nat}:dFieldAddr Try.prog 51 (.pointer (some ⟨id,o,none⟩)) 1=some (.pointer (some ⟨id,o+2,none⟩)):=dFieldAddr_at (show fieldOff Try.prog 51 1=some 2 by kernel_rfl)
theorem fa_51_2 {id o:Nat}:dFieldAddr Try.prog 51 (.pointer (some ⟨id,o,none⟩)) 2=some (.pointer (some ⟨id,o+3,none⟩)):=dFieldAddr_at (show fieldOff Try.prog 51 2=some 3 by kernel_rfl)
theorem fa_81_0 {id o:Nat}:dFieldAddr Try.prog 81 (.pointer (some ⟨id,o,none⟩)) 0=some (.pointer (some ⟨id,o+0,none⟩)):=dFieldAddr_at (show fieldOff Try.prog 81 0=some 0 by kernel_rfl)
theorem fa_81_1 {id o:Nat}:dFieldAddr Try.prog 81 (.pointer (some ⟨id,o,none⟩)) 1=some (.pointer (some ⟨id,o+6,none⟩)):=dFieldAddr_at (show fieldOff Try.prog 81 1=some 6 by kernel_rfl)
theorem fa_81_2 {id o:Nat}:dFieldAddr Try.prog 81 (.pointer (some ⟨id,o,none⟩)) 2=some (.pointer (some ⟨id,o+14,none⟩)):=dFieldAddr_at (show fieldOff Try.prog 81 2=some 14 by kernel_rfl)
theorem fa_81_3 {id o:Nat}:dFieldAddr Try.prog 81 (.pointer (some ⟨id,o,none⟩)) 3=some (.pointer (some ⟨id,o+15,none⟩)):=dFieldAddr_at (show fieldOff Try.prog 81 3=some 15 by kernel_rfl)
theorem fa_81_4 {id o:Nat}:dFieldAddr Try.prog 81 (.pointer (some ⟨id,o,none⟩)) 4=some (.pointer (some ⟨id,o+16,none⟩)):=dFieldAddr_at (show fieldOff Try.prog 81 4=some 16 by kernel_rfl)
theorem fa_81_5 {id o:Nat}:dFieldAddr Try.prog 81 (.pointer (some ⟨id,o,none⟩)) 5=some (.pointer (some ⟨id,o+17,none⟩)):=dFieldAddr_at (show fieldOff Try.prog 81 5=some 17 by kernel_rfl)
theorem fa_81_6 {id o:Nat}:dFieldAddr Try.prog 81 (.pointer (some ⟨id,o,none⟩)) 6=some (.pointer (some ⟨id,o+18,none⟩)):=dFieldAddr_at (show fieldOff Try.prog 81 6=some 18 by kernel_rfl)
theorem fa_83_0 {id o:Nat}:dFieldAddr Try.prog 83 (.pointer (some ⟨id,o,none⟩)) 0=some (.pointer (some ⟨id,o+0,none⟩)):=dFieldAddr_at (show fieldOff Try.prog 83 0=some 0 by kernel_rfl)
theorem fa_83_1 {id o:Nat}:dFieldAddr Try.prog 83 (.pointer (some ⟨id,o,none⟩)) 1=some (.pointer (some ⟨id,o+1,none⟩)):=dFieldAddr_at (show fieldOff Try.prog 83 1=some 1 by kernel_rfl)
theorem fa_83_2 {id o:Nat}:dFieldAddr Try.prog 83 (.pointer (some ⟨id,o,none⟩)) 2=some (.pointer (some ⟨id,o+2,none⟩)):=dFieldAddr_at (show fieldOff Try.prog 83 2=some 2 by kernel_rfl)
theorem fa_83_3 {id o:Nat}:dFieldAddr Try.prog 83 (.pointer (some ⟨id,o,none⟩)) 3=some (.pointer (some ⟨id,o+3,none⟩)):=dFieldAddr_at (show fieldOff Try.prog 83 3=some 3 by kernel_rfl)
theorem fa_83_4 {id o:Nat}:dFieldAddr Try.prog 83 (.pointer (some ⟨id,o,none⟩)) 4=some (.pointer (some ⟨id,o+4,none⟩)):=dFieldAddr_at (show fieldOff Try.prog 83 4=some 4 by kernel_rfl)
theorem fa_125_0 {id o:Nat}:dFieldAddr Try.prog 125 (.pointer (some ⟨id,o,none⟩)) 0=some (.pointer (some ⟨id,o+0,none⟩)):=dFieldAddr_at (show fieldOff Try.prog 125 0=some 0 by kernel_rfl)
theorem el_22:slElem Try.prog 22=some 1:=by kernel_rfl
theorem el_23:slElem Try.prog 23=some 1:=by kernel_rfl
theorem el_24:slElem Try.prog 24=some 2:=by kernel_rfl
theorem el_27:slElem Try.prog 27=some 3:=by kernel_rfl
theorem el_30:slElem Try.prog 30=some 4:=by kernel_rfl
theorem el_69:slElem Try.prog 69=some 1:=by kernel_rfl
theorem el_74:slElem Try.prog 74=some 5:=by kernel_rfl
theorem el_138:slElem Try.prog 138=some 1:=by kernel_rfl
theorem cv_2_21 {h:DHeap} {k:IntKind} {n:Int}:dConvertO Try.prog 2 21 h (some (.int k n))=.ok (.value (.int .i32 (IntKind.i32.wrap n))) h:=dConvertO_int (show Try.prog.underlying 2=some (.int .i64) by kernel_rfl) (show Try.prog.underlying 21=some (.int .i32) by kernel_rfl)
theorem cv_2_38 {h:DHeap} {k:IntKind} {n:Int}:dConvertO Try.prog 2 38 h (some (.int k n))=.ok (.value (.int .i8 (IntKind.i8.wrap n))) h:=dConvertO_int (show Try.prog.underlying 2=some (.int .i64) by kernel_rfl) (show Try.prog.underlying 38=some (.int .i8) by kernel_rfl)
theorem cv_2_39 {h:DHeap} {k:IntKind} {n:Int}:dConvertO Try.prog 2 39 h (some (.int k n))=.ok (.value (.int .i16 (IntKind.i16.wrap n))) h:=dConvertO_int (show Try.prog.underlying 2=some (.int .i64) by kernel_rfl) (show Try.prog.underlying 39=some (.int .i16) by kernel_rfl)
theorem cv_2_92 {h:DHeap} {k:IntKind} {n:Int}:dConvertO Try.prog 2 92 h (some (.int k n))=.ok (.value (.int .u64 (IntKind.u64.wrap n))) h:=dConvertO_int (show Try.prog.underlying 2=some (.int .i64) by kernel_rfl) (show Try.prog.underlying 92=some (.int .u64) by kernel_rfl)
theorem cv_3_96 {h:DHeap} {k:IntKind} {n:Int}:dConvertO Try.prog 3 96 h (some (.int k n))=.ok (.value (.int .u64 (IntKind.u64.wrap n))) h:=dConvertO_int (show Try.prog.underlying 3=some (.int .i64) by kernel_rfl) (show Try.prog.underlying 96=some (.int .u64) by kernel_rfl)
theorem cv_5_2 {h:DHeap} {k:IntKind} {n:Int}:dConvertO Try.prog 5 2 h (some (.int k n))=.ok (.value (.int .i64 (IntKind.i64.wrap n))) h:=dConvertO_int (show Try.prog.underlying 5=some (.int .u8) by kernel_rfl) (show Try.prog.underlying 2=some (.int .i64) by kernel_rfl)
theorem cv_5_3 {h:DHeap} {k:IntKind} {n:Int}:dConvertO Try.prog 5 3 h (some (.int k n))=.ok (.value (.int .i64 (IntKind.i64.wrap n))) h:=dConvertO_int (show Try.prog.underlying 5=some (.int .u8) by kernel_rfl) (show Try.prog.underlying 3=some (.int .i64) by kernel_rfl)
theorem cv_5_41 {h:DHeap} {k:IntKind} {n:Int}:dConvertO Try.prog 5 41 h (some (.int k n))=.ok (.value (.int .u16 (IntKind.u16.wrap n))) h:=dConvertO_int (show Try.prog.underlying 5=some (.int .u8) by kernel_rfl) (show Try.prog.underlying 41=some (.int .u16) by kernel_rfl)
theorem cv_21_2 {h:DHeap} {k:IntKind} {n:Int}:dConvertO Try.prog 21 2 h (some (.int k n))=.ok (.value (.int .i64 (IntKind.i64.wrap n))) h:=dConvertO_int (show Try.prog.underlying 21=some (.int .i32) by kernel_rfl) (show Try.prog.underlying 2=some (.int .i64) by kernel_rfl)
theorem cv_38_2 {h:DHeap} {k:IntKind} {n:Int}:dConvertO Try.prog 38 2 h (some (.int k n))=.ok (.value (.int .i64 (IntKind.i64.wrap n))) h:=dConvertO_int (show Try.prog.underlying 38=some (.int .i8) by kernel_rfl) (show Try.prog.underlying 2=some (.int .i64) by kernel_rfl)
theorem cv_39_2 {h:DHeap} {k:IntKind} {n:Int}:dConvertO Try.prog 39 2 h (some (.int k n))=.ok (.value (.int .i64 (IntKind.i64.wrap n))) h:=dConvertO_int (show Try.prog.underlying 39=some (.int .i16) by kernel_rfl) (show Try.prog.underlying 2=some (.int .i64) by kernel_rfl)
theorem cv_41_2 {h:DHeap} {k:IntKind} {n:Int}:dConvertO Try.prog 41 2 h (some (.int k n))=.ok (.value (.int .i64 (IntKind.i64.wrap n))) h:=dConvertO_int (show Try.prog.underlying 41=some (.int .u16) by kernel_rfl) (show Try.prog.underlying 2=some (.int .i64) by kernel_rfl)
theorem cv_41_39 {h:DHeap} {k:IntKind} {n:Int}:dConvertO Try.prog 41 39 h (some (.int k n))=.ok (.value (.int .i16 (IntKind.i16.wrap n))) h:=dConvertO_int (show Try.prog.underlying 41=some (.int .u16) by kernel_rfl) (show Try.prog.underlying 39=some (.int .i16) by kernel_rfl)
theorem cv_92_2 {h:DHeap} {k:IntKind} {n:Int}:dConvertO Try.prog 92 2 h (some (.int k n))=.ok (.value (.int .i64 (IntKind.i64.wrap n))) h:=dConvertO_int (show Try.prog.underlying 92=some (.int .u64) by kernel_rfl) (show Try.prog.underlying 2=some (.int .i64) by kernel_rfl)
theorem cv_92_5 {h:DHeap} {k:IntKind} {n:Int}:dConvertO Try.prog 92 5 h (some (.int k n))=.ok (.value (.int .u8 (IntKind.u8.wrap n))) h:=dConvertO_int (show Try.prog.underlying 92=some (.int .u64) by kernel_rfl) (show Try.prog.underlying 5=some (.int .u8) by kernel_rfl)
theorem mi_125 {h:DHeap} {v:Value}:dMkIface Try.prog 125 h (some v)=.ok (.value (.iface 125 v)) h:=dMkIface_some (by kernel_rfl)
theorem ta_125 {h:DHeap} {v:Value} {ok:Bool}:dTypeAssertO Try.prog 125 ok h (some (.iface 125 v))=.ok (.value (if ok then .tuple #[v,.bool true] else v)) h:=dTypeAssertO_same (by kernel_rfl) ok
theorem ca_11 {h:DHeap} {first cap:Array Value} {vs:List Value}:dCallO Try.prog h (some (.func (.func 11) first cap)) (some vs)=.ok (.enter 11 (first.toList++vs++cap.toList)) h:=dCallO_func (by kernel_rfl) _ _ _
theorem ca_13 {h:DHeap} {first cap:Array Value} {vs:List Value}:dCallO Try.prog h (some (.func (.func 13) first cap)) (some vs)=.ok (.enter 13 (first.toList++vs++cap.toList)) h:=dCallO_func (by kernel_rfl) _ _ _
theorem ca_15 {h:DHeap} {first cap:Array Value} {vs:List Value}:dCallO Try.prog h (some (.func (.func 15) first cap)) (some vs)=.ok (.enter 15 (first.toList++vs++cap.toList)) h:=dCallO_func (by kernel_rfl) _ _ _
theorem ca_17 {h:DHeap} {first cap:Array Value} {vs:List Value}:dCallO Try.prog h (some (.func (.func 17) first cap)) (some vs)=.ok (.enter 17 (first.toList++vs++cap.toList)) h:=dCallO_func (by kernel_rfl) _ _ _
theorem ca_19 {h:DHeap} {first cap:Array Value} {vs:List Value}:dCallO Try.prog h (some (.func (.func 19) first cap)) (some vs)=.ok (.enter 19 (first.toList++vs++cap.toList)) h:=dCallO_func (by kernel_rfl) _ _ _
theorem ca_20 {h:DHeap} {first cap:Array Value} {vs:List Value}:dCallO Try.prog h (some (.func (.func 20) first cap)) (some vs)=.ok (.enter 20 (first.toList++vs++cap.toList)) h:=dCallO_func (by kernel_rfl) _ _ _
theorem ca_21 {h:DHeap} {first cap:Array Value} {vs:List Value}:dCallO Try.prog h (some (.func (.func 21) first cap)) (some vs)=.ok (.enter 21 (first.toList++vs++cap.toList)) h:=dCallO_func (by kernel_rfl) _ _ _
theorem ca_23 {h:DHeap} {first cap:Array Value} {vs:List Value}:dCallO Try.prog h (some (.func (.func 23) first cap)) (some vs)=.ok (.enter 23 (first.toList++vs++cap.toList)) h:=dCallO_func (by kernel_rfl) _ _ _
theorem ca_25 {h:DHeap} {first cap:Array Value} {vs:List Value}:dCallO Try.prog h (some (.func (.func 25) first cap)) (some vs)=.ok (.enter 25 (first.toList++vs++cap.toList)) h:=dCallO_func (by kernel_rfl) _ _ _
theorem ca_26 {h:DHeap} {first cap:Array Value} {vs:List Value}:dCallO Try.prog h (some (.func (.func 26) first cap)) (some vs)=.ok (.enter 26 (first.toList++vs++cap.toList)) h:=dCallO_func (by kernel_rfl) _ _ _
theorem ca_28 {h:DHeap} {first cap:Array Value} {vs:List Value}:dCallO Try.prog h (some (.func (.func 28) first cap)) (some vs)=.ok (.enter 28 (first.toList++vs++cap.toList)) h:=dCallO_func (by kernel_rfl) _ _ _
theorem ca_29 {h:DHeap} {first cap:Array Value} {vs:List Value}:dCallO Try.prog h (some (.func (.func 29) first cap)) (some vs)=.ok (.enter 29 (first.toList++vs++cap.toList)) h:=dCallO_func (by kernel_rfl) _ _ _
theorem ca_32 {h:DHeap} {first cap:Array Value} {vs:List Value}:dCallO Try.prog h (some (.func (.func 32) first cap)) (some vs)=.ok (.enter 32 (first.toList++vs++cap.toList)) h:=dCallO_func (by kernel_rfl) _ _ _
theorem ca_33 {h:DHeap} {first cap:Array Value} {vs:List Value}:dCallO Try.prog h (some (.func (.func 33) first cap)) (some vs)=.ok (.enter 33 (first.toList++vs++cap.toList)) h:=dCallO_func (by kernel_rfl) _ _ _
theorem ca_34 {h:DHeap} {first cap:Array Value} {vs:List Value}:dCallO Try.prog h (some (.func (.func 34) first cap)) (some vs)=.ok (.enter 34 (first.toList++vs++cap.toList)) h:=dCallO_func (by kernel_rfl) _ _ _
theorem ca_35 {h:DHeap} {first cap:Array Value} {vs:List Value}:dCallO Try.prog h (some (.func (.func 35) first cap)) (some vs)=.ok (.enter 35 (first.toList++vs++cap.toList)) h:=dCallO_func (by kernel_rfl) _ _ _
theorem ca_36 {h:DHeap} {first cap:Array Value} {vs:List Value}:dCallO Try.prog h (some (.func (.func 36) first cap)) (some vs)=.ok (.enter 36 (first.toList++vs++cap.toList)) h:=dCallO_func (by kernel_rfl) _ _ _
theorem ca_37 {h:DHeap} {first cap:Array Value} {vs:List Value}:dCallO Try.prog h (some (.func (.func 37) first cap)) (some vs)=.ok (.enter 37 (first.toList++vs++cap.toList)) h:=dCallO_func (by kernel_rfl) _ _ _
theorem ca_38 {h:DHeap} {first cap:Array Value} {vs:List Value}:dCallO Try.prog h (some (.func (.func 38) first cap)) (some vs)=.ok (.enter 38 (first.toList++vs++cap.toList)) h:=dCallO_func (by kernel_rfl) _ _ _
theorem ca_39 {h:DHeap} {first cap:Array Value} {vs:List Value}:dCallO Try.prog h (some (.func (.func 39) first cap)) (some vs)=.ok (.enter 39 (first.toList++vs++cap.toList)) h:=dCallO_func (by kernel_rfl) _ _ _
theorem ca_40 {h:DHeap} {first cap:Array Value} {vs:List Value}:dCallO Try.prog h (some (.func (.func 40) first cap)) (some vs)=.ok (.enter 40 (first.toList++vs++cap.toList)) h:=dCallO_func (by kernel_rfl) _ _ _
theorem ca_44 {h:DHeap} {first cap:Array Value} {vs:List Value}:dCallO Try.prog h (some (.func (.func 44) first cap)) (some vs)=.ok (.enter 44 (first.toList++vs++cap.toList)) h:=dCallO_func (by kernel_rfl) _ _ _
theorem ca_45 {h:DHeap} {first cap:Array Value} {vs:List Value}:dCallO Try.prog h (some (.func (.func 45) first cap)) (some vs)=.ok (.enter 45 (first.toList++vs++cap.toList)) h:=dCallO_func (by kernel_rfl) _ _ _
theorem ca_47 {h:DHeap} {first cap:Array Value} {vs:List Value}:dCallO Try.prog h (some (.func (.func 47) first cap)) (some vs)=.ok (.enter 47 (first.toList++vs++cap.toList)) h:=dCallO_func (by kernel_rfl) _ _ _
theorem ca_48 {h:DHeap} {first cap:Array Value} {vs:List Value}:dCallO Try.prog h (some (.func (.func 48) first cap)) (some vs)=.ok (.enter 48 (first.toList++vs++cap.toList)) h:=dCallO_func (by kernel_rfl) _ _ _
theorem ca_49 {h:DHeap} {first cap:Array Value} {vs:List Value}:dCallO Try.prog h (some (.func (.func 49) first cap)) (some vs)=.ok (.enter 49 (first.toList++vs++cap.toList)) h:=dCallO_func (by kernel_rfl) _ _ _
theorem ca_51 {h:DHeap} {first cap:Array Value} {vs:List Value}:dCallO Try.prog h (some (.func (.func 51) first cap)) (some vs)=.ok (.enter 51 (first.toList++vs++cap.toList)) h:=dCallO_func (by kernel_rfl) _ _ _
theorem ca_52 {h:DHeap} {first cap:Array Value} {vs:List Value}:dCallO Try.prog h (some (.func (.func 52) first cap)) (some vs)=.ok (.enter 52 (first.toList++vs++cap.toList)) h:=dCallO_func (by kernel_rfl) _ _ _
theorem ca_53 {h:DHeap} {first cap:Array Value} {vs:List Value}:dCallO Try.prog h (some (.func (.func 53) first cap)) (some vs)=.ok (.enter 53 (first.toList++vs++cap.toList)) h:=dCallO_func (by kernel_rfl) _ _ _
theorem ca_57 {h:DHeap} {first cap:Array Value} {vs:List Value}:dCallO Try.prog h (some (.func (.func 57) first cap)) (some vs)=.ok (.enter 57 (first.toList++vs++cap.toList)) h:=dCallO_func (by kernel_rfl) _ _ _
theorem de_58 {h:DHeap} {first cap:Array Value} {vs:List Value}:dDeferO Try.prog h (some (.func (.func 58) first cap)) (some vs)=.ok (.defer 58 (first.toList++vs++cap.toList)) h:=dDeferO_func (by kernel_rfl) _ _ _
theorem ca_59 {h:DHeap} {first cap:Array Value} {vs:List Value}:dCallO Try.prog h (some (.func (.func 59) first cap)) (some vs)=.ok (.enter 59 (first.toList++vs++cap.toList)) h:=dCallO_func (by kernel_rfl) _ _ _
theorem ca_60 {h:DHeap} {first cap:Array Value} {vs:List Value}:dCallO Try.prog h (some (.func (.func 60) first cap)) (some vs)=.ok (.enter 60 (first.toList++vs++cap.toList)) h:=dCallO_func (by kernel_rfl) _ _ _
theorem ca_61 {h:DHeap} {first cap:Array Value} {vs:List Value}:dCallO Try.prog h (some (.func (.func 61) first cap)) (some vs)=.ok (.enter 61 (first.toList++vs++cap.toList)) h:=dCallO_func (by kernel_rfl) _ _ _
theorem ca_62 {h:DHeap} {first cap:Array Value} {vs:List Value}:dCallO Try.prog h (some (.func (.func 62) first cap)) (some vs)=.ok (.enter 62 (first.toList++vs++cap.toList)) h:=dCallO_func (by kernel_rfl) _ _ _
theorem ca_63 {h:DHeap} {first cap:Array Value} {vs:List Value}:dCallO Try.prog h (some (.func (.func 63) first cap)) (some vs)=.ok (.enter 63 (first.toList++vs++cap.toList)) h:=dCallO_func (by kernel_rfl) _ _ _
theorem ca_64 {h:DHeap} {first cap:Array Value} {vs:List Value}:dCallO Try.prog h (some (.func (.func 64) first cap)) (some vs)=.ok (.enter 64 (first.toList++vs++cap.toList)) h:=dCallO_func (by kernel_rfl) _ _ _
theorem ca_73 {h:DHeap} {first cap:Array Value} {vs:List Value}:dCallO Try.prog h (some (.func (.func 73) first cap)) (some vs)=.ok (.enter 73 (first.toList++vs++cap.toList)) h:=dCallO_func (by kernel_rfl) _ _ _
theorem ca_75 {h:DHeap} {first cap:Array Value} {vs:List Value}:dCallO Try.prog h (some (.func (.func 75) first cap)) (some vs)=.ok (.enter 75 (first.toList++vs++cap.toList)) h:=dCallO_func (by kernel_rfl) _ _ _
theorem ca_77 {h:DHeap} {first cap:Array Value} {vs:List Value}:dCallO Try.prog h (some (.func (.func 77) first cap)) (some vs)=.ok (.enter 77 (first.toList++vs++cap.toList)) h:=dCallO_func (by kernel_rfl) _ _ _
theorem ca_78 {h:DHeap} {first cap:Array Value} {vs:List Value}:dCallO Try.prog h (some (.func (.func 78) first cap)) (some vs)=.ok (.enter 78 (first.toList++vs++cap.toList)) h:=dCallO_func (by kernel_rfl) _ _ _
theorem ca_81 {h:DHeap} {first cap:Array Value} {vs:List Value}:dCallO Try.prog h (some (.func (.func 81) first cap)) (some vs)=.ok (.enter 81 (first.toList++vs++cap.toList)) h:=dCallO_func (by kernel_rfl) _ _ _
theorem ca_86 {h:DHeap} {first cap:Array Value} {vs:List Value}:dCallO Try.prog h (some (.func (.func 86) first cap)) (some vs)=.ok (.enter 86 (first.toList++vs++cap.toList)) h:=dCallO_func (by kernel_rfl) _ _ _
theorem ca_88 {h:DHeap} {first cap:Array Value} {vs:List Value}:dCallO Try.prog h (some (.func (.func 88) first cap)) (some vs)=.ok (.enter 88 (first.toList++vs++cap.toList)) h:=dCallO_func (by kernel_rfl) _ _ _
theorem ca_89 {h:DHeap} {first cap:Array Value} {vs:List Value}:dCallO Try.prog h (some (.func (.func 89) first cap)) (some vs)=.ok (.enter 89 (first.toList++vs++cap.toList)) h:=dCallO_func (by kernel_rfl) _ _ _
theorem ca_90 {h:DHeap} {first cap:Array Value} {vs:List Value}:dCallO Try.prog h (some (.func (.func 90) first cap)) (some vs)=.ok (.enter 90 (first.toList++vs++cap.toList)) h:=dCallO_func (by kernel_rfl) _ _ _
theorem ca_91 {h:DHeap} {first cap:Array Value} {vs:List Value}:dCallO Try.prog h (some (.func (.func 91) first cap)) (some vs)=.ok (.enter 91 (first.toList++vs++cap.toList)) h:=dCallO_func (by kernel_rfl) _ _ _
theorem ca_92 {h:DHeap} {first cap:Array Value} {vs:List Value}:dCallO Try.prog h (some (.func (.func 92) first cap)) (some vs)=.ok (.enter 92 (first.toList++vs++cap.toList)) h:=dCallO_func (by kernel_rfl) _ _ _
theorem ca_93 {h:DHeap} {first cap:Array Value} {vs:List Value}:dCallO Try.prog h (some (.func (.func 93) first cap)) (some vs)=.ok (.enter 93 (first.toList++vs++cap.toList)) h:=dCallO_func (by kernel_rfl) _ _ _
theorem ca_94 {h:DHeap} {first cap:Array Value} {vs:List Value}:dCallO Try.prog h (some (.func (.func 94) first cap)) (some vs)=.ok (.enter 94 (first.toList++vs++cap.toList)) h:=dCallO_func (by kernel_rfl) _ _ _
theorem ca_95 {h:DHeap} {first cap:Array Value} {vs:List Value}:dCallO Try.prog h (some (.func (.func 95) first cap)) (some vs)=.ok (.enter 95 (first.toList++vs++cap.toList)) h:=dCallO_func (by kernel_rfl) _ _ _
theorem ca_96 {h:DHeap} {first cap:Array Value} {vs:List Value}:dCallO Try.prog h (some (.func (.func 96) first cap)) (some vs)=.ok (.enter 96 (first.toList++vs++cap.toList)) h:=dCallO_func (by kernel_rfl) _ _ _
theorem ca_97 {h:DHeap} {first cap:Array Value} {vs:List Value}:dCallO Try.prog h (some (.func (.func 97) first cap)) (some vs)=.ok (.enter 97 (first.toList++vs++cap.toList)) h:=dCallO_func (by kernel_rfl) _ _ _
theorem ca_98 {h:DHeap} {first cap:Array Value} {vs:List Value}:dCallO Try.prog h (some (.func (.func 98) first cap)) (some vs)=.ok (.enter 98 (first.toList++vs++cap.toList)) h:=dCallO_func (by kernel_rfl) _ _ _
theorem ca_99 {h:DHeap} {first cap:Array Value} {vs:List Value}:dCallO Try.prog h (some (.func (.func 99) first cap)) (some vs)=.ok (.enter 99 (first.toList++vs++cap.toList)) h:=dCallO_func (by kernel_rfl) _ _ _
theorem ca_108 {h:DHeap} {first cap:Array Value} {vs:List Value}:dCallO Try.prog h (some (.func (.func 108) first cap)) (some vs)=.ok (.enter 108 (first.toList++vs++cap.toList)) h:=dCallO_func (by kernel_rfl) _ _ _
theorem esz_24:eszOf Try.prog 24=0:=by kernel_rfl
theorem esz_26:eszOf Try.prog 26=0:=by kernel_rfl
theorem esz_32:eszOf Try.prog 32=0:=by kernel_rfl
theorem esz_44:eszOf Try.prog 44=0:=by kernel_rfl
theorem esz_46:eszOf Try.prog 46=0:=by kernel_rfl
theorem esz_51:eszOf Try.prog 51=0:=by kernel_rfl
theorem esz_53:eszOf Try.prog 53=0:=by kernel_rfl
theorem esz_64:eszOf Try.prog 64=0:=by kernel_rfl
theorem esz_74:eszOf Try.prog 74=0:=by kernel_rfl
theorem esz_81:eszOf Try.prog 81=0:=by kernel_rfl
theorem esz_83:eszOf Try.prog 83=0:=by kernel_rfl
theorem esz_103:eszOf Try.prog 103=0:=by kernel_rfl
theorem esz_125:eszOf Try.prog 125=0:=by kernel_rfl
theorem esz_151:eszOf Try.prog 151=1:=by kernel_rfl
theorem esz_153:eszOf Try.prog 153=1:=by kernel_rfl
theorem al_26 {h:DHeap}:dAlloc Try.prog 26 h=some (.pointer (some ⟨h.next,0,none⟩),h.push (.row [Value.int IntKind.i64 0,Value.int IntKind.i64 0,Value.slice none 0 0,Value.slice none 0 0,Value.slice none 0 0,Value.slice none 0 0] 0 false)):=dAlloc_zero (show zeroCells Try.prog 26=some [Value.int IntKind.i64 0,Value.int IntKind.i64 0,Value.slice none 0 0,Value.slice none 0 0,Value.slice none 0 0,Value.slice none 0 0] by kernel_rfl) (by decide) esz_26
theorem al_32 {h:DHeap}:dAlloc Try.prog 32 h=some (.pointer (some ⟨h.next,0,none⟩),h.push (.row [Value.int IntKind.i64 0,Value.slice none 0 0,Value.slice none 0 0,Value.int IntKind.i64 0] 0 false)):=dAlloc_zero (show zeroCells Try.prog 32=some [Value.int IntKind.i64 0,Value.slice none 0 0,Value.slice none 0 0,Value.int IntKind.i64 0] by kernel_rfl) (by decide) esz_32
theorem al_44 {h:DHeap}:dAlloc Try.prog 44 h=some (.pointer (some ⟨h.next,0,none⟩),h.push (.row [Value.int IntKind.i32 0,Value.int IntKind.i64 0] 0 false)):=dAlloc_zero (show zeroCells Try.prog 44=some [Value.int IntKind.i32 0,Value.int IntKind.i64 0] by kernel_rfl) (by decide) esz_44
theorem al_46 {h:DHeap}:dAlloc Try.prog 46 h=some (.pointer (some ⟨h.next,0,none⟩),h.push (.row [Value.int IntKind.i32 0,Value.int IntKind.i64 0,Value.int IntKind.i64 0] 0 false)):=dAlloc_zero (show zeroCells Try.prog 46=some [Value.int IntKind.i32 0,Value.int IntKind.i64 0,Value.int IntKind.i64 0] by kernel_rfl) (by decide) esz_46
theorem al_51 {h:DHeap}:dAlloc Try.prog 51 h=some (.pointer (some ⟨h.next,0,none⟩),h.push (.row [Value.int IntKind.i32 0,Value.int IntKind.i64 0,Value.int IntKind.i64 0,Value.bool false] 0 false)):=dAlloc_zero (show zeroCells Try.prog 51=some [Value.int IntKind.i32 0,Value.int IntKind.i64 0,Value.int IntKind.i64 0,Value.bool false] by kernel_rfl) (by decide) esz_51
theorem al_53 {h:DHeap}:dAlloc Try.prog 53 h=some (.pointer (some ⟨h.next,0,none⟩),h.push (.row [Value.int IntKind.i64 0] 0 false)):=dAlloc_zero (show zeroCells Try.prog 53=some [Value.int IntKind.i64 0] by kernel_rfl) (by decide) esz_53
theorem al_74 {h:DHeap}:dAlloc Try.prog 74 h=some (.pointer (some ⟨h.next,0,none⟩),h.push (.row [Value.slice none 0 0] 0 false)):=dAlloc_zero (show zeroCells Try.prog 74=some [Value.slice none 0 0] by kernel_rfl) (by decide) esz_74
theorem al_83 {h:DHeap}:dAlloc Try.prog 83 h=some (.pointer (some ⟨h.next,0,none⟩),h.push (.row [Value.int IntKind.i64 0,Value.int IntKind.i64 0,Value.int IntKind.i64 0,Value.int IntKind.i64 0,Value.int IntKind.i64 0] 0 false)):=dAlloc_zero (show zeroCells Try.prog 83=some [Value.int IntKind.i64 0,Value.int IntKind.i64 0,Value.int IntKind.i64 0,Value.int IntKind.i64 0,Value.int IntKind.i64 0] by kernel_rfl) (by decide) esz_83
theorem al_103 {h:DHeap}:dAlloc Try.prog 103 h=some (.pointer (some ⟨h.next,0,none⟩),h.push (.row [Value.map none] 0 false)):=dAlloc_zero (show zeroCells Try.prog 103=some [Value.map none] by kernel_rfl) (by decide) esz_103
theorem al_125 {h:DHeap}:dAlloc Try.prog 125 h=some (.pointer (some ⟨h.next,0,none⟩),h.push (.row [Value.int IntKind.i64 0] 0 false)):=dAlloc_zero (show zeroCells Try.prog 125=some [Value.int IntKind.i64 0] by kernel_rfl) (by decide) esz_125
theorem al_151 {h:DHeap}:dAlloc Try.prog 151 h=some (.pointer (some ⟨h.next,0,none⟩),h.push (.row [Value.int IntKind.i64 0,Value.int IntKind.i64 0] 1 false)):=dAlloc_zero (show zeroCells Try.prog 151=some [Value.int IntKind.i64 0,Value.int IntKind.i64 0] by kernel_rfl) (by decide) esz_151
theorem al_153 {h:DHeap}:dAlloc Try.prog 153 h=some (.pointer (some ⟨h.next,0,none⟩),h.push (.row [Value.int IntKind.i64 0,Value.int IntKind.i64 0,Value.int IntKind.i64 0,Value.int IntKind.i64 0,Value.int IntKind.i64 0,Value.int IntKind.i64 0,Value.int IntKind.i64 0,Value.int IntKind.i64 0,Value.int IntKind.i64 0,Value.int IntKind.i64 0,Value.int IntKind.i64 0,Value.int IntKind.i64 0,Value.int IntKind.i64 0,Value.int IntKind.i64 0,Value.int IntKind.i64 0,Value.int IntKind.i64 0,Value.int IntKind.i64 0,Value.int IntKind.i64 0,Value.int IntKind.i64 0,Value.int IntKind.i64 0,Value.int IntKind.i64 0,Value.int IntKind.i64 0,Value.int IntKind.i64 0,Value.int IntKind.i64 0,Value.int IntKind.i64 0,Value.int IntKind.i64 0,Value.int IntKind.i64 0,Value.int IntKind.i64 0] 1 false)):=dAlloc_zero (show zeroCells Try.prog 153=some [Value.int IntKind.i64 0,Value.int IntKind.i64 0,Value.int IntKind.i64 0,Value.int IntKind.i64 0,Value.int IntKind.i64 0,Value.int IntKind.i64 0,Value.int IntKind.i64 0,Value.int IntKind.i64 0,Value.int IntKind.i64 0,Value.int IntKind.i64 0,Value.int IntKind.i64 0,Value.int IntKind.i64 0,Value.int IntKind.i64 0,Value.int IntKind.i64 0,Value.int IntKind.i64 0,Value.int IntKind.i64 0,Value.int IntKind.i64 0,Value.int IntKind.i64 0,Value.int IntKind.i64 0,Value.int IntKind.i64 0,Value.int IntKind.i64 0,Value.int IntKind.i64 0,Value.int IntKind.i64 0,Value.int IntKind.i64 0,Value.int IntKind.i64 0,Value.int IntKind.i64 0,Value.int IntKind.i64 0,Value.int IntKind.i64 0] by kernel_rfl) (by decide) esz_153
theorem isl_22:isSliceT Try.prog 22=true:=by kernel_rfl
theorem isl_23:isSliceT Try.prog 23=true:=by kernel_rfl
theorem isl_24:isSliceT Try.prog 24=true:=by kernel_rfl
theorem isl_27:isSliceT Try.prog 27=true:=by kernel_rfl
theorem isl_30:isSliceT Try.prog 30=true:=by kernel_rfl
theorem isl_69:isSliceT Try.prog 69=true:=by kernel_rfl
theorem len_69 {h:DHeap} {a:Option Addr} {n c:Nat}:dLen Try.prog #[69] (.slice a n c) h=some (goInt n):=dLen_slice (t:=69) rfl isl_69
theorem isl_74:isSliceT Try.prog 74=true:=by kernel_rfl
theorem isl_138:isSliceT Try.prog 138=true:=by kernel_rfl
theorem app_22:appT Try.prog #[22,22]=some (1,1):=by kernel_rfl
theorem app_23:appT Try.prog #[23,23]=some (1,8):=by kernel_rfl
theorem app_24:appT Try.prog #[24,24]=some (2,16):=by kernel_rfl
theorem app_27:appT Try.prog #[27,27]=some (3,24):=by kernel_rfl
theorem app_30:appT Try.prog #[30,30]=some (4,32):=by kernel_rfl
theorem app_74:appT Try.prog #[74,74]=some (5,40):=by kernel_rfl
theorem bsl_22:bslT Try.prog 22=some (1,[Value.int IntKind.u8 0]):=by kernel_rfl
theorem bsl_23:bslT Try.prog 23=some (1,[Value.int IntKind.i64 0]):=by kernel_rfl
theorem bs1_23 {h:DHeap} {a:Value} (ha:a.cells.size=1):dBuildSlice Try.prog 23 1 [(0,a)] h=some (.slice (some ⟨h.next,0,none⟩) 1 1,h.push (.row a.cells.toList 1 false)):=dBuildSlice_1 bsl_23 ha (by decide)
theorem bsl_24:bslT Try.prog 24=some (2,[Value.int IntKind.i32 0,Value.int IntKind.i64 0]):=by kernel_rfl
theorem bs0_24 {h:DHeap}:dBuildSlice Try.prog 24 0 [] h=some (.slice (some ⟨h.next,0,none⟩) 0 0,h.push (.row [] 2 false)):=dBuildSlice_0 bsl_24
theorem bs1_24 {h:DHeap} {a:Value} (ha:a.cells.size=2):dBuildSlice Try.prog 24 1 [(0,a)] h=some (.slice (some ⟨h.next,0,none⟩) 1 1,h.push (.row a.cells.toList 2 false)):=dBuildSlice_1 bsl_24 ha (by decide)
theorem bsl_27:bslT Try.prog 27=some (3,[Value.int IntKind.i32 0,Value.int IntKind.i64 0,Value.int IntKind.i64 0]):=by kernel_rfl
theorem bs0_27 {h:DHeap}:dBuildSlice Try.prog 27 0 [] h=some (.slice (some ⟨h.next,0,none⟩) 0 0,h.push (.row [] 3 false)):=dBuildSlice_0 bsl_27
theorem bs1_27 {h:DHeap} {a:Value} (ha:a.cells.size=3):dBuildSlice Try.prog 27 1 [(0,a)] h=some (.slice (some ⟨h.next,0,none⟩) 1 1,h.push (.row a.cells.toList 3 false)):=dBuildSlice_1 bsl_27 ha (by decide)
theorem bsl_30:bslT Try.prog 30=some (4,[Value.int IntKind.i32 0,Value.int IntKind.i64 0,Value.int IntKind.i64 0,Value.bool false]):=by kernel_rfl
theorem bs0_30 {h:DHeap}:dBuildSlice Try.prog 30 0 [] h=some (.slice (some ⟨h.next,0,none⟩) 0 0,h.push (.row [] 4 false)):=dBuildSlice_0 bsl_30
theorem bs1_30 {h:DHeap} {a:Value} (ha:a.cells.size=4):dBuildSlice Try.prog 30 1 [(0,a)] h=some (.slice (some ⟨h.next,0,none⟩) 1 1,h.push (.row a.cells.toList 4 false)):=dBuildSlice_1 bsl_30 ha (by decide)
theorem bsl_69:bslT Try.prog 69=some (1,[Value.slice none 0 0]):=by kernel_rfl
theorem bs2_69 {h:DHeap} {a b:Value} (ha:a.cells.size=1) (hb:b.cells.size=1):dBuildSlice Try.prog 69 2 [(0,a),(1,b)] h=some (.slice (some ⟨h.next,0,none⟩) 2 2,h.push (.row (a.cells.toList++b.cells.toList) 1 false)):=dBuildSlice_2 bsl_69 ha hb (by decide)
theorem bsl_74:bslT Try.prog 74=some (5,[Value.int IntKind.i64 0,Value.int IntKind.i64 0,Value.int IntKind.i64 0,Value.int IntKind.i64 0,Value.int IntKind.i64 0]):=by kernel_rfl
theorem bs1_74 {h:DHeap} {a:Value} (ha:a.cells.size=5):dBuildSlice Try.prog 74 1 [(0,a)] h=some (.slice (some ⟨h.next,0,none⟩) 1 1,h.push (.row a.cells.toList 5 false)):=dBuildSlice_1 bsl_74 ha (by decide)
theorem bsl_138:bslT Try.prog 138=some (1,[Value.int IntKind.i64 0]):=by kernel_rfl
theorem bs2_138 {h:DHeap} {a b:Value} (ha:a.cells.size=1) (hb:b.cells.size=1):dBuildSlice Try.prog 138 2 [(0,a),(1,b)] h=some (.slice (some ⟨h.next,0,none⟩) 2 2,h.push (.row (a.cells.toList++b.cells.toList) 1 false)):=dBuildSlice_2 bsl_138 ha hb (by decide)
theorem plc_26:plcOf Try.prog 26=some ([(0,1),(1,1),(2,1),(3,1),(4,1),(5,1)],[Value.int IntKind.i64 0,Value.int IntKind.i64 0,Value.slice none 0 0,Value.slice none 0 0,Value.slice none 0 0,Value.slice none 0 0]):=by kernel_rfl
theorem plc_32:plcOf Try.prog 32=some ([(0,1),(1,1),(2,1),(3,1)],[Value.int IntKind.i64 0,Value.slice none 0 0,Value.slice none 0 0,Value.int IntKind.i64 0]):=by kernel_rfl
theorem plc_44:plcOf Try.prog 44=some ([(0,1),(1,1)],[Value.int IntKind.i32 0,Value.int IntKind.i64 0]):=by kernel_rfl
theorem plc_46:plcOf Try.prog 46=some ([(0,2),(2,1)],[Value.int IntKind.i32 0,Value.int IntKind.i64 0,Value.int IntKind.i64 0]):=by kernel_rfl
theorem plc_51:plcOf Try.prog 51=some ([(0,2),(2,1),(3,1)],[Value.int IntKind.i32 0,Value.int IntKind.i64 0,Value.int IntKind.i64 0,Value.bool false]):=by kernel_rfl
theorem plc_81:plcOf Try.prog 81=some ([(0,6),(6,8),(14,1),(15,1),(16,1),(17,1),(18,1)],[Value.int IntKind.i64 0,Value.int IntKind.i64 0,Value.slice none 0 0,Value.slice none 0 0,Value.slice none 0 0,Value.slice none 0 0,Value.int IntKind.i64 0,Value.int IntKind.i64 0,Value.int IntKind.i64 0,Value.int IntKind.i64 0,Value.int IntKind.i64 0,Value.int IntKind.i64 0,Value.int IntKind.i64 0,Value.int IntKind.i64 0,Value.map none,Value.map none,Value.slice none 0 0,Value.int IntKind.i64 0,Value.map none]):=by kernel_rfl
theorem plc_83:plcOf Try.prog 83=some ([(0,1),(1,1),(2,1),(3,1),(4,1)],[Value.int IntKind.i64 0,Value.int IntKind.i64 0,Value.int IntKind.i64 0,Value.int IntKind.i64 0,Value.int IntKind.i64 0]):=by kernel_rfl
theorem plc_125:plcOf Try.prog 125=some ([(0,1)],[Value.int IntKind.i64 0]):=by kernel_rfl
theorem mixed:Try.prog.follows .mixedOrders=true:=by kernel_rfl
attribute [go_sem] ld_2 ld_3 ld_4 ld_5 ld_21 ld_22 st_22 ld_23 st_23 ld_24 st_24 ld_26 st_26 ld_27 ld_30 ld_32 st_32 ld_44
attribute [go_sem] st_44 ld_46 st_46 ld_51 st_51 ld_53 ld_63 ld_64 ld_74 st_74 ld_78 ld_83 st_83 ld_103 st_103 st_125 st_151 st_153
attribute [go_sem] fa_26_0 fa_26_1 fa_26_2 fa_26_3 fa_26_4 fa_26_5 fa_32_0 fa_32_1 fa_32_2 fa_32_3 fa_44_0 fa_44_1 fa_46_0 fa_46_1 fa_51_0 fa_51_1 fa_51_2 fa_81_0 fa_81_1 fa_81_2 fa_81_3 fa_81_4 fa_81_5
attribute [go_sem] fa_81_6 fa_83_0 fa_83_1 fa_83_2 fa_83_3 fa_83_4 fa_125_0 cv_2_21 cv_2_38 cv_2_39 cv_2_92 cv_3_96 cv_5_2 cv_5_3 cv_5_41 cv_21_2 cv_38_2
attribute [go_sem] cv_39_2 cv_41_2 cv_41_39 cv_92_2 cv_92_5 mi_125 ta_125 ca_11 ca_13 ca_15 ca_17
attribute [go_sem] ca_19 ca_20 ca_21 ca_23 ca_25 ca_26 ca_28 ca_29
attribute [go_sem] ca_32 ca_33 ca_34 ca_35 ca_36 ca_37 ca_38 ca_39 ca_40
attribute [go_sem] ca_44 ca_45 ca_47 ca_48 ca_49 ca_51 ca_52 ca_53
attribute [go_sem] ca_57 de_58 ca_59 ca_60 ca_61 ca_62 ca_63 ca_64
attribute [go_sem] ca_73 ca_75 ca_77 ca_78
attribute [go_sem] ca_81 ca_86 ca_88 ca_89 ca_90 ca_91 ca_92
attribute [go_sem] ca_93 ca_94 ca_95 ca_96 ca_97 ca_98 ca_99
attribute [go_sem] ca_108 esz_24 esz_26 esz_32 esz_44 esz_46
attribute [go_sem] esz_51 esz_53 esz_64 esz_74 esz_81 esz_83 esz_103 esz_125 esz_151 esz_153 al_26 al_32 al_44 al_46 al_51 al_53 al_74 al_83 al_103 al_125 al_151 al_153
attribute [go_sem] len_69 bs1_23 bs0_24 bs1_24
attribute [go_sem] bs0_27 bs1_27 bs0_30 bs1_30 bs2_69 bs1_74 bs2_138
end Go.Proofs.Ythjmkmoiopmfcaa

namespace Go.Proofs.Ythjmkmoiopmfcaa
open Go.D
theorem sti_2 {h:DHeap} {id o:Nat} {k:IntKind} {n:Int}:dStore Try.prog 2 (.pointer (some ⟨id,o,none⟩)) (.int k n) h=storeAt h id o [(.int k n)]:=dStore_one one_2 rfl
theorem sti_3 {h:DHeap} {id o:Nat} {k:IntKind} {n:Int}:dStore Try.prog 3 (.pointer (some ⟨id,o,none⟩)) (.int k n) h=storeAt h id o [(.int k n)]:=dStore_one one_3 rfl
theorem sti_53 {h:DHeap} {id o:Nat} {k:IntKind} {n:Int}:dStore Try.prog 53 (.pointer (some ⟨id,o,none⟩)) (.int k n) h=storeAt h id o [(.int k n)]:=dStore_one one_53 rfl
theorem stl_74 {h:DHeap} {id o:Nat} {a:Option Addr} {m c:Nat}:dStore Try.prog 74 (.pointer (some ⟨id,o,none⟩)) (.slice a m c) h=storeAt h id o [(.slice a m c)]:=dStore_one one_74 rfl
attribute [go_sem] sti_2 sti_3 sti_53
attribute [go_sem] stl_74
end Go.Proofs.Ythjmkmoiopmfcaa

namespace Go.D
attribute [go_sem] Int.reduceLT Int.reduceLE Int.reduceEq reduceIte Nat.reduceAdd
attribute [go_sem] List.size_toArray List.length_cons List.length_nil Nat.zero_add Nat.add_zero Option.map_some
theorem vz {p:Prop} (h:p:=by
 simp -implicitDefEqProofs (disch:=first|omega|simp only[go_sem]) only[go_sem,true_and]):p:=h
theorem vy {p a:Prop} (x:a) (h:a→p:=by
 intro x
 simp -implicitDefEqProofs (disch:=first|omega|simp only[go_sem]) only[go_sem,true_and,x]):p:=h x
structure Key where
 t:Int
 r:Int
 deriving DecidableEq
structure Cell where
 k:Key
 v:Int
 s:Int
 deriving DecidableEq
structure Pair where
 k:Key
 v:Int
 deriving DecidableEq
structure Change where
 k:Key
 v:Int
 e:Bool
 deriving DecidableEq
abbrev fI64:=fI .i64
abbrev fU8:=fI .u8
def fKey:FRep Key:=fM (fP (fI .i32) (fI .i64)) (fun k=>(k.t,k.r)) fun x y h=>by
 cases x;cases y;simp at h;simp[h]
def fPair:FRep Pair:=fM (fP fKey (fI .i64)) (fun c=>(c.k,c.v)) fun x y h=>by
 cases x;cases y;simp at h;simp[h]
def fChange:FRep Change:=fM (fP fKey (fP (fI .i64) fB)) (fun c=>(c.k,c.v,c.e)) fun x y h=>by
 cases x;cases y;simp at h;simp[h]
theorem fPair_enc (c:Pair):fPair.enc c=[.int .i32 c.k.t,.int .i64 c.k.r,.int .i64 c.v]:=rfl
structure Res where
 e:Int
 vs:List Int
 s:Int
 p:Int
structure Row where
 ses:Int
 req:Int
 x:Res
theorem wrap_in {k:IntKind} {n:Int} (h:inK k n):k.wrap n=n:=by
 unfold inK IntKind.min IntKind.max IntKind.signed IntKind.bits at h
 unfold IntKind.wrap IntKind.signed IntKind.bits
 cases k <;> simp at h ⊢ <;> omega
theorem wrap_ok (k:IntKind) (n:Int):inK k (k.wrap n):=by
 unfold inK IntKind.min IntKind.max IntKind.wrap IntKind.signed IntKind.bits
 cases k <;> simp <;> omega
theorem inK_u8 {n:Int}:inK .u8 n↔0≤n∧n≤255:=by
 simp[inK,IntKind.min,IntKind.max,IntKind.signed,IntKind.bits]
theorem inK_u16 {n:Int}:inK .u16 n↔0≤n∧n≤65535:=by
 simp[inK,IntKind.min,IntKind.max,IntKind.signed,IntKind.bits]
theorem inK_i64 {n:Int}:inK .i64 n ↔ -9223372036854775808≤n∧n≤9223372036854775807:=by
 simp[inK,IntKind.min,IntKind.max,IntKind.signed,IntKind.bits]
theorem inK_i32 {n:Int}:inK .i32 n ↔ -2147483648≤n∧n≤2147483647:=by
 simp[inK,IntKind.min,IntKind.max,IntKind.signed,IntKind.bits]
theorem wrap_i64_in {n:Int} (h0 : -9223372036854775808≤n) (h1:n≤9223372036854775807):IntKind.i64.wrap n=n:=wrap_in (inK_i64.2 ⟨h0,h1⟩)
end Go.D

namespace Go.Proofs.Ythjmkmoiopmfcaa
open Go.D
set_option maxRecDepth 100000
end Go.Proofs.Ythjmkmoiopmfcaa

namespace Go.Proofs.Ythjmkmoiopmfcaa
open Go.D
set_option maxRecDepth 100000
end Go.Proofs.Ythjmkmoiopmfcaa

namespace Go.Proofs.Ythjmkmoiopmfcaa
open Go.D
set_option maxRecDepth 100000
end Go.Proofs.Ythjmkmoiopmfcaa

namespace Go.Proofs.Ythjmkmoiopmfcaa
open Go.Proofs
def sortKey_ren:Go.Shelf.Ren:=⟨fun | 6=>78 | 15=>92 | 14=>91 | 28=>107 | 29=>108 | 20=>99 | 21=>100 | 22=>101 | 23=>102 | 24=>103 | 25=>104 | 26=>105 | 27=>106 | 46=>109 | 47=>110 | 48=>111 | 49=>112 | 50=>113 | 57=>114 | n=>n,fun | 22=>24 | 24=>44 | 25=>121 | 3=>3 | 39=>96 | 0=>0 | 53=>149 | 55=>92 | 4=>4 | 46=>143 | 45=>142 | 50=>135 | 5=>5 | 9=>9 | 66=>154 | 70=>158 | 76=>160 | 77=>161 | n=>n,fun | n=>n⟩
theorem sortKey:SlLaysF0.n6 Try.prog sortKey_ren where
 mixed:=by kernel_rfl
 f6:=⟨ "slices.SortFunc[[]trivet/api.Key,trivet/api.Key]",by decide,Try.func78.trans (congrArg some (by kernel_rfl))⟩
 f14:=⟨ "slices.pdqsortCmpFunc[trivet/api.Key]",by decide,Try.func91.trans (congrArg some (by kernel_rfl))⟩
 f15:=Try.func92.trans (congrArg some (by kernel_rfl))
 f20:=⟨ "slices.insertionSortCmpFunc[trivet/api.Key]",by decide,Try.func99.trans (congrArg some (by kernel_rfl))⟩
 f21:=⟨ "slices.heapSortCmpFunc[trivet/api.Key]",by decide,Try.func100.trans (congrArg some (by kernel_rfl))⟩
 f22:=⟨ "slices.breakPatternsCmpFunc[trivet/api.Key]",by decide,Try.func101.trans (congrArg some (by kernel_rfl))⟩
 f23:=⟨ "slices.choosePivotCmpFunc[trivet/api.Key]",by decide,Try.func102.trans (congrArg some (by kernel_rfl))⟩
 f24:=⟨ "slices.reverseRangeCmpFunc[trivet/api.Key]",by decide,Try.func103.trans (congrArg some (by kernel_rfl))⟩
 f25:=⟨ "slices.partialInsertionSortCmpFunc[trivet/api.Key]",by decide,Try.func104.trans (congrArg some (by kernel_rfl))⟩
 f26:=⟨ "slices.partitionEqualCmpFunc[trivet/api.Key]",by decide,Try.func105.trans (congrArg some (by kernel_rfl))⟩
 f27:=⟨ "slices.partitionCmpFunc[trivet/api.Key]",by decide,Try.func106.trans (congrArg some (by kernel_rfl))⟩
 f28:=Try.func107.trans (congrArg some (by kernel_rfl))
 f29:=Try.func108.trans (congrArg some (by kernel_rfl))
 f46:=⟨ "slices.siftDownCmpFunc[trivet/api.Key]",by decide,Try.func109.trans (congrArg some (by kernel_rfl))⟩
 f47:=Try.func110.trans (congrArg some (by kernel_rfl))
 f48:=Try.func111.trans (congrArg some (by kernel_rfl))
 f49:=⟨ "slices.medianAdjacentCmpFunc[trivet/api.Key]",by decide,Try.func112.trans (congrArg some (by kernel_rfl))⟩
 f50:=⟨ "slices.medianCmpFunc[trivet/api.Key]",by decide,Try.func113.trans (congrArg some (by kernel_rfl))⟩
 f57:=⟨ "slices.order2CmpFunc[trivet/api.Key]",by decide,Try.func114.trans (congrArg some (by kernel_rfl))⟩
 t0:=Try.underlying0
 a0:=Try.isAgg0
 z0:=Try.sizeOf0
 v0:=Try.zeroValue0
 t3:=Try.underlying3
 a3:=Try.isAgg3
 z3:=Try.sizeOf3
 v3:=Try.zeroValue3
 t4:=Try.underlying4
 a4:=Try.isAgg4
 z4:=Try.sizeOf4
 v4:=Try.zeroValue4
 t5:=Try.underlying5
 a5:=Try.isAgg5
 z5:=Try.sizeOf5
 v5:=Try.zeroValue5
 t9:=Try.underlying9
 a9:=Try.isAgg9
 z9:=Try.sizeOf9
 v9:=Try.zeroValue9
 t22:=Try.underlying24
 a22:=Try.isAgg24
 z22:=Try.sizeOf24
 v22:=Try.zeroValue24
 t25:=Try.underlying121
 a25:=Try.isAgg121
 z25:=Try.sizeOf121
 v25:=Try.zeroValue121
 t39:=Try.underlying96
 a39:=Try.isAgg96
 z39:=Try.sizeOf96
 v39:=Try.zeroValue96
 t45:=Try.underlying142
 a45:=Try.isAgg142
 z45:=Try.sizeOf142
 v45:=Try.zeroValue142
 t46:=Try.underlying143
 a46:=Try.isAgg143
 z46:=Try.sizeOf143
 v46:=Try.zeroValue143
 t50:=Try.underlying135
 a50:=Try.isAgg135
 z50:=Try.sizeOf135
 v50:=Try.zeroValue135
 t53:=Try.underlying149
 a53:=Try.isAgg149
 z53:=Try.sizeOf149
 v53:=Try.zeroValue149
 t55:=Try.underlying92
 a55:=Try.isAgg92
 z55:=Try.sizeOf92
 v55:=Try.zeroValue92
 t66:=Try.underlying154
 a66:=Try.isAgg154
 z66:=Try.sizeOf154
 v66:=Try.zeroValue154
 t70:=Try.underlying158
 a70:=Try.isAgg158
 z70:=Try.sizeOf158
 v70:=Try.zeroValue158
 t76:=Try.underlying160
 a76:=Try.isAgg160
 z76:=Try.sizeOf160
 v76:=Try.zeroValue160
 t77:=Try.underlying161
 a77:=Try.isAgg161
 z77:=Try.sizeOf161
 v77:=Try.zeroValue161
end Go.Proofs.Ythjmkmoiopmfcaa

namespace Go.D
open Go.Proofs.Ythjmkmoiopmfcaa (Rows.uptoBulk Rows.uptoBulkAll)
variable {P:Program}
structure Rds (ι:Inj) (h:DHeap) (W:World):Prop where
 sim:Sim ι h W
 ro:∀ id e,ι id=some e→e.ro=true
def Blk (W:World):Prop:=∃ (b:Nat) (c:Array Value) (t:TypeId) (fz:Nat × Nat),W.heap[b]? = some (Obj.cells c t fz)
def BlkOf (W:World) (cs:List Value):Prop:=∀ a len cap,Value.slice (some a) len cap∈cs→Blk W
theorem BlkOf.of {W:World} (b:Blk W) (cs:List Value):BlkOf W cs:=fun _ _ _ _=>b
theorem BlkOf.sub {W:World} {cs ds:List Value} (b:BlkOf W cs) (h:∀ v∈ds,v∈cs):BlkOf W ds:=fun a l c hm=>b a l c (h _ hm)
theorem Rds.none (W:World):Rds (fun _=>none) ⟨fun _=>none,0,0⟩ W:=
 ⟨⟨fun _ _ h=>(by cases h),fun _ _ h=>(by cases h),fun _ _ h=>(by cases h),fun _ _ _ _ h=>(by cases h),fun g hg=>absurd hg (Nat.not_lt_zero _)⟩,fun _ _ h=>by cases h⟩
theorem Rds.push {ι:Inj} {h:DHeap} {W:World} (s:Rds ι h W) {b:Nat} {cur:Array Value} {ty:TypeId} {fz:Nat × Nat} (hb:W.heap[b]? = some (.cells cur ty fz)) (shift z:Nat) {cells:List Value}
 (hc:∀ (i:Nat) v,cells[i]? = some v→∃ v',cur[shift+i]? = some v'∧VRel ι v v') :
 Rds (ι.upd h.next ⟨b,shift,z,0,true⟩) (h.push (.row cells z true)) W∧ι.le (ι.upd h.next ⟨b,shift,z,0,true⟩)∧Ext h (h.push (.row cells z true)):=by
 have hle:ι.le (ι.upd h.next ⟨b,shift,z,0,true⟩):=Inj.upd_le s.sim.fresh
 have hbl:b<W.heap.size:=by
  cases hx:W.heap[b]? with
  | none=>rw[hx]at hb;cases hb
  | some _=>exact (Array.getElem?_eq_some_iff.1 hx).1
 have hcase:∀ id e,(ι.upd h.next ⟨b,shift,z,0,true⟩) id=some e→(id=h.next∧e=⟨b,shift,z,0,true⟩)∨(id≠h.next∧ι id=some e):=by
  intro id e he
  unfold Inj.upd at he
  split at he
  ·cases he;exact .inl ⟨‹_›,rfl⟩
  ·exact .inr ⟨‹_›,he⟩
 have hro:∀ id e,(ι.upd h.next ⟨b,shift,z,0,true⟩) id=some e→e.ro=true:=by
  intro id e he
  rcases hcase id e he with ⟨_,rfl⟩ | ⟨_,he⟩
  ·rfl
  ·exact s.ro id e he
 refine ⟨⟨⟨?_,?_,?_,?_,?_⟩,hro⟩,hle,Ext.push1 _ _⟩
 ·intro id e he
  rcases hcase id e he with ⟨rfl,_⟩ | ⟨_,he⟩
  ·exact Nat.lt_succ_self _
  ·exact Nat.lt_succ_of_lt (s.sim.lt id e he)
 ·intro id e he
  rcases hcase id e he with ⟨_,rfl⟩ | ⟨_,he⟩
  ·exact hbl
  ·exact s.sim.blk id e he
 ·intro id e he
  rcases hcase id e he with ⟨rfl,rfl⟩ | ⟨_,he⟩
  ·refine ⟨_,get_push_same _ _,rfl,rfl,cur,ty,fz,hb,fun i v hv=>?_,fun hh=>by cases hh⟩
   obtain ⟨v',a,r⟩:=hc i v hv
   exact ⟨v',a,r.mono hle⟩
  ·obtain ⟨o,a,r⟩:=s.sim.obj id e he
   exact ⟨o,(get_push_other _ _ (s.sim.lt id e he)).trans a,r.mono hle rfl⟩
 ·intro id id' e e' he he' _ _
  exact .inr (.inr ⟨hro _ _ he,hro _ _ he'⟩)
 ·intro g hg
  obtain ⟨e,a,r⟩:=s.sim.glob g hg
  exact ⟨e,hle _ _ a,r⟩
structure Lays {α:Type} (P:Program) (t:TypeId) (R:Rep α) (B:α→Nat):Prop where
 size:P.cellsOf t=R.z
 lay:∀ {H:Type} (enc:TypeId × Value→H) (W:World) (n:Nat) (cs:List Value) (x:DataW H × List MemPlace),DataW.trod enc P W 0 (fun _=>true) true n t cs=some x→BlkOf W cs→∀ (ι:Inj) (h:DHeap),Rds ι h W →
  ∃ ι' h' cs0 y,Rds ι' h' W∧ι.le ι'∧Ext h h'∧LRel ι' cs0 cs∧R.rd (fun i=>i<h'.next) h' cs0 y∧B y≤Rows.uptoBulk x.1
 stay:∀ {H:Type} (enc:TypeId × Value→H) (W W':World) (n:Nat) (cs:List Value) (x:DataW H × List MemPlace) (sp:Nat→Bool),DataW.trod enc P W 0 (fun _=>true) true n t cs=some x→(∀ p∈x.2,W.sameAt W' p)→(∀ p∈x.2,sp p.block=true) →
  DataW.trod enc P W' 0 sp true n t cs=some x
theorem Rows.one_le {H:Type} (d:DataW H):1≤Rows.uptoBulk d:=by
 cases d with
 | lit l=>cases l <;> simp[Rows.uptoBulk]
 | nil=>simp[Rows.uptoBulk]
 | ptr d=>simp[Rows.uptoBulk]
 | slice elems spare=>simp[Rows.uptoBulk]
 | agg parts=>simp[Rows.uptoBulk]
 | iface t d=>simp[Rows.uptoBulk]
 | map entries=>simp[Rows.uptoBulk]
 | held h=>simp[Rows.uptoBulk]
theorem wf_in {k:IntKind} {n:Int} (h:(Lit.int k n).wf=true):inK k n:=by
 simpa [Lit.wf,inK] using h
theorem trod_pos {H:Type} {enc:TypeId × Value→H} {W:World} {base:Nat} {sp:Nat→Bool} {hd:Bool} {n:Nat} {t:TypeId} {cs:List Value} {x:DataW H × List MemPlace} (h:DataW.trod enc P W base sp hd n t cs=some x):∃ m,n=m+1:=by
 cases n with
 | zero=>simp[DataW.trod]at h
 | succ m=>exact ⟨m,rfl⟩
theorem Lays.int {t:TypeId} {k:IntKind} (hu:P.underlying t=some (.int k)) (hz:P.cellsOf t=1):Lays P t (fI k).rep (fun _=>1) where
 size:=hz
 lay enc W n cs x h _ ι hh s:=by
  obtain ⟨m,rfl,rfl,hw⟩:=DataW.trod_int hu h
  exact ⟨ι,hh,[.int k m],m,s,Inj.le_refl _,.refl _,(LRel.nil ι).cons (.int _ _),⟨rfl,wf_in hw⟩,Rows.one_le _⟩
 stay enc W W' n cs x sp h _ _:=by
  obtain ⟨m,rfl⟩:=trod_pos h
  obtain ⟨i,rfl,rfl,hw⟩:=DataW.trod_int hu h
  simp only[DataW.trod,hu]
  rw[if_pos (by simpa using hw)]
theorem Lays.bool {t:TypeId} (hu:P.underlying t=some .bool) (hz:P.cellsOf t=1):Lays P t fB.rep (fun _=>1) where
 size:=hz
 lay enc W n cs x h _ ι hh s:=by
  obtain ⟨m,rfl,rfl⟩:=DataW.trod_bool hu h
  exact ⟨ι,hh,[.bool m],m,s,Inj.le_refl _,.refl _,(LRel.nil ι).cons (.bool _),⟨rfl,trivial⟩,Rows.one_le _⟩
 stay enc W W' n cs x sp h _ _:=by
  obtain ⟨m,rfl⟩:=trod_pos h
  obtain ⟨i,rfl,rfl⟩:=DataW.trod_bool hu h
  simp only[DataW.trod,hu]
theorem Lays.conv {α β:Type} {t:TypeId} {R:Rep α} {B:α→Nat} {Q:Rep β} {C:β→Nat} (a:Lays P t R B) (hz:R.z=Q.z) (f:α→β) (hf:∀ S h cs x,R.rd S h cs x→Q.rd S h cs (f x)) (hC:∀ x,C (f x)≤B x):Lays P t Q C where
 size:=a.size.trans hz
 lay enc W n cs x h b ι hh s:=by
  obtain ⟨ι',h',cs0,y,g1,g2,g3,g4,g5,g6⟩:=a.lay enc W n cs x h b ι hh s
  exact ⟨ι',h',cs0,f y,g1,g2,g3,g4,hf _ _ _ _ g5,Nat.le_trans (hC y) g6⟩
 stay:=a.stay
inductive Flds (P:Program):{α:Type}→Nat→List Field→Rep α→(α→Nat)→Prop
 | one {α:Type} {off:Nat} {f:Field} {R:Rep α} {B:α→Nat} (ho:f.offset=off) (hl:Lays P f.type R B):Flds P off [f] R B
 | cons {α β:Type} {off:Nat} {f:Field} {fs:List Field} {R:Rep α} {B:α→Nat} {Q:Rep β} {C:β→Nat} (ho:f.offset=off) (hl:Lays P f.type R B) (hr:Flds P (off+R.z) fs Q C):Flds P off (f :: fs) (rP R Q) (fun x=>B x.1+C x.2)
theorem rd_ext {α:Type} (R:Rep α) {h h':DHeap} {cs:List Value} {x:α} (a:R.rd (fun i=>i<h.next) h cs x) (e:Ext h h'):R.rd (fun i=>i<h'.next) h' cs x:=R.mono a fun i hi=>⟨Nat.lt_of_lt_of_le hi e.next,e.get i hi⟩
theorem Flds.lay {α:Type} {off:Nat} {fs:List Field} {R:Rep α} {B:α→Nat} (a:Flds P off fs R B):∀ {H:Type} (enc:TypeId × Value→H) (W:World) (n:Nat) (cs:List Value) (xs:List (DataW H × List MemPlace)),xs.length=fs.length →
 (∀ (i:Nat) (f:Field),fs[i]? = some f→DataW.trod enc P W 0 (fun _=>true) true n f.type ((cs.drop f.offset).take (P.cellsOf f.type))=xs[i]?)→BlkOf W cs→∀ (ι:Inj) (h:DHeap),Rds ι h W →
 ∃ ι' h' cs0 y,Rds ι' h' W∧ι.le ι'∧Ext h h'∧LRel ι' cs0 ((cs.drop off).take R.z)∧R.rd (fun i=>i<h'.next) h' cs0 y∧B y≤Rows.uptoBulkAll (xs.map (·.1)):=by
 induction a with
 | @one α off f R B ho hl=>
   intro H enc W n cs xs hlen hx b ι h s
   match xs,hlen with
   | [x],_=>
     have:=hx 0 f rfl
     obtain ⟨ι',h',cs0,y,g1,g2,g3,g4,g5,g6⟩:=hl.lay enc W n _ x this (b.sub fun v hv=>List.mem_of_mem_drop (List.mem_of_mem_take hv)) ι h s
     rw[hl.size,ho]at g4
     exact ⟨ι',h',cs0,y,g1,g2,g3,g4,g5,by simp[Rows.uptoBulkAll];exact g6⟩
 | @cons α β off f fs R B Q C ho hl hr ih=>
   intro H enc W n cs xs hlen hx b ι h s
   match xs,hlen with
   | x :: xs,hlen=>
     have h0:=hx 0 f rfl
     obtain ⟨ι1,h1,c1,y1,g1,g2,g3,g4,g5,g6⟩:=hl.lay enc W n _ x h0 (b.sub fun v hv=>List.mem_of_mem_drop (List.mem_of_mem_take hv)) ι h s
     rw[hl.size,ho]at g4
     obtain ⟨ι2,h2,c2,y2,k1,k2,k3,k4,k5,k6⟩:=ih enc W n cs xs (by simpa using hlen) (fun i f hf=>by simpa using hx (i+1) f (by simpa using hf)) b ι1 h1 g1
     refine ⟨ι2,h2,c1++c2,(y1,y2),k1,Inj.le_trans g2 k2,g3.trans k3,?_,⟨c1,c2,rfl,rd_ext R g5 k3,k5⟩,?_⟩
     ·have:=(g4.mono k2).append k4
      have e:(cs.drop off).take (rP R Q).z=(cs.drop off).take R.z++(cs.drop (off+R.z)).take Q.z:=by
       show (cs.drop off).take (R.z+Q.z)=_
       rw[List.take_add,List.drop_drop]
      rw[e];exact this
     ·simp only[List.map_cons,Rows.uptoBulkAll];omega
theorem Flds.stay {α:Type} {off:Nat} {fs:List Field} {R:Rep α} {B:α→Nat} (a:Flds P off fs R B):∀ {H:Type} (enc:TypeId × Value→H) (W W':World) (n:Nat) (cs:List Value) (sp:Nat→Bool) (f:Field) (x:DataW H × List MemPlace),f∈fs →
 DataW.trod enc P W 0 (fun _=>true) true n f.type ((cs.drop f.offset).take (P.cellsOf f.type))=some x→(∀ p∈x.2,W.sameAt W' p)→(∀ p∈x.2,sp p.block=true)→DataW.trod enc P W' 0 sp true n f.type ((cs.drop f.offset).take (P.cellsOf f.type))=some x:=by
 induction a with
 | one ho hl=>
   intro H enc W W' n cs sp f x hf h1 h2 h3
   simp only[List.mem_singleton]at hf
   subst hf
   exact hl.stay enc W W' n _ x sp h1 h2 h3
 | cons ho hl hr ih=>
   intro H enc W W' n cs sp f x hf h1 h2 h3
   rcases List.mem_cons.1 hf with rfl | hf
   ·exact hl.stay enc W W' n _ x sp h1 h2 h3
   ·exact ih enc W W' n cs sp f x hf h1 h2 h3
theorem Lays.struct {α:Type} {t:TypeId} {fs:Array Field} {R:Rep α} {B:α→Nat} (hu:P.underlying t=some (.struct fs)) (hz:P.cellsOf t=R.z) (a:Flds P 0 fs.toList R B):Lays P t R B where
 size:=hz
 lay enc W n cs x h b ι hh s:=by
  obtain ⟨xs,m,rfl,rfl,hl,hxl,hx⟩:=DataW.trod_struct hu h
  obtain ⟨ι',h',cs0,y,g1,g2,g3,g4,g5,g6⟩:=a.lay enc W m cs xs (by simpa using hxl) (fun i f hf=>hx i f (by simpa using hf)) b ι hh s
  refine ⟨ι',h',cs0,y,g1,g2,g3,?_,g5,?_⟩
  ·rw[List.drop_zero,List.take_of_length_le (by omega)]at g4;exact g4
  ·simp only[Rows.uptoBulk];omega
 stay enc W W' n cs x sp h h2 h3:=by
  obtain ⟨m,rfl⟩:=trod_pos h
  simp only[DataW.trod,hu]at h ⊢
  split at h
  ·rename_i hl
   rw[if_pos hl]
   simp only[Option.map_eq_some_iff]at h ⊢
   obtain ⟨xs,hm,rfl⟩:=h
   exact ⟨xs,mapM_carry hm (fun f y hf hy hv=>a.stay enc W W' m cs sp f y hf hv (fun p hp=>h2 p (List.mem_flatMap.2 ⟨y,hy,hp⟩)) (fun p hp=>h3 p (List.mem_flatMap.2 ⟨y,hy,hp⟩))),rfl⟩
  ·cases h
theorem add_add (a:Addr) (i j:Nat):((a.add i).add j).block=a.block∧((a.add i).add j).off=a.off+(i+j):=by
 unfold Addr.add
 split <;> split <;> simp_all [Nat.add_assoc]
theorem cell_at {W:World} {a:Addr} {v:Value} (h:W.cell? a=some v):a.spot=none∧∃ cur ty fz,W.heap[a.block]? = some (.cells cur ty fz)∧cur[a.off]? = some v:=by
 unfold World.cell? at h
 split at h
 ·rename_i c ty fz e
  split at h
  ·cases h
  ·rename_i hs
   exact ⟨by simpa using hs,c,ty,fz,e,h⟩
 ·cases h
theorem cells_get {W:World} {base:Nat} {a:Addr} {n:Nat} {cs:List Value} (h:W.cells? base a n=some cs):cs.length=n∧∀ j,j<n→W.cell? (a.add j)=cs[j]?:=by
 unfold World.cells? at h
 split at h
 ·refine ⟨by simpa using mapM_some_length h,fun j hj=>?_⟩
  exact mapM_some_get h j j (by simp[hj])
 ·cases h
def sumB {α:Type} (B:α→Nat):List α→Nat
 | []=>0
 | x :: l=>max 1 (B x)+sumB B l
theorem sumB_append {α:Type} (B:α→Nat) (l k:List α):sumB B (l++k)=sumB B l+sumB B k:=by
 induction l with
 | nil=>simp[sumB]
 | cons x l ih=>simp only[List.cons_append,sumB,ih];omega
theorem sumB_len {α:Type} (B:α→Nat) (l:List α):l.length≤sumB B l:=by
 induction l with
 | nil=>simp
 | cons x l ih=>simp only[List.length_cons,sumB];omega
theorem bulk_append {H:Type} (l r:List (DataW H)):Rows.uptoBulkAll (l++r)=Rows.uptoBulkAll l+Rows.uptoBulkAll r:=by
 induction l with
 | nil=>simp[Rows.uptoBulkAll]
 | cons x l ih=>simp only[List.cons_append,Rows.uptoBulkAll,ih];omega
theorem Lays.elems {α:Type} {e:TypeId} {R:Rep α} {B:α→Nat} (a:Lays P e R B) {H:Type} (enc:TypeId × Value→H) (W:World) (m:Nat) (ad:Addr) (elems:List (DataW H × List MemPlace))
 (he:∀ i,i<elems.length→(W.cells? 0 (ad.add (i*P.cellsOf e)) (P.cellsOf e)).bind (DataW.trod enc P W 0 (fun _=>true) true m e)=elems[i]?) (b:Blk W) (ι:Inj) (h:DHeap) (s:Rds ι h W):∀ k,k≤elems.length →
 ∃ ι' h' cells ys,Rds ι' h' W∧ι.le ι'∧Ext h h'∧ys.length=k∧Els R (fun i=>i<h'.next) h' cells ys∧(∀ (i:Nat) v,cells[i]? = some v→∃ v' cur ty fz,W.heap[ad.block]? = some (.cells cur ty fz)∧cur[ad.off+i]? = some v'∧VRel ι' v v') ∧
  sumB B ys≤Rows.uptoBulkAll ((elems.take k).map (·.1)):=by
 intro k
 induction k with
 | zero=>exact fun _=>⟨ι,h,[],[],s,Inj.le_refl _,.refl _,rfl,rfl,fun i v hv=>by simp at hv,by simp[sumB]⟩
 | succ k ih=>
   intro hk
   obtain ⟨ι1,h1,c1,ys,g1,g2,g3,g4,g5,g6,g7⟩:=ih (by omega)
   have hlt:k<elems.length:=by omega
   have h0:=he k hlt
   rw[List.getElem?_eq_getElem hlt,Option.bind_eq_some_iff]at h0
   obtain ⟨cs,hc,ht⟩:=h0
   obtain ⟨hcl,hcg⟩:=cells_get hc
   obtain ⟨ι2,h2,c2,y,k1,k2,k3,k4,k5,k6⟩:=a.lay enc W m cs _ ht (.of b _) ι1 h1 g1
   have hl1:c1.length=k*R.z:=by rw[g5.len,g4]
   have hl2:c2.length=R.z:=R.len k5
   refine ⟨ι2,h2,c1++c2,ys++[y],k1,Inj.le_trans g2 k2,g3.trans k3,by simp[g4],Els.append (g5.mono fun i hi=>⟨Nat.lt_of_lt_of_le hi k3.next,k3.get i hi⟩) (.single k5),fun i v hv=>?_,?_⟩
   ·rw[List.getElem?_append]at hv
    split at hv
    ·obtain ⟨v',cur,ty,fz,x1,x2,x3⟩:=g6 i v hv
     exact ⟨v',cur,ty,fz,x1,x2,x3.mono k2⟩
    ·rename_i hi
     have hj:i - c1.length<c2.length:=(List.getElem?_eq_some_iff.1 hv).1
     obtain ⟨v',hv',hr⟩:=k4.get hv
     have hj':i - c1.length<P.cellsOf e:=by rw[a.size];omega
     have hcell:=hcg (i - c1.length) hj'
     rw[hv']at hcell
     obtain ⟨_,cur,ty,fz,x1,x2⟩:=cell_at hcell
     obtain ⟨y1,y2⟩:=add_add ad (k*P.cellsOf e) (i - c1.length)
     rw[y1]at x1
     rw[y2,a.size,hl1]at x2
     exact ⟨v',cur,ty,fz,x1,by rw[show ad.off+(k*R.z+(i - k*R.z))=ad.off+i by omega]at x2;exact x2,hr⟩
   ·rw[sumB_append,List.take_add_one,List.getElem?_eq_getElem hlt]
    simp only[List.map_append,bulk_append,Option.toList_some,List.map_cons,List.map_nil,Rows.uptoBulkAll,sumB]
    have:=Rows.one_le elems[k].1
    omega
theorem Lays.slice {α:Type} {t e:TypeId} {R:Rep α} {B:α→Nat} (hu:P.underlying t=some (.slice e)) (hz:P.cellsOf t=1) (hp:0<R.z) (a:Lays P e R B):Lays P t (rSl R) (sumB B) where
 size:=hz
 lay enc W n cs x h b ι hh s:=by
  rcases DataW.trod_slice hu h with ⟨rfl,rfl⟩ | ⟨ad,len,cap,elems,rest,m,rfl,rfl,rfl,hb0,hlc,hcm,hel,he,hs,_⟩
  ·exact ⟨ι,hh,[.slice none 0 0],[],s,Inj.le_refl _,.refl _,(LRel.nil ι).cons .snil,⟨_,rfl,Sl.nil _ _ _⟩,Nat.zero_le _⟩
  ·replace b:Blk W:=b ad len cap (by simp)
   obtain ⟨hrl,hr⟩:=hs rfl
   obtain ⟨ι1,h1,cells,ys,g1,g2,g3,g4,g5,g6,g7⟩:=a.elems enc W m ad elems (fun i hi=>he i (by omega)) b ι hh s elems.length (Nat.le_refl _)
   have hcl:cells.length=len*R.z:=by rw[g5.len,g4,hel]
   rw[List.take_length]at g7
   have hblk:∃ bb sh cur ty fz,W.heap[bb]? = some (.cells cur ty fz)∧(0<cap→ad=⟨bb,sh,none⟩)∧∀ (i:Nat) v,cells[i]? = some v→∃ v',cur[sh+i]? = some v'∧VRel ι1 v v':=by
    by_cases hc0:cap=0
    ·obtain ⟨bb,cur,ty,fz,e1⟩:=b
     refine ⟨bb,0,cur,ty,fz,e1,fun hh=>by omega,fun i v hv=>?_⟩
     have:=(List.getElem?_eq_some_iff.1 hv).1
     rw[hcl,show len=0 by omega]at this
     omega
    ·have h0:∃ v,W.cell? ((ad.add 0).add 0)=some v:=by
      by_cases hl0:len=0
      ·have hx:=hr 0 (by omega)
       rw[List.getElem?_eq_getElem (by omega),Option.bind_eq_some_iff]at hx
       obtain ⟨cs',hc',_⟩:=hx
       obtain ⟨q1,q2⟩:=cells_get hc'
       have:=q2 0 (by rw[a.size];exact hp)
       rw[hl0,Nat.zero_add,Nat.zero_mul,List.getElem?_eq_getElem (by rw[q1,a.size];exact hp)]at this
       exact ⟨_,this⟩
      ·have hx:=he 0 (by omega)
       rw[List.getElem?_eq_getElem (by omega),Option.bind_eq_some_iff]at hx
       obtain ⟨cs',hc',_⟩:=hx
       obtain ⟨q1,q2⟩:=cells_get hc'
       have:=q2 0 (by rw[a.size];exact hp)
       rw[Nat.zero_mul,List.getElem?_eq_getElem (by rw[q1,a.size];exact hp)]at this
       exact ⟨_,this⟩
     obtain ⟨v0,hv0⟩:=h0
     have hadd:(ad.add 0).add 0=ad:=by simp[Addr.add]
     rw[hadd]at hv0
     obtain ⟨hsp,cur,ty,fz,e1,_⟩:=cell_at hv0
     refine ⟨ad.block,ad.off,cur,ty,fz,e1,fun _=>by cases ad;simp_all,fun i v hv=>?_⟩
     obtain ⟨v',cur',ty',fz',x1,x2,x3⟩:=g6 i v hv
     rw[e1]at x1
     cases x1
     exact ⟨v',x2,x3⟩
   obtain ⟨bb,sh,cur,ty,fz,e1,e2,e3⟩:=hblk
   obtain ⟨k1,k2,k3⟩:=g1.push e1 sh R.z e3
   refine ⟨_,_,[.slice (some ⟨h1.next,0,none⟩) ys.length cap],ys,k1,Inj.le_trans g2 k2,g3.trans k3,(LRel.nil _).cons ?_,⟨_,rfl,.inr ⟨h1.next,0,cap,cells,R.z,true,rfl,Nat.lt_succ_self _,get_push_same _ _,.inl rfl,?_,?_⟩⟩,?_⟩
   ·rw[show len=ys.length by omega]
    exact .slice (Inj.upd_same _ _ _) (by omega) (fun h=>h) (fun hc=>e2 hc) (fun hh=>by cases hh)
   ·rw[hcl,g4,hel];omega
   ·rw[List.drop_zero,List.take_of_length_le (by rw[hcl,g4,hel];exact Nat.le_refl _)]
    exact g5.mono fun i hi=>⟨Nat.lt_of_lt_of_le hi k3.next,k3.get i hi⟩
   ·simp only[Rows.uptoBulk];omega
 stay enc W W' n cs x sp h h2 h3:=by
  obtain ⟨m,rfl⟩:=trod_pos h
  rcases DataW.trod_slice hu h with ⟨rfl,rfl⟩ | ⟨ad,len,cap,_,_,_,_,rfl,_⟩
  ·simp only[DataW.trod,hu]
  ·simp only[DataW.trod,hu,if_true]at h ⊢
   split at h
   ·rename_i hc
    rw[if_pos hc]
    simp only[Option.map_eq_some_iff,Option.bind_eq_some_iff]at h ⊢
    obtain ⟨elems,he,rest,hrest,rfl⟩:=h
    have hlen:elems.length=len:=by simpa using mapM_some_length he
    have hrl:rest.length=cap - len:=by simpa using mapM_some_length hrest
    have one:∀ (i:Nat) (y:DataW _ × List MemPlace),i<elems.length+rest.length→y∈elems++rest →
     (W.cells? 0 (ad.add (i*P.cellsOf e)) (P.cellsOf e)).bind (DataW.trod enc P W 0 (fun _=>true) true m e)=some y→(W'.cells? 0 (ad.add (i*P.cellsOf e)) (P.cellsOf e)).bind (DataW.trod enc P W' 0 sp true m e)=some y:=by
     intro i y hi hy hv
     simp only[Option.bind_eq_some_iff]at hv ⊢
     obtain ⟨cs',hc',hy'⟩:=hv
     have hm:∀ p∈y.2,p∈(elems++rest).flatMap (·.2):=fun p hp=>List.mem_flatMap.2 ⟨y,hy,hp⟩
     refine ⟨cs',World.cells?_carry hc' (fun p hp=>h2 p ?_),a.stay enc W W' m cs' y sp hy' (fun p hp=>h2 p (List.mem_append_right _ (hm p hp))) (fun p hp=>h3 p (List.mem_append_right _ (hm p hp)))⟩
     obtain ⟨j,hj,rfl⟩:=MemPlace.mem_row.1 hp
     refine List.mem_append_left _ (MemPlace.mem_row.2 ⟨i*P.cellsOf e+j,?_,?_⟩)
     ·calc i*P.cellsOf e+j<i*P.cellsOf e+P.cellsOf e:=by omega
       _=(i+1)*P.cellsOf e:=by rw[Nat.add_mul,Nat.one_mul]
       _≤(elems.length+rest.length)*P.cellsOf e:=Nat.mul_le_mul_right _ hi
     ·unfold Addr.add
      split
      ·rename_i h0
       simp[h0]
      ·simp[Nat.add_assoc]
    refine ⟨elems,mapM_carry he (fun i y hi hy=>one i y (by have:i<len:=(by simpa using hi);omega) (by simp[hy])),rest,?_,rfl⟩
    by_cases hc0:cap - len=0
    ·have hr0:rest=[]:=List.eq_nil_of_length_eq_zero (by omega)
     rw[hr0,hc0]
     split <;> rfl
    ·have hsp:sp ad.block=true:=by
      have:MemPlace.cell ad.block (ad.off+0)∈MemPlace.row ad ((elems.length+rest.length)*P.cellsOf e):=MemPlace.mem_row.2 ⟨0,by
       rw[a.size]
       exact Nat.mul_pos (by omega) hp,rfl⟩
      exact h3 _ (List.mem_append_left _ this)
     rw[if_pos hsp]
     exact mapM_carry hrest (fun j y hj hy=>one (len+j) y (by have:j<cap - len:=(by simpa using hj);omega) (by simp[hy]))
   ·cases h
end Go.D

namespace Go.D
open Go.Proofs.Ythjmkmoiopmfcaa (Rows.uptoBulk Rows.uptoBulkAll Rows.uptoSmall)
open Go.ChangeShapes Go.RowKit
variable {P:Program}
def argV (agg:Bool) (cs:List Value):Value:=if agg then .agg cs.toArray else cs.headD undef
def oneDesc:TypeDesc→Bool
 | .int _ | .bool | .slice _=>true
 | _=>false
def Par (P:Program) (t:TypeId) (agg:Bool):Prop:=if agg then ∃ fs,P.underlying t=some (.struct fs) else ∃ d,P.underlying t=some d∧oneDesc d=true
theorem has_blk {W:World} {base:Nat} {a:Addr} {e:TypeId} {n:Nat} (h:W.has P .any base a e n):Blk W:=by
 obtain ⟨_,_,row,cells,hs,_⟩:=h
 unfold World.shape? at hs
 split at hs
 ·rename_i c elem fz e
  exact ⟨_,_,_,_,e⟩
 ·cases hs
theorem okCell_blk {W:World} {base:Nat} {t:TypeId} {a:Addr} {len cap:Nat} (h:Cell.okWide P W .any base t (.slice (some a) len cap)):Blk W:=by
 unfold Cell.okWide at h
 split at h <;> try simp_all
 unfold Cell.ok at h
 split at h <;> try simp_all
 exact has_blk h.2.2
theorem ok_blk {W:World} {base:Nat} {t:TypeId} {v:Value} (h:Value.okWide P W .any base t v):BlkOf W v.cells.toList:=by
 intro a len cap hm
 unfold Value.okWide at h
 have one:Cell.okWide P W .any base t v→Blk W:=fun hc=>by
  have hv:v.cells=#[v]∨(∃ cs,v=.agg cs)∨(∃ cs,v=.tuple cs):=by
   cases v <;> first | exact .inl rfl | exact .inr (.inl ⟨_,rfl⟩) | exact .inr (.inr ⟨_,rfl⟩)
  rcases hv with hv | ⟨cs,rfl⟩ | ⟨cs,rfl⟩
  ·rw[hv]at hm
   simp only[List.mem_singleton]at hm
   subst hm
   exact okCell_blk hc
  ·exfalso
   unfold Cell.okWide at hc
   split at hc <;> simp_all
   unfold Cell.ok at hc
   split at hc <;> simp_all
  ·exfalso
   unfold Cell.okWide at hc
   split at hc <;> simp_all
   unfold Cell.ok at hc
   split at hc <;> simp_all
 have agg:(∃ cs,v=.agg cs∧cs.size=P.cellsOf t∧Row.okWide P W .any base t cs)→Blk W:=fun ⟨cs,e,_,ts,_,_,hr⟩=>by
  subst e
  obtain ⟨i,hi⟩:=List.mem_iff_getElem?.1 hm
  obtain ⟨u,_,hu⟩:=hr i _ (by simpa [Value.cells] using hi)
  exact okCell_blk hu
 split at h
 ·exact agg h
 ·exact agg h
 ·exact one h
theorem Lays.arg {α:Type} {t:TypeId} {R:Rep α} {B:α→Nat} {agg:Bool} (hp:Par P t agg) (a:Lays P t R B) {H:Type} {enc:TypeId × Value→H} {W:World} {base:Nat} {v:Value} {d:DataW H} {ps:List MemPlace}
 (ht:DataW.Trod enc P W 0 (fun _=>true) true t v d ps) (hv:Value.okWide P W .any base t v) {ι:Inj} {h:DHeap} (s:Rds ι h W) :
 ∃ ι' h' cs0 y,Rds ι' h' W∧ι.le ι'∧Ext h h'∧VRel ι' (argV agg cs0) v∧R.rd (fun i=>i<h'.next) h' cs0 y∧B y≤Rows.uptoBulk d:=by
 obtain ⟨n,hn⟩:=ht
 obtain ⟨ι',h',cs0,y,g1,g2,g3,g4,g5,g6⟩:=a.lay enc W n _ _ hn (ok_blk hv) ι h s
 refine ⟨ι',h',cs0,y,g1,g2,g3,?_,g5,g6⟩
 unfold Par at hp
 unfold Value.okWide at hv
 cases agg with
 | true=>
   obtain ⟨fs,hu⟩:=hp
   rw[hu]at hv
   obtain ⟨cs,rfl,_⟩:=hv
   obtain ⟨x1,x2⟩:=g4
   exact .agg (by simpa [Value.cells] using x1) (fun i v v' a b=>x2 i v v' (by simpa using a) (by simpa [Value.cells] using b))
 | false=>
   obtain ⟨de,hu,ho⟩:=hp
   have hc:Cell.okWide P W .any base t v:=by
    rw[hu]at hv
    cases de <;> first | exact hv | simp[oneDesc]at ho
   have h1:v.cells=#[v]:=by
    cases v <;> first | rfl | (exfalso;unfold Cell.okWide at hc;rw[hu]at hc;cases de <;> simp[oneDesc,Cell.ok,hu]at ho hc)
   rw[h1]at g4
   obtain ⟨x1,x2⟩:=g4
   match cs0,x1 with
   | [c],_=>exact x2 0 c v rfl rfl
inductive Pars (P:Program):{α:Type}→List TypeId→((Nat→Prop)→DHeap→List Value→α→Prop)→(α→Nat)→Prop
 | nil:Pars P [] (fun _ _ vs (_:Unit)=>vs=[]) (fun _=>0)
 | cons {α β:Type} {t:TypeId} {ts:List TypeId} {agg:Bool} {R:Rep α} {B:α→Nat} {Q:(Nat→Prop)→DHeap→List Value→β→Prop} {C:β→Nat} (hp:Par P t agg) (hl:Lays P t R B) (hr:Pars P ts Q C) :
    Pars P (t :: ts) (fun S h vs (x:α × β)=>∃ cs vs',vs=argV agg cs :: vs'∧R.rd S h cs x.1∧Q S h vs' x.2) (fun x=>B x.1+C x.2)
theorem Pars.lay {α:Type} {ts:List TypeId} {Q:(Nat→Prop)→DHeap→List Value→α→Prop} {B:α→Nat} (a:Pars P ts Q B):∀ {H:Type} {enc:TypeId × Value→H} {W:World} {base:Nat} {vs:List Value} {ds:List (DataW H)} {ps:List MemPlace},
 DataW.TrodAll enc P W 0 (fun _=>true) true ts vs ds ps→(∀ (j:Nat) t v,ts[j]? = some t→vs[j]? = some v→Value.okWide P W .any base t v)→∀ {ι:Inj} {h:DHeap},Rds ι h W →
 ∃ ι' h' vs0 y,Rds ι' h' W∧ι.le ι'∧Ext h h'∧LRel ι' vs0 vs∧(∀ h1,Ext h' h1→Q (fun i=>i<h1.next) h1 vs0 y)∧B y≤Rows.uptoBulkAll ds:=by
 induction a with
 | nil=>
   intro H enc W base vs ds ps ht hv ι h s
   obtain ⟨rfl,rfl,rfl⟩:=trodAll_nil ht
   exact ⟨ι,h,[],(),s,Inj.le_refl _,.refl _,LRel.nil _,fun _ _=>rfl,Nat.le_refl _⟩
 | cons hp hl hr ih=>
   intro H enc W base vs ds ps ht hv ι h s
   obtain ⟨v,vs,d,ds,p,q,rfl,rfl,rfl,t1,t2⟩:=trodAll_cons ht
   obtain ⟨ι1,h1,cs,y,g1,g2,g3,g4,g5,g6⟩:=hl.arg hp t1 (hv 0 _ _ rfl rfl) s
   obtain ⟨ι2,h2,vs0,z,k1,k2,k3,k4,k5,k6⟩:=ih t2 (fun j t v a b=>hv (j+1) t v a b) g1
   exact ⟨ι2,h2,argV _ cs :: vs0,(y,z),k1,Inj.le_trans g2 k2,g3.trans k3,LRel.cons (g4.mono k2) k4,fun h3 e=>⟨cs,vs0,rfl,rd_ext _ g5 (k3.trans e),k5 h3 e⟩,by simp only[Rows.uptoBulkAll];omega⟩
theorem Pars.stay {α:Type} {ts:List TypeId} {Q:(Nat→Prop)→DHeap→List Value→α→Prop} {B:α→Nat} (a:Pars P ts Q B):∀ {H:Type} {enc:TypeId × Value→H} {W W':World} {sp:Nat→Bool} {vs:List Value} {ds:List (DataW H)} {ps:List MemPlace},
 DataW.TrodAll enc P W 0 (fun _=>true) true ts vs ds ps→(∀ p∈ps,W.sameAt W' p)→(∀ p∈ps,sp p.block=true)→DataW.TrodAll enc P W' 0 sp true ts vs ds ps:=by
 induction a with
 | nil=>
   intro H enc W W' sp vs ds ps ht _ _
   obtain ⟨rfl,rfl,rfl⟩:=trodAll_nil ht
   rfl
 | cons hp hl hr ih=>
   intro H enc W W' sp vs ds ps ht h2 h3
   obtain ⟨v,vs,d,ds,p,q,rfl,rfl,rfl,⟨n,t1⟩,t2⟩:=trodAll_cons ht
   exact ⟨p,q,⟨n,hl.stay enc W W' n _ _ sp t1 (fun x hx=>h2 x (List.mem_append_left _ hx)) (fun x hx=>h3 x (List.mem_append_left _ hx))⟩,ih t2 (fun x hx=>h2 x (List.mem_append_right _ hx)) (fun x hx=>h3 x (List.mem_append_right _ hx)),rfl⟩
section
variable {H:Type} {enc:TypeId × Value→H}
theorem post_of_kept {f:Func} {s:ChangeSpec} {apart fresh handsOn again:Bool} {W W':World} {args:Array Value} {v:Value} {ds gs:List (DataW H)} {before pa pv:List MemPlace}
 (hW:DataW.Whole enc P f.params.toList s.vars apart W args.toList ds gs before)
 (hres:∀ (b:Nat) (sp:Nat→Bool) (hd:Bool),DataW.TrodAll enc P W' b sp hd f.resultTypes.toList (v.resultList f.resultTypes.size) (s.fn H (ds++gs)).results [])
 (hargs:∀ sp:Nat→Bool,(∀ p∈before,sp p.block=true)→DataW.TrodAll enc P W' 0 sp true f.params.toList args.toList (s.fn H (ds++gs)).args pa)
 (hvars:∀ sp:Nat→Bool,(∀ p∈before,sp p.block=true)→DataW.TrodVars enc P W' sp s.vars (s.fn H (ds++gs)).vars pv)
 (hps:before=pa++pv) (hos:W'.os=W.os) (hout:W'.output=W.output) (hk:∀ b,b<W.heap.size→W'.heap[b]? = W.heap[b]?)
 (hok:∀ (j:Nat) (t:TypeId) (r:Value),f.resultTypes[j]? = some t→(v.resultList f.resultTypes.size)[j]? = some r→Value.okWide P W' .any 0 t r) :
 s.post enc P f apart fresh handsOn again W args v W':=by
 have hlt:=hW.lt
 have hold:∀ p∈before,(fun b=>decide (b<W.heap.size)) p.block=true:=fun p hp=>by simpa using hlt p hp
 have hkept:∀ may,W.keptBut W' may:=fun may=>⟨hos,hout,fun i hi=>by
  rw[hk i hi]
  exact (World.keptBut_refl W may).2.2 i hi⟩
 refine ⟨ds,gs,before,[],pa,pv,hW,hres _ _ _,hargs _ hold,hvars _ hold,hkept _,fun _=>?_⟩
 ·obtain ⟨_,_,_,_,_,hz,hn⟩:=hW
  refine ⟨hok,_,_,([]++pa)++pv,⟨[]++pa,pv,trodAll_append (hargs _ (fun _ _=>rfl)) (hres _ _ _),hvars _ (fun _ _=>rfl),rfl,?_,?_⟩,?_⟩
  ·intro b off hp
   have hp':MemPlace.cell b off∈before:=by rw[hps];simpa using hp
   have:W'.frozen? ⟨b,off,none⟩=W.frozen? ⟨b,off,none⟩:=by
    simp only[World.frozen?]
    rw[hk b (hlt _ hp')]
   rw[this]
   exact hz b off hp'
  ·intro ha
   have:=hn ha
   rw[hps]at this
   simpa using this
  ·intro p hp _
   rw[hps]
   simpa using hp
theorem trodVars_nil {W:World} {sp:Nat→Bool} {gs:List (DataW H)} {q:List MemPlace} (h:DataW.TrodVars enc P W sp [] gs q):gs=[]∧q=[]:=by
 cases gs with
 | nil=>exact ⟨rfl,h⟩
 | cons=>exact h.elim
theorem law_kept {α:Type} {f:FuncId} {fn:Func} {ts:List TypeId} {Q:(Nat→Prop)→DHeap→List Value→α→Prop} {B:α→Nat} {tb:TypeId} {s:ChangeSpec} {apart fresh handsOn again:Bool} (hts:fn.params.toList=ts) (pars:Pars P ts Q B)
 (hrt:fn.resultTypes=#[tb]) (hb:P.underlying tb=some .bool) (hs:s.vars=[]) (hfn:∀ ds:List (DataW H),ds.length=ts.length→s.fn H ds={ results:=[.lit (.bool true)],args:=ds })
 (ct:∀ h vs x,h.ng=0→Q (fun i=>i<h.next) h vs x→B x≤1048576→Ct P f vs h (fun r _=>r=.ret (.bool true)))
 (W:World) (base:Nat) (args:Array Value) (ds gs:List (DataW H)) (before:List MemPlace)
 (hval:∀ (j:Nat) t v,fn.params[j]? = some t→args[j]? = some v→Value.okWide P W .any base t v)
 (hW:DataW.Whole enc P fn.params.toList s.vars apart W args.toList ds gs before) (hk:Rows.uptoSmall H (ds++gs)=true) :
 Calls P f args W fun e W'=>∃ v,e=.returned v∧s.post enc P fn apart fresh handsOn again W args v W':=by
 have hW':=hW
 obtain ⟨p,q,hA,hV,rfl,hfz,hnd⟩:=hW
 rw[hs]at hV
 obtain ⟨rfl,rfl⟩:=trodVars_nil hV
 rw[hts]at hA
 have hk':Rows.uptoBulkAll ds≤1048576:=by
  have:=of_decide_eq_true hk
  simpa using this
 obtain ⟨ι,h,vs,y,s1,_,he,hr,hq,hB⟩:=pars.lay hA (fun j t v a b=>hval j t v (by simpa [← hts] using a) (by simpa using b)) (Rds.none W)
 have hng:h.ng=0:=he.ng
 have c:=ct h vs y hng (hq h (.refl _)) (by omega) 0 ι W args s1.sim hr
 refine callsIn_wide.1 (CallsIn.mono c fun e W' ⟨ι',r,h',hR,_,hE,sim',st⟩=>?_)
 subst hR
 cases e with
 | returned v=>
   have hv:v=.bool true:=by
    have:VRel ι' (.bool true) v:=hE
    cases this;rfl
   subst hv
   have hheap:∀ b,b<W.heap.size→W'.heap[b]? = W.heap[b]?:=fun b hb=>st.frame b hb fun id e he _=>s1.ro id e he
   have hlen:ds.length=ts.length:=by
    have:∀ {ts:List TypeId} {vs:List Value} {ds:List (DataW H)} {ps:List MemPlace},DataW.TrodAll enc P W 0 (fun _=>true) true ts vs ds ps→ds.length=ts.length:=by
     intro ts
     induction ts with
     | nil=>intro vs ds ps h;obtain ⟨_,rfl,_⟩:=trodAll_nil h;rfl
     | cons t ts ih=>
       intro vs ds ps h
       obtain ⟨_,_,_,_,_,_,_,rfl,_,_,h2⟩:=trodAll_cons h
       simp[ih h2]
    exact this hA
   have hlt:∀ x∈p,x.block<W.heap.size:=DataW.TrodAll.lt hA
   have hsame:∀ x∈p,W.sameAt W' x:=fun x hx=>by
    have hb:=hheap _ (hlt x hx)
    cases x with
    | cell b off=>simp only[World.sameAt,World.cell?];rw[show W'.heap[b]? = W.heap[b]? from hb]
    | map b=>exact hb
   refine ⟨_,rfl,post_of_kept (pa:=p) (pv:=[]) hW' ?_ ?_ ?_ rfl st.os st.output hheap ?_⟩
   ·intro b sp hd
    rw[List.append_nil,hfn ds hlen,hrt]
    exact trodAll_cons_mk (shut_bool hb _) trodAll_mk0
   ·intro sp hsp
    rw[List.append_nil,hfn ds hlen,hts]
    exact pars.stay hA hsame (fun x hx=>hsp x (by simpa using hx))
   ·intro sp hsp
    rw[List.append_nil,hfn ds hlen,hs]
    rfl
   ·intro j t r h1 h2
    rw[hrt]at h1 h2
    cases j with
    | zero=>
      simp at h1
      simp[Value.resultList]at h2
      subst h1;subst h2
      simp[Value.okWide,hb,Cell.okWide,Cell.ok]
    | succ j=>simp at h1
 | _=>exact hE.elim
end
end Go.D

namespace Go.D
variable {P:Program} {α:Type} {R:Rep α} {S S':Nat→Prop} {K h:DHeap} {v:Value} {l:List α}
theorem laid_src {cs:List Value} {x:α} {z n:Nat} (hx:R.rd S K cs x) (hz:z=R.z) (hp:0<R.z):srcCells R.z 1 (.slice (some ⟨K.next,0,none⟩) 1 n) (K.push (.row cs z false))=some cs:=by
 subst hz
 have hl:=R.len hx
 simp only[srcCells,get_push_same]
 simp[hl]
 exact List.take_of_length_le (by omega)
theorem Owns.snoc {w:Option Nat} {ts:Array TypeId} {cs:List Value} {x:α} {z b:Nat} (ho:Owns R S K v l w) (hS:∀ i,S i→i<K.next∧w≠some i) (hx:R.rd S K cs x) (hz:z=R.z) (hp:0<R.z) (hT:appT P ts=some (R.z,b)) (hlen:l.length+1≤4294967296) (hb:b≤32768) :
 ∃ v' h2,dAppend P ts v (.slice (some ⟨K.next,0,none⟩) 1 1) (K.push (.row cs z false))=some (v',h2)∧h2.next=K.next+2∧h2.ng=K.ng∧(∀ i,i<K.next→w≠some i→h2.get i=K.get i) ∧
  Owns R S h2 v' (l++[x]) (some (K.next+1)):=by
 have hw:=ho.lt
 have hg:∀ i,S i→(K.push (.row cs z false)).get i=K.get i:=fun i hi=>get_push_other _ _ (hS i hi).1
 have ho2:Owns R S (K.push (.row cs z false)) v l w:=ho.mono (Nat.le_succ _) (fun i hi=>get_push_other _ _ (hw i hi)) (fun i hi=>⟨hi,hg i hi⟩)
 have hm:(l.length+1)*b≤4294967296*32768:=Nat.mul_le_mul hlen hb
 obtain ⟨v',h2,w',e3,g,o,hw'⟩:=ho2.append (k:=[x]) (x:=.slice (some ⟨K.next,0,none⟩) 1 1) hT (fun i hi=>⟨Nat.lt_succ_of_lt (hS i hi).1,(hS i hi).2⟩) rfl (laid_src hx hz hp) (.single (R.mono hx fun i hi=>⟨hi,hg i hi⟩)) (by simp only[List.length_singleton];omega) (by simp only[List.length_singleton];omega)
 rcases hw' with ⟨h0,_⟩ | ⟨h0,h1⟩
 ·cases h0
 ·subst h0
  exact ⟨v',h2,e3,h1,g.ng,fun i hi hwi=>(g.get i (Nat.lt_succ_of_lt hi) hwi).trans (get_push_other _ _ hi),o⟩
theorem Owns.arg {w:Option Nat} (a:Owns R S h v l w) (hS:∀ i,S i→i<h.next):Arg R h v l:=by
 have hlt:=a.lt
 exact a.sl.mono fun i hi=>⟨by
  rcases hi with hi | hi
  ·exact hS i hi
  ·exact hlt i hi,rfl⟩
end Go.D

namespace Go.D
variable {P:Program}
inductive Fld2 (P:Program):{α:Type}→Nat→List (TypeId × Nat)→Rep α→(α→Nat)→Prop
 | one {α:Type} {off:Nat} {t:TypeId} {R:Rep α} {B:α→Nat} (hl:Lays P t R B):Fld2 P off [(t,off)] R B
 | cons {α β:Type} {off:Nat} {t:TypeId} {l:List (TypeId × Nat)} {R:Rep α} {B:α→Nat} {Q:Rep β} {C:β→Nat} (hl:Lays P t R B) (hr:Fld2 P (off+R.z) l Q C):Fld2 P off ((t,off) :: l) (rP R Q) (fun x=>B x.1+C x.2)
theorem Fld2.flds {α:Type} {off:Nat} {l:List (TypeId × Nat)} {R:Rep α} {B:α→Nat} (a:Fld2 P off l R B):∀ fs:List Field,fs.map (fun f=>(f.type,f.offset))=l→Flds P off fs R B:=by
 induction a with
 | one hl=>
   intro fs h
   match fs,h with
   | [f],h=>
     simp only[List.map_cons,List.map_nil,List.cons.injEq,Prod.mk.injEq,and_true]at h
     obtain ⟨rfl,rfl⟩:=h
     exact .one rfl hl
 | cons hl hr ih=>
   intro fs h
   cases fs with
   | nil=>cases h
   | cons f fs=>
     simp only[List.map_cons,List.cons.injEq,Prod.mk.injEq]at h
     obtain ⟨⟨rfl,rfl⟩,h2⟩:=h
     exact .cons rfl hl (ih fs h2)
theorem Lays.of {α:Type} {t:TypeId} {l:List (TypeId × Nat)} {R:Rep α} {B:α→Nat} (hf:fldsOf P t=some l) (hz:P.cellsOf t=R.z) (a:Fld2 P 0 l R B):Lays P t R B:=by
 unfold fldsOf at hf
 split at hf
 ·rename_i fs hu
  split at hf
  ·cases hf
   exact .struct hu hz (a.flds _ rfl)
  ·cases hf
 ·cases hf
theorem par_struct {t:TypeId} {l:List (TypeId × Nat)} (hf:fldsOf P t=some l):Par P t true:=by
 unfold fldsOf at hf
 split at hf
 ·rename_i fs hu
  exact ⟨fs,hu⟩
 ·cases hf
theorem rP_flat {α β:Type} {F:FRep α} {G:FRep β} {S:Nat→Prop} {h:DHeap} {cs:List Value} {x:α × β} (a:(rP F.rep G.rep).rd S h cs x):(fP F G).rep.rd S h cs x:=by
 obtain ⟨c1,c2,rfl,⟨rfl,h1⟩,rfl,h2⟩:=a
 exact ⟨rfl,h1,h2⟩
theorem Lays.pair {α β:Type} {t:TypeId} {F:FRep α} {G:FRep β} {C:α × β→Nat} (a:Lays P t (rP F.rep G.rep) C):Lays P t (fP F G).rep C:=a.conv (Q:=(fP F G).rep) rfl id (fun _ _ _ _=>rP_flat) (fun _=>Nat.le_refl _)
end Go.D

namespace Go.Proofs.Ythjmkmoiopmfcaa
open Go.D
set_option maxRecDepth 100000
theorem lay_u8:Lays Try.prog 5 fU8.rep (fun _=>1):=.int (by kernel_rfl) (by kernel_rfl)
theorem lay_i32:Lays Try.prog 21 (fI .i32).rep (fun _=>1):=.int (by kernel_rfl) (by kernel_rfl)
theorem lay_i64:Lays Try.prog 2 fI64.rep (fun _=>1):=.int (by kernel_rfl) (by kernel_rfl)
theorem lay_bytes:Lays Try.prog 22 (rSl fU8.rep) (sumB fun _=>1):=.slice (e:=5) (by kernel_rfl) (by kernel_rfl) (by decide) lay_u8
theorem lay_ints:Lays Try.prog 23 (rSl fI64.rep) (sumB fun _=>1):=.slice (e:=2) (by kernel_rfl) (by kernel_rfl) (by decide) lay_i64
theorem lay_key:Lays Try.prog 44 fKey.rep (fun _=>2):=
 (Lays.of (l:=[(21,0),(2,1)]) (by kernel_rfl) (by kernel_rfl) (.cons lay_i32 (.one lay_i64))).pair.conv (Q:=fKey.rep) rfl (fun x=>⟨x.1,x.2⟩) (fun _ _ _ _ h=>h) (fun _=>Nat.le_refl _)
end Go.Proofs.Ythjmkmoiopmfcaa

namespace Go.D
variable {P:Program} {nt:Nat}
theorem Rt_of {l size:Nat} {tmps:Fr} {assign body:Code} {h:DHeap} {R:DEnd→DHeap→Prop}
 (hx:NC P size assign (fun e s=>(match e with | .normal=>True | _=>False)∧∃ d,s.h.get l=some (.loop d)∧d.state=.ready ∧
   NC P size body (XRoundPost l R) ⟨s.fr,s.df,s.h.set l (.loop { d with state:=.busy,pending:=d.pending }),s.rd⟩) ⟨tmps,[],h,some l⟩):Rt P l size tmps assign body h R:=by
 intro n ι w tmps' e f s he hsh hf
 refine roundIn_of_wpIn trivial ?_
 refine wpIn_mono (hx n (some e.block) ι { tmps:=tmps',defers:=[] } w ⟨hf,trivial,s,e,he,hsh,rfl⟩) fun ex1 a1 w1 ⟨ι1,e1,s1,⟨hn1,d1,hg1,hst,hb⟩,h1,g1,g2,g3⟩=>?_
 cases e1 with
 | normal=>
   cases ex1 with
   | normal=>
     have he1:=g3.le l e he
     obtain ⟨_,_,lp,hlp,hlr⟩:=g2.sim.loopAt he1 hg1
     obtain ⟨k1,k2⟩:=g2.sim.setLoop he1 hg1 hlp hlr .busy d1.pending
     have hbr:=run_beginRound (P:=P) hlp (hlr.state.trans hst)
     have hpend:lp.pending=d1.pending:=hlr.pending
     rw[show ({ lp with state:=LoopState.busy }:Loop)={ lp with state:=.busy,pending:=d1.pending } by rw[← hpend]]at hbr
     refine ⟨_,hbr,?_⟩
     refine wpIn_mono (hb n (some e.block) ι1 a1 _ ⟨g2.fr,g2.df,k1,g2.rd⟩) fun ex2 a2 w2 ⟨ι2,e2,s2,⟨d2,hg2,hq⟩,h2,m1,m2,m3⟩=>?_
     have he2:=m3.le l e he1
     obtain ⟨_,_,lp2,hlp2,hlr2⟩:=m2.sim.loopAt he2 hg2
     have hh:HStep h s2.h:=h1.trans ((HStep.set _ _ _).trans h2)
     have fin:∀ (v:Bool) (st:LoopState) (pe:Option Code),(pe.isNone=v)→((if v then LoopState.ready else .done)=st)→R (.ret (.bool v)) (s2.h.set l (.loop { d2 with state:=st,pending:=pe })) →
      ∃ u w',(Instr.endRound e.block pe).run P w2=.ok u w'∧∃ ι' r h',R r h'∧HStep h h'∧EndRel ι' r (.returned u)∧Sim ι' h' w'∧Step ι ι' h h' w w':=by
      intro v st pe hpe hst2 hR
      obtain ⟨q1,q2⟩:=m2.sim.setLoop he2 hg2 hlp2 hlr2 st pe
      refine ⟨.bool v,_,?_,ι2,_,_,hR,hh.trans (HStep.set _ _ _),.bool v,q1,g3.trans (k2.trans (m3.trans q2))⟩
      have:=run_endRound (P:=P) pe hlp2
      rw[this,hpe,hst2]
     cases e2 with
     | normal=>
       cases ex2 with
       | normal=>exact fin true .ready none rfl rfl hq
       | _=>exact m1.elim
     | ret=>
       cases ex2 with
       | ret=>exact fin false .done (some .ret) rfl rfl hq
       | _=>exact m1.elim
     | exit id=>
       cases ex2 with
       | exit id'=>
         have:id'=id:=m1
         subst this
         exact fin false .done (some (.exit id')) rfl rfl hq
       | _=>exact m1.elim
     | pan v=>exact hq.elim
   | _=>exact g1.elim
 | _=>exact hn1.elim
theorem NC.range_aux {g:Operand} {ps:Array Tmp} {assign body:Code} {Q:DExit→St→Prop} {s:St} {fv:Value} {l:Nat} {df:List DDef} {h1:DHeap} {f:FuncId} {args:List Value}
 (hg:evalF s.h.ng s.fr g=some fv) (hh:HStep s.h h1)
 (henter:∀ (r:Option Nat) (ι:Inj) (a:Act) (w:World) (fn:FuncId),SRel nt ι s r a w→∃ (ι1:Inj) (e:Ent) (mark:List Deferred) (w1:World),(Instr.enterLoop fn a.tmps ps assign body r).run P w=.ok (e.block,mark) w1 ∧
   ι1 l=some e∧e.shift=0∧Sim ι1 h1 w1∧Step ι ι1 s.h h1 w w1∧DefRel ι1 df (mark++a.defers))
 (ht:dTarget P fv [.func (.yield l) #[] #[]] h1=some (.enter f args)) {R:DEnd→DHeap→Prop}
 (hc:Ct P f args h1 R) (hx:∀ r h2,R r h2→XRangePost l s.fr df s.rd Q r h2):NC P nt (.rangeFunc g ps assign body) Q s:=by
 intro n rr ι a w hs
 refine wpIn_rangeFunc fun fn _=>?_
 obtain ⟨ι1,eb,mark,w1,he,hl,hsh,s1,st1,hd1⟩:=henter rr ι a w fn hs
 have hfv:VRel ι fv (a.eval g):=evalF_rel (P:=P) hs.sim (a:=a) (ops:=#[]) (o:=⟨none,.move g,0,"",#[],none⟩) (fun t _ u hu=>hs.fr.2 t u hu) g (by simp[Op.operands]) _ hg
 have hy:LRel ι1 [.func (.yield l) #[] #[]] (#[.func (.yield eb.block) #[] #[]]:Array Value).toList:=(LRel.nil ι1).cons (.yield hl hsh)
 obtain ⟨d,x',hd,hinv,hn,hdd⟩:=dTarget_ok ht s1 (hfv.mono st1.le) hy
 cases x' with
 | enter f' args'=>
   obtain ⟨rfl,hargs,_⟩:=hn
   refine ⟨eb.block,mark,w1,d,w1,f',args',w1,he,?_,fun _ _=>trivial,hinv,fun hh=>absurd hh (by simp[FW]),?_⟩
   ·simpa [resolve,rangeCall,Act.eval] using hd
   ·refine CallsIn.mono (hc (n - 1) ι1 w1 args' s1 hargs) fun en w2 ⟨ι2,r,h2,hR,hh2,k1,k2,k3⟩=>?_
    have hp:=hx r h2 hR
    have hl2:=k3.le l eb hl
    have hfr:=(hs.fr.mono st1.le).mono k3.le
    have hdf:=hd1.mono k3.le
    have hrd:=(hs.rd.mono st1.le).mono k3.le
    have hst:=st1.trans k3
    cases r with
    | pan v=>
      cases en with
      | panicked ch=>exact ⟨ι2,.pan v,_,hp,hh.trans hh2,k1,⟨hfr,hdf,k2,hrd⟩,hst⟩
      | _=>exact k1.elim
    | ret v=>
      cases en with
      | returned v'=>
        obtain ⟨d,hgd,hbusy,hq⟩:=hp
        obtain ⟨_,_,lp,hlp,hlr⟩:=k2.loopAt hl2 hgd
        obtain ⟨q1,q2⟩:=k2.setLoop hl2 hgd hlp hlr .exhausted d.pending
        have hend:=run_endLoop (P:=P) hlp (by rw[hlr.state];exact hbusy)
        rw[hlr.pending]at hend
        refine ⟨d.pending,_,hend,?_⟩
        have fin:∀ (e:DExit) ex,Q e ⟨s.fr,df,h2.set l (.loop { d with state:=.exhausted,pending:=d.pending }),s.rd⟩→ExitRel ι2 e ex →
         ∃ ι' e s',Q e s'∧HStep s.h s'.h∧ExitRel ι' e ex∧SRel nt ι' s' rr { a with defers:=mark++a.defers } (w2.putObj eb.block (.loop { lp with state:=.exhausted,pending:=d.pending }))∧Step ι ι' s.h s'.h w (w2.putObj eb.block (.loop { lp with state:=.exhausted,pending:=d.pending })):=
         fun e ex hq hex=>⟨ι2,e,_,hq,hh.trans (hh2.trans (HStep.set _ _ _)),hex,⟨hfr,hdf,q1,hrd⟩,hst.trans q2⟩
        cases hpe:d.pending with
        | none=>
          rw[hpe]at hq fin
          exact fin .normal _ hq trivial
        | some c=>
          rw[hpe]at hq fin
          cases c with
          | ret=>exact wpIn_ret (fin .ret _ hq trivial)
          | exit id=>exact wpIn_exit (fin (.exit id) _ hq rfl)
          | _=>exact hq.elim
      | _=>exact k1.elim
 | _=>exact hn.elim
theorem NC.range {g:Operand} {ps:Array Tmp} {assign body:Code} {Q:DExit→St→Prop} {s:St} {fv:Value} {f:FuncId} {args:List Value} {h1:DHeap}
 (hrd:s.rd=none) (hg:evalF s.h.ng s.fr g=some fv) (hh1:h1=(s.h.push (.marks true)).push (.loop ⟨nt,s.fr,ps,assign,body,s.h.next,.ready,none⟩))
 (ht:dTarget P fv [.func (.yield (s.h.next+1)) #[] #[]] h1=some (.enter f args)) {R:DEnd→DHeap→Prop}
 (hc:Ct P f args h1 R) (hx:∀ r h2,R r h2→XRangePost (s.h.next+1) s.fr (.mark s.h.next :: s.df) s.rd Q r h2):NC P nt (.rangeFunc g ps assign body) Q s:=by
 subst hh1
 refine NC.range_aux hg ((HStep.push _ _).trans (HStep.push _ _)) (fun r ι a w fn hs=>?_) ht hc hx
 have hr:r=none:=by
  have:=hs.rd
  rw[hrd]at this
  cases r with
  | none=>rfl
  | some _=>exact this.elim
 subst hr
 obtain ⟨a1,a2⟩:=hs.sim.alloc (.marks true) (.deferred (some [])) ⟨w.heap.size,0,0,0,false⟩ rfl ⟨rfl,rfl,World.alloc_heap_new _ _⟩
 have hsz:(w.alloc (.deferred (some []))).heap.size=w.heap.size+1:=World.size_alloc _ _
 have hm:(ι.upd s.h.next ⟨w.heap.size,0,0,0,false⟩) s.h.next=some ⟨w.heap.size,0,0,0,false⟩:=Inj.upd_same _ _ _
 obtain ⟨b1,b2⟩:=a1.alloc (.loop ⟨nt,s.fr,ps,assign,body,s.h.next,.ready,none⟩) (.loop { state:=.ready,pending:=none,fn,tmps:=a.tmps,params:=ps,assign,body,defers:=w.heap.size })
  ⟨w.heap.size+1,0,0,0,false⟩ hsz.symm ⟨rfl,rfl,_,by rw[← hsz];exact World.alloc_heap_new _ _,
   ⟨(hs.fr.mono a2.le).mono (Inj.upd_le a1.fresh),rfl,rfl,rfl,rfl,rfl,⟨w.heap.size,0,0,0,false⟩,Inj.upd_le a1.fresh _ _ hm,rfl,rfl⟩⟩
 refine ⟨_,⟨w.heap.size+1,0,0,0,false⟩,_,_,run_enterLoop_outer fn a.tmps ps assign body,?_,rfl,b1,a2.trans b2,?_⟩
 ·exact Inj.upd_same _ _ _
 ·exact ⟨⟨_,b2.le _ _ hm,rfl,rfl⟩,(hs.df.mono a2.le).mono b2.le⟩
theorem NC.strip {c c0:Code} {Q:DExit→St→Prop} {s:St} (hs:Go.D.strip c0=c) (hk:codeOK nt c=true) (h:xs P nt c Q s):NC P nt c0 Q s:=by
 subst hs
 exact xs_sound c0 Q s (by rw[← codeOK_strip];exact hk) h
theorem XLv_mark {rs:List ResultVar} {fr:Fr} {R:DEnd→DHeap→Prop} {id:Nat} {ds:List DDef} {m:DMode} {h:DHeap} (hm:h.get id=some (.marks true)) (hx:XLv P rs fr R ds m (h.set id (.marks false))):XLv P rs fr R (.mark id :: ds) m h:=⟨hm,hx⟩
end Go.D

namespace Go.D
variable {P:Program} {α:Type} {R:Rep α} {S:Nat→Prop} {h:DHeap} {v:Value} {l:List α} {t:TypeId}
theorem bound_nat {k:IntKind} {n d y:Nat} (h:n≤y):boundOf (some (.int k (n:Int))) d y=some n:=by
 simp only[boundOf]
 rw[if_pos (by omega)]
 rfl
theorem min_i64 {ts:Array TypeId} {ty:TypeId} {a b:Int}:dBuiltin P .min ts ty h (some [.int .i64 a,.int .i64 b])=.ok (.value (.int .i64 (min a b))) h:=by
 have hq:quick P (Builtin.min_ ts ty #[.int .i64 a,.int .i64 b])=some (.inr (.int .i64 (min a b))):=by
  have e:min a b=if b<a then b else a:=by
   by_cases h:b<a
   ·rw[if_pos h];omega
   ·rw[if_neg h];omega
  rw[e]
  rfl
 have hf:([Value.int .i64 a,.int .i64 b].all flat3)=true:=rfl
 rw[dBuiltin_min,if_pos hf]
 simp only[dval,hq]
 rfl
end Go.D

namespace Go.D
variable {P:Program} {nt:Nat}
structure Rng (hB:DHeap) (D:DLoop) (ids:Nat→Prop) (K:DHeap):Prop where
 old:∀ j,j<hB.next→¬ ids j→K.get j=hB.get j
 nx:hB.next+2≤K.next
 ng:K.ng=hB.ng
 mrk:K.get hB.next=some (.marks true)
 lp:K.get (hB.next+1)=some (.loop D)
section
variable {hB K K':DHeap} {D D':DLoop} {ids:Nat→Prop} {o:DObj} {id:Nat}
theorem Rng.start (hB:DHeap) (D:DLoop) (ids:Nat→Prop):Rng hB D ids ((hB.push (.marks true)).push (.loop D)):=
 ⟨fun j hj _=>by rw[get_push_other _ _ (by rw[next_push];omega),get_push_other _ _ hj],Nat.le_refl _,rfl,get_p1,get_push_same _ _⟩
theorem Rng.ext (r:Rng hB D ids K) (e:Ext K K'):Rng hB D ids K':=
 ⟨fun j hj hi=>(e.get j (by have:=r.nx;omega)).trans (r.old j hj hi),Nat.le_trans r.nx e.next,e.ng.trans r.ng,(e.get _ (by have:=r.nx;omega)).trans r.mrk,(e.get _ (by have:=r.nx;omega)).trans r.lp⟩
theorem Rng.set (r:Rng hB D ids K) (hi:ids id) (hid:id<hB.next):Rng hB D ids (K.set id o):=
 ⟨fun j hj hij=>(get_set_other _ _ (by intro hh;subst hh;exact hij hi)).trans (r.old j hj hij),r.nx,r.ng,(get_set_other _ _ (by omega)).trans r.mrk,(get_set_other _ _ (by omega)).trans r.lp⟩
theorem Rng.push (r:Rng hB D ids K) (o:DObj):Rng hB D ids (K.push o):=r.ext (Ext.push1 _ _)
theorem Rng.loop (r:Rng hB D ids K) (D':DLoop):Rng hB D' ids (K.set (hB.next+1) (.loop D')):=
 ⟨fun j hj hij=>(get_set_other _ _ (by omega)).trans (r.old j hj hij),r.nx,r.ng,(get_set_other _ _ (by omega)).trans r.mrk,get_set_same _ _⟩
theorem Rng.keep (r:Rng hB D ids K) (hn:K.next≤K'.next) (hg:K'.ng=K.ng) (h:∀ j,j<hB.next+2→K'.get j=K.get j):Rng hB D ids K':=
 ⟨fun j hj hi=>(h j (by omega)).trans (r.old j hj hi),Nat.le_trans r.nx hn,hg.trans r.ng,(h _ (by omega)).trans r.mrk,(h _ (by omega)).trans r.lp⟩
theorem Rng.below {h:DHeap} (r:Rng hB D ids K) (e:Ext h hB) (hi:∀ j,ids j→h.next≤j):Ext h K:=
 ⟨Nat.le_trans e.next (by have:=r.nx;omega),r.ng.trans e.ng,fun j hj=>(r.old j (Nat.lt_of_lt_of_le hj e.next) (fun hh=>by have:=hi j hh;omega)).trans (e.get j hj)⟩
end
theorem Rt_walk {l size:Nat} {tmps:Fr} {fa fb sa sb:Code} {h:DHeap} {R:DEnd→DHeap→Prop} (ta:Go.D.strip fa=sa) (tb:Go.D.strip fb=sb) (ka:codeOK size sa=true) (kb:codeOK size sb=true)
 (hx:xs P size sa (DThen (fun s=>∃ d,s.h.get l=some (.loop d)∧d.state=.ready∧xs P size sb (XRoundPost l R) ⟨s.fr,s.df,s.h.set l (.loop { d with state:=.busy,pending:=d.pending }),s.rd⟩) fun _ _=>False) ⟨tmps,[],h,some l⟩) :
 Rt P l size tmps fa fb h R:=by
 refine Rt_of (NC.strip ta ka (xs_mono _ _ (fun e s hq=>?_) hx))
 cases e with
 | normal=>
   obtain ⟨d,e1,e2,e3⟩:=hq
   exact ⟨trivial,d,e1,e2,NC.strip tb kb e3⟩
 | _=>exact hq.elim
theorem NC.range_yields {g:Operand} {ps:Array Tmp} {assign body:Code} {Q:DExit→St→Prop} {s:St} {fv:Value} {f:FuncId} {args:List Value} {A B:DHeap→Prop}
 (hrd:s.rd=none) (hg:evalF s.h.ng s.fr g=some fv)
 (ht:∀ K,dTarget P fv [.func (.yield (s.h.next+1)) #[] #[]] K=some (.enter f args))
 (hc:Ct P f args ((s.h.push (.marks true)).push (.loop ⟨nt,s.fr,ps,assign,body,s.h.next,.ready,none⟩)) fun r H=>(∃ v,r=.ret v)∧(A H∨B H))
 (hA:∀ H,A H→H.get (s.h.next+1)=some (.loop ⟨nt,s.fr,ps,assign,body,s.h.next,.ready,none⟩)∧Q .normal ⟨s.fr,.mark s.h.next :: s.df,H.set (s.h.next+1) (.loop ⟨nt,s.fr,ps,assign,body,s.h.next,.exhausted,none⟩),s.rd⟩)
 (hB:∀ H,B H→H.get (s.h.next+1)=some (.loop ⟨nt,s.fr,ps,assign,body,s.h.next,.done,some .ret⟩)∧Q .ret ⟨s.fr,.mark s.h.next :: s.df,H.set (s.h.next+1) (.loop ⟨nt,s.fr,ps,assign,body,s.h.next,.exhausted,some .ret⟩),s.rd⟩) :
 NC P nt (.rangeFunc g ps assign body) Q s:=by
 refine NC.range hrd hg rfl (ht _) hc fun r H hr=>?_
 obtain ⟨⟨v,rfl⟩,hr | hr⟩:=hr
 ·obtain ⟨a,b⟩:=hA H hr
  exact ⟨_,a,by simp,b⟩
 ·obtain ⟨a,b⟩:=hB H hr
  exact ⟨_,a,by simp,b⟩
theorem dTarget_func {f:FuncId} (hg:goodFn P f=true) (first cap:Array Value) (vs:List Value) (h:DHeap):dTarget P (.func (.func f) first cap) vs h=some (.enter f (first.toList++vs++cap.toList)):=by
 simp[dTarget,hg]
end Go.D

namespace Go.D
variable {P:Program} {nt:Nat}
def NOne (P:Program) (ops:Array Oper) (o:Oper) (s:St) (K:St→Prop) (Q:DExit→St→Prop):Prop:=
 match dWanted ops s.fr o with
 | none=>False
 | some false=>K ⟨s.fr.put o.dst undef,s.df,s.h,s.rd⟩
 | some true=>NNext P o s (dOp P (evalF s.h.ng s.fr) o s.h) K Q
theorem NOne_sound {ops:Array Oper} (hd:dstsOK nt ops=true) {k:Nat} {o:Oper} (ho:ops[k]? = some o) {s:St} {K:St→Prop} {Q:DExit→St→Prop} (h:NOne P ops o s K Q)
 {n:Nat} {r:Option Nat} {ι:Inj} {a:Act} {w:World} {Qc:Exit→Act→World→Prop} {Kw:Act→World→Prop} (hs:SRel nt ι s r a w)
 (hK:∀ ι' s' a' w',K s'→HStep s.h s'.h→SRel nt ι' s' r a' w'→Step ι ι' s.h s'.h w w'→Kw a' w')
 (hQ:∀ ι' e s' ex a' w',Q e s'→HStep s.h s'.h→ExitRel ι' e ex→SRel nt ι' s' r a' w'→Step ι ι' s.h s'.h w w'→Qc ex a' w'):wpOpIn (FW r) n P ops Qc k Kw a w:=by
 have hdo:∀ d,o.dst=some d→d<nt:=fun d h=>dstsOK_spec hd k o d ho h
 have one:XOps P ops [o] s (fun e s'=>match e with | .normal=>K s' | e=>Q e s')→wpOpIn (FW r) n P ops Qc k Kw a w:=by
  intro hx
  have hw0:=hx
  simp only[XOps]at hx
  have fin:∀ (v:Value) (h1:DHeap),Ex P ops o s.fr s.h (.ret v) h1→isDefer o.op=false→K ⟨s.fr.put o.dst v,s.df,h1,s.rd⟩→wpOpIn (FW r) n P ops Qc k Kw a w:=by
   intro v h1 hex hnd hh
   refine Ex_sound hex ho hnd hs.sim hs.fr.1 (dstsOK_spec hd) (fun t _ u hu=>hs.fr.2 t u hu) (fun u hu ι' v' w' hv s1 st=>?_) (fun u hu=>by cases hu)
   cases hu
   exact hK ι' _ _ w' hh (Ex_hstep hex) ⟨put_rel (r:=r) (w:=w) (hs.fr.mono st.le) hdo hv,by rw[put_defers];exact hs.df.mono st.le,s1,hs.rd.mono st.le⟩ st
  have finp:∀ (v:Value) (h1:DHeap),Ex P ops o s.fr s.h (.pan v) h1→isDefer o.op=false→Q (.pan v) ⟨s.fr,s.df,h1,s.rd⟩→wpOpIn (FW r) n P ops Qc k Kw a w:=by
   intro v h1 hex hnd hh
   refine Ex_sound hex ho hnd hs.sim hs.fr.1 (dstsOK_spec hd) (fun t _ u hu=>hs.fr.2 t u hu) (fun u hu=>by cases hu) (fun u hu ι' v' w' hv s1 st=>?_)
   cases hu
   exact hQ ι' _ ⟨s.fr,s.df,h1,s.rd⟩ _ a w' hh (Ex_hstep hex) ⟨v',rfl,hv⟩ ⟨hs.fr.mono st.le,hs.df.mono st.le,s1,hs.rd.mono st.le⟩ st
  cases hw:dWanted ops s.fr o with
  | none=>rw[hw]at hx;exact hx.elim
  | some b=>
    rw[hw]at hx
    cases b with
    | false=>
      simp only[XOps]at hx
      unfold wpOpIn
      rw[ho]
      have hw':=wanted_rel hs.fr.1 (dstsOK_spec hd) (fun t _ u hu=>hs.fr.2 t u hu) hw
      simp only[hw',Bool.false_eq_true,if_false]
      exact ⟨fun _ _=>trivial,hK ι _ _ w hx (.refl _) ⟨put_rel (r:=r) (w:=w) hs.fr hdo (undef_rel ι),by rw[put_defers];exact hs.df,hs.sim,hs.rd⟩ (Step.refl ι _ w)⟩
    | true=>
      simp only at hx
      have hexd:∀ r h1,(match dOp P (evalF s.h.ng s.fr) o s.h with
       | .ok (.value v) h1'=>r=.ret v∧h1=h1'
       | .ok .skip h1'=>r=.ret undef∧h1=h1'
       | .ok (.enter f args) h1'=>DC P f args h1' r h1
       | .ok (.round l size tmps assign body) h1'=>DRd P l size tmps assign body h1' r h1
       | .pan v h1'=>r=.pan v∧h1=h1'
       | _=>False)→Ex P ops o s.fr s.h r h1:=by
       intro r h1 hh;unfold Ex;rw[hw];exact hh
      have hnd:∀ x h1,dOp P (evalF s.h.ng s.fr) o s.h=.ok x h1→(∀ f gs,x≠.defer f gs)→isDefer o.op=false:=by
       intro x h1 hop hne
       cases hod:o.op with
       | defer c=>
         exfalso
         unfold dOp at hop
         rw[hod]at hop
         simp only at hop
         repeat' split at hop
         all_goals first
          | (cases hop;done)
          | (cases hop;exact hne _ _ rfl)
       | _=>rfl
      cases hop:dOp P (evalF s.h.ng s.fr) o s.h with
      | bad=>rw[hop]at hx;exact hx.elim
      | pan v h1=>
        rw[hop]at hx
        refine finp v h1 (hexd _ _ (by rw[hop];exact ⟨rfl,rfl⟩)) ?_ hx
        cases hod:o.op with
        | defer c=>
          exfalso
          unfold dOp at hop
          rw[hod]at hop
          simp only at hop
          repeat' split at hop
          all_goals cases hop
        | _=>rfl
      | ok x h1=>
        rw[hop]at hx
        cases x with
        | value v=>exact fin v h1 (hexd _ _ (by rw[hop];exact ⟨rfl,rfl⟩)) (hnd _ _ hop (by simp)) hx
        | skip=>exact fin undef h1 (hexd _ _ (by rw[hop];exact ⟨rfl,rfl⟩)) (hnd _ _ hop (by simp)) hx
        | enter f args=>
          obtain ⟨r0,h2,hdc,hx⟩:=hx
          have hex:=hexd r0 h2 (by rw[hop];exact hdc)
          cases r0 with
          | ret v=>exact fin v h2 hex (hnd _ _ hop (by simp)) hx
          | pan v=>exact finp v h2 hex (hnd _ _ hop (by simp)) hx
        | round l size tmps assign body=>
          obtain ⟨r0,h2,hdc,hx⟩:=hx
          have hex:=hexd r0 h2 (by rw[hop];exact hdc)
          cases r0 with
          | ret v=>exact fin v h2 hex (hnd _ _ hop (by simp)) hx
          | pan v=>exact finp v h2 hex (hnd _ _ hop (by simp)) hx
        | recover=>exact hx.elim
        | pick l=>exact hx.elim
        | defer f args=>
          obtain ⟨hrd,hx⟩:=hx
          have hr:r=none:=by
           have:=hs.rd
           rw[hrd]at this
           cases r with
           | none=>rfl
           | some _=>exact this.elim
          subst hr
          unfold wpOpIn
          rw[ho]
          have hw':=wanted_rel hs.fr.1 (dstsOK_spec hd) (fun t _ u hu=>hs.fr.2 t u hu) hw
          simp only[hw',if_true]
          refine ⟨fun _ _=>trivial,?_⟩
          have hsem:o.semAt (FW none).round a.eval=execOp a.eval o:=rfl
          rw[hsem]
          obtain ⟨ι1,w1,x',hrun,hn,s1,st⟩:=dOp_ok hop hs.sim (evalF_rel (P:=P) hs.sim (a:=a) (ops:=ops) (fun t _ u hu=>hs.fr.2 t u hu))
          rw[hrun]
          cases x' with
          | defer d=>
            rw[Oper.uponIn_defer]
            obtain ⟨hg,cap,dargs,rfl,hargs⟩:=hn
            refine hK ι1 _ _ w1 hx (dOp_hstep hop) ⟨?_,?_,s1,hs.rd.mono st.le⟩ st
            ·exact put_rel (r:=none) (w:=w) (a:={ a with defers:={ target:=.fn (.func f) cap,args:=dargs } :: a.defers }) (hs.fr.mono st.le) hdo (undef_rel _)
            ·rw[put_defers]
             exact ⟨⟨cap,dargs,rfl,hargs⟩,hs.df.mono st.le⟩
          | _=>exact hn.elim
 unfold NOne at h
 cases hw:dWanted ops s.fr o with
 | none=>rw[hw]at h;exact h.elim
 | some b=>
   rw[hw]at h
   cases b with
   | false=>exact one (by simp only[XOps,hw];exact h)
   | true=>
     simp only at h
     by_cases hpk:∃ l h1,dOp P (evalF s.h.ng s.fr) o s.h=.ok (.pick l) h1
     ·obtain ⟨l,h1,hop⟩:=hpk
      rw[hop]at h
      obtain ⟨y,v,_,_,hnx⟩:=dOp_isPick hop
      refine pick_sound hw hop ho hs.sim hs.fr.1 (dstsOK_spec hd) (fun t _ u hu=>hs.fr.2 t u hu) fun p hp v' w' hv s1 st=>?_
      exact hK ι _ _ w' (h p hp) ((dNext_h hnx).2 p hp) ⟨put_rel (r:=r) (w:=w) hs.fr hdo hv,by rw[put_defers];exact hs.df,s1,hs.rd⟩ st
     by_cases hent:∃ f args h1,dOp P (evalF s.h.ng s.fr) o s.h=.ok (.enter f args) h1
     ·obtain ⟨f,args,h1,hop⟩:=hent
      rw[hop]at h
      obtain ⟨R,hct,hall⟩:=h
      have hnd:isDefer o.op=false:=by
       cases hod:o.op with
       | defer c=>
         exfalso
         unfold dOp at hop
         rw[hod]at hop
         simp only at hop
         repeat' split at hop
         all_goals cases hop
       | _=>rfl
      unfold wpOpIn
      rw[ho]
      have hw':=wanted_rel hs.fr.1 (dstsOK_spec hd) (fun t _ u hu=>hs.fr.2 t u hu) hw
      simp only[hw',if_true]
      refine ⟨fun _ _=>trivial,?_⟩
      have hsem:o.semAt (FW r).round a.eval=execOp a.eval o:=Oper.semAt_eq _ _ _ fun c hc=>by rw[hc]at hnd;cases hnd
      rw[hsem]
      obtain ⟨ι1,w1,x',hrun,hn,s1,st⟩:=dOp_ok hop hs.sim (evalF_rel (P:=P) hs.sim (a:=a) (ops:=ops) (fun t _ u hu=>hs.fr.2 t u hu))
      rw[hrun]
      cases x' with
      | enter f' args'=>
        obtain ⟨rfl,hargs,_⟩:=hn
        rw[Oper.uponIn_enter]
        refine ⟨fun hh=>absurd hh (by simp[FW]),?_⟩
        have hc:CallsIn (FW r) (n - 1) P f' args' w1 fun e w'=>∃ ι' r h',R r h'∧HStep h1 h'∧EndRel ι' r e∧Sim ι' h' w'∧Step ι1 ι' h1 h' w1 w':=hct (n - 1) ι1 w1 args' s1 hargs
        refine CallsIn.mono hc fun e w2 ⟨ι2,r2,h2,hR,hh2,he,s2,st2⟩=>?_
        have hx:=hall r2 h2 hR
        cases r2 with
        | ret v=>
          cases e with
          | returned v'=>
            exact hK ι2 _ _ w2 hx ((dOp_hstep hop).trans hh2) ⟨put_rel (r:=r) (w:=w) ((hs.fr.mono st.le).mono st2.le) hdo he,by rw[put_defers];exact (hs.df.mono st.le).mono st2.le,s2,(hs.rd.mono st.le).mono st2.le⟩ (st.trans st2)
          | _=>exact he.elim
        | pan v=>
          cases e with
          | panicked ch=>
            obtain ⟨v',rfl,hv⟩:=he
            exact hQ ι2 _ ⟨s.fr,s.df,h2,s.rd⟩ _ a w2 hx ((dOp_hstep hop).trans hh2) ⟨v',rfl,hv⟩ ⟨(hs.fr.mono st.le).mono st2.le,(hs.df.mono st.le).mono st2.le,s2,(hs.rd.mono st.le).mono st2.le⟩ (st.trans st2)
          | _=>exact he.elim
      | _=>exact hn.elim
     ·by_cases hrnd:∃ l size tmps x y h1,dOp P (evalF s.h.ng s.fr) o s.h=.ok (.round l size tmps x y) h1
      ·obtain ⟨lid,size,tmps,cx,cy,h1,hop⟩:=hrnd
       rw[hop]at h
       obtain ⟨R,hct,hall⟩:=h
       have hnd:isDefer o.op=false:=by
        cases hod:o.op with
        | defer c=>
          exfalso
          unfold dOp at hop
          rw[hod]at hop
          simp only at hop
          repeat' split at hop
          all_goals cases hop
        | _=>rfl
       unfold wpOpIn
       rw[ho]
       have hw':=wanted_rel hs.fr.1 (dstsOK_spec hd) (fun t _ u hu=>hs.fr.2 t u hu) hw
       simp only[hw',if_true]
       refine ⟨fun _ _=>trivial,?_⟩
       have hsem:o.semAt (FW r).round a.eval=execOp a.eval o:=Oper.semAt_eq _ _ _ fun c hc=>by rw[hc]at hnd;cases hnd
       rw[hsem]
       obtain ⟨ι1,w1,x',hrun,hn,s1,st⟩:=dOp_ok hop hs.sim (evalF_rel (P:=P) hs.sim (a:=a) (ops:=ops) (fun t _ u hu=>hs.fr.2 t u hu))
       rw[hrun]
       cases x' with
       | round l' f' tmps' assign' body'=>
         obtain ⟨⟨e0,he0,hsh,rfl⟩,hargs,rfl,rfl⟩:=hn
         rw[Oper.uponIn_round]
         refine ⟨fun hh=>absurd hh (by simp[FW]),?_⟩
         have hc:RoundIn (FW r) (n - 1) P e0.block f' tmps' assign' body' w1 fun e w'=>∃ ι' r h',R r h'∧HStep h1 h'∧EndRel ι' r e∧Sim ι' h' w'∧Step ι1 ι' h1 h' w1 w':=hct (n - 1) ι1 w1 tmps' e0 f' s1 he0 hsh hargs
         refine RoundIn.mono hc fun e w2 ⟨ι2,r2,h2,hR,hh2,he,s2,st2⟩=>?_
         have hx:=hall r2 h2 hR
         cases r2 with
         | ret v=>
           cases e with
           | returned v'=>
             exact hK ι2 _ _ w2 hx ((dOp_hstep hop).trans hh2) ⟨put_rel (r:=r) (w:=w) ((hs.fr.mono st.le).mono st2.le) hdo he,by rw[put_defers];exact (hs.df.mono st.le).mono st2.le,s2,(hs.rd.mono st.le).mono st2.le⟩ (st.trans st2)
           | _=>exact he.elim
         | pan v=>
           cases e with
           | panicked ch=>
             obtain ⟨v',rfl,hv⟩:=he
             exact hQ ι2 _ ⟨s.fr,s.df,h2,s.rd⟩ _ a w2 hx ((dOp_hstep hop).trans hh2) ⟨v',rfl,hv⟩ ⟨(hs.fr.mono st.le).mono st2.le,(hs.df.mono st.le).mono st2.le,s2,(hs.rd.mono st.le).mono st2.le⟩ (st.trans st2)
           | _=>exact he.elim
       | _=>exact hn.elim
      ·refine one ?_
       simp only[XOps,hw]
       generalize hop:dOp P (evalF s.h.ng s.fr) o s.h=x at h hent hrnd hpk
       cases x with
       | ok y h1=>
         cases y with
         | enter f args=>exact absurd ⟨f,args,h1,rfl⟩ hent
         | value v=>exact h
         | skip=>exact h
         | defer f gs=>exact h
         | round l z t a b=>exact absurd ⟨l,z,t,a,b,h1,rfl⟩ hrnd
         | recover=>exact h
         | pick l=>exact absurd ⟨l,h1,rfl⟩ hpk
       | pan v h1=>exact h
       | bad=>exact h
theorem NC.any {id:Nat} {ops:Array Oper} {Q:DExit→St→Prop} {s:St} (hmix:P.follows .mixedOrders=true) (hd:dstsOK nt ops=true)
 (hlow:∀ (i:Nat) o,ops[i]? = some o→∀ p∈preds o,p<i)
 (I:(Nat→Bool)→St→Prop) (h0:I (fun _=>false) s)
 (hstep:∀ (L:Nat→Bool) (s:St) (i:Nat) (o:Oper),I L s→ops[i]? = some o→L i=false→(∀ p∈preds o,L p=true)→NOne P ops o s (I fun j=>if j=i then true else L j) Q)
 (hfin:∀ (L:Nat→Bool) (s:St),I L s→(∀ i,i<ops.size→L i=true)→Q .normal s):NC P nt (.region id ops true) Q s:=by
 intro n r ι0 a0 w0 hs0
 refine wpIn_region_any hmix ?_
 have key:∀ (fuel:Nat) (L:Array Bool) (s':St) (ι:Inj) (a:Act) (w:World),unwaited L ops.size≤fuel→L.size=ops.size→I (fun j=>L.getD j false) s'→HStep s.h s'.h→SRel nt ι s' r a w→Step ι0 ι s.h s'.h w0 w →
  wpAnyIn (FW r) n P .any ops (fun ex a' w'=>∃ ι' e s',Q e s'∧HStep s.h s'.h∧ExitRel ι' e ex∧SRel nt ι' s' r a' w'∧Step ι0 ι' s.h s'.h w0 w') fuel L a w:=by
  have fin:∀ (L:Array Bool) (s':St) (ι:Inj) (a:Act) (w:World),L.size=ops.size→I (fun j=>L.getD j false) s'→HStep s.h s'.h→SRel nt ι s' r a w→Step ι0 ι s.h s'.h w0 w→Region.ready .any ops L=[] →
   ∃ ι' e s',Q e s'∧HStep s.h s'.h∧ExitRel ι' e .normal∧SRel nt ι' s' r a w∧Step ι0 ι' s.h s'.h w0 w:=by
   intro L s' ι a w hL hI hh hs hst hr
   have hfull:∀ i,i<ops.size→L.getD i false=true:=by
    intro i
    induction i using Nat.strongRecOn with
    | _ i ih=>
      intro hi
      cases hLi:L.getD i false with
      | true=>rfl
      | false=>
        exfalso
        have:i∈Region.ready .any ops L:=mem_ready.2 ⟨by rw[getD_ft (by rw[hL];exact hi)];exact hLi,ops[i],Array.getElem?_eq_getElem hi,fun e he hb=>?_⟩
        ·rw[hr]at this;cases this
        ·have hpm:e.on∈preds ops[i]:=List.mem_filterMap.2 ⟨e,by simpa using he,by rw[if_pos hb]⟩
         have hlt:=hlow i _ (Array.getElem?_eq_getElem hi) _ hpm
         exact ih e.on hlt (by omega)
   exact ⟨ι,.normal,s',hfin _ _ hI hfull,hh,trivial,hs,hst⟩
  intro fuel
  induction fuel with
  | zero=>
    intro L s' ι a w hu hL hI hh hs hst
    have hr:Region.ready .any ops L=[]:=by
     rw[List.eq_nil_iff_forall_not_mem]
     intro i hi
     obtain ⟨h1,o,h2,_⟩:=mem_ready.1 hi
     have:=unwaited_zero (l:=L) ops.size (by omega) i (Array.getElem?_eq_some_iff.1 h2).1
     rw[h1]at this;cases this
    exact ⟨hr,fin L s' ι a w hL hI hh hs hst hr⟩
  | succ fuel ih=>
    intro L s' ι a w hu hL hI hh hs hst
    refine ⟨fin L s' ι a w hL hI hh hs hst,fun i hi=>?_⟩
    obtain ⟨h1,o,ho,h2⟩:=mem_ready.1 hi
    have his:i<ops.size:=(Array.getElem?_eq_some_iff.1 ho).1
    have hiL:i<L.size:=by rw[hL];exact his
    have hn:L.getD i false=false:=by rw[← getD_ft hiL];exact h1
    have hp:∀ p∈preds o,L.getD p false=true:=by
     intro p hp
     obtain ⟨e,he,hh⟩:=List.mem_filterMap.1 hp
     split at hh
     ·rename_i hb;cases hh;exact h2 e (by simpa using he) hb
     ·cases hh
    have hun:=unwaited_set hiL h1 ops.size
    rw[if_pos his]at hun
    refine NOne_sound hd ho (hstep _ s' i o hI ho hn hp) hs (fun ι' s2 a' w' hI2 g1 g2 g3=>?_) (fun ι' e s2 ex a' w' hq g1 g2 g3 g4=>⟨ι',e,s2,hq,hh.trans g1,g2,g3,hst.trans g4⟩)
    refine ih _ s2 ι' a' w' (by omega) (by simpa using hL) ?_ (hh.trans g1) g2 (hst.trans g3)
    have:(fun j=>(L.setIfInBounds i true).getD j false)=fun j=>if j=i then true else L.getD j false:=by
     funext j
     exact getD_set_b hiL
    rw[this]
    exact hI2
 have hg:∀ j,(Array.replicate ops.size false).getD j false=false:=by
  intro j;simp only[Array.getD_eq_getD_getElem?,Array.getElem?_replicate];split <;> rfl
 refine key ops.size _ s ι0 a0 _ ?_ (by simp) ?_ (.refl _) ⟨hs0.fr,hs0.df,hs0.sim.drew _,hs0.rd⟩ (Step.drew ι0 s.h w0 _ (Nat.le_succ _))
 ·have:∀ k,k≤ops.size→unwaited (Array.replicate ops.size false) k≤k:=by
   intro k;induction k with
   | zero=>intro _;exact Nat.le_refl _
   | succ k ih=>intro hk;have:=ih (Nat.le_of_lt hk);simp only[unwaited];split <;> omega
  exact this _ (Nat.le_refl _)
 ·have:(fun j=>(Array.replicate ops.size false).getD j false)=fun _=>false:=by funext j;exact hg j
  rw[this]
  exact h0
def lowOK (ops:Array Oper):Bool:=(List.range ops.size).all fun i=>match ops[i]? with | some o=>(preds o).all (fun p=>decide (p<i)) | none=>true
theorem lowOK_spec {ops:Array Oper} (h:lowOK ops=true):∀ (i:Nat) o,ops[i]? = some o→∀ p∈preds o,p<i:=by
 intro i o ho p hp
 have hi:=(Array.getElem?_eq_some_iff.1 ho).1
 have:=List.all_eq_true.1 h i (List.mem_range.2 hi)
 rw[ho]at this
 simpa using List.all_eq_true.1 this p hp
theorem NC.anyF {id:Nat} {ops:Array Oper} {b:List Nat} {Q:DExit→St→Prop} {s:St} (hmix:P.follows .mixedOrders=true) (hd:dstsOK nt ops=true) (hlow:lowOK ops=true) (hb:befs ops.toList []=b)
 (G:St→Prop) (F:Nat→St→Prop) (h0:G s)
 (hstep:∀ (i:Nat) (o:Oper) (s:St),ops[i]? = some o→G s→(∀ j,(b.getD i 0).testBit j=true→F j s) →
   NOne P ops o s (fun s'=>G s'∧F i s'∧∀ j,j<ops.size→j≠i→(b.getD j 0).testBit i=false→F j s→F j s') Q)
 (hfin:∀ s,G s→(∀ i,i<ops.size→F i s)→Q .normal s):NC P nt (.region id ops true) Q s:=by
 subst hb
 refine NC.any hmix hd (lowOK_spec hlow) (fun L s=>G s∧(∀ i,L i=true→i<ops.size)∧(∀ (i:Nat) o,L i=true→ops[i]? = some o→∀ p∈preds o,L p=true)∧∀ i,L i=true→F i s) ⟨h0,by simp,by simp,by simp⟩ ?_ (fun L s hI hall=>hfin s hI.1 fun i hi=>hI.2.2.2 i (hall i hi))
 rintro L s i o ⟨hG,hsz,hdn,hF⟩ ho hn hp
 have hi:=(Array.getElem?_eq_some_iff.1 ho).1
 have hcl:∀ (k:Nat) o,ops[k]? = some o→(∀ p∈preds o,L p=true)→∀ j,((befs ops.toList []).getD k 0).testBit j=true→L j=true:=fun k o ho hp j hj=>
  bef_closed (D:=fun j=>L j=true) (fun i o hi ho p hp=>hdn i o hi ho p hp) k o ho hp j hj
 have hx:=hstep i o s ho hG fun j hj=>hF j (hcl i o ho hp j hj)
 have fin:∀ s',(G s'∧F i s'∧∀ j,j<ops.size→j≠i→((befs ops.toList []).getD j 0).testBit i=false→F j s→F j s') →
  (G s'∧(∀ j,(if j=i then true else L j)=true→j<ops.size)∧(∀ (j:Nat) o,(if j=i then true else L j)=true→ops[j]? = some o→∀ p∈preds o,(if p=i then true else L p)=true)∧∀ j,(if j=i then true else L j)=true→F j s'):=by
  rintro s' ⟨g,f,st⟩
  refine ⟨g,fun j hj=>?_,fun j oj hj hoj p hpm=>?_,fun j hj=>?_⟩
  ·by_cases hji:j=i
   ·rw[hji];exact hi
   ·rw[if_neg hji]at hj;exact hsz j hj
  ·by_cases hpi:p=i
   ·rw[if_pos hpi]
   ·rw[if_neg hpi]
    by_cases hji:j=i
    ·subst hji;rw[ho]at hoj;cases hoj;exact hp p hpm
    ·rw[if_neg hji]at hj;exact hdn j oj hj hoj p hpm
  ·by_cases hji:j=i
   ·rw[hji];exact f
   ·rw[if_neg hji]at hj
    refine st j (hsz j hj) hji ?_ (hF j hj)
    cases hbit:((befs ops.toList []).getD j 0).testBit i with
    | false=>rfl
    | true=>
      have hjs:=hsz j hj
      have hoj:=Array.getElem?_eq_getElem hjs
      have:=hcl j _ hoj (hdn j _ hj hoj) i hbit
      rw[hn]at this
      cases this
 unfold NOne at hx ⊢
 cases hw:dWanted ops s.fr o with
 | none=>rw[hw]at hx;exact hx.elim
 | some bb=>
   rw[hw]at hx
   cases bb with
   | false=>exact fin _ hx
   | true=>exact NNext_mono fin (fun _ _ h=>h) hx
section
variable {ops:Array Oper} {o:Oper} {s:St} {K:St→Prop} {Q:DExit→St→Prop} {v:Value} {h':DHeap}
theorem NOne_val (hw:dWanted ops s.fr o=some true) (hop:dOp P (evalF s.h.ng s.fr) o s.h=.ok (.value v) h') (hK:K ⟨s.fr.put o.dst v,s.df,h',s.rd⟩):NOne P ops o s K Q:=by
 unfold NOne
 rw[hw,hop]
 exact hK
theorem NOne_skip (hw:dWanted ops s.fr o=some true) (hop:dOp P (evalF s.h.ng s.fr) o s.h=.ok .skip h') (hK:K ⟨s.fr.put o.dst undef,s.df,h',s.rd⟩):NOne P ops o s K Q:=by
 unfold NOne
 rw[hw,hop]
 exact hK
end
theorem NOne_strip (ops:Array Oper) (o:Oper) (s:St) (K:St→Prop) (Q:DExit→St→Prop):NOne P (ops.map stripO) (stripO o) s K Q=NOne P ops o s K Q:=by
 unfold NOne
 rw[dWanted_strip,dOp_strip]
 rfl
theorem NC.anyL {id:Nat} {ops:Array Oper} {l:List Oper} {b:List Nat} {Q:DExit→St→Prop} {s:St} (hmix:P.follows .mixedOrders=true) (hd:dstsOK nt ops=true) (hlow:lowOK ops=true) (hb:befs ops.toList []=b) (hl:ops.map stripO=l.toArray)
 (G:St→Prop) (F:Nat→St→Prop) (h0:G s)
 (hstep:∀ (i:Nat) (o:Oper) (s:St),l[i]? = some o→G s→(∀ j,(b.getD i 0).testBit j=true→F j s) →
   NOne P l.toArray o s (fun s'=>G s'∧F i s'∧∀ j,j<l.length→j≠i→(b.getD j 0).testBit i=false→F j s→F j s') Q)
 (hfin:∀ s,G s→(∀ i,i<l.length→F i s)→Q .normal s):NC P nt (.region id ops true) Q s:=by
 have hsz:ops.size=l.length:=by
  have:=congrArg Array.size hl
  simpa using this
 refine NC.anyF hmix hd hlow hb G F h0 (fun i o s ho g hF=>?_) (fun s g hF=>hfin s g fun i hi=>hF i (by omega))
 have ho':l[i]? = some (stripO o):=by
  have:=congrArg (fun a:Array Oper=>a[i]?) hl
  simp only[Array.getElem?_map,ho,Option.map_some]at this
  simpa using this.symm
 have:=hstep i (stripO o) s ho' g hF
 rw[← hl,NOne_strip]at this
 rw[hsz]
 exact this
end Go.D

namespace Go.D
variable {P:Program}
end Go.D

namespace Go.D
variable {P:Program} {nt:Nat}
def dstOf (l:List Oper) (i:Nat):Option Tmp:=(l[i]?).bind (·.dst)
def isDst (l:List Oper) (t:Tmp):Bool:=l.any fun o=>o.dst==some t
def ownDsts:List Oper→Bool
 | []=>true
 | o :: l=>o.dst.isSome&&!(l.any fun p=>p.dst==o.dst)&&ownDsts l
theorem ownDsts_ne:∀ {l:List Oper},ownDsts l=true→∀ {i j:Nat} {a b:Oper},l[i]? = some a→l[j]? = some b→i≠j→a.dst≠b.dst
 | [],_,i,_,_,_,h,_,_=>by cases i <;> cases h
 | o :: l,hd,i,j,a,b,ha,hb,hij=>by
   simp only[ownDsts,Bool.and_eq_true,Bool.not_eq_true']at hd
   obtain ⟨⟨h1,h2⟩,h3⟩:=hd
   have hno:∀ {k:Nat} {c:Oper},l[k]? = some c→c.dst≠o.dst:=fun {k c} hc hcd=>by
    have:=List.any_eq_false.1 h2 c (List.mem_of_getElem? hc)
    simp[hcd]at this
   match i,j with
   | 0,0=>exact absurd rfl hij
   | 0,j+1=>cases ha;exact fun e=>hno (by simpa using hb) e.symm
   | i+1,0=>cases hb;exact hno (by simpa using ha)
   | i+1,j+1=>exact ownDsts_ne h3 (i:=i) (j:=j) (by simpa using ha) (by simpa using hb) (by omega)
theorem ownDsts_some:∀ {l:List Oper},ownDsts l=true→∀ {i:Nat} {a:Oper},l[i]? = some a→∃ d,a.dst=some d
 | [],_,i,_,h=>by cases i <;> cases h
 | o :: l,hd,i,a,ha=>by
   simp only[ownDsts,Bool.and_eq_true,Bool.not_eq_true']at hd
   match i with
   | 0=>cases ha;exact Option.isSome_iff_exists.1 hd.1.1
   | i+1=>exact ownDsts_some hd.2 (by simpa using ha)
def ValAt (l:List Oper) (V:Nat→DHeap→Value→Prop) (i:Nat) (s:St):Prop:=∃ d v,dstOf l i=some d∧s.fr d=some v∧V i s.h v
structure ValG (l:List Oper) (s0 s:St):Prop where
 df:s.df=s0.df
 rd:s.rd=s0.rd
 ext:Ext s0.h s.h
 fr:∀ t,isDst l t=false→s.fr t=s0.fr t
def ValK (V:Nat→DHeap→Value→Prop) (i:Nat) (o:Oper) (s s':St):Prop:=∃ v h',s'=⟨s.fr.put o.dst v,s.df,h',s.rd⟩∧Ext s.h h'∧V i h' v
theorem NC.vals {id:Nat} {ops:Array Oper} {l:List Oper} {b:List Nat} {Q:DExit→St→Prop} {s0:St} (hmix:P.follows .mixedOrders=true) (hd:dstsOK nt ops=true) (hlow:lowOK ops=true) (hb:befs ops.toList []=b) (hl:ops.map stripO=l.toArray) (hown:ownDsts l=true)
 (V:Nat→DHeap→Value→Prop) (hmono:∀ i h h' v,Ext h h'→V i h v→V i h' v)
 (hstep:∀ (i:Nat) (o:Oper) (s:St),l[i]? = some o→ValG l s0 s→(∀ j,(b.getD i 0).testBit j=true→ValAt l V j s)→NOne P l.toArray o s (ValK V i o s) Q)
 (hfin:∀ s,ValG l s0 s→(∀ i,i<l.length→ValAt l V i s)→Q .normal s):NC P nt (.region id ops true) Q s0:=by
 refine NC.anyL hmix hd hlow hb hl (ValG l s0) (ValAt l V) ⟨rfl,rfl,.refl _,fun _ _=>rfl⟩ (fun i o s ho g hF=>?_) hfin
 obtain ⟨d,hod⟩:=ownDsts_some hown ho
 have fin:∀ s',ValK V i o s s'→ValG l s0 s'∧ValAt l V i s'∧∀ j,j<l.length→j≠i→(b.getD j 0).testBit i=false→ValAt l V j s→ValAt l V j s':=by
  rintro _ ⟨v,h',rfl,he,hv⟩
  refine ⟨⟨g.df,g.rd,g.ext.trans he,fun t ht=>?_⟩,⟨d,v,by simp[dstOf,ho,hod],by rw[hod];exact put_same _ _ _,hv⟩,fun j hj hji _ hf=>?_⟩
  ·have:t≠d:=fun e=>by
    have hc:isDst l t=true:=List.any_eq_true.2 ⟨o,List.mem_of_getElem? ho,by rw[hod,e];simp⟩
    rw[ht]at hc;cases hc
   show s.fr.put o.dst v t=_
   rw[hod,put_other _ _ this]
   exact g.fr t ht
  ·obtain ⟨dj,u,e1,e2,e3⟩:=hf
   have hoj:l[j]? = some l[j]:=List.getElem?_eq_getElem hj
   have e1':l[j].dst=some dj:=by simpa [dstOf,hoj] using e1
   have:dj≠d:=fun e=>ownDsts_ne hown hoj ho hji (by rw[e1',hod,e])
   refine ⟨dj,u,e1,?_,hmono _ _ _ _ he e3⟩
   show s.fr.put o.dst v dj=_
   rw[hod,put_other _ _ this]
   exact e2
 have hx:=hstep i o s ho g hF
 unfold NOne at hx ⊢
 cases hw:dWanted l.toArray s.fr o with
 | none=>rw[hw]at hx;exact hx.elim
 | some bb=>
   rw[hw]at hx
   cases bb with
   | false=>exact fin _ hx
   | true=>exact NNext_mono fin (fun _ _ h=>h) hx
theorem ValAt.eq {l:List Oper} {V:Nat→DHeap→Value→Prop} {i:Nat} {s:St} {d:Tmp} {c:Value} (a:ValAt l V i s) (hd:dstOf l i=some d) (hc:∀ h v,V i h v→v=c):s.fr d=some c:=by
 obtain ⟨d',v,e1,e2,e3⟩:=a
 rw[hd]at e1
 cases e1
 rw[e2,hc _ _ e3]
theorem ValAt.ex {l:List Oper} {V:Nat→DHeap→Value→Prop} {i:Nat} {s:St} {d:Tmp} (a:ValAt l V i s) (hd:dstOf l i=some d):∃ v,s.fr d=some v∧V i s.h v:=by
 obtain ⟨d',v,e1,e2,e3⟩:=a
 rw[hd]at e1
 cases e1
 exact ⟨v,e2,e3⟩
section
variable {ops:Array Oper} {o:Oper} {s:St} {V:Nat→DHeap→Value→Prop} {i:Nat} {Q:DExit→St→Prop} {v:Value} {h':DHeap}
end
theorem NC.known {id:Nat} {ops:Array Oper} {l:List Oper} {b:List Nat} {Q:DExit→St→Prop} {s0:St} (L:List Value) (hmix:P.follows .mixedOrders=true) (hd:dstsOK nt ops=true) (hlow:lowOK ops=true) (hb:befs ops.toList []=b) (hl:ops.map stripO=l.toArray) (hown:ownDsts l=true)
 (hstep:∀ (i:Nat) (o:Oper) (s:St),l[i]? = some o→ValG l s0 s→(∀ j,(b.getD i 0).testBit j=true→ValAt l (fun i _ v=>v=L.getD i undef) j s)→NOne P l.toArray o s (ValK (fun i _ v=>v=L.getD i undef) i o s) Q)
 (hfin:∀ s,ValG l s0 s→(∀ i,i<l.length→ValAt l (fun i _ v=>v=L.getD i undef) i s)→Q .normal s):NC P nt (.region id ops true) Q s0:=
 NC.vals hmix hd hlow hb hl hown _ (fun _ _ _ _ _ h=>h) hstep hfin
theorem setAt_mid (A:List Value):∀ (vs B:List Value) (k:Nat),setAt (A++B) (A.length+k) vs=A++setAt B k vs
 | [],B,k=>rfl
 | v :: vs,B,k=>by
   simp only[setAt]
   rw[List.set_append_right _ _ (Nat.le_add_right _ _),Nat.add_sub_cancel_left,Nat.add_assoc]
   exact setAt_mid A vs (B.set k v) (k+1)
end Go.D

namespace Go.D
variable {P:Program} {nt:Nat}
def onceDsts:List Oper→Bool
 | []=>true
 | o :: l=>(o.dst.isNone||!(l.any fun p=>p.dst==o.dst))&&onceDsts l
theorem onceDsts_ne:∀ {l:List Oper},onceDsts l=true→∀ {i j:Nat} {a b:Oper} {t:Tmp},l[i]? = some a→l[j]? = some b→a.dst=some t→b.dst=some t→i=j
 | [],_,i,_,_,_,_,h,_,_,_=>by cases i <;> cases h
 | o :: l,hd,i,j,a,b,t,ha,hb,h1,h2=>by
   simp only[onceDsts,Bool.and_eq_true,Bool.or_eq_true,Bool.not_eq_true']at hd
   obtain ⟨h3,h4⟩:=hd
   have hno:∀ {k:Nat} {c:Oper},l[k]? = some c→o.dst=some t→c.dst=some t→False:=fun {k c} hc ho hct=>by
    rcases h3 with h3 | h3
    ·rw[ho]at h3;cases h3
    ·have:=List.any_eq_false.1 h3 c (List.mem_of_getElem? hc)
     simp[hct,ho]at this
   match i,j with
   | 0,0=>rfl
   | 0,j+1=>cases ha;exact (hno (by simpa using hb) h1 h2).elim
   | i+1,0=>cases hb;exact (hno (by simpa using ha) h2 h1).elim
   | i+1,j+1=>exact congrArg (·+1) (onceDsts_ne h4 (i:=i) (j:=j) (by simpa using ha) (by simpa using hb) h1 h2)
def RegAt (l:List Oper) (V:Nat→DHeap→Value→Prop) (i:Nat) (s:St):Prop:=∃ v,(∀ d,dstOf l i=some d→s.fr d=some v)∧V i s.h v
structure RegG (l:List Oper) (E:DHeap→DHeap→Prop) (s0 s:St):Prop where
 df:s.df=s0.df
 rd:s.rd=s0.rd
 ext:E s0.h s.h
 fr:∀ t,isDst l t=false→s.fr t=s0.fr t
def RegK (E:DHeap→DHeap→Prop) (V:Nat→DHeap→Value→Prop) (i:Nat) (o:Oper) (s s':St):Prop:=
 ∃ v h',s'=⟨s.fr.put o.dst v,s.df,h',s.rd⟩∧E s.h h'∧V i h' v∧∀ j u,j≠i→V j s.h u→V j h' u
theorem NC.regs {id:Nat} {ops:Array Oper} {l:List Oper} {b:List Nat} {Q:DExit→St→Prop} {s0:St} (hmix:P.follows .mixedOrders=true) (hd:dstsOK nt ops=true) (hlow:lowOK ops=true) (hb:befs ops.toList []=b) (hl:ops.map stripO=l.toArray) (hown:onceDsts l=true)
 (E:DHeap→DHeap→Prop) (hrefl:∀ h,E h h) (htrans:∀ a b c,E a b→E b c→E a c) (V:Nat→DHeap→Value→Prop)
 (hstep:∀ (i:Nat) (o:Oper) (s:St),l[i]? = some o→RegG l E s0 s→(∀ j t,dstOf l j=some t→(b.getD j 0).testBit i=true→s.fr t=s0.fr t)→(∀ t,dstOf l i=some t→s.fr t=s0.fr t)→(∀ j,(b.getD i 0).testBit j=true→RegAt l V j s)→NOne P l.toArray o s (RegK E V i o s) Q)
 (hfin:∀ s,RegG l E s0 s→(∀ i,i<l.length→RegAt l V i s)→Q .normal s):NC P nt (.region id ops true) Q s0:=by
 subst hb
 have hsz:ops.size=l.length:=by
  have:=congrArg Array.size hl
  simpa using this
 have hat:∀ {i:Nat} {o:Oper},ops[i]? = some o→l[i]? = some (stripO o):=fun {i o} ho=>by
  have:=congrArg (fun a:Array Oper=>a[i]?) hl
  simp only[Array.getElem?_map,ho,Option.map_some]at this
  simpa using this.symm
 refine NC.any hmix hd (lowOK_spec hlow) (fun L s=>RegG l E s0 s∧(∀ i,L i=true→i<ops.size)∧(∀ (i:Nat) o,L i=true→ops[i]? = some o→∀ p∈preds o,L p=true)∧(∀ i,L i=true→RegAt l V i s)∧∀ j t,dstOf l j=some t→L j=false→s.fr t=s0.fr t)
  ⟨⟨rfl,rfl,hrefl _,fun _ _=>rfl⟩,by simp,by simp,by simp,fun _ _ _ _=>rfl⟩ ?_ (fun L s hI hall=>hfin s hI.1 fun i hi=>hI.2.2.2.1 i (hall i (by omega)))
 rintro L s i o ⟨hG,hsz',hdn,hF,hpre⟩ ho hn hp
 have hi:=(Array.getElem?_eq_some_iff.1 ho).1
 have hcl:∀ (k:Nat) o,ops[k]? = some o→(∀ p∈preds o,L p=true)→∀ j,((befs ops.toList []).getD k 0).testBit j=true→L j=true:=fun k o ho hp j hj=>
  bef_closed (D:=fun j=>L j=true) (fun i o hi ho p hp=>hdn i o hi ho p hp) k o ho hp j hj
 have hx:=hstep i (stripO o) s (hat ho) hG (fun j t hj hbit=>hpre j t hj (by
  cases hL:L j with
  | false=>rfl
  | true=>
    have hjs:=hsz' j hL
    have hoj:=Array.getElem?_eq_getElem hjs
    have:=hcl j _ hoj (hdn j _ hL hoj) i hbit
    rw[hn]at this
    cases this)) (fun t ht=>hpre i t ht hn) fun j hj=>hF j (hcl i o ho hp j hj)
 have fin:∀ s',RegK E V i (stripO o) s s' →
  (RegG l E s0 s'∧(∀ j,(if j=i then true else L j)=true→j<ops.size)∧(∀ (j:Nat) o,(if j=i then true else L j)=true→ops[j]? = some o→∀ p∈preds o,(if p=i then true else L p)=true)∧(∀ j,(if j=i then true else L j)=true→RegAt l V j s')∧∀ j t,dstOf l j=some t→(if j=i then true else L j)=false→s'.fr t=s0.fr t):=by
  rintro _ ⟨v,h',rfl,he,hv,hst⟩
  have hdst:dstOf l i=o.dst:=by simp[dstOf,hat ho,stripO]
  have hput:∀ t,o.dst≠some t→s.fr.put o.dst v t=s.fr t:=fun t ht=>by
   cases hod:o.dst with
   | none=>rfl
   | some d=>exact put_other _ _ (fun e=>ht (by rw[hod,e]))
  refine ⟨⟨hG.df,hG.rd,htrans _ _ _ hG.ext he,fun t ht=>?_⟩,fun j hj=>?_,fun j oj hj hoj p hpm=>?_,fun j hj=>?_,fun j t hj hLj=>?_⟩
  ·have:o.dst≠some t:=fun e=>by
    have hc:isDst l t=true:=List.any_eq_true.2 ⟨stripO o,List.mem_of_getElem? (hat ho),by show (o.dst==some t)=true;rw[e];simp⟩
    rw[ht]at hc;cases hc
   exact (hput t this).trans (hG.fr t ht)
  ·by_cases hji:j=i
   ·rw[hji];exact hi
   ·rw[if_neg hji]at hj;exact hsz' j hj
  ·by_cases hpi:p=i
   ·rw[if_pos hpi]
   ·rw[if_neg hpi]
    by_cases hji:j=i
    ·subst hji;rw[ho]at hoj;cases hoj;exact hp p hpm
    ·rw[if_neg hji]at hj;exact hdn j oj hj hoj p hpm
  ·by_cases hji:j=i
   ·subst hji
    refine ⟨v,fun d hd=>?_,hv⟩
    rw[hdst]at hd
    show s.fr.put o.dst v d=_
    rw[hd]
    exact put_same _ _ _
   ·rw[if_neg hji]at hj
    obtain ⟨u,h1,h2⟩:=hF j hj
    refine ⟨u,fun d hd=>?_,hst j u hji h2⟩
    have hne:o.dst≠some d:=fun e=>by
     have hjs:=hsz' j hj
     have hoj:=hat (Array.getElem?_eq_getElem hjs)
     have hd2:(stripO ops[j]).dst=some d:=by simpa [dstOf,hoj] using hd
     exact hji (onceDsts_ne hown hoj (hat ho) hd2 e)
    exact (hput d hne).trans (h1 d hd)
  ·by_cases hji:j=i
   ·rw[if_pos hji]at hLj;cases hLj
   ·rw[if_neg hji]at hLj
    have hne:o.dst≠some t:=fun e=>by
     unfold dstOf at hj
     cases hlj:l[j]? with
     | none=>rw[hlj]at hj;cases hj
     | some oj=>
       rw[hlj]at hj
       exact hji (onceDsts_ne hown hlj (hat ho) (by simpa using hj) e)
    exact (hput t hne).trans (hpre j t hj hLj)
 rw[← hl,NOne_strip]at hx
 unfold NOne at hx ⊢
 cases hw:dWanted ops s.fr o with
 | none=>rw[hw]at hx;exact hx.elim
 | some bb=>
   rw[hw]at hx
   cases bb with
   | false=>exact fin _ hx
   | true=>exact NNext_mono fin (fun _ _ h=>h) hx
theorem RegAt.eq {l:List Oper} {V:Nat→DHeap→Value→Prop} {i:Nat} {s:St} {d:Tmp} {c:Value} (a:RegAt l V i s) (hd:dstOf l i=some d) (hc:∀ h v,V i h v→v=c):s.fr d=some c:=by
 obtain ⟨v,e2,e3⟩:=a
 rw[e2 d hd,hc _ _ e3]
theorem RegAt.ex {l:List Oper} {V:Nat→DHeap→Value→Prop} {i:Nat} {s:St} {d:Tmp} (a:RegAt l V i s) (hd:dstOf l i=some d):∃ v,s.fr d=some v∧V i s.h v:=by
 obtain ⟨v,e2,e3⟩:=a
 exact ⟨v,e2 d hd,e3⟩
theorem RegAt.fact {l:List Oper} {V:Nat→DHeap→Value→Prop} {i:Nat} {s:St} (a:RegAt l V i s):∃ v,V i s.h v:=by
 obtain ⟨v,_,e3⟩:=a
 exact ⟨v,e3⟩
section
variable {ops:Array Oper} {o:Oper} {s:St} {E:DHeap→DHeap→Prop} {V:Nat→DHeap→Value→Prop} {i:Nat} {Q:DExit→St→Prop} {v:Value} {h':DHeap}
theorem reg_pure (hE:∀ h,E h h) (hw:dWanted ops s.fr o=some true) (hop:dOp P (evalF s.h.ng s.fr) o s.h=.ok (.value v) s.h) (hV:V i s.h v):NOne P ops o s (RegK E V i o s) Q:=
 NOne_val hw hop ⟨v,_,rfl,hE _,hV,fun _ _ _ h=>h⟩
theorem reg_store (hw:dWanted ops s.fr o=some true) (hop:dOp P (evalF s.h.ng s.fr) o s.h=.ok .skip h') (he:E s.h h') (hV:V i h' undef) (hst:∀ j u,j≠i→V j s.h u→V j h' u):NOne P ops o s (RegK E V i o s) Q:=
 NOne_skip hw hop ⟨undef,_,rfl,he,hV,hst⟩
end
def arrElem (P:Program) (t:TypeId):Option (Nat × Nat):=
 match P.underlying t with
 | some (.array len e)=>(P.info? e).map fun i=>(len,i.size)
 | _=>none
theorem dIndexAddr_arr {t:TypeId} {len z id o:Nat} {k:IntKind} {i:Int} (h1:arrElem P t=some (len,z)) (h2:0≤i) (h3:i<(len:Int)):dIndexAddr P t (.pointer (some ⟨id,o,none⟩)) (.int k i)=some (.pointer (some ⟨id,o+i.toNat*z,none⟩)):=by
 unfold arrElem at h1
 split at h1
 ·rename_i e e1
  cases e2:P.info? e with
  | none=>rw[e2]at h1;cases h1
  | some inf=>
    rw[e2]at h1
    simp only[Option.map_some,Option.some.injEq,Prod.mk.injEq]at h1
    obtain ⟨rfl,rfl⟩:=h1
    simp only[dIndexAddr,e1,e2]
    rw[if_pos ⟨h2,h3⟩]
 ·cases h1
end Go.D

namespace Go.D
structure Instr where
 pos:Int
 op:Int
 a:Int
 b:Int
 imm:Int
 deriving DecidableEq,Inhabited
def fInstr:FRep Instr:=fM (fP (fI .i64) (fP (fI .i64) (fP (fI .i64) (fP (fI .i64) (fI .i64))))) (fun x=>(x.pos,x.op,x.a,x.b,x.imm)) fun x y h=>by
 cases x;cases y;simp at h;simp[h]
abbrev instrV (x:Instr):Value:=.agg #[.int .i64 x.pos,.int .i64 x.op,.int .i64 x.a,.int .i64 x.b,.int .i64 x.imm]
structure Txn where
 ses:Int
 req:Int
 code:List Int
 args:List Int
 reads:List Key
 writes:List Key
def rTxn:Rep Txn:=rM (rP fI64.rep (rP fI64.rep (rP (rSl fU8.rep) (rP (rSl fI64.rep) (rP (rSl fKey.rep) (rSl fKey.rep)))))) fun x=>(x.ses,x.req,x.code,x.args,x.reads,x.writes)
abbrev txnV (ses req:Int) (vc va vr vw:Value):Value:=.agg #[.int .i64 ses,.int .i64 req,vc,va,vr,vw]
end Go.D

namespace Go.D
end Go.D

namespace Go.D
variable {P:Program} {nt:Nat}
theorem evalAll_congr {ρ ρ':Operand→Option Value}:∀ {l:List Operand},(∀ y∈l,ρ y=ρ' y)→evalAll ρ l=evalAll ρ' l
 | [],_=>rfl
 | x :: l,h=>by
   have ih:=evalAll_congr (l:=l) fun y hy=>h y (List.mem_cons_of_mem _ hy)
   simp only[evalAll,h x List.mem_cons_self,ih]
theorem evalParts_congr {ρ ρ':Operand→Option Value}:∀ {l:List (Nat × Operand)},(∀ y∈l.map (·.2),ρ y=ρ' y)→evalParts ρ l=evalParts ρ' l
 | [],_=>rfl
 | (i,x) :: l,h=>by
   have ih:=evalParts_congr (l:=l) fun y hy=>h y (List.mem_cons_of_mem _ hy)
   have hx:ρ x=ρ' x:=h x List.mem_cons_self
   simp only[evalParts,hx,ih]
theorem evalOpt_congr {ρ ρ':Operand→Option Value} {x:Option Operand} (h:∀ y,x=some y→ρ y=ρ' y):evalOpt ρ x=evalOpt ρ' x:=by
 cases x with
 | none=>rfl
 | some y=>simp only[evalOpt,h y rfl]
theorem dOp_congr {ρ ρ':Operand→Option Value} {o:Oper} {h:DHeap} (hr:∀ y∈o.op.operands,ρ y=ρ' y):dOp P ρ o h=dOp P ρ' o h:=by
 obtain ⟨dst,op,ty,pos,aft,gd⟩:=o
 simp only at hr
 cases op with
 | makeFunc fn first cap=>
   have h1:evalAll ρ first.toList=evalAll ρ' first.toList:=evalAll_congr fun y hy=>hr y (by simp only[Op.operands,Array.mem_append];exact .inl (by simpa using hy))
   have h2:evalAll ρ cap.toList=evalAll ρ' cap.toList:=evalAll_congr fun y hy=>hr y (by simp only[Op.operands,Array.mem_append];exact .inr (by simpa using hy))
   simp only[dOp,h1,h2]
 | build t ps=>
   have h1:evalParts ρ ps.toList=evalParts ρ' ps.toList:=evalParts_congr fun y hy=>hr y (by simpa [Op.operands] using hy)
   simp only[dOp,h1]
 | buildSlice t n ps=>
   have h1:evalParts ρ ps.toList=evalParts ρ' ps.toList:=evalParts_congr fun y hy=>hr y (by simpa [Op.operands] using hy)
   simp only[dOp,h1]
 | slice t x lo hi mx=>
   have h0:ρ x=ρ' x:=hr x (by simp[Op.operands])
   have h1:evalOpt ρ lo=evalOpt ρ' lo:=evalOpt_congr fun y hy=>hr y (by simp[Op.operands,hy])
   have h2:evalOpt ρ hi=evalOpt ρ' hi:=evalOpt_congr fun y hy=>hr y (by simp[Op.operands,hy])
   have h3:evalOpt ρ mx=evalOpt ρ' mx:=evalOpt_congr fun y hy=>hr y (by simp[Op.operands,hy])
   simp only[dOp,h0,h1,h2,h3]
 | call c=>
   obtain ⟨cal,args,ts⟩:=c
   have h1:evalAll ρ args.toList=evalAll ρ' args.toList:=evalAll_congr fun y hy=>hr y (by simp only[Op.operands,Call.operands,Array.mem_append];exact .inr (by simpa using hy))
   cases cal with
   | value f=>
     have h2:ρ f=ρ' f:=hr f (by simp[Op.operands,Call.operands])
     simp only[dOp,h1]
     generalize evalAll ρ' args.toList=x
     cases x with
     | none=>rfl
     | some vs=>simp only[h2]
   | builtin b=>
     simp only[dOp,h1]
     generalize evalAll ρ' args.toList=x
     rcases x with _ | _ | ⟨_,_ | ⟨_,_ | _⟩⟩ <;> cases b <;> rfl
   | _=>
     simp only[dOp,h1]
 | defer c=>
   obtain ⟨cal,args,ts⟩:=c
   have h1:evalAll ρ args.toList=evalAll ρ' args.toList:=evalAll_congr fun y hy=>hr y (by simp only[Op.operands,Call.operands,Array.mem_append];exact .inr (by simpa using hy))
   cases cal with
   | value f=>
     have h2:ρ f=ρ' f:=hr f (by simp[Op.operands,Call.operands])
     simp only[dOp,h1]
     generalize evalAll ρ' args.toList=x
     cases x with
     | none=>rfl
     | some vs=>simp only[h2]
   | _=>simp only[dOp,h1]
 | makeMap t r=>cases r <;> rfl
 | _=>first | rfl | (simp[Op.operands]at hr;simp only[dOp,hr])
theorem evalF_looks {ops:Array Oper} {o:Oper} {fr fr':Fr} {n:Nat} (hl:∀ t∈looks ops o,fr' t=fr t):∀ y∈o.op.operands,evalF n fr' y=evalF n fr y:=by
 intro y hy
 cases y with
 | tmp t=>exact hl t (List.mem_append_left _ (List.mem_filterMap.2 ⟨.tmp t,by simpa using hy,rfl⟩))
 | _=>rfl
theorem dOp_looks {ops:Array Oper} {o:Oper} {fr fr':Fr} {n:Nat} {h:DHeap} (hl:∀ t∈looks ops o,fr' t=fr t):dOp P (evalF n fr') o h=dOp P (evalF n fr) o h:=dOp_congr (evalF_looks hl)
theorem dWanted_looks {ops:Array Oper} {o:Oper} {fr fr':Fr} (hl:∀ t∈looks ops o,fr' t=fr t):dWanted ops fr' o=dWanted ops fr o:=by
 unfold dWanted
 cases hg:o.guard with
 | none=>rfl
 | some g=>
   obtain ⟨j,want⟩:=g
   simp only
   cases hd:(ops[j]?).bind (·.dst) with
   | none=>rfl
   | some d=>
     have:d∈looks ops o:=List.mem_append_right _ (by rw[hg];simp[hd])
     simp only[hl d this]
def lateπ (id0 n:Nat):Nat→Option Nat:=fun j=>if j=id0 then some n else if j<n then some j else none
theorem late_sound {ops:Array Oper} (hd:dstsOK nt ops=true) {k:Nat} {o:Oper} (ho:ops[k]? = some o) {s:St} {zs:List Value} {z id0:Nat} (hw:dWanted ops s.fr o=some true)
 (hop:dOp P (evalF s.h.ng s.fr) o s.h=.ok (.value (.pointer (some ⟨s.h.next,0,none⟩))) (s.h.push (.row zs z false))) (hz:zs.all flat1=true) (hg:s.h.get id0=some (.row zs z false)) (h0:id0<s.h.next) (hdf:s.df=[])
 {n:Nat} {r:Option Nat} {ι:Inj} {a:Act} {w:World} {Qc:Exit→Act→World→Prop} {Kw:Act→World→Prop} (hs:SRel nt ι s r a w) (hu:ι id0=none)
 (hK:∀ ι1 a' w',SRel nt (ι1.via (lateπ id0 s.h.next)) ⟨s.fr.put o.dst (.pointer (some ⟨id0,0,none⟩)),s.df,s.h,s.rd⟩ r a' w'→ι.le (ι1.via (lateπ id0 s.h.next))→ι1 id0=none→Step ι ι1 s.h (s.h.push (.row zs z false)) w w'→Kw a' w'):wpOpIn (FW r) n P ops Qc k Kw a w:=by
 refine NOne_sound hd ho (K:=fun s'=>s'=⟨s.fr.put o.dst (.pointer (some ⟨s.h.next,0,none⟩)),s.df,s.h.push (.row zs z false),s.rd⟩) (Q:=fun _ _=>False) ?_ hs (fun ι1 s' a' w' hs' _ sr st=>?_) (fun _ _ _ _ _ _ hq=>hq.elim)
 ·unfold NOne
  rw[hw,hop]
  rfl
 subst hs'
 have hπι:∀ i e,ι i=some e→lateπ id0 s.h.next i=some i:=fun i e he=>by
  have h1:i≠id0:=fun e2=>by rw[e2,hu]at he;cases he
  have h2:=hs.sim.lt i e he
  unfold lateπ
  rw[if_neg h1,if_pos h2]
 have hnone:ι1 id0=none:=by
  cases he:ι1 id0 with
  | none=>rfl
  | some e=>
    have:=(st.new id0 e he hu).1
    omega
 have hle:ι.le (ι1.via (lateπ id0 s.h.next)):=fun i e he=>Inj.via_of (hπι i e he) (st.le i e he)
 have hself:VRen (lateπ id0 s.h.next) (.pointer (some ⟨id0,0,none⟩)) (.pointer (some ⟨s.h.next,0,none⟩)):=.ptr (by unfold lateπ;rw[if_pos rfl])
 refine hK ι1 a' w' ⟨⟨sr.fr.1,fun t u hu'=>?_⟩,?_,?_,hs.rd.mono hle⟩ hle hnone st
 ·by_cases ht:o.dst=some t
  ·have e1:s.fr.put o.dst (.pointer (some ⟨id0,0,none⟩)) t=some (.pointer (some ⟨id0,0,none⟩)):=by rw[ht];exact put_same _ _ _
   have hu3:=e1.symm.trans hu'
   cases hu3
   exact hself.rel (sr.fr.2 t _ (by show s.fr.put o.dst _ t=_;rw[ht];exact put_same _ _ _))
  ·have e1:∀ v,s.fr.put o.dst v t=s.fr t:=fun v=>by
    cases hod:o.dst with
    | none=>rfl
    | some d=>exact put_other _ _ (fun e=>ht (by rw[hod,e]))
   have hu2:s.fr t=some u:=(e1 _).symm.trans hu'
   exact (VRel.ren_self hπι (hs.fr.2 t u hu2)).rel (sr.fr.2 t u ((e1 _).trans hu2))
 ·have:=sr.df
  simp only at this
  rw[hdf]at this
  show DefRel _ s.df _
  rw[hdf]
  cases hq:a'.defers with
  | nil=>trivial
  | cons x xs=>rw[hq]at this;exact this.elim
 ·refine Sim.ren (h1:=s.h.push (.row zs z false)) ⟨fun j j' i h1 h2=>?_,fun j i h1=>?_,rfl,fun g hg'=>?_,fun j i o1 h1 h2 h3=>?_⟩ sr.sim
  ·unfold lateπ at h1 h2
   split at h1 <;> split at h2
   ·rename_i a b;rw[a,b]
   ·cases h1
    split at h2
    ·cases h2;omega
    ·cases h2
   ·cases h2
    split at h1
    ·cases h1;omega
    ·cases h1
   ·split at h1 <;> split at h2 <;> first | (cases h1;cases h2;rfl) | (cases h1;done) | (cases h2;done)
  ·unfold lateπ at h1
   show j<s.h.next
   split at h1
   ·omega
   ·split at h1
    ·assumption
    ·cases h1
  ·obtain ⟨e,he,_⟩:=hs.sim.glob g hg'
   exact hπι g e he
  ·unfold lateπ at h1
   split at h1
   ·rename_i hj
    cases h1
    rw[get_push_same]at h3
    cases h3
    refine ⟨.row zs z false,by rw[hj];exact hg,rfl,rfl,Nat.le_refl _,fun i v u hv hu'=>?_⟩
    rw[hv]at hu'
    cases hu'
    exact flat1_ren _ (List.all_eq_true.1 hz v (List.mem_of_getElem? hv))
   ·split at h1
    ·rename_i hj hlt
     cases h1
     have h3':s.h.get j=some o1:=(get_push_other _ _ (by omega)).symm.trans h3
     obtain ⟨e,he⟩:=h2
     cases hιj:ι j with
     | none=>
       have:=(st.new j e he hιj).1
       omega
     | some e2=>
       obtain ⟨o2,g2,r2⟩:=hs.sim.obj j e2 hιj
       rw[h3']at g2
       cases g2
       exact ⟨o1,h3',r2.self hπι⟩
    ·cases h1
theorem NC.any2 {id:Nat} {ops:Array Oper} {Q:DExit→St→Prop} {s:St} (hmix:P.follows .mixedOrders=true) (hd:dstsOK nt ops=true)
 (hlow:∀ (i:Nat) o,ops[i]? = some o→∀ p∈preds o,p<i) (g:Nat→Option Nat) (h1:DHeap) (e1:Ext s.h h1) (hg:∀ i x,g i=some x→s.h.next≤x∧x<h1.next) (ginj:∀ i j x,g i=some x→g j=some x→i=j)
 (I:(Nat→Bool)→St→Prop) (h0:I (fun _=>false) ⟨s.fr,s.df,h1,s.rd⟩)
 (hstep:∀ (L:Nat→Bool) (s':St) (i:Nat) (o:Oper),I L s'→ops[i]? = some o→L i=false→(∀ p∈preds o,L p=true) →
   (g i=none∧NOne P ops o s' (fun s2=>HStep s'.h s2.h→I (fun j=>if j=i then true else L j) s2) Q) ∨
   ∃ id0 zs z,g i=some id0∧dWanted ops s'.fr o=some true∧dOp P (evalF s'.h.ng s'.fr) o s'.h=.ok (.value (.pointer (some ⟨s'.h.next,0,none⟩))) (s'.h.push (.row zs z false))∧zs.all flat1=true∧s'.h.get id0=some (.row zs z false)∧s'.df=[] ∧
    I (fun j=>if j=i then true else L j) ⟨s'.fr.put o.dst (.pointer (some ⟨id0,0,none⟩)),s'.df,s'.h,s'.rd⟩)
 (hfin:∀ (L:Nat→Bool) (s:St),I L s→(∀ i,i<ops.size→L i=true)→Q .normal s):NC P nt (.region id ops true) Q s:=by
 intro n r ι0 a0 w0 hs0
 refine wpIn_region_any hmix ?_
 have key:∀ (fuel:Nat) (L:Array Bool) (s':St) (ι:Inj) (a:Act) (w:World),unwaited L ops.size≤fuel→L.size=ops.size→I (fun j=>L.getD j false) s'→HStep h1 s'.h→(∀ i x,g i=some x→L.getD i false=false→ι x=none)→SRel nt ι s' r a w→Step ι0 ι s.h s'.h w0 w →
  wpAnyIn (FW r) n P .any ops (fun ex a' w'=>∃ ι' e s',Q e s'∧HStep s.h s'.h∧ExitRel ι' e ex∧SRel nt ι' s' r a' w'∧Step ι0 ι' s.h s'.h w0 w') fuel L a w:=by
  have hh1:HStep s.h h1:=⟨e1.next,e1.ng⟩
  have fin:∀ (L:Array Bool) (s':St) (ι:Inj) (a:Act) (w:World),L.size=ops.size→I (fun j=>L.getD j false) s'→HStep h1 s'.h→SRel nt ι s' r a w→Step ι0 ι s.h s'.h w0 w→Region.ready .any ops L=[] →
   ∃ ι' e s',Q e s'∧HStep s.h s'.h∧ExitRel ι' e .normal∧SRel nt ι' s' r a w∧Step ι0 ι' s.h s'.h w0 w:=by
   intro L s' ι a w hL hI hh hs hst hr
   have hfull:∀ i,i<ops.size→L.getD i false=true:=by
    intro i
    induction i using Nat.strongRecOn with
    | _ i ih=>
      intro hi
      cases hLi:L.getD i false with
      | true=>rfl
      | false=>
        exfalso
        have:i∈Region.ready .any ops L:=mem_ready.2 ⟨by rw[getD_ft (by rw[hL];exact hi)];exact hLi,ops[i],Array.getElem?_eq_getElem hi,fun e he hb=>?_⟩
        ·rw[hr]at this;cases this
        ·have hpm:e.on∈preds ops[i]:=List.mem_filterMap.2 ⟨e,by simpa using he,by rw[if_pos hb]⟩
         have hlt:=hlow i _ (Array.getElem?_eq_getElem hi) _ hpm
         exact ih e.on hlt (by omega)
   exact ⟨ι,.normal,s',hfin _ _ hI hfull,hh1.trans hh,trivial,hs,hst⟩
  intro fuel
  induction fuel with
  | zero=>
    intro L s' ι a w hu hL hI hh hU hs hst
    have hr:Region.ready .any ops L=[]:=by
     rw[List.eq_nil_iff_forall_not_mem]
     intro i hi
     obtain ⟨h1,o,h2,_⟩:=mem_ready.1 hi
     have:=unwaited_zero (l:=L) ops.size (by omega) i (Array.getElem?_eq_some_iff.1 h2).1
     rw[h1]at this;cases this
    exact ⟨hr,fin L s' ι a w hL hI hh hs hst hr⟩
  | succ fuel ih=>
    intro L s' ι a w hu hL hI hh hU hs hst
    refine ⟨fin L s' ι a w hL hI hh hs hst,fun i hi=>?_⟩
    obtain ⟨h1',o,ho,h2⟩:=mem_ready.1 hi
    have his:i<ops.size:=(Array.getElem?_eq_some_iff.1 ho).1
    have hiL:i<L.size:=by rw[hL];exact his
    have hn:L.getD i false=false:=by rw[← getD_ft hiL];exact h1'
    have hp:∀ p∈preds o,L.getD p false=true:=by
     intro p hp
     obtain ⟨e,he,hh⟩:=List.mem_filterMap.1 hp
     split at hh
     ·rename_i hb;cases hh;exact h2 e (by simpa using he) hb
     ·cases hh
    have hun:=unwaited_set hiL h1' ops.size
    rw[if_pos his]at hun
    have hset:(fun j=>(L.setIfInBounds i true).getD j false)=fun j=>if j=i then true else L.getD j false:=by
     funext j
     exact getD_set_b hiL
    have hsj:∀ j,(L.setIfInBounds i true).getD j false=if j=i then true else L.getD j false:=fun j=>getD_set_b hiL
    rcases hstep _ s' i o hI ho hn hp with ⟨hgi,hone⟩ | ⟨id0,zs,z,hgi,hw,hop,hz,hget,hdf,hI2⟩
    ·refine NOne_sound hd ho hone hs (fun ι' s2 a' w' hI2 g1 g2 g3=>?_) (fun ι' e s2 ex a' w' hq g1 g2 g3 g4=>⟨ι',e,s2,hq,(hh1.trans hh).trans g1,g2,g3,hst.trans g4⟩)
     refine ih _ s2 ι' a' w' (by omega) (by simpa using hL) (by rw[hset];exact hI2 g1) (hh.trans g1) (fun j x hj hLj=>?_) g2 (hst.trans g3)
     rw[hsj]at hLj
     by_cases hji:j=i
     ·rw[if_pos hji]at hLj;cases hLj
     ·rw[if_neg hji]at hLj
      have h4:=hU j x hj hLj
      cases h5:ι' x with
      | none=>rfl
      | some e=>
        have:=(g3.new x e h5 h4).1
        have:=(hg j x hj).2
        have:=hh.next
        omega
    ·have hlt:id0<s'.h.next:=Nat.lt_of_lt_of_le (hg i id0 hgi).2 hh.next
     refine late_sound hd ho hw hop hz hget hlt hdf hs (hU i id0 hgi hn) fun ι1 a' w' sr hle hnone st=>?_
     have st2:=hst.trans st
     have h0n:ι0 s'.h.next=none:=by
      cases h5:ι0 s'.h.next with
      | none=>rfl
      | some e=>
        have:=hs0.sim.lt _ e h5
        have:=hst.next
        omega
     refine ih _ ⟨s'.fr.put o.dst (.pointer (some ⟨id0,0,none⟩)),s'.df,s'.h,s'.rd⟩ _ a' w' (by omega) (by simpa using hL) (by rw[hset];exact hI2) hh (fun j x hj hLj=>?_) sr ⟨Inj.le_trans hst.le hle,fun x e hx1 hx2=>?_,hst.next,hst.ng,st2.os,st2.tape,st2.output,st2.size,st2.frame,st2.drawn⟩
     ·rw[hsj]at hLj
      by_cases hji:j=i
      ·rw[if_pos hji]at hLj;cases hLj
      ·rw[if_neg hji]at hLj
       have h4:=hU j x hj hLj
       have hx0:x≠id0:=fun e=>hji (ginj j i id0 (by rw[← e];exact hj) hgi)
       have hxl:x<s'.h.next:=Nat.lt_of_lt_of_le (hg j x hj).2 hh.next
       have h6:lateπ id0 s'.h.next x=some x:=by
        unfold lateπ
        rw[if_neg hx0,if_pos hxl]
       show (lateπ id0 s'.h.next x).bind ι1=none
       rw[h6]
       show ι1 x=none
       cases h5:ι1 x with
       | none=>rfl
       | some e=>
         have:=(st.new x e h5 h4).1
         omega
     ·obtain ⟨y,hy1,hy2⟩:=Inj.via_some hx1
      unfold lateπ at hy1
      split at hy1
      ·rename_i hxe
       cases hy1
       have:=st2.new _ e hy2 h0n
       exact ⟨by rw[hxe];exact (hg i id0 hgi).1,this.2⟩
      ·split at hy1
       ·cases hy1
        exact st2.new _ e hy2 hx2
       ·cases hy1
 have hgf:∀ j,(Array.replicate ops.size false).getD j false=false:=by
  intro j;simp only[Array.getD_eq_getD_getElem?,Array.getElem?_replicate];split <;> rfl
 have hsim:Sim ι0 h1 w0:=⟨fun x e he=>Nat.lt_of_lt_of_le (hs0.sim.lt x e he) e1.next,hs0.sim.blk,fun x e he=>by
  obtain ⟨o,g1,g2⟩:=hs0.sim.obj x e he
  exact ⟨o,(e1.get x (hs0.sim.lt x e he)).trans g1,g2⟩,fun x y e e' hx hy hne hb=>by
  rw[e1.get x (hs0.sim.lt x e hx),e1.get y (hs0.sim.lt y e' hy)]
  exact hs0.sim.sep x y e e' hx hy hne hb,fun x hx=>hs0.sim.glob x (by rw[e1.ng]at hx;exact hx)⟩
 have hst0:Step ι0 ι0 s.h h1 w0 w0:=⟨Inj.le_refl _,fun x e h2 h3=>(by rw[h2]at h3;cases h3),e1.next,e1.ng,rfl,rfl,rfl,Nat.le_refl _,fun _ _ _=>rfl,Nat.le_refl _⟩
 refine key ops.size _ ⟨s.fr,s.df,h1,s.rd⟩ ι0 a0 _ ?_ (by simp) ?_ (.refl _) (fun i x hx _=>?_) ⟨hs0.fr,hs0.df,hsim.drew _,hs0.rd⟩ (hst0.trans (Step.drew ι0 h1 w0 _ (Nat.le_succ _)))
 ·have:∀ k,k≤ops.size→unwaited (Array.replicate ops.size false) k≤k:=by
   intro k;induction k with
   | zero=>intro _;exact Nat.le_refl _
   | succ k ih=>intro hk;have:=ih (Nat.le_of_lt hk);simp only[unwaited];split <;> omega
  exact this _ (Nat.le_refl _)
 ·have:(fun j=>(Array.replicate ops.size false).getD j false)=fun _=>false:=by funext j;exact hgf j
  rw[this]
  exact h0
 ·cases h5:ι0 x with
  | none=>rfl
  | some e=>
    have:=hs0.sim.lt x e h5
    have:=(hg i x hx).1
    omega
end Go.D

namespace Go.D
variable {P:Program} {nt:Nat}
theorem NC.any2L {id:Nat} {ops:Array Oper} {l:List Oper} {b:List Nat} {Q:DExit→St→Prop} {s:St} (hmix:P.follows .mixedOrders=true) (hd:dstsOK nt ops=true) (hlow:lowOK ops=true) (hb:befs ops.toList []=b) (hl:ops.map stripO=l.toArray)
 (g:Nat→Option Nat) (h1:DHeap) (e1:Ext s.h h1) (hg:∀ i x,g i=some x→s.h.next≤x∧x<h1.next) (ginj:∀ i j x,g i=some x→g j=some x→i=j)
 (I:(Nat→Bool)→St→Prop) (h0:I (fun _=>false) ⟨s.fr,s.df,h1,s.rd⟩)
 (hstep:∀ (L:Nat→Bool) (s':St) (i:Nat) (o:Oper),I L s'→l[i]? = some o→L i=false→(∀ j,(b.getD i 0).testBit j=true→L j=true)→(∀ j,(b.getD j 0).testBit i=true→L j=false) →
   (g i=none∧NOne P l.toArray o s' (fun s2=>HStep s'.h s2.h→I (fun j=>if j=i then true else L j) s2) Q) ∨
   ∃ id0 zs z,g i=some id0∧dWanted l.toArray s'.fr o=some true∧dOp P (evalF s'.h.ng s'.fr) o s'.h=.ok (.value (.pointer (some ⟨s'.h.next,0,none⟩))) (s'.h.push (.row zs z false))∧zs.all flat1=true∧s'.h.get id0=some (.row zs z false)∧s'.df=[] ∧
    I (fun j=>if j=i then true else L j) ⟨s'.fr.put o.dst (.pointer (some ⟨id0,0,none⟩)),s'.df,s'.h,s'.rd⟩)
 (hfin:∀ (L:Nat→Bool) (s:St),I L s→(∀ i,i<l.length→L i=true)→Q .normal s):NC P nt (.region id ops true) Q s:=by
 subst hb
 have hsz:ops.size=l.length:=by
  have:=congrArg Array.size hl
  simpa using this
 have hat:∀ {i:Nat} {o:Oper},ops[i]? = some o→l[i]? = some (stripO o):=fun {i o} ho=>by
  have:=congrArg (fun a:Array Oper=>a[i]?) hl
  simp only[Array.getElem?_map,ho,Option.map_some]at this
  simpa using this.symm
 refine NC.any2 hmix hd (lowOK_spec hlow) g h1 e1 hg ginj (fun L s=>I L s∧(∀ i,L i=true→i<ops.size)∧∀ (i:Nat) o,L i=true→ops[i]? = some o→∀ p∈preds o,L p=true) ⟨h0,by simp,by simp⟩ ?_ (fun L s hI hall=>hfin L s hI.1 fun i hi=>hall i (by omega))
 rintro L s' i o ⟨hI,hsz',hdn⟩ ho hn hp
 have hi:=(Array.getElem?_eq_some_iff.1 ho).1
 have hcl:∀ (k:Nat) o,ops[k]? = some o→(∀ p∈preds o,L p=true)→∀ j,((befs ops.toList []).getD k 0).testBit j=true→L j=true:=fun k o ho hp j hj=>
  bef_closed (D:=fun j=>L j=true) (fun i o hi ho p hp=>hdn i o hi ho p hp) k o ho hp j hj
 have hlate:∀ j,((befs ops.toList []).getD j 0).testBit i=true→L j=false:=fun j hbit=>by
  cases hL:L j with
  | false=>rfl
  | true=>
    have hoj:=Array.getElem?_eq_getElem (hsz' j hL)
    have:=hcl j _ hoj (hdn j _ hL hoj) i hbit
    rw[hn]at this
    cases this
 have hx:=hstep L s' i (stripO o) hI (hat ho) hn (hcl i o ho hp) hlate
 have h2:∀ j,(if j=i then true else L j)=true→j<ops.size:=fun j hj=>by
  by_cases hji:j=i
  ·rw[hji];exact hi
  ·rw[if_neg hji]at hj;exact hsz' j hj
 have h3:∀ (j:Nat) o,(if j=i then true else L j)=true→ops[j]? = some o→∀ p∈preds o,(if p=i then true else L p)=true:=fun j oj hj hoj p hpm=>by
  by_cases hpi:p=i
  ·rw[if_pos hpi]
  ·rw[if_neg hpi]
   by_cases hji:j=i
   ·subst hji;rw[ho]at hoj;cases hoj;exact hp p hpm
   ·rw[if_neg hji]at hj;exact hdn j oj hj hoj p hpm
 rcases hx with ⟨g0,hx⟩ | ⟨id0,zs,z,g0,w,op,hz,hget,hdf,hI2⟩
 ·refine .inl ⟨g0,?_⟩
  rw[← hl,NOne_strip]at hx
  unfold NOne at hx ⊢
  cases hw:dWanted ops s'.fr o with
  | none=>rw[hw]at hx;exact hx.elim
  | some bb=>
    rw[hw]at hx
    cases bb with
    | false=>exact fun hh=>⟨hx hh,h2,h3⟩
    | true=>exact NNext_mono (fun s hs hh=>⟨hs hh,h2,h3⟩) (fun _ _ h=>h) hx
 ·rw[← hl,dWanted_strip]at w
  rw[dOp_strip]at op
  exact .inr ⟨id0,zs,z,g0,w,op,hz,hget,hdf,hI2,h2,h3⟩
inductive YO
 | s (i:Nat) (o:Oper)
 | l (i:Nat) (o:Oper)
 | b (i:Nat) (o:Oper) (st:List Nat)
def YO.i:YO→Nat
 | .s i _ | .l i _ | .b i _ _=>i
def YO.o:YO→Oper
 | .s _ o | .l _ o | .b _ o _=>o
def YO.big:YO→Bool
 | .b ..=>true
 | _=>false
inductive YT
 | no
 | ld (t:TypeId) (p v:Value)
 | gh (id:Nat) (x:Option DObj)
def YS1 (P:Program) (h:DHeap):Option YT→Prop
 | some .no=>True
 | some (.ld t p v)=>dLoad P t p h=some v
 | some (.gh id x)=>h.get id=x
 | none=>False
def YSt (P:Program) (tr:List YT) (h:DHeap):List Nat→Prop
 | []=>True
 | k :: ks=>YS1 P h tr[k]?∧YSt P tr h ks
theorem YSt_mem {tr:List YT} {h:DHeap}:∀ {ks:List Nat} {k:Nat},YSt P tr h ks→k∈ks→YS1 P h tr[k]?
 | k' :: ks,k,⟨h1,h2⟩,hm=>by
   rcases List.mem_cons.1 hm with e | e
   ·rw[e];exact h1
   ·exact YSt_mem h2 e
def YD (P:Program) (ops:Array Oper) (Q:DExit→St→Prop):List YO→St→List YT→Prop
 | [],s,_=>Q .normal s
 | .s _ o :: r,s,tr=>
   match dWanted ops s.fr o with
   | none=>False
   | some false=>YD P ops Q r ⟨s.fr.put o.dst undef,s.df,s.h,s.rd⟩ tr
   | some true=>
     match dOp P (evalF s.h.ng s.fr) o s.h with
     | .ok (.value v) _=>YD P ops Q r ⟨s.fr.put o.dst v,s.df,s.h,s.rd⟩ tr
     | _=>False
 | .l _ o :: r,s,tr=>
   match dWanted ops s.fr o with
   | none=>False
   | some false=>YD P ops Q r ⟨s.fr.put o.dst undef,s.df,s.h,s.rd⟩ (tr++[.no])
   | some true=>
     match o.op with
     | .load t a=>
       match evalF s.h.ng s.fr a with
       | some p=>
         match dLoad P t p s.h with
         | some v=>YD P ops Q r ⟨s.fr.put o.dst v,s.df,s.h,s.rd⟩ (tr++[.ld t p v])
         | none=>False
       | none=>False
     | _=>False
 | .b _ o st :: r,s,tr=>
   match dWanted ops s.fr o with
   | none=>False
   | some false=>YD P ops Q r ⟨s.fr.put o.dst undef,s.df,s.h,s.rd⟩ tr
   | some true=>
     match dOp P (evalF s.h.ng s.fr) o s.h with
     | .ok (.value v) h=>YSt P tr h st∧YD P ops Q r ⟨s.fr.put o.dst v,s.df,h,s.rd⟩ tr
     | .ok .skip h=>YSt P tr h st∧YD P ops Q r ⟨s.fr.put o.dst undef,s.df,h,s.rd⟩ tr
     | .ok (.enter f args) h=>∃ R,Ct P f args h R∧∀ rr h',R rr h'→match rr with
       | .ret v=>YSt P tr h' st∧YD P ops Q r ⟨s.fr.put o.dst v,s.df,h',s.rd⟩ tr
       | .pan _=>False
     | _=>False
def YG (P:Program) (K:St→List YT→Prop):List (Nat × Tmp × TypeId)→St→List YT→Prop
 | [],s,tr=>K s tr
 | (_,d,t) :: r,s,tr=>
   match dAlloc P t s.h with
   | some (v,h)=>YG P K r ⟨s.fr.put (some d) v,s.df,h,s.rd⟩ (tr++[.gh s.h.next (h.get s.h.next)])
   | none=>False
def recsOf (gs:List (Nat × Tmp × TypeId)) (pre:List YO):List Nat:=gs.map (·.1)++pre.filterMap fun | .l i _=>some i | _=>none
def yckOne (P:Program) (b:List Nat) (gs:List (Nat × Tmp × TypeId)) (pre:List YO) (y:YO):Bool:=
 (!(b.getD y.i 0).testBit y.i)&&pre.all (fun x=>!(b.getD x.i 0).testBit y.i)&&pre.all (fun x=>!x.big||(b.getD y.i 0).testBit x.i) &&
 match y with
 | .s _ o=>pureOp P o.op||loadOp o.op
 | .l _ o=>loadOp o.op
 | .b i _ st=>pre.all (fun x=>match x with | .s j o'=>!loadOp o'.op||(b.getD i 0).testBit j | _=>true)&&(recsOf gs pre).zipIdx.all fun x=>(b.getD i 0).testBit x.1||st.contains x.2
def yck (P:Program) (b:List Nat) (gs:List (Nat × Tmp × TypeId)):List YO→List YO→Bool
 | _,[]=>true
 | pre,y :: r=>yckOne P b gs pre y&&yck P b gs (pre++[y]) r
theorem yck_split {b:List Nat} {gs:List (Nat × Tmp × TypeId)}:∀ {a pre:List YO} {y:YO} {r:List YO},yck P b gs pre (a++y :: r)=true→yckOne P b gs (pre++a) y=true
 | [],pre,y,r,h=>by
   simp only[List.nil_append,yck,Bool.and_eq_true]at h
   simpa using h.1
 | x :: a,pre,y,r,h=>by
   simp only[List.cons_append,yck,Bool.and_eq_true]at h
   have:=yck_split h.2
   simpa using this
def nodupB:List Nat→Bool
 | []=>true
 | x :: l=>!l.contains x&&nodupB l
theorem nodupB_spec:∀ {l:List Nat},nodupB l=true→l.Nodup
 | [],_=>List.nodup_nil
 | x :: l,h=>by
   simp only[nodupB,Bool.and_eq_true,Bool.not_eq_true']at h
   refine List.nodup_cons.2 ⟨fun hm=>?_,nodupB_spec h.2⟩
   have:=List.contains_iff_mem.2 hm
   rw[this]at h
   exact absurd h.1 (by simp)
def yOK (P:Program) (l:List Oper) (b:List Nat) (gs:List (Nat × Tmp × TypeId)) (ys:List YO):Bool:=
 nodupB (gs.map (·.1)++ys.map YO.i)&&(List.range l.length).all (fun i=>(gs.map (·.1)++ys.map YO.i).contains i)&&onceDsts l &&
 (List.range l.length).all (fun i=>(List.range l.length).all fun j=>i==j||match dstOf l j with
   | none=>true
   | some d=>!((l[i]?.map (looks l.toArray)).getD []).contains d||ordd b i j) &&
 gs.all (fun x=>b.getD x.1 0==0)&&yck P b gs [] ys
theorem put_at {fr:Fr} {v:Value} {d:Option Tmp} {t:Tmp} (h:d=some t):fr.put d v t=some v:=by rw[h];exact put_same _ _ _
theorem put_off {fr:Fr} {v:Value} {d:Option Tmp} {t:Tmp} (h:d≠some t):fr.put d v t=fr t:=by
 cases d with
 | none=>rfl
 | some d=>exact put_other _ _ (fun e=>h (by rw[e]))
def FrV (l:List Oper) (b:List Nat) (fr0 sc:Fr) (i:Nat) (t:Tmp) (u:Option Value):Prop:=
 (∃ j,dstOf l j=some t∧(b.getD i 0).testBit j=true∧u=sc t)∨((∀ j,dstOf l j=some t→(b.getD i 0).testBit j=false)∧u=fr0 t)
def PendK (P:Program) (l:List Oper) (recs:List Nat) (fr:Fr) (v:Value) (ng:Nat) (tr:List YT):YO→Prop
 | .s _ o=>pureOp P o.op=true∨loadOp o.op=true
 | .l i o=>∃ (k:Nat) (e:YT),recs[k]? = some i∧tr[k]? = some e∧∀ h':DHeap,h'.ng=ng→YS1 P h' (some e)→Ex P l.toArray o fr h' (.ret v) h'
 | .b ..=>False
def PendS (P:Program) (l:List Oper) (b:List Nat) (gs:List (Nat × Tmp × TypeId)) (fr0:Fr) (pre:List YO) (sc:St) (tr:List YT) (y:YO):Prop:=
 ∃ fr v,(∀ t∈looks l.toArray y.o,FrV l b fr0 sc.fr y.i t (fr t))∧(∀ t,y.o.dst=some t→sc.fr t=some v)∧Ex P l.toArray y.o fr sc.h (.ret v) sc.h∧PendK P l (recsOf gs pre) fr v sc.h.ng tr y
structure YI (P:Program) (l:List Oper) (b:List Nat) (gs:List (Nat × Tmp × TypeId)) (ys:List YO) (Q:DExit→St→Prop) (fr0:Fr) (n0:Nat) (L:Nat→Bool) (s:St) (pre rest:List YO) (sc:St) (tr:List YT):Prop where
 ys:ys=pre++rest
 yd:YD P l.toArray Q rest sc tr
 h:s.h=sc.h
 rd:s.rd=sc.rd
 df:s.df=[]
 dfc:sc.df=[]
 bigs:∀ y∈pre,y.big=true→L y.i=true
 undone:∀ y∈rest,L y.i=false
 f0:∀ t,(∀ j,dstOf l j≠some t)→s.fr t=fr0 t∧sc.fr t=fr0 t
 f1:∀ j t,dstOf l j=some t→(L j=true→s.fr t=sc.fr t)∧(L j=false→s.fr t=fr0 t)
 f2:∀ y∈rest,∀ t,dstOf l y.i=some t→sc.fr t=fr0 t
 len:tr.length=(recsOf gs pre).length
 pend:∀ y∈pre,L y.i=false→PendS P l b gs fr0 pre sc tr y
 gh:∀ (k:Nat) i d t,gs[k]? = some (i,d,t)→sc.fr d=some (.pointer (some ⟨n0+k,0,none⟩))∧∃ zs z,(∀ h,dAlloc P t h=some (.pointer (some ⟨h.next,0,none⟩),h.push (.row zs z false)))∧zs.all flat1=true∧tr[k]? = some (.gh (n0+k) (some (.row zs z false)))∧(L i=false→sc.h.get (n0+k)=some (.row zs z false))
structure YF (P:Program) (l:List Oper) (b:List Nat) (gs:List (Nat × Tmp × TypeId)) (ys:List YO):Prop where
 nodup:(gs.map (·.1)++ys.map YO.i).Nodup
 cover:∀ i,i<l.length→i∈gs.map (·.1)∨∃ y∈ys,y.i=i
 uniq:∀ i j t,dstOf l i=some t→dstOf l j=some t→i=j
 names:∀ i j o d,l[i]? = some o→i≠j→dstOf l j=some d→d∈looks l.toArray o→ordd b i j=true
 gb:∀ x∈gs,b.getD x.1 0=0
 ck:yck P b gs [] ys=true
 op:∀ y∈ys,l[y.i]? = some y.o
 gop:∀ i d t,(i,d,t)∈gs→l[i]? = some (mo d (.alloc t))
theorem YF.of {l:List Oper} {b:List Nat} {gs:List (Nat × Tmp × TypeId)} {ys:List YO} (h:yOK P l b gs ys=true) (hy:ys.map (fun y=>l[y.i]?)=ys.map fun y=>some y.o) (hg:gs.map (fun x=>l[x.1]?)=gs.map fun x=>some (mo x.2.1 (.alloc x.2.2))):YF P l b gs ys:=by
 simp only[yOK,Bool.and_eq_true]at h
 obtain ⟨⟨⟨⟨⟨h1,h2⟩,h3⟩,h4⟩,h5⟩,h6⟩:=h
 have hd:∀ {i:Nat} {t:Tmp},dstOf l i=some t→∃ o,l[i]? = some o∧o.dst=some t:=fun {i t} hi=>by
  unfold dstOf at hi
  cases ho:l[i]? with
  | none=>rw[ho]at hi;cases hi
  | some o=>rw[ho]at hi;exact ⟨o,rfl,by simpa using hi⟩
 refine ⟨nodupB_spec h1,fun i hi=>?_,fun i j t hi hj=>?_,fun i j o d ho hij hj hd2=>?_,fun x hx=>?_,h6,fun y hy2=>?_,fun i d t hm=>?_⟩
 ·have:=List.all_eq_true.1 h2 i (List.mem_range.2 hi)
  have:=List.contains_iff_mem.1 this
  rcases List.mem_append.1 this with h | h
  ·exact .inl h
  ·obtain ⟨y,a,b⟩:=List.mem_map.1 h
   exact .inr ⟨y,a,b⟩
 ·obtain ⟨o,a1,a2⟩:=hd hi
  obtain ⟨o',b1,b2⟩:=hd hj
  exact onceDsts_ne h3 a1 b1 a2 b2
 ·obtain ⟨o',b1,b2⟩:=hd hj
  have hi':=(List.getElem?_eq_some_iff.1 ho).1
  have hj':=(List.getElem?_eq_some_iff.1 b1).1
  have:=List.all_eq_true.1 (List.all_eq_true.1 h4 i (List.mem_range.2 hi')) j (List.mem_range.2 hj')
  simp only[Bool.or_eq_true,beq_iff_eq,hij,false_or,hj,ho,Option.map_some,Option.getD_some,Bool.not_eq_true']at this
  rcases this with h | h
  ·rw[List.contains_iff_mem.2 hd2]at h;cases h
  ·exact h
 ·exact beq_iff_eq.1 (List.all_eq_true.1 h5 x hx)
 ·have:=List.map_inj_left.1 hy y hy2
  exact this
 ·have:=List.map_inj_left.1 hg (i,d,t) hm
  exact this
section
variable {l:List Oper} {b:List Nat} {gs:List (Nat × Tmp × TypeId)} {ys:List YO} {Q:DExit→St→Prop} {fr0:Fr} {n0:Nat}
theorem dst_of {y:YO} {t:Tmp} (h:l[y.i]? = some y.o):dstOf l y.i=y.o.dst:=by
 unfold dstOf
 rw[h]
 rfl
theorem recsOf_snoc (pre:List YO) (y:YO):∃ r,recsOf gs (pre++[y])=recsOf gs pre++r∧((∃ i o,y=.l i o∧r=[i])∨((∀ i o,y≠.l i o)∧r=[])):=by
 unfold recsOf
 rw[List.filterMap_append,← List.append_assoc]
 cases y with
 | l i o=>exact ⟨[i],rfl,.inl ⟨i,o,rfl,rfl⟩⟩
 | s i o=>exact ⟨[],rfl,.inr ⟨fun _ _ h=>(by cases h),rfl⟩⟩
 | b i o st=>exact ⟨[],rfl,.inr ⟨fun _ _ h=>(by cases h),rfl⟩⟩
theorem get_pre {α:Type} {a c:List α} {k:Nat} {x:α} (h:a[k]? = some x):(a++c)[k]? = some x:=by
 rw[List.getElem?_append_left (List.getElem?_eq_some_iff.1 h).1]
 exact h
theorem YF.head (F:YF P l b gs ys) {pre r:List YO} {y:YO} (h:ys=pre++y :: r):(∀ x∈pre,x.i≠y.i)∧(∀ x∈r,x.i≠y.i)∧(∀ x∈gs,x.1≠y.i):=by
 have:=F.nodup
 rw[h]at this
 simp only[List.map_append,List.map_cons,List.nodup_append,List.nodup_cons,List.mem_append,List.mem_cons,List.mem_map]at this
 obtain ⟨_,⟨_,⟨h1,_⟩,h2⟩,h3⟩:=this
 exact ⟨fun x hx=>h2 _ ⟨x,hx,rfl⟩ _ (.inl rfl),fun x hx e=>h1 ⟨x,hx,e⟩,fun x hx=>h3 _ ⟨x,hx,rfl⟩ _ (.inr (.inl rfl))⟩
theorem YF.ck1 (F:YF P l b gs ys) {pre r:List YO} {y:YO} (h:ys=pre++y :: r):yckOne P b gs pre y=true:=by
 have:=F.ck
 rw[h]at this
 simpa using yck_split this
theorem YI.look (F:YF P l b gs ys) {L:Nat→Bool} {s sc:St} {pre r:List YO} {y:YO} {tr:List YT} (I:YI P l b gs ys Q fr0 n0 L s pre (y :: r) sc tr):∀ t∈looks l.toArray y.o,FrV l b fr0 sc.fr y.i t (sc.fr t):=by
 intro t ht
 have ho:=F.op y (by rw[I.ys];simp)
 have hck:=F.ck1 I.ys
 simp only[yckOne,Bool.and_eq_true,Bool.not_eq_true',List.all_eq_true]at hck
 obtain ⟨⟨⟨c1,c2⟩,c3⟩,_⟩:=hck
 by_cases hj:∃ j,dstOf l j=some t∧(b.getD y.i 0).testBit j=true
 ·obtain ⟨j,h1,h2⟩:=hj
  exact .inl ⟨j,h1,h2,rfl⟩
 ·have hj':∀ j,dstOf l j=some t→(b.getD y.i 0).testBit j=false:=fun j h1=>by
   cases h2:(b.getD y.i 0).testBit j with
   | false=>rfl
   | true=>exact absurd ⟨j,h1,h2⟩ hj
  refine .inr ⟨hj',?_⟩
  by_cases hd:∃ j,dstOf l j=some t
  ·obtain ⟨j,hd⟩:=hd
   by_cases hji:j=y.i
   ·exact I.f2 y (by simp) t (by rw[← hji];exact hd)
   ·have hord:=F.names y.i j y.o t ho (Ne.symm hji) hd ht
    have hb:(b.getD j 0).testBit y.i=true:=by
     have:=hj' j hd
     unfold ordd at hord
     split at hord
     ·exact hord
     ·rw[this]at hord;cases hord
    have hjl:j<l.length:=by
     unfold dstOf at hd
     cases h5:l[j]? with
     | none=>rw[h5]at hd;cases hd
     | some _=>exact (List.getElem?_eq_some_iff.1 h5).1
    rcases F.cover j hjl with hg | ⟨x,hx,hxj⟩
    ·obtain ⟨z,hz,hzj⟩:=List.mem_map.1 hg
     have:=F.gb z hz
     rw[hzj]at this
     rw[this]at hb
     simp at hb
    ·rw[I.ys]at hx
     rcases List.mem_append.1 hx with hx | hx
     ·have:=c2 x hx
      rw[hxj,hb]at this
      cases this
     ·exact I.f2 x hx t (by rw[hxj];exact hd)
  ·exact (I.f0 t fun j hj=>hd ⟨j,hj⟩).2
theorem YI.agree (F:YF P l b gs ys) {L:Nat→Bool} {s sc:St} {pre rest:List YO} {tr:List YT} (I:YI P l b gs ys Q fr0 n0 L s pre rest sc tr) {i:Nat} {o:Oper} (ho:l[i]? = some o) (hn:L i=false) (hcl:∀ j,(b.getD i 0).testBit j=true→L j=true) (hlate:∀ j,(b.getD j 0).testBit i=true→L j=false)
 {fr:Fr} (hfr:∀ t∈looks l.toArray o,FrV l b fr0 sc.fr i t (fr t)):∀ t∈looks l.toArray o,fr t=s.fr t:=by
 intro t ht
 rcases hfr t ht with ⟨j,h1,h2,h3⟩ | ⟨h1,h2⟩
 ·rw[h3,(I.f1 j t h1).1 (hcl j h2)]
 ·rw[h2]
  by_cases hd:∃ j,dstOf l j=some t
  ·obtain ⟨j,hd⟩:=hd
   have hLj:L j=false:=by
    by_cases hji:j=i
    ·rw[hji];exact hn
    ·have hord:=F.names i j o t ho (Ne.symm hji) hd ht
     refine hlate j ?_
     have:=h1 j hd
     unfold ordd at hord
     split at hord
     ·exact hord
     ·rw[this]at hord;cases hord
   exact ((I.f1 j t hd).2 hLj).symm
  ·exact (I.f0 t fun j hj=>hd ⟨j,hj⟩).1.symm
theorem YI.take (F:YF P l b gs ys) {L:Nat→Bool} {s sc:St} {pre rest:List YO} {tr:List YT} (I:YI P l b gs ys Q fr0 n0 L s pre rest sc tr) {i:Nat} {o:Oper} (ho:l[i]? = some o) (hrest:∀ y∈rest,y.i≠i) {v:Value} (hv:∀ t,o.dst=some t→sc.fr t=some v) :
 YI P l b gs ys Q fr0 n0 (fun j=>if j=i then true else L j) ⟨s.fr.put o.dst v,s.df,s.h,s.rd⟩ pre rest sc tr:=by
 have hd:dstOf l i=o.dst:=by unfold dstOf;rw[ho];rfl
 refine ⟨I.ys,I.yd,I.h,I.rd,I.df,I.dfc,fun y hy hb=>?_,fun y hy=>?_,fun t ht=>?_,fun j t hj=>⟨fun hL=>?_,fun hL=>?_⟩,I.f2,I.len,fun y hy hL=>I.pend y hy ?_,fun k j d t hk=>?_⟩
 ·show (if y.i=i then true else L y.i)=true
  split
  ·rfl
  ·exact I.bigs y hy hb
 ·show (if y.i=i then true else L y.i)=false
  rw[if_neg (hrest y hy)]
  exact I.undone y hy
 ·refine ⟨?_,(I.f0 t ht).2⟩
  show s.fr.put o.dst v t=_
  rw[put_off (by rw[← hd];exact ht i)]
  exact (I.f0 t ht).1
 ·by_cases hji:j=i
  ·subst hji
   rw[hd]at hj
   show s.fr.put o.dst v t=_
   rw[put_at hj,hv t hj]
  ·show s.fr.put o.dst v t=_
   simp only[if_neg hji]at hL
   rw[put_off fun e=>hji (F.uniq j i t hj (hd.trans e))]
   exact (I.f1 j t hj).1 hL
 ·by_cases hji:j=i
  ·simp only[if_pos hji]at hL;cases hL
  ·show s.fr.put o.dst v t=_
   simp only[if_neg hji]at hL
   rw[put_off fun e=>hji (F.uniq j i t hj (hd.trans e))]
   exact (I.f1 j t hj).2 hL
 ·by_cases hji:y.i=i
  ·simp only[if_pos hji]at hL;cases hL
  ·simpa only[if_neg hji] using hL
 ·obtain ⟨g1,zs,z,g2,g3,g4,g5⟩:=I.gh k j d t hk
  refine ⟨g1,zs,z,g2,g3,g4,fun hL=>g5 ?_⟩
  by_cases hji:j=i
  ·simp only[if_pos hji]at hL;cases hL
  ·simpa only[if_neg hji] using hL
theorem PendS.keep (F:YF P l b gs ys) {pre r:List YO} {y0 y:YO} {sc:St} {tr tr':List YT} {v:Value} {h':DHeap} (hys:ys=pre++y0 :: r) (hy:y∈pre) (p:PendS P l b gs fr0 pre sc tr y) (hng:h'.ng=sc.h.ng)
 (hh:h'=sc.h∨((b.getD y0.i 0).testBit y.i=false∧∃ i o st,y0=.b i o st∧YSt P tr h' st)) :
 PendS P l b gs fr0 (pre++[y0]) ⟨sc.fr.put y0.o.dst v,sc.df,h',sc.rd⟩ (tr++tr') y:=by
 obtain ⟨fr,u,h1,h2,h3,h4⟩:=p
 have hne:=(F.head hys).1 y hy
 have hoy:=F.op y (by rw[hys];simp[hy])
 have ho0:=F.op y0 (by rw[hys];simp)
 have hck:=F.ck1 hys
 simp only[yckOne,Bool.and_eq_true,Bool.not_eq_true',List.all_eq_true]at hck
 obtain ⟨⟨⟨c1,c2⟩,c3⟩,c4⟩:=hck
 have hoff:∀ j t,dstOf l j=some t→j≠y0.i→sc.fr.put y0.o.dst v t=sc.fr t:=fun j t hj hji=>put_off fun e=>hji (F.uniq j y0.i t hj ((dst_of (t:=t) ho0).trans e))
 have hex:Ex P l.toArray y.o fr h' (.ret u) h'∧PendK P l (recsOf gs (pre++[y0])) fr u h'.ng (tr++tr') y:=by
  obtain ⟨rr,hrr,_⟩:=recsOf_snoc (gs:=gs) pre y0
  cases y with
  | b i o st=>exact h4.elim
  | s i o=>
    refine ⟨?_,h4⟩
    rcases hh with rfl | ⟨hb,i0,o0,st,rfl,hst⟩
    ·exact h3
    ·rcases h4 with h4 | h4
     ·exact (Ex_pure h4 h3).2 h' hng
     ·simp only[Bool.and_eq_true,List.all_eq_true]at c4
      have:=c4.1 _ hy
      simp only[h4,Bool.not_true,Bool.false_or]at this
      exact absurd (hb.symm.trans this) (by simp)
  | l i o=>
    obtain ⟨k,e,k1,k2,k3⟩:=h4
    refine ⟨?_,k,e,by rw[hrr];exact get_pre k1,get_pre k2,fun h2 hn hy2=>k3 h2 (hn.trans hng) hy2⟩
    rcases hh with rfl | ⟨hb,i0,o0,st,rfl,hst⟩
    ·exact h3
    ·simp only[Bool.and_eq_true,List.all_eq_true]at c4
     have:=c4.2 (i,k) (List.mem_zipIdx_iff_getElem?.2 k1)
     simp only[Bool.or_eq_true]at this
     rcases this with this | this
     ·exact absurd (hb.symm.trans this) (by simp)
     ·have hs1:=YSt_mem hst (List.contains_iff_mem.1 this)
      rw[k2]at hs1
      exact k3 h' hng hs1
 refine ⟨fr,u,fun t ht=>?_,fun t ht=>?_,hex.1,hex.2⟩
 ·rcases h1 t ht with ⟨j,a1,a2,a3⟩ | h
  ·refine .inl ⟨j,a1,a2,a3.trans (hoff j t a1 fun e=>?_).symm⟩
   have:=c2 y hy
   rw[e]at a2
   rw[a2]at this
   cases this
  ·exact .inr h
 ·show sc.fr.put y0.o.dst v t=_
  rw[hoff y.i t ((dst_of (t:=t) hoy).trans ht) hne]
  exact h2 t ht
theorem recs_gs {pre:List YO} {k i:Nat} {d:Tmp} {t:TypeId} (h:gs[k]? = some (i,d,t)):(recsOf gs pre)[k]? = some i:=by
 unfold recsOf
 refine get_pre ?_
 rw[List.getElem?_map,h]
 rfl
theorem YI.small (F:YF P l b gs ys) {L:Nat→Bool} {s sc:St} {pre r:List YO} {y:YO} {tr tr':List YT} {v:Value} (I:YI P l b gs ys Q fr0 n0 L s pre (y :: r) sc tr) (hb:y.big=false)
 (hex:Ex P l.toArray y.o sc.fr sc.h (.ret v) sc.h) (hlen:tr'.length=(recsOf gs (pre++[y])).length - (recsOf gs pre).length) (hk:PendK P l (recsOf gs (pre++[y])) sc.fr v sc.h.ng (tr++tr') y)
 (hyd:YD P l.toArray Q r ⟨sc.fr.put y.o.dst v,sc.df,sc.h,sc.rd⟩ (tr++tr')) :
 YI P l b gs ys Q fr0 n0 L s (pre++[y]) r ⟨sc.fr.put y.o.dst v,sc.df,sc.h,sc.rd⟩ (tr++tr'):=by
 obtain ⟨n1,n2,n3⟩:=F.head I.ys
 have ho:=F.op y (by rw[I.ys];simp)
 have hd:∀ t,dstOf l y.i=y.o.dst:=fun t=>dst_of (t:=t) ho
 have hdd:dstOf l y.i=y.o.dst:=hd 0
 have hoff:∀ j t,dstOf l j=some t→j≠y.i→sc.fr.put y.o.dst v t=sc.fr t:=fun j t hj hji=>put_off fun e=>hji (F.uniq j y.i t hj (hdd.trans e))
 have hLy:=I.undone y (by simp)
 have hck:=F.ck1 I.ys
 simp only[yckOne,Bool.and_eq_true,Bool.not_eq_true',List.all_eq_true]at hck
 obtain ⟨⟨⟨c1,c2⟩,c3⟩,c4⟩:=hck
 obtain ⟨rr,hrr,_⟩:=recsOf_snoc (gs:=gs) pre y
 refine ⟨by rw[I.ys];simp,hyd,I.h,I.rd,I.df,I.dfc,fun x hx hxb=>?_,fun x hx=>I.undone x (by simp[hx]),fun t ht=>⟨(I.f0 t ht).1,?_⟩,fun j t hj=>⟨fun hL=>?_,(I.f1 j t hj).2⟩,fun x hx t hxt=>?_,?_,fun x hx hL=>?_,fun k i d t hk2=>?_⟩
 ·rcases List.mem_append.1 hx with hx | hx
  ·exact I.bigs x hx hxb
  ·simp only[List.mem_singleton]at hx
   rw[hx,hb]at hxb;cases hxb
 ·show sc.fr.put y.o.dst v t=_
  rw[put_off (by rw[← hdd];exact ht y.i)]
  exact (I.f0 t ht).2
 ·show s.fr t=sc.fr.put y.o.dst v t
  rw[hoff j t hj fun e=>by rw[e,hLy]at hL;cases hL]
  exact (I.f1 j t hj).1 hL
 ·show sc.fr.put y.o.dst v t=_
  rw[hoff x.i t hxt (n2 x hx)]
  exact I.f2 x (by simp[hx]) t hxt
 ·rw[List.length_append,hlen,I.len,hrr,List.length_append]
  omega
 ·rcases List.mem_append.1 hx with hx | hx
  ·exact (I.pend x hx hL).keep F I.ys hx rfl (.inl rfl)
  ·simp only[List.mem_singleton]at hx
   subst hx
   refine ⟨sc.fr,v,fun t ht=>?_,fun t ht=>put_at ht,hex,hk⟩
   rcases I.look F t ht with ⟨j,a1,a2,a3⟩ | h
   ·refine .inl ⟨j,a1,a2,(hoff j t a1 fun e=>?_).symm⟩
    rw[e,c1]at a2
    cases a2
   ·exact .inr h
 ·obtain ⟨g1,zs,z,g2,g3,g4,g5⟩:=I.gh k i d t hk2
  have hm:=List.mem_of_getElem? hk2
  have hgd:dstOf l i=some d:=by unfold dstOf;rw[F.gop i d t hm];rfl
  exact ⟨(hoff i d hgd (n3 _ hm)).trans g1,zs,z,g2,g3,get_pre g4,g5⟩
theorem YI.bigStep (F:YF P l b gs ys) {L:Nat→Bool} {s sc:St} {pre r:List YO} {i:Nat} {o:Oper} {st:List Nat} {tr:List YT} {v:Value} {h':DHeap} (I:YI P l b gs ys Q fr0 n0 L s pre (.b i o st :: r) sc tr) (hcl:∀ j,(b.getD i 0).testBit j=true→L j=true)
 (hng:h'.ng=sc.h.ng) (hh:h'=sc.h∨YSt P tr h' st) (hyd:YD P l.toArray Q r ⟨sc.fr.put o.dst v,sc.df,h',sc.rd⟩ tr) :
 YI P l b gs ys Q fr0 n0 (fun j=>if j=i then true else L j) ⟨s.fr.put o.dst v,s.df,h',s.rd⟩ (pre++[.b i o st]) r ⟨sc.fr.put o.dst v,sc.df,h',sc.rd⟩ tr:=by
 obtain ⟨n1,n2,n3⟩:=F.head I.ys
 have n2:∀ x∈r,x.i≠i:=n2
 have ho:l[i]? = some o:=F.op (.b i o st) (by rw[I.ys];simp)
 have hdd:dstOf l i=o.dst:=by unfold dstOf;rw[ho];rfl
 have hoff:∀ (fr:Fr) j t,dstOf l j=some t→j≠i→fr.put o.dst v t=fr t:=fun fr j t hj hji=>put_off fun e=>hji (F.uniq j i t hj (hdd.trans e))
 have hck:=F.ck1 I.ys
 simp only[yckOne,Bool.and_eq_true,Bool.not_eq_true',List.all_eq_true]at hck
 obtain ⟨_,c4⟩:=hck
 have hbit:∀ j,L j=false→(b.getD i 0).testBit j=false:=fun j hL=>by
  cases h:(b.getD i 0).testBit j with
  | false=>rfl
  | true=>rw[hcl j h]at hL;cases hL
 refine ⟨by rw[I.ys];simp,hyd,rfl,I.rd,I.df,I.dfc,fun x hx hxb=>?_,fun x hx=>?_,fun t ht=>?_,fun j t hj=>?_,fun x hx t hxt=>?_,?_,fun x hx hL=>?_,fun k j d t hk2=>?_⟩
 ·show (if x.i=i then true else L x.i)=true
  split
  ·rfl
  ·rename_i hxi
   rcases List.mem_append.1 hx with hx | hx
   ·exact I.bigs x hx hxb
   ·simp only[List.mem_singleton]at hx
    rw[hx]at hxi
    exact absurd rfl hxi
 ·show (if x.i=i then true else L x.i)=false
  rw[if_neg (n2 x hx)]
  exact I.undone x (by simp[hx])
 ·have:o.dst≠some t:=by rw[← hdd];exact ht i
  show s.fr.put o.dst v t=_∧sc.fr.put o.dst v t=_
  rw[put_off this,put_off this]
  exact I.f0 t ht
 ·show ((if j=i then true else L j)=true→s.fr.put o.dst v t=sc.fr.put o.dst v t)∧((if j=i then true else L j)=false→s.fr.put o.dst v t=fr0 t)
  by_cases hji:j=i
  ·rw[if_pos hji]
   rw[hji,hdd]at hj
   exact ⟨fun _=>(put_at hj).trans (put_at hj).symm,fun h=>by cases h⟩
  ·rw[if_neg hji,hoff _ j t hj hji,hoff _ j t hj hji]
   exact I.f1 j t hj
 ·show sc.fr.put o.dst v t=_
  rw[hoff _ x.i t hxt (n2 x hx)]
  exact I.f2 x (by simp[hx]) t hxt
 ·obtain ⟨rr,hrr,h⟩:=recsOf_snoc (gs:=gs) pre (.b i o st)
  rcases h with ⟨_,_,h,_⟩ | ⟨_,h⟩
  ·cases h
  ·rw[hrr,h,List.append_nil]
   exact I.len
 ·have hL2:x.i≠i∧L x.i=false:=by
   by_cases hxi:x.i=i
   ·simp only[if_pos hxi]at hL;cases hL
   ·exact ⟨hxi,by simpa only[if_neg hxi] using hL⟩
  rcases List.mem_append.1 hx with hx | hx
  ·have:=(I.pend x hx hL2.2).keep F I.ys hx (tr':=[]) (v:=v) hng (hh.imp id fun h=>⟨hbit _ hL2.2,i,o,st,rfl,h⟩)
   rwa [List.append_nil]at this
  ·simp only[List.mem_singleton]at hx
   rw[hx]at hL2
   exact absurd rfl hL2.1
 ·obtain ⟨g1,zs,z,g2,g3,g4,g5⟩:=I.gh k j d t hk2
  have hm:=List.mem_of_getElem? hk2
  have hgd:dstOf l j=some d:=by unfold dstOf;rw[F.gop j d t hm];rfl
  refine ⟨(hoff _ j d hgd (n3 _ hm)).trans g1,zs,z,g2,g3,g4,fun hL=>?_⟩
  have hL2:L j=false:=by
   by_cases hji:j=i
   ·simp only[if_pos hji]at hL;cases hL
   ·simpa only[if_neg hji] using hL
  rcases hh with rfl | hst
  ·exact g5 hL2
  ·have:=c4.2 (j,k) (List.mem_zipIdx_iff_getElem?.2 (recs_gs hk2))
   simp only[Bool.or_eq_true]at this
   rcases this with this | this
   ·exact absurd ((hbit j hL2).symm.trans this) (by simp)
   ·have hs1:=YSt_mem hst (List.contains_iff_mem.1 this)
    rw[g4]at hs1
    exact hs1
theorem YI.adv (F:YF P l b gs ys) {L:Nat→Bool} {s:St}:∀ (rest:List YO) {pre:List YO} {sc:St} {tr:List YT},YI P l b gs ys Q fr0 n0 L s pre rest sc tr →
 ∃ pre' rest' sc' tr',YI P l b gs ys Q fr0 n0 L s pre' rest' sc' tr'∧(rest'=[]∨∃ i o st r,rest'=.b i o st :: r)
 | [],pre,sc,tr,I=>⟨pre,[],sc,tr,I,.inl rfl⟩
 | .b i o st :: r,pre,sc,tr,I=>⟨pre,_,sc,tr,I,.inr ⟨i,o,st,r,rfl⟩⟩
 | .s i o :: r,pre,sc,tr,I=>by
   have hck:=F.ck1 I.ys
   simp only[yckOne,Bool.and_eq_true]at hck
   have hk:pureOp P o.op=true∨loadOp o.op=true:=by simpa using hck.2
   have hl:(recsOf gs (pre++[.s i o])).length=(recsOf gs pre).length:=by
    obtain ⟨rr,hrr,h⟩:=recsOf_snoc (gs:=gs) pre (.s i o)
    rcases h with ⟨_,_,h,_⟩ | ⟨_,h⟩
    ·cases h
    ·rw[hrr,h,List.append_nil]
   have go:∀ v,Ex P l.toArray o sc.fr sc.h (.ret v) sc.h→YD P l.toArray Q r ⟨sc.fr.put o.dst v,sc.df,sc.h,sc.rd⟩ tr→_:=fun v h1 h2=>
    YI.adv F r (I.small F (tr':=[]) rfl h1 (by rw[hl];simp) hk (by rw[List.append_nil];exact h2))
   have hyd:=I.yd
   simp only[YD]at hyd
   split at hyd
   ·exact hyd.elim
   ·rename_i hw
    exact go undef (by unfold Ex;rw[hw];exact ⟨rfl,rfl⟩) hyd
   ·rename_i hw
    split at hyd
    ·rename_i v h1 hop
     have hh:h1=sc.h:=by
      have hex:Ex P l.toArray o sc.fr sc.h (.ret v) h1:=by unfold Ex;rw[hw,hop];exact ⟨rfl,rfl⟩
      rcases hk with hk | hk
      ·exact (Ex_pure hk hex).1
      ·exact Ex_load hk hex
     subst hh
     exact go v (by unfold Ex;rw[hw,hop];exact ⟨rfl,rfl⟩) hyd
    ·exact hyd.elim
 | .l i o :: r,pre,sc,tr,I=>by
   have hck:=F.ck1 I.ys
   simp only[yckOne,Bool.and_eq_true]at hck
   have hk:loadOp o.op=true:=hck.2
   obtain ⟨hl,hlast⟩:(recsOf gs (pre++[.l i o])).length=(recsOf gs pre).length+1∧(recsOf gs (pre++[.l i o]))[tr.length]? = some i:=by
    obtain ⟨rr,hrr,h⟩:=recsOf_snoc (gs:=gs) pre (.l i o)
    rcases h with ⟨_,_,h,h2⟩ | ⟨h,_⟩
    ·cases h
     rw[hrr,h2,I.len]
     simp
    ·exact absurd rfl (h i o)
   have go:∀ v e,Ex P l.toArray o sc.fr sc.h (.ret v) sc.h→(∀ h':DHeap,h'.ng=sc.h.ng→YS1 P h' (some e)→Ex P l.toArray o sc.fr h' (.ret v) h')→YD P l.toArray Q r ⟨sc.fr.put o.dst v,sc.df,sc.h,sc.rd⟩ (tr++[e])→_:=fun v e h1 h3 h2=>
    YI.adv F r (I.small F (tr':=[e]) rfl h1 (by rw[hl];simp) ⟨tr.length,e,hlast,by simp,h3⟩ h2)
   have hyd:=I.yd
   simp only[YD]at hyd
   split at hyd
   ·exact hyd.elim
   ·rename_i hw
    exact go undef .no (by unfold Ex;rw[hw];exact ⟨rfl,rfl⟩) (fun h' _ _=>by unfold Ex;rw[hw];exact ⟨rfl,rfl⟩) hyd
   ·rename_i hw
    split at hyd
    ·rename_i t a hop
     split at hyd
     ·rename_i p hp
      split at hyd
      ·rename_i v hv
       have hex:∀ h':DHeap,h'.ng=sc.h.ng→dLoad P t p h'=some v→Ex P l.toArray o sc.fr h' (.ret v) h':=fun h' hn hv=>by
        unfold Ex dOp
        rw[hw,hop,hn]
        simp[hp,hv,DR.ofv]
       exact go v (.ld t p v) (hex sc.h rfl hv) (fun h' hn h=>hex h' hn h) hyd
      ·exact hyd.elim
     ·exact hyd.elim
    ·exact hyd.elim
end
theorem dAlloc_spec {t:TypeId} {h h':DHeap} {v:Value} (e:dAlloc P t h=some (v,h')) :
 ∃ zs z,v=.pointer (some ⟨h.next,0,none⟩)∧h'=h.push (.row zs z false)∧zs.all flat1=true∧∀ h2,dAlloc P t h2=some (.pointer (some ⟨h2.next,0,none⟩),h2.push (.row zs z false)):=by
 unfold dAlloc at e ⊢
 cases hi:P.info? t with
 | none=>rw[hi]at e;cases e
 | some i=>
   rw[hi]at e
   simp only at e ⊢
   cases hz:i.zero with
   | none=>rw[hz]at e;cases e
   | some z=>
     rw[hz]at e
     simp only at e ⊢
     split at e
     ·rename_i hf
      cases e
      exact ⟨_,_,rfl,rfl,hf,fun h2=>by rw[if_pos hf]⟩
     ·cases e
theorem YG_out {K:St→List YT→Prop}:∀ (gs:List (Nat × Tmp × TypeId)) (s:St) (tr:List YT),YG P K gs s tr→(gs.map (·.2.1)).Nodup →
 ∃ h1 fr1 tr1,K ⟨fr1,s.df,h1,s.rd⟩ (tr++tr1)∧Ext s.h h1∧h1.next=s.h.next+gs.length∧tr1.length=gs.length∧(∀ t,(∀ x∈gs,x.2.1≠t)→fr1 t=s.fr t) ∧
  ∀ (k:Nat) i d t,gs[k]? = some (i,d,t)→fr1 d=some (.pointer (some ⟨s.h.next+k,0,none⟩))∧∃ zs z,(∀ h,dAlloc P t h=some (.pointer (some ⟨h.next,0,none⟩),h.push (.row zs z false)))∧zs.all flat1=true∧tr1[k]? = some (.gh (s.h.next+k) (some (.row zs z false)))∧h1.get (s.h.next+k)=some (.row zs z false)
 | [],s,tr,h,_=>⟨s.h,s.fr,[],by rw[List.append_nil];exact h,.refl _,rfl,rfl,fun _ _=>rfl,fun k i d t hk=>by cases hk⟩
 | (i0,d0,t0) :: gs,s,tr,h,hn=>by
   unfold YG at h
   split at h
   ·rename_i v h2 ha
    obtain ⟨zs,z,rfl,rfl,hz,hall⟩:=dAlloc_spec ha
    simp only[List.map_cons,List.nodup_cons,List.mem_map]at hn
    obtain ⟨h1,fr1,tr1,a1,a2,a3,a4,a5,a6⟩:=YG_out gs _ _ h hn.2
    have e1:Ext s.h (s.h.push (.row zs z false)):=Ext.push1 _ _
    have hnx:(s.h.push (.row zs z false)).next=s.h.next+1:=rfl
    refine ⟨h1,fr1,_ :: tr1,by rw[List.append_cons];exact a1,e1.trans a2,by rw[a3];show s.h.next+1+gs.length=s.h.next+(gs.length+1);omega,by rw[List.length_cons,List.length_cons,a4],fun t ht=>?_,fun k i d t hk=>?_⟩
    ·rw[a5 t fun x hx=>ht x (List.mem_cons_of_mem _ hx)]
     exact put_off (d:=some d0) fun e=>ht (i0,d0,t0) List.mem_cons_self (Option.some.inj e)
    ·cases k with
     | zero=>
       cases hk
       refine ⟨?_,zs,z,hall,hz,?_,?_⟩
       ·rw[a5 d0 fun x hx e=>hn.1 ⟨x,hx,e⟩]
        exact put_at rfl
       ·show some (YT.gh s.h.next ((s.h.push (.row zs z false)).get s.h.next))=_
        rw[get_push_same]
        rfl
       ·exact (a2.get s.h.next (by rw[hnx];omega)).trans (get_push_same _ _)
     | succ k=>
       have hk':gs[k]? = some (i,d,t):=by simpa using hk
       obtain ⟨b1,zs',z',b2,b3,b4,b5⟩:=a6 k i d t hk'
       have e:(s.h.push (.row zs z false)).next+k=s.h.next+(k+1):=by rw[hnx];omega
       rw[e]at b1 b4 b5
       exact ⟨b1,zs',z',b2,b3,by simpa using b4,b5⟩
   ·exact h.elim
def gIdx:List (Nat × Tmp × TypeId)→Nat→Nat→Option Nat
 | [],_,_=>none
 | x :: r,i,k=>if x.1=i then some k else gIdx r i (k+1)
theorem gIdx_some:∀ {gs:List (Nat × Tmp × TypeId)} {i k x:Nat},gIdx gs i k=some x→∃ (m:Nat) (d:Tmp) (t:TypeId),gs[m]? = some (i,d,t)∧x=k+m
 | [],i,k,x,h=>by cases h
 | (j,d,t) :: r,i,k,x,h=>by
   unfold gIdx at h
   split at h
   ·rename_i hj
    cases h
    exact ⟨0,d,t,by rw[← hj];rfl,rfl⟩
   ·obtain ⟨m,d',t',a,b⟩:=gIdx_some h
    exact ⟨m+1,d',t',by simpa using a,by omega⟩
theorem gIdx_none:∀ {gs:List (Nat × Tmp × TypeId)} {i k:Nat},gIdx gs i k=none→∀ x∈gs,x.1≠i
 | [],_,_,_,x,hx=>by cases hx
 | y :: r,i,k,h,x,hx=>by
   unfold gIdx at h
   split at h
   ·cases h
   ·rename_i hj
    rcases List.mem_cons.1 hx with rfl | hx
    ·exact hj
    ·exact gIdx_none h x hx
theorem NOne_of_Ex {ops:Array Oper} {o:Oper} {s:St} {K:St→Prop} {Q:DExit→St→Prop} {v:Value} {h':DHeap} (hx:Ex P ops o s.fr s.h (.ret v) h') (hK:K ⟨s.fr.put o.dst v,s.df,h',s.rd⟩):NOne P ops o s K Q:=by
 unfold Ex at hx
 unfold NOne
 cases hw:dWanted ops s.fr o with
 | none=>rw[hw]at hx;exact hx.elim
 | some bb=>
   rw[hw]at hx
   cases bb with
   | false=>
     obtain ⟨a,b⟩:=hx
     cases a
     rw[b]at hK
     exact hK
   | true=>
     simp only at hx ⊢
     split at hx
     ·rename_i heq
      obtain ⟨a,b⟩:=hx
      cases a
      rw[b]at hK
      rw[heq]
      exact hK
     ·rename_i heq
      obtain ⟨a,b⟩:=hx
      cases a
      rw[b]at hK
      rw[heq]
      exact hK
     ·rename_i heq
      rw[heq]
      exact ⟨_,hx.ct (R:=fun r h=>r=.ret v∧h=h') ⟨rfl,rfl⟩,fun r h2 ⟨e1,e2⟩=>by subst e1;subst e2;exact hK⟩
     ·rename_i heq
      rw[heq]
      exact ⟨_,hx.rt (R:=fun r h=>r=.ret v∧h=h') ⟨rfl,rfl⟩,fun r h2 ⟨e1,e2⟩=>by subst e1;subst e2;exact hK⟩
     ·rename_i heq
      cases hx.1
     ·exact hx.elim
theorem Ex_looks {ops:Array Oper} {o:Oper} {fr fr':Fr} {h h':DHeap} {r:DEnd} (hl:∀ t∈looks ops o,fr' t=fr t) (hx:Ex P ops o fr' h r h'):Ex P ops o fr h r h':=by
 unfold Ex at hx ⊢
 rwa [dWanted_looks hl,dOp_looks hl]at hx
theorem NC.yd {id:Nat} {ops:Array Oper} {l:List Oper} {b:List Nat} {gs:List (Nat × Tmp × TypeId)} {ys:List YO} {Q:DExit→St→Prop} {s:St} (hmix:P.follows .mixedOrders=true) (hd:dstsOK nt ops=true) (hlow:lowOK ops=true) (hb:befs ops.toList []=b) (hl:ops.map stripO=l.toArray)
 (hok:yOK P l b gs ys=true) (hy:ys.map (fun y=>l[y.i]?)=ys.map fun y=>some y.o) (hgm:gs.map (fun x=>l[x.1]?)=gs.map fun x=>some (mo x.2.1 (.alloc x.2.2))) (hdf:s.df=[])
 (h:YG P (YD P l.toArray Q ys) gs s []):NC P nt (.region id ops true) Q s:=by
 have F:=YF.of hok hy hgm
 have hgn:=(List.nodup_append.1 F.nodup)
 have hgd:∀ x∈gs,dstOf l x.1=some x.2.1:=fun x hx=>by unfold dstOf;rw[F.gop x.1 x.2.1 x.2.2 hx];rfl
 have hdn:(gs.map (·.2.1)).Nodup:=by
  refine List.pairwise_map.2 ((List.pairwise_map.1 hgn.1).imp_of_mem fun {x y} hx hy hne e=>hne ?_)
  exact F.uniq x.1 y.1 x.2.1 (hgd x hx) (by rw[e];exact hgd y hy)
 obtain ⟨h1,fr1,tr1,a1,a2,a3,a4,a5,a6⟩:=YG_out gs s [] h hdn
 rw[List.nil_append]at a1
 have gk:∀ {i x:Nat},gIdx gs i s.h.next=some x→∃ (m:Nat) (d:Tmp) (t:TypeId),gs[m]? = some (i,d,t)∧x=s.h.next+m:=gIdx_some
 have guniq:∀ {m m':Nat} {x y:Nat × Tmp × TypeId},gs[m]? = some x→gs[m']? = some y→x.1=y.1→m=m':=fun {m m' x y} hx hy e=>by
  have hm:=(List.getElem?_eq_some_iff.1 hx).1
  have h1:(gs.map (·.1))[m]? = some x.1:=by rw[List.getElem?_map,hx];rfl
  have h2:(gs.map (·.1))[m']? = some x.1:=by rw[List.getElem?_map,hy,e];rfl
  exact (List.getElem?_inj (by simpa using hm) hgn.1).1 (h1.trans h2.symm)
 refine NC.any2L hmix hd hlow hb hl (fun i=>gIdx gs i s.h.next) h1 a2 (fun i x hx=>?_) (fun i j x hi hj=>?_)
  (fun L s'=>∃ pre rest sc tr,YI P l b gs ys Q s.fr s.h.next L s' pre rest sc tr∧(rest=[]∨∃ i o st r,rest=.b i o st :: r)) ?_ ?_ ?_
 ·obtain ⟨m,d,t,b1,rfl⟩:=gk hx
  have:=(List.getElem?_eq_some_iff.1 b1).1
  omega
 ·obtain ⟨m,d,t,b1,rfl⟩:=gk hi
  obtain ⟨m',d',t',b2,e⟩:=gk hj
  have:m=m':=by omega
  subst this
  rw[b1]at b2
  cases b2
  rfl
 ·refine YI.adv F ys (pre:=[]) (sc:=⟨fr1,s.df,h1,s.rd⟩) (tr:=tr1) ⟨rfl,a1,rfl,rfl,hdf,hdf,fun y hy=>(by cases hy),fun _ _=>rfl,fun t ht=>⟨rfl,a5 t fun x hx e=>ht x.1 (by rw[← e];exact hgd x hx)⟩,fun j t _=>⟨fun h=>(by cases h),fun _=>rfl⟩,fun y hy t hyt=>a5 t fun x hx e=>?_,(by rw[a4];simp[recsOf]),fun y hy=>(by cases hy),fun k i d t hk=>?_⟩
  ·have hxy:=F.uniq x.1 y.i t (by rw[← e];exact hgd x hx) hyt
   exact hgn.2.2 _ (List.mem_map.2 ⟨x,hx,rfl⟩) _ (List.mem_map.2 ⟨y,hy,rfl⟩) hxy
  ·obtain ⟨c1,zs,z,c2,c3,c4,c5⟩:=a6 k i d t hk
   exact ⟨c1,zs,z,c2,c3,c4,fun _=>c5⟩
 ·rintro L s' i o ⟨pre,rest,sc,tr,I,hr⟩ ho hn hcl hlate
  have hil:=(List.getElem?_eq_some_iff.1 ho).1
  rcases F.cover i hil with hg | ⟨y,hym,hyi⟩
  ·obtain ⟨⟨i',d,t⟩,hx,hxi⟩:=List.mem_map.1 hg
   simp only at hxi
   subst hxi
   obtain ⟨k,hk⟩:=List.getElem?_of_mem hx
   have hop:=F.gop i' d t hx
   rw[ho]at hop
   cases hop
   have hgi:gIdx gs i' s.h.next=some (s.h.next+k):=by
    cases hq:gIdx gs i' s.h.next with
    | none=>exact absurd rfl (gIdx_none hq _ hx)
    | some x=>
      obtain ⟨m,d',t',b1,rfl⟩:=gk hq
      rw[guniq b1 hk rfl]
   obtain ⟨g1,zs,z,g2,g3,g4,g5⟩:=I.gh k i' d t hk
   refine .inr ⟨_,zs,z,hgi,rfl,?_,g3,?_,I.df,pre,rest,sc,tr,I.take F ho (fun y hy e=>?_) (fun t' ht=>?_),hr⟩
   ·simp only[dOp,g2,DR.ofp]
   ·rw[I.h];exact g5 hn
   ·exact hgn.2.2 _ (List.mem_map.2 ⟨_,hx,rfl⟩) _ (List.mem_map.2 ⟨y,by rw[I.ys];simp[hy],rfl⟩) e.symm
   ·cases ht
    exact g1
  ·subst hyi
   have hoy:=F.op y hym
   rw[ho]at hoy
   cases hoy
   refine .inl ⟨?_,?_⟩
   ·cases hq:gIdx gs y.i s.h.next with
    | none=>rfl
    | some x=>
      obtain ⟨m,d',t',b1,_⟩:=gk hq
      exact absurd rfl (hgn.2.2 _ (List.mem_map.2 ⟨_,List.mem_of_getElem? b1,rfl⟩) _ (List.mem_map.2 ⟨y,hym,rfl⟩))
   rw[I.ys]at hym
   rcases List.mem_append.1 hym with hyp | hyr
   ·obtain ⟨fr,v,p1,p2,p3,_⟩:=I.pend y hyp hn
    have hag:=I.agree F ho hn hcl hlate p1
    rw[← I.h]at p3
    refine NOne_of_Ex (Ex_looks hag p3) fun _=>⟨pre,rest,sc,tr,I.take F ho (fun x hx e=>?_) p2,hr⟩
    obtain ⟨r1,r2,hsp⟩:=List.append_of_mem hx
    have:=(F.head (pre:=pre++r1) (y:=x) (r:=r2) (by rw[I.ys,hsp];simp)).1 y (by simp[hyp])
    exact this e.symm
   ·rcases hr with rfl | ⟨i0,o0,st,r,rfl⟩
    ·cases hyr
    rcases List.mem_cons.1 hyr with rfl | hyr
    ·have hag:=I.agree F ho hn hcl hlate (I.look F)
     have hwq:dWanted l.toArray s'.fr o0=dWanted l.toArray sc.fr o0:=(dWanted_looks hag).symm
     have hoq:∀ n (hh:DHeap),dOp P (evalF n s'.fr) o0 hh=dOp P (evalF n sc.fr) o0 hh:=fun n hh=>(dOp_looks hag).symm
     have hyd:=I.yd
     simp only[YD]at hyd
     unfold NOne
     show match dWanted l.toArray s'.fr o0 with
      | none=>False
      | some false=>HStep s'.h s'.h→_
      | some true=>NNext P o0 s' (dOp P (evalF s'.h.ng s'.fr) o0 s'.h) _ Q
     rw[hwq]
     split at hyd
     ·exact hyd.elim
     ·rename_i hw
      have hb:=I.bigStep F hcl rfl (.inl rfl) hyd
      rw[I.h]
      exact fun _=>hb.adv F r
     ·rename_i hw
      rw[hoq,I.h]
      split at hyd
      ·rename_i v h2 hop
       rw[hop]
       exact fun hh=>(I.bigStep F hcl hh.ng (.inr hyd.1) hyd.2).adv F r
      ·rename_i h2 hop
       rw[hop]
       exact fun hh=>(I.bigStep F hcl hh.ng (.inr hyd.1) hyd.2).adv F r
      ·rename_i f args h2 hop
       rw[hop]
       obtain ⟨R,hct,hall⟩:=hyd
       refine ⟨R,hct,fun rr h3 hR=>?_⟩
       have:=hall rr h3 hR
       cases rr with
       | ret v=>exact fun hh=>(I.bigStep F hcl hh.ng (.inr this.1) this.2).adv F r
       | pan v=>exact this.elim
      ·exact hyd.elim
    ·exfalso
     obtain ⟨r1,r2,hsp⟩:=List.append_of_mem hyr
     have hck:=F.ck1 (pre:=pre++.b i0 o0 st :: r1) (y:=y) (r:=r2) (by rw[I.ys,hsp];simp)
     simp only[yckOne,Bool.and_eq_true,Bool.not_eq_true',List.all_eq_true]at hck
     have:=hck.1.2 (.b i0 o0 st) (by simp)
     simp only[YO.big,Bool.not_true,Bool.false_or]at this
     have h2:=hcl _ this
     rw[I.undone (.b i0 o0 st) (by simp)]at h2
     cases h2
 ·rintro L s' ⟨pre,rest,sc,tr,I,hr⟩ hall
  rcases hr with rfl | ⟨i0,o0,st,r,rfl⟩
  ·have hyd:=I.yd
   simp only[YD]at hyd
   have:s'=sc:=by
    obtain ⟨fr',df',h',rd'⟩:=s'
    obtain ⟨fr2,df2,h2,rd2⟩:=sc
    have e1:fr'=fr2:=by
     funext t
     by_cases hd:∃ j,dstOf l j=some t
     ·obtain ⟨j,hj⟩:=hd
      refine (I.f1 j t hj).1 (hall j ?_)
      unfold dstOf at hj
      cases h5:l[j]? with
      | none=>rw[h5]at hj;cases hj
      | some _=>exact (List.getElem?_eq_some_iff.1 h5).1
     ·have:=I.f0 t fun j hj=>hd ⟨j,hj⟩
      exact this.1.trans this.2.symm
    have e2:=I.df
    have e3:=I.dfc
    have e4:=I.h
    have e5:=I.rd
    simp only at e2 e3 e4 e5
    subst e1 e2 e3 e4 e5
    rfl
   rw[this]
   exact hyd
  ·have:L i0=false:=I.undone (.b i0 o0 st) (by simp)
   rw[hall i0 (List.getElem?_eq_some_iff.1 (F.op (.b i0 o0 st) (by rw[I.ys];simp))).1]at this
   cases this
def drawnOf:Code→List (Array Oper)
 | .seq a b=>drawnOf a++drawnOf b
 | .cond _ a b=>drawnOf a++drawnOf b
 | .block _ c=>drawnOf c
 | .loop c=>drawnOf c
 | .region _ ops true=>[ops]
 | .rangeFunc _ _ a b=>drawnOf a++drawnOf b
 | _=>[]
def drawn (f:Func) (k:Nat):Array Oper:=match f.body with
 | some c=>(drawnOf c).getD k #[]
 | none=>#[]
abbrev GoC (P:Program) (f nt:Nat) (c:Code) (rs:List ResultVar):Prop:=∀ {args:List Value} {h:DHeap} {R:DEnd→DHeap→Prop},args.length≤nt→xs P nt c (XPost P rs R) ⟨argsFr args nt,[],h,none⟩→Ct P f args h R
theorem GoC.of {P:Program} {f nt:Nat} {c:Code} {rs:List ResultVar} {fn:Func} (hf:P.funcs[f]? = some fn) (hb:fn.body.map strip=some c) (hn:fn.ntmps=nt) (hr:fn.results.toList=rs) (hk:codeOK nt c=true):GoC P f nt c rs:=
 fun ha hx=>Ct_xs hf hb hn hr ha hk hx
def YGa (P:Program) (K:St→List YT→Prop) (fr:Fr) (df:List DDef) (h:DHeap) (rd:Option Nat) (tr:List YT) (d:Tmp) (gs:List (Nat × Tmp × TypeId)):Option (Value × DHeap)→Prop
 | some (v,h')=>YG P K gs ⟨fr.put (some d) v,df,h',rd⟩ (tr++[.gh h.next (h'.get h.next)])
 | none=>False
theorem YG_cons (K:St→List YT→Prop) (fr:Fr) (df:List DDef) (h:DHeap) (rd:Option Nat) (tr:List YT) (i:Nat) (d:Tmp) (t:TypeId) (gs:List (Nat × Tmp × TypeId)):YG P K ((i,d,t) :: gs) ⟨fr,df,h,rd⟩ tr=YGa P K fr df h rd tr d gs (dAlloc P t h):=by
 unfold YG YGa
 rfl
theorem YGa_some (K:St→List YT→Prop) (fr:Fr) (df:List DDef) (h:DHeap) (rd:Option Nat) (tr:List YT) (d:Tmp) (gs:List (Nat × Tmp × TypeId)) (v:Value) (x:DObj):YGa P K fr df h rd tr d gs (some (v,h.push x))=YG P K gs ⟨fr.put (some d) v,df,h.push x,rd⟩ (tr++[.gh h.next (some x)]):=by
 show YG P K gs _ (tr++[.gh h.next ((h.push x).get h.next)])=_
 rw[get_push_same]
def yL (gs:List (Nat × Tmp × TypeId)) (ys:List YO) (n:Nat):List Oper:=(List.range n).map fun i=>
 match gs.find? (fun x=>x.1==i) with
 | some x=>mo x.2.1 (.alloc x.2.2)
 | none=>match ys.find? (fun y=>y.i==i) with
   | some y=>y.o
   | none=>mx (.alloc 0)
section
variable (P) (ops:Array Oper) (Q:DExit→St→Prop) (o:Oper) (st:List Nat) (r:List YO) (s:St) (tr:List YT)
def YSx:DR→Prop
 | .ok (.value v) _=>YD P ops Q r ⟨s.fr.put o.dst v,s.df,s.h,s.rd⟩ tr
 | _=>False
def YSw:Option Bool→Prop
 | none=>False
 | some false=>YD P ops Q r ⟨s.fr.put o.dst undef,s.df,s.h,s.rd⟩ tr
 | some true=>YSx P ops Q o r s tr (dOp P (evalF s.h.ng s.fr) o s.h)
def YLv (t:TypeId) (p:Value):Option Value→Prop
 | some v=>YD P ops Q r ⟨s.fr.put o.dst v,s.df,s.h,s.rd⟩ (tr++[.ld t p v])
 | none=>False
def YLa (t:TypeId):Option Value→Prop
 | some p=>YLv P ops Q o r s tr t p (dLoad P t p s.h)
 | none=>False
def YLo:Op→Prop
 | .load t a=>YLa P ops Q o r s tr t (evalF s.h.ng s.fr a)
 | _=>False
def YLw:Option Bool→Prop
 | none=>False
 | some false=>YD P ops Q r ⟨s.fr.put o.dst undef,s.df,s.h,s.rd⟩ (tr++[.no])
 | some true=>YLo P ops Q o r s tr o.op
def YEnd (rr:DEnd) (h':DHeap):Prop:=
 match rr with
 | .ret v=>YSt P tr h' st∧YD P ops Q r ⟨s.fr.put o.dst v,s.df,h',s.rd⟩ tr
 | .pan _=>False
def YCl (f:FuncId) (args:List Value) (h:DHeap):Prop:=∃ R,Ct P f args h R∧∀ rr h',R rr h'→YEnd P ops Q o st r s tr rr h'
def YBx:DR→Prop
 | .ok (.value v) h=>YSt P tr h st∧YD P ops Q r ⟨s.fr.put o.dst v,s.df,h,s.rd⟩ tr
 | .ok .skip h=>YSt P tr h st∧YD P ops Q r ⟨s.fr.put o.dst undef,s.df,h,s.rd⟩ tr
 | .ok (.enter f args) h=>YCl P ops Q o st r s tr f args h
 | _=>False
def YBw:Option Bool→Prop
 | none=>False
 | some false=>YD P ops Q r ⟨s.fr.put o.dst undef,s.df,s.h,s.rd⟩ tr
 | some true=>YBx P ops Q o st r s tr (dOp P (evalF s.h.ng s.fr) o s.h)
theorem YD_nil:YD P ops Q [] s tr=Q .normal s:=rfl
theorem YD_s (i:Nat):YD P ops Q (.s i o :: r) s tr=YSw P ops Q o r s tr (dWanted ops s.fr o):=rfl
theorem YD_l (i:Nat):YD P ops Q (.l i o :: r) s tr=YLw P ops Q o r s tr (dWanted ops s.fr o):=rfl
theorem YD_b (i:Nat):YD P ops Q (.b i o st :: r) s tr=YBw P ops Q o st r s tr (dWanted ops s.fr o):=rfl
theorem YSw_true:YSw P ops Q o r s tr (some true)=YSx P ops Q o r s tr (dOp P (evalF s.h.ng s.fr) o s.h):=rfl
theorem YSx_value (v:Value) (h:DHeap):YSx P ops Q o r s tr (.ok (.value v) h)=YD P ops Q r ⟨s.fr.put o.dst v,s.df,s.h,s.rd⟩ tr:=rfl
theorem YLw_true (d:Option Tmp) (t:TypeId) (a:Operand) (ty:TypeId) (pos:String) (aft:Array Edge) (gd:Option (Nat × Bool)):YLw P ops Q ⟨d,.load t a,ty,pos,aft,gd⟩ r s tr (some true)=YLa P ops Q ⟨d,.load t a,ty,pos,aft,gd⟩ r s tr t (evalF s.h.ng s.fr a):=rfl
theorem YLa_some (t:TypeId) (p:Value):YLa P ops Q o r s tr t (some p)=YLv P ops Q o r s tr t p (dLoad P t p s.h):=rfl
theorem YLv_some (t:TypeId) (p v:Value):YLv P ops Q o r s tr t p (some v)=YD P ops Q r ⟨s.fr.put o.dst v,s.df,s.h,s.rd⟩ (tr++[.ld t p v]):=rfl
theorem YBw_true:YBw P ops Q o st r s tr (some true)=YBx P ops Q o st r s tr (dOp P (evalF s.h.ng s.fr) o s.h):=rfl
theorem YBx_value (v:Value) (h:DHeap):YBx P ops Q o st r s tr (.ok (.value v) h)=(YSt P tr h st∧YD P ops Q r ⟨s.fr.put o.dst v,s.df,h,s.rd⟩ tr):=rfl
theorem YBx_skip (h:DHeap):YBx P ops Q o st r s tr (.ok .skip h)=(YSt P tr h st∧YD P ops Q r ⟨s.fr.put o.dst undef,s.df,h,s.rd⟩ tr):=rfl
theorem YBx_enter (f:FuncId) (args:List Value) (h:DHeap):YBx P ops Q o st r s tr (.ok (.enter f args) h)=YCl P ops Q o st r s tr f args h:=rfl
theorem YG_nil (K:St→List YT→Prop):YG P K [] s tr=K s tr:=rfl
theorem YSt_nil (h:DHeap):YSt P tr h []=True:=rfl
theorem YSt_cons (h:DHeap) (k:Nat) (ks:List Nat):YSt P tr h (k :: ks)=(YS1 P h tr[k]?∧YSt P tr h ks):=rfl
theorem YS1_ld (h:DHeap) (t:TypeId) (p v:Value):YS1 P h (some (.ld t p v))=(dLoad P t p h=some v):=rfl
theorem YS1_gh (h:DHeap) (id:Nat) (x:Option DObj):YS1 P h (some (.gh id x))=(h.get id=x):=rfl
end
section
variable {ops:Array Oper} {Q:DExit→St→Prop} {o:Oper} {st:List Nat} {r:List YO} {s:St} {tr:List YT}
theorem ycall_ct {f:FuncId} {args:List Value} {h:DHeap} {R:DEnd→DHeap→Prop} (hc:Ct P f args h R) (hx:∀ rr h',R rr h'→YEnd P ops Q o st r s tr rr h'):YCl P ops Q o st r s tr f args h:=⟨R,hc,hx⟩
theorem ycall {f:FuncId} {args:List Value} {h h':DHeap} {v:Value} (hc:DC P f args h (.ret v) h') (hx:YSt P tr h' st∧YD P ops Q r ⟨s.fr.put o.dst v,s.df,h',s.rd⟩ tr):YCl P ops Q o st r s tr f args h:=
 ⟨_,hc.ct (R:=fun rr h2=>rr=.ret v∧h2=h') ⟨rfl,rfl⟩,fun rr h2 ⟨e1,e2⟩=>by subst e1;subst e2;exact hx⟩
end
attribute [go_sem] YD_nil YD_s YD_l YD_b YSw_true YSx_value YLw_true YLa_some YLv_some YBw_true YBx_value YBx_skip YBx_enter YG_nil YG_cons YGa_some YSt_nil YSt_cons YS1_ld YS1_gh
end Go.D

namespace Go.Proofs.Ythjmkmoiopmfcaa
open Go.D
set_option maxRecDepth 100000
noncomputable def o3_0:Array Oper:=drawn Try.f3 0
noncomputable def r3_0:Code:=.region 1 o3_0 true
noncomputable def c3:Code:=
 .seq (rg [mo 3 (.box 26 (T 0)),
 mo 6 (.assign (.const (.bool false)))])
 (.seq (r3_0)
 (.ret))
def c4:Code:=
 .seq (rg [mo 6 (.assign (.const (.bool false)))])
 (.seq (rg [mo 12 (.move (T 0)),
 mo 13 (.move (T 1)),
 mo 14 (.move (T 2)),
 mo 15 (.call ⟨(.value (.func 15)),#[(T 12),(T 13),(T 14)],#[3,2,2]⟩),
 mo 11 (.move (T 15)),
 mo 16 (.extract (T 11) 0),
 mo 17 (.extract (T 11) 1),
 mo 7 (.assign (T 16)),
 mo 8 (.assign (T 17))])
 (.seq (rg [mo 19 (.move (T 0)),
 mo 20 (.move (T 1)),
 mo 21 (.move (T 2)),
 mo 22 (.call ⟨(.value (.func 16)),#[(T 19),(T 20),(T 21)],#[3,2,2]⟩),
 mo 18 (.move (T 22)),
 mo 23 (.extract (T 18) 0),
 mo 24 (.extract (T 18) 1),
 mo 9 (.assign (T 23)),
 mo 10 (.assign (T 24))])
 (.seq (rg [mo 25 (.call ⟨(.value (.func 11)),#[],#[]⟩),
 mo 26 (.move (T 25)),
 mg 27 1 true (.move (T 7)),
 mg 28 1 true (.move (T 9)),
 mg 29 1 true (.binOp .eql 2 (T 27) (T 28) 2),
 mo 30 (.pick (T 26) (T 29) (.const (.bool false))),
 mo 31 (.move (T 30)),
 mg 32 6 true (.move (T 8)),
 mg 33 6 true (.move (T 10)),
 mg 34 6 true (.binOp .eql 3 (T 32) (T 33) 3),
 mo 35 (.pick (T 31) (T 34) (.const (.bool false))),
 mo 36 (.move (T 35)),
 mg 37 11 true (.move (T 1)),
 mg 38 11 true (.move (T 2)),
 mg 39 11 true (.call ⟨(.value (.func 17)),#[(T 37),(T 38)],#[2,2]⟩),
 mg 40 11 true (.move (T 1)),
 mg 41 11 true (.move (T 2)),
 mg 42 11 true (.call ⟨(.value (.func 18)),#[(T 40),(T 41)],#[2,2]⟩),
 mg 43 11 true (.binOp .eql 2 (T 39) (T 42) 2),
 mo 44 (.pick (T 36) (T 43) (.const (.bool false))),
 mo 45 (.move (T 44)),
 mg 46 20 true (.move (T 1)),
 mg 47 20 true (.call ⟨(.value (.func 17)),#[(T 46),(.const (.int .i64 8))],#[2,2]⟩),
 mg 48 20 true (.move (T 1)),
 mg 49 20 true (.convert 2 38 (T 48)),
 mg 50 20 true (.convert 38 2 (T 49)),
 mg 51 20 true (.binOp .eql 2 (T 47) (T 50) 2),
 mo 52 (.pick (T 45) (T 51) (.const (.bool false))),
 mo 53 (.move (T 52)),
 mg 54 28 true (.move (T 1)),
 mg 55 28 true (.call ⟨(.value (.func 17)),#[(T 54),(.const (.int .i64 16))],#[2,2]⟩),
 mg 56 28 true (.move (T 1)),
 mg 57 28 true (.convert 2 39 (T 56)),
 mg 58 28 true (.convert 39 2 (T 57)),
 mg 59 28 true (.binOp .eql 2 (T 55) (T 58) 2),
 mo 60 (.pick (T 53) (T 59) (.const (.bool false))),
 mo 61 (.move (T 60)),
 mg 62 36 true (.move (T 1)),
 mg 63 36 true (.call ⟨(.value (.func 17)),#[(T 62),(.const (.int .i64 32))],#[2,2]⟩),
 mg 64 36 true (.move (T 1)),
 mg 65 36 true (.convert 2 21 (T 64)),
 mg 66 36 true (.convert 21 2 (T 65)),
 mg 67 36 true (.binOp .eql 2 (T 63) (T 66) 2),
 mo 68 (.pick (T 61) (T 67) (.const (.bool false))),
 mo 6 (.assign (T 68))])
 (.ret))))
def c5:Code:=
 .seq (rg [mo 4 (.box 26 (T 0)),
 mo 8 (.assign (.const (.bool false)))])
 (.seq (rg [mo 11 (.load 26 (T 4)),
 mo 12 (.move (T 1)),
 mo 13 (.move (T 2)),
 mo 14 (.convert 41 3 (T 13)),
 mo 15 (.call ⟨(.value (.func 13)),#[(T 11),(T 12),(T 14)],#[26,27,3]⟩),
 mo 9 (.alloc 32),
 mx (.store 32 (T 9) (T 15))])
 (.seq (rg [mo 16 (.load 26 (T 4)),
 mo 17 (.move (T 1)),
 mo 18 (.move (T 2)),
 mo 19 (.convert 41 3 (T 18)),
 mo 20 (.move (T 3)),
 mo 21 (.convert 41 3 (T 20)),
 mo 22 (.binOp .add 3 (T 19) (T 21) 3),
 mo 23 (.call ⟨(.value (.func 13)),#[(T 16),(T 17),(T 22)],#[26,27,3]⟩),
 mo 10 (.alloc 32),
 mx (.store 32 (T 10) (T 23))])
 (.seq (.seq (rg [mo 24 (.call ⟨(.value (.func 11)),#[],#[]⟩),
 mo 25 (.unOp .not 4 (T 24)),
 mo 26 (.move (T 25)),
 mg 27 2 false (.fieldAddr 32 (T 9) 3),
 mg 28 2 false (.load 3 (T 27)),
 mg 29 2 false (.binOp .lss 3 (T 28) (.const (.int .i64 0)) 3),
 mo 30 (.pick (T 26) (.const (.bool true)) (T 29)),
 mo 31 (.move (T 30)),
 mg 32 7 false (.fieldAddr 32 (T 9) 3),
 mg 33 7 false (.load 3 (T 32)),
 mg 34 7 false (.move (T 2)),
 mg 35 7 false (.convert 41 3 (T 34)),
 mtg 36 3 7 false (.call ⟨(.builtin .min),#[(T 35),(.const (.int .i64 4096))],#[3,3]⟩),
 mg 37 7 false (.binOp .gtr 3 (T 33) (T 36) 3),
 mo 38 (.pick (T 31) (.const (.bool true)) (T 37))])
 (.cond (T 38) (.seq (rg [mo 8 (.assign (.const (.bool false)))])
 (.ret))
 (.skip)))
 (.seq (.seq (rg [mo 39 (.fieldAddr 32 (T 9) 0),
 mo 40 (.load 3 (T 39)),
 mo 41 (.binOp .neq 3 (T 40) (.const (.int .i64 0)) 3),
 mo 42 (.move (T 41)),
 mg 43 3 true (.fieldAddr 32 (T 9) 1),
 mg 44 3 true (.load 23 (T 43)),
 mg 45 3 true (.call ⟨(.builtin .len),#[(T 44)],#[23]⟩),
 mg 46 3 true (.binOp .neq 3 (T 45) (.const (.int .i64 0)) 3),
 mg 47 3 true (.move (T 46)),
 mg 48 8 false (.fieldAddr 32 (T 9) 2),
 mg 49 8 false (.load 30 (T 48)),
 mg 50 8 false (.call ⟨(.builtin .len),#[(T 49)],#[30]⟩),
 mg 51 8 false (.binOp .neq 3 (T 50) (.const (.int .i64 0)) 3),
 mg 52 3 true (.pick (T 47) (.const (.bool true)) (T 51)),
 mo 53 (.pick (T 42) (T 52) (.const (.bool false)))])
 (.cond (T 53) (.seq (rg [mo 8 (.assign (.const (.bool false)))])
 (.ret))
 (.skip)))
 (.seq (rg [mo 54 (.fieldAddr 32 (T 9) 0),
 mo 55 (.load 3 (T 54)),
 mo 56 (.binOp .eql 3 (T 55) (.const (.int .i64 2)) 3),
 mo 57 (.move (T 56)),
 mg 58 3 false (.load 32 (T 9)),
 mg 59 3 false (.load 32 (T 10)),
 mg 60 3 false (.call ⟨(.value (.func 12)),#[(T 58),(T 59)],#[32,32]⟩),
 mo 61 (.pick (T 57) (.const (.bool true)) (T 60)),
 mo 8 (.assign (T 61))])
 (.ret))))))
noncomputable def o6_0:Array Oper:=drawn Try.f6 0
noncomputable def r6_0:Code:=.region 11 o6_0 true
noncomputable def o6_1:Array Oper:=drawn Try.f6 1
noncomputable def r6_1:Code:=.region 16 o6_1 true
noncomputable def c6:Code:=
 .seq (rg [mo 3 (.box 26 (T 0)),
 mo 6 (.assign (.const (.bool false)))])
 (.seq (.seq (rg [mo 13 (.call ⟨(.value (.func 11)),#[],#[]⟩),
 mo 14 (.unOp .not 4 (T 13))])
 (.cond (T 14) (.seq (rg [mo 6 (.assign (.const (.bool false)))])
 (.ret))
 (.skip)))
 (.seq (rg [mo 15 (.load 26 (T 3)),
 mo 16 (.move (T 1)),
 mo 17 (.call ⟨(.value (.func 13)),#[(T 15),(T 16),(.const (.int .i64 4096))],#[26,27,3]⟩),
 mo 7 (.alloc 32),
 mx (.store 32 (T 7) (T 17))])
 (.seq (rg [mo 8 (.assign (.const (.slice none 0 0)))])
 (.seq (.seq (rg [mo 18 (.move (T 2)),
 mo 19 (.call ⟨(.builtin .len),#[(T 18)],#[27]⟩),
 mo 20 (.move (.const (.int .i64 0)))])
 (.block 0 (.loop (.seq (rg [mo 21 (.binOp .lss 3 (T 20) (T 19) 3)])
 (.seq (.cond (T 21) (.skip)
 (.exit 0))
 (.seq (.block 1 (.seq (rg [mo 22 (.indexAddr 27 (T 18) (T 20)),
 mo 23 (.load 46 (T 22)),
 mo 10 (.alloc 46),
 mx (.store 46 (T 10) (T 23))])
 (.seq (rg [mo 24 (.fieldAddr 26 (T 3) 4),
 mo 25 (.load 24 (T 24)),
 mo 26 (.fieldAddr 46 (T 10) 0),
 mo 27 (.load 44 (T 26)),
 mo 28 (.call ⟨(.value (.func 19)),#[(T 25),(T 27)],#[24,44]⟩),
 mo 29 (.unOp .not 4 (T 28))])
 (.cond (T 29) (rg [mo 30 (.move (T 8)),
 mo 31 (.load 46 (T 10)),
 mo 32 (.buildSlice 27 1 #[(0,(T 31))]),
 mo 33 (.call ⟨(.builtin .append),#[(T 30),(T 32)],#[27,27]⟩),
 mo 8 (.assign (T 33))])
 (.skip)))))
 (rg [mo 34 (.binOp .add 3 (T 20) (.const (.int .i64 1)) 3),
 mo 20 (.move (T 34))])))))))
 (.seq (.seq (r6_0)
 (.cond (T 53) (.seq (rg [mo 6 (.assign (.const (.bool false)))])
 (.ret))
 (.skip)))
 (.seq (.seq (rg [mo 54 (.fieldAddr 32 (T 7) 2),
 mo 55 (.load 30 (T 54)),
 mo 56 (.call ⟨(.builtin .len),#[(T 55)],#[30]⟩),
 mo 57 (.move (.const (.int .i64 0)))])
 (.block 2 (.loop (.seq (rg [mo 58 (.binOp .lss 3 (T 57) (T 56) 3)])
 (.seq (.cond (T 58) (.skip)
 (.exit 2))
 (.seq (.block 3 (.seq (rg [mo 59 (.move (T 57)),
 mo 60 (.indexAddr 30 (T 55) (T 57)),
 mo 61 (.load 51 (T 60)),
 mo 12 (.alloc 51),
 mo 11 (.assign (T 59)),
 mx (.store 51 (T 12) (T 61))])
 (.seq (r6_1)
 (.cond (T 84) (.seq (rg [mo 6 (.assign (.const (.bool false)))])
 (.ret))
 (.skip)))))
 (rg [mo 85 (.binOp .add 3 (T 57) (.const (.int .i64 1)) 3),
 mo 57 (.move (T 85))])))))))
 (.seq (rg [mo 86 (.load 26 (T 3)),
 mo 87 (.call ⟨(.value (.func 23)),#[(T 86)],#[26]⟩),
 mo 88 (.binOp .eql 53 (T 87) (.const (.int .i64 0)) 53),
 mo 89 (.move (T 88)),
 mg 90 3 false (.fieldAddr 32 (T 7) 0),
 mg 91 3 false (.load 3 (T 90)),
 mg 92 3 false (.binOp .eql 3 (T 91) (.const (.int .i64 1)) 3),
 mo 93 (.pick (T 89) (.const (.bool true)) (T 92)),
 mo 6 (.assign (T 93))])
 (.ret))))))))
noncomputable def o7_0:Array Oper:=drawn Try.f7 0
noncomputable def r7_0:Code:=.region 1 o7_0 true
noncomputable def c7:Code:=
 .seq (rg [mo 2 (.box 32 (T 0)),
 mo 3 (.box 32 (T 1)),
 mo 4 (.assign (.const (.bool false)))])
 (.seq (r7_0)
 (.ret))
noncomputable def o10_0:Array Oper:=drawn Try.f10 0
def g10_0:List (Nat × Tmp × TypeId):=[]
def q10_0:List YO:=[.s 0 (mo 42 (.move (T 1))),
 .s 1 (mo 43 (.move (T 2))),
 .l 3 (mo 45 (.load 26 (T 3))),
 .s 4 (mo 46 (.move (T 1))),
 .s 8 (mo 50 (.move (.const (.int .i64 0)))),
 .b 2 (mo 44 (.call ⟨(.value (.func 29)),#[(T 42),(T 43)],#[27,30]⟩)) [0],
 .b 5 (mo 47 (.call ⟨(.value (.func 21)),#[(T 45),(T 46)],#[26,27]⟩)) [],
 .b 6 (mo 48 (.buildSlice 69 2 #[(0,(T 44)),(1,(T 47))])) [],
 .b 7 (mo 49 (.call ⟨(.builtin .len),#[(T 48)],#[69]⟩)) []]
def l10_0:List Oper:=[mo 42 (.move (T 1)),
 mo 43 (.move (T 2)),
 mo 44 (.call ⟨(.value (.func 29)),#[(T 42),(T 43)],#[27,30]⟩),
 mo 45 (.load 26 (T 3)),
 mo 46 (.move (T 1)),
 mo 47 (.call ⟨(.value (.func 21)),#[(T 45),(T 46)],#[26,27]⟩),
 mo 48 (.buildSlice 69 2 #[(0,(T 44)),(1,(T 47))]),
 mo 49 (.call ⟨(.builtin .len),#[(T 48)],#[69]⟩),
 mo 50 (.move (.const (.int .i64 0)))]
noncomputable def r10_0:Code:=.region 11 o10_0 true
theorem xr_10_0 {Q:DExit→St→Prop} {s:St}:xs Try.prog 87 r10_0 Q s=NC Try.prog 87 r10_0 Q s:=rfl
theorem yr_10_0 {Q:DExit→St→Prop} {s:St} (hdf:s.df=[]) (h:YG Try.prog (YD Try.prog l10_0.toArray Q q10_0) g10_0 s []):NC Try.prog 87 r10_0 Q s:=
 NC.yd (l:=l10_0) (b:=[0,0,3,0,0,31,63,127,0]) (by kernel_rfl) (by kernel_rfl) (by kernel_rfl) (by kernel_rfl) (by kernel_rfl) (by kernel_rfl) (by kernel_rfl) (by kernel_rfl) hdf h
attribute [go_sem] xr_10_0
noncomputable def c10:Code:=
 .seq (rg [mo 3 (.box 26 (T 0)),
 mo 6 (.assign (.const (.bool false)))])
 (.seq (.seq (rg [mo 15 (.call ⟨(.value (.func 11)),#[],#[]⟩),
 mo 16 (.unOp .not 4 (T 15))])
 (.cond (T 16) (.seq (rg [mo 6 (.assign (.const (.bool false)))])
 (.ret))
 (.skip)))
 (.seq (rg [mo 17 (.move (T 1)),
 mo 18 (.call ⟨(.value (.func 20)),#[(T 17)],#[27]⟩),
 mo 19 (.move (T 2)),
 mo 20 (.call ⟨(.value (.func 32)),#[(T 19)],#[30]⟩),
 mo 7 (.assign (T 18)),
 mo 8 (.assign (T 20))])
 (.seq (rg [mo 21 (.load 26 (T 3)),
 mo 22 (.call ⟨(.value (.func 33)),#[(T 21)],#[26]⟩),
 mo 9 (.alloc 26),
 mx (.store 26 (T 9) (T 22))])
 (.seq (rg [mo 23 (.load 26 (T 3)),
 mo 24 (.move (T 1)),
 mo 25 (.call ⟨(.value (.func 13)),#[(T 23),(T 24),(.const (.int .i64 50))],#[26,27,3]⟩),
 mo 10 (.alloc 32),
 mx (.store 32 (T 10) (T 25))])
 (.seq (.seq (rg [mo 26 (.fieldAddr 32 (T 10) 2),
 mo 27 (.load 30 (T 26)),
 mo 28 (.call ⟨(.builtin .len),#[(T 27)],#[30]⟩),
 mo 29 (.move (.const (.int .i64 0)))])
 (.block 0 (.loop (.seq (rg [mo 30 (.binOp .lss 3 (T 29) (T 28) 3)])
 (.seq (.cond (T 30) (.skip)
 (.exit 0))
 (.seq (.block 1 (.seq (rg [mo 31 (.move (T 29)),
 mo 11 (.assign (T 31))])
 (rg [mo 32 (.fieldAddr 32 (T 10) 2),
 mo 33 (.load 30 (T 32)),
 mo 34 (.move (T 11)),
 mo 35 (.indexAddr 30 (T 33) (T 34)),
 mo 36 (.fieldAddr 51 (T 35) 1),
 mo 37 (.load 2 (T 36)),
 mo 38 (.binOp .add 2 (T 37) (.const (.int .i64 1)) 2),
 mo 39 (.indexAddr 30 (T 33) (T 34)),
 mo 40 (.fieldAddr 51 (T 39) 1),
 mx (.store 2 (T 40) (T 38))])))
 (rg [mo 41 (.binOp .add 3 (T 29) (.const (.int .i64 1)) 3),
 mo 29 (.move (T 41))])))))))
 (.seq (.seq (r10_0)
 (.block 2 (.loop (.seq (rg [mo 51 (.binOp .lss 3 (T 50) (T 49) 3)])
 (.seq (.cond (T 51) (.skip)
 (.exit 2))
 (.seq (.block 3 (.seq (rg [mo 52 (.indexAddr 69 (T 48) (T 50)),
 mo 53 (.load 27 (T 52)),
 mo 13 (.assign (T 53))])
 (.seq (rg [mo 54 (.move (T 13)),
 mo 55 (.call ⟨(.builtin .len),#[(T 54)],#[27]⟩),
 mo 56 (.move (.const (.int .i64 0)))])
 (.block 4 (.loop (.seq (rg [mo 57 (.binOp .lss 3 (T 56) (T 55) 3)])
 (.seq (.cond (T 57) (.skip)
 (.exit 4))
 (.seq (.block 5 (.seq (rg [mo 58 (.move (T 56)),
 mo 14 (.assign (T 58))])
 (rg [mo 59 (.move (T 13)),
 mo 60 (.move (T 14)),
 mo 61 (.indexAddr 27 (T 59) (T 60)),
 mo 62 (.fieldAddr 46 (T 61) 1),
 mo 63 (.load 2 (T 62)),
 mo 64 (.binOp .add 2 (T 63) (.const (.int .i64 1)) 2),
 mo 65 (.indexAddr 27 (T 59) (T 60)),
 mo 66 (.fieldAddr 46 (T 65) 1),
 mx (.store 2 (T 66) (T 64))])))
 (rg [mo 67 (.binOp .add 3 (T 56) (.const (.int .i64 1)) 3),
 mo 56 (.move (T 67))])))))))))
 (rg [mo 68 (.binOp .add 3 (T 50) (.const (.int .i64 1)) 3),
 mo 50 (.move (T 68))])))))))
 (.seq (rg [mo 69 (.move (T 1)),
 mo 70 (.move (T 7)),
 mo 71 (.call ⟨(.value (.func 28)),#[(T 69),(T 70)],#[27,27]⟩),
 mo 72 (.move (T 71)),
 mg 73 3 true (.move (T 2)),
 mg 74 3 true (.move (T 8)),
 mg 75 3 true (.call ⟨(.value (.func 25)),#[(T 73),(T 74)],#[30,30]⟩),
 mo 76 (.pick (T 72) (T 75) (.const (.bool false))),
 mo 77 (.move (T 76)),
 mg 78 8 true (.load 26 (T 3)),
 mg 79 8 true (.load 26 (T 9)),
 mg 80 8 true (.call ⟨(.value (.func 34)),#[(T 78),(T 79)],#[26,26]⟩),
 mo 81 (.pick (T 77) (T 80) (.const (.bool false))),
 mo 82 (.move (T 81)),
 mg 83 13 true (.move (T 1)),
 mg 84 13 true (.move (T 7)),
 mg 85 13 true (.call ⟨(.value (.func 35)),#[(T 83),(T 84)],#[27,27]⟩),
 mo 86 (.pick (T 82) (T 85) (.const (.bool false))),
 mo 6 (.assign (T 86))])
 (.ret))))))))
theorem body_10:Try.f10.body.map strip=some c10:=by kernel_rfl
theorem go_10:GoC Try.prog 10 87 c10 [(.tmp 6)]:=
 GoC.of (fn:=Try.f10) (by kernel_rfl) body_10 (by kernel_rfl) (by kernel_rfl) (by kernel_rfl)
def c11:Code:=
 .seq (rg [mo 0 (.assign (.const (.bool false)))])
 (.seq (rg [mo 2 (.call ⟨(.value (.func 36)),#[],#[]⟩),
 mo 3 (.call ⟨(.value (.func 13)),#[(T 2),(.const (.slice none 0 0)),(.const (.int .i64 9))],#[26,27,3]⟩),
 mo 1 (.alloc 32),
 mx (.store 32 (T 1) (T 3))])
 (.seq (rg [mo 4 (.fieldAddr 32 (T 1) 0),
 mo 5 (.load 3 (T 4)),
 mo 6 (.binOp .eql 3 (T 5) (.const (.int .i64 0)) 3),
 mo 7 (.move (T 6)),
 mg 8 3 true (.fieldAddr 32 (T 1) 1),
 mg 9 3 true (.load 23 (T 8)),
 mg 10 3 true (.buildSlice 23 1 #[(0,(.const (.int .i64 7)))]),
 mg 11 3 true (.call ⟨(.value (.func 37)),#[(T 9),(T 10)],#[23,23]⟩),
 mo 12 (.pick (T 7) (T 11) (.const (.bool false))),
 mo 13 (.move (T 12)),
 mg 14 9 true (.fieldAddr 32 (T 1) 2),
 mg 15 9 true (.load 30 (T 14)),
 mg 16 9 true (.call ⟨(.builtin .len),#[(T 15)],#[30]⟩),
 mg 17 9 true (.binOp .eql 3 (T 16) (.const (.int .i64 1)) 3),
 mo 18 (.pick (T 13) (T 17) (.const (.bool false))),
 mo 19 (.move (T 18)),
 mg 20 15 true (.fieldAddr 32 (T 1) 2),
 mg 21 15 true (.load 30 (T 20)),
 mg 22 15 true (.indexAddr 30 (T 21) (.const (.int .i64 0))),
 mg 23 15 true (.fieldAddr 51 (T 22) 1),
 mg 24 15 true (.load 2 (T 23)),
 mg 25 15 true (.binOp .eql 2 (T 24) (.const (.int .i64 7)) 2),
 mo 26 (.pick (T 19) (T 25) (.const (.bool false))),
 mo 27 (.move (T 26)),
 mg 28 23 true (.fieldAddr 32 (T 1) 3),
 mg 29 23 true (.load 3 (T 28)),
 mg 30 23 true (.binOp .eql 3 (T 29) (.const (.int .i64 4)) 3),
 mo 31 (.pick (T 27) (T 30) (.const (.bool false))),
 mo 0 (.assign (T 31))])
 (.ret)))
theorem body_11:Try.f11.body.map strip=some c11:=by kernel_rfl
theorem go_11:GoC Try.prog 11 32 c11 [(.tmp 0)]:=
 GoC.of (fn:=Try.f11) (by kernel_rfl) body_11 (by kernel_rfl) (by kernel_rfl) (by kernel_rfl)
noncomputable def o13_0:Array Oper:=drawn Try.f13 0
def g13_0:List (Nat × Tmp × TypeId):=[]
def q13_0:List YO:=[.s 0 (mo 43 (.move (T 9))),
 .s 1 (mo 44 (.nilCheck (T 43))),
 .s 2 (mo 45 (.fieldAddr 81 (T 44) 6)),
 .s 3 (mo 46 (.load 78 (T 45))),
 .s 4 (mo 47 (.fieldAddr 83 (T 11) 0)),
 .s 5 (mo 48 (.load 3 (T 47))),
 .s 6 (mo 49 (.move (T 10))),
 .b 7 (mx (.mapUpdate 78 (T 46) (T 48) (T 49))) []]
def l13_0:List Oper:=[mo 43 (.move (T 9)),
 mo 44 (.nilCheck (T 43)),
 mo 45 (.fieldAddr 81 (T 44) 6),
 mo 46 (.load 78 (T 45)),
 mo 47 (.fieldAddr 83 (T 11) 0),
 mo 48 (.load 3 (T 47)),
 mo 49 (.move (T 10)),
 mx (.mapUpdate 78 (T 46) (T 48) (T 49))]
noncomputable def r13_0:Code:=.region 8 o13_0 true
theorem xr_13_0 {Q:DExit→St→Prop} {s:St}:xs Try.prog 136 r13_0 Q s=NC Try.prog 136 r13_0 Q s:=rfl
theorem yr_13_0 {Q:DExit→St→Prop} {s:St} (hdf:s.df=[]) (h:YG Try.prog (YD Try.prog l13_0.toArray Q q13_0) g13_0 s []):NC Try.prog 136 r13_0 Q s:=
 NC.yd (l:=l13_0) (b:=[0,1,3,7,0,16,0,127]) (by kernel_rfl) (by kernel_rfl) (by kernel_rfl) (by kernel_rfl) (by kernel_rfl) (by kernel_rfl) (by kernel_rfl) (by kernel_rfl) hdf h
attribute [go_sem] xr_13_0
noncomputable def o13_1:Array Oper:=drawn Try.f13 1
def g13_1:List (Nat × Tmp × TypeId):=[]
def q13_1:List YO:=[.s 0 (mo 59 (.move (T 9))),
 .s 1 (mo 60 (.nilCheck (T 59))),
 .s 2 (mo 61 (.fieldAddr 81 (T 60) 2)),
 .s 3 (mo 62 (.load 64 (T 61))),
 .s 4 (mo 63 (.fieldAddr 46 (T 13) 0)),
 .s 5 (mo 64 (.load 44 (T 63))),
 .s 6 (mo 65 (.fieldAddr 46 (T 13) 1)),
 .s 7 (mo 66 (.load 2 (T 65))),
 .b 8 (mx (.mapUpdate 64 (T 62) (T 64) (T 66))) []]
def l13_1:List Oper:=[mo 59 (.move (T 9)),
 mo 60 (.nilCheck (T 59)),
 mo 61 (.fieldAddr 81 (T 60) 2),
 mo 62 (.load 64 (T 61)),
 mo 63 (.fieldAddr 46 (T 13) 0),
 mo 64 (.load 44 (T 63)),
 mo 65 (.fieldAddr 46 (T 13) 1),
 mo 66 (.load 2 (T 65)),
 mx (.mapUpdate 64 (T 62) (T 64) (T 66))]
noncomputable def r13_1:Code:=.region 13 o13_1 true
theorem xr_13_1 {Q:DExit→St→Prop} {s:St}:xs Try.prog 136 r13_1 Q s=NC Try.prog 136 r13_1 Q s:=rfl
theorem yr_13_1 {Q:DExit→St→Prop} {s:St} (hdf:s.df=[]) (h:YG Try.prog (YD Try.prog l13_1.toArray Q q13_1) g13_1 s []):NC Try.prog 136 r13_1 Q s:=
 NC.yd (l:=l13_1) (b:=[0,1,3,7,0,16,0,64,255]) (by kernel_rfl) (by kernel_rfl) (by kernel_rfl) (by kernel_rfl) (by kernel_rfl) (by kernel_rfl) (by kernel_rfl) (by kernel_rfl) hdf h
attribute [go_sem] xr_13_1
noncomputable def o13_2:Array Oper:=drawn Try.f13 2
def g13_2:List (Nat × Tmp × TypeId):=[]
def q13_2:List YO:=[.s 0 (mo 128 (.move (T 9))),
 .s 1 (mo 129 (.nilCheck (T 128))),
 .s 2 (mo 130 (.fieldAddr 81 (T 129) 4)),
 .l 3 (mo 131 (.load 23 (T 130))),
 .s 4 (mo 132 (.move (T 17))),
 .s 6 (mo 134 (.move (T 14))),
 .b 5 (mo 133 (.call ⟨(.value (.func 26)),#[(T 132)],#[30]⟩)) [0],
 .s 7 (mo 135 (.build 32 #[(0,(.const (.int .i64 0))),(1,(T 131)),(2,(T 133)),(3,(T 134))])),
 .b 8 (mx (.store 32 (T 6) (T 135))) []]
def l13_2:List Oper:=[mo 128 (.move (T 9)),
 mo 129 (.nilCheck (T 128)),
 mo 130 (.fieldAddr 81 (T 129) 4),
 mo 131 (.load 23 (T 130)),
 mo 132 (.move (T 17)),
 mo 133 (.call ⟨(.value (.func 26)),#[(T 132)],#[30]⟩),
 mo 134 (.move (T 14)),
 mo 135 (.build 32 #[(0,(.const (.int .i64 0))),(1,(T 131)),(2,(T 133)),(3,(T 134))]),
 mx (.store 32 (T 6) (T 135))]
noncomputable def r13_2:Code:=.region 34 o13_2 true
theorem xr_13_2 {Q:DExit→St→Prop} {s:St}:xs Try.prog 136 r13_2 Q s=NC Try.prog 136 r13_2 Q s:=rfl
theorem yr_13_2 {Q:DExit→St→Prop} {s:St} (hdf:s.df=[]) (h:YG Try.prog (YD Try.prog l13_2.toArray Q q13_2) g13_2 s []):NC Try.prog 136 r13_2 Q s:=
 NC.yd (l:=l13_2) (b:=[0,1,3,7,0,16,0,127,255]) (by kernel_rfl) (by kernel_rfl) (by kernel_rfl) (by kernel_rfl) (by kernel_rfl) (by kernel_rfl) (by kernel_rfl) (by kernel_rfl) hdf h
attribute [go_sem] xr_13_2
noncomputable def c13:Code:=
 .seq (rg [mo 3 (.box 26 (T 0)),
 mo 6 (.alloc 32)])
 (.seq (.seq (rg [mo 20 (.load 26 (T 3)),
 mo 21 (.call ⟨(.value (.func 23)),#[(T 20)],#[26]⟩),
 mo 22 (.binOp .neq 53 (T 21) (.const (.int .i64 0)) 53)])
 (.cond (T 22) (.seq (rg [mo 23 (.build 32 #[(0,(.const (.int .i64 1)))]),
 mx (.store 32 (T 6) (T 23))])
 (.ret))
 (.skip)))
 (.seq (rg [mo 25 (.fieldAddr 26 (T 3) 2),
 mo 26 (.load 22 (T 25)),
 mo 27 (.call ⟨(.value (.func 39)),#[(T 26)],#[22]⟩),
 mo 24 (.move (T 27)),
 mo 28 (.extract (T 24) 0),
 mo 29 (.extract (T 24) 1),
 mo 7 (.assign (T 28)),
 mo 8 (.assign (T 29))])
 (.seq (rg [mo 30 (.load 26 (T 3)),
 mo 31 (.makeMap 64 none),
 mo 32 (.makeMap 63 none),
 mo 33 (.makeMap 78 none),
 mo 34 (.build 81 #[(0,(T 30)),(2,(T 31)),(3,(T 32)),(6,(T 33))]),
 mo 35 (.box 81 (T 34)),
 mo 9 (.assign (T 35))])
 (.seq (.seq (rg [mo 36 (.move (T 7)),
 mo 37 (.call ⟨(.builtin .len),#[(T 36)],#[74]⟩),
 mo 38 (.move (.const (.int .i64 0)))])
 (.block 0 (.loop (.seq (rg [mo 39 (.binOp .lss 3 (T 38) (T 37) 3)])
 (.seq (.cond (T 39) (.skip)
 (.exit 0))
 (.seq (.block 1 (.seq (rg [mo 40 (.move (T 38)),
 mo 41 (.indexAddr 74 (T 36) (T 38)),
 mo 42 (.load 83 (T 41)),
 mo 11 (.alloc 83),
 mo 10 (.assign (T 40)),
 mx (.store 83 (T 11) (T 42))])
 (r13_0)))
 (rg [mo 50 (.binOp .add 3 (T 38) (.const (.int .i64 1)) 3),
 mo 38 (.move (T 50))])))))))
 (.seq (.seq (rg [mo 51 (.load 26 (T 3)),
 mo 52 (.move (T 1)),
 mo 53 (.call ⟨(.value (.func 21)),#[(T 51),(T 52)],#[26,27]⟩),
 mo 54 (.call ⟨(.builtin .len),#[(T 53)],#[27]⟩),
 mo 55 (.move (.const (.int .i64 0)))])
 (.block 2 (.loop (.seq (rg [mo 56 (.binOp .lss 3 (T 55) (T 54) 3)])
 (.seq (.cond (T 56) (.skip)
 (.exit 2))
 (.seq (.block 3 (.seq (rg [mo 57 (.indexAddr 27 (T 53) (T 55)),
 mo 58 (.load 46 (T 57)),
 mo 13 (.alloc 46),
 mx (.store 46 (T 13) (T 58))])
 (r13_1)))
 (rg [mo 67 (.binOp .add 3 (T 55) (.const (.int .i64 1)) 3),
 mo 55 (.move (T 67))])))))))
 (.seq (rg [mo 68 (.move (T 2)),
 mt 69 3 (.call ⟨(.builtin .min),#[(T 68),(.const (.int .i64 4096))],#[3,3]⟩),
 mt 70 3 (.call ⟨(.builtin .max),#[(.const (.int .i64 0)),(T 69)],#[3,3]⟩),
 mo 2 (.assign (T 70))])
 (.seq (rg [mo 14 (.assign (.const (.int .i64 0)))])
 (.seq (.block 4 (.loop (.seq (.seq (rg [mo 71 (.move (T 9)),
 mo 72 (.nilCheck (T 71)),
 mo 73 (.fieldAddr 81 (T 72) 5),
 mo 74 (.load 3 (T 73)),
 mo 75 (.move (T 7)),
 mo 76 (.call ⟨(.builtin .len),#[(T 75)],#[74]⟩),
 mo 77 (.binOp .lss 3 (T 74) (T 76) 3)])
 (.cond (T 77) (.skip)
 (.exit 4)))
 (.block 5 (.seq (.seq (rg [mo 78 (.move (T 14)),
 mo 79 (.move (T 2)),
 mo 80 (.binOp .eql 3 (T 78) (T 79) 3)])
 (.cond (T 80) (.seq (rg [mo 81 (.move (T 14)),
 mo 82 (.build 32 #[(0,(.const (.int .i64 2))),(3,(T 81))]),
 mx (.store 32 (T 6) (T 82))])
 (.ret))
 (.skip)))
 (.seq (rg [mo 83 (.move (T 14)),
 mo 84 (.binOp .add 3 (T 83) (.const (.int .i64 1)) 3),
 mo 14 (.assign (T 84))])
 (.seq (rg [mo 85 (.move (T 7)),
 mo 86 (.move (T 9)),
 mo 87 (.nilCheck (T 86)),
 mo 88 (.fieldAddr 81 (T 87) 5),
 mo 89 (.load 3 (T 88)),
 mo 90 (.indexAddr 74 (T 85) (T 89)),
 mo 91 (.load 83 (T 90)),
 mo 15 (.alloc 83),
 mx (.store 83 (T 15) (T 91))])
 (.seq (rg [mo 92 (.move (T 9)),
 mo 93 (.nilCheck (T 92)),
 mo 94 (.fieldAddr 81 (T 93) 5),
 mo 95 (.load 3 (T 94)),
 mo 96 (.binOp .add 3 (T 95) (.const (.int .i64 1)) 3),
 mo 97 (.nilCheck (T 92)),
 mo 98 (.fieldAddr 81 (T 97) 5),
 mx (.store 3 (T 98) (T 96))])
 (.seq (rg [mo 99 (.move (T 9)),
 mo 100 (.load 83 (T 15)),
 mo 101 (.call ⟨(.value (.func 40)),#[(T 99),(T 100)],#[77,83]⟩),
 mo 16 (.assign (T 101))])
 (.seq (rg [mo 102 (.move (T 16))])
 (.block 6 (.seq (rg [mo 107 (.binOp .eql 3 (T 102) (.const (.int .i64 (-1))) 3),
 mo 106 (.assign (T 107))])
 (.cond (T 106) (.skip)
 (.seq (rg [mo 109 (.binOp .eql 3 (T 102) (.const (.int .i64 0)) 3),
 mo 108 (.assign (T 109))])
 (.cond (T 108) (rg [mo 110 (.move (T 9)),
 mo 111 (.move (T 7)),
 mo 112 (.call ⟨(.builtin .len),#[(T 111)],#[74]⟩),
 mo 113 (.nilCheck (T 110)),
 mo 114 (.fieldAddr 81 (T 113) 5),
 mx (.store 3 (T 114) (T 112))])
 (.seq (rg [mo 103 (.move (T 16)),
 mo 104 (.move (T 14)),
 mo 105 (.build 32 #[(0,(T 103)),(3,(T 104))]),
 mx (.store 32 (T 6) (T 105))])
 (.ret)))))))))))))))))
 (.seq (rg [mo 17 (.assign (.const (.slice none 0 0)))])
 (.seq (.seq (rg [mo 115 (.move (T 9)),
 mo 116 (.nilCheck (T 115)),
 mo 117 (.fieldAddr 81 (T 116) 3),
 mo 118 (.load 63 (T 117)),
 mo 119 (.range 63 (T 118))])
 (.block 7 (.loop (.seq (rg [mo 120 (.next (T 119) false),
 mo 121 (.extract (T 120) 0)])
 (.seq (.cond (T 121) (.skip)
 (.exit 7))
 (.block 8 (.seq (rg [mo 122 (.entry (T 119)),
 mo 123 (.extract (T 122) 1),
 mo 19 (.alloc 51),
 mx (.store 51 (T 19) (T 123))])
 (rg [mo 124 (.move (T 17)),
 mo 125 (.load 51 (T 19)),
 mo 126 (.buildSlice 30 1 #[(0,(T 125))]),
 mo 127 (.call ⟨(.builtin .append),#[(T 124),(T 126)],#[30,30]⟩),
 mo 17 (.assign (T 127))]))))))))
 (.seq (r13_2)
 (.ret))))))))))))
theorem body_13:Try.f13.body.map strip=some c13:=by kernel_rfl
theorem go_13:GoC Try.prog 13 136 c13 [(.cell 6 32)]:=
 GoC.of (fn:=Try.f13) (by kernel_rfl) body_13 (by kernel_rfl) (by kernel_rfl) (by kernel_rfl)
end Go.Proofs.Ythjmkmoiopmfcaa

namespace Go.Proofs.Ythjmkmoiopmfcaa
open Go.D
set_option maxRecDepth 100000
noncomputable def o14_0:Array Oper:=drawn Try.f14 0
noncomputable def r14_0:Code:=.region 3 o14_0 true
noncomputable def o14_1:Array Oper:=drawn Try.f14 1
noncomputable def r14_1:Code:=.region 6 o14_1 true
noncomputable def o14_2:Array Oper:=drawn Try.f14 2
noncomputable def r14_2:Code:=.region 9 o14_2 true
noncomputable def o14_3:Array Oper:=drawn Try.f14 3
noncomputable def r14_3:Code:=.region 15 o14_3 true
noncomputable def c14:Code:=
 .seq (rg [mo 3 (.box 26 (T 0)),
 mo 6 (.alloc 32)])
 (.seq (.seq (rg [mo 15 (.load 26 (T 3)),
 mo 16 (.call ⟨(.value (.func 41)),#[(T 15)],#[26]⟩),
 mo 17 (.binOp .neq 53 (T 16) (.const (.int .i64 0)) 53)])
 (.cond (T 17) (.seq (rg [mo 18 (.build 32 #[(0,(.const (.int .i64 1)))]),
 mx (.store 32 (T 6) (T 18))])
 (.ret))
 (.skip)))
 (.seq (r14_0)
 (.seq (rg [mo 25 (.move (T 2)),
 mt 26 3 (.call ⟨(.builtin .max),#[(T 25),(.const (.int .i64 0))],#[3,3]⟩),
 mt 27 3 (.call ⟨(.builtin .min),#[(T 26),(.const (.int .i64 4096))],#[3,3]⟩),
 mo 8 (.assign (T 27))])
 (.seq (rg [mo 9 (.assign (.const (.int .i64 0)))])
 (.seq (.block 0 (.loop (.seq (.seq (r14_1)
 (.cond (T 35) (.skip)
 (.exit 0)))
 (.block 1 (.seq (.seq (rg [mo 36 (.move (T 9)),
 mo 37 (.move (T 8)),
 mo 38 (.binOp .geq 3 (T 36) (T 37) 3)])
 (.cond (T 38) (.seq (rg [mo 39 (.move (T 9)),
 mo 40 (.build 32 #[(0,(.const (.int .i64 2))),(3,(T 39))]),
 mx (.store 32 (T 6) (T 40))])
 (.ret))
 (.skip)))
 (.seq (r14_2)
 (.seq (rg [mo 52 (.move (T 9)),
 mo 53 (.binOp .add 3 (T 52) (.const (.int .i64 1)) 3),
 mo 9 (.assign (T 53))])
 (.seq (rg [mo 55 (.move (T 7)),
 mo 56 (.load 83 (T 10)),
 mo 57 (.move (T 11)),
 mo 58 (.call ⟨(.value (.func 43)),#[(T 55),(T 56),(T 57)],#[85,83,3]⟩),
 mo 54 (.move (T 58)),
 mo 59 (.extract (T 54) 0),
 mo 60 (.extract (T 54) 1),
 mo 13 (.assign (T 59)),
 mo 14 (.assign (T 60))])
 (.seq (.seq (rg [mo 61 (.move (T 13)),
 mo 62 (.move (T 61)),
 mg 63 1 true (.move (T 14)),
 mg 64 1 true (.binOp .neq 3 (T 63) (.const (.int .i64 0)) 3),
 mo 65 (.pick (T 62) (T 64) (.const (.bool false)))])
 (.cond (T 65) (.seq (rg [mo 66 (.move (T 14)),
 mo 67 (.move (T 9)),
 mo 68 (.build 32 #[(0,(T 66)),(3,(T 67))]),
 mx (.store 32 (T 6) (T 68))])
 (.ret))
 (.skip)))
 (.seq (rg [mo 69 (.move (T 13))])
 (.cond (T 69) (.exit 0)
 (.skip))))))))))))
 (.seq (r14_3)
 (.ret)))))))
def c15:Code:=
 .seq (rg [mo 6 (.assign (.const (.int .i64 0))),
 mo 7 (.assign (.const (.int .i64 0)))])
 (.seq (rg [mo 12 (.move (T 2)),
 mo 13 (.convert 2 92 (T 12)),
 mo 14 (.binOp .and 92 (T 13) (.const (.int .u64 63)) 92),
 mo 8 (.assign (T 14))])
 (.seq (.seq (rg [mo 15 (.move (T 0))])
 (.block 0 (.seq (rg [mo 17 (.binOp .eql 3 (T 15) (.const (.int .i64 8)) 3),
 mo 16 (.assign (T 17))])
 (.cond (T 16) (.seq (rg [mo 18 (.move (T 1)),
 mo 19 (.move (T 2)),
 mo 20 (.binOp .add 2 (T 18) (T 19) 2),
 mo 6 (.assign (T 20)),
 mo 7 (.assign (.const (.int .i64 0)))])
 (.ret))
 (.seq (rg [mo 22 (.binOp .eql 3 (T 15) (.const (.int .i64 9)) 3),
 mo 21 (.assign (T 22))])
 (.cond (T 21) (.seq (rg [mo 23 (.move (T 1)),
 mo 24 (.move (T 2)),
 mo 25 (.binOp .sub 2 (T 23) (T 24) 2),
 mo 6 (.assign (T 25)),
 mo 7 (.assign (.const (.int .i64 0)))])
 (.ret))
 (.seq (rg [mo 27 (.binOp .eql 3 (T 15) (.const (.int .i64 10)) 3),
 mo 26 (.assign (T 27))])
 (.cond (T 26) (.seq (rg [mo 28 (.move (T 1)),
 mo 29 (.move (T 2)),
 mo 30 (.binOp .mul 2 (T 28) (T 29) 2),
 mo 6 (.assign (T 30)),
 mo 7 (.assign (.const (.int .i64 0)))])
 (.ret))
 (.seq (.seq (rg [mo 32 (.binOp .eql 3 (T 15) (.const (.int .i64 11)) 3),
 mo 31 (.assign (T 32))])
 (.cond (T 31) (.skip)
 (rg [mo 33 (.binOp .eql 3 (T 15) (.const (.int .i64 12)) 3),
 mo 31 (.assign (T 33))])))
 (.cond (T 31) (.seq (rg [mo 35 (.move (T 1)),
 mo 36 (.move (T 2)),
 mo 37 (.call ⟨(.value (.func 44)),#[(T 35),(T 36)],#[2,2]⟩),
 mo 34 (.move (T 37)),
 mo 38 (.extract (T 34) 0),
 mo 39 (.extract (T 34) 1),
 mo 40 (.extract (T 34) 2),
 mo 9 (.assign (T 38)),
 mo 10 (.assign (T 39)),
 mo 11 (.assign (T 40))])
 (.seq (.seq (rg [mo 41 (.move (T 11)),
 mo 42 (.unOp .not 4 (T 41))])
 (.cond (T 42) (.seq (rg [mo 6 (.assign (.const (.int .i64 0))),
 mo 7 (.assign (.const (.int .i64 3)))])
 (.ret))
 (.skip)))
 (.seq (.seq (rg [mo 43 (.move (T 0)),
 mo 44 (.binOp .eql 3 (T 43) (.const (.int .i64 11)) 3)])
 (.cond (T 44) (.seq (rg [mo 45 (.move (T 9)),
 mo 6 (.assign (T 45)),
 mo 7 (.assign (.const (.int .i64 0)))])
 (.ret))
 (.skip)))
 (.seq (rg [mo 46 (.move (T 10)),
 mo 6 (.assign (T 46)),
 mo 7 (.assign (.const (.int .i64 0)))])
 (.ret)))))
 (.seq (rg [mo 48 (.binOp .eql 3 (T 15) (.const (.int .i64 13)) 3),
 mo 47 (.assign (T 48))])
 (.cond (T 47) (.seq (rg [mo 49 (.move (T 1)),
 mo 50 (.move (T 2)),
 mo 51 (.binOp .and 2 (T 49) (T 50) 2),
 mo 6 (.assign (T 51)),
 mo 7 (.assign (.const (.int .i64 0)))])
 (.ret))
 (.seq (rg [mo 53 (.binOp .eql 3 (T 15) (.const (.int .i64 14)) 3),
 mo 52 (.assign (T 53))])
 (.cond (T 52) (.seq (rg [mo 54 (.move (T 1)),
 mo 55 (.move (T 2)),
 mo 56 (.binOp .or 2 (T 54) (T 55) 2),
 mo 6 (.assign (T 56)),
 mo 7 (.assign (.const (.int .i64 0)))])
 (.ret))
 (.seq (rg [mo 58 (.binOp .eql 3 (T 15) (.const (.int .i64 15)) 3),
 mo 57 (.assign (T 58))])
 (.cond (T 57) (.seq (rg [mo 59 (.move (T 1)),
 mo 60 (.move (T 2)),
 mo 61 (.binOp .xor 2 (T 59) (T 60) 2),
 mo 6 (.assign (T 61)),
 mo 7 (.assign (.const (.int .i64 0)))])
 (.ret))
 (.seq (rg [mo 63 (.binOp .eql 3 (T 15) (.const (.int .i64 16)) 3),
 mo 62 (.assign (T 63))])
 (.cond (T 62) (.seq (rg [mo 64 (.move (T 1)),
 mo 65 (.move (T 8)),
 mo 66 (.binOp .shl 2 (T 64) (T 65) 92),
 mo 6 (.assign (T 66)),
 mo 7 (.assign (.const (.int .i64 0)))])
 (.ret))
 (.seq (rg [mo 68 (.binOp .eql 3 (T 15) (.const (.int .i64 17)) 3),
 mo 67 (.assign (T 68))])
 (.cond (T 67) (.seq (rg [mo 69 (.move (T 1)),
 mo 70 (.move (T 8)),
 mo 71 (.binOp .shr 2 (T 69) (T 70) 92),
 mo 6 (.assign (T 71)),
 mo 7 (.assign (.const (.int .i64 0)))])
 (.ret))
 (.seq (rg [mo 73 (.binOp .eql 3 (T 15) (.const (.int .i64 18)) 3),
 mo 72 (.assign (T 73))])
 (.cond (T 72) (.seq (rg [mo 74 (.move (T 1)),
 mo 75 (.convert 2 92 (T 74)),
 mo 76 (.move (T 8)),
 mo 77 (.binOp .shr 92 (T 75) (T 76) 92),
 mo 78 (.convert 92 2 (T 77)),
 mo 6 (.assign (T 78)),
 mo 7 (.assign (.const (.int .i64 0)))])
 (.ret))
 (.seq (rg [mo 80 (.binOp .eql 3 (T 15) (.const (.int .i64 20)) 3),
 mo 79 (.assign (T 80))])
 (.cond (T 79) (.seq (rg [mo 81 (.move (T 1)),
 mo 82 (.move (T 2)),
 mo 83 (.binOp .lss 2 (T 81) (T 82) 2),
 mo 84 (.call ⟨(.value (.func 45)),#[(T 83)],#[4]⟩),
 mo 6 (.assign (T 84)),
 mo 7 (.assign (.const (.int .i64 0)))])
 (.ret))
 (.seq (rg [mo 86 (.binOp .eql 3 (T 15) (.const (.int .i64 21)) 3),
 mo 85 (.assign (T 86))])
 (.cond (T 85) (.seq (rg [mo 87 (.move (T 1)),
 mo 88 (.move (T 2)),
 mo 89 (.binOp .eql 2 (T 87) (T 88) 2),
 mo 90 (.call ⟨(.value (.func 45)),#[(T 89)],#[4]⟩),
 mo 6 (.assign (T 90)),
 mo 7 (.assign (.const (.int .i64 0)))])
 (.ret))
 (.skip)))))))))))))))))))))))))))
 (.seq (rg [mo 6 (.assign (.const (.int .i64 0))),
 mo 7 (.assign (.const (.int .i64 1)))])
 (.ret))))
theorem body_15:Try.f15.body.map strip=some c15:=by kernel_rfl
theorem go_15:GoC Try.prog 15 91 c15 [(.tmp 6),(.tmp 7)]:=
 GoC.of (fn:=Try.f15) (by kernel_rfl) body_15 (by kernel_rfl) (by kernel_rfl) (by kernel_rfl)
def c16:Code:=
 .seq (rg [mo 6 (.assign (.const (.int .i64 0))),
 mo 7 (.assign (.const (.int .i64 0)))])
 (.seq (rg [mo 9 (.move (T 2)),
 mo 10 (.binOp .and 2 (T 9) (.const (.int .i64 63)) 2),
 mo 11 (.convert 2 96 (T 10)),
 mo 8 (.assign (T 11))])
 (.seq (.seq (rg [mo 12 (.move (T 0))])
 (.block 0 (.seq (rg [mo 14 (.binOp .eql 3 (T 12) (.const (.int .i64 8)) 3),
 mo 13 (.assign (T 14))])
 (.cond (T 13) (.seq (rg [mo 15 (.move (T 1)),
 mo 16 (.move (T 2)),
 mo 17 (.binOp .add 2 (T 15) (T 16) 2),
 mo 6 (.assign (T 17)),
 mo 7 (.assign (.const (.int .i64 0)))])
 (.ret))
 (.seq (rg [mo 19 (.binOp .eql 3 (T 12) (.const (.int .i64 9)) 3),
 mo 18 (.assign (T 19))])
 (.cond (T 18) (.seq (rg [mo 20 (.move (T 1)),
 mo 21 (.move (T 2)),
 mo 22 (.binOp .sub 2 (T 20) (T 21) 2),
 mo 6 (.assign (T 22)),
 mo 7 (.assign (.const (.int .i64 0)))])
 (.ret))
 (.seq (rg [mo 24 (.binOp .eql 3 (T 12) (.const (.int .i64 10)) 3),
 mo 23 (.assign (T 24))])
 (.cond (T 23) (.seq (rg [mo 25 (.move (T 1)),
 mo 26 (.move (T 2)),
 mo 27 (.binOp .mul 2 (T 25) (T 26) 2),
 mo 6 (.assign (T 27)),
 mo 7 (.assign (.const (.int .i64 0)))])
 (.ret))
 (.seq (.seq (rg [mo 29 (.binOp .eql 3 (T 12) (.const (.int .i64 11)) 3),
 mo 28 (.assign (T 29))])
 (.cond (T 28) (.skip)
 (rg [mo 30 (.binOp .eql 3 (T 12) (.const (.int .i64 12)) 3),
 mo 28 (.assign (T 30))])))
 (.cond (T 28) (.seq (.seq (rg [mo 31 (.move (T 2)),
 mo 32 (.binOp .eql 2 (T 31) (.const (.int .i64 0)) 2)])
 (.cond (T 32) (.seq (rg [mo 6 (.assign (.const (.int .i64 0))),
 mo 7 (.assign (.const (.int .i64 3)))])
 (.ret))
 (.skip)))
 (.seq (.seq (rg [mo 33 (.move (T 0)),
 mo 34 (.binOp .eql 3 (T 33) (.const (.int .i64 12)) 3)])
 (.cond (T 34) (.seq (rg [mo 35 (.move (T 1)),
 mo 36 (.move (T 2)),
 mo 37 (.binOp .rem 2 (T 35) (T 36) 2),
 mo 6 (.assign (T 37)),
 mo 7 (.assign (.const (.int .i64 0)))])
 (.ret))
 (.skip)))
 (.seq (rg [mo 38 (.move (T 1)),
 mo 39 (.move (T 2)),
 mo 40 (.binOp .quo 2 (T 38) (T 39) 2),
 mo 6 (.assign (T 40)),
 mo 7 (.assign (.const (.int .i64 0)))])
 (.ret))))
 (.seq (rg [mo 42 (.binOp .eql 3 (T 12) (.const (.int .i64 13)) 3),
 mo 41 (.assign (T 42))])
 (.cond (T 41) (.seq (rg [mo 43 (.move (T 1)),
 mo 44 (.move (T 2)),
 mo 45 (.binOp .and 2 (T 43) (T 44) 2),
 mo 6 (.assign (T 45)),
 mo 7 (.assign (.const (.int .i64 0)))])
 (.ret))
 (.seq (rg [mo 47 (.binOp .eql 3 (T 12) (.const (.int .i64 14)) 3),
 mo 46 (.assign (T 47))])
 (.cond (T 46) (.seq (rg [mo 48 (.move (T 1)),
 mo 49 (.move (T 2)),
 mo 50 (.binOp .or 2 (T 48) (T 49) 2),
 mo 6 (.assign (T 50)),
 mo 7 (.assign (.const (.int .i64 0)))])
 (.ret))
 (.seq (rg [mo 52 (.binOp .eql 3 (T 12) (.const (.int .i64 15)) 3),
 mo 51 (.assign (T 52))])
 (.cond (T 51) (.seq (rg [mo 53 (.move (T 1)),
 mo 54 (.move (T 2)),
 mo 55 (.binOp .xor 2 (T 53) (T 54) 2),
 mo 6 (.assign (T 55)),
 mo 7 (.assign (.const (.int .i64 0)))])
 (.ret))
 (.seq (rg [mo 57 (.binOp .eql 3 (T 12) (.const (.int .i64 16)) 3),
 mo 56 (.assign (T 57))])
 (.cond (T 56) (.seq (rg [mo 58 (.move (T 1)),
 mo 59 (.move (T 8)),
 mo 60 (.binOp .shl 2 (T 58) (T 59) 96),
 mo 6 (.assign (T 60)),
 mo 7 (.assign (.const (.int .i64 0)))])
 (.ret))
 (.seq (rg [mo 62 (.binOp .eql 3 (T 12) (.const (.int .i64 17)) 3),
 mo 61 (.assign (T 62))])
 (.cond (T 61) (.seq (rg [mo 63 (.move (T 1)),
 mo 64 (.move (T 8)),
 mo 65 (.binOp .shr 2 (T 63) (T 64) 96),
 mo 6 (.assign (T 65)),
 mo 7 (.assign (.const (.int .i64 0)))])
 (.ret))
 (.seq (rg [mo 67 (.binOp .eql 3 (T 12) (.const (.int .i64 18)) 3),
 mo 66 (.assign (T 67))])
 (.cond (T 66) (.seq (rg [mo 68 (.move (T 1)),
 mo 69 (.convert 2 92 (T 68)),
 mo 70 (.move (T 8)),
 mo 71 (.binOp .shr 92 (T 69) (T 70) 96),
 mo 72 (.convert 92 2 (T 71)),
 mo 6 (.assign (T 72)),
 mo 7 (.assign (.const (.int .i64 0)))])
 (.ret))
 (.seq (rg [mo 74 (.binOp .eql 3 (T 12) (.const (.int .i64 20)) 3),
 mo 73 (.assign (T 74))])
 (.cond (T 73) (.seq (rg [mo 75 (.move (T 1)),
 mo 76 (.move (T 2)),
 mo 77 (.binOp .lss 2 (T 75) (T 76) 2),
 mo 78 (.call ⟨(.value (.func 46)),#[(T 77)],#[4]⟩),
 mo 6 (.assign (T 78)),
 mo 7 (.assign (.const (.int .i64 0)))])
 (.ret))
 (.seq (rg [mo 80 (.binOp .eql 3 (T 12) (.const (.int .i64 21)) 3),
 mo 79 (.assign (T 80))])
 (.cond (T 79) (.seq (rg [mo 81 (.move (T 1)),
 mo 82 (.move (T 2)),
 mo 83 (.binOp .eql 2 (T 81) (T 82) 2),
 mo 84 (.call ⟨(.value (.func 46)),#[(T 83)],#[4]⟩),
 mo 6 (.assign (T 84)),
 mo 7 (.assign (.const (.int .i64 0)))])
 (.ret))
 (.skip)))))))))))))))))))))))))))
 (.seq (rg [mo 6 (.assign (.const (.int .i64 0))),
 mo 7 (.assign (.const (.int .i64 1)))])
 (.ret))))
def c17:Code:=
 .seq (rg [mo 4 (.assign (.const (.int .i64 0)))])
 (.seq (.seq (rg [mo 5 (.move (T 1))])
 (.block 0 (.seq (rg [mo 7 (.binOp .eql 2 (T 5) (.const (.int .i64 8)) 2),
 mo 6 (.assign (T 7))])
 (.cond (T 6) (.seq (rg [mo 8 (.move (T 0)),
 mo 9 (.convert 2 38 (T 8)),
 mo 10 (.convert 38 2 (T 9)),
 mo 4 (.assign (T 10))])
 (.ret))
 (.seq (rg [mo 12 (.binOp .eql 2 (T 5) (.const (.int .i64 16)) 2),
 mo 11 (.assign (T 12))])
 (.cond (T 11) (.seq (rg [mo 13 (.move (T 0)),
 mo 14 (.convert 2 39 (T 13)),
 mo 15 (.convert 39 2 (T 14)),
 mo 4 (.assign (T 15))])
 (.ret))
 (.seq (rg [mo 17 (.binOp .eql 2 (T 5) (.const (.int .i64 32)) 2),
 mo 16 (.assign (T 17))])
 (.cond (T 16) (.seq (rg [mo 18 (.move (T 0)),
 mo 19 (.convert 2 21 (T 18)),
 mo 20 (.convert 21 2 (T 19)),
 mo 4 (.assign (T 20))])
 (.ret))
 (.skip)))))))))
 (.seq (rg [mo 21 (.move (T 0)),
 mo 4 (.assign (T 21))])
 (.ret)))
theorem body_17:Try.f17.body.map strip=some c17:=by kernel_rfl
theorem go_17:GoC Try.prog 17 22 c17 [(.tmp 4)]:=
 GoC.of (fn:=Try.f17) (by kernel_rfl) body_17 (by kernel_rfl) (by kernel_rfl) (by kernel_rfl)
def c18:Code:=
 .seq (rg [mo 4 (.assign (.const (.int .i64 0)))])
 (.seq (.seq (rg [mo 6 (.move (T 1)),
 mo 7 (.binOp .neq 2 (T 6) (.const (.int .i64 8)) 2),
 mo 8 (.move (T 7)),
 mg 9 2 true (.move (T 1)),
 mg 10 2 true (.binOp .neq 2 (T 9) (.const (.int .i64 16)) 2),
 mo 11 (.pick (T 8) (T 10) (.const (.bool false))),
 mo 12 (.move (T 11)),
 mg 13 6 true (.move (T 1)),
 mg 14 6 true (.binOp .neq 2 (T 13) (.const (.int .i64 32)) 2),
 mo 15 (.pick (T 12) (T 14) (.const (.bool false)))])
 (.cond (T 15) (.seq (rg [mo 16 (.move (T 0)),
 mo 4 (.assign (T 16))])
 (.ret))
 (.skip)))
 (.seq (rg [mo 17 (.move (T 1)),
 mo 18 (.binOp .sub 2 (.const (.int .i64 64)) (T 17) 2),
 mo 19 (.convert 2 96 (T 18)),
 mo 5 (.assign (T 19))])
 (.seq (rg [mo 20 (.move (T 0)),
 mo 21 (.move (T 5)),
 mo 22 (.binOp .shl 2 (T 20) (T 21) 96),
 mo 23 (.move (T 5)),
 mo 24 (.binOp .shr 2 (T 22) (T 23) 96),
 mo 4 (.assign (T 24))])
 (.ret))))
def c19:Code:=
 .seq (rg [mo 3 (.box 44 (T 1)),
 mo 4 (.assign (.const (.bool false)))])
 (.seq (rg [mo 5 (.move (T 0)),
 mo 6 (.load 44 (T 3)),
 mo 7 (.call ⟨(.value (.func 47)),#[(T 5),(T 6)],#[24,44]⟩),
 mo 8 (.binOp .geq 3 (T 7) (.const (.int .i64 0)) 3),
 mo 4 (.assign (T 8))])
 (.ret))
theorem body_19:Try.f19.body.map strip=some c19:=by kernel_rfl
theorem go_19:GoC Try.prog 19 9 c19 [(.tmp 4)]:=
 GoC.of (fn:=Try.f19) (by kernel_rfl) body_19 (by kernel_rfl) (by kernel_rfl) (by kernel_rfl)
def c20:Code:=
 .seq (rg [mo 2 (.assign (.const (.slice none 0 0)))])
 (.seq (.seq (rg [mo 3 (.move (T 0)),
 mo 4 (.binOp .eql 27 (T 3) (.const (.slice none 0 0)) 27)])
 (.cond (T 4) (.seq (rg [mo 2 (.assign (.const (.slice none 0 0)))])
 (.ret))
 (.skip)))
 (.seq (rg [mo 5 (.buildSlice 27 0 #[]),
 mo 6 (.move (T 0)),
 mo 7 (.call ⟨(.builtin .append),#[(T 5),(T 6)],#[27,27]⟩),
 mo 2 (.assign (T 7))])
 (.ret)))
theorem body_20:Try.f20.body.map strip=some c20:=by kernel_rfl
theorem go_20:GoC Try.prog 20 8 c20 [(.tmp 2)]:=
 GoC.of (fn:=Try.f20) (by kernel_rfl) body_20 (by kernel_rfl) (by kernel_rfl) (by kernel_rfl)
def c21:Code:=
 .seq (rg [mo 2 (.box 26 (T 0)),
 mo 4 (.assign (.const (.slice none 0 0)))])
 (.seq (rg [mo 5 (.move (T 1)),
 mo 6 (.call ⟨(.value (.func 49)),#[(T 5)],#[27]⟩),
 mo 7 (.makeFunc (.func 50) #[] #[(T 2)]),
 mo 8 (.call ⟨(.value (.func 48)),#[(T 6),(T 7)],#[27,100]⟩),
 mo 4 (.assign (T 8))])
 (.ret))
theorem body_21:Try.f21.body.map strip=some c21:=by kernel_rfl
theorem go_21:GoC Try.prog 21 9 c21 [(.tmp 4)]:=
 GoC.of (fn:=Try.f21) (by kernel_rfl) body_21 (by kernel_rfl) (by kernel_rfl) (by kernel_rfl)
def c22:Code:=
 .seq (rg [mo 2 (.box 44 (T 0)),
 mo 3 (.box 44 (T 1)),
 mo 4 (.assign (.const (.bool false)))])
 (.seq (rg [mo 5 (.fieldAddr 44 (T 2) 0),
 mo 6 (.load 21 (T 5)),
 mo 7 (.fieldAddr 44 (T 3) 0),
 mo 8 (.load 21 (T 7)),
 mo 9 (.binOp .lss 21 (T 6) (T 8) 21),
 mo 10 (.move (T 9)),
 mg 11 5 false (.fieldAddr 44 (T 2) 0),
 mg 12 5 false (.load 21 (T 11)),
 mg 13 5 false (.fieldAddr 44 (T 3) 0),
 mg 14 5 false (.load 21 (T 13)),
 mg 15 5 false (.binOp .eql 21 (T 12) (T 14) 21),
 mg 16 5 false (.move (T 15)),
 mg 17 11 true (.fieldAddr 44 (T 2) 1),
 mg 18 11 true (.load 2 (T 17)),
 mg 19 11 true (.fieldAddr 44 (T 3) 1),
 mg 20 11 true (.load 2 (T 19)),
 mg 21 11 true (.binOp .lss 2 (T 18) (T 20) 2),
 mg 22 5 false (.pick (T 16) (T 21) (.const (.bool false))),
 mo 23 (.pick (T 10) (.const (.bool true)) (T 22)),
 mo 4 (.assign (T 23))])
 (.ret))
def c23:Code:=
 .seq (rg [mo 1 (.box 26 (T 0)),
 mo 2 (.assign (.const (.int .i64 0)))])
 (.seq (.block 0 (.seq (rg [mo 9 (.fieldAddr 26 (T 1) 0),
 mo 10 (.load 2 (T 9)),
 mo 11 (.binOp .lss 2 (T 10) (.const (.int .i64 1)) 2),
 mo 12 (.move (T 11)),
 mg 13 3 false (.fieldAddr 26 (T 1) 0),
 mg 14 3 false (.load 2 (T 13)),
 mg 15 3 false (.binOp .gtr 2 (T 14) (.const (.int .i64 1099511627776)) 2),
 mo 16 (.pick (T 12) (.const (.bool true)) (T 15)),
 mo 17 (.move (T 16)),
 mg 18 8 false (.fieldAddr 26 (T 1) 1),
 mg 19 8 false (.load 2 (T 18)),
 mg 20 8 false (.binOp .lss 2 (T 19) (.const (.int .i64 1)) 2),
 mo 21 (.pick (T 17) (.const (.bool true)) (T 20)),
 mo 22 (.move (T 21)),
 mg 23 13 false (.fieldAddr 26 (T 1) 1),
 mg 24 13 false (.load 2 (T 23)),
 mg 25 13 false (.binOp .gtr 2 (T 24) (.const (.int .i64 1099511627776)) 2),
 mo 26 (.pick (T 22) (.const (.bool true)) (T 25)),
 mo 8 (.assign (T 26))])
 (.cond (T 8) (.seq (rg [mo 2 (.assign (.const (.int .i64 1)))])
 (.ret))
 (.seq (rg [mo 28 (.fieldAddr 26 (T 1) 3),
 mo 29 (.load 23 (T 28)),
 mo 30 (.call ⟨(.builtin .len),#[(T 29)],#[23]⟩),
 mo 31 (.binOp .gtr 3 (T 30) (.const (.int .i64 8)) 3),
 mo 32 (.move (T 31)),
 mg 33 4 false (.fieldAddr 26 (T 1) 4),
 mg 34 4 false (.load 24 (T 33)),
 mg 35 4 false (.call ⟨(.builtin .len),#[(T 34)],#[24]⟩),
 mg 36 4 false (.binOp .gtr 3 (T 35) (.const (.int .i64 16)) 3),
 mo 37 (.pick (T 32) (.const (.bool true)) (T 36)),
 mo 38 (.move (T 37)),
 mg 39 10 false (.fieldAddr 26 (T 1) 5),
 mg 40 10 false (.load 24 (T 39)),
 mg 41 10 false (.call ⟨(.builtin .len),#[(T 40)],#[24]⟩),
 mg 42 10 false (.binOp .gtr 3 (T 41) (.const (.int .i64 16)) 3),
 mo 43 (.pick (T 38) (.const (.bool true)) (T 42)),
 mo 27 (.assign (T 43))])
 (.cond (T 27) (.seq (rg [mo 2 (.assign (.const (.int .i64 3)))])
 (.ret))
 (.seq (rg [mo 45 (.fieldAddr 26 (T 1) 4),
 mo 46 (.load 24 (T 45)),
 mo 47 (.call ⟨(.value (.func 52)),#[(T 46)],#[24]⟩),
 mo 48 (.unOp .not 4 (T 47)),
 mo 49 (.move (T 48)),
 mg 50 4 false (.fieldAddr 26 (T 1) 5),
 mg 51 4 false (.load 24 (T 50)),
 mg 52 4 false (.call ⟨(.value (.func 52)),#[(T 51)],#[24]⟩),
 mg 53 4 false (.unOp .not 4 (T 52)),
 mo 54 (.pick (T 49) (.const (.bool true)) (T 53)),
 mo 44 (.assign (T 54))])
 (.cond (T 44) (.seq (rg [mo 2 (.assign (.const (.int .i64 1)))])
 (.ret))
 (.skip))))))))
 (.seq (rg [mo 56 (.fieldAddr 26 (T 1) 2),
 mo 57 (.load 22 (T 56)),
 mo 58 (.call ⟨(.value (.func 39)),#[(T 57)],#[22]⟩),
 mo 55 (.move (T 58)),
 mo 59 (.extract (T 55) 0),
 mo 60 (.extract (T 55) 1),
 mo 3 (.assign (T 59)),
 mo 4 (.assign (T 60))])
 (.seq (.seq (rg [mo 61 (.move (T 4)),
 mo 62 (.binOp .neq 53 (T 61) (.const (.int .i64 0)) 53)])
 (.cond (T 62) (.seq (rg [mo 63 (.move (T 4)),
 mo 2 (.assign (T 63))])
 (.ret))
 (.skip)))
 (.seq (.seq (rg [mo 64 (.move (T 3)),
 mo 65 (.call ⟨(.builtin .len),#[(T 64)],#[74]⟩),
 mo 66 (.move (.const (.int .i64 0)))])
 (.block 1 (.loop (.seq (rg [mo 67 (.binOp .lss 3 (T 66) (T 65) 3)])
 (.seq (.cond (T 67) (.skip)
 (.exit 1))
 (.seq (.block 2 (.seq (rg [mo 68 (.indexAddr 74 (T 64) (T 66)),
 mo 69 (.load 83 (T 68)),
 mo 6 (.alloc 83),
 mx (.store 83 (T 6) (T 69))])
 (.seq (rg [mo 7 (.assign (.const (.int .i64 1048576)))])
 (.seq (.seq (rg [mo 70 (.fieldAddr 83 (T 6) 1),
 mo 71 (.load 3 (T 70))])
 (.block 3 (.seq (.seq (rg [mo 73 (.binOp .eql 3 (T 71) (.const (.int .i64 3)) 3),
 mo 72 (.assign (T 73))])
 (.cond (T 72) (.skip)
 (rg [mo 74 (.binOp .eql 3 (T 71) (.const (.int .i64 4)) 3),
 mo 72 (.assign (T 74))])))
 (.cond (T 72) (rg [mo 75 (.fieldAddr 26 (T 1) 4),
 mo 76 (.load 24 (T 75)),
 mo 77 (.call ⟨(.builtin .len),#[(T 76)],#[24]⟩),
 mo 7 (.assign (T 77))])
 (.seq (.seq (rg [mo 79 (.binOp .eql 3 (T 71) (.const (.int .i64 5)) 3),
 mo 78 (.assign (T 79))])
 (.cond (T 78) (.skip)
 (rg [mo 80 (.binOp .eql 3 (T 71) (.const (.int .i64 6)) 3),
 mo 78 (.assign (T 80))])))
 (.cond (T 78) (rg [mo 81 (.fieldAddr 26 (T 1) 5),
 mo 82 (.load 24 (T 81)),
 mo 83 (.call ⟨(.builtin .len),#[(T 82)],#[24]⟩),
 mo 7 (.assign (T 83))])
 (.seq (rg [mo 85 (.binOp .eql 3 (T 71) (.const (.int .i64 2)) 3),
 mo 84 (.assign (T 85))])
 (.cond (T 84) (rg [mo 86 (.fieldAddr 26 (T 1) 3),
 mo 87 (.load 23 (T 86)),
 mo 88 (.call ⟨(.builtin .len),#[(T 87)],#[23]⟩),
 mo 7 (.assign (T 88))])
 (.skip)))))))))
 (.seq (rg [mo 89 (.fieldAddr 83 (T 6) 4),
 mo 90 (.load 2 (T 89)),
 mo 91 (.move (T 7)),
 mo 92 (.binOp .geq 2 (T 90) (T 91) 2)])
 (.cond (T 92) (.seq (rg [mo 2 (.assign (.const (.int .i64 132)))])
 (.ret))
 (.skip)))))))
 (rg [mo 93 (.binOp .add 3 (T 66) (.const (.int .i64 1)) 3),
 mo 66 (.move (T 93))])))))))
 (.seq (rg [mo 2 (.assign (.const (.int .i64 0)))])
 (.ret))))))
theorem body_23:Try.f23.body.map strip=some c23:=by kernel_rfl
theorem go_23:GoC Try.prog 23 94 c23 [(.tmp 2)]:=
 GoC.of (fn:=Try.f23) (by kernel_rfl) body_23 (by kernel_rfl) (by kernel_rfl) (by kernel_rfl)
def c24:Code:=
 .seq (rg [mo 2 (.box 32 (T 0)),
 mo 3 (.box 32 (T 1)),
 mo 4 (.assign (.const (.bool false)))])
 (.seq (rg [mo 5 (.fieldAddr 32 (T 2) 0),
 mo 6 (.load 3 (T 5)),
 mo 7 (.fieldAddr 32 (T 3) 0),
 mo 8 (.load 3 (T 7)),
 mo 9 (.binOp .eql 3 (T 6) (T 8) 3),
 mo 10 (.move (T 9)),
 mg 11 5 true (.fieldAddr 32 (T 2) 3),
 mg 12 5 true (.load 3 (T 11)),
 mg 13 5 true (.fieldAddr 32 (T 3) 3),
 mg 14 5 true (.load 3 (T 13)),
 mg 15 5 true (.binOp .eql 3 (T 12) (T 14) 3),
 mo 16 (.pick (T 10) (T 15) (.const (.bool false))),
 mo 17 (.move (T 16)),
 mg 18 12 true (.fieldAddr 32 (T 2) 1),
 mg 19 12 true (.load 23 (T 18)),
 mg 20 12 true (.fieldAddr 32 (T 3) 1),
 mg 21 12 true (.load 23 (T 20)),
 mg 22 12 true (.call ⟨(.value (.func 37)),#[(T 19),(T 21)],#[23,23]⟩),
 mo 23 (.pick (T 17) (T 22) (.const (.bool false))),
 mo 24 (.move (T 23)),
 mg 25 19 true (.fieldAddr 32 (T 2) 2),
 mg 26 19 true (.load 30 (T 25)),
 mg 27 19 true (.fieldAddr 32 (T 3) 2),
 mg 28 19 true (.load 30 (T 27)),
 mg 29 19 true (.call ⟨(.value (.func 25)),#[(T 26),(T 28)],#[30,30]⟩),
 mo 30 (.pick (T 24) (T 29) (.const (.bool false))),
 mo 4 (.assign (T 30))])
 (.ret))
noncomputable def o25_0:Array Oper:=drawn Try.f25 0
def g25_0:List (Nat × Tmp × TypeId):=[]
def q25_0:List YO:=[.s 0 (mo 16 (.move (T 0))),
 .s 1 (mo 17 (.move (T 5))),
 .s 2 (mo 18 (.indexAddr 30 (T 16) (T 17))),
 .s 3 (mo 19 (.load 51 (T 18))),
 .s 4 (mo 20 (.move (T 1))),
 .s 5 (mo 21 (.move (T 5))),
 .s 6 (mo 22 (.indexAddr 30 (T 20) (T 21))),
 .s 7 (mo 23 (.load 51 (T 22))),
 .s 8 (mo 24 (.binOp .neq 51 (T 19) (T 23) 51))]
def l25_0:List Oper:=[mo 16 (.move (T 0)),
 mo 17 (.move (T 5)),
 mo 18 (.indexAddr 30 (T 16) (T 17)),
 mo 19 (.load 51 (T 18)),
 mo 20 (.move (T 1)),
 mo 21 (.move (T 5)),
 mo 22 (.indexAddr 30 (T 20) (T 21)),
 mo 23 (.load 51 (T 22)),
 mo 24 (.binOp .neq 51 (T 19) (T 23) 51)]
noncomputable def r25_0:Code:=.region 6 o25_0 true
theorem xr_25_0 {Q:DExit→St→Prop} {s:St}:xs Try.prog 26 r25_0 Q s=NC Try.prog 26 r25_0 Q s:=rfl
theorem yr_25_0 {Q:DExit→St→Prop} {s:St} (hdf:s.df=[]) (h:YG Try.prog (YD Try.prog l25_0.toArray Q q25_0) g25_0 s []):NC Try.prog 26 r25_0 Q s:=
 NC.yd (l:=l25_0) (b:=[0,0,3,7,0,0,48,112,255]) (by kernel_rfl) (by kernel_rfl) (by kernel_rfl) (by kernel_rfl) (by kernel_rfl) (by kernel_rfl) (by kernel_rfl) (by kernel_rfl) hdf h
attribute [go_sem] xr_25_0
noncomputable def c25:Code:=
 .seq (rg [mo 4 (.assign (.const (.bool false)))])
 (.seq (.seq (rg [mo 6 (.move (T 0)),
 mo 7 (.call ⟨(.builtin .len),#[(T 6)],#[30]⟩),
 mo 8 (.move (T 1)),
 mo 9 (.call ⟨(.builtin .len),#[(T 8)],#[30]⟩),
 mo 10 (.binOp .neq 3 (T 7) (T 9) 3)])
 (.cond (T 10) (.seq (rg [mo 4 (.assign (.const (.bool false)))])
 (.ret))
 (.skip)))
 (.seq (.seq (rg [mo 11 (.move (T 0)),
 mo 12 (.call ⟨(.builtin .len),#[(T 11)],#[30]⟩),
 mo 13 (.move (.const (.int .i64 0)))])
 (.block 0 (.loop (.seq (rg [mo 14 (.binOp .lss 3 (T 13) (T 12) 3)])
 (.seq (.cond (T 14) (.skip)
 (.exit 0))
 (.seq (.block 1 (.seq (rg [mo 15 (.move (T 13)),
 mo 5 (.assign (T 15))])
 (.seq (r25_0)
 (.cond (T 24) (.seq (rg [mo 4 (.assign (.const (.bool false)))])
 (.ret))
 (.skip)))))
 (rg [mo 25 (.binOp .add 3 (T 13) (.const (.int .i64 1)) 3),
 mo 13 (.move (T 25))])))))))
 (.seq (rg [mo 4 (.assign (.const (.bool true)))])
 (.ret))))
theorem body_25:Try.f25.body.map strip=some c25:=by kernel_rfl
theorem go_25:GoC Try.prog 25 26 c25 [(.tmp 4)]:=
 GoC.of (fn:=Try.f25) (by kernel_rfl) body_25 (by kernel_rfl) (by kernel_rfl) (by kernel_rfl)
def c26:Code:=
 .seq (rg [mo 2 (.assign (.const (.slice none 0 0)))])
 (.seq (rg [mo 10 (.makeMap 63 none),
 mo 3 (.assign (T 10))])
 (.seq (rg [mo 4 (.assign (.const (.slice none 0 0)))])
 (.seq (.seq (rg [mo 11 (.move (T 0)),
 mo 12 (.call ⟨(.builtin .len),#[(T 11)],#[30]⟩),
 mo 13 (.move (.const (.int .i64 0)))])
 (.block 0 (.loop (.seq (rg [mo 14 (.binOp .lss 3 (T 13) (T 12) 3)])
 (.seq (.cond (T 14) (.skip)
 (.exit 0))
 (.seq (.block 1 (.seq (rg [mo 15 (.indexAddr 30 (T 11) (T 13)),
 mo 16 (.load 51 (T 15)),
 mo 6 (.alloc 51),
 mx (.store 51 (T 6) (T 16))])
 (.seq (rg [mo 17 (.move (T 3)),
 mo 18 (.fieldAddr 51 (T 6) 0),
 mo 19 (.load 44 (T 18)),
 mo 20 (.load 51 (T 6)),
 mx (.mapUpdate 63 (T 17) (T 19) (T 20))])
 (rg [mo 21 (.move (T 4)),
 mo 22 (.fieldAddr 51 (T 6) 0),
 mo 23 (.load 44 (T 22)),
 mo 24 (.buildSlice 24 1 #[(0,(T 23))]),
 mo 25 (.call ⟨(.builtin .append),#[(T 21),(T 24)],#[24,24]⟩),
 mo 4 (.assign (T 25))]))))
 (rg [mo 26 (.binOp .add 3 (T 13) (.const (.int .i64 1)) 3),
 mo 13 (.move (T 26))])))))))
 (.seq (rg [mo 7 (.assign (.const (.slice none 0 0)))])
 (.seq (.seq (rg [mo 27 (.move (T 4)),
 mo 28 (.call ⟨(.value (.func 53)),#[(T 27)],#[24]⟩),
 mo 29 (.call ⟨(.builtin .len),#[(T 28)],#[24]⟩),
 mo 30 (.move (.const (.int .i64 0)))])
 (.block 2 (.loop (.seq (rg [mo 31 (.binOp .lss 3 (T 30) (T 29) 3)])
 (.seq (.cond (T 31) (.skip)
 (.exit 2))
 (.seq (.block 3 (.seq (rg [mo 32 (.indexAddr 24 (T 28) (T 30)),
 mo 33 (.load 44 (T 32)),
 mo 9 (.alloc 44),
 mx (.store 44 (T 9) (T 33))])
 (rg [mo 34 (.move (T 7)),
 mo 35 (.move (T 3)),
 mo 36 (.load 44 (T 9)),
 mo 37 (.lookup 63 (T 35) (T 36) false),
 mo 38 (.buildSlice 30 1 #[(0,(T 37))]),
 mo 39 (.call ⟨(.builtin .append),#[(T 34),(T 38)],#[30,30]⟩),
 mo 7 (.assign (T 39))])))
 (rg [mo 40 (.binOp .add 3 (T 30) (.const (.int .i64 1)) 3),
 mo 30 (.move (T 40))])))))))
 (.seq (rg [mo 41 (.move (T 7)),
 mo 2 (.assign (T 41))])
 (.ret)))))))
theorem body_26:Try.f26.body.map strip=some c26:=by kernel_rfl
theorem go_26:GoC Try.prog 26 42 c26 [(.tmp 2)]:=
 GoC.of (fn:=Try.f26) (by kernel_rfl) body_26 (by kernel_rfl) (by kernel_rfl) (by kernel_rfl)
noncomputable def o27_0:Array Oper:=drawn Try.f27 0
noncomputable def r27_0:Code:=.region 6 o27_0 true
noncomputable def o27_1:Array Oper:=drawn Try.f27 1
noncomputable def r27_1:Code:=.region 10 o27_1 true
noncomputable def c27:Code:=
 .seq (rg [mo 2 (.assign (.const (.slice none 0 0)))])
 (.seq (rg [mo 3 (.assign (.const (.slice none 0 0)))])
 (.seq (.seq (rg [mo 4 (.assign (.const (.int .i64 0)))])
 (.block 0 (.loop (.seq (.seq (rg [mo 7 (.move (T 4)),
 mo 8 (.move (T 0)),
 mo 9 (.call ⟨(.builtin .len),#[(T 8)],#[30]⟩),
 mo 10 (.binOp .lss 3 (T 7) (T 9) 3)])
 (.cond (T 10) (.skip)
 (.exit 0)))
 (.seq (.block 1 (.seq (rg [mo 5 (.assign (.const (.int .i64 0)))])
 (.seq (.block 2 (.loop (.seq (.seq (r27_0)
 (.cond (T 29) (.skip)
 (.exit 2)))
 (.block 3 (rg [mo 30 (.move (T 5)),
 mo 31 (.binOp .add 3 (T 30) (.const (.int .i64 1)) 3),
 mo 5 (.assign (T 31))])))))
 (.seq (rg [mo 32 (.move (T 3)),
 mo 33 (.move (T 5)),
 mo 34 (.slice 30 (T 32) none (some (T 33)) none),
 mo 35 (.call ⟨(.builtin .append),#[(.const (.slice none 0 0)),(T 34)],#[30,30]⟩),
 mo 6 (.assign (T 35))])
 (.seq (rg [mo 36 (.move (T 6)),
 mo 37 (.move (T 0)),
 mo 38 (.move (T 4)),
 mo 39 (.indexAddr 30 (T 37) (T 38)),
 mo 40 (.load 51 (T 39)),
 mo 41 (.buildSlice 30 1 #[(0,(T 40))]),
 mo 42 (.call ⟨(.builtin .append),#[(T 36),(T 41)],#[30,30]⟩),
 mo 6 (.assign (T 42))])
 (.seq (.seq (r27_1)
 (.cond (T 59) (rg [mo 60 (.move (T 5)),
 mo 61 (.binOp .add 3 (T 60) (.const (.int .i64 1)) 3),
 mo 5 (.assign (T 61))])
 (.skip)))
 (rg [mo 62 (.move (T 6)),
 mo 63 (.move (T 3)),
 mo 64 (.move (T 5)),
 mo 65 (.slice 30 (T 63) (some (T 64)) none none),
 mo 66 (.call ⟨(.builtin .append),#[(T 62),(T 65)],#[30,30]⟩),
 mo 3 (.assign (T 66))])))))))
 (rg [mo 11 (.move (T 4)),
 mo 12 (.binOp .add 3 (T 11) (.const (.int .i64 1)) 3),
 mo 4 (.assign (T 12))]))))))
 (.seq (rg [mo 67 (.move (T 3)),
 mo 2 (.assign (T 67))])
 (.ret))))
noncomputable def o28_0:Array Oper:=drawn Try.f28 0
def g28_0:List (Nat × Tmp × TypeId):=[]
def q28_0:List YO:=[.s 0 (mo 16 (.move (T 0))),
 .s 1 (mo 17 (.move (T 5))),
 .s 2 (mo 18 (.indexAddr 27 (T 16) (T 17))),
 .s 3 (mo 19 (.load 46 (T 18))),
 .s 4 (mo 20 (.move (T 1))),
 .s 5 (mo 21 (.move (T 5))),
 .s 6 (mo 22 (.indexAddr 27 (T 20) (T 21))),
 .s 7 (mo 23 (.load 46 (T 22))),
 .s 8 (mo 24 (.binOp .neq 46 (T 19) (T 23) 46))]
def l28_0:List Oper:=[mo 16 (.move (T 0)),
 mo 17 (.move (T 5)),
 mo 18 (.indexAddr 27 (T 16) (T 17)),
 mo 19 (.load 46 (T 18)),
 mo 20 (.move (T 1)),
 mo 21 (.move (T 5)),
 mo 22 (.indexAddr 27 (T 20) (T 21)),
 mo 23 (.load 46 (T 22)),
 mo 24 (.binOp .neq 46 (T 19) (T 23) 46)]
noncomputable def r28_0:Code:=.region 6 o28_0 true
theorem xr_28_0 {Q:DExit→St→Prop} {s:St}:xs Try.prog 26 r28_0 Q s=NC Try.prog 26 r28_0 Q s:=rfl
theorem yr_28_0 {Q:DExit→St→Prop} {s:St} (hdf:s.df=[]) (h:YG Try.prog (YD Try.prog l28_0.toArray Q q28_0) g28_0 s []):NC Try.prog 26 r28_0 Q s:=
 NC.yd (l:=l28_0) (b:=[0,0,3,7,0,0,48,112,255]) (by kernel_rfl) (by kernel_rfl) (by kernel_rfl) (by kernel_rfl) (by kernel_rfl) (by kernel_rfl) (by kernel_rfl) (by kernel_rfl) hdf h
attribute [go_sem] xr_28_0
noncomputable def c28:Code:=
 .seq (rg [mo 4 (.assign (.const (.bool false)))])
 (.seq (.seq (rg [mo 6 (.move (T 0)),
 mo 7 (.call ⟨(.builtin .len),#[(T 6)],#[27]⟩),
 mo 8 (.move (T 1)),
 mo 9 (.call ⟨(.builtin .len),#[(T 8)],#[27]⟩),
 mo 10 (.binOp .neq 3 (T 7) (T 9) 3)])
 (.cond (T 10) (.seq (rg [mo 4 (.assign (.const (.bool false)))])
 (.ret))
 (.skip)))
 (.seq (.seq (rg [mo 11 (.move (T 0)),
 mo 12 (.call ⟨(.builtin .len),#[(T 11)],#[27]⟩),
 mo 13 (.move (.const (.int .i64 0)))])
 (.block 0 (.loop (.seq (rg [mo 14 (.binOp .lss 3 (T 13) (T 12) 3)])
 (.seq (.cond (T 14) (.skip)
 (.exit 0))
 (.seq (.block 1 (.seq (rg [mo 15 (.move (T 13)),
 mo 5 (.assign (T 15))])
 (.seq (r28_0)
 (.cond (T 24) (.seq (rg [mo 4 (.assign (.const (.bool false)))])
 (.ret))
 (.skip)))))
 (rg [mo 25 (.binOp .add 3 (T 13) (.const (.int .i64 1)) 3),
 mo 13 (.move (T 25))])))))))
 (.seq (rg [mo 4 (.assign (.const (.bool true)))])
 (.ret))))
theorem body_28:Try.f28.body.map strip=some c28:=by kernel_rfl
theorem go_28:GoC Try.prog 28 26 c28 [(.tmp 4)]:=
 GoC.of (fn:=Try.f28) (by kernel_rfl) body_28 (by kernel_rfl) (by kernel_rfl) (by kernel_rfl)
def c29:Code:=
 .seq (rg [mo 4 (.assign (.const (.slice none 0 0)))])
 (.seq (rg [mo 9 (.makeMap 103 none),
 mo 5 (.alloc 103),
 mx (.store 103 (T 5) (T 9))])
 (.seq (rg [mo 10 (.move (T 0)),
 mo 11 (.call ⟨(.value (.func 20)),#[(T 10)],#[27]⟩),
 mo 6 (.assign (T 11))])
 (.seq (.seq (rg [mo 12 (.move (T 1)),
 mo 13 (.call ⟨(.value (.func 26)),#[(T 12)],#[30]⟩),
 mo 14 (.call ⟨(.builtin .len),#[(T 13)],#[30]⟩),
 mo 15 (.move (.const (.int .i64 0)))])
 (.block 0 (.loop (.seq (rg [mo 16 (.binOp .lss 3 (T 15) (T 14) 3)])
 (.seq (.cond (T 16) (.skip)
 (.exit 0))
 (.seq (.block 1 (.seq (rg [mo 17 (.indexAddr 30 (T 13) (T 15)),
 mo 18 (.load 51 (T 17)),
 mo 8 (.alloc 51),
 mx (.store 51 (T 8) (T 18))])
 (.seq (rg [mo 19 (.load 103 (T 5)),
 mo 20 (.fieldAddr 51 (T 8) 0),
 mo 21 (.load 44 (T 20)),
 mo 22 (.fieldAddr 51 (T 8) 2),
 mo 23 (.load 4 (T 22)),
 mx (.mapUpdate 103 (T 19) (T 21) (T 23))])
 (.seq (rg [mo 24 (.fieldAddr 51 (T 8) 2),
 mo 25 (.load 4 (T 24)),
 mo 26 (.unOp .not 4 (T 25))])
 (.cond (T 26) (rg [mo 27 (.move (T 6)),
 mo 28 (.fieldAddr 51 (T 8) 0),
 mo 29 (.load 44 (T 28)),
 mo 30 (.fieldAddr 51 (T 8) 1),
 mo 31 (.load 2 (T 30)),
 mo 32 (.build 46 #[(0,(T 29)),(1,(T 31))]),
 mo 33 (.buildSlice 27 1 #[(0,(T 32))]),
 mo 34 (.call ⟨(.builtin .append),#[(T 27),(T 33)],#[27,27]⟩),
 mo 6 (.assign (T 34))])
 (.skip))))))
 (rg [mo 35 (.binOp .add 3 (T 15) (.const (.int .i64 1)) 3),
 mo 15 (.move (T 35))])))))))
 (.seq (rg [mo 36 (.move (T 6)),
 mo 37 (.call ⟨(.value (.func 49)),#[(T 36)],#[27]⟩),
 mo 38 (.makeFunc (.func 54) #[] #[(T 5)]),
 mo 39 (.call ⟨(.value (.func 48)),#[(T 37),(T 38)],#[27,100]⟩),
 mo 4 (.assign (T 39))])
 (.ret)))))
theorem body_29:Try.f29.body.map strip=some c29:=by kernel_rfl
theorem go_29:GoC Try.prog 29 40 c29 [(.tmp 4)]:=
 GoC.of (fn:=Try.f29) (by kernel_rfl) body_29 (by kernel_rfl) (by kernel_rfl) (by kernel_rfl)
def c32:Code:=
 .seq (rg [mo 2 (.assign (.const (.slice none 0 0)))])
 (.seq (.seq (rg [mo 3 (.move (T 0)),
 mo 4 (.binOp .eql 30 (T 3) (.const (.slice none 0 0)) 30)])
 (.cond (T 4) (.seq (rg [mo 2 (.assign (.const (.slice none 0 0)))])
 (.ret))
 (.skip)))
 (.seq (rg [mo 5 (.buildSlice 30 0 #[]),
 mo 6 (.move (T 0)),
 mo 7 (.call ⟨(.builtin .append),#[(T 5),(T 6)],#[30,30]⟩),
 mo 2 (.assign (T 7))])
 (.ret)))
theorem body_32:Try.f32.body.map strip=some c32:=by kernel_rfl
theorem go_32:GoC Try.prog 32 8 c32 [(.tmp 2)]:=
 GoC.of (fn:=Try.f32) (by kernel_rfl) body_32 (by kernel_rfl) (by kernel_rfl) (by kernel_rfl)
def c33:Code:=
 .seq (rg [mo 1 (.box 26 (T 0)),
 mo 2 (.alloc 26)])
 (.seq (rg [mo 3 (.fieldAddr 26 (T 1) 2),
 mo 4 (.load 22 (T 3)),
 mo 5 (.call ⟨(.builtin .append),#[(.const (.slice none 0 0)),(T 4)],#[22,22]⟩),
 mo 6 (.fieldAddr 26 (T 1) 2),
 mx (.store 22 (T 6) (T 5))])
 (.seq (rg [mo 7 (.fieldAddr 26 (T 1) 3),
 mo 8 (.load 23 (T 7)),
 mo 9 (.call ⟨(.builtin .append),#[(.const (.slice none 0 0)),(T 8)],#[23,23]⟩),
 mo 10 (.fieldAddr 26 (T 1) 3),
 mx (.store 23 (T 10) (T 9))])
 (.seq (rg [mo 11 (.fieldAddr 26 (T 1) 4),
 mo 12 (.load 24 (T 11)),
 mo 13 (.call ⟨(.builtin .append),#[(.const (.slice none 0 0)),(T 12)],#[24,24]⟩),
 mo 14 (.fieldAddr 26 (T 1) 4),
 mx (.store 24 (T 14) (T 13))])
 (.seq (rg [mo 15 (.fieldAddr 26 (T 1) 5),
 mo 16 (.load 24 (T 15)),
 mo 17 (.call ⟨(.builtin .append),#[(.const (.slice none 0 0)),(T 16)],#[24,24]⟩),
 mo 18 (.fieldAddr 26 (T 1) 5),
 mx (.store 24 (T 18) (T 17))])
 (.seq (rg [mo 19 (.load 26 (T 1)),
 mx (.store 26 (T 2) (T 19))])
 (.ret))))))
theorem body_33:Try.f33.body.map strip=some c33:=by kernel_rfl
theorem go_33:GoC Try.prog 33 20 c33 [(.cell 2 26)]:=
 GoC.of (fn:=Try.f33) (by kernel_rfl) body_33 (by kernel_rfl) (by kernel_rfl) (by kernel_rfl)
def c34:Code:=
 .seq (rg [mo 2 (.box 26 (T 0)),
 mo 3 (.box 26 (T 1)),
 mo 4 (.assign (.const (.bool false)))])
 (.seq (rg [mo 5 (.fieldAddr 26 (T 2) 0),
 mo 6 (.load 2 (T 5)),
 mo 7 (.fieldAddr 26 (T 3) 0),
 mo 8 (.load 2 (T 7)),
 mo 9 (.binOp .eql 2 (T 6) (T 8) 2),
 mo 10 (.move (T 9)),
 mg 11 5 true (.fieldAddr 26 (T 2) 1),
 mg 12 5 true (.load 2 (T 11)),
 mg 13 5 true (.fieldAddr 26 (T 3) 1),
 mg 14 5 true (.load 2 (T 13)),
 mg 15 5 true (.binOp .eql 2 (T 12) (T 14) 2),
 mo 16 (.pick (T 10) (T 15) (.const (.bool false))),
 mo 17 (.move (T 16)),
 mg 18 12 true (.fieldAddr 26 (T 2) 2),
 mg 19 12 true (.load 22 (T 18)),
 mg 20 12 true (.convert 22 9 (T 19)),
 mg 21 12 true (.fieldAddr 26 (T 3) 2),
 mg 22 12 true (.load 22 (T 21)),
 mg 23 12 true (.convert 22 9 (T 22)),
 mg 24 12 true (.binOp .eql 9 (T 20) (T 23) 9),
 mo 25 (.pick (T 17) (T 24) (.const (.bool false))),
 mo 26 (.move (T 25)),
 mg 27 21 true (.fieldAddr 26 (T 2) 3),
 mg 28 21 true (.load 23 (T 27)),
 mg 29 21 true (.fieldAddr 26 (T 3) 3),
 mg 30 21 true (.load 23 (T 29)),
 mg 31 21 true (.call ⟨(.value (.func 38)),#[(T 28),(T 30)],#[23,23]⟩),
 mo 32 (.pick (T 26) (T 31) (.const (.bool false))),
 mo 33 (.move (T 32)),
 mg 34 28 true (.fieldAddr 26 (T 2) 4),
 mg 35 28 true (.load 24 (T 34)),
 mg 36 28 true (.fieldAddr 26 (T 3) 4),
 mg 37 28 true (.load 24 (T 36)),
 mg 38 28 true (.call ⟨(.value (.func 57)),#[(T 35),(T 37)],#[24,24]⟩),
 mo 39 (.pick (T 33) (T 38) (.const (.bool false))),
 mo 40 (.move (T 39)),
 mg 41 35 true (.fieldAddr 26 (T 2) 5),
 mg 42 35 true (.load 24 (T 41)),
 mg 43 35 true (.fieldAddr 26 (T 3) 5),
 mg 44 35 true (.load 24 (T 43)),
 mg 45 35 true (.call ⟨(.value (.func 57)),#[(T 42),(T 44)],#[24,24]⟩),
 mo 46 (.pick (T 40) (T 45) (.const (.bool false))),
 mo 4 (.assign (T 46))])
 (.ret))
theorem body_34:Try.f34.body.map strip=some c34:=by kernel_rfl
theorem go_34:GoC Try.prog 34 47 c34 [(.tmp 4)]:=
 GoC.of (fn:=Try.f34) (by kernel_rfl) body_34 (by kernel_rfl) (by kernel_rfl) (by kernel_rfl)
end Go.Proofs.Ythjmkmoiopmfcaa
