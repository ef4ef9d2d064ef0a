/-
A part of the proof of a law: contracts of functions over plain heaps, and what they lean on. Conditions: none.
-/
import Derived.Shelf.SlSortCmp.WholeK
import Derived.Test.YtheamfnbfgiaeaaGreatProg
import Derived.Test.YtheamfnbfgiaeaaGreatRows
import Derived.ChangeArms
import Derived.ChangeOld
import Derived.ChangeReads
import Derived.ChangeSame
import Derived.WalkKit
import Derived.ProofKit
import Derived.OpenShut
import Derived.JoinedCond
import Derived.KernelRfl
import Derived.Test.YtheamfnbfgiaeaaGreatChecked
import Derived.Test.YtheamfnbfgiaeaaGreatBase1
import Derived.Test.YtheamfnbfgiaeaaGreatBase2
set_option linter.unusedSimpArgs false
set_option linter.unusedVariables false
set_option linter.defProp false
namespace Go.D
attribute [go_sem] Int.reduceLT Int.reduceLE Int.reduceEq reduceIte Nat.reduceAdd
attribute [go_sem] List.size_toArray List.length_cons List.length_nil Nat.zero_add Nat.add_zero Option.map_some
theorem vz {p:Prop} (h:p:=by
 simp -implicitDefEqProofs (disch:=first|omega|simp only[go_sem]) only[go_sem,true_and]):p:=h
theorem vy {p a:Prop} (x:a) (h:a→p:=by
 intro x
 simp -implicitDefEqProofs (disch:=first|omega|simp only[go_sem]) only[go_sem,true_and,x]):p:=h x
structure Key where
 t:Int
 r:Int
 deriving DecidableEq
structure Cell where
 k:Key
 v:Int
 s:Int
 deriving DecidableEq
structure Pair where
 k:Key
 v:Int
 deriving DecidableEq
structure Change where
 k:Key
 v:Int
 e:Bool
 deriving DecidableEq
abbrev fI64:=fI .i64
abbrev fU8:=fI .u8
def fKey:FRep Key:=fM (fP (fI .i32) (fI .i64)) (fun k=>(k.t,k.r)) fun x y h=>by
 cases x;cases y;simp at h;simp[h]
def fCell:FRep Cell:=fM (fP fKey (fP (fI .i64) (fI .i64))) (fun c=>(c.k,c.v,c.s)) fun x y h=>by
 cases x;cases y;simp at h;simp[h]
def fPair:FRep Pair:=fM (fP fKey (fI .i64)) (fun c=>(c.k,c.v)) fun x y h=>by
 cases x;cases y;simp at h;simp[h]
def fChange:FRep Change:=fM (fP fKey (fP (fI .i64) fB)) (fun c=>(c.k,c.v,c.e)) fun x y h=>by
 cases x;cases y;simp at h;simp[h]
theorem A9b (c:Pair):fPair.enc c=[.int .i32 c.k.t,.int .i64 c.k.r,.int .i64 c.v]:=rfl
structure Res where
 e:Int
 vs:List Int
 s:Int
 p:Int
structure Row where
 ses:Int
 req:Int
 x:Res
structure XV where
 slot:Int
 cells:List Cell
 rows:List Row
theorem s6a {k:IntKind} {n:Int} (h:inK k n):k.wrap n=n:=by
 unfold inK IntKind.min IntKind.max IntKind.signed IntKind.bits at h
 unfold IntKind.wrap IntKind.signed IntKind.bits
 cases k <;> simp at h ⊢ <;> omega
theorem Q0b (k:IntKind) (n:Int):inK k (k.wrap n):=by
 unfold inK IntKind.min IntKind.max IntKind.wrap IntKind.signed IntKind.bits
 cases k <;> simp <;> omega
theorem R9b {n:Int}:inK .u8 n↔0≤n∧n≤255:=by
 simp[inK,IntKind.min,IntKind.max,IntKind.signed,IntKind.bits]
theorem l8a {n:Int}:inK .u16 n↔0≤n∧n≤65535:=by
 simp[inK,IntKind.min,IntKind.max,IntKind.signed,IntKind.bits]
theorem w0a {n:Int}:inK .i64 n ↔ -9223372036854775808≤n∧n≤9223372036854775807:=by
 simp[inK,IntKind.min,IntKind.max,IntKind.signed,IntKind.bits]
theorem B7c {n:Int}:inK .i32 n ↔ -2147483648≤n∧n≤2147483647:=by
 simp[inK,IntKind.min,IntKind.max,IntKind.signed,IntKind.bits]
theorem o0a {n:Int} (h0 : -9223372036854775808≤n) (h1:n≤9223372036854775807):IntKind.i64.wrap n=n:=s6a (w0a.2 ⟨h0,h1⟩)
end Go.D
namespace Go.Proofs.YtheamfnbfgiaeaaGreat
open Go.Proofs
def i5b:Go.Shelf.Ren:=⟨fun | 6=>75 | 15=>95 | 14=>113 | 28=>130 | 29=>131 | 20=>139 | 21=>140 | 22=>141 | 23=>142 | 24=>143 | 25=>144 | 26=>145 | 27=>146 | 46=>157 | 47=>148 | 48=>149 | 49=>158 | 50=>159 | 57=>161 | n=>n,fun | 22=>24 | 24=>31 | 25=>116 | 3=>3 | 39=>172 | 0=>0 | 53=>202 | 55=>192 | 4=>4 | 46=>195 | 45=>194 | 50=>88 | 5=>5 | 9=>9 | 66=>220 | 70=>224 | 76=>231 | 77=>232 | n=>n,fun | n=>n⟩
theorem m6b:SlLaysF0.n6 Tryz.prog i5b where
 mixed:=by kernel_rfl
 f6:=⟨ "slices.SortFunc[[]trivet/api.Key,trivet/api.Key]",by decide,Tryz.func75.trans (congrArg some (by kernel_rfl))⟩
 f14:=⟨ "slices.pdqsortCmpFunc[trivet/api.Key]",by decide,Tryz.func113.trans (congrArg some (by kernel_rfl))⟩
 f15:=Tryz.func95.trans (congrArg some (by kernel_rfl))
 f20:=⟨ "slices.insertionSortCmpFunc[trivet/api.Key]",by decide,Tryz.func139.trans (congrArg some (by kernel_rfl))⟩
 f21:=⟨ "slices.heapSortCmpFunc[trivet/api.Key]",by decide,Tryz.func140.trans (congrArg some (by kernel_rfl))⟩
 f22:=⟨ "slices.breakPatternsCmpFunc[trivet/api.Key]",by decide,Tryz.func141.trans (congrArg some (by kernel_rfl))⟩
 f23:=⟨ "slices.choosePivotCmpFunc[trivet/api.Key]",by decide,Tryz.func142.trans (congrArg some (by kernel_rfl))⟩
 f24:=⟨ "slices.reverseRangeCmpFunc[trivet/api.Key]",by decide,Tryz.func143.trans (congrArg some (by kernel_rfl))⟩
 f25:=⟨ "slices.partialInsertionSortCmpFunc[trivet/api.Key]",by decide,Tryz.func144.trans (congrArg some (by kernel_rfl))⟩
 f26:=⟨ "slices.partitionEqualCmpFunc[trivet/api.Key]",by decide,Tryz.func145.trans (congrArg some (by kernel_rfl))⟩
 f27:=⟨ "slices.partitionCmpFunc[trivet/api.Key]",by decide,Tryz.func146.trans (congrArg some (by kernel_rfl))⟩
 f28:=Tryz.func130.trans (congrArg some (by kernel_rfl))
 f29:=Tryz.func131.trans (congrArg some (by kernel_rfl))
 f46:=⟨ "slices.siftDownCmpFunc[trivet/api.Key]",by decide,Tryz.func157.trans (congrArg some (by kernel_rfl))⟩
 f47:=Tryz.func148.trans (congrArg some (by kernel_rfl))
 f48:=Tryz.func149.trans (congrArg some (by kernel_rfl))
 f49:=⟨ "slices.medianAdjacentCmpFunc[trivet/api.Key]",by decide,Tryz.func158.trans (congrArg some (by kernel_rfl))⟩
 f50:=⟨ "slices.medianCmpFunc[trivet/api.Key]",by decide,Tryz.func159.trans (congrArg some (by kernel_rfl))⟩
 f57:=⟨ "slices.order2CmpFunc[trivet/api.Key]",by decide,Tryz.func161.trans (congrArg some (by kernel_rfl))⟩
 t0:=Tryz.underlying0
 a0:=Tryz.isAgg0
 z0:=Tryz.sizeOf0
 v0:=Tryz.zeroValue0
 t3:=Tryz.underlying3
 a3:=Tryz.isAgg3
 z3:=Tryz.sizeOf3
 v3:=Tryz.zeroValue3
 t4:=Tryz.underlying4
 a4:=Tryz.isAgg4
 z4:=Tryz.sizeOf4
 v4:=Tryz.zeroValue4
 t5:=Tryz.underlying5
 a5:=Tryz.isAgg5
 z5:=Tryz.sizeOf5
 v5:=Tryz.zeroValue5
 t9:=Tryz.underlying9
 a9:=Tryz.isAgg9
 z9:=Tryz.sizeOf9
 v9:=Tryz.zeroValue9
 t22:=Tryz.underlying24
 a22:=Tryz.isAgg24
 z22:=Tryz.sizeOf24
 v22:=Tryz.zeroValue24
 t25:=Tryz.underlying116
 a25:=Tryz.isAgg116
 z25:=Tryz.sizeOf116
 v25:=Tryz.zeroValue116
 t39:=Tryz.underlying172
 a39:=Tryz.isAgg172
 z39:=Tryz.sizeOf172
 v39:=Tryz.zeroValue172
 t45:=Tryz.underlying194
 a45:=Tryz.isAgg194
 z45:=Tryz.sizeOf194
 v45:=Tryz.zeroValue194
 t46:=Tryz.underlying195
 a46:=Tryz.isAgg195
 z46:=Tryz.sizeOf195
 v46:=Tryz.zeroValue195
 t50:=Tryz.underlying88
 a50:=Tryz.isAgg88
 z50:=Tryz.sizeOf88
 v50:=Tryz.zeroValue88
 t53:=Tryz.underlying202
 a53:=Tryz.isAgg202
 z53:=Tryz.sizeOf202
 v53:=Tryz.zeroValue202
 t55:=Tryz.underlying192
 a55:=Tryz.isAgg192
 z55:=Tryz.sizeOf192
 v55:=Tryz.zeroValue192
 t66:=Tryz.underlying220
 a66:=Tryz.isAgg220
 z66:=Tryz.sizeOf220
 v66:=Tryz.zeroValue220
 t70:=Tryz.underlying224
 a70:=Tryz.isAgg224
 z70:=Tryz.sizeOf224
 v70:=Tryz.zeroValue224
 t76:=Tryz.underlying231
 a76:=Tryz.isAgg231
 z76:=Tryz.sizeOf231
 v76:=Tryz.zeroValue231
 t77:=Tryz.underlying232
 a77:=Tryz.isAgg232
 z77:=Tryz.sizeOf232
 v77:=Tryz.zeroValue232
end Go.Proofs.YtheamfnbfgiaeaaGreat
namespace Go.D
open Go.Proofs.YtheamfnbfgiaeaaGreat (Rows.uptoBulk Rows.uptoBulkAll)
variable {P:Program}
structure Rds (ι:Inj) (h:DHeap) (W:World):Prop where
 sim:Sim ι h W
 ro:∀ id e,ι id=some e→e.ro=true
def Blk (W:World):Prop:=∃ (b:Nat) (c:Array Value) (t:TypeId) (fz:Nat × Nat),W.heap[b]? = some (Obj.cells c t fz)
def BlkOf (W:World) (cs:List Value):Prop:=∀ a len cap,Value.slice (some a) len cap∈cs→Blk W
theorem BlkOf.of {W:World} (b:Blk W) (cs:List Value):BlkOf W cs:=fun _ _ _ _=>b
theorem BlkOf.sub {W:World} {cs ds:List Value} (b:BlkOf W cs) (h:∀ v∈ds,v∈cs):BlkOf W ds:=fun a l c hm=>b a l c (h _ hm)
theorem Rds.none (W:World):Rds (fun _=>none) ⟨fun _=>none,0,0⟩ W:=
 ⟨⟨fun _ _ h=>(by cases h),fun _ _ h=>(by cases h),fun _ _ h=>(by cases h),fun _ _ _ _ h=>(by cases h),fun g hg=>absurd hg (Nat.not_lt_zero _)⟩,fun _ _ h=>by cases h⟩
theorem Rds.push {ι:Inj} {h:DHeap} {W:World} (s:Rds ι h W) {b:Nat} {cur:Array Value} {ty:TypeId} {fz:Nat × Nat} (hb:W.heap[b]? = some (.cells cur ty fz)) (shift z:Nat) {cells:List Value}
 (hc:∀ (i:Nat) v,cells[i]? = some v→∃ v',cur[shift+i]? = some v'∧VRel ι v v') :
 Rds (ι.upd h.next ⟨b,shift,z,0,true⟩) (h.push (.row cells z true)) W∧ι.le (ι.upd h.next ⟨b,shift,z,0,true⟩)∧Ext h (h.push (.row cells z true)):=by
 have hle:ι.le (ι.upd h.next ⟨b,shift,z,0,true⟩):=Inj.upd_le s.sim.fresh
 have hbl:b<W.heap.size:=by
  cases hx:W.heap[b]? with
  | none=>rw[hx]at hb;cases hb
  | some _=>exact (Array.getElem?_eq_some_iff.1 hx).1
 have hcase:∀ id e,(ι.upd h.next ⟨b,shift,z,0,true⟩) id=some e→(id=h.next∧e=⟨b,shift,z,0,true⟩)∨(id≠h.next∧ι id=some e):=by
  intro id e he
  unfold Inj.upd at he
  split at he
  ·cases he;exact .inl ⟨‹_›,rfl⟩
  ·exact .inr ⟨‹_›,he⟩
 have hro:∀ id e,(ι.upd h.next ⟨b,shift,z,0,true⟩) id=some e→e.ro=true:=by
  intro id e he
  rcases hcase id e he with ⟨_,rfl⟩ | ⟨_,he⟩
  ·rfl
  ·exact s.ro id e he
 refine ⟨⟨⟨?_,?_,?_,?_,?_⟩,hro⟩,hle,Ext.push1 _ _⟩
 ·intro id e he
  rcases hcase id e he with ⟨rfl,_⟩ | ⟨_,he⟩
  ·exact Nat.lt_succ_self _
  ·exact Nat.lt_succ_of_lt (s.sim.lt id e he)
 ·intro id e he
  rcases hcase id e he with ⟨_,rfl⟩ | ⟨_,he⟩
  ·exact hbl
  ·exact s.sim.blk id e he
 ·intro id e he
  rcases hcase id e he with ⟨rfl,rfl⟩ | ⟨_,he⟩
  ·refine ⟨_,Zz _ _,rfl,rfl,cur,ty,fz,hb,fun i v hv=>?_,fun hh=>by cases hh⟩
   obtain ⟨v',a,r⟩:=hc i v hv
   exact ⟨v',a,r.mono hle⟩
  ·obtain ⟨o,a,r⟩:=s.sim.obj id e he
   exact ⟨o,(a0a _ _ (s.sim.lt id e he)).trans a,r.mono hle rfl⟩
 ·intro id id' e e' he he' _ _
  exact .inr (.inr ⟨hro _ _ he,hro _ _ he'⟩)
 ·intro g hg
  obtain ⟨e,a,r⟩:=s.sim.glob g hg
  exact ⟨e,hle _ _ a,r⟩
structure Lays {α:Type} (P:Program) (t:TypeId) (R:Rep α) (B:α→Nat):Prop where
 size:P.cellsOf t=R.z
 lay:∀ {H:Type} (enc:TypeId × Value→H) (W:World) (n:Nat) (cs:List Value) (x:DataW H × List MemPlace),DataW.trod enc P W 0 (fun _=>true) true n t cs=some x→BlkOf W cs→∀ (ι:Inj) (h:DHeap),Rds ι h W →
  ∃ ι' h' cs0 y,Rds ι' h' W∧ι.le ι'∧Ext h h'∧LRel ι' cs0 cs∧R.rd (fun i=>i<h'.next) h' cs0 y∧B y≤Rows.uptoBulk x.1
 stay:∀ {H:Type} (enc:TypeId × Value→H) (W W':World) (n:Nat) (cs:List Value) (x:DataW H × List MemPlace) (sp:Nat→Bool),DataW.trod enc P W 0 (fun _=>true) true n t cs=some x→(∀ p∈x.2,W.sameAt W' p)→(∀ p∈x.2,sp p.block=true) →
  DataW.trod enc P W' 0 sp true n t cs=some x
theorem Rows.one_le {H:Type} (d:DataW H):1≤Rows.uptoBulk d:=by
 cases d with
 | lit l=>cases l <;> simp[Rows.uptoBulk]
 | nil=>simp[Rows.uptoBulk]
 | ptr d=>simp[Rows.uptoBulk]
 | slice elems spare=>simp[Rows.uptoBulk]
 | agg parts=>simp[Rows.uptoBulk]
 | iface t d=>simp[Rows.uptoBulk]
 | map entries=>simp[Rows.uptoBulk]
 | held h=>simp[Rows.uptoBulk]
theorem Z4d {k:IntKind} {n:Int} (h:(Lit.int k n).wf=true):inK k n:=by
 simpa [Lit.wf,inK] using h
theorem X6a {H:Type} {enc:TypeId × Value→H} {W:World} {base:Nat} {sp:Nat→Bool} {hd:Bool} {n:Nat} {t:TypeId} {cs:List Value} {x:DataW H × List MemPlace} (h:DataW.trod enc P W base sp hd n t cs=some x):∃ m,n=m+1:=by
 cases n with
 | zero=>simp[DataW.trod]at h
 | succ m=>exact ⟨m,rfl⟩
theorem Lays.int {t:TypeId} {k:IntKind} (hu:P.underlying t=some (.int k)) (hz:P.cellsOf t=1):Lays P t (fI k).rep (fun _=>1) where
 size:=hz
 lay enc W n cs x h _ ι hh s:=by
  obtain ⟨m,rfl,rfl,hw⟩:=DataW.trod_int hu h
  exact ⟨ι,hh,[.int k m],m,s,Inj.le_refl _,.refl _,(LRel.nil ι).cons (.int _ _),⟨rfl,Z4d hw⟩,Rows.one_le _⟩
 stay enc W W' n cs x sp h _ _:=by
  obtain ⟨m,rfl⟩:=X6a h
  obtain ⟨i,rfl,rfl,hw⟩:=DataW.trod_int hu h
  simp only[DataW.trod,hu]
  rw[if_pos (by simpa using hw)]
theorem Lays.bool {t:TypeId} (hu:P.underlying t=some .bool) (hz:P.cellsOf t=1):Lays P t fB.rep (fun _=>1) where
 size:=hz
 lay enc W n cs x h _ ι hh s:=by
  obtain ⟨m,rfl,rfl⟩:=DataW.trod_bool hu h
  exact ⟨ι,hh,[.bool m],m,s,Inj.le_refl _,.refl _,(LRel.nil ι).cons (.bool _),⟨rfl,trivial⟩,Rows.one_le _⟩
 stay enc W W' n cs x sp h _ _:=by
  obtain ⟨m,rfl⟩:=X6a h
  obtain ⟨i,rfl,rfl⟩:=DataW.trod_bool hu h
  simp only[DataW.trod,hu]
theorem Lays.conv {α β:Type} {t:TypeId} {R:Rep α} {B:α→Nat} {Q:Rep β} {C:β→Nat} (a:Lays P t R B) (hz:R.z=Q.z) (f:α→β) (hf:∀ S h cs x,R.rd S h cs x→Q.rd S h cs (f x)) (hC:∀ x,C (f x)≤B x):Lays P t Q C where
 size:=a.size.trans hz
 lay enc W n cs x h b ι hh s:=by
  obtain ⟨ι',h',cs0,y,g1,g2,g3,g4,g5,g6⟩:=a.lay enc W n cs x h b ι hh s
  exact ⟨ι',h',cs0,f y,g1,g2,g3,g4,hf _ _ _ _ g5,Nat.le_trans (hC y) g6⟩
 stay:=a.stay
inductive Flds (P:Program):{α:Type}→Nat→List Field→Rep α→(α→Nat)→Prop
 | one {α:Type} {off:Nat} {f:Field} {R:Rep α} {B:α→Nat} (ho:f.offset=off) (hl:Lays P f.type R B):Flds P off [f] R B
 | cons {α β:Type} {off:Nat} {f:Field} {fs:List Field} {R:Rep α} {B:α→Nat} {Q:Rep β} {C:β→Nat} (ho:f.offset=off) (hl:Lays P f.type R B) (hr:Flds P (off+R.z) fs Q C):Flds P off (f :: fs) (rP R Q) (fun x=>B x.1+C x.2)
theorem V0c {α:Type} (R:Rep α) {h h':DHeap} {cs:List Value} {x:α} (a:R.rd (fun i=>i<h.next) h cs x) (e:Ext h h'):R.rd (fun i=>i<h'.next) h' cs x:=R.mono a fun i hi=>⟨Nat.lt_of_lt_of_le hi e.next,e.get i hi⟩
theorem Flds.lay {α:Type} {off:Nat} {fs:List Field} {R:Rep α} {B:α→Nat} (a:Flds P off fs R B):∀ {H:Type} (enc:TypeId × Value→H) (W:World) (n:Nat) (cs:List Value) (xs:List (DataW H × List MemPlace)),xs.length=fs.length →
 (∀ (i:Nat) (f:Field),fs[i]? = some f→DataW.trod enc P W 0 (fun _=>true) true n f.type ((cs.drop f.offset).take (P.cellsOf f.type))=xs[i]?)→BlkOf W cs→∀ (ι:Inj) (h:DHeap),Rds ι h W →
 ∃ ι' h' cs0 y,Rds ι' h' W∧ι.le ι'∧Ext h h'∧LRel ι' cs0 ((cs.drop off).take R.z)∧R.rd (fun i=>i<h'.next) h' cs0 y∧B y≤Rows.uptoBulkAll (xs.map (·.1)):=by
 induction a with
 | @one α off f R B ho hl=>
   intro H enc W n cs xs hlen hx b ι h s
   match xs,hlen with
   | [x],_=>
     have:=hx 0 f rfl
     obtain ⟨ι',h',cs0,y,g1,g2,g3,g4,g5,g6⟩:=hl.lay enc W n _ x this (b.sub fun v hv=>List.mem_of_mem_drop (List.mem_of_mem_take hv)) ι h s
     rw[hl.size,ho]at g4
     exact ⟨ι',h',cs0,y,g1,g2,g3,g4,g5,by simp[Rows.uptoBulkAll];exact g6⟩
 | @cons α β off f fs R B Q C ho hl hr ih=>
   intro H enc W n cs xs hlen hx b ι h s
   match xs,hlen with
   | x :: xs,hlen=>
     have h0:=hx 0 f rfl
     obtain ⟨ι1,h1,c1,y1,g1,g2,g3,g4,g5,g6⟩:=hl.lay enc W n _ x h0 (b.sub fun v hv=>List.mem_of_mem_drop (List.mem_of_mem_take hv)) ι h s
     rw[hl.size,ho]at g4
     obtain ⟨ι2,h2,c2,y2,k1,k2,k3,k4,k5,k6⟩:=ih enc W n cs xs (by simpa using hlen) (fun i f hf=>by simpa using hx (i+1) f (by simpa using hf)) b ι1 h1 g1
     refine ⟨ι2,h2,c1++c2,(y1,y2),k1,Inj.le_trans g2 k2,g3.trans k3,?_,⟨c1,c2,rfl,V0c R g5 k3,k5⟩,?_⟩
     ·have:=(g4.mono k2).append k4
      have e:(cs.drop off).take (rP R Q).z=(cs.drop off).take R.z++(cs.drop (off+R.z)).take Q.z:=by
       show (cs.drop off).take (R.z+Q.z)=_
       rw[List.take_add,List.drop_drop]
      rw[e];exact this
     ·simp only[List.map_cons,Rows.uptoBulkAll];omega
theorem Flds.stay {α:Type} {off:Nat} {fs:List Field} {R:Rep α} {B:α→Nat} (a:Flds P off fs R B):∀ {H:Type} (enc:TypeId × Value→H) (W W':World) (n:Nat) (cs:List Value) (sp:Nat→Bool) (f:Field) (x:DataW H × List MemPlace),f∈fs →
 DataW.trod enc P W 0 (fun _=>true) true n f.type ((cs.drop f.offset).take (P.cellsOf f.type))=some x→(∀ p∈x.2,W.sameAt W' p)→(∀ p∈x.2,sp p.block=true)→DataW.trod enc P W' 0 sp true n f.type ((cs.drop f.offset).take (P.cellsOf f.type))=some x:=by
 induction a with
 | one ho hl=>
   intro H enc W W' n cs sp f x hf h1 h2 h3
   simp only[List.mem_singleton]at hf
   subst hf
   exact hl.stay enc W W' n _ x sp h1 h2 h3
 | cons ho hl hr ih=>
   intro H enc W W' n cs sp f x hf h1 h2 h3
   rcases List.mem_cons.1 hf with rfl | hf
   ·exact hl.stay enc W W' n _ x sp h1 h2 h3
   ·exact ih enc W W' n cs sp f x hf h1 h2 h3
theorem Lays.struct {α:Type} {t:TypeId} {fs:Array Field} {R:Rep α} {B:α→Nat} (hu:P.underlying t=some (.struct fs)) (hz:P.cellsOf t=R.z) (a:Flds P 0 fs.toList R B):Lays P t R B where
 size:=hz
 lay enc W n cs x h b ι hh s:=by
  obtain ⟨xs,m,rfl,rfl,hl,hxl,hx⟩:=DataW.trod_struct hu h
  obtain ⟨ι',h',cs0,y,g1,g2,g3,g4,g5,g6⟩:=a.lay enc W m cs xs (by simpa using hxl) (fun i f hf=>hx i f (by simpa using hf)) b ι hh s
  refine ⟨ι',h',cs0,y,g1,g2,g3,?_,g5,?_⟩
  ·rw[List.drop_zero,List.take_of_length_le (by omega)]at g4;exact g4
  ·simp only[Rows.uptoBulk];omega
 stay enc W W' n cs x sp h h2 h3:=by
  obtain ⟨m,rfl⟩:=X6a h
  simp only[DataW.trod,hu]at h ⊢
  split at h
  ·rename_i hl
   rw[if_pos hl]
   simp only[Option.map_eq_some_iff]at h ⊢
   obtain ⟨xs,hm,rfl⟩:=h
   exact ⟨xs,mapM_carry hm (fun f y hf hy hv=>a.stay enc W W' m cs sp f y hf hv (fun p hp=>h2 p (List.mem_flatMap.2 ⟨y,hy,hp⟩)) (fun p hp=>h3 p (List.mem_flatMap.2 ⟨y,hy,hp⟩))),rfl⟩
  ·cases h
theorem U5c (a:Addr) (i j:Nat):((a.add i).add j).block=a.block∧((a.add i).add j).off=a.off+(i+j):=by
 unfold Addr.add
 split <;> split <;> simp_all [Nat.add_assoc]
theorem I5b {W:World} {a:Addr} {v:Value} (h:W.cell? a=some v):a.spot=none∧∃ cur ty fz,W.heap[a.block]? = some (.cells cur ty fz)∧cur[a.off]? = some v:=by
 unfold World.cell? at h
 split at h
 ·rename_i c ty fz e
  split at h
  ·cases h
  ·rename_i hs
   exact ⟨by simpa using hs,c,ty,fz,e,h⟩
 ·cases h
theorem u7a {W:World} {base:Nat} {a:Addr} {n:Nat} {cs:List Value} (h:W.cells? base a n=some cs):cs.length=n∧∀ j,j<n→W.cell? (a.add j)=cs[j]?:=by
 unfold World.cells? at h
 split at h
 ·refine ⟨by simpa using mapM_some_length h,fun j hj=>?_⟩
  exact mapM_some_get h j j (by simp[hj])
 ·cases h
def t2a {α:Type} (B:α→Nat):List α→Nat
 | []=>0
 | x :: l=>max 1 (B x)+t2a B l
theorem l5b {α:Type} (B:α→Nat) (l k:List α):t2a B (l++k)=t2a B l+t2a B k:=by
 induction l with
 | nil=>simp[t2a]
 | cons x l ih=>simp only[List.cons_append,t2a,ih];omega
theorem G4b {H:Type} (l r:List (DataW H)):Rows.uptoBulkAll (l++r)=Rows.uptoBulkAll l+Rows.uptoBulkAll r:=by
 induction l with
 | nil=>simp[Rows.uptoBulkAll]
 | cons x l ih=>simp only[List.cons_append,Rows.uptoBulkAll,ih];omega
theorem Lays.elems {α:Type} {e:TypeId} {R:Rep α} {B:α→Nat} (a:Lays P e R B) {H:Type} (enc:TypeId × Value→H) (W:World) (m:Nat) (ad:Addr) (elems:List (DataW H × List MemPlace))
 (he:∀ i,i<elems.length→(W.cells? 0 (ad.add (i*P.cellsOf e)) (P.cellsOf e)).bind (DataW.trod enc P W 0 (fun _=>true) true m e)=elems[i]?) (b:Blk W) (ι:Inj) (h:DHeap) (s:Rds ι h W):∀ k,k≤elems.length →
 ∃ ι' h' cells ys,Rds ι' h' W∧ι.le ι'∧Ext h h'∧ys.length=k∧Els R (fun i=>i<h'.next) h' cells ys∧(∀ (i:Nat) v,cells[i]? = some v→∃ v' cur ty fz,W.heap[ad.block]? = some (.cells cur ty fz)∧cur[ad.off+i]? = some v'∧VRel ι' v v') ∧
  t2a B ys≤Rows.uptoBulkAll ((elems.take k).map (·.1)):=by
 intro k
 induction k with
 | zero=>exact fun _=>⟨ι,h,[],[],s,Inj.le_refl _,.refl _,rfl,rfl,fun i v hv=>by simp at hv,by simp[t2a]⟩
 | succ k ih=>
   intro hk
   obtain ⟨ι1,h1,c1,ys,g1,g2,g3,g4,g5,g6,g7⟩:=ih (by omega)
   have hlt:k<elems.length:=by omega
   have h0:=he k hlt
   rw[List.getElem?_eq_getElem hlt,Option.bind_eq_some_iff]at h0
   obtain ⟨cs,hc,ht⟩:=h0
   obtain ⟨hcl,hcg⟩:=u7a hc
   obtain ⟨ι2,h2,c2,y,k1,k2,k3,k4,k5,k6⟩:=a.lay enc W m cs _ ht (.of b _) ι1 h1 g1
   have hl1:c1.length=k*R.z:=by rw[g5.len,g4]
   have hl2:c2.length=R.z:=R.len k5
   refine ⟨ι2,h2,c1++c2,ys++[y],k1,Inj.le_trans g2 k2,g3.trans k3,by simp[g4],Els.append (g5.mono fun i hi=>⟨Nat.lt_of_lt_of_le hi k3.next,k3.get i hi⟩) (.single k5),fun i v hv=>?_,?_⟩
   ·rw[List.getElem?_append]at hv
    split at hv
    ·obtain ⟨v',cur,ty,fz,x1,x2,x3⟩:=g6 i v hv
     exact ⟨v',cur,ty,fz,x1,x2,x3.mono k2⟩
    ·rename_i hi
     have hj:i - c1.length<c2.length:=(List.getElem?_eq_some_iff.1 hv).1
     obtain ⟨v',hv',hr⟩:=k4.get hv
     have hj':i - c1.length<P.cellsOf e:=by rw[a.size];omega
     have hcell:=hcg (i - c1.length) hj'
     rw[hv']at hcell
     obtain ⟨_,cur,ty,fz,x1,x2⟩:=I5b hcell
     obtain ⟨y1,y2⟩:=U5c ad (k*P.cellsOf e) (i - c1.length)
     rw[y1]at x1
     rw[y2,a.size,hl1]at x2
     exact ⟨v',cur,ty,fz,x1,by rw[show ad.off+(k*R.z+(i - k*R.z))=ad.off+i by omega]at x2;exact x2,hr⟩
   ·rw[l5b,List.take_add_one,List.getElem?_eq_getElem hlt]
    simp only[List.map_append,G4b,Option.toList_some,List.map_cons,List.map_nil,Rows.uptoBulkAll,t2a]
    have:=Rows.one_le elems[k].1
    omega
theorem Lays.slice {α:Type} {t e:TypeId} {R:Rep α} {B:α→Nat} (hu:P.underlying t=some (.slice e)) (hz:P.cellsOf t=1) (hp:0<R.z) (a:Lays P e R B):Lays P t (rSl R) (t2a B) where
 size:=hz
 lay enc W n cs x h b ι hh s:=by
  rcases DataW.trod_slice hu h with ⟨rfl,rfl⟩ | ⟨ad,len,cap,elems,rest,m,rfl,rfl,rfl,hb0,hlc,hcm,hel,he,hs,_⟩
  ·exact ⟨ι,hh,[.slice none 0 0],[],s,Inj.le_refl _,.refl _,(LRel.nil ι).cons .snil,⟨_,rfl,Sl.nil _ _ _⟩,Nat.zero_le _⟩
  ·replace b:Blk W:=b ad len cap (by simp)
   obtain ⟨hrl,hr⟩:=hs rfl
   obtain ⟨ι1,h1,cells,ys,g1,g2,g3,g4,g5,g6,g7⟩:=a.elems enc W m ad elems (fun i hi=>he i (by omega)) b ι hh s elems.length (Nat.le_refl _)
   have hcl:cells.length=len*R.z:=by rw[g5.len,g4,hel]
   rw[List.take_length]at g7
   have hblk:∃ bb sh cur ty fz,W.heap[bb]? = some (.cells cur ty fz)∧(0<cap→ad=⟨bb,sh,none⟩)∧∀ (i:Nat) v,cells[i]? = some v→∃ v',cur[sh+i]? = some v'∧VRel ι1 v v':=by
    by_cases hc0:cap=0
    ·obtain ⟨bb,cur,ty,fz,e1⟩:=b
     refine ⟨bb,0,cur,ty,fz,e1,fun hh=>by omega,fun i v hv=>?_⟩
     have:=(List.getElem?_eq_some_iff.1 hv).1
     rw[hcl,show len=0 by omega]at this
     omega
    ·have h0:∃ v,W.cell? ((ad.add 0).add 0)=some v:=by
      by_cases hl0:len=0
      ·have hx:=hr 0 (by omega)
       rw[List.getElem?_eq_getElem (by omega),Option.bind_eq_some_iff]at hx
       obtain ⟨cs',hc',_⟩:=hx
       obtain ⟨q1,q2⟩:=u7a hc'
       have:=q2 0 (by rw[a.size];exact hp)
       rw[hl0,Nat.zero_add,Nat.zero_mul,List.getElem?_eq_getElem (by rw[q1,a.size];exact hp)]at this
       exact ⟨_,this⟩
      ·have hx:=he 0 (by omega)
       rw[List.getElem?_eq_getElem (by omega),Option.bind_eq_some_iff]at hx
       obtain ⟨cs',hc',_⟩:=hx
       obtain ⟨q1,q2⟩:=u7a hc'
       have:=q2 0 (by rw[a.size];exact hp)
       rw[Nat.zero_mul,List.getElem?_eq_getElem (by rw[q1,a.size];exact hp)]at this
       exact ⟨_,this⟩
     obtain ⟨v0,hv0⟩:=h0
     have hadd:(ad.add 0).add 0=ad:=by simp[Addr.add]
     rw[hadd]at hv0
     obtain ⟨hsp,cur,ty,fz,e1,_⟩:=I5b hv0
     refine ⟨ad.block,ad.off,cur,ty,fz,e1,fun _=>by cases ad;simp_all,fun i v hv=>?_⟩
     obtain ⟨v',cur',ty',fz',x1,x2,x3⟩:=g6 i v hv
     rw[e1]at x1
     cases x1
     exact ⟨v',x2,x3⟩
   obtain ⟨bb,sh,cur,ty,fz,e1,e2,e3⟩:=hblk
   obtain ⟨k1,k2,k3⟩:=g1.push e1 sh R.z e3
   refine ⟨_,_,[.slice (some ⟨h1.next,0,none⟩) ys.length cap],ys,k1,Inj.le_trans g2 k2,g3.trans k3,(LRel.nil _).cons ?_,⟨_,rfl,.inr ⟨h1.next,0,cap,cells,R.z,true,rfl,Nat.lt_succ_self _,Zz _ _,.inl rfl,?_,?_⟩⟩,?_⟩
   ·rw[show len=ys.length by omega]
    exact .slice (Inj.upd_same _ _ _) (by omega) (fun h=>h) (fun hc=>e2 hc) (fun hh=>by cases hh)
   ·rw[hcl,g4,hel];omega
   ·rw[List.drop_zero,List.take_of_length_le (by rw[hcl,g4,hel];exact Nat.le_refl _)]
    exact g5.mono fun i hi=>⟨Nat.lt_of_lt_of_le hi k3.next,k3.get i hi⟩
   ·simp only[Rows.uptoBulk];omega
 stay enc W W' n cs x sp h h2 h3:=by
  obtain ⟨m,rfl⟩:=X6a h
  rcases DataW.trod_slice hu h with ⟨rfl,rfl⟩ | ⟨ad,len,cap,_,_,_,_,rfl,_⟩
  ·simp only[DataW.trod,hu]
  ·simp only[DataW.trod,hu,if_true]at h ⊢
   split at h
   ·rename_i hc
    rw[if_pos hc]
    simp only[Option.map_eq_some_iff,Option.bind_eq_some_iff]at h ⊢
    obtain ⟨elems,he,rest,hrest,rfl⟩:=h
    have hlen:elems.length=len:=by simpa using mapM_some_length he
    have hrl:rest.length=cap - len:=by simpa using mapM_some_length hrest
    have one:∀ (i:Nat) (y:DataW _ × List MemPlace),i<elems.length+rest.length→y∈elems++rest →
     (W.cells? 0 (ad.add (i*P.cellsOf e)) (P.cellsOf e)).bind (DataW.trod enc P W 0 (fun _=>true) true m e)=some y→(W'.cells? 0 (ad.add (i*P.cellsOf e)) (P.cellsOf e)).bind (DataW.trod enc P W' 0 sp true m e)=some y:=by
     intro i y hi hy hv
     simp only[Option.bind_eq_some_iff]at hv ⊢
     obtain ⟨cs',hc',hy'⟩:=hv
     have hm:∀ p∈y.2,p∈(elems++rest).flatMap (·.2):=fun p hp=>List.mem_flatMap.2 ⟨y,hy,hp⟩
     refine ⟨cs',World.cells?_carry hc' (fun p hp=>h2 p ?_),a.stay enc W W' m cs' y sp hy' (fun p hp=>h2 p (List.mem_append_right _ (hm p hp))) (fun p hp=>h3 p (List.mem_append_right _ (hm p hp)))⟩
     obtain ⟨j,hj,rfl⟩:=MemPlace.mem_row.1 hp
     refine List.mem_append_left _ (MemPlace.mem_row.2 ⟨i*P.cellsOf e+j,?_,?_⟩)
     ·calc i*P.cellsOf e+j<i*P.cellsOf e+P.cellsOf e:=by omega
       _=(i+1)*P.cellsOf e:=by rw[Nat.add_mul,Nat.one_mul]
       _≤(elems.length+rest.length)*P.cellsOf e:=Nat.mul_le_mul_right _ hi
     ·unfold Addr.add
      split
      ·rename_i h0
       simp[h0]
      ·simp[Nat.add_assoc]
    refine ⟨elems,mapM_carry he (fun i y hi hy=>one i y (by have:i<len:=(by simpa using hi);omega) (by simp[hy])),rest,?_,rfl⟩
    by_cases hc0:cap - len=0
    ·have hr0:rest=[]:=List.eq_nil_of_length_eq_zero (by omega)
     rw[hr0,hc0]
     split <;> rfl
    ·have hsp:sp ad.block=true:=by
      have:MemPlace.cell ad.block (ad.off+0)∈MemPlace.row ad ((elems.length+rest.length)*P.cellsOf e):=MemPlace.mem_row.2 ⟨0,by
       rw[a.size]
       exact Nat.mul_pos (by omega) hp,rfl⟩
      exact h3 _ (List.mem_append_left _ this)
     rw[if_pos hsp]
     exact mapM_carry hrest (fun j y hj hy=>one (len+j) y (by have:j<cap - len:=(by simpa using hj);omega) (by simp[hy]))
   ·cases h
end Go.D
namespace Go.D
open Go.Proofs.YtheamfnbfgiaeaaGreat (Rows.uptoBulk Rows.uptoBulkAll Rows.uptoSmall)
open Go.ChangeShapes Go.RowKit
variable {P:Program}
def L1c (agg:Bool) (cs:List Value):Value:=if agg then .agg cs.toArray else cs.headD undef
def L0b:TypeDesc→Bool
 | .int _ | .bool | .slice _=>true
 | _=>false
def Par (P:Program) (t:TypeId) (agg:Bool):Prop:=if agg then ∃ fs,P.underlying t=some (.struct fs) else ∃ d,P.underlying t=some d∧L0b d=true
theorem A7c {W:World} {base:Nat} {a:Addr} {e:TypeId} {n:Nat} (h:W.has P .any base a e n):Blk W:=by
 obtain ⟨_,_,row,cells,hs,_⟩:=h
 unfold World.shape? at hs
 split at hs
 ·rename_i c elem fz e
  exact ⟨_,_,_,_,e⟩
 ·cases hs
theorem V9a {W:World} {base:Nat} {t:TypeId} {a:Addr} {len cap:Nat} (h:Cell.okWide P W .any base t (.slice (some a) len cap)):Blk W:=by
 unfold Cell.okWide at h
 split at h <;> try simp_all
 unfold Cell.ok at h
 split at h <;> try simp_all
 exact A7c h.2.2
theorem B1d {W:World} {base:Nat} {t:TypeId} {v:Value} (h:Value.okWide P W .any base t v):BlkOf W v.cells.toList:=by
 intro a len cap hm
 unfold Value.okWide at h
 have one:Cell.okWide P W .any base t v→Blk W:=fun hc=>by
  have hv:v.cells=#[v]∨(∃ cs,v=.agg cs)∨(∃ cs,v=.tuple cs):=by
   cases v <;> first | exact .inl rfl | exact .inr (.inl ⟨_,rfl⟩) | exact .inr (.inr ⟨_,rfl⟩)
  rcases hv with hv | ⟨cs,rfl⟩ | ⟨cs,rfl⟩
  ·rw[hv]at hm
   simp only[List.mem_singleton]at hm
   subst hm
   exact V9a hc
  ·exfalso
   unfold Cell.okWide at hc
   split at hc <;> simp_all
   unfold Cell.ok at hc
   split at hc <;> simp_all
  ·exfalso
   unfold Cell.okWide at hc
   split at hc <;> simp_all
   unfold Cell.ok at hc
   split at hc <;> simp_all
 have agg:(∃ cs,v=.agg cs∧cs.size=P.cellsOf t∧Row.okWide P W .any base t cs)→Blk W:=fun ⟨cs,e,_,ts,_,_,hr⟩=>by
  subst e
  obtain ⟨i,hi⟩:=List.mem_iff_getElem?.1 hm
  obtain ⟨u,_,hu⟩:=hr i _ (by simpa [Value.cells] using hi)
  exact V9a hu
 split at h
 ·exact agg h
 ·exact agg h
 ·exact one h
theorem Lays.arg {α:Type} {t:TypeId} {R:Rep α} {B:α→Nat} {agg:Bool} (hp:Par P t agg) (a:Lays P t R B) {H:Type} {enc:TypeId × Value→H} {W:World} {base:Nat} {v:Value} {d:DataW H} {ps:List MemPlace}
 (ht:DataW.Trod enc P W 0 (fun _=>true) true t v d ps) (hv:Value.okWide P W .any base t v) {ι:Inj} {h:DHeap} (s:Rds ι h W) :
 ∃ ι' h' cs0 y,Rds ι' h' W∧ι.le ι'∧Ext h h'∧VRel ι' (L1c agg cs0) v∧R.rd (fun i=>i<h'.next) h' cs0 y∧B y≤Rows.uptoBulk d:=by
 obtain ⟨n,hn⟩:=ht
 obtain ⟨ι',h',cs0,y,g1,g2,g3,g4,g5,g6⟩:=a.lay enc W n _ _ hn (B1d hv) ι h s
 refine ⟨ι',h',cs0,y,g1,g2,g3,?_,g5,g6⟩
 unfold Par at hp
 unfold Value.okWide at hv
 cases agg with
 | true=>
   obtain ⟨fs,hu⟩:=hp
   rw[hu]at hv
   obtain ⟨cs,rfl,_⟩:=hv
   obtain ⟨x1,x2⟩:=g4
   exact .agg (by simpa [Value.cells] using x1) (fun i v v' a b=>x2 i v v' (by simpa using a) (by simpa [Value.cells] using b))
 | false=>
   obtain ⟨de,hu,ho⟩:=hp
   have hc:Cell.okWide P W .any base t v:=by
    rw[hu]at hv
    cases de <;> first | exact hv | simp[L0b]at ho
   have h1:v.cells=#[v]:=by
    cases v <;> first | rfl | (exfalso;unfold Cell.okWide at hc;rw[hu]at hc;cases de <;> simp[L0b,Cell.ok,hu]at ho hc)
   rw[h1]at g4
   obtain ⟨x1,x2⟩:=g4
   match cs0,x1 with
   | [c],_=>exact x2 0 c v rfl rfl
inductive Pars (P:Program):{α:Type}→List TypeId→((Nat→Prop)→DHeap→List Value→α→Prop)→(α→Nat)→Prop
 | nil:Pars P [] (fun _ _ vs (_:Unit)=>vs=[]) (fun _=>0)
 | cons {α β:Type} {t:TypeId} {ts:List TypeId} {agg:Bool} {R:Rep α} {B:α→Nat} {Q:(Nat→Prop)→DHeap→List Value→β→Prop} {C:β→Nat} (hp:Par P t agg) (hl:Lays P t R B) (hr:Pars P ts Q C) :
    Pars P (t :: ts) (fun S h vs (x:α × β)=>∃ cs vs',vs=L1c agg cs :: vs'∧R.rd S h cs x.1∧Q S h vs' x.2) (fun x=>B x.1+C x.2)
theorem Pars.lay {α:Type} {ts:List TypeId} {Q:(Nat→Prop)→DHeap→List Value→α→Prop} {B:α→Nat} (a:Pars P ts Q B):∀ {H:Type} {enc:TypeId × Value→H} {W:World} {base:Nat} {vs:List Value} {ds:List (DataW H)} {ps:List MemPlace},
 DataW.TrodAll enc P W 0 (fun _=>true) true ts vs ds ps→(∀ (j:Nat) t v,ts[j]? = some t→vs[j]? = some v→Value.okWide P W .any base t v)→∀ {ι:Inj} {h:DHeap},Rds ι h W →
 ∃ ι' h' vs0 y,Rds ι' h' W∧ι.le ι'∧Ext h h'∧LRel ι' vs0 vs∧(∀ h1,Ext h' h1→Q (fun i=>i<h1.next) h1 vs0 y)∧B y≤Rows.uptoBulkAll ds:=by
 induction a with
 | nil=>
   intro H enc W base vs ds ps ht hv ι h s
   obtain ⟨rfl,rfl,rfl⟩:=trodAll_nil ht
   exact ⟨ι,h,[],(),s,Inj.le_refl _,.refl _,LRel.nil _,fun _ _=>rfl,Nat.le_refl _⟩
 | cons hp hl hr ih=>
   intro H enc W base vs ds ps ht hv ι h s
   obtain ⟨v,vs,d,ds,p,q,rfl,rfl,rfl,t1,t2⟩:=trodAll_cons ht
   obtain ⟨ι1,h1,cs,y,g1,g2,g3,g4,g5,g6⟩:=hl.arg hp t1 (hv 0 _ _ rfl rfl) s
   obtain ⟨ι2,h2,vs0,z,k1,k2,k3,k4,k5,k6⟩:=ih t2 (fun j t v a b=>hv (j+1) t v a b) g1
   exact ⟨ι2,h2,L1c _ cs :: vs0,(y,z),k1,Inj.le_trans g2 k2,g3.trans k3,LRel.cons (g4.mono k2) k4,fun h3 e=>⟨cs,vs0,rfl,V0c _ g5 (k3.trans e),k5 h3 e⟩,by simp only[Rows.uptoBulkAll];omega⟩
theorem Pars.stay {α:Type} {ts:List TypeId} {Q:(Nat→Prop)→DHeap→List Value→α→Prop} {B:α→Nat} (a:Pars P ts Q B):∀ {H:Type} {enc:TypeId × Value→H} {W W':World} {sp:Nat→Bool} {vs:List Value} {ds:List (DataW H)} {ps:List MemPlace},
 DataW.TrodAll enc P W 0 (fun _=>true) true ts vs ds ps→(∀ p∈ps,W.sameAt W' p)→(∀ p∈ps,sp p.block=true)→DataW.TrodAll enc P W' 0 sp true ts vs ds ps:=by
 induction a with
 | nil=>
   intro H enc W W' sp vs ds ps ht _ _
   obtain ⟨rfl,rfl,rfl⟩:=trodAll_nil ht
   rfl
 | cons hp hl hr ih=>
   intro H enc W W' sp vs ds ps ht h2 h3
   obtain ⟨v,vs,d,ds,p,q,rfl,rfl,rfl,⟨n,t1⟩,t2⟩:=trodAll_cons ht
   exact ⟨p,q,⟨n,hl.stay enc W W' n _ _ sp t1 (fun x hx=>h2 x (List.mem_append_left _ hx)) (fun x hx=>h3 x (List.mem_append_left _ hx))⟩,ih t2 (fun x hx=>h2 x (List.mem_append_right _ hx)) (fun x hx=>h3 x (List.mem_append_right _ hx)),rfl⟩
section
variable {H:Type} {enc:TypeId × Value→H}
theorem X3b {f:Func} {s:ChangeSpec} {apart fresh handsOn again:Bool} {W W':World} {args:Array Value} {v:Value} {ds gs:List (DataW H)} {before pa pv:List MemPlace}
 (hW:DataW.Whole enc P f.params.toList s.vars apart W args.toList ds gs before)
 (hres:∀ (b:Nat) (sp:Nat→Bool) (hd:Bool),DataW.TrodAll enc P W' b sp hd f.resultTypes.toList (v.resultList f.resultTypes.size) (s.fn H (ds++gs)).results [])
 (hargs:∀ sp:Nat→Bool,(∀ p∈before,sp p.block=true)→DataW.TrodAll enc P W' 0 sp true f.params.toList args.toList (s.fn H (ds++gs)).args pa)
 (hvars:∀ sp:Nat→Bool,(∀ p∈before,sp p.block=true)→DataW.TrodVars enc P W' sp s.vars (s.fn H (ds++gs)).vars pv)
 (hps:before=pa++pv) (hos:W'.os=W.os) (hout:W'.output=W.output) (hk:∀ b,b<W.heap.size→W'.heap[b]? = W.heap[b]?)
 (hok:∀ (j:Nat) (t:TypeId) (r:Value),f.resultTypes[j]? = some t→(v.resultList f.resultTypes.size)[j]? = some r→Value.okWide P W' .any 0 t r) :
 s.post enc P f apart fresh handsOn again W args v W':=by
 have hlt:=hW.lt
 have hold:∀ p∈before,(fun b=>decide (b<W.heap.size)) p.block=true:=fun p hp=>by simpa using hlt p hp
 have hkept:∀ may,W.keptBut W' may:=fun may=>⟨hos,hout,fun i hi=>by
  rw[hk i hi]
  exact (World.keptBut_refl W may).2.2 i hi⟩
 refine ⟨ds,gs,before,[],pa,pv,hW,hres _ _ _,hargs _ hold,hvars _ hold,hkept _,fun _=>?_⟩
 ·obtain ⟨_,_,_,_,_,hz,hn⟩:=hW
  refine ⟨hok,_,_,([]++pa)++pv,⟨[]++pa,pv,trodAll_append (hargs _ (fun _ _=>rfl)) (hres _ _ _),hvars _ (fun _ _=>rfl),rfl,?_,?_⟩,?_⟩
  ·intro b off hp
   have hp':MemPlace.cell b off∈before:=by rw[hps];simpa using hp
   have:W'.frozen? ⟨b,off,none⟩=W.frozen? ⟨b,off,none⟩:=by
    simp only[World.frozen?]
    rw[hk b (hlt _ hp')]
   rw[this]
   exact hz b off hp'
  ·intro ha
   have:=hn ha
   rw[hps]at this
   simpa using this
  ·intro p hp _
   rw[hps]
   simpa using hp
theorem n4b {W:World} {sp:Nat→Bool} {gs:List (DataW H)} {q:List MemPlace} (h:DataW.TrodVars enc P W sp [] gs q):gs=[]∧q=[]:=by
 cases gs with
 | nil=>exact ⟨rfl,h⟩
 | cons=>exact h.elim
theorem k3c {α:Type} {f:FuncId} {fn:Func} {ts:List TypeId} {Q:(Nat→Prop)→DHeap→List Value→α→Prop} {B:α→Nat} {tb:TypeId} {s:ChangeSpec} {apart fresh handsOn again:Bool} (hts:fn.params.toList=ts) (pars:Pars P ts Q B)
 (hrt:fn.resultTypes=#[tb]) (hb:P.underlying tb=some .bool) (hs:s.vars=[]) (hfn:∀ ds:List (DataW H),ds.length=ts.length→s.fn H ds={ results:=[.lit (.bool true)],args:=ds })
 (ct:∀ h vs x,h.ng=0→Q (fun i=>i<h.next) h vs x→B x≤1048576→Ct P f vs h (fun r _=>r=.ret (.bool true)))
 (W:World) (base:Nat) (args:Array Value) (ds gs:List (DataW H)) (before:List MemPlace)
 (hval:∀ (j:Nat) t v,fn.params[j]? = some t→args[j]? = some v→Value.okWide P W .any base t v)
 (hW:DataW.Whole enc P fn.params.toList s.vars apart W args.toList ds gs before) (hk:Rows.uptoSmall H (ds++gs)=true) :
 Calls P f args W fun e W'=>∃ v,e=.returned v∧s.post enc P fn apart fresh handsOn again W args v W':=by
 have hW':=hW
 obtain ⟨p,q,hA,hV,rfl,hfz,hnd⟩:=hW
 rw[hs]at hV
 obtain ⟨rfl,rfl⟩:=n4b hV
 rw[hts]at hA
 have hk':Rows.uptoBulkAll ds≤1048576:=by
  have:=of_decide_eq_true hk
  simpa using this
 obtain ⟨ι,h,vs,y,s1,_,he,hr,hq,hB⟩:=pars.lay hA (fun j t v a b=>hval j t v (by simpa [← hts] using a) (by simpa using b)) (Rds.none W)
 have hng:h.ng=0:=he.ng
 have c:=ct h vs y hng (hq h (.refl _)) (by omega) 0 ι W args s1.sim hr
 refine callsIn_wide.1 (CallsIn.mono c fun e W' ⟨ι',r,h',hR,_,hE,sim',st⟩=>?_)
 subst hR
 cases e with
 | returned v=>
   have hv:v=.bool true:=by
    have:VRel ι' (.bool true) v:=hE
    cases this;rfl
   subst hv
   have hheap:∀ b,b<W.heap.size→W'.heap[b]? = W.heap[b]?:=fun b hb=>st.frame b hb fun id e he _=>s1.ro id e he
   have hlen:ds.length=ts.length:=by
    have:∀ {ts:List TypeId} {vs:List Value} {ds:List (DataW H)} {ps:List MemPlace},DataW.TrodAll enc P W 0 (fun _=>true) true ts vs ds ps→ds.length=ts.length:=by
     intro ts
     induction ts with
     | nil=>intro vs ds ps h;obtain ⟨_,rfl,_⟩:=trodAll_nil h;rfl
     | cons t ts ih=>
       intro vs ds ps h
       obtain ⟨_,_,_,_,_,_,_,rfl,_,_,h2⟩:=trodAll_cons h
       simp[ih h2]
    exact this hA
   have hlt:∀ x∈p,x.block<W.heap.size:=DataW.TrodAll.lt hA
   have hsame:∀ x∈p,W.sameAt W' x:=fun x hx=>by
    have hb:=hheap _ (hlt x hx)
    cases x with
    | cell b off=>simp only[World.sameAt,World.cell?];rw[show W'.heap[b]? = W.heap[b]? from hb]
    | map b=>exact hb
   refine ⟨_,rfl,X3b (pa:=p) (pv:=[]) hW' ?_ ?_ ?_ rfl st.os st.output hheap ?_⟩
   ·intro b sp hd
    rw[List.append_nil,hfn ds hlen,hrt]
    exact trodAll_cons_mk (shut_bool hb _) trodAll_mk0
   ·intro sp hsp
    rw[List.append_nil,hfn ds hlen,hts]
    exact pars.stay hA hsame (fun x hx=>hsp x (by simpa using hx))
   ·intro sp hsp
    rw[List.append_nil,hfn ds hlen,hs]
    rfl
   ·intro j t r h1 h2
    rw[hrt]at h1 h2
    cases j with
    | zero=>
      simp at h1
      simp[Value.resultList]at h2
      subst h1;subst h2
      simp[Value.okWide,hb,Cell.okWide,Cell.ok]
    | succ j=>simp at h1
 | _=>exact hE.elim
end
end Go.D
namespace Go.D
variable {P:Program} {α:Type} {R:Rep α} {S S':Nat→Prop} {K h:DHeap} {v:Value} {l:List α}
theorem j3c {cs:List Value} {x:α} {z n:Nat} (hx:R.rd S K cs x) (hz:z=R.z) (hp:0<R.z):K0a R.z 1 (.slice (some ⟨K.next,0,none⟩) 1 n) (K.push (.row cs z false))=some cs:=by
 subst hz
 have hl:=R.len hx
 simp only[K0a,Zz]
 simp[hl]
 exact List.take_of_length_le (by omega)
theorem Owns.snoc {w:Option Nat} {ts:Array TypeId} {cs:List Value} {x:α} {z b:Nat} (ho:Owns R S K v l w) (hS:∀ i,S i→i<K.next∧w≠some i) (hx:R.rd S K cs x) (hz:z=R.z) (hp:0<R.z) (hT:K2a P ts=some (R.z,b)) (hlen:l.length+1≤4294967296) (hb:b≤32768) :
 ∃ v' h2,u0a P ts v (.slice (some ⟨K.next,0,none⟩) 1 1) (K.push (.row cs z false))=some (v',h2)∧h2.next=K.next+2∧h2.ng=K.ng∧(∀ i,i<K.next→w≠some i→h2.get i=K.get i) ∧
  Owns R S h2 v' (l++[x]) (some (K.next+1)):=by
 have hw:=ho.lt
 have hg:∀ i,S i→(K.push (.row cs z false)).get i=K.get i:=fun i hi=>a0a _ _ (hS i hi).1
 have ho2:Owns R S (K.push (.row cs z false)) v l w:=ho.mono (Nat.le_succ _) (fun i hi=>a0a _ _ (hw i hi)) (fun i hi=>⟨hi,hg i hi⟩)
 have hm:(l.length+1)*b≤4294967296*32768:=Nat.mul_le_mul hlen hb
 obtain ⟨v',h2,w',e3,g,o,hw'⟩:=ho2.append (k:=[x]) (x:=.slice (some ⟨K.next,0,none⟩) 1 1) hT (fun i hi=>⟨Nat.lt_succ_of_lt (hS i hi).1,(hS i hi).2⟩) rfl (j3c hx hz hp) (.single (R.mono hx fun i hi=>⟨hi,hg i hi⟩)) (by simp only[List.length_singleton];omega) (by simp only[List.length_singleton];omega)
 rcases hw' with ⟨h0,_⟩ | ⟨h0,h1⟩
 ·cases h0
 ·subst h0
  exact ⟨v',h2,e3,h1,g.ng,fun i hi hwi=>(g.get i (Nat.lt_succ_of_lt hi) hwi).trans (a0a _ _ hi),o⟩
theorem Owns.arg {w:Option Nat} (a:Owns R S h v l w) (hS:∀ i,S i→i<h.next):Arg R h v l:=by
 have hlt:=a.lt
 exact a.sl.mono fun i hi=>⟨by
  rcases hi with hi | hi
  ·exact hS i hi
  ·exact hlt i hi,rfl⟩
end Go.D
namespace Go.D
variable {P:Program}
inductive Fld2 (P:Program):{α:Type}→Nat→List (TypeId × Nat)→Rep α→(α→Nat)→Prop
 | one {α:Type} {off:Nat} {t:TypeId} {R:Rep α} {B:α→Nat} (hl:Lays P t R B):Fld2 P off [(t,off)] R B
 | cons {α β:Type} {off:Nat} {t:TypeId} {l:List (TypeId × Nat)} {R:Rep α} {B:α→Nat} {Q:Rep β} {C:β→Nat} (hl:Lays P t R B) (hr:Fld2 P (off+R.z) l Q C):Fld2 P off ((t,off) :: l) (rP R Q) (fun x=>B x.1+C x.2)
theorem Fld2.flds {α:Type} {off:Nat} {l:List (TypeId × Nat)} {R:Rep α} {B:α→Nat} (a:Fld2 P off l R B):∀ fs:List Field,fs.map (fun f=>(f.type,f.offset))=l→Flds P off fs R B:=by
 induction a with
 | one hl=>
   intro fs h
   match fs,h with
   | [f],h=>
     simp only[List.map_cons,List.map_nil,List.cons.injEq,Prod.mk.injEq,and_true]at h
     obtain ⟨rfl,rfl⟩:=h
     exact .one rfl hl
 | cons hl hr ih=>
   intro fs h
   cases fs with
   | nil=>cases h
   | cons f fs=>
     simp only[List.map_cons,List.cons.injEq,Prod.mk.injEq]at h
     obtain ⟨⟨rfl,rfl⟩,h2⟩:=h
     exact .cons rfl hl (ih fs h2)
theorem Lays.of {α:Type} {t:TypeId} {l:List (TypeId × Nat)} {R:Rep α} {B:α→Nat} (hf:o5a P t=some l) (hz:P.cellsOf t=R.z) (a:Fld2 P 0 l R B):Lays P t R B:=by
 unfold o5a at hf
 split at hf
 ·rename_i fs hu
  split at hf
  ·cases hf
   exact .struct hu hz (a.flds _ rfl)
  ·cases hf
 ·cases hf
theorem X9a {t:TypeId} {l:List (TypeId × Nat)} (hf:o5a P t=some l):Par P t true:=by
 unfold o5a at hf
 split at hf
 ·rename_i fs hu
  exact ⟨fs,hu⟩
 ·cases hf
theorem d8c {α β:Type} {F:FRep α} {G:FRep β} {S:Nat→Prop} {h:DHeap} {cs:List Value} {x:α × β} (a:(rP F.rep G.rep).rd S h cs x):(fP F G).rep.rd S h cs x:=by
 obtain ⟨c1,c2,rfl,⟨rfl,h1⟩,rfl,h2⟩:=a
 exact ⟨rfl,h1,h2⟩
theorem Lays.pair {α β:Type} {t:TypeId} {F:FRep α} {G:FRep β} {C:α × β→Nat} (a:Lays P t (rP F.rep G.rep) C):Lays P t (fP F G).rep C:=a.conv (Q:=(fP F G).rep) rfl id (fun _ _ _ _=>d8c) (fun _=>Nat.le_refl _)
end Go.D
namespace Go.Proofs.YtheamfnbfgiaeaaGreat
open Go.D
set_option maxRecDepth 100000
theorem t1d:Lays Tryz.prog 5 fU8.rep (fun _=>1):=.int (by kernel_rfl) (by kernel_rfl)
theorem H7c:Lays Tryz.prog 21 (fI .i32).rep (fun _=>1):=.int (by kernel_rfl) (by kernel_rfl)
theorem m6a:Lays Tryz.prog 2 fI64.rep (fun _=>1):=.int (by kernel_rfl) (by kernel_rfl)
theorem Z5b:Lays Tryz.prog 3 fI64.rep (fun _=>1):=.int (by kernel_rfl) (by kernel_rfl)
theorem m0c:Lays Tryz.prog 22 (rSl fU8.rep) (t2a fun _=>1):=.slice (e:=5) (by kernel_rfl) (by kernel_rfl) (by decide) t1d
theorem l3c:Lays Tryz.prog 23 (rSl fI64.rep) (t2a fun _=>1):=.slice (e:=2) (by kernel_rfl) (by kernel_rfl) (by decide) m6a
theorem a6b:Lays Tryz.prog 31 fKey.rep (fun _=>2):=
 (Lays.of (l:=[(21,0),(2,1)]) (by kernel_rfl) (by kernel_rfl) (.cons H7c (.one m6a))).pair.conv (Q:=fKey.rep) rfl (fun x=>⟨x.1,x.2⟩) (fun _ _ _ _ h=>h) (fun _=>Nat.le_refl _)
end Go.Proofs.YtheamfnbfgiaeaaGreat
namespace Go.D
variable {P:Program} {nt:Nat}
theorem s2d {l size:Nat} {tmps:Fr} {assign body:Code} {h:DHeap} {R:DEnd→DHeap→Prop}
 (hx:NC P size assign (fun e s=>(match e with | .normal=>True | _=>False)∧∃ d,s.h.get l=some (.loop d)∧d.state=.ready ∧
   NC P size body (t9a l R) ⟨s.fr,s.df,s.h.set l (.loop { d with state:=.busy,pending:=d.pending }),s.rd⟩) ⟨tmps,[],h,some l⟩):Rt P l size tmps assign body h R:=by
 intro n ι w tmps' e f s he hsh hf
 refine roundIn_of_wpIn trivial ?_
 refine wpIn_mono (hx n (some e.block) ι { tmps:=tmps',defers:=[] } w ⟨hf,trivial,s,e,he,hsh,rfl⟩) fun ex1 a1 w1 ⟨ι1,e1,s1,⟨hn1,d1,hg1,hst,hb⟩,h1,g1,g2,g3⟩=>?_
 cases e1 with
 | normal=>
   cases ex1 with
   | normal=>
     have he1:=g3.le l e he
     obtain ⟨_,_,lp,hlp,hlr⟩:=g2.sim.loopAt he1 hg1
     obtain ⟨k1,k2⟩:=g2.sim.setLoop he1 hg1 hlp hlr .busy d1.pending
     have hbr:=run_beginRound (P:=P) hlp (hlr.state.trans hst)
     have hpend:lp.pending=d1.pending:=hlr.pending
     rw[show ({ lp with state:=LoopState.busy }:Loop)={ lp with state:=.busy,pending:=d1.pending } by rw[← hpend]]at hbr
     refine ⟨_,hbr,?_⟩
     refine wpIn_mono (hb n (some e.block) ι1 a1 _ ⟨g2.fr,g2.df,k1,g2.rd⟩) fun ex2 a2 w2 ⟨ι2,e2,s2,⟨d2,hg2,hq⟩,h2,m1,m2,m3⟩=>?_
     have he2:=m3.le l e he1
     obtain ⟨_,_,lp2,hlp2,hlr2⟩:=m2.sim.loopAt he2 hg2
     have hh:HStep h s2.h:=h1.trans ((HStep.set _ _ _).trans h2)
     have fin:∀ (v:Bool) (st:LoopState) (pe:Option Code),(pe.isNone=v)→((if v then LoopState.ready else .done)=st)→R (.ret (.bool v)) (s2.h.set l (.loop { d2 with state:=st,pending:=pe })) →
      ∃ u w',(Instr.endRound e.block pe).run P w2=.ok u w'∧∃ ι' r h',R r h'∧HStep h h'∧D1a ι' r (.returned u)∧Sim ι' h' w'∧Step ι ι' h h' w w':=by
      intro v st pe hpe hst2 hR
      obtain ⟨q1,q2⟩:=m2.sim.setLoop he2 hg2 hlp2 hlr2 st pe
      refine ⟨.bool v,_,?_,ι2,_,_,hR,hh.trans (HStep.set _ _ _),.bool v,q1,g3.trans (k2.trans (m3.trans q2))⟩
      have:=run_endRound (P:=P) pe hlp2
      rw[this,hpe,hst2]
     cases e2 with
     | normal=>
       cases ex2 with
       | normal=>exact fin true .ready none rfl rfl hq
       | _=>exact m1.elim
     | ret=>
       cases ex2 with
       | ret=>exact fin false .done (some .ret) rfl rfl hq
       | _=>exact m1.elim
     | exit id=>
       cases ex2 with
       | exit id'=>
         have:id'=id:=m1
         subst this
         exact fin false .done (some (.exit id')) rfl rfl hq
       | _=>exact m1.elim
     | pan v=>exact hq.elim
   | _=>exact g1.elim
 | _=>exact hn1.elim
theorem NC.range_aux {g:Operand} {ps:Array Tmp} {assign body:Code} {Q:Zv→St→Prop} {s:St} {fv:Value} {l:Nat} {df:List f4a} {h1:DHeap} {f:FuncId} {args:List Value}
 (hg:ZV s.h.ng s.fr g=some fv) (hh:HStep s.h h1)
 (henter:∀ (r:Option Nat) (ι:Inj) (a:Act) (w:World) (fn:FuncId),Wy nt ι s r a w→∃ (ι1:Inj) (e:Ent) (mark:List Deferred) (w1:World),(Instr.enterLoop fn a.tmps ps assign body r).run P w=.ok (e.block,mark) w1 ∧
   ι1 l=some e∧e.shift=0∧Sim ι1 h1 w1∧Step ι ι1 s.h h1 w w1∧DefRel ι1 df (mark++a.defers))
 (ht:Z0a P fv [.func (.yield l) #[] #[]] h1=some (.enter f args)) {R:DEnd→DHeap→Prop}
 (hc:Ct P f args h1 R) (hx:∀ r h2,R r h2→s9a l s.fr df s.rd Q r h2):NC P nt (.rangeFunc g ps assign body) Q s:=by
 intro n rr ι a w hs
 refine wpIn_rangeFunc fun fn _=>?_
 obtain ⟨ι1,eb,mark,w1,he,hl,hsh,s1,st1,hd1⟩:=henter rr ι a w fn hs
 have hfv:VRel ι fv (a.eval g):=l1a (P:=P) hs.sim (a:=a) (ops:=#[]) (o:=⟨none,.move g,0,"",#[],none⟩) (fun t _ u hu=>hs.fr.2 t u hu) g (by simp[Op.operands]) _ hg
 have hy:LRel ι1 [.func (.yield l) #[] #[]] (#[.func (.yield eb.block) #[] #[]]:Array Value).toList:=(LRel.nil ι1).cons (.yield hl hsh)
 obtain ⟨d,x',hd,hinv,hn,hdd⟩:=D6a ht s1 (hfv.mono st1.le) hy
 cases x' with
 | enter f' args'=>
   obtain ⟨rfl,hargs,_⟩:=hn
   refine ⟨eb.block,mark,w1,d,w1,f',args',w1,he,?_,fun _ _=>trivial,hinv,fun hh=>absurd hh (by simp[FW]),?_⟩
   ·simpa [resolve,rangeCall,Act.eval] using hd
   ·refine CallsIn.mono (hc (n - 1) ι1 w1 args' s1 hargs) fun en w2 ⟨ι2,r,h2,hR,hh2,k1,k2,k3⟩=>?_
    have hp:=hx r h2 hR
    have hl2:=k3.le l eb hl
    have hfr:=(hs.fr.mono st1.le).mono k3.le
    have hdf:=hd1.mono k3.le
    have hrd:=(hs.rd.mono st1.le).mono k3.le
    have hst:=st1.trans k3
    cases r with
    | pan v=>
      cases en with
      | panicked ch=>exact ⟨ι2,.pan v,_,hp,hh.trans hh2,k1,⟨hfr,hdf,k2,hrd⟩,hst⟩
      | _=>exact k1.elim
    | ret v=>
      cases en with
      | returned v'=>
        obtain ⟨d,hgd,hbusy,hq⟩:=hp
        obtain ⟨_,_,lp,hlp,hlr⟩:=k2.loopAt hl2 hgd
        obtain ⟨q1,q2⟩:=k2.setLoop hl2 hgd hlp hlr .exhausted d.pending
        have hend:=run_endLoop (P:=P) hlp (by rw[hlr.state];exact hbusy)
        rw[hlr.pending]at hend
        refine ⟨d.pending,_,hend,?_⟩
        have fin:∀ (e:Zv) ex,Q e ⟨s.fr,df,h2.set l (.loop { d with state:=.exhausted,pending:=d.pending }),s.rd⟩→J1a ι2 e ex →
         ∃ ι' e s',Q e s'∧HStep s.h s'.h∧J1a ι' e ex∧Wy nt ι' s' rr { a with defers:=mark++a.defers } (w2.putObj eb.block (.loop { lp with state:=.exhausted,pending:=d.pending }))∧Step ι ι' s.h s'.h w (w2.putObj eb.block (.loop { lp with state:=.exhausted,pending:=d.pending })):=
         fun e ex hq hex=>⟨ι2,e,_,hq,hh.trans (hh2.trans (HStep.set _ _ _)),hex,⟨hfr,hdf,q1,hrd⟩,hst.trans q2⟩
        cases hpe:d.pending with
        | none=>
          rw[hpe]at hq fin
          exact fin .normal _ hq trivial
        | some c=>
          rw[hpe]at hq fin
          cases c with
          | ret=>exact wpIn_ret (fin .ret _ hq trivial)
          | exit id=>exact wpIn_exit (fin (.exit id) _ hq rfl)
          | _=>exact hq.elim
      | _=>exact k1.elim
 | _=>exact hn.elim
theorem NC.range {g:Operand} {ps:Array Tmp} {assign body:Code} {Q:Zv→St→Prop} {s:St} {fv:Value} {f:FuncId} {args:List Value} {h1:DHeap}
 (hrd:s.rd=none) (hg:ZV s.h.ng s.fr g=some fv) (hh1:h1=(s.h.push (.marks true)).push (.loop ⟨nt,s.fr,ps,assign,body,s.h.next,.ready,none⟩))
 (ht:Z0a P fv [.func (.yield (s.h.next+1)) #[] #[]] h1=some (.enter f args)) {R:DEnd→DHeap→Prop}
 (hc:Ct P f args h1 R) (hx:∀ r h2,R r h2→s9a (s.h.next+1) s.fr (.mark s.h.next :: s.df) s.rd Q r h2):NC P nt (.rangeFunc g ps assign body) Q s:=by
 subst hh1
 refine NC.range_aux hg ((HStep.push _ _).trans (HStep.push _ _)) (fun r ι a w fn hs=>?_) ht hc hx
 have hr:r=none:=by
  have:=hs.rd
  rw[hrd]at this
  cases r with
  | none=>rfl
  | some _=>exact this.elim
 subst hr
 obtain ⟨a1,a2⟩:=hs.sim.alloc (.marks true) (.deferred (some [])) ⟨w.heap.size,0,0,0,false⟩ rfl ⟨rfl,rfl,World.alloc_heap_new _ _⟩
 have hsz:(w.alloc (.deferred (some []))).heap.size=w.heap.size+1:=World.size_alloc _ _
 have hm:(ι.upd s.h.next ⟨w.heap.size,0,0,0,false⟩) s.h.next=some ⟨w.heap.size,0,0,0,false⟩:=Inj.upd_same _ _ _
 obtain ⟨b1,b2⟩:=a1.alloc (.loop ⟨nt,s.fr,ps,assign,body,s.h.next,.ready,none⟩) (.loop { state:=.ready,pending:=none,fn,tmps:=a.tmps,params:=ps,assign,body,defers:=w.heap.size })
  ⟨w.heap.size+1,0,0,0,false⟩ hsz.symm ⟨rfl,rfl,_,by rw[← hsz];exact World.alloc_heap_new _ _,
   ⟨(hs.fr.mono a2.le).mono (Inj.upd_le a1.fresh),rfl,rfl,rfl,rfl,rfl,⟨w.heap.size,0,0,0,false⟩,Inj.upd_le a1.fresh _ _ hm,rfl,rfl⟩⟩
 refine ⟨_,⟨w.heap.size+1,0,0,0,false⟩,_,_,run_enterLoop_outer fn a.tmps ps assign body,?_,rfl,b1,a2.trans b2,?_⟩
 ·exact Inj.upd_same _ _ _
 ·exact ⟨⟨_,b2.le _ _ hm,rfl,rfl⟩,(hs.df.mono a2.le).mono b2.le⟩
theorem NC.strip {c c0:Code} {Q:Zv→St→Prop} {s:St} (hs:Go.D.strip c0=c) (hk:p0a nt c=true) (h:xs P nt c Q s):NC P nt c0 Q s:=by
 subst hs
 exact u2a c0 Q s (by rw[← C0a];exact hk) h
theorem u2b {rs:List ResultVar} {fr:Fr} {R:DEnd→DHeap→Prop} {id:Nat} {ds:List f4a} {m:u1a} {h:DHeap} (hm:h.get id=some (.marks true)) (hx:XLv P rs fr R ds m (h.set id (.marks false))):XLv P rs fr R (.mark id :: ds) m h:=⟨hm,hx⟩
end Go.D
namespace Go.D
variable {P:Program} {α:Type} {R:Rep α} {S:Nat→Prop} {h:DHeap} {v:Value} {l:List α} {t:TypeId}
theorem L2a {k:IntKind} {n d y:Nat} (h:n≤y):Yu (some (.int k (n:Int))) d y=some n:=by
 simp only[Yu]
 rw[if_pos (by omega)]
 rfl
theorem M7c {ts:Array TypeId} {ty:TypeId} {a b:Int}:Y1a P .min ts ty h (some [.int .i64 a,.int .i64 b])=.ok (.value (.int .i64 (min a b))) h:=by
 have hq:ZU P (Builtin.min_ ts ty #[.int .i64 a,.int .i64 b])=some (.inr (.int .i64 (min a b))):=by
  have e:min a b=if b<a then b else a:=by
   by_cases h:b<a
   ·rw[if_pos h];omega
   ·rw[if_neg h];omega
  rw[e]
  rfl
 have hf:([Value.int .i64 a,.int .i64 b].all Yj)=true:=rfl
 rw[S2b,if_pos hf]
 simp only[Xj,hq]
 rfl
end Go.D
namespace Go.D
variable {P:Program} {nt:Nat}
structure Rng (hB:DHeap) (D:m2a) (ids:Nat→Prop) (K:DHeap):Prop where
 old:∀ j,j<hB.next→¬ ids j→K.get j=hB.get j
 nx:hB.next+2≤K.next
 ng:K.ng=hB.ng
 mrk:K.get hB.next=some (.marks true)
 lp:K.get (hB.next+1)=some (.loop D)
section
variable {hB K K':DHeap} {D D':m2a} {ids:Nat→Prop} {o:DObj} {id:Nat}
theorem Rng.start (hB:DHeap) (D:m2a) (ids:Nat→Prop):Rng hB D ids ((hB.push (.marks true)).push (.loop D)):=
 ⟨fun j hj _=>by rw[a0a _ _ (by rw[m0a];omega),a0a _ _ hj],Nat.le_refl _,rfl,p5a,Zz _ _⟩
theorem Rng.ext (r:Rng hB D ids K) (e:Ext K K'):Rng hB D ids K':=
 ⟨fun j hj hi=>(e.get j (by have:=r.nx;omega)).trans (r.old j hj hi),Nat.le_trans r.nx e.next,e.ng.trans r.ng,(e.get _ (by have:=r.nx;omega)).trans r.mrk,(e.get _ (by have:=r.nx;omega)).trans r.lp⟩
theorem Rng.set (r:Rng hB D ids K) (hi:ids id) (hid:id<hB.next):Rng hB D ids (K.set id o):=
 ⟨fun j hj hij=>(Zx _ _ (by intro hh;subst hh;exact hij hi)).trans (r.old j hj hij),r.nx,r.ng,(Zx _ _ (by omega)).trans r.mrk,(Zx _ _ (by omega)).trans r.lp⟩
theorem Rng.push (r:Rng hB D ids K) (o:DObj):Rng hB D ids (K.push o):=r.ext (Ext.push1 _ _)
theorem Rng.loop (r:Rng hB D ids K) (D':m2a):Rng hB D' ids (K.set (hB.next+1) (.loop D')):=
 ⟨fun j hj hij=>(Zx _ _ (by omega)).trans (r.old j hj hij),r.nx,r.ng,(Zx _ _ (by omega)).trans r.mrk,Zj _ _⟩
theorem Rng.keep (r:Rng hB D ids K) (hn:K.next≤K'.next) (hg:K'.ng=K.ng) (h:∀ j,j<hB.next+2→K'.get j=K.get j):Rng hB D ids K':=
 ⟨fun j hj hi=>(h j (by omega)).trans (r.old j hj hi),Nat.le_trans r.nx hn,hg.trans r.ng,(h _ (by omega)).trans r.mrk,(h _ (by omega)).trans r.lp⟩
theorem Rng.below {h:DHeap} (r:Rng hB D ids K) (e:Ext h hB) (hi:∀ j,ids j→h.next≤j):Ext h K:=
 ⟨Nat.le_trans e.next (by have:=r.nx;omega),r.ng.trans e.ng,fun j hj=>(r.old j (Nat.lt_of_lt_of_le hj e.next) (fun hh=>by have:=hi j hh;omega)).trans (e.get j hj)⟩
end
theorem q5b {l size:Nat} {tmps:Fr} {fa fb sa sb:Code} {h:DHeap} {R:DEnd→DHeap→Prop} (ta:Go.D.strip fa=sa) (tb:Go.D.strip fb=sb) (ka:p0a size sa=true) (kb:p0a size sb=true)
 (hx:xs P size sa (N0a (fun s=>∃ d,s.h.get l=some (.loop d)∧d.state=.ready∧xs P size sb (t9a l R) ⟨s.fr,s.df,s.h.set l (.loop { d with state:=.busy,pending:=d.pending }),s.rd⟩) fun _ _=>False) ⟨tmps,[],h,some l⟩) :
 Rt P l size tmps fa fb h R:=by
 refine s2d (NC.strip ta ka (f3a _ _ (fun e s hq=>?_) hx))
 cases e with
 | normal=>
   obtain ⟨d,e1,e2,e3⟩:=hq
   exact ⟨trivial,d,e1,e2,NC.strip tb kb e3⟩
 | _=>exact hq.elim
theorem NC.range_yields {g:Operand} {ps:Array Tmp} {assign body:Code} {Q:Zv→St→Prop} {s:St} {fv:Value} {f:FuncId} {args:List Value} {A B:DHeap→Prop}
 (hrd:s.rd=none) (hg:ZV s.h.ng s.fr g=some fv)
 (ht:∀ K,Z0a P fv [.func (.yield (s.h.next+1)) #[] #[]] K=some (.enter f args))
 (hc:Ct P f args ((s.h.push (.marks true)).push (.loop ⟨nt,s.fr,ps,assign,body,s.h.next,.ready,none⟩)) fun r H=>(∃ v,r=.ret v)∧(A H∨B H))
 (hA:∀ H,A H→H.get (s.h.next+1)=some (.loop ⟨nt,s.fr,ps,assign,body,s.h.next,.ready,none⟩)∧Q .normal ⟨s.fr,.mark s.h.next :: s.df,H.set (s.h.next+1) (.loop ⟨nt,s.fr,ps,assign,body,s.h.next,.exhausted,none⟩),s.rd⟩)
 (hB:∀ H,B H→H.get (s.h.next+1)=some (.loop ⟨nt,s.fr,ps,assign,body,s.h.next,.done,some .ret⟩)∧Q .ret ⟨s.fr,.mark s.h.next :: s.df,H.set (s.h.next+1) (.loop ⟨nt,s.fr,ps,assign,body,s.h.next,.exhausted,some .ret⟩),s.rd⟩) :
 NC P nt (.rangeFunc g ps assign body) Q s:=by
 refine NC.range hrd hg rfl (ht _) hc fun r H hr=>?_
 obtain ⟨⟨v,rfl⟩,hr | hr⟩:=hr
 ·obtain ⟨a,b⟩:=hA H hr
  exact ⟨_,a,by simp,b⟩
 ·obtain ⟨a,b⟩:=hB H hr
  exact ⟨_,a,by simp,b⟩
theorem z7a {f:FuncId} (hg:L0a P f=true) (first cap:Array Value) (vs:List Value) (h:DHeap):Z0a P (.func (.func f) first cap) vs h=some (.enter f (first.toList++vs++cap.toList)):=by
 simp[Z0a,hg]
end Go.D
namespace Go.D
variable {P:Program} {nt:Nat}
def d1a (P:Program) (ops:Array Oper) (o:Oper) (s:St) (K:St→Prop) (Q:Zv→St→Prop):Prop:=
 match ZK ops s.fr o with
 | none=>False
 | some false=>K ⟨s.fr.put o.dst undef,s.df,s.h,s.rd⟩
 | some true=>x5a P o s (dOp P (ZV s.h.ng s.fr) o s.h) K Q
theorem v6a {ops:Array Oper} (hd:I0a nt ops=true) {k:Nat} {o:Oper} (ho:ops[k]? = some o) {s:St} {K:St→Prop} {Q:Zv→St→Prop} (h:d1a P ops o s K Q)
 {n:Nat} {r:Option Nat} {ι:Inj} {a:Act} {w:World} {Qc:Exit→Act→World→Prop} {Kw:Act→World→Prop} (hs:Wy nt ι s r a w)
 (hK:∀ ι' s' a' w',K s'→HStep s.h s'.h→Wy nt ι' s' r a' w'→Step ι ι' s.h s'.h w w'→Kw a' w')
 (hQ:∀ ι' e s' ex a' w',Q e s'→HStep s.h s'.h→J1a ι' e ex→Wy nt ι' s' r a' w'→Step ι ι' s.h s'.h w w'→Qc ex a' w'):wpOpIn (FW r) n P ops Qc k Kw a w:=by
 have hdo:∀ d,o.dst=some d→d<nt:=fun d h=>g0a hd k o d ho h
 have one:J4a P ops [o] s (fun e s'=>match e with | .normal=>K s' | e=>Q e s')→wpOpIn (FW r) n P ops Qc k Kw a w:=by
  intro hx
  have hw0:=hx
  simp only[J4a]at hx
  have fin:∀ (v:Value) (h1:DHeap),Ex P ops o s.fr s.h (.ret v) h1→p1a o.op=false→K ⟨s.fr.put o.dst v,s.df,h1,s.rd⟩→wpOpIn (FW r) n P ops Qc k Kw a w:=by
   intro v h1 hex hnd hh
   refine x3a hex ho hnd hs.sim hs.fr.1 (g0a hd) (fun t _ u hu=>hs.fr.2 t u hu) (fun u hu ι' v' w' hv s1 st=>?_) (fun u hu=>by cases hu)
   cases hu
   exact hK ι' _ _ w' hh (w3a hex) ⟨q1a (r:=r) (w:=w) (hs.fr.mono st.le) hdo hv,by rw[z0a];exact hs.df.mono st.le,s1,hs.rd.mono st.le⟩ st
  have finp:∀ (v:Value) (h1:DHeap),Ex P ops o s.fr s.h (.pan v) h1→p1a o.op=false→Q (.pan v) ⟨s.fr,s.df,h1,s.rd⟩→wpOpIn (FW r) n P ops Qc k Kw a w:=by
   intro v h1 hex hnd hh
   refine x3a hex ho hnd hs.sim hs.fr.1 (g0a hd) (fun t _ u hu=>hs.fr.2 t u hu) (fun u hu=>by cases hu) (fun u hu ι' v' w' hv s1 st=>?_)
   cases hu
   exact hQ ι' _ ⟨s.fr,s.df,h1,s.rd⟩ _ a w' hh (w3a hex) ⟨v',rfl,hv⟩ ⟨hs.fr.mono st.le,hs.df.mono st.le,s1,hs.rd.mono st.le⟩ st
  cases hw:ZK ops s.fr o with
  | none=>rw[hw]at hx;exact hx.elim
  | some b=>
    rw[hw]at hx
    cases b with
    | false=>
      simp only[J4a]at hx
      unfold wpOpIn
      rw[ho]
      have hw':=O0a hs.fr.1 (g0a hd) (fun t _ u hu=>hs.fr.2 t u hu) hw
      simp only[hw',Bool.false_eq_true,if_false]
      exact ⟨fun _ _=>trivial,hK ι _ _ w hx (.refl _) ⟨q1a (r:=r) (w:=w) hs.fr hdo (T1a ι),by rw[z0a];exact hs.df,hs.sim,hs.rd⟩ (Step.refl ι _ w)⟩
    | true=>
      simp only at hx
      have hexd:∀ r h1,(match dOp P (ZV s.h.ng s.fr) o s.h with
       | .ok (.value v) h1'=>r=.ret v∧h1=h1'
       | .ok .skip h1'=>r=.ret undef∧h1=h1'
       | .ok (.enter f args) h1'=>DC P f args h1' r h1
       | .ok (.round l size tmps assign body) h1'=>DRd P l size tmps assign body h1' r h1
       | .pan v h1'=>r=.pan v∧h1=h1'
       | _=>False)→Ex P ops o s.fr s.h r h1:=by
       intro r h1 hh;unfold Ex;rw[hw];exact hh
      have hnd:∀ x h1,dOp P (ZV s.h.ng s.fr) o s.h=.ok x h1→(∀ f gs,x≠.defer f gs)→p1a o.op=false:=by
       intro x h1 hop hne
       cases hod:o.op with
       | defer c=>
         exfalso
         unfold dOp at hop
         rw[hod]at hop
         simp only at hop
         repeat' split at hop
         all_goals first
          | (cases hop;done)
          | (cases hop;exact hne _ _ rfl)
       | _=>rfl
      cases hop:dOp P (ZV s.h.ng s.fr) o s.h with
      | bad=>rw[hop]at hx;exact hx.elim
      | pan v h1=>
        rw[hop]at hx
        refine finp v h1 (hexd _ _ (by rw[hop];exact ⟨rfl,rfl⟩)) ?_ hx
        cases hod:o.op with
        | defer c=>
          exfalso
          unfold dOp at hop
          rw[hod]at hop
          simp only at hop
          repeat' split at hop
          all_goals cases hop
        | _=>rfl
      | ok x h1=>
        rw[hop]at hx
        cases x with
        | value v=>exact fin v h1 (hexd _ _ (by rw[hop];exact ⟨rfl,rfl⟩)) (hnd _ _ hop (by simp)) hx
        | skip=>exact fin undef h1 (hexd _ _ (by rw[hop];exact ⟨rfl,rfl⟩)) (hnd _ _ hop (by simp)) hx
        | enter f args=>
          obtain ⟨r0,h2,hdc,hx⟩:=hx
          have hex:=hexd r0 h2 (by rw[hop];exact hdc)
          cases r0 with
          | ret v=>exact fin v h2 hex (hnd _ _ hop (by simp)) hx
          | pan v=>exact finp v h2 hex (hnd _ _ hop (by simp)) hx
        | round l size tmps assign body=>
          obtain ⟨r0,h2,hdc,hx⟩:=hx
          have hex:=hexd r0 h2 (by rw[hop];exact hdc)
          cases r0 with
          | ret v=>exact fin v h2 hex (hnd _ _ hop (by simp)) hx
          | pan v=>exact finp v h2 hex (hnd _ _ hop (by simp)) hx
        | recover=>exact hx.elim
        | pick l=>exact hx.elim
        | defer f args=>
          obtain ⟨hrd,hx⟩:=hx
          have hr:r=none:=by
           have:=hs.rd
           rw[hrd]at this
           cases r with
           | none=>rfl
           | some _=>exact this.elim
          subst hr
          unfold wpOpIn
          rw[ho]
          have hw':=O0a hs.fr.1 (g0a hd) (fun t _ u hu=>hs.fr.2 t u hu) hw
          simp only[hw',if_true]
          refine ⟨fun _ _=>trivial,?_⟩
          have hsem:o.semAt (FW none).round a.eval=execOp a.eval o:=rfl
          rw[hsem]
          obtain ⟨ι1,w1,x',hrun,hn,s1,st⟩:=A4a hop hs.sim (l1a (P:=P) hs.sim (a:=a) (ops:=ops) (fun t _ u hu=>hs.fr.2 t u hu))
          rw[hrun]
          cases x' with
          | defer d=>
            rw[Oper.uponIn_defer]
            obtain ⟨hg,cap,dargs,rfl,hargs⟩:=hn
            refine hK ι1 _ _ w1 hx (D0a hop) ⟨?_,?_,s1,hs.rd.mono st.le⟩ st
            ·exact q1a (r:=none) (w:=w) (a:={ a with defers:={ target:=.fn (.func f) cap,args:=dargs } :: a.defers }) (hs.fr.mono st.le) hdo (T1a _)
            ·rw[z0a]
             exact ⟨⟨cap,dargs,rfl,hargs⟩,hs.df.mono st.le⟩
          | _=>exact hn.elim
 unfold d1a at h
 cases hw:ZK ops s.fr o with
 | none=>rw[hw]at h;exact h.elim
 | some b=>
   rw[hw]at h
   cases b with
   | false=>exact one (by simp only[J4a,hw];exact h)
   | true=>
     simp only at h
     by_cases hpk:∃ l h1,dOp P (ZV s.h.ng s.fr) o s.h=.ok (.pick l) h1
     ·obtain ⟨l,h1,hop⟩:=hpk
      rw[hop]at h
      obtain ⟨y,v,_,_,hnx⟩:=C6a hop
      refine Y9a hw hop ho hs.sim hs.fr.1 (g0a hd) (fun t _ u hu=>hs.fr.2 t u hu) fun p hp v' w' hv s1 st=>?_
      exact hK ι _ _ w' (h p hp) ((z0b hnx).2 p hp) ⟨q1a (r:=r) (w:=w) hs.fr hdo hv,by rw[z0a];exact hs.df,s1,hs.rd⟩ st
     by_cases hent:∃ f args h1,dOp P (ZV s.h.ng s.fr) o s.h=.ok (.enter f args) h1
     ·obtain ⟨f,args,h1,hop⟩:=hent
      rw[hop]at h
      obtain ⟨R,hct,hall⟩:=h
      have hnd:p1a o.op=false:=by
       cases hod:o.op with
       | defer c=>
         exfalso
         unfold dOp at hop
         rw[hod]at hop
         simp only at hop
         repeat' split at hop
         all_goals cases hop
       | _=>rfl
      unfold wpOpIn
      rw[ho]
      have hw':=O0a hs.fr.1 (g0a hd) (fun t _ u hu=>hs.fr.2 t u hu) hw
      simp only[hw',if_true]
      refine ⟨fun _ _=>trivial,?_⟩
      have hsem:o.semAt (FW r).round a.eval=execOp a.eval o:=Oper.semAt_eq _ _ _ fun c hc=>by rw[hc]at hnd;cases hnd
      rw[hsem]
      obtain ⟨ι1,w1,x',hrun,hn,s1,st⟩:=A4a hop hs.sim (l1a (P:=P) hs.sim (a:=a) (ops:=ops) (fun t _ u hu=>hs.fr.2 t u hu))
      rw[hrun]
      cases x' with
      | enter f' args'=>
        obtain ⟨rfl,hargs,_⟩:=hn
        rw[Oper.uponIn_enter]
        refine ⟨fun hh=>absurd hh (by simp[FW]),?_⟩
        have hc:CallsIn (FW r) (n - 1) P f' args' w1 fun e w'=>∃ ι' r h',R r h'∧HStep h1 h'∧D1a ι' r e∧Sim ι' h' w'∧Step ι1 ι' h1 h' w1 w':=hct (n - 1) ι1 w1 args' s1 hargs
        refine CallsIn.mono hc fun e w2 ⟨ι2,r2,h2,hR,hh2,he,s2,st2⟩=>?_
        have hx:=hall r2 h2 hR
        cases r2 with
        | ret v=>
          cases e with
          | returned v'=>
            exact hK ι2 _ _ w2 hx ((D0a hop).trans hh2) ⟨q1a (r:=r) (w:=w) ((hs.fr.mono st.le).mono st2.le) hdo he,by rw[z0a];exact (hs.df.mono st.le).mono st2.le,s2,(hs.rd.mono st.le).mono st2.le⟩ (st.trans st2)
          | _=>exact he.elim
        | pan v=>
          cases e with
          | panicked ch=>
            obtain ⟨v',rfl,hv⟩:=he
            exact hQ ι2 _ ⟨s.fr,s.df,h2,s.rd⟩ _ a w2 hx ((D0a hop).trans hh2) ⟨v',rfl,hv⟩ ⟨(hs.fr.mono st.le).mono st2.le,(hs.df.mono st.le).mono st2.le,s2,(hs.rd.mono st.le).mono st2.le⟩ (st.trans st2)
          | _=>exact he.elim
      | _=>exact hn.elim
     ·by_cases hrnd:∃ l size tmps x y h1,dOp P (ZV s.h.ng s.fr) o s.h=.ok (.round l size tmps x y) h1
      ·obtain ⟨lid,size,tmps,cx,cy,h1,hop⟩:=hrnd
       rw[hop]at h
       obtain ⟨R,hct,hall⟩:=h
       have hnd:p1a o.op=false:=by
        cases hod:o.op with
        | defer c=>
          exfalso
          unfold dOp at hop
          rw[hod]at hop
          simp only at hop
          repeat' split at hop
          all_goals cases hop
        | _=>rfl
       unfold wpOpIn
       rw[ho]
       have hw':=O0a hs.fr.1 (g0a hd) (fun t _ u hu=>hs.fr.2 t u hu) hw
       simp only[hw',if_true]
       refine ⟨fun _ _=>trivial,?_⟩
       have hsem:o.semAt (FW r).round a.eval=execOp a.eval o:=Oper.semAt_eq _ _ _ fun c hc=>by rw[hc]at hnd;cases hnd
       rw[hsem]
       obtain ⟨ι1,w1,x',hrun,hn,s1,st⟩:=A4a hop hs.sim (l1a (P:=P) hs.sim (a:=a) (ops:=ops) (fun t _ u hu=>hs.fr.2 t u hu))
       rw[hrun]
       cases x' with
       | round l' f' tmps' assign' body'=>
         obtain ⟨⟨e0,he0,hsh,rfl⟩,hargs,rfl,rfl⟩:=hn
         rw[Oper.uponIn_round]
         refine ⟨fun hh=>absurd hh (by simp[FW]),?_⟩
         have hc:RoundIn (FW r) (n - 1) P e0.block f' tmps' assign' body' w1 fun e w'=>∃ ι' r h',R r h'∧HStep h1 h'∧D1a ι' r e∧Sim ι' h' w'∧Step ι1 ι' h1 h' w1 w':=hct (n - 1) ι1 w1 tmps' e0 f' s1 he0 hsh hargs
         refine RoundIn.mono hc fun e w2 ⟨ι2,r2,h2,hR,hh2,he,s2,st2⟩=>?_
         have hx:=hall r2 h2 hR
         cases r2 with
         | ret v=>
           cases e with
           | returned v'=>
             exact hK ι2 _ _ w2 hx ((D0a hop).trans hh2) ⟨q1a (r:=r) (w:=w) ((hs.fr.mono st.le).mono st2.le) hdo he,by rw[z0a];exact (hs.df.mono st.le).mono st2.le,s2,(hs.rd.mono st.le).mono st2.le⟩ (st.trans st2)
           | _=>exact he.elim
         | pan v=>
           cases e with
           | panicked ch=>
             obtain ⟨v',rfl,hv⟩:=he
             exact hQ ι2 _ ⟨s.fr,s.df,h2,s.rd⟩ _ a w2 hx ((D0a hop).trans hh2) ⟨v',rfl,hv⟩ ⟨(hs.fr.mono st.le).mono st2.le,(hs.df.mono st.le).mono st2.le,s2,(hs.rd.mono st.le).mono st2.le⟩ (st.trans st2)
           | _=>exact he.elim
       | _=>exact hn.elim
      ·refine one ?_
       simp only[J4a,hw]
       generalize hop:dOp P (ZV s.h.ng s.fr) o s.h=x at h hent hrnd hpk
       cases x with
       | ok y h1=>
         cases y with
         | enter f args=>exact absurd ⟨f,args,h1,rfl⟩ hent
         | value v=>exact h
         | skip=>exact h
         | defer f gs=>exact h
         | round l z t a b=>exact absurd ⟨l,z,t,a,b,h1,rfl⟩ hrnd
         | recover=>exact h
         | pick l=>exact absurd ⟨l,h1,rfl⟩ hpk
       | pan v h1=>exact h
       | bad=>exact h
theorem NC.any {id:Nat} {ops:Array Oper} {Q:Zv→St→Prop} {s:St} (hmix:P.follows .mixedOrders=true) (hd:I0a nt ops=true)
 (hlow:∀ (i:Nat) o,ops[i]? = some o→∀ p∈Xx o,p<i)
 (I:(Nat→Bool)→St→Prop) (h0:I (fun _=>false) s)
 (hstep:∀ (L:Nat→Bool) (s:St) (i:Nat) (o:Oper),I L s→ops[i]? = some o→L i=false→(∀ p∈Xx o,L p=true)→d1a P ops o s (I fun j=>if j=i then true else L j) Q)
 (hfin:∀ (L:Nat→Bool) (s:St),I L s→(∀ i,i<ops.size→L i=true)→Q .normal s):NC P nt (.region id ops true) Q s:=by
 intro n r ι0 a0 w0 hs0
 refine wpIn_region_any hmix ?_
 have key:∀ (fuel:Nat) (L:Array Bool) (s':St) (ι:Inj) (a:Act) (w:World),y0a L ops.size≤fuel→L.size=ops.size→I (fun j=>L.getD j false) s'→HStep s.h s'.h→Wy nt ι s' r a w→Step ι0 ι s.h s'.h w0 w →
  wpAnyIn (FW r) n P .any ops (fun ex a' w'=>∃ ι' e s',Q e s'∧HStep s.h s'.h∧J1a ι' e ex∧Wy nt ι' s' r a' w'∧Step ι0 ι' s.h s'.h w0 w') fuel L a w:=by
  have fin:∀ (L:Array Bool) (s':St) (ι:Inj) (a:Act) (w:World),L.size=ops.size→I (fun j=>L.getD j false) s'→HStep s.h s'.h→Wy nt ι s' r a w→Step ι0 ι s.h s'.h w0 w→Region.ready .any ops L=[] →
   ∃ ι' e s',Q e s'∧HStep s.h s'.h∧J1a ι' e .normal∧Wy nt ι' s' r a w∧Step ι0 ι' s.h s'.h w0 w:=by
   intro L s' ι a w hL hI hh hs hst hr
   have hfull:∀ i,i<ops.size→L.getD i false=true:=by
    intro i
    induction i using Nat.strongRecOn with
    | _ i ih=>
      intro hi
      cases hLi:L.getD i false with
      | true=>rfl
      | false=>
        exfalso
        have:i∈Region.ready .any ops L:=mem_ready.2 ⟨by rw[d5a (by rw[hL];exact hi)];exact hLi,ops[i],Array.getElem?_eq_getElem hi,fun e he hb=>?_⟩
        ·rw[hr]at this;cases this
        ·have hpm:e.on∈Xx ops[i]:=List.mem_filterMap.2 ⟨e,by simpa using he,by rw[if_pos hb]⟩
         have hlt:=hlow i _ (Array.getElem?_eq_getElem hi) _ hpm
         exact ih e.on hlt (by omega)
   exact ⟨ι,.normal,s',hfin _ _ hI hfull,hh,trivial,hs,hst⟩
  intro fuel
  induction fuel with
  | zero=>
    intro L s' ι a w hu hL hI hh hs hst
    have hr:Region.ready .any ops L=[]:=by
     rw[List.eq_nil_iff_forall_not_mem]
     intro i hi
     obtain ⟨h1,o,h2,_⟩:=mem_ready.1 hi
     have:=u3a (l:=L) ops.size (by omega) i (Array.getElem?_eq_some_iff.1 h2).1
     rw[h1]at this;cases this
    exact ⟨hr,fin L s' ι a w hL hI hh hs hst hr⟩
  | succ fuel ih=>
    intro L s' ι a w hu hL hI hh hs hst
    refine ⟨fin L s' ι a w hL hI hh hs hst,fun i hi=>?_⟩
    obtain ⟨h1,o,ho,h2⟩:=mem_ready.1 hi
    have his:i<ops.size:=(Array.getElem?_eq_some_iff.1 ho).1
    have hiL:i<L.size:=by rw[hL];exact his
    have hn:L.getD i false=false:=by rw[← d5a hiL];exact h1
    have hp:∀ p∈Xx o,L.getD p false=true:=by
     intro p hp
     obtain ⟨e,he,hh⟩:=List.mem_filterMap.1 hp
     split at hh
     ·rename_i hb;cases hh;exact h2 e (by simpa using he) hb
     ·cases hh
    have hun:=d4a hiL h1 ops.size
    rw[if_pos his]at hun
    refine v6a hd ho (hstep _ s' i o hI ho hn hp) hs (fun ι' s2 a' w' hI2 g1 g2 g3=>?_) (fun ι' e s2 ex a' w' hq g1 g2 g3 g4=>⟨ι',e,s2,hq,hh.trans g1,g2,g3,hst.trans g4⟩)
    refine ih _ s2 ι' a' w' (by omega) (by simpa using hL) ?_ (hh.trans g1) g2 (hst.trans g3)
    have:(fun j=>(L.setIfInBounds i true).getD j false)=fun j=>if j=i then true else L.getD j false:=by
     funext j
     exact U4a hiL
    rw[this]
    exact hI2
 have hg:∀ j,(Array.replicate ops.size false).getD j false=false:=by
  intro j;simp only[Array.getD_eq_getD_getElem?,Array.getElem?_replicate];split <;> rfl
 refine key ops.size _ s ι0 a0 _ ?_ (by simp) ?_ (.refl _) ⟨hs0.fr,hs0.df,hs0.sim.drew _,hs0.rd⟩ (Step.drew ι0 s.h w0 _ (Nat.le_succ _))
 ·have:∀ k,k≤ops.size→y0a (Array.replicate ops.size false) k≤k:=by
   intro k;induction k with
   | zero=>intro _;exact Nat.le_refl _
   | succ k ih=>intro hk;have:=ih (Nat.le_of_lt hk);simp only[y0a];split <;> omega
  exact this _ (Nat.le_refl _)
 ·have:(fun j=>(Array.replicate ops.size false).getD j false)=fun _=>false:=by funext j;exact hg j
  rw[this]
  exact h0
def W4a (ops:Array Oper):Bool:=(List.range ops.size).all fun i=>match ops[i]? with | some o=>(Xx o).all (fun p=>decide (p<i)) | none=>true
theorem I6a {ops:Array Oper} (h:W4a ops=true):∀ (i:Nat) o,ops[i]? = some o→∀ p∈Xx o,p<i:=by
 intro i o ho p hp
 have hi:=(Array.getElem?_eq_some_iff.1 ho).1
 have:=List.all_eq_true.1 h i (List.mem_range.2 hi)
 rw[ho]at this
 simpa using List.all_eq_true.1 this p hp
theorem NC.anyF {id:Nat} {ops:Array Oper} {b:List Nat} {Q:Zv→St→Prop} {s:St} (hmix:P.follows .mixedOrders=true) (hd:I0a nt ops=true) (hlow:W4a ops=true) (hb:Xz ops.toList []=b)
 (G:St→Prop) (F:Nat→St→Prop) (h0:G s)
 (hstep:∀ (i:Nat) (o:Oper) (s:St),ops[i]? = some o→G s→(∀ j,(b.getD i 0).testBit j=true→F j s) →
   d1a P ops o s (fun s'=>G s'∧F i s'∧∀ j,j<ops.size→j≠i→(b.getD j 0).testBit i=false→F j s→F j s') Q)
 (hfin:∀ s,G s→(∀ i,i<ops.size→F i s)→Q .normal s):NC P nt (.region id ops true) Q s:=by
 subst hb
 refine NC.any hmix hd (I6a hlow) (fun L s=>G s∧(∀ i,L i=true→i<ops.size)∧(∀ (i:Nat) o,L i=true→ops[i]? = some o→∀ p∈Xx o,L p=true)∧∀ i,L i=true→F i s) ⟨h0,by simp,by simp,by simp⟩ ?_ (fun L s hI hall=>hfin s hI.1 fun i hi=>hI.2.2.2 i (hall i hi))
 rintro L s i o ⟨hG,hsz,hdn,hF⟩ ho hn hp
 have hi:=(Array.getElem?_eq_some_iff.1 ho).1
 have hcl:∀ (k:Nat) o,ops[k]? = some o→(∀ p∈Xx o,L p=true)→∀ j,((Xz ops.toList []).getD k 0).testBit j=true→L j=true:=fun k o ho hp j hj=>
  P4a (D:=fun j=>L j=true) (fun i o hi ho p hp=>hdn i o hi ho p hp) k o ho hp j hj
 have hx:=hstep i o s ho hG fun j hj=>hF j (hcl i o ho hp j hj)
 have fin:∀ s',(G s'∧F i s'∧∀ j,j<ops.size→j≠i→((Xz ops.toList []).getD j 0).testBit i=false→F j s→F j s') →
  (G s'∧(∀ j,(if j=i then true else L j)=true→j<ops.size)∧(∀ (j:Nat) o,(if j=i then true else L j)=true→ops[j]? = some o→∀ p∈Xx o,(if p=i then true else L p)=true)∧∀ j,(if j=i then true else L j)=true→F j s'):=by
  rintro s' ⟨g,f,st⟩
  refine ⟨g,fun j hj=>?_,fun j oj hj hoj p hpm=>?_,fun j hj=>?_⟩
  ·by_cases hji:j=i
   ·rw[hji];exact hi
   ·rw[if_neg hji]at hj;exact hsz j hj
  ·by_cases hpi:p=i
   ·rw[if_pos hpi]
   ·rw[if_neg hpi]
    by_cases hji:j=i
    ·subst hji;rw[ho]at hoj;cases hoj;exact hp p hpm
    ·rw[if_neg hji]at hj;exact hdn j oj hj hoj p hpm
  ·by_cases hji:j=i
   ·rw[hji];exact f
   ·rw[if_neg hji]at hj
    refine st j (hsz j hj) hji ?_ (hF j hj)
    cases hbit:((Xz ops.toList []).getD j 0).testBit i with
    | false=>rfl
    | true=>
      have hjs:=hsz j hj
      have hoj:=Array.getElem?_eq_getElem hjs
      have:=hcl j _ hoj (hdn j _ hj hoj) i hbit
      rw[hn]at this
      cases this
 unfold d1a at hx ⊢
 cases hw:ZK ops s.fr o with
 | none=>rw[hw]at hx;exact hx.elim
 | some bb=>
   rw[hw]at hx
   cases bb with
   | false=>exact fin _ hx
   | true=>exact N3a fin (fun _ _ h=>h) hx
section
variable {ops:Array Oper} {o:Oper} {s:St} {K:St→Prop} {Q:Zv→St→Prop} {v:Value} {h':DHeap}
theorem t1c (hw:ZK ops s.fr o=some true) (hop:dOp P (ZV s.h.ng s.fr) o s.h=.ok (.value v) h') (hK:K ⟨s.fr.put o.dst v,s.df,h',s.rd⟩):d1a P ops o s K Q:=by
 unfold d1a
 rw[hw,hop]
 exact hK
theorem l8b (hw:ZK ops s.fr o=some true) (hop:dOp P (ZV s.h.ng s.fr) o s.h=.ok .skip h') (hK:K ⟨s.fr.put o.dst undef,s.df,h',s.rd⟩):d1a P ops o s K Q:=by
 unfold d1a
 rw[hw,hop]
 exact hK
end
theorem w6a (ops:Array Oper) (o:Oper) (s:St) (K:St→Prop) (Q:Zv→St→Prop):d1a P (ops.map Yq) (Yq o) s K Q=d1a P ops o s K Q:=by
 unfold d1a
 rw[K1a,D3a]
 rfl
theorem NC.anyL {id:Nat} {ops:Array Oper} {l:List Oper} {b:List Nat} {Q:Zv→St→Prop} {s:St} (hmix:P.follows .mixedOrders=true) (hd:I0a nt ops=true) (hlow:W4a ops=true) (hb:Xz ops.toList []=b) (hl:ops.map Yq=l.toArray)
 (G:St→Prop) (F:Nat→St→Prop) (h0:G s)
 (hstep:∀ (i:Nat) (o:Oper) (s:St),l[i]? = some o→G s→(∀ j,(b.getD i 0).testBit j=true→F j s) →
   d1a P l.toArray o s (fun s'=>G s'∧F i s'∧∀ j,j<l.length→j≠i→(b.getD j 0).testBit i=false→F j s→F j s') Q)
 (hfin:∀ s,G s→(∀ i,i<l.length→F i s)→Q .normal s):NC P nt (.region id ops true) Q s:=by
 have hsz:ops.size=l.length:=by
  have:=congrArg Array.size hl
  simpa using this
 refine NC.anyF hmix hd hlow hb G F h0 (fun i o s ho g hF=>?_) (fun s g hF=>hfin s g fun i hi=>hF i (by omega))
 have ho':l[i]? = some (Yq o):=by
  have:=congrArg (fun a:Array Oper=>a[i]?) hl
  simp only[Array.getElem?_map,ho,Option.map_some]at this
  simpa using this.symm
 have:=hstep i (Yq o) s ho' g hF
 rw[← hl,w6a]at this
 rw[hsz]
 exact this
end Go.D
namespace Go.D
variable {P:Program}
end Go.D
namespace Go.D
variable {P:Program} {nt:Nat}
def YY (l:List Oper) (i:Nat):Option Tmp:=(l[i]?).bind (·.dst)
def j2b (l:List Oper) (t:Tmp):Bool:=l.any fun o=>o.dst==some t
def j4a:List Oper→Bool
 | []=>true
 | o :: l=>o.dst.isSome&&!(l.any fun p=>p.dst==o.dst)&&j4a l
theorem W9a:∀ {l:List Oper},j4a l=true→∀ {i j:Nat} {a b:Oper},l[i]? = some a→l[j]? = some b→i≠j→a.dst≠b.dst
 | [],_,i,_,_,_,h,_,_=>by cases i <;> cases h
 | o :: l,hd,i,j,a,b,ha,hb,hij=>by
   simp only[j4a,Bool.and_eq_true,Bool.not_eq_true']at hd
   obtain ⟨⟨h1,h2⟩,h3⟩:=hd
   have hno:∀ {k:Nat} {c:Oper},l[k]? = some c→c.dst≠o.dst:=fun {k c} hc hcd=>by
    have:=List.any_eq_false.1 h2 c (List.mem_of_getElem? hc)
    simp[hcd]at this
   match i,j with
   | 0,0=>exact absurd rfl hij
   | 0,j+1=>cases ha;exact fun e=>hno (by simpa using hb) e.symm
   | i+1,0=>cases hb;exact hno (by simpa using ha)
   | i+1,j+1=>exact W9a h3 (i:=i) (j:=j) (by simpa using ha) (by simpa using hb) (by omega)
theorem M7a:∀ {l:List Oper},j4a l=true→∀ {i:Nat} {a:Oper},l[i]? = some a→∃ d,a.dst=some d
 | [],_,i,_,h=>by cases i <;> cases h
 | o :: l,hd,i,a,ha=>by
   simp only[j4a,Bool.and_eq_true,Bool.not_eq_true']at hd
   match i with
   | 0=>cases ha;exact Option.isSome_iff_exists.1 hd.1.1
   | i+1=>exact M7a hd.2 (by simpa using ha)
def ValAt (l:List Oper) (V:Nat→DHeap→Value→Prop) (i:Nat) (s:St):Prop:=∃ d v,YY l i=some d∧s.fr d=some v∧V i s.h v
structure p0b (l:List Oper) (s0 s:St):Prop where
 df:s.df=s0.df
 rd:s.rd=s0.rd
 ext:Ext s0.h s.h
 fr:∀ t,j2b l t=false→s.fr t=s0.fr t
def w1c (V:Nat→DHeap→Value→Prop) (i:Nat) (o:Oper) (s s':St):Prop:=∃ v h',s'=⟨s.fr.put o.dst v,s.df,h',s.rd⟩∧Ext s.h h'∧V i h' v
theorem NC.vals {id:Nat} {ops:Array Oper} {l:List Oper} {b:List Nat} {Q:Zv→St→Prop} {s0:St} (hmix:P.follows .mixedOrders=true) (hd:I0a nt ops=true) (hlow:W4a ops=true) (hb:Xz ops.toList []=b) (hl:ops.map Yq=l.toArray) (hown:j4a l=true)
 (V:Nat→DHeap→Value→Prop) (hmono:∀ i h h' v,Ext h h'→V i h v→V i h' v)
 (hstep:∀ (i:Nat) (o:Oper) (s:St),l[i]? = some o→p0b l s0 s→(∀ j,(b.getD i 0).testBit j=true→ValAt l V j s)→d1a P l.toArray o s (w1c V i o s) Q)
 (hfin:∀ s,p0b l s0 s→(∀ i,i<l.length→ValAt l V i s)→Q .normal s):NC P nt (.region id ops true) Q s0:=by
 refine NC.anyL hmix hd hlow hb hl (p0b l s0) (ValAt l V) ⟨rfl,rfl,.refl _,fun _ _=>rfl⟩ (fun i o s ho g hF=>?_) hfin
 obtain ⟨d,hod⟩:=M7a hown ho
 have fin:∀ s',w1c V i o s s'→p0b l s0 s'∧ValAt l V i s'∧∀ j,j<l.length→j≠i→(b.getD j 0).testBit i=false→ValAt l V j s→ValAt l V j s':=by
  rintro _ ⟨v,h',rfl,he,hv⟩
  refine ⟨⟨g.df,g.rd,g.ext.trans he,fun t ht=>?_⟩,⟨d,v,by simp[YY,ho,hod],by rw[hod];exact l4a _ _ _,hv⟩,fun j hj hji _ hf=>?_⟩
  ·have:t≠d:=fun e=>by
    have hc:j2b l t=true:=List.any_eq_true.2 ⟨o,List.mem_of_getElem? ho,by rw[hod,e];simp⟩
    rw[ht]at hc;cases hc
   show s.fr.put o.dst v t=_
   rw[hod,K3a _ _ this]
   exact g.fr t ht
  ·obtain ⟨dj,u,e1,e2,e3⟩:=hf
   have hoj:l[j]? = some l[j]:=List.getElem?_eq_getElem hj
   have e1':l[j].dst=some dj:=by simpa [YY,hoj] using e1
   have:dj≠d:=fun e=>W9a hown hoj ho hji (by rw[e1',hod,e])
   refine ⟨dj,u,e1,?_,hmono _ _ _ _ he e3⟩
   show s.fr.put o.dst v dj=_
   rw[hod,K3a _ _ this]
   exact e2
 have hx:=hstep i o s ho g hF
 unfold d1a at hx ⊢
 cases hw:ZK l.toArray s.fr o with
 | none=>rw[hw]at hx;exact hx.elim
 | some bb=>
   rw[hw]at hx
   cases bb with
   | false=>exact fin _ hx
   | true=>exact N3a fin (fun _ _ h=>h) hx
theorem ValAt.eq {l:List Oper} {V:Nat→DHeap→Value→Prop} {i:Nat} {s:St} {d:Tmp} {c:Value} (a:ValAt l V i s) (hd:YY l i=some d) (hc:∀ h v,V i h v→v=c):s.fr d=some c:=by
 obtain ⟨d',v,e1,e2,e3⟩:=a
 rw[hd]at e1
 cases e1
 rw[e2,hc _ _ e3]
theorem ValAt.ex {l:List Oper} {V:Nat→DHeap→Value→Prop} {i:Nat} {s:St} {d:Tmp} (a:ValAt l V i s) (hd:YY l i=some d):∃ v,s.fr d=some v∧V i s.h v:=by
 obtain ⟨d',v,e1,e2,e3⟩:=a
 rw[hd]at e1
 cases e1
 exact ⟨v,e2,e3⟩
section
variable {ops:Array Oper} {o:Oper} {s:St} {V:Nat→DHeap→Value→Prop} {i:Nat} {Q:Zv→St→Prop} {v:Value} {h':DHeap}
end
theorem NC.known {id:Nat} {ops:Array Oper} {l:List Oper} {b:List Nat} {Q:Zv→St→Prop} {s0:St} (L:List Value) (hmix:P.follows .mixedOrders=true) (hd:I0a nt ops=true) (hlow:W4a ops=true) (hb:Xz ops.toList []=b) (hl:ops.map Yq=l.toArray) (hown:j4a l=true)
 (hstep:∀ (i:Nat) (o:Oper) (s:St),l[i]? = some o→p0b l s0 s→(∀ j,(b.getD i 0).testBit j=true→ValAt l (fun i _ v=>v=L.getD i undef) j s)→d1a P l.toArray o s (w1c (fun i _ v=>v=L.getD i undef) i o s) Q)
 (hfin:∀ s,p0b l s0 s→(∀ i,i<l.length→ValAt l (fun i _ v=>v=L.getD i undef) i s)→Q .normal s):NC P nt (.region id ops true) Q s0:=
 NC.vals hmix hd hlow hb hl hown _ (fun _ _ _ _ _ h=>h) hstep hfin
theorem C1b (A:List Value):∀ (vs B:List Value) (k:Nat),YZ (A++B) (A.length+k) vs=A++YZ B k vs
 | [],B,k=>rfl
 | v :: vs,B,k=>by
   simp only[YZ]
   rw[List.set_append_right _ _ (Nat.le_add_right _ _),Nat.add_sub_cancel_left,Nat.add_assoc]
   exact C1b A vs (B.set k v) (k+1)
end Go.D
namespace Go.D
variable {P:Program} {nt:Nat}
def s5a:List Oper→Bool
 | []=>true
 | o :: l=>(o.dst.isNone||!(l.any fun p=>p.dst==o.dst))&&s5a l
theorem v4a:∀ {l:List Oper},s5a l=true→∀ {i j:Nat} {a b:Oper} {t:Tmp},l[i]? = some a→l[j]? = some b→a.dst=some t→b.dst=some t→i=j
 | [],_,i,_,_,_,_,h,_,_,_=>by cases i <;> cases h
 | o :: l,hd,i,j,a,b,t,ha,hb,h1,h2=>by
   simp only[s5a,Bool.and_eq_true,Bool.or_eq_true,Bool.not_eq_true']at hd
   obtain ⟨h3,h4⟩:=hd
   have hno:∀ {k:Nat} {c:Oper},l[k]? = some c→o.dst=some t→c.dst=some t→False:=fun {k c} hc ho hct=>by
    rcases h3 with h3 | h3
    ·rw[ho]at h3;cases h3
    ·have:=List.any_eq_false.1 h3 c (List.mem_of_getElem? hc)
     simp[hct,ho]at this
   match i,j with
   | 0,0=>rfl
   | 0,j+1=>cases ha;exact (hno (by simpa using hb) h1 h2).elim
   | i+1,0=>cases hb;exact (hno (by simpa using ha) h2 h1).elim
   | i+1,j+1=>exact congrArg (·+1) (v4a h4 (i:=i) (j:=j) (by simpa using ha) (by simpa using hb) h1 h2)
def RegAt (l:List Oper) (V:Nat→DHeap→Value→Prop) (i:Nat) (s:St):Prop:=∃ v,(∀ d,YY l i=some d→s.fr d=some v)∧V i s.h v
structure A6b (l:List Oper) (E:DHeap→DHeap→Prop) (s0 s:St):Prop where
 df:s.df=s0.df
 rd:s.rd=s0.rd
 ext:E s0.h s.h
 fr:∀ t,j2b l t=false→s.fr t=s0.fr t
def B6b (E:DHeap→DHeap→Prop) (V:Nat→DHeap→Value→Prop) (i:Nat) (o:Oper) (s s':St):Prop:=
 ∃ v h',s'=⟨s.fr.put o.dst v,s.df,h',s.rd⟩∧E s.h h'∧V i h' v∧∀ j u,j≠i→V j s.h u→V j h' u
theorem NC.regs {id:Nat} {ops:Array Oper} {l:List Oper} {b:List Nat} {Q:Zv→St→Prop} {s0:St} (hmix:P.follows .mixedOrders=true) (hd:I0a nt ops=true) (hlow:W4a ops=true) (hb:Xz ops.toList []=b) (hl:ops.map Yq=l.toArray) (hown:s5a l=true)
 (E:DHeap→DHeap→Prop) (hrefl:∀ h,E h h) (htrans:∀ a b c,E a b→E b c→E a c) (V:Nat→DHeap→Value→Prop)
 (hstep:∀ (i:Nat) (o:Oper) (s:St),l[i]? = some o→A6b l E s0 s→(∀ j t,YY l j=some t→(b.getD j 0).testBit i=true→s.fr t=s0.fr t)→(∀ t,YY l i=some t→s.fr t=s0.fr t)→(∀ j,(b.getD i 0).testBit j=true→RegAt l V j s)→d1a P l.toArray o s (B6b E V i o s) Q)
 (hfin:∀ s,A6b l E s0 s→(∀ i,i<l.length→RegAt l V i s)→Q .normal s):NC P nt (.region id ops true) Q s0:=by
 subst hb
 have hsz:ops.size=l.length:=by
  have:=congrArg Array.size hl
  simpa using this
 have hat:∀ {i:Nat} {o:Oper},ops[i]? = some o→l[i]? = some (Yq o):=fun {i o} ho=>by
  have:=congrArg (fun a:Array Oper=>a[i]?) hl
  simp only[Array.getElem?_map,ho,Option.map_some]at this
  simpa using this.symm
 refine NC.any hmix hd (I6a hlow) (fun L s=>A6b l E s0 s∧(∀ i,L i=true→i<ops.size)∧(∀ (i:Nat) o,L i=true→ops[i]? = some o→∀ p∈Xx o,L p=true)∧(∀ i,L i=true→RegAt l V i s)∧∀ j t,YY l j=some t→L j=false→s.fr t=s0.fr t)
  ⟨⟨rfl,rfl,hrefl _,fun _ _=>rfl⟩,by simp,by simp,by simp,fun _ _ _ _=>rfl⟩ ?_ (fun L s hI hall=>hfin s hI.1 fun i hi=>hI.2.2.2.1 i (hall i (by omega)))
 rintro L s i o ⟨hG,hsz',hdn,hF,hpre⟩ ho hn hp
 have hi:=(Array.getElem?_eq_some_iff.1 ho).1
 have hcl:∀ (k:Nat) o,ops[k]? = some o→(∀ p∈Xx o,L p=true)→∀ j,((Xz ops.toList []).getD k 0).testBit j=true→L j=true:=fun k o ho hp j hj=>
  P4a (D:=fun j=>L j=true) (fun i o hi ho p hp=>hdn i o hi ho p hp) k o ho hp j hj
 have hx:=hstep i (Yq o) s (hat ho) hG (fun j t hj hbit=>hpre j t hj (by
  cases hL:L j with
  | false=>rfl
  | true=>
    have hjs:=hsz' j hL
    have hoj:=Array.getElem?_eq_getElem hjs
    have:=hcl j _ hoj (hdn j _ hL hoj) i hbit
    rw[hn]at this
    cases this)) (fun t ht=>hpre i t ht hn) fun j hj=>hF j (hcl i o ho hp j hj)
 have fin:∀ s',B6b E V i (Yq o) s s' →
  (A6b l E s0 s'∧(∀ j,(if j=i then true else L j)=true→j<ops.size)∧(∀ (j:Nat) o,(if j=i then true else L j)=true→ops[j]? = some o→∀ p∈Xx o,(if p=i then true else L p)=true)∧(∀ j,(if j=i then true else L j)=true→RegAt l V j s')∧∀ j t,YY l j=some t→(if j=i then true else L j)=false→s'.fr t=s0.fr t):=by
  rintro _ ⟨v,h',rfl,he,hv,hst⟩
  have hdst:YY l i=o.dst:=by simp[YY,hat ho,Yq]
  have hput:∀ t,o.dst≠some t→s.fr.put o.dst v t=s.fr t:=fun t ht=>by
   cases hod:o.dst with
   | none=>rfl
   | some d=>exact K3a _ _ (fun e=>ht (by rw[hod,e]))
  refine ⟨⟨hG.df,hG.rd,htrans _ _ _ hG.ext he,fun t ht=>?_⟩,fun j hj=>?_,fun j oj hj hoj p hpm=>?_,fun j hj=>?_,fun j t hj hLj=>?_⟩
  ·have:o.dst≠some t:=fun e=>by
    have hc:j2b l t=true:=List.any_eq_true.2 ⟨Yq o,List.mem_of_getElem? (hat ho),by show (o.dst==some t)=true;rw[e];simp⟩
    rw[ht]at hc;cases hc
   exact (hput t this).trans (hG.fr t ht)
  ·by_cases hji:j=i
   ·rw[hji];exact hi
   ·rw[if_neg hji]at hj;exact hsz' j hj
  ·by_cases hpi:p=i
   ·rw[if_pos hpi]
   ·rw[if_neg hpi]
    by_cases hji:j=i
    ·subst hji;rw[ho]at hoj;cases hoj;exact hp p hpm
    ·rw[if_neg hji]at hj;exact hdn j oj hj hoj p hpm
  ·by_cases hji:j=i
   ·subst hji
    refine ⟨v,fun d hd=>?_,hv⟩
    rw[hdst]at hd
    show s.fr.put o.dst v d=_
    rw[hd]
    exact l4a _ _ _
   ·rw[if_neg hji]at hj
    obtain ⟨u,h1,h2⟩:=hF j hj
    refine ⟨u,fun d hd=>?_,hst j u hji h2⟩
    have hne:o.dst≠some d:=fun e=>by
     have hjs:=hsz' j hj
     have hoj:=hat (Array.getElem?_eq_getElem hjs)
     have hd2:(Yq ops[j]).dst=some d:=by simpa [YY,hoj] using hd
     exact hji (v4a hown hoj (hat ho) hd2 e)
    exact (hput d hne).trans (h1 d hd)
  ·by_cases hji:j=i
   ·rw[if_pos hji]at hLj;cases hLj
   ·rw[if_neg hji]at hLj
    have hne:o.dst≠some t:=fun e=>by
     unfold YY at hj
     cases hlj:l[j]? with
     | none=>rw[hlj]at hj;cases hj
     | some oj=>
       rw[hlj]at hj
       exact hji (v4a hown hlj (hat ho) (by simpa using hj) e)
    exact (hput t hne).trans (hpre j t hj hLj)
 rw[← hl,w6a]at hx
 unfold d1a at hx ⊢
 cases hw:ZK ops s.fr o with
 | none=>rw[hw]at hx;exact hx.elim
 | some bb=>
   rw[hw]at hx
   cases bb with
   | false=>exact fin _ hx
   | true=>exact N3a fin (fun _ _ h=>h) hx
theorem RegAt.eq {l:List Oper} {V:Nat→DHeap→Value→Prop} {i:Nat} {s:St} {d:Tmp} {c:Value} (a:RegAt l V i s) (hd:YY l i=some d) (hc:∀ h v,V i h v→v=c):s.fr d=some c:=by
 obtain ⟨v,e2,e3⟩:=a
 rw[e2 d hd,hc _ _ e3]
theorem RegAt.ex {l:List Oper} {V:Nat→DHeap→Value→Prop} {i:Nat} {s:St} {d:Tmp} (a:RegAt l V i s) (hd:YY l i=some d):∃ v,s.fr d=some v∧V i s.h v:=by
 obtain ⟨v,e2,e3⟩:=a
 exact ⟨v,e2 d hd,e3⟩
theorem RegAt.fact {l:List Oper} {V:Nat→DHeap→Value→Prop} {i:Nat} {s:St} (a:RegAt l V i s):∃ v,V i s.h v:=by
 obtain ⟨v,_,e3⟩:=a
 exact ⟨v,e3⟩
section
variable {ops:Array Oper} {o:Oper} {s:St} {E:DHeap→DHeap→Prop} {V:Nat→DHeap→Value→Prop} {i:Nat} {Q:Zv→St→Prop} {v:Value} {h':DHeap}
theorem J0a (hE:∀ h,E h h) (hw:ZK ops s.fr o=some true) (hop:dOp P (ZV s.h.ng s.fr) o s.h=.ok (.value v) s.h) (hV:V i s.h v):d1a P ops o s (B6b E V i o s) Q:=
 t1c hw hop ⟨v,_,rfl,hE _,hV,fun _ _ _ h=>h⟩
theorem w1b (hw:ZK ops s.fr o=some true) (hop:dOp P (ZV s.h.ng s.fr) o s.h=.ok .skip h') (he:E s.h h') (hV:V i h' undef) (hst:∀ j u,j≠i→V j s.h u→V j h' u):d1a P ops o s (B6b E V i o s) Q:=
 l8b hw hop ⟨undef,_,rfl,he,hV,hst⟩
end
def g6a (P:Program) (t:TypeId):Option (Nat × Nat):=
 match P.underlying t with
 | some (.array len e)=>(P.info? e).map fun i=>(len,i.size)
 | _=>none
theorem i4a {t:TypeId} {len z id o:Nat} {k:IntKind} {i:Int} (h1:g6a P t=some (len,z)) (h2:0≤i) (h3:i<(len:Int)):ZQ P t (.pointer (some ⟨id,o,none⟩)) (.int k i)=some (.pointer (some ⟨id,o+i.toNat*z,none⟩)):=by
 unfold g6a at h1
 split at h1
 ·rename_i e e1
  cases e2:P.info? e with
  | none=>rw[e2]at h1;cases h1
  | some inf=>
    rw[e2]at h1
    simp only[Option.map_some,Option.some.injEq,Prod.mk.injEq]at h1
    obtain ⟨rfl,rfl⟩:=h1
    simp only[ZQ,e1,e2]
    rw[if_pos ⟨h2,h3⟩]
 ·cases h1
end Go.D
namespace Go.D
structure Instr where
 pos:Int
 op:Int
 a:Int
 b:Int
 imm:Int
 deriving DecidableEq,Inhabited
def fInstr:FRep Instr:=fM (fP (fI .i64) (fP (fI .i64) (fP (fI .i64) (fP (fI .i64) (fI .i64))))) (fun x=>(x.pos,x.op,x.a,x.b,x.imm)) fun x y h=>by
 cases x;cases y;simp at h;simp[h]
abbrev R0a (x:Instr):Value:=.agg #[.int .i64 x.pos,.int .i64 x.op,.int .i64 x.a,.int .i64 x.b,.int .i64 x.imm]
structure Txn where
 ses:Int
 req:Int
 code:List Int
 args:List Int
 reads:List Key
 writes:List Key
def rTxn:Rep Txn:=rM (rP fI64.rep (rP fI64.rep (rP (rSl fU8.rep) (rP (rSl fI64.rep) (rP (rSl fKey.rep) (rSl fKey.rep)))))) fun x=>(x.ses,x.req,x.code,x.args,x.reads,x.writes)
abbrev h1a (ses req:Int) (vc va vr vw:Value):Value:=.agg #[.int .i64 ses,.int .i64 req,vc,va,vr,vw]
end Go.D
namespace Go.D
end Go.D
namespace Go.D
variable {P:Program} {nt:Nat}
theorem x2a {ρ ρ':Operand→Option Value}:∀ {l:List Operand},(∀ y∈l,ρ y=ρ' y)→Yk ρ l=Yk ρ' l
 | [],_=>rfl
 | x :: l,h=>by
   have ih:=x2a (l:=l) fun y hy=>h y (List.mem_cons_of_mem _ hy)
   simp only[Yk,h x List.mem_cons_self,ih]
theorem V3a {ρ ρ':Operand→Option Value}:∀ {l:List (Nat × Operand)},(∀ y∈l.map (·.2),ρ y=ρ' y)→q0a ρ l=q0a ρ' l
 | [],_=>rfl
 | (i,x) :: l,h=>by
   have ih:=V3a (l:=l) fun y hy=>h y (List.mem_cons_of_mem _ hy)
   have hx:ρ x=ρ' x:=h x List.mem_cons_self
   simp only[q0a,hx,ih]
theorem L4a {ρ ρ':Operand→Option Value} {x:Option Operand} (h:∀ y,x=some y→ρ y=ρ' y):B0a ρ x=B0a ρ' x:=by
 cases x with
 | none=>rfl
 | some y=>simp only[B0a,h y rfl]
theorem l9b {ρ ρ':Operand→Option Value} {o:Oper} {h:DHeap} (hr:∀ y∈o.op.operands,ρ y=ρ' y):dOp P ρ o h=dOp P ρ' o h:=by
 obtain ⟨dst,op,ty,pos,aft,gd⟩:=o
 simp only at hr
 cases op with
 | makeFunc fn first cap=>
   have h1:Yk ρ first.toList=Yk ρ' first.toList:=x2a fun y hy=>hr y (by simp only[Op.operands,Array.mem_append];exact .inl (by simpa using hy))
   have h2:Yk ρ cap.toList=Yk ρ' cap.toList:=x2a fun y hy=>hr y (by simp only[Op.operands,Array.mem_append];exact .inr (by simpa using hy))
   simp only[dOp,h1,h2]
 | build t ps=>
   have h1:q0a ρ ps.toList=q0a ρ' ps.toList:=V3a fun y hy=>hr y (by simpa [Op.operands] using hy)
   simp only[dOp,h1]
 | buildSlice t n ps=>
   have h1:q0a ρ ps.toList=q0a ρ' ps.toList:=V3a fun y hy=>hr y (by simpa [Op.operands] using hy)
   simp only[dOp,h1]
 | slice t x lo hi mx=>
   have h0:ρ x=ρ' x:=hr x (by simp[Op.operands])
   have h1:B0a ρ lo=B0a ρ' lo:=L4a fun y hy=>hr y (by simp[Op.operands,hy])
   have h2:B0a ρ hi=B0a ρ' hi:=L4a fun y hy=>hr y (by simp[Op.operands,hy])
   have h3:B0a ρ mx=B0a ρ' mx:=L4a fun y hy=>hr y (by simp[Op.operands,hy])
   simp only[dOp,h0,h1,h2,h3]
 | call c=>
   obtain ⟨cal,args,ts⟩:=c
   have h1:Yk ρ args.toList=Yk ρ' args.toList:=x2a fun y hy=>hr y (by simp only[Op.operands,Call.operands,Array.mem_append];exact .inr (by simpa using hy))
   cases cal with
   | value f=>
     have h2:ρ f=ρ' f:=hr f (by simp[Op.operands,Call.operands])
     simp only[dOp,h1]
     generalize Yk ρ' args.toList=x
     cases x with
     | none=>rfl
     | some vs=>simp only[h2]
   | builtin b=>
     simp only[dOp,h1]
     generalize Yk ρ' args.toList=x
     rcases x with _ | _ | ⟨_,_ | ⟨_,_ | _⟩⟩ <;> cases b <;> rfl
   | _=>
     simp only[dOp,h1]
 | defer c=>
   obtain ⟨cal,args,ts⟩:=c
   have h1:Yk ρ args.toList=Yk ρ' args.toList:=x2a fun y hy=>hr y (by simp only[Op.operands,Call.operands,Array.mem_append];exact .inr (by simpa using hy))
   cases cal with
   | value f=>
     have h2:ρ f=ρ' f:=hr f (by simp[Op.operands,Call.operands])
     simp only[dOp,h1]
     generalize Yk ρ' args.toList=x
     cases x with
     | none=>rfl
     | some vs=>simp only[h2]
   | _=>simp only[dOp,h1]
 | makeMap t r=>cases r <;> rfl
 | _=>first | rfl | (simp[Op.operands]at hr;simp only[dOp,hr])
theorem T4b {ops:Array Oper} {o:Oper} {fr fr':Fr} {n:Nat} (hl:∀ t∈looks ops o,fr' t=fr t):∀ y∈o.op.operands,ZV n fr' y=ZV n fr y:=by
 intro y hy
 cases y with
 | tmp t=>exact hl t (List.mem_append_left _ (List.mem_filterMap.2 ⟨.tmp t,by simpa using hy,rfl⟩))
 | _=>rfl
theorem c1b {ops:Array Oper} {o:Oper} {fr fr':Fr} {n:Nat} {h:DHeap} (hl:∀ t∈looks ops o,fr' t=fr t):dOp P (ZV n fr') o h=dOp P (ZV n fr) o h:=l9b (T4b hl)
theorem f7a {ops:Array Oper} {o:Oper} {fr fr':Fr} (hl:∀ t∈looks ops o,fr' t=fr t):ZK ops fr' o=ZK ops fr o:=by
 unfold ZK
 cases hg:o.guard with
 | none=>rfl
 | some g=>
   obtain ⟨j,want⟩:=g
   simp only
   cases hd:(ops[j]?).bind (·.dst) with
   | none=>rfl
   | some d=>
     have:d∈looks ops o:=List.mem_append_right _ (by rw[hg];simp[hd])
     simp only[hl d this]
def O1a (id0 n:Nat):Nat→Option Nat:=fun j=>if j=id0 then some n else if j<n then some j else none
theorem z7b {ops:Array Oper} (hd:I0a nt ops=true) {k:Nat} {o:Oper} (ho:ops[k]? = some o) {s:St} {zs:List Value} {z id0:Nat} (hw:ZK ops s.fr o=some true)
 (hop:dOp P (ZV s.h.ng s.fr) o s.h=.ok (.value (.pointer (some ⟨s.h.next,0,none⟩))) (s.h.push (.row zs z false))) (hz:zs.all Yw=true) (hg:s.h.get id0=some (.row zs z false)) (h0:id0<s.h.next) (hdf:s.df=[])
 {n:Nat} {r:Option Nat} {ι:Inj} {a:Act} {w:World} {Qc:Exit→Act→World→Prop} {Kw:Act→World→Prop} (hs:Wy nt ι s r a w) (hu:ι id0=none)
 (hK:∀ ι1 a' w',Wy nt (ι1.via (O1a id0 s.h.next)) ⟨s.fr.put o.dst (.pointer (some ⟨id0,0,none⟩)),s.df,s.h,s.rd⟩ r a' w'→ι.le (ι1.via (O1a id0 s.h.next))→ι1 id0=none→Step ι ι1 s.h (s.h.push (.row zs z false)) w w'→Kw a' w'):wpOpIn (FW r) n P ops Qc k Kw a w:=by
 refine v6a hd ho (K:=fun s'=>s'=⟨s.fr.put o.dst (.pointer (some ⟨s.h.next,0,none⟩)),s.df,s.h.push (.row zs z false),s.rd⟩) (Q:=fun _ _=>False) ?_ hs (fun ι1 s' a' w' hs' _ sr st=>?_) (fun _ _ _ _ _ _ hq=>hq.elim)
 ·unfold d1a
  rw[hw,hop]
  rfl
 subst hs'
 have hπι:∀ i e,ι i=some e→O1a id0 s.h.next i=some i:=fun i e he=>by
  have h1:i≠id0:=fun e2=>by rw[e2,hu]at he;cases he
  have h2:=hs.sim.lt i e he
  unfold O1a
  rw[if_neg h1,if_pos h2]
 have hnone:ι1 id0=none:=by
  cases he:ι1 id0 with
  | none=>rfl
  | some e=>
    have:=(st.new id0 e he hu).1
    omega
 have hle:ι.le (ι1.via (O1a id0 s.h.next)):=fun i e he=>Inj.via_of (hπι i e he) (st.le i e he)
 have hself:VRen (O1a id0 s.h.next) (.pointer (some ⟨id0,0,none⟩)) (.pointer (some ⟨s.h.next,0,none⟩)):=.ptr (by unfold O1a;rw[if_pos rfl])
 refine hK ι1 a' w' ⟨⟨sr.fr.1,fun t u hu'=>?_⟩,?_,?_,hs.rd.mono hle⟩ hle hnone st
 ·by_cases ht:o.dst=some t
  ·have e1:s.fr.put o.dst (.pointer (some ⟨id0,0,none⟩)) t=some (.pointer (some ⟨id0,0,none⟩)):=by rw[ht];exact l4a _ _ _
   have hu3:=e1.symm.trans hu'
   cases hu3
   exact hself.rel (sr.fr.2 t _ (by show s.fr.put o.dst _ t=_;rw[ht];exact l4a _ _ _))
  ·have e1:∀ v,s.fr.put o.dst v t=s.fr t:=fun v=>by
    cases hod:o.dst with
    | none=>rfl
    | some d=>exact K3a _ _ (fun e=>ht (by rw[hod,e]))
   have hu2:s.fr t=some u:=(e1 _).symm.trans hu'
   exact (VRel.ren_self hπι (hs.fr.2 t u hu2)).rel (sr.fr.2 t u ((e1 _).trans hu2))
 ·have:=sr.df
  simp only at this
  rw[hdf]at this
  show DefRel _ s.df _
  rw[hdf]
  cases hq:a'.defers with
  | nil=>trivial
  | cons x xs=>rw[hq]at this;exact this.elim
 ·refine Sim.ren (h1:=s.h.push (.row zs z false)) ⟨fun j j' i h1 h2=>?_,fun j i h1=>?_,rfl,fun g hg'=>?_,fun j i o1 h1 h2 h3=>?_⟩ sr.sim
  ·unfold O1a at h1 h2
   split at h1 <;> split at h2
   ·rename_i a b;rw[a,b]
   ·cases h1
    split at h2
    ·cases h2;omega
    ·cases h2
   ·cases h2
    split at h1
    ·cases h1;omega
    ·cases h1
   ·split at h1 <;> split at h2 <;> first | (cases h1;cases h2;rfl) | (cases h1;done) | (cases h2;done)
  ·unfold O1a at h1
   show j<s.h.next
   split at h1
   ·omega
   ·split at h1
    ·assumption
    ·cases h1
  ·obtain ⟨e,he,_⟩:=hs.sim.glob g hg'
   exact hπι g e he
  ·unfold O1a at h1
   split at h1
   ·rename_i hj
    cases h1
    rw[Zz]at h3
    cases h3
    refine ⟨.row zs z false,by rw[hj];exact hg,rfl,rfl,Nat.le_refl _,fun i v u hv hu'=>?_⟩
    rw[hv]at hu'
    cases hu'
    exact i1b _ (List.all_eq_true.1 hz v (List.mem_of_getElem? hv))
   ·split at h1
    ·rename_i hj hlt
     cases h1
     have h3':s.h.get j=some o1:=(a0a _ _ (by omega)).symm.trans h3
     obtain ⟨e,he⟩:=h2
     cases hιj:ι j with
     | none=>
       have:=(st.new j e he hιj).1
       omega
     | some e2=>
       obtain ⟨o2,g2,r2⟩:=hs.sim.obj j e2 hιj
       rw[h3']at g2
       cases g2
       exact ⟨o1,h3',r2.self hπι⟩
    ·cases h1
theorem NC.any2 {id:Nat} {ops:Array Oper} {Q:Zv→St→Prop} {s:St} (hmix:P.follows .mixedOrders=true) (hd:I0a nt ops=true)
 (hlow:∀ (i:Nat) o,ops[i]? = some o→∀ p∈Xx o,p<i) (g:Nat→Option Nat) (h1:DHeap) (e1:Ext s.h h1) (hg:∀ i x,g i=some x→s.h.next≤x∧x<h1.next) (ginj:∀ i j x,g i=some x→g j=some x→i=j)
 (I:(Nat→Bool)→St→Prop) (h0:I (fun _=>false) ⟨s.fr,s.df,h1,s.rd⟩)
 (hstep:∀ (L:Nat→Bool) (s':St) (i:Nat) (o:Oper),I L s'→ops[i]? = some o→L i=false→(∀ p∈Xx o,L p=true) →
   (g i=none∧d1a P ops o s' (fun s2=>HStep s'.h s2.h→I (fun j=>if j=i then true else L j) s2) Q) ∨
   ∃ id0 zs z,g i=some id0∧ZK ops s'.fr o=some true∧dOp P (ZV s'.h.ng s'.fr) o s'.h=.ok (.value (.pointer (some ⟨s'.h.next,0,none⟩))) (s'.h.push (.row zs z false))∧zs.all Yw=true∧s'.h.get id0=some (.row zs z false)∧s'.df=[] ∧
    I (fun j=>if j=i then true else L j) ⟨s'.fr.put o.dst (.pointer (some ⟨id0,0,none⟩)),s'.df,s'.h,s'.rd⟩)
 (hfin:∀ (L:Nat→Bool) (s:St),I L s→(∀ i,i<ops.size→L i=true)→Q .normal s):NC P nt (.region id ops true) Q s:=by
 intro n r ι0 a0 w0 hs0
 refine wpIn_region_any hmix ?_
 have key:∀ (fuel:Nat) (L:Array Bool) (s':St) (ι:Inj) (a:Act) (w:World),y0a L ops.size≤fuel→L.size=ops.size→I (fun j=>L.getD j false) s'→HStep h1 s'.h→(∀ i x,g i=some x→L.getD i false=false→ι x=none)→Wy nt ι s' r a w→Step ι0 ι s.h s'.h w0 w →
  wpAnyIn (FW r) n P .any ops (fun ex a' w'=>∃ ι' e s',Q e s'∧HStep s.h s'.h∧J1a ι' e ex∧Wy nt ι' s' r a' w'∧Step ι0 ι' s.h s'.h w0 w') fuel L a w:=by
  have hh1:HStep s.h h1:=⟨e1.next,e1.ng⟩
  have fin:∀ (L:Array Bool) (s':St) (ι:Inj) (a:Act) (w:World),L.size=ops.size→I (fun j=>L.getD j false) s'→HStep h1 s'.h→Wy nt ι s' r a w→Step ι0 ι s.h s'.h w0 w→Region.ready .any ops L=[] →
   ∃ ι' e s',Q e s'∧HStep s.h s'.h∧J1a ι' e .normal∧Wy nt ι' s' r a w∧Step ι0 ι' s.h s'.h w0 w:=by
   intro L s' ι a w hL hI hh hs hst hr
   have hfull:∀ i,i<ops.size→L.getD i false=true:=by
    intro i
    induction i using Nat.strongRecOn with
    | _ i ih=>
      intro hi
      cases hLi:L.getD i false with
      | true=>rfl
      | false=>
        exfalso
        have:i∈Region.ready .any ops L:=mem_ready.2 ⟨by rw[d5a (by rw[hL];exact hi)];exact hLi,ops[i],Array.getElem?_eq_getElem hi,fun e he hb=>?_⟩
        ·rw[hr]at this;cases this
        ·have hpm:e.on∈Xx ops[i]:=List.mem_filterMap.2 ⟨e,by simpa using he,by rw[if_pos hb]⟩
         have hlt:=hlow i _ (Array.getElem?_eq_getElem hi) _ hpm
         exact ih e.on hlt (by omega)
   exact ⟨ι,.normal,s',hfin _ _ hI hfull,hh1.trans hh,trivial,hs,hst⟩
  intro fuel
  induction fuel with
  | zero=>
    intro L s' ι a w hu hL hI hh hU hs hst
    have hr:Region.ready .any ops L=[]:=by
     rw[List.eq_nil_iff_forall_not_mem]
     intro i hi
     obtain ⟨h1,o,h2,_⟩:=mem_ready.1 hi
     have:=u3a (l:=L) ops.size (by omega) i (Array.getElem?_eq_some_iff.1 h2).1
     rw[h1]at this;cases this
    exact ⟨hr,fin L s' ι a w hL hI hh hs hst hr⟩
  | succ fuel ih=>
    intro L s' ι a w hu hL hI hh hU hs hst
    refine ⟨fin L s' ι a w hL hI hh hs hst,fun i hi=>?_⟩
    obtain ⟨h1',o,ho,h2⟩:=mem_ready.1 hi
    have his:i<ops.size:=(Array.getElem?_eq_some_iff.1 ho).1
    have hiL:i<L.size:=by rw[hL];exact his
    have hn:L.getD i false=false:=by rw[← d5a hiL];exact h1'
    have hp:∀ p∈Xx o,L.getD p false=true:=by
     intro p hp
     obtain ⟨e,he,hh⟩:=List.mem_filterMap.1 hp
     split at hh
     ·rename_i hb;cases hh;exact h2 e (by simpa using he) hb
     ·cases hh
    have hun:=d4a hiL h1' ops.size
    rw[if_pos his]at hun
    have hset:(fun j=>(L.setIfInBounds i true).getD j false)=fun j=>if j=i then true else L.getD j false:=by
     funext j
     exact U4a hiL
    have hsj:∀ j,(L.setIfInBounds i true).getD j false=if j=i then true else L.getD j false:=fun j=>U4a hiL
    rcases hstep _ s' i o hI ho hn hp with ⟨hgi,hone⟩ | ⟨id0,zs,z,hgi,hw,hop,hz,hget,hdf,hI2⟩
    ·refine v6a hd ho hone hs (fun ι' s2 a' w' hI2 g1 g2 g3=>?_) (fun ι' e s2 ex a' w' hq g1 g2 g3 g4=>⟨ι',e,s2,hq,(hh1.trans hh).trans g1,g2,g3,hst.trans g4⟩)
     refine ih _ s2 ι' a' w' (by omega) (by simpa using hL) (by rw[hset];exact hI2 g1) (hh.trans g1) (fun j x hj hLj=>?_) g2 (hst.trans g3)
     rw[hsj]at hLj
     by_cases hji:j=i
     ·rw[if_pos hji]at hLj;cases hLj
     ·rw[if_neg hji]at hLj
      have h4:=hU j x hj hLj
      cases h5:ι' x with
      | none=>rfl
      | some e=>
        have:=(g3.new x e h5 h4).1
        have:=(hg j x hj).2
        have:=hh.next
        omega
    ·have hlt:id0<s'.h.next:=Nat.lt_of_lt_of_le (hg i id0 hgi).2 hh.next
     refine z7b hd ho hw hop hz hget hlt hdf hs (hU i id0 hgi hn) fun ι1 a' w' sr hle hnone st=>?_
     have st2:=hst.trans st
     have h0n:ι0 s'.h.next=none:=by
      cases h5:ι0 s'.h.next with
      | none=>rfl
      | some e=>
        have:=hs0.sim.lt _ e h5
        have:=hst.next
        omega
     refine ih _ ⟨s'.fr.put o.dst (.pointer (some ⟨id0,0,none⟩)),s'.df,s'.h,s'.rd⟩ _ a' w' (by omega) (by simpa using hL) (by rw[hset];exact hI2) hh (fun j x hj hLj=>?_) sr ⟨Inj.le_trans hst.le hle,fun x e hx1 hx2=>?_,hst.next,hst.ng,st2.os,st2.tape,st2.output,st2.size,st2.frame,st2.drawn⟩
     ·rw[hsj]at hLj
      by_cases hji:j=i
      ·rw[if_pos hji]at hLj;cases hLj
      ·rw[if_neg hji]at hLj
       have h4:=hU j x hj hLj
       have hx0:x≠id0:=fun e=>hji (ginj j i id0 (by rw[← e];exact hj) hgi)
       have hxl:x<s'.h.next:=Nat.lt_of_lt_of_le (hg j x hj).2 hh.next
       have h6:O1a id0 s'.h.next x=some x:=by
        unfold O1a
        rw[if_neg hx0,if_pos hxl]
       show (O1a id0 s'.h.next x).bind ι1=none
       rw[h6]
       show ι1 x=none
       cases h5:ι1 x with
       | none=>rfl
       | some e=>
         have:=(st.new x e h5 h4).1
         omega
     ·obtain ⟨y,hy1,hy2⟩:=Inj.via_some hx1
      unfold O1a at hy1
      split at hy1
      ·rename_i hxe
       cases hy1
       have:=st2.new _ e hy2 h0n
       exact ⟨by rw[hxe];exact (hg i id0 hgi).1,this.2⟩
      ·split at hy1
       ·cases hy1
        exact st2.new _ e hy2 hx2
       ·cases hy1
 have hgf:∀ j,(Array.replicate ops.size false).getD j false=false:=by
  intro j;simp only[Array.getD_eq_getD_getElem?,Array.getElem?_replicate];split <;> rfl
 have hsim:Sim ι0 h1 w0:=⟨fun x e he=>Nat.lt_of_lt_of_le (hs0.sim.lt x e he) e1.next,hs0.sim.blk,fun x e he=>by
  obtain ⟨o,g1,g2⟩:=hs0.sim.obj x e he
  exact ⟨o,(e1.get x (hs0.sim.lt x e he)).trans g1,g2⟩,fun x y e e' hx hy hne hb=>by
  rw[e1.get x (hs0.sim.lt x e hx),e1.get y (hs0.sim.lt y e' hy)]
  exact hs0.sim.sep x y e e' hx hy hne hb,fun x hx=>hs0.sim.glob x (by rw[e1.ng]at hx;exact hx)⟩
 have hst0:Step ι0 ι0 s.h h1 w0 w0:=⟨Inj.le_refl _,fun x e h2 h3=>(by rw[h2]at h3;cases h3),e1.next,e1.ng,rfl,rfl,rfl,Nat.le_refl _,fun _ _ _=>rfl,Nat.le_refl _⟩
 refine key ops.size _ ⟨s.fr,s.df,h1,s.rd⟩ ι0 a0 _ ?_ (by simp) ?_ (.refl _) (fun i x hx _=>?_) ⟨hs0.fr,hs0.df,hsim.drew _,hs0.rd⟩ (hst0.trans (Step.drew ι0 h1 w0 _ (Nat.le_succ _)))
 ·have:∀ k,k≤ops.size→y0a (Array.replicate ops.size false) k≤k:=by
   intro k;induction k with
   | zero=>intro _;exact Nat.le_refl _
   | succ k ih=>intro hk;have:=ih (Nat.le_of_lt hk);simp only[y0a];split <;> omega
  exact this _ (Nat.le_refl _)
 ·have:(fun j=>(Array.replicate ops.size false).getD j false)=fun _=>false:=by funext j;exact hgf j
  rw[this]
  exact h0
 ·cases h5:ι0 x with
  | none=>rfl
  | some e=>
    have:=hs0.sim.lt x e h5
    have:=(hg i x hx).1
    omega
end Go.D
namespace Go.D
variable {P:Program} {nt:Nat}
theorem NC.any2L {id:Nat} {ops:Array Oper} {l:List Oper} {b:List Nat} {Q:Zv→St→Prop} {s:St} (hmix:P.follows .mixedOrders=true) (hd:I0a nt ops=true) (hlow:W4a ops=true) (hb:Xz ops.toList []=b) (hl:ops.map Yq=l.toArray)
 (g:Nat→Option Nat) (h1:DHeap) (e1:Ext s.h h1) (hg:∀ i x,g i=some x→s.h.next≤x∧x<h1.next) (ginj:∀ i j x,g i=some x→g j=some x→i=j)
 (I:(Nat→Bool)→St→Prop) (h0:I (fun _=>false) ⟨s.fr,s.df,h1,s.rd⟩)
 (hstep:∀ (L:Nat→Bool) (s':St) (i:Nat) (o:Oper),I L s'→l[i]? = some o→L i=false→(∀ j,(b.getD i 0).testBit j=true→L j=true)→(∀ j,(b.getD j 0).testBit i=true→L j=false) →
   (g i=none∧d1a P l.toArray o s' (fun s2=>HStep s'.h s2.h→I (fun j=>if j=i then true else L j) s2) Q) ∨
   ∃ id0 zs z,g i=some id0∧ZK l.toArray s'.fr o=some true∧dOp P (ZV s'.h.ng s'.fr) o s'.h=.ok (.value (.pointer (some ⟨s'.h.next,0,none⟩))) (s'.h.push (.row zs z false))∧zs.all Yw=true∧s'.h.get id0=some (.row zs z false)∧s'.df=[] ∧
    I (fun j=>if j=i then true else L j) ⟨s'.fr.put o.dst (.pointer (some ⟨id0,0,none⟩)),s'.df,s'.h,s'.rd⟩)
 (hfin:∀ (L:Nat→Bool) (s:St),I L s→(∀ i,i<l.length→L i=true)→Q .normal s):NC P nt (.region id ops true) Q s:=by
 subst hb
 have hsz:ops.size=l.length:=by
  have:=congrArg Array.size hl
  simpa using this
 have hat:∀ {i:Nat} {o:Oper},ops[i]? = some o→l[i]? = some (Yq o):=fun {i o} ho=>by
  have:=congrArg (fun a:Array Oper=>a[i]?) hl
  simp only[Array.getElem?_map,ho,Option.map_some]at this
  simpa using this.symm
 refine NC.any2 hmix hd (I6a hlow) g h1 e1 hg ginj (fun L s=>I L s∧(∀ i,L i=true→i<ops.size)∧∀ (i:Nat) o,L i=true→ops[i]? = some o→∀ p∈Xx o,L p=true) ⟨h0,by simp,by simp⟩ ?_ (fun L s hI hall=>hfin L s hI.1 fun i hi=>hall i (by omega))
 rintro L s' i o ⟨hI,hsz',hdn⟩ ho hn hp
 have hi:=(Array.getElem?_eq_some_iff.1 ho).1
 have hcl:∀ (k:Nat) o,ops[k]? = some o→(∀ p∈Xx o,L p=true)→∀ j,((Xz ops.toList []).getD k 0).testBit j=true→L j=true:=fun k o ho hp j hj=>
  P4a (D:=fun j=>L j=true) (fun i o hi ho p hp=>hdn i o hi ho p hp) k o ho hp j hj
 have hlate:∀ j,((Xz ops.toList []).getD j 0).testBit i=true→L j=false:=fun j hbit=>by
  cases hL:L j with
  | false=>rfl
  | true=>
    have hoj:=Array.getElem?_eq_getElem (hsz' j hL)
    have:=hcl j _ hoj (hdn j _ hL hoj) i hbit
    rw[hn]at this
    cases this
 have hx:=hstep L s' i (Yq o) hI (hat ho) hn (hcl i o ho hp) hlate
 have h2:∀ j,(if j=i then true else L j)=true→j<ops.size:=fun j hj=>by
  by_cases hji:j=i
  ·rw[hji];exact hi
  ·rw[if_neg hji]at hj;exact hsz' j hj
 have h3:∀ (j:Nat) o,(if j=i then true else L j)=true→ops[j]? = some o→∀ p∈Xx o,(if p=i then true else L p)=true:=fun j oj hj hoj p hpm=>by
  by_cases hpi:p=i
  ·rw[if_pos hpi]
  ·rw[if_neg hpi]
   by_cases hji:j=i
   ·subst hji;rw[ho]at hoj;cases hoj;exact hp p hpm
   ·rw[if_neg hji]at hj;exact hdn j oj hj hoj p hpm
 rcases hx with ⟨g0,hx⟩ | ⟨id0,zs,z,g0,w,op,hz,hget,hdf,hI2⟩
 ·refine .inl ⟨g0,?_⟩
  rw[← hl,w6a]at hx
  unfold d1a at hx ⊢
  cases hw:ZK ops s'.fr o with
  | none=>rw[hw]at hx;exact hx.elim
  | some bb=>
    rw[hw]at hx
    cases bb with
    | false=>exact fun hh=>⟨hx hh,h2,h3⟩
    | true=>exact N3a (fun s hs hh=>⟨hs hh,h2,h3⟩) (fun _ _ h=>h) hx
 ·rw[← hl,K1a]at w
  rw[D3a]at op
  exact .inr ⟨id0,zs,z,g0,w,op,hz,hget,hdf,hI2,h2,h3⟩
inductive YO
 | s (i:Nat) (o:Oper)
 | l (i:Nat) (o:Oper)
 | b (i:Nat) (o:Oper) (st:List Nat)
def YO.i:YO→Nat
 | .s i _ | .l i _ | .b i _ _=>i
def YO.o:YO→Oper
 | .s _ o | .l _ o | .b _ o _=>o
def YO.big:YO→Bool
 | .b ..=>true
 | _=>false
inductive YT
 | no
 | ld (t:TypeId) (p v:Value)
 | gh (id:Nat) (x:Option DObj)
def YS1 (P:Program) (h:DHeap):Option YT→Prop
 | some .no=>True
 | some (.ld t p v)=>XX P t p h=some v
 | some (.gh id x)=>h.get id=x
 | none=>False
def YSt (P:Program) (tr:List YT) (h:DHeap):List Nat→Prop
 | []=>True
 | k :: ks=>YS1 P h tr[k]?∧YSt P tr h ks
theorem q0b {tr:List YT} {h:DHeap}:∀ {ks:List Nat} {k:Nat},YSt P tr h ks→k∈ks→YS1 P h tr[k]?
 | k' :: ks,k,⟨h1,h2⟩,hm=>by
   rcases List.mem_cons.1 hm with e | e
   ·rw[e];exact h1
   ·exact q0b h2 e
def YD (P:Program) (ops:Array Oper) (Q:Zv→St→Prop):List YO→St→List YT→Prop
 | [],s,_=>Q .normal s
 | .s _ o :: r,s,tr=>
   match ZK ops s.fr o with
   | none=>False
   | some false=>YD P ops Q r ⟨s.fr.put o.dst undef,s.df,s.h,s.rd⟩ tr
   | some true=>
     match dOp P (ZV s.h.ng s.fr) o s.h with
     | .ok (.value v) _=>YD P ops Q r ⟨s.fr.put o.dst v,s.df,s.h,s.rd⟩ tr
     | _=>False
 | .l _ o :: r,s,tr=>
   match ZK ops s.fr o with
   | none=>False
   | some false=>YD P ops Q r ⟨s.fr.put o.dst undef,s.df,s.h,s.rd⟩ (tr++[.no])
   | some true=>
     match o.op with
     | .load t a=>
       match ZV s.h.ng s.fr a with
       | some p=>
         match XX P t p s.h with
         | some v=>YD P ops Q r ⟨s.fr.put o.dst v,s.df,s.h,s.rd⟩ (tr++[.ld t p v])
         | none=>False
       | none=>False
     | _=>False
 | .b _ o st :: r,s,tr=>
   match ZK ops s.fr o with
   | none=>False
   | some false=>YD P ops Q r ⟨s.fr.put o.dst undef,s.df,s.h,s.rd⟩ tr
   | some true=>
     match dOp P (ZV s.h.ng s.fr) o s.h with
     | .ok (.value v) h=>YSt P tr h st∧YD P ops Q r ⟨s.fr.put o.dst v,s.df,h,s.rd⟩ tr
     | .ok .skip h=>YSt P tr h st∧YD P ops Q r ⟨s.fr.put o.dst undef,s.df,h,s.rd⟩ tr
     | .ok (.enter f args) h=>∃ R,Ct P f args h R∧∀ rr h',R rr h'→match rr with
       | .ret v=>YSt P tr h' st∧YD P ops Q r ⟨s.fr.put o.dst v,s.df,h',s.rd⟩ tr
       | .pan _=>False
     | _=>False
def YG (P:Program) (K:St→List YT→Prop):List (Nat × Tmp × TypeId)→St→List YT→Prop
 | [],s,tr=>K s tr
 | (_,d,t) :: r,s,tr=>
   match k1a P t s.h with
   | some (v,h)=>YG P K r ⟨s.fr.put (some d) v,s.df,h,s.rd⟩ (tr++[.gh s.h.next (h.get s.h.next)])
   | none=>False
def c1a (gs:List (Nat × Tmp × TypeId)) (pre:List YO):List Nat:=gs.map (·.1)++pre.filterMap fun | .l i _=>some i | _=>none
def r3a (P:Program) (b:List Nat) (gs:List (Nat × Tmp × TypeId)) (pre:List YO) (y:YO):Bool:=
 (!(b.getD y.i 0).testBit y.i)&&pre.all (fun x=>!(b.getD x.i 0).testBit y.i)&&pre.all (fun x=>!x.big||(b.getD y.i 0).testBit x.i) &&
 match y with
 | .s _ o=>f2a P o.op||S0a o.op
 | .l _ o=>S0a o.op
 | .b i _ st=>pre.all (fun x=>match x with | .s j o'=>!S0a o'.op||(b.getD i 0).testBit j | _=>true)&&(c1a gs pre).zipIdx.all fun x=>(b.getD i 0).testBit x.1||st.contains x.2
def yck (P:Program) (b:List Nat) (gs:List (Nat × Tmp × TypeId)):List YO→List YO→Bool
 | _,[]=>true
 | pre,y :: r=>r3a P b gs pre y&&yck P b gs (pre++[y]) r
theorem H1b {b:List Nat} {gs:List (Nat × Tmp × TypeId)}:∀ {a pre:List YO} {y:YO} {r:List YO},yck P b gs pre (a++y :: r)=true→r3a P b gs (pre++a) y=true
 | [],pre,y,r,h=>by
   simp only[List.nil_append,yck,Bool.and_eq_true]at h
   simpa using h.1
 | x :: a,pre,y,r,h=>by
   simp only[List.cons_append,yck,Bool.and_eq_true]at h
   have:=H1b h.2
   simpa using this
def U9a:List Nat→Bool
 | []=>true
 | x :: l=>!l.contains x&&U9a l
theorem K8a:∀ {l:List Nat},U9a l=true→l.Nodup
 | [],_=>List.nodup_nil
 | x :: l,h=>by
   simp only[U9a,Bool.and_eq_true,Bool.not_eq_true']at h
   refine List.nodup_cons.2 ⟨fun hm=>?_,K8a h.2⟩
   have:=List.contains_iff_mem.2 hm
   rw[this]at h
   exact absurd h.1 (by simp)
def yOK (P:Program) (l:List Oper) (b:List Nat) (gs:List (Nat × Tmp × TypeId)) (ys:List YO):Bool:=
 U9a (gs.map (·.1)++ys.map YO.i)&&(List.range l.length).all (fun i=>(gs.map (·.1)++ys.map YO.i).contains i)&&s5a l &&
 (List.range l.length).all (fun i=>(List.range l.length).all fun j=>i==j||match YY l j with
   | none=>true
   | some d=>!((l[i]?.map (looks l.toArray)).getD []).contains d||x1a b i j) &&
 gs.all (fun x=>b.getD x.1 0==0)&&yck P b gs [] ys
theorem N7a {fr:Fr} {v:Value} {d:Option Tmp} {t:Tmp} (h:d=some t):fr.put d v t=some v:=by rw[h];exact l4a _ _ _
theorem F2a {fr:Fr} {v:Value} {d:Option Tmp} {t:Tmp} (h:d≠some t):fr.put d v t=fr t:=by
 cases d with
 | none=>rfl
 | some d=>exact K3a _ _ (fun e=>h (by rw[e]))
def FrV (l:List Oper) (b:List Nat) (fr0 sc:Fr) (i:Nat) (t:Tmp) (u:Option Value):Prop:=
 (∃ j,YY l j=some t∧(b.getD i 0).testBit j=true∧u=sc t)∨((∀ j,YY l j=some t→(b.getD i 0).testBit j=false)∧u=fr0 t)
def z6b (P:Program) (l:List Oper) (recs:List Nat) (fr:Fr) (v:Value) (ng:Nat) (tr:List YT):YO→Prop
 | .s _ o=>f2a P o.op=true∨S0a o.op=true
 | .l i o=>∃ (k:Nat) (e:YT),recs[k]? = some i∧tr[k]? = some e∧∀ h':DHeap,h'.ng=ng→YS1 P h' (some e)→Ex P l.toArray o fr h' (.ret v) h'
 | .b ..=>False
def PendS (P:Program) (l:List Oper) (b:List Nat) (gs:List (Nat × Tmp × TypeId)) (fr0:Fr) (pre:List YO) (sc:St) (tr:List YT) (y:YO):Prop:=
 ∃ fr v,(∀ t∈looks l.toArray y.o,FrV l b fr0 sc.fr y.i t (fr t))∧(∀ t,y.o.dst=some t→sc.fr t=some v)∧Ex P l.toArray y.o fr sc.h (.ret v) sc.h∧z6b P l (c1a gs pre) fr v sc.h.ng tr y
structure YI (P:Program) (l:List Oper) (b:List Nat) (gs:List (Nat × Tmp × TypeId)) (ys:List YO) (Q:Zv→St→Prop) (fr0:Fr) (n0:Nat) (L:Nat→Bool) (s:St) (pre rest:List YO) (sc:St) (tr:List YT):Prop where
 ys:ys=pre++rest
 yd:YD P l.toArray Q rest sc tr
 h:s.h=sc.h
 rd:s.rd=sc.rd
 df:s.df=[]
 dfc:sc.df=[]
 bigs:∀ y∈pre,y.big=true→L y.i=true
 undone:∀ y∈rest,L y.i=false
 f0:∀ t,(∀ j,YY l j≠some t)→s.fr t=fr0 t∧sc.fr t=fr0 t
 f1:∀ j t,YY l j=some t→(L j=true→s.fr t=sc.fr t)∧(L j=false→s.fr t=fr0 t)
 f2:∀ y∈rest,∀ t,YY l y.i=some t→sc.fr t=fr0 t
 len:tr.length=(c1a gs pre).length
 pend:∀ y∈pre,L y.i=false→PendS P l b gs fr0 pre sc tr y
 gh:∀ (k:Nat) i d t,gs[k]? = some (i,d,t)→sc.fr d=some (.pointer (some ⟨n0+k,0,none⟩))∧∃ zs z,(∀ h,k1a P t h=some (.pointer (some ⟨h.next,0,none⟩),h.push (.row zs z false)))∧zs.all Yw=true∧tr[k]? = some (.gh (n0+k) (some (.row zs z false)))∧(L i=false→sc.h.get (n0+k)=some (.row zs z false))
structure YF (P:Program) (l:List Oper) (b:List Nat) (gs:List (Nat × Tmp × TypeId)) (ys:List YO):Prop where
 nodup:(gs.map (·.1)++ys.map YO.i).Nodup
 cover:∀ i,i<l.length→i∈gs.map (·.1)∨∃ y∈ys,y.i=i
 uniq:∀ i j t,YY l i=some t→YY l j=some t→i=j
 names:∀ i j o d,l[i]? = some o→i≠j→YY l j=some d→d∈looks l.toArray o→x1a b i j=true
 gb:∀ x∈gs,b.getD x.1 0=0
 ck:yck P b gs [] ys=true
 op:∀ y∈ys,l[y.i]? = some y.o
 gop:∀ i d t,(i,d,t)∈gs→l[i]? = some (mo d (.alloc t))
theorem YF.of {l:List Oper} {b:List Nat} {gs:List (Nat × Tmp × TypeId)} {ys:List YO} (h:yOK P l b gs ys=true) (hy:ys.map (fun y=>l[y.i]?)=ys.map fun y=>some y.o) (hg:gs.map (fun x=>l[x.1]?)=gs.map fun x=>some (mo x.2.1 (.alloc x.2.2))):YF P l b gs ys:=by
 simp only[yOK,Bool.and_eq_true]at h
 obtain ⟨⟨⟨⟨⟨h1,h2⟩,h3⟩,h4⟩,h5⟩,h6⟩:=h
 have hd:∀ {i:Nat} {t:Tmp},YY l i=some t→∃ o,l[i]? = some o∧o.dst=some t:=fun {i t} hi=>by
  unfold YY at hi
  cases ho:l[i]? with
  | none=>rw[ho]at hi;cases hi
  | some o=>rw[ho]at hi;exact ⟨o,rfl,by simpa using hi⟩
 refine ⟨K8a h1,fun i hi=>?_,fun i j t hi hj=>?_,fun i j o d ho hij hj hd2=>?_,fun x hx=>?_,h6,fun y hy2=>?_,fun i d t hm=>?_⟩
 ·have:=List.all_eq_true.1 h2 i (List.mem_range.2 hi)
  have:=List.contains_iff_mem.1 this
  rcases List.mem_append.1 this with h | h
  ·exact .inl h
  ·obtain ⟨y,a,b⟩:=List.mem_map.1 h
   exact .inr ⟨y,a,b⟩
 ·obtain ⟨o,a1,a2⟩:=hd hi
  obtain ⟨o',b1,b2⟩:=hd hj
  exact v4a h3 a1 b1 a2 b2
 ·obtain ⟨o',b1,b2⟩:=hd hj
  have hi':=(List.getElem?_eq_some_iff.1 ho).1
  have hj':=(List.getElem?_eq_some_iff.1 b1).1
  have:=List.all_eq_true.1 (List.all_eq_true.1 h4 i (List.mem_range.2 hi')) j (List.mem_range.2 hj')
  simp only[Bool.or_eq_true,beq_iff_eq,hij,false_or,hj,ho,Option.map_some,Option.getD_some,Bool.not_eq_true']at this
  rcases this with h | h
  ·rw[List.contains_iff_mem.2 hd2]at h;cases h
  ·exact h
 ·exact beq_iff_eq.1 (List.all_eq_true.1 h5 x hx)
 ·have:=List.map_inj_left.1 hy y hy2
  exact this
 ·have:=List.map_inj_left.1 hg (i,d,t) hm
  exact this
section
variable {l:List Oper} {b:List Nat} {gs:List (Nat × Tmp × TypeId)} {ys:List YO} {Q:Zv→St→Prop} {fr0:Fr} {n0:Nat}
theorem u3b {y:YO} {t:Tmp} (h:l[y.i]? = some y.o):YY l y.i=y.o.dst:=by
 unfold YY
 rw[h]
 rfl
theorem q3a (pre:List YO) (y:YO):∃ r,c1a gs (pre++[y])=c1a gs pre++r∧((∃ i o,y=.l i o∧r=[i])∨((∀ i o,y≠.l i o)∧r=[])):=by
 unfold c1a
 rw[List.filterMap_append,← List.append_assoc]
 cases y with
 | l i o=>exact ⟨[i],rfl,.inl ⟨i,o,rfl,rfl⟩⟩
 | s i o=>exact ⟨[],rfl,.inr ⟨fun _ _ h=>(by cases h),rfl⟩⟩
 | b i o st=>exact ⟨[],rfl,.inr ⟨fun _ _ h=>(by cases h),rfl⟩⟩
theorem k8a {α:Type} {a c:List α} {k:Nat} {x:α} (h:a[k]? = some x):(a++c)[k]? = some x:=by
 rw[List.getElem?_append_left (List.getElem?_eq_some_iff.1 h).1]
 exact h
theorem YF.head (F:YF P l b gs ys) {pre r:List YO} {y:YO} (h:ys=pre++y :: r):(∀ x∈pre,x.i≠y.i)∧(∀ x∈r,x.i≠y.i)∧(∀ x∈gs,x.1≠y.i):=by
 have:=F.nodup
 rw[h]at this
 simp only[List.map_append,List.map_cons,List.nodup_append,List.nodup_cons,List.mem_append,List.mem_cons,List.mem_map]at this
 obtain ⟨_,⟨_,⟨h1,_⟩,h2⟩,h3⟩:=this
 exact ⟨fun x hx=>h2 _ ⟨x,hx,rfl⟩ _ (.inl rfl),fun x hx e=>h1 ⟨x,hx,e⟩,fun x hx=>h3 _ ⟨x,hx,rfl⟩ _ (.inr (.inl rfl))⟩
theorem YF.ck1 (F:YF P l b gs ys) {pre r:List YO} {y:YO} (h:ys=pre++y :: r):r3a P b gs pre y=true:=by
 have:=F.ck
 rw[h]at this
 simpa using H1b this
theorem YI.look (F:YF P l b gs ys) {L:Nat→Bool} {s sc:St} {pre r:List YO} {y:YO} {tr:List YT} (I:YI P l b gs ys Q fr0 n0 L s pre (y :: r) sc tr):∀ t∈looks l.toArray y.o,FrV l b fr0 sc.fr y.i t (sc.fr t):=by
 intro t ht
 have ho:=F.op y (by rw[I.ys];simp)
 have hck:=F.ck1 I.ys
 simp only[r3a,Bool.and_eq_true,Bool.not_eq_true',List.all_eq_true]at hck
 obtain ⟨⟨⟨c1,c2⟩,c3⟩,_⟩:=hck
 by_cases hj:∃ j,YY l j=some t∧(b.getD y.i 0).testBit j=true
 ·obtain ⟨j,h1,h2⟩:=hj
  exact .inl ⟨j,h1,h2,rfl⟩
 ·have hj':∀ j,YY l j=some t→(b.getD y.i 0).testBit j=false:=fun j h1=>by
   cases h2:(b.getD y.i 0).testBit j with
   | false=>rfl
   | true=>exact absurd ⟨j,h1,h2⟩ hj
  refine .inr ⟨hj',?_⟩
  by_cases hd:∃ j,YY l j=some t
  ·obtain ⟨j,hd⟩:=hd
   by_cases hji:j=y.i
   ·exact I.f2 y (by simp) t (by rw[← hji];exact hd)
   ·have hord:=F.names y.i j y.o t ho (Ne.symm hji) hd ht
    have hb:(b.getD j 0).testBit y.i=true:=by
     have:=hj' j hd
     unfold x1a at hord
     split at hord
     ·exact hord
     ·rw[this]at hord;cases hord
    have hjl:j<l.length:=by
     unfold YY at hd
     cases h5:l[j]? with
     | none=>rw[h5]at hd;cases hd
     | some _=>exact (List.getElem?_eq_some_iff.1 h5).1
    rcases F.cover j hjl with hg | ⟨x,hx,hxj⟩
    ·obtain ⟨z,hz,hzj⟩:=List.mem_map.1 hg
     have:=F.gb z hz
     rw[hzj]at this
     rw[this]at hb
     simp at hb
    ·rw[I.ys]at hx
     rcases List.mem_append.1 hx with hx | hx
     ·have:=c2 x hx
      rw[hxj,hb]at this
      cases this
     ·exact I.f2 x hx t (by rw[hxj];exact hd)
  ·exact (I.f0 t fun j hj=>hd ⟨j,hj⟩).2
theorem YI.agree (F:YF P l b gs ys) {L:Nat→Bool} {s sc:St} {pre rest:List YO} {tr:List YT} (I:YI P l b gs ys Q fr0 n0 L s pre rest sc tr) {i:Nat} {o:Oper} (ho:l[i]? = some o) (hn:L i=false) (hcl:∀ j,(b.getD i 0).testBit j=true→L j=true) (hlate:∀ j,(b.getD j 0).testBit i=true→L j=false)
 {fr:Fr} (hfr:∀ t∈looks l.toArray o,FrV l b fr0 sc.fr i t (fr t)):∀ t∈looks l.toArray o,fr t=s.fr t:=by
 intro t ht
 rcases hfr t ht with ⟨j,h1,h2,h3⟩ | ⟨h1,h2⟩
 ·rw[h3,(I.f1 j t h1).1 (hcl j h2)]
 ·rw[h2]
  by_cases hd:∃ j,YY l j=some t
  ·obtain ⟨j,hd⟩:=hd
   have hLj:L j=false:=by
    by_cases hji:j=i
    ·rw[hji];exact hn
    ·have hord:=F.names i j o t ho (Ne.symm hji) hd ht
     refine hlate j ?_
     have:=h1 j hd
     unfold x1a at hord
     split at hord
     ·exact hord
     ·rw[this]at hord;cases hord
   exact ((I.f1 j t hd).2 hLj).symm
  ·exact (I.f0 t fun j hj=>hd ⟨j,hj⟩).1.symm
theorem YI.take (F:YF P l b gs ys) {L:Nat→Bool} {s sc:St} {pre rest:List YO} {tr:List YT} (I:YI P l b gs ys Q fr0 n0 L s pre rest sc tr) {i:Nat} {o:Oper} (ho:l[i]? = some o) (hrest:∀ y∈rest,y.i≠i) {v:Value} (hv:∀ t,o.dst=some t→sc.fr t=some v) :
 YI P l b gs ys Q fr0 n0 (fun j=>if j=i then true else L j) ⟨s.fr.put o.dst v,s.df,s.h,s.rd⟩ pre rest sc tr:=by
 have hd:YY l i=o.dst:=by unfold YY;rw[ho];rfl
 refine ⟨I.ys,I.yd,I.h,I.rd,I.df,I.dfc,fun y hy hb=>?_,fun y hy=>?_,fun t ht=>?_,fun j t hj=>⟨fun hL=>?_,fun hL=>?_⟩,I.f2,I.len,fun y hy hL=>I.pend y hy ?_,fun k j d t hk=>?_⟩
 ·show (if y.i=i then true else L y.i)=true
  split
  ·rfl
  ·exact I.bigs y hy hb
 ·show (if y.i=i then true else L y.i)=false
  rw[if_neg (hrest y hy)]
  exact I.undone y hy
 ·refine ⟨?_,(I.f0 t ht).2⟩
  show s.fr.put o.dst v t=_
  rw[F2a (by rw[← hd];exact ht i)]
  exact (I.f0 t ht).1
 ·by_cases hji:j=i
  ·subst hji
   rw[hd]at hj
   show s.fr.put o.dst v t=_
   rw[N7a hj,hv t hj]
  ·show s.fr.put o.dst v t=_
   simp only[if_neg hji]at hL
   rw[F2a fun e=>hji (F.uniq j i t hj (hd.trans e))]
   exact (I.f1 j t hj).1 hL
 ·by_cases hji:j=i
  ·simp only[if_pos hji]at hL;cases hL
  ·show s.fr.put o.dst v t=_
   simp only[if_neg hji]at hL
   rw[F2a fun e=>hji (F.uniq j i t hj (hd.trans e))]
   exact (I.f1 j t hj).2 hL
 ·by_cases hji:y.i=i
  ·simp only[if_pos hji]at hL;cases hL
  ·simpa only[if_neg hji] using hL
 ·obtain ⟨g1,zs,z,g2,g3,g4,g5⟩:=I.gh k j d t hk
  refine ⟨g1,zs,z,g2,g3,g4,fun hL=>g5 ?_⟩
  by_cases hji:j=i
  ·simp only[if_pos hji]at hL;cases hL
  ·simpa only[if_neg hji] using hL
theorem PendS.keep (F:YF P l b gs ys) {pre r:List YO} {y0 y:YO} {sc:St} {tr tr':List YT} {v:Value} {h':DHeap} (hys:ys=pre++y0 :: r) (hy:y∈pre) (p:PendS P l b gs fr0 pre sc tr y) (hng:h'.ng=sc.h.ng)
 (hh:h'=sc.h∨((b.getD y0.i 0).testBit y.i=false∧∃ i o st,y0=.b i o st∧YSt P tr h' st)) :
 PendS P l b gs fr0 (pre++[y0]) ⟨sc.fr.put y0.o.dst v,sc.df,h',sc.rd⟩ (tr++tr') y:=by
 obtain ⟨fr,u,h1,h2,h3,h4⟩:=p
 have hne:=(F.head hys).1 y hy
 have hoy:=F.op y (by rw[hys];simp[hy])
 have ho0:=F.op y0 (by rw[hys];simp)
 have hck:=F.ck1 hys
 simp only[r3a,Bool.and_eq_true,Bool.not_eq_true',List.all_eq_true]at hck
 obtain ⟨⟨⟨c1,c2⟩,c3⟩,c4⟩:=hck
 have hoff:∀ j t,YY l j=some t→j≠y0.i→sc.fr.put y0.o.dst v t=sc.fr t:=fun j t hj hji=>F2a fun e=>hji (F.uniq j y0.i t hj ((u3b (t:=t) ho0).trans e))
 have hex:Ex P l.toArray y.o fr h' (.ret u) h'∧z6b P l (c1a gs (pre++[y0])) fr u h'.ng (tr++tr') y:=by
  obtain ⟨rr,hrr,_⟩:=q3a (gs:=gs) pre y0
  cases y with
  | b i o st=>exact h4.elim
  | s i o=>
    refine ⟨?_,h4⟩
    rcases hh with rfl | ⟨hb,i0,o0,st,rfl,hst⟩
    ·exact h3
    ·rcases h4 with h4 | h4
     ·exact (Z7a h4 h3).2 h' hng
     ·simp only[Bool.and_eq_true,List.all_eq_true]at c4
      have:=c4.1 _ hy
      simp only[h4,Bool.not_true,Bool.false_or]at this
      exact absurd (hb.symm.trans this) (by simp)
  | l i o=>
    obtain ⟨k,e,k1,k2,k3⟩:=h4
    refine ⟨?_,k,e,by rw[hrr];exact k8a k1,k8a k2,fun h2 hn hy2=>k3 h2 (hn.trans hng) hy2⟩
    rcases hh with rfl | ⟨hb,i0,o0,st,rfl,hst⟩
    ·exact h3
    ·simp only[Bool.and_eq_true,List.all_eq_true]at c4
     have:=c4.2 (i,k) (List.mem_zipIdx_iff_getElem?.2 k1)
     simp only[Bool.or_eq_true]at this
     rcases this with this | this
     ·exact absurd (hb.symm.trans this) (by simp)
     ·have hs1:=q0b hst (List.contains_iff_mem.1 this)
      rw[k2]at hs1
      exact k3 h' hng hs1
 refine ⟨fr,u,fun t ht=>?_,fun t ht=>?_,hex.1,hex.2⟩
 ·rcases h1 t ht with ⟨j,a1,a2,a3⟩ | h
  ·refine .inl ⟨j,a1,a2,a3.trans (hoff j t a1 fun e=>?_).symm⟩
   have:=c2 y hy
   rw[e]at a2
   rw[a2]at this
   cases this
  ·exact .inr h
 ·show sc.fr.put y0.o.dst v t=_
  rw[hoff y.i t ((u3b (t:=t) hoy).trans ht) hne]
  exact h2 t ht
theorem f8c {pre:List YO} {k i:Nat} {d:Tmp} {t:TypeId} (h:gs[k]? = some (i,d,t)):(c1a gs pre)[k]? = some i:=by
 unfold c1a
 refine k8a ?_
 rw[List.getElem?_map,h]
 rfl
theorem YI.small (F:YF P l b gs ys) {L:Nat→Bool} {s sc:St} {pre r:List YO} {y:YO} {tr tr':List YT} {v:Value} (I:YI P l b gs ys Q fr0 n0 L s pre (y :: r) sc tr) (hb:y.big=false)
 (hex:Ex P l.toArray y.o sc.fr sc.h (.ret v) sc.h) (hlen:tr'.length=(c1a gs (pre++[y])).length - (c1a gs pre).length) (hk:z6b P l (c1a gs (pre++[y])) sc.fr v sc.h.ng (tr++tr') y)
 (hyd:YD P l.toArray Q r ⟨sc.fr.put y.o.dst v,sc.df,sc.h,sc.rd⟩ (tr++tr')) :
 YI P l b gs ys Q fr0 n0 L s (pre++[y]) r ⟨sc.fr.put y.o.dst v,sc.df,sc.h,sc.rd⟩ (tr++tr'):=by
 obtain ⟨n1,n2,n3⟩:=F.head I.ys
 have ho:=F.op y (by rw[I.ys];simp)
 have hd:∀ t,YY l y.i=y.o.dst:=fun t=>u3b (t:=t) ho
 have hdd:YY l y.i=y.o.dst:=hd 0
 have hoff:∀ j t,YY l j=some t→j≠y.i→sc.fr.put y.o.dst v t=sc.fr t:=fun j t hj hji=>F2a fun e=>hji (F.uniq j y.i t hj (hdd.trans e))
 have hLy:=I.undone y (by simp)
 have hck:=F.ck1 I.ys
 simp only[r3a,Bool.and_eq_true,Bool.not_eq_true',List.all_eq_true]at hck
 obtain ⟨⟨⟨c1,c2⟩,c3⟩,c4⟩:=hck
 obtain ⟨rr,hrr,_⟩:=q3a (gs:=gs) pre y
 refine ⟨by rw[I.ys];simp,hyd,I.h,I.rd,I.df,I.dfc,fun x hx hxb=>?_,fun x hx=>I.undone x (by simp[hx]),fun t ht=>⟨(I.f0 t ht).1,?_⟩,fun j t hj=>⟨fun hL=>?_,(I.f1 j t hj).2⟩,fun x hx t hxt=>?_,?_,fun x hx hL=>?_,fun k i d t hk2=>?_⟩
 ·rcases List.mem_append.1 hx with hx | hx
  ·exact I.bigs x hx hxb
  ·simp only[List.mem_singleton]at hx
   rw[hx,hb]at hxb;cases hxb
 ·show sc.fr.put y.o.dst v t=_
  rw[F2a (by rw[← hdd];exact ht y.i)]
  exact (I.f0 t ht).2
 ·show s.fr t=sc.fr.put y.o.dst v t
  rw[hoff j t hj fun e=>by rw[e,hLy]at hL;cases hL]
  exact (I.f1 j t hj).1 hL
 ·show sc.fr.put y.o.dst v t=_
  rw[hoff x.i t hxt (n2 x hx)]
  exact I.f2 x (by simp[hx]) t hxt
 ·rw[List.length_append,hlen,I.len,hrr,List.length_append]
  omega
 ·rcases List.mem_append.1 hx with hx | hx
  ·exact (I.pend x hx hL).keep F I.ys hx rfl (.inl rfl)
  ·simp only[List.mem_singleton]at hx
   subst hx
   refine ⟨sc.fr,v,fun t ht=>?_,fun t ht=>N7a ht,hex,hk⟩
   rcases I.look F t ht with ⟨j,a1,a2,a3⟩ | h
   ·refine .inl ⟨j,a1,a2,(hoff j t a1 fun e=>?_).symm⟩
    rw[e,c1]at a2
    cases a2
   ·exact .inr h
 ·obtain ⟨g1,zs,z,g2,g3,g4,g5⟩:=I.gh k i d t hk2
  have hm:=List.mem_of_getElem? hk2
  have hgd:YY l i=some d:=by unfold YY;rw[F.gop i d t hm];rfl
  exact ⟨(hoff i d hgd (n3 _ hm)).trans g1,zs,z,g2,g3,k8a g4,g5⟩
theorem YI.bigStep (F:YF P l b gs ys) {L:Nat→Bool} {s sc:St} {pre r:List YO} {i:Nat} {o:Oper} {st:List Nat} {tr:List YT} {v:Value} {h':DHeap} (I:YI P l b gs ys Q fr0 n0 L s pre (.b i o st :: r) sc tr) (hcl:∀ j,(b.getD i 0).testBit j=true→L j=true)
 (hng:h'.ng=sc.h.ng) (hh:h'=sc.h∨YSt P tr h' st) (hyd:YD P l.toArray Q r ⟨sc.fr.put o.dst v,sc.df,h',sc.rd⟩ tr) :
 YI P l b gs ys Q fr0 n0 (fun j=>if j=i then true else L j) ⟨s.fr.put o.dst v,s.df,h',s.rd⟩ (pre++[.b i o st]) r ⟨sc.fr.put o.dst v,sc.df,h',sc.rd⟩ tr:=by
 obtain ⟨n1,n2,n3⟩:=F.head I.ys
 have n2:∀ x∈r,x.i≠i:=n2
 have ho:l[i]? = some o:=F.op (.b i o st) (by rw[I.ys];simp)
 have hdd:YY l i=o.dst:=by unfold YY;rw[ho];rfl
 have hoff:∀ (fr:Fr) j t,YY l j=some t→j≠i→fr.put o.dst v t=fr t:=fun fr j t hj hji=>F2a fun e=>hji (F.uniq j i t hj (hdd.trans e))
 have hck:=F.ck1 I.ys
 simp only[r3a,Bool.and_eq_true,Bool.not_eq_true',List.all_eq_true]at hck
 obtain ⟨_,c4⟩:=hck
 have hbit:∀ j,L j=false→(b.getD i 0).testBit j=false:=fun j hL=>by
  cases h:(b.getD i 0).testBit j with
  | false=>rfl
  | true=>rw[hcl j h]at hL;cases hL
 refine ⟨by rw[I.ys];simp,hyd,rfl,I.rd,I.df,I.dfc,fun x hx hxb=>?_,fun x hx=>?_,fun t ht=>?_,fun j t hj=>?_,fun x hx t hxt=>?_,?_,fun x hx hL=>?_,fun k j d t hk2=>?_⟩
 ·show (if x.i=i then true else L x.i)=true
  split
  ·rfl
  ·rename_i hxi
   rcases List.mem_append.1 hx with hx | hx
   ·exact I.bigs x hx hxb
   ·simp only[List.mem_singleton]at hx
    rw[hx]at hxi
    exact absurd rfl hxi
 ·show (if x.i=i then true else L x.i)=false
  rw[if_neg (n2 x hx)]
  exact I.undone x (by simp[hx])
 ·have:o.dst≠some t:=by rw[← hdd];exact ht i
  show s.fr.put o.dst v t=_∧sc.fr.put o.dst v t=_
  rw[F2a this,F2a this]
  exact I.f0 t ht
 ·show ((if j=i then true else L j)=true→s.fr.put o.dst v t=sc.fr.put o.dst v t)∧((if j=i then true else L j)=false→s.fr.put o.dst v t=fr0 t)
  by_cases hji:j=i
  ·rw[if_pos hji]
   rw[hji,hdd]at hj
   exact ⟨fun _=>(N7a hj).trans (N7a hj).symm,fun h=>by cases h⟩
  ·rw[if_neg hji,hoff _ j t hj hji,hoff _ j t hj hji]
   exact I.f1 j t hj
 ·show sc.fr.put o.dst v t=_
  rw[hoff _ x.i t hxt (n2 x hx)]
  exact I.f2 x (by simp[hx]) t hxt
 ·obtain ⟨rr,hrr,h⟩:=q3a (gs:=gs) pre (.b i o st)
  rcases h with ⟨_,_,h,_⟩ | ⟨_,h⟩
  ·cases h
  ·rw[hrr,h,List.append_nil]
   exact I.len
 ·have hL2:x.i≠i∧L x.i=false:=by
   by_cases hxi:x.i=i
   ·simp only[if_pos hxi]at hL;cases hL
   ·exact ⟨hxi,by simpa only[if_neg hxi] using hL⟩
  rcases List.mem_append.1 hx with hx | hx
  ·have:=(I.pend x hx hL2.2).keep F I.ys hx (tr':=[]) (v:=v) hng (hh.imp id fun h=>⟨hbit _ hL2.2,i,o,st,rfl,h⟩)
   rwa [List.append_nil]at this
  ·simp only[List.mem_singleton]at hx
   rw[hx]at hL2
   exact absurd rfl hL2.1
 ·obtain ⟨g1,zs,z,g2,g3,g4,g5⟩:=I.gh k j d t hk2
  have hm:=List.mem_of_getElem? hk2
  have hgd:YY l j=some d:=by unfold YY;rw[F.gop j d t hm];rfl
  refine ⟨(hoff _ j d hgd (n3 _ hm)).trans g1,zs,z,g2,g3,g4,fun hL=>?_⟩
  have hL2:L j=false:=by
   by_cases hji:j=i
   ·simp only[if_pos hji]at hL;cases hL
   ·simpa only[if_neg hji] using hL
  rcases hh with rfl | hst
  ·exact g5 hL2
  ·have:=c4.2 (j,k) (List.mem_zipIdx_iff_getElem?.2 (f8c hk2))
   simp only[Bool.or_eq_true]at this
   rcases this with this | this
   ·exact absurd ((hbit j hL2).symm.trans this) (by simp)
   ·have hs1:=q0b hst (List.contains_iff_mem.1 this)
    rw[g4]at hs1
    exact hs1
theorem YI.adv (F:YF P l b gs ys) {L:Nat→Bool} {s:St}:∀ (rest:List YO) {pre:List YO} {sc:St} {tr:List YT},YI P l b gs ys Q fr0 n0 L s pre rest sc tr →
 ∃ pre' rest' sc' tr',YI P l b gs ys Q fr0 n0 L s pre' rest' sc' tr'∧(rest'=[]∨∃ i o st r,rest'=.b i o st :: r)
 | [],pre,sc,tr,I=>⟨pre,[],sc,tr,I,.inl rfl⟩
 | .b i o st :: r,pre,sc,tr,I=>⟨pre,_,sc,tr,I,.inr ⟨i,o,st,r,rfl⟩⟩
 | .s i o :: r,pre,sc,tr,I=>by
   have hck:=F.ck1 I.ys
   simp only[r3a,Bool.and_eq_true]at hck
   have hk:f2a P o.op=true∨S0a o.op=true:=by simpa using hck.2
   have hl:(c1a gs (pre++[.s i o])).length=(c1a gs pre).length:=by
    obtain ⟨rr,hrr,h⟩:=q3a (gs:=gs) pre (.s i o)
    rcases h with ⟨_,_,h,_⟩ | ⟨_,h⟩
    ·cases h
    ·rw[hrr,h,List.append_nil]
   have go:∀ v,Ex P l.toArray o sc.fr sc.h (.ret v) sc.h→YD P l.toArray Q r ⟨sc.fr.put o.dst v,sc.df,sc.h,sc.rd⟩ tr→_:=fun v h1 h2=>
    YI.adv F r (I.small F (tr':=[]) rfl h1 (by rw[hl];simp) hk (by rw[List.append_nil];exact h2))
   have hyd:=I.yd
   simp only[YD]at hyd
   split at hyd
   ·exact hyd.elim
   ·rename_i hw
    exact go undef (by unfold Ex;rw[hw];exact ⟨rfl,rfl⟩) hyd
   ·rename_i hw
    split at hyd
    ·rename_i v h1 hop
     have hh:h1=sc.h:=by
      have hex:Ex P l.toArray o sc.fr sc.h (.ret v) h1:=by unfold Ex;rw[hw,hop];exact ⟨rfl,rfl⟩
      rcases hk with hk | hk
      ·exact (Z7a hk hex).1
      ·exact m0b hk hex
     subst hh
     exact go v (by unfold Ex;rw[hw,hop];exact ⟨rfl,rfl⟩) hyd
    ·exact hyd.elim
 | .l i o :: r,pre,sc,tr,I=>by
   have hck:=F.ck1 I.ys
   simp only[r3a,Bool.and_eq_true]at hck
   have hk:S0a o.op=true:=hck.2
   obtain ⟨hl,hlast⟩:(c1a gs (pre++[.l i o])).length=(c1a gs pre).length+1∧(c1a gs (pre++[.l i o]))[tr.length]? = some i:=by
    obtain ⟨rr,hrr,h⟩:=q3a (gs:=gs) pre (.l i o)
    rcases h with ⟨_,_,h,h2⟩ | ⟨h,_⟩
    ·cases h
     rw[hrr,h2,I.len]
     simp
    ·exact absurd rfl (h i o)
   have go:∀ v e,Ex P l.toArray o sc.fr sc.h (.ret v) sc.h→(∀ h':DHeap,h'.ng=sc.h.ng→YS1 P h' (some e)→Ex P l.toArray o sc.fr h' (.ret v) h')→YD P l.toArray Q r ⟨sc.fr.put o.dst v,sc.df,sc.h,sc.rd⟩ (tr++[e])→_:=fun v e h1 h3 h2=>
    YI.adv F r (I.small F (tr':=[e]) rfl h1 (by rw[hl];simp) ⟨tr.length,e,hlast,by simp,h3⟩ h2)
   have hyd:=I.yd
   simp only[YD]at hyd
   split at hyd
   ·exact hyd.elim
   ·rename_i hw
    exact go undef .no (by unfold Ex;rw[hw];exact ⟨rfl,rfl⟩) (fun h' _ _=>by unfold Ex;rw[hw];exact ⟨rfl,rfl⟩) hyd
   ·rename_i hw
    split at hyd
    ·rename_i t a hop
     split at hyd
     ·rename_i p hp
      split at hyd
      ·rename_i v hv
       have hex:∀ h':DHeap,h'.ng=sc.h.ng→XX P t p h'=some v→Ex P l.toArray o sc.fr h' (.ret v) h':=fun h' hn hv=>by
        unfold Ex dOp
        rw[hw,hop,hn]
        simp[hp,hv,DR.ofv]
       exact go v (.ld t p v) (hex sc.h rfl hv) (fun h' hn h=>hex h' hn h) hyd
      ·exact hyd.elim
     ·exact hyd.elim
    ·exact hyd.elim
end
theorem H4b {t:TypeId} {h h':DHeap} {v:Value} (e:k1a P t h=some (v,h')) :
 ∃ zs z,v=.pointer (some ⟨h.next,0,none⟩)∧h'=h.push (.row zs z false)∧zs.all Yw=true∧∀ h2,k1a P t h2=some (.pointer (some ⟨h2.next,0,none⟩),h2.push (.row zs z false)):=by
 unfold k1a at e ⊢
 cases hi:P.info? t with
 | none=>rw[hi]at e;cases e
 | some i=>
   rw[hi]at e
   simp only at e ⊢
   cases hz:i.zero with
   | none=>rw[hz]at e;cases e
   | some z=>
     rw[hz]at e
     simp only at e ⊢
     split at e
     ·rename_i hf
      cases e
      exact ⟨_,_,rfl,rfl,hf,fun h2=>by rw[if_pos hf]⟩
     ·cases e
theorem v8b {K:St→List YT→Prop}:∀ (gs:List (Nat × Tmp × TypeId)) (s:St) (tr:List YT),YG P K gs s tr→(gs.map (·.2.1)).Nodup →
 ∃ h1 fr1 tr1,K ⟨fr1,s.df,h1,s.rd⟩ (tr++tr1)∧Ext s.h h1∧h1.next=s.h.next+gs.length∧tr1.length=gs.length∧(∀ t,(∀ x∈gs,x.2.1≠t)→fr1 t=s.fr t) ∧
  ∀ (k:Nat) i d t,gs[k]? = some (i,d,t)→fr1 d=some (.pointer (some ⟨s.h.next+k,0,none⟩))∧∃ zs z,(∀ h,k1a P t h=some (.pointer (some ⟨h.next,0,none⟩),h.push (.row zs z false)))∧zs.all Yw=true∧tr1[k]? = some (.gh (s.h.next+k) (some (.row zs z false)))∧h1.get (s.h.next+k)=some (.row zs z false)
 | [],s,tr,h,_=>⟨s.h,s.fr,[],by rw[List.append_nil];exact h,.refl _,rfl,rfl,fun _ _=>rfl,fun k i d t hk=>by cases hk⟩
 | (i0,d0,t0) :: gs,s,tr,h,hn=>by
   unfold YG at h
   split at h
   ·rename_i v h2 ha
    obtain ⟨zs,z,rfl,rfl,hz,hall⟩:=H4b ha
    simp only[List.map_cons,List.nodup_cons,List.mem_map]at hn
    obtain ⟨h1,fr1,tr1,a1,a2,a3,a4,a5,a6⟩:=v8b gs _ _ h hn.2
    have e1:Ext s.h (s.h.push (.row zs z false)):=Ext.push1 _ _
    have hnx:(s.h.push (.row zs z false)).next=s.h.next+1:=rfl
    refine ⟨h1,fr1,_ :: tr1,by rw[List.append_cons];exact a1,e1.trans a2,by rw[a3];show s.h.next+1+gs.length=s.h.next+(gs.length+1);omega,by rw[List.length_cons,List.length_cons,a4],fun t ht=>?_,fun k i d t hk=>?_⟩
    ·rw[a5 t fun x hx=>ht x (List.mem_cons_of_mem _ hx)]
     exact F2a (d:=some d0) fun e=>ht (i0,d0,t0) List.mem_cons_self (Option.some.inj e)
    ·cases k with
     | zero=>
       cases hk
       refine ⟨?_,zs,z,hall,hz,?_,?_⟩
       ·rw[a5 d0 fun x hx e=>hn.1 ⟨x,hx,e⟩]
        exact N7a rfl
       ·show some (YT.gh s.h.next ((s.h.push (.row zs z false)).get s.h.next))=_
        rw[Zz]
        rfl
       ·exact (a2.get s.h.next (by rw[hnx];omega)).trans (Zz _ _)
     | succ k=>
       have hk':gs[k]? = some (i,d,t):=by simpa using hk
       obtain ⟨b1,zs',z',b2,b3,b4,b5⟩:=a6 k i d t hk'
       have e:(s.h.push (.row zs z false)).next+k=s.h.next+(k+1):=by rw[hnx];omega
       rw[e]at b1 b4 b5
       exact ⟨b1,zs',z',b2,b3,by simpa using b4,b5⟩
   ·exact h.elim
def X5a:List (Nat × Tmp × TypeId)→Nat→Nat→Option Nat
 | [],_,_=>none
 | x :: r,i,k=>if x.1=i then some k else X5a r i (k+1)
theorem k1b:∀ {gs:List (Nat × Tmp × TypeId)} {i k x:Nat},X5a gs i k=some x→∃ (m:Nat) (d:Tmp) (t:TypeId),gs[m]? = some (i,d,t)∧x=k+m
 | [],i,k,x,h=>by cases h
 | (j,d,t) :: r,i,k,x,h=>by
   unfold X5a at h
   split at h
   ·rename_i hj
    cases h
    exact ⟨0,d,t,by rw[← hj];rfl,rfl⟩
   ·obtain ⟨m,d',t',a,b⟩:=k1b h
    exact ⟨m+1,d',t',by simpa using a,by omega⟩
theorem j1b:∀ {gs:List (Nat × Tmp × TypeId)} {i k:Nat},X5a gs i k=none→∀ x∈gs,x.1≠i
 | [],_,_,_,x,hx=>by cases hx
 | y :: r,i,k,h,x,hx=>by
   unfold X5a at h
   split at h
   ·cases h
   ·rename_i hj
    rcases List.mem_cons.1 hx with rfl | hx
    ·exact hj
    ·exact j1b h x hx
theorem w6b {ops:Array Oper} {o:Oper} {s:St} {K:St→Prop} {Q:Zv→St→Prop} {v:Value} {h':DHeap} (hx:Ex P ops o s.fr s.h (.ret v) h') (hK:K ⟨s.fr.put o.dst v,s.df,h',s.rd⟩):d1a P ops o s K Q:=by
 unfold Ex at hx
 unfold d1a
 cases hw:ZK ops s.fr o with
 | none=>rw[hw]at hx;exact hx.elim
 | some bb=>
   rw[hw]at hx
   cases bb with
   | false=>
     obtain ⟨a,b⟩:=hx
     cases a
     rw[b]at hK
     exact hK
   | true=>
     simp only at hx ⊢
     split at hx
     ·rename_i heq
      obtain ⟨a,b⟩:=hx
      cases a
      rw[b]at hK
      rw[heq]
      exact hK
     ·rename_i heq
      obtain ⟨a,b⟩:=hx
      cases a
      rw[b]at hK
      rw[heq]
      exact hK
     ·rename_i heq
      rw[heq]
      exact ⟨_,hx.ct (R:=fun r h=>r=.ret v∧h=h') ⟨rfl,rfl⟩,fun r h2 ⟨e1,e2⟩=>by subst e1;subst e2;exact hK⟩
     ·rename_i heq
      rw[heq]
      exact ⟨_,hx.rt (R:=fun r h=>r=.ret v∧h=h') ⟨rfl,rfl⟩,fun r h2 ⟨e1,e2⟩=>by subst e1;subst e2;exact hK⟩
     ·rename_i heq
      cases hx.1
     ·exact hx.elim
theorem q1c {ops:Array Oper} {o:Oper} {fr fr':Fr} {h h':DHeap} {r:DEnd} (hl:∀ t∈looks ops o,fr' t=fr t) (hx:Ex P ops o fr' h r h'):Ex P ops o fr h r h':=by
 unfold Ex at hx ⊢
 rwa [f7a hl,c1b hl]at hx
theorem NC.yd {id:Nat} {ops:Array Oper} {l:List Oper} {b:List Nat} {gs:List (Nat × Tmp × TypeId)} {ys:List YO} {Q:Zv→St→Prop} {s:St} (hmix:P.follows .mixedOrders=true) (hd:I0a nt ops=true) (hlow:W4a ops=true) (hb:Xz ops.toList []=b) (hl:ops.map Yq=l.toArray)
 (hok:yOK P l b gs ys=true) (hy:ys.map (fun y=>l[y.i]?)=ys.map fun y=>some y.o) (hgm:gs.map (fun x=>l[x.1]?)=gs.map fun x=>some (mo x.2.1 (.alloc x.2.2))) (hdf:s.df=[])
 (h:YG P (YD P l.toArray Q ys) gs s []):NC P nt (.region id ops true) Q s:=by
 have F:=YF.of hok hy hgm
 have hgn:=(List.nodup_append.1 F.nodup)
 have hgd:∀ x∈gs,YY l x.1=some x.2.1:=fun x hx=>by unfold YY;rw[F.gop x.1 x.2.1 x.2.2 hx];rfl
 have hdn:(gs.map (·.2.1)).Nodup:=by
  refine List.pairwise_map.2 ((List.pairwise_map.1 hgn.1).imp_of_mem fun {x y} hx hy hne e=>hne ?_)
  exact F.uniq x.1 y.1 x.2.1 (hgd x hx) (by rw[e];exact hgd y hy)
 obtain ⟨h1,fr1,tr1,a1,a2,a3,a4,a5,a6⟩:=v8b gs s [] h hdn
 rw[List.nil_append]at a1
 have gk:∀ {i x:Nat},X5a gs i s.h.next=some x→∃ (m:Nat) (d:Tmp) (t:TypeId),gs[m]? = some (i,d,t)∧x=s.h.next+m:=k1b
 have guniq:∀ {m m':Nat} {x y:Nat × Tmp × TypeId},gs[m]? = some x→gs[m']? = some y→x.1=y.1→m=m':=fun {m m' x y} hx hy e=>by
  have hm:=(List.getElem?_eq_some_iff.1 hx).1
  have h1:(gs.map (·.1))[m]? = some x.1:=by rw[List.getElem?_map,hx];rfl
  have h2:(gs.map (·.1))[m']? = some x.1:=by rw[List.getElem?_map,hy,e];rfl
  exact (List.getElem?_inj (by simpa using hm) hgn.1).1 (h1.trans h2.symm)
 refine NC.any2L hmix hd hlow hb hl (fun i=>X5a gs i s.h.next) h1 a2 (fun i x hx=>?_) (fun i j x hi hj=>?_)
  (fun L s'=>∃ pre rest sc tr,YI P l b gs ys Q s.fr s.h.next L s' pre rest sc tr∧(rest=[]∨∃ i o st r,rest=.b i o st :: r)) ?_ ?_ ?_
 ·obtain ⟨m,d,t,b1,rfl⟩:=gk hx
  have:=(List.getElem?_eq_some_iff.1 b1).1
  omega
 ·obtain ⟨m,d,t,b1,rfl⟩:=gk hi
  obtain ⟨m',d',t',b2,e⟩:=gk hj
  have:m=m':=by omega
  subst this
  rw[b1]at b2
  cases b2
  rfl
 ·refine YI.adv F ys (pre:=[]) (sc:=⟨fr1,s.df,h1,s.rd⟩) (tr:=tr1) ⟨rfl,a1,rfl,rfl,hdf,hdf,fun y hy=>(by cases hy),fun _ _=>rfl,fun t ht=>⟨rfl,a5 t fun x hx e=>ht x.1 (by rw[← e];exact hgd x hx)⟩,fun j t _=>⟨fun h=>(by cases h),fun _=>rfl⟩,fun y hy t hyt=>a5 t fun x hx e=>?_,(by rw[a4];simp[c1a]),fun y hy=>(by cases hy),fun k i d t hk=>?_⟩
  ·have hxy:=F.uniq x.1 y.i t (by rw[← e];exact hgd x hx) hyt
   exact hgn.2.2 _ (List.mem_map.2 ⟨x,hx,rfl⟩) _ (List.mem_map.2 ⟨y,hy,rfl⟩) hxy
  ·obtain ⟨c1,zs,z,c2,c3,c4,c5⟩:=a6 k i d t hk
   exact ⟨c1,zs,z,c2,c3,c4,fun _=>c5⟩
 ·rintro L s' i o ⟨pre,rest,sc,tr,I,hr⟩ ho hn hcl hlate
  have hil:=(List.getElem?_eq_some_iff.1 ho).1
  rcases F.cover i hil with hg | ⟨y,hym,hyi⟩
  ·obtain ⟨⟨i',d,t⟩,hx,hxi⟩:=List.mem_map.1 hg
   simp only at hxi
   subst hxi
   obtain ⟨k,hk⟩:=List.getElem?_of_mem hx
   have hop:=F.gop i' d t hx
   rw[ho]at hop
   cases hop
   have hgi:X5a gs i' s.h.next=some (s.h.next+k):=by
    cases hq:X5a gs i' s.h.next with
    | none=>exact absurd rfl (j1b hq _ hx)
    | some x=>
      obtain ⟨m,d',t',b1,rfl⟩:=gk hq
      rw[guniq b1 hk rfl]
   obtain ⟨g1,zs,z,g2,g3,g4,g5⟩:=I.gh k i' d t hk
   refine .inr ⟨_,zs,z,hgi,rfl,?_,g3,?_,I.df,pre,rest,sc,tr,I.take F ho (fun y hy e=>?_) (fun t' ht=>?_),hr⟩
   ·simp only[dOp,g2,DR.ofp]
   ·rw[I.h];exact g5 hn
   ·exact hgn.2.2 _ (List.mem_map.2 ⟨_,hx,rfl⟩) _ (List.mem_map.2 ⟨y,by rw[I.ys];simp[hy],rfl⟩) e.symm
   ·cases ht
    exact g1
  ·subst hyi
   have hoy:=F.op y hym
   rw[ho]at hoy
   cases hoy
   refine .inl ⟨?_,?_⟩
   ·cases hq:X5a gs y.i s.h.next with
    | none=>rfl
    | some x=>
      obtain ⟨m,d',t',b1,_⟩:=gk hq
      exact absurd rfl (hgn.2.2 _ (List.mem_map.2 ⟨_,List.mem_of_getElem? b1,rfl⟩) _ (List.mem_map.2 ⟨y,hym,rfl⟩))
   rw[I.ys]at hym
   rcases List.mem_append.1 hym with hyp | hyr
   ·obtain ⟨fr,v,p1,p2,p3,_⟩:=I.pend y hyp hn
    have hag:=I.agree F ho hn hcl hlate p1
    rw[← I.h]at p3
    refine w6b (q1c hag p3) fun _=>⟨pre,rest,sc,tr,I.take F ho (fun x hx e=>?_) p2,hr⟩
    obtain ⟨r1,r2,hsp⟩:=List.append_of_mem hx
    have:=(F.head (pre:=pre++r1) (y:=x) (r:=r2) (by rw[I.ys,hsp];simp)).1 y (by simp[hyp])
    exact this e.symm
   ·rcases hr with rfl | ⟨i0,o0,st,r,rfl⟩
    ·cases hyr
    rcases List.mem_cons.1 hyr with rfl | hyr
    ·have hag:=I.agree F ho hn hcl hlate (I.look F)
     have hwq:ZK l.toArray s'.fr o0=ZK l.toArray sc.fr o0:=(f7a hag).symm
     have hoq:∀ n (hh:DHeap),dOp P (ZV n s'.fr) o0 hh=dOp P (ZV n sc.fr) o0 hh:=fun n hh=>(c1b hag).symm
     have hyd:=I.yd
     simp only[YD]at hyd
     unfold d1a
     show match ZK l.toArray s'.fr o0 with
      | none=>False
      | some false=>HStep s'.h s'.h→_
      | some true=>x5a P o0 s' (dOp P (ZV s'.h.ng s'.fr) o0 s'.h) _ Q
     rw[hwq]
     split at hyd
     ·exact hyd.elim
     ·rename_i hw
      have hb:=I.bigStep F hcl rfl (.inl rfl) hyd
      rw[I.h]
      exact fun _=>hb.adv F r
     ·rename_i hw
      rw[hoq,I.h]
      split at hyd
      ·rename_i v h2 hop
       rw[hop]
       exact fun hh=>(I.bigStep F hcl hh.ng (.inr hyd.1) hyd.2).adv F r
      ·rename_i h2 hop
       rw[hop]
       exact fun hh=>(I.bigStep F hcl hh.ng (.inr hyd.1) hyd.2).adv F r
      ·rename_i f args h2 hop
       rw[hop]
       obtain ⟨R,hct,hall⟩:=hyd
       refine ⟨R,hct,fun rr h3 hR=>?_⟩
       have:=hall rr h3 hR
       cases rr with
       | ret v=>exact fun hh=>(I.bigStep F hcl hh.ng (.inr this.1) this.2).adv F r
       | pan v=>exact this.elim
      ·exact hyd.elim
    ·exfalso
     obtain ⟨r1,r2,hsp⟩:=List.append_of_mem hyr
     have hck:=F.ck1 (pre:=pre++.b i0 o0 st :: r1) (y:=y) (r:=r2) (by rw[I.ys,hsp];simp)
     simp only[r3a,Bool.and_eq_true,Bool.not_eq_true',List.all_eq_true]at hck
     have:=hck.1.2 (.b i0 o0 st) (by simp)
     simp only[YO.big,Bool.not_true,Bool.false_or]at this
     have h2:=hcl _ this
     rw[I.undone (.b i0 o0 st) (by simp)]at h2
     cases h2
 ·rintro L s' ⟨pre,rest,sc,tr,I,hr⟩ hall
  rcases hr with rfl | ⟨i0,o0,st,r,rfl⟩
  ·have hyd:=I.yd
   simp only[YD]at hyd
   have:s'=sc:=by
    obtain ⟨fr',df',h',rd'⟩:=s'
    obtain ⟨fr2,df2,h2,rd2⟩:=sc
    have e1:fr'=fr2:=by
     funext t
     by_cases hd:∃ j,YY l j=some t
     ·obtain ⟨j,hj⟩:=hd
      refine (I.f1 j t hj).1 (hall j ?_)
      unfold YY at hj
      cases h5:l[j]? with
      | none=>rw[h5]at hj;cases hj
      | some _=>exact (List.getElem?_eq_some_iff.1 h5).1
     ·have:=I.f0 t fun j hj=>hd ⟨j,hj⟩
      exact this.1.trans this.2.symm
    have e2:=I.df
    have e3:=I.dfc
    have e4:=I.h
    have e5:=I.rd
    simp only at e2 e3 e4 e5
    subst e1 e2 e3 e4 e5
    rfl
   rw[this]
   exact hyd
  ·have:L i0=false:=I.undone (.b i0 o0 st) (by simp)
   rw[hall i0 (List.getElem?_eq_some_iff.1 (F.op (.b i0 o0 st) (by rw[I.ys];simp))).1]at this
   cases this
def X2a:Code→List (Array Oper)
 | .seq a b=>X2a a++X2a b
 | .cond _ a b=>X2a a++X2a b
 | .block _ c=>X2a c
 | .loop c=>X2a c
 | .region _ ops true=>[ops]
 | .rangeFunc _ _ a b=>X2a a++X2a b
 | _=>[]
def drawn (f:Func) (k:Nat):Array Oper:=match f.body with
 | some c=>(X2a c).getD k #[]
 | none=>#[]
abbrev GoC (P:Program) (f nt:Nat) (c:Code) (rs:List ResultVar):Prop:=∀ {args:List Value} {h:DHeap} {R:DEnd→DHeap→Prop},args.length≤nt→xs P nt c (z6a P rs R) ⟨d2a args nt,[],h,none⟩→Ct P f args h R
theorem GoC.of {P:Program} {f nt:Nat} {c:Code} {rs:List ResultVar} {fn:Func} (hf:P.funcs[f]? = some fn) (hb:fn.body.map strip=some c) (hn:fn.ntmps=nt) (hr:fn.results.toList=rs) (hk:p0a nt c=true):GoC P f nt c rs:=
 fun ha hx=>i4c hf hb hn hr ha hk hx
def YGa (P:Program) (K:St→List YT→Prop) (fr:Fr) (df:List f4a) (h:DHeap) (rd:Option Nat) (tr:List YT) (d:Tmp) (gs:List (Nat × Tmp × TypeId)):Option (Value × DHeap)→Prop
 | some (v,h')=>YG P K gs ⟨fr.put (some d) v,df,h',rd⟩ (tr++[.gh h.next (h'.get h.next)])
 | none=>False
theorem S5c (K:St→List YT→Prop) (fr:Fr) (df:List f4a) (h:DHeap) (rd:Option Nat) (tr:List YT) (i:Nat) (d:Tmp) (t:TypeId) (gs:List (Nat × Tmp × TypeId)):YG P K ((i,d,t) :: gs) ⟨fr,df,h,rd⟩ tr=YGa P K fr df h rd tr d gs (k1a P t h):=by
 unfold YG YGa
 rfl
theorem C1c (K:St→List YT→Prop) (fr:Fr) (df:List f4a) (h:DHeap) (rd:Option Nat) (tr:List YT) (d:Tmp) (gs:List (Nat × Tmp × TypeId)) (v:Value) (x:DObj):YGa P K fr df h rd tr d gs (some (v,h.push x))=YG P K gs ⟨fr.put (some d) v,df,h.push x,rd⟩ (tr++[.gh h.next (some x)]):=by
 show YG P K gs _ (tr++[.gh h.next ((h.push x).get h.next)])=_
 rw[Zz]
section
variable (P) (ops:Array Oper) (Q:Zv→St→Prop) (o:Oper) (st:List Nat) (r:List YO) (s:St) (tr:List YT)
def YSx:DR→Prop
 | .ok (.value v) _=>YD P ops Q r ⟨s.fr.put o.dst v,s.df,s.h,s.rd⟩ tr
 | _=>False
def YSw:Option Bool→Prop
 | none=>False
 | some false=>YD P ops Q r ⟨s.fr.put o.dst undef,s.df,s.h,s.rd⟩ tr
 | some true=>YSx P ops Q o r s tr (dOp P (ZV s.h.ng s.fr) o s.h)
def YLv (t:TypeId) (p:Value):Option Value→Prop
 | some v=>YD P ops Q r ⟨s.fr.put o.dst v,s.df,s.h,s.rd⟩ (tr++[.ld t p v])
 | none=>False
def YLa (t:TypeId):Option Value→Prop
 | some p=>YLv P ops Q o r s tr t p (XX P t p s.h)
 | none=>False
def YLo:Op→Prop
 | .load t a=>YLa P ops Q o r s tr t (ZV s.h.ng s.fr a)
 | _=>False
def YLw:Option Bool→Prop
 | none=>False
 | some false=>YD P ops Q r ⟨s.fr.put o.dst undef,s.df,s.h,s.rd⟩ (tr++[.no])
 | some true=>YLo P ops Q o r s tr o.op
def P5a (rr:DEnd) (h':DHeap):Prop:=
 match rr with
 | .ret v=>YSt P tr h' st∧YD P ops Q r ⟨s.fr.put o.dst v,s.df,h',s.rd⟩ tr
 | .pan _=>False
def YCl (f:FuncId) (args:List Value) (h:DHeap):Prop:=∃ R,Ct P f args h R∧∀ rr h',R rr h'→P5a P ops Q o st r s tr rr h'
def YBx:DR→Prop
 | .ok (.value v) h=>YSt P tr h st∧YD P ops Q r ⟨s.fr.put o.dst v,s.df,h,s.rd⟩ tr
 | .ok .skip h=>YSt P tr h st∧YD P ops Q r ⟨s.fr.put o.dst undef,s.df,h,s.rd⟩ tr
 | .ok (.enter f args) h=>YCl P ops Q o st r s tr f args h
 | _=>False
def YBw:Option Bool→Prop
 | none=>False
 | some false=>YD P ops Q r ⟨s.fr.put o.dst undef,s.df,s.h,s.rd⟩ tr
 | some true=>YBx P ops Q o st r s tr (dOp P (ZV s.h.ng s.fr) o s.h)
theorem W8c:YD P ops Q [] s tr=Q .normal s:=rfl
theorem c5d (i:Nat):YD P ops Q (.s i o :: r) s tr=YSw P ops Q o r s tr (ZK ops s.fr o):=rfl
theorem b5d (i:Nat):YD P ops Q (.l i o :: r) s tr=YLw P ops Q o r s tr (ZK ops s.fr o):=rfl
theorem a5d (i:Nat):YD P ops Q (.b i o st :: r) s tr=YBw P ops Q o st r s tr (ZK ops s.fr o):=rfl
theorem H1c:YSw P ops Q o r s tr (some true)=YSx P ops Q o r s tr (dOp P (ZV s.h.ng s.fr) o s.h):=rfl
theorem w8b (v:Value) (h:DHeap):YSx P ops Q o r s tr (.ok (.value v) h)=YD P ops Q r ⟨s.fr.put o.dst v,s.df,s.h,s.rd⟩ tr:=rfl
theorem F1c (d:Option Tmp) (t:TypeId) (a:Operand) (ty:TypeId) (pos:String) (aft:Array Edge) (gd:Option (Nat × Bool)):YLw P ops Q ⟨d,.load t a,ty,pos,aft,gd⟩ r s tr (some true)=YLa P ops Q ⟨d,.load t a,ty,pos,aft,gd⟩ r s tr t (ZV s.h.ng s.fr a):=rfl
theorem D1c (t:TypeId) (p:Value):YLa P ops Q o r s tr t (some p)=YLv P ops Q o r s tr t p (XX P t p s.h):=rfl
theorem E1c (t:TypeId) (p v:Value):YLv P ops Q o r s tr t p (some v)=YD P ops Q r ⟨s.fr.put o.dst v,s.df,s.h,s.rd⟩ (tr++[.ld t p v]):=rfl
theorem A1c:YBw P ops Q o st r s tr (some true)=YBx P ops Q o st r s tr (dOp P (ZV s.h.ng s.fr) o s.h):=rfl
theorem u8b (v:Value) (h:DHeap):YBx P ops Q o st r s tr (.ok (.value v) h)=(YSt P tr h st∧YD P ops Q r ⟨s.fr.put o.dst v,s.df,h,s.rd⟩ tr):=rfl
theorem B1c (h:DHeap):YBx P ops Q o st r s tr (.ok .skip h)=(YSt P tr h st∧YD P ops Q r ⟨s.fr.put o.dst undef,s.df,h,s.rd⟩ tr):=rfl
theorem t8b (f:FuncId) (args:List Value) (h:DHeap):YBx P ops Q o st r s tr (.ok (.enter f args) h)=YCl P ops Q o st r s tr f args h:=rfl
theorem X8c (K:St→List YT→Prop):YG P K [] s tr=K s tr:=rfl
theorem T5c (h:DHeap):YSt P tr h []=True:=rfl
theorem G1c (h:DHeap) (k:Nat) (ks:List Nat):YSt P tr h (k :: ks)=(YS1 P h tr[k]?∧YSt P tr h ks):=rfl
theorem Z8c (h:DHeap) (t:TypeId) (p v:Value):YS1 P h (some (.ld t p v))=(XX P t p h=some v):=rfl
theorem Y8c (h:DHeap) (id:Nat) (x:Option DObj):YS1 P h (some (.gh id x))=(h.get id=x):=rfl
end
section
variable {ops:Array Oper} {Q:Zv→St→Prop} {o:Oper} {st:List Nat} {r:List YO} {s:St} {tr:List YT}
theorem A3a {f:FuncId} {args:List Value} {h:DHeap} {R:DEnd→DHeap→Prop} (hc:Ct P f args h R) (hx:∀ rr h',R rr h'→P5a P ops Q o st r s tr rr h'):YCl P ops Q o st r s tr f args h:=⟨R,hc,hx⟩
theorem q8a {f:FuncId} {args:List Value} {h h':DHeap} {v:Value} (hc:DC P f args h (.ret v) h') (hx:YSt P tr h' st∧YD P ops Q r ⟨s.fr.put o.dst v,s.df,h',s.rd⟩ tr):YCl P ops Q o st r s tr f args h:=
 ⟨_,hc.ct (R:=fun rr h2=>rr=.ret v∧h2=h') ⟨rfl,rfl⟩,fun rr h2 ⟨e1,e2⟩=>by subst e1;subst e2;exact hx⟩
end
attribute [go_sem] W8c c5d b5d a5d H1c w8b F1c D1c E1c A1c u8b B1c t8b X8c S5c C1c T5c G1c Z8c Y8c
def YR (P:Program) (nt:Nat) (r:Code) (l:List Oper) (gs:List (Nat × Tmp × TypeId)) (ys:List YO):Prop:=∀ {Q:Zv→St→Prop} {s:St},s.df=[]→YG P (YD P l.toArray Q ys) gs s []→NC P nt r Q s
theorem YR.of {P:Program} {nt id:Nat} {ops:Array Oper} {l:List Oper} {gs:List (Nat × Tmp × TypeId)} {ys:List YO} (hc:(P.follows .mixedOrders&&(I0a nt ops&&(W4a ops&&yOK P l (Xz ops.toList []) gs ys)))=true:=by kernel_rfl) (hl:ops.map Yq=l.toArray:=by kernel_rfl)
 (hy:(ys.map (fun y=>l[y.i]?)=ys.map fun y=>some y.o):=by kernel_rfl) (hgm:(gs.map (fun x=>l[x.1]?)=gs.map fun x=>some (mo x.2.1 (.alloc x.2.2))):=by kernel_rfl):YR P nt (.region id ops true) l gs ys:=fun hdf h=>by
 simp only[Bool.and_eq_true]at hc
 exact NC.yd hc.1 hc.2.1 hc.2.2.1 rfl hl hc.2.2.2 hy hgm hdf h
end Go.D
namespace Go.D
def F2b (f:Func):Code:=f.body.getD .skip
def cnt:Code→Nat
 | .seq a b=>cnt a+cnt b
 | .cond _ a b=>cnt a+cnt b
 | .block _ c=>cnt c
 | .loop c=>cnt c
 | .region _ _ true=>1
 | .rangeFunc _ _ a b=>cnt a+cnt b
 | _=>0
def Wx:Code→Nat
 | .seq a b=>Wx a+Wx b
 | .cond _ a b=>Wx a+Wx b
 | .block _ c=>Wx c
 | .loop c=>Wx c
 | .rangeFunc _ _ a b=>Wx a+Wx b+1
 | _=>0
def b6a:Code→List (Code × Code)
 | .seq a b=>b6a a++b6a b
 | .cond _ a b=>b6a a++b6a b
 | .block _ c=>b6a c
 | .loop c=>b6a c
 | .rangeFunc _ _ a b=>(a,b) :: (b6a a++b6a b)
 | _=>[]
def rfA (f:Func) (j:Nat):Code:=((b6a (F2b f)).getD j (.skip,.skip)).1
def rfB (f:Func) (j:Nat):Code:=((b6a (F2b f)).getD j (.skip,.skip)).2
def I4a (o:Oper):Oper:=⟨o.dst,o.op,match o.op with
 | .call ⟨.builtin .min,_,_⟩=>o.type
 | .call ⟨.builtin .max,_,_⟩=>o.type
 | _=>0,"",#[],o.guard⟩
def mark (f:Func):Code→Nat→Nat→Code
 | .seq a b,k,j=>.seq (mark f a k j) (mark f b (k+cnt a) (j+Wx a))
 | .cond c a b,k,j=>.cond c (mark f a k j) (mark f b (k+cnt a) (j+Wx a))
 | .block i c,k,j=>.block i (mark f c k j)
 | .loop c,k,j=>.loop (mark f c k j)
 | .region _ ops false,_,_=>.region 0 (ops.toList.map I4a).toArray false
 | .region i _ true,k,_=>.region i (drawn f k) true
 | .rangeFunc g ps _ _,_,j=>.rangeFunc g ps (rfA f j) (rfB f j)
 | c,_,_=>c
inductive YK
 | s (i:Nat)
 | l (i:Nat)
 | b (i:Nat) (st:List Nat)
def Z5a:List Oper→Nat→Oper
 | a :: _,0=>a
 | _ :: l,i+1=>Z5a l i
 | [],_=>mx (.move (T 0))
def mkQ (l:List Oper):List YK→List YO
 | []=>[]
 | .s i :: r=>.s i (Z5a l i) :: mkQ l r
 | .l i :: r=>.l i (Z5a l i) :: mkQ l r
 | .b i st :: r=>.b i (Z5a l i) st :: mkQ l r
section
variable (f:Func) (a b:Code) (k i j:Nat) (op:Operand) (ps:Array Tmp) (c:Operand) (l:List Oper) (r:List YK) (o:Oper) (st:List Nat)
theorem F6c:cnt (.seq a b)=cnt a+cnt b:=rfl
theorem i2c:cnt (.cond c a b)=cnt a+cnt b:=rfl
theorem O8b:cnt (.block i a)=cnt a:=rfl
theorem l2c:cnt (.loop a)=cnt a:=rfl
theorem j2c (x:Array Oper):cnt (.region i x true)=1:=rfl
theorem D6c (x:Array Oper):cnt (.region i x false)=0:=rfl
theorem m2c:cnt .skip=0:=rfl
theorem P8b:cnt (.label i)=0:=rfl
theorem k2c:cnt (.exit i)=0:=rfl
theorem E6c:cnt .ret=0:=rfl
theorem u3c:mark f (.seq a b) k j=.seq (mark f a k j) (mark f b (k+cnt a) (j+Wx a)):=rfl
theorem r0c:mark f (.cond c a b) k j=.cond c (mark f a k j) (mark f b (k+cnt a) (j+Wx a)):=rfl
theorem C7b:mark f (.block i a) k j=.block i (mark f a k j):=rfl
theorem u0c:mark f (.loop a) k j=.loop (mark f a k j):=rfl
theorem s0c (x:Array Oper):mark f (.region i x true) k j=.region i (drawn f k) true:=rfl
theorem s3c:mark f (.region i l.toArray false) k j=.region 0 (l.map I4a).toArray false:=rfl
theorem x0d:cnt (.rangeFunc op ps a b)=cnt a+cnt b:=rfl
theorem h2c:Wx (.seq a b)=Wx a+Wx b:=rfl
theorem K8b:Wx (.cond c a b)=Wx a+Wx b:=rfl
theorem K6b:Wx (.block i a)=Wx a:=rfl
theorem M8b:Wx (.loop a)=Wx a:=rfl
theorem f2c (x:Array Oper) (t:Bool):Wx (.region i x t)=0:=rfl
theorem N8b:Wx .skip=0:=rfl
theorem L6b:Wx (.label i)=0:=rfl
theorem L8b:Wx (.exit i)=0:=rfl
theorem g2c:Wx .ret=0:=rfl
theorem C6c:Wx (.rangeFunc op ps a b)=Wx a+Wx b+1:=rfl
theorem L7c:mark f (.rangeFunc op ps a b) k j=.rangeFunc op ps (rfA f j) (rfB f j):=rfl
theorem v0c:mark f .skip k j=.skip:=rfl
theorem D7b:mark f (.label i) k j=.label i:=rfl
theorem t0c:mark f (.exit i) k j=.exit i:=rfl
theorem t3c:mark f .ret k j=.ret:=rfl
theorem r3c:List.map I4a []=[]:=rfl
theorem q0c:List.map I4a (o :: l)=I4a o :: List.map I4a l:=rfl
theorem i1c (d p t s e g):I4a ⟨d,p,t,s,e,g⟩=⟨d,p,match p with
 | .call ⟨.builtin .min,_,_⟩=>t
 | .call ⟨.builtin .max,_,_⟩=>t
 | _=>0,"",#[],g⟩:=rfl
theorem E0c:Z5a (o :: l) 0=o:=rfl
theorem D0c:Z5a (o :: l) (i+1)=Z5a l i:=rfl
theorem N7c:mkQ l []=[]:=rfl
theorem u4d:mkQ l (.s i :: r)=.s i (Z5a l i) :: mkQ l r:=rfl
theorem t4d:mkQ l (.l i :: r)=.l i (Z5a l i) :: mkQ l r:=rfl
theorem s4d:mkQ l (.b i st :: r)=.b i (Z5a l i) st :: mkQ l r:=rfl
end
attribute [go_sem] x0d h2c K8b K6b M8b f2c N8b L6b L8b g2c C6c L7c F6c i2c O8b l2c j2c D6c m2c P8b k2c E6c u3c r0c C7b u0c s0c s3c v0c D7b t0c t3c r3c q0c i1c E0c D0c N7c u4d t4d s4d
abbrev cd (f:Func) {c:Func→Code} (h:∀ g,mark g (F2b f) 0 0=c g:=by
 intro g
 conv=>
  lhs
  conv=>arg 2;whnf
  dsimp only[go_sem,Nat.reduceAdd]):Code:=c f
abbrev sd (f:Func) (b:Code) (k j:Nat) {c:Func→Code} (h:∀ g,mark g b k j=c g:=by
 intro g
 conv=>
  lhs
  conv=>arg 2;whnf
  dsimp only[go_sem,Nat.reduceAdd]):Code:=c f
abbrev yl (f:Func) (k:Nat) {l:List Oper} (h:(drawn f k).toList.map I4a=l:=by
 conv=>
  lhs
  conv=>arg 2;arg 1;whnf
  dsimp only[go_sem]):List Oper:=l
abbrev yq (l:List Oper) (c:List YK) {q:List YO} (h:mkQ l c=q:=by
 conv=>
  lhs
  conv=>arg 1;whnf
  dsimp only[go_sem]):List YO:=q
section
variable (P:Program) (t:TypeId)
theorem LD1 (e:c3a P t=true:=by kernel_rfl):∀ ⦃h:DHeap⦄ ⦃id o:Nat⦄,XX P t (.pointer (some ⟨id,o,none⟩)) h=Zq h id o:=fun _ _ _=>B5a e
theorem ST1 (e:c3a P t=true:=by kernel_rfl):∀ ⦃h:DHeap⦄ ⦃id o:Nat⦄ ⦃v:Value⦄ (_:v.cells=#[v]),Yx P t (.pointer (some ⟨id,o,none⟩)) v h=storeAt h id o [v]:=fun _ _ _ _ hv=>R4a e hv
theorem STI (e:c3a P t=true:=by kernel_rfl):∀ ⦃h:DHeap⦄ ⦃id o:Nat⦄ ⦃k:IntKind⦄ ⦃n:Int⦄,Yx P t (.pointer (some ⟨id,o,none⟩)) (.int k n) h=storeAt h id o [.int k n]:=fun _ _ _ _ _=>R4a e rfl
theorem STL (e:c3a P t=true:=by kernel_rfl):∀ ⦃h:DHeap⦄ ⦃id o:Nat⦄ ⦃a:Option Addr⦄ ⦃m c:Nat⦄,Yx P t (.pointer (some ⟨id,o,none⟩)) (.slice a m c) h=storeAt h id o [.slice a m c]:=fun _ _ _ _ _ _=>R4a e rfl
theorem LDA (n:Nat) (e:Z6a P t=some n:=by kernel_rfl):∀ ⦃h:DHeap⦄ ⦃id o:Nat⦄,XX P t (.pointer (some ⟨id,o,none⟩)) h=Zk h id o n:=fun _ _ _=>A5a e
theorem STA (n:Nat) (e:Z6a P t=some n:=by kernel_rfl):∀ ⦃h:DHeap⦄ ⦃id o:Nat⦄ ⦃cs:Array Value⦄ (_:cs.size=n),Yx P t (.pointer (some ⟨id,o,none⟩)) (.agg cs) h=storeAt h id o cs.toList:=fun _ _ _ _ hv=>G9a e hv
theorem FA (f k:Nat) (e:a9a P t f=some k:=by kernel_rfl):∀ ⦃id o:Nat⦄,M1a P t (.pointer (some ⟨id,o,none⟩)) f=some (.pointer (some ⟨id,o+k,none⟩)):=fun _ _=>Q1b e
theorem IA (z:Nat) (e:M0a P t=some z:=by kernel_rfl):∀ ⦃id o len cap:Nat⦄ ⦃k:IntKind⦄ ⦃i:Int⦄ (_:0≤i) (_:i<(len:Int)),ZQ P t (.slice (some ⟨id,o,none⟩) len cap) (.int k i)=some (.pointer (some ⟨id,o+i.toNat*z,none⟩)):=fun _ _ _ _ _ _ h2 h3=>w2a e h2 h3
theorem CV (b:TypeId) (k1 k2:IntKind) (e1:P.underlying t=some (.int k1):=by kernel_rfl) (e2:P.underlying b=some (.int k2):=by kernel_rfl):∀ ⦃h:DHeap⦄ ⦃k:IntKind⦄ ⦃n:Int⦄,z5a P t b h (some (.int k n))=.ok (.value (.int k2 (IntKind.wrap k2 n))) h:=fun _ _ _=>O1b e1 e2
theorem MI (e:l3a P t=some false:=by kernel_rfl):∀ ⦃h:DHeap⦄ ⦃v:Value⦄,m5a P t h (some v)=.ok (.value (.iface t v)) h:=fun _ _=>V1b e
theorem TA (e:l3a P t=some false:=by kernel_rfl):∀ ⦃h:DHeap⦄ ⦃v:Value⦄ ⦃ok:Bool⦄,U3a P t ok h (some (.iface t v))=.ok (.value (if ok then .tuple #[v,.bool true] else v)) h:=fun _ _ ok=>t8a e ok
theorem CA (f:FuncId) (e:L0a P f=true:=by kernel_rfl):∀ ⦃h:DHeap⦄ ⦃first cap:Array Value⦄ ⦃vs:List Value⦄,v2a P h (some (.func (.func f) first cap)) (some vs)=.ok (.enter f (first.toList++vs++cap.toList)) h:=fun _ _ _ _=>R5a e _ _ _
theorem DE (f:FuncId) (e:L0a P f=true:=by kernel_rfl):∀ ⦃h:DHeap⦄ ⦃first cap:Array Value⦄ ⦃vs:List Value⦄,b5a P h (some (.func (.func f) first cap)) (some vs)=.ok (.defer f (first.toList++vs++cap.toList)) h:=fun _ _ _ _=>T2b e _ _ _
theorem AL (z:Nat) (cs:List Value) (h1:zeroCells P t=some cs:=by kernel_rfl) (h2:cs.all Yw=true:=by kernel_rfl) (h3:i1a P t=z:=by kernel_rfl):∀ ⦃h:DHeap⦄,k1a P t h=some (.pointer (some ⟨h.next,0,none⟩),h.push (.row cs z false)):=fun _=>A8a h1 h2 h3
theorem ISL (e:Z1a P t=true:=by kernel_rfl):Z1a P t=true:=e
theorem LEN (e:Z1a P t=true:=by kernel_rfl):∀ ⦃h:DHeap⦄ ⦃a:Option Addr⦄ ⦃n c:Nat⦄,dLen P #[t] (.slice a n c) h=some (goInt n):=fun _ _ _ _=>B6a (t:=t) rfl e
theorem BS0 (z:Nat) (zs:List Value) (e:h4a P t=some (z,zs):=by kernel_rfl):∀ ⦃h:DHeap⦄,f0a P t 0 [] h=some (.slice (some ⟨h.next,0,none⟩) 0 0,h.push (.row [] z false)):=fun _=>L1b e
theorem BS1 (z:Nat) (zs:List Value) (e:h4a P t=some (z,zs):=by kernel_rfl) (b:Nat.ble z (2 ^ 24)=true:=by kernel_rfl):∀ ⦃h:DHeap⦄ ⦃a:Value⦄ (_:a.cells.size=z),f0a P t 1 [(0,a)] h=some (.slice (some ⟨h.next,0,none⟩) 1 1,h.push (.row a.cells.toList z false)):=fun _ _ ha=>c7a e ha (Nat.le_of_ble_eq_true b)
theorem BS2 (z:Nat) (zs:List Value) (e:h4a P t=some (z,zs):=by kernel_rfl) (b:Nat.ble (2*z) (2 ^ 24)=true:=by kernel_rfl):∀ ⦃h:DHeap⦄ ⦃a b:Value⦄ (_:a.cells.size=z) (_:b.cells.size=z),f0a P t 2 [(0,a),(1,b)] h=some (.slice (some ⟨h.next,0,none⟩) 2 2,h.push (.row (a.cells.toList++b.cells.toList) z false)):=fun _ _ _ ha hb=>M1b e ha hb (Nat.le_of_ble_eq_true b)
end
theorem GoC.ok (P:Program) (f nt:Nat) (c:Code) (rs:List ResultVar) (fn:Func) (hf:P.funcs[f]? = some fn:=by kernel_rfl) (hb:fn.body.map strip=some c:=by kernel_rfl) (hn:fn.ntmps=nt:=by kernel_rfl) (hr:fn.results.toList=rs:=by kernel_rfl) (hk:p0a nt c=true:=by kernel_rfl):∀ ⦃args:List Value⦄ ⦃h:DHeap⦄ ⦃R:DEnd→DHeap→Prop⦄,args.length≤nt→xs P nt c (z6a P rs R) ⟨d2a args nt,[],h,none⟩→Ct P f args h R:=
 fun _ _ _ ha hx=>i4c hf hb hn hr ha hk hx
end Go.D
namespace Go.Proofs.YtheamfnbfgiaeaaGreat
open Go.D
set_option maxRecDepth 100000
noncomputable def c7:Code:=cd Tryz.f7
def d5d:=GoC.ok Tryz.prog 7 67 c7 [(.tmp 4)] Tryz.f7
def s4c:List (Nat × Tmp × TypeId):=[]
noncomputable def P4c:=yl Tryz.f12 0
noncomputable def m5c:=yq P4c [.s 0,.s 1,.l 3,.l 5,.b 2 [0,1],.b 4 [1],.b 6 [],.b 7 [],.s 8,.b 9 [],.s 10,.s 11,.s 12,.s 13,.s 14]
noncomputable def x4d:Code:=.region 5 (drawn Tryz.f12 0) true
theorem y8c:YR Tryz.prog 77 x4d P4c s4c m5c:=YR.of
noncomputable def c12:Code:=cd Tryz.f12
def s3d:=GoC.ok Tryz.prog 12 77 c12 [(.tmp 0)] Tryz.f12
noncomputable def c14:Code:=cd Tryz.f14
noncomputable def c16:Code:=cd Tryz.f16
def t3d:=GoC.ok Tryz.prog 16 5 c16 [(.tmp 0)] Tryz.f16
def t4c:List (Nat × Tmp × TypeId):=[(10,9,59)]
noncomputable def Q4c:=yl Tryz.f19 0
noncomputable def n5c:=yq Q4c [.s 0,.s 1,.s 2,.s 3,.s 4,.s 5,.b 6 [0],.s 7,.s 8,.s 9,.b 11 [],.s 12]
noncomputable def y4d:Code:=.region 10 (drawn Tryz.f19 0) true
theorem z8c:YR Tryz.prog 97 y4d Q4c t4c n5c:=YR.of
def u4c:List (Nat × Tmp × TypeId):=[]
noncomputable def R4c:=yl Tryz.f19 1
noncomputable def o5c:=yq R4c [.s 0,.l 1,.s 2,.l 3,.s 4,.s 5,.s 6,.s 7,.s 8,.s 9,.s 10,.s 11,.s 12,.s 13,.b 14 [0,1],.s 15,.b 16 []]
noncomputable def F5c:Code:=.region 13 (drawn Tryz.f19 1) true
theorem A8c:YR Tryz.prog 97 F5c R4c u4c o5c:=YR.of
def v4c:List (Nat × Tmp × TypeId):=[]
noncomputable def S4c:=yl Tryz.f19 2
noncomputable def p5c:=yq S4c [.s 0,.s 1,.s 2,.s 3,.s 4,.s 5,.s 6,.b 7 []]
noncomputable def G5c:Code:=.region 14 (drawn Tryz.f19 2) true
theorem B8c:YR Tryz.prog 97 G5c S4c v4c p5c:=YR.of
def w4c:List (Nat × Tmp × TypeId):=[]
noncomputable def T4c:=yl Tryz.f19 3
noncomputable def q5c:=yq T4c [.s 0,.s 1,.l 2,.s 3,.l 4,.s 5,.s 6,.b 7 [0,1],.s 8,.b 9 [],.b 10 [],.s 11]
noncomputable def H5c:Code:=.region 15 (drawn Tryz.f19 3) true
theorem C8c:YR Tryz.prog 97 H5c T4c w4c q5c:=YR.of
noncomputable def c19:Code:=cd Tryz.f19
def L4c:=GoC.ok Tryz.prog 19 97 c19 [(.tmp 4),(.tmp 5)] Tryz.f19
noncomputable def c20:Code:=cd Tryz.f20
def u3d:=GoC.ok Tryz.prog 20 37 c20 [(.tmp 2)] Tryz.f20
noncomputable def c24:Code:=cd Tryz.f24
def M4c:=GoC.ok Tryz.prog 24 9 c24 [(.tmp 2)] Tryz.f24
def x4c:List (Nat × Tmp × TypeId):=[(9,6,33)]
noncomputable def U4c:=yl Tryz.f25 0
noncomputable def r5c:=yq U4c [.s 0,.s 1,.s 2,.s 3,.s 4,.b 5 [0],.s 6,.s 7,.s 8,.b 10 [],.s 11]
noncomputable def z4d:Code:=.region 3 (drawn Tryz.f25 0) true
theorem D8c:YR Tryz.prog 22 z4d U4c x4c r5c:=YR.of
noncomputable def c25:Code:=cd Tryz.f25
def N4c:=GoC.ok Tryz.prog 25 22 c25 [(.cell 4 33),(.tmp 5)] Tryz.f25
noncomputable def c28:Code:=cd Tryz.f28
def v3d:=GoC.ok Tryz.prog 28 5 c28 [(.tmp 2)] Tryz.f28
noncomputable def c29:Code:=cd Tryz.f29
def w3d:=GoC.ok Tryz.prog 29 14 c29 [(.tmp 2)] Tryz.f29
noncomputable def c30:Code:=cd Tryz.f30
def x3d:=GoC.ok Tryz.prog 30 21 c30 [(.tmp 2)] Tryz.f30
noncomputable def c34:Code:=cd Tryz.f34
def y3d:=GoC.ok Tryz.prog 34 74 c34 [(.cell 8 36)] Tryz.f34
noncomputable def c39:Code:=cd Tryz.f39
def z3d:=GoC.ok Tryz.prog 39 19 c39 [(.cell 8 26)] Tryz.f39
noncomputable def l40_0:=yl Tryz.f40 0
noncomputable def A4d:Code:=.region 6 (drawn Tryz.f40 0) true
theorem P6c {Q:Zv→St→Prop} {s:St} (h:XZ Tryz.prog l40_0.toArray (Xz (drawn Tryz.f40 0).toList []) [] s.fr Q l40_0 0 s []):NC Tryz.prog 26 A4d Q s:=
 NC.draw (by kernel_rfl) (by kernel_rfl) (by kernel_rfl) rfl (by kernel_rfl) (by kernel_rfl) h
noncomputable def c40:Code:=cd Tryz.f40
def A3d:=GoC.ok Tryz.prog 40 26 c40 [(.tmp 4)] Tryz.f40
noncomputable def c42:Code:=cd Tryz.f42
def O4c:=GoC.ok Tryz.prog 42 12 c42 [(.tmp 2)] Tryz.f42
def r7b:List (Nat × Tmp × TypeId):=[(10,5,59)]
noncomputable def V4c:=yl Tryz.f43 0
noncomputable def M7b:=yq V4c [.s 0,.s 1,.s 2,.s 3,.s 4,.s 5,.b 6 [0],.s 7,.s 8,.s 9,.b 11 [],.s 12]
noncomputable def B4d:Code:=.region 1 (drawn Tryz.f43 0) true
theorem E8c:YR Tryz.prog 50 B4d V4c r7b M7b:=YR.of
noncomputable def c43:Code:=cd Tryz.f43
def B3d:=GoC.ok Tryz.prog 43 50 c43 [(.tmp 4)] Tryz.f43
noncomputable def c44:Code:=cd Tryz.f44
def C3d:=GoC.ok Tryz.prog 44 8 c44 [(.cell 2 36)] Tryz.f44
noncomputable def K0d:Code:=rfA Tryz.f47 0
noncomputable def b2d:Code:=sd Tryz.f47 (rfA Tryz.f47 0) 0 1
theorem j2d:Go.D.strip K0d=b2d:=by kernel_rfl
noncomputable def L0d:Code:=rfB Tryz.f47 0
noncomputable def c2d:Code:=sd Tryz.f47 (rfB Tryz.f47 0) 0 1
theorem m2d:Go.D.strip L0d=c2d:=by kernel_rfl
noncomputable def c47:Code:=cd Tryz.f47
def D3d:=GoC.ok Tryz.prog 47 13 c47 [(.tmp 4)] Tryz.f47
noncomputable def c48:Code:=cd Tryz.f48
def E3d:=GoC.ok Tryz.prog 48 4 c48 [(.tmp 2)] Tryz.f48
def y4c:List (Nat × Tmp × TypeId):=[]
noncomputable def W4c:=yl Tryz.f52 0
noncomputable def s5c:=yq W4c [.s 0,.s 1,.s 2,.s 3,.s 4,.s 5,.s 6,.b 7 []]
noncomputable def C4d:Code:=.region 8 (drawn Tryz.f52 0) true
theorem F8c:YR Tryz.prog 136 C4d W4c y4c s5c:=YR.of
def z4c:List (Nat × Tmp × TypeId):=[]
noncomputable def X4c:=yl Tryz.f52 1
noncomputable def t5c:=yq X4c [.s 0,.s 1,.s 2,.s 3,.s 4,.s 5,.s 6,.s 7,.b 8 []]
noncomputable def D4d:Code:=.region 13 (drawn Tryz.f52 1) true
theorem G8c:YR Tryz.prog 136 D4d X4c z4c t5c:=YR.of
def A4c:List (Nat × Tmp × TypeId):=[]
noncomputable def Y4c:=yl Tryz.f52 2
noncomputable def u5c:=yq Y4c [.s 0,.s 1,.s 2,.l 3,.s 4,.s 6,.b 5 [0],.s 7,.b 8 []]
noncomputable def E4d:Code:=.region 34 (drawn Tryz.f52 2) true
theorem H8c:YR Tryz.prog 136 E4d Y4c A4c u5c:=YR.of
noncomputable def c52:Code:=cd Tryz.f52
def F3d:=GoC.ok Tryz.prog 52 136 c52 [(.cell 6 94)] Tryz.f52
noncomputable def c53:Code:=cd Tryz.f53
def G3d:=GoC.ok Tryz.prog 53 12 c53 [(.tmp 4)] Tryz.f53
noncomputable def l55_0:=yl Tryz.f55 0
noncomputable def F4d:Code:=.region 1 (drawn Tryz.f55 0) true
theorem Q6c {Q:Zv→St→Prop} {s:St} (h:XZ Tryz.prog l55_0.toArray (Xz (drawn Tryz.f55 0).toList []) [(6,4),(8,4)] s.fr Q l55_0 0 s []):NC Tryz.prog 17 F4d Q s:=
 NC.draw (by kernel_rfl) (by kernel_rfl) (by kernel_rfl) rfl (by kernel_rfl) (by kernel_rfl) h
noncomputable def c55:Code:=cd Tryz.f55
def H3d:=GoC.ok Tryz.prog 55 17 c55 [(.tmp 4)] Tryz.f55
noncomputable def c63:Code:=cd Tryz.f63
def I3d:=GoC.ok Tryz.prog 63 8 c63 [(.tmp 2)] Tryz.f63
noncomputable def c67:Code:=cd Tryz.f67
def J3d:=GoC.ok Tryz.prog 67 16 c67 [] Tryz.f67
noncomputable def c69:Code:=cd Tryz.f69
def K3d:=GoC.ok Tryz.prog 69 94 c69 [(.tmp 2)] Tryz.f69
noncomputable def c70:Code:=cd Tryz.f70
def L3d:=GoC.ok Tryz.prog 70 44 c70 [(.cell 2 143),(.cell 3 52)] Tryz.f70
noncomputable def c71:Code:=cd Tryz.f71
def M3d:=GoC.ok Tryz.prog 71 9 c71 [(.tmp 4)] Tryz.f71
def B4c:List (Nat × Tmp × TypeId):=[]
noncomputable def Z4c:=yl Tryz.f72 0
noncomputable def v5c:=yq Z4c [.s 0,.s 1,.s 2,.s 3,.s 4,.s 5,.s 6,.s 7,.s 8,.s 9,.s 10,.s 11,.s 12,.s 13,.s 14]
noncomputable def G4d:Code:=.region 1 (drawn Tryz.f72 0) true
theorem I8c:YR Tryz.prog 248 G4d Z4c B4c v5c:=YR.of
def C4c:List (Nat × Tmp × TypeId):=[]
noncomputable def a5c:=yl Tryz.f72 1
noncomputable def w5c:=yq a5c [.s 0,.s 1,.s 2,.s 3,.s 4,.s 5,.s 6,.s 7,.s 8,.s 9,.s 10,.b 11 []]
noncomputable def H4d:Code:=.region 12 (drawn Tryz.f72 1) true
theorem J8c:YR Tryz.prog 248 H4d a5c C4c w5c:=YR.of
def D4c:List (Nat × Tmp × TypeId):=[]
noncomputable def b5c:=yl Tryz.f72 2
noncomputable def x5c:=yq b5c [.s 0,.s 1,.s 2,.s 3,.s 4,.s 5,.s 6,.s 7,.s 8,.s 9,.s 10,.b 11 [],.s 12,.s 13,.s 14,.s 15,.b 16 []]
noncomputable def I4d:Code:=.region 16 (drawn Tryz.f72 2) true
theorem K8c:YR Tryz.prog 248 I4d b5c D4c x5c:=YR.of
def E4c:List (Nat × Tmp × TypeId):=[]
noncomputable def c5c:=yl Tryz.f72 3
noncomputable def y5c:=yq c5c [.s 0,.s 1,.s 2,.s 3,.s 4,.s 5,.s 6,.s 7,.s 8,.s 9,.b 10 [],.s 11,.s 12,.s 13,.s 14,.s 15]
noncomputable def J4d:Code:=.region 18 (drawn Tryz.f72 3) true
theorem L8c:YR Tryz.prog 248 J4d c5c E4c y5c:=YR.of
def F4c:List (Nat × Tmp × TypeId):=[(9,9,31)]
noncomputable def d5c:=yl Tryz.f72 4
noncomputable def z5c:=yq d5c [.s 0,.s 1,.s 2,.s 3,.s 4,.s 5,.s 6,.s 7,.s 8,.b 10 []]
noncomputable def K4d:Code:=.region 21 (drawn Tryz.f72 4) true
theorem M8c:YR Tryz.prog 248 K4d d5c F4c z5c:=YR.of
def G4c:List (Nat × Tmp × TypeId):=[]
noncomputable def f5c:=yl Tryz.f72 5
noncomputable def A5c:=yq f5c [.s 0,.s 1,.s 2,.s 3,.s 4,.s 5,.s 6,.s 7,.s 8,.s 9,.b 10 []]
noncomputable def L4d:Code:=.region 22 (drawn Tryz.f72 5) true
theorem N8c:YR Tryz.prog 248 L4d f5c G4c A5c:=YR.of
def H4c:List (Nat × Tmp × TypeId):=[(9,10,31)]
noncomputable def g5c:=yl Tryz.f72 6
noncomputable def B5c:=yq g5c [.s 0,.s 1,.s 2,.s 3,.s 4,.s 5,.s 6,.s 7,.s 8,.b 10 []]
noncomputable def M4d:Code:=.region 24 (drawn Tryz.f72 6) true
theorem O8c:YR Tryz.prog 248 M4d g5c H4c B5c:=YR.of
def I4c:List (Nat × Tmp × TypeId):=[]
noncomputable def h5c:=yl Tryz.f72 7
noncomputable def C5c:=yq h5c [.s 0,.s 1,.s 2,.s 3,.s 4,.s 5,.s 6,.b 7 []]
noncomputable def N4d:Code:=.region 25 (drawn Tryz.f72 7) true
theorem P8c:YR Tryz.prog 248 N4d h5c I4c C5c:=YR.of
def J4c:List (Nat × Tmp × TypeId):=[]
noncomputable def i5c:=yl Tryz.f72 8
noncomputable def D5c:=yq i5c [.s 0,.s 1,.s 2,.s 3,.s 4,.s 5,.b 6 [],.s 7,.b 8 []]
noncomputable def O4d:Code:=.region 27 (drawn Tryz.f72 8) true
theorem Q8c:YR Tryz.prog 248 O4d i5c J4c D5c:=YR.of
def K4c:List (Nat × Tmp × TypeId):=[]
noncomputable def j5c:=yl Tryz.f72 9
noncomputable def E5c:=yq j5c [.s 0,.s 1,.s 2,.s 3,.l 4,.s 5,.s 6,.s 7,.b 8 [0],.b 9 [],.s 10,.s 11,.b 12 []]
noncomputable def P4d:Code:=.region 36 (drawn Tryz.f72 9) true
theorem R8c:YR Tryz.prog 248 P4d j5c K4c E5c:=YR.of
def I9b:List (Nat × Tmp × TypeId):=[]
noncomputable def d0c:=yl Tryz.f72 10
noncomputable def P0c:=yq d0c [.s 0,.s 1,.s 2,.s 3,.s 4,.s 5,.b 6 [],.s 7]
noncomputable def X1d:Code:=.region 41 (drawn Tryz.f72 10) true
theorem d4c:YR Tryz.prog 248 X1d d0c I9b P0c:=YR.of
def J9b:List (Nat × Tmp × TypeId):=[]
noncomputable def f0c:=yl Tryz.f72 11
noncomputable def Q0c:=yq f0c [.s 0,.s 1,.s 2,.s 3,.s 4,.s 5,.b 6 [],.s 7]
noncomputable def Y1d:Code:=.region 46 (drawn Tryz.f72 11) true
theorem f4c:YR Tryz.prog 248 Y1d f0c J9b Q0c:=YR.of
def K9b:List (Nat × Tmp × TypeId):=[]
noncomputable def g0c:=yl Tryz.f72 12
noncomputable def R0c:=yq g0c [.s 0,.s 1,.s 2,.s 3,.s 4,.s 5,.s 6,.s 7,.s 8,.s 9,.b 10 []]
noncomputable def Z1d:Code:=.region 48 (drawn Tryz.f72 12) true
theorem g4c:YR Tryz.prog 248 Z1d g0c K9b R0c:=YR.of
def L9b:List (Nat × Tmp × TypeId):=[]
noncomputable def h0c:=yl Tryz.f72 13
noncomputable def S0c:=yq h0c [.s 0,.s 1,.s 2,.s 3,.s 4,.s 5,.b 6 [],.s 7,.s 8,.s 9,.s 10,.s 11]
noncomputable def a2d:Code:=.region 3 (drawn Tryz.f72 13) true
theorem h4c:YR Tryz.prog 248 a2d h0c L9b S0c:=YR.of
noncomputable def c72:Code:=cd Tryz.f72
def N3d:=GoC.ok Tryz.prog 72 248 c72 [(.tmp 4)] Tryz.f72
noncomputable def c73:Code:=cd Tryz.f73
def O3d:=GoC.ok Tryz.prog 73 42 c73 [(.tmp 2)] Tryz.f73
noncomputable def c74:Code:=cd Tryz.f74
def P3d:=GoC.ok Tryz.prog 74 5 c74 [(.tmp 2)] Tryz.f74
noncomputable def c75:Code:=cd Tryz.f75
def Q3d:=GoC.ok Tryz.prog 75 14 c75 [] Tryz.f75
noncomputable def c77:Code:=cd Tryz.f77
def R3d:=GoC.ok Tryz.prog 77 18 c77 [(.tmp 2)] Tryz.f77
noncomputable def c78:Code:=cd Tryz.f78
def S3d:=GoC.ok Tryz.prog 78 20 c78 [(.tmp 4)] Tryz.f78
noncomputable def c79:Code:=cd Tryz.f79
def T3d:=GoC.ok Tryz.prog 79 20 c79 [(.tmp 4)] Tryz.f79
noncomputable def c95:Code:=cd Tryz.f95
def U3d:=GoC.ok Tryz.prog 95 8 c95 [(.tmp 2)] Tryz.f95
noncomputable def l96_0:=yl Tryz.f96 0
noncomputable def Q4d:Code:=.region 4 (drawn Tryz.f96 0) true
theorem R6c {Q:Zv→St→Prop} {s:St} (h:XZ Tryz.prog l96_0.toArray (Xz (drawn Tryz.f96 0).toList []) [] s.fr Q l96_0 0 s []):NC Tryz.prog 54 Q4d Q s:=
 NC.draw (by kernel_rfl) (by kernel_rfl) (by kernel_rfl) rfl (by kernel_rfl) (by kernel_rfl) h
noncomputable def c96:Code:=cd Tryz.f96
def V3d:=GoC.ok Tryz.prog 96 54 c96 [(.tmp 2)] Tryz.f96
noncomputable def c97:Code:=cd Tryz.f97
theorem F5b:Tryz.f97.body.map strip=some c97:=by kernel_rfl
noncomputable def c98:Code:=cd Tryz.f98
def W3d:=GoC.ok Tryz.prog 98 15 c98 [(.tmp 2)] Tryz.f98
noncomputable def c99:Code:=cd Tryz.f99
def X3d:=GoC.ok Tryz.prog 99 27 c99 [(.tmp 2)] Tryz.f99
noncomputable def w9c:Code:=cd Tryz.f100
def M0d:=GoC.ok Tryz.prog 100 11 w9c [(.tmp 2)] Tryz.f100
noncomputable def X1c:Code:=cd Tryz.f101
def M9b:=GoC.ok Tryz.prog 101 7 X1c [] Tryz.f101
noncomputable def Y1c:Code:=cd Tryz.f102
def N9b:=GoC.ok Tryz.prog 102 42 Y1c [(.tmp 4)] Tryz.f102
def F9b:List (Nat × Tmp × TypeId):=[]
noncomputable def X9b:=yl Tryz.f103 0
noncomputable def M0c:=yq X9b [.s 0,.l 1,.s 2,.s 3,.b 4 [0],.s 5,.b 6 [],.b 7 [],.s 8]
noncomputable def L1d:Code:=.region 11 (drawn Tryz.f103 0) true
theorem Z3c:YR Tryz.prog 40 L1d X9b F9b M0c:=YR.of
noncomputable def x9c:Code:=cd Tryz.f103
def N0d:=GoC.ok Tryz.prog 103 40 x9c [(.tmp 2)] Tryz.f103
noncomputable def y9c:Code:=cd Tryz.f104
def O0d:=GoC.ok Tryz.prog 104 10 y9c [(.tmp 3)] Tryz.f104
noncomputable def z9c:Code:=cd Tryz.f105
def P0d:=GoC.ok Tryz.prog 105 8 z9c [(.tmp 4)] Tryz.f105
def F3b:List (Nat × Tmp × TypeId):=[(9,6,99)]
noncomputable def Y9b:=yl Tryz.f106 0
noncomputable def Y3b:=yq Y9b [.s 0,.s 1,.s 2,.s 3,.s 4,.b 5 [0],.s 6,.s 7,.s 8,.b 10 [],.s 11]
noncomputable def M1d:Code:=.region 1 (drawn Tryz.f106 0) true
theorem x4b:YR Tryz.prog 36 M1d Y9b F3b Y3b:=YR.of
def G9b:List (Nat × Tmp × TypeId):=[]
noncomputable def Z9b:=yl Tryz.f106 1
noncomputable def N0c:=yq Z9b [.s 0,.s 1,.s 2,.s 3,.s 4,.s 5,.s 6]
noncomputable def N1d:Code:=.region 3 (drawn Tryz.f106 1) true
theorem a4c:YR Tryz.prog 36 N1d Z9b G9b N0c:=YR.of
def G3b:List (Nat × Tmp × TypeId):=[]
noncomputable def a0c:=yl Tryz.f106 2
noncomputable def Z3b:=yq a0c [.s 0,.s 1,.s 2,.s 3,.s 4,.b 5 [],.s 6,.s 7,.s 8,.s 9,.s 10]
noncomputable def O1d:Code:=.region 4 (drawn Tryz.f106 2) true
theorem b4c:YR Tryz.prog 36 O1d a0c G3b Z3b:=YR.of
noncomputable def Z1c:Code:=cd Tryz.f106
def Q0d:=GoC.ok Tryz.prog 106 36 Z1c [(.tmp 4),(.tmp 5)] Tryz.f106
noncomputable def A9c:Code:=cd Tryz.f107
def R0d:=GoC.ok Tryz.prog 107 4 A9c [(.tmp 2)] Tryz.f107
noncomputable def K2b:Code:=cd Tryz.f108
def S0d:=GoC.ok Tryz.prog 108 22 K2b [(.tmp 4)] Tryz.f108
noncomputable def B9c:Code:=cd Tryz.f109
def T0d:=GoC.ok Tryz.prog 109 13 B9c [] Tryz.f109
noncomputable def C9c:Code:=cd Tryz.f110
def U0d:=GoC.ok Tryz.prog 110 91 C9c [(.tmp 6),(.tmp 7)] Tryz.f110
noncomputable def D9c:Code:=cd Tryz.f111
def V0d:=GoC.ok Tryz.prog 111 10 D9c [(.tmp 2)] Tryz.f111
noncomputable def i8a:Code:=rfA Tryz.f112 0
noncomputable def j6b:Code:=sd Tryz.f112 (rfA Tryz.f112 0) 0 1
theorem j8c:Go.D.strip i8a=j6b:=by kernel_rfl
noncomputable def j8a:Code:=rfB Tryz.f112 0
noncomputable def k6b:Code:=sd Tryz.f112 (rfB Tryz.f112 0) 0 1
theorem k8c:Go.D.strip j8a=k6b:=by kernel_rfl
noncomputable def E9c:Code:=cd Tryz.f112
def W0d:=GoC.ok Tryz.prog 112 13 E9c [(.tmp 4)] Tryz.f112
noncomputable def F9c:Code:=cd Tryz.f113
def X0d:=GoC.ok Tryz.prog 113 148 F9c [] Tryz.f113
noncomputable def G9c:Code:=cd Tryz.f114
def Y0d:=GoC.ok Tryz.prog 114 6 G9c [(.tmp 2)] Tryz.f114
noncomputable def H9c:Code:=cd Tryz.f115
def Z0d:=GoC.ok Tryz.prog 115 6 H9c [(.tmp 2)] Tryz.f115
noncomputable def I9c:Code:=cd Tryz.f131
def a1d:=GoC.ok Tryz.prog 131 25 I9c [(.tmp 2)] Tryz.f131
noncomputable def o3a:=yl Tryz.f132 0
noncomputable def P1d:Code:=.region 10 (drawn Tryz.f132 0) true
noncomputable def p3a:=yl Tryz.f132 1
noncomputable def Q1d:Code:=.region 12 (drawn Tryz.f132 1) true
noncomputable def l132_2:=yl Tryz.f132 2
noncomputable def R1d:Code:=.region 16 (drawn Tryz.f132 2) true
theorem L2c {Q:Zv→St→Prop} {s:St} (h:XZ Tryz.prog l132_2.toArray (Xz (drawn Tryz.f132 2).toList []) [] s.fr Q l132_2 0 s []):NC Tryz.prog 132 R1d Q s:=
 NC.draw (by kernel_rfl) (by kernel_rfl) (by kernel_rfl) rfl (by kernel_rfl) (by kernel_rfl) h
noncomputable def l132_3:=yl Tryz.f132 3
noncomputable def S1d:Code:=.region 18 (drawn Tryz.f132 3) true
theorem M2c {Q:Zv→St→Prop} {s:St} (h:XZ Tryz.prog l132_3.toArray (Xz (drawn Tryz.f132 3).toList []) [] s.fr Q l132_3 0 s []):NC Tryz.prog 132 S1d Q s:=
 NC.draw (by kernel_rfl) (by kernel_rfl) (by kernel_rfl) rfl (by kernel_rfl) (by kernel_rfl) h
noncomputable def a2c:Code:=cd Tryz.f132
def b1d:=GoC.ok Tryz.prog 132 132 a2c [(.cell 4 130),(.tmp 5),(.tmp 6)] Tryz.f132
noncomputable def J9c:Code:=cd Tryz.f133
def c1d:=GoC.ok Tryz.prog 133 19 J9c [(.tmp 4)] Tryz.f133
noncomputable def K9c:Code:=cd Tryz.f134
def d1d:=GoC.ok Tryz.prog 134 4 K9c [(.tmp 2)] Tryz.f134
noncomputable def L9c:Code:=cd Tryz.f135
def f1d:=GoC.ok Tryz.prog 135 9 L9c [(.tmp 4)] Tryz.f135
def H3b:List (Nat × Tmp × TypeId):=[]
noncomputable def b0c:=yl Tryz.f136 0
noncomputable def a4b:=yq b0c [.s 0,.s 1,.s 2,.s 3,.s 4,.s 5,.s 6,.s 7,.s 8]
noncomputable def T1d:Code:=.region 5 (drawn Tryz.f136 0) true
theorem y4b:YR Tryz.prog 24 T1d b0c H3b a4b:=YR.of
noncomputable def L2b:Code:=cd Tryz.f136
def g1d:=GoC.ok Tryz.prog 136 24 L2b [(.tmp 4),(.tmp 5),(.tmp 6)] Tryz.f136
noncomputable def M9c:Code:=cd Tryz.f137
def h1d:=GoC.ok Tryz.prog 137 8 M9c [(.tmp 2)] Tryz.f137
noncomputable def l138_0:=yl Tryz.f138 0
noncomputable def U1d:Code:=.region 6 (drawn Tryz.f138 0) true
theorem N2c {Q:Zv→St→Prop} {s:St} (h:XZ Tryz.prog l138_0.toArray (Xz (drawn Tryz.f138 0).toList []) [] s.fr Q l138_0 0 s []):NC Tryz.prog 61 U1d Q s:=
 NC.draw (by kernel_rfl) (by kernel_rfl) (by kernel_rfl) rfl (by kernel_rfl) (by kernel_rfl) h
noncomputable def l138_1:=yl Tryz.f138 1
noncomputable def V1d:Code:=.region 11 (drawn Tryz.f138 1) true
theorem O2c {Q:Zv→St→Prop} {s:St} (h:XZ Tryz.prog l138_1.toArray (Xz (drawn Tryz.f138 1).toList []) [] s.fr Q l138_1 0 s []):NC Tryz.prog 61 V1d Q s:=
 NC.draw (by kernel_rfl) (by kernel_rfl) (by kernel_rfl) rfl (by kernel_rfl) (by kernel_rfl) h
noncomputable def E6b:Code:=cd Tryz.f138
def O9b:=GoC.ok Tryz.prog 138 61 E6b [(.tmp 2)] Tryz.f138
noncomputable def N9c:Code:=cd Tryz.f139
def i1d:=GoC.ok Tryz.prog 139 53 N9c [] Tryz.f139
noncomputable def O9c:Code:=cd Tryz.f152
def j1d:=GoC.ok Tryz.prog 152 36 O9c [(.tmp 2),(.tmp 3)] Tryz.f152
noncomputable def b2c:Code:=cd Tryz.f153
def k1d:=GoC.ok Tryz.prog 153 15 b2c [(.tmp 2),(.tmp 3)] Tryz.f153
noncomputable def P9c:Code:=cd Tryz.f154
def l1d:=GoC.ok Tryz.prog 154 41 P9c [(.tmp 2)] Tryz.f154
noncomputable def Q9c:Code:=cd Tryz.f155
def m1d:=GoC.ok Tryz.prog 155 14 Q9c [] Tryz.f155
def H9b:List (Nat × Tmp × TypeId):=[]
noncomputable def c0c:=yl Tryz.f156 0
noncomputable def O0c:=yq c0c [.s 0,.s 1,.s 2,.s 3,.s 4,.s 5]
noncomputable def W1d:Code:=.region 4 (drawn Tryz.f156 0) true
theorem c4c:YR Tryz.prog 19 W1d c0c H9b O0c:=YR.of
noncomputable def R9c:Code:=cd Tryz.f156
def n1d:=GoC.ok Tryz.prog 156 19 R9c [(.tmp 4)] Tryz.f156
theorem l5c:c3a Tryz.prog 2=true:=by kernel_rfl
def ld_2:=LD1 Tryz.prog 2
def f5d:=LD1 Tryz.prog 3
def g5d:=LD1 Tryz.prog 4
def h5d:=LD1 Tryz.prog 5
theorem G0c:c3a Tryz.prog 21=true:=by kernel_rfl
def Z3d:=LD1 Tryz.prog 21
def a4d:=LD1 Tryz.prog 22
def b4d:=LD1 Tryz.prog 23
def I5c:=ST1 Tryz.prog 23
def c4d:=LD1 Tryz.prog 24
def J5c:=ST1 Tryz.prog 24
def d4d:=LDA Tryz.prog 26 6
def K5c:=STA Tryz.prog 26 6
def f4d:=LDA Tryz.prog 31 2
def c4a:=STA Tryz.prog 31 2
def g4d:=LDA Tryz.prog 33 4
def V6a:=STA Tryz.prog 33 4
def h4d:=LDA Tryz.prog 36 4
def L5c:=STA Tryz.prog 36 4
def i4d:=LD1 Tryz.prog 43
def j4d:=LDA Tryz.prog 45 4
def k4d:=LD1 Tryz.prog 47
def ld_52:=LD1 Tryz.prog 52
def l4d:=LDA Tryz.prog 59 6
def m2b:=STA Tryz.prog 59 6
def m4d:=LD1 Tryz.prog 79
def n4d:=LD1 Tryz.prog 80
def o4d:=LD1 Tryz.prog 92
def p4d:=LDA Tryz.prog 94 4
def M5c:=STA Tryz.prog 94 4
def q4d:=LDA Tryz.prog 99 4
def p8a:=STA Tryz.prog 99 4
def u1d:=LDA Tryz.prog 118 3
def k0b:=STA Tryz.prog 118 3
def ld_130:=LDA Tryz.prog 130 5
def m4b:=STA Tryz.prog 130 5
def ld_143:=LD1 Tryz.prog 143
def f1c:=ST1 Tryz.prog 143
def v1d:=LD1 Tryz.prog 147
def w1d:=LD1 Tryz.prog 148
def x1d:=LD1 Tryz.prog 149
def f2d:=STA Tryz.prog 205 1
def g2d:=STA Tryz.prog 234 2
def g1c:=STA Tryz.prog 236 28
def W6c:=FA Tryz.prog 26 0 0
def X6c:=FA Tryz.prog 26 1 1
def Y6c:=FA Tryz.prog 26 2 2
def Z6c:=FA Tryz.prog 26 3 3
def a7c:=FA Tryz.prog 26 4 4
def b7c:=FA Tryz.prog 26 5 5
def c7c:=FA Tryz.prog 31 0 0
def d7c:=FA Tryz.prog 31 1 1
def f7c:=FA Tryz.prog 33 1 2
def g7c:=FA Tryz.prog 36 1 1
def h7c:=FA Tryz.prog 45 0 0
def i7c:=FA Tryz.prog 45 3 3
def j7c:=FA Tryz.prog 56 2 2
def k7c:=FA Tryz.prog 59 1 1
def l7c:=FA Tryz.prog 59 2 2
def m7c:=FA Tryz.prog 82 0 0
def n7c:=FA Tryz.prog 82 1 1
def o7c:=FA Tryz.prog 82 2 2
def p7c:=FA Tryz.prog 94 0 0
def q7c:=FA Tryz.prog 94 1 1
def r7c:=FA Tryz.prog 94 2 2
def s7c:=FA Tryz.prog 99 0 0
def t7c:=FA Tryz.prog 99 1 2
def u7c:=FA Tryz.prog 99 2 3
def P2c:=FA Tryz.prog 118 0 0
def Q2c:=FA Tryz.prog 118 1 2
def R2c:=FA Tryz.prog 130 0 0
def S2c:=FA Tryz.prog 130 1 1
def T2c:=FA Tryz.prog 130 2 2
def U2c:=FA Tryz.prog 130 3 3
def V2c:=FA Tryz.prog 130 4 4
def W2c:=FA Tryz.prog 151 0 0
def X2c:=FA Tryz.prog 151 1 6
def Y2c:=FA Tryz.prog 151 2 14
def Z2c:=FA Tryz.prog 151 3 15
def a3c:=FA Tryz.prog 151 4 16
def b3c:=FA Tryz.prog 151 5 17
def c3c:=FA Tryz.prog 151 6 18
def d3c:=FA Tryz.prog 205 0 0
theorem j7b:M0a Tryz.prog 22=some 1:=by kernel_rfl
theorem k7b:M0a Tryz.prog 23=some 1:=by kernel_rfl
theorem t4a:M0a Tryz.prog 24=some 2:=by kernel_rfl
theorem q3d:M0a Tryz.prog 43=some 6:=by kernel_rfl
theorem r3d:M0a Tryz.prog 51=some 6:=by kernel_rfl
def Y3d:=IA Tryz.prog 83 1
theorem r4c:M0a Tryz.prog 92=some 4:=by kernel_rfl
theorem h8a:M0a Tryz.prog 96=some 3:=by kernel_rfl
theorem w3b:M0a Tryz.prog 143=some 5:=by kernel_rfl
theorem A0d:M0a Tryz.prog 189=some 1:=by kernel_rfl
def I6c:=CV Tryz.prog 2 21 .i64 .i32
def s2c:=CV Tryz.prog 2 192 .i64 .u64
def t2c:=CV Tryz.prog 2 210 .i64 .i8
def u2c:=CV Tryz.prog 2 211 .i64 .i16
def v2c:=CV Tryz.prog 3 172 .i64 .u64
def y0d:=CV Tryz.prog 5 2 .u8 .i64
def z0d:=CV Tryz.prog 5 3 .u8 .i64
def w2c:=CV Tryz.prog 5 227 .u8 .u16
def H6c:=CV Tryz.prog 21 2 .i32 .i64
def n2c:=CV Tryz.prog 192 2 .u64 .i64
def o2c:=CV Tryz.prog 192 5 .u64 .u8
def p2c:=CV Tryz.prog 210 2 .i8 .i64
def q2c:=CV Tryz.prog 211 2 .i16 .i64
def r2c:=CV Tryz.prog 227 2 .u16 .i64
def Q6b:=CV Tryz.prog 227 211 .u16 .i16
def z1d:=MI Tryz.prog 205
def k2d:=TA Tryz.prog 205
def E2d:=CA Tryz.prog 12
def F2d:=CA Tryz.prog 16
def G2d:=CA Tryz.prog 19
def H2d:=CA Tryz.prog 20
def I2d:=CA Tryz.prog 24
def J2d:=CA Tryz.prog 25
def K2d:=CA Tryz.prog 28
def L2d:=CA Tryz.prog 29
def M2d:=CA Tryz.prog 30
def N2d:=CA Tryz.prog 34
def O2d:=CA Tryz.prog 39
def P2d:=CA Tryz.prog 40
def Q2d:=CA Tryz.prog 42
def R2d:=CA Tryz.prog 43
def S2d:=CA Tryz.prog 44
def T2d:=CA Tryz.prog 47
def U2d:=CA Tryz.prog 48
def V2d:=CA Tryz.prog 52
def W2d:=CA Tryz.prog 63
def X2d:=CA Tryz.prog 69
def Y2d:=CA Tryz.prog 70
def Z2d:=CA Tryz.prog 71
def a3d:=CA Tryz.prog 72
def b3d:=CA Tryz.prog 73
def c3d:=CA Tryz.prog 74
def d3d:=CA Tryz.prog 75
def f3d:=CA Tryz.prog 77
def g3d:=CA Tryz.prog 78
def h3d:=CA Tryz.prog 79
def i3d:=CA Tryz.prog 95
def j3d:=CA Tryz.prog 96
def p3d:=DE Tryz.prog 97
def k3d:=CA Tryz.prog 98
def l3d:=CA Tryz.prog 99
def S9c:=CA Tryz.prog 100
def T9c:=CA Tryz.prog 101
def U9c:=CA Tryz.prog 102
def V9c:=CA Tryz.prog 103
def W9c:=CA Tryz.prog 105
def X9c:=CA Tryz.prog 106
def Y9c:=CA Tryz.prog 107
def Z9c:=CA Tryz.prog 108
def a0d:=CA Tryz.prog 109
def b0d:=CA Tryz.prog 110
def c0d:=CA Tryz.prog 111
def d0d:=CA Tryz.prog 112
def f0d:=CA Tryz.prog 113
def g0d:=CA Tryz.prog 114
def h0d:=CA Tryz.prog 115
def i0d:=CA Tryz.prog 131
def j0d:=CA Tryz.prog 132
def k0d:=CA Tryz.prog 133
def l0d:=CA Tryz.prog 134
def m0d:=CA Tryz.prog 135
def n0d:=CA Tryz.prog 136
def o0d:=CA Tryz.prog 137
def p0d:=CA Tryz.prog 139
def q0d:=CA Tryz.prog 152
def r0d:=CA Tryz.prog 153
def s0d:=CA Tryz.prog 154
def t0d:=CA Tryz.prog 156
theorem D0d:i1a Tryz.prog 24=0:=by kernel_rfl
theorem E0d:i1a Tryz.prog 26=0:=by kernel_rfl
theorem F0d:i1a Tryz.prog 29=0:=by kernel_rfl
theorem G0d:i1a Tryz.prog 31=0:=by kernel_rfl
theorem H0d:i1a Tryz.prog 36=0:=by kernel_rfl
theorem I0d:i1a Tryz.prog 45=0:=by kernel_rfl
theorem J0d:i1a Tryz.prog 82=0:=by kernel_rfl
theorem S6c:i1a Tryz.prog 118=0:=by kernel_rfl
theorem T6c:i1a Tryz.prog 130=0:=by kernel_rfl
theorem U6c:i1a Tryz.prog 147=0:=by kernel_rfl
theorem V6c:i1a Tryz.prog 151=0:=by kernel_rfl
def t2d:=AL Tryz.prog 26 0 [Value.int IntKind.i64 0,Value.int IntKind.i64 0,Value.slice none 0 0,Value.slice none 0 0,Value.slice none 0 0,Value.slice none 0 0]
def u2d:=AL Tryz.prog 31 0 [Value.int IntKind.i32 0,Value.int IntKind.i64 0]
def v2d:=AL Tryz.prog 33 0 [Value.int IntKind.i32 0,Value.int IntKind.i64 0,Value.int IntKind.i64 0,Value.int IntKind.i64 0]
def w2d:=AL Tryz.prog 36 0 [Value.int IntKind.i64 0,Value.slice none 0 0,Value.int IntKind.i64 0,Value.int IntKind.i64 0]
def x2d:=AL Tryz.prog 52 0 [Value.int IntKind.i64 0]
def y2d:=AL Tryz.prog 59 0 [Value.int IntKind.i64 0,Value.int IntKind.i64 0,Value.int IntKind.i64 0,Value.slice none 0 0,Value.int IntKind.i64 0,Value.int IntKind.i64 0]
def z2d:=AL Tryz.prog 94 0 [Value.int IntKind.i64 0,Value.slice none 0 0,Value.slice none 0 0,Value.int IntKind.i64 0]
def A2d:=AL Tryz.prog 99 0 [Value.int IntKind.i32 0,Value.int IntKind.i64 0,Value.int IntKind.i64 0,Value.bool false]
def a9c:=AL Tryz.prog 118 0 [Value.int IntKind.i32 0,Value.int IntKind.i64 0,Value.int IntKind.i64 0]
def b9c:=AL Tryz.prog 130 0 [Value.int IntKind.i64 0,Value.int IntKind.i64 0,Value.int IntKind.i64 0,Value.int IntKind.i64 0,Value.int IntKind.i64 0]
def c9c:=AL Tryz.prog 143 0 [Value.slice none 0 0]
def d9c:=AL Tryz.prog 205 0 [Value.int IntKind.i64 0]
def f9c:=AL Tryz.prog 234 1 [Value.int IntKind.i64 0,Value.int IntKind.i64 0]
def g9c:=AL Tryz.prog 236 1 [Value.int IntKind.i64 0,Value.int IntKind.i64 0,Value.int IntKind.i64 0,Value.int IntKind.i64 0,Value.int IntKind.i64 0,Value.int IntKind.i64 0,Value.int IntKind.i64 0,Value.int IntKind.i64 0,Value.int IntKind.i64 0,Value.int IntKind.i64 0,Value.int IntKind.i64 0,Value.int IntKind.i64 0,Value.int IntKind.i64 0,Value.int IntKind.i64 0,Value.int IntKind.i64 0,Value.int IntKind.i64 0,Value.int IntKind.i64 0,Value.int IntKind.i64 0,Value.int IntKind.i64 0,Value.int IntKind.i64 0,Value.int IntKind.i64 0,Value.int IntKind.i64 0,Value.int IntKind.i64 0,Value.int IntKind.i64 0,Value.int IntKind.i64 0,Value.int IntKind.i64 0,Value.int IntKind.i64 0,Value.int IntKind.i64 0]
def M3b:=ISL Tryz.prog 22
def H7a:=ISL Tryz.prog 23
def m3a:=ISL Tryz.prog 24
def p1d:=ISL Tryz.prog 29
def q1d:=ISL Tryz.prog 43
def r1d:=ISL Tryz.prog 51
def n0c:=LEN Tryz.prog 51
def o0c:=LEN Tryz.prog 57
def y1d:=LEN Tryz.prog 83
def T9b:=ISL Tryz.prog 92
def N3b:=ISL Tryz.prog 96
def J0b:=ISL Tryz.prog 143
def D7c:=ISL Tryz.prog 189
theorem z2b:K2a Tryz.prog #[23,23]=some (1,8):=by kernel_rfl
theorem A2b:K2a Tryz.prog #[24,24]=some (2,16):=by kernel_rfl
theorem h9c:K2a Tryz.prog #[29,29]=some (4,32):=by kernel_rfl
theorem i9c:K2a Tryz.prog #[51,51]=some (6,64):=by kernel_rfl
theorem B2b:K2a Tryz.prog #[92,92]=some (4,32):=by kernel_rfl
theorem x8b:K2a Tryz.prog #[96,96]=some (3,24):=by kernel_rfl
theorem V5c:K2a Tryz.prog #[143,143]=some (5,40):=by kernel_rfl
theorem t9c:h4a Tryz.prog 22=some (1,[Value.int IntKind.u8 0]):=by kernel_rfl
def l9c:=BS0 Tryz.prog 23 1 [Value.int IntKind.i64 0]
def n9c:=BS1 Tryz.prog 23 1 [Value.int IntKind.i64 0]
def m9c:=BS0 Tryz.prog 24 2 [Value.int IntKind.i32 0,Value.int IntKind.i64 0]
def o9c:=BS1 Tryz.prog 24 2 [Value.int IntKind.i32 0,Value.int IntKind.i64 0]
theorem u9c:h4a Tryz.prog 29=some (4,[Value.int IntKind.i32 0,Value.int IntKind.i64 0,Value.int IntKind.i64 0,Value.int IntKind.i64 0]):=by kernel_rfl
theorem v9c:h4a Tryz.prog 43=some (6,[Value.int IntKind.i64 0,Value.int IntKind.i64 0,Value.slice none 0 0,Value.slice none 0 0,Value.slice none 0 0,Value.slice none 0 0]):=by kernel_rfl
def E8b:=BS1 Tryz.prog 51 6 [Value.int IntKind.i64 0,Value.int IntKind.i64 0,Value.int IntKind.i64 0,Value.slice none 0 0,Value.int IntKind.i64 0,Value.int IntKind.i64 0]
def r9c:=BS2 Tryz.prog 83 1 [Value.pointer none]
def p9c:=BS1 Tryz.prog 92 4 [Value.int IntKind.i32 0,Value.int IntKind.i64 0,Value.int IntKind.i64 0,Value.bool false]
def q9c:=BS1 Tryz.prog 96 3 [Value.int IntKind.i32 0,Value.int IntKind.i64 0,Value.int IntKind.i64 0]
def G5b:=BS1 Tryz.prog 143 5 [Value.int IntKind.i64 0,Value.int IntKind.i64 0,Value.int IntKind.i64 0,Value.int IntKind.i64 0,Value.int IntKind.i64 0]
def x6c:=BS2 Tryz.prog 189 1 [Value.int IntKind.i64 0]
theorem G1d:c2a Tryz.prog 26=some ([(0,1),(1,1),(2,1),(3,1),(4,1),(5,1)],[Value.int IntKind.i64 0,Value.int IntKind.i64 0,Value.slice none 0 0,Value.slice none 0 0,Value.slice none 0 0,Value.slice none 0 0]):=by kernel_rfl
theorem H0c:c2a Tryz.prog 31=some ([(0,1),(1,1)],[Value.int IntKind.i32 0,Value.int IntKind.i64 0]):=by kernel_rfl
theorem I0c:c2a Tryz.prog 33=some ([(0,2),(2,1),(3,1)],[Value.int IntKind.i32 0,Value.int IntKind.i64 0,Value.int IntKind.i64 0,Value.int IntKind.i64 0]):=by kernel_rfl
theorem H1d:c2a Tryz.prog 36=some ([(0,1),(1,1),(2,1),(3,1)],[Value.int IntKind.i64 0,Value.slice none 0 0,Value.int IntKind.i64 0,Value.int IntKind.i64 0]):=by kernel_rfl
theorem I1d:c2a Tryz.prog 45=some ([(0,1),(1,1),(2,1),(3,1)],[Value.int IntKind.i64 0,Value.int IntKind.i64 0,Value.int IntKind.i64 0,Value.slice none 0 0]):=by kernel_rfl
theorem J1d:c2a Tryz.prog 56=some ([(0,1),(1,1),(2,4)],[Value.int IntKind.i64 0,Value.int IntKind.i64 0,Value.int IntKind.i64 0,Value.slice none 0 0,Value.int IntKind.i64 0,Value.int IntKind.i64 0]):=by kernel_rfl
theorem K1d:c2a Tryz.prog 59=some ([(0,1),(1,1),(2,4)],[Value.int IntKind.i64 0,Value.int IntKind.i64 0,Value.int IntKind.i64 0,Value.slice none 0 0,Value.int IntKind.i64 0,Value.int IntKind.i64 0]):=by kernel_rfl
theorem J0c:c2a Tryz.prog 82=some ([(0,1),(1,1),(2,1)],[Value.int IntKind.i64 0,Value.map none,Value.map none]):=by kernel_rfl
theorem W3b:c2a Tryz.prog 94=some ([(0,1),(1,1),(2,1),(3,1)],[Value.int IntKind.i64 0,Value.slice none 0 0,Value.slice none 0 0,Value.int IntKind.i64 0]):=by kernel_rfl
theorem K0c:c2a Tryz.prog 99=some ([(0,2),(2,1),(3,1)],[Value.int IntKind.i32 0,Value.int IntKind.i64 0,Value.int IntKind.i64 0,Value.bool false]):=by kernel_rfl
theorem Z7c:c2a Tryz.prog 118=some ([(0,2),(2,1)],[Value.int IntKind.i32 0,Value.int IntKind.i64 0,Value.int IntKind.i64 0]):=by kernel_rfl
theorem f6b:c2a Tryz.prog 130=some ([(0,1),(1,1),(2,1),(3,1),(4,1)],[Value.int IntKind.i64 0,Value.int IntKind.i64 0,Value.int IntKind.i64 0,Value.int IntKind.i64 0,Value.int IntKind.i64 0]):=by kernel_rfl
theorem a8c:c2a Tryz.prog 151=some ([(0,6),(6,8),(14,1),(15,1),(16,1),(17,1),(18,1)],[Value.int IntKind.i64 0,Value.int IntKind.i64 0,Value.slice none 0 0,Value.slice none 0 0,Value.slice none 0 0,Value.slice none 0 0,Value.int IntKind.i64 0,Value.int IntKind.i64 0,Value.int IntKind.i64 0,Value.int IntKind.i64 0,Value.int IntKind.i64 0,Value.int IntKind.i64 0,Value.int IntKind.i64 0,Value.int IntKind.i64 0,Value.map none,Value.map none,Value.slice none 0 0,Value.int IntKind.i64 0,Value.map none]):=by kernel_rfl
theorem b8c:c2a Tryz.prog 205=some ([(0,1)],[Value.int IntKind.i64 0]):=by kernel_rfl
theorem mixed:Tryz.prog.follows .mixedOrders=true:=by kernel_rfl
attribute [go_sem] ld_2 f5d g5d h5d Z3d a4d b4d I5c c4d J5c d4d K5c f4d c4a g4d V6a h4d
attribute [go_sem] L5c i4d j4d k4d ld_52 l4d m2b m4d n4d o4d p4d M5c
attribute [go_sem] q4d p8a u1d k0b ld_130 m4b ld_143 f1c v1d w1d x1d f2d g2d g1c W6c
attribute [go_sem] X6c Y6c Z6c a7c b7c c7c d7c f7c g7c h7c i7c j7c k7c l7c
attribute [go_sem] m7c n7c o7c p7c q7c r7c s7c t7c u7c P2c Q2c R2c S2c T2c U2c V2c W2c X2c
attribute [go_sem] Y2c Z2c a3c b3c c3c d3c I6c s2c t2c u2c v2c y0d z0d w2c H6c n2c o2c p2c q2c r2c
attribute [go_sem] Q6b z1d k2d E2d F2d
attribute [go_sem] G2d H2d I2d J2d K2d L2d M2d
attribute [go_sem] N2d O2d P2d Q2d
attribute [go_sem] R2d S2d T2d U2d V2d
attribute [go_sem] W2d
attribute [go_sem] X2d Y2d Z2d a3d b3d c3d d3d f3d g3d h3d
attribute [go_sem] i3d j3d p3d k3d l3d S9c T9c U9c V9c W9c X9c
attribute [go_sem] Y9c Z9c a0d b0d c0d d0d f0d g0d h0d
attribute [go_sem] i0d
attribute [go_sem] j0d k0d l0d m0d n0d o0d p0d
attribute [go_sem] q0d r0d s0d t0d
attribute [go_sem] D0d E0d F0d G0d H0d I0d
attribute [go_sem] J0d S6c T6c U6c V6c t2d u2d v2d w2d x2d
attribute [go_sem] y2d z2d A2d a9c b9c c9c d9c f9c g9c n0c o0c
attribute [go_sem] y1d l9c n9c m9c o9c
attribute [go_sem] E8b r9c p9c q9c G5b
attribute [go_sem] x6c
def X4d:=STI Tryz.prog 2
def Y4d:=STI Tryz.prog 3
def i2d:=STI Tryz.prog 52
def i8c:=STL Tryz.prog 143
attribute [go_sem] X4d Y4d i2d
attribute [go_sem] i8c
theorem O0b {h:DHeap} {b:Bool}:DC Tryz.prog 107 [.bool b] h (.ret (.int .i64 (if b then 1 else 0))) h:=by
 refine Ct.pure (R0d (by simp) ?_) (T0a _ _)
 cases b <;> simp -implicitDefEqProofs (disch:=first|omega|simp only[go_sem]) only[go_sem,true_and,A9c] <;> exact ⟨_,rfl,rfl,.refl _⟩
def n6a (a n:Int):Int:=if n=8 then IntKind.i8.wrap a else if n=16 then IntKind.i16.wrap a else if n=32 then IntKind.i32.wrap a else a
theorem o2d {a:Int}:IntKind.i64.wrap (IntKind.i8.wrap a)=IntKind.i8.wrap a:=by simp[IntKind.wrap,IntKind.bits,IntKind.signed];omega
theorem r8c {a:Int}:IntKind.i64.wrap (IntKind.i16.wrap a)=IntKind.i16.wrap a:=by simp[IntKind.wrap,IntKind.bits,IntKind.signed];omega
theorem s8c {a:Int}:IntKind.i64.wrap (IntKind.i32.wrap a)=IntKind.i32.wrap a:=by simp[IntKind.wrap,IntKind.bits,IntKind.signed];omega
theorem z3c {h:DHeap} {a n:Int}:DC Tryz.prog 108 [.int .i64 a,.int .i64 n] h (.ret (.int .i64 (n6a a n))) h:=by
 refine Ct.pure (S0d (by simp) ?_) (T0a _ _)
 by_cases h8:n=8
 ·simp -implicitDefEqProofs (disch:=first|omega|simp only[go_sem]) only[go_sem,true_and,K2b,h8]
  exact ⟨_,rfl,congrArg (fun z=>DEnd.ret (Value.int IntKind.i64 z)) o2d,.refl _⟩
 by_cases h16:n=16
 ·simp -implicitDefEqProofs (disch:=first|omega|simp only[go_sem]) only[go_sem,true_and,K2b,h16]
  exact ⟨_,rfl,congrArg (fun z=>DEnd.ret (Value.int IntKind.i64 z)) r8c,.refl _⟩
 by_cases h32:n=32
 ·simp -implicitDefEqProofs (disch:=first|omega|simp only[go_sem]) only[go_sem,true_and,K2b,h32]
  exact ⟨_,rfl,congrArg (fun z=>DEnd.ret (Value.int IntKind.i64 z)) s8c,.refl _⟩
 simp -implicitDefEqProofs (disch:=first|omega|simp only[go_sem]) only[go_sem,true_and,K2b,h8,h16,h32]
 exact ⟨_,rfl,by simp[n6a,h8,h16,h32],.refl _⟩
def cnt (b:Int):Nat:=(BitVec.ofInt 64 b &&& BitVec.ofInt 64 63).toNat
theorem Q8b (b:Int):cnt b<64:=by
 have:(BitVec.ofInt 64 b &&& BitVec.ofInt 64 63).toNat≤(BitVec.ofInt 64 63).toNat:=by rw[BitVec.toNat_and];exact Nat.and_le_right
 have e:(BitVec.ofInt 64 63).toNat=63:=by decide
 unfold cnt;omega
theorem r7a:IntKind.i64.bits=64:=rfl
theorem t6c:IntKind.u64.bits=64:=rfl
theorem I7b {a:Int}:BitVec.ofInt 64 (IntKind.u64.wrap a)=BitVec.ofInt 64 a:=by
 apply BitVec.eq_of_toInt_eq
 rw[BitVec.toInt_ofInt,BitVec.toInt_ofInt]
 simp[IntKind.wrap,IntKind.bits,IntKind.signed]
 exact Int.emod_bmod a 18446744073709551616
theorem o3d {b:Int}:IntKind.u64.wrap (cnt b:Nat)=cnt b:=by have:=Q8b b;simp[IntKind.wrap,IntKind.bits,IntKind.signed];omega
theorem w0d {b:Int}:(BitVec.ofInt 64 b &&& BitVec.ofInt 64 63).toNat=cnt b:=rfl
theorem K0b {b:Int}:min (cnt b) 64=cnt b:=by have:=Q8b b;omega
theorem j6c {P:Program} {t:TypeId} {ox oy:Operand} {b:Int} {h:DHeap}:ZX P .and t ox oy (.int .u64 (IntKind.u64.wrap b)) (.int .u64 63) h=.ok (.value (.int .u64 (cnt b:Nat))) h:=by
 refine bin_and.trans ?_
 show DR.ok (.value (.int .u64 (IntKind.u64.wrap (((BitVec.ofInt 64 (IntKind.u64.wrap b) &&& BitVec.ofInt 64 63).toNat:Nat):Int)))) h=_
 rw[I7b,w0d,o3d]
def X1a (op a b:Int):Int × Int:=
 let w:=IntKind.i64.wrap
 if op=8 then (w (a+b),0) else if op=9 then (w (a - b),0) else if op=10 then (w (a*b),0)
 else if op=11 then (if b=0 then (0,3) else (w (a.tdiv b),0))
 else if op=12 then (if b=0 then (0,3) else (a.tmod b,0))
 else if op=13 then (w (BitVec.ofInt 64 a &&& BitVec.ofInt 64 b).toNat,0)
 else if op=14 then (w (BitVec.ofInt 64 a ||| BitVec.ofInt 64 b).toNat,0)
 else if op=15 then (w (BitVec.ofInt 64 a ^^^ BitVec.ofInt 64 b).toNat,0)
 else if op=16 then (w (a*2 ^ cnt b),0)
 else if op=17 then (a.fdiv (2 ^ cnt b),0)
 else if op=18 then (w ((IntKind.u64.wrap a).fdiv (2 ^ cnt b)),0)
 else if op=20 then (if a<b then 1 else 0,0)
 else if op=21 then (if a=b then 1 else 0,0)
 else (0,1)
def q4a (op a b:Int):Value:=.tuple #[.int .i64 (X1a op a b).1,.int .i64 (X1a op a b).2]
theorem r3b {h:DHeap} {a b:Int}:DC Tryz.prog 136 [.int .i64 a,.int .i64 b] h (.ret (.tuple #[.int .i64 (if b=0 then 0 else IntKind.i64.wrap (a.tdiv b)),.int .i64 (if b=0 then 0 else a.tmod b),.bool (!decide (b=0))])) h:=by
 refine Ct.pure (g1d (by simp) ?_) (h2a _ rfl)
 by_cases hb:b=0
 ·simp -implicitDefEqProofs (disch:=first|omega|simp only[go_sem]) only[go_sem,true_and,L2b,hb]
  exact ⟨_,rfl,rfl,.refl _⟩
 by_cases ha:a=-9223372036854775808
 ·by_cases h1:b=-1
  ·simp -implicitDefEqProofs (disch:=first|omega|simp only[go_sem]) only[go_sem,true_and,L2b,hb,ha,h1]
   exact ⟨_,rfl,by rfl,.refl _⟩
  ·simp -implicitDefEqProofs (disch:=first|omega|simp only[go_sem]) only[go_sem,true_and,L2b,hb,ha,h1]
   refine y4b rfl ?_
   simp -implicitDefEqProofs (disch:=first|omega|simp only[go_sem]) only[go_sem,true_and,H3b,a4b]
   simp -implicitDefEqProofs (disch:=first|omega|simp only[go_sem]) only[go_sem,true_and,B5b hb,C5b hb]
   exact ⟨_,rfl,by simp[hb],.refl _⟩
 ·simp -implicitDefEqProofs (disch:=first|omega|simp only[go_sem]) only[go_sem,true_and,L2b,hb,ha]
  refine y4b rfl ?_
  simp -implicitDefEqProofs (disch:=first|omega|simp only[go_sem]) only[go_sem,true_and,H3b,a4b]
  simp -implicitDefEqProofs (disch:=first|omega|simp only[go_sem]) only[go_sem,true_and,B5b hb,C5b hb]
  exact ⟨_,rfl,by simp[hb],.refl _⟩
theorem U1c {h:DHeap} {o a b:Int}:DC Tryz.prog 110 [.int .i64 o,.int .i64 a,.int .i64 b] h (.ret (q4a o a b)) h:=by
 refine Ct.pure (U0d (by simp) ?_) (h2a _ rfl)
 have n0:¬ ((cnt b:Nat):Int)<0:=by omega
 simp -implicitDefEqProofs (disch:=first|omega|simp only[go_sem]) only[go_sem,true_and,C9c,↓j6c]
 by_cases h8:o=8
 ·simp -implicitDefEqProofs (disch:=first|omega|simp only[go_sem]) only[go_sem,true_and,h8];exact ⟨_,rfl,rfl,.refl _⟩
 by_cases h9:o=9
 ·simp -implicitDefEqProofs (disch:=first|omega|simp only[go_sem]) only[go_sem,true_and,h9];exact ⟨_,rfl,rfl,.refl _⟩
 by_cases h10:o=10
 ·simp -implicitDefEqProofs (disch:=first|omega|simp only[go_sem]) only[go_sem,true_and,h10];exact ⟨_,rfl,rfl,.refl _⟩
 by_cases h11:o=11
 ·simp -implicitDefEqProofs (disch:=first|omega|simp only[go_sem]) only[go_sem,true_and,h11]
  refine YX r3b ?_
  by_cases hb:b=0
  ·simp -implicitDefEqProofs (disch:=first|omega|simp only[go_sem]) only[go_sem,true_and,hb];exact ⟨_,rfl,by simp[q4a,X1a],.refl _⟩
  ·simp -implicitDefEqProofs (disch:=first|omega|simp only[go_sem]) only[go_sem,true_and,hb];exact ⟨_,rfl,by simp[q4a,X1a,hb],.refl _⟩
 by_cases h12:o=12
 ·simp -implicitDefEqProofs (disch:=first|omega|simp only[go_sem]) only[go_sem,true_and,h12]
  refine YX r3b ?_
  by_cases hb:b=0
  ·simp -implicitDefEqProofs (disch:=first|omega|simp only[go_sem]) only[go_sem,true_and,hb];exact ⟨_,rfl,by simp[q4a,X1a],.refl _⟩
  ·simp -implicitDefEqProofs (disch:=first|omega|simp only[go_sem]) only[go_sem,true_and,hb];exact ⟨_,rfl,by simp[q4a,X1a,hb],.refl _⟩
 by_cases h13:o=13
 ·simp -implicitDefEqProofs (disch:=first|omega|simp only[go_sem]) only[go_sem,true_and,h13,r7a];exact ⟨_,rfl,rfl,.refl _⟩
 by_cases h14:o=14
 ·simp -implicitDefEqProofs (disch:=first|omega|simp only[go_sem]) only[go_sem,true_and,h14,r7a];exact ⟨_,rfl,rfl,.refl _⟩
 by_cases h15:o=15
 ·simp -implicitDefEqProofs (disch:=first|omega|simp only[go_sem]) only[go_sem,true_and,h15,r7a];exact ⟨_,rfl,rfl,.refl _⟩
 by_cases h16:o=16
 ·simp -implicitDefEqProofs (disch:=first|omega|simp only[go_sem]) only[go_sem,true_and,h16,r7a,D5b n0,Int.toNat_natCast,K0b];exact ⟨_,rfl,rfl,.refl _⟩
 by_cases h17:o=17
 ·simp -implicitDefEqProofs (disch:=first|omega|simp only[go_sem]) only[go_sem,true_and,h17,r7a,E5b n0,Int.toNat_natCast,K0b];exact ⟨_,rfl,rfl,.refl _⟩
 by_cases h18:o=18
 ·simp -implicitDefEqProofs (disch:=first|omega|simp only[go_sem]) only[go_sem,true_and,h18,t6c,E5b n0,Int.toNat_natCast,K0b];exact ⟨_,rfl,rfl,.refl _⟩
 by_cases h20:o=20
 ·simp -implicitDefEqProofs (disch:=first|omega|simp only[go_sem]) only[go_sem,true_and,h20]
  refine YX O0b ?_
  simp -implicitDefEqProofs (disch:=first|omega|simp only[go_sem]) only[go_sem,true_and]
  exact ⟨_,rfl,by simp[q4a,X1a],.refl _⟩
 by_cases h21:o=21
 ·simp -implicitDefEqProofs (disch:=first|omega|simp only[go_sem]) only[go_sem,true_and,h21]
  refine YX O0b ?_
  simp -implicitDefEqProofs (disch:=first|omega|simp only[go_sem]) only[go_sem,true_and]
  exact ⟨_,rfl,by simp[q4a,X1a],.refl _⟩
 simp -implicitDefEqProofs (disch:=first|omega|simp only[go_sem]) only[go_sem,true_and,h8,h9,h10,h11,h12,h13,h14,h15,h16,h17,h18,h20,h21]
 exact ⟨_,rfl,by simp[q4a,X1a, *],.refl _⟩
theorem b6b {h:DHeap} {n:Int}:DC Tryz.prog 114 [.int .i32 n] h (.ret (.bool false)) h:=by
 refine Ct.pure (Y0d (by simp) ?_) (Y0a _)
 simp -implicitDefEqProofs (disch:=first|omega|simp only[go_sem]) only[go_sem,G9c]
 exact ⟨_,rfl,rfl,.refl h⟩
theorem c6b {h:DHeap} {n:Int}:DC Tryz.prog 115 [.int .i64 n] h (.ret (.bool false)) h:=by
 refine Ct.pure (Z0d (by simp) ?_) (Y0a _)
 simp -implicitDefEqProofs (disch:=first|omega|simp only[go_sem]) only[go_sem,H9c]
 exact ⟨_,rfl,rfl,.refl h⟩
def n2a (a b:Int):Int:=if a<b then -1 else if b<a then 1 else 0
theorem A6c {h:DHeap} {a b:Int}:DC Tryz.prog 78 [.int .i32 a,.int .i32 b] h (.ret (.int .i64 (n2a a b))) h:=by
 refine Ct.pure (S3d (by simp) ?_) (T0a _ _)
 unfold n2a
 simp -implicitDefEqProofs (disch:=first|omega|simp only[go_sem]) only[go_sem,c78]
 refine YX b6b ?_
 simp -implicitDefEqProofs (disch:=first|omega|simp only[go_sem]) only[go_sem]
 refine YX b6b ?_
 by_cases h0:a<b
 ·simp -implicitDefEqProofs (disch:=first|omega|simp only[go_sem]) only[go_sem,h0]
  exact ⟨_,rfl,rfl,.refl h⟩
 by_cases h1:b<a
 ·simp -implicitDefEqProofs (disch:=first|omega|simp only[go_sem]) only[go_sem,h0,gt_iff_lt,h1]
  exact ⟨_,rfl,rfl,.refl h⟩
 ·simp -implicitDefEqProofs (disch:=first|omega|simp only[go_sem]) only[go_sem,h0,gt_iff_lt,h1]
  exact ⟨_,rfl,rfl,.refl h⟩
theorem B6c {h:DHeap} {a b:Int}:DC Tryz.prog 79 [.int .i64 a,.int .i64 b] h (.ret (.int .i64 (n2a a b))) h:=by
 refine Ct.pure (T3d (by simp) ?_) (T0a _ _)
 unfold n2a
 simp -implicitDefEqProofs (disch:=first|omega|simp only[go_sem]) only[go_sem,c79]
 refine YX c6b ?_
 simp -implicitDefEqProofs (disch:=first|omega|simp only[go_sem]) only[go_sem]
 refine YX c6b ?_
 by_cases h0:a<b
 ·simp -implicitDefEqProofs (disch:=first|omega|simp only[go_sem]) only[go_sem,h0]
  exact ⟨_,rfl,rfl,.refl h⟩
 by_cases h1:b<a
 ·simp -implicitDefEqProofs (disch:=first|omega|simp only[go_sem]) only[go_sem,h0,gt_iff_lt,h1]
  exact ⟨_,rfl,rfl,.refl h⟩
 ·simp -implicitDefEqProofs (disch:=first|omega|simp only[go_sem]) only[go_sem,h0,gt_iff_lt,h1]
  exact ⟨_,rfl,rfl,.refl h⟩
def orI:List Int→Int
 | []=>0
 | a :: l=>if a=0 then orI l else a
theorem j5d {h:DHeap} {b:Value} {l:List Int} (hb:Arg fI64.rep h b l) (hlen:l.length≤4294967296):DC Tryz.prog 77 [b] h (.ret (.int .i64 (orI l))) h:=by
 refine Ct.pure (R3d (by simp) ?_) (T0a _ _)
 have el:=hb.dLen (P:=Tryz.prog) (ts:=#[189]) (t:=189) rfl D7c
 simp -implicitDefEqProofs (disch:=first|omega|simp only[go_sem]) only[go_sem,c77,el]
 refine A0a (σ:=Nat) (by kernel_rfl) (fun i s=>s.df=[]∧s.h=h∧s.fr 3=some (.int .i64 0)∧s.fr 6=some b∧s.fr 7=some (.int .i64 l.length)∧s.fr 8=some (.int .i64 (i:Nat))∧i≤l.length∧orI (l.drop i)=orI l) (fun i=>l.length - i) 0 ?_ ?_
 ·simp -implicitDefEqProofs (disch:=first|omega|simp only[go_sem]) only[go_sem]
  exact ⟨by trivial,by trivial,by trivial,by trivial,by trivial,by trivial,Nat.zero_le _,by rw[List.drop_zero]⟩
 ·rintro i ⟨fr,df,hh,rd⟩ K hK hX ⟨rfl,rfl,h3,h6,h7,h8,hi,ho⟩
  simp only at h3 h6 h7 h8
  simp -implicitDefEqProofs (disch:=first|omega|simp only[go_sem]) only[go_sem,h3,h6,h7,h8]
  refine n0a (fun hc1=>?_) (fun hc1=>?_)
  ·have hj:i<l.length:=by omega
   obtain ⟨id2,o2,e2,_,hat2⟩:=hb.idx (P:=Tryz.prog) (t:=189) A0d (k:=.i64) (i:=i) (x:=l[i]) (by simp)
   have hw:=d0a hj (by omega)
   rw[List.drop_eq_getElem_cons hj]at ho
   by_cases hx:l[i]=0
   ·simp -implicitDefEqProofs (disch:=first|omega|simp only[go_sem]) only[go_sem,h3,h6,h7,h8,e2,hat2.int,hx,hw]
    refine hK (i+1) _ ?_ (by omega)
    exact ⟨by trivial,by trivial,by simp -implicitDefEqProofs (disch:=first|omega|simp only[go_sem]) only[go_sem,h3],by simp -implicitDefEqProofs (disch:=first|omega|simp only[go_sem]) only[go_sem,h6],by simp -implicitDefEqProofs (disch:=first|omega|simp only[go_sem]) only[go_sem,h7],vz,by omega,by rw[← ho,orI,if_pos hx]⟩
   ·simp -implicitDefEqProofs (disch:=first|omega|simp only[go_sem]) only[go_sem,h3,h6,h7,h8,e2,hat2.int,hx,hw]
    refine hX _ _ (by simp) ?_
    simp -implicitDefEqProofs (disch:=first|omega|simp only[go_sem]) only[go_sem]
    refine ⟨_,rfl,?_,.refl hh⟩
    rw[← ho,orI,if_neg hx]
  ·obtain rfl:i=l.length:=by omega
   refine hX _ _ (by simp) ?_
   simp -implicitDefEqProofs (disch:=first|omega|simp only[go_sem]) only[go_sem,h3]
   refine ⟨_,rfl,?_,.refl hh⟩
   rw[← ho,List.drop_length];rfl
abbrev ZZ (k:Key):Value:=.agg #[.int .i32 k.t,.int .i64 k.r]
abbrev U0a (c:Cell):Value:=.agg #[.int .i32 c.k.t,.int .i64 c.k.r,.int .i64 c.v,.int .i64 c.s]
def YQ (a b:Key):Bool:=decide (a.t<b.t)||(decide (a.t=b.t)&&decide (a.r<b.r))
def C4a (a b:Key):Int:=if n2a a.t b.t=0 then n2a a.r b.r else n2a a.t b.t
theorem W0b {a b:Int}:n2a a b=0↔a=b:=by
 unfold n2a;split
 ·constructor <;> intro h <;> omega
 ·split
  ·constructor <;> intro h <;> omega
  ·constructor <;> intro h <;> omega
theorem M2b {a b:Int}:n2a a b<0↔a<b:=by
 unfold n2a;split
 ·constructor <;> intro h <;> omega
 ·split
  ·constructor <;> intro h <;> omega
  ·constructor <;> intro h <;> omega
theorem w7b (a b:Key):decide (C4a a b<0)=YQ a b:=by
 unfold C4a YQ
 by_cases h:a.t=b.t
 ·rw[if_pos (W0b.2 h)]
  rw[show decide (a.t<b.t)=false by simp;omega,show decide (a.t=b.t)=true by simp[h]]
  simp[M2b]
 ·rw[if_neg (fun hh=>h (W0b.1 hh)),show decide (a.t=b.t)=false by simp[h]]
  simp[M2b]
theorem V9b (a b:Key):orI [n2a a.t b.t,n2a a.r b.r]=C4a a b:=by
 unfold C4a orI orI orI
 split
 ·split
  ·rename_i h;exact h.symm
  ·rfl
 ·rfl
theorem K5b (a b:Int):inK .i64 (n2a a b):=by
 unfold n2a;split
 ·exact w0a.2 ⟨by decide,by decide⟩
 ·split <;> exact w0a.2 ⟨by decide,by decide⟩
theorem X0b {h:DHeap} {a b:Key}:DC Tryz.prog 55 [ZZ a,ZZ b] h (.ret (.int .i64 (C4a a b))) h:=by
 refine Ct.pure (H3d (by simp) ?_) (T0a _ _)
 simp -implicitDefEqProofs (disch:=first|omega|simp only[go_sem]) only[go_sem,c55]
 refine Q6c ?_
 simp -implicitDefEqProofs (disch:=first|omega|simp only[go_sem]) only[go_sem,l55_0,t7a,s7a,Nat.add_zero,Nat.zero_add]
 refine i7b A6c ?_
 simp -implicitDefEqProofs (disch:=first|omega|simp only[go_sem]) only[go_sem,l55_0,t7a,s7a,Nat.add_zero,Nat.zero_add]
 refine i7b B6c ?_
 simp -implicitDefEqProofs (disch:=first|omega|simp only[go_sem]) only[go_sem]
 have ha:∀ K:DHeap,Arg fI64.rep (K.push (.row [.int .i64 (n2a a.t b.t),.int .i64 (n2a a.r b.r)] 1 false)) (.slice (some ⟨K.next,0,none⟩) 2 2) [n2a a.t b.t,n2a a.r b.r]:=fun K=>
  built fI64 K rfl rfl rfl (fun x hx=>by
   rcases List.mem_cons.1 hx with rfl | hx
   ·exact K5b _ _
   ·rw[List.mem_singleton.1 hx];exact K5b _ _)
 refine i7b (j5d (ha _) (Nat.le_of_ble_eq_true rfl)) ?_
 rw[V9b]
 simp -implicitDefEqProofs (disch:=first|omega|simp only[go_sem]) only[go_sem,Nat.reduceAdd]
 refine ⟨⟨s5b (i:=6) (j:=4) rfl rfl rfl ?_,s5b (i:=8) (j:=4) rfl rfl rfl ?_,trivial⟩,_,rfl,rfl,((Ext.push1 _ _).push _).push _⟩
 ·rw[if_pos (by decide)]
  refine k4c (p:=.pointer (some ⟨h.next,1,none⟩)) ?_ ?_ (ld_2.trans t7a)
  ·simp -implicitDefEqProofs (disch:=first|omega|simp only[go_sem]) only[go_sem]
  ·simp -implicitDefEqProofs (disch:=first|omega|simp only[go_sem]) only[go_sem]
 ·rw[if_pos (by decide)]
  refine k4c (p:=.pointer (some ⟨_,1,none⟩)) ?_ ?_ (ld_2.trans s7a)
  ·simp -implicitDefEqProofs (disch:=first|omega|simp only[go_sem]) only[go_sem]
  ·simp -implicitDefEqProofs (disch:=first|omega|simp only[go_sem]) only[go_sem]
def B2a {α:Type} (lt:α→α→Bool):List α→Bool
 | a :: b :: l=>lt a b&&B2a lt (b :: l)
 | _=>true
theorem d4b {α:Type} {lt:α→α→Bool}:∀ {l:List α},l.length≤1→B2a lt l=true
 | [],_=>rfl
 | [_],_=>rfl
 | _ :: _ :: _,h=>by simp at h
theorem O7b {α:Type} {lt:α→α→Bool} {l:List α} {j:Nat} (h:j+1<l.length):B2a lt (l.drop j)=(lt l[j] l[j+1]&&B2a lt (l.drop (j+1))):=by
 rw[List.drop_eq_getElem_cons (show j<l.length by omega),List.drop_eq_getElem_cons h,B2a]
theorem w7c:o5a Tryz.prog 31=some [(21,0),(2,1)]:=by kernel_rfl
theorem n8c:Tryz.prog.underlying 21=some (.int .i32):=by kernel_rfl
theorem o8c:Tryz.prog.underlying 2=some (.int .i64):=by kernel_rfl
theorem T5b:Tryz.prog.eqGuardType Tryz.prog.depth 31=false:=by kernel_rfl
theorem Key.ext_iff' {a b:Key}:a=b↔a.t=b.t∧a.r=b.r:=by cases a;cases b;simp
theorem Cell.ext_iff' {a b:Cell}:a=b↔a.k=b.k∧a.v=b.v∧a.s=b.s:=by cases a;cases b;simp
theorem P3b (d:Nat) (a b:Key):ZU Tryz.prog (Op.equalIn (d+1+1) 31 (ZZ a) (ZZ b))=some (.inr (decide (a=b))):=by
 refine b4b w7c ⟨_,_,_,_,b3a G0c rfl,b3a G0c rfl,v1b n8c,⟨_,_,_,_,b3a l5c rfl,b3a l5c rfl,v1b o8c,rfl,rfl⟩,?_⟩
 rw[decide_eq_decide.2 Key.ext_iff',Bool.decide_and,Bool.and_true]
 rfl
theorem z5b {a b:Key} {h:DHeap} {ox oy:Operand}:ZX Tryz.prog .neq 31 ox oy (ZZ a) (ZZ b) h=.ok (.value (.bool (!decide (a=b)))) h:=(y5b rfl rfl T5b (P3b 9998 a b)).2
theorem T8a {a b:Key} {h:DHeap} {ox oy:Operand}:ZX Tryz.prog .eql 31 ox oy (ZZ a) (ZZ b) h=.ok (.value (.bool (decide (a=b)))) h:=(y5b rfl rfl T5b (P3b 9998 a b)).1
def t3a {α:Type} (eq:α→α→Bool):List α→List α→Bool
 | [],[]=>true
 | a :: l,b :: m=>eq a b&&t3a eq l m
 | _,_=>false
theorem B1b {α:Type} {eq:α→α→Bool}:∀ {l m:List α},l.length≠m.length→t3a eq l m=false
 | [],[],h=>by simp at h
 | [],_ :: _,_=>rfl
 | _ :: _,[],_=>rfl
 | a :: l,b :: m,h=>by
   simp only[t3a]
   rw[B1b (l:=l) (m:=m) (by simpa using h),Bool.and_false]
theorem S7b {α:Type} {eq:α→α→Bool} {l m:List α} {i:Nat} (hl:i<l.length) (hm:i<m.length):t3a eq (l.drop i) (m.drop i)=(eq l[i] m[i]&&t3a eq (l.drop (i+1)) (m.drop (i+1))):=by
 rw[List.drop_eq_getElem_cons hl,List.drop_eq_getElem_cons hm,t3a]
theorem b1c {α:Type} {eq:α→α→Bool} {l m:List α} (h:l.length=m.length):t3a eq (l.drop l.length) (m.drop l.length)=true:=by
 rw[List.drop_length,h,List.drop_length];rfl
abbrev u5a (x:Res) (v:Value):Value:=.agg #[.int .i64 x.e,v,.int .i64 x.s,.int .i64 x.p]
theorem Sl.upto {S:Nat→Prop} {h h1:DHeap} {b:Value} {l:List Int} (hb:Sl fU8.rep S h b l) (e:∀ i,S i→h1.get i=h.get i):Sl fU8.rep S h1 b l:=hb.keep e
theorem Z8a {h:DHeap} {a b:Value} {l m:List Int} (ha:Arg fI64.rep h a l) (hb:Arg fI64.rep h b m) (hlen:l.length≤4294967296) :
 DC Tryz.prog 40 [a,b] h (.ret (.bool (t3a (fun a b:Int=>decide (a=b)) l m))) h:=by
 refine Ct.pure (A3d (by simp) ?_) (Y0a _)
 have ea:=ha.lens (P:=Tryz.prog) (ts:=#[23]) (t:=23) rfl H7a
 have eb:=hb.lens (P:=Tryz.prog) (ts:=#[23]) (t:=23) rfl H7a
 by_cases hl:l.length=m.length
 case neg=>
  have hli:¬ ((l.length:Nat):Int)=(m.length:Nat):=by omega
  simp -implicitDefEqProofs (disch:=first|omega|simp only[go_sem]) only[go_sem,true_and,c40,ea,eb,hli]
  exact ⟨_,rfl,by rw[B1b hl],.refl h⟩
 have hli:((l.length:Nat):Int)=(m.length:Nat):=by omega
 simp -implicitDefEqProofs (disch:=first|omega|simp only[go_sem]) only[go_sem,true_and,c40,ea,eb,hli]
 refine A0a (σ:=Nat) (by kernel_rfl) (fun i s=>s.df=[]∧s.h=h∧s.fr 0=some a∧s.fr 1=some b∧s.fr 12=some (.int .i64 (l.length:Nat))∧s.fr 13=some (.int .i64 (i:Nat))∧i≤l.length∧t3a (fun a b:Int=>decide (a=b)) (l.drop i) (m.drop i)=t3a (fun a b:Int=>decide (a=b)) l m) (fun i=>l.length - i) 0 ?_ ?_
 ·simp -implicitDefEqProofs (disch:=first|omega|simp only[go_sem]) only[go_sem,true_and,hli]
  exact ⟨rfl,Nat.zero_le _,by rw[List.drop_zero,List.drop_zero]⟩
 ·rintro i ⟨fr,df,hh,rd⟩ K hK hX ⟨rfl,rfl,f0,f1,f12,f13,hi,ho⟩
  simp only at f0 f1 f12 f13
  simp -implicitDefEqProofs (disch:=first|omega|simp only[go_sem]) only[go_sem,true_and,f0,f1,f12,f13]
  refine n0a (fun hc1=>?_) (fun hc1=>?_)
  ·have hj:i<l.length:=by omega
   have hk:i<m.length:=by omega
   obtain ⟨id1,o1,e1,_,hat1⟩:=ha.idx (P:=Tryz.prog) (t:=23) k7b (k:=.i64) (i:=i) (x:=l[i]) (by simp)
   obtain ⟨id2,o2,e2,_,hat2⟩:=hb.idx (P:=Tryz.prog) (t:=23) k7b (k:=.i64) (i:=i) (x:=m[i]) (by simp)
   have hw:=d0a hj (by omega)
   have l1:=hat1.int
   have l2:=hat2.int
   rw[S7b hj hk]at ho
   simp -implicitDefEqProofs (disch:=first|omega|simp only[go_sem]) only[go_sem,true_and,f13]
   refine P6c ?_
   by_cases hlt:l[i]=m[i]
   ·rw[decide_eq_true hlt,Bool.true_and]at ho
    simp -implicitDefEqProofs (disch:=first|omega|simp only[go_sem]) only[go_sem,true_and,l40_0,f0,f1,f13,e1,e2,l1,l2, hlt,hw]
    refine hK (i+1) _ ?_ (by omega)
    exact ⟨by trivial,by trivial,(vy f0),(vy f1),(vy f12),vz,by omega,ho⟩
   ·rw[decide_eq_false hlt,Bool.false_and]at ho
    simp -implicitDefEqProofs (disch:=first|omega|simp only[go_sem]) only[go_sem,true_and,l40_0,f0,f1,f13,e1,e2,l1,l2, hlt]
    refine hX _ _ (by simp) ?_
    simp -implicitDefEqProofs (disch:=first|omega|simp only[go_sem]) only[go_sem,true_and]
    exact ⟨_,rfl,by rw[← ho],.refl hh⟩
  ·obtain rfl:i=l.length:=by omega
   refine hX _ _ (by simp) ?_
   simp -implicitDefEqProofs (disch:=first|omega|simp only[go_sem]) only[go_sem,true_and]
   exact ⟨_,rfl,by rw[← ho,b1c hl],.refl hh⟩
def YJ (n:Int):Bool:=!decide (n=0)&&(!decide (n=6)&&(!decide (n=22)&&!decide (n=25)))
def XK (n:Int):Bool:=decide (7≤n)&&decide (n≤18)||(decide (n=20)||(decide (n=21)||(decide (n=26)||decide (n=27))))
def F1a (n:Int):Bool:=decide (n=22)||decide (n=23)
def Xq (n:Int):Int:=if n=0 then 1 else if n=6∨n=24∨n=25 then 2 else if n=2∨n=3∨n=4∨n=5∨n=19∨n=22 then 3 else if n=1∨n=23∨n=26∨n=27 then 4 else if 7≤n∧n≤21 then 3 else 0
def U1a (n:Int):Int:=Xq n - 1 - (if YJ n then 1 else 0) - (if XK n then 1 else 0)
theorem j4b (n:Int):0≤Xq n∧Xq n≤4:=by
 unfold Xq
 repeat' split
 all_goals omega
def O2a (x:Instr):Int:=
 if YJ x.op&&(decide (x.a<0)||decide (8≤x.a))||XK x.op&&(decide (x.b<0)||decide (8≤x.b)) then 132
 else if decide (x.op=19)&&(!decide (x.imm=8)&&(!decide (x.imm=16)&&!decide (x.imm=32))) then 132 else 0
abbrev V1a:Instr:=⟨0,0,0,0,0⟩
def r5a (op w x y:Int):Int:=if w=2 then (if op=1∧32768≤x+256*y then x+256*y - 65536 else x+256*y) else if 1≤w then x else 0
def YV (l:List Int) (i:Nat):Instr:=
 let op:=l.getD i 0
 let k2:=i+1+if YJ op then 1 else 0
 let k3:=k2+if XK op then 1 else 0
 ⟨i,op,if YJ op then l.getD (i+1) 0 else 0,if XK op then l.getD k2 0 else 0,r5a op (U1a op) (l.getD k3 0) (l.getD (k3+1) 0)⟩
def Xv (l:List Int) (i:Nat):Instr × Int × Int:=
 if l.length≤i then (V1a,0,130)
 else if Xq (l.getD i 0)=0∨(l.length:Int) - i<Xq (l.getD i 0) then (V1a,0,130)
 else if O2a (YV l i)=0 then (YV l i,i+Xq (l.getD i 0),0) else (V1a,0,O2a (YV l i))
theorem a5a {h:DHeap} {v:Value} {l:List Int} (hb:Arg fU8.rep h v l) {i:Nat} (hi:i<l.length) :
 ∃ id o,ZQ Tryz.prog 22 v (.int .i64 (i:Nat))=some (.pointer (some ⟨id,o,none⟩))∧(∀ K,Ext h K→Zq K id o=some (.int .u8 (l.getD i 0)))∧0≤l.getD i 0∧l.getD i 0≤255:=by
 have hx:l[i]? = some l[i]:=List.getElem?_eq_getElem hi
 have hgd:l.getD i 0=l[i]:=by rw[List.getD_eq_getElem?_getD,hx];rfl
 obtain ⟨id,o,e1,hid,hat⟩:=hb.idx (P:=Tryz.prog) (t:=22) j7b (k:=.i64) hx
 have hok:=R9b.1 (hb.ok _ (List.getElem_mem hi))
 refine ⟨id,o,e1,fun K e=>?_,by rw[hgd];exact hok.1,by rw[hgd];exact hok.2⟩
 have:=(hat.flat).1 0 (by decide)
 rw[Nat.add_zero]at this
 unfold Zq at this ⊢
 rw[e.get _ hid,hgd]
 exact this
theorem j0b {n:Int} (h:Xq n≠0):0≤U1a n∧U1a n≤2∧0≤n∧n<28:=by
 have h1:0≤n∧n<28:=by
  unfold Xq at h
  repeat' split at h
  all_goals omega
 obtain ⟨k,rfl⟩:∃ k:Nat,n=k:=⟨n.toNat,by omega⟩
 have:∀ k:Nat,k<28→0≤U1a k∧U1a k≤2:=by decide
 have:=this k (by omega)
 omega
theorem b0b {fr:Fr} {K:DHeap} {a b c id:Nat} {x:Instr} {n e:Int} (f2:fr a=some (.pointer (some ⟨id,0,none⟩))) (f3:fr b=some (.int .i64 n)) (f4:fr c=some (.int .i64 e)) (hk:K.get id=some (.row (fInstr.enc x) 0 false)) :
 s0a Tryz.prog [.cell a 130,.tmp b,.tmp c] fr K=some (.tuple #[R0a x,.int .i64 n,.int .i64 e]):=by
 rw[Q4b,W2a,f2,G0a,C5a,C5a,f3,f4]
 have e1:XX Tryz.prog 130 (.pointer (some ⟨id,0,none⟩)) K=some (R0a x):=ld_130.trans (by rw[Zu hk (Nat.le_of_ble_eq_true rfl)];rfl)
 rw[e1]
 rfl
theorem y5a:Xy Tryz.prog 130 []=some (R0a V1a):=l0a f6b rfl
theorem B8b {p o:Int}:Xy Tryz.prog 130 [(0,.int .i64 p),(1,.int .i64 o)]=some (R0a ⟨p,o,0,0,0⟩):=l0a f6b rfl
theorem q8c {S:Nat→Prop} {x:Instr} {n e:Int}:VIn S (.tuple #[R0a x,.int .i64 n,.int .i64 e]):=by
 refine .tuple fun v hv=>?_
 simp only[List.mem_toArray,List.mem_cons,List.not_mem_nil,or_false]at hv
 rcases hv with rfl | rfl | rfl
 ·exact .agg fun v hv=>by
   simp only[List.mem_toArray,List.mem_cons,List.not_mem_nil,or_false]at hv
   rcases hv with rfl | rfl | rfl | rfl | rfl <;> exact .int _ _
 ·exact .int _ _
 ·exact .int _ _
theorem P8a {h:DHeap} {z:Nat} {a b c d e a' b' c' d' e':Value} (hv:[a,b,c,d,e].all Value.oneCell'=true):storeAt (h.push (.row [a',b',c',d',e'] z false)) h.next 0 [a,b,c,d,e]=some (h.push (.row [a,b,c,d,e] z false)):=c0a rfl hv
def formL:List Int:=[0,9,5,5,5,5,4,3,3,3,3,3,3,3,3,3,3,3,3,5,3,3,16,17,1,4,7,7]
def O3a (a b:Int):Int:=IntKind.i64.wrap (BitVec.ofInt IntKind.i64.bits a &&& BitVec.ofInt IntKind.i64.bits b).toNat
theorem g4a {P:Program} {t:TypeId} {ox oy:Operand} {a b:Int} {h:DHeap}:ZX P .and t ox oy (.int .i64 a) (.int .i64 b) h=.ok (.value (.int .i64 (O3a a b))) h:=bin_and
theorem W5c:g6a Tryz.prog 236=some (28,1):=by kernel_rfl
theorem X5c:g6a Tryz.prog 234=some (2,1):=by kernel_rfl
theorem m1c {S:Nat→Prop} {n:Int} {b:Bool}:VIn S (.tuple #[.int .i64 n,.bool b]):=by
 refine .tuple fun v hv=>?_
 simp only[List.mem_toArray,List.mem_cons,List.not_mem_nil,or_false]at hv
 rcases hv with rfl | rfl
 ·exact .int _ _
 ·exact .bool _
abbrev formV:List Value:=formL.map (.int .i64 ·)
theorem w5b:Xy Tryz.prog 236 [(0,.int .i64 0),(1,.int .i64 9),(2,.int .i64 5),(3,.int .i64 5),(4,.int .i64 5),(5,.int .i64 5),(6,.int .i64 4),(7,.int .i64 3),(8,.int .i64 3),(9,.int .i64 3),(10,.int .i64 3),(11,.int .i64 3),(12,.int .i64 3),(13,.int .i64 3),(14,.int .i64 3),(15,.int .i64 3),(16,.int .i64 3),(17,.int .i64 3),(18,.int .i64 3),(19,.int .i64 5),(20,.int .i64 3),(21,.int .i64 3),(22,.int .i64 16),(23,.int .i64 17),(24,.int .i64 1),(25,.int .i64 4),(26,.int .i64 7),(27,.int .i64 7)]=some (.agg formV.toArray):=by kernel_rfl
theorem E9b {h:DHeap} {n:Nat}:DC Tryz.prog 153 [.int .i64 (n:Nat)] h (.ret (.tuple #[.int .i64 (formL.getD n 0),.bool (decide (n<28))])) h:=by
 refine Ct.pure (k1d (by simp) ?_) m1c
 have hst:∀ cs:List Value,cs.length=28→storeAt (h.push (.row cs 1 false)) h.next 0 formV=some (h.push (.row formV 1 false)):=fun cs hl=>c0a (by rw[hl];rfl) rfl
 have hs:∀ K,Yx Tryz.prog 236 (.pointer (some ⟨h.next,0,none⟩)) (.agg formV.toArray) K=storeAt K h.next 0 formV:=fun K=>g1c rfl
 have hc:∀ o,Zq (h.push (.row formV 1 false)) h.next o=formV[o]?:=fun o=>Zy (Zz _ _)
 have hneg:¬ ((n:Nat):Int)<0:=by omega
 by_cases hn:(28:Int)≤(n:Nat)
 ·have hn':=eq_true hn
  simp -implicitDefEqProofs (disch:=first|omega|simp only[go_sem]) only[go_sem,true_and,b2c,w5b,hs,hst,hneg,hn',ZJ,Yz]
  refine ⟨_,rfl,?_,Ext.push1 _ _⟩
  rw[decide_eq_false (by omega),List.getD_eq_getElem?_getD,List.getElem?_eq_none (by simp[formL];omega)]
  rfl
 ·have hia:ZQ Tryz.prog 236 (.pointer (some ⟨h.next,0,none⟩)) (.int .i64 (n:Nat))=some (.pointer (some ⟨h.next,n,none⟩)):=by
   rw[i4a W5c (by omega) (by omega)]
   simp
  have hl:formV[n]? = some (.int .i64 (formL.getD n 0)):=by
   have h28:n<formL.length:=by simp[formL];omega
   rw[List.getElem?_map,List.getElem?_eq_getElem h28,List.getD_eq_getElem?_getD,List.getElem?_eq_getElem h28]
   rfl
  simp -implicitDefEqProofs (disch:=first|omega|simp only[go_sem]) only[go_sem,true_and,b2c,w5b,hs,hst,hneg,hn,ZJ,Yz,hia,hc,hl]
  refine ⟨_,rfl,?_,Ext.push1 _ _⟩
  rw[decide_eq_true (by omega)]
def masks:List (Int × Int):=[(1,1),(2,1),(4,1),(8,2),(16,2)]
def t1a (f:Int) (l:List (Int × Int)):Int:=l.foldl (fun n x=>if O3a f x.1=0 then n else n+x.2) 1
theorem E1d:∀ i:Nat,i<5→z4a Tryz.prog 235 (.agg #[.int .i64 1,.int .i64 1,.int .i64 2,.int .i64 1,.int .i64 4,.int .i64 1,.int .i64 8,.int .i64 2,.int .i64 16,.int .i64 2]) (.int .i64 (i:Nat))=some (.agg #[.int .i64 (masks.getD i (0,0)).1,.int .i64 (masks.getD i (0,0)).2])
 | 0,_=>by kernel_rfl
 | 1,_=>by kernel_rfl
 | 2,_=>by kernel_rfl
 | 3,_=>by kernel_rfl
 | 4,_=>by kernel_rfl
theorem f6c {a b:Int}:Xy Tryz.prog 234 [(0,.int .i64 a),(1,.int .i64 b)]=some (.agg #[.int .i64 a,.int .i64 b]):=by kernel_rfl
theorem T1c:Xy Tryz.prog 235 [(0,.agg #[.int .i64 1,.int .i64 1]),(1,.agg #[.int .i64 2,.int .i64 1]),(2,.agg #[.int .i64 4,.int .i64 1]),(3,.agg #[.int .i64 8,.int .i64 2]),(4,.agg #[.int .i64 16,.int .i64 2])]=some (.agg #[.int .i64 1,.int .i64 1,.int .i64 2,.int .i64 1,.int .i64 4,.int .i64 1,.int .i64 8,.int .i64 2,.int .i64 16,.int .i64 2]):=by kernel_rfl
theorem U5b {id k:Nat} (hk:k<2):ZQ Tryz.prog 234 (.pointer (some ⟨id,0,none⟩)) (.int .i64 (k:Nat))=some (.pointer (some ⟨id,k,none⟩)):=by
 rw[i4a X5c (by omega) (by omega)]
 simp
theorem h5b {f:Int} {i:Nat} (hi:i<5):t1a f (masks.take (i+1))=if O3a f (masks.getD i (0,0)).1=0 then t1a f (masks.take i) else t1a f (masks.take i)+(masks.getD i (0,0)).2:=by
 unfold t1a
 have hl:i<masks.length:=hi
 rw[List.take_succ_eq_append_getElem hl,List.foldl_append,List.getD_eq_getElem?_getD,List.getElem?_eq_getElem hl]
 rfl
theorem D1b (f:Int) (i:Nat):1≤t1a f (masks.take i)∧t1a f (masks.take i)≤8:=by
 match i with
 | 0=>simp[t1a]
 | 1=>simp[t1a,masks];split <;> omega
 | 2=>simp[t1a,masks];repeat' split
      all_goals omega
 | 3=>simp[t1a,masks];repeat' split
      all_goals omega
 | 4=>simp[t1a,masks];repeat' split
      all_goals omega
 | i+5=>simp[t1a,masks];repeat' split
        all_goals omega
def i0b (n:Nat):Int:=if n<28 then t1a (formL.getD n 0) masks else 0
theorem d2d {h:DHeap} {n:Nat}:DC Tryz.prog 152 [.int .i64 (n:Nat)] h (.ret (.tuple #[.int .i64 (i0b n),.bool (decide (n<28))])) h:=by
 refine Ct.pure (j1d (by simp) ?_) m1c
 simp -implicitDefEqProofs (disch:=first|omega|simp only[go_sem]) only[go_sem,true_and,O9c]
 refine YX E9b ?_
 by_cases hn:n<28
 case neg=>
  have hd:=decide_eq_false hn
  simp -implicitDefEqProofs (disch:=first|omega|simp only[go_sem]) only[go_sem,true_and,hd]
  exact ⟨_,rfl,by simp[i0b,hn],.refl _⟩
 have hd:=decide_eq_true hn
 obtain ⟨f,hf⟩:∃ f,formL.getD n 0=f:=⟨_,rfl⟩
 rw[hf]
 simp -implicitDefEqProofs (disch:=first|omega|simp only[go_sem]) only[go_sem,true_and,hd,f6c,T1c]
 refine A0a (σ:=Nat) (by kernel_rfl) (fun i s=>s.df=[]∧s.fr 4=some (.int .i64 f)∧s.fr 6=some (.int .i64 (t1a f (masks.take i)))∧s.fr 21=some (.agg #[.int .i64 1,.int .i64 1,.int .i64 2,.int .i64 1,.int .i64 4,.int .i64 1,.int .i64 8,.int .i64 2,.int .i64 16,.int .i64 2])∧s.fr 22=some (.int .i64 (i:Nat))∧i≤5∧Ext h s.h) (fun i=>5 - i) 0 ?_ ?_
 ·simp -implicitDefEqProofs (disch:=first|omega|simp only[go_sem]) only[go_sem,true_and]
  exact ⟨rfl,rfl,Nat.zero_le _,.refl _⟩
 ·rintro i ⟨fr,df,K,rd⟩ K' hK' hX ⟨rfl,f4,f6,f21,f22,hi,hE⟩
  simp only at f4 f6 f21 f22 hE
  simp -implicitDefEqProofs (disch:=first|omega|simp only[go_sem]) only[go_sem,true_and,f22]
  refine n0a (fun hc1=>?_) (fun hc1=>?_)
  ·have hi5:i<5:=by omega
   have hx:=E1d i hi5
   have hsu:=h5b (f:=f) hi5
   have hle:=D1b f i
   have hle2:=D1b f (i+1)
   obtain ⟨a,ha⟩:∃ a,(masks.getD i (0,0)).1=a:=⟨_,rfl⟩
   obtain ⟨b,hb⟩:∃ b,(masks.getD i (0,0)).2=b:=⟨_,rfl⟩
   rw[ha,hb]at hx hsu
   obtain ⟨K1,hK1⟩:∃ K1,K1=K.push (.row [.int .i64 a,.int .i64 b] 1 false):=⟨_,rfl⟩
   have g:K1.get K.next=some (.row [.int .i64 a,.int .i64 b] 1 false):=by rw[hK1];exact Zz _ _
   have c0:Zq K1 K.next 0=some (.int .i64 a):=Zy g
   have c1:Zq K1 K.next 1=some (.int .i64 b):=Zy g
   have hst:storeAt (K.push (.row [.int .i64 0,.int .i64 0] 1 false)) K.next 0 [.int .i64 a,.int .i64 b]=some K1:=by rw[hK1];exact c0a rfl rfl
   have i0:ZQ Tryz.prog 234 (.pointer (some ⟨K.next,0,none⟩)) (.int .i64 0)=some (.pointer (some ⟨K.next,0,none⟩)):=U5b (id:=K.next) (k:=0) (by decide)
   have i1:ZQ Tryz.prog 234 (.pointer (some ⟨K.next,0,none⟩)) (.int .i64 1)=some (.pointer (some ⟨K.next,1,none⟩)):=U5b (id:=K.next) (k:=1) (by decide)
   have hE1:Ext h K1:=by rw[hK1];exact hE.push _
   have hw1:=d0a hi5 (by omega)
   simp -implicitDefEqProofs (disch:=first|omega|simp only[go_sem]) only[go_sem,true_and,f21,f22,hx,hst,f4,i0,c0,↓g4a]
   by_cases hz:O3a f a=0
   ·have hz':=eq_true hz
    rw[if_pos hz]at hsu
    simp -implicitDefEqProofs (disch:=first|omega|simp only[go_sem]) only[go_sem,true_and,hz',f22,hw1]
    refine hK' (i+1) _ ?_ (by omega)
    exact ⟨by trivial,(vy f4),by rw[hsu];simp -implicitDefEqProofs (disch:=first|omega|simp only[go_sem]) only[go_sem,true_and,f6],(vy f21),vz,by omega,hE1⟩
   ·rw[if_neg hz]at hsu
    have hwz:IntKind.i64.wrap (t1a f (masks.take i)+b)=t1a f (masks.take (i+1)):=by rw[← hsu];exact o0a (by omega) (by omega)
    simp -implicitDefEqProofs (disch:=first|omega|simp only[go_sem]) only[go_sem,true_and,hz,f22,f6,hw1,i1,c1,hwz]
    refine hK' (i+1) _ ?_ (by omega)
    exact ⟨by trivial,(vy f4),vz,(vy f21),vz,by omega,hE1⟩
  ·obtain rfl:i=5:=by omega
   refine hX _ _ (by simp) ?_
   simp -implicitDefEqProofs (disch:=first|omega|simp only[go_sem]) only[go_sem,true_and,f6]
   refine ⟨_,rfl,?_,hE⟩
   rw[i0b,if_pos hn,hf]
   rfl
def N9a (x:Instr):Bool:=decide (0≤x.a)&&(decide (x.a<8)&&(decide (0≤x.b)&&(decide (x.b<8)&&(!decide (x.op=19)||(decide (x.imm=8)||(decide (x.imm=16)||decide (x.imm=32)))))))
theorem C7c {h:DHeap} {x:Instr}:DC Tryz.prog 154 [R0a x] h (.ret (.bool (N9a x))) h:=by
 obtain ⟨x1,x2,x3,x4,x5⟩:=x
 refine Ct.pure (l1d (by simp) ?_) (Y0a _)
 obtain ⟨H,hH⟩:∃ H,H=h.push (.row [.int .i64 x1,.int .i64 x2,.int .i64 x3,.int .i64 x4,.int .i64 x5] 0 false):=⟨_,rfl⟩
 have hE:Ext h H:=by rw[hH];exact Ext.push1 _ _
 have g:H.get h.next=some (.row [.int .i64 x1,.int .i64 x2,.int .i64 x3,.int .i64 x4,.int .i64 x5] 0 false):=by rw[hH];exact Zz _ _
 have a1:Zq H h.next 1=some (.int .i64 x2):=Zy g
 have a2:Zq H h.next 2=some (.int .i64 x3):=Zy g
 have a3:Zq H h.next 3=some (.int .i64 x4):=Zy g
 have a4:Zq H h.next 4=some (.int .i64 x5):=Zy g
 simp -implicitDefEqProofs (disch:=first|omega|simp only[go_sem]) only[go_sem,true_and,P9c,← hH,a2]
 clear hH
 (repeat' first | (refine q9a (fun hb=>?_) (fun hb=>?_) <;> (try simp only[Bool.not_eq_true',Bool.not_eq_false']at hb) <;> simp -implicitDefEqProofs (disch:=first|omega|simp only[go_sem]) only[go_sem,true_and,ZJ,Yz,hb,a1,a2,a3,a4]) | (refine B3a (fun hb=>?_) (fun hb=>?_) <;> (try simp only[Bool.not_eq_true',Bool.not_eq_false']at hb) <;> simp -implicitDefEqProofs (disch:=first|omega|simp only[go_sem]) only[go_sem,true_and,ZJ,Yz,hb,a1,a2,a3,a4]))
 all_goals exact ⟨_,rfl,by simp_all [N9a] <;> omega,hE⟩
theorem F9a {P:Program} {t:TypeId} {α:Type} {R:Rep α} {h K:DHeap} {u:Value} {l:List α} {lo hi mx:Option Value} (hu:Arg R h u l) (e:Ext h K):Xw P t u lo hi mx K=Xw P t u lo hi mx h:=by
 rcases hu with ⟨rfl,rfl⟩ | ⟨id,o,c,cells,esz,ro,rfl,hid,_⟩
 ·cases hd:P.underlying t with
  | none=>simp only[Xw,hd]
  | some d=>cases d <;> simp only[Xw,hd]
 ·have hf:∀ z,C1a K id z=C1a h id z:=fun z=>by unfold C1a;rw[e.get _ hid]
  cases hd:P.underlying t with
  | none=>simp only[Xw,hd]
  | some d=>cases d <;> simp only[Xw,hd,hf]
theorem g8c {h:DHeap} {u:Value} {l:List Int} {k:Nat} (hu:Arg fU8.rep h u l) (hk:k≤l.length):∃ u',(∀ K,Ext h K→Xw Tryz.prog 22 u (some (.int .i64 (k:Nat))) none none K=some u')∧Arg fU8.rep h u' (l.drop k):=by
 have hj:Yu (none:Option Value) l.length l.length=some l.length:=rfl
 obtain ⟨u',e1,e2⟩:=hu.slice (P:=Tryz.prog) (t:=22) j7b (by decide) hj (L2a (k:=.i64) hk) hk (Nat.le_refl _)
 rw[List.take_length]at e2
 exact ⟨u',fun K e=>(F9a hu e).trans e1,e2⟩
theorem Y7c {h:DHeap} {u:Value} {l:List Int} {i j:Nat} (hu:Arg fU8.rep h u l) (hi:i≤j) (hj:j≤l.length):∃ u',(∀ K,Ext h K→Xw Tryz.prog 22 u (some (.int .i64 (i:Nat))) (some (.int .i64 (j:Nat))) none K=some u')∧Arg fU8.rep h u' ((l.take j).drop i):=by
 obtain ⟨u',e1,e2⟩:=hu.slice (P:=Tryz.prog) (t:=22) j7b (by decide) (L2a (k:=.i64) hj) (L2a (k:=.i64) hi) hi hj
 exact ⟨u',fun K e=>(F9a hu e).trans e1,e2⟩
theorem Z4b {K0 K1:DHeap} {u u':Value} {id o B:Nat} {x:Int} {fr:Fr} {rd:Option Nat} (f9:fr 9=some (.pointer (some ⟨B,0,none⟩))) (f12:fr 12=some u)
 (h1:ZQ Tryz.prog 22 u (.int .i64 0)=some (.pointer (some ⟨id,o,none⟩))) (c0:Zq K0 id o=some (.int .u8 x)) (c1:Zq K1 id o=some (.int .u8 x)) (hx:IntKind.i64.wrap x=x)
 (hs0:Xw Tryz.prog 22 u (some (.int .i64 1)) none none K0=some u') (hs1:Xw Tryz.prog 22 u (some (.int .i64 1)) none none K1=some u') (s0:storeAt K0 B 2 [.int .i64 x]=some K1) (s1:storeAt K1 B 2 [.int .i64 x]=some K1) :
 NC Tryz.prog 132 P1d (N0a (fun s=>s.df=[]∧s.rd=rd∧s.h=K1∧s.fr 12=some u'∧s.fr 0=fr 0∧s.fr 1=fr 1∧s.fr 4=fr 4∧s.fr 7=fr 7∧s.fr 9=fr 9∧s.fr 10=fr 10) (fun _ _=>False)) ⟨fr,[],K0,rd⟩:=by
 refine NC.regs (l:=o3a) (by kernel_rfl) (by kernel_rfl) (by kernel_rfl) rfl (by kernel_rfl) (by kernel_rfl) (fun a b=>b=a∨b=K1) (fun _=>.inl rfl) (fun a b c h g=>?_) (fun i h v=>(i=7→h=K1)∧(i≠7→v=([u,.pointer (some ⟨id,o,none⟩),.int .u8 x,.int .i64 x,u,u',.pointer (some ⟨B,2,none⟩),undef,u']:List Value).getD i undef)) ?_ ?_
 ·rcases g with rfl | rfl
  ·exact h
  ·exact .inr rfl
 case refine_3=>
  rintro ⟨fr1,df1,K,rd1⟩ g hF
  obtain ⟨_,q7,_⟩:=(hF 7 (by decide)).fact
  have f8:=(hF 8 (by decide)).eq (d:=12) (c:=u') rfl fun _ _ e=>e.2 (by decide)
  exact ⟨g.df,g.rd,q7 rfl,f8,g.fr 0 (by kernel_rfl),g.fr 1 (by kernel_rfl),g.fr 4 (by kernel_rfl),g.fr 7 (by kernel_rfl),g.fr 9 (by kernel_rfl),g.fr 10 (by kernel_rfl)⟩
 intro i oo s ho g hpre hown hF
 have F9:s.fr 9=some (.pointer (some ⟨B,0,none⟩)):=(g.fr 9 (by kernel_rfl)).trans f9
 have hi':i<9:=(List.getElem?_eq_some_iff.1 ho).1
 have hh:s.h=K0∨s.h=K1:=g.ext
 have hc:Zq s.h id o=some (.int .u8 x):=by rcases hh with e | e <;> rw[e] <;> assumption
 have hs:Xw Tryz.prog 22 u (some (.int .i64 1)) none none s.h=some u':=by rcases hh with e | e <;> rw[e] <;> assumption
 match i,hi' with
 | 0,_=>
   simp only[o3a,List.getElem?_cons_zero,List.getElem?_cons_succ,Option.some.injEq]at ho
   subst ho
   have F12:s.fr 12=some u:=(hpre 8 12 (by kernel_rfl) (by kernel_rfl)).trans f12
   exact J0a (v:=u) (fun _=>.inl rfl) vz (vy F12) ⟨fun e=>absurd e (by decide),fun _=>rfl⟩
 | 1,_=>
   simp only[o3a,List.getElem?_cons_zero,List.getElem?_cons_succ,Option.some.injEq]at ho
   subst ho
   have f0:s.fr 65=some (u):=(hF 0 (by kernel_rfl)).eq rfl fun _ _ e=>e.2 (by decide)
   exact J0a (v:=.pointer (some ⟨id,o,none⟩)) (fun _=>.inl rfl) vz (by simp -implicitDefEqProofs (disch:=first|omega|simp only[go_sem]) only[go_sem,true_and,f0,h1]) ⟨fun e=>absurd e (by decide),fun _=>rfl⟩
 | 2,_=>
   simp only[o3a,List.getElem?_cons_zero,List.getElem?_cons_succ,Option.some.injEq]at ho
   subst ho
   have f1:s.fr 66=some (.pointer (some ⟨id,o,none⟩)):=(hF 1 (by kernel_rfl)).eq rfl fun _ _ e=>e.2 (by decide)
   exact J0a (v:=.int .u8 x) (fun _=>.inl rfl) vz (by simp -implicitDefEqProofs (disch:=first|omega|simp only[go_sem]) only[go_sem,true_and,f1,hc]) ⟨fun e=>absurd e (by decide),fun _=>rfl⟩
 | 3,_=>
   simp only[o3a,List.getElem?_cons_zero,List.getElem?_cons_succ,Option.some.injEq]at ho
   subst ho
   have f2:s.fr 67=some (.int .u8 x):=(hF 2 (by kernel_rfl)).eq rfl fun _ _ e=>e.2 (by decide)
   exact J0a (v:=.int .i64 x) (fun _=>.inl rfl) vz (by simp -implicitDefEqProofs (disch:=first|omega|simp only[go_sem]) only[go_sem,true_and,f2,hx]) ⟨fun e=>absurd e (by decide),fun _=>rfl⟩
 | 4,_=>
   simp only[o3a,List.getElem?_cons_zero,List.getElem?_cons_succ,Option.some.injEq]at ho
   subst ho
   have F12:s.fr 12=some u:=(hpre 8 12 (by kernel_rfl) (by kernel_rfl)).trans f12
   exact J0a (v:=u) (fun _=>.inl rfl) vz (vy F12) ⟨fun e=>absurd e (by decide),fun _=>rfl⟩
 | 5,_=>
   simp only[o3a,List.getElem?_cons_zero,List.getElem?_cons_succ,Option.some.injEq]at ho
   subst ho
   have f4:s.fr 69=some (u):=(hF 4 (by kernel_rfl)).eq rfl fun _ _ e=>e.2 (by decide)
   exact J0a (v:=u') (fun _=>.inl rfl) vz (by simp -implicitDefEqProofs (disch:=first|omega|simp only[go_sem]) only[go_sem,true_and,f4,hs]) ⟨fun e=>absurd e (by decide),fun _=>rfl⟩
 | 6,_=>
   simp only[o3a,List.getElem?_cons_zero,List.getElem?_cons_succ,Option.some.injEq]at ho
   subst ho
   exact J0a (v:=.pointer (some ⟨B,2,none⟩)) (fun _=>.inl rfl) vz (vy F9) ⟨fun e=>absurd e (by decide),fun _=>rfl⟩
 | 7,_=>
   simp only[o3a,List.getElem?_cons_zero,List.getElem?_cons_succ,Option.some.injEq]at ho
   subst ho
   have f3:s.fr 68=some (.int .i64 x):=(hF 3 (by kernel_rfl)).eq rfl fun _ _ e=>e.2 (by decide)
   have f6:s.fr 71=some (.pointer (some ⟨B,2,none⟩)):=(hF 6 (by kernel_rfl)).eq rfl fun _ _ e=>e.2 (by decide)
   have hst:storeAt s.h B 2 [.int .i64 x]=some K1:=by rcases hh with e | e <;> rw[e] <;> assumption
   exact w1b (h':=K1) vz (by simp -implicitDefEqProofs (disch:=first|omega|simp only[go_sem]) only[go_sem,true_and,f3,f6,hst]) (.inr rfl) ⟨fun _=>rfl,fun e=>absurd rfl e⟩ fun j u hj hv=>⟨fun _=>rfl,hv.2⟩
 | 8,_=>
   simp only[o3a,List.getElem?_cons_zero,List.getElem?_cons_succ,Option.some.injEq]at ho
   subst ho
   have f5:s.fr 70=some (u'):=(hF 5 (by kernel_rfl)).eq rfl fun _ _ e=>e.2 (by decide)
   exact J0a (v:=u') (fun _=>.inl rfl) vz (vy f5) ⟨fun e=>absurd e (by decide),fun _=>rfl⟩
theorem a5b {K0 K1:DHeap} {u u':Value} {id o B:Nat} {x:Int} {fr:Fr} {rd:Option Nat} (f9:fr 9=some (.pointer (some ⟨B,0,none⟩))) (f12:fr 12=some u)
 (h1:ZQ Tryz.prog 22 u (.int .i64 0)=some (.pointer (some ⟨id,o,none⟩))) (c0:Zq K0 id o=some (.int .u8 x)) (c1:Zq K1 id o=some (.int .u8 x)) (hx:IntKind.i64.wrap x=x)
 (hs0:Xw Tryz.prog 22 u (some (.int .i64 1)) none none K0=some u') (hs1:Xw Tryz.prog 22 u (some (.int .i64 1)) none none K1=some u') (s0:storeAt K0 B 3 [.int .i64 x]=some K1) (s1:storeAt K1 B 3 [.int .i64 x]=some K1) :
 NC Tryz.prog 132 Q1d (N0a (fun s=>s.df=[]∧s.rd=rd∧s.h=K1∧s.fr 12=some u'∧s.fr 0=fr 0∧s.fr 1=fr 1∧s.fr 4=fr 4∧s.fr 7=fr 7∧s.fr 9=fr 9∧s.fr 10=fr 10) (fun _ _=>False)) ⟨fr,[],K0,rd⟩:=by
 refine NC.regs (l:=p3a) (by kernel_rfl) (by kernel_rfl) (by kernel_rfl) rfl (by kernel_rfl) (by kernel_rfl) (fun a b=>b=a∨b=K1) (fun _=>.inl rfl) (fun a b c h g=>?_) (fun i h v=>(i=7→h=K1)∧(i≠7→v=([u,.pointer (some ⟨id,o,none⟩),.int .u8 x,.int .i64 x,u,u',.pointer (some ⟨B,3,none⟩),undef,u']:List Value).getD i undef)) ?_ ?_
 ·rcases g with rfl | rfl
  ·exact h
  ·exact .inr rfl
 case refine_3=>
  rintro ⟨fr1,df1,K,rd1⟩ g hF
  obtain ⟨_,q7,_⟩:=(hF 7 (by decide)).fact
  have f8:=(hF 8 (by decide)).eq (d:=12) (c:=u') rfl fun _ _ e=>e.2 (by decide)
  exact ⟨g.df,g.rd,q7 rfl,f8,g.fr 0 (by kernel_rfl),g.fr 1 (by kernel_rfl),g.fr 4 (by kernel_rfl),g.fr 7 (by kernel_rfl),g.fr 9 (by kernel_rfl),g.fr 10 (by kernel_rfl)⟩
 intro i oo s ho g hpre hown hF
 have F9:s.fr 9=some (.pointer (some ⟨B,0,none⟩)):=(g.fr 9 (by kernel_rfl)).trans f9
 have hi':i<9:=(List.getElem?_eq_some_iff.1 ho).1
 have hh:s.h=K0∨s.h=K1:=g.ext
 have hc:Zq s.h id o=some (.int .u8 x):=by rcases hh with e | e <;> rw[e] <;> assumption
 have hs:Xw Tryz.prog 22 u (some (.int .i64 1)) none none s.h=some u':=by rcases hh with e | e <;> rw[e] <;> assumption
 match i,hi' with
 | 0,_=>
   simp only[p3a,List.getElem?_cons_zero,List.getElem?_cons_succ,Option.some.injEq]at ho
   subst ho
   have F12:s.fr 12=some u:=(hpre 8 12 (by kernel_rfl) (by kernel_rfl)).trans f12
   exact J0a (v:=u) (fun _=>.inl rfl) vz (vy F12) ⟨fun e=>absurd e (by decide),fun _=>rfl⟩
 | 1,_=>
   simp only[p3a,List.getElem?_cons_zero,List.getElem?_cons_succ,Option.some.injEq]at ho
   subst ho
   have f0:s.fr 75=some (u):=(hF 0 (by kernel_rfl)).eq rfl fun _ _ e=>e.2 (by decide)
   exact J0a (v:=.pointer (some ⟨id,o,none⟩)) (fun _=>.inl rfl) vz (by simp -implicitDefEqProofs (disch:=first|omega|simp only[go_sem]) only[go_sem,true_and,f0,h1]) ⟨fun e=>absurd e (by decide),fun _=>rfl⟩
 | 2,_=>
   simp only[p3a,List.getElem?_cons_zero,List.getElem?_cons_succ,Option.some.injEq]at ho
   subst ho
   have f1:s.fr 76=some (.pointer (some ⟨id,o,none⟩)):=(hF 1 (by kernel_rfl)).eq rfl fun _ _ e=>e.2 (by decide)
   exact J0a (v:=.int .u8 x) (fun _=>.inl rfl) vz (by simp -implicitDefEqProofs (disch:=first|omega|simp only[go_sem]) only[go_sem,true_and,f1,hc]) ⟨fun e=>absurd e (by decide),fun _=>rfl⟩
 | 3,_=>
   simp only[p3a,List.getElem?_cons_zero,List.getElem?_cons_succ,Option.some.injEq]at ho
   subst ho
   have f2:s.fr 77=some (.int .u8 x):=(hF 2 (by kernel_rfl)).eq rfl fun _ _ e=>e.2 (by decide)
   exact J0a (v:=.int .i64 x) (fun _=>.inl rfl) vz (by simp -implicitDefEqProofs (disch:=first|omega|simp only[go_sem]) only[go_sem,true_and,f2,hx]) ⟨fun e=>absurd e (by decide),fun _=>rfl⟩
 | 4,_=>
   simp only[p3a,List.getElem?_cons_zero,List.getElem?_cons_succ,Option.some.injEq]at ho
   subst ho
   have F12:s.fr 12=some u:=(hpre 8 12 (by kernel_rfl) (by kernel_rfl)).trans f12
   exact J0a (v:=u) (fun _=>.inl rfl) vz (vy F12) ⟨fun e=>absurd e (by decide),fun _=>rfl⟩
 | 5,_=>
   simp only[p3a,List.getElem?_cons_zero,List.getElem?_cons_succ,Option.some.injEq]at ho
   subst ho
   have f4:s.fr 79=some (u):=(hF 4 (by kernel_rfl)).eq rfl fun _ _ e=>e.2 (by decide)
   exact J0a (v:=u') (fun _=>.inl rfl) vz (by simp -implicitDefEqProofs (disch:=first|omega|simp only[go_sem]) only[go_sem,true_and,f4,hs]) ⟨fun e=>absurd e (by decide),fun _=>rfl⟩
 | 6,_=>
   simp only[p3a,List.getElem?_cons_zero,List.getElem?_cons_succ,Option.some.injEq]at ho
   subst ho
   exact J0a (v:=.pointer (some ⟨B,3,none⟩)) (fun _=>.inl rfl) vz (vy F9) ⟨fun e=>absurd e (by decide),fun _=>rfl⟩
 | 7,_=>
   simp only[p3a,List.getElem?_cons_zero,List.getElem?_cons_succ,Option.some.injEq]at ho
   subst ho
   have f3:s.fr 78=some (.int .i64 x):=(hF 3 (by kernel_rfl)).eq rfl fun _ _ e=>e.2 (by decide)
   have f6:s.fr 81=some (.pointer (some ⟨B,3,none⟩)):=(hF 6 (by kernel_rfl)).eq rfl fun _ _ e=>e.2 (by decide)
   have hst:storeAt s.h B 3 [.int .i64 x]=some K1:=by rcases hh with e | e <;> rw[e] <;> assumption
   exact w1b (h':=K1) vz (by simp -implicitDefEqProofs (disch:=first|omega|simp only[go_sem]) only[go_sem,true_and,f3,f6,hst]) (.inr rfl) ⟨fun _=>rfl,fun e=>absurd rfl e⟩ fun j u hj hv=>⟨fun _=>rfl,hv.2⟩
 | 8,_=>
   simp only[p3a,List.getElem?_cons_zero,List.getElem?_cons_succ,Option.some.injEq]at ho
   subst ho
   have f5:s.fr 80=some (u'):=(hF 5 (by kernel_rfl)).eq rfl fun _ _ e=>e.2 (by decide)
   exact J0a (v:=u') (fun _=>.inl rfl) vz (vy f5) ⟨fun e=>absurd e (by decide),fun _=>rfl⟩
theorem l2d {n:Nat} (hn:n<28):i0b n=Xq n∧(O3a (formL.getD n 0) 1=0↔YJ n=false)∧(O3a (formL.getD n 0) 2=0↔XK n=false)∧(O3a (formL.getD n 0) 4=0↔U1a n≠1)∧(O3a (formL.getD n 0) 8=0↔n≠1)∧(O3a (formL.getD n 0) 16=0↔¬ (U1a n=2∧n≠1))∧(n=1→U1a n=2)∧Xq n≠0:=by
 have:∀ n:Nat,n<28→i0b n=Xq n∧(O3a (formL.getD n 0) 1=0↔YJ n=false)∧(O3a (formL.getD n 0) 2=0↔XK n=false)∧(O3a (formL.getD n 0) 4=0↔U1a n≠1)∧(O3a (formL.getD n 0) 8=0↔n≠1)∧(O3a (formL.getD n 0) 16=0↔¬ (U1a n=2∧n≠1))∧(n=1→U1a n=2)∧Xq n≠0:=by decide
 exact this n hn
theorem c1c {n:Int} (hn:28≤n):Xq n=0:=by
 unfold Xq
 repeat' split
 all_goals omega
theorem S9b {l:List Int} {i:Nat} (hb:∀ j,0≤l.getD j 0):N9a (YV l i)=decide (O2a (YV l i)=0)∧(O2a (YV l i)≠0→O2a (YV l i)=132):=by
 have h1:=hb (i+1)
 have h2:=hb (i+1+if YJ (l.getD i 0) then 1 else 0)
 have e1:(YV l i).a=if YJ (l.getD i 0) then l.getD (i+1) 0 else 0:=rfl
 have e2:(YV l i).b=if XK (l.getD i 0) then l.getD (i+1+if YJ (l.getD i 0) then 1 else 0) 0 else 0:=rfl
 have e3:(YV l i).op=l.getD i 0:=rfl
 generalize YV l i=x at e1 e2 e3 ⊢
 generalize l.getD (i+1+if YJ (l.getD i 0) then 1 else 0) 0=yb at h2 e2
 generalize l.getD (i+1) 0=ya at h1 e1
 rw[← e3]at e1 e2
 unfold N9a O2a
 cases hf:YJ x.op <;> cases ht:XK x.op <;> rw[hf]at e1 <;> rw[ht]at e2 <;> simp only[Bool.false_eq_true,if_true,if_false]at e1 e2
 all_goals
  rw[e1,e2]
  constructor
  ·by_cases p19:x.op=19 <;> by_cases p8:x.imm=8 <;> by_cases p16:x.imm=16 <;> by_cases p32:x.imm=32 <;> by_cases q1:ya<8 <;> by_cases q2:yb<8 <;> simp[p19,p8,p16,p32,q1,q2,h1,h2,Int.not_lt.1,Int.not_le.2,Int.not_lt.2] <;> omega
  ·intro h
   split at h
   ·rw[if_pos (by assumption)]
   ·rw[if_neg (by assumption)]
    split at h
    ·rw[if_pos (by assumption)]
    ·exact absurd rfl h
theorem i5d {x y:Int} (hx:0≤x) (hx2:x≤255) (hy:0≤y) (hy2:y≤255) :
 IntKind.u16.wrap (((BitVec.ofInt 16 x ||| BitVec.ofInt 16 (IntKind.u16.wrap (y*256))).toNat:Nat):Int)=x+256*y:=by
 obtain ⟨m,rfl⟩:∃ m:Nat,y=m:=⟨y.toNat,by omega⟩
 obtain ⟨n,rfl⟩:∃ n:Nat,x=n:=⟨x.toNat,by omega⟩
 have h1:IntKind.u16.wrap ((m:Int)*256)=((m*256:Nat):Int):=by rw[s6a (l8a.2 ⟨by omega,by omega⟩)];omega
 rw[h1]
 have h3:(BitVec.ofInt 16 ((m*256:Nat):Int)).toNat=m*256:=by simp;omega
 have h4:(BitVec.ofInt 16 (n:Int)).toNat=n:=by simp;omega
 rw[BitVec.toNat_or,h3,h4]
 have h5:n ||| m*256=m*256+n:=by
  rw[Nat.or_comm,show m*256=m <<< 8 by rw[Nat.shiftLeft_eq]]
  exact (Nat.shiftLeft_add_eq_or_of_lt (by omega) m).symm
 rw[h5,s6a (l8a.2 ⟨by omega,by omega⟩)]
 omega
theorem X3c {n:Int} (h0:0≤n) (h1:n≤65535):IntKind.i16.wrap n=if 32768≤n then n - 65536 else n:=by
 have e:n % 2 ^ 16=n:=by omega
 simp only[IntKind.wrap,IntKind.signed,IntKind.bits,e]
 by_cases h2:32768≤n
 ·rw[if_pos h2,if_pos (by simpa using h2)]
  rfl
 ·rw[if_neg h2,if_neg (by simpa using h2)]
def orH (a b:Int):Int:=IntKind.u16.wrap (BitVec.ofInt IntKind.u16.bits a ||| BitVec.ofInt IntKind.u16.bits b).toNat
theorem A5b {P:Program} {t:TypeId} {ox oy:Operand} {a b:Int} {h:DHeap}:ZX P .or t ox oy (.int .u16 a) (.int .u16 b) h=.ok (.value (.int .u16 (orH a b))) h:=D8b
theorem E2b {P:Program} {t:TypeId} {ox oy:Operand} {a:Int} {h:DHeap}:ZX P .shl t ox oy (.int .u16 a) (.int .u64 8) h=.ok (.value (.int .u16 (IntKind.u16.wrap (a*256)))) h:=D5b (by decide)
theorem D1d {x y:Int} (hx:0≤x) (hx2:x≤255) (hy:0≤y) (hy2:y≤255):orH x (IntKind.u16.wrap (y*256))=x+256*y:=i5d hx hx2 hy hy2
theorem y1c {P:Program} {nt id:Nat} {x y:Code} {K:St→Prop} {Q:Zv→St→Prop} {s:St} {t:Bool} (M:St→Prop) (h1:t=true→xs P nt x (P0a id (N0a M Q)) s) (h2:t=false→xs P nt y (P0a id (N0a M Q)) s) (h3:∀ s',M s'→K s') :
 XIf P nt x y (P0a id (N0a K Q)) s (some (.bool t)):=⟨fun ht=>b7a M (h1 ht) h3,fun ht=>b7a M (h2 ht) h3⟩
def OnE (B:Nat) (H:DHeap) (i:Nat) (op:Int) (x:Instr) (s:St):Prop:=
 s.df=[]∧s.rd=none∧s.fr 1=some (.int .i64 (i:Nat))∧s.fr 4=some (.pointer (some ⟨B,0,none⟩))∧s.fr 7=some (.int .i64 (Xq op))∧s.fr 9=some (.pointer (some ⟨H.next,0,none⟩))∧s.h=H.push (.row (fInstr.enc x) 0 false)
def OnM (B:Nat) (H:DHeap) (v:Value) (i:Nat) (op f a b imm:Int) (u:Value) (s:St):Prop:=
 s.df=[]∧s.rd=none∧s.fr 0=some v∧s.fr 1=some (.int .i64 (i:Nat))∧s.fr 4=some (.pointer (some ⟨B,0,none⟩))∧s.fr 7=some (.int .i64 (Xq op))∧s.fr 9=some (.pointer (some ⟨H.next,0,none⟩))∧s.fr 10=some (.int .i64 f)∧s.fr 12=some u∧s.h=H.push (.row (fInstr.enc ⟨(i:Nat),op,a,b,imm⟩) 0 false)
theorem l1b {l:List Int} {j k m:Nat} (hm:k+j<m):((l.take m).drop k).getD j 0=l.getD (k+j) 0:=by
 simp[List.getD_eq_getElem?_getD,List.getElem?_take,hm]
set_option maxHeartbeats 2000000 in
theorem v4d {h:DHeap} {v:Value} {l:List Int} {i:Nat} (hb:Arg fU8.rep h v l) (hl:l.length≤4294967296) (hi:i≤4294967296) :
 DC Tryz.prog 132 [v,.int .i64 (i:Nat)] h (.ret (.tuple #[R0a (Xv l i).1,.int .i64 (Xv l i).2.1,.int .i64 (Xv l i).2.2])) h:=by
 refine Ct.pure (b1d (by simp) ?_) q8c
 obtain ⟨H,hH⟩:∃ H,H=h.push (.row [.int .i64 0,.int .i64 0,.int .i64 0,.int .i64 0,.int .i64 0] 0 false):=⟨_,rfl⟩
 have hE:Ext h H:=by rw[hH];exact Ext.push1 _ _
 have g:H.get h.next=some (.row (fInstr.enc V1a) 0 false):=by rw[hH];exact Zz _ _
 have hHn:H.next=h.next+1:=by rw[hH];rfl
 have el:∀ K,dLen Tryz.prog #[22] v K=some (.int .i64 (l.length:Nat)):=hb.lens (P:=Tryz.prog) (ts:=#[22]) (t:=22) rfl M3b
 have hz:storeAt H h.next 0 [.int .i64 0,.int .i64 0,.int .i64 0,.int .i64 0,.int .i64 0]=some H:=by
  rw[b0a g (Nat.le_of_ble_eq_true rfl) rfl]
  exact congrArg some (z3a g)
 have hneg:¬ ((i:Nat):Int)<0:=by omega
 by_cases h0:((l.length:Nat):Int)≤(i:Nat)
 ·have h0':=eq_true h0
  simp -implicitDefEqProofs (disch:=first|omega|simp only[go_sem]) only[go_sem,true_and,a2c,← hH,hneg,h0',el,ZJ,Yz,y5a,hz]
  refine A2a (b0b (n:=0) (e:=130) vz vz vz g) ⟨?_,hE⟩
  rw[Xv,if_pos (by omega)]
 have hil:i<l.length:=by omega
 have hbyte:∀ j,0≤l.getD j 0∧l.getD j 0≤255:=fun j=>by
  by_cases hj:j<l.length
  ·obtain ⟨_,_,_,_,a,b⟩:=a5a hb hj
   exact ⟨a,b⟩
  ·rw[List.getD_eq_getElem?_getD,List.getElem?_eq_none (by omega)]
   exact ⟨Int.le_refl _,by decide⟩
 obtain ⟨id0,o0,ia0,lb0,r0,r1⟩:=a5a hb hil
 obtain ⟨opn,hopn⟩:∃ n:Nat,l.getD i 0=(n:Int):=⟨(l.getD i 0).toNat,by omega⟩
 rw[hopn]at lb0 r0 r1
 have hw0:IntKind.i64.wrap (opn:Int)=opn:=o0a (by omega) (by omega)
 simp -implicitDefEqProofs (disch:=first|omega|simp only[go_sem]) only[go_sem,true_and,a2c,← hH,hneg,h0,el,ZJ,Yz,ia0,lb0 H hE,hw0]
 refine YX d2d ?_
 have hwl:IntKind.i64.wrap ((l.length:Int) - (i:Nat))=(l.length:Int) - (i:Nat):=o0a (by omega) (by omega)
 by_cases h1:opn<28
 case neg=>
  have h1':=decide_eq_false h1
  simp -implicitDefEqProofs (disch:=first|omega|simp only[go_sem]) only[go_sem,true_and,h1',ZJ,Yz,y5a,hz]
  refine A2a (b0b (n:=0) (e:=130) vz vz vz g) ⟨?_,hE⟩
  rw[Xv,if_neg (by omega),hopn,if_pos (.inl (c1c (by omega)))]
 have h1':=decide_eq_true h1
 obtain ⟨t1,t2,t3,t4,t5,t6,t7,t8⟩:=l2d h1
 rw[t1]
 by_cases h2:(l.length:Int) - (i:Nat)<Xq opn
 ·have h2':=eq_true h2
  simp -implicitDefEqProofs (disch:=first|omega|simp only[go_sem]) only[go_sem,true_and,h1',hwl,h2',el,ZJ,Yz,y5a,hz]
  refine A2a (b0b (n:=0) (e:=130) vz vz vz g) ⟨?_,hE⟩
  rw[Xv,if_neg (by omega),hopn,if_pos (.inr h2)]
 obtain ⟨f,hf⟩:∃ f,formL.getD opn 0=f:=⟨_,rfl⟩
 rw[hf]at t2 t3 t4 t5 t6
 have hs:=j4b opn
 obtain ⟨w1,w2,w3,w4⟩:=j0b t8
 have hT:Xv l i=if O2a (YV l i)=0 then (YV l i,i+Xq opn,0) else (V1a,0,O2a (YV l i)):=by
  rw[Xv,if_neg (by omega),hopn,if_neg (by omega)]
 have hsz:Xq opn=1+(if YJ opn then 1 else 0)+(if XK opn then 1 else 0)+U1a opn:=by unfold U1a;omega
 have hst5:∀ a b c d e:Int,storeAt (H.push (.row [.int .i64 0,.int .i64 0,.int .i64 0,.int .i64 0,.int .i64 0] 0 false)) H.next 0 [.int .i64 a,.int .i64 b,.int .i64 c,.int .i64 d,.int .i64 e]=some (H.push (.row (fInstr.enc ⟨a,b,c,d,e⟩) 0 false)):=fun a b c d e=>P8a rfl
 have cI:∀ x,Zq (H.push (.row (fInstr.enc x) 0 false)) H.next 1=some (.int .i64 x.op):=fun x=>Zy (Zz _ _)
 have lc:∀ x,Zk (H.push (.row (fInstr.enc x) 0 false)) H.next 0 5=some (R0a x):=fun x=>by rw[Zu (Zz _ _) (Nat.le_of_ble_eq_true rfl)];rfl
 have hEP:∀ o,Ext h (H.push o):=fun o=>hE.push o
 have hw1:IntKind.i64.wrap ((i:Int)+1)=((i+1:Nat):Int):=by rw[o0a (by omega) (by omega)];omega
 obtain ⟨m,hm⟩:∃ m:Nat,(m:Int)=i+Xq opn:=⟨(i+Xq opn).toNat,by omega⟩
 have hw2:IntKind.i64.wrap ((i:Int)+Xq opn)=(m:Nat):=by rw[o0a (by omega) (by omega)];omega
 obtain ⟨u0,hu0,hr0⟩:=Y7c hb (i:=i+1) (j:=m) (by omega) (by omega)
 simp -implicitDefEqProofs (disch:=first|omega|simp only[go_sem]) only[go_sem,true_and,h1',hwl,h2,el,ZJ,Yz,ia0,lb0 H hE,hw0,B8b,hst5,cI]
 refine YX E9b ?_
 rw[hf]
 simp -implicitDefEqProofs (disch:=first|omega|simp only[go_sem]) only[go_sem,true_and,hw1,hw2,hu0 _ (hEP _),↓g4a]
 have hd:∀ (u:Value) (k:Nat),Arg fU8.rep h u ((l.take m).drop k)→k<m→∃ id o u',ZQ Tryz.prog 22 u (.int .i64 0)=some (.pointer (some ⟨id,o,none⟩))∧(∀ K,Ext h K→Zq K id o=some (.int .u8 (l.getD k 0)))∧(∀ K,Ext h K→Xw Tryz.prog 22 u (some (.int .i64 1)) none none K=some u')∧Arg fU8.rep h u' ((l.take m).drop (k+1)):=by
  intro u k hu hk
  have hlen:((l.take m).drop k).length=m - k:=by rw[List.length_drop,List.length_take,Nat.min_eq_left (by omega)]
  obtain ⟨id,o,e1,e2,_,_⟩:=a5a hu (i:=0) (by omega)
  obtain ⟨u',e3,e4⟩:=g8c hu (k:=1) (by omega)
  rw[l1b (by omega)]at e2
  rw[List.drop_drop]at e4
  exact ⟨id,o,u',e1,e2,e3,e4⟩
 have hwx:∀ j,IntKind.i64.wrap (l.getD j 0)=l.getD j 0:=fun j=>by
  have:=hbyte j
  exact o0a (by omega) (by omega)
 have hsp:∀ a b,(H.push (.row (fInstr.enc a) 0 false)).set H.next (.row (fInstr.enc b) 0 false)=H.push (.row (fInstr.enc b) 0 false):=fun a b=>L1a _ _ _
 have sA:∀ a b n c d e,storeAt (H.push (.row (fInstr.enc ⟨a,b,n,c,d⟩) 0 false)) H.next 2 [.int .i64 e]=some (H.push (.row (fInstr.enc ⟨a,b,e,c,d⟩) 0 false)):=fun a b n c d e=>by
  rw[b0a (Zz _ _) (Nat.le_of_ble_eq_true rfl) rfl]
  exact congrArg some (L1a _ _ _)
 have sB:∀ a b n c d e,storeAt (H.push (.row (fInstr.enc ⟨a,b,n,c,d⟩) 0 false)) H.next 3 [.int .i64 e]=some (H.push (.row (fInstr.enc ⟨a,b,n,e,d⟩) 0 false)):=fun a b n c d e=>by
  rw[b0a (Zz _ _) (Nat.le_of_ble_eq_true rfl) rfl]
  exact congrArg some (L1a _ _ _)
 have sC:∀ a b n c d e,storeAt (H.push (.row (fInstr.enc ⟨a,b,n,c,d⟩) 0 false)) H.next 4 [.int .i64 e]=some (H.push (.row (fInstr.enc ⟨a,b,n,c,e⟩) 0 false)):=fun a b n c d e=>by
  rw[b0a (Zz _ _) (Nat.le_of_ble_eq_true rfl) rfl]
  exact congrArg some (L1a _ _ _)
 obtain ⟨k2,hk2⟩:∃ k2,k2=i+1+if YJ opn then 1 else 0:=⟨_,rfl⟩
 obtain ⟨xa,hxa⟩:∃ xa,xa=if YJ opn then l.getD (i+1) 0 else 0:=⟨_,rfl⟩
 have hk2l:(k2:Int)+(if XK opn then 1 else 0)+U1a opn=m:=by
  rw[hm,hk2,hsz]
  split <;> simp <;> omega
 refine r5b (fun s=>∃ u,OnM h.next H v i opn f xa 0 0 u s∧Arg fU8.rep h u ((l.take m).drop k2)) (fun ht=>?_) (fun ht=>?_) ?_
 ·have hf1:YJ opn=true:=by
   cases hh:YJ opn with
   | true=>rfl
   | false=>rw[decide_eq_true (t2.2 hh)]at ht;cases ht
  rw[hf1]at hk2 hxa
  simp only[if_true]at hk2 hxa
  obtain ⟨id1,o1,u1,e1,e2,e3,e4⟩:=hd u0 (i+1) hr0 (by
   rw[hf1]at hsz
   simp only[if_true]at hsz
   have:0≤(if XK opn then (1:Int) else 0):=by split <;> omega
   omega)
  rw[← hxa]at e2
  refine NC.mono (Z4b (K1:=H.push (.row (fInstr.enc ⟨(i:Nat),opn,xa,0,0⟩) 0 false)) (x:=xa) (B:=H.next) vz vz e1 (e2 _ (hEP _)) (e2 _ (hEP _)) (by rw[hxa];exact hwx _) (e3 _ (hEP _)) (e3 _ (hEP _)) (sA _ _ _ _ _ _) (sA _ _ _ _ _ _)) ?_
  rintro e ⟨fr1,df1,hh1,rd1⟩ hM
  cases e <;> try exact hM.elim
  obtain ⟨rfl,rfl,rfl,q12,q0,q1,q4,q7,q9,q10⟩:=hM
  refine ⟨u1,⟨rfl,rfl,q0.trans vz,q1.trans vz,q4.trans vz,q7.trans vz,q9.trans vz,q10.trans vz,q12,rfl⟩,?_⟩
  rw[hk2]
  exact e4
 ·have hf1:YJ opn=false:=by
   cases hh:YJ opn with
   | false=>rfl
   | true=>rw[decide_eq_false (fun h=>by rw[t2.1 h]at hh;cases hh)]at ht;cases ht
  rw[hf1]at hk2 hxa
  simp only[Bool.false_eq_true,if_false,Nat.add_zero]at hk2 hxa
  simp -implicitDefEqProofs (disch:=first|omega|simp only[go_sem]) only[go_sem,true_and]
  refine ⟨u0,⟨rfl,rfl,vz,vz,vz,vz,vz,vz,vz,by rw[hxa]⟩,?_⟩
  rw[hk2]
  exact hr0
 rintro ⟨fr,df,K,rd⟩ ⟨u1,⟨rfl,rfl,f0,f1,f4,f7,f9,f10,f12,hK⟩,hr1⟩
 simp only at f0 f1 f4 f7 f9 f10 f12 hK
 subst hK
 obtain ⟨k3,hk3⟩:∃ k3,k3=k2+if XK opn then 1 else 0:=⟨_,rfl⟩
 obtain ⟨xb,hxb⟩:∃ xb,xb=if XK opn then l.getD k2 0 else 0:=⟨_,rfl⟩
 have hk3l:(k3:Int)+U1a opn=m:=by
  rw[← hk2l,hk3]
  split <;> simp
 simp -implicitDefEqProofs (disch:=first|omega|simp only[go_sem]) only[go_sem,true_and,f10,↓g4a]
 refine r5b (fun s=>∃ u,OnM h.next H v i opn f xa xb 0 u s∧Arg fU8.rep h u ((l.take m).drop k3)) (fun ht=>?_) (fun ht=>?_) ?_
 ·have hf1:XK opn=true:=by
   cases hh:XK opn with
   | true=>rfl
   | false=>rw[decide_eq_true (t3.2 hh)]at ht;cases ht
  rw[hf1]at hk3 hxb hk2l
  simp only[if_true]at hk3 hxb hk2l
  obtain ⟨id1,o1,u2,e1,e2,e3,e4⟩:=hd u1 k2 hr1 (by omega)
  rw[← hxb]at e2
  refine NC.mono (a5b (K1:=H.push (.row (fInstr.enc ⟨(i:Nat),opn,xa,xb,0⟩) 0 false)) (x:=xb) (B:=H.next) (vy f9) (vy f12) e1 (e2 _ (hEP _)) (e2 _ (hEP _)) (by rw[hxb];exact hwx _) (e3 _ (hEP _)) (e3 _ (hEP _)) (sB _ _ _ _ _ _) (sB _ _ _ _ _ _)) ?_
  rintro e ⟨fr1,df1,hh1,rd1⟩ hM
  cases e <;> try exact hM.elim
  obtain ⟨rfl,rfl,rfl,q12,q0,q1,q4,q7,q9,q10⟩:=hM
  refine ⟨u2,⟨rfl,rfl,q0.trans (vy f0),q1.trans (vy f1),q4.trans (vy f4),q7.trans (vy f7),q9.trans (vy f9),q10.trans (vy f10),q12,rfl⟩,?_⟩
  rw[hk3]
  exact e4
 ·have hf1:XK opn=false:=by
   cases hh:XK opn with
   | false=>rfl
   | true=>rw[decide_eq_false (fun h=>by rw[t3.1 h]at hh;cases hh)]at ht;cases ht
  rw[hf1]at hk3 hxb
  simp only[Bool.false_eq_true,if_false,Nat.add_zero]at hk3 hxb
  simp -implicitDefEqProofs (disch:=first|omega|simp only[go_sem]) only[go_sem,true_and]
  refine ⟨u1,⟨rfl,rfl,(vy f0),(vy f1),(vy f4),(vy f7),(vy f9),(vy f10),(vy f12),by rw[hxb]⟩,?_⟩
  rw[hk3]
  exact hr1
 clear f0 f1 f4 f7 f9 f10 f12 fr
 rintro ⟨fr,df,K,rd⟩ ⟨u2,⟨rfl,rfl,f0,f1,f4,f7,f9,f10,f12,hK⟩,hr2⟩
 simp only at f0 f1 f4 f7 f9 f10 f12 hK
 subst hK
 simp -implicitDefEqProofs (disch:=first|omega|simp only[go_sem]) only[go_sem,true_and,f10,↓g4a]
 obtain ⟨w,hw⟩:∃ w,U1a opn=w:=⟨_,rfl⟩
 rw[hw]at w1 w2 hk3l t4 t6 t7
 obtain ⟨x,hx⟩:∃ x,l.getD k3 0=x:=⟨_,rfl⟩
 obtain ⟨y,hy⟩:∃ y,l.getD (k3+1) 0=y:=⟨_,rfl⟩
 have hone:YV l i=⟨(i:Nat),opn,xa,xb,r5a opn w x y⟩:=by
  unfold YV
  simp only[hopn,← hxa,← hk2,← hxb,← hk3,hw,hx,hy]
 have bx:=hbyte k3
 have b_y:=hbyte (k3+1)
 rw[hx]at bx
 rw[hy]at b_y
 have hwx1:IntKind.i64.wrap x=x:=o0a (by omega) (by omega)
 have hux:IntKind.u16.wrap x=x:=s6a (l8a.2 ⟨by omega,by omega⟩)
 have huy:IntKind.u16.wrap y=y:=s6a (l8a.2 ⟨by omega,by omega⟩)
 have hor:=D1d bx.1 bx.2 b_y.1 b_y.2
 have two:w=2→∃ id0 o0 id1 o1,ZQ Tryz.prog 22 u2 (.int .i64 0)=some (.pointer (some ⟨id0,o0,none⟩))∧ZQ Tryz.prog 22 u2 (.int .i64 1)=some (.pointer (some ⟨id1,o1,none⟩))∧(∀ K,Ext h K→Zq K id0 o0=some (.int .u8 x))∧∀ K,Ext h K→Zq K id1 o1=some (.int .u8 y):=fun hw2=>by
  have hlen:((l.take m).drop k3).length=m - k3:=by rw[List.length_drop,List.length_take,Nat.min_eq_left (by omega)]
  obtain ⟨id0,o0,e1,e2,_,_⟩:=a5a hr2 (i:=0) (by omega)
  obtain ⟨id1,o1,e3,e4,_,_⟩:=a5a hr2 (i:=1) (by omega)
  rw[l1b (by omega)]at e2 e4
  rw[Nat.add_zero,hx]at e2
  rw[hy]at e4
  exact ⟨id0,o0,id1,o1,e1,e3,e2,e4⟩
 refine y1c (OnE h.next H i opn (YV l i)) (fun ht=>?_) (fun ht=>?_) ?_
 ·have hw1':w=1:=by
   cases Int.decEq w 1 with
   | isTrue e=>exact e
   | isFalse e=>rw[decide_eq_true (t4.2 e)]at ht;cases ht
  obtain ⟨id1,o1,u3,e1,e2,_,_⟩:=hd u2 k3 hr2 (by omega)
  rw[hx]at e2
  simp -implicitDefEqProofs (disch:=first|omega|simp only[go_sem]) only[go_sem,true_and,f9,f12,e1,e2 _ (hEP _),hwx1,sC]
  refine ⟨rfl,rfl,(vy f1),(vy f4),(vy f7),(vy f9),?_⟩
  rw[hone]
  rw[r5a,if_neg (by omega),if_pos (by omega)]
 ·have hw1':w≠1:=fun e=>by
   rw[decide_eq_false (fun h=>t4.1 h e)]at ht
   cases ht
  simp -implicitDefEqProofs (disch:=first|omega|simp only[go_sem]) only[go_sem,true_and,f10,↓g4a]
  refine B3a (fun ht=>?_) (fun ht=>?_)
  ·have ho1:opn=1:=by
    cases Nat.decEq opn 1 with
    | isTrue e=>exact e
    | isFalse e=>rw[decide_eq_true (t5.2 e)]at ht;cases ht
   have hw2':=t7 ho1
   obtain ⟨id0',o0',id1,o1,e1,e2,e3,e4⟩:=two hw2'
   have hsg:=X3c (n:=x+256*y) (by omega) (by omega)
   obtain ⟨z,hz⟩:∃ z,IntKind.i16.wrap (x+256*y)=z:=⟨_,rfl⟩
   have hzz:IntKind.i64.wrap z=z:=by
    rw[hz]at hsg
    split at hsg <;> exact o0a (by omega) (by omega)
   have himm:r5a opn w x y=z:=by
    rw[← hz,hsg]
    unfold r5a
    rw[if_pos hw2',ho1]
    by_cases hb:32768≤x+256*y
    ·simp[hb]
    ·simp[hb]
   refine L2c ?_
   simp -implicitDefEqProofs (disch:=first|omega|simp only[go_sem]) only[go_sem,true_and,l132_2,f9,f12,e1,e2,e3 _ (hEP _),e4 _ (hEP _),hux,huy,E2b,↓A5b,hor,hz,hzz,sC]
   refine ⟨rfl,rfl,(vy f1),(vy f4),(vy f7),(vy f9),?_⟩
   rw[hone,himm]
  ·have ho1:opn≠1:=fun e=>by
    rw[decide_eq_false (fun h=>t5.1 h e)]at ht
    cases ht
   simp -implicitDefEqProofs (disch:=first|omega|simp only[go_sem]) only[go_sem,true_and,f10,↓g4a]
   refine B3a (fun ht=>?_) (fun ht=>?_)
   ·have hw2':w=2:=by
     cases Int.decEq w 2 with
     | isTrue e=>exact e
     | isFalse e=>rw[decide_eq_true (t6.2 fun hh=>e hh.1)]at ht;cases ht
    obtain ⟨id0',o0',id1,o1,e1,e2,e3,e4⟩:=two hw2'
    have hzz:IntKind.i64.wrap (x+256*y)=x+256*y:=o0a (by omega) (by omega)
    refine M2c ?_
    simp -implicitDefEqProofs (disch:=first|omega|simp only[go_sem]) only[go_sem,true_and,l132_3,f9,f12,e1,e2,e3 _ (hEP _),e4 _ (hEP _),hux,huy,E2b,↓A5b,hor,hzz,sC]
    refine ⟨rfl,rfl,(vy f1),(vy f4),(vy f7),(vy f9),?_⟩
    rw[hone]
    rw[r5a,if_pos hw2',if_neg (fun hh=>ho1 (by have:=hh.1;omega))]
   ·have hw2':w≠2:=fun e=>by
     rw[decide_eq_false (fun h=>t6.1 h ⟨e,ho1⟩)]at ht
     cases ht
    simp -implicitDefEqProofs (disch:=first|omega|simp only[go_sem]) only[go_sem,true_and]
    refine ⟨rfl,rfl,(vy f1),(vy f4),(vy f7),(vy f9),?_⟩
    rw[hone]
    rw[r5a,if_neg hw2',if_neg (by omega)]
 clear f0 f1 f4 f7 f9 f10 f12 fr
 rintro ⟨fr,df,K,rd⟩ ⟨rfl,rfl,f1,f4,f7,f9,hK⟩
 simp only at f1 f4 f7 f9 hK
 subst hK
 obtain ⟨hix,h132⟩:=S9b (l:=l) (i:=i) fun j=>(hbyte j).1
 simp -implicitDefEqProofs (disch:=first|omega|simp only[go_sem]) only[go_sem,true_and,f9,lc]
 refine YX C7c ?_
 rw[hix]
 have g':(H.push (.row (fInstr.enc (YV l i)) 0 false)).get h.next=some (.row (fInstr.enc V1a) 0 false):=(a0a _ _ (by omega)).trans g
 have hst:∀ x:Instr,storeAt (H.push (.row (fInstr.enc (YV l i)) 0 false)) h.next 0 [.int .i64 x.pos,.int .i64 x.op,.int .i64 x.a,.int .i64 x.b,.int .i64 x.imm]=some ((H.push (.row (fInstr.enc (YV l i)) 0 false)).set h.next (.row (fInstr.enc x) 0 false)):=fun x=>b2a g' rfl rfl
 by_cases he:O2a (YV l i)=0
 ·have he':=eq_true he
  simp -implicitDefEqProofs (disch:=first|omega|simp only[go_sem]) only[go_sem,true_and,he',f9,f1,f7,lc,hw2,f4,hst]
  refine A2a (b0b (x:=YV l i) (n:=i+Xq opn) (e:=0) (vy f4) (by rw[← hm];simp -implicitDefEqProofs (disch:=first|omega|simp only[go_sem]) only[go_sem,true_and]) vz (Zj _ _)) ⟨?_,(hEP _).set (by omega)⟩
  rw[hT,if_pos he]
 ·simp -implicitDefEqProofs (disch:=first|omega|simp only[go_sem]) only[go_sem,true_and,he,y5a,f4,hst V1a]
  refine A2a (b0b (x:=V1a) (n:=0) (e:=132) (vy f4) vz vz (Zj _ _)) ⟨?_,(hEP _).set (by omega)⟩
  rw[hT,if_neg he,h132 he]
def XJ (l:List Int):Nat→Nat→List Instr × Int
 | 0,_=>([],0)
 | n+1,i=>if l.length≤i then ([],0) else if (Xv l i).2.2=0 then ((Xv l i).1 :: (XJ l n (Xv l i).2.1.toNat).1,(XJ l n (Xv l i).2.1.toNat).2) else ([],(Xv l i).2.2)
theorem Q1a {l:List Int} {i:Nat} (h:(Xv l i).2.2=0):(Xv l i).1=YV l i∧(Xv l i).2.1=i+Xq (l.getD i 0)∧i<l.length∧1≤Xq (l.getD i 0)∧(i:Int)+Xq (l.getD i 0)≤l.length∧O2a (YV l i)=0:=by
 unfold Xv at h ⊢
 split at h
 ·exact absurd h (by decide)
 ·rename_i h1
  rw[if_neg h1]
  split at h
  ·exact absurd h (by decide)
  ·rename_i h2
   rw[if_neg h2]
   have:=j4b (l.getD i 0)
   split at h
   ·rename_i h3
    rw[if_pos h3]
    refine ⟨rfl,rfl,by omega,by omega,by omega,h3⟩
   ·rename_i h3
    exact absurd h h3
theorem X7a {l:List Int}:∀ {n m i:Nat},l.length - i≤n→l.length - i≤m→XJ l n i=XJ l m i
 | 0,0,i,_,_=>rfl
 | 0,m+1,i,h,_=>by simp only[XJ];rw[if_pos (by omega)]
 | n+1,0,i,_,h=>by simp only[XJ];rw[if_pos (by omega)]
 | n+1,m+1,i,h1,h2=>by
   simp only[XJ]
   by_cases h:l.length≤i
   ·rw[if_pos h,if_pos h]
   ·rw[if_neg h,if_neg h]
    by_cases he:(Xv l i).2.2=0
    ·obtain ⟨_,a,b,c,_⟩:=Q1a he
     rw[if_pos he,if_pos he,X7a (n:=n) (m:=m) (by omega) (by omega)]
    ·rw[if_neg he,if_neg he]
def t0a (l:List Int) (i:Nat):List Instr × Int:=XJ l l.length i
theorem a7a {l:List Int} {i:Nat} (h:l.length≤i):t0a l i=([],0):=by
 unfold t0a
 rw[X7a (m:=0) (by omega) (by omega)]
 rfl
theorem f6a {l:List Int} {i:Nat} (h:i<l.length):t0a l i=if (Xv l i).2.2=0 then ((Xv l i).1 :: (t0a l (Xv l i).2.1.toNat).1,(t0a l (Xv l i).2.1.toNat).2) else ([],(Xv l i).2.2):=by
 unfold t0a
 rw[X7a (m:=l.length+1) (by omega) (by omega)]
 conv=>lhs;rw[XJ]
 rw[if_neg (by omega)]
theorem Z4a {l:List Int}:∀ {n i:Nat},l.length - i≤n→(t0a l i).1.length≤l.length - i
 | 0,i,h=>by rw[a7a (by omega)];simp
 | n+1,i,h=>by
   by_cases hi:i<l.length
   ·rw[f6a hi]
    split
    ·rename_i he
     obtain ⟨_,a,b,c,d⟩:=Q1a he
     have:=Z4a (l:=l) (n:=n) (i:=(Xv l i).2.1.toNat) (by omega)
     simp only[List.length_cons]
     omega
    ·simp
   ·rw[a7a (by omega)];simp
theorem S7c {l:List Int} {i:Nat} (hl:l.length≤4294967296) (hb:∀ j,0≤l.getD j 0∧l.getD j 0≤255) (h:(Xv l i).2.2=0):fInstr.ok (Xv l i).1:=by
 obtain ⟨e,a,b,c,d⟩:=Q1a h
 rw[e]
 have b0:=hb i
 have b1:=hb (i+1)
 have b2:=hb (i+1+if YJ (l.getD i 0) then 1 else 0)
 have b3:=hb (i+1+(if YJ (l.getD i 0) then 1 else 0)+if XK (l.getD i 0) then 1 else 0)
 have b4:=hb (i+1+(if YJ (l.getD i 0) then 1 else 0)+(if XK (l.getD i 0) then 1 else 0)+1)
 have k1:∀ n:Int,-65536≤n→n≤4294967296→inK .i64 n:=fun n h1 h2=>w0a.2 ⟨by omega,by omega⟩
 refine ⟨k1 _ ?_ ?_,k1 _ ?_ ?_,k1 _ ?_ ?_,k1 _ ?_ ?_,k1 _ ?_ ?_⟩
 all_goals simp only[YV,r5a]
 all_goals first
  | omega
  | (repeat' split
     all_goals omega)
theorem r6a {h:DHeap} {x:Instr}:storeAt (h.push (.row [.int .i64 0,.int .i64 0,.int .i64 0,.int .i64 0,.int .i64 0] 0 false)) h.next 0 [.int .i64 x.pos,.int .i64 x.op,.int .i64 x.a,.int .i64 x.b,.int .i64 x.imm]=some (h.push (.row (fInstr.enc x) 0 false)):=P8a rfl
theorem J2b {h:DHeap} {v:Value} {l:List Int} (hb:Arg fU8.rep h v l):∀ j,0≤l.getD j 0∧l.getD j 0≤255:=fun j=>by
 by_cases hj:j<l.length
 ·obtain ⟨_,_,_,_,a,b⟩:=a5a hb hj
  exact ⟨a,b⟩
 ·rw[List.getD_eq_getElem?_getD,List.getElem?_eq_none (by omega)]
  exact ⟨Int.le_refl _,by decide⟩
end Go.Proofs.YtheamfnbfgiaeaaGreat
namespace Go.D
variable {P:Program}
structure v1c (P:Program) (t:TypeId) (k:IntKind):Prop where
 map:∃ kt et,P.underlying t=some (.map kt et)∧P.underlying kt=some (.int k)∧Y7a P et=some (.bool false)
def SetAt (k:IntKind) (h:DHeap) (id:Nat) (ks:List Int):Prop:=
 ∃ es c,h.get id=some (.map es c)∧(∀ e∈es,∃ n,e.key=.int k n∧e.val=.bool true)∧∀ n,n∈ks↔∃ e∈es,e.key=.int k n
theorem W5a {k:IntKind} {n:Int}:∀ {es:List MapEntry} {i:Nat},(∀ e∈es,∃ m,e.key=.int k m∧e.val=.bool true) →
 (∃ j,Instr.findNow (.int k) (.int k n) es i=some (some (j,.bool true))∧i≤j∧∃ e,es[j - i]? = some e∧e.key=.int k n)∨(Instr.findNow (.int k) (.int k n) es i=some none∧∀ e∈es,e.key≠.int k n)
 | [],i,_=>.inr ⟨rfl,fun e he=>by simp at he⟩
 | e :: es,i,h=>by
   obtain ⟨m,h1,h2⟩:=h e (by simp)
   have ih:=W5a (k:=k) (n:=n) (es:=es) (i:=i+1) fun e he=>h e (by simp[he])
   simp only[Instr.findNow,h1,Instr.sameNow,if_true]
   by_cases hm:n=m
   ·subst hm
    refine .inl ⟨i,by simp[h2],Nat.le_refl _,e,by simp,h1⟩
   ·have:(n==m)=false:=by simpa using hm
    rw[this]
    rcases ih with ⟨j,a,b,e',c,d⟩ | ⟨a,b⟩
    ·exact .inl ⟨j,a,by omega,e',by rw[show j - i=(j - (i+1))+1 by omega];exact c,d⟩
    ·refine .inr ⟨a,fun e' he=>?_⟩
     rcases List.mem_cons.1 he with rfl | he
     ·rw[h1]
      intro hh
      cases hh
      exact hm rfl
     ·exact b e' he
theorem U0c {t:TypeId} {d:TypeDesc} (hu:P.underlying t=some d):ZU P (underlying t)=some (.inr d):=by
 simp only[underlying,program,Bind.bind,Sem.bind,ZU,hu]
 rfl
theorem J1b {kt:TypeId} {k:IntKind} (hu:P.underlying kt=some (.int k)) (b:Bool) (n:Int) (m:Nat):ZU P (Instr.checkKey b (m+1) kt (.int k n))=some (.inr ()):=by
 unfold Instr.checkKey
 rw[k0a (U0c hu)]
 rfl
theorem i5a {kt:TypeId} {k:IntKind} (hu:P.underlying kt=some (.int k)) (b:Bool) (n:Int):∃ u,ZU P (Instr.checkKey b 10000 kt (.int k n))=some (.inr u):=⟨(),J1b hu b n 9999⟩
theorem V7a {k:IntKind} {n:Int} (m:Nat):Instr.sameBits (m+1) (.int k n) (.int k n)=true:=by simp[Instr.sameBits]
theorem SetAt.lookup {t:TypeId} {k:IntKind} {h:DHeap} {id:Nat} {ks:List Int} (T:v1c P t k) (a:SetAt k h id ks) (n:Int):Q0a P t (.map (some id)) (.int k n) false h=some (.bool (decide (n∈ks))):=by
 obtain ⟨kt,et,u1,u2,u3⟩:=T.map
 obtain ⟨es,c,g,e1,e2⟩:=a
 obtain ⟨u,hck⟩:=i5a (P:=P) u2 es.isEmpty n
 have hm:j6a (.map (some id)) h=some es:=by simp only[j6a,g]
 have hf3:Yj (.int k n)=true:=rfl
 simp only[Q0a,u1,hm,hf3,if_true,hck]
 rcases W5a (k:=k) (n:=n) (es:=es) (i:=0) e1 with ⟨j,a,_,e,c,d⟩ | ⟨a,b⟩
 ·have hfd:H1a P kt (.int k n) es=some (some j):=by simp only[H1a,u2,a];rfl
  rw[Nat.sub_zero]at c
  obtain ⟨m,h1,h2⟩:=e1 e (List.mem_of_getElem? c)
  rw[decide_eq_true ((e2 n).2 ⟨e,List.mem_of_getElem? c,d⟩)]
  simp only[hfd,c,h2]
  rfl
 ·have hfd:H1a P kt (.int k n) es=some none:=by simp only[H1a,u2,a];rfl
  rw[decide_eq_false (fun hh=>by
   obtain ⟨e,he,hk⟩:=(e2 n).1 hh
   exact b e he hk)]
  simp only[hfd,u3]
  rfl
theorem SetAt.update {t:TypeId} {k:IntKind} {h:DHeap} {id:Nat} {ks:List Int} (T:v1c P t k) (a:SetAt k h id ks) (n:Int):∃ o,F0a P t (.map (some id)) (.int k n) (.bool true) h=some (h.set id o)∧SetAt k (h.set id o) id (ks++[n]):=by
 obtain ⟨kt,et,u1,u2,u3⟩:=T.map
 obtain ⟨es,c,g,e1,e2⟩:=a
 obtain ⟨u,hck⟩:=i5a (P:=P) u2 false n
 have hf3:Yj (.int k n)=true:=rfl
 simp only[F0a,u1,g,hf3,if_true,hck]
 rcases W5a (k:=k) (n:=n) (es:=es) (i:=0) e1 with ⟨j,a,_,e,c',d⟩ | ⟨a,b⟩
 ·have hfd:H1a P kt (.int k n) es=some (some j):=by simp only[H1a,u2,a];rfl
  rw[Nat.sub_zero]at c'
  have hsb:Instr.sameBits 10000 e.key (.int k n)=true:=by
   rw[d]
   exact V7a 9999
  simp only[hfd,c',hsb,if_true]
  refine ⟨_,rfl,_,_,Zj _ _,fun e' he=>?_,fun m=>?_⟩
  ·rcases List.mem_or_eq_of_mem_set he with he | he
   ·exact e1 e' he
   ·exact ⟨n,by rw[he],by rw[he]⟩
  ·rw[List.mem_append,e2 m]
   constructor
   ·rintro (⟨e',he,hk⟩ | hm)
    ·obtain ⟨i,hi⟩:=List.mem_iff_getElem?.1 he
     by_cases hij:j=i
     ·subst hij
      rw[c']at hi
      cases hi
      rw[d]at hk
      cases hk
      exact ⟨{ e with key:=.int k n,val:=.bool true },List.mem_iff_getElem?.2 ⟨j,by rw[List.getElem?_set,if_pos rfl,if_pos (List.getElem?_eq_some_iff.1 c').1]⟩,rfl⟩
     ·exact ⟨e',List.mem_iff_getElem?.2 ⟨i,by rw[List.getElem?_set,if_neg hij];exact hi⟩,hk⟩
    ·simp only[List.mem_singleton]at hm
     subst hm
     exact ⟨{ e with key:=.int k m,val:=.bool true },List.mem_iff_getElem?.2 ⟨j,by rw[List.getElem?_set,if_pos rfl,if_pos (List.getElem?_eq_some_iff.1 c').1]⟩,rfl⟩
   ·rintro ⟨e',he,hk⟩
    rcases List.mem_or_eq_of_mem_set he with he | he
    ·exact .inl ⟨e',he,hk⟩
    ·rw[he]at hk
     cases hk
     exact .inr (by simp)
 ·have hfd:H1a P kt (.int k n) es=some none:=by simp only[H1a,u2,a];rfl
  simp only[hfd]
  refine ⟨_,rfl,_,_,Zj _ _,fun e' he=>?_,fun m=>?_⟩
  ·rcases List.mem_append.1 he with he | he
   ·exact e1 e' he
   ·simp only[List.mem_singleton]at he
    exact ⟨n,by rw[he],by rw[he]⟩
  ·rw[List.mem_append,e2 m]
   constructor
   ·rintro (⟨e',he,hk⟩ | hm)
    ·exact ⟨e',by simp[he],hk⟩
    ·simp only[List.mem_singleton]at hm
     subst hm
     exact ⟨_,List.mem_append.2 (.inr (List.mem_singleton.2 rfl)),rfl⟩
   ·rintro ⟨e',he,hk⟩
    rcases List.mem_append.1 he with he | he
    ·exact .inl ⟨e',he,hk⟩
    ·simp only[List.mem_singleton]at he
     rw[he]at hk
     cases hk
     exact .inr (by simp)
theorem SetAt.keep {k:IntKind} {h h':DHeap} {id:Nat} {ks:List Int} (a:SetAt k h id ks) (hg:h'.get id=h.get id):SetAt k h' id ks:=by
 obtain ⟨es,c,g,e⟩:=a
 exact ⟨es,c,hg.trans g,e⟩
theorem SetAt.new {k:IntKind} {h:DHeap}:SetAt k (h.push (.map [] 0)) h.next []:=⟨[],0,Zz _ _,by simp,by simp⟩
theorem q8b {nt id:Nat} {c:Code} {K:St→Prop} {Q:Zv→St→Prop} {s:St} (M:St→Prop) (h1:r9a P nt c (P0a id (N0a M Q)) s) (h3:∀ s',M s'→K s'):r9a P nt c (P0a id (N0a K Q)) s:=b7a (c:=.loop c) M h1 h3
end Go.D
namespace Go.Proofs.YtheamfnbfgiaeaaGreat
open Go.D
set_option maxRecDepth 100000
def E5a (e:Int):Value:=.iface 205 (.agg #[.int .i64 e])
theorem B9b {S:Nat→Prop} (e:Int):VIn S (E5a e):=.iface (.agg fun v hv=>by simp at hv;subst hv;exact .int _ _)
theorem d6c (e:Int):Xy Tryz.prog 205 [(0,.int .i64 e)]=some (.agg #[.int .i64 e]):=l0a b8c rfl
theorem P7c {h:DHeap}:DC Tryz.prog 101 [.int .i64 0] h (.ret (.tuple #[])) h:=by
 refine Ct.pure (M9b (by simp) ?_) (.tuple fun v hv=>by simp at hv)
 simp -implicitDefEqProofs (disch:=first|omega|simp only[go_sem]) only[go_sem,true_and,X1c]
 exact ⟨_,rfl,rfl,.refl h⟩
theorem T3b {h:DHeap} {e:Int} (he:e≠0):DC Tryz.prog 101 [.int .i64 e] h (.pan (E5a e)) h:=by
 refine Ct.purePan (M9b (by simp) ?_) (B9b e)
 simp -implicitDefEqProofs (disch:=first|omega|simp only[go_sem]) only[go_sem,true_and,X1c,d6c,he]
 exact ⟨rfl,.refl h⟩
theorem B2d {h:DHeap} {v:Value} {l:List Int} (hb:Arg fU8.rep h v l) (hl:l.length≤1048576) :
 Ct Tryz.prog 99 [v] h fun r h1=>((t0a l 0).2=0∧∃ w,r=.ret w∧Made fInstr h h1 w (t0a l 0).1)∨((t0a l 0).2≠0∧r=.pan (E5a (t0a l 0).2)∧Ext h h1):=by
 refine X3d (by simp) ?_
 have el:∀ K,dLen Tryz.prog #[22] v K=some (.int .i64 (l.length:Nat)):=hb.lens (P:=Tryz.prog) (ts:=#[22]) (t:=22) rfl M3b
 have hbl:=J2b hb
 simp -implicitDefEqProofs (disch:=first|omega|simp only[go_sem]) only[go_sem,true_and,c99]
 refine A0a (σ:=Nat × List Instr) (by kernel_rfl) (fun a s=>s.df=[]∧s.rd=none∧s.fr 0=some v∧s.fr 4=some (.int .i64 (a.1:Nat))∧(∃ w,s.fr 3=some w∧Made fInstr h s.h w a.2)∧a.1≤l.length∧a.2.length≤a.1∧t0a l 0=(a.2++(t0a l a.1).1,(t0a l a.1).2)) (fun a=>l.length - a.1) (0,[]) ?_ ?_
 ·simp -implicitDefEqProofs (disch:=first|omega|simp only[go_sem]) only[go_sem,true_and]
  exact ⟨rfl,⟨_,rfl,.nil _ (.refl h)⟩,Nat.zero_le _,Nat.le_refl _,trivial⟩
 ·rintro ⟨i,acc⟩ ⟨fr,df,K,rd⟩ K' hK' hX ⟨rfl,hrd,f0,f4,⟨w,f3,hm⟩,hi,hal,hw⟩
  simp only at hrd f0 f4 f3 hm hi hal hw
  subst hrd
  have hE:=hm.ext
  simp -implicitDefEqProofs (disch:=first|omega|simp only[go_sem]) only[go_sem,true_and,f0,f4,el]
  refine n0a (fun hc1=>?_) (fun hc1=>?_)
  ·have hil:i<l.length:=by omega
   have hst:=f6a hil
   simp -implicitDefEqProofs (disch:=first|omega|simp only[go_sem]) only[go_sem,true_and,f0,f4]
   refine YX (v4d (hb.ext hE) (by omega) (by omega)) ?_
   obtain ⟨x,hx⟩:∃ x,(Xv l i).1=x:=⟨_,rfl⟩
   obtain ⟨K1,hK1⟩:∃ K1,K1=K.push (.row (fInstr.enc x) 0 false):=⟨_,rfl⟩
   have g:K1.get K.next=some (.row (fInstr.enc x) 0 false):=by rw[hK1];exact Zz _ _
   have lc:Zk K1 K.next 0 5=some (R0a x):=by rw[Zu g (Nat.le_of_ble_eq_true rfl)];rfl
   have hm1:Made fInstr h K1 w acc:=hm.on (by rw[hK1];exact Ext.push1 _ _)
   rw[hx]
   have s5:=r6a (h:=K) (x:=x)
   rw[← hK1]at s5
   by_cases he:(Xv l i).2.2=0
   ·obtain ⟨e1,e2,_,e4,e5⟩:=Q1a he
    have hok:=S7c (by omega) hbl he
    rw[hx]at hok
    rw[if_pos he,hx]at hst
    obtain ⟨nx,hnx⟩:∃ nx:Nat,(Xv l i).2.1=nx:=⟨(Xv l i).2.1.toNat,by omega⟩
    rw[hnx]at hst ⊢
    rw[he]
    have hbs:∀ K:DHeap,f0a Tryz.prog 143 1 [(0,R0a x)] K=some (.slice (some ⟨K.next,0,none⟩) 1 1,K.push (.row (fInstr.enc x) 5 false)):=fun K=>G5b rfl
    obtain ⟨w2,h2,e6,m2⟩:=hm1.snoc V5c (y:=x) (cs:=fInstr.enc x) (z:=5) rfl rfl hok (by omega) (by decide)
    simp -implicitDefEqProofs (disch:=first|omega|simp only[go_sem]) only[go_sem,true_and,s5]
    refine YX P7c ?_
    simp -implicitDefEqProofs (disch:=first|omega|simp only[go_sem]) only[go_sem,true_and,f3,lc,hbs,e6]
    refine hK' (nx,acc++[x]) _ ?_ (by simp only;omega)
    refine ⟨by trivial,by trivial,(vy f0),vz,⟨w2,vz,m2⟩,by simp only;omega,by simp;omega,?_⟩
    rw[hw,hst]
    simp
   ·rw[if_neg he]at hst
    simp -implicitDefEqProofs (disch:=first|omega|simp only[go_sem]) only[go_sem,true_and,s5]
    refine r1b (T3b he) ?_
    refine hX _ _ (by simp) ?_
    simp -implicitDefEqProofs (disch:=first|omega|simp only[go_sem]) only[go_sem,true_and]
    refine .inr ⟨?_,?_,hm1.ext⟩
    ·rw[hw,hst];exact he
    ·rw[hw,hst]
  ·refine hX _ _ (by simp) ?_
   simp -implicitDefEqProofs (disch:=first|omega|simp only[go_sem]) only[go_sem,true_and,f3]
   have:=a7a (l:=l) (i:=i) (by omega)
   refine ⟨_,rfl,.inl ⟨?_,w,rfl,?_⟩⟩
   ·rw[hw,this]
   ·rw[hw,this,List.append_nil];exact hm
theorem c2c {h:DHeap} {e:Int}:DC Tryz.prog 98 [E5a e] h (.ret (.int .i64 e)) h:=by
 refine Ct.pure (W3d (by simp) ?_) (T0a _ _)
 simp -implicitDefEqProofs (disch:=first|omega|simp only[go_sem]) only[go_sem,true_and,c98,E5a,k5b (v:=.int .i64 e) rfl,F6b]
 exact ⟨_,rfl,rfl,Ext.push1 _ _⟩
theorem A3c {e:Int} {ox oy:Operand} {h:DHeap}:ZX Tryz.prog .neq 20 ox oy (E5a e) .nilIface h=.ok (.value (.bool true)) h:=by
 kernel_rfl
theorem B3c {i:Nat} {h:DHeap}:ZX Tryz.prog .neq 20 (T i) (.const .nilIface) .nilIface .nilIface h=.ok (.value (.bool false)) h:=by
 kernel_rfl
theorem O6c {h:DHeap} {x y:Value}:DCD Tryz.prog 97 [x,y] .ret h .ret h:=by
 refine p2b (fn:=Tryz.f97) (rs:=[]) (by kernel_rfl) F5b (by kernel_rfl) (by kernel_rfl) (n:=8) (Nat.le_of_ble_eq_true rfl) (by kernel_rfl) (.refl h) ?_
 simp only[I2a]
 simp -implicitDefEqProofs (disch:=first|omega|simp only[go_sem]) only[go_sem,true_and,j5a,B3c]
 exact ⟨rfl,trivial⟩
theorem R5b {h:DHeap} {a b:Nat} {e:Int} {c d:Value} {z y:Nat} (ha:h.get a=some (.row [c] z false)) (hb:h.get b=some (.row [d] y false)) (hab:b≠a) :
 DCD Tryz.prog 97 [.pointer (some ⟨a,0,none⟩),.pointer (some ⟨b,0,none⟩)] (.pan (E5a e)) h (.recd (E5a e)) ((h.set a (.row [.slice none 0 0] z false)).set b (.row [.int .i64 e] y false)):=by
 refine p2b (fn:=Tryz.f97) (rs:=[]) (by kernel_rfl) F5b (by kernel_rfl) (by kernel_rfl) (n:=8) (Nat.le_of_ble_eq_true rfl) (by kernel_rfl) ((HStep.set _ _ _).trans (HStep.set _ _ _)) ?_
 simp only[I2a]
 have w1:=b0a (o:=0) (vs:=[.slice none 0 0]) ha (Nat.le_of_ble_eq_true rfl) rfl
 have w2:=b0a (o:=0) (vs:=[.int .i64 e]) ((Zx _ _ hab).trans hb:(h.set a (.row (YZ [c] 0 [.slice none 0 0]) z false)).get b=_) (Nat.le_of_ble_eq_true rfl) rfl
 have tc:=c2c (h:=h) (e:=e)
 simp -implicitDefEqProofs (disch:=first|omega|simp only[go_sem]) only[go_sem,true_and,j5a,A3c]
 refine YX tc ?_
 simp -implicitDefEqProofs (disch:=first|omega|simp only[go_sem]) only[go_sem,true_and,w1,w2]
 exact ⟨rfl,rfl⟩
end Go.Proofs.YtheamfnbfgiaeaaGreat
