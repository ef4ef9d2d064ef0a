/-
A part of the proof of a law: contracts of functions over plain heaps, and what they lean on. Conditions: none.
-/
import Derived.Shelf.SlSortCmp.WholeK
import Derived.Test.YtheamfnbfgiaeaaGreatProg
import Derived.Test.YtheamfnbfgiaeaaGreatRows
import Derived.ChangeArms
import Derived.ChangeOld
import Derived.ChangeReads
import Derived.ChangeSame
import Derived.WalkKit
import Derived.ProofKit
import Derived.OpenShut
import Derived.JoinedCond
import Derived.KernelRfl
import Derived.Test.YtheamfnbfgiaeaaGreatChecked
import Derived.Test.YtheamfnbfgiaeaaGreatBase1
import Derived.Test.YtheamfnbfgiaeaaGreatBase2
set_option linter.unusedSimpArgs false
set_option linter.unusedVariables false
set_option linter.defProp false
namespace Go.D
attribute [go_sem] Int.reduceLT Int.reduceLE Int.reduceEq reduceIte Nat.reduceAdd
attribute [go_sem] List.size_toArray List.length_cons List.length_nil Nat.zero_add Nat.add_zero Option.map_some
theorem vz {p:Prop} (h:p:=by
 simp -implicitDefEqProofs (disch:=first|omega|simp only[go_sem]) only[go_sem,true_and]):p:=h
theorem vy {p a:Prop} (x:a) (h:a→p:=by
 intro x
 simp -implicitDefEqProofs (disch:=first|omega|simp only[go_sem]) only[go_sem,true_and,x]):p:=h x
structure Key where
 t:Int
 r:Int
 deriving DecidableEq
structure Cell where
 k:Key
 v:Int
 s:Int
 deriving DecidableEq
structure Pair where
 k:Key
 v:Int
 deriving DecidableEq
structure Change where
 k:Key
 v:Int
 e:Bool
 deriving DecidableEq
abbrev fI64:=fI .i64
abbrev fU8:=fI .u8
def fKey:FRep Key:=fM (fP (fI .i32) (fI .i64)) (fun k=>(k.t,k.r)) fun x y h=>by
 cases x;cases y;simp at h;simp[h]
def fCell:FRep Cell:=fM (fP fKey (fP (fI .i64) (fI .i64))) (fun c=>(c.k,c.v,c.s)) fun x y h=>by
 cases x;cases y;simp at h;simp[h]
def fPair:FRep Pair:=fM (fP fKey (fI .i64)) (fun c=>(c.k,c.v)) fun x y h=>by
 cases x;cases y;simp at h;simp[h]
def fChange:FRep Change:=fM (fP fKey (fP (fI .i64) fB)) (fun c=>(c.k,c.v,c.e)) fun x y h=>by
 cases x;cases y;simp at h;simp[h]
theorem g1c (c:Pair):fPair.enc c=[.int .i32 c.k.t,.int .i64 c.k.r,.int .i64 c.v]:=rfl
structure Res where
 e:Int
 vs:List Int
 s:Int
 p:Int
structure Row where
 ses:Int
 req:Int
 x:Res
structure N0a where
 slot:Int
 cells:List Cell
 rows:List Row
theorem n7a {k:IntKind} {n:Int} (h:inK k n):k.wrap n=n:=by
 unfold inK IntKind.min IntKind.max IntKind.signed IntKind.bits at h
 unfold IntKind.wrap IntKind.signed IntKind.bits
 cases k <;> simp at h ⊢ <;> omega
theorem k9a (k:IntKind) (n:Int):inK k (k.wrap n):=by
 unfold inK IntKind.min IntKind.max IntKind.wrap IntKind.signed IntKind.bits
 cases k <;> simp <;> omega
theorem B1c {n:Int}:inK .u8 n↔0≤n∧n≤255:=by
 simp[inK,IntKind.min,IntKind.max,IntKind.signed,IntKind.bits]
theorem Z8a {n:Int}:inK .u16 n↔0≤n∧n≤65535:=by
 simp[inK,IntKind.min,IntKind.max,IntKind.signed,IntKind.bits]
theorem m0a {n:Int}:inK .i64 n ↔ -9223372036854775808≤n∧n≤9223372036854775807:=by
 simp[inK,IntKind.min,IntKind.max,IntKind.signed,IntKind.bits]
theorem z1d {n:Int}:inK .i32 n ↔ -2147483648≤n∧n≤2147483647:=by
 simp[inK,IntKind.min,IntKind.max,IntKind.signed,IntKind.bits]
theorem ZQ {n:Int} (h0 : -9223372036854775808≤n) (h1:n≤9223372036854775807):IntKind.i64.wrap n=n:=n7a (m0a.2 ⟨h0,h1⟩)
end Go.D
namespace Go.Proofs.YtheamfnbfgiaeaaGreat
open Go.Proofs
def Q6b:Go.Shelf.Ren:=⟨fun | 6=>75 | 15=>95 | 14=>113 | 28=>130 | 29=>131 | 20=>139 | 21=>140 | 22=>141 | 23=>142 | 24=>143 | 25=>144 | 26=>145 | 27=>146 | 46=>157 | 47=>148 | 48=>149 | 49=>158 | 50=>159 | 57=>161 | n=>n,fun | 22=>24 | 24=>31 | 25=>116 | 3=>3 | 39=>172 | 0=>0 | 53=>202 | 55=>192 | 4=>4 | 46=>195 | 45=>194 | 50=>88 | 5=>5 | 9=>9 | 66=>220 | 70=>224 | 76=>231 | 77=>232 | n=>n,fun | n=>n⟩
theorem P7b:SlLaysF0.n6 Tryz.prog Q6b where
 mixed:=by kernel_rfl
 f6:=⟨ "slices.SortFunc[[]trivet/api.Key,trivet/api.Key]",by decide,Tryz.func75.trans (congrArg some (by kernel_rfl))⟩
 f14:=⟨ "slices.pdqsortCmpFunc[trivet/api.Key]",by decide,Tryz.func113.trans (congrArg some (by kernel_rfl))⟩
 f15:=Tryz.func95.trans (congrArg some (by kernel_rfl))
 f20:=⟨ "slices.insertionSortCmpFunc[trivet/api.Key]",by decide,Tryz.func139.trans (congrArg some (by kernel_rfl))⟩
 f21:=⟨ "slices.heapSortCmpFunc[trivet/api.Key]",by decide,Tryz.func140.trans (congrArg some (by kernel_rfl))⟩
 f22:=⟨ "slices.breakPatternsCmpFunc[trivet/api.Key]",by decide,Tryz.func141.trans (congrArg some (by kernel_rfl))⟩
 f23:=⟨ "slices.choosePivotCmpFunc[trivet/api.Key]",by decide,Tryz.func142.trans (congrArg some (by kernel_rfl))⟩
 f24:=⟨ "slices.reverseRangeCmpFunc[trivet/api.Key]",by decide,Tryz.func143.trans (congrArg some (by kernel_rfl))⟩
 f25:=⟨ "slices.partialInsertionSortCmpFunc[trivet/api.Key]",by decide,Tryz.func144.trans (congrArg some (by kernel_rfl))⟩
 f26:=⟨ "slices.partitionEqualCmpFunc[trivet/api.Key]",by decide,Tryz.func145.trans (congrArg some (by kernel_rfl))⟩
 f27:=⟨ "slices.partitionCmpFunc[trivet/api.Key]",by decide,Tryz.func146.trans (congrArg some (by kernel_rfl))⟩
 f28:=Tryz.func130.trans (congrArg some (by kernel_rfl))
 f29:=Tryz.func131.trans (congrArg some (by kernel_rfl))
 f46:=⟨ "slices.siftDownCmpFunc[trivet/api.Key]",by decide,Tryz.func157.trans (congrArg some (by kernel_rfl))⟩
 f47:=Tryz.func148.trans (congrArg some (by kernel_rfl))
 f48:=Tryz.func149.trans (congrArg some (by kernel_rfl))
 f49:=⟨ "slices.medianAdjacentCmpFunc[trivet/api.Key]",by decide,Tryz.func158.trans (congrArg some (by kernel_rfl))⟩
 f50:=⟨ "slices.medianCmpFunc[trivet/api.Key]",by decide,Tryz.func159.trans (congrArg some (by kernel_rfl))⟩
 f57:=⟨ "slices.order2CmpFunc[trivet/api.Key]",by decide,Tryz.func161.trans (congrArg some (by kernel_rfl))⟩
 t0:=Tryz.underlying0
 a0:=Tryz.isAgg0
 z0:=Tryz.sizeOf0
 v0:=Tryz.zeroValue0
 t3:=Tryz.underlying3
 a3:=Tryz.isAgg3
 z3:=Tryz.sizeOf3
 v3:=Tryz.zeroValue3
 t4:=Tryz.underlying4
 a4:=Tryz.isAgg4
 z4:=Tryz.sizeOf4
 v4:=Tryz.zeroValue4
 t5:=Tryz.underlying5
 a5:=Tryz.isAgg5
 z5:=Tryz.sizeOf5
 v5:=Tryz.zeroValue5
 t9:=Tryz.underlying9
 a9:=Tryz.isAgg9
 z9:=Tryz.sizeOf9
 v9:=Tryz.zeroValue9
 t22:=Tryz.underlying24
 a22:=Tryz.isAgg24
 z22:=Tryz.sizeOf24
 v22:=Tryz.zeroValue24
 t25:=Tryz.underlying116
 a25:=Tryz.isAgg116
 z25:=Tryz.sizeOf116
 v25:=Tryz.zeroValue116
 t39:=Tryz.underlying172
 a39:=Tryz.isAgg172
 z39:=Tryz.sizeOf172
 v39:=Tryz.zeroValue172
 t45:=Tryz.underlying194
 a45:=Tryz.isAgg194
 z45:=Tryz.sizeOf194
 v45:=Tryz.zeroValue194
 t46:=Tryz.underlying195
 a46:=Tryz.isAgg195
 z46:=Tryz.sizeOf195
 v46:=Tryz.zeroValue195
 t50:=Tryz.underlying88
 a50:=Tryz.isAgg88
 z50:=Tryz.sizeOf88
 v50:=Tryz.zeroValue88
 t53:=Tryz.underlying202
 a53:=Tryz.isAgg202
 z53:=Tryz.sizeOf202
 v53:=Tryz.zeroValue202
 t55:=Tryz.underlying192
 a55:=Tryz.isAgg192
 z55:=Tryz.sizeOf192
 v55:=Tryz.zeroValue192
 t66:=Tryz.underlying220
 a66:=Tryz.isAgg220
 z66:=Tryz.sizeOf220
 v66:=Tryz.zeroValue220
 t70:=Tryz.underlying224
 a70:=Tryz.isAgg224
 z70:=Tryz.sizeOf224
 v70:=Tryz.zeroValue224
 t76:=Tryz.underlying231
 a76:=Tryz.isAgg231
 z76:=Tryz.sizeOf231
 v76:=Tryz.zeroValue231
 t77:=Tryz.underlying232
 a77:=Tryz.isAgg232
 z77:=Tryz.sizeOf232
 v77:=Tryz.zeroValue232
end Go.Proofs.YtheamfnbfgiaeaaGreat
namespace Go.D
open Go.Proofs.YtheamfnbfgiaeaaGreat (Rows.uptoBulk Rows.uptoBulkAll)
variable {P:Program}
structure Rds (ι:Inj) (h:DHeap) (W:World):Prop where
 sim:Sim ι h W
 ro:∀ id e,ι id=some e→e.ro=true
def Blk (W:World):Prop:=∃ (b:Nat) (c:Array Value) (t:TypeId) (fz:Nat × Nat),W.heap[b]? = some (Obj.cells c t fz)
def BlkOf (W:World) (cs:List Value):Prop:=∀ a len cap,Value.slice (some a) len cap∈cs→Blk W
theorem BlkOf.of {W:World} (b:Blk W) (cs:List Value):BlkOf W cs:=fun _ _ _ _=>b
theorem BlkOf.sub {W:World} {cs ds:List Value} (b:BlkOf W cs) (h:∀ v∈ds,v∈cs):BlkOf W ds:=fun a l c hm=>b a l c (h _ hm)
theorem Rds.none (W:World):Rds (fun _=>none) ⟨fun _=>none,0,0⟩ W:=
 ⟨⟨fun _ _ h=>(by cases h),fun _ _ h=>(by cases h),fun _ _ h=>(by cases h),fun _ _ _ _ h=>(by cases h),fun g hg=>absurd hg (Nat.not_lt_zero _)⟩,fun _ _ h=>by cases h⟩
theorem Rds.push {ι:Inj} {h:DHeap} {W:World} (s:Rds ι h W) {b:Nat} {cur:Array Value} {ty:TypeId} {fz:Nat × Nat} (hb:W.heap[b]? = some (.cells cur ty fz)) (shift z:Nat) {cells:List Value}
 (hc:∀ (i:Nat) v,cells[i]? = some v→∃ v',cur[shift+i]? = some v'∧VRel ι v v') :
 Rds (ι.upd h.next ⟨b,shift,z,0,true⟩) (h.push (.row cells z true)) W∧ι.le (ι.upd h.next ⟨b,shift,z,0,true⟩)∧Ext h (h.push (.row cells z true)):=by
 have hle:ι.le (ι.upd h.next ⟨b,shift,z,0,true⟩):=Inj.upd_le s.sim.fresh
 have hbl:b<W.heap.size:=by
  cases hx:W.heap[b]? with
  | none=>rw[hx]at hb;cases hb
  | some _=>exact (Array.getElem?_eq_some_iff.1 hx).1
 have hcase:∀ id e,(ι.upd h.next ⟨b,shift,z,0,true⟩) id=some e→(id=h.next∧e=⟨b,shift,z,0,true⟩)∨(id≠h.next∧ι id=some e):=by
  intro id e he
  unfold Inj.upd at he
  split at he
  ·cases he;exact .inl ⟨‹_›,rfl⟩
  ·exact .inr ⟨‹_›,he⟩
 have hro:∀ id e,(ι.upd h.next ⟨b,shift,z,0,true⟩) id=some e→e.ro=true:=by
  intro id e he
  rcases hcase id e he with ⟨_,rfl⟩ | ⟨_,he⟩
  ·rfl
  ·exact s.ro id e he
 refine ⟨⟨⟨?_,?_,?_,?_,?_⟩,hro⟩,hle,Ext.push1 _ _⟩
 ·intro id e he
  rcases hcase id e he with ⟨rfl,_⟩ | ⟨_,he⟩
  ·exact Nat.lt_succ_self _
  ·exact Nat.lt_succ_of_lt (s.sim.lt id e he)
 ·intro id e he
  rcases hcase id e he with ⟨_,rfl⟩ | ⟨_,he⟩
  ·exact hbl
  ·exact s.sim.blk id e he
 ·intro id e he
  rcases hcase id e he with ⟨rfl,rfl⟩ | ⟨_,he⟩
  ·refine ⟨_,Zz _ _,rfl,rfl,cur,ty,fz,hb,fun i v hv=>?_,fun hh=>by cases hh⟩
   obtain ⟨v',a,r⟩:=hc i v hv
   exact ⟨v',a,r.mono hle⟩
  ·obtain ⟨o,a,r⟩:=s.sim.obj id e he
   exact ⟨o,(ZU _ _ (s.sim.lt id e he)).trans a,r.mono hle rfl⟩
 ·intro id id' e e' he he' _ _
  exact .inr (.inr ⟨hro _ _ he,hro _ _ he'⟩)
 ·intro g hg
  obtain ⟨e,a,r⟩:=s.sim.glob g hg
  exact ⟨e,hle _ _ a,r⟩
structure Lays {α:Type} (P:Program) (t:TypeId) (R:Rep α) (B:α→Nat):Prop where
 size:P.cellsOf t=R.z
 lay:∀ {H:Type} (enc:TypeId × Value→H) (W:World) (n:Nat) (cs:List Value) (x:DataW H × List MemPlace),DataW.trod enc P W 0 (fun _=>true) true n t cs=some x→BlkOf W cs→∀ (ι:Inj) (h:DHeap),Rds ι h W →
  ∃ ι' h' cs0 y,Rds ι' h' W∧ι.le ι'∧Ext h h'∧LRel ι' cs0 cs∧R.rd (fun i=>i<h'.next) h' cs0 y∧B y≤Rows.uptoBulk x.1
 stay:∀ {H:Type} (enc:TypeId × Value→H) (W W':World) (n:Nat) (cs:List Value) (x:DataW H × List MemPlace) (sp:Nat→Bool),DataW.trod enc P W 0 (fun _=>true) true n t cs=some x→(∀ p∈x.2,W.sameAt W' p)→(∀ p∈x.2,sp p.block=true) →
  DataW.trod enc P W' 0 sp true n t cs=some x
theorem Rows.one_le {H:Type} (d:DataW H):1≤Rows.uptoBulk d:=by
 cases d with
 | lit l=>cases l <;> simp[Rows.uptoBulk]
 | nil=>simp[Rows.uptoBulk]
 | ptr d=>simp[Rows.uptoBulk]
 | slice elems spare=>simp[Rows.uptoBulk]
 | agg parts=>simp[Rows.uptoBulk]
 | iface t d=>simp[Rows.uptoBulk]
 | map entries=>simp[Rows.uptoBulk]
 | held h=>simp[Rows.uptoBulk]
theorem F1e {k:IntKind} {n:Int} (h:(Lit.int k n).wf=true):inK k n:=by
 simpa [Lit.wf,inK] using h
theorem U7a {H:Type} {enc:TypeId × Value→H} {W:World} {base:Nat} {sp:Nat→Bool} {hd:Bool} {n:Nat} {t:TypeId} {cs:List Value} {x:DataW H × List MemPlace} (h:DataW.trod enc P W base sp hd n t cs=some x):∃ m,n=m+1:=by
 cases n with
 | zero=>simp[DataW.trod]at h
 | succ m=>exact ⟨m,rfl⟩
theorem Lays.int {t:TypeId} {k:IntKind} (hu:P.underlying t=some (.int k)) (hz:P.cellsOf t=1):Lays P t (fI k).rep (fun _=>1) where
 size:=hz
 lay enc W n cs x h _ ι hh s:=by
  obtain ⟨m,rfl,rfl,hw⟩:=DataW.trod_int hu h
  exact ⟨ι,hh,[.int k m],m,s,Inj.le_refl _,.refl _,(LRel.nil ι).cons (.int _ _),⟨rfl,F1e hw⟩,Rows.one_le _⟩
 stay enc W W' n cs x sp h _ _:=by
  obtain ⟨m,rfl⟩:=U7a h
  obtain ⟨i,rfl,rfl,hw⟩:=DataW.trod_int hu h
  simp only[DataW.trod,hu]
  rw[if_pos (by simpa using hw)]
theorem Lays.bool {t:TypeId} (hu:P.underlying t=some .bool) (hz:P.cellsOf t=1):Lays P t fB.rep (fun _=>1) where
 size:=hz
 lay enc W n cs x h _ ι hh s:=by
  obtain ⟨m,rfl,rfl⟩:=DataW.trod_bool hu h
  exact ⟨ι,hh,[.bool m],m,s,Inj.le_refl _,.refl _,(LRel.nil ι).cons (.bool _),⟨rfl,trivial⟩,Rows.one_le _⟩
 stay enc W W' n cs x sp h _ _:=by
  obtain ⟨m,rfl⟩:=U7a h
  obtain ⟨i,rfl,rfl⟩:=DataW.trod_bool hu h
  simp only[DataW.trod,hu]
theorem Lays.conv {α β:Type} {t:TypeId} {R:Rep α} {B:α→Nat} {Q:Rep β} {C:β→Nat} (a:Lays P t R B) (hz:R.z=Q.z) (f:α→β) (hf:∀ S h cs x,R.rd S h cs x→Q.rd S h cs (f x)) (hC:∀ x,C (f x)≤B x):Lays P t Q C where
 size:=a.size.trans hz
 lay enc W n cs x h b ι hh s:=by
  obtain ⟨ι',h',cs0,y,g1,g2,g3,g4,g5,g6⟩:=a.lay enc W n cs x h b ι hh s
  exact ⟨ι',h',cs0,f y,g1,g2,g3,g4,hf _ _ _ _ g5,Nat.le_trans (hC y) g6⟩
 stay:=a.stay
inductive Flds (P:Program):{α:Type}→Nat→List Field→Rep α→(α→Nat)→Prop
 | one {α:Type} {off:Nat} {f:Field} {R:Rep α} {B:α→Nat} (ho:f.offset=off) (hl:Lays P f.type R B):Flds P off [f] R B
 | cons {α β:Type} {off:Nat} {f:Field} {fs:List Field} {R:Rep α} {B:α→Nat} {Q:Rep β} {C:β→Nat} (ho:f.offset=off) (hl:Lays P f.type R B) (hr:Flds P (off+R.z) fs Q C):Flds P off (f :: fs) (rP R Q) (fun x=>B x.1+C x.2)
theorem K2c {α:Type} (R:Rep α) {h h':DHeap} {cs:List Value} {x:α} (a:R.rd (fun i=>i<h.next) h cs x) (e:Ext h h'):R.rd (fun i=>i<h'.next) h' cs x:=R.mono a fun i hi=>⟨Nat.lt_of_lt_of_le hi e.next,e.get i hi⟩
theorem Flds.lay {α:Type} {off:Nat} {fs:List Field} {R:Rep α} {B:α→Nat} (a:Flds P off fs R B):∀ {H:Type} (enc:TypeId × Value→H) (W:World) (n:Nat) (cs:List Value) (xs:List (DataW H × List MemPlace)),xs.length=fs.length →
 (∀ (i:Nat) (f:Field),fs[i]? = some f→DataW.trod enc P W 0 (fun _=>true) true n f.type ((cs.drop f.offset).take (P.cellsOf f.type))=xs[i]?)→BlkOf W cs→∀ (ι:Inj) (h:DHeap),Rds ι h W →
 ∃ ι' h' cs0 y,Rds ι' h' W∧ι.le ι'∧Ext h h'∧LRel ι' cs0 ((cs.drop off).take R.z)∧R.rd (fun i=>i<h'.next) h' cs0 y∧B y≤Rows.uptoBulkAll (xs.map (·.1)):=by
 induction a with
 | @one α off f R B ho hl=>
   intro H enc W n cs xs hlen hx b ι h s
   match xs,hlen with
   | [x],_=>
     have:=hx 0 f rfl
     obtain ⟨ι',h',cs0,y,g1,g2,g3,g4,g5,g6⟩:=hl.lay enc W n _ x this (b.sub fun v hv=>List.mem_of_mem_drop (List.mem_of_mem_take hv)) ι h s
     rw[hl.size,ho]at g4
     exact ⟨ι',h',cs0,y,g1,g2,g3,g4,g5,by simp[Rows.uptoBulkAll];exact g6⟩
 | @cons α β off f fs R B Q C ho hl hr ih=>
   intro H enc W n cs xs hlen hx b ι h s
   match xs,hlen with
   | x :: xs,hlen=>
     have h0:=hx 0 f rfl
     obtain ⟨ι1,h1,c1,y1,g1,g2,g3,g4,g5,g6⟩:=hl.lay enc W n _ x h0 (b.sub fun v hv=>List.mem_of_mem_drop (List.mem_of_mem_take hv)) ι h s
     rw[hl.size,ho]at g4
     obtain ⟨ι2,h2,c2,y2,k1,k2,k3,k4,k5,k6⟩:=ih enc W n cs xs (by simpa using hlen) (fun i f hf=>by simpa using hx (i+1) f (by simpa using hf)) b ι1 h1 g1
     refine ⟨ι2,h2,c1++c2,(y1,y2),k1,Inj.le_trans g2 k2,g3.trans k3,?_,⟨c1,c2,rfl,K2c R g5 k3,k5⟩,?_⟩
     ·have:=(g4.mono k2).append k4
      have e:(cs.drop off).take (rP R Q).z=(cs.drop off).take R.z++(cs.drop (off+R.z)).take Q.z:=by
       show (cs.drop off).take (R.z+Q.z)=_
       rw[List.take_add,List.drop_drop]
      rw[e];exact this
     ·simp only[List.map_cons,Rows.uptoBulkAll];omega
theorem Flds.stay {α:Type} {off:Nat} {fs:List Field} {R:Rep α} {B:α→Nat} (a:Flds P off fs R B):∀ {H:Type} (enc:TypeId × Value→H) (W W':World) (n:Nat) (cs:List Value) (sp:Nat→Bool) (f:Field) (x:DataW H × List MemPlace),f∈fs →
 DataW.trod enc P W 0 (fun _=>true) true n f.type ((cs.drop f.offset).take (P.cellsOf f.type))=some x→(∀ p∈x.2,W.sameAt W' p)→(∀ p∈x.2,sp p.block=true)→DataW.trod enc P W' 0 sp true n f.type ((cs.drop f.offset).take (P.cellsOf f.type))=some x:=by
 induction a with
 | one ho hl=>
   intro H enc W W' n cs sp f x hf h1 h2 h3
   simp only[List.mem_singleton]at hf
   subst hf
   exact hl.stay enc W W' n _ x sp h1 h2 h3
 | cons ho hl hr ih=>
   intro H enc W W' n cs sp f x hf h1 h2 h3
   rcases List.mem_cons.1 hf with rfl | hf
   ·exact hl.stay enc W W' n _ x sp h1 h2 h3
   ·exact ih enc W W' n cs sp f x hf h1 h2 h3
theorem Lays.struct {α:Type} {t:TypeId} {fs:Array Field} {R:Rep α} {B:α→Nat} (hu:P.underlying t=some (.struct fs)) (hz:P.cellsOf t=R.z) (a:Flds P 0 fs.toList R B):Lays P t R B where
 size:=hz
 lay enc W n cs x h b ι hh s:=by
  obtain ⟨xs,m,rfl,rfl,hl,hxl,hx⟩:=DataW.trod_struct hu h
  obtain ⟨ι',h',cs0,y,g1,g2,g3,g4,g5,g6⟩:=a.lay enc W m cs xs (by simpa using hxl) (fun i f hf=>hx i f (by simpa using hf)) b ι hh s
  refine ⟨ι',h',cs0,y,g1,g2,g3,?_,g5,?_⟩
  ·rw[List.drop_zero,List.take_of_length_le (by omega)]at g4;exact g4
  ·simp only[Rows.uptoBulk];omega
 stay enc W W' n cs x sp h h2 h3:=by
  obtain ⟨m,rfl⟩:=U7a h
  simp only[DataW.trod,hu]at h ⊢
  split at h
  ·rename_i hl
   rw[if_pos hl]
   simp only[Option.map_eq_some_iff]at h ⊢
   obtain ⟨xs,hm,rfl⟩:=h
   exact ⟨xs,mapM_carry hm (fun f y hf hy hv=>a.stay enc W W' m cs sp f y hf hv (fun p hp=>h2 p (List.mem_flatMap.2 ⟨y,hy,hp⟩)) (fun p hp=>h3 p (List.mem_flatMap.2 ⟨y,hy,hp⟩))),rfl⟩
  ·cases h
theorem Q9c (a:Addr) (i j:Nat):((a.add i).add j).block=a.block∧((a.add i).add j).off=a.off+(i+j):=by
 unfold Addr.add
 split <;> split <;> simp_all [Nat.add_assoc]
theorem l7b {W:World} {a:Addr} {v:Value} (h:W.cell? a=some v):a.spot=none∧∃ cur ty fz,W.heap[a.block]? = some (.cells cur ty fz)∧cur[a.off]? = some v:=by
 unfold World.cell? at h
 split at h
 ·rename_i c ty fz e
  split at h
  ·cases h
  ·rename_i hs
   exact ⟨by simpa using hs,c,ty,fz,e,h⟩
 ·cases h
theorem k8a {W:World} {base:Nat} {a:Addr} {n:Nat} {cs:List Value} (h:W.cells? base a n=some cs):cs.length=n∧∀ j,j<n→W.cell? (a.add j)=cs[j]?:=by
 unfold World.cells? at h
 split at h
 ·refine ⟨by simpa using mapM_some_length h,fun j hj=>?_⟩
  exact mapM_some_get h j j (by simp[hj])
 ·cases h
def w1a {α:Type} (B:α→Nat):List α→Nat
 | []=>0
 | x :: l=>max 1 (B x)+w1a B l
theorem T6b {α:Type} (B:α→Nat) (l k:List α):w1a B (l++k)=w1a B l+w1a B k:=by
 induction l with
 | nil=>simp[w1a]
 | cons x l ih=>simp only[List.cons_append,w1a,ih];omega
theorem S7a {α:Type} (B:α→Nat) (l:List α):l.length≤w1a B l:=by
 induction l with
 | nil=>simp
 | cons x l ih=>simp only[List.length_cons,w1a];omega
theorem g6b {H:Type} (l r:List (DataW H)):Rows.uptoBulkAll (l++r)=Rows.uptoBulkAll l+Rows.uptoBulkAll r:=by
 induction l with
 | nil=>simp[Rows.uptoBulkAll]
 | cons x l ih=>simp only[List.cons_append,Rows.uptoBulkAll,ih];omega
theorem Lays.elems {α:Type} {e:TypeId} {R:Rep α} {B:α→Nat} (a:Lays P e R B) {H:Type} (enc:TypeId × Value→H) (W:World) (m:Nat) (ad:Addr) (elems:List (DataW H × List MemPlace))
 (he:∀ i,i<elems.length→(W.cells? 0 (ad.add (i*P.cellsOf e)) (P.cellsOf e)).bind (DataW.trod enc P W 0 (fun _=>true) true m e)=elems[i]?) (b:Blk W) (ι:Inj) (h:DHeap) (s:Rds ι h W):∀ k,k≤elems.length →
 ∃ ι' h' cells ys,Rds ι' h' W∧ι.le ι'∧Ext h h'∧ys.length=k∧Els R (fun i=>i<h'.next) h' cells ys∧(∀ (i:Nat) v,cells[i]? = some v→∃ v' cur ty fz,W.heap[ad.block]? = some (.cells cur ty fz)∧cur[ad.off+i]? = some v'∧VRel ι' v v') ∧
  w1a B ys≤Rows.uptoBulkAll ((elems.take k).map (·.1)):=by
 intro k
 induction k with
 | zero=>exact fun _=>⟨ι,h,[],[],s,Inj.le_refl _,.refl _,rfl,rfl,fun i v hv=>by simp at hv,by simp[w1a]⟩
 | succ k ih=>
   intro hk
   obtain ⟨ι1,h1,c1,ys,g1,g2,g3,g4,g5,g6,g7⟩:=ih (by omega)
   have hlt:k<elems.length:=by omega
   have h0:=he k hlt
   rw[List.getElem?_eq_getElem hlt,Option.bind_eq_some_iff]at h0
   obtain ⟨cs,hc,ht⟩:=h0
   obtain ⟨hcl,hcg⟩:=k8a hc
   obtain ⟨ι2,h2,c2,y,k1,k2,k3,k4,k5,k6⟩:=a.lay enc W m cs _ ht (.of b _) ι1 h1 g1
   have hl1:c1.length=k*R.z:=by rw[g5.len,g4]
   have hl2:c2.length=R.z:=R.len k5
   refine ⟨ι2,h2,c1++c2,ys++[y],k1,Inj.le_trans g2 k2,g3.trans k3,by simp[g4],Els.append (g5.mono fun i hi=>⟨Nat.lt_of_lt_of_le hi k3.next,k3.get i hi⟩) (.single k5),fun i v hv=>?_,?_⟩
   ·rw[List.getElem?_append]at hv
    split at hv
    ·obtain ⟨v',cur,ty,fz,x1,x2,x3⟩:=g6 i v hv
     exact ⟨v',cur,ty,fz,x1,x2,x3.mono k2⟩
    ·rename_i hi
     have hj:i - c1.length<c2.length:=(List.getElem?_eq_some_iff.1 hv).1
     obtain ⟨v',hv',hr⟩:=k4.get hv
     have hj':i - c1.length<P.cellsOf e:=by rw[a.size];omega
     have hcell:=hcg (i - c1.length) hj'
     rw[hv']at hcell
     obtain ⟨_,cur,ty,fz,x1,x2⟩:=l7b hcell
     obtain ⟨y1,y2⟩:=Q9c ad (k*P.cellsOf e) (i - c1.length)
     rw[y1]at x1
     rw[y2,a.size,hl1]at x2
     exact ⟨v',cur,ty,fz,x1,by rw[show ad.off+(k*R.z+(i - k*R.z))=ad.off+i by omega]at x2;exact x2,hr⟩
   ·rw[T6b,List.take_add_one,List.getElem?_eq_getElem hlt]
    simp only[List.map_append,g6b,Option.toList_some,List.map_cons,List.map_nil,Rows.uptoBulkAll,w1a]
    have:=Rows.one_le elems[k].1
    omega
theorem Lays.slice {α:Type} {t e:TypeId} {R:Rep α} {B:α→Nat} (hu:P.underlying t=some (.slice e)) (hz:P.cellsOf t=1) (hp:0<R.z) (a:Lays P e R B):Lays P t (rSl R) (w1a B) where
 size:=hz
 lay enc W n cs x h b ι hh s:=by
  rcases DataW.trod_slice hu h with ⟨rfl,rfl⟩ | ⟨ad,len,cap,elems,rest,m,rfl,rfl,rfl,hb0,hlc,hcm,hel,he,hs,_⟩
  ·exact ⟨ι,hh,[.slice none 0 0],[],s,Inj.le_refl _,.refl _,(LRel.nil ι).cons .snil,⟨_,rfl,Sl.nil _ _ _⟩,Nat.zero_le _⟩
  ·replace b:Blk W:=b ad len cap (by simp)
   obtain ⟨hrl,hr⟩:=hs rfl
   obtain ⟨ι1,h1,cells,ys,g1,g2,g3,g4,g5,g6,g7⟩:=a.elems enc W m ad elems (fun i hi=>he i (by omega)) b ι hh s elems.length (Nat.le_refl _)
   have hcl:cells.length=len*R.z:=by rw[g5.len,g4,hel]
   rw[List.take_length]at g7
   have hblk:∃ bb sh cur ty fz,W.heap[bb]? = some (.cells cur ty fz)∧(0<cap→ad=⟨bb,sh,none⟩)∧∀ (i:Nat) v,cells[i]? = some v→∃ v',cur[sh+i]? = some v'∧VRel ι1 v v':=by
    by_cases hc0:cap=0
    ·obtain ⟨bb,cur,ty,fz,e1⟩:=b
     refine ⟨bb,0,cur,ty,fz,e1,fun hh=>by omega,fun i v hv=>?_⟩
     have:=(List.getElem?_eq_some_iff.1 hv).1
     rw[hcl,show len=0 by omega]at this
     omega
    ·have h0:∃ v,W.cell? ((ad.add 0).add 0)=some v:=by
      by_cases hl0:len=0
      ·have hx:=hr 0 (by omega)
       rw[List.getElem?_eq_getElem (by omega),Option.bind_eq_some_iff]at hx
       obtain ⟨cs',hc',_⟩:=hx
       obtain ⟨q1,q2⟩:=k8a hc'
       have:=q2 0 (by rw[a.size];exact hp)
       rw[hl0,Nat.zero_add,Nat.zero_mul,List.getElem?_eq_getElem (by rw[q1,a.size];exact hp)]at this
       exact ⟨_,this⟩
      ·have hx:=he 0 (by omega)
       rw[List.getElem?_eq_getElem (by omega),Option.bind_eq_some_iff]at hx
       obtain ⟨cs',hc',_⟩:=hx
       obtain ⟨q1,q2⟩:=k8a hc'
       have:=q2 0 (by rw[a.size];exact hp)
       rw[Nat.zero_mul,List.getElem?_eq_getElem (by rw[q1,a.size];exact hp)]at this
       exact ⟨_,this⟩
     obtain ⟨v0,hv0⟩:=h0
     have hadd:(ad.add 0).add 0=ad:=by simp[Addr.add]
     rw[hadd]at hv0
     obtain ⟨hsp,cur,ty,fz,e1,_⟩:=l7b hv0
     refine ⟨ad.block,ad.off,cur,ty,fz,e1,fun _=>by cases ad;simp_all,fun i v hv=>?_⟩
     obtain ⟨v',cur',ty',fz',x1,x2,x3⟩:=g6 i v hv
     rw[e1]at x1
     cases x1
     exact ⟨v',x2,x3⟩
   obtain ⟨bb,sh,cur,ty,fz,e1,e2,e3⟩:=hblk
   obtain ⟨k1,k2,k3⟩:=g1.push e1 sh R.z e3
   refine ⟨_,_,[.slice (some ⟨h1.next,0,none⟩) ys.length cap],ys,k1,Inj.le_trans g2 k2,g3.trans k3,(LRel.nil _).cons ?_,⟨_,rfl,.inr ⟨h1.next,0,cap,cells,R.z,true,rfl,Nat.lt_succ_self _,Zz _ _,.inl rfl,?_,?_⟩⟩,?_⟩
   ·rw[show len=ys.length by omega]
    exact .slice (Inj.upd_same _ _ _) (by omega) (fun h=>h) (fun hc=>e2 hc) (fun hh=>by cases hh)
   ·rw[hcl,g4,hel];omega
   ·rw[List.drop_zero,List.take_of_length_le (by rw[hcl,g4,hel];exact Nat.le_refl _)]
    exact g5.mono fun i hi=>⟨Nat.lt_of_lt_of_le hi k3.next,k3.get i hi⟩
   ·simp only[Rows.uptoBulk];omega
 stay enc W W' n cs x sp h h2 h3:=by
  obtain ⟨m,rfl⟩:=U7a h
  rcases DataW.trod_slice hu h with ⟨rfl,rfl⟩ | ⟨ad,len,cap,_,_,_,_,rfl,_⟩
  ·simp only[DataW.trod,hu]
  ·simp only[DataW.trod,hu,if_true]at h ⊢
   split at h
   ·rename_i hc
    rw[if_pos hc]
    simp only[Option.map_eq_some_iff,Option.bind_eq_some_iff]at h ⊢
    obtain ⟨elems,he,rest,hrest,rfl⟩:=h
    have hlen:elems.length=len:=by simpa using mapM_some_length he
    have hrl:rest.length=cap - len:=by simpa using mapM_some_length hrest
    have one:∀ (i:Nat) (y:DataW _ × List MemPlace),i<elems.length+rest.length→y∈elems++rest →
     (W.cells? 0 (ad.add (i*P.cellsOf e)) (P.cellsOf e)).bind (DataW.trod enc P W 0 (fun _=>true) true m e)=some y→(W'.cells? 0 (ad.add (i*P.cellsOf e)) (P.cellsOf e)).bind (DataW.trod enc P W' 0 sp true m e)=some y:=by
     intro i y hi hy hv
     simp only[Option.bind_eq_some_iff]at hv ⊢
     obtain ⟨cs',hc',hy'⟩:=hv
     have hm:∀ p∈y.2,p∈(elems++rest).flatMap (·.2):=fun p hp=>List.mem_flatMap.2 ⟨y,hy,hp⟩
     refine ⟨cs',World.cells?_carry hc' (fun p hp=>h2 p ?_),a.stay enc W W' m cs' y sp hy' (fun p hp=>h2 p (List.mem_append_right _ (hm p hp))) (fun p hp=>h3 p (List.mem_append_right _ (hm p hp)))⟩
     obtain ⟨j,hj,rfl⟩:=MemPlace.mem_row.1 hp
     refine List.mem_append_left _ (MemPlace.mem_row.2 ⟨i*P.cellsOf e+j,?_,?_⟩)
     ·calc i*P.cellsOf e+j<i*P.cellsOf e+P.cellsOf e:=by omega
       _=(i+1)*P.cellsOf e:=by rw[Nat.add_mul,Nat.one_mul]
       _≤(elems.length+rest.length)*P.cellsOf e:=Nat.mul_le_mul_right _ hi
     ·unfold Addr.add
      split
      ·rename_i h0
       simp[h0]
      ·simp[Nat.add_assoc]
    refine ⟨elems,mapM_carry he (fun i y hi hy=>one i y (by have:i<len:=(by simpa using hi);omega) (by simp[hy])),rest,?_,rfl⟩
    by_cases hc0:cap - len=0
    ·have hr0:rest=[]:=List.eq_nil_of_length_eq_zero (by omega)
     rw[hr0,hc0]
     split <;> rfl
    ·have hsp:sp ad.block=true:=by
      have:MemPlace.cell ad.block (ad.off+0)∈MemPlace.row ad ((elems.length+rest.length)*P.cellsOf e):=MemPlace.mem_row.2 ⟨0,by
       rw[a.size]
       exact Nat.mul_pos (by omega) hp,rfl⟩
      exact h3 _ (List.mem_append_left _ this)
     rw[if_pos hsp]
     exact mapM_carry hrest (fun j y hj hy=>one (len+j) y (by have:j<cap - len:=(by simpa using hj);omega) (by simp[hy]))
   ·cases h
end Go.D
namespace Go.D
open Go.Proofs.YtheamfnbfgiaeaaGreat (Rows.uptoBulk Rows.uptoBulkAll Rows.uptoSmall)
open Go.ChangeShapes Go.RowKit
variable {P:Program}
def z3c (agg:Bool) (cs:List Value):Value:=if agg then .agg cs.toArray else cs.headD undef
def W1b:TypeDesc→Bool
 | .int _ | .bool | .slice _=>true
 | _=>false
def Par (P:Program) (t:TypeId) (agg:Bool):Prop:=if agg then ∃ fs,P.underlying t=some (.struct fs) else ∃ d,P.underlying t=some d∧W1b d=true
theorem y1d {W:World} {base:Nat} {a:Addr} {e:TypeId} {n:Nat} (h:W.has P .any base a e n):Blk W:=by
 obtain ⟨_,_,row,cells,hs,_⟩:=h
 unfold World.shape? at hs
 split at hs
 ·rename_i c elem fz e
  exact ⟨_,_,_,_,e⟩
 ·cases hs
theorem a1b {W:World} {base:Nat} {t:TypeId} {a:Addr} {len cap:Nat} (h:Cell.okWide P W .any base t (.slice (some a) len cap)):Blk W:=by
 unfold Cell.okWide at h
 split at h <;> try simp_all
 unfold Cell.ok at h
 split at h <;> try simp_all
 exact y1d h.2.2
theorem p6d {W:World} {base:Nat} {t:TypeId} {v:Value} (h:Value.okWide P W .any base t v):BlkOf W v.cells.toList:=by
 intro a len cap hm
 unfold Value.okWide at h
 have one:Cell.okWide P W .any base t v→Blk W:=fun hc=>by
  have hv:v.cells=#[v]∨(∃ cs,v=.agg cs)∨(∃ cs,v=.tuple cs):=by
   cases v <;> first | exact .inl rfl | exact .inr (.inl ⟨_,rfl⟩) | exact .inr (.inr ⟨_,rfl⟩)
  rcases hv with hv | ⟨cs,rfl⟩ | ⟨cs,rfl⟩
  ·rw[hv]at hm
   simp only[List.mem_singleton]at hm
   subst hm
   exact a1b hc
  ·exfalso
   unfold Cell.okWide at hc
   split at hc <;> simp_all
   unfold Cell.ok at hc
   split at hc <;> simp_all
  ·exfalso
   unfold Cell.okWide at hc
   split at hc <;> simp_all
   unfold Cell.ok at hc
   split at hc <;> simp_all
 have agg:(∃ cs,v=.agg cs∧cs.size=P.cellsOf t∧Row.okWide P W .any base t cs)→Blk W:=fun ⟨cs,e,_,ts,_,_,hr⟩=>by
  subst e
  obtain ⟨i,hi⟩:=List.mem_iff_getElem?.1 hm
  obtain ⟨u,_,hu⟩:=hr i _ (by simpa [Value.cells] using hi)
  exact a1b hu
 split at h
 ·exact agg h
 ·exact agg h
 ·exact one h
theorem Lays.arg {α:Type} {t:TypeId} {R:Rep α} {B:α→Nat} {agg:Bool} (hp:Par P t agg) (a:Lays P t R B) {H:Type} {enc:TypeId × Value→H} {W:World} {base:Nat} {v:Value} {d:DataW H} {ps:List MemPlace}
 (ht:DataW.Trod enc P W 0 (fun _=>true) true t v d ps) (hv:Value.okWide P W .any base t v) {ι:Inj} {h:DHeap} (s:Rds ι h W) :
 ∃ ι' h' cs0 y,Rds ι' h' W∧ι.le ι'∧Ext h h'∧VRel ι' (z3c agg cs0) v∧R.rd (fun i=>i<h'.next) h' cs0 y∧B y≤Rows.uptoBulk d:=by
 obtain ⟨n,hn⟩:=ht
 obtain ⟨ι',h',cs0,y,g1,g2,g3,g4,g5,g6⟩:=a.lay enc W n _ _ hn (p6d hv) ι h s
 refine ⟨ι',h',cs0,y,g1,g2,g3,?_,g5,g6⟩
 unfold Par at hp
 unfold Value.okWide at hv
 cases agg with
 | true=>
   obtain ⟨fs,hu⟩:=hp
   rw[hu]at hv
   obtain ⟨cs,rfl,_⟩:=hv
   obtain ⟨x1,x2⟩:=g4
   exact .agg (by simpa [Value.cells] using x1) (fun i v v' a b=>x2 i v v' (by simpa using a) (by simpa [Value.cells] using b))
 | false=>
   obtain ⟨de,hu,ho⟩:=hp
   have hc:Cell.okWide P W .any base t v:=by
    rw[hu]at hv
    cases de <;> first | exact hv | simp[W1b]at ho
   have h1:v.cells=#[v]:=by
    cases v <;> first | rfl | (exfalso;unfold Cell.okWide at hc;rw[hu]at hc;cases de <;> simp[W1b,Cell.ok,hu]at ho hc)
   rw[h1]at g4
   obtain ⟨x1,x2⟩:=g4
   match cs0,x1 with
   | [c],_=>exact x2 0 c v rfl rfl
inductive Pars (P:Program):{α:Type}→List TypeId→((Nat→Prop)→DHeap→List Value→α→Prop)→(α→Nat)→Prop
 | nil:Pars P [] (fun _ _ vs (_:Unit)=>vs=[]) (fun _=>0)
 | cons {α β:Type} {t:TypeId} {ts:List TypeId} {agg:Bool} {R:Rep α} {B:α→Nat} {Q:(Nat→Prop)→DHeap→List Value→β→Prop} {C:β→Nat} (hp:Par P t agg) (hl:Lays P t R B) (hr:Pars P ts Q C) :
    Pars P (t :: ts) (fun S h vs (x:α × β)=>∃ cs vs',vs=z3c agg cs :: vs'∧R.rd S h cs x.1∧Q S h vs' x.2) (fun x=>B x.1+C x.2)
theorem Pars.lay {α:Type} {ts:List TypeId} {Q:(Nat→Prop)→DHeap→List Value→α→Prop} {B:α→Nat} (a:Pars P ts Q B):∀ {H:Type} {enc:TypeId × Value→H} {W:World} {base:Nat} {vs:List Value} {ds:List (DataW H)} {ps:List MemPlace},
 DataW.TrodAll enc P W 0 (fun _=>true) true ts vs ds ps→(∀ (j:Nat) t v,ts[j]? = some t→vs[j]? = some v→Value.okWide P W .any base t v)→∀ {ι:Inj} {h:DHeap},Rds ι h W →
 ∃ ι' h' vs0 y,Rds ι' h' W∧ι.le ι'∧Ext h h'∧LRel ι' vs0 vs∧(∀ h1,Ext h' h1→Q (fun i=>i<h1.next) h1 vs0 y)∧B y≤Rows.uptoBulkAll ds:=by
 induction a with
 | nil=>
   intro H enc W base vs ds ps ht hv ι h s
   obtain ⟨rfl,rfl,rfl⟩:=trodAll_nil ht
   exact ⟨ι,h,[],(),s,Inj.le_refl _,.refl _,LRel.nil _,fun _ _=>rfl,Nat.le_refl _⟩
 | cons hp hl hr ih=>
   intro H enc W base vs ds ps ht hv ι h s
   obtain ⟨v,vs,d,ds,p,q,rfl,rfl,rfl,t1,t2⟩:=trodAll_cons ht
   obtain ⟨ι1,h1,cs,y,g1,g2,g3,g4,g5,g6⟩:=hl.arg hp t1 (hv 0 _ _ rfl rfl) s
   obtain ⟨ι2,h2,vs0,z,k1,k2,k3,k4,k5,k6⟩:=ih t2 (fun j t v a b=>hv (j+1) t v a b) g1
   exact ⟨ι2,h2,z3c _ cs :: vs0,(y,z),k1,Inj.le_trans g2 k2,g3.trans k3,LRel.cons (g4.mono k2) k4,fun h3 e=>⟨cs,vs0,rfl,K2c _ g5 (k3.trans e),k5 h3 e⟩,by simp only[Rows.uptoBulkAll];omega⟩
theorem Pars.stay {α:Type} {ts:List TypeId} {Q:(Nat→Prop)→DHeap→List Value→α→Prop} {B:α→Nat} (a:Pars P ts Q B):∀ {H:Type} {enc:TypeId × Value→H} {W W':World} {sp:Nat→Bool} {vs:List Value} {ds:List (DataW H)} {ps:List MemPlace},
 DataW.TrodAll enc P W 0 (fun _=>true) true ts vs ds ps→(∀ p∈ps,W.sameAt W' p)→(∀ p∈ps,sp p.block=true)→DataW.TrodAll enc P W' 0 sp true ts vs ds ps:=by
 induction a with
 | nil=>
   intro H enc W W' sp vs ds ps ht _ _
   obtain ⟨rfl,rfl,rfl⟩:=trodAll_nil ht
   rfl
 | cons hp hl hr ih=>
   intro H enc W W' sp vs ds ps ht h2 h3
   obtain ⟨v,vs,d,ds,p,q,rfl,rfl,rfl,⟨n,t1⟩,t2⟩:=trodAll_cons ht
   exact ⟨p,q,⟨n,hl.stay enc W W' n _ _ sp t1 (fun x hx=>h2 x (List.mem_append_left _ hx)) (fun x hx=>h3 x (List.mem_append_left _ hx))⟩,ih t2 (fun x hx=>h2 x (List.mem_append_right _ hx)) (fun x hx=>h3 x (List.mem_append_right _ hx)),rfl⟩
section
variable {H:Type} {enc:TypeId × Value→H}
theorem y5b {f:Func} {s:ChangeSpec} {apart fresh handsOn again:Bool} {W W':World} {args:Array Value} {v:Value} {ds gs:List (DataW H)} {before pa pv:List MemPlace}
 (hW:DataW.Whole enc P f.params.toList s.vars apart W args.toList ds gs before)
 (hres:∀ (b:Nat) (sp:Nat→Bool) (hd:Bool),DataW.TrodAll enc P W' b sp hd f.resultTypes.toList (v.resultList f.resultTypes.size) (s.fn H (ds++gs)).results [])
 (hargs:∀ sp:Nat→Bool,(∀ p∈before,sp p.block=true)→DataW.TrodAll enc P W' 0 sp true f.params.toList args.toList (s.fn H (ds++gs)).args pa)
 (hvars:∀ sp:Nat→Bool,(∀ p∈before,sp p.block=true)→DataW.TrodVars enc P W' sp s.vars (s.fn H (ds++gs)).vars pv)
 (hps:before=pa++pv) (hos:W'.os=W.os) (hout:W'.output=W.output) (hk:∀ b,b<W.heap.size→W'.heap[b]? = W.heap[b]?)
 (hok:∀ (j:Nat) (t:TypeId) (r:Value),f.resultTypes[j]? = some t→(v.resultList f.resultTypes.size)[j]? = some r→Value.okWide P W' .any 0 t r) :
 s.post enc P f apart fresh handsOn again W args v W':=by
 have hlt:=hW.lt
 have hold:∀ p∈before,(fun b=>decide (b<W.heap.size)) p.block=true:=fun p hp=>by simpa using hlt p hp
 have hkept:∀ may,W.keptBut W' may:=fun may=>⟨hos,hout,fun i hi=>by
  rw[hk i hi]
  exact (World.keptBut_refl W may).2.2 i hi⟩
 refine ⟨ds,gs,before,[],pa,pv,hW,hres _ _ _,hargs _ hold,hvars _ hold,hkept _,fun _=>?_⟩
 ·obtain ⟨_,_,_,_,_,hz,hn⟩:=hW
  refine ⟨hok,_,_,([]++pa)++pv,⟨[]++pa,pv,trodAll_append (hargs _ (fun _ _=>rfl)) (hres _ _ _),hvars _ (fun _ _=>rfl),rfl,?_,?_⟩,?_⟩
  ·intro b off hp
   have hp':MemPlace.cell b off∈before:=by rw[hps];simpa using hp
   have:W'.frozen? ⟨b,off,none⟩=W.frozen? ⟨b,off,none⟩:=by
    simp only[World.frozen?]
    rw[hk b (hlt _ hp')]
   rw[this]
   exact hz b off hp'
  ·intro ha
   have:=hn ha
   rw[hps]at this
   simpa using this
  ·intro p hp _
   rw[hps]
   simpa using hp
theorem M5b {W:World} {sp:Nat→Bool} {gs:List (DataW H)} {q:List MemPlace} (h:DataW.TrodVars enc P W sp [] gs q):gs=[]∧q=[]:=by
 cases gs with
 | nil=>exact ⟨rfl,h⟩
 | cons=>exact h.elim
theorem n5c {α:Type} {f:FuncId} {fn:Func} {ts:List TypeId} {Q:(Nat→Prop)→DHeap→List Value→α→Prop} {B:α→Nat} {tb:TypeId} {s:ChangeSpec} {apart fresh handsOn again:Bool} (hts:fn.params.toList=ts) (pars:Pars P ts Q B)
 (hrt:fn.resultTypes=#[tb]) (hb:P.underlying tb=some .bool) (hs:s.vars=[]) (hfn:∀ ds:List (DataW H),ds.length=ts.length→s.fn H ds={ results:=[.lit (.bool true)],args:=ds })
 (ct:∀ h vs x,h.ng=0→Q (fun i=>i<h.next) h vs x→B x≤1048576→Ct P f vs h (fun r _=>r=.ret (.bool true)))
 (W:World) (base:Nat) (args:Array Value) (ds gs:List (DataW H)) (before:List MemPlace)
 (hval:∀ (j:Nat) t v,fn.params[j]? = some t→args[j]? = some v→Value.okWide P W .any base t v)
 (hW:DataW.Whole enc P fn.params.toList s.vars apart W args.toList ds gs before) (hk:Rows.uptoSmall H (ds++gs)=true) :
 Calls P f args W fun e W'=>∃ v,e=.returned v∧s.post enc P fn apart fresh handsOn again W args v W':=by
 have hW':=hW
 obtain ⟨p,q,hA,hV,rfl,hfz,hnd⟩:=hW
 rw[hs]at hV
 obtain ⟨rfl,rfl⟩:=M5b hV
 rw[hts]at hA
 have hk':Rows.uptoBulkAll ds≤1048576:=by
  have:=of_decide_eq_true hk
  simpa using this
 obtain ⟨ι,h,vs,y,s1,_,he,hr,hq,hB⟩:=pars.lay hA (fun j t v a b=>hval j t v (by simpa [← hts] using a) (by simpa using b)) (Rds.none W)
 have hng:h.ng=0:=he.ng
 have c:=ct h vs y hng (hq h (.refl _)) (by omega) 0 ι W args s1.sim hr
 refine callsIn_wide.1 (CallsIn.mono c fun e W' ⟨ι',r,h',hR,_,hE,sim',st⟩=>?_)
 subst hR
 cases e with
 | returned v=>
   have hv:v=.bool true:=by
    have:VRel ι' (.bool true) v:=hE
    cases this;rfl
   subst hv
   have hheap:∀ b,b<W.heap.size→W'.heap[b]? = W.heap[b]?:=fun b hb=>st.frame b hb fun id e he _=>s1.ro id e he
   have hlen:ds.length=ts.length:=by
    have:∀ {ts:List TypeId} {vs:List Value} {ds:List (DataW H)} {ps:List MemPlace},DataW.TrodAll enc P W 0 (fun _=>true) true ts vs ds ps→ds.length=ts.length:=by
     intro ts
     induction ts with
     | nil=>intro vs ds ps h;obtain ⟨_,rfl,_⟩:=trodAll_nil h;rfl
     | cons t ts ih=>
       intro vs ds ps h
       obtain ⟨_,_,_,_,_,_,_,rfl,_,_,h2⟩:=trodAll_cons h
       simp[ih h2]
    exact this hA
   have hlt:∀ x∈p,x.block<W.heap.size:=DataW.TrodAll.lt hA
   have hsame:∀ x∈p,W.sameAt W' x:=fun x hx=>by
    have hb:=hheap _ (hlt x hx)
    cases x with
    | cell b off=>simp only[World.sameAt,World.cell?];rw[show W'.heap[b]? = W.heap[b]? from hb]
    | map b=>exact hb
   refine ⟨_,rfl,y5b (pa:=p) (pv:=[]) hW' ?_ ?_ ?_ rfl st.os st.output hheap ?_⟩
   ·intro b sp hd
    rw[List.append_nil,hfn ds hlen,hrt]
    exact trodAll_cons_mk (shut_bool hb _) trodAll_mk0
   ·intro sp hsp
    rw[List.append_nil,hfn ds hlen,hts]
    exact pars.stay hA hsame (fun x hx=>hsp x (by simpa using hx))
   ·intro sp hsp
    rw[List.append_nil,hfn ds hlen,hs]
    rfl
   ·intro j t r h1 h2
    rw[hrt]at h1 h2
    cases j with
    | zero=>
      simp at h1
      simp[Value.resultList]at h2
      subst h1;subst h2
      simp[Value.okWide,hb,Cell.okWide,Cell.ok]
    | succ j=>simp at h1
 | _=>exact hE.elim
end
end Go.D
namespace Go.D
variable {P:Program} {α:Type} {R:Rep α} {S S':Nat→Prop} {K h:DHeap} {v:Value} {l:List α}
theorem k5c {cs:List Value} {x:α} {z n:Nat} (hx:R.rd S K cs x) (hz:z=R.z) (hp:0<R.z):K0a R.z 1 (.slice (some ⟨K.next,0,none⟩) 1 n) (K.push (.row cs z false))=some cs:=by
 subst hz
 have hl:=R.len hx
 simp only[K0a,Zz]
 simp[hl]
 exact List.take_of_length_le (by omega)
theorem Owns.snoc {w:Option Nat} {ts:Array TypeId} {cs:List Value} {x:α} {z b:Nat} (ho:Owns R S K v l w) (hS:∀ i,S i→i<K.next∧w≠some i) (hx:R.rd S K cs x) (hz:z=R.z) (hp:0<R.z) (hT:B3a P ts=some (R.z,b)) (hlen:l.length+1≤4294967296) (hb:b≤32768) :
 ∃ v' h2,o0a P ts v (.slice (some ⟨K.next,0,none⟩) 1 1) (K.push (.row cs z false))=some (v',h2)∧h2.next=K.next+2∧h2.ng=K.ng∧(∀ i,i<K.next→w≠some i→h2.get i=K.get i) ∧
  Owns R S h2 v' (l++[x]) (some (K.next+1)):=by
 have hw:=ho.lt
 have hg:∀ i,S i→(K.push (.row cs z false)).get i=K.get i:=fun i hi=>ZU _ _ (hS i hi).1
 have ho2:Owns R S (K.push (.row cs z false)) v l w:=ho.mono (Nat.le_succ _) (fun i hi=>ZU _ _ (hw i hi)) (fun i hi=>⟨hi,hg i hi⟩)
 have hm:(l.length+1)*b≤4294967296*32768:=Nat.mul_le_mul hlen hb
 obtain ⟨v',h2,w',e3,g,o,hw'⟩:=ho2.append (k:=[x]) (x:=.slice (some ⟨K.next,0,none⟩) 1 1) hT (fun i hi=>⟨Nat.lt_succ_of_lt (hS i hi).1,(hS i hi).2⟩) rfl (k5c hx hz hp) (.single (R.mono hx fun i hi=>⟨hi,hg i hi⟩)) (by simp only[List.length_singleton];omega) (by simp only[List.length_singleton];omega)
 rcases hw' with ⟨h0,_⟩ | ⟨h0,h1⟩
 ·cases h0
 ·subst h0
  exact ⟨v',h2,e3,h1,g.ng,fun i hi hwi=>(g.get i (Nat.lt_succ_of_lt hi) hwi).trans (ZU _ _ hi),o⟩
theorem Owns.arg {w:Option Nat} (a:Owns R S h v l w) (hS:∀ i,S i→i<h.next):Arg R h v l:=by
 have hlt:=a.lt
 exact a.sl.mono fun i hi=>⟨by
  rcases hi with hi | hi
  ·exact hS i hi
  ·exact hlt i hi,rfl⟩
end Go.D
namespace Go.D
variable {P:Program}
inductive Fld2 (P:Program):{α:Type}→Nat→List (TypeId × Nat)→Rep α→(α→Nat)→Prop
 | one {α:Type} {off:Nat} {t:TypeId} {R:Rep α} {B:α→Nat} (hl:Lays P t R B):Fld2 P off [(t,off)] R B
 | cons {α β:Type} {off:Nat} {t:TypeId} {l:List (TypeId × Nat)} {R:Rep α} {B:α→Nat} {Q:Rep β} {C:β→Nat} (hl:Lays P t R B) (hr:Fld2 P (off+R.z) l Q C):Fld2 P off ((t,off) :: l) (rP R Q) (fun x=>B x.1+C x.2)
theorem Fld2.flds {α:Type} {off:Nat} {l:List (TypeId × Nat)} {R:Rep α} {B:α→Nat} (a:Fld2 P off l R B):∀ fs:List Field,fs.map (fun f=>(f.type,f.offset))=l→Flds P off fs R B:=by
 induction a with
 | one hl=>
   intro fs h
   match fs,h with
   | [f],h=>
     simp only[List.map_cons,List.map_nil,List.cons.injEq,Prod.mk.injEq,and_true]at h
     obtain ⟨rfl,rfl⟩:=h
     exact .one rfl hl
 | cons hl hr ih=>
   intro fs h
   cases fs with
   | nil=>cases h
   | cons f fs=>
     simp only[List.map_cons,List.cons.injEq,Prod.mk.injEq]at h
     obtain ⟨⟨rfl,rfl⟩,h2⟩:=h
     exact .cons rfl hl (ih fs h2)
theorem Lays.of {α:Type} {t:TypeId} {l:List (TypeId × Nat)} {R:Rep α} {B:α→Nat} (hf:n5a P t=some l) (hz:P.cellsOf t=R.z) (a:Fld2 P 0 l R B):Lays P t R B:=by
 unfold n5a at hf
 split at hf
 ·rename_i fs hu
  split at hf
  ·cases hf
   exact .struct hu hz (a.flds _ rfl)
  ·cases hf
 ·cases hf
theorem c1b {t:TypeId} {l:List (TypeId × Nat)} (hf:n5a P t=some l):Par P t true:=by
 unfold n5a at hf
 split at hf
 ·rename_i fs hu
  exact ⟨fs,hu⟩
 ·cases hf
theorem W1d {α β:Type} {F:FRep α} {G:FRep β} {S:Nat→Prop} {h:DHeap} {cs:List Value} {x:α × β} (a:(rP F.rep G.rep).rd S h cs x):(fP F G).rep.rd S h cs x:=by
 obtain ⟨c1,c2,rfl,⟨rfl,h1⟩,rfl,h2⟩:=a
 exact ⟨rfl,h1,h2⟩
theorem Lays.pair {α β:Type} {t:TypeId} {F:FRep α} {G:FRep β} {C:α × β→Nat} (a:Lays P t (rP F.rep G.rep) C):Lays P t (fP F G).rep C:=a.conv (Q:=(fP F G).rep) rfl id (fun _ _ _ _=>W1d) (fun _=>Nat.le_refl _)
end Go.D
namespace Go.Proofs.YtheamfnbfgiaeaaGreat
open Go.D
set_option maxRecDepth 100000
theorem h6d:Lays Tryz.prog 5 fU8.rep (fun _=>1):=.int (by kernel_rfl) (by kernel_rfl)
theorem E1d:Lays Tryz.prog 21 (fI .i32).rep (fun _=>1):=.int (by kernel_rfl) (by kernel_rfl)
theorem P4a:Lays Tryz.prog 2 fI64.rep (fun _=>1):=.int (by kernel_rfl) (by kernel_rfl)
theorem F1d:Lays Tryz.prog 3 fI64.rep (fun _=>1):=.int (by kernel_rfl) (by kernel_rfl)
theorem Y1c:Lays Tryz.prog 22 (rSl fU8.rep) (w1a fun _=>1):=.slice (e:=5) (by kernel_rfl) (by kernel_rfl) (by decide) h6d
theorem p5c:Lays Tryz.prog 23 (rSl fI64.rep) (w1a fun _=>1):=.slice (e:=2) (by kernel_rfl) (by kernel_rfl) (by decide) P4a
theorem B7b:Lays Tryz.prog 31 fKey.rep (fun _=>2):=
 (Lays.of (l:=[(21,0),(2,1)]) (by kernel_rfl) (by kernel_rfl) (.cons E1d (.one P4a))).pair.conv (Q:=fKey.rep) rfl (fun x=>⟨x.1,x.2⟩) (fun _ _ _ _ h=>h) (fun _=>Nat.le_refl _)
theorem o5c:Lays Tryz.prog 33 fCell.rep (fun _=>4):=
 (Lays.of (l:=[(31,0),(2,2),(2,3)]) (by kernel_rfl) (by kernel_rfl) (.cons B7b (.cons P4a (.one P4a)))).conv (Q:=fCell.rep) rfl (fun x=>⟨x.1,x.2.1,x.2.2⟩)
   (fun _ _ _ _ h=>by
     obtain ⟨c1,c2,rfl,⟨rfl,k1⟩,c3,c4,rfl,⟨rfl,k2⟩,rfl,k3⟩:=h
     exact ⟨rfl,k1,k2,k3⟩) (fun _=>Nat.le_refl _)
theorem Z1c:Lays Tryz.prog 29 (rSl fCell.rep) (w1a fun _=>4):=.slice (e:=33) (by kernel_rfl) (by kernel_rfl) (by decide) o5c
end Go.Proofs.YtheamfnbfgiaeaaGreat
namespace Go.D
variable {P:Program} {nt:Nat}
theorem o7d {l size:Nat} {tmps:Fr} {assign body:Code} {h:DHeap} {R:DEnd→DHeap→Prop}
 (hx:NC P size assign (fun e s=>(match e with | .normal=>True | _=>False)∧∃ d,s.h.get l=some (.loop d)∧d.state=.ready ∧
   NC P size body (r0b l R) ⟨s.fr,s.df,s.h.set l (.loop { d with state:=.busy,pending:=d.pending }),s.rd⟩) ⟨tmps,[],h,some l⟩):Rt P l size tmps assign body h R:=by
 intro n ι w tmps' e f s he hsh hf
 refine roundIn_of_wpIn trivial ?_
 refine wpIn_mono (hx n (some e.block) ι { tmps:=tmps',defers:=[] } w ⟨hf,trivial,s,e,he,hsh,rfl⟩) fun ex1 a1 w1 ⟨ι1,e1,s1,⟨hn1,d1,hg1,hst,hb⟩,h1,g1,g2,g3⟩=>?_
 cases e1 with
 | normal=>
   cases ex1 with
   | normal=>
     have he1:=g3.le l e he
     obtain ⟨_,_,lp,hlp,hlr⟩:=g2.sim.loopAt he1 hg1
     obtain ⟨k1,k2⟩:=g2.sim.setLoop he1 hg1 hlp hlr .busy d1.pending
     have hbr:=run_beginRound (P:=P) hlp (hlr.state.trans hst)
     have hpend:lp.pending=d1.pending:=hlr.pending
     rw[show ({ lp with state:=LoopState.busy }:Loop)={ lp with state:=.busy,pending:=d1.pending } by rw[← hpend]]at hbr
     refine ⟨_,hbr,?_⟩
     refine wpIn_mono (hb n (some e.block) ι1 a1 _ ⟨g2.fr,g2.df,k1,g2.rd⟩) fun ex2 a2 w2 ⟨ι2,e2,s2,⟨d2,hg2,hq⟩,h2,m1,m2,m3⟩=>?_
     have he2:=m3.le l e he1
     obtain ⟨_,_,lp2,hlp2,hlr2⟩:=m2.sim.loopAt he2 hg2
     have hh:HStep h s2.h:=h1.trans ((HStep.set _ _ _).trans h2)
     have fin:∀ (v:Bool) (st:LoopState) (pe:Option Code),(pe.isNone=v)→((if v then LoopState.ready else .done)=st)→R (.ret (.bool v)) (s2.h.set l (.loop { d2 with state:=st,pending:=pe })) →
      ∃ u w',(Instr.endRound e.block pe).run P w2=.ok u w'∧∃ ι' r h',R r h'∧HStep h h'∧T1a ι' r (.returned u)∧Sim ι' h' w'∧Step ι ι' h h' w w':=by
      intro v st pe hpe hst2 hR
      obtain ⟨q1,q2⟩:=m2.sim.setLoop he2 hg2 hlp2 hlr2 st pe
      refine ⟨.bool v,_,?_,ι2,_,_,hR,hh.trans (HStep.set _ _ _),.bool v,q1,g3.trans (k2.trans (m3.trans q2))⟩
      have:=run_endRound (P:=P) pe hlp2
      rw[this,hpe,hst2]
     cases e2 with
     | normal=>
       cases ex2 with
       | normal=>exact fin true .ready none rfl rfl hq
       | _=>exact m1.elim
     | ret=>
       cases ex2 with
       | ret=>exact fin false .done (some .ret) rfl rfl hq
       | _=>exact m1.elim
     | exit id=>
       cases ex2 with
       | exit id'=>
         have:id'=id:=m1
         subst this
         exact fin false .done (some (.exit id')) rfl rfl hq
       | _=>exact m1.elim
     | pan v=>exact hq.elim
   | _=>exact g1.elim
 | _=>exact hn1.elim
theorem NC.range_aux {g:Operand} {ps:Array Tmp} {assign body:Code} {Q:Zk→St→Prop} {s:St} {fv:Value} {l:Nat} {df:List J4a} {h1:DHeap} {f:FuncId} {args:List Value}
 (hg:Yy s.h.ng s.fr g=some fv) (hh:HStep s.h h1)
 (henter:∀ (r:Option Nat) (ι:Inj) (a:Act) (w:World) (fn:FuncId),WK nt ι s r a w→∃ (ι1:Inj) (e:Ent) (mark:List Deferred) (w1:World),(Instr.enterLoop fn a.tmps ps assign body r).run P w=.ok (e.block,mark) w1 ∧
   ι1 l=some e∧e.shift=0∧Sim ι1 h1 w1∧Step ι ι1 s.h h1 w w1∧DefRel ι1 df (mark++a.defers))
 (ht:b1a P fv [.func (.yield l) #[] #[]] h1=some (.enter f args)) {R:DEnd→DHeap→Prop}
 (hc:Ct P f args h1 R) (hx:∀ r h2,R r h2→q0b l s.fr df s.rd Q r h2):NC P nt (.rangeFunc g ps assign body) Q s:=by
 intro n rr ι a w hs
 refine wpIn_rangeFunc fun fn _=>?_
 obtain ⟨ι1,eb,mark,w1,he,hl,hsh,s1,st1,hd1⟩:=henter rr ι a w fn hs
 have hfv:VRel ι fv (a.eval g):=n1a (P:=P) hs.sim (a:=a) (ops:=#[]) (o:=⟨none,.move g,0,"",#[],none⟩) (fun t _ u hu=>hs.fr.2 t u hu) g (by simp[Op.operands]) _ hg
 have hy:LRel ι1 [.func (.yield l) #[] #[]] (#[.func (.yield eb.block) #[] #[]]:Array Value).toList:=(LRel.nil ι1).cons (.yield hl hsh)
 obtain ⟨d,x',hd,hinv,hn,hdd⟩:=z7a ht s1 (hfv.mono st1.le) hy
 cases x' with
 | enter f' args'=>
   obtain ⟨rfl,hargs,_⟩:=hn
   refine ⟨eb.block,mark,w1,d,w1,f',args',w1,he,?_,fun _ _=>trivial,hinv,fun hh=>absurd hh (by simp[FW]),?_⟩
   ·simpa [resolve,rangeCall,Act.eval] using hd
   ·refine CallsIn.mono (hc (n - 1) ι1 w1 args' s1 hargs) fun en w2 ⟨ι2,r,h2,hR,hh2,k1,k2,k3⟩=>?_
    have hp:=hx r h2 hR
    have hl2:=k3.le l eb hl
    have hfr:=(hs.fr.mono st1.le).mono k3.le
    have hdf:=hd1.mono k3.le
    have hrd:=(hs.rd.mono st1.le).mono k3.le
    have hst:=st1.trans k3
    cases r with
    | pan v=>
      cases en with
      | panicked ch=>exact ⟨ι2,.pan v,_,hp,hh.trans hh2,k1,⟨hfr,hdf,k2,hrd⟩,hst⟩
      | _=>exact k1.elim
    | ret v=>
      cases en with
      | returned v'=>
        obtain ⟨d,hgd,hbusy,hq⟩:=hp
        obtain ⟨_,_,lp,hlp,hlr⟩:=k2.loopAt hl2 hgd
        obtain ⟨q1,q2⟩:=k2.setLoop hl2 hgd hlp hlr .exhausted d.pending
        have hend:=run_endLoop (P:=P) hlp (by rw[hlr.state];exact hbusy)
        rw[hlr.pending]at hend
        refine ⟨d.pending,_,hend,?_⟩
        have fin:∀ (e:Zk) ex,Q e ⟨s.fr,df,h2.set l (.loop { d with state:=.exhausted,pending:=d.pending }),s.rd⟩→a2a ι2 e ex →
         ∃ ι' e s',Q e s'∧HStep s.h s'.h∧a2a ι' e ex∧WK nt ι' s' rr { a with defers:=mark++a.defers } (w2.putObj eb.block (.loop { lp with state:=.exhausted,pending:=d.pending }))∧Step ι ι' s.h s'.h w (w2.putObj eb.block (.loop { lp with state:=.exhausted,pending:=d.pending })):=
         fun e ex hq hex=>⟨ι2,e,_,hq,hh.trans (hh2.trans (HStep.set _ _ _)),hex,⟨hfr,hdf,q1,hrd⟩,hst.trans q2⟩
        cases hpe:d.pending with
        | none=>
          rw[hpe]at hq fin
          exact fin .normal _ hq trivial
        | some c=>
          rw[hpe]at hq fin
          cases c with
          | ret=>exact wpIn_ret (fin .ret _ hq trivial)
          | exit id=>exact wpIn_exit (fin (.exit id) _ hq rfl)
          | _=>exact hq.elim
      | _=>exact k1.elim
 | _=>exact hn.elim
theorem NC.range {g:Operand} {ps:Array Tmp} {assign body:Code} {Q:Zk→St→Prop} {s:St} {fv:Value} {f:FuncId} {args:List Value} {h1:DHeap}
 (hrd:s.rd=none) (hg:Yy s.h.ng s.fr g=some fv) (hh1:h1=(s.h.push (.marks true)).push (.loop ⟨nt,s.fr,ps,assign,body,s.h.next,.ready,none⟩))
 (ht:b1a P fv [.func (.yield (s.h.next+1)) #[] #[]] h1=some (.enter f args)) {R:DEnd→DHeap→Prop}
 (hc:Ct P f args h1 R) (hx:∀ r h2,R r h2→q0b (s.h.next+1) s.fr (.mark s.h.next :: s.df) s.rd Q r h2):NC P nt (.rangeFunc g ps assign body) Q s:=by
 subst hh1
 refine NC.range_aux hg ((HStep.push _ _).trans (HStep.push _ _)) (fun r ι a w fn hs=>?_) ht hc hx
 have hr:r=none:=by
  have:=hs.rd
  rw[hrd]at this
  cases r with
  | none=>rfl
  | some _=>exact this.elim
 subst hr
 obtain ⟨a1,a2⟩:=hs.sim.alloc (.marks true) (.deferred (some [])) ⟨w.heap.size,0,0,0,false⟩ rfl ⟨rfl,rfl,World.alloc_heap_new _ _⟩
 have hsz:(w.alloc (.deferred (some []))).heap.size=w.heap.size+1:=World.size_alloc _ _
 have hm:(ι.upd s.h.next ⟨w.heap.size,0,0,0,false⟩) s.h.next=some ⟨w.heap.size,0,0,0,false⟩:=Inj.upd_same _ _ _
 obtain ⟨b1,b2⟩:=a1.alloc (.loop ⟨nt,s.fr,ps,assign,body,s.h.next,.ready,none⟩) (.loop { state:=.ready,pending:=none,fn,tmps:=a.tmps,params:=ps,assign,body,defers:=w.heap.size })
  ⟨w.heap.size+1,0,0,0,false⟩ hsz.symm ⟨rfl,rfl,_,by rw[← hsz];exact World.alloc_heap_new _ _,
   ⟨(hs.fr.mono a2.le).mono (Inj.upd_le a1.fresh),rfl,rfl,rfl,rfl,rfl,⟨w.heap.size,0,0,0,false⟩,Inj.upd_le a1.fresh _ _ hm,rfl,rfl⟩⟩
 refine ⟨_,⟨w.heap.size+1,0,0,0,false⟩,_,_,run_enterLoop_outer fn a.tmps ps assign body,?_,rfl,b1,a2.trans b2,?_⟩
 ·exact Inj.upd_same _ _ _
 ·exact ⟨⟨_,b2.le _ _ hm,rfl,rfl⟩,(hs.df.mono a2.le).mono b2.le⟩
theorem NC.strip {c c0:Code} {Q:Zk→St→Prop} {s:St} (hs:Go.D.strip c0=c) (hk:p0a nt c=true) (h:xs P nt c Q s):NC P nt c0 Q s:=by
 subst hs
 exact K2a c0 Q s (by rw[← C0a];exact hk) h
theorem p3c {rs:List ResultVar} {fr:Fr} {R:DEnd→DHeap→Prop} {id:Nat} {ds:List J4a} {m:H1a} {h:DHeap} (hm:h.get id=some (.marks true)) (hx:XLv P rs fr R ds m (h.set id (.marks false))):XLv P rs fr R (.mark id :: ds) m h:=⟨hm,hx⟩
end Go.D
namespace Go.D
variable {P:Program} {α:Type} {R:Rep α} {S:Nat→Prop} {h:DHeap} {v:Value} {l:List α} {t:TypeId}
theorem B0a {k:IntKind} {n d y:Nat} (h:n≤y):YJ (some (.int k (n:Int))) d y=some n:=by
 simp only[YJ]
 rw[if_pos (by omega)]
 rfl
theorem C7b {ts:Array TypeId} {ty:TypeId} {a b:Int}:p2a P .min ts ty h (some [.int .i64 a,.int .i64 b])=.ok (.value (.int .i64 (min a b))) h:=by
 have hq:ZK P (Builtin.min_ ts ty #[.int .i64 a,.int .i64 b])=some (.inr (.int .i64 (min a b))):=by
  have e:min a b=if b<a then b else a:=by
   by_cases h:b<a
   ·rw[if_pos h];omega
   ·rw[if_neg h];omega
  rw[e]
  rfl
 have hf:([Value.int .i64 a,.int .i64 b].all Xz)=true:=rfl
 rw[s4b,if_pos hf]
 simp only[Wz,hq]
 rfl
end Go.D
namespace Go.D
variable {P:Program} {nt:Nat}
structure Rng (hB:DHeap) (D:O3a) (ids:Nat→Prop) (K:DHeap):Prop where
 old:∀ j,j<hB.next→¬ ids j→K.get j=hB.get j
 nx:hB.next+2≤K.next
 ng:K.ng=hB.ng
 mrk:K.get hB.next=some (.marks true)
 lp:K.get (hB.next+1)=some (.loop D)
section
variable {hB K K':DHeap} {D D':O3a} {ids:Nat→Prop} {o:DObj} {id:Nat}
theorem Rng.start (hB:DHeap) (D:O3a) (ids:Nat→Prop):Rng hB D ids ((hB.push (.marks true)).push (.loop D)):=
 ⟨fun j hj _=>by rw[ZU _ _ (by rw[g0a];omega),ZU _ _ hj],Nat.le_refl _,rfl,c3a,Zz _ _⟩
theorem Rng.ext (r:Rng hB D ids K) (e:Ext K K'):Rng hB D ids K':=
 ⟨fun j hj hi=>(e.get j (by have:=r.nx;omega)).trans (r.old j hj hi),Nat.le_trans r.nx e.next,e.ng.trans r.ng,(e.get _ (by have:=r.nx;omega)).trans r.mrk,(e.get _ (by have:=r.nx;omega)).trans r.lp⟩
theorem Rng.set (r:Rng hB D ids K) (hi:ids id) (hid:id<hB.next):Rng hB D ids (K.set id o):=
 ⟨fun j hj hij=>(Zv _ _ (by intro hh;subst hh;exact hij hi)).trans (r.old j hj hij),r.nx,r.ng,(Zv _ _ (by omega)).trans r.mrk,(Zv _ _ (by omega)).trans r.lp⟩
theorem Rng.push (r:Rng hB D ids K) (o:DObj):Rng hB D ids (K.push o):=r.ext (Ext.push1 _ _)
theorem Rng.loop (r:Rng hB D ids K) (D':O3a):Rng hB D' ids (K.set (hB.next+1) (.loop D')):=
 ⟨fun j hj hij=>(Zv _ _ (by omega)).trans (r.old j hj hij),r.nx,r.ng,(Zv _ _ (by omega)).trans r.mrk,ZX _ _⟩
theorem Rng.keep (r:Rng hB D ids K) (hn:K.next≤K'.next) (hg:K'.ng=K.ng) (h:∀ j,j<hB.next+2→K'.get j=K.get j):Rng hB D ids K':=
 ⟨fun j hj hi=>(h j (by omega)).trans (r.old j hj hi),Nat.le_trans r.nx hn,hg.trans r.ng,(h _ (by omega)).trans r.mrk,(h _ (by omega)).trans r.lp⟩
theorem Rng.below {h:DHeap} (r:Rng hB D ids K) (e:Ext h hB) (hi:∀ j,ids j→h.next≤j):Ext h K:=
 ⟨Nat.le_trans e.next (by have:=r.nx;omega),r.ng.trans e.ng,fun j hj=>(r.old j (Nat.lt_of_lt_of_le hj e.next) (fun hh=>by have:=hi j hh;omega)).trans (e.get j hj)⟩
end
theorem J9c {l size:Nat} {tmps:Fr} {fa fb sa sb:Code} {h:DHeap} {R:DEnd→DHeap→Prop} (ta:Go.D.strip fa=sa) (tb:Go.D.strip fb=sb) (ka:p0a size sa=true) (kb:p0a size sb=true)
 (hx:xs P size sa (WZ (fun s=>∃ d,s.h.get l=some (.loop d)∧d.state=.ready∧xs P size sb (r0b l R) ⟨s.fr,s.df,s.h.set l (.loop { d with state:=.busy,pending:=d.pending }),s.rd⟩) fun _ _=>False) ⟨tmps,[],h,some l⟩) :
 Rt P l size tmps fa fb h R:=by
 refine o7d (NC.strip ta ka (A3a _ _ (fun e s hq=>?_) hx))
 cases e with
 | normal=>
   obtain ⟨d,e1,e2,e3⟩:=hq
   exact ⟨trivial,d,e1,e2,NC.strip tb kb e3⟩
 | _=>exact hq.elim
theorem NC.range_yields {g:Operand} {ps:Array Tmp} {assign body:Code} {Q:Zk→St→Prop} {s:St} {fv:Value} {f:FuncId} {args:List Value} {A B:DHeap→Prop}
 (hrd:s.rd=none) (hg:Yy s.h.ng s.fr g=some fv)
 (ht:∀ K,b1a P fv [.func (.yield (s.h.next+1)) #[] #[]] K=some (.enter f args))
 (hc:Ct P f args ((s.h.push (.marks true)).push (.loop ⟨nt,s.fr,ps,assign,body,s.h.next,.ready,none⟩)) fun r H=>(∃ v,r=.ret v)∧(A H∨B H))
 (hA:∀ H,A H→H.get (s.h.next+1)=some (.loop ⟨nt,s.fr,ps,assign,body,s.h.next,.ready,none⟩)∧Q .normal ⟨s.fr,.mark s.h.next :: s.df,H.set (s.h.next+1) (.loop ⟨nt,s.fr,ps,assign,body,s.h.next,.exhausted,none⟩),s.rd⟩)
 (hB:∀ H,B H→H.get (s.h.next+1)=some (.loop ⟨nt,s.fr,ps,assign,body,s.h.next,.done,some .ret⟩)∧Q .ret ⟨s.fr,.mark s.h.next :: s.df,H.set (s.h.next+1) (.loop ⟨nt,s.fr,ps,assign,body,s.h.next,.exhausted,some .ret⟩),s.rd⟩) :
 NC P nt (.rangeFunc g ps assign body) Q s:=by
 refine NC.range hrd hg rfl (ht _) hc fun r H hr=>?_
 obtain ⟨⟨v,rfl⟩,hr | hr⟩:=hr
 ·obtain ⟨a,b⟩:=hA H hr
  exact ⟨_,a,by simp,b⟩
 ·obtain ⟨a,b⟩:=hB H hr
  exact ⟨_,a,by simp,b⟩
theorem M4b {f:FuncId} (hg:R0a P f=true) (first cap:Array Value) (vs:List Value) (h:DHeap):b1a P (.func (.func f) first cap) vs h=some (.enter f (first.toList++vs++cap.toList)):=by
 simp[b1a,hg]
end Go.D
namespace Go.D
variable {P:Program} {nt:Nat}
def WJ (P:Program) (ops:Array Oper) (o:Oper) (s:St) (K:St→Prop) (Q:Zk→St→Prop):Prop:=
 match Yv ops s.fr o with
 | none=>False
 | some false=>K ⟨s.fr.put o.dst undef,s.df,s.h,s.rd⟩
 | some true=>q6a P o s (dOp P (Yy s.h.ng s.fr) o s.h) K Q
theorem q7a {ops:Array Oper} (hd:E0a nt ops=true) {k:Nat} {o:Oper} (ho:ops[k]? = some o) {s:St} {K:St→Prop} {Q:Zk→St→Prop} (h:WJ P ops o s K Q)
 {n:Nat} {r:Option Nat} {ι:Inj} {a:Act} {w:World} {Qc:Exit→Act→World→Prop} {Kw:Act→World→Prop} (hs:WK nt ι s r a w)
 (hK:∀ ι' s' a' w',K s'→HStep s.h s'.h→WK nt ι' s' r a' w'→Step ι ι' s.h s'.h w w'→Kw a' w')
 (hQ:∀ ι' e s' ex a' w',Q e s'→HStep s.h s'.h→a2a ι' e ex→WK nt ι' s' r a' w'→Step ι ι' s.h s'.h w w'→Qc ex a' w'):wpOpIn (FW r) n P ops Qc k Kw a w:=by
 have hdo:∀ d,o.dst=some d→d<nt:=fun d h=>c0a hd k o d ho h
 have one:w5a P ops [o] s (fun e s'=>match e with | .normal=>K s' | e=>Q e s')→wpOpIn (FW r) n P ops Qc k Kw a w:=by
  intro hx
  have hw0:=hx
  simp only[w5a]at hx
  have fin:∀ (v:Value) (h1:DHeap),Ex P ops o s.fr s.h (.ret v) h1→y1a o.op=false→K ⟨s.fr.put o.dst v,s.df,h1,s.rd⟩→wpOpIn (FW r) n P ops Qc k Kw a w:=by
   intro v h1 hex hnd hh
   refine X3a hex ho hnd hs.sim hs.fr.1 (c0a hd) (fun t _ u hu=>hs.fr.2 t u hu) (fun u hu ι' v' w' hv s1 st=>?_) (fun u hu=>by cases hu)
   cases hu
   exact hK ι' _ _ w' hh (W3a hex) ⟨z1a (r:=r) (w:=w) (hs.fr.mono st.le) hdo hv,by rw[y0a];exact hs.df.mono st.le,s1,hs.rd.mono st.le⟩ st
  have finp:∀ (v:Value) (h1:DHeap),Ex P ops o s.fr s.h (.pan v) h1→y1a o.op=false→Q (.pan v) ⟨s.fr,s.df,h1,s.rd⟩→wpOpIn (FW r) n P ops Qc k Kw a w:=by
   intro v h1 hex hnd hh
   refine X3a hex ho hnd hs.sim hs.fr.1 (c0a hd) (fun t _ u hu=>hs.fr.2 t u hu) (fun u hu=>by cases hu) (fun u hu ι' v' w' hv s1 st=>?_)
   cases hu
   exact hQ ι' _ ⟨s.fr,s.df,h1,s.rd⟩ _ a w' hh (W3a hex) ⟨v',rfl,hv⟩ ⟨hs.fr.mono st.le,hs.df.mono st.le,s1,hs.rd.mono st.le⟩ st
  cases hw:Yv ops s.fr o with
  | none=>rw[hw]at hx;exact hx.elim
  | some b=>
    rw[hw]at hx
    cases b with
    | false=>
      simp only[w5a]at hx
      unfold wpOpIn
      rw[ho]
      have hw':=P0a hs.fr.1 (c0a hd) (fun t _ u hu=>hs.fr.2 t u hu) hw
      simp only[hw',Bool.false_eq_true,if_false]
      exact ⟨fun _ _=>trivial,hK ι _ _ w hx (.refl _) ⟨z1a (r:=r) (w:=w) hs.fr hdo (m2a ι),by rw[y0a];exact hs.df,hs.sim,hs.rd⟩ (Step.refl ι _ w)⟩
    | true=>
      simp only at hx
      have hexd:∀ r h1,(match dOp P (Yy s.h.ng s.fr) o s.h with
       | .ok (.value v) h1'=>r=.ret v∧h1=h1'
       | .ok .skip h1'=>r=.ret undef∧h1=h1'
       | .ok (.enter f args) h1'=>DC P f args h1' r h1
       | .ok (.round l size tmps assign body) h1'=>DRd P l size tmps assign body h1' r h1
       | .pan v h1'=>r=.pan v∧h1=h1'
       | _=>False)→Ex P ops o s.fr s.h r h1:=by
       intro r h1 hh;unfold Ex;rw[hw];exact hh
      have hnd:∀ x h1,dOp P (Yy s.h.ng s.fr) o s.h=.ok x h1→(∀ f gs,x≠.defer f gs)→y1a o.op=false:=by
       intro x h1 hop hne
       cases hod:o.op with
       | defer c=>
         exfalso
         unfold dOp at hop
         rw[hod]at hop
         simp only at hop
         repeat' split at hop
         all_goals first
          | (cases hop;done)
          | (cases hop;exact hne _ _ rfl)
       | _=>rfl
      cases hop:dOp P (Yy s.h.ng s.fr) o s.h with
      | bad=>rw[hop]at hx;exact hx.elim
      | pan v h1=>
        rw[hop]at hx
        refine finp v h1 (hexd _ _ (by rw[hop];exact ⟨rfl,rfl⟩)) ?_ hx
        cases hod:o.op with
        | defer c=>
          exfalso
          unfold dOp at hop
          rw[hod]at hop
          simp only at hop
          repeat' split at hop
          all_goals cases hop
        | _=>rfl
      | ok x h1=>
        rw[hop]at hx
        cases x with
        | value v=>exact fin v h1 (hexd _ _ (by rw[hop];exact ⟨rfl,rfl⟩)) (hnd _ _ hop (by simp)) hx
        | skip=>exact fin undef h1 (hexd _ _ (by rw[hop];exact ⟨rfl,rfl⟩)) (hnd _ _ hop (by simp)) hx
        | enter f args=>
          obtain ⟨r0,h2,hdc,hx⟩:=hx
          have hex:=hexd r0 h2 (by rw[hop];exact hdc)
          cases r0 with
          | ret v=>exact fin v h2 hex (hnd _ _ hop (by simp)) hx
          | pan v=>exact finp v h2 hex (hnd _ _ hop (by simp)) hx
        | round l size tmps assign body=>
          obtain ⟨r0,h2,hdc,hx⟩:=hx
          have hex:=hexd r0 h2 (by rw[hop];exact hdc)
          cases r0 with
          | ret v=>exact fin v h2 hex (hnd _ _ hop (by simp)) hx
          | pan v=>exact finp v h2 hex (hnd _ _ hop (by simp)) hx
        | recover=>exact hx.elim
        | pick l=>exact hx.elim
        | defer f args=>
          obtain ⟨hrd,hx⟩:=hx
          have hr:r=none:=by
           have:=hs.rd
           rw[hrd]at this
           cases r with
           | none=>rfl
           | some _=>exact this.elim
          subst hr
          unfold wpOpIn
          rw[ho]
          have hw':=P0a hs.fr.1 (c0a hd) (fun t _ u hu=>hs.fr.2 t u hu) hw
          simp only[hw',if_true]
          refine ⟨fun _ _=>trivial,?_⟩
          have hsem:o.semAt (FW none).round a.eval=execOp a.eval o:=rfl
          rw[hsem]
          obtain ⟨ι1,w1,x',hrun,hn,s1,st⟩:=l5a hop hs.sim (n1a (P:=P) hs.sim (a:=a) (ops:=ops) (fun t _ u hu=>hs.fr.2 t u hu))
          rw[hrun]
          cases x' with
          | defer d=>
            rw[Oper.uponIn_defer]
            obtain ⟨hg,cap,dargs,rfl,hargs⟩:=hn
            refine hK ι1 _ _ w1 hx (D0a hop) ⟨?_,?_,s1,hs.rd.mono st.le⟩ st
            ·exact z1a (r:=none) (w:=w) (a:={ a with defers:={ target:=.fn (.func f) cap,args:=dargs } :: a.defers }) (hs.fr.mono st.le) hdo (m2a _)
            ·rw[y0a]
             exact ⟨⟨cap,dargs,rfl,hargs⟩,hs.df.mono st.le⟩
          | _=>exact hn.elim
 unfold WJ at h
 cases hw:Yv ops s.fr o with
 | none=>rw[hw]at h;exact h.elim
 | some b=>
   rw[hw]at h
   cases b with
   | false=>exact one (by simp only[w5a,hw];exact h)
   | true=>
     simp only at h
     by_cases hpk:∃ l h1,dOp P (Yy s.h.ng s.fr) o s.h=.ok (.pick l) h1
     ·obtain ⟨l,h1,hop⟩:=hpk
      rw[hop]at h
      obtain ⟨y,v,_,_,hnx⟩:=x7a hop
      refine d1b hw hop ho hs.sim hs.fr.1 (c0a hd) (fun t _ u hu=>hs.fr.2 t u hu) fun p hp v' w' hv s1 st=>?_
      exact hK ι _ _ w' (h p hp) ((L1b hnx).2 p hp) ⟨z1a (r:=r) (w:=w) hs.fr hdo hv,by rw[y0a];exact hs.df,s1,hs.rd⟩ st
     by_cases hent:∃ f args h1,dOp P (Yy s.h.ng s.fr) o s.h=.ok (.enter f args) h1
     ·obtain ⟨f,args,h1,hop⟩:=hent
      rw[hop]at h
      obtain ⟨R,hct,hall⟩:=h
      have hnd:y1a o.op=false:=by
       cases hod:o.op with
       | defer c=>
         exfalso
         unfold dOp at hop
         rw[hod]at hop
         simp only at hop
         repeat' split at hop
         all_goals cases hop
       | _=>rfl
      unfold wpOpIn
      rw[ho]
      have hw':=P0a hs.fr.1 (c0a hd) (fun t _ u hu=>hs.fr.2 t u hu) hw
      simp only[hw',if_true]
      refine ⟨fun _ _=>trivial,?_⟩
      have hsem:o.semAt (FW r).round a.eval=execOp a.eval o:=Oper.semAt_eq _ _ _ fun c hc=>by rw[hc]at hnd;cases hnd
      rw[hsem]
      obtain ⟨ι1,w1,x',hrun,hn,s1,st⟩:=l5a hop hs.sim (n1a (P:=P) hs.sim (a:=a) (ops:=ops) (fun t _ u hu=>hs.fr.2 t u hu))
      rw[hrun]
      cases x' with
      | enter f' args'=>
        obtain ⟨rfl,hargs,_⟩:=hn
        rw[Oper.uponIn_enter]
        refine ⟨fun hh=>absurd hh (by simp[FW]),?_⟩
        have hc:CallsIn (FW r) (n - 1) P f' args' w1 fun e w'=>∃ ι' r h',R r h'∧HStep h1 h'∧T1a ι' r e∧Sim ι' h' w'∧Step ι1 ι' h1 h' w1 w':=hct (n - 1) ι1 w1 args' s1 hargs
        refine CallsIn.mono hc fun e w2 ⟨ι2,r2,h2,hR,hh2,he,s2,st2⟩=>?_
        have hx:=hall r2 h2 hR
        cases r2 with
        | ret v=>
          cases e with
          | returned v'=>
            exact hK ι2 _ _ w2 hx ((D0a hop).trans hh2) ⟨z1a (r:=r) (w:=w) ((hs.fr.mono st.le).mono st2.le) hdo he,by rw[y0a];exact (hs.df.mono st.le).mono st2.le,s2,(hs.rd.mono st.le).mono st2.le⟩ (st.trans st2)
          | _=>exact he.elim
        | pan v=>
          cases e with
          | panicked ch=>
            obtain ⟨v',rfl,hv⟩:=he
            exact hQ ι2 _ ⟨s.fr,s.df,h2,s.rd⟩ _ a w2 hx ((D0a hop).trans hh2) ⟨v',rfl,hv⟩ ⟨(hs.fr.mono st.le).mono st2.le,(hs.df.mono st.le).mono st2.le,s2,(hs.rd.mono st.le).mono st2.le⟩ (st.trans st2)
          | _=>exact he.elim
      | _=>exact hn.elim
     ·by_cases hrnd:∃ l size tmps x y h1,dOp P (Yy s.h.ng s.fr) o s.h=.ok (.round l size tmps x y) h1
      ·obtain ⟨lid,size,tmps,cx,cy,h1,hop⟩:=hrnd
       rw[hop]at h
       obtain ⟨R,hct,hall⟩:=h
       have hnd:y1a o.op=false:=by
        cases hod:o.op with
        | defer c=>
          exfalso
          unfold dOp at hop
          rw[hod]at hop
          simp only at hop
          repeat' split at hop
          all_goals cases hop
        | _=>rfl
       unfold wpOpIn
       rw[ho]
       have hw':=P0a hs.fr.1 (c0a hd) (fun t _ u hu=>hs.fr.2 t u hu) hw
       simp only[hw',if_true]
       refine ⟨fun _ _=>trivial,?_⟩
       have hsem:o.semAt (FW r).round a.eval=execOp a.eval o:=Oper.semAt_eq _ _ _ fun c hc=>by rw[hc]at hnd;cases hnd
       rw[hsem]
       obtain ⟨ι1,w1,x',hrun,hn,s1,st⟩:=l5a hop hs.sim (n1a (P:=P) hs.sim (a:=a) (ops:=ops) (fun t _ u hu=>hs.fr.2 t u hu))
       rw[hrun]
       cases x' with
       | round l' f' tmps' assign' body'=>
         obtain ⟨⟨e0,he0,hsh,rfl⟩,hargs,rfl,rfl⟩:=hn
         rw[Oper.uponIn_round]
         refine ⟨fun hh=>absurd hh (by simp[FW]),?_⟩
         have hc:RoundIn (FW r) (n - 1) P e0.block f' tmps' assign' body' w1 fun e w'=>∃ ι' r h',R r h'∧HStep h1 h'∧T1a ι' r e∧Sim ι' h' w'∧Step ι1 ι' h1 h' w1 w':=hct (n - 1) ι1 w1 tmps' e0 f' s1 he0 hsh hargs
         refine RoundIn.mono hc fun e w2 ⟨ι2,r2,h2,hR,hh2,he,s2,st2⟩=>?_
         have hx:=hall r2 h2 hR
         cases r2 with
         | ret v=>
           cases e with
           | returned v'=>
             exact hK ι2 _ _ w2 hx ((D0a hop).trans hh2) ⟨z1a (r:=r) (w:=w) ((hs.fr.mono st.le).mono st2.le) hdo he,by rw[y0a];exact (hs.df.mono st.le).mono st2.le,s2,(hs.rd.mono st.le).mono st2.le⟩ (st.trans st2)
           | _=>exact he.elim
         | pan v=>
           cases e with
           | panicked ch=>
             obtain ⟨v',rfl,hv⟩:=he
             exact hQ ι2 _ ⟨s.fr,s.df,h2,s.rd⟩ _ a w2 hx ((D0a hop).trans hh2) ⟨v',rfl,hv⟩ ⟨(hs.fr.mono st.le).mono st2.le,(hs.df.mono st.le).mono st2.le,s2,(hs.rd.mono st.le).mono st2.le⟩ (st.trans st2)
           | _=>exact he.elim
       | _=>exact hn.elim
      ·refine one ?_
       simp only[w5a,hw]
       generalize hop:dOp P (Yy s.h.ng s.fr) o s.h=x at h hent hrnd hpk
       cases x with
       | ok y h1=>
         cases y with
         | enter f args=>exact absurd ⟨f,args,h1,rfl⟩ hent
         | value v=>exact h
         | skip=>exact h
         | defer f gs=>exact h
         | round l z t a b=>exact absurd ⟨l,z,t,a,b,h1,rfl⟩ hrnd
         | recover=>exact h
         | pick l=>exact absurd ⟨l,h1,rfl⟩ hpk
       | pan v h1=>exact h
       | bad=>exact h
theorem NC.any {id:Nat} {ops:Array Oper} {Q:Zk→St→Prop} {s:St} (hmix:P.follows .mixedOrders=true) (hd:E0a nt ops=true)
 (hlow:∀ (i:Nat) o,ops[i]? = some o→∀ p∈XV o,p<i)
 (I:(Nat→Bool)→St→Prop) (h0:I (fun _=>false) s)
 (hstep:∀ (L:Nat→Bool) (s:St) (i:Nat) (o:Oper),I L s→ops[i]? = some o→L i=false→(∀ p∈XV o,L p=true)→WJ P ops o s (I fun j=>if j=i then true else L j) Q)
 (hfin:∀ (L:Nat→Bool) (s:St),I L s→(∀ i,i<ops.size→L i=true)→Q .normal s):NC P nt (.region id ops true) Q s:=by
 intro n r ι0 a0 w0 hs0
 refine wpIn_region_any hmix ?_
 have key:∀ (fuel:Nat) (L:Array Bool) (s':St) (ι:Inj) (a:Act) (w:World),x0a L ops.size≤fuel→L.size=ops.size→I (fun j=>L.getD j false) s'→HStep s.h s'.h→WK nt ι s' r a w→Step ι0 ι s.h s'.h w0 w →
  wpAnyIn (FW r) n P .any ops (fun ex a' w'=>∃ ι' e s',Q e s'∧HStep s.h s'.h∧a2a ι' e ex∧WK nt ι' s' r a' w'∧Step ι0 ι' s.h s'.h w0 w') fuel L a w:=by
  have fin:∀ (L:Array Bool) (s':St) (ι:Inj) (a:Act) (w:World),L.size=ops.size→I (fun j=>L.getD j false) s'→HStep s.h s'.h→WK nt ι s' r a w→Step ι0 ι s.h s'.h w0 w→Region.ready .any ops L=[] →
   ∃ ι' e s',Q e s'∧HStep s.h s'.h∧a2a ι' e .normal∧WK nt ι' s' r a w∧Step ι0 ι' s.h s'.h w0 w:=by
   intro L s' ι a w hL hI hh hs hst hr
   have hfull:∀ i,i<ops.size→L.getD i false=true:=by
    intro i
    induction i using Nat.strongRecOn with
    | _ i ih=>
      intro hi
      cases hLi:L.getD i false with
      | true=>rfl
      | false=>
        exfalso
        have:i∈Region.ready .any ops L:=mem_ready.2 ⟨by rw[P5a (by rw[hL];exact hi)];exact hLi,ops[i],Array.getElem?_eq_getElem hi,fun e he hb=>?_⟩
        ·rw[hr]at this;cases this
        ·have hpm:e.on∈XV ops[i]:=List.mem_filterMap.2 ⟨e,by simpa using he,by rw[if_pos hb]⟩
         have hlt:=hlow i _ (Array.getElem?_eq_getElem hi) _ hpm
         exact ih e.on hlt (by omega)
   exact ⟨ι,.normal,s',hfin _ _ hI hfull,hh,trivial,hs,hst⟩
  intro fuel
  induction fuel with
  | zero=>
    intro L s' ι a w hu hL hI hh hs hst
    have hr:Region.ready .any ops L=[]:=by
     rw[List.eq_nil_iff_forall_not_mem]
     intro i hi
     obtain ⟨h1,o,h2,_⟩:=mem_ready.1 hi
     have:=U3a (l:=L) ops.size (by omega) i (Array.getElem?_eq_some_iff.1 h2).1
     rw[h1]at this;cases this
    exact ⟨hr,fin L s' ι a w hL hI hh hs hst hr⟩
  | succ fuel ih=>
    intro L s' ι a w hu hL hI hh hs hst
    refine ⟨fin L s' ι a w hL hI hh hs hst,fun i hi=>?_⟩
    obtain ⟨h1,o,ho,h2⟩:=mem_ready.1 hi
    have his:i<ops.size:=(Array.getElem?_eq_some_iff.1 ho).1
    have hiL:i<L.size:=by rw[hL];exact his
    have hn:L.getD i false=false:=by rw[← P5a hiL];exact h1
    have hp:∀ p∈XV o,L.getD p false=true:=by
     intro p hp
     obtain ⟨e,he,hh⟩:=List.mem_filterMap.1 hp
     split at hh
     ·rename_i hb;cases hh;exact h2 e (by simpa using he) hb
     ·cases hh
    have hun:=I4a hiL h1 ops.size
    rw[if_pos his]at hun
    refine q7a hd ho (hstep _ s' i o hI ho hn hp) hs (fun ι' s2 a' w' hI2 g1 g2 g3=>?_) (fun ι' e s2 ex a' w' hq g1 g2 g3 g4=>⟨ι',e,s2,hq,hh.trans g1,g2,g3,hst.trans g4⟩)
    refine ih _ s2 ι' a' w' (by omega) (by simpa using hL) ?_ (hh.trans g1) g2 (hst.trans g3)
    have:(fun j=>(L.setIfInBounds i true).getD j false)=fun j=>if j=i then true else L.getD j false:=by
     funext j
     exact F5a hiL
    rw[this]
    exact hI2
 have hg:∀ j,(Array.replicate ops.size false).getD j false=false:=by
  intro j;simp only[Array.getD_eq_getD_getElem?,Array.getElem?_replicate];split <;> rfl
 refine key ops.size _ s ι0 a0 _ ?_ (by simp) ?_ (.refl _) ⟨hs0.fr,hs0.df,hs0.sim.drew _,hs0.rd⟩ (Step.drew ι0 s.h w0 _ (Nat.le_succ _))
 ·have:∀ k,k≤ops.size→x0a (Array.replicate ops.size false) k≤k:=by
   intro k;induction k with
   | zero=>intro _;exact Nat.le_refl _
   | succ k ih=>intro hk;have:=ih (Nat.le_of_lt hk);simp only[x0a];split <;> omega
  exact this _ (Nat.le_refl _)
 ·have:(fun j=>(Array.replicate ops.size false).getD j false)=fun _=>false:=by funext j;exact hg j
  rw[this]
  exact h0
def a5a (ops:Array Oper):Bool:=(List.range ops.size).all fun i=>match ops[i]? with | some o=>(XV o).all (fun p=>decide (p<i)) | none=>true
theorem I5a {ops:Array Oper} (h:a5a ops=true):∀ (i:Nat) o,ops[i]? = some o→∀ p∈XV o,p<i:=by
 intro i o ho p hp
 have hi:=(Array.getElem?_eq_some_iff.1 ho).1
 have:=List.all_eq_true.1 h i (List.mem_range.2 hi)
 rw[ho]at this
 simpa using List.all_eq_true.1 this p hp
theorem NC.anyF {id:Nat} {ops:Array Oper} {b:List Nat} {Q:Zk→St→Prop} {s:St} (hmix:P.follows .mixedOrders=true) (hd:E0a nt ops=true) (hlow:a5a ops=true) (hb:Xk ops.toList []=b)
 (G:St→Prop) (F:Nat→St→Prop) (h0:G s)
 (hstep:∀ (i:Nat) (o:Oper) (s:St),ops[i]? = some o→G s→(∀ j,(b.getD i 0).testBit j=true→F j s) →
   WJ P ops o s (fun s'=>G s'∧F i s'∧∀ j,j<ops.size→j≠i→(b.getD j 0).testBit i=false→F j s→F j s') Q)
 (hfin:∀ s,G s→(∀ i,i<ops.size→F i s)→Q .normal s):NC P nt (.region id ops true) Q s:=by
 subst hb
 refine NC.any hmix hd (I5a hlow) (fun L s=>G s∧(∀ i,L i=true→i<ops.size)∧(∀ (i:Nat) o,L i=true→ops[i]? = some o→∀ p∈XV o,L p=true)∧∀ i,L i=true→F i s) ⟨h0,by simp,by simp,by simp⟩ ?_ (fun L s hI hall=>hfin s hI.1 fun i hi=>hI.2.2.2 i (hall i hi))
 rintro L s i o ⟨hG,hsz,hdn,hF⟩ ho hn hp
 have hi:=(Array.getElem?_eq_some_iff.1 ho).1
 have hcl:∀ (k:Nat) o,ops[k]? = some o→(∀ p∈XV o,L p=true)→∀ j,((Xk ops.toList []).getD k 0).testBit j=true→L j=true:=fun k o ho hp j hj=>
  p4a (D:=fun j=>L j=true) (fun i o hi ho p hp=>hdn i o hi ho p hp) k o ho hp j hj
 have hx:=hstep i o s ho hG fun j hj=>hF j (hcl i o ho hp j hj)
 have fin:∀ s',(G s'∧F i s'∧∀ j,j<ops.size→j≠i→((Xk ops.toList []).getD j 0).testBit i=false→F j s→F j s') →
  (G s'∧(∀ j,(if j=i then true else L j)=true→j<ops.size)∧(∀ (j:Nat) o,(if j=i then true else L j)=true→ops[j]? = some o→∀ p∈XV o,(if p=i then true else L p)=true)∧∀ j,(if j=i then true else L j)=true→F j s'):=by
  rintro s' ⟨g,f,st⟩
  refine ⟨g,fun j hj=>?_,fun j oj hj hoj p hpm=>?_,fun j hj=>?_⟩
  ·by_cases hji:j=i
   ·rw[hji];exact hi
   ·rw[if_neg hji]at hj;exact hsz j hj
  ·by_cases hpi:p=i
   ·rw[if_pos hpi]
   ·rw[if_neg hpi]
    by_cases hji:j=i
    ·subst hji;rw[ho]at hoj;cases hoj;exact hp p hpm
    ·rw[if_neg hji]at hj;exact hdn j oj hj hoj p hpm
  ·by_cases hji:j=i
   ·rw[hji];exact f
   ·rw[if_neg hji]at hj
    refine st j (hsz j hj) hji ?_ (hF j hj)
    cases hbit:((Xk ops.toList []).getD j 0).testBit i with
    | false=>rfl
    | true=>
      have hjs:=hsz j hj
      have hoj:=Array.getElem?_eq_getElem hjs
      have:=hcl j _ hoj (hdn j _ hj hoj) i hbit
      rw[hn]at this
      cases this
 unfold WJ at hx ⊢
 cases hw:Yv ops s.fr o with
 | none=>rw[hw]at hx;exact hx.elim
 | some bb=>
   rw[hw]at hx
   cases bb with
   | false=>exact fin _ hx
   | true=>exact o3a fin (fun _ _ h=>h) hx
section
variable {ops:Array Oper} {o:Oper} {s:St} {K:St→Prop} {Q:Zk→St→Prop} {v:Value} {h':DHeap}
theorem N9a (hw:Yv ops s.fr o=some true) (hop:dOp P (Yy s.h.ng s.fr) o s.h=.ok (.value v) h') (hK:K ⟨s.fr.put o.dst v,s.df,h',s.rd⟩):WJ P ops o s K Q:=by
 unfold WJ
 rw[hw,hop]
 exact hK
theorem V9b (hw:Yv ops s.fr o=some true) (hop:dOp P (Yy s.h.ng s.fr) o s.h=.ok .skip h') (hK:K ⟨s.fr.put o.dst undef,s.df,h',s.rd⟩):WJ P ops o s K Q:=by
 unfold WJ
 rw[hw,hop]
 exact hK
end
theorem C5a (ops:Array Oper) (o:Oper) (s:St) (K:St→Prop) (Q:Zk→St→Prop):WJ P (ops.map YY) (YY o) s K Q=WJ P ops o s K Q:=by
 unfold WJ
 rw[c2a,g4a]
 rfl
theorem NC.anyL {id:Nat} {ops:Array Oper} {l:List Oper} {b:List Nat} {Q:Zk→St→Prop} {s:St} (hmix:P.follows .mixedOrders=true) (hd:E0a nt ops=true) (hlow:a5a ops=true) (hb:Xk ops.toList []=b) (hl:ops.map YY=l.toArray)
 (G:St→Prop) (F:Nat→St→Prop) (h0:G s)
 (hstep:∀ (i:Nat) (o:Oper) (s:St),l[i]? = some o→G s→(∀ j,(b.getD i 0).testBit j=true→F j s) →
   WJ P l.toArray o s (fun s'=>G s'∧F i s'∧∀ j,j<l.length→j≠i→(b.getD j 0).testBit i=false→F j s→F j s') Q)
 (hfin:∀ s,G s→(∀ i,i<l.length→F i s)→Q .normal s):NC P nt (.region id ops true) Q s:=by
 have hsz:ops.size=l.length:=by
  have:=congrArg Array.size hl
  simpa using this
 refine NC.anyF hmix hd hlow hb G F h0 (fun i o s ho g hF=>?_) (fun s g hF=>hfin s g fun i hi=>hF i (by omega))
 have ho':l[i]? = some (YY o):=by
  have:=congrArg (fun a:Array Oper=>a[i]?) hl
  simp only[Array.getElem?_map,ho,Option.map_some]at this
  simpa using this.symm
 have:=hstep i (YY o) s ho' g hF
 rw[← hl,C5a]at this
 rw[hsz]
 exact this
end Go.D
namespace Go.D
variable {P:Program}
end Go.D
namespace Go.D
variable {P:Program} {nt:Nat}
def YQ (l:List Oper) (i:Nat):Option Tmp:=(l[i]?).bind (·.dst)
def P0b (l:List Oper) (t:Tmp):Bool:=l.any fun o=>o.dst==some t
def R4a:List Oper→Bool
 | []=>true
 | o :: l=>o.dst.isSome&&!(l.any fun p=>p.dst==o.dst)&&R4a l
theorem b1b:∀ {l:List Oper},R4a l=true→∀ {i j:Nat} {a b:Oper},l[i]? = some a→l[j]? = some b→i≠j→a.dst≠b.dst
 | [],_,i,_,_,_,h,_,_=>by cases i <;> cases h
 | o :: l,hd,i,j,a,b,ha,hb,hij=>by
   simp only[R4a,Bool.and_eq_true,Bool.not_eq_true']at hd
   obtain ⟨⟨h1,h2⟩,h3⟩:=hd
   have hno:∀ {k:Nat} {c:Oper},l[k]? = some c→c.dst≠o.dst:=fun {k c} hc hcd=>by
    have:=List.any_eq_false.1 h2 c (List.mem_of_getElem? hc)
    simp[hcd]at this
   match i,j with
   | 0,0=>exact absurd rfl hij
   | 0,j+1=>cases ha;exact fun e=>hno (by simpa using hb) e.symm
   | i+1,0=>cases hb;exact hno (by simpa using ha)
   | i+1,j+1=>exact b1b h3 (i:=i) (j:=j) (by simpa using ha) (by simpa using hb) (by omega)
theorem B8a:∀ {l:List Oper},R4a l=true→∀ {i:Nat} {a:Oper},l[i]? = some a→∃ d,a.dst=some d
 | [],_,i,_,h=>by cases i <;> cases h
 | o :: l,hd,i,a,ha=>by
   simp only[R4a,Bool.and_eq_true,Bool.not_eq_true']at hd
   match i with
   | 0=>cases ha;exact Option.isSome_iff_exists.1 hd.1.1
   | i+1=>exact B8a hd.2 (by simpa using ha)
def ValAt (l:List Oper) (V:Nat→DHeap→Value→Prop) (i:Nat) (s:St):Prop:=∃ d v,YQ l i=some d∧s.fr d=some v∧V i s.h v
structure w1b (l:List Oper) (s0 s:St):Prop where
 df:s.df=s0.df
 rd:s.rd=s0.rd
 ext:Ext s0.h s.h
 fr:∀ t,P0b l t=false→s.fr t=s0.fr t
def l3c (V:Nat→DHeap→Value→Prop) (i:Nat) (o:Oper) (s s':St):Prop:=∃ v h',s'=⟨s.fr.put o.dst v,s.df,h',s.rd⟩∧Ext s.h h'∧V i h' v
theorem NC.vals {id:Nat} {ops:Array Oper} {l:List Oper} {b:List Nat} {Q:Zk→St→Prop} {s0:St} (hmix:P.follows .mixedOrders=true) (hd:E0a nt ops=true) (hlow:a5a ops=true) (hb:Xk ops.toList []=b) (hl:ops.map YY=l.toArray) (hown:R4a l=true)
 (V:Nat→DHeap→Value→Prop) (hmono:∀ i h h' v,Ext h h'→V i h v→V i h' v)
 (hstep:∀ (i:Nat) (o:Oper) (s:St),l[i]? = some o→w1b l s0 s→(∀ j,(b.getD i 0).testBit j=true→ValAt l V j s)→WJ P l.toArray o s (l3c V i o s) Q)
 (hfin:∀ s,w1b l s0 s→(∀ i,i<l.length→ValAt l V i s)→Q .normal s):NC P nt (.region id ops true) Q s0:=by
 refine NC.anyL hmix hd hlow hb hl (w1b l s0) (ValAt l V) ⟨rfl,rfl,.refl _,fun _ _=>rfl⟩ (fun i o s ho g hF=>?_) hfin
 obtain ⟨d,hod⟩:=B8a hown ho
 have fin:∀ s',l3c V i o s s'→w1b l s0 s'∧ValAt l V i s'∧∀ j,j<l.length→j≠i→(b.getD j 0).testBit i=false→ValAt l V j s→ValAt l V j s':=by
  rintro _ ⟨v,h',rfl,he,hv⟩
  refine ⟨⟨g.df,g.rd,g.ext.trans he,fun t ht=>?_⟩,⟨d,v,by simp[YQ,ho,hod],by rw[hod];exact Z3a _ _ _,hv⟩,fun j hj hji _ hf=>?_⟩
  ·have:t≠d:=fun e=>by
    have hc:P0b l t=true:=List.any_eq_true.2 ⟨o,List.mem_of_getElem? ho,by rw[hod,e];simp⟩
    rw[ht]at hc;cases hc
   show s.fr.put o.dst v t=_
   rw[hod,i3a _ _ this]
   exact g.fr t ht
  ·obtain ⟨dj,u,e1,e2,e3⟩:=hf
   have hoj:l[j]? = some l[j]:=List.getElem?_eq_getElem hj
   have e1':l[j].dst=some dj:=by simpa [YQ,hoj] using e1
   have:dj≠d:=fun e=>b1b hown hoj ho hji (by rw[e1',hod,e])
   refine ⟨dj,u,e1,?_,hmono _ _ _ _ he e3⟩
   show s.fr.put o.dst v dj=_
   rw[hod,i3a _ _ this]
   exact e2
 have hx:=hstep i o s ho g hF
 unfold WJ at hx ⊢
 cases hw:Yv l.toArray s.fr o with
 | none=>rw[hw]at hx;exact hx.elim
 | some bb=>
   rw[hw]at hx
   cases bb with
   | false=>exact fin _ hx
   | true=>exact o3a fin (fun _ _ h=>h) hx
theorem ValAt.eq {l:List Oper} {V:Nat→DHeap→Value→Prop} {i:Nat} {s:St} {d:Tmp} {c:Value} (a:ValAt l V i s) (hd:YQ l i=some d) (hc:∀ h v,V i h v→v=c):s.fr d=some c:=by
 obtain ⟨d',v,e1,e2,e3⟩:=a
 rw[hd]at e1
 cases e1
 rw[e2,hc _ _ e3]
theorem ValAt.ex {l:List Oper} {V:Nat→DHeap→Value→Prop} {i:Nat} {s:St} {d:Tmp} (a:ValAt l V i s) (hd:YQ l i=some d):∃ v,s.fr d=some v∧V i s.h v:=by
 obtain ⟨d',v,e1,e2,e3⟩:=a
 rw[hd]at e1
 cases e1
 exact ⟨v,e2,e3⟩
section
variable {ops:Array Oper} {o:Oper} {s:St} {V:Nat→DHeap→Value→Prop} {i:Nat} {Q:Zk→St→Prop} {v:Value} {h':DHeap}
end
theorem NC.known {id:Nat} {ops:Array Oper} {l:List Oper} {b:List Nat} {Q:Zk→St→Prop} {s0:St} (L:List Value) (hmix:P.follows .mixedOrders=true) (hd:E0a nt ops=true) (hlow:a5a ops=true) (hb:Xk ops.toList []=b) (hl:ops.map YY=l.toArray) (hown:R4a l=true)
 (hstep:∀ (i:Nat) (o:Oper) (s:St),l[i]? = some o→w1b l s0 s→(∀ j,(b.getD i 0).testBit j=true→ValAt l (fun i _ v=>v=L.getD i undef) j s)→WJ P l.toArray o s (l3c (fun i _ v=>v=L.getD i undef) i o s) Q)
 (hfin:∀ s,w1b l s0 s→(∀ i,i<l.length→ValAt l (fun i _ v=>v=L.getD i undef) i s)→Q .normal s):NC P nt (.region id ops true) Q s0:=
 NC.vals hmix hd hlow hb hl hown _ (fun _ _ _ _ _ h=>h) hstep hfin
theorem S2b (A:List Value):∀ (vs B:List Value) (k:Nat),Xy (A++B) (A.length+k) vs=A++Xy B k vs
 | [],B,k=>rfl
 | v :: vs,B,k=>by
   simp only[Xy]
   rw[List.set_append_right _ _ (Nat.le_add_right _ _),Nat.add_sub_cancel_left,Nat.add_assoc]
   exact S2b A vs (B.set k v) (k+1)
end Go.D
namespace Go.D
variable {P:Program} {nt:Nat}
def Q4a:List Oper→Bool
 | []=>true
 | o :: l=>(o.dst.isNone||!(l.any fun p=>p.dst==o.dst))&&Q4a l
theorem T2a:∀ {l:List Oper},Q4a l=true→∀ {i j:Nat} {a b:Oper} {t:Tmp},l[i]? = some a→l[j]? = some b→a.dst=some t→b.dst=some t→i=j
 | [],_,i,_,_,_,_,h,_,_,_=>by cases i <;> cases h
 | o :: l,hd,i,j,a,b,t,ha,hb,h1,h2=>by
   simp only[Q4a,Bool.and_eq_true,Bool.or_eq_true,Bool.not_eq_true']at hd
   obtain ⟨h3,h4⟩:=hd
   have hno:∀ {k:Nat} {c:Oper},l[k]? = some c→o.dst=some t→c.dst=some t→False:=fun {k c} hc ho hct=>by
    rcases h3 with h3 | h3
    ·rw[ho]at h3;cases h3
    ·have:=List.any_eq_false.1 h3 c (List.mem_of_getElem? hc)
     simp[hct,ho]at this
   match i,j with
   | 0,0=>rfl
   | 0,j+1=>cases ha;exact (hno (by simpa using hb) h1 h2).elim
   | i+1,0=>cases hb;exact (hno (by simpa using ha) h2 h1).elim
   | i+1,j+1=>exact congrArg (·+1) (T2a h4 (i:=i) (j:=j) (by simpa using ha) (by simpa using hb) h1 h2)
def RegAt (l:List Oper) (V:Nat→DHeap→Value→Prop) (i:Nat) (s:St):Prop:=∃ v,(∀ d,YQ l i=some d→s.fr d=some v)∧V i s.h v
structure g8a (l:List Oper) (E:DHeap→DHeap→Prop) (s0 s:St):Prop where
 df:s.df=s0.df
 rd:s.rd=s0.rd
 ext:E s0.h s.h
 fr:∀ t,P0b l t=false→s.fr t=s0.fr t
def g8b (E:DHeap→DHeap→Prop) (V:Nat→DHeap→Value→Prop) (i:Nat) (o:Oper) (s s':St):Prop:=
 ∃ v h',s'=⟨s.fr.put o.dst v,s.df,h',s.rd⟩∧E s.h h'∧V i h' v∧∀ j u,j≠i→V j s.h u→V j h' u
theorem NC.regs {id:Nat} {ops:Array Oper} {l:List Oper} {b:List Nat} {Q:Zk→St→Prop} {s0:St} (hmix:P.follows .mixedOrders=true) (hd:E0a nt ops=true) (hlow:a5a ops=true) (hb:Xk ops.toList []=b) (hl:ops.map YY=l.toArray) (hown:Q4a l=true)
 (E:DHeap→DHeap→Prop) (hrefl:∀ h,E h h) (htrans:∀ a b c,E a b→E b c→E a c) (V:Nat→DHeap→Value→Prop)
 (hstep:∀ (i:Nat) (o:Oper) (s:St),l[i]? = some o→g8a l E s0 s→(∀ j t,YQ l j=some t→(b.getD j 0).testBit i=true→s.fr t=s0.fr t)→(∀ t,YQ l i=some t→s.fr t=s0.fr t)→(∀ j,(b.getD i 0).testBit j=true→RegAt l V j s)→WJ P l.toArray o s (g8b E V i o s) Q)
 (hfin:∀ s,g8a l E s0 s→(∀ i,i<l.length→RegAt l V i s)→Q .normal s):NC P nt (.region id ops true) Q s0:=by
 subst hb
 have hsz:ops.size=l.length:=by
  have:=congrArg Array.size hl
  simpa using this
 have hat:∀ {i:Nat} {o:Oper},ops[i]? = some o→l[i]? = some (YY o):=fun {i o} ho=>by
  have:=congrArg (fun a:Array Oper=>a[i]?) hl
  simp only[Array.getElem?_map,ho,Option.map_some]at this
  simpa using this.symm
 refine NC.any hmix hd (I5a hlow) (fun L s=>g8a l E s0 s∧(∀ i,L i=true→i<ops.size)∧(∀ (i:Nat) o,L i=true→ops[i]? = some o→∀ p∈XV o,L p=true)∧(∀ i,L i=true→RegAt l V i s)∧∀ j t,YQ l j=some t→L j=false→s.fr t=s0.fr t)
  ⟨⟨rfl,rfl,hrefl _,fun _ _=>rfl⟩,by simp,by simp,by simp,fun _ _ _ _=>rfl⟩ ?_ (fun L s hI hall=>hfin s hI.1 fun i hi=>hI.2.2.2.1 i (hall i (by omega)))
 rintro L s i o ⟨hG,hsz',hdn,hF,hpre⟩ ho hn hp
 have hi:=(Array.getElem?_eq_some_iff.1 ho).1
 have hcl:∀ (k:Nat) o,ops[k]? = some o→(∀ p∈XV o,L p=true)→∀ j,((Xk ops.toList []).getD k 0).testBit j=true→L j=true:=fun k o ho hp j hj=>
  p4a (D:=fun j=>L j=true) (fun i o hi ho p hp=>hdn i o hi ho p hp) k o ho hp j hj
 have hx:=hstep i (YY o) s (hat ho) hG (fun j t hj hbit=>hpre j t hj (by
  cases hL:L j with
  | false=>rfl
  | true=>
    have hjs:=hsz' j hL
    have hoj:=Array.getElem?_eq_getElem hjs
    have:=hcl j _ hoj (hdn j _ hL hoj) i hbit
    rw[hn]at this
    cases this)) (fun t ht=>hpre i t ht hn) fun j hj=>hF j (hcl i o ho hp j hj)
 have fin:∀ s',g8b E V i (YY o) s s' →
  (g8a l E s0 s'∧(∀ j,(if j=i then true else L j)=true→j<ops.size)∧(∀ (j:Nat) o,(if j=i then true else L j)=true→ops[j]? = some o→∀ p∈XV o,(if p=i then true else L p)=true)∧(∀ j,(if j=i then true else L j)=true→RegAt l V j s')∧∀ j t,YQ l j=some t→(if j=i then true else L j)=false→s'.fr t=s0.fr t):=by
  rintro _ ⟨v,h',rfl,he,hv,hst⟩
  have hdst:YQ l i=o.dst:=by simp[YQ,hat ho,YY]
  have hput:∀ t,o.dst≠some t→s.fr.put o.dst v t=s.fr t:=fun t ht=>by
   cases hod:o.dst with
   | none=>rfl
   | some d=>exact i3a _ _ (fun e=>ht (by rw[hod,e]))
  refine ⟨⟨hG.df,hG.rd,htrans _ _ _ hG.ext he,fun t ht=>?_⟩,fun j hj=>?_,fun j oj hj hoj p hpm=>?_,fun j hj=>?_,fun j t hj hLj=>?_⟩
  ·have:o.dst≠some t:=fun e=>by
    have hc:P0b l t=true:=List.any_eq_true.2 ⟨YY o,List.mem_of_getElem? (hat ho),by show (o.dst==some t)=true;rw[e];simp⟩
    rw[ht]at hc;cases hc
   exact (hput t this).trans (hG.fr t ht)
  ·by_cases hji:j=i
   ·rw[hji];exact hi
   ·rw[if_neg hji]at hj;exact hsz' j hj
  ·by_cases hpi:p=i
   ·rw[if_pos hpi]
   ·rw[if_neg hpi]
    by_cases hji:j=i
    ·subst hji;rw[ho]at hoj;cases hoj;exact hp p hpm
    ·rw[if_neg hji]at hj;exact hdn j oj hj hoj p hpm
  ·by_cases hji:j=i
   ·subst hji
    refine ⟨v,fun d hd=>?_,hv⟩
    rw[hdst]at hd
    show s.fr.put o.dst v d=_
    rw[hd]
    exact Z3a _ _ _
   ·rw[if_neg hji]at hj
    obtain ⟨u,h1,h2⟩:=hF j hj
    refine ⟨u,fun d hd=>?_,hst j u hji h2⟩
    have hne:o.dst≠some d:=fun e=>by
     have hjs:=hsz' j hj
     have hoj:=hat (Array.getElem?_eq_getElem hjs)
     have hd2:(YY ops[j]).dst=some d:=by simpa [YQ,hoj] using hd
     exact hji (T2a hown hoj (hat ho) hd2 e)
    exact (hput d hne).trans (h1 d hd)
  ·by_cases hji:j=i
   ·rw[if_pos hji]at hLj;cases hLj
   ·rw[if_neg hji]at hLj
    have hne:o.dst≠some t:=fun e=>by
     unfold YQ at hj
     cases hlj:l[j]? with
     | none=>rw[hlj]at hj;cases hj
     | some oj=>
       rw[hlj]at hj
       exact hji (T2a hown hlj (hat ho) (by simpa using hj) e)
    exact (hput t hne).trans (hpre j t hj hLj)
 rw[← hl,C5a]at hx
 unfold WJ at hx ⊢
 cases hw:Yv ops s.fr o with
 | none=>rw[hw]at hx;exact hx.elim
 | some bb=>
   rw[hw]at hx
   cases bb with
   | false=>exact fin _ hx
   | true=>exact o3a fin (fun _ _ h=>h) hx
theorem RegAt.eq {l:List Oper} {V:Nat→DHeap→Value→Prop} {i:Nat} {s:St} {d:Tmp} {c:Value} (a:RegAt l V i s) (hd:YQ l i=some d) (hc:∀ h v,V i h v→v=c):s.fr d=some c:=by
 obtain ⟨v,e2,e3⟩:=a
 rw[e2 d hd,hc _ _ e3]
theorem RegAt.ex {l:List Oper} {V:Nat→DHeap→Value→Prop} {i:Nat} {s:St} {d:Tmp} (a:RegAt l V i s) (hd:YQ l i=some d):∃ v,s.fr d=some v∧V i s.h v:=by
 obtain ⟨v,e2,e3⟩:=a
 exact ⟨v,e2 d hd,e3⟩
theorem RegAt.fact {l:List Oper} {V:Nat→DHeap→Value→Prop} {i:Nat} {s:St} (a:RegAt l V i s):∃ v,V i s.h v:=by
 obtain ⟨v,_,e3⟩:=a
 exact ⟨v,e3⟩
section
variable {ops:Array Oper} {o:Oper} {s:St} {E:DHeap→DHeap→Prop} {V:Nat→DHeap→Value→Prop} {i:Nat} {Q:Zk→St→Prop} {v:Value} {h':DHeap}
theorem J0a (hE:∀ h,E h h) (hw:Yv ops s.fr o=some true) (hop:dOp P (Yy s.h.ng s.fr) o s.h=.ok (.value v) s.h) (hV:V i s.h v):WJ P ops o s (g8b E V i o s) Q:=
 N9a hw hop ⟨v,_,rfl,hE _,hV,fun _ _ _ h=>h⟩
theorem M2b (hw:Yv ops s.fr o=some true) (hop:dOp P (Yy s.h.ng s.fr) o s.h=.ok .skip h') (he:E s.h h') (hV:V i h' undef) (hst:∀ j u,j≠i→V j s.h u→V j h' u):WJ P ops o s (g8b E V i o s) Q:=
 V9b hw hop ⟨undef,_,rfl,he,hV,hst⟩
end
def V6a (P:Program) (t:TypeId):Option (Nat × Nat):=
 match P.underlying t with
 | some (.array len e)=>(P.info? e).map fun i=>(len,i.size)
 | _=>none
theorem N4a {t:TypeId} {len z id o:Nat} {k:IntKind} {i:Int} (h1:V6a P t=some (len,z)) (h2:0≤i) (h3:i<(len:Int)):Yj P t (.pointer (some ⟨id,o,none⟩)) (.int k i)=some (.pointer (some ⟨id,o+i.toNat*z,none⟩)):=by
 unfold V6a at h1
 split at h1
 ·rename_i e e1
  cases e2:P.info? e with
  | none=>rw[e2]at h1;cases h1
  | some inf=>
    rw[e2]at h1
    simp only[Option.map_some,Option.some.injEq,Prod.mk.injEq]at h1
    obtain ⟨rfl,rfl⟩:=h1
    simp only[Yj,e1,e2]
    rw[if_pos ⟨h2,h3⟩]
 ·cases h1
end Go.D
namespace Go.D
structure Instr where
 pos:Int
 op:Int
 a:Int
 b:Int
 imm:Int
 deriving DecidableEq,Inhabited
def fInstr:FRep Instr:=fM (fP (fI .i64) (fP (fI .i64) (fP (fI .i64) (fP (fI .i64) (fI .i64))))) (fun x=>(x.pos,x.op,x.a,x.b,x.imm)) fun x y h=>by
 cases x;cases y;simp at h;simp[h]
abbrev XJ (x:Instr):Value:=.agg #[.int .i64 x.pos,.int .i64 x.op,.int .i64 x.a,.int .i64 x.b,.int .i64 x.imm]
structure Txn where
 ses:Int
 req:Int
 code:List Int
 args:List Int
 reads:List Key
 writes:List Key
def rTxn:Rep Txn:=rM (rP fI64.rep (rP fI64.rep (rP (rSl fU8.rep) (rP (rSl fI64.rep) (rP (rSl fKey.rep) (rSl fKey.rep)))))) fun x=>(x.ses,x.req,x.code,x.args,x.reads,x.writes)
abbrev Ww (ses req:Int) (vc va vr vw:Value):Value:=.agg #[.int .i64 ses,.int .i64 req,vc,va,vr,vw]
end Go.D
namespace Go.D
end Go.D
namespace Go.D
variable {P:Program} {nt:Nat}
theorem N2a {ρ ρ':Operand→Option Value}:∀ {l:List Operand},(∀ y∈l,ρ y=ρ' y)→Xw ρ l=Xw ρ' l
 | [],_=>rfl
 | x :: l,h=>by
   have ih:=N2a (l:=l) fun y hy=>h y (List.mem_cons_of_mem _ hy)
   simp only[Xw,h x List.mem_cons_self,ih]
theorem A4a {ρ ρ':Operand→Option Value}:∀ {l:List (Nat × Operand)},(∀ y∈l.map (·.2),ρ y=ρ' y)→q0a ρ l=q0a ρ' l
 | [],_=>rfl
 | (i,x) :: l,h=>by
   have ih:=A4a (l:=l) fun y hy=>h y (List.mem_cons_of_mem _ hy)
   have hx:ρ x=ρ' x:=h x List.mem_cons_self
   simp only[q0a,hx,ih]
theorem y5a {ρ ρ':Operand→Option Value} {x:Option Operand} (h:∀ y,x=some y→ρ y=ρ' y):z0a ρ x=z0a ρ' x:=by
 cases x with
 | none=>rfl
 | some y=>simp only[z0a,h y rfl]
theorem P0c {ρ ρ':Operand→Option Value} {o:Oper} {h:DHeap} (hr:∀ y∈o.op.operands,ρ y=ρ' y):dOp P ρ o h=dOp P ρ' o h:=by
 obtain ⟨dst,op,ty,pos,aft,gd⟩:=o
 simp only at hr
 cases op with
 | makeFunc fn first cap=>
   have h1:Xw ρ first.toList=Xw ρ' first.toList:=N2a fun y hy=>hr y (by simp only[Op.operands,Array.mem_append];exact .inl (by simpa using hy))
   have h2:Xw ρ cap.toList=Xw ρ' cap.toList:=N2a fun y hy=>hr y (by simp only[Op.operands,Array.mem_append];exact .inr (by simpa using hy))
   simp only[dOp,h1,h2]
 | build t ps=>
   have h1:q0a ρ ps.toList=q0a ρ' ps.toList:=A4a fun y hy=>hr y (by simpa [Op.operands] using hy)
   simp only[dOp,h1]
 | buildSlice t n ps=>
   have h1:q0a ρ ps.toList=q0a ρ' ps.toList:=A4a fun y hy=>hr y (by simpa [Op.operands] using hy)
   simp only[dOp,h1]
 | slice t x lo hi mx=>
   have h0:ρ x=ρ' x:=hr x (by simp[Op.operands])
   have h1:z0a ρ lo=z0a ρ' lo:=y5a fun y hy=>hr y (by simp[Op.operands,hy])
   have h2:z0a ρ hi=z0a ρ' hi:=y5a fun y hy=>hr y (by simp[Op.operands,hy])
   have h3:z0a ρ mx=z0a ρ' mx:=y5a fun y hy=>hr y (by simp[Op.operands,hy])
   simp only[dOp,h0,h1,h2,h3]
 | call c=>
   obtain ⟨cal,args,ts⟩:=c
   have h1:Xw ρ args.toList=Xw ρ' args.toList:=N2a fun y hy=>hr y (by simp only[Op.operands,Call.operands,Array.mem_append];exact .inr (by simpa using hy))
   cases cal with
   | value f=>
     have h2:ρ f=ρ' f:=hr f (by simp[Op.operands,Call.operands])
     simp only[dOp,h1]
     generalize Xw ρ' args.toList=x
     cases x with
     | none=>rfl
     | some vs=>simp only[h2]
   | builtin b=>
     simp only[dOp,h1]
     generalize Xw ρ' args.toList=x
     rcases x with _ | _ | ⟨_,_ | ⟨_,_ | _⟩⟩ <;> cases b <;> rfl
   | _=>
     simp only[dOp,h1]
 | defer c=>
   obtain ⟨cal,args,ts⟩:=c
   have h1:Xw ρ args.toList=Xw ρ' args.toList:=N2a fun y hy=>hr y (by simp only[Op.operands,Call.operands,Array.mem_append];exact .inr (by simpa using hy))
   cases cal with
   | value f=>
     have h2:ρ f=ρ' f:=hr f (by simp[Op.operands,Call.operands])
     simp only[dOp,h1]
     generalize Xw ρ' args.toList=x
     cases x with
     | none=>rfl
     | some vs=>simp only[h2]
   | _=>simp only[dOp,h1]
 | makeMap t r=>cases r <;> rfl
 | _=>first | rfl | (simp[Op.operands]at hr;simp only[dOp,hr])
theorem w6b {ops:Array Oper} {o:Oper} {fr fr':Fr} {n:Nat} (hl:∀ t∈looks ops o,fr' t=fr t):∀ y∈o.op.operands,Yy n fr' y=Yy n fr y:=by
 intro y hy
 cases y with
 | tmp t=>exact hl t (List.mem_append_left _ (List.mem_filterMap.2 ⟨.tmp t,by simpa using hy,rfl⟩))
 | _=>rfl
theorem r2b {ops:Array Oper} {o:Oper} {fr fr':Fr} {n:Nat} {h:DHeap} (hl:∀ t∈looks ops o,fr' t=fr t):dOp P (Yy n fr') o h=dOp P (Yy n fr) o h:=P0c (w6b hl)
theorem Y7a {ops:Array Oper} {o:Oper} {fr fr':Fr} (hl:∀ t∈looks ops o,fr' t=fr t):Yv ops fr' o=Yv ops fr o:=by
 unfold Yv
 cases hg:o.guard with
 | none=>rfl
 | some g=>
   obtain ⟨j,want⟩:=g
   simp only
   cases hd:(ops[j]?).bind (·.dst) with
   | none=>rfl
   | some d=>
     have:d∈looks ops o:=List.mem_append_right _ (by rw[hg];simp[hd])
     simp only[hl d this]
def h2a (id0 n:Nat):Nat→Option Nat:=fun j=>if j=id0 then some n else if j<n then some j else none
theorem c9b {ops:Array Oper} (hd:E0a nt ops=true) {k:Nat} {o:Oper} (ho:ops[k]? = some o) {s:St} {zs:List Value} {z id0:Nat} (hw:Yv ops s.fr o=some true)
 (hop:dOp P (Yy s.h.ng s.fr) o s.h=.ok (.value (.pointer (some ⟨s.h.next,0,none⟩))) (s.h.push (.row zs z false))) (hz:zs.all YW=true) (hg:s.h.get id0=some (.row zs z false)) (h0:id0<s.h.next) (hdf:s.df=[])
 {n:Nat} {r:Option Nat} {ι:Inj} {a:Act} {w:World} {Qc:Exit→Act→World→Prop} {Kw:Act→World→Prop} (hs:WK nt ι s r a w) (hu:ι id0=none)
 (hK:∀ ι1 a' w',WK nt (ι1.via (h2a id0 s.h.next)) ⟨s.fr.put o.dst (.pointer (some ⟨id0,0,none⟩)),s.df,s.h,s.rd⟩ r a' w'→ι.le (ι1.via (h2a id0 s.h.next))→ι1 id0=none→Step ι ι1 s.h (s.h.push (.row zs z false)) w w'→Kw a' w'):wpOpIn (FW r) n P ops Qc k Kw a w:=by
 refine q7a hd ho (K:=fun s'=>s'=⟨s.fr.put o.dst (.pointer (some ⟨s.h.next,0,none⟩)),s.df,s.h.push (.row zs z false),s.rd⟩) (Q:=fun _ _=>False) ?_ hs (fun ι1 s' a' w' hs' _ sr st=>?_) (fun _ _ _ _ _ _ hq=>hq.elim)
 ·unfold WJ
  rw[hw,hop]
  rfl
 subst hs'
 have hπι:∀ i e,ι i=some e→h2a id0 s.h.next i=some i:=fun i e he=>by
  have h1:i≠id0:=fun e2=>by rw[e2,hu]at he;cases he
  have h2:=hs.sim.lt i e he
  unfold h2a
  rw[if_neg h1,if_pos h2]
 have hnone:ι1 id0=none:=by
  cases he:ι1 id0 with
  | none=>rfl
  | some e=>
    have:=(st.new id0 e he hu).1
    omega
 have hle:ι.le (ι1.via (h2a id0 s.h.next)):=fun i e he=>Inj.via_of (hπι i e he) (st.le i e he)
 have hself:VRen (h2a id0 s.h.next) (.pointer (some ⟨id0,0,none⟩)) (.pointer (some ⟨s.h.next,0,none⟩)):=.ptr (by unfold h2a;rw[if_pos rfl])
 refine hK ι1 a' w' ⟨⟨sr.fr.1,fun t u hu'=>?_⟩,?_,?_,hs.rd.mono hle⟩ hle hnone st
 ·by_cases ht:o.dst=some t
  ·have e1:s.fr.put o.dst (.pointer (some ⟨id0,0,none⟩)) t=some (.pointer (some ⟨id0,0,none⟩)):=by rw[ht];exact Z3a _ _ _
   have hu3:=e1.symm.trans hu'
   cases hu3
   exact hself.rel (sr.fr.2 t _ (by show s.fr.put o.dst _ t=_;rw[ht];exact Z3a _ _ _))
  ·have e1:∀ v,s.fr.put o.dst v t=s.fr t:=fun v=>by
    cases hod:o.dst with
    | none=>rfl
    | some d=>exact i3a _ _ (fun e=>ht (by rw[hod,e]))
   have hu2:s.fr t=some u:=(e1 _).symm.trans hu'
   exact (VRel.ren_self hπι (hs.fr.2 t u hu2)).rel (sr.fr.2 t u ((e1 _).trans hu2))
 ·have:=sr.df
  simp only at this
  rw[hdf]at this
  show DefRel _ s.df _
  rw[hdf]
  cases hq:a'.defers with
  | nil=>trivial
  | cons x xs=>rw[hq]at this;exact this.elim
 ·refine Sim.ren (h1:=s.h.push (.row zs z false)) ⟨fun j j' i h1 h2=>?_,fun j i h1=>?_,rfl,fun g hg'=>?_,fun j i o1 h1 h2 h3=>?_⟩ sr.sim
  ·unfold h2a at h1 h2
   split at h1 <;> split at h2
   ·rename_i a b;rw[a,b]
   ·cases h1
    split at h2
    ·cases h2;omega
    ·cases h2
   ·cases h2
    split at h1
    ·cases h1;omega
    ·cases h1
   ·split at h1 <;> split at h2 <;> first | (cases h1;cases h2;rfl) | (cases h1;done) | (cases h2;done)
  ·unfold h2a at h1
   show j<s.h.next
   split at h1
   ·omega
   ·split at h1
    ·assumption
    ·cases h1
  ·obtain ⟨e,he,_⟩:=hs.sim.glob g hg'
   exact hπι g e he
  ·unfold h2a at h1
   split at h1
   ·rename_i hj
    cases h1
    rw[Zz]at h3
    cases h3
    refine ⟨.row zs z false,by rw[hj];exact hg,rfl,rfl,Nat.le_refl _,fun i v u hv hu'=>?_⟩
    rw[hv]at hu'
    cases hu'
    exact w2b _ (List.all_eq_true.1 hz v (List.mem_of_getElem? hv))
   ·split at h1
    ·rename_i hj hlt
     cases h1
     have h3':s.h.get j=some o1:=(ZU _ _ (by omega)).symm.trans h3
     obtain ⟨e,he⟩:=h2
     cases hιj:ι j with
     | none=>
       have:=(st.new j e he hιj).1
       omega
     | some e2=>
       obtain ⟨o2,g2,r2⟩:=hs.sim.obj j e2 hιj
       rw[h3']at g2
       cases g2
       exact ⟨o1,h3',r2.self hπι⟩
    ·cases h1
theorem NC.any2 {id:Nat} {ops:Array Oper} {Q:Zk→St→Prop} {s:St} (hmix:P.follows .mixedOrders=true) (hd:E0a nt ops=true)
 (hlow:∀ (i:Nat) o,ops[i]? = some o→∀ p∈XV o,p<i) (g:Nat→Option Nat) (h1:DHeap) (e1:Ext s.h h1) (hg:∀ i x,g i=some x→s.h.next≤x∧x<h1.next) (ginj:∀ i j x,g i=some x→g j=some x→i=j)
 (I:(Nat→Bool)→St→Prop) (h0:I (fun _=>false) ⟨s.fr,s.df,h1,s.rd⟩)
 (hstep:∀ (L:Nat→Bool) (s':St) (i:Nat) (o:Oper),I L s'→ops[i]? = some o→L i=false→(∀ p∈XV o,L p=true) →
   (g i=none∧WJ P ops o s' (fun s2=>HStep s'.h s2.h→I (fun j=>if j=i then true else L j) s2) Q) ∨
   ∃ id0 zs z,g i=some id0∧Yv ops s'.fr o=some true∧dOp P (Yy s'.h.ng s'.fr) o s'.h=.ok (.value (.pointer (some ⟨s'.h.next,0,none⟩))) (s'.h.push (.row zs z false))∧zs.all YW=true∧s'.h.get id0=some (.row zs z false)∧s'.df=[] ∧
    I (fun j=>if j=i then true else L j) ⟨s'.fr.put o.dst (.pointer (some ⟨id0,0,none⟩)),s'.df,s'.h,s'.rd⟩)
 (hfin:∀ (L:Nat→Bool) (s:St),I L s→(∀ i,i<ops.size→L i=true)→Q .normal s):NC P nt (.region id ops true) Q s:=by
 intro n r ι0 a0 w0 hs0
 refine wpIn_region_any hmix ?_
 have key:∀ (fuel:Nat) (L:Array Bool) (s':St) (ι:Inj) (a:Act) (w:World),x0a L ops.size≤fuel→L.size=ops.size→I (fun j=>L.getD j false) s'→HStep h1 s'.h→(∀ i x,g i=some x→L.getD i false=false→ι x=none)→WK nt ι s' r a w→Step ι0 ι s.h s'.h w0 w →
  wpAnyIn (FW r) n P .any ops (fun ex a' w'=>∃ ι' e s',Q e s'∧HStep s.h s'.h∧a2a ι' e ex∧WK nt ι' s' r a' w'∧Step ι0 ι' s.h s'.h w0 w') fuel L a w:=by
  have hh1:HStep s.h h1:=⟨e1.next,e1.ng⟩
  have fin:∀ (L:Array Bool) (s':St) (ι:Inj) (a:Act) (w:World),L.size=ops.size→I (fun j=>L.getD j false) s'→HStep h1 s'.h→WK nt ι s' r a w→Step ι0 ι s.h s'.h w0 w→Region.ready .any ops L=[] →
   ∃ ι' e s',Q e s'∧HStep s.h s'.h∧a2a ι' e .normal∧WK nt ι' s' r a w∧Step ι0 ι' s.h s'.h w0 w:=by
   intro L s' ι a w hL hI hh hs hst hr
   have hfull:∀ i,i<ops.size→L.getD i false=true:=by
    intro i
    induction i using Nat.strongRecOn with
    | _ i ih=>
      intro hi
      cases hLi:L.getD i false with
      | true=>rfl
      | false=>
        exfalso
        have:i∈Region.ready .any ops L:=mem_ready.2 ⟨by rw[P5a (by rw[hL];exact hi)];exact hLi,ops[i],Array.getElem?_eq_getElem hi,fun e he hb=>?_⟩
        ·rw[hr]at this;cases this
        ·have hpm:e.on∈XV ops[i]:=List.mem_filterMap.2 ⟨e,by simpa using he,by rw[if_pos hb]⟩
         have hlt:=hlow i _ (Array.getElem?_eq_getElem hi) _ hpm
         exact ih e.on hlt (by omega)
   exact ⟨ι,.normal,s',hfin _ _ hI hfull,hh1.trans hh,trivial,hs,hst⟩
  intro fuel
  induction fuel with
  | zero=>
    intro L s' ι a w hu hL hI hh hU hs hst
    have hr:Region.ready .any ops L=[]:=by
     rw[List.eq_nil_iff_forall_not_mem]
     intro i hi
     obtain ⟨h1,o,h2,_⟩:=mem_ready.1 hi
     have:=U3a (l:=L) ops.size (by omega) i (Array.getElem?_eq_some_iff.1 h2).1
     rw[h1]at this;cases this
    exact ⟨hr,fin L s' ι a w hL hI hh hs hst hr⟩
  | succ fuel ih=>
    intro L s' ι a w hu hL hI hh hU hs hst
    refine ⟨fin L s' ι a w hL hI hh hs hst,fun i hi=>?_⟩
    obtain ⟨h1',o,ho,h2⟩:=mem_ready.1 hi
    have his:i<ops.size:=(Array.getElem?_eq_some_iff.1 ho).1
    have hiL:i<L.size:=by rw[hL];exact his
    have hn:L.getD i false=false:=by rw[← P5a hiL];exact h1'
    have hp:∀ p∈XV o,L.getD p false=true:=by
     intro p hp
     obtain ⟨e,he,hh⟩:=List.mem_filterMap.1 hp
     split at hh
     ·rename_i hb;cases hh;exact h2 e (by simpa using he) hb
     ·cases hh
    have hun:=I4a hiL h1' ops.size
    rw[if_pos his]at hun
    have hset:(fun j=>(L.setIfInBounds i true).getD j false)=fun j=>if j=i then true else L.getD j false:=by
     funext j
     exact F5a hiL
    have hsj:∀ j,(L.setIfInBounds i true).getD j false=if j=i then true else L.getD j false:=fun j=>F5a hiL
    rcases hstep _ s' i o hI ho hn hp with ⟨hgi,hone⟩ | ⟨id0,zs,z,hgi,hw,hop,hz,hget,hdf,hI2⟩
    ·refine q7a hd ho hone hs (fun ι' s2 a' w' hI2 g1 g2 g3=>?_) (fun ι' e s2 ex a' w' hq g1 g2 g3 g4=>⟨ι',e,s2,hq,(hh1.trans hh).trans g1,g2,g3,hst.trans g4⟩)
     refine ih _ s2 ι' a' w' (by omega) (by simpa using hL) (by rw[hset];exact hI2 g1) (hh.trans g1) (fun j x hj hLj=>?_) g2 (hst.trans g3)
     rw[hsj]at hLj
     by_cases hji:j=i
     ·rw[if_pos hji]at hLj;cases hLj
     ·rw[if_neg hji]at hLj
      have h4:=hU j x hj hLj
      cases h5:ι' x with
      | none=>rfl
      | some e=>
        have:=(g3.new x e h5 h4).1
        have:=(hg j x hj).2
        have:=hh.next
        omega
    ·have hlt:id0<s'.h.next:=Nat.lt_of_lt_of_le (hg i id0 hgi).2 hh.next
     refine c9b hd ho hw hop hz hget hlt hdf hs (hU i id0 hgi hn) fun ι1 a' w' sr hle hnone st=>?_
     have st2:=hst.trans st
     have h0n:ι0 s'.h.next=none:=by
      cases h5:ι0 s'.h.next with
      | none=>rfl
      | some e=>
        have:=hs0.sim.lt _ e h5
        have:=hst.next
        omega
     refine ih _ ⟨s'.fr.put o.dst (.pointer (some ⟨id0,0,none⟩)),s'.df,s'.h,s'.rd⟩ _ a' w' (by omega) (by simpa using hL) (by rw[hset];exact hI2) hh (fun j x hj hLj=>?_) sr ⟨Inj.le_trans hst.le hle,fun x e hx1 hx2=>?_,hst.next,hst.ng,st2.os,st2.tape,st2.output,st2.size,st2.frame,st2.drawn⟩
     ·rw[hsj]at hLj
      by_cases hji:j=i
      ·rw[if_pos hji]at hLj;cases hLj
      ·rw[if_neg hji]at hLj
       have h4:=hU j x hj hLj
       have hx0:x≠id0:=fun e=>hji (ginj j i id0 (by rw[← e];exact hj) hgi)
       have hxl:x<s'.h.next:=Nat.lt_of_lt_of_le (hg j x hj).2 hh.next
       have h6:h2a id0 s'.h.next x=some x:=by
        unfold h2a
        rw[if_neg hx0,if_pos hxl]
       show (h2a id0 s'.h.next x).bind ι1=none
       rw[h6]
       show ι1 x=none
       cases h5:ι1 x with
       | none=>rfl
       | some e=>
         have:=(st.new x e h5 h4).1
         omega
     ·obtain ⟨y,hy1,hy2⟩:=Inj.via_some hx1
      unfold h2a at hy1
      split at hy1
      ·rename_i hxe
       cases hy1
       have:=st2.new _ e hy2 h0n
       exact ⟨by rw[hxe];exact (hg i id0 hgi).1,this.2⟩
      ·split at hy1
       ·cases hy1
        exact st2.new _ e hy2 hx2
       ·cases hy1
 have hgf:∀ j,(Array.replicate ops.size false).getD j false=false:=by
  intro j;simp only[Array.getD_eq_getD_getElem?,Array.getElem?_replicate];split <;> rfl
 have hsim:Sim ι0 h1 w0:=⟨fun x e he=>Nat.lt_of_lt_of_le (hs0.sim.lt x e he) e1.next,hs0.sim.blk,fun x e he=>by
  obtain ⟨o,g1,g2⟩:=hs0.sim.obj x e he
  exact ⟨o,(e1.get x (hs0.sim.lt x e he)).trans g1,g2⟩,fun x y e e' hx hy hne hb=>by
  rw[e1.get x (hs0.sim.lt x e hx),e1.get y (hs0.sim.lt y e' hy)]
  exact hs0.sim.sep x y e e' hx hy hne hb,fun x hx=>hs0.sim.glob x (by rw[e1.ng]at hx;exact hx)⟩
 have hst0:Step ι0 ι0 s.h h1 w0 w0:=⟨Inj.le_refl _,fun x e h2 h3=>(by rw[h2]at h3;cases h3),e1.next,e1.ng,rfl,rfl,rfl,Nat.le_refl _,fun _ _ _=>rfl,Nat.le_refl _⟩
 refine key ops.size _ ⟨s.fr,s.df,h1,s.rd⟩ ι0 a0 _ ?_ (by simp) ?_ (.refl _) (fun i x hx _=>?_) ⟨hs0.fr,hs0.df,hsim.drew _,hs0.rd⟩ (hst0.trans (Step.drew ι0 h1 w0 _ (Nat.le_succ _)))
 ·have:∀ k,k≤ops.size→x0a (Array.replicate ops.size false) k≤k:=by
   intro k;induction k with
   | zero=>intro _;exact Nat.le_refl _
   | succ k ih=>intro hk;have:=ih (Nat.le_of_lt hk);simp only[x0a];split <;> omega
  exact this _ (Nat.le_refl _)
 ·have:(fun j=>(Array.replicate ops.size false).getD j false)=fun _=>false:=by funext j;exact hgf j
  rw[this]
  exact h0
 ·cases h5:ι0 x with
  | none=>rfl
  | some e=>
    have:=hs0.sim.lt x e h5
    have:=(hg i x hx).1
    omega
end Go.D
namespace Go.D
variable {P:Program} {nt:Nat}
theorem NC.any2L {id:Nat} {ops:Array Oper} {l:List Oper} {b:List Nat} {Q:Zk→St→Prop} {s:St} (hmix:P.follows .mixedOrders=true) (hd:E0a nt ops=true) (hlow:a5a ops=true) (hb:Xk ops.toList []=b) (hl:ops.map YY=l.toArray)
 (g:Nat→Option Nat) (h1:DHeap) (e1:Ext s.h h1) (hg:∀ i x,g i=some x→s.h.next≤x∧x<h1.next) (ginj:∀ i j x,g i=some x→g j=some x→i=j)
 (I:(Nat→Bool)→St→Prop) (h0:I (fun _=>false) ⟨s.fr,s.df,h1,s.rd⟩)
 (hstep:∀ (L:Nat→Bool) (s':St) (i:Nat) (o:Oper),I L s'→l[i]? = some o→L i=false→(∀ j,(b.getD i 0).testBit j=true→L j=true)→(∀ j,(b.getD j 0).testBit i=true→L j=false) →
   (g i=none∧WJ P l.toArray o s' (fun s2=>HStep s'.h s2.h→I (fun j=>if j=i then true else L j) s2) Q) ∨
   ∃ id0 zs z,g i=some id0∧Yv l.toArray s'.fr o=some true∧dOp P (Yy s'.h.ng s'.fr) o s'.h=.ok (.value (.pointer (some ⟨s'.h.next,0,none⟩))) (s'.h.push (.row zs z false))∧zs.all YW=true∧s'.h.get id0=some (.row zs z false)∧s'.df=[] ∧
    I (fun j=>if j=i then true else L j) ⟨s'.fr.put o.dst (.pointer (some ⟨id0,0,none⟩)),s'.df,s'.h,s'.rd⟩)
 (hfin:∀ (L:Nat→Bool) (s:St),I L s→(∀ i,i<l.length→L i=true)→Q .normal s):NC P nt (.region id ops true) Q s:=by
 subst hb
 have hsz:ops.size=l.length:=by
  have:=congrArg Array.size hl
  simpa using this
 have hat:∀ {i:Nat} {o:Oper},ops[i]? = some o→l[i]? = some (YY o):=fun {i o} ho=>by
  have:=congrArg (fun a:Array Oper=>a[i]?) hl
  simp only[Array.getElem?_map,ho,Option.map_some]at this
  simpa using this.symm
 refine NC.any2 hmix hd (I5a hlow) g h1 e1 hg ginj (fun L s=>I L s∧(∀ i,L i=true→i<ops.size)∧∀ (i:Nat) o,L i=true→ops[i]? = some o→∀ p∈XV o,L p=true) ⟨h0,by simp,by simp⟩ ?_ (fun L s hI hall=>hfin L s hI.1 fun i hi=>hall i (by omega))
 rintro L s' i o ⟨hI,hsz',hdn⟩ ho hn hp
 have hi:=(Array.getElem?_eq_some_iff.1 ho).1
 have hcl:∀ (k:Nat) o,ops[k]? = some o→(∀ p∈XV o,L p=true)→∀ j,((Xk ops.toList []).getD k 0).testBit j=true→L j=true:=fun k o ho hp j hj=>
  p4a (D:=fun j=>L j=true) (fun i o hi ho p hp=>hdn i o hi ho p hp) k o ho hp j hj
 have hlate:∀ j,((Xk ops.toList []).getD j 0).testBit i=true→L j=false:=fun j hbit=>by
  cases hL:L j with
  | false=>rfl
  | true=>
    have hoj:=Array.getElem?_eq_getElem (hsz' j hL)
    have:=hcl j _ hoj (hdn j _ hL hoj) i hbit
    rw[hn]at this
    cases this
 have hx:=hstep L s' i (YY o) hI (hat ho) hn (hcl i o ho hp) hlate
 have h2:∀ j,(if j=i then true else L j)=true→j<ops.size:=fun j hj=>by
  by_cases hji:j=i
  ·rw[hji];exact hi
  ·rw[if_neg hji]at hj;exact hsz' j hj
 have h3:∀ (j:Nat) o,(if j=i then true else L j)=true→ops[j]? = some o→∀ p∈XV o,(if p=i then true else L p)=true:=fun j oj hj hoj p hpm=>by
  by_cases hpi:p=i
  ·rw[if_pos hpi]
  ·rw[if_neg hpi]
   by_cases hji:j=i
   ·subst hji;rw[ho]at hoj;cases hoj;exact hp p hpm
   ·rw[if_neg hji]at hj;exact hdn j oj hj hoj p hpm
 rcases hx with ⟨g0,hx⟩ | ⟨id0,zs,z,g0,w,op,hz,hget,hdf,hI2⟩
 ·refine .inl ⟨g0,?_⟩
  rw[← hl,C5a]at hx
  unfold WJ at hx ⊢
  cases hw:Yv ops s'.fr o with
  | none=>rw[hw]at hx;exact hx.elim
  | some bb=>
    rw[hw]at hx
    cases bb with
    | false=>exact fun hh=>⟨hx hh,h2,h3⟩
    | true=>exact o3a (fun s hs hh=>⟨hs hh,h2,h3⟩) (fun _ _ h=>h) hx
 ·rw[← hl,c2a]at w
  rw[g4a]at op
  exact .inr ⟨id0,zs,z,g0,w,op,hz,hget,hdf,hI2,h2,h3⟩
inductive YO
 | s (i:Nat) (o:Oper)
 | l (i:Nat) (o:Oper)
 | b (i:Nat) (o:Oper) (st:List Nat)
def YO.i:YO→Nat
 | .s i _ | .l i _ | .b i _ _=>i
def YO.o:YO→Oper
 | .s _ o | .l _ o | .b _ o _=>o
def YO.big:YO→Bool
 | .b ..=>true
 | _=>false
inductive YT
 | no
 | ld (t:TypeId) (p v:Value)
 | gh (id:Nat) (x:Option DObj)
def YS1 (P:Program) (h:DHeap):Option YT→Prop
 | some .no=>True
 | some (.ld t p v)=>O0a P t p h=some v
 | some (.gh id x)=>h.get id=x
 | none=>False
def YSt (P:Program) (tr:List YT) (h:DHeap):List Nat→Prop
 | []=>True
 | k :: ks=>YS1 P h tr[k]?∧YSt P tr h ks
theorem x1b {tr:List YT} {h:DHeap}:∀ {ks:List Nat} {k:Nat},YSt P tr h ks→k∈ks→YS1 P h tr[k]?
 | k' :: ks,k,⟨h1,h2⟩,hm=>by
   rcases List.mem_cons.1 hm with e | e
   ·rw[e];exact h1
   ·exact x1b h2 e
def YD (P:Program) (ops:Array Oper) (Q:Zk→St→Prop):List YO→St→List YT→Prop
 | [],s,_=>Q .normal s
 | .s _ o :: r,s,tr=>
   match Yv ops s.fr o with
   | none=>False
   | some false=>YD P ops Q r ⟨s.fr.put o.dst undef,s.df,s.h,s.rd⟩ tr
   | some true=>
     match dOp P (Yy s.h.ng s.fr) o s.h with
     | .ok (.value v) _=>YD P ops Q r ⟨s.fr.put o.dst v,s.df,s.h,s.rd⟩ tr
     | _=>False
 | .l _ o :: r,s,tr=>
   match Yv ops s.fr o with
   | none=>False
   | some false=>YD P ops Q r ⟨s.fr.put o.dst undef,s.df,s.h,s.rd⟩ (tr++[.no])
   | some true=>
     match o.op with
     | .load t a=>
       match Yy s.h.ng s.fr a with
       | some p=>
         match O0a P t p s.h with
         | some v=>YD P ops Q r ⟨s.fr.put o.dst v,s.df,s.h,s.rd⟩ (tr++[.ld t p v])
         | none=>False
       | none=>False
     | _=>False
 | .b _ o st :: r,s,tr=>
   match Yv ops s.fr o with
   | none=>False
   | some false=>YD P ops Q r ⟨s.fr.put o.dst undef,s.df,s.h,s.rd⟩ tr
   | some true=>
     match dOp P (Yy s.h.ng s.fr) o s.h with
     | .ok (.value v) h=>YSt P tr h st∧YD P ops Q r ⟨s.fr.put o.dst v,s.df,h,s.rd⟩ tr
     | .ok .skip h=>YSt P tr h st∧YD P ops Q r ⟨s.fr.put o.dst undef,s.df,h,s.rd⟩ tr
     | .ok (.enter f args) h=>∃ R,Ct P f args h R∧∀ rr h',R rr h'→match rr with
       | .ret v=>YSt P tr h' st∧YD P ops Q r ⟨s.fr.put o.dst v,s.df,h',s.rd⟩ tr
       | .pan _=>False
     | _=>False
def YG (P:Program) (K:St→List YT→Prop):List (Nat × Tmp × TypeId)→St→List YT→Prop
 | [],s,tr=>K s tr
 | (_,d,t) :: r,s,tr=>
   match C1a P t s.h with
   | some (v,h)=>YG P K r ⟨s.fr.put (some d) v,s.df,h,s.rd⟩ (tr++[.gh s.h.next (h.get s.h.next)])
   | none=>False
def j1a (gs:List (Nat × Tmp × TypeId)) (pre:List YO):List Nat:=gs.map (·.1)++pre.filterMap fun | .l i _=>some i | _=>none
def N3a (P:Program) (b:List Nat) (gs:List (Nat × Tmp × TypeId)) (pre:List YO) (y:YO):Bool:=
 (!(b.getD y.i 0).testBit y.i)&&pre.all (fun x=>!(b.getD x.i 0).testBit y.i)&&pre.all (fun x=>!x.big||(b.getD y.i 0).testBit x.i) &&
 match y with
 | .s _ o=>u2a P o.op||S0a o.op
 | .l _ o=>S0a o.op
 | .b i _ st=>pre.all (fun x=>match x with | .s j o'=>!S0a o'.op||(b.getD i 0).testBit j | _=>true)&&(j1a gs pre).zipIdx.all fun x=>(b.getD i 0).testBit x.1||st.contains x.2
def yck (P:Program) (b:List Nat) (gs:List (Nat × Tmp × TypeId)):List YO→List YO→Bool
 | _,[]=>true
 | pre,y :: r=>N3a P b gs pre y&&yck P b gs (pre++[y]) r
theorem Y2b {b:List Nat} {gs:List (Nat × Tmp × TypeId)}:∀ {a pre:List YO} {y:YO} {r:List YO},yck P b gs pre (a++y :: r)=true→N3a P b gs (pre++a) y=true
 | [],pre,y,r,h=>by
   simp only[List.nil_append,yck,Bool.and_eq_true]at h
   simpa using h.1
 | x :: a,pre,y,r,h=>by
   simp only[List.cons_append,yck,Bool.and_eq_true]at h
   have:=Y2b h.2
   simpa using this
def Z0b:List Nat→Bool
 | []=>true
 | x :: l=>!l.contains x&&Z0b l
theorem D9a:∀ {l:List Nat},Z0b l=true→l.Nodup
 | [],_=>List.nodup_nil
 | x :: l,h=>by
   simp only[Z0b,Bool.and_eq_true,Bool.not_eq_true']at h
   refine List.nodup_cons.2 ⟨fun hm=>?_,D9a h.2⟩
   have:=List.contains_iff_mem.2 hm
   rw[this]at h
   exact absurd h.1 (by simp)
def yOK (P:Program) (l:List Oper) (b:List Nat) (gs:List (Nat × Tmp × TypeId)) (ys:List YO):Bool:=
 Z0b (gs.map (·.1)++ys.map YO.i)&&(List.range l.length).all (fun i=>(gs.map (·.1)++ys.map YO.i).contains i)&&Q4a l &&
 (List.range l.length).all (fun i=>(List.range l.length).all fun j=>i==j||match YQ l j with
   | none=>true
   | some d=>!((l[i]?.map (looks l.toArray)).getD []).contains d||K1a b i j) &&
 gs.all (fun x=>b.getD x.1 0==0)&&yck P b gs [] ys
theorem D8a {fr:Fr} {v:Value} {d:Option Tmp} {t:Tmp} (h:d=some t):fr.put d v t=some v:=by rw[h];exact Z3a _ _ _
theorem U2a {fr:Fr} {v:Value} {d:Option Tmp} {t:Tmp} (h:d≠some t):fr.put d v t=fr t:=by
 cases d with
 | none=>rfl
 | some d=>exact i3a _ _ (fun e=>h (by rw[e]))
def FrV (l:List Oper) (b:List Nat) (fr0 sc:Fr) (i:Nat) (t:Tmp) (u:Option Value):Prop:=
 (∃ j,YQ l j=some t∧(b.getD i 0).testBit j=true∧u=sc t)∨((∀ j,YQ l j=some t→(b.getD i 0).testBit j=false)∧u=fr0 t)
def d8b (P:Program) (l:List Oper) (recs:List Nat) (fr:Fr) (v:Value) (ng:Nat) (tr:List YT):YO→Prop
 | .s _ o=>u2a P o.op=true∨S0a o.op=true
 | .l i o=>∃ (k:Nat) (e:YT),recs[k]? = some i∧tr[k]? = some e∧∀ h':DHeap,h'.ng=ng→YS1 P h' (some e)→Ex P l.toArray o fr h' (.ret v) h'
 | .b ..=>False
def PendS (P:Program) (l:List Oper) (b:List Nat) (gs:List (Nat × Tmp × TypeId)) (fr0:Fr) (pre:List YO) (sc:St) (tr:List YT) (y:YO):Prop:=
 ∃ fr v,(∀ t∈looks l.toArray y.o,FrV l b fr0 sc.fr y.i t (fr t))∧(∀ t,y.o.dst=some t→sc.fr t=some v)∧Ex P l.toArray y.o fr sc.h (.ret v) sc.h∧d8b P l (j1a gs pre) fr v sc.h.ng tr y
structure YI (P:Program) (l:List Oper) (b:List Nat) (gs:List (Nat × Tmp × TypeId)) (ys:List YO) (Q:Zk→St→Prop) (fr0:Fr) (n0:Nat) (L:Nat→Bool) (s:St) (pre rest:List YO) (sc:St) (tr:List YT):Prop where
 ys:ys=pre++rest
 yd:YD P l.toArray Q rest sc tr
 h:s.h=sc.h
 rd:s.rd=sc.rd
 df:s.df=[]
 dfc:sc.df=[]
 bigs:∀ y∈pre,y.big=true→L y.i=true
 undone:∀ y∈rest,L y.i=false
 f0:∀ t,(∀ j,YQ l j≠some t)→s.fr t=fr0 t∧sc.fr t=fr0 t
 f1:∀ j t,YQ l j=some t→(L j=true→s.fr t=sc.fr t)∧(L j=false→s.fr t=fr0 t)
 f2:∀ y∈rest,∀ t,YQ l y.i=some t→sc.fr t=fr0 t
 len:tr.length=(j1a gs pre).length
 pend:∀ y∈pre,L y.i=false→PendS P l b gs fr0 pre sc tr y
 gh:∀ (k:Nat) i d t,gs[k]? = some (i,d,t)→sc.fr d=some (.pointer (some ⟨n0+k,0,none⟩))∧∃ zs z,(∀ h,C1a P t h=some (.pointer (some ⟨h.next,0,none⟩),h.push (.row zs z false)))∧zs.all YW=true∧tr[k]? = some (.gh (n0+k) (some (.row zs z false)))∧(L i=false→sc.h.get (n0+k)=some (.row zs z false))
structure YF (P:Program) (l:List Oper) (b:List Nat) (gs:List (Nat × Tmp × TypeId)) (ys:List YO):Prop where
 nodup:(gs.map (·.1)++ys.map YO.i).Nodup
 cover:∀ i,i<l.length→i∈gs.map (·.1)∨∃ y∈ys,y.i=i
 uniq:∀ i j t,YQ l i=some t→YQ l j=some t→i=j
 names:∀ i j o d,l[i]? = some o→i≠j→YQ l j=some d→d∈looks l.toArray o→K1a b i j=true
 gb:∀ x∈gs,b.getD x.1 0=0
 ck:yck P b gs [] ys=true
 op:∀ y∈ys,l[y.i]? = some y.o
 gop:∀ i d t,(i,d,t)∈gs→l[i]? = some (mo d (.alloc t))
theorem YF.of {l:List Oper} {b:List Nat} {gs:List (Nat × Tmp × TypeId)} {ys:List YO} (h:yOK P l b gs ys=true) (hy:ys.map (fun y=>l[y.i]?)=ys.map fun y=>some y.o) (hg:gs.map (fun x=>l[x.1]?)=gs.map fun x=>some (mo x.2.1 (.alloc x.2.2))):YF P l b gs ys:=by
 simp only[yOK,Bool.and_eq_true]at h
 obtain ⟨⟨⟨⟨⟨h1,h2⟩,h3⟩,h4⟩,h5⟩,h6⟩:=h
 have hd:∀ {i:Nat} {t:Tmp},YQ l i=some t→∃ o,l[i]? = some o∧o.dst=some t:=fun {i t} hi=>by
  unfold YQ at hi
  cases ho:l[i]? with
  | none=>rw[ho]at hi;cases hi
  | some o=>rw[ho]at hi;exact ⟨o,rfl,by simpa using hi⟩
 refine ⟨D9a h1,fun i hi=>?_,fun i j t hi hj=>?_,fun i j o d ho hij hj hd2=>?_,fun x hx=>?_,h6,fun y hy2=>?_,fun i d t hm=>?_⟩
 ·have:=List.all_eq_true.1 h2 i (List.mem_range.2 hi)
  have:=List.contains_iff_mem.1 this
  rcases List.mem_append.1 this with h | h
  ·exact .inl h
  ·obtain ⟨y,a,b⟩:=List.mem_map.1 h
   exact .inr ⟨y,a,b⟩
 ·obtain ⟨o,a1,a2⟩:=hd hi
  obtain ⟨o',b1,b2⟩:=hd hj
  exact T2a h3 a1 b1 a2 b2
 ·obtain ⟨o',b1,b2⟩:=hd hj
  have hi':=(List.getElem?_eq_some_iff.1 ho).1
  have hj':=(List.getElem?_eq_some_iff.1 b1).1
  have:=List.all_eq_true.1 (List.all_eq_true.1 h4 i (List.mem_range.2 hi')) j (List.mem_range.2 hj')
  simp only[Bool.or_eq_true,beq_iff_eq,hij,false_or,hj,ho,Option.map_some,Option.getD_some,Bool.not_eq_true']at this
  rcases this with h | h
  ·rw[List.contains_iff_mem.2 hd2]at h;cases h
  ·exact h
 ·exact beq_iff_eq.1 (List.all_eq_true.1 h5 x hx)
 ·have:=List.map_inj_left.1 hy y hy2
  exact this
 ·have:=List.map_inj_left.1 hg (i,d,t) hm
  exact this
section
variable {l:List Oper} {b:List Nat} {gs:List (Nat × Tmp × TypeId)} {ys:List YO} {Q:Zk→St→Prop} {fr0:Fr} {n0:Nat}
theorem U4b {y:YO} {t:Tmp} (h:l[y.i]? = some y.o):YQ l y.i=y.o.dst:=by
 unfold YQ
 rw[h]
 rfl
theorem M3a (pre:List YO) (y:YO):∃ r,j1a gs (pre++[y])=j1a gs pre++r∧((∃ i o,y=.l i o∧r=[i])∨((∀ i o,y≠.l i o)∧r=[])):=by
 unfold j1a
 rw[List.filterMap_append,← List.append_assoc]
 cases y with
 | l i o=>exact ⟨[i],rfl,.inl ⟨i,o,rfl,rfl⟩⟩
 | s i o=>exact ⟨[],rfl,.inr ⟨fun _ _ h=>(by cases h),rfl⟩⟩
 | b i o st=>exact ⟨[],rfl,.inr ⟨fun _ _ h=>(by cases h),rfl⟩⟩
theorem Y8a {α:Type} {a c:List α} {k:Nat} {x:α} (h:a[k]? = some x):(a++c)[k]? = some x:=by
 rw[List.getElem?_append_left (List.getElem?_eq_some_iff.1 h).1]
 exact h
theorem YF.head (F:YF P l b gs ys) {pre r:List YO} {y:YO} (h:ys=pre++y :: r):(∀ x∈pre,x.i≠y.i)∧(∀ x∈r,x.i≠y.i)∧(∀ x∈gs,x.1≠y.i):=by
 have:=F.nodup
 rw[h]at this
 simp only[List.map_append,List.map_cons,List.nodup_append,List.nodup_cons,List.mem_append,List.mem_cons,List.mem_map]at this
 obtain ⟨_,⟨_,⟨h1,_⟩,h2⟩,h3⟩:=this
 exact ⟨fun x hx=>h2 _ ⟨x,hx,rfl⟩ _ (.inl rfl),fun x hx e=>h1 ⟨x,hx,e⟩,fun x hx=>h3 _ ⟨x,hx,rfl⟩ _ (.inr (.inl rfl))⟩
theorem YF.ck1 (F:YF P l b gs ys) {pre r:List YO} {y:YO} (h:ys=pre++y :: r):N3a P b gs pre y=true:=by
 have:=F.ck
 rw[h]at this
 simpa using Y2b this
theorem YI.look (F:YF P l b gs ys) {L:Nat→Bool} {s sc:St} {pre r:List YO} {y:YO} {tr:List YT} (I:YI P l b gs ys Q fr0 n0 L s pre (y :: r) sc tr):∀ t∈looks l.toArray y.o,FrV l b fr0 sc.fr y.i t (sc.fr t):=by
 intro t ht
 have ho:=F.op y (by rw[I.ys];simp)
 have hck:=F.ck1 I.ys
 simp only[N3a,Bool.and_eq_true,Bool.not_eq_true',List.all_eq_true]at hck
 obtain ⟨⟨⟨c1,c2⟩,c3⟩,_⟩:=hck
 by_cases hj:∃ j,YQ l j=some t∧(b.getD y.i 0).testBit j=true
 ·obtain ⟨j,h1,h2⟩:=hj
  exact .inl ⟨j,h1,h2,rfl⟩
 ·have hj':∀ j,YQ l j=some t→(b.getD y.i 0).testBit j=false:=fun j h1=>by
   cases h2:(b.getD y.i 0).testBit j with
   | false=>rfl
   | true=>exact absurd ⟨j,h1,h2⟩ hj
  refine .inr ⟨hj',?_⟩
  by_cases hd:∃ j,YQ l j=some t
  ·obtain ⟨j,hd⟩:=hd
   by_cases hji:j=y.i
   ·exact I.f2 y (by simp) t (by rw[← hji];exact hd)
   ·have hord:=F.names y.i j y.o t ho (Ne.symm hji) hd ht
    have hb:(b.getD j 0).testBit y.i=true:=by
     have:=hj' j hd
     unfold K1a at hord
     split at hord
     ·exact hord
     ·rw[this]at hord;cases hord
    have hjl:j<l.length:=by
     unfold YQ at hd
     cases h5:l[j]? with
     | none=>rw[h5]at hd;cases hd
     | some _=>exact (List.getElem?_eq_some_iff.1 h5).1
    rcases F.cover j hjl with hg | ⟨x,hx,hxj⟩
    ·obtain ⟨z,hz,hzj⟩:=List.mem_map.1 hg
     have:=F.gb z hz
     rw[hzj]at this
     rw[this]at hb
     simp at hb
    ·rw[I.ys]at hx
     rcases List.mem_append.1 hx with hx | hx
     ·have:=c2 x hx
      rw[hxj,hb]at this
      cases this
     ·exact I.f2 x hx t (by rw[hxj];exact hd)
  ·exact (I.f0 t fun j hj=>hd ⟨j,hj⟩).2
theorem YI.agree (F:YF P l b gs ys) {L:Nat→Bool} {s sc:St} {pre rest:List YO} {tr:List YT} (I:YI P l b gs ys Q fr0 n0 L s pre rest sc tr) {i:Nat} {o:Oper} (ho:l[i]? = some o) (hn:L i=false) (hcl:∀ j,(b.getD i 0).testBit j=true→L j=true) (hlate:∀ j,(b.getD j 0).testBit i=true→L j=false)
 {fr:Fr} (hfr:∀ t∈looks l.toArray o,FrV l b fr0 sc.fr i t (fr t)):∀ t∈looks l.toArray o,fr t=s.fr t:=by
 intro t ht
 rcases hfr t ht with ⟨j,h1,h2,h3⟩ | ⟨h1,h2⟩
 ·rw[h3,(I.f1 j t h1).1 (hcl j h2)]
 ·rw[h2]
  by_cases hd:∃ j,YQ l j=some t
  ·obtain ⟨j,hd⟩:=hd
   have hLj:L j=false:=by
    by_cases hji:j=i
    ·rw[hji];exact hn
    ·have hord:=F.names i j o t ho (Ne.symm hji) hd ht
     refine hlate j ?_
     have:=h1 j hd
     unfold K1a at hord
     split at hord
     ·exact hord
     ·rw[this]at hord;cases hord
   exact ((I.f1 j t hd).2 hLj).symm
  ·exact (I.f0 t fun j hj=>hd ⟨j,hj⟩).1.symm
theorem YI.take (F:YF P l b gs ys) {L:Nat→Bool} {s sc:St} {pre rest:List YO} {tr:List YT} (I:YI P l b gs ys Q fr0 n0 L s pre rest sc tr) {i:Nat} {o:Oper} (ho:l[i]? = some o) (hrest:∀ y∈rest,y.i≠i) {v:Value} (hv:∀ t,o.dst=some t→sc.fr t=some v) :
 YI P l b gs ys Q fr0 n0 (fun j=>if j=i then true else L j) ⟨s.fr.put o.dst v,s.df,s.h,s.rd⟩ pre rest sc tr:=by
 have hd:YQ l i=o.dst:=by unfold YQ;rw[ho];rfl
 refine ⟨I.ys,I.yd,I.h,I.rd,I.df,I.dfc,fun y hy hb=>?_,fun y hy=>?_,fun t ht=>?_,fun j t hj=>⟨fun hL=>?_,fun hL=>?_⟩,I.f2,I.len,fun y hy hL=>I.pend y hy ?_,fun k j d t hk=>?_⟩
 ·show (if y.i=i then true else L y.i)=true
  split
  ·rfl
  ·exact I.bigs y hy hb
 ·show (if y.i=i then true else L y.i)=false
  rw[if_neg (hrest y hy)]
  exact I.undone y hy
 ·refine ⟨?_,(I.f0 t ht).2⟩
  show s.fr.put o.dst v t=_
  rw[U2a (by rw[← hd];exact ht i)]
  exact (I.f0 t ht).1
 ·by_cases hji:j=i
  ·subst hji
   rw[hd]at hj
   show s.fr.put o.dst v t=_
   rw[D8a hj,hv t hj]
  ·show s.fr.put o.dst v t=_
   simp only[if_neg hji]at hL
   rw[U2a fun e=>hji (F.uniq j i t hj (hd.trans e))]
   exact (I.f1 j t hj).1 hL
 ·by_cases hji:j=i
  ·simp only[if_pos hji]at hL;cases hL
  ·show s.fr.put o.dst v t=_
   simp only[if_neg hji]at hL
   rw[U2a fun e=>hji (F.uniq j i t hj (hd.trans e))]
   exact (I.f1 j t hj).2 hL
 ·by_cases hji:y.i=i
  ·simp only[if_pos hji]at hL;cases hL
  ·simpa only[if_neg hji] using hL
 ·obtain ⟨g1,zs,z,g2,g3,g4,g5⟩:=I.gh k j d t hk
  refine ⟨g1,zs,z,g2,g3,g4,fun hL=>g5 ?_⟩
  by_cases hji:j=i
  ·simp only[if_pos hji]at hL;cases hL
  ·simpa only[if_neg hji] using hL
theorem PendS.keep (F:YF P l b gs ys) {pre r:List YO} {y0 y:YO} {sc:St} {tr tr':List YT} {v:Value} {h':DHeap} (hys:ys=pre++y0 :: r) (hy:y∈pre) (p:PendS P l b gs fr0 pre sc tr y) (hng:h'.ng=sc.h.ng)
 (hh:h'=sc.h∨((b.getD y0.i 0).testBit y.i=false∧∃ i o st,y0=.b i o st∧YSt P tr h' st)) :
 PendS P l b gs fr0 (pre++[y0]) ⟨sc.fr.put y0.o.dst v,sc.df,h',sc.rd⟩ (tr++tr') y:=by
 obtain ⟨fr,u,h1,h2,h3,h4⟩:=p
 have hne:=(F.head hys).1 y hy
 have hoy:=F.op y (by rw[hys];simp[hy])
 have ho0:=F.op y0 (by rw[hys];simp)
 have hck:=F.ck1 hys
 simp only[N3a,Bool.and_eq_true,Bool.not_eq_true',List.all_eq_true]at hck
 obtain ⟨⟨⟨c1,c2⟩,c3⟩,c4⟩:=hck
 have hoff:∀ j t,YQ l j=some t→j≠y0.i→sc.fr.put y0.o.dst v t=sc.fr t:=fun j t hj hji=>U2a fun e=>hji (F.uniq j y0.i t hj ((U4b (t:=t) ho0).trans e))
 have hex:Ex P l.toArray y.o fr h' (.ret u) h'∧d8b P l (j1a gs (pre++[y0])) fr u h'.ng (tr++tr') y:=by
  obtain ⟨rr,hrr,_⟩:=M3a (gs:=gs) pre y0
  cases y with
  | b i o st=>exact h4.elim
  | s i o=>
    refine ⟨?_,h4⟩
    rcases hh with rfl | ⟨hb,i0,o0,st,rfl,hst⟩
    ·exact h3
    ·rcases h4 with h4 | h4
     ·exact (R8a h4 h3).2 h' hng
     ·simp only[Bool.and_eq_true,List.all_eq_true]at c4
      have:=c4.1 _ hy
      simp only[h4,Bool.not_true,Bool.false_or]at this
      exact absurd (hb.symm.trans this) (by simp)
  | l i o=>
    obtain ⟨k,e,k1,k2,k3⟩:=h4
    refine ⟨?_,k,e,by rw[hrr];exact Y8a k1,Y8a k2,fun h2 hn hy2=>k3 h2 (hn.trans hng) hy2⟩
    rcases hh with rfl | ⟨hb,i0,o0,st,rfl,hst⟩
    ·exact h3
    ·simp only[Bool.and_eq_true,List.all_eq_true]at c4
     have:=c4.2 (i,k) (List.mem_zipIdx_iff_getElem?.2 k1)
     simp only[Bool.or_eq_true]at this
     rcases this with this | this
     ·exact absurd (hb.symm.trans this) (by simp)
     ·have hs1:=x1b hst (List.contains_iff_mem.1 this)
      rw[k2]at hs1
      exact k3 h' hng hs1
 refine ⟨fr,u,fun t ht=>?_,fun t ht=>?_,hex.1,hex.2⟩
 ·rcases h1 t ht with ⟨j,a1,a2,a3⟩ | h
  ·refine .inl ⟨j,a1,a2,a3.trans (hoff j t a1 fun e=>?_).symm⟩
   have:=c2 y hy
   rw[e]at a2
   rw[a2]at this
   cases this
  ·exact .inr h
 ·show sc.fr.put y0.o.dst v t=_
  rw[hoff y.i t ((U4b (t:=t) hoy).trans ht) hne]
  exact h2 t ht
theorem X1d {pre:List YO} {k i:Nat} {d:Tmp} {t:TypeId} (h:gs[k]? = some (i,d,t)):(j1a gs pre)[k]? = some i:=by
 unfold j1a
 refine Y8a ?_
 rw[List.getElem?_map,h]
 rfl
theorem YI.small (F:YF P l b gs ys) {L:Nat→Bool} {s sc:St} {pre r:List YO} {y:YO} {tr tr':List YT} {v:Value} (I:YI P l b gs ys Q fr0 n0 L s pre (y :: r) sc tr) (hb:y.big=false)
 (hex:Ex P l.toArray y.o sc.fr sc.h (.ret v) sc.h) (hlen:tr'.length=(j1a gs (pre++[y])).length - (j1a gs pre).length) (hk:d8b P l (j1a gs (pre++[y])) sc.fr v sc.h.ng (tr++tr') y)
 (hyd:YD P l.toArray Q r ⟨sc.fr.put y.o.dst v,sc.df,sc.h,sc.rd⟩ (tr++tr')) :
 YI P l b gs ys Q fr0 n0 L s (pre++[y]) r ⟨sc.fr.put y.o.dst v,sc.df,sc.h,sc.rd⟩ (tr++tr'):=by
 obtain ⟨n1,n2,n3⟩:=F.head I.ys
 have ho:=F.op y (by rw[I.ys];simp)
 have hd:∀ t,YQ l y.i=y.o.dst:=fun t=>U4b (t:=t) ho
 have hdd:YQ l y.i=y.o.dst:=hd 0
 have hoff:∀ j t,YQ l j=some t→j≠y.i→sc.fr.put y.o.dst v t=sc.fr t:=fun j t hj hji=>U2a fun e=>hji (F.uniq j y.i t hj (hdd.trans e))
 have hLy:=I.undone y (by simp)
 have hck:=F.ck1 I.ys
 simp only[N3a,Bool.and_eq_true,Bool.not_eq_true',List.all_eq_true]at hck
 obtain ⟨⟨⟨c1,c2⟩,c3⟩,c4⟩:=hck
 obtain ⟨rr,hrr,_⟩:=M3a (gs:=gs) pre y
 refine ⟨by rw[I.ys];simp,hyd,I.h,I.rd,I.df,I.dfc,fun x hx hxb=>?_,fun x hx=>I.undone x (by simp[hx]),fun t ht=>⟨(I.f0 t ht).1,?_⟩,fun j t hj=>⟨fun hL=>?_,(I.f1 j t hj).2⟩,fun x hx t hxt=>?_,?_,fun x hx hL=>?_,fun k i d t hk2=>?_⟩
 ·rcases List.mem_append.1 hx with hx | hx
  ·exact I.bigs x hx hxb
  ·simp only[List.mem_singleton]at hx
   rw[hx,hb]at hxb;cases hxb
 ·show sc.fr.put y.o.dst v t=_
  rw[U2a (by rw[← hdd];exact ht y.i)]
  exact (I.f0 t ht).2
 ·show s.fr t=sc.fr.put y.o.dst v t
  rw[hoff j t hj fun e=>by rw[e,hLy]at hL;cases hL]
  exact (I.f1 j t hj).1 hL
 ·show sc.fr.put y.o.dst v t=_
  rw[hoff x.i t hxt (n2 x hx)]
  exact I.f2 x (by simp[hx]) t hxt
 ·rw[List.length_append,hlen,I.len,hrr,List.length_append]
  omega
 ·rcases List.mem_append.1 hx with hx | hx
  ·exact (I.pend x hx hL).keep F I.ys hx rfl (.inl rfl)
  ·simp only[List.mem_singleton]at hx
   subst hx
   refine ⟨sc.fr,v,fun t ht=>?_,fun t ht=>D8a ht,hex,hk⟩
   rcases I.look F t ht with ⟨j,a1,a2,a3⟩ | h
   ·refine .inl ⟨j,a1,a2,(hoff j t a1 fun e=>?_).symm⟩
    rw[e,c1]at a2
    cases a2
   ·exact .inr h
 ·obtain ⟨g1,zs,z,g2,g3,g4,g5⟩:=I.gh k i d t hk2
  have hm:=List.mem_of_getElem? hk2
  have hgd:YQ l i=some d:=by unfold YQ;rw[F.gop i d t hm];rfl
  exact ⟨(hoff i d hgd (n3 _ hm)).trans g1,zs,z,g2,g3,Y8a g4,g5⟩
theorem YI.bigStep (F:YF P l b gs ys) {L:Nat→Bool} {s sc:St} {pre r:List YO} {i:Nat} {o:Oper} {st:List Nat} {tr:List YT} {v:Value} {h':DHeap} (I:YI P l b gs ys Q fr0 n0 L s pre (.b i o st :: r) sc tr) (hcl:∀ j,(b.getD i 0).testBit j=true→L j=true)
 (hng:h'.ng=sc.h.ng) (hh:h'=sc.h∨YSt P tr h' st) (hyd:YD P l.toArray Q r ⟨sc.fr.put o.dst v,sc.df,h',sc.rd⟩ tr) :
 YI P l b gs ys Q fr0 n0 (fun j=>if j=i then true else L j) ⟨s.fr.put o.dst v,s.df,h',s.rd⟩ (pre++[.b i o st]) r ⟨sc.fr.put o.dst v,sc.df,h',sc.rd⟩ tr:=by
 obtain ⟨n1,n2,n3⟩:=F.head I.ys
 have n2:∀ x∈r,x.i≠i:=n2
 have ho:l[i]? = some o:=F.op (.b i o st) (by rw[I.ys];simp)
 have hdd:YQ l i=o.dst:=by unfold YQ;rw[ho];rfl
 have hoff:∀ (fr:Fr) j t,YQ l j=some t→j≠i→fr.put o.dst v t=fr t:=fun fr j t hj hji=>U2a fun e=>hji (F.uniq j i t hj (hdd.trans e))
 have hck:=F.ck1 I.ys
 simp only[N3a,Bool.and_eq_true,Bool.not_eq_true',List.all_eq_true]at hck
 obtain ⟨_,c4⟩:=hck
 have hbit:∀ j,L j=false→(b.getD i 0).testBit j=false:=fun j hL=>by
  cases h:(b.getD i 0).testBit j with
  | false=>rfl
  | true=>rw[hcl j h]at hL;cases hL
 refine ⟨by rw[I.ys];simp,hyd,rfl,I.rd,I.df,I.dfc,fun x hx hxb=>?_,fun x hx=>?_,fun t ht=>?_,fun j t hj=>?_,fun x hx t hxt=>?_,?_,fun x hx hL=>?_,fun k j d t hk2=>?_⟩
 ·show (if x.i=i then true else L x.i)=true
  split
  ·rfl
  ·rename_i hxi
   rcases List.mem_append.1 hx with hx | hx
   ·exact I.bigs x hx hxb
   ·simp only[List.mem_singleton]at hx
    rw[hx]at hxi
    exact absurd rfl hxi
 ·show (if x.i=i then true else L x.i)=false
  rw[if_neg (n2 x hx)]
  exact I.undone x (by simp[hx])
 ·have:o.dst≠some t:=by rw[← hdd];exact ht i
  show s.fr.put o.dst v t=_∧sc.fr.put o.dst v t=_
  rw[U2a this,U2a this]
  exact I.f0 t ht
 ·show ((if j=i then true else L j)=true→s.fr.put o.dst v t=sc.fr.put o.dst v t)∧((if j=i then true else L j)=false→s.fr.put o.dst v t=fr0 t)
  by_cases hji:j=i
  ·rw[if_pos hji]
   rw[hji,hdd]at hj
   exact ⟨fun _=>(D8a hj).trans (D8a hj).symm,fun h=>by cases h⟩
  ·rw[if_neg hji,hoff _ j t hj hji,hoff _ j t hj hji]
   exact I.f1 j t hj
 ·show sc.fr.put o.dst v t=_
  rw[hoff _ x.i t hxt (n2 x hx)]
  exact I.f2 x (by simp[hx]) t hxt
 ·obtain ⟨rr,hrr,h⟩:=M3a (gs:=gs) pre (.b i o st)
  rcases h with ⟨_,_,h,_⟩ | ⟨_,h⟩
  ·cases h
  ·rw[hrr,h,List.append_nil]
   exact I.len
 ·have hL2:x.i≠i∧L x.i=false:=by
   by_cases hxi:x.i=i
   ·simp only[if_pos hxi]at hL;cases hL
   ·exact ⟨hxi,by simpa only[if_neg hxi] using hL⟩
  rcases List.mem_append.1 hx with hx | hx
  ·have:=(I.pend x hx hL2.2).keep F I.ys hx (tr':=[]) (v:=v) hng (hh.imp id fun h=>⟨hbit _ hL2.2,i,o,st,rfl,h⟩)
   rwa [List.append_nil]at this
  ·simp only[List.mem_singleton]at hx
   rw[hx]at hL2
   exact absurd rfl hL2.1
 ·obtain ⟨g1,zs,z,g2,g3,g4,g5⟩:=I.gh k j d t hk2
  have hm:=List.mem_of_getElem? hk2
  have hgd:YQ l j=some d:=by unfold YQ;rw[F.gop j d t hm];rfl
  refine ⟨(hoff _ j d hgd (n3 _ hm)).trans g1,zs,z,g2,g3,g4,fun hL=>?_⟩
  have hL2:L j=false:=by
   by_cases hji:j=i
   ·simp only[if_pos hji]at hL;cases hL
   ·simpa only[if_neg hji] using hL
  rcases hh with rfl | hst
  ·exact g5 hL2
  ·have:=c4.2 (j,k) (List.mem_zipIdx_iff_getElem?.2 (X1d hk2))
   simp only[Bool.or_eq_true]at this
   rcases this with this | this
   ·exact absurd ((hbit j hL2).symm.trans this) (by simp)
   ·have hs1:=x1b hst (List.contains_iff_mem.1 this)
    rw[g4]at hs1
    exact hs1
theorem YI.adv (F:YF P l b gs ys) {L:Nat→Bool} {s:St}:∀ (rest:List YO) {pre:List YO} {sc:St} {tr:List YT},YI P l b gs ys Q fr0 n0 L s pre rest sc tr →
 ∃ pre' rest' sc' tr',YI P l b gs ys Q fr0 n0 L s pre' rest' sc' tr'∧(rest'=[]∨∃ i o st r,rest'=.b i o st :: r)
 | [],pre,sc,tr,I=>⟨pre,[],sc,tr,I,.inl rfl⟩
 | .b i o st :: r,pre,sc,tr,I=>⟨pre,_,sc,tr,I,.inr ⟨i,o,st,r,rfl⟩⟩
 | .s i o :: r,pre,sc,tr,I=>by
   have hck:=F.ck1 I.ys
   simp only[N3a,Bool.and_eq_true]at hck
   have hk:u2a P o.op=true∨S0a o.op=true:=by simpa using hck.2
   have hl:(j1a gs (pre++[.s i o])).length=(j1a gs pre).length:=by
    obtain ⟨rr,hrr,h⟩:=M3a (gs:=gs) pre (.s i o)
    rcases h with ⟨_,_,h,_⟩ | ⟨_,h⟩
    ·cases h
    ·rw[hrr,h,List.append_nil]
   have go:∀ v,Ex P l.toArray o sc.fr sc.h (.ret v) sc.h→YD P l.toArray Q r ⟨sc.fr.put o.dst v,sc.df,sc.h,sc.rd⟩ tr→_:=fun v h1 h2=>
    YI.adv F r (I.small F (tr':=[]) rfl h1 (by rw[hl];simp) hk (by rw[List.append_nil];exact h2))
   have hyd:=I.yd
   simp only[YD]at hyd
   split at hyd
   ·exact hyd.elim
   ·rename_i hw
    exact go undef (by unfold Ex;rw[hw];exact ⟨rfl,rfl⟩) hyd
   ·rename_i hw
    split at hyd
    ·rename_i v h1 hop
     have hh:h1=sc.h:=by
      have hex:Ex P l.toArray o sc.fr sc.h (.ret v) h1:=by unfold Ex;rw[hw,hop];exact ⟨rfl,rfl⟩
      rcases hk with hk | hk
      ·exact (R8a hk hex).1
      ·exact t1b hk hex
     subst hh
     exact go v (by unfold Ex;rw[hw,hop];exact ⟨rfl,rfl⟩) hyd
    ·exact hyd.elim
 | .l i o :: r,pre,sc,tr,I=>by
   have hck:=F.ck1 I.ys
   simp only[N3a,Bool.and_eq_true]at hck
   have hk:S0a o.op=true:=hck.2
   obtain ⟨hl,hlast⟩:(j1a gs (pre++[.l i o])).length=(j1a gs pre).length+1∧(j1a gs (pre++[.l i o]))[tr.length]? = some i:=by
    obtain ⟨rr,hrr,h⟩:=M3a (gs:=gs) pre (.l i o)
    rcases h with ⟨_,_,h,h2⟩ | ⟨h,_⟩
    ·cases h
     rw[hrr,h2,I.len]
     simp
    ·exact absurd rfl (h i o)
   have go:∀ v e,Ex P l.toArray o sc.fr sc.h (.ret v) sc.h→(∀ h':DHeap,h'.ng=sc.h.ng→YS1 P h' (some e)→Ex P l.toArray o sc.fr h' (.ret v) h')→YD P l.toArray Q r ⟨sc.fr.put o.dst v,sc.df,sc.h,sc.rd⟩ (tr++[e])→_:=fun v e h1 h3 h2=>
    YI.adv F r (I.small F (tr':=[e]) rfl h1 (by rw[hl];simp) ⟨tr.length,e,hlast,by simp,h3⟩ h2)
   have hyd:=I.yd
   simp only[YD]at hyd
   split at hyd
   ·exact hyd.elim
   ·rename_i hw
    exact go undef .no (by unfold Ex;rw[hw];exact ⟨rfl,rfl⟩) (fun h' _ _=>by unfold Ex;rw[hw];exact ⟨rfl,rfl⟩) hyd
   ·rename_i hw
    split at hyd
    ·rename_i t a hop
     split at hyd
     ·rename_i p hp
      split at hyd
      ·rename_i v hv
       have hex:∀ h':DHeap,h'.ng=sc.h.ng→O0a P t p h'=some v→Ex P l.toArray o sc.fr h' (.ret v) h':=fun h' hn hv=>by
        unfold Ex dOp
        rw[hw,hop,hn]
        simp[hp,hv,DR.ofv]
       exact go v (.ld t p v) (hex sc.h rfl hv) (fun h' hn h=>hex h' hn h) hyd
      ·exact hyd.elim
     ·exact hyd.elim
    ·exact hyd.elim
end
theorem i6b {t:TypeId} {h h':DHeap} {v:Value} (e:C1a P t h=some (v,h')) :
 ∃ zs z,v=.pointer (some ⟨h.next,0,none⟩)∧h'=h.push (.row zs z false)∧zs.all YW=true∧∀ h2,C1a P t h2=some (.pointer (some ⟨h2.next,0,none⟩),h2.push (.row zs z false)):=by
 unfold C1a at e ⊢
 cases hi:P.info? t with
 | none=>rw[hi]at e;cases e
 | some i=>
   rw[hi]at e
   simp only at e ⊢
   cases hz:i.zero with
   | none=>rw[hz]at e;cases e
   | some z=>
     rw[hz]at e
     simp only at e ⊢
     split at e
     ·rename_i hf
      cases e
      exact ⟨_,_,rfl,rfl,hf,fun h2=>by rw[if_pos hf]⟩
     ·cases e
theorem g0c {K:St→List YT→Prop}:∀ (gs:List (Nat × Tmp × TypeId)) (s:St) (tr:List YT),YG P K gs s tr→(gs.map (·.2.1)).Nodup →
 ∃ h1 fr1 tr1,K ⟨fr1,s.df,h1,s.rd⟩ (tr++tr1)∧Ext s.h h1∧h1.next=s.h.next+gs.length∧tr1.length=gs.length∧(∀ t,(∀ x∈gs,x.2.1≠t)→fr1 t=s.fr t) ∧
  ∀ (k:Nat) i d t,gs[k]? = some (i,d,t)→fr1 d=some (.pointer (some ⟨s.h.next+k,0,none⟩))∧∃ zs z,(∀ h,C1a P t h=some (.pointer (some ⟨h.next,0,none⟩),h.push (.row zs z false)))∧zs.all YW=true∧tr1[k]? = some (.gh (s.h.next+k) (some (.row zs z false)))∧h1.get (s.h.next+k)=some (.row zs z false)
 | [],s,tr,h,_=>⟨s.h,s.fr,[],by rw[List.append_nil];exact h,.refl _,rfl,rfl,fun _ _=>rfl,fun k i d t hk=>by cases hk⟩
 | (i0,d0,t0) :: gs,s,tr,h,hn=>by
   unfold YG at h
   split at h
   ·rename_i v h2 ha
    obtain ⟨zs,z,rfl,rfl,hz,hall⟩:=i6b ha
    simp only[List.map_cons,List.nodup_cons,List.mem_map]at hn
    obtain ⟨h1,fr1,tr1,a1,a2,a3,a4,a5,a6⟩:=g0c gs _ _ h hn.2
    have e1:Ext s.h (s.h.push (.row zs z false)):=Ext.push1 _ _
    have hnx:(s.h.push (.row zs z false)).next=s.h.next+1:=rfl
    refine ⟨h1,fr1,_ :: tr1,by rw[List.append_cons];exact a1,e1.trans a2,by rw[a3];show s.h.next+1+gs.length=s.h.next+(gs.length+1);omega,by rw[List.length_cons,List.length_cons,a4],fun t ht=>?_,fun k i d t hk=>?_⟩
    ·rw[a5 t fun x hx=>ht x (List.mem_cons_of_mem _ hx)]
     exact U2a (d:=some d0) fun e=>ht (i0,d0,t0) List.mem_cons_self (Option.some.inj e)
    ·cases k with
     | zero=>
       cases hk
       refine ⟨?_,zs,z,hall,hz,?_,?_⟩
       ·rw[a5 d0 fun x hx e=>hn.1 ⟨x,hx,e⟩]
        exact D8a rfl
       ·show some (YT.gh s.h.next ((s.h.push (.row zs z false)).get s.h.next))=_
        rw[Zz]
        rfl
       ·exact (a2.get s.h.next (by rw[hnx];omega)).trans (Zz _ _)
     | succ k=>
       have hk':gs[k]? = some (i,d,t):=by simpa using hk
       obtain ⟨b1,zs',z',b2,b3,b4,b5⟩:=a6 k i d t hk'
       have e:(s.h.push (.row zs z false)).next+k=s.h.next+(k+1):=by rw[hnx];omega
       rw[e]at b1 b4 b5
       exact ⟨b1,zs',z',b2,b3,by simpa using b4,b5⟩
   ·exact h.elim
def K6a:List (Nat × Tmp × TypeId)→Nat→Nat→Option Nat
 | [],_,_=>none
 | x :: r,i,k=>if x.1=i then some k else K6a r i (k+1)
theorem y2b:∀ {gs:List (Nat × Tmp × TypeId)} {i k x:Nat},K6a gs i k=some x→∃ (m:Nat) (d:Tmp) (t:TypeId),gs[m]? = some (i,d,t)∧x=k+m
 | [],i,k,x,h=>by cases h
 | (j,d,t) :: r,i,k,x,h=>by
   unfold K6a at h
   split at h
   ·rename_i hj
    cases h
    exact ⟨0,d,t,by rw[← hj];rfl,rfl⟩
   ·obtain ⟨m,d',t',a,b⟩:=y2b h
    exact ⟨m+1,d',t',by simpa using a,by omega⟩
theorem x2b:∀ {gs:List (Nat × Tmp × TypeId)} {i k:Nat},K6a gs i k=none→∀ x∈gs,x.1≠i
 | [],_,_,_,x,hx=>by cases hx
 | y :: r,i,k,h,x,hx=>by
   unfold K6a at h
   split at h
   ·cases h
   ·rename_i hj
    rcases List.mem_cons.1 hx with rfl | hx
    ·exact hj
    ·exact x2b h x hx
theorem Z7b {ops:Array Oper} {o:Oper} {s:St} {K:St→Prop} {Q:Zk→St→Prop} {v:Value} {h':DHeap} (hx:Ex P ops o s.fr s.h (.ret v) h') (hK:K ⟨s.fr.put o.dst v,s.df,h',s.rd⟩):WJ P ops o s K Q:=by
 unfold Ex at hx
 unfold WJ
 cases hw:Yv ops s.fr o with
 | none=>rw[hw]at hx;exact hx.elim
 | some bb=>
   rw[hw]at hx
   cases bb with
   | false=>
     obtain ⟨a,b⟩:=hx
     cases a
     rw[b]at hK
     exact hK
   | true=>
     simp only at hx ⊢
     split at hx
     ·rename_i heq
      obtain ⟨a,b⟩:=hx
      cases a
      rw[b]at hK
      rw[heq]
      exact hK
     ·rename_i heq
      obtain ⟨a,b⟩:=hx
      cases a
      rw[b]at hK
      rw[heq]
      exact hK
     ·rename_i heq
      rw[heq]
      exact ⟨_,hx.ct (R:=fun r h=>r=.ret v∧h=h') ⟨rfl,rfl⟩,fun r h2 ⟨e1,e2⟩=>by subst e1;subst e2;exact hK⟩
     ·rename_i heq
      rw[heq]
      exact ⟨_,hx.rt (R:=fun r h=>r=.ret v∧h=h') ⟨rfl,rfl⟩,fun r h2 ⟨e1,e2⟩=>by subst e1;subst e2;exact hK⟩
     ·rename_i heq
      cases hx.1
     ·exact hx.elim
theorem g3c {ops:Array Oper} {o:Oper} {fr fr':Fr} {h h':DHeap} {r:DEnd} (hl:∀ t∈looks ops o,fr' t=fr t) (hx:Ex P ops o fr' h r h'):Ex P ops o fr h r h':=by
 unfold Ex at hx ⊢
 rwa [Y7a hl,r2b hl]at hx
theorem NC.yd {id:Nat} {ops:Array Oper} {l:List Oper} {b:List Nat} {gs:List (Nat × Tmp × TypeId)} {ys:List YO} {Q:Zk→St→Prop} {s:St} (hmix:P.follows .mixedOrders=true) (hd:E0a nt ops=true) (hlow:a5a ops=true) (hb:Xk ops.toList []=b) (hl:ops.map YY=l.toArray)
 (hok:yOK P l b gs ys=true) (hy:ys.map (fun y=>l[y.i]?)=ys.map fun y=>some y.o) (hgm:gs.map (fun x=>l[x.1]?)=gs.map fun x=>some (mo x.2.1 (.alloc x.2.2))) (hdf:s.df=[])
 (h:YG P (YD P l.toArray Q ys) gs s []):NC P nt (.region id ops true) Q s:=by
 have F:=YF.of hok hy hgm
 have hgn:=(List.nodup_append.1 F.nodup)
 have hgd:∀ x∈gs,YQ l x.1=some x.2.1:=fun x hx=>by unfold YQ;rw[F.gop x.1 x.2.1 x.2.2 hx];rfl
 have hdn:(gs.map (·.2.1)).Nodup:=by
  refine List.pairwise_map.2 ((List.pairwise_map.1 hgn.1).imp_of_mem fun {x y} hx hy hne e=>hne ?_)
  exact F.uniq x.1 y.1 x.2.1 (hgd x hx) (by rw[e];exact hgd y hy)
 obtain ⟨h1,fr1,tr1,a1,a2,a3,a4,a5,a6⟩:=g0c gs s [] h hdn
 rw[List.nil_append]at a1
 have gk:∀ {i x:Nat},K6a gs i s.h.next=some x→∃ (m:Nat) (d:Tmp) (t:TypeId),gs[m]? = some (i,d,t)∧x=s.h.next+m:=y2b
 have guniq:∀ {m m':Nat} {x y:Nat × Tmp × TypeId},gs[m]? = some x→gs[m']? = some y→x.1=y.1→m=m':=fun {m m' x y} hx hy e=>by
  have hm:=(List.getElem?_eq_some_iff.1 hx).1
  have h1:(gs.map (·.1))[m]? = some x.1:=by rw[List.getElem?_map,hx];rfl
  have h2:(gs.map (·.1))[m']? = some x.1:=by rw[List.getElem?_map,hy,e];rfl
  exact (List.getElem?_inj (by simpa using hm) hgn.1).1 (h1.trans h2.symm)
 refine NC.any2L hmix hd hlow hb hl (fun i=>K6a gs i s.h.next) h1 a2 (fun i x hx=>?_) (fun i j x hi hj=>?_)
  (fun L s'=>∃ pre rest sc tr,YI P l b gs ys Q s.fr s.h.next L s' pre rest sc tr∧(rest=[]∨∃ i o st r,rest=.b i o st :: r)) ?_ ?_ ?_
 ·obtain ⟨m,d,t,b1,rfl⟩:=gk hx
  have:=(List.getElem?_eq_some_iff.1 b1).1
  omega
 ·obtain ⟨m,d,t,b1,rfl⟩:=gk hi
  obtain ⟨m',d',t',b2,e⟩:=gk hj
  have:m=m':=by omega
  subst this
  rw[b1]at b2
  cases b2
  rfl
 ·refine YI.adv F ys (pre:=[]) (sc:=⟨fr1,s.df,h1,s.rd⟩) (tr:=tr1) ⟨rfl,a1,rfl,rfl,hdf,hdf,fun y hy=>(by cases hy),fun _ _=>rfl,fun t ht=>⟨rfl,a5 t fun x hx e=>ht x.1 (by rw[← e];exact hgd x hx)⟩,fun j t _=>⟨fun h=>(by cases h),fun _=>rfl⟩,fun y hy t hyt=>a5 t fun x hx e=>?_,(by rw[a4];simp[j1a]),fun y hy=>(by cases hy),fun k i d t hk=>?_⟩
  ·have hxy:=F.uniq x.1 y.i t (by rw[← e];exact hgd x hx) hyt
   exact hgn.2.2 _ (List.mem_map.2 ⟨x,hx,rfl⟩) _ (List.mem_map.2 ⟨y,hy,rfl⟩) hxy
  ·obtain ⟨c1,zs,z,c2,c3,c4,c5⟩:=a6 k i d t hk
   exact ⟨c1,zs,z,c2,c3,c4,fun _=>c5⟩
 ·rintro L s' i o ⟨pre,rest,sc,tr,I,hr⟩ ho hn hcl hlate
  have hil:=(List.getElem?_eq_some_iff.1 ho).1
  rcases F.cover i hil with hg | ⟨y,hym,hyi⟩
  ·obtain ⟨⟨i',d,t⟩,hx,hxi⟩:=List.mem_map.1 hg
   simp only at hxi
   subst hxi
   obtain ⟨k,hk⟩:=List.getElem?_of_mem hx
   have hop:=F.gop i' d t hx
   rw[ho]at hop
   cases hop
   have hgi:K6a gs i' s.h.next=some (s.h.next+k):=by
    cases hq:K6a gs i' s.h.next with
    | none=>exact absurd rfl (x2b hq _ hx)
    | some x=>
      obtain ⟨m,d',t',b1,rfl⟩:=gk hq
      rw[guniq b1 hk rfl]
   obtain ⟨g1,zs,z,g2,g3,g4,g5⟩:=I.gh k i' d t hk
   refine .inr ⟨_,zs,z,hgi,rfl,?_,g3,?_,I.df,pre,rest,sc,tr,I.take F ho (fun y hy e=>?_) (fun t' ht=>?_),hr⟩
   ·simp only[dOp,g2,DR.ofp]
   ·rw[I.h];exact g5 hn
   ·exact hgn.2.2 _ (List.mem_map.2 ⟨_,hx,rfl⟩) _ (List.mem_map.2 ⟨y,by rw[I.ys];simp[hy],rfl⟩) e.symm
   ·cases ht
    exact g1
  ·subst hyi
   have hoy:=F.op y hym
   rw[ho]at hoy
   cases hoy
   refine .inl ⟨?_,?_⟩
   ·cases hq:K6a gs y.i s.h.next with
    | none=>rfl
    | some x=>
      obtain ⟨m,d',t',b1,_⟩:=gk hq
      exact absurd rfl (hgn.2.2 _ (List.mem_map.2 ⟨_,List.mem_of_getElem? b1,rfl⟩) _ (List.mem_map.2 ⟨y,hym,rfl⟩))
   rw[I.ys]at hym
   rcases List.mem_append.1 hym with hyp | hyr
   ·obtain ⟨fr,v,p1,p2,p3,_⟩:=I.pend y hyp hn
    have hag:=I.agree F ho hn hcl hlate p1
    rw[← I.h]at p3
    refine Z7b (g3c hag p3) fun _=>⟨pre,rest,sc,tr,I.take F ho (fun x hx e=>?_) p2,hr⟩
    obtain ⟨r1,r2,hsp⟩:=List.append_of_mem hx
    have:=(F.head (pre:=pre++r1) (y:=x) (r:=r2) (by rw[I.ys,hsp];simp)).1 y (by simp[hyp])
    exact this e.symm
   ·rcases hr with rfl | ⟨i0,o0,st,r,rfl⟩
    ·cases hyr
    rcases List.mem_cons.1 hyr with rfl | hyr
    ·have hag:=I.agree F ho hn hcl hlate (I.look F)
     have hwq:Yv l.toArray s'.fr o0=Yv l.toArray sc.fr o0:=(Y7a hag).symm
     have hoq:∀ n (hh:DHeap),dOp P (Yy n s'.fr) o0 hh=dOp P (Yy n sc.fr) o0 hh:=fun n hh=>(r2b hag).symm
     have hyd:=I.yd
     simp only[YD]at hyd
     unfold WJ
     show match Yv l.toArray s'.fr o0 with
      | none=>False
      | some false=>HStep s'.h s'.h→_
      | some true=>q6a P o0 s' (dOp P (Yy s'.h.ng s'.fr) o0 s'.h) _ Q
     rw[hwq]
     split at hyd
     ·exact hyd.elim
     ·rename_i hw
      have hb:=I.bigStep F hcl rfl (.inl rfl) hyd
      rw[I.h]
      exact fun _=>hb.adv F r
     ·rename_i hw
      rw[hoq,I.h]
      split at hyd
      ·rename_i v h2 hop
       rw[hop]
       exact fun hh=>(I.bigStep F hcl hh.ng (.inr hyd.1) hyd.2).adv F r
      ·rename_i h2 hop
       rw[hop]
       exact fun hh=>(I.bigStep F hcl hh.ng (.inr hyd.1) hyd.2).adv F r
      ·rename_i f args h2 hop
       rw[hop]
       obtain ⟨R,hct,hall⟩:=hyd
       refine ⟨R,hct,fun rr h3 hR=>?_⟩
       have:=hall rr h3 hR
       cases rr with
       | ret v=>exact fun hh=>(I.bigStep F hcl hh.ng (.inr this.1) this.2).adv F r
       | pan v=>exact this.elim
      ·exact hyd.elim
    ·exfalso
     obtain ⟨r1,r2,hsp⟩:=List.append_of_mem hyr
     have hck:=F.ck1 (pre:=pre++.b i0 o0 st :: r1) (y:=y) (r:=r2) (by rw[I.ys,hsp];simp)
     simp only[N3a,Bool.and_eq_true,Bool.not_eq_true',List.all_eq_true]at hck
     have:=hck.1.2 (.b i0 o0 st) (by simp)
     simp only[YO.big,Bool.not_true,Bool.false_or]at this
     have h2:=hcl _ this
     rw[I.undone (.b i0 o0 st) (by simp)]at h2
     cases h2
 ·rintro L s' ⟨pre,rest,sc,tr,I,hr⟩ hall
  rcases hr with rfl | ⟨i0,o0,st,r,rfl⟩
  ·have hyd:=I.yd
   simp only[YD]at hyd
   have:s'=sc:=by
    obtain ⟨fr',df',h',rd'⟩:=s'
    obtain ⟨fr2,df2,h2,rd2⟩:=sc
    have e1:fr'=fr2:=by
     funext t
     by_cases hd:∃ j,YQ l j=some t
     ·obtain ⟨j,hj⟩:=hd
      refine (I.f1 j t hj).1 (hall j ?_)
      unfold YQ at hj
      cases h5:l[j]? with
      | none=>rw[h5]at hj;cases hj
      | some _=>exact (List.getElem?_eq_some_iff.1 h5).1
     ·have:=I.f0 t fun j hj=>hd ⟨j,hj⟩
      exact this.1.trans this.2.symm
    have e2:=I.df
    have e3:=I.dfc
    have e4:=I.h
    have e5:=I.rd
    simp only at e2 e3 e4 e5
    subst e1 e2 e3 e4 e5
    rfl
   rw[this]
   exact hyd
  ·have:L i0=false:=I.undone (.b i0 o0 st) (by simp)
   rw[hall i0 (List.getElem?_eq_some_iff.1 (F.op (.b i0 o0 st) (by rw[I.ys];simp))).1]at this
   cases this
def r3a:Code→List (Array Oper)
 | .seq a b=>r3a a++r3a b
 | .cond _ a b=>r3a a++r3a b
 | .block _ c=>r3a c
 | .loop c=>r3a c
 | .region _ ops true=>[ops]
 | .rangeFunc _ _ a b=>r3a a++r3a b
 | _=>[]
def drawn (f:Func) (k:Nat):Array Oper:=match f.body with
 | some c=>(r3a c).getD k #[]
 | none=>#[]
abbrev GoC (P:Program) (f nt:Nat) (c:Code) (rs:List ResultVar):Prop:=∀ {args:List Value} {h:DHeap} {R:DEnd→DHeap→Prop},args.length≤nt→xs P nt c (s7a P rs R) ⟨L2a args nt,[],h,none⟩→Ct P f args h R
theorem GoC.of {P:Program} {f nt:Nat} {c:Code} {rs:List ResultVar} {fn:Func} (hf:P.funcs[f]? = some fn) (hb:fn.body.map strip=some c) (hn:fn.ntmps=nt) (hr:fn.results.toList=rs) (hk:p0a nt c=true):GoC P f nt c rs:=
 fun ha hx=>m6c hf hb hn hr ha hk hx
def YGa (P:Program) (K:St→List YT→Prop) (fr:Fr) (df:List J4a) (h:DHeap) (rd:Option Nat) (tr:List YT) (d:Tmp) (gs:List (Nat × Tmp × TypeId)):Option (Value × DHeap)→Prop
 | some (v,h')=>YG P K gs ⟨fr.put (some d) v,df,h',rd⟩ (tr++[.gh h.next (h'.get h.next)])
 | none=>False
theorem O9c (K:St→List YT→Prop) (fr:Fr) (df:List J4a) (h:DHeap) (rd:Option Nat) (tr:List YT) (i:Nat) (d:Tmp) (t:TypeId) (gs:List (Nat × Tmp × TypeId)):YG P K ((i,d,t) :: gs) ⟨fr,df,h,rd⟩ tr=YGa P K fr df h rd tr d gs (C1a P t h):=by
 unfold YG YGa
 rfl
theorem s3c (K:St→List YT→Prop) (fr:Fr) (df:List J4a) (h:DHeap) (rd:Option Nat) (tr:List YT) (d:Tmp) (gs:List (Nat × Tmp × TypeId)) (v:Value) (x:DObj):YGa P K fr df h rd tr d gs (some (v,h.push x))=YG P K gs ⟨fr.put (some d) v,df,h.push x,rd⟩ (tr++[.gh h.next (some x)]):=by
 show YG P K gs _ (tr++[.gh h.next ((h.push x).get h.next)])=_
 rw[Zz]
section
variable (P) (ops:Array Oper) (Q:Zk→St→Prop) (o:Oper) (st:List Nat) (r:List YO) (s:St) (tr:List YT)
def YSx:DR→Prop
 | .ok (.value v) _=>YD P ops Q r ⟨s.fr.put o.dst v,s.df,s.h,s.rd⟩ tr
 | _=>False
def YSw:Option Bool→Prop
 | none=>False
 | some false=>YD P ops Q r ⟨s.fr.put o.dst undef,s.df,s.h,s.rd⟩ tr
 | some true=>YSx P ops Q o r s tr (dOp P (Yy s.h.ng s.fr) o s.h)
def YLv (t:TypeId) (p:Value):Option Value→Prop
 | some v=>YD P ops Q r ⟨s.fr.put o.dst v,s.df,s.h,s.rd⟩ (tr++[.ld t p v])
 | none=>False
def YLa (t:TypeId):Option Value→Prop
 | some p=>YLv P ops Q o r s tr t p (O0a P t p s.h)
 | none=>False
def YLo:Op→Prop
 | .load t a=>YLa P ops Q o r s tr t (Yy s.h.ng s.fr a)
 | _=>False
def YLw:Option Bool→Prop
 | none=>False
 | some false=>YD P ops Q r ⟨s.fr.put o.dst undef,s.df,s.h,s.rd⟩ (tr++[.no])
 | some true=>YLo P ops Q o r s tr o.op
def Y3a (rr:DEnd) (h':DHeap):Prop:=
 match rr with
 | .ret v=>YSt P tr h' st∧YD P ops Q r ⟨s.fr.put o.dst v,s.df,h',s.rd⟩ tr
 | .pan _=>False
def YCl (f:FuncId) (args:List Value) (h:DHeap):Prop:=∃ R,Ct P f args h R∧∀ rr h',R rr h'→Y3a P ops Q o st r s tr rr h'
def YBx:DR→Prop
 | .ok (.value v) h=>YSt P tr h st∧YD P ops Q r ⟨s.fr.put o.dst v,s.df,h,s.rd⟩ tr
 | .ok .skip h=>YSt P tr h st∧YD P ops Q r ⟨s.fr.put o.dst undef,s.df,h,s.rd⟩ tr
 | .ok (.enter f args) h=>YCl P ops Q o st r s tr f args h
 | _=>False
def YBw:Option Bool→Prop
 | none=>False
 | some false=>YD P ops Q r ⟨s.fr.put o.dst undef,s.df,s.h,s.rd⟩ tr
 | some true=>YBx P ops Q o st r s tr (dOp P (Yy s.h.ng s.fr) o s.h)
theorem B3d:YD P ops Q [] s tr=Q .normal s:=rfl
theorem I1e (i:Nat):YD P ops Q (.s i o :: r) s tr=YSw P ops Q o r s tr (Yv ops s.fr o):=rfl
theorem H1e (i:Nat):YD P ops Q (.l i o :: r) s tr=YLw P ops Q o r s tr (Yv ops s.fr o):=rfl
theorem G1e (i:Nat):YD P ops Q (.b i o st :: r) s tr=YBw P ops Q o st r s tr (Yv ops s.fr o):=rfl
theorem h0c:YSw P ops Q o r s tr (some false)=YD P ops Q r ⟨s.fr.put o.dst undef,s.df,s.h,s.rd⟩ tr:=rfl
theorem x3c:YSw P ops Q o r s tr (some true)=YSx P ops Q o r s tr (dOp P (Yy s.h.ng s.fr) o s.h):=rfl
theorem i0c (v:Value) (h:DHeap):YSx P ops Q o r s tr (.ok (.value v) h)=YD P ops Q r ⟨s.fr.put o.dst v,s.df,s.h,s.rd⟩ tr:=rfl
theorem v3c (d:Option Tmp) (t:TypeId) (a:Operand) (ty:TypeId) (pos:String) (aft:Array Edge) (gd:Option (Nat × Bool)):YLw P ops Q ⟨d,.load t a,ty,pos,aft,gd⟩ r s tr (some true)=YLa P ops Q ⟨d,.load t a,ty,pos,aft,gd⟩ r s tr t (Yy s.h.ng s.fr a):=rfl
theorem t3c (t:TypeId) (p:Value):YLa P ops Q o r s tr t (some p)=YLv P ops Q o r s tr t p (O0a P t p s.h):=rfl
theorem u3c (t:TypeId) (p v:Value):YLv P ops Q o r s tr t p (some v)=YD P ops Q r ⟨s.fr.put o.dst v,s.df,s.h,s.rd⟩ (tr++[.ld t p v]):=rfl
theorem c0c:YBw P ops Q o st r s tr (some false)=YD P ops Q r ⟨s.fr.put o.dst undef,s.df,s.h,s.rd⟩ tr:=rfl
theorem q3c:YBw P ops Q o st r s tr (some true)=YBx P ops Q o st r s tr (dOp P (Yy s.h.ng s.fr) o s.h):=rfl
theorem f0c (v:Value) (h:DHeap):YBx P ops Q o st r s tr (.ok (.value v) h)=(YSt P tr h st∧YD P ops Q r ⟨s.fr.put o.dst v,s.df,h,s.rd⟩ tr):=rfl
theorem r3c (h:DHeap):YBx P ops Q o st r s tr (.ok .skip h)=(YSt P tr h st∧YD P ops Q r ⟨s.fr.put o.dst undef,s.df,h,s.rd⟩ tr):=rfl
theorem d0c (f:FuncId) (args:List Value) (h:DHeap):YBx P ops Q o st r s tr (.ok (.enter f args) h)=YCl P ops Q o st r s tr f args h:=rfl
theorem C3d (K:St→List YT→Prop):YG P K [] s tr=K s tr:=rfl
theorem P9c (h:DHeap):YSt P tr h []=True:=rfl
theorem w3c (h:DHeap) (k:Nat) (ks:List Nat):YSt P tr h (k :: ks)=(YS1 P h tr[k]?∧YSt P tr h ks):=rfl
theorem E3d (h:DHeap) (t:TypeId) (p v:Value):YS1 P h (some (.ld t p v))=(O0a P t p h=some v):=rfl
theorem D3d (h:DHeap) (id:Nat) (x:Option DObj):YS1 P h (some (.gh id x))=(h.get id=x):=rfl
end
section
variable {ops:Array Oper} {Q:Zk→St→Prop} {o:Oper} {st:List Nat} {r:List YO} {s:St} {tr:List YT}
theorem B1a {f:FuncId} {args:List Value} {h:DHeap} {R:DEnd→DHeap→Prop} (hc:Ct P f args h R) (hx:∀ rr h',R rr h'→Y3a P ops Q o st r s tr rr h'):YCl P ops Q o st r s tr f args h:=⟨R,hc,hx⟩
theorem Q1a {f:FuncId} {args:List Value} {h h':DHeap} {v:Value} (hc:DC P f args h (.ret v) h') (hx:YSt P tr h' st∧YD P ops Q r ⟨s.fr.put o.dst v,s.df,h',s.rd⟩ tr):YCl P ops Q o st r s tr f args h:=
 ⟨_,hc.ct (R:=fun rr h2=>rr=.ret v∧h2=h') ⟨rfl,rfl⟩,fun rr h2 ⟨e1,e2⟩=>by subst e1;subst e2;exact hx⟩
end
attribute [go_sem] B3d I1e H1e G1e h0c x3c i0c v3c t3c u3c c0c q3c f0c r3c d0c C3d O9c s3c P9c w3c E3d D3d
def YR (P:Program) (nt:Nat) (r:Code) (l:List Oper) (gs:List (Nat × Tmp × TypeId)) (ys:List YO):Prop:=∀ {Q:Zk→St→Prop} {s:St},s.df=[]→YG P (YD P l.toArray Q ys) gs s []→NC P nt r Q s
theorem YR.of {P:Program} {nt id:Nat} {ops:Array Oper} {l:List Oper} {gs:List (Nat × Tmp × TypeId)} {ys:List YO} (hc:(P.follows .mixedOrders&&(E0a nt ops&&(a5a ops&&yOK P l (Xk ops.toList []) gs ys)))=true:=by kernel_rfl) (hl:ops.map YY=l.toArray:=by kernel_rfl)
 (hy:(ys.map (fun y=>l[y.i]?)=ys.map fun y=>some y.o):=by kernel_rfl) (hgm:(gs.map (fun x=>l[x.1]?)=gs.map fun x=>some (mo x.2.1 (.alloc x.2.2))):=by kernel_rfl):YR P nt (.region id ops true) l gs ys:=fun hdf h=>by
 simp only[Bool.and_eq_true]at hc
 exact NC.yd hc.1 hc.2.1 hc.2.2.1 rfl hl hc.2.2.2 hy hgm hdf h
end Go.D
namespace Go.D
def O3d (f:Func):Code:=f.body.getD .skip
def cnt:Code→Nat
 | .seq a b=>cnt a+cnt b
 | .cond _ a b=>cnt a+cnt b
 | .block _ c=>cnt c
 | .loop c=>cnt c
 | .region _ _ true=>1
 | _=>0
def u5a (o:Oper):Oper:=⟨o.dst,o.op,match o.op with
 | .call ⟨.builtin .min,_,_⟩=>o.type
 | .call ⟨.builtin .max,_,_⟩=>o.type
 | _=>0,"",#[],o.guard⟩
def mark (f:Func):Code→Nat→Code
 | .seq a b,k=>.seq (mark f a k) (mark f b (k+cnt a))
 | .cond c a b,k=>.cond c (mark f a k) (mark f b (k+cnt a))
 | .block i c,k=>.block i (mark f c k)
 | .loop c,k=>.loop (mark f c k)
 | .region _ ops false,_=>.region 0 (ops.toList.map u5a).toArray false
 | .region i _ true,k=>.region i (drawn f k) true
 | c,_=>c
inductive YK
 | s (i:Nat)
 | l (i:Nat)
 | b (i:Nat) (st:List Nat)
def N6a:List Oper→Nat→Oper
 | a :: _,0=>a
 | _ :: l,i+1=>N6a l i
 | [],_=>mx (.move (T 0))
def mkQ (l:List Oper):List YK→List YO
 | []=>[]
 | .s i :: r=>.s i (N6a l i) :: mkQ l r
 | .l i :: r=>.l i (N6a l i) :: mkQ l r
 | .b i st :: r=>.b i (N6a l i) st :: mkQ l r
section
variable (f:Func) (a b:Code) (k i:Nat) (c:Operand) (l:List Oper) (r:List YK) (o:Oper) (st:List Nat)
theorem u0d:cnt (.seq a b)=cnt a+cnt b:=rfl
theorem Y3c:cnt (.cond c a b)=cnt a+cnt b:=rfl
theorem t0c:cnt (.block i a)=cnt a:=rfl
theorem b4c:cnt (.loop a)=cnt a:=rfl
theorem Z3c (x:Array Oper):cnt (.region i x true)=1:=rfl
theorem s0d (x:Array Oper):cnt (.region i x false)=0:=rfl
theorem c4c:cnt .skip=0:=rfl
theorem v0c:cnt (.label i)=0:=rfl
theorem a4c:cnt (.exit i)=0:=rfl
theorem t0d:cnt .ret=0:=rfl
theorem x5c:mark f (.seq a b) k=.seq (mark f a k) (mark f b (k+cnt a)):=rfl
theorem c2c:mark f (.cond c a b) k=.cond c (mark f a k) (mark f b (k+cnt a)):=rfl
theorem h9b:mark f (.block i a) k=.block i (mark f a k):=rfl
theorem g2c:mark f (.loop a) k=.loop (mark f a k):=rfl
theorem d2c (x:Array Oper):mark f (.region i x true) k=.region i (drawn f k) true:=rfl
theorem v5c:mark f (.region i l.toArray false) k=.region 0 (l.map u5a).toArray false:=rfl
theorem i2c:mark f .skip k=.skip:=rfl
theorem i9b:mark f (.label i) k=.label i:=rfl
theorem f2c:mark f (.exit i) k=.exit i:=rfl
theorem w5c:mark f .ret k=.ret:=rfl
theorem u5c:List.map u5a []=[]:=rfl
theorem b2c:List.map u5a (o :: l)=u5a o :: List.map u5a l:=rfl
theorem Y2c (d p t s e g):u5a ⟨d,p,t,s,e,g⟩=⟨d,p,match p with
 | .call ⟨.builtin .min,_,_⟩=>t
 | .call ⟨.builtin .max,_,_⟩=>t
 | _=>0,"",#[],g⟩:=rfl
theorem q2c:N6a (o :: l) 0=o:=rfl
theorem p2c:N6a (o :: l) (i+1)=N6a l i:=rfl
theorem J1d:mkQ l []=[]:=rfl
theorem o0e:mkQ l (.s i :: r)=.s i (N6a l i) :: mkQ l r:=rfl
theorem n0e:mkQ l (.l i :: r)=.l i (N6a l i) :: mkQ l r:=rfl
theorem m0e:mkQ l (.b i st :: r)=.b i (N6a l i) st :: mkQ l r:=rfl
end
attribute [go_sem] u0d Y3c t0c b4c Z3c s0d c4c v0c a4c t0d x5c c2c h9b g2c d2c v5c i2c i9b f2c w5c u5c b2c Y2c q2c p2c J1d o0e n0e m0e
abbrev cd (f:Func) {c:Func→Code} (h:∀ g,mark g (O3d f) 0=c g:=by
 intro g
 conv=>
  lhs
  conv=>arg 2;whnf
  dsimp only[go_sem,Nat.reduceAdd]):Code:=c f
abbrev yl (f:Func) (k:Nat) {l:List Oper} (h:(drawn f k).toList.map u5a=l:=by
 conv=>
  lhs
  conv=>arg 2;arg 1;whnf
  dsimp only[go_sem]):List Oper:=l
abbrev yq (l:List Oper) (c:List YK) {q:List YO} (h:mkQ l c=q:=by
 conv=>
  lhs
  conv=>arg 1;whnf
  dsimp only[go_sem]):List YO:=q
section
variable (P:Program) (t:TypeId)
theorem LD1 (e:T3a P t=true:=by kernel_rfl):∀ ⦃h:DHeap⦄ ⦃id o:Nat⦄,O0a P t (.pointer (some ⟨id,o,none⟩)) h=Zu h id o:=fun _ _ _=>L0c e
theorem ST1 (e:T3a P t=true:=by kernel_rfl):∀ ⦃h:DHeap⦄ ⦃id o:Nat⦄ ⦃v:Value⦄ (_:v.cells=#[v]),Yw P t (.pointer (some ⟨id,o,none⟩)) v h=storeAt h id o [v]:=fun _ _ _ _ hv=>y7a e hv
theorem STI (e:T3a P t=true:=by kernel_rfl):∀ ⦃h:DHeap⦄ ⦃id o:Nat⦄ ⦃k:IntKind⦄ ⦃n:Int⦄,Yw P t (.pointer (some ⟨id,o,none⟩)) (.int k n) h=storeAt h id o [.int k n]:=fun _ _ _ _ _=>y7a e rfl
theorem STL (e:T3a P t=true:=by kernel_rfl):∀ ⦃h:DHeap⦄ ⦃id o:Nat⦄ ⦃a:Option Addr⦄ ⦃m c:Nat⦄,Yw P t (.pointer (some ⟨id,o,none⟩)) (.slice a m c) h=storeAt h id o [.slice a m c]:=fun _ _ _ _ _ _=>y7a e rfl
theorem LDA (n:Nat) (e:L5a P t=some n:=by kernel_rfl):∀ ⦃h:DHeap⦄ ⦃id o:Nat⦄,O0a P t (.pointer (some ⟨id,o,none⟩)) h=Zx h id o n:=fun _ _ _=>K0c e
theorem STA (n:Nat) (e:L5a P t=some n:=by kernel_rfl):∀ ⦃h:DHeap⦄ ⦃id o:Nat⦄ ⦃cs:Array Value⦄ (_:cs.size=n),Yw P t (.pointer (some ⟨id,o,none⟩)) (.agg cs) h=storeAt h id o cs.toList:=fun _ _ _ _ hv=>I8b e hv
theorem FA (f k:Nat) (e:Y9a P t f=some k:=by kernel_rfl):∀ ⦃id o:Nat⦄,d2a P t (.pointer (some ⟨id,o,none⟩)) f=some (.pointer (some ⟨id,o+k,none⟩)):=fun _ _=>i3b e
theorem CV (b:TypeId) (k1 k2:IntKind) (e1:P.underlying t=some (.int k1):=by kernel_rfl) (e2:P.underlying b=some (.int k2):=by kernel_rfl):∀ ⦃h:DHeap⦄ ⦃k:IntKind⦄ ⦃n:Int⦄,r6a P t b h (some (.int k n))=.ok (.value (.int k2 (IntKind.wrap k2 n))) h:=fun _ _ _=>g3b e1 e2
theorem MI (e:I3a P t=some false:=by kernel_rfl):∀ ⦃h:DHeap⦄ ⦃v:Value⦄,a6a P t h (some v)=.ok (.value (.iface t v)) h:=fun _ _=>n3b e
theorem TA (e:I3a P t=some false:=by kernel_rfl):∀ ⦃h:DHeap⦄ ⦃v:Value⦄ ⦃ok:Bool⦄,w4a P t ok h (some (.iface t v))=.ok (.value (if ok then .tuple #[v,.bool true] else v)) h:=fun _ _ ok=>n9a e ok
theorem CA (f:FuncId) (e:R0a P f=true:=by kernel_rfl):∀ ⦃h:DHeap⦄ ⦃first cap:Array Value⦄ ⦃vs:List Value⦄,M2a P h (some (.func (.func f) first cap)) (some vs)=.ok (.enter f (first.toList++vs++cap.toList)) h:=fun _ _ _ _=>G6a e _ _ _
theorem DE (f:FuncId) (e:R0a P f=true:=by kernel_rfl):∀ ⦃h:DHeap⦄ ⦃first cap:Array Value⦄ ⦃vs:List Value⦄,N5a P h (some (.func (.func f) first cap)) (some vs)=.ok (.defer f (first.toList++vs++cap.toList)) h:=fun _ _ _ _=>t4b e _ _ _
theorem AL (z:Nat) (cs:List Value) (h1:zeroCells P t=some cs:=by kernel_rfl) (h2:cs.all YW=true:=by kernel_rfl) (h3:i1a P t=z:=by kernel_rfl):∀ ⦃h:DHeap⦄,C1a P t h=some (.pointer (some ⟨h.next,0,none⟩),h.push (.row cs z false)):=fun _=>j6b h1 h2 h3
theorem ISL (e:f3a P t=true:=by kernel_rfl):f3a P t=true:=e
theorem BS0 (z:Nat) (zs:List Value) (e:V5a P t=some (z,zs):=by kernel_rfl):∀ ⦃h:DHeap⦄,b0a P t 0 [] h=some (.slice (some ⟨h.next,0,none⟩) 0 0,h.push (.row [] z false)):=fun _=>b3b e
theorem BS1 (z:Nat) (zs:List Value) (e:V5a P t=some (z,zs):=by kernel_rfl) (b:Nat.ble z (2 ^ 24)=true:=by kernel_rfl):∀ ⦃h:DHeap⦄ ⦃a:Value⦄ (_:a.cells.size=z),b0a P t 1 [(0,a)] h=some (.slice (some ⟨h.next,0,none⟩) 1 1,h.push (.row a.cells.toList z false)):=fun _ _ ha=>c3b e ha (Nat.le_of_ble_eq_true b)
theorem BS2 (z:Nat) (zs:List Value) (e:V5a P t=some (z,zs):=by kernel_rfl) (b:Nat.ble (2*z) (2 ^ 24)=true:=by kernel_rfl):∀ ⦃h:DHeap⦄ ⦃a b:Value⦄ (_:a.cells.size=z) (_:b.cells.size=z),b0a P t 2 [(0,a),(1,b)] h=some (.slice (some ⟨h.next,0,none⟩) 2 2,h.push (.row (a.cells.toList++b.cells.toList) z false)):=fun _ _ _ ha hb=>d3b e ha hb (Nat.le_of_ble_eq_true b)
end
theorem GoC.ok (P:Program) (f nt:Nat) (c:Code) (rs:List ResultVar) (fn:Func) (hf:P.funcs[f]? = some fn:=by kernel_rfl) (hb:fn.body.map strip=some c:=by kernel_rfl) (hn:fn.ntmps=nt:=by kernel_rfl) (hr:fn.results.toList=rs:=by kernel_rfl) (hk:p0a nt c=true:=by kernel_rfl):∀ ⦃args:List Value⦄ ⦃h:DHeap⦄ ⦃R:DEnd→DHeap→Prop⦄,args.length≤nt→xs P nt c (s7a P rs R) ⟨L2a args nt,[],h,none⟩→Ct P f args h R:=
 fun _ _ _ ha hx=>m6c hf hb hn hr ha hk hx
end Go.D
namespace Go.Proofs.YtheamfnbfgiaeaaGreat
open Go.D
set_option maxRecDepth 100000
noncomputable def c3:Code:=cd Tryz.f3
def K1e:=GoC.ok Tryz.prog 3 55 c3 [(.tmp 6)] Tryz.f3
noncomputable def L6a:=yl Tryz.f9 0
noncomputable def R1e:Code:=.region 3 (drawn Tryz.f9 0) true
noncomputable def c9:Code:=cd Tryz.f9
def L1e:=GoC.ok Tryz.prog 9 31 c9 [(.tmp 4)] Tryz.f9
def v6c:List (Nat × Tmp × TypeId):=[]
noncomputable def v7c:=yl Tryz.f10 0
noncomputable def x8c:=yq v7c [.l 0,.s 1,.b 2 [0],.b 3 [],.s 4]
noncomputable def r0e:Code:=.region 8 (drawn Tryz.f10 0) true
theorem s2d:YR Tryz.prog 34 r0e v7c v6c x8c:=YR.of
noncomputable def c10:Code:=cd Tryz.f10
def L8d:=GoC.ok Tryz.prog 10 34 c10 [(.cell 8 36),(.tmp 9)] Tryz.f10
def w6c:List (Nat × Tmp × TypeId):=[(6,12,94)]
noncomputable def w7c:=yl Tryz.f11 0
noncomputable def y8c:=yq w7c [.l 0,.s 1,.s 2,.s 3,.b 4 [0,1],.b 5 [0],.b 7 []]
noncomputable def s0e:Code:=.region 6 (drawn Tryz.f11 0) true
theorem t2d:YR Tryz.prog 74 s0e w7c w6c y8c:=YR.of
noncomputable def c11:Code:=cd Tryz.f11
def M8d:=GoC.ok Tryz.prog 11 74 c11 [(.cell 8 36),(.tmp 9)] Tryz.f11
def x6c:List (Nat × Tmp × TypeId):=[]
noncomputable def x7c:=yl Tryz.f12 0
noncomputable def z8c:=yq x7c [.s 0,.s 1,.l 3,.l 5,.b 2 [0,1],.b 4 [1],.b 6 [],.b 7 [],.s 8,.b 9 [],.s 10,.s 11,.s 12,.s 13,.s 14]
noncomputable def t0e:Code:=.region 5 (drawn Tryz.f12 0) true
theorem u2d:YR Tryz.prog 77 t0e x7c x6c z8c:=YR.of
noncomputable def c12:Code:=cd Tryz.f12
def N8d:=GoC.ok Tryz.prog 12 77 c12 [(.tmp 0)] Tryz.f12
def y6c:List (Nat × Tmp × TypeId):=[]
noncomputable def y7c:=yl Tryz.f13 0
noncomputable def A8c:=yq y7c [.s 0,.s 1,.s 2,.s 3,.s 4,.s 5,.s 6,.s 7,.s 8,.s 9,.s 10]
noncomputable def u0e:Code:=.region 6 (drawn Tryz.f13 0) true
theorem v2d:YR Tryz.prog 52 u0e y7c y6c A8c:=YR.of
noncomputable def c13:Code:=cd Tryz.f13
def O8d:=GoC.ok Tryz.prog 13 52 c13 [(.tmp 4)] Tryz.f13
def z6c:List (Nat × Tmp × TypeId):=[]
noncomputable def z7c:=yl Tryz.f14 0
noncomputable def B8c:=yq z7c [.s 0,.s 1,.s 2,.s 3,.s 4,.s 5,.s 6,.s 7,.s 8]
noncomputable def v0e:Code:=.region 6 (drawn Tryz.f14 0) true
theorem w2d:YR Tryz.prog 26 v0e z7c z6c B8c:=YR.of
noncomputable def c14:Code:=cd Tryz.f14
def P8d:=GoC.ok Tryz.prog 14 26 c14 [(.tmp 4)] Tryz.f14
noncomputable def c16:Code:=cd Tryz.f16
def Q8d:=GoC.ok Tryz.prog 16 5 c16 [(.tmp 0)] Tryz.f16
def A6c:List (Nat × Tmp × TypeId):=[(10,9,59)]
noncomputable def A7c:=yl Tryz.f19 0
noncomputable def C8c:=yq A7c [.s 0,.s 1,.s 2,.s 3,.s 4,.s 5,.b 6 [0],.s 7,.s 8,.s 9,.b 11 [],.s 12]
noncomputable def w0e:Code:=.region 10 (drawn Tryz.f19 0) true
theorem x2d:YR Tryz.prog 97 w0e A7c A6c C8c:=YR.of
def B6c:List (Nat × Tmp × TypeId):=[]
noncomputable def B7c:=yl Tryz.f19 1
noncomputable def D8c:=yq B7c [.s 0,.l 1,.s 2,.l 3,.s 4,.s 5,.s 6,.s 7,.s 8,.s 9,.s 10,.s 11,.s 12,.s 13,.b 14 [0,1],.s 15,.b 16 []]
noncomputable def x9c:Code:=.region 13 (drawn Tryz.f19 1) true
theorem y2d:YR Tryz.prog 97 x9c B7c B6c D8c:=YR.of
def C6c:List (Nat × Tmp × TypeId):=[]
noncomputable def C7c:=yl Tryz.f19 2
noncomputable def E8c:=yq C7c [.s 0,.s 1,.s 2,.s 3,.s 4,.s 5,.s 6,.b 7 []]
noncomputable def y9c:Code:=.region 14 (drawn Tryz.f19 2) true
theorem z2d:YR Tryz.prog 97 y9c C7c C6c E8c:=YR.of
def D6c:List (Nat × Tmp × TypeId):=[]
noncomputable def D7c:=yl Tryz.f19 3
noncomputable def F8c:=yq D7c [.s 0,.s 1,.l 2,.s 3,.l 4,.s 5,.s 6,.b 7 [0,1],.s 8,.b 9 [],.b 10 [],.s 11]
noncomputable def z9c:Code:=.region 15 (drawn Tryz.f19 3) true
theorem A2d:YR Tryz.prog 97 z9c D7c D6c F8c:=YR.of
noncomputable def c19:Code:=cd Tryz.f19
def R8d:=GoC.ok Tryz.prog 19 97 c19 [(.tmp 4),(.tmp 5)] Tryz.f19
noncomputable def c24:Code:=cd Tryz.f24
def S8d:=GoC.ok Tryz.prog 24 9 c24 [(.tmp 2)] Tryz.f24
def E6c:List (Nat × Tmp × TypeId):=[(9,6,33)]
noncomputable def E7c:=yl Tryz.f25 0
noncomputable def G8c:=yq E7c [.s 0,.s 1,.s 2,.s 3,.s 4,.b 5 [0],.s 6,.s 7,.s 8,.b 10 [],.s 11]
noncomputable def x0e:Code:=.region 3 (drawn Tryz.f25 0) true
theorem B2d:YR Tryz.prog 22 x0e E7c E6c G8c:=YR.of
noncomputable def c25:Code:=cd Tryz.f25
def T8d:=GoC.ok Tryz.prog 25 22 c25 [(.cell 4 33),(.tmp 5)] Tryz.f25
def F6c:List (Nat × Tmp × TypeId):=[]
noncomputable def F7c:=yl Tryz.f33 0
noncomputable def H8c:=yq F7c [.s 0,.s 1,.s 2,.s 3,.s 4,.s 5,.b 6 [],.s 7]
noncomputable def y0e:Code:=.region 4 (drawn Tryz.f33 0) true
theorem C2d:YR Tryz.prog 28 y0e F7c F6c H8c:=YR.of
noncomputable def c33:Code:=cd Tryz.f33
def U8d:=GoC.ok Tryz.prog 33 28 c33 [(.tmp 4),(.tmp 5)] Tryz.f33
noncomputable def c34:Code:=cd Tryz.f34
def V8d:=GoC.ok Tryz.prog 34 74 c34 [(.cell 8 36)] Tryz.f34
noncomputable def c35:Code:=cd Tryz.f35
def W8d:=GoC.ok Tryz.prog 35 22 c35 [(.tmp 2)] Tryz.f35
def G6c:List (Nat × Tmp × TypeId):=[]
noncomputable def G7c:=yl Tryz.f36 0
noncomputable def I8c:=yq G7c [.l 0,.s 1,.s 2,.b 3 [0],.s 4,.b 5 [],.s 6]
noncomputable def z0e:Code:=.region 3 (drawn Tryz.f36 0) true
theorem D2d:YR Tryz.prog 81 z0e G7c G6c I8c:=YR.of
def H6c:List (Nat × Tmp × TypeId):=[]
noncomputable def H7c:=yl Tryz.f36 1
noncomputable def J8c:=yq H7c [.s 0,.s 1,.s 2,.l 3,.s 4,.s 5,.b 6 [0],.s 7]
noncomputable def A0e:Code:=.region 6 (drawn Tryz.f36 1) true
theorem E2d:YR Tryz.prog 81 A0e H7c H6c J8c:=YR.of
def I6c:List (Nat × Tmp × TypeId):=[(11,10,130)]
noncomputable def I7c:=yl Tryz.f36 2
noncomputable def K8c:=yq I7c [.s 0,.s 1,.s 2,.s 3,.s 4,.s 5,.b 6 [0],.s 7,.s 8,.s 9,.s 10,.b 12 [],.s 13,.s 14]
noncomputable def B0e:Code:=.region 9 (drawn Tryz.f36 2) true
theorem F2d:YR Tryz.prog 81 B0e I7c I6c K8c:=YR.of
def J6c:List (Nat × Tmp × TypeId):=[]
noncomputable def J7c:=yl Tryz.f36 3
noncomputable def L8c:=yq J7c [.s 0,.s 1,.s 2,.l 3,.s 4,.s 5,.s 6,.s 7,.s 9,.b 8 [0],.s 10,.b 11 []]
noncomputable def C0e:Code:=.region 15 (drawn Tryz.f36 3) true
theorem G2d:YR Tryz.prog 81 C0e J7c J6c L8c:=YR.of
noncomputable def c36:Code:=cd Tryz.f36
def X8d:=GoC.ok Tryz.prog 36 81 c36 [(.cell 6 94)] Tryz.f36
def K6c:List (Nat × Tmp × TypeId):=[]
noncomputable def K7c:=yl Tryz.f37 0
noncomputable def M8c:=yq K7c [.s 0,.s 1,.s 2,.s 3,.s 4,.s 5,.s 6,.s 7,.s 8,.s 9,.s 10,.s 11,.b 12 [],.b 13 [],.s 14]
noncomputable def D0e:Code:=.region 6 (drawn Tryz.f37 0) true
theorem H2d:YR Tryz.prog 35 D0e K7c K6c M8c:=YR.of
noncomputable def c37:Code:=cd Tryz.f37
def Y8d:=GoC.ok Tryz.prog 37 35 c37 [(.tmp 4)] Tryz.f37
noncomputable def Y2a:=yl Tryz.f38 0
noncomputable def E0e:Code:=.region 5 (drawn Tryz.f38 0) true
noncomputable def c38:Code:=cd Tryz.f38
def Z8d:=GoC.ok Tryz.prog 38 27 c38 [(.tmp 4)] Tryz.f38
noncomputable def c39:Code:=cd Tryz.f39
def a9d:=GoC.ok Tryz.prog 39 19 c39 [(.cell 8 26)] Tryz.f39
noncomputable def l40_0:=yl Tryz.f40 0
noncomputable def F0e:Code:=.region 6 (drawn Tryz.f40 0) true
theorem E0d {Q:Zk→St→Prop} {s:St} (h:Wy Tryz.prog l40_0.toArray (Xk (drawn Tryz.f40 0).toList []) [] s.fr Q l40_0 0 s []):NC Tryz.prog 26 F0e Q s:=
 NC.draw (by kernel_rfl) (by kernel_rfl) (by kernel_rfl) rfl (by kernel_rfl) (by kernel_rfl) h
noncomputable def c40:Code:=cd Tryz.f40
def b9d:=GoC.ok Tryz.prog 40 26 c40 [(.tmp 4)] Tryz.f40
noncomputable def c42:Code:=cd Tryz.f42
def c9d:=GoC.ok Tryz.prog 42 12 c42 [(.tmp 2)] Tryz.f42
def R8b:List (Nat × Tmp × TypeId):=[(10,5,59)]
noncomputable def L7c:=yl Tryz.f43 0
noncomputable def p9b:=yq L7c [.s 0,.s 1,.s 2,.s 3,.s 4,.s 5,.b 6 [0],.s 7,.s 8,.s 9,.b 11 [],.s 12]
noncomputable def G0e:Code:=.region 1 (drawn Tryz.f43 0) true
theorem I2d:YR Tryz.prog 50 G0e L7c R8b p9b:=YR.of
noncomputable def c43:Code:=cd Tryz.f43
def d9d:=GoC.ok Tryz.prog 43 50 c43 [(.tmp 4)] Tryz.f43
noncomputable def c44:Code:=cd Tryz.f44
def f9d:=GoC.ok Tryz.prog 44 8 c44 [(.cell 2 36)] Tryz.f44
noncomputable def c51:Code:=cd Tryz.f51
def g9d:=GoC.ok Tryz.prog 51 27 c51 [(.tmp 4)] Tryz.f51
def L6c:List (Nat × Tmp × TypeId):=[]
noncomputable def M7c:=yl Tryz.f52 0
noncomputable def N8c:=yq M7c [.s 0,.s 1,.s 2,.s 3,.s 4,.s 5,.s 6,.b 7 []]
noncomputable def H0e:Code:=.region 8 (drawn Tryz.f52 0) true
theorem J2d:YR Tryz.prog 136 H0e M7c L6c N8c:=YR.of
def M6c:List (Nat × Tmp × TypeId):=[]
noncomputable def N7c:=yl Tryz.f52 1
noncomputable def O8c:=yq N7c [.s 0,.s 1,.s 2,.s 3,.s 4,.s 5,.s 6,.s 7,.b 8 []]
noncomputable def I0e:Code:=.region 13 (drawn Tryz.f52 1) true
theorem K2d:YR Tryz.prog 136 I0e N7c M6c O8c:=YR.of
def N6c:List (Nat × Tmp × TypeId):=[]
noncomputable def O7c:=yl Tryz.f52 2
noncomputable def P8c:=yq O7c [.s 0,.s 1,.s 2,.l 3,.s 4,.s 6,.b 5 [0],.s 7,.b 8 []]
noncomputable def J0e:Code:=.region 34 (drawn Tryz.f52 2) true
theorem L2d:YR Tryz.prog 136 J0e O7c N6c P8c:=YR.of
noncomputable def c52:Code:=cd Tryz.f52
def h9d:=GoC.ok Tryz.prog 52 136 c52 [(.cell 6 94)] Tryz.f52
noncomputable def c53:Code:=cd Tryz.f53
def i9d:=GoC.ok Tryz.prog 53 12 c53 [(.tmp 4)] Tryz.f53
noncomputable def c54:Code:=cd Tryz.f54
def j9d:=GoC.ok Tryz.prog 54 4 c54 [(.tmp 2)] Tryz.f54
noncomputable def l55_0:=yl Tryz.f55 0
noncomputable def K0e:Code:=.region 1 (drawn Tryz.f55 0) true
theorem F0d {Q:Zk→St→Prop} {s:St} (h:Wy Tryz.prog l55_0.toArray (Xk (drawn Tryz.f55 0).toList []) [(6,4),(8,4)] s.fr Q l55_0 0 s []):NC Tryz.prog 17 K0e Q s:=
 NC.draw (by kernel_rfl) (by kernel_rfl) (by kernel_rfl) rfl (by kernel_rfl) (by kernel_rfl) h
noncomputable def c55:Code:=cd Tryz.f55
def k9d:=GoC.ok Tryz.prog 55 17 c55 [(.tmp 4)] Tryz.f55
noncomputable def c56:Code:=cd Tryz.f56
def l9d:=GoC.ok Tryz.prog 56 95 c56 [(.tmp 2)] Tryz.f56
def O6c:List (Nat × Tmp × TypeId):=[]
noncomputable def P7c:=yl Tryz.f57 0
noncomputable def Q8c:=yq P7c [.s 0,.s 1,.s 2,.s 3,.s 4,.s 5,.s 6,.b 7 []]
noncomputable def L0e:Code:=.region 6 (drawn Tryz.f57 0) true
theorem M2d:YR Tryz.prog 32 L0e P7c O6c Q8c:=YR.of
noncomputable def c57:Code:=cd Tryz.f57
def m9d:=GoC.ok Tryz.prog 57 32 c57 [(.tmp 4)] Tryz.f57
noncomputable def l58_0:=yl Tryz.f58 0
noncomputable def M0e:Code:=.region 18 (drawn Tryz.f58 0) true
theorem G0d {Q:Zk→St→Prop} {s:St} (h:Wy Tryz.prog l58_0.toArray (Xk (drawn Tryz.f58 0).toList []) [] s.fr Q l58_0 0 s []):NC Tryz.prog 115 M0e Q s:=
 NC.draw (by kernel_rfl) (by kernel_rfl) (by kernel_rfl) rfl (by kernel_rfl) (by kernel_rfl) h
noncomputable def c58:Code:=cd Tryz.f58
def n9d:=GoC.ok Tryz.prog 58 115 c58 [(.cell 4 130),(.tmp 5),(.tmp 6)] Tryz.f58
def P6c:List (Nat × Tmp × TypeId):=[]
noncomputable def Q7c:=yl Tryz.f59 0
noncomputable def R8c:=yq Q7c [.s 0,.s 1,.s 2,.s 3,.s 4,.s 5,.s 6,.s 7,.b 8 []]
noncomputable def N0e:Code:=.region 10 (drawn Tryz.f59 0) true
theorem N2d:YR Tryz.prog 173 N0e Q7c P6c R8c:=YR.of
def Q6c:List (Nat × Tmp × TypeId):=[]
noncomputable def R7c:=yl Tryz.f59 1
noncomputable def S8c:=yq R7c [.s 0,.s 1,.s 2,.s 3,.s 4,.s 5,.s 6,.s 7,.s 8,.s 9,.s 10,.s 11,.s 12,.s 13,.s 14,.b 15 []]
noncomputable def O0e:Code:=.region 12 (drawn Tryz.f59 1) true
theorem O2d:YR Tryz.prog 173 O0e R7c Q6c S8c:=YR.of
def R6c:List (Nat × Tmp × TypeId):=[]
noncomputable def S7c:=yl Tryz.f59 2
noncomputable def T8c:=yq S7c [.s 0,.s 1,.s 2,.s 3,.s 4,.s 5,.s 6,.s 7,.s 8,.s 9,.s 10,.s 11,.s 12,.b 13 []]
noncomputable def P0e:Code:=.region 14 (drawn Tryz.f59 2) true
theorem P2d:YR Tryz.prog 173 P0e S7c R6c T8c:=YR.of
def S6c:List (Nat × Tmp × TypeId):=[]
noncomputable def T7c:=yl Tryz.f59 3
noncomputable def U8c:=yq T7c [.s 0,.s 1,.l 2,.s 3,.s 4,.s 5,.s 6,.s 7,.s 8,.s 9,.s 10,.s 11,.s 13,.s 14,.b 12 [0],.s 15,.b 16 []]
noncomputable def Q0e:Code:=.region 16 (drawn Tryz.f59 3) true
theorem Q2d:YR Tryz.prog 173 Q0e T7c S6c U8c:=YR.of
def T6c:List (Nat × Tmp × TypeId):=[]
noncomputable def U7c:=yl Tryz.f59 4
noncomputable def V8c:=yq U7c [.s 0,.s 1,.s 2,.s 3,.s 4,.s 5,.s 6,.s 7]
noncomputable def R0e:Code:=.region 20 (drawn Tryz.f59 4) true
theorem R2d:YR Tryz.prog 173 R0e U7c T6c V8c:=YR.of
def U6c:List (Nat × Tmp × TypeId):=[]
noncomputable def V7c:=yl Tryz.f59 5
noncomputable def W8c:=yq V7c [.s 0,.s 1,.s 2,.s 3,.l 4,.s 5,.s 6,.s 7,.s 8,.s 9,.s 10,.s 11,.b 12 [0],.b 13 [],.s 14,.s 15,.b 16 []]
noncomputable def S0e:Code:=.region 25 (drawn Tryz.f59 5) true
theorem S2d:YR Tryz.prog 173 S0e V7c U6c W8c:=YR.of
def V6c:List (Nat × Tmp × TypeId):=[]
noncomputable def W7c:=yl Tryz.f59 6
noncomputable def X8c:=yq W7c [.s 0,.s 1,.s 2,.s 3,.s 4]
noncomputable def T0e:Code:=.region 27 (drawn Tryz.f59 6) true
theorem T2d:YR Tryz.prog 173 T0e W7c V6c X8c:=YR.of
def W6c:List (Nat × Tmp × TypeId):=[]
noncomputable def X7c:=yl Tryz.f59 7
noncomputable def Y8c:=yq X7c [.s 0,.s 1,.s 2,.s 3,.s 4,.s 5,.s 6,.s 7,.s 8,.s 9,.s 10,.s 11,.s 12,.s 13,.s 14,.s 15,.b 16 [],.s 17,.s 18,.s 19,.s 20,.s 21]
noncomputable def U0e:Code:=.region 3 (drawn Tryz.f59 7) true
theorem U2d:YR Tryz.prog 173 U0e X7c W6c Y8c:=YR.of
def X6c:List (Nat × Tmp × TypeId):=[]
noncomputable def Y7c:=yl Tryz.f59 8
noncomputable def Z8c:=yq Y7c [.s 0,.s 1,.s 2,.s 3,.s 4,.s 5,.s 6,.b 7 []]
noncomputable def V0e:Code:=.region 6 (drawn Tryz.f59 8) true
theorem V2d:YR Tryz.prog 173 V0e Y7c X6c Z8c:=YR.of
noncomputable def c59:Code:=cd Tryz.f59
def o9d:=GoC.ok Tryz.prog 59 173 c59 [(.tmp 6),(.tmp 7)] Tryz.f59
def S8b:List (Nat × Tmp × TypeId):=[]
noncomputable def G3b:=yl Tryz.f60 0
noncomputable def q9b:=yq G3b [.s 0,.s 1,.b 2 [],.s 3,.s 4,.s 5,.s 6,.s 7,.s 8,.s 9,.s 10,.s 11,.s 12,.s 13,.s 14,.b 15 [],.s 16]
noncomputable def W0e:Code:=.region 6 (drawn Tryz.f60 0) true
theorem W2d:YR Tryz.prog 68 W0e G3b S8b q9b:=YR.of
def E3b:List (Nat × Tmp × TypeId):=[]
noncomputable def S0b:=yl Tryz.f60 1
noncomputable def I3b:=yq S0b [.s 0,.s 1,.b 2 [],.s 3,.s 4,.s 5,.s 6,.s 7,.s 8,.s 9,.s 10,.s 11,.s 12,.s 13,.s 14,.s 15,.s 16]
noncomputable def X0e:Code:=.region 10 (drawn Tryz.f60 1) true
theorem X2d:YR Tryz.prog 68 X0e S0b E3b I3b:=YR.of
noncomputable def c60:Code:=cd Tryz.f60
def p9d:=GoC.ok Tryz.prog 60 68 c60 [(.tmp 2)] Tryz.f60
def Y6c:List (Nat × Tmp × TypeId):=[]
noncomputable def Z7c:=yl Tryz.f61 0
noncomputable def a9c:=yq Z7c [.s 0,.s 1,.s 2,.s 3,.s 4,.s 5]
noncomputable def Y0e:Code:=.region 4 (drawn Tryz.f61 0) true
theorem Y2d:YR Tryz.prog 18 Y0e Z7c Y6c a9c:=YR.of
noncomputable def c61:Code:=cd Tryz.f61
def q9d:=GoC.ok Tryz.prog 61 18 c61 [(.tmp 4)] Tryz.f61
noncomputable def c63:Code:=cd Tryz.f63
def r9d:=GoC.ok Tryz.prog 63 8 c63 [(.tmp 2)] Tryz.f63
noncomputable def c69:Code:=cd Tryz.f69
def s9d:=GoC.ok Tryz.prog 69 94 c69 [(.tmp 2)] Tryz.f69
noncomputable def c70:Code:=cd Tryz.f70
def t9d:=GoC.ok Tryz.prog 70 44 c70 [(.cell 2 143),(.cell 3 52)] Tryz.f70
noncomputable def c71:Code:=cd Tryz.f71
def u9d:=GoC.ok Tryz.prog 71 9 c71 [(.tmp 4)] Tryz.f71
def Z6c:List (Nat × Tmp × TypeId):=[]
noncomputable def a8c:=yl Tryz.f72 0
noncomputable def b9c:=yq a8c [.s 0,.s 1,.s 2,.s 3,.s 4,.s 5,.s 6,.s 7,.s 8,.s 9,.s 10,.s 11,.s 12,.s 13,.s 14]
noncomputable def Z0e:Code:=.region 1 (drawn Tryz.f72 0) true
theorem Z2d:YR Tryz.prog 248 Z0e a8c Z6c b9c:=YR.of
def a7c:List (Nat × Tmp × TypeId):=[]
noncomputable def b8c:=yl Tryz.f72 1
noncomputable def c9c:=yq b8c [.s 0,.s 1,.s 2,.s 3,.s 4,.s 5,.s 6,.s 7,.s 8,.s 9,.s 10,.b 11 []]
noncomputable def a1e:Code:=.region 12 (drawn Tryz.f72 1) true
theorem a3d:YR Tryz.prog 248 a1e b8c a7c c9c:=YR.of
def b7c:List (Nat × Tmp × TypeId):=[]
noncomputable def c8c:=yl Tryz.f72 2
noncomputable def d9c:=yq c8c [.s 0,.s 1,.s 2,.s 3,.s 4,.s 5,.s 6,.s 7,.s 8,.s 9,.s 10,.b 11 [],.s 12,.s 13,.s 14,.s 15,.b 16 []]
noncomputable def b1e:Code:=.region 16 (drawn Tryz.f72 2) true
theorem b3d:YR Tryz.prog 248 b1e c8c b7c d9c:=YR.of
def c7c:List (Nat × Tmp × TypeId):=[]
noncomputable def d8c:=yl Tryz.f72 3
noncomputable def f9c:=yq d8c [.s 0,.s 1,.s 2,.s 3,.s 4,.s 5,.s 6,.s 7,.s 8,.s 9,.b 10 [],.s 11,.s 12,.s 13,.s 14,.s 15]
noncomputable def c1e:Code:=.region 18 (drawn Tryz.f72 3) true
theorem c3d:YR Tryz.prog 248 c1e d8c c7c f9c:=YR.of
def d7c:List (Nat × Tmp × TypeId):=[(9,9,31)]
noncomputable def f8c:=yl Tryz.f72 4
noncomputable def g9c:=yq f8c [.s 0,.s 1,.s 2,.s 3,.s 4,.s 5,.s 6,.s 7,.s 8,.b 10 []]
noncomputable def d1e:Code:=.region 21 (drawn Tryz.f72 4) true
theorem d3d:YR Tryz.prog 248 d1e f8c d7c g9c:=YR.of
def f7c:List (Nat × Tmp × TypeId):=[]
noncomputable def g8c:=yl Tryz.f72 5
noncomputable def h9c:=yq g8c [.s 0,.s 1,.s 2,.s 3,.s 4,.s 5,.s 6,.s 7,.s 8,.s 9,.b 10 []]
noncomputable def f1e:Code:=.region 22 (drawn Tryz.f72 5) true
theorem f3d:YR Tryz.prog 248 f1e g8c f7c h9c:=YR.of
def g7c:List (Nat × Tmp × TypeId):=[(9,10,31)]
noncomputable def h8c:=yl Tryz.f72 6
noncomputable def i9c:=yq h8c [.s 0,.s 1,.s 2,.s 3,.s 4,.s 5,.s 6,.s 7,.s 8,.b 10 []]
noncomputable def g1e:Code:=.region 24 (drawn Tryz.f72 6) true
theorem g3d:YR Tryz.prog 248 g1e h8c g7c i9c:=YR.of
def h7c:List (Nat × Tmp × TypeId):=[]
noncomputable def i8c:=yl Tryz.f72 7
noncomputable def j9c:=yq i8c [.s 0,.s 1,.s 2,.s 3,.s 4,.s 5,.s 6,.b 7 []]
noncomputable def i1e:Code:=.region 25 (drawn Tryz.f72 7) true
theorem h3d:YR Tryz.prog 248 i1e i8c h7c j9c:=YR.of
def i7c:List (Nat × Tmp × TypeId):=[]
noncomputable def j8c:=yl Tryz.f72 8
noncomputable def k9c:=yq j8c [.s 0,.s 1,.s 2,.s 3,.s 4,.s 5,.b 6 [],.s 7,.b 8 []]
noncomputable def j1e:Code:=.region 27 (drawn Tryz.f72 8) true
theorem i3d:YR Tryz.prog 248 j1e j8c i7c k9c:=YR.of
def j7c:List (Nat × Tmp × TypeId):=[]
noncomputable def k8c:=yl Tryz.f72 9
noncomputable def l9c:=yq k8c [.s 0,.s 1,.s 2,.s 3,.l 4,.s 5,.s 6,.s 7,.b 8 [0],.b 9 [],.s 10,.s 11,.b 12 []]
noncomputable def k1e:Code:=.region 36 (drawn Tryz.f72 9) true
theorem j3d:YR Tryz.prog 248 k1e k8c j7c l9c:=YR.of
def s1c:List (Nat × Tmp × TypeId):=[]
noncomputable def Q1c:=yl Tryz.f72 10
noncomputable def E2c:=yq Q1c [.s 0,.s 1,.s 2,.s 3,.s 4,.s 5,.b 6 [],.s 7]
noncomputable def Q6d:Code:=.region 41 (drawn Tryz.f72 10) true
theorem i6c:YR Tryz.prog 248 Q6d Q1c s1c E2c:=YR.of
def t1c:List (Nat × Tmp × TypeId):=[]
noncomputable def R1c:=yl Tryz.f72 11
noncomputable def F2c:=yq R1c [.s 0,.s 1,.s 2,.s 3,.s 4,.s 5,.b 6 [],.s 7]
noncomputable def R6d:Code:=.region 46 (drawn Tryz.f72 11) true
theorem j6c:YR Tryz.prog 248 R6d R1c t1c F2c:=YR.of
def u1c:List (Nat × Tmp × TypeId):=[]
noncomputable def S1c:=yl Tryz.f72 12
noncomputable def G2c:=yq S1c [.s 0,.s 1,.s 2,.s 3,.s 4,.s 5,.s 6,.s 7,.s 8,.s 9,.b 10 []]
noncomputable def S6d:Code:=.region 48 (drawn Tryz.f72 12) true
theorem k6c:YR Tryz.prog 248 S6d S1c u1c G2c:=YR.of
def v1c:List (Nat × Tmp × TypeId):=[]
noncomputable def T1c:=yl Tryz.f72 13
noncomputable def H2c:=yq T1c [.s 0,.s 1,.s 2,.s 3,.s 4,.s 5,.b 6 [],.s 7,.s 8,.s 9,.s 10,.s 11]
noncomputable def T6d:Code:=.region 3 (drawn Tryz.f72 13) true
theorem l6c:YR Tryz.prog 248 T6d T1c v1c H2c:=YR.of
noncomputable def c72:Code:=cd Tryz.f72
def v9d:=GoC.ok Tryz.prog 72 248 c72 [(.tmp 4)] Tryz.f72
noncomputable def c73:Code:=cd Tryz.f73
def w9d:=GoC.ok Tryz.prog 73 42 c73 [(.tmp 2)] Tryz.f73
noncomputable def c74:Code:=cd Tryz.f74
def x9d:=GoC.ok Tryz.prog 74 5 c74 [(.tmp 2)] Tryz.f74
noncomputable def c75:Code:=cd Tryz.f75
def y9d:=GoC.ok Tryz.prog 75 14 c75 [] Tryz.f75
noncomputable def c76:Code:=cd Tryz.f76
def z9d:=GoC.ok Tryz.prog 76 14 c76 [] Tryz.f76
noncomputable def c77:Code:=cd Tryz.f77
def A9d:=GoC.ok Tryz.prog 77 18 c77 [(.tmp 2)] Tryz.f77
noncomputable def c78:Code:=cd Tryz.f78
def B9d:=GoC.ok Tryz.prog 78 20 c78 [(.tmp 4)] Tryz.f78
noncomputable def c79:Code:=cd Tryz.f79
def C9d:=GoC.ok Tryz.prog 79 20 c79 [(.tmp 4)] Tryz.f79
noncomputable def l80_0:=yl Tryz.f80 0
noncomputable def l1e:Code:=.region 4 (drawn Tryz.f80 0) true
theorem H0d {Q:Zk→St→Prop} {s:St} (h:Wy Tryz.prog l80_0.toArray (Xk (drawn Tryz.f80 0).toList []) [] s.fr Q l80_0 0 s []):NC Tryz.prog 21 l1e Q s:=
 NC.draw (by kernel_rfl) (by kernel_rfl) (by kernel_rfl) rfl (by kernel_rfl) (by kernel_rfl) h
noncomputable def c80:Code:=cd Tryz.f80
def D9d:=GoC.ok Tryz.prog 80 21 c80 [(.tmp 2)] Tryz.f80
noncomputable def c81:Code:=cd Tryz.f81
def E9d:=GoC.ok Tryz.prog 81 41 c81 [(.tmp 2),(.tmp 3)] Tryz.f81
def T8b:List (Nat × Tmp × TypeId):=[]
noncomputable def H3b:=yl Tryz.f82 0
noncomputable def r9b:=yq H3b [.s 0,.s 1,.b 2 [],.s 3,.s 4,.s 5,.s 6,.s 7,.s 8,.s 9,.s 10,.s 11,.s 12,.s 13,.s 14,.b 15 [],.s 16,.s 17]
noncomputable def m1e:Code:=.region 6 (drawn Tryz.f82 0) true
theorem k3d:YR Tryz.prog 69 m1e H3b T8b r9b:=YR.of
noncomputable def v3a:=yl Tryz.f82 1
noncomputable def n1e:Code:=.region 9 (drawn Tryz.f82 1) true
def F3b:List (Nat × Tmp × TypeId):=[]
noncomputable def T0b:=yl Tryz.f82 2
noncomputable def J3b:=yq T0b [.s 0,.s 1,.b 2 [],.s 3,.s 4,.s 5,.s 6,.s 7,.s 8,.s 9,.s 10,.s 11,.s 12,.s 13,.s 14,.s 15,.s 16]
noncomputable def o1e:Code:=.region 10 (drawn Tryz.f82 2) true
theorem l3d:YR Tryz.prog 69 o1e T0b F3b J3b:=YR.of
noncomputable def c82:Code:=cd Tryz.f82
def F9d:=GoC.ok Tryz.prog 82 69 c82 [(.tmp 2)] Tryz.f82
def k7c:List (Nat × Tmp × TypeId):=[]
noncomputable def l8c:=yl Tryz.f83 0
noncomputable def m9c:=yq l8c [.s 0,.s 1,.s 2,.s 3,.s 4,.s 5]
noncomputable def p1e:Code:=.region 4 (drawn Tryz.f83 0) true
theorem m3d:YR Tryz.prog 18 p1e l8c k7c m9c:=YR.of
noncomputable def c83:Code:=cd Tryz.f83
def G9d:=GoC.ok Tryz.prog 83 18 c83 [(.tmp 4)] Tryz.f83
noncomputable def c84:Code:=cd Tryz.f84
def H9d:=GoC.ok Tryz.prog 84 28 c84 [(.tmp 2)] Tryz.f84
noncomputable def c85:Code:=cd Tryz.f85
def I9d:=GoC.ok Tryz.prog 85 17 c85 [(.tmp 2)] Tryz.f85
noncomputable def c86:Code:=cd Tryz.f86
def J9d:=GoC.ok Tryz.prog 86 25 c86 [(.tmp 2)] Tryz.f86
noncomputable def c87:Code:=cd Tryz.f87
def K9d:=GoC.ok Tryz.prog 87 16 c87 [(.tmp 2)] Tryz.f87
noncomputable def c88:Code:=cd Tryz.f88
def L9d:=GoC.ok Tryz.prog 88 49 c88 [(.tmp 2)] Tryz.f88
noncomputable def c89:Code:=cd Tryz.f89
def M9d:=GoC.ok Tryz.prog 89 25 c89 [(.tmp 4)] Tryz.f89
def l7c:List (Nat × Tmp × TypeId):=[(11,5,31)]
noncomputable def m8c:=yl Tryz.f90 0
noncomputable def n9c:=yq m8c [.s 0,.s 1,.s 2,.s 3,.s 4,.s 5,.s 6,.s 7,.s 8,.s 9,.s 10,.b 12 []]
noncomputable def q1e:Code:=.region 1 (drawn Tryz.f90 0) true
theorem n3d:YR Tryz.prog 166 q1e m8c l7c n9c:=YR.of
def m7c:List (Nat × Tmp × TypeId):=[]
noncomputable def n8c:=yl Tryz.f90 1
noncomputable def o9c:=yq n8c [.s 0,.s 1,.l 2,.s 3,.s 4,.s 5,.s 6,.s 7,.s 8,.s 9,.s 10,.s 11,.s 12,.s 17,.s 18,.b 13 [0],.s 14,.s 15,.s 16,.s 19,.b 20 []]
noncomputable def r1e:Code:=.region 4 (drawn Tryz.f90 1) true
theorem o3d:YR Tryz.prog 166 r1e n8c m7c o9c:=YR.of
def n7c:List (Nat × Tmp × TypeId):=[]
noncomputable def o8c:=yl Tryz.f90 2
noncomputable def p9c:=yq o8c [.s 0,.s 1,.s 2,.s 3,.s 4,.s 5,.s 6,.s 7,.s 8,.s 9,.b 10 [],.s 11,.s 12,.s 13,.s 14,.s 15]
noncomputable def s1e:Code:=.region 6 (drawn Tryz.f90 2) true
theorem p3d:YR Tryz.prog 166 s1e o8c n7c p9c:=YR.of
def o7c:List (Nat × Tmp × TypeId):=[]
noncomputable def p8c:=yl Tryz.f90 3
noncomputable def q9c:=yq p8c [.s 0,.s 1,.l 2,.s 3,.s 5,.s 6,.b 4 [0],.s 7,.b 8 []]
noncomputable def t1e:Code:=.region 7 (drawn Tryz.f90 3) true
theorem q3d:YR Tryz.prog 166 t1e p8c o7c q9c:=YR.of
def p7c:List (Nat × Tmp × TypeId):=[]
noncomputable def q8c:=yl Tryz.f90 4
noncomputable def r9c:=yq q8c [.s 0,.s 1,.s 2,.s 3,.l 4,.s 5,.s 6,.s 7,.s 8,.s 9,.s 10,.s 11,.s 12,.s 13,.s 14,.s 15,.s 16,.s 17,.s 18,.s 19,.s 20,.s 21,.b 22 [0],.b 23 [],.s 24,.s 25,.b 26 []]
noncomputable def u1e:Code:=.region 9 (drawn Tryz.f90 4) true
theorem r3d:YR Tryz.prog 166 u1e q8c p7c r9c:=YR.of
def q7c:List (Nat × Tmp × TypeId):=[]
noncomputable def r8c:=yl Tryz.f90 5
noncomputable def s9c:=yq r8c [.s 0,.s 1,.s 2,.s 3,.l 4,.s 5,.s 6,.s 7,.s 8,.s 9,.s 10,.s 11,.s 12,.s 13,.s 14,.b 15 [0],.b 16 [],.s 17,.s 18,.b 19 []]
noncomputable def v1e:Code:=.region 11 (drawn Tryz.f90 5) true
theorem s3d:YR Tryz.prog 166 v1e r8c q7c s9c:=YR.of
def r7c:List (Nat × Tmp × TypeId):=[]
noncomputable def s8c:=yl Tryz.f90 6
noncomputable def t9c:=yq s8c [.s 0,.s 1,.s 2,.s 3,.s 4,.s 5,.b 6 [],.s 7]
noncomputable def w1e:Code:=.region 13 (drawn Tryz.f90 6) true
theorem t3d:YR Tryz.prog 166 w1e s8c r7c t9c:=YR.of
def s7c:List (Nat × Tmp × TypeId):=[]
noncomputable def t8c:=yl Tryz.f90 7
noncomputable def u9c:=yq t8c [.s 0,.s 1,.l 2,.s 3,.s 4,.s 9,.s 10,.b 5 [0],.s 6,.s 7,.s 8,.s 11,.b 12 []]
noncomputable def x1e:Code:=.region 15 (drawn Tryz.f90 7) true
theorem u3d:YR Tryz.prog 166 x1e t8c s7c u9c:=YR.of
def t7c:List (Nat × Tmp × TypeId):=[]
noncomputable def u8c:=yl Tryz.f90 8
noncomputable def v9c:=yq u8c [.s 0,.s 1,.s 2,.s 3,.s 4,.s 5,.b 6 [],.s 7]
noncomputable def y1e:Code:=.region 17 (drawn Tryz.f90 8) true
theorem v3d:YR Tryz.prog 166 y1e u8c t7c v9c:=YR.of
def u7c:List (Nat × Tmp × TypeId):=[]
noncomputable def v8c:=yl Tryz.f90 9
noncomputable def w9c:=yq v8c [.s 0,.s 1,.s 2,.s 3,.l 4,.s 5,.s 6,.s 7,.s 8,.s 9,.s 10,.s 11,.s 12,.s 13,.b 14 [0],.b 15 [],.s 16,.s 17,.b 18 []]
noncomputable def z1e:Code:=.region 19 (drawn Tryz.f90 9) true
theorem w3d:YR Tryz.prog 166 z1e v8c u7c w9c:=YR.of
noncomputable def c90:Code:=cd Tryz.f90
def N9d:=GoC.ok Tryz.prog 90 166 c90 [(.tmp 4)] Tryz.f90
noncomputable def c91:Code:=cd Tryz.f91
def O9d:=GoC.ok Tryz.prog 91 85 c91 [(.tmp 6),(.tmp 7)] Tryz.f91
noncomputable def c92:Code:=cd Tryz.f92
def P9d:=GoC.ok Tryz.prog 92 24 c92 [(.tmp 4)] Tryz.f92
noncomputable def c95:Code:=cd Tryz.f95
def Q9d:=GoC.ok Tryz.prog 95 8 c95 [(.tmp 2)] Tryz.f95
noncomputable def l96_0:=yl Tryz.f96 0
noncomputable def A1e:Code:=.region 4 (drawn Tryz.f96 0) true
theorem I0d {Q:Zk→St→Prop} {s:St} (h:Wy Tryz.prog l96_0.toArray (Xk (drawn Tryz.f96 0).toList []) [] s.fr Q l96_0 0 s []):NC Tryz.prog 54 A1e Q s:=
 NC.draw (by kernel_rfl) (by kernel_rfl) (by kernel_rfl) rfl (by kernel_rfl) (by kernel_rfl) h
noncomputable def c96:Code:=cd Tryz.f96
def R9d:=GoC.ok Tryz.prog 96 54 c96 [(.tmp 2)] Tryz.f96
noncomputable def c97:Code:=cd Tryz.f97
theorem h7b:Tryz.f97.body.map strip=some c97:=by kernel_rfl
noncomputable def c98:Code:=cd Tryz.f98
def S9d:=GoC.ok Tryz.prog 98 15 c98 [(.tmp 2)] Tryz.f98
noncomputable def c99:Code:=cd Tryz.f99
def T9d:=GoC.ok Tryz.prog 99 27 c99 [(.tmp 2)] Tryz.f99
noncomputable def Z3d:Code:=cd Tryz.f100
def w5d:=GoC.ok Tryz.prog 100 11 Z3d [(.tmp 2)] Tryz.f100
noncomputable def P3c:Code:=cd Tryz.f101
def w1c:=GoC.ok Tryz.prog 101 7 P3c [] Tryz.f101
noncomputable def Q3c:Code:=cd Tryz.f102
def x1c:=GoC.ok Tryz.prog 102 42 Q3c [(.tmp 4)] Tryz.f102
def m1c:List (Nat × Tmp × TypeId):=[]
noncomputable def H1c:=yl Tryz.f103 0
noncomputable def y2c:=yq H1c [.s 0,.l 1,.s 2,.s 3,.b 4 [0],.s 5,.b 6 [],.b 7 [],.s 8]
noncomputable def B6d:Code:=.region 11 (drawn Tryz.f103 0) true
theorem a6c:YR Tryz.prog 40 B6d H1c m1c y2c:=YR.of
noncomputable def a4d:Code:=cd Tryz.f103
def x5d:=GoC.ok Tryz.prog 103 40 a4d [(.tmp 2)] Tryz.f103
noncomputable def b4d:Code:=cd Tryz.f104
def y5d:=GoC.ok Tryz.prog 104 10 b4d [(.tmp 3)] Tryz.f104
noncomputable def c4d:Code:=cd Tryz.f105
def z5d:=GoC.ok Tryz.prog 105 8 c4d [(.tmp 4)] Tryz.f105
def f5b:List (Nat × Tmp × TypeId):=[(9,6,99)]
noncomputable def I1c:=yl Tryz.f106 0
noncomputable def A5b:=yq I1c [.s 0,.s 1,.s 2,.s 3,.s 4,.b 5 [0],.s 6,.s 7,.s 8,.b 10 [],.s 11]
noncomputable def C6d:Code:=.region 1 (drawn Tryz.f106 0) true
theorem X5b:YR Tryz.prog 36 C6d I1c f5b A5b:=YR.of
def n1c:List (Nat × Tmp × TypeId):=[]
noncomputable def J1c:=yl Tryz.f106 1
noncomputable def z2c:=yq J1c [.s 0,.s 1,.s 2,.s 3,.s 4,.s 5,.s 6]
noncomputable def D6d:Code:=.region 3 (drawn Tryz.f106 1) true
theorem b6c:YR Tryz.prog 36 D6d J1c n1c z2c:=YR.of
def g5b:List (Nat × Tmp × TypeId):=[]
noncomputable def K1c:=yl Tryz.f106 2
noncomputable def B5b:=yq K1c [.s 0,.s 1,.s 2,.s 3,.s 4,.b 5 [],.s 6,.s 7,.s 8,.s 9,.s 10]
noncomputable def E6d:Code:=.region 4 (drawn Tryz.f106 2) true
theorem c6c:YR Tryz.prog 36 E6d K1c g5b B5b:=YR.of
noncomputable def R3c:Code:=cd Tryz.f106
def A5d:=GoC.ok Tryz.prog 106 36 R3c [(.tmp 4),(.tmp 5)] Tryz.f106
noncomputable def d4d:Code:=cd Tryz.f107
def B5d:=GoC.ok Tryz.prog 107 4 d4d [(.tmp 2)] Tryz.f107
noncomputable def j4b:Code:=cd Tryz.f108
def C5d:=GoC.ok Tryz.prog 108 22 j4b [(.tmp 4)] Tryz.f108
noncomputable def f4d:Code:=cd Tryz.f109
def D5d:=GoC.ok Tryz.prog 109 13 f4d [] Tryz.f109
noncomputable def g4d:Code:=cd Tryz.f110
def E5d:=GoC.ok Tryz.prog 110 91 g4d [(.tmp 6),(.tmp 7)] Tryz.f110
noncomputable def h4d:Code:=cd Tryz.f111
def F5d:=GoC.ok Tryz.prog 111 10 h4d [(.tmp 2)] Tryz.f111
def f7a:Code:=
 .region 2 #[⟨(some 5),(.alloc 31),0,"iter.go:51",#[],none⟩,
  ⟨none,(.store 31 (T 5) (T 7)),0,"iter.go:51",#[⟨0,.data⟩,⟨0,.phase⟩],none⟩] false
def g7a:Code:=
 .block 1 (.region 3 #[⟨(some 8),(.load 24 (T 2)),24,"iter.go:52",#[],none⟩,
  ⟨(some 9),(.load 31 (T 5)),31,"iter.go:52",#[],none⟩,
  ⟨(some 10),(.buildSlice 24 1 #[(0,(T 9))]),24,"iter.go:52",#[⟨1,.data⟩],none⟩,
  ⟨(some 11),(.call ⟨(.builtin .append),#[(T 8),(T 10)],#[24,24]⟩),24,"iter.go:52",#[⟨0,.data⟩,⟨2,.data⟩],none⟩,
  ⟨none,(.store 24 (T 2) (T 11)),0,"iter.go:52",#[⟨3,.data⟩,⟨3,.chain⟩,⟨0,.phase⟩,⟨1,.phase⟩,⟨2,.phase⟩,⟨3,.phase⟩],none⟩] false)
def M7b:Code:=
 rg [mo 5 (.alloc 31),
  qS 31 5 7]
def N7b:Code:=
 .block 1 (rg [qL 8 24 2,
  qL 9 31 5,
  mo 10 (.buildSlice 24 1 #[(0,(T 9))]),
  mo 11 (.call ⟨(.builtin .append),#[(T 8),(T 10)],#[24,24]⟩),
  qS 24 2 11])
theorem c2d:Go.D.strip f7a=M7b:=by kernel_rfl
theorem d2d:Go.D.strip g7a=N7b:=by kernel_rfl
noncomputable def i4d:Code:=
 .seq (rg [mo 2 (.box 24 (T 0)),
 mo 4 (.assign (.const (.slice none 0 0)))])
 (.seq (.seq (rg [qV 6 1])
 (.block 0 (.rangeFunc (T 6) #[7] f7a g7a)))
 (.seq (rg [qL 12 24 2,
 qA 4 12])
 (.ret)))
def G5d:=GoC.ok Tryz.prog 112 13 i4d [(.tmp 4)] Tryz.f112
noncomputable def j4d:Code:=cd Tryz.f113
def H5d:=GoC.ok Tryz.prog 113 148 j4d [] Tryz.f113
noncomputable def k4d:Code:=cd Tryz.f114
def I5d:=GoC.ok Tryz.prog 114 6 k4d [(.tmp 2)] Tryz.f114
noncomputable def l4d:Code:=cd Tryz.f115
def J5d:=GoC.ok Tryz.prog 115 6 l4d [(.tmp 2)] Tryz.f115
noncomputable def m4d:Code:=cd Tryz.f116
def K5d:=GoC.ok Tryz.prog 116 30 m4d [(.tmp 2),(.tmp 3)] Tryz.f116
noncomputable def n4d:Code:=cd Tryz.f117
def L5d:=GoC.ok Tryz.prog 117 9 n4d [(.tmp 2)] Tryz.f117
noncomputable def o4d:Code:=cd Tryz.f118
def M5d:=GoC.ok Tryz.prog 118 19 o4d [(.tmp 4)] Tryz.f118
def o1c:List (Nat × Tmp × TypeId):=[]
noncomputable def L1c:=yl Tryz.f119 0
noncomputable def A2c:=yq L1c [.s 0,.s 1,.s 2,.s 3,.s 4,.s 5,.s 6,.s 7,.s 8,.s 9]
noncomputable def F6d:Code:=.region 4 (drawn Tryz.f119 0) true
theorem d6c:YR Tryz.prog 72 F6d L1c o1c A2c:=YR.of
def p1c:List (Nat × Tmp × TypeId):=[]
noncomputable def M1c:=yl Tryz.f119 1
noncomputable def B2c:=yq M1c [.s 0,.s 1,.s 2,.s 3,.s 4,.s 5,.s 6,.s 7,.s 8,.s 9,.s 10,.s 11,.s 12,.s 13,.s 14,.s 15,.s 16,.s 17,.s 18]
noncomputable def G6d:Code:=.region 5 (drawn Tryz.f119 1) true
theorem f6c:YR Tryz.prog 72 G6d M1c p1c B2c:=YR.of
def q1c:List (Nat × Tmp × TypeId):=[]
noncomputable def N1c:=yl Tryz.f119 2
noncomputable def C2c:=yq N1c [.s 0,.s 1,.s 2,.s 3,.s 4,.s 5,.s 6,.s 7,.s 8,.s 9]
noncomputable def H6d:Code:=.region 9 (drawn Tryz.f119 2) true
theorem g6c:YR Tryz.prog 72 H6d N1c q1c C2c:=YR.of
noncomputable def p4d:Code:=cd Tryz.f119
def N5d:=GoC.ok Tryz.prog 119 72 p4d [(.tmp 4),(.tmp 5)] Tryz.f119
noncomputable def q4d:Code:=cd Tryz.f120
def O5d:=GoC.ok Tryz.prog 120 4 q4d [(.tmp 2)] Tryz.f120
noncomputable def r4d:Code:=cd Tryz.f131
def P5d:=GoC.ok Tryz.prog 131 25 r4d [(.tmp 2)] Tryz.f131
noncomputable def K3a:=yl Tryz.f132 0
noncomputable def I6d:Code:=.region 10 (drawn Tryz.f132 0) true
noncomputable def L3a:=yl Tryz.f132 1
noncomputable def J6d:Code:=.region 12 (drawn Tryz.f132 1) true
noncomputable def l132_2:=yl Tryz.f132 2
noncomputable def K6d:Code:=.region 16 (drawn Tryz.f132 2) true
theorem D4c {Q:Zk→St→Prop} {s:St} (h:Wy Tryz.prog l132_2.toArray (Xk (drawn Tryz.f132 2).toList []) [] s.fr Q l132_2 0 s []):NC Tryz.prog 132 K6d Q s:=
 NC.draw (by kernel_rfl) (by kernel_rfl) (by kernel_rfl) rfl (by kernel_rfl) (by kernel_rfl) h
noncomputable def l132_3:=yl Tryz.f132 3
noncomputable def L6d:Code:=.region 18 (drawn Tryz.f132 3) true
theorem E4c {Q:Zk→St→Prop} {s:St} (h:Wy Tryz.prog l132_3.toArray (Xk (drawn Tryz.f132 3).toList []) [] s.fr Q l132_3 0 s []):NC Tryz.prog 132 L6d Q s:=
 NC.draw (by kernel_rfl) (by kernel_rfl) (by kernel_rfl) rfl (by kernel_rfl) (by kernel_rfl) h
noncomputable def S3c:Code:=cd Tryz.f132
def Q5d:=GoC.ok Tryz.prog 132 132 S3c [(.cell 4 130),(.tmp 5),(.tmp 6)] Tryz.f132
noncomputable def s4d:Code:=cd Tryz.f133
def R5d:=GoC.ok Tryz.prog 133 19 s4d [(.tmp 4)] Tryz.f133
noncomputable def t4d:Code:=cd Tryz.f134
def S5d:=GoC.ok Tryz.prog 134 4 t4d [(.tmp 2)] Tryz.f134
noncomputable def u4d:Code:=cd Tryz.f135
def T5d:=GoC.ok Tryz.prog 135 9 u4d [(.tmp 4)] Tryz.f135
def h5b:List (Nat × Tmp × TypeId):=[]
noncomputable def O1c:=yl Tryz.f136 0
noncomputable def C5b:=yq O1c [.s 0,.s 1,.s 2,.s 3,.s 4,.s 5,.s 6,.s 7,.s 8]
noncomputable def M6d:Code:=.region 5 (drawn Tryz.f136 0) true
theorem Y5b:YR Tryz.prog 24 M6d O1c h5b C5b:=YR.of
noncomputable def k4b:Code:=cd Tryz.f136
def U5d:=GoC.ok Tryz.prog 136 24 k4b [(.tmp 4),(.tmp 5),(.tmp 6)] Tryz.f136
noncomputable def v4d:Code:=cd Tryz.f137
def V5d:=GoC.ok Tryz.prog 137 8 v4d [(.tmp 2)] Tryz.f137
noncomputable def l138_0:=yl Tryz.f138 0
noncomputable def N6d:Code:=.region 6 (drawn Tryz.f138 0) true
theorem F4c {Q:Zk→St→Prop} {s:St} (h:Wy Tryz.prog l138_0.toArray (Xk (drawn Tryz.f138 0).toList []) [] s.fr Q l138_0 0 s []):NC Tryz.prog 61 N6d Q s:=
 NC.draw (by kernel_rfl) (by kernel_rfl) (by kernel_rfl) rfl (by kernel_rfl) (by kernel_rfl) h
noncomputable def l138_1:=yl Tryz.f138 1
noncomputable def O6d:Code:=.region 11 (drawn Tryz.f138 1) true
theorem G4c {Q:Zk→St→Prop} {s:St} (h:Wy Tryz.prog l138_1.toArray (Xk (drawn Tryz.f138 1).toList []) [] s.fr Q l138_1 0 s []):NC Tryz.prog 61 O6d Q s:=
 NC.draw (by kernel_rfl) (by kernel_rfl) (by kernel_rfl) rfl (by kernel_rfl) (by kernel_rfl) h
noncomputable def j8b:Code:=cd Tryz.f138
def y1c:=GoC.ok Tryz.prog 138 61 j8b [(.tmp 2)] Tryz.f138
noncomputable def w4d:Code:=cd Tryz.f139
def W5d:=GoC.ok Tryz.prog 139 53 w4d [] Tryz.f139
noncomputable def x4d:Code:=cd Tryz.f152
def X5d:=GoC.ok Tryz.prog 152 36 x4d [(.tmp 2),(.tmp 3)] Tryz.f152
noncomputable def T3c:Code:=cd Tryz.f153
def Y5d:=GoC.ok Tryz.prog 153 15 T3c [(.tmp 2),(.tmp 3)] Tryz.f153
noncomputable def y4d:Code:=cd Tryz.f154
def Z5d:=GoC.ok Tryz.prog 154 41 y4d [(.tmp 2)] Tryz.f154
noncomputable def z4d:Code:=cd Tryz.f155
def a6d:=GoC.ok Tryz.prog 155 14 z4d [] Tryz.f155
def r1c:List (Nat × Tmp × TypeId):=[]
noncomputable def P1c:=yl Tryz.f156 0
noncomputable def D2c:=yq P1c [.s 0,.s 1,.s 2,.s 3,.s 4,.s 5]
noncomputable def P6d:Code:=.region 4 (drawn Tryz.f156 0) true
theorem h6c:YR Tryz.prog 19 P6d P1c r1c D2c:=YR.of
noncomputable def A4d:Code:=cd Tryz.f156
def b6d:=GoC.ok Tryz.prog 156 19 A4d [(.tmp 4)] Tryz.f156
theorem f9a:T3a Tryz.prog 2=true:=by kernel_rfl
def ld_2:=LD1 Tryz.prog 2
def M1e:=LD1 Tryz.prog 3
def N1e:=LD1 Tryz.prog 4
def O1e:=LD1 Tryz.prog 5
theorem s2c:T3a Tryz.prog 21=true:=by kernel_rfl
def U9d:=LD1 Tryz.prog 21
def V9d:=LD1 Tryz.prog 22
def W9d:=LD1 Tryz.prog 23
def F9b:=ST1 Tryz.prog 23
def X9d:=LD1 Tryz.prog 24
def F9c:=ST1 Tryz.prog 24
def Y9d:=LDA Tryz.prog 26 6
def G9c:=STA Tryz.prog 26 6
theorem j0c:L5a Tryz.prog 31=some 2:=by kernel_rfl
def Z9d:=LDA Tryz.prog 31 2
def x3a:=STA Tryz.prog 31 2
def a0e:=LDA Tryz.prog 33 4
def r1b:=STA Tryz.prog 33 4
def b0e:=LDA Tryz.prog 36 4
def R7a:=STA Tryz.prog 36 4
def c0e:=LD1 Tryz.prog 43
def ld_52:=LD1 Tryz.prog 52
def d0e:=LDA Tryz.prog 59 6
def L3b:=STA Tryz.prog 59 6
def f0e:=LD1 Tryz.prog 79
def g0e:=LD1 Tryz.prog 80
def h0e:=LD1 Tryz.prog 92
def H9c:=ST1 Tryz.prog 92
def i0e:=LDA Tryz.prog 94 4
def G9b:=STA Tryz.prog 94 4
def j0e:=LD1 Tryz.prog 96
def k0e:=LDA Tryz.prog 99 4
def i9a:=STA Tryz.prog 99 4
def i6d:=LDA Tryz.prog 118 3
def p1b:=STA Tryz.prog 118 3
def ld_130:=LDA Tryz.prog 130 5
def q1b:=STA Tryz.prog 130 5
def ld_143:=LD1 Tryz.prog 143
def W2c:=ST1 Tryz.prog 143
def j6d:=LD1 Tryz.prog 147
def k6d:=LD1 Tryz.prog 148
def l6d:=LD1 Tryz.prog 149
def c7d:=STA Tryz.prog 205 1
def d7d:=STA Tryz.prog 234 2
def X2c:=STA Tryz.prog 236 28
def O0d:=FA Tryz.prog 26 0 0
def P0d:=FA Tryz.prog 26 1 1
def Q0d:=FA Tryz.prog 26 2 2
def R0d:=FA Tryz.prog 26 3 3
def S0d:=FA Tryz.prog 26 4 4
def T0d:=FA Tryz.prog 26 5 5
def U0d:=FA Tryz.prog 28 0 0
def V0d:=FA Tryz.prog 28 1 1
def W0d:=FA Tryz.prog 31 0 0
def X0d:=FA Tryz.prog 31 1 1
def Y0d:=FA Tryz.prog 33 0 0
def Z0d:=FA Tryz.prog 33 1 2
def a1d:=FA Tryz.prog 36 0 0
def b1d:=FA Tryz.prog 36 1 1
def c1d:=FA Tryz.prog 36 2 2
def d1d:=FA Tryz.prog 36 3 3
def f1d:=FA Tryz.prog 45 0 0
def g1d:=FA Tryz.prog 45 3 3
def h1d:=FA Tryz.prog 56 2 2
def i1d:=FA Tryz.prog 59 1 1
def j1d:=FA Tryz.prog 59 2 2
def k1d:=FA Tryz.prog 82 0 0
def l1d:=FA Tryz.prog 82 1 1
def m1d:=FA Tryz.prog 82 2 2
def n1d:=FA Tryz.prog 94 0 0
def o1d:=FA Tryz.prog 94 1 1
def p1d:=FA Tryz.prog 94 2 2
def q1d:=FA Tryz.prog 99 0 0
def r1d:=FA Tryz.prog 99 1 2
def s1d:=FA Tryz.prog 99 2 3
def I4c:=FA Tryz.prog 118 0 0
def J4c:=FA Tryz.prog 118 1 2
def K4c:=FA Tryz.prog 128 0 0
def L4c:=FA Tryz.prog 128 1 6
def M4c:=FA Tryz.prog 128 2 7
def N4c:=FA Tryz.prog 128 3 15
def O4c:=FA Tryz.prog 128 4 16
def P4c:=FA Tryz.prog 128 5 17
def Q4c:=FA Tryz.prog 130 0 0
def R4c:=FA Tryz.prog 130 1 1
def S4c:=FA Tryz.prog 130 2 2
def T4c:=FA Tryz.prog 130 3 3
def U4c:=FA Tryz.prog 130 4 4
def V4c:=FA Tryz.prog 151 0 0
def W4c:=FA Tryz.prog 151 1 6
def X4c:=FA Tryz.prog 151 2 14
def Y4c:=FA Tryz.prog 151 3 15
def Z4c:=FA Tryz.prog 151 4 16
def a5c:=FA Tryz.prog 151 5 17
def b5c:=FA Tryz.prog 151 6 18
def c5c:=FA Tryz.prog 205 0 0
theorem L8b:U0a Tryz.prog 22=some 1:=by kernel_rfl
theorem X8a:U0a Tryz.prog 23=some 1:=by kernel_rfl
theorem C2a:U0a Tryz.prog 24=some 2:=by kernel_rfl
theorem x4a:U0a Tryz.prog 29=some 4:=by kernel_rfl
theorem J8d:U0a Tryz.prog 43=some 6:=by kernel_rfl
theorem K8d:U0a Tryz.prog 51=some 6:=by kernel_rfl
theorem y4a:U0a Tryz.prog 92=some 4:=by kernel_rfl
theorem D2a:U0a Tryz.prog 96=some 3:=by kernel_rfl
theorem W4b:U0a Tryz.prog 143=some 5:=by kernel_rfl
theorem m5d:U0a Tryz.prog 189=some 1:=by kernel_rfl
def x0d:=CV Tryz.prog 2 21 .i64 .i32
def j4c:=CV Tryz.prog 2 172 .i64 .u64
def k4c:=CV Tryz.prog 2 192 .i64 .u64
def l4c:=CV Tryz.prog 2 210 .i64 .i8
def m4c:=CV Tryz.prog 2 211 .i64 .i16
def n4c:=CV Tryz.prog 3 172 .i64 .u64
def k5d:=CV Tryz.prog 5 2 .u8 .i64
def l5d:=CV Tryz.prog 5 3 .u8 .i64
def o4c:=CV Tryz.prog 5 227 .u8 .u16
def w0d:=CV Tryz.prog 21 2 .i32 .i64
def d4c:=CV Tryz.prog 192 2 .u64 .i64
def f4c:=CV Tryz.prog 192 5 .u64 .u8
def g4c:=CV Tryz.prog 210 2 .i8 .i64
def h4c:=CV Tryz.prog 211 2 .i16 .i64
def i4c:=CV Tryz.prog 227 2 .u16 .i64
def t8b:=CV Tryz.prog 227 211 .u16 .i16
def n6d:=MI Tryz.prog 205
def h7d:=TA Tryz.prog 205
def J1e:=CA Tryz.prog 9
def A7d:=CA Tryz.prog 10
def B7d:=CA Tryz.prog 11
def C7d:=CA Tryz.prog 12
def D7d:=CA Tryz.prog 13
def E7d:=CA Tryz.prog 14
def F7d:=CA Tryz.prog 16
def G7d:=CA Tryz.prog 19
def H7d:=CA Tryz.prog 24
def I7d:=CA Tryz.prog 25
def J7d:=CA Tryz.prog 33
def K7d:=CA Tryz.prog 34
def L7d:=CA Tryz.prog 35
def M7d:=CA Tryz.prog 36
def N7d:=CA Tryz.prog 37
def O7d:=CA Tryz.prog 38
def P7d:=CA Tryz.prog 39
def Q7d:=CA Tryz.prog 40
def R7d:=CA Tryz.prog 42
def S7d:=CA Tryz.prog 43
def T7d:=CA Tryz.prog 44
def U7d:=CA Tryz.prog 51
def V7d:=CA Tryz.prog 52
def W7d:=CA Tryz.prog 54
def X7d:=CA Tryz.prog 56
def Y7d:=CA Tryz.prog 57
def Z7d:=CA Tryz.prog 58
def a8d:=CA Tryz.prog 59
def b8d:=CA Tryz.prog 60
def c8d:=CA Tryz.prog 61
def d8d:=CA Tryz.prog 63
def f8d:=CA Tryz.prog 69
def g8d:=CA Tryz.prog 70
def h8d:=CA Tryz.prog 71
def i8d:=CA Tryz.prog 72
def j8d:=CA Tryz.prog 73
def k8d:=CA Tryz.prog 74
def l8d:=CA Tryz.prog 75
def m8d:=CA Tryz.prog 77
def n8d:=CA Tryz.prog 78
def o8d:=CA Tryz.prog 79
def p8d:=CA Tryz.prog 80
def q8d:=CA Tryz.prog 81
def r8d:=CA Tryz.prog 82
def s8d:=CA Tryz.prog 83
def t8d:=CA Tryz.prog 84
def u8d:=CA Tryz.prog 85
def v8d:=CA Tryz.prog 86
def w8d:=CA Tryz.prog 87
def x8d:=CA Tryz.prog 88
def y8d:=CA Tryz.prog 89
def z8d:=CA Tryz.prog 90
def A8d:=CA Tryz.prog 91
def B8d:=CA Tryz.prog 92
def C8d:=CA Tryz.prog 95
def D8d:=CA Tryz.prog 96
def I8d:=DE Tryz.prog 97
def E8d:=CA Tryz.prog 98
def F8d:=CA Tryz.prog 99
def B4d:=CA Tryz.prog 100
def C4d:=CA Tryz.prog 101
def D4d:=CA Tryz.prog 102
def E4d:=CA Tryz.prog 103
def F4d:=CA Tryz.prog 105
def G4d:=CA Tryz.prog 106
def H4d:=CA Tryz.prog 107
def I4d:=CA Tryz.prog 108
def J4d:=CA Tryz.prog 109
def K4d:=CA Tryz.prog 110
def L4d:=CA Tryz.prog 111
def M4d:=CA Tryz.prog 112
def N4d:=CA Tryz.prog 113
def O4d:=CA Tryz.prog 114
def P4d:=CA Tryz.prog 115
def Q4d:=CA Tryz.prog 116
def R4d:=CA Tryz.prog 117
def S4d:=CA Tryz.prog 118
def T4d:=CA Tryz.prog 119
def U4d:=CA Tryz.prog 120
def V4d:=CA Tryz.prog 131
def W4d:=CA Tryz.prog 132
def X4d:=CA Tryz.prog 133
def Y4d:=CA Tryz.prog 134
def Z4d:=CA Tryz.prog 135
def a5d:=CA Tryz.prog 136
def b5d:=CA Tryz.prog 137
def c5d:=CA Tryz.prog 139
def d5d:=CA Tryz.prog 152
def f5d:=CA Tryz.prog 153
def g5d:=CA Tryz.prog 154
def h5d:=CA Tryz.prog 156
theorem n5d:i1a Tryz.prog 24=0:=by kernel_rfl
theorem o5d:i1a Tryz.prog 26=0:=by kernel_rfl
theorem p5d:i1a Tryz.prog 28=0:=by kernel_rfl
theorem q5d:i1a Tryz.prog 31=0:=by kernel_rfl
theorem r5d:i1a Tryz.prog 33=0:=by kernel_rfl
theorem s5d:i1a Tryz.prog 36=0:=by kernel_rfl
theorem t5d:i1a Tryz.prog 45=0:=by kernel_rfl
theorem u5d:i1a Tryz.prog 79=0:=by kernel_rfl
theorem v5d:i1a Tryz.prog 82=0:=by kernel_rfl
theorem J0d:i1a Tryz.prog 118=0:=by kernel_rfl
theorem K0d:i1a Tryz.prog 128=0:=by kernel_rfl
theorem L0d:i1a Tryz.prog 130=0:=by kernel_rfl
theorem M0d:i1a Tryz.prog 147=0:=by kernel_rfl
theorem N0d:i1a Tryz.prog 151=0:=by kernel_rfl
def p7d:=AL Tryz.prog 26 0 [Value.int IntKind.i64 0,Value.int IntKind.i64 0,Value.slice none 0 0,Value.slice none 0 0,Value.slice none 0 0,Value.slice none 0 0]
def q7d:=AL Tryz.prog 31 0 [Value.int IntKind.i32 0,Value.int IntKind.i64 0]
def r7d:=AL Tryz.prog 33 0 [Value.int IntKind.i32 0,Value.int IntKind.i64 0,Value.int IntKind.i64 0,Value.int IntKind.i64 0]
def s7d:=AL Tryz.prog 36 0 [Value.int IntKind.i64 0,Value.slice none 0 0,Value.int IntKind.i64 0,Value.int IntKind.i64 0]
def t7d:=AL Tryz.prog 52 0 [Value.int IntKind.i64 0]
def u7d:=AL Tryz.prog 59 0 [Value.int IntKind.i64 0,Value.int IntKind.i64 0,Value.int IntKind.i64 0,Value.slice none 0 0,Value.int IntKind.i64 0,Value.int IntKind.i64 0]
def v7d:=AL Tryz.prog 94 0 [Value.int IntKind.i64 0,Value.slice none 0 0,Value.slice none 0 0,Value.int IntKind.i64 0]
def w7d:=AL Tryz.prog 99 0 [Value.int IntKind.i32 0,Value.int IntKind.i64 0,Value.int IntKind.i64 0,Value.bool false]
def F3d:=AL Tryz.prog 118 0 [Value.int IntKind.i32 0,Value.int IntKind.i64 0,Value.int IntKind.i64 0]
def G3d:=AL Tryz.prog 130 0 [Value.int IntKind.i64 0,Value.int IntKind.i64 0,Value.int IntKind.i64 0,Value.int IntKind.i64 0,Value.int IntKind.i64 0]
def H3d:=AL Tryz.prog 143 0 [Value.slice none 0 0]
def I3d:=AL Tryz.prog 205 0 [Value.int IntKind.i64 0]
def J3d:=AL Tryz.prog 234 1 [Value.int IntKind.i64 0,Value.int IntKind.i64 0]
def K3d:=AL Tryz.prog 236 1 [Value.int IntKind.i64 0,Value.int IntKind.i64 0,Value.int IntKind.i64 0,Value.int IntKind.i64 0,Value.int IntKind.i64 0,Value.int IntKind.i64 0,Value.int IntKind.i64 0,Value.int IntKind.i64 0,Value.int IntKind.i64 0,Value.int IntKind.i64 0,Value.int IntKind.i64 0,Value.int IntKind.i64 0,Value.int IntKind.i64 0,Value.int IntKind.i64 0,Value.int IntKind.i64 0,Value.int IntKind.i64 0,Value.int IntKind.i64 0,Value.int IntKind.i64 0,Value.int IntKind.i64 0,Value.int IntKind.i64 0,Value.int IntKind.i64 0,Value.int IntKind.i64 0,Value.int IntKind.i64 0,Value.int IntKind.i64 0,Value.int IntKind.i64 0,Value.int IntKind.i64 0,Value.int IntKind.i64 0,Value.int IntKind.i64 0]
def d6a:=ISL Tryz.prog 22
def D4a:=ISL Tryz.prog 23
def D1a:=ISL Tryz.prog 24
def f6a:=ISL Tryz.prog 29
def c6d:=ISL Tryz.prog 43
def d6d:=ISL Tryz.prog 51
def h7a:=ISL Tryz.prog 92
def g6a:=ISL Tryz.prog 96
def R5a:=ISL Tryz.prog 143
def B1d:=ISL Tryz.prog 189
theorem a4b:B3a Tryz.prog #[23,23]=some (1,8):=by kernel_rfl
theorem b4b:B3a Tryz.prog #[24,24]=some (2,16):=by kernel_rfl
theorem T6a:B3a Tryz.prog #[29,29]=some (4,32):=by kernel_rfl
theorem L3d:B3a Tryz.prog #[51,51]=some (6,64):=by kernel_rfl
theorem U6a:B3a Tryz.prog #[92,92]=some (4,32):=by kernel_rfl
theorem U5a:B3a Tryz.prog #[96,96]=some (3,24):=by kernel_rfl
theorem X6b:B3a Tryz.prog #[143,143]=some (5,40):=by kernel_rfl
theorem X3d:V5a Tryz.prog 22=some (1,[Value.int IntKind.u8 0]):=by kernel_rfl
def P3d:=BS0 Tryz.prog 23 1 [Value.int IntKind.i64 0]
def R3d:=BS1 Tryz.prog 23 1 [Value.int IntKind.i64 0]
def Q3d:=BS0 Tryz.prog 24 2 [Value.int IntKind.i32 0,Value.int IntKind.i64 0]
def S3d:=BS1 Tryz.prog 24 2 [Value.int IntKind.i32 0,Value.int IntKind.i64 0]
def T3d:=BS1 Tryz.prog 29 4 [Value.int IntKind.i32 0,Value.int IntKind.i64 0,Value.int IntKind.i64 0,Value.int IntKind.i64 0]
theorem Y3d:V5a Tryz.prog 43=some (6,[Value.int IntKind.i64 0,Value.int IntKind.i64 0,Value.slice none 0 0,Value.slice none 0 0,Value.slice none 0 0,Value.slice none 0 0]):=by kernel_rfl
def o0c:=BS1 Tryz.prog 51 6 [Value.int IntKind.i64 0,Value.int IntKind.i64 0,Value.int IntKind.i64 0,Value.slice none 0 0,Value.int IntKind.i64 0,Value.int IntKind.i64 0]
def U3d:=BS1 Tryz.prog 92 4 [Value.int IntKind.i32 0,Value.int IntKind.i64 0,Value.int IntKind.i64 0,Value.bool false]
def V3d:=BS1 Tryz.prog 96 3 [Value.int IntKind.i32 0,Value.int IntKind.i64 0,Value.int IntKind.i64 0]
def F1b:=BS1 Tryz.prog 143 5 [Value.int IntKind.i64 0,Value.int IntKind.i64 0,Value.int IntKind.i64 0,Value.int IntKind.i64 0,Value.int IntKind.i64 0]
def m0d:=BS2 Tryz.prog 189 1 [Value.int IntKind.i64 0]
theorem u6d:j2a Tryz.prog 26=some ([(0,1),(1,1),(2,1),(3,1),(4,1),(5,1)],[Value.int IntKind.i64 0,Value.int IntKind.i64 0,Value.slice none 0 0,Value.slice none 0 0,Value.slice none 0 0,Value.slice none 0 0]):=by kernel_rfl
theorem v2c:j2a Tryz.prog 31=some ([(0,1),(1,1)],[Value.int IntKind.i32 0,Value.int IntKind.i64 0]):=by kernel_rfl
theorem v6d:j2a Tryz.prog 33=some ([(0,2),(2,1),(3,1)],[Value.int IntKind.i32 0,Value.int IntKind.i64 0,Value.int IntKind.i64 0,Value.int IntKind.i64 0]):=by kernel_rfl
theorem w6d:j2a Tryz.prog 36=some ([(0,1),(1,1),(2,1),(3,1)],[Value.int IntKind.i64 0,Value.slice none 0 0,Value.int IntKind.i64 0,Value.int IntKind.i64 0]):=by kernel_rfl
theorem x6d:j2a Tryz.prog 45=some ([(0,1),(1,1),(2,1),(3,1)],[Value.int IntKind.i64 0,Value.int IntKind.i64 0,Value.int IntKind.i64 0,Value.slice none 0 0]):=by kernel_rfl
theorem y6d:j2a Tryz.prog 56=some ([(0,1),(1,1),(2,4)],[Value.int IntKind.i64 0,Value.int IntKind.i64 0,Value.int IntKind.i64 0,Value.slice none 0 0,Value.int IntKind.i64 0,Value.int IntKind.i64 0]):=by kernel_rfl
theorem z6d:j2a Tryz.prog 59=some ([(0,1),(1,1),(2,4)],[Value.int IntKind.i64 0,Value.int IntKind.i64 0,Value.int IntKind.i64 0,Value.slice none 0 0,Value.int IntKind.i64 0,Value.int IntKind.i64 0]):=by kernel_rfl
theorem A6d:j2a Tryz.prog 82=some ([(0,1),(1,1),(2,1)],[Value.int IntKind.i64 0,Value.map none,Value.map none]):=by kernel_rfl
theorem f1b:j2a Tryz.prog 94=some ([(0,1),(1,1),(2,1),(3,1)],[Value.int IntKind.i64 0,Value.slice none 0 0,Value.slice none 0 0,Value.int IntKind.i64 0]):=by kernel_rfl
theorem w2c:j2a Tryz.prog 99=some ([(0,2),(2,1),(3,1)],[Value.int IntKind.i32 0,Value.int IntKind.i64 0,Value.int IntKind.i64 0,Value.bool false]):=by kernel_rfl
theorem S1d:j2a Tryz.prog 118=some ([(0,2),(2,1)],[Value.int IntKind.i32 0,Value.int IntKind.i64 0,Value.int IntKind.i64 0]):=by kernel_rfl
theorem T1d:j2a Tryz.prog 128=some ([(0,6),(6,1),(7,8),(15,1),(16,1),(17,1)],[Value.int IntKind.i64 0,Value.int IntKind.i64 0,Value.slice none 0 0,Value.slice none 0 0,Value.slice none 0 0,Value.slice none 0 0,Value.slice none 0 0,Value.int IntKind.i64 0,Value.int IntKind.i64 0,Value.int IntKind.i64 0,Value.int IntKind.i64 0,Value.int IntKind.i64 0,Value.int IntKind.i64 0,Value.int IntKind.i64 0,Value.int IntKind.i64 0,Value.slice none 0 0,Value.slice none 0 0,Value.int IntKind.i64 0]):=by kernel_rfl
theorem I7b:j2a Tryz.prog 130=some ([(0,1),(1,1),(2,1),(3,1),(4,1)],[Value.int IntKind.i64 0,Value.int IntKind.i64 0,Value.int IntKind.i64 0,Value.int IntKind.i64 0,Value.int IntKind.i64 0]):=by kernel_rfl
theorem U1d:j2a Tryz.prog 151=some ([(0,6),(6,8),(14,1),(15,1),(16,1),(17,1),(18,1)],[Value.int IntKind.i64 0,Value.int IntKind.i64 0,Value.slice none 0 0,Value.slice none 0 0,Value.slice none 0 0,Value.slice none 0 0,Value.int IntKind.i64 0,Value.int IntKind.i64 0,Value.int IntKind.i64 0,Value.int IntKind.i64 0,Value.int IntKind.i64 0,Value.int IntKind.i64 0,Value.int IntKind.i64 0,Value.int IntKind.i64 0,Value.map none,Value.map none,Value.slice none 0 0,Value.int IntKind.i64 0,Value.map none]):=by kernel_rfl
theorem V1d:j2a Tryz.prog 205=some ([(0,1)],[Value.int IntKind.i64 0]):=by kernel_rfl
theorem mixed:Tryz.prog.follows .mixedOrders=true:=by kernel_rfl
attribute [go_sem] ld_2 M1e N1e O1e U9d V9d W9d F9b X9d F9c Y9d G9c Z9d x3a a0e r1b b0e
attribute [go_sem] R7a c0e ld_52 d0e L3b f0e g0e h0e H9c i0e G9b
attribute [go_sem] j0e k0e i9a i6d p1b ld_130 q1b ld_143 W2c j6d k6d l6d c7d d7d X2c O0d
attribute [go_sem] P0d Q0d R0d S0d T0d U0d V0d W0d X0d Y0d Z0d a1d b1d c1d d1d f1d g1d h1d i1d j1d
attribute [go_sem] k1d l1d m1d n1d o1d p1d q1d r1d s1d I4c J4c K4c L4c M4c N4c O4c P4c Q4c R4c S4c T4c U4c V4c W4c
attribute [go_sem] X4c Y4c Z4c a5c b5c c5c x0d j4c k4c l4c m4c n4c k5d l5d o4c w0d d4c f4c g4c h4c i4c
attribute [go_sem] t8b n6d h7d J1e A7d B7d C7d D7d E7d F7d
attribute [go_sem] G7d H7d I7d
attribute [go_sem] J7d K7d L7d M7d N7d O7d P7d Q7d R7d
attribute [go_sem] S7d T7d U7d V7d W7d
attribute [go_sem] X7d Y7d Z7d a8d b8d c8d d8d
attribute [go_sem] f8d g8d h8d i8d j8d k8d l8d m8d n8d o8d p8d q8d
attribute [go_sem] r8d s8d t8d u8d v8d w8d x8d y8d z8d A8d B8d
attribute [go_sem] C8d D8d I8d E8d F8d B4d C4d D4d E4d F4d G4d
attribute [go_sem] H4d I4d J4d K4d L4d M4d N4d O4d P4d Q4d R4d S4d
attribute [go_sem] T4d U4d V4d
attribute [go_sem] W4d X4d Y4d Z4d a5d b5d c5d
attribute [go_sem] d5d f5d g5d h5d
attribute [go_sem] n5d o5d p5d q5d r5d s5d t5d
attribute [go_sem] u5d v5d J0d K0d L0d M0d N0d p7d q7d r7d s7d t7d
attribute [go_sem] u7d v7d w7d F3d G3d H3d I3d J3d K3d
attribute [go_sem] P3d R3d Q3d S3d T3d
attribute [go_sem] o0c U3d V3d F1b
attribute [go_sem] m0d
def D1e:=STI Tryz.prog 2
def E1e:=STI Tryz.prog 3
def g7d:=STI Tryz.prog 52
def b2d:=STL Tryz.prog 143
attribute [go_sem] D1e E1e g7d
attribute [go_sem] b2d
theorem Z1b {h:DHeap} {b:Bool}:DC Tryz.prog 107 [.bool b] h (.ret (.int .i64 (if b then 1 else 0))) h:=by
 refine Ct.pure (B5d (by simp) ?_) (t0a _ _)
 cases b <;> simp -implicitDefEqProofs (disch:=first|omega|simp only[go_sem]) only[go_sem,true_and,d4d] <;> exact ⟨_,rfl,rfl,.refl _⟩
theorem a2b {h:DHeap} {b:Bool}:DC Tryz.prog 120 [.bool b] h (.ret (.int .i64 (if b then 1 else 0))) h:=by
 refine Ct.pure (O5d (by simp) ?_) (t0a _ _)
 cases b <;> simp -implicitDefEqProofs (disch:=first|omega|simp only[go_sem]) only[go_sem,true_and,q4d] <;> exact ⟨_,rfl,rfl,.refl _⟩
def r5a (a n:Int):Int:=if n=8 then IntKind.i8.wrap a else if n=16 then IntKind.i16.wrap a else if n=32 then IntKind.i32.wrap a else a
theorem k7d {a:Int}:IntKind.i64.wrap (IntKind.i8.wrap a)=IntKind.i8.wrap a:=by simp[IntKind.wrap,IntKind.bits,IntKind.signed];omega
theorem l2d {a:Int}:IntKind.i64.wrap (IntKind.i16.wrap a)=IntKind.i16.wrap a:=by simp[IntKind.wrap,IntKind.bits,IntKind.signed];omega
theorem m2d {a:Int}:IntKind.i64.wrap (IntKind.i32.wrap a)=IntKind.i32.wrap a:=by simp[IntKind.wrap,IntKind.bits,IntKind.signed];omega
theorem B5c {h:DHeap} {a n:Int}:DC Tryz.prog 108 [.int .i64 a,.int .i64 n] h (.ret (.int .i64 (r5a a n))) h:=by
 refine Ct.pure (C5d (by simp) ?_) (t0a _ _)
 by_cases h8:n=8
 ·simp -implicitDefEqProofs (disch:=first|omega|simp only[go_sem]) only[go_sem,true_and,j4b,h8]
  exact ⟨_,rfl,congrArg (fun z=>DEnd.ret (Value.int IntKind.i64 z)) k7d,.refl _⟩
 by_cases h16:n=16
 ·simp -implicitDefEqProofs (disch:=first|omega|simp only[go_sem]) only[go_sem,true_and,j4b,h16]
  exact ⟨_,rfl,congrArg (fun z=>DEnd.ret (Value.int IntKind.i64 z)) l2d,.refl _⟩
 by_cases h32:n=32
 ·simp -implicitDefEqProofs (disch:=first|omega|simp only[go_sem]) only[go_sem,true_and,j4b,h32]
  exact ⟨_,rfl,congrArg (fun z=>DEnd.ret (Value.int IntKind.i64 z)) m2d,.refl _⟩
 simp -implicitDefEqProofs (disch:=first|omega|simp only[go_sem]) only[go_sem,true_and,j4b,h8,h16,h32]
 exact ⟨_,rfl,by simp[r5a,h8,h16,h32],.refl _⟩
theorem sh8 {a:Int}:(IntKind.i64.wrap (a*2 ^ 56)).fdiv (2 ^ 56)=IntKind.i8.wrap a:=by
 rw[Int.fdiv_eq_ediv_of_nonneg _ (by decide)];simp[IntKind.wrap,IntKind.bits,IntKind.signed];omega
theorem S1e {a:Int}:(IntKind.i64.wrap (a*2 ^ 48)).fdiv (2 ^ 48)=IntKind.i16.wrap a:=by
 rw[Int.fdiv_eq_ediv_of_nonneg _ (by decide)];simp[IntKind.wrap,IntKind.bits,IntKind.signed];omega
theorem T1e {a:Int}:(IntKind.i64.wrap (a*2 ^ 32)).fdiv (2 ^ 32)=IntKind.i32.wrap a:=by
 rw[Int.fdiv_eq_ediv_of_nonneg _ (by decide)];simp[IntKind.wrap,IntKind.bits,IntKind.signed];omega
theorem C5c {h:DHeap} {a n:Int}:DC Tryz.prog 89 [.int .i64 a,.int .i64 n] h (.ret (.int .i64 (r5a a n))) h:=by
 refine Ct.pure (M9d (by simp) ?_) (t0a _ _)
 by_cases h8:n=8
 ·have e1:IntKind.i64.wrap (64 - 8)=56:=by decide
  have e2:IntKind.u64.wrap 56=56:=by decide
  simp -implicitDefEqProofs (disch:=first|omega|simp only[go_sem]) only[go_sem,true_and,c89,h8,e1,e2]
  exact ⟨_,rfl,congrArg (fun z=>DEnd.ret (Value.int IntKind.i64 z)) sh8,.refl _⟩
 by_cases h16:n=16
 ·have e1:IntKind.i64.wrap (64 - 16)=48:=by decide
  have e2:IntKind.u64.wrap 48=48:=by decide
  simp -implicitDefEqProofs (disch:=first|omega|simp only[go_sem]) only[go_sem,true_and,c89,h16,e1,e2]
  exact ⟨_,rfl,congrArg (fun z=>DEnd.ret (Value.int IntKind.i64 z)) S1e,.refl _⟩
 by_cases h32:n=32
 ·have e1:IntKind.i64.wrap (64 - 32)=32:=by decide
  have e2:IntKind.u64.wrap 32=32:=by decide
  simp -implicitDefEqProofs (disch:=first|omega|simp only[go_sem]) only[go_sem,true_and,c89,h32,e1,e2]
  exact ⟨_,rfl,congrArg (fun z=>DEnd.ret (Value.int IntKind.i64 z)) T1e,.refl _⟩
 simp -implicitDefEqProofs (disch:=first|omega|simp only[go_sem]) only[go_sem,true_and,c89,h8,h16,h32]
 exact ⟨_,rfl,by simp[r5a,h8,h16,h32],.refl _⟩
def cnt (b:Int):Nat:=(BitVec.ofInt 64 b &&& BitVec.ofInt 64 63).toNat
theorem n4b (b:Int):cnt b<64:=by
 have:(BitVec.ofInt 64 b &&& BitVec.ofInt 64 63).toNat≤(BitVec.ofInt 64 63).toNat:=by rw[BitVec.toNat_and];exact Nat.and_le_right
 have e:(BitVec.ofInt 64 63).toNat=63:=by decide
 unfold cnt;omega
theorem D3a:IntKind.i64.bits=64:=rfl
theorem g7b:IntKind.u64.bits=64:=rfl
theorem m9b {a:Int}:BitVec.ofInt 64 (IntKind.u64.wrap a)=BitVec.ofInt 64 a:=by
 apply BitVec.eq_of_toInt_eq
 rw[BitVec.toInt_ofInt,BitVec.toInt_ofInt]
 simp[IntKind.wrap,IntKind.bits,IntKind.signed]
 exact Int.emod_bmod a 18446744073709551616
theorem r6c {b:Int}:IntKind.u64.wrap (cnt b:Nat)=cnt b:=by have:=n4b b;simp[IntKind.wrap,IntKind.bits,IntKind.signed];omega
theorem H8d {b:Int}:IntKind.i64.wrap (cnt b:Nat)=cnt b:=by have:=n4b b;simp[IntKind.wrap,IntKind.bits,IntKind.signed];omega
theorem u0c {b:Int}:(BitVec.ofInt 64 b &&& BitVec.ofInt 64 63).toNat=cnt b:=rfl
theorem S5a {b:Int}:min (cnt b) 64=cnt b:=by have:=n4b b;omega
theorem a0d {P:Program} {t:TypeId} {ox oy:Operand} {b:Int} {h:DHeap}:Yz P .and t ox oy (.int .u64 (IntKind.u64.wrap b)) (.int .u64 63) h=.ok (.value (.int .u64 (cnt b:Nat))) h:=by
 refine bin_and.trans ?_
 show DR.ok (.value (.int .u64 (IntKind.u64.wrap (((BitVec.ofInt 64 (IntKind.u64.wrap b) &&& BitVec.ofInt 64 63).toNat:Nat):Int)))) h=_
 rw[m9b,u0c,r6c]
theorem I3c {P:Program} {t:TypeId} {ox oy:Operand} {b:Int} {h:DHeap}:Yz P .and t ox oy (.int .i64 b) (.int .i64 63) h=.ok (.value (.int .i64 (cnt b:Nat))) h:=by
 refine bin_and.trans ?_
 show DR.ok (.value (.int .i64 (IntKind.i64.wrap (((BitVec.ofInt 64 b &&& BitVec.ofInt 64 63).toNat:Nat):Int)))) h=_
 rw[u0c,H8d]
def W0a (op a b:Int):Int × Int:=
 let w:=IntKind.i64.wrap
 if op=8 then (w (a+b),0) else if op=9 then (w (a - b),0) else if op=10 then (w (a*b),0)
 else if op=11 then (if b=0 then (0,3) else (w (a.tdiv b),0))
 else if op=12 then (if b=0 then (0,3) else (a.tmod b,0))
 else if op=13 then (w (BitVec.ofInt 64 a &&& BitVec.ofInt 64 b).toNat,0)
 else if op=14 then (w (BitVec.ofInt 64 a ||| BitVec.ofInt 64 b).toNat,0)
 else if op=15 then (w (BitVec.ofInt 64 a ^^^ BitVec.ofInt 64 b).toNat,0)
 else if op=16 then (w (a*2 ^ cnt b),0)
 else if op=17 then (a.fdiv (2 ^ cnt b),0)
 else if op=18 then (w ((IntKind.u64.wrap a).fdiv (2 ^ cnt b)),0)
 else if op=20 then (if a<b then 1 else 0,0)
 else if op=21 then (if a=b then 1 else 0,0)
 else (0,1)
def x1a (op a b:Int):Value:=.tuple #[.int .i64 (W0a op a b).1,.int .i64 (W0a op a b).2]
theorem R4b {h:DHeap} {a b:Int}:DC Tryz.prog 136 [.int .i64 a,.int .i64 b] h (.ret (.tuple #[.int .i64 (if b=0 then 0 else IntKind.i64.wrap (a.tdiv b)),.int .i64 (if b=0 then 0 else a.tmod b),.bool (!decide (b=0))])) h:=by
 refine Ct.pure (U5d (by simp) ?_) (b3a _ rfl)
 by_cases hb:b=0
 ·simp -implicitDefEqProofs (disch:=first|omega|simp only[go_sem]) only[go_sem,true_and,k4b,hb]
  exact ⟨_,rfl,rfl,.refl _⟩
 by_cases ha:a=-9223372036854775808
 ·by_cases h1:b=-1
  ·simp -implicitDefEqProofs (disch:=first|omega|simp only[go_sem]) only[go_sem,true_and,k4b,hb,ha,h1]
   exact ⟨_,rfl,by rfl,.refl _⟩
  ·simp -implicitDefEqProofs (disch:=first|omega|simp only[go_sem]) only[go_sem,true_and,k4b,hb,ha,h1]
   refine Y5b rfl ?_
   simp -implicitDefEqProofs (disch:=first|omega|simp only[go_sem]) only[go_sem,true_and,h5b,C5b]
   simp -implicitDefEqProofs (disch:=first|omega|simp only[go_sem]) only[go_sem,true_and,C1b hb,D1b hb]
   exact ⟨_,rfl,by simp[hb],.refl _⟩
 ·simp -implicitDefEqProofs (disch:=first|omega|simp only[go_sem]) only[go_sem,true_and,k4b,hb,ha]
  refine Y5b rfl ?_
  simp -implicitDefEqProofs (disch:=first|omega|simp only[go_sem]) only[go_sem,true_and,h5b,C5b]
  simp -implicitDefEqProofs (disch:=first|omega|simp only[go_sem]) only[go_sem,true_and,C1b hb,D1b hb]
  exact ⟨_,rfl,by simp[hb],.refl _⟩
theorem J3c {h:DHeap} {o a b:Int}:DC Tryz.prog 110 [.int .i64 o,.int .i64 a,.int .i64 b] h (.ret (x1a o a b)) h:=by
 refine Ct.pure (E5d (by simp) ?_) (b3a _ rfl)
 have n0:¬ ((cnt b:Nat):Int)<0:=by omega
 simp -implicitDefEqProofs (disch:=first|omega|simp only[go_sem]) only[go_sem,true_and,g4d,↓a0d]
 by_cases h8:o=8
 ·simp -implicitDefEqProofs (disch:=first|omega|simp only[go_sem]) only[go_sem,true_and,h8];exact ⟨_,rfl,rfl,.refl _⟩
 by_cases h9:o=9
 ·simp -implicitDefEqProofs (disch:=first|omega|simp only[go_sem]) only[go_sem,true_and,h9];exact ⟨_,rfl,rfl,.refl _⟩
 by_cases h10:o=10
 ·simp -implicitDefEqProofs (disch:=first|omega|simp only[go_sem]) only[go_sem,true_and,h10];exact ⟨_,rfl,rfl,.refl _⟩
 by_cases h11:o=11
 ·simp -implicitDefEqProofs (disch:=first|omega|simp only[go_sem]) only[go_sem,true_and,h11]
  refine YV R4b ?_
  by_cases hb:b=0
  ·simp -implicitDefEqProofs (disch:=first|omega|simp only[go_sem]) only[go_sem,true_and,hb];exact ⟨_,rfl,by simp[x1a,W0a],.refl _⟩
  ·simp -implicitDefEqProofs (disch:=first|omega|simp only[go_sem]) only[go_sem,true_and,hb];exact ⟨_,rfl,by simp[x1a,W0a,hb],.refl _⟩
 by_cases h12:o=12
 ·simp -implicitDefEqProofs (disch:=first|omega|simp only[go_sem]) only[go_sem,true_and,h12]
  refine YV R4b ?_
  by_cases hb:b=0
  ·simp -implicitDefEqProofs (disch:=first|omega|simp only[go_sem]) only[go_sem,true_and,hb];exact ⟨_,rfl,by simp[x1a,W0a],.refl _⟩
  ·simp -implicitDefEqProofs (disch:=first|omega|simp only[go_sem]) only[go_sem,true_and,hb];exact ⟨_,rfl,by simp[x1a,W0a,hb],.refl _⟩
 by_cases h13:o=13
 ·simp -implicitDefEqProofs (disch:=first|omega|simp only[go_sem]) only[go_sem,true_and,h13,D3a];exact ⟨_,rfl,rfl,.refl _⟩
 by_cases h14:o=14
 ·simp -implicitDefEqProofs (disch:=first|omega|simp only[go_sem]) only[go_sem,true_and,h14,D3a];exact ⟨_,rfl,rfl,.refl _⟩
 by_cases h15:o=15
 ·simp -implicitDefEqProofs (disch:=first|omega|simp only[go_sem]) only[go_sem,true_and,h15,D3a];exact ⟨_,rfl,rfl,.refl _⟩
 by_cases h16:o=16
 ·simp -implicitDefEqProofs (disch:=first|omega|simp only[go_sem]) only[go_sem,true_and,h16,D3a,E1b n0,Int.toNat_natCast,S5a];exact ⟨_,rfl,rfl,.refl _⟩
 by_cases h17:o=17
 ·simp -implicitDefEqProofs (disch:=first|omega|simp only[go_sem]) only[go_sem,true_and,h17,D3a,V8a n0,Int.toNat_natCast,S5a];exact ⟨_,rfl,rfl,.refl _⟩
 by_cases h18:o=18
 ·simp -implicitDefEqProofs (disch:=first|omega|simp only[go_sem]) only[go_sem,true_and,h18,g7b,V8a n0,Int.toNat_natCast,S5a];exact ⟨_,rfl,rfl,.refl _⟩
 by_cases h20:o=20
 ·simp -implicitDefEqProofs (disch:=first|omega|simp only[go_sem]) only[go_sem,true_and,h20]
  refine YV Z1b ?_
  simp -implicitDefEqProofs (disch:=first|omega|simp only[go_sem]) only[go_sem,true_and]
  exact ⟨_,rfl,by simp[x1a,W0a],.refl _⟩
 by_cases h21:o=21
 ·simp -implicitDefEqProofs (disch:=first|omega|simp only[go_sem]) only[go_sem,true_and,h21]
  refine YV Z1b ?_
  simp -implicitDefEqProofs (disch:=first|omega|simp only[go_sem]) only[go_sem,true_and]
  exact ⟨_,rfl,by simp[x1a,W0a],.refl _⟩
 simp -implicitDefEqProofs (disch:=first|omega|simp only[go_sem]) only[go_sem,true_and,h8,h9,h10,h11,h12,h13,h14,h15,h16,h17,h18,h20,h21]
 exact ⟨_,rfl,by simp[x1a,W0a, *],.refl _⟩
theorem K3c {h:DHeap} {o a b:Int}:DC Tryz.prog 91 [.int .i64 o,.int .i64 a,.int .i64 b] h (.ret (x1a o a b)) h:=by
 refine Ct.pure (O9d (by simp) ?_) (b3a _ rfl)
 have n0:¬ ((cnt b:Nat):Int)<0:=by omega
 simp -implicitDefEqProofs (disch:=first|omega|simp only[go_sem]) only[go_sem,true_and,c91,↓I3c,r6c]
 by_cases h8:o=8
 ·simp -implicitDefEqProofs (disch:=first|omega|simp only[go_sem]) only[go_sem,true_and,h8];exact ⟨_,rfl,rfl,.refl _⟩
 by_cases h9:o=9
 ·simp -implicitDefEqProofs (disch:=first|omega|simp only[go_sem]) only[go_sem,true_and,h9];exact ⟨_,rfl,rfl,.refl _⟩
 by_cases h10:o=10
 ·simp -implicitDefEqProofs (disch:=first|omega|simp only[go_sem]) only[go_sem,true_and,h10];exact ⟨_,rfl,rfl,.refl _⟩
 by_cases h11:o=11
 ·by_cases hb:b=0
  ·simp -implicitDefEqProofs (disch:=first|omega|simp only[go_sem]) only[go_sem,true_and,h11,hb];exact ⟨_,rfl,by simp[x1a,W0a,F4a],.refl _⟩
  ·simp -implicitDefEqProofs (disch:=first|omega|simp only[go_sem]) only[go_sem,true_and,h11,hb,C1b hb];exact ⟨_,rfl,by simp[x1a,W0a,hb,F4a],.refl _⟩
 by_cases h12:o=12
 ·by_cases hb:b=0
  ·simp -implicitDefEqProofs (disch:=first|omega|simp only[go_sem]) only[go_sem,true_and,h12,hb];exact ⟨_,rfl,by simp[x1a,W0a,F4a],.refl _⟩
  ·simp -implicitDefEqProofs (disch:=first|omega|simp only[go_sem]) only[go_sem,true_and,h12,hb,D1b hb];exact ⟨_,rfl,by simp[x1a,W0a,hb,F4a],.refl _⟩
 by_cases h13:o=13
 ·simp -implicitDefEqProofs (disch:=first|omega|simp only[go_sem]) only[go_sem,true_and,h13,D3a];exact ⟨_,rfl,rfl,.refl _⟩
 by_cases h14:o=14
 ·simp -implicitDefEqProofs (disch:=first|omega|simp only[go_sem]) only[go_sem,true_and,h14,D3a];exact ⟨_,rfl,rfl,.refl _⟩
 by_cases h15:o=15
 ·simp -implicitDefEqProofs (disch:=first|omega|simp only[go_sem]) only[go_sem,true_and,h15,D3a];exact ⟨_,rfl,rfl,.refl _⟩
 by_cases h16:o=16
 ·simp -implicitDefEqProofs (disch:=first|omega|simp only[go_sem]) only[go_sem,true_and,h16,D3a,E1b n0,Int.toNat_natCast,S5a];exact ⟨_,rfl,rfl,.refl _⟩
 by_cases h17:o=17
 ·simp -implicitDefEqProofs (disch:=first|omega|simp only[go_sem]) only[go_sem,true_and,h17,D3a,V8a n0,Int.toNat_natCast,S5a];exact ⟨_,rfl,rfl,.refl _⟩
 by_cases h18:o=18
 ·simp -implicitDefEqProofs (disch:=first|omega|simp only[go_sem]) only[go_sem,true_and,h18,g7b,V8a n0,Int.toNat_natCast,S5a];exact ⟨_,rfl,rfl,.refl _⟩
 by_cases h20:o=20
 ·simp -implicitDefEqProofs (disch:=first|omega|simp only[go_sem]) only[go_sem,true_and,h20]
  refine YV a2b ?_
  simp -implicitDefEqProofs (disch:=first|omega|simp only[go_sem]) only[go_sem,true_and]
  exact ⟨_,rfl,by simp[x1a,W0a],.refl _⟩
 by_cases h21:o=21
 ·simp -implicitDefEqProofs (disch:=first|omega|simp only[go_sem]) only[go_sem,true_and,h21]
  refine YV a2b ?_
  simp -implicitDefEqProofs (disch:=first|omega|simp only[go_sem]) only[go_sem,true_and]
  exact ⟨_,rfl,by simp[x1a,W0a],.refl _⟩
 simp -implicitDefEqProofs (disch:=first|omega|simp only[go_sem]) only[go_sem,true_and,h8,h9,h10,h11,h12,h13,h14,h15,h16,h17,h18,h20,h21]
 exact ⟨_,rfl,by simp[x1a,W0a, *],.refl _⟩
theorem D7b {h:DHeap} {n:Int}:DC Tryz.prog 114 [.int .i32 n] h (.ret (.bool false)) h:=by
 refine Ct.pure (I5d (by simp) ?_) (n0a _)
 simp -implicitDefEqProofs (disch:=first|omega|simp only[go_sem]) only[go_sem,k4d]
 exact ⟨_,rfl,rfl,.refl h⟩
theorem E7b {h:DHeap} {n:Int}:DC Tryz.prog 115 [.int .i64 n] h (.ret (.bool false)) h:=by
 refine Ct.pure (J5d (by simp) ?_) (n0a _)
 simp -implicitDefEqProofs (disch:=first|omega|simp only[go_sem]) only[go_sem,l4d]
 exact ⟨_,rfl,rfl,.refl h⟩
def A2a (a b:Int):Int:=if a<b then -1 else if b<a then 1 else 0
theorem q0d {h:DHeap} {a b:Int}:DC Tryz.prog 78 [.int .i32 a,.int .i32 b] h (.ret (.int .i64 (A2a a b))) h:=by
 refine Ct.pure (B9d (by simp) ?_) (t0a _ _)
 unfold A2a
 simp -implicitDefEqProofs (disch:=first|omega|simp only[go_sem]) only[go_sem,c78]
 refine YV D7b ?_
 simp -implicitDefEqProofs (disch:=first|omega|simp only[go_sem]) only[go_sem]
 refine YV D7b ?_
 by_cases h0:a<b
 ·simp -implicitDefEqProofs (disch:=first|omega|simp only[go_sem]) only[go_sem,h0]
  exact ⟨_,rfl,rfl,.refl h⟩
 by_cases h1:b<a
 ·simp -implicitDefEqProofs (disch:=first|omega|simp only[go_sem]) only[go_sem,h0,gt_iff_lt,h1]
  exact ⟨_,rfl,rfl,.refl h⟩
 ·simp -implicitDefEqProofs (disch:=first|omega|simp only[go_sem]) only[go_sem,h0,gt_iff_lt,h1]
  exact ⟨_,rfl,rfl,.refl h⟩
theorem r0d {h:DHeap} {a b:Int}:DC Tryz.prog 79 [.int .i64 a,.int .i64 b] h (.ret (.int .i64 (A2a a b))) h:=by
 refine Ct.pure (C9d (by simp) ?_) (t0a _ _)
 unfold A2a
 simp -implicitDefEqProofs (disch:=first|omega|simp only[go_sem]) only[go_sem,c79]
 refine YV E7b ?_
 simp -implicitDefEqProofs (disch:=first|omega|simp only[go_sem]) only[go_sem]
 refine YV E7b ?_
 by_cases h0:a<b
 ·simp -implicitDefEqProofs (disch:=first|omega|simp only[go_sem]) only[go_sem,h0]
  exact ⟨_,rfl,rfl,.refl h⟩
 by_cases h1:b<a
 ·simp -implicitDefEqProofs (disch:=first|omega|simp only[go_sem]) only[go_sem,h0,gt_iff_lt,h1]
  exact ⟨_,rfl,rfl,.refl h⟩
 ·simp -implicitDefEqProofs (disch:=first|omega|simp only[go_sem]) only[go_sem,h0,gt_iff_lt,h1]
  exact ⟨_,rfl,rfl,.refl h⟩
def orI:List Int→Int
 | []=>0
 | a :: l=>if a=0 then orI l else a
theorem Q1e {h:DHeap} {b:Value} {l:List Int} (hb:Arg fI64.rep h b l) (hlen:l.length≤4294967296):DC Tryz.prog 77 [b] h (.ret (.int .i64 (orI l))) h:=by
 refine Ct.pure (A9d (by simp) ?_) (t0a _ _)
 have el:=hb.dLen (P:=Tryz.prog) (ts:=#[189]) (t:=189) rfl B1d
 simp -implicitDefEqProofs (disch:=first|omega|simp only[go_sem]) only[go_sem,c77,el]
 refine Xu (σ:=Nat) (by kernel_rfl) (fun i s=>s.df=[]∧s.h=h∧s.fr 3=some (.int .i64 0)∧s.fr 6=some b∧s.fr 7=some (.int .i64 l.length)∧s.fr 8=some (.int .i64 (i:Nat))∧i≤l.length∧orI (l.drop i)=orI l) (fun i=>l.length - i) 0 ?_ ?_
 ·simp -implicitDefEqProofs (disch:=first|omega|simp only[go_sem]) only[go_sem]
  exact ⟨by trivial,by trivial,by trivial,by trivial,by trivial,by trivial,Nat.zero_le _,by rw[List.drop_zero]⟩
 ·rintro i ⟨fr,df,hh,rd⟩ K hK hX ⟨rfl,rfl,h3,h6,h7,h8,hi,ho⟩
  simp only at h3 h6 h7 h8
  simp -implicitDefEqProofs (disch:=first|omega|simp only[go_sem]) only[go_sem,h3,h6,h7,h8]
  refine YX (fun hc1=>?_) (fun hc1=>?_)
  ·have hj:i<l.length:=by omega
   obtain ⟨id2,o2,e2,_,hat2⟩:=hb.idx (P:=Tryz.prog) (t:=189) m5d (k:=.i64) (i:=i) (x:=l[i]) (by simp)
   have hw:=ZV hj (by omega)
   rw[List.drop_eq_getElem_cons hj]at ho
   by_cases hx:l[i]=0
   ·simp -implicitDefEqProofs (disch:=first|omega|simp only[go_sem]) only[go_sem,h3,h6,h7,h8,e2,hat2.int,hx,hw]
    refine hK (i+1) _ ?_ (by omega)
    exact ⟨by trivial,by trivial,by simp -implicitDefEqProofs (disch:=first|omega|simp only[go_sem]) only[go_sem,h3],by simp -implicitDefEqProofs (disch:=first|omega|simp only[go_sem]) only[go_sem,h6],by simp -implicitDefEqProofs (disch:=first|omega|simp only[go_sem]) only[go_sem,h7],vz,by omega,by rw[← ho,orI,if_pos hx]⟩
   ·simp -implicitDefEqProofs (disch:=first|omega|simp only[go_sem]) only[go_sem,h3,h6,h7,h8,e2,hat2.int,hx,hw]
    refine hX _ _ (by simp) ?_
    simp -implicitDefEqProofs (disch:=first|omega|simp only[go_sem]) only[go_sem]
    refine ⟨_,rfl,?_,.refl hh⟩
    rw[← ho,orI,if_neg hx]
  ·obtain rfl:i=l.length:=by omega
   refine hX _ _ (by simp) ?_
   simp -implicitDefEqProofs (disch:=first|omega|simp only[go_sem]) only[go_sem,h3]
   refine ⟨_,rfl,?_,.refl hh⟩
   rw[← ho,List.drop_length];rfl
abbrev Zq (k:Key):Value:=.agg #[.int .i32 k.t,.int .i64 k.r]
abbrev XQ (c:Cell):Value:=.agg #[.int .i32 c.k.t,.int .i64 c.k.r,.int .i64 c.v,.int .i64 c.s]
def Yq (a b:Key):Bool:=decide (a.t<b.t)||(decide (a.t=b.t)&&decide (a.r<b.r))
def o5a (a b:Key):Int:=if A2a a.t b.t=0 then A2a a.r b.r else A2a a.t b.t
theorem k2b {a b:Int}:A2a a b=0↔a=b:=by
 unfold A2a;split
 ·constructor <;> intro h <;> omega
 ·split
  ·constructor <;> intro h <;> omega
  ·constructor <;> intro h <;> omega
theorem m4b {a b:Int}:A2a a b<0↔a<b:=by
 unfold A2a;split
 ·constructor <;> intro h <;> omega
 ·split
  ·constructor <;> intro h <;> omega
  ·constructor <;> intro h <;> omega
theorem Z8b (a b:Key):decide (o5a a b<0)=Yq a b:=by
 unfold o5a Yq
 by_cases h:a.t=b.t
 ·rw[if_pos (k2b.2 h)]
  rw[show decide (a.t<b.t)=false by simp;omega,show decide (a.t=b.t)=true by simp[h]]
  simp[m4b]
 ·rw[if_neg (fun hh=>h (k2b.1 hh)),show decide (a.t=b.t)=false by simp[h]]
  simp[m4b]
theorem F1c (a b:Key):orI [A2a a.t b.t,A2a a.r b.r]=o5a a b:=by
 unfold o5a orI orI orI
 split
 ·split
  ·rename_i h;exact h.symm
  ·rfl
 ·rfl
theorem o7b (a b:Int):inK .i64 (A2a a b):=by
 unfold A2a;split
 ·exact m0a.2 ⟨by decide,by decide⟩
 ·split <;> exact m0a.2 ⟨by decide,by decide⟩
theorem m2b {h:DHeap} {a b:Key}:DC Tryz.prog 55 [Zq a,Zq b] h (.ret (.int .i64 (o5a a b))) h:=by
 refine Ct.pure (k9d (by simp) ?_) (t0a _ _)
 simp -implicitDefEqProofs (disch:=first|omega|simp only[go_sem]) only[go_sem,c55]
 refine F0d ?_
 simp -implicitDefEqProofs (disch:=first|omega|simp only[go_sem]) only[go_sem,l55_0,f4a,d4a,Nat.add_zero,Nat.zero_add]
 refine D3b q0d ?_
 simp -implicitDefEqProofs (disch:=first|omega|simp only[go_sem]) only[go_sem,l55_0,f4a,d4a,Nat.add_zero,Nat.zero_add]
 refine D3b r0d ?_
 simp -implicitDefEqProofs (disch:=first|omega|simp only[go_sem]) only[go_sem]
 have ha:∀ K:DHeap,Arg fI64.rep (K.push (.row [.int .i64 (A2a a.t b.t),.int .i64 (A2a a.r b.r)] 1 false)) (.slice (some ⟨K.next,0,none⟩) 2 2) [A2a a.t b.t,A2a a.r b.r]:=fun K=>
  built fI64 K rfl rfl rfl (fun x hx=>by
   rcases List.mem_cons.1 hx with rfl | hx
   ·exact o7b _ _
   ·rw[List.mem_singleton.1 hx];exact o7b _ _)
 refine D3b (Q1e (ha _) (Nat.le_of_ble_eq_true rfl)) ?_
 rw[F1c]
 simp -implicitDefEqProofs (disch:=first|omega|simp only[go_sem]) only[go_sem,Nat.reduceAdd]
 refine ⟨⟨W6b (i:=6) (j:=4) rfl rfl rfl ?_,W6b (i:=8) (j:=4) rfl rfl rfl ?_,trivial⟩,_,rfl,rfl,((Ext.push1 _ _).push _).push _⟩
 ·rw[if_pos (by decide)]
  refine n6c (p:=.pointer (some ⟨h.next,1,none⟩)) ?_ ?_ (ld_2.trans f4a)
  ·simp -implicitDefEqProofs (disch:=first|omega|simp only[go_sem]) only[go_sem]
  ·simp -implicitDefEqProofs (disch:=first|omega|simp only[go_sem]) only[go_sem]
 ·rw[if_pos (by decide)]
  refine n6c (p:=.pointer (some ⟨_,1,none⟩)) ?_ ?_ (ld_2.trans d4a)
  ·simp -implicitDefEqProofs (disch:=first|omega|simp only[go_sem]) only[go_sem]
  ·simp -implicitDefEqProofs (disch:=first|omega|simp only[go_sem]) only[go_sem]
theorem m6d {h:DHeap} {a b:Key}:DC Tryz.prog 92 [Zq a,Zq b] h (.ret (.bool (Yq a b))) h:=by
 refine Ct.pure (P9d (by simp) ?_) (n0a _)
 unfold Yq
 by_cases h0:a.t<b.t
 ·simp -implicitDefEqProofs (disch:=first|omega|simp only[go_sem]) only[go_sem,c92,f4a,d4a,Nat.add_zero,Nat.zero_add,h0,Zj,ZY,Bool.true_or]
  exact ⟨_,rfl,rfl,(Ext.push1 _ _).push _⟩
 by_cases h1:a.t=b.t
 ·simp -implicitDefEqProofs (disch:=first|omega|simp only[go_sem]) only[go_sem,c92,f4a,d4a,Nat.add_zero,Nat.zero_add,h0,h1,Zj,ZY,Bool.false_or,Bool.true_and,Int.lt_irrefl]
  exact ⟨_,rfl,rfl,(Ext.push1 _ _).push _⟩
 ·simp -implicitDefEqProofs (disch:=first|omega|simp only[go_sem]) only[go_sem,c92,f4a,d4a,Nat.add_zero,Nat.zero_add,h0,h1,Zj,ZY,Bool.false_or,Bool.false_and]
  exact ⟨_,rfl,rfl,(Ext.push1 _ _).push _⟩
def u1a {α:Type} (lt:α→α→Bool):List α→Bool
 | a :: b :: l=>lt a b&&u1a lt (b :: l)
 | _=>true
theorem F8a {α:Type} {lt:α→α→Bool}:∀ {l:List α},l.length≤1→u1a lt l=true
 | [],_=>rfl
 | [_],_=>rfl
 | _ :: _ :: _,h=>by simp at h
theorem j1b {α:Type} {lt:α→α→Bool} {l:List α} {j:Nat} (h:j+1<l.length):u1a lt (l.drop j)=(lt l[j] l[j+1]&&u1a lt (l.drop (j+1))):=by
 rw[List.drop_eq_getElem_cons (show j<l.length by omega),List.drop_eq_getElem_cons h,u1a]
theorem l4b {S:Nat→Prop} {h:DHeap} {id o:Nat} {c:Cell} (a:At fCell.rep S h id o c):Zx h id o 2=some (Zq c.k):=by
 obtain ⟨cells,esz,ro,g,b,e,_⟩:=a
 have hb:o+4≤cells.length:=b
 have he:(cells.drop o).take 4=fCell.enc c:=e
 rw[Zw g (by omega)]
 have:(cells.drop o).take 2=((cells.drop o).take 4).take 2:=by rw[List.take_take];rfl
 rw[this,he];rfl
theorem u1d:n5a Tryz.prog 31=some [(21,0),(2,1)]:=by kernel_rfl
theorem d5c:n5a Tryz.prog 33=some [(31,0),(2,2),(2,3)]:=by kernel_rfl
theorem j2d:Tryz.prog.underlying 21=some (.int .i32):=by kernel_rfl
theorem b2b:Tryz.prog.underlying 2=some (.int .i64):=by kernel_rfl
theorem y7b:Tryz.prog.eqGuardType Tryz.prog.depth 31=false:=by kernel_rfl
theorem g5c:Tryz.prog.eqGuardType Tryz.prog.depth 33=false:=by kernel_rfl
theorem Key.ext_iff' {a b:Key}:a=b↔a.t=b.t∧a.r=b.r:=by cases a;cases b;simp
theorem Cell.ext_iff' {a b:Cell}:a=b↔a.k=b.k∧a.v=b.v∧a.s=b.s:=by cases a;cases b;simp
theorem R0b (d:Nat) (a b:Key):ZK Tryz.prog (Op.equalIn (d+1+1) 31 (Zq a) (Zq b))=some (.inr (decide (a=b))):=by
 refine E8a u1d ⟨_,_,_,_,T0a s2c rfl,T0a s2c rfl,y6a j2d,⟨_,_,_,_,T0a f9a rfl,T0a f9a rfl,y6a b2b,rfl,rfl⟩,?_⟩
 rw[decide_eq_decide.2 Key.ext_iff',Bool.decide_and,Bool.and_true]
 rfl
theorem n0d (d:Nat) (a b:Cell):ZK Tryz.prog (Op.equalIn (d+1+1+1) 33 (XQ a) (XQ b))=some (.inr (decide (a=b))):=by
 refine E8a d5c ⟨Zq a.k,Zq b.k,_,_,(m7a j0c).trans rfl,(m7a j0c).trans rfl,R0b d a.k b.k,⟨_,_,_,_,T0a f9a rfl,T0a f9a rfl,y6a b2b,
  ⟨_,_,_,_,T0a f9a rfl,T0a f9a rfl,y6a b2b,rfl,rfl⟩,rfl⟩,?_⟩
 rw[decide_eq_decide.2 Cell.ext_iff',Bool.decide_and,Bool.decide_and,Bool.and_true]
 rfl
theorem H3c {a b:Cell} {h:DHeap} {ox oy:Operand}:Yz Tryz.prog .neq 33 ox oy (XQ a) (XQ b) h=.ok (.value (.bool (!decide (a=b)))) h:=(B1b rfl rfl g5c (n0d 9997 a b)).2
theorem d7b {a b:Key} {h:DHeap} {ox oy:Operand}:Yz Tryz.prog .neq 31 ox oy (Zq a) (Zq b) h=.ok (.value (.bool (!decide (a=b)))) h:=(B1b rfl rfl y7b (R0b 9998 a b)).2
theorem k1a {a b:Key} {h:DHeap} {ox oy:Operand}:Yz Tryz.prog .eql 31 ox oy (Zq a) (Zq b) h=.ok (.value (.bool (decide (a=b)))) h:=(B1b rfl rfl y7b (R0b 9998 a b)).1
def S3a {α:Type} (eq:α→α→Bool):List α→List α→Bool
 | [],[]=>true
 | a :: l,b :: m=>eq a b&&S3a eq l m
 | _,_=>false
theorem R2b {α:Type} {eq:α→α→Bool}:∀ {l m:List α},l.length≠m.length→S3a eq l m=false
 | [],[],h=>by simp at h
 | [],_ :: _,_=>rfl
 | _ :: _,[],_=>rfl
 | a :: l,b :: m,h=>by
   simp only[S3a]
   rw[R2b (l:=l) (m:=m) (by simpa using h),Bool.and_false]
theorem C9b {α:Type} {eq:α→α→Bool} {l m:List α} {i:Nat} (hl:i<l.length) (hm:i<m.length):S3a eq (l.drop i) (m.drop i)=(eq l[i] m[i]&&S3a eq (l.drop (i+1)) (m.drop (i+1))):=by
 rw[List.drop_eq_getElem_cons hl,List.drop_eq_getElem_cons hm,S3a]
theorem T2c {α:Type} {eq:α→α→Bool} {l m:List α} (h:l.length=m.length):S3a eq (l.drop l.length) (m.drop l.length)=true:=by
 rw[List.drop_length,h,List.drop_length];rfl
abbrev W1a (x:Res) (v:Value):Value:=.agg #[.int .i64 x.e,v,.int .i64 x.s,.int .i64 x.p]
theorem Sl.upto {S:Nat→Prop} {h h1:DHeap} {b:Value} {l:List Int} (hb:Sl fU8.rep S h b l) (e:∀ i,S i→h1.get i=h.get i):Sl fU8.rep S h1 b l:=hb.keep e
theorem X9a {h:DHeap} {a b:Value} {l m:List Int} (ha:Arg fI64.rep h a l) (hb:Arg fI64.rep h b m) (hlen:l.length≤4294967296) :
 DC Tryz.prog 40 [a,b] h (.ret (.bool (S3a (fun a b:Int=>decide (a=b)) l m))) h:=by
 refine Ct.pure (b9d (by simp) ?_) (n0a _)
 have ea:=ha.lens (P:=Tryz.prog) (ts:=#[23]) (t:=23) rfl D4a
 have eb:=hb.lens (P:=Tryz.prog) (ts:=#[23]) (t:=23) rfl D4a
 by_cases hl:l.length=m.length
 case neg=>
  have hli:¬ ((l.length:Nat):Int)=(m.length:Nat):=by omega
  simp -implicitDefEqProofs (disch:=first|omega|simp only[go_sem]) only[go_sem,true_and,c40,ea,eb,hli]
  exact ⟨_,rfl,by rw[R2b hl],.refl h⟩
 have hli:((l.length:Nat):Int)=(m.length:Nat):=by omega
 simp -implicitDefEqProofs (disch:=first|omega|simp only[go_sem]) only[go_sem,true_and,c40,ea,eb,hli]
 refine Xu (σ:=Nat) (by kernel_rfl) (fun i s=>s.df=[]∧s.h=h∧s.fr 0=some a∧s.fr 1=some b∧s.fr 12=some (.int .i64 (l.length:Nat))∧s.fr 13=some (.int .i64 (i:Nat))∧i≤l.length∧S3a (fun a b:Int=>decide (a=b)) (l.drop i) (m.drop i)=S3a (fun a b:Int=>decide (a=b)) l m) (fun i=>l.length - i) 0 ?_ ?_
 ·simp -implicitDefEqProofs (disch:=first|omega|simp only[go_sem]) only[go_sem,true_and,hli]
  exact ⟨rfl,Nat.zero_le _,by rw[List.drop_zero,List.drop_zero]⟩
 ·rintro i ⟨fr,df,hh,rd⟩ K hK hX ⟨rfl,rfl,f0,f1,f12,f13,hi,ho⟩
  simp only at f0 f1 f12 f13
  simp -implicitDefEqProofs (disch:=first|omega|simp only[go_sem]) only[go_sem,true_and,f0,f1,f12,f13]
  refine YX (fun hc1=>?_) (fun hc1=>?_)
  ·have hj:i<l.length:=by omega
   have hk:i<m.length:=by omega
   obtain ⟨id1,o1,e1,_,hat1⟩:=ha.idx (P:=Tryz.prog) (t:=23) X8a (k:=.i64) (i:=i) (x:=l[i]) (by simp)
   obtain ⟨id2,o2,e2,_,hat2⟩:=hb.idx (P:=Tryz.prog) (t:=23) X8a (k:=.i64) (i:=i) (x:=m[i]) (by simp)
   have hw:=ZV hj (by omega)
   have l1:=hat1.int
   have l2:=hat2.int
   rw[C9b hj hk]at ho
   simp -implicitDefEqProofs (disch:=first|omega|simp only[go_sem]) only[go_sem,true_and,f13]
   refine E0d ?_
   by_cases hlt:l[i]=m[i]
   ·rw[decide_eq_true hlt,Bool.true_and]at ho
    simp -implicitDefEqProofs (disch:=first|omega|simp only[go_sem]) only[go_sem,true_and,l40_0,f0,f1,f13,e1,e2,l1,l2, hlt,hw]
    refine hK (i+1) _ ?_ (by omega)
    exact ⟨by trivial,by trivial,(vy f0),(vy f1),(vy f12),vz,by omega,ho⟩
   ·rw[decide_eq_false hlt,Bool.false_and]at ho
    simp -implicitDefEqProofs (disch:=first|omega|simp only[go_sem]) only[go_sem,true_and,l40_0,f0,f1,f13,e1,e2,l1,l2, hlt]
    refine hX _ _ (by simp) ?_
    simp -implicitDefEqProofs (disch:=first|omega|simp only[go_sem]) only[go_sem,true_and]
    exact ⟨_,rfl,by rw[← ho],.refl hh⟩
  ·obtain rfl:i=l.length:=by omega
   refine hX _ _ (by simp) ?_
   simp -implicitDefEqProofs (disch:=first|omega|simp only[go_sem]) only[go_sem,true_and]
   exact ⟨_,rfl,by rw[← ho,T2c hl],.refl hh⟩
def Xq (n:Int):Bool:=!decide (n=0)&&(!decide (n=6)&&(!decide (n=22)&&!decide (n=25)))
theorem T1b {h:DHeap} {n:Int}:DC Tryz.prog 85 [.int .i64 n] h (.ret (.bool (Xq n))) h:=by
 refine Ct.pure (I9d (by simp) ?_) (n0a _)
 simp -implicitDefEqProofs (disch:=first|omega|simp only[go_sem]) only[go_sem,true_and,c85]
 (repeat' first | (refine I1a (fun hb=>?_) (fun hb=>?_) <;> (try simp only[Bool.not_eq_true',Bool.not_eq_false']at hb) <;> simp -implicitDefEqProofs (disch:=first|omega|simp only[go_sem]) only[go_sem,true_and,Zj,ZY,hb]) | (refine A0a (fun hb=>?_) (fun hb=>?_) <;> (try simp only[Bool.not_eq_true',Bool.not_eq_false']at hb) <;> simp -implicitDefEqProofs (disch:=first|omega|simp only[go_sem]) only[go_sem,true_and,Zj,ZY,hb]))
 all_goals exact ⟨_,rfl,by simp_all [Xq],.refl _⟩
def Wq (n:Int):Bool:=decide (7≤n)&&decide (n≤18)||(decide (n=20)||(decide (n=21)||(decide (n=26)||decide (n=27))))
theorem J9b {h:DHeap} {n:Int}:DC Tryz.prog 86 [.int .i64 n] h (.ret (.bool (Wq n))) h:=by
 refine Ct.pure (J9d (by simp) ?_) (n0a _)
 simp -implicitDefEqProofs (disch:=first|omega|simp only[go_sem]) only[go_sem,true_and,c86]
 (repeat' first | (refine I1a (fun hb=>?_) (fun hb=>?_) <;> (try simp only[Bool.not_eq_true',Bool.not_eq_false']at hb) <;> simp -implicitDefEqProofs (disch:=first|omega|simp only[go_sem]) only[go_sem,true_and,Zj,ZY,hb]) | (refine A0a (fun hb=>?_) (fun hb=>?_) <;> (try simp only[Bool.not_eq_true',Bool.not_eq_false']at hb) <;> simp -implicitDefEqProofs (disch:=first|omega|simp only[go_sem]) only[go_sem,true_and,Zj,ZY,hb]))
 all_goals exact ⟨_,rfl,by simp_all [Wq] <;> omega,.refl _⟩
def F0a (n:Int):Bool:=decide (n=22)||decide (n=23)
theorem v9b {h:DHeap} {n:Int}:DC Tryz.prog 117 [.int .i64 n] h (.ret (.bool (F0a n))) h:=by
 refine Ct.pure (L5d (by simp) ?_) (n0a _)
 simp -implicitDefEqProofs (disch:=first|omega|simp only[go_sem]) only[go_sem,true_and,n4d]
 (repeat' first | (refine I1a (fun hb=>?_) (fun hb=>?_) <;> (try simp only[Bool.not_eq_true',Bool.not_eq_false']at hb) <;> simp -implicitDefEqProofs (disch:=first|omega|simp only[go_sem]) only[go_sem,true_and,Zj,ZY,hb]) | (refine A0a (fun hb=>?_) (fun hb=>?_) <;> (try simp only[Bool.not_eq_true',Bool.not_eq_false']at hb) <;> simp -implicitDefEqProofs (disch:=first|omega|simp only[go_sem]) only[go_sem,true_and,Zj,ZY,hb]))
 all_goals exact ⟨_,rfl,by simp_all [F0a],.refl _⟩
def Xv (n:Int):Int:=if n=0 then 1 else if n=6∨n=24∨n=25 then 2 else if n=2∨n=3∨n=4∨n=5∨n=19∨n=22 then 3 else if n=1∨n=23∨n=26∨n=27 then 4 else if 7≤n∧n≤21 then 3 else 0
theorem L2b {h:DHeap} {n:Int}:DC Tryz.prog 84 [.int .i64 n] h (.ret (.int .i64 (Xv n))) h:=by
 refine Ct.pure (H9d (by simp) ?_) (t0a _ _)
 simp -implicitDefEqProofs (disch:=first|omega|simp only[go_sem]) only[go_sem,true_and,c84]
 (repeat' first | (refine I1a (fun hb=>?_) (fun hb=>?_) <;> (try simp only[Bool.not_eq_true',Bool.not_eq_false']at hb) <;> simp -implicitDefEqProofs (disch:=first|omega|simp only[go_sem]) only[go_sem,true_and,Zj,ZY,hb]) | (refine A0a (fun hb=>?_) (fun hb=>?_) <;> (try simp only[Bool.not_eq_true',Bool.not_eq_false']at hb) <;> simp -implicitDefEqProofs (disch:=first|omega|simp only[go_sem]) only[go_sem,true_and,Zj,ZY,hb]))
 all_goals exact ⟨_,rfl,by simp_all [Xv] <;> omega,.refl _⟩
def V0a (n:Int):Int:=Xv n - 1 - (if Xq n then 1 else 0) - (if Wq n then 1 else 0)
theorem o6a (n:Int):0≤Xv n∧Xv n≤4:=by
 unfold Xv
 repeat' split
 all_goals omega
theorem O2c {h:DHeap} {n:Int}:DC Tryz.prog 87 [.int .i64 n] h (.ret (.int .i64 (V0a n))) h:=by
 refine Ct.pure (K9d (by simp) ?_) (t0a _ _)
 have hs:=o6a n
 simp -implicitDefEqProofs (disch:=first|omega|simp only[go_sem]) only[go_sem,true_and,c87]
 refine YV L2b ?_
 simp -implicitDefEqProofs (disch:=first|omega|simp only[go_sem]) only[go_sem,true_and]
 refine YV T1b ?_
 simp -implicitDefEqProofs (disch:=first|omega|simp only[go_sem]) only[go_sem,true_and]
 refine A0a (fun h1=>?_) (fun h1=>?_)
 all_goals simp -implicitDefEqProofs (disch:=first|omega|simp only[go_sem]) only[go_sem,true_and,h1]
 all_goals refine YV J9b ?_
 all_goals simp -implicitDefEqProofs (disch:=first|omega|simp only[go_sem]) only[go_sem,true_and]
 all_goals refine A0a (fun h2=>?_) (fun h2=>?_)
 all_goals simp -implicitDefEqProofs (disch:=first|omega|simp only[go_sem]) only[go_sem,true_and,h2]
 all_goals refine ⟨_,rfl,?_,.refl _⟩
 all_goals simp only[V0a,h1,h2,if_true,if_false,Bool.false_eq_true]
 all_goals congr 2
 ·rw[ZQ (n:=Xv n - 1) (by omega) (by omega),ZQ (n:=Xv n - 1 - 1) (by omega) (by omega),ZQ (by omega) (by omega)]
 ·rw[ZQ (n:=Xv n - 1) (by omega) (by omega),ZQ (by omega) (by omega)];omega
 ·rw[ZQ (n:=Xv n - 1) (by omega) (by omega),ZQ (by omega) (by omega)];omega
 ·rw[ZQ (n:=Xv n - 1) (by omega) (by omega)];omega
def o1a (x:Instr):Int:=
 if Xq x.op&&(decide (x.a<0)||decide (8≤x.a))||Wq x.op&&(decide (x.b<0)||decide (8≤x.b)) then 132
 else if decide (x.op=19)&&(!decide (x.imm=8)&&(!decide (x.imm=16)&&!decide (x.imm=32))) then 132 else 0
theorem u9b {h:DHeap} {x:Instr}:DC Tryz.prog 88 [XJ x] h (.ret (.int .i64 (o1a x))) h:=by
 obtain ⟨x1,x2,x3,x4,x5⟩:=x
 refine Ct.pure (L9d (by simp) ?_) (t0a _ _)
 obtain ⟨H,hH⟩:∃ H,H=h.push (.row [.int .i64 x1,.int .i64 x2,.int .i64 x3,.int .i64 x4,.int .i64 x5] 0 false):=⟨_,rfl⟩
 have hE:Ext h H:=by rw[hH];exact Ext.push1 _ _
 have g:H.get h.next=some (.row [.int .i64 x1,.int .i64 x2,.int .i64 x3,.int .i64 x4,.int .i64 x5] 0 false):=by rw[hH];exact Zz _ _
 have a1:Zu H h.next 1=some (.int .i64 x2):=Zy g
 have a2:Zu H h.next 2=some (.int .i64 x3):=Zy g
 have a3:Zu H h.next 3=some (.int .i64 x4):=Zy g
 have a4:Zu H h.next 4=some (.int .i64 x5):=Zy g
 simp -implicitDefEqProofs (disch:=first|omega|simp only[go_sem]) only[go_sem,true_and,c88,← hH,a1]
 clear hH
 refine YV T1b ?_
 simp -implicitDefEqProofs (disch:=first|omega|simp only[go_sem]) only[go_sem,true_and,a1,a2]
 (repeat' first | (refine I1a (fun hb=>?_) (fun hb=>?_) <;> (try simp only[Bool.not_eq_true',Bool.not_eq_false']at hb) <;> simp -implicitDefEqProofs (disch:=first|omega|simp only[go_sem]) only[go_sem,true_and,Zj,ZY,hb,a1,a2,a3,a4]) | (refine A0a (fun hb=>?_) (fun hb=>?_) <;> (try simp only[Bool.not_eq_true',Bool.not_eq_false']at hb) <;> simp -implicitDefEqProofs (disch:=first|omega|simp only[go_sem]) only[go_sem,true_and,Zj,ZY,hb,a1,a2,a3,a4]))
 all_goals first
  | (refine YV J9b ?_
     simp -implicitDefEqProofs (disch:=first|omega|simp only[go_sem]) only[go_sem,true_and,a1,a2,a3,a4,Zj,ZY, *])
  | skip
 (repeat' first | (refine I1a (fun hb=>?_) (fun hb=>?_) <;> (try simp only[Bool.not_eq_true',Bool.not_eq_false']at hb) <;> simp -implicitDefEqProofs (disch:=first|omega|simp only[go_sem]) only[go_sem,true_and,Zj,ZY,hb,a1,a2,a3,a4]) | (refine A0a (fun hb=>?_) (fun hb=>?_) <;> (try simp only[Bool.not_eq_true',Bool.not_eq_false']at hb) <;> simp -implicitDefEqProofs (disch:=first|omega|simp only[go_sem]) only[go_sem,true_and,Zj,ZY,hb,a1,a2,a3,a4]))
 all_goals exact ⟨_,rfl,by simp_all [o1a] <;> omega,hE⟩
abbrev L0a:Instr:=⟨0,0,0,0,0⟩
def d3a (op w x y:Int):Int:=if w=2 then (if op=1∧32768≤x+256*y then x+256*y - 65536 else x+256*y) else if 1≤w then x else 0
def Xx (l:List Int) (i:Nat):Instr:=
 let op:=l.getD i 0
 let k2:=i+1+if Xq op then 1 else 0
 let k3:=k2+if Wq op then 1 else 0
 ⟨i,op,if Xq op then l.getD (i+1) 0 else 0,if Wq op then l.getD k2 0 else 0,d3a op (V0a op) (l.getD k3 0) (l.getD (k3+1) 0)⟩
def XY (l:List Int) (i:Nat):Instr × Int × Int:=
 if l.length≤i then (L0a,0,130)
 else if Xv (l.getD i 0)=0∨(l.length:Int) - i<Xv (l.getD i 0) then (L0a,0,130)
 else if o1a (Xx l i)=0 then (Xx l i,i+Xv (l.getD i 0),0) else (L0a,0,o1a (Xx l i))
theorem b2a {h:DHeap} {v:Value} {l:List Int} (hb:Arg fU8.rep h v l) {i:Nat} (hi:i<l.length) :
 ∃ id o,Yj Tryz.prog 22 v (.int .i64 (i:Nat))=some (.pointer (some ⟨id,o,none⟩))∧(∀ K,Ext h K→Zu K id o=some (.int .u8 (l.getD i 0)))∧0≤l.getD i 0∧l.getD i 0≤255:=by
 have hx:l[i]? = some l[i]:=List.getElem?_eq_getElem hi
 have hgd:l.getD i 0=l[i]:=by rw[List.getD_eq_getElem?_getD,hx];rfl
 obtain ⟨id,o,e1,hid,hat⟩:=hb.idx (P:=Tryz.prog) (t:=22) L8b (k:=.i64) hx
 have hok:=B1c.1 (hb.ok _ (List.getElem_mem hi))
 refine ⟨id,o,e1,fun K e=>?_,by rw[hgd];exact hok.1,by rw[hgd];exact hok.2⟩
 have:=(hat.flat).1 0 (by decide)
 rw[Nat.add_zero]at this
 unfold Zu at this ⊢
 rw[e.get _ hid,hgd]
 exact this
theorem O7a {n:Int} (h:Xv n≠0):0≤V0a n∧V0a n≤2∧0≤n∧n<28:=by
 have h1:0≤n∧n<28:=by
  unfold Xv at h
  repeat' split at h
  all_goals omega
 obtain ⟨k,rfl⟩:∃ k:Nat,n=k:=⟨n.toNat,by omega⟩
 have:∀ k:Nat,k<28→0≤V0a k∧V0a k≤2:=by decide
 have:=this k (by omega)
 omega
theorem d5a {fr:Fr} {K:DHeap} {a b c id:Nat} {x:Instr} {n e:Int} (f2:fr a=some (.pointer (some ⟨id,0,none⟩))) (f3:fr b=some (.int .i64 n)) (f4:fr c=some (.int .i64 e)) (hk:K.get id=some (.row (fInstr.enc x) 0 false)) :
 s0a Tryz.prog [.cell a 130,.tmp b,.tmp c] fr K=some (.tuple #[XJ x,.int .i64 n,.int .i64 e]):=by
 rw[s6b,f2a,f2,k0a,h4a,h4a,f3,f4]
 have e1:O0a Tryz.prog 130 (.pointer (some ⟨id,0,none⟩)) K=some (XJ x):=ld_130.trans (by rw[Zw hk (Nat.le_of_ble_eq_true rfl)];rfl)
 rw[e1]
 rfl
theorem w2a:XW Tryz.prog 130 []=some (XJ L0a):=l0a I7b rfl
theorem i2b {p o:Int}:XW Tryz.prog 130 [(0,.int .i64 p),(1,.int .i64 o)]=some (XJ ⟨p,o,0,0,0⟩):=l0a I7b rfl
theorem S7b {S:Nat→Prop} {x:Instr} {n e:Int}:VIn S (.tuple #[XJ x,.int .i64 n,.int .i64 e]):=by
 refine .tuple fun v hv=>?_
 simp only[List.mem_toArray,List.mem_cons,List.not_mem_nil,or_false]at hv
 rcases hv with rfl | rfl | rfl
 ·exact .agg fun v hv=>by
   simp only[List.mem_toArray,List.mem_cons,List.not_mem_nil,or_false]at hv
   rcases hv with rfl | rfl | rfl | rfl | rfl <;> exact .int _ _
 ·exact .int _ _
 ·exact .int _ _
theorem Q6a {h:DHeap} {z:Nat} {a b c d e a' b' c' d' e':Value} (hv:[a,b,c,d,e].all Value.oneCell'=true):storeAt (h.push (.row [a',b',c',d',e'] z false)) h.next 0 [a,b,c,d,e]=some (h.push (.row [a,b,c,d,e] z false)):=a0a rfl hv
def c8b (B:Nat) (H:DHeap) (v:Value) (i:Nat) (op a b imm k:Int) (s:St):Prop:=
 s.df=[]∧s.rd=none∧s.fr 0=some v∧s.fr 1=some (.int .i64 (i:Nat))∧s.fr 4=some (.pointer (some ⟨B,0,none⟩))∧s.fr 7=some (.int .i64 (Xv op))∧s.fr 8=some (.pointer (some ⟨H.next,0,none⟩))∧s.fr 9=some (.int .i64 k)∧s.h=H.push (.row (fInstr.enc ⟨(i:Nat),op,a,b,imm⟩) 0 false)
set_option maxHeartbeats 2000000 in
theorem E5b {h:DHeap} {v:Value} {l:List Int} {i:Nat} (hb:Arg fU8.rep h v l) (hl:l.length≤4294967296) (hi:i≤4294967296) :
 DC Tryz.prog 58 [v,.int .i64 (i:Nat)] h (.ret (.tuple #[XJ (XY l i).1,.int .i64 (XY l i).2.1,.int .i64 (XY l i).2.2])) h:=by
 refine Ct.pure (n9d (by simp) ?_) S7b
 obtain ⟨H,hH⟩:∃ H,H=h.push (.row [.int .i64 0,.int .i64 0,.int .i64 0,.int .i64 0,.int .i64 0] 0 false):=⟨_,rfl⟩
 have hE:Ext h H:=by rw[hH];exact Ext.push1 _ _
 have g:H.get h.next=some (.row (fInstr.enc L0a) 0 false):=by rw[hH];exact Zz _ _
 have hHn:H.next=h.next+1:=by rw[hH];rfl
 have el:∀ K,dLen Tryz.prog #[22] v K=some (.int .i64 (l.length:Nat)):=hb.lens (P:=Tryz.prog) (ts:=#[22]) (t:=22) rfl d6a
 have hz:storeAt H h.next 0 [.int .i64 0,.int .i64 0,.int .i64 0,.int .i64 0,.int .i64 0]=some H:=by
  rw[ZJ g (Nat.le_of_ble_eq_true rfl) rfl]
  exact congrArg some (n3a g)
 have hneg:¬ ((i:Nat):Int)<0:=by omega
 by_cases h0:((l.length:Nat):Int)≤(i:Nat)
 ·have h0':=eq_true h0
  simp -implicitDefEqProofs (disch:=first|omega|simp only[go_sem]) only[go_sem,true_and,c58,← hH,hneg,h0',el,Zj,ZY,w2a,hz]
  refine t1a (d5a (n:=0) (e:=130) vz vz vz g) ⟨?_,hE⟩
  rw[XY,if_pos (by omega)]
 have hil:i<l.length:=by omega
 obtain ⟨id0,o0,ia0,lb0,r0,r1⟩:=b2a hb hil
 obtain ⟨op,hop⟩:∃ op,l.getD i 0=op:=⟨_,rfl⟩
 rw[hop]at lb0 r0 r1
 have hw0:IntKind.i64.wrap op=op:=ZQ (by omega) (by omega)
 simp -implicitDefEqProofs (disch:=first|omega|simp only[go_sem]) only[go_sem,true_and,c58,← hH,hneg,h0,el,Zj,ZY,ia0,lb0 H hE,hw0]
 refine YV L2b ?_
 have hs:=o6a op
 have hwl:IntKind.i64.wrap ((l.length:Int) - (i:Nat))=(l.length:Int) - (i:Nat):=ZQ (by omega) (by omega)
 by_cases h1:Xv op=0
 ·have h1':=eq_true h1
  simp -implicitDefEqProofs (disch:=first|omega|simp only[go_sem]) only[go_sem,true_and,h1',Zj,ZY,w2a,hz]
  refine t1a (d5a (n:=0) (e:=130) vz vz vz g) ⟨?_,hE⟩
  rw[XY,if_neg (by omega),hop,if_pos (.inl h1)]
 by_cases h2:(l.length:Int) - (i:Nat)<Xv op
 ·have h2':=eq_true h2
  simp -implicitDefEqProofs (disch:=first|omega|simp only[go_sem]) only[go_sem,true_and,h1,hwl,h2',el,Zj,ZY,w2a,hz]
  refine t1a (d5a (n:=0) (e:=130) vz vz vz g) ⟨?_,hE⟩
  rw[XY,if_neg (by omega),hop,if_pos (.inr h2)]
 obtain ⟨w1,w2,w3,w4⟩:=O7a h1
 have hT:XY l i=if o1a (Xx l i)=0 then (Xx l i,i+Xv op,0) else (L0a,0,o1a (Xx l i)):=by
  rw[XY,if_neg (by omega),hop,if_neg (by omega)]
 have hsz:Xv op=1+(if Xq op then 1 else 0)+(if Wq op then 1 else 0)+V0a op:=by unfold V0a;omega
 have cI:∀ x,Zu (H.push (.row (fInstr.enc x) 0 false)) H.next 1=some (.int .i64 x.op):=fun x=>Zy (Zz _ _)
 have cI4:∀ x,Zu (H.push (.row (fInstr.enc x) 0 false)) H.next 4=some (.int .i64 x.imm):=fun x=>Zy (Zz _ _)
 have hEP:∀ o,Ext h (H.push o):=fun o=>hE.push o
 have sI:∀ (x:Instr) (j:Nat) (n:Int),j<5→storeAt (H.push (.row (fInstr.enc x) 0 false)) H.next j [.int .i64 n]=some ((H.push (.row (fInstr.enc x) 0 false)).set H.next (.row (Xy (fInstr.enc x) j [.int .i64 n]) 0 false)):=fun x j n hj=>ZJ (Zz _ _) (by rw[fInstr.len];exact hj) rfl
 have lc:∀ x,Zx (H.push (.row (fInstr.enc x) 0 false)) H.next 0 5=some (XJ x):=fun x=>by rw[Zw (Zz _ _) (Nat.le_of_ble_eq_true rfl)];rfl
 have hw1:IntKind.i64.wrap ((i:Int)+1)=((i+1:Nat):Int):=by rw[ZQ (by omega) (by omega)];omega
 have hst5:∀ a b c d e:Int,storeAt (H.push (.row [.int .i64 0,.int .i64 0,.int .i64 0,.int .i64 0,.int .i64 0] 0 false)) H.next 0 [.int .i64 a,.int .i64 b,.int .i64 c,.int .i64 d,.int .i64 e]=some (H.push (.row (fInstr.enc ⟨a,b,c,d,e⟩) 0 false)):=fun a b c d e=>Q6a rfl
 simp -implicitDefEqProofs (disch:=first|omega|simp only[go_sem]) only[go_sem,true_and,h1,hwl,h2,el,Zj,ZY,ia0,lb0 H hE,hw0,i2b,hst5,hw1,cI]
 refine YV T1b ?_
 simp -implicitDefEqProofs (disch:=first|omega|simp only[go_sem]) only[go_sem,true_and]
 obtain ⟨k2,hk2⟩:∃ k2,k2=i+1+if Xq op then 1 else 0:=⟨_,rfl⟩
 obtain ⟨xa,hxa⟩:∃ xa,xa=if Xq op then l.getD (i+1) 0 else 0:=⟨_,rfl⟩
 refine R6a (c8b h.next H v i op xa 0 0 (k2:Nat)) (fun hf=>?_) (fun hf=>?_) ?_
 ·rw[hf]at hk2 hxa hsz
  simp only[if_true]at hk2 hxa hsz
  obtain ⟨id1,o1,ia1,lb1,q0,q1⟩:=b2a hb (i:=i+1) (by omega)
  rw[← hxa]at lb1 q0 q1
  have hwa:IntKind.i64.wrap xa=xa:=ZQ (by omega) (by omega)
  have hw2:IntKind.i64.wrap (((i+1:Nat):Int)+1)=((k2:Nat):Int):=by rw[ZQ (by omega) (by omega)];omega
  simp -implicitDefEqProofs (disch:=first|omega|simp only[go_sem]) only[go_sem,true_and,ia1,lb1 _ (hEP _),hwa,sI,hw2]
  exact ⟨rfl,rfl,vz,vz,vz,vz,vz,vz,u0a _ _ _⟩
 ·rw[hf]at hk2 hxa hsz
  simp only[Bool.false_eq_true,if_false]at hk2 hxa hsz
  simp -implicitDefEqProofs (disch:=first|omega|simp only[go_sem]) only[go_sem,true_and]
  exact ⟨rfl,rfl,vz,vz,vz,vz,vz,by rw[hk2];simp -implicitDefEqProofs (disch:=first|omega|simp only[go_sem]) only[go_sem,true_and],by rw[hxa]⟩
 rintro ⟨fr,df,K,rd⟩ ⟨rfl,rfl,f0,f1,f4,f7,f8,f9,hK⟩
 simp only at f0 f1 f4 f7 f8 f9 hK
 subst hK
 simp -implicitDefEqProofs (disch:=first|omega|simp only[go_sem]) only[go_sem,true_and,f8,cI]
 refine YV J9b ?_
 simp -implicitDefEqProofs (disch:=first|omega|simp only[go_sem]) only[go_sem,true_and]
 obtain ⟨k3,hk3⟩:∃ k3,k3=k2+if Wq op then 1 else 0:=⟨_,rfl⟩
 obtain ⟨xb,hxb⟩:∃ xb,xb=if Wq op then l.getD k2 0 else 0:=⟨_,rfl⟩
 have hk2l:(k2:Int)+(if Wq op then 1 else 0)+V0a op=i+Xv op:=by
  rw[hk2,hsz]
  split <;> simp <;> omega
 refine R6a (c8b h.next H v i op xa xb 0 (k3:Nat)) (fun hf=>?_) (fun hf=>?_) ?_
 ·rw[hf]at hk3 hxb hk2l
  simp only[if_true]at hk3 hxb hk2l
  obtain ⟨id1,o1,ia1,lb1,q0,q1⟩:=b2a hb (i:=k2) (by omega)
  rw[← hxb]at lb1 q0 q1
  have hwa:IntKind.i64.wrap xb=xb:=ZQ (by omega) (by omega)
  have hw2:IntKind.i64.wrap ((k2:Int)+1)=((k3:Nat):Int):=by rw[ZQ (by omega) (by omega)];omega
  simp -implicitDefEqProofs (disch:=first|omega|simp only[go_sem]) only[go_sem,true_and,f0,f8,f9,ia1,lb1 _ (hEP _),hwa,sI,hw2]
  exact ⟨rfl,rfl,(vy f0),(vy f1),(vy f4),(vy f7),(vy f8),vz,u0a _ _ _⟩
 ·rw[hf]at hk3 hxb
  simp only[Bool.false_eq_true,if_false]at hk3 hxb
  simp -implicitDefEqProofs (disch:=first|omega|simp only[go_sem]) only[go_sem,true_and]
  exact ⟨rfl,rfl,(vy f0),(vy f1),(vy f4),(vy f7),(vy f8),by rw[hk3];simp -implicitDefEqProofs (disch:=first|omega|simp only[go_sem]) only[go_sem,true_and,f9],by rw[hxb]⟩
 clear f0 f1 f4 f7 f8 f9 fr
 rintro ⟨fr,df,K,rd⟩ ⟨rfl,rfl,f0,f1,f4,f7,f8,f9,hK⟩
 simp only at f0 f1 f4 f7 f8 f9 hK
 subst hK
 simp -implicitDefEqProofs (disch:=first|omega|simp only[go_sem]) only[go_sem,true_and,f8,cI]
 refine YV O2c ?_
 have hk3l:(k3:Int)+V0a op=i+Xv op:=by
  rw[← hk2l,hk3]
  split <;> simp
 obtain ⟨w,hw⟩:∃ w,V0a op=w:=⟨_,rfl⟩
 rw[hw]at w1 w2 hk3l
 rw[hw]
 have hone:Xx l i=⟨(i:Nat),op,xa,xb,d3a op w (l.getD k3 0) (l.getD (k3+1) 0)⟩:=by
  unfold Xx
  simp only[hop,← hxa,← hk2,← hxb,← hk3,hw]
 obtain ⟨x,hx⟩:∃ x,l.getD k3 0=x:=⟨_,rfl⟩
 obtain ⟨y,hy⟩:∃ y,l.getD (k3+1) 0=y:=⟨_,rfl⟩
 rw[hx,hy]at hone
 simp -implicitDefEqProofs (disch:=first|omega|simp only[go_sem]) only[go_sem,true_and]
 refine T3b (fun s=>c8b h.next H v i op xa xb (if 1≤w then x else 0) (k3:Nat) s∧s.fr 10=some (.int .i64 w)) (fun hf=>?_) (fun hf=>?_) ?_
 ·rw[if_pos hf]
  obtain ⟨id1,o1,ia1,lb1,q0,q1⟩:=b2a hb (i:=k3) (by omega)
  rw[hx]at lb1 q0 q1
  have hwa:IntKind.i64.wrap x=x:=ZQ (by omega) (by omega)
  simp -implicitDefEqProofs (disch:=first|omega|simp only[go_sem]) only[go_sem,true_and,f0,f8,f9,ia1,lb1 _ (hEP _),hwa,sI]
  exact ⟨⟨rfl,rfl,(vy f0),(vy f1),(vy f4),(vy f7),(vy f8),(vy f9),u0a _ _ _⟩,vz⟩
 ·rw[if_neg hf]
  simp -implicitDefEqProofs (disch:=first|omega|simp only[go_sem]) only[go_sem,true_and]
  exact ⟨⟨rfl,rfl,(vy f0),(vy f1),(vy f4),(vy f7),(vy f8),(vy f9),rfl⟩,vz⟩
 clear f0 f1 f4 f7 f8 f9 fr
 rintro ⟨fr,df,K,rd⟩ ⟨⟨rfl,rfl,f0,f1,f4,f7,f8,f9,hK⟩,f10⟩
 simp only at f0 f1 f4 f7 f8 f9 hK f10
 subst hK
 simp -implicitDefEqProofs (disch:=first|omega|simp only[go_sem]) only[go_sem,true_and,f10]
 refine T3b (c8b h.next H v i op xa xb (d3a op w x y) (k3:Nat)) (fun hf=>?_) (fun hf=>?_) ?_
 ·have h1w:1≤w:=by omega
  rw[if_pos h1w]
  obtain ⟨id1,o1,ia1,lb1,q0,q1⟩:=b2a hb (i:=k3+1) (by omega)
  rw[hy]at lb1 q0 q1
  obtain ⟨_,_,_,_,p0,p1⟩:=b2a hb (i:=k3) (by omega)
  rw[hx]at p0 p1
  have hwa:IntKind.i64.wrap y=y:=ZQ (by omega) (by omega)
  have hwb:IntKind.i64.wrap (256*y)=256*y:=ZQ (by omega) (by omega)
  have hwc:IntKind.i64.wrap (x+256*y)=x+256*y:=ZQ (by omega) (by omega)
  have hwd:IntKind.i64.wrap (x+256*y - 65536)=x+256*y - 65536:=ZQ (by omega) (by omega)
  have hwk:IntKind.i64.wrap ((k3:Int)+1)=((k3+1:Nat):Int):=by rw[ZQ (by omega) (by omega)];omega
  have hsp:∀ a b,(H.push (.row (fInstr.enc a) 0 false)).set H.next (.row (fInstr.enc b) 0 false)=H.push (.row (fInstr.enc b) 0 false):=fun a b=>u0a _ _ _
  have s4:∀ n m,storeAt (H.push (.row (fInstr.enc ⟨(i:Nat),op,xa,xb,n⟩) 0 false)) H.next 4 [.int .i64 m]=some (H.push (.row (fInstr.enc ⟨(i:Nat),op,xa,xb,m⟩) 0 false)):=fun n m=>by
   rw[sI _ 4 m (by decide)]
   exact congrArg some (u0a _ _ _)
  simp -implicitDefEqProofs (disch:=first|omega|simp only[go_sem]) only[go_sem,true_and]
  refine G0d ?_
  simp -implicitDefEqProofs (disch:=first|omega|simp only[go_sem]) only[go_sem,true_and,l58_0,f0,f8,f9,cI4,hwk,ia1,lb1 _ (hEP _),hwa,hwb,hwc,s4]
  by_cases h1c:op=1
  ·by_cases h2c:32768≤x+256*y
   ·have e1:=eq_true h1c
    have e2:=eq_true h2c
    simp -implicitDefEqProofs (disch:=first|omega|simp only[go_sem]) only[go_sem,true_and,f8,cI,cI4,e1,e2,Zj,ZY,hwd,s4]
    refine ⟨rfl,rfl,(vy f0),(vy f1),(vy f4),(vy f7),(vy f8),(vy f9),?_⟩
    rw[d3a,if_pos hf,if_pos ⟨h1c,h2c⟩]
   ·have e1:=eq_true h1c
    simp -implicitDefEqProofs (disch:=first|omega|simp only[go_sem]) only[go_sem,true_and,f8,cI,cI4,e1,h2c,Zj,ZY]
    refine ⟨rfl,rfl,(vy f0),(vy f1),(vy f4),(vy f7),(vy f8),(vy f9),?_⟩
    rw[d3a,if_pos hf,if_neg (fun hh=>h2c hh.2)]
  ·simp -implicitDefEqProofs (disch:=first|omega|simp only[go_sem]) only[go_sem,true_and,f8,cI,cI4,h1c,Zj,ZY]
   refine ⟨rfl,rfl,(vy f0),(vy f1),(vy f4),(vy f7),(vy f8),(vy f9),?_⟩
   rw[d3a,if_pos hf,if_neg (fun hh=>h1c hh.1)]
 ·simp -implicitDefEqProofs (disch:=first|omega|simp only[go_sem]) only[go_sem,true_and]
  refine ⟨rfl,rfl,(vy f0),(vy f1),(vy f4),(vy f7),(vy f8),(vy f9),?_⟩
  rw[d3a,if_neg hf]
 clear f0 f1 f4 f7 f8 f9 f10 fr
 rintro ⟨fr,df,K,rd⟩ ⟨rfl,rfl,f0,f1,f4,f7,f8,f9,hK⟩
 simp only at f0 f1 f4 f7 f8 f9 hK
 subst hK
 rw[← hone]at *
 simp -implicitDefEqProofs (disch:=first|omega|simp only[go_sem]) only[go_sem,true_and,f8,lc]
 refine YV u9b ?_
 simp -implicitDefEqProofs (disch:=first|omega|simp only[go_sem]) only[go_sem,true_and]
 have g':(H.push (.row (fInstr.enc (Xx l i)) 0 false)).get h.next=some (.row (fInstr.enc L0a) 0 false):=(ZU _ _ (by omega)).trans g
 have hst:∀ x:Instr,storeAt (H.push (.row (fInstr.enc (Xx l i)) 0 false)) h.next 0 [.int .i64 x.pos,.int .i64 x.op,.int .i64 x.a,.int .i64 x.b,.int .i64 x.imm]=some ((H.push (.row (fInstr.enc (Xx l i)) 0 false)).set h.next (.row (fInstr.enc x) 0 false)):=fun x=>l1a g' rfl rfl
 by_cases he:o1a (Xx l i)=0
 ·have he':=eq_true he
  have hwe:IntKind.i64.wrap ((i:Int)+Xv op)=i+Xv op:=ZQ (by omega) (by omega)
  simp -implicitDefEqProofs (disch:=first|omega|simp only[go_sem]) only[go_sem,true_and,he',f8,f1,f7,lc,hwe,f4,hst]
  refine t1a (d5a (x:=Xx l i) (n:=i+Xv op) (e:=0) (vy f4) vz vz (ZX _ _)) ⟨?_,(hEP _).set (by omega)⟩
  rw[hT,if_pos he]
 ·simp -implicitDefEqProofs (disch:=first|omega|simp only[go_sem]) only[go_sem,true_and,he,w2a,f4,hst L0a]
  refine t1a (d5a (x:=L0a) (n:=0) (e:=o1a (Xx l i)) (vy f4) vz vz (ZX _ _)) ⟨?_,(hEP _).set (by omega)⟩
  rw[hT,if_neg he]
def formL:List Int:=[0,9,5,5,5,5,4,3,3,3,3,3,3,3,3,3,3,3,3,5,3,3,16,17,1,4,7,7]
def o4a (a b:Int):Int:=IntKind.i64.wrap (BitVec.ofInt IntKind.i64.bits a &&& BitVec.ofInt IntKind.i64.bits b).toNat
theorem L4a {P:Program} {t:TypeId} {ox oy:Operand} {a b:Int} {h:DHeap}:Yz P .and t ox oy (.int .i64 a) (.int .i64 b) h=.ok (.value (.int .i64 (o4a a b))) h:=bin_and
theorem R9c:V6a Tryz.prog 236=some (28,1):=by kernel_rfl
theorem S9c:V6a Tryz.prog 234=some (2,1):=by kernel_rfl
theorem c3c {S:Nat→Prop} {n:Int} {b:Bool}:VIn S (.tuple #[.int .i64 n,.bool b]):=by
 refine .tuple fun v hv=>?_
 simp only[List.mem_toArray,List.mem_cons,List.not_mem_nil,or_false]at hv
 rcases hv with rfl | rfl
 ·exact .int _ _
 ·exact .bool _
abbrev formV:List Value:=formL.map (.int .i64 ·)
theorem b7b:XW Tryz.prog 236 [(0,.int .i64 0),(1,.int .i64 9),(2,.int .i64 5),(3,.int .i64 5),(4,.int .i64 5),(5,.int .i64 5),(6,.int .i64 4),(7,.int .i64 3),(8,.int .i64 3),(9,.int .i64 3),(10,.int .i64 3),(11,.int .i64 3),(12,.int .i64 3),(13,.int .i64 3),(14,.int .i64 3),(15,.int .i64 3),(16,.int .i64 3),(17,.int .i64 3),(18,.int .i64 3),(19,.int .i64 5),(20,.int .i64 3),(21,.int .i64 3),(22,.int .i64 16),(23,.int .i64 17),(24,.int .i64 1),(25,.int .i64 4),(26,.int .i64 7),(27,.int .i64 7)]=some (.agg formV.toArray):=by kernel_rfl
theorem l1c {h:DHeap} {n:Nat}:DC Tryz.prog 153 [.int .i64 (n:Nat)] h (.ret (.tuple #[.int .i64 (formL.getD n 0),.bool (decide (n<28))])) h:=by
 refine Ct.pure (Y5d (by simp) ?_) c3c
 have hst:∀ cs:List Value,cs.length=28→storeAt (h.push (.row cs 1 false)) h.next 0 formV=some (h.push (.row formV 1 false)):=fun cs hl=>a0a (by rw[hl];rfl) rfl
 have hs:∀ K,Yw Tryz.prog 236 (.pointer (some ⟨h.next,0,none⟩)) (.agg formV.toArray) K=storeAt K h.next 0 formV:=fun K=>X2c rfl
 have hc:∀ o,Zu (h.push (.row formV 1 false)) h.next o=formV[o]?:=fun o=>Zy (Zz _ _)
 have hneg:¬ ((n:Nat):Int)<0:=by omega
 by_cases hn:(28:Int)≤(n:Nat)
 ·have hn':=eq_true hn
  simp -implicitDefEqProofs (disch:=first|omega|simp only[go_sem]) only[go_sem,true_and,T3c,b7b,hs,hst,hneg,hn',Zj,ZY]
  refine ⟨_,rfl,?_,Ext.push1 _ _⟩
  rw[decide_eq_false (by omega),List.getD_eq_getElem?_getD,List.getElem?_eq_none (by simp[formL];omega)]
  rfl
 ·have hia:Yj Tryz.prog 236 (.pointer (some ⟨h.next,0,none⟩)) (.int .i64 (n:Nat))=some (.pointer (some ⟨h.next,n,none⟩)):=by
   rw[N4a R9c (by omega) (by omega)]
   simp
  have hl:formV[n]? = some (.int .i64 (formL.getD n 0)):=by
   have h28:n<formL.length:=by simp[formL];omega
   rw[List.getElem?_map,List.getElem?_eq_getElem h28,List.getD_eq_getElem?_getD,List.getElem?_eq_getElem h28]
   rfl
  simp -implicitDefEqProofs (disch:=first|omega|simp only[go_sem]) only[go_sem,true_and,T3c,b7b,hs,hst,hneg,hn,Zj,ZY,hia,hc,hl]
  refine ⟨_,rfl,?_,Ext.push1 _ _⟩
  rw[decide_eq_true (by omega)]
def masks:List (Int × Int):=[(1,1),(2,1),(4,1),(8,2),(16,2)]
def G1a (f:Int) (l:List (Int × Int)):Int:=l.foldl (fun n x=>if o4a f x.1=0 then n else n+x.2) 1
theorem s6d:∀ i:Nat,i<5→k5a Tryz.prog 235 (.agg #[.int .i64 1,.int .i64 1,.int .i64 2,.int .i64 1,.int .i64 4,.int .i64 1,.int .i64 8,.int .i64 2,.int .i64 16,.int .i64 2]) (.int .i64 (i:Nat))=some (.agg #[.int .i64 (masks.getD i (0,0)).1,.int .i64 (masks.getD i (0,0)).2])
 | 0,_=>by kernel_rfl
 | 1,_=>by kernel_rfl
 | 2,_=>by kernel_rfl
 | 3,_=>by kernel_rfl
 | 4,_=>by kernel_rfl
theorem X9c {a b:Int}:XW Tryz.prog 234 [(0,.int .i64 a),(1,.int .i64 b)]=some (.agg #[.int .i64 a,.int .i64 b]):=by kernel_rfl
theorem G3c:XW Tryz.prog 235 [(0,.agg #[.int .i64 1,.int .i64 1]),(1,.agg #[.int .i64 2,.int .i64 1]),(2,.agg #[.int .i64 4,.int .i64 1]),(3,.agg #[.int .i64 8,.int .i64 2]),(4,.agg #[.int .i64 16,.int .i64 2])]=some (.agg #[.int .i64 1,.int .i64 1,.int .i64 2,.int .i64 1,.int .i64 4,.int .i64 1,.int .i64 8,.int .i64 2,.int .i64 16,.int .i64 2]):=by kernel_rfl
theorem z7b {id k:Nat} (hk:k<2):Yj Tryz.prog 234 (.pointer (some ⟨id,0,none⟩)) (.int .i64 (k:Nat))=some (.pointer (some ⟨id,k,none⟩)):=by
 rw[N4a S9c (by omega) (by omega)]
 simp
theorem P6b {f:Int} {i:Nat} (hi:i<5):G1a f (masks.take (i+1))=if o4a f (masks.getD i (0,0)).1=0 then G1a f (masks.take i) else G1a f (masks.take i)+(masks.getD i (0,0)).2:=by
 unfold G1a
 have hl:i<masks.length:=hi
 rw[List.take_succ_eq_append_getElem hl,List.foldl_append,List.getD_eq_getElem?_getD,List.getElem?_eq_getElem hl]
 rfl
theorem T2b (f:Int) (i:Nat):1≤G1a f (masks.take i)∧G1a f (masks.take i)≤8:=by
 match i with
 | 0=>simp[G1a]
 | 1=>simp[G1a,masks];split <;> omega
 | 2=>simp[G1a,masks];repeat' split
      all_goals omega
 | 3=>simp[G1a,masks];repeat' split
      all_goals omega
 | 4=>simp[G1a,masks];repeat' split
      all_goals omega
 | i+5=>simp[G1a,masks];repeat' split
        all_goals omega
def o1b (n:Nat):Int:=if n<28 then G1a (formL.getD n 0) masks else 0
theorem b7d {h:DHeap} {n:Nat}:DC Tryz.prog 152 [.int .i64 (n:Nat)] h (.ret (.tuple #[.int .i64 (o1b n),.bool (decide (n<28))])) h:=by
 refine Ct.pure (X5d (by simp) ?_) c3c
 simp -implicitDefEqProofs (disch:=first|omega|simp only[go_sem]) only[go_sem,true_and,x4d]
 refine YV l1c ?_
 by_cases hn:n<28
 case neg=>
  have hd:=decide_eq_false hn
  simp -implicitDefEqProofs (disch:=first|omega|simp only[go_sem]) only[go_sem,true_and,hd]
  exact ⟨_,rfl,by simp[o1b,hn],.refl _⟩
 have hd:=decide_eq_true hn
 obtain ⟨f,hf⟩:∃ f,formL.getD n 0=f:=⟨_,rfl⟩
 rw[hf]
 simp -implicitDefEqProofs (disch:=first|omega|simp only[go_sem]) only[go_sem,true_and,hd,X9c,G3c]
 refine Xu (σ:=Nat) (by kernel_rfl) (fun i s=>s.df=[]∧s.fr 4=some (.int .i64 f)∧s.fr 6=some (.int .i64 (G1a f (masks.take i)))∧s.fr 21=some (.agg #[.int .i64 1,.int .i64 1,.int .i64 2,.int .i64 1,.int .i64 4,.int .i64 1,.int .i64 8,.int .i64 2,.int .i64 16,.int .i64 2])∧s.fr 22=some (.int .i64 (i:Nat))∧i≤5∧Ext h s.h) (fun i=>5 - i) 0 ?_ ?_
 ·simp -implicitDefEqProofs (disch:=first|omega|simp only[go_sem]) only[go_sem,true_and]
  exact ⟨rfl,rfl,Nat.zero_le _,.refl _⟩
 ·rintro i ⟨fr,df,K,rd⟩ K' hK' hX ⟨rfl,f4,f6,f21,f22,hi,hE⟩
  simp only at f4 f6 f21 f22 hE
  simp -implicitDefEqProofs (disch:=first|omega|simp only[go_sem]) only[go_sem,true_and,f22]
  refine YX (fun hc1=>?_) (fun hc1=>?_)
  ·have hi5:i<5:=by omega
   have hx:=s6d i hi5
   have hsu:=P6b (f:=f) hi5
   have hle:=T2b f i
   have hle2:=T2b f (i+1)
   obtain ⟨a,ha⟩:∃ a,(masks.getD i (0,0)).1=a:=⟨_,rfl⟩
   obtain ⟨b,hb⟩:∃ b,(masks.getD i (0,0)).2=b:=⟨_,rfl⟩
   rw[ha,hb]at hx hsu
   obtain ⟨K1,hK1⟩:∃ K1,K1=K.push (.row [.int .i64 a,.int .i64 b] 1 false):=⟨_,rfl⟩
   have g:K1.get K.next=some (.row [.int .i64 a,.int .i64 b] 1 false):=by rw[hK1];exact Zz _ _
   have c0:Zu K1 K.next 0=some (.int .i64 a):=Zy g
   have c1:Zu K1 K.next 1=some (.int .i64 b):=Zy g
   have hst:storeAt (K.push (.row [.int .i64 0,.int .i64 0] 1 false)) K.next 0 [.int .i64 a,.int .i64 b]=some K1:=by rw[hK1];exact a0a rfl rfl
   have i0:Yj Tryz.prog 234 (.pointer (some ⟨K.next,0,none⟩)) (.int .i64 0)=some (.pointer (some ⟨K.next,0,none⟩)):=z7b (id:=K.next) (k:=0) (by decide)
   have i1:Yj Tryz.prog 234 (.pointer (some ⟨K.next,0,none⟩)) (.int .i64 1)=some (.pointer (some ⟨K.next,1,none⟩)):=z7b (id:=K.next) (k:=1) (by decide)
   have hE1:Ext h K1:=by rw[hK1];exact hE.push _
   have hw1:=ZV hi5 (by omega)
   simp -implicitDefEqProofs (disch:=first|omega|simp only[go_sem]) only[go_sem,true_and,f21,f22,hx,hst,f4,i0,c0,↓L4a]
   by_cases hz:o4a f a=0
   ·have hz':=eq_true hz
    rw[if_pos hz]at hsu
    simp -implicitDefEqProofs (disch:=first|omega|simp only[go_sem]) only[go_sem,true_and,hz',f22,hw1]
    refine hK' (i+1) _ ?_ (by omega)
    exact ⟨by trivial,(vy f4),by rw[hsu];simp -implicitDefEqProofs (disch:=first|omega|simp only[go_sem]) only[go_sem,true_and,f6],(vy f21),vz,by omega,hE1⟩
   ·rw[if_neg hz]at hsu
    have hwz:IntKind.i64.wrap (G1a f (masks.take i)+b)=G1a f (masks.take (i+1)):=by rw[← hsu];exact ZQ (by omega) (by omega)
    simp -implicitDefEqProofs (disch:=first|omega|simp only[go_sem]) only[go_sem,true_and,hz,f22,f6,hw1,i1,c1,hwz]
    refine hK' (i+1) _ ?_ (by omega)
    exact ⟨by trivial,(vy f4),vz,(vy f21),vz,by omega,hE1⟩
  ·obtain rfl:i=5:=by omega
   refine hX _ _ (by simp) ?_
   simp -implicitDefEqProofs (disch:=first|omega|simp only[go_sem]) only[go_sem,true_and,f6]
   refine ⟨_,rfl,?_,hE⟩
   rw[o1b,if_pos hn,hf]
   rfl
end Go.Proofs.YtheamfnbfgiaeaaGreat
