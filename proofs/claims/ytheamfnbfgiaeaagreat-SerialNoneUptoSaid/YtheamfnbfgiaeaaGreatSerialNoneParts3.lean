/-
SerialNone: for every input of bulk at most 1048576 the law returns true, and the input reads as it did. Conditions: none.
-/
import Derived.Test.YtheamfnbfgiaeaaGreatRows
import Derived.WalkKit
import Derived.ProofKit
import Derived.OpenShut
import Derived.JoinedCond
import Derived.Test.YtheamfnbfgiaeaaGreatBase1
import Derived.Test.YtheamfnbfgiaeaaGreatBase2
import Derived.Test.YtheamfnbfgiaeaaGreatSerialNoneParts1
import Derived.Test.YtheamfnbfgiaeaaGreatSerialNoneParts2
set_option linter.unusedSimpArgs false
set_option linter.unusedVariables false
set_option linter.defProp false
namespace Go.Proofs.YtheamfnbfgiaeaaGreat
open Go.D
set_option maxRecDepth 100000
def F1d (m:List Cell) (k:Key):Nat:=(m.takeWhile fun c=>YQ c.k k).length
def t5d (m:List Cell) (k:Key):Bool:=match m[F1d m k]? with
 | some c=>decide (c.k=k)
 | none=>false
def T5a (k:Key):List Cell→List Cell
 | []=>[]
 | y :: r=>if YQ y.k k=true then y :: T5a k r else if y.k=k then r else y :: r
theorem U5a {k:Key}:∀ {m:List Cell},UpB Cell.k m→T5a k m=m.filter fun c=>!decide (c.k=k)
 | [],_=>rfl
 | y :: r,h=>by
   obtain ⟨hy,hr⟩:=List.pairwise_cons.1 h
   unfold T5a
   by_cases h1:YQ y.k k=true
   ·have hne:y.k≠k:=fun e=>by rw[e,m1a]at h1;cases h1
    rw[if_pos h1,U5a hr,List.filter_cons_of_pos (by simp[hne])]
   ·have rest:∀ c∈r,c.k≠k:=fun c hc e=>h1 (by rw[← e];exact hy c hc)
    have hf:(r.filter fun c=>!decide (c.k=k))=r:=List.filter_eq_self.2 fun c hc=>by simp[rest c hc]
    rw[if_neg h1]
    by_cases e:y.k=k
    ·rw[if_pos e,List.filter_cons_of_neg (by simp[e]),hf]
    ·rw[if_neg e,List.filter_cons_of_pos (by simp[e]),hf]
theorem S5b {k:Key} {m:List Cell} (h:UpB Cell.k m):UpB Cell.k (T5a k m):=by rw[U5a h];exact h.filter _
theorem G3a {m:List Cell} (h:UpB Cell.k m) {k:Key} {c:Cell}:Yv Cell.k m k=some c↔c∈m∧c.k=k:=by
 constructor
 ·exact h0a
 ·rintro ⟨h1,rfl⟩
  exact (q1b h).2 h1
def L5a (m:List Cell) (keys:List Key):List Pair:=m.filterMap fun c=>if c.k∈keys then some ⟨c.k,c.v⟩ else none
def d3a (m:List Cell) (keys:List Key):List Pair:=keys.filterMap fun k=>(Yv Cell.k m k).map fun c=>⟨k,c.v⟩
def Q5a (slot:Int) (m:List Cell) (c:Change):List Cell:=if c.e then T5a c.k m else X3a Cell.k ⟨c.k,c.v,slot⟩ m
def W6a (t:Txn) (m:List Cell):s2b:=b4a t (L5a m t.reads) 4096
def S1a (t:Txn) (slot place:Int) (m:List Cell):Res:=⟨(W6a t m).e,(W6a t m).vs,slot,place⟩
def K5a (t:Txn) (slot:Int) (m:List Cell):List Cell:=if (W6a t m).e=0 then (W6a t m).ch.foldl (Q5a slot) m else m
theorem W3c {m:List Cell} {keys:List Key} (h:UpB Cell.k m):UpB Pair.k (L5a m keys):=by
 unfold L5a UpB
 rw[List.pairwise_filterMap]
 refine h.imp fun {a b} hab x hx y hy=>?_
 split at hx
 ·split at hy
  ·cases hx;cases hy;exact hab
  ·cases hy
 ·cases hx
theorem w0c {m:List Cell} (h:UpB Cell.k m) {keys:List Key} {p:Pair}:p∈L5a m keys↔p.k∈keys∧∃ c,Yv Cell.k m p.k=some c∧c.v=p.v:=by
 unfold L5a
 rw[List.mem_filterMap]
 constructor
 ·rintro ⟨c,hc,hp⟩
  split at hp
  ·rename_i hk
   cases hp
   exact ⟨hk,c,(G3a h).2 ⟨hc,rfl⟩,rfl⟩
  ·cases hp
 ·rintro ⟨hk,c,hc,hv⟩
  obtain ⟨h1,h2⟩:=(G3a h).1 hc
  refine ⟨c,h1,?_⟩
  rw[if_pos (by rw[h2];exact hk),h2,hv]
theorem W4b {m:List Cell} {keys:List Key} {p:Pair}:Yv Pair.k (d3a m keys) p.k=some p↔p.k∈keys∧∃ c,Yv Cell.k m p.k=some c∧c.v=p.v:=by
 induction keys using U6a with
 | h0=>simp[d3a,Yv]
 | h1 l k ih=>
   have hs:d3a m (l++[k])=d3a m l++match Yv Cell.k m k with | some c=>[⟨k,c.v⟩] | none=>[]:=by
    unfold d3a
    rw[List.filterMap_append]
    congr 1
    cases hq:Yv Cell.k m k with
    | none=>simp[hq]
    | some c=>simp[hq]
   rw[hs]
   cases hq:Yv Cell.k m k with
   | none=>
     simp only[List.append_nil]
     rw[ih,List.mem_append,List.mem_singleton]
     constructor
     ·rintro ⟨a,b⟩;exact ⟨.inl a,b⟩
     ·rintro ⟨a | a,c,b,d⟩
      ·exact ⟨a,c,b,d⟩
      ·rw[a,hq]at b;cases b
   | some c=>
     simp only
     rw[P9a,List.mem_append,List.mem_singleton]
     by_cases hk:k=p.k
     ·rw[if_pos hk]
      constructor
      ·intro e
       cases e
       exact ⟨.inr rfl,c,hq,rfl⟩
      ·rintro ⟨_,c',b,d⟩
       rw[← hk,hq]at b
       cases b
       cases p
       simp only at hk d
       rw[hk,d]
     ·rw[if_neg hk,ih]
      constructor
      ·rintro ⟨a,b⟩;exact ⟨.inl a,b⟩
      ·rintro ⟨a | a,b⟩
       ·exact ⟨a,b⟩
       ·exact absurd a.symm hk
theorem H7b {t:Txn} {m:List Cell} (h:UpB Cell.k m):Q2a t (d3a m t.reads)=Q2a t (L5a m t.reads):=by
 unfold Q2a
 congr 1
 refine l0b (h5a _) (h5a _) fun p=>?_
 rw[H3a,W4b,G8b (W3c h),w0c h]
theorem Y0c {t:Txn} {m:List Cell} (h:UpB Cell.k m):b4a t (d3a m t.reads) 4096=W6a t m:=Q7b (H7b h)
theorem l1c {m:List Cell} {keys:List Key}:(d3a m keys).length≤keys.length:=List.length_filterMap_le _ _
def CelM (mm:List (Key × Value)) (m:List Cell):Prop:=(mm.map (·.1)).Nodup∧UpB Cell.k m∧∀ k,Ww mm k=(Yv Cell.k m k).map U0a
theorem CelM.nil:CelM [] []:=⟨by simp,List.Pairwise.nil,fun k=>rfl⟩
theorem k0c {m:List Cell} {x:Cell} (h:UpB Cell.k m) {k:Key}:Yv Cell.k (X3a Cell.k x m) k=if k=x.k then some x else Yv Cell.k m k:=by
 have hu:=H0b (key:=Cell.k) (x:=x) h
 refine Option.ext fun c=>?_
 rw[G3a hu,h9a h]
 by_cases hk:k=x.k
 ·rw[if_pos hk,Option.some.injEq]
  constructor
  ·rintro ⟨h1 | h1,h2⟩
   ·exact h1.symm
   ·exact absurd (h2.trans hk) h1.2
  ·rintro rfl
   exact ⟨.inl rfl,hk.symm⟩
 ·rw[if_neg hk,G3a h]
  constructor
  ·rintro ⟨h1 | h1,h2⟩
   ·exact absurd (by rw[← h2,h1]) hk
   ·exact ⟨h1.1,h2⟩
  ·rintro ⟨h1,h2⟩
   exact ⟨.inr ⟨h1,fun e=>hk (h2.symm.trans e)⟩,h2⟩
theorem j0c {m:List Cell} {q:Key} (h:UpB Cell.k m) {k:Key}:Yv Cell.k (T5a q m) k=if k=q then none else Yv Cell.k m k:=by
 have hu:=S5b (k:=q) h
 refine Option.ext fun c=>?_
 rw[G3a hu,U5a h,List.mem_filter]
 by_cases hk:k=q
 ·rw[if_pos hk]
  constructor
  ·rintro ⟨h1,h2⟩
   exact absurd (h2.trans hk) (by simpa using h1.2)
  ·intro h;cases h
 ·rw[if_neg hk,G3a h]
  constructor
  ·rintro ⟨h1,h2⟩;exact ⟨h1.1,h2⟩
  ·rintro ⟨h1,h2⟩
   refine ⟨⟨h1,?_⟩,h2⟩
   have:c.k≠q:=fun e=>hk (h2.symm.trans e)
   simpa using this
theorem CelM.put {mm:List (Key × Value)} {m:List Cell} (a:CelM mm m) (x:Cell):CelM (X0a mm x.k (U0a x)) (X3a Cell.k x m):=
 ⟨P1a a.1,H0b a.2.1,fun k=>by
  rw[I3a a.1,k0c a.2.1]
  split
  ·rfl
  ·exact a.2.2 k⟩
theorem CelM.del {mm:List (Key × Value)} {m:List Cell} (a:CelM mm m) (q:Key):CelM (Y5a mm q) (T5a q m):=
 ⟨K6a a.1,S5b a.2.1,fun k=>by
  rw[x0c,j0c a.2.1]
  split
  ·rfl
  ·exact a.2.2 k⟩
theorem CelM.mem {mm:List (Key × Value)} {m:List Cell} (a:CelM mm m) (k:Key):k∈mm.map (·.1)↔k∈m.map Cell.k:=by
 have h:=a.2.2 k
 constructor
 ·intro h1
  cases hq:Yv Cell.k m k with
  | none=>
    rw[hq]at h
    exact absurd h1 (I7a.1 h)
  | some c=>exact List.mem_map.2 ⟨c,(h0a hq).1,(h0a hq).2⟩
 ·intro h1
  cases hq:Ww mm k with
  | none=>
    rw[hq]at h
    cases hc:Yv Cell.k m k with
    | none=>exact absurd h1 (H6a.1 hc)
    | some c=>rw[hc]at h;cases h
  | some v=>exact List.mem_map.2 ⟨(k,v),(p2a a.1).1 hq,rfl⟩
theorem _root_.Go.D.MapAt.len {P:Program} {κ:Type} {enc:κ→Value} {t:TypeId} {kt et:TypeId} {h:DHeap} {id:Nat} {m:List (κ × Value)} (hu:P.underlying t=some (.map kt et)) (a:MapAt enc h id m):dLen P #[t] (.map (some id)) h=some (.int .i64 (m.length:Nat)):=by
 obtain ⟨es,c,g,q1,_⟩:=a
 have:es.length=m.length:=by
  have:=congrArg List.length q1
  simpa using this
 unfold dLen
 simp only[List.getElem?_toArray,List.getElem?_cons_zero,hu,g,this]
 rfl
theorem u6c {K:DHeap} {x:Change}:∃ K1,Yx Tryz.prog 99 (.pointer (some ⟨K.next,0,none⟩)) (.agg #[.int .i32 x.k.t,.int .i64 x.k.r,.int .i64 x.v,.bool x.e]) (K.push (.row [.int .i32 0,.int .i64 0,.int .i64 0,.bool false] 0 false))=some K1∧Ext K K1∧K1.next=K.next+1∧(∀ M,M.get K.next=K1.get K.next→Zk M K.next 0 2=some (ZZ x.k)∧Zq M K.next 2=some (.int .i64 x.v)∧Zq M K.next 3=some (.bool x.e)∧Zk M K.next 0 4=some (f1a x)):=by
 refine ⟨K.push (.row [.int .i32 x.k.t,.int .i64 x.k.r,.int .i64 x.v,.bool x.e] 0 false),(p8a rfl).trans (c0a rfl rfl),Ext.push1 _ _,rfl,fun M h=>?_⟩
 have g:M.get K.next=some (.row [.int .i32 x.k.t,.int .i64 x.k.r,.int .i64 x.v,.bool x.e] 0 false):=h.trans (Zz _ _)
 exact ⟨by rw[Zu g (Nat.le_of_ble_eq_true rfl)];rfl,Zy g,Zy g,by rw[Zu g (Nat.le_of_ble_eq_true rfl)];rfl⟩
theorem S1c {k:Key} {v s:Int}:Xy Tryz.prog 33 [(0,ZZ k),(1,.int .i64 v),(2,.int .i64 s)]=some (U0a ⟨k,v,s⟩):=l0a I0c rfl
theorem C8b {e s p:Int} {v:Value} (hv:v.cells=#[v]):Xy Tryz.prog 36 [(0,.int .i64 e),(1,v),(2,.int .i64 s),(3,.int .i64 p)]=some (.agg #[.int .i64 e,v,.int .i64 s,.int .i64 p]):=by
 refine l0a H1d ?_
 simp only[T4a,hv]
 rfl
theorem q7b {α β:Type} {f:β→α→β} {l:List α} {i:Nat} {a:β} (hi:i<l.length):(l.take (i+1)).foldl f a=f ((l.take i).foldl f a) l[i]:=by
 rw[List.take_succ_eq_append_getElem hi,List.foldl_append]
 rfl
theorem Z5c {α:Type} {F:FRep α} {h:DHeap} {v:Value} {l:List α} {B:Nat} {cs:List Value} {o:DObj} (a:Arg F.rep h v l) (g:h.get B=some (.row cs 0 false)) (hz:F.z≠0):Arg F.rep (h.set B o) v l:=
 k4b (z:=0) a (fun i _ hn=>Zx _ _ fun e=>by subst e;exact hn _ g) hz
def r4a:Cell:=⟨Y3a,0,0⟩
theorem V3c:Tryz.prog.underlying 79=some (.map 31 33):=by kernel_rfl
theorem k2b:l7a Tryz.prog 79 ZZ (U0a r4a):=⟨_,_,V3c,x7b,by kernel_rfl⟩
theorem v6c {K:DHeap} {x:Key}:∃ K1,Yx Tryz.prog 31 (.pointer (some ⟨K.next,0,none⟩)) (ZZ x) (K.push (.row [.int .i32 0,.int .i64 0] 0 false))=some K1∧Ext K K1∧K1.next=K.next+1∧(∀ M,Ext K1 M→Zk M K.next 0 2=some (ZZ x)):=by
 refine ⟨K.push (.row [.int .i32 x.t,.int .i64 x.r] 0 false),(c4a rfl).trans (c0a rfl rfl),Ext.push1 _ _,rfl,fun M e=>?_⟩
 have g:=(e.get K.next (Nat.lt_succ_self _)).trans (Zz _ _)
 rw[Zu g (Nat.le_of_ble_eq_true rfl)]
 rfl
theorem I2b {K:DHeap} {x:Cell}:∃ K1,Yx Tryz.prog 33 (.pointer (some ⟨K.next,0,none⟩)) (U0a x) (K.push (.row [.int .i32 0,.int .i64 0,.int .i64 0,.int .i64 0] 0 false))=some K1∧Ext K K1∧K1.next=K.next+1∧(∀ M,Ext K1 M→Zk M K.next 0 2=some (ZZ x.k)∧Zq M K.next 2=some (.int .i64 x.v)∧Zk M K.next 0 4=some (U0a x)):=by
 refine ⟨K.push (.row [.int .i32 x.k.t,.int .i64 x.k.r,.int .i64 x.v,.int .i64 x.s] 0 false),(V6a rfl).trans (c0a rfl rfl),Ext.push1 _ _,rfl,fun M e=>?_⟩
 have g:=(e.get K.next (Nat.lt_succ_self _)).trans (Zz _ _)
 exact ⟨by rw[Zu g (Nat.le_of_ble_eq_true rfl)];rfl,Zy g,by rw[Zu g (Nat.le_of_ble_eq_true rfl)];rfl⟩
theorem CelM.len {mm:List (Key × Value)} {m:List Cell} (a:CelM mm m):mm.length≤m.length:=by
 have h:=B1a (a:=mm.map (·.1)) (b:=m.map Cell.k) a.1 (fun k hk=>(a.mem k).1 hk)
 simpa using h
theorem KpD.after {D:Nat→Prop} {h K M:DHeap} (e:Ext h K) (k:KpD D K M):KpD D h M:=
 ⟨Nat.le_trans e.next k.next,k.ng.trans e.ng,fun i hi hn=>(k.get i (Nat.lt_of_lt_of_le hi e.next) hn).trans (e.get i hi)⟩
theorem Y7b {m:List Cell} {keys:List Key} {i:Nat} (hi:i<keys.length):d3a m (keys.take (i+1))=d3a m (keys.take i)++match Yv Cell.k m keys[i] with | some c=>[⟨keys[i],c.v⟩] | none=>[]:=by
 unfold d3a
 rw[List.take_succ_eq_append_getElem hi,List.filterMap_append]
 congr 1
 cases hq:Yv Cell.k m keys[i] with
 | none=>simp[hq]
 | some c=>simp[hq]
theorem K3b {x z:Cell}:∀ {m:List Cell},z∈X3a Cell.k x m→z=x∨z∈m
 | [],h=>by simp[X3a]at h;exact .inl h
 | y :: r,h=>by
   unfold X3a at h
   split at h
   ·rcases List.mem_cons.1 h with h | h
    ·exact .inr (by simp[h])
    ·rcases K3b h with h | h
     ·exact .inl h
     ·exact .inr (by simp[h])
   ·split at h
    ·rcases List.mem_cons.1 h with h | h
     ·exact .inl h
     ·exact .inr (by simp[h])
    ·rcases List.mem_cons.1 h with h | h
     ·exact .inl h
     ·exact .inr h
theorem x3b {k:Key} {z:Cell}:∀ {m:List Cell},z∈T5a k m→z∈m
 | [],h=>h
 | y :: r,h=>by
   unfold T5a at h
   split at h
   ·rcases List.mem_cons.1 h with h | h
    ·simp[h]
    ·have:=x3b h;simp[this]
   ·split at h
    ·simp[h]
    ·exact h
theorem J5b {slot:Int} (hs:inK .i64 slot):∀ {l:List Change} {m:List Cell},(∀ c∈l,fChange.ok c)→(∀ c∈m,fCell.ok c)→∀ c∈l.foldl (Q5a slot) m,fCell.ok c
 | [],m,_,h=>h
 | x :: l,m,hl,h=>by
   rw[List.foldl_cons]
   refine J5b hs (fun c hc=>hl c (by simp[hc])) fun c hc=>?_
   have hx:=hl x (by simp)
   unfold Q5a at hc
   split at hc
   ·exact h c (x3b hc)
   ·rcases K3b hc with rfl | hc
    ·exact ⟨hx.1,hx.2.1,hs⟩
    ·exact h c hc
set_option maxHeartbeats 2000000 in
theorem R3c {h:DHeap} {t:Txn} {vc va vr vw:Value} {id:Nat} {mm:List (Key × Value)} {m:List Cell} {slot at':Int} (x:TxV (InH h) h t vc va vr vw) (hT:y6a t) (a:MapAt ZZ h id mm) (cm:CelM mm m) (hid:id<h.next) (hok:∀ c∈m,fCell.ok c) (hs:inK .i64 slot) :
 Ct Tryz.prog 34 [h1a t.ses t.req vc va vr vw,.int .i64 slot,.int .i64 at',.map (some id)] h fun r h1=>∃ vv mm',r=.ret (u5a (S1a t slot at' m) vv)∧KpD (fun j=>j=id) h h1∧Sl fI64.rep (u6a h h1) h1 vv (S1a t slot at' m).vs∧MapAt ZZ h1 id mm'∧CelM mm' (K5a t slot m)∧∀ c∈K5a t slot m,fCell.ok c:=by
 refine y3d (by simp) ?_
 have hcl:(h1a t.ses t.req vc va vr vw).cells.toList=[.int .i64 t.ses,.int .i64 t.req,vc,va,vr,vw]:=rfl
 have el:∀ K,dLen Tryz.prog #[24] vr K=some (.int .i64 (t.reads.length:Nat)):=x.r.lens (P:=Tryz.prog) (ts:=#[24]) (t:=24) rfl m3a
 obtain ⟨H,hH⟩:∃ H,H=(h.push (.row [.int .i64 t.ses,.int .i64 t.req,vc,va,vr,vw] 0 false)).push (.row [.int .i64 0,.slice none 0 0,.int .i64 0,.int .i64 0] 0 false):=⟨_,rfl⟩
 have hE:Ext h H:=by rw[hH];exact (Ext.push1 _ _).push _
 have hHn:H.next=h.next+2:=by rw[hH];rfl
 have gH:H.get h.next=some (.row [.int .i64 t.ses,.int .i64 t.req,vc,va,vr,vw] 0 false):=by rw[hH];exact p5a
 have gR:H.get (h.next+1)=some (.row [.int .i64 0,.slice none 0 0,.int .i64 0,.int .i64 0] 0 false):=by rw[hH];exact Zz _ _
 have lt:∀ K,Ext H K→Zk K h.next 0 6=some (h1a t.ses t.req vc va vr vw):=fun K e=>by
  rw[Zu ((e.get _ (by omega)).trans gH) (Nat.le_of_ble_eq_true rfl)]
  rfl
 have hlr:=hT.r
 simp -implicitDefEqProofs (disch:=first|omega|simp only[go_sem]) only[go_sem,true_and,c34,hcl,m0a,← hH,Zy gH,el]
 refine A0a (σ:=Nat) (by kernel_rfl) (fun i s=>s.df=[]∧s.rd=none∧s.fr 1=some (.int .i64 slot)∧s.fr 2=some (.int .i64 at')∧s.fr 3=some (.map (some id))∧s.fr 4=some (.pointer (some ⟨h.next,0,none⟩))∧s.fr 8=some (.pointer (some ⟨h.next+1,0,none⟩))∧s.fr 18=some vr∧s.fr 19=some (.int .i64 (t.reads.length:Nat))∧s.fr 20=some (.int .i64 (i:Nat))∧i≤t.reads.length∧∃ u,s.fr 9=some u∧Made fPair H s.h u (d3a m (t.reads.take i))) (fun i=>t.reads.length - i) 0 ?_ ?_
 ·simp -implicitDefEqProofs (disch:=first|omega|simp only[go_sem]) only[go_sem,true_and]
  exact ⟨by trivial,Nat.zero_le _,_,rfl,.nil _ (.refl _)⟩
 rintro i ⟨fr,df,K,rd⟩ K' hK' hX ⟨rfl,rfl,f1,f2,f3,f4,f8,f18,f19,f20,hi,u,f9,mu⟩
 simp only at f1 f2 f3 f4 f8 f18 f19 f20 f9 mu
 have hlen:(d3a m (t.reads.take i)).length≤1048576:=Nat.le_trans l1c (by simp;omega)
 simp -implicitDefEqProofs (disch:=first|omega|simp only[go_sem]) only[go_sem,true_and,f18,f19,f20]
 refine n0a (fun hc1=>?_) (fun hc1=>?_)
 ·have hj:i<t.reads.length:=by omega
  have hw:=d0a hj (by omega)
  obtain ⟨id1,o1,i1,_,hat1⟩:=(x.r.ext (hE.trans mu.ext)).idx (P:=Tryz.prog) (t:=24) t4a (k:=.i64) (i:=i) (x:=t.reads[i]) (by simp)
  have l1:Zk K id1 o1 2=some (ZZ t.reads[i]):=hat1.flat.2.1
  have hkok:fKey.ok t.reads[i]:=x.r.ok _ (List.getElem_mem hj)
  obtain ⟨K1,t1,eK1,nK1,cc⟩:=v6c (K:=K) (x:=t.reads[i])
  have e1:=hE.trans (mu.ext.trans eK1)
  have lk:=(a.keep (e1.get _ hid)).lookup k2b t.reads[i] true
  have htake:=Y7b (m:=m) hj
  rw[cm.2.2 t.reads[i]]at lk
  cases hq:Yv Cell.k m t.reads[i] with
  | some c=>
    rw[hq]at lk htake
    have lk':Q0a Tryz.prog 79 (.map (some id)) (ZZ t.reads[i]) true K1=some (.tuple #[U0a c,.bool true]):=lk
    obtain ⟨K2,t2,eK2,nK2,c2⟩:=I2b (K:=K1) (x:=c)
    have hck:=(h0a hq).1
    obtain ⟨u3,K3,s1,m3⟩:=(mu.on (eK1.trans eK2)).snoc x8b (cs:=[.int .i32 t.reads[i].t,.int .i64 t.reads[i].r,.int .i64 c.v]) (y:=⟨t.reads[i],c.v⟩) rfl (z:=3) rfl ⟨hkok,(hok c hck).2.1⟩ (by omega) (by decide)
    simp -implicitDefEqProofs (disch:=first|omega|simp only[go_sem]) only[go_sem,true_and,f3,f9,f18,f20,i1,l1,t1,cc K1 (.refl _),lk',t2,cc K2 eK2,(c2 K2 (.refl _)).2.1,C2b,s1,hw]
    refine hK' (i+1) _ ?_ (by omega)
    exact ⟨by trivial,by trivial,(vy f1),(vy f2),(vy f3),(vy f4),(vy f8),(vy f18),(vy f19),vz,by omega,u3,vz,by rw[htake];exact m3⟩
  | none=>
    rw[hq]at lk htake
    have lk':Q0a Tryz.prog 79 (.map (some id)) (ZZ t.reads[i]) true K1=some (.tuple #[U0a r4a,.bool false]):=lk
    obtain ⟨K2,t2,eK2,nK2,c2⟩:=I2b (K:=K1) (x:=r4a)
    simp -implicitDefEqProofs (disch:=first|omega|simp only[go_sem]) only[go_sem,true_and,f3,f9,f18,f20,i1,l1,t1,cc K1 (.refl _),lk',t2,hw]
    refine hK' (i+1) _ ?_ (by omega)
    exact ⟨by trivial,by trivial,(vy f1),(vy f2),(vy f3),(vy f4),(vy f8),(vy f18),(vy f19),vz,by omega,u,(vy f9),by rw[htake,List.append_nil];exact mu.on (eK1.trans eK2)⟩
 obtain rfl:i=t.reads.length:=by omega
 rw[List.take_length]at mu hlen
 refine hX _ _ (by simp) ?_
 clear hK' hX K' f18 f19 f20 hc1 hi
 have eK:=mu.ext
 have hKn:=eK.next
 simp -implicitDefEqProofs (disch:=first|omega|simp only[go_sem]) only[go_sem,true_and,f4,f9,lt K eK]
 refine YW (R4d (x.ext (hE.trans eK)) hT mu.arg (by omega)) ?_
 rw[Y0c cm.2.1]
 have hsm:=f0b (t:=t) (l:=L5a m t.reads) (f:=4096)
 have ho:b4a t (L5a m t.reads) 4096=W6a t m:=rfl
 rw[ho]at hsm
 obtain ⟨o,hoo⟩:∃ o,W6a t m=o:=⟨_,rfl⟩
 have hR:S1a t slot at' m=⟨o.e,o.vs,slot,at'⟩:=by unfold S1a;rw[hoo]
 have hC:K5a t slot m=if o.e=0 then o.ch.foldl (Q5a slot) m else m:=by unfold K5a;rw[hoo]
 rw[hoo]at hsm
 rw[hoo,hR,hC]
 rintro r D ⟨vv,cv,rfl,mv,mc⟩
 have hoks:=J5b hs mc.ok hok
 obtain ⟨D1,hst,eD,gD,nD⟩:=T7c (e:=o.e) (k:=o.s) mv.sl mc.sl
 have hDn:=mv.ext.next
 have hvv:=mv.sl.cells1
 have hone2:[Value.int .i64 o.e,vv,.int .i64 slot,.int .i64 at'].all Value.oneCell'=true:=by
  obtain ⟨_,_,rfl⟩:=mv.sl.isSlice
  rfl
 have e1:Ext H D1:=eK.trans (mv.ext.trans eD)
 have eh1:Ext h D1:=hE.trans e1
 have aD:=a.keep (eh1.get _ hid)
 have lc:∀ K,dLen Tryz.prog #[92] cv K=some (.int .i64 (o.ch.length:Nat)):=mc.arg.lens (P:=Tryz.prog) (ts:=#[92]) (t:=92) rfl T9b
 have gM:∀ M,KpD (fun j=>j=id) D1 M→M.get D.next=some (.row [.int .i64 o.e,vv,cv,.int .i64 o.s] 0 false):=fun M k=>(k.get _ (by omega) (by omega)).trans gD
 have fin:∀ (M:DHeap) (q:List (Key × Value)) (l:List Cell),KpD (fun j=>j=id) D1 M→MapAt ZZ M id q→CelM q l→∃ M2,Yx Tryz.prog 36 (.pointer (some ⟨h.next+1,0,none⟩)) (.agg #[.int .i64 o.e,vv,.int .i64 slot,.int .i64 at']) M=some M2∧Zk M2 (h.next+1) 0 4=some (.agg #[.int .i64 o.e,vv,.int .i64 slot,.int .i64 at'])∧KpD (fun j=>j=id) h M2∧Sl fI64.rep (u6a h M2) M2 vv o.vs∧MapAt ZZ M2 id q:=fun M q l k am _=>by
  have g:=(k.get (h.next+1) (by have:=e1.next;omega) (by omega)).trans ((e1.get _ (by omega)).trans gR)
  have kn:=k.next
  refine ⟨_,(L5c rfl).trans (b2a g rfl hone2),by rw[Zu (Zj _ _) (Nat.le_of_ble_eq_true rfl)];rfl,(KpD.after eh1 k).set (.inr (by omega)),?_,am.keep (Zx _ _ (by omega))⟩
  refine mv.sl.mono fun j hj=>⟨⟨by have:=hj.1;omega,by show j<M.next;have:=hj.2;omega⟩,?_⟩
  obtain ⟨hj1,hj2⟩:=hj
  rw[Zx _ _ (by omega),k.get _ (by omega) (by omega),eD.get _ hj2]
 simp -implicitDefEqProofs (disch:=first|omega|simp only[go_sem]) only[go_sem,true_and,Xk,hst,Zy gD]
 by_cases he:o.e=0
 ·have he':=eq_true he
  rw[if_pos he]
  simp -implicitDefEqProofs (disch:=first|omega|simp only[go_sem]) only[go_sem,true_and,he',Zy gD,lc]
  refine A0a (σ:=Nat) (by kernel_rfl) (fun i s=>s.df=[]∧s.rd=none∧s.fr 1=some (.int .i64 slot)∧s.fr 2=some (.int .i64 at')∧s.fr 3=some (.map (some id))∧s.fr 8=some (.pointer (some ⟨h.next+1,0,none⟩))∧s.fr 14=some (.pointer (some ⟨D.next,0,none⟩))∧s.fr 46=some cv∧s.fr 47=some (.int .i64 (o.ch.length:Nat))∧s.fr 48=some (.int .i64 (i:Nat))∧i≤o.ch.length∧KpD (fun j=>j=id) D1 s.h∧∃ q,MapAt ZZ s.h id q∧CelM q ((o.ch.take i).foldl (Q5a slot) m)) (fun i=>o.ch.length - i) 0 ?_ ?_
  ·simp -implicitDefEqProofs (disch:=first|omega|simp only[go_sem]) only[go_sem,true_and,f1,f2,f3,f8]
   exact ⟨by trivial,Nat.zero_le _,.refl _ _,_,aD,cm⟩
  clear f1 f2 f3 f4 f8 f9
  rintro i ⟨fr,df,M,rd⟩ K' hK' hX ⟨rfl,rfl,f1,f2,f3,f8,f14,f46,f47,f48,hi,kM,q,aq,cq⟩
  simp only at f1 f2 f3 f8 f14 f46 f47 f48 kM aq
  simp -implicitDefEqProofs (disch:=first|omega|simp only[go_sem]) only[go_sem,true_and,f46,f47,f48]
  refine n0a (fun hc1=>?_) (fun hc1=>?_)
  ·have hj:i<o.ch.length:=by omega
   have hw:=d0a hj (by omega)
   have acM:Arg fChange.rep M cv o.ch:=mc.sl.mono fun j hj=>⟨by have:=kM.next;have:=hj.2;omega,by rw[kM.get _ (by have:=hj.2;omega) (by have:=hj.1;omega),eD.get _ hj.2]⟩
   obtain ⟨id1,o1,i1,hid1,hat1⟩:=acM.idx (P:=Tryz.prog) (t:=92) r4c (k:=.i64) (i:=i) (x:=o.ch[i]) (by simp)
   have a1:Zk M id1 o1 4=some (f1a o.ch[i]):=hat1.flat.2.1
   obtain ⟨M1,t1,eM1,nM1,cc⟩:=u6c (K:=M) (x:=o.ch[i])
   obtain ⟨c1,c2,c3,_⟩:=cc M1 rfl
   have hf:=q7b (f:=Q5a slot) (a:=m) hj
   have hidM:id<M.next:=by have:=kM.next;omega
   have aq1:=aq.keep (eM1.get _ hidM)
   have kM1:=kM.ext eM1
   simp -implicitDefEqProofs (disch:=first|omega|simp only[go_sem]) only[go_sem,true_and,f46,f48,i1,a1,t1,c3]
   by_cases hce:o.ch[i].e=true
   ·have hch:∀ q,Q5a slot q o.ch[i]=T5a o.ch[i].k q:=fun q=>by unfold Q5a;rw[if_pos hce]
    obtain ⟨ob,s1,aq2⟩:=aq1.delete k2b (ts:=#[79,31]) rfl o.ch[i].k
    simp -implicitDefEqProofs (disch:=first|omega|simp only[go_sem]) only[go_sem,true_and,hce,f3,c1,s1,f48,hw]
    refine hK' (i+1) _ ?_ (by omega)
    exact ⟨by trivial,by trivial,(vy f1),(vy f2),(vy f3),(vy f8),(vy f14),(vy f46),(vy f47),vz,by omega,kM1.set (.inl rfl),_,aq2,by rw[hf,hch];exact cq.del _⟩
   ·have hce':o.ch[i].e=false:=by simpa using hce
    have hch:∀ q,Q5a slot q o.ch[i]=X3a Cell.k ⟨o.ch[i].k,o.ch[i].v,slot⟩ q:=fun q=>by unfold Q5a;rw[if_neg hce]
    obtain ⟨ob,s1,aq2⟩:=aq1.update k2b o.ch[i].k (U0a ⟨o.ch[i].k,o.ch[i].v,slot⟩)
    simp -implicitDefEqProofs (disch:=first|omega|simp only[go_sem]) only[go_sem,true_and,hce',f1,f3,c1,c2,S1c,s1,f48,hw]
    refine hK' (i+1) _ ?_ (by omega)
    exact ⟨by trivial,by trivial,(vy f1),(vy f2),(vy f3),(vy f8),(vy f14),(vy f46),(vy f47),vz,by omega,kM1.set (.inl rfl),_,aq2,by rw[hf,hch];exact cq.put ⟨o.ch[i].k,o.ch[i].v,slot⟩⟩
  obtain rfl:i=o.ch.length:=by omega
  rw[List.take_length]at cq
  refine hX _ _ (by simp) ?_
  obtain ⟨M2,s1,s2,s3,s4,s5⟩:=fin M q _ kM aq cq
  simp -implicitDefEqProofs (disch:=first|omega|simp only[go_sem]) only[go_sem,true_and,f1,f2,f8,f14,Zy (gM M kM),C8b hvv,s1]
  refine A2a (v:=.agg #[.int .i64 o.e,vv,.int .i64 slot,.int .i64 at']) ?_ ?_
  ·rw[A1a]
   simp -implicitDefEqProofs (disch:=first|omega|simp only[go_sem]) only[go_sem,true_and,f8,s2,G0a]
  ·exact ⟨_,_,rfl,s3,s4,s5,cq,hoks⟩
 ·rw[if_neg he]
  obtain ⟨M2,s1,s2,s3,s4,s5⟩:=fin D1 mm m (.refl _ _) aD cm
  simp -implicitDefEqProofs (disch:=first|omega|simp only[go_sem]) only[go_sem,true_and,he,f1,f2,f8,Zy gD,C8b hvv,s1]
  refine A2a (v:=.agg #[.int .i64 o.e,vv,.int .i64 slot,.int .i64 at']) ?_ ?_
  ·rw[A1a]
   simp -implicitDefEqProofs (disch:=first|omega|simp only[go_sem]) only[go_sem,true_and,f8,s2,G0a]
  ·exact ⟨_,_,rfl,s3,s4,s5,cm,hok⟩
theorem CelM.of {m:List Cell}:CelM (G1a Cell.k U0a m) (byK Cell.k m):=
 ⟨O6a _,h5a _,fun k=>by rw[E4a,i0c]⟩
abbrev I0b (n:Int):Value:=.int .i64 n
abbrev m4a (x:Row) (v:Value):Value:=.agg #[.int .i64 x.ses,.int .i64 x.req,.int .i64 x.x.e,v,.int .i64 x.x.s,.int .i64 x.x.p]
def I1a (l:List Row) (n:Int):Option Row:=l.find? fun x=>x.ses=n
def RowM (S:Nat→Prop) (h:DHeap) (rm:List (Int × Value)) (l:List Row):Prop:=
 (rm.map (·.1)).Nodup∧(l.Pairwise fun a b=>a.ses<b.ses)∧(∀ n,I1a l n=none→Ww rm n=none)∧∀ n x,I1a l n=some x→∃ v,Ww rm n=some (m4a x v)∧Sl fI64.rep S h v x.x.vs
abbrev Q8a (h:DHeap) (B cid rid:Nat):Nat→Prop:=fun i=>i<h.next∧i≠B∧i≠cid∧i≠rid
structure SerAt (h:DHeap) (B cid rid:Nat) (s:XV) (mm:List (Key × Value)) (rm:List (Int × Value)):Prop where
 row:h.get B=some (.row [.int .i64 s.slot,.map (some cid),.map (some rid)] 0 false)
 cel:MapAt ZZ h cid mm
 cm:CelM mm s.cells
 rwm:MapAt I0b h rid rm
 rw:RowM (Q8a h B cid rid) h rm s.rows
 lt:B<h.next∧cid<h.next∧rid<h.next
 ne:B≠cid∧B≠rid∧cid≠rid
 ok:∀ c∈s.cells,fCell.ok c
 sm:∀ x∈s.rows,x.x.vs.length≤4096
theorem RowM.mono {S S':Nat→Prop} {h h':DHeap} {rm:List (Int × Value)} {l:List Row} (a:RowM S h rm l) (m:∀ i,S i→S' i∧h'.get i=h.get i):RowM S' h' rm l:=
 ⟨a.1,a.2.1,a.2.2.1,fun n x hx=>by
  obtain ⟨v,h1,h2⟩:=a.2.2.2 n x hx
  exact ⟨v,h1,h2.mono m⟩⟩
theorem SerAt.ext {h h1:DHeap} {B cid rid:Nat} {s:XV} {mm:List (Key × Value)} {rm:List (Int × Value)} (a:SerAt h B cid rid s mm rm) (e:Ext h h1):SerAt h1 B cid rid s mm rm:=
 ⟨(e.get _ a.lt.1).trans a.row,a.cel.keep (e.get _ a.lt.2.1),a.cm,a.rwm.keep (e.get _ a.lt.2.2),a.rw.mono fun i hi=>⟨⟨Nat.lt_of_lt_of_le hi.1 e.next,hi.2⟩,e.get i hi.1⟩,⟨Nat.lt_of_lt_of_le a.lt.1 e.next,Nat.lt_of_lt_of_le a.lt.2.1 e.next,Nat.lt_of_lt_of_le a.lt.2.2 e.next⟩,a.ne,a.ok,a.sm⟩
theorem q4b:Tryz.prog.underlying 80=some (.map 2 59):=by kernel_rfl
def P7b:Row:=⟨0,0,⟨0,[],0,0⟩⟩
theorem B7b:l7a Tryz.prog 80 I0b (m4a P7b YU):=⟨_,_,q4b,KeyOf.int (by kernel_rfl),by kernel_rfl⟩
theorem c8c {h:DHeap} {ox oy:Operand}:ZX Tryz.prog .eql 47 ox oy (.pointer none) (.pointer none) h=.ok (.value (.bool true)) h:=by
 rfl
theorem l9a {h:DHeap} {ox oy:Operand} {B:Nat}:ZX Tryz.prog .eql 47 ox oy (.pointer (some ⟨B,0,none⟩)) (.pointer none) h=.ok (.value (.bool false)) h:=by
 rfl
theorem y3c {h:DHeap} {ox oy:Operand} {B:Nat}:ZX Tryz.prog .eql 79 ox oy (.map (some B)) (.map none) h=.ok (.value (.bool false)) h:=by
 rfl
theorem j9a {h:DHeap} {B cid rid:Nat} {s:XV} {mm:List (Key × Value)} {rm:List (Int × Value)} (a:SerAt h B cid rid s mm rm):DC Tryz.prog 42 [.pointer (some ⟨B,0,none⟩)] h (.ret (.bool false)) h:=by
 refine Ct.pure (O4c (by simp) ?_) (Y0a _)
 simp -implicitDefEqProofs (disch:=first|omega|simp only[go_sem]) only[go_sem,true_and,c42,l9a,y3c,Zy a.row,ZJ,Yz]
 exact ⟨_,rfl,rfl,.refl _⟩
theorem P3c {h:DHeap} {B cid rid:Nat} {s:XV} {mm:List (Key × Value)} {rm:List (Int × Value)} (a:SerAt h B cid rid s mm rm):DC Tryz.prog 24 [.pointer (some ⟨B,0,none⟩)] h (.ret (.int .i64 s.slot)) h:=by
 refine Ct.pure (M4c (by simp) ?_) (T0a _ _)
 simp -implicitDefEqProofs (disch:=first|omega|simp only[go_sem]) only[go_sem,true_and,c24]
 refine YX (j9a a) ?_
 simp -implicitDefEqProofs (disch:=first|omega|simp only[go_sem]) only[go_sem,true_and,Zy a.row]
 exact ⟨_,rfl,rfl,.refl _⟩
theorem R7c {h:DHeap}:Ct Tryz.prog 16 [] h fun r h1=>∃ B cid rid,r=.ret (.pointer (some ⟨B,0,none⟩))∧Ext h h1∧h.next≤B∧h.next≤cid∧h.next≤rid∧SerAt h1 B cid rid ⟨0,[],[]⟩ [] []:=by
 refine t3d (by simp) ?_
 have hbd:∀ a b:Nat,Xy Tryz.prog 82 [(1,.map (some a)),(2,.map (some b))]=some (.agg #[.int .i64 0,.map (some a),.map (some b)]):=fun a b=>l0a J0c rfl
 obtain ⟨H1,hH1⟩:∃ H,h.push (.map [] 0)=H:=⟨_,rfl⟩
 have n1:H1.next=h.next+1:=by rw[← hH1];rfl
 have e1:Ext h H1:=hH1▸Ext.push1 _ _
 have a1:MapAt ZZ H1 h.next ([]:List (Key × Value)):=by rw[← hH1];exact MapAt.new
 obtain ⟨H2,hH2⟩:∃ H,H1.push (.map [] 0)=H:=⟨_,rfl⟩
 have n2:H2.next=h.next+2:=by rw[← hH2];show H1.next+1=_;omega
 have e2:Ext H1 H2:=hH2▸Ext.push1 _ _
 have a2:MapAt I0b H2 H1.next ([]:List (Int × Value)):=by rw[← hH2];exact MapAt.new
 obtain ⟨H3,hH3⟩:∃ H,H2.push (.row [.int .i64 0,.map (some h.next),.map (some H1.next)] 0 false)=H:=⟨_,rfl⟩
 have n3:H3.next=h.next+3:=by rw[← hH3];show H2.next+1=_;omega
 have e3:Ext H2 H3:=hH3▸Ext.push1 _ _
 have g3:H3.get H2.next=some (.row [.int .i64 0,.map (some h.next),.map (some H1.next)] 0 false):=by rw[← hH3];exact Zz _ _
 simp -implicitDefEqProofs (disch:=first|omega|simp only[go_sem]) only[go_sem,true_and,c16,hH1,hH2,hbd,hH3]
 refine ⟨_,rfl,H2.next,h.next,H1.next,rfl,(e1.trans e2).trans e3,by omega,by omega,by omega,g3,a1.keep ((e2.trans e3).get _ (by omega)),CelM.nil,a2.keep (e3.get _ (by omega)),⟨by simp,List.Pairwise.nil,fun n _=>rfl,fun n x hx=>by cases hx⟩,⟨by omega,by omega,by omega⟩,⟨by omega,by omega,by omega⟩,fun c hc=>(by cases hc),fun c hc=>(by cases hc)⟩
theorem U7c {h:DHeap} {x:Res} {v:Value} (hv:Arg fI64.rep h v x.vs) (hl:x.vs.length≤4294967296) :
 Ct Tryz.prog 44 [u5a x v] h fun r h1=>∃ w,r=.ret (u5a x w)∧Made fI64 h h1 w x.vs:=by
 refine C3d (by simp) ?_
 have hcl:(u5a x v).cells.toList=[.int .i64 x.e,v,.int .i64 x.s,.int .i64 x.p]:=rfl
 obtain ⟨H,hH⟩:∃ H,H=(h.push (.row [.int .i64 x.e,v,.int .i64 x.s,.int .i64 x.p] 0 false)).push (.row [.int .i64 0,.slice none 0 0,.int .i64 0,.int .i64 0] 0 false):=⟨_,rfl⟩
 have hE:Ext h H:=by rw[hH];exact (Ext.push1 _ _).push _
 have hHn:H.next=h.next+2:=by rw[hH];rfl
 have ga:H.get h.next=some (.row [.int .i64 x.e,v,.int .i64 x.s,.int .i64 x.p] 0 false):=by rw[hH];exact p5a
 have gb:H.get (h.next+1)=some (.row [.int .i64 0,.slice none 0 0,.int .i64 0,.int .i64 0] 0 false):=by rw[hH];exact Zz _ _
 obtain ⟨K,hK⟩:∃ K,M2a fI64 H v x.vs=K:=⟨_,rfl⟩
 obtain ⟨w,hw⟩:∃ w,P3a H v x.vs=w:=⟨_,rfl⟩
 have t1:=H6b (hv.ext hE) hl
 have m1:=z9a (h:=H) (hv.ext hE)
 rw[hK,hw]at t1 m1
 have hKn:=m1.ext.next
 have gK:=(m1.ext.get h.next (by omega)).trans ga
 have hww:=m1.sl.cells1
 obtain ⟨K1,hK1⟩:∃ M,M=K.set h.next (.row [.int .i64 x.e,w,.int .i64 x.s,.int .i64 x.p] 0 false):=⟨_,rfl⟩
 have s1:storeAt K h.next 1 [w]=some K1:=by rw[hK1];exact V7b hww (C1d m1.sl) (by simp) rfl gK
 have g1:K1.get h.next=some (.row [.int .i64 x.e,w,.int .i64 x.s,.int .i64 x.p] 0 false):=by rw[hK1];exact Zj _ _
 have g2:K1.get (h.next+1)=some (.row [.int .i64 0,.slice none 0 0,.int .i64 0,.int .i64 0] 0 false):=by rw[hK1,Zx _ _ (by omega)];exact (m1.ext.get _ (by omega)).trans gb
 have hone:[Value.int .i64 x.e,w,.int .i64 x.s,.int .i64 x.p].all Value.oneCell'=true:=by
  obtain ⟨_,_,rfl⟩:=m1.sl.isSlice
  rfl
 have l1:Zk K1 h.next 0 4=some (u5a x w):=by rw[Zu g1 (Nat.le_of_ble_eq_true rfl)];rfl
 obtain ⟨K2,hK2⟩:∃ M,M=K1.set (h.next+1) (.row [.int .i64 x.e,w,.int .i64 x.s,.int .i64 x.p] 0 false):=⟨_,rfl⟩
 have s2:storeAt K1 (h.next+1) 0 [.int .i64 x.e,w,.int .i64 x.s,.int .i64 x.p]=some K2:=by rw[hK2];exact b2a g2 rfl hone
 have l2:Zk K2 (h.next+1) 0 4=some (u5a x w):=by rw[hK2,Zu (Zj _ _) (Nat.le_of_ble_eq_true rfl)];rfl
 simp -implicitDefEqProofs (disch:=first|omega|simp only[go_sem]) only[go_sem,true_and,c44,hcl,m0a,← hH,Zy ga]
 refine YX t1 ?_
 simp -implicitDefEqProofs (disch:=first|omega|simp only[go_sem]) only[go_sem,true_and,hww,s1,l1,s2]
 refine A2a (v:=u5a x w) ?_ ?_
 ·rw[A1a]
  simp -implicitDefEqProofs (disch:=first|omega|simp only[go_sem]) only[go_sem,true_and,l2,G0a]
 ·refine ⟨w,rfl,?_⟩
  rw[hK2,hK1]
  exact ((m1.base hE).setX (.row gK (by decide)) (Nat.le_refl _)).setX (.row (by rw[← hK1];exact g2) (by decide)) (by omega)
def u4a (s:XV) (t:Txn):Bool:=match I1a s.rows t.ses with
 | some x=>decide (t.req≤1099511627776)&&decide (IntKind.i64.wrap (t.req - 1)=x.req)
 | none=>decide (t.req=1)&&(decide (1≤t.ses)&&(decide (t.ses≤1099511627776)&&decide (s.rows.length<64)))
theorem Z2a {l:List Row} {n:Int} {x:Row} (h:I1a l n=some x):x∈l∧x.ses=n:=by
 refine ⟨List.mem_of_find?_eq_some h,?_⟩
 have:=List.find?_some h
 simpa using this
theorem I9a {l:List Row} {n:Int}:I1a l n=none↔n∉l.map Row.ses:=by
 unfold I1a
 rw[List.find?_eq_none]
 constructor
 ·intro h hm
  obtain ⟨x,hx,rfl⟩:=List.mem_map.1 hm
  have:=h x hx
  simp at this
 ·intro h x hx e
  exact h (List.mem_map.2 ⟨x,hx,by simpa using e⟩)
theorem RowM.mem {S:Nat→Prop} {h:DHeap} {rm:List (Int × Value)} {l:List Row} (a:RowM S h rm l) (n:Int):n∈rm.map (·.1)↔n∈l.map Row.ses:=by
 constructor
 ·intro h1
  cases hq:I1a l n with
  | none=>exact absurd h1 (I7a.1 (a.2.2.1 n hq))
  | some x=>exact List.mem_map.2 ⟨x,(Z2a hq).1,(Z2a hq).2⟩
 ·intro h1
  cases hq:I1a l n with
  | none=>exact absurd h1 (I9a.1 hq)
  | some x=>
    obtain ⟨v,h2,_⟩:=a.2.2.2 n x hq
    exact List.mem_map.2 ⟨_,(p2a a.1).1 h2,rfl⟩
theorem RowM.len {S:Nat→Prop} {h:DHeap} {rm:List (Int × Value)} {l:List Row} (a:RowM S h rm l):rm.length=l.length:=by
 have hn:(l.map Row.ses).Nodup:=by
  rw[List.Nodup,List.pairwise_map]
  exact a.2.1.imp fun h=>by omega
 have h1:=B1a (a:=rm.map (·.1)) (b:=l.map Row.ses) a.1 fun n hn=>(a.mem n).1 hn
 have h2:=B1a (a:=l.map Row.ses) (b:=rm.map (·.1)) hn fun n hn=>(a.mem n).2 hn
 simp only[List.length_map]at h1 h2
 omega
set_option maxHeartbeats 1000000 in
theorem C3c {h:DHeap} {B cid rid:Nat} {s:XV} {mm:List (Key × Value)} {rm:List (Int × Value)} {t:Txn} {vc va vr vw:Value} (a:SerAt h B cid rid s mm rm):DC Tryz.prog 43 [.pointer (some ⟨B,0,none⟩),h1a t.ses t.req vc va vr vw] h (.ret (.bool (u4a s t))) h:=by
 refine Ct.pure (B3d (by simp) ?_) (Y0a _)
 have hcl:(h1a t.ses t.req vc va vr vw).cells.toList=[.int .i64 t.ses,.int .i64 t.req,vc,va,vr,vw]:=rfl
 obtain ⟨H,hH⟩:∃ H,H=h.push (.row [.int .i64 t.ses,.int .i64 t.req,vc,va,vr,vw] 0 false):=⟨_,rfl⟩
 have hE:Ext h H:=by rw[hH];exact Ext.push1 _ _
 have hHn:H.next=h.next+1:=by rw[hH];rfl
 have gH:H.get h.next=some (.row [.int .i64 t.ses,.int .i64 t.req,vc,va,vr,vw] 0 false):=by rw[hH];exact Zz _ _
 obtain ⟨A,hA⟩:∃ A,H.push (.row [.int .i64 0,.int .i64 0,.int .i64 0,.slice none 0 0,.int .i64 0,.int .i64 0] 0 false)=A:=⟨_,rfl⟩
 have eA:Ext H A:=hA▸Ext.push1 _ _
 have nA:A.next=H.next+1:=by rw[← hA];rfl
 have gA:A.get H.next=some (.row [.int .i64 0,.int .i64 0,.int .i64 0,.slice none 0 0,.int .i64 0,.int .i64 0] 0 false):=by rw[← hA];exact Zz _ _
 have gB:=(eA.get h.next (by omega)).trans gH
 have aA:=a.ext (hE.trans eA)
 have lk:=aA.rwm.lookup B7b t.ses true
 have fin:∀ (y:Row) (v:Value),[Value.int .i64 y.ses,.int .i64 y.req,.int .i64 y.x.e,v,.int .i64 y.x.s,.int .i64 y.x.p].all Value.oneCell'=true→∃ M,Yx Tryz.prog 59 (.pointer (some ⟨H.next,0,none⟩)) (m4a y v) A=some M∧Ext h M∧M.get h.next=some (.row [.int .i64 t.ses,.int .i64 t.req,vc,va,vr,vw] 0 false)∧Zq M H.next 1=some (.int .i64 y.req)∧SerAt M B cid rid s mm rm:=fun y v ho=>by
  refine ⟨_,(m2b rfl).trans (b2a gA rfl ho),(hE.trans eA).set (by omega),(Zx _ _ (by omega)).trans gB,Zy (Zj _ _),?_⟩
  have eS:=(hE.trans eA).set (id:=H.next) (x:=.row [.int .i64 y.ses,.int .i64 y.req,.int .i64 y.x.e,v,.int .i64 y.x.s,.int .i64 y.x.p] 0 false) (by omega)
  exact a.ext eS
 simp -implicitDefEqProofs (disch:=first|omega|simp only[go_sem]) only[go_sem,true_and,c43,hcl,← hH]
 refine E8c rfl ?_
 cases hq:I1a s.rows t.ses with
 | some y=>
   obtain ⟨v,h1,h2⟩:=aA.rw.2.2.2 _ _ hq
   rw[h1]at lk
   have lk':Q0a Tryz.prog 80 (.map (some rid)) (.int .i64 t.ses) true A=some (.tuple #[m4a y v,.bool true]):=lk
   obtain ⟨M,s1,eM,gM,c1,aM⟩:=fin y v (by obtain ⟨_,_,rfl⟩:=h2.isSlice;rfl)
   simp -implicitDefEqProofs (disch:=first|omega|simp only[go_sem]) only[go_sem,true_and,r7b,M7b]
   simp -implicitDefEqProofs (disch:=first|omega|simp only[go_sem]) only[go_sem,true_and,hA,Zy aA.row,Zy gB,lk',s1,gA]
   by_cases p:t.req≤1099511627776
   ·have p':=eq_true p
    simp -implicitDefEqProofs (disch:=first|omega|simp only[go_sem]) only[go_sem,true_and,Zy gM,p',ZJ,Yz,c1]
    exact ⟨_,rfl,by simp[u4a,hq,p],eM⟩
   ·simp -implicitDefEqProofs (disch:=first|omega|simp only[go_sem]) only[go_sem,true_and,Zy gM,p,ZJ,Yz]
    exact ⟨_,rfl,by simp[u4a,hq,p],eM⟩
 | none=>
   have h1:=aA.rw.2.2.1 _ hq
   rw[h1]at lk
   have lk':Q0a Tryz.prog 80 (.map (some rid)) (.int .i64 t.ses) true A=some (.tuple #[m4a P7b YU,.bool false]):=lk
   obtain ⟨M,s1,eM,gM,c1,aM⟩:=fin P7b YU rfl
   have hlen:=aM.rw.len
   have ll:dLen Tryz.prog #[80] (.map (some rid)) M=some (.int .i64 (rm.length:Nat)):=aM.rwm.len q4b
   simp -implicitDefEqProofs (disch:=first|omega|simp only[go_sem]) only[go_sem,true_and,r7b,M7b]
   simp -implicitDefEqProofs (disch:=first|omega|simp only[go_sem]) only[go_sem,true_and,hA,Zy aA.row,Zy gB,lk',s1,gA]
   by_cases p1:t.req=1
   ·have p1':=eq_true p1
    by_cases p2:1≤t.ses
    ·have p2':=eq_true p2
     by_cases p3:t.ses≤1099511627776
     ·have p3':=eq_true p3
      simp -implicitDefEqProofs (disch:=first|omega|simp only[go_sem]) only[go_sem,true_and,Zy gM,p1',p2',p3',ZJ,Yz,Zy aM.row,ll]
      exact ⟨_,rfl,by simp[u4a,hq,p1,p2,p3,hlen];omega,eM⟩
     ·simp -implicitDefEqProofs (disch:=first|omega|simp only[go_sem]) only[go_sem,true_and,Zy gM,p1',p2',p3,ZJ,Yz]
      exact ⟨_,rfl,by simp[u4a,hq,p1,p2,p3],eM⟩
    ·simp -implicitDefEqProofs (disch:=first|omega|simp only[go_sem]) only[go_sem,true_and,Zy gM,p1',p2,ZJ,Yz]
     exact ⟨_,rfl,by simp[u4a,hq,p1,p2],eM⟩
   ·simp -implicitDefEqProofs (disch:=first|omega|simp only[go_sem]) only[go_sem,true_and,Zy gM,p1,ZJ,Yz]
    exact ⟨_,rfl,by simp[u4a,hq,p1],eM⟩
theorem y7c {h:DHeap} {B cid rid:Nat} {s:XV} {mm:List (Key × Value)} {rm:List (Int × Value)} {k:Key} (a:SerAt h B cid rid s mm rm) :
 DC Tryz.prog 25 [.pointer (some ⟨B,0,none⟩),ZZ k] h (.ret (.tuple #[U0a ((Yv Cell.k s.cells k).getD r4a),.bool (Yv Cell.k s.cells k).isSome])) h:=by
 refine Ct.pure (N4c (by simp) ?_) (h2a _ rfl)
 have hcl:(ZZ k).cells.toList=[.int .i32 k.t,.int .i64 k.r]:=rfl
 obtain ⟨H,hH⟩:∃ H,H=(h.push (.row [.int .i32 k.t,.int .i64 k.r] 0 false)).push (.row [.int .i32 0,.int .i64 0,.int .i64 0,.int .i64 0] 0 false):=⟨_,rfl⟩
 have hE:Ext h H:=by rw[hH];exact (Ext.push1 _ _).push _
 have hHn:H.next=h.next+2:=by rw[hH];rfl
 have gk:H.get h.next=some (.row [.int .i32 k.t,.int .i64 k.r] 0 false):=by rw[hH];exact p5a
 have gr:H.get (h.next+1)=some (.row [.int .i32 0,.int .i64 0,.int .i64 0,.int .i64 0] 0 false):=by rw[hH];exact Zz _ _
 obtain ⟨c,hc⟩:∃ c,(Yv Cell.k s.cells k).getD r4a=c:=⟨_,rfl⟩
 obtain ⟨b,hb⟩:∃ b,(Yv Cell.k s.cells k).isSome=b:=⟨_,rfl⟩
 obtain ⟨A,hA⟩:∃ A,H.push (.row [.int .i32 0,.int .i64 0,.int .i64 0,.int .i64 0] 0 false)=A:=⟨_,rfl⟩
 have eA:Ext H A:=hA▸Ext.push1 _ _
 have nA:A.next=H.next+1:=by rw[← hA];rfl
 have gA:A.get H.next=some (.row [.int .i32 0,.int .i64 0,.int .i64 0,.int .i64 0] 0 false):=by rw[← hA];exact Zz _ _
 have aH:=a.ext hE
 have aA:=aH.ext eA
 have lk:Zk A h.next 0 2=some (ZZ k):=by
  rw[Zu ((eA.get _ (by omega)).trans gk) (Nat.le_of_ble_eq_true rfl)]
  rfl
 have lu:Q0a Tryz.prog 79 (.map (some cid)) (ZZ k) true A=some (.tuple #[U0a c,.bool b]):=by
  rw[aA.cel.lookup k2b k true,aA.cm.2.2 k,if_pos rfl,← hc,← hb]
  cases Yv Cell.k s.cells k <;> rfl
 obtain ⟨M,hM⟩:∃ M,M=A.set H.next (.row [.int .i32 c.k.t,.int .i64 c.k.r,.int .i64 c.v,.int .i64 c.s] 0 false):=⟨_,rfl⟩
 have s1:Yx Tryz.prog 33 (.pointer (some ⟨H.next,0,none⟩)) (U0a c) A=some M:=by
  rw[hM]
  exact (V6a rfl).trans (b2a gA rfl rfl)
 have l1:Zk M H.next 0 4=some (U0a c):=by rw[hM,Zu (Zj _ _) (Nat.le_of_ble_eq_true rfl)];rfl
 have gM:M.get (h.next+1)=some (.row [.int .i32 0,.int .i64 0,.int .i64 0,.int .i64 0] 0 false):=by rw[hM,Zx _ _ (by omega)];exact (eA.get _ (by omega)).trans gr
 have eM:Ext h M:=by rw[hM];exact (hE.trans eA).set (by omega)
 have s2:Yx Tryz.prog 33 (.pointer (some ⟨h.next+1,0,none⟩)) (U0a c) M=some (M.set (h.next+1) (.row [.int .i32 c.k.t,.int .i64 c.k.r,.int .i64 c.v,.int .i64 c.s] 0 false)):=(V6a rfl).trans (b2a gM rfl rfl)
 obtain ⟨M2,hM2⟩:∃ M2,M2=M.set (h.next+1) (.row [.int .i32 c.k.t,.int .i64 c.k.r,.int .i64 c.v,.int .i64 c.s] 0 false):=⟨_,rfl⟩
 rw[← hM2]at s2
 have l2:Zk M2 (h.next+1) 0 4=some (U0a c):=by rw[hM2,Zu (Zj _ _) (Nat.le_of_ble_eq_true rfl)];rfl
 rw[hc,hb]
 simp -implicitDefEqProofs (disch:=first|omega|simp only[go_sem]) only[go_sem,true_and,c25,hcl,m0a,← hH]
 refine YX (j9a aH) ?_
 simp -implicitDefEqProofs (disch:=first|omega|simp only[go_sem]) only[go_sem,true_and]
 refine D8c rfl ?_
 simp -implicitDefEqProofs (disch:=first|omega|simp only[go_sem]) only[go_sem,true_and,x4c,r5c]
 simp -implicitDefEqProofs (disch:=first|omega|simp only[go_sem]) only[go_sem,true_and,hA,Zy aA.row,lk,lu,gA,s1,l1,s2,S5a,W2a,C5a,G0a,l2]
 exact ⟨_,rfl,rfl,by rw[hM2];exact eM.set (by omega)⟩
def N4a (x:Row):List Row→List Row
 | []=>[x]
 | y :: r=>if y.ses<x.ses then y :: N4a x r else if y.ses=x.ses then x :: r else x :: y :: r
abbrev UpR (l:List Row):Prop:=l.Pairwise fun a b=>a.ses<b.ses
theorem L6a {x z:Row}:∀ {l:List Row},UpR l→(z∈N4a x l↔z=x∨(z∈l∧z.ses≠x.ses))
 | [],_=>by simp[N4a]
 | y :: r,h=>by
   obtain ⟨hy,hr⟩:=List.pairwise_cons.1 h
   unfold N4a
   by_cases h1:y.ses<x.ses
   ·rw[if_pos h1,List.mem_cons,L6a hr,List.mem_cons]
    constructor
    ·rintro (rfl | h2 | ⟨h2,h3⟩)
     ·exact .inr ⟨.inl rfl,by omega⟩
     ·exact .inl h2
     ·exact .inr ⟨.inr h2,h3⟩
    ·rintro (h2 | ⟨h2 | h2,h3⟩)
     ·exact .inr (.inl h2)
     ·exact .inl h2
     ·exact .inr (.inr ⟨h2,h3⟩)
   ·rw[if_neg h1]
    have hgt:∀ q∈r,q.ses≠x.ses:=fun q hq e=>by have:=hy q hq;omega
    by_cases h2:y.ses=x.ses
    ·rw[if_pos h2,List.mem_cons,List.mem_cons]
     constructor
     ·rintro (h3 | h3)
      ·exact .inl h3
      ·exact .inr ⟨.inr h3,hgt z h3⟩
     ·rintro (h3 | ⟨h3 | h3,h4⟩)
      ·exact .inl h3
      ·rw[h3]at h4;exact absurd h2 h4
      ·exact .inr h3
    ·rw[if_neg h2,List.mem_cons,List.mem_cons]
     constructor
     ·rintro (h3 | h3 | h3)
      ·exact .inl h3
      ·exact .inr ⟨.inl h3,by rw[h3];exact h2⟩
      ·exact .inr ⟨.inr h3,hgt z h3⟩
     ·rintro (h3 | ⟨h3,_⟩)
      ·exact .inl h3
      ·exact .inr h3
theorem M0b {x:Row}:∀ {l:List Row},UpR l→UpR (N4a x l)
 | [],_=>by simp[N4a]
 | y :: r,h=>by
   obtain ⟨hy,hr⟩:=List.pairwise_cons.1 h
   unfold N4a
   by_cases h1:y.ses<x.ses
   ·rw[if_pos h1]
    refine List.pairwise_cons.2 ⟨fun z hz=>?_,M0b hr⟩
    rcases (L6a hr).1 hz with rfl | ⟨hz,_⟩
    ·exact h1
    ·exact hy z hz
   ·rw[if_neg h1]
    by_cases h2:y.ses=x.ses
    ·rw[if_pos h2]
     exact List.pairwise_cons.2 ⟨fun z hz=>by have:=hy z hz;omega,hr⟩
    ·rw[if_neg h2]
     refine List.pairwise_cons.2 ⟨fun z hz=>?_,h⟩
     rcases List.mem_cons.1 hz with rfl | hz
     ·omega
     ·have:=hy z hz;omega
theorem f1b {l:List Row} (h:UpR l) {n:Int} {x:Row}:I1a l n=some x↔x∈l∧x.ses=n:=by
 constructor
 ·exact Z2a
 ·rintro ⟨h1,h2⟩
  cases hq:I1a l n with
  | none=>exact absurd (List.mem_map.2 ⟨x,h1,h2⟩) (I9a.1 hq)
  | some y=>
    obtain ⟨h3,h4⟩:=Z2a hq
    congr 1
    obtain ⟨i,hi,hix⟩:=List.mem_iff_getElem.1 h1
    obtain ⟨j,hj,hjy⟩:=List.mem_iff_getElem.1 h3
    have hp:=List.pairwise_iff_getElem.1 h
    by_cases e:i=j
    ·subst e
     rw[← hix,← hjy]
    ·exfalso
     rcases Nat.lt_or_gt_of_ne e with e | e
     ·have:=hp i j hi hj e
      rw[hix,hjy]at this
      omega
     ·have:=hp j i hj hi e
      rw[hix,hjy]at this
      omega
theorem g1b {x:Row} {l:List Row} (h:UpR l) {n:Int}:I1a (N4a x l) n=if n=x.ses then some x else I1a l n:=by
 refine Option.ext fun z=>?_
 rw[f1b (M0b h),L6a h]
 by_cases hn:n=x.ses
 ·rw[if_pos hn,Option.some.injEq]
  constructor
  ·rintro ⟨h1 | h1,h2⟩
   ·exact h1.symm
   ·exact absurd (h2.trans hn) h1.2
  ·rintro rfl
   exact ⟨.inl rfl,hn.symm⟩
 ·rw[if_neg hn,f1b h]
  constructor
  ·rintro ⟨h1 | h1,h2⟩
   ·exact absurd (by rw[← h2,h1]) hn
   ·exact ⟨h1.1,h2⟩
  ·rintro ⟨h1,h2⟩
   exact ⟨.inr ⟨h1,fun e=>hn (h2.symm.trans e)⟩,h2⟩
theorem RowM.put {S:Nat→Prop} {h:DHeap} {rm:List (Int × Value)} {l:List Row} (a:RowM S h rm l) {x:Row} {v:Value} (hv:Sl fI64.rep S h v x.x.vs):RowM S h (X0a rm x.ses (m4a x v)) (N4a x l):=by
 refine ⟨P1a a.1,M0b a.2.1,fun n hn=>?_,fun n y hy=>?_⟩
 ·rw[g1b a.2.1]at hn
  rw[I3a a.1]
  split at hn
  ·cases hn
  ·rename_i hne
   rw[if_neg hne]
   exact a.2.2.1 n hn
 ·rw[g1b a.2.1]at hy
  rw[I3a a.1]
  split at hy
  ·rename_i he
   cases hy
   exact ⟨v,by rw[if_pos he],hv⟩
  ·rename_i hne
   rw[if_neg hne]
   exact a.2.2.2 n y hy
def goS (s:XV) (t:Txn) (i:Int):XV × Option Row:=
 if u4a s t then (⟨s.slot,K5a t s.slot s.cells,N4a ⟨t.ses,t.req,S1a t s.slot i s.cells⟩ s.rows⟩,some ⟨t.ses,t.req,S1a t s.slot i s.cells⟩) else (s,none)
def q2a (s:XV) (t:Txn) (i:Int):XV × Option Row:=
 match I1a s.rows t.ses with
 | some x=>if x.req=t.req then (s,some x) else goS s t i
 | none=>goS s t i
def s2a:XV × List Row→Nat→List Txn→XV × List Row
 | q,_,[]=>q
 | q,i,t :: l=>s2a ((q2a q.1 t i).1,q.2++(q2a q.1 t i).2.toList) (i+1) l
theorem A1b {t:Txn}:∀ {l:List Txn} {q:XV × List Row} {i:Nat},s2a q i (l++[t])=((q2a (s2a q i l).1 t ((i+l.length:Nat):Int)).1,(s2a q i l).2++(q2a (s2a q i l).1 t ((i+l.length:Nat):Int)).2.toList)
 | [],q,i=>rfl
 | y :: l,q,i=>by
   show s2a _ (i+1) (l++[t])=_
   rw[A1b (l:=l)]
   have:i+1+l.length=i+(y :: l).length:=by rw[List.length_cons];omega
   rw[this]
   rfl
theorem a1c {q:XV × List Row} {l:List Txn} {i:Nat} (hi:i<l.length):s2a q 0 (l.take (i+1))=((q2a (s2a q 0 (l.take i)).1 l[i] (i:Nat)).1,(s2a q 0 (l.take i)).2++(q2a (s2a q 0 (l.take i)).1 l[i] (i:Nat)).2.toList):=by
 have hl:0+(l.take i).length=i:=by simp;omega
 rw[List.take_succ_eq_append_getElem hi,A1b,hl]
theorem I3b {s:XV} {t:Txn} {i:Int}:(goS s t i).1.slot=s.slot:=by
 unfold goS
 split <;> rfl
theorem F0c {s:XV} {t:Txn} {i:Int}:(q2a s t i).1.slot=s.slot:=by
 unfold q2a
 split
 ·split
  ·rfl
  ·exact I3b
 ·exact I3b
theorem S7a:∀ {l:List Txn} {q:XV × List Row} {i:Nat},(s2a q i l).1.slot=q.1.slot
 | [],_,_=>rfl
 | t :: l,q,i=>by
   show (s2a ((q2a q.1 t i).1,_) (i+1) l).1.slot=_
   rw[S7a]
   exact F0c
theorem H3c {s:XV} {t:Txn} {i:Int}:(q2a s t i).2.toList.length≤1:=by
 cases (q2a s t i).2 <;> simp
theorem i4b:∀ {l:List Txn} {q:XV × List Row} {i:Nat},(s2a q i l).2.length≤q.2.length+l.length
 | [],_,_=>Nat.le_refl _
 | t :: l,q,i=>by
   have h1:=i4b (l:=l) (q:=((q2a q.1 t i).1,q.2++(q2a q.1 t i).2.toList)) (i:=i+1)
   have h2:=H3c (s:=q.1) (t:=t) (i:=i)
   show (s2a ((q2a q.1 t i).1,q.2++(q2a q.1 t i).2.toList) (i+1) l).2.length≤_
   simp only[List.length_append]at h1
   rw[List.length_cons]
   omega
theorem SerAt.put {h h1:DHeap} {B cid rid:Nat} {s:XV} {mm mm':List (Key × Value)} {rm:List (Int × Value)} {cells:List Cell} {x:Row} {v:Value} (a:SerAt h B cid rid s mm rm) (k:KpD (fun j=>j=cid∨j=rid) h h1) (hc:MapAt ZZ h1 cid mm') (cm:CelM mm' cells) (hok:∀ c∈cells,fCell.ok c) (hr:MapAt I0b h1 rid (X0a rm x.ses (m4a x v))) (hv:Sl fI64.rep (Q8a h1 B cid rid) h1 v x.x.vs) (hsm:x.x.vs.length≤4096):SerAt h1 B cid rid ⟨s.slot,cells,N4a x s.rows⟩ mm' (X0a rm x.ses (m4a x v)):=by
 have hn:=k.next
 obtain ⟨n1,n2,n3⟩:=a.ne
 obtain ⟨l1,l2,l3⟩:=a.lt
 refine ⟨(k.get _ l1 (by omega)).trans a.row,hc,cm,hr,RowM.put (a.rw.mono fun i hi=>⟨⟨Nat.lt_of_lt_of_le hi.1 hn,hi.2⟩,k.get i hi.1 (by obtain ⟨_,_,h2,h3⟩:=hi;omega)⟩) hv,⟨by omega,by omega,by omega⟩,a.ne,hok,fun z hz=>by
  rcases (L6a a.rw.2.1).1 hz with rfl | ⟨hz,_⟩
  ·exact hsm
  ·exact a.sm z hz⟩
theorem g6c {a b e s p:Int} {v:Value} (hv:v.cells=#[v]):Xy Tryz.prog 59 [(0,.int .i64 a),(1,.int .i64 b),(2,.agg #[.int .i64 e,v,.int .i64 s,.int .i64 p])]=some (.agg #[.int .i64 a,.int .i64 b,.int .i64 e,v,.int .i64 s,.int .i64 p]):=by
 refine l0a K1d ?_
 simp only[T4a]
 rfl
theorem b6c {a b e s p:Int} {v:Value}:Xy Tryz.prog 56 [(0,.int .i64 a),(1,.int .i64 b),(2,.agg #[.int .i64 e,v,.int .i64 s,.int .i64 p])]=some (.agg #[.int .i64 a,.int .i64 b,.int .i64 e,v,.int .i64 s,.int .i64 p]):=by
 refine l0a J1d ?_
 simp only[T4a]
 rfl
def rRowU:Rep Row where
 z:=6
 rd S h cs x:=∃ v,cs=[.int .i64 x.ses,.int .i64 x.req,.int .i64 x.x.e,v,.int .i64 x.x.s,.int .i64 x.x.p]∧Sl fI64.rep S h v x.x.vs
 len h:=by obtain ⟨v,rfl,_⟩:=h;rfl
 one h:=by
  obtain ⟨v,rfl,s⟩:=h
  obtain ⟨_,_,rfl⟩:=s.isSlice
  rfl
 mono h m:=by
  obtain ⟨v,e,s⟩:=h
  exact ⟨v,e,s.mono m⟩
 vin h:=by
  obtain ⟨v,rfl,s⟩:=h
  intro y hy
  simp only[List.mem_cons,List.not_mem_nil,or_false]at hy
  rcases hy with rfl | rfl | rfl | rfl | rfl | rfl
  ·exact T0a _ _
  ·exact T0a _ _
  ·exact T0a _ _
  ·exact s.vin
  ·exact T0a _ _
  ·exact T0a _ _
theorem m8c {S:Nat→Prop} {h:DHeap} {v:Value} {l:List Txn} (hb:Sl rTxn S h v l) {i:Nat} (hi:i<l.length):∃ id o vc va vr vw,ZQ Tryz.prog 43 v (.int .i64 (i:Nat))=some (.pointer (some ⟨id,o,none⟩))∧Zk h id o 6=some (h1a l[i].ses l[i].req vc va vr vw)∧TxV S h l[i] vc va vr vw∧inK .i64 l[i].ses∧inK .i64 l[i].req:=by
 obtain ⟨id,o,e,_,hat⟩:=hb.idx (P:=Tryz.prog) (t:=43) q3d (k:=.i64) (i:=i) (x:=l[i]) (by simp)
 obtain ⟨cs,h1,h2⟩:=hat.load_agg
 obtain ⟨vc,va,vr,vw,rfl,k1,k2,tx⟩:=n2d h2
 exact ⟨id,o,vc,va,vr,vw,e,h1,tx,k1,k2⟩
abbrev k7a (n:Nat) (h:DHeap) (w:Option Nat):Nat→Prop:=fun j=>(n≤j∧j<h.next)∧w≠some j
theorem u9a {K:DHeap} {fr:Fr} {bt br n:Nat} {t:Txn} {x:Res} {v u:Value} {ans:List Row} {w:Option Nat} (f6:fr 6=some u) (f8:fr 8=some (.pointer (some ⟨bt,0,none⟩))) (f9:fr 9=some (.pointer (some ⟨br,0,none⟩)))
 (c0:∀ M,Ext K M→Zq M bt 0=some (.int .i64 t.ses)) (c1:∀ M,Ext K M→Zq M bt 1=some (.int .i64 t.req)) (cr:Zk K br 2 4=some (u5a x v)) (hv:Arg fI64.rep K v x.vs) (hl:x.vs.length≤4294967296)
 (o:Owns rRowU (k7a n K w) K u ans w) (hn:n≤K.next) (hw:∀ j,w=some j→n≤j) (hlen:ans.length+1≤4294967296) :
 NC Tryz.prog 97 H5c (N0a (fun s=>s.df=[]∧s.rd=none∧K.next≤s.h.next∧s.h.ng=K.ng∧(∀ j,j<K.next→w≠some j→s.h.get j=K.get j)∧(∃ u2 w2,s.fr 6=some u2∧Owns rRowU (k7a n s.h w2) s.h u2 (ans++[⟨t.ses,t.req,x⟩]) w2∧∀ j,w2=some j→n≤j)∧s.fr 0=fr 0∧s.fr 3=fr 3∧s.fr 21=fr 21∧s.fr 22=fr 22∧s.fr 23=fr 23) (fun _ _=>False)) ⟨fr,[],K,none⟩:=by
 refine C8c rfl ?_
 simp -implicitDefEqProofs (disch:=first|omega|simp only[go_sem]) only[go_sem,true_and,w4c,q5c,f6,f8,f9,c0 K (.refl _),c1 K (.refl _),cr]
 refine A3a (U7c hv hl) ?_
 rintro r M ⟨w1,rfl,mw⟩
 have hM:=mw.ext.next
 have ol:=o.lt
 have o1:Owns rRowU (k7a n M w) M u ans w:=o.mono hM (fun i hi=>mw.ext.get i (ol i hi)) fun i hi=>⟨⟨⟨hi.1.1,Nat.lt_of_lt_of_le hi.1.2 hM⟩,hi.2⟩,mw.ext.get i hi.1.2⟩
 have hx:rRowU.rd (k7a n M w) M [.int .i64 t.ses,.int .i64 t.req,.int .i64 x.e,w1,.int .i64 x.s,.int .i64 x.p] ⟨t.ses,t.req,x⟩:=⟨w1,rfl,mw.sl.mono fun i hi=>⟨⟨⟨Nat.le_trans hn hi.1,hi.2⟩,fun e=>by have:=ol i e;have:=hi.1;omega⟩,rfl⟩⟩
 obtain ⟨u2,h2,e3,y1,y2,y3,o3⟩:=o1.snoc (ts:=#[51,51]) (z:=6) (fun j hj=>⟨hj.1.2,hj.2⟩) hx rfl (by decide) i9c hlen (by decide)
 have hbs:∀ (L:DHeap),f0a Tryz.prog 51 1 [(0,.agg #[.int .i64 t.ses,.int .i64 t.req,.int .i64 x.e,w1,.int .i64 x.s,.int .i64 x.p])] L=some (.slice (some ⟨L.next,0,none⟩) 1 1,L.push (.row [.int .i64 t.ses,.int .i64 t.req,.int .i64 x.e,w1,.int .i64 x.s,.int .i64 x.p] 6 false)):=fun L=>E8b rfl
 simp -implicitDefEqProofs (disch:=first|omega|simp only[go_sem]) only[go_sem,true_and,P5a,c0 M mw.ext,c1 M mw.ext,b6c,hbs,e3]
 refine ⟨by omega,y2.trans mw.ext.ng,fun j hj hne=>(y3 j (by omega) hne).trans (mw.ext.get j hj),⟨u2,_,rfl,o3.mono (Nat.le_refl _) (fun _ _=>rfl) fun i hi=>⟨⟨⟨hi.1.1,by show i<h2.next;have:=hi.1.2;omega⟩,fun e=>by cases e;have:=hi.1.2;omega⟩,rfl⟩,fun j hj=>by cases hj;omega⟩,by trivial⟩
theorem s7b {K:DHeap} {fr:Fr} {B cid rid bt br:Nat} {s:XV} {mm:List (Key × Value)} {rm:List (Int × Value)} {t:Txn} {vc va vr vw:Value} {i:Int} {R0:List Value}
 (f0:fr 0=some (.pointer (some ⟨B,0,none⟩))) (f7:fr 7=some (.int .i64 i)) (f8:fr 8=some (.pointer (some ⟨bt,0,none⟩))) (f9:fr 9=some (.pointer (some ⟨br,0,none⟩)))
 (a:SerAt K B cid rid s mm rm) (gt:K.get bt=some (.row [.int .i64 t.ses,.int .i64 t.req,vc,va,vr,vw] 0 false)) (gr:K.get br=some (.row R0 0 false)) (hR:R0.length=6) (hbt:bt<K.next∧bt≠cid) (hbr:br<K.next∧br≠cid) (x:TxV (InH K) K t vc va vr vw) (hT:y6a t) (hs:inK .i64 s.slot) :
 NC Tryz.prog 97 F5c (N0a (fun st=>st.df=[]∧st.rd=none∧(∃ vv mm',KpD (fun j=>j=cid∨j=br) K st.h∧st.h.get br=some (.row [.int .i64 t.ses,.int .i64 t.req,.int .i64 (S1a t s.slot i s.cells).e,vv,.int .i64 s.slot,.int .i64 i] 0 false)∧Sl fI64.rep (u6a K st.h) st.h vv (S1a t s.slot i s.cells).vs∧MapAt ZZ st.h cid mm'∧CelM mm' (K5a t s.slot s.cells)∧∀ c∈K5a t s.slot s.cells,fCell.ok c)∧st.fr 0=fr 0∧st.fr 3=fr 3∧st.fr 6=fr 6∧st.fr 8=fr 8∧st.fr 9=fr 9∧st.fr 21=fr 21∧st.fr 22=fr 22∧st.fr 23=fr 23) (fun _ _=>False)) ⟨fr,[],K,none⟩:=by
 have lt:Zk K bt 0 6=some (h1a t.ses t.req vc va vr vw):=by rw[Zu gt (Nat.le_of_ble_eq_true rfl)];rfl
 refine A8c rfl ?_
 simp -implicitDefEqProofs (disch:=first|omega|simp only[go_sem]) only[go_sem,true_and,u4c,o5c,f0,f7,f8,f9,Zy gt,lt,Zy a.row]
 refine A3a (R3c x hT a.cel a.cm a.lt.2.1 a.ok hs) ?_
 rintro r M ⟨vv,mm',rfl,k,sv,am,cm,hok⟩
 have gt2:=(k.get bt hbt.1 hbt.2).trans gt
 have gr2:=(k.get br hbr.1 hbr.2).trans gr
 have kn:=k.next
 have hone:[Value.int .i64 t.ses,.int .i64 t.req,.int .i64 (S1a t s.slot i s.cells).e,vv,.int .i64 s.slot,.int .i64 i].all Value.oneCell'=true:=by
  obtain ⟨_,_,rfl⟩:=sv.isSlice
  rfl
 obtain ⟨M2,hM2⟩:∃ M2,M2=M.set br (.row [.int .i64 t.ses,.int .i64 t.req,.int .i64 (S1a t s.slot i s.cells).e,vv,.int .i64 s.slot,.int .i64 i] 0 false):=⟨_,rfl⟩
 have s1:Yx Tryz.prog 59 (.pointer (some ⟨br,0,none⟩)) (.agg #[.int .i64 t.ses,.int .i64 t.req,.int .i64 (S1a t s.slot i s.cells).e,vv,.int .i64 s.slot,.int .i64 i]) M=some M2:=by
  rw[hM2]
  exact (m2b rfl).trans (b2a gr2 (by rw[hR];rfl) hone)
 have hbd:Xy Tryz.prog 59 [(0,.int .i64 t.ses),(1,.int .i64 t.req),(2,u5a (S1a t s.slot i s.cells) vv)]=some (.agg #[.int .i64 t.ses,.int .i64 t.req,.int .i64 (S1a t s.slot i s.cells).e,vv,.int .i64 s.slot,.int .i64 i]):=g6c sv.cells1
 simp -implicitDefEqProofs (disch:=first|omega|simp only[go_sem]) only[go_sem,true_and,P5a,f7,f8,f9,f0,Zy gt2,hbd,s1]
 have oth:∀ j,j≠br→M2.get j=M.get j:=fun j hj=>by rw[hM2];exact Zx _ _ hj
 have nM2:M2.next=M.next:=by rw[hM2];rfl
 refine ⟨⟨vv,mm',⟨by omega,by rw[hM2];exact k.ng,fun j hj hn=>(oth j (fun e=>hn (.inr e))).trans (k.get j hj fun e=>hn (.inl e))⟩,by rw[hM2];exact Zj _ _,sv.mono fun j hj=>⟨⟨hj.1,by show j<M2.next;have:=hj.2;omega⟩,oth j (by have:=hj.1;omega)⟩,am.keep (oth _ (Ne.symm hbr.2)),cm,hok⟩,by trivial⟩
theorem w6c {S:Nat→Prop} {K:DHeap} {t:Txn} {vc va vr vw:Value} (x:TxV S K t vc va vr vw) :
 ∃ K1,Yx Tryz.prog 26 (.pointer (some ⟨K.next,0,none⟩)) (h1a t.ses t.req vc va vr vw) (K.push (.row [.int .i64 0,.int .i64 0,.slice none 0 0,.slice none 0 0,.slice none 0 0,.slice none 0 0] 0 false))=some K1∧Ext K K1∧K1.get K.next=some (.row [.int .i64 t.ses,.int .i64 t.req,vc,va,vr,vw] 0 false)∧K1.next=K.next+1:=
 ⟨K.push (.row [.int .i64 t.ses,.int .i64 t.req,vc,va,vr,vw] 0 false),(K5c rfl).trans (c0a rfl (x.one _ _)),Ext.push1 _ _,Zz _ _,rfl⟩
abbrev C7a (k f n:Int) (vt:Value):Value:=.agg #[.int .i64 k,.int .i64 f,.int .i64 n,vt]
def h3a (k:Int) (q:XV × List Row) (l:List Txn):XV × List Row:=if k=1 then s2a q 0 l else q
theorem v5a {q:XV × List Row} {l:List Txn}:h3a 1 q l=s2a q 0 l:=if_pos rfl
theorem g4b {k:Int} {q:XV × List Row} {l:List Txn} (h:¬ k=1):h3a k q l=q:=if_neg h
theorem Z0c {k:Int} {q:XV × List Row} {l:List Txn}:(h3a k q l).1.slot=q.1.slot:=by
 unfold h3a
 split
 ·exact S7a
 ·rfl
def ApR (h:DHeap) (B cid rid:Nat) (k:Int) (s:XV) (l:List Txn) (r:DEnd) (h1:DHeap):Prop:=
 ∃ u mm' rm',r=.ret (.tuple #[u,.int .i64 0])∧KpD (fun j=>j=B∨j=cid∨j=rid) h h1∧SerAt h1 B cid rid ⟨s.slot+1,(h3a k (s,[]) l).1.cells,(h3a k (s,[]) l).1.rows⟩ mm' rm'∧Sl rRowU (u6a h h1) h1 u (h3a k (s,[]) l).2
theorem L7b {K:DHeap} {fr:Fr} {B cid rid bt br:Nat} {sl:Int} {rm:List (Int × Value)} {x:Row} {vv:Value} {cs:List Value}
 (f0:fr 0=some (.pointer (some ⟨B,0,none⟩))) (f8:fr 8=some (.pointer (some ⟨bt,0,none⟩))) (f9:fr 9=some (.pointer (some ⟨br,0,none⟩)))
 (gB:K.get B=some (.row [.int .i64 sl,.map (some cid),.map (some rid)] 0 false)) (gt:K.get bt=some (.row (.int .i64 x.ses :: cs) 0 false)) (gr:K.get br=some (.row [.int .i64 x.ses,.int .i64 x.req,.int .i64 x.x.e,vv,.int .i64 x.x.s,.int .i64 x.x.p] 0 false)) (am:MapAt I0b K rid rm) :
 NC Tryz.prog 97 G5c (N0a (fun st=>st.df=[]∧st.rd=none∧(∃ ob,st.h=K.set rid ob∧MapAt I0b (K.set rid ob) rid (X0a rm x.ses (m4a x vv)))∧st.fr 0=fr 0∧st.fr 3=fr 3∧st.fr 6=fr 6∧st.fr 8=fr 8∧st.fr 9=fr 9∧st.fr 21=fr 21∧st.fr 22=fr 22∧st.fr 23=fr 23) (fun _ _=>False)) ⟨fr,[],K,none⟩:=by
 have lr:Zk K br 0 6=some (m4a x vv):=by rw[Zu gr (Nat.le_of_ble_eq_true rfl)];rfl
 obtain ⟨ob,s1,aq⟩:=am.update B7b x.ses (m4a x vv)
 refine B8c rfl ?_
 simp -implicitDefEqProofs (disch:=first|omega|simp only[go_sem]) only[go_sem,true_and,v4c,p5c,f0,f8,f9,Zy gB,Zy gt,lr,s1,P5a]
 exact ⟨⟨ob,rfl,aq⟩,by trivial⟩
theorem SerAt.ans {K N:DHeap} {B cid rid:Nat} {s:XV} {mm:List (Key × Value)} {rm:List (Int × Value)} {S:Nat→Prop} {u:Value} {ans:List Row} {w:Option Nat} (a:SerAt K B cid rid s mm rm) (o:Owns rRowU S K u ans w) (hn:K.next≤N.next) (k:∀ j,j<K.next→w≠some j→N.get j=K.get j) (hw:∀ j,w=some j→j≠B∧j≠cid∧j≠rid):SerAt N B cid rid s mm rm:=by
 obtain ⟨l1,l2,l3⟩:=a.lt
 have hz:∀ i,NoRow K i 6→w≠some i:=fun i hi e=>by
  rcases o with ⟨_,_,rfl⟩ | ⟨rfl,_⟩ | ⟨id,cap,cells,_,rfl,_,g,_⟩
  ·cases e
  ·cases e
  ·cases e
   exact hi _ g
 exact ⟨(k B l1 fun e=>(hw B e).1 rfl).trans a.row,a.cel.keep (k cid l2 fun e=>(hw cid e).2.1 rfl),a.cm,a.rwm.keep (k rid l3 fun e=>(hw rid e).2.2 rfl),
  ⟨a.rw.1,a.rw.2.1,a.rw.2.2.1,fun n x hx=>by
   obtain ⟨v,h1,h2⟩:=a.rw.2.2.2 n x hx
   exact ⟨v,h1,(k4b (z:=6) h2 fun i hi hr=>k i hi.1 (hz i hr)).mono fun i hi=>⟨⟨Nat.lt_of_lt_of_le hi.1 hn,hi.2⟩,rfl⟩⟩⟩,
  ⟨by omega,by omega,by omega⟩,a.ne,a.ok,a.sm⟩
theorem T0b {h H K:DHeap} {B cid rid:Nat} {k:Int} {s:XV} {l:List Txn} {mm:List (Key × Value)} {rm:List (Int × Value)} {u:Value} {w:Option Nat} (hE:Ext h H) (hHn:H.next=h.next+1) (l0:B<h.next∧cid<h.next∧rid<h.next) (h0:0≤s.slot) (hs:s.slot<1099511627776) (kK:KpD (fun j=>j=cid∨j=rid) H K) (aq:SerAt K B cid rid (h3a k (s,[]) l).1 mm rm) (ow:Owns rRowU (k7a H.next K w) K u (h3a k (s,[]) l).2 w) (hw:∀ j,w=some j→H.next≤j) :
 ∃ K1,K.get B=some (.row [.int .i64 s.slot,.map (some cid),.map (some rid)] 0 false)∧IntKind.i64.wrap (s.slot+1)=s.slot+1∧storeAt K B 0 [.int .i64 (s.slot+1)]=some K1∧ApR h B cid rid k s l (.ret (.tuple #[u,.int .i64 0])) K1:=by
 have kn:=kK.next
 obtain ⟨n1,n2,n3⟩:=aq.ne
 have hslot:(h3a k (s,[]) l).1.slot=s.slot:=Z0c
 obtain ⟨q,hqq⟩:∃ q,h3a k (s,[]) l=q:=⟨_,rfl⟩
 rw[hqq]at aq ow hslot
 have hwS:IntKind.i64.wrap (s.slot+1)=s.slot+1:=o0a (by omega) (by omega)
 have gB:=aq.row
 rw[hslot]at gB
 obtain ⟨K1,hK1⟩:∃ M,M=K.set B (.row [.int .i64 (s.slot+1),.map (some cid),.map (some rid)] 0 false):=⟨_,rfl⟩
 have s1:storeAt K B 0 [.int .i64 (s.slot+1)]=some K1:=by rw[hK1];exact b0a gB (by simp) rfl
 have oth:∀ j,j≠B→K1.get j=K.get j:=fun j hj=>by rw[hK1];exact Zx _ _ hj
 have nK1:K1.next=K.next:=by rw[hK1];rfl
 have hnil:=ow.lt
 refine ⟨K1,gB,hwS,s1,?_⟩
 unfold ApR
 rw[hqq]
 refine ⟨u,mm,rm,rfl,⟨by omega,by rw[hK1];exact kK.ng.trans hE.ng,fun j hj hn2=>(oth j (fun e=>hn2 (.inl e))).trans ((kK.get j (by omega) fun e=>hn2 (.inr e)).trans (hE.get j hj))⟩,⟨?_,aq.cel.keep (oth _ (Ne.symm n1)),aq.cm,aq.rwm.keep (oth _ (Ne.symm n2)),?_,?_,aq.ne,aq.ok,aq.sm⟩,?_⟩
 ·rw[hK1];exact Zj _ _
 ·exact aq.rw.mono fun j hj=>⟨⟨by show j<K1.next;have:=hj.1;omega,hj.2⟩,oth j hj.2.1⟩
 ·rw[nK1];exact aq.lt
 ·refine ow.sl.mono fun j hj=>?_
  have h1:H.next≤j∧j<K.next:=by
   rcases hj with hj | hj
   ·exact hj.1
   ·exact ⟨hw j hj,hnil j hj⟩
  exact ⟨⟨by omega,by show j<K1.next;omega⟩,oth j (by omega)⟩
set_option maxHeartbeats 4000000 in
theorem z8b {h:DHeap} {B cid rid:Nat} {s:XV} {mm:List (Key × Value)} {rm:List (Int × Value)} {l:List Txn} {vt:Value} {k f n:Int} (a:SerAt h B cid rid s mm rm) (h0:0≤s.slot) (hs:s.slot<1099511627776) (hb:Sl rTxn (Q8a h B cid rid) h vt l) (hT:∀ t∈l,y6a t) (hll:l.length≤1048576) :
 Ct Tryz.prog 19 [.pointer (some ⟨B,0,none⟩),C7a k f n vt] h (ApR h B cid rid k s l):=by
 refine L4c (by simp) ?_
 have hcl:(C7a k f n vt).cells.toList=[.int .i64 k,.int .i64 f,.int .i64 n,vt]:=rfl
 obtain ⟨H,hH⟩:∃ H,H=h.push (.row [.int .i64 k,.int .i64 f,.int .i64 n,vt] 0 false):=⟨_,rfl⟩
 have hE:Ext h H:=by rw[hH];exact Ext.push1 _ _
 have hHn:H.next=h.next+1:=by rw[hH];rfl
 have gH:H.get h.next=some (.row [.int .i64 k,.int .i64 f,.int .i64 n,vt] 0 false):=by rw[hH];exact Zz _ _
 have aH:=a.ext hE
 have el:∀ K,dLen Tryz.prog #[43] vt K=some (.int .i64 (l.length:Nat)):=hb.lens (P:=Tryz.prog) (ts:=#[43]) (t:=43) rfl q1d
 have hnf:¬ 1099511627776≤s.slot:=by omega
 have hsk:inK .i64 s.slot:=w0a.2 ⟨by omega,by omega⟩
 obtain ⟨n1,n2,n3⟩:=a.ne
 obtain ⟨l1,l2,l3⟩:=a.lt
 simp -implicitDefEqProofs (disch:=first|omega|simp only[go_sem]) only[go_sem,true_and,c19,hcl,← hH]
 refine YX (j9a aH) ?_
 simp -implicitDefEqProofs (disch:=first|omega|simp only[go_sem]) only[go_sem,true_and,Zy aH.row,hnf,Zy gH,el]
 refine A0a (σ:=Nat) (by kernel_rfl) (fun i st=>st.df=[]∧st.rd=none∧st.fr 0=some (.pointer (some ⟨B,0,none⟩))∧st.fr 3=some (.pointer (some ⟨h.next,0,none⟩))∧st.fr 21=some vt∧st.fr 22=some (.int .i64 (l.length:Nat))∧st.fr 23=some (.int .i64 (i:Nat))∧i≤l.length∧KpD (fun j=>j=cid∨j=rid) H st.h∧(∃ mm rm,SerAt st.h B cid rid (h3a k (s,[]) (l.take i)).1 mm rm)∧∃ u w,st.fr 6=some u∧Owns rRowU (k7a H.next st.h w) st.h u (h3a k (s,[]) (l.take i)).2 w∧∀ j,w=some j→H.next≤j) (fun i=>l.length - i) 0 ?_ ?_
 ·simp -implicitDefEqProofs (disch:=first|omega|simp only[go_sem]) only[go_sem,true_and]
  have hk0:h3a k (s,[]) (l.take 0)=(s,[]):=by unfold h3a;split <;> rfl
  rw[hk0]
  exact ⟨by trivial,Nat.zero_le _,.refl _ _,⟨_,_,aH⟩,_,none,rfl,Owns.nil _ _ _,fun j hj=>by cases hj⟩
 rintro i ⟨fr,df,K,rd⟩ K' hK' hX ⟨rfl,rfl,f0,f3,f21,f22,f23,hi,kK,⟨mq,rq,aq⟩,u,w,f6,ow,hw⟩
 simp only at f0 f3 f21 f22 f23 kK aq f6 ow
 have kn:=kK.next
 simp -implicitDefEqProofs (disch:=first|omega|simp only[go_sem]) only[go_sem,true_and,f21,f22,f23]
 refine n0a (fun hc1=>?_) (fun hc1=>?_)
 ·have hj:i<l.length:=by omega
  have hw1:=d0a hj (by omega)
  have hbK:Sl rTxn (Q8a K B cid rid) K vt l:=hb.mono fun j hj2=>⟨⟨by have:=hj2.1;omega,hj2.2⟩,by rw[kK.get j (by have:=hj2.1;omega) (by obtain ⟨_,_,c,d⟩:=hj2;omega),hE.get j hj2.1]⟩
  obtain ⟨id1,o1,vc,va,vr,vw,i1,a1,tx,kt1,kt2⟩:=m8c hbK hj
  obtain ⟨K1,t1,eK1,gK1,nK1⟩:=w6c tx
  have gE:=(eK1.get h.next (by omega)).trans ((kK.get h.next (by omega) (by omega)).trans gH)
  by_cases hkd:k=1
  case neg=>
   simp -implicitDefEqProofs (disch:=first|omega|simp only[go_sem]) only[go_sem,true_and,f3,f21,f23,i1,a1,t1,Zy gE,eq_false hkd,decide_false,Bool.not_false]
   refine hX _ _ (by simp) ?_
   rw[g4b hkd]at aq ow
   have hkl:h3a k (s,[]) l=(s,[]):=g4b hkd
   obtain ⟨K2,gB,hwS,s1,hres⟩:=T0b (k:=k) (l:=l) hE hHn a.lt h0 hs (kK.ext eK1) (by rw[hkl];exact aq.ext eK1) (by rw[hkl];exact ow.mono (by omega) (fun j hj2=>eK1.get j (ow.lt j hj2)) fun j hj2=>⟨⟨⟨hj2.1.1,by have:=hj2.1.2;omega⟩,hj2.2⟩,eK1.get j hj2.1.2⟩) hw
   simp -implicitDefEqProofs (disch:=first|omega|simp only[go_sem]) only[go_sem,true_and,f0,f6,Zy gB,hwS,s1]
   exact ⟨_,rfl,hres⟩
  subst hkd
  rw[v5a]at aq ow
  have hq:=a1c (q:=(s,[])) hj
  obtain ⟨q,hqq⟩:∃ q,s2a (s,[]) 0 (l.take i)=q:=⟨_,rfl⟩
  rw[hqq]at hq aq ow
  have hslot:q.1.slot=s.slot:=by rw[← hqq];exact S7a
  have ht:=hT _ (List.getElem_mem hj)
  obtain ⟨t,htt⟩:∃ t,l[i]=t:=⟨_,rfl⟩
  rw[htt]at hq a1 tx kt1 kt2 t1 gK1 ht
  obtain ⟨A,hA⟩:∃ A,K1.push (.row [.int .i64 0,.int .i64 0,.int .i64 0,.slice none 0 0,.int .i64 0,.int .i64 0] 0 false)=A:=⟨_,rfl⟩
  have eA:Ext K1 A:=hA▸Ext.push1 _ _
  have nA:A.next=K1.next+1:=by rw[← hA];rfl
  have gA:A.get K1.next=some (.row [.int .i64 0,.int .i64 0,.int .i64 0,.slice none 0 0,.int .i64 0,.int .i64 0] 0 false):=by rw[← hA];exact Zz _ _
  have gT:=(eA.get K.next (by omega)).trans gK1
  have eKA:=eK1.trans eA
  have aA:=aq.ext eKA
  obtain ⟨l1',l2',l3'⟩:=aq.lt
  have lk:=aA.rwm.lookup B7b t.ses true
  obtain ⟨y,v,b,hyv,hlk,hvs⟩:∃ (y:Row) (v:Value) (b:Bool),((b=true∧I1a q.1.rows t.ses=some y)∨(b=false∧I1a q.1.rows t.ses=none))∧Q0a Tryz.prog 80 (.map (some rid)) (.int .i64 t.ses) true A=some (.tuple #[m4a y v,.bool b])∧Sl fI64.rep (Q8a A B cid rid) A v y.x.vs:=by
   cases hf:I1a q.1.rows t.ses with
   | some y=>
     obtain ⟨v,h1,h2⟩:=aA.rw.2.2.2 _ _ hf
     rw[h1]at lk
     exact ⟨y,v,true,.inl ⟨rfl,rfl⟩,lk,h2⟩
   | none=>
     rw[aA.rw.2.2.1 _ hf]at lk
     exact ⟨P7b,YU,false,.inr ⟨rfl,rfl⟩,lk,.nil _ _ _⟩
  obtain ⟨M,hM⟩:∃ M,M=A.set K1.next (.row [.int .i64 y.ses,.int .i64 y.req,.int .i64 y.x.e,v,.int .i64 y.x.s,.int .i64 y.x.p] 0 false):=⟨_,rfl⟩
  have s1:Yx Tryz.prog 59 (.pointer (some ⟨K1.next,0,none⟩)) (m4a y v) A=some M:=by
   rw[hM]
   exact (m2b rfl).trans (b2a gA rfl (by obtain ⟨_,_,rfl⟩:=hvs.isSlice;rfl))
  have gR:M.get K1.next=some (.row [.int .i64 y.ses,.int .i64 y.req,.int .i64 y.x.e,v,.int .i64 y.x.s,.int .i64 y.x.p] 0 false):=by rw[hM];exact Zj _ _
  have eM:Ext K M:=by rw[hM];exact eKA.set (by omega)
  have nM:M.next=K1.next+1:=by rw[hM];exact nA
  have aM:=aq.ext eM
  have gTM:M.get K.next=some (.row [.int .i64 t.ses,.int .i64 t.req,vc,va,vr,vw] 0 false):=by rw[hM,Zx _ _ (by omega)];exact gT
  simp -implicitDefEqProofs (disch:=first|omega|simp only[go_sem]) only[go_sem,true_and,f3,f21,f23,i1,a1,t1,Zy gE]
  refine z8c rfl ?_
  simp -implicitDefEqProofs (disch:=first|omega|simp only[go_sem]) only[go_sem,true_and,t4c,n5c]
  simp -implicitDefEqProofs (disch:=first|omega|simp only[go_sem]) only[go_sem,true_and,hA,f0,Zy aA.row,Zy gT,hlk,s1,gA]
  have oM:Owns rRowU (k7a H.next M w) M u q.2 w:=ow.mono (by omega) (fun j hj2=>eM.get j (ow.lt j hj2)) fun j hj2=>⟨⟨⟨hj2.1.1,by have:=hj2.1.2;omega⟩,hj2.2⟩,eM.get j hj2.1.2⟩
  have hqlen:q.2.length≤l.length:=by
   have:=i4b (q:=(s,[])) (i:=0) (l:=l.take i)
   rw[hqq]at this
   simp at this
   omega
  by_cases hsame:b=true∧y.req=t.req
  ·obtain ⟨rfl,hreq⟩:=hsame
   have hf:I1a q.1.rows t.ses=some y:=by
    rcases hyv with ⟨_,h1⟩ | ⟨h1,_⟩
    ·exact h1
    ·cases h1
   have hone:q2a q.1 t (i:Nat)=(q.1,some y):=by unfold q2a;rw[hf];simp only[hreq,if_true]
   have hyy:y=⟨t.ses,t.req,y.x⟩:=by
    obtain ⟨y1,y2,y3⟩:=y
    have:=(Z2a hf).2
    simp only at this hreq
    rw[this,hreq]
   have hreq':=eq_true hreq
   have hvM:Arg fI64.rep M v y.x.vs:=by
    rw[hM]
    exact Z5c (hvs.mono fun j hj2=>⟨hj2.1,rfl⟩:Arg fI64.rep A v y.x.vs) gA (by decide)
   have hvl:=aq.sm y (Z2a hf).1
   have cr:Zk M K1.next 2 4=some (u5a y.x v):=by rw[Zu gR (Nat.le_of_ble_eq_true rfl)];rfl
   simp -implicitDefEqProofs (disch:=first|omega|simp only[go_sem]) only[go_sem,true_and,ZJ,Yz,Bool.not_true,Bool.not_false,Zy gR,Zy gTM,hreq']
   refine NC.mono (u9a (n:=H.next) (t:=t) (x:=y.x) (vy f6) vz vz (fun N e=>Zy ((e.get _ (by omega)).trans gTM)) (fun N e=>Zy ((e.get _ (by omega)).trans gTM)) cr hvM (by omega) oM (by omega) hw (by omega)) ?_
   rintro e ⟨fr1,df1,N,rd1⟩ hG
   cases e <;> try exact hG.elim
   obtain ⟨rfl,rfl,kN,gN,oN,⟨u2,w2,p6,o2,hw2⟩,p0,p3,p21,p22,p23⟩:=hG
   simp only at kN gN oN p6 o2 p0 p3 p21 p22 p23
   have hne0:∀ j,w=some j→j≠B∧j≠cid∧j≠rid:=fun j hj=>by have:=hw j hj;omega
   simp -implicitDefEqProofs (disch:=first|omega|simp only[go_sem]) only[go_sem,true_and,p23,f23,hw1]
   refine hK' (i+1) _ ?_ (by omega)
   rw[v5a,hq,hone]
   exact ⟨by trivial,by trivial,by simp -implicitDefEqProofs (disch:=first|omega|simp only[go_sem]) only[go_sem,true_and,p0,f0],by simp -implicitDefEqProofs (disch:=first|omega|simp only[go_sem]) only[go_sem,true_and,p3,f3],by simp -implicitDefEqProofs (disch:=first|omega|simp only[go_sem]) only[go_sem,true_and,p21,f21],by simp -implicitDefEqProofs (disch:=first|omega|simp only[go_sem]) only[go_sem,true_and,p22,f22],vz,by omega,⟨by show H.next≤N.next;omega,gN.trans (eM.ng.trans kK.ng),fun j hj hn=>(oN j (by omega) fun e=>by have:=hw j e;omega).trans ((eM.get j (by omega)).trans (kK.get j hj hn))⟩,⟨mq,rq,aM.ans oM kN oN hne0⟩,u2,w2,by simp -implicitDefEqProofs (disch:=first|omega|simp only[go_sem]) only[go_sem,true_and,p6],by rw[hyy]at o2 ⊢;exact o2,hw2⟩
  ·have hone:q2a q.1 t (i:Nat)=goS q.1 t (i:Nat):=by
    unfold q2a
    rcases hyv with ⟨hb1,h1⟩ | ⟨_,h1⟩
    ·rw[h1]
     exact if_neg fun e=>hsame ⟨hb1,e⟩
    ·rw[h1]
   have hcase:b=false∨(b=true∧(y.req=t.req)=False):=by
    cases b
    ·exact .inl rfl
    ·exact .inr ⟨rfl,eq_false fun e=>hsame ⟨rfl,e⟩⟩
   have lT:Zk M K.next 0 6=some (h1a t.ses t.req vc va vr vw):=by rw[Zu gTM (Nat.le_of_ble_eq_true rfl)];rfl
   have hnx:=C3c (t:=t) (vc:=vc) (va:=va) (vr:=vr) (vw:=vw) aM
   have txM:TxV (InH M) M t vc va vr vw:=tx.mono fun j hj=>⟨by show j<M.next;have:=hj.1;omega,eM.get j hj.1⟩
   rcases hcase with rfl | ⟨rfl,hreq⟩
   simp -implicitDefEqProofs (disch:=first|omega|simp only[go_sem]) only[go_sem,true_and,ZJ,Yz,Bool.not_true,Bool.not_false,lT,f0]
   rotate_left
   simp -implicitDefEqProofs (disch:=first|omega|simp only[go_sem]) only[go_sem,true_and,ZJ,Yz,Bool.not_true,Bool.not_false,Zy gR,Zy gTM,hreq,decide_false,lT,f0]
   all_goals
    refine YX hnx ?_
    by_cases hb:u4a q.1 t=true
    ·simp -implicitDefEqProofs (disch:=first|omega|simp only[go_sem]) only[go_sem,true_and,hb,Bool.not_true]
     have hgo:goS q.1 t (i:Nat)=(⟨q.1.slot,K5a t q.1.slot q.1.cells,N4a ⟨t.ses,t.req,S1a t q.1.slot (i:Nat) q.1.cells⟩ q.1.rows⟩,some ⟨t.ses,t.req,S1a t q.1.slot (i:Nat) q.1.cells⟩):=if_pos hb
     have hvl:(S1a t q.1.slot (i:Nat) q.1.cells).vs.length≤4096:=f0b.1
     obtain ⟨x,hx⟩:∃ x,S1a t q.1.slot (i:Nat) q.1.cells=x:=⟨_,rfl⟩
     have hxs:x.s=q.1.slot∧x.p=(i:Nat):=by rw[← hx];exact ⟨rfl,rfl⟩
     refine NC.mono (s7b (t:=t) (i:=(i:Nat)) (vy f0) vz vz vz aM gTM gR rfl ⟨by omega,by omega⟩ ⟨by omega,by omega⟩ txM ht (by rw[hslot];exact hsk)) ?_
     rw[hx]at hgo hvl ⊢
     rintro e ⟨fr1,df1,N1,rd1⟩ hG
     cases e <;> try exact hG.elim
     obtain ⟨rfl,rfl,⟨vv,mm1,k1,g1,sv,am1,cm1,ok1⟩,p0,p3,p6,p8,p9,p21,p22,p23⟩:=hG
     simp only at k1 g1 sv am1 p0 p3 p6 p8 p9 p21 p22 p23
     have n1n:=k1.next
     simp -implicitDefEqProofs (disch:=first|omega|simp only[go_sem]) only[go_sem,true_and]
     have gB1:=(k1.get B (by omega) (by omega)).trans aM.row
     refine NC.mono (L7b (br:=K1.next) (x:=⟨t.ses,t.req,x⟩) (vv:=vv) (by simp -implicitDefEqProofs (disch:=first|omega|simp only[go_sem]) only[go_sem,true_and,p0,f0]) (by simp -implicitDefEqProofs (disch:=first|omega|simp only[go_sem]) only[go_sem,true_and,p8]) (by simp -implicitDefEqProofs (disch:=first|omega|simp only[go_sem]) only[go_sem,true_and,p9]) gB1 ((k1.get _ (by omega) (by omega)).trans gTM) (by rw[hxs.1,hxs.2];exact g1) (aM.rwm.kp k1 (by omega) (by omega))) ?_
     rintro e ⟨fr2,df2,N2,rd2⟩ hG
     cases e <;> try exact hG.elim
     obtain ⟨rfl,rfl,⟨ob,hN2,am2⟩,u0,u3,u6,u8,u9,u21,u22,u23⟩:=hG
     simp only at hN2 u0 u3 u6 u8 u9 u21 u22 u23
     have oth:∀ j,j≠rid→N2.get j=N1.get j:=fun j hj=>by rw[hN2];exact Zx _ _ hj
     have n2n:N2.next=N1.next:=by rw[hN2];rfl
     rw[← hN2]at am2
     have gT2:=(oth K.next (by omega)).trans ((k1.get _ (by omega) (by omega)).trans gTM)
     have gR2:=(oth K1.next (by omega)).trans g1
     have k2:KpD (fun j=>j=cid∨j=rid) K N2:=⟨by omega,by rw[hN2];exact k1.ng.trans eM.ng,fun j hj hn=>(oth j fun e=>hn (.inr e)).trans ((k1.get j (by omega) (by omega)).trans (eM.get j hj))⟩
     have a2:=aq.put (x:=⟨t.ses,t.req,x⟩) (v:=vv) k2 (am1.keep (oth cid (by omega))) cm1 ok1 am2 (sv.mono fun j hj=>⟨⟨by have:=hj.2;omega,by have:=hj.1;omega,by have:=hj.1;omega,by have:=hj.1;omega⟩,oth j (by have:=hj.1;omega)⟩) hvl
     have o2:Owns rRowU (k7a H.next N2 w) N2 u q.2 w:=ow.mono (by omega) (fun j hj=>k2.get j (ow.lt j hj) (by have:=hw j hj;omega)) fun j hj=>⟨⟨⟨hj.1.1,by show j<N2.next;have:=hj.1.2;omega⟩,hj.2⟩,k2.get j hj.1.2 (by have:=hj.1.1;omega)⟩
     have cr:Zk N2 K1.next 2 4=some (u5a x vv):=by rw[Zu gR2 (Nat.le_of_ble_eq_true rfl),← hxs.1,← hxs.2];rfl
     simp -implicitDefEqProofs (disch:=first|omega|simp only[go_sem]) only[go_sem,true_and]
     refine NC.mono (u9a (n:=H.next) (t:=t) (x:=x) (by simp -implicitDefEqProofs (disch:=first|omega|simp only[go_sem]) only[go_sem,true_and,u6,p6,f6]) (by simp -implicitDefEqProofs (disch:=first|omega|simp only[go_sem]) only[go_sem,true_and,u8,p8]) (by simp -implicitDefEqProofs (disch:=first|omega|simp only[go_sem]) only[go_sem,true_and,u9,p9]) (fun N e=>Zy ((e.get _ (by omega)).trans gT2)) (fun N e=>Zy ((e.get _ (by omega)).trans gT2)) cr (sv.mono fun j hj=>⟨by show j<N2.next;have:=hj.2;omega,oth j (by have:=hj.1;omega)⟩) (by omega) o2 (by omega) hw (by omega)) ?_
     rintro e ⟨fr3,df3,N,rd3⟩ hG
     cases e <;> try exact hG.elim
     obtain ⟨rfl,rfl,kN,gN,oN,⟨u2,w2,q6,o3,hw2⟩,q0,q3,q21,q22,q23⟩:=hG
     simp only at kN gN oN q6 o3 q0 q3 q21 q22 q23
     have hne0:∀ j,w=some j→j≠B∧j≠cid∧j≠rid:=fun j hj=>by have:=hw j hj;omega
     simp -implicitDefEqProofs (disch:=first|omega|simp only[go_sem]) only[go_sem,true_and,q23,u23,p23,f23,hw1]
     refine hK' (i+1) _ ?_ (by omega)
     rw[v5a,hq,hone,hgo]
     exact ⟨by trivial,by trivial,by simp -implicitDefEqProofs (disch:=first|omega|simp only[go_sem]) only[go_sem,true_and,q0,u0,p0,f0],by simp -implicitDefEqProofs (disch:=first|omega|simp only[go_sem]) only[go_sem,true_and,q3,u3,p3,f3],by simp -implicitDefEqProofs (disch:=first|omega|simp only[go_sem]) only[go_sem,true_and,q21,u21,p21,f21],by simp -implicitDefEqProofs (disch:=first|omega|simp only[go_sem]) only[go_sem,true_and,q22,u22,p22,f22],vz,by omega,⟨by show H.next≤N.next;omega,gN.trans (k2.ng.trans kK.ng),fun j hj hn=>(oN j (by omega) fun e=>by have:=hw j e;omega).trans ((k2.get j (by omega) hn).trans (kK.get j hj hn))⟩,⟨_,_,a2.ans o2 kN oN hne0⟩,u2,w2,(vy q6),o3,hw2⟩
    ·have hb2:u4a q.1 t=false:=by simpa using hb
     have hgo:goS q.1 t (i:Nat)=(q.1,none):=if_neg hb
     simp -implicitDefEqProofs (disch:=first|omega|simp only[go_sem]) only[go_sem,true_and,hb2,Bool.not_false,f23,hw1]
     refine hK' (i+1) _ ?_ (by omega)
     rw[v5a,hq,hone,hgo]
     exact ⟨by trivial,by trivial,(vy f0),(vy f3),(vy f21),(vy f22),vz,by omega,kK.ext eM,⟨mq,rq,aM⟩,u,w,(vy f6),by rw[show q.2++(none:Option Row).toList=q.2 from List.append_nil _];exact oM,hw⟩
 ·obtain rfl:i=l.length:=by omega
  rw[List.take_length]at aq ow
  obtain ⟨K2,gB,hwS,s1,hres⟩:=T0b hE hHn a.lt h0 hs kK aq ow hw
  refine hX _ _ (by simp) ?_
  simp -implicitDefEqProofs (disch:=first|omega|simp only[go_sem]) only[go_sem,true_and,f0,f6,Zy gB,hwS,s1]
  exact ⟨_,rfl,hres⟩
abbrev x2b:List Value:=[u8V 3,u8V 0,u8V 0,u8V 2,u8V 1,u8V 0,u8V 8,u8V 0,u8V 1,u8V 5,u8V 0,u8V 0,u8V 24,u8V 0]
def w2b (s r:Int) (k:Key) (n:Int):Txn:=⟨s,r,[3,0,0,2,1,0,8,0,1,5,0,0,24,0],[n],[k],[k]⟩
theorem s9c {h:DHeap}:f0a Tryz.prog 22 14 [(0,u8V 3),(1,u8V 0),(2,u8V 0),(3,u8V 2),(4,u8V 1),(5,u8V 0),(6,u8V 8),(7,u8V 0),(8,u8V 1),(9,u8V 5),(10,u8V 0),(11,u8V 0),(12,u8V 24),(13,u8V 0)] h=some (.slice (some ⟨h.next,0,none⟩) 14 14,h.push (.row x2b 1 false)):=
 J2a (h:=h) (vs:=x2b) t9c (by decide) (fun v hv=>by
  simp only[x2b,List.mem_cons,List.not_mem_nil,or_false]at hv
  rcases hv with rfl | rfl | rfl | rfl | rfl | rfl | rfl | rfl | rfl | rfl | rfl | rfl | rfl | rfl <;> rfl) (by decide)
theorem a6c {a b:Int} {i j k l:Nat}:Xy Tryz.prog 26 [(0,.int .i64 a),(1,.int .i64 b),(2,.slice (some ⟨i,0,none⟩) 14 14),(3,.slice (some ⟨j,0,none⟩) 1 1),(4,.slice (some ⟨k,0,none⟩) 1 1),(5,.slice (some ⟨l,0,none⟩) 1 1)]=some (h1a a b (.slice (some ⟨i,0,none⟩) 14 14) (.slice (some ⟨j,0,none⟩) 1 1) (.slice (some ⟨k,0,none⟩) 1 1) (.slice (some ⟨l,0,none⟩) 1 1)):=l0a G1d rfl
theorem x9a {α:Type} (F:FRep α) {K:DHeap} {id:Nat} {S:Nat→Prop} {cs:List Value} {l:List α} {n m zz:Nat} (g:K.get id=some (.row cs zz false)) (hS:S id) (hc:cs=l.flatMap F.enc) (hz:zz=F.z) (hn:n=l.length) (hok:∀ x∈l,F.ok x):Sl F.rep S K (.slice (some ⟨id,0,none⟩) n m) l:=by
 subst hz;subst hn;subst hc
 have hl:∀ l:List α,(l.flatMap F.enc).length=l.length*F.rep.z:=by
  intro l
  induction l with
  | nil=>simp
  | cons x l ih=>rw[List.flatMap_cons,List.length_append,ih,F.len,List.length_cons,Nat.add_mul];show F.z+l.length*F.z=l.length*F.z+1*F.z;omega
 refine .inr ⟨id,0,m,_,F.z,false,rfl,hS,g,.inr rfl,by rw[hl];omega,?_⟩
 rw[List.drop_zero,← hl,List.take_length]
 exact Els.flat.2 ⟨rfl,hok⟩
theorem y2b {h:DHeap} {s r n:Int} {k:Key} (hk:fKey.ok k) (hn:inK .i64 n):Ct Tryz.prog 39 [.int .i64 s,.int .i64 r,ZZ k,.int .i64 n] h fun r1 h1=>∃ vc va vr vw,r1=.ret (h1a s r vc va vr vw)∧Ext h h1∧TxV (u6a h h1) h1 (w2b s r k n) vc va vr vw:=by
 refine z3d (by simp) ?_
 obtain ⟨H1,hH1⟩:∃ H,h.push (.row [.int .i32 k.t,.int .i64 k.r] 0 false)=H:=⟨_,rfl⟩
 obtain ⟨H2,hH2⟩:∃ H,H1.push (.row [.int .i64 0,.int .i64 0,YU,YU,YU,YU] 0 false)=H:=⟨_,rfl⟩
 obtain ⟨H3,hH3⟩:∃ H,H2.push (.row x2b 1 false)=H:=⟨_,rfl⟩
 obtain ⟨H4,hH4⟩:∃ H,H3.push (.row [.int .i64 n] 1 false)=H:=⟨_,rfl⟩
 obtain ⟨H5,hH5⟩:∃ H,H4.push (.row [.int .i32 k.t,.int .i64 k.r] 2 false)=H:=⟨_,rfl⟩
 obtain ⟨H6,hH6⟩:∃ H,H5.push (.row [.int .i32 k.t,.int .i64 k.r] 2 false)=H:=⟨_,rfl⟩
 have e1:Ext h H1:=hH1▸Ext.push1 _ _
 have e2:Ext H1 H2:=hH2▸Ext.push1 _ _
 have e3:Ext H2 H3:=hH3▸Ext.push1 _ _
 have e4:Ext H3 H4:=hH4▸Ext.push1 _ _
 have e5:Ext H4 H5:=hH5▸Ext.push1 _ _
 have e6:Ext H5 H6:=hH6▸Ext.push1 _ _
 have n1:H1.next=h.next+1:=by rw[← hH1];rfl
 have n2:H2.next=h.next+2:=by rw[← hH2,m0a,n1]
 have n3:H3.next=h.next+3:=by rw[← hH3,m0a,n2]
 have n4:H4.next=h.next+4:=by rw[← hH4,m0a,n3]
 have n5:H5.next=h.next+5:=by rw[← hH5,m0a,n4]
 have n6:H6.next=h.next+6:=by rw[← hH6,m0a,n5]
 have gk:∀ K,Ext H1 K→Zk K h.next 0 2=some (ZZ k):=fun K e=>by
  rw[Zu ((e.get _ (by omega)).trans (by rw[← hH1];exact Zz _ _)) (Nat.le_of_ble_eq_true rfl)]
  rfl
 have gt:H6.get H1.next=some (.row [.int .i64 0,.int .i64 0,YU,YU,YU,YU] 0 false):=((((e3.trans e4).trans e5).trans e6).get _ (by omega)).trans (by rw[← hH2];exact Zz _ _)
 obtain ⟨H7,hH7⟩:∃ H,H6.set H1.next (.row [.int .i64 s,.int .i64 r,.slice (some ⟨H2.next,0,none⟩) 14 14,.slice (some ⟨H3.next,0,none⟩) 1 1,.slice (some ⟨H4.next,0,none⟩) 1 1,.slice (some ⟨H5.next,0,none⟩) 1 1] 0 false)=H:=⟨_,rfl⟩
 have st:storeAt H6 H1.next 0 [.int .i64 s,.int .i64 r,.slice (some ⟨H2.next,0,none⟩) 14 14,.slice (some ⟨H3.next,0,none⟩) 1 1,.slice (some ⟨H4.next,0,none⟩) 1 1,.slice (some ⟨H5.next,0,none⟩) 1 1]=some H7:=by
  rw[← hH7]
  exact b0a gt (Nat.le_of_ble_eq_true rfl) rfl
 have l7:Zk H7 H1.next 0 6=some (h1a s r (.slice (some ⟨H2.next,0,none⟩) 14 14) (.slice (some ⟨H3.next,0,none⟩) 1 1) (.slice (some ⟨H4.next,0,none⟩) 1 1) (.slice (some ⟨H5.next,0,none⟩) 1 1)):=by
  rw[← hH7,Zu (Zj _ _) (Nat.le_of_ble_eq_true rfl)]
  rfl
 have n7:H7.next=h.next+6:=by rw[← hH7];exact n6
 have o7:∀ j,j≠H1.next→H7.get j=H6.get j:=fun j hj=>by rw[← hH7];exact Zx _ _ hj
 have g3:H7.get H2.next=some (.row x2b 1 false):=(o7 _ (by omega)).trans ((((e4.trans e5).trans e6).get _ (by omega)).trans (by rw[← hH3];exact Zz _ _))
 have g4:H7.get H3.next=some (.row [.int .i64 n] 1 false):=(o7 _ (by omega)).trans (((e5.trans e6).get _ (by omega)).trans (by rw[← hH4];exact Zz _ _))
 have g5:H7.get H4.next=some (.row [.int .i32 k.t,.int .i64 k.r] 2 false):=(o7 _ (by omega)).trans ((e6.get _ (by omega)).trans (by rw[← hH5];exact Zz _ _))
 have g6:H7.get H5.next=some (.row [.int .i32 k.t,.int .i64 k.r] 2 false):=(o7 _ (by omega)).trans (by rw[← hH6];exact Zz _ _)
 simp -implicitDefEqProofs (disch:=first|omega|simp only[go_sem]) only[go_sem,true_and,c39,hH1,hH2,hH3,gk H4 ((e2.trans e3).trans e4),gk H5 (((e2.trans e3).trans e4).trans e5),s9c,hH4,hH5,hH6,a6c,st,A1a,G0a,l7]
 have ho:∀ x∈[k],fKey.ok x:=fun x hx=>by rw[List.mem_singleton.1 hx];exact hk
 exact ⟨_,rfl,_,_,_,_,rfl,by rw[← hH7];exact (((((e1.trans e2).trans e3).trans e4).trans e5).trans e6).set (by omega),⟨x9a fU8 g3 ⟨by omega,by omega⟩ rfl rfl rfl fun x hx=>R9b.2 (by simp only[w2b,List.mem_cons,List.not_mem_nil,or_false]at hx;omega),x9a fI64 g4 ⟨by omega,by omega⟩ rfl rfl rfl fun x hx=>by rw[List.mem_singleton.1 hx];exact hn,x9a fKey g5 ⟨by omega,by omega⟩ rfl rfl rfl ho,x9a fKey g6 ⟨by omega,by omega⟩ rfl rfl rfl ho⟩⟩
theorem o4b {S:Nat→Prop} {h:DHeap} {x:Txn} {vc va vr vw:Value} (k1:inK .i64 x.ses) (k2:inK .i64 x.req) (t:TxV S h x vc va vr vw):rTxn.rd S h [.int .i64 x.ses,.int .i64 x.req,vc,va,vr,vw] x:=
 ⟨[.int .i64 x.ses],_,rfl,⟨rfl,k1⟩,[.int .i64 x.req],_,rfl,⟨rfl,k2⟩,[vc],_,rfl,⟨vc,rfl,t.c⟩,[va],_,rfl,⟨va,rfl,t.a⟩,[vr],[vw],rfl,⟨vr,rfl,t.r⟩,vw,rfl,t.w⟩
theorem r0b {h:DHeap} {u:Value} {l:List Row} {i:Nat} {x:Row} (hu:Arg rRowU h u l) (hx:l[i]? = some x):∃ id o v,ZQ Tryz.prog 51 u (.int .i64 i)=some (.pointer (some ⟨id,o,none⟩))∧Arg fI64.rep h v x.x.vs∧∀ K,Ext h K→Zq K id (o+2+1)=some v:=by
 obtain ⟨id,o,e,hi,cells,esz,ro,g,b,v,hc,sv⟩:=hu.idx (P:=Tryz.prog) (t:=51) r3d (k:=.i64) hx
 refine ⟨id,o,v,e,sv,fun K hK=>?_⟩
 have:=congrArg (fun l:List Value=>l[3]?) hc
 simp only[List.getElem?_take,List.getElem?_drop]at this
 rw[Zy ((hK.get id hi).trans g)]
 exact (by simpa using this:3<rRowU.z∧cells[o+3]? = some v).2
abbrev P2a:Key:=⟨0,3⟩
def R9a:List Txn:=[w2b 1 1 P2a 5,w2b 2 1 P2a 2,w2b 1 1 P2a 9]
theorem p3c:(s2a (⟨0,[],[]⟩,[]) 0 R9a).2=[⟨1,1,0,[5],0,0⟩,⟨2,1,0,[7],0,1⟩,⟨1,1,0,[5],0,0⟩]∧(s2a (⟨0,[],[]⟩,[]) 0 R9a).1.cells=[⟨P2a,7,0⟩]:=⟨by kernel_rfl,by kernel_rfl⟩
theorem j9c {i:Nat}:Xy Tryz.prog 45 [(0,.int .i64 1),(3,.slice (some ⟨i,0,none⟩) 3 3)]=some (C7a 1 0 0 (.slice (some ⟨i,0,none⟩) 3 3)):=l0a I1d rfl
theorem o3c {h:DHeap}:DC Tryz.prog 12 [] h (.ret (.bool true)) h:=by
 refine Ct.pure (s3d (by simp) ?_) (Y0a _)
 simp -implicitDefEqProofs (disch:=first|omega|simp only[go_sem]) only[go_sem,true_and,c12]
 refine YW R7c ?_
 rintro r H ⟨B,cid,rid,rfl,eH,b1,b2,b3,a⟩
 have hbk:Xy Tryz.prog 31 [(1,.int .i64 3)]=some (ZZ P2a):=l0a H0c rfl
 obtain ⟨H1,hH1⟩:∃ M,H.push (.row [.int .i32 0,.int .i64 3] 0 false)=M:=⟨_,rfl⟩
 have e1:Ext H H1:=hH1▸Ext.push1 _ _
 have n1:H1.next=H.next+1:=by rw[← hH1];rfl
 have st1:Yx Tryz.prog 31 (.pointer (some ⟨H.next,0,none⟩)) (ZZ P2a) (H.push (.row [.int .i32 0,.int .i64 0] 0 false))=some H1:=by
  rw[← hH1]
  exact (c4a rfl).trans (c0a rfl rfl)
 have gk:∀ K,Ext H1 K→Zk K H.next 0 2=some (ZZ P2a):=fun K e=>by
  rw[Zu ((e.get _ (by omega)).trans (by rw[← hH1];exact Zz _ _)) (Nat.le_of_ble_eq_true rfl)]
  rfl
 have hk3:fKey.ok P2a:=⟨B7c.2 ⟨by decide,by decide⟩,w0a.2 ⟨by decide,by decide⟩⟩
 have i64:∀ n:Int,0≤n→n≤9→inK .i64 n:=fun n _ _=>w0a.2 ⟨by omega,by omega⟩
 simp -implicitDefEqProofs (disch:=first|omega|simp only[go_sem]) only[go_sem,true_and,Xk,l9a,hbk,st1]
 refine y8c rfl ?_
 simp -implicitDefEqProofs (disch:=first|omega|simp only[go_sem]) only[go_sem,true_and,s4c,m5c,gk H1 (.refl _)]
 refine A3a (y2b hk3 (i64 5 (by decide) (by decide))) ?_
 rintro r K1 ⟨vc1,va1,vr1,vw1,rfl,f1,x1⟩
 have gk1:=gk K1 f1
 simp -implicitDefEqProofs (disch:=first|omega|simp only[go_sem]) only[go_sem,true_and,P5a,gk1]
 refine A3a (y2b hk3 (i64 2 (by decide) (by decide))) ?_
 rintro r K2 ⟨vc2,va2,vr2,vw2,rfl,f2,x2⟩
 have gk2:=gk K2 (f1.trans f2)
 simp -implicitDefEqProofs (disch:=first|omega|simp only[go_sem]) only[go_sem,true_and,P5a,gk2]
 refine A3a (y2b hk3 (i64 9 (by decide) (by decide))) ?_
 rintro r K3 ⟨vc3,va3,vr3,vw3,rfl,f3,x3⟩
 have m1:=f1.next
 have m2:=f2.next
 have m3:=f3.next
 have hcs:∀ {S K t a b c d},TxV S K t a b c d→∀ x y,(h1a x y a b c d).cells.toList=[.int .i64 x,.int .i64 y,a,b,c,d]∧(h1a x y a b c d).cells.size=6:=fun _ _ _=>⟨rfl,rfl⟩
 have hbs:=J2a (h:=K3) (t:=43) (vs:=[h1a 1 1 vc1 va1 vr1 vw1,h1a 2 1 vc2 va2 vr2 vw2,h1a 1 1 vc3 va3 vr3 vw3]) v9c (Nat.succ_pos _) (fun v hv=>by
  simp only[List.mem_cons,List.not_mem_nil,or_false]at hv
  rcases hv with rfl | rfl | rfl <;> rfl) (Nat.le_of_ble_eq_true rfl)
 have hbs2:f0a Tryz.prog 43 3 [(0,h1a 1 1 vc1 va1 vr1 vw1),(1,h1a 2 1 vc2 va2 vr2 vw2),(2,h1a 1 1 vc3 va3 vr3 vw3)] K3=some (.slice (some ⟨K3.next,0,none⟩) 3 3,K3.push (.row ([.int .i64 1,.int .i64 1,vc1,va1,vr1,vw1]++([.int .i64 2,.int .i64 1,vc2,va2,vr2,vw2]++([.int .i64 1,.int .i64 1,vc3,va3,vr3,vw3]++[]))) 6 false)):=hbs
 obtain ⟨K4,hK4⟩:∃ K,K=K3.push (.row ([.int .i64 1,.int .i64 1,vc1,va1,vr1,vw1]++([.int .i64 2,.int .i64 1,vc2,va2,vr2,vw2]++([.int .i64 1,.int .i64 1,vc3,va3,vr3,vw3]++[]))) 6 false):=⟨_,rfl⟩
 rw[← hK4]at hbs2
 have f4:Ext K3 K4:=hK4▸Ext.push1 _ _
 have m4:K4.next=K3.next+1:=by rw[hK4];rfl
 have e4:Ext H K4:=e1.trans (f1.trans (f2.trans (f3.trans f4)))
 have a4:=a.ext e4
 obtain ⟨l1,l2,l3⟩:=a.lt
 have fr:∀ {x y j},H1.next≤x→y≤K4.next→(x≤j∧j<y)→Q8a K4 B cid rid j:=fun {x y j} h1 h2 h3=>⟨by omega,by omega,by omega,by omega⟩
 have sl:Sl rTxn (Q8a K4 B cid rid) K4 (.slice (some ⟨K3.next,0,none⟩) 3 3) R9a:=.inr ⟨K3.next,0,3,_,6,false,rfl,⟨by omega,by omega,by omega,by omega⟩,by rw[hK4];exact Zz _ _,.inr rfl,Nat.le_of_ble_eq_true rfl,
  ⟨_,_,rfl,o4b (i64 1 (by decide) (by decide)) (i64 1 (by decide) (by decide)) (x1.mono fun j hj=>⟨fr (Nat.le_refl _) (by omega) hj,(f2.trans (f3.trans f4)).get j hj.2⟩),
   _,_,rfl,o4b (i64 2 (by decide) (by decide)) (i64 1 (by decide) (by decide)) (x2.mono fun j hj=>⟨fr m1 (by omega) hj,(f3.trans f4).get j hj.2⟩),
   _,_,rfl,o4b (i64 1 (by decide) (by decide)) (i64 1 (by decide) (by decide)) (x3.mono fun j hj=>⟨fr (by omega) (by omega) hj,f4.get j hj.2⟩),rfl⟩⟩
 have hTl:∀ t∈R9a,y6a t:=fun t ht=>by
  simp only[R9a,List.mem_cons,List.not_mem_nil,or_false]at ht
  rcases ht with rfl | rfl | rfl <;> exact ⟨by decide,by decide,by decide,by decide⟩
 have gk3:=gk K3 (f1.trans (f2.trans f3))
 have gk4:=gk K4 (f1.trans (f2.trans (f3.trans f4)))
 simp -implicitDefEqProofs (disch:=first|omega|simp only[go_sem]) only[go_sem,true_and,P5a,gk3,gk4,hbs2,j9c]
 refine A3a (z8b a4 (by decide) (by decide) sl hTl (by decide)) ?_
 rintro r K5 ⟨u,mm',rm',rfl,k5,a5,su⟩
 obtain ⟨lr1,lr2⟩:=p3c
 rw[v5a]at su a5
 rw[lr1]at su
 obtain ⟨rws,a5'⟩:∃ rws,SerAt K5 B cid rid ⟨1,[⟨P2a,7,0⟩],rws⟩ mm' rm':=⟨_,by rw[← lr2];exact a5⟩
 have m5:=k5.next
 have gk5:Zk K5 H.next 0 2=some (ZZ P2a):=by
  rw[Zu ((k5.get _ (by omega) (by omega)).trans (((f1.trans (f2.trans (f3.trans f4))).get _ (by omega)).trans (by rw[← hH1];exact Zz _ _))) (Nat.le_of_ble_eq_true rfl)]
  rfl
 simp -implicitDefEqProofs (disch:=first|omega|simp only[go_sem]) only[go_sem,true_and,P5a,gk5]
 have hlast:Yv Cell.k [⟨P2a,7,0⟩] P2a=some ⟨P2a,7,0⟩:=by kernel_rfl
 have hget:DC Tryz.prog 25 [.pointer (some ⟨B,0,none⟩),ZZ P2a] K5 (.ret (.tuple #[U0a ⟨P2a,7,0⟩,.bool true])) K5:=by
  have:=y7c (k:=P2a) a5'
  rw[hlast]at this
  exact this
 refine YX hget ?_
 obtain ⟨K6,hK6⟩:∃ K,K=K5.push (.row [.int .i32 0,.int .i64 3,.int .i64 7,.int .i64 0] 0 false):=⟨_,rfl⟩
 have f6:Ext K5 K6:=hK6▸Ext.push1 _ _
 have st6:Yx Tryz.prog 33 (.pointer (some ⟨K5.next,0,none⟩)) (U0a ⟨P2a,7,0⟩) (K5.push (.row [.int .i32 0,.int .i64 0,.int .i64 0,.int .i64 0] 0 false))=some K6:=by
  rw[hK6]
  exact (V6a rfl).trans (c0a rfl rfl)
 have su6:Arg rRowU K6 u _:=(su.mono fun j hj=>⟨hj.2,rfl⟩:Arg rRowU K5 u _).ext f6
 obtain ⟨id1,o1,v1,i1,w1,z1⟩:=r0b (i:=0) su6 rfl
 have i1':ZQ Tryz.prog 51 u (.int .i64 0)=some (.pointer (some ⟨id1,o1,none⟩)):=i1
 obtain ⟨id2,o2,v2,i2,w2,z2⟩:=r0b (i:=1) su6 rfl
 have i2':ZQ Tryz.prog 51 u (.int .i64 1)=some (.pointer (some ⟨id2,o2,none⟩)):=i2
 obtain ⟨id3,o3,v3,i3,w3,z3⟩:=r0b (i:=2) su6 rfl
 have i3':ZQ Tryz.prog 51 u (.int .i64 2)=some (.pointer (some ⟨id3,o3,none⟩)):=i3
 have hlen:∀ K,dLen Tryz.prog #[51] u K=some (.int .i64 3):=su6.lens (P:=Tryz.prog) (ts:=#[51]) (t:=51) rfl r1d
 obtain ⟨K7,hK7⟩:∃ K,K=K6.push (.row [.int .i64 5] 1 false):=⟨_,rfl⟩
 obtain ⟨K8,hK8⟩:∃ K,K=K7.push (.row [.int .i64 7] 1 false):=⟨_,rfl⟩
 obtain ⟨K9,hK9⟩:∃ K,K=K8.push (.row [.int .i64 5] 1 false):=⟨_,rfl⟩
 have f7:Ext K6 K7:=hK7▸Ext.push1 _ _
 have f8:Ext K7 K8:=hK8▸Ext.push1 _ _
 have f9:Ext K8 K9:=hK9▸Ext.push1 _ _
 have ok1:∀ n:Int,0≤n→n≤9→∀ x∈[n],fI64.ok x:=fun n h1 h2 x hx=>by rw[List.mem_singleton.1 hx];exact i64 n h1 h2
 have b7:Arg fI64.rep K7 (.slice (some ⟨K6.next,0,none⟩) 1 1) [5]:=by rw[hK7];exact built fI64 K6 rfl rfl rfl (ok1 5 (by decide) (by decide))
 have b8:Arg fI64.rep K8 (.slice (some ⟨K7.next,0,none⟩) 1 1) [7]:=by rw[hK8];exact built fI64 K7 rfl rfl rfl (ok1 7 (by decide) (by decide))
 have b9:Arg fI64.rep K9 (.slice (some ⟨K8.next,0,none⟩) 1 1) [5]:=by rw[hK9];exact built fI64 K8 rfl rfl rfl (ok1 5 (by decide) (by decide))
 have e5:t3a (fun a b:Int=>decide (a=b)) [5] [5]=true:=by decide
 have e7:t3a (fun a b:Int=>decide (a=b)) [7] [7]=true:=by decide
 simp -implicitDefEqProofs (disch:=first|omega|simp only[go_sem]) only[go_sem,true_and,Xk,st6,hlen,ZJ,decide_true,i1',z1 K6 (.refl _),← hK7]
 refine YX (Z8a (w1.ext f7) b7 (by decide)) ?_
 simp -implicitDefEqProofs (disch:=first|omega|simp only[go_sem]) only[go_sem,true_and,ZJ,e5,i2',z2 K7 f7,← hK8]
 refine YX (Z8a ((w2.ext f7).ext f8) b8 (by decide)) ?_
 simp -implicitDefEqProofs (disch:=first|omega|simp only[go_sem]) only[go_sem,true_and,ZJ,e7,i3',z3 K8 (f7.trans f8),← hK9]
 refine YX (Z8a (((w3.ext f7).ext f8).ext f9) b9 (by decide)) ?_
 have c7:Zq K9 K5.next 2=some (.int .i64 7):=Zy (((f7.trans (f8.trans f9)).get _ (by rw[hK6];exact Nat.lt_succ_self _)).trans (by rw[hK6];exact Zz _ _))
 simp -implicitDefEqProofs (disch:=first|omega|simp only[go_sem]) only[go_sem,true_and,ZJ,e5,c7,decide_true]
 refine YX (P3c (a5'.ext (f6.trans (f7.trans (f8.trans f9))))) ?_
 simp -implicitDefEqProofs (disch:=first|omega|simp only[go_sem]) only[go_sem,true_and,ZJ,decide_true]
 exact ⟨_,rfl,rfl,⟨by show h.next≤K9.next;have:=eH.next;have:=e4.next;have:=(f6.trans (f7.trans (f8.trans f9))).next;omega,(f6.trans (f7.trans (f8.trans f9))).ng.trans (k5.ng.trans (e4.ng.trans eH.ng)),fun j hj=>((f6.trans (f7.trans (f8.trans f9))).get j (by have:=eH.next;have:=e4.next;omega)).trans ((k5.get j (by have:=eH.next;have:=e4.next;omega) (by omega)).trans ((e4.get j (by have:=eH.next;omega)).trans (eH.get j hj)))⟩⟩
end Go.Proofs.YtheamfnbfgiaeaaGreat
namespace Go.Proofs.YtheamfnbfgiaeaaGreat
open Go.D
set_option maxRecDepth 100000
structure AggT {α:Type} (s e:TypeId) (F:FRep α):Prop where
 el:M0a Tryz.prog s=some F.z
 isl:Z1a Tryz.prog s=true
 one:c3a Tryz.prog s=true
 eszS:i1a Tryz.prog s=0
 agg:Z6a Tryz.prog e=some F.z
 zero:∃ zs,zeroCells Tryz.prog e=some zs∧zs.all Yw=true∧zs.length=F.z
 esz:i1a Tryz.prog e=0
 app:∃ b,K2a Tryz.prog #[s,s]=some (F.z,b)∧b≤32768
 bsl:∃ zs,h4a Tryz.prog s=some (F.z,zs)
 le:0<F.z∧F.z≤1024
abbrev g5a {α:Type} (F:FRep α) (x:α):Value:=.agg (F.enc x).toArray
section
variable {α:Type} {s e:TypeId} {F:FRep α}
theorem AggT.size (T:AggT s e F) {x:α}:(g5a F x).cells.size=F.z:=by
 show (F.enc x).toArray.size=F.z
 simp[F.len]
theorem AggT.box (T:AggT s e F) (K:DHeap) {x:α} (hx:F.ok x):∃ zs,k1a Tryz.prog e K=some (.pointer (some ⟨K.next,0,none⟩),K.push (.row zs 0 false))∧Yx Tryz.prog e (.pointer (some ⟨K.next,0,none⟩)) (g5a F x) (K.push (.row zs 0 false))=some (K.push (.row (F.enc x) 0 false))∧∀ M,Ext (K.push (.row (F.enc x) 0 false)) M→XX Tryz.prog e (.pointer (some ⟨K.next,0,none⟩)) M=some (g5a F x):=by
 obtain ⟨zs,z1,z2,z3⟩:=T.zero
 refine ⟨zs,A8a z1 z2 T.esz,(G9a T.agg (by simp[F.len])).trans ?_,fun M hM=>?_⟩
 ·exact c0a (by simp[F.len,z3]) (by simpa using F.rep.one (S:=fun _=>True) (h:=K) ⟨rfl,hx⟩)
 ·rw[A5a T.agg,Zu ((hM.get _ (Nat.lt_succ_self _)).trans (Zz _ _)) (by rw[F.len];omega)]
  simp[List.take_of_length_le,F.len]
def n2b (s e:TypeId):Code:=.seq (rg [qL 5 s 1,qN 6 5 s,mo 7 (.move (I64 0))])
 (.block 0 (.loop (.seq (rg [qB 8 .lss 3 7 6 3])
   (.seq (.cond (T 8) .skip (.exit 0))
   (.seq (.block 1 (.seq (rg [qI 9 s 5 7,qL 10 e 9,mo 4 (.alloc e),qS e 4 10])
     (.seq (rg [qV 11 0,qL 12 e 4,mo 13 (.call ⟨.value (T 11),#[T 12],#[e]⟩),mo 14 (.unOp .not 4 (T 13))])
     (.cond (T 14) .ret .skip))))
     (rg [mo 15 (.binOp .add 3 (T 7) (I64 1) 3),qV 7 15]))))))
theorem Z7b {f:FuncId} (go:GoC Tryz.prog f 16 (n2b s e) []) (T:AggT s e F) {h:DHeap} {c l p:Nat} {D:m2a} {v:Value} {lst:List α} (I:Nat→DHeap→Prop) (J:DHeap→Prop) (hp:D.params=#[p]) (hps:p<D.size) (hlen:lst.length≤4294967296) (h0:I 0 h)
 (hI:∀ i K,I i K→K.get l=some (.loop D)∧K.get c=some (.row [v] 0 false)∧Arg F.rep K v lst) (hE:∀ i K K',I i K→Ext K K'→I i K')
 (hR:∀ i K x,I i K→lst[i]? = some x→Rt Tryz.prog l D.size (E0a D.tmps [p] [g5a F x]) D.assign D.body K fun r H=>(r=.ret (.bool true)∧I (i+1) H)∨(r=.ret (.bool false)∧J H)) :
 Ct Tryz.prog f [.func (.yield l) #[] #[],.pointer (some ⟨c,0,none⟩)] h fun r H=>(∃ v,r=.ret v)∧(I lst.length H∨J H):=by
 refine go (by simp) ?_
 obtain ⟨hl0,hc0,a0⟩:=hI 0 h h0
 have C0:XX Tryz.prog s (.pointer (some ⟨c,0,none⟩)) h=some v:=(B5a T.one).trans (Zy hc0)
 have el:∀ K,dLen Tryz.prog #[s] v K=some (.int .i64 (lst.length:Nat)):=a0.lens (P:=Tryz.prog) (ts:=#[s]) (t:=s) rfl T.isl
 simp -implicitDefEqProofs (disch:=first|omega|simp only[go_sem]) only[go_sem,true_and,n2b,C0,el]
 refine A0a (σ:=Nat) (by kernel_rfl) (fun i st=>st.df=[]∧st.rd=none∧st.fr 0=some (.func (.yield l) #[] #[])∧st.fr 5=some v∧st.fr 6=some (.int .i64 (lst.length:Nat))∧st.fr 7=some (.int .i64 (i:Nat))∧i≤lst.length∧I i st.h) (fun i=>lst.length - i) 0 ?_ ?_
 ·simp -implicitDefEqProofs (disch:=first|omega|simp only[go_sem]) only[go_sem,true_and]
  exact ⟨by trivial,Nat.zero_le _,h0⟩
 rintro i ⟨fr,df,K,rd⟩ K' hK' hX ⟨rfl,rfl,f0,f5,f6,f7,hi,hinv⟩
 simp only at f0 f5 f6 f7 hinv
 simp -implicitDefEqProofs (disch:=first|omega|simp only[go_sem]) only[go_sem,true_and,f5,f6,f7]
 refine n0a (fun hc1=>?_) (fun hc1=>?_)
 ·have hj:i<lst.length:=by omega
  have hw:=d0a hj (by omega)
  obtain ⟨_,_,aK⟩:=hI i K hinv
  obtain ⟨id1,o1,i1,_,hat1⟩:=aK.idx (P:=Tryz.prog) (t:=s) T.el (k:=.i64) (i:=i) (x:=lst[i]) (by simp)
  have hx:=hat1.flat.2.2
  obtain ⟨zs,b1,b2,b3⟩:=T.box K hx
  have a1:XX Tryz.prog e (.pointer (some ⟨id1,o1,none⟩)) K=some (g5a F lst[i]):=(A5a T.agg).trans hat1.flat.2.1
  have a1':XX Tryz.prog e (.pointer (some ⟨id1,o1,none⟩)) K=some (g5a F lst[i]):=a1
  obtain ⟨K1,hK1⟩:∃ K1,K.push (.row (F.enc lst[i]) 0 false)=K1:=⟨_,rfl⟩
  rw[hK1]at b2 b3
  have eK1:Ext K K1:=hK1▸Ext.push1 _ _
  have hI1:=hE i K K1 hinv eK1
  obtain ⟨lp1,_,_⟩:=hI i K1 hI1
  have hy:v2a Tryz.prog K1 (some (.func (.yield l) #[] #[])) (some [g5a F lst[i]])=.ok (.round l D.size (E0a D.tmps [p] [g5a F lst[i]]) D.assign D.body) K1:=by
   rw[y7a lp1 _ (by rw[hp];rfl) (by rw[hp];simpa using hps),hp]
  simp -implicitDefEqProofs (disch:=first|omega|simp only[go_sem]) only[go_sem,true_and,f0,f5,f7,i1,a1,b1,b2,b3 K1 (.refl _),hy]
  refine s1b (hR i K1 _ hI1 (List.getElem?_eq_getElem hj)) ?_
  rintro r H (⟨rfl,hI2⟩ | ⟨rfl,hJ⟩)
  ·simp -implicitDefEqProofs (disch:=first|omega|simp only[go_sem]) only[go_sem,true_and,Xk,Bool.not_true,f7,hw]
   refine hK' (i+1) _ ?_ (by omega)
   exact ⟨by trivial,by trivial,(vy f0),(vy f5),(vy f6),vz,by omega,hI2⟩
  ·simp -implicitDefEqProofs (disch:=first|omega|simp only[go_sem]) only[go_sem,true_and,Xk,Bool.not_false]
   refine hX _ _ (by simp) ?_
   simp -implicitDefEqProofs (disch:=first|omega|simp only[go_sem]) only[go_sem,true_and]
   exact ⟨_,rfl,⟨_,rfl⟩,.inr hJ⟩
 obtain rfl:i=lst.length:=by omega
 refine hX _ _ (by simp) ?_
 simp -implicitDefEqProofs (disch:=first|omega|simp only[go_sem]) only[go_sem,true_and]
 exact ⟨_,rfl,⟨_,rfl⟩,.inl hinv⟩
end
theorem n3d:AggT 29 33 fCell:=⟨by kernel_rfl,by kernel_rfl,by kernel_rfl,by kernel_rfl,by kernel_rfl,⟨[.int .i32 0,.int .i64 0,.int .i64 0,.int .i64 0],by kernel_rfl,by kernel_rfl,by kernel_rfl⟩,by kernel_rfl,⟨_,h9c,by decide⟩,⟨_,u9c⟩,by decide⟩
theorem f3c:GoC Tryz.prog 67 16 (n2b 29 33) []:=fun h1 h2=>J3d h1 h2
end Go.Proofs.YtheamfnbfgiaeaaGreat
namespace Go.Proofs.YtheamfnbfgiaeaaGreat
open Go.D
set_option maxRecDepth 100000
section
variable {α:Type} {s e:TypeId} {F:FRep α}
def apC (s:TypeId) (fa fb:Code):Code:=.seq (rg [mo 2 (.box s (T 0)),mo 4 (.assign (.const (.slice none 0 0)))])
 (.seq (.seq (rg [qV 6 1]) (.block 0 (.rangeFunc (T 6) #[7] fa fb)))
 (.seq (rg [qL 12 s 2,qA 4 12]) .ret))
def apA (e:TypeId):Code:=rg [mo 5 (.alloc e),qS e 5 7]
def apB (s e:TypeId):Code:=.block 1 (rg [qL 8 s 2,qL 9 e 5,mo 10 (.buildSlice s 1 #[(0,T 9)]),mo 11 (.call ⟨.builtin .append,#[T 8,T 10],#[s,s]⟩),qS s 2 11])
abbrev apD (fa fb:Code) (fr:Fr) (k:Nat):m2a:=⟨13,fr,#[7],fa,fb,k,.ready,none⟩
structure ApI (F:FRep α) (fa fb:Code) (hB:DHeap) (fr:Fr) (b:Nat) (l:List α) (K:DHeap):Prop where
 r:Rng hB (apD fa fb fr hB.next) (fun j=>j=b) K
 box:∃ v w,K.get b=some (.row [v] 0 false)∧Owns F.rep NoS K v l w∧∀ i,w=some i→hB.next+1<i
theorem ApI.ext {fa fb:Code} {hB K K':DHeap} {fr:Fr} {b:Nat} {l:List α} (x:ApI F fa fb hB fr b l K) (hb:b<hB.next) (e:Ext K K'):ApI F fa fb hB fr b l K':=by
 have hn:=x.r.nx
 obtain ⟨v,w,g,o,hw⟩:=x.box
 exact ⟨x.r.ext e,v,w,(e.get _ (by omega)).trans g,o.mono e.next (fun i hi=>e.get i (o.lt i hi)) (fun i hi=>hi.elim),hw⟩
theorem J1c {fa fb:Code} (ta:Go.D.strip fa=apA e) (tb:Go.D.strip fb=apB s e) (T:AggT s e F) {hB K:DHeap} {fr:Fr} {b:Nat} {l:List α} {x:α} (hx:F.ok x) (hlen:l.length+1≤4294967296) (hb:b<hB.next) (f2:fr 2=some (.pointer (some ⟨b,0,none⟩))) (a:ApI F fa fb hB fr b l K) :
 Rt Tryz.prog (hB.next+1) 13 (E0a fr [7] [g5a F x]) fa fb K fun r H=>r=.ret (.bool true)∧ApI F fa fb hB fr b (l++[x]) H:=by
 obtain ⟨v,w,gb,o,hw⟩:=a.box
 have hwl:=o.lt
 have nx:=a.r.nx
 refine q5b ta tb (by kernel_rfl) (by kernel_rfl) ?_
 obtain ⟨zs,b1,b2,b3⟩:=T.box K hx
 obtain ⟨K1,hK1⟩:∃ K1,K1=K.push (.row (F.enc x) 0 false):=⟨_,rfl⟩
 rw[← hK1]at b2 b3
 have r1:=a.r.push (.row (F.enc x) 0 false)
 rw[← hK1]at r1
 simp -implicitDefEqProofs (disch:=first|omega|simp only[go_sem]) only[go_sem,true_and,apA,E0a,b1,b2]
 refine ⟨_,r1.lp,rfl,?_⟩
 obtain ⟨D2,hD2⟩:∃ D2:m2a,D2={ apD fa fb fr hB.next with state:=.busy,pending:=(apD fa fb fr hB.next).pending }:=⟨_,rfl⟩
 rw[← hD2]
 obtain ⟨K2,hK2⟩:∃ K2,K2=K1.set (hB.next+1) (.loop D2):=⟨_,rfl⟩
 rw[← hK2]
 have r2:Rng hB D2 (fun j=>j=b) K2:=by rw[hK2];exact r1.loop _
 have hK2n:K2.next=K.next+1:=by rw[hK2,hK1];rfl
 have hK2g:K2.ng=K.ng:=by rw[hK2,hK1];rfl
 have oth:∀ j,j<K.next→j≠hB.next+1→K2.get j=K.get j:=fun j hj hne=>by rw[hK2,Zx _ _ hne,hK1,a0a _ _ hj]
 have gb2:K2.get b=some (.row [v] 0 false):=(oth _ (by omega) (by omega)).trans gb
 have gk2:K2.get K.next=some (.row (F.enc x) 0 false):=by rw[hK2,Zx _ _ (by omega),hK1];exact Zz _ _
 have o2:Owns F.rep NoS K2 v l w:=o.mono (by omega) (fun i hi=>oth i (hwl i hi) (by have:=hw i hi;omega)) (fun i hi=>hi.elim)
 have lb:XX Tryz.prog s (.pointer (some ⟨b,0,none⟩)) K2=some v:=(B5a T.one).trans (Zy gb2)
 have lk:XX Tryz.prog e (.pointer (some ⟨K.next,0,none⟩)) K2=some (g5a F x):=by
  rw[A5a T.agg,Zu gk2 (by rw[F.len];omega)]
  simp[List.take_of_length_le,F.len]
 obtain ⟨bb,hT,hbb⟩:=T.app
 obtain ⟨zz,hB0⟩:=T.bsl
 have hle:=T.le
 have bs:f0a Tryz.prog s 1 [(0,g5a F x)] K2=some (.slice (some ⟨K2.next,0,none⟩) 1 1,K2.push (.row (F.enc x) F.z false)):=c7a hB0 T.size (by omega)
 obtain ⟨v',h2,e6,n2,ng2,gg,o3⟩:=o2.snoc (P:=Tryz.prog) (ts:=#[s,s]) (cs:=F.enc x) (x:=x) (z:=F.z) (fun i hi=>hi.elim) ⟨rfl,hx⟩ rfl hle.1 hT hlen hbb
 have hv':v'.cells=#[v']:=o3.sl.cells1
 have hone:[v'].all Value.oneCell'=true:=by obtain ⟨_,_,rfl⟩:=o3.sl.isSlice;rfl
 have gb3:h2.get b=some (.row [v] 0 false):=(gg _ (by omega) (fun h=>by have:=hw b h;omega)).trans gb2
 have w1:Yx Tryz.prog s (.pointer (some ⟨b,0,none⟩)) v' h2=some (h2.set b (.row [v'] 0 false)):=(R4a T.one hv').trans (b0a gb3 (Nat.le_of_ble_eq_true rfl) hone)
 simp -implicitDefEqProofs (disch:=first|omega|simp only[go_sem]) only[go_sem,true_and,apB,f2,lb,lk,bs,e6,w1]
 have hnw:∀ j,j<hB.next+2→w≠some j:=fun j hj h=>by have:=hw j h;omega
 have r3:Rng hB D2 (fun j=>j=b) h2:=r2.keep (by omega) ng2 fun j hj=>gg j (by omega) (hnw j hj)
 have r4:Rng hB D2 (fun j=>j=b) (h2.set b (.row [v'] 0 false)):=r3.set rfl hb
 refine ⟨D2,r4.lp,rfl,?_⟩
 subst hD2
 exact ⟨r4.loop _,v',some (K2.next+1),(Zx _ _ (by omega)).trans (Zj _ _),o3.mono (Nat.le_refl _) (fun i hi=>by cases hi;rw[Zx _ _ (by omega),Zx _ _ (by omega)]) (fun i hi=>hi.elim),fun i hi=>by cases hi;omega⟩
theorem E4b {fA fk:FuncId} {fa fb:Code} (go:GoC Tryz.prog fA 13 (apC s fa fb) [.tmp 4]) (ta:Go.D.strip fa=apA e) (tb:Go.D.strip fb=apB s e) (gk:GoC Tryz.prog fk 16 (n2b s e) []) (hg:L0a Tryz.prog fk=true) (T:AggT s e F) {h:DHeap} {c:Nat} {v:Value} {lst:List α} (hlen:lst.length≤2000000000) (hc:c<h.next) (gc:h.get c=some (.row [v] 0 false)) (av:Arg F.rep h v lst) :
 Ct Tryz.prog fA [.slice none 0 0,.func (.func fk) #[] #[.pointer (some ⟨c,0,none⟩)]] h fun r h1=>∃ w,r=.ret w∧Made F h h1 w lst:=by
 refine go (by simp) ?_
 obtain ⟨H0,hH0⟩:∃ H,H=h.push (.row [.slice none 0 0] 0 false):=⟨_,rfl⟩
 have hE0:Ext h H0:=by rw[hH0];exact Ext.push1 _ _
 have hH0n:H0.next=h.next+1:=by rw[hH0];rfl
 have gb:H0.get h.next=some (.row [.slice none 0 0] 0 false):=by rw[hH0];exact Zz _ _
 simp -implicitDefEqProofs (disch:=first|omega|simp only[go_sem]) only[go_sem,true_and,apC,T.eszS,← hH0]
 obtain ⟨fr,hfr⟩:∃ fr:Fr,fr=(((d2a [.slice none 0 0,.func (.func fk) #[] #[.pointer (some ⟨c,0,none⟩)]] 13).put (some 2) (.pointer (some ⟨h.next,0,none⟩))).put (some 4) (.slice none 0 0)).put (some 6) (.func (.func fk) #[] #[.pointer (some ⟨c,0,none⟩)]):=⟨_,rfl⟩
 rw[← hfr]
 have f2:fr 2=some (.pointer (some ⟨h.next,0,none⟩)):=by rw[hfr];simp -implicitDefEqProofs (disch:=first|omega|simp only[go_sem]) only[go_sem,true_and]
 have f6:fr 6=some (.func (.func fk) #[] #[.pointer (some ⟨c,0,none⟩)]):=by rw[hfr];simp -implicitDefEqProofs (disch:=first|omega|simp only[go_sem]) only[go_sem,true_and]
 have e2:Ext H0 ((H0.push (.marks true)).push (.loop (apD fa fb fr H0.next))):=(Ext.push1 _ _).push _
 have hold:∀ {l:List α} {K:DHeap},ApI F fa fb H0 fr h.next l K→Ext h K:=fun a=>a.r.below hE0 fun j hj=>by rw[hj];exact Nat.le_refl _
 refine NC.range_yields (fv:=.func (.func fk) #[] #[.pointer (some ⟨c,0,none⟩)]) (A:=fun H=>ApI F fa fb H0 fr h.next lst H) (B:=fun _=>False) rfl (vy f6) (fun K=>z7a hg _ _ _ K)
  ((Z7b gk T (fun i K=>ApI F fa fb H0 fr h.next (lst.take i) K) (fun _=>False) (D:=apD fa fb fr H0.next) (p:=7) (v:=v) (lst:=lst) rfl (Nat.le_of_ble_eq_true rfl) (by omega) ?_
    (fun i K a=>⟨a.r.lp,((hold a).get c hc).trans gc,av.ext (hold a)⟩) (fun i K K' a e=>a.ext (by omega) e) ?_).mono fun r H ⟨h1,h2⟩=>⟨h1,.inl (h2.elim (fun a=>by simpa using a) False.elim)⟩) (fun H a=>⟨a.r.lp,?_⟩) (fun H a=>a.elim)
 ·exact ⟨Rng.start _ _ _,_,_,(e2.get _ (by omega)).trans gb,Owns.nil _ _ _,fun i hi=>by cases hi⟩
 ·intro i K x a hx
  obtain ⟨hj,rfl⟩:=List.getElem?_eq_some_iff.1 hx
  refine (J1c ta tb T (av.ok _ (List.getElem_mem hj)) (by rw[List.length_take];omega) (by omega) f2 a).mono fun r H ⟨h1,h2⟩=>.inl ⟨h1,?_⟩
  rw[List.take_succ_eq_append_getElem hj]
  exact h2
 generalize hHf:H.set (H0.next+1) _=Hf
 obtain ⟨rr,v,w,g,o,hw⟩:=a
 have nr:=rr.nx
 have oth:∀ j,j≠H0.next+1→Hf.get j=H.get j:=fun j hj=>by rw[← hHf];exact Zx _ _ hj
 have nf:Hf.next=H.next:=by rw[← hHf];rfl
 have hEf:Ext h Hf:=by rw[← hHf];exact (rr.below hE0 fun j hj=>by rw[hj];exact Nat.le_refl _).set (by omega)
 have hM:Hf.get H0.next=some (.marks true):=(oth _ (by omega)).trans rr.mrk
 have k1:XX Tryz.prog s (.pointer (some ⟨h.next,0,none⟩)) Hf=some v:=(B5a T.one).trans (Zy ((oth _ (by omega)).trans g))
 have o1:Owns F.rep NoS (Hf.set H0.next (.marks false)) v lst w:=o.mono (Nat.le_of_eq nf.symm) (fun i hi=>by have:=hw i hi;rw[Zx _ _ (by omega),oth _ (by omega)]) (fun i hi=>hi.elim)
 simp -implicitDefEqProofs (disch:=first|omega|simp only[go_sem]) only[go_sem,true_and,f2,k1]
 refine u2b hM ?_
 simp -implicitDefEqProofs (disch:=first|omega|simp only[go_sem]) only[go_sem,true_and]
 exact ⟨_,rfl,v,rfl,hEf.set (by omega),w,o1,fun i hi=>by have:=hw i hi;omega⟩
end
end Go.Proofs.YtheamfnbfgiaeaaGreat
namespace Go.Proofs.YtheamfnbfgiaeaaGreat
open Go.D
set_option maxRecDepth 100000
def NoSer (h:DHeap) (p:Value):Prop:=p=.pointer none∨∃ B,p=.pointer (some ⟨B,0,none⟩)∧B<h.next∧h.get B=some (.row [.int .i64 0,.map none,.map none] 0 false)
theorem NoSer.ext {h h1:DHeap} {p:Value} (x:NoSer h p) (e:Ext h h1):NoSer h1 p:=by
 rcases x with rfl | ⟨B,rfl,hB,g⟩
 ·exact .inl rfl
 ·exact .inr ⟨B,rfl,Nat.lt_of_lt_of_le hB e.next,(e.get _ hB).trans g⟩
theorem O7c {h:DHeap} {ox oy:Operand}:ZX Tryz.prog .eql 79 ox oy (.map none) (.map none) h=.ok (.value (.bool true)) h:=by
 rfl
theorem J3a {h:DHeap} {p:Value} (x:NoSer h p):DC Tryz.prog 42 [p] h (.ret (.bool true)) h:=by
 refine Ct.pure (O4c (by simp) ?_) (Y0a _)
 rcases x with rfl | ⟨B,rfl,_,g⟩
 ·simp -implicitDefEqProofs (disch:=first|omega|simp only[go_sem]) only[go_sem,true_and,c42,c8c,ZJ,Yz]
  exact ⟨_,rfl,rfl,.refl _⟩
 ·simp -implicitDefEqProofs (disch:=first|omega|simp only[go_sem]) only[go_sem,true_and,c42,l9a,O7c,Zy g,ZJ,Yz]
  exact ⟨_,rfl,rfl,.refl _⟩
theorem A8b {h:DHeap} {p vt:Value} {k f n:Int} (x:NoSer h p):DC Tryz.prog 19 [p,C7a k f n vt] h (.ret (.tuple #[YU,.int .i64 2])) h:=by
 refine Ct.pure (L4c (by simp) ?_) (h2a _ rfl)
 have hcl:(C7a k f n vt).cells.toList=[.int .i64 k,.int .i64 f,.int .i64 n,vt]:=rfl
 obtain ⟨H,hH⟩:∃ H,H=h.push (.row [.int .i64 k,.int .i64 f,.int .i64 n,vt] 0 false):=⟨_,rfl⟩
 have hE:Ext h H:=by rw[hH];exact Ext.push1 _ _
 simp -implicitDefEqProofs (disch:=first|omega|simp only[go_sem]) only[go_sem,true_and,c19,hcl,← hH]
 refine YX (J3a (x.ext hE)) ?_
 simp -implicitDefEqProofs (disch:=first|omega|simp only[go_sem]) only[go_sem,true_and]
 exact ⟨_,rfl,rfl,hE⟩
theorem Q3c {h:DHeap} {p:Value} (x:NoSer h p):DC Tryz.prog 24 [p] h (.ret (.int .i64 0)) h:=by
 refine Ct.pure (M4c (by simp) ?_) (T0a _ _)
 simp -implicitDefEqProofs (disch:=first|omega|simp only[go_sem]) only[go_sem,true_and,c24]
 refine YX (J3a x) ?_
 simp -implicitDefEqProofs (disch:=first|omega|simp only[go_sem]) only[go_sem,true_and]
 exact ⟨_,rfl,rfl,.refl _⟩
theorem N3c {h:DHeap} {p:Value} (x:NoSer h p):DC Tryz.prog 20 [p] h (.ret YU) h:=by
 refine Ct.pure (u3d (by simp) ?_) (h2a _ rfl)
 simp -implicitDefEqProofs (disch:=first|omega|simp only[go_sem]) only[go_sem,true_and,c20]
 refine YX (J3a x) ?_
 simp -implicitDefEqProofs (disch:=first|omega|simp only[go_sem]) only[go_sem,true_and,Bool.not_true]
 exact ⟨_,rfl,rfl,.refl _⟩
theorem J8b {h:DHeap} {p:Value} (x:NoSer h p):DC Tryz.prog 30 [p] h (.ret (.pointer none)) h:=by
 refine Ct.pure (x3d (by simp) ?_) (h2a _ rfl)
 simp -implicitDefEqProofs (disch:=first|omega|simp only[go_sem]) only[go_sem,true_and,c30]
 refine YX (J3a x) ?_
 simp -implicitDefEqProofs (disch:=first|omega|simp only[go_sem]) only[go_sem,true_and]
 exact ⟨_,rfl,rfl,.refl _⟩
theorem z7c {h:DHeap} {p:Value} {k:Key} (x:NoSer h p):DC Tryz.prog 25 [p,ZZ k] h (.ret (.tuple #[U0a r4a,.bool false])) h:=by
 refine Ct.pure (N4c (by simp) ?_) (h2a _ rfl)
 have hcl:(ZZ k).cells.toList=[.int .i32 k.t,.int .i64 k.r]:=rfl
 obtain ⟨H,hH⟩:∃ H,H=(h.push (.row [.int .i32 k.t,.int .i64 k.r] 0 false)).push (.row [.int .i32 0,.int .i64 0,.int .i64 0,.int .i64 0] 0 false):=⟨_,rfl⟩
 have hE:Ext h H:=by rw[hH];exact (Ext.push1 _ _).push _
 have gr:H.get (h.next+1)=some (.row [.int .i32 0,.int .i64 0,.int .i64 0,.int .i64 0] 0 false):=by rw[hH];exact Zz _ _
 simp -implicitDefEqProofs (disch:=first|omega|simp only[go_sem]) only[go_sem,true_and,c25,hcl,m0a,← hH]
 refine YX (J3a (x.ext hE)) ?_
 have hbd:Xy Tryz.prog 33 []=some (U0a r4a):=l0a I0c rfl
 obtain ⟨M,hM⟩:∃ M,M=H.set (h.next+1) (.row [.int .i32 0,.int .i64 0,.int .i64 0,.int .i64 0] 0 false):=⟨_,rfl⟩
 have s2:Yx Tryz.prog 33 (.pointer (some ⟨h.next+1,0,none⟩)) (U0a r4a) H=some M:=by
  rw[hM]
  exact (V6a rfl).trans (b2a gr rfl rfl)
 have l2:Zk M (h.next+1) 0 4=some (U0a r4a):=by rw[hM,Zu (Zj _ _) (Nat.le_of_ble_eq_true rfl)];rfl
 simp -implicitDefEqProofs (disch:=first|omega|simp only[go_sem]) only[go_sem,true_and,hbd,s2,S5a,W2a,C5a,G0a,l2]
 exact ⟨_,rfl,rfl,by rw[hM];exact hE.set (by omega)⟩
def a8b (h:DHeap) (l:List Cell) (r:DEnd) (h1:DHeap):Prop:=∃ c v,r=.ret (.func (.func 67) #[] #[.pointer (some ⟨c,0,none⟩)])∧Ext h h1∧c<h1.next∧h1.get c=some (.row [v] 0 false)∧Arg fCell.rep h1 v l
theorem s4b {h:DHeap} {v:Value} {l:List Cell} (a:Arg fCell.rep h v l):Ct Tryz.prog 48 [v] h (a8b h l):=by
 refine E3d (by simp) ?_
 obtain ⟨x,y,rfl⟩:=a.isSlice
 have hcv':(Value.slice x l.length y).cells.toList=[.slice x l.length y]:=rfl
 obtain ⟨H,hH⟩:∃ H,H=h.push (.row [.slice x l.length y] 0 false):=⟨_,rfl⟩
 have hE:Ext h H:=by rw[hH];exact Ext.push1 _ _
 simp -implicitDefEqProofs (disch:=first|omega|simp only[go_sem]) only[go_sem,true_and,c48,hcv',← hH]
 exact ⟨_,rfl,h.next,_,rfl,hE,by rw[hH];exact Nat.lt_succ_self _,by rw[hH];exact Zz _ _,a.ext hE⟩
theorem H8b {h:DHeap} {p:Value} (x:NoSer h p):Ct Tryz.prog 29 [p] h (a8b h []):=by
 refine w3d (by simp) ?_
 simp -implicitDefEqProofs (disch:=first|omega|simp only[go_sem]) only[go_sem,true_and,c29]
 refine YX (J3a x) ?_
 simp -implicitDefEqProofs (disch:=first|omega|simp only[go_sem]) only[go_sem,true_and,Bool.not_true]
 refine YW (s4b (.nil _ _ _)) ?_
 rintro r H ⟨c,v,rfl,q⟩
 simp -implicitDefEqProofs (disch:=first|omega|simp only[go_sem]) only[go_sem,true_and,Xk]
 exact ⟨_,rfl,c,v,rfl,q⟩
theorem K1b {h:DHeap} {c:Nat} {v:Value} {l:List Cell} (hlen:l.length≤2000000000) (hc:c<h.next) (gc:h.get c=some (.row [v] 0 false)) (av:Arg fCell.rep h v l) :
 Ct Tryz.prog 28 [.func (.func 67) #[] #[.pointer (some ⟨c,0,none⟩)]] h fun r h1=>∃ w,r=.ret w∧Made fCell h h1 w l:=by
 refine v3d (by simp) ?_
 simp -implicitDefEqProofs (disch:=first|omega|simp only[go_sem]) only[go_sem,true_and,c28]
 refine YW (E4b (s:=29) (e:=33) (fun h1 h2=>D3d h1 h2) j2d m2d f3c (by kernel_rfl) n3d hlen hc gc av) ?_
 rintro r H ⟨w,rfl,m⟩
 simp -implicitDefEqProofs (disch:=first|omega|simp only[go_sem]) only[go_sem,true_and,Xk]
 exact ⟨_,rfl,w,rfl,m⟩
theorem J3c {h:DHeap} {ox oy:Operand}:ZX Tryz.prog .neq 47 ox oy (.pointer none) (.pointer none) h=.ok (.value (.bool false)) h:=by
 rfl
theorem C0c {h:DHeap} {kd f n:Int} {vt:Value} {k:Key} (hone:vt.cells=#[vt]):DC Tryz.prog 7 [C7a kd f n vt,ZZ k] h (.ret (.bool true)) h:=by
 refine Ct.pure (d5d (by simp) ?_) (Y0a _)
 have hcl:(C7a kd f n vt).cells.toList=[.int .i64 kd,.int .i64 f,.int .i64 n,vt]:=rfl
 have hck:(ZZ k).cells.toList=[.int .i32 k.t,.int .i64 k.r]:=rfl
 obtain ⟨H,hH⟩:∃ H,H=(h.push (.row [.int .i64 kd,.int .i64 f,.int .i64 n,vt] 0 false)).push (.row [.int .i32 k.t,.int .i64 k.r] 0 false):=⟨_,rfl⟩
 have hE:Ext h H:=by rw[hH];exact (Ext.push1 _ _).push _
 have hHn:H.next=h.next+2:=by rw[hH];rfl
 have le:∀ K,Ext H K→Zk K h.next 0 4=some (C7a kd f n vt):=fun K e=>by
  rw[Zu ((e.get _ (by omega)).trans (by rw[hH];exact p5a)) (Nat.le_of_ble_eq_true rfl)]
  rfl
 have lk:∀ K,Ext H K→Zk K (h.next+1) 0 2=some (ZZ k):=fun K e=>by
  rw[Zu ((e.get _ (by omega)).trans (by rw[hH];exact Zz _ _)) (Nat.le_of_ble_eq_true rfl)]
  rfl
 have hbd:Xy Tryz.prog 82 []=some (.agg #[.int .i64 0,.map none,.map none]):=l0a J0c rfl
 have hcb:(Value.agg #[.int .i64 0,.map none,.map none]).cells.toList=[.int .i64 0,.map none,.map none]:=rfl
 obtain ⟨A,hA⟩:∃ A,H.push (.row [.int .i64 0,.map none,.map none] 0 false)=A:=⟨_,rfl⟩
 have eA:Ext H A:=hA▸Ext.push1 _ _
 have nA:A.next=H.next+1:=by rw[← hA];rfl
 have gA:A.get H.next=some (.row [.int .i64 0,.map none,.map none] 0 false):=by rw[← hA];exact Zz _ _
 obtain ⟨B,hB⟩:∃ B,A.push (.row [.pointer none,.pointer (some ⟨H.next,0,none⟩)] 1 false)=B:=⟨_,rfl⟩
 have eB:Ext A B:=hB▸Ext.push1 _ _
 have gB:B.get A.next=some (.row [.pointer none,.pointer (some ⟨H.next,0,none⟩)] 1 false):=by rw[← hB];exact Zz _ _
 have nB:B.next=H.next+2:=by rw[← hB];show A.next+1=_;omega
 have hno:∀ K,Ext B K→∀ i,i<2→∃ p,Zq K A.next i=some p∧NoSer K p:=fun K e i hi=>by
  have g:=(e.get A.next (by omega)).trans gB
  match i,hi with
  | 0,_=>exact ⟨_,Zy g,.inl rfl⟩
  | 1,_=>exact ⟨_,Zy g,.inr ⟨H.next,rfl,by have:=e.next;omega,((eB.trans e).get _ (by omega)).trans gA⟩⟩
 simp -implicitDefEqProofs (disch:=first|omega|simp only[go_sem]) only[go_sem,true_and,c7,hcl,hck,m0a,← hH]
 refine YX o3c ?_
 simp -implicitDefEqProofs (disch:=first|omega|simp only[go_sem]) only[go_sem,true_and,Bool.not_true,hbd,hcb,hA,hB]
 refine A0a (σ:=Nat) (by kernel_rfl) (fun i s=>s.df=[]∧s.rd=none∧s.fr 2=some (.pointer (some ⟨h.next,0,none⟩))∧s.fr 3=some (.pointer (some ⟨h.next+1,0,none⟩))∧s.fr 15=some (.slice (some ⟨A.next,0,none⟩) 2 2)∧s.fr 16=some (.int .i64 2)∧s.fr 17=some (.int .i64 (i:Nat))∧i≤2∧Ext B s.h) (fun i=>2 - i) 0 ?_ ?_
 ·simp -implicitDefEqProofs (disch:=first|omega|simp only[go_sem]) only[go_sem,true_and]
  exact ⟨by trivial,by trivial,Nat.zero_le _,.refl _⟩
 rintro i ⟨fr,df,K,rd⟩ K' hK' hX ⟨rfl,rfl,f2,f3,f15,f16,f17,hi,eK⟩
 simp only at f2 f3 f15 f16 f17 eK
 simp -implicitDefEqProofs (disch:=first|omega|simp only[go_sem]) only[go_sem,true_and,f15,f16,f17]
 refine n0a (fun hc1=>?_) (fun hc1=>?_)
 ·have hj:i<2:=by omega
  obtain ⟨p,c1,x⟩:=hno K eK i hj
  have hw:IntKind.i64.wrap ((i:Nat)+1:Int)=((i+1:Nat):Int):=by
   rw[o0a (by omega) (by omega)];rfl
  have eHK:=eA.trans (eB.trans eK)
  have hidx:ZQ Tryz.prog 83 (.slice (some ⟨A.next,0,none⟩) 2 2) (.int .i64 (i:Nat))=some (.pointer (some ⟨A.next,i,none⟩)):=by
   rw[Y3d (by omega) (by omega)]
   simp
  simp -implicitDefEqProofs (disch:=first|omega|simp only[go_sem]) only[go_sem,true_and,f2,f3,f15,f17,hidx,c1,le K eHK]
  refine YX (A8b x) ?_
  simp -implicitDefEqProofs (disch:=first|omega|simp only[go_sem]) only[go_sem,true_and,f3,lk K eHK]
  refine YX (z7c x) ?_
  obtain ⟨K1,hK1⟩:∃ K1,K1=K.push (.row [.int .i32 0,.int .i64 0,.int .i64 0,.int .i64 0] 0 false):=⟨_,rfl⟩
  have e1:Ext K K1:=hK1▸Ext.push1 _ _
  have st1:Yx Tryz.prog 33 (.pointer (some ⟨K.next,0,none⟩)) (U0a r4a) (K.push (.row [.int .i32 0,.int .i64 0,.int .i64 0,.int .i64 0] 0 false))=some K1:=by
   rw[hK1]
   exact (V6a rfl).trans (c0a rfl rfl)
  have l51:∀ K,dLen Tryz.prog #[51] YU K=some (.int .i64 0):=fun K=>(n0c (h:=K)).trans (by rw[G6a];rfl)
  have l57:∀ K,dLen Tryz.prog #[57] YU K=some (.int .i64 0):=fun K=>(o0c (h:=K)).trans (by rw[G6a];rfl)
  have x1:=x.ext e1
  simp -implicitDefEqProofs (disch:=first|omega|simp only[go_sem]) only[go_sem,true_and,st1,l51,ZJ,Yz,decide_true,Bool.not_true]
  refine YX (Q3c x1) ?_
  simp -implicitDefEqProofs (disch:=first|omega|simp only[go_sem]) only[go_sem,true_and,ZJ,Yz,decide_true,Bool.not_true]
  refine YX (N3c x1) ?_
  simp -implicitDefEqProofs (disch:=first|omega|simp only[go_sem]) only[go_sem,true_and,l57,ZJ,Yz,decide_true,Bool.not_true]
  refine YW (H8b x1) ?_
  rintro r K2 ⟨c,v,rfl,e2,hc,gc,av⟩
  simp -implicitDefEqProofs (disch:=first|omega|simp only[go_sem]) only[go_sem,true_and,Xk]
  refine YW (K1b (Nat.zero_le _) hc gc av) ?_
  rintro r K3 ⟨w,rfl,mw⟩
  have lw:∀ K,dLen Tryz.prog #[29] w K=some (.int .i64 0):=mw.sl.lens (P:=Tryz.prog) (ts:=#[29]) (t:=29) rfl p1d
  have e3:=e2.trans mw.ext
  simp -implicitDefEqProofs (disch:=first|omega|simp only[go_sem]) only[go_sem,true_and,Xk,lw,ZJ,Yz,decide_true,Bool.not_true]
  refine YX (J8b (x1.ext e3)) ?_
  simp -implicitDefEqProofs (disch:=first|omega|simp only[go_sem]) only[go_sem,true_and,J3c,ZJ,Yz,f17,hw]
  refine hK' (i+1) _ ?_ (by omega)
  exact ⟨by trivial,by trivial,(vy f2),(vy f3),(vy f15),(vy f16),vz,by omega,eK.trans (e1.trans e3)⟩
 obtain rfl:i=2:=by omega
 refine hX _ _ (by simp) ?_
 simp -implicitDefEqProofs (disch:=first|omega|simp only[go_sem]) only[go_sem,true_and]
 exact ⟨_,rfl,rfl,hE.trans (eA.trans (eB.trans eK))⟩
structure p1c where
 k:Int
 f:Int
 n:Int
 txns:List Txn
def rEnt:Rep p1c:=rM (rP fI64.rep (rP fI64.rep (rP fI64.rep (rSl rTxn)))) fun x=>(x.k,x.f,x.n,x.txns)
theorem C0d {S:Nat→Prop} {h:DHeap} {cs:List Value} {x:p1c} (a:rEnt.rd S h cs x):∃ vt,cs=[.int .i64 x.k,.int .i64 x.f,.int .i64 x.n,vt]∧Sl rTxn S h vt x.txns:=by
 obtain ⟨_,_,rfl,⟨rfl,_⟩,_,_,rfl,⟨rfl,_⟩,_,_,rfl,⟨rfl,_⟩,vt,rfl,hv⟩:=a
 exact ⟨vt,rfl,hv⟩
def H5b (x:p1c):Nat:=3+t2a c8a x.txns
theorem m3c:Lays Tryz.prog 43 (rSl rTxn) (t2a c8a):=.slice (e:=26) (by kernel_rfl) (by kernel_rfl) (by decide) I7c
abbrev B0d:List (Nat × Nat):=[(3,0),(3,1),(2,2),(43,3)]
theorem G7c:Lays Tryz.prog 45 rEnt H5b:=
 (Lays.of (l:=B0d) (by kernel_rfl) (by kernel_rfl) (.cons Z5b (.cons Z5b (.cons m6a (.one m3c))))).conv (Q:=rEnt) rfl (fun x=>⟨x.1,x.2.1,x.2.2.1,x.2.2.2⟩) (fun _ _ _ _ h=>h)
   (fun x=>by simp only[H5b];omega)
theorem W7c:Par Tryz.prog 45 true:=X9a (l:=B0d) (by kernel_rfl)
theorem X7c:Par Tryz.prog 31 true:=X9a (l:=[(21,0),(2,1)]) (by kernel_rfl)
end Go.Proofs.YtheamfnbfgiaeaaGreat
namespace Go.Proofs.YtheamfnbfgiaeaaGreat.lawNoneS
open Go.D
open Go.ChangeShapes Go.WideShapes Go.ChangeAt Go.RowKit
theorem own:ownKnob Tryz.prog.godebug=none:=by kernel_rfl
set_option maxRecDepth 100000 in
theorem lifted (os:Os) (started:os.Started) (H:Type) (enc:TypeId × Value→H) (F:Stop.Interp) :
 ReturnsInHanded {} Tryz.checked os 7 .any ((Rows.OpenSpec.upto Rows.serialNoneSpec).pre6 enc Tryz.prog Tryz.f7 Rows.serialNoneUptoRow.domain false) (((Rows.OpenSpec.upto Rows.serialNoneSpec).at F).post enc Tryz.prog Tryz.f7 false true false false):=by
 refine returnsInHanded_of_cond (C:=Tryz.checked) (s:=Rows.OpenSpec.upto Rows.serialNoneSpec) (k:=Rows.uptoSmall) rfl own started (by kernel_rfl) Tryz.func7
  (OpenSpec.witness (enc:=enc) (C:=Tryz.checked) (s:=Rows.OpenSpec.upto Rows.serialNoneSpec) (k:=Rows.uptoSmall) rfl false ⟨#[],#[.agg #[.int .i64 0,.int .i64 0,.int .i64 0,.slice none 0 0],.agg #[.int .i32 0,.int .i64 0]],[]⟩ 8 (by kernel_rfl) (by kernel_rfl) (by kernel_rfl)
    (x:=([.agg [.lit (.int .i64 0),.lit (.int .i64 0),.lit (.int .i64 0),.nil],.agg [.lit (.int .i32 0),.lit (.int .i64 0)]],[],[])) (by kernel_rfl) rfl (by kernel_rfl)) ?_
 intro W base args ds gs before hval hW _ hk _
 refine k3c (by kernel_rfl)
  (.cons (agg:=true) W7c G7c (.cons (agg:=true) X7c a6b .nil)) (tb:=4) (by kernel_rfl) (by kernel_rfl) rfl (fun ds hl=>?_) (fun h vs x hng hq hB=>?_) W base args ds gs before hval hW hk
 ·match ds,hl with
  | [d0,d1],_=>rfl
 ·obtain ⟨cs,vs1,rfl,h1,cs2,vs2,rfl,⟨rfl,_⟩,rfl⟩:=hq
  obtain ⟨vt,rfl,hv⟩:=C0d h1
  exact (C0c hv.cells1).ct rfl
theorem p1:Tryz.pinned.checked.prog.funcNamed Rows.serialNoneUptoRow.func=some 7:=by kernel_rfl
theorem p2:joinedFacts Tryz.pinned.checked.prog 7 Tryz.f7 (Rows.OpenSpec.upto Rows.serialNoneSpec).bare Rows.serialNoneUptoRow=true:=by kernel_rfl
theorem p3:Tryz.f7.isInstance Tryz.pinned.checked.prog Rows.serialNoneUptoRow.origin Rows.serialNoneUptoRow.targs:=of_decide_eq_true (by kernel_rfl)
theorem p4:Tryz.f7.isWrapper Tryz.pinned.checked.prog Rows.serialNoneUptoRow.wrapper Rows.serialNoneUptoRow.mainSum:=by unfold Func.isWrapper;first | (rw[if_pos (by decide +kernel)];kernel_rfl) | (rw[if_neg (by decide +kernel)];exact ⟨rfl,rfl⟩)
theorem proved:Rows.SerialNoneUptoSaid:=
 OpenClaim.holds_of_cond 7 Tryz.f7 rfl rfl rfl rfl rfl rfl rfl ⟨rfl,rfl,rfl,rfl,rfl⟩ rfl rfl rfl rfl rfl p1 Tryz.func7 p2 p3 p4
  (fun os started H enc _ F=>lifted os started H enc F)
end Go.Proofs.YtheamfnbfgiaeaaGreat.lawNoneS
