/-
A part of the proof of a law: contracts of functions over plain heaps, and what they lean on. Conditions: none.
-/
import Derived.RangeFuncLeaves
import Derived.RecoverIn
import Derived.RangeFuncRecord
import Derived.RangeFuncNested
import Derived.OrdersIn
import Derived.Laws.Sem
import Derived.Laws.World
import Derived.Laws.Cells
import Derived.Laws.Tables
import Derived.Laws.IdiomStrings
import Derived.LoopNIn
set_option linter.unusedSimpArgs false
set_option linter.unusedVariables false
set_option linter.defProp false
namespace Go.D
structure Ent where
 block:Nat
 shift:Nat
 esz:Nat
 size:Nat
 ro:Bool
abbrev Inj:=Nat→Option Ent
inductive VRel (ι:Inj):Value→Value→Prop
 | bool (b):VRel ι (.bool b) (.bool b)
 | int (k n):VRel ι (.int k n) (.int k n)
 | float (k b):VRel ι (.float k b) (.float k b)
 | complex (k a b):VRel ι (.complex k a b) (.complex k a b)
 | string (s):VRel ι (.string s) (.string s)
 | nilFunc:VRel ι .nilFunc .nilFunc
 | nilIface:VRel ι .nilIface .nilIface
 | pnil:VRel ι (.pointer none) (.pointer none)
 | ptr {id o:Nat} {e:Ent} (h:ι id=some e):VRel ι (.pointer (some ⟨id,o,none⟩)) (.pointer (some ⟨e.block,e.shift+o,none⟩))
 | snil:VRel ι (.slice none 0 0) (.slice none 0 0)
 | slice {id o len cap cap':Nat} {e:Ent} {a':Addr} (h:ι id=some e) (hl:len≤cap') (hx:cap=len→cap'=len) (ha:0<cap'→a'=⟨e.block,e.shift+o,none⟩)
    (hb:e.ro=false→0<cap'→e.shift+o+cap'*e.esz≤e.size):VRel ι (.slice (some ⟨id,o,none⟩) len cap) (.slice (some a') len cap')
 | mnil:VRel ι (.map none) (.map none)
 | map {id:Nat} {e:Ent} (h:ι id=some e) (hs:e.shift=0):VRel ι (.map (some id)) (.map (some e.block))
 | func {fn:Fn} {first cap first' cap':Array Value} (hf:∀ l,fn≠.yield l) (h1:first.size=first'.size) (h2:∀ (i:Nat) v v',first[i]? = some v→first'[i]? = some v'→VRel ι v v')
    (h3:cap.size=cap'.size) (h4:∀ (i:Nat) v v',cap[i]? = some v→cap'[i]? = some v'→VRel ι v v'):VRel ι (.func fn first cap) (.func fn first' cap')
 | yield {id:Nat} {e:Ent} (h:ι id=some e) (hs:e.shift=0):VRel ι (.func (.yield id) #[] #[]) (.func (.yield e.block) #[] #[])
 | iface {t:TypeId} {v v':Value} (h:VRel ι v v'):VRel ι (.iface t v) (.iface t v')
 | agg {cs cs':Array Value} (h1:cs.size=cs'.size) (h2:∀ (i:Nat) v v',cs[i]? = some v→cs'[i]? = some v'→VRel ι v v'):VRel ι (.agg cs) (.agg cs')
 | tuple {cs cs':Array Value} (h1:cs.size=cs'.size) (h2:∀ (i:Nat) v v',cs[i]? = some v→cs'[i]? = some v'→VRel ι v v'):VRel ι (.tuple cs) (.tuple cs')
def Inj.le (ι ι':Inj):Prop:=∀ id e,ι id=some e→ι' id=some e
theorem Inj.le_refl (ι:Inj):ι.le ι:=fun _ _ h=>h
theorem Inj.le_trans {ι ι' ι'':Inj} (h:ι.le ι') (k:ι'.le ι''):ι.le ι'':=fun id e he=>k id e (h id e he)
theorem VRel.mono {ι ι':Inj} (hi:ι.le ι') {v v':Value} (h:VRel ι v v'):VRel ι' v v':=by
 induction h with
 | bool b=>exact .bool b
 | int k n=>exact .int k n
 | float k b=>exact .float k b
 | complex k a b=>exact .complex k a b
 | string s=>exact .string s
 | nilFunc=>exact .nilFunc
 | nilIface=>exact .nilIface
 | pnil=>exact .pnil
 | ptr h=>exact .ptr (hi _ _ h)
 | snil=>exact .snil
 | slice h hl hx ha hb=>exact .slice (hi _ _ h) hl hx ha hb
 | mnil=>exact .mnil
 | map h hs=>exact .map (hi _ _ h) hs
 | func hf h1 _ h3 _ ih2 ih4=>exact .func hf h1 ih2 h3 ih4
 | yield h hs=>exact .yield (hi _ _ h) hs
 | iface _ ih=>exact .iface ih
 | agg h1 _ ih=>exact .agg h1 ih
 | tuple h1 _ ih=>exact .tuple h1 ih
def LRel (ι:Inj) (l:List Value) (l':List Value):Prop:=l.length=l'.length∧∀ (i:Nat) v v',l[i]? = some v→l'[i]? = some v'→VRel ι v v'
theorem LRel.mono {ι ι':Inj} (hi:ι.le ι') {l l':List Value} (h:LRel ι l l'):LRel ι' l l':=⟨h.1,fun i v v' a b=>(h.2 i v v' a b).mono hi⟩
theorem LRel.nil (ι:Inj):LRel ι [] []:=⟨rfl,fun i v v' h=>by simp at h⟩
theorem LRel.cons {ι:Inj} {v v':Value} {l l':List Value} (h:VRel ι v v') (k:LRel ι l l'):LRel ι (v :: l) (v' :: l'):=by
 refine ⟨by simp[k.1],fun i u u' a b=>?_⟩
 cases i with
 | zero=>simp at a b;subst a b;exact h
 | succ i=>simp at a b;exact k.2 i _ _ a b
theorem LRel.get {ι:Inj} {l l':List Value} (h:LRel ι l l') {i:Nat} {v:Value} (hv:l[i]? = some v):∃ v',l'[i]? = some v'∧VRel ι v v':=by
 have hi:i<l'.length:=by rw[← h.1];exact (List.getElem?_eq_some_iff.1 hv).1
 exact ⟨l'[i],List.getElem?_eq_getElem hi,h.2 i _ _ hv (List.getElem?_eq_getElem hi)⟩
theorem LRel.append {ι:Inj} {l l' k k':List Value} (h:LRel ι l l') (g:LRel ι k k'):LRel ι (l++k) (l'++k'):=by
 refine ⟨by simp[h.1,g.1],fun i v v' a b=>?_⟩
 rw[List.getElem?_append]at a b
 rw[h.1]at a
 split at a
 ·rename_i hlt;rw[if_pos hlt]at b;exact h.2 i _ _ a b
 ·rename_i hlt;rw[if_neg hlt]at b;exact g.2 _ _ _ a b
theorem LRel.take {ι:Inj} {l l':List Value} (h:LRel ι l l') (n:Nat):LRel ι (l.take n) (l'.take n):=by
 refine ⟨by simp[h.1],fun i v v' a b=>?_⟩
 rw[List.getElem?_take]at a b
 split at a
 ·rename_i hlt;rw[if_pos hlt]at b;exact h.2 i _ _ a b
 ·cases a
theorem LRel.drop {ι:Inj} {l l':List Value} (h:LRel ι l l') (n:Nat):LRel ι (l.drop n) (l'.drop n):=by
 refine ⟨by simp[h.1],fun i v v' a b=>?_⟩
 rw[List.getElem?_drop]at a b
 exact h.2 _ _ _ a b
theorem LRel.set {ι:Inj} {l l':List Value} (h:LRel ι l l') (n:Nat) {v v':Value} (hv:VRel ι v v'):LRel ι (l.set n v) (l'.set n v'):=by
 refine ⟨by simp[h.1],fun i u u' a b=>?_⟩
 rw[List.getElem?_set]at a b
 split at a
 ·rename_i heq
  rw[if_pos heq]at b
  split at a
  ·split at b
   ·cases a;cases b;exact hv
   ·cases b
  ·cases a
 ·rename_i heq;rw[if_neg heq]at b;exact h.2 i _ _ a b
theorem LRel.getD {ι:Inj} {l l':List Value} (h:LRel ι l l') {d d':Value} (hd:VRel ι d d') (i:Nat):VRel ι (l.getD i d) (l'.getD i d'):=by
 simp only[List.getD_eq_getElem?_getD]
 cases hv:l[i]? with
 | none=>
   have:l'[i]? = none:=by rw[List.getElem?_eq_none_iff]at hv ⊢;rw[← h.1];exact hv
   rw[this];exact hd
 | some v=>
   obtain ⟨v',hv',hr⟩:=h.get hv
   rw[hv'];exact hr
theorem LRel.replicate (ι:Inj) {v v':Value} (h:VRel ι v v') (n:Nat):LRel ι (List.replicate n v) (List.replicate n v'):=by
 refine ⟨by simp,fun i u u' a b=>?_⟩
 rw[List.getElem?_replicate]at a b
 split at a
 ·rename_i hlt;rw[if_pos hlt]at b;cases a;cases b;exact h
 ·cases a
theorem T1a (ι:Inj):VRel ι undef undef:=.tuple rfl fun i v v' h=>by simp at h
def Yw:Value→Bool
 | .bool _ | .int _ _ | .float _ _ | .complex _ _ _ | .string _ | .nilFunc | .nilIface | .pointer none | .slice none 0 0 | .map none=>true
 | _=>false
def XY:Value→Bool
 | .agg cs=>cs.toList.all Yw
 | v=>Yw v
def Yj:Value→Bool
 | .iface _ v=>XY v
 | .tuple vs=>vs.toList.all XY
 | v=>XY v
theorem E3a (ι:Inj) {v:Value} (h:Yw v=true):VRel ι v v:=by
 unfold Yw at h
 split at h <;> first | constructor | cases h
theorem W0a {f:Value→Bool} {l:List Value} (h:l.all f=true) {i:Nat} {v:Value} (hv:l[i]? = some v):f v=true:=
 List.all_eq_true.1 h v (List.mem_of_getElem? hv)
theorem F3a (ι:Inj) {v:Value} (h:XY v=true):VRel ι v v:=by
 unfold XY at h
 split at h
 ·refine .agg rfl fun i v v' a b=>?_
  rw[a]at b;cases b
  exact E3a ι (W0a h (i:=i) (by simpa using a))
 ·exact E3a ι h
theorem r0a (ι:Inj) {v:Value} (h:Yj v=true):VRel ι v v:=by
 unfold Yj at h
 split at h
 ·exact .iface (F3a ι h)
 ·refine .tuple rfl fun i v v' a b=>?_
  rw[a]at b;cases b
  exact F3a ι (W0a h (i:=i) (by simpa using a))
 ·exact F3a ι h
theorem x1b {ι:Inj} {v v':Value} (h:VRel ι v v') (hf:Yw v=true):v'=v:=by
 cases h <;> first | rfl | (simp[Yw]at hf;done)
theorem K4a {ι:Inj} {cs cs':Array Value} (h1:cs.size=cs'.size) (h2:∀ (i:Nat) v v',cs[i]? = some v→cs'[i]? = some v'→VRel ι v v')
 {f:Value→Bool} (hf:cs.toList.all f=true) (h:∀ v v',VRel ι v v'→f v=true→v'=v):cs'=cs:=by
 refine Array.ext h1.symm fun i hi hi'=>?_
 have a:cs[i]? = some cs[i]:=Array.getElem?_eq_getElem hi'
 have b:cs'[i]? = some cs'[i]:=Array.getElem?_eq_getElem hi
 exact h _ _ (h2 i _ _ a b) (W0a hf (i:=i) (by simp))
theorem y1b {ι:Inj} {v v':Value} (h:VRel ι v v') (hf:XY v=true):v'=v:=by
 cases h with
 | agg h1 h2=>rw[K4a h1 h2 (by simpa [XY] using hf) fun _ _=>x1b]
 | tuple h1 h2=>simp[XY,Yw]at hf
 | _=>first | rfl | (simp[XY,Yw]at hf;done)
theorem b1a {ι:Inj} {v v':Value} (h:VRel ι v v') (hf:Yj v=true):v'=v:=by
 cases h with
 | agg h1 h2=>rw[K4a h1 h2 hf fun _ _=>x1b]
 | tuple h1 h2=>rw[K4a h1 h2 hf fun _ _=>y1b]
 | iface h=>rw[y1b h hf]
 | _=>first | rfl | (simp[Yj,XY,Yw]at hf;done)
abbrev Fr:=Nat→Option Value
def Fr.put (fr:Fr) (d:Option Tmp) (v:Value):Fr:=
 match d with
 | none=>fr
 | some d=>fun t=>if t=d then some v else fr t
def FRel (ι:Inj) (nt:Nat) (fr:Fr) (tmps:Array Value):Prop:=tmps.size=nt∧∀ t v,fr t=some v→VRel ι v (tmps.getD t undef)
theorem FRel.mono {ι ι':Inj} (hi:ι.le ι') {nt:Nat} {fr:Fr} {tmps:Array Value} (h:FRel ι nt fr tmps):FRel ι' nt fr tmps:=⟨h.1,fun t v hv=>(h.2 t v hv).mono hi⟩
theorem FRel.put {ι:Inj} {nt:Nat} {fr:Fr} {tmps:Array Value} (hf:FRel ι nt fr tmps) {d:Tmp} {v v':Value} (hd:d<nt) (hv:VRel ι v v'):FRel ι nt (fr.put (some d) v) (tmps.setIfInBounds d v'):=by
 refine ⟨by simpa using hf.1,fun t u hu=>?_⟩
 have hdn:d<tmps.size:=by rw[hf.1];exact hd
 simp only[Fr.put]at hu
 by_cases htd:t=d
 ·subst htd
  rw[if_pos rfl]at hu;cases hu
  simp[Array.getD_eq_getD_getElem?,hdn]
  exact hv
 ·rw[if_neg htd]at hu
  have:=hf.2 t u hu
  simp only[Array.getD_eq_getD_getElem?,Array.getElem?_setIfInBounds_ne (Ne.symm htd)]at this ⊢
  exact this
structure m2a where
 size:Nat
 tmps:Fr
 params:Array Tmp
 assign:Code
 body:Code
 mark:Nat
 state:LoopState
 pending:Option Code
inductive DObj
 | row (cells:List Value) (esz:Nat) (ro:Bool)
 | map (es:List MapEntry) (clock:Nat)
 | loop (l:m2a)
 | marks (opn:Bool)
 | iter (m:Option Nat) (since:Nat) (seen:List Nat) (last:Nat)
 | dead
structure DHeap where
 get:Nat→Option DObj
 next:Nat
 ng:Nat
def DHeap.push (h:DHeap) (o:DObj):DHeap:={ h with get:=fun i=>if i=h.next then some o else h.get i,next:=h.next+1 }
def DHeap.set (h:DHeap) (i:Nat) (o:DObj):DHeap:={ h with get:=fun j=>if j=i then some o else h.get j }
def ERel (ι:Inj) (es es':List MapEntry):Prop:=es.length=es'.length∧∀ (i:Nat) e e',es[i]? = some e→es'[i]? = some e'→e'.key=e.key∧e'.born=e.born∧VRel ι e.val e'.val
theorem ERel.mono {ι ι':Inj} (hi:ι.le ι') {l l':List MapEntry} (h:ERel ι l l'):ERel ι' l l':=⟨h.1,fun i v v' a b=>let ⟨x,y,z⟩:=h.2 i v v' a b;⟨x,y,z.mono hi⟩⟩
structure n0b (ι:Inj) (d:m2a) (l:Loop) (w:World):Prop where
 tmps:FRel ι d.size d.tmps l.tmps
 params:l.params=d.params
 assign:l.assign=d.assign
 body:l.body=d.body
 state:l.state=d.state
 pending:l.pending=d.pending
 defers:∃ e,ι d.mark=some e∧e.shift=0∧l.defers=e.block
def IterRel (ι:Inj):Option Nat→Option Nat→Prop
 | none,none=>True
 | some l,some b=>∃ e,ι l=some e∧e.shift=0∧b=e.block
 | _,_=>False
theorem IterRel.mono {ι ι':Inj} (hi:ι.le ι') {l r:Option Nat} (h:IterRel ι l r):IterRel ι' l r:=by
 cases l <;> cases r <;> first | exact h | (obtain ⟨e,a,b⟩:=h;exact ⟨e,hi _ _ a,b⟩)
def ObjRel (ι:Inj) (e:Ent) (o:DObj) (w:World):Prop:=
 match o with
 | .row cells esz ro=>e.ro=ro∧e.esz=esz∧∃ cur ty fz,w.heap[e.block]? = some (.cells cur ty fz) ∧
    (∀ (i:Nat) v,cells[i]? = some v→∃ v',cur[e.shift+i]? = some v'∧VRel ι v v') ∧
    (ro=false→cur.size=e.size∧e.shift+cells.length≤e.size∧∀ i,i<e.size→¬ (fz.1≤i∧i<fz.2))
 | .map es clock=>e.shift=0∧e.ro=false∧∃ es',w.heap[e.block]? = some (.map es' clock)∧ERel ι es es'.toList
 | .loop d=>e.shift=0∧e.ro=false∧∃ l,w.heap[e.block]? = some (.loop l)∧n0b ι d l w
 | .marks opn=>e.shift=0∧e.ro=false∧w.heap[e.block]? = some (.deferred (if opn then some [] else none))
 | .iter m since seen last=>e.shift=0∧e.ro=false∧∃ m',w.heap[e.block]? = some (.mapIter m' since seen.toArray last)∧IterRel ι m m'
 | .dead=>e.ro=false
theorem ObjRel.mono {ι ι':Inj} (hi:ι.le ι') {e:Ent} {o:DObj} {w w':World} (hw:w'.heap[e.block]? = w.heap[e.block]?) (h:ObjRel ι e o w):ObjRel ι' e o w':=by
 cases o with
 | row cells esz ro=>
   obtain ⟨h1,h2,cur,ty,fz,h3,h4,h5⟩:=h
   exact ⟨h1,h2,cur,ty,fz,hw.trans h3,fun i v hv=>let ⟨v',a,b⟩:=h4 i v hv;⟨v',a,b.mono hi⟩,h5⟩
 | map es clock=>
   obtain ⟨h1,h2,es',h3,h4⟩:=h
   exact ⟨h1,h2,es',hw.trans h3,h4.mono hi⟩
 | loop d=>
   obtain ⟨h1,h2,l,h3,h4⟩:=h
   exact ⟨h1,h2,l,hw.trans h3,⟨h4.tmps.mono hi,h4.params,h4.assign,h4.body,h4.state,h4.pending,let ⟨e,x,y⟩:=h4.defers;⟨e,hi _ _ x,y⟩⟩⟩
 | marks opn=>exact ⟨h.1,h.2.1,hw.trans h.2.2⟩
 | iter m since seen last=>
   obtain ⟨h1,h2,m',h3,h4⟩:=h
   exact ⟨h1,h2,m',hw.trans h3,h4.mono hi⟩
 | dead=>exact h
structure Sim (ι:Inj) (h:DHeap) (w:World):Prop where
 lt:∀ id e,ι id=some e→id<h.next
 blk:∀ id e,ι id=some e→e.block<w.heap.size
 obj:∀ id e,ι id=some e→∃ o,h.get id=some o∧ObjRel ι e o w
 sep:∀ id id' e e',ι id=some e→ι id'=some e'→id≠id'→e.block=e'.block→h.get id=some .dead∨h.get id'=some .dead∨(e.ro=true∧e'.ro=true)
 glob:∀ g,g<h.ng→∃ e,ι g=some e∧e.block=g∧e.shift=0
structure Step (ι ι':Inj) (h h':DHeap) (w w':World):Prop where
 le:ι.le ι'
 new:∀ id e,ι' id=some e→ι id=none→h.next≤id∧(w.heap.size≤e.block∨∃ id0 e0,ι id0=some e0∧e0.block=e.block∧e0.ro=false)
 next:h.next≤h'.next
 ng:h'.ng=h.ng
 os:w'.os=w.os
 tape:w'.tape=w.tape
 output:w'.output=w.output
 size:w.heap.size≤w'.heap.size
 frame:∀ b,b<w.heap.size→(∀ id e,ι id=some e→e.block=b→e.ro=true)→w'.heap[b]? = w.heap[b]?
 drawn:w.drawn≤w'.drawn
theorem Step.refl (ι:Inj) (h:DHeap) (w:World):Step ι ι h h w w where
 le:=Inj.le_refl _
 new:=fun id e h1 h2=>by rw[h1]at h2;cases h2
 next:=Nat.le_refl _
 ng:=rfl
 os:=rfl
 tape:=rfl
 output:=rfl
 size:=Nat.le_refl _
 frame:=fun _ _ _=>rfl
 drawn:=Nat.le_refl _
theorem Step.drew (ι:Inj) (h:DHeap) (w:World) (n:Nat) (hn:w.drawn≤n):Step ι ι h h w { w with drawn:=n }:={ Step.refl ι h w with os:=rfl,tape:=rfl,output:=rfl,size:=Nat.le_refl _,frame:=fun _ _ _=>rfl,drawn:=hn }
theorem Sim.drew {ι:Inj} {h:DHeap} {w:World} (s:Sim ι h w) (n:Nat):Sim ι h { w with drawn:=n } where
 lt:=s.lt
 blk:=s.blk
 obj:=fun id e he=>let ⟨o,a,b⟩:=s.obj id e he;⟨o,a,ObjRel.mono (w:=w) (w':={ w with drawn:=n }) (Inj.le_refl _) rfl b⟩
 sep:=s.sep
 glob:=s.glob
theorem Step.trans {ι ι' ι'':Inj} {h h' h'':DHeap} {w w' w'':World} (a:Step ι ι' h h' w w') (b:Step ι' ι'' h' h'' w' w''):Step ι ι'' h h'' w w'' where
 le:=Inj.le_trans a.le b.le
 new:=fun id e h1 h2=>by
  cases hm:ι' id with
  | some e'=>
    have:=b.le id e' hm
    rw[this]at h1;cases h1
    obtain ⟨x,y⟩:=a.new id e hm h2
    exact ⟨x,y⟩
  | none=>
    obtain ⟨x,y⟩:=b.new id e h1 hm
    refine ⟨Nat.le_trans a.next x,?_⟩
    rcases y with y | ⟨id0,e0,p,q,r⟩
    ·exact .inl (Nat.le_trans a.size y)
    ·cases h0:ι id0 with
     | some e1=>
       have:=a.le id0 e1 h0
       rw[p]at this;cases this
       exact .inr ⟨id0,e0,h0,q,r⟩
     | none=>
       obtain ⟨x',y'⟩:=a.new id0 e0 p h0
       rcases y' with y' | ⟨id1,e1,p1,q1,r1⟩
       ·exact .inl (q▸y')
       ·exact .inr ⟨id1,e1,p1,q1.trans q,r1⟩
 next:=Nat.le_trans a.next b.next
 ng:=b.ng.trans a.ng
 os:=b.os.trans a.os
 tape:=b.tape.trans a.tape
 output:=b.output.trans a.output
 size:=Nat.le_trans a.size b.size
 drawn:=Nat.le_trans a.drawn b.drawn
 frame:=fun k h1 h2=>by
  rw[b.frame k (Nat.lt_of_lt_of_le h1 a.size),a.frame k h1]
  ·exact h2
  ·intro id e h3 h4
   cases h0:ι id with
   | some e1=>
     have:=a.le id e1 h0
     rw[h3]at this;cases this
     exact h2 id e h0 h4
   | none=>
     obtain ⟨_,y⟩:=a.new id e h3 h0
     rcases y with y | ⟨id0,e0,p,q,r⟩
     ·omega
     ·have z:=h2 id0 e0 p (q.trans h4)
      rw[r]at z;cases z
end Go.D
namespace Go.D
def ZU {α:Type} (P:Program):Sem α→Option (Sum Value α)
 | .pure a=>some (.inr a)
 | .program k=>ZU P (k P)
 | .mark _ k=>ZU P k
 | .halt (.panic v)=>some (.inl v)
 | _=>none
theorem r2a {α:Type} {P:Program} {s:Sem α} {a:α} (h:ZU P s=some (.inr a)) (w:World):s.run P w=.ok a w:=by
 induction s with
 | pure b=>simp only[ZU,Option.some.injEq,Sum.inr.injEq]at h;subst h;rfl
 | program k ih=>exact ih P h
 | mark m k ih=>exact ih h
 | halt x=>cases x <;> simp[ZU]at h
 | _=>simp[ZU]at h
theorem T0c {α:Type} {P:Program} {s:Sem α} {v:Value} (h:ZU P s=some (.inl v)) (w:World):s.run P w=.halt (.panic v) w:=by
 induction s with
 | pure b=>simp[ZU]at h
 | program k ih=>exact ih P h
 | mark m k ih=>exact ih h
 | halt x=>
   cases x with
   | panic u=>simp only[ZU,Option.some.injEq,Sum.inl.injEq]at h;subst h;rfl
   | _=>simp[ZU]at h
 | _=>simp[ZU]at h
inductive XW
 | value (v:Value)
 | skip
 | enter (f:FuncId) (args:List Value)
 | round (l:Nat) (size:Nat) (tmps:Fr) (assign body:Code)
 | defer (f:FuncId) (args:List Value)
 | recover
 | pick (l:List (Value × DHeap))
inductive DR
 | ok (x:XW) (h:DHeap)
 | pan (v:Value) (h:DHeap)
 | bad
def Xj (P:Program) (s:Sem Value) (h:DHeap):DR:=
 match ZU P s with
 | some (.inr v)=>if Yj v then .ok (.value v) h else .bad
 | some (.inl v)=>if Yj v then .pan v h else .bad
 | none=>.bad
def DR.ofv (h:DHeap):Option Value→DR
 | some v=>.ok (.value v) h
 | none=>.bad
def DR.ofp:Option (Value × DHeap)→DR
 | some (v,h)=>.ok (.value v) h
 | none=>.bad
def DR.ofh:Option DHeap→DR
 | some h=>.ok .skip h
 | none=>.bad
def S8a:TypeDesc→Bool
 | .struct _ | .array _ _=>true
 | _=>false
def i1a (P:Program) (t:TypeId):Nat:=
 match P.underlying t with
 | some (.array _ e)=>P.cellsOf e
 | _=>0
def XX (P:Program) (t:TypeId) (v:Value) (h:DHeap):Option Value:=
 match v with
 | .pointer (some ⟨id,o,none⟩)=>
   match h.get id,P.underlying t,P.info? t with
   | some (.row cells _ _),some d,some i=>
     if S8a d then (if o+i.size≤cells.length then some (.agg ((cells.drop o).take i.size).toArray) else none) else cells[o]?
   | _,_,_=>none
 | _=>none
def YZ:List Value→Nat→List Value→List Value
 | cells,_,[]=>cells
 | cells,o,v :: vs=>YZ (cells.set o v) (o+1) vs
def Yx (P:Program) (t:TypeId) (a v:Value) (h:DHeap):Option DHeap:=
 match a with
 | .pointer (some ⟨id,o,none⟩)=>
   match h.get id,P.info? t with
   | some (.row cells esz false),some i=>
     if v.cells.toList.length=i.size∧o+i.size≤cells.length∧v.cells.toList.all Value.oneCell'=true then some (h.set id (.row (YZ cells o v.cells.toList) esz false)) else none
   | _,_=>none
 | _=>none
def k1a (P:Program) (t:TypeId) (h:DHeap):Option (Value × DHeap):=
 match P.info? t with
 | some i=>
   match i.zero with
   | some z=>if z.cells.toList.all Yw then some (.pointer (some ⟨h.next,0,none⟩),h.push (.row z.cells.toList (i1a P t) false)) else none
   | none=>none
 | none=>none
def T6b (P:Program) (t:TypeId) (v:Value) (h:DHeap):Value × DHeap:=
 (.pointer (some ⟨h.next,0,none⟩),h.push (.row v.cells.toList (i1a P t) false))
def o4a (P:Program) (t:TypeId):Bool:=
 match P.info? t with
 | some i=>
   match i.zero with
   | some z=>z.cells.toList.all Yw
   | none=>false
 | none=>false
def Xy (P:Program) (t:TypeId) (parts:List (Nat × Value)):Option Value:=
 if o4a P t then (P.built t parts).map .agg else none
def j0a (zero:Array Value) (n:Nat):Array Value:=(Array.range n).map (zero[· % zero.size]!)
def f0a (P:Program) (t:TypeId) (len:Nat) (parts:List (Nat × Value)) (h:DHeap):Option (Value × DHeap):=
 match P.underlying t with
 | some (.slice e)=>
   match P.info? e with
   | some i=>
     match i.zero with
     | some z=>
       if len=0 then (if parts.length=0∧0<i.size then some (.slice (some ⟨h.next,0,none⟩) 0 0,h.push (.row [] i.size false)) else none)
       else if 0<len∧0<i.size∧len*i.size≤2 ^ 24∧z.cells.toList.all Yw=true then
        match Instr.fill (fun k=>some (k*i.size,i.size)) (j0a z.cells (len*i.size)) parts with
        | some cells=>if cells.size=len*i.size then some (.slice (some ⟨h.next,0,none⟩) len len,h.push (.row cells.toList i.size false)) else none
        | none=>none
       else none
     | none=>none
   | none=>none
 | _=>none
def R3a (P:Program) (t:TypeId) (len cap:Value) (h:DHeap):Option (Value × DHeap):=
 match P.underlying t,len,cap with
 | some (.slice e),.int _ l,.int _ c=>
   match P.info? e with
   | some i=>
     match i.zero with
     | some z=>
       if 0≤l∧l≤c∧c≤9223372036854775807∧i.bytes*c≤2 ^ 48∧0<i.size∧z.cells.toList.all Yw=true∧z.cells.size=i.size then
        some (.slice (some ⟨h.next,0,none⟩) l.toNat (if l=c then l.toNat else l.toNat+1),h.push (.row (j0a z.cells (c.toNat*i.size)).toList i.size false))
       else none
     | none=>none
   | none=>none
 | _,_,_=>none
def Yu (x:Option Value) (d y:Nat):Option Nat:=
 match x with
 | none=>some d
 | some (.int _ n)=>if 0≤n∧n≤(y:Int) then some n.toNat else none
 | some _=>none
def C1a (h:DHeap) (id z:Nat):Bool:=
 match h.get id with
 | some (.row _ esz ro)=>ro||esz==z
 | _=>false
def X0c (h:DHeap) (id n:Nat):Bool:=
 match h.get id with
 | some (.row cells _ _)=>decide (n≤cells.length)
 | _=>false
def Xw (P:Program) (t:TypeId) (x:Value) (lo hi mx:Option Value) (h:DHeap):Option Value:=
 match P.underlying t,x with
 | some .string,.string s=>
   match mx,Yu hi s.size s.size with
   | none,some hb=>
     match Yu lo 0 hb with
     | some lb=>some (.string (s.extract lb hb))
     | none=>none
   | _,_=>none
 | some (.slice e),.slice none 0 0=>
   match P.info? e,mx with
   | some _,none=>
     match Yu hi 0 0 with
     | some hb=>
       match Yu lo 0 hb with
       | some _=>some (.slice none 0 0)
       | none=>none
     | none=>none
   | some _,some vm=>
     match Yu (some vm) 0 0,hi with
     | some m,some vh=>
       match Yu (some vh) 0 m with
       | some hb=>
         match Yu lo 0 hb with
         | some _=>some (.slice none 0 0)
         | none=>none
       | none=>none
     | _,_=>none
   | none,_=>none
 | some (.slice e),.slice (some ⟨id,o,none⟩) len cap=>
   match P.info? e with
   | some i=>
     if C1a h id i.size=true∧0<i.size then
      match mx,Yu mx len len with
      | none,_=>
        match Yu hi len len with
        | some hb=>
          match Yu lo 0 hb with
          | some lb=>some (.slice (some ⟨id,o+lb*i.size,none⟩) (hb - lb) (if hb=len∧cap=len then hb - lb else hb - lb+1))
          | none=>none
        | none=>none
      | some _,some m=>
        match hi with
        | some hv=>
          match Yu (some hv) 0 m with
          | some hb=>
            match Yu lo 0 hb with
            | some lb=>some (.slice (some ⟨id,o+lb*i.size,none⟩) (hb - lb) (if hb=m then hb - lb else hb - lb+1))
            | none=>none
          | none=>none
        | none=>none
      | some _,none=>none
     else none
   | none=>none
 | some (.array n e),.pointer (some ⟨id,o,none⟩)=>
   match mx,P.info? e with
   | none,some i=>
     if C1a h id i.size=true∧0<i.size∧X0c h id (o+n*i.size)=true then
      match Yu hi n n with
      | some hb=>
        match Yu lo 0 hb with
        | some lb=>some (.slice (some ⟨id,o+lb*i.size,none⟩) (hb - lb) (if hb=n then hb - lb else hb - lb+1))
        | none=>none
      | none=>none
     else none
   | _,_=>none
 | _,_=>none
def ZQ (P:Program) (t:TypeId) (x ix:Value):Option Value:=
 match P.underlying t,x,ix with
 | some (.slice e),.slice (some ⟨id,o,none⟩) len _,.int _ n=>
   match P.info? e with
   | some i=>if 0≤n∧n<(len:Int) then some (.pointer (some ⟨id,o+n.toNat*i.size,none⟩)) else none
   | none=>none
 | some (.array len e),.pointer (some ⟨id,o,none⟩),.int _ n=>
   match P.info? e with
   | some i=>if 0≤n∧n<(len:Int) then some (.pointer (some ⟨id,o+n.toNat*i.size,none⟩)) else none
   | none=>none
 | _,_,_=>none
def M1a (P:Program) (s:TypeId) (x:Value) (f:Nat):Option Value:=
 match P.underlying s,x with
 | some (.struct fields),.pointer (some ⟨id,o,none⟩)=>
   match fields[f]? with
   | some fd=>
     match P.info? fd.type with
     | some i=>if i.size=0 then none else some (.pointer (some ⟨id,o+fd.offset,none⟩))
     | none=>none
   | none=>none
 | _,_=>none
def h2b (P:Program) (t:TypeId) (cs:Array Value) (off:Nat):Option Value:=
 match P.underlying t,P.info? t with
 | some d,some i=>if S8a d then some (.agg (cs.extract off (off+i.size))) else cs[off]?
 | _,_=>none
def V2b (P:Program) (t:TypeId) (x:Value) (f:Nat):Option Value:=
 match P.underlying t,x with
 | some (.struct fields),.agg cs=>
   match fields[f]? with
   | some fd=>h2b P fd.type cs fd.offset
   | none=>none
 | _,_=>none
def z4a (P:Program) (t:TypeId) (x ix:Value):Option Value:=
 match P.underlying t,x,ix with
 | some (.array len e),.agg cs,.int _ n=>
   match P.info? e with
   | some i=>if 0≤n∧n<(len:Int) then h2b P e cs (n.toNat*i.size) else none
   | none=>none
 | some .string,.string s,.int _ n=>
   if 0≤n then (match s[n.toNat]? with | some b=>some (.int .u8 b.toNat) | none=>none) else none
 | _,_,_=>none
def A6a (t:Value) (ix:Nat):Option Value:=
 match t with
 | .tuple vs=>vs[ix]?
 | _=>none
def l3a (P:Program) (t:TypeId):Option Bool:=
 match P.underlying t with
 | some (.interface _)=>some true
 | some _=>some false
 | none=>none
def k3a (P:Program) (x:Value) (asserted:TypeId) (ok:Bool):Option Value:=
 match l3a P asserted,x with
 | some false,.iface t v=>
   if t=asserted then some (if ok then .tuple #[v,.bool true] else v)
   else if ok then
    match P.info? asserted with
    | some i=>
      match i.zero with
      | some z=>if XY z then some (.tuple #[z,.bool false]) else none
      | none=>none
    | none=>none
   else none
 | some false,.nilIface=>
   if ok then
    match P.info? asserted with
    | some i=>
      match i.zero with
      | some z=>if XY z then some (.tuple #[z,.bool false]) else none
      | none=>none
    | none=>none
   else none
 | _,_=>none
def nilEq (d:TypeDesc) (x y:Value):Bool:=
 match d,x,y with
 | .pointer _,.pointer none,.pointer (some _) | .pointer _,.pointer (some _),.pointer none=>true
 | .slice _,.slice none _ _,.slice (some _) _ _ | .slice _,.slice (some _) _ _,.slice none _ _=>true
 | .map _ _,.map none,.map (some _) | .map _ _,.map (some _),.map none=>true
 | .func _ _ _,.nilFunc,.func _ _ _ | .func _ _ _,.func _ _ _,.nilFunc=>true
 | .interface _,.nilIface,.iface _ _ | .interface _,.iface _ _,.nilIface=>true
 | _,_,_=>false
def ZX (P:Program) (op:BinOp) (t:TypeId) (ox oy:Operand) (x y:Value) (h:DHeap):DR:=
 if Yj x&&Yj y then Xj P (do eqGuard op t ox oy x y;binOp op t x y) h
 else match P.underlying t with
  | some d=>
    if nilEq d x y then
     match op with
     | .eql=>.ok (.value (.bool false)) h
     | .neq=>.ok (.value (.bool true)) h
     | _=>.bad
    else .bad
  | none=>.bad
def y4a:List Value→Option (List UInt8)
 | []=>some []
 | .int .u8 n :: r=>(y4a r).map (UInt8.ofNat n.toNat :: ·)
 | _=>none
def V0a (P:Program) (src dst:TypeId) (x:Value) (h:DHeap):DR:=
 if Yj x then
  match P.underlying dst,x with
  | some (.slice e),.string s=>
    match P.underlying src,P.underlying e with
    | some .string,some (.int .u8)=>.ok (.value (.slice (some ⟨h.next,0,none⟩) s.size (s.size+1))) (h.push (.row (s.data.toList.map fun b=>.int .u8 b.toNat) 1 false))
    | _,_=>.bad
  | _,_=>Xj P (convert src dst x) h
 else
  match P.underlying src,P.underlying dst,x with
  | some (.slice e),some .string,.slice (some ⟨id,o,none⟩) len _=>
    match P.underlying e,h.get id with
    | some (.int .u8),some (.row cells _ _)=>
      if o+len≤cells.length then
       match y4a ((cells.drop o).take len) with
       | some l=>.ok (.value (.string ⟨l.toArray⟩)) h
       | none=>.bad
      else .bad
    | _,_=>.bad
  | _,_,_=>.bad
def K0a (z n:Nat) (x:Value) (h:DHeap):Option (List Value):=
 match x with
 | .slice none 0 0=>some []
 | .slice (some ⟨id,o,none⟩) _ _=>
   match h.get id with
   | some (.row cells _ _)=>if o+n*z≤cells.length then some ((cells.drop o).take (n*z)) else none
   | _=>none
 | .string s=>if z=1 then some ((s.extract 0 n).data.toList.map fun b=>.int .u8 b.toNat) else none
 | _=>none
def lenV:Value→Option Nat
 | .slice _ n _=>some n
 | .string s=>some s.size
 | _=>none
def p6a (P:Program) (t:Option TypeId):Bool:=
 match t with
 | none=>true
 | some t=>
   match P.underlying t with
   | some (.int _)=>false
   | some _=>true
   | none=>false
def u0a (P:Program) (ts:Array TypeId) (s x:Value) (h:DHeap):Option (Value × DHeap):=
 match ts[0]? with
 | none=>none
 | some st=>
 match P.underlying st with
 | some (.slice e)=>
   match P.info? e,lenV x with
   | some i,some n=>
     if p6a P ts[1]? = true∧0<i.size then
      match K0a i.size n x h with
      | none=>none
      | some new=>
        match i.zero with
        | none=>none
        | some z=>
        if z.cells.size≠i.size∨new.all Value.oneCell'=false then none
        else if n=0 then (match s with | .slice _ _ _=>some (s,h) | _=>none)
        else match s with
         | .slice none 0 0=>
           if n*i.bytes≤2 ^ 47∧n≤9223372036854775807 then some (.slice (some ⟨h.next,0,none⟩) n (n+1),h.push (.row new i.size false)) else none
         | .slice (some ⟨id,o,none⟩) len cap=>
           match h.get id with
           | some (.row cells esz ro)=>
             if o+len*i.size≤cells.length∧(len+n)*i.bytes≤2 ^ 47∧len+n≤9223372036854775807 then
              if cap=len then
               some (.slice (some ⟨h.next,0,none⟩) (len+n) (len+n+1),h.push (.row ((cells.drop o).take (len*i.size)++new) i.size false))
              else if ro=false∧esz=i.size then
               some (.slice (some ⟨h.next,0,none⟩) (len+n) (len+n+1),(h.set id .dead).push (.row ((cells.drop o).take (len*i.size)++new) i.size false))
              else none
             else none
           | _=>none
         | _=>none
     else none
   | _,_=>none
 | _=>none
def f8a (P:Program) (ts:Array TypeId) (dst src:Value) (h:DHeap):Option (Value × DHeap):=
 match ts[0]? with
 | none=>none
 | some dt=>
 match P.underlying dt with
 | some (.slice e)=>
   match P.info? e,lenV src,dst with
   | some i,some sn,.slice none 0 0=>
     match K0a i.size (Nat.min sn 0) src h with
     | some _=>some (goInt 0,h)
     | none=>none
   | some i,some sn,.slice (some ⟨id,o,none⟩) len _=>
     match K0a i.size (Nat.min sn len) src h,h.get id with
     | some new,some (.row cells esz false)=>
       if o+new.length≤cells.length∧new.all Value.oneCell'=true then some (goInt (Nat.min sn len),h.set id (.row (YZ cells o new) esz false)) else none
     | _,_=>none
   | _,_,_=>none
 | _=>none
def dLen (P:Program) (ts:Array TypeId) (x:Value) (h:DHeap):Option Value:=
 match ts[0]? with
 | none=>none
 | some t=>
 match P.underlying t,x with
 | some .string,.string s=>some (goInt s.size)
 | some (.array n _),_=>some (goInt n)
 | some (.slice _),.slice _ n _=>some (goInt n)
 | some (.map _ _),.map none=>some (goInt 0)
 | some (.map _ _),.map (some r)=>
   match h.get r with
   | some (.map es _)=>some (goInt es.length)
   | _=>none
 | _,_=>none
def L0a (P:Program) (f:FuncId):Bool:=
 match P.funcs[f]? with
 | some fn=>fn.name != "runtime.NumGoroutine"&&fn.body.isSome
 | none=>false
def E0a (tmps:Fr):List Tmp→List Value→Fr
 | p :: ps,v :: vs=>E0a (tmps.put (some p) v) ps vs
 | _,_=>tmps
def Z0a (P:Program) (f:Value) (args:List Value) (h:DHeap):Option XW:=
 match f with
 | .func (.func g) first cap=>if L0a P g then some (.enter g (first.toList++args++cap.toList)) else none
 | .func (.yield l) first cap=>
   match h.get l with
   | some (.loop d)=>if first.size=0∧cap.size=0∧d.params.size=args.length∧d.params.toList.all (fun p=>decide (p<d.size))=true then some (.round l d.size (E0a d.tmps d.params.toList args) d.assign d.body) else none
   | _=>none
 | _=>none
def Yk (ρ:Operand→Option Value):List Operand→Option (List Value)
 | []=>some []
 | x :: xs=>
   match ρ x,Yk ρ xs with
   | some v,some vs=>some (v :: vs)
   | _,_=>none
def q0a (ρ:Operand→Option Value):List (Nat × Operand)→Option (List (Nat × Value))
 | []=>some []
 | (i,x) :: xs=>
   match ρ x,q0a ρ xs with
   | some v,some vs=>some ((i,v) :: vs)
   | _,_=>none
def B0a (ρ:Operand→Option Value):Option Operand→Option (Option Value)
 | none=>some none
 | some x=>(ρ x).map some
def L7a (P:Program):Value:=.iface P.rt.errorString (strVal "invalid memory address or nil pointer dereference")
def l5a (P:Program) (kt:TypeId) (k:Value):List MapEntry→Nat→Option (Option Nat)
 | [],_=>some none
 | e :: es,i=>
   match ZU P (Op.equal kt k e.key) with
   | some (.inr true)=>some (some i)
   | some (.inr false)=>l5a P kt k es (i+1)
   | _=>none
def H1a (P:Program) (kt:TypeId) (k:Value) (es:List MapEntry):Option (Option Nat):=
 match P.underlying kt with
 | none=>none
 | some d=>
   match Instr.findNow d k es 0 with
   | some r=>some (r.map (·.1))
   | none=>l5a P kt k es 0
def Y7a (P:Program) (t:TypeId):Option Value:=
 match P.info? t with
 | some i=>
   match i.zero with
   | some z=>if XY z then some z else none
   | none=>none
 | none=>none
def j6a (x:Value) (h:DHeap):Option (List MapEntry):=
 match x with
 | .map none=>some []
 | .map (some r)=>
   match h.get r with
   | some (.map es _)=>some es
   | _=>none
 | _=>none
def Q0a (P:Program) (t:TypeId) (x k:Value) (ok:Bool) (h:DHeap):Option Value:=
 match P.underlying t,j6a x h with
 | some (.map kt et),some es=>
   if Yj k then
    match ZU P (Instr.checkKey es.isEmpty 10000 kt k),H1a P kt k es with
    | some (.inr _),some (some i)=>
      match es[i]? with
      | some e=>some (if ok then .tuple #[e.val,.bool true] else e.val)
      | none=>none
    | some (.inr _),some none=>
      match Y7a P et with
      | some z=>some (if ok then .tuple #[z,.bool false] else z)
      | none=>none
    | _,_=>none
   else none
 | _,_=>none
def F0a (P:Program) (t:TypeId) (x k v:Value) (h:DHeap):Option DHeap:=
 match P.underlying t,x with
 | some (.map kt _),.map (some r)=>
   match h.get r with
   | some (.map es clock)=>
     if Yj k then
      match ZU P (Instr.checkKey false 10000 kt k),H1a P kt k es with
      | some (.inr _),some (some i)=>
        match es[i]? with
        | some e=>if Instr.sameBits 10000 e.key k then some (h.set r (.map (es.set i { e with key:=k,val:=v }) clock)) else none
        | none=>none
      | some (.inr _),some none=>some (h.set r (.map (es++[{ key:=k,val:=v,born:=clock }]) (clock+1)))
      | _,_=>none
     else none
   | _=>none
 | _,_=>none
def V2a (P:Program) (ts:Array TypeId) (x k:Value) (h:DHeap):Option (Value × DHeap):=
 match ts[0]? with
 | none=>none
 | some t=>
 match P.underlying t,x with
 | some (.map kt _),.map (some r)=>
   match h.get r with
   | some (.map es clock)=>
     if Yj k then
      match ZU P (Instr.checkKey es.isEmpty 10000 kt k),H1a P kt k es with
      | some (.inr _),some (some i)=>some (.tuple #[],h.set r (.map (es.eraseIdx i) clock))
      | some (.inr _),some none=>some (.tuple #[],h.set r (.map es clock))
      | _,_=>none
     else none
   | _=>none
 | _,_=>none
def j3a (P:Program) (ts:Array TypeId) (x:Value) (h:DHeap):Option (Value × DHeap):=
 match ts[0]? with
 | none=>none
 | some t=>
 match P.underlying t,x with
 | some (.slice _),.slice none _ _=>some (.tuple #[],h)
 | some (.slice e),.slice (some ⟨id,o,none⟩) n _=>
   if n=0 then some (.tuple #[],h) else
   match P.info? e with
   | some i=>
     match i.zero with
     | some z=>
       match h.get id with
       | some (.row cells esz false)=>
         if z.cells.toList.all Yw=true∧o+n*z.cells.size≤cells.length then some (.tuple #[],h.set id (.row (YZ cells o (j0a z.cells (n*z.cells.size)).toList) esz false)) else none
       | _=>none
     | none=>none
   | none=>none
 | _,_=>none
def S3a (P:Program) (t:TypeId) (v:Value) (h:DHeap):Option (Value × DHeap):=
 match P.underlying t,v with
 | some (.map _ _),.map none=>some (.pointer (some ⟨h.next,0,none⟩),h.push (.iter none 0 [] 0))
 | some (.map _ _),.map (some id)=>
   match h.get id with
   | some (.map _ clock)=>some (.pointer (some ⟨h.next,0,none⟩),h.push (.iter (some id) clock [] clock))
   | _=>none
 | _,_=>none
def s4a (v:Value) (h:DHeap):Option (List (Value × DHeap) × DHeap):=
 match v with
 | .pointer (some ⟨r,0,none⟩)=>
   match h.get r with
   | some (.iter none _ _ _)=>some ([(.tuple #[.bool false],h)],h.set r .dead)
   | some (.iter (some id) since seen last)=>
     match h.get id with
     | some (.map es clock)=>
       if (!seen.isEmpty&&!es.isEmpty&&es.all fun e=>decide (e.born ≥ last))||!(es.all fun e=>Yj e.key) then none else
        some ((if ((es.filter fun e=>!seen.contains e.born).filter fun e=>decide (e.born<since)).isEmpty then [(.tuple #[.bool false],h)] else []) ++
         (((es.filter fun e=>!seen.contains e.born).filter fun e=>decide (e.born<since))++((es.filter fun e=>!seen.contains e.born).filter fun e=>decide (e.born ≥ since))).map fun e=>
           (.tuple #[.bool true,e.key,e.val],h.set r (.iter (some id) since (seen++[e.born]) clock)),h.set r .dead)
     | _=>none
   | _=>none
 | _=>none
def k5a (v:Value) (h:DHeap):Option Value:=
 match v with
 | .pointer (some ⟨r,0,none⟩)=>
   match h.get r with
   | some (.iter (some id) _ seen last)=>
     match seen.getLast?,h.get id with
     | some b,some (.map es clock)=>
       if clock=last then
        match es.find? fun e=>e.born==b with
        | some e=>if Yj e.key then some (.tuple #[e.key,e.val]) else none
        | none=>none
       else none
     | _,_=>none
   | _=>none
 | _=>none
def dOp (P:Program) (ρ:Operand→Option Value) (o:Oper) (h:DHeap):DR:=
 match o.op with
 | .move x | .assign x=>.ofv h (ρ x)
 | .pick c a b=>
   match ρ c,ρ a,ρ b with
   | some (.bool t),some va,some vb=>.ok (.value (if t then va else vb)) h
   | _,_,_=>.bad
 | .alloc t=>.ofp (k1a P t h)
 | .box t x=>
   match ρ x with
   | some v=>.ofp (some (T6b P t v h))
   | none=>.bad
 | .build t parts=>
   match q0a ρ parts.toList with
   | some vs=>.ofv h (Xy P t vs)
   | none=>.bad
 | .buildSlice t len parts=>
   match q0a ρ parts.toList with
   | some vs=>.ofp (f0a P t len vs h)
   | none=>.bad
 | .load t a=>
   match ρ a with
   | some v=>.ofv h (XX P t v h)
   | none=>.bad
 | .store t a x=>
   match ρ a,ρ x with
   | some p,some v=>.ofh (Yx P t p v h)
   | _,_=>.bad
 | .nilCheck x=>
   match ρ x with
   | some (.pointer none) | some .nilIface | some .nilFunc=>.pan (L7a P) h
   | some (.func (.method _) _ _)=>.bad
   | some v=>.ok (.value v) h
   | none=>.bad
 | .binOp op t x y _=>
   match ρ x,ρ y with
   | some vx,some vy=>ZX P op t x y vx vy h
   | _,_=>.bad
 | .unOp op _ x=>
   match ρ x with
   | some v=>if Yj v then Xj P (Op.unary op v) h else .bad
   | none=>.bad
 | .convert src dst x=>
   match ρ x with
   | some v=>V0a P src dst v h
   | none=>.bad
 | .makeInterface t x=>
   match ρ x,l3a P t with
   | some v,some false=>.ok (.value (.iface t v)) h
   | _,_=>.bad
 | .makeFunc fn first cap=>
   match fn,Yk ρ first.toList,Yk ρ cap.toList with
   | .func f,some vs,some us=>.ok (.value (.func (.func f) vs.toArray us.toArray)) h
   | _,_,_=>.bad
 | .makeSlice t l c=>
   match ρ l,ρ c with
   | some vl,some vc=>.ofp (R3a P t vl vc h)
   | _,_=>.bad
 | .makeMap _ none=>.ofp (some (.map (some h.next),h.push (.map [] 0)))
 | .range t x=>
   match ρ x with
   | some v=>.ofp (S3a P t v h)
   | none=>.bad
 | .next x isString=>
   match ρ x,isString with
   | some v,false=>
     match s4a v h with
     | some (l,h')=>.ok (.pick l) h'
     | none=>.bad
   | _,_=>.bad
 | .entry x=>
   match ρ x with
   | some v=>.ofv h (k5a v h)
   | none=>.bad
 | .lookup t x ix ok=>
   match ρ x,ρ ix with
   | some v,some vi=>.ofv h (Q0a P t v vi ok h)
   | _,_=>.bad
 | .mapUpdate t m k x | .insert t m k x=>
   match ρ m,ρ k,ρ x with
   | some vm,some vk,some vx=>.ofh (F0a P t vm vk vx h)
   | _,_,_=>.bad
 | .slice t x lo hi mx=>
   match ρ x,B0a ρ lo,B0a ρ hi,B0a ρ mx with
   | some v,some vl,some vh,some vm=>.ofv h (Xw P t v vl vh vm h)
   | _,_,_,_=>.bad
 | .fieldAddr s x f=>
   match ρ x with
   | some v=>.ofv h (M1a P s v f)
   | none=>.bad
 | .field t x f=>
   match ρ x with
   | some v=>.ofv h (V2b P t v f)
   | none=>.bad
 | .indexAddr t x ix=>
   match ρ x,ρ ix with
   | some v,some vi=>.ofv h (ZQ P t v vi)
   | _,_=>.bad
 | .index t x ix=>
   match ρ x,ρ ix with
   | some v,some vi=>.ofv h (z4a P t v vi)
   | _,_=>.bad
 | .typeAssert x _ asserted ok=>
   match ρ x with
   | some v=>.ofv h (k3a P v asserted ok)
   | none=>.bad
 | .extract t ix=>
   match ρ t with
   | some v=>.ofv h (A6a v ix)
   | none=>.bad
 | .call c=>
   match c.callee,Yk ρ c.args.toList with
   | .builtin .append,some [s,x]=>.ofp (u0a P c.argTypes s x h)
   | .builtin .copy,some [s,x]=>.ofp (f8a P c.argTypes s x h)
   | .builtin .len,some [x]=>.ofv h (dLen P c.argTypes x h)
   | .builtin .clear,some [x]=>.ofp (j3a P c.argTypes x h)
   | .builtin .delete,some [m,k]=>.ofp (V2a P c.argTypes m k h)
   | .builtin .recover,some []=>.ok .recover h
   | .builtin .min,some vs=>if vs.all Yj then Xj P (Builtin.min_ c.argTypes o.type vs.toArray) h else .bad
   | .builtin .max,some vs=>if vs.all Yj then Xj P (Builtin.max_ c.argTypes o.type vs.toArray) h else .bad
   | .value f,some vs=>
     match ρ f with
     | some fv=>
       match Z0a P fv vs h with
       | some x=>.ok x h
       | none=>.bad
     | none=>.bad
   | _,_=>.bad
 | .defer c=>
   match c.callee,Yk ρ c.args.toList with
   | .value f,some vs=>
     match ρ f with
     | some fv=>
       match Z0a P fv vs h with
       | some (.enter g args)=>.ok (.defer g args) h
       | _=>.bad
     | none=>.bad
   | _,_=>.bad
 | .panic x=>
   match ρ x with
   | some (.iface t v)=>.pan (.iface t v) h
   | _=>.bad
 | _=>.bad
end Go.D
namespace Go.D
variable {P:Program} {ι:Inj} {h:DHeap} {w:World}
def Inj.upd (ι:Inj) (k:Nat) (e:Ent):Inj:=fun i=>if i=k then some e else ι i
theorem Inj.upd_same (ι:Inj) (k:Nat) (e:Ent):ι.upd k e k=some e:=by simp[Inj.upd]
theorem Inj.upd_le {ι:Inj} {k:Nat} {e:Ent} (hk:ι k=none):ι.le (ι.upd k e):=fun i x hx=>by
 unfold Inj.upd;split
 ·subst_vars;rw[hk]at hx;cases hx
 ·exact hx
theorem Sim.fresh (s:Sim ι h w):ι h.next=none:=by
 cases hn:ι h.next with
 | none=>rfl
 | some e=>exact absurd (s.lt _ _ hn) (Nat.lt_irrefl _)
theorem h7a (w:World) (o:Obj) {k:Nat} (hk:k<w.heap.size):(w.alloc o).heap[k]? = w.heap[k]?:=by
 show (w.heap.push o)[k]? = _
 rw[Array.getElem?_push,if_neg (by omega)]
theorem y2a (w:World) (o:Obj):(w.alloc o).heap[w.heap.size]? = some o:=by
 show (w.heap.push o)[_]? = _
 rw[Array.getElem?_push,if_pos rfl]
theorem Sim.alloc (s:Sim ι h w) (o:DObj) (c:Obj) (e:Ent) (hb:e.block=w.heap.size) (ho:ObjRel (ι.upd h.next e) e o (w.alloc c)) :
 Sim (ι.upd h.next e) (h.push o) (w.alloc c)∧Step ι (ι.upd h.next e) h (h.push o) w (w.alloc c):=by
 have hle:ι.le (ι.upd h.next e):=Inj.upd_le s.fresh
 have hsz:(w.alloc c).heap.size=w.heap.size+1:=World.size_alloc _ _
 refine ⟨⟨?_,?_,?_,?_,?_⟩,⟨hle,?_,by simp[DHeap.push],rfl,rfl,rfl,rfl,by omega,fun b hb' _=>h7a w c hb',Nat.le_refl _⟩⟩
 ·intro id x hx
  unfold Inj.upd at hx
  simp only[DHeap.push]
  split at hx
  ·subst_vars;omega
  ·have:=s.lt _ _ hx;omega
 ·intro id x hx
  unfold Inj.upd at hx
  split at hx
  ·cases hx;omega
  ·have:=s.blk _ _ hx;omega
 ·intro id x hx
  unfold Inj.upd at hx
  split at hx
  ·rename_i hid
   subst hid
   cases hx
   exact ⟨o,by simp[DHeap.push],ho⟩
  ·rename_i hid
   obtain ⟨y,h1,h2⟩:=s.obj _ _ hx
   exact ⟨y,by simp[DHeap.push,hid,h1],h2.mono hle (h7a w c (s.blk _ _ hx))⟩
 ·intro id id' x x' hx hx' hne hbl
  unfold Inj.upd at hx hx'
  simp only[DHeap.push]
  split at hx
  ·rename_i h1
   split at hx'
   ·rename_i h2;exact absurd (h1.trans h2.symm) hne
   ·cases hx
    have:=s.blk _ _ hx'
    omega
  ·rename_i h1
   split at hx'
   ·cases hx'
    have:=s.blk _ _ hx
    omega
   ·rename_i h2
    simp only[h1,h2,if_false]
    exact s.sep _ _ _ _ hx hx' hne hbl
 ·intro g hg
  obtain ⟨x,h1,h2⟩:=s.glob g hg
  exact ⟨x,hle _ _ h1,h2⟩
 ·intro id x hx hn
  unfold Inj.upd at hx
  split at hx
  ·cases hx
   subst_vars
   exact ⟨Nat.le_refl _,.inl (by omega)⟩
  ·rw[hn]at hx;cases hx
theorem Sim.allocRowF (s:Sim ι h w) {cells:List Value} {cur:Array Value} (ty:TypeId) (esz:Nat) (fz:Nat × Nat) (hfz:∀ i,i<cur.size→¬ (fz.1≤i∧i<fz.2)) (hl:LRel ι cells (cur.toList.take cells.length)) :
 ∃ ι',Sim ι' (h.push (.row cells esz false)) (w.alloc (.cells cur ty fz))∧Step ι ι' h (h.push (.row cells esz false)) w (w.alloc (.cells cur ty fz)) ∧
  ι' h.next=some ⟨w.heap.size,0,esz,cur.size,false⟩:=by
 have hlen:cells.length≤cur.size:=by
  have:=hl.1
  simp at this
  omega
 refine ⟨_,(s.alloc (.row cells esz false) (.cells cur ty fz) ⟨w.heap.size,0,esz,cur.size,false⟩ rfl ?_).1,(s.alloc _ _ _ rfl ?_).2,Inj.upd_same _ _ _⟩
 all_goals
  refine ⟨rfl,rfl,cur,ty,fz,y2a _ _,?_,fun _=>⟨rfl,by simpa using hlen,fun i hi=>hfz i hi⟩⟩
  intro i v hv
  obtain ⟨v',h1,h2⟩:=hl.get hv
  rw[List.getElem?_take]at h1
  split at h1
  ·exact ⟨v',by simpa using h1,h2.mono (Inj.upd_le s.fresh)⟩
  ·cases h1
theorem Sim.allocRow (s:Sim ι h w) {cells:List Value} {cur:Array Value} (ty:TypeId) (esz:Nat) (hl:LRel ι cells (cur.toList.take cells.length)) :
 ∃ ι',Sim ι' (h.push (.row cells esz false)) (w.alloc (.cells cur ty))∧Step ι ι' h (h.push (.row cells esz false)) w (w.alloc (.cells cur ty)) ∧
  ι' h.next=some ⟨w.heap.size,0,esz,cur.size,false⟩:=by
 have hlen:cells.length≤cur.size:=by
  have:=hl.1
  simp at this
  omega
 refine ⟨_,(s.alloc (.row cells esz false) (.cells cur ty) ⟨w.heap.size,0,esz,cur.size,false⟩ rfl ?_).1,(s.alloc _ _ _ rfl ?_).2,Inj.upd_same _ _ _⟩
 all_goals
  refine ⟨rfl,rfl,cur,ty,(0,0),y2a _ _,?_,fun _=>⟨rfl,by simpa using hlen,fun i _=>by simp⟩⟩
  intro i v hv
  obtain ⟨v',h1,h2⟩:=hl.get hv
  rw[List.getElem?_take]at h1
  split at h1
  ·exact ⟨v',by simpa using h1,h2.mono (Inj.upd_le s.fresh)⟩
  ·cases h1
theorem Sim.allocRow' (s:Sim ι h w) {cells:List Value} {cur:Array Value} (ty:TypeId) (esz:Nat) (hl:LRel ι cells cur.toList) :
 ∃ ι',Sim ι' (h.push (.row cells esz false)) (w.alloc (.cells cur ty))∧Step ι ι' h (h.push (.row cells esz false)) w (w.alloc (.cells cur ty)) ∧
  ι' h.next=some ⟨w.heap.size,0,esz,cur.size,false⟩:=
 s.allocRow ty esz (by rw[List.take_of_length_le (by rw[hl.1];exact Nat.le_refl _)];exact hl)
theorem Sim.row (s:Sim ι h w) {id:Nat} {e:Ent} (he:ι id=some e) {cells:List Value} {esz:Nat} {ro:Bool} (hg:h.get id=some (.row cells esz ro)) :
 e.ro=ro∧e.esz=esz∧∃ cur ty fz,w.heap[e.block]? = some (.cells cur ty fz)∧(∀ (i:Nat) v,cells[i]? = some v→∃ v',cur[e.shift+i]? = some v'∧VRel ι v v') ∧
  (ro=false→cur.size=e.size∧e.shift+cells.length≤e.size∧∀ i,i<e.size→¬ (fz.1≤i∧i<fz.2)):=by
 obtain ⟨o,h1,h2⟩:=s.obj _ _ he
 rw[hg]at h1
 cases h1
 exact h2
theorem Sim.cell (s:Sim ι h w) {id:Nat} {e:Ent} (he:ι id=some e) {cells:List Value} {esz:Nat} {ro:Bool} (hg:h.get id=some (.row cells esz ro)) {i:Nat} {v:Value}
 (hv:cells[i]? = some v):∃ v',w.cell? ⟨e.block,e.shift+i,none⟩=some v'∧VRel ι v v':=by
 obtain ⟨_,_,cur,ty,fz,h3,h4,_⟩:=s.row he hg
 obtain ⟨v',h5,h6⟩:=h4 i v hv
 exact ⟨v',by simp[World.cell?,h3,h5],h6⟩
theorem W1a (b o n:Nat):(⟨b,o,none⟩:Addr).add n=⟨b,o+n,none⟩:=by
 unfold Addr.add
 split
 ·subst_vars;rfl
 ·rfl
theorem Sim.cells (s:Sim ι h w) {id:Nat} {e:Ent} (he:ι id=some e) {cells:List Value} {esz:Nat} {ro:Bool} (hg:h.get id=some (.row cells esz ro)) {o n:Nat}
 (hn:o+n≤cells.length):∃ vs:List Value,(∀ w2:World,w2.heap=w.heap→(loadCells ⟨e.block,e.shift+o,none⟩ n).run P w2=.ok vs.toArray w2)∧LRel ι ((cells.drop o).take n) vs:=by
 obtain ⟨_,_,cur,ty,fz,h3,h4,_⟩:=s.row he hg
 have key:∀ j,j<n→∃ v',cur[e.shift+(o+j)]? = some v'∧VRel ι (cells[o+j]?.getD undef) v':=fun j hj=>by
  have hlt:o+j<cells.length:=by omega
  obtain ⟨v',a,b⟩:=h4 (o+j) cells[o+j] (List.getElem?_eq_getElem hlt)
  exact ⟨v',a,by rw[List.getElem?_eq_getElem hlt];exact b⟩
 refine ⟨(cur.toList.drop (e.shift+o)).take n,fun w2 hw2=>?_,?_,?_⟩
 ·have hlen:((cur.toList.drop (e.shift+o)).take n).length=n:=by
   rcases Nat.eq_zero_or_pos n with h0 | h0
   ·subst h0;simp
   ·obtain ⟨v',a,_⟩:=key (n - 1) (by omega)
    have:=(Array.getElem?_eq_some_iff.1 a).1
    simp
    omega
  have:=run_loadCells_list (P:=P) (w:=w2) ⟨e.block,e.shift+o,none⟩ ((cur.toList.drop (e.shift+o)).take n) (fun j v hv=>by
   rw[List.getElem?_take]at hv
   split at hv
   ·rw[List.getElem?_drop]at hv
    rw[W1a]
    simp only[World.cell?,hw2,h3]
    simpa using hv
   ·cases hv)
  rw[hlen]at this
  exact this
 ·have hlen:((cur.toList.drop (e.shift+o)).take n).length=n:=by
   rcases Nat.eq_zero_or_pos n with h0 | h0
   ·subst h0;simp
   ·obtain ⟨v',a,_⟩:=key (n - 1) (by omega)
    have:=(Array.getElem?_eq_some_iff.1 a).1
    simp
    omega
  rw[hlen]
  simp
  omega
 ·intro i v v' a b
  rw[List.getElem?_take]at a b
  split at a
  ·rename_i hlt
   rw[if_pos hlt,List.getElem?_drop]at b
   rw[List.getElem?_drop]at a
   obtain ⟨u,c,d⟩:=h4 (o+i) v a
   have:cur[e.shift+(o+i)]? = some v':=by
    rw[← Nat.add_assoc]
    simpa using b
   rw[this]at c
   cases c
   exact d
  ·cases a
theorem U7a {t:TypeId} {d:TypeDesc} (hu:P.underlying t=some d) (w:World):(isAgg t).run P w=.ok (S8a d) w:=by
 unfold isAgg underlying
 simp only[Sem.run_bind,run_program,Result.andThen_ok,hu]
 cases d <;> rfl
theorem Zw {t:TypeId} {d:TypeDesc} (hu:P.underlying t=some d) (w:World):(underlying t).run P w=.ok d w:=by
 unfold underlying
 simp only[Sem.run_bind,run_program,Result.andThen_ok,hu]
 rfl
theorem C2a {t:TypeId} {i:TypeInfo} (hi:P.info? t=some i) (w:World):(typeInfo t).run P w=.ok i w:=by
 unfold typeInfo
 simp only[Sem.run_bind,run_program,Result.andThen_ok,hi]
 rfl
theorem i0a {t:TypeId} {i:TypeInfo} (hi:P.info? t=some i) (w:World):(sizeOf t).run P w=.ok i.size w:=by
 unfold sizeOf
 simp only[Sem.run_bind,C2a hi,Result.andThen_ok,Sem.run_pure]
theorem x0a {t:TypeId} {i:TypeInfo} {z:Value} (hi:P.info? t=some i) (hz:i.zero=some z) (w:World):(zeroValue t).run P w=.ok z w:=by
 unfold zeroValue
 simp only[Sem.run_bind,C2a hi,Result.andThen_ok,hz]
 rfl
theorem f5a {v':Value} {id o:Nat} (hv:VRel ι (.pointer (some ⟨id,o,none⟩)) v'):∃ e,ι id=some e∧v'=.pointer (some ⟨e.block,e.shift+o,none⟩):=by
 cases hv with
 | ptr he=>exact ⟨_,he,rfl⟩
theorem X2b {t:TypeId} {a v a':Value} (hd:XX P t a h=some v) (s:Sim ι h w) (ha:VRel ι a a'):∃ v',(Instr.loadAt t a').run P w=.ok v' w∧VRel ι v v':=by
 unfold XX at hd
 split at hd
 ·rename_i id o
  obtain ⟨e,he,rfl⟩:=f5a ha
  split at hd
  ·rename_i cells esz ro d i hg hu hi
   have h1:∀ x:Sem Value,(Instr.loadAt t (.pointer (some ⟨e.block,e.shift+o,none⟩))).run P w=(loadVar t ⟨e.block,e.shift+o,none⟩).run P w:=fun _=>by
    simp[Instr.loadAt,Instr.sureAddr]
   rw[h1 (Pure.pure undef)]
   unfold loadVar
   simp only[Sem.run_bind,U7a hu,Result.andThen_ok]
   split at hd
   ·rename_i hagg
    split at hd
    ·rename_i hn
     cases hd
     obtain ⟨vs,hr,hl⟩:=s.cells (P:=P) he hg hn
     refine ⟨.agg vs.toArray,?_,.agg (by simpa using hl.1) fun i v v' x y=>hl.2 i v v' (by simpa using x) (by simpa using y)⟩
     simp only[hagg,if_true,Sem.run_bind,i0a hi,Result.andThen_ok,hr w rfl,Sem.run_pure]
    ·cases hd
   ·rename_i hagg
    obtain ⟨v',hc,hv⟩:=s.cell he hg hd
    refine ⟨v',?_,hv⟩
    simp only[hagg,if_false,Bool.false_eq_true,run_load,hc]
  ·cases hd
 ·cases hd
theorem L8a {v v':Value} (hv:VRel ι v v'):v'.oneCell'=v.oneCell':=by cases hv <;> rfl
theorem v7a {v v':Value} (hv:VRel ι v v'):LRel ι v.cells.toList v'.cells.toList:=by
 cases hv with
 | agg h1 h2=>exact ⟨by simpa [Value.cells] using h1,fun i a b x y=>h2 i a b (by simpa [Value.cells] using x) (by simpa [Value.cells] using y)⟩
 | bool b=>exact (LRel.nil _).cons (.bool b)
 | int k n=>exact (LRel.nil _).cons (.int k n)
 | float k b=>exact (LRel.nil _).cons (.float k b)
 | complex k a b=>exact (LRel.nil _).cons (.complex k a b)
 | string s=>exact (LRel.nil _).cons (.string s)
 | nilFunc=>exact (LRel.nil _).cons .nilFunc
 | nilIface=>exact (LRel.nil _).cons .nilIface
 | pnil=>exact (LRel.nil _).cons .pnil
 | ptr he=>exact (LRel.nil _).cons (.ptr he)
 | snil=>exact (LRel.nil _).cons .snil
 | slice h1 h2 h3 h4 h5=>exact (LRel.nil _).cons (.slice h1 h2 h3 h4 h5)
 | mnil=>exact (LRel.nil _).cons .mnil
 | map h1 h2=>exact (LRel.nil _).cons (.map h1 h2)
 | func h1 h2 h3 h4 h5=>exact (LRel.nil _).cons (.func h1 h2 h3 h4 h5)
 | yield h1 h2=>exact (LRel.nil _).cons (.yield h1 h2)
 | iface h1=>exact (LRel.nil _).cons (.iface h1)
 | tuple h1 h2=>exact (LRel.nil _).cons (.tuple h1 h2)
theorem Sim.congr {h1 h2:DHeap} (s:Sim ι h1 w) (hg:∀ id,h2.get id=h1.get id) (hn:h2.next=h1.next) (hng:h2.ng=h1.ng):Sim ι h2 w where
 lt:=fun id e he=>hn▸s.lt id e he
 blk:=s.blk
 obj:=fun id e he=>let ⟨o,a,b⟩:=s.obj id e he;⟨o,(hg id).trans a,b⟩
 sep:=fun id id' e e' a b c d=>by rw[hg,hg];exact s.sep id id' e e' a b c d
 glob:=fun g hgl=>s.glob g (hng▸hgl)
theorem S2a (w:World) (a:Addr) (u:Value) {k:Nat} (hk:k≠a.block):(w.setCell a u).heap[k]? = w.heap[k]?:=by
 simp only[World.setCell,Array.getElem?_modify]
 rw[if_neg (by omega)]
theorem Sim.store1 (s:Sim ι h w) {id:Nat} {e:Ent} (he:ι id=some e) {cells:List Value} {esz:Nat} (hg:h.get id=some (.row cells esz false)) {i:Nat} (hi:i<cells.length)
 {v v':Value} (hv:VRel ι v v') (h1:v.oneCell'=true) :
 ∃ w1,(store ⟨e.block,e.shift+i,none⟩ v').run P w=.ok () w1∧Sim ι (h.set id (.row (cells.set i v) esz false)) w1∧Step ι ι h (h.set id (.row (cells.set i v) esz false)) w w1:=by
 obtain ⟨hro,hez,cur,ty,fz,h3,h4,h5⟩:=s.row he hg
 obtain ⟨hsz,hlen,hfz⟩:=h5 rfl
 obtain ⟨u,hu,_⟩:=h4 i cells[i] (List.getElem?_eq_getElem hi)
 have hcell:w.cell? ⟨e.block,e.shift+i,none⟩=some u:=by simp[World.cell?,h3,hu]
 have hfro:w.frozen? ⟨e.block,e.shift+i,none⟩=false:=by
  have:=hfz (e.shift+i) (by omega)
  simp only[World.frozen?,h3]
  rw[Bool.and_eq_false_iff]
  simp only[decide_eq_false_iff_not]
  omega
 have hblk:(w.setCell ⟨e.block,e.shift+i,none⟩ v').heap[e.block]? = some (.cells (cur.setIfInBounds (e.shift+i) v') ty fz):=by
  simp only[World.setCell,Array.getElem?_modify,if_true,h3]
  rfl
 have hsize:(w.setCell ⟨e.block,e.shift+i,none⟩ v').heap.size=w.heap.size:=World.size_setCell _ _ _
 refine ⟨w.setCell ⟨e.block,e.shift+i,none⟩ v',?_,⟨?_,?_,?_,?_,?_⟩,⟨Inj.le_refl _,?_,Nat.le_refl _,rfl,rfl,rfl,rfl,by omega,?_,Nat.le_refl _⟩⟩
 ·rw[run_store P w _ v' _ (by rw[L8a hv];exact h1),hcell]
  simp[hfro]
 ·exact s.lt
 ·intro id' e' h';rw[hsize];exact s.blk id' e' h'
 ·intro id' e' h'
  simp only[DHeap.set]
  by_cases hid:id'=id
  ·subst hid
   rw[he]at h'
   cases h'
   refine ⟨.row (cells.set i v) esz false,by rw[if_pos rfl],hro,hez,_,ty,fz,hblk,?_,fun _=>⟨by simpa using hsz,by simpa using hlen,hfz⟩⟩
   intro j x hx
   rw[List.getElem?_set]at hx
   split at hx
   ·rename_i hij
    subst hij
    simp only[Option.some.injEq]at hx
    subst hx
    refine ⟨v',?_,hv⟩
    rw[Array.getElem?_setIfInBounds,if_pos rfl,if_pos (by omega)]
   ·rename_i hij
    obtain ⟨y,a,b⟩:=h4 j x hx
    refine ⟨y,?_,b⟩
    rw[Array.getElem?_setIfInBounds,if_neg (by omega)]
    exact a
  ·rw[if_neg hid]
   obtain ⟨o,a,b⟩:=s.obj _ _ h'
   by_cases hbl:e'.block=e.block
   ·rcases s.sep id' id e' e h' he hid hbl with hd | hd | hd
    ·rw[a]at hd;cases hd;exact ⟨_,a,b⟩
    ·rw[hg]at hd;cases hd
    ·rw[hro]at hd;cases hd.2
   ·exact ⟨o,a,b.mono (Inj.le_refl _) (S2a w _ _ hbl)⟩
 ·intro id1 id2 e1 e2 a b c d
  simp only[DHeap.set]
  rcases s.sep id1 id2 e1 e2 a b c d with hd | hd | hd
  ·left
   rw[if_neg (fun hx=>by subst hx;rw[hg]at hd;cases hd)]
   exact hd
  ·right;left
   rw[if_neg (fun hx=>by subst hx;rw[hg]at hd;cases hd)]
   exact hd
  ·exact .inr (.inr hd)
 ·exact s.glob
 ·intro id' e' x y;rw[x]at y;cases y
 ·intro b hb hx
  refine S2a w _ _ fun hbe=>?_
  have hy:=hx id e he hbe.symm
  rw[hro]at hy;cases hy
theorem g5b (h:DHeap) (id:Nat) (o o':DObj) (j:Nat):((h.set id o).set id o').get j=(h.set id o').get j:=by
 simp only[DHeap.set];split <;> rfl
theorem R2a (cells:List Value) (o:Nat) (vs:List Value):(YZ cells o vs).length=cells.length:=by
 induction vs generalizing cells o with
 | nil=>rfl
 | cons v vs ih=>simp[YZ,ih]
theorem Sim.stores {id:Nat} {e:Ent} (he:ι id=some e) {esz:Nat}:∀ (vs vs':List Value) (h:DHeap) (w:World) (cells:List Value) (o i:Nat),Sim ι h w→h.get id=some (.row cells esz false) →
 LRel ι vs vs'→vs.all Value.oneCell'=true→o+i+vs.length≤cells.length →
 ∃ w1,(storeCells ⟨e.block,e.shift+o,none⟩ vs' i).run P w=.ok () w1∧Sim ι (h.set id (.row (YZ cells (o+i) vs) esz false)) w1∧Step ι ι h (h.set id (.row (YZ cells (o+i) vs) esz false)) w w1
 | [],vs',h,w,cells,o,i,s,hg,hl,_,_=>by
   have:vs'=[]:=List.length_eq_zero_iff.1 hl.1.symm
   subst this
   have hsame:∀ j,(h.set id (.row (YZ cells (o+i) []) esz false)).get j=h.get j:=fun j=>by
    simp only[DHeap.set,YZ]
    split
    ·subst_vars;exact hg.symm
    ·rfl
   refine ⟨w,rfl,s.congr hsame rfl rfl,?_⟩
   exact ⟨Inj.le_refl _,fun a b c d=>(by rw[c]at d;cases d),Nat.le_refl _,rfl,rfl,rfl,rfl,Nat.le_refl _,fun _ _ _=>rfl,Nat.le_refl _⟩
 | v :: vs,vs',h,w,cells,o,i,s,hg,hl,h1,hn=>by
   cases vs' with
   | nil=>cases hl.1
   | cons v' vs'=>
     have hv:VRel ι v v':=hl.2 0 v v' rfl rfl
     have hl':LRel ι vs vs':=⟨by simpa using hl.1,fun j a b x y=>hl.2 (j+1) a b (by simpa using x) (by simpa using y)⟩
     simp only[List.all_cons,Bool.and_eq_true]at h1
     simp only[List.length_cons]at hn
     obtain ⟨w1,hr,s1,st1⟩:=s.store1 (P:=P) he hg (i:=o+i) (by omega) hv h1.1
     have hg1:(h.set id (.row (cells.set (o+i) v) esz false)).get id=some (.row (cells.set (o+i) v) esz false):=by simp[DHeap.set]
     obtain ⟨w2,hr2,s2,st2⟩:=Sim.stores he vs vs' _ w1 (cells.set (o+i) v) o (i+1) s1 hg1 hl' h1.2 (by simp;omega)
     have hget:∀ j,(h.set id (.row (YZ cells (o+i) (v :: vs)) esz false)).get j=((h.set id (.row (cells.set (o+i) v) esz false)).set id (.row (YZ (cells.set (o+i) v) (o+(i+1)) vs) esz false)).get j:=fun j=>by
      rw[g5b]
      rfl
     refine ⟨w2,?_,s2.congr hget rfl rfl,?_⟩
     ·simp only[storeCells,Sem.run_bind,W1a]
      rw[Nat.add_assoc,hr]
      simp only[Result.andThen_ok]
      exact hr2
     ·have st:=st1.trans st2
      refine ⟨st.le,fun a b c d=>(by rw[c]at d;cases d),Nat.le_refl _,rfl,st.os,st.tape,st.output,st.size,?_,st.drawn⟩
      exact fun b hb hx=>st.frame b hb hx
theorem v9b {t:TypeId} {a v a' v':Value} {h':DHeap} (hd:Yx P t a v h=some h') (s:Sim ι h w) (ha:VRel ι a a') (hv:VRel ι v v') :
 ∃ w',(Instr.storeAt t a' v').run P w=.ok () w'∧Sim ι h' w'∧Step ι ι h h' w w':=by
 unfold Yx at hd
 split at hd
 ·rename_i id o
  obtain ⟨e,he,rfl⟩:=f5a ha
  split at hd
  ·rename_i cells esz i hg hi
   split at hd
   ·rename_i hc
    obtain ⟨hc1,hc2,hc3⟩:=hc
    cases hd
    have hl:=v7a hv
    obtain ⟨w1,hr,s1,st⟩:=Sim.stores (P:=P) he v.cells.toList v'.cells.toList h w cells o 0 s hg hl hc3 (by omega)
    refine ⟨w1,?_,s1,st⟩
    simp only[Instr.storeAt,Instr.sureAddr,storeVar,Sem.run_bind,Sem.run_pure,Result.andThen_ok,i0a hi]
    have hsz:v'.cells.size=i.size:=by
     have:=hl.1
     rw[hc1]at this
     simpa using this.symm
    rw[if_neg (by simp[hsz])]
    exact hr
   ·cases hd
  ·cases hd
 ·cases hd
end Go.D
namespace Go.D
variable {P:Program} {ι:Inj} {h:DHeap} {w:World}
theorem D2a {ρ:Operand→Option Value} {ρ':Operand→Value}:∀ (l:List Operand) (vs:List Value),Yk ρ l=some vs→(∀ y∈l,∀ v,ρ y=some v→VRel ι v (ρ' y))→LRel ι vs (l.map ρ')
 | [],vs,he,_=>by simp[Yk]at he;subst he;exact .nil _
 | x :: xs,vs,he,hr=>by
   simp only[Yk]at he
   split at he
   ·rename_i v us h1 h2
    cases he
    exact (D2a xs us h2 fun y hy=>hr y (by simp[hy])).cons (hr x (by simp) v h1)
   ·cases he
def PRel (ι:Inj) (l l':List (Nat × Value)):Prop:=l.length=l'.length∧∀ (i:Nat) p p',l[i]? = some p→l'[i]? = some p'→p'.1=p.1∧VRel ι p.2 p'.2
theorem PRel.nil (ι:Inj):PRel ι [] []:=⟨rfl,fun i p p' h=>by simp at h⟩
theorem PRel.cons {p p':Nat × Value} {l l':List (Nat × Value)} (h1:p'.1=p.1) (h2:VRel ι p.2 p'.2) (k:PRel ι l l'):PRel ι (p :: l) (p' :: l'):=by
 refine ⟨by simp[k.1],fun i u u' a b=>?_⟩
 cases i with
 | zero=>simp at a b;subst a b;exact ⟨h1,h2⟩
 | succ i=>simp at a b;exact k.2 i _ _ a b
theorem PRel.tail {p p':Nat × Value} {l l':List (Nat × Value)} (k:PRel ι (p :: l) (p' :: l')):p'.1=p.1∧VRel ι p.2 p'.2∧PRel ι l l':=
 ⟨(k.2 0 p p' rfl rfl).1,(k.2 0 p p' rfl rfl).2,by simpa using k.1,fun i u u' a b=>k.2 (i+1) u u' (by simpa using a) (by simpa using b)⟩
theorem M4a {ρ:Operand→Option Value} {ρ':Operand→Value}:∀ (l:List (Nat × Operand)) (vs:List (Nat × Value)),q0a ρ l=some vs→(∀ y∈l.map (·.2),∀ v,ρ y=some v→VRel ι v (ρ' y)) →
 PRel ι vs (l.map fun (i,x)=>(i,ρ' x))
 | [],vs,he,_=>by simp[q0a]at he;subst he;exact .nil _
 | (k,x) :: xs,vs,he,hr=>by
   simp only[q0a]at he
   split at he
   ·rename_i v us h1 h2
    cases he
    exact (M4a xs us h2 fun y hy=>hr y (by simp[hy])).cons rfl (hr x (by simp) v h1)
   ·cases he
def x6a (ι:Inj):Option Value→Option Value→Prop
 | none,none=>True
 | some v,some v'=>VRel ι v v'
 | _,_=>False
theorem V5a {ρ:Operand→Option Value} {ρ':Operand→Value} {x:Option Operand} {v:Option Value} (he:B0a ρ x=some v) (hr:∀ y∈x.toList,∀ v,ρ y=some v→VRel ι v (ρ' y)):x6a ι v (x.map ρ'):=by
 cases x with
 | none=>simp[B0a]at he;subst he;trivial
 | some x=>
   simp only[B0a,Option.map_eq_some_iff]at he
   obtain ⟨u,h1,rfl⟩:=he
   exact hr x (by simp) u h1
theorem D3b {off:Nat}:∀ (vs vs':List Value) (k:Nat) (cs cs':Array Value),LRel ι vs vs'→LRel ι cs.toList cs'.toList →
 LRel ι ((vs.zipIdx k).foldl (fun cs (c,j)=>cs.setIfInBounds (off+j) c) cs).toList ((vs'.zipIdx k).foldl (fun cs (c,j)=>cs.setIfInBounds (off+j) c) cs').toList
 | [],vs',k,cs,cs',hl,hc=>by
   have:vs'=[]:=List.length_eq_zero_iff.1 hl.1.symm
   subst this
   exact hc
 | v :: vs,vs',k,cs,cs',hl,hc=>by
   cases vs' with
   | nil=>cases hl.1
   | cons v' vs'=>
     have hv:VRel ι v v':=hl.2 0 v v' rfl rfl
     have hl':LRel ι vs vs':=⟨by simpa using hl.1,fun j a b x y=>hl.2 (j+1) a b (by simpa using x) (by simpa using y)⟩
     simp only[List.zipIdx_cons,List.foldl_cons]
     refine D3b vs vs' (k+1) _ _ hl' ?_
     simp only[Array.toList_setIfInBounds]
     exact hc.set _ hv
theorem E6a {place:Nat→Option (Nat × Nat)}:∀ (ps ps':List (Nat × Value)) (cs cs':Array Value) {r:Array Value},PRel ι ps ps'→LRel ι cs.toList cs'.toList→Instr.fill place cs ps=some r →
 ∃ r',Instr.fill place cs' ps'=some r'∧LRel ι r.toList r'.toList
 | [],ps',cs,cs',r,hp,hc,hf=>by
   have:ps'=[]:=List.length_eq_zero_iff.1 hp.1.symm
   subst this
   simp only[Instr.fill,Option.some.injEq]at hf
   subst hf
   exact ⟨cs',rfl,hc⟩
 | (i,v) :: ps,ps',cs,cs',r,hp,hc,hf=>by
   cases ps' with
   | nil=>cases hp.1
   | cons p' ps'=>
     obtain ⟨i',v'⟩:=p'
     obtain ⟨h1,h2,h3⟩:=hp.tail
     simp only at h1 h2
     subst h1
     simp only[Instr.fill]at hf ⊢
     cases hpl:place i' with
     | none=>rw[hpl]at hf;cases hf
     | some q=>
       obtain ⟨off,size⟩:=q
       rw[hpl]at hf
       simp only at hf ⊢
       have hcl:=v7a h2
       have hsz:v'.cells.size=v.cells.size:=by have:=hcl.1;simpa using this.symm
       have hcs:cs'.size=cs.size:=by have:=hc.1;simpa using this.symm
       rw[hsz,hcs]
       split at hf
       ·cases hf
       ·rename_i hn
        rw[if_neg hn]
        refine E6a ps ps' _ _ h3 ?_ hf
        have e:∀ (x cs:Array Value),x.zipIdx.foldl (fun cs (c,j)=>cs.setIfInBounds (off+j) c) cs=(x.toList.zipIdx 0).foldl (fun cs (c,j)=>cs.setIfInBounds (off+j) c) cs:=fun x cs=>by
         rw[← Array.foldl_toList,Array.toList_zipIdx]
        rw[e,e]
        exact D3b (off:=off) v.cells.toList v'.cells.toList 0 cs cs' hcl hc
theorem a1a {l:List Value} (hl:l.all Yw=true):LRel ι l l:=
 ⟨rfl,fun i v v' a b=>by rw[a]at b;cases b;exact E3a ι (W0a hl a)⟩
theorem f2b {t:TypeId} (hz:o4a P t=true):∃ i z,P.info? t=some i∧i.zero=some z∧z.cells.toList.all Yw=true:=by
 unfold o4a at hz
 split at hz
 ·rename_i i hi
  split at hz
  ·rename_i z hz'
   exact ⟨i,z,hi,hz',hz⟩
  ·cases hz
 ·cases hz
theorem F8b {t:TypeId} {ps ps':List (Nat × Value)} {cs:Array Value} (hz:o4a P t=true) (hp:PRel ι ps ps') (hb:P.built t ps=some cs) :
 ∃ cs',P.built t ps'=some cs'∧LRel ι cs.toList cs'.toList:=by
 obtain ⟨i,z,hi,hzz,hfl⟩:=f2b hz
 unfold Program.built at hb ⊢
 rw[hi]at hb ⊢
 cases hu:P.underlying t with
 | none=>rw[hu]at hb;cases hb
 | some d=>
   rw[hu]at hb
   cases d with
   | array n e=>
     try dsimp only at hb ⊢
     split at hb
     ·rename_i z' ie hz' hie
      rw[hzz]at hz'
      cases hz'
      exact E6a ps ps' _ _ hp (a1a hfl) hb
     ·cases hb
   | struct fields=>
     try dsimp only at hb ⊢
     split at hb
     ·rename_i z' ie hz' hie
      rw[hzz]at hz'
      cases hz'
      exact E6a ps ps' _ _ hp (a1a hfl) hb
     ·cases hb
   | _=>cases hb
theorem Z8b {t:TypeId} {ps ps':List (Nat × Value)} {v:Value} (hd:Xy P t ps=some v) (hp:PRel ι ps ps') :
 ∃ v',(Instr.build t ps'.toArray).run P w=.ok v' w∧VRel ι v v':=by
 unfold Xy at hd
 split at hd
 ·rename_i hz
  simp only[Option.map_eq_some_iff]at hd
  obtain ⟨cs,hb,rfl⟩:=hd
  obtain ⟨cs',hb',hl⟩:=F8b hz hp hb
  exact ⟨.agg cs',run_build w t _ _ (by simpa using hb'),.agg (by simpa using hl.1) fun i v v' a b=>hl.2 i v v' (by simpa using a) (by simpa using b)⟩
 ·cases hd
theorem R1a (t:TypeId) (cells:Array Value):(newRow t cells).run P w=.ok ⟨w.heap.size,0,none⟩ (w.alloc (.cells cells t)):=by
 simp only[newRow,Sem.run_bind,run_newObj,Result.andThen_ok,Sem.run_pure]
 rfl
theorem J6c {t:TypeId} {v v':Value} (s:Sim ι h w) (hv:VRel ι v v') :
 ∃ ι' w' p,(Instr.box t v').run P w=.ok p w'∧VRel ι' (T6b P t v h).1 p∧Sim ι' (T6b P t v h).2 w'∧Step ι ι' h (T6b P t v h).2 w w':=by
 obtain ⟨ι',s',st,hn⟩:=s.allocRow' t (i1a P t) (cur:=v'.cells) (v7a hv)
 refine ⟨ι',_,.pointer (some ⟨w.heap.size,0,none⟩),?_,?_,s',st⟩
 ·simp only[Instr.box,newVar,Sem.run_bind,R1a,Result.andThen_ok,Sem.run_pure]
 ·exact .ptr (o:=0) hn
theorem W8b {t:TypeId} {v:Value} {h':DHeap} (hd:k1a P t h=some (v,h')) (s:Sim ι h w) :
 ∃ ι' w' p,(Instr.alloc t true (.tuple #[])).run P w=.ok p w'∧VRel ι' v p∧Sim ι' h' w'∧Step ι ι' h h' w w':=by
 unfold k1a at hd
 split at hd
 ·rename_i i hi
  split at hd
  ·rename_i z hz
   split at hd
   ·rename_i hfl
    cases hd
    obtain ⟨ι',s',st,hn⟩:=s.allocRow' t (i1a P t) (cur:=z.cells) (a1a hfl)
    refine ⟨ι',_,.pointer (some ⟨w.heap.size,0,none⟩),?_,.ptr (o:=0) hn,s',st⟩
    simp only[Instr.alloc,newVar,Sem.run_bind,x0a hi hz,R1a,Result.andThen_ok,Sem.run_pure]
   ·cases hd
  ·cases hd
 ·cases hd
theorem O4a {z:Array Value} (hz:z.toList.all Yw=true) (n:Nat):(j0a z n).toList.all Yw=true:=by
 rw[List.all_eq_true]
 intro x hx
 simp only[j0a,Array.toList_map,List.mem_map]at hx
 obtain ⟨k,_,rfl⟩:=hx
 rw[getElem!_def]
 split
 ·rename_i y hy
  exact W0a hz (i:=k % z.size) (by simpa using hy)
 ·rfl
theorem u0b {t:TypeId} {len:Nat} {ps ps':List (Nat × Value)} {v:Value} {h':DHeap} (hd:f0a P t len ps h=some (v,h')) (s:Sim ι h w) (hp:PRel ι ps ps') :
 ∃ ι' w' p,(Instr.buildSlice t len ps'.toArray).run P w=.ok p w'∧VRel ι' v p∧Sim ι' h' w'∧Step ι ι' h h' w w':=by
 unfold f0a at hd
 split at hd
 ·rename_i e hu
  split at hd
  ·rename_i i hi
   split at hd
   ·rename_i z hz
    split at hd
    ·rename_i hl0
     subst hl0
     split at hd
     ·rename_i hc
      cases hd
      have hps:ps'=[]:=List.length_eq_zero_iff.1 (hp.1▸hc.1)
      obtain ⟨ι',s',st,hn⟩:=s.allocRow' e i.size (cur:=#[]) (cells:=[]) (LRel.nil _)
      refine ⟨ι',_,.slice (some ⟨w.heap.size,0,none⟩) 0 0,?_,.slice hn (Nat.le_refl _) (fun _=>rfl) (fun _=>rfl) (fun _ hh=>absurd hh (Nat.lt_irrefl _)),s',st⟩
      subst hps
      simp only[Instr.buildSlice,Sem.run_bind,Zw hu,i0a hi,Result.andThen_ok,Nat.zero_mul]
      rw[if_neg (by omega)]
      simp only[if_true]
      have hrow:(Array.range 0).map (fun x=>(#[]:Array Value)[x % (#[]:Array Value).size]!)=#[]:=by simp
      simp only[Sem.run_pure,Result.andThen_ok,Instr.fill,hrow,Sem.run_bind,R1a]
     ·cases hd
    ·rename_i hl0'
     split at hd
     ·rename_i hc
      obtain ⟨hl0,hs0,h24,hfl⟩:=hc
      split at hd
      ·rename_i cells hf
       split at hd
       ·rename_i hsz
        cases hd
        obtain ⟨cells',hf',hl⟩:=E6a ps ps' _ _ hp (a1a (O4a hfl _)) hf
        obtain ⟨ι',s',st,hn⟩:=s.allocRow' e i.size (cur:=cells') hl
        have hsz':cells'.size=len*i.size:=by rw[← hsz];have:=hl.1;simpa using this.symm
        refine ⟨ι',_,.slice (some ⟨w.heap.size,0,none⟩) len len,?_,.slice hn (Nat.le_refl _) (fun _=>rfl) (fun _=>rfl) (fun _ _=>by simp[hsz']),s',st⟩
        have hne:len*i.size≠0:=by
         intro h0
         rcases Nat.mul_eq_zero.1 h0 with h0 | h0 <;> omega
        have hf2:Instr.fill (fun k=>some (k*i.size,i.size)) ((Array.range (len*i.size)).map (z.cells[· % z.cells.size]!)) ps'=some cells':=hf'
        simp only[Instr.buildSlice,Sem.run_bind,Zw hu,i0a hi,Result.andThen_ok]
        rw[if_neg (by omega),if_neg hne]
        simp only[Sem.run_bind,x0a hi hz,Result.andThen_ok,Sem.run_pure,hf2,R1a]
       ·cases hd
      ·cases hd
     ·cases hd
   ·cases hd
  ·cases hd
 ·cases hd
theorem o9a {n:Int} (h0:0≤n) (h1:n≤9223372036854775807):IntKind.i64.wrap n=n:=by
 unfold IntKind.wrap
 simp[IntKind.bits,IntKind.signed]
 omega
theorem U1b {t:TypeId} {l l' c c' v:Value} {h':DHeap} (hd:R3a P t l c h=some (v,h')) (s:Sim ι h w) (hl:VRel ι l l') (hc:VRel ι c c') :
 ∃ ι' w' p,(Instr.makeSlice t l' c').run P w=.ok p w'∧VRel ι' v p∧Sim ι' h' w'∧Step ι ι' h h' w w':=by
 unfold R3a at hd
 split at hd
 ·rename_i e k1 n1 k2 n2 hu
  cases hl
  cases hc
  split at hd
  ·rename_i i hi
   split at hd
   ·rename_i z hz
    split at hd
    ·rename_i hcond
     obtain ⟨g1,g2,g3,g4,g5,g6,g7⟩:=hcond
     cases hd
     have hlr:LRel ι (j0a z.cells (n2.toNat*i.size)).toList (j0a z.cells (n2.toNat*i.size)).toList:=a1a (O4a g6 _)
     obtain ⟨ι',s',st,hn⟩:=s.allocRow' e i.size (cur:=j0a z.cells (n2.toNat*i.size)) hlr
     have hsz:(j0a z.cells (n2.toNat*i.size)).size=n2.toNat*i.size:=by simp[j0a]
     refine ⟨ι',_,.slice (some ⟨w.heap.size,0,none⟩) n1.toNat n2.toNat,?_,.slice hn (by omega) (fun hx=>?_) (fun _=>rfl) (fun _ _=>by simp[hsz]),s',st⟩
     ·have w1:IntKind.i64.wrap n1=n1:=o9a g1 (by omega)
      have w2:IntKind.i64.wrap n2=n2:=o9a (by omega) g3
      simp only[Instr.makeSlice,asInt,asIntOf,Sem.run_bind,Zw hu,C2a hi,Sem.run_pure,Result.andThen_ok,w1,w2]
      have hcnd:(decide (n2<0)||decide ((i.bytes:Int)*n2 > 2 ^ 48)||decide (n1<0)||decide (n1 > n2))=false:=by
       simp only[Bool.or_eq_false_iff,decide_eq_false_iff_not]
       refine ⟨⟨⟨by omega,by omega⟩,by omega⟩,by omega⟩
      rw[if_neg (by rw[hcnd];simp)]
      simp only[Sem.run_bind,run_askRoom,Result.andThen_ok,i0a hi]
      have hrow:(Array.range (n2.toNat*i.size)).map (z.cells[· % z.cells.size]!)=j0a z.cells (n2.toNat*i.size):=rfl
      by_cases h0:n2.toNat*i.size=0
      ·rw[if_pos h0]
       have e0:j0a z.cells (n2.toNat*i.size)=#[]:=by rw[h0];simp[j0a]
       rw[e0]
       have e1:∀ f:Nat→Value,(Array.range 0).map f=#[]:=fun f=>by simp
       simp only[Sem.run_pure,Sem.run_bind,Result.andThen_ok,h0,R1a,e1]
      ·rw[if_neg h0]
       simp only[Sem.run_bind,x0a hi hz,Result.andThen_ok,Sem.run_pure,hrow,R1a]
     ·split at hx
      ·rename_i heq;rw[heq]
      ·omega
    ·cases hd
   ·cases hd
  ·cases hd
 ·cases hd
theorem L3a {v':Value} {id o len cap:Nat} (hv:VRel ι (.slice (some ⟨id,o,none⟩) len cap) v') :
 ∃ e a' cap',ι id=some e∧v'=.slice (some a') len cap'∧len≤cap'∧(cap=len→cap'=len)∧(0<cap'→a'=⟨e.block,e.shift+o,none⟩)∧(e.ro=false→0<cap'→e.shift+o+cap'*e.esz≤e.size):=by
 cases hv with
 | slice h1 h2 h3 h4 h5=>exact ⟨_,_,_,h1,rfl,h2,h3,h4,h5⟩
theorem R1b {t:TypeId} {x x' v:Value} {f:Nat} (hd:M1a P t x f=some v) (hx:VRel ι x x'):∃ v',(Instr.fieldAt t x' f).run P w=.ok v' w∧VRel ι v v':=by
 unfold M1a at hd
 split at hd
 ·rename_i fields id o hu
  obtain ⟨e,he,rfl⟩:=f5a hx
  split at hd
  ·rename_i fd hf
   split at hd
   ·rename_i i hi
    split at hd
    ·cases hd
    ·rename_i hsz
     cases hd
     refine ⟨.pointer (some ⟨e.block,e.shift+o+fd.offset,none⟩),?_,by rw[Nat.add_assoc];exact .ptr he⟩
     simp only[Instr.fieldAt,Instr.sureAddr,fieldPlace,Sem.run_bind,Zw hu,Result.andThen_ok,hf,Sem.run_pure,i0a hi]
     rw[if_neg hsz]
     simp only[W1a,Sem.run_pure,Result.andThen_ok]
   ·cases hd
  ·cases hd
 ·cases hd
theorem S1b {t:TypeId} {x x' y y' v:Value} (hd:ZQ P t x y=some v) (hx:VRel ι x x') (hy:VRel ι y y'):∃ v',(Instr.indexAt t x' y').run P w=.ok v' w∧VRel ι v v':=by
 unfold ZQ at hd
 split at hd
 ·rename_i e id o len cap k n hu
  obtain ⟨en,a',cap',he,rfl,h1,h2,h3,h4⟩:=L3a hx
  cases hy
  split at hd
  ·rename_i i hi
   split at hd
   ·rename_i hb
    cases hd
    obtain rfl:=h3 (by omega)
    refine ⟨.pointer (some ⟨en.block,en.shift+o+n.toNat*i.size,none⟩),?_,by rw[Nat.add_assoc];exact .ptr he⟩
    simp only[Instr.indexAt,asIntOf,Sem.run_bind,Zw hu,Result.andThen_ok,Sem.run_pure]
    simp only[if_pos hb,Sem.run_bind,i0a hi,Result.andThen_ok,Sem.run_pure,W1a]
   ·cases hd
  ·cases hd
 ·rename_i len e id o k n hu
  obtain ⟨en,he,rfl⟩:=f5a hx
  cases hy
  split at hd
  ·rename_i i hi
   split at hd
   ·rename_i hb
    cases hd
    refine ⟨.pointer (some ⟨en.block,en.shift+o+n.toNat*i.size,none⟩),?_,by rw[Nat.add_assoc];exact .ptr he⟩
    simp only[Instr.indexAt,Instr.sureAddr,asIntOf,Sem.run_bind,Zw hu,Result.andThen_ok,Sem.run_pure]
    simp only[if_pos hb,Sem.run_bind,i0a hi,Result.andThen_ok,Sem.run_pure,W1a]
   ·cases hd
  ·cases hd
 ·cases hd
theorem i3b {t:TypeId} {cs cs':Array Value} {off:Nat} {v:Value} (hd:h2b P t cs off=some v) (hc:LRel ι cs.toList cs'.toList):∃ v',(part t cs' off).run P w=.ok v' w∧VRel ι v v':=by
 unfold h2b at hd
 split at hd
 ·rename_i d i hu hi
  split at hd
  ·rename_i hagg
   cases hd
   refine ⟨.agg (cs'.extract off (off+i.size)),?_,.agg ?_ ?_⟩
   ·simp only[part,Sem.run_bind,U7a hu,Result.andThen_ok,hagg,if_true,i0a hi,Sem.run_pure]
   ·have:=hc.1
    simp at this
    simp[this]
   ·intro j a b x y
    rw[Array.getElem?_extract]at x y
    split at x
    ·rename_i hlt
     have hlen:=hc.1
     simp at hlen
     rw[if_pos (by omega)]at y
     exact hc.2 (off+j) a b (by simpa using x) (by simpa using y)
    ·cases x
  ·rename_i hagg
   obtain ⟨v',a,b⟩:=hc.get (i:=off) (v:=v) (by simpa using hd)
   refine ⟨v',?_,b⟩
   simp only[part,Sem.run_bind,U7a hu,Result.andThen_ok,hagg,if_false,Bool.false_eq_true]
   rw[show cs'[off]? = some v' by simpa using a]
   rfl
 ·cases hd
theorem g6b {cs:Array Value} {v':Value} (hv:VRel ι (.agg cs) v'):∃ cs',v'=.agg cs'∧LRel ι cs.toList cs'.toList:=by
 cases hv with
 | agg h1 h2=>exact ⟨_,rfl,by simpa using h1,fun i a b x y=>h2 i a b (by simpa using x) (by simpa using y)⟩
theorem W0c {cs:Array Value} {v':Value} (hv:VRel ι (.tuple cs) v'):∃ cs',v'=.tuple cs'∧LRel ι cs.toList cs'.toList:=by
 cases hv with
 | tuple h1 h2=>exact ⟨_,rfl,by simpa using h1,fun i a b x y=>h2 i a b (by simpa using x) (by simpa using y)⟩
theorem d9b {t:TypeId} {x x' v:Value} {f:Nat} (hd:V2b P t x f=some v) (hx:VRel ι x x'):∃ v',(Instr.field t x' f).run P w=.ok v' w∧VRel ι v v':=by
 unfold V2b at hd
 split at hd
 ·rename_i fields cs hu
  obtain ⟨cs',rfl,hc⟩:=g6b hx
  split at hd
  ·rename_i fd hf
   obtain ⟨v',a,b⟩:=i3b (w:=w) hd hc
   refine ⟨v',?_,b⟩
   simp only[Instr.field,Sem.run_bind,Zw hu,Result.andThen_ok,hf,asAgg,Sem.run_pure]
   exact a
  ·cases hd
 ·cases hd
theorem g9b {t:TypeId} {x x' y y' v:Value} (hd:z4a P t x y=some v) (hx:VRel ι x x') (hy:VRel ι y y'):∃ v',(Instr.index t x' y').run P w=.ok v' w∧VRel ι v v':=by
 unfold z4a at hd
 split at hd
 ·rename_i len e cs k n hu
  obtain ⟨cs',rfl,hc⟩:=g6b hx
  cases hy
  split at hd
  ·rename_i i hi
   split at hd
   ·rename_i hb
    obtain ⟨v',a,b⟩:=i3b (w:=w) hd hc
    refine ⟨v',?_,b⟩
    simp only[Instr.index,asIntOf,Sem.run_bind,Zw hu,Result.andThen_ok,Sem.run_pure]
    simp only[if_pos hb,Sem.run_bind,i0a hi,Result.andThen_ok]
    exact a
   ·cases hd
  ·cases hd
 ·rename_i s k n hu
  cases hx
  cases hy
  split at hd
  ·rename_i hn
   split at hd
   ·rename_i b hb
    cases hd
    refine ⟨_,?_,.int _ _⟩
    simp only[Instr.index,asIntOf,Sem.run_bind,Zw hu,Result.andThen_ok,Sem.run_pure,if_pos hn,hb]
   ·cases hd
  ·cases hd
 ·cases hd
theorem J4b {t t' v:Value} {ix:Nat} (hd:A6a t ix=some v) (ht:VRel ι t t'):∃ v',(Instr.extract t' ix).run P w=.ok v' w∧VRel ι v v':=by
 unfold A6a at hd
 split at hd
 ·obtain ⟨cs',rfl,hc⟩:=W0c ht
  obtain ⟨v',a,b⟩:=hc.get (i:=ix) (v:=v) (by simpa using hd)
  refine ⟨v',?_,b⟩
  simp only[Instr.extract,show cs'[ix]? = some v' by simpa using a,Sem.run_pure]
 ·cases hd
theorem z1b {t:TypeId} {v x':Value} (hv:VRel ι (.iface t v) x'):∃ v',x'=.iface t v'∧VRel ι v v':=by
 cases hv with
 | iface h=>exact ⟨_,rfl,h⟩
theorem c4b {x':Value} (hv:VRel ι .nilIface x'):x'=.nilIface:=by cases hv;rfl
theorem Y6a {a a' b b':Value} (ha:VRel ι a a') (hb:VRel ι b b'):VRel ι (.tuple #[a,b]) (.tuple #[a',b']):=by
 refine .tuple rfl fun i v v' x y=>?_
 match i,x,y with
 | 0,x,y=>simp at x y;subst x y;exact ha
 | 1,x,y=>simp at x y;subst x y;exact hb
 | n+2,x,y=>simp at x
theorem q5a {t:TypeId} (h:l3a P t=some false):∃ d,P.underlying t=some d∧∀ ms,d≠.interface ms:=by
 unfold l3a at h
 split at h
 ·cases h
 ·rename_i d hn hu
  exact ⟨d,hu,fun ms hm=>hn ms hm⟩
 ·cases h
theorem D0b {x x' v:Value} {xt t:TypeId} {ok:Bool} (hd:k3a P x t ok=some v) (hx:VRel ι x x'):∃ v',(Instr.typeAssert x' xt t ok).run P w=.ok v' w∧VRel ι v v':=by
 unfold k3a at hd
 split at hd
 ·rename_i u y hi
  obtain ⟨d,hu,hn⟩:=q5a hi
  obtain ⟨y',rfl,hy⟩:=z1b hx
  split at hd
  ·rename_i heq
   subst heq
   cases hd
   refine ⟨if ok then .tuple #[y',.bool true] else y',?_,by split;exact Y6a hy (.bool _);exact hy⟩
   unfold Instr.typeAssert
   simp only[Sem.run_bind,Zw hu,Result.andThen_ok]
   cases d <;> first | (exact absurd rfl (hn _)) | simp
  ·rename_i hne
   split at hd
   ·rename_i hok
    split at hd
    ·rename_i i hinfo
     split at hd
     ·rename_i z hz
      split at hd
      ·rename_i hfl
       cases hd
       refine ⟨.tuple #[z,.bool false],?_,Y6a (F3a ι hfl) (.bool _)⟩
       unfold Instr.typeAssert
       simp only[Sem.run_bind,Zw hu,Result.andThen_ok]
       cases d <;> first | (exact absurd rfl (hn _)) | simp[hne,hok,x0a hinfo hz]
      ·cases hd
     ·cases hd
    ·cases hd
   ·cases hd
 ·rename_i hi
  obtain ⟨d,hu,hn⟩:=q5a hi
  obtain rfl:=c4b hx
  split at hd
  ·rename_i hok
   split at hd
   ·rename_i i hinfo
    split at hd
    ·rename_i z hz
     split at hd
     ·rename_i hfl
      cases hd
      refine ⟨.tuple #[z,.bool false],?_,Y6a (F3a ι hfl) (.bool _)⟩
      unfold Instr.typeAssert
      simp only[Sem.run_bind,Zw hu,Result.andThen_ok]
      cases d <;> first | (exact absurd rfl (hn _)) | simp[hok,x0a hinfo hz]
     ·cases hd
    ·cases hd
   ·cases hd
  ·cases hd
 ·cases hd
end Go.D
namespace Go.D
variable {P:Program} {ι:Inj} {h:DHeap} {w:World}
theorem j1a {v:Value} {d y n:Nat} (hb:Yu (some v) d y=some n):∃ k i,v=.int k i∧0≤i∧i≤(y:Int)∧n=i.toNat:=by
 cases v with
 | int k i=>
   simp only[Yu]at hb
   split at hb
   ·rename_i hc
    cases hb
    exact ⟨k,i,rfl,hc.1,hc.2,rfl⟩
   ·cases hb
 | _=>simp[Yu]at hb
theorem H0a {k:IntKind} {i:Int} {y:Nat} (h0:0≤i) (h1:i≤(y:Int)) (c:BoundsCode):(Instr.sliceBound (.int k i) y c).run P w=.ok i.toNat w:=by
 simp only[Instr.sliceBound,asIntOf,Sem.run_bind,Sem.run_pure,Result.andThen_ok]
 rw[if_pos ⟨h0,h1⟩]
 rfl
theorem j2a {x:Option Value} (hx:x6a ι none x):x=none:=by cases x <;> first | rfl | cases hx
theorem k2a {v:Value} {x:Option Value} (hx:x6a ι (some v) x):∃ v',x=some v'∧VRel ι v v':=by
 cases x with
 | none=>cases hx
 | some v'=>exact ⟨v',rfl,hx⟩
theorem w4a {lo hi lo' hi':Option Value} {b:Bool} {len cap lb hb:Nat} (hh:Yu hi len cap=some hb) (hl:Yu lo 0 hb=some lb) (h1:x6a ι lo lo') (h2:x6a ι hi hi') (cap':Nat) (hcap:cap≤cap') :
 (Instr.sliceBounds b len cap' lo' hi' none).run P w=.ok (lb,hb,cap') w:=by
 unfold Instr.sliceBounds
 cases hi with
 | none=>
   obtain rfl:=j2a h2
   simp only[Yu,Option.some.injEq]at hh
   subst hh
   cases lo with
   | none=>
     obtain rfl:=j2a h1
     simp only[Yu,Option.some.injEq]at hl
     subst hl
     rfl
   | some v=>
     obtain ⟨v',rfl,hv⟩:=k2a h1
     obtain ⟨k,i,rfl,a,c,rfl⟩:=j1a hl
     cases hv
     simp only[Sem.run_bind,Sem.run_pure,Result.andThen_ok,H0a a c]
 | some v=>
   obtain ⟨v',rfl,hv⟩:=k2a h2
   obtain ⟨k,i,rfl,a,c,rfl⟩:=j1a hh
   cases hv
   have c':i≤(cap':Int):=by omega
   cases lo with
   | none=>
     obtain rfl:=j2a h1
     simp only[Yu,Option.some.injEq]at hl
     subst hl
     simp only[Sem.run_bind,Sem.run_pure,Result.andThen_ok,H0a a c']
   | some v=>
     obtain ⟨v',rfl,hv⟩:=k2a h1
     obtain ⟨k1,i1,rfl,a1,c1,rfl⟩:=j1a hl
     cases hv
     simp only[Sem.run_bind,Sem.run_pure,Result.andThen_ok,H0a a c',H0a a1 c1]
theorem O8a {lo lo':Option Value} {vm vh vm' vh':Value} {b:Bool} {len cap lb hb m d d':Nat} (hm:Yu (some vm) d cap=some m) (hh:Yu (some vh) d' m=some hb) (hl:Yu lo 0 hb=some lb) (h1:x6a ι lo lo')
 (h2:VRel ι vh vh') (h3:VRel ι vm vm') (cap':Nat) (hcap:cap≤cap') :
 (Instr.sliceBounds b len cap' lo' (some vh') (some vm')).run P w=.ok (lb,hb,m) w:=by
 unfold Instr.sliceBounds
 obtain ⟨k,i,rfl,a,c,rfl⟩:=j1a hm
 cases h3
 obtain ⟨k',i',rfl,a',c',rfl⟩:=j1a hh
 cases h2
 have c2:i≤(cap':Int):=by omega
 cases lo with
 | none=>
   obtain rfl:=j2a h1
   simp only[Yu,Option.some.injEq]at hl
   subst hl
   simp only[Sem.run_bind,Sem.run_pure,Result.andThen_ok,H0a a c2,H0a a' c']
 | some v=>
   obtain ⟨v',rfl,hv⟩:=k2a h1
   obtain ⟨k1,i1,rfl,a1,c1,rfl⟩:=j1a hl
   cases hv
   simp only[Sem.run_bind,Sem.run_pure,Result.andThen_ok,H0a a c2,H0a a' c',H0a a1 c1]
theorem E1a {x:Option Value} {d y n:Nat} (hb:Yu x d y=some n) (hd:d≤y):n≤y:=by
 cases x with
 | none=>simp only[Yu,Option.some.injEq]at hb;omega
 | some v=>obtain ⟨k,i,rfl,a,c,rfl⟩:=j1a hb;omega
theorem O7a (s:Sim ι h w) {id z:Nat} {e:Ent} (he:ι id=some e) (hf:C1a h id z=true):e.ro=false→e.esz=z:=by
 unfold C1a at hf
 split at hf
 ·rename_i cells esz ro hg
  obtain ⟨h1,h2,_⟩:=s.row he hg
  intro hro
  rw[h1]at hro
  subst hro
  simp only[Bool.false_or,beq_iff_eq]at hf
  omega
 ·cases hf
theorem g2a {id o l1 lb len' cap' z:Nat} {e:Ent} (he:ι id=some e) (hz:e.ro=false→e.esz=z) (len cap:Nat) (hl:len≤cap') (hx:cap=len→cap'=len) {a:Addr}
 (ha:0<cap'→a=⟨e.block,e.shift+(o+lb*z),none⟩) (hb:e.ro=false→0<cap'→e.shift+o+lb*z+cap'*z≤e.size) (_:l1=len') :
 VRel ι (.slice (some ⟨id,o+lb*z,none⟩) len cap) (.slice (some a) len cap'):=
 .slice he hl hx ha fun hro hpos=>by
  have:=hb hro hpos
  rw[hz hro]
  omega
theorem u9b {t:TypeId} {x x' v:Value} {lo lo' hi hi' mx mx':Option Value} (hd:Xw P t x lo hi mx h=some v) (s:Sim ι h w) (hx:VRel ι x x') (h1:x6a ι lo lo') (h2:x6a ι hi hi') (h3:x6a ι mx mx') :
 ∃ v',(Instr.sliceAt t x' lo' hi' mx').run P w=.ok v' w∧VRel ι v v':=by
 unfold Xw at hd
 split at hd
 ·rename_i str hu
  cases hx
  split at hd
  ·rename_i hb hbe
   obtain rfl:=j2a h3
   split at hd
   ·rename_i lb hlb
    cases hd
    refine ⟨.string (str.extract lb hb),?_,.string _⟩
    simp only[Instr.sliceAt,Instr.slice,Sem.run_bind,Zw hu,Result.andThen_ok]
    rw[if_neg (by simp)]
    simp only[Sem.run_bind]
    rw[w4a hbe hlb h1 h2 _ (Nat.le_refl _)]
    rfl
   ·cases hd
  ·cases hd
 ·rename_i e hu
  cases hx
  split at hd
  ·rename_i i hi'
   obtain rfl:=j2a h3
   split at hd
   ·rename_i hb hhb
    split at hd
    ·rename_i lb hlb
     cases hd
     have hble:hb≤0:=E1a hhb (Nat.le_refl _)
     have lble:lb≤hb:=E1a hlb (Nat.zero_le _)
     obtain rfl:hb=0:=by omega
     obtain rfl:lb=0:=by omega
     refine ⟨.slice none 0 0,?_,.snil⟩
     simp only[Instr.sliceAt,Instr.slice,Sem.run_bind,Zw hu,Result.andThen_ok]
     rw[w4a (b:=true) hhb hlb h1 h2 0 (Nat.le_refl _)]
     simp only[Result.andThen_ok,i0a hi',Sem.run_pure]
     rfl
    ·cases hd
   ·cases hd
  ·rename_i i vm hi'
   obtain ⟨vm',rfl,hvm⟩:=k2a h3
   split at hd
   ·rename_i m vh hm
    obtain ⟨vh',rfl,hvh⟩:=k2a h2
    split at hd
    ·rename_i hb hhb
     split at hd
     ·rename_i lb hlb
      cases hd
      have hmle:m≤0:=E1a hm (Nat.le_refl _)
      have hble:hb≤m:=E1a hhb (Nat.zero_le _)
      have lble:lb≤hb:=E1a hlb (Nat.zero_le _)
      obtain rfl:m=0:=by omega
      obtain rfl:hb=0:=by omega
      obtain rfl:lb=0:=by omega
      refine ⟨.slice none 0 0,?_,.snil⟩
      simp only[Instr.sliceAt,Instr.slice,Sem.run_bind,Zw hu,Result.andThen_ok]
      rw[O8a (b:=true) hm hhb hlb h1 hvh hvm 0 (Nat.le_refl _)]
      simp only[Result.andThen_ok,i0a hi',Sem.run_pure]
      rfl
     ·cases hd
    ·cases hd
   ·cases hd
  ·cases hd
 ·rename_i e id o len cap hu
  obtain ⟨en,a',cap',he,rfl,g1,g2,g3,g4⟩:=L3a hx
  split at hd
  ·rename_i i hi'
   split at hd
   ·rename_i hfit
    have hz:=O7a s he hfit.1
    split at hd
    ·obtain rfl:=j2a h3
     split at hd
     ·rename_i hb hhb
      split at hd
      ·rename_i lb hlb
       cases hd
       have hble:hb≤len:=E1a hhb (Nat.le_refl _)
       have lble:lb≤hb:=E1a hlb (Nat.zero_le _)
       refine ⟨.slice (if cap'=lb then some a' else (some a').map (·.add (lb*i.size))) (hb - lb) (cap' - lb),?_,?_⟩
       ·simp only[Instr.sliceAt,Instr.slice,Sem.run_bind,Zw hu,Result.andThen_ok]
        rw[w4a (b:=true) hhb hlb h1 h2 cap' g1]
        simp only[Result.andThen_ok,i0a hi',Sem.run_pure]
       ·by_cases hc:cap'=lb
        ·rw[if_pos hc]
         refine g2a he hz _ _ (by omega) (fun hh=>by omega) (fun hp=>by omega) (fun _ hp=>by omega) (rfl:(0:Nat)=0)
        ·rw[if_neg hc]
         have hpos:0<cap':=by omega
         rw[g3 hpos]
         simp only[Option.map_some,W1a]
         refine g2a he hz _ _ (by omega) (fun hh=>?_) (fun _=>by rw[Nat.add_assoc]) (fun hro _=>?_) (rfl:(0:Nat)=0)
         ·split at hh
          ·rename_i hcc;have:=g2 hcc.2;omega
          ·omega
         ·have:=g4 hro hpos
          rw[hz hro]at this
          have e1:(cap' - lb)*i.size+lb*i.size=cap'*i.size:=by rw[← Nat.add_mul];congr 1;omega
          omega
      ·cases hd
     ·cases hd
    ·rename_i vm m hm
     obtain ⟨vm',rfl,hvm⟩:=k2a h3
     split at hd
     ·rename_i vh
      obtain ⟨vh',rfl,hvh⟩:=k2a h2
      split at hd
      ·rename_i hb hhb
       split at hd
       ·rename_i lb hlb
        cases hd
        have hmle:m≤len:=E1a hm (Nat.le_refl _)
        have hble:hb≤m:=by
         obtain ⟨k,i,rfl,a,c,rfl⟩:=j1a hhb
         omega
        have lble:lb≤hb:=E1a hlb (Nat.zero_le _)
        refine ⟨.slice (if m=lb then some a' else (some a').map (·.add (lb*i.size))) (hb - lb) (m - lb),?_,?_⟩
        ·simp only[Instr.sliceAt,Instr.slice,Sem.run_bind,Zw hu,Result.andThen_ok]
         rw[O8a (b:=true) hm hhb hlb h1 hvh hvm cap' g1]
         simp only[Result.andThen_ok,i0a hi',Sem.run_pure]
        ·by_cases hc:m=lb
         ·rw[if_pos hc]
          refine g2a he hz _ _ (by omega) (fun hh=>by omega) (fun hp=>by omega) (fun _ hp=>by omega) (rfl:(0:Nat)=0)
         ·rw[if_neg hc]
          have hpos:0<cap':=by omega
          rw[g3 hpos]
          simp only[Option.map_some,W1a]
          refine g2a he hz _ _ (by omega) (fun hh=>?_) (fun _=>by rw[Nat.add_assoc]) (fun hro _=>?_) (rfl:(0:Nat)=0)
          ·split at hh
           ·omega
           ·omega
          ·have:=g4 hro hpos
           rw[hz hro]at this
           have e1:(m - lb)*i.size+lb*i.size=m*i.size:=by rw[← Nat.add_mul];congr 1;omega
           have e2:m*i.size≤cap'*i.size:=Nat.mul_le_mul_right _ (by omega)
           omega
       ·cases hd
      ·cases hd
     ·cases hd
    ·cases hd
   ·cases hd
  ·cases hd
 ·rename_i n e id o hu
  obtain ⟨en,he,rfl⟩:=f5a hx
  split at hd
  ·rename_i i hi'
   obtain rfl:=j2a h3
   split at hd
   ·rename_i hfit
    have hz:=O7a s he hfit.1
    split at hd
    ·rename_i hb hhb
     split at hd
     ·rename_i lb hlb
      cases hd
      have hble:hb≤n:=E1a hhb (Nat.le_refl _)
      have lble:lb≤hb:=E1a hlb (Nat.zero_le _)
      have hlen:en.ro=false→en.shift+(o+n*i.size)≤en.size:=by
       have hr:=hfit.2.2
       unfold X0c at hr
       split at hr
       ·rename_i cells esz ro hg
        obtain ⟨q1,q2,cur,ty,fz,q3,q4,q5⟩:=s.row he hg
        intro hro
        have:=(q5 (q1▸hro)).2.1
        have hr:=of_decide_eq_true hr
        omega
       ·cases hr
      refine ⟨.slice (some (if n=lb then ⟨en.block,en.shift+o,none⟩ else (⟨en.block,en.shift+o,none⟩:Addr).add (lb*i.size))) (hb - lb) (n - lb),?_,?_⟩
      ·simp only[Instr.sliceAt,Instr.sureAddr,Sem.run_bind,Zw hu,Result.andThen_ok,Sem.run_pure]
       rw[w4a (b:=false) hhb hlb h1 h2 n (Nat.le_refl _)]
       simp only[Result.andThen_ok,i0a hi']
      ·by_cases hc:n=lb
       ·rw[if_pos hc]
        refine g2a he hz _ _ (by omega) (fun hh=>by omega) (fun hp=>by omega) (fun _ hp=>by omega) (rfl:(0:Nat)=0)
       ·rw[if_neg hc]
        simp only[W1a]
        refine g2a he hz _ _ (by omega) (fun hh=>?_) (fun _=>by rw[Nat.add_assoc]) (fun hro _=>?_) (rfl:(0:Nat)=0)
        ·split at hh
         ·omega
         ·omega
        ·have:=hlen hro
         have e1:(n - lb)*i.size+lb*i.size=n*i.size:=by rw[← Nat.add_mul];congr 1;omega
         omega
     ·cases hd
    ·cases hd
   ·cases hd
  ·cases hd
 ·cases hd
end Go.D
namespace Go.D
variable {P:Program} {ι:Inj} {h:DHeap} {w:World}
theorem x4a {z n m:Nat} {x x':Value} {l:List Value} (hs:K0a z n x h=some l) (s:Sim ι h w) (hx:VRel ι x x') (hm:lenV x=some m) (hn:n≤m) :
 ∃ vs:List Value,(∀ w2:World,w2.heap=w.heap→(Builtin.firstCells z n x').run P w2=.ok vs.toArray w2)∧LRel ι l vs:=by
 unfold K0a at hs
 split at hs
 ·cases hs
  cases hx
  exact ⟨[],fun _ _=>rfl,.nil _⟩
 ·rename_i id o len cap
  obtain ⟨e,a',cap',he,rfl,g1,g2,g3,g4⟩:=L3a hx
  simp only[lenV,Option.some.injEq]at hm
  split at hs
  ·rename_i cells esz ro hg
   split at hs
   ·rename_i hle
    cases hs
    by_cases h0:n*z=0
    ·refine ⟨[],fun w2 _=>?_,by rw[h0];exact .nil _⟩
     simp only[Builtin.firstCells,h0,loadCells,loadCellsFrom,Sem.run_pure]
    ·have hn0:0<n:=by
      rcases Nat.eq_zero_or_pos n with hz | hz
      ·subst hz;simp at h0
      ·exact hz
     rw[g3 (by omega)]
     obtain ⟨vs,a,b⟩:=s.cells (P:=P) he hg hle
     exact ⟨vs,a,b⟩
   ·cases hs
  ·cases hs
 ·rename_i str
  split at hs
  case isFalse=>cases hs
  cases hs
  cases hx
  refine ⟨((str.extract 0 n).data.toList.map fun b=>.int .u8 b.toNat),fun w2 _=>?_,a1a ?_⟩
  ·simp only[Builtin.firstCells,Sem.run_pure]
   congr 1
   rw[← Array.toList_map,Array.toArray_toList]
  ·rw[List.all_eq_true]
   intro x hx
   rw[List.mem_map]at hx
   obtain ⟨b,_,rfl⟩:=hx
   rfl
 ·cases hs
theorem W7a {z n m:Nat} {x:Value} {l:List Value} (hs:K0a z n x h=some l) (hm:lenV x=some m) (hn:n≤m):l.length=n*z:=by
 unfold K0a at hs
 split at hs
 ·cases hs
  simp only[lenV,Option.some.injEq]at hm
  subst hm
  obtain rfl:n=0:=by omega
  simp
 ·split at hs
  ·split at hs
   ·cases hs
    simp
    omega
   ·cases hs
  ·cases hs
 ·rename_i str
  split at hs
  ·rename_i hz
   subst hz
   cases hs
   simp only[lenV,Option.some.injEq]at hm
   simp only[List.length_map,Array.length_toList,Nat.mul_one]
   have:(str.extract 0 n).size=n:=by rw[ByteArray.size_extract];omega
   exact this
  ·cases hs
 ·cases hs
theorem a0b {b:Nat} {ty:TypeId} {fz:Nat × Nat}:∀ (vs:List Value) (w:World) (cur:Array Value) (p k:Nat),w.heap[b]? = some (.cells cur ty fz)→(∀ i,i<cur.size→¬ (fz.1≤i∧i<fz.2)) →
 p+k+vs.length≤cur.size→vs.all Value.oneCell'=true →
 ∃ w1 cur1,(storeCells ⟨b,p,none⟩ vs k).run P w=.ok () w1∧w1.heap[b]? = some (.cells cur1 ty fz)∧cur1.size=cur.size∧(∀ j,j<p+k→cur1[j]? = cur[j]?)∧(∀ (j:Nat) v,vs[j]? = some v→cur1[p+k+j]? = some v) ∧
  (∀ g,g≠b→w1.heap[g]? = w.heap[g]?)∧w1.heap.size=w.heap.size∧w1.os=w.os∧w1.tape=w.tape∧w1.output=w.output∧w1.drawn=w.drawn
 | [],w,cur,p,k,hb,_,_,_=>⟨w,cur,rfl,hb,rfl,fun _ _=>rfl,fun j v hv=>by simp at hv,fun _ _=>rfl,rfl,rfl,rfl,rfl,rfl⟩
 | v :: vs,w,cur,p,k,hb,hfz,hlen,h1=>by
   simp only[List.length_cons]at hlen
   simp only[List.all_cons,Bool.and_eq_true]at h1
   have hlt:p+k<cur.size:=by omega
   have hcell:w.cell? ⟨b,p+k,none⟩=some cur[p+k]:=by simp[World.cell?,hb,hlt]
   have hfro:w.frozen? ⟨b,p+k,none⟩=false:=by
    have:=hfz (p+k) hlt
    simp only[World.frozen?,hb]
    rw[Bool.and_eq_false_iff]
    simp only[decide_eq_false_iff_not]
    omega
   have hblk:(w.setCell ⟨b,p+k,none⟩ v).heap[b]? = some (.cells (cur.setIfInBounds (p+k) v) ty fz):=by
    simp only[World.setCell,Array.getElem?_modify,if_true,hb]
    rfl
   obtain ⟨w1,cur1,r1,r2,r3,r4,r5,r6,r7,r8,r9,r10,r11⟩:=a0b vs (w.setCell ⟨b,p+k,none⟩ v) _ p (k+1) hblk (by simpa using hfz) (by simp;omega) h1.2
   refine ⟨w1,cur1,?_,r2,by simpa using r3,?_,?_,?_,by rw[r7];exact World.size_setCell _ _ _,r8,r9,r10,r11⟩
   ·simp only[storeCells,Sem.run_bind,W1a]
    rw[run_store P w _ v _ h1.1,hcell]
    simp only[hfro,if_false,Bool.false_eq_true,Result.andThen_ok]
    exact r1
   ·intro j hj
    rw[r4 j (by omega),Array.getElem?_setIfInBounds,if_neg (by omega)]
   ·intro j u hu
    cases j with
    | zero=>
      simp at hu
      subst hu
      rw[r4 (p+k+0) (by omega),Array.getElem?_setIfInBounds,if_pos (by omega)]
      simp[hlt]
    | succ j=>
      simp at hu
      have:=r5 j u hu
      rw[show p+k+(j+1)=p+(k+1)+j by omega]
      exact this
   ·intro g hg
    rw[r6 g hg]
    exact S2a w _ _ hg
theorem m1b:∀ (rounds newLen c:Nat),255≤newLen→c≤2*newLen→Builtin.growBy newLen rounds c≤2*newLen
 | 0,newLen,c,_,hc=>by simpa [Builtin.growBy] using hc
 | rounds+1,newLen,c,hn,hc=>by
   simp only[Builtin.growBy]
   split
   ·exact hc
   ·exact m1b rounds newLen _ hn (by omega)
theorem T9a {newLen oldCap:Nat} (hlt:oldCap<newLen):Builtin.nextslicecap newLen oldCap≤2*newLen:=by
 unfold Builtin.nextslicecap
 split
 ·omega
 ·split
  ·omega
  ·exact m1b _ _ _ (by omega) (by omega)
theorem g0b {ts:Array TypeId} {ty st e:TypeId} {i:TypeInfo} {z:Value} (hts:ts[0]? = some st) (hu:P.underlying st=some (.slice e)) (hi:P.info? e=some i) (hz:i.zero=some z) (hni:p6a P ts[1]? = true)
 {base:Option Addr} {len cap n:Nat} {x:Value} {old new:List Value} (hlen:Builtin.lenOf x=(Pure.pure n:Sem Nat)) (hnew:∀ n',(Builtin.firstCells i.size n x).run P { w with drawn:=n' }=.ok new.toArray { w with drawn:=n' })
 (hold:∀ n',(Builtin.firstCells i.size len (.slice base len cap)).run P { w with drawn:=n' }=.ok old.toArray { w with drawn:=n' }) (hcap:cap<len+n) (h47:(len+n)*i.bytes≤2 ^ 47) (hmax:len+n≤9223372036854775807) :
 ∃ newCap dr rest,(len+n≤newCap∧w.drawn≤dr)∧(Builtin.append_ ts ty #[.slice base len cap,x]).run P w =
  .ok (.slice (some ⟨w.heap.size,0,none⟩) (len+n) newCap) (({ w with drawn:=dr }:World).alloc (.cells (old.toArray++new.toArray++rest) e))∧rest.size=(newCap - (len+n))*z.cells.size:=by
 have hnc:=T9a hcap
 have hb48:¬ (Builtin.nextslicecap (len+n) cap*i.bytes > 2 ^ 48):=by
  have:=Nat.mul_le_mul_right i.bytes hnc
  have e1:2*(len+n)*i.bytes=2*((len+n)*i.bytes):=by rw[Nat.mul_assoc]
  omega
 refine ⟨Question.cut (.appendCap (len+n) cap e) (w.tape w.drawn (.appendCap (len+n) cap e)),w.drawn+1,
  Builtin.zeroCells z.cells (Question.cut (.appendCap (len+n) cap e) (w.tape w.drawn (.appendCap (len+n) cap e)) - (len+n)),⟨by simp[Question.cut],Nat.le_succ _⟩,?_,by simp[Builtin.zeroCells]⟩
 unfold Builtin.append_
 have a0:(#[Value.slice base len cap,x]:Array Value)[0]? = some (.slice base len cap):=rfl
 have a1:(#[Value.slice base len cap,x]:Array Value)[1]? = some x:=rfl
 simp only[hts,a0,a1,Sem.run_bind,Zw hu,i0a hi,Result.andThen_ok]
 have hmx:¬ (((len+n:Nat):Int) > IntKind.i64.max):=by
  simp[IntKind.max,IntKind.signed,IntKind.bits]
  omega
 have hno:¬ (len+n≤cap):=by omega
 unfold p6a at hni
 cases h1:ts[1]? with
 | none=>
   simp only[Sem.run_bind,Sem.run_pure,Result.andThen_ok,Bool.false_eq_true,if_false,hlen,hno,Bool.not_false,if_true,C2a hi,hmx,false_and,hb48,run_choose]
   simp only[Question.forced,Bool.false_eq_true,if_false,Result.andThen_ok,run_askRoom,hold,hnew,x0a hi hz,R1a]
 | some t1=>
   rw[h1]at hni
   simp only at hni
   cases hu1:P.underlying t1 with
   | none=>rw[hu1]at hni;cases hni
   | some d=>
     rw[hu1]at hni
     cases d
     case int k=>cases hni
     all_goals
      simp only[Sem.run_bind,Zw hu1,Sem.run_pure,Result.andThen_ok]
      simp only[Sem.run_bind,Sem.run_pure,Result.andThen_ok,Bool.false_eq_true,if_false,hlen,hno,Bool.not_false,if_true,C2a hi,hmx,false_and,hb48,run_choose]
      simp only[Question.forced,Bool.false_eq_true,if_false,Result.andThen_ok,run_askRoom,hold,hnew,x0a hi hz,R1a]
theorem J5a {ts:Array TypeId} {ty st e:TypeId} {i:TypeInfo} (hts:ts[0]? = some st) (hu:P.underlying st=some (.slice e)) (hi:P.info? e=some i) (hni:p6a P ts[1]? = true)
 {base:Option Addr} {len cap n:Nat} {x:Value} {new:List Value} {w1:World} (hlen:Builtin.lenOf x=(Pure.pure n:Sem Nat)) (hnew:(Builtin.firstCells i.size n x).run P w=.ok new.toArray w) (hcap:len+n≤cap)
 (hst:(match base with | some a=>storeCells (a.add (len*i.size)) new | none=>(Pure.pure ():Sem Unit)).run P w=.ok () w1) :
 (Builtin.append_ ts ty #[.slice base len cap,x]).run P w=.ok (.slice base (len+n) cap) w1:=by
 unfold Builtin.append_
 have a0:(#[Value.slice base len cap,x]:Array Value)[0]? = some (.slice base len cap):=rfl
 have a1:(#[Value.slice base len cap,x]:Array Value)[1]? = some x:=rfl
 simp only[hts,a0,a1,Sem.run_bind,Zw hu,i0a hi,Result.andThen_ok]
 unfold p6a at hni
 cases h1:ts[1]? with
 | none=>
   simp only[Sem.run_bind,Sem.run_pure,Result.andThen_ok,Bool.false_eq_true,if_false,hlen,hcap,Bool.not_false,if_true,hnew]
   cases base with
   | none=>simp only[Sem.run_pure,Result.ok.injEq,true_and]at hst ⊢;exact hst
   | some a=>simp only[Sem.run_bind,hst,Result.andThen_ok,Sem.run_pure]
 | some t1=>
   rw[h1]at hni
   simp only at hni
   cases hu1:P.underlying t1 with
   | none=>rw[hu1]at hni;cases hni
   | some d=>
     rw[hu1]at hni
     cases d
     case int k=>cases hni
     all_goals
      simp only[Sem.run_bind,Zw hu1,Sem.run_pure,Result.andThen_ok]
      simp only[Sem.run_bind,Sem.run_pure,Result.andThen_ok,Bool.false_eq_true,if_false,hlen,hcap,Bool.not_false,if_true,hnew]
      cases base with
      | none=>simp only[Sem.run_pure,Result.ok.injEq,true_and]at hst ⊢;exact hst
      | some a=>simp only[Sem.run_bind,hst,Result.andThen_ok,Sem.run_pure]
theorem Sim.kill (s:Sim ι h w) {id:Nat} {e:Ent} (he:ι id=some e) (hro:e.ro=false):Sim ι (h.set id .dead) w∧Step ι ι h (h.set id .dead) w w:=by
 refine ⟨⟨s.lt,s.blk,?_,?_,s.glob⟩,⟨Inj.le_refl _,fun a b c d=>(by rw[c]at d;cases d),Nat.le_refl _,rfl,rfl,rfl,rfl,Nat.le_refl _,fun _ _ _=>rfl,Nat.le_refl _⟩⟩
 ·intro id' e' h'
  simp only[DHeap.set]
  by_cases hid:id'=id
  ·subst hid
   rw[he]at h'
   cases h'
   exact ⟨.dead,if_pos rfl,hro⟩
  ·rw[if_neg hid]
   exact s.obj _ _ h'
 ·intro id1 id2 e1 e2 a b c d
  simp only[DHeap.set]
  by_cases h1:id1=id
  ·left;rw[if_pos h1]
  ·by_cases h2:id2=id
   ·right;left;rw[if_pos h2]
   ·rw[if_neg h1,if_neg h2];exact s.sep id1 id2 e1 e2 a b c d
theorem G0b (h:DHeap) (id:Nat) (o:DObj) (j:Nat):((h.set id .dead).push o).get j=if j=h.next then some o else if j=id then some .dead else h.get j:=rfl
theorem Sim.extend (s:Sim ι h w) {id o n:Nat} {e:Ent} (he:ι id=some e) {cells:List Value} {esz:Nat} (hg:h.get id=some (.row cells esz false)) (hn:o+n≤cells.length) {new new':List Value}
 (hl:LRel ι new new') (h1:new.all Value.oneCell'=true) (hroom:e.shift+o+n+new.length≤e.size) :
 ∃ ι' w1,(storeCells ⟨e.block,e.shift+o+n,none⟩ new').run P w=.ok () w1∧ι' h.next=some ⟨e.block,e.shift+o,esz,e.size,false⟩ ∧
  Sim ι' ((h.set id .dead).push (.row ((cells.drop o).take n++new) esz false)) w1∧Step ι ι' h ((h.set id .dead).push (.row ((cells.drop o).take n++new) esz false)) w w1:=by
 obtain ⟨hro,hez,cur,ty,fz,h3,h4,h5⟩:=s.row he hg
 obtain ⟨hsz,hlen,hfz⟩:=h5 rfl
 have h1':new'.all Value.oneCell'=true:=by
  rw[List.all_eq_true]
  intro v' hv'
  obtain ⟨j,hj⟩:=List.mem_iff_getElem?.1 hv'
  have hlt:j<new.length:=by rw[hl.1];exact (List.getElem?_eq_some_iff.1 hj).1
  rw[L8a (hl.2 j _ _ (List.getElem?_eq_getElem hlt) hj)]
  exact W0a h1 (List.getElem?_eq_getElem hlt)
 obtain ⟨w1,cur1,r1,r2,r3,r4,r5,r6,r7,r8,r9,r10,r11⟩:=a0b (P:=P) new' w cur (e.shift+o+n) 0 h3 (by rw[hsz];exact hfz) (by rw[hsz,← hl.1];exact hroom) h1'
 have hfr:ι h.next=none:=s.fresh
 have hle:ι.le (ι.upd h.next ⟨e.block,e.shift+o,esz,e.size,false⟩):=Inj.upd_le hfr
 have hidlt:=s.lt _ _ he
 refine ⟨ι.upd h.next ⟨e.block,e.shift+o,esz,e.size,false⟩,w1,r1,Inj.upd_same _ _ _,⟨?_,?_,?_,?_,?_⟩,⟨hle,?_,by simp[DHeap.push,DHeap.set],rfl,r8,r9,r10,by omega,?_,Nat.le_of_eq r11.symm⟩⟩
 ·intro id' x hx
  unfold Inj.upd at hx
  simp only[DHeap.push,DHeap.set]
  split at hx
  ·subst_vars;omega
  ·have:=s.lt _ _ hx;omega
 ·intro id' x hx
  unfold Inj.upd at hx
  rw[r7]
  split at hx
  ·cases hx;exact s.blk id e he
  ·exact s.blk _ _ hx
 ·intro id' x hx
  unfold Inj.upd at hx
  rw[G0b]
  split at hx
  ·rename_i hid
   subst hid
   cases hx
   refine ⟨.row ((cells.drop o).take n++new) esz false,if_pos rfl,rfl,rfl,cur1,ty,fz,r2,?_,fun _=>⟨by rw[r3];exact hsz,?_,hfz⟩⟩
   ·intro j v hv
    have htl:((cells.drop o).take n).length=n:=by simp;omega
    rw[List.getElem?_append,htl]at hv
    split at hv
    ·rename_i hjn
     rw[List.getElem?_take,if_pos hjn,List.getElem?_drop]at hv
     obtain ⟨v',a,b⟩:=h4 (o+j) v hv
     refine ⟨v',?_,b.mono hle⟩
     simp only
     rw[r4 (e.shift+o+j) (by omega),Nat.add_assoc]
     exact a
    ·rename_i hjn
     obtain ⟨v',a,b⟩:=hl.get hv
     refine ⟨v',?_,b.mono hle⟩
     have:=r5 _ _ a
     simp only
     rw[show e.shift+o+j=e.shift+o+n+0+(j - n) by omega]
     exact this
   ·simp
    omega
  ·rename_i hid
   rw[if_neg hid]
   by_cases hid2:id'=id
   ·subst hid2
    rw[he]at hx
    cases hx
    exact ⟨.dead,if_pos rfl,hro⟩
   ·rw[if_neg hid2]
    obtain ⟨y,a,b⟩:=s.obj _ _ hx
    by_cases hbl:x.block=e.block
    ·rcases s.sep id' id x e hx he hid2 hbl with hd | hd | hd
     ·rw[a]at hd;cases hd;exact ⟨_,a,b⟩
     ·rw[hg]at hd;cases hd
     ·rw[hro]at hd;cases hd.2
    ·exact ⟨y,a,b.mono hle (r6 _ hbl)⟩
 ·intro id1 id2 e1 e2 a b c d
  unfold Inj.upd at a b
  rw[G0b,G0b]
  have dead_or:∀ id' x,ι id'=some x→x.block=e.block→id'≠h.next→(if id'=h.next then some (DObj.row ((cells.drop o).take n++new) esz false) else if id'=id then some DObj.dead else h.get id')=some .dead:=by
   intro id' x hx hbl hne
   rw[if_neg hne]
   by_cases hid2:id'=id
   ·rw[if_pos hid2]
   ·rw[if_neg hid2]
    rcases s.sep id' id x e hx he hid2 hbl with hd | hd | hd
    ·exact hd
    ·rw[hg]at hd;cases hd
    ·rw[hro]at hd;cases hd.2
  split at a
  ·rename_i p1
   split at b
   ·rename_i p2;exact absurd (p1.trans p2.symm) c
   ·rename_i p2
    cases a
    exact .inr (.inl (dead_or _ _ b d.symm p2))
  ·rename_i p1
   split at b
   ·cases b
    exact .inl (dead_or _ _ a d p1)
   ·rename_i p2
    rw[if_neg p1,if_neg p2]
    by_cases q1:id1=id
    ·left;rw[if_pos q1]
    ·by_cases q2:id2=id
     ·right;left;rw[if_pos q2]
     ·rw[if_neg q1,if_neg q2];exact s.sep id1 id2 e1 e2 a b c d
 ·intro g hgl
  obtain ⟨x,a,b⟩:=s.glob g hgl
  exact ⟨x,hle _ _ a,b⟩
 ·intro id' x hx hno
  unfold Inj.upd at hx
  split at hx
  ·cases hx
   subst_vars
   exact ⟨Nat.le_refl _,.inr ⟨id,e,he,rfl,hro⟩⟩
  ·rw[hno]at hx;cases hx
 ·intro b hb hx
  refine r6 _ fun hbe=>?_
  have hy:=hx id e he hbe.symm
  rw[hro]at hy;cases hy
theorem G5a {x x':Value} {n:Nat} (hn:lenV x=some n) (hx:VRel ι x x'):Builtin.lenOf x'=(Pure.pure n:Sem Nat):=by
 cases hx <;> simp only[lenV,Option.some.injEq,reduceCtorEq]at hn <;> subst hn <;> rfl
theorem R6b {ts:Array TypeId} {ty:TypeId} {a a' x x' v:Value} {h':DHeap} (hd:u0a P ts a x h=some (v,h')) (s:Sim ι h w) (ha:VRel ι a a') (hx:VRel ι x x') :
 ∃ ι' w' v',(Builtin.append_ ts ty #[a',x']).run P w=.ok v' w'∧VRel ι' v v'∧Sim ι' h' w'∧Step ι ι' h h' w w':=by
 unfold u0a at hd
 split at hd
 ·cases hd
 ·rename_i st hts
  split at hd
  ·rename_i e hu
   split at hd
   ·rename_i i n hi hn
    have hlenOf:=G5a hn hx
    split at hd
    ·rename_i hc
     obtain ⟨hni,hs0⟩:=hc
     split at hd
     ·cases hd
     ·rename_i new hsrc
      obtain ⟨vs,hvr,hvl⟩:=x4a (P:=P) hsrc s hx hn (Nat.le_refl _)
      split at hd
      ·cases hd
      ·rename_i z hz
       split at hd
       ·cases hd
       ·rename_i hzn
        have hzs:z.cells.size=i.size:=by
         rcases Nat.decEq z.cells.size i.size with hne | he
         ·exact absurd (Or.inl hne) hzn
         ·exact he
        have h1c:new.all Value.oneCell'=true:=by
         cases hb:new.all Value.oneCell' with
         | true=>rfl
         | false=>exact absurd (Or.inr hb) hzn
        have hnl:new.length=n*i.size:=W7a hsrc hn (Nat.le_refl _)
        split at hd
        ·rename_i hn0
         subst hn0
         split at hd
         ·rename_i base len cap
          cases hd
          have hv0:vs=[]:=List.length_eq_zero_iff.1 (by rw[← hvl.1,hnl];simp)
          subst hv0
          have fin:∀ b' c',a'=.slice b' len c'→len≤c'→∃ ι' w' v',(Builtin.append_ ts ty #[a',x']).run P w=.ok v' w'∧VRel ι' (.slice base len cap) v'∧Sim ι' h w'∧Step ι ι' h h w w':=by
           rintro b' c' rfl hlc
           refine ⟨ι,w,_,J5a (ty:=ty) (w1:=w) hts hu hi hni hlenOf (hvr w rfl) (by omega) ?_,?_,s,Step.refl _ _ _⟩
           ·cases b' <;> rfl
           ·exact ha
          cases ha with
          | snil=>exact fin _ _ rfl (Nat.le_refl _)
          | slice g1 g2 g3 g4 g5=>exact fin _ _ rfl g2
         ·cases hd
        ·rename_i hn0
         have grow:∀ (base:Option Addr) (len cap:Nat) (old os:List Value) (h1:DHeap),h1.next=h.next→Sim ι h1 w→Step ι ι h h1 w w→(∀ w2:World,w2.heap=w.heap→(Builtin.firstCells i.size len (.slice base len cap)).run P w2=.ok os.toArray w2)→LRel ι old os →
          cap<len+n→(len+n)*i.bytes≤2 ^ 47→len+n≤9223372036854775807→old.length=len*i.size →
          ∃ ι' w' v',(Builtin.append_ ts ty #[.slice base len cap,x']).run P w=.ok v' w'∧VRel ι' (.slice (some ⟨h.next,0,none⟩) (len+n) (len+n+1)) v'∧Sim ι' (h1.push (.row (old++new) i.size false)) w' ∧
           Step ι ι' h (h1.push (.row (old++new) i.size false)) w w':=by
          intro base len cap old os h1 hnext s1 st1 hold hol hcap h47 hmax hlo
          obtain ⟨newCap,dr,rest,⟨hnc,hdr⟩,hrun,hrest⟩:=g0b (ty:=ty) hts hu hi hz hni hlenOf (fun n'=>hvr { w with drawn:=n' } rfl) (fun n'=>hold { w with drawn:=n' } rfl) hcap h47 hmax
          have hlr:LRel ι (old++new) (os++vs):=hol.append hvl
          have hlr2:LRel ι (old++new) ((os.toArray++vs.toArray++rest).toList.take (old++new).length):=by
           have e0:(os.toArray++vs.toArray++rest).toList=(os++vs)++rest.toList:=by simp
           rw[e0,hlr.1,List.take_left]
           exact hlr
          obtain ⟨ι',s2,st2,hid⟩:=(s1.drew dr).allocRow e i.size hlr2
          refine ⟨ι',_,_,hrun,?_,s2,st1.trans ((Step.drew ι h1 w dr hdr).trans st2)⟩
          rw[← hnext]
          refine .slice hid hnc (fun hh=>by omega) (fun _=>rfl) (fun _ _=>?_)
          have e1:os.length=len*i.size:=by rw[← hol.1];exact hlo
          have e2:vs.length=n*i.size:=by rw[← hvl.1];exact hnl
          have e3:(newCap - (len+n))*i.size+(len+n)*i.size=newCap*i.size:=by rw[← Nat.add_mul];congr 1;omega
          have e4:(len+n)*i.size=len*i.size+n*i.size:=Nat.add_mul _ _ _
          simp only[List.size_toArray,Array.size_append,hrest,hzs,e1,e2]
          omega
         split at hd
         ·split at hd
          ·rename_i hb
           cases hd
           cases ha
           obtain ⟨ι',w',v',r1,r2,r3,r4⟩:=grow none 0 0 [] [] h rfl s (Step.refl _ _ _) (fun w2 _=>rfl) (.nil _) (by omega) (by simpa using hb.1) (by simpa using hb.2) (by simp)
           simp only[Nat.zero_add]at r2
           exact ⟨ι',w',v',r1,r2,r3,r4⟩
          ·cases hd
         ·rename_i id o len cap
          obtain ⟨en,b',cap',he,rfl,g1,g2,g3,g4⟩:=L3a ha
          split at hd
          ·rename_i cells esz ro hg
           split at hd
           ·rename_i hb
            obtain ⟨hb1,hb2,hb3⟩:=hb
            have hso:K0a i.size len (.slice (some ⟨id,o,none⟩) len cap) h=some ((cells.drop o).take (len*i.size)):=by
             simp only[K0a,hg,if_pos hb1]
            obtain ⟨os,hor,hol⟩:=x4a (P:=P) hso s (.slice he g1 g2 g3 g4) rfl (Nat.le_refl _)
            have hlo:((cells.drop o).take (len*i.size)).length=len*i.size:=by simp;omega
            split at hd
            ·rename_i hcl
             cases hd
             have hc':=g2 hcl
             subst hc'
             exact grow (some b') cap' cap' _ os h rfl s (Step.refl _ _ _) hor hol (by omega) hb2 hb3 hlo
            ·split at hd
             ·rename_i hro
              obtain ⟨rfl,rfl⟩:=hro
              cases hd
              obtain ⟨q1,q2,cur,tyc,fz,q3,q4,q5⟩:=s.row he hg
              by_cases hroom:len+n≤cap'
              ·obtain rfl:=g3 (by omega)
               have hbound:=g4 q1 (by omega)
               rw[q2]at hbound
               have hmul:(len+n)*i.size≤cap'*i.size:=Nat.mul_le_mul_right _ hroom
               have e4:(len+n)*i.size=len*i.size+n*i.size:=Nat.add_mul _ _ _
               obtain ⟨ι',w1,r1,r2,r3,r4⟩:=s.extend (P:=P) he hg hb1 hvl h1c (by rw[hnl];omega)
               refine ⟨ι',w1,_,J5a (ty:=ty) hts hu hi hni hlenOf (hvr w rfl) hroom (by simp only[W1a];exact r1),?_,r3,r4⟩
               refine .slice r2 hroom (fun hh=>by omega) (fun _=>rfl) (fun _ _=>?_)
               simp only[Nat.add_zero]
               omega
              ·obtain ⟨s1,st1⟩:=s.kill he q1
               exact grow (some b') len cap' _ os (h.set id .dead) rfl s1 st1 hor hol (by omega) hb2 hb3 hlo
             ·cases hd
           ·cases hd
          ·cases hd
         ·cases hd
    ·cases hd
   ·cases hd
  ·cases hd
end Go.D
namespace Go.D
variable {P:Program} {ι:Inj} {h:DHeap} {w:World}
theorem B4a {s:Sem Value} {x:XW} {h h':DHeap} (hd:Xj P s h=.ok x h'):∃ v,x=.value v∧h'=h∧Yj v=true∧∀ w,s.run P w=.ok v w:=by
 unfold Xj at hd
 split at hd
 ·rename_i v hq
  split at hd
  ·rename_i hf
   cases hd
   exact ⟨v,rfl,rfl,hf,fun w=>r2a hq w⟩
  ·cases hd
 ·split at hd <;> cases hd
 ·cases hd
theorem n5a {s:Sem Value} {v:Value} {h h':DHeap} (hd:Xj P s h=.pan v h'):h'=h∧Yj v=true∧∀ w,s.run P w=.halt (.panic v) w:=by
 unfold Xj at hd
 split at hd
 ·split at hd <;> cases hd
 ·rename_i v hq
  split at hd
  ·rename_i hf
   cases hd
   exact ⟨rfl,hf,fun w=>T0c hq w⟩
  ·cases hd
 ·cases hd
theorem A2c {ts:Array TypeId} {ty:TypeId} {a a' x x' v:Value} {h':DHeap} (hd:f8a P ts a x h=some (v,h')) (s:Sim ι h w) (ha:VRel ι a a') (hx:VRel ι x x') :
 ∃ w' v',(Builtin.copy_ ts ty #[a',x']).run P w=.ok v' w'∧VRel ι v v'∧Sim ι h' w'∧Step ι ι h h' w w':=by
 unfold f8a at hd
 split at hd
 ·cases hd
 ·rename_i dt hts
  split at hd
  ·rename_i e hu
   have a0:∀ u:Value,(#[u,x']:Array Value)[0]? = some u:=fun _=>rfl
   have a1:∀ u:Value,(#[u,x']:Array Value)[1]? = some x':=fun _=>rfl
   split at hd
   ·rename_i i sn hi hsn
    cases ha
    split at hd
    ·rename_i new hsrc
     cases hd
     obtain ⟨vs,hr,hl⟩:=x4a (P:=P) hsrc s hx hsn (Nat.min_le_left _ _)
     refine ⟨w,goInt 0,?_,.int _ _,s,Step.refl _ _ _⟩
     have hm:Nat.min sn 0=0:=Nat.min_zero _
     rw[hm]at hr
     simp only[Builtin.copy_,hts,a0,a1,Sem.run_bind,Zw hu,Result.andThen_ok,G5a hsn hx,Sem.run_pure,hm,i0a hi,hr w rfl]
     rfl
    ·cases hd
   ·rename_i i sn id o len cap hi hsn
    obtain ⟨en,b',cap',he,rfl,g1,g2,g3,g4⟩:=L3a ha
    split at hd
    ·rename_i new cells esz hsrc hg
     split at hd
     ·rename_i hc
      cases hd
      obtain ⟨vs,hr,hl⟩:=x4a (P:=P) hsrc s hx hsn (Nat.min_le_left _ _)
      have hnl:=W7a hsrc hsn (Nat.min_le_left _ _)
      by_cases h0:new=[]
      ·subst h0
       have hv0:vs=[]:=List.length_eq_zero_iff.1 hl.1.symm
       subst hv0
       have hget:∀ j,(h.set id (.row (YZ cells o []) esz false)).get j=h.get j:=fun j=>by
        simp only[DHeap.set,YZ]
        split
        ·subst_vars;exact hg.symm
        ·rfl
       refine ⟨w,goInt (Nat.min sn len),?_,.int _ _,s.congr hget rfl rfl,⟨Inj.le_refl _,fun a b c d=>(by rw[c]at d;cases d),Nat.le_refl _,rfl,rfl,rfl,rfl,Nat.le_refl _,fun _ _ _=>rfl,Nat.le_refl _⟩⟩
       simp only[Builtin.copy_,hts,a0,a1,Sem.run_bind,Zw hu,Result.andThen_ok,G5a hsn hx,Sem.run_pure,i0a hi,hr w rfl]
       rfl
      ·have hpos:0<cap':=by
        have:new.length≠0:=fun hz=>h0 (List.length_eq_zero_iff.1 hz)
        rw[hnl]at this
        have h2:Nat.min sn len≠0:=fun hz=>this (by rw[hz];simp)
        have h3:Nat.min sn len≤len:=Nat.min_le_right _ _
        omega
       obtain rfl:=g3 hpos
       obtain ⟨w1,r1,r2,r3⟩:=Sim.stores (P:=P) he new vs h w cells o 0 s hg hl hc.2 (by simpa using hc.1)
       refine ⟨w1,goInt (Nat.min sn len),?_,.int _ _,r2,r3⟩
       simp only[Builtin.copy_,hts,a0,a1,Sem.run_bind,Zw hu,Result.andThen_ok,G5a hsn hx,Sem.run_pure,i0a hi,hr w rfl,r1]
     ·cases hd
    ·cases hd
   ·cases hd
  ·cases hd
theorem L6c {ts:Array TypeId} {ty:TypeId} {x x' v:Value} (hd:dLen P ts x h=some v) (s:Sim ι h w) (hx:VRel ι x x'):∃ v',(Builtin.len_ ts ty #[x']).run P w=.ok v' w∧VRel ι v v':=by
 unfold dLen at hd
 split at hd
 ·cases hd
 ·rename_i t hts
  have a0:(#[x']:Array Value)[0]? = some x':=rfl
  split at hd
  ·rename_i str hu
   cases hx
   cases hd
   refine ⟨_,?_,.int _ _⟩
   simp only[Builtin.len_,hts,a0,Sem.run_bind,Zw hu,Result.andThen_ok,Sem.run_pure,goInt]
  ·rename_i n e hu
   cases hd
   refine ⟨_,?_,.int _ _⟩
   simp only[Builtin.len_,hts,a0,Sem.run_bind,Zw hu,Result.andThen_ok,Sem.run_pure,goInt]
  ·rename_i e a n c hu
   cases hd
   cases hx
   all_goals
    refine ⟨_,?_,.int _ _⟩
    simp only[Builtin.len_,hts,a0,Sem.run_bind,Zw hu,Result.andThen_ok,Sem.run_pure,goInt]
  ·rename_i k e hu
   cases hx
   cases hd
   refine ⟨_,?_,.int _ _⟩
   simp only[Builtin.len_,hts,a0,Sem.run_bind,Zw hu,Result.andThen_ok,Sem.run_pure,goInt]
  ·rename_i k e r hu
   split at hd
   ·rename_i es clock hg
    cases hd
    cases hx with
    | map he hs=>
      obtain ⟨o,h1,h2⟩:=s.obj _ _ he
      rw[hg]at h1
      cases h1
      obtain ⟨_,_,es',h3,h4⟩:=h2
      refine ⟨_,?_,.int _ _⟩
      have hgo:∀ r,w.heap[r]? = some (.map es' clock)→(getObj r).run P w=.ok (.map es' clock) w:=fun r hr=>by
       simp[getObj,Sem.run,hr]
      simp only[Builtin.len_,hts,a0,Sem.run_bind,Zw hu,Result.andThen_ok,Sem.run_pure,hgo _ h3,goInt]
      rw[h4.1]
      simp
   ·cases hd
  ·cases hd
theorem h6a:∀ (l:List Value) (bs:List UInt8),y4a l=some bs→∃ ns:List Int,l=ns.map (Value.int .u8)∧bs=ns.map (fun n=>UInt8.ofNat n.toNat)
 | [],bs,hb=>by simp[y4a]at hb;subst hb;exact ⟨[],rfl,rfl⟩
 | .int .u8 n :: r,bs,hb=>by
   simp only[y4a,Option.map_eq_some_iff]at hb
   obtain ⟨bs',h1,rfl⟩:=hb
   obtain ⟨ns,rfl,rfl⟩:=h6a r bs' h1
   exact ⟨n :: ns,rfl,rfl⟩
theorem M9a:∀ (l:List Int) (r:ByteArray),l.foldl (fun r n=>r.push (UInt8.ofNat n.toNat)) r=⟨r.data++(l.map fun n=>UInt8.ofNat n.toNat).toArray⟩
 | [],r=>by simp
 | b :: l,r=>by
   simp only[List.foldl_cons]
   rw[M9a l]
   simp[ByteArray.push]
theorem I4b {src dst:TypeId} {x x':Value} {y:XW} {h':DHeap} (hd:V0a P src dst x h=.ok y h') (s:Sim ι h w) (hx:VRel ι x x') :
 ∃ ι' w' v v',y=.value v∧(convert src dst x').run P w=.ok v' w'∧VRel ι' v v'∧Sim ι' h' w'∧Step ι ι' h h' w w':=by
 unfold V0a at hd
 split at hd
 ·rename_i hf
  obtain rfl:=b1a hx hf
  split at hd
  ·rename_i e str hu
   split at hd
   ·rename_i hs he
    cases hd
    have hrun:=run_bytes_of_string (P:=P) w src dst e str hs hu he
    have hl:LRel ι (str.data.toList.map fun b=>Value.int .u8 b.toNat) ((bytesRow str (grownCap w str.size 0 e)).toList.take (str.data.toList.map fun b=>Value.int .u8 (b.toNat:Int)).length):=by
     have e1:(bytesRow str (grownCap w str.size 0 e)).toList=(str.data.toList.map fun b=>Value.int .u8 (b.toNat:Int))++List.replicate (grownCap w str.size 0 e - str.size) (.int .u8 0):=by
      simp[bytesRow]
     rw[e1,List.take_left]
     refine a1a ?_
     rw[List.all_eq_true]
     intro z hz
     rw[List.mem_map]at hz
     obtain ⟨b,_,rfl⟩:=hz
     rfl
    obtain ⟨ι',s',st,hid⟩:=(s.drew (w.drawn+1)).allocRowF e 1 ((bytesRow str (grownCap w str.size 0 e)).size,(bytesRow str (grownCap w str.size 0 e)).size+1) (fun i hi=>by simp;omega) hl
    refine ⟨ι',_,_,_,rfl,hrun,?_,s',(Step.drew ι h w (w.drawn+1) (Nat.le_succ _)).trans st⟩
    have hcap:str.size≤grownCap w str.size 0 e:=by simp[grownCap,Question.cut]
    have hsz:(bytesRow str (grownCap w str.size 0 e)).size=grownCap w str.size 0 e:=by
     have:str.data.size=str.size:=rfl
     simp[bytesRow,this]
     omega
    exact .slice hid hcap (fun hh=>by omega) (fun _=>rfl) (fun _ _=>by simp[hsz])
   ·cases hd
  ·obtain ⟨v,rfl,rfl,hv,hr⟩:=B4a hd
   exact ⟨ι,w,v,v,rfl,hr w,r0a ι hv,s,Step.refl _ _ _⟩
 ·split at hd
  ·rename_i e id o len cap hs hu hnf
   split at hd
   ·rename_i cells esz ro he hg
    split at hd
    ·rename_i hle
     split at hd
     ·rename_i bs hb
      cases hd
      obtain ⟨en,b',cap',hid,rfl,g1,g2,g3,g4⟩:=L3a hx
      obtain ⟨ns,h1,rfl⟩:=h6a _ _ hb
      have hns:ns.length=len:=by
       have:=congrArg List.length h1
       simp at this
       omega
      have hcells:(loadCells b' len).run P w=.ok (ns.map (Value.int .u8)).toArray w:=by
       by_cases h0:len=0
       ·subst h0
        have:ns=[]:=List.length_eq_zero_iff.1 hns
        subst this
        rfl
       ·obtain rfl:=g3 (by omega)
        obtain ⟨vs,hr,hl⟩:=s.cells (P:=P) hid hg hle
        rw[hr w rfl]
        congr 1
        rw[h1]at hl
        congr 1
        refine List.ext_getElem? fun j=>?_
        cases hj:(ns.map (Value.int .u8))[j]? with
        | none=>
          rw[List.getElem?_eq_none_iff]at hj ⊢
          rw[← hl.1];exact hj
        | some u=>
          obtain ⟨u',a,b⟩:=hl.get hj
          rw[a]
          rw[List.getElem?_map]at hj
          cases hn:ns[j]? with
          | none=>rw[hn]at hj;cases hj
          | some n=>rw[hn]at hj;cases hj;cases b;rfl
      refine ⟨ι,w,_,_,rfl,?_,.string _,s,Step.refl _ _ _⟩
      rw[run_convert_bytes_string w src dst e (some b') len cap' hs he hu,run_bytesToString w b' len cap' ns hcells,M9a]
      simp
     ·cases hd
    ·cases hd
   ·cases hd
  ·cases hd
theorem Y4b {d:TypeDesc} {t:TypeId} {x y x' y':Value} (hu:P.underlying t=some d) (hn:nilEq d x y=true) (hx:VRel ι x x') (hy:VRel ι y y') (n:Nat) (w:World) :
 (Op.equalIn (n+1) t x' y').run P w=.ok false w:=by
 unfold nilEq at hn
 split at hn <;> (try cases hn) <;> cases hx <;> cases hy <;> (rw[Op.equalIn];simp only[Sem.run_bind,Zw hu,Result.andThen_ok];rfl)
theorem z0c {d:TypeDesc} {t:TypeId} {x y x' y':Value} (hn:nilEq d x y=true) (hx:VRel ι x x') (hy:VRel ι y y') (ox oy:Operand) :
 (do eqGuard .eql t ox oy x' y';binOp .eql t x' y')=(do let b ← Op.equal t x' y';Pure.pure (.bool b)):=by
 unfold nilEq at hn
 split at hn <;> (try cases hn) <;> cases hx <;> cases hy <;> rfl
theorem A0c {d:TypeDesc} {t:TypeId} {x y x' y':Value} (hn:nilEq d x y=true) (hx:VRel ι x x') (hy:VRel ι y y') (ox oy:Operand) :
 (do eqGuard .neq t ox oy x' y';binOp .neq t x' y')=(do let b ← Op.equal t x' y';Pure.pure (.bool (!b))):=by
 unfold nilEq at hn
 split at hn <;> (try cases hn) <;> cases hx <;> cases hy <;> rfl
theorem B0c {d:TypeDesc} {t:TypeId} {x y x' y':Value} (hu:P.underlying t=some d) (hn:nilEq d x y=true) (hx:VRel ι x x') (hy:VRel ι y y') (op:BinOp) (ox oy:Operand) (w:World) :
 (op=.eql→(do eqGuard op t ox oy x' y';binOp op t x' y').run P w=.ok (.bool false) w)∧(op=.neq→(do eqGuard op t ox oy x' y';binOp op t x' y').run P w=.ok (.bool true) w):=by
 have h1:(Op.equal t x' y').run P w=.ok false w:=Y4b hu hn hx hy 9999 w
 constructor
 ·rintro rfl
  rw[z0c hn hx hy]
  simp only[Sem.run_bind,h1,Result.andThen_ok,Sem.run_pure]
 ·rintro rfl
  rw[A0c hn hx hy]
  simp only[Sem.run_bind,h1,Result.andThen_ok,Sem.run_pure,Bool.not_false]
theorem Y8b {op:BinOp} {t:TypeId} {ox oy:Operand} {x y x' y':Value} {z:XW} {h':DHeap} (hd:ZX P op t ox oy x y h=.ok z h') (hx:VRel ι x x') (hy:VRel ι y y') (w:World) :
 ∃ v v',z=.value v∧h'=h∧(do eqGuard op t ox oy x' y';binOp op t x' y').run P w=.ok v' w∧VRel ι v v':=by
 unfold ZX at hd
 split at hd
 ·rename_i hf
  rw[Bool.and_eq_true]at hf
  obtain rfl:=b1a hx hf.1
  obtain rfl:=b1a hy hf.2
  obtain ⟨v,rfl,rfl,hv,hr⟩:=B4a hd
  exact ⟨v,v,rfl,rfl,hr w,r0a ι hv⟩
 ·split at hd
  ·rename_i d hu
   split at hd
   ·rename_i hn
    have:=B0c hu hn hx hy op ox oy w
    split at hd
    ·cases hd;exact ⟨_,_,rfl,rfl,this.1 rfl,.bool _⟩
    ·cases hd;exact ⟨_,_,rfl,rfl,this.2 rfl,.bool _⟩
    ·cases hd
   ·cases hd
  ·cases hd
theorem S6b {op:BinOp} {t:TypeId} {ox oy:Operand} {x y x' y' v:Value} {h':DHeap} (hd:ZX P op t ox oy x y h=.pan v h') (hx:VRel ι x x') (hy:VRel ι y y') (w:World) :
 h'=h∧Yj v=true∧(do eqGuard op t ox oy x' y';binOp op t x' y').run P w=.halt (.panic v) w:=by
 unfold ZX at hd
 split at hd
 ·rename_i hf
  rw[Bool.and_eq_true]at hf
  obtain rfl:=b1a hx hf.1
  obtain rfl:=b1a hy hf.2
  obtain ⟨rfl,hv,hr⟩:=n5a hd
  exact ⟨rfl,hv,hr w⟩
 ·split at hd
  ·split at hd
   ·split at hd <;> cases hd
   ·cases hd
  ·cases hd
end Go.D
namespace Go.D
variable {P:Program} {ι:Inj} {h:DHeap} {w:World}
theorem Sim.putObj {ι:Inj} {h:DHeap} {w:World} (s:Sim ι h w) {id:Nat} {e:Ent} (he:ι id=some e) {o0 o:DObj} {c:Obj} (hg:h.get id=some o0) (hro:e.ro=false) (h0:o0≠.dead) (ho:ObjRel ι e o (w.putObj e.block c)) :
 Sim ι (h.set id o) (w.putObj e.block c)∧Step ι ι h (h.set id o) w (w.putObj e.block c):=by
 have hlt:=s.blk id e he
 refine ⟨⟨s.lt,fun i e' hi=>by rw[World.putObj_size];exact s.blk i e' hi,fun i e' hi=>?_,fun i j e1 e2 hi hj hne hb=>?_,s.glob⟩,?_⟩
 ·by_cases hid:i=id
  ·subst hid
   rw[he]at hi;cases hi
   exact ⟨o,by simp[DHeap.set],ho⟩
  ·obtain ⟨o',g1,g2⟩:=s.obj i e' hi
   refine ⟨o',by simp[DHeap.set,hid,g1],?_⟩
   by_cases hbb:e'.block=e.block
   ·rcases s.sep i id e' e hi he hid hbb with hd | hd | hd
    ·rw[hd]at g1;cases g1;exact g2
    ·rw[hg]at hd;cases hd;exact absurd rfl h0
    ·rw[hro]at hd;cases hd.2
   ·exact ObjRel.mono (Inj.le_refl _) (World.putObj_heap_other hbb) g2
 ·have:=s.sep i j e1 e2 hi hj hne hb
  by_cases hid:i=id
  ·subst hid
   rw[he]at hi;cases hi
   rcases this with hd | hd | hd
   ·rw[hg]at hd;cases hd;exact absurd rfl h0
   ·exact .inr (.inl (by simp[DHeap.set,Ne.symm hne,hd]))
   ·exact .inr (.inr hd)
  ·by_cases hjd:j=id
   ·subst hjd
    rw[he]at hj;cases hj
    rcases this with hd | hd | hd
    ·exact .inl (by simp[DHeap.set,hid,hd])
    ·rw[hg]at hd;cases hd;exact absurd rfl h0
    ·exact .inr (.inr hd)
   ·simpa [DHeap.set,hid,hjd] using this
 ·refine ⟨Inj.le_refl _,fun i e' a b=>absurd (a.symm.trans b) (by simp),Nat.le_refl _,rfl,rfl,rfl,rfl,by rw[World.putObj_size];exact Nat.le_refl _,fun b _ hb=>?_,Nat.le_refl _⟩
  refine World.putObj_heap_other fun hbe=>?_
  have hr:=hb id e he hbe.symm
  rw[hro]at hr;cases hr
theorem H8a {d:TypeDesc} {k:Value}:∀ {es es':List MapEntry} {i:Nat},ERel ι es es'→(∀ r,Instr.findNow d k es i=some r→∃ r',Instr.findNow d k es' i=some r'∧r'.map (·.1)=r.map (·.1)∧(∀ j v,r=some (j,v)→i≤j∧∃ e,es[j - i]? = some e∧e.val=v)∧∀ j v,r'=some (j,v)→i≤j∧∃ e,es'[j - i]? = some e∧e.val=v)∧(Instr.findNow d k es i=none→Instr.findNow d k es' i=none)
 | [],es',i,hr=>by
   have:es'=[]:=List.length_eq_zero_iff.1 hr.1.symm
   subst this
   refine ⟨fun r hh=>?_,fun hh=>by cases hh⟩
   cases hh
   exact ⟨none,rfl,rfl,fun j v hj=>(by cases hj),fun j v hj=>(by cases hj)⟩
 | e :: es,es',i,hr=>by
   cases es' with
   | nil=>cases hr.1
   | cons e' es'=>
     obtain ⟨k1,k2,k3⟩:=hr.2 0 e e' rfl rfl
     have hr':ERel ι es es':=⟨by simpa using hr.1,fun i a b x y=>hr.2 (i+1) a b (by simpa using x) (by simpa using y)⟩
     have ih:=H8a (d:=d) (k:=k) (i:=i+1) hr'
     simp only[Instr.findNow,k1]
     cases hs:Instr.sameNow d k e.key with
     | none=>exact ⟨fun r hh=>(by cases hh),fun _=>rfl⟩
     | some b=>
       cases b with
       | true=>
         refine ⟨fun r hh=>?_,fun hh=>by cases hh⟩
         cases hh
         refine ⟨_,rfl,rfl,fun j v hj=>?_,fun j v hj=>?_⟩
         ·cases hj
          exact ⟨Nat.le_refl _,e,by simp,rfl⟩
         ·cases hj
          exact ⟨Nat.le_refl _,e',by simp,rfl⟩
       | false=>
         refine ⟨fun r hh=>?_,ih.2⟩
         obtain ⟨r',a,b,c,d'⟩:=ih.1 r hh
         refine ⟨r',a,b,fun j v hj=>?_,fun j v hj=>?_⟩
         ·obtain ⟨x,e1,y,z⟩:=c j v hj
          exact ⟨by omega,e1,by rw[show j - i=(j - (i+1))+1 by omega];exact y,z⟩
         ·obtain ⟨x,e1,y,z⟩:=d' j v hj
          exact ⟨by omega,e1,by rw[show j - i=(j - (i+1))+1 by omega];exact y,z⟩
theorem g7a {kt:TypeId} {k:Value}:∀ {es es':List MapEntry} {i:Nat} {r:Option Nat},ERel ι es es'→l5a P kt k es i=some r →
 ∃ r',(∀ w,(Instr.findAsking kt k es' i).run P w=.ok r' w)∧r'.map (·.1)=r∧∀ j v,r'=some (j,v)→i≤j∧∃ e,es'[j - i]? = some e∧e.val=v
 | [],es',i,r,hr,hd=>by
   have:es'=[]:=List.length_eq_zero_iff.1 hr.1.symm
   subst this
   cases hd
   exact ⟨none,fun w=>rfl,rfl,fun j v hj=>(by cases hj)⟩
 | e :: es,es',i,r,hr,hd=>by
   cases es' with
   | nil=>cases hr.1
   | cons e' es'=>
     obtain ⟨k1,k2,k3⟩:=hr.2 0 e e' rfl rfl
     have hr':ERel ι es es':=⟨by simpa using hr.1,fun i a b x y=>hr.2 (i+1) a b (by simpa using x) (by simpa using y)⟩
     simp only[l5a]at hd
     split at hd
     ·rename_i hq
      cases hd
      refine ⟨some (i,e'.val),fun w=>?_,rfl,fun j v hj=>?_⟩
      ·simp only[Instr.findAsking,k1,Sem.run_bind,r2a hq,Result.andThen_ok,if_true,Sem.run_pure]
      ·cases hj
       exact ⟨Nat.le_refl _,e',by simp,rfl⟩
     ·rename_i hq
      obtain ⟨r',a,b,c⟩:=g7a (i:=i+1) hr' hd
      refine ⟨r',fun w=>?_,b,fun j v hj=>?_⟩
      ·simp only[Instr.findAsking,k1,Sem.run_bind,r2a hq,Result.andThen_ok,Bool.false_eq_true,if_false]
       exact a w
      ·obtain ⟨x,e1,y,z⟩:=c j v hj
       exact ⟨by omega,e1,by rw[show j - i=(j - (i+1))+1 by omega];exact y,z⟩
     ·cases hd
theorem Y2a {kt:TypeId} {k:Value} {es es':List MapEntry} {r:Option Nat} (hr:ERel ι es es') (hd:H1a P kt k es=some r) :
 ∃ r',(∀ w,(Instr.findKey kt k es').run P w=.ok r' w)∧r'.map (·.1)=r∧∀ j v,r'=some (j,v)→∃ e,es'[j]? = some e∧e.val=v:=by
 unfold H1a at hd
 cases hu:P.underlying kt with
 | none=>rw[hu]at hd;cases hd
 | some d=>
   rw[hu]at hd
   simp only at hd
   have hn:=H8a (d:=d) (k:=k) (i:=0) hr
   cases hf:Instr.findNow d k es 0 with
   | some r0=>
     rw[hf]at hd
     cases hd
     obtain ⟨r',a,b,_,c⟩:=hn.1 r0 hf
     refine ⟨r',fun w=>?_,b,fun j v hj=>?_⟩
     ·simp only[Instr.findKey,Sem.run_bind,Zw hu,Result.andThen_ok,a,Sem.run_pure]
     ·obtain ⟨_,e,y,z⟩:=c j v hj
      exact ⟨e,by simpa using y,z⟩
   | none=>
     rw[hf]at hd
     obtain ⟨r',a,b,c⟩:=g7a hr hd
     refine ⟨r',fun w=>?_,b,fun j v hj=>?_⟩
     ·simp only[Instr.findKey,Sem.run_bind,Zw hu,Result.andThen_ok,hn.2 hf]
      exact a w
     ·obtain ⟨_,e,y,z⟩:=c j v hj
      exact ⟨e,by simpa using y,z⟩
theorem p5b {t:TypeId} {z:Value} (hz:Y7a P t=some z):XY z=true∧∀ w,(zeroValue t).run P w=.ok z w:=by
 unfold Y7a at hz
 split at hz
 ·rename_i i hi
  split at hz
  ·rename_i z' hzz
   split at hz
   ·rename_i hf
    cases hz
    exact ⟨hf,x0a hi hzz⟩
   ·cases hz
  ·cases hz
 ·cases hz
theorem q3c {x x':Value} {es:List MapEntry} (hd:j6a x h=some es) (s:Sim ι h w) (hx:VRel ι x x') :
 ∃ es':Array MapEntry,ERel ι es es'.toList∧((x'=.map none∧es'=#[])∨∃ r c,x'=.map (some r)∧w.heap[r]? = some (.map es' c)):=by
 unfold j6a at hd
 split at hd
 ·cases hd
  cases hx
  exact ⟨#[],⟨rfl,fun i e e' a=>by simp at a⟩,.inl ⟨rfl,rfl⟩⟩
 ·rename_i r
  split at hd
  ·rename_i es0 clock hg
   cases hd
   cases hx with
   | map he hs=>
     obtain ⟨o,h1,h2⟩:=s.obj _ _ he
     rw[hg]at h1
     cases h1
     obtain ⟨_,_,es',h3,h4⟩:=h2
     exact ⟨es',h4,.inr ⟨_,_,rfl,h3⟩⟩
  ·cases hd
 ·cases hd
theorem y1a {r:Nat} {es:Array MapEntry} {c:Nat} (hr:w.heap[r]? = some (.map es c)):(getObj r).run P w=.ok (.map es c) w:=by simp[getObj,Sem.run,hr]
theorem X6b {t:TypeId} {x k x' k' v:Value} {ok:Bool} (hd:Q0a P t x k ok h=some v) (s:Sim ι h w) (hx:VRel ι x x') (hk:VRel ι k k') :
 ∃ v',(Instr.lookup t x' k' ok).run P w=.ok v' w∧VRel ι v v':=by
 unfold Q0a at hd
 split at hd
 ·rename_i kt et es hu hes
  split at hd
  ·rename_i hf
   obtain rfl:=b1a hk hf
   obtain ⟨es',hr,hcase⟩:=q3c hes s hx
   have hemp:es'.isEmpty=es.isEmpty:=by
    have:=hr.1
    cases es with
    | nil=>
      have h0:es'.toList=[]:=List.length_eq_zero_iff.1 this.symm
      have:es'=#[]:=by simpa using h0
      rw[this];rfl
    | cons e l=>
      have h0:es'.size=l.length+1:=by rw[← Array.length_toList,← this];rfl
      simp[Array.isEmpty,h0]
   split at hd
   ·rename_i u i hq hfi
    obtain ⟨r',a,b,c⟩:=Y2a hr hfi
    split at hd
    ·rename_i e he
     cases hd
     cases r' with
     | none=>cases b
     | some p=>
       obtain ⟨j,v'⟩:=p
       have hj:j=i:=by simpa using b
       subst hj
       obtain ⟨e',h1,h2⟩:=c j v' rfl
       obtain ⟨_,_,hv⟩:=hr.2 j e e' he h1
       rw[h2]at hv
       refine ⟨if ok then .tuple #[v',.bool true] else v',?_,?_⟩
       ·have hq':=r2a hq w
        have ha:=a w
        rw[← hemp]at hq'
        rcases hcase with ⟨rfl,rfl⟩ | ⟨r0,c0,rfl,hh⟩
        ·unfold Instr.lookup
         simp only[Sem.run_bind,Zw hu,Result.andThen_ok,Sem.run_pure,hq',ha]
        ·unfold Instr.lookup
         simp only[Sem.run_bind,Zw hu,Result.andThen_ok,Sem.run_pure,y1a hh,hq',ha]
       ·cases ok
        ·exact hv
        ·exact .tuple rfl fun i a b x y=>by
          match i with
          | 0=>simp at x y;subst x y;exact hv
          | 1=>simp at x y;subst x y;exact .bool _
          | i+2=>simp at x
    ·cases hd
   ·rename_i u hq hfi
    obtain ⟨r',a,b,c⟩:=Y2a hr hfi
    split at hd
    ·rename_i z hz
     cases hd
     obtain ⟨z1,z2⟩:=p5b hz
     cases r' with
     | some p=>cases b
     | none=>
       have hv:=F3a ι z1
       refine ⟨if ok then .tuple #[z,.bool false] else z,?_,?_⟩
       ·have hq':=r2a hq w
        have ha:=a w
        rw[← hemp]at hq'
        rcases hcase with ⟨rfl,rfl⟩ | ⟨r0,c0,rfl,hh⟩
        ·unfold Instr.lookup
         simp only[Sem.run_bind,Zw hu,Result.andThen_ok,Sem.run_pure,hq',ha,z2 w]
        ·unfold Instr.lookup
         simp only[Sem.run_bind,Zw hu,Result.andThen_ok,Sem.run_pure,y1a hh,hq',ha,z2 w]
       ·cases ok
        ·exact hv
        ·exact .tuple rfl fun i a b x y=>by
          match i with
          | 0=>simp at x y;subst x y;exact hv
          | 1=>simp at x y;subst x y;exact .bool _
          | i+2=>simp at x
    ·cases hd
   ·cases hd
  ·cases hd
 ·cases hd
theorem Y4a {r:Nat} {es:Array MapEntry} {c:Nat} {o:Obj} (hr:w.heap[r]? = some (.map es c)):(setObj r o).run P w=.ok () (w.putObj r o):=by
 simp[setObj,Sem.run,hr]
 rfl
theorem d7a {t:TypeId} {x k v x' k' v':Value} {h':DHeap} (hd:F0a P t x k v h=some h') (s:Sim ι h w) (hx:VRel ι x x') (hk:VRel ι k k') (hv:VRel ι v v') :
 ∃ w',(Instr.mapUpdate t x' k' v').run P w=.ok () w'∧Sim ι h' w'∧Step ι ι h h' w w':=by
 unfold F0a at hd
 split at hd
 ·rename_i kt et r hu
  split at hd
  ·rename_i es clock hg
   split at hd
   ·rename_i hf
    obtain rfl:=b1a hk hf
    cases hx with
    | @map _ ent he hs=>
      obtain ⟨o,h1,h2⟩:=s.obj _ _ he
      rw[hg]at h1
      cases h1
      obtain ⟨hsh,hro,es',h3,hr⟩:=h2
      split at hd
      ·rename_i u i hq hfi
       obtain ⟨r',a,b,c⟩:=Y2a hr hfi
       split at hd
       ·rename_i e hei
        split at hd
        ·rename_i hsb
         cases hd
         cases r' with
         | none=>cases b
         | some p=>
           obtain ⟨j,u'⟩:=p
           have hj:j=i:=by simpa using b
           subst hj
           obtain ⟨e',g1,_⟩:=c j u' rfl
           obtain ⟨k1,k2,_⟩:=hr.2 j e e' hei g1
           have ge:es'[j]? = some e':=by simpa using g1
           refine ⟨w.putObj ent.block (.map (es'.modify j fun e=>{ e with key:=k',val:=v' }) clock),?_,?_⟩
           ·unfold Instr.mapUpdate
            simp only[Sem.run_bind,Zw hu,Result.andThen_ok,y1a h3,r2a hq,a w,ge,Option.map_some,Option.getD_some,Instr.keyThatStays,k1,hsb,if_true,Sem.run_pure]
            exact Y4a h3
           ·refine s.putObj he hg hro (by simp) ⟨hsh,hro,_,World.putObj_heap_same (s.blk _ _ he),?_,fun i2 a2 b2 x2 y2=>?_⟩
            ·simp[hr.1]
            ·rw[List.getElem?_set]at x2
             rw[Array.getElem?_toList,Array.getElem?_modify]at y2
             by_cases hij:j=i2
             ·subst hij
              rw[if_pos rfl]at x2 y2
              rw[if_pos (List.getElem?_eq_some_iff.1 hei).1]at x2
              rw[ge]at y2
              cases x2
              cases y2
              exact ⟨rfl,k2,hv⟩
             ·rw[if_neg hij]at x2 y2
              exact hr.2 i2 a2 b2 x2 (by rw[Array.getElem?_toList];exact y2)
        ·cases hd
       ·cases hd
      ·rename_i u hq hfi
       obtain ⟨r',a,b,c⟩:=Y2a hr hfi
       cases hd
       cases r' with
       | some p=>cases b
       | none=>
         refine ⟨w.putObj ent.block (.map (es'.push { key:=k',val:=v',born:=clock }) (clock+1)),?_,?_⟩
         ·unfold Instr.mapUpdate
          simp only[Sem.run_bind,Zw hu,Result.andThen_ok,y1a h3,r2a hq,a w]
          exact Y4a h3
         ·refine s.putObj he hg hro (by simp) ⟨hsh,hro,_,World.putObj_heap_same (s.blk _ _ he),?_,fun i2 a2 b2 x2 y2=>?_⟩
          ·simp[hr.1]
          ·have hl:=hr.1
           rw[Array.getElem?_toList,Array.getElem?_push]at y2
           rw[List.getElem?_append]at x2
           have hl':es.length=es'.size:=by simpa using hl
           by_cases hi:i2<es.length
           ·rw[if_pos hi]at x2
            rw[if_neg (by omega)]at y2
            exact hr.2 i2 a2 b2 x2 (by rw[Array.getElem?_toList];exact y2)
           ·rw[if_neg hi]at x2
            by_cases hi2:i2=es'.size
            ·rw[if_pos hi2]at y2
             rw[show i2 - es.length=0 by omega]at x2
             cases x2
             cases y2
             exact ⟨rfl,rfl,hv⟩
            ·rw[List.getElem?_eq_none (by simp;omega)]at x2
             cases x2
      ·cases hd
   ·cases hd
  ·cases hd
 ·cases hd
theorem A7b {t:TypeId} (s:Sim ι h w):∃ ι' w' v',(Instr.makeMap t none).run P w=.ok v' w'∧VRel ι' (.map (some h.next)) v'∧Sim ι' (h.push (.map [] 0)) w'∧Step ι ι' h (h.push (.map [] 0)) w w':=by
 obtain ⟨s1,st⟩:=s.alloc (.map [] 0) (.map #[] 0) ⟨w.heap.size,0,0,0,false⟩ rfl ⟨rfl,rfl,#[],y2a _ _,rfl,fun i e e' a=>by simp at a⟩
 refine ⟨_,_,.map (some w.heap.size),?_,.map (Inj.upd_same _ _ _) rfl,s1,st⟩
 rfl
theorem a9b {ts:Array TypeId} {ty:TypeId} {x x' v:Value} {h':DHeap} (hd:j3a P ts x h=some (v,h')) (s:Sim ι h w) (hx:VRel ι x x') :
 ∃ w',(Builtin.clear_ ts ty #[x']).run P w=.ok v w'∧v=.tuple #[]∧Sim ι h' w'∧Step ι ι h h' w w':=by
 unfold j3a at hd
 split at hd
 ·cases hd
 ·rename_i t ht
  have a0:(#[x']:Array Value)[0]? = some x':=rfl
  split at hd
  ·rename_i e n c hu
   cases hd
   cases hx
   refine ⟨w,?_,rfl,s,Step.refl _ _ _⟩
   simp only[Builtin.clear_,ht,a0,Sem.run_bind,Zw hu,Result.andThen_ok,Sem.run_pure]
  ·rename_i e id o n c hu
   cases hx with
   | @slice _ _ _ _ cap' ent a' he hl hc ha hb=>
     split at hd
     ·rename_i hn
      cases hd
      subst hn
      refine ⟨w,?_,rfl,s,Step.refl _ _ _⟩
      simp only[Builtin.clear_,ht,a0,Sem.run_bind,Zw hu,Result.andThen_ok,Sem.run_pure]
     ·rename_i hn
      split at hd
      ·rename_i i hi
       split at hd
       ·rename_i z hz
        split at hd
        ·rename_i cells esz hg
         split at hd
         ·rename_i hc2
          cases hd
          obtain rfl:=ha (by omega)
          have hfl:=O4a hc2.1 (n*z.cells.size)
          have hone:(j0a z.cells (n*z.cells.size)).toList.all Value.oneCell'=true:=by
           rw[List.all_eq_true]
           intro y hy
           have:=List.all_eq_true.1 hfl y hy
           unfold Yw at this
           split at this <;> first | rfl | cases this
          have hlen:(j0a z.cells (n*z.cells.size)).toList.length=n*z.cells.size:=by simp[j0a]
          obtain ⟨w1,r1,s1,st1⟩:=Sim.stores (P:=P) he (j0a z.cells (n*z.cells.size)).toList (j0a z.cells (n*z.cells.size)).toList h w cells o 0 s hg (a1a hfl) hone (by rw[hlen];omega)
          refine ⟨w1,?_,rfl,s1,st1⟩
          have hzc:Builtin.zeroCells z.cells n=j0a z.cells (n*z.cells.size):=rfl
          simp only[Builtin.clear_,ht,a0,Sem.run_bind,Zw hu,Result.andThen_ok,x0a hi hz,hzc]
          obtain ⟨n',rfl⟩:∃ n',n=n'+1:=⟨n - 1,by omega⟩
          simp only[Sem.run_bind,x0a hi hz,Result.andThen_ok,hzc,r1,Sem.run_pure]
         ·cases hd
        ·cases hd
       ·cases hd
      ·cases hd
  ·cases hd
theorem W6b {ts:Array TypeId} {ty:TypeId} {x k x' k' v:Value} {h':DHeap} (hd:V2a P ts x k h=some (v,h')) (s:Sim ι h w) (hx:VRel ι x x') (hk:VRel ι k k') :
 ∃ w',(Builtin.delete_ ts ty #[x',k']).run P w=.ok v w'∧v=.tuple #[]∧Sim ι h' w'∧Step ι ι h h' w w':=by
 unfold V2a at hd
 split at hd
 ·cases hd
 ·rename_i t ht
  have a0:(#[x',k']:Array Value)[0]? = some x':=rfl
  have a1:(#[x',k']:Array Value)[1]? = some k':=rfl
  split at hd
  ·rename_i kt et r hu
   split at hd
   ·rename_i es clock hg
    split at hd
    ·rename_i hf
     obtain rfl:=b1a hk hf
     cases hx with
     | @map _ ent he hs=>
       obtain ⟨o,h1,h2⟩:=s.obj _ _ he
       rw[hg]at h1
       cases h1
       obtain ⟨hsh,hro,es',h3,hr⟩:=h2
       have hemp:es'.isEmpty=es.isEmpty:=by
        have:=hr.1
        cases es with
        | nil=>
          have h0:es'.toList=[]:=List.length_eq_zero_iff.1 this.symm
          have:es'=#[]:=by simpa using h0
          rw[this];rfl
        | cons e l=>
          have h0:es'.size=l.length+1:=by rw[← Array.length_toList,← this];rfl
          simp[Array.isEmpty,h0]
       split at hd
       ·rename_i u i hq hfi
        obtain ⟨r',a,b,c⟩:=Y2a hr hfi
        cases hd
        cases r' with
        | none=>cases b
        | some p=>
          obtain ⟨j,u'⟩:=p
          have hj:j=i:=by simpa using b
          subst hj
          have hq':=r2a hq w
          rw[← hemp]at hq'
          refine ⟨w.putObj ent.block (.map (es'.eraseIdxIfInBounds j) clock),?_,rfl,?_⟩
          ·simp only[Builtin.delete_,ht,a0,a1,Sem.run_bind,Zw hu,Result.andThen_ok,y1a h3,hq',a w,Y4a h3,Sem.run_pure]
          ·have hl:=hr.1
           refine s.putObj he hg hro (by simp) ⟨hsh,hro,_,World.putObj_heap_same (s.blk _ _ he),?_,fun i2 a2 b2 x2 y2=>?_⟩
           ·rw[Array.toList_eraseIdxIfInBounds,List.length_eraseIdx,List.length_eraseIdx,hl]
           ·rw[Array.toList_eraseIdxIfInBounds,List.getElem?_eraseIdx]at y2
            rw[List.getElem?_eraseIdx]at x2
            split at x2
            ·rename_i hlt
             rw[if_pos hlt]at y2
             exact hr.2 _ _ _ x2 y2
            ·rename_i hlt
             rw[if_neg hlt]at y2
             exact hr.2 _ _ _ x2 y2
       ·rename_i u hq hfi
        obtain ⟨r',a,b,c⟩:=Y2a hr hfi
        cases hd
        cases r' with
        | some p=>cases b
        | none=>
          have hq':=r2a hq w
          rw[← hemp]at hq'
          refine ⟨w.putObj ent.block (.map es' clock),?_,rfl,?_⟩
          ·simp only[Builtin.delete_,ht,a0,a1,Sem.run_bind,Zw hu,Result.andThen_ok,y1a h3,hq',a w,Y4a h3,Sem.run_pure]
          ·exact s.putObj he hg hro (by simp) ⟨hsh,hro,_,World.putObj_heap_same (s.blk _ _ he),hr⟩
       ·cases hd
    ·cases hd
   ·cases hd
  ·cases hd
theorem t9b {t:TypeId} {x x' v:Value} {h':DHeap} (hd:S3a P t x h=some (v,h')) (s:Sim ι h w) (hx:VRel ι x x') :
 ∃ ι' w' v',(Instr.range t x').run P w=.ok v' w'∧VRel ι' v v'∧Sim ι' h' w'∧Step ι ι' h h' w w':=by
 unfold S3a at hd
 split at hd
 ·rename_i hu
  cases hd
  cases hx
  obtain ⟨s1,st⟩:=s.alloc (.iter none 0 [] 0) (.mapIter none 0 #[] 0) ⟨w.heap.size,0,0,0,false⟩ rfl ⟨rfl,rfl,none,y2a _ _,trivial⟩
  refine ⟨_,_,.pointer (some ⟨w.heap.size,0,none⟩),?_,.ptr (Inj.upd_same _ _ _),s1,st⟩
  simp only[Instr.range,Sem.run_bind,Zw hu,Result.andThen_ok,Sem.run_pure]
  rfl
 ·rename_i kt et id hu
  split at hd
  ·rename_i es clock hg
   cases hd
   cases hx with
   | @map _ e he hs=>
     obtain ⟨o,g1,g2⟩:=s.obj _ _ he
     rw[hg]at g1
     cases g1
     obtain ⟨a1,a2,es',a3,a4⟩:=g2
     have hlt:e.block<w.heap.size:=s.blk _ _ he
     obtain ⟨s1,st⟩:=s.alloc (.iter (some id) clock [] clock) (.mapIter (some e.block) clock #[] clock) ⟨w.heap.size,0,0,0,false⟩ rfl ⟨rfl,rfl,some e.block,y2a _ _,e,Inj.upd_le s.fresh _ _ he,hs,rfl⟩
     refine ⟨_,_,.pointer (some ⟨w.heap.size,0,none⟩),?_,.ptr (Inj.upd_same _ _ _),s1,st⟩
     simp only[Instr.range,Sem.run_bind,Zw hu,Result.andThen_ok,y1a a3,Sem.run_pure]
     rfl
  ·cases hd
 ·cases hd
theorem ERel.mem' {es es':List MapEntry} (hr:ERel ι es es') {e':MapEntry} (h:e'∈es'):∃ e∈es,e'.key=e.key∧e'.born=e.born∧VRel ι e.val e'.val:=by
 obtain ⟨i,hi⟩:=List.getElem?_of_mem h
 have hlt:i<es.length:=by rw[hr.1];exact (List.getElem?_eq_some_iff.1 hi).1
 exact ⟨es[i],List.getElem_mem hlt,hr.2 i _ _ (List.getElem?_eq_getElem hlt) hi⟩
theorem ERel.mem {es es':List MapEntry} (hr:ERel ι es es') {e:MapEntry} (h:e∈es):∃ e'∈es',e'.key=e.key∧e'.born=e.born∧VRel ι e.val e'.val:=by
 obtain ⟨i,hi⟩:=List.getElem?_of_mem h
 have hlt:i<es'.length:=by rw[← hr.1];exact (List.getElem?_eq_some_iff.1 hi).1
 exact ⟨es'[i],List.getElem_mem hlt,hr.2 i _ _ hi (List.getElem?_eq_getElem hlt)⟩
theorem Sim.deadAt (s:Sim ι h w) {r:Nat} {e:Ent} (he:ι r=some e) (hro:e.ro=false):Sim ι (h.set r .dead) w:=by
 refine ⟨s.lt,s.blk,fun id e' h1=>?_,fun id id' e1 e2 h1 h2 hne hb=>?_,s.glob⟩
 ·by_cases hid:id=r
  ·subst hid
   rw[he]at h1
   cases h1
   exact ⟨.dead,by simp[DHeap.set],hro⟩
  ·obtain ⟨o,g1,g2⟩:=s.obj id e' h1
   exact ⟨o,by simpa [DHeap.set,hid] using g1,g2⟩
 ·rcases s.sep id id' e1 e2 h1 h2 hne hb with h | h | h
  ·left
   by_cases hid:id=r
   ·simp[DHeap.set,hid]
   ·simpa [DHeap.set,hid] using h
  ·right;left
   by_cases hid:id'=r
   ·simp[DHeap.set,hid]
   ·simpa [DHeap.set,hid] using h
  ·exact .inr (.inr h)
theorem c6a {r:Nat} {m:Option Nat} {a b:Nat} {q:Array Nat} (hr:w.heap[r]? = some (.mapIter m a q b)):(getObj r).run P w=.ok (.mapIter m a q b) w:=by simp[getObj,Sem.run,hr]
theorem f5b {r:Nat} {m:Option Nat} {a b:Nat} {q:Array Nat} {o:Obj} (hr:w.heap[r]? = some (.mapIter m a q b)):(setObj r o).run P w=.ok () (w.putObj r o):=by
 simp[setObj,Sem.run,hr]
 rfl
theorem run_choose (n:Nat) (hn:0<n) (w:World):∃ k n',k<n∧w.drawn≤n'∧(choose (.mapNext n)).run P w=.ok k { w with drawn:=n' }:=by
 by_cases h:n≤1
 ·refine ⟨0,w.drawn,hn,Nat.le_refl _,?_⟩
  simp[choose,Sem.run,Question.forced,h]
 ·refine ⟨w.tape w.drawn (.mapNext n) % n,w.drawn+1,Nat.mod_lt _ hn,Nat.le_succ _,?_⟩
  simp[choose,Sem.run,Question.forced,h,Question.cut]
theorem ERel.find {q:Nat}:∀ {es es':List MapEntry},ERel ι es es'→∀ {e},es.find? (fun e=>e.born==q)=some e→∃ e',es'.find? (fun e=>e.born==q)=some e'∧e'.key=e.key∧VRel ι e.val e'.val
 | [],_,_,e,h=>by cases h
 | a :: es,[],hr,e,h=>by have:=hr.1;simp at this
 | a :: es,a' :: es',hr,e,h=>by
   obtain ⟨h1,h2,h3⟩:=hr.2 0 a a' rfl rfl
   have hr':ERel ι es es':=⟨by simpa using hr.1,fun i x y hx hy=>hr.2 (i+1) x y hx hy⟩
   rw[List.find?_cons]at h ⊢
   rw[h2]
   cases hq:(a.born==q) with
   | true=>rw[hq]at h;cases h;exact ⟨a',rfl,h1,h3⟩
   | false=>rw[hq]at h;exact ERel.find hr' h
theorem c9b {x x' v:Value} (hd:k5a x h=some v) (s:Sim ι h w) (hx:VRel ι x x') :
 ∃ v',(Instr.entry x').run P w=.ok v' w∧VRel ι v v':=by
 unfold k5a at hd
 split at hd
 rotate_left
 ·cases hd
 rename_i r
 cases hx with
 | @ptr _ _ er her=>
 split at hd
 rotate_left
 ·cases hd
 rename_i id since seen last hg
 split at hd
 rotate_left
 ·cases hd
 rename_i b es clock hb hg2
 split at hd
 rotate_left
 ·cases hd
 rename_i hcl
 split at hd
 rotate_left
 ·cases hd
 rename_i e hf
 split at hd
 rotate_left
 ·cases hd
 rename_i hfl
 cases hd
 obtain ⟨o,g1,g2⟩:=s.obj _ _ her
 rw[hg]at g1
 cases g1
 obtain ⟨a1,a2,m',a3,a4⟩:=g2
 cases m' with
 | none=>exact a4.elim
 | some bm=>
 obtain ⟨em,m1,m2,rfl⟩:=a4
 obtain ⟨o,g1,g2⟩:=s.obj _ _ m1
 rw[hg2]at g1
 cases g1
 obtain ⟨_,_,es',c3,hr⟩:=g2
 have hz:er.shift+0=0:=by omega
 rw[hz]
 obtain ⟨e',f1,f2,f3⟩:=hr.find hf
 have hfa:es'.find? (fun e=>e.born==b)=some e':=by rw[← Array.find?_toList];exact f1
 have hba:seen.toArray.back? = some b:=by simpa using hb
 have hcl':(clock != last)=false:=by simp[hcl]
 refine ⟨.tuple #[e'.key,e'.val],?_,.tuple rfl fun i a c x y=>?_⟩
 ·simp only[Instr.entry,Sem.run_bind,c6a a3,Result.andThen_ok,hba,y1a c3,hcl',Bool.false_eq_true,if_false,hfa,Sem.run_pure]
 ·match i with
  | 0=>cases x;cases y;rw[f2];exact r0a ι hfl
  | 1=>cases x;cases y;exact f3
  | i+2=>simp at x
theorem d3b {x x':Value} {l:List (Value × DHeap)} {h':DHeap} (hd:s4a x h=some (l,h')) (s:Sim ι h w) (hx:VRel ι x x') (ty:TypeId) :
 ∃ w1 v1 p,(Instr.next x' false ty).run P w=.ok v1 w1∧p∈l∧VRel ι p.1 v1∧Sim ι p.2 w1∧Step ι ι h p.2 w w1∧Sim ι h' w1∧Step ι ι h h' w w1:=by
 unfold s4a at hd
 split at hd
 rotate_left
 ·cases hd
 rename_i r
 cases hx with
 | @ptr _ _ er her=>
 split at hd
 ·
  rename_i since seen last hg
  cases hd
  obtain ⟨o,g1,g2⟩:=s.obj _ _ her
  rw[hg]at g1
  cases g1
  obtain ⟨a1,a2,m',a3,a4⟩:=g2
  cases m' with
  | some _=>exact a4.elim
  | none=>
    refine ⟨w,.tuple #[.bool false],_,?_,List.mem_singleton.2 rfl,r0a ι rfl,s,Step.refl _ _ _,s.deadAt her a2,⟨Inj.le_refl _,fun id e h1 h2=>(by rw[h1]at h2;cases h2),Nat.le_refl _,rfl,rfl,rfl,rfl,Nat.le_refl _,fun _ _ _=>rfl,Nat.le_refl _⟩⟩
    have hz:er.shift+0=0:=by omega
    rw[hz]
    simp only[Instr.next,Sem.run_bind,c6a a3,Result.andThen_ok,Sem.run_pure]
 ·rename_i id since seen last hg
  split at hd
  ·rename_i es clock hg2
   split at hd
   ·cases hd
   ·rename_i hif
    cases hd
    obtain ⟨o,g1,g2⟩:=s.obj _ _ her
    rw[hg]at g1
    cases g1
    obtain ⟨a1,a2,m',a3,a4⟩:=g2
    cases m' with
    | none=>exact a4.elim
    | some bm=>
    obtain ⟨em,m1,m2,rfl⟩:=a4
    obtain ⟨o,g1,g2⟩:=s.obj _ _ m1
    rw[hg2]at g1
    cases g1
    obtain ⟨_,_,es',c3,hr⟩:=g2
    have hz:er.shift+0=0:=by omega
    rw[hz]
    have hall:es'.all (fun e=>decide (e.born ≥ last))=es.all fun e=>decide (e.born ≥ last):=by
     rw[Bool.eq_iff_iff,Array.all_eq_true_iff_forall_mem,List.all_eq_true]
     constructor
     ·intro h e he
      obtain ⟨e',h1,_,h2,_⟩:=hr.mem he
      rw[← h2]
      exact h e' (by simpa using h1)
     ·intro h e' he
      obtain ⟨e,h1,_,h2,_⟩:=hr.mem' (by simpa using he)
      rw[h2]
      exact h e h1
    have hemp:es'.isEmpty=es.isEmpty:=by
     have h1:=hr.1
     rw[Bool.eq_iff_iff,Array.isEmpty_iff_size_eq_zero,List.isEmpty_iff_length_eq_zero,h1,Array.length_toList]
    have hc1:(!seen.toArray.isEmpty&&!es'.isEmpty&&es'.all fun e=>decide (e.born ≥ last))=false:=by
     rw[hall,hemp]
     have:seen.toArray.isEmpty=seen.isEmpty:=by simp
     rw[this]
     cases hq:(!seen.isEmpty&&!es.isEmpty&&es.all fun e=>decide (e.born ≥ last)) with
     | false=>rfl
     | true=>exact absurd (by rw[hq];rfl) hif
    have hkeys:∀ e∈es,Yj e.key=true:=by
     cases hq:es.all fun e=>Yj e.key with
     | true=>exact List.all_eq_true.1 hq
     | false=>exact absurd (by rw[hq];simp) hif
    obtain ⟨old',hold⟩:∃ o,o=(es'.filter fun e=>!seen.toArray.contains e.born).filter fun e=>decide (e.born<since):=⟨_,rfl⟩
    obtain ⟨new',hnew⟩:∃ o,o=(es'.filter fun e=>!seen.toArray.contains e.born).filter fun e=>decide (e.born ≥ since):=⟨_,rfl⟩
    have hcont:∀ n,seen.toArray.contains n=seen.contains n:=fun n=>by simp
    have oldm:∀ e',e'∈old'↔e'∈es'.toList∧seen.contains e'.born=false∧e'.born<since:=fun e'=>by
     rw[hold];simp[and_assoc,and_comm]
    have newm:∀ e',e'∈new'↔e'∈es'.toList∧seen.contains e'.born=false∧e'.born ≥ since:=fun e'=>by
     rw[hnew];simp[and_assoc,and_comm]
    obtain ⟨cand,hcand⟩:∃ c:Array (Option MapEntry),c=(if old'.isEmpty then #[none] else #[])++(old'++new').map some:=⟨_,rfl⟩
    have hpos:0<cand.size:=by
     rw[hcand]
     cases hq:old'.isEmpty with
     | true=>simp;omega
     | false=>
       have:old'.size≠0:=fun h=>by rw[Array.isEmpty_iff_size_eq_zero.2 h]at hq;cases hq
       simp
       omega
    obtain ⟨k,n',hk,hn',hch⟩:=run_choose (P:=P) cand.size hpos w
    have hrun:∀ (X:World→Result Value),(∀ c,cand[k]? = some c→(match c with
     | some e=>(do setObj er.block (.mapIter (some em.block) since (seen.toArray.push e.born) clock);pure (.tuple #[.bool true,e.key,e.val]):Sem Value).run P { w with drawn:=n' }
     | none=>(.ok (.tuple #[.bool false]) { w with drawn:=n' }))=X { w with drawn:=n' })→(Instr.next (.pointer (some ⟨er.block,0,none⟩)) false ty).run P w=X { w with drawn:=n' }:=by
     intro X hX
     have hck:=hX cand[k] (Array.getElem?_eq_getElem hk)
     simp only[Instr.next,Sem.run_bind,c6a a3,Result.andThen_ok,y1a c3,hc1,Bool.false_eq_true,if_false,Sem.run_pure]
     rw[← hold,← hnew,← hcand,hch]
     simp only[Result.andThen_ok,Array.getElem?_eq_getElem hk]
     rw[← hck]
     cases cand[k] <;> rfl
    have sd:=s.drew n'
    have std:=Step.drew ι h w n' hn'
    cases hc:cand[k] with
    | none=>
      have hck:cand[k]? = some none:=by rw[Array.getElem?_eq_getElem hk,hc]
      have hoe:old'.isEmpty=true:=by
       cases hq:old'.isEmpty with
       | true=>rfl
       | false=>
         exfalso
         have hm:(none:Option MapEntry)∈cand:=by rw[← hc];exact Array.getElem_mem hk
         rw[hcand,hq]at hm
         simp at hm
      have hoa:((es.filter fun e=>!seen.contains e.born).filter fun e=>decide (e.born<since)).isEmpty=true:=by
       rw[List.isEmpty_iff,List.eq_nil_iff_forall_not_mem]
       intro e he
       simp only[List.mem_filter,Bool.not_eq_true',decide_eq_true_eq]at he
       obtain ⟨e',h1,_,h2,_⟩:=hr.mem he.1.1
       have:e'∈old':=(oldm e').2 ⟨h1,by rw[h2];exact he.1.2,by rw[h2];exact he.2⟩
       rw[Array.isEmpty_iff.1 hoe]at this
       simp at this
      refine ⟨{ w with drawn:=n' },.tuple #[.bool false],(.tuple #[.bool false],h),hrun (fun w=>.ok (.tuple #[.bool false]) w) (fun c hc2=>?_),?_,r0a ι rfl,sd,std,sd.deadAt her a2,?_⟩
      ·rw[hck]at hc2
       cases hc2
       rfl
      ·rw[hoa]
       exact List.mem_append_left _ (List.mem_singleton.2 rfl)
      ·exact ⟨Inj.le_refl _,fun id e h1 h2=>(by rw[h1]at h2;cases h2),Nat.le_refl _,rfl,rfl,rfl,rfl,Nat.le_refl _,fun _ _ _=>rfl,hn'⟩
    | some e'=>
      have hck:cand[k]? = some (some e'):=by rw[Array.getElem?_eq_getElem hk,hc]
      have hm:e'∈es'.toList∧seen.contains e'.born=false∧(e'.born<since∨e'.born ≥ since):=by
       have hm:(some e':Option MapEntry)∈cand:=by rw[← hc];exact Array.getElem_mem hk
       rw[hcand]at hm
       have hm2:e'∈old'∨e'∈new':=by
        cases hq:old'.isEmpty <;> simp[hq]at hm <;> exact hm
       rcases hm2 with hm2 | hm2
       ·have:=(oldm e').1 hm2
        exact ⟨this.1,this.2.1,.inl this.2.2⟩
       ·have:=(newm e').1 hm2
        exact ⟨this.1,this.2.1,.inr this.2.2⟩
      obtain ⟨e,h1,h2,h3,h4⟩:=hr.mem' hm.1
      obtain ⟨s1,st1⟩:=sd.putObj (o:=.iter (some id) since (seen++[e.born]) clock) (c:=.mapIter (some em.block) since (seen.toArray.push e'.born) clock) her hg a2 (by simp) ⟨a1,a2,some em.block,by rw[World.putObj_heap_same (by exact s.blk _ _ her),h3];simp,em,m1,m2,rfl⟩
      refine ⟨_,.tuple #[.bool true,e'.key,e'.val],(.tuple #[.bool true,e.key,e.val],h.set r (.iter (some id) since (seen++[e.born]) clock)),hrun (fun w=>.ok (.tuple #[.bool true,e'.key,e'.val]) (w.putObj er.block (.mapIter (some em.block) since (seen.toArray.push e'.born) clock))) (fun c hc2=>?_),?_,?_,s1,std.trans st1,?_,?_⟩
      ·rw[hck]at hc2
       cases hc2
       simp only[Sem.run_bind]
       rw[f5b (w:={ w with drawn:=n' }) a3]
       rfl
      ·refine List.mem_append_right _ (List.mem_map.2 ⟨e,?_,rfl⟩)
       simp only[List.mem_append,List.mem_filter,Bool.not_eq_true',decide_eq_true_eq]
       rw[← h3]
       rcases hm.2.2 with hlt | hge
       ·exact .inl ⟨⟨h1,hm.2.1⟩,hlt⟩
       ·exact .inr ⟨⟨h1,hm.2.1⟩,hge⟩
      ·refine .tuple rfl fun i v v' hv hv'=>?_
       match i with
       | 0=>cases hv;cases hv';exact .bool _
       | 1=>cases hv;cases hv';rw[h2];exact r0a ι (hkeys e h1)
       | 2=>cases hv;cases hv';exact h4
       | i+3=>simp at hv
      ·have:=s1.deadAt her a2
       have e2:(h.set r (.iter (some id) since (seen++[e.born]) clock)).set r .dead=h.set r .dead:=by
        simp only[DHeap.set]
        congr 1
        funext j
        split <;> rfl
       rwa [e2]at this
      ·have st3:=std.trans st1
       exact ⟨st3.le,fun id e h1 h2=>(by rw[h1]at h2;cases h2),Nat.le_refl _,rfl,st3.os,st3.tape,st3.output,st3.size,st3.frame,st3.drawn⟩
  ·cases hd
 ·cases hd
end Go.D
namespace Go.D
variable {P:Program} {ι:Inj} {h:DHeap} {w:World}
def a8a (P:Program) (ι:Inj):XW→Next→Prop
 | .value v,.value v'=>VRel ι v v'
 | .skip,.skip=>True
 | .enter f args,.enter f' args'=>f'=f∧LRel ι args args'.toList∧L0a P f=true
 | .round l size tmps assign body,.round l' _ tmps' assign' body'=>(∃ e,ι l=some e∧e.shift=0∧l'=e.block)∧FRel ι size tmps tmps'∧assign'=assign∧body'=body
 | .defer f args,.defer d=>L0a P f=true∧∃ cap dargs,d={ target:=.fn (.func f) cap,args:=dargs }∧LRel ι args (dargs++cap).toList
 | .recover,.recover=>True
 | .pick _,.value _=>True
 | _,_=>False
theorem T7a {f:FuncId} {args:Array Value} (hf:L0a P f=true) (w:World):(callFunc f args).run P w=.ok (.enter f args) w:=by
 unfold L0a at hf
 split at hf
 ·rename_i fn hfn
  rw[Bool.and_eq_true]at hf
  have h1:(fn.name=="runtime.NumGoroutine")=false:=by simpa [bne] using hf.1
  have h2:fn.body.isNone=false:=by
   cases hb:fn.body with
   | none=>rw[hb]at hf;simp at hf
   | some b=>rfl
  simp only[callFunc,Sem.run_bind,run_program,Result.andThen_ok,hfn,h1,h2,Bool.false_eq_true,if_false,Sem.run_pure]
 ·cases hf
theorem j7a {nt:Nat}:∀ (ps:List Tmp) (vs vs':List Value) (ts:Fr) (ts':Array Value),LRel ι vs vs'→ps.all (fun p=>decide (p<nt))=true→FRel ι nt ts ts' →
 FRel ι nt (E0a ts ps vs) ((ps.zip vs').foldl (fun tmps (t,a)=>tmps.setIfInBounds t a) ts')
 | [],vs,vs',ts,ts',_,_,ht=>by simpa [E0a] using ht
 | p :: ps,[],vs',ts,ts',hv,_,ht=>by
   have:vs'=[]:=List.length_eq_zero_iff.1 hv.1.symm
   subst this
   simpa [E0a] using ht
 | p :: ps,v :: vs,vs',ts,ts',hv,hp,ht=>by
   cases vs' with
   | nil=>cases hv.1
   | cons v' vs'=>
     have h0:VRel ι v v':=hv.2 0 v v' rfl rfl
     have hv':LRel ι vs vs':=⟨by simpa using hv.1,fun j a b x y=>hv.2 (j+1) a b (by simpa using x) (by simpa using y)⟩
     rw[List.all_cons,Bool.and_eq_true]at hp
     simp only[E0a,List.zip_cons_cons,List.foldl_cons]
     exact j7a ps vs vs' _ _ hv' hp.2 (ht.put (by simpa using hp.1) h0)
theorem t5b {a a':Array Value} (h1:a.size=a'.size) (h2:∀ (i:Nat) v v',a[i]? = some v→a'[i]? = some v'→VRel ι v v'):LRel ι a.toList a'.toList:=
 ⟨by simpa using h1,fun i v v' x y=>h2 i v v' (by simpa using x) (by simpa using y)⟩
theorem h6b {a a':Array Value} (h:LRel ι a.toList a'.toList):a.size=a'.size∧∀ (i:Nat) v v',a[i]? = some v→a'[i]? = some v'→VRel ι v v':=
 ⟨by simpa using h.1,fun i v v' x y=>h.2 i v v' (by simpa using x) (by simpa using y)⟩
theorem D6a {f f':Value} {args:List Value} {args':Array Value} {x:XW} (hd:Z0a P f args h=some x) (s:Sim ι h w) (hf:VRel ι f f') (ha:LRel ι args args'.toList) :
 ∃ d x',(Deferred.ofValue f' args').run P w=.ok d w∧(invoke d.target d.args).run P w=.ok x' w∧a8a P ι x x' ∧
  (∀ g as,x=.enter g as→∃ cap dargs,d={ target:=.fn (.func g) cap,args:=dargs }∧LRel ι as (dargs++cap).toList):=by
 unfold Z0a at hd
 split at hd
 ·rename_i g first cap
  split at hd
  ·rename_i hg
   cases hd
   cases hf with
   | func h0 h1 h2 h3 h4=>
     rename_i first' cap'
     have hl:LRel ι (first.toList++args++cap.toList) (first'++args'++cap').toList:=by
      rw[Array.toList_append,Array.toList_append]
      exact ((t5b h1 h2).append ha).append (t5b h3 h4)
     refine ⟨{ target:=.fn (.func g) cap',args:=first'++args' },.enter g (first'++args'++cap'),rfl,T7a hg w,⟨rfl,hl,hg⟩,?_⟩
     intro g2 as he
     cases he
     exact ⟨cap',_,rfl,hl⟩
  ·cases hd
 ·rename_i l first cap
  split at hd
  ·rename_i dl hg
   split at hd
   ·rename_i hc
    cases hd
    have hfst:first=#[]:=Array.eq_empty_of_size_eq_zero hc.1
    have hcap:cap=#[]:=Array.eq_empty_of_size_eq_zero hc.2.1
    subst hfst hcap
    cases hf with
    | func h0 _ _ _ _=>exact absurd rfl (h0 l)
    | yield he hs=>
      rename_i e
      obtain ⟨o,h1,h2⟩:=s.obj _ _ he
      rw[hg]at h1
      cases h1
      obtain ⟨_,_,lc,h3,h4⟩:=h2
      have hgo:(Instr.getLoop e.block).run P w=.ok lc w:=by
       simp[Instr.getLoop,getObj,Sem.run,h3]
      have hsz:args'.size=lc.params.size:=by
       rw[h4.params,hc.2.2.1]
       have:=ha.1
       simpa using this.symm
      refine ⟨{ target:=.fn (.yield e.block) #[],args:=#[]++args' },.round e.block lc.fn ((lc.params.zip args').foldl (fun tmps (t,a)=>tmps.setIfInBounds t a) lc.tmps) lc.assign lc.body,rfl,?_,⟨⟨e,he,hs,rfl⟩,?_,h4.assign,h4.body⟩,?_⟩
      ·simp only[invoke,Instr.yield,Sem.run_bind,hgo,Result.andThen_ok,Array.empty_append]
       rw[if_neg (by simp[hsz])]
       rfl
      ·rw[← Array.foldl_toList,Array.toList_zip,h4.params]
       exact j7a _ _ _ _ _ ha hc.2.2.2 h4.tmps
      ·intro g as he';cases he'
   ·cases hd
  ·cases hd
 ·cases hd
theorem S3b {v:Value} {l:List Value} (h:LRel ι [v] l):∃ v',l=[v']∧VRel ι v v':=by
 match l,h with
 | [v'],h=>exact ⟨v',rfl,h.2 0 v v' rfl rfl⟩
theorem g9a {u v:Value} {l:List Value} (h:LRel ι [u,v] l):∃ u' v',l=[u',v']∧VRel ι u u'∧VRel ι v v':=by
 match l,h with
 | [u',v'],h=>exact ⟨u',v',rfl,h.2 0 u u' rfl rfl,h.2 1 v v' rfl rfl⟩
theorem D4a:∀ {l l':List Value},LRel ι l l'→l.all Yj=true→l'=l
 | [],l',h,_=>List.length_eq_zero_iff.1 h.1.symm
 | v :: l,l',h,hf=>by
   cases l' with
   | nil=>cases h.1
   | cons v' l'=>
     rw[List.all_cons,Bool.and_eq_true]at hf
     have h':LRel ι l l':=⟨by simpa using h.1,fun j a b x y=>h.2 (j+1) a b (by simpa using x) (by simpa using y)⟩
     rw[b1a (h.2 0 v v' rfl rfl) hf.1,D4a h' hf.2]
theorem A4a {ρ:Operand→Option Value} {ρ':Operand→Value} {o:Oper} {x:XW} {h':DHeap} (hd:dOp P ρ o h=.ok x h') (s:Sim ι h w) (hρ:∀ y∈o.op.operands,∀ v,ρ y=some v→VRel ι v (ρ' y)) :
 ∃ ι' w' x',(execOp ρ' o).run P w=.ok x' w'∧a8a P ι' x x'∧Sim ι' h' w'∧Step ι ι' h h' w w':=by
 have val:∀ {y:Sem Value} {z:XW} {v v':Value} {ι':Inj} {w':World},execOp ρ' o=(do pure (.value (← y)))→z=.value v→y.run P w=.ok v' w'→VRel ι' v v'→Sim ι' h' w'→Step ι ι' h h' w w' →
  ∃ ι' w' x',(execOp ρ' o).run P w=.ok x' w'∧a8a P ι' z x'∧Sim ι' h' w'∧Step ι ι' h h' w w':=by
  intro y z v v' ι' w' he hz hr hv s' st
  subst hz
  exact ⟨ι',w',.value v',by rw[he];simp only[Sem.run_bind,hr,Result.andThen_ok,Sem.run_pure],hv,s',st⟩
 have ofv:∀ {r:Option Value},DR.ofv h r=.ok x h'→∃ v,r=some v∧x=.value v∧h'=h:=by
  intro r hr
  cases r with
  | none=>cases hr
  | some v=>cases hr;exact ⟨v,rfl,rfl,rfl⟩
 have ofp:∀ {r:Option (Value × DHeap)},DR.ofp r=.ok x h'→∃ v,r=some (v,h')∧x=.value v:=by
  intro r hr
  cases r with
  | none=>cases hr
  | some v=>obtain ⟨v,g⟩:=v;cases hr;exact ⟨v,rfl,rfl⟩
 unfold dOp at hd
 cases ho:o.op with
 | move y=>
   rw[ho]at hd hρ
   obtain ⟨v,h1,rfl,rfl⟩:=ofv hd
   exact ⟨ι,w,.value (ρ' y),by simp only[execOp,ho,Sem.run_pure],hρ y (by simp[Op.operands]) v h1,s,Step.refl _ _ _⟩
 | assign y=>
   rw[ho]at hd hρ
   obtain ⟨v,h1,rfl,rfl⟩:=ofv hd
   exact ⟨ι,w,.value (ρ' y),by simp only[execOp,ho,Sem.run_pure],hρ y (by simp[Op.operands]) v h1,s,Step.refl _ _ _⟩
 | pick c a b=>
   rw[ho]at hd hρ
   dsimp only at hd
   split at hd
   ·rename_i t va vb h1 h2 h3
    cases hd
    have hc:=hρ c (by simp[Op.operands]) _ h1
    have ha:=hρ a (by simp[Op.operands]) _ h2
    have hb:=hρ b (by simp[Op.operands]) _ h3
    generalize hcc:ρ' c=c' at hc
    cases hc
    refine ⟨ι,w,.value (if t then ρ' a else ρ' b),?_,?_,s,Step.refl _ _ _⟩
    ·simp only[execOp,ho,hcc,asBool,Sem.run_bind,Sem.run_pure,Result.andThen_ok]
    ·show VRel ι _ _
     split
     ·exact ha
     ·exact hb
   ·cases hd
 | alloc t=>
   rw[ho]at hd
   obtain ⟨v,h1,rfl⟩:=ofp hd
   obtain ⟨ι',w',p,r1,r2,r3,r4⟩:=W8b h1 s
   exact val (by simp only[execOp,ho]) rfl r1 r2 r3 r4
 | box t y=>
   rw[ho]at hd hρ
   dsimp only at hd
   split at hd
   ·rename_i v h1
    obtain ⟨u,h2,rfl⟩:=ofp hd
    obtain ⟨ι',w',p,r1,r2,r3,r4⟩:=J6c (P:=P) (t:=t) s (hρ y (by simp[Op.operands]) v h1)
    simp only[Option.some.injEq]at h2
    rw[h2]at r2 r3 r4
    exact val (by simp only[execOp,ho]) rfl r1 r2 r3 r4
   ·cases hd
 | build t parts=>
   rw[ho]at hd hρ
   dsimp only at hd
   split at hd
   ·rename_i vs h1
    obtain ⟨v,h2,rfl,rfl⟩:=ofv hd
    have hp:=M4a (ι:=ι) (ρ':=ρ') _ _ h1 (fun y hy=>hρ y (by simpa [Op.operands] using hy))
    obtain ⟨v',r1,r2⟩:=Z8b (w:=w) h2 hp
    refine val (y:=Instr.build t (parts.map fun (i,x)=>(i,ρ' x))) (by simp only[execOp,ho]) rfl ?_ r2 s (Step.refl _ _ _)
    have e1:(parts.map fun (i,x)=>(i,ρ' x))=(parts.toList.map fun (i,x)=>(i,ρ' x)).toArray:=by rw[← Array.toList_map,Array.toArray_toList]
    rw[e1]
    exact r1
   ·cases hd
 | buildSlice t len parts=>
   rw[ho]at hd hρ
   dsimp only at hd
   split at hd
   ·rename_i vs h1
    obtain ⟨v,h2,rfl⟩:=ofp hd
    have hp:=M4a (ι:=ι) (ρ':=ρ') _ _ h1 (fun y hy=>hρ y (by simpa [Op.operands] using hy))
    obtain ⟨ι',w',v',r1,r2,r3,r4⟩:=u0b (w:=w) h2 s hp
    refine val (y:=Instr.buildSlice t len (parts.map fun (i,x)=>(i,ρ' x))) (by simp only[execOp,ho]) rfl ?_ r2 r3 r4
    have e1:(parts.map fun (i,x)=>(i,ρ' x))=(parts.toList.map fun (i,x)=>(i,ρ' x)).toArray:=by rw[← Array.toList_map,Array.toArray_toList]
    rw[e1]
    exact r1
   ·cases hd
 | load t y=>
   rw[ho]at hd hρ
   dsimp only at hd
   split at hd
   ·rename_i v h1
    obtain ⟨u,h2,rfl,rfl⟩:=ofv hd
    obtain ⟨v',r1,r2⟩:=X2b h2 s (hρ y (by simp[Op.operands]) v h1)
    exact val (by simp only[execOp,ho]) rfl r1 r2 s (Step.refl _ _ _)
   ·cases hd
 | store t p y=>
   rw[ho]at hd hρ
   dsimp only at hd
   split at hd
   ·rename_i vp v h1 h2
    cases hs:Yx P t vp v h with
    | none=>rw[hs]at hd;cases hd
    | some h2'=>
      rw[hs]at hd
      cases hd
      obtain ⟨w',r1,r2,r3⟩:=v9b hs s (hρ p (by simp[Op.operands]) _ h1) (hρ y (by simp[Op.operands]) _ h2)
      exact ⟨ι,w',.skip,by simp only[execOp,ho,Sem.run_bind,r1,Result.andThen_ok,Sem.run_pure],trivial,r2,r3⟩
   ·cases hd
 | nilCheck y=>
   rw[ho]at hd hρ
   dsimp only at hd
   split at hd
   ·cases hd
   ·cases hd
   ·cases hd
   ·cases hd
   ·rename_i v h0 h1 h2 h3 h4
    cases hd
    have hv:=hρ y (by simp[Op.operands]) v h4
    refine ⟨ι,w,.value (ρ' y),?_,hv,s,Step.refl _ _ _⟩
    simp only[execOp,ho]
    generalize ρ' y=v' at hv
    cases hv with
    | pnil=>exact absurd rfl h0
    | nilIface=>exact absurd rfl h1
    | nilFunc=>exact absurd rfl h2
    | func hf a b c d=>
      rename_i fn _ _ _ _
      cases fn <;> first | rfl | (exact absurd rfl (h3 _ _ _))
    | _=>rfl
   ·cases hd
 | binOp op t a b u=>
   rw[ho]at hd hρ
   dsimp only at hd
   split at hd
   ·rename_i va vb h1 h2
    obtain ⟨v,v',rfl,rfl,r1,r2⟩:=Y8b hd (hρ a (by simp[Op.operands]) _ h1) (hρ b (by simp[Op.operands]) _ h2) w
    exact val (by simp only[execOp,ho]) rfl r1 r2 s (Step.refl _ _ _)
   ·cases hd
 | unOp op t y=>
   rw[ho]at hd hρ
   dsimp only at hd
   split at hd
   ·rename_i v h1
    split at hd
    ·rename_i hf
     have:=b1a (hρ y (by simp[Op.operands]) v h1) hf
     obtain ⟨u,rfl,rfl,hu,hr⟩:=B4a hd
     refine val (y:=Op.unary op (ρ' y)) (by simp only[execOp,ho]) rfl ?_ (r0a ι hu) s (Step.refl _ _ _)
     rw[this]
     exact hr w
    ·cases hd
   ·cases hd
 | convert src dst y=>
   rw[ho]at hd hρ
   dsimp only at hd
   split at hd
   ·rename_i v h1
    obtain ⟨ι',w',u,u',rfl,r1,r2,r3,r4⟩:=I4b hd s (hρ y (by simp[Op.operands]) v h1)
    exact val (by simp only[execOp,ho]) rfl r1 r2 r3 r4
   ·cases hd
 | makeInterface t y=>
   rw[ho]at hd hρ
   dsimp only at hd
   split at hd
   ·rename_i v h1 h2
    cases hd
    obtain ⟨d,hu,hn⟩:=q5a h2
    refine val (y:=Instr.makeInterface t (ρ' y)) (by simp only[execOp,ho]) rfl ?_ (.iface (t:=t) (hρ y (by simp[Op.operands]) v h1)) s (Step.refl _ _ _)
    unfold Instr.makeInterface
    simp only[Sem.run_bind,Zw hu,Result.andThen_ok]
    cases d <;> first | (exact absurd rfl (hn _)) | rfl
   ·cases hd
 | makeFunc fn first cap=>
   rw[ho]at hd hρ
   dsimp only at hd
   split at hd
   ·rename_i f vs us h1 h2
    cases hd
    have r1:=D2a (ι:=ι) (ρ':=ρ') _ _ h1 (fun y hy=>hρ y (by simp[Op.operands]at hy ⊢;exact .inl hy))
    have r2:=D2a (ι:=ι) (ρ':=ρ') _ _ h2 (fun y hy=>hρ y (by simp[Op.operands]at hy ⊢;exact .inr hy))
    have e1:=h6b (ι:=ι) (a:=vs.toArray) (a':=first.map ρ') (by simpa using r1)
    have e2:=h6b (ι:=ι) (a:=us.toArray) (a':=cap.map ρ') (by simpa using r2)
    exact val (y:=Instr.makeFunc (.func f) (first.map ρ') (cap.map ρ')) (by simp only[execOp,ho]) rfl rfl (.func (fun l hl=>by cases hl) e1.1 e1.2 e2.1 e2.2) s (Step.refl _ _ _)
   ·cases hd
 | makeSlice t a b=>
   rw[ho]at hd hρ
   dsimp only at hd
   split at hd
   ·rename_i va vb h1 h2
    obtain ⟨v,h3,rfl⟩:=ofp hd
    obtain ⟨ι',w',p,r1,r2,r3,r4⟩:=U1b h3 s (hρ a (by simp[Op.operands]) _ h1) (hρ b (by simp[Op.operands]) _ h2)
    exact val (by simp only[execOp,ho]) rfl r1 r2 r3 r4
   ·cases hd
 | makeMap t r=>
   rw[ho]at hd
   cases r with
   | some y=>cases hd
   | none=>
     dsimp only at hd
     obtain ⟨v,h1,rfl⟩:=ofp hd
     cases h1
     obtain ⟨ι',w',v',r1,r2,r3,r4⟩:=A7b (P:=P) (t:=t) s
     exact val (by simp only[execOp,ho];rfl) rfl r1 r2 r3 r4
 | range t y=>
   rw[ho]at hd hρ
   dsimp only at hd
   split at hd
   ·rename_i v h1
    obtain ⟨u,h2,rfl⟩:=ofp hd
    obtain ⟨ι',w',v',r1,r2,r3,r4⟩:=t9b h2 s (hρ y (by simp[Op.operands]) _ h1)
    exact val (by simp only[execOp,ho]) rfl r1 r2 r3 r4
   ·cases hd
 | next y isString=>
   rw[ho]at hd hρ
   dsimp only at hd
   split at hd
   ·rename_i v h1
    split at hd
    ·rename_i l h2 hn
     cases hd
     obtain ⟨w1,v1,p,r1,r2,r3,r4,r5,r6,r7⟩:=d3b hn s (hρ y (by simp[Op.operands]) _ h1) o.type
     exact ⟨ι,w1,.value v1,by simp only[execOp,ho,Sem.run_bind];rw[r1];rfl,trivial,r6,r7⟩
    ·cases hd
   ·cases hd
 | entry y=>
   rw[ho]at hd hρ
   dsimp only at hd
   split at hd
   ·rename_i v h1
    obtain ⟨u,h3,rfl,rfl⟩:=ofv hd
    obtain ⟨v',r1,r2⟩:=c9b h3 s (hρ y (by simp[Op.operands]) _ h1)
    exact val (by simp only[execOp,ho]) rfl r1 r2 s (Step.refl _ _ _)
   ·cases hd
 | lookup t y ix ok=>
   rw[ho]at hd hρ
   dsimp only at hd
   split at hd
   ·rename_i v vi h1 h2
    obtain ⟨u,h3,rfl,rfl⟩:=ofv hd
    obtain ⟨v',r1,r2⟩:=X6b h3 s (hρ y (by simp[Op.operands]) _ h1) (hρ ix (by simp[Op.operands]) _ h2)
    exact val (by simp only[execOp,ho]) rfl r1 r2 s (Step.refl _ _ _)
   ·cases hd
 | mapUpdate t m k y=>
   rw[ho]at hd hρ
   dsimp only at hd
   split at hd
   ·rename_i vm vk vx h1 h2 h3
    cases hs:F0a P t vm vk vx h with
    | none=>rw[hs]at hd;cases hd
    | some h2'=>
      rw[hs]at hd
      cases hd
      obtain ⟨w',r1,r2,r3⟩:=d7a hs s (hρ m (by simp[Op.operands]) _ h1) (hρ k (by simp[Op.operands]) _ h2) (hρ y (by simp[Op.operands]) _ h3)
      exact ⟨ι,w',.skip,by simp only[execOp,ho,Sem.run_bind,r1,Result.andThen_ok,Sem.run_pure],trivial,r2,r3⟩
   ·cases hd
 | insert t m k y=>
   rw[ho]at hd hρ
   dsimp only at hd
   split at hd
   ·rename_i vm vk vx h1 h2 h3
    cases hs:F0a P t vm vk vx h with
    | none=>rw[hs]at hd;cases hd
    | some h2'=>
      rw[hs]at hd
      cases hd
      obtain ⟨w',r1,r2,r3⟩:=d7a hs s (hρ m (by simp[Op.operands]) _ h1) (hρ k (by simp[Op.operands]) _ h2) (hρ y (by simp[Op.operands]) _ h3)
      exact ⟨ι,w',.skip,by simp only[execOp,ho,Sem.run_bind,r1,Result.andThen_ok,Sem.run_pure],trivial,r2,r3⟩
   ·cases hd
 | slice t y lo hi mx=>
   rw[ho]at hd hρ
   dsimp only at hd
   split at hd
   ·rename_i v vl vh vm h1 h2 h3 h4
    obtain ⟨u,h5,rfl,rfl⟩:=ofv hd
    obtain ⟨v',r1,r2⟩:=u9b h5 s (hρ y (by simp[Op.operands]) _ h1) (V5a h2 fun z hz=>hρ z (by simp[Op.operands]at hz ⊢;exact .inr (.inl hz)))
     (V5a h3 fun z hz=>hρ z (by simp[Op.operands]at hz ⊢;exact .inr (.inr (.inl hz)))) (V5a h4 fun z hz=>hρ z (by simp[Op.operands]at hz ⊢;exact .inr (.inr (.inr hz))))
    exact val (by simp only[execOp,ho]) rfl r1 r2 s (Step.refl _ _ _)
   ·cases hd
 | fieldAddr t y f=>
   rw[ho]at hd hρ
   dsimp only at hd
   split at hd
   ·rename_i v h1
    obtain ⟨u,h2,rfl,rfl⟩:=ofv hd
    obtain ⟨v',r1,r2⟩:=R1b (w:=w) h2 (hρ y (by simp[Op.operands]) v h1)
    exact val (by simp only[execOp,ho]) rfl r1 r2 s (Step.refl _ _ _)
   ·cases hd
 | field t y f=>
   rw[ho]at hd hρ
   dsimp only at hd
   split at hd
   ·rename_i v h1
    obtain ⟨u,h2,rfl,rfl⟩:=ofv hd
    obtain ⟨v',r1,r2⟩:=d9b (w:=w) h2 (hρ y (by simp[Op.operands]) v h1)
    exact val (by simp only[execOp,ho]) rfl r1 r2 s (Step.refl _ _ _)
   ·cases hd
 | indexAddr t y z=>
   rw[ho]at hd hρ
   dsimp only at hd
   split at hd
   ·rename_i v vz h1 h2
    obtain ⟨u,h3,rfl,rfl⟩:=ofv hd
    obtain ⟨v',r1,r2⟩:=S1b (w:=w) h3 (hρ y (by simp[Op.operands]) v h1) (hρ z (by simp[Op.operands]) _ h2)
    exact val (by simp only[execOp,ho]) rfl r1 r2 s (Step.refl _ _ _)
   ·cases hd
 | index t y z=>
   rw[ho]at hd hρ
   dsimp only at hd
   split at hd
   ·rename_i v vz h1 h2
    obtain ⟨u,h3,rfl,rfl⟩:=ofv hd
    obtain ⟨v',r1,r2⟩:=g9b (w:=w) h3 (hρ y (by simp[Op.operands]) v h1) (hρ z (by simp[Op.operands]) _ h2)
    exact val (by simp only[execOp,ho]) rfl r1 r2 s (Step.refl _ _ _)
   ·cases hd
 | typeAssert y t a ok=>
   rw[ho]at hd hρ
   dsimp only at hd
   split at hd
   ·rename_i v h1
    obtain ⟨u,h2,rfl,rfl⟩:=ofv hd
    obtain ⟨v',r1,r2⟩:=D0b (w:=w) (xt:=t) h2 (hρ y (by simp[Op.operands]) v h1)
    exact val (by simp only[execOp,ho]) rfl r1 r2 s (Step.refl _ _ _)
   ·cases hd
 | extract y ix=>
   rw[ho]at hd hρ
   dsimp only at hd
   split at hd
   ·rename_i v h1
    obtain ⟨u,h2,rfl,rfl⟩:=ofv hd
    obtain ⟨v',r1,r2⟩:=J4b (P:=P) (w:=w) h2 (hρ y (by simp[Op.operands]) v h1)
    exact val (by simp only[execOp,ho]) rfl r1 r2 s (Step.refl _ _ _)
   ·cases hd
 | call c=>
   rw[ho]at hd hρ
   dsimp only at hd
   have hargs:∀ vs,Yk ρ c.args.toList=some vs→LRel ι vs (c.args.map ρ').toList:=fun vs hv=>by
    have:=D2a (ι:=ι) (ρ':=ρ') _ _ hv (fun y hy=>hρ y (by simp[Op.operands,Call.operands];exact .inr (by simpa using hy)))
    simpa using this
   have hbi:∀ b,c.callee=.builtin b→∀ y:Sem Value,builtin b c.argTypes o.type (c.args.map fun | .const _=>true | _=>false) (c.args.map ρ')=(do pure (.value (← y))) →
    execOp ρ' o=(do pure (.value (← y))):=fun b hb y hy=>by
    simp only[execOp,ho,resolve,hb]
    exact hy
   split at hd
   ·rename_i a b hc hv
    obtain ⟨u,h2,rfl⟩:=ofp hd
    obtain ⟨a',b',hl,ha,hb⟩:=g9a (hargs _ hv)
    have hm:c.args.map ρ'=#[a',b']:=by rw[← Array.toArray_toList (xs:=c.args.map ρ'),hl]
    obtain ⟨ι',w',v',r1,r2,r3,r4⟩:=R6b (ty:=o.type) h2 s ha hb
    refine val (hbi _ hc _ (by rw[hm];rfl)) rfl r1 r2 r3 r4
   ·rename_i a b hc hv
    obtain ⟨u,h2,rfl⟩:=ofp hd
    obtain ⟨a',b',hl,ha,hb⟩:=g9a (hargs _ hv)
    have hm:c.args.map ρ'=#[a',b']:=by rw[← Array.toArray_toList (xs:=c.args.map ρ'),hl]
    obtain ⟨w',v',r1,r2,r3,r4⟩:=A2c (ty:=o.type) h2 s ha hb
    refine val (hbi _ hc _ (by rw[hm];rfl)) rfl r1 r2 r3 r4
   ·rename_i a hc hv
    obtain ⟨u,h2,rfl,rfl⟩:=ofv hd
    obtain ⟨a',hl,ha⟩:=S3b (hargs _ hv)
    have hm:c.args.map ρ'=#[a']:=by rw[← Array.toArray_toList (xs:=c.args.map ρ'),hl]
    obtain ⟨v',r1,r2⟩:=L6c (ty:=o.type) h2 s ha
    refine val (hbi _ hc _ (by rw[hm];rfl)) rfl r1 r2 s (Step.refl _ _ _)
   ·rename_i a hc hv
    obtain ⟨u,h2,rfl⟩:=ofp hd
    obtain ⟨a',hl,ha⟩:=S3b (hargs _ hv)
    have hm:c.args.map ρ'=#[a']:=by rw[← Array.toArray_toList (xs:=c.args.map ρ'),hl]
    obtain ⟨w',r1,rfl,r3,r4⟩:=a9b (ty:=o.type) h2 s ha
    exact val (hbi _ hc _ (by rw[hm];rfl)) rfl r1 (.tuple rfl fun i a b x=>by simp at x) r3 r4
   ·rename_i a b hc hv
    obtain ⟨u,h2,rfl⟩:=ofp hd
    obtain ⟨a',b',hl,ha,hb⟩:=g9a (hargs _ hv)
    have hm:c.args.map ρ'=#[a',b']:=by rw[← Array.toArray_toList (xs:=c.args.map ρ'),hl]
    obtain ⟨w',r1,rfl,r3,r4⟩:=W6b (ty:=o.type) h2 s ha hb
    exact val (hbi _ hc _ (by rw[hm];rfl)) rfl r1 (.tuple rfl fun i a b x=>by simp at x) r3 r4
   ·rename_i hc hv
    cases hd
    refine ⟨ι,w,.recover,?_,trivial,s,Step.refl _ _ _⟩
    simp only[execOp,ho,resolve,hc]
    rfl
   ·rename_i vs hc hv
    split at hd
    ·rename_i hf
     obtain ⟨u,rfl,rfl,hu,hr⟩:=B4a hd
     have hl:=D4a (hargs _ hv) hf
     have hm:c.args.map ρ'=vs.toArray:=by rw[← Array.toArray_toList (xs:=c.args.map ρ'),hl]
     refine val (hbi _ hc _ (by rw[hm];rfl)) rfl (hr w) (r0a ι hu) s (Step.refl _ _ _)
    ·cases hd
   ·rename_i vs hc hv
    split at hd
    ·rename_i hf
     obtain ⟨u,rfl,rfl,hu,hr⟩:=B4a hd
     have hl:=D4a (hargs _ hv) hf
     have hm:c.args.map ρ'=vs.toArray:=by rw[← Array.toArray_toList (xs:=c.args.map ρ'),hl]
     refine val (hbi _ hc _ (by rw[hm];rfl)) rfl (hr w) (r0a ι hu) s (Step.refl _ _ _)
    ·cases hd
   ·rename_i f vs hc hv
    split at hd
    ·rename_i fv hfv
     split at hd
     ·rename_i y ht
      cases hd
      have hff:=hρ f (by simp[Op.operands,Call.operands,hc]) fv hfv
      obtain ⟨d,x',r1,r2,r3,_⟩:=D6a (w:=w) ht s hff (hargs _ hv)
      refine ⟨ι,w,x',?_,r3,s,Step.refl _ _ _⟩
      simp only[execOp,ho,resolve,hc,Sem.run_bind,r1,Result.andThen_ok]
      exact r2
     ·cases hd
    ·cases hd
   ·cases hd
 | defer c=>
   rw[ho]at hd hρ
   dsimp only at hd
   have hargs:∀ vs,Yk ρ c.args.toList=some vs→LRel ι vs (c.args.map ρ').toList:=fun vs hv=>by
    have:=D2a (ι:=ι) (ρ':=ρ') _ _ hv (fun y hy=>hρ y (by simp[Op.operands,Call.operands];exact .inr (by simpa using hy)))
    simpa using this
   split at hd
   ·rename_i f vs hc hv
    split at hd
    ·rename_i fv hfv
     split at hd
     ·rename_i g args ht
      cases hd
      have hff:=hρ f (by simp[Op.operands,Call.operands,hc]) fv hfv
      obtain ⟨d,x',r1,r2,r3,r4⟩:=D6a (w:=w) ht s hff (hargs _ hv)
      have hgood:L0a P g=true:=by
       cases x' <;> first | (exact r3.2.2) | cases r3
      refine ⟨ι,w,.defer d,?_,⟨hgood,r4 _ _ rfl⟩,s,Step.refl _ _ _⟩
      simp only[execOp,ho,resolve,hc,Sem.run_bind,r1,Result.andThen_ok,Sem.run_pure]
     ·cases hd
    ·cases hd
   ·cases hd
 | panic y=>
   rw[ho]at hd
   dsimp only at hd
   split at hd <;> cases hd
 | _=>rw[ho]at hd;cases hd
theorem N6c {ρ:Operand→Option Value} {ρ':Operand→Value} {o:Oper} {v:Value} {h':DHeap} (hd:dOp P ρ o h=.pan v h') (w:World) (hρ:∀ y∈o.op.operands,∀ v,ρ y=some v→VRel ι v (ρ' y)) :
 h'=h∧∃ v',(execOp ρ' o).run P w=.halt (.panic v') w∧VRel ι v v':=by
 have val:∀ {y:Sem Value} {v:Value},execOp ρ' o=(do pure (.value (← y)))→y.run P w=.halt (.panic v) w→(execOp ρ' o).run P w=.halt (.panic v) w:=by
  intro y v he hr
  rw[he]
  simp only[Sem.run_bind,hr,Result.andThen_halt]
 have ofv:∀ {r:Option Value},DR.ofv h r≠.pan v h':=by intro r;cases r <;> simp[DR.ofv]
 have ofp:∀ {r:Option (Value × DHeap)},DR.ofp r≠.pan v h':=by intro r;cases r <;> simp[DR.ofp]
 have ofh:∀ {r:Option DHeap},DR.ofh r≠.pan v h':=by intro r;cases r <;> simp[DR.ofh]
 unfold dOp at hd
 cases ho:o.op with
 | nilCheck y=>
   rw[ho]at hd hρ
   dsimp only at hd
   have fin:ρ' y=.pointer none∨ρ' y=.nilIface∨ρ' y=.nilFunc→(execOp ρ' o).run P w=.halt (.panic (L7a P)) w:=by
    rintro (hy | hy | hy) <;> (simp only[execOp,ho,hy];rfl)
   split at hd
   ·rename_i h1
    cases hd
    have:=hρ y (by simp[Op.operands]) _ h1
    generalize hy:ρ' y=y' at this
    cases this
    exact ⟨rfl,_,fin (.inl hy),r0a ι rfl⟩
   ·rename_i h1
    cases hd
    have:=hρ y (by simp[Op.operands]) _ h1
    generalize hy:ρ' y=y' at this
    cases this
    exact ⟨rfl,_,fin (.inr (.inl hy)),r0a ι rfl⟩
   ·rename_i h1
    cases hd
    have:=hρ y (by simp[Op.operands]) _ h1
    generalize hy:ρ' y=y' at this
    cases this
    exact ⟨rfl,_,fin (.inr (.inr hy)),r0a ι rfl⟩
   ·cases hd
   ·cases hd
   ·cases hd
 | binOp op t a b u=>
   rw[ho]at hd hρ
   dsimp only at hd
   split at hd
   ·rename_i va vb h1 h2
    obtain ⟨rfl,r1,r2⟩:=S6b hd (hρ a (by simp[Op.operands]) _ h1) (hρ b (by simp[Op.operands]) _ h2) w
    exact ⟨rfl,v,val (by simp only[execOp,ho]) r2,r0a ι r1⟩
   ·cases hd
 | unOp op t y=>
   rw[ho]at hd hρ
   dsimp only at hd
   split at hd
   ·rename_i u h1
    split at hd
    ·rename_i hf
     have:=b1a (hρ y (by simp[Op.operands]) u h1) hf
     obtain ⟨rfl,hu,hr⟩:=n5a hd
     refine ⟨rfl,v,val (y:=Op.unary op (ρ' y)) (by simp only[execOp,ho]) ?_,r0a ι hu⟩
     rw[this]
     exact hr w
    ·cases hd
   ·cases hd
 | panic y=>
   rw[ho]at hd hρ
   dsimp only at hd
   split at hd
   ·rename_i t u h1
    cases hd
    have:=hρ y (by simp[Op.operands]) _ h1
    generalize hy:ρ' y=y' at this
    obtain ⟨u',rfl,hu⟩:=z1b this
    refine ⟨rfl,_,val (y:=Instr.panic (ρ' y)) (by simp only[execOp,ho]) (by rw[hy];rfl),.iface hu⟩
   ·cases hd
 | convert src dst y=>
   rw[ho]at hd hρ
   dsimp only at hd
   split at hd
   ·rename_i u h1
    unfold V0a at hd
    split at hd
    ·rename_i hf
     have hyy:=b1a (hρ y (by simp[Op.operands]) u h1) hf
     split at hd
     ·split at hd <;> cases hd
     ·obtain ⟨rfl,hu,hr⟩:=n5a hd
      refine ⟨rfl,v,val (y:=convert src dst (ρ' y)) (by simp only[execOp,ho]) ?_,r0a ι hu⟩
      rw[hyy]
      exact hr w
    ·split at hd
     ·split at hd
      ·split at hd
       ·split at hd <;> cases hd
       ·cases hd
      ·cases hd
     ·cases hd
   ·cases hd
 | call c=>
   rw[ho]at hd hρ
   dsimp only at hd
   have hargs:∀ vs,Yk ρ c.args.toList=some vs→LRel ι vs (c.args.map ρ').toList:=fun vs hv=>by
    have:=D2a (ι:=ι) (ρ':=ρ') _ _ hv (fun y hy=>hρ y (by simp[Op.operands,Call.operands];exact .inr (by simpa using hy)))
    simpa using this
   have hbi:∀ b,c.callee=.builtin b→∀ y:Sem Value,builtin b c.argTypes o.type (c.args.map fun | .const _=>true | _=>false) (c.args.map ρ')=(do pure (.value (← y))) →
    execOp ρ' o=(do pure (.value (← y))):=fun b hb y hy=>by
    simp only[execOp,ho,resolve,hb]
    exact hy
   split at hd
   ·exact absurd hd ofp
   ·exact absurd hd ofp
   ·exact absurd hd ofv
   ·exact absurd hd ofp
   ·exact absurd hd ofp
   ·cases hd
   ·rename_i vs hc hv
    split at hd
    ·rename_i hf
     obtain ⟨rfl,hu,hr⟩:=n5a hd
     have hl:=D4a (hargs _ hv) hf
     have hm:c.args.map ρ'=vs.toArray:=by rw[← Array.toArray_toList (xs:=c.args.map ρ'),hl]
     exact ⟨rfl,v,val (hbi _ hc _ (by rw[hm];rfl)) (hr w),r0a ι hu⟩
    ·cases hd
   ·rename_i vs hc hv
    split at hd
    ·rename_i hf
     obtain ⟨rfl,hu,hr⟩:=n5a hd
     have hl:=D4a (hargs _ hv) hf
     have hm:c.args.map ρ'=vs.toArray:=by rw[← Array.toArray_toList (xs:=c.args.map ρ'),hl]
     exact ⟨rfl,v,val (hbi _ hc _ (by rw[hm];rfl)) (hr w),r0a ι hu⟩
    ·cases hd
   ·split at hd
    ·split at hd <;> cases hd
    ·cases hd
   ·cases hd
 | move y=>rw[ho]at hd;exact absurd hd ofv
 | assign y=>rw[ho]at hd;exact absurd hd ofv
 | alloc y=>rw[ho]at hd;exact absurd hd ofp
 | pick c a b=>rw[ho]at hd;dsimp only at hd;split at hd <;> cases hd
 | box t y=>rw[ho]at hd;dsimp only at hd;split at hd;exact absurd hd ofp;cases hd
 | build t y=>rw[ho]at hd;dsimp only at hd;split at hd;exact absurd hd ofv;cases hd
 | buildSlice t l y=>rw[ho]at hd;dsimp only at hd;split at hd;exact absurd hd ofp;cases hd
 | load t y=>rw[ho]at hd;dsimp only at hd;split at hd;exact absurd hd ofv;cases hd
 | store t y z=>rw[ho]at hd;dsimp only at hd;split at hd;exact absurd hd ofh;cases hd
 | makeInterface t y=>rw[ho]at hd;dsimp only at hd;split at hd <;> cases hd
 | makeFunc f a b=>rw[ho]at hd;dsimp only at hd;split at hd <;> cases hd
 | makeSlice t a b=>rw[ho]at hd;dsimp only at hd;split at hd;exact absurd hd ofp;cases hd
 | makeMap t r=>rw[ho]at hd;cases r <;> cases hd
 | range t y=>rw[ho]at hd;dsimp only at hd;split at hd;exact absurd hd ofp;cases hd
 | next y b=>
   rw[ho]at hd
   dsimp only at hd
   split at hd
   ·split at hd <;> cases hd
   ·cases hd
 | entry y=>rw[ho]at hd;dsimp only at hd;split at hd;exact absurd hd ofv;cases hd
 | lookup t a b ok=>rw[ho]at hd;dsimp only at hd;split at hd;exact absurd hd ofv;cases hd
 | mapUpdate t a b c=>rw[ho]at hd;dsimp only at hd;split at hd;exact absurd hd ofh;cases hd
 | insert t a b c=>rw[ho]at hd;dsimp only at hd;split at hd;exact absurd hd ofh;cases hd
 | slice t a b c d=>rw[ho]at hd;dsimp only at hd;split at hd;exact absurd hd ofv;cases hd
 | fieldAddr t a b=>rw[ho]at hd;dsimp only at hd;split at hd;exact absurd hd ofv;cases hd
 | field t a b=>rw[ho]at hd;dsimp only at hd;split at hd;exact absurd hd ofv;cases hd
 | indexAddr t a b=>rw[ho]at hd;dsimp only at hd;split at hd;exact absurd hd ofv;cases hd
 | index t a b=>rw[ho]at hd;dsimp only at hd;split at hd;exact absurd hd ofv;cases hd
 | typeAssert y t a ok=>rw[ho]at hd;dsimp only at hd;split at hd;exact absurd hd ofv;cases hd
 | extract y t=>rw[ho]at hd;dsimp only at hd;split at hd;exact absurd hd ofv;cases hd
 | defer c=>
   rw[ho]at hd
   dsimp only at hd
   split at hd
   ·split at hd
    ·split at hd <;> cases hd
    ·cases hd
   ·cases hd
 | _=>rw[ho]at hd;cases hd
end Go.D
namespace Go.D
def ZV (ng:Nat) (fr:Fr):Operand→Option Value
 | .tmp t=>fr t
 | .const v=>if Yj v then some v else none
 | .global g=>if g<ng then some (.pointer (some ⟨g,0,none⟩)) else none
 | .func f=>some (.func (.func f) #[] #[])
inductive DEnd
 | ret (v:Value)
 | pan (v:Value)
inductive Zv
 | normal
 | exit (id:Nat)
 | ret
 | pan (v:Value)
inductive f4a
 | fn (f:FuncId) (args:List Value)
 | mark (id:Nat)
structure St where
 fr:Fr
 df:List f4a
 h:DHeap
 rd:Option Nat
def FW (r:Option Nat):Fence:={ fn:=fun _=>True,depth:=none,alive:=false,round:=r }
def D1a (ι:Inj):DEnd→Ending→Prop
 | .ret v,.returned v'=>VRel ι v v'
 | .pan v,.panicked ch=>∃ v',ch=[{ v:=v',recovered:=false }]∧VRel ι v v'
 | _,_=>False
def J1a (ι:Inj):Zv→Exit→Prop
 | .normal,.normal=>True
 | .exit id,.exit id'=>id'=id
 | .ret,.ret=>True
 | .pan v,.panic ch=>∃ v',ch=[{ v:=v',recovered:=false }]∧VRel ι v v'
 | _,_=>False
def DefRel (ι:Inj):List f4a→List Deferred→Prop
 | [],[]=>True
 | .fn f args :: ds,d :: ds'=>(∃ cap dargs,d={ target:=.fn (.func f) cap,args:=dargs }∧LRel ι args (dargs++cap).toList)∧DefRel ι ds ds'
 | .mark id :: ds,d :: ds'=>(∃ e,ι id=some e∧e.shift=0∧d={ target:=.collected e.block,args:=#[] })∧DefRel ι ds ds'
 | _,_=>False
theorem DefRel.mono {ι ι':Inj} (hi:ι.le ι'):∀ {ds:List f4a} {ds':List Deferred},DefRel ι ds ds'→DefRel ι' ds ds'
 | [],[],_=>trivial
 | .fn f args :: ds,d :: ds',⟨⟨cap,dargs,a,b⟩,h⟩=>⟨⟨cap,dargs,a,b.mono hi⟩,DefRel.mono hi h⟩
 | .mark id :: ds,d :: ds',⟨⟨e,a,b,c⟩,h⟩=>⟨⟨e,hi _ _ a,b,c⟩,DefRel.mono hi h⟩
 | [],_ :: _,h=>h.elim
 | .fn _ _ :: _,[],h=>h.elim
 | .mark _ :: _,[],h=>h.elim
def RdRel (ι:Inj):Option Nat→Option Nat→Prop
 | none,none=>True
 | some l,some b=>∃ e,ι l=some e∧e.shift=0∧b=e.block
 | _,_=>False
theorem RdRel.mono {ι ι':Inj} (hi:ι.le ι') {l r:Option Nat} (h:RdRel ι l r):RdRel ι' l r:=by
 cases l <;> cases r <;> first | exact h | (obtain ⟨e,a,b⟩:=h;exact ⟨e,hi _ _ a,b⟩)
structure Wy (nt:Nat) (ι:Inj) (s:St) (r:Option Nat) (a:Act) (w:World):Prop where
 fr:FRel ι nt s.fr a.tmps
 df:DefRel ι s.df a.defers
 sim:Sim ι s.h w
 rd:RdRel ι s.rd r
structure HStep (h h':DHeap):Prop where
 next:h.next≤h'.next
 ng:h'.ng=h.ng
theorem HStep.refl (h:DHeap):HStep h h:=⟨Nat.le_refl _,rfl⟩
theorem HStep.trans {h h' h'':DHeap} (a:HStep h h') (b:HStep h' h''):HStep h h'':=
 ⟨Nat.le_trans a.next b.next,b.ng.trans a.ng⟩
theorem HStep.push (h:DHeap) (o:DObj):HStep h (h.push o):=
 ⟨Nat.le_succ _,rfl⟩
theorem HStep.set (h:DHeap) (i:Nat) (o:DObj):HStep h (h.set i o):=
 ⟨Nat.le_refl _,rfl⟩
def DC (P:Program) (f:FuncId) (args:List Value) (h:DHeap) (r:DEnd) (h':DHeap):Prop:=
 HStep h h'∧∀ (n:Nat) (ι:Inj) (w:World) (args':Array Value),Sim ι h w→LRel ι args args'.toList →
  CallsIn Fence.wide n P f args' w fun e w'=>∃ ι',D1a ι' r e∧Sim ι' h' w'∧Step ι ι' h h' w w'
def DRd (P:Program) (l:Nat) (size:Nat) (tmps:Fr) (assign body:Code) (h:DHeap) (r:DEnd) (h':DHeap):Prop:=
 HStep h h'∧∀ (n:Nat) (ι:Inj) (w:World) (tmps':Array Value) (e:Ent) (f:FuncId),Sim ι h w→ι l=some e→e.shift=0→FRel ι size tmps tmps' →
  RoundIn Fence.wide n P e.block f tmps' assign body w fun en w'=>∃ ι',D1a ι' r en∧Sim ι' h' w'∧Step ι ι' h h' w w'
def EC (P:Program) (nt:Nat) (c:Code) (s:St) (e:Zv) (s':St):Prop:=
 HStep s.h s'.h∧∀ (n:Nat) (r:Option Nat) (ι:Inj) (a:Act) (w:World),Wy nt ι s r a w →
  c.wpIn (FW r) n P (fun ex a' w'=>∃ ι',J1a ι' e ex∧Wy nt ι' s' r a' w'∧Step ι ι' s.h s'.h w w') a w
def ZK (ops:Array Oper) (fr:Fr) (o:Oper):Option Bool:=
 match o.guard with
 | none=>some true
 | some (j,want)=>
   match (ops[j]?).bind (·.dst) with
   | none=>some false
   | some d=>
     match fr d with
     | some (.bool b)=>some (b==want)
     | some _=>some false
     | none=>none
def p1a:Op→Bool
 | .defer _=>true
 | _=>false
def Ex (P:Program) (ops:Array Oper) (o:Oper) (fr:Fr) (h:DHeap) (r:DEnd) (h':DHeap):Prop:=
 match ZK ops fr o with
 | none=>False
 | some false=>r=.ret undef∧h'=h
 | some true=>
   match dOp P (ZV h.ng fr) o h with
   | .ok (.value v) h1=>r=.ret v∧h'=h1
   | .ok .skip h1=>r=.ret undef∧h'=h1
   | .ok (.enter f args) h1=>DC P f args h1 r h'
   | .ok (.round l size tmps assign body) h1=>DRd P l size tmps assign body h1 r h'
   | .pan v h1=>r=.pan v∧h'=h1
   | _=>False
def looks (ops:Array Oper) (o:Oper):List Tmp:=
 (o.op.operands.toList.filterMap fun | .tmp t=>some t | _=>none) ++
 (match o.guard with
  | none=>[]
  | some (j,_)=>((ops[j]?).bind (·.dst)).toList)
theorem l1a {P:Program} {ι:Inj} {h:DHeap} {w:World} (s:Sim ι h w) {fr:Fr} {a:Act} {ops:Array Oper} {o:Oper}
 (hl:∀ t∈looks ops o,∀ v,fr t=some v→VRel ι v (a.tmps.getD t undef)):∀ y∈o.op.operands,∀ v,ZV h.ng fr y=some v→VRel ι v (a.eval y):=by
 intro y hy v hv
 cases y with
 | tmp t=>exact hl t (List.mem_append_left _ (List.mem_filterMap.2 ⟨.tmp t,by simpa using hy,rfl⟩)) v hv
 | const c=>
   simp only[ZV]at hv
   split at hv
   ·rename_i hc;cases hv;exact r0a ι hc
   ·cases hv
 | global g=>
   simp only[ZV]at hv
   split at hv
   ·rename_i hg
    cases hv
    obtain ⟨e,he,hb,hs⟩:=s.glob g hg
    have:=VRel.ptr (ι:=ι) (o:=0) he
    rw[hb,hs]at this
    exact this
   ·cases hv
 | func f=>
   cases hv
   exact .func (fun l=>by simp) rfl (fun i v v' a=>by simp at a) rfl (fun i v v' a=>by simp at a)
theorem m9a {ι:Inj} {v v':Value} (h:VRel ι v v'):(∀ b,v=.bool b↔v'=.bool b):=by
 intro b
 cases h <;> simp
theorem O0a {ι:Inj} {nt:Nat} {ops:Array Oper} {fr:Fr} {tmps:Array Value} {o:Oper} {b:Bool} (hs:tmps.size=nt)
 (hd:∀ (j:Nat) (oj:Oper) d,ops[j]? = some oj→oj.dst=some d→d<nt)
 (hl:∀ t∈looks ops o,∀ v,fr t=some v→VRel ι v (tmps.getD t undef)) (h:ZK ops fr o=some b):Region.wanted o (yielded ops tmps)=b:=by
 unfold ZK at h
 unfold Region.wanted
 cases hg:o.guard with
 | none=>rw[hg]at h;cases h;rfl
 | some g=>
   obtain ⟨j,want⟩:=g
   rw[hg]at h
   simp only at h ⊢
   unfold yielded
   cases hj:(ops[j]?).bind (·.dst) with
   | none=>
     rw[hj]at h;cases h
     simp
   | some d=>
     rw[hj]at h
     simp only at h
     have hd':d<tmps.size:=by
      cases ho:ops[j]? with
      | none=>rw[ho]at hj;cases hj
      | some oj=>rw[ho]at hj;rw[hs];exact hd j oj d ho hj
     have hmem:d∈looks ops o:=List.mem_append_right _ (by rw[hg];simp[hj])
     have hget:tmps[d]? = some (tmps.getD d undef):=by simp[Array.getD,hd']
     simp only[Option.bind_some,hget]
     cases hf:fr d with
     | none=>rw[hf]at h;cases h
     | some v=>
       have hr:=hl d hmem v hf
       rw[hf]at h
       by_cases hb:∃ c,v=.bool c
       ·obtain ⟨c,rfl⟩:=hb
        rw[((m9a hr) c).1 rfl]
        simp only[Option.some.injEq]at h ⊢
        subst h
        cases c <;> cases want <;> rfl
       ·have hb':∀ c,tmps.getD d undef≠.bool c:=fun c hc=>hb ⟨c,((m9a hr) c).2 hc⟩
        have h1:b=false:=by
         split at h
         ·rename_i c heq;cases heq;exact absurd ⟨_,rfl⟩ hb
         ·cases h;rfl
         ·cases h
        subst h1
        generalize tmps.getD d undef=u at hb'
        cases u <;> first | rfl | exact absurd rfl (hb' _)
theorem x3a {P:Program} {ops:Array Oper} {nt:Nat} {o:Oper} {i:Nat} {fr:Fr} {h h':DHeap} {r:DEnd} {ι:Inj} {a:Act} {w:World} {rr:Option Nat} {n:Nat}
 {K:Act→World→Prop} {Q:Exit→Act→World→Prop} (hx:Ex P ops o fr h r h') (hi:ops[i]? = some o) (hnd:p1a o.op=false) (s:Sim ι h w) (hs:a.tmps.size=nt)
 (hd:∀ (j:Nat) (oj:Oper) d,ops[j]? = some oj→oj.dst=some d→d<nt)
 (hl:∀ t∈looks ops o,∀ v,fr t=some v→VRel ι v (a.tmps.getD t undef))
 (hK:∀ v,r=.ret v→∀ ι' v' w',VRel ι' v v'→Sim ι' h' w'→Step ι ι' h h' w w'→K (a.put o.dst v') w')
 (hQ:∀ v,r=.pan v→∀ ι' v' w',VRel ι' v v'→Sim ι' h' w'→Step ι ι' h h' w w'→Q (.panic [{ v:=v',recovered:=false }]) a w') :
 wpOpIn (FW rr) n P ops Q i K a w:=by
 have hab:∀ f,o.about P w a.eval=some f→(FW rr).fn f:=fun _ _=>trivial
 unfold Ex at hx
 unfold wpOpIn
 rw[hi]
 simp only
 cases hw:ZK ops fr o with
 | none=>rw[hw]at hx;exact hx.elim
 | some b=>
   rw[hw]at hx
   have hw':=O0a hs hd hl hw
   cases b with
   | false=>
     obtain ⟨rfl,rfl⟩:=hx
     rw[hw']
     simp only[Bool.false_eq_true,if_false]
     exact ⟨hab,hK _ rfl ι undef w (T1a ι) s (Step.refl ι _ w)⟩
   | true=>
     rw[hw']
     simp only[if_true]
     have hsem:o.semAt (FW rr).round a.eval=execOp a.eval o:=Oper.semAt_eq _ _ _ fun c hc=>by rw[hc]at hnd;cases hnd
     refine ⟨hab,?_⟩
     rw[hsem]
     have hρ:=l1a (P:=P) s (a:=a) hl
     simp only at hx
     cases hop:dOp P (ZV h.ng fr) o h with
     | bad=>rw[hop]at hx;exact hx.elim
     | pan v h1=>
       rw[hop]at hx
       obtain ⟨rfl,rfl⟩:=hx
       obtain ⟨he,v',hrun,hv⟩:=N6c hop w hρ
       rw[hrun,Oper.uponIn_panic]
       subst he
       exact hQ v rfl ι v' w hv s (Step.refl ι _ w)
     | ok x h1=>
       rw[hop]at hx
       obtain ⟨ι1,w1,x',hrun,hn,s1,st⟩:=A4a hop s hρ
       rw[hrun]
       cases x with
       | value v=>
         obtain ⟨rfl,rfl⟩:=hx
         cases x' with
         | value v'=>rw[Oper.uponIn_value];exact hK v rfl ι1 v' w1 hn s1 st
         | _=>exact hn.elim
       | skip=>
         obtain ⟨rfl,rfl⟩:=hx
         cases x' with
         | skip=>rw[Oper.uponIn_skip];exact hK _ rfl ι1 undef w1 (T1a _) s1 st
         | _=>exact hn.elim
       | enter f args=>
         cases x' with
         | enter f' args'=>
           obtain ⟨rfl,hargs,_⟩:=hn
           rw[Oper.uponIn_enter]
           refine ⟨fun hh=>absurd hh (by simp[FW]),?_⟩
           have hc:CallsIn (FW rr) (n - 1) P f' args' w1 fun e w'=>∃ ι',D1a ι' r e∧Sim ι' h' w'∧Step ι1 ι' h1 h' w1 w':=hx.2 (n - 1) ι1 w1 args' s1 hargs
           refine CallsIn.mono hc fun e w2 ⟨ι2,he,s2,st2⟩=>?_
           cases r with
           | ret v=>
             cases e with
             | returned v'=>exact hK v rfl ι2 v' w2 he s2 (st.trans st2)
             | _=>exact he.elim
           | pan v=>
             cases e with
             | panicked ch=>
               obtain ⟨v',rfl,hv⟩:=he
               exact hQ v rfl ι2 v' w2 hv s2 (st.trans st2)
             | _=>exact he.elim
         | _=>exact hn.elim
       | round l size tmps assign body=>
         cases x' with
         | round l' f' tmps' assign' body'=>
           obtain ⟨⟨e0,he0,hsh,rfl⟩,hargs,rfl,rfl⟩:=hn
           rw[Oper.uponIn_round]
           refine ⟨fun hh=>absurd hh (by simp[FW]),?_⟩
           have hc:RoundIn (FW rr) (n - 1) P e0.block f' tmps' assign' body' w1 fun e w'=>∃ ι',D1a ι' r e∧Sim ι' h' w'∧Step ι1 ι' h1 h' w1 w':=hx.2 (n - 1) ι1 w1 tmps' e0 f' s1 he0 hsh hargs
           refine RoundIn.mono hc fun e w2 ⟨ι2,he,s2,st2⟩=>?_
           cases r with
           | ret v=>
             cases e with
             | returned v'=>exact hK v rfl ι2 v' w2 he s2 (st.trans st2)
             | _=>exact he.elim
           | pan v=>
             cases e with
             | panicked ch=>
               obtain ⟨v',rfl,hv⟩:=he
               exact hQ v rfl ι2 v' w2 hv s2 (st.trans st2)
             | _=>exact he.elim
         | _=>exact hn.elim
       | defer f args=>exact hx.elim
       | recover=>exact hx.elim
       | pick l=>exact hx.elim
theorem DR.ofp_h {r:Option (Value × DHeap)} {x:XW} {h':DHeap} (hd:DR.ofp r=.ok x h'):∃ v,r=some (v,h'):=by
 cases r with
 | none=>cases hd
 | some p=>cases hd;exact ⟨_,rfl⟩
theorem DR.ofv_h {r:Option Value} {x:XW} {h h':DHeap} (hd:DR.ofv h r=.ok x h'):h'=h:=by
 cases r with
 | none=>cases hd
 | some p=>cases hd;rfl
theorem DR.ofh_h {r:Option DHeap} {x:XW} {h':DHeap} (hd:DR.ofh r=.ok x h'):r=some h':=by
 cases r with
 | none=>cases hd
 | some p=>cases hd;rfl
theorem v3b {P:Program} {s:Sem Value} {x:XW} {h h':DHeap} (hd:Xj P s h=.ok x h'):h'=h:=by
 unfold Xj at hd
 repeat' split at hd
 all_goals first | cases hd;rfl | cases hd
theorem x2c {P:Program} {t:TypeId} {h h':DHeap} {v:Value} (hd:k1a P t h=some (v,h')):HStep h h':=by
 unfold k1a at hd
 repeat' split at hd
 all_goals first | (cases hd;done) | (cases hd;exact .push _ _)
theorem N1b {P:Program} {t:TypeId} {n:Nat} {ps:List (Nat × Value)} {h h':DHeap} {v:Value} (hd:f0a P t n ps h=some (v,h')):HStep h h':=by
 unfold f0a at hd
 repeat' split at hd
 all_goals first | (cases hd;done) | (cases hd;exact .push _ _)
theorem Z2b {P:Program} {t:TypeId} {l c:Value} {h h':DHeap} {v:Value} (hd:R3a P t l c h=some (v,h')):HStep h h':=by
 unfold R3a at hd
 repeat' split at hd
 all_goals first | (cases hd;done) | (cases hd;exact .push _ _)
theorem J2c {P:Program} {t:TypeId} {a v:Value} {h h':DHeap} (hd:Yx P t a v h=some h'):HStep h h':=by
 unfold Yx at hd
 repeat' split at hd
 all_goals first | (cases hd;done) | (cases hd;exact .set _ _ _)
theorem X8b {P:Program} {ts:Array TypeId} {s x:Value} {h h':DHeap} {v:Value} (hd:u0a P ts s x h=some (v,h')):HStep h h':=by
 unfold u0a at hd
 repeat' split at hd
 all_goals first | (cases hd;done) | (cases hd;first | exact .refl _ | exact .push _ _ | exact (HStep.set _ _ _).trans (.push _ _))
theorem K6c {P:Program} {ts:Array TypeId} {s x:Value} {h h':DHeap} {v:Value} (hd:f8a P ts s x h=some (v,h')):HStep h h':=by
 unfold f8a at hd
 repeat' split at hd
 all_goals first | (cases hd;done) | (cases hd;first | exact .refl _ | exact .set _ _ _)
theorem z2c {P:Program} {ts:Array TypeId} {x:Value} {h h':DHeap} {v:Value} (hd:j3a P ts x h=some (v,h')):HStep h h':=by
 unfold j3a at hd
 repeat' split at hd
 all_goals first | (cases hd;done) | (cases hd;first | exact .refl _ | exact .set _ _ _)
theorem b9b {P:Program} {ts:Array TypeId} {x k:Value} {h h':DHeap} {v:Value} (hd:V2a P ts x k h=some (v,h')):HStep h h':=by
 unfold V2a at hd
 repeat' split at hd
 all_goals first | (cases hd;done) | (cases hd;first | exact .refl _ | exact .set _ _ _)
theorem a3b {P:Program} {t:TypeId} {x k v:Value} {h h':DHeap} (hd:F0a P t x k v h=some h'):HStep h h':=by
 unfold F0a at hd
 repeat' split at hd
 all_goals first | (cases hd;done) | (cases hd;exact .set _ _ _)
theorem V6b {P:Program} {s t:TypeId} {v:Value} {h h':DHeap} {x:XW} (hd:V0a P s t v h=.ok x h'):HStep h h':=by
 unfold V0a at hd
 repeat' split at hd
 all_goals first | (cases hd;done) | (cases hd;first | exact .refl _ | exact .push _ _) | (rw[v3b hd];exact .refl _)
theorem y2c {P:Program} {op:BinOp} {t:TypeId} {ox oy:Operand} {a b:Value} {h h':DHeap} {x:XW} (hd:ZX P op t ox oy a b h=.ok x h'):h'=h:=by
 unfold ZX at hd
 repeat' split at hd
 all_goals first | (cases hd;done) | (cases hd;rfl) | exact v3b hd
theorem H2c {P:Program} {t:TypeId} {x v:Value} {h h':DHeap} (hd:S3a P t x h=some (v,h')):HStep h h':=by
 unfold S3a at hd
 repeat' split at hd
 all_goals first | (cases hd;done) | (cases hd;exact .push _ _)
theorem z0b {v:Value} {h h':DHeap} {l:List (Value × DHeap)} (hd:s4a v h=some (l,h')):HStep h h'∧∀ p∈l,HStep h p.2:=by
 unfold s4a at hd
 split at hd
 ·split at hd
  ·cases hd
   exact ⟨.set _ _ _,fun p hp=>by simp only[List.mem_singleton]at hp;subst hp;exact .refl _⟩
  ·split at hd
   ·split at hd
    ·cases hd
    ·cases hd
     refine ⟨.set _ _ _,fun p hp=>?_⟩
     rcases List.mem_append.1 hp with hp | hp
     ·split at hp
      ·simp only[List.mem_singleton]at hp;subst hp;exact .refl _
      ·cases hp
     ·obtain ⟨e,_,rfl⟩:=List.mem_map.1 hp
      exact .set _ _ _
   ·cases hd
  ·cases hd
 ·cases hd
theorem D0a {P:Program} {ρ:Operand→Option Value} {o:Oper} {h h':DHeap} {x:XW} (hd:dOp P ρ o h=.ok x h'):HStep h h':=by
 unfold dOp at hd
 repeat' split at hd
 all_goals first
  | (cases hd;done)
  | (cases hd;exact .refl _)
  | (rw[DR.ofv_h hd];exact .refl _)
  | (rw[v3b hd];exact .refl _)
  | (rw[y2c hd];exact .refl _)
  | exact V6b hd
  | exact J2c (DR.ofh_h hd)
  | (rename_i hn;cases hd;exact (z0b hn).1)
  | exact a3b (DR.ofh_h hd)
  | (obtain ⟨v,hv⟩:=DR.ofp_h hd
     first
      | exact x2c hv
      | exact N1b hv
      | exact Z2b hv
      | exact X8b hv
      | exact K6c hv
      | exact z2c hv
      | exact b9b hv
      | exact H2c hv
      | (cases hv;exact .push _ _))
theorem w3a {P:Program} {ops:Array Oper} {o:Oper} {fr:Fr} {h h':DHeap} {r:DEnd} (hx:Ex P ops o fr h r h'):HStep h h':=by
 unfold Ex at hx
 split at hx
 ·exact hx.elim
 ·rw[hx.2];exact .refl _
 ·split at hx
  ·rename_i hop;rw[hx.2];exact D0a hop
  ·rename_i hop;rw[hx.2];exact D0a hop
  ·rename_i hop;exact (D0a hop).trans hx.1
  ·rename_i hop;exact (D0a hop).trans hx.1
  ·rename_i v h1 hop
   rw[hx.2]
   have:h1=h:=by
    unfold dOp at hop
    have dvp:∀ {s:Sem Value} {v:Value} {h h1:DHeap},Xj P s h=.pan v h1→h1=h:=by
     intro s v h h1 hd
     unfold Xj at hd
     repeat' split at hd
     all_goals first | cases hd;rfl | cases hd
    have ofp:∀ {r:Option (Value × DHeap)},DR.ofp r≠.pan v h1:=by intro r;cases r <;> simp[DR.ofp]
    have ofv:∀ {r:Option Value},DR.ofv h r≠.pan v h1:=by intro r;cases r <;> simp[DR.ofv]
    have ofh:∀ {r:Option DHeap},DR.ofh r≠.pan v h1:=by intro r;cases r <;> simp[DR.ofh]
    repeat' split at hop
    all_goals first
     | (cases hop;done)
     | (cases hop;rfl)
     | exact (ofp hop).elim
     | exact (ofv hop).elim
     | exact (ofh hop).elim
     | exact dvp hop
     | skip
    ·unfold ZX at hop
     repeat' split at hop
     all_goals first | (cases hop;done) | exact dvp hop
    ·unfold V0a at hop
     repeat' split at hop
     all_goals first | (cases hop;done) | exact dvp hop
   rw[this];exact .refl _
  ·exact hx.elim
end Go.D
namespace Go.D
def Xx (o:Oper):List Nat:=o.after.toList.filterMap fun e=>if Region.binds .any e then some e.on else none
def i3a (acc:List Nat):List Nat→Nat
 | []=>0
 | p :: ps=>2 ^ p ||| acc.getD p 0 ||| i3a acc ps
def Xz:List Oper→List Nat→List Nat
 | [],acc=>acc
 | o :: os,acc=>Xz os (acc++[i3a acc (Xx o)])
def x1a (b:List Nat) (i j:Nat):Bool:=if i<j then (b.getD j 0).testBit i else (b.getD i 0).testBit j
theorem y8a:∀ (os:List Oper) (acc:List Nat),∃ l,Xz os acc=acc++l
 | [],acc=>⟨[],by simp[Xz]⟩
 | o :: os,acc=>by
   obtain ⟨l,hl⟩:=y8a os (acc++[i3a acc (Xx o)])
   exact ⟨i3a acc (Xx o) :: l,by rw[Xz,hl];simp⟩
theorem D2b:∀ (os:List Oper) (acc:List Nat) (i:Nat) (o:Oper),os[i]? = some o →
 (Xz os acc).getD (acc.length+i) 0=i3a ((Xz os acc).take (acc.length+i)) (Xx o)
 | [],_,_,_,h=>by simp at h
 | o :: os,acc,0,o',h=>by
   simp only[List.getElem?_cons_zero,Option.some.injEq]at h
   subst h
   obtain ⟨l,hl⟩:=y8a os (acc++[i3a acc (Xx o)])
   rw[Xz,hl]
   simp[List.getD_eq_getElem?_getD,List.getElem?_append]
 | o :: os,acc,i+1,o',h=>by
   have:=D2b os (acc++[i3a acc (Xx o)]) i o' (by simpa using h)
   rw[Xz]
   simp only[List.length_append,List.length_cons,List.length_nil,Nat.zero_add]at this
   rw[show acc.length+(i+1)=acc.length+1+i by omega]
   exact this
theorem z8a (acc:List Nat):∀ (ps:List Nat) (j:Nat),(i3a acc ps).testBit j=true→∃ p∈ps,j=p∨(acc.getD p 0).testBit j=true
 | [],j,h=>by simp[i3a]at h
 | p :: ps,j,h=>by
   simp only[i3a,Nat.testBit_or,Bool.or_eq_true]at h
   rcases h with (h | h) | h
   ·rw[Nat.testBit_two_pow]at h
    exact ⟨p,by simp,.inl (by simpa using (Eq.symm (of_decide_eq_true h)))⟩
   ·exact ⟨p,by simp,.inr h⟩
   ·obtain ⟨q,hq,hh⟩:=z8a acc ps j h
    exact ⟨q,by simp[hq],hh⟩
theorem P4a {ops:Array Oper} {D:Nat→Prop} (hD:∀ (i:Nat) o,D i→ops[i]? = some o→∀ p∈Xx o,D p) :
 ∀ (i:Nat) o,ops[i]? = some o→(∀ p∈Xx o,D p)→∀ j,((Xz ops.toList []).getD i 0).testBit j=true→D j:=by
 intro i
 induction i using Nat.strongRecOn with
 | _ i ih=>
   intro o ho hp j hj
   have h1:=D2b ops.toList [] i o (by simpa using ho)
   simp only[List.length_nil,Nat.zero_add]at h1
   rw[h1]at hj
   obtain ⟨p,hpm,hh⟩:=z8a _ _ _ hj
   rcases hh with rfl | hh
   ·exact hp _ hpm
   ·by_cases hlt:p<i
    ·have hget:((Xz ops.toList []).take i).getD p 0=(Xz ops.toList []).getD p 0:=by
      simp[List.getD_eq_getElem?_getD,List.getElem?_take,hlt]
     rw[hget]at hh
     have hpi:p<ops.size:=Nat.lt_trans hlt (by
      have:=(Array.getElem?_eq_some_iff.1 ho).1;exact this)
     exact ih p hlt ops[p] (Array.getElem?_eq_getElem hpi) (hD p _ (hp p hpm) (Array.getElem?_eq_getElem hpi)) j hh
    ·have:((Xz ops.toList []).take i).getD p 0=0:=by
      simp[List.getD_eq_getElem?_getD,List.getElem?_take,hlt]
     rw[this]at hh
     simp at hh
section
variable (ops:Array Oper) (v:Nat→Value) (fr0:Fr)
def o2a (k:Nat):Option Tmp:=(ops[k]?).bind (·.dst)
def frD (D:Nat→Bool):Nat→Fr
 | 0=>fr0
 | k+1=>if D k then (frD D k).put (o2a ops k) (v k) else frD D k
variable {ops v fr0}
theorem c5a {D D':Nat→Bool} {t:Tmp}:∀ (M:Nat),(∀ j,j<M→o2a ops j=some t→D j=D' j)→frD ops v fr0 D M t=frD ops v fr0 D' M t
 | 0,_=>rfl
 | M+1,h=>by
   have ih:=c5a M fun j hj=>h j (Nat.lt_succ_of_lt hj)
   simp only[frD]
   by_cases hd:o2a ops M=some t
   ·rw[h M (Nat.lt_succ_self M) hd]
    split
    ·rw[hd];simp[Fr.put]
    ·exact ih
   ·have hp:∀ fr:Fr,(fr.put (o2a ops M) (v M)) t=fr t:=by
     intro fr
     cases hq:o2a ops M with
     | none=>rfl
     | some d=>
       have:t≠d:=fun e=>hd (by rw[hq,e])
       simp[Fr.put,this]
    have e1:∀ (b:Bool) (fr:Fr),(if b then fr.put (o2a ops M) (v M) else fr) t=fr t:=by
     intro b fr;cases b <;> simp[hp]
    rw[e1,e1];exact ih
theorem c9a {D:Nat→Bool} {t:Tmp} {k:Nat}:∀ (M:Nat),(∀ j,k≤j→j<k+M→o2a ops j=some t→D j=false)→frD ops v fr0 D (k+M) t=frD ops v fr0 D k t
 | 0,_=>rfl
 | M+1,h=>by
   have ih:=c9a M fun j h1 h2=>h j h1 (by omega)
   rw[← ih]
   show (if D (k+M) then (frD ops v fr0 D (k+M)).put (o2a ops (k+M)) (v (k+M)) else frD ops v fr0 D (k+M)) t=_
   split
   ·rename_i hD
    cases hq:o2a ops (k+M) with
    | none=>rfl
    | some d=>
      by_cases htd:t=d
      ·subst htd
       rw[h (k+M) (by omega) (by omega) hq]at hD
       cases hD
      ·simp[Fr.put,htd]
   ·rfl
end
def f2a (P:Program):Op→Bool
 | .move _ | .assign _ | .pick .. | .build .. | .nilCheck _ | .binOp .. | .unOp .. | .makeInterface .. | .makeFunc .. | .fieldAddr .. | .field .. | .indexAddr .. | .index .. | .typeAssert .. | .extract ..=>true
 | .convert src dst _=>
   match P.underlying dst,P.underlying src with
   | some (.slice _),_=>false
   | _,some (.slice _)=>false
   | some _,some _=>true
   | _,_=>false
 | _=>false
def S0a:Op→Bool
 | .load ..=>true
 | _=>false
def Xu (P:Program) (o:Op):Bool:=!f2a P o&&!S0a o
theorem B7a {P:Program} {s:Sem Value} {x:XW} {h h':DHeap} (hd:Xj P s h=.ok x h') (h2:DHeap):Xj P s h2=.ok x h2:=by
 unfold Xj at hd ⊢
 split at hd
 ·split at hd
  ·rename_i hf;cases hd;simp only[hf,if_true]
  ·cases hd
 ·split at hd <;> cases hd
 ·cases hd
theorem k9a {r:Option Value} {x:XW} {h h':DHeap} (hd:DR.ofv h r=.ok x h') (h2:DHeap):DR.ofv h2 r=.ok x h2:=by
 cases r <;> cases hd;rfl
theorem B8a {P:Program} {op:BinOp} {t:TypeId} {ox oy:Operand} {a b:Value} {h h':DHeap} {x:XW} (hd:ZX P op t ox oy a b h=.ok x h') (h2:DHeap):ZX P op t ox oy a b h2=.ok x h2:=by
 unfold ZX at hd ⊢
 split at hd
 ·rename_i hf;rw[if_pos hf];exact B7a hd h2
 ·rename_i hf
  rw[if_neg hf]
  split at hd
  ·rename_i hu
   split at hd
   ·rename_i hn
    split at hd <;> cases hd <;> simp[hn]
   ·cases hd
  ·cases hd
theorem P1b {P:Program} {s t:TypeId} {ox:Operand} {v:Value} {h h':DHeap} {x:XW} (hp:f2a P (.convert s t ox)=true) (hd:V0a P s t v h=.ok x h') (h2:DHeap):V0a P s t v h2=.ok x h2:=by
 unfold V0a at hd ⊢
 simp only[f2a]at hp
 split at hp
 ·cases hp
 ·cases hp
 ·rename_i h1 h3 e1 e2
  split at hd
  ·rename_i hf
   rw[if_pos hf]
   split at hd
   ·rename_i hu
    rw[e1]at hu;cases hu;exact (h1 _ rfl).elim
   ·exact B7a hd h2
  ·rename_i hf
   rw[if_neg hf]
   split at hd
   ·rename_i hu _
    rw[e2]at hu;cases hu;exact (h3 _ rfl).elim
   ·cases hd
 ·cases hp
theorem h3b {P:Program} {ρ:Operand→Option Value} {o:Oper} {x:XW} {h h':DHeap} (hp:f2a P o.op=true) (hd:dOp P ρ o h=.ok x h') (h2:DHeap):dOp P ρ o h2=.ok x h2:=by
 unfold dOp at hd ⊢
 split at hd
 all_goals first
  | (cases hd;done)
  | (rename_i ho;rw[ho]at hp;simp[f2a]at hp;done)
  | (rename_i ho;rw[ho]at hp;try simp only[ho])
 all_goals first
  | exact k9a hd h2
  | skip
 all_goals (repeat' split at hd)
 all_goals first
  | (cases hd;done)
  | (cases hd;simp_all;done)
  | (simp_all;exact k9a (by assumption) h2)
  | (simp_all;exact B7a (by assumption) h2)
  | (simp_all;exact B8a (by assumption) h2)
  | exact P1b hp hd h2
  | exact k9a hd h2
  | exact B8a hd h2
  | skip
theorem S4a {P:Program} {s:Sem Value} {x:XW} {h h':DHeap} (hd:Xj P s h=.ok x h'):∃ v,x=.value v:=by
 unfold Xj at hd
 repeat' split at hd
 all_goals first | (cases hd;exact ⟨_,rfl⟩) | cases hd
theorem F4a {r:Option Value} {x:XW} {h h':DHeap} (hd:DR.ofv h r=.ok x h'):∃ v,x=.value v:=by
 cases r <;> cases hd;exact ⟨_,rfl⟩
theorem P2b {P:Program} {op:BinOp} {t:TypeId} {ox oy:Operand} {a b:Value} {h h':DHeap} {x:XW} (hd:ZX P op t ox oy a b h=.ok x h'):∃ v,x=.value v:=by
 unfold ZX at hd
 repeat' split at hd
 all_goals first | (cases hd;done) | (cases hd;exact ⟨_,rfl⟩) | exact S4a hd
theorem i6a {P:Program} {s t:TypeId} {v:Value} {h h':DHeap} {x:XW} (hd:V0a P s t v h=.ok x h'):∃ v,x=.value v:=by
 unfold V0a at hd
 repeat' split at hd
 all_goals first | (cases hd;done) | (cases hd;exact ⟨_,rfl⟩) | exact S4a hd
theorem l6a {P:Program} {ρ:Operand→Option Value} {o:Oper} {x:XW} {h h':DHeap} (hp:f2a P o.op=true) (hd:dOp P ρ o h=.ok x h'):∃ v,x=.value v:=by
 unfold dOp at hd
 split at hd
 all_goals first
  | (cases hd;done)
  | (rename_i ho;rw[ho]at hp;simp[f2a]at hp;done)
  | exact F4a hd
  | skip
 all_goals (repeat' split at hd)
 all_goals first
  | (cases hd;done)
  | (cases hd;exact ⟨_,rfl⟩)
  | exact F4a hd
  | exact S4a hd
  | exact P2b hd
  | exact i6a hd
theorem C2c {P:Program} {ρ:Operand→Option Value} {o:Oper} {x:XW} {h h':DHeap} (hp:S0a o.op=true) (hd:dOp P ρ o h=.ok x h'):h'=h:=by
 unfold dOp at hd
 split at hd
 all_goals first
  | (cases hd;done)
  | (rename_i ho;rw[ho]at hp;simp[S0a]at hp;done)
  | skip
 ·split at hd
  ·exact DR.ofv_h hd
  ·cases hd
theorem k6a {P:Program} {ρ:Operand→Option Value} {o:Oper} {x:XW} {h h':DHeap} (hp:S0a o.op=true) (hd:dOp P ρ o h=.ok x h'):∃ v,x=.value v:=by
 unfold dOp at hd
 split at hd
 all_goals first
  | (cases hd;done)
  | (rename_i ho;rw[ho]at hp;simp[S0a]at hp;done)
  | skip
 ·split at hd
  ·exact F4a hd
  ·cases hd
theorem Z7a {P:Program} {ops:Array Oper} {o:Oper} {fr:Fr} {h h':DHeap} {v:Value} (hp:f2a P o.op=true) (hx:Ex P ops o fr h (.ret v) h') :
 h'=h∧∀ h2:DHeap,h2.ng=h.ng→Ex P ops o fr h2 (.ret v) h2:=by
 unfold Ex at hx
 split at hx
 ·exact hx.elim
 ·rename_i hw
  exact ⟨hx.2,fun h2 _=>by unfold Ex;rw[hw];exact ⟨hx.1,rfl⟩⟩
 ·rename_i hw
  cases hop:dOp P (ZV h.ng fr) o h with
  | bad=>rw[hop]at hx;exact hx.elim
  | pan u h1=>rw[hop]at hx;cases hx.1
  | ok x h1=>
    obtain ⟨u,rfl⟩:=l6a hp hop
    have h0:=h3b hp hop h
    rw[hop]at h0 hx
    cases h0
    exact ⟨hx.2,fun h2 hng=>by unfold Ex;rw[hw,hng,h3b hp hop h2];exact ⟨hx.1,rfl⟩⟩
theorem m0b {P:Program} {ops:Array Oper} {o:Oper} {fr:Fr} {h h':DHeap} {v:Value} (hp:S0a o.op=true) (hx:Ex P ops o fr h (.ret v) h'):h'=h:=by
 unfold Ex at hx
 split at hx
 ·exact hx.elim
 ·exact hx.2
 ·cases hop:dOp P (ZV h.ng fr) o h with
  | bad=>rw[hop]at hx;exact hx.elim
  | pan u h1=>rw[hop]at hx;cases hx.1
  | ok x h1=>
    obtain ⟨u,rfl⟩:=k6a hp hop
    rw[hop]at hx
    exact hx.2.trans (C2c hp hop)
structure v3a (P:Program) (ops:Array Oper):Prop where
 low:∀ (i:Nat) o,ops[i]? = some o→∀ p∈Xx o,p<i
 names:∀ (i j:Nat) oi oj d,ops[i]? = some oi→ops[j]? = some oj→i≠j→oj.dst=some d→(oi.dst=some d∨d∈looks ops oi)→x1a (Xz ops.toList []) i j=true
 bigs:∀ (i j:Nat) oi oj,ops[i]? = some oi→ops[j]? = some oj→i≠j→Xu P oi.op=true→Xu P oj.op=true→x1a (Xz ops.toList []) i j=true
 nodefer:∀ (i:Nat) o,ops[i]? = some o→p1a o.op=false
structure Trace (P:Program) (ops:Array Oper) (live:Nat→Bool) (fr:Nat→Fr) (st:Nat→DHeap) (v:Nat→Value):Prop where
 step:∀ (i:Nat) o,ops[i]? = some o→live i=true→Ex P ops o (fr i) (st i) (.ret (v i)) (st (i+1))∧fr (i+1)=(fr i).put o.dst (v i)
 skip:∀ (i:Nat) o,ops[i]? = some o→live i=false→st (i+1)=st i∧fr (i+1)=fr i
 stable:∀ (i j:Nat) oi oj,ops[i]? = some oi→ops[j]? = some oj→live i=true→live j=true→S0a oi.op=true→Xu P oj.op=true→x1a (Xz ops.toList []) i j=false →
  (j<i→Ex P ops oi (fr i) (st j) (.ret (v i)) (st j))∧(i<j→Ex P ops oi (fr i) (st (j+1)) (.ret (v i)) (st (j+1)))
def y0a (l:Array Bool):Nat→Nat
 | 0=>0
 | k+1=>y0a l k+if l.getD k true=false then 1 else 0
theorem d4a {l:Array Bool} {i:Nat} (hi:i<l.size) (h0:l.getD i true=false):∀ k,y0a (l.setIfInBounds i true) k+(if i<k then 1 else 0)=y0a l k
 | 0=>by simp[y0a]
 | k+1=>by
   have ih:=d4a hi h0 k
   simp only[y0a]
   by_cases hk:i=k
   ·subst hk
    have h1:(l.setIfInBounds i true).getD i true=true:=by simp[Array.getD,hi]
    rw[h1,h0]
    simp at ih ⊢
    exact ih
   ·have h1:(l.setIfInBounds i true).getD k true=l.getD k true:=by
     simp only[Array.getD_eq_getD_getElem?,Array.getElem?_setIfInBounds_ne hk]
    rw[h1]
    by_cases hlt:i<k
    ·rw[if_pos hlt]at ih;rw[if_pos (by omega:i<k+1)];omega
    ·rw[if_neg hlt]at ih;rw[if_neg (by omega:¬ i<k+1)];omega
theorem u3a {l:Array Bool}:∀ k,y0a l k=0→∀ i,i<k→l.getD i true=true
 | 0,_,i,hi=>absurd hi (Nat.not_lt_zero i)
 | k+1,h,i,hi=>by
   simp only[y0a]at h
   by_cases hik:i=k
   ·subst hik
    cases hl:l.getD i true with
    | true=>rfl
    | false=>rw[hl]at h;simp at h
   ·exact u3a k (by omega) i (by omega)
theorem I5a {r:Option (Value × DHeap)} {x:XW} {h':DHeap} (hd:DR.ofp r=.ok x h'):∃ v,x=.value v:=by
 cases r with
 | none=>cases hd
 | some p=>cases hd;exact ⟨_,rfl⟩
theorem D3c {r:Option DHeap} {x:XW} {h':DHeap} (hd:DR.ofh r=.ok x h'):x=.skip:=by
 cases r with
 | none=>cases hd
 | some p=>cases hd;rfl
theorem g7b {P:Program} {f:Value} {vs:List Value} {h:DHeap} {l:List (Value × DHeap)} (hd:Z0a P f vs h=some (.pick l)):False:=by
 unfold Z0a at hd
 repeat' split at hd
 all_goals (cases hd;done)
theorem C6a {P:Program} {ρ:Operand→Option Value} {o:Oper} {h h1:DHeap} {l:List (Value × DHeap)} (hop:dOp P ρ o h=.ok (.pick l) h1):∃ y v,o.op=.next y false∧ρ y=some v∧s4a v h=some (l,h1):=by
 by_cases hp:f2a P o.op=true
 ·obtain ⟨v,hv⟩:=l6a hp hop
  cases hv
 by_cases hl:S0a o.op=true
 ·obtain ⟨v,hv⟩:=k6a hl hop
  cases hv
 obtain ⟨dst,op,ty,pos,aft,gd⟩:=o
 have hp':f2a P op≠true:=hp
 have hl':S0a op≠true:=hl
 clear hp hl
 unfold dOp at hop
 cases op
 case next y b=>
  dsimp only at hop
  split at hop
  ·rename_i v hv
   split at hop
   ·rename_i l2 h2 hn
    cases hop
    exact ⟨y,v,rfl,hv,hn⟩
   ·cases hop
  ·cases hop
 case convert a b c=>
  exfalso
  dsimp only at hop
  split at hop
  ·obtain ⟨v,hv⟩:=i6a hop
   cases hv
  ·cases hop
 case call c=>
  exfalso
  dsimp only at hop
  split at hop
  case h_9=>
   split at hop
   ·split at hop
    ·rename_i heq
     cases hop
     exact g7b heq
    ·cases hop
   ·cases hop
  all_goals first
   | (cases hop;done)
   | (obtain ⟨v,hv⟩:=I5a hop;cases hv;done)
   | (obtain ⟨v,hv⟩:=F4a hop;cases hv;done)
   | (split at hop <;> first | (cases hop;done) | (obtain ⟨v,hv⟩:=S4a hop;cases hv;done))
 case defer c=>
  exfalso
  dsimp only at hop
  repeat' split at hop
  all_goals (cases hop;done)
 case makeMap t r=>
  exfalso
  cases r with
  | none=>
    obtain ⟨v,hv⟩:=I5a hop
    cases hv
  | some y=>cases hop
 all_goals exfalso
 all_goals try exact hp' rfl
 all_goals try exact hl' rfl
 all_goals try (cases hop;done)
 all_goals try (obtain ⟨v,hv⟩:=I5a hop;cases hv;done)
 all_goals dsimp only at hop
 all_goals split at hop
 all_goals try (cases hop;done)
 all_goals try (obtain ⟨v,hv⟩:=I5a hop;cases hv;done)
 all_goals try (obtain ⟨v,hv⟩:=F4a hop;cases hv;done)
 all_goals try (have hv:=D3c hop;cases hv;done)
theorem Y9a {P:Program} {ops:Array Oper} {nt:Nat} {o:Oper} {i:Nat} {fr:Fr} {h h1:DHeap} {l:List (Value × DHeap)} {ι:Inj} {a:Act} {w:World} {rr:Option Nat} {n:Nat}
 {K:Act→World→Prop} {Q:Exit→Act→World→Prop} (hwt:ZK ops fr o=some true) (hop:dOp P (ZV h.ng fr) o h=.ok (.pick l) h1) (hi:ops[i]? = some o) (s:Sim ι h w) (hs:a.tmps.size=nt)
 (hd:∀ (j:Nat) (oj:Oper) d,ops[j]? = some oj→oj.dst=some d→d<nt)
 (hl:∀ t∈looks ops o,∀ v,fr t=some v→VRel ι v (a.tmps.getD t undef))
 (hK:∀ p,p∈l→∀ v' w',VRel ι p.1 v'→Sim ι p.2 w'→Step ι ι h p.2 w w'→K (a.put o.dst v') w') :
 wpOpIn (FW rr) n P ops Q i K a w:=by
 have hρ:=l1a (P:=P) s (a:=a) hl
 obtain ⟨y,v,ho,hv,hn⟩:=C6a hop
 obtain ⟨w1,v1,p,r1,r2,r3,r4,r5,_,_⟩:=d3b (P:=P) hn s (hρ y (by rw[ho];simp[Op.operands]) _ hv) o.type
 unfold wpOpIn
 rw[hi]
 simp only
 rw[O0a hs hd hl hwt]
 simp only[if_true]
 have hsem:o.semAt (FW rr).round a.eval=execOp a.eval o:=Oper.semAt_eq _ _ _ fun c hc=>by rw[hc]at ho;cases ho
 refine ⟨fun _ _=>trivial,?_⟩
 rw[hsem]
 have hrun:(execOp a.eval o).run P w=.ok (.value v1) w1:=by
  simp only[execOp,ho,Sem.run_bind]
  rw[r1]
  rfl
 rw[hrun,Oper.uponIn_value]
 exact hK p r2 v1 w1 r3 r4 r5
end Go.D
namespace Go.D
variable {P:Program} {ops:Array Oper} {live:Nat→Bool} {fr:Nat→Fr} {st:Nat→DHeap} {v:Nat→Value} {nt:Nat}
theorem Trace.ng (T:Trace P ops live fr st v):∀ k,k≤ops.size→(st k).ng=(st 0).ng
 | 0,_=>rfl
 | k+1,h=>by
   have hk:k<ops.size:=h
   have ho:=Array.getElem?_eq_getElem hk
   rw[← T.ng k (Nat.le_of_lt hk)]
   cases hl:live k with
   | true=>exact (w3a (T.step k _ ho hl).1).ng
   | false=>rw[(T.skip k _ ho hl).1]
theorem Trace.quiet (T:Trace P ops live fr st v) {c:Nat}:∀ d,c+d≤ops.size→(∀ j oj,c≤j→j<c+d→ops[j]? = some oj→live j=true→Xu P oj.op=false)→st (c+d)=st c
 | 0,_,_=>rfl
 | d+1,h,hq=>by
   have hk:c+d<ops.size:=h
   have ho:=Array.getElem?_eq_getElem hk
   have ih:=T.quiet d (Nat.le_of_lt hk) fun j oj h1 h2=>hq j oj h1 (by omega)
   rw[← ih]
   show st (c+d+1)=st (c+d)
   cases hl:live (c+d) with
   | false=>exact (T.skip _ _ ho hl).1
   | true=>
     have hb:=hq (c+d) _ (by omega) (by omega) ho hl
     have hx:=(T.step _ _ ho hl).1
     simp only[Xu,Bool.and_eq_false_iff,Bool.not_eq_false']at hb
     rcases hb with hb | hb
     ·exact (Z7a hb hx).1
     ·exact m0b hb hx
theorem Trace.frames (T:Trace P ops live fr st v):∀ k,k≤ops.size→fr k=frD ops v (fr 0) live k
 | 0,_=>rfl
 | k+1,h=>by
   have hk:k<ops.size:=h
   have ho:=Array.getElem?_eq_getElem hk
   have ih:=T.frames k (Nat.le_of_lt hk)
   simp only[frD]
   cases hl:live k with
   | true=>rw[(T.step k _ ho hl).2,ih];simp[o2a,ho]
   | false=>rw[(T.skip k _ ho hl).2,ih];simp
structure Mid (P:Program) (ops:Array Oper) (live:Nat→Bool) (fr:Nat→Fr) (st:Nat→DHeap) (v:Nat→Value) (nt:Nat) (s:St) (rr:Option Nat) (ι0:Inj) (w0:World)
 (L:Array Bool) (c:Nat) (ι:Inj) (a:Act) (w:World):Prop where
 size:L.size=ops.size
 done:∀ i,i<ops.size→L.getD i false=true→live i=true
 down:∀ (i:Nat) o,L.getD i false=true→ops[i]? = some o→∀ p∈Xx o,L.getD p false=true
 hi:c≤ops.size
 big:∀ (j:Nat) oj,ops[j]? = some oj→Xu P oj.op=true→(L.getD j false=true→j<c)∧(live j=true→j<c→L.getD j false=true)
 last:c=0∨∃ J oJ,c=J+1∧ops[J]? = some oJ∧Xu P oJ.op=true∧L.getD J false=true
 fr:FRel ι nt (frD ops v (fr 0) (fun j=>L.getD j false) ops.size) a.tmps
 df:DefRel ι s.df a.defers
 sim:Sim ι (st c) w
 rd:RdRel ι s.rd rr
 step:Step ι0 ι (st 0) (st c) w0 w
theorem d5a {L:Array Bool} {i:Nat} (hi:i<L.size):L.getD i true=L.getD i false:=by simp[Array.getD,hi]
section
variable {s:St} {rr:Option Nat} {ι0 ι:Inj} {w0 w:World} {L:Array Bool} {c:Nat} {a:Act}
theorem Mid.closed (M:Mid P ops live fr st v nt s rr ι0 w0 L c ι a w) {i:Nat} {o:Oper} (ho:ops[i]? = some o) (hp:∀ p∈Xx o,L.getD p false=true) :
 ∀ j,((Xz ops.toList []).getD i 0).testBit j=true→L.getD j false=true:=
 P4a (D:=fun j=>L.getD j false=true) (fun i o hi ho p hp=>M.down i o hi ho p hp) i o ho hp
theorem Mid.looks (D:v3a P ops) (T:Trace P ops live fr st v) (M:Mid P ops live fr st v nt s rr ι0 w0 L c ι a w) {i:Nat} {o:Oper} (ho:ops[i]? = some o)
 (hp:∀ p∈Xx o,L.getD p false=true) (hn:L.getD i false=false):∀ t∈looks ops o,∀ u,fr i t=some u→VRel ι u (a.tmps.getD t undef):=by
 intro t ht u hu
 have hi:i<ops.size:=(Array.getElem?_eq_some_iff.1 ho).1
 refine M.fr.2 t u ?_
 rw[← hu,T.frames i (Nat.le_of_lt hi)]
 have hcut:frD ops v (fr 0) live i t=frD ops v (fr 0) (fun j=>live j&&decide (j<i)) ops.size t:=by
  obtain ⟨d,hd⟩:∃ d,ops.size=i+d:=⟨ops.size - i,by omega⟩
  rw[hd,c9a (k:=i) d (fun j h1 _ _=>by simp;intro;omega)]
  exact c5a i fun j hj _=>by simp[hj]
 rw[hcut]
 refine c5a _ fun j hj hd=>?_
 have hoj:=Array.getElem?_eq_getElem hj
 have hdj:ops[j].dst=some t:=by simpa [o2a,hoj] using hd
 by_cases hij:i=j
 ·subst hij;rw[hn];simp
 ·have hord:=D.names i j o ops[j] t ho hoj hij hdj (.inr ht)
  simp only[x1a]at hord
  by_cases hlt:i<j
  ·rw[if_pos hlt]at hord
   have:L.getD j false=false:=by
    cases hL:L.getD j false with
    | false=>rfl
    | true=>
      have:=M.closed hoj (M.down j _ hL hoj) i hord
      rw[hn]at this;cases this
   rw[this];simp;intro;omega
  ·rw[if_neg hlt]at hord
   have h1:=M.closed ho hp j hord
   rw[h1,M.done j hj h1]
   simp;omega
theorem Mid.here (D:v3a P ops) (T:Trace P ops live fr st v) (M:Mid P ops live fr st v nt s rr ι0 w0 L c ι a w) {i:Nat} {o:Oper} (ho:ops[i]? = some o)
 (hp:∀ p∈Xx o,L.getD p false=true) (hn:L.getD i false=false) (hb:Xu P o.op=true) :
 c≤i∧st i=st c:=by
 have hi:i<ops.size:=(Array.getElem?_eq_some_iff.1 ho).1
 have hci:c≤i:=by
  rcases M.last with h | ⟨J,oJ,hc,hoJ,hbJ,hJ⟩
  ·omega
  ·by_cases hJi:J<i
   ·omega
   ·exfalso
    have hne:i≠J:=fun e=>by rw[← e,hn]at hJ;cases hJ
    have hord:=D.bigs i J o oJ ho hoJ hne hb hbJ
    simp only[x1a]at hord
    rw[if_pos (by omega)]at hord
    have:=M.closed hoJ (M.down J _ hJ hoJ) i hord
    rw[hn]at this;cases this
 refine ⟨hci,?_⟩
 obtain ⟨d,rfl⟩:∃ d,i=c+d:=⟨i - c,by omega⟩
 refine T.quiet d (Nat.le_of_lt hi) fun j oj h1 h2 hoj hlj=>?_
 cases hbj:Xu P oj.op with
 | false=>rfl
 | true=>
   exfalso
   have hord:=D.bigs (c+d) j o oj ho hoj (by omega) hb hbj
   simp only[x1a]at hord
   rw[if_neg (by omega)]at hord
   have h3:=M.closed ho hp j hord
   have:=(M.big j oj hoj hbj).1 h3
   omega
theorem Mid.load (D:v3a P ops) (T:Trace P ops live fr st v) (M:Mid P ops live fr st v nt s rr ι0 w0 L c ι a w) {i:Nat} {o:Oper} (ho:ops[i]? = some o) (hl:live i=true)
 (hp:∀ p∈Xx o,L.getD p false=true) (hn:L.getD i false=false) (hld:S0a o.op=true):Ex P ops o (fr i) (st c) (.ret (v i)) (st c):=by
 have hi:i<ops.size:=(Array.getElem?_eq_some_iff.1 ho).1
 have hbase:=(T.step i o ho hl).1
 have hsame:=m0b hld hbase
 by_cases hci:c≤i
 ·
  by_cases hex:∃ j oj,c≤j∧j<i∧ops[j]? = some oj∧live j=true∧Xu P oj.op=true
  ·obtain ⟨j,⟨oj,h1,h2,h3,h4,h5⟩,hmin⟩:∃ j,(∃ oj,c≤j∧j<i∧ops[j]? = some oj∧live j=true∧Xu P oj.op=true) ∧
    ∀ k,k<j→¬ (∃ ok,c≤k∧k<i∧ops[k]? = some ok∧live k=true∧Xu P ok.op=true):=by
    obtain ⟨j,hj⟩:=hex
    have:∀ n,∀ j,j≤n→(∃ oj,c≤j∧j<i∧ops[j]? = some oj∧live j=true∧Xu P oj.op=true) →
     ∃ j,(∃ oj,c≤j∧j<i∧ops[j]? = some oj∧live j=true∧Xu P oj.op=true)∧∀ k,k<j→¬ (∃ ok,c≤k∧k<i∧ops[k]? = some ok∧live k=true∧Xu P ok.op=true):=by
     intro n
     induction n with
     | zero=>exact fun j hj h=>⟨j,h,fun k hk=>by omega⟩
     | succ n ih=>
       intro j hj h
       by_cases hk:∃ k,k<j∧(∃ ok,c≤k∧k<i∧ops[k]? = some ok∧live k=true∧Xu P ok.op=true)
       ·obtain ⟨k,hkj,hk⟩:=hk
        exact ih k (by omega) hk
       ·exact ⟨j,h,fun k hkj hk'=>hk ⟨k,hkj,hk'⟩⟩
    exact this j j (Nat.le_refl _) hj
   have hq:st j=st c:=by
    obtain ⟨d,rfl⟩:∃ d,j=c+d:=⟨j - c,by omega⟩
    refine T.quiet d (by omega) fun k ok g1 g2 g3 g4=>?_
    cases hbk:Xu P ok.op with
    | false=>rfl
    | true=>exact absurd ⟨ok,g1,by omega,g3,g4,hbk⟩ (hmin k g2)
   have hnord:x1a (Xz ops.toList []) i j=false:=by
    cases hord:x1a (Xz ops.toList []) i j with
    | false=>rfl
    | true=>
      simp only[x1a]at hord
      rw[if_neg (by omega)]at hord
      have h6:=M.closed ho hp j hord
      have:=(M.big j oj h3 h5).1 h6
      omega
   have:=(T.stable i j o oj ho h3 hl h4 hld h5 hnord).1 h2
   rw[hq]at this
   exact this
  ·have hq:st i=st c:=by
    obtain ⟨d,rfl⟩:∃ d,i=c+d:=⟨i - c,by omega⟩
    refine T.quiet d (Nat.le_of_lt hi) fun k ok g1 g2 g3 g4=>?_
    cases hbk:Xu P ok.op with
    | false=>rfl
    | true=>exact absurd ⟨k,ok,g1,g2,g3,g4,hbk⟩ hex
   rw[hsame,hq]at hbase
   exact hbase
 ·rcases M.last with h | ⟨J,oJ,hc,hoJ,hbJ,hJ⟩
  ·omega
  ·have hJs:J<ops.size:=(Array.getElem?_eq_some_iff.1 hoJ).1
   have hne:i≠J:=fun e=>by rw[← e,hn]at hJ;cases hJ
   have hnord:x1a (Xz ops.toList []) i J=false:=by
    cases hord:x1a (Xz ops.toList []) i J with
    | false=>rfl
    | true=>
      simp only[x1a]at hord
      rw[if_pos (by omega)]at hord
      have:=M.closed hoJ (M.down J _ hJ hoJ) i hord
      rw[hn]at this;cases this
   have:=(T.stable i J o oJ ho hoJ hl (M.done J hJs hJ) hld hbJ hnord).2 (by omega)
   rw[hc];exact this
theorem Mid.exec (D:v3a P ops) (T:Trace P ops live fr st v) (M:Mid P ops live fr st v nt s rr ι0 w0 L c ι a w) {i:Nat} {o:Oper} (ho:ops[i]? = some o) (hl:live i=true)
 (hp:∀ p∈Xx o,L.getD p false=true) (hn:L.getD i false=false) :
 (Xu P o.op=true∧c≤i∧Ex P ops o (fr i) (st c) (.ret (v i)) (st (i+1)))∨(Xu P o.op=false∧Ex P ops o (fr i) (st c) (.ret (v i)) (st c)):=by
 have hi:i<ops.size:=(Array.getElem?_eq_some_iff.1 ho).1
 cases hb:Xu P o.op with
 | true=>
   obtain ⟨h1,h2⟩:=M.here D T ho hp hn hb
   exact .inl ⟨rfl,h1,h2▸(T.step i o ho hl).1⟩
 | false=>
   refine .inr ⟨rfl,?_⟩
   simp only[Xu,Bool.and_eq_false_iff,Bool.not_eq_false']at hb
   rcases hb with hb | hb
   ·exact (Z7a hb (T.step i o ho hl).1).2 (st c) (by rw[T.ng c M.hi,T.ng i (Nat.le_of_lt hi)])
   ·exact M.load D T ho hl hp hn hb
theorem U4a {L:Array Bool} {i j:Nat} (hi:i<L.size):(L.setIfInBounds i true).getD j false=(if j=i then true else L.getD j false):=by
 by_cases h:j=i
 ·subst h;simp[Array.getD_eq_getD_getElem?,hi]
 ·rw[if_neg h]
  simp only[Array.getD_eq_getD_getElem?,Array.getElem?_setIfInBounds_ne (Ne.symm h)]
theorem Mid.next (D:v3a P ops) (hd:∀ (j:Nat) (oj:Oper) d,ops[j]? = some oj→oj.dst=some d→d<nt)
 (M:Mid P ops live fr st v nt s rr ι0 w0 L c ι a w) {i:Nat} {o:Oper} (ho:ops[i]? = some o) (hl:live i=true)
 (hp:∀ p∈Xx o,L.getD p false=true) (hn:L.getD i false=false) {c':Nat} {ι':Inj} {v':Value} {w':World}
 (hc:(Xu P o.op=true∧c≤i∧c'=i+1)∨(Xu P o.op=false∧c'=c)) (hv:VRel ι' (v i) v') (s':Sim ι' (st c') w') (sp:Step ι ι' (st c) (st c') w w') :
 Mid P ops live fr st v nt s rr ι0 w0 (L.setIfInBounds i true) c' ι' (a.put o.dst v') w':=by
 have hi:i<ops.size:=(Array.getElem?_eq_some_iff.1 ho).1
 have hiL:i<L.size:=by rw[M.size];exact hi
 have key:∀ j,(L.setIfInBounds i true).getD j false=(if j=i then true else L.getD j false):=fun j=>U4a hiL
 refine ⟨by simpa using M.size,fun j hj h=>?_,fun j oj h hoj p hpm=>?_,?_,fun j oj hoj hbj=>?_,?_,?_,?_,s',M.rd.mono sp.le,M.step.trans sp⟩
 ·rw[key]at h
  by_cases hji:j=i
  ·rw[hji];exact hl
  ·rw[if_neg hji]at h;exact M.done j hj h
 ·rw[key]at h ⊢
  by_cases hpi:p=i
  ·rw[if_pos hpi]
  ·rw[if_neg hpi]
   by_cases hji:j=i
   ·subst hji;rw[ho]at hoj;cases hoj;exact hp p hpm
   ·rw[if_neg hji]at h;exact M.down j oj h hoj p hpm
 ·rcases hc with ⟨_,_,rfl⟩ | ⟨_,rfl⟩
  ·exact hi
  ·exact M.hi
 ·rw[key]
  rcases hc with ⟨hb,hci,rfl⟩ | ⟨hb,rfl⟩
  ·refine ⟨fun h=>?_,fun hlj hlt=>?_⟩
   ·by_cases hji:j=i
    ·omega
    ·rw[if_neg hji]at h
     have:=(M.big j oj hoj hbj).1 h
     omega
   ·by_cases hji:j=i
    ·rw[if_pos hji]
    ·rw[if_neg hji]
     have hord:=D.bigs i j o oj ho hoj (Ne.symm hji) hb hbj
     simp only[x1a]at hord
     rw[if_neg (by omega)]at hord
     exact M.closed ho hp j hord
  ·by_cases hji:j=i
   ·subst hji;rw[ho]at hoj;cases hoj;rw[hb]at hbj;cases hbj
   ·rw[if_neg hji];exact M.big j oj hoj hbj
 ·rcases hc with ⟨hb,hci,rfl⟩ | ⟨hb,rfl⟩
  ·exact .inr ⟨i,o,rfl,ho,hb,by rw[key,if_pos rfl]⟩
  ·rcases M.last with h | ⟨J,oJ,h1,h2,h3,h4⟩
   ·exact .inl h
   ·refine .inr ⟨J,oJ,h1,h2,h3,?_⟩
    rw[key]
    by_cases hJi:J=i
    ·rw[if_pos hJi]
    ·rw[if_neg hJi];exact h4
 ·have hsz:(a.put o.dst v').tmps.size=nt:=by
   unfold Act.put
   split
   ·simpa using M.fr.1
   ·exact M.fr.1
  refine ⟨hsz,fun t u hu=>?_⟩
  by_cases hdt:o.dst=some t
  ·have htn:t<a.tmps.size:=by rw[M.fr.1];exact hd i o t ho hdt
   have e1:(a.put o.dst v').tmps.getD t undef=v':=by
    rw[hdt];simp[Act.put,Array.getD_eq_getD_getElem?,htn]
   have e2:frD ops v (fr 0) (fun j=>(L.setIfInBounds i true).getD j false) ops.size t=some (v i):=by
    obtain ⟨d,hdd⟩:∃ d,ops.size=(i+1)+d:=⟨ops.size - (i+1),by omega⟩
    rw[hdd,c9a (k:=i+1) d]
    ·have hb:(L.setIfInBounds i true).getD i false=true:=by rw[key,if_pos rfl]
     simp only[frD,hb,if_true]
     simp[o2a,ho,hdt,Fr.put]
    ·intro j h1 h2 h3
     show (L.setIfInBounds i true).getD j false=false
     rw[key,if_neg (by omega)]
     cases hL:L.getD j false with
     | false=>rfl
     | true=>
       exfalso
       have hj:j<ops.size:=by omega
       have hoj:=Array.getElem?_eq_getElem hj
       have hdj:ops[j].dst=some t:=by simpa [o2a,hoj] using h3
       have hord:=D.names i j o ops[j] t ho hoj (by omega) hdj (.inl hdt)
       simp only[x1a]at hord
       rw[if_pos (by omega)]at hord
       have:=M.closed hoj (M.down j _ hL hoj) i hord
       rw[hn]at this;cases this
   rw[e2]at hu
   cases hu
   rw[e1];exact hv
  ·have e1:(a.put o.dst v').tmps.getD t undef=a.tmps.getD t undef:=by
    unfold Act.put
    split
    ·rename_i d heq
     have:d≠t:=fun e=>hdt (by rw[heq,e])
     simp only[Array.getD_eq_getD_getElem?,Array.getElem?_setIfInBounds_ne this]
    ·rfl
   have e2:frD ops v (fr 0) (fun j=>(L.setIfInBounds i true).getD j false) ops.size t=frD ops v (fr 0) (fun j=>L.getD j false) ops.size t:=by
    refine c5a _ fun j hj hdj=>?_
    show (L.setIfInBounds i true).getD j false=_
    rw[key]
    by_cases hji:j=i
    ·subst hji
     exfalso;exact hdt (by simpa [o2a,ho] using hdj)
    ·rw[if_neg hji]
   rw[e2]at hu
   rw[e1];exact (M.fr.2 t u hu).mono sp.le
 ·have:(a.put o.dst v').defers=a.defers:=by unfold Act.put;split <;> rfl
  rw[this];exact M.df.mono sp.le
def z2a (ops:Array Oper) (fr:Fr):Fr:=fun t=>if ops.toList.any (fun o=>o.dst==some t) then none else fr t
theorem u7b {fr0:Fr} {D:Nat→Bool} {t:Tmp} {u:Value} (h:z2a ops fr0 t=some u) (v:Nat→Value):frD ops v fr0 D ops.size t=some u:=by
 unfold z2a at h
 split at h
 ·cases h
 ·rename_i hn
  rw[← h]
  have:frD ops v fr0 D ops.size t=frD ops v fr0 (fun _=>false) ops.size t:=by
   refine c5a _ fun j hj hd=>?_
   exfalso
   apply hn
   rw[List.any_eq_true]
   exact ⟨ops[j],by simp,by simpa [o2a,Array.getElem?_eq_getElem hj] using hd⟩
  rw[this]
  have:∀ k,frD ops v fr0 (fun _=>false) k=fr0:=by
   intro k;induction k with
   | zero=>rfl
   | succ k ih=>simp[frD,ih]
  rw[this]
structure g2b (P:Program) (ops:Array Oper) (live:Nat→Bool) (fr:Nat→Fr) (st:Nat→DHeap) (p:Nat) (o:Oper) (vp:Value) (hp:DHeap):Prop where
 op:ops[p]? = some o
 big:Xu P o.op=true
 ex:Ex P ops o (fr p) (st p) (.pan vp) hp
 dead:∀ i,i<ops.size→live i=false→i=p∨((Xz ops.toList []).getD i 0).testBit p=true
 not:live p=false
theorem d1b {n:Nat} {Q:Exit→Act→World→Prop} {s:St} {rr:Option Nat} {ι0:Inj} {w0:World} (D:v3a P ops) (T:Trace P ops live fr st v)
 (hd:∀ (j:Nat) (oj:Oper) d,ops[j]? = some oj→oj.dst=some d→d<nt)
 (hall:(∀ i,i<ops.size→live i=true)∨∃ p o vp hp,g2b P ops live fr st p o vp hp ∧
   ∀ ι' a' w' v',FRel ι' nt (z2a ops (fr 0)) a'.tmps→DefRel ι' s.df a'.defers→Sim ι' hp w'→RdRel ι' s.rd rr→Step ι0 ι' (st 0) hp w0 w'→VRel ι' vp v'→Q (.panic [{ v:=v',recovered:=false }]) a' w')
 (hnorm:(∀ i,i<ops.size→live i=true)→∀ ι' a' w',FRel ι' nt (fr ops.size) a'.tmps→DefRel ι' s.df a'.defers→Sim ι' (st ops.size) w'→RdRel ι' s.rd rr→Step ι0 ι' (st 0) (st ops.size) w0 w'→Q .normal a' w') :
 ∀ (fuel:Nat) (L:Array Bool) (c:Nat) (ι:Inj) (a:Act) (w:World),y0a L ops.size≤fuel→Mid P ops live fr st v nt s rr ι0 w0 L c ι a w →
  wpAnyIn (FW rr) n P .any ops Q fuel L a w:=by
 have fin:∀ (L:Array Bool) (c:Nat) (ι:Inj) (a:Act) (w:World),Mid P ops live fr st v nt s rr ι0 w0 L c ι a w→Region.ready .any ops L=[]→Q .normal a w:=by
  intro L c ι a w M hr
  have hfull:∀ i,i<ops.size→L.getD i false=true:=by
   intro i
   induction i using Nat.strongRecOn with
   | _ i ih=>
     intro hi
     cases hL:L.getD i false with
     | true=>rfl
     | false=>
       exfalso
       have:i∈Region.ready .any ops L:=mem_ready.2 ⟨by rw[d5a (by rw[M.size];exact hi)];exact hL,ops[i],Array.getElem?_eq_getElem hi,fun e he hb=>?_⟩
       ·rw[hr]at this;cases this
       ·have hpm:e.on∈Xx ops[i]:=List.mem_filterMap.2 ⟨e,by simpa using he,by rw[if_pos hb]⟩
        have hlt:=D.low i _ (Array.getElem?_eq_getElem hi) _ hpm
        exact ih e.on hlt (by omega)
  have hlive:∀ i,i<ops.size→live i=true:=fun i hi=>M.done i hi (hfull i hi)
  have hq:st ops.size=st c:=by
   obtain ⟨d,hdd⟩:∃ d,ops.size=c+d:=⟨ops.size - c,by have:=M.hi;omega⟩
   rw[hdd]
   refine T.quiet d (by omega) fun j oj h1 h2 h3 h4=>?_
   cases hb:Xu P oj.op with
   | false=>rfl
   | true=>
     have:=(M.big j oj h3 hb).1 (hfull j (Array.getElem?_eq_some_iff.1 h3).1)
     omega
  have hfr:frD ops v (fr 0) (fun j=>L.getD j false) ops.size=fr ops.size:=by
   rw[T.frames _ (Nat.le_refl _)]
   funext t
   exact c5a _ fun j hj _=>by rw[hfull j hj,hlive j hj]
  refine hnorm hlive ι a w (hfr▸M.fr) M.df (hq▸M.sim) M.rd (hq▸M.step)
 intro fuel
 induction fuel with
 | zero=>
   intro L c ι a w hu M
   have hr:Region.ready .any ops L=[]:=by
    rw[List.eq_nil_iff_forall_not_mem]
    intro i hi
    obtain ⟨h1,o,h2,_⟩:=mem_ready.1 hi
    have:=u3a (l:=L) ops.size (by omega) i (Array.getElem?_eq_some_iff.1 h2).1
    rw[h1]at this;cases this
   exact ⟨hr,fin L c ι a w M hr⟩
 | succ fuel ih=>
   intro L c ι a w hu M
   refine ⟨fin L c ι a w M,fun i hi=>?_⟩
   obtain ⟨h1,o,ho,h2⟩:=mem_ready.1 hi
   have his:i<ops.size:=(Array.getElem?_eq_some_iff.1 ho).1
   have hiL:i<L.size:=by rw[M.size];exact his
   have hn:L.getD i false=false:=by rw[← d5a hiL];exact h1
   have hp:∀ p∈Xx o,L.getD p false=true:=by
    intro p hp
    obtain ⟨e,he,hh⟩:=List.mem_filterMap.1 hp
    split at hh
    ·rename_i hb;cases hh;exact h2 e (by simpa using he) hb
    ·cases hh
   have hun:=d4a hiL h1 ops.size
   rw[if_pos his]at hun
   cases hl:live i with
   | true=>
     rcases M.exec D T ho hl hp hn with ⟨hb,hci,hx⟩ | ⟨hb,hx⟩
     ·refine x3a hx ho (D.nodefer i o ho) M.sim M.fr.1 hd (M.looks D T ho hp hn) (fun u hu' ι' v' w' hv s' sp=>?_) (fun u hu'=>by cases hu')
      cases hu'
      exact ih _ _ _ _ _ (by omega) (M.next D hd ho hl hp hn (.inl ⟨hb,hci,rfl⟩) hv s' sp)
     ·refine x3a hx ho (D.nodefer i o ho) M.sim M.fr.1 hd (M.looks D T ho hp hn) (fun u hu' ι' v' w' hv s' sp=>?_) (fun u hu'=>by cases hu')
      cases hu'
      exact ih _ _ _ _ _ (by omega) (M.next D hd ho hl hp hn (.inr ⟨hb,rfl⟩) hv s' sp)
   | false=>
     rcases hall with hall | ⟨p,op,vp,hpp,S,hQ⟩
     ·rw[hall i his]at hl;cases hl
     ·rcases S.dead i his hl with rfl | hbit
      ·have ho':=S.op
       rw[ho]at ho';cases ho'
       obtain ⟨_,hst⟩:=M.here D T ho hp hn S.big
       have hx:=S.ex
       rw[hst]at hx
       refine x3a hx ho (D.nodefer i o ho) M.sim M.fr.1 hd (M.looks D T ho hp hn) (fun u hu'=>by cases hu') (fun u hu' ι' v' w' hv s' sp=>?_)
       cases hu'
       exact hQ ι' a w' v' ⟨M.fr.1,fun t u hu=>(M.fr.2 t u (u7b hu v)).mono sp.le⟩ (M.df.mono sp.le) s' (M.rd.mono sp.le) (M.step.trans sp) hv
      ·exfalso
       have:=M.closed ho hp p hbit
       have hps:p<ops.size:=(Array.getElem?_eq_some_iff.1 S.op).1
       have:=M.done p hps this
       rw[S.not]at this;cases this
end
end Go.D
namespace Go.D
variable {P:Program} {nt:Nat}
def Xk (o:Oper) (s:St) (r:DEnd) (h':DHeap) (K:St→Prop) (Q:Zv→St→Prop):Prop:=
 match r with
 | .ret v=>K ⟨s.fr.put o.dst v,s.df,h',s.rd⟩
 | .pan v=>Q (.pan v) ⟨s.fr,s.df,h',s.rd⟩
def m4c (P:Program) (o:Oper) (s:St) (x:DR) (K:St→Prop) (Q:Zv→St→Prop):Prop:=
 match x with
 | .ok (.value v) h=>K ⟨s.fr.put o.dst v,s.df,h,s.rd⟩
 | .ok .skip h=>K ⟨s.fr.put o.dst undef,s.df,h,s.rd⟩
 | .ok (.enter f args) h=>∃ r h',DC P f args h r h'∧Xk o s r h' K Q
 | .ok (.round l size tmps assign body) h=>∃ r h',DRd P l size tmps assign body h r h'∧Xk o s r h' K Q
 | .ok (.defer f args) h=>s.rd=none∧K ⟨s.fr.put o.dst undef,.fn f args :: s.df,h,s.rd⟩
 | .pan v h=>Q (.pan v) ⟨s.fr,s.df,h,s.rd⟩
 | _=>False
def J4a (P:Program) (ops:Array Oper):List Oper→St→(Zv→St→Prop)→Prop
 | [],s,Q=>Q .normal s
 | o :: rest,s,Q=>
   match ZK ops s.fr o with
   | none=>False
   | some false=>J4a P ops rest ⟨s.fr.put o.dst undef,s.df,s.h,s.rd⟩ Q
   | some true=>m4c P o s (dOp P (ZV s.h.ng s.fr) o s.h) (fun s=>J4a P ops rest s Q) Q
def I0a (nt:Nat) (ops:Array Oper):Bool:=ops.toList.all fun o=>match o.dst with | none=>true | some d=>decide (d<nt)
theorem g0a {ops:Array Oper} (h:I0a nt ops=true):∀ (j:Nat) (oj:Oper) d,ops[j]? = some oj→oj.dst=some d→d<nt:=by
 intro j oj d hj hd
 have:=List.all_eq_true.1 h oj (List.mem_of_getElem? (i:=j) (by simpa using hj))
 rw[hd]at this
 simpa using this
def XC (P:Program) (nt:Nat) (c:Code) (Q:Zv→St→Prop) (s:St):Prop:=∃ e s',EC P nt c s e s'∧Q e s'
theorem q1a {ι:Inj} {s:St} {r:Option Nat} {a:Act} {w:World} {dst:Option Tmp} {v v':Value} (hf:FRel ι nt s.fr a.tmps) (hd:∀ d,dst=some d→d<nt) (hv:VRel ι v v'):FRel ι nt (s.fr.put dst v) (a.put dst v').tmps:=by
 cases dst with
 | none=>exact hf
 | some d=>exact FRel.put hf (hd d rfl) hv
theorem z0a (a:Act) (dst:Option Tmp) (v:Value):(a.put dst v).defers=a.defers:=by unfold Act.put;split <;> rfl
theorem G2a {k m:Nat} (h:k<m):List.range' k (m - k)=k :: List.range' (k+1) (m - (k+1)):=by
 obtain ⟨d,rfl⟩:∃ d,m=k+1+d:=⟨m - (k+1),by omega⟩
 rw[show k+1+d - k=d+1 by omega,show k+1+d - (k+1)=d by omega]
 rfl
theorem EC.mono {c:Code} {s s':St} {e:Zv} (h:EC P nt c s e s') {n:Nat} {r:Option Nat} {ι:Inj} {a:Act} {w:World} (hs:Wy nt ι s r a w) {Qc:Exit→Act→World→Prop}
 (hQ:∀ ι' ex a' w',J1a ι' e ex→Wy nt ι' s' r a' w'→Step ι ι' s.h s'.h w w'→Qc ex a' w'):c.wpIn (FW r) n P Qc a w:=
 wpIn_mono (h.2 n r ι a w hs) fun ex a' w' ⟨ι',g1,g2,g3⟩=>hQ ι' ex a' w' g1 g2 g3
theorem XC.mono {c:Code} {Q Q':Zv→St→Prop} {s:St} (h:XC P nt c Q s) (hq:∀ e s,Q e s→Q' e s):XC P nt c Q' s:=
 let ⟨e,s',he,hQ⟩:=h;⟨e,s',he,hq _ _ hQ⟩
theorem Q5c {Q:Zv→St→Prop} {s:St} (h:Q .normal s):XC P nt .skip Q s:=
 ⟨.normal,s,⟨.refl _,fun n r ι a w hs=>wpIn_skip ⟨ι,trivial,hs,Step.refl ι _ w⟩⟩,h⟩
theorem x1c {l:Nat} {Q:Zv→St→Prop} {s:St} (h:Q .normal s):XC P nt (.label l) Q s:=
 ⟨.normal,s,⟨.refl _,fun n r ι a w hs=>wpIn_label ⟨ι,trivial,hs,Step.refl ι _ w⟩⟩,h⟩
theorem P5c {id:Nat} {Q:Zv→St→Prop} {s:St} (h:Q (.exit id) s):XC P nt (.exit id) Q s:=
 ⟨.exit id,s,⟨.refl _,fun n r ι a w hs=>wpIn_exit ⟨ι,rfl,hs,Step.refl ι _ w⟩⟩,h⟩
theorem V8c {Q:Zv→St→Prop} {s:St} (h:Q .ret s):XC P nt .ret Q s:=
 ⟨.ret,s,⟨.refl _,fun n r ι a w hs=>wpIn_ret ⟨ι,trivial,hs,Step.refl ι _ w⟩⟩,h⟩
def N0a (K:St→Prop) (Q:Zv→St→Prop):Zv→St→Prop
 | .normal,s=>K s
 | e,s=>Q e s
def P0a (id:Nat) (Q:Zv→St→Prop):Zv→St→Prop
 | .exit id',s=>if id'=id then Q .normal s else Q (.exit id') s
 | e,s=>Q e s
end Go.D
namespace Go.D
variable {P:Program} {nt:Nat}
def s3b (P:Program) (ops:Array Oper):Bool:=
 let b:=Xz ops.toList []
 (List.range ops.size).all fun i=>
   match ops[i]? with
   | none=>true
   | some oi=>
     (Xx oi).all (fun p=>decide (p<i))&&!p1a oi.op &&
     (List.range ops.size).all fun j=>
       i==j ||
       match ops[j]? with
       | none=>true
       | some oj=>
         (match oj.dst with
          | none=>true
          | some d=>!(oi.dst==some d||(looks ops oi).contains d)||x1a b i j) &&
         (!(Xu P oi.op&&Xu P oj.op)||x1a b i j)
theorem R4b {ops:Array Oper} (h:s3b P ops=true):v3a P ops:=by
 have get:∀ (i:Nat) oi,ops[i]? = some oi→(∀ p∈Xx oi,p<i)∧p1a oi.op=false ∧
  ∀ (j:Nat) oj,ops[j]? = some oj→i≠j→(∀ d,oj.dst=some d→(oi.dst=some d∨d∈looks ops oi)→x1a (Xz ops.toList []) i j=true) ∧
   (Xu P oi.op=true→Xu P oj.op=true→x1a (Xz ops.toList []) i j=true):=by
  intro i oi hi
  have his:=(Array.getElem?_eq_some_iff.1 hi).1
  have h1:=List.all_eq_true.1 h i (List.mem_range.2 his)
  rw[hi]at h1
  simp only[Bool.and_eq_true,Bool.not_eq_true']at h1
  obtain ⟨⟨h1,h2⟩,h3⟩:=h1
  refine ⟨fun p hp=>by simpa using List.all_eq_true.1 h1 p hp,h2,fun j oj hj hij=>?_⟩
  have hjs:=(Array.getElem?_eq_some_iff.1 hj).1
  have h4:=List.all_eq_true.1 h3 j (List.mem_range.2 hjs)
  rw[hj]at h4
  have hne:(i==j)=false:=by simpa using hij
  rw[hne]at h4
  simp only[Bool.false_or,Bool.and_eq_true]at h4
  refine ⟨fun d hd hh=>?_,fun ha hb=>?_⟩
  ·have h5:=h4.1
   rw[hd]at h5
   have:(oi.dst==some d||(looks ops oi).contains d)=true:=by
    rcases hh with hh | hh
    ·simp[hh]
    ·simp[hh]
   simp only[this,Bool.not_true,Bool.false_or]at h5
   exact h5
  ·have h5:=h4.2
   rw[ha,hb]at h5
   simpa using h5
 exact ⟨fun i o ho=>(get i o ho).1,fun i j oi oj d hi hj hij hd hh=>((get i oi hi).2.2 j oj hj hij).1 d hd hh,
  fun i j oi oj hi hj hij ha hb=>((get i oi hi).2.2 j oj hj hij).2 ha hb,fun i o ho=>(get i o ho).2.1⟩
def k4a (P:Program) (ops:Array Oper):List (Nat × Nat):=
 let b:=Xz ops.toList []
 (List.range ops.size).flatMap fun i=>(List.range ops.size).filterMap fun j=>
   match ops[i]?,ops[j]? with
   | some oi,some oj=>if S0a oi.op&&Xu P oj.op&&!x1a b i j then some (i,j) else none
   | _,_=>none
theorem V3b {ops:Array Oper} {i j:Nat} {oi oj:Oper} (hi:ops[i]? = some oi) (hj:ops[j]? = some oj) (hl:S0a oi.op=true) (hb:Xu P oj.op=true)
 (ho:x1a (Xz ops.toList []) i j=false):(i,j)∈k4a P ops:=by
 refine List.mem_flatMap.2 ⟨i,List.mem_range.2 (Array.getElem?_eq_some_iff.1 hi).1,List.mem_filterMap.2 ⟨j,List.mem_range.2 (Array.getElem?_eq_some_iff.1 hj).1,?_⟩⟩
 simp[hi,hj,hl,hb,ho]
inductive TE
 | ld (fr:Fr) (v:Value)
 | big (h h':DHeap)
 | no
def v0a (o:Oper) (fr:Fr) (h:DHeap) (v:Value) (h':DHeap):TE:=if S0a o.op then .ld fr v else .big h h'
def p7a (P:Program) (ops:Array Oper) (tr:List TE) (i j:Nat):Prop:=
 match ops[i]?,tr[i]?,tr[j]? with
 | some o,some (.ld fr v),some (.big h h')=>Ex P ops o fr (if j<i then h else h') (.ret v) (if j<i then h else h')
 | _,some .no,_=>True
 | _,_,some .no=>True
 | _,_,_=>False
def s3a (P:Program) (ops:Array Oper) (tr:List TE):List (Nat × Nat)→Prop
 | []=>True
 | (i,j) :: ps=>p7a P ops tr i j∧s3a P ops tr ps
theorem S0b {ops:Array Oper} {tr:List TE}:∀ {ps:List (Nat × Nat)} {i j:Nat},s3a P ops tr ps→(i,j)∈ps→p7a P ops tr i j
 | (i',j') :: ps,i,j,⟨h1,h2⟩,hm=>by
   rcases List.mem_cons.1 hm with h | h
   ·cases h;exact h1
   ·exact S0b h2 h
def p4a (P:Program) (ops:Array Oper) (b:List Nat) (p:Nat) (fin:List TE→Prop):List Oper→Nat→Fr→DHeap→List TE→Prop
 | [],_,_,_,tr=>fin tr
 | o :: rest,k,fr,h,tr=>
   if (b.getD k 0).testBit p then p4a P ops b p fin rest (k+1) fr h (tr++[.no])
   else ∃ v,Ex P ops o fr h (.ret v) h∧p4a P ops b p fin rest (k+1) (fr.put o.dst v) h (tr++[v0a o fr h v h])
def XZ (P:Program) (ops:Array Oper) (b:List Nat) (ps:List (Nat × Nat)) (fr0:Fr) (Q:Zv→St→Prop):List Oper→Nat→St→List TE→Prop
 | [],_,s,tr=>s3a P ops tr ps∧Q .normal s
 | o :: rest,k,s,tr=>
   let late (v:Value) (h':DHeap):Prop:=Xu P o.op=true∧p4a P ops b k (fun tr=>s3a P ops tr ps∧Q (.pan v) ⟨z2a ops fr0,s.df,h',s.rd⟩) rest (k+1) s.fr s.h (tr++[.no])
   match ZK ops s.fr o with
   | none=>False
   | some false=>XZ P ops b ps fr0 Q rest (k+1) ⟨s.fr.put o.dst undef,s.df,s.h,s.rd⟩ (tr++[v0a o s.fr s.h undef s.h])
   | some true=>
     match dOp P (ZV s.h.ng s.fr) o s.h with
     | .ok (.value v) h=>XZ P ops b ps fr0 Q rest (k+1) ⟨s.fr.put o.dst v,s.df,h,s.rd⟩ (tr++[v0a o s.fr s.h v h])
     | .ok .skip h=>XZ P ops b ps fr0 Q rest (k+1) ⟨s.fr.put o.dst undef,s.df,h,s.rd⟩ (tr++[v0a o s.fr s.h undef h])
     | .ok (.enter f args) h1=>∃ r h',DC P f args h1 r h'∧match r with
       | .ret v=>XZ P ops b ps fr0 Q rest (k+1) ⟨s.fr.put o.dst v,s.df,h',s.rd⟩ (tr++[v0a o s.fr s.h v h'])
       | .pan v=>late v h'
     | .ok (.round l z t a bd) h1=>∃ r h',DRd P l z t a bd h1 r h'∧match r with
       | .ret v=>XZ P ops b ps fr0 Q rest (k+1) ⟨s.fr.put o.dst v,s.df,h',s.rd⟩ (tr++[v0a o s.fr s.h v h'])
       | .pan v=>late v h'
     | .pan v h'=>late v h'
     | _=>False
structure Pre (P:Program) (ops:Array Oper) (live:Nat→Bool) (fr:Nat→Fr) (st:Nat→DHeap) (v:Nat→Value) (k:Nat) (tr:List TE):Prop where
 len:tr.length=k
 step:∀ (i:Nat) o,i<k→ops[i]? = some o→live i=true→Ex P ops o (fr i) (st i) (.ret (v i)) (st (i+1))∧fr (i+1)=(fr i).put o.dst (v i)∧tr[i]? = some (v0a o (fr i) (st i) (v i) (st (i+1)))
 skip:∀ (i:Nat) o,i<k→ops[i]? = some o→live i=false→st (i+1)=st i∧fr (i+1)=fr i∧tr[i]? = some .no
theorem Pre.trace {ops:Array Oper} {live:Nat→Bool} {fr:Nat→Fr} {st:Nat→DHeap} {v:Nat→Value} {tr:List TE} (p:Pre P ops live fr st v ops.size tr) (hs:s3a P ops tr (k4a P ops)):Trace P ops live fr st v where
 step:=fun i o ho hl=>let ⟨a,b,_⟩:=p.step i o (Array.getElem?_eq_some_iff.1 ho).1 ho hl;⟨a,b⟩
 skip:=fun i o ho hl=>let ⟨a,b,_⟩:=p.skip i o (Array.getElem?_eq_some_iff.1 ho).1 ho hl;⟨a,b⟩
 stable:=fun i j oi oj hi hj hli hlj hld hb hord=>by
  have h1:=S0b hs (V3b hi hj hld hb hord)
  have h2:=(p.step i oi (Array.getElem?_eq_some_iff.1 hi).1 hi hli).2.2
  have h3:=(p.step j oj (Array.getElem?_eq_some_iff.1 hj).1 hj hlj).2.2
  have hnl:S0a oj.op=false:=by
   simp only[Xu,Bool.and_eq_true,Bool.not_eq_true']at hb
   exact hb.2
  rw[v0a,if_pos hld]at h2
  rw[v0a,hnl]at h3
  simp only[Bool.false_eq_true,if_false]at h3
  unfold p7a at h1
  rw[hi,h2,h3]at h1
  simp only at h1
  refine ⟨fun hlt=>by rw[if_pos hlt]at h1;exact h1,fun hlt=>by rw[if_neg (by omega)]at h1;exact h1⟩
def upd {α:Type} (f:Nat→α) (k:Nat) (x:α):Nat→α:=fun i=>if i=k then x else f i
theorem upd_same {α:Type} (f:Nat→α) (k:Nat) (x:α):upd f k x k=x:=by simp[upd]
theorem Yy {α:Type} (f:Nat→α) {k i:Nat} (x:α) (h:i≠k):upd f k x i=f i:=by simp[upd,h]
theorem Pre.live_add {ops:Array Oper} {live:Nat→Bool} {fr:Nat→Fr} {st:Nat→DHeap} {v:Nat→Value} {k:Nat} {tr:List TE} (p:Pre P ops live fr st v k tr) {o:Oper} (ho:ops[k]? = some o)
 {u:Value} {h':DHeap} (hx:Ex P ops o (fr k) (st k) (.ret u) h') :
 Pre P ops (upd live k true) (upd fr (k+1) ((fr k).put o.dst u)) (upd st (k+1) h') (upd v k u) (k+1) (tr++[v0a o (fr k) (st k) u h']) where
 len:=by simp[p.len]
 step:=fun i oi hi hoi hl=>by
  by_cases hik:i=k
  ·subst hik
   rw[ho]at hoi;cases hoi
   simp only[upd_same,Yy _ _ (show i≠i+1 by omega)]
   refine ⟨hx,trivial,?_⟩
   rw[List.getElem?_append_right (by rw[p.len];omega),p.len];simp
  ·rw[Yy _ _ hik]at hl
   obtain ⟨a,b,c⟩:=p.step i oi (by omega) hoi hl
   rw[Yy fr _ (by omega),Yy fr _ (by omega),Yy st _ (by omega),Yy st _ (by omega),Yy v _ hik]
   exact ⟨a,b,by rw[List.getElem?_append_left (by rw[p.len];omega)];exact c⟩
 skip:=fun i oi hi hoi hl=>by
  by_cases hik:i=k
  ·subst hik;rw[upd_same]at hl;cases hl
  ·rw[Yy _ _ hik]at hl
   obtain ⟨a,b,c⟩:=p.skip i oi (by omega) hoi hl
   rw[Yy fr _ (by omega),Yy fr _ (by omega),Yy st _ (by omega),Yy st _ (by omega)]
   exact ⟨a,b,by rw[List.getElem?_append_left (by rw[p.len];omega)];exact c⟩
theorem Pre.dead_add {ops:Array Oper} {live:Nat→Bool} {fr:Nat→Fr} {st:Nat→DHeap} {v:Nat→Value} {k:Nat} {tr:List TE} (p:Pre P ops live fr st v k tr) :
 Pre P ops (upd live k false) (upd fr (k+1) (fr k)) (upd st (k+1) (st k)) v (k+1) (tr++[.no]) where
 len:=by simp[p.len]
 step:=fun i oi hi hoi hl=>by
  by_cases hik:i=k
  ·subst hik;rw[upd_same]at hl;cases hl
  ·rw[Yy _ _ hik]at hl
   obtain ⟨a,b,c⟩:=p.step i oi (by omega) hoi hl
   rw[Yy fr _ (by omega),Yy fr _ (by omega),Yy st _ (by omega),Yy st _ (by omega)]
   exact ⟨a,b,by rw[List.getElem?_append_left (by rw[p.len];omega)];exact c⟩
 skip:=fun i oi hi hoi hl=>by
  by_cases hik:i=k
  ·subst hik
   exact ⟨by rw[upd_same,Yy _ _ (show i≠i+1 by omega)],by rw[upd_same,Yy _ _ (show i≠i+1 by omega)],by rw[List.getElem?_append_right (by rw[p.len];omega),p.len];simp⟩
  ·rw[Yy _ _ hik]at hl
   obtain ⟨a,b,c⟩:=p.skip i oi (by omega) hoi hl
   rw[Yy fr _ (by omega),Yy fr _ (by omega),Yy st _ (by omega),Yy st _ (by omega)]
   exact ⟨a,b,by rw[List.getElem?_append_left (by rw[p.len];omega)];exact c⟩
theorem D5a {ops:Array Oper} {k:Nat} {o:Oper} {rest:List Oper} (hl:ops.toList.drop k=o :: rest):k<ops.size∧ops[k]? = some o∧ops.toList.drop (k+1)=rest:=by
 refine ⟨?_,?_,?_⟩
 ·have:=congrArg List.length hl
  simp at this;omega
 ·have:(ops.toList.drop k)[0]? = some o:=by rw[hl];rfl
  simpa using this
 ·rw[← List.tail_drop,hl];rfl
theorem t3b {ops:Array Oper} {k:Nat} (hk:k≤ops.size) (hl:ops.toList.drop k=[]):k=ops.size:=by
 have:=congrArg List.length hl
 simp at this;omega
theorem N5a {ops:Array Oper} {b:List Nat} {p:Nat} {fin:List TE→Prop}:∀ (l:List Oper) (k:Nat) (tr:List TE) (live:Nat→Bool) (fr:Nat→Fr) (st:Nat→DHeap) (v:Nat→Value),
 k≤ops.size→ops.toList.drop k=l→Pre P ops live fr st v k tr→p<k→p4a P ops b p fin l k (fr k) (st k) tr →
 ∃ tr' live' fr' st' v',Pre P ops live' fr' st' v' ops.size tr'∧fin tr'∧(∀ i,i<k→live' i=live i∧fr' i=fr i∧st' i=st i)∧(∀ i,k≤i→i<ops.size→live' i=false→(b.getD i 0).testBit p=true)
 | [],k,tr,live,fr,st,v,hk,hl,hp,hpk,h=>by
   have:=t3b hk hl
   subst this
   exact ⟨tr,live,fr,st,v,hp,h,fun i _=>⟨rfl,rfl,rfl⟩,fun i h1 h2=>by omega⟩
 | o :: rest,k,tr,live,fr,st,v,hk,hl,hp,hpk,h=>by
   obtain ⟨hks,ho,hr⟩:=D5a hl
   simp only[p4a]at h
   split at h
   ·rename_i hbit
    obtain ⟨tr',live',fr',st',v',h1,h2,h3,h4⟩:=N5a (p:=p) rest (k+1) _ _ _ _ _ hks hr hp.dead_add (by omega) (by rw[upd_same,upd_same];exact h)
    refine ⟨tr',live',fr',st',v',h1,h2,fun i hi=>?_,fun i g1 g2 g3=>?_⟩
    ·obtain ⟨a,b,c⟩:=h3 i (by omega)
     rw[Yy _ _ (show i≠k by omega)]at a
     rw[Yy _ _ (show i≠k+1 by omega)]at b c
     exact ⟨a,b,c⟩
    ·by_cases hik:i=k
     ·subst hik;exact hbit
     ·exact h4 i (by omega) g2 g3
   ·obtain ⟨u,hx,h⟩:=h
    obtain ⟨tr',live',fr',st',v',h1,h2,h3,h4⟩:=N5a (p:=p) rest (k+1) _ _ _ _ _ hks hr (hp.live_add ho hx) (by omega) (by rw[upd_same,upd_same];exact h)
    refine ⟨tr',live',fr',st',v',h1,h2,fun i hi=>?_,fun i g1 g2 g3=>?_⟩
    ·obtain ⟨a,b,c⟩:=h3 i (by omega)
     rw[Yy _ _ (show i≠k by omega)]at a
     rw[Yy _ _ (show i≠k+1 by omega)]at b c
     exact ⟨a,b,c⟩
    ·by_cases hik:i=k
     ·subst hik
      have:=(h3 i (by omega)).1
      rw[upd_same,g3]at this;cases this
     ·exact h4 i (by omega) g2 g3
theorem u8a {ops:Array Oper} {fr0:Fr} {Q:Zv→St→Prop} {df:List f4a} {rd:Option Nat}:∀ (l:List Oper) (k:Nat) (s:St) (tr:List TE) (live:Nat→Bool) (fr:Nat→Fr) (st:Nat→DHeap) (v:Nat→Value),
 k≤ops.size→ops.toList.drop k=l→Pre P ops live fr st v k tr→(∀ i,i<k→live i=true)→s.fr=fr k→s.h=st k→s.df=df→s.rd=rd→XZ P ops (Xz ops.toList []) (k4a P ops) fr0 Q l k s tr →
 ∃ live' fr' st' v',Trace P ops live' fr' st' v'∧fr' 0=fr 0∧st' 0=st 0 ∧
  (((∀ i,i<ops.size→live' i=true)∧Q .normal ⟨fr' ops.size,df,st' ops.size,rd⟩)∨∃ p o vp hp,g2b P ops live' fr' st' p o vp hp∧Q (.pan vp) ⟨z2a ops fr0,df,hp,rd⟩)
 | [],k,s,tr,live,fr,st,v,hk,hl,hp,hlive,hfr,hst,hdf,hrd,h=>by
   have:=t3b hk hl
   subst this
   obtain ⟨h1,h2⟩:=h
   refine ⟨live,fr,st,v,hp.trace h1,rfl,rfl,.inl ⟨hlive,?_⟩⟩
   rw[← hfr,← hst,← hdf,← hrd];exact h2
 | o :: rest,k,s,tr,live,fr,st,v,hk,hl,hp,hlive,hfr,hst,hdf,hrd,h=>by
   obtain ⟨hks,ho,hr⟩:=D5a hl
   have main:∀ (u:Value) (h1:DHeap),Ex P ops o s.fr s.h (.ret u) h1→XZ P ops (Xz ops.toList []) (k4a P ops) fr0 Q rest (k+1) ⟨s.fr.put o.dst u,s.df,h1,s.rd⟩ (tr++[v0a o s.fr s.h u h1]) →
    ∃ live' fr' st' v',Trace P ops live' fr' st' v'∧fr' 0=fr 0∧st' 0=st 0 ∧
     (((∀ i,i<ops.size→live' i=true)∧Q .normal ⟨fr' ops.size,df,st' ops.size,rd⟩)∨∃ p o vp hp,g2b P ops live' fr' st' p o vp hp∧Q (.pan vp) ⟨z2a ops fr0,df,hp,rd⟩):=by
    intro u h1 hx hh
    rw[hfr,hst]at hx hh
    obtain ⟨live',fr',st',v',g1,g2,g3,g4⟩:=u8a rest (k+1) ⟨(fr k).put o.dst u,s.df,h1,s.rd⟩ _ _ _ _ _ hks hr (hp.live_add ho hx) (fun i hi=>by
     by_cases hik:i=k
     ·subst hik;exact upd_same _ _ _
     ·rw[Yy _ _ hik];exact hlive i (by omega)) (upd_same _ _ _).symm (upd_same _ _ _).symm hdf hrd hh
    exact ⟨live',fr',st',v',g1,by rw[g2,Yy _ _ (show 0≠k+1 by omega)],by rw[g3,Yy _ _ (show 0≠k+1 by omega)],g4⟩
   have stop:∀ (u:Value) (h1:DHeap),Ex P ops o s.fr s.h (.pan u) h1 →
    (Xu P o.op=true∧p4a P ops (Xz ops.toList []) k (fun tr=>s3a P ops tr (k4a P ops)∧Q (.pan u) ⟨z2a ops fr0,s.df,h1,s.rd⟩) rest (k+1) s.fr s.h (tr++[.no])) →
    ∃ live' fr' st' v',Trace P ops live' fr' st' v'∧fr' 0=fr 0∧st' 0=st 0 ∧
     (((∀ i,i<ops.size→live' i=true)∧Q .normal ⟨fr' ops.size,df,st' ops.size,rd⟩)∨∃ p o vp hp,g2b P ops live' fr' st' p o vp hp∧Q (.pan vp) ⟨z2a ops fr0,df,hp,rd⟩):=by
    intro u h1 hx ⟨hb,hh⟩
    rw[hfr,hst]at hx hh
    obtain ⟨tr',live',fr',st',v',g1,⟨g2,g3⟩,g4,g5⟩:=N5a (p:=k) rest (k+1) _ _ _ _ _ hks hr hp.dead_add (by omega) (by rw[upd_same,upd_same];exact hh)
    have hk':=g4 k (by omega)
    rw[upd_same,Yy _ _ (show k≠k+1 by omega),Yy _ _ (show k≠k+1 by omega)]at hk'
    have h0':=g4 0 (by omega)
    refine ⟨live',fr',st',v',g1.trace g2,by rw[h0'.2.1,Yy _ _ (show 0≠k+1 by omega)],by rw[h0'.2.2,Yy _ _ (show 0≠k+1 by omega)],.inr ⟨k,o,u,h1,⟨ho,hb,?_,fun i hi hl=>?_,hk'.1⟩,?_⟩⟩
    ·rw[hk'.2.1,hk'.2.2];exact hx
    ·by_cases hik:i<k+1
     ·by_cases hik':i=k
      ·exact .inl hik'
      ·have:=(g4 i hik).1
       rw[Yy _ _ hik',hlive i (by omega),hl]at this;cases this
     ·exact .inr (g5 i (by omega) hi hl)
    ·rw[← hdf,← hrd];exact g3
   have hexd:∀ r h1,(match ZK ops s.fr o with
    | none=>False
    | some false=>r=.ret undef∧h1=s.h
    | some true=>match dOp P (ZV s.h.ng s.fr) o s.h with
      | .ok (.value v) h1'=>r=.ret v∧h1=h1'
      | .ok .skip h1'=>r=.ret undef∧h1=h1'
      | .ok (.enter f args) h1'=>DC P f args h1' r h1
      | .ok (.round l size tmps assign body) h1'=>DRd P l size tmps assign body h1' r h1
      | .pan v h1'=>r=.pan v∧h1=h1'
      | _=>False)→Ex P ops o s.fr s.h r h1:=fun r h1 hh=>hh
   simp only[XZ]at h
   cases hw:ZK ops s.fr o with
   | none=>rw[hw]at h;exact h.elim
   | some bb=>
     rw[hw]at h
     cases bb with
     | false=>exact main undef s.h (hexd _ _ (by rw[hw];exact ⟨rfl,rfl⟩)) h
     | true=>
       simp only at h
       cases hop:dOp P (ZV s.h.ng s.fr) o s.h with
       | bad=>rw[hop]at h;exact h.elim
       | pan u h1=>
         rw[hop]at h
         exact stop u h1 (hexd _ _ (by rw[hw,hop];exact ⟨rfl,rfl⟩)) h
       | ok x h1=>
         rw[hop]at h
         cases x with
         | value u=>exact main u h1 (hexd _ _ (by rw[hw,hop];exact ⟨rfl,rfl⟩)) h
         | skip=>exact main undef h1 (hexd _ _ (by rw[hw,hop];exact ⟨rfl,rfl⟩)) h
         | enter f args=>
           obtain ⟨r,h2,hdc,hx⟩:=h
           have hex:=hexd r h2 (by rw[hw,hop];exact hdc)
           cases r with
           | ret u=>exact main u h2 hex hx
           | pan u=>exact stop u h2 hex hx
         | round l size tmps assign body=>
           obtain ⟨r,h2,hdc,hx⟩:=h
           have hex:=hexd r h2 (by rw[hw,hop];exact hdc)
           cases r with
           | ret u=>exact main u h2 hex hx
           | pan u=>exact stop u h2 hex hx
         | recover=>exact h.elim
         | pick l=>exact h.elim
         | defer f args=>exact h.elim
theorem Trace.hstep {ops:Array Oper} {live:Nat→Bool} {fr:Nat→Fr} {st:Nat→DHeap} {v:Nat→Value} (T:Trace P ops live fr st v):∀ k,k≤ops.size→HStep (st 0) (st k)
 | 0,_=>.refl _
 | k+1,h=>by
   have hk:k<ops.size:=h
   have ho:=Array.getElem?_eq_getElem hk
   refine (T.hstep k (Nat.le_of_lt hk)).trans ?_
   cases hl:live k with
   | true=>exact w3a (T.step k _ ho hl).1
   | false=>rw[(T.skip k _ ho hl).1];exact .refl _
theorem O5c {id:Nat} {ops:Array Oper} {b:List Nat} {ps:List (Nat × Nat)} {Q:Zv→St→Prop} {s:St} (hmix:P.follows .mixedOrders=true) (hd:I0a nt ops=true) (hok:s3b P ops=true)
 (hb:Xz ops.toList []=b) (hps:k4a P ops=ps) (h:XZ P ops b ps s.fr Q ops.toList 0 s []):XC P nt (.region id ops true) Q s:=by
 subst hb;subst hps
 have D:=R4b hok
 obtain ⟨live,fr,st,v,T,hf0,hs0,hor⟩:=u8a (P:=P) (ops:=ops) (df:=s.df) (rd:=s.rd) ops.toList 0 s [] (fun _=>true) (fun _=>s.fr) (fun _=>s.h) (fun _=>undef) (Nat.zero_le _) rfl
  ⟨rfl,fun i o hi=>by omega,fun i o hi=>by omega⟩ (fun i hi=>rfl) rfl rfl rfl rfl h
 have start:∀ {n:Nat} {r:Option Nat} {ι:Inj} {a:Act} {w:World},Wy nt ι s r a w →
  Mid P ops live fr st v nt s r ι w (Array.replicate ops.size false) 0 ι a { w with drawn:=w.drawn+1 }:=by
  intro n r ι a w hs
  have hg:∀ j,(Array.replicate ops.size false).getD j false=false:=by
   intro j;simp only[Array.getD_eq_getD_getElem?,Array.getElem?_replicate];split <;> rfl
  refine ⟨by simp,fun i _ h=>absurd h (by rw[hg];simp),fun i o h=>absurd h (by rw[hg];simp),Nat.zero_le _,fun j oj _ _=>⟨fun h=>absurd h (by rw[hg];simp),fun _ h=>absurd h (Nat.not_lt_zero _)⟩,.inl rfl,?_,hs.df,?_,hs.rd,?_⟩
  ·have:frD ops v (fr 0) (fun j=>(Array.replicate ops.size false).getD j false) ops.size=s.fr:=by
    rw[hf0]
    have:∀ k,frD ops v s.fr (fun j=>(Array.replicate ops.size false).getD j false) k=s.fr:=by
     intro k;induction k with
     | zero=>rfl
     | succ k ih=>simp only[frD];rw[if_neg (by rw[hg];simp)];exact ih
    exact this _
   rw[this];exact hs.fr
  ·rw[hs0];exact hs.sim.drew _
  ·rw[hs0];exact Step.drew ι s.h w _ (Nat.le_succ _)
 rcases hor with ⟨hall,hq⟩ | ⟨p,o,vp,hp,S,hq⟩
 ·refine ⟨.normal,_,⟨by have:=T.hstep _ (Nat.le_refl _);rw[hs0]at this;exact this,fun n r ι a w hs=>wpIn_region_any hmix ?_⟩,hq⟩
  refine d1b (ι0:=ι) (w0:=w) (s:=s) D T (g0a hd) (.inl hall) (fun _ ι' a' w' g1 g2 g3 g4 g5=>?_) ops.size _ 0 ι a _ ?_ (start (n:=n) hs)
  ·exact ⟨ι',trivial,⟨g1,g2,g3,g4⟩,hs0▸g5⟩
  ·have:∀ k,k≤ops.size→y0a (Array.replicate ops.size false) k≤k:=by
    intro k;induction k with
    | zero=>intro _;exact Nat.le_refl _
    | succ k ih=>intro hk;have:=ih (Nat.le_of_lt hk);simp only[y0a];split <;> omega
   exact this _ (Nat.le_refl _)
 ·have hps:p<ops.size:=(Array.getElem?_eq_some_iff.1 S.op).1
  refine ⟨.pan vp,_,⟨by have:=(T.hstep p (Nat.le_of_lt hps)).trans (w3a S.ex);rw[hs0]at this;exact this,fun n r ι a w hs=>wpIn_region_any hmix ?_⟩,hq⟩
  refine d1b (ι0:=ι) (w0:=w) (s:=s) D T (g0a hd) (.inr ⟨p,o,vp,hp,S,fun ι' a' w' v' g1 g2 g3 g4 g5 g6=>?_⟩) (fun hall=>?_) ops.size _ 0 ι a _ ?_ (start (n:=n) hs)
  ·refine ⟨ι',⟨v',rfl,g6⟩,⟨?_,g2,g3,g4⟩,hs0▸g5⟩
   rw[hf0]at g1;exact g1
  ·have:=hall p hps
   rw[S.not]at this;cases this
  ·have:∀ k,k≤ops.size→y0a (Array.replicate ops.size false) k≤k:=by
    intro k;induction k with
    | zero=>intro _;exact Nat.le_refl _
    | succ k ih=>intro hk;have:=ih (Nat.le_of_lt hk);simp only[y0a];split <;> omega
   exact this _ (Nat.le_refl _)
end Go.D
namespace Go.D
variable {P:Program} {ι:Inj} {h:DHeap} {w:World}
def w1a (P:Program) (fr:Fr) (h:DHeap):ResultVar→Option Value
 | .tmp t=>fr t
 | .cell a t=>
   match fr a with
   | some p=>XX P t p h
   | none=>none
def T3a (P:Program) (fr:Fr) (h:DHeap):List ResultVar→Option (List Value)
 | []=>some []
 | x :: xs=>
   match w1a P fr h x,T3a P fr h xs with
   | some v,some vs=>some (v :: vs)
   | _,_=>none
def J7b:List Value→Value
 | [v]=>v
 | vs=>.tuple vs.toArray
def s0a (P:Program) (rs:List ResultVar) (fr:Fr) (h:DHeap):Option Value:=(T3a P fr h rs).map J7b
def t5a (tmps:Array Value):ResultVar→Sem Value
 | .tmp t=>pure (tmps.getD t undef)
 | .cell a t=>do loadVar t (← asAddr (tmps.getD a undef))
theorem I2c {nt:Nat} {fr:Fr} {tmps:Array Value} {x:ResultVar} {v:Value} (hd:w1a P fr h x=some v) (s:Sim ι h w) (hf:FRel ι nt fr tmps) :
 ∃ v',(t5a tmps x).run P w=.ok v' w∧VRel ι v v':=by
 cases x with
 | tmp t=>exact ⟨_,rfl,hf.2 t v hd⟩
 | cell a t=>
   simp only[w1a]at hd
   split at hd
   ·rename_i p hp
    have hr:=hf.2 a p hp
    obtain ⟨v',hrun,hv⟩:=X2b hd s hr
    refine ⟨v',?_,hv⟩
    unfold XX at hd
    split at hd
    ·obtain ⟨e,_,he⟩:=f5a hr
     rw[he]at hrun
     simp only[t5a,he]
     simpa [Instr.loadAt,Instr.sureAddr,asAddr,Sem.run_bind] using hrun
    ·cases hd
   ·cases hd
theorem k3b {nt:Nat} {fr:Fr} {tmps:Array Value} (s:Sim ι h w) (hf:FRel ι nt fr tmps):∀ {rs:List ResultVar} {vs:List Value},T3a P fr h rs=some vs →
 ∃ vs',(rs.mapM (t5a tmps)).run P w=.ok vs' w∧LRel ι vs vs'
 | [],vs,hd=>by cases hd;exact ⟨[],rfl,.nil ι⟩
 | x :: xs,vs,hd=>by
   simp only[T3a]at hd
   split at hd
   ·rename_i v us h1 h2
    cases hd
    obtain ⟨v',hr,hv⟩:=I2c h1 s hf
    obtain ⟨vs',hrs,hvs⟩:=k3b s hf h2
    refine ⟨v' :: vs',?_,hvs.cons hv⟩
    rw[List.mapM_cons]
    simp only[Sem.run_bind,hr,Result.andThen_ok,hrs,Sem.run_pure]
   ·cases hd
theorem G8a {nt:Nat} {fn:Func} {fr:Fr} {tmps:Array Value} {v:Value} (hd:s0a P fn.results.toList fr h=some v) (s:Sim ι h w) (hf:FRel ι nt fr tmps) :
 ∃ v',(results fn tmps).run P w=.ok v' w∧VRel ι v v':=by
 unfold s0a at hd
 cases hl:T3a P fr h fn.results.toList with
 | none=>rw[hl]at hd;cases hd
 | some vs=>
   rw[hl]at hd
   simp only[Option.map_some,Option.some.injEq]at hd
   subst hd
   obtain ⟨vs',hrun,hvs⟩:=k3b s hf hl
   have hmap:((fn.results.mapM (t5a tmps)):Sem (Array Value)).run P w=.ok vs'.toArray w:=by
    have h1:(fn.results.mapM (t5a tmps)) =
     List.toArray <$> (fn.results.toList.mapM (t5a tmps)):=by
     rw[← List.mapM_toArray]
    rw[h1,map_eq_pure_bind]
    simp only[Sem.run_bind,hrun,Result.andThen_ok,Sem.run_pure]
   refine ⟨if hh:vs'.toArray.size=1 then vs'.toArray[0] else .tuple vs'.toArray,?_,?_⟩
   ·have hres:results fn tmps=(do let vs ← fn.results.mapM (t5a tmps);pure (if h:vs.size=1 then vs[0] else .tuple vs)):=by
     unfold results
     congr 1
    rw[hres]
    simp only[Sem.run_bind,hmap,Result.andThen_ok,Sem.run_pure]
   ·match vs,vs',hvs with
    | [],[],_=>exact .tuple rfl fun i v v' a=>by simp at a
    | [v],[v'],hvs=>exact hvs.2 0 v v' rfl rfl
    | v :: u :: vs,v' :: u' :: vs',hvs=>
      have h2:¬ (v' :: u' :: vs').toArray.size=1:=by simp
      rw[dif_neg h2]
      exact .tuple (by simpa using hvs.1) fun i a a' x y=>hvs.2 i a a' (by simpa using x) (by simpa using y)
inductive u1a
 | ret
 | pan (v:Value)
 | recd (v:Value)
def ModeRel (ι:Inj):u1a→FrameMode→Prop
 | .ret,.returning=>True
 | .pan v,.panicking ch=>∃ v',ch=[{ v:=v',recovered:=false }]∧VRel ι v v'
 | .recd v,.panicking ch=>∃ v',ch=[{ v:=v',recovered:=true }]∧VRel ι v v'
 | _,_=>False
def n4a:u1a→u1a
 | .recd _=>.ret
 | m=>m
theorem T7b {m:u1a} {u:FrameMode} (hm:ModeRel ι m u):ModeRel ι (n4a m) (settle u):=by
 cases m <;> cases u <;> first | exact hm.elim | skip
 ·trivial
 ·obtain ⟨v',rfl,hv⟩:=hm;exact ⟨v',rfl,hv⟩
 ·obtain ⟨v',rfl,hv⟩:=hm;simp[n4a,settle,ModeRel]
theorem ModeRel.mono {ι ι':Inj} (hi:ι.le ι') {m:u1a} {u:FrameMode} (hm:ModeRel ι m u):ModeRel ι' m u:=by
 cases m <;> cases u <;> first | exact hm | (obtain ⟨v',a,hv⟩:=hm;exact ⟨v',a,hv.mono hi⟩)
def DCD (P:Program) (f:FuncId) (args:List Value) (m:u1a) (h:DHeap) (m':u1a) (h':DHeap):Prop:=
 HStep h h'∧∀ (n:Nat) (ι:Inj) (w:World) (args':Array Value) (u:FrameMode),Sim ι h w→LRel ι args args'.toList→ModeRel ι m u →
  CallsDIn Fence.wide n P f args' u w fun e u' w'=>∃ ι' v,e=.returned v∧ModeRel ι' m' u'∧Sim ι' h' w'∧Step ι ι' h h' w w'
def XLv (P:Program) (rs:List ResultVar) (fr:Fr) (R:DEnd→DHeap→Prop):List f4a→u1a→DHeap→Prop
 | [],.ret,h=>∃ v,s0a P rs fr h=some v∧R (.ret v) h
 | [],.pan v,h=>R (.pan v) h
 | [],.recd _,_=>False
 | .mark id :: ds,m,h=>h.get id=some (.marks true)∧XLv P rs fr R ds m (h.set id (.marks false))
 | .fn f args :: ds,m,h=>L0a P f=true∧∃ m' h',DCD P f args m h m' h'∧XLv P rs fr R ds (n4a m') h'
theorem d2b {f:FuncId} {cap dargs:Array Value} (hg:L0a P f=true) (w:World):(invoke (.fn (.func f) cap) dargs).run P w=.ok (.enter f (dargs++cap)) w:=by
 have:=T7a (P:=P) (args:=dargs++cap) hg w
 simpa [invoke] using this
theorem Sim.marks (s:Sim ι h w) {id:Nat} {e:Ent} (he:ι id=some e) (hg:h.get id=some (.marks true)) :
 w.heap[e.block]? = some (.deferred (some []))∧Sim ι (h.set id (.marks false)) (w.putObj e.block (.deferred none))∧Step ι ι h (h.set id (.marks false)) w (w.putObj e.block (.deferred none)):=by
 obtain ⟨o,h1,h2⟩:=s.obj id e he
 rw[hg]at h1;cases h1
 obtain ⟨h3,h4,h5⟩:=h2
 have hlt:=s.blk id e he
 have hsame:(w.putObj e.block (.deferred none)).heap[e.block]? = some (.deferred none):=World.putObj_heap_same hlt
 refine ⟨h5,⟨s.lt,fun i e' hi=>by rw[World.putObj_size];exact s.blk i e' hi,fun i e' hi=>?_,fun i j e1 e2 hi hj hne hb=>?_,s.glob⟩,?_⟩
 ·by_cases hid:i=id
  ·subst hid
   rw[he]at hi;cases hi
   exact ⟨.marks false,by simp[DHeap.set],h3,h4,hsame⟩
  ·obtain ⟨o',g1,g2⟩:=s.obj i e' hi
   refine ⟨o',by simp[DHeap.set,hid,g1],?_⟩
   by_cases hbb:e'.block=e.block
   ·rcases s.sep i id e' e hi he hid hbb with hd | hd | hd
    ·rw[hd]at g1;cases g1;exact g2
    ·rw[hg]at hd;cases hd
    ·rw[h4]at hd;cases hd.2
   ·exact ObjRel.mono (Inj.le_refl _) (World.putObj_heap_other hbb) g2
 ·have:=s.sep i j e1 e2 hi hj hne hb
  by_cases hid:i=id
  ·subst hid
   rw[he]at hi;cases hi
   rcases this with hd | hd | hd
   ·rw[hg]at hd;cases hd
   ·exact .inr (.inl (by simp[DHeap.set,Ne.symm hne,hd]))
   ·exact .inr (.inr hd)
  ·by_cases hjd:j=id
   ·subst hjd
    rw[he]at hj;cases hj
    rcases this with hd | hd | hd
    ·exact .inl (by simp[DHeap.set,hid,hd])
    ·rw[hg]at hd;cases hd
    ·exact .inr (.inr hd)
   ·simpa [DHeap.set,hid,hjd] using this
 ·refine ⟨Inj.le_refl _,fun i e' a b=>absurd (a.symm.trans b) (by simp),Nat.le_refl _,rfl,rfl,rfl,rfl,by rw[World.putObj_size];exact Nat.le_refl _,fun b _ hb=>?_,Nat.le_refl _⟩
  refine World.putObj_heap_other fun hbe=>?_
  have hr:=hb id e he hbe.symm
  rw[h4]at hr;cases hr
theorem o7a {fn:Func} {fr:Fr} {R:DEnd→DHeap→Prop} {nt:Nat}:∀ (ds:List f4a) (m:u1a) (h:DHeap),XLv P fn.results.toList fr R ds m h →
 ∃ r h',R r h'∧HStep h h'∧∀ (n:Nat) (ι:Inj) (tmps:Array Value) (w:World) (ds':List Deferred) (u:FrameMode) (Rc:Ending→World→Prop),FRel ι nt fr tmps→DefRel ι ds ds'→Sim ι h w→ModeRel ι m u →
  (∀ ι' e w',D1a ι' r e→Sim ι' h' w'→Step ι ι' h h' w w'→Rc e w')→LeavesInM Fence.wide n P fn tmps Rc ds' u w
 | [],.ret,h,hx=>by
   obtain ⟨v,hv,hr⟩:=hx
   refine ⟨.ret v,h,hr,.refl _,fun n ι tmps w ds' u Rc hf hd s hm hR=>?_⟩
   cases ds' with
   | cons _ _=>exact hd.elim
   | nil=>
     cases u with
     | returning=>
       obtain ⟨v',hrun,hvr⟩:=G8a (fn:=fn) hv s hf
       exact ⟨v',hrun,hR ι _ w hvr s (Step.refl ι h w)⟩
     | _=>exact hm.elim
 | [],.pan v,h,hx=>by
   refine ⟨.pan v,h,hx,.refl _,fun n ι tmps w ds' u Rc hf hd s hm hR=>?_⟩
   cases ds' with
   | cons _ _=>exact hd.elim
   | nil=>
     cases u with
     | panicking ch=>exact hR ι _ w hm s (Step.refl ι h w)
     | _=>exact hm.elim
 | [],.recd _,_,hx=>hx.elim
 | .mark id :: ds,m,h,hx=>by
   obtain ⟨hg,hx⟩:=hx
   obtain ⟨r,h',hr,hh,hs⟩:=o7a (fn:=fn) (nt:=nt) ds m _ hx
   refine ⟨r,h',hr,(HStep.set _ _ _).trans hh,fun n ι tmps w ds' u Rc hf hd s hm hR=>?_⟩
   cases ds' with
   | nil=>exact hd.elim
   | cons d ds'=>
     obtain ⟨⟨e,he,hsh,rfl⟩,hd⟩:=hd
     obtain ⟨h1,h2,h3⟩:=s.marks he hg
     refine ⟨?_,.inl ⟨e.block,_,rfl,run_takeDeferred h1,?_⟩⟩
     ·cases u with
      | run=>cases m <;> exact hm.elim
      | _=>simp
     ·exact hs n ι tmps _ ds' u Rc hf hd h2 hm fun ι' en w' g1 g2 g3=>hR ι' en w' g1 g2 (h3.trans g3)
 | .fn f args :: ds,m,h,hx=>by
   obtain ⟨hg,m',h1,hdc,hx⟩:=hx
   obtain ⟨r,h',hr,hh,hs⟩:=o7a (fn:=fn) (nt:=nt) ds _ _ hx
   refine ⟨r,h',hr,hdc.1.trans hh,fun n ι tmps w ds' u Rc hf hd s hm hR=>?_⟩
   cases ds' with
   | nil=>exact hd.elim
   | cons d ds'=>
     obtain ⟨⟨cap,dargs,rfl,hargs⟩,hd⟩:=hd
     refine ⟨?_,.inr ⟨fun hh=>absurd hh (by simp[Fence.wide]),.func f,cap,f,dargs++cap,rfl,d2b hg w,fun _ _=>trivial,?_⟩⟩
     ·cases u with
      | run=>cases m <;> exact hm.elim
      | _=>simp
     ·refine CallsDIn.mono (hdc.2 (n - 1) ι w _ u s hargs hm) fun e u' w' ⟨ι',v,he,g1,g2,g3⟩=>?_
      subst he
      exact hs n ι' tmps w' ds' (settle u') Rc (hf.mono g3.le) (hd.mono g3.le) g2 (T7b g1) fun ι2 en w2 k1 k2 k3=>hR ι2 en w2 k1 k2 (g3.trans k3)
def z6a (P:Program) (rs:List ResultVar) (R:DEnd→DHeap→Prop):Zv→St→Prop
 | .normal,s | .ret,s=>XLv P rs s.fr R s.df .ret s.h
 | .pan v,s=>XLv P rs s.fr R s.df (.pan v) s.h
 | .exit _,_=>False
def d2a (args:List Value) (nt:Nat):Fr:=fun t=>if t<args.length then args[t]? else if t<nt then some undef else none
theorem v9a {args:List Value} {args':Array Value} {nt:Nat} (ha:LRel ι args args'.toList) (hn:args.length≤nt):FRel ι nt (d2a args nt) (args'++Array.replicate (nt - args'.size) undef):=by
 have hl:args.length=args'.size:=by simpa using ha.1
 refine ⟨by simp;omega,fun t v hv=>?_⟩
 unfold d2a at hv
 split at hv
 ·rename_i ht
  obtain ⟨v',hv',hr⟩:=ha.get hv
  have:(args'++Array.replicate (nt - args'.size) undef).getD t undef=v':=by
   simp only[Array.getD_eq_getD_getElem?]
   rw[Array.getElem?_append_left (by omega)]
   have:args'[t]? = some v':=by simpa using hv'
   rw[this];rfl
  rw[this];exact hr
 ·rename_i ht
  split at hv
  ·cases hv
   have:(args'++Array.replicate (nt - args'.size) undef).getD t undef=undef:=by
    simp only[Array.getD_eq_getD_getElem?]
    rw[Array.getElem?_append_right (by omega),Array.getElem?_replicate]
    split <;> rfl
   rw[this];exact T1a ι
  ·cases hv
end Go.D
