/-
A part of the proof of a law: contracts of functions over plain heaps, and what they lean on. Conditions: none.
-/
import Derived.Attr
import Derived.Test.YtheamfnbfgiaeaaBase1
set_option linter.unusedSimpArgs false
set_option linter.unusedVariables false
set_option linter.defProp false
namespace Go.D
variable {P:Program} {nt:Nat}
def K2a (P:Program) (ops:Array Oper):List Oper→St→u1a→(St→u1a→Prop)→Prop
 | [],s,m,K=>K s m
 | o :: rest,s,m,K=>
   match ZK ops s.fr o with
   | none=>False
   | some false=>K2a P ops rest ⟨s.fr.put o.dst undef,s.df,s.h,s.rd⟩ m K
   | some true=>
     match dOp P (ZJ s.h.ng s.fr) o s.h with
     | .ok (.value v) h=>K2a P ops rest ⟨s.fr.put o.dst v,s.df,h,s.rd⟩ m K
     | .ok .skip h=>K2a P ops rest ⟨s.fr.put o.dst undef,s.df,h,s.rd⟩ m K
     | .ok .recover h=>
       match m with
       | .pan v=>K2a P ops rest ⟨s.fr.put o.dst v,s.df,h,s.rd⟩ (.recd v) K
       | m=>K2a P ops rest ⟨s.fr.put o.dst .nilIface,s.df,h,s.rd⟩ m K
     | _=>False
theorem f5b {ops:Array Oper} (hd:F0a nt ops=true) {K:St→u1a→Prop}:∀ (l:List Oper) (k:Nat) (s:St) (m:u1a),ops.toList.drop k=l→K2a P ops l s m K →
 ∃ s1 m1,K s1 m1∧HStep s.h s1.h∧∀ (n:Nat) (ι:Inj) (a:Act) (w:World) (c₀:Frame) (cs:List Frame) (Qc:Exit→Act→List Frame→World→Prop),WZ nt ι s none a w→ModeRel ι m c₀.mode →
  (∀ ι' a' w' u',WZ nt ι' s1 none a' w'→ModeRel ι' m1 u'→Step ι ι' s.h s1.h w w'→Qc .normal a' ({ c₀ with mode:=u' } :: cs) w')→wpOpsSIn Fence.wide n P ops Qc (List.range' k (ops.size - k)) a (c₀ :: cs) w:=by
 intro l
 induction l with
 | nil=>
   intro k s m hl h
   refine ⟨s,m,h,.refl _,fun n ι a w c₀ cs Qc hs hm hQ=>?_⟩
   have:ops.size - k=0:=by
    have:=congrArg List.length hl
    simpa using this
   rw[this]
   exact hQ ι a w c₀.mode hs hm (Step.refl ι _ w)
 | cons o rest ih=>
   intro k s m hl h
   obtain ⟨hk,ho,hrest⟩:=O5a hl
   have hdo:∀ d,o.dst=some d→d<nt:=fun d h=>d0a hd k o d ho h
   simp only[K2a]at h
   cases hw:ZK ops s.fr o with
   | none=>rw[hw]at h;exact h.elim
   | some b=>
     rw[hw]at h
     cases b with
     | false=>
       obtain ⟨s1,m1,hK,hh,hx⟩:=ih (k+1) _ m hrest h
       refine ⟨s1,m1,hK,hh,fun n ι a w c₀ cs Qc hs hm hQ=>?_⟩
       rw[H2a hk]
       simp only[wpOpsSIn,ho]
       have hw':=M0a hs.fr.1 (d0a hd) (fun t _ u hu=>hs.fr.2 t u hu) hw
       simp only[hw',Bool.false_eq_true,if_false]
       exact ⟨fun _ _=>trivial,hx n ι _ w c₀ cs Qc ⟨p1a (r:=none) (w:=w) hs.fr hdo (T1a ι),by rw[y0a];exact hs.df,hs.sim,hs.rd⟩ hm hQ⟩
     | true=>
       simp only at h
       have go:∀ (x:XK) (h1:DHeap) (v:Value) (m1:u1a),dOp P (ZJ s.h.ng s.fr) o s.h=.ok x h1→K2a P ops rest ⟨s.fr.put o.dst v,s.df,h1,s.rd⟩ m1 K →
        (∀ n ι' (x':Next) (w':World) (a:Act) (c₀:Frame) (cs:List Frame) (Qc:Exit→Act→List Frame→World→Prop) ,n8a P ι' x x'→ModeRel ι' m c₀.mode→(∀ v' u',VRel ι' v v'→ModeRel ι' m1 u'→wpOpsSIn Fence.wide n P ops Qc (List.range' (k+1) (ops.size - (k+1))) (a.put o.dst v') ({ c₀ with mode:=u' } :: cs) w') →
          (match (Result.ok x' w':Result Next) with
            | .ok .recover w'=>
              match recoverD (c₀ :: cs) with
              | some (v,cs')=>wpOpsSIn Fence.wide n P ops Qc (List.range' (k+1) (ops.size - (k+1))) (a.put o.dst v) cs' w'
              | none=>wpOpsSIn Fence.wide n P ops Qc (List.range' (k+1) (ops.size - (k+1))) (a.put o.dst .nilIface) (c₀ :: cs) w'
            | .ok (.value v) w'=>wpOpsSIn Fence.wide n P ops Qc (List.range' (k+1) (ops.size - (k+1))) (a.put o.dst v) (c₀ :: cs) w'
            | .ok .skip w'=>wpOpsSIn Fence.wide n P ops Qc (List.range' (k+1) (ops.size - (k+1))) (a.put o.dst undef) (c₀ :: cs) w'
            | .halt (.panic v) w'=>Qc (.panic [{ v,recovered:=false }]) a (c₀ :: cs) w'
            | _=>False)) →
        ∃ s1 m1,K s1 m1∧HStep s.h s1.h∧∀ (n:Nat) (ι:Inj) (a:Act) (w:World) (c₀:Frame) (cs:List Frame) (Qc:Exit→Act→List Frame→World→Prop),WZ nt ι s none a w→ModeRel ι m c₀.mode →
         (∀ ι' a' w' u',WZ nt ι' s1 none a' w'→ModeRel ι' m1 u'→Step ι ι' s.h s1.h w w'→Qc .normal a' ({ c₀ with mode:=u' } :: cs) w')→wpOpsSIn Fence.wide n P ops Qc (List.range' k (ops.size - k)) a (c₀ :: cs) w:=by
        intro x h1 v m1 hop hxr hstep
        obtain ⟨s2,m2,hK,hh,hx⟩:=ih (k+1) _ m1 hrest hxr
        refine ⟨s2,m2,hK,(B0a hop).trans hh,fun n ι a w c₀ cs Qc hs hm hQ=>?_⟩
        rw[H2a hk]
        simp only[wpOpsSIn,ho]
        have hw':=M0a hs.fr.1 (d0a hd) (fun t _ u hu=>hs.fr.2 t u hu) hw
        simp only[hw',if_true]
        obtain ⟨ι1,w1,x',hrun,hn,s1,st⟩:=H4a hop hs.sim (j1a (P:=P) hs.sim (a:=a) (ops:=ops) (fun t _ u hu=>hs.fr.2 t u hu))
        refine ⟨fun _ _=>trivial,?_⟩
        rw[hrun]
        refine hstep n ι1 x' w1 a c₀ cs Qc hn (hm.mono st.le) fun v' u' hv hmu=>?_
        have hc:({ c₀ with mode:=u' }:Frame).mode=u':=rfl
        refine hx n ι1 _ w1 { c₀ with mode:=u' } cs Qc ⟨p1a (r:=none) (w:=w) (hs.fr.mono st.le) hdo hv,by rw[y0a];exact hs.df.mono st.le,s1,hs.rd.mono st.le⟩ hmu fun ι2 a2 w2 u2 g1 g2 g3=>hQ ι2 a2 w2 u2 g1 g2 (st.trans g3)
       cases hop:dOp P (ZJ s.h.ng s.fr) o s.h with
       | bad=>rw[hop]at h;exact h.elim
       | pan v h1=>rw[hop]at h;exact h.elim
       | ok x h1=>
         rw[hop]at h
         cases x with
         | value v=>
           refine go _ h1 v m hop h fun n ι' x' w' a c₀ cs Qc hn hm hk'=>?_
           cases x' with
           | value v'=>exact hk' v' c₀.mode hn hm
           | _=>exact hn.elim
         | skip=>
           refine go _ h1 undef m hop h fun n ι' x' w' a c₀ cs Qc hn hm hk'=>?_
           cases x' with
           | skip=>exact hk' undef c₀.mode (T1a _) hm
           | _=>exact hn.elim
         | recover=>
           simp only at h
           cases m with
           | pan v=>
             refine go _ h1 v (.recd v) hop h fun n ι' x' w' a c₀ cs Qc hn hm hk'=>?_
             cases x' with
             | recover=>
               cases hmode:c₀.mode with
               | panicking ch=>
                 rw[hmode]at hm
                 obtain ⟨v',rfl,hv⟩:=hm
                 simp only[recoverD,hmode]
                 exact hk' v' (.panicking [{ v:=v',recovered:=true }]) hv ⟨v',rfl,hv⟩
               | _=>rw[hmode]at hm;exact hm.elim
             | _=>exact hn.elim
           | ret=>
             refine go _ h1 .nilIface .ret hop h fun n ι' x' w' a c₀ cs Qc hn hm hk'=>?_
             cases x' with
             | recover=>
               cases hmode:c₀.mode with
               | returning=>
                 have hc:recoverD (c₀ :: cs)=none:=by simp[recoverD,hmode]
                 simp only[hc]
                 have:=hk' .nilIface .returning .nilIface trivial
                 rw[← hmode]at this
                 exact this
               | _=>rw[hmode]at hm;exact hm.elim
             | _=>exact hn.elim
           | recd v=>
             refine go _ h1 .nilIface (.recd v) hop h fun n ι' x' w' a c₀ cs Qc hn hm hk'=>?_
             cases x' with
             | recover=>
               cases hmode:c₀.mode with
               | panicking ch=>
                 have hm':=hm
                 rw[hmode]at hm
                 obtain ⟨v',rfl,hv⟩:=hm
                 have hc:recoverD (c₀ :: cs)=none:=by simp[recoverD,hmode]
                 simp only[hc]
                 have:=hk' .nilIface c₀.mode .nilIface hm'
                 exact this
               | _=>rw[hmode]at hm;exact hm.elim
             | _=>exact hn.elim
         | _=>exact h.elim
theorem Sim.loopAt {ι:Inj} {h:DHeap} {w:World} (s:Sim ι h w) {id:Nat} {e:Ent} (he:ι id=some e) {d:n2a} (hg:h.get id=some (.loop d)) :
 e.shift=0∧e.ro=false∧∃ l,w.heap[e.block]? = some (.loop l)∧J0b ι d l w:=by
 obtain ⟨o,h1,h2⟩:=s.obj id e he
 rw[hg]at h1;cases h1
 exact h2
theorem Sim.setLoop {ι:Inj} {h:DHeap} {w:World} (s:Sim ι h w) {id:Nat} {e:Ent} (he:ι id=some e) {d:n2a} (hg:h.get id=some (.loop d)) {l:Loop} (hl:w.heap[e.block]? = some (.loop l)) (hr:J0b ι d l w) (st:LoopState) (pe:Option Code) :
 Sim ι (h.set id (.loop { d with state:=st,pending:=pe })) (w.putObj e.block (.loop { l with state:=st,pending:=pe })) ∧
  Step ι ι h (h.set id (.loop { d with state:=st,pending:=pe })) w (w.putObj e.block (.loop { l with state:=st,pending:=pe })):=by
 obtain ⟨h1,h2,_⟩:=s.loopAt he hg
 refine s.putObj he hg h2 (by simp) ⟨h1,h2,_,World.putObj_heap_same (s.blk id e he),?_⟩
 exact ⟨hr.tmps,hr.params,hr.assign,hr.body,rfl,rfl,hr.defers⟩
def F9a (l:Nat) (R:DEnd→DHeap→Prop) (e:Zv) (s:St):Prop:=
 ∃ d,s.h.get l=some (.loop d) ∧
  match e with
  | .normal=>R (.ret (.bool true)) (s.h.set l (.loop { d with state:=.ready,pending:=none }))
  | .ret=>R (.ret (.bool false)) (s.h.set l (.loop { d with state:=.done,pending:=some .ret }))
  | .exit id=>R (.ret (.bool false)) (s.h.set l (.loop { d with state:=.done,pending:=some (.exit id) }))
  | .pan _=>False
def E9a (l:Nat) (fr:Fr) (df:List j4a) (rd:Option Nat) (Q:Zv→St→Prop) (r:DEnd) (h:DHeap):Prop:=
 match r with
 | .pan v=>Q (.pan v) ⟨fr,df,h,rd⟩
 | .ret _=>∃ d,h.get l=some (.loop d)∧d.state≠.busy ∧
    match d.pending with
    | none=>Q .normal ⟨fr,df,h.set l (.loop { d with state:=.exhausted,pending:=d.pending }),rd⟩
    | some .ret=>Q .ret ⟨fr,df,h.set l (.loop { d with state:=.exhausted,pending:=d.pending }),rd⟩
    | some (.exit id)=>Q (.exit id) ⟨fr,df,h.set l (.loop { d with state:=.exhausted,pending:=d.pending }),rd⟩
    | _=>False
end Go.D
namespace Go.D
variable {P:Program} {nt:Nat}
def m0a (nt:Nat):Code→Bool
 | .seq x y=>m0a nt x&&m0a nt y
 | .cond _ x y=>m0a nt x&&m0a nt y
 | .block _ c=>m0a nt c
 | .loop c=>m0a nt c
 | .rangeFunc _ _ x y=>m0a nt x&&m0a nt y
 | .region _ ops _=>F0a nt ops
 | _=>true
theorem S2b (K:St→Prop) (Q:Zv→St→Prop) (s:St):L0a K Q .normal s=K s:=rfl
theorem Q8b (K:St→Prop) (Q:Zv→St→Prop) (s:St):L0a K Q .ret s=Q .ret s:=rfl
theorem Z6b (K:St→Prop) (Q:Zv→St→Prop) (s:St) (id:Nat):L0a K Q (.exit id) s=Q (.exit id) s:=rfl
theorem P8b (K:St→Prop) (Q:Zv→St→Prop) (s:St) (v:Value):L0a K Q (.pan v) s=Q (.pan v) s:=rfl
theorem j2b (id:Nat) (Q:Zv→St→Prop) (s:St):N0a id Q .normal s=Q .normal s:=rfl
theorem V6b (id:Nat) (Q:Zv→St→Prop) (s:St):N0a id Q .ret s=Q .ret s:=rfl
theorem U6b (id:Nat) (Q:Zv→St→Prop) (s:St) (v:Value):N0a id Q (.pan v) s=Q (.pan v) s:=rfl
theorem c5b (id:Nat) (Q:Zv→St→Prop) (s:St):N0a id Q (.exit id) s=Q .normal s:=by simp[N0a]
theorem Q2b {id id':Nat} (h:id'≠id) (Q:Zv→St→Prop) (s:St):N0a id Q (.exit id') s=Q (.exit id') s:=by
 simp[N0a,h]
theorem p4a (fr:Fr) (d:Tmp) (v:Value):fr.put (some d) v d=some v:=by simp[Fr.put]
theorem I3a (fr:Fr) {d t:Nat} (v:Value) (h:t≠d):Fr.put fr (some d) v t=fr t:=by
 simp[Fr.put,h]
theorem c4c (fr:Fr) (v:Value):fr.put none v=fr:=rfl
theorem Y2b (rs:List ResultVar) (R:DEnd→DHeap→Prop) (s:St):M6a P rs R .normal s=XLv P rs s.fr R s.df .ret s.h:=rfl
theorem c9b (rs:List ResultVar) (R:DEnd→DHeap→Prop) (s:St):M6a P rs R .ret s=XLv P rs s.fr R s.df .ret s.h:=rfl
theorem b9b (rs:List ResultVar) (R:DEnd→DHeap→Prop) (s:St) (v:Value):M6a P rs R (.pan v) s=XLv P rs s.fr R s.df (.pan v) s.h:=rfl
theorem o8a (rs:List ResultVar) (fr:Fr) (R:DEnd→DHeap→Prop) (h:DHeap):XLv P rs fr R [] .ret h=(∃ v,p0a P rs fr h=some v∧R (.ret v) h):=rfl
theorem j6c (rs:List ResultVar) (fr:Fr) (R:DEnd→DHeap→Prop) (h:DHeap) (v:Value):XLv P rs fr R [] (.pan v) h=R (.pan v) h:=rfl
end Go.D
namespace Go.D
variable {P:Program} {ρ:Operand→Option Value} {h:DHeap} {dst:Option Tmp} {ty:TypeId} {pos:String} {aft:Array Edge} {gd:Option (Nat × Bool)}
theorem i0c (ng:Nat) (fr:Fr) (t:Tmp):ZJ ng fr (.tmp t)=fr t:=rfl
theorem h0c (ng:Nat) (fr:Fr) (k:IntKind) (n:Int):ZJ ng fr (.const (.int k n))=some (.int k n):=rfl
theorem P7b (ng:Nat) (fr:Fr) (b:Bool):ZJ ng fr (.const (.bool b))=some (.bool b):=rfl
theorem c4b (ng:Nat) (fr:Fr) (s:ByteArray):ZJ ng fr (.const (.string s))=some (.string s):=rfl
theorem c1b (ng:Nat) (fr:Fr):ZJ ng fr (.const .nilIface)=some .nilIface:=rfl
theorem C2b (ng:Nat) (fr:Fr):ZJ ng fr (.const .nilFunc)=some .nilFunc:=rfl
theorem S7b (ng:Nat) (fr:Fr):ZJ ng fr (.const (.pointer none))=some (.pointer none):=rfl
theorem T7b (ng:Nat) (fr:Fr):ZJ ng fr (.const (.slice none 0 0))=some (.slice none 0 0):=rfl
theorem R7b (ng:Nat) (fr:Fr):ZJ ng fr (.const (.map none))=some (.map none):=rfl
theorem Q7b (ng:Nat) (fr:Fr) (f:FuncId):ZJ ng fr (.func f)=some (.func (.func f) #[] #[]):=rfl
theorem R3b (ops:Array Oper) (fr:Fr) (o:Op):ZK ops fr ⟨dst,o,ty,pos,aft,none⟩=some true:=rfl
def M9b (fr:Fr) (want:Bool):Option Tmp→Option Bool
 | none=>some false
 | some d=>
   match fr d with
   | some (.bool b)=>some (b==want)
   | some _=>some false
   | none=>none
def I9a (want:Bool):Option Value→Option Bool
 | some (.bool b)=>some (b==want)
 | some _=>some false
 | none=>none
theorem S3b (ops:Array Oper) (fr:Fr) (o:Op) (j:Nat) (want:Bool):ZK ops fr ⟨dst,o,ty,pos,aft,some (j,want)⟩=M9b fr want ((ops[j]?).bind (·.dst)):=rfl
theorem o5b (fr:Fr) (want:Bool) (d:Tmp):M9b fr want (some d)=I9a want (fr d):=rfl
theorem j5b (b:Bool):I9a true (some (.bool b))=some b:=by cases b <;> rfl
theorem m3b (b:Bool):I9a false (some (.bool b))=some (!b):=by cases b <;> rfl
theorem x4b (v:Value):DR.ofv h (some v)=.ok (.value v) h:=rfl
theorem Y3c (v:Value) (h':DHeap):DR.ofp (some (v,h'))=.ok (.value v) h':=rfl
theorem W3c (h':DHeap):DR.ofh (some h')=.ok .skip h':=rfl
theorem X2c (x:Operand):dOp P ρ ⟨dst,.move x,ty,pos,aft,gd⟩ h=DR.ofv h (ρ x):=rfl
theorem C7b (x:Operand):dOp P ρ ⟨dst,.assign x,ty,pos,aft,gd⟩ h=DR.ofv h (ρ x):=rfl
def I2b (h:DHeap):Option Value→Option Value→Option Value→DR
 | some (.bool t),some va,some vb=>.ok (.value (if t then va else vb)) h
 | _,_,_=>.bad
theorem Z2c (c a b:Operand):dOp P ρ ⟨dst,.pick c a b,ty,pos,aft,gd⟩ h=I2b h (ρ c) (ρ a) (ρ b):=rfl
theorem E7b (t:Bool) (a b:Value):I2b h (some (.bool t)) (some a) (some b)=.ok (.value (if t then a else b)) h:=rfl
theorem P9b (t:TypeId):dOp P ρ ⟨dst,.alloc t,ty,pos,aft,gd⟩ h=.ofp (i1a P t h):=rfl
def z4c (P:Program) (t:TypeId) (h:DHeap):Option Value→DR
 | some v=>.ok (.value (.pointer (some ⟨h.next,0,none⟩))) (h.push (.row v.cells.toList (c1a P t) false))
 | none=>.bad
theorem d7c (t:TypeId) (x:Operand):dOp P ρ ⟨dst,.box t x,ty,pos,aft,gd⟩ h=z4c P t h (ρ x):=rfl
theorem y7b (t:TypeId) (v:Value):z4c P t h (some v)=.ok (.value (.pointer (some ⟨h.next,0,none⟩))) (h.push (.row v.cells.toList (c1a P t) false)):=rfl
def o6b (P:Program) (t:TypeId) (h:DHeap):Option (List (Nat × Value))→DR
 | some vs=>.ofv h (Xj P t vs)
 | none=>.bad
theorem R9b (t:TypeId) (ps:Array (Nat × Operand)):dOp P ρ ⟨dst,.build t ps,ty,pos,aft,gd⟩ h=o6b P t h (n0a ρ ps.toList):=rfl
theorem v3b (t:TypeId) (vs:List (Nat × Value)):o6b P t h (some vs)=.ofv h (Xj P t vs):=rfl
def J7a (P:Program) (t:TypeId) (n:Nat) (h:DHeap):Option (List (Nat × Value))→DR
 | some vs=>.ofp (c0a P t n vs h)
 | none=>.bad
theorem W0b (t:TypeId) (n:Nat) (ps:Array (Nat × Operand)):dOp P ρ ⟨dst,.buildSlice t n ps,ty,pos,aft,gd⟩ h=J7a P t n h (n0a ρ ps.toList):=rfl
theorem D8a (t:TypeId) (n:Nat) (vs:List (Nat × Value)):J7a P t n h (some vs)=.ofp (c0a P t n vs h):=rfl
def O9b (P:Program) (t:TypeId) (h:DHeap):Option Value→DR
 | some v=>.ofv h (XQ P t v h)
 | none=>.bad
theorem C1b (t:TypeId) (a:Operand):dOp P ρ ⟨dst,.load t a,ty,pos,aft,gd⟩ h=O9b P t h (ρ a):=rfl
theorem Q8a (t:TypeId) (v:Value):O9b P t h (some v)=.ofv h (XQ P t v h):=rfl
def s6b (P:Program) (t:TypeId) (h:DHeap):Option Value→Option Value→DR
 | some p,some v=>.ofh (Yz P t p v h)
 | _,_=>.bad
theorem Z9b (t:TypeId) (a x:Operand):dOp P ρ ⟨dst,.store t a x,ty,pos,aft,gd⟩ h=s6b P t h (ρ a) (ρ x):=rfl
theorem Q3b (t:TypeId) (p v:Value):s6b P t h (some p) (some v)=.ofh (Yz P t p v h):=rfl
def B1b (P:Program) (h:DHeap):Option Value→DR
 | some (.pointer none) | some .nilIface | some .nilFunc=>.pan (U7a P) h
 | some (.func (.method _) _ _)=>.bad
 | some v=>.ok (.value v) h
 | none=>.bad
theorem K3b (x:Operand):dOp P ρ ⟨dst,.nilCheck x,ty,pos,aft,gd⟩ h=B1b P h (ρ x):=rfl
theorem x2b (a:Addr):B1b P h (some (.pointer (some a)))=.ok (.value (.pointer (some a))) h:=rfl
def n6b (P:Program) (op:BinOp) (t:TypeId) (x y:Operand) (h:DHeap):Option Value→Option Value→DR
 | some vx,some vy=>ZV P op t x y vx vy h
 | _,_=>.bad
theorem Q9b (op:BinOp) (t:TypeId) (x y:Operand) (yt:TypeId):dOp P ρ ⟨dst,.binOp op t x y yt,ty,pos,aft,gd⟩ h=n6b P op t x y h (ρ x) (ρ y):=rfl
theorem t3b (op:BinOp) (t:TypeId) (x y:Operand) (vx vy:Value):n6b P op t x y h (some vx) (some vy)=ZV P op t x y vx vy h:=rfl
def d0c (P:Program) (op:UnOp) (h:DHeap):Option Value→DR
 | some v=>if Yk v then XX P (Op.unary op v) h else .bad
 | none=>.bad
theorem a3c (op:UnOp) (t:TypeId) (x:Operand):dOp P ρ ⟨dst,.unOp op t x,ty,pos,aft,gd⟩ h=d0c P op h (ρ x):=rfl
theorem K7b (b:Bool):d0c P .not h (some (.bool b))=.ok (.value (.bool (!b))) h:=rfl
def K5a (P:Program) (s d:TypeId) (h:DHeap):Option Value→DR
 | some v=>S0a P s d v h
 | none=>.bad
theorem r5b (s d:TypeId) (x:Operand):dOp P ρ ⟨dst,.convert s d x,ty,pos,aft,gd⟩ h=K5a P s d h (ρ x):=rfl
theorem p2b {s d:TypeId} {k0:IntKind} {k k':IntKind} {n:Int} (hs:P.underlying s=some (.int k0)) (hd:P.underlying d=some (.int k)):K5a P s d h (some (.int k' n))=.ok (.value (.int k (k.wrap n))) h:=by
 simp only[K5a,S0a,Yk,XJ,Yw,if_true,hd]
 simp[XX,ZW,convert,Bind.bind,Pure.pure,Sem.bind,hs,hd,underlying,program,Conv.intToInt]
 rfl
def z5a (P:Program) (t:TypeId) (h:DHeap):Option Value→DR
 | some v=>match m3a P t with | some false=>.ok (.value (.iface t v)) h | _=>.bad
 | none=>.bad
theorem E8a (t:TypeId) (x:Operand):dOp P ρ ⟨dst,.makeInterface t x,ty,pos,aft,gd⟩ h=z5a P t h (ρ x):=by
 simp only[dOp,z5a]
 cases ρ x with
 | none=>rfl
 | some v=>
   cases m3a P t with
   | none=>rfl
   | some b=>cases b <;> rfl
theorem w2b {t:TypeId} {v:Value} (hi:m3a P t=some false):z5a P t h (some v)=.ok (.value (.iface t v)) h:=by simp[z5a,hi]
def U0b (h:DHeap) (f:FuncId):Option (List Value)→Option (List Value)→DR
 | some vs,some us=>.ok (.value (.func (.func f) vs.toArray us.toArray)) h
 | _,_=>.bad
theorem J3b (f:FuncId) (first cap:Array Operand):dOp P ρ ⟨dst,.makeFunc (.func f) first cap,ty,pos,aft,gd⟩ h=U0b h f (YX ρ first.toList) (YX ρ cap.toList):=by
 simp only[dOp,U0b]
 cases YX ρ first.toList <;> cases YX ρ cap.toList <;> rfl
theorem G3b (f:FuncId) (vs us:List Value):U0b h f (some vs) (some us)=.ok (.value (.func (.func f) vs.toArray us.toArray)) h:=rfl
theorem t5b (t:TypeId):dOp P ρ ⟨dst,.makeMap t none,ty,pos,aft,gd⟩ h=.ok (.value (.map (some h.next))) (h.push (.map [] 0)):=rfl
def D3b (P:Program) (t:TypeId) (ok:Bool) (h:DHeap):Option Value→Option Value→DR
 | some v,some vi=>.ofv h (J0a P t v vi ok h)
 | _,_=>.bad
theorem D7b (t:TypeId) (x ix:Operand) (ok:Bool):dOp P ρ ⟨dst,.lookup t x ix ok,ty,pos,aft,gd⟩ h=D3b P t ok h (ρ x) (ρ ix):=rfl
theorem u2b (t:TypeId) (ok:Bool) (v i:Value):D3b P t ok h (some v) (some i)=.ofv h (J0a P t v i ok h):=rfl
def R8a (P:Program) (t:TypeId) (h:DHeap):Option Value→Option Value→Option Value→DR
 | some m,some k,some v=>.ofh (C0a P t m k v h)
 | _,_,_=>.bad
theorem A2b (t:TypeId) (m k x:Operand):dOp P ρ ⟨dst,.mapUpdate t m k x,ty,pos,aft,gd⟩ h=R8a P t h (ρ m) (ρ k) (ρ x):=rfl
theorem l9a (t:TypeId) (m k v:Value):R8a P t h (some m) (some k) (some v)=.ofh (C0a P t m k v h):=rfl
def r6b (P:Program) (t:TypeId) (h:DHeap):Option Value→Option (Option Value)→Option (Option Value)→Option (Option Value)→DR
 | some v,some vl,some vh,some vm=>.ofv h (Xq P t v vl vh vm h)
 | _,_,_,_=>.bad
theorem Y9b (t:TypeId) (x:Operand) (lo hi mx:Option Operand):dOp P ρ ⟨dst,.slice t x lo hi mx,ty,pos,aft,gd⟩ h=r6b P t h (ρ x) (z0a ρ lo) (z0a ρ hi) (z0a ρ mx):=rfl
theorem P3b (t:TypeId) (v:Value) (vl vh vm:Option Value):r6b P t h (some v) (some vl) (some vh) (some vm)=.ofv h (Xq P t v vl vh vm h):=rfl
theorem d4b:z0a ρ none=some none:=rfl
theorem f4b (x:Operand):z0a ρ (some x)=(ρ x).map some:=rfl
def O8a (P:Program) (s:TypeId) (f:Nat) (h:DHeap):Option Value→DR
 | some v=>.ofv h (M1a P s v f)
 | none=>.bad
theorem y2b (s:TypeId) (x:Operand) (f:Nat):dOp P ρ ⟨dst,.fieldAddr s x f,ty,pos,aft,gd⟩ h=O8a P s f h (ρ x):=rfl
theorem j9a (s:TypeId) (f:Nat) (v:Value):O8a P s f h (some v)=.ofv h (M1a P s v f):=rfl
def P8a (P:Program) (t:TypeId) (h:DHeap):Option Value→Option Value→DR
 | some v,some i=>.ofv h (ZQ P t v i)
 | _,_=>.bad
theorem z2b (t:TypeId) (x i:Operand):dOp P ρ ⟨dst,.indexAddr t x i,ty,pos,aft,gd⟩ h=P8a P t h (ρ x) (ρ i):=rfl
theorem k9a (t:TypeId) (v i:Value):P8a P t h (some v) (some i)=.ofv h (ZQ P t v i):=rfl
def p6b (P:Program) (t:TypeId) (h:DHeap):Option Value→Option Value→DR
 | some v,some i=>.ofv h (G4a P t v i)
 | _,_=>.bad
theorem V9b (t:TypeId) (x i:Operand):dOp P ρ ⟨dst,.index t x i,ty,pos,aft,gd⟩ h=p6b P t h (ρ x) (ρ i):=rfl
theorem B3b (t:TypeId) (v i:Value):p6b P t h (some v) (some i)=.ofv h (G4a P t v i):=rfl
def Y3a (P:Program) (t:TypeId) (ok:Bool) (h:DHeap):Option Value→DR
 | some v=>.ofv h (l3a P v t ok)
 | none=>.bad
theorem X0b (x:Operand) (xt t:TypeId) (ok:Bool):dOp P ρ ⟨dst,.typeAssert x xt t ok,ty,pos,aft,gd⟩ h=Y3a P t ok h (ρ x):=rfl
theorem F8a {t:TypeId} {v:Value} (hi:m3a P t=some false) (ok:Bool):Y3a P t ok h (some (.iface t v))=.ok (.value (if ok then .tuple #[v,.bool true] else v)) h:=by simp[Y3a,l3a,hi,DR.ofv]
def z1b (ix:Nat) (h:DHeap):Option Value→DR
 | some v=>.ofv h (P6a v ix)
 | none=>.bad
theorem s5b (t:Operand) (ix:Nat):dOp P ρ ⟨dst,.extract t ix,ty,pos,aft,gd⟩ h=z1b ix h (ρ t):=rfl
theorem T0b (vs:Array Value) (ix:Nat):z1b ix h (some (.tuple vs))=.ofv h (vs[ix]?):=rfl
def Y1a (P:Program) (b:Builtin) (ts:Array TypeId) (ty:TypeId) (h:DHeap):Option (List Value)→DR
 | some vs=>
   match b,vs with
   | .append,[s,x]=>.ofp (s0a P ts s x h)
   | .copy,[s,x]=>.ofp (r8a P ts s x h)
   | .len,[x]=>.ofv h (dLen P ts x h)
   | .clear,[x]=>.ofp (k3a P ts x h)
   | .delete,[m,k]=>.ofp (Y2a P ts m k h)
   | .recover,[]=>.ok .recover h
   | .min,vs=>if vs.all Yk then XX P (Builtin.min_ ts ty vs.toArray) h else .bad
   | .max,vs=>if vs.all Yk then XX P (Builtin.max_ ts ty vs.toArray) h else .bad
   | _,_=>.bad
 | none=>.bad
theorem q5b (b:Builtin) (args:Array Operand) (ts:Array TypeId):dOp P ρ ⟨dst,.call ⟨.builtin b,args,ts⟩,ty,pos,aft,gd⟩ h=Y1a P b ts ty h (YX ρ args.toList):=by
 simp only[dOp,Y1a]
 cases YX ρ args.toList with
 | none=>simp
 | some vs=>cases b <;> simp <;> rcases vs with _ | ⟨a,_ | ⟨b,_ | _⟩⟩ <;> rfl
theorem P9a (ts:Array TypeId) (s x:Value):Y1a P .append ts ty h (some [s,x])=.ofp (s0a P ts s x h):=rfl
theorem w3b (ts:Array TypeId) (x:Value):Y1a P .len ts ty h (some [x])=.ofv h (dLen P ts x h):=rfl
theorem R0b (ts:Array TypeId) (x:Value):Y1a P .clear ts ty h (some [x])=.ofp (k3a P ts x h):=rfl
theorem Q9a (ts:Array TypeId) (m k:Value):Y1a P .delete ts ty h (some [m,k])=.ofp (Y2a P ts m k h):=rfl
theorem v5a (ts:Array TypeId):Y1a P .recover ts ty h (some [])=.ok .recover h:=rfl
theorem x3b (ts:Array TypeId) (vs:List Value):Y1a P .min ts ty h (some vs)=if vs.all Yk then XX P (Builtin.min_ ts ty vs.toArray) h else .bad:=rfl
def d2a (P:Program) (h:DHeap):Option Value→Option (List Value)→DR
 | some fv,some vs=>
   match X0a P fv vs h with
   | some x=>.ok x h
   | none=>.bad
 | _,_=>.bad
theorem V2c (f:Operand) (args:Array Operand) (ts:Array TypeId):dOp P ρ ⟨dst,.call ⟨.value f,args,ts⟩,ty,pos,aft,gd⟩ h=d2a P h (ρ f) (YX ρ args.toList):=by
 simp only[dOp]
 cases h1:YX ρ args.toList with
 | none=>cases ρ f <;> rfl
 | some vs=>cases h2:ρ f with
   | none=>simp[h2,d2a]
   | some v=>simp[h2,d2a];rfl
theorem a6a {f:FuncId} (hg:K0a P f=true) (first cap:Array Value) (vs:List Value):d2a P h (some (.func (.func f) first cap)) (some vs)=.ok (.enter f (first.toList++vs++cap.toList)) h:=by
 simp[d2a,X0a,hg]
theorem w5a {l:Nat} {d:n2a} (hl:h.get l=some (.loop d)) (vs:List Value) (hv:d.params.size=vs.length) (hp:d.params.toList.all (fun p=>decide (p<d.size))=true) :
 d2a P h (some (.func (.yield l) #[] #[])) (some vs)=.ok (.round l d.size (w0a d.tmps d.params.toList vs) d.assign d.body) h:=by
 have hc:(#[]:Array Value).size=0∧(#[]:Array Value).size=0∧d.params.size=vs.length∧d.params.toList.all (fun p=>decide (p<d.size))=true:=⟨rfl,rfl,hv,hp⟩
 simp only[d2a,X0a,hl,if_pos hc]
def o5a (P:Program) (h:DHeap):Option Value→Option (List Value)→DR
 | some fv,some vs=>
   match X0a P fv vs h with
   | some (.enter g args)=>.ok (.defer g args) h
   | _=>.bad
 | _,_=>.bad
theorem T9b (f:Operand) (args:Array Operand) (ts:Array TypeId):dOp P ρ ⟨dst,.defer ⟨.value f,args,ts⟩,ty,pos,aft,gd⟩ h=o5a P h (ρ f) (YX ρ args.toList):=by
 simp only[dOp]
 cases h1:YX ρ args.toList with
 | none=>cases ρ f <;> rfl
 | some vs=>cases h2:ρ f with
   | none=>simp[h2,o5a]
   | some v=>
     simp only[h2,o5a];rfl
theorem y3b {f:FuncId} (hg:K0a P f=true) (first cap:Array Value) (vs:List Value):o5a P h (some (.func (.func f) first cap)) (some vs)=.ok (.defer f (first.toList++vs++cap.toList)) h:=by
 simp[o5a,X0a,hg]
def q6b (h:DHeap):Option Value→DR
 | some (.iface t v)=>.pan (.iface t v) h
 | _=>.bad
theorem W9b (x:Operand):dOp P ρ ⟨dst,.panic x,ty,pos,aft,gd⟩ h=q6b h (ρ x):=rfl
theorem B2b (t:TypeId) (v:Value):q6b h (some (.iface t v))=.pan (.iface t v) h:=rfl
theorem w5b:YX ρ []=some []:=rfl
def x4c:Option Value→Option (List Value)→Option (List Value)
 | some v,some vs=>some (v :: vs)
 | _,_=>none
theorem b4b (x:Operand) (xs:List Operand):YX ρ (x :: xs)=x4c (ρ x) (YX ρ xs):=rfl
theorem r7b (v:Value) (vs:List Value):x4c (some v) (some vs)=some (v :: vs):=rfl
theorem D2b:n0a ρ []=some []:=rfl
def y4c (i:Nat):Option Value→Option (List (Nat × Value))→Option (List (Nat × Value))
 | some v,some vs=>some ((i,v) :: vs)
 | _,_=>none
theorem d1b (i:Nat) (x:Operand) (xs:List (Nat × Operand)):n0a ρ ((i,x) :: xs)=y4c i (ρ x) (n0a ρ xs):=rfl
theorem s7b (i:Nat) (v:Value) (vs:List (Nat × Value)):y4c i (some v) (some vs)=some ((i,v) :: vs):=rfl
variable {t:TypeId} {ox oy:Operand} {k:IntKind} {a b:Int}
theorem x6c:ZV P .add t ox oy (.int k a) (.int k b) h=.ok (.value (.int k (k.wrap (a+b)))) h:=by
 simp[ZV,Yk,XJ,Yw,XX,ZW,eqGuard,binOp,Op.intArith,Bind.bind,Pure.pure,Sem.bind]
theorem G6c:ZV P .sub t ox oy (.int k a) (.int k b) h=.ok (.value (.int k (k.wrap (a - b)))) h:=by
 simp[ZV,Yk,XJ,Yw,XX,ZW,eqGuard,binOp,Op.intArith,Bind.bind,Pure.pure,Sem.bind]
theorem E6c:ZV P .mul t ox oy (.int k a) (.int k b) h=.ok (.value (.int k (k.wrap (a*b)))) h:=by
 simp[ZV,Yk,XJ,Yw,XX,ZW,eqGuard,binOp,Op.intArith,Bind.bind,Pure.pure,Sem.bind]
theorem d6b (hb:b≠0):ZV P .quo t ox oy (.int k a) (.int k b) h=.ok (.value (.int k (k.wrap (a.tdiv b)))) h:=by
 simp[ZV,Yk,XJ,Yw,XX,ZW,eqGuard,binOp,Op.intDiv,hb,Bind.bind,Pure.pure,Sem.bind]
theorem f6b (hb:b≠0):ZV P .rem t ox oy (.int k a) (.int k b) h=.ok (.value (.int k (a.tmod b))) h:=by
 simp[ZV,Yk,XJ,Yw,XX,ZW,eqGuard,binOp,Op.intDiv,hb,Bind.bind,Pure.pure,Sem.bind]
theorem bin_and:ZV P .and t ox oy (.int k a) (.int k b) h=.ok (.value (.int k (k.wrap (BitVec.ofInt k.bits a &&& BitVec.ofInt k.bits b).toNat))) h:=by
 simp[ZV,Yk,XJ,Yw,XX,ZW,eqGuard,binOp,Op.intBits,Bind.bind,Pure.pure,Sem.bind]
theorem n9b:ZV P .or t ox oy (.int k a) (.int k b) h=.ok (.value (.int k (k.wrap (BitVec.ofInt k.bits a ||| BitVec.ofInt k.bits b).toNat))) h:=by
 simp[ZV,Yk,XJ,Yw,XX,ZW,eqGuard,binOp,Op.intBits,Bind.bind,Pure.pure,Sem.bind]
theorem H6c:ZV P .xor t ox oy (.int k a) (.int k b) h=.ok (.value (.int k (k.wrap (BitVec.ofInt k.bits a ^^^ BitVec.ofInt k.bits b).toNat))) h:=by
 simp[ZV,Yk,XJ,Yw,XX,ZW,eqGuard,binOp,Op.intBits,Bind.bind,Pure.pure,Sem.bind]
theorem g6b {k':IntKind} (hb:¬ b<0):ZV P .shl t ox oy (.int k a) (.int k' b) h=.ok (.value (.int k (k.wrap (a*2 ^ (min b.toNat k.bits))))) h:=by
 simp[ZV,Yk,XJ,Yw,XX,ZW,eqGuard,binOp,Op.shift,hb,Bind.bind,Pure.pure,Sem.bind]
theorem h6b {k':IntKind} (hb:¬ b<0):ZV P .shr t ox oy (.int k a) (.int k' b) h=.ok (.value (.int k (a.fdiv (2 ^ (min b.toNat k.bits))))) h:=by
 simp[ZV,Yk,XJ,Yw,XX,ZW,eqGuard,binOp,Op.shift,hb,Bind.bind,Pure.pure,Sem.bind]
theorem z6c:ZV P .eql t ox oy (.int k a) (.int k b) h=.ok (.value (.bool (decide (a=b)))) h:=by
 simp[ZV,Yk,XJ,Yw,XX,ZW,eqGuard,binOp,Op.intCmp,Bind.bind,Pure.pure,Sem.bind]
 rfl
theorem F6c:ZV P .neq t ox oy (.int k a) (.int k b) h=.ok (.value (.bool (!decide (a=b)))) h:=by
 simp[ZV,Yk,XJ,Yw,XX,ZW,eqGuard,binOp,Op.intCmp,Bind.bind,Pure.pure,Sem.bind]
 rfl
theorem D6c:ZV P .lss t ox oy (.int k a) (.int k b) h=.ok (.value (.bool (decide (a<b)))) h:=by
 simp[ZV,Yk,XJ,Yw,XX,ZW,eqGuard,binOp,Op.intCmp,Bind.bind,Pure.pure,Sem.bind]
theorem C6c:ZV P .leq t ox oy (.int k a) (.int k b) h=.ok (.value (.bool (decide (a≤b)))) h:=by
 simp[ZV,Yk,XJ,Yw,XX,ZW,eqGuard,binOp,Op.intCmp,Bind.bind,Pure.pure,Sem.bind]
theorem B6c:ZV P .gtr t ox oy (.int k a) (.int k b) h=.ok (.value (.bool (decide (b<a)))) h:=by
 simp[ZV,Yk,XJ,Yw,XX,ZW,eqGuard,binOp,Op.intCmp,Bind.bind,Pure.pure,Sem.bind]
theorem A6c:ZV P .geq t ox oy (.int k a) (.int k b) h=.ok (.value (.bool (decide (b≤a)))) h:=by
 simp[ZV,Yk,XJ,Yw,XX,ZW,eqGuard,binOp,Op.intCmp,Bind.bind,Pure.pure,Sem.bind]
end Go.D
namespace Go.D
variable {P:Program} {h h':DHeap} {id o n z:Nat} {t:TypeId}
theorem Zz (h:DHeap) (x:DObj):(h.push x).get h.next=some x:=by simp[DHeap.push]
theorem ZX (h:DHeap) (x:DObj) (hi:id<h.next):(h.push x).get id=h.get id:=by simp[DHeap.push,Nat.ne_of_lt hi]
theorem l0a (h:DHeap) (x:DObj):(h.push x).next=h.next+1:=rfl
theorem Zq (h:DHeap) (x:DObj):(h.set id x).get id=some x:=by simp[DHeap.set]
theorem Zx (h:DHeap) (x:DObj) {i:Nat} (hi:i≠id):(h.set id x).get i=h.get i:=by simp[DHeap.set,hi]
theorem Z6a (h:DHeap) (x:DObj):(h.set id x).next=h.next:=rfl
structure Ext (h h':DHeap):Prop where
 next:h.next≤h'.next
 ng:h'.ng=h.ng
 get:∀ i,i<h.next→h'.get i=h.get i
theorem Ext.refl (h:DHeap):Ext h h:=⟨Nat.le_refl _,rfl,fun _ _=>rfl⟩
theorem Ext.trans {h'':DHeap} (a:Ext h h') (b:Ext h' h''):Ext h h'':=⟨Nat.le_trans a.next b.next,b.ng.trans a.ng,fun i hi=>(b.get i (Nat.lt_of_lt_of_le hi a.next)).trans (a.get i hi)⟩
theorem Ext.push (a:Ext h h') (x:DObj):Ext h (h'.push x):=a.trans ⟨Nat.le_succ _,rfl,fun _ hi=>ZX _ _ hi⟩
theorem Ext.set (a:Ext h h') {x:DObj} (hi:h.next≤id):Ext h (h'.set id x):=⟨a.next,a.ng,fun i hl=>by rw[Zx _ _ (by omega)];exact a.get i hl⟩
def ZZ (h:DHeap) (id o:Nat):Option Value:=
 match h.get id with
 | some (.row cells _ _)=>cells[o]?
 | _=>none
def Zj (h:DHeap) (id o n:Nat):Option Value:=
 match h.get id with
 | some (.row cells _ _)=>if o+n≤cells.length then some (.agg ((cells.drop o).take n).toArray) else none
 | _=>none
theorem Zy {cells:List Value} {ro:Bool} (hg:h.get id=some (.row cells z ro)):ZZ h id o=cells[o]?:=by simp[ZZ,hg]
theorem Zu {cells:List Value} {ro:Bool} (hg:h.get id=some (.row cells z ro)) (hl:o+n≤cells.length):Zj h id o n=some (.agg ((cells.drop o).take n).toArray):=by simp[Zj,hg,hl]
def storeAt (h:DHeap) (id o:Nat) (vs:List Value):Option DHeap:=
 match h.get id with
 | some (.row cells esz false)=>if o+vs.length≤cells.length∧vs.all Value.oneCell'=true then some (h.set id (.row (YW cells o vs) esz false)) else none
 | _=>none
theorem b0a {cells vs:List Value} (hg:h.get id=some (.row cells z false)) (hl:o+vs.length≤cells.length) (hv:vs.all Value.oneCell'=true):storeAt h id o vs=some (h.set id (.row (YW cells o vs) z false)):=by
 simp only[storeAt,hg]
 rw[if_pos ⟨hl,hv⟩]
def f3a (P:Program) (t:TypeId):Bool:=
 match P.underlying t,P.info? t with
 | some d,some i=>!C7a d&&i.size==1
 | _,_=>false
def E4a (P:Program) (t:TypeId):Option Nat:=
 match P.underlying t,P.info? t with
 | some d,some i=>if C7a d then some i.size else none
 | _,_=>none
theorem M5a (h1:f3a P t=true):XQ P t (.pointer (some ⟨id,o,none⟩)) h=ZZ h id o:=by
 unfold f3a at h1
 split at h1
 ·rename_i d i e1 e2
  rw[Bool.and_eq_true]at h1
  have ha:C7a d=false:=by simpa using h1.1
  simp only[XQ,ZZ]
  cases h.get id with
  | none=>simp
  | some x=>cases x <;> simp[e1,e2,ha]
 ·cases h1
theorem L5a (h1:E4a P t=some n):XQ P t (.pointer (some ⟨id,o,none⟩)) h=Zj h id o n:=by
 unfold E4a at h1
 split at h1
 ·rename_i d i e1 e2
  split at h1
  ·rename_i ha
   cases h1
   simp only[XQ,Zj]
   cases h.get id with
   | none=>simp
   | some x=>cases x <;> simp[e1,e2,ha]
  ·cases h1
 ·cases h1
theorem b5a {v:Value} (h1:f3a P t=true) (hv:v.cells=#[v]):Yz P t (.pointer (some ⟨id,o,none⟩)) v h=storeAt h id o [v]:=by
 unfold f3a at h1
 split at h1
 ·rename_i d i e1 e2
  rw[Bool.and_eq_true]at h1
  have hs:i.size=1:=by simpa using h1.2
  simp only[Yz,storeAt,e2,hv,hs]
  cases h.get id with
  | none=>rfl
  | some x=>
    cases x with
    | row cells esz ro=>cases ro <;> simp[hs]
    | _=>rfl
 ·cases h1
theorem V9a {cs:Array Value} (h1:E4a P t=some n) (hv:cs.size=n):Yz P t (.pointer (some ⟨id,o,none⟩)) (.agg cs) h=storeAt h id o cs.toList:=by
 unfold E4a at h1
 split at h1
 ·rename_i d i e1 e2
  split at h1
  ·cases h1
   simp only[Yz,storeAt,e2,Value.cells]
   cases h.get id with
   | none=>rfl
   | some x=>
     cases x with
     | row cells esz ro=>cases ro <;> simp[hv]
     | _=>rfl
  ·cases h1
 ·cases h1
def o9a (P:Program) (s:TypeId) (f:Nat):Option Nat:=
 match P.underlying s with
 | some (.struct fields)=>
   match fields[f]? with
   | some fd=>
     match P.info? fd.type with
     | some i=>if i.size=0 then none else some fd.offset
     | none=>none
   | none=>none
 | _=>none
theorem r2b {s:TypeId} {f off:Nat} (h1:o9a P s f=some off):M1a P s (.pointer (some ⟨id,o,none⟩)) f=some (.pointer (some ⟨id,o+off,none⟩)):=by
 unfold o9a at h1
 split at h1
 ·rename_i fields e1
  split at h1
  ·rename_i fd e2
   split at h1
   ·rename_i i e3
    split at h1
    ·cases h1
    ·rename_i hz;cases h1;simp only[M1a,e1,e2,e3,hz,if_false]
   ·cases h1
  ·cases h1
 ·cases h1
def G0a (P:Program) (t:TypeId):Option Nat:=
 match P.underlying t with
 | some (.slice e)=>(P.info? e).map (·.size)
 | _=>none
theorem r3a {len cap:Nat} {k:IntKind} {i:Int} (h1:G0a P t=some z) (h2:0≤i) (h3:i<(len:Int)):ZQ P t (.slice (some ⟨id,o,none⟩) len cap) (.int k i)=some (.pointer (some ⟨id,o+i.toNat*z,none⟩)):=by
 unfold G0a at h1
 split at h1
 ·rename_i e e1
  cases e2:P.info? e with
  | none=>rw[e2]at h1;cases h1
  | some i'=>
    rw[e2]at h1
    cases h1
    simp only[ZQ,e1,e2]
    rw[if_pos ⟨h2,h3⟩]
 ·cases h1
def r2a (P:Program) (t:TypeId):Bool:=
 match P.underlying t with
 | some (.slice _)=>true
 | _=>false
theorem S9a {ts:Array TypeId} {a:Option Addr} {len cap:Nat} (ht:ts[0]? = some t) (h1:r2a P t=true):dLen P ts (.slice a len cap) h=some (goInt len):=by
 unfold r2a at h1
 split at h1
 ·rename_i e e1
  simp[dLen,ht,e1]
 ·cases h1
end Go.D
namespace Go.D
variable {P:Program} {h h':DHeap} {id o n z:Nat} {t:TypeId}
def zeroCells (P:Program) (t:TypeId):Option (List Value):=
 match P.info? t with
 | some i=>
   match i.zero with
   | some z=>some z.cells.toList
   | none=>none
 | none=>none
theorem M8a {cs:List Value} (h1:zeroCells P t=some cs) (h2:cs.all Yw=true) (h3:c1a P t=z):i1a P t h=some (.pointer (some ⟨h.next,0,none⟩),h.push (.row cs z false)):=by
 unfold zeroCells at h1
 split at h1
 ·rename_i i e1
  split at h1
  ·rename_i zv e2
   cases h1
   simp only[i1a,e1,e2,h2,if_true,h3]
  ·cases h1
 ·cases h1
end Go.D
namespace Go.D
inductive VIn (S:Nat→Prop):Value→Prop
 | bool (b):VIn S (.bool b)
 | int (k n):VIn S (.int k n)
 | float (k b):VIn S (.float k b)
 | complex (k a b):VIn S (.complex k a b)
 | string (s):VIn S (.string s)
 | nilFunc:VIn S .nilFunc
 | nilIface:VIn S .nilIface
 | pnil:VIn S (.pointer none)
 | ptr {i o:Nat} (h:S i):VIn S (.pointer (some ⟨i,o,none⟩))
 | snil:VIn S (.slice none 0 0)
 | slice {i o n c:Nat} (h:S i):VIn S (.slice (some ⟨i,o,none⟩) n c)
 | mnil:VIn S (.map none)
 | map {i:Nat} (h:S i):VIn S (.map (some i))
 | func {fn:Fn} {first cap:Array Value} (hf:∀ l,fn≠.yield l) (h1:∀ v∈first,VIn S v) (h2:∀ v∈cap,VIn S v):VIn S (.func fn first cap)
 | yield {i:Nat} (h:S i):VIn S (.func (.yield i) #[] #[])
 | iface {t:TypeId} {v:Value} (h:VIn S v):VIn S (.iface t v)
 | agg {cs:Array Value} (h:∀ v∈cs,VIn S v):VIn S (.agg cs)
 | tuple {cs:Array Value} (h:∀ v∈cs,VIn S v):VIn S (.tuple cs)
theorem VIn.mono {S S':Nat→Prop} (hs:∀ i,S i→S' i) {v:Value} (h:VIn S v):VIn S' v:=by
 induction h with
 | bool b=>exact .bool b
 | int k n=>exact .int k n
 | float k b=>exact .float k b
 | complex k a b=>exact .complex k a b
 | string s=>exact .string s
 | nilFunc=>exact .nilFunc
 | nilIface=>exact .nilIface
 | pnil=>exact .pnil
 | ptr h=>exact .ptr (hs _ h)
 | snil=>exact .snil
 | slice h=>exact .slice (hs _ h)
 | mnil=>exact .mnil
 | map h=>exact .map (hs _ h)
 | func hf _ _ i1 i2=>exact .func hf i1 i2
 | yield h=>exact .yield (hs _ h)
 | iface _ ih=>exact .iface ih
 | agg _ ih=>exact .agg ih
 | tuple _ ih=>exact .tuple ih
structure Rep (α:Type) where
 z:Nat
 rd:(Nat→Prop)→DHeap→List Value→α→Prop
 len:∀ {S h cs x},rd S h cs x→cs.length=z
 one:∀ {S h cs x},rd S h cs x→cs.all Value.oneCell'=true
 mono:∀ {S S':Nat→Prop} {h h':DHeap} {cs x},rd S h cs x→(∀ i,S i→S' i∧h'.get i=h.get i)→rd S' h' cs x
 vin:∀ {S h cs x},rd S h cs x→∀ v∈cs,VIn S v
def inK (k:IntKind) (n:Int):Prop:=k.min≤n∧n≤k.max
def rP {α β:Type} (R:Rep α) (Q:Rep β):Rep (α × β) where
 z:=R.z+Q.z
 rd S h cs x:=∃ c1 c2,cs=c1++c2∧R.rd S h c1 x.1∧Q.rd S h c2 x.2
 len h:=by obtain ⟨c1,c2,rfl,a,b⟩:=h;simp[R.len a,Q.len b]
 one h:=by obtain ⟨c1,c2,rfl,a,b⟩:=h;rw[List.all_append,R.one a,Q.one b];rfl
 mono h m:=by obtain ⟨c1,c2,e,a,b⟩:=h;exact ⟨c1,c2,e,R.mono a m,Q.mono b m⟩
 vin h v hv:=by
  obtain ⟨c1,c2,rfl,a,b⟩:=h
  rcases List.mem_append.1 hv with hv | hv
  ·exact R.vin a v hv
  ·exact Q.vin b v hv
def rM {α β:Type} (R:Rep α) (f:β→α):Rep β where
 z:=R.z
 rd S h cs x:=R.rd S h cs (f x)
 len h:=R.len h
 one h:=R.one h
 mono h m:=R.mono h m
 vin h:=R.vin h
def Els {α:Type} (R:Rep α) (S:Nat→Prop) (h:DHeap):List Value→List α→Prop
 | cs,[]=>cs=[]
 | cs,x :: l=>∃ c1 c2,cs=c1++c2∧R.rd S h c1 x∧Els R S h c2 l
section
variable {α:Type} {R:Rep α} {S S':Nat→Prop} {h h':DHeap}
theorem Els.len:∀ {cs:List Value} {l:List α},Els R S h cs l→cs.length=l.length*R.z
 | _,[],e=>by rw[show _=_ from e];simp
 | _,_ :: l,⟨c1,c2,e,a,b⟩=>by rw[e,List.length_append,R.len a,Els.len b,List.length_cons,Nat.succ_mul];omega
theorem Els.one:∀ {cs:List Value} {l:List α},Els R S h cs l→cs.all Value.oneCell'=true
 | _,[],e=>by rw[show _=_ from e];rfl
 | _,_ :: l,⟨c1,c2,e,a,b⟩=>by rw[e,List.all_append,R.one a,Els.one b];rfl
theorem Els.mono (m:∀ i,S i→S' i∧h'.get i=h.get i):∀ {cs:List Value} {l:List α},Els R S h cs l→Els R S' h' cs l
 | _,[],e=>e
 | _,_ :: l,⟨c1,c2,e,a,b⟩=>⟨c1,c2,e,R.mono a m,Els.mono m b⟩
theorem Els.vin:∀ {cs:List Value} {l:List α},Els R S h cs l→∀ v∈cs,VIn S v
 | _,[],e,v,hv=>by rw[show _=_ from e]at hv;simp at hv
 | _,_ :: l,⟨c1,c2,e,a,b⟩,v,hv=>by
   rw[e]at hv
   rcases List.mem_append.1 hv with hv | hv
   ·exact R.vin a v hv
   ·exact Els.vin b v hv
theorem Els.append:∀ {cs ds:List Value} {l k:List α},Els R S h cs l→Els R S h ds k→Els R S h (cs++ds) (l++k)
 | _,ds,[],k,e,g=>by rw[show _=_ from e];exact g
 | _,ds,_ :: l,k,⟨c1,c2,e,a,b⟩,g=>⟨c1,c2++ds,by rw[e,List.append_assoc],a,Els.append b g⟩
theorem Els.single {cs:List Value} {x:α} (a:R.rd S h cs x):Els R S h cs [x]:=⟨cs,[],by simp,a,rfl⟩
theorem Els.take:∀ (n:Nat) {cs:List Value} {l:List α},Els R S h cs l→Els R S h (cs.take (n*R.z)) (l.take n)
 | 0,_,_,_=>by simp[Els]
 | n+1,_,[],e=>by rw[show _=_ from e];simp[Els]
 | n+1,_,x :: l,⟨c1,c2,e,a,b⟩=>by
   refine ⟨c1,c2.take (n*R.z),?_,a,Els.take n b⟩
   rw[e,List.take_append,R.len a,List.take_of_length_le (by rw[R.len a];rw[Nat.succ_mul];omega),Nat.succ_mul]
   congr 2;omega
theorem Els.drop:∀ (n:Nat) {cs:List Value} {l:List α},Els R S h cs l→Els R S h (cs.drop (n*R.z)) (l.drop n)
 | 0,_,_,e=>by simpa using e
 | n+1,_,[],e=>by rw[show _=_ from e];simp[Els]
 | n+1,_,x :: l,⟨c1,c2,e,a,b⟩=>by
   have:=Els.drop n b
   rw[e,List.drop_append,R.len a,List.drop_of_length_le (by rw[R.len a];rw[Nat.succ_mul];omega),Nat.succ_mul]
   rw[show n*R.z+R.z - R.z=n*R.z by omega]
   simpa using this
theorem Els.get {cs:List Value} {l:List α} (e:Els R S h cs l) {i:Nat} {x:α} (hx:l[i]? = some x):R.rd S h ((cs.drop (i*R.z)).take R.z) x:=by
 have h1:=Els.drop i e
 have hl:=(List.getElem?_eq_some_iff.1 hx).1
 rw[List.drop_eq_getElem_cons hl]at h1
 obtain ⟨c1,c2,e1,a,b⟩:=h1
 rw[e1,List.take_append,R.len a,List.take_of_length_le (by rw[R.len a];omega)]
 have:l[i]=x:=by rw[List.getElem?_eq_getElem hl]at hx;exact Option.some.inj hx
 simpa [this] using a
theorem Els.set:∀ {cs ds:List Value} {l:List α} (i:Nat) {x:α},Els R S h cs l→R.rd S h ds x→i<l.length→Els R S h (cs.take (i*R.z)++ds++cs.drop (i*R.z+R.z)) (l.set i x)
 | _,ds,y :: l,0,x,⟨c1,c2,e,a,b⟩,d,_=>by
   refine ⟨ds,c2,?_,d,b⟩
   have:R.z=c1.length:=(R.len a).symm
   rw[e];simp[this]
 | _,ds,y :: l,i+1,x,⟨c1,c2,e,a,b⟩,d,hi=>by
   refine ⟨c1,_,?_,a,Els.set i b d (by simpa using hi)⟩
   have hz:c1.length=R.z:=R.len a
   rw[e,Nat.succ_mul,List.take_append,List.drop_append,hz,List.take_of_length_le (by omega),List.drop_of_length_le (by omega)]
   rw[show i*R.z+R.z - R.z=i*R.z by omega,show i*R.z+R.z+R.z - R.z=i*R.z+R.z by omega]
   simp
end
end Go.D
namespace Go.D
variable {P:Program} {α:Type} {R:Rep α} {S S':Nat→Prop} {h h':DHeap} {v:Value} {l k:List α} {t:TypeId} {id o n z:Nat}
def At (R:Rep α) (S:Nat→Prop) (h:DHeap) (id o:Nat) (x:α):Prop:=
 ∃ cells esz ro,h.get id=some (.row cells esz ro)∧o+R.z≤cells.length∧R.rd S h ((cells.drop o).take R.z) x
theorem At.mono {x:α} (a:At R S h id o x) (hi:h'.get id=h.get id) (m:∀ i,S i→S' i∧h'.get i=h.get i):At R S' h' id o x:=by
 obtain ⟨cells,esz,ro,g,b,c⟩:=a
 exact ⟨cells,esz,ro,hi.trans g,b,R.mono c m⟩
def Sl (R:Rep α) (S:Nat→Prop) (h:DHeap) (v:Value) (l:List α):Prop:=
 (v=.slice none 0 0∧l=[])∨∃ id o cap cells esz ro,v=.slice (some ⟨id,o,none⟩) l.length cap∧S id∧h.get id=some (.row cells esz ro)∧(ro=true∨esz=R.z) ∧
   o+l.length*R.z≤cells.length∧Els R S h ((cells.drop o).take (l.length*R.z)) l
def rSl (R:Rep α):Rep (List α) where
 z:=1
 rd S h cs l:=∃ v,cs=[v]∧Sl R S h v l
 len h:=by obtain ⟨v,rfl,_⟩:=h;rfl
 one h:=by
  obtain ⟨v,rfl,a⟩:=h
  rcases a with ⟨rfl,_⟩ | ⟨id,o,cap,cells,esz,ro,rfl,_⟩ <;> rfl
 mono h m:=by
  obtain ⟨v,e,a⟩:=h
  refine ⟨v,e,?_⟩
  rcases a with a | ⟨id,o,cap,cells,esz,ro,e,a,b,c,d,f⟩
  ·exact .inl a
  ·exact .inr ⟨id,o,cap,cells,esz,ro,e,(m id a).1,(m id a).2.trans b,c,d,f.mono m⟩
 vin h v hv:=by
  obtain ⟨u,rfl,a⟩:=h
  simp at hv;subst hv
  rcases a with ⟨rfl,_⟩ | ⟨id,o,cap,cells,esz,ro,rfl,b,_⟩
  ·exact .snil
  ·exact .slice b
theorem Sl.vin (a:Sl R S h v l):VIn S v:=(rSl R).vin (cs:=[v]) (x:=l) ⟨v,rfl,a⟩ v (by simp)
theorem Sl.mono (a:Sl R S h v l) (m:∀ i,S i→S' i∧h'.get i=h.get i):Sl R S' h' v l:=by
 obtain ⟨_,e,b⟩:=(rSl R).mono (cs:=[v]) (x:=l) ⟨v,rfl,a⟩ m
 cases e;exact b
theorem Sl.nil (R:Rep α) (S:Nat→Prop) (h:DHeap):Sl R S h (.slice none 0 0) []:=.inl ⟨rfl,rfl⟩
theorem Sl.lenV (a:Sl R S h v l):lenV v=some l.length:=by
 rcases a with ⟨rfl,rfl⟩ | ⟨id,o,cap,cells,esz,ro,rfl,_⟩ <;> rfl
theorem Sl.isSlice (a:Sl R S h v l):∃ a c,v=.slice a l.length c:=by
 rcases a with ⟨rfl,rfl⟩ | ⟨id,o,cap,cells,esz,ro,rfl,_⟩
 ·exact ⟨_,_,rfl⟩
 ·exact ⟨_,_,rfl⟩
theorem Sl.dLen {ts:Array TypeId} (a:Sl R S h v l) (ht:ts[0]? = some t) (h1:r2a P t=true):dLen P ts v h=some (.int .i64 l.length):=by
 obtain ⟨x,c,rfl⟩:=a.isSlice
 exact S9a ht h1
theorem Sl.at (a:Sl R S h v l) {i:Nat} {x:α} (hx:l[i]? = some x):∃ id o cap,v=.slice (some ⟨id,o,none⟩) l.length cap∧S id∧At R S h id (o+i*R.z) x:=by
 have hl:=(List.getElem?_eq_some_iff.1 hx).1
 rcases a with ⟨rfl,rfl⟩ | ⟨id,o,cap,cells,esz,ro,rfl,b,c,d,e,f⟩
 ·simp at hl
 ·refine ⟨id,o,cap,rfl,b,cells,esz,ro,c,?_,?_⟩
  ·have:(i+1)*R.z≤l.length*R.z:=Nat.mul_le_mul_right _ hl
   rw[Nat.succ_mul]at this;omega
  ·have:=f.get hx
   rw[List.drop_take,List.drop_drop,List.take_take]at this
   have h2:(i+1)*R.z≤l.length*R.z:=Nat.mul_le_mul_right _ hl
   rw[Nat.succ_mul]at h2
   rw[Nat.min_eq_left (by omega)]at this
   exact this
theorem Sl.indexAddr (a:Sl R S h v l) (hz:G0a P t=some R.z) {k:IntKind} {i:Int} {x:α} (h0:0≤i) (hx:l[i.toNat]? = some x):∃ id o,ZQ P t v (.int k i)=some (.pointer (some ⟨id,o,none⟩))∧S id∧At R S h id o x:=by
 obtain ⟨id,o,cap,rfl,b,c⟩:=a.at hx
 have hl:=(List.getElem?_eq_some_iff.1 hx).1
 exact ⟨id,_,r3a hz h0 (by omega),b,c⟩
theorem Sl.src (a:Sl R S h v l):∃ cs,I0a R.z l.length v h=some cs∧Els R S h cs l:=by
 rcases a with ⟨rfl,rfl⟩ | ⟨id,o,cap,cells,esz,ro,rfl,b,c,d,e,f⟩
 ·exact ⟨[],rfl,rfl⟩
 ·refine ⟨_,?_,f⟩
  simp only[I0a,c]
  rw[if_pos e]
theorem At.load_agg {x:α} (a:At R S h id o x):∃ cs:List Value,Zj h id o R.z=some (.agg cs.toArray)∧R.rd S h cs x:=by
 obtain ⟨cells,esz,ro,g,b,c⟩:=a
 exact ⟨_,Zu g b,c⟩
theorem Sl.slice (a:Sl R S h v l) (hz:G0a P t=some R.z) (hp:0<R.z) {lo hi:Option Value} {i j:Nat} (hj:Yj hi l.length l.length=some j) (hi2:Yj lo 0 j=some i) (hij:i≤j) (hjl:j≤l.length) :
 ∃ v',Xq P t v lo hi none h=some v'∧Sl R S h v' ((l.take j).drop i):=by
 unfold G0a at hz
 split at hz
 ·rename_i e e1
  cases e2:P.info? e with
  | none=>rw[e2]at hz;cases hz
  | some inf=>
    rw[e2]at hz
    have hsz:inf.size=R.z:=by simpa using hz
    rcases a with ⟨rfl,rfl⟩ | ⟨id,o,cap,cells,esz,ro,rfl,b,c,d,e,f⟩
    ·have hj':Yj hi 0 0=some j:=hj
     refine ⟨.slice none 0 0,?_,?_⟩
     ·simp only[Xq,e1,e2,hj',hi2]
     ·simpa using Sl.nil R S h
    ·have hfit:D1a h id inf.size=true:=by
      simp only[D1a,c,hsz]
      rcases d with d | d <;> simp[d]
     refine ⟨.slice (some ⟨id,o+i*inf.size,none⟩) (j - i) (if j=l.length∧cap=l.length then j - i else j - i+1),?_,.inr ⟨id,o+i*R.z,(if j=l.length∧cap=l.length then j - i else j - i+1),cells,esz,ro,?_,b,c,d,?_,?_⟩⟩
     ·simp only[Xq,e1,e2]
      rw[if_pos ⟨hfit,by rw[hsz];exact hp⟩]
      simp only[Yj]at hj hi2 ⊢
      simp only[hj,hi2]
     ·rw[hsz];simp[List.length_take,Nat.min_eq_left hjl]
     ·have h1:((l.take j).drop i).length=j - i:=by simp[Nat.min_eq_left hjl]
      rw[h1]
      have h2:j*R.z≤l.length*R.z:=Nat.mul_le_mul_right _ hjl
      have h3:i*R.z+(j - i)*R.z=j*R.z:=by rw[← Nat.add_mul];congr 1;omega
      omega
     ·have h1:((l.take j).drop i).length=j - i:=by simp[Nat.min_eq_left hjl]
      have g:=(f.take j).drop i
      have h2:j*R.z≤l.length*R.z:=Nat.mul_le_mul_right _ hjl
      have h3:i*R.z+(j - i)*R.z=j*R.z:=by rw[← Nat.add_mul];congr 1;omega
      rw[List.take_take,Nat.min_eq_left h2,List.drop_take,List.drop_drop]at g
      rw[h1]
      rw[show j*R.z - i*R.z=(j - i)*R.z by omega]at g
      exact g
 ·cases hz
def Owns (R:Rep α) (S:Nat→Prop) (h:DHeap) (v:Value) (l:List α) (w:Option Nat):Prop:=
 (v=.slice none 0 0∧l=[]∧w=none)∨(w=none∧(∃ a,v=.slice (some a) l.length l.length)∧Sl R S h v l)∨∃ id cap cells,v=.slice (some ⟨id,0,none⟩) l.length cap∧w=some id∧id<h.next∧h.get id=some (.row cells R.z false)∧l.length*R.z≤cells.length ∧
   Els R S h (cells.take (l.length*R.z)) l
theorem Owns.nil (R:Rep α) (S:Nat→Prop) (h:DHeap):Owns R S h (.slice none 0 0) [] none:=.inl ⟨rfl,rfl,rfl⟩
theorem Owns.lt {w:Option Nat} (a:Owns R S h v l w):∀ i,w=some i→i<h.next:=by
 rcases a with ⟨rfl,rfl,rfl⟩ | ⟨rfl,_⟩ | ⟨id,cap,cells,rfl,rfl,b,_⟩
 ·intro i hi;cases hi
 ·intro i hi;cases hi
 ·intro i hi;cases hi;exact b
theorem Owns.sl {w:Option Nat} (a:Owns R S h v l w):Sl R (fun i=>S i∨w=some i) h v l:=by
 rcases a with ⟨rfl,rfl,rfl⟩ | ⟨rfl,_,a⟩ | ⟨id,cap,cells,rfl,rfl,b,c,d,e⟩
 ·exact .nil _ _ _
 ·exact a.mono fun i hi=>⟨.inl hi,rfl⟩
 ·exact .inr ⟨id,0,cap,cells,R.z,false,rfl,.inr rfl,c,.inr rfl,by omega,by simpa using e.mono fun i hi=>⟨.inl hi,rfl⟩⟩
theorem Owns.mono {w:Option Nat} (a:Owns R S h v l w) (hn:h.next≤h'.next) (hw:∀ i,w=some i→h'.get i=h.get i) (m:∀ i,S i→S' i∧h'.get i=h.get i):Owns R S' h' v l w:=by
 rcases a with a | ⟨rfl,a,b⟩ | ⟨id,cap,cells,rfl,rfl,b,c,d,e⟩
 ·exact .inl a
 ·exact .inr (.inl ⟨rfl,a,b.mono m⟩)
 ·exact .inr (.inr ⟨id,cap,cells,rfl,rfl,Nat.lt_of_lt_of_le b hn,(hw id rfl).trans c,d,e.mono m⟩)
def M2a (P:Program) (ts:Array TypeId):Option (Nat × Nat):=
 match ts[0]? with
 | none=>none
 | some st=>
   match P.underlying st with
   | some (.slice e)=>
     match P.info? e with
     | some i=>
       match i.zero with
       | some z=>if C6a P ts[1]? = true∧0<i.size∧z.cells.size=i.size then some (i.size,i.bytes) else none
       | none=>none
     | none=>none
   | _=>none
structure Grew (h h':DHeap) (w:Option Nat):Prop where
 next:h.next≤h'.next
 ng:h'.ng=h.ng
 get:∀ i,i<h.next→w≠some i→h'.get i=h.get i
theorem Grew.refl (h:DHeap) (w:Option Nat):Grew h h w:=⟨Nat.le_refl _,rfl,fun _ _ _=>rfl⟩
theorem Grew.ext (g:Grew h h' none):Ext h h':=⟨g.next,g.ng,fun i hi=>g.get i hi (by simp)⟩
theorem Owns.append {w:Option Nat} {ts:Array TypeId} {b:Nat} {x:Value} {new:List Value} (a:Owns R S h v l w) (hT:M2a P ts=some (R.z,b)) (hS:∀ i,S i→i<h.next∧w≠some i)
 (hx:D.lenV x=some k.length) (hs:I0a R.z k.length x h=some new) (he:Els R S h new k) (hb:(l.length+k.length)*b≤2 ^ 47) (hb2:l.length+k.length≤9223372036854775807) :
 ∃ v' h' w',s0a P ts v x h=some (v',h')∧Grew h h' w∧Owns R S h' v' (l++k) w'∧(k=[]∧w'=w∧v'=v∧h'=h∨w'=some h.next∧h'.next=h.next+1):=by
 unfold M2a at hT
 split at hT
 ·cases hT
 ·rename_i st e0
  split at hT
  ·rename_i e e1
   split at hT
   ·rename_i inf e2
    split at hT
    ·rename_i zv e3
     split at hT
     ·rename_i hc
      obtain ⟨c1,c2,c3⟩:=hc
      simp only[Option.some.injEq,Prod.mk.injEq]at hT
      obtain ⟨hz,rfl⟩:=hT
      rw[← hz]at hs
      have hcond:¬ (zv.cells.size≠inf.size∨new.all Value.oneCell'=false):=by rw[he.one];simp[c3]
      have hlen:new.length=k.length*inf.size:=by rw[he.len,hz]
      by_cases hk:k.length=0
      ·have hk':k=[]:=List.length_eq_zero_iff.1 hk
       subst hk'
       refine ⟨v,h,w,?_,.refl _ _,by simpa using a,.inl ⟨rfl,rfl,rfl,rfl⟩⟩
       have hsl:∃ a n c,v=.slice a n c:=by
        rcases a with ⟨rfl,_⟩ | ⟨_,⟨a,rfl⟩,_⟩ | ⟨id,cap,cells,rfl,_⟩ <;> exact ⟨_,_,_,rfl⟩
       obtain ⟨aa,nn,cc,rfl⟩:=hsl
       simp only[s0a,e0,e1,e2,hx,c1,c2,and_self,if_true,hs,e3]
       rw[if_neg hcond,if_pos hk]
      ·rcases a with ⟨rfl,rfl,rfl⟩ | ⟨rfl,⟨ax,rfl⟩,a⟩ | ⟨id,cap,cells,rfl,rfl,g1,g2,g3,g4⟩
       ·refine ⟨.slice (some ⟨h.next,0,none⟩) k.length (k.length+1),h.push (.row new R.z false),some h.next,?_,⟨Nat.le_succ _,rfl,fun i hi _=>ZX _ _ hi⟩,.inr (.inr ⟨h.next,k.length+1,new,by simp,rfl,Nat.lt_succ_self _,Zz _ _,?_,?_⟩),.inr ⟨rfl,rfl⟩⟩
        ·simp only[s0a,e0,e1,e2,hx,c1,c2,and_self,if_true,hs,e3]
         rw[if_neg hcond,if_neg hk,if_pos ⟨by simpa using hb,by simpa using hb2⟩,hz]
        ·simp[hlen,hz]
        ·rw[List.take_of_length_le (by simp[hlen,hz])]
         exact he.mono fun i hi=>⟨hi,ZX _ _ (hS i hi).1⟩
       ·rcases a with ⟨hh,_⟩ | ⟨id,o,cap,cells,esz,ro,hh,g1,g2,g3,g4,g5⟩
        ·cases hh
        ·cases hh
         obtain ⟨c',hc'⟩:∃ c',(cells.drop o).take (l.length*R.z)++new=c':=⟨_,rfl⟩
         have hels:Els R S h c' (l++k):=by rw[← hc'];exact g5.append he
         have hlen2:c'.length=(l++k).length*R.z:=hels.len
         have hcx:(cells.drop o).take (l.length*inf.size)++new=c':=by rw[hz];exact hc'
         have hfull:Els R S h (c'.take ((l++k).length*R.z)) (l++k):=by rw[List.take_of_length_le (by rw[hlen2];exact Nat.le_refl _)];exact hels
         refine ⟨.slice (some ⟨h.next,0,none⟩) (l.length+k.length) (l.length+k.length+1),h.push (.row c' R.z false),some h.next,?_,⟨Nat.le_succ _,rfl,fun i hi _=>ZX _ _ hi⟩,
          .inr (.inr ⟨h.next,l.length+k.length+1,c',by simp,rfl,Nat.lt_succ_self _,Zz _ _,by rw[hlen2];exact Nat.le_refl _,hfull.mono fun i hi=>⟨hi,ZX _ _ (hS i hi).1⟩⟩),.inr ⟨rfl,rfl⟩⟩
         simp only[s0a,e0,e1,e2,hx,c1,c2,and_self,if_true,hs,e3]
         rw[if_neg hcond,if_neg hk]
         simp only[g2]
         rw[if_pos ⟨by rw[hz];omega,hb,hb2⟩,hcx,hz]
       ·obtain ⟨c',hc'⟩:∃ c',(cells.drop 0).take (l.length*R.z)++new=c':=⟨_,rfl⟩
        have hels:Els R S h c' (l++k):=by rw[← hc'];simpa using g4.append he
        have hlen2:c'.length=(l++k).length*R.z:=hels.len
        have hcx:(cells.drop 0).take (l.length*inf.size)++new=c':=by rw[hz];exact hc'
        have hfull:Els R S h (c'.take ((l++k).length*R.z)) (l++k):=by rw[List.take_of_length_le (by rw[hlen2];exact Nat.le_refl _)];exact hels
        by_cases hcap:cap=l.length
        ·subst hcap
         refine ⟨.slice (some ⟨h.next,0,none⟩) (l.length+k.length) (l.length+k.length+1),h.push (.row c' R.z false),some h.next,?_,⟨Nat.le_succ _,rfl,fun i hi _=>ZX _ _ hi⟩,
          .inr (.inr ⟨h.next,l.length+k.length+1,c',by simp,rfl,Nat.lt_succ_self _,Zz _ _,by rw[hlen2];exact Nat.le_refl _,hfull.mono fun i hi=>⟨hi,ZX _ _ (hS i hi).1⟩⟩),.inr ⟨rfl,rfl⟩⟩
         simp only[s0a,e0,e1,e2,hx,c1,c2,and_self,if_true,hs,e3]
         rw[if_neg hcond,if_neg hk]
         simp only[g2]
         rw[if_pos ⟨by rw[hz];omega,hb,hb2⟩,hcx,hz]
        ·refine ⟨.slice (some ⟨h.next,0,none⟩) (l.length+k.length) (l.length+k.length+1),(h.set id .dead).push (.row c' R.z false),some h.next,?_,
          ⟨Nat.le_succ _,rfl,fun i hi hne=>?_⟩,.inr (.inr ⟨h.next,l.length+k.length+1,c',by simp,rfl,Nat.lt_succ_self _,Zz (h.set id .dead) _,by rw[hlen2];exact Nat.le_refl _,hfull.mono fun i hi=>⟨hi,?_⟩⟩),.inr ⟨rfl,rfl⟩⟩
         ·simp only[s0a,e0,e1,e2,hx,c1,c2,and_self,if_true,hs,e3]
          rw[if_neg hcond,if_neg hk]
          simp only[g2]
          rw[if_pos ⟨by rw[hz];omega,hb,hb2⟩,if_neg hcap,if_pos ⟨trivial,hz.symm⟩,hcx,hz]
         ·rw[ZX (h.set id .dead) _ (show i<(h.set id .dead).next from hi),Zx _ _ (fun e=>hne (by rw[e]))]
         ·rw[ZX (h.set id .dead) _ (show i<(h.set id .dead).next from (hS i hi).1),Zx _ _ (fun e=>(hS i hi).2 (by rw[e]))]
     ·cases hT
    ·cases hT
   ·cases hT
  ·cases hT
end Go.D
namespace Go.D
variable {P:Program} {nt:Nat}
def z0c:Op→Bool
 | .call ⟨.builtin .min,_,_⟩ | .call ⟨.builtin .max,_,_⟩=>true
 | _=>false
def YY (o:Oper):Oper:=⟨o.dst,o.op,if z0c o.op then o.type else 0,"",#[],o.guard⟩
def strip:Code→Code
 | .seq x y=>.seq (strip x) (strip y)
 | .cond c x y=>.cond c (strip x) (strip y)
 | .block id c=>.block id (strip c)
 | .loop c=>.loop (strip c)
 | .region id ops false=>.region 0 (ops.map YY) false
 | c=>c
theorem D3a (ρ:Operand→Option Value) (o:Oper) (h:DHeap):dOp P ρ (YY o) h=dOp P ρ o h:=by
 rcases o with ⟨dst,op,ty,pos,aft,gd⟩
 cases op with
 | call c=>
   rcases c with ⟨cal,args,ts⟩
   cases cal with
   | builtin b=>cases b <;> rfl
   | value f=>rfl
   | _=>rfl
 | _=>rfl
theorem K1a (ops:Array Oper) (fr:Fr) (o:Oper):ZK (ops.map YY) fr (YY o)=ZK ops fr o:=by
 have hd:∀ j:Nat,((ops.map YY)[j]?).bind (·.dst)=(ops[j]?).bind (·.dst):=by
  intro j
  rw[Array.getElem?_map]
  cases ops[j]? <;> rfl
 unfold ZK
 show (match o.guard with | none=>_ | some (j,want)=>_)=_
 cases o.guard with
 | none=>rfl
 | some g=>simp only[hd]
theorem A0a:∀ c:Code,m0a nt (strip c)=m0a nt c
 | .seq x y=>by simp only[strip,m0a,A0a x,A0a y]
 | .cond c x y=>by simp only[strip,m0a,A0a x,A0a y]
 | .block id c=>by simp only[strip,m0a,A0a c]
 | .loop c=>by simp only[strip,m0a,A0a c]
 | .region id ops false=>by
   simp only[strip,m0a,F0a,Array.toList_map,List.all_map]
   rfl
 | .region id ops true=>rfl
 | .skip=>rfl
 | .label _=>rfl
 | .exit _=>rfl
 | .ret=>rfl
 | .rangeFunc ..=>rfl
 | .scope _=>rfl
 | .goto _=>rfl
 | .refuse _=>rfl
end Go.D
namespace Go.D
inductive VRen (π:Nat→Option Nat):Value→Value→Prop
 | bool (b):VRen π (.bool b) (.bool b)
 | int (k n):VRen π (.int k n) (.int k n)
 | float (k b):VRen π (.float k b) (.float k b)
 | complex (k a b):VRen π (.complex k a b) (.complex k a b)
 | string (s):VRen π (.string s) (.string s)
 | nilFunc:VRen π .nilFunc .nilFunc
 | nilIface:VRen π .nilIface .nilIface
 | pnil:VRen π (.pointer none) (.pointer none)
 | ptr {j i o:Nat} (h:π j=some i):VRen π (.pointer (some ⟨j,o,none⟩)) (.pointer (some ⟨i,o,none⟩))
 | snil:VRen π (.slice none 0 0) (.slice none 0 0)
 | slice {j i o len c c1:Nat} (h:π j=some i) (hc:c=len→c1=len):VRen π (.slice (some ⟨j,o,none⟩) len c) (.slice (some ⟨i,o,none⟩) len c1)
 | mnil:VRen π (.map none) (.map none)
 | map {j i:Nat} (h:π j=some i):VRen π (.map (some j)) (.map (some i))
 | func {fn:Fn} {first cap first' cap':Array Value} (hf:∀ l,fn≠.yield l) (h1:first.size=first'.size) (h2:∀ (i:Nat) v v',first[i]? = some v→first'[i]? = some v'→VRen π v v')
    (h3:cap.size=cap'.size) (h4:∀ (i:Nat) v v',cap[i]? = some v→cap'[i]? = some v'→VRen π v v'):VRen π (.func fn first cap) (.func fn first' cap')
 | yield {j i:Nat} (h:π j=some i):VRen π (.func (.yield j) #[] #[]) (.func (.yield i) #[] #[])
 | iface {t:TypeId} {v v':Value} (h:VRen π v v'):VRen π (.iface t v) (.iface t v')
 | agg {cs cs':Array Value} (h1:cs.size=cs'.size) (h2:∀ (i:Nat) v v',cs[i]? = some v→cs'[i]? = some v'→VRen π v v'):VRen π (.agg cs) (.agg cs')
 | tuple {cs cs':Array Value} (h1:cs.size=cs'.size) (h2:∀ (i:Nat) v v',cs[i]? = some v→cs'[i]? = some v'→VRen π v v'):VRen π (.tuple cs) (.tuple cs')
def Inj.via (ι:Inj) (π:Nat→Option Nat):Inj:=fun j=>(π j).bind ι
theorem Inj.via_some {ι:Inj} {π:Nat→Option Nat} {j:Nat} {e:Ent} (h:ι.via π j=some e):∃ i,π j=some i∧ι i=some e:=by
 unfold Inj.via at h
 cases hp:π j with
 | none=>rw[hp]at h;cases h
 | some i=>rw[hp]at h;exact ⟨i,rfl,h⟩
theorem Inj.via_of {ι:Inj} {π:Nat→Option Nat} {j i:Nat} {e:Ent} (hp:π j=some i) (h:ι i=some e):ι.via π j=some e:=by
 unfold Inj.via;rw[hp];exact h
theorem C3a {α:Type} {a b:Array α} (h:a.size=b.size) {i:Nat} {x:α} (hx:a[i]? = some x):∃ y,b[i]? = some y:=by
 have:i<b.size:=by rw[← h];exact (Array.getElem?_eq_some_iff.1 hx).1
 exact ⟨_,Array.getElem?_eq_getElem this⟩
theorem VRen.rel {π:Nat→Option Nat} {ι:Inj} {v u:Value} (hr:VRen π v u):∀ {w:Value},VRel ι u w→VRel (ι.via π) v w:=by
 induction hr with
 | bool b=>intro w h;cases h;exact .bool b
 | int k n=>intro w h;cases h;exact .int k n
 | float k b=>intro w h;cases h;exact .float k b
 | complex k a b=>intro w h;cases h;exact .complex k a b
 | string s=>intro w h;cases h;exact .string s
 | nilFunc=>intro w h;cases h;exact .nilFunc
 | nilIface=>intro w h;cases h;exact .nilIface
 | pnil=>intro w h;cases h;exact .pnil
 | ptr hp=>intro w h;cases h with | ptr he=>exact .ptr (Inj.via_of hp he)
 | snil=>intro w h;cases h;exact .snil
 | slice hp hc=>intro w h;cases h with | slice he h1 h2 h3 h4=>exact .slice (Inj.via_of hp he) h1 (fun x=>h2 (hc x)) h3 h4
 | mnil=>intro w h;cases h;exact .mnil
 | map hp=>intro w h;cases h with | map he hs=>exact .map (Inj.via_of hp he) hs
 | func hf h1 _ h3 _ ih2 ih4=>
   intro w h
   cases h with
   | func _ g1 g2 g3 g4=>
     refine .func hf (h1.trans g1) (fun i a b x y=>?_) (h3.trans g3) (fun i a b x y=>?_)
     ·obtain ⟨c,hc⟩:=C3a h1 x
      exact ih2 i a c x hc (g2 i c b hc y)
     ·obtain ⟨c,hc⟩:=C3a h3 x
      exact ih4 i a c x hc (g4 i c b hc y)
   | yield he hs=>exact absurd rfl (hf _)
 | yield hp=>
   intro w h
   cases h with
   | func hf _ _ _ _=>exact absurd rfl (hf _)
   | yield he hs=>exact .yield (Inj.via_of hp he) hs
 | iface _ ih=>intro w h;cases h with | iface h=>exact .iface (ih h)
 | agg h1 _ ih=>
   intro w h
   cases h with
   | agg g1 g2=>
     refine .agg (h1.trans g1) fun i a b x y=>?_
     obtain ⟨c,hc⟩:=C3a h1 x
     exact ih i a c x hc (g2 i c b hc y)
 | tuple h1 _ ih=>
   intro w h
   cases h with
   | tuple g1 g2=>
     refine .tuple (h1.trans g1) fun i a b x y=>?_
     obtain ⟨c,hc⟩:=C3a h1 x
     exact ih i a c x hc (g2 i c b hc y)
def ORen (π:Nat→Option Nat):DObj→DObj→Prop
 | .row cells esz ro,.row cells1 esz1 ro1=>ro1=ro∧esz1=esz∧cells.length≤cells1.length∧∀ (i:Nat) v u,cells[i]? = some v→cells1[i]? = some u→VRen π v u
 | .map es clock,.map es1 clock1=>clock1=clock∧es.length=es1.length∧∀ (i:Nat) e e',es[i]? = some e→es1[i]? = some e'→e'.key=e.key∧e'.born=e.born∧VRen π e.val e'.val
 | .loop d,.loop d1=>d1.size=d.size∧d1.params=d.params∧d1.assign=d.assign∧d1.body=d.body∧π d.mark=some d1.mark∧d1.state=d.state∧d1.pending=d.pending∧∀ t v,d.tmps t=some v→∃ u,d1.tmps t=some u∧VRen π v u
 | .marks b,.marks b1=>b1=b
 | .iter m a s c,.iter m1 a1 s1 c1=>a1=a∧s1=s∧c1=c∧(match m,m1 with | none,none=>True | some i,some i1=>π i=some i1 | _,_=>False)
 | .dead,.dead=>True
 | .dead,.row _ _ ro=>ro=false
 | .dead,.map _ _=>True
 | .dead,.loop _=>True
 | .dead,.marks _=>True
 | .dead,.iter _ _ _ _=>True
 | _,_=>False
theorem ORen.obj {π:Nat→Option Nat} {ι:Inj} {o o1:DObj} {e:Ent} {w:World} (hr:ORen π o o1) (h:ObjRel ι e o1 w):ObjRel (ι.via π) e o w:=by
 cases o with
 | row cells esz ro=>
   cases o1 with
   | row cells1 esz1 ro1=>
     obtain ⟨rfl,rfl,r3,r4⟩:=hr
     obtain ⟨a,b,cur,ty,fz,c,d,f⟩:=h
     refine ⟨a,b,cur,ty,fz,c,fun i v hv=>?_,fun hro=>?_⟩
     ·have hi:i<cells1.length:=Nat.lt_of_lt_of_le (List.getElem?_eq_some_iff.1 hv).1 r3
      obtain ⟨v',x,y⟩:=d i cells1[i] (List.getElem?_eq_getElem hi)
      exact ⟨v',x,(r4 i v _ hv (List.getElem?_eq_getElem hi)).rel y⟩
     ·obtain ⟨x,y,z⟩:=f hro
      exact ⟨x,by omega,z⟩
   | _=>exact hr.elim
 | map es clock=>
   cases o1 with
   | map es1 clock1=>
     obtain ⟨rfl,r2,r3⟩:=hr
     obtain ⟨a,b,es',c,d1,d2⟩:=h
     refine ⟨a,b,es',c,r2.trans d1,fun i e0 e' x y=>?_⟩
     have hi:i<es1.length:=by rw[← r2];exact (List.getElem?_eq_some_iff.1 x).1
     obtain ⟨p1,p2,p3⟩:=r3 i e0 es1[i] x (List.getElem?_eq_getElem hi)
     obtain ⟨q1,q2,q3⟩:=d2 i es1[i] e' (List.getElem?_eq_getElem hi) y
     exact ⟨q1.trans p1,q2.trans p2,p3.rel q3⟩
   | _=>exact hr.elim
 | loop d=>
   cases o1 with
   | loop d1=>
     obtain ⟨r1,r2,r3,r4,r5,r6,r7,r8⟩:=hr
     obtain ⟨a,b,l,c,hh⟩:=h
     refine ⟨a,b,l,c,⟨⟨r1▸hh.tmps.1,fun t v hv=>?_⟩,r2▸hh.params,r3▸hh.assign,r4▸hh.body,r6▸hh.state,r7▸hh.pending,?_⟩⟩
     ·obtain ⟨u,hu,hv'⟩:=r8 t v hv
      exact hv'.rel (hh.tmps.2 t u hu)
     ·obtain ⟨x,hm,hs,hd⟩:=hh.defers
      exact ⟨x,Inj.via_of r5 hm,hs,hd⟩
   | _=>exact hr.elim
 | marks b=>
   cases o1 with
   | marks b1=>
     have:b1=b:=hr
     subst this
     exact h
   | _=>exact hr.elim
 | iter m a s c=>
   cases o1 with
   | iter m1 a1 s1 c1=>
     obtain ⟨rfl,rfl,rfl,r4⟩:=hr
     obtain ⟨h1,h2,m',h3,h4⟩:=h
     refine ⟨h1,h2,m',h3,?_⟩
     cases m with
     | none=>cases m1 with
       | none=>cases m' with
         | none=>trivial
         | some _=>exact h4.elim
       | some _=>exact r4.elim
     | some i=>cases m1 with
       | none=>exact r4.elim
       | some i1=>
         cases m' with
         | none=>exact h4.elim
         | some b=>
           obtain ⟨e1,q1,q2,q3⟩:=h4
           exact ⟨e1,Inj.via_of r4 q1,q2,q3⟩
   | _=>exact hr.elim
 | dead=>
   cases o1 with
   | row cells esz ro=>
     have:ro=false:=hr
     subst this
     exact h.1
   | map es c=>exact h.2.1
   | loop d=>exact h.2.1
   | marks b=>exact h.2.1
   | iter m a s c=>exact h.2.1
   | dead=>exact h
structure o9c (live:Nat→Prop) (π:Nat→Option Nat) (h h1:DHeap):Prop where
 inj:∀ j j' i,π j=some i→π j'=some i→j=j'
 lt:∀ j i,π j=some i→j<h.next
 ng:h.ng=h1.ng
 glob:∀ g,g<h1.ng→π g=some g
 obj:∀ j i o1,π j=some i→live i→h1.get i=some o1→∃ o,h.get j=some o∧ORen π o o1
theorem ORen.dead {π:Nat→Option Nat} {o1:DObj} (h:∃ o,o=o1∧o=.dead) {o:DObj} (hr:ORen π o o1):o=.dead:=by
 obtain ⟨_,rfl,rfl⟩:=h
 cases o <;> first | rfl | exact hr.elim
theorem Sim.ren {π:Nat→Option Nat} {ι:Inj} {h h1:DHeap} {w:World} (r:o9c (fun i=>∃ e,ι i=some e) π h h1) (s:Sim ι h1 w):Sim (ι.via π) h w where
 lt:=fun j e hj=>let ⟨i,a,_⟩:=Inj.via_some hj;r.lt j i a
 blk:=fun j e hj=>let ⟨i,_,b⟩:=Inj.via_some hj;s.blk i e b
 obj:=fun j e hj=>by
  obtain ⟨i,a,b⟩:=Inj.via_some hj
  obtain ⟨o1,c,d⟩:=s.obj i e b
  obtain ⟨o,x,y⟩:=r.obj j i o1 a ⟨e,b⟩ c
  exact ⟨o,x,y.obj d⟩
 sep:=fun j j' e e' hj hj' hne hb=>by
  obtain ⟨i,a,b⟩:=Inj.via_some hj
  obtain ⟨i',a',b'⟩:=Inj.via_some hj'
  have hne':i≠i':=fun hh=>hne (r.inj j j' i a (hh▸a'))
  rcases s.sep i i' e e' b b' hne' hb with hd | hd | hd
  ·obtain ⟨o,x,y⟩:=r.obj j i _ a ⟨e,b⟩ hd
   exact .inl (by rw[x,ORen.dead ⟨_,rfl,rfl⟩ y])
  ·obtain ⟨o,x,y⟩:=r.obj j' i' _ a' ⟨e',b'⟩ hd
   exact .inr (.inl (by rw[x,ORen.dead ⟨_,rfl,rfl⟩ y]))
  ·exact .inr (.inr hd)
 glob:=fun g hg=>by
  obtain ⟨e,a,b⟩:=s.glob g (r.ng▸hg)
  exact ⟨e,Inj.via_of (r.glob g (r.ng▸hg)) a,b⟩
theorem VRel.ren_self {ι:Inj} {π:Nat→Option Nat} (hπ:∀ i e,ι i=some e→π i=some i) {v w:Value} (h:VRel ι v w):VRen π v v:=by
 induction h with
 | bool b=>exact .bool b
 | int k n=>exact .int k n
 | float k b=>exact .float k b
 | complex k a b=>exact .complex k a b
 | string s=>exact .string s
 | nilFunc=>exact .nilFunc
 | nilIface=>exact .nilIface
 | pnil=>exact .pnil
 | ptr h=>exact .ptr (hπ _ _ h)
 | snil=>exact .snil
 | slice h _ _ _ _=>exact .slice (hπ _ _ h) id
 | mnil=>exact .mnil
 | map h _=>exact .map (hπ _ _ h)
 | func hf h1 _ h3 _ ih2 ih4=>
   refine .func hf rfl (fun i v v' x y=>?_) rfl (fun i v v' x y=>?_)
   ·rw[x]at y;cases y
    obtain ⟨c,hc⟩:=C3a h1 x
    exact ih2 i v c x hc
   ·rw[x]at y;cases y
    obtain ⟨c,hc⟩:=C3a h3 x
    exact ih4 i v c x hc
 | yield h _=>exact .yield (hπ _ _ h)
 | iface _ ih=>exact .iface ih
 | agg h1 _ ih=>
   refine .agg rfl fun i v v' x y=>?_
   rw[x]at y;cases y
   obtain ⟨c,hc⟩:=C3a h1 x
   exact ih i v c x hc
 | tuple h1 _ ih=>
   refine .tuple rfl fun i v v' x y=>?_
   rw[x]at y;cases y
   obtain ⟨c,hc⟩:=C3a h1 x
   exact ih i v c x hc
theorem J1b (π:Nat→Option Nat) {v:Value} (h:Yw v=true):VRen π v v:=by
 have:=VRel.ren_self (ι:=fun _=>none) (π:=π) (fun i e he=>by cases he) (E3a _ h)
 exact this
end Go.D
namespace Go.D
variable {P:Program} {nt:Nat}
def Ct (P:Program) (f:FuncId) (args:List Value) (h:DHeap) (R:DEnd→DHeap→Prop):Prop:=
 ∀ (n:Nat) (ι:Inj) (w:World) (args':Array Value),Sim ι h w→LRel ι args args'.toList →
  CallsIn Fence.wide n P f args' w fun e w'=>∃ ι' r h',R r h'∧HStep h h'∧E1a ι' r e∧Sim ι' h' w'∧Step ι ι' h h' w w'
theorem DC.ct {f:FuncId} {args:List Value} {h h':DHeap} {r:DEnd} (d:DC P f args h r h') {R:DEnd→DHeap→Prop} (hR:R r h'):Ct P f args h R:=
 fun n ι w args' s ha=>CallsIn.mono (d.2 n ι w args' s ha) fun _ _ ⟨ι',a,b,c⟩=>⟨ι',r,h',hR,d.1,a,b,c⟩
theorem Ct.mono {f:FuncId} {args:List Value} {h:DHeap} {R R':DEnd→DHeap→Prop} (c:Ct P f args h R) (hr:∀ r h',R r h'→R' r h'):Ct P f args h R':=
 fun n ι w args' s ha=>CallsIn.mono (c n ι w args' s ha) fun _ _ ⟨ι',r,h',x,y⟩=>⟨ι',r,h',hr _ _ x,y⟩
def Rt (P:Program) (l:Nat) (size:Nat) (tmps:Fr) (assign body:Code) (h:DHeap) (R:DEnd→DHeap→Prop):Prop:=
 ∀ (n:Nat) (ι:Inj) (w:World) (tmps':Array Value) (e:Ent) (f:FuncId),Sim ι h w→ι l=some e→e.shift=0→FRel ι size tmps tmps' →
  RoundIn Fence.wide n P e.block f tmps' assign body w fun en w'=>∃ ι' r h',R r h'∧HStep h h'∧E1a ι' r en∧Sim ι' h' w'∧Step ι ι' h h' w w'
theorem DRd.rt {l size:Nat} {tmps:Fr} {assign body:Code} {h h':DHeap} {r:DEnd} (d:DRd P l size tmps assign body h r h') {R:DEnd→DHeap→Prop} (hR:R r h'):Rt P l size tmps assign body h R:=
 fun n ι w tmps' e f s he hsh hf=>RoundIn.mono (d.2 n ι w tmps' e f s he hsh hf) fun _ _ ⟨ι',a,b,c⟩=>⟨ι',r,h',hR,d.1,a,b,c⟩
theorem Rt.mono {l size:Nat} {tmps:Fr} {assign body:Code} {h:DHeap} {R R':DEnd→DHeap→Prop} (c:Rt P l size tmps assign body h R) (hr:∀ r h',R r h'→R' r h'):Rt P l size tmps assign body h R':=
 fun n ι w tmps' e f s he hsh hf=>RoundIn.mono (c n ι w tmps' e f s he hsh hf) fun _ _ ⟨ι',r,h',x,y⟩=>⟨ι',r,h',hr _ _ x,y⟩
def NC (P:Program) (nt:Nat) (c:Code) (Q:Zv→St→Prop) (s:St):Prop:=
 ∀ (n:Nat) (r:Option Nat) (ι:Inj) (a:Act) (w:World),WZ nt ι s r a w →
  c.wpIn (FW r) n P (fun ex a' w'=>∃ ι' e s',Q e s'∧HStep s.h s'.h∧J1a ι' e ex∧WZ nt ι' s' r a' w'∧Step ι ι' s.h s'.h w w') a w
theorem NC.of_XC {c:Code} {Q:Zv→St→Prop} {s:St} (h:XC P nt c Q s):NC P nt c Q s:=by
 obtain ⟨e,s',he,hq⟩:=h
 exact fun n r ι a w hs=>wpIn_mono (he.2 n r ι a w hs) fun ex a' w' ⟨ι',g1,g2,g3⟩=>⟨ι',e,s',hq,he.1,g1,g2,g3⟩
theorem NC.mono {c:Code} {Q Q':Zv→St→Prop} {s:St} (h:NC P nt c Q s) (hq:∀ e s',Q e s'→Q' e s'):NC P nt c Q' s:=
 fun n r ι a w hs=>wpIn_mono (h n r ι a w hs) fun _ _ _ ⟨ι',e,s',g1,g2⟩=>⟨ι',e,s',hq _ _ g1,g2⟩
theorem NC.seq {x y:Code} {Q:Zv→St→Prop} {s:St} (h:NC P nt x (L0a (NC P nt y Q) Q) s):NC P nt (.seq x y) Q s:=by
 intro n r ι a w hs
 refine wpIn_seq (wpIn_mono (h n r ι a w hs) fun ex a' w' ⟨ι',e,s',g1,g2,g3,g4,g5⟩=>?_)
 cases e with
 | normal=>
   cases ex with
   | normal=>exact wpIn_mono (g1 n r ι' a' w' g4) fun ex2 a2 w2 ⟨ι2,e2,s2,k1,k2,k3,k4,k5⟩=>⟨ι2,e2,s2,k1,g2.trans k2,k3,k4,g5.trans k5⟩
   | _=>exact g3.elim
 | exit id=>
   cases ex with
   | exit id'=>exact ⟨ι',_,s',g1,g2,g3,g4,g5⟩
   | _=>exact g3.elim
 | ret=>
   cases ex with
   | ret=>exact ⟨ι',_,s',g1,g2,g3,g4,g5⟩
   | _=>exact g3.elim
 | pan v=>
   cases ex with
   | panic ch=>exact ⟨ι',_,s',g1,g2,g3,g4,g5⟩
   | _=>exact g3.elim
theorem NC.cond {c:Operand} {x y:Code} {Q:Zv→St→Prop} {s:St} {t:Bool} (hc:ZJ s.h.ng s.fr c=some (.bool t)) (h:NC P nt (if t then x else y) Q s):NC P nt (.cond c x y) Q s:=by
 intro n r ι a w hs
 refine wpIn_cond (t:=t) ?_ (h n r ι a w hs)
 have:=j1a (P:=P) hs.sim (a:=a) (ops:=#[]) (o:=⟨none,.move c,0,"",#[],none⟩) (fun t _ u hu=>hs.fr.2 t u hu) c (by simp[Op.operands]) _ hc
 exact ((y9a this) t).1 rfl
theorem NC.block {id:Nat} {c:Code} {Q:Zv→St→Prop} {s:St} (h:NC P nt c (N0a id Q) s):NC P nt (.block id c) Q s:=by
 intro n r ι a w hs
 refine wpIn_block (wpIn_mono (h n r ι a w hs) fun ex a' w' ⟨ι',e,s',g1,g2,g3,g4,g5⟩=>?_)
 cases e with
 | exit id'=>
   simp only[N0a]at g1
   cases ex with
   | exit id2=>
     have h2:id2=id':=g3
     subst h2
     by_cases hid:id2=id
     ·rw[if_pos hid]at g1
      simp only[Exit.inBlock,if_pos hid]
      exact ⟨ι',.normal,s',g1,g2,trivial,g4,g5⟩
     ·rw[if_neg hid]at g1
      simp only[Exit.inBlock,if_neg hid]
      exact ⟨ι',.exit id2,s',g1,g2,rfl,g4,g5⟩
   | _=>exact g3.elim
 | normal=>
   cases ex with
   | normal=>exact ⟨ι',.normal,s',g1,g2,trivial,g4,g5⟩
   | _=>exact g3.elim
 | ret=>
   cases ex with
   | ret=>exact ⟨ι',.ret,s',g1,g2,trivial,g4,g5⟩
   | _=>exact g3.elim
 | pan v=>
   cases ex with
   | panic ch=>exact ⟨ι',.pan v,s',g1,g2,g3,g4,g5⟩
   | _=>exact g3.elim
theorem NC.loop {σ:Type} {c:Code} {Q:Zv→St→Prop} (I:σ→St→Prop) (m:σ→Nat)
 (hr:∀ a s (K:Zv→St→Prop),(∀ b s',I b s'→m b<m a→K .normal s')→(∀ e s',e≠.normal→Q e s'→K e s')→I a s→NC P nt c K s):∀ a s,I a s→NC P nt (.loop c) Q s:=by
 have key:∀ (k:Nat) (a:σ) (s:St),m a<k→I a s→∀ (n:Nat) (r:Option Nat) (ι:Inj) (ac:Act) (w:World),WZ nt ι s r ac w →
  ∀ Qc:Exit→Act→World→Prop,(∀ ι' e s' ex a' w',Q e s'→e≠.normal→HStep s.h s'.h→J1a ι' e ex→WZ nt ι' s' r a' w'→Step ι ι' s.h s'.h w w'→Qc ex a' w')→Code.roundsIn (FW r) n P c Qc k ac w:=by
  intro k
  induction k with
  | zero=>intro a s h;omega
  | succ k ih=>
    intro a s h hI n r ι ac w hs Qc hQ
    rw[roundsIn_succ]
    refine wpIn_mono (hr a s (fun e s'=>match e with | .normal=>∃ b,I b s'∧m b<m a | e=>Q e s') (fun b s' hb hlt=>⟨b,hb,hlt⟩) (fun e s' he hq=>by cases e <;> first | exact absurd rfl he | exact hq) hI n r ι ac w hs)
     fun ex a' w' ⟨ι',e,s',g1,g2,g3,g4,g5⟩=>?_
    cases e with
    | normal=>
      obtain ⟨b,hb,hlt⟩:=g1
      cases ex with
      | normal=>exact ih b s' (by omega) hb n r ι' a' w' g4 Qc fun ι2 e2 s2 ex2 a2 w2 k1 k2 k3 k4 k5 k6=>hQ ι2 e2 s2 ex2 a2 w2 k1 k2 (g2.trans k3) k4 k5 (g5.trans k6)
      | _=>exact g3.elim
    | exit id=>
      cases ex with
      | exit id'=>exact hQ ι' _ s' _ a' w' g1 (by simp) g2 g3 g4 g5
      | _=>exact g3.elim
    | ret=>
      cases ex with
      | ret=>exact hQ ι' _ s' _ a' w' g1 (by simp) g2 g3 g4 g5
      | _=>exact g3.elim
    | pan v=>
      cases ex with
      | panic ch=>exact hQ ι' _ s' _ a' w' g1 (by simp) g2 g3 g4 g5
      | _=>exact g3.elim
 intro a s hI n r ι ac w hs
 exact wpIn_loop_rounds (m a+1) (key (m a+1) a s (Nat.lt_succ_self _) hI n r ι ac w hs _ fun ι' e s' ex a' w' k1 _ k3 k4 k5 k6=>⟨ι',e,s',k1,k3,k4,k5,k6⟩)
def u4c (P:Program) (o:Oper) (s:St) (f:FuncId) (args:List Value) (h:DHeap) (K:St→Prop) (Q:Zv→St→Prop):Prop:=
 ∃ R,Ct P f args h R∧∀ r h',R r h'→Xx o s r h' K Q
def p9c (P:Program) (o:Oper) (s:St) (l size:Nat) (tmps:Fr) (a b:Code) (h:DHeap) (K:St→Prop) (Q:Zv→St→Prop):Prop:=
 ∃ R,Rt P l size tmps a b h R∧∀ r h',R r h'→Xx o s r h' K Q
def I5a (P:Program) (o:Oper) (s:St) (x:DR) (K:St→Prop) (Q:Zv→St→Prop):Prop:=
 match x with
 | .ok (.pick l) _=>∀ p∈l,K ⟨s.fr.put o.dst p.1,s.df,p.2,s.rd⟩
 | .ok (.enter f args) h=>u4c P o s f args h K Q
 | .ok (.round l size tmps a b) h=>p9c P o s l size tmps a b h K Q
 | x=>v4c P o s x K Q
def Wk (P:Program) (ops:Array Oper):List Oper→St→(Zv→St→Prop)→Prop
 | [],s,Q=>Q .normal s
 | o :: rest,s,Q=>
   match ZK ops s.fr o with
   | none=>False
   | some false=>Wk P ops rest ⟨s.fr.put o.dst undef,s.df,s.h,s.rd⟩ Q
   | some true=>I5a P o s (dOp P (ZJ s.h.ng s.fr) o s.h) (fun s=>Wk P ops rest s Q) Q
theorem c7b {ops:Array Oper} (hd:F0a nt ops=true):∀ (l:List Oper) (k:Nat) (s:St) (Q:Zv→St→Prop),ops.toList.drop k=l→Wk P ops l s Q →
 ∀ (n:Nat) (r:Option Nat) (ι:Inj) (a:Act) (w:World) (Qc:Exit→Act→World→Prop),WZ nt ι s r a w →
  (∀ ι' e s' ex a' w',Q e s'→HStep s.h s'.h→J1a ι' e ex→WZ nt ι' s' r a' w'→Step ι ι' s.h s'.h w w'→Qc ex a' w')→wpOpsIn (FW r) n P ops Qc (List.range' k (ops.size - k)) a w:=by
 intro l
 induction l with
 | nil=>
   intro k s Q hl h n r ι a w Qc hs hQ
   have:ops.size - k=0:=by
    have:=congrArg List.length hl
    simpa using this
   rw[this]
   exact hQ ι .normal s .normal a w h (.refl _) trivial hs (Step.refl ι _ w)
 | cons o rest ih=>
   intro k s Q hl h n r ι a w Qc hs hQ
   obtain ⟨hk,ho,hrest⟩:=O5a hl
   have hdo:∀ d,o.dst=some d→d<nt:=fun d h=>d0a hd k o d ho h
   have one:R4a P ops [o] s (fun e s'=>match e with | .normal=>Wk P ops rest s' Q | e=>Q e s')→wpOpsIn (FW r) n P ops Qc (List.range' k (ops.size - k)) a w:=by
    intro hx
    rw[H2a hk,wpOpsIn_cons]
    have hw0:=hx
    simp only[R4a]at hx
    have fin:∀ (v:Value) (h1:DHeap),Ex P ops o s.fr s.h (.ret v) h1→o1a o.op=false→Wk P ops rest ⟨s.fr.put o.dst v,s.df,h1,s.rd⟩ Q→wpOpIn (FW r) n P ops Qc k (fun a w=>wpOpsIn (FW r) n P ops Qc (List.range' (k+1) (ops.size - (k+1))) a w) a w:=by
     intro v h1 hex hnd hh
     refine x3a hex ho hnd hs.sim hs.fr.1 (d0a hd) (fun t _ u hu=>hs.fr.2 t u hu) (fun u hu ι' v' w' hv s1 st=>?_) (fun u hu=>by cases hu)
     cases hu
     exact ih (k+1) _ Q hrest hh n r ι' _ w' Qc ⟨p1a (r:=r) (w:=w) (hs.fr.mono st.le) hdo hv,by rw[y0a];exact hs.df.mono st.le,s1,hs.rd.mono st.le⟩
      fun ι2 e2 s2 ex a2 w2 g0 g1 g2 g3 g4=>hQ ι2 e2 s2 ex a2 w2 g0 ((w3a hex).trans g1) g2 g3 (st.trans g4)
    have finp:∀ (v:Value) (h1:DHeap),Ex P ops o s.fr s.h (.pan v) h1→o1a o.op=false→Q (.pan v) ⟨s.fr,s.df,h1,s.rd⟩→wpOpIn (FW r) n P ops Qc k (fun a w=>wpOpsIn (FW r) n P ops Qc (List.range' (k+1) (ops.size - (k+1))) a w) a w:=by
     intro v h1 hex hnd hh
     refine x3a hex ho hnd hs.sim hs.fr.1 (d0a hd) (fun t _ u hu=>hs.fr.2 t u hu) (fun u hu=>by cases hu) (fun u hu ι' v' w' hv s1 st=>?_)
     cases hu
     exact hQ ι' _ ⟨s.fr,s.df,h1,s.rd⟩ _ a w' hh (w3a hex) ⟨v',rfl,hv⟩ ⟨hs.fr.mono st.le,hs.df.mono st.le,s1,hs.rd.mono st.le⟩ st
    cases hw:ZK ops s.fr o with
    | none=>rw[hw]at hx;exact hx.elim
    | some b=>
      rw[hw]at hx
      cases b with
      | false=>
        simp only[R4a]at hx
        unfold wpOpIn
        rw[ho]
        have hw':=M0a hs.fr.1 (d0a hd) (fun t _ u hu=>hs.fr.2 t u hu) hw
        simp only[hw',Bool.false_eq_true,if_false]
        exact ⟨fun _ _=>trivial,ih (k+1) _ Q hrest hx n r ι _ w Qc ⟨p1a (r:=r) (w:=w) hs.fr hdo (T1a ι),by rw[y0a];exact hs.df,hs.sim,hs.rd⟩ fun ι2 e2 s2 ex a2 w2 g0 g1 g2 g3 g4=>hQ ι2 e2 s2 ex a2 w2 g0 g1 g2 g3 g4⟩
      | true=>
        simp only at hx
        have hexd:∀ r h1,(match dOp P (ZJ s.h.ng s.fr) o s.h with
         | .ok (.value v) h1'=>r=.ret v∧h1=h1'
         | .ok .skip h1'=>r=.ret undef∧h1=h1'
         | .ok (.enter f args) h1'=>DC P f args h1' r h1
         | .ok (.round l size tmps assign body) h1'=>DRd P l size tmps assign body h1' r h1
         | .pan v h1'=>r=.pan v∧h1=h1'
         | _=>False)→Ex P ops o s.fr s.h r h1:=by
         intro r h1 hh;unfold Ex;rw[hw];exact hh
        have hnd:∀ x h1,dOp P (ZJ s.h.ng s.fr) o s.h=.ok x h1→(∀ f as,x≠.defer f as)→o1a o.op=false:=by
         intro x h1 hop hne
         cases hod:o.op with
         | defer c=>
           exfalso
           unfold dOp at hop
           rw[hod]at hop
           simp only at hop
           repeat' split at hop
           all_goals first
            | (cases hop;done)
            | (cases hop;exact hne _ _ rfl)
         | _=>rfl
        cases hop:dOp P (ZJ s.h.ng s.fr) o s.h with
        | bad=>rw[hop]at hx;exact hx.elim
        | pan v h1=>
          rw[hop]at hx
          refine finp v h1 (hexd _ _ (by rw[hop];exact ⟨rfl,rfl⟩)) ?_ hx
          cases hod:o.op with
          | defer c=>
            exfalso
            unfold dOp at hop
            rw[hod]at hop
            simp only at hop
            repeat' split at hop
            all_goals cases hop
          | _=>rfl
        | ok x h1=>
          rw[hop]at hx
          cases x with
          | value v=>exact fin v h1 (hexd _ _ (by rw[hop];exact ⟨rfl,rfl⟩)) (hnd _ _ hop (by simp)) hx
          | skip=>exact fin undef h1 (hexd _ _ (by rw[hop];exact ⟨rfl,rfl⟩)) (hnd _ _ hop (by simp)) hx
          | enter f args=>
            obtain ⟨r0,h2,hdc,hx⟩:=hx
            have hex:=hexd r0 h2 (by rw[hop];exact hdc)
            cases r0 with
            | ret v=>exact fin v h2 hex (hnd _ _ hop (by simp)) hx
            | pan v=>exact finp v h2 hex (hnd _ _ hop (by simp)) hx
          | round l size tmps assign body=>
            obtain ⟨r0,h2,hdc,hx⟩:=hx
            have hex:=hexd r0 h2 (by rw[hop];exact hdc)
            cases r0 with
            | ret v=>exact fin v h2 hex (hnd _ _ hop (by simp)) hx
            | pan v=>exact finp v h2 hex (hnd _ _ hop (by simp)) hx
          | recover=>exact hx.elim
          | pick l=>exact hx.elim
          | defer f args=>
            obtain ⟨hrd,hx⟩:=hx
            have hr:r=none:=by
             have:=hs.rd
             rw[hrd]at this
             cases r with
             | none=>rfl
             | some _=>exact this.elim
            subst hr
            unfold wpOpIn
            rw[ho]
            have hw':=M0a hs.fr.1 (d0a hd) (fun t _ u hu=>hs.fr.2 t u hu) hw
            simp only[hw',if_true]
            refine ⟨fun _ _=>trivial,?_⟩
            have hsem:o.semAt (FW none).round a.eval=execOp a.eval o:=rfl
            rw[hsem]
            obtain ⟨ι1,w1,x',hrun,hn,s1,st⟩:=H4a hop hs.sim (j1a (P:=P) hs.sim (a:=a) (ops:=ops) (fun t _ u hu=>hs.fr.2 t u hu))
            rw[hrun]
            cases x' with
            | defer d=>
              rw[Oper.uponIn_defer]
              obtain ⟨hg,cap,dargs,rfl,hargs⟩:=hn
              refine ih (k+1) _ Q hrest hx n none ι1 _ w1 Qc ⟨?_,?_,s1,hs.rd.mono st.le⟩ fun ι2 e2 s2 ex a2 w2 g0 g1 g2 g3 g4=>hQ ι2 e2 s2 ex a2 w2 g0 ((B0a hop).trans g1) g2 g3 (st.trans g4)
              ·exact p1a (r:=none) (w:=w) (a:={ a with defers:={ target:=.fn (.func f) cap,args:=dargs } :: a.defers }) (hs.fr.mono st.le) hdo (T1a _)
              ·rw[y0a]
               exact ⟨⟨cap,dargs,rfl,hargs⟩,hs.df.mono st.le⟩
            | _=>exact hn.elim
   simp only[Wk]at h
   cases hw:ZK ops s.fr o with
   | none=>rw[hw]at h;exact h.elim
   | some b=>
     rw[hw]at h
     cases b with
     | false=>exact one (by simp only[R4a,hw];exact h)
     | true=>
       simp only at h
       by_cases hpk:∃ l h1,dOp P (ZJ s.h.ng s.fr) o s.h=.ok (.pick l) h1
       ·obtain ⟨l,h1,hop⟩:=hpk
        rw[hop]at h
        rw[H2a hk,wpOpsIn_cons]
        obtain ⟨y,v,_,_,hnx⟩:=Q6a hop
        refine s0b hw hop ho hs.sim hs.fr.1 (d0a hd) (fun t _ u hu=>hs.fr.2 t u hu) fun p hp v' w' hv s1 st=>?_
        exact ih (k+1) _ Q hrest (h p hp) n r ι _ w' Qc ⟨p1a (r:=r) (w:=w) hs.fr hdo hv,by rw[y0a];exact hs.df,s1,hs.rd⟩
         fun ι2 e2 s2 ex a2 w2 g0 g1 g2 g3 g4=>hQ ι2 e2 s2 ex a2 w2 g0 (((V0b hnx).2 p hp).trans g1) g2 g3 (st.trans g4)
       by_cases hent:∃ f args h1,dOp P (ZJ s.h.ng s.fr) o s.h=.ok (.enter f args) h1
       ·obtain ⟨f,args,h1,hop⟩:=hent
        rw[hop]at h
        obtain ⟨R,hct,hall⟩:=h
        rw[H2a hk,wpOpsIn_cons]
        have hnd:o1a o.op=false:=by
         cases hod:o.op with
         | defer c=>
           exfalso
           unfold dOp at hop
           rw[hod]at hop
           simp only at hop
           repeat' split at hop
           all_goals cases hop
         | _=>rfl
        unfold wpOpIn
        rw[ho]
        have hw':=M0a hs.fr.1 (d0a hd) (fun t _ u hu=>hs.fr.2 t u hu) hw
        simp only[hw',if_true]
        refine ⟨fun _ _=>trivial,?_⟩
        have hsem:o.semAt (FW r).round a.eval=execOp a.eval o:=Oper.semAt_eq _ _ _ fun c hc=>by rw[hc]at hnd;cases hnd
        rw[hsem]
        obtain ⟨ι1,w1,x',hrun,hn,s1,st⟩:=H4a hop hs.sim (j1a (P:=P) hs.sim (a:=a) (ops:=ops) (fun t _ u hu=>hs.fr.2 t u hu))
        rw[hrun]
        cases x' with
        | enter f' args'=>
          obtain ⟨rfl,hargs,_⟩:=hn
          rw[Oper.uponIn_enter]
          refine ⟨fun hh=>absurd hh (by simp[FW]),?_⟩
          have hc:CallsIn (FW r) (n - 1) P f' args' w1 fun e w'=>∃ ι' r h',R r h'∧HStep h1 h'∧E1a ι' r e∧Sim ι' h' w'∧Step ι1 ι' h1 h' w1 w':=hct (n - 1) ι1 w1 args' s1 hargs
          refine CallsIn.mono hc fun e w2 ⟨ι2,r2,h2,hR,hh2,he,s2,st2⟩=>?_
          have hx:=hall r2 h2 hR
          cases r2 with
          | ret v=>
            cases e with
            | returned v'=>
              exact ih (k+1) _ Q hrest hx n r ι2 _ w2 Qc ⟨p1a (r:=r) (w:=w) ((hs.fr.mono st.le).mono st2.le) hdo he,by rw[y0a];exact (hs.df.mono st.le).mono st2.le,s2,(hs.rd.mono st.le).mono st2.le⟩
               fun ι3 e3 s3 ex a3 w3 g0 g1 g2 g3 g4=>hQ ι3 e3 s3 ex a3 w3 g0 ((B0a hop).trans (hh2.trans g1)) g2 g3 (st.trans (st2.trans g4))
            | _=>exact he.elim
          | pan v=>
            cases e with
            | panicked ch=>
              obtain ⟨v',rfl,hv⟩:=he
              exact hQ ι2 _ ⟨s.fr,s.df,h2,s.rd⟩ _ a w2 hx ((B0a hop).trans hh2) ⟨v',rfl,hv⟩ ⟨(hs.fr.mono st.le).mono st2.le,(hs.df.mono st.le).mono st2.le,s2,(hs.rd.mono st.le).mono st2.le⟩ (st.trans st2)
            | _=>exact he.elim
        | _=>exact hn.elim
       ·by_cases hrnd:∃ l size tmps x y h1,dOp P (ZJ s.h.ng s.fr) o s.h=.ok (.round l size tmps x y) h1
        ·obtain ⟨lid,size,tmps,cx,cy,h1,hop⟩:=hrnd
         rw[hop]at h
         obtain ⟨R,hct,hall⟩:=h
         rw[H2a hk,wpOpsIn_cons]
         have hnd:o1a o.op=false:=by
          cases hod:o.op with
          | defer c=>
            exfalso
            unfold dOp at hop
            rw[hod]at hop
            simp only at hop
            repeat' split at hop
            all_goals cases hop
          | _=>rfl
         unfold wpOpIn
         rw[ho]
         have hw':=M0a hs.fr.1 (d0a hd) (fun t _ u hu=>hs.fr.2 t u hu) hw
         simp only[hw',if_true]
         refine ⟨fun _ _=>trivial,?_⟩
         have hsem:o.semAt (FW r).round a.eval=execOp a.eval o:=Oper.semAt_eq _ _ _ fun c hc=>by rw[hc]at hnd;cases hnd
         rw[hsem]
         obtain ⟨ι1,w1,x',hrun,hn,s1,st⟩:=H4a hop hs.sim (j1a (P:=P) hs.sim (a:=a) (ops:=ops) (fun t _ u hu=>hs.fr.2 t u hu))
         rw[hrun]
         cases x' with
         | round l' f' tmps' assign' body'=>
           obtain ⟨⟨e0,he0,hsh,rfl⟩,hargs,rfl,rfl⟩:=hn
           rw[Oper.uponIn_round]
           refine ⟨fun hh=>absurd hh (by simp[FW]),?_⟩
           have hc:RoundIn (FW r) (n - 1) P e0.block f' tmps' assign' body' w1 fun e w'=>∃ ι' r h',R r h'∧HStep h1 h'∧E1a ι' r e∧Sim ι' h' w'∧Step ι1 ι' h1 h' w1 w':=hct (n - 1) ι1 w1 tmps' e0 f' s1 he0 hsh hargs
           refine RoundIn.mono hc fun e w2 ⟨ι2,r2,h2,hR,hh2,he,s2,st2⟩=>?_
           have hx:=hall r2 h2 hR
           cases r2 with
           | ret v=>
             cases e with
             | returned v'=>
               exact ih (k+1) _ Q hrest hx n r ι2 _ w2 Qc ⟨p1a (r:=r) (w:=w) ((hs.fr.mono st.le).mono st2.le) hdo he,by rw[y0a];exact (hs.df.mono st.le).mono st2.le,s2,(hs.rd.mono st.le).mono st2.le⟩
                fun ι3 e3 s3 ex a3 w3 g0 g1 g2 g3 g4=>hQ ι3 e3 s3 ex a3 w3 g0 ((B0a hop).trans (hh2.trans g1)) g2 g3 (st.trans (st2.trans g4))
             | _=>exact he.elim
           | pan v=>
             cases e with
             | panicked ch=>
               obtain ⟨v',rfl,hv⟩:=he
               exact hQ ι2 _ ⟨s.fr,s.df,h2,s.rd⟩ _ a w2 hx ((B0a hop).trans hh2) ⟨v',rfl,hv⟩ ⟨(hs.fr.mono st.le).mono st2.le,(hs.df.mono st.le).mono st2.le,s2,(hs.rd.mono st.le).mono st2.le⟩ (st.trans st2)
             | _=>exact he.elim
         | _=>exact hn.elim
        ·refine one ?_
         simp only[R4a,hw]
         generalize hop:dOp P (ZJ s.h.ng s.fr) o s.h=x at h hent hrnd hpk
         cases x with
         | ok y h1=>
           cases y with
           | enter f args=>exact absurd ⟨f,args,h1,rfl⟩ hent
           | value v=>exact h
           | skip=>exact h
           | defer f as=>exact h
           | round l z t a b=>exact absurd ⟨l,z,t,a,b,h1,rfl⟩ hrnd
           | recover=>exact h
           | pick l=>exact absurd ⟨l,h1,rfl⟩ hpk
         | pan v h1=>exact h
         | bad=>exact h
theorem NC.region {id:Nat} {ops:Array Oper} {Q:Zv→St→Prop} {s:St} (hd:F0a nt ops=true) (h:Wk P ops ops.toList s Q):NC P nt (.region id ops false) Q s:=by
 intro n r ι a w hs
 refine wpIn_region ?_
 rw[List.range_eq_range']
 exact c7b hd ops.toList 0 s Q rfl h n r ι a w _ hs fun ι' e s' ex a' w' g0 g1 g2 g3 g4=>⟨ι',e,s',g0,g1,g2,g3,g4⟩
theorem d5b (o:Oper) (s:St) (x:DR) (K:St→Prop) (Q:Zv→St→Prop):I5a P (YY o) s x K Q=I5a P o s x K Q:=by
 cases x with
 | ok x h=>cases x <;> rfl
 | _=>rfl
theorem B9a (ops:Array Oper):∀ (l:List Oper) (s:St) (Q:Zv→St→Prop),Wk P (ops.map YY) (l.map YY) s Q=Wk P ops l s Q
 | [],_,_=>rfl
 | o :: l,s,Q=>by
   simp only[List.map_cons,Wk,K1a,D3a,d5b]
   have ih:=B9a ops l
   simp only[ih]
   rfl
def D9a (P:Program) (nt:Nat) (c:Code) (Q:Zv→St→Prop) (s:St):Prop:=∀ c0,strip c0=c→NC P nt (.loop c0) Q s
def xs (P:Program) (nt:Nat):Code→(Zv→St→Prop)→St→Prop
 | .skip,Q,s=>Q .normal s
 | .label _,Q,s=>Q .normal s
 | .exit id,Q,s=>Q (.exit id) s
 | .ret,Q,s=>Q .ret s
 | .seq x y,Q,s=>xs P nt x (L0a (xs P nt y Q) Q) s
 | .cond c x y,Q,s=>
   match ZJ s.h.ng s.fr c with
   | some (.bool t)=>(t=true→xs P nt x Q s)∧(t=false→xs P nt y Q s)
   | _=>False
 | .block id c,Q,s=>xs P nt c (N0a id Q) s
 | .region _ ops false,Q,s=>Wk P ops ops.toList s Q
 | .loop c,Q,s=>D9a P nt c Q s
 | c,Q,s=>NC P nt c Q s
theorem w2a:∀ (c:Code) (Q:Zv→St→Prop) (s:St),m0a nt c=true→xs P nt (strip c) Q s→NC P nt c Q s
 | .skip,_,_,_,h=>.of_XC (i6c h)
 | .label _,_,_,_,h=>.of_XC (T1c h)
 | .exit _,_,_,_,h=>.of_XC (h6c h)
 | .ret,_,_,_,h=>.of_XC (r9c h)
 | .seq x y,Q,s,k,h=>by
   simp only[m0a,Bool.and_eq_true]at k
   refine .seq ((w2a x _ s k.1 h).mono fun e s1 hh=>?_)
   cases e with
   | normal=>exact w2a y Q s1 k.2 hh
   | _=>exact hh
 | .cond c x y,Q,s,k,h=>by
   simp only[m0a,Bool.and_eq_true]at k
   simp only[strip,xs]at h
   split at h
   ·rename_i t he
    refine .cond he ?_
    cases t
    ·exact w2a y Q s k.2 (h.2 rfl)
    ·exact w2a x Q s k.1 (h.1 rfl)
   ·exact h.elim
 | .block id c,Q,s,k,h=>.block (w2a c _ s k h)
 | .region id ops draw,Q,s,k,h=>by
   cases draw
   ·refine .region k ?_
    have:Wk P (ops.map YY) (ops.map YY).toList s Q:=h
    rw[Array.toList_map,B9a]at this
    exact this
   ·exact h
 | .loop c,Q,s,_,h=>h c rfl
 | .rangeFunc ..,_,_,_,h=>h
 | .scope _,_,_,_,h=>h
 | .goto _,_,_,_,h=>h
 | .refuse _,_,_,_,h=>h
theorem P8c (Q:Zv→St→Prop) (s:St):xs P nt .skip Q s=Q .normal s:=rfl
theorem N8c (id:Nat) (Q:Zv→St→Prop) (s:St):xs P nt (.exit id) Q s=Q (.exit id) s:=rfl
theorem j1d (Q:Zv→St→Prop) (s:St):xs P nt .ret Q s=Q .ret s:=rfl
theorem k1d (x y:Code) (Q:Zv→St→Prop) (s:St):xs P nt (.seq x y) Q s=xs P nt x (L0a (xs P nt y Q) Q) s:=rfl
theorem n4c (id:Nat) (c:Code) (Q:Zv→St→Prop) (s:St):xs P nt (.block id c) Q s=xs P nt c (N0a id Q) s:=rfl
theorem K1c (id:Nat) (ops:List Oper) (Q:Zv→St→Prop) (s:St):xs P nt (.region id ops.toArray false) Q s=Wk P ops.toArray ops s Q:=rfl
theorem M8c (id:Nat) (ops:Array Oper) (Q:Zv→St→Prop) (s:St):xs P nt (.region id ops true) Q s=NC P nt (.region id ops true) Q s:=rfl
theorem O8c (c:Code) (Q:Zv→St→Prop) (s:St):xs P nt (.loop c) Q s=D9a P nt c Q s:=rfl
theorem Z4b (g:Operand) (ps:Array Tmp) (a b:Code) (Q:Zv→St→Prop) (s:St):xs P nt (.rangeFunc g ps a b) Q s=NC P nt (.rangeFunc g ps a b) Q s:=rfl
def XIf (P:Program) (nt:Nat) (x y:Code) (Q:Zv→St→Prop) (s:St):Option Value→Prop
 | some (.bool t)=>(t=true→xs P nt x Q s)∧(t=false→xs P nt y Q s)
 | _=>False
theorem L8c (c:Operand) (x y:Code) (Q:Zv→St→Prop) (s:St):xs P nt (.cond c x y) Q s=XIf P nt x y Q s (ZJ s.h.ng s.fr c):=by
 simp only[xs,XIf]
theorem V1c (x y:Code) (Q:Zv→St→Prop) (s:St):XIf P nt x y Q s (some (.bool true))=xs P nt x Q s:=by simp[XIf]
theorem Z8b (x y:Code) (Q:Zv→St→Prop) (s:St):XIf P nt x y Q s (some (.bool false))=xs P nt y Q s:=by simp[XIf]
theorem B3a {x y:Code} {Q:Zv→St→Prop} {s:St} {t:Bool} (h1:t=true→xs P nt x Q s) (h2:t=false→xs P nt y Q s):XIf P nt x y Q s (some (.bool t)):=⟨h1,h2⟩
theorem j0a {x y:Code} {Q:Zv→St→Prop} {s:St} {p:Prop} [Decidable p] (h1:p→xs P nt x Q s) (h2:¬ p→xs P nt y Q s):XIf P nt x y Q s (some (.bool (decide p))):=
 ⟨fun h=>h1 (of_decide_eq_true h),fun h=>h2 (of_decide_eq_false h)⟩
theorem XU {σ:Type} {c:Code} {Q:Zv→St→Prop} {s:St} (hk:m0a nt c=true) (I:σ→St→Prop) (m:σ→Nat) (a:σ) (h0:I a s)
 (hr:∀ a s (K:Zv→St→Prop),(∀ b s',I b s'→m b<m a→K .normal s')→(∀ e s',e≠.normal→Q e s'→K e s')→I a s→xs P nt c K s):D9a P nt c Q s:=by
 intro c0 hc
 subst hc
 exact NC.loop I m (fun a s K hK hX hI=>w2a _ _ _ (by rw[← A0a];exact hk) (hr a s K hK hX hI)) a s h0
def NCl (P:Program) (ops:Array Oper) (o:Oper) (rest:List Oper) (s:St) (Q:Zv→St→Prop) (f:FuncId) (args:List Value) (h:DHeap):Prop:=u4c P o s f args h (fun s=>Wk P ops rest s Q) Q
def NNx (P:Program) (ops:Array Oper) (o:Oper) (rest:List Oper) (s:St) (Q:Zv→St→Prop) (x:DR):Prop:=I5a P o s x (fun s=>Wk P ops rest s Q) Q
def NRd (P:Program) (ops:Array Oper) (o:Oper) (rest:List Oper) (s:St) (Q:Zv→St→Prop) (l size:Nat) (tmps:Fr) (assign body:Code) (h:DHeap):Prop:=
 p9c P o s l size tmps assign body h (fun s=>Wk P ops rest s Q) Q
def K0b (P:Program) (ops:Array Oper) (o:Oper) (rest:List Oper) (s:St) (Q:Zv→St→Prop) (b:Option Bool):Prop:=
 match b with
 | none=>False
 | some false=>Wk P ops rest ⟨s.fr.put o.dst undef,s.df,s.h,s.rd⟩ Q
 | some true=>NNx P ops o rest s Q (dOp P (ZJ s.h.ng s.fr) o s.h)
theorem Q1c (ops:Array Oper) (s:St) (Q:Zv→St→Prop):Wk P ops [] s Q=Q .normal s:=rfl
theorem W8b (ops:Array Oper) (o:Oper) (rest:List Oper) (s:St) (Q:Zv→St→Prop):Wk P ops (o :: rest) s Q=K0b P ops o rest s Q (ZK ops s.fr o):=rfl
theorem X8b (ops:Array Oper) (o:Oper) (rest:List Oper) (s:St) (Q:Zv→St→Prop):K0b P ops o rest s Q (some true)=NNx P ops o rest s Q (dOp P (ZJ s.h.ng s.fr) o s.h):=rfl
theorem d7b (ops:Array Oper) (o:Oper) (rest:List Oper) (s:St) (Q:Zv→St→Prop):K0b P ops o rest s Q (some false)=Wk P ops rest ⟨s.fr.put o.dst undef,s.df,s.h,s.rd⟩ Q:=rfl
theorem C9a {ops:Array Oper} {o:Oper} {rest:List Oper} {s:St} {Q:Zv→St→Prop} {t:Bool} (h1:t=true→K0b P ops o rest s Q (some true)) (h2:t=false→K0b P ops o rest s Q (some false)):K0b P ops o rest s Q (some t):=by
 cases t
 ·exact h2 rfl
 ·exact h1 rfl
theorem U8b (ops:Array Oper) (o:Oper) (rest:List Oper) (s:St) (Q:Zv→St→Prop) (v:Value) (h:DHeap):NNx P ops o rest s Q (.ok (.value v) h)=Wk P ops rest ⟨s.fr.put o.dst v,s.df,h,s.rd⟩ Q:=rfl
theorem O1c (ops:Array Oper) (o:Oper) (rest:List Oper) (s:St) (Q:Zv→St→Prop) (h:DHeap):NNx P ops o rest s Q (.ok .skip h)=Wk P ops rest ⟨s.fr.put o.dst undef,s.df,h,s.rd⟩ Q:=rfl
theorem S8b (ops:Array Oper) (o:Oper) (rest:List Oper) (s:St) (Q:Zv→St→Prop) (f:FuncId) (args:List Value) (h:DHeap):NNx P ops o rest s Q (.ok (.enter f args) h)=NCl P ops o rest s Q f args h:=rfl
theorem T8b (ops:Array Oper) (o:Oper) (rest:List Oper) (s:St) (Q:Zv→St→Prop) (l size:Nat) (tmps:Fr) (a b:Code) (h:DHeap):NNx P ops o rest s Q (.ok (.round l size tmps a b) h)=NRd P ops o rest s Q l size tmps a b h:=rfl
theorem R8b (ops:Array Oper) (o:Oper) (rest:List Oper) (s:St) (Q:Zv→St→Prop) (f:FuncId) (args:List Value) (h:DHeap):NNx P ops o rest s Q (.ok (.defer f args) h)=(s.rd=none∧Wk P ops rest ⟨s.fr.put o.dst undef,.fn f args :: s.df,h,s.rd⟩ Q):=rfl
theorem f6c (ops:Array Oper) (o:Oper) (rest:List Oper) (s:St) (Q:Zv→St→Prop) (v:Value) (h:DHeap):NNx P ops o rest s Q (.pan v h)=Q (.pan v) ⟨s.fr,s.df,h,s.rd⟩:=rfl
theorem YQ {ops:Array Oper} {o:Oper} {rest:List Oper} {s:St} {Q:Zv→St→Prop} {f:FuncId} {args:List Value} {h h':DHeap} {v:Value} (hc:DC P f args h (.ret v) h') (hx:Wk P ops rest ⟨s.fr.put o.dst v,s.df,h',s.rd⟩ Q) :
 NCl P ops o rest s Q f args h:=⟨fun r1 h1=>r1=.ret v∧h1=h',hc.ct ⟨rfl,rfl⟩,fun r1 h1 ⟨a,b⟩=>by subst a;subst b;exact hx⟩
theorem T1b {ops:Array Oper} {o:Oper} {rest:List Oper} {s:St} {Q:Zv→St→Prop} {f:FuncId} {args:List Value} {h h':DHeap} {v:Value} (hc:DC P f args h (.pan v) h') (hx:Q (.pan v) ⟨s.fr,s.df,h',s.rd⟩) :
 NCl P ops o rest s Q f args h:=⟨fun r1 h1=>r1=.pan v∧h1=h',hc.ct ⟨rfl,rfl⟩,fun r1 h1 ⟨a,b⟩=>by subst a;subst b;exact hx⟩
theorem Yv {ops:Array Oper} {o:Oper} {rest:List Oper} {s:St} {Q:Zv→St→Prop} {f:FuncId} {args:List Value} {h:DHeap} {R:DEnd→DHeap→Prop} (hc:Ct P f args h R) (hx:∀ r h',R r h'→Xx o s r h' (fun s=>Wk P ops rest s Q) Q) :
 NCl P ops o rest s Q f args h:=⟨R,hc,hx⟩
theorem V7a {ops:Array Oper} {o:Oper} {rest:List Oper} {s:St} {Q:Zv→St→Prop} {l size:Nat} {tmps:Fr} {a b:Code} {h:DHeap} {R:DEnd→DHeap→Prop} (hc:Rt P l size tmps a b h R) (hx:∀ r h',R r h'→Xx o s r h' (fun s=>Wk P ops rest s Q) Q) :
 NRd P ops o rest s Q l size tmps a b h:=⟨R,hc,hx⟩
theorem o1d {f:FuncId} {fn:Func} {c:Code} {args:List Value} {h:DHeap} {R:DEnd→DHeap→Prop} (hf:P.funcs[f]? = some fn) (hb:fn.body=some c) (hn:args.length≤fn.ntmps)
 (hx:NC P fn.ntmps c (M6a P fn.results.toList R) ⟨c2a args fn.ntmps,[],h,none⟩):Ct P f args h R:=by
 intro n ι w args' s ha
 refine callsIn_of_wp_marks hf hb trivial ?_
 refine wpIn_mono (hx n none ι { tmps:=args'++Array.replicate (fn.ntmps - args'.size) undef,defers:=[] } w ⟨H9a ha hn,trivial,s,trivial⟩) fun ex a1 w1 ⟨ι1,e,s1,hq,hh,g1,g2,g3⟩=>?_
 have go:∀ m u,XLv P fn.results.toList s1.fr R s1.df m s1.h→ModeRel ι1 m u→LeavesInM Fence.wide n P fn a1.tmps (fun e w'=>∃ ι' r h',R r h'∧HStep h h'∧E1a ι' r e∧Sim ι' h' w'∧Step ι ι' h h' w w') a1.defers u w1:=fun m u hlv hu=>by
  obtain ⟨r,h',hr,hh2,hs⟩:=A7a (fn:=fn) (nt:=fn.ntmps) s1.df m s1.h hlv
  exact hs n ι1 a1.tmps w1 a1.defers u _ g2.fr g2.df g2.sim hu fun ι2 en w2 k1 k2 k3=>⟨ι2,r,h',hr,hh.trans hh2,k1,k2,g3.trans k3⟩
 cases e with
 | normal=>
   cases ex with
   | normal=>exact go .ret .returning hq trivial
   | _=>exact g1.elim
 | ret=>
   cases ex with
   | ret=>exact go .ret .returning hq trivial
   | _=>exact g1.elim
 | pan v=>
   cases ex with
   | panic ch=>exact go (.pan v) (.panicking ch) hq g1
   | _=>exact g1.elim
 | exit id=>exact hq.elim
theorem s4c {f:FuncId} {fn:Func} {c:Code} {args:List Value} {h:DHeap} {R:DEnd→DHeap→Prop} {n:Nat} {rs:List ResultVar} (hf:P.funcs[f]? = some fn) (hb:fn.body.map strip=some c) (hn:fn.ntmps=n)
 (hr:fn.results.toList=rs) (ha:args.length≤n) (hk:m0a n c=true) (hx:xs P n c (M6a P rs R) ⟨c2a args n,[],h,none⟩):Ct P f args h R:=by
 subst hn;subst hr
 cases hb0:fn.body with
 | none=>rw[hb0]at hb;cases hb
 | some c0=>
   rw[hb0]at hb
   cases hb
   exact o1d hf hb0 ha (w2a _ _ _ (by rw[← A0a];exact hk) hx)
abbrev mo (d:Nat) (op:Op):Oper:=⟨some d,op,0,"",#[],none⟩
abbrev mx (op:Op):Oper:=⟨none,op,0,"",#[],none⟩
abbrev rg (ops:List Oper):Code:=.region 0 ops.toArray false
abbrev T (n:Nat):Operand:=.tmp n
abbrev I64 (n:Int):Operand:=.const (.int .i64 n)
abbrev qV (d a:Nat):Oper:=mo d (.move (T a))
abbrev qA (d a:Nat):Oper:=mo d (.assign (T a))
abbrev qL (d t a:Nat):Oper:=mo d (.load t (T a))
abbrev qS (t a v:Nat):Oper:=mx (.store t (T a) (T v))
abbrev qI (d t a i:Nat):Oper:=mo d (.indexAddr t (T a) (T i))
abbrev qB (d:Nat) (o:BinOp) (t a b u:Nat):Oper:=mo d (.binOp o t (T a) (T b) u)
abbrev qN (d a t:Nat):Oper:=mo d (.call ⟨.builtin .len,#[T a],#[t]⟩)
attribute [go_sem] Q1c W8b X8b d7b U8b O1c S8b T8b R8b f6c P8c N8c j1d k1d n4c K1c M8c O8c Z4b L8c V1c Z8b S2b Q8b Z6b P8b j2b V6b U6b c5b Q2b p4a I3a c4c Y2b c9b b9b o8a j6c i0c h0c P7b c4b c1b C2b S7b T7b R7b Q7b R3b S3b o5b j5b m3b x4b Y3c W3c X2c C7b Z2c E7b P9b d7c y7b R9b v3b W0b D8a C1b Q8a Z9b Q3b K3b x2b Q9b t3b a3c K7b r5b E8a J3b G3b Y9b P3b d4b f4b y2b j9a z2b k9a V9b B3b X0b s5b T0b q5b P9a w3b R0b Q9a t5b D7b u2b A2b l9a V2c T9b W9b B2b w5b b4b r7b D2b d1b s7b x6c G6c E6c bin_and n9b H6c z6c F6c D6c C6c B6c A6c
theorem j2c (x:Value) (l:List Value) (nt:Nat):c2a (x :: l) nt 0=some x:=rfl
theorem k2c (x y:Value) (l:List Value) (nt:Nat):c2a (x :: y :: l) nt 1=some y:=rfl
theorem l2c (x y z:Value) (l:List Value) (nt:Nat):c2a (x :: y :: z :: l) nt 2=some z:=rfl
theorem m2c (x y z u:Value) (l:List Value) (nt:Nat):c2a (x :: y :: z :: u :: l) nt 3=some u:=rfl
theorem n2c (x y z u v:Value) (l:List Value) (nt:Nat):c2a (x :: y :: z :: u :: v :: l) nt 4=some v:=rfl
attribute [go_sem] j2c k2c l2c m2c n2c
theorem G7b {fr:Fr} {h:DHeap} {t:Tmp}:p0a P [.tmp t] fr h=fr t:=by
 simp only[p0a,X3a,w1a]
 cases fr t <;> rfl
def h4c:Option Value→Option Value→Option Value
 | some a,some b=>some (.tuple #[a,b])
 | _,_=>none
def i4c:Option Value→Option Value→Option Value→Option Value
 | some a,some b,some c=>some (.tuple #[a,b,c])
 | _,_,_=>none
theorem H7b {fr:Fr} {h:DHeap} {t u:Tmp}:p0a P [.tmp t,.tmp u] fr h=h4c (fr t) (fr u):=by
 simp only[p0a,X3a,w1a]
 cases fr t <;> cases fr u <;> rfl
theorem I7b {fr:Fr} {h:DHeap} {t u w:Tmp}:p0a P [.tmp t,.tmp u,.tmp w] fr h=i4c (fr t) (fr u) (fr w):=by
 simp only[p0a,X3a,w1a]
 cases fr t <;> cases fr u <;> cases fr w <;> rfl
theorem f2b (a b:Value):h4c (some a) (some b)=some (.tuple #[a,b]):=rfl
theorem G1c (a b c:Value):i4c (some a) (some b) (some c)=some (.tuple #[a,b,c]):=rfl
attribute [go_sem] G7b H7b I7b f2b G1c
end Go.D
namespace Go.D
variable {P:Program}
theorem VIn.ren {S:Nat→Prop} {π:Nat→Option Nat} (hπ:∀ i,S i→π i=some i) {v:Value} (h:VIn S v):VRen π v v:=by
 induction h with
 | bool b=>exact .bool b
 | int k n=>exact .int k n
 | float k b=>exact .float k b
 | complex k a b=>exact .complex k a b
 | string s=>exact .string s
 | nilFunc=>exact .nilFunc
 | nilIface=>exact .nilIface
 | pnil=>exact .pnil
 | ptr h=>exact .ptr (hπ _ h)
 | snil=>exact .snil
 | slice h=>exact .slice (hπ _ h) id
 | mnil=>exact .mnil
 | map h=>exact .map (hπ _ h)
 | func hf _ _ i1 i2=>
   refine .func hf rfl (fun i v v' x y=>?_) rfl (fun i v v' x y=>?_)
   ·rw[x]at y;cases y;exact i1 v (Array.mem_of_getElem? x)
   ·rw[x]at y;cases y;exact i2 v (Array.mem_of_getElem? x)
 | yield h=>exact .yield (hπ _ h)
 | iface _ ih=>exact .iface ih
 | agg _ ih=>exact .agg rfl fun i v v' x y=>by rw[x]at y;cases y;exact ih v (Array.mem_of_getElem? x)
 | tuple _ ih=>exact .tuple rfl fun i v v' x y=>by rw[x]at y;cases y;exact ih v (Array.mem_of_getElem? x)
theorem O7a (S:Nat→Prop) {v:Value} (h:Yw v=true):VIn S v:=by
 unfold Yw at h
 split at h <;> first | constructor | cases h
theorem P7a (S:Nat→Prop) {v:Value} (h:XJ v=true):VIn S v:=by
 unfold XJ at h
 split at h
 ·exact .agg fun v hv=>O7a S (List.all_eq_true.1 h v (by simpa using hv))
 ·exact O7a S h
theorem Q5a (S:Nat→Prop) {v:Value} (h:Yk v=true):VIn S v:=by
 unfold Yk at h
 split at h
 ·exact .iface (P7a S h)
 ·exact .tuple fun v hv=>P7a S (List.all_eq_true.1 h v (by simpa using hv))
 ·exact P7a S h
def nm (n:Nat) (ρ:Nat→Option Nat):Nat→Option Nat:=fun j=>if j<n then some j else ρ j
theorem B6a {n:Nat} {ρ:Nat→Option Nat} {j:Nat} (h:j<n):nm n ρ j=some j:=if_pos h
theorem x0d {n:Nat} {ρ:Nat→Option Nat} {j:Nat} (h:n≤j):nm n ρ j=ρ j:=if_neg (Nat.not_lt.2 h)
def q9c (π:Nat→Option Nat):DEnd→DEnd→Prop
 | .ret v,.ret u=>VRen π v u
 | .pan v,.pan u=>VRen π v u
 | _,_=>False
theorem ObjRel.self {ι:Inj} {π:Nat→Option Nat} {e:Ent} {o:DObj} {w:World} (hπ:∀ i e,ι i=some e→π i=some i) (h:ObjRel ι e o w):ORen π o o:=by
 cases o with
 | row cells esz ro=>
   obtain ⟨_,_,cur,ty,fz,_,d,_⟩:=h
   refine ⟨rfl,rfl,Nat.le_refl _,fun i v u x y=>?_⟩
   rw[x]at y;cases y
   obtain ⟨v',_,q⟩:=d i v x
   exact VRel.ren_self hπ q
 | map es clock=>
   obtain ⟨_,_,es',_,d1,d2⟩:=h
   refine ⟨rfl,rfl,fun i e0 e' x y=>?_⟩
   rw[x]at y;cases y
   have hi:i<es'.toList.length:=by rw[← d1];exact (List.getElem?_eq_some_iff.1 x).1
   obtain ⟨_,_,q⟩:=d2 i e0 _ x (List.getElem?_eq_getElem hi)
   exact ⟨rfl,rfl,VRel.ren_self hπ q⟩
 | loop d=>
   obtain ⟨_,_,l,_,hh⟩:=h
   obtain ⟨x,hm,_,_⟩:=hh.defers
   exact ⟨rfl,rfl,rfl,rfl,hπ _ _ hm,rfl,rfl,fun t v hv=>⟨v,hv,VRel.ren_self hπ (hh.tmps.2 t v hv)⟩⟩
 | marks b=>exact rfl
 | iter m a s c=>
   obtain ⟨_,_,m',_,h4⟩:=h
   refine ⟨rfl,rfl,rfl,?_⟩
   cases m with
   | none=>trivial
   | some i=>
     cases m' with
     | none=>exact h4.elim
     | some b0=>
       obtain ⟨e1,q1,_⟩:=h4
       exact hπ _ _ q1
 | dead=>trivial
structure Seen (h:DHeap) (r:DEnd) (h':DHeap) (r1:DEnd) (h1:DHeap) (ρ:Nat→Option Nat):Prop where
 new:∀ j i,ρ j=some i→h.next≤j∧j<h'.next∧h.next≤i
 inj:∀ j j' i,ρ j=some i→ρ j'=some i→j=j'
 obj:∀ j i o1,ρ j=some i→h1.get i=some o1→∃ o,h'.get j=some o∧ORen (nm h.next ρ) o o1
 old:∀ j,j<h.next→(h1.get j=h.get j∧h'.get j=h.get j)∨∀ o1,h1.get j=some o1→∃ o,h'.get j=some o∧ORen (nm h.next ρ) o o1
 res:q9c (nm h.next ρ) r r1
theorem Seen.go {h h' h1:DHeap} {r r1:DEnd} {ρ:Nat→Option Nat} (q:Seen h r h' r1 h1 ρ) (hh:HStep h h') {ι ι1:Inj} {w w1:World} {e:Ending} (s:Sim ι h w) (hs:HStep h h1)
 (he:E1a ι1 r1 e) (s1:Sim ι1 h1 w1) (st:Step ι ι1 h h1 w w1):∃ ι',E1a ι' r e∧Sim ι' h' w1∧Step ι ι' h h' w w1:=by
 have hold:∀ i x,ι i=some x→nm h.next ρ i=some i:=fun i x hx=>B6a (s.lt i x hx)
 have hr:o9c (fun i=>∃ e,ι1 i=some e) (nm h.next ρ) h' h1:=by
  refine ⟨fun j j' i a b=>?_,fun j i a=>?_,hh.ng.trans hs.ng.symm,fun g hg'=>(let ⟨x,hx,_⟩:=s.glob g (hs.ng▸hg');B6a (s.lt g x hx)),fun j i o1 a ⟨x,hx⟩ c=>?_⟩
  ·unfold nm at a b
   split at a
   ·split at b
    ·cases a;cases b;rfl
    ·cases a
     have:=(q.new j' j b).2.2
     omega
   ·split at b
    ·cases b
     have:=(q.new j j' a).2.2
     omega
    ·exact q.inj j j' i a b
  ·unfold nm at a
   split at a
   ·have:=hh.next;omega
   ·exact (q.new j i a).2.1
  ·unfold nm at a
   split at a
   ·rename_i hlt
    cases a
    rcases q.old j hlt with ⟨g1,g2⟩ | g
    ·rw[g1]at c
     refine ⟨o1,g2.trans c,?_⟩
     have hlive:∃ y,ι j=some y:=by
      cases hj:ι j with
      | some y=>exact ⟨y,rfl⟩
      | none=>exact absurd (st.new j x hx hj).1 (by omega)
     obtain ⟨y,hy⟩:=hlive
     obtain ⟨o,g3,g4⟩:=s.obj j y hy
     rw[c]at g3;cases g3
     exact ObjRel.self hold g4
    ·exact g o1 c
   ·exact q.obj j i o1 a c
 have hle:∀ id x,ι id=some x→(ι1.via (nm h.next ρ)) id=some x:=fun id x hx=>Inj.via_of (hold id x hx) (st.le id x hx)
 refine ⟨ι1.via (nm h.next ρ),?_,Sim.ren hr s1,⟨hle,fun id x hx hn=>?_,hh.next,hh.ng,st.os,st.tape,st.output,st.size,st.frame,st.drawn⟩⟩
 ·have hres:=q.res
  cases r with
  | ret v=>
    cases r1 with
    | ret u=>
      cases e with
      | returned v'=>exact VRen.rel hres he
      | _=>exact he.elim
    | pan u=>exact hres.elim
  | pan v=>
    cases r1 with
    | pan u=>
      cases e with
      | panicked ch=>
        obtain ⟨v',rfl,hv⟩:=he
        exact ⟨v',rfl,VRen.rel hres hv⟩
      | _=>exact he.elim
    | ret u=>exact hres.elim
 ·obtain ⟨i,a,b⟩:=Inj.via_some hx
  unfold nm at a
  split at a
  ·rename_i hlt
   cases a
   exact absurd (st.new id x b hn).1 (by omega)
  ·have hq:=q.new id i a
   refine ⟨hq.1,?_⟩
   have hno:ι i=none:=by
    cases hi:ι i with
    | none=>rfl
    | some y=>exact absurd (s.lt i y hi) (by omega)
   exact (st.new i x b hno).2
theorem Ct.canon {f:FuncId} {args:List Value} {h h':DHeap} {r:DEnd} {R:DEnd→DHeap→Prop} (c:Ct P f args h R) (hh:HStep h h') (hx:∀ r1 h1,R r1 h1→∃ ρ,Seen h r h' r1 h1 ρ):DC P f args h r h':=by
 refine ⟨hh,fun n ι w args' s ha=>CallsIn.mono (c n ι w args' s ha) fun e w1 ⟨ι1,r1,h1,hR,hs,he,s1,st⟩=>?_⟩
 obtain ⟨ρ,q⟩:=hx r1 h1 hR
 exact q.go hh s hs he s1 st
theorem Seen.pure {h h1:DHeap} {v:Value} (e:Ext h h1) (hv:VIn (fun i=>i<h.next) v):Seen h (.ret v) h (.ret v) h1 (fun _=>none):=
 ⟨fun j i x=>(by cases x),fun j j' i x=>(by cases x),fun j i o1 x=>(by cases x),fun j hj=>.inl ⟨e.get j hj,rfl⟩,hv.ren fun i hi=>B6a hi⟩
theorem Ct.pure {f:FuncId} {args:List Value} {h:DHeap} {v:Value} (c:Ct P f args h fun r h1=>r=.ret v∧Ext h h1) (hv:VIn (fun i=>i<h.next) v):DC P f args h (.ret v) h:=
 c.canon (.refl _) fun r1 h1 ⟨a,b⟩=>by subst a;exact ⟨_,.pure b hv⟩
end Go.D
namespace Go.D
variable {P:Program}
theorem I1b {v:Value} (h:Yw v=true):v.oneCell'=true:=by
 unfold Yw at h
 split at h <;> first | rfl | cases h
structure FRep (α:Type) where
 z:Nat
 enc:α→List Value
 ok:α→Prop
 len:∀ x,(enc x).length=z
 flat:∀ x,(enc x).all Yw=true
 inj:∀ x y,enc x=enc y→x=y
def FRep.rep {α:Type} (F:FRep α):Rep α where
 z:=F.z
 rd _ _ cs x:=cs=F.enc x∧F.ok x
 len h:=by rw[h.1];exact F.len _
 one {S hp cs x} h:=by
  rw[h.1,List.all_eq_true]
  exact fun v hv=>I1b (List.all_eq_true.1 (F.flat x) v hv)
 mono h _:=h
 vin {S hp cs x} h v hv:=by
  rw[h.1]at hv
  exact O7a S (List.all_eq_true.1 (F.flat x) v hv)
def fI (k:IntKind):FRep Int where
 z:=1
 enc n:=[.int k n]
 ok n:=inK k n
 len _:=rfl
 flat _:=rfl
 inj x y h:=by simpa using h
def fB:FRep Bool where
 z:=1
 enc b:=[.bool b]
 ok _:=True
 len _:=rfl
 flat _:=rfl
 inj x y h:=by simpa using h
def fP {α β:Type} (F:FRep α) (G:FRep β):FRep (α × β) where
 z:=F.z+G.z
 enc x:=F.enc x.1++G.enc x.2
 ok x:=F.ok x.1∧G.ok x.2
 len x:=by simp[F.len,G.len]
 flat x:=by rw[List.all_append,F.flat,G.flat];rfl
 inj x y h:=by
  have:=List.append_inj h (by rw[F.len,F.len])
  exact Prod.ext (F.inj _ _ this.1) (G.inj _ _ this.2)
def fM {α β:Type} (F:FRep α) (f:β→α) (hf:∀ x y,f x=f y→x=y):FRep β where
 z:=F.z
 enc x:=F.enc (f x)
 ok x:=F.ok (f x)
 len x:=F.len _
 flat x:=F.flat _
 inj x y h:=hf _ _ (F.inj _ _ h)
def NoS:Nat→Prop:=fun _=>False
section
variable {α:Type} {F:FRep α} {S:Nat→Prop} {h h':DHeap} {v:Value} {l k:List α}
theorem Els.flat {cs:List Value}:Els F.rep S h cs l↔cs=l.flatMap F.enc∧∀ x∈l,F.ok x:=by
 induction l generalizing cs with
 | nil=>simp[Els]
 | cons x l ih=>
   simp only[Els,ih]
   constructor
   ·rintro ⟨c1,c2,rfl,⟨rfl,a⟩,rfl,b⟩
    exact ⟨by simp,by simpa using ⟨a,b⟩⟩
   ·rintro ⟨rfl,a⟩
    simp only[List.mem_cons,forall_eq_or_imp]at a
    exact ⟨_,_,by simp,⟨rfl,a.1⟩,rfl,a.2⟩
theorem ZU (F:FRep α) (l:List α):(l.flatMap F.enc).length=l.length*F.z:=by
 induction l with
 | nil=>simp
 | cons x l ih=>simp[F.len,ih,Nat.succ_mul];omega
theorem b4a (F:FRep α) (l:List α):(l.flatMap F.enc).all Yw=true:=by
 induction l with
 | nil=>rfl
 | cons x l ih=>rw[List.flatMap_cons,List.all_append,F.flat,ih];rfl
theorem Sl.ok (a:Sl F.rep S h v l):∀ x∈l,F.ok x:=by
 rcases a with ⟨rfl,rfl⟩ | ⟨id,o,cap,cells,esz,ro,rfl,b,c,d,e,f⟩
 ·simp
 ·exact (Els.flat.1 f).2
theorem Owns.ok {w:Option Nat} (a:Owns F.rep S h v l w):∀ x∈l,F.ok x:=a.sl.ok
theorem Owns.noS {i:Nat} (a:Owns F.rep S h v l (some i)) (S':Nat→Prop):Owns F.rep S' h v l (some i):=by
 rcases a with ⟨_,_,hh⟩ | ⟨hh,_⟩ | ⟨id,cap,cells,rfl,hh,b,c,d,e⟩
 ·cases hh
 ·cases hh
 ·exact .inr (.inr ⟨id,cap,cells,rfl,hh,b,c,d,Els.flat.2 (Els.flat.1 e)⟩)
theorem Owns.flatS {w:Option Nat} (a:Owns F.rep S h v l w) {S':Nat→Prop} (hS:∀ i,S i→S' i):Owns F.rep S' h v l w:=a.mono (Nat.le_refl _) (fun _ _=>rfl) fun i hi=>⟨hS i hi,rfl⟩
def w0b (F:FRep α) (l:List α):DObj:=.row (l.flatMap F.enc) F.z false
def mkS (h:DHeap) (n:Nat):Value:=.slice (some ⟨h.next,0,none⟩) n (n+1)
def lv (h:DHeap) (l:List α):Value:=if l.isEmpty then .slice none 0 0 else mkS h l.length
def lh (F:FRep α) (h:DHeap) (l:List α):DHeap:=if l.isEmpty then h else h.push (w0b F l)
theorem x0b (hok:∀ x∈l,F.ok x):Owns F.rep S (h.push (w0b F l)) (mkS h l.length) l (some h.next):=
 .inr (.inr ⟨h.next,l.length+1,_,rfl,rfl,Nat.lt_succ_self _,Zz _ _,by rw[ZU];exact Nat.le_refl _,Els.flat.2 ⟨by
  rw[List.take_of_length_le];rw[ZU];exact Nat.le_refl _,hok⟩⟩)
theorem l0b (F:FRep α) (h:DHeap) (l:List α):Ext h (lh F h l):=by
 unfold lh;split
 ·exact .refl _
 ·exact (Ext.refl h).push _
def ρ1 (h:DHeap) (i:Nat):Nat→Option Nat:=fun j=>if j=h.next then some i else none
theorem b5b (h:DHeap) (i:Nat):nm h.next (ρ1 h i) h.next=some i:=by rw[x0d (Nat.le_refl _)];simp[ρ1]
theorem Seen.row {h1:DHeap} {r r1:DEnd} {cs cells:List Value} {z w:Nat} (e:Ext h h1) (hw:h.next≤w) (hg:h1.get w=some (.row cells z false)) (hl:cs.length≤cells.length) (hc:cells.take cs.length=cs)
 (hf:cs.all Yw=true) (hr:q9c (nm h.next (ρ1 h w)) r r1):Seen h r (h.push (.row cs z false)) r1 h1 (ρ1 h w):=by
 refine ⟨fun j i x=>?_,fun j j' i x y=>?_,fun j i o1 x y=>?_,fun j hj=>.inl ⟨e.get j hj,ZX _ _ hj⟩,hr⟩
 ·unfold ρ1 at x
  split at x
  ·cases x;subst_vars;exact ⟨Nat.le_refl _,Nat.lt_succ_self _,hw⟩
  ·cases x
 ·unfold ρ1 at x y
  split at x
  ·split at y
   ·subst_vars;rfl
   ·cases y
  ·cases x
 ·unfold ρ1 at x
  split at x
  ·cases x;subst_vars
   rw[hg]at y;cases y
   refine ⟨_,Zz _ _,rfl,rfl,hl,fun i v u p q=>?_⟩
   have hi:i<cs.length:=(List.getElem?_eq_some_iff.1 p).1
   have:cs[i]? = some u:=by rw[← hc,List.getElem?_take,if_pos hi];exact q
   rw[p]at this;cases this
   exact J1b _ (U0a hf p)
  ·cases x
theorem Seen.list {h1:DHeap} {v1:Value} {w:Option Nat} (e:Ext h h1) (ho:Owns F.rep S h1 v1 l w) (hw:∀ i,w=some i→h.next≤i) (hn:l=[]→w=none) (hv:w=none→v1=.slice none 0 0) :
 ∃ ρ,Seen h (.ret (lv h l)) (lh F h l) (.ret v1) h1 ρ:=by
 rcases ho with ⟨rfl,rfl,rfl⟩ | ⟨rfl,⟨a,ha⟩,_⟩ | ⟨id,cap,cells,rfl,rfl,b,c,d,f⟩
 ·exact ⟨_,Seen.pure e .snil⟩
 ·rw[hv rfl]at ha;cases ha
 ·have hne:l.isEmpty=false:=by
   cases l with
   | nil=>exact absurd (hn rfl) (by simp)
   | cons=>rfl
  obtain ⟨f1,_⟩:=Els.flat.1 f
  refine ⟨ρ1 h id,?_⟩
  unfold lv lh
  rw[hne]
  have hlen:=ZU F l
  refine Seen.row e (hw id rfl) c (by rw[hlen];exact d) (by rw[hlen];exact f1) (b4a F l) ?_
  exact VRen.slice (b5b h id) (fun hx=>by omega)
theorem Seen.list' {h1:DHeap} {v1:Value} {w:Nat} (e:Ext h h1) (ho:Owns F.rep S h1 v1 l (some w)) (hw:h.next≤w):∃ ρ,Seen h (.ret (mkS h l.length)) (h.push (w0b F l)) (.ret v1) h1 ρ:=by
 rcases ho with ⟨rfl,rfl,hh⟩ | ⟨hh,_⟩ | ⟨id,cap,cells,rfl,hh,b,c,d,f⟩
 ·cases hh
 ·cases hh
 ·cases hh
  obtain ⟨f1,_⟩:=Els.flat.1 f
  have hlen:=ZU F l
  exact ⟨ρ1 h w,Seen.row e hw c (by rw[hlen];exact d) (by rw[hlen];exact f1) (b4a F l) (VRen.slice (b5b h w) (fun hx=>by omega))⟩
end
theorem Seen.changed {h h1:DHeap} {v:Value} {i:Nat} {o:DObj} (hi:i<h.next) (hn:∀ j,j<h.next→j≠i→h1.get j=h.get j) (ho:h1.get i=some o) (hs:ORen (nm h.next fun _=>none) o o) (hv:VIn (fun i=>i<h.next) v) :
 Seen h (.ret v) (h.set i o) (.ret v) h1 (fun _=>none):=by
 refine ⟨fun j i x=>(by cases x),fun j j' i x=>(by cases x),fun j i o1 x=>(by cases x),fun j hj=>?_,hv.ren fun i hi=>B6a hi⟩
 by_cases hji:j=i
 ·subst hji
  exact .inr fun o1 h1'=>by rw[ho]at h1';cases h1';exact ⟨o,Zq _ _,hs⟩
 ·exact .inl ⟨hn j hj hji,Zx _ _ hji⟩
theorem g4c {n:Nat} {ρ:Nat→Option Nat} {cells:List Value} {z:Nat} {ro:Bool} (hc:∀ v∈cells,VIn (fun i=>i<n) v):ORen (nm n ρ) (.row cells z ro) (.row cells z ro):=
 ⟨rfl,rfl,Nat.le_refl _,fun i v u a b=>by rw[a]at b;cases b;exact (hc v (List.mem_of_getElem? a)).ren fun i hi=>B6a hi⟩
def d5a (places:List (Nat × Nat)):List Value→List (Nat × Value)→Option (List Value)
 | cells,[]=>some cells
 | cells,(i,v) :: rest=>
   match places[i]? with
   | none=>none
   | some (off,size)=>if v.cells.size=size∧off+size≤cells.length then d5a places (YW cells off v.cells.toList) rest else none
theorem N3a (cells:List Value) (o:Nat) (vs:List Value):∀ i,(YW cells o vs)[i]? = if o≤i∧i<o+vs.length∧i<cells.length then vs[i - o]? else cells[i]?:=by
 induction vs generalizing cells o with
 | nil=>intro i;simp[YW];omega
 | cons v vs ih=>
   intro i
   simp only[YW,ih,List.length_set,List.getElem?_set,List.length_cons]
   by_cases h1:o+1≤i∧i<o+1+vs.length∧i<cells.length
   ·rw[if_pos h1,if_pos (by omega)]
    rw[show i - o=(i - (o+1))+1 by omega,List.getElem?_cons_succ]
   ·rw[if_neg h1]
    by_cases h2:o=i
    ·subst h2
     simp only[if_true]
     by_cases h3:o<cells.length
     ·rw[if_pos h3,if_pos (by omega)];simp
     ·rw[if_neg h3,if_neg (by omega),List.getElem?_eq_none (by omega)]
    ·rw[if_neg h2,if_neg (by omega)]
theorem d0b (vs:List Value):∀ (off k:Nat) (cs:Array Value),((vs.zipIdx k).foldl (fun cs (x:Value × Nat)=>cs.setIfInBounds (off+x.2) x.1) cs).toList=YW cs.toList (off+k) vs:=by
 induction vs with
 | nil=>intro off k cs;rfl
 | cons v vs ih=>
   intro off k cs
   simp only[List.zipIdx_cons,List.foldl_cons,ih,YW,Array.toList_setIfInBounds]
   rfl
theorem m0c {place:Nat→Option (Nat × Nat)} {places:List (Nat × Nat)} (hp:∀ i,place i=places[i]?):∀ (parts:List (Nat × Value)) (cells:Array Value) (l:List Value),d5a places cells.toList parts=some l→Instr.fill place cells parts=some l.toArray:=by
 intro parts
 induction parts with
 | nil=>intro cells l h;simp only[d5a,Option.some.injEq]at h;subst h;simp[Instr.fill]
 | cons p rest ih=>
   intro cells l h
   obtain ⟨i,v⟩:=p
   simp only[d5a]at h
   simp only[Instr.fill,hp]
   cases hpl:places[i]? with
   | none=>rw[hpl]at h;cases h
   | some x=>
     obtain ⟨off,size⟩:=x
     rw[hpl]at h
     simp only at h ⊢
     split at h
     ·rename_i hc
      rw[if_neg (by simp only[Array.length_toList]at hc;simp[hc.1];omega)]
      refine ih _ l ?_
      rw[← h]
      congr 1
      have:=d0b v.cells.toList off 0 cells
      simp only[Nat.add_zero]at this
      rw[← this]
      congr 1
      rw[← Array.foldl_toList,Array.toList_zipIdx]
     ·cases h
def b2a (P:Program) (t:TypeId):Option (List (Nat × Nat) × List Value):=
 match P.info? t,P.underlying t with
 | some it,some (.struct fields)=>
   match it.zero,fields.toList.mapM (fun f=>(P.info? f.type).map fun i=>(f.offset,i.size)) with
   | some z,some places=>if z.cells.toList.all Yw then some (places,z.cells.toList) else none
   | _,_=>none
 | _,_=>none
theorem k0a {t:TypeId} {pl:List (Nat × Nat)} {zs l:List Value} {parts:List (Nat × Value)} (hp:b2a P t=some (pl,zs)) (hf:d5a pl zs parts=some l):Xj P t parts=some (.agg l.toArray):=by
 unfold b2a at hp
 split at hp
 ·rename_i it fields e1 e2
  split at hp
  ·rename_i z places e3 e4
   split at hp
   ·rename_i hz
    cases hp
    have hzf:t4a P t=true:=by simp[t4a,e1,e3];simpa using hz
    have hb:P.built t parts=some l.toArray:=by
     simp only[Program.built,e1,e2,e3,e4]
     exact m0c (fun i=>by simp) parts z.cells l hf
    simp[Xj,hzf,hb]
   ·cases hp
  ·cases hp
 ·cases hp
def l4a (P:Program) (t:TypeId):Option (Nat × List Value):=
 match P.underlying t with
 | some (.slice e)=>
   match P.info? e with
   | some i=>
     match i.zero with
     | some z=>if 0<i.size∧z.cells.toList.all Yw=true then some (i.size,z.cells.toList) else none
     | none=>none
   | none=>none
 | _=>none
def m9a (k:Nat):List Value→List (Nat × Value)
 | []=>[]
 | v :: vs=>(k,v) :: m9a (k+1) vs
theorem l0c {z:Nat}:∀ (vs:List Value) (k:Nat) (cells:Array Value),(∀ v∈vs,v.cells.size=z)→(k+vs.length)*z≤cells.size →
 Instr.fill (fun i=>some (i*z,z)) cells (m9a k vs)=some (YW cells.toList (k*z) (vs.flatMap fun v=>v.cells.toList)).toArray:=by
 intro vs
 induction vs with
 | nil=>intro k cells _ _;simp[m9a,Instr.fill,YW]
 | cons v vs ih=>
   intro k cells hz hl
   have hv:=hz v (by simp)
   simp only[List.length_cons]at hl
   have h1:(k+1)*z≤(k+(vs.length+1))*z:=Nat.mul_le_mul_right _ (by omega)
   rw[Nat.succ_mul]at h1
   simp only[m9a,Instr.fill]
   rw[if_neg (by simp[hv];omega)]
   have hf:(v.cells.zipIdx.foldl (fun cs (x:Value × Nat)=>cs.setIfInBounds (k*z+x.2) x.1) cells).toList=YW cells.toList (k*z) v.cells.toList:=by
    have:=d0b v.cells.toList (k*z) 0 cells
    simp only[Nat.add_zero]at this
    rw[← this,← Array.foldl_toList,Array.toList_zipIdx]
   rw[ih (k+1) _ (fun u hu=>hz u (by simp[hu])) (by
    have hs:(v.cells.zipIdx.foldl (fun cs (x:Value × Nat)=>cs.setIfInBounds (k*z+x.2) x.1) cells).size=cells.size:=by
     rw[← Array.length_toList,hf,U2a,Array.length_toList]
    rw[hs]
    rw[show k+1+vs.length=k+(vs.length+1) by omega];exact hl),hf]
   congr 2
   have sa:∀ (a b:List Value) (cs:List Value) (o:Nat),YW cs o (a++b)=YW (YW cs o a) (o+a.length) b:=by
    intro a
    induction a with
    | nil=>intro b cs o;simp[YW]
    | cons x a iha=>intro b cs o;simp only[List.cons_append,YW,iha,List.length_cons];congr 1;omega
   rw[List.flatMap_cons,sa,Array.length_toList,hv,Nat.succ_mul]
theorem L2a {t:TypeId} {z:Nat} {zs vs:List Value} {h:DHeap} (hT:l4a P t=some (z,zs)) (h0:0<vs.length) (hz:∀ v∈vs,v.cells.size=z) (hb:vs.length*z≤2 ^ 24) :
 c0a P t vs.length (m9a 0 vs) h=some (.slice (some ⟨h.next,0,none⟩) vs.length vs.length,h.push (.row (vs.flatMap fun v=>v.cells.toList) z false)):=by
 unfold l4a at hT
 split at hT
 ·rename_i e e1
  split at hT
  ·rename_i i e2
   split at hT
   ·rename_i zv e3
    split at hT
    ·rename_i hc
     simp only[Option.some.injEq,Prod.mk.injEq]at hT
     obtain ⟨rfl,rfl⟩:=hT
     have hrz:(i0a zv.cells (vs.length*i.size)).size=vs.length*i.size:=by simp[i0a]
     have hf:=l0c (z:=i.size) vs 0 (i0a zv.cells (vs.length*i.size)) hz (by rw[hrz];simp)
     have hlen:∀ us:List Value,(∀ v∈us,v.cells.size=i.size)→(us.flatMap fun v=>v.cells.toList).length=us.length*i.size:=by
      intro us
      induction us with
      | nil=>intro _;simp
      | cons u us ih=>intro hu;simp only[List.flatMap_cons,List.length_append,Array.length_toList,hu u (by simp),ih (fun v hv=>hu v (by simp[hv])),List.length_cons,Nat.succ_mul];omega
     have hset:YW (i0a zv.cells (vs.length*i.size)).toList (0*i.size) (vs.flatMap fun v=>v.cells.toList)=vs.flatMap fun v=>v.cells.toList:=by
      refine List.ext_getElem? fun j=>?_
      have hrl:(i0a zv.cells (vs.length*i.size)).toList.length=vs.length*i.size:=by simp[i0a]
      rw[N3a,hlen vs hz,hrl]
      simp only[Nat.zero_mul,Nat.zero_le,true_and,Nat.zero_add,Nat.sub_zero,and_self]
      split
      ·rfl
      ·rw[List.getElem?_eq_none (by rw[hrl];omega),List.getElem?_eq_none (by rw[hlen vs hz];omega)]
     rw[hset]at hf
     simp only[c0a,e1,e2,e3]
     rw[if_neg (by omega),if_pos ⟨h0,hc.1,hb,hc.2⟩]
     simp only[hf]
     rw[if_pos (by simp[hlen vs hz])]
    ·cases hT
   ·cases hT
  ·cases hT
 ·cases hT
theorem m2b {t:TypeId} {z:Nat} {zs:List Value} {h:DHeap} (hT:l4a P t=some (z,zs)):c0a P t 0 [] h=some (.slice (some ⟨h.next,0,none⟩) 0 0,h.push (.row [] z false)):=by
 unfold l4a at hT
 split at hT
 ·rename_i e e1
  split at hT
  ·rename_i i e2
   split at hT
   ·rename_i zv e3
    split at hT
    ·rename_i hc
     simp only[Option.some.injEq,Prod.mk.injEq]at hT
     obtain ⟨rfl,rfl⟩:=hT
     simp[c0a,e1,e2,e3,hc.1]
    ·cases hT
   ·cases hT
  ·cases hT
 ·cases hT
theorem o7a {t:TypeId} {z:Nat} {zs:List Value} {h:DHeap} {a:Value} (hT:l4a P t=some (z,zs)) (ha:a.cells.size=z) (hb:z≤2 ^ 24) :
 c0a P t 1 [(0,a)] h=some (.slice (some ⟨h.next,0,none⟩) 1 1,h.push (.row a.cells.toList z false)):=by
 have:=L2a (h:=h) (vs:=[a]) hT (by simp) (by simpa using ha) (by simpa using hb)
 simpa [m9a] using this
theorem n2b {t:TypeId} {z:Nat} {zs:List Value} {h:DHeap} {a b:Value} (hT:l4a P t=some (z,zs)) (ha:a.cells.size=z) (hb':b.cells.size=z) (hb:2*z≤2 ^ 24) :
 c0a P t 2 [(0,a),(1,b)] h=some (.slice (some ⟨h.next,0,none⟩) 2 2,h.push (.row (a.cells.toList++b.cells.toList) z false)):=by
 have:=L2a (h:=h) (vs:=[a,b]) hT (by simp) (by simp[ha,hb']) (by simpa using hb)
 simpa [m9a] using this
end Go.D
namespace Go.D
variable {P:Program} {nt:Nat}
theorem U2b (ops:Array Oper) (o:Oper) (fr:Fr) (h:DHeap) (r:DEnd) (h':DHeap):Ex P (ops.map YY) (YY o) fr h r h'=Ex P ops o fr h r h':=by
 unfold Ex
 rw[K1a,D3a]
theorem l4b (ops:Array Oper) (fr:Fr):A2a (ops.map YY) fr=A2a ops fr:=by
 have:∀ l:List Oper,(l.map YY).any=fun p=>l.any (fun o=>p (YY o)):=by
  intro l;funext p;rw[List.any_map];rfl
 unfold A2a
 funext t
 simp only[Array.toList_map,List.any_map]
 rfl
theorem j7b (ops:Array Oper) (tr:List TE) (i j:Nat):B7a P (ops.map YY) tr i j=B7a P ops tr i j:=by
 unfold B7a
 rw[Array.getElem?_map]
 generalize tr[i]? = x
 generalize tr[j]? = y
 cases ops[i]? with
 | none=>
   rcases x with _ | x
   ·rcases y with _ | y
    ·rfl
    ·cases y <;> rfl
   ·rcases y with _ | y
    ·cases x <;> rfl
    ·cases x <;> cases y <;> rfl
 | some o=>
   rcases x with _ | x
   ·rcases y with _ | y
    ·rfl
    ·cases y <;> rfl
   ·rcases y with _ | y
    ·cases x <;> rfl
    ·cases x <;> cases y <;> simp only[Option.map_some,U2b]
theorem Z5a (ops:Array Oper) (tr:List TE):∀ ps,q3a P (ops.map YY) tr ps=q3a P ops tr ps
 | []=>rfl
 | (i,j) :: ps=>by simp only[q3a,j7b,Z5a ops tr ps]
theorem I8a (ops:Array Oper) (b:List Nat) (p:Nat) (fin:List TE→Prop):∀ (l:List Oper) (k:Nat) (fr:Fr) (h:DHeap) (tr:List TE),u4a P (ops.map YY) b p fin (l.map YY) k fr h tr=u4a P ops b p fin l k fr h tr
 | [],_,_,_,_=>rfl
 | o :: l,k,fr,h,tr=>by
   simp only[List.map_cons,u4a,U2b]
   have ih:=I8a ops b p fin l
   simp only[ih]
   rfl
theorem H8a (ops:Array Oper) (b:List Nat) (ps:List (Nat × Nat)) (fr0:Fr) (Q:Zv→St→Prop):∀ (l:List Oper) (k:Nat) (s:St) (tr:List TE),
 XV P (ops.map YY) b ps fr0 Q (l.map YY) k s tr=XV P ops b ps fr0 Q l k s tr
 | [],_,_,_=>by simp only[List.map_nil,XV,Z5a]
 | o :: l,k,s,tr=>by
   have ih:=H8a ops b ps fr0 Q l
   simp only[List.map_cons,XV,K1a,D3a,Z5a,l4b,I8a,ih]
   rfl
def W6b (P:Program) (ops:Array Oper) (b:List Nat) (ps:List (Nat × Nat)) (fr0:Fr) (Q:Zv→St→Prop) (o:Oper) (rest:List Oper) (k:Nat) (s:St) (tr:List TE) (v:Value) (h':DHeap):Prop:=
 XZ P o.op=true∧u4a P ops b k (fun tr=>q3a P ops tr ps∧Q (.pan v) ⟨A2a ops fr0,s.df,h',s.rd⟩) rest (k+1) s.fr s.h (tr++[.no])
def DCl (P:Program) (ops:Array Oper) (b:List Nat) (ps:List (Nat × Nat)) (fr0:Fr) (Q:Zv→St→Prop) (o:Oper) (rest:List Oper) (k:Nat) (s:St) (tr:List TE) (f:FuncId) (args:List Value) (h1:DHeap):Prop:=
 ∃ r h',DC P f args h1 r h'∧match r with
  | .ret v=>XV P ops b ps fr0 Q rest (k+1) ⟨s.fr.put o.dst v,s.df,h',s.rd⟩ (tr++[u0a o s.fr s.h v h'])
  | .pan v=>W6b P ops b ps fr0 Q o rest k s tr v h'
def DNx (P:Program) (ops:Array Oper) (b:List Nat) (ps:List (Nat × Nat)) (fr0:Fr) (Q:Zv→St→Prop) (o:Oper) (rest:List Oper) (k:Nat) (s:St) (tr:List TE) (x:DR):Prop:=
 match x with
 | .ok (.value v) h=>XV P ops b ps fr0 Q rest (k+1) ⟨s.fr.put o.dst v,s.df,h,s.rd⟩ (tr++[u0a o s.fr s.h v h])
 | .ok .skip h=>XV P ops b ps fr0 Q rest (k+1) ⟨s.fr.put o.dst undef,s.df,h,s.rd⟩ (tr++[u0a o s.fr s.h undef h])
 | .ok (.enter f args) h1=>DCl P ops b ps fr0 Q o rest k s tr f args h1
 | .ok (.round l z t a bd) h1=>∃ r h',DRd P l z t a bd h1 r h'∧match r with
   | .ret v=>XV P ops b ps fr0 Q rest (k+1) ⟨s.fr.put o.dst v,s.df,h',s.rd⟩ (tr++[u0a o s.fr s.h v h'])
   | .pan v=>W6b P ops b ps fr0 Q o rest k s tr v h'
 | .pan v h'=>W6b P ops b ps fr0 Q o rest k s tr v h'
 | _=>False
def X6b (P:Program) (ops:Array Oper) (b:List Nat) (ps:List (Nat × Nat)) (fr0:Fr) (Q:Zv→St→Prop) (o:Oper) (rest:List Oper) (k:Nat) (s:St) (tr:List TE) (w:Option Bool):Prop:=
 match w with
 | none=>False
 | some false=>XV P ops b ps fr0 Q rest (k+1) ⟨s.fr.put o.dst undef,s.df,s.h,s.rd⟩ (tr++[u0a o s.fr s.h undef s.h])
 | some true=>DNx P ops b ps fr0 Q o rest k s tr (dOp P (ZJ s.h.ng s.fr) o s.h)
section
variable (ops:Array Oper) (b:List Nat) (ps:List (Nat × Nat)) (fr0:Fr) (Q:Zv→St→Prop) (o:Oper) (rest:List Oper) (k:Nat) (s:St) (tr:List TE)
theorem Y8b:XV P ops b ps fr0 Q [] k s tr=(q3a P ops tr ps∧Q .normal s):=rfl
theorem i7b:XV P ops b ps fr0 Q (o :: rest) k s tr=X6b P ops b ps fr0 Q o rest k s tr (ZK ops s.fr o):=by
 simp only[XV,X6b]
 rfl
theorem Y6b:X6b P ops b ps fr0 Q o rest k s tr (some false)=XV P ops b ps fr0 Q rest (k+1) ⟨s.fr.put o.dst undef,s.df,s.h,s.rd⟩ (tr++[u0a o s.fr s.h undef s.h]):=rfl
theorem O8b:X6b P ops b ps fr0 Q o rest k s tr (some true)=DNx P ops b ps fr0 Q o rest k s tr (dOp P (ZJ s.h.ng s.fr) o s.h):=rfl
theorem N8b (v:Value) (h:DHeap):DNx P ops b ps fr0 Q o rest k s tr (.ok (.value v) h)=XV P ops b ps fr0 Q rest (k+1) ⟨s.fr.put o.dst v,s.df,h,s.rd⟩ (tr++[u0a o s.fr s.h v h]):=rfl
theorem L1c (h:DHeap):DNx P ops b ps fr0 Q o rest k s tr (.ok .skip h)=XV P ops b ps fr0 Q rest (k+1) ⟨s.fr.put o.dst undef,s.df,h,s.rd⟩ (tr++[u0a o s.fr s.h undef h]):=rfl
theorem M8b (f:FuncId) (args:List Value) (h:DHeap):DNx P ops b ps fr0 Q o rest k s tr (.ok (.enter f args) h)=DCl P ops b ps fr0 Q o rest k s tr f args h:=rfl
theorem B1a:q3a P ops tr []=True:=rfl
end
theorem L7b {ops:Array Oper} {b:List Nat} {ps:List (Nat × Nat)} {fr0:Fr} {Q:Zv→St→Prop} {o:Oper} {rest:List Oper} {k:Nat} {s:St} {tr:List TE} {f:FuncId} {args:List Value} {h1 h':DHeap} {v:Value}
 (hc:DC P f args h1 (.ret v) h') (hx:XV P ops b ps fr0 Q rest (k+1) ⟨s.fr.put o.dst v,s.df,h',s.rd⟩ (tr++[u0a o s.fr s.h v h'])):DCl P ops b ps fr0 Q o rest k s tr f args h1:=⟨_,_,hc,hx⟩
def Y5d (o:Oper) (fr:Fr) (h:DHeap) (v:Value) (h':DHeap):TE:=u0a o fr h v h'
def Ld (P:Program) (ops:Array Oper) (o:Oper) (fr:Fr) (h:DHeap) (v:Value):Prop:=Ex P ops o fr h (.ret v) h
theorem V5b {ops:Array Oper} {tr:List TE} {i j:Nat} {o:Oper} {fr:Fr} {v:Value} {h h':DHeap} (h1:ops[i]? = some o) (h2:tr[i]? = some (.ld fr v)) (h3:tr[j]? = some (.big h h'))
 (hx:Ld P ops o fr (if j<i then h else h') v):B7a P ops tr i j:=by
 unfold B7a
 rw[h1,h2,h3]
 exact hx
theorem t4c {ops:Array Oper} {dst:Option Tmp} {t:TypeId} {a:Operand} {ty:TypeId} {pos:String} {aft:Array Edge} {gd:Option (Nat × Bool)} {fr:Fr} {h:DHeap} {v p:Value} (hw:ZK ops fr ⟨dst,.load t a,ty,pos,aft,gd⟩=some true)
 (ha:ZJ h.ng fr a=some p) (hl:XQ P t p h=some v):Ld P ops ⟨dst,.load t a,ty,pos,aft,gd⟩ fr h v:=by
 unfold Ld Ex
 rw[hw]
 simp only[C1b,ha,Q8a,hl,x4b,and_self]
theorem NC.draw {id:Nat} {ops:Array Oper} {l:List Oper} {b:List Nat} {ps:List (Nat × Nat)} {Q:Zv→St→Prop} {s:St} (hmix:P.follows .mixedOrders=true) (hd:F0a nt ops=true) (hok:W3b P ops=true)
 (hb:Xy ops.toList []=b) (hps:o4a P ops=ps) (hl:ops.map YY=l.toArray) (h:XV P l.toArray b ps s.fr Q l 0 s []):NC P nt (.region id ops true) Q s:=by
 refine .of_XC (g6c hmix hd hok hb hps ?_)
 have h2:ops.toList.map YY=l:=by
  have:=congrArg Array.toList hl
  simpa using this
 rw[← hl,← h2,H8a]at h
 exact h
attribute [go_sem] Y8b i7b Y6b O8b N8b L1c M8b B1a
end Go.D
namespace Go.D
variable {P:Program} {α:Type} {R:Rep α} {F:FRep α} {S S':Nat→Prop} {h h' h1 h2:DHeap} {v x:Value} {l k:List α} {t:TypeId} {b z:Nat} {ts:Array TypeId}
theorem I7a {v x:Value} {new:List Value} (hT:M2a P ts=some (z,b)) (hx:D.lenV x=some 0) (hs:I0a z 0 x h=some new) (h1:new.all Value.oneCell'=true) (hv:∃ a n c,v=.slice a n c):s0a P ts v x h=some (v,h):=by
 obtain ⟨a,n,c,rfl⟩:=hv
 unfold M2a at hT
 split at hT
 ·cases hT
 ·rename_i st e0
  split at hT
  ·rename_i e ee
   split at hT
   ·rename_i inf ei
    split at hT
    ·rename_i zv ez
     split at hT
     ·rename_i hc
      simp only[Option.some.injEq,Prod.mk.injEq]at hT
      have e1':I0a inf.size 0 x h=some new:=by rw[hT.1];exact hs
      simp only[s0a,e0,ee,ei,hx,hc.1,hc.2.1,and_self,if_true,e1',ez]
      rw[if_neg (by rw[h1];simp[hc.2.2])]
     ·cases hT
    ·cases hT
   ·cases hT
  ·cases hT
abbrev Arg (R:Rep α) (h:DHeap) (v:Value) (l:List α):Prop:=Sl R (fun i=>i<h.next) h v l
theorem Sl.ext (a:Sl R (fun i=>i<h.next) h v l) (e:Ext h h1):Arg R h1 v l:=a.mono fun i hi=>⟨Nat.lt_of_lt_of_le hi e.next,e.get i hi⟩
theorem Sl.keep (a:Sl R S h v l) (e:∀ i,S i→h1.get i=h.get i):Sl R S h1 v l:=a.mono fun i hi=>⟨hi,e i hi⟩
theorem Sl.ext' (a:Sl R S h v l) (hS:∀ i,S i→i<h.next) (e:Ext h h1):Sl R S h1 v l:=a.keep fun i hi=>e.get i (hS i hi)
theorem Ext.push1 (h:DHeap) (o:DObj):Ext h (h.push o):=(Ext.refl h).push o
theorem Ext.hstep (e:Ext h h1):HStep h h1:=⟨e.next,e.ng⟩
theorem F3c (F:FRep α) (h:DHeap) (l:List α):HStep h (lh F h l):=(l0b F h l).hstep
theorem Sl.cells1 (a:Sl R S h v l):v.cells=#[v]:=by
 obtain ⟨_,_,rfl⟩:=a.isSlice
 rfl
theorem Sl.nos (a:Sl R NoS h v l):v=.slice none 0 0∧l=[]:=by
 rcases a with a | ⟨id,o,cap,cells,esz,ro,rfl,b,_⟩
 ·exact a
 ·exact b.elim
structure Made (F:FRep α) (h h1:DHeap) (v:Value) (l:List α):Prop where
 ext:Ext h h1
 own:∃ w,Owns F.rep NoS h1 v l w∧(∀ i,w=some i→h.next≤i)
theorem Made.nil (F:FRep α) (e:Ext h h1):Made F h h1 (.slice none 0 0) []:=⟨e,none,Owns.nil _ _ _,by simp⟩
theorem Made.sl (m:Made F h h1 v l):Sl F.rep (fun i=>h.next≤i∧i<h1.next) h1 v l:=by
 obtain ⟨w,a,b⟩:=m.own
 have hlt:=a.lt
 exact a.sl.mono fun i hi=>⟨by
  rcases hi with hi | hi
  ·exact hi.elim
  ·exact ⟨b i hi,hlt i hi⟩,rfl⟩
theorem Made.arg (m:Made F h h1 v l):Arg F.rep h1 v l:=m.sl.mono fun _ hi=>⟨hi.2,rfl⟩
theorem Made.ok (m:Made F h h1 v l):∀ x∈l,F.ok x:=m.sl.ok
theorem Made.on (m:Made F h h1 v l) (e:Ext h1 h2):Made F h h2 v l:=by
 obtain ⟨w,a,b⟩:=m.own
 exact ⟨m.ext.trans e,w,a.mono e.next (fun i hi=>e.get i (a.lt i hi)) (fun i hi=>hi.elim),b⟩
theorem Made.append (m:Made F h h1 v l) (hT:M2a P ts=some (F.z,b)) (hs:Sl F.rep S h1 x k) (hlen:l.length+k.length≤4294967296) (hb:b≤32768) :
 ∃ v' h2,s0a P ts v x h1=some (v',h2)∧Made F h h2 v' (l++k)∧(k=[]→v'=v∧h2=h1):=by
 obtain ⟨w,a,b1⟩:=m.own
 obtain ⟨new,e1,e2⟩:=hs.src
 have hp:(l.length+k.length)*b≤4294967296*32768:=Nat.mul_le_mul hlen hb
 have e2':Els F.rep NoS h1 new k:=Els.flat.2 (Els.flat.1 e2)
 obtain ⟨v',h2,w',e3,g,o,hw⟩:=a.append (k:=k) hT (fun i hi=>hi.elim) hs.lenV e1 e2' (by omega) (by omega)
 refine ⟨v',h2,e3,⟨⟨Nat.le_trans m.ext.next g.next,g.ng.trans m.ext.ng,fun i hi=>?_⟩,w',o,?_⟩,fun hk=>?_⟩
 ·rw[g.get i (Nat.lt_of_lt_of_le hi m.ext.next) (fun hw=>absurd (b1 i hw) (by omega)),m.ext.get i hi]
 ·intro i hi
  rcases hw with ⟨_,hw,_⟩ | ⟨hw,_⟩
  ·exact b1 i (hw▸hi)
  ·rw[hw]at hi;cases hi;exact m.ext.next
 ·subst hk
  have hv:∃ a n c,v=.slice a n c:=by
   rcases a with ⟨hv,_⟩ | ⟨_,⟨x,hv⟩,_⟩ | ⟨id,_,_,hv,_⟩ <;> exact ⟨_,_,_,hv⟩
  have:=I7a hT hs.lenV e1 e2'.one hv
  rw[this]at e3
  cases e3
  exact ⟨rfl,rfl⟩
theorem Made.snoc (m:Made F h h1 v l) (hT:M2a P ts=some (F.z,b)) {y:α} {cs:List Value} (hc:cs=F.enc y) (hz:F.z=z) (hy:F.ok y) (hlen:l.length+1≤4294967296) (hb:b≤32768) :
 ∃ v' h2,s0a P ts v (.slice (some ⟨h1.next,0,none⟩) 1 1) (h1.push (.row cs z false))=some (v',h2)∧Made F h h2 v' (l++[y]):=by
 subst hc;subst hz
 obtain ⟨v',h2,e1,e2,_⟩:=(m.on (Ext.push1 h1 (.row (F.enc y) F.z false))).append (k:=[y]) (S:=fun _=>True) (x:=.slice (some ⟨h1.next,0,none⟩) 1 1) hT (.inr ⟨h1.next,0,1,F.enc y,F.z,false,rfl,trivial,Zz _ _,.inr rfl,(by simp[F.len];exact Nat.le_refl _),(by
  refine Els.flat.2 ⟨?_,by simpa using hy⟩
  have:([y]:List α).length*F.rep.z=(F.enc y).length:=by rw[F.len];simp;rfl
  rw[this];simp)⟩) (by simpa using hlen) hb
 exact ⟨v',h2,e1,e2⟩
theorem Made.nonnil (m:Made F h h1 v l) (hl:l≠[]):∃ w,Owns F.rep NoS h1 v l (some w)∧h.next≤w:=by
 obtain ⟨w,a,b⟩:=m.own
 rcases a with ⟨_,h0,_⟩ | ⟨_,_,a⟩ | ⟨id,cap,cells,rfl,rfl,hh⟩
 ·exact absurd h0 hl
 ·exact absurd a.nos.2 hl
 ·exact ⟨id,.inr (.inr ⟨id,cap,cells,rfl,rfl,hh⟩),b id rfl⟩
theorem Ct.made {f:FuncId} {args:List Value} (c:Ct P f args h fun r1 h1=>∃ v1,r1=.ret v1∧Made F h h1 v1 l∧(l=[]→v1=.slice none 0 0)):DC P f args h (.ret (lv h l)) (lh F h l):=by
 refine c.canon (F3c F h l) fun r1 h1 ⟨v1,e,m,hn⟩=>?_
 subst e
 by_cases hl:l=[]
 ·rw[hn hl]
  subst hl
  exact ⟨_,Seen.pure m.ext .snil⟩
 ·obtain ⟨w,a,b⟩:=m.nonnil hl
  exact Seen.list m.ext a (fun i hi=>by cases hi;exact b) (fun h0=>absurd h0 hl) (fun h0=>by cases h0)
theorem k8c (F:FRep α) (h:DHeap) {l:List α} (hok:∀ x∈l,F.ok x):Made F h (lh F h l) (lv h l) l:=by
 refine ⟨l0b F h l,?_⟩
 unfold lh lv
 split
 ·rename_i he
  have:l=[]:=by simpa using he
  subst this
  exact ⟨none,Owns.nil _ _ _,by simp⟩
 ·exact ⟨_,x0b hok,fun i hi=>by cases hi;exact Nat.le_refl _⟩
theorem g1c (F:FRep α) (h:DHeap) {l:List α} (hok:∀ x∈l,F.ok x):Made F h (h.push (w0b F l)) (mkS h l.length) l:=⟨Ext.push1 _ _,_,x0b hok,fun i hi=>by cases hi;exact Nat.le_refl _⟩
theorem Made.one (e:Ext h h1) {y:α} {cs:List Value} (hc:cs=F.enc y) (hz:F.z=z) (hy:F.ok y):Made F h (h1.push (.row cs z false)) (.slice (some ⟨h1.next,0,none⟩) 1 1) [y]:=by
 subst hc;subst hz
 refine ⟨e.push _,some h1.next,.inr (.inr ⟨h1.next,1,F.enc y,rfl,rfl,Nat.lt_succ_self _,Zz _ _,?_,?_⟩),fun i hi=>by cases hi;exact e.next⟩
 ·simp[F.len];exact Nat.le_refl _
 ·refine Els.flat.2 ⟨?_,by simpa using hy⟩
  have:([y]:List α).length*F.rep.z=(F.enc y).length:=by rw[F.len];simp;rfl
  rw[this];simp
structure Grown (F:FRep α) (h h1:DHeap) (v:Value) (l:List α):Prop where
 ext:Ext h h1
 own:∃ w,Owns F.rep (fun i=>i<h.next) h1 v l w∧(∀ i,w=some i→h.next≤i)
theorem Made.grown (m:Made F h h1 v l):Grown F h h1 v l:=by
 obtain ⟨w,a,b⟩:=m.own
 exact ⟨m.ext,w,a.flatS (fun i hi=>hi.elim),b⟩
theorem Grown.arg (m:Grown F h h1 v l):Arg F.rep h1 v l:=by
 obtain ⟨w,a,b⟩:=m.own
 have hlt:=a.lt
 exact a.sl.mono fun i hi=>⟨by
  rcases hi with hi | hi
  ·exact Nat.lt_of_lt_of_le hi m.ext.next
  ·exact hlt i hi,rfl⟩
theorem Grown.ok (m:Grown F h h1 v l):∀ x∈l,F.ok x:=m.arg.ok
theorem Grown.on (m:Grown F h h1 v l) (e:Ext h1 h2):Grown F h h2 v l:=by
 obtain ⟨w,a,b⟩:=m.own
 exact ⟨m.ext.trans e,w,a.mono e.next (fun i hi=>e.get i (a.lt i hi)) (fun i hi=>⟨hi,e.get i (Nat.lt_of_lt_of_le hi m.ext.next)⟩),b⟩
theorem Grown.append (m:Grown F h h1 v l) (hT:M2a P ts=some (F.z,b)) (hs:Sl F.rep S h1 x k) (hlen:l.length+k.length≤4294967296) (hb:b≤32768) :
 ∃ v' h2,s0a P ts v x h1=some (v',h2)∧Grown F h h2 v' (l++k)∧(k=[]→v'=v∧h2=h1)∧(k≠[]→Made F h h2 v' (l++k)):=by
 obtain ⟨w,a,b1⟩:=m.own
 obtain ⟨new,e1,e2⟩:=hs.src
 have hp:(l.length+k.length)*b≤4294967296*32768:=Nat.mul_le_mul hlen hb
 have e2':Els F.rep (fun i=>i<h.next) h1 new k:=Els.flat.2 (Els.flat.1 e2)
 obtain ⟨v',h2,w',e3,g,o,hw⟩:=a.append (k:=k) hT (fun i hi=>⟨Nat.lt_of_lt_of_le hi m.ext.next,fun hw=>absurd (b1 i hw) (by omega)⟩) hs.lenV e1 e2' (by omega) (by omega)
 have hE:Ext h h2:=⟨Nat.le_trans m.ext.next g.next,g.ng.trans m.ext.ng,fun i hi=>by
  rw[g.get i (Nat.lt_of_lt_of_le hi m.ext.next) (fun hw=>absurd (b1 i hw) (by omega)),m.ext.get i hi]⟩
 refine ⟨v',h2,e3,⟨hE,w',o,?_⟩,fun hk=>?_,fun hk=>?_⟩
 ·intro i hi
  rcases hw with ⟨_,hw,_⟩ | ⟨hw,_⟩
  ·exact b1 i (hw▸hi)
  ·rw[hw]at hi;cases hi;exact m.ext.next
 ·subst hk
  have hv:∃ a n c,v=.slice a n c:=by
   rcases a with ⟨hv,_⟩ | ⟨_,⟨x,hv⟩,_⟩ | ⟨id,_,_,hv,_⟩ <;> exact ⟨_,_,_,hv⟩
  have:=I7a hT hs.lenV e1 e2'.one hv
  rw[this]at e3
  cases e3
  exact ⟨rfl,rfl⟩
 ·rcases hw with ⟨hk0,_⟩ | ⟨hw,_⟩
  ·exact absurd hk0 hk
  ·subst hw
   exact ⟨hE,some h1.next,o.noS _,fun i hi=>by cases hi;exact m.ext.next⟩
def X5d:Value→Value
 | .slice (some a) _ _=>.slice (some a) 0 0
 | _=>.slice none 0 0
def N1a:Value→Bool
 | .slice none _ _=>true
 | _=>false
theorem g0a {β γ:Type} {s:Sem β} {f:β→Sem γ} {a:β} (hs:ZW P s=some (.inr a)):ZW P (s >>= f)=ZW P (f a):=by
 induction s with
 | pure b=>simp only[ZW,Option.some.injEq,Sum.inr.injEq]at hs;subst hs;rfl
 | program k ih=>exact ih P hs
 | mark m k ih=>exact ih hs
 | halt x=>cases x <;> simp[ZW]at hs
 | _=>simp[ZW]at hs
theorem A8b {e:TypeId} (e1:P.underlying t=some (.slice e)) (n:Nat):ZW P (Op.equalIn (n+1) t (.slice none 0 0) (.slice none 0 0))=some (.inr true):=by
 simp only[Op.equalIn,underlying,program,Bind.bind,Sem.bind,ZW,e1]
 rfl
theorem Sl.nilEq (a:Sl R S h v l) (ht:r2a P t=true) {ox oy:Operand} {h':DHeap}:ZV P .eql t ox oy v (.slice none 0 0) h'=.ok (.value (.bool (N1a v))) h':=by
 unfold r2a at ht
 split at ht
 ·rename_i e e1
  rcases a with ⟨rfl,rfl⟩ | ⟨id,o,cap,cells,esz,ro,rfl,_⟩
  ·have hq:ZW P (do eqGuard .eql t ox oy (.slice none 0 0) (.slice none 0 0);binOp .eql t (.slice none 0 0) (.slice none 0 0))=some (.inr (.bool true)):=by
    have h1:ZW P (eqGuard .eql t ox oy (.slice none 0 0) (.slice none 0 0))=some (.inr ()):=rfl
    rw[g0a h1]
    have h2:ZW P (Op.equal t (.slice none 0 0) (.slice none 0 0))=some (.inr true):=A8b e1 9999
    simp only[binOp]
    rw[g0a h2]
    rfl
   have hf:(Yk (.slice none 0 0))=true:=rfl
   simp only[ZV,hf,Bool.and_self,if_true,XX,hq,N1a]
   rfl
  ·have:(Yk (.slice (some ⟨id,o,none⟩) l.length cap))=false:=rfl
   simp[ZV,this,e1,D.nilEq,N1a]
 ·cases ht
theorem d3a (a:Sl R S h v l) (hn:N1a v=true):v=.slice none 0 0∧l=[]:=by
 rcases a with ⟨rfl,rfl⟩ | ⟨id,o,cap,cells,esz,ro,rfl,_⟩
 ·exact ⟨rfl,rfl⟩
 ·cases hn
def T3a (h:DHeap) (v:Value) (l:List α):Value:=if N1a v then .slice none 0 0 else mkS h l.length
def O2a (F:FRep α) (h:DHeap) (v:Value) (l:List α):DHeap:=if N1a v then h else h.push (w0b F l)
theorem l7b (F:FRep α) (h:DHeap) (v:Value) (l:List α):Ext h (O2a F h v l):=by
 unfold O2a;split
 ·exact .refl _
 ·exact Ext.push1 _ _
theorem M9a (ha:Sl F.rep S h' v l):Made F h (O2a F h v l) (T3a h v l) l:=by
 unfold O2a T3a
 split
 ·rename_i hn
  obtain ⟨_,rfl⟩:=d3a ha hn
  exact .nil F (.refl h)
 ·exact g1c F h ha.ok
theorem Ct.cloned {f:FuncId} {args:List Value} (ha:Arg F.rep h v l) (c:Ct P f args h fun r1 h1=>∃ v1,r1=.ret v1∧Made F h h1 v1 l∧N1a v1=N1a v):DC P f args h (.ret (T3a h v l)) (O2a F h v l):=by
 refine c.canon (l7b F h v l).hstep fun r1 h1 ⟨v1,e,m,hn⟩=>?_
 subst e
 unfold T3a O2a
 by_cases hv:N1a v=true
 ·rw[if_pos hv,if_pos hv]
  rw[hv]at hn
  rw[(d3a m.sl hn).1]
  exact ⟨_,Seen.pure m.ext .snil⟩
 ·rw[if_neg hv,if_neg hv]
  obtain ⟨w,a,b⟩:=m.own
  cases w with
  | none=>
    rcases a with ⟨rfl,_⟩ | ⟨_,_,a⟩ | ⟨id,_,_,_,hh,_⟩
    ·exact absurd hn.symm hv
    ·rw[a.nos.1]at hn;exact absurd hn.symm hv
    ·cases hh
  | some w=>exact Seen.list' m.ext a (b w rfl)
theorem Made.none0 (F:FRep α) (e:Ext h h1) (hz:F.z=z):Made F h (h1.push (.row [] z false)) (.slice (some ⟨h1.next,0,none⟩) 0 0) []:=by
 subst hz
 exact ⟨e.push _,some h1.next,.inr (.inr ⟨h1.next,0,[],rfl,rfl,Nat.lt_succ_self _,Zz _ _,by simp,by simp[Els]⟩),fun i hi=>by cases hi;exact e.next⟩
theorem Made.isNil_append (m:Made F h h1 v l) (hv:N1a v=false) (m2:Made F h h2 x (l++k)) (hk:k=[]→x=v):N1a x=false:=by
 by_cases h0:k=[]
 ·rw[hk h0];exact hv
 ·cases hn:N1a x with
  | false=>rfl
  | true=>
    have:=(d3a m2.sl hn).2
    exact absurd (List.append_eq_nil_iff.1 this).2 h0
theorem u1b (k:IntKind) (n:Int):(Value.int k n).cells=#[.int k n]:=rfl
theorem j4b (n:Nat):goInt n=.int .i64 n:=rfl
attribute [go_sem] List.nil_append List.append_nil List.cons_append decide_true decide_false eq_self List.getElem?_toArray List.getElem?_cons_succ List.getElem?_cons_zero Option.bind_some Bool.not_true Bool.not_false Bool.false_eq_true
attribute [go_sem] u1b j4b
end Go.D
namespace Go.D
variable {P:Program} {nt:Nat}
theorem p1b {o:Oper} {s:St} {r:DEnd} {h':DHeap} {K K':St→Prop} {Q Q':Zv→St→Prop} (hk:∀ s,K s→K' s) (hq:∀ e s,Q e s→Q' e s) (h:Xx o s r h' K Q):Xx o s r h' K' Q':=by
 cases r with
 | ret v=>exact hk _ h
 | pan v=>exact hq _ _ h
theorem P3a {o:Oper} {s:St} {x:DR} {K K':St→Prop} {Q Q':Zv→St→Prop} (hk:∀ s,K s→K' s) (hq:∀ e s,Q e s→Q' e s) (h:I5a P o s x K Q):I5a P o s x K' Q':=by
 cases x with
 | ok y h1=>
   cases y with
   | enter f args=>
     obtain ⟨R,a,b⟩:=h
     exact ⟨R,a,fun r h' hR=>p1b hk hq (b r h' hR)⟩
   | value v=>exact hk _ h
   | skip=>exact hk _ h
   | defer f as=>exact ⟨h.1,hk _ h.2⟩
   | round l z t a c=>
     obtain ⟨R,a,b⟩:=h
     exact ⟨R,a,fun r h' hR=>p1b hk hq (b r h' hR)⟩
   | recover=>exact h.elim
   | pick l=>exact fun p hp=>hk _ (h p hp)
 | pan v h1=>exact hq _ _ h
 | bad=>exact h.elim
theorem y7a {ops:Array Oper}:∀ (l:List Oper) (s:St) {Q Q':Zv→St→Prop},(∀ e s,Q e s→Q' e s)→Wk P ops l s Q→Wk P ops l s Q'
 | [],_,_,_,hq,h=>hq _ _ h
 | o :: l,s,Q,Q',hq,h=>by
   simp only[Wk]at h ⊢
   split at h
   ·exact h.elim
   ·exact y7a l _ hq h
   ·exact P3a (fun s hs=>y7a l s hq hs) hq h
theorem H6a {K K':St→Prop} {Q Q':Zv→St→Prop} (hk:∀ s,K s→K' s) (hq:∀ e s,Q e s→Q' e s):∀ e s,L0a K Q e s→L0a K' Q' e s:=by
 intro e s h
 cases e <;> first | exact hk _ h | exact hq _ _ h
theorem h3a:∀ (c:Code) (s:St) {Q Q':Zv→St→Prop},(∀ e s,Q e s→Q' e s)→xs P nt c Q s→xs P nt c Q' s
 | .skip,_,_,_,hq,h=>hq _ _ h
 | .label _,_,_,_,hq,h=>hq _ _ h
 | .exit _,_,_,_,hq,h=>hq _ _ h
 | .ret,_,_,_,hq,h=>hq _ _ h
 | .seq x y,s,Q,Q',hq,h=>h3a x s (H6a (fun s hs=>h3a y s hq hs) hq) h
 | .cond c x y,s,Q,Q',hq,h=>by
   simp only[xs]at h ⊢
   split at h
   ·exact ⟨fun ht=>h3a x s hq (h.1 ht),fun ht=>h3a y s hq (h.2 ht)⟩
   ·exact h.elim
 | .block id c,s,Q,Q',hq,h=>by
   refine h3a c s (fun e s' hh=>?_) h
   cases e with
   | exit i=>
     simp only[N0a]at hh ⊢
     split at hh
     ·rename_i hi;rw[if_pos hi];exact hq _ _ hh
     ·rename_i hi;rw[if_neg hi];exact hq _ _ hh
   | _=>exact hq _ _ hh
 | .region id ops draw,s,Q,Q',hq,h=>by
   cases draw
   ·exact y7a _ s hq h
   ·exact NC.mono h hq
 | .loop c,s,Q,Q',hq,h=>fun c0 hc=>NC.mono (h c0 hc) hq
 | .rangeFunc ..,_,_,_,hq,h=>NC.mono h hq
 | .scope _,_,_,_,hq,h=>NC.mono h hq
 | .goto _,_,_,_,hq,h=>NC.mono h hq
 | .refuse _,_,_,_,hq,h=>NC.mono h hq
theorem U5b {x y:Code} {K:St→Prop} {Q:Zv→St→Prop} {s:St} {t:Bool} (M:St→Prop) (h1:t=true→xs P nt x (L0a M Q) s) (h2:t=false→xs P nt y (L0a M Q) s) (h3:∀ s',M s'→K s') :
 XIf P nt x y (L0a K Q) s (some (.bool t)):=
 ⟨fun ht=>h3a x s (H6a h3 fun _ _ h=>h) (h1 ht),fun ht=>h3a y s (H6a h3 fun _ _ h=>h) (h2 ht)⟩
theorem m7a {id:Nat} {c:Code} {K:St→Prop} {Q:Zv→St→Prop} {s:St} (M:St→Prop) (h1:xs P nt c (N0a id (L0a M Q)) s) (h3:∀ s',M s'→K s'):xs P nt c (N0a id (L0a K Q)) s:=by
 refine h3a c s (fun e s' hh=>?_) h1
 cases e with
 | exit i=>
   simp only[N0a]at hh ⊢
   split at hh
   ·rename_i hi;rw[if_pos hi];exact h3 _ hh
   ·rename_i hi;rw[if_neg hi];exact hh
 | normal=>exact h3 _ hh
 | _=>exact hh
section
variable {α:Type} {R:Rep α} {F:FRep α} {S:Nat→Prop} {h:DHeap} {v:Value} {l:List α} {t:TypeId} {id o:Nat} {x:α}
theorem Sl.idx (a:Sl R S h v l) (hz:G0a P t=some R.z) {k:IntKind} {i:Nat} (hx:l[i]? = some x):∃ id o,ZQ P t v (.int k i)=some (.pointer (some ⟨id,o,none⟩))∧S id∧At R S h id o x:=
 a.indexAddr hz (by omega) (by simpa using hx)
theorem At.flat (a:At F.rep S h id o x):(∀ j,j<F.z→ZZ h id (o+j)=(F.enc x)[j]?)∧Zj h id o F.z=some (.agg (F.enc x).toArray)∧F.ok x:=by
 obtain ⟨cells,esz,ro,g,b,c,d⟩:=a
 refine ⟨fun j hj=>?_,?_,d⟩
 ·rw[Zy g,← c]
  rw[List.getElem?_take,if_pos (show j<F.rep.z from hj),List.getElem?_drop]
 ·have:=Zu (n:=F.z) g b
  rw[this,show (cells.drop o).take F.z=F.enc x from c]
theorem At.int {k:IntKind} {n:Int} (a:At (fI k).rep S h id o n):ZZ h id o=some (.int k n):=a.flat.1 0 (Nat.lt_succ_self 0)
theorem At.lt (a:At F.rep S h id o x):∃ y,h.get id=some y:=by
 obtain ⟨cells,esz,ro,g,_⟩:=a
 exact ⟨_,g⟩
end
theorem YZ {i n:Nat} (hi:i<n) (hn:n≤4611686018427387904):IntKind.i64.wrap ((i:Int)+1)=((i+1:Nat):Int):=by
 rw[A9a (by omega) (by omega)];rfl
end Go.D
namespace Go.D
variable {P:Program}
theorem Seen.purePan {h h1:DHeap} {v:Value} (e:Ext h h1) (hv:VIn (fun i=>i<h.next) v):Seen h (.pan v) h (.pan v) h1 (fun _=>none):=
 ⟨fun j i x=>(by cases x),fun j j' i x=>(by cases x),fun j i o1 x=>(by cases x),fun j hj=>.inl ⟨e.get j hj,rfl⟩,hv.ren fun i hi=>B6a hi⟩
theorem Ct.purePan {f:FuncId} {args:List Value} {h:DHeap} {v:Value} (c:Ct P f args h fun r h1=>r=.pan v∧Ext h h1) (hv:VIn (fun i=>i<h.next) v):DC P f args h (.pan v) h:=
 c.canon (.refl _) fun r1 h1 ⟨a,b⟩=>by subst a;exact ⟨_,.purePan b hv⟩
theorem F7b {fr:Fr} {h:DHeap}:p0a P [] fr h=some (.tuple #[]):=rfl
attribute [go_sem] F7b
theorem Y0a {S:Nat→Prop} (k1:IntKind) (a:Int):VIn S (.int k1 a):=.int _ _
theorem W0a {S:Nat→Prop} (b:Bool):VIn S (.bool b):=.bool _
theorem Yy (h:DHeap) (a b:Value):I2b h (some (.bool true)) (some a) (some b)=.ok (.value a) h:=rfl
theorem Yq (h:DHeap) (a b:Value):I2b h (some (.bool false)) (some a) (some b)=.ok (.value b) h:=rfl
theorem J8a (ops:Array Oper):∀ (l:List Oper) (s:St) (m:u1a) (K:St→u1a→Prop),K2a P (ops.map YY) (l.map YY) s m K=K2a P ops l s m K
 | [],_,_,_=>rfl
 | o :: l,s,m,K=>by
   simp only[List.map_cons,K2a,K1a,D3a]
   have ih:=J8a ops l
   simp only[ih]
   rfl
theorem R2b {f:FuncId} {fn:Func} {l:List Oper} {c:Code} {args:List Value} {h h':DHeap} {m m':u1a} {n:Nat} {rs:List ResultVar} (hf:P.funcs[f]? = some fn) (hb:fn.body.map strip=some (.seq (.region 0 l.toArray false) c)) (hn:fn.ntmps=n)
 (hr:fn.results.toList=rs) (ha:args.length≤n) (hk:m0a n (.seq (.region 0 l.toArray false) c)=true) (hst:HStep h h')
 (hx:K2a P l.toArray l ⟨c2a args n,[],h,none⟩ m fun s1 m1=>m1=m'∧xs P n c (fun e s2=>(match e with | .normal | .ret=>True | _=>False)∧s2.df=[]∧(p0a P rs s2.fr s2.h).isSome=true∧s2.h=h') s1) :
 DCD P f args m h m' h':=by
 subst hn;subst hr
 cases hb0:fn.body with
 | none=>rw[hb0]at hb;cases hb
 | some c0=>
   rw[hb0]at hb
   simp only[Option.map_some,Option.some.injEq]at hb
   cases c0 with
   | seq x y=>
     simp only[strip,Code.seq.injEq]at hb
     obtain ⟨hx1,rfl⟩:=hb
     cases x with
     | region id ops dr=>
       cases dr with
       | true=>simp[strip]at hx1
       | false=>
         simp only[strip,Code.region.injEq,and_true,true_and]at hx1
         simp only[m0a,Bool.and_eq_true]at hk
         have hl:ops.toList.map YY=l:=by
          have:=congrArg Array.toList hx1
          simpa using this
         have hd:F0a fn.ntmps ops=true:=by
          have h0:m0a fn.ntmps (strip (.region id ops false))=true:=by
           show F0a fn.ntmps (ops.map YY)=true
           rw[hx1];exact hk.1
          rw[A0a]at h0
          exact h0
         rw[← hx1,← hl,J8a]at hx
         obtain ⟨s1,m1,⟨rfl,hc⟩,hh,hs⟩:=f5b hd ops.toList 0 _ m rfl hx
         have hnc:=w2a y _ s1 (by rw[← A0a];exact hk.2) hc
         refine ⟨hst,fun n ι w args' u s ha' hm=>?_⟩
         refine callsDIn_of_wpSIn hf hb0 trivial fun c₀ cs hu=>wpSIn_seq (wpSIn_region ?_)
         rw[List.range_eq_range']
         subst hu
         refine hs n ι { tmps:=args'++Array.replicate (fn.ntmps - args'.size) undef,defers:=[] } w c₀ cs _ ⟨H9a ha' ha,trivial,s,trivial⟩ hm fun ι1 a1 w1 u1 g1 g2 g3=>?_
         refine wpSIn_of_wpIn rfl (wpIn_mono (hnc n none ι1 a1 w1 g1) fun ex a2 w2 ⟨ι2,e,s2,⟨hex,hdf,hres,hh'⟩,k0,k1,k2,k3⟩=>?_)
         subst hh'
         obtain ⟨v,hv⟩:=Option.isSome_iff_exists.1 hres
         obtain ⟨v',hrun,hvr⟩:=S8a (fn:=fn) hv k2.sim k2.fr
         have hdef:a2.defers=[]:=by
          have:=k2.df
          rw[hdf]at this
          cases hdd:a2.defers with
          | nil=>rfl
          | cons d ds=>rw[hdd]at this;exact this.elim
         have fin:a2.defers=[]∧∃ u',({ c₀ with mode:=u1 } :: cs:List Frame)={ c₀ with mode:=u' } :: cs∧∃ v,(results fn a2.tmps).run P w2=.ok v w2∧(∃ ι' v1,Ending.returned v=.returned v1∧ModeRel ι' m1 u'∧Sim ι' s2.h w2∧Step ι ι' h s2.h w w2):=
          ⟨hdef,u1,rfl,v',hrun,ι2,v',rfl,g2.mono k3.le,k2.sim,g3.trans k3⟩
         cases e with
         | normal=>
           cases ex with
           | normal=>exact fin
           | _=>exact k1.elim
         | ret=>
           cases ex with
           | ret=>exact fin
           | _=>exact k1.elim
         | _=>exact hex.elim
     | _=>simp[strip]at hx1
   | region id ops dr=>cases dr <;> simp[strip]at hb
   | _=>simp[strip]at hb
theorem W2b {rs:List ResultVar} {fr:Fr} {R:DEnd→DHeap→Prop} {f:FuncId} {args:List Value} {ds:List j4a} {m m':u1a} {h h':DHeap} (hg:K0a P f=true) (hd:DCD P f args m h m' h') (hx:XLv P rs fr R ds (r4a m') h'):XLv P rs fr R (.fn f args :: ds) m h:=
 ⟨hg,m',h',hd,hx⟩
end Go.D
namespace Go.D
variable {P:Program} {h h':DHeap} {id z:Nat} {c v:Value} {ro:Bool}
theorem DHeap.ext' {a b:DHeap} (h1:∀ i,a.get i=b.get i) (h2:a.next=b.next) (h3:a.ng=b.ng):a=b:=by
 cases a;cases b
 simp only at h1 h2 h3
 subst h2;subst h3
 congr
 exact funext h1
theorem L1a (h:DHeap) (x y:DObj):(h.push x).set h.next y=h.push y:=by
 refine DHeap.ext' (fun i=>?_) rfl rfl
 simp only[DHeap.set,DHeap.push]
 split <;> rfl
theorem A3a {o:DObj} (hg:h.get id=some o):h.set id o=h:=by
 refine DHeap.ext' (fun i=>?_) rfl rfl
 simp only[DHeap.set]
 split
 ·rename_i hi;rw[hi,hg]
 ·rfl
theorem L2d (hg:h.get id=some (.row [c] z ro)):ZZ h id 0=some c:=by rw[Zy hg];rfl
theorem store1 (hg:h.get id=some (.row [c] z false)) (hv:v.oneCell'=true):storeAt h id 0 [v]=some (h.set id (.row [v] z false)):=by
 rw[b0a hg (Nat.le_refl _) (by simp[hv])]
 rfl
theorem k7b:ZZ (h.push (.row [c] z ro)) h.next 0=some c:=L2d (Zz _ _)
theorem N5b (hv:v.oneCell'=true):storeAt (h.push (.row [c] z false)) h.next 0 [v]=some (h.push (.row [v] z false)):=by
 rw[store1 (Zz _ _) hv,L1a]
section
variable {cs:List Value} {o n:Nat} {x y u w:DObj}
theorem E7a:ZZ (h.push (.row cs z ro)) h.next o=cs[o]?:=Zy (Zz _ _)
theorem B5a:((h.push x).push y).get h.next=some x:=by rw[ZX _ _ (by rw[l0a];omega),Zz]
theorem F7a:ZZ ((h.push (.row cs z ro)).push x) h.next o=cs[o]?:=Zy B5a
theorem G1a {vs:List Value} (hg:h.get id=some (.row cs z false)) (hl:vs.length=cs.length) (hv:vs.all Value.oneCell'=true):storeAt h id 0 vs=some (h.set id (.row vs z false)):=by
 rw[b0a hg (by omega) hv]
 have:YW cs 0 vs=vs:=by
  refine List.ext_getElem? fun i=>?_
  rw[N3a]
  by_cases hi:i<vs.length
  ·rw[if_pos (by omega)];rfl
  ·rw[if_neg (by omega),List.getElem?_eq_none (by omega),List.getElem?_eq_none (by omega)]
 rw[this]
theorem a0a {vs:List Value} (hl:vs.length=cs.length) (hv:vs.all Value.oneCell'=true):storeAt (h.push (.row cs z false)) h.next 0 vs=some (h.push (.row vs z false)):=by
 rw[G1a (Zz _ _) hl hv,L1a]
end
theorem built {α:Type} (F:FRep α) (K:DHeap) {cs:List Value} {l:List α} {n m zz:Nat} (hc:cs=l.flatMap F.enc) (hz:zz=F.z) (hn:n=l.length) (hok:∀ x∈l,F.ok x):Arg F.rep (K.push (.row cs zz false)) (.slice (some ⟨K.next,0,none⟩) n m) l:=by
 subst hz;subst hn;subst hc
 have hl:(l.flatMap F.enc).length=l.length*F.rep.z:=by
  have:∀ l:List α,(l.flatMap F.enc).length=l.length*F.rep.z:=by
   intro l
   induction l with
   | nil=>simp
   | cons x l ih=>rw[List.flatMap_cons,List.length_append,ih,F.len,List.length_cons,Nat.add_mul];show F.z+l.length*F.z=l.length*F.z+1*F.z;omega
  exact this l
 refine .inr ⟨K.next,0,m,_,F.z,false,rfl,Nat.lt_succ_self _,Zz _ _,.inr rfl,by rw[hl];omega,?_⟩
 rw[List.drop_zero,← hl,List.take_length]
 exact Els.flat.2 ⟨rfl,hok⟩
theorem Sl.lens {α:Type} {R:Rep α} {S:Nat→Prop} {l:List α} {ts:Array TypeId} {t:TypeId} (a:Sl R S h v l) (ht:ts[0]? = some t) (h1:r2a P t=true) (h':DHeap):Go.D.dLen P ts v h'=some (.int .i64 l.length):=by
 obtain ⟨x,c,rfl⟩:=a.isSlice
 exact (S9a ht h1).trans (by rw[j4b])
theorem n3b (b:Bool):I9a b (some undef)=some false:=rfl
attribute [go_sem] n3b
section
variable {nt:Nat} {ops:Array Oper} {o:Oper} {rest:List Oper} {s:St} {K:St→Prop} {Q:Zv→St→Prop}
end
def T9a (P:Program) (t:TypeId) (h:DHeap):Option Value→Option Value
 | some p=>XQ P t p h
 | none=>none
theorem D0a (t:TypeId) (p:Value):T9a P t h (some p)=XQ P t p h:=rfl
theorem N5a {fr:Fr} {t:Tmp}:w1a P fr h (.tmp t)=fr t:=rfl
theorem Z2a {fr:Fr} {t:Tmp} {ty:TypeId}:w1a P fr h (.cell t ty)=T9a P ty h (fr t):=by
 simp only[w1a,T9a] <;> (cases fr t <;> rfl)
theorem C1a {fr:Fr} {t:Tmp} {ty:TypeId}:p0a P [.cell t ty] fr h=T9a P ty h (fr t):=by
 simp only[p0a,X3a,Z2a]
 cases T9a P ty h (fr t) <;> rfl
theorem b6a {fr:Fr} {a b:ResultVar}:p0a P [a,b] fr h=h4c (w1a P fr h a) (w1a P fr h b):=by
 simp only[p0a,X3a]
 cases w1a P fr h a <;> cases w1a P fr h b <;> rfl
theorem u5b {fr:Fr} {a b c:ResultVar}:p0a P [a,b,c] fr h=i4c (w1a P fr h a) (w1a P fr h b) (w1a P fr h c):=by
 simp only[p0a,X3a]
 cases w1a P fr h a <;> cases w1a P fr h b <;> cases w1a P fr h c <;> rfl
theorem B2a {Q:Value→Prop} {x:Option Value} {v:Value} (e:x=some v) (h:Q v):∃ u,x=some u∧Q u:=⟨v,e,h⟩
end Go.D
namespace Go.D
variable {P:Program}
def J4a (P:Program) (t:TypeId):Option (List (TypeId × Nat)):=
 match P.underlying t with
 | some (.struct fs)=>if fs.toList.all (fun f=>f.name != "_")&&!P.stoodInHeld t then some (fs.toList.map fun f=>(f.type,f.offset)) else none
 | _=>none
def EqL (P:Program) (d:Nat) (xs ys:Array Value):List (TypeId × Nat)→Bool→Prop
 | [],b=>b=true
 | (t,o) :: r,b=>∃ a c b1 b2,ZW P (part t xs o)=some (.inr a)∧ZW P (part t ys o)=some (.inr c)∧ZW P (Op.equalIn d t a c)=some (.inr b1)∧EqL P d xs ys r b2∧b=(b1&&b2)
theorem d7a:ZW P program=some (.inr P):=rfl
theorem u2a {t:TypeId} {d:TypeDesc} (h:P.underlying t=some d):ZW P (underlying t)=some (.inr d):=by
 simp only[underlying,program,Bind.bind,Sem.bind,ZW,h]
 rfl
theorem D6a {d:Nat} {xs ys:Array Value}:∀ {fs:List Field} {b:Bool},(fs.all fun f=>f.name != "_")=true→EqL P d xs ys (fs.map fun f=>(f.type,f.offset)) b →
 ZW P (forIn fs ((none,()):Option Bool × Unit) (fun f _=>(do
  if f.name≠"_" then
   if !(← Op.equalIn d f.type (← part f.type xs f.offset) (← part f.type ys f.offset)) then
    pure (.done (some false,()))
   else pure (.yield (none,()))
  else pure (.yield (none,())):Sem (ForInStep ((Option Bool × Unit))))))=some (.inr (if b then (none,()) else (some false,())))
 | [],b,_,h=>by
   have hb:b=true:=h
   subst hb
   rfl
 | f :: fs,b,hn,h=>by
   obtain ⟨a,c,b1,b2,h1,h2,h3,h4,rfl⟩:=h
   simp only[List.all_cons,Bool.and_eq_true,bne_iff_ne,ne_eq]at hn
   rw[List.forIn_cons]
   have ih:=D6a (fs:=fs) (b:=b2) (by simpa using hn.2) h4
   have hstep:ZW P (do
    if f.name≠"_" then
     if !(← Op.equalIn d f.type (← part f.type xs f.offset) (← part f.type ys f.offset)) then
      pure (.done (some false,()))
     else pure (.yield (none,()))
    else pure (.yield (none,())):Sem (ForInStep ((Option Bool × Unit))))=some (.inr (if b1 then .yield (none,()) else .done (some false,()))):=by
    rw[if_pos hn.1,g0a h1,g0a h2,g0a h3]
    cases b1 <;> rfl
   rw[g0a hstep]
   cases b1
   ·rfl
   ·simp only[if_true,Bool.true_and]
    exact ih
theorem Z7a {t:TypeId} {L:List (TypeId × Nat)} {d:Nat} {xs ys:Array Value} {b:Bool} (hf:J4a P t=some L) (h:EqL P d xs ys L b):ZW P (Op.equalIn (d+1) t (.agg xs) (.agg ys))=some (.inr b):=by
 unfold J4a at hf
 split at hf
 ·rename_i fs ht
  split at hf
  ·rename_i hn
   simp only[Option.some.injEq]at hf
   subst hf
   simp only[Bool.and_eq_true,Bool.not_eq_true']at hn
   simp only[Op.equalIn]
   rw[g0a (u2a ht)]
   dsimp only
   rw[g0a (d7a (P:=P)),hn.2]
   have:=D6a (P:=P) (fs:=fs.toList) hn.1 h
   rw[← Array.forIn_toList]
   rw[if_neg Bool.false_ne_true]
   refine (g0a this).trans ?_
   cases b <;> rfl
  ·cases hf
 ·cases hf
theorem V5a {t:TypeId} {k k0:IntKind} {d:Nat} {a b:Int} (hu:P.underlying t=some (.int k0)):ZW P (Op.equalIn (d+1) t (.int k a) (.int k b))=some (.inr (a==b)):=by
 simp only[Op.equalIn]
 rw[g0a (u2a hu)]
 simp only[if_true]
 rfl
theorem R0a {t:TypeId} {xs:Array Value} {o:Nat} {v:Value} (h1:f3a P t=true) (hx:xs[o]? = some v):ZW P (part t xs o)=some (.inr v):=by
 unfold f3a at h1
 split at h1
 ·rename_i d i hu hi
  unfold part
  have hq:ZW P (isAgg t)=some (.inr false):=by
   unfold isAgg
   rw[g0a (u2a hu)]
   cases d <;> first | rfl | simp[C7a]at h1
  rw[g0a hq]
  simp only[Bool.false_eq_true,if_false,hx]
  rfl
 ·cases h1
theorem E6a {t:TypeId} {xs:Array Value} {o n:Nat} (h1:E4a P t=some n):ZW P (part t xs o)=some (.inr (.agg (xs.extract o (o+n)))):=by
 unfold E4a at h1
 split at h1
 ·rename_i d i hu hi
  unfold part
  have hq:ZW P (isAgg t)=some (.inr true):=by
   unfold isAgg
   rw[g0a (u2a hu)]
   cases d <;> first | rfl | simp[C7a]at h1
  have hz:ZW P (sizeOf t)=some (.inr n):=by
   have:ZW P (typeInfo t)=some (.inr i):=by
    simp only[typeInfo,program,Bind.bind,Sem.bind,ZW,hi]
    rfl
   simp only[sizeOf]
   rw[g0a this]
   split at h1
   ·cases h1;rfl
   ·cases h1
  rw[g0a hq]
  simp only[if_true]
  rw[g0a hz]
  rfl
 ·cases h1
theorem P0b {t:TypeId} {xs ys:Array Value} {b:Bool} {h:DHeap} {ox oy:Operand} (hx:(xs.toList.all Yw)=true) (hy:(ys.toList.all Yw)=true) (hg:P.eqGuardType P.depth t=false) (hq:ZW P (Op.equalIn 10000 t (.agg xs) (.agg ys))=some (.inr b)) :
 ZV P .eql t ox oy (.agg xs) (.agg ys) h=.ok (.value (.bool b)) h∧ZV P .neq t ox oy (.agg xs) (.agg ys) h=.ok (.value (.bool (!b))) h:=by
 have hf:(Yk (.agg xs)&&Yk (.agg ys))=true:=by
  show ((xs.toList.all Yw)&&(ys.toList.all Yw))=true
  rw[hx,hy];rfl
 have hgd:ZW P (do
  if !(← program).eqGuardType (← program).depth t then return
  if ← Op.eqGuardIn Op.maxDepth t (.agg xs) (.agg ys) then unsupported (.noEntry "binop/eql: two nil values of an interface type with methods, in a part of a struct or an array"):Sem Unit)=some (.inr ()):=by
  rw[g0a (d7a (P:=P)),g0a (d7a (P:=P)),hg]
  rfl
 constructor
 ·simp only[ZV,hf,if_true,XX]
  rw[g0a (show ZW P (eqGuard .eql t ox oy (.agg xs) (.agg ys))=some (.inr ()) from hgd)]
  have:ZW P (binOp .eql t (.agg xs) (.agg ys))=some (.inr (.bool b)):=by
   simp only[binOp,Op.equal,Op.maxDepth]
   rw[g0a hq];rfl
  rw[this];rfl
 ·simp only[ZV,hf,if_true,XX]
  rw[g0a (show ZW P (eqGuard .neq t ox oy (.agg xs) (.agg ys))=some (.inr ()) from hgd)]
  have:ZW P (binOp .neq t (.agg xs) (.agg ys))=some (.inr (.bool (!b))):=by
   simp only[binOp,Op.equal,Op.maxDepth]
   rw[g0a hq];rfl
  rw[this];rfl
end Go.D
namespace Go.D
variable {P:Program} {h h1 h2:DHeap} {id z:Nat}
theorem L6b (h:DHeap) (i:Nat) (a b:DObj):(h.set i a).set i b=h.set i b:=by
 refine DHeap.ext' (fun j=>?_) rfl rfl
 simp only[DHeap.set]
 split <;> rfl
structure Chg (h:DHeap) (i:Nat) (o:DObj) (h1:DHeap):Prop where
 next:h.next≤h1.next
 ng:h1.ng=h.ng
 get:∀ j,j<h.next→j≠i→h1.get j=h.get j
 at':h1.get i=some o
theorem Chg.set (h:DHeap) (i:Nat) (o:DObj):Chg h i o (h.set i o):=⟨Nat.le_refl _,rfl,fun _ _ hj=>Zx _ _ hj,Zq _ _⟩
theorem Chg.self {o:DObj} (hg:h.get id=some o):Chg h id o h:=⟨Nat.le_refl _,rfl,fun _ _ _=>rfl,hg⟩
theorem Chg.ext {o:DObj} (a:Chg h id o h1) (e:Ext h1 h2) (hi:id<h.next):Chg h id o h2:=⟨Nat.le_trans a.next e.next,e.ng.trans a.ng,fun j hj hji=>(e.get j (Nat.lt_of_lt_of_le hj a.next)).trans (a.get j hj hji),(e.get id (Nat.lt_of_lt_of_le hi a.next)).trans a.at'⟩
theorem Chg.trans {o o2:DObj} (a:Chg h id o h1) (b:Chg h1 id o2 h2):Chg h id o2 h2:=⟨Nat.le_trans a.next b.next,b.ng.trans a.ng,fun j hj hji=>(b.get j (Nat.lt_of_lt_of_le hj a.next) hji).trans (a.get j hj hji),b.at'⟩
theorem Ct.changed {f:FuncId} {args:List Value} {v:Value} {cs:List Value} (hi:id<h.next) (hcs:∀ v∈cs,VIn (fun i=>i<h.next) v) (hv:VIn (fun i=>i<h.next) v)
 (c:Ct P f args h fun r h1=>r=.ret v∧Chg h id (.row cs z false) h1):DC P f args h (.ret v) (h.set id (.row cs z false)):=
 c.canon ⟨Nat.le_refl _,rfl⟩ fun r1 h1 ⟨a,b⟩=>by subst a;exact ⟨_,Seen.changed hi b.get b.at' (g4c hcs) hv⟩
end Go.D
namespace Go.D
variable {P:Program} {α:Type} {F:FRep α} {h h1:DHeap} {i:Nat} {l:List α}
end Go.D
namespace Go.D
variable {P:Program} {α:Type} {R:Rep α} {S:Nat→Prop} {h:DHeap} {v:Value} {l:List α} {t:TypeId}
def t7b (z:Nat) (v:Value) (k:Nat):Value:=
 match v with
 | .slice (some ⟨id,o,none⟩) len cap=>.slice (some ⟨id,o+k*z,none⟩) (len - k) (if cap=len then len - k else len - k+1)
 | v=>v
theorem Sl.cut (a:Sl R S h v l) (hz:G0a P t=some R.z) (hp:0<R.z) {kd:IntKind} {k:Nat} (hk:k≤l.length):Xq P t v (some (.int kd (k:Int))) none none h=some (t7b R.z v k)∧Sl R S h (t7b R.z v k) (l.drop k):=by
 have hlo:Yj (some (.int kd (k:Int))) 0 l.length=some k:=by
  simp only[Yj]
  rw[if_pos (by omega)];rfl
 obtain ⟨v',e,hs⟩:=a.slice (P:=P) (t:=t) (lo:=some (.int kd (k:Int))) (hi:=none) (i:=k) (j:=l.length) hz hp rfl hlo hk (Nat.le_refl _)
 have hv:v'=t7b R.z v k:=by
  unfold G0a at hz
  split at hz
  ·rename_i e' e1
   cases e2:P.info? e' with
   | none=>rw[e2]at hz;cases hz
   | some inf=>
     rw[e2]at hz
     have hsz:inf.size=R.z:=by simpa using hz
     rcases a with ⟨rfl,rfl⟩ | ⟨id,o,cap,cells,esz,ro,rfl,b,c,d,e3,f⟩
     ·have hj':Yj none 0 0=some 0:=rfl
      have hlo':Yj (some (.int kd (k:Int))) 0 0=some k:=hlo
      simp only[Xq,e1,e2,hj',hlo',Option.some.injEq]at e
      exact e.symm
     ·have hfit:D1a h id inf.size=true:=by
       simp only[D1a,c,hsz]
       rcases d with d | d <;> simp[d]
      simp only[Xq,e1,e2]at e
      rw[if_pos ⟨hfit,by rw[hsz];exact hp⟩]at e
      have hj':Yj none l.length l.length=some l.length:=rfl
      simp only[hj',hlo]at e
      simp only[Option.some.injEq]at e
      rw[← e,hsz]
      simp only[t7b,true_and]
  ·cases hz
 subst hv
 rw[List.take_length]at hs
 exact ⟨e,hs⟩
end Go.D
