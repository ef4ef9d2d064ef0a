/-
A part of the proof of a law: contracts of functions over plain heaps, and what they lean on. Conditions: none.
-/
import Derived.Attr
import Derived.Test.YtheamfnbfgiaeaaGreatBase1
set_option linter.unusedSimpArgs false
set_option linter.unusedVariables false
set_option linter.defProp false
namespace Go.D
variable {P:Program} {nt:Nat}
def I2a (P:Program) (ops:Array Oper):List Oper→St→u1a→(St→u1a→Prop)→Prop
 | [],s,m,K=>K s m
 | o :: rest,s,m,K=>
   match ZK ops s.fr o with
   | none=>False
   | some false=>I2a P ops rest ⟨s.fr.put o.dst undef,s.df,s.h,s.rd⟩ m K
   | some true=>
     match dOp P (ZV s.h.ng s.fr) o s.h with
     | .ok (.value v) h=>I2a P ops rest ⟨s.fr.put o.dst v,s.df,h,s.rd⟩ m K
     | .ok .skip h=>I2a P ops rest ⟨s.fr.put o.dst undef,s.df,h,s.rd⟩ m K
     | .ok .recover h=>
       match m with
       | .pan v=>I2a P ops rest ⟨s.fr.put o.dst v,s.df,h,s.rd⟩ (.recd v) K
       | m=>I2a P ops rest ⟨s.fr.put o.dst .nilIface,s.df,h,s.rd⟩ m K
     | _=>False
theorem C4b {ops:Array Oper} (hd:I0a nt ops=true) {K:St→u1a→Prop}:∀ (l:List Oper) (k:Nat) (s:St) (m:u1a),ops.toList.drop k=l→I2a P ops l s m K →
 ∃ s1 m1,K s1 m1∧HStep s.h s1.h∧∀ (n:Nat) (ι:Inj) (a:Act) (w:World) (c₀:Frame) (cs:List Frame) (Qc:Exit→Act→List Frame→World→Prop),Wy nt ι s none a w→ModeRel ι m c₀.mode →
  (∀ ι' a' w' u',Wy nt ι' s1 none a' w'→ModeRel ι' m1 u'→Step ι ι' s.h s1.h w w'→Qc .normal a' ({ c₀ with mode:=u' } :: cs) w')→wpOpsSIn Fence.wide n P ops Qc (List.range' k (ops.size - k)) a (c₀ :: cs) w:=by
 intro l
 induction l with
 | nil=>
   intro k s m hl h
   refine ⟨s,m,h,.refl _,fun n ι a w c₀ cs Qc hs hm hQ=>?_⟩
   have:ops.size - k=0:=by
    have:=congrArg List.length hl
    simpa using this
   rw[this]
   exact hQ ι a w c₀.mode hs hm (Step.refl ι _ w)
 | cons o rest ih=>
   intro k s m hl h
   obtain ⟨hk,ho,hrest⟩:=D5a hl
   have hdo:∀ d,o.dst=some d→d<nt:=fun d h=>g0a hd k o d ho h
   simp only[I2a]at h
   cases hw:ZK ops s.fr o with
   | none=>rw[hw]at h;exact h.elim
   | some b=>
     rw[hw]at h
     cases b with
     | false=>
       obtain ⟨s1,m1,hK,hh,hx⟩:=ih (k+1) _ m hrest h
       refine ⟨s1,m1,hK,hh,fun n ι a w c₀ cs Qc hs hm hQ=>?_⟩
       rw[G2a hk]
       simp only[wpOpsSIn,ho]
       have hw':=O0a hs.fr.1 (g0a hd) (fun t _ u hu=>hs.fr.2 t u hu) hw
       simp only[hw',Bool.false_eq_true,if_false]
       exact ⟨fun _ _=>trivial,hx n ι _ w c₀ cs Qc ⟨q1a (r:=none) (w:=w) hs.fr hdo (T1a ι),by rw[z0a];exact hs.df,hs.sim,hs.rd⟩ hm hQ⟩
     | true=>
       simp only at h
       have go:∀ (x:XW) (h1:DHeap) (v:Value) (m1:u1a),dOp P (ZV s.h.ng s.fr) o s.h=.ok x h1→I2a P ops rest ⟨s.fr.put o.dst v,s.df,h1,s.rd⟩ m1 K →
        (∀ n ι' (x':Next) (w':World) (a:Act) (c₀:Frame) (cs:List Frame) (Qc:Exit→Act→List Frame→World→Prop) ,a8a P ι' x x'→ModeRel ι' m c₀.mode→(∀ v' u',VRel ι' v v'→ModeRel ι' m1 u'→wpOpsSIn Fence.wide n P ops Qc (List.range' (k+1) (ops.size - (k+1))) (a.put o.dst v') ({ c₀ with mode:=u' } :: cs) w') →
          (match (Result.ok x' w':Result Next) with
            | .ok .recover w'=>
              match recoverD (c₀ :: cs) with
              | some (v,cs')=>wpOpsSIn Fence.wide n P ops Qc (List.range' (k+1) (ops.size - (k+1))) (a.put o.dst v) cs' w'
              | none=>wpOpsSIn Fence.wide n P ops Qc (List.range' (k+1) (ops.size - (k+1))) (a.put o.dst .nilIface) (c₀ :: cs) w'
            | .ok (.value v) w'=>wpOpsSIn Fence.wide n P ops Qc (List.range' (k+1) (ops.size - (k+1))) (a.put o.dst v) (c₀ :: cs) w'
            | .ok .skip w'=>wpOpsSIn Fence.wide n P ops Qc (List.range' (k+1) (ops.size - (k+1))) (a.put o.dst undef) (c₀ :: cs) w'
            | .halt (.panic v) w'=>Qc (.panic [{ v,recovered:=false }]) a (c₀ :: cs) w'
            | _=>False)) →
        ∃ s1 m1,K s1 m1∧HStep s.h s1.h∧∀ (n:Nat) (ι:Inj) (a:Act) (w:World) (c₀:Frame) (cs:List Frame) (Qc:Exit→Act→List Frame→World→Prop),Wy nt ι s none a w→ModeRel ι m c₀.mode →
         (∀ ι' a' w' u',Wy nt ι' s1 none a' w'→ModeRel ι' m1 u'→Step ι ι' s.h s1.h w w'→Qc .normal a' ({ c₀ with mode:=u' } :: cs) w')→wpOpsSIn Fence.wide n P ops Qc (List.range' k (ops.size - k)) a (c₀ :: cs) w:=by
        intro x h1 v m1 hop hxr hstep
        obtain ⟨s2,m2,hK,hh,hx⟩:=ih (k+1) _ m1 hrest hxr
        refine ⟨s2,m2,hK,(D0a hop).trans hh,fun n ι a w c₀ cs Qc hs hm hQ=>?_⟩
        rw[G2a hk]
        simp only[wpOpsSIn,ho]
        have hw':=O0a hs.fr.1 (g0a hd) (fun t _ u hu=>hs.fr.2 t u hu) hw
        simp only[hw',if_true]
        obtain ⟨ι1,w1,x',hrun,hn,s1,st⟩:=A4a hop hs.sim (l1a (P:=P) hs.sim (a:=a) (ops:=ops) (fun t _ u hu=>hs.fr.2 t u hu))
        refine ⟨fun _ _=>trivial,?_⟩
        rw[hrun]
        refine hstep n ι1 x' w1 a c₀ cs Qc hn (hm.mono st.le) fun v' u' hv hmu=>?_
        have hc:({ c₀ with mode:=u' }:Frame).mode=u':=rfl
        refine hx n ι1 _ w1 { c₀ with mode:=u' } cs Qc ⟨q1a (r:=none) (w:=w) (hs.fr.mono st.le) hdo hv,by rw[z0a];exact hs.df.mono st.le,s1,hs.rd.mono st.le⟩ hmu fun ι2 a2 w2 u2 g1 g2 g3=>hQ ι2 a2 w2 u2 g1 g2 (st.trans g3)
       cases hop:dOp P (ZV s.h.ng s.fr) o s.h with
       | bad=>rw[hop]at h;exact h.elim
       | pan v h1=>rw[hop]at h;exact h.elim
       | ok x h1=>
         rw[hop]at h
         cases x with
         | value v=>
           refine go _ h1 v m hop h fun n ι' x' w' a c₀ cs Qc hn hm hk'=>?_
           cases x' with
           | value v'=>exact hk' v' c₀.mode hn hm
           | _=>exact hn.elim
         | skip=>
           refine go _ h1 undef m hop h fun n ι' x' w' a c₀ cs Qc hn hm hk'=>?_
           cases x' with
           | skip=>exact hk' undef c₀.mode (T1a _) hm
           | _=>exact hn.elim
         | recover=>
           simp only at h
           cases m with
           | pan v=>
             refine go _ h1 v (.recd v) hop h fun n ι' x' w' a c₀ cs Qc hn hm hk'=>?_
             cases x' with
             | recover=>
               cases hmode:c₀.mode with
               | panicking ch=>
                 rw[hmode]at hm
                 obtain ⟨v',rfl,hv⟩:=hm
                 simp only[recoverD,hmode]
                 exact hk' v' (.panicking [{ v:=v',recovered:=true }]) hv ⟨v',rfl,hv⟩
               | _=>rw[hmode]at hm;exact hm.elim
             | _=>exact hn.elim
           | ret=>
             refine go _ h1 .nilIface .ret hop h fun n ι' x' w' a c₀ cs Qc hn hm hk'=>?_
             cases x' with
             | recover=>
               cases hmode:c₀.mode with
               | returning=>
                 have hc:recoverD (c₀ :: cs)=none:=by simp[recoverD,hmode]
                 simp only[hc]
                 have:=hk' .nilIface .returning .nilIface trivial
                 rw[← hmode]at this
                 exact this
               | _=>rw[hmode]at hm;exact hm.elim
             | _=>exact hn.elim
           | recd v=>
             refine go _ h1 .nilIface (.recd v) hop h fun n ι' x' w' a c₀ cs Qc hn hm hk'=>?_
             cases x' with
             | recover=>
               cases hmode:c₀.mode with
               | panicking ch=>
                 have hm':=hm
                 rw[hmode]at hm
                 obtain ⟨v',rfl,hv⟩:=hm
                 have hc:recoverD (c₀ :: cs)=none:=by simp[recoverD,hmode]
                 simp only[hc]
                 have:=hk' .nilIface c₀.mode .nilIface hm'
                 exact this
               | _=>rw[hmode]at hm;exact hm.elim
             | _=>exact hn.elim
         | _=>exact h.elim
theorem Sim.loopAt {ι:Inj} {h:DHeap} {w:World} (s:Sim ι h w) {id:Nat} {e:Ent} (he:ι id=some e) {d:m2a} (hg:h.get id=some (.loop d)) :
 e.shift=0∧e.ro=false∧∃ l,w.heap[e.block]? = some (.loop l)∧n0b ι d l w:=by
 obtain ⟨o,h1,h2⟩:=s.obj id e he
 rw[hg]at h1;cases h1
 exact h2
theorem Sim.setLoop {ι:Inj} {h:DHeap} {w:World} (s:Sim ι h w) {id:Nat} {e:Ent} (he:ι id=some e) {d:m2a} (hg:h.get id=some (.loop d)) {l:Loop} (hl:w.heap[e.block]? = some (.loop l)) (hr:n0b ι d l w) (st:LoopState) (pe:Option Code) :
 Sim ι (h.set id (.loop { d with state:=st,pending:=pe })) (w.putObj e.block (.loop { l with state:=st,pending:=pe })) ∧
  Step ι ι h (h.set id (.loop { d with state:=st,pending:=pe })) w (w.putObj e.block (.loop { l with state:=st,pending:=pe })):=by
 obtain ⟨h1,h2,_⟩:=s.loopAt he hg
 refine s.putObj he hg h2 (by simp) ⟨h1,h2,_,World.putObj_heap_same (s.blk id e he),?_⟩
 exact ⟨hr.tmps,hr.params,hr.assign,hr.body,rfl,rfl,hr.defers⟩
def t9a (l:Nat) (R:DEnd→DHeap→Prop) (e:Zv) (s:St):Prop:=
 ∃ d,s.h.get l=some (.loop d) ∧
  match e with
  | .normal=>R (.ret (.bool true)) (s.h.set l (.loop { d with state:=.ready,pending:=none }))
  | .ret=>R (.ret (.bool false)) (s.h.set l (.loop { d with state:=.done,pending:=some .ret }))
  | .exit id=>R (.ret (.bool false)) (s.h.set l (.loop { d with state:=.done,pending:=some (.exit id) }))
  | .pan _=>False
def s9a (l:Nat) (fr:Fr) (df:List f4a) (rd:Option Nat) (Q:Zv→St→Prop) (r:DEnd) (h:DHeap):Prop:=
 match r with
 | .pan v=>Q (.pan v) ⟨fr,df,h,rd⟩
 | .ret _=>∃ d,h.get l=some (.loop d)∧d.state≠.busy ∧
    match d.pending with
    | none=>Q .normal ⟨fr,df,h.set l (.loop { d with state:=.exhausted,pending:=d.pending }),rd⟩
    | some .ret=>Q .ret ⟨fr,df,h.set l (.loop { d with state:=.exhausted,pending:=d.pending }),rd⟩
    | some (.exit id)=>Q (.exit id) ⟨fr,df,h.set l (.loop { d with state:=.exhausted,pending:=d.pending }),rd⟩
    | _=>False
end Go.D
namespace Go.D
variable {P:Program} {nt:Nat}
def p0a (nt:Nat):Code→Bool
 | .seq x y=>p0a nt x&&p0a nt y
 | .cond _ x y=>p0a nt x&&p0a nt y
 | .block _ c=>p0a nt c
 | .loop c=>p0a nt c
 | .rangeFunc _ _ x y=>p0a nt x&&p0a nt y
 | .region _ ops _=>I0a nt ops
 | _=>true
theorem q2b (K:St→Prop) (Q:Zv→St→Prop) (s:St):N0a K Q .normal s=K s:=rfl
theorem g8b (K:St→Prop) (Q:Zv→St→Prop) (s:St):N0a K Q .ret s=Q .ret s:=rfl
theorem v6b (K:St→Prop) (Q:Zv→St→Prop) (s:St) (id:Nat):N0a K Q (.exit id) s=Q (.exit id) s:=rfl
theorem f8b (K:St→Prop) (Q:Zv→St→Prop) (s:St) (v:Value):N0a K Q (.pan v) s=Q (.pan v) s:=rfl
theorem I1b (id:Nat) (Q:Zv→St→Prop) (s:St):P0a id Q .normal s=Q .normal s:=rfl
theorem r6b (id:Nat) (Q:Zv→St→Prop) (s:St):P0a id Q .ret s=Q .ret s:=rfl
theorem q6b (id:Nat) (Q:Zv→St→Prop) (s:St) (v:Value):P0a id Q (.pan v) s=Q (.pan v) s:=rfl
theorem A4b (id:Nat) (Q:Zv→St→Prop) (s:St):P0a id Q (.exit id) s=Q .normal s:=by simp[P0a]
theorem o2b {id id':Nat} (h:id'≠id) (Q:Zv→St→Prop) (s:St):P0a id Q (.exit id') s=Q (.exit id') s:=by
 simp[P0a,h]
theorem l4a (fr:Fr) (d:Tmp) (v:Value):fr.put (some d) v d=some v:=by simp[Fr.put]
theorem K3a (fr:Fr) {d t:Nat} (v:Value) (h:t≠d):Fr.put fr (some d) v t=fr t:=by
 simp[Fr.put,h]
theorem K3c (fr:Fr) (v:Value):fr.put none v=fr:=rfl
theorem v2b (rs:List ResultVar) (R:DEnd→DHeap→Prop) (s:St):z6a P rs R .normal s=XLv P rs s.fr R s.df .ret s.h:=rfl
theorem s8b (rs:List ResultVar) (R:DEnd→DHeap→Prop) (s:St):z6a P rs R .ret s=XLv P rs s.fr R s.df .ret s.h:=rfl
theorem r8b (rs:List ResultVar) (R:DEnd→DHeap→Prop) (s:St) (v:Value):z6a P rs R (.pan v) s=XLv P rs s.fr R s.df (.pan v) s.h:=rfl
theorem b8a (rs:List ResultVar) (fr:Fr) (R:DEnd→DHeap→Prop) (h:DHeap):XLv P rs fr R [] .ret h=(∃ v,s0a P rs fr h=some v∧R (.ret v) h):=rfl
theorem R5c (rs:List ResultVar) (fr:Fr) (R:DEnd→DHeap→Prop) (h:DHeap) (v:Value):XLv P rs fr R [] (.pan v) h=R (.pan v) h:=rfl
end Go.D
namespace Go.D
variable {P:Program} {ρ:Operand→Option Value} {h:DHeap} {dst:Option Tmp} {ty:TypeId} {pos:String} {aft:Array Edge} {gd:Option (Nat × Bool)}
theorem z9b (ng:Nat) (fr:Fr) (t:Tmp):ZV ng fr (.tmp t)=fr t:=rfl
theorem y9b (ng:Nat) (fr:Fr) (k:IntKind) (n:Int):ZV ng fr (.const (.int k n))=some (.int k n):=rfl
theorem l7b (ng:Nat) (fr:Fr) (b:Bool):ZV ng fr (.const (.bool b))=some (.bool b):=rfl
theorem z3b (ng:Nat) (fr:Fr) (s:ByteArray):ZV ng fr (.const (.string s))=some (.string s):=rfl
theorem E0b (ng:Nat) (fr:Fr):ZV ng fr (.const .nilIface)=some .nilIface:=rfl
theorem b2b (ng:Nat) (fr:Fr):ZV ng fr (.const .nilFunc)=some .nilFunc:=rfl
theorem o7b (ng:Nat) (fr:Fr):ZV ng fr (.const (.pointer none))=some (.pointer none):=rfl
theorem p7b (ng:Nat) (fr:Fr):ZV ng fr (.const (.slice none 0 0))=some (.slice none 0 0):=rfl
theorem n7b (ng:Nat) (fr:Fr):ZV ng fr (.const (.map none))=some (.map none):=rfl
theorem m7b (ng:Nat) (fr:Fr) (f:FuncId):ZV ng fr (.func f)=some (.func (.func f) #[] #[]):=rfl
theorem n3b (ops:Array Oper) (fr:Fr) (o:Op):ZK ops fr ⟨dst,o,ty,pos,aft,none⟩=some true:=rfl
def f9b (fr:Fr) (want:Bool):Option Tmp→Option Bool
 | none=>some false
 | some d=>
   match fr d with
   | some (.bool b)=>some (b==want)
   | some _=>some false
   | none=>none
def w9a (want:Bool):Option Value→Option Bool
 | some (.bool b)=>some (b==want)
 | some _=>some false
 | none=>none
theorem o3b (ops:Array Oper) (fr:Fr) (o:Op) (j:Nat) (want:Bool):ZK ops fr ⟨dst,o,ty,pos,aft,some (j,want)⟩=f9b fr want ((ops[j]?).bind (·.dst)):=rfl
theorem K4b (fr:Fr) (want:Bool) (d:Tmp):f9b fr want (some d)=w9a want (fr d):=rfl
theorem F4b (b:Bool):w9a true (some (.bool b))=some b:=by cases b <;> rfl
theorem G2b (b:Bool):w9a false (some (.bool b))=some (!b):=by cases b <;> rfl
theorem U3b (v:Value):DR.ofv h (some v)=.ok (.value v) h:=rfl
theorem G3c (v:Value) (h':DHeap):DR.ofp (some (v,h'))=.ok (.value v) h':=rfl
theorem E3c (h':DHeap):DR.ofh (some h')=.ok .skip h':=rfl
theorem D2c (x:Operand):dOp P ρ ⟨dst,.move x,ty,pos,aft,gd⟩ h=DR.ofv h (ρ x):=rfl
theorem Y6b (x:Operand):dOp P ρ ⟨dst,.assign x,ty,pos,aft,gd⟩ h=DR.ofv h (ρ x):=rfl
def i2b (h:DHeap):Option Value→Option Value→Option Value→DR
 | some (.bool t),some va,some vb=>.ok (.value (if t then va else vb)) h
 | _,_,_=>.bad
theorem F2c (c a b:Operand):dOp P ρ ⟨dst,.pick c a b,ty,pos,aft,gd⟩ h=i2b h (ρ c) (ρ a) (ρ b):=rfl
theorem a7b (t:Bool) (a b:Value):i2b h (some (.bool t)) (some a) (some b)=.ok (.value (if t then a else b)) h:=rfl
theorem i9b (t:TypeId):dOp P ρ ⟨dst,.alloc t,ty,pos,aft,gd⟩ h=.ofp (k1a P t h):=rfl
def q4c (P:Program) (t:TypeId) (h:DHeap):Option Value→DR
 | some v=>.ok (.value (.pointer (some ⟨h.next,0,none⟩))) (h.push (.row v.cells.toList (i1a P t) false))
 | none=>.bad
theorem M6c (t:TypeId) (x:Operand):dOp P ρ ⟨dst,.box t x,ty,pos,aft,gd⟩ h=q4c P t h (ρ x):=rfl
theorem U6b (t:TypeId) (v:Value):q4c P t h (some v)=.ok (.value (.pointer (some ⟨h.next,0,none⟩))) (h.push (.row v.cells.toList (i1a P t) false)):=rfl
def M5b (P:Program) (t:TypeId) (h:DHeap):Option (List (Nat × Value))→DR
 | some vs=>.ofv h (Xy P t vs)
 | none=>.bad
theorem k9b (t:TypeId) (ps:Array (Nat × Operand)):dOp P ρ ⟨dst,.build t ps,ty,pos,aft,gd⟩ h=M5b P t h (q0a ρ ps.toList):=rfl
theorem Q2b (t:TypeId) (vs:List (Nat × Value)):M5b P t h (some vs)=.ofv h (Xy P t vs):=rfl
def x7a (P:Program) (t:TypeId) (n:Nat) (h:DHeap):Option (List (Nat × Value))→DR
 | some vs=>.ofp (f0a P t n vs h)
 | none=>.bad
theorem A0b (t:TypeId) (n:Nat) (ps:Array (Nat × Operand)):dOp P ρ ⟨dst,.buildSlice t n ps,ty,pos,aft,gd⟩ h=x7a P t n h (q0a ρ ps.toList):=rfl
theorem r8a (t:TypeId) (n:Nat) (vs:List (Nat × Value)):x7a P t n h (some vs)=.ofp (f0a P t n vs h):=rfl
def h9b (P:Program) (t:TypeId) (h:DHeap):Option Value→DR
 | some v=>.ofv h (XX P t v h)
 | none=>.bad
theorem b1b (t:TypeId) (a:Operand):dOp P ρ ⟨dst,.load t a,ty,pos,aft,gd⟩ h=h9b P t h (ρ a):=rfl
theorem E8a (t:TypeId) (v:Value):h9b P t h (some v)=.ofv h (XX P t v h):=rfl
def Q5b (P:Program) (t:TypeId) (h:DHeap):Option Value→Option Value→DR
 | some p,some v=>.ofh (Yx P t p v h)
 | _,_=>.bad
theorem s9b (t:TypeId) (a x:Operand):dOp P ρ ⟨dst,.store t a x,ty,pos,aft,gd⟩ h=Q5b P t h (ρ a) (ρ x):=rfl
theorem m3b (t:TypeId) (p v:Value):Q5b P t h (some p) (some v)=.ofh (Yx P t p v h):=rfl
def a1b (P:Program) (h:DHeap):Option Value→DR
 | some (.pointer none) | some .nilIface | some .nilFunc=>.pan (L7a P) h
 | some (.func (.method _) _ _)=>.bad
 | some v=>.ok (.value v) h
 | none=>.bad
theorem g3b (x:Operand):dOp P ρ ⟨dst,.nilCheck x,ty,pos,aft,gd⟩ h=a1b P h (ρ x):=rfl
theorem W1b (a:Addr):a1b P h (some (.pointer (some a)))=.ok (.value (.pointer (some a))) h:=rfl
def L5b (P:Program) (op:BinOp) (t:TypeId) (x y:Operand) (h:DHeap):Option Value→Option Value→DR
 | some vx,some vy=>ZX P op t x y vx vy h
 | _,_=>.bad
theorem j9b (op:BinOp) (t:TypeId) (x y:Operand) (yt:TypeId):dOp P ρ ⟨dst,.binOp op t x y yt,ty,pos,aft,gd⟩ h=L5b P op t x y h (ρ x) (ρ y):=rfl
theorem O2b (op:BinOp) (t:TypeId) (x y:Operand) (vx vy:Value):L5b P op t x y h (some vx) (some vy)=ZX P op t x y vx vy h:=rfl
def w9b (P:Program) (op:UnOp) (h:DHeap):Option Value→DR
 | some v=>if Yj v then Xj P (Op.unary op v) h else .bad
 | none=>.bad
theorem G2c (op:UnOp) (t:TypeId) (x:Operand):dOp P ρ ⟨dst,.unOp op t x,ty,pos,aft,gd⟩ h=w9b P op h (ρ x):=rfl
theorem h7b (b:Bool):w9b P .not h (some (.bool b))=.ok (.value (.bool (!b))) h:=rfl
def z5a (P:Program) (s d:TypeId) (h:DHeap):Option Value→DR
 | some v=>V0a P s d v h
 | none=>.bad
theorem N4b (s d:TypeId) (x:Operand):dOp P ρ ⟨dst,.convert s d x,ty,pos,aft,gd⟩ h=z5a P s d h (ρ x):=rfl
theorem O1b {s d:TypeId} {k0:IntKind} {k k':IntKind} {n:Int} (hs:P.underlying s=some (.int k0)) (hd:P.underlying d=some (.int k)):z5a P s d h (some (.int k' n))=.ok (.value (.int k (k.wrap n))) h:=by
 simp only[z5a,V0a,Yj,XY,Yw,if_true,hd]
 simp[Xj,ZU,convert,Bind.bind,Pure.pure,Sem.bind,hs,hd,underlying,program,Conv.intToInt]
 rfl
def m5a (P:Program) (t:TypeId) (h:DHeap):Option Value→DR
 | some v=>match l3a P t with | some false=>.ok (.value (.iface t v)) h | _=>.bad
 | none=>.bad
theorem s8a (t:TypeId) (x:Operand):dOp P ρ ⟨dst,.makeInterface t x,ty,pos,aft,gd⟩ h=m5a P t h (ρ x):=by
 simp only[dOp,m5a]
 cases ρ x with
 | none=>rfl
 | some v=>
   cases l3a P t with
   | none=>rfl
   | some b=>cases b <;> rfl
theorem V1b {t:TypeId} {v:Value} (hi:l3a P t=some false):m5a P t h (some v)=.ok (.value (.iface t v)) h:=by simp[m5a,hi]
def y0b (h:DHeap) (f:FuncId):Option (List Value)→Option (List Value)→DR
 | some vs,some us=>.ok (.value (.func (.func f) vs.toArray us.toArray)) h
 | _,_=>.bad
theorem f3b (f:FuncId) (first cap:Array Operand):dOp P ρ ⟨dst,.makeFunc (.func f) first cap,ty,pos,aft,gd⟩ h=y0b h f (Yk ρ first.toList) (Yk ρ cap.toList):=by
 simp only[dOp,y0b]
 cases Yk ρ first.toList <;> cases Yk ρ cap.toList <;> rfl
theorem b3b (f:FuncId) (vs us:List Value):y0b h f (some vs) (some us)=.ok (.value (.func (.func f) vs.toArray us.toArray)) h:=rfl
theorem P4b (t:TypeId):dOp P ρ ⟨dst,.makeMap t none,ty,pos,aft,gd⟩ h=.ok (.value (.map (some h.next))) (h.push (.map [] 0)):=rfl
def Y2b (P:Program) (t:TypeId) (ok:Bool) (h:DHeap):Option Value→Option Value→DR
 | some v,some vi=>.ofv h (Q0a P t v vi ok h)
 | _,_=>.bad
theorem Z6b (t:TypeId) (x ix:Operand) (ok:Bool):dOp P ρ ⟨dst,.lookup t x ix ok,ty,pos,aft,gd⟩ h=Y2b P t ok h (ρ x) (ρ ix):=rfl
theorem T1b (t:TypeId) (ok:Bool) (v i:Value):Y2b P t ok h (some v) (some i)=.ofv h (Q0a P t v i ok h):=rfl
def F8a (P:Program) (t:TypeId) (h:DHeap):Option Value→Option Value→Option Value→DR
 | some m,some k,some v=>.ofh (F0a P t m k v h)
 | _,_,_=>.bad
theorem Z1b (t:TypeId) (m k x:Operand):dOp P ρ ⟨dst,.mapUpdate t m k x,ty,pos,aft,gd⟩ h=F8a P t h (ρ m) (ρ k) (ρ x):=rfl
theorem X8a (t:TypeId) (m k v:Value):F8a P t h (some m) (some k) (some v)=.ofh (F0a P t m k v h):=rfl
def P5b (P:Program) (t:TypeId) (h:DHeap):Option Value→Option (Option Value)→Option (Option Value)→Option (Option Value)→DR
 | some v,some vl,some vh,some vm=>.ofv h (Xw P t v vl vh vm h)
 | _,_,_,_=>.bad
theorem r9b (t:TypeId) (x:Operand) (lo hi mx:Option Operand):dOp P ρ ⟨dst,.slice t x lo hi mx,ty,pos,aft,gd⟩ h=P5b P t h (ρ x) (B0a ρ lo) (B0a ρ hi) (B0a ρ mx):=rfl
theorem l3b (t:TypeId) (v:Value) (vl vh vm:Option Value):P5b P t h (some v) (some vl) (some vh) (some vm)=.ofv h (Xw P t v vl vh vm h):=rfl
theorem A3b:B0a ρ none=some none:=rfl
theorem B3b (x:Operand):B0a ρ (some x)=(ρ x).map some:=rfl
def C8a (P:Program) (s:TypeId) (f:Nat) (h:DHeap):Option Value→DR
 | some v=>.ofv h (M1a P s v f)
 | none=>.bad
theorem X1b (s:TypeId) (x:Operand) (f:Nat):dOp P ρ ⟨dst,.fieldAddr s x f,ty,pos,aft,gd⟩ h=C8a P s f h (ρ x):=rfl
theorem V8a (s:TypeId) (f:Nat) (v:Value):C8a P s f h (some v)=.ofv h (M1a P s v f):=rfl
def D8a (P:Program) (t:TypeId) (h:DHeap):Option Value→Option Value→DR
 | some v,some i=>.ofv h (ZQ P t v i)
 | _,_=>.bad
theorem Y1b (t:TypeId) (x i:Operand):dOp P ρ ⟨dst,.indexAddr t x i,ty,pos,aft,gd⟩ h=D8a P t h (ρ x) (ρ i):=rfl
theorem W8a (t:TypeId) (v i:Value):D8a P t h (some v) (some i)=.ofv h (ZQ P t v i):=rfl
def N5b (P:Program) (t:TypeId) (h:DHeap):Option Value→Option Value→DR
 | some v,some i=>.ofv h (z4a P t v i)
 | _,_=>.bad
theorem o9b (t:TypeId) (x i:Operand):dOp P ρ ⟨dst,.index t x i,ty,pos,aft,gd⟩ h=N5b P t h (ρ x) (ρ i):=rfl
theorem W2b (t:TypeId) (v i:Value):N5b P t h (some v) (some i)=.ofv h (z4a P t v i):=rfl
def U3a (P:Program) (t:TypeId) (ok:Bool) (h:DHeap):Option Value→DR
 | some v=>.ofv h (k3a P v t ok)
 | none=>.bad
theorem B0b (x:Operand) (xt t:TypeId) (ok:Bool):dOp P ρ ⟨dst,.typeAssert x xt t ok,ty,pos,aft,gd⟩ h=U3a P t ok h (ρ x):=rfl
theorem t8a {t:TypeId} {v:Value} (hi:l3a P t=some false) (ok:Bool):U3a P t ok h (some (.iface t v))=.ok (.value (if ok then .tuple #[v,.bool true] else v)) h:=by simp[U3a,k3a,hi,DR.ofv]
def Y0b (ix:Nat) (h:DHeap):Option Value→DR
 | some v=>.ofv h (A6a v ix)
 | none=>.bad
theorem O4b (t:Operand) (ix:Nat):dOp P ρ ⟨dst,.extract t ix,ty,pos,aft,gd⟩ h=Y0b ix h (ρ t):=rfl
theorem x0b (vs:Array Value) (ix:Nat):Y0b ix h (some (.tuple vs))=.ofv h (vs[ix]?):=rfl
def Y1a (P:Program) (b:Builtin) (ts:Array TypeId) (ty:TypeId) (h:DHeap):Option (List Value)→DR
 | some vs=>
   match b,vs with
   | .append,[s,x]=>.ofp (u0a P ts s x h)
   | .copy,[s,x]=>.ofp (f8a P ts s x h)
   | .len,[x]=>.ofv h (dLen P ts x h)
   | .clear,[x]=>.ofp (j3a P ts x h)
   | .delete,[m,k]=>.ofp (V2a P ts m k h)
   | .recover,[]=>.ok .recover h
   | .min,vs=>if vs.all Yj then Xj P (Builtin.min_ ts ty vs.toArray) h else .bad
   | .max,vs=>if vs.all Yj then Xj P (Builtin.max_ ts ty vs.toArray) h else .bad
   | _,_=>.bad
 | none=>.bad
theorem M4b (b:Builtin) (args:Array Operand) (ts:Array TypeId):dOp P ρ ⟨dst,.call ⟨.builtin b,args,ts⟩,ty,pos,aft,gd⟩ h=Y1a P b ts ty h (Yk ρ args.toList):=by
 simp only[dOp,Y1a]
 cases Yk ρ args.toList with
 | none=>simp
 | some vs=>cases b <;> simp <;> rcases vs with _ | ⟨a,_ | ⟨b,_ | _⟩⟩ <;> rfl
theorem B9a (ts:Array TypeId) (s x:Value):Y1a P .append ts ty h (some [s,x])=.ofp (u0a P ts s x h):=rfl
theorem R2b (ts:Array TypeId) (x:Value):Y1a P .len ts ty h (some [x])=.ofv h (dLen P ts x h):=rfl
theorem v0b (ts:Array TypeId) (x:Value):Y1a P .clear ts ty h (some [x])=.ofp (j3a P ts x h):=rfl
theorem C9a (ts:Array TypeId) (m k:Value):Y1a P .delete ts ty h (some [m,k])=.ofp (V2a P ts m k h):=rfl
theorem j5a (ts:Array TypeId):Y1a P .recover ts ty h (some [])=.ok .recover h:=rfl
theorem S2b (ts:Array TypeId) (vs:List Value):Y1a P .min ts ty h (some vs)=if vs.all Yj then Xj P (Builtin.min_ ts ty vs.toArray) h else .bad:=rfl
def v2a (P:Program) (h:DHeap):Option Value→Option (List Value)→DR
 | some fv,some vs=>
   match Z0a P fv vs h with
   | some x=>.ok x h
   | none=>.bad
 | _,_=>.bad
theorem B2c (f:Operand) (args:Array Operand) (ts:Array TypeId):dOp P ρ ⟨dst,.call ⟨.value f,args,ts⟩,ty,pos,aft,gd⟩ h=v2a P h (ρ f) (Yk ρ args.toList):=by
 simp only[dOp]
 cases h1:Yk ρ args.toList with
 | none=>cases ρ f <;> rfl
 | some vs=>cases h2:ρ f with
   | none=>simp[h2,v2a]
   | some v=>simp[h2,v2a];rfl
theorem R5a {f:FuncId} (hg:L0a P f=true) (first cap:Array Value) (vs:List Value):v2a P h (some (.func (.func f) first cap)) (some vs)=.ok (.enter f (first.toList++vs++cap.toList)) h:=by
 simp[v2a,Z0a,hg]
theorem y7a {l:Nat} {d:m2a} (hl:h.get l=some (.loop d)) (vs:List Value) (hv:d.params.size=vs.length) (hp:d.params.toList.all (fun p=>decide (p<d.size))=true) :
 v2a P h (some (.func (.yield l) #[] #[])) (some vs)=.ok (.round l d.size (E0a d.tmps d.params.toList vs) d.assign d.body) h:=by
 have hc:(#[]:Array Value).size=0∧(#[]:Array Value).size=0∧d.params.size=vs.length∧d.params.toList.all (fun p=>decide (p<d.size))=true:=⟨rfl,rfl,hv,hp⟩
 simp only[v2a,Z0a,hl,if_pos hc]
def b5a (P:Program) (h:DHeap):Option Value→Option (List Value)→DR
 | some fv,some vs=>
   match Z0a P fv vs h with
   | some (.enter g args)=>.ok (.defer g args) h
   | _=>.bad
 | _,_=>.bad
theorem m9b (f:Operand) (args:Array Operand) (ts:Array TypeId):dOp P ρ ⟨dst,.defer ⟨.value f,args,ts⟩,ty,pos,aft,gd⟩ h=b5a P h (ρ f) (Yk ρ args.toList):=by
 simp only[dOp]
 cases h1:Yk ρ args.toList with
 | none=>cases ρ f <;> rfl
 | some vs=>cases h2:ρ f with
   | none=>simp[h2,b5a]
   | some v=>
     simp only[h2,b5a];rfl
theorem T2b {f:FuncId} (hg:L0a P f=true) (first cap:Array Value) (vs:List Value):b5a P h (some (.func (.func f) first cap)) (some vs)=.ok (.defer f (first.toList++vs++cap.toList)) h:=by
 simp[b5a,Z0a,hg]
def O5b (h:DHeap):Option Value→DR
 | some (.iface t v)=>.pan (.iface t v) h
 | _=>.bad
theorem p9b (x:Operand):dOp P ρ ⟨dst,.panic x,ty,pos,aft,gd⟩ h=O5b h (ρ x):=rfl
theorem a2b (t:TypeId) (v:Value):O5b h (some (.iface t v))=.pan (.iface t v) h:=rfl
theorem S4b:Yk ρ []=some []:=rfl
def o4c:Option Value→Option (List Value)→Option (List Value)
 | some v,some vs=>some (v :: vs)
 | _,_=>none
theorem y3b (x:Operand) (xs:List Operand):Yk ρ (x :: xs)=o4c (ρ x) (Yk ρ xs):=rfl
theorem M6b (v:Value) (vs:List Value):o4c (some v) (some vs)=some (v :: vs):=rfl
theorem c2b:q0a ρ []=some []:=rfl
def p4c (i:Nat):Option Value→Option (List (Nat × Value))→Option (List (Nat × Value))
 | some v,some vs=>some ((i,v) :: vs)
 | _,_=>none
theorem F0b (i:Nat) (x:Operand) (xs:List (Nat × Operand)):q0a ρ ((i,x) :: xs)=p4c i (ρ x) (q0a ρ xs):=rfl
theorem N6b (i:Nat) (v:Value) (vs:List (Nat × Value)):p4c i (some v) (some vs)=some ((i,v) :: vs):=rfl
variable {t:TypeId} {ox oy:Operand} {k:IntKind} {a b:Int}
theorem i6c:ZX P .add t ox oy (.int k a) (.int k b) h=.ok (.value (.int k (k.wrap (a+b)))) h:=by
 simp[ZX,Yj,XY,Yw,Xj,ZU,eqGuard,binOp,Op.intArith,Bind.bind,Pure.pure,Sem.bind]
theorem r6c:ZX P .sub t ox oy (.int k a) (.int k b) h=.ok (.value (.int k (k.wrap (a - b)))) h:=by
 simp[ZX,Yj,XY,Yw,Xj,ZU,eqGuard,binOp,Op.intArith,Bind.bind,Pure.pure,Sem.bind]
theorem p6c:ZX P .mul t ox oy (.int k a) (.int k b) h=.ok (.value (.int k (k.wrap (a*b)))) h:=by
 simp[ZX,Yj,XY,Yw,Xj,ZU,eqGuard,binOp,Op.intArith,Bind.bind,Pure.pure,Sem.bind]
theorem B5b (hb:b≠0):ZX P .quo t ox oy (.int k a) (.int k b) h=.ok (.value (.int k (k.wrap (a.tdiv b)))) h:=by
 simp[ZX,Yj,XY,Yw,Xj,ZU,eqGuard,binOp,Op.intDiv,hb,Bind.bind,Pure.pure,Sem.bind]
theorem C5b (hb:b≠0):ZX P .rem t ox oy (.int k a) (.int k b) h=.ok (.value (.int k (a.tmod b))) h:=by
 simp[ZX,Yj,XY,Yw,Xj,ZU,eqGuard,binOp,Op.intDiv,hb,Bind.bind,Pure.pure,Sem.bind]
theorem bin_and:ZX P .and t ox oy (.int k a) (.int k b) h=.ok (.value (.int k (k.wrap (BitVec.ofInt k.bits a &&& BitVec.ofInt k.bits b).toNat))) h:=by
 simp[ZX,Yj,XY,Yw,Xj,ZU,eqGuard,binOp,Op.intBits,Bind.bind,Pure.pure,Sem.bind]
theorem D8b:ZX P .or t ox oy (.int k a) (.int k b) h=.ok (.value (.int k (k.wrap (BitVec.ofInt k.bits a ||| BitVec.ofInt k.bits b).toNat))) h:=by
 simp[ZX,Yj,XY,Yw,Xj,ZU,eqGuard,binOp,Op.intBits,Bind.bind,Pure.pure,Sem.bind]
theorem s6c:ZX P .xor t ox oy (.int k a) (.int k b) h=.ok (.value (.int k (k.wrap (BitVec.ofInt k.bits a ^^^ BitVec.ofInt k.bits b).toNat))) h:=by
 simp[ZX,Yj,XY,Yw,Xj,ZU,eqGuard,binOp,Op.intBits,Bind.bind,Pure.pure,Sem.bind]
theorem D5b {k':IntKind} (hb:¬ b<0):ZX P .shl t ox oy (.int k a) (.int k' b) h=.ok (.value (.int k (k.wrap (a*2 ^ (min b.toNat k.bits))))) h:=by
 simp[ZX,Yj,XY,Yw,Xj,ZU,eqGuard,binOp,Op.shift,hb,Bind.bind,Pure.pure,Sem.bind]
theorem E5b {k':IntKind} (hb:¬ b<0):ZX P .shr t ox oy (.int k a) (.int k' b) h=.ok (.value (.int k (a.fdiv (2 ^ (min b.toNat k.bits))))) h:=by
 simp[ZX,Yj,XY,Yw,Xj,ZU,eqGuard,binOp,Op.shift,hb,Bind.bind,Pure.pure,Sem.bind]
theorem k6c:ZX P .eql t ox oy (.int k a) (.int k b) h=.ok (.value (.bool (decide (a=b)))) h:=by
 simp[ZX,Yj,XY,Yw,Xj,ZU,eqGuard,binOp,Op.intCmp,Bind.bind,Pure.pure,Sem.bind]
 rfl
theorem q6c:ZX P .neq t ox oy (.int k a) (.int k b) h=.ok (.value (.bool (!decide (a=b)))) h:=by
 simp[ZX,Yj,XY,Yw,Xj,ZU,eqGuard,binOp,Op.intCmp,Bind.bind,Pure.pure,Sem.bind]
 rfl
theorem o6c:ZX P .lss t ox oy (.int k a) (.int k b) h=.ok (.value (.bool (decide (a<b)))) h:=by
 simp[ZX,Yj,XY,Yw,Xj,ZU,eqGuard,binOp,Op.intCmp,Bind.bind,Pure.pure,Sem.bind]
theorem n6c:ZX P .leq t ox oy (.int k a) (.int k b) h=.ok (.value (.bool (decide (a≤b)))) h:=by
 simp[ZX,Yj,XY,Yw,Xj,ZU,eqGuard,binOp,Op.intCmp,Bind.bind,Pure.pure,Sem.bind]
theorem m6c:ZX P .gtr t ox oy (.int k a) (.int k b) h=.ok (.value (.bool (decide (b<a)))) h:=by
 simp[ZX,Yj,XY,Yw,Xj,ZU,eqGuard,binOp,Op.intCmp,Bind.bind,Pure.pure,Sem.bind]
theorem l6c:ZX P .geq t ox oy (.int k a) (.int k b) h=.ok (.value (.bool (decide (b≤a)))) h:=by
 simp[ZX,Yj,XY,Yw,Xj,ZU,eqGuard,binOp,Op.intCmp,Bind.bind,Pure.pure,Sem.bind]
end Go.D
namespace Go.D
variable {P:Program} {h h':DHeap} {id o n z:Nat} {t:TypeId}
theorem Zz (h:DHeap) (x:DObj):(h.push x).get h.next=some x:=by simp[DHeap.push]
theorem a0a (h:DHeap) (x:DObj) (hi:id<h.next):(h.push x).get id=h.get id:=by simp[DHeap.push,Nat.ne_of_lt hi]
theorem m0a (h:DHeap) (x:DObj):(h.push x).next=h.next+1:=rfl
theorem Zj (h:DHeap) (x:DObj):(h.set id x).get id=some x:=by simp[DHeap.set]
theorem Zx (h:DHeap) (x:DObj) {i:Nat} (hi:i≠id):(h.set id x).get i=h.get i:=by simp[DHeap.set,hi]
theorem M6a (h:DHeap) (x:DObj):(h.set id x).next=h.next:=rfl
structure Ext (h h':DHeap):Prop where
 next:h.next≤h'.next
 ng:h'.ng=h.ng
 get:∀ i,i<h.next→h'.get i=h.get i
theorem Ext.refl (h:DHeap):Ext h h:=⟨Nat.le_refl _,rfl,fun _ _=>rfl⟩
theorem Ext.trans {h'':DHeap} (a:Ext h h') (b:Ext h' h''):Ext h h'':=⟨Nat.le_trans a.next b.next,b.ng.trans a.ng,fun i hi=>(b.get i (Nat.lt_of_lt_of_le hi a.next)).trans (a.get i hi)⟩
theorem Ext.push (a:Ext h h') (x:DObj):Ext h (h'.push x):=a.trans ⟨Nat.le_succ _,rfl,fun _ hi=>a0a _ _ hi⟩
theorem Ext.set (a:Ext h h') {x:DObj} (hi:h.next≤id):Ext h (h'.set id x):=⟨a.next,a.ng,fun i hl=>by rw[Zx _ _ (by omega)];exact a.get i hl⟩
def Zq (h:DHeap) (id o:Nat):Option Value:=
 match h.get id with
 | some (.row cells _ _)=>cells[o]?
 | _=>none
def Zk (h:DHeap) (id o n:Nat):Option Value:=
 match h.get id with
 | some (.row cells _ _)=>if o+n≤cells.length then some (.agg ((cells.drop o).take n).toArray) else none
 | _=>none
theorem Zy {cells:List Value} {ro:Bool} (hg:h.get id=some (.row cells z ro)):Zq h id o=cells[o]?:=by simp[Zq,hg]
theorem Zu {cells:List Value} {ro:Bool} (hg:h.get id=some (.row cells z ro)) (hl:o+n≤cells.length):Zk h id o n=some (.agg ((cells.drop o).take n).toArray):=by simp[Zk,hg,hl]
def storeAt (h:DHeap) (id o:Nat) (vs:List Value):Option DHeap:=
 match h.get id with
 | some (.row cells esz false)=>if o+vs.length≤cells.length∧vs.all Value.oneCell'=true then some (h.set id (.row (YZ cells o vs) esz false)) else none
 | _=>none
theorem b0a {cells vs:List Value} (hg:h.get id=some (.row cells z false)) (hl:o+vs.length≤cells.length) (hv:vs.all Value.oneCell'=true):storeAt h id o vs=some (h.set id (.row (YZ cells o vs) z false)):=by
 simp only[storeAt,hg]
 rw[if_pos ⟨hl,hv⟩]
def c3a (P:Program) (t:TypeId):Bool:=
 match P.underlying t,P.info? t with
 | some d,some i=>!S8a d&&i.size==1
 | _,_=>false
def Z6a (P:Program) (t:TypeId):Option Nat:=
 match P.underlying t,P.info? t with
 | some d,some i=>if S8a d then some i.size else none
 | _,_=>none
theorem B5a (h1:c3a P t=true):XX P t (.pointer (some ⟨id,o,none⟩)) h=Zq h id o:=by
 unfold c3a at h1
 split at h1
 ·rename_i d i e1 e2
  rw[Bool.and_eq_true]at h1
  have ha:S8a d=false:=by simpa using h1.1
  simp only[XX,Zq]
  cases h.get id with
  | none=>simp
  | some x=>cases x <;> simp[e1,e2,ha]
 ·cases h1
theorem A5a (h1:Z6a P t=some n):XX P t (.pointer (some ⟨id,o,none⟩)) h=Zk h id o n:=by
 unfold Z6a at h1
 split at h1
 ·rename_i d i e1 e2
  split at h1
  ·rename_i ha
   cases h1
   simp only[XX,Zk]
   cases h.get id with
   | none=>simp
   | some x=>cases x <;> simp[e1,e2,ha]
  ·cases h1
 ·cases h1
theorem R4a {v:Value} (h1:c3a P t=true) (hv:v.cells=#[v]):Yx P t (.pointer (some ⟨id,o,none⟩)) v h=storeAt h id o [v]:=by
 unfold c3a at h1
 split at h1
 ·rename_i d i e1 e2
  rw[Bool.and_eq_true]at h1
  have hs:i.size=1:=by simpa using h1.2
  simp only[Yx,storeAt,e2,hv,hs]
  cases h.get id with
  | none=>rfl
  | some x=>
    cases x with
    | row cells esz ro=>cases ro <;> simp[hs]
    | _=>rfl
 ·cases h1
theorem G9a {cs:Array Value} (h1:Z6a P t=some n) (hv:cs.size=n):Yx P t (.pointer (some ⟨id,o,none⟩)) (.agg cs) h=storeAt h id o cs.toList:=by
 unfold Z6a at h1
 split at h1
 ·rename_i d i e1 e2
  split at h1
  ·cases h1
   simp only[Yx,storeAt,e2,Value.cells]
   cases h.get id with
   | none=>rfl
   | some x=>
     cases x with
     | row cells esz ro=>cases ro <;> simp[hv]
     | _=>rfl
  ·cases h1
 ·cases h1
def a9a (P:Program) (s:TypeId) (f:Nat):Option Nat:=
 match P.underlying s with
 | some (.struct fields)=>
   match fields[f]? with
   | some fd=>
     match P.info? fd.type with
     | some i=>if i.size=0 then none else some fd.offset
     | none=>none
   | none=>none
 | _=>none
theorem Q1b {s:TypeId} {f off:Nat} (h1:a9a P s f=some off):M1a P s (.pointer (some ⟨id,o,none⟩)) f=some (.pointer (some ⟨id,o+off,none⟩)):=by
 unfold a9a at h1
 split at h1
 ·rename_i fields e1
  split at h1
  ·rename_i fd e2
   split at h1
   ·rename_i i e3
    split at h1
    ·cases h1
    ·rename_i hz;cases h1;simp only[M1a,e1,e2,e3,hz,if_false]
   ·cases h1
  ·cases h1
 ·cases h1
def M0a (P:Program) (t:TypeId):Option Nat:=
 match P.underlying t with
 | some (.slice e)=>(P.info? e).map (·.size)
 | _=>none
theorem w2a {len cap:Nat} {k:IntKind} {i:Int} (h1:M0a P t=some z) (h2:0≤i) (h3:i<(len:Int)):ZQ P t (.slice (some ⟨id,o,none⟩) len cap) (.int k i)=some (.pointer (some ⟨id,o+i.toNat*z,none⟩)):=by
 unfold M0a at h1
 split at h1
 ·rename_i e e1
  cases e2:P.info? e with
  | none=>rw[e2]at h1;cases h1
  | some i'=>
    rw[e2]at h1
    cases h1
    simp only[ZQ,e1,e2]
    rw[if_pos ⟨h2,h3⟩]
 ·cases h1
def Z1a (P:Program) (t:TypeId):Bool:=
 match P.underlying t with
 | some (.slice _)=>true
 | _=>false
theorem B6a {ts:Array TypeId} {a:Option Addr} {len cap:Nat} (ht:ts[0]? = some t) (h1:Z1a P t=true):dLen P ts (.slice a len cap) h=some (goInt len):=by
 unfold Z1a at h1
 split at h1
 ·rename_i e e1
  simp[dLen,ht,e1]
 ·cases h1
end Go.D
namespace Go.D
variable {P:Program} {h h':DHeap} {id o n z:Nat} {t:TypeId}
def zeroCells (P:Program) (t:TypeId):Option (List Value):=
 match P.info? t with
 | some i=>
   match i.zero with
   | some z=>some z.cells.toList
   | none=>none
 | none=>none
theorem A8a {cs:List Value} (h1:zeroCells P t=some cs) (h2:cs.all Yw=true) (h3:i1a P t=z):k1a P t h=some (.pointer (some ⟨h.next,0,none⟩),h.push (.row cs z false)):=by
 unfold zeroCells at h1
 split at h1
 ·rename_i i e1
  split at h1
  ·rename_i zv e2
   cases h1
   simp only[k1a,e1,e2,h2,if_true,h3]
  ·cases h1
 ·cases h1
end Go.D
namespace Go.D
inductive VIn (S:Nat→Prop):Value→Prop
 | bool (b):VIn S (.bool b)
 | int (k n):VIn S (.int k n)
 | float (k b):VIn S (.float k b)
 | complex (k a b):VIn S (.complex k a b)
 | string (s):VIn S (.string s)
 | nilFunc:VIn S .nilFunc
 | nilIface:VIn S .nilIface
 | pnil:VIn S (.pointer none)
 | ptr {i o:Nat} (h:S i):VIn S (.pointer (some ⟨i,o,none⟩))
 | snil:VIn S (.slice none 0 0)
 | slice {i o n c:Nat} (h:S i):VIn S (.slice (some ⟨i,o,none⟩) n c)
 | mnil:VIn S (.map none)
 | map {i:Nat} (h:S i):VIn S (.map (some i))
 | func {fn:Fn} {first cap:Array Value} (hf:∀ l,fn≠.yield l) (h1:∀ v∈first,VIn S v) (h2:∀ v∈cap,VIn S v):VIn S (.func fn first cap)
 | yield {i:Nat} (h:S i):VIn S (.func (.yield i) #[] #[])
 | iface {t:TypeId} {v:Value} (h:VIn S v):VIn S (.iface t v)
 | agg {cs:Array Value} (h:∀ v∈cs,VIn S v):VIn S (.agg cs)
 | tuple {cs:Array Value} (h:∀ v∈cs,VIn S v):VIn S (.tuple cs)
theorem VIn.mono {S S':Nat→Prop} (hs:∀ i,S i→S' i) {v:Value} (h:VIn S v):VIn S' v:=by
 induction h with
 | bool b=>exact .bool b
 | int k n=>exact .int k n
 | float k b=>exact .float k b
 | complex k a b=>exact .complex k a b
 | string s=>exact .string s
 | nilFunc=>exact .nilFunc
 | nilIface=>exact .nilIface
 | pnil=>exact .pnil
 | ptr h=>exact .ptr (hs _ h)
 | snil=>exact .snil
 | slice h=>exact .slice (hs _ h)
 | mnil=>exact .mnil
 | map h=>exact .map (hs _ h)
 | func hf _ _ i1 i2=>exact .func hf i1 i2
 | yield h=>exact .yield (hs _ h)
 | iface _ ih=>exact .iface ih
 | agg _ ih=>exact .agg ih
 | tuple _ ih=>exact .tuple ih
structure Rep (α:Type) where
 z:Nat
 rd:(Nat→Prop)→DHeap→List Value→α→Prop
 len:∀ {S h cs x},rd S h cs x→cs.length=z
 one:∀ {S h cs x},rd S h cs x→cs.all Value.oneCell'=true
 mono:∀ {S S':Nat→Prop} {h h':DHeap} {cs x},rd S h cs x→(∀ i,S i→S' i∧h'.get i=h.get i)→rd S' h' cs x
 vin:∀ {S h cs x},rd S h cs x→∀ v∈cs,VIn S v
def inK (k:IntKind) (n:Int):Prop:=k.min≤n∧n≤k.max
def rP {α β:Type} (R:Rep α) (Q:Rep β):Rep (α × β) where
 z:=R.z+Q.z
 rd S h cs x:=∃ c1 c2,cs=c1++c2∧R.rd S h c1 x.1∧Q.rd S h c2 x.2
 len h:=by obtain ⟨c1,c2,rfl,a,b⟩:=h;simp[R.len a,Q.len b]
 one h:=by obtain ⟨c1,c2,rfl,a,b⟩:=h;rw[List.all_append,R.one a,Q.one b];rfl
 mono h m:=by obtain ⟨c1,c2,e,a,b⟩:=h;exact ⟨c1,c2,e,R.mono a m,Q.mono b m⟩
 vin h v hv:=by
  obtain ⟨c1,c2,rfl,a,b⟩:=h
  rcases List.mem_append.1 hv with hv | hv
  ·exact R.vin a v hv
  ·exact Q.vin b v hv
def rM {α β:Type} (R:Rep α) (f:β→α):Rep β where
 z:=R.z
 rd S h cs x:=R.rd S h cs (f x)
 len h:=R.len h
 one h:=R.one h
 mono h m:=R.mono h m
 vin h:=R.vin h
def Els {α:Type} (R:Rep α) (S:Nat→Prop) (h:DHeap):List Value→List α→Prop
 | cs,[]=>cs=[]
 | cs,x :: l=>∃ c1 c2,cs=c1++c2∧R.rd S h c1 x∧Els R S h c2 l
section
variable {α:Type} {R:Rep α} {S S':Nat→Prop} {h h':DHeap}
theorem Els.len:∀ {cs:List Value} {l:List α},Els R S h cs l→cs.length=l.length*R.z
 | _,[],e=>by rw[show _=_ from e];simp
 | _,_ :: l,⟨c1,c2,e,a,b⟩=>by rw[e,List.length_append,R.len a,Els.len b,List.length_cons,Nat.succ_mul];omega
theorem Els.one:∀ {cs:List Value} {l:List α},Els R S h cs l→cs.all Value.oneCell'=true
 | _,[],e=>by rw[show _=_ from e];rfl
 | _,_ :: l,⟨c1,c2,e,a,b⟩=>by rw[e,List.all_append,R.one a,Els.one b];rfl
theorem Els.mono (m:∀ i,S i→S' i∧h'.get i=h.get i):∀ {cs:List Value} {l:List α},Els R S h cs l→Els R S' h' cs l
 | _,[],e=>e
 | _,_ :: l,⟨c1,c2,e,a,b⟩=>⟨c1,c2,e,R.mono a m,Els.mono m b⟩
theorem Els.vin:∀ {cs:List Value} {l:List α},Els R S h cs l→∀ v∈cs,VIn S v
 | _,[],e,v,hv=>by rw[show _=_ from e]at hv;simp at hv
 | _,_ :: l,⟨c1,c2,e,a,b⟩,v,hv=>by
   rw[e]at hv
   rcases List.mem_append.1 hv with hv | hv
   ·exact R.vin a v hv
   ·exact Els.vin b v hv
theorem Els.append:∀ {cs ds:List Value} {l k:List α},Els R S h cs l→Els R S h ds k→Els R S h (cs++ds) (l++k)
 | _,ds,[],k,e,g=>by rw[show _=_ from e];exact g
 | _,ds,_ :: l,k,⟨c1,c2,e,a,b⟩,g=>⟨c1,c2++ds,by rw[e,List.append_assoc],a,Els.append b g⟩
theorem Els.single {cs:List Value} {x:α} (a:R.rd S h cs x):Els R S h cs [x]:=⟨cs,[],by simp,a,rfl⟩
theorem Els.take:∀ (n:Nat) {cs:List Value} {l:List α},Els R S h cs l→Els R S h (cs.take (n*R.z)) (l.take n)
 | 0,_,_,_=>by simp[Els]
 | n+1,_,[],e=>by rw[show _=_ from e];simp[Els]
 | n+1,_,x :: l,⟨c1,c2,e,a,b⟩=>by
   refine ⟨c1,c2.take (n*R.z),?_,a,Els.take n b⟩
   rw[e,List.take_append,R.len a,List.take_of_length_le (by rw[R.len a];rw[Nat.succ_mul];omega),Nat.succ_mul]
   congr 2;omega
theorem Els.drop:∀ (n:Nat) {cs:List Value} {l:List α},Els R S h cs l→Els R S h (cs.drop (n*R.z)) (l.drop n)
 | 0,_,_,e=>by simpa using e
 | n+1,_,[],e=>by rw[show _=_ from e];simp[Els]
 | n+1,_,x :: l,⟨c1,c2,e,a,b⟩=>by
   have:=Els.drop n b
   rw[e,List.drop_append,R.len a,List.drop_of_length_le (by rw[R.len a];rw[Nat.succ_mul];omega),Nat.succ_mul]
   rw[show n*R.z+R.z - R.z=n*R.z by omega]
   simpa using this
theorem Els.get {cs:List Value} {l:List α} (e:Els R S h cs l) {i:Nat} {x:α} (hx:l[i]? = some x):R.rd S h ((cs.drop (i*R.z)).take R.z) x:=by
 have h1:=Els.drop i e
 have hl:=(List.getElem?_eq_some_iff.1 hx).1
 rw[List.drop_eq_getElem_cons hl]at h1
 obtain ⟨c1,c2,e1,a,b⟩:=h1
 rw[e1,List.take_append,R.len a,List.take_of_length_le (by rw[R.len a];omega)]
 have:l[i]=x:=by rw[List.getElem?_eq_getElem hl]at hx;exact Option.some.inj hx
 simpa [this] using a
theorem Els.set:∀ {cs ds:List Value} {l:List α} (i:Nat) {x:α},Els R S h cs l→R.rd S h ds x→i<l.length→Els R S h (cs.take (i*R.z)++ds++cs.drop (i*R.z+R.z)) (l.set i x)
 | _,ds,y :: l,0,x,⟨c1,c2,e,a,b⟩,d,_=>by
   refine ⟨ds,c2,?_,d,b⟩
   have:R.z=c1.length:=(R.len a).symm
   rw[e];simp[this]
 | _,ds,y :: l,i+1,x,⟨c1,c2,e,a,b⟩,d,hi=>by
   refine ⟨c1,_,?_,a,Els.set i b d (by simpa using hi)⟩
   have hz:c1.length=R.z:=R.len a
   rw[e,Nat.succ_mul,List.take_append,List.drop_append,hz,List.take_of_length_le (by omega),List.drop_of_length_le (by omega)]
   rw[show i*R.z+R.z - R.z=i*R.z by omega,show i*R.z+R.z+R.z - R.z=i*R.z+R.z by omega]
   simp
end
end Go.D
namespace Go.D
variable {P:Program} {α:Type} {R:Rep α} {S S':Nat→Prop} {h h':DHeap} {v:Value} {l k:List α} {t:TypeId} {id o n z:Nat}
def At (R:Rep α) (S:Nat→Prop) (h:DHeap) (id o:Nat) (x:α):Prop:=
 ∃ cells esz ro,h.get id=some (.row cells esz ro)∧o+R.z≤cells.length∧R.rd S h ((cells.drop o).take R.z) x
theorem At.mono {x:α} (a:At R S h id o x) (hi:h'.get id=h.get id) (m:∀ i,S i→S' i∧h'.get i=h.get i):At R S' h' id o x:=by
 obtain ⟨cells,esz,ro,g,b,c⟩:=a
 exact ⟨cells,esz,ro,hi.trans g,b,R.mono c m⟩
def Sl (R:Rep α) (S:Nat→Prop) (h:DHeap) (v:Value) (l:List α):Prop:=
 (v=.slice none 0 0∧l=[])∨∃ id o cap cells esz ro,v=.slice (some ⟨id,o,none⟩) l.length cap∧S id∧h.get id=some (.row cells esz ro)∧(ro=true∨esz=R.z) ∧
   o+l.length*R.z≤cells.length∧Els R S h ((cells.drop o).take (l.length*R.z)) l
def rSl (R:Rep α):Rep (List α) where
 z:=1
 rd S h cs l:=∃ v,cs=[v]∧Sl R S h v l
 len h:=by obtain ⟨v,rfl,_⟩:=h;rfl
 one h:=by
  obtain ⟨v,rfl,a⟩:=h
  rcases a with ⟨rfl,_⟩ | ⟨id,o,cap,cells,esz,ro,rfl,_⟩ <;> rfl
 mono h m:=by
  obtain ⟨v,e,a⟩:=h
  refine ⟨v,e,?_⟩
  rcases a with a | ⟨id,o,cap,cells,esz,ro,e,a,b,c,d,f⟩
  ·exact .inl a
  ·exact .inr ⟨id,o,cap,cells,esz,ro,e,(m id a).1,(m id a).2.trans b,c,d,f.mono m⟩
 vin h v hv:=by
  obtain ⟨u,rfl,a⟩:=h
  simp at hv;subst hv
  rcases a with ⟨rfl,_⟩ | ⟨id,o,cap,cells,esz,ro,rfl,b,_⟩
  ·exact .snil
  ·exact .slice b
theorem Sl.vin (a:Sl R S h v l):VIn S v:=(rSl R).vin (cs:=[v]) (x:=l) ⟨v,rfl,a⟩ v (by simp)
theorem Sl.mono (a:Sl R S h v l) (m:∀ i,S i→S' i∧h'.get i=h.get i):Sl R S' h' v l:=by
 obtain ⟨_,e,b⟩:=(rSl R).mono (cs:=[v]) (x:=l) ⟨v,rfl,a⟩ m
 cases e;exact b
theorem Sl.nil (R:Rep α) (S:Nat→Prop) (h:DHeap):Sl R S h (.slice none 0 0) []:=.inl ⟨rfl,rfl⟩
theorem Sl.lenV (a:Sl R S h v l):lenV v=some l.length:=by
 rcases a with ⟨rfl,rfl⟩ | ⟨id,o,cap,cells,esz,ro,rfl,_⟩ <;> rfl
theorem Sl.isSlice (a:Sl R S h v l):∃ a c,v=.slice a l.length c:=by
 rcases a with ⟨rfl,rfl⟩ | ⟨id,o,cap,cells,esz,ro,rfl,_⟩
 ·exact ⟨_,_,rfl⟩
 ·exact ⟨_,_,rfl⟩
theorem Sl.dLen {ts:Array TypeId} (a:Sl R S h v l) (ht:ts[0]? = some t) (h1:Z1a P t=true):dLen P ts v h=some (.int .i64 l.length):=by
 obtain ⟨x,c,rfl⟩:=a.isSlice
 exact B6a ht h1
theorem Sl.at (a:Sl R S h v l) {i:Nat} {x:α} (hx:l[i]? = some x):∃ id o cap,v=.slice (some ⟨id,o,none⟩) l.length cap∧S id∧At R S h id (o+i*R.z) x:=by
 have hl:=(List.getElem?_eq_some_iff.1 hx).1
 rcases a with ⟨rfl,rfl⟩ | ⟨id,o,cap,cells,esz,ro,rfl,b,c,d,e,f⟩
 ·simp at hl
 ·refine ⟨id,o,cap,rfl,b,cells,esz,ro,c,?_,?_⟩
  ·have:(i+1)*R.z≤l.length*R.z:=Nat.mul_le_mul_right _ hl
   rw[Nat.succ_mul]at this;omega
  ·have:=f.get hx
   rw[List.drop_take,List.drop_drop,List.take_take]at this
   have h2:(i+1)*R.z≤l.length*R.z:=Nat.mul_le_mul_right _ hl
   rw[Nat.succ_mul]at h2
   rw[Nat.min_eq_left (by omega)]at this
   exact this
theorem Sl.indexAddr (a:Sl R S h v l) (hz:M0a P t=some R.z) {k:IntKind} {i:Int} {x:α} (h0:0≤i) (hx:l[i.toNat]? = some x):∃ id o,ZQ P t v (.int k i)=some (.pointer (some ⟨id,o,none⟩))∧S id∧At R S h id o x:=by
 obtain ⟨id,o,cap,rfl,b,c⟩:=a.at hx
 have hl:=(List.getElem?_eq_some_iff.1 hx).1
 exact ⟨id,_,w2a hz h0 (by omega),b,c⟩
theorem Sl.src (a:Sl R S h v l):∃ cs,K0a R.z l.length v h=some cs∧Els R S h cs l:=by
 rcases a with ⟨rfl,rfl⟩ | ⟨id,o,cap,cells,esz,ro,rfl,b,c,d,e,f⟩
 ·exact ⟨[],rfl,rfl⟩
 ·refine ⟨_,?_,f⟩
  simp only[K0a,c]
  rw[if_pos e]
theorem At.load_agg {x:α} (a:At R S h id o x):∃ cs:List Value,Zk h id o R.z=some (.agg cs.toArray)∧R.rd S h cs x:=by
 obtain ⟨cells,esz,ro,g,b,c⟩:=a
 exact ⟨_,Zu g b,c⟩
theorem Sl.slice (a:Sl R S h v l) (hz:M0a P t=some R.z) (hp:0<R.z) {lo hi:Option Value} {i j:Nat} (hj:Yu hi l.length l.length=some j) (hi2:Yu lo 0 j=some i) (hij:i≤j) (hjl:j≤l.length) :
 ∃ v',Xw P t v lo hi none h=some v'∧Sl R S h v' ((l.take j).drop i):=by
 unfold M0a at hz
 split at hz
 ·rename_i e e1
  cases e2:P.info? e with
  | none=>rw[e2]at hz;cases hz
  | some inf=>
    rw[e2]at hz
    have hsz:inf.size=R.z:=by simpa using hz
    rcases a with ⟨rfl,rfl⟩ | ⟨id,o,cap,cells,esz,ro,rfl,b,c,d,e,f⟩
    ·have hj':Yu hi 0 0=some j:=hj
     refine ⟨.slice none 0 0,?_,?_⟩
     ·simp only[Xw,e1,e2,hj',hi2]
     ·simpa using Sl.nil R S h
    ·have hfit:C1a h id inf.size=true:=by
      simp only[C1a,c,hsz]
      rcases d with d | d <;> simp[d]
     refine ⟨.slice (some ⟨id,o+i*inf.size,none⟩) (j - i) (if j=l.length∧cap=l.length then j - i else j - i+1),?_,.inr ⟨id,o+i*R.z,(if j=l.length∧cap=l.length then j - i else j - i+1),cells,esz,ro,?_,b,c,d,?_,?_⟩⟩
     ·simp only[Xw,e1,e2]
      rw[if_pos ⟨hfit,by rw[hsz];exact hp⟩]
      simp only[Yu]at hj hi2 ⊢
      simp only[hj,hi2]
     ·rw[hsz];simp[List.length_take,Nat.min_eq_left hjl]
     ·have h1:((l.take j).drop i).length=j - i:=by simp[Nat.min_eq_left hjl]
      rw[h1]
      have h2:j*R.z≤l.length*R.z:=Nat.mul_le_mul_right _ hjl
      have h3:i*R.z+(j - i)*R.z=j*R.z:=by rw[← Nat.add_mul];congr 1;omega
      omega
     ·have h1:((l.take j).drop i).length=j - i:=by simp[Nat.min_eq_left hjl]
      have g:=(f.take j).drop i
      have h2:j*R.z≤l.length*R.z:=Nat.mul_le_mul_right _ hjl
      have h3:i*R.z+(j - i)*R.z=j*R.z:=by rw[← Nat.add_mul];congr 1;omega
      rw[List.take_take,Nat.min_eq_left h2,List.drop_take,List.drop_drop]at g
      rw[h1]
      rw[show j*R.z - i*R.z=(j - i)*R.z by omega]at g
      exact g
 ·cases hz
def Owns (R:Rep α) (S:Nat→Prop) (h:DHeap) (v:Value) (l:List α) (w:Option Nat):Prop:=
 (v=.slice none 0 0∧l=[]∧w=none)∨(w=none∧(∃ a,v=.slice (some a) l.length l.length)∧Sl R S h v l)∨∃ id cap cells,v=.slice (some ⟨id,0,none⟩) l.length cap∧w=some id∧id<h.next∧h.get id=some (.row cells R.z false)∧l.length*R.z≤cells.length ∧
   Els R S h (cells.take (l.length*R.z)) l
theorem Owns.nil (R:Rep α) (S:Nat→Prop) (h:DHeap):Owns R S h (.slice none 0 0) [] none:=.inl ⟨rfl,rfl,rfl⟩
theorem Owns.lt {w:Option Nat} (a:Owns R S h v l w):∀ i,w=some i→i<h.next:=by
 rcases a with ⟨rfl,rfl,rfl⟩ | ⟨rfl,_⟩ | ⟨id,cap,cells,rfl,rfl,b,_⟩
 ·intro i hi;cases hi
 ·intro i hi;cases hi
 ·intro i hi;cases hi;exact b
theorem Owns.sl {w:Option Nat} (a:Owns R S h v l w):Sl R (fun i=>S i∨w=some i) h v l:=by
 rcases a with ⟨rfl,rfl,rfl⟩ | ⟨rfl,_,a⟩ | ⟨id,cap,cells,rfl,rfl,b,c,d,e⟩
 ·exact .nil _ _ _
 ·exact a.mono fun i hi=>⟨.inl hi,rfl⟩
 ·exact .inr ⟨id,0,cap,cells,R.z,false,rfl,.inr rfl,c,.inr rfl,by omega,by simpa using e.mono fun i hi=>⟨.inl hi,rfl⟩⟩
theorem Owns.mono {w:Option Nat} (a:Owns R S h v l w) (hn:h.next≤h'.next) (hw:∀ i,w=some i→h'.get i=h.get i) (m:∀ i,S i→S' i∧h'.get i=h.get i):Owns R S' h' v l w:=by
 rcases a with a | ⟨rfl,a,b⟩ | ⟨id,cap,cells,rfl,rfl,b,c,d,e⟩
 ·exact .inl a
 ·exact .inr (.inl ⟨rfl,a,b.mono m⟩)
 ·exact .inr (.inr ⟨id,cap,cells,rfl,rfl,Nat.lt_of_lt_of_le b hn,(hw id rfl).trans c,d,e.mono m⟩)
def K2a (P:Program) (ts:Array TypeId):Option (Nat × Nat):=
 match ts[0]? with
 | none=>none
 | some st=>
   match P.underlying st with
   | some (.slice e)=>
     match P.info? e with
     | some i=>
       match i.zero with
       | some z=>if p6a P ts[1]? = true∧0<i.size∧z.cells.size=i.size then some (i.size,i.bytes) else none
       | none=>none
     | none=>none
   | _=>none
structure Grew (h h':DHeap) (w:Option Nat):Prop where
 next:h.next≤h'.next
 ng:h'.ng=h.ng
 get:∀ i,i<h.next→w≠some i→h'.get i=h.get i
theorem Grew.refl (h:DHeap) (w:Option Nat):Grew h h w:=⟨Nat.le_refl _,rfl,fun _ _ _=>rfl⟩
theorem Grew.ext (g:Grew h h' none):Ext h h':=⟨g.next,g.ng,fun i hi=>g.get i hi (by simp)⟩
theorem Owns.append {w:Option Nat} {ts:Array TypeId} {b:Nat} {x:Value} {new:List Value} (a:Owns R S h v l w) (hT:K2a P ts=some (R.z,b)) (hS:∀ i,S i→i<h.next∧w≠some i)
 (hx:D.lenV x=some k.length) (hs:K0a R.z k.length x h=some new) (he:Els R S h new k) (hb:(l.length+k.length)*b≤2 ^ 47) (hb2:l.length+k.length≤9223372036854775807) :
 ∃ v' h' w',u0a P ts v x h=some (v',h')∧Grew h h' w∧Owns R S h' v' (l++k) w'∧(k=[]∧w'=w∧v'=v∧h'=h∨w'=some h.next∧h'.next=h.next+1):=by
 unfold K2a at hT
 split at hT
 ·cases hT
 ·rename_i st e0
  split at hT
  ·rename_i e e1
   split at hT
   ·rename_i inf e2
    split at hT
    ·rename_i zv e3
     split at hT
     ·rename_i hc
      obtain ⟨c1,c2,c3⟩:=hc
      simp only[Option.some.injEq,Prod.mk.injEq]at hT
      obtain ⟨hz,rfl⟩:=hT
      rw[← hz]at hs
      have hcond:¬ (zv.cells.size≠inf.size∨new.all Value.oneCell'=false):=by rw[he.one];simp[c3]
      have hlen:new.length=k.length*inf.size:=by rw[he.len,hz]
      by_cases hk:k.length=0
      ·have hk':k=[]:=List.length_eq_zero_iff.1 hk
       subst hk'
       refine ⟨v,h,w,?_,.refl _ _,by simpa using a,.inl ⟨rfl,rfl,rfl,rfl⟩⟩
       have hsl:∃ a n c,v=.slice a n c:=by
        rcases a with ⟨rfl,_⟩ | ⟨_,⟨a,rfl⟩,_⟩ | ⟨id,cap,cells,rfl,_⟩ <;> exact ⟨_,_,_,rfl⟩
       obtain ⟨aa,nn,cc,rfl⟩:=hsl
       simp only[u0a,e0,e1,e2,hx,c1,c2,and_self,if_true,hs,e3]
       rw[if_neg hcond,if_pos hk]
      ·rcases a with ⟨rfl,rfl,rfl⟩ | ⟨rfl,⟨ax,rfl⟩,a⟩ | ⟨id,cap,cells,rfl,rfl,g1,g2,g3,g4⟩
       ·refine ⟨.slice (some ⟨h.next,0,none⟩) k.length (k.length+1),h.push (.row new R.z false),some h.next,?_,⟨Nat.le_succ _,rfl,fun i hi _=>a0a _ _ hi⟩,.inr (.inr ⟨h.next,k.length+1,new,by simp,rfl,Nat.lt_succ_self _,Zz _ _,?_,?_⟩),.inr ⟨rfl,rfl⟩⟩
        ·simp only[u0a,e0,e1,e2,hx,c1,c2,and_self,if_true,hs,e3]
         rw[if_neg hcond,if_neg hk,if_pos ⟨by simpa using hb,by simpa using hb2⟩,hz]
        ·simp[hlen,hz]
        ·rw[List.take_of_length_le (by simp[hlen,hz])]
         exact he.mono fun i hi=>⟨hi,a0a _ _ (hS i hi).1⟩
       ·rcases a with ⟨hh,_⟩ | ⟨id,o,cap,cells,esz,ro,hh,g1,g2,g3,g4,g5⟩
        ·cases hh
        ·cases hh
         obtain ⟨c',hc'⟩:∃ c',(cells.drop o).take (l.length*R.z)++new=c':=⟨_,rfl⟩
         have hels:Els R S h c' (l++k):=by rw[← hc'];exact g5.append he
         have hlen2:c'.length=(l++k).length*R.z:=hels.len
         have hcx:(cells.drop o).take (l.length*inf.size)++new=c':=by rw[hz];exact hc'
         have hfull:Els R S h (c'.take ((l++k).length*R.z)) (l++k):=by rw[List.take_of_length_le (by rw[hlen2];exact Nat.le_refl _)];exact hels
         refine ⟨.slice (some ⟨h.next,0,none⟩) (l.length+k.length) (l.length+k.length+1),h.push (.row c' R.z false),some h.next,?_,⟨Nat.le_succ _,rfl,fun i hi _=>a0a _ _ hi⟩,
          .inr (.inr ⟨h.next,l.length+k.length+1,c',by simp,rfl,Nat.lt_succ_self _,Zz _ _,by rw[hlen2];exact Nat.le_refl _,hfull.mono fun i hi=>⟨hi,a0a _ _ (hS i hi).1⟩⟩),.inr ⟨rfl,rfl⟩⟩
         simp only[u0a,e0,e1,e2,hx,c1,c2,and_self,if_true,hs,e3]
         rw[if_neg hcond,if_neg hk]
         simp only[g2]
         rw[if_pos ⟨by rw[hz];omega,hb,hb2⟩,hcx,hz]
       ·obtain ⟨c',hc'⟩:∃ c',(cells.drop 0).take (l.length*R.z)++new=c':=⟨_,rfl⟩
        have hels:Els R S h c' (l++k):=by rw[← hc'];simpa using g4.append he
        have hlen2:c'.length=(l++k).length*R.z:=hels.len
        have hcx:(cells.drop 0).take (l.length*inf.size)++new=c':=by rw[hz];exact hc'
        have hfull:Els R S h (c'.take ((l++k).length*R.z)) (l++k):=by rw[List.take_of_length_le (by rw[hlen2];exact Nat.le_refl _)];exact hels
        by_cases hcap:cap=l.length
        ·subst hcap
         refine ⟨.slice (some ⟨h.next,0,none⟩) (l.length+k.length) (l.length+k.length+1),h.push (.row c' R.z false),some h.next,?_,⟨Nat.le_succ _,rfl,fun i hi _=>a0a _ _ hi⟩,
          .inr (.inr ⟨h.next,l.length+k.length+1,c',by simp,rfl,Nat.lt_succ_self _,Zz _ _,by rw[hlen2];exact Nat.le_refl _,hfull.mono fun i hi=>⟨hi,a0a _ _ (hS i hi).1⟩⟩),.inr ⟨rfl,rfl⟩⟩
         simp only[u0a,e0,e1,e2,hx,c1,c2,and_self,if_true,hs,e3]
         rw[if_neg hcond,if_neg hk]
         simp only[g2]
         rw[if_pos ⟨by rw[hz];omega,hb,hb2⟩,hcx,hz]
        ·refine ⟨.slice (some ⟨h.next,0,none⟩) (l.length+k.length) (l.length+k.length+1),(h.set id .dead).push (.row c' R.z false),some h.next,?_,
          ⟨Nat.le_succ _,rfl,fun i hi hne=>?_⟩,.inr (.inr ⟨h.next,l.length+k.length+1,c',by simp,rfl,Nat.lt_succ_self _,Zz (h.set id .dead) _,by rw[hlen2];exact Nat.le_refl _,hfull.mono fun i hi=>⟨hi,?_⟩⟩),.inr ⟨rfl,rfl⟩⟩
         ·simp only[u0a,e0,e1,e2,hx,c1,c2,and_self,if_true,hs,e3]
          rw[if_neg hcond,if_neg hk]
          simp only[g2]
          rw[if_pos ⟨by rw[hz];omega,hb,hb2⟩,if_neg hcap,if_pos ⟨trivial,hz.symm⟩,hcx,hz]
         ·rw[a0a (h.set id .dead) _ (show i<(h.set id .dead).next from hi),Zx _ _ (fun e=>hne (by rw[e]))]
         ·rw[a0a (h.set id .dead) _ (show i<(h.set id .dead).next from (hS i hi).1),Zx _ _ (fun e=>(hS i hi).2 (by rw[e]))]
     ·cases hT
    ·cases hT
   ·cases hT
  ·cases hT
end Go.D
namespace Go.D
variable {P:Program} {nt:Nat}
def U9b:Op→Bool
 | .call ⟨.builtin .min,_,_⟩ | .call ⟨.builtin .max,_,_⟩=>true
 | _=>false
def Yq (o:Oper):Oper:=⟨o.dst,o.op,if U9b o.op then o.type else 0,"",#[],o.guard⟩
def strip:Code→Code
 | .seq x y=>.seq (strip x) (strip y)
 | .cond c x y=>.cond c (strip x) (strip y)
 | .block id c=>.block id (strip c)
 | .loop c=>.loop (strip c)
 | .region id ops false=>.region 0 (ops.map Yq) false
 | c=>c
theorem D3a (ρ:Operand→Option Value) (o:Oper) (h:DHeap):dOp P ρ (Yq o) h=dOp P ρ o h:=by
 rcases o with ⟨dst,op,ty,pos,aft,gd⟩
 cases op with
 | call c=>
   rcases c with ⟨cal,args,ts⟩
   cases cal with
   | builtin b=>cases b <;> rfl
   | value f=>rfl
   | _=>rfl
 | _=>rfl
theorem K1a (ops:Array Oper) (fr:Fr) (o:Oper):ZK (ops.map Yq) fr (Yq o)=ZK ops fr o:=by
 have hd:∀ j:Nat,((ops.map Yq)[j]?).bind (·.dst)=(ops[j]?).bind (·.dst):=by
  intro j
  rw[Array.getElem?_map]
  cases ops[j]? <;> rfl
 unfold ZK
 show (match o.guard with | none=>_ | some (j,want)=>_)=_
 cases o.guard with
 | none=>rfl
 | some g=>simp only[hd]
theorem C0a:∀ c:Code,p0a nt (strip c)=p0a nt c
 | .seq x y=>by simp only[strip,p0a,C0a x,C0a y]
 | .cond c x y=>by simp only[strip,p0a,C0a x,C0a y]
 | .block id c=>by simp only[strip,p0a,C0a c]
 | .loop c=>by simp only[strip,p0a,C0a c]
 | .region id ops false=>by
   simp only[strip,p0a,I0a,Array.toList_map,List.all_map]
   rfl
 | .region id ops true=>rfl
 | .skip=>rfl
 | .label _=>rfl
 | .exit _=>rfl
 | .ret=>rfl
 | .rangeFunc ..=>rfl
 | .scope _=>rfl
 | .goto _=>rfl
 | .refuse _=>rfl
end Go.D
namespace Go.D
inductive VRen (π:Nat→Option Nat):Value→Value→Prop
 | bool (b):VRen π (.bool b) (.bool b)
 | int (k n):VRen π (.int k n) (.int k n)
 | float (k b):VRen π (.float k b) (.float k b)
 | complex (k a b):VRen π (.complex k a b) (.complex k a b)
 | string (s):VRen π (.string s) (.string s)
 | nilFunc:VRen π .nilFunc .nilFunc
 | nilIface:VRen π .nilIface .nilIface
 | pnil:VRen π (.pointer none) (.pointer none)
 | ptr {j i o:Nat} (h:π j=some i):VRen π (.pointer (some ⟨j,o,none⟩)) (.pointer (some ⟨i,o,none⟩))
 | snil:VRen π (.slice none 0 0) (.slice none 0 0)
 | slice {j i o len c c1:Nat} (h:π j=some i) (hc:c=len→c1=len):VRen π (.slice (some ⟨j,o,none⟩) len c) (.slice (some ⟨i,o,none⟩) len c1)
 | mnil:VRen π (.map none) (.map none)
 | map {j i:Nat} (h:π j=some i):VRen π (.map (some j)) (.map (some i))
 | func {fn:Fn} {first cap first' cap':Array Value} (hf:∀ l,fn≠.yield l) (h1:first.size=first'.size) (h2:∀ (i:Nat) v v',first[i]? = some v→first'[i]? = some v'→VRen π v v')
    (h3:cap.size=cap'.size) (h4:∀ (i:Nat) v v',cap[i]? = some v→cap'[i]? = some v'→VRen π v v'):VRen π (.func fn first cap) (.func fn first' cap')
 | yield {j i:Nat} (h:π j=some i):VRen π (.func (.yield j) #[] #[]) (.func (.yield i) #[] #[])
 | iface {t:TypeId} {v v':Value} (h:VRen π v v'):VRen π (.iface t v) (.iface t v')
 | agg {cs cs':Array Value} (h1:cs.size=cs'.size) (h2:∀ (i:Nat) v v',cs[i]? = some v→cs'[i]? = some v'→VRen π v v'):VRen π (.agg cs) (.agg cs')
 | tuple {cs cs':Array Value} (h1:cs.size=cs'.size) (h2:∀ (i:Nat) v v',cs[i]? = some v→cs'[i]? = some v'→VRen π v v'):VRen π (.tuple cs) (.tuple cs')
def Inj.via (ι:Inj) (π:Nat→Option Nat):Inj:=fun j=>(π j).bind ι
theorem Inj.via_some {ι:Inj} {π:Nat→Option Nat} {j:Nat} {e:Ent} (h:ι.via π j=some e):∃ i,π j=some i∧ι i=some e:=by
 unfold Inj.via at h
 cases hp:π j with
 | none=>rw[hp]at h;cases h
 | some i=>rw[hp]at h;exact ⟨i,rfl,h⟩
theorem Inj.via_of {ι:Inj} {π:Nat→Option Nat} {j i:Nat} {e:Ent} (hp:π j=some i) (h:ι i=some e):ι.via π j=some e:=by
 unfold Inj.via;rw[hp];exact h
theorem C3a {α:Type} {a b:Array α} (h:a.size=b.size) {i:Nat} {x:α} (hx:a[i]? = some x):∃ y,b[i]? = some y:=by
 have:i<b.size:=by rw[← h];exact (Array.getElem?_eq_some_iff.1 hx).1
 exact ⟨_,Array.getElem?_eq_getElem this⟩
theorem VRen.rel {π:Nat→Option Nat} {ι:Inj} {v u:Value} (hr:VRen π v u):∀ {w:Value},VRel ι u w→VRel (ι.via π) v w:=by
 induction hr with
 | bool b=>intro w h;cases h;exact .bool b
 | int k n=>intro w h;cases h;exact .int k n
 | float k b=>intro w h;cases h;exact .float k b
 | complex k a b=>intro w h;cases h;exact .complex k a b
 | string s=>intro w h;cases h;exact .string s
 | nilFunc=>intro w h;cases h;exact .nilFunc
 | nilIface=>intro w h;cases h;exact .nilIface
 | pnil=>intro w h;cases h;exact .pnil
 | ptr hp=>intro w h;cases h with | ptr he=>exact .ptr (Inj.via_of hp he)
 | snil=>intro w h;cases h;exact .snil
 | slice hp hc=>intro w h;cases h with | slice he h1 h2 h3 h4=>exact .slice (Inj.via_of hp he) h1 (fun x=>h2 (hc x)) h3 h4
 | mnil=>intro w h;cases h;exact .mnil
 | map hp=>intro w h;cases h with | map he hs=>exact .map (Inj.via_of hp he) hs
 | func hf h1 _ h3 _ ih2 ih4=>
   intro w h
   cases h with
   | func _ g1 g2 g3 g4=>
     refine .func hf (h1.trans g1) (fun i a b x y=>?_) (h3.trans g3) (fun i a b x y=>?_)
     ·obtain ⟨c,hc⟩:=C3a h1 x
      exact ih2 i a c x hc (g2 i c b hc y)
     ·obtain ⟨c,hc⟩:=C3a h3 x
      exact ih4 i a c x hc (g4 i c b hc y)
   | yield he hs=>exact absurd rfl (hf _)
 | yield hp=>
   intro w h
   cases h with
   | func hf _ _ _ _=>exact absurd rfl (hf _)
   | yield he hs=>exact .yield (Inj.via_of hp he) hs
 | iface _ ih=>intro w h;cases h with | iface h=>exact .iface (ih h)
 | agg h1 _ ih=>
   intro w h
   cases h with
   | agg g1 g2=>
     refine .agg (h1.trans g1) fun i a b x y=>?_
     obtain ⟨c,hc⟩:=C3a h1 x
     exact ih i a c x hc (g2 i c b hc y)
 | tuple h1 _ ih=>
   intro w h
   cases h with
   | tuple g1 g2=>
     refine .tuple (h1.trans g1) fun i a b x y=>?_
     obtain ⟨c,hc⟩:=C3a h1 x
     exact ih i a c x hc (g2 i c b hc y)
def ORen (π:Nat→Option Nat):DObj→DObj→Prop
 | .row cells esz ro,.row cells1 esz1 ro1=>ro1=ro∧esz1=esz∧cells.length≤cells1.length∧∀ (i:Nat) v u,cells[i]? = some v→cells1[i]? = some u→VRen π v u
 | .map es clock,.map es1 clock1=>clock1=clock∧es.length=es1.length∧∀ (i:Nat) e e',es[i]? = some e→es1[i]? = some e'→e'.key=e.key∧e'.born=e.born∧VRen π e.val e'.val
 | .loop d,.loop d1=>d1.size=d.size∧d1.params=d.params∧d1.assign=d.assign∧d1.body=d.body∧π d.mark=some d1.mark∧d1.state=d.state∧d1.pending=d.pending∧∀ t v,d.tmps t=some v→∃ u,d1.tmps t=some u∧VRen π v u
 | .marks b,.marks b1=>b1=b
 | .iter m a s c,.iter m1 a1 s1 c1=>a1=a∧s1=s∧c1=c∧(match m,m1 with | none,none=>True | some i,some i1=>π i=some i1 | _,_=>False)
 | .dead,.dead=>True
 | .dead,.row _ _ ro=>ro=false
 | .dead,.map _ _=>True
 | .dead,.loop _=>True
 | .dead,.marks _=>True
 | .dead,.iter _ _ _ _=>True
 | _,_=>False
theorem ORen.obj {π:Nat→Option Nat} {ι:Inj} {o o1:DObj} {e:Ent} {w:World} (hr:ORen π o o1) (h:ObjRel ι e o1 w):ObjRel (ι.via π) e o w:=by
 cases o with
 | row cells esz ro=>
   cases o1 with
   | row cells1 esz1 ro1=>
     obtain ⟨rfl,rfl,r3,r4⟩:=hr
     obtain ⟨a,b,cur,ty,fz,c,d,f⟩:=h
     refine ⟨a,b,cur,ty,fz,c,fun i v hv=>?_,fun hro=>?_⟩
     ·have hi:i<cells1.length:=Nat.lt_of_lt_of_le (List.getElem?_eq_some_iff.1 hv).1 r3
      obtain ⟨v',x,y⟩:=d i cells1[i] (List.getElem?_eq_getElem hi)
      exact ⟨v',x,(r4 i v _ hv (List.getElem?_eq_getElem hi)).rel y⟩
     ·obtain ⟨x,y,z⟩:=f hro
      exact ⟨x,by omega,z⟩
   | _=>exact hr.elim
 | map es clock=>
   cases o1 with
   | map es1 clock1=>
     obtain ⟨rfl,r2,r3⟩:=hr
     obtain ⟨a,b,es',c,d1,d2⟩:=h
     refine ⟨a,b,es',c,r2.trans d1,fun i e0 e' x y=>?_⟩
     have hi:i<es1.length:=by rw[← r2];exact (List.getElem?_eq_some_iff.1 x).1
     obtain ⟨p1,p2,p3⟩:=r3 i e0 es1[i] x (List.getElem?_eq_getElem hi)
     obtain ⟨q1,q2,q3⟩:=d2 i es1[i] e' (List.getElem?_eq_getElem hi) y
     exact ⟨q1.trans p1,q2.trans p2,p3.rel q3⟩
   | _=>exact hr.elim
 | loop d=>
   cases o1 with
   | loop d1=>
     obtain ⟨r1,r2,r3,r4,r5,r6,r7,r8⟩:=hr
     obtain ⟨a,b,l,c,hh⟩:=h
     refine ⟨a,b,l,c,⟨⟨r1▸hh.tmps.1,fun t v hv=>?_⟩,r2▸hh.params,r3▸hh.assign,r4▸hh.body,r6▸hh.state,r7▸hh.pending,?_⟩⟩
     ·obtain ⟨u,hu,hv'⟩:=r8 t v hv
      exact hv'.rel (hh.tmps.2 t u hu)
     ·obtain ⟨x,hm,hs,hd⟩:=hh.defers
      exact ⟨x,Inj.via_of r5 hm,hs,hd⟩
   | _=>exact hr.elim
 | marks b=>
   cases o1 with
   | marks b1=>
     have:b1=b:=hr
     subst this
     exact h
   | _=>exact hr.elim
 | iter m a s c=>
   cases o1 with
   | iter m1 a1 s1 c1=>
     obtain ⟨rfl,rfl,rfl,r4⟩:=hr
     obtain ⟨h1,h2,m',h3,h4⟩:=h
     refine ⟨h1,h2,m',h3,?_⟩
     cases m with
     | none=>cases m1 with
       | none=>cases m' with
         | none=>trivial
         | some _=>exact h4.elim
       | some _=>exact r4.elim
     | some i=>cases m1 with
       | none=>exact r4.elim
       | some i1=>
         cases m' with
         | none=>exact h4.elim
         | some b=>
           obtain ⟨e1,q1,q2,q3⟩:=h4
           exact ⟨e1,Inj.via_of r4 q1,q2,q3⟩
   | _=>exact hr.elim
 | dead=>
   cases o1 with
   | row cells esz ro=>
     have:ro=false:=hr
     subst this
     exact h.1
   | map es c=>exact h.2.1
   | loop d=>exact h.2.1
   | marks b=>exact h.2.1
   | iter m a s c=>exact h.2.1
   | dead=>exact h
structure S8c (live:Nat→Prop) (π:Nat→Option Nat) (h h1:DHeap):Prop where
 inj:∀ j j' i,π j=some i→π j'=some i→j=j'
 lt:∀ j i,π j=some i→j<h.next
 ng:h.ng=h1.ng
 glob:∀ g,g<h1.ng→π g=some g
 obj:∀ j i o1,π j=some i→live i→h1.get i=some o1→∃ o,h.get j=some o∧ORen π o o1
theorem ORen.dead {π:Nat→Option Nat} {o1:DObj} (h:∃ o,o=o1∧o=.dead) {o:DObj} (hr:ORen π o o1):o=.dead:=by
 obtain ⟨_,rfl,rfl⟩:=h
 cases o <;> first | rfl | exact hr.elim
theorem Sim.ren {π:Nat→Option Nat} {ι:Inj} {h h1:DHeap} {w:World} (r:S8c (fun i=>∃ e,ι i=some e) π h h1) (s:Sim ι h1 w):Sim (ι.via π) h w where
 lt:=fun j e hj=>let ⟨i,a,_⟩:=Inj.via_some hj;r.lt j i a
 blk:=fun j e hj=>let ⟨i,_,b⟩:=Inj.via_some hj;s.blk i e b
 obj:=fun j e hj=>by
  obtain ⟨i,a,b⟩:=Inj.via_some hj
  obtain ⟨o1,c,d⟩:=s.obj i e b
  obtain ⟨o,x,y⟩:=r.obj j i o1 a ⟨e,b⟩ c
  exact ⟨o,x,y.obj d⟩
 sep:=fun j j' e e' hj hj' hne hb=>by
  obtain ⟨i,a,b⟩:=Inj.via_some hj
  obtain ⟨i',a',b'⟩:=Inj.via_some hj'
  have hne':i≠i':=fun hh=>hne (r.inj j j' i a (hh▸a'))
  rcases s.sep i i' e e' b b' hne' hb with hd | hd | hd
  ·obtain ⟨o,x,y⟩:=r.obj j i _ a ⟨e,b⟩ hd
   exact .inl (by rw[x,ORen.dead ⟨_,rfl,rfl⟩ y])
  ·obtain ⟨o,x,y⟩:=r.obj j' i' _ a' ⟨e',b'⟩ hd
   exact .inr (.inl (by rw[x,ORen.dead ⟨_,rfl,rfl⟩ y]))
  ·exact .inr (.inr hd)
 glob:=fun g hg=>by
  obtain ⟨e,a,b⟩:=s.glob g (r.ng▸hg)
  exact ⟨e,Inj.via_of (r.glob g (r.ng▸hg)) a,b⟩
theorem VRel.ren_self {ι:Inj} {π:Nat→Option Nat} (hπ:∀ i e,ι i=some e→π i=some i) {v w:Value} (h:VRel ι v w):VRen π v v:=by
 induction h with
 | bool b=>exact .bool b
 | int k n=>exact .int k n
 | float k b=>exact .float k b
 | complex k a b=>exact .complex k a b
 | string s=>exact .string s
 | nilFunc=>exact .nilFunc
 | nilIface=>exact .nilIface
 | pnil=>exact .pnil
 | ptr h=>exact .ptr (hπ _ _ h)
 | snil=>exact .snil
 | slice h _ _ _ _=>exact .slice (hπ _ _ h) id
 | mnil=>exact .mnil
 | map h _=>exact .map (hπ _ _ h)
 | func hf h1 _ h3 _ ih2 ih4=>
   refine .func hf rfl (fun i v v' x y=>?_) rfl (fun i v v' x y=>?_)
   ·rw[x]at y;cases y
    obtain ⟨c,hc⟩:=C3a h1 x
    exact ih2 i v c x hc
   ·rw[x]at y;cases y
    obtain ⟨c,hc⟩:=C3a h3 x
    exact ih4 i v c x hc
 | yield h _=>exact .yield (hπ _ _ h)
 | iface _ ih=>exact .iface ih
 | agg h1 _ ih=>
   refine .agg rfl fun i v v' x y=>?_
   rw[x]at y;cases y
   obtain ⟨c,hc⟩:=C3a h1 x
   exact ih i v c x hc
 | tuple h1 _ ih=>
   refine .tuple rfl fun i v v' x y=>?_
   rw[x]at y;cases y
   obtain ⟨c,hc⟩:=C3a h1 x
   exact ih i v c x hc
theorem i1b (π:Nat→Option Nat) {v:Value} (h:Yw v=true):VRen π v v:=by
 have:=VRel.ren_self (ι:=fun _=>none) (π:=π) (fun i e he=>by cases he) (E3a _ h)
 exact this
end Go.D
namespace Go.D
variable {P:Program} {nt:Nat}
def Ct (P:Program) (f:FuncId) (args:List Value) (h:DHeap) (R:DEnd→DHeap→Prop):Prop:=
 ∀ (n:Nat) (ι:Inj) (w:World) (args':Array Value),Sim ι h w→LRel ι args args'.toList →
  CallsIn Fence.wide n P f args' w fun e w'=>∃ ι' r h',R r h'∧HStep h h'∧D1a ι' r e∧Sim ι' h' w'∧Step ι ι' h h' w w'
theorem DC.ct {f:FuncId} {args:List Value} {h h':DHeap} {r:DEnd} (d:DC P f args h r h') {R:DEnd→DHeap→Prop} (hR:R r h'):Ct P f args h R:=
 fun n ι w args' s ha=>CallsIn.mono (d.2 n ι w args' s ha) fun _ _ ⟨ι',a,b,c⟩=>⟨ι',r,h',hR,d.1,a,b,c⟩
theorem Ct.mono {f:FuncId} {args:List Value} {h:DHeap} {R R':DEnd→DHeap→Prop} (c:Ct P f args h R) (hr:∀ r h',R r h'→R' r h'):Ct P f args h R':=
 fun n ι w args' s ha=>CallsIn.mono (c n ι w args' s ha) fun _ _ ⟨ι',r,h',x,y⟩=>⟨ι',r,h',hr _ _ x,y⟩
def Rt (P:Program) (l:Nat) (size:Nat) (tmps:Fr) (assign body:Code) (h:DHeap) (R:DEnd→DHeap→Prop):Prop:=
 ∀ (n:Nat) (ι:Inj) (w:World) (tmps':Array Value) (e:Ent) (f:FuncId),Sim ι h w→ι l=some e→e.shift=0→FRel ι size tmps tmps' →
  RoundIn Fence.wide n P e.block f tmps' assign body w fun en w'=>∃ ι' r h',R r h'∧HStep h h'∧D1a ι' r en∧Sim ι' h' w'∧Step ι ι' h h' w w'
theorem DRd.rt {l size:Nat} {tmps:Fr} {assign body:Code} {h h':DHeap} {r:DEnd} (d:DRd P l size tmps assign body h r h') {R:DEnd→DHeap→Prop} (hR:R r h'):Rt P l size tmps assign body h R:=
 fun n ι w tmps' e f s he hsh hf=>RoundIn.mono (d.2 n ι w tmps' e f s he hsh hf) fun _ _ ⟨ι',a,b,c⟩=>⟨ι',r,h',hR,d.1,a,b,c⟩
theorem Rt.mono {l size:Nat} {tmps:Fr} {assign body:Code} {h:DHeap} {R R':DEnd→DHeap→Prop} (c:Rt P l size tmps assign body h R) (hr:∀ r h',R r h'→R' r h'):Rt P l size tmps assign body h R':=
 fun n ι w tmps' e f s he hsh hf=>RoundIn.mono (c n ι w tmps' e f s he hsh hf) fun _ _ ⟨ι',r,h',x,y⟩=>⟨ι',r,h',hr _ _ x,y⟩
def NC (P:Program) (nt:Nat) (c:Code) (Q:Zv→St→Prop) (s:St):Prop:=
 ∀ (n:Nat) (r:Option Nat) (ι:Inj) (a:Act) (w:World),Wy nt ι s r a w →
  c.wpIn (FW r) n P (fun ex a' w'=>∃ ι' e s',Q e s'∧HStep s.h s'.h∧J1a ι' e ex∧Wy nt ι' s' r a' w'∧Step ι ι' s.h s'.h w w') a w
theorem NC.of_XC {c:Code} {Q:Zv→St→Prop} {s:St} (h:XC P nt c Q s):NC P nt c Q s:=by
 obtain ⟨e,s',he,hq⟩:=h
 exact fun n r ι a w hs=>wpIn_mono (he.2 n r ι a w hs) fun ex a' w' ⟨ι',g1,g2,g3⟩=>⟨ι',e,s',hq,he.1,g1,g2,g3⟩
theorem NC.mono {c:Code} {Q Q':Zv→St→Prop} {s:St} (h:NC P nt c Q s) (hq:∀ e s',Q e s'→Q' e s'):NC P nt c Q' s:=
 fun n r ι a w hs=>wpIn_mono (h n r ι a w hs) fun _ _ _ ⟨ι',e,s',g1,g2⟩=>⟨ι',e,s',hq _ _ g1,g2⟩
theorem NC.seq {x y:Code} {Q:Zv→St→Prop} {s:St} (h:NC P nt x (N0a (NC P nt y Q) Q) s):NC P nt (.seq x y) Q s:=by
 intro n r ι a w hs
 refine wpIn_seq (wpIn_mono (h n r ι a w hs) fun ex a' w' ⟨ι',e,s',g1,g2,g3,g4,g5⟩=>?_)
 cases e with
 | normal=>
   cases ex with
   | normal=>exact wpIn_mono (g1 n r ι' a' w' g4) fun ex2 a2 w2 ⟨ι2,e2,s2,k1,k2,k3,k4,k5⟩=>⟨ι2,e2,s2,k1,g2.trans k2,k3,k4,g5.trans k5⟩
   | _=>exact g3.elim
 | exit id=>
   cases ex with
   | exit id'=>exact ⟨ι',_,s',g1,g2,g3,g4,g5⟩
   | _=>exact g3.elim
 | ret=>
   cases ex with
   | ret=>exact ⟨ι',_,s',g1,g2,g3,g4,g5⟩
   | _=>exact g3.elim
 | pan v=>
   cases ex with
   | panic ch=>exact ⟨ι',_,s',g1,g2,g3,g4,g5⟩
   | _=>exact g3.elim
theorem NC.cond {c:Operand} {x y:Code} {Q:Zv→St→Prop} {s:St} {t:Bool} (hc:ZV s.h.ng s.fr c=some (.bool t)) (h:NC P nt (if t then x else y) Q s):NC P nt (.cond c x y) Q s:=by
 intro n r ι a w hs
 refine wpIn_cond (t:=t) ?_ (h n r ι a w hs)
 have:=l1a (P:=P) hs.sim (a:=a) (ops:=#[]) (o:=⟨none,.move c,0,"",#[],none⟩) (fun t _ u hu=>hs.fr.2 t u hu) c (by simp[Op.operands]) _ hc
 exact ((m9a this) t).1 rfl
theorem NC.block {id:Nat} {c:Code} {Q:Zv→St→Prop} {s:St} (h:NC P nt c (P0a id Q) s):NC P nt (.block id c) Q s:=by
 intro n r ι a w hs
 refine wpIn_block (wpIn_mono (h n r ι a w hs) fun ex a' w' ⟨ι',e,s',g1,g2,g3,g4,g5⟩=>?_)
 cases e with
 | exit id'=>
   simp only[P0a]at g1
   cases ex with
   | exit id2=>
     have h2:id2=id':=g3
     subst h2
     by_cases hid:id2=id
     ·rw[if_pos hid]at g1
      simp only[Exit.inBlock,if_pos hid]
      exact ⟨ι',.normal,s',g1,g2,trivial,g4,g5⟩
     ·rw[if_neg hid]at g1
      simp only[Exit.inBlock,if_neg hid]
      exact ⟨ι',.exit id2,s',g1,g2,rfl,g4,g5⟩
   | _=>exact g3.elim
 | normal=>
   cases ex with
   | normal=>exact ⟨ι',.normal,s',g1,g2,trivial,g4,g5⟩
   | _=>exact g3.elim
 | ret=>
   cases ex with
   | ret=>exact ⟨ι',.ret,s',g1,g2,trivial,g4,g5⟩
   | _=>exact g3.elim
 | pan v=>
   cases ex with
   | panic ch=>exact ⟨ι',.pan v,s',g1,g2,g3,g4,g5⟩
   | _=>exact g3.elim
theorem NC.loop {σ:Type} {c:Code} {Q:Zv→St→Prop} (I:σ→St→Prop) (m:σ→Nat)
 (hr:∀ a s (K:Zv→St→Prop),(∀ b s',I b s'→m b<m a→K .normal s')→(∀ e s',e≠.normal→Q e s'→K e s')→I a s→NC P nt c K s):∀ a s,I a s→NC P nt (.loop c) Q s:=by
 have key:∀ (k:Nat) (a:σ) (s:St),m a<k→I a s→∀ (n:Nat) (r:Option Nat) (ι:Inj) (ac:Act) (w:World),Wy nt ι s r ac w →
  ∀ Qc:Exit→Act→World→Prop,(∀ ι' e s' ex a' w',Q e s'→e≠.normal→HStep s.h s'.h→J1a ι' e ex→Wy nt ι' s' r a' w'→Step ι ι' s.h s'.h w w'→Qc ex a' w')→Code.roundsIn (FW r) n P c Qc k ac w:=by
  intro k
  induction k with
  | zero=>intro a s h;omega
  | succ k ih=>
    intro a s h hI n r ι ac w hs Qc hQ
    rw[roundsIn_succ]
    refine wpIn_mono (hr a s (fun e s'=>match e with | .normal=>∃ b,I b s'∧m b<m a | e=>Q e s') (fun b s' hb hlt=>⟨b,hb,hlt⟩) (fun e s' he hq=>by cases e <;> first | exact absurd rfl he | exact hq) hI n r ι ac w hs)
     fun ex a' w' ⟨ι',e,s',g1,g2,g3,g4,g5⟩=>?_
    cases e with
    | normal=>
      obtain ⟨b,hb,hlt⟩:=g1
      cases ex with
      | normal=>exact ih b s' (by omega) hb n r ι' a' w' g4 Qc fun ι2 e2 s2 ex2 a2 w2 k1 k2 k3 k4 k5 k6=>hQ ι2 e2 s2 ex2 a2 w2 k1 k2 (g2.trans k3) k4 k5 (g5.trans k6)
      | _=>exact g3.elim
    | exit id=>
      cases ex with
      | exit id'=>exact hQ ι' _ s' _ a' w' g1 (by simp) g2 g3 g4 g5
      | _=>exact g3.elim
    | ret=>
      cases ex with
      | ret=>exact hQ ι' _ s' _ a' w' g1 (by simp) g2 g3 g4 g5
      | _=>exact g3.elim
    | pan v=>
      cases ex with
      | panic ch=>exact hQ ι' _ s' _ a' w' g1 (by simp) g2 g3 g4 g5
      | _=>exact g3.elim
 intro a s hI n r ι ac w hs
 exact wpIn_loop_rounds (m a+1) (key (m a+1) a s (Nat.lt_succ_self _) hI n r ι ac w hs _ fun ι' e s' ex a' w' k1 _ k3 k4 k5 k6=>⟨ι',e,s',k1,k3,k4,k5,k6⟩)
def l4c (P:Program) (o:Oper) (s:St) (f:FuncId) (args:List Value) (h:DHeap) (K:St→Prop) (Q:Zv→St→Prop):Prop:=
 ∃ R,Ct P f args h R∧∀ r h',R r h'→Xk o s r h' K Q
def T8c (P:Program) (o:Oper) (s:St) (l size:Nat) (tmps:Fr) (a b:Code) (h:DHeap) (K:St→Prop) (Q:Zv→St→Prop):Prop:=
 ∃ R,Rt P l size tmps a b h R∧∀ r h',R r h'→Xk o s r h' K Q
def x5a (P:Program) (o:Oper) (s:St) (x:DR) (K:St→Prop) (Q:Zv→St→Prop):Prop:=
 match x with
 | .ok (.pick l) _=>∀ p∈l,K ⟨s.fr.put o.dst p.1,s.df,p.2,s.rd⟩
 | .ok (.enter f args) h=>l4c P o s f args h K Q
 | .ok (.round l size tmps a b) h=>T8c P o s l size tmps a b h K Q
 | x=>m4c P o s x K Q
def Wz (P:Program) (ops:Array Oper):List Oper→St→(Zv→St→Prop)→Prop
 | [],s,Q=>Q .normal s
 | o :: rest,s,Q=>
   match ZK ops s.fr o with
   | none=>False
   | some false=>Wz P ops rest ⟨s.fr.put o.dst undef,s.df,s.h,s.rd⟩ Q
   | some true=>x5a P o s (dOp P (ZV s.h.ng s.fr) o s.h) (fun s=>Wz P ops rest s Q) Q
theorem x6b {ops:Array Oper} (hd:I0a nt ops=true):∀ (l:List Oper) (k:Nat) (s:St) (Q:Zv→St→Prop),ops.toList.drop k=l→Wz P ops l s Q →
 ∀ (n:Nat) (r:Option Nat) (ι:Inj) (a:Act) (w:World) (Qc:Exit→Act→World→Prop),Wy nt ι s r a w →
  (∀ ι' e s' ex a' w',Q e s'→HStep s.h s'.h→J1a ι' e ex→Wy nt ι' s' r a' w'→Step ι ι' s.h s'.h w w'→Qc ex a' w')→wpOpsIn (FW r) n P ops Qc (List.range' k (ops.size - k)) a w:=by
 intro l
 induction l with
 | nil=>
   intro k s Q hl h n r ι a w Qc hs hQ
   have:ops.size - k=0:=by
    have:=congrArg List.length hl
    simpa using this
   rw[this]
   exact hQ ι .normal s .normal a w h (.refl _) trivial hs (Step.refl ι _ w)
 | cons o rest ih=>
   intro k s Q hl h n r ι a w Qc hs hQ
   obtain ⟨hk,ho,hrest⟩:=D5a hl
   have hdo:∀ d,o.dst=some d→d<nt:=fun d h=>g0a hd k o d ho h
   have one:J4a P ops [o] s (fun e s'=>match e with | .normal=>Wz P ops rest s' Q | e=>Q e s')→wpOpsIn (FW r) n P ops Qc (List.range' k (ops.size - k)) a w:=by
    intro hx
    rw[G2a hk,wpOpsIn_cons]
    have hw0:=hx
    simp only[J4a]at hx
    have fin:∀ (v:Value) (h1:DHeap),Ex P ops o s.fr s.h (.ret v) h1→p1a o.op=false→Wz P ops rest ⟨s.fr.put o.dst v,s.df,h1,s.rd⟩ Q→wpOpIn (FW r) n P ops Qc k (fun a w=>wpOpsIn (FW r) n P ops Qc (List.range' (k+1) (ops.size - (k+1))) a w) a w:=by
     intro v h1 hex hnd hh
     refine x3a hex ho hnd hs.sim hs.fr.1 (g0a hd) (fun t _ u hu=>hs.fr.2 t u hu) (fun u hu ι' v' w' hv s1 st=>?_) (fun u hu=>by cases hu)
     cases hu
     exact ih (k+1) _ Q hrest hh n r ι' _ w' Qc ⟨q1a (r:=r) (w:=w) (hs.fr.mono st.le) hdo hv,by rw[z0a];exact hs.df.mono st.le,s1,hs.rd.mono st.le⟩
      fun ι2 e2 s2 ex a2 w2 g0 g1 g2 g3 g4=>hQ ι2 e2 s2 ex a2 w2 g0 ((w3a hex).trans g1) g2 g3 (st.trans g4)
    have finp:∀ (v:Value) (h1:DHeap),Ex P ops o s.fr s.h (.pan v) h1→p1a o.op=false→Q (.pan v) ⟨s.fr,s.df,h1,s.rd⟩→wpOpIn (FW r) n P ops Qc k (fun a w=>wpOpsIn (FW r) n P ops Qc (List.range' (k+1) (ops.size - (k+1))) a w) a w:=by
     intro v h1 hex hnd hh
     refine x3a hex ho hnd hs.sim hs.fr.1 (g0a hd) (fun t _ u hu=>hs.fr.2 t u hu) (fun u hu=>by cases hu) (fun u hu ι' v' w' hv s1 st=>?_)
     cases hu
     exact hQ ι' _ ⟨s.fr,s.df,h1,s.rd⟩ _ a w' hh (w3a hex) ⟨v',rfl,hv⟩ ⟨hs.fr.mono st.le,hs.df.mono st.le,s1,hs.rd.mono st.le⟩ st
    cases hw:ZK ops s.fr o with
    | none=>rw[hw]at hx;exact hx.elim
    | some b=>
      rw[hw]at hx
      cases b with
      | false=>
        simp only[J4a]at hx
        unfold wpOpIn
        rw[ho]
        have hw':=O0a hs.fr.1 (g0a hd) (fun t _ u hu=>hs.fr.2 t u hu) hw
        simp only[hw',Bool.false_eq_true,if_false]
        exact ⟨fun _ _=>trivial,ih (k+1) _ Q hrest hx n r ι _ w Qc ⟨q1a (r:=r) (w:=w) hs.fr hdo (T1a ι),by rw[z0a];exact hs.df,hs.sim,hs.rd⟩ fun ι2 e2 s2 ex a2 w2 g0 g1 g2 g3 g4=>hQ ι2 e2 s2 ex a2 w2 g0 g1 g2 g3 g4⟩
      | true=>
        simp only at hx
        have hexd:∀ r h1,(match dOp P (ZV s.h.ng s.fr) o s.h with
         | .ok (.value v) h1'=>r=.ret v∧h1=h1'
         | .ok .skip h1'=>r=.ret undef∧h1=h1'
         | .ok (.enter f args) h1'=>DC P f args h1' r h1
         | .ok (.round l size tmps assign body) h1'=>DRd P l size tmps assign body h1' r h1
         | .pan v h1'=>r=.pan v∧h1=h1'
         | _=>False)→Ex P ops o s.fr s.h r h1:=by
         intro r h1 hh;unfold Ex;rw[hw];exact hh
        have hnd:∀ x h1,dOp P (ZV s.h.ng s.fr) o s.h=.ok x h1→(∀ f as,x≠.defer f as)→p1a o.op=false:=by
         intro x h1 hop hne
         cases hod:o.op with
         | defer c=>
           exfalso
           unfold dOp at hop
           rw[hod]at hop
           simp only at hop
           repeat' split at hop
           all_goals first
            | (cases hop;done)
            | (cases hop;exact hne _ _ rfl)
         | _=>rfl
        cases hop:dOp P (ZV s.h.ng s.fr) o s.h with
        | bad=>rw[hop]at hx;exact hx.elim
        | pan v h1=>
          rw[hop]at hx
          refine finp v h1 (hexd _ _ (by rw[hop];exact ⟨rfl,rfl⟩)) ?_ hx
          cases hod:o.op with
          | defer c=>
            exfalso
            unfold dOp at hop
            rw[hod]at hop
            simp only at hop
            repeat' split at hop
            all_goals cases hop
          | _=>rfl
        | ok x h1=>
          rw[hop]at hx
          cases x with
          | value v=>exact fin v h1 (hexd _ _ (by rw[hop];exact ⟨rfl,rfl⟩)) (hnd _ _ hop (by simp)) hx
          | skip=>exact fin undef h1 (hexd _ _ (by rw[hop];exact ⟨rfl,rfl⟩)) (hnd _ _ hop (by simp)) hx
          | enter f args=>
            obtain ⟨r0,h2,hdc,hx⟩:=hx
            have hex:=hexd r0 h2 (by rw[hop];exact hdc)
            cases r0 with
            | ret v=>exact fin v h2 hex (hnd _ _ hop (by simp)) hx
            | pan v=>exact finp v h2 hex (hnd _ _ hop (by simp)) hx
          | round l size tmps assign body=>
            obtain ⟨r0,h2,hdc,hx⟩:=hx
            have hex:=hexd r0 h2 (by rw[hop];exact hdc)
            cases r0 with
            | ret v=>exact fin v h2 hex (hnd _ _ hop (by simp)) hx
            | pan v=>exact finp v h2 hex (hnd _ _ hop (by simp)) hx
          | recover=>exact hx.elim
          | pick l=>exact hx.elim
          | defer f args=>
            obtain ⟨hrd,hx⟩:=hx
            have hr:r=none:=by
             have:=hs.rd
             rw[hrd]at this
             cases r with
             | none=>rfl
             | some _=>exact this.elim
            subst hr
            unfold wpOpIn
            rw[ho]
            have hw':=O0a hs.fr.1 (g0a hd) (fun t _ u hu=>hs.fr.2 t u hu) hw
            simp only[hw',if_true]
            refine ⟨fun _ _=>trivial,?_⟩
            have hsem:o.semAt (FW none).round a.eval=execOp a.eval o:=rfl
            rw[hsem]
            obtain ⟨ι1,w1,x',hrun,hn,s1,st⟩:=A4a hop hs.sim (l1a (P:=P) hs.sim (a:=a) (ops:=ops) (fun t _ u hu=>hs.fr.2 t u hu))
            rw[hrun]
            cases x' with
            | defer d=>
              rw[Oper.uponIn_defer]
              obtain ⟨hg,cap,dargs,rfl,hargs⟩:=hn
              refine ih (k+1) _ Q hrest hx n none ι1 _ w1 Qc ⟨?_,?_,s1,hs.rd.mono st.le⟩ fun ι2 e2 s2 ex a2 w2 g0 g1 g2 g3 g4=>hQ ι2 e2 s2 ex a2 w2 g0 ((D0a hop).trans g1) g2 g3 (st.trans g4)
              ·exact q1a (r:=none) (w:=w) (a:={ a with defers:={ target:=.fn (.func f) cap,args:=dargs } :: a.defers }) (hs.fr.mono st.le) hdo (T1a _)
              ·rw[z0a]
               exact ⟨⟨cap,dargs,rfl,hargs⟩,hs.df.mono st.le⟩
            | _=>exact hn.elim
   simp only[Wz]at h
   cases hw:ZK ops s.fr o with
   | none=>rw[hw]at h;exact h.elim
   | some b=>
     rw[hw]at h
     cases b with
     | false=>exact one (by simp only[J4a,hw];exact h)
     | true=>
       simp only at h
       by_cases hpk:∃ l h1,dOp P (ZV s.h.ng s.fr) o s.h=.ok (.pick l) h1
       ·obtain ⟨l,h1,hop⟩:=hpk
        rw[hop]at h
        rw[G2a hk,wpOpsIn_cons]
        obtain ⟨y,v,_,_,hnx⟩:=C6a hop
        refine Y9a hw hop ho hs.sim hs.fr.1 (g0a hd) (fun t _ u hu=>hs.fr.2 t u hu) fun p hp v' w' hv s1 st=>?_
        exact ih (k+1) _ Q hrest (h p hp) n r ι _ w' Qc ⟨q1a (r:=r) (w:=w) hs.fr hdo hv,by rw[z0a];exact hs.df,s1,hs.rd⟩
         fun ι2 e2 s2 ex a2 w2 g0 g1 g2 g3 g4=>hQ ι2 e2 s2 ex a2 w2 g0 (((z0b hnx).2 p hp).trans g1) g2 g3 (st.trans g4)
       by_cases hent:∃ f args h1,dOp P (ZV s.h.ng s.fr) o s.h=.ok (.enter f args) h1
       ·obtain ⟨f,args,h1,hop⟩:=hent
        rw[hop]at h
        obtain ⟨R,hct,hall⟩:=h
        rw[G2a hk,wpOpsIn_cons]
        have hnd:p1a o.op=false:=by
         cases hod:o.op with
         | defer c=>
           exfalso
           unfold dOp at hop
           rw[hod]at hop
           simp only at hop
           repeat' split at hop
           all_goals cases hop
         | _=>rfl
        unfold wpOpIn
        rw[ho]
        have hw':=O0a hs.fr.1 (g0a hd) (fun t _ u hu=>hs.fr.2 t u hu) hw
        simp only[hw',if_true]
        refine ⟨fun _ _=>trivial,?_⟩
        have hsem:o.semAt (FW r).round a.eval=execOp a.eval o:=Oper.semAt_eq _ _ _ fun c hc=>by rw[hc]at hnd;cases hnd
        rw[hsem]
        obtain ⟨ι1,w1,x',hrun,hn,s1,st⟩:=A4a hop hs.sim (l1a (P:=P) hs.sim (a:=a) (ops:=ops) (fun t _ u hu=>hs.fr.2 t u hu))
        rw[hrun]
        cases x' with
        | enter f' args'=>
          obtain ⟨rfl,hargs,_⟩:=hn
          rw[Oper.uponIn_enter]
          refine ⟨fun hh=>absurd hh (by simp[FW]),?_⟩
          have hc:CallsIn (FW r) (n - 1) P f' args' w1 fun e w'=>∃ ι' r h',R r h'∧HStep h1 h'∧D1a ι' r e∧Sim ι' h' w'∧Step ι1 ι' h1 h' w1 w':=hct (n - 1) ι1 w1 args' s1 hargs
          refine CallsIn.mono hc fun e w2 ⟨ι2,r2,h2,hR,hh2,he,s2,st2⟩=>?_
          have hx:=hall r2 h2 hR
          cases r2 with
          | ret v=>
            cases e with
            | returned v'=>
              exact ih (k+1) _ Q hrest hx n r ι2 _ w2 Qc ⟨q1a (r:=r) (w:=w) ((hs.fr.mono st.le).mono st2.le) hdo he,by rw[z0a];exact (hs.df.mono st.le).mono st2.le,s2,(hs.rd.mono st.le).mono st2.le⟩
               fun ι3 e3 s3 ex a3 w3 g0 g1 g2 g3 g4=>hQ ι3 e3 s3 ex a3 w3 g0 ((D0a hop).trans (hh2.trans g1)) g2 g3 (st.trans (st2.trans g4))
            | _=>exact he.elim
          | pan v=>
            cases e with
            | panicked ch=>
              obtain ⟨v',rfl,hv⟩:=he
              exact hQ ι2 _ ⟨s.fr,s.df,h2,s.rd⟩ _ a w2 hx ((D0a hop).trans hh2) ⟨v',rfl,hv⟩ ⟨(hs.fr.mono st.le).mono st2.le,(hs.df.mono st.le).mono st2.le,s2,(hs.rd.mono st.le).mono st2.le⟩ (st.trans st2)
            | _=>exact he.elim
        | _=>exact hn.elim
       ·by_cases hrnd:∃ l size tmps x y h1,dOp P (ZV s.h.ng s.fr) o s.h=.ok (.round l size tmps x y) h1
        ·obtain ⟨lid,size,tmps,cx,cy,h1,hop⟩:=hrnd
         rw[hop]at h
         obtain ⟨R,hct,hall⟩:=h
         rw[G2a hk,wpOpsIn_cons]
         have hnd:p1a o.op=false:=by
          cases hod:o.op with
          | defer c=>
            exfalso
            unfold dOp at hop
            rw[hod]at hop
            simp only at hop
            repeat' split at hop
            all_goals cases hop
          | _=>rfl
         unfold wpOpIn
         rw[ho]
         have hw':=O0a hs.fr.1 (g0a hd) (fun t _ u hu=>hs.fr.2 t u hu) hw
         simp only[hw',if_true]
         refine ⟨fun _ _=>trivial,?_⟩
         have hsem:o.semAt (FW r).round a.eval=execOp a.eval o:=Oper.semAt_eq _ _ _ fun c hc=>by rw[hc]at hnd;cases hnd
         rw[hsem]
         obtain ⟨ι1,w1,x',hrun,hn,s1,st⟩:=A4a hop hs.sim (l1a (P:=P) hs.sim (a:=a) (ops:=ops) (fun t _ u hu=>hs.fr.2 t u hu))
         rw[hrun]
         cases x' with
         | round l' f' tmps' assign' body'=>
           obtain ⟨⟨e0,he0,hsh,rfl⟩,hargs,rfl,rfl⟩:=hn
           rw[Oper.uponIn_round]
           refine ⟨fun hh=>absurd hh (by simp[FW]),?_⟩
           have hc:RoundIn (FW r) (n - 1) P e0.block f' tmps' assign' body' w1 fun e w'=>∃ ι' r h',R r h'∧HStep h1 h'∧D1a ι' r e∧Sim ι' h' w'∧Step ι1 ι' h1 h' w1 w':=hct (n - 1) ι1 w1 tmps' e0 f' s1 he0 hsh hargs
           refine RoundIn.mono hc fun e w2 ⟨ι2,r2,h2,hR,hh2,he,s2,st2⟩=>?_
           have hx:=hall r2 h2 hR
           cases r2 with
           | ret v=>
             cases e with
             | returned v'=>
               exact ih (k+1) _ Q hrest hx n r ι2 _ w2 Qc ⟨q1a (r:=r) (w:=w) ((hs.fr.mono st.le).mono st2.le) hdo he,by rw[z0a];exact (hs.df.mono st.le).mono st2.le,s2,(hs.rd.mono st.le).mono st2.le⟩
                fun ι3 e3 s3 ex a3 w3 g0 g1 g2 g3 g4=>hQ ι3 e3 s3 ex a3 w3 g0 ((D0a hop).trans (hh2.trans g1)) g2 g3 (st.trans (st2.trans g4))
             | _=>exact he.elim
           | pan v=>
             cases e with
             | panicked ch=>
               obtain ⟨v',rfl,hv⟩:=he
               exact hQ ι2 _ ⟨s.fr,s.df,h2,s.rd⟩ _ a w2 hx ((D0a hop).trans hh2) ⟨v',rfl,hv⟩ ⟨(hs.fr.mono st.le).mono st2.le,(hs.df.mono st.le).mono st2.le,s2,(hs.rd.mono st.le).mono st2.le⟩ (st.trans st2)
             | _=>exact he.elim
         | _=>exact hn.elim
        ·refine one ?_
         simp only[J4a,hw]
         generalize hop:dOp P (ZV s.h.ng s.fr) o s.h=x at h hent hrnd hpk
         cases x with
         | ok y h1=>
           cases y with
           | enter f args=>exact absurd ⟨f,args,h1,rfl⟩ hent
           | value v=>exact h
           | skip=>exact h
           | defer f as=>exact h
           | round l z t a b=>exact absurd ⟨l,z,t,a,b,h1,rfl⟩ hrnd
           | recover=>exact h
           | pick l=>exact absurd ⟨l,h1,rfl⟩ hpk
         | pan v h1=>exact h
         | bad=>exact h
theorem NC.region {id:Nat} {ops:Array Oper} {Q:Zv→St→Prop} {s:St} (hd:I0a nt ops=true) (h:Wz P ops ops.toList s Q):NC P nt (.region id ops false) Q s:=by
 intro n r ι a w hs
 refine wpIn_region ?_
 rw[List.range_eq_range']
 exact x6b hd ops.toList 0 s Q rfl h n r ι a w _ hs fun ι' e s' ex a' w' g0 g1 g2 g3 g4=>⟨ι',e,s',g0,g1,g2,g3,g4⟩
theorem B4b (o:Oper) (s:St) (x:DR) (K:St→Prop) (Q:Zv→St→Prop):x5a P (Yq o) s x K Q=x5a P o s x K Q:=by
 cases x with
 | ok x h=>cases x <;> rfl
 | _=>rfl
theorem p9a (ops:Array Oper):∀ (l:List Oper) (s:St) (Q:Zv→St→Prop),Wz P (ops.map Yq) (l.map Yq) s Q=Wz P ops l s Q
 | [],_,_=>rfl
 | o :: l,s,Q=>by
   simp only[List.map_cons,Wz,K1a,D3a,B4b]
   have ih:=p9a ops l
   simp only[ih]
   rfl
def r9a (P:Program) (nt:Nat) (c:Code) (Q:Zv→St→Prop) (s:St):Prop:=∀ c0,strip c0=c→NC P nt (.loop c0) Q s
def xs (P:Program) (nt:Nat):Code→(Zv→St→Prop)→St→Prop
 | .skip,Q,s=>Q .normal s
 | .label _,Q,s=>Q .normal s
 | .exit id,Q,s=>Q (.exit id) s
 | .ret,Q,s=>Q .ret s
 | .seq x y,Q,s=>xs P nt x (N0a (xs P nt y Q) Q) s
 | .cond c x y,Q,s=>
   match ZV s.h.ng s.fr c with
   | some (.bool t)=>(t=true→xs P nt x Q s)∧(t=false→xs P nt y Q s)
   | _=>False
 | .block id c,Q,s=>xs P nt c (P0a id Q) s
 | .region _ ops false,Q,s=>Wz P ops ops.toList s Q
 | .loop c,Q,s=>r9a P nt c Q s
 | c,Q,s=>NC P nt c Q s
theorem u2a:∀ (c:Code) (Q:Zv→St→Prop) (s:St),p0a nt c=true→xs P nt (strip c) Q s→NC P nt c Q s
 | .skip,_,_,_,h=>.of_XC (Q5c h)
 | .label _,_,_,_,h=>.of_XC (x1c h)
 | .exit _,_,_,_,h=>.of_XC (P5c h)
 | .ret,_,_,_,h=>.of_XC (V8c h)
 | .seq x y,Q,s,k,h=>by
   simp only[p0a,Bool.and_eq_true]at k
   refine .seq ((u2a x _ s k.1 h).mono fun e s1 hh=>?_)
   cases e with
   | normal=>exact u2a y Q s1 k.2 hh
   | _=>exact hh
 | .cond c x y,Q,s,k,h=>by
   simp only[p0a,Bool.and_eq_true]at k
   simp only[strip,xs]at h
   split at h
   ·rename_i t he
    refine .cond he ?_
    cases t
    ·exact u2a y Q s k.2 (h.2 rfl)
    ·exact u2a x Q s k.1 (h.1 rfl)
   ·exact h.elim
 | .block id c,Q,s,k,h=>.block (u2a c _ s k h)
 | .region id ops draw,Q,s,k,h=>by
   cases draw
   ·refine .region k ?_
    have:Wz P (ops.map Yq) (ops.map Yq).toList s Q:=h
    rw[Array.toList_map,p9a]at this
    exact this
   ·exact h
 | .loop c,Q,s,_,h=>h c rfl
 | .rangeFunc ..,_,_,_,h=>h
 | .scope _,_,_,_,h=>h
 | .goto _,_,_,_,h=>h
 | .refuse _,_,_,_,h=>h
theorem x8c (Q:Zv→St→Prop) (s:St):xs P nt .skip Q s=Q .normal s:=rfl
theorem v8c (id:Nat) (Q:Zv→St→Prop) (s:St):xs P nt (.exit id) Q s=Q (.exit id) s:=rfl
theorem p2d (Q:Zv→St→Prop) (s:St):xs P nt .ret Q s=Q .ret s:=rfl
theorem q2d (x y:Code) (Q:Zv→St→Prop) (s:St):xs P nt (.seq x y) Q s=xs P nt x (N0a (xs P nt y Q) Q) s:=rfl
theorem Y3c (id:Nat) (c:Code) (Q:Zv→St→Prop) (s:St):xs P nt (.block id c) Q s=xs P nt c (P0a id Q) s:=rfl
theorem n1c (id:Nat) (ops:List Oper) (Q:Zv→St→Prop) (s:St):xs P nt (.region id ops.toArray false) Q s=Wz P ops.toArray ops s Q:=rfl
theorem u8c (id:Nat) (ops:Array Oper) (Q:Zv→St→Prop) (s:St):xs P nt (.region id ops true) Q s=NC P nt (.region id ops true) Q s:=rfl
theorem w8c (c:Code) (Q:Zv→St→Prop) (s:St):xs P nt (.loop c) Q s=r9a P nt c Q s:=rfl
theorem w4b (g:Operand) (ps:Array Tmp) (a b:Code) (Q:Zv→St→Prop) (s:St):xs P nt (.rangeFunc g ps a b) Q s=NC P nt (.rangeFunc g ps a b) Q s:=rfl
def XIf (P:Program) (nt:Nat) (x y:Code) (Q:Zv→St→Prop) (s:St):Option Value→Prop
 | some (.bool t)=>(t=true→xs P nt x Q s)∧(t=false→xs P nt y Q s)
 | _=>False
theorem t8c (c:Operand) (x y:Code) (Q:Zv→St→Prop) (s:St):xs P nt (.cond c x y) Q s=XIf P nt x y Q s (ZV s.h.ng s.fr c):=by
 simp only[xs,XIf]
theorem z1c (x y:Code) (Q:Zv→St→Prop) (s:St):XIf P nt x y Q s (some (.bool true))=xs P nt x Q s:=by simp[XIf]
theorem p8b (x y:Code) (Q:Zv→St→Prop) (s:St):XIf P nt x y Q s (some (.bool false))=xs P nt y Q s:=by simp[XIf]
theorem B3a {x y:Code} {Q:Zv→St→Prop} {s:St} {t:Bool} (h1:t=true→xs P nt x Q s) (h2:t=false→xs P nt y Q s):XIf P nt x y Q s (some (.bool t)):=⟨h1,h2⟩
theorem n0a {x y:Code} {Q:Zv→St→Prop} {s:St} {p:Prop} [Decidable p] (h1:p→xs P nt x Q s) (h2:¬ p→xs P nt y Q s):XIf P nt x y Q s (some (.bool (decide p))):=
 ⟨fun h=>h1 (of_decide_eq_true h),fun h=>h2 (of_decide_eq_false h)⟩
theorem A0a {σ:Type} {c:Code} {Q:Zv→St→Prop} {s:St} (hk:p0a nt c=true) (I:σ→St→Prop) (m:σ→Nat) (a:σ) (h0:I a s)
 (hr:∀ a s (K:Zv→St→Prop),(∀ b s',I b s'→m b<m a→K .normal s')→(∀ e s',e≠.normal→Q e s'→K e s')→I a s→xs P nt c K s):r9a P nt c Q s:=by
 intro c0 hc
 subst hc
 exact NC.loop I m (fun a s K hK hX hI=>u2a _ _ _ (by rw[← C0a];exact hk) (hr a s K hK hX hI)) a s h0
def NCl (P:Program) (ops:Array Oper) (o:Oper) (rest:List Oper) (s:St) (Q:Zv→St→Prop) (f:FuncId) (args:List Value) (h:DHeap):Prop:=l4c P o s f args h (fun s=>Wz P ops rest s Q) Q
def NNx (P:Program) (ops:Array Oper) (o:Oper) (rest:List Oper) (s:St) (Q:Zv→St→Prop) (x:DR):Prop:=x5a P o s x (fun s=>Wz P ops rest s Q) Q
def NRd (P:Program) (ops:Array Oper) (o:Oper) (rest:List Oper) (s:St) (Q:Zv→St→Prop) (l size:Nat) (tmps:Fr) (assign body:Code) (h:DHeap):Prop:=
 T8c P o s l size tmps assign body h (fun s=>Wz P ops rest s Q) Q
def o0b (P:Program) (ops:Array Oper) (o:Oper) (rest:List Oper) (s:St) (Q:Zv→St→Prop) (b:Option Bool):Prop:=
 match b with
 | none=>False
 | some false=>Wz P ops rest ⟨s.fr.put o.dst undef,s.df,s.h,s.rd⟩ Q
 | some true=>NNx P ops o rest s Q (dOp P (ZV s.h.ng s.fr) o s.h)
theorem u1c (ops:Array Oper) (s:St) (Q:Zv→St→Prop):Wz P ops [] s Q=Q .normal s:=rfl
theorem m8b (ops:Array Oper) (o:Oper) (rest:List Oper) (s:St) (Q:Zv→St→Prop):Wz P ops (o :: rest) s Q=o0b P ops o rest s Q (ZK ops s.fr o):=rfl
theorem n8b (ops:Array Oper) (o:Oper) (rest:List Oper) (s:St) (Q:Zv→St→Prop):o0b P ops o rest s Q (some true)=NNx P ops o rest s Q (dOp P (ZV s.h.ng s.fr) o s.h):=rfl
theorem y6b (ops:Array Oper) (o:Oper) (rest:List Oper) (s:St) (Q:Zv→St→Prop):o0b P ops o rest s Q (some false)=Wz P ops rest ⟨s.fr.put o.dst undef,s.df,s.h,s.rd⟩ Q:=rfl
theorem q9a {ops:Array Oper} {o:Oper} {rest:List Oper} {s:St} {Q:Zv→St→Prop} {t:Bool} (h1:t=true→o0b P ops o rest s Q (some true)) (h2:t=false→o0b P ops o rest s Q (some false)):o0b P ops o rest s Q (some t):=by
 cases t
 ·exact h2 rfl
 ·exact h1 rfl
theorem k8b (ops:Array Oper) (o:Oper) (rest:List Oper) (s:St) (Q:Zv→St→Prop) (v:Value) (h:DHeap):NNx P ops o rest s Q (.ok (.value v) h)=Wz P ops rest ⟨s.fr.put o.dst v,s.df,h,s.rd⟩ Q:=rfl
theorem s1c (ops:Array Oper) (o:Oper) (rest:List Oper) (s:St) (Q:Zv→St→Prop) (h:DHeap):NNx P ops o rest s Q (.ok .skip h)=Wz P ops rest ⟨s.fr.put o.dst undef,s.df,h,s.rd⟩ Q:=rfl
theorem i8b (ops:Array Oper) (o:Oper) (rest:List Oper) (s:St) (Q:Zv→St→Prop) (f:FuncId) (args:List Value) (h:DHeap):NNx P ops o rest s Q (.ok (.enter f args) h)=NCl P ops o rest s Q f args h:=rfl
theorem j8b (ops:Array Oper) (o:Oper) (rest:List Oper) (s:St) (Q:Zv→St→Prop) (l size:Nat) (tmps:Fr) (a b:Code) (h:DHeap):NNx P ops o rest s Q (.ok (.round l size tmps a b) h)=NRd P ops o rest s Q l size tmps a b h:=rfl
theorem h8b (ops:Array Oper) (o:Oper) (rest:List Oper) (s:St) (Q:Zv→St→Prop) (f:FuncId) (args:List Value) (h:DHeap):NNx P ops o rest s Q (.ok (.defer f args) h)=(s.rd=none∧Wz P ops rest ⟨s.fr.put o.dst undef,.fn f args :: s.df,h,s.rd⟩ Q):=rfl
theorem N5c (ops:Array Oper) (o:Oper) (rest:List Oper) (s:St) (Q:Zv→St→Prop) (v:Value) (h:DHeap):NNx P ops o rest s Q (.pan v h)=Q (.pan v) ⟨s.fr,s.df,h,s.rd⟩:=rfl
theorem YX {ops:Array Oper} {o:Oper} {rest:List Oper} {s:St} {Q:Zv→St→Prop} {f:FuncId} {args:List Value} {h h':DHeap} {v:Value} (hc:DC P f args h (.ret v) h') (hx:Wz P ops rest ⟨s.fr.put o.dst v,s.df,h',s.rd⟩ Q) :
 NCl P ops o rest s Q f args h:=⟨fun r1 h1=>r1=.ret v∧h1=h',hc.ct ⟨rfl,rfl⟩,fun r1 h1 ⟨a,b⟩=>by subst a;subst b;exact hx⟩
theorem r1b {ops:Array Oper} {o:Oper} {rest:List Oper} {s:St} {Q:Zv→St→Prop} {f:FuncId} {args:List Value} {h h':DHeap} {v:Value} (hc:DC P f args h (.pan v) h') (hx:Q (.pan v) ⟨s.fr,s.df,h',s.rd⟩) :
 NCl P ops o rest s Q f args h:=⟨fun r1 h1=>r1=.pan v∧h1=h',hc.ct ⟨rfl,rfl⟩,fun r1 h1 ⟨a,b⟩=>by subst a;subst b;exact hx⟩
theorem YW {ops:Array Oper} {o:Oper} {rest:List Oper} {s:St} {Q:Zv→St→Prop} {f:FuncId} {args:List Value} {h:DHeap} {R:DEnd→DHeap→Prop} (hc:Ct P f args h R) (hx:∀ r h',R r h'→Xk o s r h' (fun s=>Wz P ops rest s Q) Q) :
 NCl P ops o rest s Q f args h:=⟨R,hc,hx⟩
theorem s1b {ops:Array Oper} {o:Oper} {rest:List Oper} {s:St} {Q:Zv→St→Prop} {l size:Nat} {tmps:Fr} {a b:Code} {h:DHeap} {R:DEnd→DHeap→Prop} (hc:Rt P l size tmps a b h R) (hx:∀ r h',R r h'→Xk o s r h' (fun s=>Wz P ops rest s Q) Q) :
 NRd P ops o rest s Q l size tmps a b h:=⟨R,hc,hx⟩
theorem r2d {f:FuncId} {fn:Func} {c:Code} {args:List Value} {h:DHeap} {R:DEnd→DHeap→Prop} (hf:P.funcs[f]? = some fn) (hb:fn.body=some c) (hn:args.length≤fn.ntmps)
 (hx:NC P fn.ntmps c (z6a P fn.results.toList R) ⟨d2a args fn.ntmps,[],h,none⟩):Ct P f args h R:=by
 intro n ι w args' s ha
 refine callsIn_of_wp_marks hf hb trivial ?_
 refine wpIn_mono (hx n none ι { tmps:=args'++Array.replicate (fn.ntmps - args'.size) undef,defers:=[] } w ⟨v9a ha hn,trivial,s,trivial⟩) fun ex a1 w1 ⟨ι1,e,s1,hq,hh,g1,g2,g3⟩=>?_
 have go:∀ m u,XLv P fn.results.toList s1.fr R s1.df m s1.h→ModeRel ι1 m u→LeavesInM Fence.wide n P fn a1.tmps (fun e w'=>∃ ι' r h',R r h'∧HStep h h'∧D1a ι' r e∧Sim ι' h' w'∧Step ι ι' h h' w w') a1.defers u w1:=fun m u hlv hu=>by
  obtain ⟨r,h',hr,hh2,hs⟩:=o7a (fn:=fn) (nt:=fn.ntmps) s1.df m s1.h hlv
  exact hs n ι1 a1.tmps w1 a1.defers u _ g2.fr g2.df g2.sim hu fun ι2 en w2 k1 k2 k3=>⟨ι2,r,h',hr,hh.trans hh2,k1,k2,g3.trans k3⟩
 cases e with
 | normal=>
   cases ex with
   | normal=>exact go .ret .returning hq trivial
   | _=>exact g1.elim
 | ret=>
   cases ex with
   | ret=>exact go .ret .returning hq trivial
   | _=>exact g1.elim
 | pan v=>
   cases ex with
   | panic ch=>exact go (.pan v) (.panicking ch) hq g1
   | _=>exact g1.elim
 | exit id=>exact hq.elim
theorem i4c {f:FuncId} {fn:Func} {c:Code} {args:List Value} {h:DHeap} {R:DEnd→DHeap→Prop} {n:Nat} {rs:List ResultVar} (hf:P.funcs[f]? = some fn) (hb:fn.body.map strip=some c) (hn:fn.ntmps=n)
 (hr:fn.results.toList=rs) (ha:args.length≤n) (hk:p0a n c=true) (hx:xs P n c (z6a P rs R) ⟨d2a args n,[],h,none⟩):Ct P f args h R:=by
 subst hn;subst hr
 cases hb0:fn.body with
 | none=>rw[hb0]at hb;cases hb
 | some c0=>
   rw[hb0]at hb
   cases hb
   exact r2d hf hb0 ha (u2a _ _ _ (by rw[← C0a];exact hk) hx)
abbrev mo (d:Nat) (op:Op):Oper:=⟨some d,op,0,"",#[],none⟩
abbrev mx (op:Op):Oper:=⟨none,op,0,"",#[],none⟩
abbrev rg (ops:List Oper):Code:=.region 0 ops.toArray false
abbrev T (n:Nat):Operand:=.tmp n
abbrev I64 (n:Int):Operand:=.const (.int .i64 n)
abbrev qV (d a:Nat):Oper:=mo d (.move (T a))
abbrev qA (d a:Nat):Oper:=mo d (.assign (T a))
abbrev qL (d t a:Nat):Oper:=mo d (.load t (T a))
abbrev qS (t a v:Nat):Oper:=mx (.store t (T a) (T v))
abbrev qI (d t a i:Nat):Oper:=mo d (.indexAddr t (T a) (T i))
abbrev qB (d:Nat) (o:BinOp) (t a b u:Nat):Oper:=mo d (.binOp o t (T a) (T b) u)
abbrev qN (d a t:Nat):Oper:=mo d (.call ⟨.builtin .len,#[T a],#[t]⟩)
attribute [go_sem] u1c m8b n8b y6b k8b s1c i8b j8b h8b N5c x8c v8c p2d q2d Y3c n1c u8c w8c w4b t8c z1c p8b q2b g8b v6b f8b I1b r6b q6b A4b o2b l4a K3a K3c v2b s8b r8b b8a R5c z9b y9b l7b z3b E0b b2b o7b p7b n7b m7b n3b o3b K4b F4b G2b U3b G3c E3c D2c Y6b F2c a7b i9b M6c U6b k9b Q2b A0b r8a b1b E8a s9b m3b g3b W1b j9b O2b G2c h7b N4b s8a f3b b3b r9b l3b A3b B3b X1b V8a Y1b W8a o9b W2b B0b O4b x0b M4b B9a R2b v0b C9a P4b Z6b T1b Z1b X8a B2c m9b p9b a2b S4b y3b M6b c2b F0b N6b i6c r6c p6c bin_and D8b s6c k6c q6c o6c n6c m6c l6c
theorem M1c (x:Value) (l:List Value) (nt:Nat):d2a (x :: l) nt 0=some x:=rfl
theorem N1c (x y:Value) (l:List Value) (nt:Nat):d2a (x :: y :: l) nt 1=some y:=rfl
theorem O1c (x y z:Value) (l:List Value) (nt:Nat):d2a (x :: y :: z :: l) nt 2=some z:=rfl
theorem P1c (x y z u:Value) (l:List Value) (nt:Nat):d2a (x :: y :: z :: u :: l) nt 3=some u:=rfl
theorem Q1c (x y z u v:Value) (l:List Value) (nt:Nat):d2a (x :: y :: z :: u :: v :: l) nt 4=some v:=rfl
attribute [go_sem] M1c N1c O1c P1c Q1c
theorem c7b {fr:Fr} {h:DHeap} {t:Tmp}:s0a P [.tmp t] fr h=fr t:=by
 simp only[s0a,T3a,w1a]
 cases fr t <;> rfl
def S3c:Option Value→Option Value→Option Value
 | some a,some b=>some (.tuple #[a,b])
 | _,_=>none
def T3c:Option Value→Option Value→Option Value→Option Value
 | some a,some b,some c=>some (.tuple #[a,b,c])
 | _,_,_=>none
theorem d7b {fr:Fr} {h:DHeap} {t u:Tmp}:s0a P [.tmp t,.tmp u] fr h=S3c (fr t) (fr u):=by
 simp only[s0a,T3a,w1a]
 cases fr t <;> cases fr u <;> rfl
theorem f7b {fr:Fr} {h:DHeap} {t u w:Tmp}:s0a P [.tmp t,.tmp u,.tmp w] fr h=T3c (fr t) (fr u) (fr w):=by
 simp only[s0a,T3a,w1a]
 cases fr t <;> cases fr u <;> cases fr w <;> rfl
theorem E1b (a b:Value):S3c (some a) (some b)=some (.tuple #[a,b]):=rfl
theorem j1c (a b c:Value):T3c (some a) (some b) (some c)=some (.tuple #[a,b,c]):=rfl
attribute [go_sem] c7b d7b f7b E1b j1c
end Go.D
namespace Go.D
variable {P:Program}
theorem VIn.ren {S:Nat→Prop} {π:Nat→Option Nat} (hπ:∀ i,S i→π i=some i) {v:Value} (h:VIn S v):VRen π v v:=by
 induction h with
 | bool b=>exact .bool b
 | int k n=>exact .int k n
 | float k b=>exact .float k b
 | complex k a b=>exact .complex k a b
 | string s=>exact .string s
 | nilFunc=>exact .nilFunc
 | nilIface=>exact .nilIface
 | pnil=>exact .pnil
 | ptr h=>exact .ptr (hπ _ h)
 | snil=>exact .snil
 | slice h=>exact .slice (hπ _ h) id
 | mnil=>exact .mnil
 | map h=>exact .map (hπ _ h)
 | func hf _ _ i1 i2=>
   refine .func hf rfl (fun i v v' x y=>?_) rfl (fun i v v' x y=>?_)
   ·rw[x]at y;cases y;exact i1 v (Array.mem_of_getElem? x)
   ·rw[x]at y;cases y;exact i2 v (Array.mem_of_getElem? x)
 | yield h=>exact .yield (hπ _ h)
 | iface _ ih=>exact .iface ih
 | agg _ ih=>exact .agg rfl fun i v v' x y=>by rw[x]at y;cases y;exact ih v (Array.mem_of_getElem? x)
 | tuple _ ih=>exact .tuple rfl fun i v v' x y=>by rw[x]at y;cases y;exact ih v (Array.mem_of_getElem? x)
theorem E7a (S:Nat→Prop) {v:Value} (h:Yw v=true):VIn S v:=by
 unfold Yw at h
 split at h <;> first | constructor | cases h
theorem F7a (S:Nat→Prop) {v:Value} (h:XY v=true):VIn S v:=by
 unfold XY at h
 split at h
 ·exact .agg fun v hv=>E7a S (List.all_eq_true.1 h v (by simpa using hv))
 ·exact E7a S h
theorem h2a (S:Nat→Prop) {v:Value} (h:Yj v=true):VIn S v:=by
 unfold Yj at h
 split at h
 ·exact .iface (F7a S h)
 ·exact .tuple fun v hv=>F7a S (List.all_eq_true.1 h v (by simpa using hv))
 ·exact F7a S h
def nm (n:Nat) (ρ:Nat→Option Nat):Nat→Option Nat:=fun j=>if j<n then some j else ρ j
theorem o6a {n:Nat} {ρ:Nat→Option Nat} {j:Nat} (h:j<n):nm n ρ j=some j:=if_pos h
theorem A1d {n:Nat} {ρ:Nat→Option Nat} {j:Nat} (h:n≤j):nm n ρ j=ρ j:=if_neg (Nat.not_lt.2 h)
def U8c (π:Nat→Option Nat):DEnd→DEnd→Prop
 | .ret v,.ret u=>VRen π v u
 | .pan v,.pan u=>VRen π v u
 | _,_=>False
theorem ObjRel.self {ι:Inj} {π:Nat→Option Nat} {e:Ent} {o:DObj} {w:World} (hπ:∀ i e,ι i=some e→π i=some i) (h:ObjRel ι e o w):ORen π o o:=by
 cases o with
 | row cells esz ro=>
   obtain ⟨_,_,cur,ty,fz,_,d,_⟩:=h
   refine ⟨rfl,rfl,Nat.le_refl _,fun i v u x y=>?_⟩
   rw[x]at y;cases y
   obtain ⟨v',_,q⟩:=d i v x
   exact VRel.ren_self hπ q
 | map es clock=>
   obtain ⟨_,_,es',_,d1,d2⟩:=h
   refine ⟨rfl,rfl,fun i e0 e' x y=>?_⟩
   rw[x]at y;cases y
   have hi:i<es'.toList.length:=by rw[← d1];exact (List.getElem?_eq_some_iff.1 x).1
   obtain ⟨_,_,q⟩:=d2 i e0 _ x (List.getElem?_eq_getElem hi)
   exact ⟨rfl,rfl,VRel.ren_self hπ q⟩
 | loop d=>
   obtain ⟨_,_,l,_,hh⟩:=h
   obtain ⟨x,hm,_,_⟩:=hh.defers
   exact ⟨rfl,rfl,rfl,rfl,hπ _ _ hm,rfl,rfl,fun t v hv=>⟨v,hv,VRel.ren_self hπ (hh.tmps.2 t v hv)⟩⟩
 | marks b=>exact rfl
 | iter m a s c=>
   obtain ⟨_,_,m',_,h4⟩:=h
   refine ⟨rfl,rfl,rfl,?_⟩
   cases m with
   | none=>trivial
   | some i=>
     cases m' with
     | none=>exact h4.elim
     | some b0=>
       obtain ⟨e1,q1,_⟩:=h4
       exact hπ _ _ q1
 | dead=>trivial
structure Seen (h:DHeap) (r:DEnd) (h':DHeap) (r1:DEnd) (h1:DHeap) (ρ:Nat→Option Nat):Prop where
 new:∀ j i,ρ j=some i→h.next≤j∧j<h'.next∧h.next≤i
 inj:∀ j j' i,ρ j=some i→ρ j'=some i→j=j'
 obj:∀ j i o1,ρ j=some i→h1.get i=some o1→∃ o,h'.get j=some o∧ORen (nm h.next ρ) o o1
 old:∀ j,j<h.next→(h1.get j=h.get j∧h'.get j=h.get j)∨∀ o1,h1.get j=some o1→∃ o,h'.get j=some o∧ORen (nm h.next ρ) o o1
 res:U8c (nm h.next ρ) r r1
theorem Seen.go {h h' h1:DHeap} {r r1:DEnd} {ρ:Nat→Option Nat} (q:Seen h r h' r1 h1 ρ) (hh:HStep h h') {ι ι1:Inj} {w w1:World} {e:Ending} (s:Sim ι h w) (hs:HStep h h1)
 (he:D1a ι1 r1 e) (s1:Sim ι1 h1 w1) (st:Step ι ι1 h h1 w w1):∃ ι',D1a ι' r e∧Sim ι' h' w1∧Step ι ι' h h' w w1:=by
 have hold:∀ i x,ι i=some x→nm h.next ρ i=some i:=fun i x hx=>o6a (s.lt i x hx)
 have hr:S8c (fun i=>∃ e,ι1 i=some e) (nm h.next ρ) h' h1:=by
  refine ⟨fun j j' i a b=>?_,fun j i a=>?_,hh.ng.trans hs.ng.symm,fun g hg'=>(let ⟨x,hx,_⟩:=s.glob g (hs.ng▸hg');o6a (s.lt g x hx)),fun j i o1 a ⟨x,hx⟩ c=>?_⟩
  ·unfold nm at a b
   split at a
   ·split at b
    ·cases a;cases b;rfl
    ·cases a
     have:=(q.new j' j b).2.2
     omega
   ·split at b
    ·cases b
     have:=(q.new j j' a).2.2
     omega
    ·exact q.inj j j' i a b
  ·unfold nm at a
   split at a
   ·have:=hh.next;omega
   ·exact (q.new j i a).2.1
  ·unfold nm at a
   split at a
   ·rename_i hlt
    cases a
    rcases q.old j hlt with ⟨g1,g2⟩ | g
    ·rw[g1]at c
     refine ⟨o1,g2.trans c,?_⟩
     have hlive:∃ y,ι j=some y:=by
      cases hj:ι j with
      | some y=>exact ⟨y,rfl⟩
      | none=>exact absurd (st.new j x hx hj).1 (by omega)
     obtain ⟨y,hy⟩:=hlive
     obtain ⟨o,g3,g4⟩:=s.obj j y hy
     rw[c]at g3;cases g3
     exact ObjRel.self hold g4
    ·exact g o1 c
   ·exact q.obj j i o1 a c
 have hle:∀ id x,ι id=some x→(ι1.via (nm h.next ρ)) id=some x:=fun id x hx=>Inj.via_of (hold id x hx) (st.le id x hx)
 refine ⟨ι1.via (nm h.next ρ),?_,Sim.ren hr s1,⟨hle,fun id x hx hn=>?_,hh.next,hh.ng,st.os,st.tape,st.output,st.size,st.frame,st.drawn⟩⟩
 ·have hres:=q.res
  cases r with
  | ret v=>
    cases r1 with
    | ret u=>
      cases e with
      | returned v'=>exact VRen.rel hres he
      | _=>exact he.elim
    | pan u=>exact hres.elim
  | pan v=>
    cases r1 with
    | pan u=>
      cases e with
      | panicked ch=>
        obtain ⟨v',rfl,hv⟩:=he
        exact ⟨v',rfl,VRen.rel hres hv⟩
      | _=>exact he.elim
    | ret u=>exact hres.elim
 ·obtain ⟨i,a,b⟩:=Inj.via_some hx
  unfold nm at a
  split at a
  ·rename_i hlt
   cases a
   exact absurd (st.new id x b hn).1 (by omega)
  ·have hq:=q.new id i a
   refine ⟨hq.1,?_⟩
   have hno:ι i=none:=by
    cases hi:ι i with
    | none=>rfl
    | some y=>exact absurd (s.lt i y hi) (by omega)
   exact (st.new i x b hno).2
theorem Ct.canon {f:FuncId} {args:List Value} {h h':DHeap} {r:DEnd} {R:DEnd→DHeap→Prop} (c:Ct P f args h R) (hh:HStep h h') (hx:∀ r1 h1,R r1 h1→∃ ρ,Seen h r h' r1 h1 ρ):DC P f args h r h':=by
 refine ⟨hh,fun n ι w args' s ha=>CallsIn.mono (c n ι w args' s ha) fun e w1 ⟨ι1,r1,h1,hR,hs,he,s1,st⟩=>?_⟩
 obtain ⟨ρ,q⟩:=hx r1 h1 hR
 exact q.go hh s hs he s1 st
theorem Seen.pure {h h1:DHeap} {v:Value} (e:Ext h h1) (hv:VIn (fun i=>i<h.next) v):Seen h (.ret v) h (.ret v) h1 (fun _=>none):=
 ⟨fun j i x=>(by cases x),fun j j' i x=>(by cases x),fun j i o1 x=>(by cases x),fun j hj=>.inl ⟨e.get j hj,rfl⟩,hv.ren fun i hi=>o6a hi⟩
theorem Ct.pure {f:FuncId} {args:List Value} {h:DHeap} {v:Value} (c:Ct P f args h fun r h1=>r=.ret v∧Ext h h1) (hv:VIn (fun i=>i<h.next) v):DC P f args h (.ret v) h:=
 c.canon (.refl _) fun r1 h1 ⟨a,b⟩=>by subst a;exact ⟨_,.pure b hv⟩
end Go.D
namespace Go.D
variable {P:Program}
theorem h1b {v:Value} (h:Yw v=true):v.oneCell'=true:=by
 unfold Yw at h
 split at h <;> first | rfl | cases h
structure FRep (α:Type) where
 z:Nat
 enc:α→List Value
 ok:α→Prop
 len:∀ x,(enc x).length=z
 flat:∀ x,(enc x).all Yw=true
 inj:∀ x y,enc x=enc y→x=y
def FRep.rep {α:Type} (F:FRep α):Rep α where
 z:=F.z
 rd _ _ cs x:=cs=F.enc x∧F.ok x
 len h:=by rw[h.1];exact F.len _
 one {S hp cs x} h:=by
  rw[h.1,List.all_eq_true]
  exact fun v hv=>h1b (List.all_eq_true.1 (F.flat x) v hv)
 mono h _:=h
 vin {S hp cs x} h v hv:=by
  rw[h.1]at hv
  exact E7a S (List.all_eq_true.1 (F.flat x) v hv)
def fI (k:IntKind):FRep Int where
 z:=1
 enc n:=[.int k n]
 ok n:=inK k n
 len _:=rfl
 flat _:=rfl
 inj x y h:=by simpa using h
def fB:FRep Bool where
 z:=1
 enc b:=[.bool b]
 ok _:=True
 len _:=rfl
 flat _:=rfl
 inj x y h:=by simpa using h
def fP {α β:Type} (F:FRep α) (G:FRep β):FRep (α × β) where
 z:=F.z+G.z
 enc x:=F.enc x.1++G.enc x.2
 ok x:=F.ok x.1∧G.ok x.2
 len x:=by simp[F.len,G.len]
 flat x:=by rw[List.all_append,F.flat,G.flat];rfl
 inj x y h:=by
  have:=List.append_inj h (by rw[F.len,F.len])
  exact Prod.ext (F.inj _ _ this.1) (G.inj _ _ this.2)
def fM {α β:Type} (F:FRep α) (f:β→α) (hf:∀ x y,f x=f y→x=y):FRep β where
 z:=F.z
 enc x:=F.enc (f x)
 ok x:=F.ok (f x)
 len x:=F.len _
 flat x:=F.flat _
 inj x y h:=hf _ _ (F.inj _ _ h)
def NoS:Nat→Prop:=fun _=>False
section
variable {α:Type} {F:FRep α} {S:Nat→Prop} {h h':DHeap} {v:Value} {l k:List α}
theorem Els.flat {cs:List Value}:Els F.rep S h cs l↔cs=l.flatMap F.enc∧∀ x∈l,F.ok x:=by
 induction l generalizing cs with
 | nil=>simp[Els]
 | cons x l ih=>
   simp only[Els,ih]
   constructor
   ·rintro ⟨c1,c2,rfl,⟨rfl,a⟩,rfl,b⟩
    exact ⟨by simp,by simpa using ⟨a,b⟩⟩
   ·rintro ⟨rfl,a⟩
    simp only[List.mem_cons,forall_eq_or_imp]at a
    exact ⟨_,_,by simp,⟨rfl,a.1⟩,rfl,a.2⟩
theorem ZW (F:FRep α) (l:List α):(l.flatMap F.enc).length=l.length*F.z:=by
 induction l with
 | nil=>simp
 | cons x l ih=>simp[F.len,ih,Nat.succ_mul];omega
theorem W3a (F:FRep α) (l:List α):(l.flatMap F.enc).all Yw=true:=by
 induction l with
 | nil=>rfl
 | cons x l ih=>rw[List.flatMap_cons,List.all_append,F.flat,ih];rfl
theorem Sl.ok (a:Sl F.rep S h v l):∀ x∈l,F.ok x:=by
 rcases a with ⟨rfl,rfl⟩ | ⟨id,o,cap,cells,esz,ro,rfl,b,c,d,e,f⟩
 ·simp
 ·exact (Els.flat.1 f).2
theorem Owns.ok {w:Option Nat} (a:Owns F.rep S h v l w):∀ x∈l,F.ok x:=a.sl.ok
theorem Owns.noS {i:Nat} (a:Owns F.rep S h v l (some i)) (S':Nat→Prop):Owns F.rep S' h v l (some i):=by
 rcases a with ⟨_,_,hh⟩ | ⟨hh,_⟩ | ⟨id,cap,cells,rfl,hh,b,c,d,e⟩
 ·cases hh
 ·cases hh
 ·exact .inr (.inr ⟨id,cap,cells,rfl,hh,b,c,d,Els.flat.2 (Els.flat.1 e)⟩)
theorem Owns.flatS {w:Option Nat} (a:Owns F.rep S h v l w) {S':Nat→Prop} (hS:∀ i,S i→S' i):Owns F.rep S' h v l w:=a.mono (Nat.le_refl _) (fun _ _=>rfl) fun i hi=>⟨hS i hi,rfl⟩
def c0b (F:FRep α) (l:List α):DObj:=.row (l.flatMap F.enc) F.z false
def mkS (h:DHeap) (n:Nat):Value:=.slice (some ⟨h.next,0,none⟩) n (n+1)
def lv (h:DHeap) (l:List α):Value:=if l.isEmpty then .slice none 0 0 else mkS h l.length
def lh (F:FRep α) (h:DHeap) (l:List α):DHeap:=if l.isEmpty then h else h.push (c0b F l)
theorem d0b (hok:∀ x∈l,F.ok x):Owns F.rep S (h.push (c0b F l)) (mkS h l.length) l (some h.next):=
 .inr (.inr ⟨h.next,l.length+1,_,rfl,rfl,Nat.lt_succ_self _,Zz _ _,by rw[ZW];exact Nat.le_refl _,Els.flat.2 ⟨by
  rw[List.take_of_length_le];rw[ZW];exact Nat.le_refl _,hok⟩⟩)
theorem Q9a (F:FRep α) (h:DHeap) (l:List α):Ext h (lh F h l):=by
 unfold lh;split
 ·exact .refl _
 ·exact (Ext.refl h).push _
def ρ1 (h:DHeap) (i:Nat):Nat→Option Nat:=fun j=>if j=h.next then some i else none
theorem z4b (h:DHeap) (i:Nat):nm h.next (ρ1 h i) h.next=some i:=by rw[A1d (Nat.le_refl _)];simp[ρ1]
theorem Seen.row {h1:DHeap} {r r1:DEnd} {cs cells:List Value} {z w:Nat} (e:Ext h h1) (hw:h.next≤w) (hg:h1.get w=some (.row cells z false)) (hl:cs.length≤cells.length) (hc:cells.take cs.length=cs)
 (hf:cs.all Yw=true) (hr:U8c (nm h.next (ρ1 h w)) r r1):Seen h r (h.push (.row cs z false)) r1 h1 (ρ1 h w):=by
 refine ⟨fun j i x=>?_,fun j j' i x y=>?_,fun j i o1 x y=>?_,fun j hj=>.inl ⟨e.get j hj,a0a _ _ hj⟩,hr⟩
 ·unfold ρ1 at x
  split at x
  ·cases x;subst_vars;exact ⟨Nat.le_refl _,Nat.lt_succ_self _,hw⟩
  ·cases x
 ·unfold ρ1 at x y
  split at x
  ·split at y
   ·subst_vars;rfl
   ·cases y
  ·cases x
 ·unfold ρ1 at x
  split at x
  ·cases x;subst_vars
   rw[hg]at y;cases y
   refine ⟨_,Zz _ _,rfl,rfl,hl,fun i v u p q=>?_⟩
   have hi:i<cs.length:=(List.getElem?_eq_some_iff.1 p).1
   have:cs[i]? = some u:=by rw[← hc,List.getElem?_take,if_pos hi];exact q
   rw[p]at this;cases this
   exact i1b _ (W0a hf p)
  ·cases x
theorem Seen.list {h1:DHeap} {v1:Value} {w:Option Nat} (e:Ext h h1) (ho:Owns F.rep S h1 v1 l w) (hw:∀ i,w=some i→h.next≤i) (hn:l=[]→w=none) (hv:w=none→v1=.slice none 0 0) :
 ∃ ρ,Seen h (.ret (lv h l)) (lh F h l) (.ret v1) h1 ρ:=by
 rcases ho with ⟨rfl,rfl,rfl⟩ | ⟨rfl,⟨a,ha⟩,_⟩ | ⟨id,cap,cells,rfl,rfl,b,c,d,f⟩
 ·exact ⟨_,Seen.pure e .snil⟩
 ·rw[hv rfl]at ha;cases ha
 ·have hne:l.isEmpty=false:=by
   cases l with
   | nil=>exact absurd (hn rfl) (by simp)
   | cons=>rfl
  obtain ⟨f1,_⟩:=Els.flat.1 f
  refine ⟨ρ1 h id,?_⟩
  unfold lv lh
  rw[hne]
  have hlen:=ZW F l
  refine Seen.row e (hw id rfl) c (by rw[hlen];exact d) (by rw[hlen];exact f1) (W3a F l) ?_
  exact VRen.slice (z4b h id) (fun hx=>by omega)
theorem Seen.list' {h1:DHeap} {v1:Value} {w:Nat} (e:Ext h h1) (ho:Owns F.rep S h1 v1 l (some w)) (hw:h.next≤w):∃ ρ,Seen h (.ret (mkS h l.length)) (h.push (c0b F l)) (.ret v1) h1 ρ:=by
 rcases ho with ⟨rfl,rfl,hh⟩ | ⟨hh,_⟩ | ⟨id,cap,cells,rfl,hh,b,c,d,f⟩
 ·cases hh
 ·cases hh
 ·cases hh
  obtain ⟨f1,_⟩:=Els.flat.1 f
  have hlen:=ZW F l
  exact ⟨ρ1 h w,Seen.row e hw c (by rw[hlen];exact d) (by rw[hlen];exact f1) (W3a F l) (VRen.slice (z4b h w) (fun hx=>by omega))⟩
end
theorem Seen.changed {h h1:DHeap} {v:Value} {i:Nat} {o:DObj} (hi:i<h.next) (hn:∀ j,j<h.next→j≠i→h1.get j=h.get j) (ho:h1.get i=some o) (hs:ORen (nm h.next fun _=>none) o o) (hv:VIn (fun i=>i<h.next) v) :
 Seen h (.ret v) (h.set i o) (.ret v) h1 (fun _=>none):=by
 refine ⟨fun j i x=>(by cases x),fun j j' i x=>(by cases x),fun j i o1 x=>(by cases x),fun j hj=>?_,hv.ren fun i hi=>o6a hi⟩
 by_cases hji:j=i
 ·subst hji
  exact .inr fun o1 h1'=>by rw[ho]at h1';cases h1';exact ⟨o,Zj _ _,hs⟩
 ·exact .inl ⟨hn j hj hji,Zx _ _ hji⟩
theorem M3c {n:Nat} {ρ:Nat→Option Nat} {cells:List Value} {z:Nat} {ro:Bool} (hc:∀ v∈cells,VIn (fun i=>i<n) v):ORen (nm n ρ) (.row cells z ro) (.row cells z ro):=
 ⟨rfl,rfl,Nat.le_refl _,fun i v u a b=>by rw[a]at b;cases b;exact (hc v (List.mem_of_getElem? a)).ren fun i hi=>o6a hi⟩
def T4a (places:List (Nat × Nat)):List Value→List (Nat × Value)→Option (List Value)
 | cells,[]=>some cells
 | cells,(i,v) :: rest=>
   match places[i]? with
   | none=>none
   | some (off,size)=>if v.cells.size=size∧off+size≤cells.length then T4a places (YZ cells off v.cells.toList) rest else none
theorem M3a (cells:List Value) (o:Nat) (vs:List Value):∀ i,(YZ cells o vs)[i]? = if o≤i∧i<o+vs.length∧i<cells.length then vs[i - o]? else cells[i]?:=by
 induction vs generalizing cells o with
 | nil=>intro i;simp[YZ];omega
 | cons v vs ih=>
   intro i
   simp only[YZ,ih,List.length_set,List.getElem?_set,List.length_cons]
   by_cases h1:o+1≤i∧i<o+1+vs.length∧i<cells.length
   ·rw[if_pos h1,if_pos (by omega)]
    rw[show i - o=(i - (o+1))+1 by omega,List.getElem?_cons_succ]
   ·rw[if_neg h1]
    by_cases h2:o=i
    ·subst h2
     simp only[if_true]
     by_cases h3:o<cells.length
     ·rw[if_pos h3,if_pos (by omega)];simp
     ·rw[if_neg h3,if_neg (by omega),List.getElem?_eq_none (by omega)]
    ·rw[if_neg h2,if_neg (by omega)]
theorem L9a (vs:List Value):∀ (off k:Nat) (cs:Array Value),((vs.zipIdx k).foldl (fun cs (x:Value × Nat)=>cs.setIfInBounds (off+x.2) x.1) cs).toList=YZ cs.toList (off+k) vs:=by
 induction vs with
 | nil=>intro off k cs;rfl
 | cons v vs ih=>
   intro off k cs
   simp only[List.zipIdx_cons,List.foldl_cons,ih,YZ,Array.toList_setIfInBounds]
   rfl
theorem D9b {place:Nat→Option (Nat × Nat)} {places:List (Nat × Nat)} (hp:∀ i,place i=places[i]?):∀ (parts:List (Nat × Value)) (cells:Array Value) (l:List Value),T4a places cells.toList parts=some l→Instr.fill place cells parts=some l.toArray:=by
 intro parts
 induction parts with
 | nil=>intro cells l h;simp only[T4a,Option.some.injEq]at h;subst h;simp[Instr.fill]
 | cons p rest ih=>
   intro cells l h
   obtain ⟨i,v⟩:=p
   simp only[T4a]at h
   simp only[Instr.fill,hp]
   cases hpl:places[i]? with
   | none=>rw[hpl]at h;cases h
   | some x=>
     obtain ⟨off,size⟩:=x
     rw[hpl]at h
     simp only at h ⊢
     split at h
     ·rename_i hc
      rw[if_neg (by simp only[Array.length_toList]at hc;simp[hc.1];omega)]
      refine ih _ l ?_
      rw[← h]
      congr 1
      have:=L9a v.cells.toList off 0 cells
      simp only[Nat.add_zero]at this
      rw[← this]
      congr 1
      rw[← Array.foldl_toList,Array.toList_zipIdx]
     ·cases h
def c2a (P:Program) (t:TypeId):Option (List (Nat × Nat) × List Value):=
 match P.info? t,P.underlying t with
 | some it,some (.struct fields)=>
   match it.zero,fields.toList.mapM (fun f=>(P.info? f.type).map fun i=>(f.offset,i.size)) with
   | some z,some places=>if z.cells.toList.all Yw then some (places,z.cells.toList) else none
   | _,_=>none
 | _,_=>none
theorem l0a {t:TypeId} {pl:List (Nat × Nat)} {zs l:List Value} {parts:List (Nat × Value)} (hp:c2a P t=some (pl,zs)) (hf:T4a pl zs parts=some l):Xy P t parts=some (.agg l.toArray):=by
 unfold c2a at hp
 split at hp
 ·rename_i it fields e1 e2
  split at hp
  ·rename_i z places e3 e4
   split at hp
   ·rename_i hz
    cases hp
    have hzf:o4a P t=true:=by simp[o4a,e1,e3];simpa using hz
    have hb:P.built t parts=some l.toArray:=by
     simp only[Program.built,e1,e2,e3,e4]
     exact D9b (fun i=>by simp) parts z.cells l hf
    simp[Xy,hzf,hb]
   ·cases hp
  ·cases hp
 ·cases hp
def h4a (P:Program) (t:TypeId):Option (Nat × List Value):=
 match P.underlying t with
 | some (.slice e)=>
   match P.info? e with
   | some i=>
     match i.zero with
     | some z=>if 0<i.size∧z.cells.toList.all Yw=true then some (i.size,z.cells.toList) else none
     | none=>none
   | none=>none
 | _=>none
def Y8a (k:Nat):List Value→List (Nat × Value)
 | []=>[]
 | v :: vs=>(k,v) :: Y8a (k+1) vs
theorem C9b {z:Nat}:∀ (vs:List Value) (k:Nat) (cells:Array Value),(∀ v∈vs,v.cells.size=z)→(k+vs.length)*z≤cells.size →
 Instr.fill (fun i=>some (i*z,z)) cells (Y8a k vs)=some (YZ cells.toList (k*z) (vs.flatMap fun v=>v.cells.toList)).toArray:=by
 intro vs
 induction vs with
 | nil=>intro k cells _ _;simp[Y8a,Instr.fill,YZ]
 | cons v vs ih=>
   intro k cells hz hl
   have hv:=hz v (by simp)
   simp only[List.length_cons]at hl
   have h1:(k+1)*z≤(k+(vs.length+1))*z:=Nat.mul_le_mul_right _ (by omega)
   rw[Nat.succ_mul]at h1
   simp only[Y8a,Instr.fill]
   rw[if_neg (by simp[hv];omega)]
   have hf:(v.cells.zipIdx.foldl (fun cs (x:Value × Nat)=>cs.setIfInBounds (k*z+x.2) x.1) cells).toList=YZ cells.toList (k*z) v.cells.toList:=by
    have:=L9a v.cells.toList (k*z) 0 cells
    simp only[Nat.add_zero]at this
    rw[← this,← Array.foldl_toList,Array.toList_zipIdx]
   rw[ih (k+1) _ (fun u hu=>hz u (by simp[hu])) (by
    have hs:(v.cells.zipIdx.foldl (fun cs (x:Value × Nat)=>cs.setIfInBounds (k*z+x.2) x.1) cells).size=cells.size:=by
     rw[← Array.length_toList,hf,R2a,Array.length_toList]
    rw[hs]
    rw[show k+1+vs.length=k+(vs.length+1) by omega];exact hl),hf]
   congr 2
   have sa:∀ (a b:List Value) (cs:List Value) (o:Nat),YZ cs o (a++b)=YZ (YZ cs o a) (o+a.length) b:=by
    intro a
    induction a with
    | nil=>intro b cs o;simp[YZ]
    | cons x a iha=>intro b cs o;simp only[List.cons_append,YZ,iha,List.length_cons];congr 1;omega
   rw[List.flatMap_cons,sa,Array.length_toList,hv,Nat.succ_mul]
theorem J2a {t:TypeId} {z:Nat} {zs vs:List Value} {h:DHeap} (hT:h4a P t=some (z,zs)) (h0:0<vs.length) (hz:∀ v∈vs,v.cells.size=z) (hb:vs.length*z≤2 ^ 24) :
 f0a P t vs.length (Y8a 0 vs) h=some (.slice (some ⟨h.next,0,none⟩) vs.length vs.length,h.push (.row (vs.flatMap fun v=>v.cells.toList) z false)):=by
 unfold h4a at hT
 split at hT
 ·rename_i e e1
  split at hT
  ·rename_i i e2
   split at hT
   ·rename_i zv e3
    split at hT
    ·rename_i hc
     simp only[Option.some.injEq,Prod.mk.injEq]at hT
     obtain ⟨rfl,rfl⟩:=hT
     have hrz:(j0a zv.cells (vs.length*i.size)).size=vs.length*i.size:=by simp[j0a]
     have hf:=C9b (z:=i.size) vs 0 (j0a zv.cells (vs.length*i.size)) hz (by rw[hrz];simp)
     have hlen:∀ us:List Value,(∀ v∈us,v.cells.size=i.size)→(us.flatMap fun v=>v.cells.toList).length=us.length*i.size:=by
      intro us
      induction us with
      | nil=>intro _;simp
      | cons u us ih=>intro hu;simp only[List.flatMap_cons,List.length_append,Array.length_toList,hu u (by simp),ih (fun v hv=>hu v (by simp[hv])),List.length_cons,Nat.succ_mul];omega
     have hset:YZ (j0a zv.cells (vs.length*i.size)).toList (0*i.size) (vs.flatMap fun v=>v.cells.toList)=vs.flatMap fun v=>v.cells.toList:=by
      refine List.ext_getElem? fun j=>?_
      have hrl:(j0a zv.cells (vs.length*i.size)).toList.length=vs.length*i.size:=by simp[j0a]
      rw[M3a,hlen vs hz,hrl]
      simp only[Nat.zero_mul,Nat.zero_le,true_and,Nat.zero_add,Nat.sub_zero,and_self]
      split
      ·rfl
      ·rw[List.getElem?_eq_none (by rw[hrl];omega),List.getElem?_eq_none (by rw[hlen vs hz];omega)]
     rw[hset]at hf
     simp only[f0a,e1,e2,e3]
     rw[if_neg (by omega),if_pos ⟨h0,hc.1,hb,hc.2⟩]
     simp only[hf]
     rw[if_pos (by simp[hlen vs hz])]
    ·cases hT
   ·cases hT
  ·cases hT
 ·cases hT
theorem L1b {t:TypeId} {z:Nat} {zs:List Value} {h:DHeap} (hT:h4a P t=some (z,zs)):f0a P t 0 [] h=some (.slice (some ⟨h.next,0,none⟩) 0 0,h.push (.row [] z false)):=by
 unfold h4a at hT
 split at hT
 ·rename_i e e1
  split at hT
  ·rename_i i e2
   split at hT
   ·rename_i zv e3
    split at hT
    ·rename_i hc
     simp only[Option.some.injEq,Prod.mk.injEq]at hT
     obtain ⟨rfl,rfl⟩:=hT
     simp[f0a,e1,e2,e3,hc.1]
    ·cases hT
   ·cases hT
  ·cases hT
 ·cases hT
theorem c7a {t:TypeId} {z:Nat} {zs:List Value} {h:DHeap} {a:Value} (hT:h4a P t=some (z,zs)) (ha:a.cells.size=z) (hb:z≤2 ^ 24) :
 f0a P t 1 [(0,a)] h=some (.slice (some ⟨h.next,0,none⟩) 1 1,h.push (.row a.cells.toList z false)):=by
 have:=J2a (h:=h) (vs:=[a]) hT (by simp) (by simpa using ha) (by simpa using hb)
 simpa [Y8a] using this
theorem M1b {t:TypeId} {z:Nat} {zs:List Value} {h:DHeap} {a b:Value} (hT:h4a P t=some (z,zs)) (ha:a.cells.size=z) (hb':b.cells.size=z) (hb:2*z≤2 ^ 24) :
 f0a P t 2 [(0,a),(1,b)] h=some (.slice (some ⟨h.next,0,none⟩) 2 2,h.push (.row (a.cells.toList++b.cells.toList) z false)):=by
 have:=J2a (h:=h) (vs:=[a,b]) hT (by simp) (by simp[ha,hb']) (by simpa using hb)
 simpa [Y8a] using this
end Go.D
namespace Go.D
variable {P:Program} {nt:Nat}
theorem r2b (ops:Array Oper) (o:Oper) (fr:Fr) (h:DHeap) (r:DEnd) (h':DHeap):Ex P (ops.map Yq) (Yq o) fr h r h'=Ex P ops o fr h r h':=by
 unfold Ex
 rw[K1a,D3a]
theorem J3b (ops:Array Oper) (fr:Fr):z2a (ops.map Yq) fr=z2a ops fr:=by
 have:∀ l:List Oper,(l.map Yq).any=fun p=>l.any (fun o=>p (Yq o)):=by
  intro l;funext p;rw[List.any_map];rfl
 unfold z2a
 funext t
 simp only[Array.toList_map,List.any_map]
 rfl
theorem D6b (ops:Array Oper) (tr:List TE) (i j:Nat):p7a P (ops.map Yq) tr i j=p7a P ops tr i j:=by
 unfold p7a
 rw[Array.getElem?_map]
 generalize tr[i]? = x
 generalize tr[j]? = y
 cases ops[i]? with
 | none=>
   rcases x with _ | x
   ·rcases y with _ | y
    ·rfl
    ·cases y <;> rfl
   ·rcases y with _ | y
    ·cases x <;> rfl
    ·cases x <;> cases y <;> rfl
 | some o=>
   rcases x with _ | x
   ·rcases y with _ | y
    ·rfl
    ·cases y <;> rfl
   ·rcases y with _ | y
    ·cases x <;> rfl
    ·cases x <;> cases y <;> simp only[Option.map_some,r2b]
theorem O5a (ops:Array Oper) (tr:List TE):∀ ps,s3a P (ops.map Yq) tr ps=s3a P ops tr ps
 | []=>rfl
 | (i,j) :: ps=>by simp only[s3a,D6b,O5a ops tr ps]
theorem w8a (ops:Array Oper) (b:List Nat) (p:Nat) (fin:List TE→Prop):∀ (l:List Oper) (k:Nat) (fr:Fr) (h:DHeap) (tr:List TE),p4a P (ops.map Yq) b p fin (l.map Yq) k fr h tr=p4a P ops b p fin l k fr h tr
 | [],_,_,_,_=>rfl
 | o :: l,k,fr,h,tr=>by
   simp only[List.map_cons,p4a,r2b]
   have ih:=w8a ops b p fin l
   simp only[ih]
   rfl
theorem v8a (ops:Array Oper) (b:List Nat) (ps:List (Nat × Nat)) (fr0:Fr) (Q:Zv→St→Prop):∀ (l:List Oper) (k:Nat) (s:St) (tr:List TE),
 XZ P (ops.map Yq) b ps fr0 Q (l.map Yq) k s tr=XZ P ops b ps fr0 Q l k s tr
 | [],_,_,_=>by simp only[List.map_nil,XZ,O5a]
 | o :: l,k,s,tr=>by
   have ih:=v8a ops b ps fr0 Q l
   simp only[List.map_cons,XZ,K1a,D3a,O5a,J3b,w8a,ih]
   rfl
def s6b (P:Program) (ops:Array Oper) (b:List Nat) (ps:List (Nat × Nat)) (fr0:Fr) (Q:Zv→St→Prop) (o:Oper) (rest:List Oper) (k:Nat) (s:St) (tr:List TE) (v:Value) (h':DHeap):Prop:=
 Xu P o.op=true∧p4a P ops b k (fun tr=>s3a P ops tr ps∧Q (.pan v) ⟨z2a ops fr0,s.df,h',s.rd⟩) rest (k+1) s.fr s.h (tr++[.no])
def DCl (P:Program) (ops:Array Oper) (b:List Nat) (ps:List (Nat × Nat)) (fr0:Fr) (Q:Zv→St→Prop) (o:Oper) (rest:List Oper) (k:Nat) (s:St) (tr:List TE) (f:FuncId) (args:List Value) (h1:DHeap):Prop:=
 ∃ r h',DC P f args h1 r h'∧match r with
  | .ret v=>XZ P ops b ps fr0 Q rest (k+1) ⟨s.fr.put o.dst v,s.df,h',s.rd⟩ (tr++[v0a o s.fr s.h v h'])
  | .pan v=>s6b P ops b ps fr0 Q o rest k s tr v h'
def DNx (P:Program) (ops:Array Oper) (b:List Nat) (ps:List (Nat × Nat)) (fr0:Fr) (Q:Zv→St→Prop) (o:Oper) (rest:List Oper) (k:Nat) (s:St) (tr:List TE) (x:DR):Prop:=
 match x with
 | .ok (.value v) h=>XZ P ops b ps fr0 Q rest (k+1) ⟨s.fr.put o.dst v,s.df,h,s.rd⟩ (tr++[v0a o s.fr s.h v h])
 | .ok .skip h=>XZ P ops b ps fr0 Q rest (k+1) ⟨s.fr.put o.dst undef,s.df,h,s.rd⟩ (tr++[v0a o s.fr s.h undef h])
 | .ok (.enter f args) h1=>DCl P ops b ps fr0 Q o rest k s tr f args h1
 | .ok (.round l z t a bd) h1=>∃ r h',DRd P l z t a bd h1 r h'∧match r with
   | .ret v=>XZ P ops b ps fr0 Q rest (k+1) ⟨s.fr.put o.dst v,s.df,h',s.rd⟩ (tr++[v0a o s.fr s.h v h'])
   | .pan v=>s6b P ops b ps fr0 Q o rest k s tr v h'
 | .pan v h'=>s6b P ops b ps fr0 Q o rest k s tr v h'
 | _=>False
def t6b (P:Program) (ops:Array Oper) (b:List Nat) (ps:List (Nat × Nat)) (fr0:Fr) (Q:Zv→St→Prop) (o:Oper) (rest:List Oper) (k:Nat) (s:St) (tr:List TE) (w:Option Bool):Prop:=
 match w with
 | none=>False
 | some false=>XZ P ops b ps fr0 Q rest (k+1) ⟨s.fr.put o.dst undef,s.df,s.h,s.rd⟩ (tr++[v0a o s.fr s.h undef s.h])
 | some true=>DNx P ops b ps fr0 Q o rest k s tr (dOp P (ZV s.h.ng s.fr) o s.h)
section
variable (ops:Array Oper) (b:List Nat) (ps:List (Nat × Nat)) (fr0:Fr) (Q:Zv→St→Prop) (o:Oper) (rest:List Oper) (k:Nat) (s:St) (tr:List TE)
theorem o8b:XZ P ops b ps fr0 Q [] k s tr=(s3a P ops tr ps∧Q .normal s):=rfl
theorem C6b:XZ P ops b ps fr0 Q (o :: rest) k s tr=t6b P ops b ps fr0 Q o rest k s tr (ZK ops s.fr o):=by
 simp only[XZ,t6b]
 rfl
theorem u6b:t6b P ops b ps fr0 Q o rest k s tr (some false)=XZ P ops b ps fr0 Q rest (k+1) ⟨s.fr.put o.dst undef,s.df,s.h,s.rd⟩ (tr++[v0a o s.fr s.h undef s.h]):=rfl
theorem d8b:t6b P ops b ps fr0 Q o rest k s tr (some true)=DNx P ops b ps fr0 Q o rest k s tr (dOp P (ZV s.h.ng s.fr) o s.h):=rfl
theorem c8b (v:Value) (h:DHeap):DNx P ops b ps fr0 Q o rest k s tr (.ok (.value v) h)=XZ P ops b ps fr0 Q rest (k+1) ⟨s.fr.put o.dst v,s.df,h,s.rd⟩ (tr++[v0a o s.fr s.h v h]):=rfl
theorem o1c (h:DHeap):DNx P ops b ps fr0 Q o rest k s tr (.ok .skip h)=XZ P ops b ps fr0 Q rest (k+1) ⟨s.fr.put o.dst undef,s.df,h,s.rd⟩ (tr++[v0a o s.fr s.h undef h]):=rfl
theorem b8b (f:FuncId) (args:List Value) (h:DHeap):DNx P ops b ps fr0 Q o rest k s tr (.ok (.enter f args) h)=DCl P ops b ps fr0 Q o rest k s tr f args h:=rfl
theorem z1a:s3a P ops tr []=True:=rfl
end
theorem i7b {ops:Array Oper} {b:List Nat} {ps:List (Nat × Nat)} {fr0:Fr} {Q:Zv→St→Prop} {o:Oper} {rest:List Oper} {k:Nat} {s:St} {tr:List TE} {f:FuncId} {args:List Value} {h1 h':DHeap} {v:Value}
 (hc:DC P f args h1 (.ret v) h') (hx:XZ P ops b ps fr0 Q rest (k+1) ⟨s.fr.put o.dst v,s.df,h',s.rd⟩ (tr++[v0a o s.fr s.h v h'])):DCl P ops b ps fr0 Q o rest k s tr f args h1:=⟨_,_,hc,hx⟩
def u5d (o:Oper) (fr:Fr) (h:DHeap) (v:Value) (h':DHeap):TE:=v0a o fr h v h'
def Ld (P:Program) (ops:Array Oper) (o:Oper) (fr:Fr) (h:DHeap) (v:Value):Prop:=Ex P ops o fr h (.ret v) h
theorem s5b {ops:Array Oper} {tr:List TE} {i j:Nat} {o:Oper} {fr:Fr} {v:Value} {h h':DHeap} (h1:ops[i]? = some o) (h2:tr[i]? = some (.ld fr v)) (h3:tr[j]? = some (.big h h'))
 (hx:Ld P ops o fr (if j<i then h else h') v):p7a P ops tr i j:=by
 unfold p7a
 rw[h1,h2,h3]
 exact hx
theorem k4c {ops:Array Oper} {dst:Option Tmp} {t:TypeId} {a:Operand} {ty:TypeId} {pos:String} {aft:Array Edge} {gd:Option (Nat × Bool)} {fr:Fr} {h:DHeap} {v p:Value} (hw:ZK ops fr ⟨dst,.load t a,ty,pos,aft,gd⟩=some true)
 (ha:ZV h.ng fr a=some p) (hl:XX P t p h=some v):Ld P ops ⟨dst,.load t a,ty,pos,aft,gd⟩ fr h v:=by
 unfold Ld Ex
 rw[hw]
 simp only[b1b,ha,E8a,hl,U3b,and_self]
theorem NC.draw {id:Nat} {ops:Array Oper} {l:List Oper} {b:List Nat} {ps:List (Nat × Nat)} {Q:Zv→St→Prop} {s:St} (hmix:P.follows .mixedOrders=true) (hd:I0a nt ops=true) (hok:s3b P ops=true)
 (hb:Xz ops.toList []=b) (hps:k4a P ops=ps) (hl:ops.map Yq=l.toArray) (h:XZ P l.toArray b ps s.fr Q l 0 s []):NC P nt (.region id ops true) Q s:=by
 refine .of_XC (O5c hmix hd hok hb hps ?_)
 have h2:ops.toList.map Yq=l:=by
  have:=congrArg Array.toList hl
  simpa using this
 rw[← hl,← h2,v8a]at h
 exact h
attribute [go_sem] o8b C6b u6b d8b c8b o1c b8b z1a
end Go.D
namespace Go.D
variable {P:Program} {α:Type} {R:Rep α} {F:FRep α} {S S':Nat→Prop} {h h' h1 h2:DHeap} {v x:Value} {l k:List α} {t:TypeId} {b z:Nat} {ts:Array TypeId}
theorem w7a {v x:Value} {new:List Value} (hT:K2a P ts=some (z,b)) (hx:D.lenV x=some 0) (hs:K0a z 0 x h=some new) (h1:new.all Value.oneCell'=true) (hv:∃ a n c,v=.slice a n c):u0a P ts v x h=some (v,h):=by
 obtain ⟨a,n,c,rfl⟩:=hv
 unfold K2a at hT
 split at hT
 ·cases hT
 ·rename_i st e0
  split at hT
  ·rename_i e ee
   split at hT
   ·rename_i inf ei
    split at hT
    ·rename_i zv ez
     split at hT
     ·rename_i hc
      simp only[Option.some.injEq,Prod.mk.injEq]at hT
      have e1':K0a inf.size 0 x h=some new:=by rw[hT.1];exact hs
      simp only[u0a,e0,ee,ei,hx,hc.1,hc.2.1,and_self,if_true,e1',ez]
      rw[if_neg (by rw[h1];simp[hc.2.2])]
     ·cases hT
    ·cases hT
   ·cases hT
  ·cases hT
abbrev Arg (R:Rep α) (h:DHeap) (v:Value) (l:List α):Prop:=Sl R (fun i=>i<h.next) h v l
theorem Sl.ext (a:Sl R (fun i=>i<h.next) h v l) (e:Ext h h1):Arg R h1 v l:=a.mono fun i hi=>⟨Nat.lt_of_lt_of_le hi e.next,e.get i hi⟩
theorem Sl.keep (a:Sl R S h v l) (e:∀ i,S i→h1.get i=h.get i):Sl R S h1 v l:=a.mono fun i hi=>⟨hi,e i hi⟩
theorem Sl.ext' (a:Sl R S h v l) (hS:∀ i,S i→i<h.next) (e:Ext h h1):Sl R S h1 v l:=a.keep fun i hi=>e.get i (hS i hi)
theorem Ext.push1 (h:DHeap) (o:DObj):Ext h (h.push o):=(Ext.refl h).push o
theorem Ext.hstep (e:Ext h h1):HStep h h1:=⟨e.next,e.ng⟩
theorem n3c (F:FRep α) (h:DHeap) (l:List α):HStep h (lh F h l):=(Q9a F h l).hstep
theorem Sl.cells1 (a:Sl R S h v l):v.cells=#[v]:=by
 obtain ⟨_,_,rfl⟩:=a.isSlice
 rfl
theorem Sl.nos (a:Sl R NoS h v l):v=.slice none 0 0∧l=[]:=by
 rcases a with a | ⟨id,o,cap,cells,esz,ro,rfl,b,_⟩
 ·exact a
 ·exact b.elim
structure Made (F:FRep α) (h h1:DHeap) (v:Value) (l:List α):Prop where
 ext:Ext h h1
 own:∃ w,Owns F.rep NoS h1 v l w∧(∀ i,w=some i→h.next≤i)
theorem Made.nil (F:FRep α) (e:Ext h h1):Made F h h1 (.slice none 0 0) []:=⟨e,none,Owns.nil _ _ _,by simp⟩
theorem Made.sl (m:Made F h h1 v l):Sl F.rep (fun i=>h.next≤i∧i<h1.next) h1 v l:=by
 obtain ⟨w,a,b⟩:=m.own
 have hlt:=a.lt
 exact a.sl.mono fun i hi=>⟨by
  rcases hi with hi | hi
  ·exact hi.elim
  ·exact ⟨b i hi,hlt i hi⟩,rfl⟩
theorem Made.arg (m:Made F h h1 v l):Arg F.rep h1 v l:=m.sl.mono fun _ hi=>⟨hi.2,rfl⟩
theorem Made.ok (m:Made F h h1 v l):∀ x∈l,F.ok x:=m.sl.ok
theorem Made.on (m:Made F h h1 v l) (e:Ext h1 h2):Made F h h2 v l:=by
 obtain ⟨w,a,b⟩:=m.own
 exact ⟨m.ext.trans e,w,a.mono e.next (fun i hi=>e.get i (a.lt i hi)) (fun i hi=>hi.elim),b⟩
theorem Made.append (m:Made F h h1 v l) (hT:K2a P ts=some (F.z,b)) (hs:Sl F.rep S h1 x k) (hlen:l.length+k.length≤4294967296) (hb:b≤32768) :
 ∃ v' h2,u0a P ts v x h1=some (v',h2)∧Made F h h2 v' (l++k)∧(k=[]→v'=v∧h2=h1):=by
 obtain ⟨w,a,b1⟩:=m.own
 obtain ⟨new,e1,e2⟩:=hs.src
 have hp:(l.length+k.length)*b≤4294967296*32768:=Nat.mul_le_mul hlen hb
 have e2':Els F.rep NoS h1 new k:=Els.flat.2 (Els.flat.1 e2)
 obtain ⟨v',h2,w',e3,g,o,hw⟩:=a.append (k:=k) hT (fun i hi=>hi.elim) hs.lenV e1 e2' (by omega) (by omega)
 refine ⟨v',h2,e3,⟨⟨Nat.le_trans m.ext.next g.next,g.ng.trans m.ext.ng,fun i hi=>?_⟩,w',o,?_⟩,fun hk=>?_⟩
 ·rw[g.get i (Nat.lt_of_lt_of_le hi m.ext.next) (fun hw=>absurd (b1 i hw) (by omega)),m.ext.get i hi]
 ·intro i hi
  rcases hw with ⟨_,hw,_⟩ | ⟨hw,_⟩
  ·exact b1 i (hw▸hi)
  ·rw[hw]at hi;cases hi;exact m.ext.next
 ·subst hk
  have hv:∃ a n c,v=.slice a n c:=by
   rcases a with ⟨hv,_⟩ | ⟨_,⟨x,hv⟩,_⟩ | ⟨id,_,_,hv,_⟩ <;> exact ⟨_,_,_,hv⟩
  have:=w7a hT hs.lenV e1 e2'.one hv
  rw[this]at e3
  cases e3
  exact ⟨rfl,rfl⟩
theorem Made.snoc (m:Made F h h1 v l) (hT:K2a P ts=some (F.z,b)) {y:α} {cs:List Value} (hc:cs=F.enc y) (hz:F.z=z) (hy:F.ok y) (hlen:l.length+1≤4294967296) (hb:b≤32768) :
 ∃ v' h2,u0a P ts v (.slice (some ⟨h1.next,0,none⟩) 1 1) (h1.push (.row cs z false))=some (v',h2)∧Made F h h2 v' (l++[y]):=by
 subst hc;subst hz
 obtain ⟨v',h2,e1,e2,_⟩:=(m.on (Ext.push1 h1 (.row (F.enc y) F.z false))).append (k:=[y]) (S:=fun _=>True) (x:=.slice (some ⟨h1.next,0,none⟩) 1 1) hT (.inr ⟨h1.next,0,1,F.enc y,F.z,false,rfl,trivial,Zz _ _,.inr rfl,(by simp[F.len];exact Nat.le_refl _),(by
  refine Els.flat.2 ⟨?_,by simpa using hy⟩
  have:([y]:List α).length*F.rep.z=(F.enc y).length:=by rw[F.len];simp;rfl
  rw[this];simp)⟩) (by simpa using hlen) hb
 exact ⟨v',h2,e1,e2⟩
theorem Made.nonnil (m:Made F h h1 v l) (hl:l≠[]):∃ w,Owns F.rep NoS h1 v l (some w)∧h.next≤w:=by
 obtain ⟨w,a,b⟩:=m.own
 rcases a with ⟨_,h0,_⟩ | ⟨_,_,a⟩ | ⟨id,cap,cells,rfl,rfl,hh⟩
 ·exact absurd h0 hl
 ·exact absurd a.nos.2 hl
 ·exact ⟨id,.inr (.inr ⟨id,cap,cells,rfl,rfl,hh⟩),b id rfl⟩
theorem Ct.made {f:FuncId} {args:List Value} (c:Ct P f args h fun r1 h1=>∃ v1,r1=.ret v1∧Made F h h1 v1 l∧(l=[]→v1=.slice none 0 0)):DC P f args h (.ret (lv h l)) (lh F h l):=by
 refine c.canon (n3c F h l) fun r1 h1 ⟨v1,e,m,hn⟩=>?_
 subst e
 by_cases hl:l=[]
 ·rw[hn hl]
  subst hl
  exact ⟨_,Seen.pure m.ext .snil⟩
 ·obtain ⟨w,a,b⟩:=m.nonnil hl
  exact Seen.list m.ext a (fun i hi=>by cases hi;exact b) (fun h0=>absurd h0 hl) (fun h0=>by cases h0)
theorem K7c (F:FRep α) (h:DHeap) {l:List α} (hok:∀ x∈l,F.ok x):Made F h (lh F h l) (lv h l) l:=by
 refine ⟨Q9a F h l,?_⟩
 unfold lh lv
 split
 ·rename_i he
  have:l=[]:=by simpa using he
  subst this
  exact ⟨none,Owns.nil _ _ _,by simp⟩
 ·exact ⟨_,d0b hok,fun i hi=>by cases hi;exact Nat.le_refl _⟩
theorem L0c (F:FRep α) (h:DHeap) {l:List α} (hok:∀ x∈l,F.ok x):Made F h (h.push (c0b F l)) (mkS h l.length) l:=⟨Ext.push1 _ _,_,d0b hok,fun i hi=>by cases hi;exact Nat.le_refl _⟩
theorem Made.one (e:Ext h h1) {y:α} {cs:List Value} (hc:cs=F.enc y) (hz:F.z=z) (hy:F.ok y):Made F h (h1.push (.row cs z false)) (.slice (some ⟨h1.next,0,none⟩) 1 1) [y]:=by
 subst hc;subst hz
 refine ⟨e.push _,some h1.next,.inr (.inr ⟨h1.next,1,F.enc y,rfl,rfl,Nat.lt_succ_self _,Zz _ _,?_,?_⟩),fun i hi=>by cases hi;exact e.next⟩
 ·simp[F.len];exact Nat.le_refl _
 ·refine Els.flat.2 ⟨?_,by simpa using hy⟩
  have:([y]:List α).length*F.rep.z=(F.enc y).length:=by rw[F.len];simp;rfl
  rw[this];simp
structure Grown (F:FRep α) (h h1:DHeap) (v:Value) (l:List α):Prop where
 ext:Ext h h1
 own:∃ w,Owns F.rep (fun i=>i<h.next) h1 v l w∧(∀ i,w=some i→h.next≤i)
theorem Made.grown (m:Made F h h1 v l):Grown F h h1 v l:=by
 obtain ⟨w,a,b⟩:=m.own
 exact ⟨m.ext,w,a.flatS (fun i hi=>hi.elim),b⟩
theorem Grown.arg (m:Grown F h h1 v l):Arg F.rep h1 v l:=by
 obtain ⟨w,a,b⟩:=m.own
 have hlt:=a.lt
 exact a.sl.mono fun i hi=>⟨by
  rcases hi with hi | hi
  ·exact Nat.lt_of_lt_of_le hi m.ext.next
  ·exact hlt i hi,rfl⟩
theorem Grown.ok (m:Grown F h h1 v l):∀ x∈l,F.ok x:=m.arg.ok
theorem Grown.on (m:Grown F h h1 v l) (e:Ext h1 h2):Grown F h h2 v l:=by
 obtain ⟨w,a,b⟩:=m.own
 exact ⟨m.ext.trans e,w,a.mono e.next (fun i hi=>e.get i (a.lt i hi)) (fun i hi=>⟨hi,e.get i (Nat.lt_of_lt_of_le hi m.ext.next)⟩),b⟩
theorem Grown.append (m:Grown F h h1 v l) (hT:K2a P ts=some (F.z,b)) (hs:Sl F.rep S h1 x k) (hlen:l.length+k.length≤4294967296) (hb:b≤32768) :
 ∃ v' h2,u0a P ts v x h1=some (v',h2)∧Grown F h h2 v' (l++k)∧(k=[]→v'=v∧h2=h1)∧(k≠[]→Made F h h2 v' (l++k)):=by
 obtain ⟨w,a,b1⟩:=m.own
 obtain ⟨new,e1,e2⟩:=hs.src
 have hp:(l.length+k.length)*b≤4294967296*32768:=Nat.mul_le_mul hlen hb
 have e2':Els F.rep (fun i=>i<h.next) h1 new k:=Els.flat.2 (Els.flat.1 e2)
 obtain ⟨v',h2,w',e3,g,o,hw⟩:=a.append (k:=k) hT (fun i hi=>⟨Nat.lt_of_lt_of_le hi m.ext.next,fun hw=>absurd (b1 i hw) (by omega)⟩) hs.lenV e1 e2' (by omega) (by omega)
 have hE:Ext h h2:=⟨Nat.le_trans m.ext.next g.next,g.ng.trans m.ext.ng,fun i hi=>by
  rw[g.get i (Nat.lt_of_lt_of_le hi m.ext.next) (fun hw=>absurd (b1 i hw) (by omega)),m.ext.get i hi]⟩
 refine ⟨v',h2,e3,⟨hE,w',o,?_⟩,fun hk=>?_,fun hk=>?_⟩
 ·intro i hi
  rcases hw with ⟨_,hw,_⟩ | ⟨hw,_⟩
  ·exact b1 i (hw▸hi)
  ·rw[hw]at hi;cases hi;exact m.ext.next
 ·subst hk
  have hv:∃ a n c,v=.slice a n c:=by
   rcases a with ⟨hv,_⟩ | ⟨_,⟨x,hv⟩,_⟩ | ⟨id,_,_,hv,_⟩ <;> exact ⟨_,_,_,hv⟩
  have:=w7a hT hs.lenV e1 e2'.one hv
  rw[this]at e3
  cases e3
  exact ⟨rfl,rfl⟩
 ·rcases hw with ⟨hk0,_⟩ | ⟨hw,_⟩
  ·exact absurd hk0 hk
  ·subst hw
   exact ⟨hE,some h1.next,o.noS _,fun i hi=>by cases hi;exact m.ext.next⟩
def s5d:Value→Value
 | .slice (some a) _ _=>.slice (some a) 0 0
 | _=>.slice none 0 0
def N1a:Value→Bool
 | .slice none _ _=>true
 | _=>false
theorem k0a {β γ:Type} {s:Sem β} {f:β→Sem γ} {a:β} (hs:ZU P s=some (.inr a)):ZU P (s >>= f)=ZU P (f a):=by
 induction s with
 | pure b=>simp only[ZU,Option.some.injEq,Sum.inr.injEq]at hs;subst hs;rfl
 | program k ih=>exact ih P hs
 | mark m k ih=>exact ih hs
 | halt x=>cases x <;> simp[ZU]at hs
 | _=>simp[ZU]at hs
theorem N7b {e:TypeId} (e1:P.underlying t=some (.slice e)) (n:Nat):ZU P (Op.equalIn (n+1) t (.slice none 0 0) (.slice none 0 0))=some (.inr true):=by
 simp only[Op.equalIn,underlying,program,Bind.bind,Sem.bind,ZU,e1]
 rfl
theorem Sl.nilEq (a:Sl R S h v l) (ht:Z1a P t=true) {ox oy:Operand} {h':DHeap}:ZX P .eql t ox oy v (.slice none 0 0) h'=.ok (.value (.bool (N1a v))) h':=by
 unfold Z1a at ht
 split at ht
 ·rename_i e e1
  rcases a with ⟨rfl,rfl⟩ | ⟨id,o,cap,cells,esz,ro,rfl,_⟩
  ·have hq:ZU P (do eqGuard .eql t ox oy (.slice none 0 0) (.slice none 0 0);binOp .eql t (.slice none 0 0) (.slice none 0 0))=some (.inr (.bool true)):=by
    have h1:ZU P (eqGuard .eql t ox oy (.slice none 0 0) (.slice none 0 0))=some (.inr ()):=rfl
    rw[k0a h1]
    have h2:ZU P (Op.equal t (.slice none 0 0) (.slice none 0 0))=some (.inr true):=N7b e1 9999
    simp only[binOp]
    rw[k0a h2]
    rfl
   have hf:(Yj (.slice none 0 0))=true:=rfl
   simp only[ZX,hf,Bool.and_self,if_true,Xj,hq,N1a]
   rfl
  ·have:(Yj (.slice (some ⟨id,o,none⟩) l.length cap))=false:=rfl
   simp[ZX,this,e1,D.nilEq,N1a]
 ·cases ht
theorem a3a (a:Sl R S h v l) (hn:N1a v=true):v=.slice none 0 0∧l=[]:=by
 rcases a with ⟨rfl,rfl⟩ | ⟨id,o,cap,cells,esz,ro,rfl,_⟩
 ·exact ⟨rfl,rfl⟩
 ·cases hn
def P3a (h:DHeap) (v:Value) (l:List α):Value:=if N1a v then .slice none 0 0 else mkS h l.length
def M2a (F:FRep α) (h:DHeap) (v:Value) (l:List α):DHeap:=if N1a v then h else h.push (c0b F l)
theorem G6b (F:FRep α) (h:DHeap) (v:Value) (l:List α):Ext h (M2a F h v l):=by
 unfold M2a;split
 ·exact .refl _
 ·exact Ext.push1 _ _
theorem z9a (ha:Sl F.rep S h' v l):Made F h (M2a F h v l) (P3a h v l) l:=by
 unfold M2a P3a
 split
 ·rename_i hn
  obtain ⟨_,rfl⟩:=a3a ha hn
  exact .nil F (.refl h)
 ·exact L0c F h ha.ok
theorem Ct.cloned {f:FuncId} {args:List Value} (ha:Arg F.rep h v l) (c:Ct P f args h fun r1 h1=>∃ v1,r1=.ret v1∧Made F h h1 v1 l∧N1a v1=N1a v):DC P f args h (.ret (P3a h v l)) (M2a F h v l):=by
 refine c.canon (G6b F h v l).hstep fun r1 h1 ⟨v1,e,m,hn⟩=>?_
 subst e
 unfold P3a M2a
 by_cases hv:N1a v=true
 ·rw[if_pos hv,if_pos hv]
  rw[hv]at hn
  rw[(a3a m.sl hn).1]
  exact ⟨_,Seen.pure m.ext .snil⟩
 ·rw[if_neg hv,if_neg hv]
  obtain ⟨w,a,b⟩:=m.own
  cases w with
  | none=>
    rcases a with ⟨rfl,_⟩ | ⟨_,_,a⟩ | ⟨id,_,_,_,hh,_⟩
    ·exact absurd hn.symm hv
    ·rw[a.nos.1]at hn;exact absurd hn.symm hv
    ·cases hh
  | some w=>exact Seen.list' m.ext a (b w rfl)
theorem Made.none0 (F:FRep α) (e:Ext h h1) (hz:F.z=z):Made F h (h1.push (.row [] z false)) (.slice (some ⟨h1.next,0,none⟩) 0 0) []:=by
 subst hz
 exact ⟨e.push _,some h1.next,.inr (.inr ⟨h1.next,0,[],rfl,rfl,Nat.lt_succ_self _,Zz _ _,by simp,by simp[Els]⟩),fun i hi=>by cases hi;exact e.next⟩
theorem Made.isNil_append (m:Made F h h1 v l) (hv:N1a v=false) (m2:Made F h h2 x (l++k)) (hk:k=[]→x=v):N1a x=false:=by
 by_cases h0:k=[]
 ·rw[hk h0];exact hv
 ·cases hn:N1a x with
  | false=>rfl
  | true=>
    have:=(a3a m2.sl hn).2
    exact absurd (List.append_eq_nil_iff.1 this).2 h0
theorem V0b (k:IntKind) (n:Int):(Value.int k n).cells=#[.int k n]:=rfl
theorem G6a (n:Nat):goInt n=.int .i64 n:=rfl
attribute [go_sem] List.nil_append List.append_nil List.cons_append decide_true decide_false eq_self List.getElem?_toArray List.getElem?_cons_succ List.getElem?_cons_zero Option.bind_some Bool.not_true Bool.not_false Bool.false_eq_true
attribute [go_sem] V0b G6a
end Go.D
namespace Go.D
variable {P:Program} {nt:Nat}
theorem R0b {o:Oper} {s:St} {r:DEnd} {h':DHeap} {K K':St→Prop} {Q Q':Zv→St→Prop} (hk:∀ s,K s→K' s) (hq:∀ e s,Q e s→Q' e s) (h:Xk o s r h' K Q):Xk o s r h' K' Q':=by
 cases r with
 | ret v=>exact hk _ h
 | pan v=>exact hq _ _ h
theorem N3a {o:Oper} {s:St} {x:DR} {K K':St→Prop} {Q Q':Zv→St→Prop} (hk:∀ s,K s→K' s) (hq:∀ e s,Q e s→Q' e s) (h:x5a P o s x K Q):x5a P o s x K' Q':=by
 cases x with
 | ok y h1=>
   cases y with
   | enter f args=>
     obtain ⟨R,a,b⟩:=h
     exact ⟨R,a,fun r h' hR=>R0b hk hq (b r h' hR)⟩
   | value v=>exact hk _ h
   | skip=>exact hk _ h
   | defer f as=>exact ⟨h.1,hk _ h.2⟩
   | round l z t a c=>
     obtain ⟨R,a,b⟩:=h
     exact ⟨R,a,fun r h' hR=>R0b hk hq (b r h' hR)⟩
   | recover=>exact h.elim
   | pick l=>exact fun p hp=>hk _ (h p hp)
 | pan v h1=>exact hq _ _ h
 | bad=>exact h.elim
theorem m7a {ops:Array Oper}:∀ (l:List Oper) (s:St) {Q Q':Zv→St→Prop},(∀ e s,Q e s→Q' e s)→Wz P ops l s Q→Wz P ops l s Q'
 | [],_,_,_,hq,h=>hq _ _ h
 | o :: l,s,Q,Q',hq,h=>by
   simp only[Wz]at h ⊢
   split at h
   ·exact h.elim
   ·exact m7a l _ hq h
   ·exact N3a (fun s hs=>m7a l s hq hs) hq h
theorem t6a {K K':St→Prop} {Q Q':Zv→St→Prop} (hk:∀ s,K s→K' s) (hq:∀ e s,Q e s→Q' e s):∀ e s,N0a K Q e s→N0a K' Q' e s:=by
 intro e s h
 cases e <;> first | exact hk _ h | exact hq _ _ h
theorem f3a:∀ (c:Code) (s:St) {Q Q':Zv→St→Prop},(∀ e s,Q e s→Q' e s)→xs P nt c Q s→xs P nt c Q' s
 | .skip,_,_,_,hq,h=>hq _ _ h
 | .label _,_,_,_,hq,h=>hq _ _ h
 | .exit _,_,_,_,hq,h=>hq _ _ h
 | .ret,_,_,_,hq,h=>hq _ _ h
 | .seq x y,s,Q,Q',hq,h=>f3a x s (t6a (fun s hs=>f3a y s hq hs) hq) h
 | .cond c x y,s,Q,Q',hq,h=>by
   simp only[xs]at h ⊢
   split at h
   ·exact ⟨fun ht=>f3a x s hq (h.1 ht),fun ht=>f3a y s hq (h.2 ht)⟩
   ·exact h.elim
 | .block id c,s,Q,Q',hq,h=>by
   refine f3a c s (fun e s' hh=>?_) h
   cases e with
   | exit i=>
     simp only[P0a]at hh ⊢
     split at hh
     ·rename_i hi;rw[if_pos hi];exact hq _ _ hh
     ·rename_i hi;rw[if_neg hi];exact hq _ _ hh
   | _=>exact hq _ _ hh
 | .region id ops draw,s,Q,Q',hq,h=>by
   cases draw
   ·exact m7a _ s hq h
   ·exact NC.mono h hq
 | .loop c,s,Q,Q',hq,h=>fun c0 hc=>NC.mono (h c0 hc) hq
 | .rangeFunc ..,_,_,_,hq,h=>NC.mono h hq
 | .scope _,_,_,_,hq,h=>NC.mono h hq
 | .goto _,_,_,_,hq,h=>NC.mono h hq
 | .refuse _,_,_,_,hq,h=>NC.mono h hq
theorem r5b {x y:Code} {K:St→Prop} {Q:Zv→St→Prop} {s:St} {t:Bool} (M:St→Prop) (h1:t=true→xs P nt x (N0a M Q) s) (h2:t=false→xs P nt y (N0a M Q) s) (h3:∀ s',M s'→K s') :
 XIf P nt x y (N0a K Q) s (some (.bool t)):=
 ⟨fun ht=>f3a x s (t6a h3 fun _ _ h=>h) (h1 ht),fun ht=>f3a y s (t6a h3 fun _ _ h=>h) (h2 ht)⟩
theorem b7a {id:Nat} {c:Code} {K:St→Prop} {Q:Zv→St→Prop} {s:St} (M:St→Prop) (h1:xs P nt c (P0a id (N0a M Q)) s) (h3:∀ s',M s'→K s'):xs P nt c (P0a id (N0a K Q)) s:=by
 refine f3a c s (fun e s' hh=>?_) h1
 cases e with
 | exit i=>
   simp only[P0a]at hh ⊢
   split at hh
   ·rename_i hi;rw[if_pos hi];exact h3 _ hh
   ·rename_i hi;rw[if_neg hi];exact hh
 | normal=>exact h3 _ hh
 | _=>exact hh
section
variable {α:Type} {R:Rep α} {F:FRep α} {S:Nat→Prop} {h:DHeap} {v:Value} {l:List α} {t:TypeId} {id o:Nat} {x:α}
theorem Sl.idx (a:Sl R S h v l) (hz:M0a P t=some R.z) {k:IntKind} {i:Nat} (hx:l[i]? = some x):∃ id o,ZQ P t v (.int k i)=some (.pointer (some ⟨id,o,none⟩))∧S id∧At R S h id o x:=
 a.indexAddr hz (by omega) (by simpa using hx)
theorem At.flat (a:At F.rep S h id o x):(∀ j,j<F.z→Zq h id (o+j)=(F.enc x)[j]?)∧Zk h id o F.z=some (.agg (F.enc x).toArray)∧F.ok x:=by
 obtain ⟨cells,esz,ro,g,b,c,d⟩:=a
 refine ⟨fun j hj=>?_,?_,d⟩
 ·rw[Zy g,← c]
  rw[List.getElem?_take,if_pos (show j<F.rep.z from hj),List.getElem?_drop]
 ·have:=Zu (n:=F.z) g b
  rw[this,show (cells.drop o).take F.z=F.enc x from c]
theorem At.int {k:IntKind} {n:Int} (a:At (fI k).rep S h id o n):Zq h id o=some (.int k n):=a.flat.1 0 (Nat.lt_succ_self 0)
theorem At.lt (a:At F.rep S h id o x):∃ y,h.get id=some y:=by
 obtain ⟨cells,esz,ro,g,_⟩:=a
 exact ⟨_,g⟩
end
theorem d0a {i n:Nat} (hi:i<n) (hn:n≤4611686018427387904):IntKind.i64.wrap ((i:Int)+1)=((i+1:Nat):Int):=by
 rw[o9a (by omega) (by omega)];rfl
end Go.D
namespace Go.D
variable {P:Program}
theorem Seen.purePan {h h1:DHeap} {v:Value} (e:Ext h h1) (hv:VIn (fun i=>i<h.next) v):Seen h (.pan v) h (.pan v) h1 (fun _=>none):=
 ⟨fun j i x=>(by cases x),fun j j' i x=>(by cases x),fun j i o1 x=>(by cases x),fun j hj=>.inl ⟨e.get j hj,rfl⟩,hv.ren fun i hi=>o6a hi⟩
theorem Ct.purePan {f:FuncId} {args:List Value} {h:DHeap} {v:Value} (c:Ct P f args h fun r h1=>r=.pan v∧Ext h h1) (hv:VIn (fun i=>i<h.next) v):DC P f args h (.pan v) h:=
 c.canon (.refl _) fun r1 h1 ⟨a,b⟩=>by subst a;exact ⟨_,.purePan b hv⟩
theorem b7b {fr:Fr} {h:DHeap}:s0a P [] fr h=some (.tuple #[]):=rfl
attribute [go_sem] b7b
theorem T0a {S:Nat→Prop} (k1:IntKind) (a:Int):VIn S (.int k1 a):=.int _ _
theorem Y0a {S:Nat→Prop} (b:Bool):VIn S (.bool b):=.bool _
theorem ZJ (h:DHeap) (a b:Value):i2b h (some (.bool true)) (some a) (some b)=.ok (.value a) h:=rfl
theorem Yz (h:DHeap) (a b:Value):i2b h (some (.bool false)) (some a) (some b)=.ok (.value b) h:=rfl
theorem x8a (ops:Array Oper):∀ (l:List Oper) (s:St) (m:u1a) (K:St→u1a→Prop),I2a P (ops.map Yq) (l.map Yq) s m K=I2a P ops l s m K
 | [],_,_,_=>rfl
 | o :: l,s,m,K=>by
   simp only[List.map_cons,I2a,K1a,D3a]
   have ih:=x8a ops l
   simp only[ih]
   rfl
theorem p2b {f:FuncId} {fn:Func} {l:List Oper} {c:Code} {args:List Value} {h h':DHeap} {m m':u1a} {n:Nat} {rs:List ResultVar} (hf:P.funcs[f]? = some fn) (hb:fn.body.map strip=some (.seq (.region 0 l.toArray false) c)) (hn:fn.ntmps=n)
 (hr:fn.results.toList=rs) (ha:args.length≤n) (hk:p0a n (.seq (.region 0 l.toArray false) c)=true) (hst:HStep h h')
 (hx:I2a P l.toArray l ⟨d2a args n,[],h,none⟩ m fun s1 m1=>m1=m'∧xs P n c (fun e s2=>(match e with | .normal | .ret=>True | _=>False)∧s2.df=[]∧(s0a P rs s2.fr s2.h).isSome=true∧s2.h=h') s1) :
 DCD P f args m h m' h':=by
 subst hn;subst hr
 cases hb0:fn.body with
 | none=>rw[hb0]at hb;cases hb
 | some c0=>
   rw[hb0]at hb
   simp only[Option.map_some,Option.some.injEq]at hb
   cases c0 with
   | seq x y=>
     simp only[strip,Code.seq.injEq]at hb
     obtain ⟨hx1,rfl⟩:=hb
     cases x with
     | region id ops dr=>
       cases dr with
       | true=>simp[strip]at hx1
       | false=>
         simp only[strip,Code.region.injEq,and_true,true_and]at hx1
         simp only[p0a,Bool.and_eq_true]at hk
         have hl:ops.toList.map Yq=l:=by
          have:=congrArg Array.toList hx1
          simpa using this
         have hd:I0a fn.ntmps ops=true:=by
          have h0:p0a fn.ntmps (strip (.region id ops false))=true:=by
           show I0a fn.ntmps (ops.map Yq)=true
           rw[hx1];exact hk.1
          rw[C0a]at h0
          exact h0
         rw[← hx1,← hl,x8a]at hx
         obtain ⟨s1,m1,⟨rfl,hc⟩,hh,hs⟩:=C4b hd ops.toList 0 _ m rfl hx
         have hnc:=u2a y _ s1 (by rw[← C0a];exact hk.2) hc
         refine ⟨hst,fun n ι w args' u s ha' hm=>?_⟩
         refine callsDIn_of_wpSIn hf hb0 trivial fun c₀ cs hu=>wpSIn_seq (wpSIn_region ?_)
         rw[List.range_eq_range']
         subst hu
         refine hs n ι { tmps:=args'++Array.replicate (fn.ntmps - args'.size) undef,defers:=[] } w c₀ cs _ ⟨v9a ha' ha,trivial,s,trivial⟩ hm fun ι1 a1 w1 u1 g1 g2 g3=>?_
         refine wpSIn_of_wpIn rfl (wpIn_mono (hnc n none ι1 a1 w1 g1) fun ex a2 w2 ⟨ι2,e,s2,⟨hex,hdf,hres,hh'⟩,k0,k1,k2,k3⟩=>?_)
         subst hh'
         obtain ⟨v,hv⟩:=Option.isSome_iff_exists.1 hres
         obtain ⟨v',hrun,hvr⟩:=G8a (fn:=fn) hv k2.sim k2.fr
         have hdef:a2.defers=[]:=by
          have:=k2.df
          rw[hdf]at this
          cases hdd:a2.defers with
          | nil=>rfl
          | cons d ds=>rw[hdd]at this;exact this.elim
         have fin:a2.defers=[]∧∃ u',({ c₀ with mode:=u1 } :: cs:List Frame)={ c₀ with mode:=u' } :: cs∧∃ v,(results fn a2.tmps).run P w2=.ok v w2∧(∃ ι' v1,Ending.returned v=.returned v1∧ModeRel ι' m1 u'∧Sim ι' s2.h w2∧Step ι ι' h s2.h w w2):=
          ⟨hdef,u1,rfl,v',hrun,ι2,v',rfl,g2.mono k3.le,k2.sim,g3.trans k3⟩
         cases e with
         | normal=>
           cases ex with
           | normal=>exact fin
           | _=>exact k1.elim
         | ret=>
           cases ex with
           | ret=>exact fin
           | _=>exact k1.elim
         | _=>exact hex.elim
     | _=>simp[strip]at hx1
   | region id ops dr=>cases dr <;> simp[strip]at hb
   | _=>simp[strip]at hb
theorem t2b {rs:List ResultVar} {fr:Fr} {R:DEnd→DHeap→Prop} {f:FuncId} {args:List Value} {ds:List f4a} {m m':u1a} {h h':DHeap} (hg:L0a P f=true) (hd:DCD P f args m h m' h') (hx:XLv P rs fr R ds (n4a m') h'):XLv P rs fr R (.fn f args :: ds) m h:=
 ⟨hg,m',h',hd,hx⟩
end Go.D
namespace Go.D
variable {P:Program} {h h':DHeap} {id z:Nat} {c v:Value} {ro:Bool}
theorem DHeap.ext' {a b:DHeap} (h1:∀ i,a.get i=b.get i) (h2:a.next=b.next) (h3:a.ng=b.ng):a=b:=by
 cases a;cases b
 simp only at h1 h2 h3
 subst h2;subst h3
 congr
 exact funext h1
theorem L1a (h:DHeap) (x y:DObj):(h.push x).set h.next y=h.push y:=by
 refine DHeap.ext' (fun i=>?_) rfl rfl
 simp only[DHeap.set,DHeap.push]
 split <;> rfl
theorem z3a {o:DObj} (hg:h.get id=some o):h.set id o=h:=by
 refine DHeap.ext' (fun i=>?_) rfl rfl
 simp only[DHeap.set]
 split
 ·rename_i hi;rw[hi,hg]
 ·rfl
theorem m3d (hg:h.get id=some (.row [c] z ro)):Zq h id 0=some c:=by rw[Zy hg];rfl
theorem store1 (hg:h.get id=some (.row [c] z false)) (hv:v.oneCell'=true):storeAt h id 0 [v]=some (h.set id (.row [v] z false)):=by
 rw[b0a hg (Nat.le_refl _) (by simp[hv])]
 rfl
theorem F6b:Zq (h.push (.row [c] z ro)) h.next 0=some c:=m3d (Zz _ _)
theorem k5b (hv:v.oneCell'=true):storeAt (h.push (.row [c] z false)) h.next 0 [v]=some (h.push (.row [v] z false)):=by
 rw[store1 (Zz _ _) hv,L1a]
section
variable {cs:List Value} {o n:Nat} {x y u w:DObj}
theorem s7a:Zq (h.push (.row cs z ro)) h.next o=cs[o]?:=Zy (Zz _ _)
theorem p5a:((h.push x).push y).get h.next=some x:=by rw[a0a _ _ (by rw[m0a];omega),Zz]
theorem t7a:Zq ((h.push (.row cs z ro)).push x) h.next o=cs[o]?:=Zy p5a
theorem b2a {vs:List Value} (hg:h.get id=some (.row cs z false)) (hl:vs.length=cs.length) (hv:vs.all Value.oneCell'=true):storeAt h id 0 vs=some (h.set id (.row vs z false)):=by
 rw[b0a hg (by omega) hv]
 have:YZ cs 0 vs=vs:=by
  refine List.ext_getElem? fun i=>?_
  rw[M3a]
  by_cases hi:i<vs.length
  ·rw[if_pos (by omega)];rfl
  ·rw[if_neg (by omega),List.getElem?_eq_none (by omega),List.getElem?_eq_none (by omega)]
 rw[this]
theorem c0a {vs:List Value} (hl:vs.length=cs.length) (hv:vs.all Value.oneCell'=true):storeAt (h.push (.row cs z false)) h.next 0 vs=some (h.push (.row vs z false)):=by
 rw[b2a (Zz _ _) hl hv,L1a]
end
theorem built {α:Type} (F:FRep α) (K:DHeap) {cs:List Value} {l:List α} {n m zz:Nat} (hc:cs=l.flatMap F.enc) (hz:zz=F.z) (hn:n=l.length) (hok:∀ x∈l,F.ok x):Arg F.rep (K.push (.row cs zz false)) (.slice (some ⟨K.next,0,none⟩) n m) l:=by
 subst hz;subst hn;subst hc
 have hl:(l.flatMap F.enc).length=l.length*F.rep.z:=by
  have:∀ l:List α,(l.flatMap F.enc).length=l.length*F.rep.z:=by
   intro l
   induction l with
   | nil=>simp
   | cons x l ih=>rw[List.flatMap_cons,List.length_append,ih,F.len,List.length_cons,Nat.add_mul];show F.z+l.length*F.z=l.length*F.z+1*F.z;omega
  exact this l
 refine .inr ⟨K.next,0,m,_,F.z,false,rfl,Nat.lt_succ_self _,Zz _ _,.inr rfl,by rw[hl];omega,?_⟩
 rw[List.drop_zero,← hl,List.take_length]
 exact Els.flat.2 ⟨rfl,hok⟩
theorem Sl.lens {α:Type} {R:Rep α} {S:Nat→Prop} {l:List α} {ts:Array TypeId} {t:TypeId} (a:Sl R S h v l) (ht:ts[0]? = some t) (h1:Z1a P t=true) (h':DHeap):Go.D.dLen P ts v h'=some (.int .i64 l.length):=by
 obtain ⟨x,c,rfl⟩:=a.isSlice
 exact (B6a ht h1).trans (by rw[G6a])
theorem H2b (b:Bool):w9a b (some undef)=some false:=rfl
attribute [go_sem] H2b
section
variable {nt:Nat} {ops:Array Oper} {o:Oper} {rest:List Oper} {s:St} {K:St→Prop} {Q:Zv→St→Prop}
end
def E9a (P:Program) (t:TypeId) (h:DHeap):Option Value→Option Value
 | some p=>XX P t p h
 | none=>none
theorem G0a (t:TypeId) (p:Value):E9a P t h (some p)=XX P t p h:=rfl
theorem C5a {fr:Fr} {t:Tmp}:w1a P fr h (.tmp t)=fr t:=rfl
theorem W2a {fr:Fr} {t:Tmp} {ty:TypeId}:w1a P fr h (.cell t ty)=E9a P ty h (fr t):=by
 simp only[w1a,E9a] <;> (cases fr t <;> rfl)
theorem A1a {fr:Fr} {t:Tmp} {ty:TypeId}:s0a P [.cell t ty] fr h=E9a P ty h (fr t):=by
 simp only[s0a,T3a,W2a]
 cases E9a P ty h (fr t) <;> rfl
theorem S5a {fr:Fr} {a b:ResultVar}:s0a P [a,b] fr h=S3c (w1a P fr h a) (w1a P fr h b):=by
 simp only[s0a,T3a]
 cases w1a P fr h a <;> cases w1a P fr h b <;> rfl
theorem Q4b {fr:Fr} {a b c:ResultVar}:s0a P [a,b,c] fr h=T3c (w1a P fr h a) (w1a P fr h b) (w1a P fr h c):=by
 simp only[s0a,T3a]
 cases w1a P fr h a <;> cases w1a P fr h b <;> cases w1a P fr h c <;> rfl
theorem A2a {Q:Value→Prop} {x:Option Value} {v:Value} (e:x=some v) (h:Q v):∃ u,x=some u∧Q u:=⟨v,e,h⟩
end Go.D
namespace Go.D
variable {P:Program}
def o5a (P:Program) (t:TypeId):Option (List (TypeId × Nat)):=
 match P.underlying t with
 | some (.struct fs)=>if fs.toList.all (fun f=>f.name != "_")&&!P.stoodInHeld t then some (fs.toList.map fun f=>(f.type,f.offset)) else none
 | _=>none
def EqL (P:Program) (d:Nat) (xs ys:Array Value):List (TypeId × Nat)→Bool→Prop
 | [],b=>b=true
 | (t,o) :: r,b=>∃ a c b1 b2,ZU P (part t xs o)=some (.inr a)∧ZU P (part t ys o)=some (.inr c)∧ZU P (Op.equalIn d t a c)=some (.inr b1)∧EqL P d xs ys r b2∧b=(b1&&b2)
theorem P6a:ZU P program=some (.inr P):=rfl
theorem y3a {t:TypeId} {d:TypeDesc} (h:P.underlying t=some d):ZU P (underlying t)=some (.inr d):=by
 simp only[underlying,program,Bind.bind,Sem.bind,ZU,h]
 rfl
theorem q6a {d:Nat} {xs ys:Array Value}:∀ {fs:List Field} {b:Bool},(fs.all fun f=>f.name != "_")=true→EqL P d xs ys (fs.map fun f=>(f.type,f.offset)) b →
 ZU P (forIn fs ((none,()):Option Bool × Unit) (fun f _=>(do
  if f.name≠"_" then
   if !(← Op.equalIn d f.type (← part f.type xs f.offset) (← part f.type ys f.offset)) then
    pure (.done (some false,()))
   else pure (.yield (none,()))
  else pure (.yield (none,())):Sem (ForInStep ((Option Bool × Unit))))))=some (.inr (if b then (none,()) else (some false,())))
 | [],b,_,h=>by
   have hb:b=true:=h
   subst hb
   rfl
 | f :: fs,b,hn,h=>by
   obtain ⟨a,c,b1,b2,h1,h2,h3,h4,rfl⟩:=h
   simp only[List.all_cons,Bool.and_eq_true,bne_iff_ne,ne_eq]at hn
   rw[List.forIn_cons]
   have ih:=q6a (fs:=fs) (b:=b2) (by simpa using hn.2) h4
   have hstep:ZU P (do
    if f.name≠"_" then
     if !(← Op.equalIn d f.type (← part f.type xs f.offset) (← part f.type ys f.offset)) then
      pure (.done (some false,()))
     else pure (.yield (none,()))
    else pure (.yield (none,())):Sem (ForInStep ((Option Bool × Unit))))=some (.inr (if b1 then .yield (none,()) else .done (some false,()))):=by
    rw[if_pos hn.1,k0a h1,k0a h2,k0a h3]
    cases b1 <;> rfl
   rw[k0a hstep]
   cases b1
   ·rfl
   ·simp only[if_true,Bool.true_and]
    exact ih
theorem b4b {t:TypeId} {L:List (TypeId × Nat)} {d:Nat} {xs ys:Array Value} {b:Bool} (hf:o5a P t=some L) (h:EqL P d xs ys L b):ZU P (Op.equalIn (d+1) t (.agg xs) (.agg ys))=some (.inr b):=by
 unfold o5a at hf
 split at hf
 ·rename_i fs ht
  split at hf
  ·rename_i hn
   simp only[Option.some.injEq]at hf
   subst hf
   simp only[Bool.and_eq_true,Bool.not_eq_true']at hn
   simp only[Op.equalIn]
   rw[k0a (y3a ht)]
   dsimp only
   rw[k0a (P6a (P:=P)),hn.2]
   have:=q6a (P:=P) (fs:=fs.toList) hn.1 h
   rw[← Array.forIn_toList]
   rw[if_neg Bool.false_ne_true]
   refine (k0a this).trans ?_
   cases b <;> rfl
  ·cases hf
 ·cases hf
theorem v1b {t:TypeId} {k k0:IntKind} {d:Nat} {a b:Int} (hu:P.underlying t=some (.int k0)):ZU P (Op.equalIn (d+1) t (.int k a) (.int k b))=some (.inr (a==b)):=by
 simp only[Op.equalIn]
 rw[k0a (y3a hu)]
 simp only[if_true]
 rfl
theorem b3a {t:TypeId} {xs:Array Value} {o:Nat} {v:Value} (h1:c3a P t=true) (hx:xs[o]? = some v):ZU P (part t xs o)=some (.inr v):=by
 unfold c3a at h1
 split at h1
 ·rename_i d i hu hi
  unfold part
  have hq:ZU P (isAgg t)=some (.inr false):=by
   unfold isAgg
   rw[k0a (y3a hu)]
   cases d <;> first | rfl | simp[S8a]at h1
  rw[k0a hq]
  simp only[Bool.false_eq_true,if_false,hx]
  rfl
 ·cases h1
theorem y5b {t:TypeId} {xs ys:Array Value} {b:Bool} {h:DHeap} {ox oy:Operand} (hx:(xs.toList.all Yw)=true) (hy:(ys.toList.all Yw)=true) (hg:P.eqGuardType P.depth t=false) (hq:ZU P (Op.equalIn 10000 t (.agg xs) (.agg ys))=some (.inr b)) :
 ZX P .eql t ox oy (.agg xs) (.agg ys) h=.ok (.value (.bool b)) h∧ZX P .neq t ox oy (.agg xs) (.agg ys) h=.ok (.value (.bool (!b))) h:=by
 have hf:(Yj (.agg xs)&&Yj (.agg ys))=true:=by
  show ((xs.toList.all Yw)&&(ys.toList.all Yw))=true
  rw[hx,hy];rfl
 have hgd:ZU P (do
  if !(← program).eqGuardType (← program).depth t then return
  if ← Op.eqGuardIn Op.maxDepth t (.agg xs) (.agg ys) then unsupported (.noEntry "binop/eql: two nil values of an interface type with methods, in a part of a struct or an array"):Sem Unit)=some (.inr ()):=by
  rw[k0a (P6a (P:=P)),k0a (P6a (P:=P)),hg]
  rfl
 constructor
 ·simp only[ZX,hf,if_true,Xj]
  rw[k0a (show ZU P (eqGuard .eql t ox oy (.agg xs) (.agg ys))=some (.inr ()) from hgd)]
  have:ZU P (binOp .eql t (.agg xs) (.agg ys))=some (.inr (.bool b)):=by
   simp only[binOp,Op.equal,Op.maxDepth]
   rw[k0a hq];rfl
  rw[this];rfl
 ·simp only[ZX,hf,if_true,Xj]
  rw[k0a (show ZU P (eqGuard .neq t ox oy (.agg xs) (.agg ys))=some (.inr ()) from hgd)]
  have:ZU P (binOp .neq t (.agg xs) (.agg ys))=some (.inr (.bool (!b))):=by
   simp only[binOp,Op.equal,Op.maxDepth]
   rw[k0a hq];rfl
  rw[this];rfl
end Go.D
namespace Go.D
variable {P:Program} {h h1 h2:DHeap} {id z:Nat}
theorem l6b (h:DHeap) (i:Nat) (a b:DObj):(h.set i a).set i b=h.set i b:=by
 refine DHeap.ext' (fun j=>?_) rfl rfl
 simp only[DHeap.set]
 split <;> rfl
structure Chg (h:DHeap) (i:Nat) (o:DObj) (h1:DHeap):Prop where
 next:h.next≤h1.next
 ng:h1.ng=h.ng
 get:∀ j,j<h.next→j≠i→h1.get j=h.get j
 at':h1.get i=some o
theorem Chg.set (h:DHeap) (i:Nat) (o:DObj):Chg h i o (h.set i o):=⟨Nat.le_refl _,rfl,fun _ _ hj=>Zx _ _ hj,Zj _ _⟩
theorem Chg.self {o:DObj} (hg:h.get id=some o):Chg h id o h:=⟨Nat.le_refl _,rfl,fun _ _ _=>rfl,hg⟩
theorem Chg.ext {o:DObj} (a:Chg h id o h1) (e:Ext h1 h2) (hi:id<h.next):Chg h id o h2:=⟨Nat.le_trans a.next e.next,e.ng.trans a.ng,fun j hj hji=>(e.get j (Nat.lt_of_lt_of_le hj a.next)).trans (a.get j hj hji),(e.get id (Nat.lt_of_lt_of_le hi a.next)).trans a.at'⟩
theorem Chg.trans {o o2:DObj} (a:Chg h id o h1) (b:Chg h1 id o2 h2):Chg h id o2 h2:=⟨Nat.le_trans a.next b.next,b.ng.trans a.ng,fun j hj hji=>(b.get j (Nat.lt_of_lt_of_le hj a.next) hji).trans (a.get j hj hji),b.at'⟩
theorem Ct.changed {f:FuncId} {args:List Value} {v:Value} {cs:List Value} (hi:id<h.next) (hcs:∀ v∈cs,VIn (fun i=>i<h.next) v) (hv:VIn (fun i=>i<h.next) v)
 (c:Ct P f args h fun r h1=>r=.ret v∧Chg h id (.row cs z false) h1):DC P f args h (.ret v) (h.set id (.row cs z false)):=
 c.canon ⟨Nat.le_refl _,rfl⟩ fun r1 h1 ⟨a,b⟩=>by subst a;exact ⟨_,Seen.changed hi b.get b.at' (M3c hcs) hv⟩
end Go.D
namespace Go.D
variable {P:Program} {α:Type} {F:FRep α} {h h1:DHeap} {i:Nat} {l:List α}
end Go.D
namespace Go.D
variable {P:Program} {α:Type} {R:Rep α} {S:Nat→Prop} {h:DHeap} {v:Value} {l:List α} {t:TypeId}
def P6b (z:Nat) (v:Value) (k:Nat):Value:=
 match v with
 | .slice (some ⟨id,o,none⟩) len cap=>.slice (some ⟨id,o+k*z,none⟩) (len - k) (if cap=len then len - k else len - k+1)
 | v=>v
theorem Sl.cut (a:Sl R S h v l) (hz:M0a P t=some R.z) (hp:0<R.z) {kd:IntKind} {k:Nat} (hk:k≤l.length):Xw P t v (some (.int kd (k:Int))) none none h=some (P6b R.z v k)∧Sl R S h (P6b R.z v k) (l.drop k):=by
 have hlo:Yu (some (.int kd (k:Int))) 0 l.length=some k:=by
  simp only[Yu]
  rw[if_pos (by omega)];rfl
 obtain ⟨v',e,hs⟩:=a.slice (P:=P) (t:=t) (lo:=some (.int kd (k:Int))) (hi:=none) (i:=k) (j:=l.length) hz hp rfl hlo hk (Nat.le_refl _)
 have hv:v'=P6b R.z v k:=by
  unfold M0a at hz
  split at hz
  ·rename_i e' e1
   cases e2:P.info? e' with
   | none=>rw[e2]at hz;cases hz
   | some inf=>
     rw[e2]at hz
     have hsz:inf.size=R.z:=by simpa using hz
     rcases a with ⟨rfl,rfl⟩ | ⟨id,o,cap,cells,esz,ro,rfl,b,c,d,e3,f⟩
     ·have hj':Yu none 0 0=some 0:=rfl
      have hlo':Yu (some (.int kd (k:Int))) 0 0=some k:=hlo
      simp only[Xw,e1,e2,hj',hlo',Option.some.injEq]at e
      exact e.symm
     ·have hfit:C1a h id inf.size=true:=by
       simp only[C1a,c,hsz]
       rcases d with d | d <;> simp[d]
      simp only[Xw,e1,e2]at e
      rw[if_pos ⟨hfit,by rw[hsz];exact hp⟩]at e
      have hj':Yu none l.length l.length=some l.length:=rfl
      simp only[hj',hlo]at e
      simp only[Option.some.injEq]at e
      rw[← e,hsz]
      simp only[P6b,true_and]
  ·cases hz
 subst hv
 rw[List.take_length]at hs
 exact ⟨e,hs⟩
end Go.D
