/-
x Conditions: none.
-/
import Derived.Test.YtheamfnbfgiaeaaGreatRows
import Derived.WalkKit
import Derived.ProofKit
import Derived.OpenShut
import Derived.JoinedCond
import Derived.Test.YtheamfnbfgiaeaaGreatBase1
import Derived.Test.YtheamfnbfgiaeaaGreatBase2
import Derived.Test.YtheamfnbfgiaeaaGreatSerialStepsParts1
import Derived.Test.YtheamfnbfgiaeaaGreatSerialStepsParts2
import Derived.Test.YtheamfnbfgiaeaaGreatSerialStepsParts3
set_option linter.unusedSimpArgs false
set_option linter.unusedVariables false
set_option linter.defProp false
namespace Go.Proofs.YtheamfnbfgiaeaaGreat
open Go.D
set_option maxRecDepth 100000
def b5a (s:N0a) (t:Txn):Bool:=match Z1a s.rows t.ses with
 | some x=>decide (t.req≤1099511627776)&&decide (IntKind.i64.wrap (t.req - 1)=x.req)
 | none=>decide (t.req=1)&&(decide (1≤t.ses)&&(decide (t.ses≤1099511627776)&&decide (s.rows.length<64)))
theorem t3a {l:List Row} {n:Int} {x:Row} (h:Z1a l n=some x):x∈l∧x.ses=n:=by
 refine ⟨List.mem_of_find?_eq_some h,?_⟩
 have:=List.find?_some h
 simpa using this
theorem H0b {l:List Row} {n:Int}:Z1a l n=none↔n∉l.map Row.ses:=by
 unfold Z1a
 rw[List.find?_eq_none]
 constructor
 ·intro h hm
  obtain ⟨x,hx,rfl⟩:=List.mem_map.1 hm
  have:=h x hx
  simp at this
 ·intro h x hx e
  exact h (List.mem_map.2 ⟨x,hx,by simpa using e⟩)
theorem RowM.mem {S:Nat→Prop} {h:DHeap} {rm:List (Int × Value)} {l:List Row} (a:RowM S h rm l) (n:Int):n∈rm.map (·.1)↔n∈l.map Row.ses:=by
 constructor
 ·intro h1
  cases hq:Z1a l n with
  | none=>exact absurd h1 (x8a.1 (a.2.2.1 n hq))
  | some x=>exact List.mem_map.2 ⟨x,(t3a hq).1,(t3a hq).2⟩
 ·intro h1
  cases hq:Z1a l n with
  | none=>exact absurd h1 (H0b.1 hq)
  | some x=>
    obtain ⟨v,h2,_⟩:=a.2.2.2 n x hq
    exact List.mem_map.2 ⟨_,(F2a a.1).1 h2,rfl⟩
theorem RowM.len {S:Nat→Prop} {h:DHeap} {rm:List (Int × Value)} {l:List Row} (a:RowM S h rm l):rm.length=l.length:=by
 have hn:(l.map Row.ses).Nodup:=by
  rw[List.Nodup,List.pairwise_map]
  exact a.2.1.imp fun h=>by omega
 have h1:=p1a (a:=rm.map (·.1)) (b:=l.map Row.ses) a.1 fun n hn=>(a.mem n).1 hn
 have h2:=p1a (a:=l.map Row.ses) (b:=rm.map (·.1)) hn fun n hn=>(a.mem n).2 hn
 simp only[List.length_map]at h1 h2
 omega
set_option maxHeartbeats 1000000 in
theorem F5c {h:DHeap} {B cid rid:Nat} {s:N0a} {mm:List (Key × Value)} {rm:List (Int × Value)} {t:Txn} {vc va vr vw:Value} (a:SerAt h B cid rid s mm rm):DC Tryz.prog 43 [.pointer (some ⟨B,0,none⟩),Ww t.ses t.req vc va vr vw] h (.ret (.bool (b5a s t))) h:=by
 refine Ct.pure (d9d (by simp) ?_) (n0a _)
 have hcl:(Ww t.ses t.req vc va vr vw).cells.toList=[.int .i64 t.ses,.int .i64 t.req,vc,va,vr,vw]:=rfl
 obtain ⟨H,hH⟩:∃ H,H=h.push (.row [.int .i64 t.ses,.int .i64 t.req,vc,va,vr,vw] 0 false):=⟨_,rfl⟩
 have hE:Ext h H:=by rw[hH];exact Ext.push1 _ _
 have hHn:H.next=h.next+1:=by rw[hH];rfl
 have gH:H.get h.next=some (.row [.int .i64 t.ses,.int .i64 t.req,vc,va,vr,vw] 0 false):=by rw[hH];exact Zz _ _
 obtain ⟨A,hA⟩:∃ A,H.push (.row [.int .i64 0,.int .i64 0,.int .i64 0,.slice none 0 0,.int .i64 0,.int .i64 0] 0 false)=A:=⟨_,rfl⟩
 have eA:Ext H A:=hA▸Ext.push1 _ _
 have nA:A.next=H.next+1:=by rw[← hA];rfl
 have gA:A.get H.next=some (.row [.int .i64 0,.int .i64 0,.int .i64 0,.slice none 0 0,.int .i64 0,.int .i64 0] 0 false):=by rw[← hA];exact Zz _ _
 have gB:=(eA.get h.next (by omega)).trans gH
 have aA:=a.ext (hE.trans eA)
 have lk:=aA.rwm.lookup g9b t.ses true
 have fin:∀ (y:Row) (v:Value),[Value.int .i64 y.ses,.int .i64 y.req,.int .i64 y.x.e,v,.int .i64 y.x.s,.int .i64 y.x.p].all Value.oneCell'=true→∃ M,Yw Tryz.prog 59 (.pointer (some ⟨H.next,0,none⟩)) (U4a y v) A=some M∧Ext h M∧M.get h.next=some (.row [.int .i64 t.ses,.int .i64 t.req,vc,va,vr,vw] 0 false)∧Zu M H.next 1=some (.int .i64 y.req)∧SerAt M B cid rid s mm rm:=fun y v ho=>by
  refine ⟨_,(L3b rfl).trans (l1a gA rfl ho),(hE.trans eA).set (by omega),(Zv _ _ (by omega)).trans gB,Zy (ZX _ _),?_⟩
  have eS:=(hE.trans eA).set (id:=H.next) (x:=.row [.int .i64 y.ses,.int .i64 y.req,.int .i64 y.x.e,v,.int .i64 y.x.s,.int .i64 y.x.p] 0 false) (by omega)
  exact a.ext eS
 simp -implicitDefEqProofs (disch:=first|omega|simp only[go_sem]) only[go_sem,true_and,c43,hcl,← hH]
 refine I2d rfl ?_
 cases hq:Z1a s.rows t.ses with
 | some y=>
   obtain ⟨v,h1,h2⟩:=aA.rw.2.2.2 _ _ hq
   rw[h1]at lk
   have lk':M0a Tryz.prog 80 (.map (some rid)) (.int .i64 t.ses) true A=some (.tuple #[U4a y v,.bool true]):=lk
   obtain ⟨M,s1,eM,gM,c1,aM⟩:=fin y v (by obtain ⟨_,_,rfl⟩:=h2.isSlice;rfl)
   simp -implicitDefEqProofs (disch:=first|omega|simp only[go_sem]) only[go_sem,true_and,R8b,p9b]
   simp -implicitDefEqProofs (disch:=first|omega|simp only[go_sem]) only[go_sem,true_and,hA,Zy aA.row,Zy gB,lk',s1,gA]
   by_cases p:t.req≤1099511627776
   ·have p':=eq_true p
    simp -implicitDefEqProofs (disch:=first|omega|simp only[go_sem]) only[go_sem,true_and,Zy gM,p',Zj,ZY,c1]
    exact ⟨_,rfl,by simp[b5a,hq,p],eM⟩
   ·simp -implicitDefEqProofs (disch:=first|omega|simp only[go_sem]) only[go_sem,true_and,Zy gM,p,Zj,ZY]
    exact ⟨_,rfl,by simp[b5a,hq,p],eM⟩
 | none=>
   have h1:=aA.rw.2.2.1 _ hq
   rw[h1]at lk
   have lk':M0a Tryz.prog 80 (.map (some rid)) (.int .i64 t.ses) true A=some (.tuple #[U4a z9b YU,.bool false]):=lk
   obtain ⟨M,s1,eM,gM,c1,aM⟩:=fin z9b YU rfl
   have hlen:=aM.rw.len
   have ll:dLen Tryz.prog #[80] (.map (some rid)) M=some (.int .i64 (rm.length:Nat)):=aM.rwm.len R5b
   simp -implicitDefEqProofs (disch:=first|omega|simp only[go_sem]) only[go_sem,true_and,R8b,p9b]
   simp -implicitDefEqProofs (disch:=first|omega|simp only[go_sem]) only[go_sem,true_and,hA,Zy aA.row,Zy gB,lk',s1,gA]
   by_cases p1:t.req=1
   ·have p1':=eq_true p1
    by_cases p2:1≤t.ses
    ·have p2':=eq_true p2
     by_cases p3:t.ses≤1099511627776
     ·have p3':=eq_true p3
      simp -implicitDefEqProofs (disch:=first|omega|simp only[go_sem]) only[go_sem,true_and,Zy gM,p1',p2',p3',Zj,ZY,Zy aM.row,ll]
      exact ⟨_,rfl,by simp[b5a,hq,p1,p2,p3,hlen];omega,eM⟩
     ·simp -implicitDefEqProofs (disch:=first|omega|simp only[go_sem]) only[go_sem,true_and,Zy gM,p1',p2',p3,Zj,ZY]
      exact ⟨_,rfl,by simp[b5a,hq,p1,p2,p3],eM⟩
    ·simp -implicitDefEqProofs (disch:=first|omega|simp only[go_sem]) only[go_sem,true_and,Zy gM,p1',p2,Zj,ZY]
     exact ⟨_,rfl,by simp[b5a,hq,p1,p2],eM⟩
   ·simp -implicitDefEqProofs (disch:=first|omega|simp only[go_sem]) only[go_sem,true_and,Zy gM,p1,Zj,ZY]
    exact ⟨_,rfl,by simp[b5a,hq,p1],eM⟩
theorem w1d {h:DHeap} {B cid rid:Nat} {s:N0a} {mm:List (Key × Value)} {rm:List (Int × Value)} {k:Key} (a:SerAt h B cid rid s mm rm) :
 DC Tryz.prog 25 [.pointer (some ⟨B,0,none⟩),Zq k] h (.ret (.tuple #[XQ ((Yk Cell.k s.cells k).getD x0b),.bool (Yk Cell.k s.cells k).isSome])) h:=by
 refine Ct.pure (T8d (by simp) ?_) (b3a _ rfl)
 have hcl:(Zq k).cells.toList=[.int .i32 k.t,.int .i64 k.r]:=rfl
 obtain ⟨H,hH⟩:∃ H,H=(h.push (.row [.int .i32 k.t,.int .i64 k.r] 0 false)).push (.row [.int .i32 0,.int .i64 0,.int .i64 0,.int .i64 0] 0 false):=⟨_,rfl⟩
 have hE:Ext h H:=by rw[hH];exact (Ext.push1 _ _).push _
 have hHn:H.next=h.next+2:=by rw[hH];rfl
 have gk:H.get h.next=some (.row [.int .i32 k.t,.int .i64 k.r] 0 false):=by rw[hH];exact c3a
 have gr:H.get (h.next+1)=some (.row [.int .i32 0,.int .i64 0,.int .i64 0,.int .i64 0] 0 false):=by rw[hH];exact Zz _ _
 obtain ⟨c,hc⟩:∃ c,(Yk Cell.k s.cells k).getD x0b=c:=⟨_,rfl⟩
 obtain ⟨b,hb⟩:∃ b,(Yk Cell.k s.cells k).isSome=b:=⟨_,rfl⟩
 obtain ⟨A,hA⟩:∃ A,H.push (.row [.int .i32 0,.int .i64 0,.int .i64 0,.int .i64 0] 0 false)=A:=⟨_,rfl⟩
 have eA:Ext H A:=hA▸Ext.push1 _ _
 have nA:A.next=H.next+1:=by rw[← hA];rfl
 have gA:A.get H.next=some (.row [.int .i32 0,.int .i64 0,.int .i64 0,.int .i64 0] 0 false):=by rw[← hA];exact Zz _ _
 have aH:=a.ext hE
 have aA:=aH.ext eA
 have lk:Zx A h.next 0 2=some (Zq k):=by
  rw[Zw ((eA.get _ (by omega)).trans gk) (Nat.le_of_ble_eq_true rfl)]
  rfl
 have lu:M0a Tryz.prog 79 (.map (some cid)) (Zq k) true A=some (.tuple #[XQ c,.bool b]):=by
  rw[aA.cel.lookup d9a k true,aA.cm.2.2 k,if_pos rfl,← hc,← hb]
  cases Yk Cell.k s.cells k <;> rfl
 obtain ⟨M,hM⟩:∃ M,M=A.set H.next (.row [.int .i32 c.k.t,.int .i64 c.k.r,.int .i64 c.v,.int .i64 c.s] 0 false):=⟨_,rfl⟩
 have s1:Yw Tryz.prog 33 (.pointer (some ⟨H.next,0,none⟩)) (XQ c) A=some M:=by
  rw[hM]
  exact (r1b rfl).trans (l1a gA rfl rfl)
 have l1:Zx M H.next 0 4=some (XQ c):=by rw[hM,Zw (ZX _ _) (Nat.le_of_ble_eq_true rfl)];rfl
 have gM:M.get (h.next+1)=some (.row [.int .i32 0,.int .i64 0,.int .i64 0,.int .i64 0] 0 false):=by rw[hM,Zv _ _ (by omega)];exact (eA.get _ (by omega)).trans gr
 have eM:Ext h M:=by rw[hM];exact (hE.trans eA).set (by omega)
 have s2:Yw Tryz.prog 33 (.pointer (some ⟨h.next+1,0,none⟩)) (XQ c) M=some (M.set (h.next+1) (.row [.int .i32 c.k.t,.int .i64 c.k.r,.int .i64 c.v,.int .i64 c.s] 0 false)):=(r1b rfl).trans (l1a gM rfl rfl)
 obtain ⟨M2,hM2⟩:∃ M2,M2=M.set (h.next+1) (.row [.int .i32 c.k.t,.int .i64 c.k.r,.int .i64 c.v,.int .i64 c.s] 0 false):=⟨_,rfl⟩
 rw[← hM2]at s2
 have l2:Zx M2 (h.next+1) 0 4=some (XQ c):=by rw[hM2,Zw (ZX _ _) (Nat.le_of_ble_eq_true rfl)];rfl
 rw[hc,hb]
 simp -implicitDefEqProofs (disch:=first|omega|simp only[go_sem]) only[go_sem,true_and,c25,hcl,g0a,← hH]
 refine YV (h0b aH) ?_
 simp -implicitDefEqProofs (disch:=first|omega|simp only[go_sem]) only[go_sem,true_and]
 refine B2d rfl ?_
 simp -implicitDefEqProofs (disch:=first|omega|simp only[go_sem]) only[go_sem,true_and,E6c,G8c]
 simp -implicitDefEqProofs (disch:=first|omega|simp only[go_sem]) only[go_sem,true_and,hA,Zy aA.row,lk,lu,gA,s1,l1,s2,G3a,f2a,h4a,k0a,l2]
 exact ⟨_,rfl,rfl,by rw[hM2];exact eM.set (by omega)⟩
def A5a (x:Row):List Row→List Row
 | []=>[x]
 | y :: r=>if y.ses<x.ses then y :: A5a x r else if y.ses=x.ses then x :: r else x :: y :: r
abbrev UpR (l:List Row):Prop:=l.Pairwise fun a b=>a.ses<b.ses
theorem F7a {x z:Row}:∀ {l:List Row},UpR l→(z∈A5a x l↔z=x∨(z∈l∧z.ses≠x.ses))
 | [],_=>by simp[A5a]
 | y :: r,h=>by
   obtain ⟨hy,hr⟩:=List.pairwise_cons.1 h
   unfold A5a
   by_cases h1:y.ses<x.ses
   ·rw[if_pos h1,List.mem_cons,F7a hr,List.mem_cons]
    constructor
    ·rintro (rfl | h2 | ⟨h2,h3⟩)
     ·exact .inr ⟨.inl rfl,by omega⟩
     ·exact .inl h2
     ·exact .inr ⟨.inr h2,h3⟩
    ·rintro (h2 | ⟨h2 | h2,h3⟩)
     ·exact .inr (.inl h2)
     ·exact .inl h2
     ·exact .inr (.inr ⟨h2,h3⟩)
   ·rw[if_neg h1]
    have hgt:∀ q∈r,q.ses≠x.ses:=fun q hq e=>by have:=hy q hq;omega
    by_cases h2:y.ses=x.ses
    ·rw[if_pos h2,List.mem_cons,List.mem_cons]
     constructor
     ·rintro (h3 | h3)
      ·exact .inl h3
      ·exact .inr ⟨.inr h3,hgt z h3⟩
     ·rintro (h3 | ⟨h3 | h3,h4⟩)
      ·exact .inl h3
      ·rw[h3]at h4;exact absurd h2 h4
      ·exact .inr h3
    ·rw[if_neg h2,List.mem_cons,List.mem_cons]
     constructor
     ·rintro (h3 | h3 | h3)
      ·exact .inl h3
      ·exact .inr ⟨.inl h3,by rw[h3];exact h2⟩
      ·exact .inr ⟨.inr h3,hgt z h3⟩
     ·rintro (h3 | ⟨h3,_⟩)
      ·exact .inl h3
      ·exact .inr h3
theorem Y1b {x:Row}:∀ {l:List Row},UpR l→UpR (A5a x l)
 | [],_=>by simp[A5a]
 | y :: r,h=>by
   obtain ⟨hy,hr⟩:=List.pairwise_cons.1 h
   unfold A5a
   by_cases h1:y.ses<x.ses
   ·rw[if_pos h1]
    refine List.pairwise_cons.2 ⟨fun z hz=>?_,Y1b hr⟩
    rcases (F7a hr).1 hz with rfl | ⟨hz,_⟩
    ·exact h1
    ·exact hy z hz
   ·rw[if_neg h1]
    by_cases h2:y.ses=x.ses
    ·rw[if_pos h2]
     exact List.pairwise_cons.2 ⟨fun z hz=>by have:=hy z hz;omega,hr⟩
    ·rw[if_neg h2]
     refine List.pairwise_cons.2 ⟨fun z hz=>?_,h⟩
     rcases List.mem_cons.1 hz with rfl | hz
     ·omega
     ·have:=hy z hz;omega
theorem t2b {l:List Row} (h:UpR l) {n:Int} {x:Row}:Z1a l n=some x↔x∈l∧x.ses=n:=by
 constructor
 ·exact t3a
 ·rintro ⟨h1,h2⟩
  cases hq:Z1a l n with
  | none=>exact absurd (List.mem_map.2 ⟨x,h1,h2⟩) (H0b.1 hq)
  | some y=>
    obtain ⟨h3,h4⟩:=t3a hq
    congr 1
    obtain ⟨i,hi,hix⟩:=List.mem_iff_getElem.1 h1
    obtain ⟨j,hj,hjy⟩:=List.mem_iff_getElem.1 h3
    have hp:=List.pairwise_iff_getElem.1 h
    by_cases e:i=j
    ·subst e
     rw[← hix,← hjy]
    ·exfalso
     rcases Nat.lt_or_gt_of_ne e with e | e
     ·have:=hp i j hi hj e
      rw[hix,hjy]at this
      omega
     ·have:=hp j i hj hi e
      rw[hix,hjy]at this
      omega
theorem u2b {x:Row} {l:List Row} (h:UpR l) {n:Int}:Z1a (A5a x l) n=if n=x.ses then some x else Z1a l n:=by
 refine Option.ext fun z=>?_
 rw[t2b (Y1b h),F7a h]
 by_cases hn:n=x.ses
 ·rw[if_pos hn,Option.some.injEq]
  constructor
  ·rintro ⟨h1 | h1,h2⟩
   ·exact h1.symm
   ·exact absurd (h2.trans hn) h1.2
  ·rintro rfl
   exact ⟨.inl rfl,hn.symm⟩
 ·rw[if_neg hn,t2b h]
  constructor
  ·rintro ⟨h1 | h1,h2⟩
   ·exact absurd (by rw[← h2,h1]) hn
   ·exact ⟨h1.1,h2⟩
  ·rintro ⟨h1,h2⟩
   exact ⟨.inr ⟨h1,fun e=>hn (h2.symm.trans e)⟩,h2⟩
theorem RowM.put {S:Nat→Prop} {h:DHeap} {rm:List (Int × Value)} {l:List Row} (a:RowM S h rm l) {x:Row} {v:Value} (hv:Sl fI64.rep S h v x.x.vs):RowM S h (a1a rm x.ses (U4a x v)) (A5a x l):=by
 refine ⟨i2a a.1,Y1b a.2.1,fun n hn=>?_,fun n y hy=>?_⟩
 ·rw[u2b a.2.1]at hn
  rw[l4a a.1]
  split at hn
  ·cases hn
  ·rename_i hne
   rw[if_neg hne]
   exact a.2.2.1 n hn
 ·rw[u2b a.2.1]at hy
  rw[l4a a.1]
  split at hy
  ·rename_i he
   cases hy
   exact ⟨v,by rw[if_pos he],hv⟩
  ·rename_i hne
   rw[if_neg hne]
   exact a.2.2.2 n y hy
def goS (s:N0a) (t:Txn) (i:Int):N0a × Option Row:=
 if b5a s t then (⟨s.slot,Z2a t s.slot s.cells,A5a ⟨t.ses,t.req,Wx t s.slot i s.cells⟩ s.rows⟩,some ⟨t.ses,t.req,Wx t s.slot i s.cells⟩) else (s,none)
def G2a (s:N0a) (t:Txn) (i:Int):N0a × Option Row:=
 match Z1a s.rows t.ses with
 | some x=>if x.req=t.req then (s,some x) else goS s t i
 | none=>goS s t i
def X1a:N0a × List Row→Nat→List Txn→N0a × List Row
 | q,_,[]=>q
 | q,i,t :: l=>X1a ((G2a q.1 t i).1,q.2++(G2a q.1 t i).2.toList) (i+1) l
theorem Q2b {t:Txn}:∀ {l:List Txn} {q:N0a × List Row} {i:Nat},X1a q i (l++[t])=((G2a (X1a q i l).1 t ((i+l.length:Nat):Int)).1,(X1a q i l).2++(G2a (X1a q i l).1 t ((i+l.length:Nat):Int)).2.toList)
 | [],q,i=>rfl
 | y :: l,q,i=>by
   show X1a _ (i+1) (l++[t])=_
   rw[Q2b (l:=l)]
   have:i+1+l.length=i+(y :: l).length:=by rw[List.length_cons];omega
   rw[this]
   rfl
theorem S2c {q:N0a × List Row} {l:List Txn} {i:Nat} (hi:i<l.length):X1a q 0 (l.take (i+1))=((G2a (X1a q 0 (l.take i)).1 l[i] (i:Nat)).1,(X1a q 0 (l.take i)).2++(G2a (X1a q 0 (l.take i)).1 l[i] (i:Nat)).2.toList):=by
 have hl:0+(l.take i).length=i:=by simp;omega
 rw[List.take_succ_eq_append_getElem hi,Q2b,hl]
theorem j5b {s:N0a} {t:Txn} {i:Int}:(goS s t i).1.slot=s.slot:=by
 unfold goS
 split <;> rfl
theorem r2c {s:N0a} {t:Txn} {i:Int}:(G2a s t i).1.slot=s.slot:=by
 unfold G2a
 split
 ·split
  ·rfl
  ·exact j5b
 ·exact j5b
theorem H8a:∀ {l:List Txn} {q:N0a × List Row} {i:Nat},(X1a q i l).1.slot=q.1.slot
 | [],_,_=>rfl
 | t :: l,q,i=>by
   show (X1a ((G2a q.1 t i).1,_) (i+1) l).1.slot=_
   rw[H8a]
   exact r2c
theorem K5c {s:N0a} {t:Txn} {i:Int}:(G2a s t i).2.toList.length≤1:=by
 cases (G2a s t i).2 <;> simp
theorem I5b:∀ {l:List Txn} {q:N0a × List Row} {i:Nat},(X1a q i l).2.length≤q.2.length+l.length
 | [],_,_=>Nat.le_refl _
 | t :: l,q,i=>by
   have h1:=I5b (l:=l) (q:=((G2a q.1 t i).1,q.2++(G2a q.1 t i).2.toList)) (i:=i+1)
   have h2:=K5c (s:=q.1) (t:=t) (i:=i)
   show (X1a ((G2a q.1 t i).1,q.2++(G2a q.1 t i).2.toList) (i+1) l).2.length≤_
   simp only[List.length_append]at h1
   rw[List.length_cons]
   omega
theorem SerAt.put {h h1:DHeap} {B cid rid:Nat} {s:N0a} {mm mm':List (Key × Value)} {rm:List (Int × Value)} {cells:List Cell} {x:Row} {v:Value} (a:SerAt h B cid rid s mm rm) (k:KpD (fun j=>j=cid∨j=rid) h h1) (hc:MapAt Zq h1 cid mm') (cm:CelM mm' cells) (hok:∀ c∈cells,fCell.ok c) (hr:MapAt U1b h1 rid (a1a rm x.ses (U4a x v))) (hv:Sl fI64.rep (M9a h1 B cid rid) h1 v x.x.vs) (hsm:x.x.vs.length≤4096):SerAt h1 B cid rid ⟨s.slot,cells,A5a x s.rows⟩ mm' (a1a rm x.ses (U4a x v)):=by
 have hn:=k.next
 obtain ⟨n1,n2,n3⟩:=a.ne
 obtain ⟨l1,l2,l3⟩:=a.lt
 refine ⟨(k.get _ l1 (by omega)).trans a.row,hc,cm,hr,RowM.put (a.rw.mono fun i hi=>⟨⟨Nat.lt_of_lt_of_le hi.1 hn,hi.2⟩,k.get i hi.1 (by obtain ⟨_,_,h2,h3⟩:=hi;omega)⟩) hv,⟨by omega,by omega,by omega⟩,a.ne,hok,fun z hz=>by
  rcases (F7a a.rw.2.1).1 hz with rfl | ⟨hz,_⟩
  ·exact hsm
  ·exact a.sm z hz⟩
theorem Y9c {a b e s p:Int} {v:Value} (hv:v.cells=#[v]):XW Tryz.prog 59 [(0,.int .i64 a),(1,.int .i64 b),(2,.agg #[.int .i64 e,v,.int .i64 s,.int .i64 p])]=some (.agg #[.int .i64 a,.int .i64 b,.int .i64 e,v,.int .i64 s,.int .i64 p]):=by
 refine l0a z6d ?_
 simp only[B4a]
 rfl
theorem V9c {a b e s p:Int} {v:Value}:XW Tryz.prog 56 [(0,.int .i64 a),(1,.int .i64 b),(2,.agg #[.int .i64 e,v,.int .i64 s,.int .i64 p])]=some (.agg #[.int .i64 a,.int .i64 b,.int .i64 e,v,.int .i64 s,.int .i64 p]):=by
 refine l0a y6d ?_
 simp only[B4a]
 rfl
def rRowU:Rep Row where
 z:=6
 rd S h cs x:=∃ v,cs=[.int .i64 x.ses,.int .i64 x.req,.int .i64 x.x.e,v,.int .i64 x.x.s,.int .i64 x.x.p]∧Sl fI64.rep S h v x.x.vs
 len h:=by obtain ⟨v,rfl,_⟩:=h;rfl
 one h:=by
  obtain ⟨v,rfl,s⟩:=h
  obtain ⟨_,_,rfl⟩:=s.isSlice
  rfl
 mono h m:=by
  obtain ⟨v,e,s⟩:=h
  exact ⟨v,e,s.mono m⟩
 vin h:=by
  obtain ⟨v,rfl,s⟩:=h
  intro y hy
  simp only[List.mem_cons,List.not_mem_nil,or_false]at hy
  rcases hy with rfl | rfl | rfl | rfl | rfl | rfl
  ·exact t0a _ _
  ·exact t0a _ _
  ·exact t0a _ _
  ·exact s.vin
  ·exact t0a _ _
  ·exact t0a _ _
theorem h2d {S:Nat→Prop} {h:DHeap} {v:Value} {l:List Txn} (hb:Sl rTxn S h v l) {i:Nat} (hi:i<l.length):∃ id o vc va vr vw,Yj Tryz.prog 43 v (.int .i64 (i:Nat))=some (.pointer (some ⟨id,o,none⟩))∧Zx h id o 6=some (Ww l[i].ses l[i].req vc va vr vw)∧TxV S h l[i] vc va vr vw∧inK .i64 l[i].ses∧inK .i64 l[i].req:=by
 obtain ⟨id,o,e,_,hat⟩:=hb.idx (P:=Tryz.prog) (t:=43) J8d (k:=.i64) (i:=i) (x:=l[i]) (by simp)
 obtain ⟨cs,h1,h2⟩:=hat.load_agg
 obtain ⟨vc,va,vr,vw,rfl,k1,k2,tx⟩:=a3c h2
 exact ⟨id,o,vc,va,vr,vw,e,h1,tx,k1,k2⟩
abbrev L9a (n:Nat) (h:DHeap) (w:Option Nat):Nat→Prop:=fun j=>(n≤j∧j<h.next)∧w≠some j
theorem s0b {K:DHeap} {fr:Fr} {bt br n:Nat} {t:Txn} {x:Res} {v u:Value} {ans:List Row} {w:Option Nat} (f6:fr 6=some u) (f8:fr 8=some (.pointer (some ⟨bt,0,none⟩))) (f9:fr 9=some (.pointer (some ⟨br,0,none⟩)))
 (c0:∀ M,Ext K M→Zu M bt 0=some (.int .i64 t.ses)) (c1:∀ M,Ext K M→Zu M bt 1=some (.int .i64 t.req)) (cr:Zx K br 2 4=some (W1a x v)) (hv:Arg fI64.rep K v x.vs) (hl:x.vs.length≤4294967296)
 (o:Owns rRowU (L9a n K w) K u ans w) (hn:n≤K.next) (hw:∀ j,w=some j→n≤j) (hlen:ans.length+1≤4294967296) :
 NC Tryz.prog 97 z9c (WZ (fun s=>s.df=[]∧s.rd=none∧K.next≤s.h.next∧s.h.ng=K.ng∧(∀ j,j<K.next→w≠some j→s.h.get j=K.get j)∧(∃ u2 w2,s.fr 6=some u2∧Owns rRowU (L9a n s.h w2) s.h u2 (ans++[⟨t.ses,t.req,x⟩]) w2∧∀ j,w2=some j→n≤j)∧s.fr 0=fr 0∧s.fr 3=fr 3∧s.fr 21=fr 21∧s.fr 22=fr 22∧s.fr 23=fr 23) (fun _ _=>False)) ⟨fr,[],K,none⟩:=by
 refine A2d rfl ?_
 simp -implicitDefEqProofs (disch:=first|omega|simp only[go_sem]) only[go_sem,true_and,D6c,F8c,f6,f8,f9,c0 K (.refl _),c1 K (.refl _),cr]
 refine B1a (O1d hv hl) ?_
 rintro r M ⟨w1,rfl,mw⟩
 have hM:=mw.ext.next
 have ol:=o.lt
 have o1:Owns rRowU (L9a n M w) M u ans w:=o.mono hM (fun i hi=>mw.ext.get i (ol i hi)) fun i hi=>⟨⟨⟨hi.1.1,Nat.lt_of_lt_of_le hi.1.2 hM⟩,hi.2⟩,mw.ext.get i hi.1.2⟩
 have hx:rRowU.rd (L9a n M w) M [.int .i64 t.ses,.int .i64 t.req,.int .i64 x.e,w1,.int .i64 x.s,.int .i64 x.p] ⟨t.ses,t.req,x⟩:=⟨w1,rfl,mw.sl.mono fun i hi=>⟨⟨⟨Nat.le_trans hn hi.1,hi.2⟩,fun e=>by have:=ol i e;have:=hi.1;omega⟩,rfl⟩⟩
 obtain ⟨u2,h2,e3,y1,y2,y3,o3⟩:=o1.snoc (ts:=#[51,51]) (z:=6) (fun j hj=>⟨hj.1.2,hj.2⟩) hx rfl (by decide) L3d hlen (by decide)
 have hbs:∀ (L:DHeap),b0a Tryz.prog 51 1 [(0,.agg #[.int .i64 t.ses,.int .i64 t.req,.int .i64 x.e,w1,.int .i64 x.s,.int .i64 x.p])] L=some (.slice (some ⟨L.next,0,none⟩) 1 1,L.push (.row [.int .i64 t.ses,.int .i64 t.req,.int .i64 x.e,w1,.int .i64 x.s,.int .i64 x.p] 6 false)):=fun L=>o0c rfl
 simp -implicitDefEqProofs (disch:=first|omega|simp only[go_sem]) only[go_sem,true_and,Y3a,c0 M mw.ext,c1 M mw.ext,V9c,hbs,e3]
 refine ⟨by omega,y2.trans mw.ext.ng,fun j hj hne=>(y3 j (by omega) hne).trans (mw.ext.get j hj),⟨u2,_,rfl,o3.mono (Nat.le_refl _) (fun _ _=>rfl) fun i hi=>⟨⟨⟨hi.1.1,by show i<h2.next;have:=hi.1.2;omega⟩,fun e=>by cases e;have:=hi.1.2;omega⟩,rfl⟩,fun j hj=>by cases hj;omega⟩,by trivial⟩
theorem U8b {K:DHeap} {fr:Fr} {B cid rid bt br:Nat} {s:N0a} {mm:List (Key × Value)} {rm:List (Int × Value)} {t:Txn} {vc va vr vw:Value} {i:Int} {R0:List Value}
 (f0:fr 0=some (.pointer (some ⟨B,0,none⟩))) (f7:fr 7=some (.int .i64 i)) (f8:fr 8=some (.pointer (some ⟨bt,0,none⟩))) (f9:fr 9=some (.pointer (some ⟨br,0,none⟩)))
 (a:SerAt K B cid rid s mm rm) (gt:K.get bt=some (.row [.int .i64 t.ses,.int .i64 t.req,vc,va,vr,vw] 0 false)) (gr:K.get br=some (.row R0 0 false)) (hR:R0.length=6) (hbt:bt<K.next∧bt≠cid) (hbr:br<K.next∧br≠cid) (x:TxV (InH K) K t vc va vr vw) (hT:P3a t) (hs:inK .i64 s.slot) :
 NC Tryz.prog 97 x9c (WZ (fun st=>st.df=[]∧st.rd=none∧(∃ vv mm',KpD (fun j=>j=cid∨j=br) K st.h∧st.h.get br=some (.row [.int .i64 t.ses,.int .i64 t.req,.int .i64 (Wx t s.slot i s.cells).e,vv,.int .i64 s.slot,.int .i64 i] 0 false)∧Sl fI64.rep (p7a K st.h) st.h vv (Wx t s.slot i s.cells).vs∧MapAt Zq st.h cid mm'∧CelM mm' (Z2a t s.slot s.cells)∧∀ c∈Z2a t s.slot s.cells,fCell.ok c)∧st.fr 0=fr 0∧st.fr 3=fr 3∧st.fr 6=fr 6∧st.fr 8=fr 8∧st.fr 9=fr 9∧st.fr 21=fr 21∧st.fr 22=fr 22∧st.fr 23=fr 23) (fun _ _=>False)) ⟨fr,[],K,none⟩:=by
 have lt:Zx K bt 0 6=some (Ww t.ses t.req vc va vr vw):=by rw[Zw gt (Nat.le_of_ble_eq_true rfl)];rfl
 refine y2d rfl ?_
 simp -implicitDefEqProofs (disch:=first|omega|simp only[go_sem]) only[go_sem,true_and,B6c,D8c,f0,f7,f8,f9,Zy gt,lt,Zy a.row]
 refine B1a (L5b x hT a.cel a.cm a.lt.2.1 a.ok hs) ?_
 rintro r M ⟨vv,mm',rfl,k,sv,am,cm,hok⟩
 have gt2:=(k.get bt hbt.1 hbt.2).trans gt
 have gr2:=(k.get br hbr.1 hbr.2).trans gr
 have kn:=k.next
 have hone:[Value.int .i64 t.ses,.int .i64 t.req,.int .i64 (Wx t s.slot i s.cells).e,vv,.int .i64 s.slot,.int .i64 i].all Value.oneCell'=true:=by
  obtain ⟨_,_,rfl⟩:=sv.isSlice
  rfl
 obtain ⟨M2,hM2⟩:∃ M2,M2=M.set br (.row [.int .i64 t.ses,.int .i64 t.req,.int .i64 (Wx t s.slot i s.cells).e,vv,.int .i64 s.slot,.int .i64 i] 0 false):=⟨_,rfl⟩
 have s1:Yw Tryz.prog 59 (.pointer (some ⟨br,0,none⟩)) (.agg #[.int .i64 t.ses,.int .i64 t.req,.int .i64 (Wx t s.slot i s.cells).e,vv,.int .i64 s.slot,.int .i64 i]) M=some M2:=by
  rw[hM2]
  exact (L3b rfl).trans (l1a gr2 (by rw[hR];rfl) hone)
 have hbd:XW Tryz.prog 59 [(0,.int .i64 t.ses),(1,.int .i64 t.req),(2,W1a (Wx t s.slot i s.cells) vv)]=some (.agg #[.int .i64 t.ses,.int .i64 t.req,.int .i64 (Wx t s.slot i s.cells).e,vv,.int .i64 s.slot,.int .i64 i]):=Y9c sv.cells1
 simp -implicitDefEqProofs (disch:=first|omega|simp only[go_sem]) only[go_sem,true_and,Y3a,f7,f8,f9,f0,Zy gt2,hbd,s1]
 have oth:∀ j,j≠br→M2.get j=M.get j:=fun j hj=>by rw[hM2];exact Zv _ _ hj
 have nM2:M2.next=M.next:=by rw[hM2];rfl
 refine ⟨⟨vv,mm',⟨by omega,by rw[hM2];exact k.ng,fun j hj hn=>(oth j (fun e=>hn (.inr e))).trans (k.get j hj fun e=>hn (.inl e))⟩,by rw[hM2];exact ZX _ _,sv.mono fun j hj=>⟨⟨hj.1,by show j<M2.next;have:=hj.2;omega⟩,oth j (by have:=hj.1;omega)⟩,am.keep (oth _ (Ne.symm hbr.2)),cm,hok⟩,by trivial⟩
theorem l0d {S:Nat→Prop} {K:DHeap} {t:Txn} {vc va vr vw:Value} (x:TxV S K t vc va vr vw) :
 ∃ K1,Yw Tryz.prog 26 (.pointer (some ⟨K.next,0,none⟩)) (Ww t.ses t.req vc va vr vw) (K.push (.row [.int .i64 0,.int .i64 0,.slice none 0 0,.slice none 0 0,.slice none 0 0,.slice none 0 0] 0 false))=some K1∧Ext K K1∧K1.get K.next=some (.row [.int .i64 t.ses,.int .i64 t.req,vc,va,vr,vw] 0 false)∧K1.next=K.next+1:=
 ⟨K.push (.row [.int .i64 t.ses,.int .i64 t.req,vc,va,vr,vw] 0 false),(G9c rfl).trans (a0a rfl (x.one _ _)),Ext.push1 _ _,Zz _ _,rfl⟩
abbrev H4c (k f n:Int) (vt:Value):Value:=.agg #[.int .i64 k,.int .i64 f,.int .i64 n,vt]
def ApR (h:DHeap) (B cid rid:Nat) (s:N0a) (l:List Txn) (r:DEnd) (h1:DHeap):Prop:=
 ∃ u mm' rm',r=.ret (.tuple #[u,.int .i64 0])∧KpD (fun j=>j=B∨j=cid∨j=rid) h h1∧SerAt h1 B cid rid ⟨s.slot+1,(X1a (s,[]) 0 l).1.cells,(X1a (s,[]) 0 l).1.rows⟩ mm' rm'∧Sl rRowU (p7a h h1) h1 u (X1a (s,[]) 0 l).2
theorem o9b {K:DHeap} {fr:Fr} {B cid rid bt br:Nat} {sl:Int} {rm:List (Int × Value)} {x:Row} {vv:Value} {cs:List Value}
 (f0:fr 0=some (.pointer (some ⟨B,0,none⟩))) (f8:fr 8=some (.pointer (some ⟨bt,0,none⟩))) (f9:fr 9=some (.pointer (some ⟨br,0,none⟩)))
 (gB:K.get B=some (.row [.int .i64 sl,.map (some cid),.map (some rid)] 0 false)) (gt:K.get bt=some (.row (.int .i64 x.ses :: cs) 0 false)) (gr:K.get br=some (.row [.int .i64 x.ses,.int .i64 x.req,.int .i64 x.x.e,vv,.int .i64 x.x.s,.int .i64 x.x.p] 0 false)) (am:MapAt U1b K rid rm) :
 NC Tryz.prog 97 y9c (WZ (fun st=>st.df=[]∧st.rd=none∧(∃ ob,st.h=K.set rid ob∧MapAt U1b (K.set rid ob) rid (a1a rm x.ses (U4a x vv)))∧st.fr 0=fr 0∧st.fr 3=fr 3∧st.fr 6=fr 6∧st.fr 8=fr 8∧st.fr 9=fr 9∧st.fr 21=fr 21∧st.fr 22=fr 22∧st.fr 23=fr 23) (fun _ _=>False)) ⟨fr,[],K,none⟩:=by
 have lr:Zx K br 0 6=some (U4a x vv):=by rw[Zw gr (Nat.le_of_ble_eq_true rfl)];rfl
 obtain ⟨ob,s1,aq⟩:=am.update g9b x.ses (U4a x vv)
 refine z2d rfl ?_
 simp -implicitDefEqProofs (disch:=first|omega|simp only[go_sem]) only[go_sem,true_and,C6c,E8c,f0,f8,f9,Zy gB,Zy gt,lr,s1,Y3a]
 exact ⟨⟨ob,rfl,aq⟩,by trivial⟩
theorem SerAt.ans {K N:DHeap} {B cid rid:Nat} {s:N0a} {mm:List (Key × Value)} {rm:List (Int × Value)} {S:Nat→Prop} {u:Value} {ans:List Row} {w:Option Nat} (a:SerAt K B cid rid s mm rm) (o:Owns rRowU S K u ans w) (hn:K.next≤N.next) (k:∀ j,j<K.next→w≠some j→N.get j=K.get j) (hw:∀ j,w=some j→j≠B∧j≠cid∧j≠rid):SerAt N B cid rid s mm rm:=by
 obtain ⟨l1,l2,l3⟩:=a.lt
 have hz:∀ i,NoRow K i 6→w≠some i:=fun i hi e=>by
  rcases o with ⟨_,_,rfl⟩ | ⟨rfl,_⟩ | ⟨id,cap,cells,_,rfl,_,g,_⟩
  ·cases e
  ·cases e
  ·cases e
   exact hi _ g
 exact ⟨(k B l1 fun e=>(hw B e).1 rfl).trans a.row,a.cel.keep (k cid l2 fun e=>(hw cid e).2.1 rfl),a.cm,a.rwm.keep (k rid l3 fun e=>(hw rid e).2.2 rfl),
  ⟨a.rw.1,a.rw.2.1,a.rw.2.2.1,fun n x hx=>by
   obtain ⟨v,h1,h2⟩:=a.rw.2.2.2 n x hx
   exact ⟨v,h1,(K5b (z:=6) h2 fun i hi hr=>k i hi.1 (hz i hr)).mono fun i hi=>⟨⟨Nat.lt_of_lt_of_le hi.1 hn,hi.2⟩,rfl⟩⟩⟩,
  ⟨by omega,by omega,by omega⟩,a.ne,a.ok,a.sm⟩
set_option maxHeartbeats 4000000 in
theorem l0c {h:DHeap} {B cid rid:Nat} {s:N0a} {mm:List (Key × Value)} {rm:List (Int × Value)} {l:List Txn} {vt:Value} {f n:Int} (a:SerAt h B cid rid s mm rm) (h0:0≤s.slot) (hs:s.slot<1099511627776) (hb:Sl rTxn (M9a h B cid rid) h vt l) (hT:∀ t∈l,P3a t) (hll:l.length≤1048576) :
 Ct Tryz.prog 19 [.pointer (some ⟨B,0,none⟩),H4c 1 f n vt] h (ApR h B cid rid s l):=by
 refine R8d (by simp) ?_
 have hcl:(H4c 1 f n vt).cells.toList=[.int .i64 1,.int .i64 f,.int .i64 n,vt]:=rfl
 obtain ⟨H,hH⟩:∃ H,H=h.push (.row [.int .i64 1,.int .i64 f,.int .i64 n,vt] 0 false):=⟨_,rfl⟩
 have hE:Ext h H:=by rw[hH];exact Ext.push1 _ _
 have hHn:H.next=h.next+1:=by rw[hH];rfl
 have gH:H.get h.next=some (.row [.int .i64 1,.int .i64 f,.int .i64 n,vt] 0 false):=by rw[hH];exact Zz _ _
 have aH:=a.ext hE
 have el:∀ K,dLen Tryz.prog #[43] vt K=some (.int .i64 (l.length:Nat)):=hb.lens (P:=Tryz.prog) (ts:=#[43]) (t:=43) rfl c6d
 have hnf:¬ 1099511627776≤s.slot:=by omega
 have hsk:inK .i64 s.slot:=m0a.2 ⟨by omega,by omega⟩
 obtain ⟨n1,n2,n3⟩:=a.ne
 obtain ⟨l1,l2,l3⟩:=a.lt
 simp -implicitDefEqProofs (disch:=first|omega|simp only[go_sem]) only[go_sem,true_and,c19,hcl,← hH]
 refine YV (h0b aH) ?_
 simp -implicitDefEqProofs (disch:=first|omega|simp only[go_sem]) only[go_sem,true_and,Zy aH.row,hnf,Zy gH,el]
 refine Xu (σ:=Nat) (by kernel_rfl) (fun i st=>st.df=[]∧st.rd=none∧st.fr 0=some (.pointer (some ⟨B,0,none⟩))∧st.fr 3=some (.pointer (some ⟨h.next,0,none⟩))∧st.fr 21=some vt∧st.fr 22=some (.int .i64 (l.length:Nat))∧st.fr 23=some (.int .i64 (i:Nat))∧i≤l.length∧KpD (fun j=>j=cid∨j=rid) H st.h∧(∃ mm rm,SerAt st.h B cid rid (X1a (s,[]) 0 (l.take i)).1 mm rm)∧∃ u w,st.fr 6=some u∧Owns rRowU (L9a H.next st.h w) st.h u (X1a (s,[]) 0 (l.take i)).2 w∧∀ j,w=some j→H.next≤j) (fun i=>l.length - i) 0 ?_ ?_
 ·simp -implicitDefEqProofs (disch:=first|omega|simp only[go_sem]) only[go_sem,true_and]
  exact ⟨by trivial,Nat.zero_le _,.refl _ _,⟨_,_,aH⟩,_,none,rfl,Owns.nil _ _ _,fun j hj=>by cases hj⟩
 rintro i ⟨fr,df,K,rd⟩ K' hK' hX ⟨rfl,rfl,f0,f3,f21,f22,f23,hi,kK,⟨mq,rq,aq⟩,u,w,f6,ow,hw⟩
 simp only at f0 f3 f21 f22 f23 kK aq f6 ow
 have kn:=kK.next
 simp -implicitDefEqProofs (disch:=first|omega|simp only[go_sem]) only[go_sem,true_and,f21,f22,f23]
 refine YX (fun hc1=>?_) (fun hc1=>?_)
 ·have hj:i<l.length:=by omega
  have hw1:=ZV hj (by omega)
  have hq:=S2c (q:=(s,[])) hj
  obtain ⟨q,hqq⟩:∃ q,X1a (s,[]) 0 (l.take i)=q:=⟨_,rfl⟩
  rw[hqq]at hq aq ow
  have hslot:q.1.slot=s.slot:=by rw[← hqq];exact H8a
  have hbK:Sl rTxn (M9a K B cid rid) K vt l:=hb.mono fun j hj2=>⟨⟨by have:=hj2.1;omega,hj2.2⟩,by rw[kK.get j (by have:=hj2.1;omega) (by obtain ⟨_,_,c,d⟩:=hj2;omega),hE.get j hj2.1]⟩
  obtain ⟨id1,o1,vc,va,vr,vw,i1,a1,tx,kt1,kt2⟩:=h2d hbK hj
  obtain ⟨K1,t1,eK1,gK1,nK1⟩:=l0d tx
  have gE:=(eK1.get h.next (by omega)).trans ((kK.get h.next (by omega) (by omega)).trans gH)
  have ht:=hT _ (List.getElem_mem hj)
  obtain ⟨t,htt⟩:∃ t,l[i]=t:=⟨_,rfl⟩
  rw[htt]at hq a1 tx kt1 kt2 t1 gK1 ht
  obtain ⟨A,hA⟩:∃ A,K1.push (.row [.int .i64 0,.int .i64 0,.int .i64 0,.slice none 0 0,.int .i64 0,.int .i64 0] 0 false)=A:=⟨_,rfl⟩
  have eA:Ext K1 A:=hA▸Ext.push1 _ _
  have nA:A.next=K1.next+1:=by rw[← hA];rfl
  have gA:A.get K1.next=some (.row [.int .i64 0,.int .i64 0,.int .i64 0,.slice none 0 0,.int .i64 0,.int .i64 0] 0 false):=by rw[← hA];exact Zz _ _
  have gT:=(eA.get K.next (by omega)).trans gK1
  have eKA:=eK1.trans eA
  have aA:=aq.ext eKA
  obtain ⟨l1',l2',l3'⟩:=aq.lt
  have lk:=aA.rwm.lookup g9b t.ses true
  obtain ⟨y,v,b,hyv,hlk,hvs⟩:∃ (y:Row) (v:Value) (b:Bool),((b=true∧Z1a q.1.rows t.ses=some y)∨(b=false∧Z1a q.1.rows t.ses=none))∧M0a Tryz.prog 80 (.map (some rid)) (.int .i64 t.ses) true A=some (.tuple #[U4a y v,.bool b])∧Sl fI64.rep (M9a A B cid rid) A v y.x.vs:=by
   cases hf:Z1a q.1.rows t.ses with
   | some y=>
     obtain ⟨v,h1,h2⟩:=aA.rw.2.2.2 _ _ hf
     rw[h1]at lk
     exact ⟨y,v,true,.inl ⟨rfl,rfl⟩,lk,h2⟩
   | none=>
     rw[aA.rw.2.2.1 _ hf]at lk
     exact ⟨z9b,YU,false,.inr ⟨rfl,rfl⟩,lk,.nil _ _ _⟩
  obtain ⟨M,hM⟩:∃ M,M=A.set K1.next (.row [.int .i64 y.ses,.int .i64 y.req,.int .i64 y.x.e,v,.int .i64 y.x.s,.int .i64 y.x.p] 0 false):=⟨_,rfl⟩
  have s1:Yw Tryz.prog 59 (.pointer (some ⟨K1.next,0,none⟩)) (U4a y v) A=some M:=by
   rw[hM]
   exact (L3b rfl).trans (l1a gA rfl (by obtain ⟨_,_,rfl⟩:=hvs.isSlice;rfl))
  have gR:M.get K1.next=some (.row [.int .i64 y.ses,.int .i64 y.req,.int .i64 y.x.e,v,.int .i64 y.x.s,.int .i64 y.x.p] 0 false):=by rw[hM];exact ZX _ _
  have eM:Ext K M:=by rw[hM];exact eKA.set (by omega)
  have nM:M.next=K1.next+1:=by rw[hM];exact nA
  have aM:=aq.ext eM
  have gTM:M.get K.next=some (.row [.int .i64 t.ses,.int .i64 t.req,vc,va,vr,vw] 0 false):=by rw[hM,Zv _ _ (by omega)];exact gT
  simp -implicitDefEqProofs (disch:=first|omega|simp only[go_sem]) only[go_sem,true_and,f3,f21,f23,i1,a1,t1,Zy gE]
  refine x2d rfl ?_
  simp -implicitDefEqProofs (disch:=first|omega|simp only[go_sem]) only[go_sem,true_and,A6c,C8c]
  simp -implicitDefEqProofs (disch:=first|omega|simp only[go_sem]) only[go_sem,true_and,hA,f0,Zy aA.row,Zy gT,hlk,s1,gA]
  have oM:Owns rRowU (L9a H.next M w) M u q.2 w:=ow.mono (by omega) (fun j hj2=>eM.get j (ow.lt j hj2)) fun j hj2=>⟨⟨⟨hj2.1.1,by have:=hj2.1.2;omega⟩,hj2.2⟩,eM.get j hj2.1.2⟩
  have hqlen:q.2.length≤l.length:=by
   have:=I5b (q:=(s,[])) (i:=0) (l:=l.take i)
   rw[hqq]at this
   simp at this
   omega
  by_cases hsame:b=true∧y.req=t.req
  ·obtain ⟨rfl,hreq⟩:=hsame
   have hf:Z1a q.1.rows t.ses=some y:=by
    rcases hyv with ⟨_,h1⟩ | ⟨h1,_⟩
    ·exact h1
    ·cases h1
   have hone:G2a q.1 t (i:Nat)=(q.1,some y):=by unfold G2a;rw[hf];simp only[hreq,if_true]
   have hyy:y=⟨t.ses,t.req,y.x⟩:=by
    obtain ⟨y1,y2,y3⟩:=y
    have:=(t3a hf).2
    simp only at this hreq
    rw[this,hreq]
   have hreq':=eq_true hreq
   have hvM:Arg fI64.rep M v y.x.vs:=by
    rw[hM]
    exact K4a (hvs.mono fun j hj2=>⟨hj2.1,rfl⟩:Arg fI64.rep A v y.x.vs) gA (by decide)
   have hvl:=aq.sm y (t3a hf).1
   have cr:Zx M K1.next 2 4=some (W1a y.x v):=by rw[Zw gR (Nat.le_of_ble_eq_true rfl)];rfl
   simp -implicitDefEqProofs (disch:=first|omega|simp only[go_sem]) only[go_sem,true_and,Zj,ZY,Bool.not_true,Bool.not_false,Zy gR,Zy gTM,hreq']
   refine NC.mono (s0b (n:=H.next) (t:=t) (x:=y.x) (vy f6) vz vz (fun N e=>Zy ((e.get _ (by omega)).trans gTM)) (fun N e=>Zy ((e.get _ (by omega)).trans gTM)) cr hvM (by omega) oM (by omega) hw (by omega)) ?_
   rintro e ⟨fr1,df1,N,rd1⟩ hG
   cases e <;> try exact hG.elim
   obtain ⟨rfl,rfl,kN,gN,oN,⟨u2,w2,p6,o2,hw2⟩,p0,p3,p21,p22,p23⟩:=hG
   simp only at kN gN oN p6 o2 p0 p3 p21 p22 p23
   have hne0:∀ j,w=some j→j≠B∧j≠cid∧j≠rid:=fun j hj=>by have:=hw j hj;omega
   simp -implicitDefEqProofs (disch:=first|omega|simp only[go_sem]) only[go_sem,true_and,p23,f23,hw1]
   refine hK' (i+1) _ ?_ (by omega)
   rw[hq,hone]
   exact ⟨by trivial,by trivial,by simp -implicitDefEqProofs (disch:=first|omega|simp only[go_sem]) only[go_sem,true_and,p0,f0],by simp -implicitDefEqProofs (disch:=first|omega|simp only[go_sem]) only[go_sem,true_and,p3,f3],by simp -implicitDefEqProofs (disch:=first|omega|simp only[go_sem]) only[go_sem,true_and,p21,f21],by simp -implicitDefEqProofs (disch:=first|omega|simp only[go_sem]) only[go_sem,true_and,p22,f22],vz,by omega,⟨by show H.next≤N.next;omega,gN.trans (eM.ng.trans kK.ng),fun j hj hn=>(oN j (by omega) fun e=>by have:=hw j e;omega).trans ((eM.get j (by omega)).trans (kK.get j hj hn))⟩,⟨mq,rq,aM.ans oM kN oN hne0⟩,u2,w2,by simp -implicitDefEqProofs (disch:=first|omega|simp only[go_sem]) only[go_sem,true_and,p6],by rw[hyy]at o2 ⊢;exact o2,hw2⟩
  ·have hone:G2a q.1 t (i:Nat)=goS q.1 t (i:Nat):=by
    unfold G2a
    rcases hyv with ⟨hb1,h1⟩ | ⟨_,h1⟩
    ·rw[h1]
     exact if_neg fun e=>hsame ⟨hb1,e⟩
    ·rw[h1]
   have hcase:b=false∨(b=true∧(y.req=t.req)=False):=by
    cases b
    ·exact .inl rfl
    ·exact .inr ⟨rfl,eq_false fun e=>hsame ⟨rfl,e⟩⟩
   have lT:Zx M K.next 0 6=some (Ww t.ses t.req vc va vr vw):=by rw[Zw gTM (Nat.le_of_ble_eq_true rfl)];rfl
   have hnx:=F5c (t:=t) (vc:=vc) (va:=va) (vr:=vr) (vw:=vw) aM
   have txM:TxV (InH M) M t vc va vr vw:=tx.mono fun j hj=>⟨by show j<M.next;have:=hj.1;omega,eM.get j hj.1⟩
   rcases hcase with rfl | ⟨rfl,hreq⟩
   simp -implicitDefEqProofs (disch:=first|omega|simp only[go_sem]) only[go_sem,true_and,Zj,ZY,Bool.not_true,Bool.not_false,lT,f0]
   rotate_left
   simp -implicitDefEqProofs (disch:=first|omega|simp only[go_sem]) only[go_sem,true_and,Zj,ZY,Bool.not_true,Bool.not_false,Zy gR,Zy gTM,hreq,decide_false,lT,f0]
   all_goals
    refine YV hnx ?_
    by_cases hb:b5a q.1 t=true
    ·simp -implicitDefEqProofs (disch:=first|omega|simp only[go_sem]) only[go_sem,true_and,hb,Bool.not_true]
     have hgo:goS q.1 t (i:Nat)=(⟨q.1.slot,Z2a t q.1.slot q.1.cells,A5a ⟨t.ses,t.req,Wx t q.1.slot (i:Nat) q.1.cells⟩ q.1.rows⟩,some ⟨t.ses,t.req,Wx t q.1.slot (i:Nat) q.1.cells⟩):=if_pos hb
     have hvl:(Wx t q.1.slot (i:Nat) q.1.cells).vs.length≤4096:=G4a.1
     obtain ⟨x,hx⟩:∃ x,Wx t q.1.slot (i:Nat) q.1.cells=x:=⟨_,rfl⟩
     have hxs:x.s=q.1.slot∧x.p=(i:Nat):=by rw[← hx];exact ⟨rfl,rfl⟩
     refine NC.mono (U8b (t:=t) (i:=(i:Nat)) (vy f0) vz vz vz aM gTM gR rfl ⟨by omega,by omega⟩ ⟨by omega,by omega⟩ txM ht (by rw[hslot];exact hsk)) ?_
     rw[hx]at hgo hvl ⊢
     rintro e ⟨fr1,df1,N1,rd1⟩ hG
     cases e <;> try exact hG.elim
     obtain ⟨rfl,rfl,⟨vv,mm1,k1,g1,sv,am1,cm1,ok1⟩,p0,p3,p6,p8,p9,p21,p22,p23⟩:=hG
     simp only at k1 g1 sv am1 p0 p3 p6 p8 p9 p21 p22 p23
     have n1n:=k1.next
     simp -implicitDefEqProofs (disch:=first|omega|simp only[go_sem]) only[go_sem,true_and]
     have gB1:=(k1.get B (by omega) (by omega)).trans aM.row
     refine NC.mono (o9b (br:=K1.next) (x:=⟨t.ses,t.req,x⟩) (vv:=vv) (by simp -implicitDefEqProofs (disch:=first|omega|simp only[go_sem]) only[go_sem,true_and,p0,f0]) (by simp -implicitDefEqProofs (disch:=first|omega|simp only[go_sem]) only[go_sem,true_and,p8]) (by simp -implicitDefEqProofs (disch:=first|omega|simp only[go_sem]) only[go_sem,true_and,p9]) gB1 ((k1.get _ (by omega) (by omega)).trans gTM) (by rw[hxs.1,hxs.2];exact g1) (aM.rwm.kp k1 (by omega) (by omega))) ?_
     rintro e ⟨fr2,df2,N2,rd2⟩ hG
     cases e <;> try exact hG.elim
     obtain ⟨rfl,rfl,⟨ob,hN2,am2⟩,u0,u3,u6,u8,u9,u21,u22,u23⟩:=hG
     simp only at hN2 u0 u3 u6 u8 u9 u21 u22 u23
     have oth:∀ j,j≠rid→N2.get j=N1.get j:=fun j hj=>by rw[hN2];exact Zv _ _ hj
     have n2n:N2.next=N1.next:=by rw[hN2];rfl
     rw[← hN2]at am2
     have gT2:=(oth K.next (by omega)).trans ((k1.get _ (by omega) (by omega)).trans gTM)
     have gR2:=(oth K1.next (by omega)).trans g1
     have k2:KpD (fun j=>j=cid∨j=rid) K N2:=⟨by omega,by rw[hN2];exact k1.ng.trans eM.ng,fun j hj hn=>(oth j fun e=>hn (.inr e)).trans ((k1.get j (by omega) (by omega)).trans (eM.get j hj))⟩
     have a2:=aq.put (x:=⟨t.ses,t.req,x⟩) (v:=vv) k2 (am1.keep (oth cid (by omega))) cm1 ok1 am2 (sv.mono fun j hj=>⟨⟨by have:=hj.2;omega,by have:=hj.1;omega,by have:=hj.1;omega,by have:=hj.1;omega⟩,oth j (by have:=hj.1;omega)⟩) hvl
     have o2:Owns rRowU (L9a H.next N2 w) N2 u q.2 w:=ow.mono (by omega) (fun j hj=>k2.get j (ow.lt j hj) (by have:=hw j hj;omega)) fun j hj=>⟨⟨⟨hj.1.1,by show j<N2.next;have:=hj.1.2;omega⟩,hj.2⟩,k2.get j hj.1.2 (by have:=hj.1.1;omega)⟩
     have cr:Zx N2 K1.next 2 4=some (W1a x vv):=by rw[Zw gR2 (Nat.le_of_ble_eq_true rfl),← hxs.1,← hxs.2];rfl
     simp -implicitDefEqProofs (disch:=first|omega|simp only[go_sem]) only[go_sem,true_and]
     refine NC.mono (s0b (n:=H.next) (t:=t) (x:=x) (by simp -implicitDefEqProofs (disch:=first|omega|simp only[go_sem]) only[go_sem,true_and,u6,p6,f6]) (by simp -implicitDefEqProofs (disch:=first|omega|simp only[go_sem]) only[go_sem,true_and,u8,p8]) (by simp -implicitDefEqProofs (disch:=first|omega|simp only[go_sem]) only[go_sem,true_and,u9,p9]) (fun N e=>Zy ((e.get _ (by omega)).trans gT2)) (fun N e=>Zy ((e.get _ (by omega)).trans gT2)) cr (sv.mono fun j hj=>⟨by show j<N2.next;have:=hj.2;omega,oth j (by have:=hj.1;omega)⟩) (by omega) o2 (by omega) hw (by omega)) ?_
     rintro e ⟨fr3,df3,N,rd3⟩ hG
     cases e <;> try exact hG.elim
     obtain ⟨rfl,rfl,kN,gN,oN,⟨u2,w2,q6,o3,hw2⟩,q0,q3,q21,q22,q23⟩:=hG
     simp only at kN gN oN q6 o3 q0 q3 q21 q22 q23
     have hne0:∀ j,w=some j→j≠B∧j≠cid∧j≠rid:=fun j hj=>by have:=hw j hj;omega
     simp -implicitDefEqProofs (disch:=first|omega|simp only[go_sem]) only[go_sem,true_and,q23,u23,p23,f23,hw1]
     refine hK' (i+1) _ ?_ (by omega)
     rw[hq,hone,hgo]
     exact ⟨by trivial,by trivial,by simp -implicitDefEqProofs (disch:=first|omega|simp only[go_sem]) only[go_sem,true_and,q0,u0,p0,f0],by simp -implicitDefEqProofs (disch:=first|omega|simp only[go_sem]) only[go_sem,true_and,q3,u3,p3,f3],by simp -implicitDefEqProofs (disch:=first|omega|simp only[go_sem]) only[go_sem,true_and,q21,u21,p21,f21],by simp -implicitDefEqProofs (disch:=first|omega|simp only[go_sem]) only[go_sem,true_and,q22,u22,p22,f22],vz,by omega,⟨by show H.next≤N.next;omega,gN.trans (k2.ng.trans kK.ng),fun j hj hn=>(oN j (by omega) fun e=>by have:=hw j e;omega).trans ((k2.get j (by omega) hn).trans (kK.get j hj hn))⟩,⟨_,_,a2.ans o2 kN oN hne0⟩,u2,w2,(vy q6),o3,hw2⟩
    ·have hb2:b5a q.1 t=false:=by simpa using hb
     have hgo:goS q.1 t (i:Nat)=(q.1,none):=if_neg hb
     simp -implicitDefEqProofs (disch:=first|omega|simp only[go_sem]) only[go_sem,true_and,hb2,Bool.not_false,f23,hw1]
     refine hK' (i+1) _ ?_ (by omega)
     rw[hq,hone,hgo]
     exact ⟨by trivial,by trivial,(vy f0),(vy f3),(vy f21),(vy f22),vz,by omega,kK.ext eM,⟨mq,rq,aM⟩,u,w,(vy f6),by rw[show q.2++(none:Option Row).toList=q.2 from List.append_nil _];exact oM,hw⟩
 ·obtain rfl:i=l.length:=by omega
  rw[List.take_length]at aq ow
  obtain ⟨q,hqq⟩:∃ q,X1a (s,[]) 0 l=q:=⟨_,rfl⟩
  rw[hqq]at aq ow
  have hslot:q.1.slot=s.slot:=by rw[← hqq];exact H8a
  have hwS:IntKind.i64.wrap (s.slot+1)=s.slot+1:=ZQ (by omega) (by omega)
  have gB:=aq.row
  rw[hslot]at gB
  obtain ⟨K1,hK1⟩:∃ M,M=K.set B (.row [.int .i64 (s.slot+1),.map (some cid),.map (some rid)] 0 false):=⟨_,rfl⟩
  have s1:storeAt K B 0 [.int .i64 (s.slot+1)]=some K1:=by rw[hK1];exact ZJ gB (by simp) rfl
  have oth:∀ j,j≠B→K1.get j=K.get j:=fun j hj=>by rw[hK1];exact Zv _ _ hj
  have nK1:K1.next=K.next:=by rw[hK1];rfl
  refine hX _ _ (by simp) ?_
  simp -implicitDefEqProofs (disch:=first|omega|simp only[go_sem]) only[go_sem,true_and,f0,f6,Zy gB,hwS,s1]
  have hnil:=ow.lt
  unfold ApR
  rw[hqq]
  refine ⟨_,rfl,u,mq,rq,rfl,⟨by omega,by rw[hK1];exact kK.ng.trans hE.ng,fun j hj hn2=>(oth j (fun e=>hn2 (.inl e))).trans ((kK.get j (by omega) fun e=>hn2 (.inr e)).trans (hE.get j hj))⟩,⟨?_,aq.cel.keep (oth _ (Ne.symm n1)),aq.cm,aq.rwm.keep (oth _ (Ne.symm n2)),?_,?_,a.ne,aq.ok,aq.sm⟩,?_⟩
  ·rw[hK1];exact ZX _ _
  ·exact aq.rw.mono fun j hj=>⟨⟨by show j<K1.next;have:=hj.1;omega,hj.2⟩,oth j hj.2.1⟩
  ·rw[nK1];exact aq.lt
  ·refine ow.sl.mono fun j hj=>?_
   have h1:H.next≤j∧j<K.next:=by
    rcases hj with hj | hj
    ·exact hj.1
    ·exact ⟨hw j hj,hnil j hj⟩
   exact ⟨⟨by omega,by show j<K1.next;omega⟩,oth j (by omega)⟩
abbrev X3b:List Value:=[u8V 3,u8V 0,u8V 0,u8V 2,u8V 1,u8V 0,u8V 8,u8V 0,u8V 1,u8V 5,u8V 0,u8V 0,u8V 24,u8V 0]
def W3b (s r:Int) (k:Key) (n:Int):Txn:=⟨s,r,[3,0,0,2,1,0,8,0,1,5,0,0,24,0],[n],[k],[k]⟩
theorem W3d {h:DHeap}:b0a Tryz.prog 22 14 [(0,u8V 3),(1,u8V 0),(2,u8V 0),(3,u8V 2),(4,u8V 1),(5,u8V 0),(6,u8V 8),(7,u8V 0),(8,u8V 1),(9,u8V 5),(10,u8V 0),(11,u8V 0),(12,u8V 24),(13,u8V 0)] h=some (.slice (some ⟨h.next,0,none⟩) 14 14,h.push (.row X3b 1 false)):=
 X2a (h:=h) (vs:=X3b) X3d (by decide) (fun v hv=>by
  simp only[X3b,List.mem_cons,List.not_mem_nil,or_false]at hv
  rcases hv with rfl | rfl | rfl | rfl | rfl | rfl | rfl | rfl | rfl | rfl | rfl | rfl | rfl | rfl <;> rfl) (by decide)
theorem U9c {a b:Int} {i j k l:Nat}:XW Tryz.prog 26 [(0,.int .i64 a),(1,.int .i64 b),(2,.slice (some ⟨i,0,none⟩) 14 14),(3,.slice (some ⟨j,0,none⟩) 1 1),(4,.slice (some ⟨k,0,none⟩) 1 1),(5,.slice (some ⟨l,0,none⟩) 1 1)]=some (Ww a b (.slice (some ⟨i,0,none⟩) 14 14) (.slice (some ⟨j,0,none⟩) 1 1) (.slice (some ⟨k,0,none⟩) 1 1) (.slice (some ⟨l,0,none⟩) 1 1)):=l0a u6d rfl
theorem v0b {α:Type} (F:FRep α) {K:DHeap} {id:Nat} {S:Nat→Prop} {cs:List Value} {l:List α} {n m zz:Nat} (g:K.get id=some (.row cs zz false)) (hS:S id) (hc:cs=l.flatMap F.enc) (hz:zz=F.z) (hn:n=l.length) (hok:∀ x∈l,F.ok x):Sl F.rep S K (.slice (some ⟨id,0,none⟩) n m) l:=by
 subst hz;subst hn;subst hc
 have hl:∀ l:List α,(l.flatMap F.enc).length=l.length*F.rep.z:=by
  intro l
  induction l with
  | nil=>simp
  | cons x l ih=>rw[List.flatMap_cons,List.length_append,ih,F.len,List.length_cons,Nat.add_mul];show F.z+l.length*F.z=l.length*F.z+1*F.z;omega
 refine .inr ⟨id,0,m,_,F.z,false,rfl,hS,g,.inr rfl,by rw[hl];omega,?_⟩
 rw[List.drop_zero,← hl,List.take_length]
 exact Els.flat.2 ⟨rfl,hok⟩
theorem Y3b {h:DHeap} {s r n:Int} {k:Key} (hk:fKey.ok k) (hn:inK .i64 n):Ct Tryz.prog 39 [.int .i64 s,.int .i64 r,Zq k,.int .i64 n] h fun r1 h1=>∃ vc va vr vw,r1=.ret (Ww s r vc va vr vw)∧Ext h h1∧TxV (p7a h h1) h1 (W3b s r k n) vc va vr vw:=by
 refine a9d (by simp) ?_
 obtain ⟨H1,hH1⟩:∃ H,h.push (.row [.int .i32 k.t,.int .i64 k.r] 0 false)=H:=⟨_,rfl⟩
 obtain ⟨H2,hH2⟩:∃ H,H1.push (.row [.int .i64 0,.int .i64 0,YU,YU,YU,YU] 0 false)=H:=⟨_,rfl⟩
 obtain ⟨H3,hH3⟩:∃ H,H2.push (.row X3b 1 false)=H:=⟨_,rfl⟩
 obtain ⟨H4,hH4⟩:∃ H,H3.push (.row [.int .i64 n] 1 false)=H:=⟨_,rfl⟩
 obtain ⟨H5,hH5⟩:∃ H,H4.push (.row [.int .i32 k.t,.int .i64 k.r] 2 false)=H:=⟨_,rfl⟩
 obtain ⟨H6,hH6⟩:∃ H,H5.push (.row [.int .i32 k.t,.int .i64 k.r] 2 false)=H:=⟨_,rfl⟩
 have e1:Ext h H1:=hH1▸Ext.push1 _ _
 have e2:Ext H1 H2:=hH2▸Ext.push1 _ _
 have e3:Ext H2 H3:=hH3▸Ext.push1 _ _
 have e4:Ext H3 H4:=hH4▸Ext.push1 _ _
 have e5:Ext H4 H5:=hH5▸Ext.push1 _ _
 have e6:Ext H5 H6:=hH6▸Ext.push1 _ _
 have n1:H1.next=h.next+1:=by rw[← hH1];rfl
 have n2:H2.next=h.next+2:=by rw[← hH2,g0a,n1]
 have n3:H3.next=h.next+3:=by rw[← hH3,g0a,n2]
 have n4:H4.next=h.next+4:=by rw[← hH4,g0a,n3]
 have n5:H5.next=h.next+5:=by rw[← hH5,g0a,n4]
 have n6:H6.next=h.next+6:=by rw[← hH6,g0a,n5]
 have gk:∀ K,Ext H1 K→Zx K h.next 0 2=some (Zq k):=fun K e=>by
  rw[Zw ((e.get _ (by omega)).trans (by rw[← hH1];exact Zz _ _)) (Nat.le_of_ble_eq_true rfl)]
  rfl
 have gt:H6.get H1.next=some (.row [.int .i64 0,.int .i64 0,YU,YU,YU,YU] 0 false):=((((e3.trans e4).trans e5).trans e6).get _ (by omega)).trans (by rw[← hH2];exact Zz _ _)
 obtain ⟨H7,hH7⟩:∃ H,H6.set H1.next (.row [.int .i64 s,.int .i64 r,.slice (some ⟨H2.next,0,none⟩) 14 14,.slice (some ⟨H3.next,0,none⟩) 1 1,.slice (some ⟨H4.next,0,none⟩) 1 1,.slice (some ⟨H5.next,0,none⟩) 1 1] 0 false)=H:=⟨_,rfl⟩
 have st:storeAt H6 H1.next 0 [.int .i64 s,.int .i64 r,.slice (some ⟨H2.next,0,none⟩) 14 14,.slice (some ⟨H3.next,0,none⟩) 1 1,.slice (some ⟨H4.next,0,none⟩) 1 1,.slice (some ⟨H5.next,0,none⟩) 1 1]=some H7:=by
  rw[← hH7]
  exact ZJ gt (Nat.le_of_ble_eq_true rfl) rfl
 have l7:Zx H7 H1.next 0 6=some (Ww s r (.slice (some ⟨H2.next,0,none⟩) 14 14) (.slice (some ⟨H3.next,0,none⟩) 1 1) (.slice (some ⟨H4.next,0,none⟩) 1 1) (.slice (some ⟨H5.next,0,none⟩) 1 1)):=by
  rw[← hH7,Zw (ZX _ _) (Nat.le_of_ble_eq_true rfl)]
  rfl
 have n7:H7.next=h.next+6:=by rw[← hH7];exact n6
 have o7:∀ j,j≠H1.next→H7.get j=H6.get j:=fun j hj=>by rw[← hH7];exact Zv _ _ hj
 have g3:H7.get H2.next=some (.row X3b 1 false):=(o7 _ (by omega)).trans ((((e4.trans e5).trans e6).get _ (by omega)).trans (by rw[← hH3];exact Zz _ _))
 have g4:H7.get H3.next=some (.row [.int .i64 n] 1 false):=(o7 _ (by omega)).trans (((e5.trans e6).get _ (by omega)).trans (by rw[← hH4];exact Zz _ _))
 have g5:H7.get H4.next=some (.row [.int .i32 k.t,.int .i64 k.r] 2 false):=(o7 _ (by omega)).trans ((e6.get _ (by omega)).trans (by rw[← hH5];exact Zz _ _))
 have g6:H7.get H5.next=some (.row [.int .i32 k.t,.int .i64 k.r] 2 false):=(o7 _ (by omega)).trans (by rw[← hH6];exact Zz _ _)
 simp -implicitDefEqProofs (disch:=first|omega|simp only[go_sem]) only[go_sem,true_and,c39,hH1,hH2,hH3,gk H4 ((e2.trans e3).trans e4),gk H5 (((e2.trans e3).trans e4).trans e5),W3d,hH4,hH5,hH6,U9c,st,G0a,k0a,l7]
 have ho:∀ x∈[k],fKey.ok x:=fun x hx=>by rw[List.mem_singleton.1 hx];exact hk
 exact ⟨_,rfl,_,_,_,_,rfl,by rw[← hH7];exact (((((e1.trans e2).trans e3).trans e4).trans e5).trans e6).set (by omega),⟨v0b fU8 g3 ⟨by omega,by omega⟩ rfl rfl rfl fun x hx=>B1c.2 (by simp only[W3b,List.mem_cons,List.not_mem_nil,or_false]at hx;omega),v0b fI64 g4 ⟨by omega,by omega⟩ rfl rfl rfl fun x hx=>by rw[List.mem_singleton.1 hx];exact hn,v0b fKey g5 ⟨by omega,by omega⟩ rfl rfl rfl ho,v0b fKey g6 ⟨by omega,by omega⟩ rfl rfl rfl ho⟩⟩
theorem O5b {S:Nat→Prop} {h:DHeap} {x:Txn} {vc va vr vw:Value} (k1:inK .i64 x.ses) (k2:inK .i64 x.req) (t:TxV S h x vc va vr vw):rTxn.rd S h [.int .i64 x.ses,.int .i64 x.req,vc,va,vr,vw] x:=
 ⟨[.int .i64 x.ses],_,rfl,⟨rfl,k1⟩,[.int .i64 x.req],_,rfl,⟨rfl,k2⟩,[vc],_,rfl,⟨vc,rfl,t.c⟩,[va],_,rfl,⟨va,rfl,t.a⟩,[vr],[vw],rfl,⟨vr,rfl,t.r⟩,vw,rfl,t.w⟩
theorem y1b {h:DHeap} {u:Value} {l:List Row} {i:Nat} {x:Row} (hu:Arg rRowU h u l) (hx:l[i]? = some x):∃ id o v,Yj Tryz.prog 51 u (.int .i64 i)=some (.pointer (some ⟨id,o,none⟩))∧Arg fI64.rep h v x.x.vs∧∀ K,Ext h K→Zu K id (o+2+1)=some v:=by
 obtain ⟨id,o,e,hi,cells,esz,ro,g,b,v,hc,sv⟩:=hu.idx (P:=Tryz.prog) (t:=51) K8d (k:=.i64) hx
 refine ⟨id,o,v,e,sv,fun K hK=>?_⟩
 have:=congrArg (fun l:List Value=>l[3]?) hc
 simp only[List.getElem?_take,List.getElem?_drop]at this
 rw[Zy ((hK.get id hi).trans g)]
 exact (by simpa using this:3<rRowU.z∧cells[o+3]? = some v).2
abbrev g3a:Key:=⟨0,3⟩
def V0b:List Txn:=[W3b 1 1 g3a 5,W3b 2 1 g3a 2,W3b 1 1 g3a 9]
theorem s5c:(X1a (⟨0,[],[]⟩,[]) 0 V0b).2=[⟨1,1,0,[5],0,0⟩,⟨2,1,0,[7],0,1⟩,⟨1,1,0,[5],0,0⟩]∧(X1a (⟨0,[],[]⟩,[]) 0 V0b).1.cells=[⟨g3a,7,0⟩]:=⟨by kernel_rfl,by kernel_rfl⟩
theorem M3d {i:Nat}:XW Tryz.prog 45 [(0,.int .i64 1),(3,.slice (some ⟨i,0,none⟩) 3 3)]=some (H4c 1 0 0 (.slice (some ⟨i,0,none⟩) 3 3)):=l0a x6d rfl
theorem r5c {h:DHeap}:DC Tryz.prog 12 [] h (.ret (.bool true)) h:=by
 refine Ct.pure (N8d (by simp) ?_) (n0a _)
 simp -implicitDefEqProofs (disch:=first|omega|simp only[go_sem]) only[go_sem,true_and,c12]
 refine Yu M1d ?_
 rintro r H ⟨B,cid,rid,rfl,eH,b1,b2,b3,a⟩
 have hbk:XW Tryz.prog 31 [(1,.int .i64 3)]=some (Zq g3a):=l0a v2c rfl
 obtain ⟨H1,hH1⟩:∃ M,H.push (.row [.int .i32 0,.int .i64 3] 0 false)=M:=⟨_,rfl⟩
 have e1:Ext H H1:=hH1▸Ext.push1 _ _
 have n1:H1.next=H.next+1:=by rw[← hH1];rfl
 have st1:Yw Tryz.prog 31 (.pointer (some ⟨H.next,0,none⟩)) (Zq g3a) (H.push (.row [.int .i32 0,.int .i64 0] 0 false))=some H1:=by
  rw[← hH1]
  exact (x3a rfl).trans (a0a rfl rfl)
 have gk:∀ K,Ext H1 K→Zx K H.next 0 2=some (Zq g3a):=fun K e=>by
  rw[Zw ((e.get _ (by omega)).trans (by rw[← hH1];exact Zz _ _)) (Nat.le_of_ble_eq_true rfl)]
  rfl
 have hk3:fKey.ok g3a:=⟨z1d.2 ⟨by decide,by decide⟩,m0a.2 ⟨by decide,by decide⟩⟩
 have i64:∀ n:Int,0≤n→n≤9→inK .i64 n:=fun n _ _=>m0a.2 ⟨by omega,by omega⟩
 simp -implicitDefEqProofs (disch:=first|omega|simp only[go_sem]) only[go_sem,true_and,Xj,z5b,hbk,st1]
 refine u2d rfl ?_
 simp -implicitDefEqProofs (disch:=first|omega|simp only[go_sem]) only[go_sem,true_and,x6c,z8c,gk H1 (.refl _)]
 refine B1a (Y3b hk3 (i64 5 (by decide) (by decide))) ?_
 rintro r K1 ⟨vc1,va1,vr1,vw1,rfl,f1,x1⟩
 have gk1:=gk K1 f1
 simp -implicitDefEqProofs (disch:=first|omega|simp only[go_sem]) only[go_sem,true_and,Y3a,gk1]
 refine B1a (Y3b hk3 (i64 2 (by decide) (by decide))) ?_
 rintro r K2 ⟨vc2,va2,vr2,vw2,rfl,f2,x2⟩
 have gk2:=gk K2 (f1.trans f2)
 simp -implicitDefEqProofs (disch:=first|omega|simp only[go_sem]) only[go_sem,true_and,Y3a,gk2]
 refine B1a (Y3b hk3 (i64 9 (by decide) (by decide))) ?_
 rintro r K3 ⟨vc3,va3,vr3,vw3,rfl,f3,x3⟩
 have m1:=f1.next
 have m2:=f2.next
 have m3:=f3.next
 have hcs:∀ {S K t a b c d},TxV S K t a b c d→∀ x y,(Ww x y a b c d).cells.toList=[.int .i64 x,.int .i64 y,a,b,c,d]∧(Ww x y a b c d).cells.size=6:=fun _ _ _=>⟨rfl,rfl⟩
 have hbs:=X2a (h:=K3) (t:=43) (vs:=[Ww 1 1 vc1 va1 vr1 vw1,Ww 2 1 vc2 va2 vr2 vw2,Ww 1 1 vc3 va3 vr3 vw3]) Y3d (Nat.succ_pos _) (fun v hv=>by
  simp only[List.mem_cons,List.not_mem_nil,or_false]at hv
  rcases hv with rfl | rfl | rfl <;> rfl) (Nat.le_of_ble_eq_true rfl)
 have hbs2:b0a Tryz.prog 43 3 [(0,Ww 1 1 vc1 va1 vr1 vw1),(1,Ww 2 1 vc2 va2 vr2 vw2),(2,Ww 1 1 vc3 va3 vr3 vw3)] K3=some (.slice (some ⟨K3.next,0,none⟩) 3 3,K3.push (.row ([.int .i64 1,.int .i64 1,vc1,va1,vr1,vw1]++([.int .i64 2,.int .i64 1,vc2,va2,vr2,vw2]++([.int .i64 1,.int .i64 1,vc3,va3,vr3,vw3]++[]))) 6 false)):=hbs
 obtain ⟨K4,hK4⟩:∃ K,K=K3.push (.row ([.int .i64 1,.int .i64 1,vc1,va1,vr1,vw1]++([.int .i64 2,.int .i64 1,vc2,va2,vr2,vw2]++([.int .i64 1,.int .i64 1,vc3,va3,vr3,vw3]++[]))) 6 false):=⟨_,rfl⟩
 rw[← hK4]at hbs2
 have f4:Ext K3 K4:=hK4▸Ext.push1 _ _
 have m4:K4.next=K3.next+1:=by rw[hK4];rfl
 have e4:Ext H K4:=e1.trans (f1.trans (f2.trans (f3.trans f4)))
 have a4:=a.ext e4
 obtain ⟨l1,l2,l3⟩:=a.lt
 have fr:∀ {x y j},H1.next≤x→y≤K4.next→(x≤j∧j<y)→M9a K4 B cid rid j:=fun {x y j} h1 h2 h3=>⟨by omega,by omega,by omega,by omega⟩
 have sl:Sl rTxn (M9a K4 B cid rid) K4 (.slice (some ⟨K3.next,0,none⟩) 3 3) V0b:=.inr ⟨K3.next,0,3,_,6,false,rfl,⟨by omega,by omega,by omega,by omega⟩,by rw[hK4];exact Zz _ _,.inr rfl,Nat.le_of_ble_eq_true rfl,
  ⟨_,_,rfl,O5b (i64 1 (by decide) (by decide)) (i64 1 (by decide) (by decide)) (x1.mono fun j hj=>⟨fr (Nat.le_refl _) (by omega) hj,(f2.trans (f3.trans f4)).get j hj.2⟩),
   _,_,rfl,O5b (i64 2 (by decide) (by decide)) (i64 1 (by decide) (by decide)) (x2.mono fun j hj=>⟨fr m1 (by omega) hj,(f3.trans f4).get j hj.2⟩),
   _,_,rfl,O5b (i64 1 (by decide) (by decide)) (i64 1 (by decide) (by decide)) (x3.mono fun j hj=>⟨fr (by omega) (by omega) hj,f4.get j hj.2⟩),rfl⟩⟩
 have hTl:∀ t∈V0b,P3a t:=fun t ht=>by
  simp only[V0b,List.mem_cons,List.not_mem_nil,or_false]at ht
  rcases ht with rfl | rfl | rfl <;> exact ⟨by decide,by decide,by decide,by decide⟩
 have gk3:=gk K3 (f1.trans (f2.trans f3))
 have gk4:=gk K4 (f1.trans (f2.trans (f3.trans f4)))
 simp -implicitDefEqProofs (disch:=first|omega|simp only[go_sem]) only[go_sem,true_and,Y3a,gk3,gk4,hbs2,M3d]
 refine B1a (l0c a4 (by decide) (by decide) sl hTl (by decide)) ?_
 rintro r K5 ⟨u,mm',rm',rfl,k5,a5,su⟩
 obtain ⟨lr1,lr2⟩:=s5c
 rw[lr1]at su
 obtain ⟨rws,a5'⟩:∃ rws,SerAt K5 B cid rid ⟨1,[⟨g3a,7,0⟩],rws⟩ mm' rm':=⟨_,by rw[← lr2];exact a5⟩
 have m5:=k5.next
 have gk5:Zx K5 H.next 0 2=some (Zq g3a):=by
  rw[Zw ((k5.get _ (by omega) (by omega)).trans (((f1.trans (f2.trans (f3.trans f4))).get _ (by omega)).trans (by rw[← hH1];exact Zz _ _))) (Nat.le_of_ble_eq_true rfl)]
  rfl
 simp -implicitDefEqProofs (disch:=first|omega|simp only[go_sem]) only[go_sem,true_and,Y3a,gk5]
 have hlast:Yk Cell.k [⟨g3a,7,0⟩] g3a=some ⟨g3a,7,0⟩:=by kernel_rfl
 have hget:DC Tryz.prog 25 [.pointer (some ⟨B,0,none⟩),Zq g3a] K5 (.ret (.tuple #[XQ ⟨g3a,7,0⟩,.bool true])) K5:=by
  have:=w1d (k:=g3a) a5'
  rw[hlast]at this
  exact this
 refine YV hget ?_
 obtain ⟨K6,hK6⟩:∃ K,K=K5.push (.row [.int .i32 0,.int .i64 3,.int .i64 7,.int .i64 0] 0 false):=⟨_,rfl⟩
 have f6:Ext K5 K6:=hK6▸Ext.push1 _ _
 have st6:Yw Tryz.prog 33 (.pointer (some ⟨K5.next,0,none⟩)) (XQ ⟨g3a,7,0⟩) (K5.push (.row [.int .i32 0,.int .i64 0,.int .i64 0,.int .i64 0] 0 false))=some K6:=by
  rw[hK6]
  exact (r1b rfl).trans (a0a rfl rfl)
 have su6:Arg rRowU K6 u _:=(su.mono fun j hj=>⟨hj.2,rfl⟩:Arg rRowU K5 u _).ext f6
 obtain ⟨id1,o1,v1,i1,w1,z1⟩:=y1b (i:=0) su6 rfl
 have i1':Yj Tryz.prog 51 u (.int .i64 0)=some (.pointer (some ⟨id1,o1,none⟩)):=i1
 obtain ⟨id2,o2,v2,i2,w2,z2⟩:=y1b (i:=1) su6 rfl
 have i2':Yj Tryz.prog 51 u (.int .i64 1)=some (.pointer (some ⟨id2,o2,none⟩)):=i2
 obtain ⟨id3,o3,v3,i3,w3,z3⟩:=y1b (i:=2) su6 rfl
 have i3':Yj Tryz.prog 51 u (.int .i64 2)=some (.pointer (some ⟨id3,o3,none⟩)):=i3
 have hlen:∀ K,dLen Tryz.prog #[51] u K=some (.int .i64 3):=su6.lens (P:=Tryz.prog) (ts:=#[51]) (t:=51) rfl d6d
 obtain ⟨K7,hK7⟩:∃ K,K=K6.push (.row [.int .i64 5] 1 false):=⟨_,rfl⟩
 obtain ⟨K8,hK8⟩:∃ K,K=K7.push (.row [.int .i64 7] 1 false):=⟨_,rfl⟩
 obtain ⟨K9,hK9⟩:∃ K,K=K8.push (.row [.int .i64 5] 1 false):=⟨_,rfl⟩
 have f7:Ext K6 K7:=hK7▸Ext.push1 _ _
 have f8:Ext K7 K8:=hK8▸Ext.push1 _ _
 have f9:Ext K8 K9:=hK9▸Ext.push1 _ _
 have ok1:∀ n:Int,0≤n→n≤9→∀ x∈[n],fI64.ok x:=fun n h1 h2 x hx=>by rw[List.mem_singleton.1 hx];exact i64 n h1 h2
 have b7:Arg fI64.rep K7 (.slice (some ⟨K6.next,0,none⟩) 1 1) [5]:=by rw[hK7];exact built fI64 K6 rfl rfl rfl (ok1 5 (by decide) (by decide))
 have b8:Arg fI64.rep K8 (.slice (some ⟨K7.next,0,none⟩) 1 1) [7]:=by rw[hK8];exact built fI64 K7 rfl rfl rfl (ok1 7 (by decide) (by decide))
 have b9:Arg fI64.rep K9 (.slice (some ⟨K8.next,0,none⟩) 1 1) [5]:=by rw[hK9];exact built fI64 K8 rfl rfl rfl (ok1 5 (by decide) (by decide))
 have e5:S3a (fun a b:Int=>decide (a=b)) [5] [5]=true:=by decide
 have e7:S3a (fun a b:Int=>decide (a=b)) [7] [7]=true:=by decide
 simp -implicitDefEqProofs (disch:=first|omega|simp only[go_sem]) only[go_sem,true_and,Xj,st6,hlen,Zj,decide_true,i1',z1 K6 (.refl _),← hK7]
 refine YV (X9a (w1.ext f7) b7 (by decide)) ?_
 simp -implicitDefEqProofs (disch:=first|omega|simp only[go_sem]) only[go_sem,true_and,Zj,e5,i2',z2 K7 f7,← hK8]
 refine YV (X9a ((w2.ext f7).ext f8) b8 (by decide)) ?_
 simp -implicitDefEqProofs (disch:=first|omega|simp only[go_sem]) only[go_sem,true_and,Zj,e7,i3',z3 K8 (f7.trans f8),← hK9]
 refine YV (X9a (((w3.ext f7).ext f8).ext f9) b9 (by decide)) ?_
 have c7:Zu K9 K5.next 2=some (.int .i64 7):=Zy (((f7.trans (f8.trans f9)).get _ (by rw[hK6];exact Nat.lt_succ_self _)).trans (by rw[hK6];exact Zz _ _))
 simp -implicitDefEqProofs (disch:=first|omega|simp only[go_sem]) only[go_sem,true_and,Zj,e5,c7,decide_true]
 refine YV (Q5c (a5'.ext (f6.trans (f7.trans (f8.trans f9))))) ?_
 simp -implicitDefEqProofs (disch:=first|omega|simp only[go_sem]) only[go_sem,true_and,Zj,decide_true]
 exact ⟨_,rfl,rfl,⟨by show h.next≤K9.next;have:=eH.next;have:=e4.next;have:=(f6.trans (f7.trans (f8.trans f9))).next;omega,(f6.trans (f7.trans (f8.trans f9))).ng.trans (k5.ng.trans (e4.ng.trans eH.ng)),fun j hj=>((f6.trans (f7.trans (f8.trans f9))).get j (by have:=eH.next;have:=e4.next;omega)).trans ((k5.get j (by have:=eH.next;have:=e4.next;omega) (by omega)).trans ((e4.get j (by have:=eH.next;omega)).trans (eH.get j hj)))⟩⟩
theorem k7b {K:DHeap} {x:Res} {v:Value} (hv:Arg fI64.rep K v x.vs):∃ K1,Yw Tryz.prog 36 (.pointer (some ⟨K.next,0,none⟩)) (W1a x v) (K.push (.row [.int .i64 0,.slice none 0 0,.int .i64 0,.int .i64 0] 0 false))=some K1∧Ext K K1∧∀ M,Ext K1 M→Zx M K.next 0 4=some (W1a x v):=by
 have hone:[Value.int .i64 x.e,v,.int .i64 x.s,.int .i64 x.p].all Value.oneCell'=true:=by
  obtain ⟨_,_,rfl⟩:=hv.isSlice
  rfl
 refine ⟨_,(R7a rfl).trans (a0a rfl hone),Ext.push1 _ _,fun M e=>?_⟩
 rw[Zw ((e.get _ (Nat.lt_succ_self _)).trans (Zz _ _)) (Nat.le_of_ble_eq_true rfl)]
 rfl
theorem H9b {h:DHeap} {t:Txn} {vc va vr vw v:Value} {m:List Cell} {slot at':Int} (x:TxV (InH h) h t vc va vr vw) (hT:P3a t) (hb:Arg fCell.rep h v m) (hl:m.length≤1000000) (hs:inK .i64 slot) :
 DC Tryz.prog 3 [Ww t.ses t.req vc va vr vw,.agg #[.int .i64 slot,.int .i64 at'],v] h (.ret (.bool true)) h:=by
 refine Ct.pure (K1e (by simp) ?_) (n0a _)
 have hcl:(Ww t.ses t.req vc va vr vw).cells.toList=[.int .i64 t.ses,.int .i64 t.req,vc,va,vr,vw]:=rfl
 have hca:(Value.agg #[.int .i64 slot,.int .i64 at']).cells.toList=[.int .i64 slot,.int .i64 at']:=rfl
 have el:∀ K,dLen Tryz.prog #[29] v K=some (.int .i64 (m.length:Nat)):=hb.lens (P:=Tryz.prog) (ts:=#[29]) (t:=29) rfl f6a
 obtain ⟨H,hH⟩:∃ H,H=(h.push (.row [.int .i64 t.ses,.int .i64 t.req,vc,va,vr,vw] 0 false)).push (.row [.int .i64 slot,.int .i64 at'] 0 false):=⟨_,rfl⟩
 have hE:Ext h H:=by rw[hH];exact (Ext.push1 _ _).push _
 have hHn:H.next=h.next+2:=by rw[hH];rfl
 have gH:H.get h.next=some (.row [.int .i64 t.ses,.int .i64 t.req,vc,va,vr,vw] 0 false):=by rw[hH];exact c3a
 have gA:∀ K,Ext H K→K.get (h.next+1)=some (.row [.int .i64 slot,.int .i64 at'] 0 false):=fun K e=>(e.get _ (by omega)).trans (by rw[hH];exact Zz _ _)
 have lt:∀ K,Ext H K→Zx K h.next 0 6=some (Ww t.ses t.req vc va vr vw):=fun K e=>by
  rw[Zw ((e.get _ (by omega)).trans gH) (Nat.le_of_ble_eq_true rfl)]
  rfl
 simp -implicitDefEqProofs (disch:=first|omega|simp only[go_sem]) only[go_sem,true_and,c3,hcl,hca,g0a,← hH,el]
 refine Xu (σ:=Nat) (by kernel_rfl) (fun i s=>s.df=[]∧s.rd=none∧s.fr 3=some (.pointer (some ⟨h.next,0,none⟩))∧s.fr 4=some (.pointer (some ⟨h.next+1,0,none⟩))∧s.fr 14=some v∧s.fr 15=some (.int .i64 (m.length:Nat))∧s.fr 16=some (.int .i64 (i:Nat))∧i≤m.length∧Ext H s.h∧∃ w,s.fr 7=some w∧Arg fCell.rep s.h w (byK Cell.k (m.take i))) (fun i=>m.length - i) 0 ?_ ?_
 ·simp -implicitDefEqProofs (disch:=first|omega|simp only[go_sem]) only[go_sem,true_and]
  exact ⟨by trivial,Nat.zero_le _,.refl _,_,rfl,.nil _ _ _⟩
 rintro i ⟨fr,df,K,rd⟩ K' hK' hX ⟨rfl,rfl,f3,f4,f14,f15,f16,hi,eK,w,f7,aw⟩
 simp only at f3 f4 f14 f15 f16 eK f7 aw
 simp -implicitDefEqProofs (disch:=first|omega|simp only[go_sem]) only[go_sem,true_and,f14,f15,f16]
 refine YX (fun hc1=>?_) (fun hc1=>?_)
 ·have hj:i<m.length:=by omega
  have hw:=ZV hj (by omega)
  obtain ⟨id1,o1,i1,_,hat1⟩:=(hb.ext (hE.trans eK)).idx (P:=Tryz.prog) (t:=29) x4a (k:=.i64) (i:=i) (x:=m[i]) (by simp)
  have a1:Zx K id1 o1 4=some (XQ m[i]):=hat1.flat.2.1
  obtain ⟨K1,t1,eK1,nK1,cc⟩:=t7a (K:=K) (x:=m[i])
  obtain ⟨c1,_,c3⟩:=cc K1 (.refl _)
  have hbl:=R1a (key:=Cell.k) (m.take i)
  rw[List.length_take]at hbl
  simp -implicitDefEqProofs (disch:=first|omega|simp only[go_sem]) only[go_sem,true_and,f7,f14,f16,i1,a1,t1,c1,c3]
  refine Yu (j0b (aw.ext eK1) hat1.flat.2.2 (by omega)) ?_
  rintro r M ⟨w2,rfl,mw⟩
  simp -implicitDefEqProofs (disch:=first|omega|simp only[go_sem]) only[go_sem,true_and,Xj,f16,hw]
  refine hK' (i+1) _ ?_ (by omega)
  exact ⟨by trivial,by trivial,(vy f3),(vy f4),(vy f14),(vy f15),vz,by omega,(eK.trans eK1).trans mw.ext,w2,vz,by rw[u7a hj];exact mw.arg⟩
 obtain rfl:i=m.length:=by omega
 rw[List.take_length]at aw
 refine hX _ _ (by simp) ?_
 clear hK' hX K' f14 f15 f16 hc1 hi
 have hbl:=R1a (key:=Cell.k) m
 have hid:=w0b (r2a (key:=Cell.k) m)
 obtain ⟨M0,hM0⟩:∃ M0,byK Cell.k m=M0:=⟨_,rfl⟩
 rw[hM0]at aw hbl hid
 have hvl:(Wx t slot at' M0).vs.length≤4096:=G4a.1
 have hsl:=U2b (t:=t) (slot:=slot) (m:=M0)
 simp -implicitDefEqProofs (disch:=first|omega|simp only[go_sem]) only[go_sem,true_and,f3,f4,f7,lt K eK,Zy (gA K eK)]
 refine Yu (J5b (x.ext (hE.trans eK)) hT aw (by omega) hs) ?_
 rw[hid]
 rintro r D ⟨vv,q,rfl,av,mq⟩
 obtain ⟨D1,s1,e1,c1⟩:=k7b av
 have eD:=(eK.trans mq.ext).trans e1
 simp -implicitDefEqProofs (disch:=first|omega|simp only[go_sem]) only[go_sem,true_and,Xj,s1,f3,f4,f7,lt D1 eD,Zy (gA D1 eD)]
 refine Yu (y9b (x.ext (hE.trans eD)) hT ((aw.ext mq.ext).ext e1) (by omega) hs) ?_
 rw[hid]
 rintro r E ⟨uu,z,rfl,eE,au,az⟩
 obtain ⟨E1,s2,e2,c2⟩:=k7b au
 have eE1:=eE.trans e2
 simp -implicitDefEqProofs (disch:=first|omega|simp only[go_sem]) only[go_sem,true_and,Xj,s2]
 refine YV r5c ?_
 simp -implicitDefEqProofs (disch:=first|omega|simp only[go_sem]) only[go_sem,true_and,Zj,ZY,c1 E1 eE1,c2 E1 (.refl _)]
 refine YV (N6b ((av.ext e1).ext eE1) (au.ext e2) (by omega)) ?_
 simp -implicitDefEqProofs (disch:=first|omega|simp only[go_sem]) only[go_sem,true_and,Zj,ZY]
 refine YV (w3b ((mq.arg.ext e1).ext eE1) (az.ext e2) (by omega)) ?_
 simp -implicitDefEqProofs (disch:=first|omega|simp only[go_sem]) only[go_sem,true_and,Zj,ZY]
 exact ⟨_,rfl,rfl,hE.trans (eD.trans eE1)⟩
theorem R7b {α:Type}:∀ l:List α,4*l.length≤w1a (fun _=>4) l
 | []=>by simp
 | x :: l=>by
   have:=R7b l
   simp only[w1a,List.length_cons]
   omega
theorem t2c:Par Tryz.prog 29 false:=⟨_,Tryz.underlying29,rfl⟩
def A9c:Rep (Int × Int):=rP fI64.rep fI64.rep
theorem g6d:Lays Tryz.prog 28 A9c (fun _=>2):=
 (Lays.of (l:=[(2,0),(3,1)]) (by kernel_rfl) (by kernel_rfl) (.cons P4a (.one F1d))).conv (Q:=A9c) rfl (fun x=>x) (fun _ _ _ _ h=>h) (fun x=>Nat.le_refl _)
theorem t6d:Par Tryz.prog 28 true:=c1b (l:=[(2,0),(3,1)]) (by kernel_rfl)
end Go.Proofs.YtheamfnbfgiaeaaGreat
namespace Go.Proofs.YtheamfnbfgiaeaaGreat.lawSteps
open Go.D
open Go.ChangeShapes Go.WideShapes Go.ChangeAt Go.RowKit
theorem own:ownKnob Tryz.prog.godebug=none:=by kernel_rfl
set_option maxRecDepth 100000 in
theorem lifted (os:Os) (started:os.Started) (H:Type) (enc:TypeId × Value→H) (F:Stop.Interp) :
 ReturnsInHanded {} Tryz.checked os 3 .any ((Rows.OpenSpec.upto Rows.serialStepsSpec).pre6 enc Tryz.prog Tryz.f3 Rows.serialStepsUptoRow.domain false) (((Rows.OpenSpec.upto Rows.serialStepsSpec).at F).post enc Tryz.prog Tryz.f3 false true false false):=by
 refine returnsInHanded_of_cond (C:=Tryz.checked) (s:=Rows.OpenSpec.upto Rows.serialStepsSpec) (k:=Rows.uptoSmall) rfl own started (by kernel_rfl) Tryz.func3
  (OpenSpec.witness (enc:=enc) (C:=Tryz.checked) (s:=Rows.OpenSpec.upto Rows.serialStepsSpec) (k:=Rows.uptoSmall) rfl false ⟨#[],#[.agg #[.int .i64 0,.int .i64 0,.slice none 0 0,.slice none 0 0,.slice none 0 0,.slice none 0 0],.agg #[.int .i64 0,.int .i64 0],.slice none 0 0],[]⟩ 8 (by kernel_rfl) (by kernel_rfl) (by kernel_rfl)
    (x:=([.agg [.lit (.int .i64 0),.lit (.int .i64 0),.nil,.nil,.nil,.nil],.agg [.lit (.int .i64 0),.lit (.int .i64 0)],.nil],[],[])) (by kernel_rfl) rfl (by kernel_rfl)) ?_
 intro W base args ds gs before hval hW _ hk _
 refine n5c (by kernel_rfl)
  (.cons (agg:=true) Q1d G1d (.cons (agg:=true) t6d g6d (.cons (agg:=false) t2c Z1c .nil))) (tb:=4) (by kernel_rfl) (by kernel_rfl) rfl (fun ds hl=>?_) (fun h vs x hng hq hB=>?_) W base args ds gs before hval hW hk
 ·match ds,hl with
  | [d0,d1,d2],_=>rfl
 ·obtain ⟨cs,vs1,rfl,h1,cs2,vs2,rfl,⟨_,_,rfl,⟨rfl,k1⟩,rfl,k2⟩,cs3,vs3,rfl,⟨u,rfl,hu⟩,rfl⟩:=hq
  obtain ⟨vc,va,vr,vw,rfl,_,_,tx⟩:=a3c h1
  have q1:=R7b x.2.2.1
  exact (H9b tx (i2d (by omega)) hu (by omega) k1).ct rfl
theorem p1:Tryz.pinned.checked.prog.funcNamed Rows.serialStepsUptoRow.func=some 3:=by kernel_rfl
theorem p2:joinedFacts Tryz.pinned.checked.prog 3 Tryz.f3 (Rows.OpenSpec.upto Rows.serialStepsSpec).bare Rows.serialStepsUptoRow=true:=by kernel_rfl
theorem p3:Tryz.f3.isInstance Tryz.pinned.checked.prog Rows.serialStepsUptoRow.origin Rows.serialStepsUptoRow.targs:=of_decide_eq_true (by kernel_rfl)
theorem p4:Tryz.f3.isWrapper Tryz.pinned.checked.prog Rows.serialStepsUptoRow.wrapper Rows.serialStepsUptoRow.mainSum:=by unfold Func.isWrapper;first | (rw[if_pos (by decide +kernel)];kernel_rfl) | (rw[if_neg (by decide +kernel)];exact ⟨rfl,rfl⟩)
theorem proved:Rows.SerialStepsUptoSaid:=
 OpenClaim.holds_of_cond 3 Tryz.f3 rfl rfl rfl rfl rfl rfl rfl ⟨rfl,rfl,rfl,rfl,rfl⟩ rfl rfl rfl rfl rfl p1 Tryz.func3 p2 p3 p4
  (fun os started H enc _ F=>lifted os started H enc F)
end Go.Proofs.YtheamfnbfgiaeaaGreat.lawSteps
