/-
A part of the proof of a law: contracts of functions over plain heaps, and what they lean on. Conditions: none.
-/
import Derived.Sort.Statements
import Derived.Shelf.SlSortCmp.WholeK
import Derived.Test.YtheamfnbfgiaeaaGreatBase1
import Derived.Test.YtheamfnbfgiaeaaGreatBase2
import Derived.Test.YtheamfnbfgiaeaaGreatSerialStepsParts1
set_option linter.unusedSimpArgs false
set_option linter.unusedVariables false
set_option linter.defProp false
namespace Go.Proofs.YtheamfnbfgiaeaaGreat
open Go.D
set_option maxRecDepth 100000
def N0b (x:Instr):Bool:=decide (0≤x.a)&&(decide (x.a<8)&&(decide (0≤x.b)&&(decide (x.b<8)&&(!decide (x.op=19)||(decide (x.imm=8)||(decide (x.imm=16)||decide (x.imm=32)))))))
theorem A1d {h:DHeap} {x:Instr}:DC Tryz.prog 154 [XJ x] h (.ret (.bool (N0b x))) h:=by
 obtain ⟨x1,x2,x3,x4,x5⟩:=x
 refine Ct.pure (Z5d (by simp) ?_) (n0a _)
 obtain ⟨H,hH⟩:∃ H,H=h.push (.row [.int .i64 x1,.int .i64 x2,.int .i64 x3,.int .i64 x4,.int .i64 x5] 0 false):=⟨_,rfl⟩
 have hE:Ext h H:=by rw[hH];exact Ext.push1 _ _
 have g:H.get h.next=some (.row [.int .i64 x1,.int .i64 x2,.int .i64 x3,.int .i64 x4,.int .i64 x5] 0 false):=by rw[hH];exact Zz _ _
 have a1:Zu H h.next 1=some (.int .i64 x2):=Zy g
 have a2:Zu H h.next 2=some (.int .i64 x3):=Zy g
 have a3:Zu H h.next 3=some (.int .i64 x4):=Zy g
 have a4:Zu H h.next 4=some (.int .i64 x5):=Zy g
 simp -implicitDefEqProofs (disch:=first|omega|simp only[go_sem]) only[go_sem,true_and,y4d,← hH,a2]
 clear hH
 (repeat' first | (refine I1a (fun hb=>?_) (fun hb=>?_) <;> (try simp only[Bool.not_eq_true',Bool.not_eq_false']at hb) <;> simp -implicitDefEqProofs (disch:=first|omega|simp only[go_sem]) only[go_sem,true_and,Zj,ZY,hb,a1,a2,a3,a4]) | (refine A0a (fun hb=>?_) (fun hb=>?_) <;> (try simp only[Bool.not_eq_true',Bool.not_eq_false']at hb) <;> simp -implicitDefEqProofs (disch:=first|omega|simp only[go_sem]) only[go_sem,true_and,Zj,ZY,hb,a1,a2,a3,a4]))
 all_goals exact ⟨_,rfl,by simp_all [N0b] <;> omega,hE⟩
theorem q3a {P:Program} {t:TypeId} {α:Type} {R:Rep α} {h K:DHeap} {u:Value} {l:List α} {lo hi mx:Option Value} (hu:Arg R h u l) (e:Ext h K):XZ P t u lo hi mx K=XZ P t u lo hi mx h:=by
 rcases hu with ⟨rfl,rfl⟩ | ⟨id,o,c,cells,esz,ro,rfl,hid,_⟩
 ·cases hd:P.underlying t with
  | none=>simp only[XZ,hd]
  | some d=>cases d <;> simp only[XZ,hd]
 ·have hf:∀ z,S1a K id z=S1a h id z:=fun z=>by unfold S1a;rw[e.get _ hid]
  cases hd:P.underlying t with
  | none=>simp only[XZ,hd]
  | some d=>cases d <;> simp only[XZ,hd,hf]
theorem Y1d {h:DHeap} {u:Value} {l:List Int} {k:Nat} (hu:Arg fU8.rep h u l) (hk:k≤l.length):∃ u',(∀ K,Ext h K→XZ Tryz.prog 22 u (some (.int .i64 (k:Nat))) none none K=some u')∧Arg fU8.rep h u' (l.drop k):=by
 have hj:YJ (none:Option Value) l.length l.length=some l.length:=rfl
 obtain ⟨u',e1,e2⟩:=hu.slice (P:=Tryz.prog) (t:=22) L8b (by decide) hj (B0a (k:=.i64) hk) hk (Nat.le_refl _)
 rw[List.take_length]at e2
 exact ⟨u',fun K e=>(q3a hu e).trans e1,e2⟩
theorem R1d {h:DHeap} {u:Value} {l:List Int} {i j:Nat} (hu:Arg fU8.rep h u l) (hi:i≤j) (hj:j≤l.length):∃ u',(∀ K,Ext h K→XZ Tryz.prog 22 u (some (.int .i64 (i:Nat))) (some (.int .i64 (j:Nat))) none K=some u')∧Arg fU8.rep h u' ((l.take j).drop i):=by
 obtain ⟨u',e1,e2⟩:=hu.slice (P:=Tryz.prog) (t:=22) L8b (by decide) (B0a (k:=.i64) hj) (B0a (k:=.i64) hi) hi hj
 exact ⟨u',fun K e=>(q3a hu e).trans e1,e2⟩
theorem C6b {K0 K1:DHeap} {u u':Value} {id o B:Nat} {x:Int} {fr:Fr} {rd:Option Nat} (f9:fr 9=some (.pointer (some ⟨B,0,none⟩))) (f12:fr 12=some u)
 (h1:Yj Tryz.prog 22 u (.int .i64 0)=some (.pointer (some ⟨id,o,none⟩))) (c0:Zu K0 id o=some (.int .u8 x)) (c1:Zu K1 id o=some (.int .u8 x)) (hx:IntKind.i64.wrap x=x)
 (hs0:XZ Tryz.prog 22 u (some (.int .i64 1)) none none K0=some u') (hs1:XZ Tryz.prog 22 u (some (.int .i64 1)) none none K1=some u') (s0:storeAt K0 B 2 [.int .i64 x]=some K1) (s1:storeAt K1 B 2 [.int .i64 x]=some K1) :
 NC Tryz.prog 132 I6d (WZ (fun s=>s.df=[]∧s.rd=rd∧s.h=K1∧s.fr 12=some u'∧s.fr 0=fr 0∧s.fr 1=fr 1∧s.fr 4=fr 4∧s.fr 7=fr 7∧s.fr 9=fr 9∧s.fr 10=fr 10) (fun _ _=>False)) ⟨fr,[],K0,rd⟩:=by
 refine NC.regs (l:=K3a) (by kernel_rfl) (by kernel_rfl) (by kernel_rfl) rfl (by kernel_rfl) (by kernel_rfl) (fun a b=>b=a∨b=K1) (fun _=>.inl rfl) (fun a b c h g=>?_) (fun i h v=>(i=7→h=K1)∧(i≠7→v=([u,.pointer (some ⟨id,o,none⟩),.int .u8 x,.int .i64 x,u,u',.pointer (some ⟨B,2,none⟩),undef,u']:List Value).getD i undef)) ?_ ?_
 ·rcases g with rfl | rfl
  ·exact h
  ·exact .inr rfl
 case refine_3=>
  rintro ⟨fr1,df1,K,rd1⟩ g hF
  obtain ⟨_,q7,_⟩:=(hF 7 (by decide)).fact
  have f8:=(hF 8 (by decide)).eq (d:=12) (c:=u') rfl fun _ _ e=>e.2 (by decide)
  exact ⟨g.df,g.rd,q7 rfl,f8,g.fr 0 (by kernel_rfl),g.fr 1 (by kernel_rfl),g.fr 4 (by kernel_rfl),g.fr 7 (by kernel_rfl),g.fr 9 (by kernel_rfl),g.fr 10 (by kernel_rfl)⟩
 intro i oo s ho g hpre hown hF
 have F9:s.fr 9=some (.pointer (some ⟨B,0,none⟩)):=(g.fr 9 (by kernel_rfl)).trans f9
 have hi':i<9:=(List.getElem?_eq_some_iff.1 ho).1
 have hh:s.h=K0∨s.h=K1:=g.ext
 have hc:Zu s.h id o=some (.int .u8 x):=by rcases hh with e | e <;> rw[e] <;> assumption
 have hs:XZ Tryz.prog 22 u (some (.int .i64 1)) none none s.h=some u':=by rcases hh with e | e <;> rw[e] <;> assumption
 match i,hi' with
 | 0,_=>
   simp only[K3a,List.getElem?_cons_zero,List.getElem?_cons_succ,Option.some.injEq]at ho
   subst ho
   have F12:s.fr 12=some u:=(hpre 8 12 (by kernel_rfl) (by kernel_rfl)).trans f12
   exact J0a (v:=u) (fun _=>.inl rfl) vz (vy F12) ⟨fun e=>absurd e (by decide),fun _=>rfl⟩
 | 1,_=>
   simp only[K3a,List.getElem?_cons_zero,List.getElem?_cons_succ,Option.some.injEq]at ho
   subst ho
   have f0:s.fr 65=some (u):=(hF 0 (by kernel_rfl)).eq rfl fun _ _ e=>e.2 (by decide)
   exact J0a (v:=.pointer (some ⟨id,o,none⟩)) (fun _=>.inl rfl) vz (by simp -implicitDefEqProofs (disch:=first|omega|simp only[go_sem]) only[go_sem,true_and,f0,h1]) ⟨fun e=>absurd e (by decide),fun _=>rfl⟩
 | 2,_=>
   simp only[K3a,List.getElem?_cons_zero,List.getElem?_cons_succ,Option.some.injEq]at ho
   subst ho
   have f1:s.fr 66=some (.pointer (some ⟨id,o,none⟩)):=(hF 1 (by kernel_rfl)).eq rfl fun _ _ e=>e.2 (by decide)
   exact J0a (v:=.int .u8 x) (fun _=>.inl rfl) vz (by simp -implicitDefEqProofs (disch:=first|omega|simp only[go_sem]) only[go_sem,true_and,f1,hc]) ⟨fun e=>absurd e (by decide),fun _=>rfl⟩
 | 3,_=>
   simp only[K3a,List.getElem?_cons_zero,List.getElem?_cons_succ,Option.some.injEq]at ho
   subst ho
   have f2:s.fr 67=some (.int .u8 x):=(hF 2 (by kernel_rfl)).eq rfl fun _ _ e=>e.2 (by decide)
   exact J0a (v:=.int .i64 x) (fun _=>.inl rfl) vz (by simp -implicitDefEqProofs (disch:=first|omega|simp only[go_sem]) only[go_sem,true_and,f2,hx]) ⟨fun e=>absurd e (by decide),fun _=>rfl⟩
 | 4,_=>
   simp only[K3a,List.getElem?_cons_zero,List.getElem?_cons_succ,Option.some.injEq]at ho
   subst ho
   have F12:s.fr 12=some u:=(hpre 8 12 (by kernel_rfl) (by kernel_rfl)).trans f12
   exact J0a (v:=u) (fun _=>.inl rfl) vz (vy F12) ⟨fun e=>absurd e (by decide),fun _=>rfl⟩
 | 5,_=>
   simp only[K3a,List.getElem?_cons_zero,List.getElem?_cons_succ,Option.some.injEq]at ho
   subst ho
   have f4:s.fr 69=some (u):=(hF 4 (by kernel_rfl)).eq rfl fun _ _ e=>e.2 (by decide)
   exact J0a (v:=u') (fun _=>.inl rfl) vz (by simp -implicitDefEqProofs (disch:=first|omega|simp only[go_sem]) only[go_sem,true_and,f4,hs]) ⟨fun e=>absurd e (by decide),fun _=>rfl⟩
 | 6,_=>
   simp only[K3a,List.getElem?_cons_zero,List.getElem?_cons_succ,Option.some.injEq]at ho
   subst ho
   exact J0a (v:=.pointer (some ⟨B,2,none⟩)) (fun _=>.inl rfl) vz (vy F9) ⟨fun e=>absurd e (by decide),fun _=>rfl⟩
 | 7,_=>
   simp only[K3a,List.getElem?_cons_zero,List.getElem?_cons_succ,Option.some.injEq]at ho
   subst ho
   have f3:s.fr 68=some (.int .i64 x):=(hF 3 (by kernel_rfl)).eq rfl fun _ _ e=>e.2 (by decide)
   have f6:s.fr 71=some (.pointer (some ⟨B,2,none⟩)):=(hF 6 (by kernel_rfl)).eq rfl fun _ _ e=>e.2 (by decide)
   have hst:storeAt s.h B 2 [.int .i64 x]=some K1:=by rcases hh with e | e <;> rw[e] <;> assumption
   exact M2b (h':=K1) vz (by simp -implicitDefEqProofs (disch:=first|omega|simp only[go_sem]) only[go_sem,true_and,f3,f6,hst]) (.inr rfl) ⟨fun _=>rfl,fun e=>absurd rfl e⟩ fun j u hj hv=>⟨fun _=>rfl,hv.2⟩
 | 8,_=>
   simp only[K3a,List.getElem?_cons_zero,List.getElem?_cons_succ,Option.some.injEq]at ho
   subst ho
   have f5:s.fr 70=some (u'):=(hF 5 (by kernel_rfl)).eq rfl fun _ _ e=>e.2 (by decide)
   exact J0a (v:=u') (fun _=>.inl rfl) vz (vy f5) ⟨fun e=>absurd e (by decide),fun _=>rfl⟩
theorem D6b {K0 K1:DHeap} {u u':Value} {id o B:Nat} {x:Int} {fr:Fr} {rd:Option Nat} (f9:fr 9=some (.pointer (some ⟨B,0,none⟩))) (f12:fr 12=some u)
 (h1:Yj Tryz.prog 22 u (.int .i64 0)=some (.pointer (some ⟨id,o,none⟩))) (c0:Zu K0 id o=some (.int .u8 x)) (c1:Zu K1 id o=some (.int .u8 x)) (hx:IntKind.i64.wrap x=x)
 (hs0:XZ Tryz.prog 22 u (some (.int .i64 1)) none none K0=some u') (hs1:XZ Tryz.prog 22 u (some (.int .i64 1)) none none K1=some u') (s0:storeAt K0 B 3 [.int .i64 x]=some K1) (s1:storeAt K1 B 3 [.int .i64 x]=some K1) :
 NC Tryz.prog 132 J6d (WZ (fun s=>s.df=[]∧s.rd=rd∧s.h=K1∧s.fr 12=some u'∧s.fr 0=fr 0∧s.fr 1=fr 1∧s.fr 4=fr 4∧s.fr 7=fr 7∧s.fr 9=fr 9∧s.fr 10=fr 10) (fun _ _=>False)) ⟨fr,[],K0,rd⟩:=by
 refine NC.regs (l:=L3a) (by kernel_rfl) (by kernel_rfl) (by kernel_rfl) rfl (by kernel_rfl) (by kernel_rfl) (fun a b=>b=a∨b=K1) (fun _=>.inl rfl) (fun a b c h g=>?_) (fun i h v=>(i=7→h=K1)∧(i≠7→v=([u,.pointer (some ⟨id,o,none⟩),.int .u8 x,.int .i64 x,u,u',.pointer (some ⟨B,3,none⟩),undef,u']:List Value).getD i undef)) ?_ ?_
 ·rcases g with rfl | rfl
  ·exact h
  ·exact .inr rfl
 case refine_3=>
  rintro ⟨fr1,df1,K,rd1⟩ g hF
  obtain ⟨_,q7,_⟩:=(hF 7 (by decide)).fact
  have f8:=(hF 8 (by decide)).eq (d:=12) (c:=u') rfl fun _ _ e=>e.2 (by decide)
  exact ⟨g.df,g.rd,q7 rfl,f8,g.fr 0 (by kernel_rfl),g.fr 1 (by kernel_rfl),g.fr 4 (by kernel_rfl),g.fr 7 (by kernel_rfl),g.fr 9 (by kernel_rfl),g.fr 10 (by kernel_rfl)⟩
 intro i oo s ho g hpre hown hF
 have F9:s.fr 9=some (.pointer (some ⟨B,0,none⟩)):=(g.fr 9 (by kernel_rfl)).trans f9
 have hi':i<9:=(List.getElem?_eq_some_iff.1 ho).1
 have hh:s.h=K0∨s.h=K1:=g.ext
 have hc:Zu s.h id o=some (.int .u8 x):=by rcases hh with e | e <;> rw[e] <;> assumption
 have hs:XZ Tryz.prog 22 u (some (.int .i64 1)) none none s.h=some u':=by rcases hh with e | e <;> rw[e] <;> assumption
 match i,hi' with
 | 0,_=>
   simp only[L3a,List.getElem?_cons_zero,List.getElem?_cons_succ,Option.some.injEq]at ho
   subst ho
   have F12:s.fr 12=some u:=(hpre 8 12 (by kernel_rfl) (by kernel_rfl)).trans f12
   exact J0a (v:=u) (fun _=>.inl rfl) vz (vy F12) ⟨fun e=>absurd e (by decide),fun _=>rfl⟩
 | 1,_=>
   simp only[L3a,List.getElem?_cons_zero,List.getElem?_cons_succ,Option.some.injEq]at ho
   subst ho
   have f0:s.fr 75=some (u):=(hF 0 (by kernel_rfl)).eq rfl fun _ _ e=>e.2 (by decide)
   exact J0a (v:=.pointer (some ⟨id,o,none⟩)) (fun _=>.inl rfl) vz (by simp -implicitDefEqProofs (disch:=first|omega|simp only[go_sem]) only[go_sem,true_and,f0,h1]) ⟨fun e=>absurd e (by decide),fun _=>rfl⟩
 | 2,_=>
   simp only[L3a,List.getElem?_cons_zero,List.getElem?_cons_succ,Option.some.injEq]at ho
   subst ho
   have f1:s.fr 76=some (.pointer (some ⟨id,o,none⟩)):=(hF 1 (by kernel_rfl)).eq rfl fun _ _ e=>e.2 (by decide)
   exact J0a (v:=.int .u8 x) (fun _=>.inl rfl) vz (by simp -implicitDefEqProofs (disch:=first|omega|simp only[go_sem]) only[go_sem,true_and,f1,hc]) ⟨fun e=>absurd e (by decide),fun _=>rfl⟩
 | 3,_=>
   simp only[L3a,List.getElem?_cons_zero,List.getElem?_cons_succ,Option.some.injEq]at ho
   subst ho
   have f2:s.fr 77=some (.int .u8 x):=(hF 2 (by kernel_rfl)).eq rfl fun _ _ e=>e.2 (by decide)
   exact J0a (v:=.int .i64 x) (fun _=>.inl rfl) vz (by simp -implicitDefEqProofs (disch:=first|omega|simp only[go_sem]) only[go_sem,true_and,f2,hx]) ⟨fun e=>absurd e (by decide),fun _=>rfl⟩
 | 4,_=>
   simp only[L3a,List.getElem?_cons_zero,List.getElem?_cons_succ,Option.some.injEq]at ho
   subst ho
   have F12:s.fr 12=some u:=(hpre 8 12 (by kernel_rfl) (by kernel_rfl)).trans f12
   exact J0a (v:=u) (fun _=>.inl rfl) vz (vy F12) ⟨fun e=>absurd e (by decide),fun _=>rfl⟩
 | 5,_=>
   simp only[L3a,List.getElem?_cons_zero,List.getElem?_cons_succ,Option.some.injEq]at ho
   subst ho
   have f4:s.fr 79=some (u):=(hF 4 (by kernel_rfl)).eq rfl fun _ _ e=>e.2 (by decide)
   exact J0a (v:=u') (fun _=>.inl rfl) vz (by simp -implicitDefEqProofs (disch:=first|omega|simp only[go_sem]) only[go_sem,true_and,f4,hs]) ⟨fun e=>absurd e (by decide),fun _=>rfl⟩
 | 6,_=>
   simp only[L3a,List.getElem?_cons_zero,List.getElem?_cons_succ,Option.some.injEq]at ho
   subst ho
   exact J0a (v:=.pointer (some ⟨B,3,none⟩)) (fun _=>.inl rfl) vz (vy F9) ⟨fun e=>absurd e (by decide),fun _=>rfl⟩
 | 7,_=>
   simp only[L3a,List.getElem?_cons_zero,List.getElem?_cons_succ,Option.some.injEq]at ho
   subst ho
   have f3:s.fr 78=some (.int .i64 x):=(hF 3 (by kernel_rfl)).eq rfl fun _ _ e=>e.2 (by decide)
   have f6:s.fr 81=some (.pointer (some ⟨B,3,none⟩)):=(hF 6 (by kernel_rfl)).eq rfl fun _ _ e=>e.2 (by decide)
   have hst:storeAt s.h B 3 [.int .i64 x]=some K1:=by rcases hh with e | e <;> rw[e] <;> assumption
   exact M2b (h':=K1) vz (by simp -implicitDefEqProofs (disch:=first|omega|simp only[go_sem]) only[go_sem,true_and,f3,f6,hst]) (.inr rfl) ⟨fun _=>rfl,fun e=>absurd rfl e⟩ fun j u hj hv=>⟨fun _=>rfl,hv.2⟩
 | 8,_=>
   simp only[L3a,List.getElem?_cons_zero,List.getElem?_cons_succ,Option.some.injEq]at ho
   subst ho
   have f5:s.fr 80=some (u'):=(hF 5 (by kernel_rfl)).eq rfl fun _ _ e=>e.2 (by decide)
   exact J0a (v:=u') (fun _=>.inl rfl) vz (vy f5) ⟨fun e=>absurd e (by decide),fun _=>rfl⟩
theorem i7d {n:Nat} (hn:n<28):o1b n=Xv n∧(o4a (formL.getD n 0) 1=0↔Xq n=false)∧(o4a (formL.getD n 0) 2=0↔Wq n=false)∧(o4a (formL.getD n 0) 4=0↔V0a n≠1)∧(o4a (formL.getD n 0) 8=0↔n≠1)∧(o4a (formL.getD n 0) 16=0↔¬ (V0a n=2∧n≠1))∧(n=1→V0a n=2)∧Xv n≠0:=by
 have:∀ n:Nat,n<28→o1b n=Xv n∧(o4a (formL.getD n 0) 1=0↔Xq n=false)∧(o4a (formL.getD n 0) 2=0↔Wq n=false)∧(o4a (formL.getD n 0) 4=0↔V0a n≠1)∧(o4a (formL.getD n 0) 8=0↔n≠1)∧(o4a (formL.getD n 0) 16=0↔¬ (V0a n=2∧n≠1))∧(n=1→V0a n=2)∧Xv n≠0:=by decide
 exact this n hn
theorem U2c {n:Int} (hn:28≤n):Xv n=0:=by
 unfold Xv
 repeat' split
 all_goals omega
theorem C1c {l:List Int} {i:Nat} (hb:∀ j,0≤l.getD j 0):N0b (Xx l i)=decide (o1a (Xx l i)=0)∧(o1a (Xx l i)≠0→o1a (Xx l i)=132):=by
 have h1:=hb (i+1)
 have h2:=hb (i+1+if Xq (l.getD i 0) then 1 else 0)
 have e1:(Xx l i).a=if Xq (l.getD i 0) then l.getD (i+1) 0 else 0:=rfl
 have e2:(Xx l i).b=if Wq (l.getD i 0) then l.getD (i+1+if Xq (l.getD i 0) then 1 else 0) 0 else 0:=rfl
 have e3:(Xx l i).op=l.getD i 0:=rfl
 generalize Xx l i=x at e1 e2 e3 ⊢
 generalize l.getD (i+1+if Xq (l.getD i 0) then 1 else 0) 0=yb at h2 e2
 generalize l.getD (i+1) 0=ya at h1 e1
 rw[← e3]at e1 e2
 unfold N0b o1a
 cases hf:Xq x.op <;> cases ht:Wq x.op <;> rw[hf]at e1 <;> rw[ht]at e2 <;> simp only[Bool.false_eq_true,if_true,if_false]at e1 e2
 all_goals
  rw[e1,e2]
  constructor
  ·by_cases p19:x.op=19 <;> by_cases p8:x.imm=8 <;> by_cases p16:x.imm=16 <;> by_cases p32:x.imm=32 <;> by_cases q1:ya<8 <;> by_cases q2:yb<8 <;> simp[p19,p8,p16,p32,q1,q2,h1,h2,Int.not_lt.1,Int.not_le.2,Int.not_lt.2] <;> omega
  ·intro h
   split at h
   ·rw[if_pos (by assumption)]
   ·rw[if_neg (by assumption)]
    split at h
    ·rw[if_pos (by assumption)]
    ·exact absurd rfl h
theorem P1e {x y:Int} (hx:0≤x) (hx2:x≤255) (hy:0≤y) (hy2:y≤255) :
 IntKind.u16.wrap (((BitVec.ofInt 16 x ||| BitVec.ofInt 16 (IntKind.u16.wrap (y*256))).toNat:Nat):Int)=x+256*y:=by
 obtain ⟨m,rfl⟩:∃ m:Nat,y=m:=⟨y.toNat,by omega⟩
 obtain ⟨n,rfl⟩:∃ n:Nat,x=n:=⟨x.toNat,by omega⟩
 have h1:IntKind.u16.wrap ((m:Int)*256)=((m*256:Nat):Int):=by rw[n7a (Z8a.2 ⟨by omega,by omega⟩)];omega
 rw[h1]
 have h3:(BitVec.ofInt 16 ((m*256:Nat):Int)).toNat=m*256:=by simp;omega
 have h4:(BitVec.ofInt 16 (n:Int)).toNat=n:=by simp;omega
 rw[BitVec.toNat_or,h3,h4]
 have h5:n ||| m*256=m*256+n:=by
  rw[Nat.or_comm,show m*256=m <<< 8 by rw[Nat.shiftLeft_eq]]
  exact (Nat.shiftLeft_add_eq_or_of_lt (by omega) m).symm
 rw[h5,n7a (Z8a.2 ⟨by omega,by omega⟩)]
 omega
theorem Y5c {n:Int} (h0:0≤n) (h1:n≤65535):IntKind.i16.wrap n=if 32768≤n then n - 65536 else n:=by
 have e:n % 2 ^ 16=n:=by omega
 simp only[IntKind.wrap,IntKind.signed,IntKind.bits,e]
 by_cases h2:32768≤n
 ·rw[if_pos h2,if_pos (by simpa using h2)]
  rfl
 ·rw[if_neg h2,if_neg (by simpa using h2)]
def orH (a b:Int):Int:=IntKind.u16.wrap (BitVec.ofInt IntKind.u16.bits a ||| BitVec.ofInt IntKind.u16.bits b).toNat
theorem f7b {P:Program} {t:TypeId} {ox oy:Operand} {a b:Int} {h:DHeap}:Yz P .or t ox oy (.int .u16 a) (.int .u16 b) h=.ok (.value (.int .u16 (orH a b))) h:=n0c
theorem g4b {P:Program} {t:TypeId} {ox oy:Operand} {a:Int} {h:DHeap}:Yz P .shl t ox oy (.int .u16 a) (.int .u64 8) h=.ok (.value (.int .u16 (IntKind.u16.wrap (a*256)))) h:=E1b (by decide)
theorem r6d {x y:Int} (hx:0≤x) (hx2:x≤255) (hy:0≤y) (hy2:y≤255):orH x (IntKind.u16.wrap (y*256))=x+256*y:=P1e hx hx2 hy hy2
theorem n3c {P:Program} {nt id:Nat} {x y:Code} {K:St→Prop} {Q:Zk→St→Prop} {s:St} {t:Bool} (M:St→Prop) (h1:t=true→xs P nt x (Q0a id (WZ M Q)) s) (h2:t=false→xs P nt y (Q0a id (WZ M Q)) s) (h3:∀ s',M s'→K s') :
 XIf P nt x y (Q0a id (WZ K Q)) s (some (.bool t)):=⟨fun ht=>W7a M (h1 ht) h3,fun ht=>W7a M (h2 ht) h3⟩
def OnE (B:Nat) (H:DHeap) (i:Nat) (op:Int) (x:Instr) (s:St):Prop:=
 s.df=[]∧s.rd=none∧s.fr 1=some (.int .i64 (i:Nat))∧s.fr 4=some (.pointer (some ⟨B,0,none⟩))∧s.fr 7=some (.int .i64 (Xv op))∧s.fr 9=some (.pointer (some ⟨H.next,0,none⟩))∧s.h=H.push (.row (fInstr.enc x) 0 false)
def OnM (B:Nat) (H:DHeap) (v:Value) (i:Nat) (op f a b imm:Int) (u:Value) (s:St):Prop:=
 s.df=[]∧s.rd=none∧s.fr 0=some v∧s.fr 1=some (.int .i64 (i:Nat))∧s.fr 4=some (.pointer (some ⟨B,0,none⟩))∧s.fr 7=some (.int .i64 (Xv op))∧s.fr 9=some (.pointer (some ⟨H.next,0,none⟩))∧s.fr 10=some (.int .i64 f)∧s.fr 12=some u∧s.h=H.push (.row (fInstr.enc ⟨(i:Nat),op,a,b,imm⟩) 0 false)
theorem z2b {l:List Int} {j k m:Nat} (hm:k+j<m):((l.take m).drop k).getD j 0=l.getD (k+j) 0:=by
 simp[List.getD_eq_getElem?_getD,List.getElem?_take,hm]
set_option maxHeartbeats 2000000 in
theorem p0e {h:DHeap} {v:Value} {l:List Int} {i:Nat} (hb:Arg fU8.rep h v l) (hl:l.length≤4294967296) (hi:i≤4294967296) :
 DC Tryz.prog 132 [v,.int .i64 (i:Nat)] h (.ret (.tuple #[XJ (XY l i).1,.int .i64 (XY l i).2.1,.int .i64 (XY l i).2.2])) h:=by
 refine Ct.pure (Q5d (by simp) ?_) S7b
 obtain ⟨H,hH⟩:∃ H,H=h.push (.row [.int .i64 0,.int .i64 0,.int .i64 0,.int .i64 0,.int .i64 0] 0 false):=⟨_,rfl⟩
 have hE:Ext h H:=by rw[hH];exact Ext.push1 _ _
 have g:H.get h.next=some (.row (fInstr.enc L0a) 0 false):=by rw[hH];exact Zz _ _
 have hHn:H.next=h.next+1:=by rw[hH];rfl
 have el:∀ K,dLen Tryz.prog #[22] v K=some (.int .i64 (l.length:Nat)):=hb.lens (P:=Tryz.prog) (ts:=#[22]) (t:=22) rfl d6a
 have hz:storeAt H h.next 0 [.int .i64 0,.int .i64 0,.int .i64 0,.int .i64 0,.int .i64 0]=some H:=by
  rw[ZJ g (Nat.le_of_ble_eq_true rfl) rfl]
  exact congrArg some (n3a g)
 have hneg:¬ ((i:Nat):Int)<0:=by omega
 by_cases h0:((l.length:Nat):Int)≤(i:Nat)
 ·have h0':=eq_true h0
  simp -implicitDefEqProofs (disch:=first|omega|simp only[go_sem]) only[go_sem,true_and,S3c,← hH,hneg,h0',el,Zj,ZY,w2a,hz]
  refine t1a (d5a (n:=0) (e:=130) vz vz vz g) ⟨?_,hE⟩
  rw[XY,if_pos (by omega)]
 have hil:i<l.length:=by omega
 have hbyte:∀ j,0≤l.getD j 0∧l.getD j 0≤255:=fun j=>by
  by_cases hj:j<l.length
  ·obtain ⟨_,_,_,_,a,b⟩:=b2a hb hj
   exact ⟨a,b⟩
  ·rw[List.getD_eq_getElem?_getD,List.getElem?_eq_none (by omega)]
   exact ⟨Int.le_refl _,by decide⟩
 obtain ⟨id0,o0,ia0,lb0,r0,r1⟩:=b2a hb hil
 obtain ⟨opn,hopn⟩:∃ n:Nat,l.getD i 0=(n:Int):=⟨(l.getD i 0).toNat,by omega⟩
 rw[hopn]at lb0 r0 r1
 have hw0:IntKind.i64.wrap (opn:Int)=opn:=ZQ (by omega) (by omega)
 simp -implicitDefEqProofs (disch:=first|omega|simp only[go_sem]) only[go_sem,true_and,S3c,← hH,hneg,h0,el,Zj,ZY,ia0,lb0 H hE,hw0]
 refine YV b7d ?_
 have hwl:IntKind.i64.wrap ((l.length:Int) - (i:Nat))=(l.length:Int) - (i:Nat):=ZQ (by omega) (by omega)
 by_cases h1:opn<28
 case neg=>
  have h1':=decide_eq_false h1
  simp -implicitDefEqProofs (disch:=first|omega|simp only[go_sem]) only[go_sem,true_and,h1',Zj,ZY,w2a,hz]
  refine t1a (d5a (n:=0) (e:=130) vz vz vz g) ⟨?_,hE⟩
  rw[XY,if_neg (by omega),hopn,if_pos (.inl (U2c (by omega)))]
 have h1':=decide_eq_true h1
 obtain ⟨t1,t2,t3,t4,t5,t6,t7,t8⟩:=i7d h1
 rw[t1]
 by_cases h2:(l.length:Int) - (i:Nat)<Xv opn
 ·have h2':=eq_true h2
  simp -implicitDefEqProofs (disch:=first|omega|simp only[go_sem]) only[go_sem,true_and,h1',hwl,h2',el,Zj,ZY,w2a,hz]
  refine t1a (d5a (n:=0) (e:=130) vz vz vz g) ⟨?_,hE⟩
  rw[XY,if_neg (by omega),hopn,if_pos (.inr h2)]
 obtain ⟨f,hf⟩:∃ f,formL.getD opn 0=f:=⟨_,rfl⟩
 rw[hf]at t2 t3 t4 t5 t6
 have hs:=o6a opn
 obtain ⟨w1,w2,w3,w4⟩:=O7a t8
 have hT:XY l i=if o1a (Xx l i)=0 then (Xx l i,i+Xv opn,0) else (L0a,0,o1a (Xx l i)):=by
  rw[XY,if_neg (by omega),hopn,if_neg (by omega)]
 have hsz:Xv opn=1+(if Xq opn then 1 else 0)+(if Wq opn then 1 else 0)+V0a opn:=by unfold V0a;omega
 have hst5:∀ a b c d e:Int,storeAt (H.push (.row [.int .i64 0,.int .i64 0,.int .i64 0,.int .i64 0,.int .i64 0] 0 false)) H.next 0 [.int .i64 a,.int .i64 b,.int .i64 c,.int .i64 d,.int .i64 e]=some (H.push (.row (fInstr.enc ⟨a,b,c,d,e⟩) 0 false)):=fun a b c d e=>Q6a rfl
 have cI:∀ x,Zu (H.push (.row (fInstr.enc x) 0 false)) H.next 1=some (.int .i64 x.op):=fun x=>Zy (Zz _ _)
 have lc:∀ x,Zx (H.push (.row (fInstr.enc x) 0 false)) H.next 0 5=some (XJ x):=fun x=>by rw[Zw (Zz _ _) (Nat.le_of_ble_eq_true rfl)];rfl
 have hEP:∀ o,Ext h (H.push o):=fun o=>hE.push o
 have hw1:IntKind.i64.wrap ((i:Int)+1)=((i+1:Nat):Int):=by rw[ZQ (by omega) (by omega)];omega
 obtain ⟨m,hm⟩:∃ m:Nat,(m:Int)=i+Xv opn:=⟨(i+Xv opn).toNat,by omega⟩
 have hw2:IntKind.i64.wrap ((i:Int)+Xv opn)=(m:Nat):=by rw[ZQ (by omega) (by omega)];omega
 obtain ⟨u0,hu0,hr0⟩:=R1d hb (i:=i+1) (j:=m) (by omega) (by omega)
 simp -implicitDefEqProofs (disch:=first|omega|simp only[go_sem]) only[go_sem,true_and,h1',hwl,h2,el,Zj,ZY,ia0,lb0 H hE,hw0,i2b,hst5,cI]
 refine YV l1c ?_
 rw[hf]
 simp -implicitDefEqProofs (disch:=first|omega|simp only[go_sem]) only[go_sem,true_and,hw1,hw2,hu0 _ (hEP _),↓L4a]
 have hd:∀ (u:Value) (k:Nat),Arg fU8.rep h u ((l.take m).drop k)→k<m→∃ id o u',Yj Tryz.prog 22 u (.int .i64 0)=some (.pointer (some ⟨id,o,none⟩))∧(∀ K,Ext h K→Zu K id o=some (.int .u8 (l.getD k 0)))∧(∀ K,Ext h K→XZ Tryz.prog 22 u (some (.int .i64 1)) none none K=some u')∧Arg fU8.rep h u' ((l.take m).drop (k+1)):=by
  intro u k hu hk
  have hlen:((l.take m).drop k).length=m - k:=by rw[List.length_drop,List.length_take,Nat.min_eq_left (by omega)]
  obtain ⟨id,o,e1,e2,_,_⟩:=b2a hu (i:=0) (by omega)
  obtain ⟨u',e3,e4⟩:=Y1d hu (k:=1) (by omega)
  rw[z2b (by omega)]at e2
  rw[List.drop_drop]at e4
  exact ⟨id,o,u',e1,e2,e3,e4⟩
 have hwx:∀ j,IntKind.i64.wrap (l.getD j 0)=l.getD j 0:=fun j=>by
  have:=hbyte j
  exact ZQ (by omega) (by omega)
 have hsp:∀ a b,(H.push (.row (fInstr.enc a) 0 false)).set H.next (.row (fInstr.enc b) 0 false)=H.push (.row (fInstr.enc b) 0 false):=fun a b=>u0a _ _ _
 have sA:∀ a b n c d e,storeAt (H.push (.row (fInstr.enc ⟨a,b,n,c,d⟩) 0 false)) H.next 2 [.int .i64 e]=some (H.push (.row (fInstr.enc ⟨a,b,e,c,d⟩) 0 false)):=fun a b n c d e=>by
  rw[ZJ (Zz _ _) (Nat.le_of_ble_eq_true rfl) rfl]
  exact congrArg some (u0a _ _ _)
 have sB:∀ a b n c d e,storeAt (H.push (.row (fInstr.enc ⟨a,b,n,c,d⟩) 0 false)) H.next 3 [.int .i64 e]=some (H.push (.row (fInstr.enc ⟨a,b,n,e,d⟩) 0 false)):=fun a b n c d e=>by
  rw[ZJ (Zz _ _) (Nat.le_of_ble_eq_true rfl) rfl]
  exact congrArg some (u0a _ _ _)
 have sC:∀ a b n c d e,storeAt (H.push (.row (fInstr.enc ⟨a,b,n,c,d⟩) 0 false)) H.next 4 [.int .i64 e]=some (H.push (.row (fInstr.enc ⟨a,b,n,c,e⟩) 0 false)):=fun a b n c d e=>by
  rw[ZJ (Zz _ _) (Nat.le_of_ble_eq_true rfl) rfl]
  exact congrArg some (u0a _ _ _)
 obtain ⟨k2,hk2⟩:∃ k2,k2=i+1+if Xq opn then 1 else 0:=⟨_,rfl⟩
 obtain ⟨xa,hxa⟩:∃ xa,xa=if Xq opn then l.getD (i+1) 0 else 0:=⟨_,rfl⟩
 have hk2l:(k2:Int)+(if Wq opn then 1 else 0)+V0a opn=m:=by
  rw[hm,hk2,hsz]
  split <;> simp <;> omega
 refine R6a (fun s=>∃ u,OnM h.next H v i opn f xa 0 0 u s∧Arg fU8.rep h u ((l.take m).drop k2)) (fun ht=>?_) (fun ht=>?_) ?_
 ·have hf1:Xq opn=true:=by
   cases hh:Xq opn with
   | true=>rfl
   | false=>rw[decide_eq_true (t2.2 hh)]at ht;cases ht
  rw[hf1]at hk2 hxa
  simp only[if_true]at hk2 hxa
  obtain ⟨id1,o1,u1,e1,e2,e3,e4⟩:=hd u0 (i+1) hr0 (by
   rw[hf1]at hsz
   simp only[if_true]at hsz
   have:0≤(if Wq opn then (1:Int) else 0):=by split <;> omega
   omega)
  rw[← hxa]at e2
  refine NC.mono (C6b (K1:=H.push (.row (fInstr.enc ⟨(i:Nat),opn,xa,0,0⟩) 0 false)) (x:=xa) (B:=H.next) vz vz e1 (e2 _ (hEP _)) (e2 _ (hEP _)) (by rw[hxa];exact hwx _) (e3 _ (hEP _)) (e3 _ (hEP _)) (sA _ _ _ _ _ _) (sA _ _ _ _ _ _)) ?_
  rintro e ⟨fr1,df1,hh1,rd1⟩ hM
  cases e <;> try exact hM.elim
  obtain ⟨rfl,rfl,rfl,q12,q0,q1,q4,q7,q9,q10⟩:=hM
  refine ⟨u1,⟨rfl,rfl,q0.trans vz,q1.trans vz,q4.trans vz,q7.trans vz,q9.trans vz,q10.trans vz,q12,rfl⟩,?_⟩
  rw[hk2]
  exact e4
 ·have hf1:Xq opn=false:=by
   cases hh:Xq opn with
   | false=>rfl
   | true=>rw[decide_eq_false (fun h=>by rw[t2.1 h]at hh;cases hh)]at ht;cases ht
  rw[hf1]at hk2 hxa
  simp only[Bool.false_eq_true,if_false,Nat.add_zero]at hk2 hxa
  simp -implicitDefEqProofs (disch:=first|omega|simp only[go_sem]) only[go_sem,true_and]
  refine ⟨u0,⟨rfl,rfl,vz,vz,vz,vz,vz,vz,vz,by rw[hxa]⟩,?_⟩
  rw[hk2]
  exact hr0
 rintro ⟨fr,df,K,rd⟩ ⟨u1,⟨rfl,rfl,f0,f1,f4,f7,f9,f10,f12,hK⟩,hr1⟩
 simp only at f0 f1 f4 f7 f9 f10 f12 hK
 subst hK
 obtain ⟨k3,hk3⟩:∃ k3,k3=k2+if Wq opn then 1 else 0:=⟨_,rfl⟩
 obtain ⟨xb,hxb⟩:∃ xb,xb=if Wq opn then l.getD k2 0 else 0:=⟨_,rfl⟩
 have hk3l:(k3:Int)+V0a opn=m:=by
  rw[← hk2l,hk3]
  split <;> simp
 simp -implicitDefEqProofs (disch:=first|omega|simp only[go_sem]) only[go_sem,true_and,f10,↓L4a]
 refine R6a (fun s=>∃ u,OnM h.next H v i opn f xa xb 0 u s∧Arg fU8.rep h u ((l.take m).drop k3)) (fun ht=>?_) (fun ht=>?_) ?_
 ·have hf1:Wq opn=true:=by
   cases hh:Wq opn with
   | true=>rfl
   | false=>rw[decide_eq_true (t3.2 hh)]at ht;cases ht
  rw[hf1]at hk3 hxb hk2l
  simp only[if_true]at hk3 hxb hk2l
  obtain ⟨id1,o1,u2,e1,e2,e3,e4⟩:=hd u1 k2 hr1 (by omega)
  rw[← hxb]at e2
  refine NC.mono (D6b (K1:=H.push (.row (fInstr.enc ⟨(i:Nat),opn,xa,xb,0⟩) 0 false)) (x:=xb) (B:=H.next) (vy f9) (vy f12) e1 (e2 _ (hEP _)) (e2 _ (hEP _)) (by rw[hxb];exact hwx _) (e3 _ (hEP _)) (e3 _ (hEP _)) (sB _ _ _ _ _ _) (sB _ _ _ _ _ _)) ?_
  rintro e ⟨fr1,df1,hh1,rd1⟩ hM
  cases e <;> try exact hM.elim
  obtain ⟨rfl,rfl,rfl,q12,q0,q1,q4,q7,q9,q10⟩:=hM
  refine ⟨u2,⟨rfl,rfl,q0.trans (vy f0),q1.trans (vy f1),q4.trans (vy f4),q7.trans (vy f7),q9.trans (vy f9),q10.trans (vy f10),q12,rfl⟩,?_⟩
  rw[hk3]
  exact e4
 ·have hf1:Wq opn=false:=by
   cases hh:Wq opn with
   | false=>rfl
   | true=>rw[decide_eq_false (fun h=>by rw[t3.1 h]at hh;cases hh)]at ht;cases ht
  rw[hf1]at hk3 hxb
  simp only[Bool.false_eq_true,if_false,Nat.add_zero]at hk3 hxb
  simp -implicitDefEqProofs (disch:=first|omega|simp only[go_sem]) only[go_sem,true_and]
  refine ⟨u1,⟨rfl,rfl,(vy f0),(vy f1),(vy f4),(vy f7),(vy f9),(vy f10),(vy f12),by rw[hxb]⟩,?_⟩
  rw[hk3]
  exact hr1
 clear f0 f1 f4 f7 f9 f10 f12 fr
 rintro ⟨fr,df,K,rd⟩ ⟨u2,⟨rfl,rfl,f0,f1,f4,f7,f9,f10,f12,hK⟩,hr2⟩
 simp only at f0 f1 f4 f7 f9 f10 f12 hK
 subst hK
 simp -implicitDefEqProofs (disch:=first|omega|simp only[go_sem]) only[go_sem,true_and,f10,↓L4a]
 obtain ⟨w,hw⟩:∃ w,V0a opn=w:=⟨_,rfl⟩
 rw[hw]at w1 w2 hk3l t4 t6 t7
 obtain ⟨x,hx⟩:∃ x,l.getD k3 0=x:=⟨_,rfl⟩
 obtain ⟨y,hy⟩:∃ y,l.getD (k3+1) 0=y:=⟨_,rfl⟩
 have hone:Xx l i=⟨(i:Nat),opn,xa,xb,d3a opn w x y⟩:=by
  unfold Xx
  simp only[hopn,← hxa,← hk2,← hxb,← hk3,hw,hx,hy]
 have bx:=hbyte k3
 have b_y:=hbyte (k3+1)
 rw[hx]at bx
 rw[hy]at b_y
 have hwx1:IntKind.i64.wrap x=x:=ZQ (by omega) (by omega)
 have hux:IntKind.u16.wrap x=x:=n7a (Z8a.2 ⟨by omega,by omega⟩)
 have huy:IntKind.u16.wrap y=y:=n7a (Z8a.2 ⟨by omega,by omega⟩)
 have hor:=r6d bx.1 bx.2 b_y.1 b_y.2
 have two:w=2→∃ id0 o0 id1 o1,Yj Tryz.prog 22 u2 (.int .i64 0)=some (.pointer (some ⟨id0,o0,none⟩))∧Yj Tryz.prog 22 u2 (.int .i64 1)=some (.pointer (some ⟨id1,o1,none⟩))∧(∀ K,Ext h K→Zu K id0 o0=some (.int .u8 x))∧∀ K,Ext h K→Zu K id1 o1=some (.int .u8 y):=fun hw2=>by
  have hlen:((l.take m).drop k3).length=m - k3:=by rw[List.length_drop,List.length_take,Nat.min_eq_left (by omega)]
  obtain ⟨id0,o0,e1,e2,_,_⟩:=b2a hr2 (i:=0) (by omega)
  obtain ⟨id1,o1,e3,e4,_,_⟩:=b2a hr2 (i:=1) (by omega)
  rw[z2b (by omega)]at e2 e4
  rw[Nat.add_zero,hx]at e2
  rw[hy]at e4
  exact ⟨id0,o0,id1,o1,e1,e3,e2,e4⟩
 refine n3c (OnE h.next H i opn (Xx l i)) (fun ht=>?_) (fun ht=>?_) ?_
 ·have hw1':w=1:=by
   cases Int.decEq w 1 with
   | isTrue e=>exact e
   | isFalse e=>rw[decide_eq_true (t4.2 e)]at ht;cases ht
  obtain ⟨id1,o1,u3,e1,e2,_,_⟩:=hd u2 k3 hr2 (by omega)
  rw[hx]at e2
  simp -implicitDefEqProofs (disch:=first|omega|simp only[go_sem]) only[go_sem,true_and,f9,f12,e1,e2 _ (hEP _),hwx1,sC]
  refine ⟨rfl,rfl,(vy f1),(vy f4),(vy f7),(vy f9),?_⟩
  rw[hone]
  rw[d3a,if_neg (by omega),if_pos (by omega)]
 ·have hw1':w≠1:=fun e=>by
   rw[decide_eq_false (fun h=>t4.1 h e)]at ht
   cases ht
  simp -implicitDefEqProofs (disch:=first|omega|simp only[go_sem]) only[go_sem,true_and,f10,↓L4a]
  refine A0a (fun ht=>?_) (fun ht=>?_)
  ·have ho1:opn=1:=by
    cases Nat.decEq opn 1 with
    | isTrue e=>exact e
    | isFalse e=>rw[decide_eq_true (t5.2 e)]at ht;cases ht
   have hw2':=t7 ho1
   obtain ⟨id0',o0',id1,o1,e1,e2,e3,e4⟩:=two hw2'
   have hsg:=Y5c (n:=x+256*y) (by omega) (by omega)
   obtain ⟨z,hz⟩:∃ z,IntKind.i16.wrap (x+256*y)=z:=⟨_,rfl⟩
   have hzz:IntKind.i64.wrap z=z:=by
    rw[hz]at hsg
    split at hsg <;> exact ZQ (by omega) (by omega)
   have himm:d3a opn w x y=z:=by
    rw[← hz,hsg]
    unfold d3a
    rw[if_pos hw2',ho1]
    by_cases hb:32768≤x+256*y
    ·simp[hb]
    ·simp[hb]
   refine D4c ?_
   simp -implicitDefEqProofs (disch:=first|omega|simp only[go_sem]) only[go_sem,true_and,l132_2,f9,f12,e1,e2,e3 _ (hEP _),e4 _ (hEP _),hux,huy,g4b,↓f7b,hor,hz,hzz,sC]
   refine ⟨rfl,rfl,(vy f1),(vy f4),(vy f7),(vy f9),?_⟩
   rw[hone,himm]
  ·have ho1:opn≠1:=fun e=>by
    rw[decide_eq_false (fun h=>t5.1 h e)]at ht
    cases ht
   simp -implicitDefEqProofs (disch:=first|omega|simp only[go_sem]) only[go_sem,true_and,f10,↓L4a]
   refine A0a (fun ht=>?_) (fun ht=>?_)
   ·have hw2':w=2:=by
     cases Int.decEq w 2 with
     | isTrue e=>exact e
     | isFalse e=>rw[decide_eq_true (t6.2 fun hh=>e hh.1)]at ht;cases ht
    obtain ⟨id0',o0',id1,o1,e1,e2,e3,e4⟩:=two hw2'
    have hzz:IntKind.i64.wrap (x+256*y)=x+256*y:=ZQ (by omega) (by omega)
    refine E4c ?_
    simp -implicitDefEqProofs (disch:=first|omega|simp only[go_sem]) only[go_sem,true_and,l132_3,f9,f12,e1,e2,e3 _ (hEP _),e4 _ (hEP _),hux,huy,g4b,↓f7b,hor,hzz,sC]
    refine ⟨rfl,rfl,(vy f1),(vy f4),(vy f7),(vy f9),?_⟩
    rw[hone]
    rw[d3a,if_pos hw2',if_neg (fun hh=>ho1 (by have:=hh.1;omega))]
   ·have hw2':w≠2:=fun e=>by
     rw[decide_eq_false (fun h=>t6.1 h ⟨e,ho1⟩)]at ht
     cases ht
    simp -implicitDefEqProofs (disch:=first|omega|simp only[go_sem]) only[go_sem,true_and]
    refine ⟨rfl,rfl,(vy f1),(vy f4),(vy f7),(vy f9),?_⟩
    rw[hone]
    rw[d3a,if_neg hw2',if_neg (by omega)]
 clear f0 f1 f4 f7 f9 f10 f12 fr
 rintro ⟨fr,df,K,rd⟩ ⟨rfl,rfl,f1,f4,f7,f9,hK⟩
 simp only at f1 f4 f7 f9 hK
 subst hK
 obtain ⟨hix,h132⟩:=C1c (l:=l) (i:=i) fun j=>(hbyte j).1
 simp -implicitDefEqProofs (disch:=first|omega|simp only[go_sem]) only[go_sem,true_and,f9,lc]
 refine YV A1d ?_
 rw[hix]
 have g':(H.push (.row (fInstr.enc (Xx l i)) 0 false)).get h.next=some (.row (fInstr.enc L0a) 0 false):=(ZU _ _ (by omega)).trans g
 have hst:∀ x:Instr,storeAt (H.push (.row (fInstr.enc (Xx l i)) 0 false)) h.next 0 [.int .i64 x.pos,.int .i64 x.op,.int .i64 x.a,.int .i64 x.b,.int .i64 x.imm]=some ((H.push (.row (fInstr.enc (Xx l i)) 0 false)).set h.next (.row (fInstr.enc x) 0 false)):=fun x=>l1a g' rfl rfl
 by_cases he:o1a (Xx l i)=0
 ·have he':=eq_true he
  simp -implicitDefEqProofs (disch:=first|omega|simp only[go_sem]) only[go_sem,true_and,he',f9,f1,f7,lc,hw2,f4,hst]
  refine t1a (d5a (x:=Xx l i) (n:=i+Xv opn) (e:=0) (vy f4) (by rw[← hm];simp -implicitDefEqProofs (disch:=first|omega|simp only[go_sem]) only[go_sem,true_and]) vz (ZX _ _)) ⟨?_,(hEP _).set (by omega)⟩
  rw[hT,if_pos he]
 ·simp -implicitDefEqProofs (disch:=first|omega|simp only[go_sem]) only[go_sem,true_and,he,w2a,f4,hst L0a]
  refine t1a (d5a (x:=L0a) (n:=0) (e:=132) (vy f4) vz vz (ZX _ _)) ⟨?_,(hEP _).set (by omega)⟩
  rw[hT,if_neg he,h132 he]
def WV (l:List Int):Nat→Nat→List Instr × Int
 | 0,_=>([],0)
 | n+1,i=>if l.length≤i then ([],0) else if (XY l i).2.2=0 then ((XY l i).1 :: (WV l n (XY l i).2.1.toNat).1,(WV l n (XY l i).2.1.toNat).2) else ([],(XY l i).2.2)
theorem q1a {l:List Int} {i:Nat} (h:(XY l i).2.2=0):(XY l i).1=Xx l i∧(XY l i).2.1=i+Xv (l.getD i 0)∧i<l.length∧1≤Xv (l.getD i 0)∧(i:Int)+Xv (l.getD i 0)≤l.length∧o1a (Xx l i)=0:=by
 unfold XY at h ⊢
 split at h
 ·exact absurd h (by decide)
 ·rename_i h1
  rw[if_neg h1]
  split at h
  ·exact absurd h (by decide)
  ·rename_i h2
   rw[if_neg h2]
   have:=o6a (l.getD i 0)
   split at h
   ·rename_i h3
    rw[if_pos h3]
    refine ⟨rfl,rfl,by omega,by omega,by omega,h3⟩
   ·rename_i h3
    exact absurd h h3
theorem P8a {l:List Int}:∀ {n m i:Nat},l.length - i≤n→l.length - i≤m→WV l n i=WV l m i
 | 0,0,i,_,_=>rfl
 | 0,m+1,i,h,_=>by simp only[WV];rw[if_pos (by omega)]
 | n+1,0,i,_,h=>by simp only[WV];rw[if_pos (by omega)]
 | n+1,m+1,i,h1,h2=>by
   simp only[WV]
   by_cases h:l.length≤i
   ·rw[if_pos h,if_pos h]
   ·rw[if_neg h,if_neg h]
    by_cases he:(XY l i).2.2=0
    ·obtain ⟨_,a,b,c,_⟩:=q1a he
     rw[if_pos he,if_pos he,P8a (n:=n) (m:=m) (by omega) (by omega)]
    ·rw[if_neg he,if_neg he]
def XX (l:List Int) (i:Nat):List Instr × Int:=WV l l.length i
theorem M5a {l:List Int} {i:Nat} (h:l.length≤i):XX l i=([],0):=by
 unfold XX
 rw[P8a (m:=0) (by omega) (by omega)]
 rfl
theorem h5a {l:List Int} {i:Nat} (h:i<l.length):XX l i=if (XY l i).2.2=0 then ((XY l i).1 :: (XX l (XY l i).2.1.toNat).1,(XX l (XY l i).2.1.toNat).2) else ([],(XY l i).2.2):=by
 unfold XX
 rw[P8a (m:=l.length+1) (by omega) (by omega)]
 conv=>lhs;rw[WV]
 rw[if_neg (by omega)]
theorem z3a {l:List Int}:∀ {n i:Nat},l.length - i≤n→(XX l i).1.length≤l.length - i
 | 0,i,h=>by rw[M5a (by omega)];simp
 | n+1,i,h=>by
   by_cases hi:i<l.length
   ·rw[h5a hi]
    split
    ·rename_i he
     obtain ⟨_,a,b,c,d⟩:=q1a he
     have:=z3a (l:=l) (n:=n) (i:=(XY l i).2.1.toNat) (by omega)
     simp only[List.length_cons]
     omega
    ·simp
   ·rw[M5a (by omega)];simp
theorem F7b {l:List Int} {i:Nat} (hl:l.length≤4294967296) (hb:∀ j,0≤l.getD j 0∧l.getD j 0≤255) (h:(XY l i).2.2=0):fInstr.ok (XY l i).1:=by
 obtain ⟨e,a,b,c,d⟩:=q1a h
 rw[e]
 have b0:=hb i
 have b1:=hb (i+1)
 have b2:=hb (i+1+if Xq (l.getD i 0) then 1 else 0)
 have b3:=hb (i+1+(if Xq (l.getD i 0) then 1 else 0)+if Wq (l.getD i 0) then 1 else 0)
 have b4:=hb (i+1+(if Xq (l.getD i 0) then 1 else 0)+(if Wq (l.getD i 0) then 1 else 0)+1)
 have k1:∀ n:Int,-65536≤n→n≤4294967296→inK .i64 n:=fun n h1 h2=>m0a.2 ⟨by omega,by omega⟩
 refine ⟨k1 _ ?_ ?_,k1 _ ?_ ?_,k1 _ ?_ ?_,k1 _ ?_ ?_,k1 _ ?_ ?_⟩
 all_goals simp only[Xx,d3a]
 all_goals first
  | omega
  | (repeat' split
     all_goals omega)
theorem p6a {h:DHeap} {x:Instr}:storeAt (h.push (.row [.int .i64 0,.int .i64 0,.int .i64 0,.int .i64 0,.int .i64 0] 0 false)) h.next 0 [.int .i64 x.pos,.int .i64 x.op,.int .i64 x.a,.int .i64 x.b,.int .i64 x.imm]=some (h.push (.row (fInstr.enc x) 0 false)):=Q6a rfl
theorem v7a {h:DHeap} {v:Value} {l:List Int} (hb:Arg fU8.rep h v l):∀ j,0≤l.getD j 0∧l.getD j 0≤255:=fun j=>by
 by_cases hj:j<l.length
 ·obtain ⟨_,_,_,_,a,b⟩:=b2a hb hj
  exact ⟨a,b⟩
 ·rw[List.getD_eq_getElem?_getD,List.getElem?_eq_none (by omega)]
  exact ⟨Int.le_refl _,by decide⟩
theorem N2c {h:DHeap} {v:Value} {l:List Int} (hb:Arg fU8.rep h v l) (hl:l.length≤1048576) :
 Ct Tryz.prog 116 [v] h fun r h1=>∃ w,r=.ret (.tuple #[w,.int .i64 (XX l 0).2])∧Made fInstr h h1 w (XX l 0).1:=by
 refine K5d (by simp) ?_
 have el:∀ K,dLen Tryz.prog #[22] v K=some (.int .i64 (l.length:Nat)):=hb.lens (P:=Tryz.prog) (ts:=#[22]) (t:=22) rfl d6a
 have hbl:=v7a hb
 simp -implicitDefEqProofs (disch:=first|omega|simp only[go_sem]) only[go_sem,true_and,m4d]
 refine Xu (σ:=Nat × List Instr) (by kernel_rfl) (fun a s=>s.df=[]∧s.fr 0=some v∧s.fr 5=some (.int .i64 (a.1:Nat))∧(∃ w,s.fr 4=some w∧Made fInstr h s.h w a.2)∧a.1≤l.length∧a.2.length≤a.1∧XX l 0=(a.2++(XX l a.1).1,(XX l a.1).2)) (fun a=>l.length - a.1) (0,[]) ?_ ?_
 ·simp -implicitDefEqProofs (disch:=first|omega|simp only[go_sem]) only[go_sem,true_and]
  exact ⟨rfl,⟨_,rfl,.nil _ (.refl h)⟩,Nat.zero_le _,Nat.le_refl _,trivial⟩
 ·rintro ⟨i,acc⟩ ⟨fr,df,K,rd⟩ K' hK' hX ⟨rfl,f0,f5,⟨w,f4,hm⟩,hi,hal,hw⟩
  simp only at f0 f5 f4 hm hi hal hw
  have hE:=hm.ext
  simp -implicitDefEqProofs (disch:=first|omega|simp only[go_sem]) only[go_sem,true_and,f0,f5,el]
  refine YX (fun hc1=>?_) (fun hc1=>?_)
  ·have hil:i<l.length:=by omega
   have hst:=h5a hil
   simp -implicitDefEqProofs (disch:=first|omega|simp only[go_sem]) only[go_sem,true_and,f0,f5]
   refine YV (E5b (hb.ext hE) (by omega) (by omega)) ?_
   obtain ⟨x,hx⟩:∃ x,(XY l i).1=x:=⟨_,rfl⟩
   obtain ⟨K1,hK1⟩:∃ K1,K1=K.push (.row (fInstr.enc x) 0 false):=⟨_,rfl⟩
   have g:K1.get K.next=some (.row (fInstr.enc x) 0 false):=by rw[hK1];exact Zz _ _
   have lc:Zx K1 K.next 0 5=some (XJ x):=by rw[Zw g (Nat.le_of_ble_eq_true rfl)];rfl
   have hm1:Made fInstr h K1 w acc:=hm.on (by rw[hK1];exact Ext.push1 _ _)
   rw[hx]
   have s5:=p6a (h:=K) (x:=x)
   rw[← hK1]at s5
   by_cases he:(XY l i).2.2=0
   ·have he':=eq_true he
    obtain ⟨e1,e2,_,e4,e5⟩:=q1a he
    have hok:=F7b (by omega) hbl he
    rw[hx]at hok
    rw[if_pos he,hx]at hst
    obtain ⟨nx,hnx⟩:∃ nx:Nat,(XY l i).2.1=nx:=⟨(XY l i).2.1.toNat,by omega⟩
    rw[hnx]at hst ⊢
    have hbs:∀ K:DHeap,b0a Tryz.prog 143 1 [(0,XJ x)] K=some (.slice (some ⟨K.next,0,none⟩) 1 1,K.push (.row (fInstr.enc x) 5 false)):=fun K=>F1b rfl
    obtain ⟨w2,h2,e6,m2⟩:=hm1.snoc X6b (y:=x) (cs:=fInstr.enc x) (z:=5) rfl rfl hok (by omega) (by decide)
    simp -implicitDefEqProofs (disch:=first|omega|simp only[go_sem]) only[go_sem,true_and,he',s5,f4,lc,hbs,e6]
    refine hK' (nx,acc++[x]) _ ?_ (by simp only;omega)
    refine ⟨by trivial,(vy f0),vz,⟨w2,vz,m2⟩,by simp only;omega,by simp;omega,?_⟩
    rw[hw,hst]
    simp
   ·rw[if_neg he]at hst
    simp -implicitDefEqProofs (disch:=first|omega|simp only[go_sem]) only[go_sem,true_and,he,s5,f4]
    refine hX _ _ (by simp) ?_
    simp -implicitDefEqProofs (disch:=first|omega|simp only[go_sem]) only[go_sem,true_and]
    refine ⟨_,rfl,w,?_,?_⟩
    ·rw[hw,hst]
    ·rw[hw,hst,List.append_nil];exact hm1
  ·refine hX _ _ (by simp) ?_
   simp -implicitDefEqProofs (disch:=first|omega|simp only[go_sem]) only[go_sem,true_and,f4]
   have:=M5a (l:=l) (i:=i) (by omega)
   refine ⟨_,rfl,w,?_,?_⟩
   ·rw[hw,this]
   ·rw[hw,this,List.append_nil];exact hm
end Go.Proofs.YtheamfnbfgiaeaaGreat
namespace Go.D
variable {P:Program}
structure k3c (P:Program) (t:TypeId) (k:IntKind):Prop where
 map:∃ kt et,P.underlying t=some (.map kt et)∧P.underlying kt=some (.int k)∧Q8a P et=some (.bool false)
def SetAt (k:IntKind) (h:DHeap) (id:Nat) (ks:List Int):Prop:=
 ∃ es c,h.get id=some (.map es c)∧(∀ e∈es,∃ n,e.key=.int k n∧e.val=.bool true)∧∀ n,n∈ks↔∃ e∈es,e.key=.int k n
theorem J6a {k:IntKind} {n:Int}:∀ {es:List MapEntry} {i:Nat},(∀ e∈es,∃ m,e.key=.int k m∧e.val=.bool true) →
 (∃ j,Instr.findNow (.int k) (.int k n) es i=some (some (j,.bool true))∧i≤j∧∃ e,es[j - i]? = some e∧e.key=.int k n)∨(Instr.findNow (.int k) (.int k n) es i=some none∧∀ e∈es,e.key≠.int k n)
 | [],i,_=>.inr ⟨rfl,fun e he=>by simp at he⟩
 | e :: es,i,h=>by
   obtain ⟨m,h1,h2⟩:=h e (by simp)
   have ih:=J6a (k:=k) (n:=n) (es:=es) (i:=i+1) fun e he=>h e (by simp[he])
   simp only[Instr.findNow,h1,Instr.sameNow,if_true]
   by_cases hm:n=m
   ·subst hm
    refine .inl ⟨i,by simp[h2],Nat.le_refl _,e,by simp,h1⟩
   ·have:(n==m)=false:=by simpa using hm
    rw[this]
    rcases ih with ⟨j,a,b,e',c,d⟩ | ⟨a,b⟩
    ·exact .inl ⟨j,a,by omega,e',by rw[show j - i=(j - (i+1))+1 by omega];exact c,d⟩
    ·refine .inr ⟨a,fun e' he=>?_⟩
     rcases List.mem_cons.1 he with rfl | he
     ·rw[h1]
      intro hh
      cases hh
      exact hm rfl
     ·exact b e' he
theorem J2c {t:TypeId} {d:TypeDesc} (hu:P.underlying t=some d):ZK P (underlying t)=some (.inr d):=by
 simp only[underlying,program,Bind.bind,Sem.bind,ZK,hu]
 rfl
theorem a3b {kt:TypeId} {k:IntKind} (hu:P.underlying kt=some (.int k)) (b:Bool) (n:Int) (m:Nat):ZK P (Instr.checkKey b (m+1) kt (.int k n))=some (.inr ()):=by
 unfold Instr.checkKey
 rw[f0a (J2c hu)]
 rfl
theorem W5a {kt:TypeId} {k:IntKind} (hu:P.underlying kt=some (.int k)) (b:Bool) (n:Int):∃ u,ZK P (Instr.checkKey b 10000 kt (.int k n))=some (.inr u):=⟨(),a3b hu b n 9999⟩
theorem K8a {k:IntKind} {n:Int} (m:Nat):Instr.sameBits (m+1) (.int k n) (.int k n)=true:=by simp[Instr.sameBits]
theorem SetAt.lookup {t:TypeId} {k:IntKind} {h:DHeap} {id:Nat} {ks:List Int} (T:k3c P t k) (a:SetAt k h id ks) (n:Int):M0a P t (.map (some id)) (.int k n) false h=some (.bool (decide (n∈ks))):=by
 obtain ⟨kt,et,u1,u2,u3⟩:=T.map
 obtain ⟨es,c,g,e1,e2⟩:=a
 obtain ⟨u,hck⟩:=W5a (P:=P) u2 es.isEmpty n
 have hm:a7a (.map (some id)) h=some es:=by simp only[a7a,g]
 have hf3:Xz (.int k n)=true:=rfl
 simp only[M0a,u1,hm,hf3,if_true,hck]
 rcases J6a (k:=k) (n:=n) (es:=es) (i:=0) e1 with ⟨j,a,_,e,c,d⟩ | ⟨a,b⟩
 ·have hfd:Y1a P kt (.int k n) es=some (some j):=by simp only[Y1a,u2,a];rfl
  rw[Nat.sub_zero]at c
  obtain ⟨m,h1,h2⟩:=e1 e (List.mem_of_getElem? c)
  rw[decide_eq_true ((e2 n).2 ⟨e,List.mem_of_getElem? c,d⟩)]
  simp only[hfd,c,h2]
  rfl
 ·have hfd:Y1a P kt (.int k n) es=some none:=by simp only[Y1a,u2,a];rfl
  rw[decide_eq_false (fun hh=>by
   obtain ⟨e,he,hk⟩:=(e2 n).1 hh
   exact b e he hk)]
  simp only[hfd,u3]
  rfl
theorem SetAt.update {t:TypeId} {k:IntKind} {h:DHeap} {id:Nat} {ks:List Int} (T:k3c P t k) (a:SetAt k h id ks) (n:Int):∃ o,H0a P t (.map (some id)) (.int k n) (.bool true) h=some (h.set id o)∧SetAt k (h.set id o) id (ks++[n]):=by
 obtain ⟨kt,et,u1,u2,u3⟩:=T.map
 obtain ⟨es,c,g,e1,e2⟩:=a
 obtain ⟨u,hck⟩:=W5a (P:=P) u2 false n
 have hf3:Xz (.int k n)=true:=rfl
 simp only[H0a,u1,g,hf3,if_true,hck]
 rcases J6a (k:=k) (n:=n) (es:=es) (i:=0) e1 with ⟨j,a,_,e,c',d⟩ | ⟨a,b⟩
 ·have hfd:Y1a P kt (.int k n) es=some (some j):=by simp only[Y1a,u2,a];rfl
  rw[Nat.sub_zero]at c'
  have hsb:Instr.sameBits 10000 e.key (.int k n)=true:=by
   rw[d]
   exact K8a 9999
  simp only[hfd,c',hsb,if_true]
  refine ⟨_,rfl,_,_,ZX _ _,fun e' he=>?_,fun m=>?_⟩
  ·rcases List.mem_or_eq_of_mem_set he with he | he
   ·exact e1 e' he
   ·exact ⟨n,by rw[he],by rw[he]⟩
  ·rw[List.mem_append,e2 m]
   constructor
   ·rintro (⟨e',he,hk⟩ | hm)
    ·obtain ⟨i,hi⟩:=List.mem_iff_getElem?.1 he
     by_cases hij:j=i
     ·subst hij
      rw[c']at hi
      cases hi
      rw[d]at hk
      cases hk
      exact ⟨{ e with key:=.int k n,val:=.bool true },List.mem_iff_getElem?.2 ⟨j,by rw[List.getElem?_set,if_pos rfl,if_pos (List.getElem?_eq_some_iff.1 c').1]⟩,rfl⟩
     ·exact ⟨e',List.mem_iff_getElem?.2 ⟨i,by rw[List.getElem?_set,if_neg hij];exact hi⟩,hk⟩
    ·simp only[List.mem_singleton]at hm
     subst hm
     exact ⟨{ e with key:=.int k m,val:=.bool true },List.mem_iff_getElem?.2 ⟨j,by rw[List.getElem?_set,if_pos rfl,if_pos (List.getElem?_eq_some_iff.1 c').1]⟩,rfl⟩
   ·rintro ⟨e',he,hk⟩
    rcases List.mem_or_eq_of_mem_set he with he | he
    ·exact .inl ⟨e',he,hk⟩
    ·rw[he]at hk
     cases hk
     exact .inr (by simp)
 ·have hfd:Y1a P kt (.int k n) es=some none:=by simp only[Y1a,u2,a];rfl
  simp only[hfd]
  refine ⟨_,rfl,_,_,ZX _ _,fun e' he=>?_,fun m=>?_⟩
  ·rcases List.mem_append.1 he with he | he
   ·exact e1 e' he
   ·simp only[List.mem_singleton]at he
    exact ⟨n,by rw[he],by rw[he]⟩
  ·rw[List.mem_append,e2 m]
   constructor
   ·rintro (⟨e',he,hk⟩ | hm)
    ·exact ⟨e',by simp[he],hk⟩
    ·simp only[List.mem_singleton]at hm
     subst hm
     exact ⟨_,List.mem_append.2 (.inr (List.mem_singleton.2 rfl)),rfl⟩
   ·rintro ⟨e',he,hk⟩
    rcases List.mem_append.1 he with he | he
    ·exact .inl ⟨e',he,hk⟩
    ·simp only[List.mem_singleton]at he
     rw[he]at hk
     cases hk
     exact .inr (by simp)
theorem SetAt.keep {k:IntKind} {h h':DHeap} {id:Nat} {ks:List Int} (a:SetAt k h id ks) (hg:h'.get id=h.get id):SetAt k h' id ks:=by
 obtain ⟨es,c,g,e⟩:=a
 exact ⟨es,c,hg.trans g,e⟩
theorem SetAt.new {k:IntKind} {h:DHeap}:SetAt k (h.push (.map [] 0)) h.next []:=⟨[],0,Zz _ _,by simp,by simp⟩
theorem i5a {nt id:Nat} {c:Code} {K:St→Prop} {Q:Zk→St→Prop} {s:St} (M:St→Prop) (h1:p0b P nt c (Q0a id (WZ M Q)) s) (h3:∀ s',M s'→K s'):p0b P nt c (Q0a id (WZ K Q)) s:=W7a (c:=.loop c) M h1 h3
end Go.D
namespace Go.Proofs.YtheamfnbfgiaeaaGreat
open Go.D
set_option maxRecDepth 100000
def t6a (e:Int):Value:=.iface 205 (.agg #[.int .i64 e])
theorem i1c {S:Nat→Prop} (e:Int):VIn S (t6a e):=.iface (.agg fun v hv=>by simp at hv;subst hv;exact .int _ _)
theorem W9c (e:Int):XW Tryz.prog 205 [(0,.int .i64 e)]=some (.agg #[.int .i64 e]):=l0a V1d rfl
theorem K1d {h:DHeap}:DC Tryz.prog 101 [.int .i64 0] h (.ret (.tuple #[])) h:=by
 refine Ct.pure (w1c (by simp) ?_) (.tuple fun v hv=>by simp at hv)
 simp -implicitDefEqProofs (disch:=first|omega|simp only[go_sem]) only[go_sem,true_and,P3c]
 exact ⟨_,rfl,rfl,.refl h⟩
theorem v5b {h:DHeap} {e:Int} (he:e≠0):DC Tryz.prog 101 [.int .i64 e] h (.pan (t6a e)) h:=by
 refine Ct.purePan (w1c (by simp) ?_) (i1c e)
 simp -implicitDefEqProofs (disch:=first|omega|simp only[go_sem]) only[go_sem,true_and,P3c,W9c,he]
 exact ⟨rfl,.refl h⟩
theorem x7d {h:DHeap} {v:Value} {l:List Int} (hb:Arg fU8.rep h v l) (hl:l.length≤1048576) :
 Ct Tryz.prog 99 [v] h fun r h1=>((XX l 0).2=0∧∃ w,r=.ret w∧Made fInstr h h1 w (XX l 0).1)∨((XX l 0).2≠0∧r=.pan (t6a (XX l 0).2)∧Ext h h1):=by
 refine T9d (by simp) ?_
 have el:∀ K,dLen Tryz.prog #[22] v K=some (.int .i64 (l.length:Nat)):=hb.lens (P:=Tryz.prog) (ts:=#[22]) (t:=22) rfl d6a
 have hbl:=v7a hb
 simp -implicitDefEqProofs (disch:=first|omega|simp only[go_sem]) only[go_sem,true_and,c99]
 refine Xu (σ:=Nat × List Instr) (by kernel_rfl) (fun a s=>s.df=[]∧s.rd=none∧s.fr 0=some v∧s.fr 4=some (.int .i64 (a.1:Nat))∧(∃ w,s.fr 3=some w∧Made fInstr h s.h w a.2)∧a.1≤l.length∧a.2.length≤a.1∧XX l 0=(a.2++(XX l a.1).1,(XX l a.1).2)) (fun a=>l.length - a.1) (0,[]) ?_ ?_
 ·simp -implicitDefEqProofs (disch:=first|omega|simp only[go_sem]) only[go_sem,true_and]
  exact ⟨rfl,⟨_,rfl,.nil _ (.refl h)⟩,Nat.zero_le _,Nat.le_refl _,trivial⟩
 ·rintro ⟨i,acc⟩ ⟨fr,df,K,rd⟩ K' hK' hX ⟨rfl,hrd,f0,f4,⟨w,f3,hm⟩,hi,hal,hw⟩
  simp only at hrd f0 f4 f3 hm hi hal hw
  subst hrd
  have hE:=hm.ext
  simp -implicitDefEqProofs (disch:=first|omega|simp only[go_sem]) only[go_sem,true_and,f0,f4,el]
  refine YX (fun hc1=>?_) (fun hc1=>?_)
  ·have hil:i<l.length:=by omega
   have hst:=h5a hil
   simp -implicitDefEqProofs (disch:=first|omega|simp only[go_sem]) only[go_sem,true_and,f0,f4]
   refine YV (p0e (hb.ext hE) (by omega) (by omega)) ?_
   obtain ⟨x,hx⟩:∃ x,(XY l i).1=x:=⟨_,rfl⟩
   obtain ⟨K1,hK1⟩:∃ K1,K1=K.push (.row (fInstr.enc x) 0 false):=⟨_,rfl⟩
   have g:K1.get K.next=some (.row (fInstr.enc x) 0 false):=by rw[hK1];exact Zz _ _
   have lc:Zx K1 K.next 0 5=some (XJ x):=by rw[Zw g (Nat.le_of_ble_eq_true rfl)];rfl
   have hm1:Made fInstr h K1 w acc:=hm.on (by rw[hK1];exact Ext.push1 _ _)
   rw[hx]
   have s5:=p6a (h:=K) (x:=x)
   rw[← hK1]at s5
   by_cases he:(XY l i).2.2=0
   ·obtain ⟨e1,e2,_,e4,e5⟩:=q1a he
    have hok:=F7b (by omega) hbl he
    rw[hx]at hok
    rw[if_pos he,hx]at hst
    obtain ⟨nx,hnx⟩:∃ nx:Nat,(XY l i).2.1=nx:=⟨(XY l i).2.1.toNat,by omega⟩
    rw[hnx]at hst ⊢
    rw[he]
    have hbs:∀ K:DHeap,b0a Tryz.prog 143 1 [(0,XJ x)] K=some (.slice (some ⟨K.next,0,none⟩) 1 1,K.push (.row (fInstr.enc x) 5 false)):=fun K=>F1b rfl
    obtain ⟨w2,h2,e6,m2⟩:=hm1.snoc X6b (y:=x) (cs:=fInstr.enc x) (z:=5) rfl rfl hok (by omega) (by decide)
    simp -implicitDefEqProofs (disch:=first|omega|simp only[go_sem]) only[go_sem,true_and,s5]
    refine YV K1d ?_
    simp -implicitDefEqProofs (disch:=first|omega|simp only[go_sem]) only[go_sem,true_and,f3,lc,hbs,e6]
    refine hK' (nx,acc++[x]) _ ?_ (by simp only;omega)
    refine ⟨by trivial,by trivial,(vy f0),vz,⟨w2,vz,m2⟩,by simp only;omega,by simp;omega,?_⟩
    rw[hw,hst]
    simp
   ·rw[if_neg he]at hst
    simp -implicitDefEqProofs (disch:=first|omega|simp only[go_sem]) only[go_sem,true_and,s5]
    refine H2b (v5b he) ?_
    refine hX _ _ (by simp) ?_
    simp -implicitDefEqProofs (disch:=first|omega|simp only[go_sem]) only[go_sem,true_and]
    refine .inr ⟨?_,?_,hm1.ext⟩
    ·rw[hw,hst];exact he
    ·rw[hw,hst]
  ·refine hX _ _ (by simp) ?_
   simp -implicitDefEqProofs (disch:=first|omega|simp only[go_sem]) only[go_sem,true_and,f3]
   have:=M5a (l:=l) (i:=i) (by omega)
   refine ⟨_,rfl,.inl ⟨?_,w,rfl,?_⟩⟩
   ·rw[hw,this]
   ·rw[hw,this,List.append_nil];exact hm
theorem U3c {h:DHeap} {e:Int}:DC Tryz.prog 98 [t6a e] h (.ret (.int .i64 e)) h:=by
 refine Ct.pure (S9d (by simp) ?_) (t0a _ _)
 simp -implicitDefEqProofs (disch:=first|omega|simp only[go_sem]) only[go_sem,true_and,c98,t6a,S6b (v:=.int .i64 e) rfl,k8b]
 exact ⟨_,rfl,rfl,Ext.push1 _ _⟩
theorem D5c {e:Int} {ox oy:Operand} {h:DHeap}:Yz Tryz.prog .neq 20 ox oy (t6a e) .nilIface h=.ok (.value (.bool true)) h:=by
 kernel_rfl
theorem E5c {i:Nat} {h:DHeap}:Yz Tryz.prog .neq 20 (T i) (.const .nilIface) .nilIface .nilIface h=.ok (.value (.bool false)) h:=by
 kernel_rfl
theorem D0d {h:DHeap} {x y:Value}:DCD Tryz.prog 97 [x,y] .ret h .ret h:=by
 refine O3b (fn:=Tryz.f97) (rs:=[]) (by kernel_rfl) h7b (by kernel_rfl) (by kernel_rfl) (n:=8) (Nat.le_of_ble_eq_true rfl) (by kernel_rfl) (.refl h) ?_
 simp only[W2a]
 simp -implicitDefEqProofs (disch:=first|omega|simp only[go_sem]) only[go_sem,true_and,X5a,E5c]
 exact ⟨rfl,trivial⟩
theorem v7b {h:DHeap} {a b:Nat} {e:Int} {c d:Value} {z y:Nat} (ha:h.get a=some (.row [c] z false)) (hb:h.get b=some (.row [d] y false)) (hab:b≠a) :
 DCD Tryz.prog 97 [.pointer (some ⟨a,0,none⟩),.pointer (some ⟨b,0,none⟩)] (.pan (t6a e)) h (.recd (t6a e)) ((h.set a (.row [.slice none 0 0] z false)).set b (.row [.int .i64 e] y false)):=by
 refine O3b (fn:=Tryz.f97) (rs:=[]) (by kernel_rfl) h7b (by kernel_rfl) (by kernel_rfl) (n:=8) (Nat.le_of_ble_eq_true rfl) (by kernel_rfl) ((HStep.set _ _ _).trans (HStep.set _ _ _)) ?_
 simp only[W2a]
 have w1:=ZJ (o:=0) (vs:=[.slice none 0 0]) ha (Nat.le_of_ble_eq_true rfl) rfl
 have w2:=ZJ (o:=0) (vs:=[.int .i64 e]) ((Zv _ _ hab).trans hb:(h.set a (.row (Xy [c] 0 [.slice none 0 0]) z false)).get b=_) (Nat.le_of_ble_eq_true rfl) rfl
 have tc:=U3c (h:=h) (e:=e)
 simp -implicitDefEqProofs (disch:=first|omega|simp only[go_sem]) only[go_sem,true_and,X5a,D5c]
 refine YV tc ?_
 simp -implicitDefEqProofs (disch:=first|omega|simp only[go_sem]) only[go_sem,true_and,w1,w2]
 exact ⟨rfl,rfl⟩
def l2a (xs:List Instr):Bool:=xs.all fun x=>!F0a x.op||decide (x.imm∈xs.map (·.pos))
def A1a (l:List Int):Int:=if 512<l.length then 3 else if (XX l 0).2≠0 then (XX l 0).2 else if l2a (XX l 0).1 then 0 else 131
def WX (l:List Int):List Instr:=if A1a l=0 then (XX l 0).1 else []
theorem k4a {S:Nat→Prop} {h:DHeap} {v:Value} {l:List Instr} {i:Nat} (hb:Sl fInstr.rep S h v l) (hi:i<l.length) :
 ∃ id o,Yj Tryz.prog 143 v (.int .i64 (i:Nat))=some (.pointer (some ⟨id,o,none⟩))∧Zx h id o 5=some (XJ l[i])∧Zu h id (o+0)=some (.int .i64 l[i].pos)∧Zu h id (o+1)=some (.int .i64 l[i].op)∧Zu h id (o+4)=some (.int .i64 l[i].imm):=by
 obtain ⟨id,o,g,hs,hat⟩:=hb.idx (P:=Tryz.prog) (t:=143) W4b (k:=.i64) (List.getElem?_eq_getElem hi)
 obtain ⟨a,b,_⟩:=hat.flat
 exact ⟨id,o,g,b,a 0 (by decide),a 1 (by decide),a 4 (by decide)⟩
theorem G6b {h:DHeap} {v:Value} {l:List Instr} {n:Int} (hb:Arg fInstr.rep h v l) (hl:l.length≤1048576) :
 DC Tryz.prog 118 [v,.int .i64 n] h (.ret (.bool (decide (n∈l.map (·.pos))))) h:=by
 refine Ct.pure (M5d (by simp) ?_) (n0a _)
 have el:∀ K,dLen Tryz.prog #[143] v K=some (.int .i64 (l.length:Nat)):=hb.lens (P:=Tryz.prog) (ts:=#[143]) (t:=143) rfl R5a
 simp -implicitDefEqProofs (disch:=first|omega|simp only[go_sem]) only[go_sem,true_and,o4d]
 refine Xu (σ:=Nat) (by kernel_rfl) (fun i s=>s.df=[]∧s.h=h∧s.fr 0=some v∧s.fr 1=some (.int .i64 n)∧s.fr 5=some (.int .i64 (i:Nat))∧i≤l.length∧∀ j,j<i→∀ x,l[j]? = some x→x.pos≠n) (fun i=>l.length - i) 0 ?_ ?_
 ·simp -implicitDefEqProofs (disch:=first|omega|simp only[go_sem]) only[go_sem,true_and]
  exact ⟨rfl,Nat.zero_le _,fun j hj=>absurd hj (Nat.not_lt_zero j)⟩
 ·rintro i ⟨fr,df,K,rd⟩ K' hK' hX ⟨rfl,rfl,f0,f1,f5,hi,hn⟩
  simp only at f0 f1 f5
  simp -implicitDefEqProofs (disch:=first|omega|simp only[go_sem]) only[go_sem,true_and,f0,f5,el]
  refine YX (fun hc1=>?_) (fun hc1=>?_)
  ·have hj:i<l.length:=by omega
   obtain ⟨id,o,g,_,c0,_,_⟩:=k4a hb hj
   rw[Nat.add_zero]at c0
   have hw1:=ZV hj (by omega)
   simp -implicitDefEqProofs (disch:=first|omega|simp only[go_sem]) only[go_sem,true_and,f0,f1,f5,g,c0]
   by_cases he:l[i].pos=n
   ·have he':=eq_true he
    simp -implicitDefEqProofs (disch:=first|omega|simp only[go_sem]) only[go_sem,true_and,he']
    refine hX _ _ (by simp) ?_
    simp -implicitDefEqProofs (disch:=first|omega|simp only[go_sem]) only[go_sem,true_and]
    refine ⟨_,rfl,?_,.refl _⟩
    rw[decide_eq_true (List.mem_map.2 ⟨l[i],List.getElem_mem hj,he⟩)]
   ·simp -implicitDefEqProofs (disch:=first|omega|simp only[go_sem]) only[go_sem,true_and,he,f5,hw1]
    refine hK' (i+1) _ ?_ (by omega)
    refine ⟨by trivial,by trivial,(vy f0),(vy f1),vz,by omega,fun j hj2 x hx=>?_⟩
    by_cases hji:j=i
    ·subst hji
     rw[List.getElem?_eq_getElem hj]at hx
     cases hx
     exact he
    ·exact hn j (by omega) x hx
  ·refine hX _ _ (by simp) ?_
   simp -implicitDefEqProofs (disch:=first|omega|simp only[go_sem]) only[go_sem,true_and]
   refine ⟨_,rfl,?_,.refl _⟩
   rw[decide_eq_false (fun hh=>by
    obtain ⟨x,hx,hp⟩:=List.mem_map.1 hh
    obtain ⟨j,hj⟩:=List.mem_iff_getElem?.1 hx
    exact hn j (by have:=(List.getElem?_eq_some_iff.1 hj).1;omega) x hj hp)]
def i7a (l:List Instr) (i:Nat):Prop:=∀ j x,j<i→l[j]? = some x→F0a x.op=true→x.imm∈l.map (·.pos)
theorem J9a {l:List Instr} (h:i7a l l.length):l2a l=true:=by
 unfold l2a
 rw[List.all_eq_true]
 intro x hx
 obtain ⟨j,hj⟩:=List.mem_iff_getElem?.1 hx
 cases hb:F0a x.op with
 | false=>rfl
 | true=>simpa using h j x (List.getElem?_eq_some_iff.1 hj).1 hj hb
theorem K9a {l:List Instr} {x:Instr} (hx:x∈l) (hb:F0a x.op=true) (hm:x.imm∉l.map (·.pos)):l2a l=false:=by
 unfold l2a
 rw[List.all_eq_false]
 exact ⟨x,hx,by simp[hb];simpa using hm⟩
theorem h6a {l:List Instr} {i:Nat} (hi:i<l.length) (h:i7a l i) (hx:F0a l[i].op=true→l[i].imm∈l.map (·.pos)):i7a l (i+1):=by
 intro j x hj hjx hb
 by_cases hji:j=i
 ·subst hji
  rw[List.getElem?_eq_getElem hi]at hjx
  cases hjx
  exact hx hb
 ·exact h j x (by omega) hjx hb
theorem I6b {h:DHeap} {v:Value} {l:List Int} (hb:Arg fU8.rep h v l) (hl:l.length≤1048576) :
 Ct Tryz.prog 81 [v] h fun r h1=>∃ w,r=.ret (.tuple #[w,.int .i64 (A1a l)])∧Ext h h1∧Arg fInstr.rep h1 w (WX l):=by
 refine E9d (by simp) ?_
 have el:∀ K,dLen Tryz.prog #[22] v K=some (.int .i64 (l.length:Nat)):=hb.lens (P:=Tryz.prog) (ts:=#[22]) (t:=22) rfl d6a
 by_cases h0:(512:Int)<(l.length:Nat)
 ·have h0':=eq_true h0
  have hE:A1a l=3:=by rw[A1a,if_pos (by omega)]
  simp -implicitDefEqProofs (disch:=first|omega|simp only[go_sem]) only[go_sem,true_and,c81,el,h0']
  refine ⟨_,rfl,_,by rw[hE],.refl _,?_⟩
  rw[WX,hE]
  exact .nil _ _ _
 have hE0:A1a l=if (XX l 0).2≠0 then (XX l 0).2 else if l2a (XX l 0).1 then 0 else 131:=by rw[A1a,if_neg (by omega)]
 simp -implicitDefEqProofs (disch:=first|omega|simp only[go_sem]) only[go_sem,true_and,c81,el,h0]
 refine Yu (N2c hb hl) ?_
 rintro r h1 ⟨w,rfl,hm⟩
 have hlen:=z3a (l:=l) (n:=l.length) (i:=0) (by omega)
 obtain ⟨xs,hxs⟩:∃ xs,(XX l 0).1=xs:=⟨_,rfl⟩
 obtain ⟨e,he⟩:∃ e,(XX l 0).2=e:=⟨_,rfl⟩
 rw[hxs]at hm hlen
 rw[hxs,he]at hE0
 rw[he]
 have hEx:=hm.ext
 by_cases h1e:e=0
 case neg=>
  rw[if_pos h1e]at hE0
  simp -implicitDefEqProofs (disch:=first|omega|simp only[go_sem]) only[go_sem,true_and,Xj,h1e]
  refine ⟨_,rfl,_,by rw[hE0],hEx,?_⟩
  rw[WX,hE0,if_neg h1e]
  exact .nil _ _ _
 rw[if_neg (fun hh=>hh h1e)]at hE0
 have h1e':=eq_true h1e
 have elw:∀ K,dLen Tryz.prog #[143] w K=some (.int .i64 (xs.length:Nat)):=hm.arg.lens (P:=Tryz.prog) (ts:=#[143]) (t:=143) rfl R5a
 simp -implicitDefEqProofs (disch:=first|omega|simp only[go_sem]) only[go_sem,true_and,Xj,h1e']
 refine Xu (σ:=Nat) (by kernel_rfl) (fun i s=>s.df=[]∧s.h=h1∧s.fr 4=some w∧s.fr 6=some (.int .i64 (i:Nat))∧i≤xs.length∧i7a xs i) (fun i=>xs.length - i) 0 ?_ ?_
 ·simp -implicitDefEqProofs (disch:=first|omega|simp only[go_sem]) only[go_sem,true_and]
  exact ⟨rfl,Nat.zero_le _,fun j x hj=>absurd hj (Nat.not_lt_zero j)⟩
 ·rintro i ⟨fr,df,K,rd⟩ K' hK' hX ⟨rfl,rfl,f4,f6,hi,hso⟩
  simp only at f4 f6
  simp -implicitDefEqProofs (disch:=first|omega|simp only[go_sem]) only[go_sem,true_and,f4,f6,elw]
  refine YX (fun hc1=>?_) (fun hc1=>?_)
  ·have hj:i<xs.length:=by omega
   obtain ⟨id,o,g,_,_,c1,c4⟩:=k4a hm.arg hj
   have hw1:=ZV hj (by omega)
   simp -implicitDefEqProofs (disch:=first|omega|simp only[go_sem]) only[go_sem,true_and,f4,f6,g,c1]
   refine YV v9b ?_
   by_cases hjb:F0a xs[i].op=true
   case neg=>
    have hjb':F0a xs[i].op=false:=by simpa using hjb
    simp -implicitDefEqProofs (disch:=first|omega|simp only[go_sem]) only[go_sem,true_and,hjb',Zj,ZY,f6,hw1]
    refine hK' (i+1) _ ?_ (by omega)
    exact ⟨by trivial,by trivial,(vy f4),vz,by omega,h6a hj hso fun hh=>absurd hh hjb⟩
   simp -implicitDefEqProofs (disch:=first|omega|simp only[go_sem]) only[go_sem,true_and,hjb,f4,f6,g,c4]
   refine YV (G6b hm.arg (by omega)) ?_
   by_cases hin:xs[i].imm∈xs.map (·.pos)
   ·rw[decide_eq_true hin]
    simp -implicitDefEqProofs (disch:=first|omega|simp only[go_sem]) only[go_sem,true_and,Zj,ZY,f6,hw1]
    refine hK' (i+1) _ ?_ (by omega)
    exact ⟨by trivial,by trivial,(vy f4),vz,by omega,h6a hj hso fun _=>hin⟩
   ·rw[decide_eq_false hin]
    simp -implicitDefEqProofs (disch:=first|omega|simp only[go_sem]) only[go_sem,true_and,Zj,ZY]
    rw[K9a (List.getElem_mem hj) hjb hin]at hE0
    simp only[Bool.false_eq_true,if_false]at hE0
    refine hX _ _ (by simp) ?_
    simp -implicitDefEqProofs (disch:=first|omega|simp only[go_sem]) only[go_sem,true_and]
    refine ⟨_,rfl,_,by rw[hE0],hEx,?_⟩
    rw[WX,hE0]
    exact .nil _ _ _
  ·obtain rfl:i=xs.length:=by omega
   rw[J9a hso]at hE0
   simp only[if_true]at hE0
   refine hX _ _ (by simp) ?_
   simp -implicitDefEqProofs (disch:=first|omega|simp only[go_sem]) only[go_sem,true_and,f4]
   refine ⟨_,rfl,_,by rw[hE0],hEx,?_⟩
   rw[WX,hE0,if_pos rfl,hxs]
   exact hm.arg
theorem C1d {h:DHeap} {x:Instr}:DC Tryz.prog 100 [XJ x] h (.ret (.bool (F0a x.op))) h:=by
 obtain ⟨x1,x2,x3,x4,x5⟩:=x
 refine Ct.pure (w5d (by simp) ?_) (n0a _)
 obtain ⟨H,hH⟩:∃ H,H=h.push (.row [.int .i64 x1,.int .i64 x2,.int .i64 x3,.int .i64 x4,.int .i64 x5] 0 false):=⟨_,rfl⟩
 have hE:Ext h H:=by rw[hH];exact Ext.push1 _ _
 have g:H.get h.next=some (.row [.int .i64 x1,.int .i64 x2,.int .i64 x3,.int .i64 x4,.int .i64 x5] 0 false):=by rw[hH];exact Zz _ _
 have a1:Zu H h.next 1=some (.int .i64 x2):=Zy g
 simp -implicitDefEqProofs (disch:=first|omega|simp only[go_sem]) only[go_sem,true_and,Z3d,← hH,a1]
 clear hH
 (repeat' first | (refine I1a (fun hb=>?_) (fun hb=>?_) <;> (try simp only[Bool.not_eq_true',Bool.not_eq_false']at hb) <;> simp -implicitDefEqProofs (disch:=first|omega|simp only[go_sem]) only[go_sem,true_and,Zj,ZY,hb,a1]) | (refine A0a (fun hb=>?_) (fun hb=>?_) <;> (try simp only[Bool.not_eq_true',Bool.not_eq_false']at hb) <;> simp -implicitDefEqProofs (disch:=first|omega|simp only[go_sem]) only[go_sem,true_and,Zj,ZY,hb,a1]))
 all_goals exact ⟨_,rfl,by simp_all [F0a],hE⟩
theorem c0b:R0a Tryz.prog 97=true:=by kernel_rfl
theorem n1b:k3c Tryz.prog 175 .i64:=⟨2,4,by kernel_rfl,by kernel_rfl,by kernel_rfl⟩
theorem K3b {fr:Fr} {K:DHeap} {a b id id2:Nat} {w:Value} {e:Int} {z y:Nat} (f2:fr a=some (.pointer (some ⟨id,0,none⟩))) (f3:fr b=some (.pointer (some ⟨id2,0,none⟩))) (hk:K.get id=some (.row [w] z false)) (hk2:K.get id2=some (.row [.int .i64 e] y false)) :
 s0a Tryz.prog [.cell a 143,.cell b 52] fr K=some (.tuple #[w,.int .i64 e]):=by
 rw[G3a,f2a,f2a,f2,f3,k0a,k0a]
 have e1:O0a Tryz.prog 143 (.pointer (some ⟨id,0,none⟩)) K=some w:=ld_143.trans (Zy hk)
 have e2:O0a Tryz.prog 52 (.pointer (some ⟨id2,0,none⟩)) K=some (.int .i64 e):=ld_52.trans (Zy hk2)
 rw[e1,e2,V2b]
structure DecI (h:DHeap) (a b mp n0:Nat) (w:Value) (xs:List Instr) (ks:List Int) (K:DHeap):Prop where
 ext:Ext h K
 ga:K.get a=some (.row [w] 0 false)
 gb:K.get b=some (.row [.int .i64 0] 0 false)
 sm:SetAt .i64 K mp ks
 sl:Sl fInstr.rep (fun j=>n0≤j∧j<mp) K w xs
 lt:mp<K.next
 ab:h.next≤a∧h.next≤b∧a<n0∧b<n0∧a≠b∧n0≤mp
theorem DecI.push {h:DHeap} {a b mp n0:Nat} {w:Value} {xs:List Instr} {ks:List Int} {K K':DHeap} (s:DecI h a b mp n0 w xs ks K) (e:Ext K K'):DecI h a b mp n0 w xs ks K':=by
 have hl:=s.lt
 have ha:=s.ab
 exact ⟨s.ext.trans e,(e.get _ (by omega)).trans s.ga,(e.get _ (by omega)).trans s.gb,s.sm.keep (e.get _ hl),s.sl.mono fun j hj=>⟨hj,e.get _ (by omega)⟩,Nat.lt_of_lt_of_le hl e.next,ha⟩
theorem DecI.upd {h:DHeap} {a b mp n0:Nat} {w:Value} {xs:List Instr} {ks ks':List Int} {K:DHeap} {o:DObj} (s:DecI h a b mp n0 w xs ks K) (hs:SetAt .i64 (K.set mp o) mp ks'):DecI h a b mp n0 w xs ks' (K.set mp o):=by
 have ha:=s.ab
 exact ⟨s.ext.set (by omega),(Zv _ _ (by omega)).trans s.ga,(Zv _ _ (by omega)).trans s.gb,hs,s.sl.mono fun j hj=>⟨hj,Zv _ _ (by omega)⟩,s.lt,ha⟩
theorem P4b {h:DHeap} {v:Value} {l:List Int} (hb:Arg fU8.rep h v l) (hl:l.length≤1048576) :
 Ct Tryz.prog 70 [v] h fun r h1=>∃ w,r=.ret (.tuple #[w,.int .i64 (A1a l)])∧Ext h h1∧Arg fInstr.rep h1 w (WX l):=by
 refine t9d (by simp) ?_
 have el:∀ K,dLen Tryz.prog #[22] v K=some (.int .i64 (l.length:Nat)):=hb.lens (P:=Tryz.prog) (ts:=#[22]) (t:=22) rfl d6a
 obtain ⟨H,hH⟩:∃ H,H=(h.push (.row [.slice none 0 0] 0 false)).push (.row [.int .i64 0] 0 false):=⟨_,rfl⟩
 have hE:Ext h H:=by rw[hH];exact (Ext.push1 _ _).push _
 have hHn:H.next=h.next+2:=by rw[hH];rfl
 have ga:H.get h.next=some (.row [.slice none 0 0] 0 false):=by rw[hH];exact c3a
 have gb:H.get (h.next+1)=some (.row [.int .i64 0] 0 false):=by rw[hH];exact Zz _ _
 by_cases h0:(512:Int)<(l.length:Nat)
 ·have h0':=eq_true h0
  have hD:A1a l=3:=by rw[A1a,if_pos (by omega)]
  have w1:storeAt H h.next 0 [.slice none 0 0]=some H:=by
   rw[ZJ ga (Nat.le_of_ble_eq_true rfl) rfl]
   exact congrArg some (n3a ga)
  have w2:=ZJ (o:=0) (vs:=[.int .i64 3]) gb (Nat.le_of_ble_eq_true rfl) rfl
  simp -implicitDefEqProofs (disch:=first|omega|simp only[go_sem]) only[go_sem,true_and,c70,g0a,← hH,el,h0',w1,w2]
  refine t1a (K3b vz vz ((Zv _ _ (by omega)).trans ga) (ZX _ _)) ⟨_,by rw[hD],hE.set (by omega),?_⟩
  rw[WX,hD]
  exact .nil _ _ _
 have hE0:A1a l=if (XX l 0).2≠0 then (XX l 0).2 else if l2a (XX l 0).1 then 0 else 131:=by rw[A1a,if_neg (by omega)]
 simp -implicitDefEqProofs (disch:=first|omega|simp only[go_sem]) only[go_sem,true_and,c70,g0a,← hH,el,h0]
 refine Yu (x7d (hb.ext hE) hl) ?_
 have hlen:=z3a (l:=l) (n:=l.length) (i:=0) (by omega)
 obtain ⟨xs,hxs⟩:∃ xs,(XX l 0).1=xs:=⟨_,rfl⟩
 obtain ⟨e,he⟩:∃ e,(XX l 0).2=e:=⟨_,rfl⟩
 rw[hxs,he]
 rw[hxs]at hlen
 rw[hxs,he]at hE0
 rintro r h1 (⟨he0,w,rfl,hm⟩ | ⟨he0,rfl,hE1⟩)
 case inr=>
  rw[if_pos he0]at hE0
  have ga1:=(hE1.get _ (by omega)).trans ga
  have gb1:=(hE1.get _ (by omega)).trans gb
  simp -implicitDefEqProofs (disch:=first|omega|simp only[go_sem]) only[go_sem,true_and,Xj]
  refine U3b c0b (v7b ga1 gb1 (by omega)) ?_
  simp -implicitDefEqProofs (disch:=first|omega|simp only[go_sem]) only[go_sem,true_and,V4a,T8a]
  refine t1a (K3b vz vz ((Zv _ _ (by omega)).trans (ZX _ _)) (ZX _ _)) ⟨_,by rw[hE0],((hE.trans hE1).set (by omega)).set (by omega),?_⟩
  rw[WX,hE0,if_neg he0]
  exact .nil _ _ _
 rw[if_neg (fun hh=>hh he0)]at hE0
 have hE1:=hm.ext
 have hE1n:=hE1.next
 have ga1:=(hE1.get _ (by omega)).trans ga
 have gb1:=(hE1.get _ (by omega)).trans gb
 have hone:[w].all Value.oneCell'=true:=by obtain ⟨_,_,rfl⟩:=hm.sl.isSlice;rfl
 have w1:=ZJ (o:=0) (vs:=[w]) ga1 (Nat.le_of_ble_eq_true rfl) hone
 have sst:∀ K,Yw Tryz.prog 143 (.pointer (some ⟨h.next,0,none⟩)) w K=storeAt K h.next 0 [w]:=fun K=>W2c hm.sl.cells1
 obtain ⟨K0,hK0⟩:∃ K0,K0=(h1.set h.next (.row [w] 0 false)).push (.map [] 0):=⟨_,rfl⟩
 have elw:∀ K,dLen Tryz.prog #[143] w K=some (.int .i64 (xs.length:Nat)):=hm.arg.lens (P:=Tryz.prog) (ts:=#[143]) (t:=143) rfl R5a
 have I0:DecI h h.next (h.next+1) h1.next H.next w xs [] K0:=by
  have hEs:Ext h (h1.set h.next (.row [w] 0 false)):=(hE.trans hE1).set (by omega)
  refine ⟨by rw[hK0];exact hEs.push _,?_,?_,?_,?_,?_,by omega⟩
  ·rw[hK0,ZU _ _ (by simp only[G7a];omega)];exact ZX _ _
  ·rw[hK0,ZU _ _ (by simp only[G7a];omega),Zv _ _ (by omega)];exact gb1
  ·rw[hK0];exact SetAt.new
  ·refine hm.sl.mono fun j hj=>⟨hj,?_⟩
   rw[hK0,ZU _ _ (by simp only[G7a];omega),Zv _ _ (by omega)]
  ·rw[hK0];exact Nat.lt_succ_self _
 have lw:∀ {ks K},DecI h h.next (h.next+1) h1.next H.next w xs ks K→Zu K h.next 0=some w:=fun s=>Zy s.ga
 simp -implicitDefEqProofs (disch:=first|omega|simp only[go_sem]) only[go_sem,true_and,Xj,sst,w1,Xy]
 have hK0':∀ x,x=[w]→(h1.set h.next (.row x 0 false)).push (.map [] 0)=K0:=fun x hx=>by rw[hx,hK0]
 simp only[List.set_cons_zero,G7a,← hK0]
 simp -implicitDefEqProofs (disch:=first|omega|simp only[go_sem]) only[go_sem,true_and,lw I0,elw]
 refine i5a (fun s=>s.df=[.fn 97 [.pointer (some ⟨h.next,0,none⟩),.pointer (some ⟨h.next+1,0,none⟩)]]∧s.rd=none∧s.fr 2=some (.pointer (some ⟨h.next,0,none⟩))∧s.fr 3=some (.pointer (some ⟨h.next+1,0,none⟩))∧s.fr 4=some (.map (some h1.next))∧DecI h h.next (h.next+1) h1.next H.next w xs (xs.map (·.pos)) s.h) ?_ ?_
 ·refine Xu (σ:=Nat) (by kernel_rfl) (fun i s=>s.df=[.fn 97 [.pointer (some ⟨h.next,0,none⟩),.pointer (some ⟨h.next+1,0,none⟩)]]∧s.rd=none∧s.fr 2=some (.pointer (some ⟨h.next,0,none⟩))∧s.fr 3=some (.pointer (some ⟨h.next+1,0,none⟩))∧s.fr 4=some (.map (some h1.next))∧s.fr 16=some w∧s.fr 17=some (.int .i64 (xs.length:Nat))∧s.fr 18=some (.int .i64 (i:Nat))∧i≤xs.length∧DecI h h.next (h.next+1) h1.next H.next w xs ((xs.take i).map (·.pos)) s.h) (fun i=>xs.length - i) 0 ?_ ?_
  ·simp -implicitDefEqProofs (disch:=first|omega|simp only[go_sem]) only[go_sem,true_and]
   exact ⟨rfl,Nat.zero_le _,I0⟩
  ·rintro i ⟨fr,df,K,rd⟩ K' hK' hX ⟨hdf,hrd,f2,f3,f4,f16,f17,f18,hi,I⟩
   simp only at hdf hrd f2 f3 f4 f16 f17 f18 I
   subst hdf hrd
   simp -implicitDefEqProofs (disch:=first|omega|simp only[go_sem]) only[go_sem,true_and,f17,f18]
   refine YX (fun hc1=>?_) (fun hc1=>?_)
   ·have hj:i<xs.length:=by omega
    obtain ⟨id,o,g,c5,_,_,_⟩:=k4a I.sl hj
    have hw1:=ZV hj (by omega)
    obtain ⟨x,hx⟩:∃ x,xs[i]=x:=⟨_,rfl⟩
    rw[hx]at c5
    obtain ⟨K1,hK1⟩:∃ K1,K1=K.push (.row (fInstr.enc x) 0 false):=⟨_,rfl⟩
    have g1:K1.get K.next=some (.row (fInstr.enc x) 0 false):=by rw[hK1];exact Zz _ _
    have p0:Zu K1 K.next 0=some (.int .i64 x.pos):=Zy g1
    have s5:=p6a (h:=K) (x:=x)
    rw[← hK1]at s5
    have I1:DecI h h.next (h.next+1) h1.next H.next w xs ((xs.take i).map (·.pos)) K1:=I.push (by rw[hK1];exact Ext.push1 _ _)
    obtain ⟨ob,hu,hs⟩:=I1.sm.update n1b x.pos
    simp -implicitDefEqProofs (disch:=first|omega|simp only[go_sem]) only[go_sem,true_and,f16,f18,g,c5,s5,f4,p0,hu,hw1]
    refine hK' (i+1) _ ?_ (by omega)
    refine ⟨by trivial,by trivial,(vy f2),(vy f3),(vy f4),(vy f16),(vy f17),vz,by omega,?_⟩
    have:=I1.upd hs
    rw[show xs.take (i+1)=xs.take i++[x] by rw[← hx];simp]
    simpa using this
   ·obtain rfl:i=xs.length:=by omega
    refine hX _ _ (by simp) ?_
    rw[List.take_length]at I
    exact ⟨rfl,rfl,f2,f3,f4,I⟩
 rintro ⟨fr,df,K,rd⟩ ⟨hdf,hrd,f2,f3,f4,I⟩
 simp only at hdf hrd f2 f3 f4 I
 subst hdf hrd
 simp -implicitDefEqProofs (disch:=first|omega|simp only[go_sem]) only[go_sem,true_and,f2,lw I,elw]
 refine Xu (σ:=Nat) (by kernel_rfl) (fun i s=>s.df=[.fn 97 [.pointer (some ⟨h.next,0,none⟩),.pointer (some ⟨h.next+1,0,none⟩)]]∧s.rd=none∧s.fr 2=some (.pointer (some ⟨h.next,0,none⟩))∧s.fr 3=some (.pointer (some ⟨h.next+1,0,none⟩))∧s.fr 4=some (.map (some h1.next))∧s.fr 26=some w∧s.fr 27=some (.int .i64 (xs.length:Nat))∧s.fr 28=some (.int .i64 (i:Nat))∧i≤xs.length∧i7a xs i∧DecI h h.next (h.next+1) h1.next H.next w xs (xs.map (·.pos)) s.h) (fun i=>xs.length - i) 0 ?_ ?_
 ·simp -implicitDefEqProofs (disch:=first|omega|simp only[go_sem]) only[go_sem,true_and,f2,f3,f4]
  exact ⟨rfl,Nat.zero_le _,fun j x hj=>absurd hj (Nat.not_lt_zero j),I⟩
 clear f2 f3 f4 I K fr
 rintro i ⟨fr,df,K,rd⟩ K' hK' hX ⟨hdf,hrd,f2,f3,f4,f26,f27,f28,hi,hso,I⟩
 simp only at hdf hrd f2 f3 f4 f26 f27 f28 I
 subst hdf hrd
 simp -implicitDefEqProofs (disch:=first|omega|simp only[go_sem]) only[go_sem,true_and,f27,f28]
 refine YX (fun hc1=>?_) (fun hc1=>?_)
 ·have hj:i<xs.length:=by omega
  obtain ⟨id,o,g,c5,_,_,_⟩:=k4a I.sl hj
  have hw1:=ZV hj (by omega)
  have hmem:=List.getElem_mem hj
  have hsucc:=fun hx=>h6a hj hso hx
  have hbad:=fun (a:F0a xs[i].op=true) (b:xs[i].imm∉xs.map (·.pos))=>K9a hmem a b
  obtain ⟨x,hx⟩:∃ x,xs[i]=x:=⟨_,rfl⟩
  rw[hx]at c5
  rw[hx]at hsucc hbad
  obtain ⟨K1,hK1⟩:∃ K1,K1=K.push (.row (fInstr.enc x) 0 false):=⟨_,rfl⟩
  have g1:K1.get K.next=some (.row (fInstr.enc x) 0 false):=by rw[hK1];exact Zz _ _
  have p4:Zu K1 K.next 4=some (.int .i64 x.imm):=Zy g1
  have pc:Zx K1 K.next 0 5=some (XJ x):=by rw[Zw g1 (Nat.le_of_ble_eq_true rfl)];rfl
  have s5:=p6a (h:=K) (x:=x)
  rw[← hK1]at s5
  have I1:DecI h h.next (h.next+1) h1.next H.next w xs (xs.map (·.pos)) K1:=I.push (by rw[hK1];exact Ext.push1 _ _)
  simp -implicitDefEqProofs (disch:=first|omega|simp only[go_sem]) only[go_sem,true_and,f26,f28,g,c5,s5,pc]
  refine YV C1d ?_
  by_cases hjb:F0a x.op=true
  case neg=>
   have hjb':F0a x.op=false:=by simpa using hjb
   simp -implicitDefEqProofs (disch:=first|omega|simp only[go_sem]) only[go_sem,true_and,hjb',Zj,ZY,f28,hw1]
   refine hK' (i+1) _ ?_ (by omega)
   exact ⟨by trivial,by trivial,(vy f2),(vy f3),(vy f4),(vy f26),(vy f27),vz,by omega,hsucc fun hh=>absurd hh hjb,I1⟩
  have hlk:=I1.sm.lookup n1b x.imm
  by_cases hin:x.imm∈xs.map (·.pos)
  ·rw[decide_eq_true hin]at hlk
   simp -implicitDefEqProofs (disch:=first|omega|simp only[go_sem]) only[go_sem,true_and,hjb,f4,p4,hlk,Zj,ZY,f28,hw1]
   refine hK' (i+1) _ ?_ (by omega)
   exact ⟨by trivial,by trivial,(vy f2),(vy f3),(vy f4),(vy f26),(vy f27),vz,by omega,hsucc fun _=>hin,I1⟩
  ·rw[decide_eq_false hin]at hlk
   rw[hbad hjb hin]at hE0
   simp only[Bool.false_eq_true,if_false]at hE0
   simp -implicitDefEqProofs (disch:=first|omega|simp only[go_sem]) only[go_sem,true_and,hjb,f4,p4,hlk,Zj,ZY]
   refine H2b (v5b (by decide)) ?_
   refine hX _ _ (by simp) ?_
   simp -implicitDefEqProofs (disch:=first|omega|simp only[go_sem]) only[go_sem,true_and]
   refine U3b c0b (v7b I1.ga I1.gb (by omega)) ?_
   simp -implicitDefEqProofs (disch:=first|omega|simp only[go_sem]) only[go_sem,true_and,V4a,T8a]
   refine t1a (K3b (vy f2) (vy f3) ((Zv _ _ (by omega)).trans (ZX _ _)) (ZX _ _)) ⟨_,by rw[hE0],(I1.ext.set (by omega)).set (by omega),?_⟩
   rw[WX,hE0]
   exact .nil _ _ _
 ·obtain rfl:i=xs.length:=by omega
  rw[J9a hso]at hE0
  simp only[if_true]at hE0
  refine hX _ _ (by simp) ?_
  have w2:storeAt K h.next 0 [w]=some K:=by
   rw[ZJ I.ga (Nat.le_of_ble_eq_true rfl) hone]
   exact congrArg some (n3a I.ga)
  have w3:storeAt K (h.next+1) 0 [.int .i64 0]=some K:=by
   rw[ZJ I.gb (Nat.le_of_ble_eq_true rfl) rfl]
   exact congrArg some (n3a I.gb)
  simp -implicitDefEqProofs (disch:=first|omega|simp only[go_sem]) only[go_sem,true_and,f2,f3,lw I,sst,w2,w3]
  refine U3b c0b D0d ?_
  simp -implicitDefEqProofs (disch:=first|omega|simp only[go_sem]) only[go_sem,true_and,V4a,T8a]
  refine t1a (K3b (vy f2) (vy f3) I.ga I.gb) ⟨_,by rw[hE0],I.ext,?_⟩
  rw[WX,hE0,if_pos rfl,hxs]
  have hlt:=I.lt
  exact I.sl.mono fun j hj=>⟨by omega,rfl⟩
theorem b9a {S:Nat→Prop} {h:DHeap} {v:Value} {l:List Key} {i:Nat} (hb:Sl fKey.rep S h v l) (hi:i<l.length) :
 ∃ id o,Yj Tryz.prog 24 v (.int .i64 (i:Nat))=some (.pointer (some ⟨id,o,none⟩))∧Zx h id o 2=some (Zq l[i])∧Zu h id (o+0)=some (.int .i32 l[i].t)∧Zu h id (o+1)=some (.int .i64 l[i].r):=by
 obtain ⟨id,o,g,hs,hat⟩:=hb.idx (P:=Tryz.prog) (t:=24) C2a (k:=.i64) (List.getElem?_eq_getElem hi)
 obtain ⟨a,b,_⟩:=hat.flat
 exact ⟨id,o,g,b,a 0 (by decide),a 1 (by decide)⟩
theorem G1c {a b:Key}:Yq a b=!(decide (b.t<a.t)||(decide (b.t=a.t)&&decide (b.r≤a.r))):=by
 unfold Yq
 by_cases h1:b.t<a.t
 ·simp[h1];omega
 ·by_cases h2:b.t=a.t
  ·by_cases h3:b.r≤a.r
   ·simp[h1,h2,h3,Int.not_lt.2]
   ·simp[h1,h2,h3,Int.not_le.1]
  ·simp[h1,h2];omega
theorem L7b {h:DHeap} {v:Value} {l:List Key} (hb:Arg fKey.rep h v l) (hl:l.length≤4294967296):DC Tryz.prog 96 [v] h (.ret (.bool (u1a Yq l))) h:=by
 refine Ct.pure (R9d (by simp) ?_) (n0a _)
 have el:∀ K,dLen Tryz.prog #[24] v K=some (.int .i64 (l.length:Nat)):=hb.lens (P:=Tryz.prog) (ts:=#[24]) (t:=24) rfl D1a
 simp -implicitDefEqProofs (disch:=first|omega|simp only[go_sem]) only[go_sem,true_and,c96,el]
 refine Xu (σ:=Nat) (by kernel_rfl) (fun i s=>s.df=[]∧s.h=h∧s.fr 0=some v∧s.fr 5=some (.int .i64 (l.length:Nat))∧s.fr 6=some (.int .i64 (i:Nat))∧i≤l.length∧u1a Yq (l.drop (i - 1))=u1a Yq l) (fun i=>l.length - i) 0 ?_ ?_
 ·simp -implicitDefEqProofs (disch:=first|omega|simp only[go_sem]) only[go_sem,true_and]
  exact ⟨rfl,Nat.zero_le _,rfl⟩
 ·rintro i ⟨fr,df,K,rd⟩ K' hK' hX ⟨rfl,rfl,f0,f5,f6,hi,ho⟩
  simp only at f0 f5 f6
  simp -implicitDefEqProofs (disch:=first|omega|simp only[go_sem]) only[go_sem,true_and,f5,f6]
  refine YX (fun hc1=>?_) (fun hc1=>?_)
  ·have hj:i<l.length:=by omega
   have hw1:=ZV hj (by omega)
   simp -implicitDefEqProofs (disch:=first|omega|simp only[go_sem]) only[go_sem,true_and,f6]
   refine I0d ?_
   by_cases h0:(0:Int)<(i:Nat)
   case neg=>
    obtain rfl:i=0:=by omega
    simp -implicitDefEqProofs (disch:=first|omega|simp only[go_sem]) only[go_sem,true_and,l96_0,h0,Zj,ZY,f6,hw1,c1a]
    refine hK' (0+1) _ ?_ (by omega)
    exact ⟨by trivial,by trivial,(vy f0),(vy f5),vz,by omega,ho⟩
   obtain ⟨j,rfl⟩:∃ j,i=j+1:=⟨i - 1,by omega⟩
   have h0':=eq_true h0
   have hwm:IntKind.i64.wrap (((j+1:Nat):Int) - 1)=(j:Nat):=by rw[ZQ (by omega) (by omega)];omega
   obtain ⟨id1,o1,g1,_,a0,a1⟩:=b9a hb (i:=j+1) hj
   obtain ⟨id2,o2,g2,_,b0,b1⟩:=b9a hb (i:=j) (by omega)
   rw[Nat.add_zero]at a0 b0
   rw[Nat.add_sub_cancel,j1b hj,G1c]at ho
   have good:∀ {s:St},s.df=[]→s.h=K→s.fr 0=some v→s.fr 5=some (.int .i64 (l.length:Nat))→s.fr 6=some (.int .i64 ((j+1+1:Nat):Int))→(decide (l[j+1].t<l[j].t)||(decide (l[j+1].t=l[j].t)&&decide (l[j+1].r≤l[j].r)))=false→K' .normal s:=fun a b c d e f=>by
    refine hK' (j+1+1) _ ⟨a,b,c,d,e,by omega,?_⟩ (by omega)
    rw[f,Bool.not_false,Bool.true_and]at ho
    exact ho
   by_cases h1:l[j+1].t<l[j].t
   ·have h1':=eq_true h1
    simp -implicitDefEqProofs (disch:=first|omega|simp only[go_sem]) only[go_sem,true_and,l96_0,f0,f6,h0',h1',g1,g2,hwm,a0,a1,b0,b1,Zj,ZY,c1a]
    refine hX _ _ (by simp) ?_
    simp -implicitDefEqProofs (disch:=first|omega|simp only[go_sem]) only[go_sem,true_and]
    refine ⟨_,rfl,?_,.refl _⟩
    rw[← ho]
    simp[h1]
   by_cases h2:l[j+1].t=l[j].t
   case neg=>
    simp -implicitDefEqProofs (disch:=first|omega|simp only[go_sem]) only[go_sem,true_and,l96_0,f0,f6,h0',h1,h2,g1,g2,hwm,a0,a1,b0,b1,Zj,ZY,c1a,hw1]
    exact good rfl rfl (vy f0) (vy f5) vz (by simp[h1,h2])
   have h2':=eq_true h2
   by_cases h3:l[j+1].r≤l[j].r
   ·have h3':=eq_true h3
    simp -implicitDefEqProofs (disch:=first|omega|simp only[go_sem]) only[go_sem,true_and,l96_0,f0,f6,h0',h1,h2',h3',g1,g2,hwm,a0,a1,b0,b1,Zj,ZY,c1a]
    refine hX _ _ (by simp) ?_
    simp -implicitDefEqProofs (disch:=first|omega|simp only[go_sem]) only[go_sem,true_and]
    refine ⟨_,rfl,?_,.refl _⟩
    rw[← ho]
    simp[h1,h2,h3]
   ·simp -implicitDefEqProofs (disch:=first|omega|simp only[go_sem]) only[go_sem,true_and,l96_0,f0,f6,h0',h1,h2',h3,g1,g2,hwm,a0,a1,b0,b1,Zj,ZY,c1a,hw1]
    exact good rfl rfl (vy f0) (vy f5) vz (by simp[h1,h2,h3])
  ·refine hX _ _ (by simp) ?_
   simp -implicitDefEqProofs (disch:=first|omega|simp only[go_sem]) only[go_sem,true_and]
   refine ⟨_,rfl,?_,.refl _⟩
   rw[← ho,F8a (by simp;omega)]
def r4a (a b:Key):Int:=if Yq a b then -1 else if a=b then 0 else 1
theorem j6a {h:DHeap} {a b:Key}:DC Tryz.prog 51 [Zq a,Zq b] h (.ret (.int .i64 (r4a a b))) h:=by
 refine Ct.pure (g9d (by simp) ?_) (t0a _ _)
 obtain ⟨H,hH⟩:∃ H,H=(h.push (.row [.int .i32 a.t,.int .i64 a.r] 0 false)).push (.row [.int .i32 b.t,.int .i64 b.r] 0 false):=⟨_,rfl⟩
 have hE:Ext h H:=by rw[hH];exact (Ext.push1 _ _).push _
 have g1:H.get h.next=some (.row [.int .i32 a.t,.int .i64 a.r] 0 false):=by rw[hH];exact c3a
 have g2:H.get (h.next+1)=some (.row [.int .i32 b.t,.int .i64 b.r] 0 false):=by rw[hH];exact Zz _ _
 have a0:Zu H h.next 0=some (.int .i32 a.t):=Zy g1
 have a1:Zu H h.next 1=some (.int .i64 a.r):=Zy g1
 have b0:Zu H (h.next+1) 0=some (.int .i32 b.t):=Zy g2
 have b1:Zu H (h.next+1) 1=some (.int .i64 b.r):=Zy g2
 have c0:Zx H h.next 0 2=some (Zq a):=by rw[Zw g1 (Nat.le_of_ble_eq_true rfl)];rfl
 have c1:Zx H (h.next+1) 0 2=some (Zq b):=by rw[Zw g2 (Nat.le_of_ble_eq_true rfl)];rfl
 simp -implicitDefEqProofs (disch:=first|omega|simp only[go_sem]) only[go_sem,true_and,c51,g0a,← hH,a0,b0]
 clear hH
 (repeat' first | (refine I1a (fun hb=>?_) (fun hb=>?_) <;> (try simp only[Bool.not_eq_true',Bool.not_eq_false']at hb) <;> simp -implicitDefEqProofs (disch:=first|omega|simp only[go_sem]) only[go_sem,true_and,Zj,ZY,hb,a0,a1,b0,b1,c0,c1,k1a]) | (refine A0a (fun hb=>?_) (fun hb=>?_) <;> (try simp only[Bool.not_eq_true',Bool.not_eq_false']at hb) <;> simp -implicitDefEqProofs (disch:=first|omega|simp only[go_sem]) only[go_sem,true_and,Zj,ZY,hb,a0,a1,b0,b1,c0,c1,k1a]))
 all_goals
  refine ⟨_,rfl,?_,hE⟩
  congr 2
  unfold r4a Yq
  simp_all <;> omega
theorem M4a {a b:Key}:r4a a b<0↔Yq a b=true:=by
 unfold r4a
 cases Yq a b with
 | true=>simp
 | false=>
   simp only[Bool.false_eq_true,if_false]
   split <;> simp
theorem i1b {h:DHeap} {v:Value} {l:List Key} (hb:Arg fKey.rep h v l) (hl:l.length≤4294967296):DC Tryz.prog 80 [v] h (.ret (.bool (u1a Yq l))) h:=by
 refine Ct.pure (D9d (by simp) ?_) (n0a _)
 have el:∀ K,dLen Tryz.prog #[24] v K=some (.int .i64 (l.length:Nat)):=hb.lens (P:=Tryz.prog) (ts:=#[24]) (t:=24) rfl D1a
 simp -implicitDefEqProofs (disch:=first|omega|simp only[go_sem]) only[go_sem,true_and,c80]
 refine Xu (σ:=Nat) (by kernel_rfl) (fun j s=>s.df=[]∧s.h=h∧s.fr 0=some v∧s.fr 3=some (.int .i64 ((j+1:Nat):Int))∧(j=0∨j<l.length)∧u1a Yq (l.drop j)=u1a Yq l) (fun j=>l.length - j) 0 ?_ ?_
 ·simp -implicitDefEqProofs (disch:=first|omega|simp only[go_sem]) only[go_sem,true_and]
  exact ⟨rfl,.inl trivial,rfl⟩
 ·rintro j ⟨fr,df,K,rd⟩ K' hK' hX ⟨rfl,rfl,f0,f3,hi,ho⟩
  simp only at f0 f3
  simp -implicitDefEqProofs (disch:=first|omega|simp only[go_sem]) only[go_sem,true_and,f0,f3,el]
  refine YX (fun hc1=>?_) (fun hc1=>?_)
  ·have hj:j+1<l.length:=by omega
   have hw1:=ZV hj (by omega)
   have hwm:IntKind.i64.wrap (((j+1:Nat):Int) - 1)=(j:Nat):=by rw[ZQ (by omega) (by omega)];omega
   obtain ⟨id1,o1,g1,a2,_,_⟩:=b9a hb (i:=j+1) hj
   obtain ⟨id2,o2,g2,b2,_,_⟩:=b9a hb (i:=j) (by omega)
   rw[j1b hj]at ho
   simp -implicitDefEqProofs (disch:=first|omega|simp only[go_sem]) only[go_sem,true_and]
   refine H0d ?_
   simp -implicitDefEqProofs (disch:=first|omega|simp only[go_sem]) only[go_sem,true_and,l80_0,f0,f3,hwm,g1,g2,a2,b2]
   refine D3b j6a ?_
   by_cases hlt:Yq l[j] l[j+1]=true
   ·have hneg:¬ 0≤r4a l[j] l[j+1]:=by have:=M4a.2 hlt;omega
    rw[hlt,Bool.true_and]at ho
    simp -implicitDefEqProofs (disch:=first|omega|simp only[go_sem]) only[go_sem,true_and,hneg,c1a,f3,hw1]
    refine hK' (j+1) _ ?_ (by omega)
    exact ⟨by trivial,by trivial,(vy f0),vz,.inr hj,ho⟩
   ·have hneg:0≤r4a l[j] l[j+1]:=by
     cases Int.decLt (r4a l[j] l[j+1]) 0 with
     | isTrue e=>exact absurd (M4a.1 e) hlt
     | isFalse e=>omega
    have hneg':=eq_true hneg
    have hlt':Yq l[j] l[j+1]=false:=by simpa using hlt
    rw[hlt',Bool.false_and]at ho
    simp -implicitDefEqProofs (disch:=first|omega|simp only[go_sem]) only[go_sem,true_and,hneg',c1a]
    refine hX _ _ (by simp) ?_
    simp -implicitDefEqProofs (disch:=first|omega|simp only[go_sem]) only[go_sem,true_and]
    exact ⟨_,rfl,by rw[← ho],.refl _⟩
  ·refine hX _ _ (by simp) ?_
   simp -implicitDefEqProofs (disch:=first|omega|simp only[go_sem]) only[go_sem,true_and]
   refine ⟨_,rfl,?_,.refl _⟩
   rw[← ho,F8a (by simp;omega)]
def Wv (t:Txn) (x:Instr):Bool:=
 if x.op=3∨x.op=4 then decide ((t.reads.length:Int)≤x.imm) else if x.op=5∨x.op=6 then decide ((t.writes.length:Int)≤x.imm) else if x.op=2 then decide ((t.args.length:Int)≤x.imm) else false
def Vy (t:Txn):Int:=
 if t.ses<1∨1099511627776<t.ses∨t.req<1∨1099511627776<t.req then 1
 else if 8<t.args.length∨16<t.reads.length∨16<t.writes.length then 3
 else if u1a Yq t.reads=false∨u1a Yq t.writes=false then 1
 else if A1a t.code≠0 then A1a t.code
 else if (WX t.code).any (Wv t) then 132 else 0
theorem T5b {l:List Int} (hb:∀ j,0≤l.getD j 0∧l.getD j 0≤255):∀ (n i:Nat),∀ x∈(WV l n i).1,x.imm≤65535
 | 0,i,x,hx=>by simp[WV]at hx
 | n+1,i,x,hx=>by
   simp only[WV]at hx
   split at hx
   ·simp at hx
   ·split at hx
    ·rename_i he
     rcases List.mem_cons.1 hx with rfl | hx
     ·obtain ⟨e,_⟩:=q1a he
      rw[e]
      have b3:=hb (i+1+(if Xq (l.getD i 0) then 1 else 0)+if Wq (l.getD i 0) then 1 else 0)
      have b4:=hb (i+1+(if Xq (l.getD i 0) then 1 else 0)+(if Wq (l.getD i 0) then 1 else 0)+1)
      simp only[Xx,d3a]
      generalize l.getD (i+1+(if Xq (l.getD i 0) then 1 else 0)+if Wq (l.getD i 0) then 1 else 0) 0=y3 at b3 ⊢
      generalize l.getD (i+1+(if Xq (l.getD i 0) then 1 else 0)+(if Wq (l.getD i 0) then 1 else 0)+1) 0=y4 at b4 ⊢
      repeat' split
      all_goals omega
     ·exact T5b hb n _ x hx
    ·simp at hx
theorem C4c {l:List Int} (hb:∀ j,0≤l.getD j 0∧l.getD j 0≤255):∀ x∈WX l,x.imm≤65535:=by
 intro x hx
 unfold WX at hx
 split at hx
 ·exact T5b hb _ _ x hx
 ·simp at hx
structure TxnAt (h:DHeap) (id:Nat) (t:Txn) (vc va vr vw:Value):Prop where
 c0:Zu h id 0=some (.int .i64 t.ses)
 c1:Zu h id 1=some (.int .i64 t.req)
 c2:Zu h id 2=some vc
 c3:Zu h id 3=some va
 c4:Zu h id 4=some vr
 c5:Zu h id 5=some vw
theorem TxnAt.of {h:DHeap} {id z:Nat} {ro:Bool} {t:Txn} {vc va vr vw:Value} (g:h.get id=some (.row [.int .i64 t.ses,.int .i64 t.req,vc,va,vr,vw] z ro)):TxnAt h id t vc va vr vw:=
 ⟨Zy g,Zy g,Zy g,Zy g,Zy g,Zy g⟩
theorem Z3b {t:Txn} {l:List Instr} {i:Nat} (hi:i<l.length) (h:(l.take i).any (Wv t)=false) (hx:Wv t l[i]=false):(l.take (i+1)).any (Wv t)=false:=by
 rw[List.take_succ_eq_append_getElem hi,List.any_append,h,Bool.false_or]
 simp[hx]
set_option maxHeartbeats 1000000 in
theorem H6b {h:DHeap} {t:Txn} {vc va vr vw:Value} (hc:Arg fU8.rep h vc t.code) (ha:Arg fI64.rep h va t.args) (hr:Arg fKey.rep h vr t.reads) (hw:Arg fKey.rep h vw t.writes) (hl:t.code.length≤1048576) :
 DC Tryz.prog 56 [Ww t.ses t.req vc va vr vw] h (.ret (.int .i64 (Vy t))) h:=by
 refine Ct.pure (l9d (by simp) ?_) (t0a _ _)
 have hvc:=hc.cells1
 have hva:=ha.cells1
 have hvr:=hr.cells1
 have hvw:=hw.cells1
 obtain ⟨H,hH⟩:∃ H,H=h.push (.row [.int .i64 t.ses,.int .i64 t.req,vc,va,vr,vw] 0 false):=⟨_,rfl⟩
 have hE:Ext h H:=by rw[hH];exact Ext.push1 _ _
 have g:H.get h.next=some (.row [.int .i64 t.ses,.int .i64 t.req,vc,va,vr,vw] 0 false):=by rw[hH];exact Zz _ _
 have hHn:H.next=h.next+1:=by rw[hH];rfl
 have LT:∀ K,Ext H K→TxnAt K h.next t vc va vr vw:=fun K e=>TxnAt.of ((e.get _ (by omega)).trans g)
 have L0:=LT H (.refl _)
 have ea:∀ K,dLen Tryz.prog #[23] va K=some (.int .i64 (t.args.length:Nat)):=ha.lens (P:=Tryz.prog) (ts:=#[23]) (t:=23) rfl D4a
 have er:∀ K,dLen Tryz.prog #[24] vr K=some (.int .i64 (t.reads.length:Nat)):=hr.lens (P:=Tryz.prog) (ts:=#[24]) (t:=24) rfl D1a
 have ew:∀ K,dLen Tryz.prog #[24] vw K=some (.int .i64 (t.writes.length:Nat)):=hw.lens (P:=Tryz.prog) (ts:=#[24]) (t:=24) rfl D1a
 by_cases p1:t.ses<1∨1099511627776<t.ses∨t.req<1∨1099511627776<t.req
 ·have hT:Vy t=1:=by rw[Vy,if_pos p1]
  by_cases q1:t.ses<1
  ·have q1':=eq_true q1
   simp -implicitDefEqProofs (disch:=first|omega|simp only[go_sem]) only[go_sem,true_and,c56,← hH,L0.c0,L0.c1,q1',Zj,ZY]
   exact ⟨_,rfl,by rw[hT],hE⟩
  by_cases q2:1099511627776<t.ses
  ·have q2':=eq_true q2
   simp -implicitDefEqProofs (disch:=first|omega|simp only[go_sem]) only[go_sem,true_and,c56,← hH,L0.c0,L0.c1,q1,q2',Zj,ZY]
   exact ⟨_,rfl,by rw[hT],hE⟩
  by_cases q3:t.req<1
  ·have q3':=eq_true q3
   simp -implicitDefEqProofs (disch:=first|omega|simp only[go_sem]) only[go_sem,true_and,c56,← hH,L0.c0,L0.c1,q1,q2,q3',Zj,ZY]
   exact ⟨_,rfl,by rw[hT],hE⟩
  have q4:1099511627776<t.req:=by omega
  have q4':=eq_true q4
  simp -implicitDefEqProofs (disch:=first|omega|simp only[go_sem]) only[go_sem,true_and,c56,← hH,L0.c0,L0.c1,q1,q2,q3,q4',Zj,ZY]
  exact ⟨_,rfl,by rw[hT],hE⟩
 have q1:¬ t.ses<1:=fun hh=>p1 (.inl hh)
 have q2:¬ 1099511627776<t.ses:=fun hh=>p1 (.inr (.inl hh))
 have q3:¬ t.req<1:=fun hh=>p1 (.inr (.inr (.inl hh)))
 have q4:¬ 1099511627776<t.req:=fun hh=>p1 (.inr (.inr (.inr hh)))
 by_cases p2:8<t.args.length∨16<t.reads.length∨16<t.writes.length
 ·have hT:Vy t=3:=by rw[Vy,if_neg p1,if_pos p2]
  by_cases r1:(8:Int)<(t.args.length:Nat)
  ·have r1':=eq_true r1
   simp -implicitDefEqProofs (disch:=first|omega|simp only[go_sem]) only[go_sem,true_and,c56,← hH,L0.c0,L0.c1,L0.c3,L0.c4,L0.c5,ea,er,ew,q1,q2,q3,q4,r1',Zj,ZY]
   exact ⟨_,rfl,by rw[hT],hE⟩
  by_cases r2:(16:Int)<(t.reads.length:Nat)
  ·have r2':=eq_true r2
   simp -implicitDefEqProofs (disch:=first|omega|simp only[go_sem]) only[go_sem,true_and,c56,← hH,L0.c0,L0.c1,L0.c3,L0.c4,L0.c5,ea,er,ew,q1,q2,q3,q4,r1,r2',Zj,ZY]
   exact ⟨_,rfl,by rw[hT],hE⟩
  have r3:(16:Int)<(t.writes.length:Nat):=by omega
  have r3':=eq_true r3
  simp -implicitDefEqProofs (disch:=first|omega|simp only[go_sem]) only[go_sem,true_and,c56,← hH,L0.c0,L0.c1,L0.c3,L0.c4,L0.c5,ea,er,ew,q1,q2,q3,q4,r1,r2,r3',Zj,ZY]
  exact ⟨_,rfl,by rw[hT],hE⟩
 have r1:¬ (8:Int)<(t.args.length:Nat):=by omega
 have r2:¬ (16:Int)<(t.reads.length:Nat):=by omega
 have r3:¬ (16:Int)<(t.writes.length:Nat):=by omega
 simp -implicitDefEqProofs (disch:=first|omega|simp only[go_sem]) only[go_sem,true_and,c56,← hH,L0.c0,L0.c1,L0.c3,L0.c4,L0.c5,ea,er,ew,q1,q2,q3,q4,r1,r2,r3,Zj,ZY]
 refine YV (i1b (hr.ext hE) (by omega)) ?_
 cases u1:u1a Yq t.reads with
 | false=>
   have hT:Vy t=1:=by rw[Vy,if_neg p1,if_neg p2,if_pos (.inl u1)]
   simp -implicitDefEqProofs (disch:=first|omega|simp only[go_sem]) only[go_sem,true_and,Zj,ZY]
   exact ⟨_,rfl,by rw[hT],hE⟩
 | true=>
 simp -implicitDefEqProofs (disch:=first|omega|simp only[go_sem]) only[go_sem,true_and,L0.c5]
 refine YV (i1b (hw.ext hE) (by omega)) ?_
 cases u2:u1a Yq t.writes with
 | false=>
   have hT:Vy t=1:=by rw[Vy,if_neg p1,if_neg p2,if_pos (.inr u2)]
   simp -implicitDefEqProofs (disch:=first|omega|simp only[go_sem]) only[go_sem,true_and,Zj,ZY]
   exact ⟨_,rfl,by rw[hT],hE⟩
 | true=>
 have hT:Vy t=if A1a t.code≠0 then A1a t.code else if (WX t.code).any (Wv t) then 132 else 0:=by rw[Vy,if_neg p1,if_neg p2,if_neg (by simp[u1,u2])]
 simp -implicitDefEqProofs (disch:=first|omega|simp only[go_sem]) only[go_sem,true_and,Zj,ZY,L0.c2]
 refine Yu (I6b (hc.ext hE) hl) ?_
 rintro r h1 ⟨w,rfl,hE1,hxs⟩
 have L1:=LT h1 hE1
 by_cases he:A1a t.code=0
 case neg=>
  rw[if_pos he]at hT
  simp -implicitDefEqProofs (disch:=first|omega|simp only[go_sem]) only[go_sem,true_and,Xj,he]
  exact ⟨_,rfl,by rw[hT],hE.trans hE1⟩
 have he':=eq_true he
 rw[if_neg (fun hh=>hh he)]at hT
 obtain ⟨xs,hx⟩:∃ xs,WX t.code=xs:=⟨_,rfl⟩
 rw[hx]at hxs hT
 have elw:∀ K,dLen Tryz.prog #[143] w K=some (.int .i64 (xs.length:Nat)):=hxs.lens (P:=Tryz.prog) (ts:=#[143]) (t:=143) rfl R5a
 have hxl:xs.length≤1048576:=by
  rw[← hx]
  rw[WX,if_pos he]
  have:=z3a (l:=t.code) (n:=t.code.length) (i:=0) (by omega)
  omega
 simp -implicitDefEqProofs (disch:=first|omega|simp only[go_sem]) only[go_sem,true_and,Xj,he']
 refine Xu (σ:=Nat) (by kernel_rfl) (fun i s=>s.df=[]∧s.h=h1∧s.fr 1=some (.pointer (some ⟨h.next,0,none⟩))∧s.fr 3=some w∧s.fr 5=some (.int .i64 (i:Nat))∧i≤xs.length∧(xs.take i).any (Wv t)=false) (fun i=>xs.length - i) 0 ?_ ?_
 ·simp -implicitDefEqProofs (disch:=first|omega|simp only[go_sem]) only[go_sem,true_and]
  exact ⟨rfl,Nat.zero_le _,rfl⟩
 ·rintro i ⟨fr,df,K,rd⟩ K' hK' hX ⟨rfl,rfl,f1,f3,f5,hi,hn⟩
  simp only at f1 f3 f5
  simp -implicitDefEqProofs (disch:=first|omega|simp only[go_sem]) only[go_sem,true_and,f3,f5,elw]
  refine YX (fun hc1=>?_) (fun hc1=>?_)
  ·have hj:i<xs.length:=by omega
   obtain ⟨id,o,g',_,_,d1,d4⟩:=k4a hxs hj
   have hw1:=ZV hj (by omega)
   have hmem:=List.getElem_mem hj
   have hsucc:=fun hx=>Z3b (t:=t) hj hn hx
   have hbad:∀ hb:Wv t xs[i]=true,xs.any (Wv t)=true:=fun hb=>List.any_eq_true.2 ⟨_,hmem,hb⟩
   obtain ⟨x,hxi⟩:∃ x,xs[i]=x:=⟨_,rfl⟩
   rw[hxi]at d1 d4 hsucc hbad
   have good:∀ {s:St},s.df=[]→s.h=K→s.fr 1=some (.pointer (some ⟨h.next,0,none⟩))→s.fr 3=some w→s.fr 5=some (.int .i64 ((i+1:Nat):Int))→Wv t x=false→K' .normal s:=fun a b c d e f=>
    hK' (i+1) _ ⟨a,b,c,d,e,by omega,hsucc f⟩ (by omega)
   have bad:Wv t x=true→∃ v,some (Value.int .i64 132)=some v∧DEnd.ret v=.ret (.int .i64 (Vy t))∧Ext h K:=fun hb=>by
    rw[hbad hb,if_pos rfl]at hT
    exact ⟨_,rfl,by rw[hT],hE.trans hE1⟩
   by_cases n3:x.op=3
   ·have o':=eq_true n3
    have hb:Wv t x=decide ((t.reads.length:Int)≤x.imm):=by simp[Wv,n3]
    by_cases hm:(t.reads.length:Int)≤x.imm
    ·have hm':=eq_true hm
     simp -implicitDefEqProofs (disch:=first|omega|simp only[go_sem]) only[go_sem,true_and,f1,f3,f5,g',d1,d4,L1.c4,er,o',hm']
     refine hX _ _ (by simp) ?_
     simp -implicitDefEqProofs (disch:=first|omega|simp only[go_sem]) only[go_sem,true_and]
     exact bad (by rw[hb,decide_eq_true hm])
    ·simp -implicitDefEqProofs (disch:=first|omega|simp only[go_sem]) only[go_sem,true_and,f1,f3,f5,g',d1,d4,L1.c4,er,o',hm,hw1]
     exact good rfl rfl (vy f1) (vy f3) vz (by rw[hb,decide_eq_false hm])
   by_cases n4:x.op=4
   ·have o':=eq_true n4
    have hb:Wv t x=decide ((t.reads.length:Int)≤x.imm):=by simp[Wv,n3,n4]
    by_cases hm:(t.reads.length:Int)≤x.imm
    ·have hm':=eq_true hm
     simp -implicitDefEqProofs (disch:=first|omega|simp only[go_sem]) only[go_sem,true_and,f1,f3,f5,g',d1,d4,L1.c4,er,n3,o',hm']
     refine hX _ _ (by simp) ?_
     simp -implicitDefEqProofs (disch:=first|omega|simp only[go_sem]) only[go_sem,true_and]
     exact bad (by rw[hb,decide_eq_true hm])
    ·simp -implicitDefEqProofs (disch:=first|omega|simp only[go_sem]) only[go_sem,true_and,f1,f3,f5,g',d1,d4,L1.c4,er,n3,o',hm,hw1]
     exact good rfl rfl (vy f1) (vy f3) vz (by rw[hb,decide_eq_false hm])
   by_cases n5:x.op=5
   ·have o':=eq_true n5
    have hb:Wv t x=decide ((t.writes.length:Int)≤x.imm):=by simp[Wv,n3,n4,n5]
    by_cases hm:(t.writes.length:Int)≤x.imm
    ·have hm':=eq_true hm
     simp -implicitDefEqProofs (disch:=first|omega|simp only[go_sem]) only[go_sem,true_and,f1,f3,f5,g',d1,d4,L1.c5,ew,n3,n4,o',hm']
     refine hX _ _ (by simp) ?_
     simp -implicitDefEqProofs (disch:=first|omega|simp only[go_sem]) only[go_sem,true_and]
     exact bad (by rw[hb,decide_eq_true hm])
    ·simp -implicitDefEqProofs (disch:=first|omega|simp only[go_sem]) only[go_sem,true_and,f1,f3,f5,g',d1,d4,L1.c5,ew,n3,n4,o',hm,hw1]
     exact good rfl rfl (vy f1) (vy f3) vz (by rw[hb,decide_eq_false hm])
   by_cases n6:x.op=6
   ·have o':=eq_true n6
    have hb:Wv t x=decide ((t.writes.length:Int)≤x.imm):=by simp[Wv,n3,n4,n5,n6]
    by_cases hm:(t.writes.length:Int)≤x.imm
    ·have hm':=eq_true hm
     simp -implicitDefEqProofs (disch:=first|omega|simp only[go_sem]) only[go_sem,true_and,f1,f3,f5,g',d1,d4,L1.c5,ew,n3,n4,n5,o',hm']
     refine hX _ _ (by simp) ?_
     simp -implicitDefEqProofs (disch:=first|omega|simp only[go_sem]) only[go_sem,true_and]
     exact bad (by rw[hb,decide_eq_true hm])
    ·simp -implicitDefEqProofs (disch:=first|omega|simp only[go_sem]) only[go_sem,true_and,f1,f3,f5,g',d1,d4,L1.c5,ew,n3,n4,n5,o',hm,hw1]
     exact good rfl rfl (vy f1) (vy f3) vz (by rw[hb,decide_eq_false hm])
   by_cases n2:x.op=2
   ·have o':=eq_true n2
    have hb:Wv t x=decide ((t.args.length:Int)≤x.imm):=by simp[Wv,n3,n4,n5,n6,n2]
    by_cases hm:(t.args.length:Int)≤x.imm
    ·have hm':=eq_true hm
     simp -implicitDefEqProofs (disch:=first|omega|simp only[go_sem]) only[go_sem,true_and,f1,f3,f5,g',d1,d4,L1.c3,ea,n3,n4,n5,n6,o',hm']
     refine hX _ _ (by simp) ?_
     simp -implicitDefEqProofs (disch:=first|omega|simp only[go_sem]) only[go_sem,true_and]
     exact bad (by rw[hb,decide_eq_true hm])
    ·simp -implicitDefEqProofs (disch:=first|omega|simp only[go_sem]) only[go_sem,true_and,f1,f3,f5,g',d1,d4,L1.c3,ea,n3,n4,n5,n6,o',hm,hw1]
     exact good rfl rfl (vy f1) (vy f3) vz (by rw[hb,decide_eq_false hm])
   have hb:Wv t x=false:=by simp[Wv,n3,n4,n5,n6,n2]
   simp -implicitDefEqProofs (disch:=first|omega|simp only[go_sem]) only[go_sem,true_and,f1,f3,f5,g',d1,d4,n3,n4,n5,n6,n2,hw1]
   exact good rfl rfl (vy f1) (vy f3) vz hb
  ·obtain rfl:i=xs.length:=by omega
   rw[List.take_length]at hn
   rw[hn]at hT
   refine hX _ _ (by simp) ?_
   simp -implicitDefEqProofs (disch:=first|omega|simp only[go_sem]) only[go_sem,true_and]
   exact ⟨_,rfl,by rw[hT];rfl,hE.trans hE1⟩
set_option maxHeartbeats 1000000 in
theorem W3c {h:DHeap} {t:Txn} {vc va vr vw:Value} (hc:Arg fU8.rep h vc t.code) (ha:Arg fI64.rep h va t.args) (hr:Arg fKey.rep h vr t.reads) (hw:Arg fKey.rep h vw t.writes) (hl:t.code.length≤1048576) (hby:∀ j,0≤t.code.getD j 0∧t.code.getD j 0≤255) :
 DC Tryz.prog 69 [Ww t.ses t.req vc va vr vw] h (.ret (.int .i64 (Vy t))) h:=by
 refine Ct.pure (s9d (by simp) ?_) (t0a _ _)
 have hvc:=hc.cells1
 have hva:=ha.cells1
 have hvr:=hr.cells1
 have hvw:=hw.cells1
 obtain ⟨H,hH⟩:∃ H,H=h.push (.row [.int .i64 t.ses,.int .i64 t.req,vc,va,vr,vw] 0 false):=⟨_,rfl⟩
 have hE:Ext h H:=by rw[hH];exact Ext.push1 _ _
 have g:H.get h.next=some (.row [.int .i64 t.ses,.int .i64 t.req,vc,va,vr,vw] 0 false):=by rw[hH];exact Zz _ _
 have hHn:H.next=h.next+1:=by rw[hH];rfl
 have LT:∀ K,Ext H K→TxnAt K h.next t vc va vr vw:=fun K e=>TxnAt.of ((e.get _ (by omega)).trans g)
 have L0:=LT H (.refl _)
 have ea:∀ K,dLen Tryz.prog #[23] va K=some (.int .i64 (t.args.length:Nat)):=ha.lens (P:=Tryz.prog) (ts:=#[23]) (t:=23) rfl D4a
 have er:∀ K,dLen Tryz.prog #[24] vr K=some (.int .i64 (t.reads.length:Nat)):=hr.lens (P:=Tryz.prog) (ts:=#[24]) (t:=24) rfl D1a
 have ew:∀ K,dLen Tryz.prog #[24] vw K=some (.int .i64 (t.writes.length:Nat)):=hw.lens (P:=Tryz.prog) (ts:=#[24]) (t:=24) rfl D1a
 by_cases p1:t.ses<1∨1099511627776<t.ses∨t.req<1∨1099511627776<t.req
 ·have hT:Vy t=1:=by rw[Vy,if_pos p1]
  by_cases q1:t.ses<1
  ·have q1':=eq_true q1
   simp -implicitDefEqProofs (disch:=first|omega|simp only[go_sem]) only[go_sem,true_and,c69,← hH,L0.c0,L0.c1,q1',Zj,ZY]
   exact ⟨_,rfl,by rw[hT],hE⟩
  by_cases q2:1099511627776<t.ses
  ·have q2':=eq_true q2
   simp -implicitDefEqProofs (disch:=first|omega|simp only[go_sem]) only[go_sem,true_and,c69,← hH,L0.c0,L0.c1,q1,q2',Zj,ZY]
   exact ⟨_,rfl,by rw[hT],hE⟩
  by_cases q3:t.req<1
  ·have q3':=eq_true q3
   simp -implicitDefEqProofs (disch:=first|omega|simp only[go_sem]) only[go_sem,true_and,c69,← hH,L0.c0,L0.c1,q1,q2,q3',Zj,ZY]
   exact ⟨_,rfl,by rw[hT],hE⟩
  have q4:1099511627776<t.req:=by omega
  have q4':=eq_true q4
  simp -implicitDefEqProofs (disch:=first|omega|simp only[go_sem]) only[go_sem,true_and,c69,← hH,L0.c0,L0.c1,q1,q2,q3,q4',Zj,ZY]
  exact ⟨_,rfl,by rw[hT],hE⟩
 have q1:¬ t.ses<1:=fun hh=>p1 (.inl hh)
 have q2:¬ 1099511627776<t.ses:=fun hh=>p1 (.inr (.inl hh))
 have q3:¬ t.req<1:=fun hh=>p1 (.inr (.inr (.inl hh)))
 have q4:¬ 1099511627776<t.req:=fun hh=>p1 (.inr (.inr (.inr hh)))
 by_cases p2:8<t.args.length∨16<t.reads.length∨16<t.writes.length
 ·have hT:Vy t=3:=by rw[Vy,if_neg p1,if_pos p2]
  by_cases r1:(8:Int)<(t.args.length:Nat)
  ·have r1':=eq_true r1
   simp -implicitDefEqProofs (disch:=first|omega|simp only[go_sem]) only[go_sem,true_and,c69,← hH,L0.c0,L0.c1,L0.c3,L0.c4,L0.c5,ea,er,ew,q1,q2,q3,q4,r1',Zj,ZY]
   exact ⟨_,rfl,by rw[hT],hE⟩
  by_cases r2:(16:Int)<(t.reads.length:Nat)
  ·have r2':=eq_true r2
   simp -implicitDefEqProofs (disch:=first|omega|simp only[go_sem]) only[go_sem,true_and,c69,← hH,L0.c0,L0.c1,L0.c3,L0.c4,L0.c5,ea,er,ew,q1,q2,q3,q4,r1,r2',Zj,ZY]
   exact ⟨_,rfl,by rw[hT],hE⟩
  have r3:(16:Int)<(t.writes.length:Nat):=by omega
  have r3':=eq_true r3
  simp -implicitDefEqProofs (disch:=first|omega|simp only[go_sem]) only[go_sem,true_and,c69,← hH,L0.c0,L0.c1,L0.c3,L0.c4,L0.c5,ea,er,ew,q1,q2,q3,q4,r1,r2,r3',Zj,ZY]
  exact ⟨_,rfl,by rw[hT],hE⟩
 have r1:¬ (8:Int)<(t.args.length:Nat):=by omega
 have r2:¬ (16:Int)<(t.reads.length:Nat):=by omega
 have r3:¬ (16:Int)<(t.writes.length:Nat):=by omega
 simp -implicitDefEqProofs (disch:=first|omega|simp only[go_sem]) only[go_sem,true_and,c69,← hH,L0.c0,L0.c1,L0.c3,L0.c4,L0.c5,ea,er,ew,q1,q2,q3,q4,r1,r2,r3,Zj,ZY]
 refine YV (L7b (hr.ext hE) (by omega)) ?_
 cases u1:u1a Yq t.reads with
 | false=>
   have hT:Vy t=1:=by rw[Vy,if_neg p1,if_neg p2,if_pos (.inl u1)]
   simp -implicitDefEqProofs (disch:=first|omega|simp only[go_sem]) only[go_sem,true_and,Zj,ZY]
   exact ⟨_,rfl,by rw[hT],hE⟩
 | true=>
 simp -implicitDefEqProofs (disch:=first|omega|simp only[go_sem]) only[go_sem,true_and,L0.c5]
 refine YV (L7b (hw.ext hE) (by omega)) ?_
 cases u2:u1a Yq t.writes with
 | false=>
   have hT:Vy t=1:=by rw[Vy,if_neg p1,if_neg p2,if_pos (.inr u2)]
   simp -implicitDefEqProofs (disch:=first|omega|simp only[go_sem]) only[go_sem,true_and,Zj,ZY]
   exact ⟨_,rfl,by rw[hT],hE⟩
 | true=>
 have hT:Vy t=if A1a t.code≠0 then A1a t.code else if (WX t.code).any (Wv t) then 132 else 0:=by rw[Vy,if_neg p1,if_neg p2,if_neg (by simp[u1,u2])]
 simp -implicitDefEqProofs (disch:=first|omega|simp only[go_sem]) only[go_sem,true_and,Zj,ZY,L0.c2]
 refine Yu (P4b (hc.ext hE) hl) ?_
 rintro r h1 ⟨w,rfl,hE1,hxs⟩
 have L1:=LT h1 hE1
 by_cases he:A1a t.code=0
 case neg=>
  rw[if_pos he]at hT
  simp -implicitDefEqProofs (disch:=first|omega|simp only[go_sem]) only[go_sem,true_and,Xj,he]
  exact ⟨_,rfl,by rw[hT],hE.trans hE1⟩
 have he':=eq_true he
 rw[if_neg (fun hh=>hh he)]at hT
 obtain ⟨xs,hx⟩:∃ xs,WX t.code=xs:=⟨_,rfl⟩
 rw[hx]at hxs hT
 have elw:∀ K,dLen Tryz.prog #[143] w K=some (.int .i64 (xs.length:Nat)):=hxs.lens (P:=Tryz.prog) (ts:=#[143]) (t:=143) rfl R5a
 have hxl:xs.length≤1048576:=by
  rw[← hx]
  rw[WX,if_pos he]
  have:=z3a (l:=t.code) (n:=t.code.length) (i:=0) (by omega)
  omega
 simp -implicitDefEqProofs (disch:=first|omega|simp only[go_sem]) only[go_sem,true_and,Xj,he',elw]
 have himm:=C4c hby
 rw[hx]at himm
 refine Xu (σ:=Nat) (by kernel_rfl) (fun i s=>s.df=[]∧s.rd=none∧Ext h1 s.h∧s.fr 1=some (.pointer (some ⟨h.next,0,none⟩))∧s.fr 64=some w∧s.fr 65=some (.int .i64 (xs.length:Nat))∧s.fr 66=some (.int .i64 (i:Nat))∧i≤xs.length∧(xs.take i).any (Wv t)=false) (fun i=>xs.length - i) 0 ?_ ?_
 ·simp -implicitDefEqProofs (disch:=first|omega|simp only[go_sem]) only[go_sem,true_and]
  exact ⟨.refl _,rfl,Nat.zero_le _,rfl⟩
 ·rintro i ⟨fr,df,K,rd⟩ K' hK' hX ⟨hdf,hrd,hEK,f1,f64,f65,f66,hi,hn⟩
  simp only at hdf hrd hEK f1 f64 f65 f66
  subst hdf hrd
  simp -implicitDefEqProofs (disch:=first|omega|simp only[go_sem]) only[go_sem,true_and,f65,f66]
  refine YX (fun hc1=>?_) (fun hc1=>?_)
  ·have hj:i<xs.length:=by omega
   obtain ⟨id,o,g',c5,_,_,_⟩:=k4a (hxs.ext hEK) hj
   have hw1:=ZV hj (by omega)
   have hmem:=List.getElem_mem hj
   have him:=himm _ hmem
   have hsucc:=fun hx=>Z3b (t:=t) hj hn hx
   have hbad:∀ hb:Wv t xs[i]=true,xs.any (Wv t)=true:=fun hb=>List.any_eq_true.2 ⟨_,hmem,hb⟩
   obtain ⟨x,hxi⟩:∃ x,xs[i]=x:=⟨_,rfl⟩
   rw[hxi]at c5 hsucc hbad him
   obtain ⟨K1,hK1⟩:∃ K1,K1=K.push (.row (fInstr.enc x) 0 false):=⟨_,rfl⟩
   have g1:K1.get K.next=some (.row (fInstr.enc x) 0 false):=by rw[hK1];exact Zz _ _
   have p1':Zu K1 K.next 1=some (.int .i64 x.op):=Zy g1
   have p4:Zu K1 K.next 4=some (.int .i64 x.imm):=Zy g1
   have s5:=p6a (h:=K) (x:=x)
   rw[← hK1]at s5
   have hEK1:Ext h1 K1:=hEK.trans (by rw[hK1];exact Ext.push1 _ _)
   have L2:=LT K1 (hE1.trans hEK1)
   have good:∀ {s:St},s.df=[]→s.rd=none→s.h=K1→s.fr 1=some (.pointer (some ⟨h.next,0,none⟩))→s.fr 64=some w→s.fr 65=some (.int .i64 (xs.length:Nat))→s.fr 66=some (.int .i64 ((i+1:Nat):Int))→Wv t x=false→K' .normal s:=fun a r b c d e g f=>
    hK' (i+1) _ ⟨a,r,b▸hEK1,c,d,e,g,by omega,hsucc f⟩ (by omega)
   have bad:Wv t x=true→∃ v,some (Value.int .i64 132)=some v∧DEnd.ret v=.ret (.int .i64 (Vy t))∧Ext h K1:=fun hb=>by
    rw[hbad hb,if_pos rfl]at hT
    exact ⟨_,rfl,by rw[hT],(hE.trans hE1).trans hEK1⟩
   by_cases n3:x.op=3
   ·have o':=eq_true n3
    have hb:Wv t x=decide ((t.reads.length:Int)≤x.imm):=by simp[Wv,n3]
    by_cases hm:(t.reads.length:Int)≤x.imm
    ·have hm':=eq_true hm
     simp -implicitDefEqProofs (disch:=first|omega|simp only[go_sem]) only[go_sem,true_and,f1,f64,f66,g',c5,s5,p1',p4,L2.c4,er,o',hm']
     refine hX _ _ (by simp) ?_
     simp -implicitDefEqProofs (disch:=first|omega|simp only[go_sem]) only[go_sem,true_and]
     exact bad (by rw[hb,decide_eq_true hm])
    ·simp -implicitDefEqProofs (disch:=first|omega|simp only[go_sem]) only[go_sem,true_and,f1,f64,f66,g',c5,s5,p1',p4,L2.c4,er,o',hm,hw1]
     exact good rfl rfl rfl (vy f1) (vy f64) (vy f65) vz (by rw[hb,decide_eq_false hm])
   by_cases n4:x.op=4
   ·have o':=eq_true n4
    have hb:Wv t x=decide ((t.reads.length:Int)≤x.imm):=by simp[Wv,n3,n4]
    by_cases hm:(t.reads.length:Int)≤x.imm
    ·have hm':=eq_true hm
     simp -implicitDefEqProofs (disch:=first|omega|simp only[go_sem]) only[go_sem,true_and,f1,f64,f66,g',c5,s5,p1',p4,L2.c4,er,n3,o',hm']
     refine hX _ _ (by simp) ?_
     simp -implicitDefEqProofs (disch:=first|omega|simp only[go_sem]) only[go_sem,true_and]
     exact bad (by rw[hb,decide_eq_true hm])
    ·simp -implicitDefEqProofs (disch:=first|omega|simp only[go_sem]) only[go_sem,true_and,f1,f64,f66,g',c5,s5,p1',p4,L2.c4,er,n3,o',hm,hw1]
     exact good rfl rfl rfl (vy f1) (vy f64) (vy f65) vz (by rw[hb,decide_eq_false hm])
   by_cases n5:x.op=5
   ·have o':=eq_true n5
    have hb:Wv t x=decide ((t.writes.length:Int)≤x.imm):=by simp[Wv,n3,n4,n5]
    by_cases hm:(t.writes.length:Int)≤x.imm
    ·have hm':=eq_true hm
     simp -implicitDefEqProofs (disch:=first|omega|simp only[go_sem]) only[go_sem,true_and,f1,f64,f66,g',c5,s5,p1',p4,L2.c5,ew,n3,n4,o',hm']
     refine hX _ _ (by simp) ?_
     simp -implicitDefEqProofs (disch:=first|omega|simp only[go_sem]) only[go_sem,true_and]
     exact bad (by rw[hb,decide_eq_true hm])
    ·simp -implicitDefEqProofs (disch:=first|omega|simp only[go_sem]) only[go_sem,true_and,f1,f64,f66,g',c5,s5,p1',p4,L2.c5,ew,n3,n4,o',hm,hw1]
     exact good rfl rfl rfl (vy f1) (vy f64) (vy f65) vz (by rw[hb,decide_eq_false hm])
   by_cases n6:x.op=6
   ·have o':=eq_true n6
    have hb:Wv t x=decide ((t.writes.length:Int)≤x.imm):=by simp[Wv,n3,n4,n5,n6]
    by_cases hm:(t.writes.length:Int)≤x.imm
    ·have hm':=eq_true hm
     simp -implicitDefEqProofs (disch:=first|omega|simp only[go_sem]) only[go_sem,true_and,f1,f64,f66,g',c5,s5,p1',p4,L2.c5,ew,n3,n4,n5,o',hm']
     refine hX _ _ (by simp) ?_
     simp -implicitDefEqProofs (disch:=first|omega|simp only[go_sem]) only[go_sem,true_and]
     exact bad (by rw[hb,decide_eq_true hm])
    ·simp -implicitDefEqProofs (disch:=first|omega|simp only[go_sem]) only[go_sem,true_and,f1,f64,f66,g',c5,s5,p1',p4,L2.c5,ew,n3,n4,n5,o',hm,hw1]
     exact good rfl rfl rfl (vy f1) (vy f64) (vy f65) vz (by rw[hb,decide_eq_false hm])
   by_cases n2:x.op=2
   ·have o':=eq_true n2
    have hb:Wv t x=decide ((t.args.length:Int)≤x.imm):=by simp[Wv,n3,n4,n5,n6,n2]
    by_cases hm:(t.args.length:Int)≤x.imm
    ·have hm':=eq_true hm
     simp -implicitDefEqProofs (disch:=first|omega|simp only[go_sem]) only[go_sem,true_and,f1,f64,f66,g',c5,s5,p1',p4,L2.c3,ea,n3,n4,n5,n6,o',hm']
     refine hX _ _ (by simp) ?_
     simp -implicitDefEqProofs (disch:=first|omega|simp only[go_sem]) only[go_sem,true_and]
     exact bad (by rw[hb,decide_eq_true hm])
    ·simp -implicitDefEqProofs (disch:=first|omega|simp only[go_sem]) only[go_sem,true_and,f1,f64,f66,g',c5,s5,p1',p4,L2.c3,ea,n3,n4,n5,n6,o',hm,hw1]
     exact good rfl rfl rfl (vy f1) (vy f64) (vy f65) vz (by rw[hb,decide_eq_false hm])
   have hb:Wv t x=false:=by simp[Wv,n3,n4,n5,n6,n2]
   have hm:¬ 1048576≤x.imm:=by omega
   simp -implicitDefEqProofs (disch:=first|omega|simp only[go_sem]) only[go_sem,true_and,f1,f64,f66,g',c5,s5,p1',p4,n3,n4,n5,n6,n2,hm,hw1]
   exact good rfl rfl rfl (vy f1) (vy f64) (vy f65) vz hb
  ·obtain rfl:i=xs.length:=by omega
   rw[List.take_length]at hn
   rw[hn]at hT
   refine hX _ _ (by simp) ?_
   simp -implicitDefEqProofs (disch:=first|omega|simp only[go_sem]) only[go_sem,true_and]
   exact ⟨_,rfl,by rw[hT];rfl,(hE.trans hE1).trans hEK⟩
theorem m8b {h:DHeap} {b:Value} {l:List Int} (hb:Arg fI64.rep h b l) (hl:l.length≤4294967296):DC Tryz.prog 63 [b] h (.ret (q4a h b l)) (a3a fI64 h b l):=by
 refine Ct.cloned hb (r9d (by simp) ?_)
 simp -implicitDefEqProofs (disch:=first|omega|simp only[go_sem]) only[go_sem,c63,hb.nilEq D4a]
 refine A0a (fun hn=>?_) (fun hn=>?_)
 ·simp -implicitDefEqProofs (disch:=first|omega|simp only[go_sem]) only[go_sem]
  obtain ⟨_,rfl⟩:=u3a hb hn
  exact ⟨_,rfl,_,rfl,.nil _ (.refl h),hn.symm⟩
 ·have m0:Made fI64 h (h.push (.row [] 1 false)) (.slice (some ⟨h.next,0,none⟩) 0 0) []:=.none0 fI64 (.refl h) rfl
  obtain ⟨v2,h2,e2,m2,k2⟩:=m0.append a4b (hb.ext (Ext.push1 _ _)) (by simpa using hl) (by decide)
  simp -implicitDefEqProofs (disch:=first|omega|simp only[go_sem]) only[go_sem,e2]
  exact ⟨_,rfl,_,rfl,m2,(m0.isNil_append rfl m2 fun hk=>(k2 hk).1).trans hn.symm⟩
theorem n8b {h:DHeap} {b:Value} {l:List Key} (hb:Arg fKey.rep h b l) (hl:l.length≤4294967296):DC Tryz.prog 137 [b] h (.ret (q4a h b l)) (a3a fKey h b l):=by
 refine Ct.cloned hb (V5d (by simp) ?_)
 simp -implicitDefEqProofs (disch:=first|omega|simp only[go_sem]) only[go_sem,v4d,hb.nilEq D1a]
 refine A0a (fun hn=>?_) (fun hn=>?_)
 ·simp -implicitDefEqProofs (disch:=first|omega|simp only[go_sem]) only[go_sem]
  obtain ⟨_,rfl⟩:=u3a hb hn
  exact ⟨_,rfl,_,rfl,.nil _ (.refl h),hn.symm⟩
 ·have m0:Made fKey h (h.push (.row [] 2 false)) (.slice (some ⟨h.next,0,none⟩) 0 0) []:=.none0 fKey (.refl h) rfl
  obtain ⟨v2,h2,e2,m2,k2⟩:=m0.append b4b (hb.ext (Ext.push1 _ _)) (by simpa using hl) (by decide)
  simp -implicitDefEqProofs (disch:=first|omega|simp only[go_sem]) only[go_sem,e2]
  exact ⟨_,rfl,_,rfl,m2,(m0.isNil_append rfl m2 fun hk=>(k2 hk).1).trans hn.symm⟩
structure TxV (S:Nat→Prop) (h:DHeap) (t:Txn) (vc va vr vw:Value):Prop where
 c:Sl fU8.rep S h vc t.code
 a:Sl fI64.rep S h va t.args
 r:Sl fKey.rep S h vr t.reads
 w:Sl fKey.rep S h vw t.writes
theorem TxV.mono {S S':Nat→Prop} {h h':DHeap} {t:Txn} {vc va vr vw:Value} (x:TxV S h t vc va vr vw) (m:∀ i,S i→S' i∧h'.get i=h.get i):TxV S' h' t vc va vr vw:=
 ⟨x.c.mono m,x.a.mono m,x.r.mono m,x.w.mono m⟩
structure P3a (t:Txn):Prop where
 c:t.code.length≤1048576
 a:t.args.length≤1048576
 r:t.reads.length≤1048576
 w:t.writes.length≤1048576
abbrev InH (h:DHeap):Nat→Prop:=fun i=>i<h.next
abbrev p7a (h h1:DHeap):Nat→Prop:=fun i=>h.next≤i∧i<h1.next
theorem TxV.ext {h h1:DHeap} {t:Txn} {vc va vr vw:Value} (x:TxV (InH h) h t vc va vr vw) (e:Ext h h1):TxV (InH h1) h1 t vc va vr vw:=
 x.mono fun i hi=>⟨Nat.lt_of_lt_of_le hi e.next,e.get i hi⟩
theorem TxV.one {S:Nat→Prop} {h:DHeap} {t:Txn} {vc va vr vw:Value} (x:TxV S h t vc va vr vw) (a b:Int):[.int .i64 a,.int .i64 b,vc,va,vr,vw].all Value.oneCell'=true:=by
 obtain ⟨_,_,rfl⟩:=x.c.isSlice
 obtain ⟨_,_,rfl⟩:=x.a.isSlice
 obtain ⟨_,_,rfl⟩:=x.r.isSlice
 obtain ⟨_,_,rfl⟩:=x.w.isSlice
 rfl
theorem I9b {K:DHeap} {id o z:Nat} {R R':List Value} {v:Value} (hv:v.cells=#[v]) (hone:[v].all Value.oneCell'=true) (ho:o+1≤R.length) (hR:R.set o v=R') (g:K.get id=some (.row R z false)):storeAt K id o [v]=some (K.set id (.row R' z false)):=by
 subst hR
 exact ZJ g ho hone
theorem q6d {α:Type} {R:Rep α} {S:Nat→Prop} {h:DHeap} {v:Value} {l:List α} (x:Sl R S h v l):[v].all Value.oneCell'=true:=by obtain ⟨_,_,rfl⟩:=x.isSlice;rfl
def Wrt (h:DHeap) (i:Nat):Prop:=∃ cs z,h.get i=some (.row cs z false)
theorem P7a {α:Type} {R:Rep α} {S S':Nat→Prop} {h h':DHeap} {v:Value} {l:List α} (x:Sl R (fun i=>S i∧Wrt h i) h v l) (m:∀ i,S i→S' i∧h'.get i=h.get i):Sl R (fun i=>S' i∧Wrt h' i) h' v l:=
 x.mono fun i hi=>by
  obtain ⟨a,b⟩:=m i hi.1
  obtain ⟨cs,z,g⟩:=hi.2
  exact ⟨⟨a,cs,z,b.trans g⟩,b⟩
def TxW (S:Nat→Prop) (h:DHeap) (t:Txn) (vc va vr vw:Value):Prop:=TxV (fun i=>S i∧Wrt h i) h t vc va vr vw
theorem TxW.v {S:Nat→Prop} {h:DHeap} {t:Txn} {vc va vr vw:Value} (x:TxW S h t vc va vr vw):TxV S h t vc va vr vw:=TxV.mono x fun _ hi=>⟨hi.1,rfl⟩
theorem TxW.mono {S S':Nat→Prop} {h h':DHeap} {t:Txn} {vc va vr vw:Value} (x:TxW S h t vc va vr vw) (m:∀ i,S i→S' i∧h'.get i=h.get i):TxW S' h' t vc va vr vw:=
 ⟨P7a x.c m,P7a x.a m,P7a x.r m,P7a x.w m⟩
theorem A1c {P:Program} {t:TypeId} {s:ByteArray} (ht:P.underlying t=some .string) (hs:s[0]? = some 0):k5a P t (.string s) (.int .u8 (IntKind.u8.wrap 0))=some (.int .u8 0):=by
 rw[show IntKind.u8.wrap 0=0 by decide]
 unfold k5a
 rw[ht]
 simp only[Int.le_refl,if_true,Int.toNat_zero,hs]
 rfl
theorem H1d {h:DHeap}:DC Tryz.prog 131 [.int .u64 0] h (.ret (.int .i64 0)) h:=by
 refine Ct.pure (P5d (by simp) ?_) (t0a _ _)
 simp -implicitDefEqProofs (disch:=first|omega|simp only[go_sem]) only[go_sem,true_and,r4d]
 rw[A1c (by kernel_rfl) (by kernel_rfl)]
 simp -implicitDefEqProofs (disch:=first|omega|simp only[go_sem]) only[go_sem,true_and]
 exact ⟨_,rfl,congrArg (fun z=>DEnd.ret (Value.int IntKind.i64 z)) (by decide),.refl _⟩
theorem l0e {h:DHeap}:DC Tryz.prog 95 [.int .u64 0] h (.ret (.int .i64 0)) h:=by
 refine Ct.pure (Q9d (by simp) ?_) (t0a _ _)
 simp -implicitDefEqProofs (disch:=first|omega|simp only[go_sem]) only[go_sem,true_and,c95]
 refine YV H1d ?_
 simp -implicitDefEqProofs (disch:=first|omega|simp only[go_sem]) only[go_sem,true_and]
 exact ⟨_,rfl,rfl,.refl _⟩
theorem y6b {h:DHeap} {v:Value} {g:Value}:Ct Tryz.prog 139 [v,.int .i64 0,.int .i64 0,g] h fun r h1=>r=.ret (.tuple #[])∧h1=h:=by
 refine W5d (by simp) ?_
 simp -implicitDefEqProofs (disch:=first|omega|simp only[go_sem]) only[go_sem,true_and,w4d]
 refine Xu (σ:=Nat) (by kernel_rfl) (fun j s=>s.df=[]∧s.h=h∧s.fr 2=some (.int .i64 0)∧s.fr 8=some (.int .i64 1)) (fun j=>0) 0 ?_ ?_
 ·simp -implicitDefEqProofs (disch:=first|omega|simp only[go_sem]) only[go_sem,true_and]
  exact congrArg some (congrArg (Value.int IntKind.i64) (by decide))
 ·rintro i ⟨fr,df,K,rd⟩ K' hK' hX ⟨rfl,rfl,f2,f8⟩
  simp only at f2 f8
  simp -implicitDefEqProofs (disch:=first|omega|simp only[go_sem]) only[go_sem,true_and,f2,f8]
  refine hX _ _ (by simp) ?_
  simp -implicitDefEqProofs (disch:=first|omega|simp only[go_sem]) only[go_sem,true_and]
  exact ⟨_,rfl,rfl,trivial⟩
theorem q0e {h:DHeap} {v g x:Value}:Ct Tryz.prog 113 [v,.int .i64 0,.int .i64 0,x,g] h fun r h1=>r=.ret (.tuple #[])∧h1=h:=by
 refine H5d (by simp) ?_
 have e0:IntKind.i64.wrap (0 - 0)=0:=by decide
 simp -implicitDefEqProofs (disch:=first|omega|simp only[go_sem]) only[go_sem,true_and,j4d]
 refine Xu (σ:=Nat) (by kernel_rfl) (fun j s=>s.df=[]∧s.rd=none∧s.h=h∧s.fr 0=some v∧s.fr 1=some (.int .i64 0)∧s.fr 2=some (.int .i64 0)∧s.fr 4=some g) (fun j=>0) 0 ?_ ?_
 ·simp -implicitDefEqProofs (disch:=first|omega|simp only[go_sem]) only[go_sem,true_and]
 ·rintro i ⟨fr,df,K,rd⟩ K' hK' hX ⟨rfl,rfl,rfl,f0,f1,f2,f4⟩
  simp only at f0 f1 f2 f4
  simp -implicitDefEqProofs (disch:=first|omega|simp only[go_sem]) only[go_sem,true_and,f0,f1,f2,f4,e0]
  refine Yu y6b ?_
  rintro r h1 ⟨rfl,rfl⟩
  simp -implicitDefEqProofs (disch:=first|omega|simp only[go_sem]) only[go_sem,true_and,Xj]
  refine hX _ _ (by simp) ?_
  simp -implicitDefEqProofs (disch:=first|omega|simp only[go_sem]) only[go_sem,true_and]
  exact ⟨_,rfl,rfl,trivial⟩
theorem V2c {h:DHeap} {v:Value} {g:Value} (hb:Arg fKey.rep h v []):Ct Tryz.prog 75 [v,g] h fun r h1=>r=.ret (.tuple #[])∧h1=h:=by
 refine y9d (by simp) ?_
 have el:∀ K,dLen Tryz.prog #[24] v K=some (.int .i64 ((([]:List Key).length:Nat):Int)):=hb.lens (P:=Tryz.prog) (ts:=#[24]) (t:=24) rfl D1a
 have e0:IntKind.u64.wrap ((0:Nat):Int)=0:=by decide
 simp -implicitDefEqProofs (disch:=first|omega|simp only[go_sem]) only[go_sem,true_and,c75,el,List.length_nil,e0]
 refine YV l0e ?_
 simp -implicitDefEqProofs (disch:=first|omega|simp only[go_sem]) only[go_sem,true_and]
 refine Yu q0e ?_
 rintro r h1 ⟨rfl,rfl⟩
 simp -implicitDefEqProofs (disch:=first|omega|simp only[go_sem]) only[go_sem,true_and,Xj]
 exact ⟨_,rfl,rfl,trivial⟩
theorem s5b:Lays Tryz.prog 24 (rSl fKey.rep) (w1a fun _=>2):=.slice (e:=31) (by kernel_rfl) (by kernel_rfl) (by decide) B7b
def c4a (x:Txn):Nat:=2+(w1a (fun _=>1) x.code+(w1a (fun _=>1) x.args+(w1a (fun _=>2) x.reads+w1a (fun _=>2) x.writes)))
abbrev j7d:List (Nat × Nat):=[(2,0),(2,1),(22,2),(23,3),(24,4),(24,5)]
theorem G1d:Lays Tryz.prog 26 rTxn c4a:=
 (Lays.of (l:=j7d) (by kernel_rfl) (by kernel_rfl) (.cons P4a (.cons P4a (.cons Y1c (.cons p5c (.cons s5b (.one s5b))))))).conv (Q:=rTxn) rfl (fun x=>⟨x.1,x.2.1,x.2.2.1,x.2.2.2.1,x.2.2.2.2.1,x.2.2.2.2.2⟩) (fun _ _ _ _ h=>h)
   (fun x=>by simp only[c4a];omega)
theorem Q1d:Par Tryz.prog 26 true:=c1b (l:=j7d) (by kernel_rfl)
theorem a3c {S:Nat→Prop} {h:DHeap} {cs:List Value} {x:Txn} (a:rTxn.rd S h cs x):∃ vc va vr vw,cs=[.int .i64 x.ses,.int .i64 x.req,vc,va,vr,vw]∧inK .i64 x.ses∧inK .i64 x.req∧TxV S h x vc va vr vw:=by
 obtain ⟨_,_,rfl,⟨rfl,k1⟩,_,_,rfl,⟨rfl,k2⟩,_,_,rfl,⟨vc,rfl,h1⟩,_,_,rfl,⟨va,rfl,h2⟩,_,_,rfl,⟨vr,rfl,h3⟩,vw,rfl,h4⟩:=a
 exact ⟨vc,va,vr,vw,rfl,k1,k2,h1,h2,h3,h4⟩
theorem M3c (x:Txn):x.code.length≤c4a x∧x.args.length≤c4a x∧x.reads.length≤c4a x∧x.writes.length≤c4a x:=by
 have h1:=S7a (fun _=>1) x.code
 have h2:=S7a (fun _=>1) x.args
 have h3:=S7a (fun _=>2) x.reads
 have h4:=S7a (fun _=>2) x.writes
 have hb:c4a x=2+(w1a (fun _=>1) x.code+(w1a (fun _=>1) x.args+(w1a (fun _=>2) x.reads+w1a (fun _=>2) x.writes))):=rfl
 omega
theorem i2d {x:Txn} (h:c4a x≤1048576):P3a x:=by
 have:=M3c x
 exact ⟨by omega,by omega,by omega,by omega⟩
end Go.Proofs.YtheamfnbfgiaeaaGreat
namespace Go.D
variable {P:Program} {nt:Nat}
structure KeyOf (P:Program) (kt:TypeId) {κ:Type} (enc:κ→Value):Prop where
 flat:∀ k,Xz (enc k)=true
 inj:∀ a b,enc a=enc b→a=b
 chk:∀ (b:Bool) k,∃ u,ZK P (Instr.checkKey b 10000 kt (enc k))=some (.inr u)
 bits:∀ k,Instr.sameBits 10000 (enc k) (enc k)=true
 find:∀ k (es:List MapEntry),(∀ e∈es,∃ a,e.key=enc a)→∃ r,Y1a P kt (enc k) es=some r∧(∀ i,r=some i→∃ e,es[i]? = some e∧e.key=enc k)∧(r=none→∀ e∈es,e.key≠enc k)
theorem t8a {k:IntKind} {n:Int}:∀ {es:List MapEntry} {i:Nat},(∀ e∈es,∃ m,e.key=.int k m) →
 (∃ j v,Instr.findNow (.int k) (.int k n) es i=some (some (j,v))∧i≤j∧∃ e,es[j - i]? = some e∧e.key=.int k n)∨(Instr.findNow (.int k) (.int k n) es i=some none∧∀ e∈es,e.key≠.int k n)
 | [],i,_=>.inr ⟨rfl,fun e he=>by simp at he⟩
 | e :: es,i,h=>by
   obtain ⟨m,h1⟩:=h e (by simp)
   have ih:=t8a (k:=k) (n:=n) (es:=es) (i:=i+1) fun e he=>h e (by simp[he])
   simp only[Instr.findNow,h1,Instr.sameNow,if_true]
   by_cases hm:n=m
   ·subst hm
    refine .inl ⟨i,e.val,by simp,Nat.le_refl _,e,by simp,h1⟩
   ·have:(n==m)=false:=by simpa using hm
    rw[this]
    rcases ih with ⟨j,v,a,b,e',c,d⟩ | ⟨a,b⟩
    ·exact .inl ⟨j,v,a,by omega,e',by rw[show j - i=(j - (i+1))+1 by omega];exact c,d⟩
    ·refine .inr ⟨a,fun e' he=>?_⟩
     rcases List.mem_cons.1 he with rfl | he
     ·rw[h1]
      intro hh
      cases hh
      exact hm rfl
     ·exact b e' he
theorem KeyOf.int {kt:TypeId} {k:IntKind} (hu:P.underlying kt=some (.int k)):KeyOf P kt (fun n:Int=>Value.int k n) where
 flat _:=rfl
 inj a b h:=by cases h;rfl
 chk b n:=W5a hu b n
 bits n:=K8a 9999
 find n es h:=by
  unfold Y1a
  rw[hu]
  rcases t8a (n:=n) (i:=0) h with ⟨j,v,a,_,e,c,d⟩ | ⟨a,b⟩
  ·exact ⟨some j,by simp only[a];rfl,fun i hi=>(by cases hi;exact ⟨e,c,d⟩),fun h=>by cases h⟩
  ·exact ⟨none,by simp only[a];rfl,fun i hi=>(by cases hi),fun _=>b⟩
theorem o2b {kt:TypeId} {κ:Type} [DecidableEq κ] {enc:κ→Value} (heq:∀ a b,ZK P (Op.equal kt (enc a) (enc b))=some (.inr (decide (a=b)))) (inj:∀ a b,enc a=enc b→a=b) {k:κ}:∀ {es:List MapEntry} {i:Nat},(∀ e∈es,∃ a,e.key=enc a) →
 (∃ j,Z5a P kt (enc k) es i=some (some j)∧i≤j∧∃ e,es[j - i]? = some e∧e.key=enc k)∨(Z5a P kt (enc k) es i=some none∧∀ e∈es,e.key≠enc k)
 | [],i,_=>.inr ⟨rfl,fun e he=>by simp at he⟩
 | e :: es,i,h=>by
   obtain ⟨m,h1⟩:=h e (by simp)
   have ih:=o2b heq inj (k:=k) (es:=es) (i:=i+1) fun e he=>h e (by simp[he])
   unfold Z5a
   rw[h1,heq]
   by_cases hm:k=m
   ·subst hm
    rw[decide_eq_true rfl]
    exact .inl ⟨i,rfl,Nat.le_refl _,e,by simp,h1⟩
   ·rw[decide_eq_false hm]
    rcases ih with ⟨j,a,b,e',c,d⟩ | ⟨a,b⟩
    ·exact .inl ⟨j,a,by omega,e',by rw[show j - i=(j - (i+1))+1 by omega];exact c,d⟩
    ·refine .inr ⟨a,fun e' he=>?_⟩
     rcases List.mem_cons.1 he with rfl | he
     ·rw[h1]
      exact fun hh=>hm (inj _ _ hh).symm
     ·exact b e' he
theorem KeyOf.eq {kt:TypeId} {κ:Type} [DecidableEq κ] {enc:κ→Value} {d:TypeDesc} (hu:P.underlying kt=some d) (flat:∀ k,Xz (enc k)=true) (inj:∀ a b,enc a=enc b→a=b) (chk:∀ (b:Bool) k,∃ u,ZK P (Instr.checkKey b 10000 kt (enc k))=some (.inr u)) (bits:∀ k,Instr.sameBits 10000 (enc k) (enc k)=true)
 (hnow:∀ a b,Instr.sameNow d (enc a) (enc b)=none) (heq:∀ a b,ZK P (Op.equal kt (enc a) (enc b))=some (.inr (decide (a=b)))):KeyOf P kt enc where
 flat:=flat
 inj:=inj
 chk:=chk
 bits:=bits
 find k es h:=by
  unfold Y1a
  rw[hu]
  cases es with
  | nil=>exact ⟨none,rfl,fun i hi=>(by cases hi),fun _ e he=>by cases he⟩
  | cons e es=>
    obtain ⟨m,h1⟩:=h e (by simp)
    have:Instr.findNow d (enc k) (e :: es) 0=none:=by simp only[Instr.findNow,h1,hnow]
    simp only[this]
    rcases o2b heq inj (k:=k) (i:=0) h with ⟨j,a,_,e',c,q⟩ | ⟨a,b⟩
    ·exact ⟨some j,a,fun i hi=>(by cases hi;exact ⟨e',c,q⟩),fun h=>by cases h⟩
    ·exact ⟨none,a,fun i hi=>(by cases hi),fun _=>b⟩
section
variable {κ:Type} [DecidableEq κ]
def Vz (m:List (κ × Value)) (k:κ):Option Value:=(m.find? fun p=>p.1=k).map (·.2)
def a1a (m:List (κ × Value)) (k:κ) (v:Value):List (κ × Value):=if k∈m.map (·.1) then m.map (fun p=>if p.1=k then (k,v) else p) else m++[(k,v)]
theorem x8a {m:List (κ × Value)} {k:κ}:Vz m k=none↔k∉m.map (·.1):=by
 unfold Vz
 rw[Option.map_eq_none_iff,List.find?_eq_none]
 constructor
 ·intro h hm
  obtain ⟨p,hp,e⟩:=List.mem_map.1 hm
  exact h p hp (by simpa using e)
 ·intro h p hp e
  exact h (List.mem_map.2 ⟨p,hp,by simpa using e⟩)
theorem F2a {m:List (κ × Value)} (hn:(m.map (·.1)).Nodup) {k:κ} {v:Value}:Vz m k=some v↔(k,v)∈m:=by
 induction m with
 | nil=>simp[Vz]
 | cons p m ih=>
   obtain ⟨k0,v0⟩:=p
   simp only[List.map_cons,List.nodup_cons]at hn
   unfold Vz at ih ⊢
   by_cases h:k0=k
   ·subst h
    rw[List.find?_cons_of_pos (by simp)]
    simp only[Option.map_some,Option.some.injEq,List.mem_cons,Prod.mk.injEq,true_and]
    constructor
    ·rintro rfl;exact .inl rfl
    ·rintro (rfl | hm)
     ·rfl
     ·exact absurd (List.mem_map.2 ⟨_,hm,rfl⟩) hn.1
   ·rw[List.find?_cons_of_neg (by simpa using h),ih hn.2]
    simp only[List.mem_cons,Prod.mk.injEq]
    constructor
    ·exact .inr
    ·rintro (⟨rfl,_⟩ | hm)
     ·exact absurd rfl h
     ·exact hm
theorem z8a {m:List (κ × Value)} {k:κ} {v:Value}:(a1a m k v).map (·.1)=if k∈m.map (·.1) then m.map (·.1) else m.map (·.1)++[k]:=by
 unfold a1a
 split
 ·rw[List.map_map]
  refine List.map_congr_left fun p _=>?_
  show (if p.1=k then (k,v) else p).1=p.1
  split
  ·rename_i h;exact h.symm
  ·rfl
 ·simp
theorem i2a {m:List (κ × Value)} {k:κ} {v:Value} (hn:(m.map (·.1)).Nodup):((a1a m k v).map (·.1)).Nodup:=by
 rw[z8a]
 split
 ·exact hn
 ·rename_i h
  refine List.nodup_append.2 ⟨hn,by simp,fun a ha b hb=>?_⟩
  simp only[List.mem_singleton]at hb
  subst hb
  exact fun e=>h (e▸ha)
theorem l4a {m:List (κ × Value)} {k k':κ} {v:Value} (hn:(m.map (·.1)).Nodup):Vz (a1a m k v) k'=if k'=k then some v else Vz m k':=by
 have hn':=i2a (k:=k) (v:=v) hn
 have key:∀ u,Vz (a1a m k v) k'=some u↔(if k'=k then some v else Vz m k')=some u:=fun u=>by
  rw[F2a hn']
  unfold a1a
  split
  ·rename_i hk
   rw[List.mem_map]
   constructor
   ·rintro ⟨p,hp,he⟩
    split at he
    ·cases he
     rw[if_pos rfl]
    ·rename_i hne
     subst he
     rw[if_neg hne]
     exact (F2a hn).2 hp
   ·intro he
    split at he
    ·rename_i hkk
     cases he
     obtain ⟨p,hp,hpk⟩:=List.mem_map.1 hk
     exact ⟨p,hp,by rw[if_pos hpk,hkk]⟩
    ·rename_i hne
     exact ⟨(k',u),(F2a hn).1 he,by rw[if_neg hne]⟩
  ·rename_i hk
   rw[List.mem_append,List.mem_singleton]
   constructor
   ·rintro (hp | hp)
    ·have:k'≠k:=fun e=>hk (e▸List.mem_map.2 ⟨_,hp,rfl⟩)
     rw[if_neg this]
     exact (F2a hn).2 hp
    ·cases hp
     rw[if_pos rfl]
   ·intro he
    split at he
    ·rename_i hkk
     cases he
     exact .inr (by rw[hkk])
    ·exact .inl ((F2a hn).1 he)
 cases h1:(if k'=k then some v else Vz m k') with
 | some u=>exact (key u).2 h1
 | none=>
   cases h2:Vz (a1a m k v) k' with
   | none=>rfl
   | some u=>
     have:=(key u).1 h2
     rw[h1]at this
     cases this
end
def MapAt {κ:Type} (enc:κ→Value) (h:DHeap) (id:Nat) (m:List (κ × Value)):Prop:=
 ∃ es c,h.get id=some (.map es c)∧es.map (fun e=>(e.key,e.val))=m.map (fun p=>(enc p.1,p.2))∧(m.map (·.1)).Nodup∧(es.map (·.born)).Nodup∧∀ e∈es,e.born<c
theorem MapAt.keep {κ:Type} {enc:κ→Value} {h h':DHeap} {id:Nat} {m:List (κ × Value)} (a:MapAt enc h id m) (hg:h'.get id=h.get id):MapAt enc h' id m:=by
 obtain ⟨es,c,g,r⟩:=a
 exact ⟨es,c,hg.trans g,r⟩
theorem MapAt.new {κ:Type} {enc:κ→Value} {h:DHeap}:MapAt enc (h.push (.map [] 0)) h.next []:=
 ⟨[],0,Zz _ _,rfl,by simp,by simp,fun e he=>by cases he⟩
structure d8a (P:Program) (t:TypeId) {κ:Type} (enc:κ→Value) (z:Value):Prop where
 map:∃ kt et,P.underlying t=some (.map kt et)∧KeyOf P kt enc∧Q8a P et=some z
theorem MapAt.es_key {κ:Type} {enc:κ→Value} {m:List (κ × Value)} {es:List MapEntry} (hm:es.map (fun e=>(e.key,e.val))=m.map (fun p=>(enc p.1,p.2))) {i:Nat} {e:MapEntry} (he:es[i]? = some e):∃ p,m[i]? = some p∧e.key=enc p.1∧e.val=p.2:=by
 have:=congrArg (fun l=>l[i]?) hm
 simp only[List.getElem?_map,he,Option.map_some]at this
 cases hp:m[i]? with
 | none=>rw[hp]at this;cases this
 | some p=>
   rw[hp]at this
   simp only[Option.map_some,Option.some.injEq,Prod.mk.injEq]at this
   exact ⟨p,rfl,this.1,this.2⟩
theorem MapAt.found {κ:Type} [DecidableEq κ] {enc:κ→Value} {kt:TypeId} {m:List (κ × Value)} {es:List MapEntry} (K:KeyOf P kt enc) (hm:es.map (fun e=>(e.key,e.val))=m.map (fun p=>(enc p.1,p.2))) (hn:(m.map (·.1)).Nodup) (k:κ) :
 (∃ i e v,Y1a P kt (enc k) es=some (some i)∧es[i]? = some e∧m[i]? = some (k,v)∧e.key=enc k∧e.val=v∧Vz m k=some v)∨(Y1a P kt (enc k) es=some none∧k∉m.map (·.1)):=by
 have hk:∀ e∈es,∃ a,e.key=enc a:=fun e he=>by
  obtain ⟨i,hi⟩:=List.getElem?_of_mem he
  obtain ⟨p,_,h2,_⟩:=MapAt.es_key hm hi
  exact ⟨_,h2⟩
 obtain ⟨r,h1,h2,h3⟩:=K.find k es hk
 cases r with
 | some i=>
   obtain ⟨e,a,b⟩:=h2 i rfl
   obtain ⟨p,c,d,e'⟩:=MapAt.es_key hm a
   have:p.1=k:=K.inj _ _ (d.symm.trans b)
   refine .inl ⟨i,e,p.2,h1,a,by rw[← this];exact c,b,e',(F2a hn).2 ?_⟩
   rw[← this]
   exact List.mem_of_getElem? c
 | none=>
   refine .inr ⟨h1,fun hm2=>?_⟩
   obtain ⟨p,hp,hpk⟩:=List.mem_map.1 hm2
   obtain ⟨i,hi⟩:=List.getElem?_of_mem hp
   have:=congrArg (fun l=>l[i]?) hm
   simp only[List.getElem?_map,hi,Option.map_some]at this
   cases he:es[i]? with
   | none=>rw[he]at this;cases this
   | some e=>
     rw[he]at this
     simp only[Option.map_some,Option.some.injEq,Prod.mk.injEq]at this
     exact h3 rfl e (List.mem_of_getElem? he) (by rw[this.1,hpk])
theorem MapAt.lookup {κ:Type} [DecidableEq κ] {enc:κ→Value} {z:Value} {t:TypeId} {h:DHeap} {id:Nat} {m:List (κ × Value)} (T:d8a P t enc z) (a:MapAt enc h id m) (k:κ) (ok:Bool) :
 M0a P t (.map (some id)) (enc k) ok h=some (if ok then .tuple #[(Vz m k).getD z,.bool (Vz m k).isSome] else (Vz m k).getD z):=by
 obtain ⟨kt,et,hu,K,hz⟩:=T.map
 obtain ⟨es,c,g,hm,hn,_,_⟩:=a
 obtain ⟨u,hc⟩:=K.chk es.isEmpty k
 unfold M0a
 simp only[hu,a7a,g,K.flat k,if_true,hc]
 rcases MapAt.found K hm hn k with ⟨i,e,v,h1,h2,h3,h4,h5,h6⟩ | ⟨h1,h2⟩
 ·simp only[h1,h2,h6,h5,Option.getD_some,Option.isSome_some]
 ·simp only[h1,hz,x8a.2 h2,Option.getD_none,Option.isSome_none]
theorem MapAt.update {κ:Type} [DecidableEq κ] {enc:κ→Value} {z:Value} {t:TypeId} {h:DHeap} {id:Nat} {m:List (κ × Value)} (T:d8a P t enc z) (a:MapAt enc h id m) (k:κ) (v:Value) :
 ∃ o,H0a P t (.map (some id)) (enc k) v h=some (h.set id o)∧MapAt enc (h.set id o) id (a1a m k v):=by
 obtain ⟨kt,et,hu,K,hz⟩:=T.map
 obtain ⟨es,c,g,hm,hn,hb,hlt⟩:=a
 obtain ⟨u,hc⟩:=K.chk false k
 unfold H0a
 simp only[hu,g,K.flat k,if_true,hc]
 rcases MapAt.found K hm hn k with ⟨i,e,v0,h1,h2,h3,h4,h5,h6⟩ | ⟨h1,h2⟩
 ·have hbits:Instr.sameBits 10000 e.key (enc k)=true:=by rw[h4];exact K.bits k
  simp only[h1,h2,hbits,if_true]
  refine ⟨_,rfl,_,_,ZX _ _,?_,i2a hn,?_,?_⟩
  ·have hk:k∈m.map (·.1):=List.mem_map.2 ⟨_,List.mem_of_getElem? h3,rfl⟩
   rw[a1a,if_pos hk,List.map_set,hm]
   refine List.ext_getElem? fun j=>?_
   rw[List.getElem?_set,List.getElem?_map,List.getElem?_map,List.getElem?_map]
   by_cases hj:i=j
   ·subst hj
    have hlen:i<(m.map fun p=>(enc p.1,p.2)).length:=by simpa using (List.getElem?_eq_some_iff.1 h3).1
    rw[if_pos rfl,if_pos hlen,h3]
    simp
   ·rw[if_neg hj]
    cases hp:m[j]? with
    | none=>rfl
    | some p=>
      have:p.1≠k:=fun e=>by
       have q1:(m.map (·.1))[j]? = some k:=by rw[List.getElem?_map,hp];simp[e]
       have q2:(m.map (·.1))[i]? = some k:=by rw[List.getElem?_map,h3];rfl
       have hil:=(List.getElem?_eq_some_iff.1 q2).1
       exact hj ((List.getElem?_inj hil hn).1 (q2.trans q1.symm))
      simp[this]
  ·have:(es.set i { e with key:=enc k,val:=v }).map (·.born)=es.map (·.born):=by
    rw[List.map_set]
    refine List.ext_getElem? fun j=>?_
    rw[List.getElem?_set]
    split
    ·rename_i hj
     subst hj
     rw[List.getElem?_map,h2,List.length_map,if_pos (List.getElem?_eq_some_iff.1 h2).1]
     rfl
    ·rfl
   rw[this]
   exact hb
  ·intro e' he'
   rcases List.mem_or_eq_of_mem_set he' with he' | rfl
   ·exact hlt e' he'
   ·exact hlt e (List.mem_of_getElem? h2)
 ·simp only[h1]
  refine ⟨_,rfl,_,_,ZX _ _,?_,i2a hn,?_,?_⟩
  ·rw[a1a,if_neg h2,List.map_append,List.map_append,hm]
   rfl
  ·rw[List.map_append]
   refine List.nodup_append.2 ⟨hb,by simp,fun x hx y hy=>?_⟩
   obtain ⟨e,he,rfl⟩:=List.mem_map.1 hx
   simp only[List.map_cons,List.map_nil,List.mem_singleton]at hy
   have:=hlt e he
   omega
  ·intro e he
   rcases List.mem_append.1 he with he | he
   ·have:=hlt e he
    omega
   ·simp only[List.mem_singleton]at he
    subst he
    exact Nat.lt_succ_self _
theorem J5a {α β:Type} {f:α→β}:∀ (l:List α) (i:Nat),(l.eraseIdx i).map f=(l.map f).eraseIdx i
 | [],_=>rfl
 | _ :: _,0=>rfl
 | a :: l,i+1=>by rw[List.eraseIdx_cons_succ,List.map_cons,List.map_cons,List.eraseIdx_cons_succ,J5a l i]
section
variable {κ:Type} [DecidableEq κ]
def M6a (m:List (κ × Value)) (k:κ):List (κ × Value):=m.filter fun p=>!decide (p.1=k)
theorem D7a {m:List (κ × Value)} {k:κ} (hn:(m.map (·.1)).Nodup):((M6a m k).map (·.1)).Nodup:=List.Sublist.nodup ((List.filter_sublist (l:=m)).map _) hn
theorem k2c {m:List (κ × Value)} {k k':κ}:Vz (M6a m k) k'=if k'=k then none else Vz m k':=by
 unfold Vz M6a
 rw[List.find?_filter]
 by_cases h:k'=k
 ·subst h
  rw[if_pos rfl,List.find?_eq_none.2 fun p _=>by simp]
  rfl
 ·rw[if_neg h]
  congr 2
  funext p
  by_cases hp:p.1=k'
  ·simp[hp,h]
  ·simp[hp]
theorem b8a {k:κ} {v:Value}:∀ {m:List (κ × Value)} {i:Nat},(m.map (·.1)).Nodup→m[i]? = some (k,v)→m.eraseIdx i=M6a m k
 | [],i,_,h=>by simp at h
 | p :: m,0,hn,h=>by
   simp only[List.getElem?_cons_zero,Option.some.injEq]at h
   subst h
   simp only[List.map_cons,List.nodup_cons]at hn
   rw[List.eraseIdx_cons_zero,M6a,List.filter_cons_of_neg (by simp),List.filter_eq_self.2]
   intro q hq
   have:q.1≠k:=fun e=>hn.1 (List.mem_map.2 ⟨q,hq,e⟩)
   simp[this]
 | p :: m,i+1,hn,h=>by
   simp only[List.getElem?_cons_succ]at h
   simp only[List.map_cons,List.nodup_cons]at hn
   have:p.1≠k:=fun e=>hn.1 (List.mem_map.2 ⟨_,List.mem_of_getElem? h,e.symm⟩)
   rw[List.eraseIdx_cons_succ,b8a hn.2 h,M6a,M6a,List.filter_cons_of_pos (by simp[this])]
end
theorem MapAt.delete {κ:Type} [DecidableEq κ] {enc:κ→Value} {z:Value} {t:TypeId} {ts:Array TypeId} {h:DHeap} {id:Nat} {m:List (κ × Value)} (T:d8a P t enc z) (hts:ts[0]? = some t) (a:MapAt enc h id m) (k:κ) :
 ∃ o,p3a P ts (.map (some id)) (enc k) h=some (.tuple #[],h.set id o)∧MapAt enc (h.set id o) id (M6a m k):=by
 obtain ⟨kt,et,hu,K,hz⟩:=T.map
 obtain ⟨es,c,g,hm,hn,hb,hlt⟩:=a
 obtain ⟨u,hc⟩:=K.chk es.isEmpty k
 unfold p3a
 simp only[hts,hu,g,K.flat k,if_true,hc]
 rcases MapAt.found K hm hn k with ⟨i,e,v0,h1,h2,h3,h4,h5,h6⟩ | ⟨h1,h2⟩
 ·simp only[h1]
  refine ⟨_,rfl,_,_,ZX _ _,?_,D7a hn,?_,fun e' he'=>hlt e' (List.mem_of_mem_eraseIdx he')⟩
  ·rw[← b8a hn h3,J5a,J5a,hm]
  ·rw[J5a]
   exact List.Sublist.nodup (List.eraseIdx_sublist _ _) hb
 ·simp only[h1]
  refine ⟨_,rfl,_,_,ZX _ _,?_,D7a hn,hb,hlt⟩
  rw[hm,M6a,List.filter_eq_self.2]
  intro q hq
  have:q.1≠k:=fun e=>h2 (List.mem_map.2 ⟨q,hq,e⟩)
  simp[this]
def RngAt {κ:Type} (enc:κ→Value) (h:DHeap) (r id:Nat) (m:List (κ × Value)) (dn:List κ):Prop:=
 ∃ es c seen,h.get id=some (.map es c)∧h.get r=some (.iter (some id) c seen c)∧es.map (fun e=>(e.key,e.val))=m.map (fun p=>(enc p.1,p.2))∧(m.map (·.1)).Nodup∧(es.map (·.born)).Nodup∧(∀ e∈es,e.born<c) ∧
  ∀ (i:Nat) e p,es[i]? = some e→m[i]? = some p→(e.born∈seen↔p.1∈dn)
theorem RngAt.keep {κ:Type} {enc:κ→Value} {h h':DHeap} {r id:Nat} {m:List (κ × Value)} {dn:List κ} (a:RngAt enc h r id m dn) (h1:h'.get id=h.get id) (h2:h'.get r=h.get r):RngAt enc h' r id m dn:=by
 obtain ⟨es,c,seen,g1,g2,q⟩:=a
 exact ⟨es,c,seen,h1.trans g1,h2.trans g2,q⟩
theorem RngAt.map {κ:Type} {enc:κ→Value} {h:DHeap} {r id:Nat} {m:List (κ × Value)} {dn:List κ} (a:RngAt enc h r id m dn):MapAt enc h id m:=by
 obtain ⟨es,c,seen,g1,g2,q1,q2,q3,q4,_⟩:=a
 exact ⟨es,c,g1,q1,q2,q3,q4⟩
theorem MapAt.range {κ:Type} {enc:κ→Value} {t:TypeId} {h:DHeap} {id:Nat} {m:List (κ × Value)} {kt et:TypeId} (hu:P.underlying t=some (.map kt et)) (a:MapAt enc h id m) (hid:id<h.next) :
 ∃ o,u4a P t (.map (some id)) h=some (.pointer (some ⟨h.next,0,none⟩),h.push o)∧RngAt enc (h.push o) h.next id m []:=by
 obtain ⟨es,c,g,q1,q2,q3,q4⟩:=a
 refine ⟨.iter (some id) c [] c,?_,es,c,[],(ZU _ _ hid).trans g,Zz _ _,q1,q2,q3,q4,fun i e p _ _=>by simp⟩
 unfold u4a
 simp only[hu,g]
theorem I0b {e:MapEntry}:∀ {es:List MapEntry},(es.map (·.born)).Nodup→e∈es→es.find? (fun x=>x.born==e.born)=some e
 | [],_,h=>by cases h
 | a :: es,hn,h=>by
   rw[List.find?_cons]
   rw[List.map_cons,List.nodup_cons]at hn
   rcases List.mem_cons.1 h with rfl | h
   ·simp
   ·have:(a.born==e.born)=false:=by
     simp only[beq_eq_false_iff_ne,ne_eq]
     exact fun hh=>hn.1 (hh▸List.mem_map.2 ⟨e,h,rfl⟩)
    rw[this]
    exact I0b hn.2 h
theorem RngAt.next {κ:Type} {enc:κ→Value} {h:DHeap} {r id:Nat} {m:List (κ × Value)} {dn:List κ} (hf:∀ k,Xz (enc k)=true) (hne:id≠r) (a:RngAt enc h r id m dn) :
 ∃ l,Y4a (.pointer (some ⟨r,0,none⟩)) h=some (l,h.set r .dead)∧∀ p∈l,(p=(.tuple #[.bool false],h)∧∀ k∈m.map (·.1),k∈dn) ∨
  ∃ k v o,(k,v)∈m∧k∉dn∧p=(.tuple #[.bool true,enc k,v],h.set r o)∧Y5a (.pointer (some ⟨r,0,none⟩)) (h.set r o)=some (.tuple #[enc k,v])∧RngAt enc (h.set r o) r id m (k :: dn):=by
 obtain ⟨es,c,seen,g1,g2,q1,q2,q3,q4,q5⟩:=a
 have hc1:(!seen.isEmpty&&!es.isEmpty&&es.all fun e=>decide (e.born ≥ c))=false:=by
  cases es with
  | nil=>simp
  | cons e es=>
    have:=q4 e (by simp)
    have h1:decide (e.born ≥ c)=false:=decide_eq_false (by omega)
    simp[h1]
 have hc2:(es.all fun e=>Xz e.key)=true:=List.all_eq_true.2 fun e he=>by
  obtain ⟨i,hi⟩:=List.getElem?_of_mem he
  obtain ⟨p,_,h2,_⟩:=MapAt.es_key q1 hi
  rw[h2]
  exact hf _
 unfold Y4a
 simp only[g2,g1,hc1,hc2,Bool.not_true,Bool.or_false,Bool.false_eq_true,if_false]
 refine ⟨_,rfl,fun p hp=>?_⟩
 rcases List.mem_append.1 hp with hp | hp
 ·split at hp
  ·rename_i hemp
   simp only[List.mem_singleton]at hp
   refine .inl ⟨hp,fun k hk=>?_⟩
   obtain ⟨pr,hpm,rfl⟩:=List.mem_map.1 hk
   obtain ⟨i,hi⟩:=List.getElem?_of_mem hpm
   have:=congrArg (fun l=>l[i]?) q1
   simp only[List.getElem?_map,hi,Option.map_some]at this
   cases he:es[i]? with
   | none=>rw[he]at this;cases this
   | some e=>
     refine (q5 i e pr he hi).1 ?_
     cases hs:seen.contains e.born with
     | true=>exact List.contains_iff_mem.1 hs
     | false=>
       exfalso
       have hm:=List.mem_of_getElem? he
       have:e∈(es.filter fun e=>!seen.contains e.born).filter fun e=>decide (e.born<c):=by
        simp only[List.mem_filter,hs,Bool.not_false,decide_eq_true_eq,and_true]
        exact ⟨hm,q4 e hm⟩
       rw[List.isEmpty_iff.1 hemp]at this
       cases this
  ·cases hp
 ·obtain ⟨e,hem,rfl⟩:=List.mem_map.1 hp
  have he:e∈es∧seen.contains e.born=false:=by
   rcases List.mem_append.1 hem with h | h
   ·simp only[List.mem_filter,Bool.not_eq_true']at h
    exact h.1
   ·simp only[List.mem_filter,Bool.not_eq_true']at h
    exact h.1
  obtain ⟨i,hi⟩:=List.getElem?_of_mem he.1
  obtain ⟨pr,hpi,hk,hv⟩:=MapAt.es_key q1 hi
  have hns:e.born∉seen:=fun hh=>by rw[List.contains_iff_mem.2 hh]at he;cases he.2
  refine .inr ⟨pr.1,pr.2,.iter (some id) c (seen++[e.born]) c,List.mem_of_getElem? hpi,fun hd=>hns ((q5 i e pr hi hpi).2 hd),by rw[hk,hv],?_,es,c,seen++[e.born],(Zv _ _ hne).trans g1,ZX _ _,q1,q2,q3,q4,fun j e' p' hj hpj=>?_⟩
  ·have h1:(h.set r (.iter (some id) c (seen++[e.born]) c)).get r=some (.iter (some id) c (seen++[e.born]) c):=ZX _ _
   have h2:(h.set r (.iter (some id) c (seen++[e.born]) c)).get id=some (.map es c):=(Zv _ _ hne).trans g1
   have h3:(seen++[e.born]).getLast? = some e.born:=by simp
   unfold Y5a
   simp only[h1,h2,h3,if_true,I0b q3 he.1,hk,hf,hv]
  rw[List.mem_append,List.mem_singleton,List.mem_cons,q5 j e' p' hj hpj]
  have hij:e'.born=e.born↔j=i:=by
   have a1:(es.map (·.born))[j]? = some e'.born:=by rw[List.getElem?_map,hj];rfl
   have a2:(es.map (·.born))[i]? = some e.born:=by rw[List.getElem?_map,hi];rfl
   constructor
   ·intro hh
    exact (List.getElem?_inj (List.getElem?_eq_some_iff.1 a1).1 q3).1 (by rw[a1,a2,hh])
   ·intro hh
    subst hh
    rw[hj]at hi
    cases hi
    rfl
  have hij2:p'.1=pr.1↔j=i:=by
   have a1:(m.map (·.1))[j]? = some p'.1:=by rw[List.getElem?_map,hpj];rfl
   have a2:(m.map (·.1))[i]? = some pr.1:=by rw[List.getElem?_map,hpi];rfl
   constructor
   ·intro hh
    exact (List.getElem?_inj (List.getElem?_eq_some_iff.1 a1).1 q2).1 (by rw[a1,a2,hh])
   ·intro hh
    subst hh
    rw[hpj]at hpi
    cases hpi
    rfl
  rw[hij,hij2]
  exact Or.comm
def O1b (P:Program) (t:TypeId) (h:DHeap):Option Value→DR
 | some v=>.ofp (u4a P t v h)
 | none=>.bad
def DR.ofk:Option (List (Value × DHeap) × DHeap)→DR
 | some (l,h')=>.ok (.pick l) h'
 | none=>.bad
def C4b (h:DHeap):Option Value→DR
 | some v=>DR.ofk (Y4a v h)
 | none=>.bad
theorem U0c {ρ:Operand→Option Value} {h:DHeap} (dst:Option Tmp) (t:TypeId) (x:Operand) (ty:TypeId) (pos:String) (aft:Array Edge) (gd:Option (Nat × Bool)):dOp P ρ ⟨dst,.range t x,ty,pos,aft,gd⟩ h=O1b P t h (ρ x):=by
 unfold dOp O1b
 simp only
 cases ρ x <;> rfl
theorem w4c {ρ:Operand→Option Value} {h:DHeap} (dst:Option Tmp) (x:Operand) (ty:TypeId) (pos:String) (aft:Array Edge) (gd:Option (Nat × Bool)):dOp P ρ ⟨dst,.next x false,ty,pos,aft,gd⟩ h=C4b h (ρ x):=by
 unfold dOp C4b DR.ofk
 simp only
 cases ρ x with
 | none=>rfl
 | some v=>rfl
theorem I4b {t:TypeId} {h:DHeap} {v:Value}:O1b P t h (some v)=.ofp (u4a P t v h):=rfl
theorem n6b {h:DHeap} {v:Value}:C4b h (some v)=DR.ofk (Y4a v h):=rfl
theorem I5c {l:List (Value × DHeap)} {h:DHeap}:DR.ofk (some (l,h))=.ok (.pick l) h:=rfl
theorem h3c (ops:Array Oper) (o:Oper) (rest:List Oper) (s:St) (Q:Zk→St→Prop) (l:List (Value × DHeap)) (h:DHeap):NNx P ops o rest s Q (.ok (.pick l) h)=∀ p∈l,WQ P ops rest ⟨s.fr.put o.dst p.1,s.df,p.2,s.rd⟩ Q:=rfl
def I1b (h:DHeap):Option Value→DR
 | some v=>.ofv h (Y5a v h)
 | none=>.bad
theorem R0c {ρ:Operand→Option Value} {h:DHeap} (dst:Option Tmp) (x:Operand) (ty:TypeId) (pos:String) (aft:Array Edge) (gd:Option (Nat × Bool)):dOp P ρ ⟨dst,.entry x,ty,pos,aft,gd⟩ h=I1b h (ρ x):=by
 unfold dOp I1b
 simp only
 cases ρ x <;> rfl
theorem u4b {h:DHeap} {v:Value}:I1b h (some v)=.ofv h (Y5a v h):=rfl
attribute [go_sem] R0c u4b U0c w4c I4b n6b I5c h3c
end Go.D
namespace Go.Proofs.YtheamfnbfgiaeaaGreat
open Go.D
set_option maxRecDepth 100000
theorem j5c (a b:Key) (h:Zq a=Zq b):a=b:=by
 cases a;cases b
 simp only[Zq]at h
 simpa using h
theorem k2d:∃ d,Tryz.prog.underlying 31=some d∧∀ a b,Instr.sameNow d (Zq a) (Zq b)=none:=⟨_,rfl,fun _ _=>rfl⟩
theorem o0d (b:Bool) (k:Key):∃ u,ZK Tryz.prog (Instr.checkKey b 10000 31 (Zq k))=some (.inr u):=⟨_,rfl⟩
theorem L3c (k:Key):Instr.sameBits 10000 (Zq k) (Zq k)=true:=by
 simp[Instr.sameBits,Zq]
theorem a9b:KeyOf Tryz.prog 31 Zq:=
 have ⟨_,hu,hn⟩:=k2d
 .eq hu (fun _=>rfl) j5c o0d L3c hn (R0b 9998)
theorem p1a {α:Type} [DecidableEq α]:∀ {a b:List α},a.Nodup→(∀ x∈a,x∈b)→a.length≤b.length
 | [],_,_,_=>Nat.zero_le _
 | x :: a,b,hn,hs=>by
   rw[List.nodup_cons]at hn
   have h1:=p1a (a:=a) (b:=b.erase x) hn.2 fun y hy=>(List.mem_erase_of_ne (fun (hh:y=x)=>hn.1 (hh▸hy))).2 (hs y (by simp[hy]))
   have h2:=List.length_erase_of_mem (hs x (by simp))
   have h3:=List.length_pos_of_mem (hs x (by simp))
   rw[List.length_cons]
   omega
structure But (r:Nat) (K K':DHeap):Prop where
 next:K.next≤K'.next
 ng:K'.ng=K.ng
 get:∀ j,j<K.next→j≠r→K'.get j=K.get j
theorem W2b:Tryz.prog.underlying 147=some (.map 31 2):=by kernel_rfl
def S6a (fk:FuncId):Prop:=∀ {h:DHeap} {c l p id:Nat} {D:O3a} {m:List (Key × Value)} (I:List Key→DHeap→Prop) (hp:D.params=#[p]) (hps:p<D.size) (hid:id<h.next) (hc:c<h.next) (hl:l<h.next) (h0:I [] h) (hI:∀ dn K,I dn K→K.get l=some (.loop D)∧K.get c=some (.row [.map (some id)] 0 false)∧MapAt Zq K id m) (hE:∀ dn K K',I dn K→But h.next K K'→I dn K') (hR:∀ dn K k,I dn K→k∉dn→k∈m.map (·.1)→h.next<K.next→Rt Tryz.prog l D.size (g1a D.tmps [p] [Zq k]) D.assign D.body K fun r H=>r=.ret (.bool true)∧I (k :: dn) H∧H.get id=K.get id∧H.get h.next=K.get h.next∧K.next≤H.next),Ct Tryz.prog fk [.func (.yield l) #[] #[],.pointer (some ⟨c,0,none⟩)] h fun r H=>(∃ v,r=.ret v)∧∃ dn,dn.Nodup∧(∀ k,k∈dn↔k∈m.map (·.1))∧I dn H
theorem U6b:S6a 155:=by
 intro h c l p id D m I hp hps hid hc hl h0 hI hE hR
 refine a6d (by simp) ?_
 obtain ⟨hl0,hc0,hm0⟩:=hI [] h h0
 have C0:Zu h c 0=some (.map (some id)):=Zy hc0
 obtain ⟨o,hr0,hr1⟩:=hm0.range W2b hid
 simp -implicitDefEqProofs (disch:=first|omega|simp only[go_sem]) only[go_sem,true_and,z4d,C0,hr0]
 refine Xu (σ:=List Key) (by kernel_rfl) (fun dn s=>s.df=[]∧s.fr 0=some (.func (.yield l) #[] #[])∧s.fr 5=some (.pointer (some ⟨h.next,0,none⟩))∧h.next<s.h.next∧dn.Nodup∧(∀ k∈dn,k∈m.map (·.1))∧RngAt Zq s.h h.next id m dn∧I dn s.h) (fun dn=>m.length - dn.length) [] ?_ ?_
 ·simp -implicitDefEqProofs (disch:=first|omega|simp only[go_sem]) only[go_sem,true_and]
  exact ⟨Nat.lt_succ_self _,.nil,fun k hk=>(by cases hk),hr1,hE _ _ _ h0 ⟨Nat.le_succ _,rfl,fun j hj _=>ZU _ _ hj⟩⟩
 ·rintro dn ⟨fr,df,hh,rd⟩ K' hK' hX ⟨rfl,f0,f5,hlt,hnd,hsub,hrng,hinv⟩
  simp only at f0 f5 hlt hrng hinv
  obtain ⟨L,hL,hall⟩:=hrng.next (fun _=>rfl) (by omega)
  simp -implicitDefEqProofs (disch:=first|omega|simp only[go_sem]) only[go_sem,true_and,f5,hL]
  intro pp hpp
  rcases hall pp hpp with ⟨rfl,hd⟩ | ⟨k,v,o2,hk,hnk,rfl,hent,hr2⟩
  ·simp -implicitDefEqProofs (disch:=first|omega|simp only[go_sem]) only[go_sem,true_and]
   refine hX _ _ (by simp) ?_
   simp -implicitDefEqProofs (disch:=first|omega|simp only[go_sem]) only[go_sem,true_and]
   exact ⟨_,rfl,⟨_,rfl⟩,dn,hnd,fun k=>⟨hsub k,hd k⟩,hinv⟩
  obtain ⟨K1,hK1⟩:∃ K,K=hh.set h.next o2:=⟨_,rfl⟩
  rw[← hK1]at hent hr2
  obtain ⟨K2,hK2⟩:∃ K,K=K1.push (.row [.int .i32 k.t,.int .i64 k.r] 0 false):=⟨_,rfl⟩
  have hK1n:K1.next=hh.next:=by rw[hK1];rfl
  have hK2n:K2.next=hh.next+1:=by rw[hK2];exact congrArg (·+1) hK1n
  have g2:K2.get K1.next=some (.row [.int .i32 k.t,.int .i64 k.r] 0 false):=by rw[hK2];exact Zz _ _
  have hst:Yw Tryz.prog 31 (.pointer (some ⟨K1.next,0,none⟩)) (Zq k) (K1.push (.row [.int .i32 0,.int .i64 0] 0 false))=some K2:=by
   rw[hK2]
   exact (x3a rfl).trans (a0a rfl rfl)
  have l2:Zx K2 K1.next 0 2=some (Zq k):=by rw[Zw g2 (Nat.le_of_ble_eq_true rfl)];rfl
  have oth:∀ j,j<hh.next→j≠h.next→K2.get j=hh.get j:=fun j hj hne=>by rw[hK2,ZU _ _ (by omega),hK1,Zv _ _ hne]
  have hI2:I dn K2:=hE dn hh K2 hinv ⟨by omega,by rw[hK2,hK1];rfl,oth⟩
  have hl2:K2.get l=some (.loop D):=(hI dn K2 hI2).1
  have hr3:RngAt Zq K2 h.next id m (k :: dn):=hr2.keep (by rw[hK2];exact ZU _ _ (by omega)) (by rw[hK2];exact ZU _ _ (by omega))
  have hy:M2a Tryz.prog K2 (some (.func (.yield l) #[] #[])) (some [Zq k])=.ok (.round l D.size (g1a D.tmps [p] [Zq k]) D.assign D.body) K2:=by
   rw[q8a hl2 _ (by rw[hp];rfl) (by rw[hp];simpa using hps),hp]
  have hkm:k∈m.map (·.1):=List.mem_map.2 ⟨_,hk,rfl⟩
  simp -implicitDefEqProofs (disch:=first|omega|simp only[go_sem]) only[go_sem,true_and,← hK1,f5,hent,hst,f0,l2,hy]
  refine I2b (hR dn K2 k hI2 hnk hkm (by omega)) ?_
  rintro r H ⟨rfl,hI3,e1,e2,e3⟩
  simp -implicitDefEqProofs (disch:=first|omega|simp only[go_sem]) only[go_sem,true_and,Xj]
  have hlen:(k :: dn).length≤m.length:=by
   have:=p1a (a:=k :: dn) (b:=m.map (·.1)) (List.nodup_cons.2 ⟨hnk,hnd⟩) (fun x hx=>by
    rcases List.mem_cons.1 hx with rfl | hx
    ·exact hkm
    ·exact hsub x hx)
   simpa using this
  refine hK' (k :: dn) _ ?_ (by rw[List.length_cons]at hlen ⊢;omega)
  exact ⟨by trivial,(vy f0),(vy f5),show h.next<H.next by omega,List.nodup_cons.2 ⟨hnk,hnd⟩,fun x hx=>(by
   rcases List.mem_cons.1 hx with rfl | hx
   ·exact hkm
   ·exact hsub x hx),hr3.keep e1 e2,hI3⟩
abbrev z1b (fr:Fr) (k:Nat):O3a:=⟨13,fr,#[7],f7a,g7a,k,.ready,none⟩
structure AppI (hB:DHeap) (fr:Fr) (b:Nat) (dn:List Key) (K:DHeap):Prop where
 r:Rng hB (z1b fr hB.next) (fun j=>j=b) K
 box:∃ v w,K.get b=some (.row [v] 0 false)∧Owns fKey.rep NoS K v dn.reverse w∧∀ i,w=some i→hB.next+2<i
theorem AppI.but {hB K K':DHeap} {fr:Fr} {b:Nat} {dn:List Key} (s:AppI hB fr b dn K) (hb:b<hB.next) (e:But (hB.next+2) K K'):AppI hB fr b dn K':=by
 have hn:=s.r.nx
 obtain ⟨v,w,g,o,hw⟩:=s.box
 exact ⟨s.r.keep e.next e.ng fun j hj=>e.get j (by omega) (by omega),v,w,(e.get _ (by omega) (by omega)).trans g,o.mono e.next (fun i hi=>e.get i (o.lt i hi) (by have:=hw i hi;omega)) (fun i hi=>hi.elim),hw⟩
theorem k0c {hB K:DHeap} {fr:Fr} {b:Nat} {dn:List Key} {k:Key} (hk:fKey.ok k) (hlen:dn.length+1≤4294967296) (hb:b<hB.next) (f2:fr 2=some (.pointer (some ⟨b,0,none⟩))) (hnx:hB.next+2<K.next) (s:AppI hB fr b dn K) :
 Rt Tryz.prog (hB.next+1) 13 (g1a fr [7] [Zq k]) f7a g7a K fun r H=>r=.ret (.bool true)∧AppI hB fr b (k :: dn) H∧H.get (hB.next+2)=K.get (hB.next+2)∧K.next≤H.next:=by
 obtain ⟨v,w,gb,o,hw⟩:=s.box
 have hwl:=o.lt
 refine J9c c2d d2d (by kernel_rfl) (by kernel_rfl) ?_
 obtain ⟨K1,hK1⟩:∃ K1,K1=K.push (.row [.int .i32 k.t,.int .i64 k.r] 0 false):=⟨_,rfl⟩
 have hst:Yw Tryz.prog 31 (.pointer (some ⟨K.next,0,none⟩)) (Zq k) (K.push (.row [.int .i32 0,.int .i64 0] 0 false))=some K1:=by
  rw[hK1]
  exact (x3a rfl).trans (a0a rfl rfl)
 have r1:=s.r.push (.row [.int .i32 k.t,.int .i64 k.r] 0 false)
 rw[← hK1]at r1
 simp -implicitDefEqProofs (disch:=first|omega|simp only[go_sem]) only[go_sem,true_and,M7b,g1a,hst]
 refine ⟨_,r1.lp,rfl,?_⟩
 obtain ⟨D2,hD2⟩:∃ D2:O3a,D2={ z1b fr hB.next with state:=.busy,pending:=(z1b fr hB.next).pending }:=⟨_,rfl⟩
 rw[← hD2]
 obtain ⟨K2,hK2⟩:∃ K2,K2=K1.set (hB.next+1) (.loop D2):=⟨_,rfl⟩
 rw[← hK2]
 have r2:Rng hB D2 (fun j=>j=b) K2:=by rw[hK2];exact r1.loop _
 have hK2n:K2.next=K.next+1:=by rw[hK2,hK1];rfl
 have hK2g:K2.ng=K.ng:=by rw[hK2,hK1];rfl
 have oth:∀ j,j<K.next→j≠hB.next+1→K2.get j=K.get j:=fun j hj hne=>by rw[hK2,Zv _ _ hne,hK1,ZU _ _ hj]
 have gb2:K2.get b=some (.row [v] 0 false):=(oth _ (by omega) (by omega)).trans gb
 have gk2:K2.get K.next=some (.row [.int .i32 k.t,.int .i64 k.r] 0 false):=by rw[hK2,Zv _ _ (by omega),hK1];exact Zz _ _
 have o2:Owns fKey.rep NoS K2 v dn.reverse w:=o.mono (by omega) (fun i hi=>oth i (hwl i hi) (by have:=hw i hi;omega)) (fun i hi=>hi.elim)
 have lb:Zu K2 b 0=some v:=Zy gb2
 have lk:Zx K2 K.next 0 2=some (Zq k):=by rw[Zw gk2 (Nat.le_of_ble_eq_true rfl)];rfl
 obtain ⟨v',h2,e6,n2,ng2,gg,o3⟩:=o2.snoc (cs:=[.int .i32 k.t,.int .i64 k.r]) (x:=k) (z:=2) (fun i hi=>hi.elim) ⟨rfl,hk⟩ rfl (by decide) b4b (by simpa using hlen) (by decide)
 have hv':v'.cells=#[v']:=o3.sl.cells1
 have hone:[v'].all Value.oneCell'=true:=by obtain ⟨_,_,rfl⟩:=o3.sl.isSlice;rfl
 have gb3:h2.get b=some (.row [v] 0 false):=(gg _ (by omega) (fun h=>by have:=hw b h;omega)).trans gb2
 have w1:Yw Tryz.prog 24 (.pointer (some ⟨b,0,none⟩)) v' h2=some (h2.set b (.row [v'] 0 false)):=(F9c hv').trans (ZJ gb3 (Nat.le_of_ble_eq_true rfl) hone)
 simp -implicitDefEqProofs (disch:=first|omega|simp only[go_sem]) only[go_sem,true_and,N7b,f2,lb,lk,e6,w1]
 have hnw:∀ j,j<hB.next+3→w≠some j:=fun j hj h=>by have:=hw j h;omega
 have r3:Rng hB D2 (fun j=>j=b) h2:=r2.keep (by omega) ng2 fun j hj=>gg j (by omega) (hnw j (by omega))
 have r4:Rng hB D2 (fun j=>j=b) (h2.set b (.row [v'] 0 false)):=r3.set rfl hb
 refine ⟨D2,r4.lp,rfl,?_,?_,?_⟩
 ·subst hD2
  refine ⟨r4.loop _,v',some (K2.next+1),(Zv _ _ (by omega)).trans (ZX _ _),?_,fun i hi=>by cases hi;omega⟩
  rw[List.reverse_cons]
  exact o3.mono (Nat.le_refl _) (fun i hi=>by cases hi;rw[Zv _ _ (by omega),Zv _ _ (by omega)]) (fun i hi=>hi.elim)
 ·rw[Zv _ _ (by omega),Zv _ _ (by omega),gg _ (by omega) (hnw _ (by omega)),oth _ (by omega) (by omega)]
 ·show K.next≤h2.next
  omega
theorem y3c {fk:FuncId} (Y:S6a fk) (hg:R0a Tryz.prog fk=true) {hB:DHeap} {fr:Fr} {b c id:Nat} {m:List (Key × Value)} {Q:Zk→St→Prop} (hlen:m.length≤4294967296) (hok:∀ k∈m.map (·.1),fKey.ok k)
 (f2:fr 2=some (.pointer (some ⟨b,0,none⟩))) (f6:fr 6=some (.func (.func fk) #[] #[.pointer (some ⟨c,0,none⟩)]))
 (hb:b<hB.next) (gb:hB.get b=some (.row [.slice none 0 0] 0 false)) (hc:c<hB.next∧c≠b) (gc:hB.get c=some (.row [.map (some id)] 0 false)) (hid:id<hB.next∧id≠b) (hm:MapAt Zq hB id m)
 (hA:∀ dn H,dn.Nodup→(∀ k,k∈dn↔k∈m.map (·.1))→AppI hB fr b dn H→Q .normal ⟨fr,[.mark hB.next],H.set (hB.next+1) (.loop { z1b fr hB.next with state:=.exhausted }),none⟩) :
 NC Tryz.prog 13 (.rangeFunc (T 6) #[7] f7a g7a) Q ⟨fr,[],hB,none⟩:=by
 refine NC.range_yields (fv:=.func (.func fk) #[] #[.pointer (some ⟨c,0,none⟩)]) (A:=fun H=>∃ dn,dn.Nodup∧(∀ k,k∈dn↔k∈m.map (·.1))∧AppI hB fr b dn H) (B:=fun _=>False) rfl (vy f6) (fun K=>M4b hg _ _ _ K) ?_ (fun H ⟨dn,h1,h2,s⟩=>⟨s.r.lp,hA dn H h1 h2 s⟩) (fun H s=>s.elim)
 have e:Ext hB ((hB.push (.marks true)).push (.loop (z1b fr hB.next))):=(Ext.push1 _ _).push _
 refine (Y (D:=z1b fr hB.next) (p:=7) (id:=id) (m:=m) (fun dn K=>AppI hB fr b dn K∧dn.Nodup∧∀ k∈dn,k∈m.map (·.1)) rfl (Nat.le_of_ble_eq_true rfl) (Nat.lt_of_lt_of_le hid.1 e.next) (Nat.lt_of_lt_of_le hc.1 e.next) (Nat.lt_succ_self _) ?_ (fun dn K ⟨s,_,_⟩=>⟨s.r.lp,(s.r.old _ hc.1 hc.2).trans gc,hm.keep (s.r.old _ hid.1 hid.2)⟩) (fun dn K K' ⟨s,h1,h2⟩ e=>⟨s.but hb e,h1,h2⟩) ?_).mono fun r H ⟨h1,dn,h2,h3,h4,_⟩=>⟨h1,.inl ⟨dn,h2,h3,h4⟩⟩
 ·exact ⟨⟨Rng.start _ _ _,_,_,(e.get _ hb).trans gb,Owns.nil _ _ _,fun i hi=>by cases hi⟩,.nil,fun k hk=>by cases hk⟩
 ·rintro dn K k ⟨s,hn,hs⟩ hnk hkm hlt
  have hl:(k :: dn).length≤m.length:=by
   have:=p1a (a:=k :: dn) (b:=m.map (·.1)) (List.nodup_cons.2 ⟨hnk,hn⟩) (fun x hx=>by
    rcases List.mem_cons.1 hx with rfl | hx
    ·exact hkm
    ·exact hs x hx)
   simpa using this
  refine (k0c (hok k hkm) (by rw[List.length_cons]at hl;omega) hb f2 hlt s).mono fun r H ⟨h1,h2,h3,h4⟩=>⟨h1,⟨h2,List.nodup_cons.2 ⟨hnk,hn⟩,fun x hx=>?_⟩,(h2.r.old _ hid.1 hid.2).trans (s.r.old _ hid.1 hid.2).symm,h3,h4⟩
  rcases List.mem_cons.1 hx with rfl | hx
  ·exact hkm
  ·exact hs x hx
theorem d6b {fk:FuncId} (Y:S6a fk) (hg:R0a Tryz.prog fk=true) {h:DHeap} {c id:Nat} {m:List (Key × Value)} (hlen:m.length≤4294967296) (hok:∀ k∈m.map (·.1),fKey.ok k) (hc:c<h.next) (gc:h.get c=some (.row [.map (some id)] 0 false)) (hid:id<h.next) (hm:MapAt Zq h id m) :
 Ct Tryz.prog 112 [.slice none 0 0,.func (.func fk) #[] #[.pointer (some ⟨c,0,none⟩)]] h fun r h1=>∃ v dn,r=.ret v∧dn.Nodup∧(∀ k,k∈dn↔k∈m.map (·.1))∧Made fKey h h1 v dn:=by
 refine G5d (by simp) ?_
 obtain ⟨H0,hH0⟩:∃ H,H=h.push (.row [.slice none 0 0] 0 false):=⟨_,rfl⟩
 have hE0:Ext h H0:=by rw[hH0];exact Ext.push1 _ _
 have hH0n:H0.next=h.next+1:=by rw[hH0];rfl
 have gb:H0.get h.next=some (.row [.slice none 0 0] 0 false):=by rw[hH0];exact Zz _ _
 simp -implicitDefEqProofs (disch:=first|omega|simp only[go_sem]) only[go_sem,true_and,i4d,← hH0]
 refine y3c Y hg (b:=h.next) (c:=c) (id:=id) (m:=m) hlen hok vz vz (by omega) gb ⟨by omega,by omega⟩ ((hE0.get _ hc).trans gc) ⟨by omega,by omega⟩ (hm.keep (hE0.get _ hid)) (fun dn H hn hmem s=>?_)
 generalize hHf:H.set (H0.next+1) _=Hf
 obtain ⟨rr,v,w,g,o,hw⟩:=s
 have nr:=rr.nx
 have oth:∀ j,j≠H0.next+1→Hf.get j=H.get j:=fun j hj=>by rw[← hHf];exact Zv _ _ hj
 have nf:Hf.next=H.next:=by rw[← hHf];rfl
 have hEf:Ext h Hf:=by rw[← hHf];exact (rr.below hE0 fun j hj=>by rw[hj];exact Nat.le_refl _).set (by omega)
 have hM:Hf.get H0.next=some (.marks true):=(oth _ (by omega)).trans rr.mrk
 have k1:Zu Hf h.next 0=some v:=Zy ((oth _ (by omega)).trans g)
 have o1:Owns fKey.rep NoS (Hf.set H0.next (.marks false)) v dn.reverse w:=o.mono (Nat.le_of_eq nf.symm) (fun i hi=>by have:=hw i hi;rw[Zv _ _ (by omega),oth _ (by omega)]) (fun i hi=>hi.elim)
 simp -implicitDefEqProofs (disch:=first|omega|simp only[go_sem]) only[go_sem,true_and,k1]
 refine p3c hM ?_
 simp -implicitDefEqProofs (disch:=first|omega|simp only[go_sem]) only[go_sem,true_and]
 exact ⟨_,rfl,v,dn.reverse,rfl,List.pairwise_reverse.2 (hn.imp fun h=>h.symm),fun k=>by rw[List.mem_reverse];exact hmem k,hEf.set (by omega),w,o1,fun i hi=>by have:=hw i hi;omega⟩
end Go.Proofs.YtheamfnbfgiaeaaGreat
namespace Go.D
variable {P:Program} {nt:Nat}
def f8b (E:DHeap→DHeap→Prop) (V:Nat→DHeap→Value→Prop) (cons:Nat→Option Nat) (b:List Nat) (i:Nat) (o:Oper) (s s':St):Prop:=
 ∃ v h',s'=⟨s.fr.put o.dst v,s.df,h',s.rd⟩∧E s.h h'∧V i h' v∧∀ j u,j≠i→(b.getD j 0).testBit i=false→(∀ c,cons j=some c→c≠i∧(b.getD i 0).testBit c=false)→V j s.h u→V j h' u
theorem NC.regsC {id:Nat} {ops:Array Oper} {l:List Oper} {b:List Nat} {Q:Zk→St→Prop} {s0:St} (hmix:P.follows .mixedOrders=true) (hd:E0a nt ops=true) (hlow:a5a ops=true) (hb:Xk ops.toList []=b) (hl:ops.map YY=l.toArray) (hown:Q4a l=true)
 (E:DHeap→DHeap→Prop) (hrefl:∀ h,E h h) (htrans:∀ a b c,E a b→E b c→E a c) (V:Nat→DHeap→Value→Prop) (cons:Nat→Option Nat)
 (hstep:∀ (i:Nat) (o:Oper) (s:St),l[i]? = some o→g8a l E s0 s→(∀ j t,YQ l j=some t→(b.getD j 0).testBit i=true→s.fr t=s0.fr t)→(∀ t,YQ l i=some t→s.fr t=s0.fr t)→(∀ j,(b.getD i 0).testBit j=true→(cons j=none∨cons j=some i)→RegAt l V j s)→WJ P l.toArray o s (f8b E V cons b i o s) Q)
 (hfin:∀ s,g8a l E s0 s→(∀ i,i<l.length→cons i=none→RegAt l V i s)→Q .normal s):NC P nt (.region id ops true) Q s0:=by
 subst hb
 have hsz:ops.size=l.length:=by
  have:=congrArg Array.size hl
  simpa using this
 have hat:∀ {i:Nat} {o:Oper},ops[i]? = some o→l[i]? = some (YY o):=fun {i o} ho=>by
  have:=congrArg (fun a:Array Oper=>a[i]?) hl
  simp only[Array.getElem?_map,ho,Option.map_some]at this
  simpa using this.symm
 refine NC.any hmix hd (I5a hlow) (fun L s=>g8a l E s0 s∧(∀ i,L i=true→i<ops.size)∧(∀ (i:Nat) o,L i=true→ops[i]? = some o→∀ p∈XV o,L p=true)∧(∀ i,L i=true→(∀ c,cons i=some c→L c=false)→RegAt l V i s)∧∀ j t,YQ l j=some t→L j=false→s.fr t=s0.fr t)
  ⟨⟨rfl,rfl,hrefl _,fun _ _=>rfl⟩,by simp,by simp,by simp,fun _ _ _ _=>rfl⟩ ?_ (fun L s hI hall=>hfin s hI.1 fun i hi hc=>hI.2.2.2.1 i (hall i (by omega)) fun c hc2=>by rw[hc]at hc2;cases hc2)
 rintro L s i o ⟨hG,hsz',hdn,hF,hpre⟩ ho hn hp
 have hi:=(Array.getElem?_eq_some_iff.1 ho).1
 have hcl:∀ (k:Nat) o,ops[k]? = some o→(∀ p∈XV o,L p=true)→∀ j,((Xk ops.toList []).getD k 0).testBit j=true→L j=true:=fun k o ho hp j hj=>
  p4a (D:=fun j=>L j=true) (fun i o hi ho p hp=>hdn i o hi ho p hp) k o ho hp j hj
 have hx:=hstep i (YY o) s (hat ho) hG (fun j t hj hbit=>hpre j t hj (by
  cases hL:L j with
  | false=>rfl
  | true=>
    have hjs:=hsz' j hL
    have hoj:=Array.getElem?_eq_getElem hjs
    have:=hcl j _ hoj (hdn j _ hL hoj) i hbit
    rw[hn]at this
    cases this)) (fun t ht=>hpre i t ht hn) fun j hj hc=>hF j (hcl i o ho hp j hj) fun c hc2=>by
    rcases hc with hc | hc <;> rw[hc]at hc2 <;> cases hc2
    exact hn
 have fin:∀ s',f8b E V cons (Xk ops.toList []) i (YY o) s s' →
  (g8a l E s0 s'∧(∀ j,(if j=i then true else L j)=true→j<ops.size)∧(∀ (j:Nat) o,(if j=i then true else L j)=true→ops[j]? = some o→∀ p∈XV o,(if p=i then true else L p)=true)∧(∀ j,(if j=i then true else L j)=true→(∀ c,cons j=some c→(if c=i then true else L c)=false)→RegAt l V j s')∧∀ j t,YQ l j=some t→(if j=i then true else L j)=false→s'.fr t=s0.fr t):=by
  rintro _ ⟨v,h',rfl,he,hv,hst⟩
  have hdst:YQ l i=o.dst:=by simp[YQ,hat ho,YY]
  have hput:∀ t,o.dst≠some t→s.fr.put o.dst v t=s.fr t:=fun t ht=>by
   cases hod:o.dst with
   | none=>rfl
   | some d=>exact i3a _ _ (fun e=>ht (by rw[hod,e]))
  refine ⟨⟨hG.df,hG.rd,htrans _ _ _ hG.ext he,fun t ht=>?_⟩,fun j hj=>?_,fun j oj hj hoj p hpm=>?_,fun j hj hcj=>?_,fun j t hj hLj=>?_⟩
  ·have:o.dst≠some t:=fun e=>by
    have hc:P0b l t=true:=List.any_eq_true.2 ⟨YY o,List.mem_of_getElem? (hat ho),by show (o.dst==some t)=true;rw[e];simp⟩
    rw[ht]at hc;cases hc
   exact (hput t this).trans (hG.fr t ht)
  ·by_cases hji:j=i
   ·rw[hji];exact hi
   ·rw[if_neg hji]at hj;exact hsz' j hj
  ·by_cases hpi:p=i
   ·rw[if_pos hpi]
   ·rw[if_neg hpi]
    by_cases hji:j=i
    ·subst hji;rw[ho]at hoj;cases hoj;exact hp p hpm
    ·rw[if_neg hji]at hj;exact hdn j oj hj hoj p hpm
  ·by_cases hji:j=i
   ·subst hji
    refine ⟨v,fun d hd=>?_,hv⟩
    rw[hdst]at hd
    show s.fr.put o.dst v d=_
    rw[hd]
    exact Z3a _ _ _
   ·rw[if_neg hji]at hj
    obtain ⟨u,h1,h2⟩:=hF j hj fun c hc=>by
     have:=hcj c hc
     by_cases hci:c=i
     ·rw[if_pos hci]at this;cases this
     ·rwa [if_neg hci]at this
    have hbj:((Xk ops.toList []).getD j 0).testBit i=false:=by
     cases hbit:((Xk ops.toList []).getD j 0).testBit i with
     | false=>rfl
     | true=>
       have hoj:=Array.getElem?_eq_getElem (hsz' j hj)
       have:=hcl j _ hoj (hdn j _ hj hoj) i hbit
       rw[hn]at this
       cases this
    refine ⟨u,fun d hd=>?_,hst j u hji hbj (fun c hc=>by
     have h3:=hcj c hc
     by_cases hci:c=i
     ·rw[if_pos hci]at h3;cases h3
     ·rw[if_neg hci]at h3
      refine ⟨hci,?_⟩
      cases hbit:((Xk ops.toList []).getD i 0).testBit c with
      | false=>rfl
      | true=>rw[hcl i o ho hp c hbit]at h3;cases h3) h2⟩
    have hne:o.dst≠some d:=fun e=>by
     have hjs:=hsz' j hj
     have hoj:=hat (Array.getElem?_eq_getElem hjs)
     have hd2:(YY ops[j]).dst=some d:=by simpa [YQ,hoj] using hd
     exact hji (T2a hown hoj (hat ho) hd2 e)
    exact (hput d hne).trans (h1 d hd)
  ·by_cases hji:j=i
   ·rw[if_pos hji]at hLj;cases hLj
   ·rw[if_neg hji]at hLj
    have hne:o.dst≠some t:=fun e=>by
     unfold YQ at hj
     cases hlj:l[j]? with
     | none=>rw[hlj]at hj;cases hj
     | some oj=>
       rw[hlj]at hj
       exact hji (T2a hown hlj (hat ho) (by simpa using hj) e)
    exact (hput t hne).trans (hpre j t hj hLj)
 rw[← hl,C5a]at hx
 unfold WJ at hx ⊢
 cases hw:Yv ops s.fr o with
 | none=>rw[hw]at hx;exact hx.elim
 | some bb=>
   rw[hw]at hx
   cases bb with
   | false=>exact fin _ hx
   | true=>exact o3a fin (fun _ _ h=>h) hx
section
variable {ops:Array Oper} {o:Oper} {s:St} {E:DHeap→DHeap→Prop} {V:Nat→DHeap→Value→Prop} {cons:Nat→Option Nat} {b:List Nat} {i:Nat} {Q:Zk→St→Prop} {v:Value} {h':DHeap}
theorem i0a (hE:∀ h,E h h) (hw:Yv ops s.fr o=some true) (hop:dOp P (Yy s.h.ng s.fr) o s.h=.ok (.value v) s.h) (hV:V i s.h v):WJ P ops o s (f8b E V cons b i o s) Q:=
 N9a hw hop ⟨v,_,rfl,hE _,hV,fun _ _ _ _ _ h=>h⟩
theorem k3a (hw:Yv ops s.fr o=some true) (hop:dOp P (Yy s.h.ng s.fr) o s.h=.ok (.value v) h') (he:E s.h h') (hV:V i h' v) (hst:∀ j u,j≠i→(b.getD j 0).testBit i=false→(∀ c,cons j=some c→c≠i∧(b.getD i 0).testBit c=false)→V j s.h u→V j h' u):WJ P ops o s (f8b E V cons b i o s) Q:=
 N9a hw hop ⟨v,_,rfl,he,hV,hst⟩
end
end Go.D
namespace Go.Proofs.YtheamfnbfgiaeaaGreat
open Go.D
open Go.Sort
set_option maxRecDepth 100000
theorem x2a {a b:Key}:Yq a b=true↔a.t<b.t∨(a.t=b.t∧a.r<b.r):=by simp[Yq]
theorem f1a (a:Key):Yq a a=false:=by
 cases h:Yq a a with
 | false=>rfl
 | true=>have:=x2a.1 h;omega
theorem J3a {a b c:Key} (h:Yq a b=true) (g:Yq b c=true):Yq a c=true:=by
 rw[x2a]at *;omega
theorem Q0b {a b:Key} (h:Yq a b=true):Yq b a=false:=by
 cases g:Yq b a with
 | false=>rfl
 | true=>rw[x2a]at h g;omega
theorem D1d {a b:Key} (h:a.t=b.t) (g:a.r=b.r):a=b:=by cases a;cases b;simp at h g;simp[h,g]
theorem S2a {a b:Key} (h:Yq a b=false) (hn:a≠b):Yq b a=true:=by
 rw[x2a]
 have h':¬ (a.t<b.t∨(a.t=b.t∧a.r<b.r)):=fun hh=>by rw[x2a.2 hh]at h;cases h
 by_cases ht:a.t=b.t
 ·have:a.r≠b.r:=fun hr=>hn (D1d ht hr)
  omega
 ·omega
theorem C2b:SWO Yq where
 irrefl:=f1a
 trans:=fun _ _ _ h g=>J3a h g
 ntrans:=fun x y z h g=>by
  cases k:Yq x z with
  | false=>rfl
  | true=>
    have h':¬ (x.t<y.t∨(x.t=y.t∧x.r<y.r)):=fun hh=>by rw[x2a.2 hh]at h;cases h
    have g':¬ (y.t<z.t∨(y.t=z.t∧y.r<z.r)):=fun hh=>by rw[x2a.2 hh]at g;cases g
    have:=x2a.1 k
    omega
abbrev UpK (l:List Key):Prop:=l.Pairwise fun a b=>Yq a b=true
theorem M3b:∀ {l m:List Key},UpK l→UpK m→(∀ x,x∈l↔x∈m)→l=m
 | [],[],_,_,_=>rfl
 | [],y :: m,_,_,h=>absurd ((h y).2 List.mem_cons_self) (by simp)
 | x :: l,[],_,_,h=>absurd ((h x).1 List.mem_cons_self) (by simp)
 | x :: l,y :: m,hl,hm,h=>by
   obtain ⟨hx,hl'⟩:=List.pairwise_cons.1 hl
   obtain ⟨hy,hm'⟩:=List.pairwise_cons.1 hm
   have e:x=y:=by
    rcases List.mem_cons.1 ((h x).1 List.mem_cons_self) with e | e
    ·exact e
    ·rcases List.mem_cons.1 ((h y).2 List.mem_cons_self) with e' | e'
     ·exact e'.symm
     ·have a:=hx y e'
      rw[Q0b (hy x e)]at a
      cases a
   subst e
   refine congrArg (x :: ·) (M3b hl' hm' fun z=>⟨fun hz=>?_,fun hz=>?_⟩)
   ·rcases List.mem_cons.1 ((h z).1 (List.mem_cons_of_mem _ hz)) with e | e
    ·subst e;have:=hx z hz;rw[f1a]at this;cases this
    ·exact e
   ·rcases List.mem_cons.1 ((h z).2 (List.mem_cons_of_mem _ hz)) with e | e
    ·subst e;have:=hy z hz;rw[f1a]at this;cases this
    ·exact e
def C3a (x:Key):List Key→List Key
 | []=>[x]
 | y :: l=>if Yq y x=true then y :: C3a x l else if y=x then y :: l else x :: y :: l
def E4a (l:List Key):List Key:=l.foldl (fun r x=>C3a x r) []
theorem g0b {x z:Key}:∀ {l:List Key},z∈C3a x l↔z=x∨z∈l
 | []=>by simp[C3a]
 | y :: l=>by
   unfold C3a
   split
   ·rw[List.mem_cons,g0b,List.mem_cons]
    constructor
    ·rintro (h | h | h) <;> simp[h]
    ·rintro (h | h | h) <;> simp[h]
   ·split
    ·rename_i e;subst e
     simp
    ·simp
theorem A7b {x:Key}:∀ {l:List Key},UpK l→UpK (C3a x l)
 | [],_=>by simp[C3a]
 | y :: l,h=>by
   obtain ⟨hy,hl⟩:=List.pairwise_cons.1 h
   unfold C3a
   split
   ·rename_i e
    refine List.pairwise_cons.2 ⟨fun z hz=>?_,A7b hl⟩
    rcases g0b.1 hz with rfl | hz
    ·exact e
    ·exact hy z hz
   ·rename_i e
    split
    ·exact h
    ·rename_i hn
     have hxy:=S2a (by simpa using e) hn
     refine List.pairwise_cons.2 ⟨fun z hz=>?_,h⟩
     rcases List.mem_cons.1 hz with rfl | hz
     ·exact hxy
     ·exact J3a hxy (hy z hz)
theorem p5b {x:Key}:∀ {l:List Key},(C3a x l).length≤l.length+1
 | []=>by simp[C3a]
 | y :: l=>by
   unfold C3a
   have:=p5b (x:=x) (l:=l)
   split
   ·simp;omega
   ·split <;> simp
theorem Z9a:∀ (l r:List Key),UpK r→UpK (l.foldl (fun r x=>C3a x r) r)∧∀ z,z∈l.foldl (fun r x=>C3a x r) r↔z∈l∨z∈r
 | [],r,h=>by simp[h]
 | x :: l,r,h=>by
   obtain ⟨a,b⟩:=Z9a l (C3a x r) (A7b h)
   refine ⟨a,fun z=>?_⟩
   rw[List.foldl_cons,b z,g0b,List.mem_cons]
   constructor
   ·rintro (h | h | h) <;> simp[h]
   ·rintro ((h | h) | h) <;> simp[h]
theorem d0b (l:List Key):UpK (E4a l):=(Z9a l [] .nil).1
theorem mem_keysN {l:List Key} {z:Key}:z∈E4a l↔z∈l:=by
 have:=(Z9a l [] .nil).2 z
 simpa [E4a] using this
theorem c5b:∀ (l r:List Key),(l.foldl (fun r x=>C3a x r) r).length≤l.length+r.length
 | [],r=>by simp
 | x :: l,r=>by
   have h1:=c5b l (C3a x r)
   have h2:=p5b (x:=x) (l:=r)
   simp only[List.foldl_cons,List.length_cons]
   omega
theorem D2b (l:List Key):(E4a l).length≤l.length:=by simpa [E4a] using c5b l []
def WY:List Key→List Key
 | []=>[]
 | [x]=>[x]
 | x :: y :: l=>if x=y then WY (y :: l) else x :: WY (y :: l)
theorem w6a {z:Key}:∀ {l:List Key},z∈WY l↔z∈l
 | []=>by simp[WY]
 | [x]=>by simp[WY]
 | x :: y :: l=>by
   unfold WY
   have:=w6a (z:=z) (l:=y :: l)
   split
   ·rename_i e;subst e
    rw[this];simp
   ·rw[List.mem_cons,this];simp
theorem S9a:∀ {l:List Key},l.Pairwise (fun a b=>Yq b a=false)→UpK (WY l)
 | [],_=>by simp[WY]
 | [x],_=>by simp[WY]
 | x :: y :: l,h=>by
   obtain ⟨hx,hl⟩:=List.pairwise_cons.1 h
   unfold WY
   split
   ·exact S9a hl
   ·rename_i hn
    have hxy:=S2a (hx y List.mem_cons_self) (fun e=>hn e.symm)
    refine List.pairwise_cons.2 ⟨fun z hz=>?_,S9a hl⟩
    rcases List.mem_cons.1 (w6a.1 hz) with rfl | hz
    ·exact hxy
    ·have hyz:=(List.pairwise_cons.1 hl).1 z hz
     by_cases e:z=y
     ·rw[e];exact hxy
     ·exact J3a hxy (S2a hyz e)
theorem E2b {l l':List Key} (hp:l'.Perm l) (hs:l'.Pairwise (fun a b=>Yq b a=false)):WY l'=E4a l:=
 M3b (S9a hs) (d0b l) fun z=>by rw[w6a,mem_keysN,hp.mem_iff]
instance:Inhabited Key:=⟨⟨0,0⟩⟩
theorem P6a {l:List Key} {n:Nat} (hn:n=l.length) (h:SortedIn Yq 0 n l.toArray):l.Pairwise (fun a b=>Yq b a=false):=by
 subst hn
 refine List.pairwise_iff_getElem.2 fun i j hi hj hij=>?_
 have:=h i j (Nat.zero_le _) hij hj
 simpa [hi,hj] using this
end Go.Proofs.YtheamfnbfgiaeaaGreat
namespace Go.Proofs.YtheamfnbfgiaeaaGreat
open Go.D
set_option maxRecDepth 100000
theorem _root_.Go.D.Made.base {α:Type} {F:FRep α} {h0 h1 h2:DHeap} {v:Value} {l:List α} (m:Made F h1 h2 v l) (e:Ext h0 h1):Made F h0 h2 v l:=by
 obtain ⟨w,a,b⟩:=m.own
 exact ⟨e.trans m.ext,w,a,fun i hi=>Nat.le_trans e.next (b i hi)⟩
def InsV (L:List Value) (K0:DHeap) (a b c:List Key) (k:Nat) (h:DHeap) (v:Value):Prop:=
 ((k≠4∧k≠9∧k≠10∧k≠14∧k≠15)→v=L.getD k undef)∧(k=4→Made fKey K0 h v a)∧(k=9→Arg fKey.rep h v b)∧(k=10→Made fKey K0 h v (a++b))∧(k=14∨k=15→Made fKey K0 h v (a++b++c))
theorem InsV.stab {L:List Value} {K0 h h':DHeap} {a b c:List Key} {k:Nat} {v:Value} (e:Ext h h') (x:InsV L K0 a b c k h v):InsV L K0 a b c k h' v:=
 ⟨x.1,fun hk=>(x.2.1 hk).on e,fun hk=>(x.2.2.1 hk).ext e,fun hk=>(x.2.2.2.1 hk).on e,fun hk=>(x.2.2.2.2 hk).on e⟩
end Go.Proofs.YtheamfnbfgiaeaaGreat
namespace Go.D
variable {P:Program} {α:Type}
def RowIs (F:FRep α) (h:DHeap) (id:Nat) (A:List α):Prop:=h.get id=some (.row (A.flatMap F.enc) F.z false)
theorem N7a (vs:List Value):∀ (x B:List Value),vs.length=x.length→Xy (x++B) 0 vs=vs++B:=fun x B hl=>by
 refine List.ext_getElem? fun i=>?_
 rw[n4a]
 by_cases h1:i<vs.length
 ·rw[if_pos ⟨Nat.zero_le _,by omega,by simp;omega⟩,Nat.sub_zero,List.getElem?_append_left h1]
 ·rw[if_neg (by omega),List.getElem?_append_right (by omega),List.getElem?_append_right (by omega),hl]
theorem x6b (F:FRep α) {A:List α} {k:Nat} (hk:k<A.length) (x:α):Xy (A.flatMap F.enc) (k*F.z) (F.enc x)=(A.set k x).flatMap F.enc:=by
 have h1:A.flatMap F.enc=(A.take k).flatMap F.enc++(F.enc A[k]++(A.drop (k+1)).flatMap F.enc):=by
  conv=>lhs;rw[← List.take_append_drop k A,List.drop_eq_getElem_cons hk]
  rw[List.flatMap_append,List.flatMap_cons]
 have h2:(A.set k x).flatMap F.enc=(A.take k).flatMap F.enc++(F.enc x++(A.drop (k+1)).flatMap F.enc):=by
  rw[List.set_eq_take_append_cons_drop,if_pos hk,List.flatMap_append,List.flatMap_cons]
 have h3:k*F.z=((A.take k).flatMap F.enc).length+0:=by rw[Yx];simp[Nat.min_eq_left (Nat.le_of_lt hk)]
 rw[h1,h2,h3,S2b,N7a _ _ _ (by rw[F.len,F.len])]
theorem RowIs.store {F:FRep α} {h:DHeap} {id k:Nat} {A:List α} (r:RowIs F h id A) (hk:k<A.length) (x:α):storeAt h id (k*F.z) (F.enc x)=some (h.set id (.row ((A.set k x).flatMap F.enc) F.z false)):=by
 have hm:(k+1)*F.z≤A.length*F.z:=Nat.mul_le_mul_right _ hk
 rw[Nat.succ_mul]at hm
 rw[ZJ r (by rw[F.len,Yx];exact hm) ?_,x6b F hk]
 refine List.all_eq_true.2 fun v hv=>?_
 have:=List.all_eq_true.1 (F.flat x) v hv
 unfold YW at this
 cases v <;> first | rfl | cases this
theorem RowIs.set {F:FRep α} {h:DHeap} {id:Nat} {A:List α} {z:Nat} (hz:z=F.z):RowIs F (h.set id (.row (A.flatMap F.enc) z false)) id A:=by
 subst hz;exact ZX _ _
theorem RowIs.sl {F:FRep α} {h:DHeap} {id o n c:Nat} {A:List α} (r:RowIs F h id A) (hn:o+n≤A.length) (hok:∀ x∈A,F.ok x):Sl F.rep (fun i=>i=id) h (.slice (some ⟨id,o*F.z,none⟩) n c) ((A.drop o).take n):=by
 have hl:((A.drop o).take n).length=n:=by simp;omega
 have hm:(o+n)*F.z≤A.length*F.z:=Nat.mul_le_mul_right _ hn
 rw[Nat.add_mul]at hm
 refine .inr ⟨id,o*F.z,c,A.flatMap F.enc,F.z,false,by rw[hl],rfl,r,.inr rfl,?_,?_⟩
 ·rw[hl,Yx];exact hm
 ·refine Els.flat.2 ⟨?_,fun x hx=>hok x (List.mem_of_mem_drop (List.mem_of_mem_take hx))⟩
  rw[hl]
  have h1:A.flatMap F.enc=(A.take o).flatMap F.enc++(((A.drop o).take n).flatMap F.enc++(A.drop (o+n)).flatMap F.enc):=by
   rw[← List.flatMap_append,← List.flatMap_append]
   congr 1
   rw[← List.drop_drop,List.take_append_drop,List.take_append_drop]
  have h2:o*F.z=((A.take o).flatMap F.enc).length:=by rw[Yx];simp[Nat.min_eq_left (show o≤A.length by omega)]
  have h3:n*F.rep.z=(((A.drop o).take n).flatMap F.enc).length:=by rw[Yx,hl];rfl
  rw[h1,h2,List.drop_left,h3,List.take_left]
theorem D5a {t:TypeId} {z id o n c:Nat} {h:DHeap} {cs:List Value} {lo hi:Option Value} {i j:Nat} (hz:U0a P t=some z) (hp:0<z) (hg:h.get id=some (.row cs z false)) (hj:YJ hi n n=some j) (hi2:YJ lo 0 j=some i) :
 XZ P t (.slice (some ⟨id,o,none⟩) n c) lo hi none h=some (.slice (some ⟨id,o+i*z,none⟩) (j - i) (if j=n∧c=n then j - i else j - i+1)):=by
 unfold U0a at hz
 split at hz
 ·rename_i e e1
  cases e2:P.info? e with
  | none=>rw[e2]at hz;cases hz
  | some inf=>
    rw[e2]at hz
    have hsz:inf.size=z:=by simpa using hz
    have hfit:S1a h id inf.size=true:=by simp[S1a,hg,hsz]
    simp only[XZ,e1,e2]
    rw[if_pos ⟨hfit,by rw[hsz];exact hp⟩]
    simp only[YJ]at hj hi2 ⊢
    simp only[hj,hi2,hsz]
 ·cases hz
def y0b (P:Program) (t:TypeId):Option (Nat × Value):=
 match P.underlying t with
 | some (.slice e)=>(P.info? e).bind fun i=>i.zero.map fun z=>(z.cells.size,z)
 | _=>none
theorem D0b {t:TypeId} {zc id o n c esz:Nat} {zv:Value} {h:DHeap} {cs:List Value} (hz:y0b P t=some (zc,zv)) (hall:zv.cells.toList.all YW=true) (hg:h.get id=some (.row cs esz false)) (hl:o+n*zc≤cs.length) :
 ∃ zs:List Value,zs.length=n*zc∧F3a P #[t] (.slice (some ⟨id,o,none⟩) n c) h=some (.tuple #[],h.set id (.row (Xy cs o zs) esz false)):=by
 unfold y0b at hz
 split at hz
 ·rename_i e e1
  cases e2:P.info? e with
  | none=>rw[e2]at hz;cases hz
  | some inf=>
    rw[e2]at hz
    rw[Option.bind_some]at hz
    cases e3:inf.zero with
    | none=>rw[e3]at hz;simp at hz
    | some z=>
      rw[e3]at hz
      simp only[Option.map_some,Option.some.injEq,Prod.mk.injEq]at hz
      obtain ⟨h1,rfl⟩:=hz
      by_cases h0:n=0
      ·subst h0
       refine ⟨[],by simp,?_⟩
       simp only[F3a,List.getElem?_toArray,List.getElem?_cons_zero,e1,if_true,Xy,n3a hg]
      ·refine ⟨(j0a z.cells (n*z.cells.size)).toList,by simp[j0a,h1],?_⟩
       simp only[F3a,List.getElem?_toArray,List.getElem?_cons_zero,e1,if_neg h0,e2,e3,hg]
       rw[if_pos ⟨hall,by rw[h1];exact hl⟩]
 ·cases hz
theorem Z1d {F:FRep α} {h:DHeap} {id k c:Nat} {B:List α} {cs zs:List Value} (hg:h.get id=some (.row (Xy cs (k*F.z) zs) F.z false)) (hk:k=B.length) (hl:k*F.z≤cs.length) (hB:cs.take (k*F.z)=B.flatMap F.enc) (hok:∀ x∈B,F.ok x):Sl F.rep (fun i=>i=id) h (.slice (some ⟨id,0,none⟩) k c) B:=by
 subst hk
 refine .inr ⟨id,0,c,_,F.z,false,rfl,rfl,hg,.inr rfl,?_,Els.flat.2 ⟨?_,hok⟩⟩
 ·rw[l3a];show 0+B.length*F.z≤_;omega
 ·rw[← hB,List.drop_zero]
  refine List.ext_getElem? fun i=>?_
  show (List.take (B.length*F.z) _)[i]? = _
  rw[List.getElem?_take,List.getElem?_take,n4a]
  split
  ·rw[if_neg (by omega)]
  ·rfl
end Go.D
namespace Go.Proofs.YtheamfnbfgiaeaaGreat
open Go.D
set_option maxRecDepth 100000
theorem A0b {x y:Key}:∀ {L:List Key},WY (L++[y,x])=if y=x then WY (L++[y]) else WY (L++[y])++[x]
 | []=>by
   simp only[List.nil_append,WY]
   split
   ·rename_i e;rw[e]
   ·rfl
 | [z]=>by
   simp only[List.cons_append,List.nil_append,WY]
   by_cases h1:z=y <;> by_cases h2:y=x <;> simp[h1,h2]
 | z :: w :: L=>by
   have ih:=A0b (x:=x) (y:=y) (L:=w :: L)
   simp only[List.cons_append,WY]at ih ⊢
   by_cases h1:z=w
   ·rw[if_pos h1,if_pos h1];exact ih
   ·rw[if_neg h1,if_neg h1,ih]
    split <;> simp
theorem s4a {l:List Key} {m:Nat} (hm:m+1<l.length):WY (l.take (m+1+1))=if l[m]=l[m+1] then WY (l.take (m+1)) else WY (l.take (m+1))++[l[m+1]]:=by
 rw[List.take_succ_eq_append_getElem hm,List.take_succ_eq_append_getElem (show m<l.length by omega),List.append_assoc]
 exact A0b
theorem g9a {K:DHeap} {id i:Nat} {A:List Key} (r:RowIs fKey K id A) (hi:i<A.length):Zx K id (i*2) 2=some (Zq A[i]):=by
 have hm:(i+1)*2≤A.length*2:=Nat.mul_le_mul_right _ hi
 have h1:A.flatMap fKey.enc=(A.take i).flatMap fKey.enc++(fKey.enc A[i]++(A.drop (i+1)).flatMap fKey.enc):=by
  conv=>lhs;rw[← List.take_append_drop i A,List.drop_eq_getElem_cons hi]
  rw[List.flatMap_append,List.flatMap_cons]
 have h2:i*2=((A.take i).flatMap fKey.enc).length:=by rw[Yx];simp[Nat.min_eq_left (Nat.le_of_lt hi)];rfl
 rw[Zw r (by rw[Yx];show _≤A.length*2;omega),h1,h2,List.drop_left]
 rfl
structure CmpI (l:List Key) (n0 k2 k:Nat) (A:List Key):Prop where
 len:A.length=l.length
 le:n0+k2≤l.length
 one:1≤n0∧1≤k2
 kk:k=(WY (l.take (n0+k2))).length
 hd:A.take k=WY (l.take (n0+k2))
 lt:k<n0+k2
 tl:∀ p,k≤p→A[p]? = l[p]?
theorem CmpI.first {l:List Key} {n0:Nat} (h0:n0+1<l.length) (he:l[n0]=l[n0+1]) (hc:WY (l.take (n0+1))=l.take (n0+1)):CmpI l (n0+1) 1 (n0+1) l where
 len:=rfl
 le:=by omega
 one:=by omega
 kk:=by rw[s4a h0,if_pos he,hc];simp;omega
 hd:=by rw[s4a h0,if_pos he,hc]
 lt:=by omega
 tl:=fun _ _=>rfl
theorem CmpI.at {l A:List Key} {n0 k2 k:Nat} (x:CmpI l n0 k2 k A) (h:n0+k2<l.length):∃ (h1:n0+k2<A.length) (h2:n0+k2 - 1<A.length),A[n0+k2]=l[n0+k2]∧A[n0+k2 - 1]=l[n0+k2 - 1]:=by
 have e:=x.len
 have:=x.one
 refine ⟨by omega,by omega,?_,?_⟩
 ·have h1:=x.tl (n0+k2) (by have:=x.lt;omega)
  rw[List.getElem?_eq_getElem (by omega),List.getElem?_eq_getElem h]at h1
  exact Option.some.inj h1
 ·have h1:=x.tl (n0+k2 - 1) (by have:=x.lt;omega)
  rw[List.getElem?_eq_getElem (by omega),List.getElem?_eq_getElem (by omega)]at h1
  exact Option.some.inj h1
theorem CmpI.same {l A:List Key} {n0 k2 k:Nat} (x:CmpI l n0 k2 k A) (h:n0+k2<l.length) (he:l[n0+k2]=l[n0+k2 - 1]):CmpI l n0 (k2+1) k A:=by
 obtain ⟨m,hm⟩:∃ m,n0+k2=m+1:=⟨n0+k2 - 1,by have:=x.one;omega⟩
 obtain ⟨a,b,c,d,e,f,g⟩:=x
 have hs:=s4a (l:=l) (m:=m) (by omega)
 simp only[hm,Nat.add_sub_cancel]at he
 rw[if_pos he.symm]at hs
 refine ⟨a,by omega,by omega,?_,?_,by omega,g⟩
 ·rw[← Nat.add_assoc,hm,hs,← hm];exact d
 ·rw[← Nat.add_assoc,hm,hs,← hm];exact e
theorem CmpI.other {l A:List Key} {n0 k2 k:Nat} (x:CmpI l n0 k2 k A) (h:n0+k2<l.length) (he:¬ l[n0+k2]=l[n0+k2 - 1]):CmpI l n0 (k2+1) (k+1) (A.set k l[n0+k2]):=by
 obtain ⟨m,hm⟩:∃ m,n0+k2=m+1:=⟨n0+k2 - 1,by have:=x.one;omega⟩
 obtain ⟨a,b,c,d,e,f,g⟩:=x
 have hs:=s4a (l:=l) (m:=m) (by omega)
 have he':¬ l[m]=l[m+1]:=fun hh=>he (by simp only[hm,Nat.add_sub_cancel];exact hh.symm)
 rw[if_neg he']at hs
 refine ⟨by simp[a],by omega,by omega,?_,?_,by omega,fun p hp=>?_⟩
 ·rw[← Nat.add_assoc]
  simp only[hm]at d ⊢
  rw[hs,List.length_append,← d]
  rfl
 ·rw[← Nat.add_assoc]
  simp only[hm]at e ⊢
  rw[hs,← e,List.take_succ_eq_append_getElem (by simp;omega),List.take_set_of_le (Nat.le_refl _)]
  simp
 ·rw[List.getElem?_set_ne (by omega)]
  exact g p (by omega)
theorem j5d:y0b Tryz.prog 24=some (2,.agg #[.int .i32 0,.int .i64 0]):=by kernel_rfl
set_option maxHeartbeats 1000000 in
theorem y0c {h:DHeap} {id c:Nat} {l:List Key} (hr:RowIs fKey h id l) (hok:∀ x∈l,fKey.ok x) (hl:l.length≤1048576) :
 Ct Tryz.prog 138 [.slice (some ⟨id,0,none⟩) l.length c] h fun r h1=>∃ c' cs,r=.ret (.slice (some ⟨id,0,none⟩) (WY l).length c')∧h1=h.set id (.row cs 2 false)∧Sl fKey.rep (fun i=>i=id) h1 (.slice (some ⟨id,0,none⟩) (WY l).length c') (WY l):=by
 refine y1c (by simp) ?_
 obtain ⟨v,hv⟩:∃ v,Value.slice (some ⟨id,0,none⟩) l.length c=v:=⟨_,rfl⟩
 have el:∀ K,dLen Tryz.prog #[24] v K=some (.int .i64 (l.length:Nat)):=fun K=>by rw[← hv];rfl
 have hself:h=h.set id (.row (l.flatMap fKey.enc) 2 false):=(n3a hr).symm
 have done1:WY l=l→∃ u,some v=some u∧∃ c' cs,DEnd.ret u=.ret (.slice (some ⟨id,0,none⟩) (WY l).length c')∧h=h.set id (.row cs 2 false)∧Sl fKey.rep (fun i=>i=id) h (.slice (some ⟨id,0,none⟩) (WY l).length c') (WY l):=fun e=>by
  refine ⟨v,rfl,c,_,by rw[← hv,e],hself,?_⟩
  have:=hr.sl (o:=0) (n:=l.length) (c:=c) (by omega) hok
  rw[e]
  simpa using this
 by_cases h2:(l.length:Int)<2
 ·have h2':=eq_true h2
  simp -implicitDefEqProofs (disch:=first|omega|simp only[go_sem]) only[go_sem,true_and,j8b,hv,el,h2']
  refine done1 ?_
  match l,h2 with
  | [],_=>rfl
  | [_],_=>rfl
  | _ :: _ :: _,h=>simp at h;omega
 have hz2:2≤l.length:=by omega
 have ia:∀ i:Nat,i<l.length→Yj Tryz.prog 24 v (.int .i64 (i:Nat))=some (.pointer (some ⟨id,i*2,none⟩)):=fun i hi=>by
  rw[← hv]
  refine (R3a C2a (by omega) (by omega)).trans ?_
  rw[Nat.zero_add,Int.toNat_natCast]
 have slo:∀ K (A:List Key) (k:Nat),RowIs fKey K id A→k≤l.length→∃ c',XZ Tryz.prog 24 v (some (.int .i64 (k:Nat))) none none K=some (.slice (some ⟨id,k*2,none⟩) (l.length - k) c'):=fun K A k r hk=>by
  rw[← hv]
  have:=D5a (c:=c) (o:=0) (n:=l.length) C2a (by decide) r (lo:=some (.int .i64 (k:Nat))) (hi:=none) (j:=l.length) (i:=k) rfl (B0a (k:=.i64) hk)
  rw[Nat.zero_add]at this
  exact ⟨_,this⟩
 have shi:∀ K cs (k:Nat),K.get id=some (.row cs 2 false)→k≤l.length→∃ c',XZ Tryz.prog 24 v none (some (.int .i64 (k:Nat))) none K=some (.slice (some ⟨id,0,none⟩) k c'):=fun K cs k r hk=>by
  rw[← hv]
  exact ⟨_,(D5a C2a (by decide) r (j:=k) (i:=0) (B0a (k:=.i64) hk) rfl)⟩
 have hrr:∀ A:List Key,RowIs fKey (h.set id (.row (A.flatMap fKey.enc) 2 false)) id A:=fun A=>RowIs.set rfl
 simp -implicitDefEqProofs (disch:=first|omega|simp only[go_sem]) only[go_sem,true_and,j8b,hv,el,h2]
 refine Xu (σ:=Nat) (by kernel_rfl) (fun j s=>s.df=[]∧s.rd=none∧s.h=h∧s.fr 0=some v∧s.fr 3=some (.int .i64 ((j+1:Nat):Int))∧j+1≤l.length∧WY (l.take (j+1))=l.take (j+1)) (fun j=>l.length - j) 0 ?_ ?_
 ·simp -implicitDefEqProofs (disch:=first|omega|simp only[go_sem]) only[go_sem,true_and]
  refine ⟨rfl,by omega,?_⟩
  match l,hz2 with
  | x :: y :: _,_=>rfl
 rintro j ⟨fr,df,K,rd⟩ K' hK' hX ⟨rfl,rfl,rfl,f0,f3,hj,hc⟩
 simp only at f0 f3
 simp -implicitDefEqProofs (disch:=first|omega|simp only[go_sem]) only[go_sem,true_and,f0,f3,el]
 refine YX (fun hc1=>?_) (fun hc1=>?_)
 ·have hjl:j+1<l.length:=by omega
  have hwm:IntKind.i64.wrap (((j+1:Nat):Int) - 1)=(j:Nat):=by rw[ZQ (by omega) (by omega)];omega
  have hw1:=ZV hjl (by omega)
  have k1:=g9a hr hjl
  have k0:=g9a hr (show j<l.length by omega)
  simp -implicitDefEqProofs (disch:=first|omega|simp only[go_sem]) only[go_sem,true_and]
  refine F4c ?_
  by_cases heq:l[j+1]=l[j]
  case neg=>
   have heqd:decide (l[j+1]=l[j])=false:=decide_eq_false heq
   simp -implicitDefEqProofs (disch:=first|omega|simp only[go_sem]) only[go_sem,true_and,l138_0,f0,f3,hwm,ia _ hjl,ia j (show j<l.length by omega),k0,k1,k1a,heqd,c1a,hw1]
   refine hK' (j+1) _ ?_ (by omega)
   refine ⟨by trivial,by trivial,by trivial,(vy f0),vz,by omega,?_⟩
   rw[s4a hjl,if_neg (fun e=>heq e.symm),hc,List.take_succ_eq_append_getElem hjl]
  have heqd:decide (l[j+1]=l[j])=true:=decide_eq_true heq
  obtain ⟨c2,hs2⟩:=slo K l (j+1) hr (by omega)
  simp -implicitDefEqProofs (disch:=first|omega|simp only[go_sem]) only[go_sem,true_and,l138_0,f0,f3,hwm,ia _ hjl,ia j (show j<l.length by omega),k0,k1,k1a,heqd,c1a,hs2]
  obtain ⟨s2,hs2v⟩:∃ s2,Value.slice (some ⟨id,(j+1)*2,none⟩) (l.length - (j+1)) c2=s2:=⟨_,rfl⟩
  have el2:∀ K,dLen Tryz.prog #[24] s2 K=some (.int .i64 ((l.length - (j+1):Nat):Int)):=fun K=>by rw[← hs2v];rfl
  have ia2:∀ i:Nat,j+1+i<l.length→Yj Tryz.prog 24 s2 (.int .i64 (i:Nat))=some (.pointer (some ⟨id,(j+1+i)*2,none⟩)):=fun i hi=>by
   rw[← hs2v]
   refine (R3a C2a (by omega) (by omega)).trans ?_
   rw[Nat.add_mul (j+1),Int.toNat_natCast]
  rw[hs2v]
  refine Xu (σ:=Nat) (by kernel_rfl) (fun i s=>s.df=[]∧s.rd=none∧s.fr 0=some v∧s.fr 4=some s2∧s.fr 5=some (.int .i64 (i:Nat))∧∃ k A,s.fr 3=some (.int .i64 (k:Nat))∧s.h=K.set id (.row (A.flatMap fKey.enc) 2 false)∧CmpI l (j+1) i k A) (fun i=>l.length - i) 1 ?_ ?_
  ·simp -implicitDefEqProofs (disch:=first|omega|simp only[go_sem]) only[go_sem,true_and,f0,f3]
   exact ⟨rfl,_,l,rfl,hself,.first hjl heq.symm hc⟩
  clear f0 f3
  rintro i ⟨fr,df,M,rd⟩ K2' hK2 hX2 ⟨rfl,rfl,f0,f4,f5,k,A,f3,hM,x⟩
  simp only at f0 f4 f5 f3 hM
  subst hM
  have hrA:=hrr A
  have xle:=x.le
  have xone:=x.one
  simp -implicitDefEqProofs (disch:=first|omega|simp only[go_sem]) only[go_sem,true_and,f4,f5,el2]
  refine YX (fun hc2=>?_) (fun hc2=>?_)
  ·have hil:j+1+i<l.length:=by omega
   obtain ⟨hA1,hA0,eA1,eA0⟩:=x.at hil
   have k1:=g9a hrA hA1
   have k0:=g9a hrA hA0
   rw[eA1]at k1
   rw[eA0]at k0
   have hwm2:IntKind.i64.wrap (((i:Nat):Int) - 1)=((i - 1:Nat):Int):=by rw[ZQ (by omega) (by omega)];omega
   have hw2:=ZV (i:=i) (show i<l.length by omega) (by omega)
   have hia1:=ia2 i hil
   have hia0:=ia2 (i - 1) (by omega)
   rw[show j+1+(i - 1)=j+1+i - 1 by omega]at hia0
   simp -implicitDefEqProofs (disch:=first|omega|simp only[go_sem]) only[go_sem,true_and]
   refine G4c ?_
   by_cases he2:l[j+1+i]=l[j+1+i - 1]
   ·have heqd2:decide (l[j+1+i]=l[j+1+i - 1])=true:=decide_eq_true he2
    simp -implicitDefEqProofs (disch:=first|omega|simp only[go_sem]) only[go_sem,true_and,l138_1,f4,f5,hwm2,hia1,hia0,k0,k1,d7b,heqd2,Bool.not_true,c1a,hw2]
    refine hK2 (i+1) _ ?_ (by omega)
    exact ⟨by trivial,by trivial,(vy f0),(vy f4),vz,k,A,(vy f3),by trivial,x.same hil he2⟩
   ·have heqd2:decide (l[j+1+i]=l[j+1+i - 1])=false:=decide_eq_false he2
    have xlt:=x.lt
    have xlen:=x.len
    have hst:storeAt (K.set id (.row (A.flatMap fKey.enc) 2 false)) id (k*2) [.int .i32 l[j+1+i].t,.int .i64 l[j+1+i].r]=some (K.set id (.row ((A.set k l[j+1+i]).flatMap fKey.enc) 2 false)):=
     (hrA.store (show k<A.length by omega) l[j+1+i]).trans (congrArg some (O7b _ _ _ _))
    have hw3:=ZV (i:=k) (show k<l.length by omega) (by omega)
    simp -implicitDefEqProofs (disch:=first|omega|simp only[go_sem]) only[go_sem,true_and,l138_1,f0,f3,f4,f5,hwm2,hia1,hia0,ia k (show k<l.length by omega),k0,k1,d7b,heqd2,Bool.not_false,c1a,hw2,hst,hw3]
    refine hK2 (i+1) _ ?_ (by omega)
    exact ⟨by trivial,by trivial,(vy f0),(vy f4),vz,k+1,A.set k l[j+1+i],vz,by trivial,x.other hil he2⟩
  ·have hil:j+1+i=l.length:=by omega
   have xlt:=x.lt
   have xlen:=x.len
   have xk:=x.kk
   have xhd:=x.hd
   rw[hil,List.take_length]at xk xhd
   obtain ⟨c3,hs3⟩:=slo _ A k hrA (by omega)
   obtain ⟨zs,hzs,hcl⟩:=D0b (esz:=2) (n:=l.length - k) (c:=c3) (o:=k*2) j5d rfl hrA (by rw[Yx];show _≤A.length*2;omega)
   rw[O7b]at hcl
   obtain ⟨c4,hs4⟩:=shi (K.set id (.row (Xy (A.flatMap fKey.enc) (k*2) zs) 2 false)) _ k (ZX _ _) (by omega)
   refine hX2 _ _ (by simp) ?_
   simp -implicitDefEqProofs (disch:=first|omega|simp only[go_sem]) only[go_sem,true_and,f0,f3,hs3,hcl,hs4]
   refine hX _ _ (by simp) ?_
   simp -implicitDefEqProofs (disch:=first|omega|simp only[go_sem]) only[go_sem,true_and]
   refine ⟨_,rfl,c4,_,by rw[← xk],rfl,?_⟩
   rw[← xk]
   refine Z1d (cs:=A.flatMap fKey.enc) (zs:=zs) (ZX _ _) xk (by rw[Yx];show k*2≤A.length*2;omega) ?_ fun y hy=>hok y (w6a.1 hy)
   have hAk:A.flatMap fKey.enc=(A.take k).flatMap fKey.enc++(A.drop k).flatMap fKey.enc:=by rw[← List.flatMap_append,List.take_append_drop]
   have hlk:k*fKey.z=((A.take k).flatMap fKey.enc).length:=by rw[Yx];simp[Nat.min_eq_left (show k≤A.length by omega)]
   rw[hAk,hlk,List.take_left,xhd]
 ·have:j+1=l.length:=by omega
  rw[this,List.take_length]at hc
  refine hX _ _ (by simp) ?_
  simp -implicitDefEqProofs (disch:=first|omega|simp only[go_sem]) only[go_sem,true_and,f0]
  exact done1 hc
end Go.Proofs.YtheamfnbfgiaeaaGreat
namespace Go.Proofs.YtheamfnbfgiaeaaGreat
open Go.D
set_option maxRecDepth 100000
section
variable {α:Type} (key:α→Key)
def Yk (l:List α) (k:Key):Option α:=l.reverse.find? fun p=>key p=k
def byK (l:List α):List α:=(E4a (l.map key)).filterMap (Yk key l)
def XU (x:α):List α→List α
 | []=>[x]
 | y :: r=>if Yq (key y) (key x)=true then y :: XU x r else if key y=key x then x :: r else x :: y :: r
abbrev UpB (l:List α):Prop:=l.Pairwise fun a b=>Yq (key a) (key b)=true
variable {key}
theorem d0a {l:List α} {k:Key} {x:α} (h:Yk key l k=some x):x∈l∧key x=k:=by
 refine ⟨List.mem_reverse.1 (List.mem_of_find?_eq_some h),?_⟩
 have:=List.find?_some h
 simpa using this
theorem w3a {l:List α} {k:Key}:Yk key l k=none↔k∉l.map key:=by
 unfold Yk
 rw[List.find?_eq_none]
 constructor
 ·intro h hm
  obtain ⟨p,hp,rfl⟩:=List.mem_map.1 hm
  have:=h p (List.mem_reverse.2 hp)
  simp at this
 ·intro h p hp e
  exact h (List.mem_map.2 ⟨p,List.mem_reverse.1 hp,by simpa using e⟩)
theorem u6a {l:List α} {k:Key} (h:k∈l.map key):∃ x,Yk key l k=some x:=by
 cases hq:Yk key l k with
 | some q=>exact ⟨q,rfl⟩
 | none=>exact absurd h (w3a.1 hq)
theorem G5a {l:List α} {x:α} {k:Key}:Yk key (l++[x]) k=if key x=k then some x else Yk key l k:=by
 unfold Yk
 rw[List.reverse_append]
 by_cases h:key x=k
 ·simp[h]
 ·simp[h]
theorem r5b {l m:List α} {k:Key}:Yk key (l++m) k=match Yk key m k with | some x=>some x | none=>Yk key l k:=by
 unfold Yk
 rw[List.reverse_append,List.find?_append]
 cases List.find? (fun p=>decide (key p=k)) m.reverse <;> rfl
theorem t2a {l:List α} {x:α}:x∈byK key l↔Yk key l (key x)=some x:=by
 unfold byK
 rw[List.mem_filterMap]
 constructor
 ·rintro ⟨k,_,hx⟩
  rw[(d0a hx).2]
  exact hx
 ·intro h
  exact ⟨key x,mem_keysN.2 (List.mem_map.2 ⟨x,(d0a h).1,rfl⟩),h⟩
theorem r2a (l:List α):UpB key (byK key l):=by
 unfold byK UpB
 rw[List.pairwise_filterMap]
 exact (d0b (l.map key)).imp fun {a b} hab x hx y hy=>by
  rw[(d0a hx).2,(d0a hy).2]
  exact hab
theorem N8a:∀ {l m:List α},UpB key l→UpB key m→(∀ x,x∈l↔x∈m)→l=m
 | [],[],_,_,_=>rfl
 | [],y :: m,_,_,h=>by have:=(h y).2 (by simp);simp at this
 | x :: l,[],_,_,h=>by have:=(h x).1 (by simp);simp at this
 | x :: l,y :: m,hl,hm,h=>by
   obtain ⟨hx,hl'⟩:=List.pairwise_cons.1 hl
   obtain ⟨hy,hm'⟩:=List.pairwise_cons.1 hm
   have e:x=y:=by
    rcases List.mem_cons.1 ((h x).1 (by simp)) with e | hxm
    ·exact e
    rcases List.mem_cons.1 ((h y).2 (by simp)) with e | hyl
    ·exact e.symm
    have h1:=hy x hxm
    have h2:=hx y hyl
    rw[Q0b h1]at h2
    cases h2
   subst e
   congr 1
   refine N8a hl' hm' fun z=>?_
   have nx:∀ {k:List α},(∀ w∈k,Yq (key x) (key w)=true)→z∈k→z≠x:=fun hk hz e=>by
    subst e
    have:=hk z hz
    rw[f1a]at this
    cases this
   constructor
   ·intro hz
    rcases List.mem_cons.1 ((h z).1 (List.mem_cons_of_mem _ hz)) with e | hz2
    ·exact absurd e (nx hx hz)
    ·exact hz2
   ·intro hz
    rcases List.mem_cons.1 ((h z).2 (List.mem_cons_of_mem _ hz)) with e | hz2
    ·exact absurd e (nx hy hz)
    ·exact hz2
theorem E7a {x z:α}:∀ {l:List α},UpB key l→(z∈XU key x l↔z=x∨z∈l∧key z≠key x)
 | [],_=>by simp[XU]
 | y :: l,h=>by
   obtain ⟨hy,hl⟩:=List.pairwise_cons.1 h
   unfold XU
   by_cases h1:Yq (key y) (key x)=true
   ·rw[if_pos h1,List.mem_cons,E7a hl,List.mem_cons]
    have hne:key y≠key x:=fun e=>by rw[e,f1a]at h1;cases h1
    constructor
    ·rintro (rfl | rfl | ⟨a,b⟩)
     ·exact .inr ⟨.inl rfl,hne⟩
     ·exact .inl rfl
     ·exact .inr ⟨.inr a,b⟩
    ·rintro (rfl | ⟨rfl | a,b⟩)
     ·exact .inr (.inl rfl)
     ·exact .inl rfl
     ·exact .inr (.inr ⟨a,b⟩)
   ·rw[if_neg h1]
    by_cases h2:key y=key x
    ·rw[if_pos h2,List.mem_cons,List.mem_cons]
     constructor
     ·rintro (rfl | a)
      ·exact .inl rfl
      ·refine .inr ⟨.inr a,fun e=>?_⟩
       have:=hy z a
       rw[h2,e,f1a]at this
       cases this
     ·rintro (rfl | ⟨rfl | a,b⟩)
      ·exact .inl rfl
      ·exact absurd h2 b
      ·exact .inr a
    ·rw[if_neg h2,List.mem_cons,List.mem_cons]
     have hlt:Yq (key x) (key y)=true:=S2a (by simpa using h1) h2
     constructor
     ·rintro (rfl | rfl | a)
      ·exact .inl rfl
      ·exact .inr ⟨.inl rfl,h2⟩
      ·refine .inr ⟨.inr a,fun e=>?_⟩
       have:=J3a hlt (hy z a)
       rw[e,f1a]at this
       cases this
     ·rintro (rfl | ⟨rfl | a,b⟩)
      ·exact .inl rfl
      ·exact .inr (.inl rfl)
      ·exact .inr (.inr a)
theorem a9a {x:α}:∀ {l:List α},UpB key l→UpB key (XU key x l)
 | [],_=>by simp[XU,UpB]
 | y :: l,h=>by
   obtain ⟨hy,hl⟩:=List.pairwise_cons.1 h
   unfold XU
   by_cases h1:Yq (key y) (key x)=true
   ·rw[if_pos h1]
    refine List.pairwise_cons.2 ⟨fun z hz=>?_,a9a hl⟩
    rcases (E7a hl).1 hz with rfl | ⟨a,_⟩
    ·exact h1
    ·exact hy z a
   ·rw[if_neg h1]
    by_cases h2:key y=key x
    ·rw[if_pos h2]
     exact List.pairwise_cons.2 ⟨fun z hz=>by rw[← h2];exact hy z hz,hl⟩
    ·rw[if_neg h2]
     have hlt:Yq (key x) (key y)=true:=S2a (by simpa using h1) h2
     refine List.pairwise_cons.2 ⟨fun z hz=>?_,h⟩
     rcases List.mem_cons.1 hz with rfl | hz
     ·exact hlt
     ·exact J3a hlt (hy z hz)
theorem O3c {l:List α} {x:α}:byK key (l++[x])=XU key x (byK key l):=by
 refine N8a (r2a _) (a9a (r2a _)) fun z=>?_
 rw[t2a,E7a (r2a _),t2a,G5a]
 by_cases h:key x=key z
 ·rw[if_pos h]
  constructor
  ·intro e
   cases e
   exact .inl rfl
  ·rintro (rfl | ⟨_,b⟩)
   ·rfl
   ·exact absurd h.symm b
 ·rw[if_neg h]
  constructor
  ·intro e
   exact .inr ⟨e,fun e=>h e.symm⟩
  ·rintro (rfl | ⟨a,_⟩)
   ·exact absurd rfl h
   ·exact a
theorem u7a {l:List α} {i:Nat} (hi:i<l.length):byK key (l.take (i+1))=XU key l[i] (byK key (l.take i)):=by
 rw[List.take_succ_eq_append_getElem hi,O3c]
theorem w0b {l:List α} (h:UpB key l):byK key l=l:=by
 refine N8a (r2a _) h fun z=>?_
 rw[t2a]
 constructor
 ·exact fun e=>(d0a e).1
 ·intro hz
  obtain ⟨y,hy⟩:=u6a (key:=key) (List.mem_map.2 ⟨z,hz,rfl⟩)
  obtain ⟨h1,h2⟩:=d0a hy
  rw[hy]
  congr 1
  obtain ⟨i,hi,rfl⟩:=List.getElem_of_mem h1
  obtain ⟨j,hj,rfl⟩:=List.getElem_of_mem hz
  rcases Nat.lt_trichotomy i j with hij | rfl | hij
  ·have:=List.pairwise_iff_getElem.1 h i j hi hj hij
   rw[h2,f1a]at this
   cases this
  ·rfl
  ·have:=List.pairwise_iff_getElem.1 h j i hj hi hij
   rw[h2,f1a]at this
   cases this
theorem R1a (l:List α):(byK key l).length≤l.length:=by
 have h1:=List.length_filterMap_le (Yk key l) (E4a (l.map key))
 have h2:=D2b (l.map key)
 rw[List.length_map]at h2
 exact Nat.le_trans h1 h2
theorem X0b {l:List α} {x:α} (h:x∈byK key l):x∈l:=(d0a (t2a.1 h)).1
theorem n5b {x:α}:∀ {l:List α},(XU key x l).length≤l.length+1
 | []=>by simp[XU]
 | y :: l=>by
   unfold XU
   have:=n5b (x:=x) (l:=l)
   repeat' split
   all_goals simp
   omega
theorem l5b {x:α} {r:List α} {j:Nat} (hj:j<r.length) (h:XU key x r=r.take j++XU key x (r.drop j)) (hl:Yq (key r[j]) (key x)=true):XU key x r=r.take (j+1)++XU key x (r.drop (j+1)):=by
 rw[h,List.drop_eq_getElem_cons hj,XU,if_pos hl,List.take_succ_eq_append_getElem hj,List.append_assoc]
 rfl
theorem m5b {x:α} {r:List α} {j:Nat} (hj:j<r.length) (h:XU key x r=r.take j++XU key x (r.drop j)) (hl:¬ Yq (key r[j]) (key x)=true):XU key x r=r.take j++[x]++r.drop (if key r[j]=key x then j+1 else j):=by
 rw[h,List.drop_eq_getElem_cons hj,XU,if_neg hl]
 split
 ·rw[List.append_assoc];rfl
 ·rw[List.append_assoc,List.drop_eq_getElem_cons hj];rfl
theorem B2b {x:α} {r:List α} (h:XU key x r=r.take r.length++XU key x (r.drop r.length)):XU key x r=r++[x]:=by
 rw[h,List.drop_length,List.take_length]
 rfl
end
end Go.Proofs.YtheamfnbfgiaeaaGreat
namespace Go.Proofs.YtheamfnbfgiaeaaGreat
open Go.D
set_option maxRecDepth 100000
structure R3b where
 e:Int
 vs:List Int
 ch:List Change
 s:Int
 deriving DecidableEq
structure RS where
 reg:List Int
 w:List Change
 out:List Int
def J2a (m:List Pair) (w:List Change) (k:Key):Int × Bool:=
 match Yk Change.k w k with
 | some c=>(c.v,!c.e)
 | none=>match Yk Pair.k m k with
   | some p=>(p.v,true)
   | none=>(0,false)
def E1a (t:Txn) (l:List Pair):List Pair:=(byK Pair.k l).filter fun p=>decide (p.k∈t.reads)
def s2a:Key:=⟨0,0⟩
def i5d:Change:=⟨s2a,0,false⟩
abbrev RS.r (s:RS) (i:Int):Int:=s.reg.getD i.toNat 0
abbrev RS.set (s:RS) (i:Int) (v:Int):RS:={ s with reg:=s.reg.set i.toNat v }
abbrev RS.put (s:RS) (c:Change):RS:={ s with w:=s.w++[c] }
def E2a (x:Instr) (s:RS):Key:=⟨IntKind.i32.wrap x.imm,s.r x.b⟩
def ZW (t:Txn) (m:List Pair) (x:Instr) (s:RS):Int × RS × Option Int:=
 if x.op=0 then (0,s,none)
 else if x.op=1 then (-1,s.set x.a x.imm,none)
 else if x.op=2 then (-1,s.set x.a (t.args.getD x.imm.toNat 0),none)
 else if x.op=7 then (-1,s.set x.a (s.r x.b),none)
 else if x.op=3 then (-1,s.set x.a (J2a m s.w (t.reads.getD x.imm.toNat s2a)).1,none)
 else if x.op=4 then (-1,s.set x.a (if (J2a m s.w (t.reads.getD x.imm.toNat s2a)).2 then 1 else 0),none)
 else if x.op=5 then (-1,s.put ⟨t.writes.getD x.imm.toNat s2a,s.r x.a,false⟩,none)
 else if x.op=6 then (-1,s.put ⟨t.writes.getD x.imm.toNat s2a,0,true⟩,none)
 else if x.op=19 then (-1,s.set x.a (r5a (s.r x.a) x.imm),none)
 else if x.op=22 then (-1,s,some x.imm)
 else if x.op=23 then (-1,s,if s.r x.a=0 then none else some x.imm)
 else if x.op=24 then (if 8≤s.out.length then (5,s,none) else (-1,{ s with out:=s.out++[s.r x.a] },none))
 else if x.op=25 then (100+x.imm,s,none)
 else if x.op=26 then (if E2a x s∈t.reads then (-1,s.set x.a (J2a m s.w (E2a x s)).1,none) else (4,s,none))
 else if x.op=27 then (if E2a x s∈t.writes then (-1,s.put ⟨E2a x s,s.r x.a,false⟩,none) else (4,s,none))
 else if (W0a x.op (s.r x.a) (s.r x.b)).2=0 then (-1,s.set x.a (W0a x.op (s.r x.a) (s.r x.b)).1,none)
 else ((W0a x.op (s.r x.a) (s.r x.b)).2,s,none)
def N1a (t:Txn) (m:List Pair):Nat→Nat→Nat→RS→R3b
 | n,i,k,s=>
   if t.code.length≤i then ⟨0,s.out,byK Change.k s.w,k⟩ else
   match n with
   | 0=>⟨2,[],[],k⟩
   | n+1=>
     if (ZW t m (Xx t.code i) s).1=-1 then N1a t m n (((ZW t m (Xx t.code i) s).2.2.getD (i+Xv (t.code.getD i 0))).toNat) (k+1) (ZW t m (Xx t.code i) s).2.1
     else if (ZW t m (Xx t.code i) s).1=0 then ⟨0,(ZW t m (Xx t.code i) s).2.1.out,byK Change.k (ZW t m (Xx t.code i) s).2.1.w,(k+1:Nat)⟩
     else ⟨(ZW t m (Xx t.code i) s).1,[],[],(k+1:Nat)⟩
def rs0:RS:=⟨[0,0,0,0,0,0,0,0],[],[]⟩
def Z4a (f:Int):Nat:=(max 0 (min f 4096)).toNat
def q2a (t:Txn) (l:List Pair) (f:Int):R3b:=if Vy t≠0 then ⟨1,[],[],0⟩ else N1a t (E1a t l) (Z4a f) 0 0 rs0
theorem b0b (f:Int):Z4a f≤4096:=by unfold Z4a;omega
theorem m6a {t:Txn} {m:List Pair} {n i k:Nat} {s:RS} (h:t.code.length≤i):N1a t m n i k s=⟨0,s.out,byK Change.k s.w,k⟩:=by
 unfold N1a
 rw[if_pos h]
theorem z6a {t:Txn} {m:List Pair} {i k:Nat} {s:RS} (h:i<t.code.length):N1a t m 0 i k s=⟨2,[],[],k⟩:=by
 unfold N1a
 rw[if_neg (by omega)]
theorem h9a {t:Txn} {m:List Pair} {n i k:Nat} {s:RS} (h:i<t.code.length) (hs:(ZW t m (Xx t.code i) s).1=-1) :
 N1a t m (n+1) i k s=N1a t m n (((ZW t m (Xx t.code i) s).2.2.getD (i+Xv (t.code.getD i 0))).toNat) (k+1) (ZW t m (Xx t.code i) s).2.1:=by
 conv=>lhs;unfold N1a
 rw[if_neg (by omega)]
 simp only[hs,if_true]
theorem A6a {t:Txn} {m:List Pair} {n i k:Nat} {s:RS} (h:i<t.code.length) (hs:(ZW t m (Xx t.code i) s).1=0) :
 N1a t m (n+1) i k s=⟨0,(ZW t m (Xx t.code i) s).2.1.out,byK Change.k (ZW t m (Xx t.code i) s).2.1.w,(k+1:Nat)⟩:=by
 unfold N1a
 rw[if_neg (by omega)]
 simp only[hs,if_true]
 rw[if_neg (by decide)]
theorem B6a {t:Txn} {m:List Pair} {n i k:Nat} {s:RS} (h:i<t.code.length) (hs:(ZW t m (Xx t.code i) s).1 ≠ -1) (h0:(ZW t m (Xx t.code i) s).1≠0) :
 N1a t m (n+1) i k s=⟨(ZW t m (Xx t.code i) s).1,[],[],(k+1:Nat)⟩:=by
 unfold N1a
 rw[if_neg (by omega)]
 simp only[hs,h0,if_false]
theorem m0b {l:List Int}:∀ {n i:Nat},l.length - i≤n→(WV l n i).2=0→i≤l.length→∀ j x,(WV l n i).1[j]? = some x →
 ∃ p:Nat,x=Xx l p∧i≤p∧(XY l p).2.2=0∧(j=0→p=i)∧((p:Int)+Xv (l.getD p 0)).toNat=(match (WV l n i).1[j+1]? with | some y=>y.pos.toNat | none=>l.length)
 | 0,i,_,_,_,j,x,hx=>by simp[WV]at hx
 | n+1,i,hn,he,hi,j,x,hx=>by
   by_cases hil:l.length≤i
   ·simp only[WV]at hx
    rw[if_pos hil]at hx
    simp at hx
   ·by_cases h1:(XY l i).2.2=0
    ·obtain ⟨a,b,c,d,e,f⟩:=q1a h1
     have hw:WV l (n+1) i=((XY l i).1 :: (WV l n (XY l i).2.1.toNat).1,(WV l n (XY l i).2.1.toNat).2):=by
      simp only[WV]
      rw[if_neg hil,if_pos h1]
     rw[hw]at he hx ⊢
     simp only at he hx ⊢
     have ih:=m0b (n:=n) (i:=(XY l i).2.1.toNat) (by omega) he (by omega)
     cases j with
     | zero=>
       simp only[List.getElem?_cons_zero,Option.some.injEq]at hx
       subst hx
       refine ⟨i,a,Nat.le_refl _,h1,fun _=>rfl,?_⟩
       rw[List.getElem?_cons_succ]
       cases hy:(WV l n (XY l i).2.1.toNat).1[0]? with
       | some y=>
         obtain ⟨p,e1,_,_,e2,_⟩:=ih 0 y hy
         have:=e2 rfl
         subst this
         rw[e1]
         show _=(((XY l i).2.1.toNat:Nat):Int).toNat
         rw[b]
         simp only[Int.toNat_natCast]
       | none=>
         have hnil:(WV l n (XY l i).2.1.toNat).1=[]:=by
          cases hl:(WV l n (XY l i).2.1.toNat).1 with
          | nil=>rfl
          | cons y ys=>rw[hl]at hy;simp at hy
         have hge:l.length≤(XY l i).2.1.toNat:=by
          cases n with
          | zero=>omega
          | succ n=>
            simp only[WV]at hnil he
            by_cases h3:l.length≤(XY l i).2.1.toNat
            ·exact h3
            ·rw[if_neg h3]at hnil he
             split at hnil
             ·simp at hnil
             ·rename_i h4
              rw[if_neg h4]at he
              exact absurd he h4
         show _=l.length
         omega
     | succ j=>
       rw[List.getElem?_cons_succ]at hx
       obtain ⟨p,e1,e2,e3,_,e5⟩:=ih j x hx
       refine ⟨p,e1,by omega,e3,fun h=>by omega,?_⟩
       rw[e5,List.getElem?_cons_succ]
    ·simp only[WV]at he
     rw[if_neg hil,if_neg h1]at he
     exact absurd he h1
theorem S5b {l:List Int}:∀ {n i:Nat},(WV l n i).1.Pairwise (fun x y=>x.pos<y.pos)∧∀ x∈(WV l n i).1,(i:Int)≤x.pos
 | 0,i=>by simp[WV]
 | n+1,i=>by
   simp only[WV]
   split
   ·simp
   ·split
    ·rename_i h1
     obtain ⟨a,b,c,d,e,f⟩:=q1a h1
     obtain ⟨u1,u2⟩:=S5b (l:=l) (n:=n) (i:=(XY l i).2.1.toNat)
     have hp:(XY l i).1.pos=i:=by rw[a];rfl
     refine ⟨List.pairwise_cons.2 ⟨fun y hy=>?_,u1⟩,fun x hx=>?_⟩
     ·have:=u2 y hy
      show (XY l i).1.pos<y.pos
      omega
     ·rcases List.mem_cons.1 hx with rfl | hx
      ·omega
      ·have:=u2 x hx
       omega
    ·simp
def Wj (t:Txn) (i:Nat):Nat:=match (WX t.code)[i]? with | some x=>x.pos.toNat | none=>t.code.length
theorem d7a {t:Txn} (h:A1a t.code=0):WX t.code=(XX t.code 0).1∧(XX t.code 0).2=0∧l2a (XX t.code 0).1=true∧t.code.length≤512:=by
 refine ⟨by rw[WX,if_pos h],?_⟩
 unfold A1a at h
 split at h
 ·exact absurd h (by decide)
 ·rename_i h1
  split at h
  ·rename_i h2
   exact absurd h h2
  ·rename_i h2
   split at h
   ·rename_i h3
    exact ⟨by simpa using h2,h3,by omega⟩
   ·exact absurd h (by decide)
theorem Y6a {t:Txn} (h:A1a t.code=0) {i:Nat} {x:Instr} (hx:(WX t.code)[i]? = some x):Wj t i<t.code.length∧x=Xx t.code (Wj t i)∧x.pos=Wj t i∧(XY t.code (Wj t i)).2.2=0∧((Wj t i:Nat)+Xv (t.code.getD (Wj t i) 0):Int).toNat=Wj t (i+1):=by
 obtain ⟨e,e2,_,_⟩:=d7a h
 have hx':=hx
 rw[e]at hx'
 obtain ⟨p,a,b,c,d,f⟩:=m0b (by omega) e2 (Nat.zero_le _) i x hx'
 have hp:Wj t i=p:=by
  unfold Wj
  rw[hx]
  show x.pos.toNat=p
  rw[a]
  show ((p:Int)).toNat=p
  simp
 obtain ⟨_,_,hlt,_⟩:=q1a c
 rw[hp]
 refine ⟨hlt,a,by rw[a];rfl,c,?_⟩
 rw[f]
 unfold Wj
 rw[e]
 rfl
theorem n8a {t:Txn} (h:A1a t.code=0):Wj t 0=0:=by
 obtain ⟨e,e2,_,_⟩:=d7a h
 cases hx:(WX t.code)[0]? with
 | some x=>
   have hx':=hx
   rw[e]at hx'
   obtain ⟨p,a,b,c,d,f⟩:=m0b (by omega) e2 (Nat.zero_le _) 0 x hx'
   unfold Wj
   rw[hx]
   show x.pos.toNat=0
   rw[a,d rfl]
   rfl
 | none=>
   have hnil:(XX t.code 0).1=[]:=by
    rw[← e]
    cases hl:WX t.code with
    | nil=>rfl
    | cons y ys=>rw[hl]at hx;simp at hx
   have hl0:t.code.length≤0:=by
    by_cases h0:0<t.code.length
    ·rw[h5a h0]at hnil e2
     split at hnil
     ·simp at hnil
     ·rename_i h4
      rw[if_neg h4]at e2
      exact absurd e2 h4
    ·omega
   unfold Wj
   rw[hx]
   show t.code.length=0
   omega
theorem v0d {t:Txn}:(WX t.code).Pairwise (fun x y=>x.pos<y.pos):=by
 unfold WX
 split
 ·exact S5b.1
 ·exact .nil
theorem R9a {t:Txn} {i:Nat} (h:(WX t.code).length≤i):Wj t i=t.code.length:=by
 unfold Wj
 rw[List.getElem?_eq_none h]
theorem l2b {t:Txn} (h:A1a t.code=0) {x:Instr} (hx:x∈WX t.code) (hj:F0a x.op=true):∃ i y,(WX t.code)[i]? = some y∧y.pos=x.imm∧x.imm.toNat=Wj t i:=by
 obtain ⟨e,_,e3,_⟩:=d7a h
 rw[e]at hx
 unfold l2a at e3
 have:=List.all_eq_true.1 e3 x hx
 rw[hj]at this
 simp only[Bool.not_true,Bool.false_or,decide_eq_true_eq]at this
 obtain ⟨y,hy,hp⟩:=List.mem_map.1 this
 obtain ⟨i,hi⟩:=List.mem_iff_getElem?.1 hy
 rw[← e]at hi
 refine ⟨i,y,hi,hp,?_⟩
 unfold Wj
 rw[hi,← hp]
theorem N5b {t:Txn} (h:Vy t=0):A1a t.code=0∧(∀ x∈WX t.code,Wv t x=false)∧t.args.length≤8∧t.reads.length≤16∧t.writes.length≤16:=by
 unfold Vy at h
 split at h
 ·exact absurd h (by decide)
 split at h
 ·exact absurd h (by decide)
 rename_i h2
 split at h
 ·exact absurd h (by decide)
 split at h
 ·rename_i h4
  exact absurd h h4
 rename_i h4
 split at h
 ·exact absurd h (by decide)
 rename_i h5
 refine ⟨by simpa using h4,fun x hx=>?_,by omega,by omega,by omega⟩
 simp only[Bool.not_eq_true,List.any_eq_false]at h5
 simpa using h5 x hx
structure y3b (t:Txn) (x:Instr):Prop where
 a:0≤x.a∧x.a<8
 b:0≤x.b∧x.b<8
 imm : -32768≤x.imm∧x.imm≤65535
 imm0:x.op≠1→0≤x.imm
 rd:x.op=3∨x.op=4→x.imm<t.reads.length
 wr:x.op=5∨x.op=6→x.imm<t.writes.length
 ar:x.op=2→x.imm<t.args.length
 op:0≤x.op∧x.op<28
theorem D1c {t:Txn} (h:Vy t=0) (hb:∀ j,0≤t.code.getD j 0∧t.code.getD j 0≤255) {i:Nat} {x:Instr} (hx:(WX t.code)[i]? = some x):y3b t x:=by
 obtain ⟨h1,h2,_,_,_⟩:=N5b h
 obtain ⟨_,e1,_,e3,_⟩:=Y6a h1 hx
 have hbad:=h2 x (List.mem_of_getElem? hx)
 obtain ⟨_,_,_,d,_,f⟩:=q1a e3
 obtain ⟨p,hp⟩:∃ p,Wj t i=p:=⟨_,rfl⟩
 rw[hp]at e1 e3 d f
 rw[← e1]at f
 have hop:x.op=t.code.getD p 0:=by rw[e1];rfl
 have hs:=O7a (n:=x.op) (by rw[hop];omega)
 have b3:=hb (p+1+(if Xq (t.code.getD p 0) then 1 else 0)+if Wq (t.code.getD p 0) then 1 else 0)
 have b4:=hb (p+1+(if Xq (t.code.getD p 0) then 1 else 0)+(if Wq (t.code.getD p 0) then 1 else 0)+1)
 have himm:x.imm=d3a (t.code.getD p 0) (V0a (t.code.getD p 0)) (t.code.getD (p+1+(if Xq (t.code.getD p 0) then 1 else 0)+if Wq (t.code.getD p 0) then 1 else 0) 0) (t.code.getD (p+1+(if Xq (t.code.getD p 0) then 1 else 0)+(if Wq (t.code.getD p 0) then 1 else 0)+1) 0):=by rw[e1];rfl
 generalize t.code.getD (p+1+(if Xq (t.code.getD p 0) then 1 else 0)+if Wq (t.code.getD p 0) then 1 else 0) 0=y3 at b3 himm
 generalize t.code.getD (p+1+(if Xq (t.code.getD p 0) then 1 else 0)+(if Wq (t.code.getD p 0) then 1 else 0)+1) 0=y4 at b4 himm
 have hii:(-32768≤x.imm∧x.imm≤65535)∧(x.op≠1→0≤x.imm):=by
  rw[himm,hop]
  unfold d3a
  constructor
  ·repeat' split
   all_goals omega
  ·intro hne
   repeat' split
   all_goals omega
 have ha0:Xq x.op=false→x.a=0:=fun hf=>by
  rw[e1]at hf ⊢
  show (if Xq (t.code.getD p 0)=true then _ else 0)=0
  rw[if_neg (by rw[show Xq (t.code.getD p 0)=false from hf];decide)]
 have hb0:Wq x.op=false→x.b=0:=fun hf=>by
  rw[e1]at hf ⊢
  show (if Wq (t.code.getD p 0)=true then _ else 0)=0
  rw[if_neg (by rw[show Wq (t.code.getD p 0)=false from hf];decide)]
 have hidx:(Xq x.op=true→0≤x.a∧x.a<8)∧(Wq x.op=true→0≤x.b∧x.b<8):=by
  unfold o1a at f
  split at f
  ·exact absurd f (by decide)
  ·rename_i hn
   simp only[Bool.or_eq_true,Bool.and_eq_true,decide_eq_true_eq,not_or,not_and]at hn
   refine ⟨fun h=>?_,fun h=>?_⟩
   ·have:=hn.1 h
    omega
   ·have:=hn.2 h
    omega
 unfold Wv at hbad
 refine ⟨?_,?_,hii.1,hii.2,fun h=>?_,fun h=>?_,fun h=>?_,hs.2.2⟩
 ·cases hf:Xq x.op with
  | true=>exact hidx.1 hf
  | false=>rw[ha0 hf];decide
 ·cases hf:Wq x.op with
  | true=>exact hidx.2 hf
  | false=>rw[hb0 hf];decide
 ·rw[if_pos h]at hbad
  simpa using hbad
 ·rw[if_neg (by omega),if_pos h]at hbad
  simpa using hbad
 ·rw[if_neg (by omega),if_neg (by omega),if_pos h]at hbad
  simpa using hbad
theorem B9b {t:Txn} {m:List Pair}:∀ {n i k:Nat} {s:RS},(k:Int)≤(N1a t m n i k s).s∧(N1a t m n i k s).s≤k+n
 | n,i,k,s=>by
   by_cases h:t.code.length≤i
   ·rw[m6a h]
    show (k:Int)≤k∧(k:Int)≤k+n
    omega
   ·cases n with
    | zero=>rw[z6a (by omega)];show (k:Int)≤k∧(k:Int)≤k+(0:Nat);omega
    | succ n=>
      by_cases h1:(ZW t m (Xx t.code i) s).1=-1
      ·rw[h9a (by omega) h1]
       have:=B9b (t:=t) (m:=m) (n:=n) (i:=((ZW t m (Xx t.code i) s).2.2.getD (i+Xv (t.code.getD i 0))).toNat) (k:=k+1) (s:=(ZW t m (Xx t.code i) s).2.1)
       omega
      ·by_cases h0:(ZW t m (Xx t.code i) s).1=0
       ·rw[A6a (by omega) h0]
        show (k:Int)≤((k+1:Nat):Int)∧((k+1:Nat):Int)≤k+((n+1:Nat):Int)
        omega
       ·rw[B6a (by omega) h1 h0]
        show (k:Int)≤((k+1:Nat):Int)∧((k+1:Nat):Int)≤k+((n+1:Nat):Int)
        omega
theorem l2c {t:Txn} {l:List Pair}:UpB Pair.k (E1a t l):=(r2a l).filter _
theorem m5c {l:List Pair} (h:UpB Pair.k l) {p:Pair}:Yk Pair.k l p.k=some p↔p∈l:=by
 rw[← t2a,w0b h]
theorem V1b {α:Type} {P:α→Prop} {c:Prop} [Decidable c] {a b:α} (h1:c→P a) (h2:¬ c→P b):P (if c then a else b):=by
 by_cases h:c
 ·rw[if_pos h];exact h1 h
 ·rw[if_neg h];exact h2 h
theorem a2d {t:Txn} {m:List Pair} {x:Instr} {s:RS} {a:Int}:(ZW t m x s).2.2=some a→a=x.imm∧F0a x.op=true:=by
 unfold ZW
 repeat' (refine V1b (P:=fun r:Int × RS × Option Int=>r.2.2=some a→a=x.imm∧F0a x.op=true) (fun _=>?_) (fun _=>?_))
 all_goals try simp only
 all_goals intro h
 all_goals first
  | (cases h;done)
  | (cases h;exact ⟨rfl,by simp[F0a, *]⟩)
  | (split at h
     ·cases h
     ·cases h;exact ⟨rfl,by simp[F0a, *]⟩)
theorem R6b {t:Txn} {m:List Pair} {x:Instr} {s:RS}:(ZW t m x s).2.1.w.length≤s.w.length+1∧(ZW t m x s).2.1.out.length≤s.out.length+1:=by
 unfold ZW
 repeat' (refine V1b (P:=fun r:Int × RS × Option Int=>r.2.1.w.length≤s.w.length+1∧r.2.1.out.length≤s.out.length+1) (fun _=>?_) (fun _=>?_))
 all_goals simp
theorem G5b {t:Txn} {m:List Pair}:∀ {n i k:Nat} {s:RS},(N1a t m n i k s).vs.length≤s.out.length+n∧(N1a t m n i k s).ch.length≤s.w.length+n
 | n,i,k,s=>by
   by_cases h:t.code.length≤i
   ·rw[m6a h]
    have:=R1a (key:=Change.k) s.w
    exact ⟨Nat.le_add_right _ _,Nat.le_trans this (Nat.le_add_right _ _)⟩
   ·cases n with
    | zero=>rw[z6a (by omega)];exact ⟨Nat.zero_le _,Nat.zero_le _⟩
    | succ n=>
      have hs:=R6b (t:=t) (m:=m) (x:=Xx t.code i) (s:=s)
      by_cases h1:(ZW t m (Xx t.code i) s).1=-1
      ·rw[h9a (by omega) h1]
       have:=G5b (t:=t) (m:=m) (n:=n) (i:=((ZW t m (Xx t.code i) s).2.2.getD (i+Xv (t.code.getD i 0))).toNat) (k:=k+1) (s:=(ZW t m (Xx t.code i) s).2.1)
       omega
      ·by_cases h0:(ZW t m (Xx t.code i) s).1=0
       ·rw[A6a (by omega) h0]
        have:=R1a (key:=Change.k) (ZW t m (Xx t.code i) s).2.1.w
        show (ZW t m (Xx t.code i) s).2.1.out.length≤_∧(byK Change.k (ZW t m (Xx t.code i) s).2.1.w).length≤_
        omega
       ·rw[B6a (by omega) h1 h0]
        exact ⟨Nat.zero_le _,Nat.zero_le _⟩
theorem G4a {t:Txn} {l:List Pair} {f:Int}:(q2a t l f).vs.length≤4096∧(q2a t l f).ch.length≤4096:=by
 unfold q2a
 split
 ·exact ⟨Nat.zero_le _,Nat.zero_le _⟩
 ·have h1:=G5b (t:=t) (m:=E1a t l) (n:=Z4a f) (i:=0) (k:=0) (s:=rs0)
  have h2:=b0b f
  have h3:rs0.out.length=0:=rfl
  have h4:rs0.w.length=0:=rfl
  omega
theorem F2b {α:Type} {key:α→Key} {l:List α} (h:UpB key l) {p:α}:Yk key l (key p)=some p↔p∈l:=by
 rw[← t2a,w0b h]
theorem U1c {α:Type} {key:α→Key} {l:List α} {k:Key}:Yk key (byK key l) k=Yk key l k:=by
 cases h:Yk key l k with
 | some x=>
   have hx:=d0a h
   have:Yk key (byK key l) (key x)=some x:=(F2b (r2a l)).2 (t2a.2 (by rw[hx.2];exact h))
   rw[hx.2]at this
   exact this
 | none=>
   refine w3a.2 fun hm=>?_
   obtain ⟨x,hx,rfl⟩:=List.mem_map.1 hm
   have:=t2a.1 hx
   rw[h]at this
   cases this
end Go.Proofs.YtheamfnbfgiaeaaGreat
namespace Go.D
open Go.Sort Go.Proofs
variable {P:Program} {α:Type}
def h00:DHeap:=⟨fun _=>none,0,0⟩
theorem C1e (w:World):Sim (fun _=>none) h00 w where
 lt:=fun _ _ h=>(by cases h)
 blk:=fun _ _ h=>(by cases h)
 obj:=fun _ _ h=>(by cases h)
 sep:=fun _ _ _ _ h=>(by cases h)
 glob:=fun g hg=>absurd hg (Nat.not_lt_zero g)
theorem h5c {ι':Inj} {h':DHeap} {w w':World} (st:Step (fun _=>none) ι' h00 h' w w'):∃ q os',w'=grow (w.drewN q) os':=by
 refine ⟨w'.drawn - w.drawn,w'.heap.extract w.heap.size w'.heap.size,?_⟩
 have hh:w'.heap=w.heap++w'.heap.extract w.heap.size w'.heap.size:=by
  refine Array.ext_getElem? fun b=>?_
  rw[Array.getElem?_append]
  by_cases hb:b<w.heap.size
  ·rw[if_pos hb]
   exact st.frame b hb fun id e he=>by cases he
  ·rw[if_neg hb,Array.getElem?_extract]
   have:=st.size
   by_cases hb2:b<w'.heap.size
   ·rw[if_pos (by omega)]
    congr 1;omega
   ·rw[Array.getElem?_eq_none (by omega),if_neg (by omega)]
 have h1:=st.os
 have h2:=st.tape
 have h3:=st.output
 have h4:=st.drawn
 obtain ⟨hp,tp,dr,o,out⟩:=w'
 simp only at hh h1 h2 h3 h4 ⊢
 subst h1 h2 h3
 rw[World.mk.injEq]
 refine ⟨hh,rfl,?_,rfl,rfl⟩
 show dr=w.drawn+(dr - w.drawn)
 omega
theorem VRel.aggFlat {ι:Inj} {l:List Value} (h:l.all YW=true):VRel ι (.agg l.toArray) (.agg l.toArray):=
 .agg rfl fun i v v' a b=>by
  rw[a]at b;cases b
  exact i4a ι (Z0a h (by simpa using a))
theorem o8b {g:Nat} {enc:α→List Value} {k:Nat} {cf:α→α→Int} [Inhabited α] (hflat:∀ x,(enc x).all YW=true) (hdc:∀ x y,DC P g [.agg (enc x).toArray,.agg (enc y).toArray] h00 (.ret (.int .i64 (cf x y))) h00) (blk off size:Nat) (w:World) :
 CmpLays P g #[] enc k cf blk off size w:=by
 intro m os dk _ x y
 have:=(hdc x y).2 0 (fun _=>none) (sortWorldK enc k w blk off m dk os) (#[.agg (enc x).toArray,.agg (enc y).toArray]++#[]) (C1e _) (by
  simp only[Array.append_empty]
  exact ((LRel.nil _).cons (.aggFlat (hflat y))).cons (.aggFlat (hflat x)))
 refine Calls.mono (callsIn_wide.1 this) ?_
 rintro e w' ⟨ι',he,_,st⟩
 cases e with
 | returned v=>cases he;exact ⟨rfl,h5c st⟩
 | _=>exact he.elim
theorem B9a {F:FRep α} [Inhabited α]:∀ (l:List α) (i r:Nat),i<l.length→r<F.z→(l.flatMap F.enc)[i*F.z+r]? = (F.enc (l.toArray[i]!))[r]?
 | [],i,r,hi,_=>by simp at hi
 | x :: l,0,r,_,hr=>by
   rw[List.flatMap_cons,Nat.zero_mul,Nat.zero_add,List.getElem?_append_left (by rw[F.len];exact hr)]
   rfl
 | x :: l,i+1,r,hi,hr=>by
   rw[List.flatMap_cons,Nat.succ_mul,List.getElem?_append_right (by rw[F.len];omega),F.len,show i*F.z+F.z+r - F.z=i*F.z+r by omega]
   have:=B9a l i r (by simpa using hi) hr
   rw[this]
   simp
theorem J0b {F:FRep α} [Inhabited α] (l:List α):flatK F.enc F.z l.toArray=(l.flatMap F.enc).toArray:=by
 have hs:(flatK F.enc F.z l.toArray).size=(l.flatMap F.enc).toArray.size:=by rw[size_flatK,List.size_toArray,List.size_toArray,Yx]
 refine ext_get! hs fun t ht=>?_
 rw[size_flatK,List.size_toArray]at ht
 rw[get_flatK _ _ _ _ (by simpa using ht)]
 have hz:0<F.z:=by
  rcases Nat.eq_zero_or_pos F.z with h | h
  ·rw[h]at ht;simp at ht
  ·exact h
 have h1:t / F.z<l.length:=(Nat.div_lt_iff_lt_mul hz).2 ht
 have h2:t % F.z<F.z:=Nat.mod_lt _ hz
 have:=B9a (F:=F) l (t / F.z) (t % F.z) h1 h2
 rw[Nat.div_add_mod' t F.z]at this
 have h3:t<(l.flatMap F.enc).length:=by rw[Yx];exact ht
 obtain ⟨x,hx⟩:∃ x,l.toArray[t / F.z]! = x:=⟨_,rfl⟩
 rw[hx]at this ⊢
 have h4:t % F.z<(F.enc x).length:=by rw[F.len];exact h2
 rw[List.getElem?_eq_getElem h3,List.getElem?_eq_getElem h4]at this
 rw[getElem!_pos (F.enc x) (t % F.z) h4,getElem!_pos (l.flatMap F.enc).toArray t (by simpa using h3)]
 simpa using (Option.some.inj this).symm
theorem i5c {F:FRep α} [Inhabited α] {ι:Inj} {h:DHeap} {w:World} {id o:Nat} {e:Ent} {cells:List Value} {esz:Nat} {l:List α} (s:Sim ι h w) (he:ι id=some e) (hg:h.get id=some (.row cells esz false)) (hl:o+l.length*F.z≤cells.length)
 (hc:(cells.drop o).take (l.length*F.z)=l.flatMap F.enc):HoldsK F.enc F.z w e.block (e.shift+o) l.toArray:=by
 obtain ⟨_,_,cur,ty,fz,h3,h4,h5⟩:=s.row he hg
 obtain ⟨hsz,hlen,hfz⟩:=h5 rfl
 unfold HoldsK
 rw[J0b]
 intro j hj
 have hj2:j<l.length*F.z:=by rw[← Yx];simpa using hj
 have h6:cells[o+j]? = (l.flatMap F.enc)[j]?:=by
  rw[← hc,List.getElem?_take,if_pos hj2,List.getElem?_drop]
 have h7:j<(l.flatMap F.enc).length:=by simpa using hj
 rw[List.getElem?_eq_getElem h7]at h6
 obtain ⟨v',h8,h9⟩:=h4 _ _ h6
 have hfl:=List.all_eq_true.1 (C4a F l) _ (List.getElem_mem h7)
 have h10:v'=(l.flatMap F.enc)[j]:=by
  unfold YW at hfl
  generalize (l.flatMap F.enc)[j]=x at hfl h9
  cases h9 <;> first | rfl | cases hfl
 constructor
 ·simp only[World.cell?,h3]
  rw[getElem!_pos (l.flatMap F.enc).toArray j (by simpa using h7)]
  simp only[id_eq,List.getElem_toArray]
  rw[show e.shift+o+j=e.shift+(o+j) by omega,h8,h10]
  rfl
 ·simp only[World.frozen?,h3]
  rw[Bool.and_eq_false_iff]
  simp only[decide_eq_false_iff_not]
  have:=hfz (e.shift+o+j) (by omega)
  omega
theorem Sim.rewrite {ι:Inj} {h:DHeap} {w w':World} {id:Nat} {e:Ent} {cells cells':List Value} {esz:Nat} {cur cur':Array Value} {ty:TypeId} {fz:Nat × Nat} (s:Sim ι h w) (he:ι id=some e) (hg:h.get id=some (.row cells esz false)) (hcur:w.heap[e.block]? = some (.cells cur ty fz)) (hcur':w'.heap[e.block]? = some (.cells cur' ty fz)) (hsz:cur'.size=cur.size)
 (hrel:∀ (i:Nat) v,cells'[i]? = some v→∃ v',cur'[e.shift+i]? = some v'∧VRel ι v v') (hlen:cells'.length=cells.length) (hoth:∀ b,b<w.heap.size→b≠e.block→w'.heap[b]? = w.heap[b]?) (hsize:w.heap.size≤w'.heap.size) (h1:w'.os=w.os) (h2:w'.tape=w.tape) (h3:w'.output=w.output) (h4:w.drawn≤w'.drawn) :
 Sim ι (h.set id (.row cells' esz false)) w'∧Step ι ι h (h.set id (.row cells' esz false)) w w':=by
 obtain ⟨hro,hez,cur0,ty0,fz0,k3,k4,k5⟩:=s.row he hg
 rw[hcur]at k3
 cases k3
 obtain ⟨l1,l2,l3⟩:=k5 rfl
 refine ⟨⟨s.lt,fun i x hx=>Nat.lt_of_lt_of_le (s.blk i x hx) hsize,?_,?_,s.glob⟩,⟨Inj.le_refl _,fun i x a b=>(by rw[a]at b;cases b),Nat.le_refl _,rfl,h1,h2,h3,hsize,?_,h4⟩⟩
 ·intro id' e' h'
  simp only[DHeap.set]
  by_cases hid:id'=id
  ·subst hid
   rw[he]at h'
   cases h'
   exact ⟨.row cells' esz false,by rw[if_pos rfl],hro,hez,cur',ty,fz,hcur',hrel,fun _=>⟨by rw[hsz];exact l1,by rw[hlen];exact l2,l3⟩⟩
  ·rw[if_neg hid]
   obtain ⟨o,a,b⟩:=s.obj _ _ h'
   by_cases hbl:e'.block=e.block
   ·rcases s.sep id' id e' e h' he hid hbl with hd | hd | hd
    ·rw[a]at hd;cases hd;exact ⟨_,a,b⟩
    ·rw[hg]at hd;cases hd
    ·rw[hro]at hd;cases hd.2
   ·exact ⟨o,a,b.mono (Inj.le_refl _) (hoth _ (s.blk _ _ h') hbl)⟩
 ·intro id1 id2 e1 e2 a b c d
  simp only[DHeap.set]
  rcases s.sep id1 id2 e1 e2 a b c d with hd | hd | hd
  ·left
   rw[if_neg (fun hx=>by subst hx;rw[hg]at hd;cases hd)]
   exact hd
  ·right;left
   rw[if_neg (fun hx=>by subst hx;rw[hg]at hd;cases hd)]
   exact hd
  ·exact .inr (.inr hd)
 ·intro b hb hx
  refine hoth b hb fun hbe=>?_
  have hy:=hx id e he hbe.symm
  rw[hro]at hy;cases hy
theorem U5b {F:FRep α} [Inhabited α] {ι:Inj} {h:DHeap} {w:World} {id o:Nat} {e:Ent} {cells:List Value} {esz:Nat} (l':List α) (m:Nat) (os:Array Obj) (s:Sim ι h w) (he:ι id=some e) (hg:h.get id=some (.row cells esz false)) (hl:o+l'.length*F.z≤cells.length) :
 Sim ι (h.set id (.row (Xy cells o (l'.flatMap F.enc)) esz false)) (sortWorldK F.enc F.z w e.block (e.shift+o) m l'.toArray os)∧Step ι ι h (h.set id (.row (Xy cells o (l'.flatMap F.enc)) esz false)) w (sortWorldK F.enc F.z w e.block (e.shift+o) m l'.toArray os):=by
 obtain ⟨_,_,cur,ty,fz,h3,h4,h5⟩:=s.row he hg
 obtain ⟨hsz,hlen,hfz⟩:=h5 rfl
 have hb:=s.blk _ _ he
 have hlk:∀ b,b<w.heap.size→(sortWorldK F.enc F.z w e.block (e.shift+o) m l'.toArray os).heap[b]? = (w.heap.modify e.block (onCells (putCells _root_.id (e.shift+o) (l'.flatMap F.enc).toArray)))[b]?:=fun b hb=>by
  show ((w.heap.modify e.block (onCells (putCells _root_.id (e.shift+o) (flatK F.enc F.z l'.toArray))))++os)[b]? = _
  rw[Array.getElem?_append_left (by simpa using hb),J0b]
 refine s.rewrite (cur:=cur) (cur':=putCells _root_.id (e.shift+o) (l'.flatMap F.enc).toArray cur) (ty:=ty) (fz:=fz) he hg h3 ?_ (by simp[putCells]) (fun i v hv=>?_) (l3a _ _ _) (fun b hb hne=>?_) ?_ rfl rfl rfl (Nat.le_add_right _ _)
 ·rw[hlk _ hb,Array.getElem?_modify,if_pos rfl,h3]
  rfl
 ·rw[n4a,Yx]at hv
  simp only[putCells,Array.getElem?_mapIdx]
  by_cases hi:o≤i∧i<o+l'.length*F.z∧i<cells.length
  ·rw[if_pos hi]at hv
   obtain ⟨u,hu,_⟩:=h4 i cells[i] (List.getElem?_eq_getElem hi.2.2)
   rw[hu]
   have h7:i - o<(l'.flatMap F.enc).length:=by rw[Yx];omega
   have hv2:=hv
   rw[List.getElem?_eq_getElem h7]at hv2
   refine ⟨v,?_,i4a ι (Z0a (C4a F l') hv)⟩
   simp only[Option.map_some,id_eq]
   rw[if_pos ⟨by omega,by simp only[List.size_toArray,Yx];omega⟩,show e.shift+i - (e.shift+o)=i - o by omega,getElem!_pos (l'.flatMap F.enc).toArray (i - o) (by simpa using h7)]
   simpa using hv2
  ·rw[if_neg hi]at hv
   obtain ⟨u,hu,hr⟩:=h4 i v hv
   have:=(List.getElem?_eq_some_iff.1 hv).1
   rw[hu]
   refine ⟨u,?_,hr⟩
   simp only[Option.map_some]
   rw[if_neg]
   simp only[List.size_toArray,Yx]
   omega
 ·rw[hlk b hb,Array.getElem?_modify,if_neg (fun hh=>hne hh.symm)]
 ·show _≤((w.heap.modify e.block (onCells (putCells _root_.id (e.shift+o) (flatK F.enc F.z l'.toArray))))++os).size
  simp
theorem Q7b {F:FRep α} [Inhabited α] {ρ:Go.Shelf.Ren} {k:Nat} (hk:F.z=k) (L:SlLaysF0.n6 P ρ) (aE:∀ w,(isAgg (ρ.t 24)).run P w=.ok true w) (zE:∀ w,(Go.sizeOf (ρ.t 24)).run P w=.ok k w) {cf:α→α→Int} (hO:SWO (ltOf cf)) {g:Nat} (eg:∀ args w,(callFunc g args).run P w=.ok (.enter g args) w)
 (hdc:∀ x y,DC P g [.agg (F.enc x).toArray,.agg (F.enc y).toArray] h00 (.ret (.int .i64 (cf x y))) h00) {h:DHeap} {id o c:Nat} {cells:List Value} {l:List α} {esz:Nat} (hg:h.get id=some (.row cells esz false)) (h0:0<l.length) (hl:o+l.length*F.z≤cells.length) (hc:(cells.drop o).take (l.length*F.z)=l.flatMap F.enc) (hsz:l.length<4611686018427387904) :
 Ct P (ρ.f 6) [.slice (some ⟨id,o,none⟩) l.length c,.func (.func g) #[] #[]] h fun r h1=>r=.ret (.tuple #[])∧∃ l':List α,l'.Perm l∧SortedIn (ltOf cf) 0 l.length l'.toArray∧h1=h.set id (.row (Xy cells o (l'.flatMap F.enc)) esz false):=by
 subst hk
 intro n ι w args' s ha
 obtain ⟨a0,e0,r0⟩:=ha.get (i:=0) rfl
 obtain ⟨a1,e1,r1⟩:=ha.get (i:=1) rfl
 have hsz2:args'.toList.length=2:=ha.1.symm
 have hargs:args'=#[a0,a1]:=by
  obtain ⟨L⟩:=args'
  match L,hsz2 with
  | [x,y],_=>simp at e0 e1;rw[e0,e1]
 cases r0 with
 | @slice _ _ _ _ cap' e a' he hl' hx ha' hb=>
 cases r1 with
 | func hf q1 q2 q3 q4=>
 rename_i first' cap2
 obtain rfl:first'=#[]:=by simpa using q1.symm
 obtain rfl:cap2=#[]:=by simpa using q3.symm
 obtain rfl:=ha' (by omega)
 have hm:=i5c s he hg hl hc
 have hcalls:=AnyQ.slices_SortFunc L F.z aE zE F.enc F.len (fun x v hv=>v2b (List.all_eq_true.1 (F.flat x) v hv)) cf hO g #[] e.block (e.shift+o) cap' l.toArray w eg (o8b F.flat hdc _ _ _ _) hm (s.blk _ _ he) (by simpa using hsz)
 rw[hargs]
 refine callsIn_wide.2 (Calls.mono hcalls ?_)
 rintro en w' ⟨rfl,d',m,os,hp,hs,rfl⟩
 obtain ⟨p1,_,p3⟩:=hp
 have hd:d'=d'.toList.toArray:=by simp
 have hlen:d'.toList.length=l.length:=by simpa using p1
 have hperm:d'.toList.Perm l:=by
  have e1:(d'.extract 0 l.toArray.size).toList=d'.toList:=by rw[← p1];simp
  have e2:(l.toArray.extract 0 l.toArray.size).toList=l:=by simp
  rw[e1,e2]at p3
  exact p3
 obtain ⟨q5,q6⟩:=U5b (F:=F) d'.toList m os s he hg (by rw[hlen];exact hl)
 rw[hd]
 refine ⟨ι,.ret (.tuple #[]),_,⟨rfl,d'.toList,hperm,?_,rfl⟩,⟨q6.next,q6.ng⟩,.tuple rfl (fun i v v' h1=>by simp at h1),q5,q6⟩
 simpa using hs
end Go.D
namespace Go.Proofs.YtheamfnbfgiaeaaGreat
open Go.D
open Go.Sort
set_option maxRecDepth 100000
theorem x0c {h:DHeap} {v:Value} (hb:Arg fKey.rep h v []):Ct Tryz.prog 138 [v] h fun r h1=>r=.ret v∧h1=h:=by
 refine y1c (by simp) ?_
 have el:∀ K,dLen Tryz.prog #[24] v K=some (.int .i64 ((([]:List Key).length:Nat):Int)):=hb.lens (P:=Tryz.prog) (ts:=#[24]) (t:=24) rfl D1a
 have h0:(((0:Nat):Int)<2)=True:=eq_true (by decide)
 simp -implicitDefEqProofs (disch:=first|omega|simp only[go_sem]) only[go_sem,true_and,j8b,el,List.length_nil,h0]
 exact ⟨_,rfl,rfl,trivial⟩
theorem C7a:ltOf o5a=Yq:=by
 funext a b
 exact Z8b a b
theorem G0b:∀ args w,(callFunc 55 args).run Tryz.prog w=.ok (.enter 55 args) w:=enters_of Tryz.func55 (by kernel_rfl) rfl
theorem f6d {h:DHeap} {v:Value} {l:List Key} (hb:Arg fKey.rep h v l) (hl:l.length≤1048576) :
 Ct Tryz.prog 111 [v] h fun r h1=>∃ w,r=.ret w∧Ext h h1∧Sl fKey.rep (p7a h h1) h1 w (E4a l):=by
 refine F5d (by simp) ?_
 have m:=z0b (h:=h) hb
 simp -implicitDefEqProofs (disch:=first|omega|simp only[go_sem]) only[go_sem,true_and,h4d]
 refine YV (n8b hb (by omega)) ?_
 by_cases h0:l=[]
 ·subst h0
  simp -implicitDefEqProofs (disch:=first|omega|simp only[go_sem]) only[go_sem,true_and]
  refine Yu (V2c m.arg) ?_
  rintro r h1 ⟨rfl,rfl⟩
  simp -implicitDefEqProofs (disch:=first|omega|simp only[go_sem]) only[go_sem,true_and]
  refine Yu (x0c m.arg) ?_
  rintro r h1 ⟨rfl,rfl⟩
  simp -implicitDefEqProofs (disch:=first|omega|simp only[go_sem]) only[go_sem,true_and,Xj]
  exact ⟨_,rfl,_,rfl,m.ext,m.sl⟩
 ·have hnn:g2a v=false:=by
   cases hn:g2a v with
   | false=>rfl
   | true=>exact absurd (u3a hb hn).2 h0
  have e1:q4a h v l=.slice (some ⟨h.next,0,none⟩) l.length (l.length+1):=by rw[q4a,hnn];rfl
  have e2:a3a fKey h v l=h.push (.row (l.flatMap fKey.enc) 2 false):=by rw[a3a,hnn];rfl
  have hok:=hb.ok
  obtain ⟨K,hK⟩:∃ K,h.push (.row (l.flatMap fKey.enc) 2 false)=K:=⟨_,rfl⟩
  have hg:K.get h.next=some (.row (l.flatMap fKey.enc) 2 false):=by rw[← hK];exact Zz _ _
  have hE:Ext h K:=by rw[← hK];exact Ext.push1 _ _
  have hKn:K.next=h.next+1:=by rw[← hK];rfl
  have hlen:0<l.length:=List.length_pos_iff.2 h0
  have ht:(l.flatMap fKey.enc).take (l.length*2)=l.flatMap fKey.enc:=List.take_of_length_le (by rw[Yx];exact Nat.le_refl _)
  rw[e1,e2,hK]
  simp -implicitDefEqProofs (disch:=first|omega|simp only[go_sem]) only[go_sem,true_and]
  refine Yu (Q7b (F:=fKey) (k:=2) rfl P7b Tryz.isAgg31 Tryz.sizeOf31 (cf:=o5a) (C7a▸C2b) G0b (fun x y=>m2b) (o:=0) (esz:=2) hg hlen (by rw[Yx,Nat.zero_add];exact Nat.le_refl _) ht (by omega)) ?_
  rintro r h1 ⟨rfl,l',hp,hs,rfl⟩
  have hl':l'.length=l.length:=hp.length_eq
  have e3:Xy (l.flatMap fKey.enc) 0 (l'.flatMap fKey.enc)=l'.flatMap fKey.enc:=by
   have:=N7a (l'.flatMap fKey.enc) (l.flatMap fKey.enc) [] (by rw[Yx,Yx,hl'])
   simpa using this
  rw[e3]
  simp -implicitDefEqProofs (disch:=first|omega|simp only[go_sem]) only[go_sem,true_and]
  have hr:RowIs fKey (K.set h.next (.row (l'.flatMap fKey.enc) 2 false)) h.next l':=RowIs.set rfl
  have cc:=y0c (c:=l.length+1) hr (fun x hx=>hok x (hp.mem_iff.1 hx)) (by omega)
  rw[hl']at cc
  refine Yu cc ?_
  rintro r h1 ⟨c',cs,rfl,rfl,hsl⟩
  simp -implicitDefEqProofs (disch:=first|omega|simp only[go_sem]) only[go_sem,true_and,Xj]
  rw[C7a]at hs
  rw[E2b hp (P6a hl'.symm hs)]at hsl
  rw[E2b hp (P6a hl'.symm hs)]
  refine ⟨_,rfl,_,rfl,(hE.set (by omega)).set (by omega),hsl.mono fun i hi=>⟨⟨by omega,?_⟩,rfl⟩⟩
  subst hi
  show h.next<K.next
  omega
end Go.Proofs.YtheamfnbfgiaeaaGreat
namespace Go.Proofs.YtheamfnbfgiaeaaGreat
open Go.D
open Go.Sort
set_option maxRecDepth 100000
abbrev D9b (fk:FuncId) (c:Nat):Value:=.func (.func fk) #[] #[.pointer (some ⟨c,0,none⟩)]
theorem a2c {h:DHeap} {id:Nat}:Ct Tryz.prog 134 [.map (some id)] h fun r h1=>r=.ret (D9b 155 h.next)∧h1=h.push (.row [.map (some id)] 0 false):=by
 refine S5d (by simp) ?_
 simp -implicitDefEqProofs (disch:=first|omega|simp only[go_sem]) only[go_sem,true_and,t4d]
 exact ⟨_,rfl,rfl,trivial⟩
theorem w0c {fk:FuncId} (Y:S6a fk) (hg:R0a Tryz.prog fk=true) {h:DHeap} {c id:Nat} {m:List (Key × Value)} (hlen:m.length≤4294967296) (hok:∀ k∈m.map (·.1),fKey.ok k) (hc:c<h.next) (gc:h.get c=some (.row [.map (some id)] 0 false)) (hid:id<h.next) (hm:MapAt Zq h id m) :
 Ct Tryz.prog 74 [D9b fk c] h fun r h1=>∃ v dn,r=.ret v∧dn.Nodup∧(∀ k,k∈dn↔k∈m.map (·.1))∧Made fKey h h1 v dn:=by
 refine x9d (by simp) ?_
 simp -implicitDefEqProofs (disch:=first|omega|simp only[go_sem]) only[go_sem,true_and,c74]
 refine Yu (d6b Y hg hlen hok hc gc hid hm) ?_
 rintro r h1 ⟨v,dn,rfl,h2,h3,h4⟩
 simp -implicitDefEqProofs (disch:=first|omega|simp only[go_sem]) only[go_sem,true_and,Xj]
 exact ⟨_,rfl,v,dn,rfl,h2,h3,h4⟩
theorem L8a {fk:FuncId} (Y:S6a fk) (hg:R0a Tryz.prog fk=true) {h:DHeap} {c id:Nat} {m:List (Key × Value)} (hlen:m.length≤1048576) (hok:∀ k∈m.map (·.1),fKey.ok k) (hc:c<h.next) (gc:h.get c=some (.row [.map (some id)] 0 false)) (hid:id<h.next) (hm:MapAt Zq h id m) :
 Ct Tryz.prog 53 [D9b fk c,.func (.func 55) #[] #[]] h fun r h1=>∃ v l,r=.ret v∧UpK l∧(∀ k,k∈l↔k∈m.map (·.1))∧Ext h h1∧Sl fKey.rep (p7a h h1) h1 v l:=by
 refine i9d (by simp) ?_
 simp -implicitDefEqProofs (disch:=first|omega|simp only[go_sem]) only[go_sem,true_and,c53]
 refine Yu (w0c Y hg (by omega) hok hc gc hid hm) ?_
 rintro r h1 ⟨v,dn,rfl,hn,hmem,mm⟩
 simp -implicitDefEqProofs (disch:=first|omega|simp only[go_sem]) only[go_sem,true_and]
 by_cases h0:dn=[]
 ·subst h0
  refine Yu (V2c mm.arg) ?_
  rintro r h2 ⟨rfl,rfl⟩
  simp -implicitDefEqProofs (disch:=first|omega|simp only[go_sem]) only[go_sem,true_and,Xj]
  exact ⟨_,rfl,v,[],rfl,.nil,hmem,mm.ext,mm.sl⟩
 have hl:dn.length≤m.length:=by
  have:=p1a (b:=m.map (·.1)) hn (fun x hx=>(hmem x).1 hx)
  simpa using this
 obtain ⟨w,o,hw⟩:=mm.nonnil h0
 rcases o with ⟨_,h0',_⟩ | ⟨hz,_⟩ | ⟨i,cap,cells,rfl,hwi,hlt,hgw,hle,els⟩
 ·exact absurd h0' h0
 ·cases hz
 cases hwi
 have hE:=mm.ext
 refine Yu (Q7b (F:=fKey) (k:=2) rfl P7b Tryz.isAgg31 Tryz.sizeOf31 (cf:=o5a) (C7a▸C2b) G0b (fun x y=>m2b) (o:=0) (esz:=2) hgw (List.length_pos_iff.2 h0) (by rw[Nat.zero_add];exact hle) (Els.flat.1 els).1 (by omega)) ?_
 rintro r h2 ⟨rfl,l',hp,hs,rfl⟩
 rw[C7a]at hs
 have hl':l'.length=dn.length:=hp.length_eq
 have hsl:=P6a hl'.symm hs
 have hnd:l'.Nodup:=hp.nodup_iff.2 hn
 have hle2:(l'.flatMap fKey.enc).length≤cells.length:=by rw[Yx,hl'];exact hle
 simp -implicitDefEqProofs (disch:=first|omega|simp only[go_sem]) only[go_sem,true_and,Xj]
 refine ⟨_,rfl,_,l',rfl,?_,fun k=>(hp.mem_iff).trans (hmem k),hE.set hw,?_⟩
 ·exact (hsl.and hnd).imp fun h=>S2a h.1 (fun e=>h.2 e.symm)
 ·rw[← hl']
  refine .inr ⟨w,0,cap,_,2,false,rfl,⟨hw,hlt⟩,ZX _ _,.inr rfl,?_,?_⟩
  ·rw[l3a,hl']
   simpa using hle
  ·refine Els.flat.2 ⟨?_,fun x hx=>mm.ok x (hp.mem_iff.1 hx)⟩
   obtain ⟨A,B,hAB,hA⟩:∃ A B,cells=A++B∧A.length=(l'.flatMap fKey.enc).length:=⟨_,_,(List.take_append_drop _ cells).symm,by rw[List.length_take];exact Nat.min_eq_left hle2⟩
   rw[hAB,N7a _ _ _ hA.symm,List.drop_zero]
   exact List.take_left' (by rw[Yx];rfl)
end Go.Proofs.YtheamfnbfgiaeaaGreat
namespace Go.Proofs.YtheamfnbfgiaeaaGreat
open Go.D
set_option maxRecDepth 100000
def s1a (l:List Pair):List (Key × Value):=l.foldl (fun m p=>a1a m p.k (.int .i64 p.v)) []
theorem F6b {l:List Pair} {i:Nat} (hi:i<l.length):s1a (l.take (i+1))=a1a (s1a (l.take i)) l[i].k (.int .i64 l[i].v):=by
 unfold s1a
 rw[List.take_succ_eq_append_getElem hi,List.foldl_append]
 rfl
theorem z5c {m:List (Key × Value)} {k:Key} {v:Value}:(a1a m k v).length≤m.length+1:=by
 unfold a1a
 split
 ·rw[List.length_map];exact Nat.le_succ _
 ·rw[List.length_append];exact Nat.le_refl _
theorem F9a:∀ (l:List Pair) (m:List (Key × Value)),(l.foldl (fun m p=>a1a m p.k (.int .i64 p.v)) m).length≤m.length+l.length
 | [],m=>by simp
 | p :: l,m=>by
   have h1:=F9a l (a1a m p.k (.int .i64 p.v))
   have h2:=z5c (m:=m) (k:=p.k) (v:=.int .i64 p.v)
   rw[List.foldl_cons,List.length_cons]
   omega
theorem g1b (l:List Pair):(s1a l).length≤l.length:=by
 have:=F9a l []
 rw[List.length_nil,Nat.zero_add]at this
 exact this
theorem G9a {k:Key}:∀ (l:List Pair) (m:List (Key × Value)),k∈(l.foldl (fun m p=>a1a m p.k (.int .i64 p.v)) m).map (·.1)↔k∈m.map (·.1)∨k∈l.map (·.k)
 | [],m=>by simp
 | p :: l,m=>by
   rw[List.foldl_cons,G9a l,z8a]
   split
   ·rename_i h
    rw[List.map_cons,List.mem_cons]
    constructor
    ·rintro (a | a)
     ·exact .inl a
     ·exact .inr (.inr a)
    ·rintro (a | a | a)
     ·exact .inl a
     ·exact .inl (a▸h)
     ·exact .inr a
   ·rw[List.map_cons,List.mem_cons,List.mem_append,List.mem_singleton,or_assoc]
theorem H7a {k:Key} {l:List Pair}:k∈(s1a l).map (·.1)↔k∈l.map (·.k):=by
 unfold s1a
 rw[G9a]
 simp
def H5a (l:List Pair) (k:Key):Option Pair:=l.reverse.find? fun p=>p.k=k
def F1a (l:List Pair) (k:Key):Pair:=(H5a l k).getD ⟨k,0⟩
theorem b9b {l:List Pair} {k:Key} {p:Pair} (h:H5a l k=some p):p∈l∧p.k=k:=by
 refine ⟨List.mem_reverse.1 (List.mem_of_find?_eq_some h),?_⟩
 have:=List.find?_some h
 simpa using this
theorem X1c {l:List Pair} {k:Key} (h:k∈l.map (·.k)):∃ p,H5a l k=some p:=by
 obtain ⟨p,hp,rfl⟩:=List.mem_map.1 h
 cases hq:H5a l p.k with
 | some q=>exact ⟨q,rfl⟩
 | none=>
   have:=List.find?_eq_none.1 hq p (List.mem_reverse.2 hp)
   simp at this
theorem y8a {k:Key}:∀ (l:List Pair) (m:List (Key × Value)),(m.map (·.1)).Nodup→Vz (l.foldl (fun m p=>a1a m p.k (.int .i64 p.v)) m) k=match H5a l k with | some p=>some (.int .i64 p.v) | none=>Vz m k
 | [],m,_=>rfl
 | p :: l,m,hn=>by
   rw[List.foldl_cons,y8a l _ (i2a hn),l4a hn]
   unfold H5a
   rw[List.reverse_cons,List.find?_append]
   cases hq:l.reverse.find? fun p=>p.k=k with
   | some q=>rfl
   | none=>
     by_cases hk:k=p.k
     ·simp[hk]
     ·have:¬ p.k=k:=fun e=>hk e.symm
      simp[hk,this]
theorem A6b {l:List Pair} {k:Key}:Vz (s1a l) k=(H5a l k).map fun p=>.int .i64 p.v:=by
 unfold s1a
 rw[y8a l [] .nil]
 cases H5a l k <;> rfl
theorem n9b {l:List Pair} {k:Key} (h:k∈l.map (·.k)):F1a l k∈l∧(F1a l k).k=k∧Vz (s1a l) k=some (.int .i64 (F1a l k).v):=by
 obtain ⟨p,hp⟩:=X1c h
 obtain ⟨h1,h2⟩:=b9b hp
 rw[A6b]
 unfold F1a
 rw[hp]
 exact ⟨h1,h2,rfl⟩
theorem P9a {k:Key} {v:Int}:XW Tryz.prog 118 [(0,Zq k),(1,.int .i64 v)]=some (.agg #[.int .i32 k.t,.int .i64 k.r,.int .i64 v]):=l0a S1d rfl
theorem W0b:d8a Tryz.prog 147 Zq (.int .i64 0):=⟨_,_,W2b,a9b,by kernel_rfl⟩
theorem P1d {h:DHeap} {v:Value} {l:List Pair} (hb:Arg fPair.rep h v l) (hl:l.length≤1048576) :
 Ct Tryz.prog 103 [v] h fun r h1=>∃ w ks,r=.ret w∧UpK ks∧(∀ k,k∈ks↔k∈l.map (·.k))∧(ks=[]→w=.slice none 0 0)∧Made fPair h h1 w (ks.map (F1a l)):=by
 refine x5d (by simp) ?_
 have el:∀ K,dLen Tryz.prog #[96] v K=some (.int .i64 (l.length:Nat)):=hb.lens (P:=Tryz.prog) (ts:=#[96]) (t:=96) rfl g6a
 simp -implicitDefEqProofs (disch:=first|omega|simp only[go_sem]) only[go_sem,true_and,a4d,el]
 refine Xu (σ:=Nat) (by kernel_rfl) (fun i s=>s.df=[]∧s.rd=none∧s.fr 3=some (.map (some h.next))∧s.fr 10=some v∧s.fr 11=some (.int .i64 (l.length:Nat))∧s.fr 12=some (.int .i64 (i:Nat))∧i≤l.length∧h.next<s.h.next∧Ext h s.h∧MapAt Zq s.h h.next (s1a (l.take i))) (fun i=>l.length - i) 0 ?_ ?_
 ·simp -implicitDefEqProofs (disch:=first|omega|simp only[go_sem]) only[go_sem,true_and]
  exact ⟨by trivial,Nat.zero_le _,Nat.lt_succ_self _,Ext.push1 _ _,MapAt.new⟩
 rintro i ⟨fr,df,K,rd⟩ K' hK' hX ⟨rfl,rfl,f3,f10,f11,f12,hi,hlt,hE,hm⟩
 simp only at f3 f10 f11 f12 hlt hE hm
 simp -implicitDefEqProofs (disch:=first|omega|simp only[go_sem]) only[go_sem,true_and,f10,f11,f12]
 refine YX (fun hc1=>?_) (fun hc1=>?_)
 ·have hj:i<l.length:=by omega
  obtain ⟨id1,o1,e1,_,hat1⟩:=(hb.ext hE).idx (P:=Tryz.prog) (t:=96) D2a (k:=.i64) (i:=i) (x:=l[i]) (by simp)
  have l1:Zx K id1 o1 3=some (.agg #[.int .i32 l[i].k.t,.int .i64 l[i].k.r,.int .i64 l[i].v]):=hat1.flat.2.1
  obtain ⟨K1,hK1⟩:∃ H,H=K.push (.row [.int .i32 l[i].k.t,.int .i64 l[i].k.r,.int .i64 l[i].v] 0 false):=⟨_,rfl⟩
  have g1:K1.get K.next=some (.row [.int .i32 l[i].k.t,.int .i64 l[i].k.r,.int .i64 l[i].v] 0 false):=by rw[hK1];exact Zz _ _
  have lk:Zx K1 K.next 0 2=some (Zq l[i].k):=by rw[Zw g1 (Nat.le_of_ble_eq_true rfl)];rfl
  have lv:Zu K1 K.next 2=some (.int .i64 l[i].v):=Zy g1
  have hE1:Ext K K1:=by rw[hK1];exact Ext.push1 _ _
  have hm1:MapAt Zq K1 h.next (s1a (l.take i)):=hm.keep (hE1.get _ hlt)
  obtain ⟨o,hu,hm2⟩:=hm1.update W0b l[i].k (.int .i64 l[i].v)
  have hw:=ZV hj (by omega)
  have hst:Yw Tryz.prog 118 (.pointer (some ⟨K.next,0,none⟩)) (.agg #[.int .i32 l[i].k.t,.int .i64 l[i].k.r,.int .i64 l[i].v]) (K.push (.row [.int .i32 0,.int .i64 0,.int .i64 0] 0 false))=some K1:=by
   rw[hK1]
   exact (p1b rfl).trans (a0a rfl rfl)
  simp -implicitDefEqProofs (disch:=first|omega|simp only[go_sem]) only[go_sem,true_and,f3,f10,f12,e1,l1,hst,lk,lv,hu,hw]
  refine hK' (i+1) _ ?_ (by omega)
  have hn1:=hE1.next
  exact ⟨rfl,rfl,(vy f3),(vy f10),(vy f11),vz,by omega,show h.next<K1.next by omega,(hE.trans hE1).set (Nat.le_refl _),by rw[F6b hj];exact hm2⟩
 obtain rfl:i=l.length:=by omega
 refine hX _ _ (by simp) ?_
 rw[List.take_length]at hm
 simp -implicitDefEqProofs (disch:=first|omega|simp only[go_sem]) only[go_sem,true_and,f3]
 have hkok:∀ k∈(s1a l).map (·.1),fKey.ok k:=fun k hk=>by
  obtain ⟨p,hp,rfl⟩:=List.mem_map.1 (H7a.1 hk)
  exact (hb.ok p hp).1
 refine Yu a2c ?_
 rintro r h2 ⟨rfl,rfl⟩
 simp -implicitDefEqProofs (disch:=first|omega|simp only[go_sem]) only[go_sem,true_and]
 obtain ⟨H2,hH2⟩:∃ H,H=K.push (.row [.map (some h.next)] 0 false):=⟨_,rfl⟩
 rw[← hH2]
 have g2:H2.get K.next=some (.row [.map (some h.next)] 0 false):=by rw[hH2];exact Zz _ _
 have hE2:Ext K H2:=by rw[hH2];exact Ext.push1 _ _
 have hH2n:H2.next=K.next+1:=by rw[hH2];rfl
 have hm2:MapAt Zq H2 h.next (s1a l):=hm.keep (hE2.get _ hlt)
 refine Yu (L8a U6b (by kernel_rfl) (h:=H2) (c:=K.next) (id:=h.next) (m:=s1a l) (Nat.le_trans (g1b l) hl) hkok (by omega) g2 (by omega) hm2) ?_
 rintro r h3 ⟨w,ks,rfl,hup,hmem,hE3,hs3⟩
 have hsk:Arg fKey.rep h3 w ks:=hs3.mono fun i hi=>⟨hi.2,rfl⟩
 have ek:∀ K,dLen Tryz.prog #[24] w K=some (.int .i64 (ks.length:Nat)):=hsk.lens (P:=Tryz.prog) (ts:=#[24]) (t:=24) rfl D1a
 simp -implicitDefEqProofs (disch:=first|omega|simp only[go_sem]) only[go_sem,true_and,Xj,ek]
 have hpm:∀ k∈ks,F1a l k∈l∧(F1a l k).k=k∧Vz (s1a l) k=some (.int .i64 (F1a l k).v):=fun k hk=>n9b (H7a.1 ((hmem k).1 hk))
 have hkl:ks.length≤1048576:=by
  have h1:=p1a (a:=ks) (b:=(s1a l).map (·.1)) (hup.imp fun {a b} h e=>by rw[e,f1a]at h;cases h) (fun x hx=>(hmem x).1 hx)
  rw[List.length_map]at h1
  exact Nat.le_trans h1 (Nat.le_trans (g1b l) hl)
 have hE03:Ext h h3:=(hE.trans hE2).trans hE3
 have hn3:=hE3.next
 have hm3:MapAt Zq h3 h.next (s1a l):=hm2.keep (hE3.get _ (by omega))
 refine Xu (σ:=Nat) (by kernel_rfl) (fun j s=>s.df=[]∧s.rd=none∧s.fr 3=some (.map (some h.next))∧s.fr 24=some w∧s.fr 25=some (.int .i64 (ks.length:Nat))∧s.fr 26=some (.int .i64 (j:Nat))∧j≤ks.length∧∃ v',s.fr 6=some v'∧(j=0→v'=.slice none 0 0)∧Made fPair h3 s.h v' ((ks.take j).map (F1a l))) (fun j=>ks.length - j) 0 ?_ ?_
 ·simp -implicitDefEqProofs (disch:=first|omega|simp only[go_sem]) only[go_sem,true_and,f3]
  exact ⟨by trivial,Nat.zero_le _,_,rfl,fun _=>rfl,Made.nil _ (.refl _)⟩
 rintro j ⟨fr,df,K4,rd⟩ K' hK' hX ⟨rfl,rfl,f3,f24,f25,f26,hj,v',f6,hv0,mm⟩
 simp only at f3 f24 f25 f26 f6 mm
 have hE4:=mm.ext
 have hn4:=hE4.next
 simp -implicitDefEqProofs (disch:=first|omega|simp only[go_sem]) only[go_sem,true_and,f24,f25,f26]
 refine YX (fun hc1=>?_) (fun hc1=>?_)
 ·have hjl:j<ks.length:=by omega
  obtain ⟨id1,o1,e1,_,hat1⟩:=(hsk.ext hE4).idx (P:=Tryz.prog) (t:=24) C2a (k:=.i64) (i:=j) (x:=ks[j]) (by simp)
  have l1:Zx K4 id1 o1 2=some (Zq ks[j]):=hat1.flat.2.1
  obtain ⟨K5,hK5⟩:∃ H,H=K4.push (.row [.int .i32 ks[j].t,.int .i64 ks[j].r] 0 false):=⟨_,rfl⟩
  have hE5:Ext K4 K5:=by rw[hK5];exact Ext.push1 _ _
  have hK5n:K5.next=K4.next+1:=by rw[hK5];rfl
  have hst:Yw Tryz.prog 31 (.pointer (some ⟨K4.next,0,none⟩)) (Zq ks[j]) (K4.push (.row [.int .i32 0,.int .i64 0] 0 false))=some K5:=by
   rw[hK5]
   exact (x3a rfl).trans (a0a rfl rfl)
  have g5:K5.get K4.next=some (.row [.int .i32 ks[j].t,.int .i64 ks[j].r] 0 false):=by rw[hK5];exact Zz _ _
  have l5:Zx K5 K4.next 0 2=some (Zq ks[j]):=by rw[Zw g5 (Nat.le_of_ble_eq_true rfl)];rfl
  obtain ⟨hp1,hp2,hp3⟩:=hpm ks[j] (List.getElem_mem hjl)
  have lk5:M0a Tryz.prog 147 (.map (some h.next)) (Zq ks[j]) false K5=some (.int .i64 (F1a l ks[j]).v):=by
   rw[(hm3.keep ((hE5.get _ (by omega)).trans (hE4.get _ (by omega)))).lookup W0b ks[j] false,hp3]
   rfl
  obtain ⟨w2,h6,e6,m6⟩:=(mm.on hE5).snoc U5a (y:=F1a l ks[j]) (cs:=[.int .i32 ks[j].t,.int .i64 ks[j].r,.int .i64 (F1a l ks[j]).v]) (z:=3) (by rw[g1c,hp2]) rfl (hb.ok _ hp1) (by rw[List.length_map,List.length_take];omega) (by decide)
  have hw:=ZV hjl (by omega)
  simp -implicitDefEqProofs (disch:=first|omega|simp only[go_sem]) only[go_sem,true_and,f24,f26,e1,l1,hst]
  refine a6c rfl ?_
  simp -implicitDefEqProofs (disch:=first|omega|simp only[go_sem]) only[go_sem,true_and,m1c,y2c,f3,f6,f26,l5,lk5,P9a,e6,hw]
  refine hK' (j+1) _ ?_ (by omega)
  refine ⟨rfl,rfl,(vy f3),(vy f24),(vy f25),vz,by omega,w2,vz,fun h=>by omega,?_⟩
  rw[List.take_succ_eq_append_getElem hjl,List.map_append]
  exact m6
 obtain rfl:j=ks.length:=by omega
 refine hX _ _ (by simp) ?_
 rw[List.take_length]at mm
 simp -implicitDefEqProofs (disch:=first|omega|simp only[go_sem]) only[go_sem,true_and,f6]
 exact ⟨_,rfl,_,ks,rfl,hup,fun k=>(hmem k).trans H7a,fun e=>hv0 (by rw[e];rfl),mm.base hE03⟩
theorem T7a {l:List Key} {k:Key} {i:Nat} (hi:i<l.length) (h:k∉l.take i) (hn:l[i]≠k):k∉l.take (i+1):=by
 rw[List.take_succ_eq_append_getElem hi,List.mem_append,List.mem_singleton]
 rintro (a | a)
 ·exact h a
 ·exact hn a.symm
theorem Y8b {h:DHeap} {a:Value} {l:List Key} {k:Key} (hb:Arg fKey.rep h a l) (hl:l.length≤4294967296) :
 Ct Tryz.prog 156 [a,Zq k] h fun r h1=>∃ n:Int,r=.ret (.int .i64 n)∧(0≤n↔k∈l)∧Ext h h1:=by
 refine b6d (by simp) ?_
 have el:∀ K,dLen Tryz.prog #[24] a K=some (.int .i64 (l.length:Nat)):=hb.lens (P:=Tryz.prog) (ts:=#[24]) (t:=24) rfl D1a
 obtain ⟨K,hK⟩:∃ K,K=h.push (.row [.int .i32 k.t,.int .i64 k.r] 0 false):=⟨_,rfl⟩
 have hE:Ext h K:=by rw[hK];exact Ext.push1 _ _
 have gk:K.get h.next=some (.row [.int .i32 k.t,.int .i64 k.r] 0 false):=by rw[hK];exact Zz _ _
 have lk:Zx K h.next 0 2=some (Zq k):=by rw[Zw gk (Nat.le_of_ble_eq_true rfl)];rfl
 have hcl:(Zq k).cells.toList=[.int .i32 k.t,.int .i64 k.r]:=rfl
 simp -implicitDefEqProofs (disch:=first|omega|simp only[go_sem]) only[go_sem,true_and,A4d,el,hcl,← hK]
 refine Xu (σ:=Nat) (by kernel_rfl) (fun i s=>s.df=[]∧s.rd=none∧s.h=K∧s.fr 0=some a∧s.fr 3=some (.pointer (some ⟨h.next,0,none⟩))∧s.fr 7=some (.int .i64 (l.length:Nat))∧s.fr 8=some (.int .i64 (i:Nat))∧i≤l.length∧k∉l.take i) (fun i=>l.length - i) 0 ?_ ?_
 ·simp -implicitDefEqProofs (disch:=first|omega|simp only[go_sem]) only[go_sem,true_and]
  exact ⟨by trivial,Nat.zero_le _,by simp⟩
 rintro i ⟨fr,df,hh,rd⟩ K' hK' hX ⟨rfl,rfl,rfl,f0,f3,f7,f8,hi,hni⟩
 simp only at f0 f3 f7 f8
 simp -implicitDefEqProofs (disch:=first|omega|simp only[go_sem]) only[go_sem,true_and,f7,f8]
 refine YX (fun hc1=>?_) (fun hc1=>?_)
 ·have hj:i<l.length:=by omega
  obtain ⟨id1,o1,e1,_,hat1⟩:=(hb.ext hE).idx (P:=Tryz.prog) (t:=24) C2a (k:=.i64) (i:=i) (x:=l[i]) (by simp)
  have l1:Zx hh id1 o1 2=some (Zq l[i]):=hat1.flat.2.1
  have hw:=ZV hj (by omega)
  simp -implicitDefEqProofs (disch:=first|omega|simp only[go_sem]) only[go_sem,true_and,f8]
  refine h6c rfl ?_
  simp -implicitDefEqProofs (disch:=first|omega|simp only[go_sem]) only[go_sem,true_and,r1c,D2c,f0,f3,lk,e1,l1,k1a]
  by_cases he:k=l[i]
  ·simp -implicitDefEqProofs (disch:=first|omega|simp only[go_sem]) only[go_sem,true_and,he,f8]
   refine hX _ _ (by simp) ?_
   simp -implicitDefEqProofs (disch:=first|omega|simp only[go_sem]) only[go_sem,true_and]
   exact ⟨_,rfl,_,rfl,⟨fun _=>by rw[he];exact List.getElem_mem hj,fun _=>by omega⟩,hE⟩
  ·simp -implicitDefEqProofs (disch:=first|omega|simp only[go_sem]) only[go_sem,true_and,he,f8,hw]
   refine hK' (i+1) _ ?_ (by omega)
   exact ⟨rfl,rfl,rfl,(vy f0),(vy f3),(vy f7),vz,by omega,T7a hj hni fun e=>he e.symm⟩
 obtain rfl:i=l.length:=by omega
 refine hX _ _ (by simp) ?_
 simp -implicitDefEqProofs (disch:=first|omega|simp only[go_sem]) only[go_sem,true_and]
 rw[List.take_length]at hni
 exact ⟨_,rfl,_,rfl,⟨fun h=>absurd h (by decide),fun h=>absurd h hni⟩,hE⟩
theorem r8b {h:DHeap} {a:Value} {l:List Key} {k:Key} (hb:Arg fKey.rep h a l) (hl:l.length≤4294967296) :
 DC Tryz.prog 135 [a,Zq k] h (.ret (.bool (decide (k∈l)))) h:=by
 refine Ct.pure (T5d (by simp) ?_) (n0a _)
 obtain ⟨K,hK⟩:∃ K,K=h.push (.row [.int .i32 k.t,.int .i64 k.r] 0 false):=⟨_,rfl⟩
 have hE:Ext h K:=by rw[hK];exact Ext.push1 _ _
 have gk:K.get h.next=some (.row [.int .i32 k.t,.int .i64 k.r] 0 false):=by rw[hK];exact Zz _ _
 have lk:Zx K h.next 0 2=some (Zq k):=by rw[Zw gk (Nat.le_of_ble_eq_true rfl)];rfl
 have hcl:(Zq k).cells.toList=[.int .i32 k.t,.int .i64 k.r]:=rfl
 simp -implicitDefEqProofs (disch:=first|omega|simp only[go_sem]) only[go_sem,true_and,u4d,hcl,← hK,lk]
 refine Yu (Y8b (hb.ext hE) hl) ?_
 rintro r h1 ⟨n,rfl,hn,hE1⟩
 simp -implicitDefEqProofs (disch:=first|omega|simp only[go_sem]) only[go_sem,true_and,Xj]
 exact ⟨_,rfl,congrArg (fun b=>DEnd.ret (Value.bool b)) (decide_eq_decide.2 hn),hE.trans hE1⟩
theorem V8b {h:DHeap} {a:Value} {l:List Key} {k:Key} (hb:Arg fKey.rep h a l) (hl:l.length≤4294967296) :
 DC Tryz.prog 105 [a,Zq k] h (.ret (.bool (decide (k∈l)))) h:=by
 refine Ct.pure (z5d (by simp) ?_) (n0a _)
 obtain ⟨K,hK⟩:∃ K,K=h.push (.row [.int .i32 k.t,.int .i64 k.r] 0 false):=⟨_,rfl⟩
 have hE:Ext h K:=by rw[hK];exact Ext.push1 _ _
 have gk:K.get h.next=some (.row [.int .i32 k.t,.int .i64 k.r] 0 false):=by rw[hK];exact Zz _ _
 have lk:Zx K h.next 0 2=some (Zq k):=by rw[Zw gk (Nat.le_of_ble_eq_true rfl)];rfl
 have hcl:(Zq k).cells.toList=[.int .i32 k.t,.int .i64 k.r]:=rfl
 simp -implicitDefEqProofs (disch:=first|omega|simp only[go_sem]) only[go_sem,true_and,c4d,hcl,← hK,lk]
 refine YV (r8b (hb.ext hE) hl) ?_
 simp -implicitDefEqProofs (disch:=first|omega|simp only[go_sem]) only[go_sem,true_and]
 exact ⟨_,rfl,rfl,hE⟩
theorem W8b {h:DHeap} {a:Value} {l:List Key} {k:Key} (hb:Arg fKey.rep h a l) (hl:l.length≤4294967296) :
 DC Tryz.prog 83 [a,Zq k] h (.ret (.bool (decide (k∈l)))) h:=by
 refine Ct.pure (G9d (by simp) ?_) (n0a _)
 have el:∀ K,dLen Tryz.prog #[24] a K=some (.int .i64 (l.length:Nat)):=hb.lens (P:=Tryz.prog) (ts:=#[24]) (t:=24) rfl D1a
 obtain ⟨K,hK⟩:∃ K,K=h.push (.row [.int .i32 k.t,.int .i64 k.r] 0 false):=⟨_,rfl⟩
 have hE:Ext h K:=by rw[hK];exact Ext.push1 _ _
 have gk:K.get h.next=some (.row [.int .i32 k.t,.int .i64 k.r] 0 false):=by rw[hK];exact Zz _ _
 have lk:Zx K h.next 0 2=some (Zq k):=by rw[Zw gk (Nat.le_of_ble_eq_true rfl)];rfl
 have hcl:(Zq k).cells.toList=[.int .i32 k.t,.int .i64 k.r]:=rfl
 simp -implicitDefEqProofs (disch:=first|omega|simp only[go_sem]) only[go_sem,true_and,c83,hcl,← hK]
 refine Xu (σ:=Nat) (by kernel_rfl) (fun i s=>s.df=[]∧s.rd=none∧s.h=K∧s.fr 0=some a∧s.fr 3=some (.pointer (some ⟨h.next,0,none⟩))∧s.fr 5=some (.int .i64 (i:Nat))∧i≤l.length∧k∉l.take i) (fun i=>l.length - i) 0 ?_ ?_
 ·simp -implicitDefEqProofs (disch:=first|omega|simp only[go_sem]) only[go_sem,true_and]
  exact ⟨by trivial,Nat.zero_le _,by simp⟩
 rintro i ⟨fr,df,hh,rd⟩ K' hK' hX ⟨rfl,rfl,rfl,f0,f3,f5,hi,hni⟩
 simp only at f0 f3 f5
 simp -implicitDefEqProofs (disch:=first|omega|simp only[go_sem]) only[go_sem,true_and,f0,f5,el]
 refine YX (fun hc1=>?_) (fun hc1=>?_)
 ·have hj:i<l.length:=by omega
  obtain ⟨id1,o1,e1,_,hat1⟩:=(hb.ext hE).idx (P:=Tryz.prog) (t:=24) C2a (k:=.i64) (i:=i) (x:=l[i]) (by simp)
  have l1:Zx hh id1 o1 2=some (Zq l[i]):=hat1.flat.2.1
  have hw:=ZV hj (by omega)
  simp -implicitDefEqProofs (disch:=first|omega|simp only[go_sem]) only[go_sem,true_and]
  refine m3d rfl ?_
  simp -implicitDefEqProofs (disch:=first|omega|simp only[go_sem]) only[go_sem,true_and,k7c,m9c,f0,f3,f5,lk,e1,l1,k1a]
  by_cases he:l[i]=k
  ·simp -implicitDefEqProofs (disch:=first|omega|simp only[go_sem]) only[go_sem,true_and,he]
   refine hX _ _ (by simp) ?_
   simp -implicitDefEqProofs (disch:=first|omega|simp only[go_sem]) only[go_sem,true_and]
   have hm:k∈l:=by rw[← he];exact List.getElem_mem hj
   exact ⟨_,rfl,by rw[decide_eq_true hm],hE⟩
  ·simp -implicitDefEqProofs (disch:=first|omega|simp only[go_sem]) only[go_sem,true_and,he,f5,hw]
   refine hK' (i+1) _ ?_ (by omega)
   exact ⟨rfl,rfl,rfl,(vy f0),(vy f3),vz,by omega,T7a hj hni he⟩
 obtain rfl:i=l.length:=by omega
 refine hX _ _ (by simp) ?_
 simp -implicitDefEqProofs (disch:=first|omega|simp only[go_sem]) only[go_sem,true_and]
 rw[List.take_length]at hni
 exact ⟨_,rfl,by rw[decide_eq_false hni],hE⟩
abbrev L1a (x:Pair):Value:=.agg #[.int .i32 x.k.t,.int .i64 x.k.r,.int .i64 x.v]
structure O9a (h:DHeap) (f:FuncId) (cap:Array Value) (l:List Pair) (pd:Pair→Bool):Prop where
 good:R0a Tryz.prog f=true
 says:∀ x∈l,∀ K,Ext h K→DC Tryz.prog f (L1a x :: cap.toList) K (.ret (.bool (pd x))) K
theorem C9a {h:DHeap} {a:Value} {l:List Pair} {f:FuncId} {cap:Array Value} {pd:Pair→Bool} (hb:Arg fPair.rep h a l) (hl:l.length≤4294967296) (ht:O9a h f cap l pd) :
 Ct Tryz.prog 133 [a,.func (.func f) #[] cap] h fun r h1=>Ext h h1∧((r=.ret (.int .i64 (-1))∧∀ x∈l,pd x=false)∨∃ i:Nat,∃ hi:i<l.length,r=.ret (.int .i64 (i:Nat))∧pd l[i]=true∧∀ x∈l.take i,pd x=false):=by
 refine R5d (by simp) ?_
 have el:∀ K,dLen Tryz.prog #[96] a K=some (.int .i64 (l.length:Nat)):=hb.lens (P:=Tryz.prog) (ts:=#[96]) (t:=96) rfl g6a
 simp -implicitDefEqProofs (disch:=first|omega|simp only[go_sem]) only[go_sem,true_and,s4d,el]
 refine Xu (σ:=Nat) (by kernel_rfl) (fun i s=>s.df=[]∧s.rd=none∧s.h=h∧s.fr 0=some a∧s.fr 1=some (.func (.func f) #[] cap)∧s.fr 7=some (.int .i64 (l.length:Nat))∧s.fr 8=some (.int .i64 (i:Nat))∧i≤l.length∧∀ x∈l.take i,pd x=false) (fun i=>l.length - i) 0 ?_ ?_
 ·simp -implicitDefEqProofs (disch:=first|omega|simp only[go_sem]) only[go_sem,true_and]
  exact ⟨by trivial,Nat.zero_le _,fun x hx=>by simp at hx⟩
 rintro i ⟨fr,df,hh,rd⟩ K' hK' hX ⟨rfl,rfl,rfl,f0,f1,f7,f8,hi,hni⟩
 simp only at f0 f1 f7 f8
 simp -implicitDefEqProofs (disch:=first|omega|simp only[go_sem]) only[go_sem,true_and,f7,f8]
 refine YX (fun hc1=>?_) (fun hc1=>?_)
 ·have hj:i<l.length:=by omega
  obtain ⟨id1,o1,e1,_,hat1⟩:=hb.idx (P:=Tryz.prog) (t:=96) D2a (k:=.i64) (i:=i) (x:=l[i]) (by simp)
  have l1:Zx hh id1 o1 3=some (L1a l[i]):=hat1.flat.2.1
  have hw:=ZV hj (by omega)
  have hca:M2a Tryz.prog hh (some (.func (.func f) #[] cap)) (some [L1a l[i]])=.ok (.enter f (L1a l[i] :: cap.toList)) hh:=G6a ht.good _ _ _
  simp -implicitDefEqProofs (disch:=first|omega|simp only[go_sem]) only[go_sem,true_and,f0,f1,f8,e1,l1,hca]
  refine YV (ht.says _ (List.getElem_mem hj) hh (.refl _)) ?_
  cases hq:pd l[i] with
  | true=>
    simp -implicitDefEqProofs (disch:=first|omega|simp only[go_sem]) only[go_sem,true_and]
    refine hX _ _ (by simp) ?_
    simp -implicitDefEqProofs (disch:=first|omega|simp only[go_sem]) only[go_sem,true_and]
    exact ⟨_,rfl,.refl _,.inr ⟨i,hj,rfl,hq,hni⟩⟩
  | false=>
    simp -implicitDefEqProofs (disch:=first|omega|simp only[go_sem]) only[go_sem,true_and,f8,hw]
    refine hK' (i+1) _ ?_ (by omega)
    refine ⟨rfl,rfl,rfl,(vy f0),(vy f1),(vy f7),vz,by omega,fun x hx=>?_⟩
    rw[List.take_succ_eq_append_getElem hj,List.mem_append,List.mem_singleton]at hx
    rcases hx with hx | rfl
    ·exact hni x hx
    ·exact hq
 obtain rfl:i=l.length:=by omega
 refine hX _ _ (by simp) ?_
 simp -implicitDefEqProofs (disch:=first|omega|simp only[go_sem]) only[go_sem,true_and]
 rw[List.take_length]at hni
 exact ⟨_,rfl,.refl _,.inl ⟨rfl,hni⟩⟩
theorem j9b {h:DHeap} {c:Nat} {w:Value} {reads:List Key} {x:Pair} (hc:Zu h c 4=some w) (hlt:c<h.next) (hb:Arg fKey.rep h w reads) (hl:reads.length≤4294967296) :
 DC Tryz.prog 104 [L1a x,.pointer (some ⟨c,0,none⟩)] h (.ret (.bool (!decide (x.k∈reads)))) h:=by
 refine Ct.pure (y5d (by simp) ?_) (n0a _)
 obtain ⟨K,hK⟩:∃ K,K=h.push (.row [.int .i32 x.k.t,.int .i64 x.k.r,.int .i64 x.v] 0 false):=⟨_,rfl⟩
 have hE:Ext h K:=by rw[hK];exact Ext.push1 _ _
 have gk:K.get h.next=some (.row [.int .i32 x.k.t,.int .i64 x.k.r,.int .i64 x.v] 0 false):=by rw[hK];exact Zz _ _
 have lk:Zx K h.next 0 2=some (Zq x.k):=by rw[Zw gk (Nat.le_of_ble_eq_true rfl)];rfl
 have hc2:Zu K c 4=some w:=by
  have:=hE.get c hlt
  simp only[Zu,this]at hc ⊢
  exact hc
 have hcl:(L1a x).cells.toList=[.int .i32 x.k.t,.int .i64 x.k.r,.int .i64 x.v]:=rfl
 simp -implicitDefEqProofs (disch:=first|omega|simp only[go_sem]) only[go_sem,true_and,b4d,hcl,← hK,hc2,lk]
 refine YV (V8b (hb.ext hE) hl) ?_
 simp -implicitDefEqProofs (disch:=first|omega|simp only[go_sem]) only[go_sem,true_and]
 exact ⟨_,rfl,rfl,hE⟩
theorem k9b {h:DHeap} {c:Nat} {w:Value} {reads:List Key} {l:List Pair} (hc:Zu h c 4=some w) (hlt:c<h.next) (hb:Arg fKey.rep h w reads) (hl:reads.length≤4294967296) :
 O9a h 104 #[.pointer (some ⟨c,0,none⟩)] l fun x=>!decide (x.k∈reads) where
 good:=by kernel_rfl
 says x _ K e:=j9b (by
  have:=e.get c hlt
  simp only[Zu,this]at hc ⊢
  exact hc) (Nat.lt_of_lt_of_le hlt e.next) (hb.ext e) hl
theorem J2b {l:List Pair} {ks:List Key} (hu:UpK ks) (hm:∀ k,k∈ks↔k∈l.map (·.k)):ks.map (F1a l)=byK Pair.k l:=by
 have e:ks=E4a (l.map (·.k)):=M3b hu (d0b _) fun k=>(hm k).trans mem_keysN.symm
 have key:∀ ms:List Key,(∀ k∈ms,k∈l.map (·.k))→ms.map (F1a l)=ms.filterMap (Yk Pair.k l):=by
  intro ms
  induction ms with
  | nil=>intro _;rfl
  | cons a ms ih=>
    intro h
    obtain ⟨x,hx⟩:=u6a (key:=Pair.k) (h a (by simp))
    rw[List.map_cons,ih fun k hk=>h k (by simp[hk]),List.filterMap_cons,hx]
    have:F1a l a=x:=by
     unfold F1a H5a
     unfold Yk at hx
     rw[hx]
     rfl
    rw[this]
 rw[key ks fun k hk=>(hm k).1 hk,e]
 rfl
theorem L5c {h:DHeap} {v:Value} {l:List Pair} (hb:Arg fPair.rep h v l) (hl:l.length≤1048576):DC Tryz.prog 103 [v] h (.ret (lv h (byK Pair.k l))) (lh fPair h (byK Pair.k l)):=
 Ct.made ((P1d hb hl).mono fun r h1 ⟨w,ks,e,hu,hm,h0,mm⟩=>by
  rw[J2b hu hm]at mm
  refine ⟨w,e,mm,fun hk=>h0 ?_⟩
  rw[← J2b hu hm]at hk
  simpa using hk)
theorem O5c {K:DHeap} {id i:Nat} {A:List Pair} (r:RowIs fPair K id A) (hi:i<A.length):Zx K id (i*3) 3=some (L1a A[i]):=by
 have hm:(i+1)*3≤A.length*3:=Nat.mul_le_mul_right _ hi
 have h1:A.flatMap fPair.enc=(A.take i).flatMap fPair.enc++(fPair.enc A[i]++(A.drop (i+1)).flatMap fPair.enc):=by
  conv=>lhs;rw[← List.take_append_drop i A,List.drop_eq_getElem_cons hi]
  rw[List.flatMap_append,List.flatMap_cons]
 have h2:i*3=((A.take i).flatMap fPair.enc).length:=by rw[Yx];simp[Nat.min_eq_left (Nat.le_of_lt hi)];rfl
 rw[Zw r (by rw[Yx];show _≤A.length*3;omega),h1,h2,List.drop_left]
 rfl
theorem r8a {h h0:DHeap} {v:Value} {l:List Pair} {f:FuncId} {cap:Array Value} {pd:Pair→Bool} (hb:Arg fPair.rep h v l) (hl:l.length≤1048576) (hE:Ext h0 h) (ht:O9a h0 f cap l pd) (hn:∀ x∈l,pd x=false) :
 Ct Tryz.prog 102 [v,.func (.func f) #[] cap] h fun r h1=>r=.ret v∧Ext h h1:=by
 refine x1c (by simp) ?_
 have ht':O9a h f cap l pd:=⟨ht.good,fun x hx K e=>ht.says x hx K (hE.trans e)⟩
 simp -implicitDefEqProofs (disch:=first|omega|simp only[go_sem]) only[go_sem,true_and,Q3c]
 refine Yu (C9a hb (by omega) ht') ?_
 rintro r h1 ⟨e1,hr⟩
 rcases hr with ⟨rfl,_⟩ | ⟨i,hi,_,hp,_⟩
 ·simp -implicitDefEqProofs (disch:=first|omega|simp only[go_sem]) only[go_sem,true_and,Xj]
  exact ⟨_,rfl,rfl,e1⟩
 ·rw[hn _ (List.getElem_mem hi)]at hp
  cases hp
structure DelI (l:List Pair) (pd:Pair→Bool) (j k:Nat) (A:List Pair):Prop where
 len:A.length=l.length
 le:j≤l.length
 kk:k=((l.take j).filter fun x=>!pd x).length
 hd:A.take k=(l.take j).filter fun x=>!pd x
 lt:k<j
 tl:∀ p,k<p→j≤p→A[p]? = l[p]?
theorem DelI.first {l:List Pair} {pd:Pair→Bool} {i:Nat} (hi:i<l.length) (hp:pd l[i]=true) (hn:∀ x∈l.take i,pd x=false):DelI l pd (i+1) i l:=by
 have e:(l.take (i+1)).filter (fun x=>!pd x)=l.take i:=by
  rw[List.take_succ_eq_append_getElem hi,List.filter_append,List.filter_cons_of_neg (by simp[hp]),List.filter_nil,List.append_nil]
  exact List.filter_eq_self.2 fun x hx=>by simp[hn x hx]
 refine ⟨rfl,hi,?_,?_,Nat.lt_succ_self _,fun _ _ _=>rfl⟩
 ·rw[e,List.length_take];omega
 ·rw[e]
theorem DelI.at {l A:List Pair} {pd:Pair→Bool} {j k:Nat} (x:DelI l pd j k A) (h:j<l.length):∃ h1:j<A.length,A[j]=l[j]:=by
 have e:=x.len
 refine ⟨by omega,?_⟩
 have h1:=x.tl j x.lt (Nat.le_refl _)
 rw[List.getElem?_eq_getElem (by omega),List.getElem?_eq_getElem h]at h1
 exact Option.some.inj h1
theorem DelI.skip {l A:List Pair} {pd:Pair→Bool} {j k:Nat} (x:DelI l pd j k A) (h:j<l.length) (hp:pd l[j]=true):DelI l pd (j+1) k A:=by
 have e:(l.take (j+1)).filter (fun x=>!pd x)=(l.take j).filter fun x=>!pd x:=by
  rw[List.take_succ_eq_append_getElem h,List.filter_append,List.filter_cons_of_neg (by simp[hp]),List.filter_nil,List.append_nil]
 exact ⟨x.len,h,by rw[e];exact x.kk,by rw[e];exact x.hd,Nat.lt_succ_of_lt x.lt,fun p h1 h2=>x.tl p h1 (by omega)⟩
theorem DelI.keep {l A:List Pair} {pd:Pair→Bool} {j k:Nat} (x:DelI l pd j k A) (h:j<l.length) (hp:pd l[j]=false):DelI l pd (j+1) (k+1) (A.set k l[j]):=by
 have e:(l.take (j+1)).filter (fun x=>!pd x)=((l.take j).filter fun x=>!pd x)++[l[j]]:=by
  rw[List.take_succ_eq_append_getElem h,List.filter_append,List.filter_cons_of_pos (by simp[hp]),List.filter_nil]
 have hlt:=x.lt
 have hlen:=x.len
 refine ⟨by rw[List.length_set];exact x.len,h,by rw[e,List.length_append,← x.kk];rfl,?_,by omega,fun p h1 h2=>?_⟩
 ·rw[e,← x.hd,List.take_set,List.take_succ_eq_append_getElem (by omega),List.set_append_right _ _ (by simp;omega)]
  congr 1
  have:k - (List.take k A).length=0:=by simp;omega
  rw[this]
  rfl
 ·rw[List.getElem?_set_ne (by omega)]
  exact x.tl p (by omega) (by omega)
theorem p0d:y0b Tryz.prog 96=some (3,.agg #[.int .i32 0,.int .i64 0,.int .i64 0]):=by kernel_rfl
set_option maxHeartbeats 1000000 in
theorem Q4b {h h0:DHeap} {id c:Nat} {l:List Pair} {f:FuncId} {cap:Array Value} {pd:Pair→Bool} (hr:RowIs fPair h id l) (hok:∀ x∈l,fPair.ok x) (hl:l.length≤1048576) (hid:h0.next≤id) (hidl:id<h.next) (hE:Ext h0 h) (ht:O9a h0 f cap l pd) :
 Ct Tryz.prog 102 [.slice (some ⟨id,0,none⟩) l.length c,.func (.func f) #[] cap] h fun r h1=>∃ w,r=.ret w∧Made fPair h0 h1 w (l.filter fun x=>!pd x):=by
 obtain ⟨v,hv⟩:∃ v,Value.slice (some ⟨id,0,none⟩) l.length c=v:=⟨_,rfl⟩
 have hb:Arg fPair.rep h v l:=by
  have:=hr.sl (o:=0) (n:=l.length) (c:=c) (by omega) hok
  simp only[Nat.zero_mul,List.drop_zero,List.take_length]at this
  rw[hv]at this
  exact this.mono fun i hi=>⟨by rw[hi];exact hidl,rfl⟩
 have mk:∀ (K:DHeap) (k c2:Nat) (cs:List Value),Ext h0 K→id<K.next→K.get id=some (.row cs 3 false)→k=(l.filter fun x=>!pd x).length→k*3≤cs.length→cs.take (k*3)=(l.filter fun x=>!pd x).flatMap fPair.enc→Made fPair h0 K (.slice (some ⟨id,0,none⟩) k c2) (l.filter fun x=>!pd x):=fun K k c2 cs e hlt g hk hle ht=>by
  subst hk
  exact ⟨e,some id,.inr (.inr ⟨id,c2,cs,rfl,rfl,hlt,g,hle,Els.flat.2 ⟨ht,fun x hx=>hok x ((List.mem_filter.1 hx).1)⟩⟩),fun i hi=>by cases hi;exact hid⟩
 rw[hv]
 by_cases hn:∀ x∈l,pd x=false
 ·have hf:l.filter (fun x=>!pd x)=l:=List.filter_eq_self.2 fun x hx=>by simp[hn x hx]
  refine (r8a hb hl hE ht hn).mono fun r h1 ⟨e,e1⟩=>⟨v,e,?_⟩
  have:=mk h1 l.length c (l.flatMap fPair.enc) (hE.trans e1) (Nat.lt_of_lt_of_le hidl e1.next) ((e1.get _ hidl).trans hr) (by rw[hf]) (by rw[Yx];exact Nat.le_refl _) (by rw[hf,List.take_of_length_le (by rw[Yx];exact Nat.le_refl _)])
  rw[hv]at this
  exact this
 refine x1c (by simp) ?_
 have el:∀ K,dLen Tryz.prog #[96] v K=some (.int .i64 (l.length:Nat)):=fun K=>by rw[← hv];rfl
 have ht':O9a h f cap l pd:=⟨ht.good,fun x hx K e=>ht.says x hx K (hE.trans e)⟩
 have ia:∀ i:Nat,i<l.length→Yj Tryz.prog 96 v (.int .i64 (i:Nat))=some (.pointer (some ⟨id,i*3,none⟩)):=fun i hi=>by
  rw[← hv]
  refine (R3a D2a (by omega) (by omega)).trans ?_
  rw[Nat.zero_add,Int.toNat_natCast]
 have slo:∀ K (A:List Pair) (k:Nat),RowIs fPair K id A→k≤l.length→∃ c',XZ Tryz.prog 96 v (some (.int .i64 (k:Nat))) none none K=some (.slice (some ⟨id,k*3,none⟩) (l.length - k) c'):=fun K A k r hk=>by
  rw[← hv]
  have:=D5a (c:=c) (o:=0) (n:=l.length) D2a (by decide) r (lo:=some (.int .i64 (k:Nat))) (hi:=none) (j:=l.length) (i:=k) rfl (B0a (k:=.i64) hk)
  rw[Nat.zero_add]at this
  exact ⟨_,this⟩
 have shi:∀ K cs (k:Nat),K.get id=some (.row cs 3 false)→k≤l.length→∃ c',XZ Tryz.prog 96 v none (some (.int .i64 (k:Nat))) none K=some (.slice (some ⟨id,0,none⟩) k c'):=fun K cs k r hk=>by
  rw[← hv]
  exact ⟨_,(D5a D2a (by decide) r (j:=k) (i:=0) (B0a (k:=.i64) hk) rfl)⟩
 simp -implicitDefEqProofs (disch:=first|omega|simp only[go_sem]) only[go_sem,true_and,Q3c]
 refine Yu (C9a hb (by omega) ht') ?_
 rintro r h1 ⟨e1,hr1⟩
 rcases hr1 with ⟨_,hn1⟩ | ⟨i0,hi0,rfl,hp0,hn0⟩
 ·exact absurd hn1 hn
 have hne:(((i0:Nat):Int)=-1)=False:=eq_false (by omega)
 have hw0:=ZV hi0 (by omega)
 simp -implicitDefEqProofs (disch:=first|omega|simp only[go_sem]) only[go_sem,true_and,Xj,hne,hw0]
 have hr1:RowIs fPair h1 id l:=(e1.get _ hidl).trans hr
 refine Xu (σ:=Nat) (by kernel_rfl) (fun j s=>s.df=[]∧s.rd=none∧s.fr 0=some v∧s.fr 1=some (.func (.func f) #[] cap)∧s.fr 6=some (.int .i64 (j:Nat))∧Ext h0 s.h∧id<s.h.next∧∃ k A,s.fr 5=some (.int .i64 (k:Nat))∧RowIs fPair s.h id A∧DelI l pd j k A) (fun j=>l.length - j) (i0+1) ?_ ?_
 ·simp -implicitDefEqProofs (disch:=first|omega|simp only[go_sem]) only[go_sem,true_and]
  exact ⟨hE.trans e1,Nat.lt_of_lt_of_le hidl e1.next,i0,l,rfl,hr1,.first hi0 hp0 hn0⟩
 rintro j ⟨fr,df,K,rd⟩ K' hK' hX ⟨rfl,rfl,f0,f1,f6,hEK,hKl,k,A,f5,hrA,x⟩
 simp only at f0 f1 f6 hEK hKl f5 hrA
 have xlt:=x.lt
 have xlen:=x.len
 have xle:=x.le
 simp -implicitDefEqProofs (disch:=first|omega|simp only[go_sem]) only[go_sem,true_and,f0,f6,el]
 refine YX (fun hc1=>?_) (fun hc1=>?_)
 ·have hj:j<l.length:=by omega
  obtain ⟨hA1,eA1⟩:=x.at hj
  have k1:=O5c hrA hA1
  rw[eA1]at k1
  have hw:=ZV hj (by omega)
  obtain ⟨K1,hK1⟩:∃ H,H=K.push (.row [.int .i32 l[j].k.t,.int .i64 l[j].k.r,.int .i64 l[j].v] 0 false):=⟨_,rfl⟩
  have g1:K1.get K.next=some (.row [.int .i32 l[j].k.t,.int .i64 l[j].k.r,.int .i64 l[j].v] 0 false):=by rw[hK1];exact Zz _ _
  have lk:Zx K1 K.next 0 3=some (L1a l[j]):=by rw[Zw g1 (Nat.le_of_ble_eq_true rfl)];rfl
  have hE1:Ext K K1:=by rw[hK1];exact Ext.push1 _ _
  have hK1n:K1.next=K.next+1:=by rw[hK1];rfl
  have hst:Yw Tryz.prog 118 (.pointer (some ⟨K.next,0,none⟩)) (.agg #[.int .i32 l[j].k.t,.int .i64 l[j].k.r,.int .i64 l[j].v]) (K.push (.row [.int .i32 0,.int .i64 0,.int .i64 0] 0 false))=some K1:=by
   rw[hK1]
   exact (p1b rfl).trans (a0a rfl rfl)
  have hca:M2a Tryz.prog K1 (some (.func (.func f) #[] cap)) (some [L1a l[j]])=.ok (.enter f (L1a l[j] :: cap.toList)) K1:=G6a ht.good _ _ _
  have hr2:RowIs fPair K1 id A:=(hE1.get _ hKl).trans hrA
  simp -implicitDefEqProofs (disch:=first|omega|simp only[go_sem]) only[go_sem,true_and,f0,f1,f6,ia j hj,k1,hst,lk,hca]
  refine YV (ht.says _ (List.getElem_mem hj) K1 (hEK.trans hE1)) ?_
  cases hq:pd l[j] with
  | true=>
    simp -implicitDefEqProofs (disch:=first|omega|simp only[go_sem]) only[go_sem,true_and,f6,hw]
    refine hK' (j+1) _ ?_ (by omega)
    exact ⟨by trivial,by trivial,(vy f0),(vy f1),vz,hEK.trans hE1,show id<K1.next by omega,k,A,(vy f5),hr2,x.skip hj hq⟩
  | false=>
    have hw3:=ZV (i:=k) (show k<l.length by omega) (by omega)
    have hst2:storeAt K1 id (k*3) [.int .i32 l[j].k.t,.int .i64 l[j].k.r,.int .i64 l[j].v]=some (K1.set id (.row ((A.set k l[j]).flatMap fPair.enc) 3 false)):=hr2.store (show k<A.length by omega) l[j]
    simp -implicitDefEqProofs (disch:=first|omega|simp only[go_sem]) only[go_sem,true_and,f0,f5,f6,lk,ia k (show k<l.length by omega),hst2,hw,hw3]
    refine hK' (j+1) _ ?_ (by omega)
    exact ⟨by trivial,by trivial,(vy f0),(vy f1),vz,(hEK.trans hE1).set hid,show id<K1.next by omega,k+1,A.set k l[j],vz,RowIs.set rfl,x.keep hj hq⟩
 ·have hjl:j=l.length:=by omega
  have xk:=x.kk
  have xhd:=x.hd
  rw[hjl,List.take_length]at xk xhd
  obtain ⟨c3,hs3⟩:=slo _ A k hrA (by omega)
  obtain ⟨zs,hzs,hcl⟩:=D0b (esz:=3) (n:=l.length - k) (c:=c3) (o:=k*3) p0d rfl hrA (by rw[Yx];show _≤A.length*3;omega)
  obtain ⟨c4,hs4⟩:=shi (K.set id (.row (Xy (A.flatMap fPair.enc) (k*3) zs) 3 false)) _ k (ZX _ _) (by omega)
  refine hX _ _ (by simp) ?_
  simp -implicitDefEqProofs (disch:=first|omega|simp only[go_sem]) only[go_sem,true_and,f0,f5,hs3,hcl,hs4]
  refine ⟨_,rfl,_,rfl,mk _ k c4 _ (hEK.set hid) hKl (ZX _ _) xk ?_ ?_⟩
  ·rw[l3a,Yx];show k*3≤A.length*3;omega
  ·have hAk:A.flatMap fPair.enc=(A.take k).flatMap fPair.enc++(A.drop k).flatMap fPair.enc:=by rw[← List.flatMap_append,List.take_append_drop]
   have hlk:k*3=((A.take k).flatMap fPair.enc).length:=by rw[Yx];simp[Nat.min_eq_left (show k≤A.length by omega)];rfl
   rw[← xhd]
   refine List.ext_getElem? fun i=>?_
   rw[List.getElem?_take]
   split
   ·rename_i hi
    rw[n4a,if_neg (by omega),hAk,List.getElem?_append_left (by omega)]
   ·rw[List.getElem?_eq_none (by omega)]
end Go.Proofs.YtheamfnbfgiaeaaGreat
