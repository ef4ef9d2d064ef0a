/-
A part of the proof of a law: contracts of functions over plain heaps, and what they lean on. Conditions: none.
-/
import Derived.Test.YtheamfnbfgiaeaaGreatBase1
import Derived.Test.YtheamfnbfgiaeaaGreatBase2
import Derived.Test.YtheamfnbfgiaeaaGreatSerialStepsParts1
import Derived.Test.YtheamfnbfgiaeaaGreatSerialStepsParts2
set_option linter.unusedSimpArgs false
set_option linter.unusedVariables false
set_option linter.defProp false
namespace Go.Proofs.YtheamfnbfgiaeaaGreat
open Go.D
set_option maxRecDepth 100000
def PinV (L:List Value) (K0:DHeap) (a b:List Pair) (k:Nat) (h:DHeap) (v:Value):Prop:=
 ((k≠4∧k≠9∧k≠10∧k≠11)→v=L.getD k undef)∧(k=4→Made fPair K0 h v a)∧(k=9→Arg fPair.rep h v b)∧(k=10∨k=11→Made fPair K0 h v (a++b))
theorem PinV.stab {L:List Value} {K0 h h':DHeap} {a b:List Pair} {k:Nat} {v:Value} (e:Ext h h') (x:PinV L K0 a b k h v):PinV L K0 a b k h' v:=
 ⟨x.1,fun hk=>(x.2.1 hk).on e,fun hk=>(x.2.2.1 hk).ext e,fun hk=>(x.2.2.2 hk).on e⟩
def G7b:Nat→Option Nat
 | 4=>some 10
 | 9=>some 10
 | _=>none
theorem u2c {L:List Value} {K0 h h':DHeap} {a b:List Pair} {B:List Nat} {k:Nat} {v:Value} (b1:(B.getD 11 0).testBit 10=true) (h1:k≠10) (h2:(B.getD k 0).testBit 10=false) (h3:∀ c,G7b k=some c→c≠10∧(B.getD 10 0).testBit c=false) (x:PinV L K0 a b k h v):PinV L K0 a b k h' v:=by
 have n4:k≠4:=fun e=>by subst e;exact (h3 10 rfl).1 rfl
 have n9:k≠9:=fun e=>by subst e;exact (h3 10 rfl).1 rfl
 have n11:¬ (k=10∨k=11):=fun e=>by
  rcases e with rfl | rfl
  ·exact h1 rfl
  ·rw[b1]at h2;cases h2
 exact ⟨x.1,fun e=>absurd e n4,fun e=>absurd e n9,fun e=>absurd e n11⟩
theorem S4a {S:Nat→Prop} {h:DHeap} {id o:Nat} {x:Pair} (a:At fPair.rep S h id o x):Zx h id o 2=some (Zq x.k):=by
 obtain ⟨cells,esz,ro,g,b,e,_⟩:=a
 have hb:o+3≤cells.length:=b
 rw[Zw g (by omega)]
 have e':(cells.drop o).take 3=[.int .i32 x.k.t,.int .i64 x.k.r,.int .i64 x.v]:=e
 have:(cells.drop o).take 2=[.int .i32 x.k.t,.int .i64 x.k.r]:=by
  have:=congrArg (List.take 2) e'
  rwa [List.take_take]at this
 rw[this]
set_option maxHeartbeats 1000000 in
theorem E6b {K0:DHeap} {v rv:Value} {l r:List Pair} {i j:Nat} {fr:Fr} {rd:Option Nat} (hv:Arg fPair.rep K0 v l) (hr:Arg fPair.rep K0 rv r) (hi:i<l.length) (hj:j≤r.length) (hlr:r.length≤4000000000)
 (f0:fr 0=some v) (f3:fr 3=some rv) (f4:fr 4=some (.int .i64 (i:Nat))) (f5:fr 5=some (.int .i64 (j:Nat))) (f6:fr 6=some (.slice none 0 0)) :
 NC Tryz.prog 69 n1e (WZ (fun s=>s.df=[]∧s.rd=rd∧(∃ w,s.fr 6=some w∧Made fPair K0 s.h w (r.take j++[l[i]]))∧s.fr 0=fr 0∧s.fr 3=fr 3∧s.fr 4=fr 4∧s.fr 5=fr 5) (fun _ _=>False)) ⟨fr,[],K0,rd⟩:=by
 obtain ⟨u3,a1,a2⟩:=hr.slice (P:=Tryz.prog) (t:=96) D2a (by decide) (lo:=none) (hi:=some (.int .i64 (j:Nat))) (i:=0) (j:=j) (B0a (k:=.i64) hj) rfl (Nat.zero_le _) hj
 rw[List.drop_zero]at a2
 have sl3:∀ K,Ext K0 K→XZ Tryz.prog 96 rv none (some (.int .i64 (j:Nat))) none K=some u3:=fun K e=>(q3a hr e).trans a1
 have sl3':∀ K,Ext K0 K→Arg fPair.rep K u3 (r.take j):=fun K e=>a2.ext e
 obtain ⟨id,o,hia,hid,hat⟩:=hv.idx (P:=Tryz.prog) (t:=96) D2a (k:=.i64) (i:=i) (x:=l[i]) (by simp)
 have hc0:Zx K0 id o 3=some (L1a l[i]):=hat.flat.2.1
 have hcl:∀ K,Ext K0 K→Zx K id o 3=some (L1a l[i]):=fun K e=>by
  have:=e.get id hid
  unfold Zx at hc0 ⊢
  rw[this]
  exact hc0
 have V0:∀ (k:Nat),(k≠4∧k≠9∧k≠10∧k≠11)→∀ h,PinV [.slice none 0 0,rv,.int .i64 (j:Nat),u3,undef,v,.int .i64 (i:Nat),.pointer (some ⟨id,o,none⟩),L1a l[i],undef,undef,undef] K0 (r.take j) [l[i]] k h (([.slice none 0 0,rv,.int .i64 (j:Nat),u3,undef,v,.int .i64 (i:Nat),.pointer (some ⟨id,o,none⟩),L1a l[i],undef,undef,undef]:List Value).getD k undef):=fun k hk h=>
  ⟨fun _=>rfl,fun e=>absurd e hk.1,fun e=>absurd e hk.2.1,fun e=>by rcases e with e | e;exact absurd e hk.2.2.1;exact absurd e hk.2.2.2⟩
 refine NC.regsC (l:=v3a) (by kernel_rfl) (by kernel_rfl) (by kernel_rfl) rfl (by kernel_rfl) (by kernel_rfl) (fun a b=>Ext K0 a→Ext K0 b) (fun _ h=>h) (fun _ _ _ f g h=>g (f h)) (PinV [.slice none 0 0,rv,.int .i64 (j:Nat),u3,undef,v,.int .i64 (i:Nat),.pointer (some ⟨id,o,none⟩),L1a l[i],undef,undef,undef] K0 (r.take j) [l[i]]) G7b ?_ ?_
 case refine_2=>
  rintro ⟨fr1,df1,K,rd1⟩ g hF
  obtain ⟨w,e1,e2⟩:=(hF 11 (by decide) rfl).ex (d:=6) rfl
  exact ⟨g.df,g.rd,⟨w,e1,e2.2.2.2 (.inr rfl)⟩,g.fr 0 (by kernel_rfl),g.fr 3 (by kernel_rfl),g.fr 4 (by kernel_rfl),g.fr 5 (by kernel_rfl)⟩
 intro k oo s ho g hpre hown hF
 have gx:Ext K0 s.h:=g.ext (.refl _)
 have F0:s.fr 0=some v:=(g.fr 0 (by kernel_rfl)).trans f0
 have F3:s.fr 3=some rv:=(g.fr 3 (by kernel_rfl)).trans f3
 have F4:s.fr 4=some (.int .i64 (i:Nat)):=(g.fr 4 (by kernel_rfl)).trans f4
 have F5:s.fr 5=some (.int .i64 (j:Nat)):=(g.fr 5 (by kernel_rfl)).trans f5
 have hk':k<12:=(List.getElem?_eq_some_iff.1 ho).1
 match k,hk' with
 | 0,_=>
   simp only[v3a,List.getElem?_cons_zero,List.getElem?_cons_succ,Option.some.injEq]at ho
   subst ho
   have F6:s.fr 6=some (.slice none 0 0):=(hpre 11 6 (by kernel_rfl) (by kernel_rfl)).trans f6
   exact i0a (v:=.slice none 0 0) (fun _ e=>e) vz (vy F6) (V0 0 (by decide) _)
 | 1,_=>
   simp only[v3a,List.getElem?_cons_zero,List.getElem?_cons_succ,Option.some.injEq]at ho
   subst ho
   exact i0a (v:=rv) (fun _ e=>e) vz (vy F3) (V0 1 (by decide) _)
 | 2,_=>
   simp only[v3a,List.getElem?_cons_zero,List.getElem?_cons_succ,Option.some.injEq]at ho
   subst ho
   exact i0a (v:=.int .i64 (j:Nat)) (fun _ e=>e) vz (vy F5) (V0 2 (by decide) _)
 | 3,_=>
   simp only[v3a,List.getElem?_cons_zero,List.getElem?_cons_succ,Option.some.injEq]at ho
   subst ho
   have q1:s.fr 34=some (rv):=(hF 1 (by kernel_rfl) (.inl rfl)).eq rfl fun _ _ e=>e.1 (by decide)
   have q2:s.fr 35=some (.int .i64 (j:Nat)):=(hF 2 (by kernel_rfl) (.inl rfl)).eq rfl fun _ _ e=>e.1 (by decide)
   exact i0a (v:=u3) (fun _ e=>e) vz (by simp -implicitDefEqProofs (disch:=first|omega|simp only[go_sem]) only[go_sem,true_and,q1,q2,sl3 s.h gx]) (V0 3 (by decide) _)
 | 4,_=>
   simp only[v3a,List.getElem?_cons_zero,List.getElem?_cons_succ,Option.some.injEq]at ho
   subst ho
   have q0:s.fr 33=some (.slice none 0 0):=(hF 0 (by kernel_rfl) (.inl rfl)).eq rfl fun _ _ e=>e.1 (by decide)
   have q3:s.fr 36=some (u3):=(hF 3 (by kernel_rfl) (.inl rfl)).eq rfl fun _ _ e=>e.1 (by decide)
   obtain ⟨w,h2,e2,m2,_⟩:=(Made.nil fPair (Ext.refl s.h)).append U5a (x:=u3) ((sl3' s.h gx)) (by simp;omega) (by decide)
   refine k3a (h':=h2) (v:=w) vz (by simp -implicitDefEqProofs (disch:=first|omega|simp only[go_sem]) only[go_sem,true_and,q0,q3,e2]) (fun e=>e.trans m2.ext) ⟨fun h=>absurd rfl h.1,fun _=>by simpa using m2.base gx,fun h=>absurd h (by decide),fun h=>absurd h (by decide)⟩ (fun j u _ _ _ hV=>hV.stab m2.ext)
 | 5,_=>
   simp only[v3a,List.getElem?_cons_zero,List.getElem?_cons_succ,Option.some.injEq]at ho
   subst ho
   exact i0a (v:=v) (fun _ e=>e) vz (vy F0) (V0 5 (by decide) _)
 | 6,_=>
   simp only[v3a,List.getElem?_cons_zero,List.getElem?_cons_succ,Option.some.injEq]at ho
   subst ho
   exact i0a (v:=.int .i64 (i:Nat)) (fun _ e=>e) vz (vy F4) (V0 6 (by decide) _)
 | 7,_=>
   simp only[v3a,List.getElem?_cons_zero,List.getElem?_cons_succ,Option.some.injEq]at ho
   subst ho
   have q5:s.fr 38=some (v):=(hF 5 (by kernel_rfl) (.inl rfl)).eq rfl fun _ _ e=>e.1 (by decide)
   have q6:s.fr 39=some (.int .i64 (i:Nat)):=(hF 6 (by kernel_rfl) (.inl rfl)).eq rfl fun _ _ e=>e.1 (by decide)
   exact i0a (v:=.pointer (some ⟨id,o,none⟩)) (fun _ e=>e) vz (by simp -implicitDefEqProofs (disch:=first|omega|simp only[go_sem]) only[go_sem,true_and,q5,q6,hia]) (V0 7 (by decide) _)
 | 8,_=>
   simp only[v3a,List.getElem?_cons_zero,List.getElem?_cons_succ,Option.some.injEq]at ho
   subst ho
   have q7:s.fr 40=some (.pointer (some ⟨id,o,none⟩)):=(hF 7 (by kernel_rfl) (.inl rfl)).eq rfl fun _ _ e=>e.1 (by decide)
   have hc:=hcl s.h gx
   exact i0a (v:=L1a l[i]) (fun _ e=>e) vz (by simp -implicitDefEqProofs (disch:=first|omega|simp only[go_sem]) only[go_sem,true_and,q7,hc]) (V0 8 (by decide) _)
 | 9,_=>
   simp only[v3a,List.getElem?_cons_zero,List.getElem?_cons_succ,Option.some.injEq]at ho
   subst ho
   have q8:s.fr 41=some (L1a l[i]):=(hF 8 (by kernel_rfl) (.inl rfl)).eq rfl fun _ _ e=>e.1 (by decide)
   have m2:=built fPair s.h (cs:=[.int .i32 l[i].k.t,.int .i64 l[i].k.r,.int .i64 l[i].v]) (zz:=3) (l:=[l[i]]) (n:=1) (m:=1) (by simp;rfl) rfl rfl (by simpa using hv.ok _ (List.getElem_mem hi))
   refine k3a (h':=s.h.push (.row [.int .i32 l[i].k.t,.int .i64 l[i].k.r,.int .i64 l[i].v] 3 false)) (v:=.slice (some ⟨s.h.next,0,none⟩) 1 1) vz (vy q8) (fun e=>e.push _) ⟨fun h=>absurd rfl h.2.1,fun h=>absurd h (by decide),fun _=>m2,fun h=>absurd h (by decide)⟩ (fun j u _ _ _ hV=>hV.stab (Ext.push1 _ _))
 | 10,_=>
   simp only[v3a,List.getElem?_cons_zero,List.getElem?_cons_succ,Option.some.injEq]at ho
   subst ho
   obtain ⟨w4,q4,v4⟩:=(hF 4 (by kernel_rfl) (.inr rfl)).ex (d:=37) rfl
   obtain ⟨w9,q9,v9⟩:=(hF 9 (by kernel_rfl) (.inr rfl)).ex (d:=42) rfl
   obtain ⟨w,h2,e2,m2,_⟩:=(v4.2.1 rfl).append U5a (v9.2.2.1 rfl) (by simp;omega) (by decide)
   refine k3a (h':=h2) (v:=w) vz (by simp -implicitDefEqProofs (disch:=first|omega|simp only[go_sem]) only[go_sem,true_and,q4,q9,e2]) (fun _=>m2.ext) ⟨fun h=>absurd rfl h.2.2.1,fun h=>absurd h (by decide),fun h=>absurd h (by decide),fun _=>m2⟩ (fun j u h1 h2 h3 hV=>u2c (by kernel_rfl) h1 h2 h3 hV)
 | 11,_=>
   simp only[v3a,List.getElem?_cons_zero,List.getElem?_cons_succ,Option.some.injEq]at ho
   subst ho
   obtain ⟨w10,q10,v10⟩:=(hF 10 (by kernel_rfl) (.inl rfl)).ex (d:=43) rfl
   exact i0a (v:=w10) (fun _ e=>e) vz (vy q10) ⟨fun h=>absurd rfl h.2.2.2,fun h=>absurd h (by decide),fun h=>absurd h (by decide),fun _=>v10.2.2.2 (.inl rfl)⟩
set_option maxHeartbeats 1000000 in
theorem x9b {h:DHeap} {v:Value} {l:List Pair} (hb:Arg fPair.rep h v l) (hl:l.length≤4194304) :
 Ct Tryz.prog 82 [v] h fun r h1=>∃ w,r=.ret w∧Made fPair h h1 w (byK Pair.k l):=by
 refine F9d (by simp) ?_
 have el:∀ K,dLen Tryz.prog #[96] v K=some (.int .i64 (l.length:Nat)):=hb.lens (P:=Tryz.prog) (ts:=#[96]) (t:=96) rfl g6a
 simp -implicitDefEqProofs (disch:=first|omega|simp only[go_sem]) only[go_sem,true_and,c82]
 refine Xu (σ:=Nat) (by kernel_rfl) (fun i s=>s.df=[]∧s.rd=none∧s.fr 0=some v∧s.fr 4=some (.int .i64 (i:Nat))∧i≤l.length∧∃ rv,s.fr 3=some rv∧Made fPair h s.h rv (byK Pair.k (l.take i))) (fun i=>l.length - i) 0 ?_ ?_
 ·simp -implicitDefEqProofs (disch:=first|omega|simp only[go_sem]) only[go_sem,true_and]
  exact ⟨by trivial,Nat.zero_le _,_,rfl,.nil fPair (.refl h)⟩
 rintro i ⟨fr,df,K,rd⟩ K' hK' hX ⟨rfl,rfl,f0,f4,hi,rv,f3,m⟩
 simp only at f0 f4 f3 m
 simp -implicitDefEqProofs (disch:=first|omega|simp only[go_sem]) only[go_sem,true_and,f0,f4,el]
 refine YX (fun hc1=>?_) (fun hc1=>?_)
 ·have hj0:i<l.length:=by omega
  have hbK:Arg fPair.rep K v l:=hb.ext m.ext
  have hr:=m.arg
  have hrl:=R1a (key:=Pair.k) (l.take i)
  have htl:(l.take i).length≤l.length:=by simp;omega
  have hnext:=u7a (key:=Pair.k) hj0
  have hw1:=ZV hj0 (by omega)
  obtain ⟨rl,hrr⟩:∃ rl,byK Pair.k (l.take i)=rl:=⟨_,rfl⟩
  rw[hrr]at hr hrl hnext
  have er:∀ K,dLen Tryz.prog #[96] rv K=some (.int .i64 (rl.length:Nat)):=hr.lens (P:=Tryz.prog) (ts:=#[96]) (t:=96) rfl g6a
  obtain ⟨id1,o1,g1,hid1,hat1⟩:=hbK.idx (P:=Tryz.prog) (t:=96) D2a (k:=.i64) (i:=i) (x:=l[i]) (by simp)
  have a1:Zx K id1 o1 2=some (Zq l[i].k):=S4a hat1
  obtain ⟨x,hx⟩:∃ x,l[i]=x:=⟨_,rfl⟩
  rw[hx]at a1 hnext
  simp -implicitDefEqProofs (disch:=first|omega|simp only[go_sem]) only[go_sem,true_and]
  refine i5a (fun s=>s.df=[]∧s.rd=none∧s.h=K∧s.fr 0=some v∧s.fr 4=some (.int .i64 (i:Nat))∧s.fr 3=some rv∧∃ j,s.fr 5=some (.int .i64 (j:Nat))∧j≤rl.length∧XU Pair.k x rl=rl.take j++XU Pair.k x (rl.drop j)∧∀ hj:j<rl.length,¬ Yq rl[j].k x.k=true) ?_ ?_
  ·refine Xu (σ:=Nat) (by kernel_rfl) (fun j s=>s.df=[]∧s.rd=none∧s.h=K∧s.fr 0=some v∧s.fr 4=some (.int .i64 (i:Nat))∧s.fr 3=some rv∧s.fr 5=some (.int .i64 (j:Nat))∧j≤rl.length∧XU Pair.k x rl=rl.take j++XU Pair.k x (rl.drop j)) (fun j=>rl.length - j) 0 ?_ ?_
   ·simp -implicitDefEqProofs (disch:=first|omega|simp only[go_sem]) only[go_sem,true_and,f0,f3,f4]
    exact ⟨by trivial,Nat.zero_le _,by simp⟩
   ·rintro j ⟨fr,df,K2,rd⟩ K2' hK2 hX2 ⟨rfl,rfl,rfl,f0,f4,f3,f5,hj,hin⟩
    simp only at f0 f4 f3 f5
    simp -implicitDefEqProofs (disch:=first|omega|simp only[go_sem]) only[go_sem,true_and]
    refine k3d rfl ?_
    by_cases hjl:j<rl.length
    ·obtain ⟨id2,o2,g2,hid2,hat2⟩:=hr.idx (P:=Tryz.prog) (t:=96) D2a (k:=.i64) (i:=j) (x:=rl[j]) (by simp)
     have a2:Zx K2 id2 o2 2=some (Zq rl[j].k):=S4a hat2
     have hjl2:=eq_true (show ((j:Nat):Int)<(rl.length:Nat) by omega)
     simp -implicitDefEqProofs (disch:=first|omega|simp only[go_sem]) only[go_sem,true_and,T8b,r9b,H3b,f0,f3,f4,f5,er,hjl2,g1,a1,g2,a2,Zj,ZY]
     refine Q1a j6a ?_
     have hw2:=ZV hjl (by omega)
     by_cases hlt:Yq rl[j].k x.k=true
     ·have hneg':=eq_true (M4a.2 hlt)
      simp -implicitDefEqProofs (disch:=first|omega|simp only[go_sem]) only[go_sem,true_and,hneg',Zj,ZY,f5,hw2]
      refine hK2 (j+1) _ ?_ (by omega)
      exact ⟨by trivial,by trivial,by trivial,(vy f0),(vy f4),(vy f3),vz,by omega,l5b hjl hin hlt⟩
     ·have hneg:¬ r4a rl[j].k x.k<0:=fun hh=>hlt (M4a.1 hh)
      simp -implicitDefEqProofs (disch:=first|omega|simp only[go_sem]) only[go_sem,true_and,hneg,Zj,ZY]
      refine hX2 _ _ (by simp) ?_
      exact ⟨by trivial,by trivial,by trivial,(vy f0),(vy f4),(vy f3),j,(vy f5),hj,hin,fun _=>hlt⟩
    ·have hjl':¬ ((j:Nat):Int)<(rl.length:Nat):=by omega
     simp -implicitDefEqProofs (disch:=first|omega|simp only[go_sem]) only[go_sem,true_and,T8b,r9b,H3b,f0,f3,f4,f5,er,hjl',Zj,ZY]
     refine hX2 _ _ (by simp) ?_
     exact ⟨by trivial,by trivial,by trivial,(vy f0),(vy f4),(vy f3),j,(vy f5),hj,hin,fun h=>absurd h hjl⟩
  rintro ⟨fr,df,K2,rd⟩ ⟨hdf,hrd,hK2,f0,f4,f3,j,f5,hj,hin,hnl⟩
  simp only at hdf hrd hK2 f0 f4 f3 f5
  subst hdf hrd hK2
  simp -implicitDefEqProofs (disch:=first|omega|simp only[go_sem]) only[go_sem,true_and]
  refine NC.mono (E6b hbK hr hj0 hj (by omega) (vy f0) (vy f3) (vy f4) (vy f5) vz) ?_
  rintro e ⟨fr1,df1,K3,rd1⟩ hM
  cases e <;> try exact hM.elim
  obtain ⟨rfl,rfl,⟨w,q6,mw⟩,q0,q3,q4,q5⟩:=hM
  simp only at q6 mw
  have Q0:fr1 0=some v:=q0.trans (vy f0)
  have Q3:fr1 3=some rv:=q3.trans (vy f3)
  have Q4:fr1 4=some (.int .i64 (i:Nat)):=q4.trans (vy f4)
  have Q5:fr1 5=some (.int .i64 (j:Nat)):=q5.trans (vy f5)
  rw[hx]at mw
  have hr3:Arg fPair.rep K3 rv rl:=hr.ext mw.ext
  have hb3:Arg fPair.rep K3 v l:=hbK.ext mw.ext
  have fin:∀ (n:Nat),n≤rl.length→XU Pair.k x rl=rl.take j++[x]++rl.drop n →
   ∃ u wh K4,XZ Tryz.prog 96 rv (some (.int .i64 (n:Nat))) none none K3=some u∧o0a Tryz.prog #[96,96] w u K3=some (wh,K4)∧Made fPair h K4 wh (byK Pair.k (l.take (i+1))):=fun n hn he=>by
   obtain ⟨u,b1,b2⟩:=hr3.slice (P:=Tryz.prog) (t:=96) D2a (by decide) (lo:=some (.int .i64 (n:Nat))) (hi:=none) (i:=n) (j:=rl.length) rfl (B0a (k:=.i64) hn) hn (Nat.le_refl _)
   rw[List.take_length]at b2
   obtain ⟨wh,K4,e4,m4,_⟩:=mw.append U5a b2 (by simp;omega) (by decide)
   exact ⟨u,wh,K4,b1,e4,by rw[hnext,he];exact m4.base m.ext⟩
  simp -implicitDefEqProofs (disch:=first|omega|simp only[go_sem]) only[go_sem,true_and]
  refine l3d rfl ?_
  by_cases hjl:j<rl.length
  ·obtain ⟨id2,o2,g2,hid2,hat2⟩:=hr3.idx (P:=Tryz.prog) (t:=96) D2a (k:=.i64) (i:=j) (x:=rl[j]) (by simp)
   have a2:Zx K3 id2 o2 2=some (Zq rl[j].k):=S4a hat2
   obtain ⟨id1,o1,g1,hid1,hat1⟩:=hb3.idx (P:=Tryz.prog) (t:=96) D2a (k:=.i64) (i:=i) (x:=l[i]) (by simp)
   have a1:Zx K3 id1 o1 2=some (Zq l[i].k):=S4a hat1
   rw[hx]at a1
   have hjl2:=eq_true (show ((j:Nat):Int)<(rl.length:Nat) by omega)
   have hend:=m5b hjl hin (hnl hjl)
   by_cases heq:rl[j].k=x.k
   ·have heqd:decide (rl[j].k=x.k)=true:=decide_eq_true heq
    rw[if_pos heq]at hend
    have hw2:=ZV hjl (by omega)
    obtain ⟨u,wh,K4,s1,s2,s3⟩:=fin (j+1) (by omega) hend
    simp -implicitDefEqProofs (disch:=first|omega|simp only[go_sem]) only[go_sem,true_and,F3b,J3b,T0b,Q0,Q3,Q4,Q5,q6,er,hjl2,g1,a1,g2,a2,Zj,ZY,k1a,heqd,hw2,s1,s2,hw1]
    refine hK' (i+1) _ ?_ (by omega)
    exact ⟨by trivial,by trivial,by simp -implicitDefEqProofs (disch:=first|omega|simp only[go_sem]) only[go_sem,true_and,Q0],vz,by omega,wh,vz,s3⟩
   ·have heqd:decide (rl[j].k=x.k)=false:=decide_eq_false heq
    rw[if_neg heq]at hend
    obtain ⟨u,wh,K4,s1,s2,s3⟩:=fin j hj hend
    simp -implicitDefEqProofs (disch:=first|omega|simp only[go_sem]) only[go_sem,true_and,F3b,J3b,T0b,Q0,Q3,Q4,Q5,q6,er,hjl2,g1,a1,g2,a2,Zj,ZY,k1a,heqd,s1,s2,hw1]
    refine hK' (i+1) _ ?_ (by omega)
    exact ⟨by trivial,by trivial,by simp -implicitDefEqProofs (disch:=first|omega|simp only[go_sem]) only[go_sem,true_and,Q0],vz,by omega,wh,vz,s3⟩
  ·have hjl':¬ ((j:Nat):Int)<(rl.length:Nat):=by omega
   have hje:j=rl.length:=by omega
   have hend:XU Pair.k x rl=rl.take j++[x]++rl.drop j:=by
    subst hje
    rw[B2b hin,List.take_length,List.drop_length,List.append_nil]
   obtain ⟨u,wh,K4,s1,s2,s3⟩:=fin j hj hend
   simp -implicitDefEqProofs (disch:=first|omega|simp only[go_sem]) only[go_sem,true_and,F3b,J3b,T0b,Q0,Q3,Q4,Q5,q6,er,hjl',Zj,ZY,s1,s2,hw1]
   refine hK' (i+1) _ ?_ (by omega)
   exact ⟨by trivial,by trivial,by simp -implicitDefEqProofs (disch:=first|omega|simp only[go_sem]) only[go_sem,true_and,Q0],vz,by omega,wh,vz,s3⟩
 ·obtain rfl:i=l.length:=by omega
  rw[List.take_length]at m
  simp -implicitDefEqProofs (disch:=first|omega|simp only[go_sem]) only[go_sem,true_and]
  refine hX _ _ (by simp) ?_
  simp -implicitDefEqProofs (disch:=first|omega|simp only[go_sem]) only[go_sem,true_and,f3]
  exact ⟨_,rfl,_,rfl,m⟩
theorem b1c {h0 H:DHeap} {l:List Pair} {f:FuncId} {cap:Array Value} {pd:Pair→Bool} (hok:∀ x∈l,fPair.ok x) (hl:l.length≤1048576) (hE:Ext h0 H) (ht:O9a H f cap l pd) :
 Ct Tryz.prog 102 [lv H l,.func (.func f) #[] cap] (lh fPair H l) fun r h1=>∃ w,r=.ret w∧Made fPair h0 h1 w (l.filter fun x=>!pd x):=by
 by_cases h0':l=[]
 ·subst h0'
  refine (r8a (h0:=H) (pd:=pd) (I1d fPair H hok).arg (by simp) (U0b _ _ _) ht (fun x hx=>by cases hx)).mono fun r h1 ⟨e,e1⟩=>⟨_,e,?_⟩
  exact (Made.nil fPair ((hE.trans (U0b _ _ _)).trans e1))
 ·have hne:l.isEmpty=false:=by simpa using h0'
  have e1:lv H l=.slice (some ⟨H.next,0,none⟩) l.length (l.length+1):=by unfold lv;rw[hne];rfl
  have e2:lh fPair H l=H.push (.row (l.flatMap fPair.enc) 3 false):=by unfold lh;rw[hne];rfl
  rw[e1,e2]
  refine (Q4b (h0:=H) (Zz _ _) hok hl (Nat.le_refl _) (Nat.lt_succ_self _) (Ext.push1 _ _) ht).mono fun r h1 ⟨w,e,m⟩=>⟨w,e,m.base hE⟩
theorem L1d {h:DHeap} {t:Txn} {vc va vr vw v:Value} {l:List Pair} (x:TxV (InH h) h t vc va vr vw) (hb:Arg fPair.rep h v l) (hl:l.length≤1048576) (hr:t.reads.length≤4294967296) :
 Ct Tryz.prog 71 [Ww t.ses t.req vc va vr vw,v] h fun r h1=>∃ w,r=.ret w∧Made fPair h h1 w (E1a t l):=by
 refine u9d (by simp) ?_
 obtain ⟨H,hH⟩:∃ H,H=h.push (.row [.int .i64 t.ses,.int .i64 t.req,vc,va,vr,vw] 0 false):=⟨_,rfl⟩
 have hE:Ext h H:=by rw[hH];exact Ext.push1 _ _
 have g:H.get h.next=some (.row [.int .i64 t.ses,.int .i64 t.req,vc,va,vr,vw] 0 false):=by rw[hH];exact Zz _ _
 have hHn:H.next=h.next+1:=by rw[hH];rfl
 have hcl:(Ww t.ses t.req vc va vr vw).cells.toList=[.int .i64 t.ses,.int .i64 t.req,vc,va,vr,vw]:=rfl
 simp -implicitDefEqProofs (disch:=first|omega|simp only[go_sem]) only[go_sem,true_and,c71,hcl,← hH]
 refine YV (L5c (hb.ext hE) hl) ?_
 simp -implicitDefEqProofs (disch:=first|omega|simp only[go_sem]) only[go_sem,true_and]
 have hlen:=R1a (key:=Pair.k) l
 refine Yu (b1c (h0:=h) (fun x hx=>hb.ok x (X0b hx)) (by omega) hE (k9b (Zy g) (by omega) (x.ext hE).r hr)) ?_
 rintro r h1 ⟨w,rfl,m⟩
 simp -implicitDefEqProofs (disch:=first|omega|simp only[go_sem]) only[go_sem,true_and,Xj]
 refine ⟨_,rfl,w,rfl,?_⟩
 simpa [E1a] using m
theorem w9b {h:DHeap} {t:Txn} {vc va vr vw v:Value} {l:List Pair} (x:TxV (InH h) h t vc va vr vw) (hb:Arg fPair.rep h v l) (hl:l.length≤1048576) (hr:t.reads.length≤4294967296) :
 Ct Tryz.prog 57 [Ww t.ses t.req vc va vr vw,v] h fun r h1=>∃ w,r=.ret w∧Made fPair h h1 w (E1a t l):=by
 refine m9d (by simp) ?_
 obtain ⟨H,hH⟩:∃ H,H=h.push (.row [.int .i64 t.ses,.int .i64 t.req,vc,va,vr,vw] 0 false):=⟨_,rfl⟩
 have hE:Ext h H:=by rw[hH];exact Ext.push1 _ _
 have g:H.get h.next=some (.row [.int .i64 t.ses,.int .i64 t.req,vc,va,vr,vw] 0 false):=by rw[hH];exact Zz _ _
 have hHn:H.next=h.next+1:=by rw[hH];rfl
 have hcl:(Ww t.ses t.req vc va vr vw).cells.toList=[.int .i64 t.ses,.int .i64 t.req,vc,va,vr,vw]:=rfl
 simp -implicitDefEqProofs (disch:=first|omega|simp only[go_sem]) only[go_sem,true_and,c57,hcl,← hH]
 refine Yu (x9b (hb.ext hE) (by omega)) ?_
 rintro r h1 ⟨w,rfl,m⟩
 obtain ⟨ps,hps⟩:∃ ps,byK Pair.k l=ps:=⟨_,rfl⟩
 rw[hps]at m
 have hlen:ps.length≤l.length:=hps▸R1a (key:=Pair.k) l
 have el:∀ K,dLen Tryz.prog #[96] w K=some (.int .i64 (ps.length:Nat)):=m.arg.lens (P:=Tryz.prog) (ts:=#[96]) (t:=96) rfl g6a
 have hE1:=m.ext
 simp -implicitDefEqProofs (disch:=first|omega|simp only[go_sem]) only[go_sem,true_and,Xj]
 refine Xu (σ:=Nat) (by kernel_rfl) (fun i s=>s.df=[]∧s.rd=none∧s.fr 2=some (.pointer (some ⟨h.next,0,none⟩))∧s.fr 6=some w∧s.fr 7=some (.int .i64 (i:Nat))∧i≤ps.length∧∃ rv,s.fr 5=some rv∧Made fPair h1 s.h rv ((ps.take i).filter fun p=>decide (p.k∈t.reads))) (fun i=>ps.length - i) 0 ?_ ?_
 ·simp -implicitDefEqProofs (disch:=first|omega|simp only[go_sem]) only[go_sem,true_and]
  exact ⟨by trivial,Nat.zero_le _,_,rfl,.nil fPair (.refl h1)⟩
 rintro i ⟨fr,df,K,rd⟩ K' hK' hX ⟨rfl,rfl,f2,f6,f7,hi,rv,f5,mm⟩
 simp only at f2 f6 f7 f5 mm
 simp -implicitDefEqProofs (disch:=first|omega|simp only[go_sem]) only[go_sem,true_and,f6,f7,el]
 refine YX (fun hc1=>?_) (fun hc1=>?_)
 ·have hj:i<ps.length:=by omega
  have hE2:=mm.ext
  have hEK:Ext H K:=hE1.trans hE2
  obtain ⟨id1,o1,e1,hid,hat1⟩:=(m.arg.ext hE2).idx (P:=Tryz.prog) (t:=96) D2a (k:=.i64) (i:=i) (x:=ps[i]) (by simp)
  have l1:Zx K id1 o1 3=some (L1a ps[i]):=hat1.flat.2.1
  have k1:Zx K id1 o1 2=some (Zq ps[i].k):=S4a hat1
  have hw:=ZV hj (by omega)
  have g2:Zu K h.next 4=some vr:=Zy ((hEK.get _ (by omega)).trans g)
  simp -implicitDefEqProofs (disch:=first|omega|simp only[go_sem]) only[go_sem,true_and]
  refine M2d rfl ?_
  simp -implicitDefEqProofs (disch:=first|omega|simp only[go_sem]) only[go_sem,true_and,O6c,Q8c,f2,f6,f7,g2,e1,k1]
  refine Q1a (W8b (x.ext (hE.trans hEK)).r hr) ?_
  by_cases hm:ps[i].k∈t.reads
  ·have hmd:=decide_eq_true hm
   obtain ⟨w2,h6,e6,m6⟩:=mm.snoc U5a (y:=ps[i]) (cs:=[.int .i32 ps[i].k.t,.int .i64 ps[i].k.r,.int .i64 ps[i].v]) (z:=3) rfl rfl (m.ok _ (List.getElem_mem hj)) (by have:=List.length_filter_le (fun p:Pair=>decide (p.k∈t.reads)) (ps.take i);have:=List.length_take (i:=i) (l:=ps);omega) (by decide)
   simp -implicitDefEqProofs (disch:=first|omega|simp only[go_sem]) only[go_sem,true_and,hmd,f5,f6,f7,e1,l1,e6,hw]
   refine hK' (i+1) _ ?_ (by omega)
   refine ⟨by trivial,by trivial,(vy f2),(vy f6),vz,by omega,w2,vz,?_⟩
   rw[List.take_succ_eq_append_getElem hj,List.filter_append,List.filter_cons_of_pos (by simpa using hm),List.filter_nil]
   exact m6
  ·have hmd:=decide_eq_false hm
   simp -implicitDefEqProofs (disch:=first|omega|simp only[go_sem]) only[go_sem,true_and,hmd,f7,hw]
   refine hK' (i+1) _ ?_ (by omega)
   refine ⟨by trivial,by trivial,(vy f2),(vy f6),vz,by omega,rv,(vy f5),?_⟩
   rw[List.take_succ_eq_append_getElem hj,List.filter_append,List.filter_cons_of_neg (by simpa using hm),List.filter_nil,List.append_nil]
   exact mm
 obtain rfl:i=ps.length:=by omega
 refine hX _ _ (by simp) ?_
 rw[List.take_length]at mm
 simp -implicitDefEqProofs (disch:=first|omega|simp only[go_sem]) only[go_sem,true_and,f5]
 refine ⟨_,rfl,_,rfl,?_⟩
 unfold E1a
 rw[hps]
 exact mm.base (hE.trans hE1)
end Go.Proofs.YtheamfnbfgiaeaaGreat
namespace Go.D
variable {P:Program} {α:Type} {F:FRep α} {h h1 K:DHeap} {v:Value} {l:List α} {z b id:Nat} {ts:Array TypeId}
def NoRow (h:DHeap) (i z:Nat):Prop:=∀ cs,h.get i≠some (.row cs z false)
theorem NoRow.map {es:List MapEntry} {c:Nat} (g:h.get id=some (.map es c)):NoRow h id z:=fun cs e=>by rw[g]at e;cases e
theorem NoRow.row {cs:List Value} {y:Nat} (g:h.get id=some (.row cs y false)) (hy:y≠z):NoRow h id z:=fun cs' e=>by rw[g]at e;cases e;exact hy rfl
theorem NoRow.keep (n:NoRow h id z) (e:K.get id=h.get id):NoRow K id z:=fun cs g=>n cs (e▸g)
theorem MapAt.noRow {κ:Type} {enc:κ→Value} {m:List (κ × Value)} (a:MapAt enc h id m):NoRow h id z:=by
 obtain ⟨es,c,g,_⟩:=a
 exact .map g
theorem Owns.ne {w:Option Nat} (a:Owns F.rep NoS K v l w) (hn:NoRow K id F.z):w≠some id:=by
 rintro rfl
 rcases a with ⟨_,_,h0⟩ | ⟨h0,_⟩ | ⟨i,cap,cells,_,h0,_,g,_⟩
 ·cases h0
 ·cases h0
 ·cases h0
  exact hn _ g
theorem Made.setX {o:DObj} (m:Made F h K v l) (hn:NoRow K id F.z) (hid:h.next≤id):Made F h (K.set id o) v l:=by
 obtain ⟨w,a,b⟩:=m.own
 have hne:=a.ne hn
 exact ⟨m.ext.set hid,w,a.mono (Nat.le_refl _) (fun i hi=>Zv _ _ fun e=>by subst e;exact hne hi) (fun i hi=>hi.elim),b⟩
theorem Made.snocX (m:Made F h h1 v l) (hT:B3a P ts=some (F.z,b)) {y:α} {cs:List Value} (hc:cs=F.enc y) (hz:F.z=z) (hp:0<F.z) (hy:F.ok y) (hlen:l.length+1≤4294967296) (hb:b≤32768) :
 ∃ v' h2,o0a P ts v (.slice (some ⟨h1.next,0,none⟩) 1 1) (h1.push (.row cs z false))=some (v',h2)∧Made F h h2 v' (l++[y])∧h2.next=h1.next+2∧∀ i,i<h1.next→NoRow h1 i F.z→h2.get i=h1.get i:=by
 obtain ⟨w,a,bw⟩:=m.own
 obtain ⟨v',h2,e1,n2,ng2,gg,o3⟩:=a.snoc (cs:=cs) (x:=y) (z:=z) (fun i hi=>hi.elim) ⟨hc,hy⟩ hz.symm hp hT hlen hb
 exact ⟨v',h2,e1,⟨⟨by have:=m.ext.next;omega,ng2.trans m.ext.ng,fun i hi=>(gg i (Nat.lt_of_lt_of_le hi m.ext.next) (fun e=>by have:=bw i e;omega)).trans (m.ext.get i hi)⟩,_,o3,fun i hi=>by cases hi;have:=m.ext.next;omega⟩,n2,fun i hi hn=>gg i hi (a.ne hn)⟩
end Go.D
namespace Go.Proofs.YtheamfnbfgiaeaaGreat
open Go.D
set_option maxRecDepth 100000
abbrev X0a (c:Change):Value:=.agg #[.int .i32 c.k.t,.int .i64 c.k.r,.int .i64 c.v,.bool c.e]
def M1a {α:Type} (key:α→Key) (enc:α→Value) (l:List α):List (Key × Value):=l.foldl (fun m p=>a1a m (key p) (enc p)) []
section
variable {α:Type} {key:α→Key} {enc:α→Value}
theorem t5a {l:List α} {x:α}:M1a key enc (l++[x])=a1a (M1a key enc l) (key x) (enc x):=by
 unfold M1a
 rw[List.foldl_append]
 rfl
theorem C8a {l:List α} {i:Nat} (hi:i<l.length):M1a key enc (l.take (i+1))=a1a (M1a key enc (l.take i)) (key l[i]) (enc l[i]):=by
 rw[List.take_succ_eq_append_getElem hi,t5a]
theorem Q7a {P:List α→Prop} (h0:P []) (h1:∀ l x,P l→P (l++[x])):∀ l,P l:=fun l=>by
 have:∀ m:List α,P m.reverse:=fun m=>by
  induction m with
  | nil=>exact h0
  | cons x m ih=>rw[List.reverse_cons];exact h1 _ _ ih
 have h:=this l.reverse
 rwa [List.reverse_reverse]at h
theorem I7a:∀ l:List α,((M1a key enc l).map (·.1)).Nodup:=
 Q7a (by simp[M1a]) fun l x ih=>by rw[t5a];exact i2a ih
theorem q5a {k:Key}:∀ l:List α,Vz (M1a key enc l) k=(Yk key l k).map enc:=
 Q7a rfl fun l x ih=>by
  rw[t5a,l4a (I7a l),G5a,ih]
  by_cases h:k=key x
  ·rw[if_pos h,if_pos h.symm];rfl
  ·rw[if_neg h,if_neg fun e=>h e.symm]
theorem y5c:∀ (l:List α) (k:Key),k∈(M1a key enc l).map (·.1)↔k∈l.map key:=
 Q7a (by simp[M1a]) fun l x ih k=>by
  have ih':=ih
  have ih:=ih k
  rw[t5a,z8a,List.map_append,List.map_cons,List.map_nil,List.mem_append,List.mem_singleton]
  split
  ·rename_i hx
   rw[ih]
   have hx:=(ih' (key x)).1 hx
   constructor
   ·exact .inl
   ·rintro (h | rfl)
    ·exact h
    ·exact hx
  ·rw[List.mem_append,List.mem_singleton,ih]
end
theorem P5b:Tryz.prog.underlying 148=some (.map 31 99):=by kernel_rfl
theorem c9a:d8a Tryz.prog 148 Zq (X0a i5d):=⟨_,_,P5b,a9b,by kernel_rfl⟩
theorem X6a {S:Nat→Prop} {h:DHeap} {id o:Nat} {x:Change} (a:At fChange.rep S h id o x):Zx h id o 2=some (Zq x.k):=by
 obtain ⟨cells,esz,ro,g,b,e,_⟩:=a
 have hb:o+4≤cells.length:=b
 rw[Zw g (by omega)]
 have e':(cells.drop o).take 4=[.int .i32 x.k.t,.int .i64 x.k.r,.int .i64 x.v,.bool x.e]:=e
 have:(cells.drop o).take 2=[.int .i32 x.k.t,.int .i64 x.k.r]:=by
  have:=congrArg (List.take 2) e'
  rwa [List.take_take]at this
 rw[this]
set_option maxHeartbeats 1000000 in
theorem q0c {h:DHeap} {v:Value} {l:List Change} (hb:Arg fChange.rep h v l) (hl:l.length≤1048576) :
 Ct Tryz.prog 73 [v] h fun r h1=>∃ w,r=.ret w∧Made fChange h h1 w (byK Change.k l):=by
 refine w9d (by simp) ?_
 have el:∀ K,dLen Tryz.prog #[92] v K=some (.int .i64 (l.length:Nat)):=hb.lens (P:=Tryz.prog) (ts:=#[92]) (t:=92) rfl h7a
 simp -implicitDefEqProofs (disch:=first|omega|simp only[go_sem]) only[go_sem,true_and,c73,el]
 refine Xu (σ:=Nat) (by kernel_rfl) (fun i s=>s.df=[]∧s.rd=none∧s.fr 3=some (.map (some h.next))∧s.fr 11=some v∧s.fr 12=some (.int .i64 (l.length:Nat))∧s.fr 13=some (.int .i64 (i:Nat))∧i≤l.length∧h.next<s.h.next∧MapAt Zq s.h h.next (M1a Change.k X0a (l.take i))∧∃ kv,s.fr 4=some kv∧Made fKey h s.h kv ((l.take i).map Change.k)) (fun i=>l.length - i) 0 ?_ ?_
 ·simp -implicitDefEqProofs (disch:=first|omega|simp only[go_sem]) only[go_sem,true_and]
  exact ⟨by trivial,Nat.zero_le _,Nat.lt_succ_self _,MapAt.new,_,rfl,.nil fKey (Ext.push1 _ _)⟩
 rintro i ⟨fr,df,K,rd⟩ K' hK' hX ⟨rfl,rfl,f3,f11,f12,f13,hi,hlt,hm,kv,f4,mk⟩
 simp only at f3 f11 f12 f13 hlt hm f4 mk
 have hE:=mk.ext
 simp -implicitDefEqProofs (disch:=first|omega|simp only[go_sem]) only[go_sem,true_and,f11,f12,f13]
 refine YX (fun hc1=>?_) (fun hc1=>?_)
 ·have hj:i<l.length:=by omega
  obtain ⟨id1,o1,e1,_,hat1⟩:=(hb.ext hE).idx (P:=Tryz.prog) (t:=92) y4a (k:=.i64) (i:=i) (x:=l[i]) (by simp)
  have l1:Zx K id1 o1 4=some (X0a l[i]):=hat1.flat.2.1
  obtain ⟨K1,hK1⟩:∃ H,H=K.push (.row [.int .i32 l[i].k.t,.int .i64 l[i].k.r,.int .i64 l[i].v,.bool l[i].e] 0 false):=⟨_,rfl⟩
  have g1:K1.get K.next=some (.row [.int .i32 l[i].k.t,.int .i64 l[i].k.r,.int .i64 l[i].v,.bool l[i].e] 0 false):=by rw[hK1];exact Zz _ _
  have hE1:Ext K K1:=by rw[hK1];exact Ext.push1 _ _
  have hK1n:K1.next=K.next+1:=by rw[hK1];rfl
  have hm1:MapAt Zq K1 h.next (M1a Change.k X0a (l.take i)):=hm.keep (hE1.get _ hlt)
  obtain ⟨o,hu,hm2⟩:=hm1.update c9a l[i].k (X0a l[i])
  obtain ⟨K2,hK2⟩:∃ H,K1.set h.next o=H:=⟨_,rfl⟩
  rw[hK2]at hu hm2
  have g2:K2.get K.next=some (.row [.int .i32 l[i].k.t,.int .i64 l[i].k.r,.int .i64 l[i].v,.bool l[i].e] 0 false):=by rw[← hK2,Zv _ _ (by omega)];exact g1
  have lk:Zx K1 K.next 0 2=some (Zq l[i].k):=by rw[Zw g1 (Nat.le_of_ble_eq_true rfl)];rfl
  have lk2:Zx K2 K.next 0 2=some (Zq l[i].k):=by rw[Zw g2 (Nat.le_of_ble_eq_true rfl)];rfl
  have lc:Zx K1 K.next 0 4=some (X0a l[i]):=by rw[Zw g1 (Nat.le_of_ble_eq_true rfl)];rfl
  have mk2:Made fKey h K2 kv ((l.take i).map Change.k):=hK2▸(mk.on hE1).setX hm1.noRow (Nat.le_refl _)
  have hK2n:K2.next=K.next+1:=by rw[← hK2];exact hK1n
  obtain ⟨kv',h6,e6,m6,n6,k6⟩:=mk2.snocX b4b (y:=l[i].k) (cs:=[.int .i32 l[i].k.t,.int .i64 l[i].k.r]) (z:=2) rfl rfl (by decide) (hb.ok _ (List.getElem_mem hj)).1 (by rw[List.length_map,List.length_take];omega) (by decide)
  have hm3:MapAt Zq h6 h.next (M1a Change.k X0a (l.take (i+1))):=by
   rw[C8a hj]
   exact hm2.keep (k6 _ (by omega) hm2.noRow)
  have hw:=ZV hj (by omega)
  have hst:Yw Tryz.prog 99 (.pointer (some ⟨K.next,0,none⟩)) (.agg #[.int .i32 l[i].k.t,.int .i64 l[i].k.r,.int .i64 l[i].v,.bool l[i].e]) (K.push (.row [.int .i32 0,.int .i64 0,.int .i64 0,.bool false] 0 false))=some K1:=by
   rw[hK1]
   exact (i9a rfl).trans (a0a rfl rfl)
  simp -implicitDefEqProofs (disch:=first|omega|simp only[go_sem]) only[go_sem,true_and,f3,f4,f11,f13,e1,l1,hst,lk,lc,hu,lk2,e6,hw]
  refine hK' (i+1) _ ?_ (by omega)
  refine ⟨by trivial,by trivial,(vy f3),(vy f11),(vy f12),vz,by omega,?_,hm3,kv',vz,?_⟩
  ·show h.next<h6.next
   omega
  ·rw[List.take_succ_eq_append_getElem hj,List.map_append]
   exact m6
 obtain rfl:i=l.length:=by omega
 refine hX _ _ (by simp) ?_
 rw[List.take_length]at hm mk
 simp -implicitDefEqProofs (disch:=first|omega|simp only[go_sem]) only[go_sem,true_and,f4]
 refine Yu (f6d mk.arg (by rw[List.length_map];exact hl)) ?_
 rintro r h3 ⟨w,rfl,hE3,hs3⟩
 obtain ⟨ks,hks⟩:∃ ks,E4a (l.map Change.k)=ks:=⟨_,rfl⟩
 rw[hks]at hs3
 have hsk:Arg fKey.rep h3 w ks:=hs3.mono fun i hi=>⟨hi.2,rfl⟩
 have ek:∀ K,dLen Tryz.prog #[24] w K=some (.int .i64 (ks.length:Nat)):=hsk.lens (P:=Tryz.prog) (ts:=#[24]) (t:=24) rfl D1a
 have hkl:ks.length≤l.length:=by
  have:=D2b (l.map Change.k)
  rw[hks,List.length_map]at this
  exact this
 have hE03:Ext h h3:=hE.trans hE3
 have hn3:=hE3.next
 have hm3:MapAt Zq h3 h.next (M1a Change.k X0a l):=hm.keep (hE3.get _ hlt)
 simp -implicitDefEqProofs (disch:=first|omega|simp only[go_sem]) only[go_sem,true_and,Xj,ek]
 refine Xu (σ:=Nat) (by kernel_rfl) (fun j s=>s.df=[]∧s.rd=none∧s.fr 3=some (.map (some h.next))∧s.fr 28=some w∧s.fr 29=some (.int .i64 (ks.length:Nat))∧s.fr 30=some (.int .i64 (j:Nat))∧j≤ks.length∧∃ v',s.fr 7=some v'∧Made fChange h3 s.h v' ((ks.take j).filterMap (Yk Change.k l))) (fun j=>ks.length - j) 0 ?_ ?_
 ·simp -implicitDefEqProofs (disch:=first|omega|simp only[go_sem]) only[go_sem,true_and,f3]
  exact ⟨by trivial,Nat.zero_le _,_,rfl,Made.nil _ (.refl _)⟩
 rintro j ⟨fr,df,K4,rd⟩ K' hK' hX ⟨rfl,rfl,f3,f28,f29,f30,hj,v',f7,mm⟩
 simp only at f3 f28 f29 f30 f7 mm
 have hE4:=mm.ext
 have hn4:=hE4.next
 simp -implicitDefEqProofs (disch:=first|omega|simp only[go_sem]) only[go_sem,true_and,f28,f29,f30]
 refine YX (fun hc1=>?_) (fun hc1=>?_)
 ·have hjl:j<ks.length:=by omega
  obtain ⟨id1,o1,e1,_,hat1⟩:=(hsk.ext hE4).idx (P:=Tryz.prog) (t:=24) C2a (k:=.i64) (i:=j) (x:=ks[j]) (by simp)
  have l1:Zx K4 id1 o1 2=some (Zq ks[j]):=hat1.flat.2.1
  obtain ⟨K5,hK5⟩:∃ H,H=K4.push (.row [.int .i32 ks[j].t,.int .i64 ks[j].r] 0 false):=⟨_,rfl⟩
  have hE5:Ext K4 K5:=by rw[hK5];exact Ext.push1 _ _
  have hK5n:K5.next=K4.next+1:=by rw[hK5];rfl
  have hst:Yw Tryz.prog 31 (.pointer (some ⟨K4.next,0,none⟩)) (Zq ks[j]) (K4.push (.row [.int .i32 0,.int .i64 0] 0 false))=some K5:=by
   rw[hK5]
   exact (x3a rfl).trans (a0a rfl rfl)
  have g5:K5.get K4.next=some (.row [.int .i32 ks[j].t,.int .i64 ks[j].r] 0 false):=by rw[hK5];exact Zz _ _
  have l5:Zx K5 K4.next 0 2=some (Zq ks[j]):=by rw[Zw g5 (Nat.le_of_ble_eq_true rfl)];rfl
  have hkm:ks[j]∈l.map Change.k:=mem_keysN.1 (hks▸List.getElem_mem hjl)
  obtain ⟨c,hc⟩:=u6a (key:=Change.k) hkm
  obtain ⟨hc1,hc2⟩:=d0a hc
  have lk5:M0a Tryz.prog 148 (.map (some h.next)) (Zq ks[j]) false K5=some (X0a c):=by
   rw[(hm3.keep ((hE5.get _ (by omega)).trans (hE4.get _ (by omega)))).lookup c9a ks[j] false,q5a,hc]
   rfl
  obtain ⟨w2,h6,e6,m6⟩:=(mm.on hE5).snoc U6a (y:=c) (cs:=[.int .i32 c.k.t,.int .i64 c.k.r,.int .i64 c.v,.bool c.e]) (z:=4) rfl rfl (hb.ok _ hc1) (by have:=List.length_filterMap_le (Yk Change.k l) (ks.take j);have:=List.length_take (i:=j) (l:=ks);omega) (by decide)
  have hw:=ZV hjl (by omega)
  simp -implicitDefEqProofs (disch:=first|omega|simp only[go_sem]) only[go_sem,true_and,f3,f7,f28,f30,e1,l1,hst,l5,lk5,e6,hw]
  refine hK' (j+1) _ ?_ (by omega)
  refine ⟨rfl,rfl,(vy f3),(vy f28),(vy f29),vz,by omega,w2,vz,?_⟩
  rw[List.take_succ_eq_append_getElem hjl,List.filterMap_append]
  simpa [hc] using m6
 obtain rfl:j=ks.length:=by omega
 refine hX _ _ (by simp) ?_
 rw[List.take_length]at mm
 simp -implicitDefEqProofs (disch:=first|omega|simp only[go_sem]) only[go_sem,true_and,f7]
 refine ⟨_,rfl,_,rfl,?_⟩
 unfold byK
 rw[hks]
 exact mm.base hE03
end Go.Proofs.YtheamfnbfgiaeaaGreat
namespace Go.Proofs.YtheamfnbfgiaeaaGreat
open Go.D
set_option maxRecDepth 100000
set_option maxHeartbeats 1000000 in
theorem D5b {h:DHeap} {v:Value} {l:List Change} (hb:Arg fChange.rep h v l) (hl:l.length≤4194304) :
 Ct Tryz.prog 60 [v] h fun r h1=>∃ w,r=.ret w∧Made fChange h h1 w (byK Change.k l):=by
 refine p9d (by simp) ?_
 have el:∀ K,dLen Tryz.prog #[92] v K=some (.int .i64 (l.length:Nat)):=hb.lens (P:=Tryz.prog) (ts:=#[92]) (t:=92) rfl h7a
 simp -implicitDefEqProofs (disch:=first|omega|simp only[go_sem]) only[go_sem,true_and,c60]
 refine Xu (σ:=Nat) (by kernel_rfl) (fun i s=>s.df=[]∧s.rd=none∧s.fr 0=some v∧s.fr 4=some (.int .i64 (i:Nat))∧i≤l.length∧∃ rv,s.fr 3=some rv∧Made fChange h s.h rv (byK Change.k (l.take i))) (fun i=>l.length - i) 0 ?_ ?_
 ·simp -implicitDefEqProofs (disch:=first|omega|simp only[go_sem]) only[go_sem,true_and]
  exact ⟨by trivial,Nat.zero_le _,_,rfl,.nil fChange (.refl h)⟩
 rintro i ⟨fr,df,K,rd⟩ K' hK' hX ⟨rfl,rfl,f0,f4,hi,rv,f3,m⟩
 simp only at f0 f4 f3 m
 simp -implicitDefEqProofs (disch:=first|omega|simp only[go_sem]) only[go_sem,true_and,f0,f4,el]
 refine YX (fun hc1=>?_) (fun hc1=>?_)
 ·have hj0:i<l.length:=by omega
  have hbK:Arg fChange.rep K v l:=hb.ext m.ext
  have hr:=m.arg
  have hrl:=R1a (key:=Change.k) (l.take i)
  have htl:(l.take i).length≤l.length:=by simp;omega
  have hnext:=u7a (key:=Change.k) hj0
  have hw1:=ZV hj0 (by omega)
  obtain ⟨rl,hrr⟩:∃ rl,byK Change.k (l.take i)=rl:=⟨_,rfl⟩
  rw[hrr]at hr hrl hnext
  have er:∀ K,dLen Tryz.prog #[92] rv K=some (.int .i64 (rl.length:Nat)):=hr.lens (P:=Tryz.prog) (ts:=#[92]) (t:=92) rfl h7a
  obtain ⟨id1,o1,g1,hid1,hat1⟩:=hbK.idx (P:=Tryz.prog) (t:=92) y4a (k:=.i64) (i:=i) (x:=l[i]) (by simp)
  have a1:Zx K id1 o1 2=some (Zq l[i].k):=X6a hat1
  obtain ⟨x,hx⟩:∃ x,l[i]=x:=⟨_,rfl⟩
  rw[hx]at a1 hnext
  simp -implicitDefEqProofs (disch:=first|omega|simp only[go_sem]) only[go_sem,true_and]
  refine i5a (fun s=>s.df=[]∧s.rd=none∧s.h=K∧s.fr 0=some v∧s.fr 4=some (.int .i64 (i:Nat))∧s.fr 3=some rv∧∃ j,s.fr 5=some (.int .i64 (j:Nat))∧j≤rl.length∧XU Change.k x rl=rl.take j++XU Change.k x (rl.drop j)∧∀ hj:j<rl.length,¬ Yq rl[j].k x.k=true) ?_ ?_
  ·refine Xu (σ:=Nat) (by kernel_rfl) (fun j s=>s.df=[]∧s.rd=none∧s.h=K∧s.fr 0=some v∧s.fr 4=some (.int .i64 (i:Nat))∧s.fr 3=some rv∧s.fr 5=some (.int .i64 (j:Nat))∧j≤rl.length∧XU Change.k x rl=rl.take j++XU Change.k x (rl.drop j)) (fun j=>rl.length - j) 0 ?_ ?_
   ·simp -implicitDefEqProofs (disch:=first|omega|simp only[go_sem]) only[go_sem,true_and,f0,f3,f4]
    exact ⟨by trivial,Nat.zero_le _,by simp⟩
   ·rintro j ⟨fr,df,K2,rd⟩ K2' hK2 hX2 ⟨rfl,rfl,rfl,f0,f4,f3,f5,hj,hin⟩
    simp only at f0 f4 f3 f5
    simp -implicitDefEqProofs (disch:=first|omega|simp only[go_sem]) only[go_sem,true_and]
    refine W2d rfl ?_
    by_cases hjl:j<rl.length
    ·obtain ⟨id2,o2,g2,hid2,hat2⟩:=hr.idx (P:=Tryz.prog) (t:=92) y4a (k:=.i64) (i:=j) (x:=rl[j]) (by simp)
     have a2:Zx K2 id2 o2 2=some (Zq rl[j].k):=X6a hat2
     have hjl2:=eq_true (show ((j:Nat):Int)<(rl.length:Nat) by omega)
     simp -implicitDefEqProofs (disch:=first|omega|simp only[go_sem]) only[go_sem,true_and,S8b,q9b,G3b,f0,f3,f4,f5,er,hjl2,g1,a1,g2,a2,Zj,ZY]
     refine Q1a m6d ?_
     have hw2:=ZV hjl (by omega)
     by_cases hlt:Yq rl[j].k x.k=true
     ·skip
      simp -implicitDefEqProofs (disch:=first|omega|simp only[go_sem]) only[go_sem,true_and,hlt,Zj,ZY,f5,hw2]
      refine hK2 (j+1) _ ?_ (by omega)
      exact ⟨by trivial,by trivial,by trivial,(vy f0),(vy f4),(vy f3),vz,by omega,l5b hjl hin hlt⟩
     ·have hneg:Yq rl[j].k x.k=false:=by simpa using hlt
      simp -implicitDefEqProofs (disch:=first|omega|simp only[go_sem]) only[go_sem,true_and,hneg,Zj,ZY]
      refine hX2 _ _ (by simp) ?_
      exact ⟨by trivial,by trivial,by trivial,(vy f0),(vy f4),(vy f3),j,(vy f5),hj,hin,fun _=>hlt⟩
    ·have hjl':¬ ((j:Nat):Int)<(rl.length:Nat):=by omega
     simp -implicitDefEqProofs (disch:=first|omega|simp only[go_sem]) only[go_sem,true_and,S8b,q9b,G3b,f0,f3,f4,f5,er,hjl',Zj,ZY]
     refine hX2 _ _ (by simp) ?_
     exact ⟨by trivial,by trivial,by trivial,(vy f0),(vy f4),(vy f3),j,(vy f5),hj,hin,fun h=>absurd h hjl⟩
  rintro ⟨fr,df,K2,rd⟩ ⟨hdf,hrd,hK2,f0,f4,f3,j,f5,hj,hin,hnl⟩
  simp only at hdf hrd hK2 f0 f4 f3 f5
  subst hdf hrd hK2
  obtain ⟨u3,s3,ar3⟩:=hr.slice (P:=Tryz.prog) (t:=92) y4a (by decide) (lo:=none) (hi:=some (.int .i64 (j:Nat))) (i:=0) (j:=j) (B0a (k:=.i64) hj) rfl (Nat.zero_le _) hj
  rw[List.drop_zero]at ar3
  obtain ⟨w0,L1,e0,m0,_⟩:=(Made.nil fChange (Ext.refl K2)).append U6a (x:=u3) ar3 (by simp;omega) (by decide)
  rw[List.nil_append]at m0
  obtain ⟨id3,o3,g3,hid3,hat3⟩:=(hbK.ext m0.ext).idx (P:=Tryz.prog) (t:=92) y4a (k:=.i64) (i:=i) (x:=l[i]) (by simp)
  have a3:Zx L1 id3 o3 4=some (X0a l[i]):=hat3.flat.2.1
  obtain ⟨w,K3,e1,mw⟩:=m0.snoc U6a (y:=l[i]) (cs:=[.int .i32 l[i].k.t,.int .i64 l[i].k.r,.int .i64 l[i].v,.bool l[i].e]) (z:=4) rfl rfl (hb.ok _ (List.getElem_mem hj0)) (by simp;omega) (by decide)
  rw[hx]at mw
  have hr3:Arg fChange.rep K3 rv rl:=hr.ext mw.ext
  have hb3:Arg fChange.rep K3 v l:=hbK.ext mw.ext
  have fin:∀ (n:Nat),n≤rl.length→XU Change.k x rl=rl.take j++[x]++rl.drop n →
   ∃ u wh K4,XZ Tryz.prog 92 rv (some (.int .i64 (n:Nat))) none none K3=some u∧o0a Tryz.prog #[92,92] w u K3=some (wh,K4)∧Made fChange h K4 wh (byK Change.k (l.take (i+1))):=fun n hn he=>by
   obtain ⟨u,b1,b2⟩:=hr3.slice (P:=Tryz.prog) (t:=92) y4a (by decide) (lo:=some (.int .i64 (n:Nat))) (hi:=none) (i:=n) (j:=rl.length) rfl (B0a (k:=.i64) hn) hn (Nat.le_refl _)
   rw[List.take_length]at b2
   obtain ⟨wh,K4,e4,m4,_⟩:=mw.append U6a b2 (by simp;omega) (by decide)
   exact ⟨u,wh,K4,b1,e4,by rw[hnext,he];exact m4.base m.ext⟩
  simp -implicitDefEqProofs (disch:=first|omega|simp only[go_sem]) only[go_sem,true_and,f0,f3,f4,f5,s3,e0,g3,a3,e1]
  refine X2d rfl ?_
  by_cases hjl:j<rl.length
  ·obtain ⟨id2,o2,g2,hid2,hat2⟩:=hr3.idx (P:=Tryz.prog) (t:=92) y4a (k:=.i64) (i:=j) (x:=rl[j]) (by simp)
   have a2:Zx K3 id2 o2 2=some (Zq rl[j].k):=X6a hat2
   obtain ⟨id1,o1,g1,hid1,hat1⟩:=hb3.idx (P:=Tryz.prog) (t:=92) y4a (k:=.i64) (i:=i) (x:=l[i]) (by simp)
   have a1:Zx K3 id1 o1 2=some (Zq l[i].k):=X6a hat1
   rw[hx]at a1
   have hjl2:=eq_true (show ((j:Nat):Int)<(rl.length:Nat) by omega)
   have hend:=m5b hjl hin (hnl hjl)
   by_cases heq:rl[j].k=x.k
   ·have heqd:decide (rl[j].k=x.k)=true:=decide_eq_true heq
    rw[if_pos heq]at hend
    have hw2:=ZV hjl (by omega)
    obtain ⟨u,wh,K4,s1,s2,s3⟩:=fin (j+1) (by omega) hend
    simp -implicitDefEqProofs (disch:=first|omega|simp only[go_sem]) only[go_sem,true_and,E3b,I3b,S0b,f0,f3,f4,f5,er,hjl2,g1,a1,g2,a2,Zj,ZY,k1a,heqd,hw2,s1,s2,hw1]
    refine hK' (i+1) _ ?_ (by omega)
    exact ⟨by trivial,by trivial,(vy f0),vz,by omega,wh,vz,s3⟩
   ·have heqd:decide (rl[j].k=x.k)=false:=decide_eq_false heq
    rw[if_neg heq]at hend
    obtain ⟨u,wh,K4,s1,s2,s3⟩:=fin j hj hend
    simp -implicitDefEqProofs (disch:=first|omega|simp only[go_sem]) only[go_sem,true_and,E3b,I3b,S0b,f0,f3,f4,f5,er,hjl2,g1,a1,g2,a2,Zj,ZY,k1a,heqd,s1,s2,hw1]
    refine hK' (i+1) _ ?_ (by omega)
    exact ⟨by trivial,by trivial,(vy f0),vz,by omega,wh,vz,s3⟩
  ·have hjl':¬ ((j:Nat):Int)<(rl.length:Nat):=by omega
   have hje:j=rl.length:=by omega
   have hend:XU Change.k x rl=rl.take j++[x]++rl.drop j:=by
    subst hje
    rw[B2b hin,List.take_length,List.drop_length,List.append_nil]
   obtain ⟨u,wh,K4,s1,s2,s3⟩:=fin j hj hend
   simp -implicitDefEqProofs (disch:=first|omega|simp only[go_sem]) only[go_sem,true_and,E3b,I3b,S0b,f0,f3,f4,f5,er,hjl',Zj,ZY,s1,s2,hw1]
   refine hK' (i+1) _ ?_ (by omega)
   exact ⟨by trivial,by trivial,(vy f0),vz,by omega,wh,vz,s3⟩
 ·obtain rfl:i=l.length:=by omega
  rw[List.take_length]at m
  simp -implicitDefEqProofs (disch:=first|omega|simp only[go_sem]) only[go_sem,true_and]
  refine hX _ _ (by simp) ?_
  simp -implicitDefEqProofs (disch:=first|omega|simp only[go_sem]) only[go_sem,true_and,f3]
  exact ⟨_,rfl,_,rfl,m⟩
end Go.Proofs.YtheamfnbfgiaeaaGreat
namespace Go.D
variable {α:Type} {R:Rep α} {S D:Nat→Prop} {h h' K K':DHeap} {v:Value} {l:List α} {id:Nat} {o:DObj}
structure KpD (D:Nat→Prop) (h K:DHeap):Prop where
 next:h.next≤K.next
 ng:K.ng=h.ng
 get:∀ i,i<h.next→¬ D i→K.get i=h.get i
theorem KpD.refl (D:Nat→Prop) (h:DHeap):KpD D h h:=⟨Nat.le_refl _,rfl,fun _ _ _=>rfl⟩
theorem KpD.set (k:KpD D h K) (hD:D id∨h.next≤id):KpD D h (K.set id o):=
 ⟨k.next,k.ng,fun i hi hn=>(Zv _ _ (fun e:i=id=>by
  subst e
  rcases hD with hD | hD
  ·exact hn hD
  ·omega)).trans (k.get i hi hn)⟩
theorem KpD.ext (k:KpD D h K) (e:Ext K K'):KpD D h K':=
 ⟨Nat.le_trans k.next e.next,e.ng.trans k.ng,fun i hi hn=>(e.get i (Nat.lt_of_lt_of_le hi k.next)).trans (k.get i hi hn)⟩
theorem KpD.of (e:Ext h K):KpD D h K:=(KpD.refl D h).ext e
theorem KpD.toExt (k:KpD D h K) (e:Ext h' h) (hD:∀ i,D i→h'.next≤i):Ext h' K:=
 ⟨Nat.le_trans e.next k.next,k.ng.trans e.ng,fun i hi=>(k.get i (Nat.lt_of_lt_of_le hi e.next) (fun hd=>by have:=hD i hd;omega)).trans (e.get i hi)⟩
theorem Sl.kp (a:Sl R S h v l) (k:KpD D h K) (hS:∀ i,S i→i<h.next∧¬ D i):Sl R S K v l:=a.mono fun i hi=>⟨hi,k.get i (hS i hi).1 (hS i hi).2⟩
theorem K5b {F:FRep α} {z:Nat} (a:Sl F.rep S h v l) (k:∀ i,S i→NoRow h i z→K.get i=h.get i) (hz:F.z≠z:=by decide) (hz0:∀ cs esz ro,∀ i,S i→h.get i=some (.row cs esz ro)→ro=false∨True:=fun _ _ _ _ _ _=>.inr trivial):Sl F.rep S K v l:=by
 rcases a with a | ⟨id,o,cap,cells,esz,ro,e,b,c,d,f⟩
 ·exact .inl a
 ·refine .inr ⟨id,o,cap,cells,esz,ro,e,b,(k id b fun cs g=>?_).trans c,d,f.1,Els.flat.2 (Els.flat.1 f.2)⟩
  rw[c]at g
  cases g
  rcases d with d | d
  ·cases d
  ·exact hz d.symm
theorem MapAt.kp {κ:Type} {enc:κ→Value} {m:List (κ × Value)} (a:MapAt enc h id m) (k:KpD D h K) (hi:id<h.next) (hn:¬ D id):MapAt enc K id m:=a.keep (k.get id hi hn)
end Go.D
namespace Go.Proofs.YtheamfnbfgiaeaaGreat
open Go.D
set_option maxRecDepth 100000
def WU (t:Txn) (vc va vr vw:Value) (g:List Int) (hm mm am:Nat) (vo:Value) (pc:Int):List Value:=
 .int .i64 t.ses :: .int .i64 t.req :: vc :: va :: vr :: vw :: (g.map (fun n=>Value.int .i64 n)++[.map (some hm),.map (some mm),vo,.int .i64 pc,.map (some am)])
theorem i6a {g:List Int} (h:g.length=8):∃ a b c d e f i j,g=[a,b,c,d,e,f,i,j]:=by
 match g,h with
 | [a,b,c,d,e,f,i,j],_=>exact ⟨a,b,c,d,e,f,i,j,rfl⟩
section
variable {t:Txn} {vc va vr vw vo:Value} {g:List Int} {hm mm am:Nat} {pc:Int}
theorem n6a (hg:g.length=8):(WU t vc va vr vw g hm mm am vo pc).length=19:=by simp[WU,hg]
theorem H5b (hg:g.length=8) {a:Nat} (ha:a<8):(WU t vc va vr vw g hm mm am vo pc)[6+a]? = some (.int .i64 (g.getD a 0)):=by
 obtain ⟨r0,r1,r2,r3,r4,r5,r6,r7,rfl⟩:=i6a hg
 match a,ha with
 | 0,_=>rfl
 | 1,_=>rfl
 | 2,_=>rfl
 | 3,_=>rfl
 | 4,_=>rfl
 | 5,_=>rfl
 | 6,_=>rfl
 | 7,_=>rfl
theorem v1a (hg:g.length=8):(WU t vc va vr vw g hm mm am vo pc)[14]? = some (.map (some hm))∧(WU t vc va vr vw g hm mm am vo pc)[15]? = some (.map (some mm))∧(WU t vc va vr vw g hm mm am vo pc)[16]? = some vo∧(WU t vc va vr vw g hm mm am vo pc)[17]? = some (.int .i64 pc)∧(WU t vc va vr vw g hm mm am vo pc)[18]? = some (.map (some am)):=by
 obtain ⟨r0,r1,r2,r3,r4,r5,r6,r7,rfl⟩:=i6a hg
 exact ⟨rfl,rfl,rfl,rfl,rfl⟩
theorem L6b (hg:g.length=8) {a:Nat} (ha:a<8) (v:Int):Xy (WU t vc va vr vw g hm mm am vo pc) (6+a) [.int .i64 v]=WU t vc va vr vw (g.set a v) hm mm am vo pc:=by
 obtain ⟨r0,r1,r2,r3,r4,r5,r6,r7,rfl⟩:=i6a hg
 match a,ha with
 | 0,_=>rfl
 | 1,_=>rfl
 | 2,_=>rfl
 | 3,_=>rfl
 | 4,_=>rfl
 | 5,_=>rfl
 | 6,_=>rfl
 | 7,_=>rfl
theorem K6b (hg:g.length=8) (v:Value):Xy (WU t vc va vr vw g hm mm am vo pc) 16 [v]=WU t vc va vr vw g hm mm am v pc:=by
 obtain ⟨r0,r1,r2,r3,r4,r5,r6,r7,rfl⟩:=i6a hg
 rfl
theorem M7a (hg:g.length=8) (n:Int):Xy (WU t vc va vr vw g hm mm am vo pc) 17 [.int .i64 n]=WU t vc va vr vw g hm mm am vo n:=by
 obtain ⟨r0,r1,r2,r3,r4,r5,r6,r7,rfl⟩:=i6a hg
 rfl
end
structure D6a (h0:DHeap) (b hm mm am:Nat) (t:Txn) (vc va vr vw:Value) (m:List Pair) (L:List Instr):Prop where
 lb:b<h0.next
 lh:hm<h0.next
 lm:mm<h0.next
 la:am<h0.next
 bm:b≠mm
 hb:hm≠b
 hmm:hm≠mm
 ab:am≠b
 amm:am≠mm
 tx:TxV (fun i=>i<h0.next∧¬ (i=b∨i=mm)) h0 t vc va vr vw
 len:P3a t
 has:MapAt Zq h0 hm (M1a Pair.k (fun p=>.int .i64 p.v) m)
 at_:∃ ms:List (Int × Value),MapAt (fun n:Int=>Value.int .i64 n) h0 am ms∧∀ (i:Nat) x,L[i]? = some x→Vz ms x.pos=some (.int .i64 (i:Nat))
 okm:∀ p∈m,fPair.ok p
structure RunI (h0 K:DHeap) (b hm mm am:Nat) (t:Txn) (vc va vr vw:Value) (s:RS) (pc:Int):Prop where
 kp:KpD (fun i=>i=b∨i=mm) h0 K
 row:∃ vo w,K.get b=some (.row (WU t vc va vr vw s.reg hm mm am vo pc) 0 false)∧Owns fI64.rep NoS K vo s.out w∧∀ i,w=some i→h0.next≤i
 mine:MapAt Zq K mm (M1a Change.k X0a s.w)
 len:s.reg.length=8
 ok:∀ n∈s.reg,inK .i64 n
 outn:s.out.length≤8
 wok:∀ c∈s.w,fChange.ok c
section
variable {h0 K K':DHeap} {b hm mm am:Nat} {t:Txn} {vc va vr vw:Value} {m:List Pair} {L:List Instr} {s:RS} {pc:Int}
theorem RunI.ext (C:D6a h0 b hm mm am t vc va vr vw m L) (I:RunI h0 K b hm mm am t vc va vr vw s pc) (e:Ext K K'):RunI h0 K' b hm mm am t vc va vr vw s pc:=by
 obtain ⟨vo,w,g,o,hw⟩:=I.row
 have hn:=I.kp.next
 have hlb:=C.lb
 have hlm:=C.lm
 exact ⟨I.kp.ext e,⟨vo,w,(e.get _ (by omega)).trans g,o.mono e.next (fun i hi=>e.get i (o.lt i hi)) (fun i hi=>hi.elim),hw⟩,I.mine.keep (e.get _ (by omega)),I.len,I.ok,I.outn,I.wok⟩
theorem RunI.tx (C:D6a h0 b hm mm am t vc va vr vw m L) (I:RunI h0 K b hm mm am t vc va vr vw s pc):TxV (InH K) K t vc va vr vw:=
 C.tx.mono fun i hi=>⟨Nat.lt_of_lt_of_le hi.1 I.kp.next,I.kp.get i hi.1 hi.2⟩
theorem RunI.box (C:D6a h0 b hm mm am t vc va vr vw m L) (I:RunI h0 K b hm mm am t vc va vr vw s pc) {s':RS} {pc':Int} {vo:Value} {w:Option Nat} (ho:Owns fI64.rep NoS K vo s'.out w) (hw:∀ i,w=some i→h0.next≤i) (hwm:s'.w=s.w) (hl:s'.reg.length=8) (hok:∀ n∈s'.reg,inK .i64 n) (hn:s'.out.length≤8) :
 RunI h0 (K.set b (.row (WU t vc va vr vw s'.reg hm mm am vo pc') 0 false)) b hm mm am t vc va vr vw s' pc':=by
 have hlb:=C.lb
 refine ⟨I.kp.set (.inl (.inl rfl)),⟨vo,w,ZX _ _,ho.mono (Nat.le_refl _) (fun i hi=>Zv _ _ (by have:=hw i hi;omega)) (fun i hi=>hi.elim),hw⟩,?_,hl,hok,hn,by rw[hwm];exact I.wok⟩
 rw[hwm]
 exact I.mine.keep (Zv _ _ (fun e=>C.bm e.symm))
theorem RunI.reg (C:D6a h0 b hm mm am t vc va vr vw m L) (I:RunI h0 K b hm mm am t vc va vr vw s pc) {vo:Value} (g:K.get b=some (.row (WU t vc va vr vw s.reg hm mm am vo pc) 0 false)) {a v:Int} (hv:inK .i64 v):RunI h0 (K.set b (.row (WU t vc va vr vw (s.reg.set a.toNat v) hm mm am vo pc) 0 false)) b hm mm am t vc va vr vw (s.set a v) pc:=by
 obtain ⟨vo',w,g',o,hw⟩:=I.row
 have:vo'=vo:=by
  rw[g]at g'
  injection g' with g'
  injection g' with g'
  have h1:=(v1a (t:=t) (vc:=vc) (va:=va) (vr:=vr) (vw:=vw) (vo:=vo) (hm:=hm) (mm:=mm) (am:=am) (pc:=pc) I.len).2.2.1
  have h2:=(v1a (t:=t) (vc:=vc) (va:=va) (vr:=vr) (vw:=vw) (vo:=vo') (hm:=hm) (mm:=mm) (am:=am) (pc:=pc) I.len).2.2.1
  rw[g',h2]at h1
  exact Option.some.inj h1
 subst this
 refine I.box C (s':=s.set a v) o hw rfl (by simp[I.len]) (fun n hn=>?_) I.outn
 rcases List.mem_or_eq_of_mem_set hn with hn | rfl
 ·exact I.ok n hn
 ·exact hv
theorem RunI.pc' (C:D6a h0 b hm mm am t vc va vr vw m L) (I:RunI h0 K b hm mm am t vc va vr vw s pc) {vo:Value} (g:K.get b=some (.row (WU t vc va vr vw s.reg hm mm am vo pc) 0 false)) (n:Int):RunI h0 (K.set b (.row (WU t vc va vr vw s.reg hm mm am vo n) 0 false)) b hm mm am t vc va vr vw s n:=by
 obtain ⟨vo',w,g',o,hw⟩:=I.row
 have:vo'=vo:=by
  rw[g]at g'
  injection g' with g'
  injection g' with g'
  have h1:=(v1a (t:=t) (vc:=vc) (va:=va) (vr:=vr) (vw:=vw) (vo:=vo) (hm:=hm) (mm:=mm) (am:=am) (pc:=pc) I.len).2.2.1
  have h2:=(v1a (t:=t) (vc:=vc) (va:=va) (vr:=vr) (vw:=vw) (vo:=vo') (hm:=hm) (mm:=mm) (am:=am) (pc:=pc) I.len).2.2.1
  rw[g',h2]at h1
  exact Option.some.inj h1
 subst this
 exact I.box C o hw rfl I.len I.ok I.outn
theorem RunI.put (C:D6a h0 b hm mm am t vc va vr vw m L) (I:RunI h0 K b hm mm am t vc va vr vw s pc) {c:Change} {o:DObj} (hm2:MapAt Zq (K.set mm o) mm (a1a (M1a Change.k X0a s.w) c.k (X0a c))) (hc:fChange.ok c):RunI h0 (K.set mm o) b hm mm am t vc va vr vw (s.put c) pc:=by
 obtain ⟨vo,w,g,ow,hw⟩:=I.row
 have hlm:=C.lm
 refine ⟨I.kp.set (.inl (.inr rfl)),⟨vo,w,(Zv _ _ C.bm).trans g,ow.mono (Nat.le_refl _) (fun i hi=>Zv _ _ (by have:=hw i hi;omega)) (fun i hi=>hi.elim),hw⟩,?_,I.len,I.ok,I.outn,fun x hx=>?_⟩
 ·rw[show (s.put c).w=s.w++[c] from rfl,t5a]
  exact hm2
 ·rcases List.mem_append.1 hx with hx | hx
  ·exact I.wok x hx
  ·rw[List.mem_singleton.1 hx]
   exact hc
end
theorem U5c:Tryz.prog.underlying 149=some (.map 3 3):=by kernel_rfl
theorem w8c:d8a Tryz.prog 149 (fun n:Int=>Value.int .i64 n) (.int .i64 0):=⟨_,_,U5c,KeyOf.int (by kernel_rfl),by kernel_rfl⟩
theorem l0b {m:List Pair} {w:List Change} {k:Key} {c:Change} (h:Yk Change.k w k=some c):J2a m w k=(c.v,!c.e):=by unfold J2a;rw[h]
theorem O8a {m:List Pair} {w:List Change} {k:Key} {p:Pair} (h:Yk Change.k w k=none) (hp:Yk Pair.k m k=some p):J2a m w k=(p.v,true):=by unfold J2a;rw[h,hp]
theorem c2b {m:List Pair} {w:List Change} {k:Key} (h:Yk Change.k w k=none) (hp:Yk Pair.k m k=none):J2a m w k=(0,false):=by unfold J2a;rw[h,hp]
set_option maxHeartbeats 1000000 in
theorem d2b {h0 h:DHeap} {b hm mm am:Nat} {t:Txn} {vc va vr vw:Value} {m:List Pair} {L:List Instr} {s:RS} {pc:Int} {k:Key} (C:D6a h0 b hm mm am t vc va vr vw m L) (I:RunI h0 h b hm mm am t vc va vr vw s pc) :
 DC Tryz.prog 106 [.pointer (some ⟨b,0,none⟩),Zq k] h (.ret (.tuple #[.int .i64 (J2a m s.w k).1,.bool (J2a m s.w k).2])) h:=by
 refine Ct.pure (A5d (by simp) ?_) (b3a _ rfl)
 obtain ⟨K1,hK1⟩:∃ H,H=h.push (.row [.int .i32 k.t,.int .i64 k.r] 0 false):=⟨_,rfl⟩
 have g1:K1.get h.next=some (.row [.int .i32 k.t,.int .i64 k.r] 0 false):=by rw[hK1];exact Zz _ _
 have e1:Ext h K1:=by rw[hK1];exact Ext.push1 _ _
 have n1:K1.next=h.next+1:=by rw[hK1];rfl
 obtain ⟨K2,hK2⟩:∃ H,H=K1.push (.row [.int .i32 0,.int .i64 0,.int .i64 0,.bool false] 0 false):=⟨_,rfl⟩
 have e2:Ext K1 K2:=by rw[hK2];exact Ext.push1 _ _
 have n2:K2.next=h.next+2:=by rw[hK2,g0a,n1]
 have hcl:(Zq k).cells.toList=[.int .i32 k.t,.int .i64 k.r]:=rfl
 have I2:=I.ext C (e1.trans e2)
 obtain ⟨vo,w,gb,_,_⟩:=I2.row
 obtain ⟨t14,t15,_,_,_⟩:=v1a (t:=t) (vc:=vc) (va:=va) (vr:=vr) (vw:=vw) (vo:=vo) (hm:=hm) (mm:=mm) (am:=am) (pc:=pc) I.len
 have c15:Zu K2 b 15=some (.map (some mm)):=(Zy gb).trans t15
 have c14:Zu K2 b 14=some (.map (some hm)):=(Zy gb).trans t14
 have lk:Zx K2 h.next 0 2=some (Zq k):=by rw[Zw ((e2.get _ (by omega)).trans g1) (Nat.le_of_ble_eq_true rfl)];rfl
 have hl:=I2.mine.lookup c9a k true
 rw[q5a]at hl
 have hnb:b<h.next:=Nat.lt_of_lt_of_le C.lb I.kp.next
 have gh:K2.get K1.next=some (.row [.int .i32 0,.int .i64 0,.int .i64 0,.bool false] 0 false):=by rw[hK2];exact Zz _ _
 cases hq:Yk Change.k s.w k with
 | some c=>
   rw[hq]at hl
   simp only[Option.map_some,Option.getD_some,Option.isSome_some,if_true]at hl
   obtain ⟨K3,hK3⟩:∃ H,H=K2.set K1.next (.row [.int .i32 c.k.t,.int .i64 c.k.r,.int .i64 c.v,.bool c.e] 0 false):=⟨_,rfl⟩
   have hst:Yw Tryz.prog 99 (.pointer (some ⟨K1.next,0,none⟩)) (X0a c) K2=some K3:=by
    rw[hK3]
    exact (i9a rfl).trans (ZJ gh (Nat.le_of_ble_eq_true rfl) rfl)
   have g3:K3.get K1.next=some (.row [.int .i32 c.k.t,.int .i64 c.k.r,.int .i64 c.v,.bool c.e] 0 false):=by rw[hK3];exact ZX _ _
   have q1:Zu K3 K1.next 2=some (.int .i64 c.v):=Zy g3
   have q2:Zu K3 K1.next 3=some (.bool c.e):=Zy g3
   have e3:Ext h K3:=by rw[hK3];exact (e1.trans e2).set (by omega)
   simp -implicitDefEqProofs (disch:=first|omega|simp only[go_sem]) only[go_sem,true_and,R3c,hcl,← hK1]
   refine X5b rfl ?_
   simp -implicitDefEqProofs (disch:=first|omega|simp only[go_sem]) only[go_sem,true_and,f5b,A5b]
   simp -implicitDefEqProofs (disch:=first|omega|simp only[go_sem]) only[go_sem,true_and,← hK2,c15,lk,hl,hst]
   refine ⟨⟨gh,trivial⟩,?_⟩
   refine b6c rfl ?_
   simp -implicitDefEqProofs (disch:=first|omega|simp only[go_sem]) only[go_sem,true_and,n1c,z2c,q1,q2]
   exact ⟨_,rfl,by rw[l0b hq],e3⟩
 | none=>
   rw[hq]at hl
   simp only[Option.map_none,Option.getD_none,Option.isSome_none,if_true]at hl
   obtain ⟨K3,hK3⟩:∃ H,H=K2.set K1.next (.row [.int .i32 0,.int .i64 0,.int .i64 0,.bool false] 0 false):=⟨_,rfl⟩
   have hst:Yw Tryz.prog 99 (.pointer (some ⟨K1.next,0,none⟩)) (X0a i5d) K2=some K3:=by
    rw[hK3]
    exact (i9a rfl).trans (ZJ gh (Nat.le_of_ble_eq_true rfl) rfl)
   have hself:K3=K2:=by rw[hK3];exact n3a gh
   rw[hself]at hst
   have hl2:=(C.has.kp I2.kp C.lh (fun e=>e.elim C.hb C.hmm)).lookup W0b k true
   rw[q5a]at hl2
   simp -implicitDefEqProofs (disch:=first|omega|simp only[go_sem]) only[go_sem,true_and,R3c,hcl,← hK1]
   refine X5b rfl ?_
   simp -implicitDefEqProofs (disch:=first|omega|simp only[go_sem]) only[go_sem,true_and,f5b,A5b]
   simp -implicitDefEqProofs (disch:=first|omega|simp only[go_sem]) only[go_sem,true_and,← hK2,c15,lk,hl,hst]
   refine ⟨⟨gh,trivial⟩,?_⟩
   refine c6c rfl ?_
   cases hp:Yk Pair.k m k with
   | some p=>
     rw[hp]at hl2
     simp only[Option.map_some,Option.getD_some,Option.isSome_some,if_true]at hl2
     simp -implicitDefEqProofs (disch:=first|omega|simp only[go_sem]) only[go_sem,true_and,g5b,B5b,c14,lk,hl2]
     exact ⟨_,rfl,by rw[O8a hq hp],e1.trans e2⟩
   | none=>
     rw[hp]at hl2
     simp only[Option.map_none,Option.getD_none,Option.isSome_none,if_true]at hl2
     simp -implicitDefEqProofs (disch:=first|omega|simp only[go_sem]) only[go_sem,true_and,g5b,B5b,c14,lk,hl2]
     exact ⟨_,rfl,by rw[c2b hq hp],e1.trans e2⟩
theorem z1c {h0 h:DHeap} {b hm mm am:Nat} {t:Txn} {vc va vr vw vo:Value} {m:List Pair} {L:List Instr} {s:RS} {pc:Int} {i:Nat} {x:Instr} (C:D6a h0 b hm mm am t vc va vr vw m L) (I:RunI h0 h b hm mm am t vc va vr vw s pc) (hx:L[i]? = some x) (g:h.get b=some (.row (WU t vc va vr vw s.reg hm mm am vo pc) 0 false)) :
 Ct Tryz.prog 109 [.pointer (some ⟨b,0,none⟩),.int .i64 x.pos] h fun r h1=>r=.ret (.tuple #[])∧h1=h.set b (.row (WU t vc va vr vw s.reg hm mm am vo (i:Nat)) 0 false):=by
 refine D5d (by simp) ?_
 obtain ⟨ms,ha,hat⟩:=C.at_
 obtain ⟨_,_,_,_,t18⟩:=v1a (t:=t) (vc:=vc) (va:=va) (vr:=vr) (vw:=vw) (vo:=vo) (hm:=hm) (mm:=mm) (am:=am) (pc:=pc) I.len
 have c18:Zu h b 18=some (.map (some am)):=(Zy g).trans t18
 have hl:=(ha.kp I.kp C.la (fun e=>e.elim C.ab C.amm)).lookup w8c x.pos false
 rw[hat i x hx]at hl
 simp only[Bool.false_eq_true,if_false,Option.getD_some]at hl
 have hst:storeAt h b 17 [.int .i64 (i:Nat)]=some (h.set b (.row (WU t vc va vr vw s.reg hm mm am vo (i:Nat)) 0 false)):=by
  rw[ZJ g (by rw[n6a I.len];exact Nat.le_of_ble_eq_true rfl) rfl,M7a I.len]
 simp -implicitDefEqProofs (disch:=first|omega|simp only[go_sem]) only[go_sem,true_and,f4d,c18,hl,hst]
 exact ⟨_,rfl,rfl,trivial⟩
end Go.Proofs.YtheamfnbfgiaeaaGreat
namespace Go.Proofs.YtheamfnbfgiaeaaGreat
open Go.D
set_option maxRecDepth 100000
theorem f2d {a b:Int} (h:inK .i64 a):inK .i64 (a.tmod b):=by
 rw[m0a]at h ⊢
 have h1:=Int.natAbs_tmod a b
 have h2:a.natAbs % b.natAbs≤a.natAbs:=Nat.mod_le _ _
 by_cases ha:0≤a
 ·have:=Int.tmod_nonneg b ha
  omega
 ·have e:a.tmod b=-((-a).tmod b):=by rw[Int.neg_tmod,Int.neg_neg]
  have:=Int.tmod_nonneg b (show 0 ≤ -a by omega)
  omega
theorem t1d {a:Int} {n:Nat} (h:inK .i64 a):inK .i64 (a.fdiv (2 ^ n)):=by
 have hc:(0:Int)<2 ^ n:=Int.pow_pos (by decide)
 rw[Int.fdiv_eq_ediv_of_nonneg _ (Int.le_of_lt hc)]
 obtain ⟨c,hcc⟩:∃ c:Int,2 ^ n=c:=⟨_,rfl⟩
 rw[hcc]at hc ⊢
 rw[m0a]at h ⊢
 by_cases ha:0≤a
 ·have h1:=Int.ediv_nonneg ha (Int.le_of_lt hc)
  have h2:=Int.ediv_le_self c ha
  omega
 ·have h1:=Int.ediv_neg_of_neg_of_pos (show a<0 by omega) hc
  have h2:a≤a / c:=(Int.le_ediv_iff_mul_le hc).2 (by
   have:a*(c - 1)≤0:=Int.mul_nonpos_of_nonpos_of_nonneg (by omega) (by omega)
   rw[Int.mul_sub,Int.mul_one]at this
   omega)
  omega
theorem c7b {o a b:Int} (ha:inK .i64 a):inK .i64 (W0a o a b).1∧((W0a o a b).2=0∨(W0a o a b).2=1∨(W0a o a b).2=3):=by
 have z0:inK .i64 0:=m0a.2 ⟨by decide,by decide⟩
 have z1:inK .i64 1:=m0a.2 ⟨by decide,by decide⟩
 unfold W0a
 simp only
 have key:∀ {P:Int × Int→Prop} {c:Prop} [Decidable c] {x y:Int × Int},P x→P y→P (if c then x else y):=fun {P c _ x y} h1 h2=>by
  by_cases h:c
  ·rw[if_pos h];exact h1
  ·rw[if_neg h];exact h2
 have w:∀ n,inK .i64 (IntKind.i64.wrap n):=fun n=>k9a _ _
 repeat' (refine key (P:=fun r=>inK .i64 r.1∧(r.2=0∨r.2=1∨r.2=3)) ?_ ?_)
 all_goals first
  | exact ⟨w _,.inl rfl⟩
  | exact ⟨z0,.inr (.inr rfl)⟩
  | exact ⟨f2d ha,.inl rfl⟩
  | exact ⟨t1d ha,.inl rfl⟩
  | exact ⟨z0,.inr (.inl rfl)⟩
  | (refine ⟨?_,.inl rfl⟩
     show inK .i64 (if _ then 1 else 0)
     split
     ·exact z1
     ·exact z0)
theorem G2b {a n:Int} (ha:inK .i64 a):inK .i64 (r5a a n):=by
 unfold r5a
 have h8:inK .i64 (IntKind.i8.wrap a):=by rw[m0a];simp[IntKind.wrap,IntKind.signed,IntKind.bits];omega
 have h16:inK .i64 (IntKind.i16.wrap a):=by rw[m0a];simp[IntKind.wrap,IntKind.signed,IntKind.bits];omega
 have h32:inK .i64 (IntKind.i32.wrap a):=by rw[m0a];simp[IntKind.wrap,IntKind.signed,IntKind.bits];omega
 repeat' split
 all_goals assumption
theorem j9a {m:List Pair} {w:List Change} {k:Key} (hm:∀ p∈m,fPair.ok p) (hw:∀ c∈w,fChange.ok c):inK .i64 (J2a m w k).1:=by
 cases hq:Yk Change.k w k with
 | some c=>rw[l0b hq];exact (hw c (d0a hq).1).2.1
 | none=>
   cases hp:Yk Pair.k m k with
   | some p=>rw[O8a hq hp];exact (hm p (d0a hp).1).2
   | none=>rw[c2b hq hp];exact m0a.2 ⟨by decide,by decide⟩
theorem V1a {s:RS} (h:∀ n∈s.reg,inK .i64 n) (i:Int):inK .i64 (s.r i):=by
 show inK .i64 (s.reg.getD i.toNat 0)
 rw[List.getD_eq_getElem?_getD]
 cases hq:s.reg[i.toNat]? with
 | some x=>exact h x (List.mem_of_getElem? hq)
 | none=>exact m0a.2 ⟨by decide,by decide⟩
theorem s1b {t:Txn} {m:List Pair} {x:Instr} {s:RS}:(ZW t m x s).2.1.w.length≤s.w.length+1:=by
 unfold ZW
 repeat' (refine V1b (P:=fun r:Int × RS × Option Int=>r.2.1.w.length≤s.w.length+1) (fun _=>?_) (fun _=>?_))
 all_goals simp
end Go.Proofs.YtheamfnbfgiaeaaGreat
namespace Go.Proofs.YtheamfnbfgiaeaaGreat
open Go.D
set_option maxRecDepth 100000
theorem U8a {k:Key} {v:Int}:XW Tryz.prog 99 [(0,Zq k),(1,.int .i64 v)]=some (X0a ⟨k,v,false⟩):=l0a w2c rfl
theorem a7b {k:Key}:XW Tryz.prog 99 [(0,Zq k),(2,.bool true)]=some (X0a ⟨k,0,true⟩):=l0a w2c rfl
theorem A1b {t r:Int}:XW Tryz.prog 31 [(0,.int .i32 t),(1,.int .i64 r)]=some (Zq ⟨t,r⟩):=l0a v2c rfl
theorem T9c:V6a Tryz.prog 126=some (8,1):=by kernel_rfl
theorem Q5a {id o:Nat} {a:Int} (h0:0≤a) (h8:a<8):Yj Tryz.prog 126 (.pointer (some ⟨id,o,none⟩)) (.int .i64 a)=some (.pointer (some ⟨id,o+a.toNat,none⟩)):=by
 rw[N4a T9c h0 (by omega),Nat.mul_one]
section
variable {t:Txn} {m:List Pair} {x:Instr} {s:RS}
theorem se0 (h:x.op=0):ZW t m x s=(0,s,none):=by unfold ZW;rw[h];rfl
theorem se1 (h:x.op=1):ZW t m x s=(-1,s.set x.a x.imm,none):=by unfold ZW;rw[h];rfl
theorem se2 (h:x.op=2):ZW t m x s=(-1,s.set x.a (t.args.getD x.imm.toNat 0),none):=by unfold ZW;rw[h];rfl
theorem se7 (h:x.op=7):ZW t m x s=(-1,s.set x.a (s.r x.b),none):=by unfold ZW;rw[h];rfl
theorem se3 (h:x.op=3):ZW t m x s=(-1,s.set x.a (J2a m s.w (t.reads.getD x.imm.toNat s2a)).1,none):=by unfold ZW;rw[h];rfl
theorem se4 (h:x.op=4):ZW t m x s=(-1,s.set x.a (if (J2a m s.w (t.reads.getD x.imm.toNat s2a)).2 then 1 else 0),none):=by unfold ZW;rw[h];rfl
theorem se5 {k:Key} (h:x.op=5) (hk:t.writes.getD x.imm.toNat s2a=k):ZW t m x s=(-1,s.put ⟨k,s.r x.a,false⟩,none):=by subst hk;unfold ZW;rw[h];rfl
theorem se6 {k:Key} (h:x.op=6) (hk:t.writes.getD x.imm.toNat s2a=k):ZW t m x s=(-1,s.put ⟨k,0,true⟩,none):=by subst hk;unfold ZW;rw[h];rfl
theorem U6d (h:x.op=19):ZW t m x s=(-1,s.set x.a (r5a (s.r x.a) x.imm),none):=by unfold ZW;rw[h];rfl
theorem V6d (h:x.op=22):ZW t m x s=(-1,s,some x.imm):=by unfold ZW;rw[h];rfl
theorem B9c (h:x.op=23) (z:s.r x.a=0):ZW t m x s=(-1,s,none):=by
 have:ZW t m x s=(-1,s,if s.r x.a=0 then none else some x.imm):=by unfold ZW;rw[h];rfl
 rw[this,if_pos z]
theorem W6d (h:x.op=23) (z:¬ s.r x.a=0):ZW t m x s=(-1,s,some x.imm):=by
 have:ZW t m x s=(-1,s,if s.r x.a=0 then none else some x.imm):=by unfold ZW;rw[h];rfl
 rw[this,if_neg z]
theorem C9c (h:x.op=24) (z:8≤s.out.length):ZW t m x s=(5,s,none):=by
 have:ZW t m x s=(if 8≤s.out.length then (5,s,none) else (-1,{ s with out:=s.out++[s.r x.a] },none)):=by unfold ZW;rw[h];rfl
 rw[this,if_pos z]
theorem X6d (h:x.op=24) (z:¬ 8≤s.out.length):ZW t m x s=(-1,{ s with out:=s.out++[s.r x.a] },none):=by
 have:ZW t m x s=(if 8≤s.out.length then (5,s,none) else (-1,{ s with out:=s.out++[s.r x.a] },none)):=by unfold ZW;rw[h];rfl
 rw[this,if_neg z]
theorem Y6d (h:x.op=25):ZW t m x s=(100+x.imm,s,none):=by unfold ZW;rw[h];rfl
theorem Z6d {k:Key} (h:x.op=26) (hk:E2a x s=k) (z:k∈t.reads):ZW t m x s=(-1,s.set x.a (J2a m s.w k).1,none):=by
 subst hk
 have:ZW t m x s=(if E2a x s∈t.reads then (-1,s.set x.a (J2a m s.w (E2a x s)).1,none) else (4,s,none)):=by unfold ZW;rw[h];rfl
 rw[this,if_pos z]
theorem D9c {k:Key} (h:x.op=26) (hk:E2a x s=k) (z:¬ k∈t.reads):ZW t m x s=(4,s,none):=by
 subst hk
 have:ZW t m x s=(if E2a x s∈t.reads then (-1,s.set x.a (J2a m s.w (E2a x s)).1,none) else (4,s,none)):=by unfold ZW;rw[h];rfl
 rw[this,if_neg z]
theorem a7d {k:Key} (h:x.op=27) (hk:E2a x s=k) (z:k∈t.writes):ZW t m x s=(-1,s.put ⟨k,s.r x.a,false⟩,none):=by
 subst hk
 have:ZW t m x s=(if E2a x s∈t.writes then (-1,s.put ⟨E2a x s,s.r x.a,false⟩,none) else (4,s,none)):=by unfold ZW;rw[h];rfl
 rw[this,if_pos z]
theorem E9c {k:Key} (h:x.op=27) (hk:E2a x s=k) (z:¬ k∈t.writes):ZW t m x s=(4,s,none):=by
 subst hk
 have:ZW t m x s=(if E2a x s∈t.writes then (-1,s.put ⟨E2a x s,s.r x.a,false⟩,none) else (4,s,none)):=by unfold ZW;rw[h];rfl
 rw[this,if_neg z]
def X1b (n:Int):Prop:=n≠0∧n≠1∧n≠2∧n≠7∧n≠3∧n≠4∧n≠5∧n≠6∧n≠19∧n≠22∧n≠23∧n≠24∧n≠25∧n≠26∧n≠27
theorem seb (h:X1b x.op):ZW t m x s=if (W0a x.op (s.r x.a) (s.r x.b)).2=0 then (-1,s.set x.a (W0a x.op (s.r x.a) (s.r x.b)).1,none) else ((W0a x.op (s.r x.a) (s.r x.b)).2,s,none):=by
 obtain ⟨h0,h1,h2,h7,h3,h4,h5,h6,h19,h22,h23,h24,h25,h26,h27⟩:=h
 unfold ZW
 rw[if_neg h0,if_neg h1,if_neg h2,if_neg h7,if_neg h3,if_neg h4,if_neg h5,if_neg h6,if_neg h19,if_neg h22,if_neg h23,if_neg h24,if_neg h25,if_neg h26,if_neg h27]
end
def StepP (h0:DHeap) (b hm mm am:Nat) (t:Txn) (vc va vr vw:Value) (m:List Pair) (L:List Instr) (x:Instr) (s:RS) (pc:Int) (r:DEnd) (h1:DHeap):Prop:=
 r=.ret (.int .i64 (ZW t m x s).1)∧∃ pc',RunI h0 h1 b hm mm am t vc va vr vw (ZW t m x s).2.1 pc'∧((ZW t m x s).2.2=none→pc'=pc)∧∀ a,(ZW t m x s).2.2=some a→∃ (i:Nat) (y:Instr),L[i]? = some y∧y.pos=a∧pc'=(i:Nat)
section
variable {h0 h1:DHeap} {b hm mm am:Nat} {t:Txn} {vc va vr vw:Value} {m:List Pair} {L:List Instr} {x:Instr} {s s':RS} {pc e:Int}
theorem StepP.of (E:ZW t m x s=(e,s',none)) (I:RunI h0 h1 b hm mm am t vc va vr vw s' pc):StepP h0 b hm mm am t vc va vr vw m L x s pc (.ret (.int .i64 e)) h1:=by
 unfold StepP
 rw[E]
 exact ⟨rfl,pc,I,fun _=>rfl,fun a ha=>by cases ha⟩
theorem StepP.jump {a:Int} {i:Nat} {y:Instr} (E:ZW t m x s=(e,s',some a)) (hy:L[i]? = some y) (hp:y.pos=a) (I:RunI h0 h1 b hm mm am t vc va vr vw s' (i:Nat)):StepP h0 b hm mm am t vc va vr vw m L x s pc (.ret (.int .i64 e)) h1:=by
 unfold StepP
 rw[E]
 exact ⟨rfl,_,I,fun ha=>(by cases ha),fun a ha=>by cases ha;exact ⟨i,y,hy,hp,rfl⟩⟩
end
set_option maxHeartbeats 4000000 in
theorem f7d {h0 h:DHeap} {b hm mm am:Nat} {t:Txn} {vc va vr vw:Value} {m:List Pair} {L:List Instr} {s:RS} {pc:Int} {x:Instr} (C:D6a h0 b hm mm am t vc va vr vw m L) (I:RunI h0 h b hm mm am t vc va vr vw s pc) (hx:y3b t x) (hj:F0a x.op=true→∃ (i:Nat) (y:Instr),L[i]? = some y∧y.pos=x.imm) :
 Ct Tryz.prog 72 [.pointer (some ⟨b,0,none⟩),XJ x] h (StepP h0 b hm mm am t vc va vr vw m L x s pc):=by
 obtain ⟨x1,x2,x3,x4,x5⟩:=x
 obtain ⟨R,hR⟩:∃ R,StepP h0 b hm mm am t vc va vr vw m L ⟨x1,x2,x3,x4,x5⟩ s pc=R:=⟨_,rfl⟩
 rw[hR]
 refine v9d (by simp) ?_
 obtain ⟨H,hH⟩:∃ H,H=h.push (.row [.int .i64 x1,.int .i64 x2,.int .i64 x3,.int .i64 x4,.int .i64 x5] 0 false):=⟨_,rfl⟩
 have hE:Ext h H:=by rw[hH];exact Ext.push1 _ _
 have gx:H.get h.next=some (.row [.int .i64 x1,.int .i64 x2,.int .i64 x3,.int .i64 x4,.int .i64 x5] 0 false):=by rw[hH];exact Zz _ _
 have hHn:H.next=h.next+1:=by rw[hH];rfl
 have IH:RunI h0 H b hm mm am t vc va vr vw s pc:=I.ext C hE
 have hbn:b<h.next:=Nat.lt_of_lt_of_le C.lb I.kp.next
 have hmn:mm<h.next:=Nat.lt_of_lt_of_le C.lm I.kp.next
 obtain ⟨vo,w,gb,ow,hw⟩:=IH.row
 have l8:=I.len
 obtain ⟨t14,t15,t16,t17,t18⟩:=v1a (t:=t) (vc:=vc) (va:=va) (vr:=vr) (vw:=vw) (vo:=vo) (hm:=hm) (mm:=mm) (am:=am) (pc:=pc) l8
 have a1:∀ K,Ext H K→Zu K h.next 1=some (.int .i64 x2):=fun K e=>Zy ((e.get _ (by omega)).trans gx)
 have a2:∀ K,Ext H K→Zu K h.next 2=some (.int .i64 x3):=fun K e=>Zy ((e.get _ (by omega)).trans gx)
 have a3:∀ K,Ext H K→Zu K h.next 3=some (.int .i64 x4):=fun K e=>Zy ((e.get _ (by omega)).trans gx)
 have a4:∀ K,Ext H K→Zu K h.next 4=some (.int .i64 x5):=fun K e=>Zy ((e.get _ (by omega)).trans gx)
 have gbK:∀ K,Ext H K→K.get b=some (.row (WU t vc va vr vw s.reg hm mm am vo pc) 0 false):=fun K e=>(e.get _ (by omega)).trans gb
 have ha8:x3.toNat<8:=by have:=hx.a;simp only at this;omega
 have hb8:x4.toNat<8:=by have:=hx.b;simp only at this;omega
 have ra:∀ K,Ext H K→Zu K b (6+x3.toNat)=some (.int .i64 (s.r x3)):=fun K e=>(Zy (gbK K e)).trans (H5b l8 ha8)
 have rb:∀ K,Ext H K→Zu K b (6+x4.toNat)=some (.int .i64 (s.r x4)):=fun K e=>(Zy (gbK K e)).trans (H5b l8 hb8)
 have b3:∀ K,Ext H K→Zu K b 3=some va:=fun K e=>Zy (gbK K e)
 have b4:∀ K,Ext H K→Zu K b 4=some vr:=fun K e=>Zy (gbK K e)
 have b5:∀ K,Ext H K→Zu K b 5=some vw:=fun K e=>Zy (gbK K e)
 have b15:∀ K,Ext H K→Zu K b 15=some (.map (some mm)):=fun K e=>(Zy (gbK K e)).trans t15
 have b16:∀ K,Ext H K→Zu K b 16=some vo:=fun K e=>(Zy (gbK K e)).trans t16
 have iaa:=Q5a (id:=b) (o:=6) hx.a.1 hx.a.2
 have iab:=Q5a (id:=b) (o:=6) hx.b.1 hx.b.2
 simp only at iaa iab
 have wst:∀ K v,Ext H K→storeAt K b (6+x3.toNat) [.int .i64 v]=some (K.set b (.row (WU t vc va vr vw (s.reg.set x3.toNat v) hm mm am vo pc) 0 false)):=fun K v e=>by
  rw[ZJ (gbK K e) (by rw[n6a l8];show 6+x3.toNat+1≤19;omega) rfl,L6b l8 ha8]
 have hTx:TxV (InH H) H t vc va vr vw:=IH.tx C
 have rx:Ext H H:=.refl H
 have iok:inK .i64 x5:=by have:=hx.imm;simp only at this;exact m0a.2 ⟨by omega,by omega⟩
 have zok:inK .i64 0:=m0a.2 ⟨by decide,by decide⟩
 have hcl:(XJ ⟨x1,x2,x3,x4,x5⟩).cells.toList=[.int .i64 x1,.int .i64 x2,.int .i64 x3,.int .i64 x4,.int .i64 x5]:=rfl
 have fin:∀ {K:DHeap} {s':RS} {e:Int},ZW t m ⟨x1,x2,x3,x4,x5⟩ s=(e,s',none)→RunI h0 K b hm mm am t vc va vr vw s' pc→∃ u,some (Value.int .i64 e)=some u∧R (.ret u) K:=fun E I'=>⟨_,rfl,by rw[← hR];exact .of E I'⟩
 have kok:∀ {l:List Key} {v:Value},Arg fKey.rep H v l→∀ (n:Nat),n<l.length→fKey.ok (l.getD n s2a):=fun hs n hn=>by
  rw[List.getD_eq_getElem?_getD,List.getElem?_eq_getElem hn]
  exact hs.ok _ (List.getElem_mem hn)
 have kat:∀ {l:List Key} {v:Value},Arg fKey.rep H v l→∀ (n:Int),0≤n→n<l.length→∃ id o,Yj Tryz.prog 24 v (.int .i64 n)=some (.pointer (some ⟨id,o,none⟩))∧∀ K,Ext H K→Zx K id o 2=some (Zq (l.getD n.toNat s2a)):=fun {l v} hs n h0 hn=>by
  have hn':n.toNat<l.length:=by omega
  obtain ⟨id,o,e1,hid,hat⟩:=hs.idx (P:=Tryz.prog) (t:=24) C2a (k:=.i64) (i:=n.toNat) (x:=l[n.toNat]) (by simp)
  have hnn:((n.toNat:Nat):Int)=n:=by omega
  rw[hnn]at e1
  refine ⟨id,o,e1,fun K e=>?_⟩
  have h2:=hat.flat.2.1
  rw[List.getD_eq_getElem?_getD,List.getElem?_eq_getElem hn']
  unfold Zx at h2 ⊢
  rw[e.get _ hid]
  exact h2
 obtain ⟨_,_,himm,himm0,hrd,hwr,har,hop⟩:=hx
 simp only at himm himm0 hrd hwr har hop hj
 simp -implicitDefEqProofs (disch:=first|omega|simp only[go_sem]) only[go_sem,true_and,c72,hcl,← hH]
 refine Z2d rfl ?_
 simp -implicitDefEqProofs (disch:=first|omega|simp only[go_sem]) only[go_sem,true_and,Z6c,b9c,a2 H rx,a3 H rx,iaa,iab,rb H rx,a1 H rx]
 by_cases c0:x2=0
 ·simp -implicitDefEqProofs (disch:=first|omega|simp only[go_sem]) only[go_sem,true_and,c0]
  exact fin (se0 (x:=⟨x1,x2,x3,x4,x5⟩) c0) IH
 by_cases c1:x2=1
 ·simp -implicitDefEqProofs (disch:=first|omega|simp only[go_sem]) only[go_sem,true_and,c1,a4 H rx,wst H _ rx]
  exact fin (se1 (x:=⟨x1,x2,x3,x4,x5⟩) c1) (IH.reg C gb iok)
 by_cases c2:x2=2
 ·have i0:0≤x5:=himm0 (by omega)
  have hl:x5.toNat<t.args.length:=by have:=har c2;omega
  obtain ⟨id1,o1,e1,_,hat1⟩:=hTx.a.idx (P:=Tryz.prog) (t:=23) X8a (k:=.i64) (i:=x5.toNat) (x:=t.args[x5.toNat]) (by simp)
  rw[show ((x5.toNat:Nat):Int)=x5 by omega]at e1
  have l1:Zu H id1 o1=some (.int .i64 (t.args.getD x5.toNat 0)):=by
   rw[List.getD_eq_getElem?_getD,List.getElem?_eq_getElem hl]
   exact hat1.int
  have hok:inK .i64 (t.args.getD x5.toNat 0):=by
   rw[List.getD_eq_getElem?_getD,List.getElem?_eq_getElem hl]
   exact hTx.a.ok _ (List.getElem_mem hl)
  simp -implicitDefEqProofs (disch:=first|omega|simp only[go_sem]) only[go_sem,true_and,c2]
  refine a3d rfl ?_
  simp -implicitDefEqProofs (disch:=first|omega|simp only[go_sem]) only[go_sem,true_and,a7c,c9c,a4 H rx,b3 H rx,e1,l1,wst H _ rx]
  exact fin (se2 (x:=⟨x1,x2,x3,x4,x5⟩) c2) (IH.reg C gb hok)
 by_cases c7:x2=7
 ·simp -implicitDefEqProofs (disch:=first|omega|simp only[go_sem]) only[go_sem,true_and,c7,wst H _ rx]
  exact fin (se7 (x:=⟨x1,x2,x3,x4,x5⟩) c7) (IH.reg C gb (V1a I.ok _))
 by_cases c3:x2=3
 ·obtain ⟨id1,o1,e1,l1⟩:=kat hTx.r x5 (himm0 (by omega)) (hrd (.inl c3))
  simp -implicitDefEqProofs (disch:=first|omega|simp only[go_sem]) only[go_sem,true_and,c3]
  refine b3d rfl ?_
  simp -implicitDefEqProofs (disch:=first|omega|simp only[go_sem]) only[go_sem,true_and,b7c,d9c,a4 H rx,b4 H rx,e1,l1 H rx]
  refine Q1a (d2b C IH) ?_
  simp -implicitDefEqProofs (disch:=first|omega|simp only[go_sem]) only[go_sem,true_and,wst H _ rx]
  exact fin (se3 (x:=⟨x1,x2,x3,x4,x5⟩) c3) (IH.reg C gb (j9a C.okm I.wok))
 by_cases c4:x2=4
 ·obtain ⟨id1,o1,e1,l1⟩:=kat hTx.r x5 (himm0 (by omega)) (hrd (.inr c4))
  simp -implicitDefEqProofs (disch:=first|omega|simp only[go_sem]) only[go_sem,true_and,c4]
  refine c3d rfl ?_
  simp -implicitDefEqProofs (disch:=first|omega|simp only[go_sem]) only[go_sem,true_and,c7c,f9c,a4 H rx,b4 H rx,e1,l1 H rx]
  refine Q1a (d2b C IH) ?_
  simp -implicitDefEqProofs (disch:=first|omega|simp only[go_sem]) only[go_sem,true_and]
  refine YV Z1b ?_
  simp -implicitDefEqProofs (disch:=first|omega|simp only[go_sem]) only[go_sem,true_and,wst H _ rx]
  refine fin (se4 (x:=⟨x1,x2,x3,x4,x5⟩) c4) (IH.reg C gb ?_)
  split
  ·exact m0a.2 ⟨by decide,by decide⟩
  ·exact m0a.2 ⟨by decide,by decide⟩
 by_cases c5:x2=5
 ·have hlt:=hwr (.inl c5)
  have i0:0≤x5:=himm0 (by omega)
  have hl:x5.toNat<t.writes.length:=by omega
  obtain ⟨id1,o1,e1,l1⟩:=kat hTx.w x5 i0 hlt
  obtain ⟨k,hk⟩:∃ k,t.writes.getD x5.toNat s2a=k:=⟨_,rfl⟩
  have hkok:fKey.ok k:=hk▸kok hTx.w x5.toNat hl
  rw[hk]at l1
  obtain ⟨H2,hH2⟩:∃ K,K=H.push (.row [.int .i32 0,.int .i64 0] 0 false):=⟨_,rfl⟩
  have e2:Ext H H2:=by rw[hH2];exact Ext.push1 _ _
  have g2:H2.get H.next=some (.row [.int .i32 0,.int .i64 0] 0 false):=by rw[hH2];exact Zz _ _
  obtain ⟨H3,hH3⟩:∃ K,K=H2.set H.next (.row [.int .i32 k.t,.int .i64 k.r] 0 false):=⟨_,rfl⟩
  have e3:Ext H H3:=by rw[hH3];exact e2.set (Nat.le_refl _)
  have hst:Yw Tryz.prog 31 (.pointer (some ⟨H.next,0,none⟩)) (Zq k) H2=some H3:=by
   rw[hH3]
   exact (x3a rfl).trans (ZJ g2 (Nat.le_of_ble_eq_true rfl) rfl)
  have g3:H3.get H.next=some (.row [.int .i32 k.t,.int .i64 k.r] 0 false):=by rw[hH3];exact ZX _ _
  have l3:Zx H3 H.next 0 2=some (Zq k):=by rw[Zw g3 (Nat.le_of_ble_eq_true rfl)];rfl
  have I3:=IH.ext C e3
  obtain ⟨o,hu,hm2⟩:=I3.mine.update c9a k (X0a ⟨k,s.r x3,false⟩)
  simp -implicitDefEqProofs (disch:=first|omega|simp only[go_sem]) only[go_sem,true_and,c5]
  refine d3d rfl ?_
  simp -implicitDefEqProofs (disch:=first|omega|simp only[go_sem]) only[go_sem,true_and,d7c,g9c]
  simp -implicitDefEqProofs (disch:=first|omega|simp only[go_sem]) only[go_sem,true_and,← hH2,a4 H2 e2,b5 H2 e2,e1,l1 H2 e2,hst]
  refine f3d rfl ?_
  simp -implicitDefEqProofs (disch:=first|omega|simp only[go_sem]) only[go_sem,true_and,f7c,h9c,b15 H3 e3,l3,ra H3 e3,U8a,hu]
  exact fin (se5 (x:=⟨x1,x2,x3,x4,x5⟩) c5 hk) (I3.put C (c:=⟨k,s.r x3,false⟩) hm2 ⟨hkok,V1a I.ok _,trivial⟩)
 by_cases c6:x2=6
 ·have hlt:=hwr (.inr c6)
  have i0:0≤x5:=himm0 (by omega)
  have hl:x5.toNat<t.writes.length:=by omega
  obtain ⟨id1,o1,e1,l1⟩:=kat hTx.w x5 i0 hlt
  obtain ⟨k,hk⟩:∃ k,t.writes.getD x5.toNat s2a=k:=⟨_,rfl⟩
  have hkok:fKey.ok k:=hk▸kok hTx.w x5.toNat hl
  rw[hk]at l1
  obtain ⟨H2,hH2⟩:∃ K,K=H.push (.row [.int .i32 0,.int .i64 0] 0 false):=⟨_,rfl⟩
  have e2:Ext H H2:=by rw[hH2];exact Ext.push1 _ _
  have g2:H2.get H.next=some (.row [.int .i32 0,.int .i64 0] 0 false):=by rw[hH2];exact Zz _ _
  obtain ⟨H3,hH3⟩:∃ K,K=H2.set H.next (.row [.int .i32 k.t,.int .i64 k.r] 0 false):=⟨_,rfl⟩
  have e3:Ext H H3:=by rw[hH3];exact e2.set (Nat.le_refl _)
  have hst:Yw Tryz.prog 31 (.pointer (some ⟨H.next,0,none⟩)) (Zq k) H2=some H3:=by
   rw[hH3]
   exact (x3a rfl).trans (ZJ g2 (Nat.le_of_ble_eq_true rfl) rfl)
  have g3:H3.get H.next=some (.row [.int .i32 k.t,.int .i64 k.r] 0 false):=by rw[hH3];exact ZX _ _
  have l3:Zx H3 H.next 0 2=some (Zq k):=by rw[Zw g3 (Nat.le_of_ble_eq_true rfl)];rfl
  have I3:=IH.ext C e3
  obtain ⟨o,hu,hm2⟩:=I3.mine.update c9a k (X0a ⟨k,0,true⟩)
  simp -implicitDefEqProofs (disch:=first|omega|simp only[go_sem]) only[go_sem,true_and,c6]
  refine g3d rfl ?_
  simp -implicitDefEqProofs (disch:=first|omega|simp only[go_sem]) only[go_sem,true_and,g7c,i9c]
  simp -implicitDefEqProofs (disch:=first|omega|simp only[go_sem]) only[go_sem,true_and,← hH2,a4 H2 e2,b5 H2 e2,e1,l1 H2 e2,hst]
  refine h3d rfl ?_
  simp -implicitDefEqProofs (disch:=first|omega|simp only[go_sem]) only[go_sem,true_and,h7c,j9c,b15 H3 e3,l3,a7b,hu]
  exact fin (se6 (x:=⟨x1,x2,x3,x4,x5⟩) c6 hk) (I3.put C (c:=⟨k,0,true⟩) hm2 ⟨hkok,zok,trivial⟩)
 by_cases c19:x2=19
 ·simp -implicitDefEqProofs (disch:=first|omega|simp only[go_sem]) only[go_sem,true_and,c19]
  refine i3d rfl ?_
  simp -implicitDefEqProofs (disch:=first|omega|simp only[go_sem]) only[go_sem,true_and,i7c,k9c,ra H rx,a4 H rx]
  refine Q1a B5c ?_
  simp -implicitDefEqProofs (disch:=first|omega|simp only[go_sem]) only[go_sem,true_and,wst H _ rx]
  exact fin (U6d (x:=⟨x1,x2,x3,x4,x5⟩) c19) (IH.reg C gb (G2b (V1a I.ok _)))
 by_cases c22:x2=22
 ·obtain ⟨i,y,hy,hp⟩:=hj (by simp[F0a,c22])
  have gc:=z1c C IH hy gb
  rw[hp]at gc
  simp -implicitDefEqProofs (disch:=first|omega|simp only[go_sem]) only[go_sem,true_and,c22,a4 H rx]
  refine Yu gc ?_
  rintro r K ⟨rfl,rfl⟩
  simp -implicitDefEqProofs (disch:=first|omega|simp only[go_sem]) only[go_sem,true_and,Xj]
  exact ⟨_,rfl,by rw[← hR];exact .jump (V6d (x:=⟨x1,x2,x3,x4,x5⟩) c22) hy hp (IH.pc' C gb _)⟩
 by_cases c23:x2=23
 ·by_cases z:s.r x3=0
  ·simp -implicitDefEqProofs (disch:=first|omega|simp only[go_sem]) only[go_sem,true_and,c23,ra H rx,z]
   exact fin (B9c (x:=⟨x1,x2,x3,x4,x5⟩) c23 z) IH
  ·obtain ⟨i,y,hy,hp⟩:=hj (by simp[F0a,c23])
   have gc:=z1c C IH hy gb
   rw[hp]at gc
   simp -implicitDefEqProofs (disch:=first|omega|simp only[go_sem]) only[go_sem,true_and,c23,ra H rx,z,a4 H rx]
   refine Yu gc ?_
   rintro r K ⟨rfl,rfl⟩
   simp -implicitDefEqProofs (disch:=first|omega|simp only[go_sem]) only[go_sem,true_and,Xj]
   exact ⟨_,rfl,by rw[← hR];exact .jump (W6d (x:=⟨x1,x2,x3,x4,x5⟩) c23 z) hy hp (IH.pc' C gb _)⟩
 by_cases c24:x2=24
 ·have lo:∀ K,dLen Tryz.prog #[23] vo K=some (.int .i64 (s.out.length:Nat)):=ow.sl.lens (P:=Tryz.prog) (ts:=#[23]) (t:=23) rfl D4a
  by_cases z:8≤s.out.length
  ·have z':=eq_true (show (8:Int)≤(s.out.length:Nat) by omega)
   simp -implicitDefEqProofs (disch:=first|omega|simp only[go_sem]) only[go_sem,true_and,c24,b16 H rx,lo,z']
   exact fin (C9c (x:=⟨x1,x2,x3,x4,x5⟩) c24 z) IH
  ·have z':¬ (8:Int)≤(s.out.length:Nat):=by omega
   obtain ⟨vo',h2,e6,n2,ng2,gg,o3⟩:=ow.snoc (cs:=[.int .i64 (s.r x3)]) (x:=s.r x3) (z:=1) (fun i hi=>hi.elim) ⟨rfl,V1a I.ok _⟩ rfl (by decide) a4b (by omega) (by decide)
   have hv':vo'.cells=#[vo']:=o3.sl.cells1
   have hone:[vo'].all Value.oneCell'=true:=by obtain ⟨_,_,rfl⟩:=o3.sl.isSlice;rfl
   have nb:w≠some b:=fun e=>by have:=hw b e;have:=C.lb;omega
   have nm:w≠some mm:=fun e=>by have:=hw mm e;have:=C.lm;omega
   have gb2:h2.get b=some (.row (WU t vc va vr vw s.reg hm mm am vo pc) 0 false):=(gg _ (by omega) nb).trans gb
   have w1:Yw Tryz.prog 23 (.pointer (some ⟨b,16,none⟩)) vo' h2=some (h2.set b (.row (WU t vc va vr vw s.reg hm mm am vo' pc) 0 false)):=by
    rw[F9b hv',ZJ gb2 (by rw[n6a l8];exact Nat.le_of_ble_eq_true rfl) hone,K6b l8]
   have ep:Ext H (H.push (.row [.int .i64 (s.r x3)] 1 false)):=Ext.push1 _ _
   simp -implicitDefEqProofs (disch:=first|omega|simp only[go_sem]) only[go_sem,true_and,c24,b16 H rx,lo,z']
   refine j3d rfl ?_
   simp -implicitDefEqProofs (disch:=first|omega|simp only[go_sem]) only[go_sem,true_and,j7c,l9c,b16 H rx,ra H rx,b16 _ ep,e6,w1]
   have kp2:KpD (fun i=>i=b∨i=mm) h0 h2:=⟨by have:=IH.kp.next;omega,ng2.trans IH.kp.ng,fun i hi hn=>(gg i (Nat.lt_of_lt_of_le hi IH.kp.next) (fun e=>by have:=hw i e;omega)).trans (IH.kp.get i hi hn)⟩
   have mm2:MapAt Zq h2 mm (M1a Change.k X0a s.w):=IH.mine.keep (gg _ (by omega) nm)
   have hkn:=IH.kp.next
   refine fin (s':={ s with out:=s.out++[s.r x3] }) (X6d (x:=⟨x1,x2,x3,x4,x5⟩) c24 z) ⟨kp2.set (.inl (.inl rfl)),⟨vo',some (H.next+1),ZX _ _,o3.mono (Nat.le_refl _) (fun i hi=>Zv _ _ (by cases hi;omega)) (fun i hi=>hi.elim),fun i hi=>by cases hi;omega⟩,mm2.keep (Zv _ _ (fun e=>C.bm e.symm)),l8,I.ok,by simp;omega,I.wok⟩
 by_cases c25:x2=25
 ·have i0:0≤x5:=himm0 (by omega)
  have hwp:IntKind.i64.wrap (100+x5)=100+x5:=ZQ (by omega) (by omega)
  simp -implicitDefEqProofs (disch:=first|omega|simp only[go_sem]) only[go_sem,true_and,c25,a4 H rx,hwp]
  exact fin (Y6d (x:=⟨x1,x2,x3,x4,x5⟩) c25) IH
 by_cases c26:x2=26
 ·obtain ⟨k,hk⟩:∃ k,(⟨IntKind.i32.wrap x5,s.r x4⟩:Key)=k:=⟨_,rfl⟩
  have hkok:fKey.ok k:=hk▸⟨k9a _ _,V1a I.ok _⟩
  have hfar:E2a ⟨x1,x2,x3,x4,x5⟩ s=k:=hk
  obtain ⟨H3,hH3⟩:∃ K,K=H.push (.row [.int .i32 k.t,.int .i64 k.r] 0 false):=⟨_,rfl⟩
  have e3:Ext H H3:=by rw[hH3];exact Ext.push1 _ _
  have hst:Yw Tryz.prog 31 (.pointer (some ⟨H.next,0,none⟩)) (Zq k) (H.push (.row [.int .i32 0,.int .i64 0] 0 false))=some H3:=by
   rw[hH3]
   exact (x3a rfl).trans (a0a rfl rfl)
  have g3:H3.get H.next=some (.row [.int .i32 k.t,.int .i64 k.r] 0 false):=by rw[hH3];exact Zz _ _
  have l3:Zx H3 H.next 0 2=some (Zq k):=by rw[Zw g3 (Nat.le_of_ble_eq_true rfl)];rfl
  have I3:=IH.ext C e3
  have hbk:XW Tryz.prog 31 [(0,.int .i32 (IntKind.i32.wrap x5)),(1,.int .i64 (s.r x4))]=some (Zq k):=hk▸A1b
  simp -implicitDefEqProofs (disch:=first|omega|simp only[go_sem]) only[go_sem,true_and,c26,a4 H rx,hbk,hst]
  refine i6c rfl ?_
  simp -implicitDefEqProofs (disch:=first|omega|simp only[go_sem]) only[go_sem,true_and,s1c,E2c,b4 H3 e3,l3]
  refine Q1a (V8b (hTx.ext e3).r (by have:=C.len.r;omega)) ?_
  by_cases hm':k∈t.reads
  ·have hmd:=decide_eq_true hm'
   simp -implicitDefEqProofs (disch:=first|omega|simp only[go_sem]) only[go_sem,true_and,hmd,l3]
   refine YV (d2b C I3) ?_
   simp -implicitDefEqProofs (disch:=first|omega|simp only[go_sem]) only[go_sem,true_and,wst H3 _ e3]
   exact fin (Z6d (x:=⟨x1,x2,x3,x4,x5⟩) c26 hfar hm') (I3.reg C (gbK H3 e3) (j9a C.okm I.wok))
  ·have hmd:=decide_eq_false hm'
   simp -implicitDefEqProofs (disch:=first|omega|simp only[go_sem]) only[go_sem,true_and,hmd]
   exact fin (D9c (x:=⟨x1,x2,x3,x4,x5⟩) c26 hfar hm') I3
 by_cases c27:x2=27
 ·obtain ⟨k,hk⟩:∃ k,(⟨IntKind.i32.wrap x5,s.r x4⟩:Key)=k:=⟨_,rfl⟩
  have hkok:fKey.ok k:=hk▸⟨k9a _ _,V1a I.ok _⟩
  have hfar:E2a ⟨x1,x2,x3,x4,x5⟩ s=k:=hk
  obtain ⟨H3,hH3⟩:∃ K,K=H.push (.row [.int .i32 k.t,.int .i64 k.r] 0 false):=⟨_,rfl⟩
  have e3:Ext H H3:=by rw[hH3];exact Ext.push1 _ _
  have hst:Yw Tryz.prog 31 (.pointer (some ⟨H.next,0,none⟩)) (Zq k) (H.push (.row [.int .i32 0,.int .i64 0] 0 false))=some H3:=by
   rw[hH3]
   exact (x3a rfl).trans (a0a rfl rfl)
  have g3:H3.get H.next=some (.row [.int .i32 k.t,.int .i64 k.r] 0 false):=by rw[hH3];exact Zz _ _
  have l3:Zx H3 H.next 0 2=some (Zq k):=by rw[Zw g3 (Nat.le_of_ble_eq_true rfl)];rfl
  have I3:=IH.ext C e3
  have hbk:XW Tryz.prog 31 [(0,.int .i32 (IntKind.i32.wrap x5)),(1,.int .i64 (s.r x4))]=some (Zq k):=hk▸A1b
  simp -implicitDefEqProofs (disch:=first|omega|simp only[go_sem]) only[go_sem,true_and,c27,a4 H rx,hbk,hst]
  refine j6c rfl ?_
  simp -implicitDefEqProofs (disch:=first|omega|simp only[go_sem]) only[go_sem,true_and,t1c,F2c,b5 H3 e3,l3]
  refine Q1a (V8b (hTx.ext e3).w (by have:=C.len.w;omega)) ?_
  by_cases hm':k∈t.writes
  ·have hmd:=decide_eq_true hm'
   obtain ⟨o,hu,hm2⟩:=I3.mine.update c9a k (X0a ⟨k,s.r x3,false⟩)
   simp -implicitDefEqProofs (disch:=first|omega|simp only[go_sem]) only[go_sem,true_and,hmd]
   refine k6c rfl ?_
   simp -implicitDefEqProofs (disch:=first|omega|simp only[go_sem]) only[go_sem,true_and,u1c,G2c,b15 H3 e3,l3,ra H3 e3,U8a,hu]
   exact fin (a7d (x:=⟨x1,x2,x3,x4,x5⟩) c27 hfar hm') (I3.put C (c:=⟨k,s.r x3,false⟩) hm2 ⟨hkok,V1a I.ok _,trivial⟩)
  ·have hmd:=decide_eq_false hm'
   simp -implicitDefEqProofs (disch:=first|omega|simp only[go_sem]) only[go_sem,true_and,hmd]
   exact fin (E9c (x:=⟨x1,x2,x3,x4,x5⟩) c27 hfar hm') I3
 obtain ⟨k1,k2⟩:=c7b (o:=x2) (b:=s.r x4) (V1a I.ok x3)
 have hpl:X1b x2:=⟨c0,c1,c2,c7,c3,c4,c5,c6,c19,c22,c23,c24,c25,c26,c27⟩
 simp -implicitDefEqProofs (disch:=first|omega|simp only[go_sem]) only[go_sem,true_and,c0,c1,c2,c7,c3,c4,c5,c6,c19,c22,c23,c24,c25,c26,c27]
 refine l6c rfl ?_
 simp -implicitDefEqProofs (disch:=first|omega|simp only[go_sem]) only[go_sem,true_and,v1c,H2c,a1 H rx,ra H rx]
 refine Q1a J3c ?_
 by_cases z:(W0a x2 (s.r x3) (s.r x4)).2=0
 ·simp -implicitDefEqProofs (disch:=first|omega|simp only[go_sem]) only[go_sem,true_and,x1a,z,wst H _ rx]
  exact fin ((seb (x:=⟨x1,x2,x3,x4,x5⟩) hpl).trans (if_pos z)) (IH.reg C gb k1)
 ·simp -implicitDefEqProofs (disch:=first|omega|simp only[go_sem]) only[go_sem,true_and,x1a,z]
  exact fin ((seb (x:=⟨x1,x2,x3,x4,x5⟩) hpl).trans (if_neg z)) IH
end Go.Proofs.YtheamfnbfgiaeaaGreat
namespace Go.Proofs.YtheamfnbfgiaeaaGreat
open Go.D
set_option maxRecDepth 100000
def atM (L:List Instr):Nat→List (Int × Value)
 | 0=>[]
 | i+1=>a1a (atM L i) ((L[i]?.map (·.pos)).getD 0) (.int .i64 (i:Nat))
theorem h2b (L:List Instr):∀ n,((atM L n).map (·.1)).Nodup
 | 0=>.nil
 | n+1=>i2a (h2b L n)
theorem Z6b {L:List Instr} (hL:L.Pairwise fun x y=>x.pos<y.pos):∀ {n i:Nat} {x:Instr},n≤L.length→i<n→L[i]? = some x→Vz (atM L n) x.pos=some (.int .i64 (i:Nat))
 | 0,i,x,_,hi,_=>by omega
 | n+1,i,x,hn,hi,hx=>by
   have hl:n<L.length:=by omega
   simp only[atM]
   rw[List.getElem?_eq_getElem hl,Option.map_some,Option.getD_some,l4a (h2b L n)]
   by_cases hin:i=n
   ·subst hin
    rw[List.getElem?_eq_getElem hl]at hx
    cases hx
    rw[if_pos rfl]
   ·have hil:i<L.length:=by omega
    have hxi:L[i]=x:=by rw[List.getElem?_eq_getElem hil]at hx;exact Option.some.inj hx
    have:=List.pairwise_iff_getElem.1 hL i n hil hl (by omega)
    rw[hxi]at this
    rw[if_neg (by omega)]
    exact Z6b hL (by omega) (by omega) hx
theorem F3c {L:List Instr} {i:Nat} (hi:i<L.length):atM L (i+1)=a1a (atM L i) L[i].pos (.int .i64 (i:Nat)):=by
 simp only[atM]
 rw[List.getElem?_eq_getElem hi]
 rfl
theorem N3c {w l:List Change} (hn:(l.map Change.k).Nodup) (hl:∀ c∈l,Yk Change.k w c.k=some c) (hall:∀ k∈w.map Change.k,k∈l.map Change.k):byK Change.k l=byK Change.k w:=by
 refine N8a (r2a _) (r2a _) fun c=>?_
 rw[t2a,t2a]
 constructor
 ·intro h
  exact hl c (d0a h).1
 ·intro h
  obtain ⟨h1,h2⟩:=d0a h
  obtain ⟨d,hd⟩:=u6a (hall c.k (List.mem_map.2 ⟨c,h1,rfl⟩))
  obtain ⟨g1,g2⟩:=d0a hd
  have:=hl d g1
  rw[g2,h]at this
  cases this
  exact hd
theorem v1d (f:Int):max 0 (min f 4096)=(Z4a f:Nat):=by unfold Z4a;omega
abbrev YU:Value:=.slice none 0 0
theorem u5b {P:Program} {h:DHeap} {ts:Array TypeId} {ty:TypeId} {a b:Int}:p2a P .max ts ty h (some [.int .i64 a,.int .i64 b])=.ok (.value (.int .i64 (max a b))) h:=by
 have hq:ZK P (Builtin.max_ ts ty #[.int .i64 a,.int .i64 b])=some (.inr (.int .i64 (max a b))):=by
  have e:max a b=if a<b then b else a:=by
   by_cases h:a<b
   ·rw[if_pos h];omega
   ·rw[if_neg h];omega
  rw[e]
  rfl
 have hf:([Value.int .i64 a,.int .i64 b].all Xz)=true:=rfl
 show (if [Value.int .i64 a,.int .i64 b].all Xz=true then Wz P (Builtin.max_ ts ty #[.int .i64 a,.int .i64 b]) h else .bad)=_
 rw[if_pos hf]
 simp only[Wz,hq]
 rfl
theorem q6c {e:Int}:XW Tryz.prog 94 [(0,.int .i64 e)]=some (.agg #[.int .i64 e,YU,YU,.int .i64 0]):=l0a f1b rfl
theorem A3b {e k:Int}:XW Tryz.prog 94 [(0,.int .i64 e),(3,.int .i64 k)]=some (.agg #[.int .i64 e,YU,YU,.int .i64 k]):=l0a f1b rfl
theorem z7d {e k:Int} {u w:Value} (hu:u.cells=#[u]) (hw:w.cells=#[w]):XW Tryz.prog 94 [(0,.int .i64 e),(1,u),(2,w),(3,.int .i64 k)]=some (.agg #[.int .i64 e,u,w,.int .i64 k]):=l0a f1b (by simp[B4a,hu,hw,Xy,l8a])
theorem N3d {t:Txn} {vc va vr vw:Value} {a b c:Nat}:XW Tryz.prog 151 [(0,Ww t.ses t.req vc va vr vw),(2,.map (some a)),(3,.map (some b)),(6,.map (some c))]=some (.agg (WU t vc va vr vw [0,0,0,0,0,0,0,0] a b c YU 0).toArray):=l0a U1d rfl
def RunR (h:DHeap) (o:R3b) (r:DEnd) (h1:DHeap):Prop:=∃ vv cv,r=.ret (.agg #[.int .i64 o.e,vv,cv,.int .i64 o.s])∧Made fI64 h h1 vv o.vs∧Made fChange h h1 cv o.ch
theorem RunR.none {h h1:DHeap} {e k:Int} (hE:Ext h h1) {o:R3b} (ho:o=⟨e,[],[],k⟩):RunR h o (.ret (.agg #[.int .i64 e,YU,YU,.int .i64 k])) h1:=by
 subst ho
 exact ⟨_,_,rfl,.nil _ hE,.nil _ hE⟩
set_option maxHeartbeats 4000000 in
theorem B1e {h:DHeap} {t:Txn} {vc va vr vw v:Value} {l:List Pair} {f:Int} (x:TxV (InH h) h t vc va vr vw) (hT:P3a t) (hb:Arg fPair.rep h v l) (hl:l.length≤1048576) :
 Ct Tryz.prog 52 [Ww t.ses t.req vc va vr vw,v,.int .i64 f] h (RunR h (q2a t l f)):=by
 obtain ⟨R,hR⟩:∃ R,RunR h (q2a t l f)=R:=⟨_,rfl⟩
 rw[hR]
 refine h9d (by simp) ?_
 have hcl:(Ww t.ses t.req vc va vr vw).cells.toList=[.int .i64 t.ses,.int .i64 t.req,vc,va,vr,vw]:=rfl
 obtain ⟨H1,hH1⟩:∃ H,h.push (.row [.int .i64 t.ses,.int .i64 t.req,vc,va,vr,vw] 0 false)=H:=⟨_,rfl⟩
 have g1:H1.get h.next=some (.row [.int .i64 t.ses,.int .i64 t.req,vc,va,vr,vw] 0 false):=by rw[← hH1];exact Zz _ _
 have n1:H1.next=h.next+1:=by rw[← hH1];rfl
 have e1:Ext h H1:=by rw[← hH1];exact Ext.push1 _ _
 obtain ⟨H2,hH2⟩:∃ H,H1.push (.row [.int .i64 0,YU,YU,.int .i64 0] 0 false)=H:=⟨_,rfl⟩
 have g2:H2.get H1.next=some (.row [.int .i64 0,YU,YU,.int .i64 0] 0 false):=by rw[← hH2];exact Zz _ _
 have n2:H2.next=h.next+2:=by rw[← hH2,g0a,n1]
 have e12:Ext H1 H2:=by rw[← hH2];exact Ext.push1 _ _
 have e2:Ext h H2:=e1.trans e12
 have lt:∀ K,Ext H2 K→Zx K h.next 0 6=some (Ww t.ses t.req vc va vr vw):=fun K e=>by
  rw[Zw ((e.get _ (by omega)).trans ((e12.get _ (by omega)).trans g1)) (Nat.le_of_ble_eq_true rfl)]
  rfl
 have lc:∀ K,Ext H2 K→Zu K h.next 2=some vc:=fun K e=>Zy ((e.get _ (by omega)).trans ((e12.get _ (by omega)).trans g1))
 have hby:=v7a x.c
 have x2:TxV (InH H2) H2 t vc va vr vw:=x.ext e2
 have res:∀ (K:DHeap) (e k:Int) (u w:Value),u.cells=#[u]→w.cells=#[w]→[Value.int .i64 e,u,w,.int .i64 k].all Value.oneCell'=true→K.get H1.next=some (.row [.int .i64 0,YU,YU,.int .i64 0] 0 false) →
  ∃ K',storeAt K H1.next 0 [.int .i64 e,u,w,.int .i64 k]=some K'∧Zx K' H1.next 0 4=some (.agg #[.int .i64 e,u,w,.int .i64 k])∧∃ o,K'=K.set H1.next o:=fun K e k u w hu hw ho g=>by
  refine ⟨_,ZJ g (Nat.le_of_ble_eq_true rfl) ho,?_,_,rfl⟩
  rw[Zw (ZX _ _) (Nat.le_of_ble_eq_true rfl)]
  rfl
 simp -implicitDefEqProofs (disch:=first|omega|simp only[go_sem]) only[go_sem,true_and,c52,hcl,hH1,hH2,lt H2 (.refl _)]
 refine YV (W3c x2.c x2.a x2.r x2.w hT.c hby) ?_
 by_cases hz:Vy t=0
 case neg=>
  obtain ⟨K',s1,s2,o,rfl⟩:=res H2 1 0 YU YU rfl rfl rfl g2
  simp -implicitDefEqProofs (disch:=first|omega|simp only[go_sem]) only[go_sem,true_and,hz,q6c,s1,G0a,k0a,s2]
  refine ⟨_,rfl,?_⟩
  rw[← hR]
  exact RunR.none (e2.set (by omega)) (by unfold q2a;rw[if_pos hz])
 obtain ⟨hdec,_,hna,hnr,hnw⟩:=N5b hz
 simp -implicitDefEqProofs (disch:=first|omega|simp only[go_sem]) only[go_sem,true_and,hz,lc H2 (.refl _)]
 refine Yu (P4b x2.c hT.c) ?_
 rintro r Q1 ⟨w,rfl,eQ1,hw⟩
 obtain ⟨L,hL⟩:∃ L,WX t.code=L:=⟨_,rfl⟩
 rw[hL]at hw
 have eQ:Ext h Q1:=e2.trans eQ1
 have hLlen:L.length≤512:=by
  have h1:=z3a (l:=t.code) (n:=t.code.length) (i:=0) (by omega)
  obtain ⟨h2,_,_,h3⟩:=d7a hdec
  rw[← hL,h2]
  omega
 obtain ⟨M1,hM1⟩:∃ H,Q1.push (.map [] 0)=H:=⟨_,rfl⟩
 obtain ⟨M2,hM2⟩:∃ H,M1.push (.map [] 0)=H:=⟨_,rfl⟩
 obtain ⟨M3,hM3⟩:∃ H,M2.push (.map [] 0)=H:=⟨_,rfl⟩
 obtain ⟨M4,hM4⟩:∃ H,M3.push (.row (WU t vc va vr vw [0,0,0,0,0,0,0,0] Q1.next M1.next M2.next YU 0) 0 false)=H:=⟨_,rfl⟩
 have m1:M1.next=Q1.next+1:=by rw[← hM1];rfl
 have m2:M2.next=Q1.next+2:=by rw[← hM2,g0a,m1]
 have m3:M3.next=Q1.next+3:=by rw[← hM3,g0a,m2]
 have m4:M4.next=Q1.next+4:=by rw[← hM4,g0a,m3]
 have E1:Ext Q1 M1:=hM1▸Ext.push1 _ _
 have E2:Ext M1 M2:=hM2▸Ext.push1 _ _
 have E3:Ext M2 M3:=hM3▸Ext.push1 _ _
 have E4:Ext M3 M4:=hM4▸Ext.push1 _ _
 have a1:MapAt Zq M4 Q1.next ([]:List (Key × Value)):=MapAt.keep (by rw[← hM1];exact MapAt.new) ((E4.get _ (by omega)).trans ((E3.get _ (by omega)).trans (E2.get _ (by omega))))
 have a2:MapAt Zq M4 M1.next ([]:List (Key × Value)):=MapAt.keep (by rw[← hM2];exact MapAt.new) ((E4.get _ (by omega)).trans (E3.get _ (by omega)))
 have a3:MapAt (fun n:Int=>Value.int .i64 n) M4 M2.next ([]:List (Int × Value)):=MapAt.keep (by rw[← hM3];exact MapAt.new) (E4.get _ (by omega))
 have a4:M4.get M3.next=some (.row (WU t vc va vr vw [0,0,0,0,0,0,0,0] Q1.next M1.next M2.next YU 0) 0 false):=by rw[← hM4];exact Zz _ _
 have EQ4:Ext Q1 M4:=((E1.trans E2).trans E3).trans E4
 have elw:∀ K,dLen Tryz.prog #[143] w K=some (.int .i64 (L.length:Nat)):=hw.lens (P:=Tryz.prog) (ts:=#[143]) (t:=143) rfl R5a
 simp -implicitDefEqProofs (disch:=first|omega|simp only[go_sem]) only[go_sem,true_and,Xj,lt Q1 eQ1,hM1,hM2,hM3,N3d,hM4,elw]
 refine Xu (σ:=Nat) (by kernel_rfl) (fun i s=>s.df=[]∧s.rd=none∧s.fr 1=some v∧s.fr 2=some (.int .i64 f)∧s.fr 3=some (.pointer (some ⟨h.next,0,none⟩))∧s.fr 6=some (.pointer (some ⟨H1.next,0,none⟩))∧s.fr 7=some w∧s.fr 9=some (.pointer (some ⟨M3.next,0,none⟩))∧s.fr 36=some w∧s.fr 37=some (.int .i64 (L.length:Nat))∧s.fr 38=some (.int .i64 (i:Nat))∧i≤L.length ∧
  Ext Q1 s.h∧M3.next<s.h.next∧s.h.get M3.next=some (.row (WU t vc va vr vw [0,0,0,0,0,0,0,0] Q1.next M1.next M2.next YU 0) 0 false)∧MapAt Zq s.h Q1.next ([]:List (Key × Value))∧MapAt Zq s.h M1.next ([]:List (Key × Value))∧MapAt (fun n:Int=>Value.int .i64 n) s.h M2.next (atM L i)) (fun i=>L.length - i) 0 ?_ ?_
 ·simp -implicitDefEqProofs (disch:=first|omega|simp only[go_sem]) only[go_sem,true_and]
  exact ⟨by trivial,Nat.zero_le _,EQ4,by omega,a4,a1,a2,a3⟩
 rintro i ⟨fr,df,K,rd⟩ K' hK' hX ⟨rfl,rfl,f1,f2,f3,f6,f7,f9,f36,f37,f38,hi,eK,hlt,b4,b1,b2,b3⟩
 simp only at f1 f2 f3 f6 f7 f9 f36 f37 f38 eK hlt b4 b1 b2 b3
 simp -implicitDefEqProofs (disch:=first|omega|simp only[go_sem]) only[go_sem,true_and,f36,f37,f38]
 refine YX (fun hc1=>?_) (fun hc1=>?_)
 ·have hj:i<L.length:=by omega
  obtain ⟨id1,o1,q1,hid1,hat1⟩:=(hw.ext eK).idx (P:=Tryz.prog) (t:=143) W4b (k:=.i64) (i:=i) (x:=L[i]) (by simp)
  have l1:Zx K id1 o1 5=some (XJ L[i]):=hat1.flat.2.1
  obtain ⟨K1,hK1⟩:∃ H,H=K.push (.row (fInstr.enc L[i]) 0 false):=⟨_,rfl⟩
  have eK1:Ext K K1:=by rw[hK1];exact Ext.push1 _ _
  have gK1:K1.get K.next=some (.row (fInstr.enc L[i]) 0 false):=by rw[hK1];exact Zz _ _
  have c0:Zu K1 K.next 0=some (.int .i64 L[i].pos):=Zy gK1
  have c18:Zu K1 M3.next 18=some (.map (some M2.next)):=Zy ((eK1.get _ hlt).trans b4)
  have hst:Yw Tryz.prog 130 (.pointer (some ⟨K.next,0,none⟩)) (XJ L[i]) (K.push (.row [.int .i64 0,.int .i64 0,.int .i64 0,.int .i64 0,.int .i64 0] 0 false))=some K1:=by
   rw[hK1]
   exact (q1b rfl).trans p6a
  obtain ⟨o,hu,hm2⟩:=(b3.keep (eK1.get _ (by omega))).update w8c L[i].pos (.int .i64 (i:Nat))
  have hw1:=ZV hj (by omega)
  have hn1:=eK1.next
  simp -implicitDefEqProofs (disch:=first|omega|simp only[go_sem]) only[go_sem,true_and,f36,f38,q1,l1,hst]
  refine J2d rfl ?_
  simp -implicitDefEqProofs (disch:=first|omega|simp only[go_sem]) only[go_sem,true_and,L6c,N8c,f9,f38,c18,c0,hu,hw1]
  refine hK' (i+1) _ ?_ (by omega)
  refine ⟨by trivial,by trivial,(vy f1),(vy f2),(vy f3),(vy f6),(vy f7),(vy f9),(vy f36),(vy f37),vz,by omega,(eK.trans eK1).set (by omega),show M3.next<K1.next by omega,(Zv _ _ (by omega)).trans ((eK1.get _ hlt).trans b4),b1.keep ((Zv _ _ (by omega)).trans (eK1.get _ (by omega))),b2.keep ((Zv _ _ (by omega)).trans (eK1.get _ (by omega))),?_⟩
  rw[F3c hj]
  exact hm2
 obtain rfl:i=L.length:=by omega
 refine hX _ _ (by simp) ?_
 clear hK' hX K' f36 f37 f38 hc1 hi
 have eH2K:Ext H2 K:=eQ1.trans eK
 have eHK:Ext h K:=e2.trans eH2K
 simp -implicitDefEqProofs (disch:=first|omega|simp only[go_sem]) only[go_sem,true_and,f1,f3,lt K eH2K]
 refine Yu (L1d (x.ext eHK) (hb.ext eHK) hl (by have:=hT.r;omega)) ?_
 rintro r Y ⟨wn,rfl,mn⟩
 obtain ⟨ns,hns⟩:∃ ns,E1a t l=ns:=⟨_,rfl⟩
 rw[hns]at mn
 have hnsl:ns.length≤1048576:=by
  have h1:=List.length_filter_le (fun p:Pair=>decide (p.k∈t.reads)) (byK Pair.k l)
  have h2:=R1a (key:=Pair.k) l
  rw[← hns]
  unfold E1a
  omega
 have eKY:=mn.ext
 have nKY:=eKY.next
 have eln:∀ K,dLen Tryz.prog #[96] wn K=some (.int .i64 (ns.length:Nat)):=mn.arg.lens (P:=Tryz.prog) (ts:=#[96]) (t:=96) rfl g6a
 have y1:MapAt Zq Y Q1.next ([]:List (Key × Value)):=b1.keep (eKY.get _ (by omega))
 simp -implicitDefEqProofs (disch:=first|omega|simp only[go_sem]) only[go_sem,true_and,Xj,eln]
 refine Xu (σ:=Nat) (by kernel_rfl) (fun j s=>s.df=[]∧s.rd=none∧s.fr 2=some (.int .i64 f)∧s.fr 6=some (.pointer (some ⟨H1.next,0,none⟩))∧s.fr 7=some w∧s.fr 9=some (.pointer (some ⟨M3.next,0,none⟩))∧s.fr 53=some wn∧s.fr 54=some (.int .i64 (ns.length:Nat))∧s.fr 55=some (.int .i64 (j:Nat))∧j≤ns.length ∧
  KpD (fun i=>i=Q1.next) Y s.h∧MapAt Zq s.h Q1.next (M1a Pair.k (fun p=>.int .i64 p.v) (ns.take j))) (fun j=>ns.length - j) 0 ?_ ?_
 ·simp -implicitDefEqProofs (disch:=first|omega|simp only[go_sem]) only[go_sem,true_and,f2,f6,f7,f9]
  exact ⟨by trivial,Nat.zero_le _,.refl _ _,y1⟩
 clear f1 f2 f3 f6 f7 f9
 rintro j ⟨fr,df,Z,rd⟩ K' hK' hX ⟨rfl,rfl,f2,f6,f7,f9,f53,f54,f55,hj,kZ,z1⟩
 simp only at f2 f6 f7 f9 f53 f54 f55 kZ z1
 have nYZ:=kZ.next
 have gz:Z.get M3.next=some (.row (WU t vc va vr vw [0,0,0,0,0,0,0,0] Q1.next M1.next M2.next YU 0) 0 false):=(kZ.get _ (by omega) (by omega)).trans ((eKY.get _ hlt).trans b4)
 simp -implicitDefEqProofs (disch:=first|omega|simp only[go_sem]) only[go_sem,true_and,f53,f54,f55]
 refine YX (fun hc1=>?_) (fun hc1=>?_)
 ·have hjl:j<ns.length:=by omega
  obtain ⟨id1,o1,q1,hid1,hat1⟩:=(mn.sl.kp kZ (fun i hi=>⟨hi.2,fun e=>by omega⟩)).idx (P:=Tryz.prog) (t:=96) D2a (k:=.i64) (i:=j) (x:=ns[j]) (by simp)
  have l1:Zx Z id1 o1 3=some (L1a ns[j]):=hat1.flat.2.1
  obtain ⟨K1,hK1⟩:∃ H,H=Z.push (.row [.int .i32 ns[j].k.t,.int .i64 ns[j].k.r,.int .i64 ns[j].v] 0 false):=⟨_,rfl⟩
  have eK1:Ext Z K1:=by rw[hK1];exact Ext.push1 _ _
  have gK1:K1.get Z.next=some (.row [.int .i32 ns[j].k.t,.int .i64 ns[j].k.r,.int .i64 ns[j].v] 0 false):=by rw[hK1];exact Zz _ _
  have lk:Zx K1 Z.next 0 2=some (Zq ns[j].k):=by rw[Zw gK1 (Nat.le_of_ble_eq_true rfl)];rfl
  have lv:Zu K1 Z.next 2=some (.int .i64 ns[j].v):=Zy gK1
  have c14:Zu K1 M3.next 14=some (.map (some Q1.next)):=Zy ((eK1.get _ (by omega)).trans gz)
  have hst:Yw Tryz.prog 118 (.pointer (some ⟨Z.next,0,none⟩)) (.agg #[.int .i32 ns[j].k.t,.int .i64 ns[j].k.r,.int .i64 ns[j].v]) (Z.push (.row [.int .i32 0,.int .i64 0,.int .i64 0] 0 false))=some K1:=by
   rw[hK1]
   exact (p1b rfl).trans (a0a rfl rfl)
  obtain ⟨o,hu,hm2⟩:=(z1.keep (eK1.get _ (by omega))).update W0b ns[j].k (.int .i64 ns[j].v)
  have hw1:=ZV hjl (by omega)
  simp -implicitDefEqProofs (disch:=first|omega|simp only[go_sem]) only[go_sem,true_and,f53,f55,q1,l1,hst]
  refine K2d rfl ?_
  simp -implicitDefEqProofs (disch:=first|omega|simp only[go_sem]) only[go_sem,true_and,M6c,O8c,f9,f55,c14,lk,lv,hu,hw1]
  refine hK' (j+1) _ ?_ (by omega)
  refine ⟨by trivial,by trivial,(vy f2),(vy f6),(vy f7),(vy f9),(vy f53),(vy f54),vz,by omega,(kZ.ext eK1).set (.inl rfl),?_⟩
  rw[C8a hjl]
  exact hm2
 obtain rfl:j=ns.length:=by omega
 refine hX _ _ (by simp) ?_
 rw[List.take_length]at z1
 clear hK' hX K' f53 f54 f55 hc1 hj
 have eHY:Ext h Y:=eHK.trans eKY
 have kQ:∀ i,i<Q1.next→Z.get i=Q1.get i:=fun i hi=>(kZ.get _ (by have:=eK.next;omega) (by omega)).trans ((eKY.get _ (by have:=eK.next;omega)).trans (eK.get _ hi))
 have nQZ:Q1.next+4≤Z.next:=by omega
 have C:D6a Z M3.next Q1.next M1.next M2.next t vc va vr vw ns L:={
  lb:=by omega
  lh:=by omega
  lm:=by omega
  la:=by omega
  bm:=by omega
  hb:=by omega
  hmm:=by omega
  ab:=by omega
  amm:=by omega
  tx:=x.mono fun i hi=>⟨⟨by have:=eQ.next;have:i<h.next:=hi;omega,by have:=eQ.next;have:i<h.next:=hi;omega⟩,(kQ i (Nat.lt_of_lt_of_le hi eQ.next)).trans (eQ.get i hi)⟩
  len:=hT
  has:=z1
  at_:=⟨_,b3.keep ((kZ.get _ (by omega) (by omega)).trans (eKY.get _ (by omega))),fun i x hx=>Z6b (hL▸v0d) (Nat.le_refl _) (List.getElem?_eq_some_iff.1 hx).1 hx⟩
  okm:=mn.ok }
 have I0:RunI Z Z M3.next Q1.next M1.next M2.next t vc va vr vw rs0 0:=⟨.refl _ _,⟨YU,none,gz,Owns.nil _ _ _,fun i hi=>by cases hi⟩,b2.keep ((kZ.get _ (by omega) (by omega)).trans (eKY.get _ (by omega))),rfl,fun n hn=>by
  have:n=0:=by simpa [rs0] using hn
  subst this
  exact m0a.2 ⟨by decide,by decide⟩,by decide,fun c hc=>by cases hc⟩
 have hwZ:∀ K,KpD (fun i=>i=M3.next∨i=M1.next) Z K→Arg fInstr.rep K w L:=fun K k=>hw.mono fun i hi=>⟨by have:=k.next;have:i<Q1.next:=hi;omega,(k.get i (by have:i<Q1.next:=hi;omega) (by have:i<Q1.next:=hi;omega)).trans (kQ i hi)⟩
 have rZ:∀ K,KpD (fun i=>i=M3.next∨i=M1.next) Z K→K.get H1.next=some (.row [.int .i64 0,YU,YU,.int .i64 0] 0 false):=fun K k=>by
  have:=eQ1.next
  exact (k.get _ (by omega) (by omega)).trans ((kQ _ (by omega)).trans ((eQ1.get _ (by omega)).trans g2))
 have eZ:∀ K,KpD (fun i=>i=M3.next∨i=M1.next) Z K→Ext h K:=fun K k=>by
  have e0:Ext h Z:=kZ.toExt eHY (fun i hi=>by have:=eQ.next;omega)
  exact k.toExt e0 fun i hi=>by have:=eQ.next;omega
 obtain ⟨F,hF⟩:∃ F,Z4a f=F:=⟨_,rfl⟩
 have hFl:F≤4096:=hF▸b0b f
 have hfu:max 0 (min f 4096)=(F:Nat):=hF▸v1d f
 obtain ⟨O,hO⟩:∃ O,q2a t l f=O:=⟨_,rfl⟩
 have hO2:N1a t ns F 0 0 rs0=O:=by
  rw[← hO]
  unfold q2a
  rw[if_neg (fun hh=>hh hz),hns,hF]
 rw[hO]at hR
 simp -implicitDefEqProofs (disch:=first|omega|simp only[go_sem]) only[go_sem,true_and,f2,C7b,u5b,hfu]
 refine Xu (σ:=Nat × Nat × RS) (by kernel_rfl) (fun a s=>s.df=[]∧s.rd=none∧s.fr 2=some (.int .i64 (F:Nat))∧s.fr 6=some (.pointer (some ⟨H1.next,0,none⟩))∧s.fr 7=some w∧s.fr 9=some (.pointer (some ⟨M3.next,0,none⟩))∧s.fr 14=some (.int .i64 (a.1:Nat))∧RunI Z s.h M3.next Q1.next M1.next M2.next t vc va vr vw a.2.2 (a.2.1:Nat)∧a.1≤F∧a.2.1≤L.length∧a.2.2.w.length≤a.1∧N1a t ns (F - a.1) (Wj t a.2.1) a.1 a.2.2=O) (fun a=>F - a.1) (0,0,rs0) ?_ ?_
 ·simp -implicitDefEqProofs (disch:=first|omega|simp only[go_sem]) only[go_sem,true_and,f6,f7,f9]
  exact ⟨by trivial,I0,Nat.zero_le _,Nat.zero_le _,Nat.le_refl _,by rw[n8a hdec];exact hO2⟩
 clear f2 f6 f7 f9
 rintro ⟨k,i,st⟩ ⟨fr,df,K,rd⟩ K' hK' hX ⟨rfl,rfl,f2,f6,f7,f9,f14,I,hk,hi,hwl,hrun⟩
 simp only at f2 f6 f7 f9 f14 I hk hi hwl hrun
 obtain ⟨vo,ow,gb,oo,how⟩:=I.row
 have l8:=I.len
 have c17:Zu K M3.next 17=some (.int .i64 (i:Nat)):=(Zy gb).trans (v1a l8).2.2.2.1
 have hbK:M3.next<K.next:=Nat.lt_of_lt_of_le C.lb I.kp.next
 simp -implicitDefEqProofs (disch:=first|omega|simp only[go_sem]) only[go_sem,true_and,f7,f9,c17,elw]
 refine YX (fun hc1=>?_) (fun hc1=>?_)
 ·have hil:i<L.length:=by omega
  obtain ⟨y,hy⟩:∃ y,L[i]? = some y:=⟨_,List.getElem?_eq_getElem hil⟩
  have hy':(WX t.code)[i]? = some y:=by rw[hL];exact hy
  obtain ⟨hp1,hp2,hp3,hp4,hp5⟩:=Y6a hdec hy'
  have hiok:=D1c hz hby hy'
  have hjmp:F0a y.op=true→∃ (i:Nat) (z:Instr),L[i]? = some z∧z.pos=y.imm:=fun hj=>by
   obtain ⟨i',z,q1,q2,_⟩:=l2b hdec (List.mem_of_getElem? hy') hj
   rw[hL]at q1
   exact ⟨i',z,q1,q2⟩
  by_cases hkF:k=F
  ·have hkF':=eq_true (show ((k:Nat):Int)=(F:Nat) by omega)
   obtain ⟨K3,s1,s2,o,rfl⟩:=res K 2 k YU YU rfl rfl rfl (rZ K I.kp)
   simp -implicitDefEqProofs (disch:=first|omega|simp only[go_sem]) only[go_sem,true_and,f2,f6,f14,hkF',A3b,s1]
   refine hX _ _ (by simp) ?_
   simp -implicitDefEqProofs (disch:=first|omega|simp only[go_sem]) only[go_sem,true_and,f6,G0a,k0a,s2]
   refine ⟨_,rfl,?_⟩
   rw[← hR]
   refine RunR.none ((eZ K I.kp).set (by omega)) ?_
   rw[← hrun,hkF,Nat.sub_self]
   exact z6a hp1
  have hkF':¬ ((k:Nat):Int)=(F:Nat):=by omega
  have hw1:=ZV (i:=k) (n:=F) (by omega) (by omega)
  have hw2:=ZV hil (by omega)
  obtain ⟨id1,o1,q1,hid1,hat1⟩:=(hwZ K I.kp).idx (P:=Tryz.prog) (t:=143) W4b (k:=.i64) (i:=i) (x:=y) hy
  have l1:Zx K id1 o1 5=some (XJ y):=hat1.flat.2.1
  obtain ⟨K1,hK1⟩:∃ H,H=K.push (.row (fInstr.enc y) 0 false):=⟨_,rfl⟩
  have eK1:Ext K K1:=by rw[hK1];exact Ext.push1 _ _
  have gK1:K1.get K.next=some (.row (fInstr.enc y) 0 false):=by rw[hK1];exact Zz _ _
  have hst:Yw Tryz.prog 130 (.pointer (some ⟨K.next,0,none⟩)) (XJ y) (K.push (.row [.int .i64 0,.int .i64 0,.int .i64 0,.int .i64 0,.int .i64 0] 0 false))=some K1:=by
   rw[hK1]
   exact (q1b rfl).trans p6a
  have I1:=I.ext C eK1
  have gb1:K1.get M3.next=some (.row (WU t vc va vr vw st.reg Q1.next M1.next M2.next vo (i:Nat)) 0 false):=(eK1.get _ hbK).trans gb
  have c17':Zu K1 M3.next 17=some (.int .i64 (i:Nat)):=(Zy gb1).trans (v1a l8).2.2.2.1
  obtain ⟨K2,hK2⟩:∃ H,K1.set M3.next (.row (WU t vc va vr vw st.reg Q1.next M1.next M2.next vo ((i+1:Nat):Int)) 0 false)=H:=⟨_,rfl⟩
  have I2:=hK2▸I1.pc' C gb1 ((i+1:Nat):Int)
  have hst2:storeAt K1 M3.next 17 [.int .i64 ((i+1:Nat):Int)]=some K2:=by
   rw[ZJ gb1 (by rw[n6a l8];exact Nat.le_of_ble_eq_true rfl) rfl,M7a l8,hK2]
  have lx:Zx K2 K.next 0 5=some (XJ y):=by
   rw[← hK2,Zw ((Zv _ _ (by omega)).trans gK1) (Nat.le_of_ble_eq_true rfl)]
   rfl
  simp -implicitDefEqProofs (disch:=first|omega|simp only[go_sem]) only[go_sem,true_and,f2,f7,f9,f14,hkF',hw1,c17,q1,l1,hst,c17',hw2,hst2,lx]
  refine Yu (f7d C I2 hiok hjmp) ?_
  rintro r N ⟨rfl,pc',I3,j1,j2⟩
  have hpos:∀ e,(ZW t ns y st)=e→(ZW t ns (Xx t.code (Wj t i)) st)=e:=fun e he=>by rw[← hp2];exact he
  have hwl3:=s1b (t:=t) (m:=ns) (x:=y) (s:=st)
  have hFk:F - k=(F - (k+1))+1:=by omega
  obtain ⟨e,s',jo,hE⟩:∃ e s' jo,ZW t ns y st=(e,s',jo):=⟨_,_,_,rfl⟩
  have hE':=hpos _ hE
  rw[hE]at I3 j1 j2 hwl3 ⊢
  simp only at I3 j1 j2 hwl3
  by_cases hm1:e=-1
  ·have hm1':=eq_true hm1
   simp -implicitDefEqProofs (disch:=first|omega|simp only[go_sem]) only[go_sem,true_and,Xj,hm1']
   obtain ⟨i',hi',hpi'⟩:∃ i':Nat,pc'=(i':Nat)∧i'≤L.length∧(jo.getD ((Wj t i:Nat)+Xv (t.code.getD (Wj t i) 0))).toNat=Wj t i':=by
    cases jo with
    | none=>exact ⟨i+1,j1 rfl,by omega,hp5⟩
    | some a=>
      obtain ⟨i',z,hz1,hz2,hz3⟩:=j2 a rfl
      refine ⟨i',hz3,Nat.le_of_lt (List.getElem?_eq_some_iff.1 hz1).1,?_⟩
      have hz1':(WX t.code)[i']? = some z:=by rw[hL];exact hz1
      obtain ⟨_,_,q,_,_⟩:=Y6a hdec hz1'
      show a.toNat=_
      rw[← hz2,q]
      simp
   subst hi'
   refine hK' (k+1,i',s') _ ?_ (by show F - (k+1)<F - k;omega)
   refine ⟨by trivial,by trivial,(vy f2),(vy f6),(vy f7),(vy f9),vz,I3,by show k+1≤F;omega,hpi'.1,by show s'.w.length≤k+1;omega,?_⟩
   show N1a t ns (F - (k+1)) (Wj t i') (k+1) s'=O
   rw[← hrun,hFk,h9a hp1 (by rw[hE'];exact hm1),hE',← hpi'.2]
  by_cases hm0:e=0
  ·subst hm0
   obtain ⟨vo3,ow3,gb3,oo3,how3⟩:=I3.row
   have hst3:storeAt N M3.next 17 [.int .i64 (L.length:Nat)]=some (N.set M3.next (.row (WU t vc va vr vw s'.reg Q1.next M1.next M2.next vo3 (L.length:Nat)) 0 false)):=by
    rw[ZJ gb3 (by rw[n6a I3.len];exact Nat.le_of_ble_eq_true rfl) rfl,M7a I3.len]
   simp -implicitDefEqProofs (disch:=first|omega|simp only[go_sem]) only[go_sem,true_and,Xj,f7,f9,elw,hst3]
   refine hK' (k+1,L.length,s') _ ?_ (by show F - (k+1)<F - k;omega)
   refine ⟨by trivial,by trivial,(vy f2),(vy f6),(vy f7),(vy f9),vz,I3.pc' C gb3 _,by show k+1≤F;omega,Nat.le_refl _,by show s'.w.length≤k+1;omega,?_⟩
   show N1a t ns (F - (k+1)) (Wj t L.length) (k+1) s'=O
   rw[m6a (by rw[R9a (by rw[hL];exact Nat.le_refl _)];exact Nat.le_refl _),← hrun,hFk,A6a hp1 (by rw[hE']),hE']
  ·obtain ⟨K3,s1,s2,o,rfl⟩:=res N e ((k+1:Nat):Int) YU YU rfl rfl rfl (rZ N I3.kp)
   simp -implicitDefEqProofs (disch:=first|omega|simp only[go_sem]) only[go_sem,true_and,Xj,hm1,hm0,f6,A3b,s1]
   refine hX _ _ (by simp) ?_
   simp -implicitDefEqProofs (disch:=first|omega|simp only[go_sem]) only[go_sem,true_and,f6,G0a,k0a,s2]
   refine ⟨_,rfl,?_⟩
   rw[← hR]
   refine RunR.none ((eZ N I3.kp).set (by omega)) ?_
   rw[← hrun,hFk,B6a hp1 (by rw[hE'];exact hm1) (by rw[hE'];exact hm0),hE']
 obtain rfl:i=L.length:=by omega
 refine hX _ _ (by simp) ?_
 have hO3:O=⟨0,st.out,byK Change.k st.w,(k:Nat)⟩:=by
  rw[← hrun]
  exact m6a (by rw[R9a (by rw[hL];exact Nat.le_refl _)];exact Nat.le_refl _)
 clear hK' hX K' f2 f7
 have c15:Zu K M3.next 15=some (.map (some M1.next)):=(Zy gb).trans (v1a l8).2.1
 have hmK:M1.next<K.next:=Nat.lt_of_lt_of_le C.lm I.kp.next
 obtain ⟨oi,hr0,hr1⟩:=I.mine.range P5b hmK
 simp -implicitDefEqProofs (disch:=first|omega|simp only[go_sem]) only[go_sem,true_and,f9,c15,hr0]
 refine Xu (σ:=List Change) (by kernel_rfl) (fun a s=>s.df=[]∧s.rd=none∧s.fr 6=some (.pointer (some ⟨H1.next,0,none⟩))∧s.fr 9=some (.pointer (some ⟨M3.next,0,none⟩))∧s.fr 14=some (.int .i64 (k:Nat))∧s.fr 119=some (.pointer (some ⟨K.next,0,none⟩))∧K.next<s.h.next∧(∃ cv,s.fr 17=some cv∧Made fChange K s.h cv a)∧(a.map Change.k).Nodup∧(∀ c∈a,Yk Change.k st.w c.k=some c)∧RngAt Zq s.h K.next M1.next (M1a Change.k X0a st.w) (a.map Change.k).reverse) (fun a=>st.w.length - a.length) [] ?_ ?_
 ·simp -implicitDefEqProofs (disch:=first|omega|simp only[go_sem]) only[go_sem,true_and,f6,f9,f14]
  exact ⟨Nat.lt_succ_self _,⟨_,rfl,.nil _ (Ext.push1 _ _)⟩,.nil,fun c hc=>(by cases hc),hr1⟩
 rintro a ⟨fr,df,N,rd⟩ K' hK' hX ⟨rfl,rfl,f6,f9,f14,f119,hlN,⟨cv,f17,mc⟩,hnd,hla,hrg⟩
 simp only at f6 f9 f14 f119 hlN f17 mc hrg
 obtain ⟨NL,hNL,hall⟩:=hrg.next (fun _=>rfl) (by omega)
 have hal:a.length≤st.w.length:=by
  have h1:=p1a (b:=st.w.map Change.k) hnd (fun k hk=>by
   obtain ⟨c,hc,rfl⟩:=List.mem_map.1 hk
   exact List.mem_map.2 ⟨c,(d0a (hla c hc)).1,rfl⟩)
  simpa using h1
 simp -implicitDefEqProofs (disch:=first|omega|simp only[go_sem]) only[go_sem,true_and,f119,hNL]
 intro pp hpp
 rcases hall pp hpp with ⟨rfl,hd⟩ | ⟨ck,cvv,o2,hk',hnk,rfl,hent,hr2⟩
 ·simp -implicitDefEqProofs (disch:=first|omega|simp only[go_sem]) only[go_sem,true_and]
  refine hX _ _ (by simp) ?_
  have eKN:=mc.ext
  have gbN:N.get M3.next=some (.row (WU t vc va vr vw st.reg Q1.next M1.next M2.next vo (L.length:Nat)) 0 false):=(eKN.get _ hbK).trans gb
  have c16:∀ N',Ext N N'→Zu N' M3.next 16=some vo:=fun N' e=>(Zy ((e.get _ (by omega)).trans gbN)).trans (v1a l8).2.2.1
  have hlast:byK Change.k a=byK Change.k st.w:=N3c hnd hla fun k hk=>by
   have:=hd k ((y5c st.w k).2 hk)
   simpa using this
  have hvo:vo.cells=#[vo]:=oo.sl.cells1
  simp -implicitDefEqProofs (disch:=first|omega|simp only[go_sem]) only[go_sem,true_and]
  refine L2d rfl ?_
  simp -implicitDefEqProofs (disch:=first|omega|simp only[go_sem]) only[go_sem,true_and,N6c,P8c,f9,f14,f17,c16 N (.refl _)]
  refine B1a (q0c mc.arg (by omega)) ?_
  rintro r N2 ⟨w2,rfl,m2⟩
  have hw2:w2.cells=#[w2]:=m2.sl.cells1
  have hone:[Value.int .i64 0,vo,w2,.int .i64 (k:Nat)].all Value.oneCell'=true:=by
   obtain ⟨_,_,rfl⟩:=oo.sl.isSlice
   obtain ⟨_,_,rfl⟩:=m2.sl.isSlice
   rfl
  have eN:=m2.ext
  obtain ⟨K3,s1,s2,o,rfl⟩:=res N2 0 (k:Nat) vo w2 hvo hw2 hone ((eN.get _ (by have:=I.kp.next;have:=eKN.next;have:=eQ1.next;omega)).trans ((eKN.get _ (by have:=I.kp.next;have:=eQ1.next;omega)).trans (rZ K I.kp)))
  simp -implicitDefEqProofs (disch:=first|omega|simp only[go_sem]) only[go_sem,true_and,Y3a,c16 N2 eN,z7d hvo hw2,f6,s1]
  simp -implicitDefEqProofs (disch:=first|omega|simp only[go_sem]) only[go_sem,true_and,G0a,k0a,f6,s2]
  refine ⟨_,rfl,?_⟩
  rw[← hR,hO3]
  have ehK:Ext h K:=eZ K I.kp
  have ehN2:Ext h N2:=(ehK.trans eKN).trans eN
  have hH1:h.next≤H1.next:=by omega
  have eset:Ext h (N2.set H1.next o):=ehN2.set hH1
  have h1Z:H1.next<Z.next:=by have:=eQ1.next;omega
  refine ⟨_,_,rfl,⟨eset,ow,oo.mono (by show K.next≤N2.next;exact Nat.le_trans eKN.next eN.next) (fun i hi=>?_) (fun i hi=>hi.elim),fun i hi=>?_⟩,?_⟩
  ·have h1:=how i hi
   have h2:=oo.lt i hi
   rw[Zv _ _ (by omega)]
   exact (eN.get _ (Nat.lt_of_lt_of_le h2 eKN.next)).trans (eKN.get _ h2)
  ·have:=how i hi
   have:=eQ.next
   omega
  ·rw[hlast]at m2
   obtain ⟨w3,p1,p2⟩:=m2.own
   refine ⟨eset,w3,p1.mono (Nat.le_refl _) (fun i hi=>Zv _ _ ?_) (fun i hi=>hi.elim),fun i hi=>?_⟩
   ·have:=p2 i hi
    have:=I.kp.next
    have:=eKN.next
    omega
   ·have:=p2 i hi
    have:=eKN.next
    have:=ehK.next
    omega
 ·obtain ⟨c,hc,hcv⟩:∃ c,Yk Change.k st.w ck=some c∧cvv=X0a c:=by
   have:=(F2a (I7a st.w)).2 hk'
   rw[q5a]at this
   cases hq:Yk Change.k st.w ck with
   | none=>rw[hq]at this;cases this
   | some c=>
     rw[hq]at this
     exact ⟨c,rfl,(Option.some.inj this).symm⟩
  subst hcv
  have hck:=(d0a hc).2
  subst hck
  obtain ⟨N1,hN1⟩:∃ H,H=N.set K.next o2:=⟨_,rfl⟩
  rw[← hN1]at hent hr2
  have hN1n:N1.next=N.next:=by rw[hN1];rfl
  have mc1:Made fChange K N1 cv a:=by
   rw[hN1]
   obtain ⟨es,cc,seen,q1,q2,_⟩:=hrg
   exact mc.setX (fun cs e=>by rw[q2]at e;cases e) (Nat.le_refl _)
  obtain ⟨N2,hN2⟩:∃ H,H=N1.push (.row [.int .i32 c.k.t,.int .i64 c.k.r,.int .i64 c.v,.bool c.e] 0 false):=⟨_,rfl⟩
  have eN2:Ext N1 N2:=by rw[hN2];exact Ext.push1 _ _
  have hN2n:N2.next=N.next+1:=by rw[hN2,g0a,hN1n]
  have gN2:N2.get N1.next=some (.row [.int .i32 c.k.t,.int .i64 c.k.r,.int .i64 c.v,.bool c.e] 0 false):=by rw[hN2];exact Zz _ _
  have lc2:Zx N2 N1.next 0 4=some (X0a c):=by rw[Zw gN2 (Nat.le_of_ble_eq_true rfl)];rfl
  have hst:Yw Tryz.prog 99 (.pointer (some ⟨N1.next,0,none⟩)) (.agg #[.int .i32 c.k.t,.int .i64 c.k.r,.int .i64 c.v,.bool c.e]) (N1.push (.row [.int .i32 0,.int .i64 0,.int .i64 0,.bool false] 0 false))=some N2:=by
   rw[hN2]
   exact (i9a rfl).trans (a0a rfl rfl)
  have hwokc:=I.wok c (d0a hc).1
  have hnk2:c.k∉a.map Change.k:=fun hh=>hnk (List.mem_reverse.2 hh)
  have hal2:a.length+1≤st.w.length:=by
   have h1:=p1a (a:=c.k :: a.map Change.k) (b:=st.w.map Change.k) (List.nodup_cons.2 ⟨hnk2,hnd⟩) (fun k hk=>by
    rcases List.mem_cons.1 hk with rfl | hk
    ·exact List.mem_map.2 ⟨c,(d0a hc).1,rfl⟩
    ·obtain ⟨d,hd,rfl⟩:=List.mem_map.1 hk
     exact List.mem_map.2 ⟨d,(d0a (hla d hd)).1,rfl⟩)
   simpa using h1
  obtain ⟨cv',N3,e6,m6,n6,k6⟩:=(mc1.on eN2).snocX U6a (y:=c) (cs:=[.int .i32 c.k.t,.int .i64 c.k.r,.int .i64 c.v,.bool c.e]) (z:=4) rfl rfl (by decide) hwokc (by omega) (by decide)
  have hr3:RngAt Zq N2 K.next M1.next (M1a Change.k X0a st.w) (c.k :: (a.map Change.k).reverse):=hr2.keep (eN2.get _ (by omega)) (eN2.get _ (by omega))
  have hr4:RngAt Zq N3 K.next M1.next (M1a Change.k X0a st.w) (c.k :: (a.map Change.k).reverse):=by
   have hr3':=hr3
   obtain ⟨es,cc,seen,q1,q2,_⟩:=hr3'
   exact RngAt.keep hr3 (k6 _ (by omega) (.map q1)) (k6 _ (by omega) (fun cs e=>by rw[q2]at e;cases e))
  simp -implicitDefEqProofs (disch:=first|omega|simp only[go_sem]) only[go_sem,true_and,← hN1,f119,f17,hent,hst,lc2,e6]
  refine hK' (a++[c]) _ ?_ (by rw[List.length_append];simp;omega)
  refine ⟨by trivial,by trivial,(vy f6),(vy f9),(vy f14),(vy f119),show K.next<N3.next by omega,⟨cv',vz,m6⟩,?_,fun d hd=>?_,?_⟩
  ·rw[List.map_append]
   refine List.nodup_append.2 ⟨hnd,by simp,fun p hp q hq=>?_⟩
   simp only[List.map_cons,List.map_nil,List.mem_singleton]at hq
   subst hq
   exact fun e=>hnk2 (e▸hp)
  ·rcases List.mem_append.1 hd with hd | hd
   ·exact hla d hd
   ·rw[List.mem_singleton.1 hd]
    exact hc
  ·rw[List.map_append,List.reverse_append]
   exact hr4
abbrev u8V (n:Int):Value:=.int .u8 n
theorem Pair.ext_iff' {a b:Pair}:a=b↔a.k=b.k∧a.v=b.v:=by cases a;cases b;simp
theorem Change.ext_iff' {a b:Change}:a=b↔a.k=b.k∧a.v=b.v∧a.e=b.e:=by cases a;cases b;simp
theorem N1d {K:DHeap} {e k:Int} {vv cv:Value} {R S:Nat→Prop} {xs:List Int} {cs:List Change} (hv:Sl fI64.rep R K vv xs) (hc:Sl fChange.rep S K cv cs) :
 ∃ K1,Yw Tryz.prog 94 (.pointer (some ⟨K.next,0,none⟩)) (.agg #[.int .i64 e,vv,cv,.int .i64 k]) (K.push (.row [.int .i64 0,YU,YU,.int .i64 0] 0 false))=some K1∧Ext K K1∧K1.get K.next=some (.row [.int .i64 e,vv,cv,.int .i64 k] 0 false)∧K1.next=K.next+1:=by
 have hone:[Value.int .i64 e,vv,cv,.int .i64 k].all Value.oneCell'=true:=by
  obtain ⟨_,_,rfl⟩:=hv.isSlice
  obtain ⟨_,_,rfl⟩:=hc.isSlice
  rfl
 exact ⟨K.push (.row [.int .i64 e,vv,cv,.int .i64 k] 0 false),(G9b rfl).trans (a0a rfl hone),Ext.push1 _ _,Zz _ _,rfl⟩
end Go.Proofs.YtheamfnbfgiaeaaGreat
namespace Go.Proofs.YtheamfnbfgiaeaaGreat
open Go.D
set_option maxRecDepth 100000
def WW (t:Txn) (vc va vr vw vm:Value) (g:List Int) (vq vo:Value) (n:Int):List Value:=
 .int .i64 t.ses :: .int .i64 t.req :: vc :: va :: vr :: vw :: vm :: (g.map (fun n=>Value.int .i64 n)++[vq,vo,.int .i64 n])
section
variable {t:Txn} {vc va vr vw vm vq vo:Value} {g:List Int} {n:Int}
theorem a4a (hg:g.length=8):(WW t vc va vr vw vm g vq vo n).length=18:=by simp[WW,hg]
theorem k6a (hg:g.length=8) {a:Nat} (ha:a<8):(WW t vc va vr vw vm g vq vo n)[7+a]? = some (.int .i64 (g.getD a 0)):=by
 obtain ⟨r0,r1,r2,r3,r4,r5,r6,r7,rfl⟩:=i6a hg
 match a,ha with
 | 0,_=>rfl
 | 1,_=>rfl
 | 2,_=>rfl
 | 3,_=>rfl
 | 4,_=>rfl
 | 5,_=>rfl
 | 6,_=>rfl
 | 7,_=>rfl
theorem j3a (hg:g.length=8):(WW t vc va vr vw vm g vq vo n)[6]? = some vm∧(WW t vc va vr vw vm g vq vo n)[15]? = some vq∧(WW t vc va vr vw vm g vq vo n)[16]? = some vo∧(WW t vc va vr vw vm g vq vo n)[17]? = some (.int .i64 n):=by
 obtain ⟨r0,r1,r2,r3,r4,r5,r6,r7,rfl⟩:=i6a hg
 exact ⟨rfl,rfl,rfl,rfl⟩
theorem H9a (hg:g.length=8) {a:Nat} (ha:a<8) (v:Int):Xy (WW t vc va vr vw vm g vq vo n) (7+a) [.int .i64 v]=WW t vc va vr vw vm (g.set a v) vq vo n:=by
 obtain ⟨r0,r1,r2,r3,r4,r5,r6,r7,rfl⟩:=i6a hg
 match a,ha with
 | 0,_=>rfl
 | 1,_=>rfl
 | 2,_=>rfl
 | 3,_=>rfl
 | 4,_=>rfl
 | 5,_=>rfl
 | 6,_=>rfl
 | 7,_=>rfl
theorem L2c (hg:g.length=8) (v:Value):Xy (WW t vc va vr vw vm g vq vo n) 15 [v]=WW t vc va vr vw vm g v vo n:=by
 obtain ⟨r0,r1,r2,r3,r4,r5,r6,r7,rfl⟩:=i6a hg
 rfl
theorem J6b (hg:g.length=8) (v:Value):Xy (WW t vc va vr vw vm g vq vo n) 16 [v]=WW t vc va vr vw vm g vq v n:=by
 obtain ⟨r0,r1,r2,r3,r4,r5,r6,r7,rfl⟩:=i6a hg
 rfl
theorem K7a (hg:g.length=8) (k:Int):Xy (WW t vc va vr vw vm g vq vo n) 17 [.int .i64 k]=WW t vc va vr vw vm g vq vo k:=by
 obtain ⟨r0,r1,r2,r3,r4,r5,r6,r7,rfl⟩:=i6a hg
 rfl
end
structure v5a (h0:DHeap) (b:Nat) (t:Txn) (vc va vr vw vm:Value) (m:List Pair):Prop where
 lb:b<h0.next
 tx:TxV (fun i=>i<h0.next∧¬ i=b) h0 t vc va vr vw
 len:P3a t
 sm:Sl fPair.rep (fun i=>i<h0.next∧¬ i=b) h0 vm m
 lm:m.length≤1048576
 up:UpB Pair.k m
structure RefI (h0 K:DHeap) (b:Nat) (t:Txn) (vc va vr vw vm:Value) (s:RS) (n:Int) (vq vo:Value) (wq wo:Option Nat):Prop where
 kp:KpD (fun i=>i=b) h0 K
 row:K.get b=some (.row (WW t vc va vr vw vm s.reg vq vo n) 0 false)
 q:Owns fChange.rep NoS K vq s.w wq
 o:Owns fI64.rep NoS K vo s.out wo
 hq:∀ i,wq=some i→h0.next≤i
 ho:∀ i,wo=some i→h0.next≤i
 len:s.reg.length=8
 ok:∀ n∈s.reg,inK .i64 n
 outn:s.out.length≤8
 wn:s.w.length≤8192
section
variable {h0 K K':DHeap} {b:Nat} {t:Txn} {vc va vr vw vm vq vo vq' vo':Value} {m:List Pair} {s s':RS} {n n':Int} {wq wo:Option Nat}
theorem RefI.ext (C:v5a h0 b t vc va vr vw vm m) (I:RefI h0 K b t vc va vr vw vm s n vq vo wq wo) (e:Ext K K'):RefI h0 K' b t vc va vr vw vm s n vq vo wq wo:=
 ⟨I.kp.ext e,(e.get _ (Nat.lt_of_lt_of_le C.lb I.kp.next)).trans I.row,I.q.mono e.next (fun i hi=>e.get i (I.q.lt i hi)) (fun i hi=>hi.elim),I.o.mono e.next (fun i hi=>e.get i (I.o.lt i hi)) (fun i hi=>hi.elim),I.hq,I.ho,I.len,I.ok,I.outn,I.wn⟩
theorem RefI.tx (C:v5a h0 b t vc va vr vw vm m) (I:RefI h0 K b t vc va vr vw vm s n vq vo wq wo):TxV (InH K) K t vc va vr vw:=
 C.tx.mono fun i hi=>⟨Nat.lt_of_lt_of_le hi.1 I.kp.next,I.kp.get i hi.1 hi.2⟩
theorem RefI.sm (C:v5a h0 b t vc va vr vw vm m) (I:RefI h0 K b t vc va vr vw vm s n vq vo wq wo):Arg fPair.rep K vm m:=
 C.sm.mono fun i hi=>⟨Nat.lt_of_lt_of_le hi.1 I.kp.next,I.kp.get i hi.1 hi.2⟩
theorem RefI.box (C:v5a h0 b t vc va vr vw vm m) (I:RefI h0 K b t vc va vr vw vm s n vq vo wq wo) (hw:s'.w=s.w) (hout:s'.out=s.out) (hl:s'.reg.length=8) (hok:∀ n∈s'.reg,inK .i64 n) :
 RefI h0 (K.set b (.row (WW t vc va vr vw vm s'.reg vq vo n') 0 false)) b t vc va vr vw vm s' n' vq vo wq wo:=by
 have hlb:=C.lb
 refine ⟨I.kp.set (.inl rfl),ZX _ _,?_,?_,I.hq,I.ho,hl,hok,by rw[hout];exact I.outn,by rw[hw];exact I.wn⟩
 ·rw[hw]
  exact I.q.mono (Nat.le_refl _) (fun i hi=>Zv _ _ (by have:=I.hq i hi;omega)) (fun i hi=>hi.elim)
 ·rw[hout]
  exact I.o.mono (Nat.le_refl _) (fun i hi=>Zv _ _ (by have:=I.ho i hi;omega)) (fun i hi=>hi.elim)
theorem RefI.reg (C:v5a h0 b t vc va vr vw vm m) (I:RefI h0 K b t vc va vr vw vm s n vq vo wq wo) {a v:Int} (hv:inK .i64 v):RefI h0 (K.set b (.row (WW t vc va vr vw vm (s.reg.set a.toNat v) vq vo n) 0 false)) b t vc va vr vw vm (s.set a v) n vq vo wq wo:=
 I.box C (s':=s.set a v) rfl rfl (by simp[I.len]) fun n hn=>by
  rcases List.mem_or_eq_of_mem_set hn with hn | rfl
  ·exact I.ok n hn
  ·exact hv
theorem RefI.at' (C:v5a h0 b t vc va vr vw vm m) (I:RefI h0 K b t vc va vr vw vm s n vq vo wq wo) (k:Int):RefI h0 (K.set b (.row (WW t vc va vr vw vm s.reg vq vo k) 0 false)) b t vc va vr vw vm s k vq vo wq wo:=
 I.box C rfl rfl I.len I.ok
theorem RefI.put (C:v5a h0 b t vc va vr vw vm m) (I:RefI h0 K b t vc va vr vw vm s n vq vo wq wo) {c:Change} (hc:fChange.ok c) (hwn:s.w.length<8192) :
 ∃ vq' h2,o0a Tryz.prog #[92,92] vq (.slice (some ⟨K.next,0,none⟩) 1 1) (K.push (.row [.int .i32 c.k.t,.int .i64 c.k.r,.int .i64 c.v,.bool c.e] 4 false))=some (vq',h2)∧vq'.cells=#[vq']∧[vq'].all Value.oneCell'=true ∧
  h2.get b=some (.row (WW t vc va vr vw vm s.reg vq vo n) 0 false)∧RefI h0 (h2.set b (.row (WW t vc va vr vw vm s.reg vq' vo n) 0 false)) b t vc va vr vw vm (s.put c) n vq' vo (some (K.next+1)) wo:=by
 obtain ⟨vq',h2,e6,n2,ng2,gg,o3⟩:=I.q.snoc (cs:=[.int .i32 c.k.t,.int .i64 c.k.r,.int .i64 c.v,.bool c.e]) (x:=c) (z:=4) (fun i hi=>hi.elim) ⟨rfl,hc⟩ rfl (by decide) U6a (by omega) (by decide)
 have hlb:=C.lb
 have hkn:=I.kp.next
 have nb:wq≠some b:=fun e=>by have:=I.hq b e;omega
 have gb2:h2.get b=some (.row (WW t vc va vr vw vm s.reg vq vo n) 0 false):=(gg _ (by omega) nb).trans I.row
 have kp2:KpD (fun i=>i=b) h0 h2:=⟨by omega,ng2.trans I.kp.ng,fun i hi hn=>(gg i (by omega) (fun e=>by have:=I.hq i e;omega)).trans (I.kp.get i hi hn)⟩
 have nwo:∀ i,wo=some i→wq≠some i:=fun i hi=>by
  subst hi
  refine I.q.ne ?_
  rcases I.o with ⟨_,_,e⟩ | ⟨e,_⟩ | ⟨id,cap,cells,_,e,_,g2,_⟩
  ·cases e
  ·cases e
  ·cases e
   exact .row g2 (by decide)
 refine ⟨vq',h2,e6,o3.sl.cells1,by obtain ⟨_,_,rfl⟩:=o3.sl.isSlice;rfl,gb2,⟨kp2.set (.inl rfl),ZX _ _,o3.mono (Nat.le_refl _) (fun i hi=>Zv _ _ (by cases hi;omega)) (fun i hi=>hi.elim),?_,fun i hi=>by cases hi;omega,I.ho,I.len,I.ok,I.outn,?_⟩⟩
 ·exact I.o.mono (show K.next≤h2.next by omega) (fun i hi=>by
   have h1:=I.o.lt i hi
   have h3:=I.ho i hi
   rw[Zv _ _ (by omega)]
   exact gg i h1 (nwo i hi)) (fun i hi=>hi.elim)
 ·show (s.w++[c]).length≤8192
  rw[List.length_append]
  simp
  omega
theorem RefI.ans (C:v5a h0 b t vc va vr vw vm m) (I:RefI h0 K b t vc va vr vw vm s n vq vo wq wo) {y:Int} (hy:inK .i64 y) (hon:s.out.length<8) :
 ∃ vo' h2,o0a Tryz.prog #[23,23] vo (.slice (some ⟨K.next,0,none⟩) 1 1) (K.push (.row [.int .i64 y] 1 false))=some (vo',h2)∧vo'.cells=#[vo']∧[vo'].all Value.oneCell'=true ∧
  h2.get b=some (.row (WW t vc va vr vw vm s.reg vq vo n) 0 false)∧RefI h0 (h2.set b (.row (WW t vc va vr vw vm s.reg vq vo' n) 0 false)) b t vc va vr vw vm { s with out:=s.out++[y] } n vq vo' wq (some (K.next+1)):=by
 obtain ⟨vo',h2,e6,n2,ng2,gg,o3⟩:=I.o.snoc (cs:=[.int .i64 y]) (x:=y) (z:=1) (fun i hi=>hi.elim) ⟨rfl,hy⟩ rfl (by decide) a4b (by omega) (by decide)
 have hlb:=C.lb
 have hkn:=I.kp.next
 have nb:wo≠some b:=fun e=>by have:=I.ho b e;omega
 have gb2:h2.get b=some (.row (WW t vc va vr vw vm s.reg vq vo n) 0 false):=(gg _ (by omega) nb).trans I.row
 have kp2:KpD (fun i=>i=b) h0 h2:=⟨by omega,ng2.trans I.kp.ng,fun i hi hn=>(gg i (by omega) (fun e=>by have:=I.ho i e;omega)).trans (I.kp.get i hi hn)⟩
 have nwq:∀ i,wq=some i→wo≠some i:=fun i hi=>by
  subst hi
  refine I.o.ne ?_
  rcases I.q with ⟨_,_,e⟩ | ⟨e,_⟩ | ⟨id,cap,cells,_,e,_,g2,_⟩
  ·cases e
  ·cases e
  ·cases e
   exact .row g2 (by decide)
 refine ⟨vo',h2,e6,o3.sl.cells1,by obtain ⟨_,_,rfl⟩:=o3.sl.isSlice;rfl,gb2,⟨kp2.set (.inl rfl),ZX _ _,?_,o3.mono (Nat.le_refl _) (fun i hi=>Zv _ _ (by cases hi;omega)) (fun i hi=>hi.elim),I.hq,fun i hi=>by cases hi;omega,I.len,I.ok,?_,I.wn⟩⟩
 ·exact I.q.mono (show K.next≤h2.next by omega) (fun i hi=>by
   have h1:=I.q.lt i hi
   have h3:=I.hq i hi
   rw[Zv _ _ (by omega)]
   exact gg i h1 (nwq i hi)) (fun i hi=>hi.elim)
 ·show (s.out++[y]).length≤8
  rw[List.length_append]
  simp
  omega
theorem RefI.wok (I:RefI h0 K b t vc va vr vw vm s n vq vo wq wo):∀ c∈s.w,fChange.ok c:=I.q.sl.ok
end
theorem l5c {α:Type} {key:α→Key} {l:List α} {k:Key} {i:Nat} (hi:i<l.length) (hk:key l[i]=k) (hn:k∉(l.drop (i+1)).map key):Yk key l k=some l[i]:=by
 have h1:=r5b (key:=key) (l:=l.take (i+1)) (m:=l.drop (i+1)) (k:=k)
 rw[List.take_append_drop,w3a.2 hn,List.take_succ_eq_append_getElem hi,G5a,if_pos hk]at h1
 exact h1
set_option maxHeartbeats 1000000 in
theorem L7a {h0 h:DHeap} {b:Nat} {t:Txn} {vc va vr vw vm vq vo:Value} {m:List Pair} {s:RS} {n:Int} {wq wo:Option Nat} {k:Key} (C:v5a h0 b t vc va vr vw vm m) (I:RefI h0 h b t vc va vr vw vm s n vq vo wq wo) :
 DC Tryz.prog 119 [.pointer (some ⟨b,0,none⟩),Zq k] h (.ret (.tuple #[.int .i64 (J2a m s.w k).1,.bool (J2a m s.w k).2])) h:=by
 refine Ct.pure (N5d (by simp) ?_) (b3a _ rfl)
 obtain ⟨K1,hK1⟩:∃ H,H=h.push (.row [.int .i32 k.t,.int .i64 k.r] 0 false):=⟨_,rfl⟩
 have g1:K1.get h.next=some (.row [.int .i32 k.t,.int .i64 k.r] 0 false):=by rw[hK1];exact Zz _ _
 have e1:Ext h K1:=by rw[hK1];exact Ext.push1 _ _
 have hcl:(Zq k).cells.toList=[.int .i32 k.t,.int .i64 k.r]:=rfl
 have lk:Zx K1 h.next 0 2=some (Zq k):=by rw[Zw g1 (Nat.le_of_ble_eq_true rfl)];rfl
 have I1:=I.ext C e1
 obtain ⟨t6,t15,_,_⟩:=j3a (t:=t) (vc:=vc) (va:=va) (vr:=vr) (vw:=vw) (vm:=vm) (vq:=vq) (vo:=vo) (n:=n) I.len
 have c15:Zu K1 b 15=some vq:=(Zy I1.row).trans t15
 have c6:Zu K1 b 6=some vm:=(Zy I1.row).trans t6
 have hwn:=I.wn
 have aq:Arg fChange.rep K1 vq s.w:=I1.q.arg (fun i hi=>hi.elim)
 have lq:∀ K,dLen Tryz.prog #[92] vq K=some (.int .i64 (s.w.length:Nat)):=aq.lens (P:=Tryz.prog) (ts:=#[92]) (t:=92) rfl h7a
 have am:=I1.sm C
 have hlm:=C.lm
 have lm:∀ K,dLen Tryz.prog #[96] vm K=some (.int .i64 (m.length:Nat)):=am.lens (P:=Tryz.prog) (ts:=#[96]) (t:=96) rfl g6a
 have w0:IntKind.i64.wrap ((s.w.length:Nat) - 1:Int)=(s.w.length:Nat) - 1:=ZQ (by omega) (by omega)
 simp -implicitDefEqProofs (disch:=first|omega|simp only[go_sem]) only[go_sem,true_and,p4d,hcl,← hK1,c15,lq,w0]
 refine i5a (fun s'=>s'.df=[]∧s'.rd=none∧s'.h=K1∧s'.fr 0=some (.pointer (some ⟨b,0,none⟩))∧s'.fr 3=some (.pointer (some ⟨h.next,0,none⟩))∧k∉s.w.map Change.k) ?_ ?_
 ·refine Xu (σ:=Nat) (by kernel_rfl) (fun i s'=>s'.df=[]∧s'.rd=none∧s'.h=K1∧s'.fr 0=some (.pointer (some ⟨b,0,none⟩))∧s'.fr 3=some (.pointer (some ⟨h.next,0,none⟩))∧s'.fr 6=some (.int .i64 ((i:Nat) - 1:Int))∧i≤s.w.length∧k∉(s.w.drop i).map Change.k) (fun i=>i) s.w.length ?_ ?_
  ·simp -implicitDefEqProofs (disch:=first|omega|simp only[go_sem]) only[go_sem,true_and]
   exact ⟨Nat.le_refl _,by rw[List.drop_length];simp⟩
  rintro i ⟨fr,df,M,rd⟩ K' hK' hX ⟨rfl,rfl,rfl,f0,f3,f6,hi,hn⟩
  simp only at f0 f3 f6
  simp -implicitDefEqProofs (disch:=first|omega|simp only[go_sem]) only[go_sem,true_and,f6]
  refine YX (fun hc1=>?_) (fun hc1=>?_)
  ·obtain ⟨j,rfl⟩:∃ j,i=j+1:=⟨i - 1,by omega⟩
   have hj:j<s.w.length:=by omega
   have hjj:((j+1:Nat):Int) - 1=(j:Nat):=by omega
   rw[hjj]at f6
   obtain ⟨id1,o1,i1,_,hat1⟩:=aq.idx (P:=Tryz.prog) (t:=92) y4a (k:=.i64) (i:=j) (x:=s.w[j]) (by simp)
   have k1:Zx M id1 o1 2=some (Zq s.w[j].k):=X6a hat1
   have v1:Zu M id1 (o1+2)=some (.int .i64 s.w[j].v):=hat1.flat.1 2 (by decide)
   have v2:Zu M id1 (o1+3)=some (.bool s.w[j].e):=hat1.flat.1 3 (by decide)
   have hw:IntKind.i64.wrap ((j:Nat) - 1:Int)=(j:Nat) - 1:=ZQ (by omega) (by omega)
   simp -implicitDefEqProofs (disch:=first|omega|simp only[go_sem]) only[go_sem,true_and]
   refine d6c rfl ?_
   simp -implicitDefEqProofs (disch:=first|omega|simp only[go_sem]) only[go_sem,true_and,o1c,A2c,f0,f3,f6,c15,i1,k1,lk,k1a]
   by_cases he:s.w[j].k=k
   ·simp -implicitDefEqProofs (disch:=first|omega|simp only[go_sem]) only[go_sem,true_and,he]
    refine f6c rfl ?_
    simp -implicitDefEqProofs (disch:=first|omega|simp only[go_sem]) only[go_sem,true_and,p1c,B2c,f0,f6,c15,i1,v1,v2]
    refine hX _ _ (by simp) ?_
    simp -implicitDefEqProofs (disch:=first|omega|simp only[go_sem]) only[go_sem,true_and]
    exact ⟨_,rfl,by rw[l0b (l5c hj he hn)],e1⟩
   ·simp -implicitDefEqProofs (disch:=first|omega|simp only[go_sem]) only[go_sem,true_and,he,f6,hw]
    refine hK' j _ ?_ (by omega)
    refine ⟨by trivial,by trivial,by trivial,(vy f0),(vy f3),vz,by omega,?_⟩
    rw[List.drop_eq_getElem_cons hj,List.map_cons,List.mem_cons]
    rintro (e | e)
    ·exact he e.symm
    ·exact hn e
  ·obtain rfl:i=0:=by omega
   refine hX _ _ (by simp) ?_
   exact ⟨by trivial,by trivial,by trivial,(vy f0),(vy f3),hn⟩
 rintro ⟨fr,df,M,rd⟩ ⟨hdf,hrd,hM,f0,f3,hn⟩
 simp only at hdf hrd hM f0 f3
 subst hdf hrd hM
 have hnone:=(w3a (key:=Change.k)).2 hn
 simp -implicitDefEqProofs (disch:=first|omega|simp only[go_sem]) only[go_sem,true_and]
 refine Xu (σ:=Nat) (by kernel_rfl) (fun i s'=>s'.df=[]∧s'.rd=none∧s'.h=M∧s'.fr 0=some (.pointer (some ⟨b,0,none⟩))∧s'.fr 3=some (.pointer (some ⟨h.next,0,none⟩))∧s'.fr 7=some (.int .i64 (i:Nat))∧i≤m.length∧k∉(m.take i).map Pair.k) (fun i=>m.length - i) 0 ?_ ?_
 ·simp -implicitDefEqProofs (disch:=first|omega|simp only[go_sem]) only[go_sem,true_and,f0,f3]
  exact ⟨by trivial,Nat.zero_le _,by simp⟩
 clear f0 f3
 rintro i ⟨fr,df,M2,rd⟩ K' hK' hX ⟨hdf,hrd,hM2,f0,f3,f7,hi,hni⟩
 simp only at hdf hrd hM2 f0 f3 f7
 subst hdf hrd hM2
 simp -implicitDefEqProofs (disch:=first|omega|simp only[go_sem]) only[go_sem,true_and,f0,f7,c6,lm]
 refine YX (fun hc1=>?_) (fun hc1=>?_)
 ·have hj:i<m.length:=by omega
  obtain ⟨id1,o1,i1,_,hat1⟩:=am.idx (P:=Tryz.prog) (t:=96) D2a (k:=.i64) (i:=i) (x:=m[i]) (by simp)
  have k1:Zx M2 id1 o1 2=some (Zq m[i].k):=S4a hat1
  have v1:Zu M2 id1 (o1+2)=some (.int .i64 m[i].v):=hat1.flat.1 2 (by decide)
  have hw:=ZV hj (by omega)
  simp -implicitDefEqProofs (disch:=first|omega|simp only[go_sem]) only[go_sem,true_and]
  refine g6c rfl ?_
  simp -implicitDefEqProofs (disch:=first|omega|simp only[go_sem]) only[go_sem,true_and,q1c,C2c,f0,f3,f7,c6,i1,k1,lk,k1a]
  by_cases he:m[i].k=k
  ·simp -implicitDefEqProofs (disch:=first|omega|simp only[go_sem]) only[go_sem,true_and,he,f0,f7,c6,i1,v1]
   refine hX _ _ (by simp) ?_
   simp -implicitDefEqProofs (disch:=first|omega|simp only[go_sem]) only[go_sem,true_and]
   have hp:Yk Pair.k m k=some m[i]:=by
    rw[← he]
    exact (m5c C.up).2 (List.getElem_mem hj)
   exact ⟨_,rfl,by rw[O8a hnone hp],e1⟩
  ·simp -implicitDefEqProofs (disch:=first|omega|simp only[go_sem]) only[go_sem,true_and,he,f7,hw]
   refine hK' (i+1) _ ?_ (by omega)
   refine ⟨by trivial,by trivial,by trivial,(vy f0),(vy f3),vz,by omega,?_⟩
   rw[List.take_succ_eq_append_getElem hj,List.map_append,List.mem_append]
   rintro (e | e)
   ·exact hni e
   ·exact he (List.mem_singleton.1 e).symm
 ·obtain rfl:i=m.length:=by omega
  rw[List.take_length]at hni
  refine hX _ _ (by simp) ?_
  simp -implicitDefEqProofs (disch:=first|omega|simp only[go_sem]) only[go_sem,true_and]
  exact ⟨_,rfl,by rw[c2b hnone (w3a.2 hni)],e1⟩
end Go.Proofs.YtheamfnbfgiaeaaGreat
namespace Go.Proofs.YtheamfnbfgiaeaaGreat
open Go.D
set_option maxRecDepth 100000
def S3b (h0:DHeap) (b:Nat) (t:Txn) (vc va vr vw vm:Value) (m:List Pair) (x:Instr) (s:RS) (n:Int) (r:DEnd) (h1:DHeap):Prop:=
 ∃ s' vq vo wq wo,RefI h0 h1 b t vc va vr vw vm s' n vq vo wq wo∧((ZW t m x s=(-1,s',none)∧r=.ret (.int .i64 0))∨(ZW t m x s=(4,s',none)∧r=.ret (.int .i64 4)))
def StepR (h0:DHeap) (b:Nat) (t:Txn) (vc va vr vw vm:Value) (m:List Pair) (x:Instr) (s:RS) (nx:Int) (r:DEnd) (h1:DHeap):Prop:=
 ∃ e s' j n' vq vo wq wo,ZW t m x s=(e,s',j)∧RefI h0 h1 b t vc va vr vw vm s' n' vq vo wq wo∧r=.ret (.tuple #[.bool (!decide (e=-1)),.int .i64 (if e=-1 then 0 else e)])∧(j=none→n'=nx)∧∀ a,j=some a→n'=a
section
variable {h0 h1:DHeap} {b:Nat} {t:Txn} {vc va vr vw vm vq vo:Value} {m:List Pair} {x:Instr} {s s':RS} {nx e:Int} {wq wo:Option Nat}
theorem StepR.go (E:ZW t m x s=(-1,s',none)) (I:RefI h0 h1 b t vc va vr vw vm s' nx vq vo wq wo):StepR h0 b t vc va vr vw vm m x s nx (.ret (.tuple #[.bool false,.int .i64 0])) h1:=
 ⟨_,_,_,_,_,_,_,_,E,I,rfl,fun _=>rfl,fun a ha=>by cases ha⟩
theorem StepR.jump {a:Int} (E:ZW t m x s=(-1,s',some a)) (I:RefI h0 h1 b t vc va vr vw vm s' a vq vo wq wo):StepR h0 b t vc va vr vw vm m x s nx (.ret (.tuple #[.bool false,.int .i64 0])) h1:=
 ⟨_,_,_,_,_,_,_,_,E,I,rfl,fun ha=>(by cases ha),fun b hb=>by cases hb;rfl⟩
theorem StepR.stop (E:ZW t m x s=(e,s',none)) (he:e ≠ -1) (I:RefI h0 h1 b t vc va vr vw vm s' nx vq vo wq wo):StepR h0 b t vc va vr vw vm m x s nx (.ret (.tuple #[.bool true,.int .i64 e])) h1:=
 ⟨_,_,_,_,_,_,_,_,E,I,by rw[decide_eq_false he,if_neg he];rfl,fun _=>rfl,fun a ha=>by cases ha⟩
end
set_option maxHeartbeats 4000000 in
theorem g2d {h0 h:DHeap} {b:Nat} {t:Txn} {vc va vr vw vm vq vo:Value} {m:List Pair} {s:RS} {n:Int} {wq wo:Option Nat} {x:Instr} (C:v5a h0 b t vc va vr vw vm m) (I:RefI h0 h b t vc va vr vw vm s n vq vo wq wo) (hx:y3b t x) (hwn:s.w.length<8192) (hT:x.op=3∨x.op=4∨x.op=5∨x.op=6∨x.op=26∨x.op=27) (hokm:∀ p∈m,fPair.ok p) :
 Ct Tryz.prog 90 [.pointer (some ⟨b,0,none⟩),XJ x] h (S3b h0 b t vc va vr vw vm m x s n):=by
 obtain ⟨x1,x2,x3,x4,x5⟩:=x
 obtain ⟨R,hR⟩:∃ R,S3b h0 b t vc va vr vw vm m ⟨x1,x2,x3,x4,x5⟩ s n=R:=⟨_,rfl⟩
 rw[hR]
 refine N9d (by simp) ?_
 obtain ⟨H,hH⟩:∃ H,H=h.push (.row [.int .i64 x1,.int .i64 x2,.int .i64 x3,.int .i64 x4,.int .i64 x5] 0 false):=⟨_,rfl⟩
 have hE:Ext h H:=by rw[hH];exact Ext.push1 _ _
 have gH:H.get h.next=some (.row [.int .i64 x1,.int .i64 x2,.int .i64 x3,.int .i64 x4,.int .i64 x5] 0 false):=by rw[hH];exact Zz _ _
 have hHn:H.next=h.next+1:=by rw[hH];rfl
 obtain ⟨H2,hH2⟩:∃ K,K=H.push (.row [.int .i32 0,.int .i64 0] 0 false):=⟨_,rfl⟩
 have e2:Ext H H2:=by rw[hH2];exact Ext.push1 _ _
 have g2:H2.get H.next=some (.row [.int .i32 0,.int .i64 0] 0 false):=by rw[hH2];exact Zz _ _
 have hH2n:H2.next=h.next+2:=by rw[hH2,g0a,hHn]
 obtain ⟨k,hk⟩:∃ k,(⟨IntKind.i32.wrap x5,s.r x4⟩:Key)=k:=⟨_,rfl⟩
 have hkok:fKey.ok k:=hk▸⟨k9a _ _,V1a I.ok _⟩
 have hfar:E2a ⟨x1,x2,x3,x4,x5⟩ s=k:=hk
 have hbk:XW Tryz.prog 31 [(0,.int .i32 (IntKind.i32.wrap x5)),(1,.int .i64 (s.r x4))]=some (Zq k):=hk▸A1b
 obtain ⟨B,hB⟩:∃ K,K=H2.set H.next (.row [.int .i32 k.t,.int .i64 k.r] 0 false):=⟨_,rfl⟩
 have e3:Ext H B:=by rw[hB];exact e2.set (Nat.le_refl _)
 have hst:Yw Tryz.prog 31 (.pointer (some ⟨H.next,0,none⟩)) (Zq k) H2=some B:=by
  rw[hB]
  exact (x3a rfl).trans (ZJ g2 (Nat.le_of_ble_eq_true rfl) rfl)
 have g3:B.get H.next=some (.row [.int .i32 k.t,.int .i64 k.r] 0 false):=by rw[hB];exact ZX _ _
 have hBn:B.next=h.next+2:=by rw[hB];exact hH2n
 have lk:∀ K,Ext B K→Zx K H.next 0 2=some (Zq k):=fun K e=>by rw[Zw ((e.get _ (by omega)).trans g3) (Nat.le_of_ble_eq_true rfl)];rfl
 have IB:RefI h0 B b t vc va vr vw vm s n vq vo wq wo:=I.ext C (hE.trans e3)
 have gx:B.get h.next=some (.row [.int .i64 x1,.int .i64 x2,.int .i64 x3,.int .i64 x4,.int .i64 x5] 0 false):=(e3.get _ (by omega)).trans gH
 have q3:Zu H2 h.next 3=some (.int .i64 x4):=Zy ((e2.get _ (by omega)).trans gH)
 have q4:Zu H2 h.next 4=some (.int .i64 x5):=Zy ((e2.get _ (by omega)).trans gH)
 have l8:=I.len
 have hbn:b<h.next:=Nat.lt_of_lt_of_le C.lb I.kp.next
 obtain ⟨t6,t15,t16,t17⟩:=j3a (t:=t) (vc:=vc) (va:=va) (vr:=vr) (vw:=vw) (vm:=vm) (g:=s.reg) (vq:=vq) (vo:=vo) (n:=n) l8
 have ha8:x3.toNat<8:=by have:=hx.a;simp only at this;omega
 have hb8:x4.toNat<8:=by have:=hx.b;simp only at this;omega
 have iaa:=Q5a (id:=b) (o:=7) hx.a.1 hx.a.2
 have iab:=Q5a (id:=b) (o:=7) hx.b.1 hx.b.2
 simp only at iaa iab
 have zok:inK .i64 0:=m0a.2 ⟨by decide,by decide⟩
 have iok:inK .i64 x5:=by have:=hx.imm;simp only at this;exact m0a.2 ⟨by omega,by omega⟩
 have qb:Zu H2 b (7+x4.toNat)=some (.int .i64 (s.r x4)):=(Zy ((e2.get _ (by omega)).trans ((hE.get _ hbn).trans I.row))).trans (k6a l8 hb8)
 have a1:∀ K,Ext B K→Zu K h.next 1=some (.int .i64 x2):=fun K e=>Zy ((e.get _ (by omega)).trans gx)
 have a2:∀ K,Ext B K→Zu K h.next 2=some (.int .i64 x3):=fun K e=>Zy ((e.get _ (by omega)).trans gx)
 have a3:∀ K,Ext B K→Zu K h.next 3=some (.int .i64 x4):=fun K e=>Zy ((e.get _ (by omega)).trans gx)
 have a4:∀ K,Ext B K→Zu K h.next 4=some (.int .i64 x5):=fun K e=>Zy ((e.get _ (by omega)).trans gx)
 have gbK:∀ K,Ext B K→K.get b=some (.row (WW t vc va vr vw vm s.reg vq vo n) 0 false):=fun K e=>(e.get _ (by omega)).trans IB.row
 have ra:∀ K,Ext B K→Zu K b (7+x3.toNat)=some (.int .i64 (s.r x3)):=fun K e=>(Zy (gbK K e)).trans (k6a l8 ha8)
 have rb:∀ K,Ext B K→Zu K b (7+x4.toNat)=some (.int .i64 (s.r x4)):=fun K e=>(Zy (gbK K e)).trans (k6a l8 hb8)
 have b3:∀ K,Ext B K→Zu K b 3=some va:=fun K e=>Zy (gbK K e)
 have b4:∀ K,Ext B K→Zu K b 4=some vr:=fun K e=>Zy (gbK K e)
 have b5:∀ K,Ext B K→Zu K b 5=some vw:=fun K e=>Zy (gbK K e)
 have b15:∀ K,Ext B K→Zu K b 15=some vq:=fun K e=>(Zy (gbK K e)).trans t15
 have b16:∀ K,Ext B K→Zu K b 16=some vo:=fun K e=>(Zy (gbK K e)).trans t16
 have wst:∀ K v,Ext B K→storeAt K b (7+x3.toNat) [.int .i64 v]=some (K.set b (.row (WW t vc va vr vw vm (s.reg.set x3.toNat v) vq vo n) 0 false)):=fun K v e=>by
  rw[ZJ (gbK K e) (by rw[a4a l8];show 7+x3.toNat+1≤18;omega) rfl,H9a l8 ha8]
 have hTx:TxV (InH B) B t vc va vr vw:=IB.tx C
 have rx:Ext B B:=.refl B
 have kok:∀ {l:List Key} {v:Value},Arg fKey.rep B v l→∀ (n:Nat),n<l.length→fKey.ok (l.getD n s2a):=fun hs n hn=>by
  rw[List.getD_eq_getElem?_getD,List.getElem?_eq_getElem hn]
  exact hs.ok _ (List.getElem_mem hn)
 have kat:∀ {l:List Key} {v:Value},Arg fKey.rep B v l→∀ (n:Int),0≤n→n<l.length→∃ id o,Yj Tryz.prog 24 v (.int .i64 n)=some (.pointer (some ⟨id,o,none⟩))∧∀ K,Ext B K→Zx K id o 2=some (Zq (l.getD n.toNat s2a)):=fun {l v} hs n h0 hn=>by
  have hn':n.toNat<l.length:=by omega
  obtain ⟨id,o,e1,hid,hat⟩:=hs.idx (P:=Tryz.prog) (t:=24) C2a (k:=.i64) (i:=n.toNat) (x:=l[n.toNat]) (by simp)
  have hnn:((n.toNat:Nat):Int)=n:=by omega
  rw[hnn]at e1
  refine ⟨id,o,e1,fun K e=>?_⟩
  have h2:=hat.flat.2.1
  rw[List.getD_eq_getElem?_getD,List.getElem?_eq_getElem hn']
  unfold Zx at h2 ⊢
  rw[e.get _ hid]
  exact h2
 obtain ⟨_,_,himm,himm0,hrd,hwr,har,hop⟩:=hx
 simp only at himm himm0 hrd hwr har hop
 have go:∀ {K:DHeap} {s':RS} {vq' vo':Value} {wq' wo':Option Nat},ZW t m ⟨x1,x2,x3,x4,x5⟩ s=(-1,s',none)→RefI h0 K b t vc va vr vw vm s' n vq' vo' wq' wo'→∃ u,some (Value.int .i64 0)=some u∧R (.ret u) K:=fun E I'=>⟨_,rfl,by rw[← hR];exact ⟨_,_,_,_,_,I',.inl ⟨E,rfl⟩⟩⟩
 have no:∀ {K:DHeap} {s':RS} {vq' vo':Value} {wq' wo':Option Nat},ZW t m ⟨x1,x2,x3,x4,x5⟩ s=(4,s',none)→RefI h0 K b t vc va vr vw vm s' n vq' vo' wq' wo'→∃ u,some (Value.int .i64 4)=some u∧R (.ret u) K:=fun E I'=>⟨_,rfl,by rw[← hR];exact ⟨_,_,_,_,_,I',.inr ⟨E,rfl⟩⟩⟩
 have hcl:(XJ ⟨x1,x2,x3,x4,x5⟩).cells.toList=[.int .i64 x1,.int .i64 x2,.int .i64 x3,.int .i64 x4,.int .i64 x5]:=rfl
 have wput:∀ (h2:DHeap) (v:Value),v.cells=#[v]→[v].all Value.oneCell'=true→h2.get b=some (.row (WW t vc va vr vw vm s.reg vq vo n) 0 false)→Yw Tryz.prog 92 (.pointer (some ⟨b,15,none⟩)) v h2=some (h2.set b (.row (WW t vc va vr vw vm s.reg v vo n) 0 false)):=fun h2 v hv hone g=>by
  rw[H9c hv,ZJ g (by rw[a4a l8];exact Nat.le_of_ble_eq_true rfl) hone,L2c l8]
 simp -implicitDefEqProofs (disch:=first|omega|simp only[go_sem]) only[go_sem,true_and,c90,hcl,← hH]
 refine n3d rfl ?_
 simp -implicitDefEqProofs (disch:=first|omega|simp only[go_sem]) only[go_sem,true_and,l7c,n9c]
 simp -implicitDefEqProofs (disch:=first|omega|simp only[go_sem]) only[go_sem,true_and,← hH2,q3,q4,iab,qb,hbk,hst,a1 B rx]
 by_cases c3:x2=3
 ·obtain ⟨id1,o1,e1,l1⟩:=kat hTx.r x5 (himm0 (by omega)) (hrd (.inl c3))
  simp -implicitDefEqProofs (disch:=first|omega|simp only[go_sem]) only[go_sem,true_and,c3]
  refine o3d rfl ?_
  simp -implicitDefEqProofs (disch:=first|omega|simp only[go_sem]) only[go_sem,true_and,m7c,o9c,a2 B rx,b4 B rx,a4 B rx,e1,l1 B rx]
  refine Q1a (L7a C IB) ?_
  simp -implicitDefEqProofs (disch:=first|omega|simp only[go_sem]) only[go_sem,true_and,a2 B rx,iaa,wst B _ rx]
  exact go (se3 (x:=⟨x1,x2,x3,x4,x5⟩) c3) (IB.reg C (j9a hokm IB.wok))
 by_cases c4:x2=4
 ·obtain ⟨id1,o1,e1,l1⟩:=kat hTx.r x5 (himm0 (by omega)) (hrd (.inr c4))
  simp -implicitDefEqProofs (disch:=first|omega|simp only[go_sem]) only[go_sem,true_and,c4]
  refine p3d rfl ?_
  simp -implicitDefEqProofs (disch:=first|omega|simp only[go_sem]) only[go_sem,true_and,n7c,p9c,b4 B rx,a4 B rx,e1,l1 B rx]
  refine Q1a (L7a C IB) ?_
  simp -implicitDefEqProofs (disch:=first|omega|simp only[go_sem]) only[go_sem,true_and]
  refine q3d rfl ?_
  simp -implicitDefEqProofs (disch:=first|omega|simp only[go_sem]) only[go_sem,true_and,o7c,q9c,a2 B rx]
  refine Q1a a2b ?_
  simp -implicitDefEqProofs (disch:=first|omega|simp only[go_sem]) only[go_sem,true_and,a2 B rx,iaa,wst B _ rx]
  refine go (se4 (x:=⟨x1,x2,x3,x4,x5⟩) c4) (IB.reg C ?_)
  split
  ·exact m0a.2 ⟨by decide,by decide⟩
  ·exact zok
 by_cases c5:x2=5
 ·have hlt:=hwr (.inl c5)
  have i0:0≤x5:=himm0 (by omega)
  have hl:x5.toNat<t.writes.length:=by omega
  obtain ⟨id1,o1,e1,l1⟩:=kat hTx.w x5 i0 hlt
  obtain ⟨k1,hk1⟩:∃ k,t.writes.getD x5.toNat s2a=k:=⟨_,rfl⟩
  have hk1ok:fKey.ok k1:=hk1▸kok hTx.w x5.toNat hl
  rw[hk1]at l1
  obtain ⟨vq',h2,e6,c1,on1,gb2,IP⟩:=IB.put C (c:=⟨k1,s.r x3,false⟩) ⟨hk1ok,V1a I.ok _,trivial⟩ hwn
  have wp:=wput h2 vq' c1 on1 gb2
  have ep:Ext B (B.push (.row [.int .i32 k1.t,.int .i64 k1.r,.int .i64 (s.r x3),.bool false] 4 false)):=Ext.push1 _ _
  simp -implicitDefEqProofs (disch:=first|omega|simp only[go_sem]) only[go_sem,true_and,c5]
  refine r3d rfl ?_
  simp -implicitDefEqProofs (disch:=first|omega|simp only[go_sem]) only[go_sem,true_and,p7c,r9c,b15 B rx,b5 B rx,a4 B rx,e1,l1 B rx,a2 B rx,iaa,ra B rx,U8a,b15 _ ep,e6,wp]
  exact go (se5 (x:=⟨x1,x2,x3,x4,x5⟩) c5 hk1) IP
 by_cases c6:x2=6
 ·have hlt:=hwr (.inr c6)
  have i0:0≤x5:=himm0 (by omega)
  have hl:x5.toNat<t.writes.length:=by omega
  obtain ⟨id1,o1,e1,l1⟩:=kat hTx.w x5 i0 hlt
  obtain ⟨k1,hk1⟩:∃ k,t.writes.getD x5.toNat s2a=k:=⟨_,rfl⟩
  have hk1ok:fKey.ok k1:=hk1▸kok hTx.w x5.toNat hl
  rw[hk1]at l1
  obtain ⟨vq',h2,e6,c1,on1,gb2,IP⟩:=IB.put C (c:=⟨k1,0,true⟩) ⟨hk1ok,zok,trivial⟩ hwn
  have wp:=wput h2 vq' c1 on1 gb2
  have ep:Ext B (B.push (.row [.int .i32 k1.t,.int .i64 k1.r,.int .i64 0,.bool true] 4 false)):=Ext.push1 _ _
  simp -implicitDefEqProofs (disch:=first|omega|simp only[go_sem]) only[go_sem,true_and,c6]
  refine s3d rfl ?_
  simp -implicitDefEqProofs (disch:=first|omega|simp only[go_sem]) only[go_sem,true_and,q7c,s9c,b15 B rx,b5 B rx,a4 B rx,e1,l1 B rx,a7b,b15 _ ep,e6,wp]
  exact go (se6 (x:=⟨x1,x2,x3,x4,x5⟩) c6 hk1) IP
 by_cases c26:x2=26
 ·simp -implicitDefEqProofs (disch:=first|omega|simp only[go_sem]) only[go_sem,true_and,c26]
  refine t3d rfl ?_
  simp -implicitDefEqProofs (disch:=first|omega|simp only[go_sem]) only[go_sem,true_and,r7c,t9c,b4 B rx,lk B rx]
  refine Q1a (W8b hTx.r (by have:=C.len.r;omega)) ?_
  by_cases hm':k∈t.reads
  ·have hmd:=decide_eq_true hm'
   simp -implicitDefEqProofs (disch:=first|omega|simp only[go_sem]) only[go_sem,true_and,hmd]
   refine u3d rfl ?_
   simp -implicitDefEqProofs (disch:=first|omega|simp only[go_sem]) only[go_sem,true_and,s7c,u9c,a2 B rx,lk B rx]
   refine Q1a (L7a C IB) ?_
   simp -implicitDefEqProofs (disch:=first|omega|simp only[go_sem]) only[go_sem,true_and,a2 B rx,iaa,wst B _ rx]
   exact go (Z6d (x:=⟨x1,x2,x3,x4,x5⟩) c26 hfar hm') (IB.reg C (j9a hokm IB.wok))
  ·have hmd:=decide_eq_false hm'
   simp -implicitDefEqProofs (disch:=first|omega|simp only[go_sem]) only[go_sem,true_and,hmd]
   exact no (D9c (x:=⟨x1,x2,x3,x4,x5⟩) c26 hfar hm') IB
 by_cases c27:x2=27
 ·simp -implicitDefEqProofs (disch:=first|omega|simp only[go_sem]) only[go_sem,true_and,c27]
  refine v3d rfl ?_
  simp -implicitDefEqProofs (disch:=first|omega|simp only[go_sem]) only[go_sem,true_and,t7c,v9c,b5 B rx,lk B rx]
  refine Q1a (W8b hTx.w (by have:=C.len.w;omega)) ?_
  by_cases hm':k∈t.writes
  ·have hmd:=decide_eq_true hm'
   obtain ⟨vq',h2,e6,c1,on1,gb2,IP⟩:=IB.put C (c:=⟨k,s.r x3,false⟩) ⟨hkok,V1a I.ok _,trivial⟩ hwn
   have wp:=wput h2 vq' c1 on1 gb2
   have ep:Ext B (B.push (.row [.int .i32 k.t,.int .i64 k.r,.int .i64 (s.r x3),.bool false] 4 false)):=Ext.push1 _ _
   simp -implicitDefEqProofs (disch:=first|omega|simp only[go_sem]) only[go_sem,true_and,hmd]
   refine w3d rfl ?_
   simp -implicitDefEqProofs (disch:=first|omega|simp only[go_sem]) only[go_sem,true_and,u7c,w9c,b15 B rx,lk B rx,a2 B rx,iaa,ra B rx,U8a,b15 _ ep,e6,wp]
   exact go (a7d (x:=⟨x1,x2,x3,x4,x5⟩) c27 hfar hm') IP
  ·have hmd:=decide_eq_false hm'
   simp -implicitDefEqProofs (disch:=first|omega|simp only[go_sem]) only[go_sem,true_and,hmd]
   exact no (E9c (x:=⟨x1,x2,x3,x4,x5⟩) c27 hfar hm') IB
 exfalso
 simp only at hT
 omega
set_option maxHeartbeats 4000000 in
theorem M2c {h0 h:DHeap} {b:Nat} {t:Txn} {vc va vr vw vm vq vo:Value} {m:List Pair} {s:RS} {n nx:Int} {wq wo:Option Nat} {x:Instr} (C:v5a h0 b t vc va vr vw vm m) (I:RefI h0 h b t vc va vr vw vm s n vq vo wq wo) (hx:y3b t x) (hwn:s.w.length<8192) (hokm:∀ p∈m,fPair.ok p) :
 Ct Tryz.prog 59 [.pointer (some ⟨b,0,none⟩),XJ x,.int .i64 nx] h (StepR h0 b t vc va vr vw vm m x s nx):=by
 have hx0:=hx
 obtain ⟨x1,x2,x3,x4,x5⟩:=x
 obtain ⟨R,hR⟩:∃ R,StepR h0 b t vc va vr vw vm m ⟨x1,x2,x3,x4,x5⟩ s nx=R:=⟨_,rfl⟩
 rw[hR]
 refine o9d (by simp) ?_
 obtain ⟨H,hH⟩:∃ H,H=h.push (.row [.int .i64 x1,.int .i64 x2,.int .i64 x3,.int .i64 x4,.int .i64 x5] 0 false):=⟨_,rfl⟩
 have hE:Ext h H:=by rw[hH];exact Ext.push1 _ _
 have gH:H.get h.next=some (.row [.int .i64 x1,.int .i64 x2,.int .i64 x3,.int .i64 x4,.int .i64 x5] 0 false):=by rw[hH];exact Zz _ _
 have hHn:H.next=h.next+1:=by rw[hH];rfl
 have l8:=I.len
 have hbn:b<h.next:=Nat.lt_of_lt_of_le C.lb I.kp.next
 obtain ⟨t6,t15,t16,t17⟩:=j3a (t:=t) (vc:=vc) (va:=va) (vr:=vr) (vw:=vw) (vm:=vm) (g:=s.reg) (vq:=vq) (vo:=vo) (n:=nx) l8
 have ha8:x3.toNat<8:=by have:=hx.a;simp only at this;omega
 have hb8:x4.toNat<8:=by have:=hx.b;simp only at this;omega
 have iaa:=Q5a (id:=b) (o:=7) hx.a.1 hx.a.2
 have iab:=Q5a (id:=b) (o:=7) hx.b.1 hx.b.2
 simp only at iaa iab
 have zok:inK .i64 0:=m0a.2 ⟨by decide,by decide⟩
 have iok:inK .i64 x5:=by have:=hx.imm;simp only at this;exact m0a.2 ⟨by omega,by omega⟩
 have IH:=I.ext C hE
 obtain ⟨B,hB⟩:∃ K,K=H.set b (.row (WW t vc va vr vw vm s.reg vq vo nx) 0 false):=⟨_,rfl⟩
 have IB:RefI h0 B b t vc va vr vw vm s nx vq vo wq wo:=hB▸IH.at' C nx
 have hst:storeAt H b 17 [.int .i64 nx]=some B:=by
  rw[ZJ IH.row (by rw[a4a l8];exact Nat.le_of_ble_eq_true rfl) rfl,K7a l8,hB]
 have gx:B.get h.next=some (.row [.int .i64 x1,.int .i64 x2,.int .i64 x3,.int .i64 x4,.int .i64 x5] 0 false):=by rw[hB];exact (Zv _ _ (by omega)).trans gH
 have hBn:B.next=h.next+1:=by rw[hB];exact hHn
 have a1:∀ K,Ext B K→Zu K h.next 1=some (.int .i64 x2):=fun K e=>Zy ((e.get _ (by omega)).trans gx)
 have a2:∀ K,Ext B K→Zu K h.next 2=some (.int .i64 x3):=fun K e=>Zy ((e.get _ (by omega)).trans gx)
 have a3:∀ K,Ext B K→Zu K h.next 3=some (.int .i64 x4):=fun K e=>Zy ((e.get _ (by omega)).trans gx)
 have a4:∀ K,Ext B K→Zu K h.next 4=some (.int .i64 x5):=fun K e=>Zy ((e.get _ (by omega)).trans gx)
 have gbK:∀ K,Ext B K→K.get b=some (.row (WW t vc va vr vw vm s.reg vq vo nx) 0 false):=fun K e=>(e.get _ (by omega)).trans IB.row
 have ra:∀ K,Ext B K→Zu K b (7+x3.toNat)=some (.int .i64 (s.r x3)):=fun K e=>(Zy (gbK K e)).trans (k6a l8 ha8)
 have rb:∀ K,Ext B K→Zu K b (7+x4.toNat)=some (.int .i64 (s.r x4)):=fun K e=>(Zy (gbK K e)).trans (k6a l8 hb8)
 have b3:∀ K,Ext B K→Zu K b 3=some va:=fun K e=>Zy (gbK K e)
 have b4:∀ K,Ext B K→Zu K b 4=some vr:=fun K e=>Zy (gbK K e)
 have b5:∀ K,Ext B K→Zu K b 5=some vw:=fun K e=>Zy (gbK K e)
 have b15:∀ K,Ext B K→Zu K b 15=some vq:=fun K e=>(Zy (gbK K e)).trans t15
 have b16:∀ K,Ext B K→Zu K b 16=some vo:=fun K e=>(Zy (gbK K e)).trans t16
 have wst:∀ K v,Ext B K→storeAt K b (7+x3.toNat) [.int .i64 v]=some (K.set b (.row (WW t vc va vr vw vm (s.reg.set x3.toNat v) vq vo nx) 0 false)):=fun K v e=>by
  rw[ZJ (gbK K e) (by rw[a4a l8];show 7+x3.toNat+1≤18;omega) rfl,H9a l8 ha8]
 have hTx:TxV (InH B) B t vc va vr vw:=IB.tx C
 have rx:Ext B B:=.refl B
 have kok:∀ {l:List Key} {v:Value},Arg fKey.rep B v l→∀ (n:Nat),n<l.length→fKey.ok (l.getD n s2a):=fun hs n hn=>by
  rw[List.getD_eq_getElem?_getD,List.getElem?_eq_getElem hn]
  exact hs.ok _ (List.getElem_mem hn)
 have kat:∀ {l:List Key} {v:Value},Arg fKey.rep B v l→∀ (n:Int),0≤n→n<l.length→∃ id o,Yj Tryz.prog 24 v (.int .i64 n)=some (.pointer (some ⟨id,o,none⟩))∧∀ K,Ext B K→Zx K id o 2=some (Zq (l.getD n.toNat s2a)):=fun {l v} hs n h0 hn=>by
  have hn':n.toNat<l.length:=by omega
  obtain ⟨id,o,e1,hid,hat⟩:=hs.idx (P:=Tryz.prog) (t:=24) C2a (k:=.i64) (i:=n.toNat) (x:=l[n.toNat]) (by simp)
  have hnn:((n.toNat:Nat):Int)=n:=by omega
  rw[hnn]at e1
  refine ⟨id,o,e1,fun K e=>?_⟩
  have h2:=hat.flat.2.1
  rw[List.getD_eq_getElem?_getD,List.getElem?_eq_getElem hn']
  unfold Zx at h2 ⊢
  rw[e.get _ hid]
  exact h2
 obtain ⟨_,_,himm,himm0,hrd,hwr,har,hop⟩:=hx
 simp only at himm himm0 hrd hwr har hop
 have go:∀ {K:DHeap} {s':RS} {vq' vo':Value} {wq' wo':Option Nat},ZW t m ⟨x1,x2,x3,x4,x5⟩ s=(-1,s',none)→RefI h0 K b t vc va vr vw vm s' nx vq' vo' wq' wo'→∃ u,some (Value.tuple #[.bool false,.int .i64 0])=some u∧R (.ret u) K:=fun E I'=>⟨_,rfl,by rw[← hR];exact .go E I'⟩
 have no:∀ {K:DHeap} {s':RS} {e:Int} {vq' vo':Value} {wq' wo':Option Nat},ZW t m ⟨x1,x2,x3,x4,x5⟩ s=(e,s',none)→e ≠ -1→RefI h0 K b t vc va vr vw vm s' nx vq' vo' wq' wo'→∃ u,some (Value.tuple #[.bool true,.int .i64 e])=some u∧R (.ret u) K:=fun E he I'=>⟨_,rfl,by rw[← hR];exact .stop E he I'⟩
 have hcl:(XJ ⟨x1,x2,x3,x4,x5⟩).cells.toList=[.int .i64 x1,.int .i64 x2,.int .i64 x3,.int .i64 x4,.int .i64 x5]:=rfl
 have lx:Zx B h.next 0 5=some (XJ ⟨x1,x2,x3,x4,x5⟩):=by rw[Zw gx (Nat.le_of_ble_eq_true rfl)];rfl
 simp -implicitDefEqProofs (disch:=first|omega|simp only[go_sem]) only[go_sem,true_and,c59,hcl,← hH,hst,a1 B rx]
 by_cases c0:x2=0
 ·simp -implicitDefEqProofs (disch:=first|omega|simp only[go_sem]) only[go_sem,true_and,c0]
  exact no (se0 (x:=⟨x1,x2,x3,x4,x5⟩) c0) (by decide) IB
 by_cases c1:x2=1
 ·simp -implicitDefEqProofs (disch:=first|omega|simp only[go_sem]) only[go_sem,true_and,c1]
  refine N2d rfl ?_
  simp -implicitDefEqProofs (disch:=first|omega|simp only[go_sem]) only[go_sem,true_and,P6c,R8c,a2 B rx,a4 B rx,iaa,wst B _ rx]
  exact go (se1 (x:=⟨x1,x2,x3,x4,x5⟩) c1) (IB.reg C iok)
 by_cases c2:x2=2
 ·have i0:0≤x5:=himm0 (by omega)
  have hl:x5.toNat<t.args.length:=by have:=har c2;omega
  obtain ⟨id1,o1,e1,_,hat1⟩:=hTx.a.idx (P:=Tryz.prog) (t:=23) X8a (k:=.i64) (i:=x5.toNat) (x:=t.args[x5.toNat]) (by simp)
  rw[show ((x5.toNat:Nat):Int)=x5 by omega]at e1
  have l1:Zu B id1 o1=some (.int .i64 (t.args.getD x5.toNat 0)):=by
   rw[List.getD_eq_getElem?_getD,List.getElem?_eq_getElem hl]
   exact hat1.int
  have hok:inK .i64 (t.args.getD x5.toNat 0):=by
   rw[List.getD_eq_getElem?_getD,List.getElem?_eq_getElem hl]
   exact hTx.a.ok _ (List.getElem_mem hl)
  simp -implicitDefEqProofs (disch:=first|omega|simp only[go_sem]) only[go_sem,true_and,c2]
  refine O2d rfl ?_
  simp -implicitDefEqProofs (disch:=first|omega|simp only[go_sem]) only[go_sem,true_and,Q6c,S8c,a2 B rx,a4 B rx,b3 B rx,e1,l1,iaa,wst B _ rx]
  exact go (se2 (x:=⟨x1,x2,x3,x4,x5⟩) c2) (IB.reg C hok)
 by_cases c7:x2=7
 ·simp -implicitDefEqProofs (disch:=first|omega|simp only[go_sem]) only[go_sem,true_and,c7]
  refine P2d rfl ?_
  simp -implicitDefEqProofs (disch:=first|omega|simp only[go_sem]) only[go_sem,true_and,R6c,T8c,a2 B rx,a3 B rx,iaa,iab,rb B rx,wst B _ rx]
  exact go (se7 (x:=⟨x1,x2,x3,x4,x5⟩) c7) (IB.reg C (V1a I.ok _))
 by_cases c19:x2=19
 ·simp -implicitDefEqProofs (disch:=first|omega|simp only[go_sem]) only[go_sem,true_and,c19]
  refine Q2d rfl ?_
  simp -implicitDefEqProofs (disch:=first|omega|simp only[go_sem]) only[go_sem,true_and,S6c,U8c,a2 B rx,a4 B rx,iaa,ra B rx]
  refine Q1a C5c ?_
  simp -implicitDefEqProofs (disch:=first|omega|simp only[go_sem]) only[go_sem,true_and,a2 B rx,iaa,wst B _ rx]
  exact go (U6d (x:=⟨x1,x2,x3,x4,x5⟩) c19) (IB.reg C (G2b (V1a I.ok _)))
 by_cases c22:x2=22
 ·have hsj:storeAt B b 17 [.int .i64 x5]=some (B.set b (.row (WW t vc va vr vw vm s.reg vq vo x5) 0 false)):=by
   rw[ZJ IB.row (by rw[a4a l8];exact Nat.le_of_ble_eq_true rfl) rfl,K7a l8]
  simp -implicitDefEqProofs (disch:=first|omega|simp only[go_sem]) only[go_sem,true_and,c22,a4 B rx,hsj]
  exact ⟨_,rfl,by rw[← hR];exact .jump (V6d (x:=⟨x1,x2,x3,x4,x5⟩) c22) (IB.at' C x5)⟩
 by_cases c23:x2=23
 ·have hsj:storeAt B b 17 [.int .i64 x5]=some (B.set b (.row (WW t vc va vr vw vm s.reg vq vo x5) 0 false)):=by
   rw[ZJ IB.row (by rw[a4a l8];exact Nat.le_of_ble_eq_true rfl) rfl,K7a l8]
  simp -implicitDefEqProofs (disch:=first|omega|simp only[go_sem]) only[go_sem,true_and,c23]
  refine R2d rfl ?_
  simp -implicitDefEqProofs (disch:=first|omega|simp only[go_sem]) only[go_sem,true_and,T6c,V8c,a2 B rx,iaa,ra B rx]
  by_cases z:s.r x3=0
  ·simp -implicitDefEqProofs (disch:=first|omega|simp only[go_sem]) only[go_sem,true_and,z]
   exact go (B9c (x:=⟨x1,x2,x3,x4,x5⟩) c23 z) IB
  ·simp -implicitDefEqProofs (disch:=first|omega|simp only[go_sem]) only[go_sem,true_and,z,a4 B rx,hsj]
   exact ⟨_,rfl,by rw[← hR];exact .jump (W6d (x:=⟨x1,x2,x3,x4,x5⟩) c23 z) (IB.at' C x5)⟩
 by_cases c24:x2=24
 ·have lo:∀ K,dLen Tryz.prog #[23] vo K=some (.int .i64 (s.out.length:Nat)):=IB.o.sl.lens (P:=Tryz.prog) (ts:=#[23]) (t:=23) rfl D4a
  by_cases z:8≤s.out.length
  ·have z':=eq_true (show (8:Int)≤(s.out.length:Nat) by omega)
   simp -implicitDefEqProofs (disch:=first|omega|simp only[go_sem]) only[go_sem,true_and,c24,b16 B rx,lo,z']
   exact no (C9c (x:=⟨x1,x2,x3,x4,x5⟩) c24 z) (by decide) IB
  ·have z':¬ (8:Int)≤(s.out.length:Nat):=by omega
   obtain ⟨vo',h2,e6,c1,on1,gb2,IP⟩:=IB.ans C (y:=s.r x3) (V1a I.ok _) (by omega)
   have wp:Yw Tryz.prog 23 (.pointer (some ⟨b,16,none⟩)) vo' h2=some (h2.set b (.row (WW t vc va vr vw vm s.reg vq vo' nx) 0 false)):=by
    rw[F9b c1,ZJ gb2 (by rw[a4a l8];exact Nat.le_of_ble_eq_true rfl) on1,J6b l8]
   have ep:Ext B (B.push (.row [.int .i64 (s.r x3)] 1 false)):=Ext.push1 _ _
   simp -implicitDefEqProofs (disch:=first|omega|simp only[go_sem]) only[go_sem,true_and,c24,b16 B rx,lo,z']
   refine S2d rfl ?_
   simp -implicitDefEqProofs (disch:=first|omega|simp only[go_sem]) only[go_sem,true_and,U6c,W8c,b16 B rx,a2 B rx,iaa,ra B rx,b16 _ ep,e6,wp]
   exact go (X6d (x:=⟨x1,x2,x3,x4,x5⟩) c24 z) IP
 by_cases c25:x2=25
 ·have i0:0≤x5:=himm0 (by omega)
  have hwp:IntKind.i64.wrap (100+x5)=100+x5:=ZQ (by omega) (by omega)
  simp -implicitDefEqProofs (disch:=first|omega|simp only[go_sem]) only[go_sem,true_and,c25]
  refine T2d rfl ?_
  simp -implicitDefEqProofs (disch:=first|omega|simp only[go_sem]) only[go_sem,true_and,V6c,X8c,a4 B rx,hwp]
  exact no (Y6d (x:=⟨x1,x2,x3,x4,x5⟩) c25) (by omega) IB
 have tch:(x2=3∨x2=4∨x2=5∨x2=6∨x2=26∨x2=27)→Ct Tryz.prog 90 [.pointer (some ⟨b,0,none⟩),XJ ⟨x1,x2,x3,x4,x5⟩] B (S3b h0 b t vc va vr vw vm m ⟨x1,x2,x3,x4,x5⟩ s nx):=fun h=>g2d C IB hx0 hwn h hokm
 by_cases c3:x2=3
 ·have tc:=tch (by omega)
  rw[c3]at tc lx
  simp -implicitDefEqProofs (disch:=first|omega|simp only[go_sem]) only[go_sem,true_and,c3,lx]
  refine Yu tc ?_
  rintro r K ⟨s',vq',vo',wq',wo',I',h | h⟩
  ·obtain ⟨E,rfl⟩:=h
   simp -implicitDefEqProofs (disch:=first|omega|simp only[go_sem]) only[go_sem,true_and,Xj]
   exact go (by rw[c3];exact E) I'
  ·obtain ⟨E,rfl⟩:=h
   simp -implicitDefEqProofs (disch:=first|omega|simp only[go_sem]) only[go_sem,true_and,Xj]
   exact no (by rw[c3];exact E) (by decide) I'
 by_cases c4:x2=4
 ·have tc:=tch (by omega)
  rw[c4]at tc lx
  simp -implicitDefEqProofs (disch:=first|omega|simp only[go_sem]) only[go_sem,true_and,c4,lx]
  refine Yu tc ?_
  rintro r K ⟨s',vq',vo',wq',wo',I',h | h⟩
  ·obtain ⟨E,rfl⟩:=h
   simp -implicitDefEqProofs (disch:=first|omega|simp only[go_sem]) only[go_sem,true_and,Xj]
   exact go (by rw[c4];exact E) I'
  ·obtain ⟨E,rfl⟩:=h
   simp -implicitDefEqProofs (disch:=first|omega|simp only[go_sem]) only[go_sem,true_and,Xj]
   exact no (by rw[c4];exact E) (by decide) I'
 by_cases c5:x2=5
 ·have tc:=tch (by omega)
  rw[c5]at tc lx
  simp -implicitDefEqProofs (disch:=first|omega|simp only[go_sem]) only[go_sem,true_and,c5,lx]
  refine Yu tc ?_
  rintro r K ⟨s',vq',vo',wq',wo',I',h | h⟩
  ·obtain ⟨E,rfl⟩:=h
   simp -implicitDefEqProofs (disch:=first|omega|simp only[go_sem]) only[go_sem,true_and,Xj]
   exact go (by rw[c5];exact E) I'
  ·obtain ⟨E,rfl⟩:=h
   simp -implicitDefEqProofs (disch:=first|omega|simp only[go_sem]) only[go_sem,true_and,Xj]
   exact no (by rw[c5];exact E) (by decide) I'
 by_cases c6:x2=6
 ·have tc:=tch (by omega)
  rw[c6]at tc lx
  simp -implicitDefEqProofs (disch:=first|omega|simp only[go_sem]) only[go_sem,true_and,c6,lx]
  refine Yu tc ?_
  rintro r K ⟨s',vq',vo',wq',wo',I',h | h⟩
  ·obtain ⟨E,rfl⟩:=h
   simp -implicitDefEqProofs (disch:=first|omega|simp only[go_sem]) only[go_sem,true_and,Xj]
   exact go (by rw[c6];exact E) I'
  ·obtain ⟨E,rfl⟩:=h
   simp -implicitDefEqProofs (disch:=first|omega|simp only[go_sem]) only[go_sem,true_and,Xj]
   exact no (by rw[c6];exact E) (by decide) I'
 by_cases c26:x2=26
 ·have tc:=tch (by omega)
  rw[c26]at tc lx
  simp -implicitDefEqProofs (disch:=first|omega|simp only[go_sem]) only[go_sem,true_and,c26,lx]
  refine Yu tc ?_
  rintro r K ⟨s',vq',vo',wq',wo',I',h | h⟩
  ·obtain ⟨E,rfl⟩:=h
   simp -implicitDefEqProofs (disch:=first|omega|simp only[go_sem]) only[go_sem,true_and,Xj]
   exact go (by rw[c26];exact E) I'
  ·obtain ⟨E,rfl⟩:=h
   simp -implicitDefEqProofs (disch:=first|omega|simp only[go_sem]) only[go_sem,true_and,Xj]
   exact no (by rw[c26];exact E) (by decide) I'
 by_cases c27:x2=27
 ·have tc:=tch (by omega)
  rw[c27]at tc lx
  simp -implicitDefEqProofs (disch:=first|omega|simp only[go_sem]) only[go_sem,true_and,c27,lx]
  refine Yu tc ?_
  rintro r K ⟨s',vq',vo',wq',wo',I',h | h⟩
  ·obtain ⟨E,rfl⟩:=h
   simp -implicitDefEqProofs (disch:=first|omega|simp only[go_sem]) only[go_sem,true_and,Xj]
   exact go (by rw[c27];exact E) I'
  ·obtain ⟨E,rfl⟩:=h
   simp -implicitDefEqProofs (disch:=first|omega|simp only[go_sem]) only[go_sem,true_and,Xj]
   exact no (by rw[c27];exact E) (by decide) I'
 obtain ⟨k1,k2⟩:=c7b (o:=x2) (b:=s.r x4) (V1a I.ok x3)
 have hpl:X1b x2:=⟨c0,c1,c2,c7,c3,c4,c5,c6,c19,c22,c23,c24,c25,c26,c27⟩
 simp -implicitDefEqProofs (disch:=first|omega|simp only[go_sem]) only[go_sem,true_and,c0,c1,c2,c7,c3,c4,c5,c6,c19,c22,c23,c24,c25,c26,c27]
 refine U2d rfl ?_
 simp -implicitDefEqProofs (disch:=first|omega|simp only[go_sem]) only[go_sem,true_and,W6c,Y8c,a1 B rx,a2 B rx,a3 B rx,iaa,iab,ra B rx,rb B rx]
 refine Q1a K3c ?_
 by_cases z:(W0a x2 (s.r x3) (s.r x4)).2=0
 ·simp -implicitDefEqProofs (disch:=first|omega|simp only[go_sem]) only[go_sem,true_and,x1a,z]
  refine V2d rfl ?_
  simp -implicitDefEqProofs (disch:=first|omega|simp only[go_sem]) only[go_sem,true_and,X6c,Z8c,a2 B rx,iaa,wst B _ rx]
  exact go ((seb (x:=⟨x1,x2,x3,x4,x5⟩) hpl).trans (if_pos z)) (IB.reg C k1)
 ·simp -implicitDefEqProofs (disch:=first|omega|simp only[go_sem]) only[go_sem,true_and,x1a,z]
  exact no ((seb (x:=⟨x1,x2,x3,x4,x5⟩) hpl).trans (if_neg z)) (by omega) IB
end Go.Proofs.YtheamfnbfgiaeaaGreat
namespace Go.Proofs.YtheamfnbfgiaeaaGreat
open Go.D
set_option maxRecDepth 100000
theorem m0c {t:Txn} {vc va vr vw w:Value} (hw:w.cells=#[w]):XW Tryz.prog 128 [(0,Ww t.ses t.req vc va vr vw),(1,w)]=some (.agg (WW t vc va vr vw w [0,0,0,0,0,0,0,0] YU YU 0).toArray):=l0a T1d (by simp[B4a,hw,Xy,WW,j2b])
theorem y7d {k:Int} {u w:Value} (hu:u.cells=#[u]) (hw:w.cells=#[w]):XW Tryz.prog 94 [(1,u),(2,w),(3,.int .i64 k)]=some (.agg #[.int .i64 0,u,w,.int .i64 k]):=l0a f1b (by simp[B4a,hu,hw,Xy,l8a])
theorem f5c (f:Int):min (max f 0) 4096=(Z4a f:Nat):=by unfold Z4a;omega
set_option maxHeartbeats 4000000 in
theorem N5c {h:DHeap} {t:Txn} {vc va vr vw v:Value} {l:List Pair} {f:Int} (x:TxV (InH h) h t vc va vr vw) (hT:P3a t) (hb:Arg fPair.rep h v l) (hl:l.length≤1048576) :
 Ct Tryz.prog 36 [Ww t.ses t.req vc va vr vw,v,.int .i64 f] h (RunR h (q2a t l f)):=by
 obtain ⟨R,hR⟩:∃ R,RunR h (q2a t l f)=R:=⟨_,rfl⟩
 rw[hR]
 refine X8d (by simp) ?_
 have hcl:(Ww t.ses t.req vc va vr vw).cells.toList=[.int .i64 t.ses,.int .i64 t.req,vc,va,vr,vw]:=rfl
 obtain ⟨H1,hH1⟩:∃ H,h.push (.row [.int .i64 t.ses,.int .i64 t.req,vc,va,vr,vw] 0 false)=H:=⟨_,rfl⟩
 have g1:H1.get h.next=some (.row [.int .i64 t.ses,.int .i64 t.req,vc,va,vr,vw] 0 false):=by rw[← hH1];exact Zz _ _
 have n1:H1.next=h.next+1:=by rw[← hH1];rfl
 have e1:Ext h H1:=by rw[← hH1];exact Ext.push1 _ _
 obtain ⟨H2,hH2⟩:∃ H,H1.push (.row [.int .i64 0,YU,YU,.int .i64 0] 0 false)=H:=⟨_,rfl⟩
 have g2:H2.get H1.next=some (.row [.int .i64 0,YU,YU,.int .i64 0] 0 false):=by rw[← hH2];exact Zz _ _
 have n2:H2.next=h.next+2:=by rw[← hH2,g0a,n1]
 have e12:Ext H1 H2:=by rw[← hH2];exact Ext.push1 _ _
 have e2:Ext h H2:=e1.trans e12
 have lt:∀ K,Ext H2 K→Zx K h.next 0 6=some (Ww t.ses t.req vc va vr vw):=fun K e=>by
  rw[Zw ((e.get _ (by omega)).trans ((e12.get _ (by omega)).trans g1)) (Nat.le_of_ble_eq_true rfl)]
  rfl
 have hby:=v7a x.c
 have x2:TxV (InH H2) H2 t vc va vr vw:=x.ext e2
 have res:∀ (K:DHeap) (e k:Int) (u w:Value),u.cells=#[u]→w.cells=#[w]→[Value.int .i64 e,u,w,.int .i64 k].all Value.oneCell'=true→K.get H1.next=some (.row [.int .i64 0,YU,YU,.int .i64 0] 0 false) →
  ∃ K',storeAt K H1.next 0 [.int .i64 e,u,w,.int .i64 k]=some K'∧Zx K' H1.next 0 4=some (.agg #[.int .i64 e,u,w,.int .i64 k])∧∃ o,K'=K.set H1.next o:=fun K e k u w hu hw ho g=>by
  refine ⟨_,ZJ g (Nat.le_of_ble_eq_true rfl) ho,?_,_,rfl⟩
  rw[Zw (ZX _ _) (Nat.le_of_ble_eq_true rfl)]
  rfl
 simp -implicitDefEqProofs (disch:=first|omega|simp only[go_sem]) only[go_sem,true_and,c36,hcl,hH1,hH2,lt H2 (.refl _)]
 refine YV (H6b x2.c x2.a x2.r x2.w hT.c) ?_
 by_cases hz:Vy t=0
 case neg=>
  obtain ⟨K',s1,s2,o,rfl⟩:=res H2 1 0 YU YU rfl rfl rfl g2
  simp -implicitDefEqProofs (disch:=first|omega|simp only[go_sem]) only[go_sem,true_and,hz,q6c,s1,G0a,k0a,s2]
  refine ⟨_,rfl,?_⟩
  rw[← hR]
  exact RunR.none (e2.set (by omega)) (by unfold q2a;rw[if_pos hz])
 obtain ⟨hdec,_,hna,hnr,hnw⟩:=N5b hz
 simp -implicitDefEqProofs (disch:=first|omega|simp only[go_sem]) only[go_sem,true_and,hz]
 refine D2d rfl ?_
 simp -implicitDefEqProofs (disch:=first|omega|simp only[go_sem]) only[go_sem,true_and,G6c,I8c,lt H2 (.refl _)]
 refine B1a (w9b x2 (hb.ext e2) hl (by have:=hT.r;omega)) ?_
 rintro r Y ⟨wn,rfl,mn⟩
 obtain ⟨ns,hns⟩:∃ ns,E1a t l=ns:=⟨_,rfl⟩
 rw[hns]at mn
 have hnsl:ns.length≤1048576:=by
  have h1:=List.length_filter_le (fun p:Pair=>decide (p.k∈t.reads)) (byK Pair.k l)
  have h2:=R1a (key:=Pair.k) l
  rw[← hns]
  unfold E1a
  omega
 have eY:=mn.ext
 have nY:=eY.next
 have hwc:wn.cells=#[wn]:=mn.sl.cells1
 obtain ⟨Z,hZ⟩:∃ H,Y.push (.row (WW t vc va vr vw wn [0,0,0,0,0,0,0,0] YU YU 0) 0 false)=H:=⟨_,rfl⟩
 have gZ:Z.get Y.next=some (.row (WW t vc va vr vw wn [0,0,0,0,0,0,0,0] YU YU 0) 0 false):=by rw[← hZ];exact Zz _ _
 have eZ0:Ext Y Z:=hZ▸Ext.push1 _ _
 have nZ:Z.next=Y.next+1:=by rw[← hZ];rfl
 have eHZ:Ext h Z:=(e2.trans eY).trans eZ0
 have C:v5a Z Y.next t vc va vr vw wn ns:={
  lb:=by omega
  tx:=x.mono fun i hi=>⟨⟨by have:i<h.next:=hi;omega,by have:i<h.next:=hi;omega⟩,eHZ.get i hi⟩
  len:=hT
  sm:=mn.sl.mono fun i hi=>⟨⟨by omega,by omega⟩,eZ0.get _ hi.2⟩
  lm:=hnsl
  up:=hns▸l2c }
 have I0:RefI Z Z Y.next t vc va vr vw wn rs0 0 YU YU none none:=⟨.refl _ _,gZ,Owns.nil _ _ _,Owns.nil _ _ _,fun i hi=>(by cases hi),fun i hi=>(by cases hi),rfl,fun n hn=>by
  have:n=0:=by simpa [rs0] using hn
  subst this
  exact m0a.2 ⟨by decide,by decide⟩,by decide,by decide⟩
 have eZ:∀ K,KpD (fun i=>i=Y.next) Z K→Ext h K:=fun K k=>k.toExt eHZ fun i hi=>by omega
 have rZ:∀ K,KpD (fun i=>i=Y.next) Z K→K.get H1.next=some (.row [.int .i64 0,YU,YU,.int .i64 0] 0 false):=fun K k=>
  (k.get _ (by omega) (by omega)).trans ((eZ0.get _ (by omega)).trans ((eY.get _ (by omega)).trans g2))
 have tcell:∀ K,KpD (fun i=>i=Y.next) Z K→Zu K h.next 2=some vc:=fun K k=>
  Zy ((k.get _ (by omega) (by omega)).trans ((eZ0.get _ (by omega)).trans ((eY.get _ (by omega)).trans ((e12.get _ (by omega)).trans g1))))
 obtain ⟨F,hF⟩:∃ F,Z4a f=F:=⟨_,rfl⟩
 have hFl:F≤4096:=hF▸b0b f
 have hfu:min (max f 0) 4096=(F:Nat):=hF▸f5c f
 obtain ⟨O,hO⟩:∃ O,q2a t l f=O:=⟨_,rfl⟩
 have hO2:N1a t ns F 0 0 rs0=O:=by
  rw[← hO]
  unfold q2a
  rw[if_neg (fun hh=>hh hz),hns,hF]
 rw[hO]at hR
 have elc:∀ K,dLen Tryz.prog #[22] vc K=some (.int .i64 (t.code.length:Nat)):=x.c.lens (P:=Tryz.prog) (ts:=#[22]) (t:=22) rfl d6a
 have hcl512:=(d7a hdec).2.2.2
 simp -implicitDefEqProofs (disch:=first|omega|simp only[go_sem]) only[go_sem,true_and,Y3a,lt Y eY,m0c hwc,hZ]
 simp -implicitDefEqProofs (disch:=first|omega|simp only[go_sem]) only[go_sem,true_and,u5b,C7b,hfu]
 obtain ⟨MM,hMM⟩:∃ MM:St→Prop,MM=fun s=>s.df=[]∧s.rd=none∧s.fr 6=some (.pointer (some ⟨H1.next,0,none⟩))∧s.fr 7=some (.pointer (some ⟨Y.next,0,none⟩))∧∃ (k:Nat) (st:RS) (n:Int) (vq vo:Value) (wq wo:Option Nat),s.fr 9=some (.int .i64 (k:Nat))∧RefI Z s.h Y.next t vc va vr vw wn st n vq vo wq wo∧O=⟨0,st.out,byK Change.k st.w,(k:Nat)⟩:=⟨_,rfl⟩
 refine i5a MM ?_ ?_
 ·refine Xu (σ:=Nat × Nat × RS) (by kernel_rfl) (fun a s=>s.df=[]∧s.rd=none∧s.fr 3=some (.pointer (some ⟨h.next,0,none⟩))∧s.fr 6=some (.pointer (some ⟨H1.next,0,none⟩))∧s.fr 7=some (.pointer (some ⟨Y.next,0,none⟩))∧s.fr 8=some (.int .i64 (F:Nat))∧s.fr 9=some (.int .i64 (a.1:Nat))∧(∃ vq vo wq wo,RefI Z s.h Y.next t vc va vr vw wn a.2.2 (Wj t a.2.1:Nat) vq vo wq wo)∧a.1≤F∧a.2.2.w.length≤a.1∧N1a t ns (F - a.1) (Wj t a.2.1) a.1 a.2.2=O) (fun a=>F - a.1) (0,0,rs0) ?_ ?_
  ·simp -implicitDefEqProofs (disch:=first|omega|simp only[go_sem]) only[go_sem,true_and]
   exact ⟨by trivial,by rw[n8a hdec];exact ⟨_,_,_,_,I0⟩,Nat.zero_le _,Nat.le_refl _,by rw[n8a hdec];exact hO2⟩
  rintro ⟨k,i,st⟩ ⟨fr,df,K,rd⟩ K' hK' hX ⟨rfl,rfl,f3,f6,f7,f8,f9,⟨vq,vo,wq,wo,I⟩,hk,hwl,hrun⟩
  simp only at f3 f6 f7 f8 f9 I hk hwl hrun
  have l8:=I.len
  have c17:Zu K Y.next 17=some (.int .i64 (Wj t i:Nat)):=(Zy I.row).trans (j3a l8).2.2.2
  have hYK:Y.next<K.next:=Nat.lt_of_lt_of_le C.lb I.kp.next
  simp -implicitDefEqProofs (disch:=first|omega|simp only[go_sem]) only[go_sem,true_and]
  refine E2d rfl ?_
  simp -implicitDefEqProofs (disch:=first|omega|simp only[go_sem]) only[go_sem,true_and,H6c,J8c,f3,f7,c17,tcell K I.kp,elc]
  refine YX (fun hc1=>?_) (fun hc1=>?_)
  ·have hp:Wj t i<t.code.length:=by omega
   obtain ⟨y,hy⟩:∃ y,(WX t.code)[i]? = some y:=by
    cases hq:(WX t.code)[i]? with
    | some y=>exact ⟨y,rfl⟩
    | none=>
      have:(WX t.code).length≤i:=by
       by_cases hj:i<(WX t.code).length
       ·rw[List.getElem?_eq_getElem hj]at hq;cases hq
       ·omega
      rw[R9a this]at hp
      omega
   obtain ⟨hp1,hp2,hp3,hp4,hp5⟩:=Y6a hdec hy
   have hiok:=D1c hz hby hy
   by_cases hkF:k=F
   ·have hkF':=eq_true (show ((F:Nat):Int)≤(k:Nat) by omega)
    obtain ⟨K3,s1,s2,o,rfl⟩:=res K 2 k YU YU rfl rfl rfl (rZ K I.kp)
    simp -implicitDefEqProofs (disch:=first|omega|simp only[go_sem]) only[go_sem,true_and,f6,f8,f9,hkF',A3b,s1]
    refine hX _ _ (by simp) ?_
    simp -implicitDefEqProofs (disch:=first|omega|simp only[go_sem]) only[go_sem,true_and,f6,G0a,k0a,s2]
    refine ⟨_,rfl,?_⟩
    rw[← hR]
    refine RunR.none ((eZ K I.kp).set (by omega)) ?_
    rw[← hrun,hkF,Nat.sub_self]
    exact z6a hp1
   have hkF':¬ ((F:Nat):Int)≤(k:Nat):=by omega
   have hw1:=ZV (i:=k) (n:=F) (by omega) (by omega)
   obtain ⟨o1,o2,o3,_⟩:=q1a hp4
   have hT3:XY t.code (Wj t i)=(y,(Wj t i:Nat)+Xv (t.code.getD (Wj t i) 0),0):=by
    refine Prod.ext (o1.trans hp2.symm) (Prod.ext o2 hp4)
   obtain ⟨K0,hK0⟩:∃ H,H=K.push (.row [.int .i64 0,.int .i64 0,.int .i64 0,.int .i64 0,.int .i64 0] 0 false):=⟨_,rfl⟩
   have eK0:Ext K K0:=by rw[hK0];exact Ext.push1 _ _
   have gh:K0.get K.next=some (.row [.int .i64 0,.int .i64 0,.int .i64 0,.int .i64 0,.int .i64 0] 0 false):=by rw[hK0];exact Zz _ _
   obtain ⟨K1,hK1⟩:∃ H,H=K0.set K.next (.row (fInstr.enc y) 0 false):=⟨_,rfl⟩
   have eK1:Ext K K1:=by rw[hK1];exact eK0.set (Nat.le_refl _)
   have gK1:K1.get K.next=some (.row (fInstr.enc y) 0 false):=by rw[hK1];exact ZX _ _
   have hst:Yw Tryz.prog 130 (.pointer (some ⟨K.next,0,none⟩)) (XJ y) K0=some K1:=by
    rw[hK1]
    exact (q1b rfl).trans (ZJ gh (Nat.le_of_ble_eq_true rfl) rfl)
   have I1:=I.ext C eK1
   have c17':Zu K0 Y.next 17=some (.int .i64 (Wj t i:Nat)):=(Zy ((eK0.get _ hYK).trans I.row)).trans (j3a l8).2.2.2
   have tc0:Zu K0 h.next 2=some vc:=tcell K0 (I.kp.ext eK0)
   have lx:Zx K1 K.next 0 5=some (XJ y):=by rw[Zw gK1 (Nat.le_of_ble_eq_true rfl)];rfl
   have one:=E5b (h:=K0) (i:=Wj t i) ((x.ext (eZ K0 (I.kp.ext eK0))).c) (by have:=hT.c;omega) (by omega)
   rw[hT3]at one
   simp -implicitDefEqProofs (disch:=first|omega|simp only[go_sem]) only[go_sem,true_and,f8,f9,hkF']
   refine F2d rfl ?_
   simp -implicitDefEqProofs (disch:=first|omega|simp only[go_sem]) only[go_sem,true_and,I6c,K8c]
   simp -implicitDefEqProofs (disch:=first|omega|simp only[go_sem]) only[go_sem,true_and,← hK0,f3,f7,tc0,c17']
   refine Q1a one ?_
   simp -implicitDefEqProofs (disch:=first|omega|simp only[go_sem]) only[go_sem,true_and,gh,hst]
   simp -implicitDefEqProofs (disch:=first|omega|simp only[go_sem]) only[go_sem,true_and,f7,f9,hw1,lx]
   refine Yu (M2c C I1 hiok (by omega) mn.ok) ?_
   rintro r N ⟨e,s',jo,n',vq',vo',wq',wo',hE,I3,rfl,j1,j2⟩
   have hwl3:=s1b (t:=t) (m:=ns) (x:=y) (s:=st)
   have hFk:F - k=(F - (k+1))+1:=by omega
   rw[hE]at hwl3
   simp only at hwl3
   rw[hp2]at hE
   by_cases hm1:e=-1
   ·subst hm1
    have hnext:∃ i':Nat,n'=(Wj t i':Nat)∧(jo.getD ((Wj t i:Nat)+Xv (t.code.getD (Wj t i) 0))).toNat=Wj t i':=by
     cases jo with
     | none=>
       refine ⟨i+1,?_,hp5⟩
       rw[j1 rfl,← hp5]
       have:=(o6a (t.code.getD (Wj t i) 0)).1
       omega
     | some a=>
       obtain ⟨ha1,ha2⟩:=a2d (t:=t) (m:=ns) (x:=y) (s:=st) (a:=a) (by rw[hp2,hE])
       obtain ⟨i',z,q1,q2,q3⟩:=l2b hdec (List.mem_of_getElem? hy) ha2
       refine ⟨i',?_,?_⟩
       ·rw[j2 a rfl,ha1,← q3]
        obtain ⟨_,_,q,_,_⟩:=Y6a hdec q1
        omega
       ·show a.toNat=_
        rw[ha1,q3]
    obtain ⟨i',rfl,hni⟩:=hnext
    simp -implicitDefEqProofs (disch:=first|omega|simp only[go_sem]) only[go_sem,true_and,Xj,Zj,ZY]
    refine hK' (k+1,i',s') _ ?_ (by show F - (k+1)<F - k;omega)
    refine ⟨by trivial,by trivial,(vy f3),(vy f6),(vy f7),(vy f8),vz,⟨_,_,_,_,I3⟩,by show k+1≤F;omega,by show s'.w.length≤k+1;omega,?_⟩
    show N1a t ns (F - (k+1)) (Wj t i') (k+1) s'=O
    rw[← hrun,hFk,h9a hp1 (by rw[hE]),hE,← hni]
   ·have hmd:=decide_eq_false hm1
    by_cases hm0:e=0
    ·subst hm0
     simp -implicitDefEqProofs (disch:=first|omega|simp only[go_sem]) only[go_sem,true_and,Xj,Zj,ZY]
     refine hX _ _ (by simp) ?_
     rw[hMM]
     refine ⟨by trivial,by trivial,(vy f6),(vy f7),k+1,s',n',vq',vo',wq',wo',vz,I3,?_⟩
     rw[← hrun,hFk,A6a hp1 (by rw[hE]),hE]
    ·obtain ⟨K3,s1,s2,o,rfl⟩:=res N e ((k+1:Nat):Int) YU YU rfl rfl rfl (rZ N I3.kp)
     simp -implicitDefEqProofs (disch:=first|omega|simp only[go_sem]) only[go_sem,true_and,Xj,hmd,hm1,hm0,Zj,ZY,f6,A3b,s1]
     refine hX _ _ (by simp) ?_
     simp -implicitDefEqProofs (disch:=first|omega|simp only[go_sem]) only[go_sem,true_and,f6,G0a,k0a,s2]
     refine ⟨_,rfl,?_⟩
     rw[← hR]
     refine RunR.none ((eZ N I3.kp).set (by omega)) ?_
     rw[← hrun,hFk,B6a hp1 (by rw[hE];exact hm1) (by rw[hE];exact hm0),hE]
  ·refine hX _ _ (by simp) ?_
   rw[hMM]
   refine ⟨by trivial,by trivial,(vy f6),(vy f7),k,st,_,vq,vo,wq,wo,(vy f9),I,?_⟩
   rw[← hrun]
   exact m6a (by omega)
 rintro ⟨fr,df,K,rd⟩ hM
 rw[hMM]at hM
 obtain ⟨hdf,hrd,f6,f7,k,st,n,vq,vo,wq,wo,f9,I,hO3⟩:=hM
 simp only at hdf hrd f6 f7 f9 I
 subst hdf hrd
 have l8:=I.len
 have hYK:Y.next<K.next:=Nat.lt_of_lt_of_le C.lb I.kp.next
 have c15:Zu K Y.next 15=some vq:=(Zy I.row).trans (j3a l8).2.1
 have c16:∀ N,Ext K N→Zu N Y.next 16=some vo:=fun N e=>(Zy ((e.get _ hYK).trans I.row)).trans (j3a l8).2.2.1
 have hwn:=I.wn
 have aq:Arg fChange.rep K vq st.w:=I.q.arg (fun i hi=>hi.elim)
 have hvo:vo.cells=#[vo]:=I.o.sl.cells1
 simp -implicitDefEqProofs (disch:=first|omega|simp only[go_sem]) only[go_sem,true_and]
 refine G2d rfl ?_
 simp -implicitDefEqProofs (disch:=first|omega|simp only[go_sem]) only[go_sem,true_and,J6c,L8c,f7,f9,c15,c16 K (.refl _)]
 refine B1a (D5b aq (by omega)) ?_
 rintro r N2 ⟨w2,rfl,m2⟩
 have hw2:w2.cells=#[w2]:=m2.sl.cells1
 have hone:[Value.int .i64 0,vo,w2,.int .i64 (k:Nat)].all Value.oneCell'=true:=by
  obtain ⟨_,_,rfl⟩:=I.o.sl.isSlice
  obtain ⟨_,_,rfl⟩:=m2.sl.isSlice
  rfl
 have eN:=m2.ext
 have hkn:=I.kp.next
 obtain ⟨K3,s1,s2,o,rfl⟩:=res N2 0 (k:Nat) vo w2 hvo hw2 hone ((eN.get _ (by omega)).trans (rZ K I.kp))
 simp -implicitDefEqProofs (disch:=first|omega|simp only[go_sem]) only[go_sem,true_and,Y3a,c16 N2 eN,y7d hvo hw2,f6,s1]
 simp -implicitDefEqProofs (disch:=first|omega|simp only[go_sem]) only[go_sem,true_and,G0a,k0a,f6,s2]
 refine ⟨_,rfl,?_⟩
 rw[← hR,hO3]
 have ehK:Ext h K:=eZ K I.kp
 have eset:Ext h (N2.set H1.next o):=(ehK.trans eN).set (by omega)
 refine ⟨_,_,rfl,⟨eset,wo,I.o.mono (by show K.next≤N2.next;exact eN.next) (fun i hi=>?_) (fun i hi=>hi.elim),fun i hi=>?_⟩,?_⟩
 ·have h1:=I.ho i hi
  have h2:=I.o.lt i hi
  rw[Zv _ _ (by omega)]
  exact eN.get _ h2
 ·have:=I.ho i hi
  omega
 ·obtain ⟨w3,p1,p2⟩:=m2.own
  refine ⟨eset,w3,p1.mono (Nat.le_refl _) (fun i hi=>Zv _ _ ?_) (fun i hi=>hi.elim),fun i hi=>?_⟩
  ·have:=p2 i hi
   omega
  ·have:=p2 i hi
   omega
theorem A9b {t:Txn} {l k:List Pair} {f:Int} (h:E1a t l=E1a t k):q2a t l f=q2a t k f:=by
 unfold q2a
 rw[h]
def r1a (m:List Cell) (k:Key):Nat:=(m.takeWhile fun c=>Yq c.k k).length
def O4a (m:List Cell) (k:Key):Bool:=match m[r1a m k]? with
 | some c=>decide (c.k=k)
 | none=>false
def z4a (k:Key):List Cell→List Cell
 | []=>[]
 | y :: r=>if Yq y.k k=true then y :: z4a k r else if y.k=k then r else y :: r
theorem K2b (m:List Cell) (k:Key):r1a m k≤m.length:=List.Sublist.length_le (List.takeWhile_sublist _)
theorem c5a {y:Cell} {r:List Cell} {k:Key}:r1a (y :: r) k=if Yq y.k k=true then r1a r k+1 else 0:=by
 unfold r1a
 by_cases h:Yq y.k k=true
 ·simp[List.takeWhile_cons,h]
 ·simp[List.takeWhile_cons,h]
theorem w8a {y:Cell} {r:List Cell} {k:Key}:O4a (y :: r) k=if Yq y.k k=true then O4a r k else decide (y.k=k):=by
 unfold O4a
 rw[c5a]
 by_cases h:Yq y.k k=true
 ·rw[if_pos h,if_pos h,List.getElem?_cons_succ]
 ·rw[if_neg h,if_neg h];rfl
theorem O0b {x:Cell}:∀ {m:List Cell},XU Cell.k x m=m.take (r1a m x.k)++x :: m.drop (r1a m x.k+if O4a m x.k then 1 else 0)
 | []=>rfl
 | y :: r=>by
   unfold XU
   rw[c5a,w8a]
   by_cases h:Yq y.k x.k=true
   ·rw[if_pos h,if_pos h,if_pos h,O0b (m:=r),List.take_succ_cons,Nat.add_right_comm,List.drop_succ_cons,List.cons_append]
   ·rw[if_neg h,if_neg h,if_neg h]
    by_cases e:y.k=x.k
    ·rw[if_pos e,decide_eq_true e];rfl
    ·rw[if_neg e,decide_eq_false e];rfl
theorem A7a {k:Key}:∀ {m:List Cell},z4a k m=if O4a m k then m.take (r1a m k)++m.drop (r1a m k+1) else m
 | []=>rfl
 | y :: r=>by
   unfold z4a
   rw[c5a,w8a]
   by_cases h:Yq y.k k=true
   ·rw[if_pos h,if_pos h,if_pos h,A7a (m:=r)]
    by_cases e:O4a r k=true
    ·rw[if_pos e,if_pos e,List.take_succ_cons,List.drop_succ_cons,List.cons_append]
    ·rw[if_neg e,if_neg e]
   ·rw[if_neg h,if_neg h,if_neg h]
    by_cases e:y.k=k
    ·rw[if_pos e,decide_eq_true e];rfl
    ·rw[if_neg e,decide_eq_false e];rfl
theorem H6a {k:Key}:∀ {m:List Cell},UpB Cell.k m→z4a k m=m.filter fun c=>!decide (c.k=k)
 | [],_=>rfl
 | y :: r,h=>by
   obtain ⟨hy,hr⟩:=List.pairwise_cons.1 h
   unfold z4a
   by_cases h1:Yq y.k k=true
   ·have hne:y.k≠k:=fun e=>by rw[e,f1a]at h1;cases h1
    rw[if_pos h1,H6a hr,List.filter_cons_of_pos (by simp[hne])]
   ·have rest:∀ c∈r,c.k≠k:=fun c hc e=>h1 (by rw[← e];exact hy c hc)
    have hf:(r.filter fun c=>!decide (c.k=k))=r:=List.filter_eq_self.2 fun c hc=>by simp[rest c hc]
    rw[if_neg h1]
    by_cases e:y.k=k
    ·rw[if_pos e,List.filter_cons_of_neg (by simp[e]),hf]
    ·rw[if_neg e,List.filter_cons_of_pos (by simp[e]),hf]
theorem x7b {k:Key} {m:List Cell} (h:UpB Cell.k m):UpB Cell.k (z4a k m):=by rw[H6a h];exact h.filter _
theorem h3a {m:List Cell} (h:UpB Cell.k m) {k:Key} {c:Cell}:Yk Cell.k m k=some c↔c∈m∧c.k=k:=by
 constructor
 ·exact d0a
 ·rintro ⟨h1,rfl⟩
  exact (F2b h).2 h1
theorem q5b {m:List Cell} {k:Key}:O4a m k=true↔∃ h:r1a m k<m.length,(m[r1a m k]'h).k=k:=by
 unfold O4a
 constructor
 ·intro h
  cases hq:m[r1a m k]? with
  | none=>rw[hq]at h;cases h
  | some c=>
    rw[hq]at h
    obtain ⟨h1,h2⟩:=List.getElem?_eq_some_iff.1 hq
    exact ⟨h1,by rw[h2];simpa using h⟩
 ·rintro ⟨h1,h2⟩
  rw[List.getElem?_eq_getElem h1]
  simpa using h2
def P1a (m:List Cell) (keys:List Key):List Pair:=m.filterMap fun c=>if c.k∈keys then some ⟨c.k,c.v⟩ else none
def y3a (m:List Cell) (keys:List Key):List Pair:=keys.filterMap fun k=>(Yk Cell.k m k).map fun c=>⟨k,c.v⟩
def o2a (slot:Int) (m:List Cell) (c:Change):List Cell:=if c.e then z4a c.k m else XU Cell.k ⟨c.k,c.v,slot⟩ m
def H4a (t:Txn) (m:List Cell):R3b:=q2a t (P1a m t.reads) 4096
def Wx (t:Txn) (slot place:Int) (m:List Cell):Res:=⟨(H4a t m).e,(H4a t m).vs,slot,place⟩
def Z2a (t:Txn) (slot:Int) (m:List Cell):List Cell:=if (H4a t m).e=0 then (H4a t m).ch.foldl (o2a slot) m else m
theorem W5c {m:List Cell} {keys:List Key} (h:UpB Cell.k m):UpB Pair.k (P1a m keys):=by
 unfold P1a UpB
 rw[List.pairwise_filterMap]
 refine h.imp fun {a b} hab x hx y hy=>?_
 split at hx
 ·split at hy
  ·cases hx;cases hy;exact hab
  ·cases hy
 ·cases hx
theorem j2c {m:List Cell} (h:UpB Cell.k m) {keys:List Key} {p:Pair}:p∈P1a m keys↔p.k∈keys∧∃ c,Yk Cell.k m p.k=some c∧c.v=p.v:=by
 unfold P1a
 rw[List.mem_filterMap]
 constructor
 ·rintro ⟨c,hc,hp⟩
  split at hp
  ·rename_i hk
   cases hp
   exact ⟨hk,c,(h3a h).2 ⟨hc,rfl⟩,rfl⟩
  ·cases hp
 ·rintro ⟨hk,c,hc,hv⟩
  obtain ⟨h1,h2⟩:=(h3a h).1 hc
  refine ⟨c,h1,?_⟩
  rw[if_pos (by rw[h2];exact hk),h2,hv]
theorem z6b {m:List Cell} {keys:List Key} {p:Pair}:Yk Pair.k (y3a m keys) p.k=some p↔p.k∈keys∧∃ c,Yk Cell.k m p.k=some c∧c.v=p.v:=by
 induction keys using Q7a with
 | h0=>simp[y3a,Yk]
 | h1 l k ih=>
   have hs:y3a m (l++[k])=y3a m l++match Yk Cell.k m k with | some c=>[⟨k,c.v⟩] | none=>[]:=by
    unfold y3a
    rw[List.filterMap_append]
    congr 1
    cases hq:Yk Cell.k m k with
    | none=>simp[hq]
    | some c=>simp[hq]
   rw[hs]
   cases hq:Yk Cell.k m k with
   | none=>
     simp only[List.append_nil]
     rw[ih,List.mem_append,List.mem_singleton]
     constructor
     ·rintro ⟨a,b⟩;exact ⟨.inl a,b⟩
     ·rintro ⟨a | a,c,b,d⟩
      ·exact ⟨a,c,b,d⟩
      ·rw[a,hq]at b;cases b
   | some c=>
     simp only
     rw[G5a,List.mem_append,List.mem_singleton]
     by_cases hk:k=p.k
     ·rw[if_pos hk]
      constructor
      ·intro e
       cases e
       exact ⟨.inr rfl,c,hq,rfl⟩
      ·rintro ⟨_,c',b,d⟩
       rw[← hk,hq]at b
       cases b
       cases p
       simp only at hk d
       rw[hk,d]
     ·rw[if_neg hk,ih]
      constructor
      ·rintro ⟨a,b⟩;exact ⟨.inl a,b⟩
      ·rintro ⟨a | a,b⟩
       ·exact ⟨a,b⟩
       ·exact absurd a.symm hk
theorem l9b {t:Txn} {m:List Cell} (h:UpB Cell.k m):E1a t (y3a m t.reads)=E1a t (P1a m t.reads):=by
 unfold E1a
 congr 1
 refine N8a (r2a _) (r2a _) fun p=>?_
 rw[t2a,z6b,w0b (W5c h),j2c h]
theorem R2c {t:Txn} {m:List Cell} (h:UpB Cell.k m):q2a t (y3a m t.reads) 4096=H4a t m:=A9b (l9b h)
theorem X2b {m:List Cell} {keys:List Key}:(P1a m keys).length≤m.length:=List.length_filterMap_le _ _
theorem b3c {m:List Cell} {keys:List Key}:(y3a m keys).length≤keys.length:=List.length_filterMap_le _ _
def CelM (mm:List (Key × Value)) (m:List Cell):Prop:=(mm.map (·.1)).Nodup∧UpB Cell.k m∧∀ k,Vz mm k=(Yk Cell.k m k).map XQ
theorem CelM.nil:CelM [] []:=⟨by simp,List.Pairwise.nil,fun k=>rfl⟩
theorem W1c {m:List Cell} {x:Cell} (h:UpB Cell.k m) {k:Key}:Yk Cell.k (XU Cell.k x m) k=if k=x.k then some x else Yk Cell.k m k:=by
 have hu:=a9a (key:=Cell.k) (x:=x) h
 refine Option.ext fun c=>?_
 rw[h3a hu,E7a h]
 by_cases hk:k=x.k
 ·rw[if_pos hk,Option.some.injEq]
  constructor
  ·rintro ⟨h1 | h1,h2⟩
   ·exact h1.symm
   ·exact absurd (h2.trans hk) h1.2
  ·rintro rfl
   exact ⟨.inl rfl,hk.symm⟩
 ·rw[if_neg hk,h3a h]
  constructor
  ·rintro ⟨h1 | h1,h2⟩
   ·exact absurd (by rw[← h2,h1]) hk
   ·exact ⟨h1.1,h2⟩
  ·rintro ⟨h1,h2⟩
   exact ⟨.inr ⟨h1,fun e=>hk (h2.symm.trans e)⟩,h2⟩
theorem V1c {m:List Cell} {q:Key} (h:UpB Cell.k m) {k:Key}:Yk Cell.k (z4a q m) k=if k=q then none else Yk Cell.k m k:=by
 have hu:=x7b (k:=q) h
 refine Option.ext fun c=>?_
 rw[h3a hu,H6a h,List.mem_filter]
 by_cases hk:k=q
 ·rw[if_pos hk]
  constructor
  ·rintro ⟨h1,h2⟩
   exact absurd (h2.trans hk) (by simpa using h1.2)
  ·intro h;cases h
 ·rw[if_neg hk,h3a h]
  constructor
  ·rintro ⟨h1,h2⟩;exact ⟨h1.1,h2⟩
  ·rintro ⟨h1,h2⟩
   refine ⟨⟨h1,?_⟩,h2⟩
   have:c.k≠q:=fun e=>hk (h2.symm.trans e)
   simpa using this
theorem CelM.put {mm:List (Key × Value)} {m:List Cell} (a:CelM mm m) (x:Cell):CelM (a1a mm x.k (XQ x)) (XU Cell.k x m):=
 ⟨i2a a.1,a9a a.2.1,fun k=>by
  rw[l4a a.1,W1c a.2.1]
  split
  ·rfl
  ·exact a.2.2 k⟩
theorem CelM.del {mm:List (Key × Value)} {m:List Cell} (a:CelM mm m) (q:Key):CelM (M6a mm q) (z4a q m):=
 ⟨D7a a.1,x7b a.2.1,fun k=>by
  rw[k2c,V1c a.2.1]
  split
  ·rfl
  ·exact a.2.2 k⟩
theorem CelM.mem {mm:List (Key × Value)} {m:List Cell} (a:CelM mm m) (k:Key):k∈mm.map (·.1)↔k∈m.map Cell.k:=by
 have h:=a.2.2 k
 constructor
 ·intro h1
  cases hq:Yk Cell.k m k with
  | none=>
    rw[hq]at h
    exact absurd h1 (x8a.1 h)
  | some c=>exact List.mem_map.2 ⟨c,(d0a hq).1,(d0a hq).2⟩
 ·intro h1
  cases hq:Vz mm k with
  | none=>
    rw[hq]at h
    cases hc:Yk Cell.k m k with
    | none=>exact absurd h1 (w3a.1 hc)
    | some c=>rw[hc]at h;cases h
  | some v=>exact List.mem_map.2 ⟨(k,v),(F2a a.1).1 hq,rfl⟩
theorem s0c {a b:Key}:r4a a b=0↔a=b:=by
 unfold r4a
 by_cases h:Yq a b=true
 ·rw[if_pos h]
  constructor
  ·intro e;exact absurd e (by decide)
  ·rintro rfl;rw[f1a]at h;cases h
 ·rw[if_neg h]
  by_cases e:a=b
  ·simp[e]
  ·simp[e]
theorem H7b {h:DHeap} {v:Value} {m:List Cell} {k:Key} (hb:Arg fCell.rep h v m) (hl:m.length≤4294967296) :
 DC Tryz.prog 33 [v,Zq k] h (.ret (.tuple #[.int .i64 (r1a m k:Nat),.bool (O4a m k)])) h:=by
 refine Ct.pure (U8d (by simp) ?_) (b3a _ rfl)
 have hcl:(Zq k).cells.toList=[.int .i32 k.t,.int .i64 k.r]:=rfl
 obtain ⟨H,hH⟩:∃ H,H=h.push (.row [.int .i32 k.t,.int .i64 k.r] 0 false):=⟨_,rfl⟩
 have hE:Ext h H:=by rw[hH];exact Ext.push1 _ _
 have lk:Zx H h.next 0 2=some (Zq k):=by
  rw[hH,Zw (Zz _ _) (Nat.le_of_ble_eq_true rfl)]
  rfl
 have hbH:=hb.ext hE
 have el:∀ K,dLen Tryz.prog #[29] v K=some (.int .i64 (m.length:Nat)):=hb.lens (P:=Tryz.prog) (ts:=#[29]) (t:=29) rfl f6a
 simp -implicitDefEqProofs (disch:=first|omega|simp only[go_sem]) only[go_sem,true_and,c33,hcl,← hH]
 refine Xu (σ:=Nat) (by kernel_rfl) (fun i s=>s.df=[]∧s.rd=none∧s.h=H∧s.fr 0=some v∧s.fr 3=some (.pointer (some ⟨h.next,0,none⟩))∧s.fr 6=some (.int .i64 (i:Nat))∧i≤m.length∧r1a m k=i+r1a (m.drop i) k∧O4a m k=O4a (m.drop i) k) (fun i=>m.length - i) 0 ?_ ?_
 ·simp -implicitDefEqProofs (disch:=first|omega|simp only[go_sem]) only[go_sem,true_and]
  exact ⟨by trivial,Nat.zero_le _,by simp,by simp⟩
 rintro i ⟨fr,df,K,rd⟩ K' hK' hX ⟨hdf,hrd,hK,f0,f3,f6,hi,hp,hat⟩
 simp only at hdf hrd hK f0 f3 f6
 subst hdf hrd hK
 simp -implicitDefEqProofs (disch:=first|omega|simp only[go_sem]) only[go_sem,true_and,f0,f6,el]
 refine YX (fun hc1=>?_) (fun hc1=>?_)
 ·have hj:i<m.length:=by omega
  have hw:=ZV hj (by omega)
  rw[List.drop_eq_getElem_cons hj,c5a]at hp
  rw[List.drop_eq_getElem_cons hj,w8a]at hat
  obtain ⟨id1,o1,g1,hid1,hat1⟩:=hbH.idx (P:=Tryz.prog) (t:=29) x4a (k:=.i64) (i:=i) (x:=m[i]) (by simp)
  have a1:Zx K id1 o1 2=some (Zq m[i].k):=l4b hat1
  simp -implicitDefEqProofs (disch:=first|omega|simp only[go_sem]) only[go_sem,true_and]
  refine C2d rfl ?_
  simp -implicitDefEqProofs (disch:=first|omega|simp only[go_sem]) only[go_sem,true_and,F6c,H8c,f0,f3,f6,g1,a1,lk]
  refine Q1a j6a ?_
  by_cases hlt:Yq m[i].k k=true
  ·have hneg:¬ 0≤r4a m[i].k k:=by have:=M4a.2 hlt;omega
   rw[if_pos hlt]at hp hat
   simp -implicitDefEqProofs (disch:=first|omega|simp only[go_sem]) only[go_sem,true_and,hneg,f6,hw]
   refine hK' (i+1) _ ?_ (by omega)
   exact ⟨by trivial,by trivial,by trivial,(vy f0),(vy f3),vz,by omega,by omega,hat⟩
  ·have hneg:=eq_true (show 0≤r4a m[i].k k by
    have:¬ r4a m[i].k k<0:=fun hh=>hlt (M4a.1 hh)
    omega)
   rw[if_neg hlt]at hp hat
   have hd:decide (r4a m[i].k k=0)=decide (m[i].k=k):=decide_eq_decide.2 s0c
   simp -implicitDefEqProofs (disch:=first|omega|simp only[go_sem]) only[go_sem,true_and,hneg,f6]
   refine hX _ _ (by simp) ?_
   simp -implicitDefEqProofs (disch:=first|omega|simp only[go_sem]) only[go_sem,true_and]
   exact ⟨_,rfl,by rw[hp,hat,← hd];rfl,hE⟩
 ·obtain rfl:i=m.length:=by omega
  rw[List.drop_length]at hp hat
  refine hX _ _ (by simp) ?_
  simp -implicitDefEqProofs (disch:=first|omega|simp only[go_sem]) only[go_sem,true_and,f0,el]
  exact ⟨_,rfl,by rw[hp,hat];rfl,hE⟩
def CinV (L:List Value) (K0:DHeap) (a b:List Cell) (k:Nat) (h:DHeap) (v:Value):Prop:=
 ((k≠4∧k≠6∧k≠7∧k≠8)→v=L.getD k undef)∧(k=4→Made fCell K0 h v a)∧(k=6→Arg fCell.rep h v b)∧(k=7∨k=8→Made fCell K0 h v (a++b))
theorem CinV.stab {L:List Value} {K0 h h':DHeap} {a b:List Cell} {k:Nat} {v:Value} (e:Ext h h') (x:CinV L K0 a b k h v):CinV L K0 a b k h' v:=
 ⟨x.1,fun hk=>(x.2.1 hk).on e,fun hk=>(x.2.2.1 hk).ext e,fun hk=>(x.2.2.2 hk).on e⟩
def n7b:Nat→Option Nat
 | 4=>some 7
 | 6=>some 7
 | _=>none
theorem r0c {L:List Value} {K0 h h':DHeap} {a b:List Cell} {B:List Nat} {k:Nat} {v:Value} (b1:(B.getD 8 0).testBit 7=true) (h1:k≠7) (h2:(B.getD k 0).testBit 7=false) (h3:∀ c,n7b k=some c→c≠7∧(B.getD 7 0).testBit c=false) (x:CinV L K0 a b k h v):CinV L K0 a b k h' v:=by
 have n4:k≠4:=fun e=>by subst e;exact (h3 7 rfl).1 rfl
 have n6:k≠6:=fun e=>by subst e;exact (h3 7 rfl).1 rfl
 have n8:¬ (k=7∨k=8):=fun e=>by
  rcases e with rfl | rfl
  ·exact h1 rfl
  ·rw[b1]at h2;cases h2
 exact ⟨x.1,fun e=>absurd e n4,fun e=>absurd e n6,fun e=>absurd e n8⟩
set_option maxHeartbeats 1000000 in
theorem h6b {K0:DHeap} {rv:Value} {r:List Cell} {x:Cell} {b j:Nat} {fr:Fr} {rd:Option Nat} (hr:Arg fCell.rep K0 rv r) (hx:fCell.ok x) (lx:∀ K,Ext K0 K→Zx K b 0 4=some (XQ x)) (hj:j≤r.length) (hlr:r.length≤4000000000)
 (f0:fr 0=some rv) (f3:fr 3=some (.pointer (some ⟨b,0,none⟩))) (f5:fr 5=some (.int .i64 (j:Nat))) (f7:fr 7=some (.slice none 0 0)) :
 NC Tryz.prog 31 R1e (WZ (fun s=>s.df=[]∧s.rd=rd∧(∃ w,s.fr 7=some w∧Made fCell K0 s.h w (r.take j++[x]))∧s.fr 0=fr 0∧s.fr 5=fr 5∧s.fr 6=fr 6) (fun _ _=>False)) ⟨fr,[],K0,rd⟩:=by
 obtain ⟨u3,a1,a2⟩:=hr.slice (P:=Tryz.prog) (t:=29) x4a (by decide) (lo:=none) (hi:=some (.int .i64 (j:Nat))) (i:=0) (j:=j) (B0a (k:=.i64) hj) rfl (Nat.zero_le _) hj
 rw[List.drop_zero]at a2
 have sl3:∀ K,Ext K0 K→XZ Tryz.prog 29 rv none (some (.int .i64 (j:Nat))) none K=some u3:=fun K e=>(q3a hr e).trans a1
 have sl3':∀ K,Ext K0 K→Arg fCell.rep K u3 (r.take j):=fun K e=>a2.ext e
 obtain ⟨L,hL⟩:∃ L:List Value,L=[.slice none 0 0,rv,.int .i64 (j:Nat),u3,undef,XQ x,undef,undef,undef]:=⟨_,rfl⟩
 have V0:∀ (k:Nat),(k≠4∧k≠6∧k≠7∧k≠8)→∀ h v,v=L.getD k undef→CinV L K0 (r.take j) [x] k h v:=fun k hk h v hv=>
  ⟨fun _=>hv,fun e=>absurd e hk.1,fun e=>absurd e hk.2.1,fun e=>by rcases e with e | e;exact absurd e hk.2.2.1;exact absurd e hk.2.2.2⟩
 refine NC.regsC (l:=L6a) (by kernel_rfl) (by kernel_rfl) (by kernel_rfl) rfl (by kernel_rfl) (by kernel_rfl) (fun a b=>Ext K0 a→Ext K0 b) (fun _ h=>h) (fun _ _ _ f g h=>g (f h)) (CinV L K0 (r.take j) [x]) n7b ?_ ?_
 case refine_2=>
  rintro ⟨fr1,df1,K,rd1⟩ g hF
  obtain ⟨w,e1,e2⟩:=(hF 8 (by decide) rfl).ex (d:=7) rfl
  exact ⟨g.df,g.rd,⟨w,e1,e2.2.2.2 (.inr rfl)⟩,g.fr 0 (by kernel_rfl),g.fr 5 (by kernel_rfl),g.fr 6 (by kernel_rfl)⟩
 intro k oo s ho g hpre hown hF
 have gx:Ext K0 s.h:=g.ext (.refl _)
 have F0:s.fr 0=some rv:=(g.fr 0 (by kernel_rfl)).trans f0
 have F3:s.fr 3=some (.pointer (some ⟨b,0,none⟩)):=(g.fr 3 (by kernel_rfl)).trans f3
 have F5:s.fr 5=some (.int .i64 (j:Nat)):=(g.fr 5 (by kernel_rfl)).trans f5
 have hk':k<9:=(List.getElem?_eq_some_iff.1 ho).1
 match k,hk' with
 | 0,_=>
   simp only[L6a,List.getElem?_cons_zero,List.getElem?_cons_succ,Option.some.injEq]at ho
   subst ho
   have F7:s.fr 7=some (.slice none 0 0):=(hpre 8 7 (by kernel_rfl) (by kernel_rfl)).trans f7
   exact i0a (v:=.slice none 0 0) (fun _ e=>e) vz (vy F7) (V0 0 (by decide) _ _ (by rw[hL];rfl))
 | 1,_=>
   simp only[L6a,List.getElem?_cons_zero,List.getElem?_cons_succ,Option.some.injEq]at ho
   subst ho
   exact i0a (v:=rv) (fun _ e=>e) vz (vy F0) (V0 1 (by decide) _ _ (by rw[hL];rfl))
 | 2,_=>
   simp only[L6a,List.getElem?_cons_zero,List.getElem?_cons_succ,Option.some.injEq]at ho
   subst ho
   exact i0a (v:=.int .i64 (j:Nat)) (fun _ e=>e) vz (vy F5) (V0 2 (by decide) _ _ (by rw[hL];rfl))
 | 3,_=>
   simp only[L6a,List.getElem?_cons_zero,List.getElem?_cons_succ,Option.some.injEq]at ho
   subst ho
   have q1:s.fr 16=some rv:=(hF 1 (by kernel_rfl) (.inl rfl)).eq rfl fun _ _ e=>by have:=e.1 (by decide);rw[hL]at this;exact this
   have q2:s.fr 17=some (.int .i64 (j:Nat)):=(hF 2 (by kernel_rfl) (.inl rfl)).eq rfl fun _ _ e=>by have:=e.1 (by decide);rw[hL]at this;exact this
   exact i0a (v:=u3) (fun _ e=>e) vz (by simp -implicitDefEqProofs (disch:=first|omega|simp only[go_sem]) only[go_sem,true_and,q1,q2,sl3 s.h gx]) (V0 3 (by decide) _ _ (by rw[hL];rfl))
 | 4,_=>
   simp only[L6a,List.getElem?_cons_zero,List.getElem?_cons_succ,Option.some.injEq]at ho
   subst ho
   have q0:s.fr 15=some (.slice none 0 0):=(hF 0 (by kernel_rfl) (.inl rfl)).eq rfl fun _ _ e=>by have:=e.1 (by decide);rw[hL]at this;exact this
   have q3:s.fr 18=some u3:=(hF 3 (by kernel_rfl) (.inl rfl)).eq rfl fun _ _ e=>by have:=e.1 (by decide);rw[hL]at this;exact this
   obtain ⟨w,h2,e2,m2,_⟩:=(Made.nil fCell (Ext.refl s.h)).append T6a (x:=u3) (sl3' s.h gx) (by simp;omega) (by decide)
   refine k3a (h':=h2) (v:=w) vz (by simp -implicitDefEqProofs (disch:=first|omega|simp only[go_sem]) only[go_sem,true_and,q0,q3,e2]) (fun e=>e.trans m2.ext) ⟨fun h=>absurd rfl h.1,fun _=>by simpa using m2.base gx,fun h=>absurd h (by decide),fun h=>absurd h (by decide)⟩ (fun j u _ _ _ hV=>hV.stab m2.ext)
 | 5,_=>
   simp only[L6a,List.getElem?_cons_zero,List.getElem?_cons_succ,Option.some.injEq]at ho
   subst ho
   have hc:=lx s.h gx
   exact i0a (v:=XQ x) (fun _ e=>e) vz (by simp -implicitDefEqProofs (disch:=first|omega|simp only[go_sem]) only[go_sem,true_and,F3,hc]) (V0 5 (by decide) _ _ (by rw[hL];rfl))
 | 6,_=>
   simp only[L6a,List.getElem?_cons_zero,List.getElem?_cons_succ,Option.some.injEq]at ho
   subst ho
   have q8:s.fr 20=some (XQ x):=(hF 5 (by kernel_rfl) (.inl rfl)).eq rfl fun _ _ e=>by have:=e.1 (by decide);rw[hL]at this;exact this
   have m2:=built fCell s.h (cs:=[.int .i32 x.k.t,.int .i64 x.k.r,.int .i64 x.v,.int .i64 x.s]) (zz:=4) (l:=[x]) (n:=1) (m:=1) (by simp;rfl) rfl rfl (by simpa using hx)
   refine k3a (h':=s.h.push (.row [.int .i32 x.k.t,.int .i64 x.k.r,.int .i64 x.v,.int .i64 x.s] 4 false)) (v:=.slice (some ⟨s.h.next,0,none⟩) 1 1) vz (vy q8) (fun e=>e.push _) ⟨fun h=>absurd rfl h.2.1,fun h=>absurd h (by decide),fun _=>m2,fun h=>absurd h (by decide)⟩ (fun j u _ _ _ hV=>hV.stab (Ext.push1 _ _))
 | 7,_=>
   simp only[L6a,List.getElem?_cons_zero,List.getElem?_cons_succ,Option.some.injEq]at ho
   subst ho
   obtain ⟨w4,q4,v4⟩:=(hF 4 (by kernel_rfl) (.inr rfl)).ex (d:=19) rfl
   obtain ⟨w9,q9,v9⟩:=(hF 6 (by kernel_rfl) (.inr rfl)).ex (d:=21) rfl
   obtain ⟨w,h2,e2,m2,_⟩:=(v4.2.1 rfl).append T6a (v9.2.2.1 rfl) (by simp;omega) (by decide)
   refine k3a (h':=h2) (v:=w) vz (by simp -implicitDefEqProofs (disch:=first|omega|simp only[go_sem]) only[go_sem,true_and,q4,q9,e2]) (fun _=>m2.ext) ⟨fun h=>absurd rfl h.2.2.1,fun h=>absurd h (by decide),fun h=>absurd h (by decide),fun _=>m2⟩ (fun j u h1 h2 h3 hV=>r0c (by kernel_rfl) h1 h2 h3 hV)
 | 8,_=>
   simp only[L6a,List.getElem?_cons_zero,List.getElem?_cons_succ,Option.some.injEq]at ho
   subst ho
   obtain ⟨w10,q10,v10⟩:=(hF 7 (by kernel_rfl) (.inl rfl)).ex (d:=22) rfl
   exact i0a (v:=w10) (fun _ e=>e) vz (vy q10) ⟨fun h=>absurd rfl h.2.2.2,fun h=>absurd h (by decide),fun h=>absurd h (by decide),fun _=>v10.2.2.2 (.inl rfl)⟩
theorem j0b {h:DHeap} {v:Value} {m:List Cell} {x:Cell} (hb:Arg fCell.rep h v m) (hx:fCell.ok x) (hl:m.length≤2000000000) :
 Ct Tryz.prog 9 [v,XQ x] h fun r h1=>∃ w,r=.ret w∧Made fCell h h1 w (XU Cell.k x m):=by
 refine L1e (by simp) ?_
 have hcl:(XQ x).cells.toList=[.int .i32 x.k.t,.int .i64 x.k.r,.int .i64 x.v,.int .i64 x.s]:=rfl
 obtain ⟨H,hH⟩:∃ H,H=h.push (.row [.int .i32 x.k.t,.int .i64 x.k.r,.int .i64 x.v,.int .i64 x.s] 0 false):=⟨_,rfl⟩
 have hE:Ext h H:=by rw[hH];exact Ext.push1 _ _
 have gH:H.get h.next=some (.row [.int .i32 x.k.t,.int .i64 x.k.r,.int .i64 x.v,.int .i64 x.s] 0 false):=by rw[hH];exact Zz _ _
 have hHn:h.next<H.next:=by rw[hH];exact Nat.lt_succ_self _
 have lk:Zx H h.next 0 2=some (Zq x.k):=by
  rw[Zw gH (Nat.le_of_ble_eq_true rfl)]
  rfl
 have lx:∀ K,Ext H K→Zx K h.next 0 4=some (XQ x):=fun K e=>by
  rw[Zw ((e.get _ hHn).trans gH) (Nat.le_of_ble_eq_true rfl)]
  rfl
 have hbH:=hb.ext hE
 simp -implicitDefEqProofs (disch:=first|omega|simp only[go_sem]) only[go_sem,true_and,c9,hcl,← hH,lk]
 refine YV (H7b hbH (by omega)) ?_
 have hp:=K2b m x.k
 have hins:=O0b (x:=x) (m:=m)
 obtain ⟨j,hj⟩:∃ j,r1a m x.k=j:=⟨_,rfl⟩
 obtain ⟨is,his⟩:∃ is,O4a m x.k=is:=⟨_,rfl⟩
 have hat:=q5b (m:=m) (k:=x.k)
 rw[hj]at hp hins
 rw[his]at hins hat
 rw[hj,his]
 simp -implicitDefEqProofs (disch:=first|omega|simp only[go_sem]) only[go_sem,true_and]
 refine NC.mono (h6b hbH hx lx hp (by omega) vz vz vz vz) ?_
 rintro e ⟨fr1,df1,K3,rd1⟩ hM
 cases e <;> try exact hM.elim
 obtain ⟨rfl,rfl,⟨w,q7,mw⟩,q0,q5,q6⟩:=hM
 simp only at q7 mw
 have Q0:fr1 0=some v:=q0.trans vz
 have Q5:fr1 5=some (.int .i64 (j:Nat)):=q5.trans vz
 have Q6:fr1 6=some (.bool is):=q6.trans vz
 have hr3:Arg fCell.rep K3 v m:=hbH.ext mw.ext
 have fin:∀ (n:Nat),n≤m.length→XU Cell.k x m=m.take j++x :: m.drop n →
  ∃ u wh K4,XZ Tryz.prog 29 v (some (.int .i64 (n:Nat))) none none K3=some u∧o0a Tryz.prog #[29,29] w u K3=some (wh,K4)∧Made fCell h K4 wh (XU Cell.k x m):=fun n hn he=>by
  obtain ⟨u,b1,b2⟩:=hr3.slice (P:=Tryz.prog) (t:=29) x4a (by decide) (lo:=some (.int .i64 (n:Nat))) (hi:=none) (i:=n) (j:=m.length) rfl (B0a (k:=.i64) hn) hn (Nat.le_refl _)
  rw[List.take_length]at b2
  obtain ⟨wh,K4,e4,m4,_⟩:=mw.append T6a b2 (by simp;omega) (by decide)
  refine ⟨u,wh,K4,b1,e4,?_⟩
  have:m.take j++[x]++m.drop n=XU Cell.k x m:=by rw[he];simp
  rw[← this]
  exact m4.base hE
 cases is with
 | true=>
   obtain ⟨hjl,_⟩:=hat.1 rfl
   have hjl:j<m.length:=by omega
   have hw2:=ZV hjl (by omega)
   obtain ⟨u,wh,K4,s1,s2,s3⟩:=fin (j+1) hjl (by simpa using hins)
   simp -implicitDefEqProofs (disch:=first|omega|simp only[go_sem]) only[go_sem,true_and,Q6,Q5,Q0,q7,hw2,s1,s2]
   exact ⟨_,rfl,_,rfl,s3⟩
 | false=>
   obtain ⟨u,wh,K4,s1,s2,s3⟩:=fin j hp (by simpa using hins)
   simp -implicitDefEqProofs (disch:=first|omega|simp only[go_sem]) only[go_sem,true_and,Q6,Q5,Q0,q7,s1,s2]
   exact ⟨_,rfl,_,rfl,s3⟩
def EinV (L:List Value) (K0:DHeap) (a b:List Cell) (k:Nat) (h:DHeap) (v:Value):Prop:=
 ((k≠4∧k≠9∧k≠10)→v=L.getD k undef)∧(k=4→Made fCell K0 h v a)∧(k=9∨k=10→Made fCell K0 h v (a++b))
theorem EinV.stab {L:List Value} {K0 h h':DHeap} {a b:List Cell} {k:Nat} {v:Value} (e:Ext h h') (x:EinV L K0 a b k h v):EinV L K0 a b k h' v:=
 ⟨x.1,fun hk=>(x.2.1 hk).on e,fun hk=>(x.2.2 hk).on e⟩
def w7b:Nat→Option Nat
 | 4=>some 9
 | _=>none
theorem c1c {L:List Value} {K0 h h':DHeap} {a b:List Cell} {B:List Nat} {k:Nat} {v:Value} (b1:(B.getD 10 0).testBit 9=true) (h1:k≠9) (h2:(B.getD k 0).testBit 9=false) (h3:∀ c,w7b k=some c→c≠9∧(B.getD 9 0).testBit c=false) (x:EinV L K0 a b k h v):EinV L K0 a b k h' v:=by
 have n4:k≠4:=fun e=>by subst e;exact (h3 9 rfl).1 rfl
 have n8:¬ (k=9∨k=10):=fun e=>by
  rcases e with rfl | rfl
  ·exact h1 rfl
  ·rw[b1]at h2;cases h2
 exact ⟨x.1,fun e=>absurd e n4,fun e=>absurd e n8⟩
set_option maxHeartbeats 1000000 in
theorem u6b {K0:DHeap} {rv:Value} {r:List Cell} {j:Nat} {fr:Fr} {rd:Option Nat} (hr:Arg fCell.rep K0 rv r) (hj:j<r.length) (hlr:r.length≤4000000000)
 (f0:fr 0=some rv) (f5:fr 5=some (.int .i64 (j:Nat))) (f7:fr 7=some (.slice none 0 0)) :
 NC Tryz.prog 27 E0e (WZ (fun s=>s.df=[]∧s.rd=rd∧(∃ w,s.fr 4=some w∧Made fCell K0 s.h w (r.take j++r.drop (j+1)))) (fun _ _=>False)) ⟨fr,[],K0,rd⟩:=by
 obtain ⟨u3,a1,a2⟩:=hr.slice (P:=Tryz.prog) (t:=29) x4a (by decide) (lo:=none) (hi:=some (.int .i64 (j:Nat))) (i:=0) (j:=j) (B0a (k:=.i64) (by omega)) rfl (Nat.zero_le _) (by omega)
 rw[List.drop_zero]at a2
 have sl3:∀ K,Ext K0 K→XZ Tryz.prog 29 rv none (some (.int .i64 (j:Nat))) none K=some u3:=fun K e=>(q3a hr e).trans a1
 have sl3':∀ K,Ext K0 K→Arg fCell.rep K u3 (r.take j):=fun K e=>a2.ext e
 obtain ⟨u8,b1,b2⟩:=hr.slice (P:=Tryz.prog) (t:=29) x4a (by decide) (lo:=some (.int .i64 ((j+1:Nat):Int))) (hi:=none) (i:=j+1) (j:=r.length) rfl (B0a (k:=.i64) (by omega)) (by omega) (Nat.le_refl _)
 rw[List.take_length]at b2
 have sl8:∀ K,Ext K0 K→XZ Tryz.prog 29 rv (some (.int .i64 ((j+1:Nat):Int))) none none K=some u8:=fun K e=>(q3a hr e).trans b1
 have sl8':∀ K,Ext K0 K→Arg fCell.rep K u8 (r.drop (j+1)):=fun K e=>b2.ext e
 have hw:=ZV hj (by omega)
 obtain ⟨L,hL⟩:∃ L:List Value,L=[.slice none 0 0,rv,.int .i64 (j:Nat),u3,undef,rv,.int .i64 (j:Nat),.int .i64 ((j+1:Nat):Int),u8,undef,undef]:=⟨_,rfl⟩
 have V0:∀ (k:Nat),(k≠4∧k≠9∧k≠10)→∀ h v,v=L.getD k undef→EinV L K0 (r.take j) (r.drop (j+1)) k h v:=fun k hk h v hv=>
  ⟨fun _=>hv,fun e=>absurd e hk.1,fun e=>by rcases e with e | e;exact absurd e hk.2.1;exact absurd e hk.2.2⟩
 refine NC.regsC (l:=Y2a) (by kernel_rfl) (by kernel_rfl) (by kernel_rfl) rfl (by kernel_rfl) (by kernel_rfl) (fun a b=>Ext K0 a→Ext K0 b) (fun _ h=>h) (fun _ _ _ f g h=>g (f h)) (EinV L K0 (r.take j) (r.drop (j+1))) w7b ?_ ?_
 case refine_2=>
  rintro ⟨fr1,df1,K,rd1⟩ g hF
  obtain ⟨w,e1,e2⟩:=(hF 10 (by decide) rfl).ex (d:=4) rfl
  exact ⟨g.df,g.rd,⟨w,e1,e2.2.2 (.inr rfl)⟩⟩
 intro k oo s ho g hpre hown hF
 have gx:Ext K0 s.h:=g.ext (.refl _)
 have F0:s.fr 0=some rv:=(g.fr 0 (by kernel_rfl)).trans f0
 have F5:s.fr 5=some (.int .i64 (j:Nat)):=(g.fr 5 (by kernel_rfl)).trans f5
 have F7:s.fr 7=some (.slice none 0 0):=(g.fr 7 (by kernel_rfl)).trans f7
 have hk':k<11:=(List.getElem?_eq_some_iff.1 ho).1
 have one:∀ {i d:Nat} {v:Value},RegAt Y2a (EinV L K0 (r.take j) (r.drop (j+1))) i s→YQ Y2a i=some d→(i≠4∧i≠9∧i≠10)→L.getD i undef=v→s.fr d=some v:=fun R hd hn hv=>R.eq hd fun _ _ e=>(e.1 hn).trans hv
 match k,hk' with
 | 0,_=>
   simp only[Y2a,List.getElem?_cons_zero,List.getElem?_cons_succ,Option.some.injEq]at ho
   subst ho
   exact i0a (v:=.slice none 0 0) (fun _ e=>e) vz (vy F7) (V0 0 (by decide) _ _ (by rw[hL];rfl))
 | 1,_=>
   simp only[Y2a,List.getElem?_cons_zero,List.getElem?_cons_succ,Option.some.injEq]at ho
   subst ho
   exact i0a (v:=rv) (fun _ e=>e) vz (vy F0) (V0 1 (by decide) _ _ (by rw[hL];rfl))
 | 2,_=>
   simp only[Y2a,List.getElem?_cons_zero,List.getElem?_cons_succ,Option.some.injEq]at ho
   subst ho
   exact i0a (v:=.int .i64 (j:Nat)) (fun _ e=>e) vz (vy F5) (V0 2 (by decide) _ _ (by rw[hL];rfl))
 | 3,_=>
   simp only[Y2a,List.getElem?_cons_zero,List.getElem?_cons_succ,Option.some.injEq]at ho
   subst ho
   have q1:s.fr 18=some rv:=one (hF 1 (by kernel_rfl) (.inl rfl)) rfl (by decide) (by rw[hL];rfl)
   have q2:s.fr 19=some (.int .i64 (j:Nat)):=one (hF 2 (by kernel_rfl) (.inl rfl)) rfl (by decide) (by rw[hL];rfl)
   exact i0a (v:=u3) (fun _ e=>e) vz (by simp -implicitDefEqProofs (disch:=first|omega|simp only[go_sem]) only[go_sem,true_and,q1,q2,sl3 s.h gx]) (V0 3 (by decide) _ _ (by rw[hL];rfl))
 | 4,_=>
   simp only[Y2a,List.getElem?_cons_zero,List.getElem?_cons_succ,Option.some.injEq]at ho
   subst ho
   have q0:s.fr 17=some (.slice none 0 0):=one (hF 0 (by kernel_rfl) (.inl rfl)) rfl (by decide) (by rw[hL];rfl)
   have q3:s.fr 20=some u3:=one (hF 3 (by kernel_rfl) (.inl rfl)) rfl (by decide) (by rw[hL];rfl)
   obtain ⟨w,h2,e2,m2,_⟩:=(Made.nil fCell (Ext.refl s.h)).append T6a (x:=u3) (sl3' s.h gx) (by simp;omega) (by decide)
   refine k3a (h':=h2) (v:=w) vz (by simp -implicitDefEqProofs (disch:=first|omega|simp only[go_sem]) only[go_sem,true_and,q0,q3,e2]) (fun e=>e.trans m2.ext) ⟨fun h=>absurd rfl h.1,fun _=>by simpa using m2.base gx,fun h=>absurd h (by decide)⟩ (fun j u _ _ _ hV=>hV.stab m2.ext)
 | 5,_=>
   simp only[Y2a,List.getElem?_cons_zero,List.getElem?_cons_succ,Option.some.injEq]at ho
   subst ho
   exact i0a (v:=rv) (fun _ e=>e) vz (vy F0) (V0 5 (by decide) _ _ (by rw[hL];rfl))
 | 6,_=>
   simp only[Y2a,List.getElem?_cons_zero,List.getElem?_cons_succ,Option.some.injEq]at ho
   subst ho
   exact i0a (v:=.int .i64 (j:Nat)) (fun _ e=>e) vz (vy F5) (V0 6 (by decide) _ _ (by rw[hL];rfl))
 | 7,_=>
   simp only[Y2a,List.getElem?_cons_zero,List.getElem?_cons_succ,Option.some.injEq]at ho
   subst ho
   have q6:s.fr 23=some (.int .i64 (j:Nat)):=one (hF 6 (by kernel_rfl) (.inl rfl)) rfl (by decide) (by rw[hL];rfl)
   exact i0a (v:=.int .i64 ((j+1:Nat):Int)) (fun _ e=>e) vz (by simp -implicitDefEqProofs (disch:=first|omega|simp only[go_sem]) only[go_sem,true_and,q6,hw]) (V0 7 (by decide) _ _ (by rw[hL];rfl))
 | 8,_=>
   simp only[Y2a,List.getElem?_cons_zero,List.getElem?_cons_succ,Option.some.injEq]at ho
   subst ho
   have q5:s.fr 22=some rv:=one (hF 5 (by kernel_rfl) (.inl rfl)) rfl (by decide) (by rw[hL];rfl)
   have q7:s.fr 24=some (.int .i64 ((j+1:Nat):Int)):=one (hF 7 (by kernel_rfl) (.inl rfl)) rfl (by decide) (by rw[hL];rfl)
   exact i0a (v:=u8) (fun _ e=>e) vz (by simp -implicitDefEqProofs (disch:=first|omega|simp only[go_sem]) only[go_sem,true_and,q5,q7,sl8 s.h gx]) (V0 8 (by decide) _ _ (by rw[hL];rfl))
 | 9,_=>
   simp only[Y2a,List.getElem?_cons_zero,List.getElem?_cons_succ,Option.some.injEq]at ho
   subst ho
   obtain ⟨w4,q4,v4⟩:=(hF 4 (by kernel_rfl) (.inr rfl)).ex (d:=21) rfl
   have q8:s.fr 25=some u8:=one (hF 8 (by kernel_rfl) (.inl rfl)) rfl (by decide) (by rw[hL];rfl)
   obtain ⟨w,h2,e2,m2,_⟩:=(v4.2.1 rfl).append T6a (sl8' s.h gx) (by simp;omega) (by decide)
   refine k3a (h':=h2) (v:=w) vz (by simp -implicitDefEqProofs (disch:=first|omega|simp only[go_sem]) only[go_sem,true_and,q4,q8,e2]) (fun _=>m2.ext) ⟨fun h=>absurd rfl h.2.1,fun h=>absurd h (by decide),fun _=>m2⟩ (fun j u h1 h2 h3 hV=>c1c (by kernel_rfl) h1 h2 h3 hV)
 | 10,_=>
   simp only[Y2a,List.getElem?_cons_zero,List.getElem?_cons_succ,Option.some.injEq]at ho
   subst ho
   obtain ⟨w10,q10,v10⟩:=(hF 9 (by kernel_rfl) (.inl rfl)).ex (d:=26) rfl
   exact i0a (v:=w10) (fun _ e=>e) vz (vy q10) ⟨fun h=>absurd rfl h.2.2,fun h=>absurd h (by decide),fun _=>v10.2.2 (.inl rfl)⟩
theorem t9b {h:DHeap} {v:Value} {m:List Cell} {k:Key} (hb:Arg fCell.rep h v m) (hl:m.length≤4000000000) :
 Ct Tryz.prog 38 [v,Zq k] h fun r h1=>∃ w,r=.ret w∧Ext h h1∧Arg fCell.rep h1 w (z4a k m):=by
 refine Z8d (by simp) ?_
 have hcl:(Zq k).cells.toList=[.int .i32 k.t,.int .i64 k.r]:=rfl
 obtain ⟨H,hH⟩:∃ H,H=h.push (.row [.int .i32 k.t,.int .i64 k.r] 0 false):=⟨_,rfl⟩
 have hE:Ext h H:=by rw[hH];exact Ext.push1 _ _
 have lk:Zx H h.next 0 2=some (Zq k):=by
  rw[hH,Zw (Zz _ _) (Nat.le_of_ble_eq_true rfl)]
  rfl
 have hbH:=hb.ext hE
 simp -implicitDefEqProofs (disch:=first|omega|simp only[go_sem]) only[go_sem,true_and,c38,hcl,← hH,lk]
 refine YV (H7b hbH (by omega)) ?_
 have her:=A7a (k:=k) (m:=m)
 have hat:=q5b (m:=m) (k:=k)
 obtain ⟨j,hj⟩:∃ j,r1a m k=j:=⟨_,rfl⟩
 obtain ⟨is,his⟩:∃ is,O4a m k=is:=⟨_,rfl⟩
 rw[hj]at her
 rw[his]at her hat
 rw[hj,his]
 cases is with
 | false=>
   simp -implicitDefEqProofs (disch:=first|omega|simp only[go_sem]) only[go_sem,true_and]
   exact ⟨_,rfl,_,rfl,hE,by rw[her];exact hbH⟩
 | true=>
   obtain ⟨hjl,_⟩:=hat.1 rfl
   have hjl:j<m.length:=by omega
   simp -implicitDefEqProofs (disch:=first|omega|simp only[go_sem]) only[go_sem,true_and]
   refine NC.mono (u6b hbH hjl hl vz vz vz) ?_
   rintro e ⟨fr1,df1,K3,rd1⟩ hM
   cases e <;> try exact hM.elim
   obtain ⟨rfl,rfl,w,q4,mw⟩:=hM
   simp only at q4 mw
   simp -implicitDefEqProofs (disch:=first|omega|simp only[go_sem]) only[go_sem,true_and,q4]
   exact ⟨_,rfl,_,rfl,hE.trans mw.ext,by rw[her,if_pos rfl];exact mw.arg⟩
theorem K9b {m:List Cell} {keys:List Key} {i:Nat} (hi:i<m.length):P1a (m.take (i+1)) keys=P1a (m.take i) keys++if m[i].k∈keys then [⟨m[i].k,m[i].v⟩] else []:=by
 unfold P1a
 rw[List.take_succ_eq_append_getElem hi,List.filterMap_append]
 congr 1
 by_cases h:m[i].k∈keys
 ·simp[h]
 ·simp[h]
theorem V3c {S:Nat→Prop} {h:DHeap} {id o:Nat} {x:Cell} (a:At fCell.rep S h id o x):Zu h id (o+2)=some (.int .i64 x.v):=a.flat.1 2 (Nat.le_of_ble_eq_true rfl)
theorem x1d {h:DHeap} {a:Value} {l:List Key} {k:Key} (hb:Arg fKey.rep h a l) (hl:l.length≤4294967296) :
 DC Tryz.prog 61 [a,Zq k] h (.ret (.bool (decide (k∈l)))) h:=by
 refine Ct.pure (q9d (by simp) ?_) (n0a _)
 have el:∀ K,dLen Tryz.prog #[24] a K=some (.int .i64 (l.length:Nat)):=hb.lens (P:=Tryz.prog) (ts:=#[24]) (t:=24) rfl D1a
 obtain ⟨K,hK⟩:∃ K,K=h.push (.row [.int .i32 k.t,.int .i64 k.r] 0 false):=⟨_,rfl⟩
 have hE:Ext h K:=by rw[hK];exact Ext.push1 _ _
 have gk:K.get h.next=some (.row [.int .i32 k.t,.int .i64 k.r] 0 false):=by rw[hK];exact Zz _ _
 have lk:Zx K h.next 0 2=some (Zq k):=by rw[Zw gk (Nat.le_of_ble_eq_true rfl)];rfl
 have hcl:(Zq k).cells.toList=[.int .i32 k.t,.int .i64 k.r]:=rfl
 simp -implicitDefEqProofs (disch:=first|omega|simp only[go_sem]) only[go_sem,true_and,c61,hcl,← hK]
 refine Xu (σ:=Nat) (by kernel_rfl) (fun i s=>s.df=[]∧s.rd=none∧s.h=K∧s.fr 0=some a∧s.fr 3=some (.pointer (some ⟨h.next,0,none⟩))∧s.fr 5=some (.int .i64 (i:Nat))∧i≤l.length∧k∉l.take i) (fun i=>l.length - i) 0 ?_ ?_
 ·simp -implicitDefEqProofs (disch:=first|omega|simp only[go_sem]) only[go_sem,true_and]
  exact ⟨by trivial,Nat.zero_le _,by simp⟩
 rintro i ⟨fr,df,hh,rd⟩ K' hK' hX ⟨rfl,rfl,rfl,f0,f3,f5,hi,hni⟩
 simp only at f0 f3 f5
 simp -implicitDefEqProofs (disch:=first|omega|simp only[go_sem]) only[go_sem,true_and,f0,f5,el]
 refine YX (fun hc1=>?_) (fun hc1=>?_)
 ·have hj:i<l.length:=by omega
  obtain ⟨id1,o1,e1,_,hat1⟩:=(hb.ext hE).idx (P:=Tryz.prog) (t:=24) C2a (k:=.i64) (i:=i) (x:=l[i]) (by simp)
  have l1:Zx hh id1 o1 2=some (Zq l[i]):=hat1.flat.2.1
  have hw:=ZV hj (by omega)
  simp -implicitDefEqProofs (disch:=first|omega|simp only[go_sem]) only[go_sem,true_and]
  refine Y2d rfl ?_
  simp -implicitDefEqProofs (disch:=first|omega|simp only[go_sem]) only[go_sem,true_and,Y6c,a9c,f0,f3,f5,lk,e1,l1,k1a]
  by_cases he:l[i]=k
  ·simp -implicitDefEqProofs (disch:=first|omega|simp only[go_sem]) only[go_sem,true_and,he]
   refine hX _ _ (by simp) ?_
   simp -implicitDefEqProofs (disch:=first|omega|simp only[go_sem]) only[go_sem,true_and]
   have hm:k∈l:=by rw[← he];exact List.getElem_mem hj
   exact ⟨_,rfl,by rw[decide_eq_true hm],hE⟩
  ·simp -implicitDefEqProofs (disch:=first|omega|simp only[go_sem]) only[go_sem,true_and,he,f5,hw]
   refine hK' (i+1) _ ?_ (by omega)
   exact ⟨rfl,rfl,rfl,(vy f0),(vy f3),vz,by omega,T7a hj hni he⟩
 obtain rfl:i=l.length:=by omega
 refine hX _ _ (by simp) ?_
 simp -implicitDefEqProofs (disch:=first|omega|simp only[go_sem]) only[go_sem,true_and]
 rw[List.take_length]at hni
 exact ⟨_,rfl,by rw[decide_eq_false hni],hE⟩
theorem X5c {h:DHeap} {v u:Value} {m:List Cell} {l:List Key} (hb:Arg fCell.rep h v m) (hk:Arg fKey.rep h u l) (hl:m.length≤1048576) (hkl:l.length≤1048576) :
 Ct Tryz.prog 37 [v,u] h fun r h1=>∃ w,r=.ret w∧Made fPair h h1 w (P1a m l):=by
 refine Y8d (by simp) ?_
 have el:∀ K,dLen Tryz.prog #[29] v K=some (.int .i64 (m.length:Nat)):=hb.lens (P:=Tryz.prog) (ts:=#[29]) (t:=29) rfl f6a
 simp -implicitDefEqProofs (disch:=first|omega|simp only[go_sem]) only[go_sem,true_and,c37]
 refine Xu (σ:=Nat) (by kernel_rfl) (fun i s=>s.df=[]∧s.rd=none∧s.fr 0=some v∧s.fr 1=some u∧s.fr 6=some (.int .i64 (i:Nat))∧i≤m.length∧∃ w,s.fr 5=some w∧Made fPair h s.h w (P1a (m.take i) l)) (fun i=>m.length - i) 0 ?_ ?_
 ·simp -implicitDefEqProofs (disch:=first|omega|simp only[go_sem]) only[go_sem,true_and]
  exact ⟨by trivial,Nat.zero_le _,_,rfl,.nil fPair (.refl h)⟩
 rintro i ⟨fr,df,K,rd⟩ K' hK' hX ⟨rfl,rfl,f0,f1,f6,hi,w,f5,mw⟩
 simp only at f0 f1 f6 f5 mw
 have hlen:(P1a (m.take i) l).length≤1048576:=Nat.le_trans X2b (by simp;omega)
 simp -implicitDefEqProofs (disch:=first|omega|simp only[go_sem]) only[go_sem,true_and,f0,f6,el]
 refine YX (fun hc1=>?_) (fun hc1=>?_)
 ·have hj:i<m.length:=by omega
  have hw:=ZV hj (by omega)
  obtain ⟨id1,o1,g1,hid1,hat1⟩:=(hb.ext mw.ext).idx (P:=Tryz.prog) (t:=29) x4a (k:=.i64) (i:=i) (x:=m[i]) (by simp)
  have a1:Zx K id1 o1 2=some (Zq m[i].k):=l4b hat1
  have a2:Zu K id1 (o1+2)=some (.int .i64 m[i].v):=V3c hat1
  have hok:fCell.ok m[i]:=hb.ok _ (List.getElem_mem hj)
  have htake:=K9b (keys:=l) hj
  simp -implicitDefEqProofs (disch:=first|omega|simp only[go_sem]) only[go_sem,true_and,f0,f1,f6,g1,a1]
  refine YV (x1d (hk.ext mw.ext) (by omega)) ?_
  by_cases hm:m[i].k∈l
  ·rw[if_pos hm]at htake
   have hd:=decide_eq_true hm
   obtain ⟨w2,K2,s1,m2⟩:=mw.snoc U5a (cs:=[.int .i32 m[i].k.t,.int .i64 m[i].k.r,.int .i64 m[i].v]) (y:=⟨m[i].k,m[i].v⟩) rfl (z:=3) rfl ⟨hok.1,hok.2.1⟩ (by omega) (by decide)
   simp -implicitDefEqProofs (disch:=first|omega|simp only[go_sem]) only[go_sem,true_and,hd]
   refine H2d rfl ?_
   simp -implicitDefEqProofs (disch:=first|omega|simp only[go_sem]) only[go_sem,true_and,K6c,M8c,f0,f5,f6,g1,a1,a2,P9a,s1,hw]
   refine hK' (i+1) _ ?_ (by omega)
   exact ⟨by trivial,by trivial,(vy f0),(vy f1),vz,by omega,w2,vz,by rw[htake];exact m2⟩
  ·rw[if_neg hm,List.append_nil]at htake
   have hd:=decide_eq_false hm
   simp -implicitDefEqProofs (disch:=first|omega|simp only[go_sem]) only[go_sem,true_and,hd,f6,hw]
   refine hK' (i+1) _ ?_ (by omega)
   exact ⟨by trivial,by trivial,(vy f0),(vy f1),vz,by omega,w,(vy f5),by rw[htake];exact mw⟩
 obtain rfl:i=m.length:=by omega
 rw[List.take_length]at mw
 refine hX _ _ (by simp) ?_
 simp -implicitDefEqProofs (disch:=first|omega|simp only[go_sem]) only[go_sem,true_and,f5]
 exact ⟨_,rfl,_,rfl,mw⟩
theorem N6b {h:DHeap} {x:Res} {v w:Value} (ha:Arg fI64.rep h v x.vs) (hb:Arg fI64.rep h w x.vs) (hl:x.vs.length≤4294967296) :
 DC Tryz.prog 13 [W1a x v,W1a x w] h (.ret (.bool true)) h:=by
 refine Ct.pure (O8d (by simp) ?_) (n0a _)
 have c1:(W1a x v).cells.toList=[.int .i64 x.e,v,.int .i64 x.s,.int .i64 x.p]:=rfl
 have c2:(W1a x w).cells.toList=[.int .i64 x.e,w,.int .i64 x.s,.int .i64 x.p]:=rfl
 obtain ⟨H,hH⟩:∃ H,H=(h.push (.row [.int .i64 x.e,v,.int .i64 x.s,.int .i64 x.p] 0 false)).push (.row [.int .i64 x.e,w,.int .i64 x.s,.int .i64 x.p] 0 false):=⟨_,rfl⟩
 have hE:Ext h H:=by rw[hH];exact (Ext.push1 _ _).push _
 have g1:H.get h.next=some (.row [.int .i64 x.e,v,.int .i64 x.s,.int .i64 x.p] 0 false):=by rw[hH];exact c3a
 have g2:H.get (h.next+1)=some (.row [.int .i64 x.e,w,.int .i64 x.s,.int .i64 x.p] 0 false):=by rw[hH];exact Zz _ _
 have e1:∀ K,dLen Tryz.prog #[23] v K=some (.int .i64 (x.vs.length:Nat)):=ha.lens (P:=Tryz.prog) (ts:=#[23]) (t:=23) rfl D4a
 have e2:∀ K,dLen Tryz.prog #[23] w K=some (.int .i64 (x.vs.length:Nat)):=hb.lens (P:=Tryz.prog) (ts:=#[23]) (t:=23) rfl D4a
 simp -implicitDefEqProofs (disch:=first|omega|simp only[go_sem]) only[go_sem,true_and,c13,c1,c2,g0a,← hH,Zy g1,Zy g2,e1,e2,Zj,ZY,Bool.not_true]
 refine Xu (σ:=Nat) (by kernel_rfl) (fun i s=>s.df=[]∧s.rd=none∧s.h=H∧s.fr 2=some (.pointer (some ⟨h.next,0,none⟩))∧s.fr 3=some (.pointer (some ⟨h.next+1,0,none⟩))∧s.fr 5=some (.int .i64 (i:Nat))∧i≤x.vs.length) (fun i=>x.vs.length - i) 0 ?_ ?_
 ·simp -implicitDefEqProofs (disch:=first|omega|simp only[go_sem]) only[go_sem,true_and]
  exact ⟨by trivial,Nat.zero_le _⟩
 rintro i ⟨fr,df,K,rd⟩ K' hK' hX ⟨hdf,hrd,hK,f2,f3,f5,hi⟩
 simp only at hdf hrd hK f2 f3 f5
 subst hdf hrd hK
 simp -implicitDefEqProofs (disch:=first|omega|simp only[go_sem]) only[go_sem,true_and,f2,f5,Zy g1,e1]
 refine YX (fun hc1=>?_) (fun hc1=>?_)
 ·have hj:i<x.vs.length:=by omega
  have hw:=ZV hj (by omega)
  obtain ⟨id1,o1,i1,_,hat1⟩:=(ha.ext hE).idx (P:=Tryz.prog) (t:=23) X8a (k:=.i64) (i:=i) (x:=x.vs[i]) (by simp)
  obtain ⟨id2,o2,i2,_,hat2⟩:=(hb.ext hE).idx (P:=Tryz.prog) (t:=23) X8a (k:=.i64) (i:=i) (x:=x.vs[i]) (by simp)
  have l1:=hat1.int
  have l2:=hat2.int
  simp -implicitDefEqProofs (disch:=first|omega|simp only[go_sem]) only[go_sem,true_and]
  refine v2d rfl ?_
  simp -implicitDefEqProofs (disch:=first|omega|simp only[go_sem]) only[go_sem,true_and,y6c,A8c,f2,f3,f5,Zy g1,Zy g2,i1,i2,l1,l2,hw]
  refine hK' (i+1) _ ?_ (by omega)
  exact ⟨by trivial,by trivial,by trivial,(vy f2),(vy f3),vz,by omega⟩
 refine hX _ _ (by simp) ?_
 simp -implicitDefEqProofs (disch:=first|omega|simp only[go_sem]) only[go_sem,true_and]
 exact ⟨_,rfl,rfl,hE⟩
theorem w3b {h:DHeap} {v w:Value} {m:List Cell} (ha:Arg fCell.rep h v m) (hb:Arg fCell.rep h w m) (hl:m.length≤4294967296) :
 DC Tryz.prog 14 [v,w] h (.ret (.bool true)) h:=by
 refine Ct.pure (P8d (by simp) ?_) (n0a _)
 have e1:∀ K,dLen Tryz.prog #[29] v K=some (.int .i64 (m.length:Nat)):=ha.lens (P:=Tryz.prog) (ts:=#[29]) (t:=29) rfl f6a
 have e2:∀ K,dLen Tryz.prog #[29] w K=some (.int .i64 (m.length:Nat)):=hb.lens (P:=Tryz.prog) (ts:=#[29]) (t:=29) rfl f6a
 simp -implicitDefEqProofs (disch:=first|omega|simp only[go_sem]) only[go_sem,true_and,c14,e1,e2,Bool.not_true]
 refine Xu (σ:=Nat) (by kernel_rfl) (fun i s=>s.df=[]∧s.rd=none∧s.h=h∧s.fr 0=some v∧s.fr 1=some w∧s.fr 5=some (.int .i64 (i:Nat))∧i≤m.length) (fun i=>m.length - i) 0 ?_ ?_
 ·simp -implicitDefEqProofs (disch:=first|omega|simp only[go_sem]) only[go_sem,true_and]
  exact ⟨by trivial,Nat.zero_le _⟩
 rintro i ⟨fr,df,K,rd⟩ K' hK' hX ⟨hdf,hrd,hK,f0,f1,f5,hi⟩
 simp only at hdf hrd hK f0 f1 f5
 subst hdf hrd hK
 simp -implicitDefEqProofs (disch:=first|omega|simp only[go_sem]) only[go_sem,true_and,f0,f5,e1]
 refine YX (fun hc1=>?_) (fun hc1=>?_)
 ·have hj:i<m.length:=by omega
  have hw:=ZV hj (by omega)
  obtain ⟨id1,o1,i1,_,hat1⟩:=ha.idx (P:=Tryz.prog) (t:=29) x4a (k:=.i64) (i:=i) (x:=m[i]) (by simp)
  obtain ⟨id2,o2,i2,_,hat2⟩:=hb.idx (P:=Tryz.prog) (t:=29) x4a (k:=.i64) (i:=i) (x:=m[i]) (by simp)
  have l1:Zx K id1 o1 4=some (XQ m[i]):=hat1.flat.2.1
  have l2:Zx K id2 o2 4=some (XQ m[i]):=hat2.flat.2.1
  have hd:decide (m[i]=m[i])=true:=by simp
  simp -implicitDefEqProofs (disch:=first|omega|simp only[go_sem]) only[go_sem,true_and]
  refine w2d rfl ?_
  simp -implicitDefEqProofs (disch:=first|omega|simp only[go_sem]) only[go_sem,true_and,z6c,B8c,f0,f1,f5,i1,i2,l1,l2,H3c,hd,Bool.not_true,hw]
  refine hK' (i+1) _ ?_ (by omega)
  exact ⟨by trivial,by trivial,by trivial,(vy f0),(vy f1),vz,by omega⟩
 refine hX _ _ (by simp) ?_
 simp -implicitDefEqProofs (disch:=first|omega|simp only[go_sem]) only[go_sem,true_and]
 exact ⟨_,rfl,rfl,.refl _⟩
theorem _root_.Go.D.MapAt.len {P:Program} {κ:Type} {enc:κ→Value} {t:TypeId} {kt et:TypeId} {h:DHeap} {id:Nat} {m:List (κ × Value)} (hu:P.underlying t=some (.map kt et)) (a:MapAt enc h id m):dLen P #[t] (.map (some id)) h=some (.int .i64 (m.length:Nat)):=by
 obtain ⟨es,c,g,q1,_⟩:=a
 have:es.length=m.length:=by
  have:=congrArg List.length q1
  simpa using this
 unfold dLen
 simp only[List.getElem?_toArray,List.getElem?_cons_zero,hu,g,this]
 rfl
theorem i7b {K:DHeap} {x:Change}:∃ K1,Yw Tryz.prog 99 (.pointer (some ⟨K.next,0,none⟩)) (.agg #[.int .i32 x.k.t,.int .i64 x.k.r,.int .i64 x.v,.bool x.e]) (K.push (.row [.int .i32 0,.int .i64 0,.int .i64 0,.bool false] 0 false))=some K1∧Ext K K1∧K1.next=K.next+1∧(∀ M,M.get K.next=K1.get K.next→Zx M K.next 0 2=some (Zq x.k)∧Zu M K.next 2=some (.int .i64 x.v)∧Zu M K.next 3=some (.bool x.e)∧Zx M K.next 0 4=some (X0a x)):=by
 refine ⟨K.push (.row [.int .i32 x.k.t,.int .i64 x.k.r,.int .i64 x.v,.bool x.e] 0 false),(i9a rfl).trans (a0a rfl rfl),Ext.push1 _ _,rfl,fun M h=>?_⟩
 have g:M.get K.next=some (.row [.int .i32 x.k.t,.int .i64 x.k.r,.int .i64 x.v,.bool x.e] 0 false):=h.trans (Zz _ _)
 exact ⟨by rw[Zw g (Nat.le_of_ble_eq_true rfl)];rfl,Zy g,Zy g,by rw[Zw g (Nat.le_of_ble_eq_true rfl)];rfl⟩
theorem c4b {k:Key} {v s:Int}:XW Tryz.prog 33 [(0,Zq k),(1,.int .i64 v),(2,.int .i64 s)]=some (XQ ⟨k,v,s⟩):=l0a v6d rfl
theorem d4b {e s p:Int} {v:Value} (hv:v.cells=#[v]):XW Tryz.prog 36 [(0,.int .i64 e),(1,v),(2,.int .i64 s),(3,.int .i64 p)]=some (.agg #[.int .i64 e,v,.int .i64 s,.int .i64 p]):=by
 refine l0a w6d ?_
 simp only[B4a,hv]
 rfl
theorem M0b {α β:Type} {f:β→α→β} {l:List α} {i:Nat} {a:β} (hi:i<l.length):(l.take (i+1)).foldl f a=f ((l.take i).foldl f a) l[i]:=by
 rw[List.take_succ_eq_append_getElem hi,List.foldl_append]
 rfl
theorem X3c {slot:Int} {m:List Cell} {c:Change}:(o2a slot m c).length≤m.length+1:=by
 unfold o2a
 split
 ·rw[A7a]
  split
  ·have:=K2b m c.k
   simp
   omega
  ·omega
 ·exact n5b
theorem Q9a {slot:Int}:∀ {l:List Change} {m:List Cell},(l.foldl (o2a slot) m).length≤m.length+l.length
 | [],m=>Nat.le_refl _
 | c :: l,m=>by
   have h1:=Q9a (slot:=slot) (l:=l) (m:=o2a slot m c)
   have h2:=X3c (slot:=slot) (m:=m) (c:=c)
   rw[List.foldl_cons,List.length_cons]
   omega
theorem K4a {α:Type} {F:FRep α} {h:DHeap} {v:Value} {l:List α} {B:Nat} {cs:List Value} {o:DObj} (a:Arg F.rep h v l) (g:h.get B=some (.row cs 0 false)) (hz:F.z≠0):Arg F.rep (h.set B o) v l:=
 K5b (z:=0) a (fun i _ hn=>Zv _ _ fun e=>by subst e;exact hn _ g) hz
set_option maxHeartbeats 2000000 in
theorem y9b {h:DHeap} {t:Txn} {vc va vr vw v:Value} {m:List Cell} {slot at':Int} (x:TxV (InH h) h t vc va vr vw) (hT:P3a t) (hb:Arg fCell.rep h v m) (hl:m.length≤1048576) (hs:inK .i64 slot) :
 Ct Tryz.prog 11 [Ww t.ses t.req vc va vr vw,.int .i64 slot,.int .i64 at',v] h fun r h1=>∃ vv w,r=.ret (.tuple #[W1a (Wx t slot at' (byK Cell.k m)) vv,w])∧Ext h h1∧Arg fI64.rep h1 vv (Wx t slot at' (byK Cell.k m)).vs∧Arg fCell.rep h1 w (Z2a t slot (byK Cell.k m)):=by
 refine M8d (by simp) ?_
 have hcl:(Ww t.ses t.req vc va vr vw).cells.toList=[.int .i64 t.ses,.int .i64 t.req,vc,va,vr,vw]:=rfl
 have el:∀ K,dLen Tryz.prog #[29] v K=some (.int .i64 (m.length:Nat)):=hb.lens (P:=Tryz.prog) (ts:=#[29]) (t:=29) rfl f6a
 obtain ⟨H,hH⟩:∃ H,H=(h.push (.row [.int .i64 t.ses,.int .i64 t.req,vc,va,vr,vw] 0 false)).push (.row [.int .i64 0,.slice none 0 0,.int .i64 0,.int .i64 0] 0 false):=⟨_,rfl⟩
 have hE:Ext h H:=by rw[hH];exact (Ext.push1 _ _).push _
 have hHn:H.next=h.next+2:=by rw[hH];rfl
 have gH:H.get h.next=some (.row [.int .i64 t.ses,.int .i64 t.req,vc,va,vr,vw] 0 false):=by rw[hH];exact c3a
 have gR:H.get (h.next+1)=some (.row [.int .i64 0,.slice none 0 0,.int .i64 0,.int .i64 0] 0 false):=by rw[hH];exact Zz _ _
 have lt:∀ K,Ext H K→Zx K h.next 0 6=some (Ww t.ses t.req vc va vr vw):=fun K e=>by
  rw[Zw ((e.get _ (by omega)).trans gH) (Nat.le_of_ble_eq_true rfl)]
  rfl
 have lr:∀ K,Ext H K→Zu K h.next 4=some vr:=fun K e=>Zy ((e.get _ (by omega)).trans gH)
 simp -implicitDefEqProofs (disch:=first|omega|simp only[go_sem]) only[go_sem,true_and,c11,hcl,g0a,← hH]
 refine Xu (σ:=Nat) (by kernel_rfl) (fun i s=>s.df=[]∧s.rd=none∧s.fr 1=some (.int .i64 slot)∧s.fr 2=some (.int .i64 at')∧s.fr 3=some v∧s.fr 4=some (.pointer (some ⟨h.next,0,none⟩))∧s.fr 8=some (.pointer (some ⟨h.next+1,0,none⟩))∧s.fr 11=some (.int .i64 (i:Nat))∧i≤m.length∧Ext H s.h∧∃ w,s.fr 10=some w∧Arg fCell.rep s.h w (byK Cell.k (m.take i))) (fun i=>m.length - i) 0 ?_ ?_
 ·simp -implicitDefEqProofs (disch:=first|omega|simp only[go_sem]) only[go_sem,true_and]
  exact ⟨by trivial,Nat.zero_le _,.refl _,_,rfl,.nil _ _ _⟩
 rintro i ⟨fr,df,K,rd⟩ K' hK' hX ⟨rfl,rfl,f1,f2,f3,f4,f8,f11,hi,eK,w,f10,aw⟩
 simp only at f1 f2 f3 f4 f8 f11 eK f10 aw
 simp -implicitDefEqProofs (disch:=first|omega|simp only[go_sem]) only[go_sem,true_and,f3,f11,el]
 refine YX (fun hc1=>?_) (fun hc1=>?_)
 ·have hj:i<m.length:=by omega
  have hw:=ZV hj (by omega)
  obtain ⟨id1,o1,g1,hid1,hat1⟩:=(hb.ext (hE.trans eK)).idx (P:=Tryz.prog) (t:=29) x4a (k:=.i64) (i:=i) (x:=m[i]) (by simp)
  have a1:Zx K id1 o1 4=some (XQ m[i]):=hat1.flat.2.1
  have hn:=R1a (key:=Cell.k) (m.take i)
  have htl:(m.take i).length≤m.length:=by simp;omega
  simp -implicitDefEqProofs (disch:=first|omega|simp only[go_sem]) only[go_sem,true_and,f3,f10,f11,g1,a1]
  refine Yu (j0b aw (hb.ok _ (List.getElem_mem hj)) (by omega)) ?_
  rintro r K2 ⟨w2,rfl,m2⟩
  simp -implicitDefEqProofs (disch:=first|omega|simp only[go_sem]) only[go_sem,true_and,Xj,f11,hw]
  refine hK' (i+1) _ ?_ (by omega)
  exact ⟨by trivial,by trivial,(vy f1),(vy f2),(vy f3),(vy f4),(vy f8),vz,by omega,eK.trans m2.ext,w2,vz,by rw[u7a hj];exact m2.arg⟩
 obtain rfl:i=m.length:=by omega
 refine hX _ _ (by simp) ?_
 rw[List.take_length]at aw
 clear hK' hX K' f3 f11 hc1 hi
 have hup:=r2a (key:=Cell.k) m
 have hbl:=R1a (key:=Cell.k) m
 obtain ⟨M0,hM0⟩:∃ M0,byK Cell.k m=M0:=⟨_,rfl⟩
 rw[hM0]at aw hup hbl
 rw[hM0]
 obtain ⟨A,hA⟩:∃ A,K.push (.row [.int .i64 0,.slice none 0 0,.slice none 0 0,.int .i64 0] 0 false)=A:=⟨_,rfl⟩
 have eA:Ext K A:=hA▸Ext.push1 _ _
 have nA:A.next=K.next+1:=by rw[← hA];rfl
 have gA:A.get K.next=some (.row [.int .i64 0,.slice none 0 0,.slice none 0 0,.int .i64 0] 0 false):=by rw[← hA];exact Zz _ _
 have EA:=eK.trans eA
 have hKn:=eK.next
 simp -implicitDefEqProofs (disch:=first|omega|simp only[go_sem]) only[go_sem,true_and]
 refine t2d rfl ?_
 simp -implicitDefEqProofs (disch:=first|omega|simp only[go_sem]) only[go_sem,true_and,w6c,y8c]
 simp -implicitDefEqProofs (disch:=first|omega|simp only[go_sem]) only[go_sem,true_and,hA,f4,f10,lt A EA,lr A EA]
 refine B1a (X5c (aw.ext eA) ((x.r.ext hE).ext EA) (by omega) (by have:=hT.r;omega)) ?_
 rintro r B ⟨pv,rfl,mp⟩
 have EB:=EA.trans mp.ext
 have hBn:=mp.ext.next
 have gB:=(mp.ext.get _ (by omega)).trans gA
 simp -implicitDefEqProofs (disch:=first|omega|simp only[go_sem]) only[go_sem,true_and,Y3a,lt B EB,gB]
 refine B1a (N5c (x.ext (hE.trans EB)) hT mp.arg (Nat.le_trans X2b (by omega))) ?_
 have ho:q2a t (P1a M0 t.reads) 4096=H4a t M0:=rfl
 rw[ho]
 have hsm:=G4a (t:=t) (l:=P1a M0 t.reads) (f:=4096)
 rw[ho]at hsm
 obtain ⟨o,hoo⟩:∃ o,H4a t M0=o:=⟨_,rfl⟩
 have hR:Wx t slot at' M0=⟨o.e,o.vs,slot,at'⟩:=by unfold Wx;rw[hoo]
 have hC:Z2a t slot M0=if o.e=0 then o.ch.foldl (o2a slot) M0 else M0:=by unfold Z2a;rw[hoo]
 rw[hoo]at hsm
 rw[hoo,hR,hC]
 rintro r D ⟨vv,cv,rfl,mv,mc⟩
 have ED:=EB.trans mv.ext
 have hDn:=mv.ext.next
 have gD:=(mv.ext.get _ (by omega)).trans gB
 have hvv:=mv.sl.cells1
 have hone:[Value.int .i64 o.e,vv,cv,.int .i64 o.s].all Value.oneCell'=true:=by
  obtain ⟨_,_,rfl⟩:=mv.sl.isSlice
  obtain ⟨_,_,rfl⟩:=mc.sl.isSlice
  rfl
 have hone2:[Value.int .i64 o.e,vv,.int .i64 slot,.int .i64 at'].all Value.oneCell'=true:=by
  obtain ⟨_,_,rfl⟩:=mv.sl.isSlice
  rfl
 obtain ⟨D1,hD1⟩:∃ M,M=D.set K.next (.row [.int .i64 o.e,vv,cv,.int .i64 o.s] 0 false):=⟨_,rfl⟩
 have hst:Yw Tryz.prog 94 (.pointer (some ⟨K.next,0,none⟩)) (.agg #[.int .i64 o.e,vv,cv,.int .i64 o.s]) D=some D1:=by
  rw[hD1]
  exact (G9b rfl).trans (l1a gD rfl hone)
 have nD1:D1.next=D.next:=by rw[hD1];rfl
 have g1:D1.get K.next=some (.row [.int .i64 o.e,vv,cv,.int .i64 o.s] 0 false):=by rw[hD1];exact ZX _ _
 have e1:Ext H D1:=by rw[hD1];exact ED.set hKn
 obtain ⟨D2,hD2⟩:∃ M,M=D1.push (.row [.int .i64 o.e,vv,.int .i64 slot,.int .i64 at'] 0 false):=⟨_,rfl⟩
 have hst2:Yw Tryz.prog 36 (.pointer (some ⟨D1.next,0,none⟩)) (.agg #[.int .i64 o.e,vv,.int .i64 slot,.int .i64 at']) (D1.push (.row [.int .i64 0,.slice none 0 0,.int .i64 0,.int .i64 0] 0 false))=some D2:=by
  rw[hD2]
  exact (R7a rfl).trans (a0a rfl hone2)
 have nD2:D2.next=D.next+1:=by rw[hD2,← nD1];rfl
 have g2:D2.get D1.next=some (.row [.int .i64 o.e,vv,.int .i64 slot,.int .i64 at'] 0 false):=by rw[hD2];exact Zz _ _
 have x2:Ext D1 D2:=by rw[hD2];exact Ext.push1 _ _
 have e2:Ext H D2:=e1.trans x2
 have g12:=(x2.get _ (by omega)).trans g1
 have l0:∀ M,Ext D2 M→Zu M K.next 0=some (.int .i64 o.e):=fun M e=>Zy ((e.get _ (by omega)).trans g12)
 have l2:∀ M,Ext D2 M→Zu M K.next 2=some cv:=fun M e=>Zy ((e.get _ (by omega)).trans g12)
 have lq:∀ M,Ext D2 M→Zx M D1.next 0 4=some (.agg #[.int .i64 o.e,vv,.int .i64 slot,.int .i64 at']):=fun M e=>by
  rw[Zw ((e.get _ (by omega)).trans g2) (Nat.le_of_ble_eq_true rfl)]
  rfl
 have av2:Arg fI64.rep D2 vv o.vs:=(hD1▸K4a mv.arg gD (by decide):Arg fI64.rep D1 vv o.vs).ext x2
 have ac2:Arg fChange.rep D2 cv o.ch:=(hD1▸K4a mc.arg gD (by decide):Arg fChange.rep D1 cv o.ch).ext x2
 have aw2:Arg fCell.rep D2 w M0:=(hD1▸K4a (((aw.ext eA).ext mp.ext).ext mv.ext) gD (by decide):Arg fCell.rep D1 w M0).ext x2
 have lc:∀ K,dLen Tryz.prog #[92] cv K=some (.int .i64 (o.ch.length:Nat)):=mc.arg.lens (P:=Tryz.prog) (ts:=#[92]) (t:=92) rfl h7a
 have fin:∀ (M:DHeap) (u:Value) (l:List Cell),Ext D2 M→Arg fCell.rep M u l→∃ M2,Yw Tryz.prog 36 (.pointer (some ⟨h.next+1,0,none⟩)) (.agg #[.int .i64 o.e,vv,.int .i64 slot,.int .i64 at']) M=some M2∧Zx M2 (h.next+1) 0 4=some (.agg #[.int .i64 o.e,vv,.int .i64 slot,.int .i64 at'])∧Ext h M2∧Arg fI64.rep M2 vv o.vs∧Arg fCell.rep M2 u l:=fun M u l e a=>by
  have g:=((e2.trans e).get _ (by omega)).trans gR
  refine ⟨_,(R7a rfl).trans (l1a g rfl hone2),by rw[Zw (ZX _ _) (Nat.le_of_ble_eq_true rfl)];rfl,(hE.trans (e2.trans e)).set (by omega),K4a (av2.ext e) g (by decide),K4a a g (by decide)⟩
 simp -implicitDefEqProofs (disch:=first|omega|simp only[go_sem]) only[go_sem,true_and,Y3a,gD,hst,Zy g1,d4b hvv,hst2,l0 D2 (.refl _),f1,f2]
 by_cases he:o.e=0
 ·have he':=eq_true he
  rw[if_pos he]
  simp -implicitDefEqProofs (disch:=first|omega|simp only[go_sem]) only[go_sem,true_and,he',Bool.not_true]
  refine Xu (σ:=Nat) (by kernel_rfl) (fun i s=>s.df=[]∧s.rd=none∧s.fr 1=some (.int .i64 slot)∧s.fr 8=some (.pointer (some ⟨h.next+1,0,none⟩))∧s.fr 12=some (.pointer (some ⟨K.next,0,none⟩))∧s.fr 13=some (.pointer (some ⟨D1.next,0,none⟩))∧s.fr 14=some (.int .i64 (i:Nat))∧i≤o.ch.length∧Ext D2 s.h∧∃ w,s.fr 10=some w∧Arg fCell.rep s.h w ((o.ch.take i).foldl (o2a slot) M0)) (fun i=>o.ch.length - i) 0 ?_ ?_
  ·simp -implicitDefEqProofs (disch:=first|omega|simp only[go_sem]) only[go_sem,true_and,f1,f8,f10]
   exact ⟨by trivial,Nat.zero_le _,.refl _,_,rfl,aw2⟩
  clear f1 f2 f4 f8 f10
  rintro i ⟨fr,df,M,rd⟩ K' hK' hX ⟨rfl,rfl,f1,f8,f12,f13,f14,hi,eM,u,f10,au⟩
  simp only at f1 f8 f12 f13 f14 eM f10 au
  simp -implicitDefEqProofs (disch:=first|omega|simp only[go_sem]) only[go_sem,true_and,f12,f14,l2 M eM,lc]
  refine YX (fun hc1=>?_) (fun hc1=>?_)
  ·have hj:i<o.ch.length:=by omega
   have hw:=ZV hj (by omega)
   obtain ⟨id1,o1,i1,hid1,hat1⟩:=(ac2.ext eM).idx (P:=Tryz.prog) (t:=92) y4a (k:=.i64) (i:=i) (x:=o.ch[i]) (by simp)
   have a1:Zx M id1 o1 4=some (X0a o.ch[i]):=hat1.flat.2.1
   have hcok:fChange.ok o.ch[i]:=mc.ok _ (List.getElem_mem hj)
   obtain ⟨M1,t1,eM1,nM1,cc⟩:=i7b (K:=M) (x:=o.ch[i])
   obtain ⟨c1,c2,c3,_⟩:=cc M1 rfl
   have hul:=Q9a (slot:=slot) (l:=o.ch.take i) (m:=M0)
   have htl:(o.ch.take i).length≤o.ch.length:=by simp;omega
   have hf:=M0b (f:=o2a slot) (a:=M0) hj
   simp -implicitDefEqProofs (disch:=first|omega|simp only[go_sem]) only[go_sem,true_and,f12,f14,l2 M eM,i1,a1,t1,c3]
   by_cases hce:o.ch[i].e=true
   ·have hch:∀ q,o2a slot q o.ch[i]=z4a o.ch[i].k q:=fun q=>by unfold o2a;rw[if_pos hce]
    simp -implicitDefEqProofs (disch:=first|omega|simp only[go_sem]) only[go_sem,true_and,hce,f10,c1]
    refine Yu (t9b (au.ext eM1) (by omega)) ?_
    rintro r M3 ⟨u3,rfl,e3,a3⟩
    simp -implicitDefEqProofs (disch:=first|omega|simp only[go_sem]) only[go_sem,true_and,Xj,f14,hw]
    refine hK' (i+1) _ ?_ (by omega)
    exact ⟨by trivial,by trivial,(vy f1),(vy f8),(vy f12),(vy f13),vz,by omega,(eM.trans eM1).trans e3,u3,vz,by rw[hf,hch];exact a3⟩
   ·have hce':o.ch[i].e=false:=by simpa using hce
    have hch:∀ q,o2a slot q o.ch[i]=XU Cell.k ⟨o.ch[i].k,o.ch[i].v,slot⟩ q:=fun q=>by unfold o2a;rw[if_neg hce]
    simp -implicitDefEqProofs (disch:=first|omega|simp only[go_sem]) only[go_sem,true_and,hce',f1,f10,c1,c2,c4b]
    refine Yu (j0b (x:=⟨o.ch[i].k,o.ch[i].v,slot⟩) (au.ext eM1) ⟨hcok.1,hcok.2.1,hs⟩ (by omega)) ?_
    rintro r M3 ⟨u3,rfl,m3⟩
    simp -implicitDefEqProofs (disch:=first|omega|simp only[go_sem]) only[go_sem,true_and,Xj,f14,hw]
    refine hK' (i+1) _ ?_ (by omega)
    exact ⟨by trivial,by trivial,(vy f1),(vy f8),(vy f12),(vy f13),vz,by omega,(eM.trans eM1).trans m3.ext,u3,vz,by rw[hf,hch];exact m3.arg⟩
  obtain rfl:i=o.ch.length:=by omega
  rw[List.take_length]at au
  refine hX _ _ (by simp) ?_
  obtain ⟨M2,s1,s2,s3,s4,s5⟩:=fin M u _ eM au
  simp -implicitDefEqProofs (disch:=first|omega|simp only[go_sem]) only[go_sem,true_and,lq M eM,f8,f10,f13,s1,G3a,f2a,h4a,k0a,s2]
  exact ⟨_,rfl,_,_,rfl,s3,s4,s5⟩
 ·rw[if_neg he]
  obtain ⟨M2,s1,s2,s3,s4,s5⟩:=fin D2 w M0 (.refl _) aw2
  simp -implicitDefEqProofs (disch:=first|omega|simp only[go_sem]) only[go_sem,true_and,he,Bool.not_false,lq D2 (.refl _),f8,f10,s1,G3a,f2a,h4a,k0a,s2]
  exact ⟨_,rfl,_,_,rfl,s3,s4,s5⟩
def x0b:Cell:=⟨s2a,0,0⟩
theorem Q5b:Tryz.prog.underlying 79=some (.map 31 33):=by kernel_rfl
theorem d9a:d8a Tryz.prog 79 Zq (XQ x0b):=⟨_,_,Q5b,a9b,by kernel_rfl⟩
theorem W5b:S6a 76:=by
 intro h c l p id D m I hp hps hid hc hl h0 hI hE hR
 refine z9d (by simp) ?_
 obtain ⟨hl0,hc0,hm0⟩:=hI [] h h0
 have C0:Zu h c 0=some (.map (some id)):=Zy hc0
 obtain ⟨o,hr0,hr1⟩:=hm0.range Q5b hid
 simp -implicitDefEqProofs (disch:=first|omega|simp only[go_sem]) only[go_sem,true_and,c76,C0,hr0]
 refine Xu (σ:=List Key) (by kernel_rfl) (fun dn s=>s.df=[]∧s.fr 0=some (.func (.yield l) #[] #[])∧s.fr 5=some (.pointer (some ⟨h.next,0,none⟩))∧h.next<s.h.next∧dn.Nodup∧(∀ k∈dn,k∈m.map (·.1))∧RngAt Zq s.h h.next id m dn∧I dn s.h) (fun dn=>m.length - dn.length) [] ?_ ?_
 ·simp -implicitDefEqProofs (disch:=first|omega|simp only[go_sem]) only[go_sem,true_and]
  exact ⟨Nat.lt_succ_self _,.nil,fun k hk=>(by cases hk),hr1,hE _ _ _ h0 ⟨Nat.le_succ _,rfl,fun j hj _=>ZU _ _ hj⟩⟩
 ·rintro dn ⟨fr,df,hh,rd⟩ K' hK' hX ⟨rfl,f0,f5,hlt,hnd,hsub,hrng,hinv⟩
  simp only at f0 f5 hlt hrng hinv
  obtain ⟨L,hL,hall⟩:=hrng.next (fun _=>rfl) (by omega)
  simp -implicitDefEqProofs (disch:=first|omega|simp only[go_sem]) only[go_sem,true_and,f5,hL]
  intro pp hpp
  rcases hall pp hpp with ⟨rfl,hd⟩ | ⟨k,v,o2,hk,hnk,rfl,hent,hr2⟩
  ·simp -implicitDefEqProofs (disch:=first|omega|simp only[go_sem]) only[go_sem,true_and]
   refine hX _ _ (by simp) ?_
   simp -implicitDefEqProofs (disch:=first|omega|simp only[go_sem]) only[go_sem,true_and]
   exact ⟨_,rfl,⟨_,rfl⟩,dn,hnd,fun k=>⟨hsub k,hd k⟩,hinv⟩
  obtain ⟨K1,hK1⟩:∃ K,K=hh.set h.next o2:=⟨_,rfl⟩
  rw[← hK1]at hent hr2
  obtain ⟨K2,hK2⟩:∃ K,K=K1.push (.row [.int .i32 k.t,.int .i64 k.r] 0 false):=⟨_,rfl⟩
  have hK1n:K1.next=hh.next:=by rw[hK1];rfl
  have hK2n:K2.next=hh.next+1:=by rw[hK2];exact congrArg (·+1) hK1n
  have g2:K2.get K1.next=some (.row [.int .i32 k.t,.int .i64 k.r] 0 false):=by rw[hK2];exact Zz _ _
  have hst:Yw Tryz.prog 31 (.pointer (some ⟨K1.next,0,none⟩)) (Zq k) (K1.push (.row [.int .i32 0,.int .i64 0] 0 false))=some K2:=by
   rw[hK2]
   exact (x3a rfl).trans (a0a rfl rfl)
  have l2:Zx K2 K1.next 0 2=some (Zq k):=by rw[Zw g2 (Nat.le_of_ble_eq_true rfl)];rfl
  have oth:∀ j,j<hh.next→j≠h.next→K2.get j=hh.get j:=fun j hj hne=>by rw[hK2,ZU _ _ (by omega),hK1,Zv _ _ hne]
  have hI2:I dn K2:=hE dn hh K2 hinv ⟨by omega,by rw[hK2,hK1];rfl,oth⟩
  have hl2:K2.get l=some (.loop D):=(hI dn K2 hI2).1
  have hr3:RngAt Zq K2 h.next id m (k :: dn):=hr2.keep (by rw[hK2];exact ZU _ _ (by omega)) (by rw[hK2];exact ZU _ _ (by omega))
  have hy:M2a Tryz.prog K2 (some (.func (.yield l) #[] #[])) (some [Zq k])=.ok (.round l D.size (g1a D.tmps [p] [Zq k]) D.assign D.body) K2:=by
   rw[q8a hl2 _ (by rw[hp];rfl) (by rw[hp];simpa using hps),hp]
  have hkm:k∈m.map (·.1):=List.mem_map.2 ⟨_,hk,rfl⟩
  simp -implicitDefEqProofs (disch:=first|omega|simp only[go_sem]) only[go_sem,true_and,← hK1,f5,hent,hst,f0,l2,hy]
  refine I2b (hR dn K2 k hI2 hnk hkm (by omega)) ?_
  rintro r H ⟨rfl,hI3,e1,e2,e3⟩
  simp -implicitDefEqProofs (disch:=first|omega|simp only[go_sem]) only[go_sem,true_and,Xj]
  have hlen:(k :: dn).length≤m.length:=by
   have:=p1a (a:=k :: dn) (b:=m.map (·.1)) (List.nodup_cons.2 ⟨hnk,hnd⟩) (fun x hx=>by
    rcases List.mem_cons.1 hx with rfl | hx
    ·exact hkm
    ·exact hsub x hx)
   simpa using this
  refine hK' (k :: dn) _ ?_ (by rw[List.length_cons]at hlen ⊢;omega)
  exact ⟨by trivial,(vy f0),(vy f5),show h.next<H.next by omega,List.nodup_cons.2 ⟨hnk,hnd⟩,fun x hx=>(by
   rcases List.mem_cons.1 hx with rfl | hx
   ·exact hkm
   ·exact hsub x hx),hr3.keep e1 e2,hI3⟩
theorem f9b {h:DHeap} {id:Nat}:Ct Tryz.prog 54 [.map (some id)] h fun r h1=>r=.ret (D9b 76 h.next)∧h1=h.push (.row [.map (some id)] 0 false):=by
 refine j9d (by simp) ?_
 simp -implicitDefEqProofs (disch:=first|omega|simp only[go_sem]) only[go_sem,true_and,c54]
 exact ⟨_,rfl,rfl,trivial⟩
theorem j7b {K:DHeap} {x:Key}:∃ K1,Yw Tryz.prog 31 (.pointer (some ⟨K.next,0,none⟩)) (Zq x) (K.push (.row [.int .i32 0,.int .i64 0] 0 false))=some K1∧Ext K K1∧K1.next=K.next+1∧(∀ M,Ext K1 M→Zx M K.next 0 2=some (Zq x)):=by
 refine ⟨K.push (.row [.int .i32 x.t,.int .i64 x.r] 0 false),(x3a rfl).trans (a0a rfl rfl),Ext.push1 _ _,rfl,fun M e=>?_⟩
 have g:=(e.get K.next (Nat.lt_succ_self _)).trans (Zz _ _)
 rw[Zw g (Nat.le_of_ble_eq_true rfl)]
 rfl
theorem t7a {K:DHeap} {x:Cell}:∃ K1,Yw Tryz.prog 33 (.pointer (some ⟨K.next,0,none⟩)) (XQ x) (K.push (.row [.int .i32 0,.int .i64 0,.int .i64 0,.int .i64 0] 0 false))=some K1∧Ext K K1∧K1.next=K.next+1∧(∀ M,Ext K1 M→Zx M K.next 0 2=some (Zq x.k)∧Zu M K.next 2=some (.int .i64 x.v)∧Zx M K.next 0 4=some (XQ x)):=by
 refine ⟨K.push (.row [.int .i32 x.k.t,.int .i64 x.k.r,.int .i64 x.v,.int .i64 x.s] 0 false),(r1b rfl).trans (a0a rfl rfl),Ext.push1 _ _,rfl,fun M e=>?_⟩
 have g:=(e.get K.next (Nat.lt_succ_self _)).trans (Zz _ _)
 exact ⟨by rw[Zw g (Nat.le_of_ble_eq_true rfl)];rfl,Zy g,by rw[Zw g (Nat.le_of_ble_eq_true rfl)];rfl⟩
theorem CelM.len {mm:List (Key × Value)} {m:List Cell} (a:CelM mm m):mm.length≤m.length:=by
 have h:=p1a (a:=mm.map (·.1)) (b:=m.map Cell.k) a.1 (fun k hk=>(a.mem k).1 hk)
 simpa using h
theorem V5c {m:List Cell} (h:UpB Cell.k m):UpK (m.map Cell.k):=by
 unfold UpK
 rw[List.pairwise_map]
 exact h
theorem R5c {h:DHeap} {id:Nat} {mm:List (Key × Value)} {m:List Cell} (a:MapAt Zq h id mm) (cm:CelM mm m) (hid:id<h.next) (hok:∀ c∈m,fCell.ok c) (hl:m.length≤1048576) :
 Ct Tryz.prog 35 [.map (some id)] h fun r h1=>∃ w,r=.ret w∧Made fCell h h1 w m:=by
 refine W8d (by simp) ?_
 simp -implicitDefEqProofs (disch:=first|omega|simp only[go_sem]) only[go_sem,true_and,c35]
 refine Yu f9b ?_
 rintro r h2 ⟨rfl,rfl⟩
 obtain ⟨H2,hH2⟩:∃ H,H=h.push (.row [.map (some id)] 0 false):=⟨_,rfl⟩
 rw[← hH2]
 have g2:H2.get h.next=some (.row [.map (some id)] 0 false):=by rw[hH2];exact Zz _ _
 have hE2:Ext h H2:=by rw[hH2];exact Ext.push1 _ _
 have hH2n:H2.next=h.next+1:=by rw[hH2];rfl
 have hkok:∀ k∈mm.map (·.1),fKey.ok k:=fun k hk=>by
  obtain ⟨c,hc,rfl⟩:=List.mem_map.1 ((cm.mem k).1 hk)
  exact (hok c hc).1
 simp -implicitDefEqProofs (disch:=first|omega|simp only[go_sem]) only[go_sem,true_and]
 refine Yu (L8a W5b (by kernel_rfl) (h:=H2) (c:=h.next) (id:=id) (m:=mm) (Nat.le_trans cm.len hl) hkok (by omega) g2 (by omega) (a.keep (hE2.get _ hid))) ?_
 rintro r h3 ⟨w,ks,rfl,hup,hmem,hE3,hs3⟩
 have hks:ks=m.map Cell.k:=M3b hup (V5c cm.2.1) fun k=>(hmem k).trans (cm.mem k)
 have hkl:ks.length=m.length:=by rw[hks,List.length_map]
 have hsk:Arg fKey.rep h3 w ks:=hs3.mono fun i hi=>⟨hi.2,rfl⟩
 have ek:∀ K,dLen Tryz.prog #[24] w K=some (.int .i64 (ks.length:Nat)):=hsk.lens (P:=Tryz.prog) (ts:=#[24]) (t:=24) rfl D1a
 have hE03:Ext h h3:=hE2.trans hE3
 simp -implicitDefEqProofs (disch:=first|omega|simp only[go_sem]) only[go_sem,true_and,Xj,ek]
 refine Xu (σ:=Nat) (by kernel_rfl) (fun i s=>s.df=[]∧s.rd=none∧s.fr 0=some (.map (some id))∧s.fr 8=some w∧s.fr 9=some (.int .i64 (ks.length:Nat))∧s.fr 10=some (.int .i64 (i:Nat))∧i≤ks.length∧∃ u,s.fr 3=some u∧Made fCell h3 s.h u (m.take i)) (fun i=>ks.length - i) 0 ?_ ?_
 ·simp -implicitDefEqProofs (disch:=first|omega|simp only[go_sem]) only[go_sem,true_and]
  exact ⟨by trivial,Nat.zero_le _,_,rfl,.nil _ (.refl _)⟩
 rintro i ⟨fr,df,K,rd⟩ K' hK' hX ⟨rfl,rfl,f0,f8,f9,f10,hi,u,f3,mu⟩
 simp only at f0 f8 f9 f10 f3 mu
 simp -implicitDefEqProofs (disch:=first|omega|simp only[go_sem]) only[go_sem,true_and,f8,f9,f10]
 refine YX (fun hc1=>?_) (fun hc1=>?_)
 ·have hj:i<ks.length:=by omega
  have hjm:i<m.length:=by omega
  have hw:=ZV hj (by omega)
  have hki:ks[i]=m[i].k:=by simp only[hks,List.getElem_map]
  obtain ⟨id1,o1,i1,_,hat1⟩:=(hsk.ext mu.ext).idx (P:=Tryz.prog) (t:=24) C2a (k:=.i64) (i:=i) (x:=ks[i]) (by simp)
  have l1:Zx K id1 o1 2=some (Zq m[i].k):=by rw[← hki];exact hat1.flat.2.1
  obtain ⟨K1,hst,eK1,nK1,cc⟩:=j7b (K:=K) (x:=m[i].k)
  have e1:=hE03.trans (mu.ext.trans eK1)
  have lk:=(a.keep (e1.get _ hid)).lookup d9a m[i].k false
  rw[cm.2.2 m[i].k,(h3a cm.2.1).2 ⟨List.getElem_mem hjm,rfl⟩]at lk
  have lk':M0a Tryz.prog 79 (.map (some id)) (Zq m[i].k) false K1=some (XQ m[i]):=lk
  obtain ⟨u2,K2,s1,m2⟩:=(mu.on eK1).snoc T6a (cs:=[.int .i32 m[i].k.t,.int .i64 m[i].k.r,.int .i64 m[i].v,.int .i64 m[i].s]) (y:=m[i]) rfl (z:=4) rfl (hok _ (List.getElem_mem hjm)) (by simp;omega) (by decide)
  simp -implicitDefEqProofs (disch:=first|omega|simp only[go_sem]) only[go_sem,true_and,f0,f3,f8,f10,i1,l1,hst,cc K1 (.refl _),lk',s1,hw]
  refine hK' (i+1) _ ?_ (by omega)
  exact ⟨by trivial,by trivial,(vy f0),(vy f8),(vy f9),vz,by omega,u2,vz,by rw[List.take_succ_eq_append_getElem hjm];exact m2⟩
 obtain rfl:i=ks.length:=by omega
 rw[hkl,List.take_length]at mu
 refine hX _ _ (by simp) ?_
 simp -implicitDefEqProofs (disch:=first|omega|simp only[go_sem]) only[go_sem,true_and,f3]
 exact ⟨_,rfl,_,rfl,mu.base hE03⟩
theorem KpD.after {D:Nat→Prop} {h K M:DHeap} (e:Ext h K) (k:KpD D K M):KpD D h M:=
 ⟨Nat.le_trans e.next k.next,k.ng.trans e.ng,fun i hi hn=>(k.get i (Nat.lt_of_lt_of_le hi e.next) hn).trans (e.get i hi)⟩
theorem L9b {m:List Cell} {keys:List Key} {i:Nat} (hi:i<keys.length):y3a m (keys.take (i+1))=y3a m (keys.take i)++match Yk Cell.k m keys[i] with | some c=>[⟨keys[i],c.v⟩] | none=>[]:=by
 unfold y3a
 rw[List.take_succ_eq_append_getElem hi,List.filterMap_append]
 congr 1
 cases hq:Yk Cell.k m keys[i] with
 | none=>simp[hq]
 | some c=>simp[hq]
theorem o5b {x z:Cell}:∀ {m:List Cell},z∈XU Cell.k x m→z=x∨z∈m
 | [],h=>by simp[XU]at h;exact .inl h
 | y :: r,h=>by
   unfold XU at h
   split at h
   ·rcases List.mem_cons.1 h with h | h
    ·exact .inr (by simp[h])
    ·rcases o5b h with h | h
     ·exact .inl h
     ·exact .inr (by simp[h])
   ·split at h
    ·rcases List.mem_cons.1 h with h | h
     ·exact .inl h
     ·exact .inr (by simp[h])
    ·rcases List.mem_cons.1 h with h | h
     ·exact .inl h
     ·exact .inr h
theorem X4b {k:Key} {z:Cell}:∀ {m:List Cell},z∈z4a k m→z∈m
 | [],h=>h
 | y :: r,h=>by
   unfold z4a at h
   split at h
   ·rcases List.mem_cons.1 h with h | h
    ·simp[h]
    ·have:=X4b h;simp[this]
   ·split at h
    ·simp[h]
    ·exact h
theorem m7b {slot:Int} (hs:inK .i64 slot):∀ {l:List Change} {m:List Cell},(∀ c∈l,fChange.ok c)→(∀ c∈m,fCell.ok c)→∀ c∈l.foldl (o2a slot) m,fCell.ok c
 | [],m,_,h=>h
 | x :: l,m,hl,h=>by
   rw[List.foldl_cons]
   refine m7b hs (fun c hc=>hl c (by simp[hc])) fun c hc=>?_
   have hx:=hl x (by simp)
   unfold o2a at hc
   split at hc
   ·exact h c (X4b hc)
   ·rcases o5b hc with rfl | hc
    ·exact ⟨hx.1,hx.2.1,hs⟩
    ·exact h c hc
set_option maxHeartbeats 2000000 in
theorem L5b {h:DHeap} {t:Txn} {vc va vr vw:Value} {id:Nat} {mm:List (Key × Value)} {m:List Cell} {slot at':Int} (x:TxV (InH h) h t vc va vr vw) (hT:P3a t) (a:MapAt Zq h id mm) (cm:CelM mm m) (hid:id<h.next) (hok:∀ c∈m,fCell.ok c) (hs:inK .i64 slot) :
 Ct Tryz.prog 34 [Ww t.ses t.req vc va vr vw,.int .i64 slot,.int .i64 at',.map (some id)] h fun r h1=>∃ vv mm',r=.ret (W1a (Wx t slot at' m) vv)∧KpD (fun j=>j=id) h h1∧Sl fI64.rep (p7a h h1) h1 vv (Wx t slot at' m).vs∧MapAt Zq h1 id mm'∧CelM mm' (Z2a t slot m)∧∀ c∈Z2a t slot m,fCell.ok c:=by
 refine V8d (by simp) ?_
 have hcl:(Ww t.ses t.req vc va vr vw).cells.toList=[.int .i64 t.ses,.int .i64 t.req,vc,va,vr,vw]:=rfl
 have el:∀ K,dLen Tryz.prog #[24] vr K=some (.int .i64 (t.reads.length:Nat)):=x.r.lens (P:=Tryz.prog) (ts:=#[24]) (t:=24) rfl D1a
 obtain ⟨H,hH⟩:∃ H,H=(h.push (.row [.int .i64 t.ses,.int .i64 t.req,vc,va,vr,vw] 0 false)).push (.row [.int .i64 0,.slice none 0 0,.int .i64 0,.int .i64 0] 0 false):=⟨_,rfl⟩
 have hE:Ext h H:=by rw[hH];exact (Ext.push1 _ _).push _
 have hHn:H.next=h.next+2:=by rw[hH];rfl
 have gH:H.get h.next=some (.row [.int .i64 t.ses,.int .i64 t.req,vc,va,vr,vw] 0 false):=by rw[hH];exact c3a
 have gR:H.get (h.next+1)=some (.row [.int .i64 0,.slice none 0 0,.int .i64 0,.int .i64 0] 0 false):=by rw[hH];exact Zz _ _
 have lt:∀ K,Ext H K→Zx K h.next 0 6=some (Ww t.ses t.req vc va vr vw):=fun K e=>by
  rw[Zw ((e.get _ (by omega)).trans gH) (Nat.le_of_ble_eq_true rfl)]
  rfl
 have hlr:=hT.r
 simp -implicitDefEqProofs (disch:=first|omega|simp only[go_sem]) only[go_sem,true_and,c34,hcl,g0a,← hH,Zy gH,el]
 refine Xu (σ:=Nat) (by kernel_rfl) (fun i s=>s.df=[]∧s.rd=none∧s.fr 1=some (.int .i64 slot)∧s.fr 2=some (.int .i64 at')∧s.fr 3=some (.map (some id))∧s.fr 4=some (.pointer (some ⟨h.next,0,none⟩))∧s.fr 8=some (.pointer (some ⟨h.next+1,0,none⟩))∧s.fr 18=some vr∧s.fr 19=some (.int .i64 (t.reads.length:Nat))∧s.fr 20=some (.int .i64 (i:Nat))∧i≤t.reads.length∧∃ u,s.fr 9=some u∧Made fPair H s.h u (y3a m (t.reads.take i))) (fun i=>t.reads.length - i) 0 ?_ ?_
 ·simp -implicitDefEqProofs (disch:=first|omega|simp only[go_sem]) only[go_sem,true_and]
  exact ⟨by trivial,Nat.zero_le _,_,rfl,.nil _ (.refl _)⟩
 rintro i ⟨fr,df,K,rd⟩ K' hK' hX ⟨rfl,rfl,f1,f2,f3,f4,f8,f18,f19,f20,hi,u,f9,mu⟩
 simp only at f1 f2 f3 f4 f8 f18 f19 f20 f9 mu
 have hlen:(y3a m (t.reads.take i)).length≤1048576:=Nat.le_trans b3c (by simp;omega)
 simp -implicitDefEqProofs (disch:=first|omega|simp only[go_sem]) only[go_sem,true_and,f18,f19,f20]
 refine YX (fun hc1=>?_) (fun hc1=>?_)
 ·have hj:i<t.reads.length:=by omega
  have hw:=ZV hj (by omega)
  obtain ⟨id1,o1,i1,_,hat1⟩:=(x.r.ext (hE.trans mu.ext)).idx (P:=Tryz.prog) (t:=24) C2a (k:=.i64) (i:=i) (x:=t.reads[i]) (by simp)
  have l1:Zx K id1 o1 2=some (Zq t.reads[i]):=hat1.flat.2.1
  have hkok:fKey.ok t.reads[i]:=x.r.ok _ (List.getElem_mem hj)
  obtain ⟨K1,t1,eK1,nK1,cc⟩:=j7b (K:=K) (x:=t.reads[i])
  have e1:=hE.trans (mu.ext.trans eK1)
  have lk:=(a.keep (e1.get _ hid)).lookup d9a t.reads[i] true
  have htake:=L9b (m:=m) hj
  rw[cm.2.2 t.reads[i]]at lk
  cases hq:Yk Cell.k m t.reads[i] with
  | some c=>
    rw[hq]at lk htake
    have lk':M0a Tryz.prog 79 (.map (some id)) (Zq t.reads[i]) true K1=some (.tuple #[XQ c,.bool true]):=lk
    obtain ⟨K2,t2,eK2,nK2,c2⟩:=t7a (K:=K1) (x:=c)
    have hck:=(d0a hq).1
    obtain ⟨u3,K3,s1,m3⟩:=(mu.on (eK1.trans eK2)).snoc U5a (cs:=[.int .i32 t.reads[i].t,.int .i64 t.reads[i].r,.int .i64 c.v]) (y:=⟨t.reads[i],c.v⟩) rfl (z:=3) rfl ⟨hkok,(hok c hck).2.1⟩ (by omega) (by decide)
    simp -implicitDefEqProofs (disch:=first|omega|simp only[go_sem]) only[go_sem,true_and,f3,f9,f18,f20,i1,l1,t1,cc K1 (.refl _),lk',t2,cc K2 eK2,(c2 K2 (.refl _)).2.1,P9a,s1,hw]
    refine hK' (i+1) _ ?_ (by omega)
    exact ⟨by trivial,by trivial,(vy f1),(vy f2),(vy f3),(vy f4),(vy f8),(vy f18),(vy f19),vz,by omega,u3,vz,by rw[htake];exact m3⟩
  | none=>
    rw[hq]at lk htake
    have lk':M0a Tryz.prog 79 (.map (some id)) (Zq t.reads[i]) true K1=some (.tuple #[XQ x0b,.bool false]):=lk
    obtain ⟨K2,t2,eK2,nK2,c2⟩:=t7a (K:=K1) (x:=x0b)
    simp -implicitDefEqProofs (disch:=first|omega|simp only[go_sem]) only[go_sem,true_and,f3,f9,f18,f20,i1,l1,t1,cc K1 (.refl _),lk',t2,hw]
    refine hK' (i+1) _ ?_ (by omega)
    exact ⟨by trivial,by trivial,(vy f1),(vy f2),(vy f3),(vy f4),(vy f8),(vy f18),(vy f19),vz,by omega,u,(vy f9),by rw[htake,List.append_nil];exact mu.on (eK1.trans eK2)⟩
 obtain rfl:i=t.reads.length:=by omega
 rw[List.take_length]at mu hlen
 refine hX _ _ (by simp) ?_
 clear hK' hX K' f18 f19 f20 hc1 hi
 have eK:=mu.ext
 have hKn:=eK.next
 simp -implicitDefEqProofs (disch:=first|omega|simp only[go_sem]) only[go_sem,true_and,f4,f9,lt K eK]
 refine Yu (B1e (x.ext (hE.trans eK)) hT mu.arg (by omega)) ?_
 rw[R2c cm.2.1]
 have hsm:=G4a (t:=t) (l:=P1a m t.reads) (f:=4096)
 have ho:q2a t (P1a m t.reads) 4096=H4a t m:=rfl
 rw[ho]at hsm
 obtain ⟨o,hoo⟩:∃ o,H4a t m=o:=⟨_,rfl⟩
 have hR:Wx t slot at' m=⟨o.e,o.vs,slot,at'⟩:=by unfold Wx;rw[hoo]
 have hC:Z2a t slot m=if o.e=0 then o.ch.foldl (o2a slot) m else m:=by unfold Z2a;rw[hoo]
 rw[hoo]at hsm
 rw[hoo,hR,hC]
 rintro r D ⟨vv,cv,rfl,mv,mc⟩
 have hoks:=m7b hs mc.ok hok
 obtain ⟨D1,hst,eD,gD,nD⟩:=N1d (e:=o.e) (k:=o.s) mv.sl mc.sl
 have hDn:=mv.ext.next
 have hvv:=mv.sl.cells1
 have hone2:[Value.int .i64 o.e,vv,.int .i64 slot,.int .i64 at'].all Value.oneCell'=true:=by
  obtain ⟨_,_,rfl⟩:=mv.sl.isSlice
  rfl
 have e1:Ext H D1:=eK.trans (mv.ext.trans eD)
 have eh1:Ext h D1:=hE.trans e1
 have aD:=a.keep (eh1.get _ hid)
 have lc:∀ K,dLen Tryz.prog #[92] cv K=some (.int .i64 (o.ch.length:Nat)):=mc.arg.lens (P:=Tryz.prog) (ts:=#[92]) (t:=92) rfl h7a
 have gM:∀ M,KpD (fun j=>j=id) D1 M→M.get D.next=some (.row [.int .i64 o.e,vv,cv,.int .i64 o.s] 0 false):=fun M k=>(k.get _ (by omega) (by omega)).trans gD
 have fin:∀ (M:DHeap) (q:List (Key × Value)) (l:List Cell),KpD (fun j=>j=id) D1 M→MapAt Zq M id q→CelM q l→∃ M2,Yw Tryz.prog 36 (.pointer (some ⟨h.next+1,0,none⟩)) (.agg #[.int .i64 o.e,vv,.int .i64 slot,.int .i64 at']) M=some M2∧Zx M2 (h.next+1) 0 4=some (.agg #[.int .i64 o.e,vv,.int .i64 slot,.int .i64 at'])∧KpD (fun j=>j=id) h M2∧Sl fI64.rep (p7a h M2) M2 vv o.vs∧MapAt Zq M2 id q:=fun M q l k am _=>by
  have g:=(k.get (h.next+1) (by have:=e1.next;omega) (by omega)).trans ((e1.get _ (by omega)).trans gR)
  have kn:=k.next
  refine ⟨_,(R7a rfl).trans (l1a g rfl hone2),by rw[Zw (ZX _ _) (Nat.le_of_ble_eq_true rfl)];rfl,(KpD.after eh1 k).set (.inr (by omega)),?_,am.keep (Zv _ _ (by omega))⟩
  refine mv.sl.mono fun j hj=>⟨⟨by have:=hj.1;omega,by show j<M.next;have:=hj.2;omega⟩,?_⟩
  obtain ⟨hj1,hj2⟩:=hj
  rw[Zv _ _ (by omega),k.get _ (by omega) (by omega),eD.get _ hj2]
 simp -implicitDefEqProofs (disch:=first|omega|simp only[go_sem]) only[go_sem,true_and,Xj,hst,Zy gD]
 by_cases he:o.e=0
 ·have he':=eq_true he
  rw[if_pos he]
  simp -implicitDefEqProofs (disch:=first|omega|simp only[go_sem]) only[go_sem,true_and,he',Zy gD,lc]
  refine Xu (σ:=Nat) (by kernel_rfl) (fun i s=>s.df=[]∧s.rd=none∧s.fr 1=some (.int .i64 slot)∧s.fr 2=some (.int .i64 at')∧s.fr 3=some (.map (some id))∧s.fr 8=some (.pointer (some ⟨h.next+1,0,none⟩))∧s.fr 14=some (.pointer (some ⟨D.next,0,none⟩))∧s.fr 46=some cv∧s.fr 47=some (.int .i64 (o.ch.length:Nat))∧s.fr 48=some (.int .i64 (i:Nat))∧i≤o.ch.length∧KpD (fun j=>j=id) D1 s.h∧∃ q,MapAt Zq s.h id q∧CelM q ((o.ch.take i).foldl (o2a slot) m)) (fun i=>o.ch.length - i) 0 ?_ ?_
  ·simp -implicitDefEqProofs (disch:=first|omega|simp only[go_sem]) only[go_sem,true_and,f1,f2,f3,f8]
   exact ⟨by trivial,Nat.zero_le _,.refl _ _,_,aD,cm⟩
  clear f1 f2 f3 f4 f8 f9
  rintro i ⟨fr,df,M,rd⟩ K' hK' hX ⟨rfl,rfl,f1,f2,f3,f8,f14,f46,f47,f48,hi,kM,q,aq,cq⟩
  simp only at f1 f2 f3 f8 f14 f46 f47 f48 kM aq
  simp -implicitDefEqProofs (disch:=first|omega|simp only[go_sem]) only[go_sem,true_and,f46,f47,f48]
  refine YX (fun hc1=>?_) (fun hc1=>?_)
  ·have hj:i<o.ch.length:=by omega
   have hw:=ZV hj (by omega)
   have acM:Arg fChange.rep M cv o.ch:=mc.sl.mono fun j hj=>⟨by have:=kM.next;have:=hj.2;omega,by rw[kM.get _ (by have:=hj.2;omega) (by have:=hj.1;omega),eD.get _ hj.2]⟩
   obtain ⟨id1,o1,i1,hid1,hat1⟩:=acM.idx (P:=Tryz.prog) (t:=92) y4a (k:=.i64) (i:=i) (x:=o.ch[i]) (by simp)
   have a1:Zx M id1 o1 4=some (X0a o.ch[i]):=hat1.flat.2.1
   obtain ⟨M1,t1,eM1,nM1,cc⟩:=i7b (K:=M) (x:=o.ch[i])
   obtain ⟨c1,c2,c3,_⟩:=cc M1 rfl
   have hf:=M0b (f:=o2a slot) (a:=m) hj
   have hidM:id<M.next:=by have:=kM.next;omega
   have aq1:=aq.keep (eM1.get _ hidM)
   have kM1:=kM.ext eM1
   simp -implicitDefEqProofs (disch:=first|omega|simp only[go_sem]) only[go_sem,true_and,f46,f48,i1,a1,t1,c3]
   by_cases hce:o.ch[i].e=true
   ·have hch:∀ q,o2a slot q o.ch[i]=z4a o.ch[i].k q:=fun q=>by unfold o2a;rw[if_pos hce]
    obtain ⟨ob,s1,aq2⟩:=aq1.delete d9a (ts:=#[79,31]) rfl o.ch[i].k
    simp -implicitDefEqProofs (disch:=first|omega|simp only[go_sem]) only[go_sem,true_and,hce,f3,c1,s1,f48,hw]
    refine hK' (i+1) _ ?_ (by omega)
    exact ⟨by trivial,by trivial,(vy f1),(vy f2),(vy f3),(vy f8),(vy f14),(vy f46),(vy f47),vz,by omega,kM1.set (.inl rfl),_,aq2,by rw[hf,hch];exact cq.del _⟩
   ·have hce':o.ch[i].e=false:=by simpa using hce
    have hch:∀ q,o2a slot q o.ch[i]=XU Cell.k ⟨o.ch[i].k,o.ch[i].v,slot⟩ q:=fun q=>by unfold o2a;rw[if_neg hce]
    obtain ⟨ob,s1,aq2⟩:=aq1.update d9a o.ch[i].k (XQ ⟨o.ch[i].k,o.ch[i].v,slot⟩)
    simp -implicitDefEqProofs (disch:=first|omega|simp only[go_sem]) only[go_sem,true_and,hce',f1,f3,c1,c2,c4b,s1,f48,hw]
    refine hK' (i+1) _ ?_ (by omega)
    exact ⟨by trivial,by trivial,(vy f1),(vy f2),(vy f3),(vy f8),(vy f14),(vy f46),(vy f47),vz,by omega,kM1.set (.inl rfl),_,aq2,by rw[hf,hch];exact cq.put ⟨o.ch[i].k,o.ch[i].v,slot⟩⟩
  obtain rfl:i=o.ch.length:=by omega
  rw[List.take_length]at cq
  refine hX _ _ (by simp) ?_
  obtain ⟨M2,s1,s2,s3,s4,s5⟩:=fin M q _ kM aq cq
  simp -implicitDefEqProofs (disch:=first|omega|simp only[go_sem]) only[go_sem,true_and,f1,f2,f8,f14,Zy (gM M kM),d4b hvv,s1]
  refine t1a (v:=.agg #[.int .i64 o.e,vv,.int .i64 slot,.int .i64 at']) ?_ ?_
  ·rw[G0a]
   simp -implicitDefEqProofs (disch:=first|omega|simp only[go_sem]) only[go_sem,true_and,f8,s2,k0a]
  ·exact ⟨_,_,rfl,s3,s4,s5,cq,hoks⟩
 ·rw[if_neg he]
  obtain ⟨M2,s1,s2,s3,s4,s5⟩:=fin D1 mm m (.refl _ _) aD cm
  simp -implicitDefEqProofs (disch:=first|omega|simp only[go_sem]) only[go_sem,true_and,he,f1,f2,f8,Zy gD,d4b hvv,s1]
  refine t1a (v:=.agg #[.int .i64 o.e,vv,.int .i64 slot,.int .i64 at']) ?_ ?_
  ·rw[G0a]
   simp -implicitDefEqProofs (disch:=first|omega|simp only[go_sem]) only[go_sem,true_and,f8,s2,k0a]
  ·exact ⟨_,_,rfl,s3,s4,s5,cm,hok⟩
theorem CelM.of {m:List Cell}:CelM (M1a Cell.k XQ m) (byK Cell.k m):=
 ⟨I7a _,r2a _,fun k=>by rw[q5a,U1c]⟩
theorem U2b {t:Txn} {slot:Int} {m:List Cell}:(Z2a t slot m).length≤m.length+4096:=by
 unfold Z2a
 have:=(G4a (t:=t) (l:=P1a m t.reads) (f:=4096)).2
 have h2:=Q9a (slot:=slot) (l:=(H4a t m).ch) (m:=m)
 have ho:H4a t m=q2a t (P1a m t.reads) 4096:=rfl
 rw[← ho]at this
 split <;> omega
set_option maxHeartbeats 1000000 in
theorem J5b {h:DHeap} {t:Txn} {vc va vr vw v:Value} {m:List Cell} {slot at':Int} (x:TxV (InH h) h t vc va vr vw) (hT:P3a t) (hb:Arg fCell.rep h v m) (hl:m.length≤1000000) (hs:inK .i64 slot) :
 Ct Tryz.prog 10 [Ww t.ses t.req vc va vr vw,.int .i64 slot,.int .i64 at',v] h fun r h1=>∃ vv w,r=.ret (.tuple #[W1a (Wx t slot at' (byK Cell.k m)) vv,w])∧Arg fI64.rep h1 vv (Wx t slot at' (byK Cell.k m)).vs∧Made fCell h h1 w (Z2a t slot (byK Cell.k m)):=by
 refine L8d (by simp) ?_
 have hcl:(Ww t.ses t.req vc va vr vw).cells.toList=[.int .i64 t.ses,.int .i64 t.req,vc,va,vr,vw]:=rfl
 have el:∀ K,dLen Tryz.prog #[29] v K=some (.int .i64 (m.length:Nat)):=hb.lens (P:=Tryz.prog) (ts:=#[29]) (t:=29) rfl f6a
 obtain ⟨H,hH⟩:∃ H,H=(h.push (.row [.int .i64 t.ses,.int .i64 t.req,vc,va,vr,vw] 0 false)).push (.row [.int .i64 0,.slice none 0 0,.int .i64 0,.int .i64 0] 0 false):=⟨_,rfl⟩
 have hE:Ext h H:=by rw[hH];exact (Ext.push1 _ _).push _
 have hHn:H.next=h.next+2:=by rw[hH];rfl
 have gH:H.get h.next=some (.row [.int .i64 t.ses,.int .i64 t.req,vc,va,vr,vw] 0 false):=by rw[hH];exact c3a
 have gR:H.get (h.next+1)=some (.row [.int .i64 0,.slice none 0 0,.int .i64 0,.int .i64 0] 0 false):=by rw[hH];exact Zz _ _
 have lt:∀ K,Ext H K→Zx K h.next 0 6=some (Ww t.ses t.req vc va vr vw):=fun K e=>by
  rw[Zw ((e.get _ (by omega)).trans gH) (Nat.le_of_ble_eq_true rfl)]
  rfl
 obtain ⟨A,hA⟩:∃ A,H.push (.map [] 0)=A:=⟨_,rfl⟩
 have eA:Ext H A:=hA▸Ext.push1 _ _
 have nA:A.next=H.next+1:=by rw[← hA];rfl
 have a0:MapAt Zq A H.next ([]:List (Key × Value)):=by rw[← hA];exact MapAt.new
 simp -implicitDefEqProofs (disch:=first|omega|simp only[go_sem]) only[go_sem,true_and,c10,hcl,g0a,← hH,hA,el]
 refine Xu (σ:=Nat) (by kernel_rfl) (fun i s=>s.df=[]∧s.rd=none∧s.fr 1=some (.int .i64 slot)∧s.fr 2=some (.int .i64 at')∧s.fr 4=some (.pointer (some ⟨h.next,0,none⟩))∧s.fr 8=some (.pointer (some ⟨h.next+1,0,none⟩))∧s.fr 10=some (.map (some H.next))∧s.fr 15=some v∧s.fr 16=some (.int .i64 (m.length:Nat))∧s.fr 17=some (.int .i64 (i:Nat))∧i≤m.length∧KpD (fun j=>j=H.next) A s.h∧MapAt Zq s.h H.next (M1a Cell.k XQ (m.take i))) (fun i=>m.length - i) 0 ?_ ?_
 ·simp -implicitDefEqProofs (disch:=first|omega|simp only[go_sem]) only[go_sem,true_and]
  exact ⟨by trivial,Nat.zero_le _,.refl _ _,a0⟩
 rintro i ⟨fr,df,K,rd⟩ K' hK' hX ⟨rfl,rfl,f1,f2,f4,f8,f10,f15,f16,f17,hi,kK,aK⟩
 simp only at f1 f2 f4 f8 f10 f15 f16 f17 kK aK
 have hKn:=kK.next
 have eK:Ext H K:=kK.toExt eA fun j hj=>by omega
 simp -implicitDefEqProofs (disch:=first|omega|simp only[go_sem]) only[go_sem,true_and,f15,f16,f17]
 refine YX (fun hc1=>?_) (fun hc1=>?_)
 ·have hj:i<m.length:=by omega
  have hw:=ZV hj (by omega)
  obtain ⟨id1,o1,i1,_,hat1⟩:=(hb.ext (hE.trans eK)).idx (P:=Tryz.prog) (t:=29) x4a (k:=.i64) (i:=i) (x:=m[i]) (by simp)
  have a1:Zx K id1 o1 4=some (XQ m[i]):=hat1.flat.2.1
  obtain ⟨K1,t1,eK1,nK1,cc⟩:=t7a (K:=K) (x:=m[i])
  obtain ⟨c1,_,c3⟩:=cc K1 (.refl _)
  obtain ⟨ob,s1,aq⟩:=(aK.keep (eK1.get _ (by omega))).update d9a m[i].k (XQ m[i])
  simp -implicitDefEqProofs (disch:=first|omega|simp only[go_sem]) only[go_sem,true_and,f10,f15,f17,i1,a1,t1,c1,c3,s1,hw]
  refine hK' (i+1) _ ?_ (by omega)
  exact ⟨by trivial,by trivial,(vy f1),(vy f2),(vy f4),(vy f8),(vy f10),(vy f15),(vy f16),vz,by omega,(kK.ext eK1).set (.inl rfl),by rw[C8a hj];exact aq⟩
 obtain rfl:i=m.length:=by omega
 rw[List.take_length]at aK
 refine hX _ _ (by simp) ?_
 clear hK' hX K' f15 f16 f17 hc1 hi
 have hbl:=R1a (key:=Cell.k) m
 have cm0:=CelM.of (m:=m)
 have hok0:∀ c∈byK Cell.k m,fCell.ok c:=fun c hc=>hb.ok c (X0b hc)
 obtain ⟨M0,hM0⟩:∃ M0,byK Cell.k m=M0:=⟨_,rfl⟩
 rw[hM0]at hbl cm0 hok0
 rw[hM0]
 simp -implicitDefEqProofs (disch:=first|omega|simp only[go_sem]) only[go_sem,true_and,f1,f2,f4,f10,lt K eK]
 refine Yu (L5b (x.ext (hE.trans eK)) hT aK cm0 (by omega) hok0 hs) ?_
 rintro r D ⟨vv,q,rfl,kD,sv,aD,cD,hok1⟩
 have hDn:=kD.next
 have eD:Ext H D:=kD.toExt eK fun j hj=>by omega
 obtain ⟨D1,hD1⟩:∃ M,M=D.push (.row [.int .i64 (Wx t slot at' M0).e,vv,.int .i64 slot,.int .i64 at'] 0 false):=⟨_,rfl⟩
 have hone2:[Value.int .i64 (Wx t slot at' M0).e,vv,.int .i64 slot,.int .i64 at'].all Value.oneCell'=true:=by
  obtain ⟨_,_,rfl⟩:=sv.isSlice
  rfl
 have hst:Yw Tryz.prog 36 (.pointer (some ⟨D.next,0,none⟩)) (W1a (Wx t slot at' M0) vv) (D.push (.row [.int .i64 0,.slice none 0 0,.int .i64 0,.int .i64 0] 0 false))=some D1:=by
  rw[hD1]
  exact (R7a rfl).trans (a0a rfl hone2)
 have x1:Ext D D1:=by rw[hD1];exact Ext.push1 _ _
 have nD1:D1.next=D.next+1:=by rw[hD1];rfl
 have g1:D1.get D.next=some (.row [.int .i64 (Wx t slot at' M0).e,vv,.int .i64 slot,.int .i64 at'] 0 false):=by rw[hD1];exact Zz _ _
 have lq:∀ M,Ext D1 M→Zx M D.next 0 4=some (W1a (Wx t slot at' M0) vv):=fun M e=>by
  rw[Zw ((e.get _ (by omega)).trans g1) (Nat.le_of_ble_eq_true rfl)]
  rfl
 have hsl:=U2b (t:=t) (slot:=slot) (m:=M0)
 simp -implicitDefEqProofs (disch:=first|omega|simp only[go_sem]) only[go_sem,true_and,Xj,hst]
 refine s2d rfl ?_
 simp -implicitDefEqProofs (disch:=first|omega|simp only[go_sem]) only[go_sem,true_and,v6c,x8c,f10,lq D1 (.refl _)]
 refine B1a (R5c (aD.keep (x1.get _ (by omega))) cD (by omega) hok1 (by omega)) ?_
 rintro r E ⟨w,rfl,mw⟩
 have eE:Ext H E:=(eD.trans x1).trans mw.ext
 have gE:=(eE.get (h.next+1) (by omega)).trans gR
 have s1:Yw Tryz.prog 36 (.pointer (some ⟨h.next+1,0,none⟩)) (W1a (Wx t slot at' M0) vv) E=some (E.set (h.next+1) (.row [.int .i64 (Wx t slot at' M0).e,vv,.int .i64 slot,.int .i64 at'] 0 false)):=(R7a rfl).trans (l1a gE rfl hone2)
 obtain ⟨E1,hE1⟩:∃ M,M=E.set (h.next+1) (.row [.int .i64 (Wx t slot at' M0).e,vv,.int .i64 slot,.int .i64 at'] 0 false):=⟨_,rfl⟩
 rw[← hE1]at s1
 have s2:Zx E1 (h.next+1) 0 4=some (W1a (Wx t slot at' M0) vv):=by
  rw[hE1,Zw (ZX _ _) (Nat.le_of_ble_eq_true rfl)]
  rfl
 have av:Arg fI64.rep E vv (Wx t slot at' M0).vs:=((sv.mono fun i hi=>⟨hi.2,rfl⟩:Arg fI64.rep D vv (Wx t slot at' M0).vs).ext x1).ext mw.ext
 simp -implicitDefEqProofs (disch:=first|omega|simp only[go_sem]) only[go_sem,true_and,Y3a,lq E mw.ext,f8,s1,G3a,f2a,h4a,k0a,s2]
 refine ⟨_,rfl,vv,w,rfl,by rw[hE1];exact K4a av gE (by decide),?_⟩
 rw[hE1]
 exact (mw.base ((hE.trans eD).trans x1)).setX (.row gE (by decide)) (by omega)
abbrev U1b (n:Int):Value:=.int .i64 n
abbrev U4a (x:Row) (v:Value):Value:=.agg #[.int .i64 x.ses,.int .i64 x.req,.int .i64 x.x.e,v,.int .i64 x.x.s,.int .i64 x.x.p]
def Z1a (l:List Row) (n:Int):Option Row:=l.find? fun x=>x.ses=n
def RowM (S:Nat→Prop) (h:DHeap) (rm:List (Int × Value)) (l:List Row):Prop:=
 (rm.map (·.1)).Nodup∧(l.Pairwise fun a b=>a.ses<b.ses)∧(∀ n,Z1a l n=none→Vz rm n=none)∧∀ n x,Z1a l n=some x→∃ v,Vz rm n=some (U4a x v)∧Sl fI64.rep S h v x.x.vs
abbrev M9a (h:DHeap) (B cid rid:Nat):Nat→Prop:=fun i=>i<h.next∧i≠B∧i≠cid∧i≠rid
structure SerAt (h:DHeap) (B cid rid:Nat) (s:N0a) (mm:List (Key × Value)) (rm:List (Int × Value)):Prop where
 row:h.get B=some (.row [.int .i64 s.slot,.map (some cid),.map (some rid)] 0 false)
 cel:MapAt Zq h cid mm
 cm:CelM mm s.cells
 rwm:MapAt U1b h rid rm
 rw:RowM (M9a h B cid rid) h rm s.rows
 lt:B<h.next∧cid<h.next∧rid<h.next
 ne:B≠cid∧B≠rid∧cid≠rid
 ok:∀ c∈s.cells,fCell.ok c
 sm:∀ x∈s.rows,x.x.vs.length≤4096
theorem RowM.mono {S S':Nat→Prop} {h h':DHeap} {rm:List (Int × Value)} {l:List Row} (a:RowM S h rm l) (m:∀ i,S i→S' i∧h'.get i=h.get i):RowM S' h' rm l:=
 ⟨a.1,a.2.1,a.2.2.1,fun n x hx=>by
  obtain ⟨v,h1,h2⟩:=a.2.2.2 n x hx
  exact ⟨v,h1,h2.mono m⟩⟩
theorem SerAt.ext {h h1:DHeap} {B cid rid:Nat} {s:N0a} {mm:List (Key × Value)} {rm:List (Int × Value)} (a:SerAt h B cid rid s mm rm) (e:Ext h h1):SerAt h1 B cid rid s mm rm:=
 ⟨(e.get _ a.lt.1).trans a.row,a.cel.keep (e.get _ a.lt.2.1),a.cm,a.rwm.keep (e.get _ a.lt.2.2),a.rw.mono fun i hi=>⟨⟨Nat.lt_of_lt_of_le hi.1 e.next,hi.2⟩,e.get i hi.1⟩,⟨Nat.lt_of_lt_of_le a.lt.1 e.next,Nat.lt_of_lt_of_le a.lt.2.1 e.next,Nat.lt_of_lt_of_le a.lt.2.2 e.next⟩,a.ne,a.ok,a.sm⟩
theorem R5b:Tryz.prog.underlying 80=some (.map 2 59):=by kernel_rfl
def z9b:Row:=⟨0,0,⟨0,[],0,0⟩⟩
theorem g9b:d8a Tryz.prog 80 U1b (U4a z9b YU):=⟨_,_,R5b,KeyOf.int (by kernel_rfl),by kernel_rfl⟩
theorem z5b {h:DHeap} {ox oy:Operand} {B:Nat}:Yz Tryz.prog .eql 47 ox oy (.pointer (some ⟨B,0,none⟩)) (.pointer none) h=.ok (.value (.bool false)) h:=by
 rfl
theorem A5c {h:DHeap} {ox oy:Operand} {B:Nat}:Yz Tryz.prog .eql 79 ox oy (.map (some B)) (.map none) h=.ok (.value (.bool false)) h:=by
 rfl
theorem h0b {h:DHeap} {B cid rid:Nat} {s:N0a} {mm:List (Key × Value)} {rm:List (Int × Value)} (a:SerAt h B cid rid s mm rm):DC Tryz.prog 42 [.pointer (some ⟨B,0,none⟩)] h (.ret (.bool false)) h:=by
 refine Ct.pure (c9d (by simp) ?_) (n0a _)
 simp -implicitDefEqProofs (disch:=first|omega|simp only[go_sem]) only[go_sem,true_and,c42,z5b,A5c,Zy a.row,Zj,ZY]
 exact ⟨_,rfl,rfl,.refl _⟩
theorem Q5c {h:DHeap} {B cid rid:Nat} {s:N0a} {mm:List (Key × Value)} {rm:List (Int × Value)} (a:SerAt h B cid rid s mm rm):DC Tryz.prog 24 [.pointer (some ⟨B,0,none⟩)] h (.ret (.int .i64 s.slot)) h:=by
 refine Ct.pure (S8d (by simp) ?_) (t0a _ _)
 simp -implicitDefEqProofs (disch:=first|omega|simp only[go_sem]) only[go_sem,true_and,c24]
 refine YV (h0b a) ?_
 simp -implicitDefEqProofs (disch:=first|omega|simp only[go_sem]) only[go_sem,true_and,Zy a.row]
 exact ⟨_,rfl,rfl,.refl _⟩
theorem M1d {h:DHeap}:Ct Tryz.prog 16 [] h fun r h1=>∃ B cid rid,r=.ret (.pointer (some ⟨B,0,none⟩))∧Ext h h1∧h.next≤B∧h.next≤cid∧h.next≤rid∧SerAt h1 B cid rid ⟨0,[],[]⟩ [] []:=by
 refine Q8d (by simp) ?_
 have hbd:∀ a b:Nat,XW Tryz.prog 82 [(1,.map (some a)),(2,.map (some b))]=some (.agg #[.int .i64 0,.map (some a),.map (some b)]):=fun a b=>l0a A6d rfl
 obtain ⟨H1,hH1⟩:∃ H,h.push (.map [] 0)=H:=⟨_,rfl⟩
 have n1:H1.next=h.next+1:=by rw[← hH1];rfl
 have e1:Ext h H1:=hH1▸Ext.push1 _ _
 have a1:MapAt Zq H1 h.next ([]:List (Key × Value)):=by rw[← hH1];exact MapAt.new
 obtain ⟨H2,hH2⟩:∃ H,H1.push (.map [] 0)=H:=⟨_,rfl⟩
 have n2:H2.next=h.next+2:=by rw[← hH2];show H1.next+1=_;omega
 have e2:Ext H1 H2:=hH2▸Ext.push1 _ _
 have a2:MapAt U1b H2 H1.next ([]:List (Int × Value)):=by rw[← hH2];exact MapAt.new
 obtain ⟨H3,hH3⟩:∃ H,H2.push (.row [.int .i64 0,.map (some h.next),.map (some H1.next)] 0 false)=H:=⟨_,rfl⟩
 have n3:H3.next=h.next+3:=by rw[← hH3];show H2.next+1=_;omega
 have e3:Ext H2 H3:=hH3▸Ext.push1 _ _
 have g3:H3.get H2.next=some (.row [.int .i64 0,.map (some h.next),.map (some H1.next)] 0 false):=by rw[← hH3];exact Zz _ _
 simp -implicitDefEqProofs (disch:=first|omega|simp only[go_sem]) only[go_sem,true_and,c16,hH1,hH2,hbd,hH3]
 refine ⟨_,rfl,H2.next,h.next,H1.next,rfl,(e1.trans e2).trans e3,by omega,by omega,by omega,g3,a1.keep ((e2.trans e3).get _ (by omega)),CelM.nil,a2.keep (e3.get _ (by omega)),⟨by simp,List.Pairwise.nil,fun n _=>rfl,fun n x hx=>by cases hx⟩,⟨by omega,by omega,by omega⟩,⟨by omega,by omega,by omega⟩,fun c hc=>(by cases hc),fun c hc=>(by cases hc)⟩
theorem O1d {h:DHeap} {x:Res} {v:Value} (hv:Arg fI64.rep h v x.vs) (hl:x.vs.length≤4294967296) :
 Ct Tryz.prog 44 [W1a x v] h fun r h1=>∃ w,r=.ret (W1a x w)∧Made fI64 h h1 w x.vs:=by
 refine f9d (by simp) ?_
 have hcl:(W1a x v).cells.toList=[.int .i64 x.e,v,.int .i64 x.s,.int .i64 x.p]:=rfl
 obtain ⟨H,hH⟩:∃ H,H=(h.push (.row [.int .i64 x.e,v,.int .i64 x.s,.int .i64 x.p] 0 false)).push (.row [.int .i64 0,.slice none 0 0,.int .i64 0,.int .i64 0] 0 false):=⟨_,rfl⟩
 have hE:Ext h H:=by rw[hH];exact (Ext.push1 _ _).push _
 have hHn:H.next=h.next+2:=by rw[hH];rfl
 have ga:H.get h.next=some (.row [.int .i64 x.e,v,.int .i64 x.s,.int .i64 x.p] 0 false):=by rw[hH];exact c3a
 have gb:H.get (h.next+1)=some (.row [.int .i64 0,.slice none 0 0,.int .i64 0,.int .i64 0] 0 false):=by rw[hH];exact Zz _ _
 obtain ⟨K,hK⟩:∃ K,a3a fI64 H v x.vs=K:=⟨_,rfl⟩
 obtain ⟨w,hw⟩:∃ w,q4a H v x.vs=w:=⟨_,rfl⟩
 have t1:=m8b (hv.ext hE) hl
 have m1:=z0b (h:=H) (hv.ext hE)
 rw[hK,hw]at t1 m1
 have hKn:=m1.ext.next
 have gK:=(m1.ext.get h.next (by omega)).trans ga
 have hww:=m1.sl.cells1
 obtain ⟨K1,hK1⟩:∃ M,M=K.set h.next (.row [.int .i64 x.e,w,.int .i64 x.s,.int .i64 x.p] 0 false):=⟨_,rfl⟩
 have s1:storeAt K h.next 1 [w]=some K1:=by rw[hK1];exact I9b hww (q6d m1.sl) (by simp) rfl gK
 have g1:K1.get h.next=some (.row [.int .i64 x.e,w,.int .i64 x.s,.int .i64 x.p] 0 false):=by rw[hK1];exact ZX _ _
 have g2:K1.get (h.next+1)=some (.row [.int .i64 0,.slice none 0 0,.int .i64 0,.int .i64 0] 0 false):=by rw[hK1,Zv _ _ (by omega)];exact (m1.ext.get _ (by omega)).trans gb
 have hone:[Value.int .i64 x.e,w,.int .i64 x.s,.int .i64 x.p].all Value.oneCell'=true:=by
  obtain ⟨_,_,rfl⟩:=m1.sl.isSlice
  rfl
 have l1:Zx K1 h.next 0 4=some (W1a x w):=by rw[Zw g1 (Nat.le_of_ble_eq_true rfl)];rfl
 obtain ⟨K2,hK2⟩:∃ M,M=K1.set (h.next+1) (.row [.int .i64 x.e,w,.int .i64 x.s,.int .i64 x.p] 0 false):=⟨_,rfl⟩
 have s2:storeAt K1 (h.next+1) 0 [.int .i64 x.e,w,.int .i64 x.s,.int .i64 x.p]=some K2:=by rw[hK2];exact l1a g2 rfl hone
 have l2:Zx K2 (h.next+1) 0 4=some (W1a x w):=by rw[hK2,Zw (ZX _ _) (Nat.le_of_ble_eq_true rfl)];rfl
 simp -implicitDefEqProofs (disch:=first|omega|simp only[go_sem]) only[go_sem,true_and,c44,hcl,g0a,← hH,Zy ga]
 refine YV t1 ?_
 simp -implicitDefEqProofs (disch:=first|omega|simp only[go_sem]) only[go_sem,true_and,hww,s1,l1,s2]
 refine t1a (v:=W1a x w) ?_ ?_
 ·rw[G0a]
  simp -implicitDefEqProofs (disch:=first|omega|simp only[go_sem]) only[go_sem,true_and,l2,k0a]
 ·refine ⟨w,rfl,?_⟩
  rw[hK2,hK1]
  exact ((m1.base hE).setX (.row gK (by decide)) (Nat.le_refl _)).setX (.row (by rw[← hK1];exact g2) (by decide)) (by omega)
end Go.Proofs.YtheamfnbfgiaeaaGreat
