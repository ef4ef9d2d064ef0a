/-
SerialAborts: for every input of bulk at most 1048576 the law returns true, and the input reads as it did. Conditions: none.
-/
import Derived.Test.YtheamfnbfgiaeaaRows
import Derived.WalkKit
import Derived.ProofKit
import Derived.OpenShut
import Derived.JoinedCond
import Derived.Test.YtheamfnbfgiaeaaBase1
import Derived.Test.YtheamfnbfgiaeaaBase2
import Derived.Test.YtheamfnbfgiaeaaSerialAbortsParts1
import Derived.Test.YtheamfnbfgiaeaaSerialAbortsParts2
set_option linter.unusedSimpArgs false
set_option linter.unusedVariables false
set_option linter.defProp false
namespace Go.Proofs.Ytheamfnbfgiaeaa
open Go.D
set_option maxRecDepth 100000
abbrev Xw:Value:=.slice none 0 0
theorem N3c {P:Program} {h:DHeap} {ts:Array TypeId} {ty:TypeId} {a b:Int}:Y1a P .max ts ty h (some [.int .i64 a,.int .i64 b])=.ok (.value (.int .i64 (max a b))) h:=by
 have hq:ZW P (Builtin.max_ ts ty #[.int .i64 a,.int .i64 b])=some (.inr (.int .i64 (max a b))):=by
  have e:max a b=if a<b then b else a:=by
   by_cases h:a<b
   ·rw[if_pos h];omega
   ·rw[if_neg h];omega
  rw[e]
  rfl
 have hf:([Value.int .i64 a,.int .i64 b].all Yk)=true:=rfl
 show (if [Value.int .i64 a,.int .i64 b].all Yk=true then XX P (Builtin.max_ ts ty #[.int .i64 a,.int .i64 b]) h else .bad)=_
 rw[if_pos hf]
 simp only[XX,hq]
 rfl
theorem C1d {e:Int}:Xj Try.prog 87 [(0,.int .i64 e)]=some (.agg #[.int .i64 e,Xw,Xw,.int .i64 0]):=k0a z4b rfl
theorem w4c {e k:Int}:Xj Try.prog 87 [(0,.int .i64 e),(3,.int .i64 k)]=some (.agg #[.int .i64 e,Xw,Xw,.int .i64 k]):=k0a z4b rfl
theorem D1d {e k:Int} {u w:Value} (hu:u.cells=#[u]) (hw:w.cells=#[w]):Xj Try.prog 87 [(0,.int .i64 e),(1,u),(2,w),(3,.int .i64 k)]=some (.agg #[.int .i64 e,u,w,.int .i64 k]):=k0a z4b (by simp[d5a,hu,hw,YW,u1b])
theorem D9c {t:Txn} {vc va vr vw:Value} {a b c:Nat}:Xj Try.prog 108 [(0,Wq t.ses t.req vc va vr vw),(2,.map (some a)),(3,.map (some b)),(6,.map (some c))]=some (.agg (Wv t vc va vr vw [0,0,0,0,0,0,0,0] a b c Xw 0).toArray):=k0a w8c rfl
def RunR (h:DHeap) (o:V2b) (r:DEnd) (h1:DHeap):Prop:=∃ vv cv,r=.ret (.agg #[.int .i64 o.e,vv,cv,.int .i64 o.s])∧Made fI64 h h1 vv o.vs∧Made fChange h h1 cv o.ch
theorem RunR.none {h h1:DHeap} {e k:Int} (hE:Ext h h1) {o:V2b} (ho:o=⟨e,[],[],k⟩):RunR h o (.ret (.agg #[.int .i64 e,Xw,Xw,.int .i64 k])) h1:=by
 subst ho
 exact ⟨_,_,rfl,.nil _ hE,.nil _ hE⟩
set_option maxHeartbeats 4000000 in
theorem i5d {h:DHeap} {t:Txn} {vc va vr vw v:Value} {l:List Pair} {f:Int} (x:TxV (InH h) h t vc va vr vw) (hT:Q3a t) (hb:Arg fPair.rep h v l) (hl:l.length≤1048576) :
 Ct Try.prog 30 [Wq t.ses t.req vc va vr vw,v,.int .i64 f] h (RunR h (z1a t l f)):=by
 obtain ⟨R,hR⟩:∃ R,RunR h (z1a t l f)=R:=⟨_,rfl⟩
 rw[hR]
 refine n3d (by simp) ?_
 have hcl:(Wq t.ses t.req vc va vr vw).cells.toList=[.int .i64 t.ses,.int .i64 t.req,vc,va,vr,vw]:=rfl
 obtain ⟨H1,hH1⟩:∃ H,h.push (.row [.int .i64 t.ses,.int .i64 t.req,vc,va,vr,vw] 0 false)=H:=⟨_,rfl⟩
 have g1:H1.get h.next=some (.row [.int .i64 t.ses,.int .i64 t.req,vc,va,vr,vw] 0 false):=by rw[← hH1];exact Zz _ _
 have n1:H1.next=h.next+1:=by rw[← hH1];rfl
 have e1:Ext h H1:=by rw[← hH1];exact Ext.push1 _ _
 obtain ⟨H2,hH2⟩:∃ H,H1.push (.row [.int .i64 0,Xw,Xw,.int .i64 0] 0 false)=H:=⟨_,rfl⟩
 have g2:H2.get H1.next=some (.row [.int .i64 0,Xw,Xw,.int .i64 0] 0 false):=by rw[← hH2];exact Zz _ _
 have n2:H2.next=h.next+2:=by rw[← hH2,l0a,n1]
 have e12:Ext H1 H2:=by rw[← hH2];exact Ext.push1 _ _
 have e2:Ext h H2:=e1.trans e12
 have lt:∀ K,Ext H2 K→Zj K h.next 0 6=some (Wq t.ses t.req vc va vr vw):=fun K e=>by
  rw[Zu ((e.get _ (by omega)).trans ((e12.get _ (by omega)).trans g1)) (Nat.le_of_ble_eq_true rfl)]
  rfl
 have lc:∀ K,Ext H2 K→ZZ K h.next 2=some vc:=fun K e=>Zy ((e.get _ (by omega)).trans ((e12.get _ (by omega)).trans g1))
 have hby:=O6a x.c
 have x2:TxV (InH H2) H2 t vc va vr vw:=x.ext e2
 have res:∀ (K:DHeap) (e k:Int) (u w:Value),u.cells=#[u]→w.cells=#[w]→[Value.int .i64 e,u,w,.int .i64 k].all Value.oneCell'=true→K.get H1.next=some (.row [.int .i64 0,Xw,Xw,.int .i64 0] 0 false) →
  ∃ K',storeAt K H1.next 0 [.int .i64 e,u,w,.int .i64 k]=some K'∧Zj K' H1.next 0 4=some (.agg #[.int .i64 e,u,w,.int .i64 k])∧∃ o,K'=K.set H1.next o:=fun K e k u w hu hw ho g=>by
  refine ⟨_,b0a g (Nat.le_of_ble_eq_true rfl) ho,?_,_,rfl⟩
  rw[Zu (Zq _ _) (Nat.le_of_ble_eq_true rfl)]
  rfl
 simp -implicitDefEqProofs (disch:=first|omega|simp only[go_sem]) only[go_sem,true_and,c30,hcl,hH1,hH2,lt H2 (.refl _)]
 refine YQ (w2c x2.c x2.a x2.r x2.w hT.c hby) ?_
 by_cases hz:v2a t=0
 case neg=>
  obtain ⟨K',s1,s2,o,rfl⟩:=res H2 1 0 Xw Xw rfl rfl rfl g2
  simp -implicitDefEqProofs (disch:=first|omega|simp only[go_sem]) only[go_sem,true_and,hz,C1d,s1,C1a,D0a,s2]
  refine ⟨_,rfl,?_⟩
  rw[← hR]
  exact RunR.none (e2.set (by omega)) (by unfold z1a;rw[if_pos hz])
 obtain ⟨hdec,_,hna,hnr,hnw⟩:=G0b hz
 simp -implicitDefEqProofs (disch:=first|omega|simp only[go_sem]) only[go_sem,true_and,hz,lc H2 (.refl _)]
 refine Yv (T3b x2.c hT.c) ?_
 rintro r Q1 ⟨w,rfl,eQ1,hw⟩
 obtain ⟨L,hL⟩:∃ L,WX t.code=L:=⟨_,rfl⟩
 rw[hL]at hw
 have eQ:Ext h Q1:=e2.trans eQ1
 have hLlen:L.length≤512:=by
  have h1:=m5a (l:=t.code) (n:=t.code.length) (i:=0) (by omega)
  obtain ⟨h2,_,_,h3⟩:=s8a hdec
  rw[← hL,h2]
  omega
 obtain ⟨M1,hM1⟩:∃ H,Q1.push (.map [] 0)=H:=⟨_,rfl⟩
 obtain ⟨M2,hM2⟩:∃ H,M1.push (.map [] 0)=H:=⟨_,rfl⟩
 obtain ⟨M3,hM3⟩:∃ H,M2.push (.map [] 0)=H:=⟨_,rfl⟩
 obtain ⟨M4,hM4⟩:∃ H,M3.push (.row (Wv t vc va vr vw [0,0,0,0,0,0,0,0] Q1.next M1.next M2.next Xw 0) 0 false)=H:=⟨_,rfl⟩
 have m1:M1.next=Q1.next+1:=by rw[← hM1];rfl
 have m2:M2.next=Q1.next+2:=by rw[← hM2,l0a,m1]
 have m3:M3.next=Q1.next+3:=by rw[← hM3,l0a,m2]
 have m4:M4.next=Q1.next+4:=by rw[← hM4,l0a,m3]
 have E1:Ext Q1 M1:=hM1▸Ext.push1 _ _
 have E2:Ext M1 M2:=hM2▸Ext.push1 _ _
 have E3:Ext M2 M3:=hM3▸Ext.push1 _ _
 have E4:Ext M3 M4:=hM4▸Ext.push1 _ _
 have a1:MapAt Zk M4 Q1.next ([]:List (Key × Value)):=MapAt.keep (by rw[← hM1];exact MapAt.new) ((E4.get _ (by omega)).trans ((E3.get _ (by omega)).trans (E2.get _ (by omega))))
 have a2:MapAt Zk M4 M1.next ([]:List (Key × Value)):=MapAt.keep (by rw[← hM2];exact MapAt.new) ((E4.get _ (by omega)).trans (E3.get _ (by omega)))
 have a3:MapAt (fun n:Int=>Value.int .i64 n) M4 M2.next ([]:List (Int × Value)):=MapAt.keep (by rw[← hM3];exact MapAt.new) (E4.get _ (by omega))
 have a4:M4.get M3.next=some (.row (Wv t vc va vr vw [0,0,0,0,0,0,0,0] Q1.next M1.next M2.next Xw 0) 0 false):=by rw[← hM4];exact Zz _ _
 have EQ4:Ext Q1 M4:=((E1.trans E2).trans E3).trans E4
 have elw:∀ K,dLen Try.prog #[99] w K=some (.int .i64 (L.length:Nat)):=hw.lens (P:=Try.prog) (ts:=#[99]) (t:=99) rfl r4b
 simp -implicitDefEqProofs (disch:=first|omega|simp only[go_sem]) only[go_sem,true_and,Xx,lt Q1 eQ1,hM1,hM2,hM3,D9c,hM4,elw]
 refine XU (σ:=Nat) (by kernel_rfl) (fun i s=>s.df=[]∧s.rd=none∧s.fr 1=some v∧s.fr 2=some (.int .i64 f)∧s.fr 3=some (.pointer (some ⟨h.next,0,none⟩))∧s.fr 6=some (.pointer (some ⟨H1.next,0,none⟩))∧s.fr 7=some w∧s.fr 9=some (.pointer (some ⟨M3.next,0,none⟩))∧s.fr 36=some w∧s.fr 37=some (.int .i64 (L.length:Nat))∧s.fr 38=some (.int .i64 (i:Nat))∧i≤L.length ∧
  Ext Q1 s.h∧M3.next<s.h.next∧s.h.get M3.next=some (.row (Wv t vc va vr vw [0,0,0,0,0,0,0,0] Q1.next M1.next M2.next Xw 0) 0 false)∧MapAt Zk s.h Q1.next ([]:List (Key × Value))∧MapAt Zk s.h M1.next ([]:List (Key × Value))∧MapAt (fun n:Int=>Value.int .i64 n) s.h M2.next (atM L i)) (fun i=>L.length - i) 0 ?_ ?_
 ·simp -implicitDefEqProofs (disch:=first|omega|simp only[go_sem]) only[go_sem,true_and]
  exact ⟨by trivial,Nat.zero_le _,EQ4,by omega,a4,a1,a2,a3⟩
 rintro i ⟨fr,df,K,rd⟩ K' hK' hX ⟨rfl,rfl,f1,f2,f3,f6,f7,f9,f36,f37,f38,hi,eK,hlt,b4,b1,b2,b3⟩
 simp only at f1 f2 f3 f6 f7 f9 f36 f37 f38 eK hlt b4 b1 b2 b3
 simp -implicitDefEqProofs (disch:=first|omega|simp only[go_sem]) only[go_sem,true_and,f36,f37,f38]
 refine j0a (fun hc1=>?_) (fun hc1=>?_)
 ·have hj:i<L.length:=by omega
  obtain ⟨id1,o1,q1,hid1,hat1⟩:=(hw.ext eK).idx (P:=Try.prog) (t:=99) O7b (k:=.i64) (i:=i) (x:=L[i]) (by simp)
  have l1:Zj K id1 o1 5=some (P0a L[i]):=hat1.flat.2.1
  obtain ⟨K1,hK1⟩:∃ H,H=K.push (.row (fInstr.enc L[i]) 0 false):=⟨_,rfl⟩
  have eK1:Ext K K1:=by rw[hK1];exact Ext.push1 _ _
  have gK1:K1.get K.next=some (.row (fInstr.enc L[i]) 0 false):=by rw[hK1];exact Zz _ _
  have c0:ZZ K1 K.next 0=some (.int .i64 L[i].pos):=Zy gK1
  have c18:ZZ K1 M3.next 18=some (.map (some M2.next)):=Zy ((eK1.get _ hlt).trans b4)
  have hst:Yz Try.prog 110 (.pointer (some ⟨K.next,0,none⟩)) (P0a L[i]) (K.push (.row [.int .i64 0,.int .i64 0,.int .i64 0,.int .i64 0,.int .i64 0] 0 false))=some K1:=by
   rw[hK1]
   exact (N4b rfl).trans F6a
  obtain ⟨o,hu,hm2⟩:=(b3.keep (eK1.get _ (by omega))).update z5c L[i].pos (.int .i64 (i:Nat))
  have hw1:=YZ hj (by omega)
  have hn1:=eK1.next
  simp -implicitDefEqProofs (disch:=first|omega|simp only[go_sem]) only[go_sem,true_and,f36,f38,q1,l1,hst]
  refine X8c rfl ?_
  simp -implicitDefEqProofs (disch:=first|omega|simp only[go_sem]) only[go_sem,true_and,H4c,G5c,f9,f38,c18,c0,hu,hw1]
  refine hK' (i+1) _ ?_ (by omega)
  refine ⟨by trivial,by trivial,(vy f1),(vy f2),(vy f3),(vy f6),(vy f7),(vy f9),(vy f36),(vy f37),vz,by omega,(eK.trans eK1).set (by omega),show M3.next<K1.next by omega,(Zx _ _ (by omega)).trans ((eK1.get _ hlt).trans b4),b1.keep ((Zx _ _ (by omega)).trans (eK1.get _ (by omega))),b2.keep ((Zx _ _ (by omega)).trans (eK1.get _ (by omega))),?_⟩
  rw[o2c hj]
  exact hm2
 obtain rfl:i=L.length:=by omega
 refine hX _ _ (by simp) ?_
 clear hK' hX K' f36 f37 f38 hc1 hi
 have eH2K:Ext H2 K:=eQ1.trans eK
 have eHK:Ext h K:=e2.trans eH2K
 simp -implicitDefEqProofs (disch:=first|omega|simp only[go_sem]) only[go_sem,true_and,f1,f3,lt K eH2K]
 refine Yv (p8c (x.ext eHK) (hb.ext eHK) hl (by have:=hT.r;omega)) ?_
 rintro r Y ⟨wn,rfl,mn⟩
 obtain ⟨ns,hns⟩:∃ ns,f2a t l=ns:=⟨_,rfl⟩
 rw[hns]at mn
 have hnsl:ns.length≤1048576:=by
  have h1:=List.length_filter_le (fun p:Pair=>decide (p.k∈t.reads)) (byK Pair.k l)
  have h2:=r6a (key:=Pair.k) l
  rw[← hns]
  unfold f2a
  omega
 have eKY:=mn.ext
 have nKY:=eKY.next
 have eln:∀ K,dLen Try.prog #[82] wn K=some (.int .i64 (ns.length:Nat)):=mn.arg.lens (P:=Try.prog) (ts:=#[82]) (t:=82) rfl q4b
 have y1:MapAt Zk Y Q1.next ([]:List (Key × Value)):=b1.keep (eKY.get _ (by omega))
 simp -implicitDefEqProofs (disch:=first|omega|simp only[go_sem]) only[go_sem,true_and,Xx,eln]
 refine XU (σ:=Nat) (by kernel_rfl) (fun j s=>s.df=[]∧s.rd=none∧s.fr 2=some (.int .i64 f)∧s.fr 6=some (.pointer (some ⟨H1.next,0,none⟩))∧s.fr 7=some w∧s.fr 9=some (.pointer (some ⟨M3.next,0,none⟩))∧s.fr 53=some wn∧s.fr 54=some (.int .i64 (ns.length:Nat))∧s.fr 55=some (.int .i64 (j:Nat))∧j≤ns.length ∧
  KpD (fun i=>i=Q1.next) Y s.h∧MapAt Zk s.h Q1.next (y1a Pair.k (fun p=>.int .i64 p.v) (ns.take j))) (fun j=>ns.length - j) 0 ?_ ?_
 ·simp -implicitDefEqProofs (disch:=first|omega|simp only[go_sem]) only[go_sem,true_and,f2,f6,f7,f9]
  exact ⟨by trivial,Nat.zero_le _,.refl _ _,y1⟩
 clear f1 f2 f3 f6 f7 f9
 rintro j ⟨fr,df,Z,rd⟩ K' hK' hX ⟨rfl,rfl,f2,f6,f7,f9,f53,f54,f55,hj,kZ,z1⟩
 simp only at f2 f6 f7 f9 f53 f54 f55 kZ z1
 have nYZ:=kZ.next
 have gz:Z.get M3.next=some (.row (Wv t vc va vr vw [0,0,0,0,0,0,0,0] Q1.next M1.next M2.next Xw 0) 0 false):=(kZ.get _ (by omega) (by omega)).trans ((eKY.get _ hlt).trans b4)
 simp -implicitDefEqProofs (disch:=first|omega|simp only[go_sem]) only[go_sem,true_and,f53,f54,f55]
 refine j0a (fun hc1=>?_) (fun hc1=>?_)
 ·have hjl:j<ns.length:=by omega
  obtain ⟨id1,o1,q1,hid1,hat1⟩:=(mn.sl.kp kZ (fun i hi=>⟨hi.2,fun e=>by omega⟩)).idx (P:=Try.prog) (t:=82) t8a (k:=.i64) (i:=j) (x:=ns[j]) (by simp)
  have l1:Zj Z id1 o1 3=some (f4a ns[j]):=hat1.flat.2.1
  obtain ⟨K1,hK1⟩:∃ H,H=Z.push (.row [.int .i32 ns[j].k.t,.int .i64 ns[j].k.r,.int .i64 ns[j].v] 0 false):=⟨_,rfl⟩
  have eK1:Ext Z K1:=by rw[hK1];exact Ext.push1 _ _
  have gK1:K1.get Z.next=some (.row [.int .i32 ns[j].k.t,.int .i64 ns[j].k.r,.int .i64 ns[j].v] 0 false):=by rw[hK1];exact Zz _ _
  have lk:Zj K1 Z.next 0 2=some (Zk ns[j].k):=by rw[Zu gK1 (Nat.le_of_ble_eq_true rfl)];rfl
  have lv:ZZ K1 Z.next 2=some (.int .i64 ns[j].v):=Zy gK1
  have c14:ZZ K1 M3.next 14=some (.map (some Q1.next)):=Zy ((eK1.get _ (by omega)).trans gz)
  have hst:Yz Try.prog 84 (.pointer (some ⟨Z.next,0,none⟩)) (.agg #[.int .i32 ns[j].k.t,.int .i64 ns[j].k.r,.int .i64 ns[j].v]) (Z.push (.row [.int .i32 0,.int .i64 0,.int .i64 0] 0 false))=some K1:=by
   rw[hK1]
   exact (N2b rfl).trans (a0a rfl rfl)
  obtain ⟨o,hu,hm2⟩:=(z1.keep (eK1.get _ (by omega))).update n0b ns[j].k (.int .i64 ns[j].v)
  have hw1:=YZ hjl (by omega)
  simp -implicitDefEqProofs (disch:=first|omega|simp only[go_sem]) only[go_sem,true_and,f53,f55,q1,l1,hst]
  refine Y8c rfl ?_
  simp -implicitDefEqProofs (disch:=first|omega|simp only[go_sem]) only[go_sem,true_and,I4c,H5c,f9,f55,c14,lk,lv,hu,hw1]
  refine hK' (j+1) _ ?_ (by omega)
  refine ⟨by trivial,by trivial,(vy f2),(vy f6),(vy f7),(vy f9),(vy f53),(vy f54),vz,by omega,(kZ.ext eK1).set (.inl rfl),?_⟩
  rw[X7a hjl]
  exact hm2
 obtain rfl:j=ns.length:=by omega
 refine hX _ _ (by simp) ?_
 rw[List.take_length]at z1
 clear hK' hX K' f53 f54 f55 hc1 hj
 have eHY:Ext h Y:=eHK.trans eKY
 have kQ:∀ i,i<Q1.next→Z.get i=Q1.get i:=fun i hi=>(kZ.get _ (by have:=eK.next;omega) (by omega)).trans ((eKY.get _ (by have:=eK.next;omega)).trans (eK.get _ hi))
 have nQZ:Q1.next+4≤Z.next:=by omega
 have C:X5a Z M3.next Q1.next M1.next M2.next t vc va vr vw ns L:={
  lb:=by omega
  lh:=by omega
  lm:=by omega
  la:=by omega
  bm:=by omega
  hb:=by omega
  hmm:=by omega
  ab:=by omega
  amm:=by omega
  tx:=x.mono fun i hi=>⟨⟨by have:=eQ.next;have:i<h.next:=hi;omega,by have:=eQ.next;have:i<h.next:=hi;omega⟩,(kQ i (Nat.lt_of_lt_of_le hi eQ.next)).trans (eQ.get i hi)⟩
  len:=hT
  has:=z1
  at_:=⟨_,b3.keep ((kZ.get _ (by omega) (by omega)).trans (eKY.get _ (by omega))),fun i x hx=>X5b (hL▸X6c) (Nat.le_refl _) (List.getElem?_eq_some_iff.1 hx).1 hx⟩
  okm:=mn.ok }
 have I0:RunI Z Z M3.next Q1.next M1.next M2.next t vc va vr vw rs0 0:=⟨.refl _ _,⟨Xw,none,gz,Owns.nil _ _ _,fun i hi=>by cases hi⟩,b2.keep ((kZ.get _ (by omega) (by omega)).trans (eKY.get _ (by omega))),rfl,fun n hn=>by
  have:n=0:=by simpa [rs0] using hn
  subst this
  exact t0a.2 ⟨by decide,by decide⟩,by decide,fun c hc=>by cases hc⟩
 have hwZ:∀ K,KpD (fun i=>i=M3.next∨i=M1.next) Z K→Arg fInstr.rep K w L:=fun K k=>hw.mono fun i hi=>⟨by have:=k.next;have:i<Q1.next:=hi;omega,(k.get i (by have:i<Q1.next:=hi;omega) (by have:i<Q1.next:=hi;omega)).trans (kQ i hi)⟩
 have rZ:∀ K,KpD (fun i=>i=M3.next∨i=M1.next) Z K→K.get H1.next=some (.row [.int .i64 0,Xw,Xw,.int .i64 0] 0 false):=fun K k=>by
  have:=eQ1.next
  exact (k.get _ (by omega) (by omega)).trans ((kQ _ (by omega)).trans ((eQ1.get _ (by omega)).trans g2))
 have eZ:∀ K,KpD (fun i=>i=M3.next∨i=M1.next) Z K→Ext h K:=fun K k=>by
  have e0:Ext h Z:=kZ.toExt eHY (fun i hi=>by have:=eQ.next;omega)
  exact k.toExt e0 fun i hi=>by have:=eQ.next;omega
 obtain ⟨F,hF⟩:∃ F,c4a f=F:=⟨_,rfl⟩
 have hFl:F≤4096:=hF▸i4b f
 have hfu:max 0 (min f 4096)=(F:Nat):=hF▸X7c f
 obtain ⟨O,hO⟩:∃ O,z1a t l f=O:=⟨_,rfl⟩
 have hO2:m1a t ns F 0 0 rs0=O:=by
  rw[← hO]
  unfold z1a
  rw[if_neg (fun hh=>hh hz),hns,hF]
 rw[hO]at hR
 simp -implicitDefEqProofs (disch:=first|omega|simp only[go_sem]) only[go_sem,true_and,f2,m8c,N3c,hfu]
 refine XU (σ:=Nat × Nat × RS) (by kernel_rfl) (fun a s=>s.df=[]∧s.rd=none∧s.fr 2=some (.int .i64 (F:Nat))∧s.fr 6=some (.pointer (some ⟨H1.next,0,none⟩))∧s.fr 7=some w∧s.fr 9=some (.pointer (some ⟨M3.next,0,none⟩))∧s.fr 14=some (.int .i64 (a.1:Nat))∧RunI Z s.h M3.next Q1.next M1.next M2.next t vc va vr vw a.2.2 (a.2.1:Nat)∧a.1≤F∧a.2.1≤L.length∧a.2.2.w.length≤a.1∧m1a t ns (F - a.1) (Wj t a.2.1) a.1 a.2.2=O) (fun a=>F - a.1) (0,0,rs0) ?_ ?_
 ·simp -implicitDefEqProofs (disch:=first|omega|simp only[go_sem]) only[go_sem,true_and,f6,f7,f9]
  exact ⟨by trivial,I0,Nat.zero_le _,Nat.zero_le _,Nat.le_refl _,by rw[x1b hdec];exact hO2⟩
 clear f2 f6 f7 f9
 rintro ⟨k,i,st⟩ ⟨fr,df,K,rd⟩ K' hK' hX ⟨rfl,rfl,f2,f6,f7,f9,f14,I,hk,hi,hwl,hrun⟩
 simp only at f2 f6 f7 f9 f14 I hk hi hwl hrun
 obtain ⟨vo,ow,gb,oo,how⟩:=I.row
 have l8:=I.len
 have c17:ZZ K M3.next 17=some (.int .i64 (i:Nat)):=(Zy gb).trans (n1a l8).2.2.2.1
 have hbK:M3.next<K.next:=Nat.lt_of_lt_of_le C.lb I.kp.next
 simp -implicitDefEqProofs (disch:=first|omega|simp only[go_sem]) only[go_sem,true_and,f7,f9,c17,elw]
 refine j0a (fun hc1=>?_) (fun hc1=>?_)
 ·have hil:i<L.length:=by omega
  obtain ⟨y,hy⟩:∃ y,L[i]? = some y:=⟨_,List.getElem?_eq_getElem hil⟩
  have hy':(WX t.code)[i]? = some y:=by rw[hL];exact hy
  obtain ⟨hp1,hp2,hp3,hp4,hp5⟩:=q8a hdec hy'
  have hiok:=w0c hz hby hy'
  have hjmp:T0a y.op=true→∃ (i:Nat) (z:Instr),L[i]? = some z∧z.pos=y.imm:=fun hj=>by
   obtain ⟨i',z,q1,q2,_⟩:=w1b hdec (List.mem_of_getElem? hy') hj
   rw[hL]at q1
   exact ⟨i',z,q1,q2⟩
  by_cases hkF:k=F
  ·have hkF':=eq_true (show ((k:Nat):Int)=(F:Nat) by omega)
   obtain ⟨K3,s1,s2,o,rfl⟩:=res K 2 k Xw Xw rfl rfl rfl (rZ K I.kp)
   simp -implicitDefEqProofs (disch:=first|omega|simp only[go_sem]) only[go_sem,true_and,f2,f6,f14,hkF',w4c,s1]
   refine hX _ _ (by simp) ?_
   simp -implicitDefEqProofs (disch:=first|omega|simp only[go_sem]) only[go_sem,true_and,f6,C1a,D0a,s2]
   refine ⟨_,rfl,?_⟩
   rw[← hR]
   refine RunR.none ((eZ K I.kp).set (by omega)) ?_
   rw[← hrun,hkF,Nat.sub_self]
   exact K3a hp1
  have hkF':¬ ((k:Nat):Int)=(F:Nat):=by omega
  have hw1:=YZ (i:=k) (n:=F) (by omega) (by omega)
  have hw2:=YZ hil (by omega)
  obtain ⟨id1,o1,q1,hid1,hat1⟩:=(hwZ K I.kp).idx (P:=Try.prog) (t:=99) O7b (k:=.i64) (i:=i) (x:=y) hy
  have l1:Zj K id1 o1 5=some (P0a y):=hat1.flat.2.1
  obtain ⟨K1,hK1⟩:∃ H,H=K.push (.row (fInstr.enc y) 0 false):=⟨_,rfl⟩
  have eK1:Ext K K1:=by rw[hK1];exact Ext.push1 _ _
  have gK1:K1.get K.next=some (.row (fInstr.enc y) 0 false):=by rw[hK1];exact Zz _ _
  have hst:Yz Try.prog 110 (.pointer (some ⟨K.next,0,none⟩)) (P0a y) (K.push (.row [.int .i64 0,.int .i64 0,.int .i64 0,.int .i64 0,.int .i64 0] 0 false))=some K1:=by
   rw[hK1]
   exact (N4b rfl).trans F6a
  have I1:=I.ext C eK1
  have gb1:K1.get M3.next=some (.row (Wv t vc va vr vw st.reg Q1.next M1.next M2.next vo (i:Nat)) 0 false):=(eK1.get _ hbK).trans gb
  have c17':ZZ K1 M3.next 17=some (.int .i64 (i:Nat)):=(Zy gb1).trans (n1a l8).2.2.2.1
  obtain ⟨K2,hK2⟩:∃ H,K1.set M3.next (.row (Wv t vc va vr vw st.reg Q1.next M1.next M2.next vo ((i+1:Nat):Int)) 0 false)=H:=⟨_,rfl⟩
  have I2:=hK2▸I1.pc' C gb1 ((i+1:Nat):Int)
  have hst2:storeAt K1 M3.next 17 [.int .i64 ((i+1:Nat):Int)]=some K2:=by
   rw[b0a gb1 (by rw[H5a l8];exact Nat.le_of_ble_eq_true rfl) rfl,f7a l8,hK2]
  have lx:Zj K2 K.next 0 5=some (P0a y):=by
   rw[← hK2,Zu ((Zx _ _ (by omega)).trans gK1) (Nat.le_of_ble_eq_true rfl)]
   rfl
  simp -implicitDefEqProofs (disch:=first|omega|simp only[go_sem]) only[go_sem,true_and,f2,f7,f9,f14,hkF',hw1,c17,q1,l1,hst,c17',hw2,hst2,lx]
  refine Yv (X0d C I2 hiok hjmp) ?_
  rintro r N ⟨rfl,pc',I3,j1,j2⟩
  have hpos:∀ e,(ZY t ns y st)=e→(ZY t ns (YV t.code (Wj t i)) st)=e:=fun e he=>by rw[← hp2];exact he
  have hwl3:=G8b (t:=t) (m:=ns) (x:=y) (s:=st)
  have hFk:F - k=(F - (k+1))+1:=by omega
  obtain ⟨e,s',jo,hE⟩:∃ e s' jo,ZY t ns y st=(e,s',jo):=⟨_,_,_,rfl⟩
  have hE':=hpos _ hE
  rw[hE]at I3 j1 j2 hwl3 ⊢
  simp only at I3 j1 j2 hwl3
  by_cases hm1:e=-1
  ·have hm1':=eq_true hm1
   simp -implicitDefEqProofs (disch:=first|omega|simp only[go_sem]) only[go_sem,true_and,Xx,hm1']
   obtain ⟨i',hi',hpi'⟩:∃ i':Nat,pc'=(i':Nat)∧i'≤L.length∧(jo.getD ((Wj t i:Nat)+XW (t.code.getD (Wj t i) 0))).toNat=Wj t i':=by
    cases jo with
    | none=>exact ⟨i+1,j1 rfl,by omega,hp5⟩
    | some a=>
      obtain ⟨i',z,hz1,hz2,hz3⟩:=j2 a rfl
      refine ⟨i',hz3,Nat.le_of_lt (List.getElem?_eq_some_iff.1 hz1).1,?_⟩
      have hz1':(WX t.code)[i']? = some z:=by rw[hL];exact hz1
      obtain ⟨_,_,q,_,_⟩:=q8a hdec hz1'
      show a.toNat=_
      rw[← hz2,q]
      simp
   subst hi'
   refine hK' (k+1,i',s') _ ?_ (by show F - (k+1)<F - k;omega)
   refine ⟨by trivial,by trivial,(vy f2),(vy f6),(vy f7),(vy f9),vz,I3,by show k+1≤F;omega,hpi'.1,by show s'.w.length≤k+1;omega,?_⟩
   show m1a t ns (F - (k+1)) (Wj t i') (k+1) s'=O
   rw[← hrun,hFk,s5a hp1 (by rw[hE'];exact hm1),hE',← hpi'.2]
  by_cases hm0:e=0
  ·subst hm0
   obtain ⟨vo3,ow3,gb3,oo3,how3⟩:=I3.row
   have hst3:storeAt N M3.next 17 [.int .i64 (L.length:Nat)]=some (N.set M3.next (.row (Wv t vc va vr vw s'.reg Q1.next M1.next M2.next vo3 (L.length:Nat)) 0 false)):=by
    rw[b0a gb3 (by rw[H5a I3.len];exact Nat.le_of_ble_eq_true rfl) rfl,f7a I3.len]
   simp -implicitDefEqProofs (disch:=first|omega|simp only[go_sem]) only[go_sem,true_and,Xx,f7,f9,elw,hst3]
   refine hK' (k+1,L.length,s') _ ?_ (by show F - (k+1)<F - k;omega)
   refine ⟨by trivial,by trivial,(vy f2),(vy f6),(vy f7),(vy f9),vz,I3.pc' C gb3 _,by show k+1≤F;omega,Nat.le_refl _,by show s'.w.length≤k+1;omega,?_⟩
   show m1a t ns (F - (k+1)) (Wj t L.length) (k+1) s'=O
   rw[z3a (by rw[h9a (by rw[hL];exact Nat.le_refl _)];exact Nat.le_refl _),← hrun,hFk,L3a hp1 (by rw[hE']),hE']
  ·obtain ⟨K3,s1,s2,o,rfl⟩:=res N e ((k+1:Nat):Int) Xw Xw rfl rfl rfl (rZ N I3.kp)
   simp -implicitDefEqProofs (disch:=first|omega|simp only[go_sem]) only[go_sem,true_and,Xx,hm1,hm0,f6,w4c,s1]
   refine hX _ _ (by simp) ?_
   simp -implicitDefEqProofs (disch:=first|omega|simp only[go_sem]) only[go_sem,true_and,f6,C1a,D0a,s2]
   refine ⟨_,rfl,?_⟩
   rw[← hR]
   refine RunR.none ((eZ N I3.kp).set (by omega)) ?_
   rw[← hrun,hFk,M3a hp1 (by rw[hE'];exact hm1) (by rw[hE'];exact hm0),hE']
 obtain rfl:i=L.length:=by omega
 refine hX _ _ (by simp) ?_
 have hO3:O=⟨0,st.out,byK Change.k st.w,(k:Nat)⟩:=by
  rw[← hrun]
  exact z3a (by rw[h9a (by rw[hL];exact Nat.le_refl _)];exact Nat.le_refl _)
 clear hK' hX K' f2 f7
 have c15:ZZ K M3.next 15=some (.map (some M1.next)):=(Zy gb).trans (n1a l8).2.1
 have hmK:M1.next<K.next:=Nat.lt_of_lt_of_le C.lm I.kp.next
 obtain ⟨oi,hr0,hr1⟩:=I.mine.range R4b hmK
 simp -implicitDefEqProofs (disch:=first|omega|simp only[go_sem]) only[go_sem,true_and,f9,c15,hr0]
 refine XU (σ:=List Change) (by kernel_rfl) (fun a s=>s.df=[]∧s.rd=none∧s.fr 6=some (.pointer (some ⟨H1.next,0,none⟩))∧s.fr 9=some (.pointer (some ⟨M3.next,0,none⟩))∧s.fr 14=some (.int .i64 (k:Nat))∧s.fr 119=some (.pointer (some ⟨K.next,0,none⟩))∧K.next<s.h.next∧(∃ cv,s.fr 17=some cv∧Made fChange K s.h cv a)∧(a.map Change.k).Nodup∧(∀ c∈a,Yu Change.k st.w c.k=some c)∧RngAt Zk s.h K.next M1.next (y1a Change.k g1a st.w) (a.map Change.k).reverse) (fun a=>st.w.length - a.length) [] ?_ ?_
 ·simp -implicitDefEqProofs (disch:=first|omega|simp only[go_sem]) only[go_sem,true_and,f6,f9,f14]
  exact ⟨Nat.lt_succ_self _,⟨_,rfl,.nil _ (Ext.push1 _ _)⟩,.nil,fun c hc=>(by cases hc),hr1⟩
 rintro a ⟨fr,df,N,rd⟩ K' hK' hX ⟨rfl,rfl,f6,f9,f14,f119,hlN,⟨cv,f17,mc⟩,hnd,hla,hrg⟩
 simp only at f6 f9 f14 f119 hlN f17 mc hrg
 obtain ⟨NL,hNL,hall⟩:=hrg.next (fun _=>rfl) (by omega)
 have hal:a.length≤st.w.length:=by
  have h1:=a1a (b:=st.w.map Change.k) hnd (fun k hk=>by
   obtain ⟨c,hc,rfl⟩:=List.mem_map.1 hk
   exact List.mem_map.2 ⟨c,(f0a (hla c hc)).1,rfl⟩)
  simpa using h1
 simp -implicitDefEqProofs (disch:=first|omega|simp only[go_sem]) only[go_sem,true_and,f119,hNL]
 intro pp hpp
 rcases hall pp hpp with ⟨rfl,hd⟩ | ⟨ck,cvv,o2,hk',hnk,rfl,hent,hr2⟩
 ·simp -implicitDefEqProofs (disch:=first|omega|simp only[go_sem]) only[go_sem,true_and]
  refine hX _ _ (by simp) ?_
  have eKN:=mc.ext
  have gbN:N.get M3.next=some (.row (Wv t vc va vr vw st.reg Q1.next M1.next M2.next vo (L.length:Nat)) 0 false):=(eKN.get _ hbK).trans gb
  have c16:∀ N',Ext N N'→ZZ N' M3.next 16=some vo:=fun N' e=>(Zy ((e.get _ (by omega)).trans gbN)).trans (n1a l8).2.2.1
  have hlast:byK Change.k a=byK Change.k st.w:=u2c hnd hla fun k hk=>by
   have:=hd k ((O3c st.w k).2 hk)
   simpa using this
  have hvo:vo.cells=#[vo]:=oo.sl.cells1
  simp -implicitDefEqProofs (disch:=first|omega|simp only[go_sem]) only[go_sem,true_and]
  refine Z8c rfl ?_
  simp -implicitDefEqProofs (disch:=first|omega|simp only[go_sem]) only[go_sem,true_and,J4c,I5c,f9,f14,f17,c16 N (.refl _)]
  refine x2a (t9b mc.arg (by omega)) ?_
  rintro r N2 ⟨w2,rfl,m2⟩
  have hw2:w2.cells=#[w2]:=m2.sl.cells1
  have hone:[Value.int .i64 0,vo,w2,.int .i64 (k:Nat)].all Value.oneCell'=true:=by
   obtain ⟨_,_,rfl⟩:=oo.sl.isSlice
   obtain ⟨_,_,rfl⟩:=m2.sl.isSlice
   rfl
  have eN:=m2.ext
  obtain ⟨K3,s1,s2,o,rfl⟩:=res N2 0 (k:Nat) vo w2 hvo hw2 hone ((eN.get _ (by have:=I.kp.next;have:=eKN.next;have:=eQ1.next;omega)).trans ((eKN.get _ (by have:=I.kp.next;have:=eQ1.next;omega)).trans (rZ K I.kp)))
  simp -implicitDefEqProofs (disch:=first|omega|simp only[go_sem]) only[go_sem,true_and,S4a,c16 N2 eN,D1d hvo hw2,f6,s1]
  simp -implicitDefEqProofs (disch:=first|omega|simp only[go_sem]) only[go_sem,true_and,C1a,D0a,f6,s2]
  refine ⟨_,rfl,?_⟩
  rw[← hR,hO3]
  have ehK:Ext h K:=eZ K I.kp
  have ehN2:Ext h N2:=(ehK.trans eKN).trans eN
  have hH1:h.next≤H1.next:=by omega
  have eset:Ext h (N2.set H1.next o):=ehN2.set hH1
  have h1Z:H1.next<Z.next:=by have:=eQ1.next;omega
  refine ⟨_,_,rfl,⟨eset,ow,oo.mono (by show K.next≤N2.next;exact Nat.le_trans eKN.next eN.next) (fun i hi=>?_) (fun i hi=>hi.elim),fun i hi=>?_⟩,?_⟩
  ·have h1:=how i hi
   have h2:=oo.lt i hi
   rw[Zx _ _ (by omega)]
   exact (eN.get _ (Nat.lt_of_lt_of_le h2 eKN.next)).trans (eKN.get _ h2)
  ·have:=how i hi
   have:=eQ.next
   omega
  ·rw[hlast]at m2
   obtain ⟨w3,p1,p2⟩:=m2.own
   refine ⟨eset,w3,p1.mono (Nat.le_refl _) (fun i hi=>Zx _ _ ?_) (fun i hi=>hi.elim),fun i hi=>?_⟩
   ·have:=p2 i hi
    have:=I.kp.next
    have:=eKN.next
    omega
   ·have:=p2 i hi
    have:=eKN.next
    have:=ehK.next
    omega
 ·obtain ⟨c,hc,hcv⟩:∃ c,Yu Change.k st.w ck=some c∧cvv=g1a c:=by
   have:=(s2a (c7a st.w)).2 hk'
   rw[M4a]at this
   cases hq:Yu Change.k st.w ck with
   | none=>rw[hq]at this;cases this
   | some c=>
     rw[hq]at this
     exact ⟨c,rfl,(Option.some.inj this).symm⟩
  subst hcv
  have hck:=(f0a hc).2
  subst hck
  obtain ⟨N1,hN1⟩:∃ H,H=N.set K.next o2:=⟨_,rfl⟩
  rw[← hN1]at hent hr2
  have hN1n:N1.next=N.next:=by rw[hN1];rfl
  have mc1:Made fChange K N1 cv a:=by
   rw[hN1]
   obtain ⟨es,cc,seen,q1,q2,_⟩:=hrg
   exact mc.setX (fun cs e=>by rw[q2]at e;cases e) (Nat.le_refl _)
  obtain ⟨N2,hN2⟩:∃ H,H=N1.push (.row [.int .i32 c.k.t,.int .i64 c.k.r,.int .i64 c.v,.bool c.e] 0 false):=⟨_,rfl⟩
  have eN2:Ext N1 N2:=by rw[hN2];exact Ext.push1 _ _
  have hN2n:N2.next=N.next+1:=by rw[hN2,l0a,hN1n]
  have gN2:N2.get N1.next=some (.row [.int .i32 c.k.t,.int .i64 c.k.r,.int .i64 c.v,.bool c.e] 0 false):=by rw[hN2];exact Zz _ _
  have lc2:Zj N2 N1.next 0 4=some (g1a c):=by rw[Zu gN2 (Nat.le_of_ble_eq_true rfl)];rfl
  have hst:Yz Try.prog 90 (.pointer (some ⟨N1.next,0,none⟩)) (.agg #[.int .i32 c.k.t,.int .i64 c.k.r,.int .i64 c.v,.bool c.e]) (N1.push (.row [.int .i32 0,.int .i64 0,.int .i64 0,.bool false] 0 false))=some N2:=by
   rw[hN2]
   exact (C8a rfl).trans (a0a rfl rfl)
  have hwokc:=I.wok c (f0a hc).1
  have hnk2:c.k∉a.map Change.k:=fun hh=>hnk (List.mem_reverse.2 hh)
  have hal2:a.length+1≤st.w.length:=by
   have h1:=a1a (a:=c.k :: a.map Change.k) (b:=st.w.map Change.k) (List.nodup_cons.2 ⟨hnk2,hnd⟩) (fun k hk=>by
    rcases List.mem_cons.1 hk with rfl | hk
    ·exact List.mem_map.2 ⟨c,(f0a hc).1,rfl⟩
    ·obtain ⟨d,hd,rfl⟩:=List.mem_map.1 hk
     exact List.mem_map.2 ⟨d,(f0a (hla d hd)).1,rfl⟩)
   simpa using h1
  obtain ⟨cv',N3,e6,m6,n6,k6⟩:=(mc1.on eN2).snocX g3b (y:=c) (cs:=[.int .i32 c.k.t,.int .i64 c.k.r,.int .i64 c.v,.bool c.e]) (z:=4) rfl rfl (by decide) hwokc (by omega) (by decide)
  have hr3:RngAt Zk N2 K.next M1.next (y1a Change.k g1a st.w) (c.k :: (a.map Change.k).reverse):=hr2.keep (eN2.get _ (by omega)) (eN2.get _ (by omega))
  have hr4:RngAt Zk N3 K.next M1.next (y1a Change.k g1a st.w) (c.k :: (a.map Change.k).reverse):=by
   have hr3':=hr3
   obtain ⟨es,cc,seen,q1,q2,_⟩:=hr3'
   exact RngAt.keep hr3 (k6 _ (by omega) (.map q1)) (k6 _ (by omega) (fun cs e=>by rw[q2]at e;cases e))
  simp -implicitDefEqProofs (disch:=first|omega|simp only[go_sem]) only[go_sem,true_and,← hN1,f119,f17,hent,hst,lc2,e6]
  refine hK' (a++[c]) _ ?_ (by rw[List.length_append];simp;omega)
  refine ⟨by trivial,by trivial,(vy f6),(vy f9),(vy f14),(vy f119),show K.next<N3.next by omega,⟨cv',vz,m6⟩,?_,fun d hd=>?_,?_⟩
  ·rw[List.map_append]
   refine List.nodup_append.2 ⟨hnd,by simp,fun p hp q hq=>?_⟩
   simp only[List.map_cons,List.map_nil,List.mem_singleton]at hq
   subst hq
   exact fun e=>hnk2 (e▸hp)
  ·rcases List.mem_append.1 hd with hd | hd
   ·exact hla d hd
   ·rw[List.mem_singleton.1 hd]
    exact hc
  ·rw[List.map_append,List.reverse_append]
   exact hr4
abbrev u8V (n:Int):Value:=.int .u8 n
theorem Pair.ext_iff' {a b:Pair}:a=b↔a.k=b.k∧a.v=b.v:=by cases a;cases b;simp
theorem Change.ext_iff' {a b:Change}:a=b↔a.k=b.k∧a.v=b.v∧a.e=b.e:=by cases a;cases b;simp
theorem g8a {α:Type} [DecidableEq α]:∀ {l m:List α},q1a (fun a b=>decide (a=b)) l m=decide (l=m)
 | [],[]=>by simp[q1a]
 | [],b :: m=>by simp[q1a]
 | a :: l,[]=>by simp[q1a]
 | a :: l,b :: m=>by
   simp only[q1a,g8a (l:=l) (m:=m)]
   rw[← Bool.decide_and]
   exact decide_eq_decide.2 ⟨fun h=>by rw[h.1,h.2],fun h=>List.cons.inj h⟩
theorem r8c {K:DHeap} {e k:Int} {vv cv:Value} {R S:Nat→Prop} {xs:List Int} {cs:List Change} (hv:Sl fI64.rep R K vv xs) (hc:Sl fChange.rep S K cv cs) :
 ∃ K1,Yz Try.prog 87 (.pointer (some ⟨K.next,0,none⟩)) (.agg #[.int .i64 e,vv,cv,.int .i64 k]) (K.push (.row [.int .i64 0,Xw,Xw,.int .i64 0] 0 false))=some K1∧Ext K K1∧K1.get K.next=some (.row [.int .i64 e,vv,cv,.int .i64 k] 0 false)∧K1.next=K.next+1:=by
 have hone:[Value.int .i64 e,vv,cv,.int .i64 k].all Value.oneCell'=true:=by
  obtain ⟨_,_,rfl⟩:=hv.isSlice
  obtain ⟨_,_,rfl⟩:=hc.isSlice
  rfl
 exact ⟨K.push (.row [.int .i64 e,vv,cv,.int .i64 k] 0 false),(c6c rfl).trans (a0a rfl hone),Ext.push1 _ _,Zz _ _,rfl⟩
end Go.Proofs.Ytheamfnbfgiaeaa
namespace Go.Proofs.Ytheamfnbfgiaeaa
open Go.D
set_option maxRecDepth 100000
def k6a (t:Txn) (vc va vr vw vm:Value) (g:List Int) (vq vo:Value) (n:Int):List Value:=
 .int .i64 t.ses :: .int .i64 t.req :: vc :: va :: vr :: vw :: vm :: (g.map (fun n=>Value.int .i64 n)++[vq,vo,.int .i64 n])
section
variable {t:Txn} {vc va vr vw vm vq vo:Value} {g:List Int} {n:Int}
end
structure z7a (h0:DHeap) (b:Nat) (t:Txn) (vc va vr vw vm:Value) (m:List Pair):Prop where
 lb:b<h0.next
 tx:TxV (fun i=>i<h0.next∧¬ i=b) h0 t vc va vr vw
 len:Q3a t
 sm:Sl fPair.rep (fun i=>i<h0.next∧¬ i=b) h0 vm m
 lm:m.length≤1048576
 up:UpB Pair.k m
structure RefI (h0 K:DHeap) (b:Nat) (t:Txn) (vc va vr vw vm:Value) (s:RS) (n:Int) (vq vo:Value) (wq wo:Option Nat):Prop where
 kp:KpD (fun i=>i=b) h0 K
 row:K.get b=some (.row (k6a t vc va vr vw vm s.reg vq vo n) 0 false)
 q:Owns fChange.rep NoS K vq s.w wq
 o:Owns fI64.rep NoS K vo s.out wo
 hq:∀ i,wq=some i→h0.next≤i
 ho:∀ i,wo=some i→h0.next≤i
 len:s.reg.length=8
 ok:∀ n∈s.reg,inK .i64 n
 outn:s.out.length≤8
 wn:s.w.length≤8192
section
variable {h0 K K':DHeap} {b:Nat} {t:Txn} {vc va vr vw vm vq vo vq' vo':Value} {m:List Pair} {s s':RS} {n n':Int} {wq wo:Option Nat}
theorem RefI.ext (C:z7a h0 b t vc va vr vw vm m) (I:RefI h0 K b t vc va vr vw vm s n vq vo wq wo) (e:Ext K K'):RefI h0 K' b t vc va vr vw vm s n vq vo wq wo:=
 ⟨I.kp.ext e,(e.get _ (Nat.lt_of_lt_of_le C.lb I.kp.next)).trans I.row,I.q.mono e.next (fun i hi=>e.get i (I.q.lt i hi)) (fun i hi=>hi.elim),I.o.mono e.next (fun i hi=>e.get i (I.o.lt i hi)) (fun i hi=>hi.elim),I.hq,I.ho,I.len,I.ok,I.outn,I.wn⟩
theorem RefI.tx (C:z7a h0 b t vc va vr vw vm m) (I:RefI h0 K b t vc va vr vw vm s n vq vo wq wo):TxV (InH K) K t vc va vr vw:=
 C.tx.mono fun i hi=>⟨Nat.lt_of_lt_of_le hi.1 I.kp.next,I.kp.get i hi.1 hi.2⟩
theorem RefI.sm (C:z7a h0 b t vc va vr vw vm m) (I:RefI h0 K b t vc va vr vw vm s n vq vo wq wo):Arg fPair.rep K vm m:=
 C.sm.mono fun i hi=>⟨Nat.lt_of_lt_of_le hi.1 I.kp.next,I.kp.get i hi.1 hi.2⟩
theorem RefI.box (C:z7a h0 b t vc va vr vw vm m) (I:RefI h0 K b t vc va vr vw vm s n vq vo wq wo) (hw:s'.w=s.w) (hout:s'.out=s.out) (hl:s'.reg.length=8) (hok:∀ n∈s'.reg,inK .i64 n) :
 RefI h0 (K.set b (.row (k6a t vc va vr vw vm s'.reg vq vo n') 0 false)) b t vc va vr vw vm s' n' vq vo wq wo:=by
 have hlb:=C.lb
 refine ⟨I.kp.set (.inl rfl),Zq _ _,?_,?_,I.hq,I.ho,hl,hok,by rw[hout];exact I.outn,by rw[hw];exact I.wn⟩
 ·rw[hw]
  exact I.q.mono (Nat.le_refl _) (fun i hi=>Zx _ _ (by have:=I.hq i hi;omega)) (fun i hi=>hi.elim)
 ·rw[hout]
  exact I.o.mono (Nat.le_refl _) (fun i hi=>Zx _ _ (by have:=I.ho i hi;omega)) (fun i hi=>hi.elim)
theorem RefI.reg (C:z7a h0 b t vc va vr vw vm m) (I:RefI h0 K b t vc va vr vw vm s n vq vo wq wo) {a v:Int} (hv:inK .i64 v):RefI h0 (K.set b (.row (k6a t vc va vr vw vm (s.reg.set a.toNat v) vq vo n) 0 false)) b t vc va vr vw vm (s.set a v) n vq vo wq wo:=
 I.box C (s':=s.set a v) rfl rfl (by simp[I.len]) fun n hn=>by
  rcases List.mem_or_eq_of_mem_set hn with hn | rfl
  ·exact I.ok n hn
  ·exact hv
theorem RefI.at' (C:z7a h0 b t vc va vr vw vm m) (I:RefI h0 K b t vc va vr vw vm s n vq vo wq wo) (k:Int):RefI h0 (K.set b (.row (k6a t vc va vr vw vm s.reg vq vo k) 0 false)) b t vc va vr vw vm s k vq vo wq wo:=
 I.box C rfl rfl I.len I.ok
theorem RefI.put (C:z7a h0 b t vc va vr vw vm m) (I:RefI h0 K b t vc va vr vw vm s n vq vo wq wo) {c:Change} (hc:fChange.ok c) (hwn:s.w.length<8192) :
 ∃ vq' h2,s0a Try.prog #[85,85] vq (.slice (some ⟨K.next,0,none⟩) 1 1) (K.push (.row [.int .i32 c.k.t,.int .i64 c.k.r,.int .i64 c.v,.bool c.e] 4 false))=some (vq',h2)∧vq'.cells=#[vq']∧[vq'].all Value.oneCell'=true ∧
  h2.get b=some (.row (k6a t vc va vr vw vm s.reg vq vo n) 0 false)∧RefI h0 (h2.set b (.row (k6a t vc va vr vw vm s.reg vq' vo n) 0 false)) b t vc va vr vw vm (s.put c) n vq' vo (some (K.next+1)) wo:=by
 obtain ⟨vq',h2,e6,n2,ng2,gg,o3⟩:=I.q.snoc (cs:=[.int .i32 c.k.t,.int .i64 c.k.r,.int .i64 c.v,.bool c.e]) (x:=c) (z:=4) (fun i hi=>hi.elim) ⟨rfl,hc⟩ rfl (by decide) g3b (by omega) (by decide)
 have hlb:=C.lb
 have hkn:=I.kp.next
 have nb:wq≠some b:=fun e=>by have:=I.hq b e;omega
 have gb2:h2.get b=some (.row (k6a t vc va vr vw vm s.reg vq vo n) 0 false):=(gg _ (by omega) nb).trans I.row
 have kp2:KpD (fun i=>i=b) h0 h2:=⟨by omega,ng2.trans I.kp.ng,fun i hi hn=>(gg i (by omega) (fun e=>by have:=I.hq i e;omega)).trans (I.kp.get i hi hn)⟩
 have nwo:∀ i,wo=some i→wq≠some i:=fun i hi=>by
  subst hi
  refine I.q.ne ?_
  rcases I.o with ⟨_,_,e⟩ | ⟨e,_⟩ | ⟨id,cap,cells,_,e,_,g2,_⟩
  ·cases e
  ·cases e
  ·cases e
   exact .row g2 (by decide)
 refine ⟨vq',h2,e6,o3.sl.cells1,by obtain ⟨_,_,rfl⟩:=o3.sl.isSlice;rfl,gb2,⟨kp2.set (.inl rfl),Zq _ _,o3.mono (Nat.le_refl _) (fun i hi=>Zx _ _ (by cases hi;omega)) (fun i hi=>hi.elim),?_,fun i hi=>by cases hi;omega,I.ho,I.len,I.ok,I.outn,?_⟩⟩
 ·exact I.o.mono (show K.next≤h2.next by omega) (fun i hi=>by
   have h1:=I.o.lt i hi
   have h3:=I.ho i hi
   rw[Zx _ _ (by omega)]
   exact gg i h1 (nwo i hi)) (fun i hi=>hi.elim)
 ·show (s.w++[c]).length≤8192
  rw[List.length_append]
  simp
  omega
theorem RefI.ans (C:z7a h0 b t vc va vr vw vm m) (I:RefI h0 K b t vc va vr vw vm s n vq vo wq wo) {y:Int} (hy:inK .i64 y) (hon:s.out.length<8) :
 ∃ vo' h2,s0a Try.prog #[23,23] vo (.slice (some ⟨K.next,0,none⟩) 1 1) (K.push (.row [.int .i64 y] 1 false))=some (vo',h2)∧vo'.cells=#[vo']∧[vo'].all Value.oneCell'=true ∧
  h2.get b=some (.row (k6a t vc va vr vw vm s.reg vq vo n) 0 false)∧RefI h0 (h2.set b (.row (k6a t vc va vr vw vm s.reg vq vo' n) 0 false)) b t vc va vr vw vm { s with out:=s.out++[y] } n vq vo' wq (some (K.next+1)):=by
 obtain ⟨vo',h2,e6,n2,ng2,gg,o3⟩:=I.o.snoc (cs:=[.int .i64 y]) (x:=y) (z:=1) (fun i hi=>hi.elim) ⟨rfl,hy⟩ rfl (by decide) c3b (by omega) (by decide)
 have hlb:=C.lb
 have hkn:=I.kp.next
 have nb:wo≠some b:=fun e=>by have:=I.ho b e;omega
 have gb2:h2.get b=some (.row (k6a t vc va vr vw vm s.reg vq vo n) 0 false):=(gg _ (by omega) nb).trans I.row
 have kp2:KpD (fun i=>i=b) h0 h2:=⟨by omega,ng2.trans I.kp.ng,fun i hi hn=>(gg i (by omega) (fun e=>by have:=I.ho i e;omega)).trans (I.kp.get i hi hn)⟩
 have nwq:∀ i,wq=some i→wo≠some i:=fun i hi=>by
  subst hi
  refine I.o.ne ?_
  rcases I.q with ⟨_,_,e⟩ | ⟨e,_⟩ | ⟨id,cap,cells,_,e,_,g2,_⟩
  ·cases e
  ·cases e
  ·cases e
   exact .row g2 (by decide)
 refine ⟨vo',h2,e6,o3.sl.cells1,by obtain ⟨_,_,rfl⟩:=o3.sl.isSlice;rfl,gb2,⟨kp2.set (.inl rfl),Zq _ _,?_,o3.mono (Nat.le_refl _) (fun i hi=>Zx _ _ (by cases hi;omega)) (fun i hi=>hi.elim),I.hq,fun i hi=>by cases hi;omega,I.len,I.ok,?_,I.wn⟩⟩
 ·exact I.q.mono (show K.next≤h2.next by omega) (fun i hi=>by
   have h1:=I.q.lt i hi
   have h3:=I.hq i hi
   rw[Zx _ _ (by omega)]
   exact gg i h1 (nwq i hi)) (fun i hi=>hi.elim)
 ·show (s.out++[y]).length≤8
  rw[List.length_append]
  simp
  omega
theorem RefI.wok (I:RefI h0 K b t vc va vr vw vm s n vq vo wq wo):∀ c∈s.w,fChange.ok c:=I.q.sl.ok
end
end Go.Proofs.Ytheamfnbfgiaeaa
namespace Go.Proofs.Ytheamfnbfgiaeaa
open Go.D
set_option maxRecDepth 100000
def StepR (h0:DHeap) (b:Nat) (t:Txn) (vc va vr vw vm:Value) (m:List Pair) (x:Instr) (s:RS) (nx:Int) (r:DEnd) (h1:DHeap):Prop:=
 ∃ e s' j n' vq vo wq wo,ZY t m x s=(e,s',j)∧RefI h0 h1 b t vc va vr vw vm s' n' vq vo wq wo∧r=.ret (.tuple #[.bool (!decide (e=-1)),.int .i64 (if e=-1 then 0 else e)])∧(j=none→n'=nx)∧∀ a,j=some a→n'=a
section
variable {h0 h1:DHeap} {b:Nat} {t:Txn} {vc va vr vw vm vq vo:Value} {m:List Pair} {x:Instr} {s s':RS} {nx e:Int} {wq wo:Option Nat}
theorem StepR.go (E:ZY t m x s=(-1,s',none)) (I:RefI h0 h1 b t vc va vr vw vm s' nx vq vo wq wo):StepR h0 b t vc va vr vw vm m x s nx (.ret (.tuple #[.bool false,.int .i64 0])) h1:=
 ⟨_,_,_,_,_,_,_,_,E,I,rfl,fun _=>rfl,fun a ha=>by cases ha⟩
theorem StepR.jump {a:Int} (E:ZY t m x s=(-1,s',some a)) (I:RefI h0 h1 b t vc va vr vw vm s' a vq vo wq wo):StepR h0 b t vc va vr vw vm m x s nx (.ret (.tuple #[.bool false,.int .i64 0])) h1:=
 ⟨_,_,_,_,_,_,_,_,E,I,rfl,fun ha=>(by cases ha),fun b hb=>by cases hb;rfl⟩
theorem StepR.stop (E:ZY t m x s=(e,s',none)) (he:e ≠ -1) (I:RefI h0 h1 b t vc va vr vw vm s' nx vq vo wq wo):StepR h0 b t vc va vr vw vm m x s nx (.ret (.tuple #[.bool true,.int .i64 e])) h1:=
 ⟨_,_,_,_,_,_,_,_,E,I,by rw[decide_eq_false he,if_neg he];rfl,fun _=>rfl,fun a ha=>by cases ha⟩
end
end Go.Proofs.Ytheamfnbfgiaeaa
namespace Go.Proofs.Ytheamfnbfgiaeaa
open Go.D
set_option maxRecDepth 100000
theorem D8b {t:Txn} {l k:List Pair} {f:Int} (h:f2a t l=f2a t k):z1a t l f=z1a t k f:=by
 unfold z1a
 rw[h]
def g4a (m:List Cell) (k:Key):Nat:=(m.takeWhile fun c=>YJ c.k k).length
def h1b (m:List Cell) (k:Key):Bool:=match m[g4a m k]? with
 | some c=>decide (c.k=k)
 | none=>false
def U4a (k:Key):List Cell→List Cell
 | []=>[]
 | y :: r=>if YJ y.k k=true then y :: U4a k r else if y.k=k then r else y :: r
theorem c1c (m:List Cell) (k:Key):g4a m k≤m.length:=List.Sublist.length_le (List.takeWhile_sublist _)
theorem j6a {y:Cell} {r:List Cell} {k:Key}:g4a (y :: r) k=if YJ y.k k=true then g4a r k+1 else 0:=by
 unfold g4a
 by_cases h:YJ y.k k=true
 ·simp[List.takeWhile_cons,h]
 ·simp[List.takeWhile_cons,h]
theorem O1b {y:Cell} {r:List Cell} {k:Key}:h1b (y :: r) k=if YJ y.k k=true then h1b r k else decide (y.k=k):=by
 unfold h1b
 rw[j6a]
 by_cases h:YJ y.k k=true
 ·rw[if_pos h,if_pos h,List.getElem?_cons_succ]
 ·rw[if_neg h,if_neg h];rfl
theorem d8b {x:Cell}:∀ {m:List Cell},Z1a Cell.k x m=m.take (g4a m x.k)++x :: m.drop (g4a m x.k+if h1b m x.k then 1 else 0)
 | []=>rfl
 | y :: r=>by
   unfold Z1a
   rw[j6a,O1b]
   by_cases h:YJ y.k x.k=true
   ·rw[if_pos h,if_pos h,if_pos h,d8b (m:=r),List.take_succ_cons,Nat.add_right_comm,List.drop_succ_cons,List.cons_append]
   ·rw[if_neg h,if_neg h,if_neg h]
    by_cases e:y.k=x.k
    ·rw[if_pos e,decide_eq_true e];rfl
    ·rw[if_neg e,decide_eq_false e];rfl
theorem X9a {k:Key}:∀ {m:List Cell},U4a k m=if h1b m k then m.take (g4a m k)++m.drop (g4a m k+1) else m
 | []=>rfl
 | y :: r=>by
   unfold U4a
   rw[j6a,O1b]
   by_cases h:YJ y.k k=true
   ·rw[if_pos h,if_pos h,if_pos h,X9a (m:=r)]
    by_cases e:h1b r k=true
    ·rw[if_pos e,if_pos e,List.take_succ_cons,List.drop_succ_cons,List.cons_append]
    ·rw[if_neg e,if_neg e]
   ·rw[if_neg h,if_neg h,if_neg h]
    by_cases e:y.k=k
    ·rw[if_pos e,decide_eq_true e];rfl
    ·rw[if_neg e,decide_eq_false e];rfl
theorem x4a {k:Key}:∀ {m:List Cell},UpB Cell.k m→U4a k m=m.filter fun c=>!decide (c.k=k)
 | [],_=>rfl
 | y :: r,h=>by
   obtain ⟨hy,hr⟩:=List.pairwise_cons.1 h
   unfold U4a
   by_cases h1:YJ y.k k=true
   ·have hne:y.k≠k:=fun e=>by rw[e,k1a]at h1;cases h1
    rw[if_pos h1,x4a hr,List.filter_cons_of_pos (by simp[hne])]
   ·have rest:∀ c∈r,c.k≠k:=fun c hc e=>h1 (by rw[← e];exact hy c hc)
    have hf:(r.filter fun c=>!decide (c.k=k))=r:=List.filter_eq_self.2 fun c hc=>by simp[rest c hc]
    rw[if_neg h1]
    by_cases e:y.k=k
    ·rw[if_pos e,List.filter_cons_of_neg (by simp[e]),hf]
    ·rw[if_neg e,List.filter_cons_of_pos (by simp[e]),hf]
theorem b1b {k:Key} {m:List Cell} (h:UpB Cell.k m):UpB Cell.k (U4a k m):=by rw[x4a h];exact h.filter _
theorem T2a {m:List Cell} (h:UpB Cell.k m) {k:Key} {c:Cell}:Yu Cell.k m k=some c↔c∈m∧c.k=k:=by
 constructor
 ·exact f0a
 ·rintro ⟨h1,rfl⟩
  exact (S1b h).2 h1
def i4a (m:List Cell) (keys:List Key):List Pair:=m.filterMap fun c=>if c.k∈keys then some ⟨c.k,c.v⟩ else none
def g3a (m:List Cell) (keys:List Key):List Pair:=keys.filterMap fun k=>(Yu Cell.k m k).map fun c=>⟨k,c.v⟩
def o2a (slot:Int) (m:List Cell) (c:Change):List Cell:=if c.e then U4a c.k m else Z1a Cell.k ⟨c.k,c.v,slot⟩ m
def t3a (t:Txn) (m:List Cell):V2b:=z1a t (i4a m t.reads) 4096
def XY (t:Txn) (slot place:Int) (m:List Cell):Res:=⟨(t3a t m).e,(t3a t m).vs,slot,place⟩
def S1a (t:Txn) (slot:Int) (m:List Cell):List Cell:=if (t3a t m).e=0 then (t3a t m).ch.foldl (o2a slot) m else m
theorem O6c {slot:Int} {m:List Cell} {c:Change} (h:UpB Cell.k m):UpB Cell.k (o2a slot m c):=by
 unfold o2a
 split
 ·exact b1b h
 ·exact w8a h
theorem l4c {m:List Cell} {keys:List Key} (h:UpB Cell.k m):UpB Pair.k (i4a m keys):=by
 unfold i4a UpB
 rw[List.pairwise_filterMap]
 refine h.imp fun {a b} hab x hx y hy=>?_
 split at hx
 ·split at hy
  ·cases hx;cases hy;exact hab
  ·cases hy
 ·cases hx
theorem S0c {m:List Cell} (h:UpB Cell.k m) {keys:List Key} {p:Pair}:p∈i4a m keys↔p.k∈keys∧∃ c,Yu Cell.k m p.k=some c∧c.v=p.v:=by
 unfold i4a
 rw[List.mem_filterMap]
 constructor
 ·rintro ⟨c,hc,hp⟩
  split at hp
  ·rename_i hk
   cases hp
   exact ⟨hk,c,(T2a h).2 ⟨hc,rfl⟩,rfl⟩
  ·cases hp
 ·rintro ⟨hk,c,hc,hv⟩
  obtain ⟨h1,h2⟩:=(T2a h).1 hc
  refine ⟨c,h1,?_⟩
  rw[if_pos (by rw[h2];exact hk),h2,hv]
theorem A5b {m:List Cell} {keys:List Key} {p:Pair}:Yu Pair.k (g3a m keys) p.k=some p↔p.k∈keys∧∃ c,Yu Cell.k m p.k=some c∧c.v=p.v:=by
 induction keys using i7a with
 | h0=>simp[g3a,Yu]
 | h1 l k ih=>
   have hs:g3a m (l++[k])=g3a m l++match Yu Cell.k m k with | some c=>[⟨k,c.v⟩] | none=>[]:=by
    unfold g3a
    rw[List.filterMap_append]
    congr 1
    cases hq:Yu Cell.k m k with
    | none=>simp[hq]
    | some c=>simp[hq]
   rw[hs]
   cases hq:Yu Cell.k m k with
   | none=>
     simp only[List.append_nil]
     rw[ih,List.mem_append,List.mem_singleton]
     constructor
     ·rintro ⟨a,b⟩;exact ⟨.inl a,b⟩
     ·rintro ⟨a | a,c,b,d⟩
      ·exact ⟨a,c,b,d⟩
      ·rw[a,hq]at b;cases b
   | some c=>
     simp only
     rw[k0b,List.mem_append,List.mem_singleton]
     by_cases hk:k=p.k
     ·rw[if_pos hk]
      constructor
      ·intro e
       cases e
       exact ⟨.inr rfl,c,hq,rfl⟩
      ·rintro ⟨_,c',b,d⟩
       rw[← hk,hq]at b
       cases b
       cases p
       simp only at hk d
       rw[hk,d]
     ·rw[if_neg hk,ih]
      constructor
      ·rintro ⟨a,b⟩;exact ⟨.inl a,b⟩
      ·rintro ⟨a | a,b⟩
       ·exact ⟨a,b⟩
       ·exact absurd a.symm hk
theorem q8b {t:Txn} {m:List Cell} (h:UpB Cell.k m):f2a t (g3a m t.reads)=f2a t (i4a m t.reads):=by
 unfold f2a
 congr 1
 refine H0b (S3a _) (S3a _) fun p=>?_
 rw[G3a,A5b,q3b (l4c h),S0c h]
theorem s1c {t:Txn} {m:List Cell} (h:UpB Cell.k m):z1a t (g3a m t.reads) 4096=t3a t m:=D8b (q8b h)
theorem I1c {m:List Cell} {keys:List Key}:(g3a m keys).length≤keys.length:=List.length_filterMap_le _ _
def CelM (mm:List (Key × Value)) (m:List Cell):Prop:=(mm.map (·.1)).Nodup∧UpB Cell.k m∧∀ k,WW mm k=(Yu Cell.k m k).map Wx
theorem CelM.nil:CelM [] []:=⟨by simp,List.Pairwise.nil,fun k=>rfl⟩
theorem I0c {m:List Cell} {x:Cell} (h:UpB Cell.k m) {k:Key}:Yu Cell.k (Z1a Cell.k x m) k=if k=x.k then some x else Yu Cell.k m k:=by
 have hu:=w8a (key:=Cell.k) (x:=x) h
 refine Option.ext fun c=>?_
 rw[T2a hu,u9a h]
 by_cases hk:k=x.k
 ·rw[if_pos hk,Option.some.injEq]
  constructor
  ·rintro ⟨h1 | h1,h2⟩
   ·exact h1.symm
   ·exact absurd (h2.trans hk) h1.2
  ·rintro rfl
   exact ⟨.inl rfl,hk.symm⟩
 ·rw[if_neg hk,T2a h]
  constructor
  ·rintro ⟨h1 | h1,h2⟩
   ·exact absurd (by rw[← h2,h1]) hk
   ·exact ⟨h1.1,h2⟩
  ·rintro ⟨h1,h2⟩
   exact ⟨.inr ⟨h1,fun e=>hk (h2.symm.trans e)⟩,h2⟩
theorem H0c {m:List Cell} {q:Key} (h:UpB Cell.k m) {k:Key}:Yu Cell.k (U4a q m) k=if k=q then none else Yu Cell.k m k:=by
 have hu:=b1b (k:=q) h
 refine Option.ext fun c=>?_
 rw[T2a hu,x4a h,List.mem_filter]
 by_cases hk:k=q
 ·rw[if_pos hk]
  constructor
  ·rintro ⟨h1,h2⟩
   exact absurd (h2.trans hk) (by simpa using h1.2)
  ·intro h;cases h
 ·rw[if_neg hk,T2a h]
  constructor
  ·rintro ⟨h1,h2⟩;exact ⟨h1.1,h2⟩
  ·rintro ⟨h1,h2⟩
   refine ⟨⟨h1,?_⟩,h2⟩
   have:c.k≠q:=fun e=>hk (h2.symm.trans e)
   simpa using this
theorem CelM.put {mm:List (Key × Value)} {m:List Cell} (a:CelM mm m) (x:Cell):CelM (V0a mm x.k (Wx x)) (Z1a Cell.k x m):=
 ⟨P1a a.1,w8a a.2.1,fun k=>by
  rw[H3a a.1,I0c a.2.1]
  split
  ·rfl
  ·exact a.2.2 k⟩
theorem CelM.del {mm:List (Key × Value)} {m:List Cell} (a:CelM mm m) (q:Key):CelM (h6a mm q) (U4a q m):=
 ⟨X6a a.1,b1b a.2.1,fun k=>by
  rw[T0c,H0c a.2.1]
  split
  ·rfl
  ·exact a.2.2 k⟩
theorem CelM.mem {mm:List (Key × Value)} {m:List Cell} (a:CelM mm m) (k:Key):k∈mm.map (·.1)↔k∈m.map Cell.k:=by
 have h:=a.2.2 k
 constructor
 ·intro h1
  cases hq:Yu Cell.k m k with
  | none=>
    rw[hq]at h
    exact absurd h1 (R7a.1 h)
  | some c=>exact List.mem_map.2 ⟨c,(f0a hq).1,(f0a hq).2⟩
 ·intro h1
  cases hq:WW mm k with
  | none=>
    rw[hq]at h
    cases hc:Yu Cell.k m k with
    | none=>exact absurd h1 (U6a.1 hc)
    | some c=>rw[hc]at h;cases h
  | some v=>exact List.mem_map.2 ⟨(k,v),(s2a a.1).1 hq,rfl⟩
theorem _root_.Go.D.MapAt.len {P:Program} {κ:Type} {enc:κ→Value} {t:TypeId} {kt et:TypeId} {h:DHeap} {id:Nat} {m:List (κ × Value)} (hu:P.underlying t=some (.map kt et)) (a:MapAt enc h id m):dLen P #[t] (.map (some id)) h=some (.int .i64 (m.length:Nat)):=by
 obtain ⟨es,c,g,q1,_⟩:=a
 have:es.length=m.length:=by
  have:=congrArg List.length q1
  simpa using this
 unfold dLen
 simp only[List.getElem?_toArray,List.getElem?_cons_zero,hu,g,this]
 rfl
theorem J6c {K:DHeap} {x:Change}:∃ K1,Yz Try.prog 90 (.pointer (some ⟨K.next,0,none⟩)) (.agg #[.int .i32 x.k.t,.int .i64 x.k.r,.int .i64 x.v,.bool x.e]) (K.push (.row [.int .i32 0,.int .i64 0,.int .i64 0,.bool false] 0 false))=some K1∧Ext K K1∧K1.next=K.next+1∧(∀ M,M.get K.next=K1.get K.next→Zj M K.next 0 2=some (Zk x.k)∧ZZ M K.next 2=some (.int .i64 x.v)∧ZZ M K.next 3=some (.bool x.e)∧Zj M K.next 0 4=some (g1a x)):=by
 refine ⟨K.push (.row [.int .i32 x.k.t,.int .i64 x.k.r,.int .i64 x.v,.bool x.e] 0 false),(C8a rfl).trans (a0a rfl rfl),Ext.push1 _ _,rfl,fun M h=>?_⟩
 have g:M.get K.next=some (.row [.int .i32 x.k.t,.int .i64 x.k.r,.int .i64 x.v,.bool x.e] 0 false):=h.trans (Zz _ _)
 exact ⟨by rw[Zu g (Nat.le_of_ble_eq_true rfl)];rfl,Zy g,Zy g,by rw[Zu g (Nat.le_of_ble_eq_true rfl)];rfl⟩
theorem p2c {k:Key} {v s:Int}:Xj Try.prog 36 [(0,Zk k),(1,.int .i64 v),(2,.int .i64 s)]=some (Wx ⟨k,v,s⟩):=k0a E0d rfl
theorem m9b {e s p:Int} {v:Value} (hv:v.cells=#[v]):Xj Try.prog 41 [(0,.int .i64 e),(1,v),(2,.int .i64 s),(3,.int .i64 p)]=some (.agg #[.int .i64 e,v,.int .i64 s,.int .i64 p]):=by
 refine k0a F0d ?_
 simp only[d5a,hv]
 rfl
theorem U7b {α β:Type} {f:β→α→β} {l:List α} {i:Nat} {a:β} (hi:i<l.length):(l.take (i+1)).foldl f a=f ((l.take i).foldl f a) l[i]:=by
 rw[List.take_succ_eq_append_getElem hi,List.foldl_append]
 rfl
theorem x2c {slot:Int} {m:List Cell} {c:Change}:(o2a slot m c).length≤m.length+1:=by
 unfold o2a
 split
 ·rw[X9a]
  split
  ·have:=c1c m c.k
   simp
   omega
  ·omega
 ·exact m4b
theorem g9a {slot:Int}:∀ {l:List Change} {m:List Cell},(l.foldl (o2a slot) m).length≤m.length+l.length
 | [],m=>Nat.le_refl _
 | c :: l,m=>by
   have h1:=g9a (slot:=slot) (l:=l) (m:=o2a slot m c)
   have h2:=x2c (slot:=slot) (m:=m) (c:=c)
   rw[List.foldl_cons,List.length_cons]
   omega
theorem p8a {α:Type} {F:FRep α} {h:DHeap} {v:Value} {l:List α} {B:Nat} {cs:List Value} {o:DObj} (a:Arg F.rep h v l) (g:h.get B=some (.row cs 0 false)) (hz:F.z≠0):Arg F.rep (h.set B o) v l:=
 K4b (z:=0) a (fun i _ hn=>Zx _ _ fun e=>by subst e;exact hn _ g) hz
def K9a:Cell:=⟨y3a,0,0⟩
theorem S4b:Try.prog.underlying 65=some (.map 34 36):=by kernel_rfl
theorem z8a:x7a Try.prog 65 Zk (Wx K9a):=⟨_,_,S4b,g8b,by kernel_rfl⟩
theorem a5b:p6a 34:=by
 intro h c l p id D m I hp hps hid hc hl h0 hI hE hR
 refine r3d (by simp) ?_
 obtain ⟨hl0,hc0,hm0⟩:=hI [] h h0
 have C0:ZZ h c 0=some (.map (some id)):=Zy hc0
 obtain ⟨o,hr0,hr1⟩:=hm0.range S4b hid
 simp -implicitDefEqProofs (disch:=first|omega|simp only[go_sem]) only[go_sem,true_and,c34,C0,hr0]
 refine XU (σ:=List Key) (by kernel_rfl) (fun dn s=>s.df=[]∧s.fr 0=some (.func (.yield l) #[] #[])∧s.fr 5=some (.pointer (some ⟨h.next,0,none⟩))∧h.next<s.h.next∧dn.Nodup∧(∀ k∈dn,k∈m.map (·.1))∧RngAt Zk s.h h.next id m dn∧I dn s.h) (fun dn=>m.length - dn.length) [] ?_ ?_
 ·simp -implicitDefEqProofs (disch:=first|omega|simp only[go_sem]) only[go_sem,true_and]
  exact ⟨Nat.lt_succ_self _,.nil,fun k hk=>(by cases hk),hr1,hE _ _ _ h0 ⟨Nat.le_succ _,rfl,fun j hj _=>ZX _ _ hj⟩⟩
 ·rintro dn ⟨fr,df,hh,rd⟩ K' hK' hX ⟨rfl,f0,f5,hlt,hnd,hsub,hrng,hinv⟩
  simp only at f0 f5 hlt hrng hinv
  obtain ⟨L,hL,hall⟩:=hrng.next (fun _=>rfl) (by omega)
  simp -implicitDefEqProofs (disch:=first|omega|simp only[go_sem]) only[go_sem,true_and,f5,hL]
  intro pp hpp
  rcases hall pp hpp with ⟨rfl,hd⟩ | ⟨k,v,o2,hk,hnk,rfl,hent,hr2⟩
  ·simp -implicitDefEqProofs (disch:=first|omega|simp only[go_sem]) only[go_sem,true_and]
   refine hX _ _ (by simp) ?_
   simp -implicitDefEqProofs (disch:=first|omega|simp only[go_sem]) only[go_sem,true_and]
   exact ⟨_,rfl,⟨_,rfl⟩,dn,hnd,fun k=>⟨hsub k,hd k⟩,hinv⟩
  obtain ⟨K1,hK1⟩:∃ K,K=hh.set h.next o2:=⟨_,rfl⟩
  rw[← hK1]at hent hr2
  obtain ⟨K2,hK2⟩:∃ K,K=K1.push (.row [.int .i32 k.t,.int .i64 k.r] 0 false):=⟨_,rfl⟩
  have hK1n:K1.next=hh.next:=by rw[hK1];rfl
  have hK2n:K2.next=hh.next+1:=by rw[hK2];exact congrArg (·+1) hK1n
  have g2:K2.get K1.next=some (.row [.int .i32 k.t,.int .i64 k.r] 0 false):=by rw[hK2];exact Zz _ _
  have hst:Yz Try.prog 34 (.pointer (some ⟨K1.next,0,none⟩)) (Zk k) (K1.push (.row [.int .i32 0,.int .i64 0] 0 false))=some K2:=by
   rw[hK2]
   exact (s3a rfl).trans (a0a rfl rfl)
  have l2:Zj K2 K1.next 0 2=some (Zk k):=by rw[Zu g2 (Nat.le_of_ble_eq_true rfl)];rfl
  have oth:∀ j,j<hh.next→j≠h.next→K2.get j=hh.get j:=fun j hj hne=>by rw[hK2,ZX _ _ (by omega),hK1,Zx _ _ hne]
  have hI2:I dn K2:=hE dn hh K2 hinv ⟨by omega,by rw[hK2,hK1];rfl,oth⟩
  have hl2:K2.get l=some (.loop D):=(hI dn K2 hI2).1
  have hr3:RngAt Zk K2 h.next id m (k :: dn):=hr2.keep (by rw[hK2];exact ZX _ _ (by omega)) (by rw[hK2];exact ZX _ _ (by omega))
  have hy:d2a Try.prog K2 (some (.func (.yield l) #[] #[])) (some [Zk k])=.ok (.round l D.size (w0a D.tmps [p] [Zk k]) D.assign D.body) K2:=by
   rw[w5a hl2 _ (by rw[hp];rfl) (by rw[hp];simpa using hps),hp]
  have hkm:k∈m.map (·.1):=List.mem_map.2 ⟨_,hk,rfl⟩
  simp -implicitDefEqProofs (disch:=first|omega|simp only[go_sem]) only[go_sem,true_and,← hK1,f5,hent,hst,f0,l2,hy]
  refine V7a (hR dn K2 k hI2 hnk hkm (by omega)) ?_
  rintro r H ⟨rfl,hI3,e1,e2,e3⟩
  simp -implicitDefEqProofs (disch:=first|omega|simp only[go_sem]) only[go_sem,true_and,Xx]
  have hlen:(k :: dn).length≤m.length:=by
   have:=a1a (a:=k :: dn) (b:=m.map (·.1)) (List.nodup_cons.2 ⟨hnk,hnd⟩) (fun x hx=>by
    rcases List.mem_cons.1 hx with rfl | hx
    ·exact hkm
    ·exact hsub x hx)
   simpa using this
  refine hK' (k :: dn) _ ?_ (by rw[List.length_cons]at hlen ⊢;omega)
  exact ⟨by trivial,(vy f0),(vy f5),show h.next<H.next by omega,List.nodup_cons.2 ⟨hnk,hnd⟩,fun x hx=>(by
   rcases List.mem_cons.1 hx with rfl | hx
   ·exact hkm
   ·exact hsub x hx),hr3.keep e1 e2,hI3⟩
theorem k8b {h:DHeap} {id:Nat}:Ct Try.prog 27 [.map (some id)] h fun r h1=>r=.ret (E8b 34 h.next)∧h1=h.push (.row [.map (some id)] 0 false):=by
 refine k3d (by simp) ?_
 simp -implicitDefEqProofs (disch:=first|omega|simp only[go_sem]) only[go_sem,true_and,c27]
 exact ⟨_,rfl,rfl,trivial⟩
theorem j6b {K:DHeap} {x:Key}:∃ K1,Yz Try.prog 34 (.pointer (some ⟨K.next,0,none⟩)) (Zk x) (K.push (.row [.int .i32 0,.int .i64 0] 0 false))=some K1∧Ext K K1∧K1.next=K.next+1∧(∀ M,Ext K1 M→Zj M K.next 0 2=some (Zk x)):=by
 refine ⟨K.push (.row [.int .i32 x.t,.int .i64 x.r] 0 false),(s3a rfl).trans (a0a rfl rfl),Ext.push1 _ _,rfl,fun M e=>?_⟩
 have g:=(e.get K.next (Nat.lt_succ_self _)).trans (Zz _ _)
 rw[Zu g (Nat.le_of_ble_eq_true rfl)]
 rfl
theorem N6a {K:DHeap} {x:Cell}:∃ K1,Yz Try.prog 36 (.pointer (some ⟨K.next,0,none⟩)) (Wx x) (K.push (.row [.int .i32 0,.int .i64 0,.int .i64 0,.int .i64 0] 0 false))=some K1∧Ext K K1∧K1.next=K.next+1∧(∀ M,Ext K1 M→Zj M K.next 0 2=some (Zk x.k)∧ZZ M K.next 2=some (.int .i64 x.v)∧Zj M K.next 0 4=some (Wx x)):=by
 refine ⟨K.push (.row [.int .i32 x.k.t,.int .i64 x.k.r,.int .i64 x.v,.int .i64 x.s] 0 false),(E0b rfl).trans (a0a rfl rfl),Ext.push1 _ _,rfl,fun M e=>?_⟩
 have g:=(e.get K.next (Nat.lt_succ_self _)).trans (Zz _ _)
 exact ⟨by rw[Zu g (Nat.le_of_ble_eq_true rfl)];rfl,Zy g,by rw[Zu g (Nat.le_of_ble_eq_true rfl)];rfl⟩
theorem CelM.len {mm:List (Key × Value)} {m:List Cell} (a:CelM mm m):mm.length≤m.length:=by
 have h:=a1a (a:=mm.map (·.1)) (b:=m.map Cell.k) a.1 (fun k hk=>(a.mem k).1 hk)
 simpa using h
theorem k4c {m:List Cell} (h:UpB Cell.k m):UpK (m.map Cell.k):=by
 unfold UpK
 rw[List.pairwise_map]
 exact h
theorem M4b {h:DHeap} {id:Nat} {mm:List (Key × Value)} {m:List Cell} (a:MapAt Zk h id mm) (cm:CelM mm m) (hid:id<h.next) (hok:∀ c∈m,fCell.ok c) (hl:m.length≤1048576) :
 Ct Try.prog 20 [.map (some id)] h fun r h1=>∃ w,r=.ret w∧Made fCell h h1 w m:=by
 refine c3d (by simp) ?_
 simp -implicitDefEqProofs (disch:=first|omega|simp only[go_sem]) only[go_sem,true_and,c20]
 refine Yv k8b ?_
 rintro r h2 ⟨rfl,rfl⟩
 obtain ⟨H2,hH2⟩:∃ H,H=h.push (.row [.map (some id)] 0 false):=⟨_,rfl⟩
 rw[← hH2]
 have g2:H2.get h.next=some (.row [.map (some id)] 0 false):=by rw[hH2];exact Zz _ _
 have hE2:Ext h H2:=by rw[hH2];exact Ext.push1 _ _
 have hH2n:H2.next=h.next+1:=by rw[hH2];rfl
 have hkok:∀ k∈mm.map (·.1),fKey.ok k:=fun k hk=>by
  obtain ⟨c,hc,rfl⟩:=List.mem_map.1 ((cm.mem k).1 hk)
  exact (hok c hc).1
 simp -implicitDefEqProofs (disch:=first|omega|simp only[go_sem]) only[go_sem,true_and]
 refine Yv (i8a a5b (by kernel_rfl) (h:=H2) (c:=h.next) (id:=id) (m:=mm) (Nat.le_trans cm.len hl) hkok (by omega) g2 (by omega) (a.keep (hE2.get _ hid))) ?_
 rintro r h3 ⟨w,ks,rfl,hup,hmem,hE3,hs3⟩
 have hks:ks=m.map Cell.k:=O2b hup (k4c cm.2.1) fun k=>(hmem k).trans (cm.mem k)
 have hkl:ks.length=m.length:=by rw[hks,List.length_map]
 have hsk:Arg fKey.rep h3 w ks:=hs3.mono fun i hi=>⟨hi.2,rfl⟩
 have ek:∀ K,dLen Try.prog #[24] w K=some (.int .i64 (ks.length:Nat)):=hsk.lens (P:=Try.prog) (ts:=#[24]) (t:=24) rfl R2a
 have hE03:Ext h h3:=hE2.trans hE3
 simp -implicitDefEqProofs (disch:=first|omega|simp only[go_sem]) only[go_sem,true_and,Xx,ek]
 refine XU (σ:=Nat) (by kernel_rfl) (fun i s=>s.df=[]∧s.rd=none∧s.fr 0=some (.map (some id))∧s.fr 8=some w∧s.fr 9=some (.int .i64 (ks.length:Nat))∧s.fr 10=some (.int .i64 (i:Nat))∧i≤ks.length∧∃ u,s.fr 3=some u∧Made fCell h3 s.h u (m.take i)) (fun i=>ks.length - i) 0 ?_ ?_
 ·simp -implicitDefEqProofs (disch:=first|omega|simp only[go_sem]) only[go_sem,true_and]
  exact ⟨by trivial,Nat.zero_le _,_,rfl,.nil _ (.refl _)⟩
 rintro i ⟨fr,df,K,rd⟩ K' hK' hX ⟨rfl,rfl,f0,f8,f9,f10,hi,u,f3,mu⟩
 simp only at f0 f8 f9 f10 f3 mu
 simp -implicitDefEqProofs (disch:=first|omega|simp only[go_sem]) only[go_sem,true_and,f8,f9,f10]
 refine j0a (fun hc1=>?_) (fun hc1=>?_)
 ·have hj:i<ks.length:=by omega
  have hjm:i<m.length:=by omega
  have hw:=YZ hj (by omega)
  have hki:ks[i]=m[i].k:=by simp only[hks,List.getElem_map]
  obtain ⟨id1,o1,i1,_,hat1⟩:=(hsk.ext mu.ext).idx (P:=Try.prog) (t:=24) Z3a (k:=.i64) (i:=i) (x:=ks[i]) (by simp)
  have l1:Zj K id1 o1 2=some (Zk m[i].k):=by rw[← hki];exact hat1.flat.2.1
  obtain ⟨K1,hst,eK1,nK1,cc⟩:=j6b (K:=K) (x:=m[i].k)
  have e1:=hE03.trans (mu.ext.trans eK1)
  have lk:=(a.keep (e1.get _ hid)).lookup z8a m[i].k false
  rw[cm.2.2 m[i].k,(T2a cm.2.1).2 ⟨List.getElem_mem hjm,rfl⟩]at lk
  have lk':J0a Try.prog 65 (.map (some id)) (Zk m[i].k) false K1=some (Wx m[i]):=lk
  obtain ⟨u2,K2,s1,m2⟩:=(mu.on eK1).snoc f3b (cs:=[.int .i32 m[i].k.t,.int .i64 m[i].k.r,.int .i64 m[i].v,.int .i64 m[i].s]) (y:=m[i]) rfl (z:=4) rfl (hok _ (List.getElem_mem hjm)) (by simp;omega) (by decide)
  simp -implicitDefEqProofs (disch:=first|omega|simp only[go_sem]) only[go_sem,true_and,f0,f3,f8,f10,i1,l1,hst,cc K1 (.refl _),lk',s1,hw]
  refine hK' (i+1) _ ?_ (by omega)
  exact ⟨by trivial,by trivial,(vy f0),(vy f8),(vy f9),vz,by omega,u2,vz,by rw[List.take_succ_eq_append_getElem hjm];exact m2⟩
 obtain rfl:i=ks.length:=by omega
 rw[hkl,List.take_length]at mu
 refine hX _ _ (by simp) ?_
 simp -implicitDefEqProofs (disch:=first|omega|simp only[go_sem]) only[go_sem,true_and,f3]
 exact ⟨_,rfl,_,rfl,mu.base hE03⟩
theorem KpD.after {D:Nat→Prop} {h K M:DHeap} (e:Ext h K) (k:KpD D K M):KpD D h M:=
 ⟨Nat.le_trans e.next k.next,k.ng.trans e.ng,fun i hi hn=>(k.get i (Nat.lt_of_lt_of_le hi e.next) hn).trans (e.get i hi)⟩
theorem J8b {m:List Cell} {keys:List Key} {i:Nat} (hi:i<keys.length):g3a m (keys.take (i+1))=g3a m (keys.take i)++match Yu Cell.k m keys[i] with | some c=>[⟨keys[i],c.v⟩] | none=>[]:=by
 unfold g3a
 rw[List.take_succ_eq_append_getElem hi,List.filterMap_append]
 congr 1
 cases hq:Yu Cell.k m keys[i] with
 | none=>simp[hq]
 | some c=>simp[hq]
theorem n4b {x z:Cell}:∀ {m:List Cell},z∈Z1a Cell.k x m→z=x∨z∈m
 | [],h=>by simp[Z1a]at h;exact .inl h
 | y :: r,h=>by
   unfold Z1a at h
   split at h
   ·rcases List.mem_cons.1 h with h | h
    ·exact .inr (by simp[h])
    ·rcases n4b h with h | h
     ·exact .inl h
     ·exact .inr (by simp[h])
   ·split at h
    ·rcases List.mem_cons.1 h with h | h
     ·exact .inl h
     ·exact .inr (by simp[h])
    ·rcases List.mem_cons.1 h with h | h
     ·exact .inl h
     ·exact .inr h
theorem a4b {k:Key} {z:Cell}:∀ {m:List Cell},z∈U4a k m→z∈m
 | [],h=>h
 | y :: r,h=>by
   unfold U4a at h
   split at h
   ·rcases List.mem_cons.1 h with h | h
    ·simp[h]
    ·have:=a4b h;simp[this]
   ·split at h
    ·simp[h]
    ·exact h
theorem l6b {slot:Int} (hs:inK .i64 slot):∀ {l:List Change} {m:List Cell},(∀ c∈l,fChange.ok c)→(∀ c∈m,fCell.ok c)→∀ c∈l.foldl (o2a slot) m,fCell.ok c
 | [],m,_,h=>h
 | x :: l,m,hl,h=>by
   rw[List.foldl_cons]
   refine l6b hs (fun c hc=>hl c (by simp[hc])) fun c hc=>?_
   have hx:=hl x (by simp)
   unfold o2a at hc
   split at hc
   ·exact h c (a4b hc)
   ·rcases n4b hc with rfl | hc
    ·exact ⟨hx.1,hx.2.1,hs⟩
    ·exact h c hc
set_option maxHeartbeats 2000000 in
theorem O4b {h:DHeap} {t:Txn} {vc va vr vw:Value} {id:Nat} {mm:List (Key × Value)} {m:List Cell} {slot at':Int} (x:TxV (InH h) h t vc va vr vw) (hT:Q3a t) (a:MapAt Zk h id mm) (cm:CelM mm m) (hid:id<h.next) (hok:∀ c∈m,fCell.ok c) (hs:inK .i64 slot) :
 Ct Try.prog 22 [Wq t.ses t.req vc va vr vw,.int .i64 slot,.int .i64 at',.map (some id)] h fun r h1=>∃ vv mm',r=.ret (J2a (XY t slot at' m) vv)∧KpD (fun j=>j=id) h h1∧Sl fI64.rep (I6a h h1) h1 vv (XY t slot at' m).vs∧MapAt Zk h1 id mm'∧CelM mm' (S1a t slot m)∧∀ c∈S1a t slot m,fCell.ok c:=by
 refine f3d (by simp) ?_
 have hcl:(Wq t.ses t.req vc va vr vw).cells.toList=[.int .i64 t.ses,.int .i64 t.req,vc,va,vr,vw]:=rfl
 have el:∀ K,dLen Try.prog #[24] vr K=some (.int .i64 (t.reads.length:Nat)):=x.r.lens (P:=Try.prog) (ts:=#[24]) (t:=24) rfl R2a
 obtain ⟨H,hH⟩:∃ H,H=(h.push (.row [.int .i64 t.ses,.int .i64 t.req,vc,va,vr,vw] 0 false)).push (.row [.int .i64 0,.slice none 0 0,.int .i64 0,.int .i64 0] 0 false):=⟨_,rfl⟩
 have hE:Ext h H:=by rw[hH];exact (Ext.push1 _ _).push _
 have hHn:H.next=h.next+2:=by rw[hH];rfl
 have gH:H.get h.next=some (.row [.int .i64 t.ses,.int .i64 t.req,vc,va,vr,vw] 0 false):=by rw[hH];exact B5a
 have gR:H.get (h.next+1)=some (.row [.int .i64 0,.slice none 0 0,.int .i64 0,.int .i64 0] 0 false):=by rw[hH];exact Zz _ _
 have lt:∀ K,Ext H K→Zj K h.next 0 6=some (Wq t.ses t.req vc va vr vw):=fun K e=>by
  rw[Zu ((e.get _ (by omega)).trans gH) (Nat.le_of_ble_eq_true rfl)]
  rfl
 have hlr:=hT.r
 simp -implicitDefEqProofs (disch:=first|omega|simp only[go_sem]) only[go_sem,true_and,c22,hcl,l0a,← hH,Zy gH,el]
 refine XU (σ:=Nat) (by kernel_rfl) (fun i s=>s.df=[]∧s.rd=none∧s.fr 1=some (.int .i64 slot)∧s.fr 2=some (.int .i64 at')∧s.fr 3=some (.map (some id))∧s.fr 4=some (.pointer (some ⟨h.next,0,none⟩))∧s.fr 8=some (.pointer (some ⟨h.next+1,0,none⟩))∧s.fr 18=some vr∧s.fr 19=some (.int .i64 (t.reads.length:Nat))∧s.fr 20=some (.int .i64 (i:Nat))∧i≤t.reads.length∧∃ u,s.fr 9=some u∧Made fPair H s.h u (g3a m (t.reads.take i))) (fun i=>t.reads.length - i) 0 ?_ ?_
 ·simp -implicitDefEqProofs (disch:=first|omega|simp only[go_sem]) only[go_sem,true_and]
  exact ⟨by trivial,Nat.zero_le _,_,rfl,.nil _ (.refl _)⟩
 rintro i ⟨fr,df,K,rd⟩ K' hK' hX ⟨rfl,rfl,f1,f2,f3,f4,f8,f18,f19,f20,hi,u,f9,mu⟩
 simp only at f1 f2 f3 f4 f8 f18 f19 f20 f9 mu
 have hlen:(g3a m (t.reads.take i)).length≤1048576:=Nat.le_trans I1c (by simp;omega)
 simp -implicitDefEqProofs (disch:=first|omega|simp only[go_sem]) only[go_sem,true_and,f18,f19,f20]
 refine j0a (fun hc1=>?_) (fun hc1=>?_)
 ·have hj:i<t.reads.length:=by omega
  have hw:=YZ hj (by omega)
  obtain ⟨id1,o1,i1,_,hat1⟩:=(x.r.ext (hE.trans mu.ext)).idx (P:=Try.prog) (t:=24) Z3a (k:=.i64) (i:=i) (x:=t.reads[i]) (by simp)
  have l1:Zj K id1 o1 2=some (Zk t.reads[i]):=hat1.flat.2.1
  have hkok:fKey.ok t.reads[i]:=x.r.ok _ (List.getElem_mem hj)
  obtain ⟨K1,t1,eK1,nK1,cc⟩:=j6b (K:=K) (x:=t.reads[i])
  have e1:=hE.trans (mu.ext.trans eK1)
  have lk:=(a.keep (e1.get _ hid)).lookup z8a t.reads[i] true
  have htake:=J8b (m:=m) hj
  rw[cm.2.2 t.reads[i]]at lk
  cases hq:Yu Cell.k m t.reads[i] with
  | some c=>
    rw[hq]at lk htake
    have lk':J0a Try.prog 65 (.map (some id)) (Zk t.reads[i]) true K1=some (.tuple #[Wx c,.bool true]):=lk
    obtain ⟨K2,t2,eK2,nK2,c2⟩:=N6a (K:=K1) (x:=c)
    have hck:=(f0a hq).1
    obtain ⟨u3,K3,s1,m3⟩:=(mu.on (eK1.trans eK2)).snoc j9b (cs:=[.int .i32 t.reads[i].t,.int .i64 t.reads[i].r,.int .i64 c.v]) (y:=⟨t.reads[i],c.v⟩) rfl (z:=3) rfl ⟨hkok,(hok c hck).2.1⟩ (by omega) (by decide)
    simp -implicitDefEqProofs (disch:=first|omega|simp only[go_sem]) only[go_sem,true_and,f3,f9,f18,f20,i1,l1,t1,cc K1 (.refl _),lk',t2,cc K2 eK2,(c2 K2 (.refl _)).2.1,h3b,s1,hw]
    refine hK' (i+1) _ ?_ (by omega)
    exact ⟨by trivial,by trivial,(vy f1),(vy f2),(vy f3),(vy f4),(vy f8),(vy f18),(vy f19),vz,by omega,u3,vz,by rw[htake];exact m3⟩
  | none=>
    rw[hq]at lk htake
    have lk':J0a Try.prog 65 (.map (some id)) (Zk t.reads[i]) true K1=some (.tuple #[Wx K9a,.bool false]):=lk
    obtain ⟨K2,t2,eK2,nK2,c2⟩:=N6a (K:=K1) (x:=K9a)
    simp -implicitDefEqProofs (disch:=first|omega|simp only[go_sem]) only[go_sem,true_and,f3,f9,f18,f20,i1,l1,t1,cc K1 (.refl _),lk',t2,hw]
    refine hK' (i+1) _ ?_ (by omega)
    exact ⟨by trivial,by trivial,(vy f1),(vy f2),(vy f3),(vy f4),(vy f8),(vy f18),(vy f19),vz,by omega,u,(vy f9),by rw[htake,List.append_nil];exact mu.on (eK1.trans eK2)⟩
 obtain rfl:i=t.reads.length:=by omega
 rw[List.take_length]at mu hlen
 refine hX _ _ (by simp) ?_
 clear hK' hX K' f18 f19 f20 hc1 hi
 have eK:=mu.ext
 have hKn:=eK.next
 simp -implicitDefEqProofs (disch:=first|omega|simp only[go_sem]) only[go_sem,true_and,f4,f9,lt K eK]
 refine Yv (i5d (x.ext (hE.trans eK)) hT mu.arg (by omega)) ?_
 rw[s1c cm.2.1]
 have hsm:=k5a (t:=t) (l:=i4a m t.reads) (f:=4096)
 have ho:z1a t (i4a m t.reads) 4096=t3a t m:=rfl
 rw[ho]at hsm
 obtain ⟨o,hoo⟩:∃ o,t3a t m=o:=⟨_,rfl⟩
 have hR:XY t slot at' m=⟨o.e,o.vs,slot,at'⟩:=by unfold XY;rw[hoo]
 have hC:S1a t slot m=if o.e=0 then o.ch.foldl (o2a slot) m else m:=by unfold S1a;rw[hoo]
 rw[hoo]at hsm
 rw[hoo,hR,hC]
 rintro r D ⟨vv,cv,rfl,mv,mc⟩
 have hoks:=l6b hs mc.ok hok
 obtain ⟨D1,hst,eD,gD,nD⟩:=r8c (e:=o.e) (k:=o.s) mv.sl mc.sl
 have hDn:=mv.ext.next
 have hvv:=mv.sl.cells1
 have hone2:[Value.int .i64 o.e,vv,.int .i64 slot,.int .i64 at'].all Value.oneCell'=true:=by
  obtain ⟨_,_,rfl⟩:=mv.sl.isSlice
  rfl
 have e1:Ext H D1:=eK.trans (mv.ext.trans eD)
 have eh1:Ext h D1:=hE.trans e1
 have aD:=a.keep (eh1.get _ hid)
 have lc:∀ K,dLen Try.prog #[85] cv K=some (.int .i64 (o.ch.length:Nat)):=mc.arg.lens (P:=Try.prog) (ts:=#[85]) (t:=85) rfl x0c
 have gM:∀ M,KpD (fun j=>j=id) D1 M→M.get D.next=some (.row [.int .i64 o.e,vv,cv,.int .i64 o.s] 0 false):=fun M k=>(k.get _ (by omega) (by omega)).trans gD
 have fin:∀ (M:DHeap) (q:List (Key × Value)) (l:List Cell),KpD (fun j=>j=id) D1 M→MapAt Zk M id q→CelM q l→∃ M2,Yz Try.prog 41 (.pointer (some ⟨h.next+1,0,none⟩)) (.agg #[.int .i64 o.e,vv,.int .i64 slot,.int .i64 at']) M=some M2∧Zj M2 (h.next+1) 0 4=some (.agg #[.int .i64 o.e,vv,.int .i64 slot,.int .i64 at'])∧KpD (fun j=>j=id) h M2∧Sl fI64.rep (I6a h M2) M2 vv o.vs∧MapAt Zk M2 id q:=fun M q l k am _=>by
  have g:=(k.get (h.next+1) (by have:=e1.next;omega) (by omega)).trans ((e1.get _ (by omega)).trans gR)
  have kn:=k.next
  refine ⟨_,(F0b rfl).trans (G1a g rfl hone2),by rw[Zu (Zq _ _) (Nat.le_of_ble_eq_true rfl)];rfl,(KpD.after eh1 k).set (.inr (by omega)),?_,am.keep (Zx _ _ (by omega))⟩
  refine mv.sl.mono fun j hj=>⟨⟨by have:=hj.1;omega,by show j<M.next;have:=hj.2;omega⟩,?_⟩
  obtain ⟨hj1,hj2⟩:=hj
  rw[Zx _ _ (by omega),k.get _ (by omega) (by omega),eD.get _ hj2]
 simp -implicitDefEqProofs (disch:=first|omega|simp only[go_sem]) only[go_sem,true_and,Xx,hst,Zy gD]
 by_cases he:o.e=0
 ·have he':=eq_true he
  rw[if_pos he]
  simp -implicitDefEqProofs (disch:=first|omega|simp only[go_sem]) only[go_sem,true_and,he',Zy gD,lc]
  refine XU (σ:=Nat) (by kernel_rfl) (fun i s=>s.df=[]∧s.rd=none∧s.fr 1=some (.int .i64 slot)∧s.fr 2=some (.int .i64 at')∧s.fr 3=some (.map (some id))∧s.fr 8=some (.pointer (some ⟨h.next+1,0,none⟩))∧s.fr 14=some (.pointer (some ⟨D.next,0,none⟩))∧s.fr 46=some cv∧s.fr 47=some (.int .i64 (o.ch.length:Nat))∧s.fr 48=some (.int .i64 (i:Nat))∧i≤o.ch.length∧KpD (fun j=>j=id) D1 s.h∧∃ q,MapAt Zk s.h id q∧CelM q ((o.ch.take i).foldl (o2a slot) m)) (fun i=>o.ch.length - i) 0 ?_ ?_
  ·simp -implicitDefEqProofs (disch:=first|omega|simp only[go_sem]) only[go_sem,true_and,f1,f2,f3,f8]
   exact ⟨by trivial,Nat.zero_le _,.refl _ _,_,aD,cm⟩
  clear f1 f2 f3 f4 f8 f9
  rintro i ⟨fr,df,M,rd⟩ K' hK' hX ⟨rfl,rfl,f1,f2,f3,f8,f14,f46,f47,f48,hi,kM,q,aq,cq⟩
  simp only at f1 f2 f3 f8 f14 f46 f47 f48 kM aq
  simp -implicitDefEqProofs (disch:=first|omega|simp only[go_sem]) only[go_sem,true_and,f46,f47,f48]
  refine j0a (fun hc1=>?_) (fun hc1=>?_)
  ·have hj:i<o.ch.length:=by omega
   have hw:=YZ hj (by omega)
   have acM:Arg fChange.rep M cv o.ch:=mc.sl.mono fun j hj=>⟨by have:=kM.next;have:=hj.2;omega,by rw[kM.get _ (by have:=hj.2;omega) (by have:=hj.1;omega),eD.get _ hj.2]⟩
   obtain ⟨id1,o1,i1,hid1,hat1⟩:=acM.idx (P:=Try.prog) (t:=85) A4c (k:=.i64) (i:=i) (x:=o.ch[i]) (by simp)
   have a1:Zj M id1 o1 4=some (g1a o.ch[i]):=hat1.flat.2.1
   obtain ⟨M1,t1,eM1,nM1,cc⟩:=J6c (K:=M) (x:=o.ch[i])
   obtain ⟨c1,c2,c3,_⟩:=cc M1 rfl
   have hf:=U7b (f:=o2a slot) (a:=m) hj
   have hidM:id<M.next:=by have:=kM.next;omega
   have aq1:=aq.keep (eM1.get _ hidM)
   have kM1:=kM.ext eM1
   simp -implicitDefEqProofs (disch:=first|omega|simp only[go_sem]) only[go_sem,true_and,f46,f48,i1,a1,t1,c3]
   by_cases hce:o.ch[i].e=true
   ·have hch:∀ q,o2a slot q o.ch[i]=U4a o.ch[i].k q:=fun q=>by unfold o2a;rw[if_pos hce]
    obtain ⟨ob,s1,aq2⟩:=aq1.delete z8a (ts:=#[65,34]) rfl o.ch[i].k
    simp -implicitDefEqProofs (disch:=first|omega|simp only[go_sem]) only[go_sem,true_and,hce,f3,c1,s1,f48,hw]
    refine hK' (i+1) _ ?_ (by omega)
    exact ⟨by trivial,by trivial,(vy f1),(vy f2),(vy f3),(vy f8),(vy f14),(vy f46),(vy f47),vz,by omega,kM1.set (.inl rfl),_,aq2,by rw[hf,hch];exact cq.del _⟩
   ·have hce':o.ch[i].e=false:=by simpa using hce
    have hch:∀ q,o2a slot q o.ch[i]=Z1a Cell.k ⟨o.ch[i].k,o.ch[i].v,slot⟩ q:=fun q=>by unfold o2a;rw[if_neg hce]
    obtain ⟨ob,s1,aq2⟩:=aq1.update z8a o.ch[i].k (Wx ⟨o.ch[i].k,o.ch[i].v,slot⟩)
    simp -implicitDefEqProofs (disch:=first|omega|simp only[go_sem]) only[go_sem,true_and,hce',f1,f3,c1,c2,p2c,s1,f48,hw]
    refine hK' (i+1) _ ?_ (by omega)
    exact ⟨by trivial,by trivial,(vy f1),(vy f2),(vy f3),(vy f8),(vy f14),(vy f46),(vy f47),vz,by omega,kM1.set (.inl rfl),_,aq2,by rw[hf,hch];exact cq.put ⟨o.ch[i].k,o.ch[i].v,slot⟩⟩
  obtain rfl:i=o.ch.length:=by omega
  rw[List.take_length]at cq
  refine hX _ _ (by simp) ?_
  obtain ⟨M2,s1,s2,s3,s4,s5⟩:=fin M q _ kM aq cq
  simp -implicitDefEqProofs (disch:=first|omega|simp only[go_sem]) only[go_sem,true_and,f1,f2,f8,f14,Zy (gM M kM),m9b hvv,s1]
  refine B2a (v:=.agg #[.int .i64 o.e,vv,.int .i64 slot,.int .i64 at']) ?_ ?_
  ·rw[C1a]
   simp -implicitDefEqProofs (disch:=first|omega|simp only[go_sem]) only[go_sem,true_and,f8,s2,D0a]
  ·exact ⟨_,_,rfl,s3,s4,s5,cq,hoks⟩
 ·rw[if_neg he]
  obtain ⟨M2,s1,s2,s3,s4,s5⟩:=fin D1 mm m (.refl _ _) aD cm
  simp -implicitDefEqProofs (disch:=first|omega|simp only[go_sem]) only[go_sem,true_and,he,f1,f2,f8,Zy gD,m9b hvv,s1]
  refine B2a (v:=.agg #[.int .i64 o.e,vv,.int .i64 slot,.int .i64 at']) ?_ ?_
  ·rw[C1a]
   simp -implicitDefEqProofs (disch:=first|omega|simp only[go_sem]) only[go_sem,true_and,f8,s2,D0a]
  ·exact ⟨_,_,rfl,s3,s4,s5,cm,hok⟩
theorem CelM.of {m:List Cell}:CelM (y1a Cell.k Wx m) (byK Cell.k m):=
 ⟨c7a _,S3a _,fun k=>by rw[M4a,G0c]⟩
theorem d2b {t:Txn} {slot:Int} {m:List Cell}:(S1a t slot m).length≤m.length+4096:=by
 unfold S1a
 have:=(k5a (t:=t) (l:=i4a m t.reads) (f:=4096)).2
 have h2:=g9a (slot:=slot) (l:=(t3a t m).ch) (m:=m)
 have ho:t3a t m=z1a t (i4a m t.reads) 4096:=rfl
 rw[← ho]at this
 split <;> omega
set_option maxHeartbeats 1000000 in
theorem I4b {h:DHeap} {t:Txn} {vc va vr vw v:Value} {m:List Cell} {slot at':Int} (x:TxV (InH h) h t vc va vr vw) (hT:Q3a t) (hb:Arg fCell.rep h v m) (hl:m.length≤1000000) (hs:inK .i64 slot) :
 Ct Try.prog 8 [Wq t.ses t.req vc va vr vw,.int .i64 slot,.int .i64 at',v] h fun r h1=>∃ vv w,r=.ret (.tuple #[J2a (XY t slot at' (byK Cell.k m)) vv,w])∧Arg fI64.rep h1 vv (XY t slot at' (byK Cell.k m)).vs∧Made fCell h h1 w (S1a t slot (byK Cell.k m)):=by
 refine G5d (by simp) ?_
 have hcl:(Wq t.ses t.req vc va vr vw).cells.toList=[.int .i64 t.ses,.int .i64 t.req,vc,va,vr,vw]:=rfl
 have el:∀ K,dLen Try.prog #[31] v K=some (.int .i64 (m.length:Nat)):=hb.lens (P:=Try.prog) (ts:=#[31]) (t:=31) rfl h0b
 obtain ⟨H,hH⟩:∃ H,H=(h.push (.row [.int .i64 t.ses,.int .i64 t.req,vc,va,vr,vw] 0 false)).push (.row [.int .i64 0,.slice none 0 0,.int .i64 0,.int .i64 0] 0 false):=⟨_,rfl⟩
 have hE:Ext h H:=by rw[hH];exact (Ext.push1 _ _).push _
 have hHn:H.next=h.next+2:=by rw[hH];rfl
 have gH:H.get h.next=some (.row [.int .i64 t.ses,.int .i64 t.req,vc,va,vr,vw] 0 false):=by rw[hH];exact B5a
 have gR:H.get (h.next+1)=some (.row [.int .i64 0,.slice none 0 0,.int .i64 0,.int .i64 0] 0 false):=by rw[hH];exact Zz _ _
 have lt:∀ K,Ext H K→Zj K h.next 0 6=some (Wq t.ses t.req vc va vr vw):=fun K e=>by
  rw[Zu ((e.get _ (by omega)).trans gH) (Nat.le_of_ble_eq_true rfl)]
  rfl
 obtain ⟨A,hA⟩:∃ A,H.push (.map [] 0)=A:=⟨_,rfl⟩
 have eA:Ext H A:=hA▸Ext.push1 _ _
 have nA:A.next=H.next+1:=by rw[← hA];rfl
 have a0:MapAt Zk A H.next ([]:List (Key × Value)):=by rw[← hA];exact MapAt.new
 simp -implicitDefEqProofs (disch:=first|omega|simp only[go_sem]) only[go_sem,true_and,c8,hcl,l0a,← hH,hA,el]
 refine XU (σ:=Nat) (by kernel_rfl) (fun i s=>s.df=[]∧s.rd=none∧s.fr 1=some (.int .i64 slot)∧s.fr 2=some (.int .i64 at')∧s.fr 4=some (.pointer (some ⟨h.next,0,none⟩))∧s.fr 8=some (.pointer (some ⟨h.next+1,0,none⟩))∧s.fr 10=some (.map (some H.next))∧s.fr 15=some v∧s.fr 16=some (.int .i64 (m.length:Nat))∧s.fr 17=some (.int .i64 (i:Nat))∧i≤m.length∧KpD (fun j=>j=H.next) A s.h∧MapAt Zk s.h H.next (y1a Cell.k Wx (m.take i))) (fun i=>m.length - i) 0 ?_ ?_
 ·simp -implicitDefEqProofs (disch:=first|omega|simp only[go_sem]) only[go_sem,true_and]
  exact ⟨by trivial,Nat.zero_le _,.refl _ _,a0⟩
 rintro i ⟨fr,df,K,rd⟩ K' hK' hX ⟨rfl,rfl,f1,f2,f4,f8,f10,f15,f16,f17,hi,kK,aK⟩
 simp only at f1 f2 f4 f8 f10 f15 f16 f17 kK aK
 have hKn:=kK.next
 have eK:Ext H K:=kK.toExt eA fun j hj=>by omega
 simp -implicitDefEqProofs (disch:=first|omega|simp only[go_sem]) only[go_sem,true_and,f15,f16,f17]
 refine j0a (fun hc1=>?_) (fun hc1=>?_)
 ·have hj:i<m.length:=by omega
  have hw:=YZ hj (by omega)
  obtain ⟨id1,o1,i1,_,hat1⟩:=(hb.ext (hE.trans eK)).idx (P:=Try.prog) (t:=31) J2b (k:=.i64) (i:=i) (x:=m[i]) (by simp)
  have a1:Zj K id1 o1 4=some (Wx m[i]):=hat1.flat.2.1
  obtain ⟨K1,t1,eK1,nK1,cc⟩:=N6a (K:=K) (x:=m[i])
  obtain ⟨c1,_,c3⟩:=cc K1 (.refl _)
  obtain ⟨ob,s1,aq⟩:=(aK.keep (eK1.get _ (by omega))).update z8a m[i].k (Wx m[i])
  simp -implicitDefEqProofs (disch:=first|omega|simp only[go_sem]) only[go_sem,true_and,f10,f15,f17,i1,a1,t1,c1,c3,s1,hw]
  refine hK' (i+1) _ ?_ (by omega)
  exact ⟨by trivial,by trivial,(vy f1),(vy f2),(vy f4),(vy f8),(vy f10),(vy f15),(vy f16),vz,by omega,(kK.ext eK1).set (.inl rfl),by rw[X7a hj];exact aq⟩
 obtain rfl:i=m.length:=by omega
 rw[List.take_length]at aK
 refine hX _ _ (by simp) ?_
 clear hK' hX K' f15 f16 f17 hc1 hi
 have hbl:=r6a (key:=Cell.k) m
 have cm0:=CelM.of (m:=m)
 have hok0:∀ c∈byK Cell.k m,fCell.ok c:=fun c hc=>hb.ok c (j5a hc)
 obtain ⟨M0,hM0⟩:∃ M0,byK Cell.k m=M0:=⟨_,rfl⟩
 rw[hM0]at hbl cm0 hok0
 rw[hM0]
 simp -implicitDefEqProofs (disch:=first|omega|simp only[go_sem]) only[go_sem,true_and,f1,f2,f4,f10,lt K eK]
 refine Yv (O4b (x.ext (hE.trans eK)) hT aK cm0 (by omega) hok0 hs) ?_
 rintro r D ⟨vv,q,rfl,kD,sv,aD,cD,hok1⟩
 have hDn:=kD.next
 have eD:Ext H D:=kD.toExt eK fun j hj=>by omega
 obtain ⟨D1,hD1⟩:∃ M,M=D.push (.row [.int .i64 (XY t slot at' M0).e,vv,.int .i64 slot,.int .i64 at'] 0 false):=⟨_,rfl⟩
 have hone2:[Value.int .i64 (XY t slot at' M0).e,vv,.int .i64 slot,.int .i64 at'].all Value.oneCell'=true:=by
  obtain ⟨_,_,rfl⟩:=sv.isSlice
  rfl
 have hst:Yz Try.prog 41 (.pointer (some ⟨D.next,0,none⟩)) (J2a (XY t slot at' M0) vv) (D.push (.row [.int .i64 0,.slice none 0 0,.int .i64 0,.int .i64 0] 0 false))=some D1:=by
  rw[hD1]
  exact (F0b rfl).trans (a0a rfl hone2)
 have x1:Ext D D1:=by rw[hD1];exact Ext.push1 _ _
 have nD1:D1.next=D.next+1:=by rw[hD1];rfl
 have g1:D1.get D.next=some (.row [.int .i64 (XY t slot at' M0).e,vv,.int .i64 slot,.int .i64 at'] 0 false):=by rw[hD1];exact Zz _ _
 have lq:∀ M,Ext D1 M→Zj M D.next 0 4=some (J2a (XY t slot at' M0) vv):=fun M e=>by
  rw[Zu ((e.get _ (by omega)).trans g1) (Nat.le_of_ble_eq_true rfl)]
  rfl
 have hsl:=d2b (t:=t) (slot:=slot) (m:=M0)
 simp -implicitDefEqProofs (disch:=first|omega|simp only[go_sem]) only[go_sem,true_and,Xx,hst]
 refine n1d rfl ?_
 simp -implicitDefEqProofs (disch:=first|omega|simp only[go_sem]) only[go_sem,true_and,k0d,N0d,f10,lq D1 (.refl _)]
 refine x2a (M4b (aD.keep (x1.get _ (by omega))) cD (by omega) hok1 (by omega)) ?_
 rintro r E ⟨w,rfl,mw⟩
 have eE:Ext H E:=(eD.trans x1).trans mw.ext
 have gE:=(eE.get (h.next+1) (by omega)).trans gR
 have s1:Yz Try.prog 41 (.pointer (some ⟨h.next+1,0,none⟩)) (J2a (XY t slot at' M0) vv) E=some (E.set (h.next+1) (.row [.int .i64 (XY t slot at' M0).e,vv,.int .i64 slot,.int .i64 at'] 0 false)):=(F0b rfl).trans (G1a gE rfl hone2)
 obtain ⟨E1,hE1⟩:∃ M,M=E.set (h.next+1) (.row [.int .i64 (XY t slot at' M0).e,vv,.int .i64 slot,.int .i64 at'] 0 false):=⟨_,rfl⟩
 rw[← hE1]at s1
 have s2:Zj E1 (h.next+1) 0 4=some (J2a (XY t slot at' M0) vv):=by
  rw[hE1,Zu (Zq _ _) (Nat.le_of_ble_eq_true rfl)]
  rfl
 have av:Arg fI64.rep E vv (XY t slot at' M0).vs:=((sv.mono fun i hi=>⟨hi.2,rfl⟩:Arg fI64.rep D vv (XY t slot at' M0).vs).ext x1).ext mw.ext
 simp -implicitDefEqProofs (disch:=first|omega|simp only[go_sem]) only[go_sem,true_and,S4a,lq E mw.ext,f8,s1,b6a,Z2a,N5a,D0a,s2]
 refine ⟨_,rfl,vv,w,rfl,by rw[hE1];exact p8a av gE (by decide),?_⟩
 rw[hE1]
 exact (mw.base ((hE.trans eD).trans x1)).setX (.row gE (by decide)) (by omega)
abbrev g1b (n:Int):Value:=.int .i64 n
abbrev q4a (x:Row) (v:Value):Value:=.agg #[.int .i64 x.ses,.int .i64 x.req,.int .i64 x.x.e,v,.int .i64 x.x.s,.int .i64 x.x.p]
def I1a (l:List Row) (n:Int):Option Row:=l.find? fun x=>x.ses=n
def RowM (S:Nat→Prop) (h:DHeap) (rm:List (Int × Value)) (l:List Row):Prop:=
 (rm.map (·.1)).Nodup∧(l.Pairwise fun a b=>a.ses<b.ses)∧(∀ n,I1a l n=none→WW rm n=none)∧∀ n x,I1a l n=some x→∃ v,WW rm n=some (q4a x v)∧Sl fI64.rep S h v x.x.vs
abbrev w7a (h:DHeap) (B cid rid:Nat):Nat→Prop:=fun i=>i<h.next∧i≠B∧i≠cid∧i≠rid
structure SerAt (h:DHeap) (B cid rid:Nat) (s:Xv) (mm:List (Key × Value)) (rm:List (Int × Value)):Prop where
 row:h.get B=some (.row [.int .i64 s.slot,.map (some cid),.map (some rid)] 0 false)
 cel:MapAt Zk h cid mm
 cm:CelM mm s.cells
 rwm:MapAt g1b h rid rm
 rw:RowM (w7a h B cid rid) h rm s.rows
 lt:B<h.next∧cid<h.next∧rid<h.next
 ne:B≠cid∧B≠rid∧cid≠rid
 ok:∀ c∈s.cells,fCell.ok c
 sm:∀ x∈s.rows,x.x.vs.length≤4096
theorem RowM.mono {S S':Nat→Prop} {h h':DHeap} {rm:List (Int × Value)} {l:List Row} (a:RowM S h rm l) (m:∀ i,S i→S' i∧h'.get i=h.get i):RowM S' h' rm l:=
 ⟨a.1,a.2.1,a.2.2.1,fun n x hx=>by
  obtain ⟨v,h1,h2⟩:=a.2.2.2 n x hx
  exact ⟨v,h1,h2.mono m⟩⟩
theorem SerAt.ext {h h1:DHeap} {B cid rid:Nat} {s:Xv} {mm:List (Key × Value)} {rm:List (Int × Value)} (a:SerAt h B cid rid s mm rm) (e:Ext h h1):SerAt h1 B cid rid s mm rm:=
 ⟨(e.get _ a.lt.1).trans a.row,a.cel.keep (e.get _ a.lt.2.1),a.cm,a.rwm.keep (e.get _ a.lt.2.2),a.rw.mono fun i hi=>⟨⟨Nat.lt_of_lt_of_le hi.1 e.next,hi.2⟩,e.get i hi.1⟩,⟨Nat.lt_of_lt_of_le a.lt.1 e.next,Nat.lt_of_lt_of_le a.lt.2.1 e.next,Nat.lt_of_lt_of_le a.lt.2.2 e.next⟩,a.ne,a.ok,a.sm⟩
theorem T4b:Try.prog.underlying 66=some (.map 2 72):=by kernel_rfl
def C8b:Row:=⟨0,0,⟨0,[],0,0⟩⟩
theorem l8b:x7a Try.prog 66 g1b (q4a C8b Xw):=⟨_,_,T4b,KeyOf.int (by kernel_rfl),by kernel_rfl⟩
theorem x9a {h:DHeap} {ox oy:Operand} {B:Nat}:ZV Try.prog .eql 28 ox oy (.pointer (some ⟨B,0,none⟩)) (.pointer none) h=.ok (.value (.bool false)) h:=by
 rfl
theorem Q3c {h:DHeap} {ox oy:Operand} {B:Nat}:ZV Try.prog .eql 65 ox oy (.map (some B)) (.map none) h=.ok (.value (.bool false)) h:=by
 rfl
theorem a7a {h:DHeap} {B cid rid:Nat} {s:Xv} {mm:List (Key × Value)} {rm:List (Int × Value)} (a:SerAt h B cid rid s mm rm):DC Try.prog 19 [.pointer (some ⟨B,0,none⟩)] h (.ret (.bool false)) h:=by
 refine Ct.pure (b3d (by simp) ?_) (W0a _)
 simp -implicitDefEqProofs (disch:=first|omega|simp only[go_sem]) only[go_sem,true_and,c19,x9a,Q3c,Zy a.row,Yy,Yq]
 exact ⟨_,rfl,rfl,.refl _⟩
theorem L4b {h:DHeap} {B cid rid:Nat} {s:Xv} {mm:List (Key × Value)} {rm:List (Int × Value)} (a:SerAt h B cid rid s mm rm):DC Try.prog 9 [.pointer (some ⟨B,0,none⟩)] h (.ret (.int .i64 s.slot)) h:=by
 refine Ct.pure (H5d (by simp) ?_) (Y0a _ _)
 simp -implicitDefEqProofs (disch:=first|omega|simp only[go_sem]) only[go_sem,true_and,c9]
 refine YQ (a7a a) ?_
 simp -implicitDefEqProofs (disch:=first|omega|simp only[go_sem]) only[go_sem,true_and,Zy a.row]
 exact ⟨_,rfl,rfl,.refl _⟩
theorem E6b {h:DHeap}:Ct Try.prog 13 [] h fun r h1=>∃ B cid rid,r=.ret (.pointer (some ⟨B,0,none⟩))∧Ext h h1∧h.next≤B∧h.next≤cid∧h.next≤rid∧SerAt h1 B cid rid ⟨0,[],[]⟩ [] []:=by
 refine V2d (by simp) ?_
 have hbd:∀ a b:Nat,Xj Try.prog 68 [(1,.map (some a)),(2,.map (some b))]=some (.agg #[.int .i64 0,.map (some a),.map (some b)]):=fun a b=>k0a I0d rfl
 obtain ⟨H1,hH1⟩:∃ H,h.push (.map [] 0)=H:=⟨_,rfl⟩
 have n1:H1.next=h.next+1:=by rw[← hH1];rfl
 have e1:Ext h H1:=hH1▸Ext.push1 _ _
 have a1:MapAt Zk H1 h.next ([]:List (Key × Value)):=by rw[← hH1];exact MapAt.new
 obtain ⟨H2,hH2⟩:∃ H,H1.push (.map [] 0)=H:=⟨_,rfl⟩
 have n2:H2.next=h.next+2:=by rw[← hH2];show H1.next+1=_;omega
 have e2:Ext H1 H2:=hH2▸Ext.push1 _ _
 have a2:MapAt g1b H2 H1.next ([]:List (Int × Value)):=by rw[← hH2];exact MapAt.new
 obtain ⟨H3,hH3⟩:∃ H,H2.push (.row [.int .i64 0,.map (some h.next),.map (some H1.next)] 0 false)=H:=⟨_,rfl⟩
 have n3:H3.next=h.next+3:=by rw[← hH3];show H2.next+1=_;omega
 have e3:Ext H2 H3:=hH3▸Ext.push1 _ _
 have g3:H3.get H2.next=some (.row [.int .i64 0,.map (some h.next),.map (some H1.next)] 0 false):=by rw[← hH3];exact Zz _ _
 simp -implicitDefEqProofs (disch:=first|omega|simp only[go_sem]) only[go_sem,true_and,c13,hH1,hH2,hbd,hH3]
 refine ⟨_,rfl,H2.next,h.next,H1.next,rfl,(e1.trans e2).trans e3,by omega,by omega,by omega,g3,a1.keep ((e2.trans e3).get _ (by omega)),CelM.nil,a2.keep (e3.get _ (by omega)),⟨by simp,List.Pairwise.nil,fun n _=>rfl,fun n x hx=>by cases hx⟩,⟨by omega,by omega,by omega⟩,⟨by omega,by omega,by omega⟩,fun c hc=>(by cases hc),fun c hc=>(by cases hc)⟩
theorem s8c {h:DHeap} {x:Res} {v:Value} (hv:Arg fI64.rep h v x.vs) (hl:x.vs.length≤4294967296) :
 Ct Try.prog 25 [J2a x v] h fun r h1=>∃ w,r=.ret (J2a x w)∧Made fI64 h h1 w x.vs:=by
 refine i3d (by simp) ?_
 have hcl:(J2a x v).cells.toList=[.int .i64 x.e,v,.int .i64 x.s,.int .i64 x.p]:=rfl
 obtain ⟨H,hH⟩:∃ H,H=(h.push (.row [.int .i64 x.e,v,.int .i64 x.s,.int .i64 x.p] 0 false)).push (.row [.int .i64 0,.slice none 0 0,.int .i64 0,.int .i64 0] 0 false):=⟨_,rfl⟩
 have hE:Ext h H:=by rw[hH];exact (Ext.push1 _ _).push _
 have hHn:H.next=h.next+2:=by rw[hH];rfl
 have ga:H.get h.next=some (.row [.int .i64 x.e,v,.int .i64 x.s,.int .i64 x.p] 0 false):=by rw[hH];exact B5a
 have gb:H.get (h.next+1)=some (.row [.int .i64 0,.slice none 0 0,.int .i64 0,.int .i64 0] 0 false):=by rw[hH];exact Zz _ _
 obtain ⟨K,hK⟩:∃ K,O2a fI64 H v x.vs=K:=⟨_,rfl⟩
 obtain ⟨w,hw⟩:∃ w,T3a H v x.vs=w:=⟨_,rfl⟩
 have t1:=m7b (hv.ext hE) hl
 have m1:=M9a (h:=H) (hv.ext hE)
 rw[hK,hw]at t1 m1
 have hKn:=m1.ext.next
 have gK:=(m1.ext.get h.next (by omega)).trans ga
 have hww:=m1.sl.cells1
 obtain ⟨K1,hK1⟩:∃ M,M=K.set h.next (.row [.int .i64 x.e,w,.int .i64 x.s,.int .i64 x.p] 0 false):=⟨_,rfl⟩
 have s1:storeAt K h.next 1 [w]=some K1:=by rw[hK1];exact H8b hww (A0d m1.sl) (by simp) rfl gK
 have g1:K1.get h.next=some (.row [.int .i64 x.e,w,.int .i64 x.s,.int .i64 x.p] 0 false):=by rw[hK1];exact Zq _ _
 have g2:K1.get (h.next+1)=some (.row [.int .i64 0,.slice none 0 0,.int .i64 0,.int .i64 0] 0 false):=by rw[hK1,Zx _ _ (by omega)];exact (m1.ext.get _ (by omega)).trans gb
 have hone:[Value.int .i64 x.e,w,.int .i64 x.s,.int .i64 x.p].all Value.oneCell'=true:=by
  obtain ⟨_,_,rfl⟩:=m1.sl.isSlice
  rfl
 have l1:Zj K1 h.next 0 4=some (J2a x w):=by rw[Zu g1 (Nat.le_of_ble_eq_true rfl)];rfl
 obtain ⟨K2,hK2⟩:∃ M,M=K1.set (h.next+1) (.row [.int .i64 x.e,w,.int .i64 x.s,.int .i64 x.p] 0 false):=⟨_,rfl⟩
 have s2:storeAt K1 (h.next+1) 0 [.int .i64 x.e,w,.int .i64 x.s,.int .i64 x.p]=some K2:=by rw[hK2];exact G1a g2 rfl hone
 have l2:Zj K2 (h.next+1) 0 4=some (J2a x w):=by rw[hK2,Zu (Zq _ _) (Nat.le_of_ble_eq_true rfl)];rfl
 simp -implicitDefEqProofs (disch:=first|omega|simp only[go_sem]) only[go_sem,true_and,c25,hcl,l0a,← hH,Zy ga]
 refine YQ t1 ?_
 simp -implicitDefEqProofs (disch:=first|omega|simp only[go_sem]) only[go_sem,true_and,hww,s1,l1,s2]
 refine B2a (v:=J2a x w) ?_ ?_
 ·rw[C1a]
  simp -implicitDefEqProofs (disch:=first|omega|simp only[go_sem]) only[go_sem,true_and,l2,D0a]
 ·refine ⟨w,rfl,?_⟩
  rw[hK2,hK1]
  exact ((m1.base hE).setX (.row gK (by decide)) (Nat.le_refl _)).setX (.row (by rw[← hK1];exact g2) (by decide)) (by omega)
def A4a (s:Xv) (t:Txn):Bool:=match I1a s.rows t.ses with
 | some x=>decide (t.req≤1099511627776)&&decide (IntKind.i64.wrap (t.req - 1)=x.req)
 | none=>decide (t.req=1)&&(decide (1≤t.ses)&&(decide (t.ses≤1099511627776)&&decide (s.rows.length<64)))
theorem c3a {l:List Row} {n:Int} {x:Row} (h:I1a l n=some x):x∈l∧x.ses=n:=by
 refine ⟨List.mem_of_find?_eq_some h,?_⟩
 have:=List.find?_some h
 simpa using this
theorem a0b {l:List Row} {n:Int}:I1a l n=none↔n∉l.map Row.ses:=by
 unfold I1a
 rw[List.find?_eq_none]
 constructor
 ·intro h hm
  obtain ⟨x,hx,rfl⟩:=List.mem_map.1 hm
  have:=h x hx
  simp at this
 ·intro h x hx e
  exact h (List.mem_map.2 ⟨x,hx,by simpa using e⟩)
theorem RowM.mem {S:Nat→Prop} {h:DHeap} {rm:List (Int × Value)} {l:List Row} (a:RowM S h rm l) (n:Int):n∈rm.map (·.1)↔n∈l.map Row.ses:=by
 constructor
 ·intro h1
  cases hq:I1a l n with
  | none=>exact absurd h1 (R7a.1 (a.2.2.1 n hq))
  | some x=>exact List.mem_map.2 ⟨x,(c3a hq).1,(c3a hq).2⟩
 ·intro h1
  cases hq:I1a l n with
  | none=>exact absurd h1 (a0b.1 hq)
  | some x=>
    obtain ⟨v,h2,_⟩:=a.2.2.2 n x hq
    exact List.mem_map.2 ⟨_,(s2a a.1).1 h2,rfl⟩
theorem RowM.len {S:Nat→Prop} {h:DHeap} {rm:List (Int × Value)} {l:List Row} (a:RowM S h rm l):rm.length=l.length:=by
 have hn:(l.map Row.ses).Nodup:=by
  rw[List.Nodup,List.pairwise_map]
  exact a.2.1.imp fun h=>by omega
 have h1:=a1a (a:=rm.map (·.1)) (b:=l.map Row.ses) a.1 fun n hn=>(a.mem n).1 hn
 have h2:=a1a (a:=l.map Row.ses) (b:=rm.map (·.1)) hn fun n hn=>(a.mem n).2 hn
 simp only[List.length_map]at h1 h2
 omega
set_option maxHeartbeats 1000000 in
theorem U3c {h:DHeap} {B cid rid:Nat} {s:Xv} {mm:List (Key × Value)} {rm:List (Int × Value)} {t:Txn} {vc va vr vw:Value} (a:SerAt h B cid rid s mm rm):DC Try.prog 24 [.pointer (some ⟨B,0,none⟩),Wq t.ses t.req vc va vr vw] h (.ret (.bool (A4a s t))) h:=by
 refine Ct.pure (h3d (by simp) ?_) (W0a _)
 have hcl:(Wq t.ses t.req vc va vr vw).cells.toList=[.int .i64 t.ses,.int .i64 t.req,vc,va,vr,vw]:=rfl
 obtain ⟨H,hH⟩:∃ H,H=h.push (.row [.int .i64 t.ses,.int .i64 t.req,vc,va,vr,vw] 0 false):=⟨_,rfl⟩
 have hE:Ext h H:=by rw[hH];exact Ext.push1 _ _
 have hHn:H.next=h.next+1:=by rw[hH];rfl
 have gH:H.get h.next=some (.row [.int .i64 t.ses,.int .i64 t.req,vc,va,vr,vw] 0 false):=by rw[hH];exact Zz _ _
 obtain ⟨A,hA⟩:∃ A,H.push (.row [.int .i64 0,.int .i64 0,.int .i64 0,.slice none 0 0,.int .i64 0,.int .i64 0] 0 false)=A:=⟨_,rfl⟩
 have eA:Ext H A:=hA▸Ext.push1 _ _
 have nA:A.next=H.next+1:=by rw[← hA];rfl
 have gA:A.get H.next=some (.row [.int .i64 0,.int .i64 0,.int .i64 0,.slice none 0 0,.int .i64 0,.int .i64 0] 0 false):=by rw[← hA];exact Zz _ _
 have gB:=(eA.get h.next (by omega)).trans gH
 have aA:=a.ext (hE.trans eA)
 have lk:=aA.rwm.lookup l8b t.ses true
 have fin:∀ (y:Row) (v:Value),[Value.int .i64 y.ses,.int .i64 y.req,.int .i64 y.x.e,v,.int .i64 y.x.s,.int .i64 y.x.p].all Value.oneCell'=true→∃ M,Yz Try.prog 72 (.pointer (some ⟨H.next,0,none⟩)) (q4a y v) A=some M∧Ext h M∧M.get h.next=some (.row [.int .i64 t.ses,.int .i64 t.req,vc,va,vr,vw] 0 false)∧ZZ M H.next 1=some (.int .i64 y.req)∧SerAt M B cid rid s mm rm:=fun y v ho=>by
  refine ⟨_,(M2b rfl).trans (G1a gA rfl ho),(hE.trans eA).set (by omega),(Zx _ _ (by omega)).trans gB,Zy (Zq _ _),?_⟩
  have eS:=(hE.trans eA).set (id:=H.next) (x:=.row [.int .i64 y.ses,.int .i64 y.req,.int .i64 y.x.e,v,.int .i64 y.x.s,.int .i64 y.x.p] 0 false) (by omega)
  exact a.ext eS
 simp -implicitDefEqProofs (disch:=first|omega|simp only[go_sem]) only[go_sem,true_and,c24,hcl,← hH]
 refine W8c rfl ?_
 cases hq:I1a s.rows t.ses with
 | some y=>
   obtain ⟨v,h1,h2⟩:=aA.rw.2.2.2 _ _ hq
   rw[h1]at lk
   have lk':J0a Try.prog 66 (.map (some rid)) (.int .i64 t.ses) true A=some (.tuple #[q4a y v,.bool true]):=lk
   obtain ⟨M,s1,eM,gM,c1,aM⟩:=fin y v (by obtain ⟨_,_,rfl⟩:=h2.isSlice;rfl)
   simp -implicitDefEqProofs (disch:=first|omega|simp only[go_sem]) only[go_sem,true_and,V7b,w8b]
   simp -implicitDefEqProofs (disch:=first|omega|simp only[go_sem]) only[go_sem,true_and,hA,Zy aA.row,Zy gB,lk',s1,gA]
   by_cases p:t.req≤1099511627776
   ·have p':=eq_true p
    simp -implicitDefEqProofs (disch:=first|omega|simp only[go_sem]) only[go_sem,true_and,Zy gM,p',Yy,Yq,c1]
    exact ⟨_,rfl,by simp[A4a,hq,p],eM⟩
   ·simp -implicitDefEqProofs (disch:=first|omega|simp only[go_sem]) only[go_sem,true_and,Zy gM,p,Yy,Yq]
    exact ⟨_,rfl,by simp[A4a,hq,p],eM⟩
 | none=>
   have h1:=aA.rw.2.2.1 _ hq
   rw[h1]at lk
   have lk':J0a Try.prog 66 (.map (some rid)) (.int .i64 t.ses) true A=some (.tuple #[q4a C8b Xw,.bool false]):=lk
   obtain ⟨M,s1,eM,gM,c1,aM⟩:=fin C8b Xw rfl
   have hlen:=aM.rw.len
   have ll:dLen Try.prog #[66] (.map (some rid)) M=some (.int .i64 (rm.length:Nat)):=aM.rwm.len T4b
   simp -implicitDefEqProofs (disch:=first|omega|simp only[go_sem]) only[go_sem,true_and,V7b,w8b]
   simp -implicitDefEqProofs (disch:=first|omega|simp only[go_sem]) only[go_sem,true_and,hA,Zy aA.row,Zy gB,lk',s1,gA]
   by_cases p1:t.req=1
   ·have p1':=eq_true p1
    by_cases p2:1≤t.ses
    ·have p2':=eq_true p2
     by_cases p3:t.ses≤1099511627776
     ·have p3':=eq_true p3
      simp -implicitDefEqProofs (disch:=first|omega|simp only[go_sem]) only[go_sem,true_and,Zy gM,p1',p2',p3',Yy,Yq,Zy aM.row,ll]
      exact ⟨_,rfl,by simp[A4a,hq,p1,p2,p3,hlen];omega,eM⟩
     ·simp -implicitDefEqProofs (disch:=first|omega|simp only[go_sem]) only[go_sem,true_and,Zy gM,p1',p2',p3,Yy,Yq]
      exact ⟨_,rfl,by simp[A4a,hq,p1,p2,p3],eM⟩
    ·simp -implicitDefEqProofs (disch:=first|omega|simp only[go_sem]) only[go_sem,true_and,Zy gM,p1',p2,Yy,Yq]
     exact ⟨_,rfl,by simp[A4a,hq,p1,p2],eM⟩
   ·simp -implicitDefEqProofs (disch:=first|omega|simp only[go_sem]) only[go_sem,true_and,Zy gM,p1,Yy,Yq]
    exact ⟨_,rfl,by simp[A4a,hq,p1],eM⟩
theorem Y7c {h:DHeap} {B cid rid:Nat} {s:Xv} {mm:List (Key × Value)} {rm:List (Int × Value)} {k:Key} (a:SerAt h B cid rid s mm rm) :
 DC Try.prog 16 [.pointer (some ⟨B,0,none⟩),Zk k] h (.ret (.tuple #[Wx ((Yu Cell.k s.cells k).getD K9a),.bool (Yu Cell.k s.cells k).isSome])) h:=by
 refine Ct.pure (Y2d (by simp) ?_) (Q5a _ rfl)
 have hcl:(Zk k).cells.toList=[.int .i32 k.t,.int .i64 k.r]:=rfl
 obtain ⟨H,hH⟩:∃ H,H=(h.push (.row [.int .i32 k.t,.int .i64 k.r] 0 false)).push (.row [.int .i32 0,.int .i64 0,.int .i64 0,.int .i64 0] 0 false):=⟨_,rfl⟩
 have hE:Ext h H:=by rw[hH];exact (Ext.push1 _ _).push _
 have hHn:H.next=h.next+2:=by rw[hH];rfl
 have gk:H.get h.next=some (.row [.int .i32 k.t,.int .i64 k.r] 0 false):=by rw[hH];exact B5a
 have gr:H.get (h.next+1)=some (.row [.int .i32 0,.int .i64 0,.int .i64 0,.int .i64 0] 0 false):=by rw[hH];exact Zz _ _
 obtain ⟨c,hc⟩:∃ c,(Yu Cell.k s.cells k).getD K9a=c:=⟨_,rfl⟩
 obtain ⟨b,hb⟩:∃ b,(Yu Cell.k s.cells k).isSome=b:=⟨_,rfl⟩
 obtain ⟨A,hA⟩:∃ A,H.push (.row [.int .i32 0,.int .i64 0,.int .i64 0,.int .i64 0] 0 false)=A:=⟨_,rfl⟩
 have eA:Ext H A:=hA▸Ext.push1 _ _
 have nA:A.next=H.next+1:=by rw[← hA];rfl
 have gA:A.get H.next=some (.row [.int .i32 0,.int .i64 0,.int .i64 0,.int .i64 0] 0 false):=by rw[← hA];exact Zz _ _
 have aH:=a.ext hE
 have aA:=aH.ext eA
 have lk:Zj A h.next 0 2=some (Zk k):=by
  rw[Zu ((eA.get _ (by omega)).trans gk) (Nat.le_of_ble_eq_true rfl)]
  rfl
 have lu:J0a Try.prog 65 (.map (some cid)) (Zk k) true A=some (.tuple #[Wx c,.bool b]):=by
  rw[aA.cel.lookup z8a k true,aA.cm.2.2 k,if_pos rfl,← hc,← hb]
  cases Yu Cell.k s.cells k <;> rfl
 obtain ⟨M,hM⟩:∃ M,M=A.set H.next (.row [.int .i32 c.k.t,.int .i64 c.k.r,.int .i64 c.v,.int .i64 c.s] 0 false):=⟨_,rfl⟩
 have s1:Yz Try.prog 36 (.pointer (some ⟨H.next,0,none⟩)) (Wx c) A=some M:=by
  rw[hM]
  exact (E0b rfl).trans (G1a gA rfl rfl)
 have l1:Zj M H.next 0 4=some (Wx c):=by rw[hM,Zu (Zq _ _) (Nat.le_of_ble_eq_true rfl)];rfl
 have gM:M.get (h.next+1)=some (.row [.int .i32 0,.int .i64 0,.int .i64 0,.int .i64 0] 0 false):=by rw[hM,Zx _ _ (by omega)];exact (eA.get _ (by omega)).trans gr
 have eM:Ext h M:=by rw[hM];exact (hE.trans eA).set (by omega)
 have s2:Yz Try.prog 36 (.pointer (some ⟨h.next+1,0,none⟩)) (Wx c) M=some (M.set (h.next+1) (.row [.int .i32 c.k.t,.int .i64 c.k.r,.int .i64 c.v,.int .i64 c.s] 0 false)):=(E0b rfl).trans (G1a gM rfl rfl)
 obtain ⟨M2,hM2⟩:∃ M2,M2=M.set (h.next+1) (.row [.int .i32 c.k.t,.int .i64 c.k.r,.int .i64 c.v,.int .i64 c.s] 0 false):=⟨_,rfl⟩
 rw[← hM2]at s2
 have l2:Zj M2 (h.next+1) 0 4=some (Wx c):=by rw[hM2,Zu (Zq _ _) (Nat.le_of_ble_eq_true rfl)];rfl
 rw[hc,hb]
 simp -implicitDefEqProofs (disch:=first|omega|simp only[go_sem]) only[go_sem,true_and,c16,hcl,l0a,← hH]
 refine YQ (a7a aH) ?_
 simp -implicitDefEqProofs (disch:=first|omega|simp only[go_sem]) only[go_sem,true_and]
 refine U8c rfl ?_
 simp -implicitDefEqProofs (disch:=first|omega|simp only[go_sem]) only[go_sem,true_and,F4c,E5c]
 simp -implicitDefEqProofs (disch:=first|omega|simp only[go_sem]) only[go_sem,true_and,hA,Zy aA.row,lk,lu,gA,s1,l1,s2,b6a,Z2a,N5a,D0a,l2]
 exact ⟨_,rfl,rfl,by rw[hM2];exact eM.set (by omega)⟩
def X4a (x:Row):List Row→List Row
 | []=>[x]
 | y :: r=>if y.ses<x.ses then y :: X4a x r else if y.ses=x.ses then x :: r else x :: y :: r
abbrev UpR (l:List Row):Prop:=l.Pairwise fun a b=>a.ses<b.ses
theorem Y6a {x z:Row}:∀ {l:List Row},UpR l→(z∈X4a x l↔z=x∨(z∈l∧z.ses≠x.ses))
 | [],_=>by simp[X4a]
 | y :: r,h=>by
   obtain ⟨hy,hr⟩:=List.pairwise_cons.1 h
   unfold X4a
   by_cases h1:y.ses<x.ses
   ·rw[if_pos h1,List.mem_cons,Y6a hr,List.mem_cons]
    constructor
    ·rintro (rfl | h2 | ⟨h2,h3⟩)
     ·exact .inr ⟨.inl rfl,by omega⟩
     ·exact .inl h2
     ·exact .inr ⟨.inr h2,h3⟩
    ·rintro (h2 | ⟨h2 | h2,h3⟩)
     ·exact .inr (.inl h2)
     ·exact .inl h2
     ·exact .inr (.inr ⟨h2,h3⟩)
   ·rw[if_neg h1]
    have hgt:∀ q∈r,q.ses≠x.ses:=fun q hq e=>by have:=hy q hq;omega
    by_cases h2:y.ses=x.ses
    ·rw[if_pos h2,List.mem_cons,List.mem_cons]
     constructor
     ·rintro (h3 | h3)
      ·exact .inl h3
      ·exact .inr ⟨.inr h3,hgt z h3⟩
     ·rintro (h3 | ⟨h3 | h3,h4⟩)
      ·exact .inl h3
      ·rw[h3]at h4;exact absurd h2 h4
      ·exact .inr h3
    ·rw[if_neg h2,List.mem_cons,List.mem_cons]
     constructor
     ·rintro (h3 | h3 | h3)
      ·exact .inl h3
      ·exact .inr ⟨.inl h3,by rw[h3];exact h2⟩
      ·exact .inr ⟨.inr h3,hgt z h3⟩
     ·rintro (h3 | ⟨h3,_⟩)
      ·exact .inl h3
      ·exact .inr h3
theorem k1b {x:Row}:∀ {l:List Row},UpR l→UpR (X4a x l)
 | [],_=>by simp[X4a]
 | y :: r,h=>by
   obtain ⟨hy,hr⟩:=List.pairwise_cons.1 h
   unfold X4a
   by_cases h1:y.ses<x.ses
   ·rw[if_pos h1]
    refine List.pairwise_cons.2 ⟨fun z hz=>?_,k1b hr⟩
    rcases (Y6a hr).1 hz with rfl | ⟨hz,_⟩
    ·exact h1
    ·exact hy z hz
   ·rw[if_neg h1]
    by_cases h2:y.ses=x.ses
    ·rw[if_pos h2]
     exact List.pairwise_cons.2 ⟨fun z hz=>by have:=hy z hz;omega,hr⟩
    ·rw[if_neg h2]
     refine List.pairwise_cons.2 ⟨fun z hz=>?_,h⟩
     rcases List.mem_cons.1 hz with rfl | hz
     ·omega
     ·have:=hy z hz;omega
theorem G1b {l:List Row} (h:UpR l) {n:Int} {x:Row}:I1a l n=some x↔x∈l∧x.ses=n:=by
 constructor
 ·exact c3a
 ·rintro ⟨h1,h2⟩
  cases hq:I1a l n with
  | none=>exact absurd (List.mem_map.2 ⟨x,h1,h2⟩) (a0b.1 hq)
  | some y=>
    obtain ⟨h3,h4⟩:=c3a hq
    congr 1
    obtain ⟨i,hi,hix⟩:=List.mem_iff_getElem.1 h1
    obtain ⟨j,hj,hjy⟩:=List.mem_iff_getElem.1 h3
    have hp:=List.pairwise_iff_getElem.1 h
    by_cases e:i=j
    ·subst e
     rw[← hix,← hjy]
    ·exfalso
     rcases Nat.lt_or_gt_of_ne e with e | e
     ·have:=hp i j hi hj e
      rw[hix,hjy]at this
      omega
     ·have:=hp j i hj hi e
      rw[hix,hjy]at this
      omega
theorem H1b {x:Row} {l:List Row} (h:UpR l) {n:Int}:I1a (X4a x l) n=if n=x.ses then some x else I1a l n:=by
 refine Option.ext fun z=>?_
 rw[G1b (k1b h),Y6a h]
 by_cases hn:n=x.ses
 ·rw[if_pos hn,Option.some.injEq]
  constructor
  ·rintro ⟨h1 | h1,h2⟩
   ·exact h1.symm
   ·exact absurd (h2.trans hn) h1.2
  ·rintro rfl
   exact ⟨.inl rfl,hn.symm⟩
 ·rw[if_neg hn,G1b h]
  constructor
  ·rintro ⟨h1 | h1,h2⟩
   ·exact absurd (by rw[← h2,h1]) hn
   ·exact ⟨h1.1,h2⟩
  ·rintro ⟨h1,h2⟩
   exact ⟨.inr ⟨h1,fun e=>hn (h2.symm.trans e)⟩,h2⟩
theorem RowM.put {S:Nat→Prop} {h:DHeap} {rm:List (Int × Value)} {l:List Row} (a:RowM S h rm l) {x:Row} {v:Value} (hv:Sl fI64.rep S h v x.x.vs):RowM S h (V0a rm x.ses (q4a x v)) (X4a x l):=by
 refine ⟨P1a a.1,k1b a.2.1,fun n hn=>?_,fun n y hy=>?_⟩
 ·rw[H1b a.2.1]at hn
  rw[H3a a.1]
  split at hn
  ·cases hn
  ·rename_i hne
   rw[if_neg hne]
   exact a.2.2.1 n hn
 ·rw[H1b a.2.1]at hy
  rw[H3a a.1]
  split at hy
  ·rename_i he
   cases hy
   exact ⟨v,by rw[if_pos he],hv⟩
  ·rename_i hne
   rw[if_neg hne]
   exact a.2.2.2 n y hy
def goS (s:Xv) (t:Txn) (i:Int):Xv × Option Row:=
 if A4a s t then (⟨s.slot,S1a t s.slot s.cells,X4a ⟨t.ses,t.req,XY t s.slot i s.cells⟩ s.rows⟩,some ⟨t.ses,t.req,XY t s.slot i s.cells⟩) else (s,none)
def r1a (s:Xv) (t:Txn) (i:Int):Xv × Option Row:=
 match I1a s.rows t.ses with
 | some x=>if x.req=t.req then (s,some x) else goS s t i
 | none=>goS s t i
def a2a:Xv × List Row→Nat→List Txn→Xv × List Row
 | q,_,[]=>q
 | q,i,t :: l=>a2a ((r1a q.1 t i).1,q.2++(r1a q.1 t i).2.toList) (i+1) l
theorem Z1b {t:Txn}:∀ {l:List Txn} {q:Xv × List Row} {i:Nat},a2a q i (l++[t])=((r1a (a2a q i l).1 t ((i+l.length:Nat):Int)).1,(a2a q i l).2++(r1a (a2a q i l).1 t ((i+l.length:Nat):Int)).2.toList)
 | [],q,i=>rfl
 | y :: l,q,i=>by
   show a2a _ (i+1) (l++[t])=_
   rw[Z1b (l:=l)]
   have:i+1+l.length=i+(y :: l).length:=by rw[List.length_cons];omega
   rw[this]
   rfl
theorem w1c {q:Xv × List Row} {l:List Txn} {i:Nat} (hi:i<l.length):a2a q 0 (l.take (i+1))=((r1a (a2a q 0 (l.take i)).1 l[i] (i:Nat)).1,(a2a q 0 (l.take i)).2++(r1a (a2a q 0 (l.take i)).1 l[i] (i:Nat)).2.toList):=by
 have hl:0+(l.take i).length=i:=by simp;omega
 rw[List.take_succ_eq_append_getElem hi,Z1b,hl]
theorem k4b {s:Xv} {t:Txn} {i:Int}:(goS s t i).1.slot=s.slot:=by
 unfold goS
 split <;> rfl
theorem a1c {s:Xv} {t:Txn} {i:Int}:(r1a s t i).1.slot=s.slot:=by
 unfold r1a
 split
 ·split
  ·rfl
  ·exact k4b
 ·exact k4b
theorem b8a:∀ {l:List Txn} {q:Xv × List Row} {i:Nat},(a2a q i l).1.slot=q.1.slot
 | [],_,_=>rfl
 | t :: l,q,i=>by
   show (a2a ((r1a q.1 t i).1,_) (i+1) l).1.slot=_
   rw[b8a]
   exact a1c
theorem Z3c {s:Xv} {t:Txn} {i:Int}:(r1a s t i).2.toList.length≤1:=by
 cases (r1a s t i).2 <;> simp
theorem H4b:∀ {l:List Txn} {q:Xv × List Row} {i:Nat},(a2a q i l).2.length≤q.2.length+l.length
 | [],_,_=>Nat.le_refl _
 | t :: l,q,i=>by
   have h1:=H4b (l:=l) (q:=((r1a q.1 t i).1,q.2++(r1a q.1 t i).2.toList)) (i:=i+1)
   have h2:=Z3c (s:=q.1) (t:=t) (i:=i)
   show (a2a ((r1a q.1 t i).1,q.2++(r1a q.1 t i).2.toList) (i+1) l).2.length≤_
   simp only[List.length_append]at h1
   rw[List.length_cons]
   omega
theorem SerAt.put {h h1:DHeap} {B cid rid:Nat} {s:Xv} {mm mm':List (Key × Value)} {rm:List (Int × Value)} {cells:List Cell} {x:Row} {v:Value} (a:SerAt h B cid rid s mm rm) (k:KpD (fun j=>j=cid∨j=rid) h h1) (hc:MapAt Zk h1 cid mm') (cm:CelM mm' cells) (hok:∀ c∈cells,fCell.ok c) (hr:MapAt g1b h1 rid (V0a rm x.ses (q4a x v))) (hv:Sl fI64.rep (w7a h1 B cid rid) h1 v x.x.vs) (hsm:x.x.vs.length≤4096):SerAt h1 B cid rid ⟨s.slot,cells,X4a x s.rows⟩ mm' (V0a rm x.ses (q4a x v)):=by
 have hn:=k.next
 obtain ⟨n1,n2,n3⟩:=a.ne
 obtain ⟨l1,l2,l3⟩:=a.lt
 refine ⟨(k.get _ l1 (by omega)).trans a.row,hc,cm,hr,RowM.put (a.rw.mono fun i hi=>⟨⟨Nat.lt_of_lt_of_le hi.1 hn,hi.2⟩,k.get i hi.1 (by obtain ⟨_,_,h2,h3⟩:=hi;omega)⟩) hv,⟨by omega,by omega,by omega⟩,a.ne,hok,fun z hz=>by
  rcases (Y6a a.rw.2.1).1 hz with rfl | ⟨hz,_⟩
  ·exact hsm
  ·exact a.sm z hz⟩
theorem v6c {a b e s p:Int} {v:Value} (hv:v.cells=#[v]):Xj Try.prog 72 [(0,.int .i64 a),(1,.int .i64 b),(2,.agg #[.int .i64 e,v,.int .i64 s,.int .i64 p])]=some (.agg #[.int .i64 a,.int .i64 b,.int .i64 e,v,.int .i64 s,.int .i64 p]):=by
 refine k0a J0d ?_
 simp only[d5a]
 rfl
theorem r6c {a b e s p:Int} {v:Value}:Xj Try.prog 62 [(0,.int .i64 a),(1,.int .i64 b),(2,.agg #[.int .i64 e,v,.int .i64 s,.int .i64 p])]=some (.agg #[.int .i64 a,.int .i64 b,.int .i64 e,v,.int .i64 s,.int .i64 p]):=by
 refine k0a H0d ?_
 simp only[d5a]
 rfl
def rRowU:Rep Row where
 z:=6
 rd S h cs x:=∃ v,cs=[.int .i64 x.ses,.int .i64 x.req,.int .i64 x.x.e,v,.int .i64 x.x.s,.int .i64 x.x.p]∧Sl fI64.rep S h v x.x.vs
 len h:=by obtain ⟨v,rfl,_⟩:=h;rfl
 one h:=by
  obtain ⟨v,rfl,s⟩:=h
  obtain ⟨_,_,rfl⟩:=s.isSlice
  rfl
 mono h m:=by
  obtain ⟨v,e,s⟩:=h
  exact ⟨v,e,s.mono m⟩
 vin h:=by
  obtain ⟨v,rfl,s⟩:=h
  intro y hy
  simp only[List.mem_cons,List.not_mem_nil,or_false]at hy
  rcases hy with rfl | rfl | rfl | rfl | rfl | rfl
  ·exact Y0a _ _
  ·exact Y0a _ _
  ·exact Y0a _ _
  ·exact s.vin
  ·exact Y0a _ _
  ·exact Y0a _ _
theorem O6b {S:Nat→Prop} {h:DHeap} {v:Value} {l:List Txn} (hb:Sl rTxn S h v l) {i:Nat} (hi:i<l.length):∃ id o vc va vr vw,ZQ Try.prog 50 v (.int .i64 (i:Nat))=some (.pointer (some ⟨id,o,none⟩))∧Zj h id o 6=some (Wq l[i].ses l[i].req vc va vr vw)∧TxV S h l[i] vc va vr vw∧inK .i64 l[i].ses∧inK .i64 l[i].req:=by
 obtain ⟨id,o,e,_,hat⟩:=hb.idx (P:=Try.prog) (t:=50) Q2d (k:=.i64) (i:=i) (x:=l[i]) (by simp)
 obtain ⟨cs,h1,h2⟩:=hat.load_agg
 obtain ⟨vc,va,vr,vw,rfl,k1,k2,tx⟩:=H1c h2
 exact ⟨id,o,vc,va,vr,vw,e,h1,tx,k1,k2⟩
abbrev v7a (n:Nat) (h:DHeap) (w:Option Nat):Nat→Prop:=fun j=>(n≤j∧j<h.next)∧w≠some j
theorem G9a {K:DHeap} {fr:Fr} {bt br n:Nat} {t:Txn} {x:Res} {v u:Value} {ans:List Row} {w:Option Nat} (f6:fr 6=some u) (f8:fr 8=some (.pointer (some ⟨bt,0,none⟩))) (f9:fr 9=some (.pointer (some ⟨br,0,none⟩)))
 (c0:∀ M,Ext K M→ZZ M bt 0=some (.int .i64 t.ses)) (c1:∀ M,Ext K M→ZZ M bt 1=some (.int .i64 t.req)) (cr:Zj K br 2 4=some (J2a x v)) (hv:Arg fI64.rep K v x.vs) (hl:x.vs.length≤4294967296)
 (o:Owns rRowU (v7a n K w) K u ans w) (hn:n≤K.next) (hw:∀ j,w=some j→n≤j) (hlen:ans.length+1≤4294967296) :
 NC Try.prog 97 X5c (L0a (fun s=>s.df=[]∧s.rd=none∧K.next≤s.h.next∧s.h.ng=K.ng∧(∀ j,j<K.next→w≠some j→s.h.get j=K.get j)∧(∃ u2 w2,s.fr 6=some u2∧Owns rRowU (v7a n s.h w2) s.h u2 (ans++[⟨t.ses,t.req,x⟩]) w2∧∀ j,w2=some j→n≤j)∧s.fr 0=fr 0∧s.fr 3=fr 3∧s.fr 21=fr 21∧s.fr 22=fr 22∧s.fr 23=fr 23) (fun _ _=>False)) ⟨fr,[],K,none⟩:=by
 refine T8c rfl ?_
 simp -implicitDefEqProofs (disch:=first|omega|simp only[go_sem]) only[go_sem,true_and,E4c,D5c,f6,f8,f9,c0 K (.refl _),c1 K (.refl _),cr]
 refine x2a (s8c hv hl) ?_
 rintro r M ⟨w1,rfl,mw⟩
 have hM:=mw.ext.next
 have ol:=o.lt
 have o1:Owns rRowU (v7a n M w) M u ans w:=o.mono hM (fun i hi=>mw.ext.get i (ol i hi)) fun i hi=>⟨⟨⟨hi.1.1,Nat.lt_of_lt_of_le hi.1.2 hM⟩,hi.2⟩,mw.ext.get i hi.1.2⟩
 have hx:rRowU.rd (v7a n M w) M [.int .i64 t.ses,.int .i64 t.req,.int .i64 x.e,w1,.int .i64 x.s,.int .i64 x.p] ⟨t.ses,t.req,x⟩:=⟨w1,rfl,mw.sl.mono fun i hi=>⟨⟨⟨Nat.le_trans hn hi.1,hi.2⟩,fun e=>by have:=ol i e;have:=hi.1;omega⟩,rfl⟩⟩
 obtain ⟨u2,h2,e3,y1,y2,y3,o3⟩:=o1.snoc (ts:=#[53,53]) (z:=6) (fun j hj=>⟨hj.1.2,hj.2⟩) hx rfl (by decide) A9c hlen (by decide)
 have hbs:∀ (L:DHeap),c0a Try.prog 53 1 [(0,.agg #[.int .i64 t.ses,.int .i64 t.req,.int .i64 x.e,w1,.int .i64 x.s,.int .i64 x.p])] L=some (.slice (some ⟨L.next,0,none⟩) 1 1,L.push (.row [.int .i64 t.ses,.int .i64 t.req,.int .i64 x.e,w1,.int .i64 x.s,.int .i64 x.p] 6 false)):=fun L=>p9b rfl
 simp -implicitDefEqProofs (disch:=first|omega|simp only[go_sem]) only[go_sem,true_and,S4a,c0 M mw.ext,c1 M mw.ext,r6c,hbs,e3]
 refine ⟨by omega,y2.trans mw.ext.ng,fun j hj hne=>(y3 j (by omega) hne).trans (mw.ext.get j hj),⟨u2,_,rfl,o3.mono (Nat.le_refl _) (fun _ _=>rfl) fun i hi=>⟨⟨⟨hi.1.1,by show i<h2.next;have:=hi.1.2;omega⟩,fun e=>by cases e;have:=hi.1.2;omega⟩,rfl⟩,fun j hj=>by cases hj;omega⟩,by trivial⟩
theorem Z7b {K:DHeap} {fr:Fr} {B cid rid bt br:Nat} {s:Xv} {mm:List (Key × Value)} {rm:List (Int × Value)} {t:Txn} {vc va vr vw:Value} {i:Int} {R0:List Value}
 (f0:fr 0=some (.pointer (some ⟨B,0,none⟩))) (f7:fr 7=some (.int .i64 i)) (f8:fr 8=some (.pointer (some ⟨bt,0,none⟩))) (f9:fr 9=some (.pointer (some ⟨br,0,none⟩)))
 (a:SerAt K B cid rid s mm rm) (gt:K.get bt=some (.row [.int .i64 t.ses,.int .i64 t.req,vc,va,vr,vw] 0 false)) (gr:K.get br=some (.row R0 0 false)) (hR:R0.length=6) (hbt:bt<K.next∧bt≠cid) (hbr:br<K.next∧br≠cid) (x:TxV (InH K) K t vc va vr vw) (hT:Q3a t) (hs:inK .i64 s.slot) :
 NC Try.prog 97 V5c (L0a (fun st=>st.df=[]∧st.rd=none∧(∃ vv mm',KpD (fun j=>j=cid∨j=br) K st.h∧st.h.get br=some (.row [.int .i64 t.ses,.int .i64 t.req,.int .i64 (XY t s.slot i s.cells).e,vv,.int .i64 s.slot,.int .i64 i] 0 false)∧Sl fI64.rep (I6a K st.h) st.h vv (XY t s.slot i s.cells).vs∧MapAt Zk st.h cid mm'∧CelM mm' (S1a t s.slot s.cells)∧∀ c∈S1a t s.slot s.cells,fCell.ok c)∧st.fr 0=fr 0∧st.fr 3=fr 3∧st.fr 6=fr 6∧st.fr 8=fr 8∧st.fr 9=fr 9∧st.fr 21=fr 21∧st.fr 22=fr 22∧st.fr 23=fr 23) (fun _ _=>False)) ⟨fr,[],K,none⟩:=by
 have lt:Zj K bt 0 6=some (Wq t.ses t.req vc va vr vw):=by rw[Zu gt (Nat.le_of_ble_eq_true rfl)];rfl
 refine R8c rfl ?_
 simp -implicitDefEqProofs (disch:=first|omega|simp only[go_sem]) only[go_sem,true_and,C4c,B5c,f0,f7,f8,f9,Zy gt,lt,Zy a.row]
 refine x2a (O4b x hT a.cel a.cm a.lt.2.1 a.ok hs) ?_
 rintro r M ⟨vv,mm',rfl,k,sv,am,cm,hok⟩
 have gt2:=(k.get bt hbt.1 hbt.2).trans gt
 have gr2:=(k.get br hbr.1 hbr.2).trans gr
 have kn:=k.next
 have hone:[Value.int .i64 t.ses,.int .i64 t.req,.int .i64 (XY t s.slot i s.cells).e,vv,.int .i64 s.slot,.int .i64 i].all Value.oneCell'=true:=by
  obtain ⟨_,_,rfl⟩:=sv.isSlice
  rfl
 obtain ⟨M2,hM2⟩:∃ M2,M2=M.set br (.row [.int .i64 t.ses,.int .i64 t.req,.int .i64 (XY t s.slot i s.cells).e,vv,.int .i64 s.slot,.int .i64 i] 0 false):=⟨_,rfl⟩
 have s1:Yz Try.prog 72 (.pointer (some ⟨br,0,none⟩)) (.agg #[.int .i64 t.ses,.int .i64 t.req,.int .i64 (XY t s.slot i s.cells).e,vv,.int .i64 s.slot,.int .i64 i]) M=some M2:=by
  rw[hM2]
  exact (M2b rfl).trans (G1a gr2 (by rw[hR];rfl) hone)
 have hbd:Xj Try.prog 72 [(0,.int .i64 t.ses),(1,.int .i64 t.req),(2,J2a (XY t s.slot i s.cells) vv)]=some (.agg #[.int .i64 t.ses,.int .i64 t.req,.int .i64 (XY t s.slot i s.cells).e,vv,.int .i64 s.slot,.int .i64 i]):=v6c sv.cells1
 simp -implicitDefEqProofs (disch:=first|omega|simp only[go_sem]) only[go_sem,true_and,S4a,f7,f8,f9,f0,Zy gt2,hbd,s1]
 have oth:∀ j,j≠br→M2.get j=M.get j:=fun j hj=>by rw[hM2];exact Zx _ _ hj
 have nM2:M2.next=M.next:=by rw[hM2];rfl
 refine ⟨⟨vv,mm',⟨by omega,by rw[hM2];exact k.ng,fun j hj hn=>(oth j (fun e=>hn (.inr e))).trans (k.get j hj fun e=>hn (.inl e))⟩,by rw[hM2];exact Zq _ _,sv.mono fun j hj=>⟨⟨hj.1,by show j<M2.next;have:=hj.2;omega⟩,oth j (by have:=hj.1;omega)⟩,am.keep (oth _ (Ne.symm hbr.2)),cm,hok⟩,by trivial⟩
theorem L6c {S:Nat→Prop} {K:DHeap} {t:Txn} {vc va vr vw:Value} (x:TxV S K t vc va vr vw) :
 ∃ K1,Yz Try.prog 26 (.pointer (some ⟨K.next,0,none⟩)) (Wq t.ses t.req vc va vr vw) (K.push (.row [.int .i64 0,.int .i64 0,.slice none 0 0,.slice none 0 0,.slice none 0 0,.slice none 0 0] 0 false))=some K1∧Ext K K1∧K1.get K.next=some (.row [.int .i64 t.ses,.int .i64 t.req,vc,va,vr,vw] 0 false)∧K1.next=K.next+1:=
 ⟨K.push (.row [.int .i64 t.ses,.int .i64 t.req,vc,va,vr,vw] 0 false),(a6c rfl).trans (a0a rfl (x.one _ _)),Ext.push1 _ _,Zz _ _,rfl⟩
abbrev a1b (k f n:Int) (vt:Value):Value:=.agg #[.int .i64 k,.int .i64 f,.int .i64 n,vt]
def h2a (k:Int) (q:Xv × List Row) (l:List Txn):Xv × List Row:=if k=1 then a2a q 0 l else q
theorem G5a {q:Xv × List Row} {l:List Txn}:h2a 1 q l=a2a q 0 l:=if_pos rfl
theorem F4b {k:Int} {q:Xv × List Row} {l:List Txn} (h:¬ k=1):h2a k q l=q:=if_neg h
theorem v1c {k:Int} {q:Xv × List Row} {l:List Txn}:(h2a k q l).1.slot=q.1.slot:=by
 unfold h2a
 split
 ·exact b8a
 ·rfl
def ApR (h:DHeap) (B cid rid:Nat) (k:Int) (s:Xv) (l:List Txn) (r:DEnd) (h1:DHeap):Prop:=
 ∃ u mm' rm',r=.ret (.tuple #[u,.int .i64 0])∧KpD (fun j=>j=B∨j=cid∨j=rid) h h1∧SerAt h1 B cid rid ⟨s.slot+1,(h2a k (s,[]) l).1.cells,(h2a k (s,[]) l).1.rows⟩ mm' rm'∧Sl rRowU (I6a h h1) h1 u (h2a k (s,[]) l).2
theorem v8b {K:DHeap} {fr:Fr} {B cid rid bt br:Nat} {sl:Int} {rm:List (Int × Value)} {x:Row} {vv:Value} {cs:List Value}
 (f0:fr 0=some (.pointer (some ⟨B,0,none⟩))) (f8:fr 8=some (.pointer (some ⟨bt,0,none⟩))) (f9:fr 9=some (.pointer (some ⟨br,0,none⟩)))
 (gB:K.get B=some (.row [.int .i64 sl,.map (some cid),.map (some rid)] 0 false)) (gt:K.get bt=some (.row (.int .i64 x.ses :: cs) 0 false)) (gr:K.get br=some (.row [.int .i64 x.ses,.int .i64 x.req,.int .i64 x.x.e,vv,.int .i64 x.x.s,.int .i64 x.x.p] 0 false)) (am:MapAt g1b K rid rm) :
 NC Try.prog 97 W5c (L0a (fun st=>st.df=[]∧st.rd=none∧(∃ ob,st.h=K.set rid ob∧MapAt g1b (K.set rid ob) rid (V0a rm x.ses (q4a x vv)))∧st.fr 0=fr 0∧st.fr 3=fr 3∧st.fr 6=fr 6∧st.fr 8=fr 8∧st.fr 9=fr 9∧st.fr 21=fr 21∧st.fr 22=fr 22∧st.fr 23=fr 23) (fun _ _=>False)) ⟨fr,[],K,none⟩:=by
 have lr:Zj K br 0 6=some (q4a x vv):=by rw[Zu gr (Nat.le_of_ble_eq_true rfl)];rfl
 obtain ⟨ob,s1,aq⟩:=am.update l8b x.ses (q4a x vv)
 refine S8c rfl ?_
 simp -implicitDefEqProofs (disch:=first|omega|simp only[go_sem]) only[go_sem,true_and,D4c,C5c,f0,f8,f9,Zy gB,Zy gt,lr,s1,S4a]
 exact ⟨⟨ob,rfl,aq⟩,by trivial⟩
theorem SerAt.ans {K N:DHeap} {B cid rid:Nat} {s:Xv} {mm:List (Key × Value)} {rm:List (Int × Value)} {S:Nat→Prop} {u:Value} {ans:List Row} {w:Option Nat} (a:SerAt K B cid rid s mm rm) (o:Owns rRowU S K u ans w) (hn:K.next≤N.next) (k:∀ j,j<K.next→w≠some j→N.get j=K.get j) (hw:∀ j,w=some j→j≠B∧j≠cid∧j≠rid):SerAt N B cid rid s mm rm:=by
 obtain ⟨l1,l2,l3⟩:=a.lt
 have hz:∀ i,NoRow K i 6→w≠some i:=fun i hi e=>by
  rcases o with ⟨_,_,rfl⟩ | ⟨rfl,_⟩ | ⟨id,cap,cells,_,rfl,_,g,_⟩
  ·cases e
  ·cases e
  ·cases e
   exact hi _ g
 exact ⟨(k B l1 fun e=>(hw B e).1 rfl).trans a.row,a.cel.keep (k cid l2 fun e=>(hw cid e).2.1 rfl),a.cm,a.rwm.keep (k rid l3 fun e=>(hw rid e).2.2 rfl),
  ⟨a.rw.1,a.rw.2.1,a.rw.2.2.1,fun n x hx=>by
   obtain ⟨v,h1,h2⟩:=a.rw.2.2.2 n x hx
   exact ⟨v,h1,(K4b (z:=6) h2 fun i hi hr=>k i hi.1 (hz i hr)).mono fun i hi=>⟨⟨Nat.lt_of_lt_of_le hi.1 hn,hi.2⟩,rfl⟩⟩⟩,
  ⟨by omega,by omega,by omega⟩,a.ne,a.ok,a.sm⟩
theorem s1b {h H K:DHeap} {B cid rid:Nat} {k:Int} {s:Xv} {l:List Txn} {mm:List (Key × Value)} {rm:List (Int × Value)} {u:Value} {w:Option Nat} (hE:Ext h H) (hHn:H.next=h.next+1) (l0:B<h.next∧cid<h.next∧rid<h.next) (h0:0≤s.slot) (hs:s.slot<1099511627776) (kK:KpD (fun j=>j=cid∨j=rid) H K) (aq:SerAt K B cid rid (h2a k (s,[]) l).1 mm rm) (ow:Owns rRowU (v7a H.next K w) K u (h2a k (s,[]) l).2 w) (hw:∀ j,w=some j→H.next≤j) :
 ∃ K1,K.get B=some (.row [.int .i64 s.slot,.map (some cid),.map (some rid)] 0 false)∧IntKind.i64.wrap (s.slot+1)=s.slot+1∧storeAt K B 0 [.int .i64 (s.slot+1)]=some K1∧ApR h B cid rid k s l (.ret (.tuple #[u,.int .i64 0])) K1:=by
 have kn:=kK.next
 obtain ⟨n1,n2,n3⟩:=aq.ne
 have hslot:(h2a k (s,[]) l).1.slot=s.slot:=v1c
 obtain ⟨q,hqq⟩:∃ q,h2a k (s,[]) l=q:=⟨_,rfl⟩
 rw[hqq]at aq ow hslot
 have hwS:IntKind.i64.wrap (s.slot+1)=s.slot+1:=r0a (by omega) (by omega)
 have gB:=aq.row
 rw[hslot]at gB
 obtain ⟨K1,hK1⟩:∃ M,M=K.set B (.row [.int .i64 (s.slot+1),.map (some cid),.map (some rid)] 0 false):=⟨_,rfl⟩
 have s1:storeAt K B 0 [.int .i64 (s.slot+1)]=some K1:=by rw[hK1];exact b0a gB (by simp) rfl
 have oth:∀ j,j≠B→K1.get j=K.get j:=fun j hj=>by rw[hK1];exact Zx _ _ hj
 have nK1:K1.next=K.next:=by rw[hK1];rfl
 have hnil:=ow.lt
 refine ⟨K1,gB,hwS,s1,?_⟩
 unfold ApR
 rw[hqq]
 refine ⟨u,mm,rm,rfl,⟨by omega,by rw[hK1];exact kK.ng.trans hE.ng,fun j hj hn2=>(oth j (fun e=>hn2 (.inl e))).trans ((kK.get j (by omega) fun e=>hn2 (.inr e)).trans (hE.get j hj))⟩,⟨?_,aq.cel.keep (oth _ (Ne.symm n1)),aq.cm,aq.rwm.keep (oth _ (Ne.symm n2)),?_,?_,aq.ne,aq.ok,aq.sm⟩,?_⟩
 ·rw[hK1];exact Zq _ _
 ·exact aq.rw.mono fun j hj=>⟨⟨by show j<K1.next;have:=hj.1;omega,hj.2⟩,oth j hj.2.1⟩
 ·rw[nK1];exact aq.lt
 ·refine ow.sl.mono fun j hj=>?_
  have h1:H.next≤j∧j<K.next:=by
   rcases hj with hj | hj
   ·exact hj.1
   ·exact ⟨hw j hj,hnil j hj⟩
  exact ⟨⟨by omega,by show j<K1.next;omega⟩,oth j (by omega)⟩
set_option maxHeartbeats 4000000 in
theorem r1b {h:DHeap} {B cid rid:Nat} {s:Xv} {mm:List (Key × Value)} {rm:List (Int × Value)} {l:List Txn} {vt:Value} {k f n:Int} (a:SerAt h B cid rid s mm rm) (h0:0≤s.slot) (hs:s.slot<1099511627776) (hb:Sl rTxn (w7a h B cid rid) h vt l) (hT:∀ t∈l,Q3a t) (hll:l.length≤1048576) :
 Ct Try.prog 14 [.pointer (some ⟨B,0,none⟩),a1b k f n vt] h (ApR h B cid rid k s l):=by
 refine W2d (by simp) ?_
 have hcl:(a1b k f n vt).cells.toList=[.int .i64 k,.int .i64 f,.int .i64 n,vt]:=rfl
 obtain ⟨H,hH⟩:∃ H,H=h.push (.row [.int .i64 k,.int .i64 f,.int .i64 n,vt] 0 false):=⟨_,rfl⟩
 have hE:Ext h H:=by rw[hH];exact Ext.push1 _ _
 have hHn:H.next=h.next+1:=by rw[hH];rfl
 have gH:H.get h.next=some (.row [.int .i64 k,.int .i64 f,.int .i64 n,vt] 0 false):=by rw[hH];exact Zz _ _
 have aH:=a.ext hE
 have el:∀ K,dLen Try.prog #[50] vt K=some (.int .i64 (l.length:Nat)):=hb.lens (P:=Try.prog) (ts:=#[50]) (t:=50) rfl m0d
 have hnf:¬ 1099511627776≤s.slot:=by omega
 have hsk:inK .i64 s.slot:=t0a.2 ⟨by omega,by omega⟩
 obtain ⟨n1,n2,n3⟩:=a.ne
 obtain ⟨l1,l2,l3⟩:=a.lt
 simp -implicitDefEqProofs (disch:=first|omega|simp only[go_sem]) only[go_sem,true_and,c14,hcl,← hH]
 refine YQ (a7a aH) ?_
 simp -implicitDefEqProofs (disch:=first|omega|simp only[go_sem]) only[go_sem,true_and,Zy aH.row,hnf,Zy gH,el]
 refine XU (σ:=Nat) (by kernel_rfl) (fun i st=>st.df=[]∧st.rd=none∧st.fr 0=some (.pointer (some ⟨B,0,none⟩))∧st.fr 3=some (.pointer (some ⟨h.next,0,none⟩))∧st.fr 21=some vt∧st.fr 22=some (.int .i64 (l.length:Nat))∧st.fr 23=some (.int .i64 (i:Nat))∧i≤l.length∧KpD (fun j=>j=cid∨j=rid) H st.h∧(∃ mm rm,SerAt st.h B cid rid (h2a k (s,[]) (l.take i)).1 mm rm)∧∃ u w,st.fr 6=some u∧Owns rRowU (v7a H.next st.h w) st.h u (h2a k (s,[]) (l.take i)).2 w∧∀ j,w=some j→H.next≤j) (fun i=>l.length - i) 0 ?_ ?_
 ·simp -implicitDefEqProofs (disch:=first|omega|simp only[go_sem]) only[go_sem,true_and]
  have hk0:h2a k (s,[]) (l.take 0)=(s,[]):=by unfold h2a;split <;> rfl
  rw[hk0]
  exact ⟨by trivial,Nat.zero_le _,.refl _ _,⟨_,_,aH⟩,_,none,rfl,Owns.nil _ _ _,fun j hj=>by cases hj⟩
 rintro i ⟨fr,df,K,rd⟩ K' hK' hX ⟨rfl,rfl,f0,f3,f21,f22,f23,hi,kK,⟨mq,rq,aq⟩,u,w,f6,ow,hw⟩
 simp only at f0 f3 f21 f22 f23 kK aq f6 ow
 have kn:=kK.next
 simp -implicitDefEqProofs (disch:=first|omega|simp only[go_sem]) only[go_sem,true_and,f21,f22,f23]
 refine j0a (fun hc1=>?_) (fun hc1=>?_)
 ·have hj:i<l.length:=by omega
  have hw1:=YZ hj (by omega)
  have hbK:Sl rTxn (w7a K B cid rid) K vt l:=hb.mono fun j hj2=>⟨⟨by have:=hj2.1;omega,hj2.2⟩,by rw[kK.get j (by have:=hj2.1;omega) (by obtain ⟨_,_,c,d⟩:=hj2;omega),hE.get j hj2.1]⟩
  obtain ⟨id1,o1,vc,va,vr,vw,i1,a1,tx,kt1,kt2⟩:=O6b hbK hj
  obtain ⟨K1,t1,eK1,gK1,nK1⟩:=L6c tx
  have gE:=(eK1.get h.next (by omega)).trans ((kK.get h.next (by omega) (by omega)).trans gH)
  by_cases hkd:k=1
  case neg=>
   simp -implicitDefEqProofs (disch:=first|omega|simp only[go_sem]) only[go_sem,true_and,f3,f21,f23,i1,a1,t1,Zy gE,eq_false hkd,decide_false,Bool.not_false]
   refine hX _ _ (by simp) ?_
   rw[F4b hkd]at aq ow
   have hkl:h2a k (s,[]) l=(s,[]):=F4b hkd
   obtain ⟨K2,gB,hwS,s1,hres⟩:=s1b (k:=k) (l:=l) hE hHn a.lt h0 hs (kK.ext eK1) (by rw[hkl];exact aq.ext eK1) (by rw[hkl];exact ow.mono (by omega) (fun j hj2=>eK1.get j (ow.lt j hj2)) fun j hj2=>⟨⟨⟨hj2.1.1,by have:=hj2.1.2;omega⟩,hj2.2⟩,eK1.get j hj2.1.2⟩) hw
   simp -implicitDefEqProofs (disch:=first|omega|simp only[go_sem]) only[go_sem,true_and,f0,f6,Zy gB,hwS,s1]
   exact ⟨_,rfl,hres⟩
  subst hkd
  rw[G5a]at aq ow
  have hq:=w1c (q:=(s,[])) hj
  obtain ⟨q,hqq⟩:∃ q,a2a (s,[]) 0 (l.take i)=q:=⟨_,rfl⟩
  rw[hqq]at hq aq ow
  have hslot:q.1.slot=s.slot:=by rw[← hqq];exact b8a
  have ht:=hT _ (List.getElem_mem hj)
  obtain ⟨t,htt⟩:∃ t,l[i]=t:=⟨_,rfl⟩
  rw[htt]at hq a1 tx kt1 kt2 t1 gK1 ht
  obtain ⟨A,hA⟩:∃ A,K1.push (.row [.int .i64 0,.int .i64 0,.int .i64 0,.slice none 0 0,.int .i64 0,.int .i64 0] 0 false)=A:=⟨_,rfl⟩
  have eA:Ext K1 A:=hA▸Ext.push1 _ _
  have nA:A.next=K1.next+1:=by rw[← hA];rfl
  have gA:A.get K1.next=some (.row [.int .i64 0,.int .i64 0,.int .i64 0,.slice none 0 0,.int .i64 0,.int .i64 0] 0 false):=by rw[← hA];exact Zz _ _
  have gT:=(eA.get K.next (by omega)).trans gK1
  have eKA:=eK1.trans eA
  have aA:=aq.ext eKA
  obtain ⟨l1',l2',l3'⟩:=aq.lt
  have lk:=aA.rwm.lookup l8b t.ses true
  obtain ⟨y,v,b,hyv,hlk,hvs⟩:∃ (y:Row) (v:Value) (b:Bool),((b=true∧I1a q.1.rows t.ses=some y)∨(b=false∧I1a q.1.rows t.ses=none))∧J0a Try.prog 66 (.map (some rid)) (.int .i64 t.ses) true A=some (.tuple #[q4a y v,.bool b])∧Sl fI64.rep (w7a A B cid rid) A v y.x.vs:=by
   cases hf:I1a q.1.rows t.ses with
   | some y=>
     obtain ⟨v,h1,h2⟩:=aA.rw.2.2.2 _ _ hf
     rw[h1]at lk
     exact ⟨y,v,true,.inl ⟨rfl,rfl⟩,lk,h2⟩
   | none=>
     rw[aA.rw.2.2.1 _ hf]at lk
     exact ⟨C8b,Xw,false,.inr ⟨rfl,rfl⟩,lk,.nil _ _ _⟩
  obtain ⟨M,hM⟩:∃ M,M=A.set K1.next (.row [.int .i64 y.ses,.int .i64 y.req,.int .i64 y.x.e,v,.int .i64 y.x.s,.int .i64 y.x.p] 0 false):=⟨_,rfl⟩
  have s1:Yz Try.prog 72 (.pointer (some ⟨K1.next,0,none⟩)) (q4a y v) A=some M:=by
   rw[hM]
   exact (M2b rfl).trans (G1a gA rfl (by obtain ⟨_,_,rfl⟩:=hvs.isSlice;rfl))
  have gR:M.get K1.next=some (.row [.int .i64 y.ses,.int .i64 y.req,.int .i64 y.x.e,v,.int .i64 y.x.s,.int .i64 y.x.p] 0 false):=by rw[hM];exact Zq _ _
  have eM:Ext K M:=by rw[hM];exact eKA.set (by omega)
  have nM:M.next=K1.next+1:=by rw[hM];exact nA
  have aM:=aq.ext eM
  have gTM:M.get K.next=some (.row [.int .i64 t.ses,.int .i64 t.req,vc,va,vr,vw] 0 false):=by rw[hM,Zx _ _ (by omega)];exact gT
  simp -implicitDefEqProofs (disch:=first|omega|simp only[go_sem]) only[go_sem,true_and,f3,f21,f23,i1,a1,t1,Zy gE]
  refine Q8c rfl ?_
  simp -implicitDefEqProofs (disch:=first|omega|simp only[go_sem]) only[go_sem,true_and,B4c,A5c]
  simp -implicitDefEqProofs (disch:=first|omega|simp only[go_sem]) only[go_sem,true_and,hA,f0,Zy aA.row,Zy gT,hlk,s1,gA]
  have oM:Owns rRowU (v7a H.next M w) M u q.2 w:=ow.mono (by omega) (fun j hj2=>eM.get j (ow.lt j hj2)) fun j hj2=>⟨⟨⟨hj2.1.1,by have:=hj2.1.2;omega⟩,hj2.2⟩,eM.get j hj2.1.2⟩
  have hqlen:q.2.length≤l.length:=by
   have:=H4b (q:=(s,[])) (i:=0) (l:=l.take i)
   rw[hqq]at this
   simp at this
   omega
  by_cases hsame:b=true∧y.req=t.req
  ·obtain ⟨rfl,hreq⟩:=hsame
   have hf:I1a q.1.rows t.ses=some y:=by
    rcases hyv with ⟨_,h1⟩ | ⟨h1,_⟩
    ·exact h1
    ·cases h1
   have hone:r1a q.1 t (i:Nat)=(q.1,some y):=by unfold r1a;rw[hf];simp only[hreq,if_true]
   have hyy:y=⟨t.ses,t.req,y.x⟩:=by
    obtain ⟨y1,y2,y3⟩:=y
    have:=(c3a hf).2
    simp only at this hreq
    rw[this,hreq]
   have hreq':=eq_true hreq
   have hvM:Arg fI64.rep M v y.x.vs:=by
    rw[hM]
    exact p8a (hvs.mono fun j hj2=>⟨hj2.1,rfl⟩:Arg fI64.rep A v y.x.vs) gA (by decide)
   have hvl:=aq.sm y (c3a hf).1
   have cr:Zj M K1.next 2 4=some (J2a y.x v):=by rw[Zu gR (Nat.le_of_ble_eq_true rfl)];rfl
   simp -implicitDefEqProofs (disch:=first|omega|simp only[go_sem]) only[go_sem,true_and,Yy,Yq,Bool.not_true,Bool.not_false,Zy gR,Zy gTM,hreq']
   refine NC.mono (G9a (n:=H.next) (t:=t) (x:=y.x) (vy f6) vz vz (fun N e=>Zy ((e.get _ (by omega)).trans gTM)) (fun N e=>Zy ((e.get _ (by omega)).trans gTM)) cr hvM (by omega) oM (by omega) hw (by omega)) ?_
   rintro e ⟨fr1,df1,N,rd1⟩ hG
   cases e <;> try exact hG.elim
   obtain ⟨rfl,rfl,kN,gN,oN,⟨u2,w2,p6,o2,hw2⟩,p0,p3,p21,p22,p23⟩:=hG
   simp only at kN gN oN p6 o2 p0 p3 p21 p22 p23
   have hne0:∀ j,w=some j→j≠B∧j≠cid∧j≠rid:=fun j hj=>by have:=hw j hj;omega
   simp -implicitDefEqProofs (disch:=first|omega|simp only[go_sem]) only[go_sem,true_and,p23,f23,hw1]
   refine hK' (i+1) _ ?_ (by omega)
   rw[G5a,hq,hone]
   exact ⟨by trivial,by trivial,by simp -implicitDefEqProofs (disch:=first|omega|simp only[go_sem]) only[go_sem,true_and,p0,f0],by simp -implicitDefEqProofs (disch:=first|omega|simp only[go_sem]) only[go_sem,true_and,p3,f3],by simp -implicitDefEqProofs (disch:=first|omega|simp only[go_sem]) only[go_sem,true_and,p21,f21],by simp -implicitDefEqProofs (disch:=first|omega|simp only[go_sem]) only[go_sem,true_and,p22,f22],vz,by omega,⟨by show H.next≤N.next;omega,gN.trans (eM.ng.trans kK.ng),fun j hj hn=>(oN j (by omega) fun e=>by have:=hw j e;omega).trans ((eM.get j (by omega)).trans (kK.get j hj hn))⟩,⟨mq,rq,aM.ans oM kN oN hne0⟩,u2,w2,by simp -implicitDefEqProofs (disch:=first|omega|simp only[go_sem]) only[go_sem,true_and,p6],by rw[hyy]at o2 ⊢;exact o2,hw2⟩
  ·have hone:r1a q.1 t (i:Nat)=goS q.1 t (i:Nat):=by
    unfold r1a
    rcases hyv with ⟨hb1,h1⟩ | ⟨_,h1⟩
    ·rw[h1]
     exact if_neg fun e=>hsame ⟨hb1,e⟩
    ·rw[h1]
   have hcase:b=false∨(b=true∧(y.req=t.req)=False):=by
    cases b
    ·exact .inl rfl
    ·exact .inr ⟨rfl,eq_false fun e=>hsame ⟨rfl,e⟩⟩
   have lT:Zj M K.next 0 6=some (Wq t.ses t.req vc va vr vw):=by rw[Zu gTM (Nat.le_of_ble_eq_true rfl)];rfl
   have hnx:=U3c (t:=t) (vc:=vc) (va:=va) (vr:=vr) (vw:=vw) aM
   have txM:TxV (InH M) M t vc va vr vw:=tx.mono fun j hj=>⟨by show j<M.next;have:=hj.1;omega,eM.get j hj.1⟩
   rcases hcase with rfl | ⟨rfl,hreq⟩
   simp -implicitDefEqProofs (disch:=first|omega|simp only[go_sem]) only[go_sem,true_and,Yy,Yq,Bool.not_true,Bool.not_false,lT,f0]
   rotate_left
   simp -implicitDefEqProofs (disch:=first|omega|simp only[go_sem]) only[go_sem,true_and,Yy,Yq,Bool.not_true,Bool.not_false,Zy gR,Zy gTM,hreq,decide_false,lT,f0]
   all_goals
    refine YQ hnx ?_
    by_cases hb:A4a q.1 t=true
    ·simp -implicitDefEqProofs (disch:=first|omega|simp only[go_sem]) only[go_sem,true_and,hb,Bool.not_true]
     have hgo:goS q.1 t (i:Nat)=(⟨q.1.slot,S1a t q.1.slot q.1.cells,X4a ⟨t.ses,t.req,XY t q.1.slot (i:Nat) q.1.cells⟩ q.1.rows⟩,some ⟨t.ses,t.req,XY t q.1.slot (i:Nat) q.1.cells⟩):=if_pos hb
     have hvl:(XY t q.1.slot (i:Nat) q.1.cells).vs.length≤4096:=k5a.1
     obtain ⟨x,hx⟩:∃ x,XY t q.1.slot (i:Nat) q.1.cells=x:=⟨_,rfl⟩
     have hxs:x.s=q.1.slot∧x.p=(i:Nat):=by rw[← hx];exact ⟨rfl,rfl⟩
     refine NC.mono (Z7b (t:=t) (i:=(i:Nat)) (vy f0) vz vz vz aM gTM gR rfl ⟨by omega,by omega⟩ ⟨by omega,by omega⟩ txM ht (by rw[hslot];exact hsk)) ?_
     rw[hx]at hgo hvl ⊢
     rintro e ⟨fr1,df1,N1,rd1⟩ hG
     cases e <;> try exact hG.elim
     obtain ⟨rfl,rfl,⟨vv,mm1,k1,g1,sv,am1,cm1,ok1⟩,p0,p3,p6,p8,p9,p21,p22,p23⟩:=hG
     simp only at k1 g1 sv am1 p0 p3 p6 p8 p9 p21 p22 p23
     have n1n:=k1.next
     simp -implicitDefEqProofs (disch:=first|omega|simp only[go_sem]) only[go_sem,true_and]
     have gB1:=(k1.get B (by omega) (by omega)).trans aM.row
     refine NC.mono (v8b (br:=K1.next) (x:=⟨t.ses,t.req,x⟩) (vv:=vv) (by simp -implicitDefEqProofs (disch:=first|omega|simp only[go_sem]) only[go_sem,true_and,p0,f0]) (by simp -implicitDefEqProofs (disch:=first|omega|simp only[go_sem]) only[go_sem,true_and,p8]) (by simp -implicitDefEqProofs (disch:=first|omega|simp only[go_sem]) only[go_sem,true_and,p9]) gB1 ((k1.get _ (by omega) (by omega)).trans gTM) (by rw[hxs.1,hxs.2];exact g1) (aM.rwm.kp k1 (by omega) (by omega))) ?_
     rintro e ⟨fr2,df2,N2,rd2⟩ hG
     cases e <;> try exact hG.elim
     obtain ⟨rfl,rfl,⟨ob,hN2,am2⟩,u0,u3,u6,u8,u9,u21,u22,u23⟩:=hG
     simp only at hN2 u0 u3 u6 u8 u9 u21 u22 u23
     have oth:∀ j,j≠rid→N2.get j=N1.get j:=fun j hj=>by rw[hN2];exact Zx _ _ hj
     have n2n:N2.next=N1.next:=by rw[hN2];rfl
     rw[← hN2]at am2
     have gT2:=(oth K.next (by omega)).trans ((k1.get _ (by omega) (by omega)).trans gTM)
     have gR2:=(oth K1.next (by omega)).trans g1
     have k2:KpD (fun j=>j=cid∨j=rid) K N2:=⟨by omega,by rw[hN2];exact k1.ng.trans eM.ng,fun j hj hn=>(oth j fun e=>hn (.inr e)).trans ((k1.get j (by omega) (by omega)).trans (eM.get j hj))⟩
     have a2:=aq.put (x:=⟨t.ses,t.req,x⟩) (v:=vv) k2 (am1.keep (oth cid (by omega))) cm1 ok1 am2 (sv.mono fun j hj=>⟨⟨by have:=hj.2;omega,by have:=hj.1;omega,by have:=hj.1;omega,by have:=hj.1;omega⟩,oth j (by have:=hj.1;omega)⟩) hvl
     have o2:Owns rRowU (v7a H.next N2 w) N2 u q.2 w:=ow.mono (by omega) (fun j hj=>k2.get j (ow.lt j hj) (by have:=hw j hj;omega)) fun j hj=>⟨⟨⟨hj.1.1,by show j<N2.next;have:=hj.1.2;omega⟩,hj.2⟩,k2.get j hj.1.2 (by have:=hj.1.1;omega)⟩
     have cr:Zj N2 K1.next 2 4=some (J2a x vv):=by rw[Zu gR2 (Nat.le_of_ble_eq_true rfl),← hxs.1,← hxs.2];rfl
     simp -implicitDefEqProofs (disch:=first|omega|simp only[go_sem]) only[go_sem,true_and]
     refine NC.mono (G9a (n:=H.next) (t:=t) (x:=x) (by simp -implicitDefEqProofs (disch:=first|omega|simp only[go_sem]) only[go_sem,true_and,u6,p6,f6]) (by simp -implicitDefEqProofs (disch:=first|omega|simp only[go_sem]) only[go_sem,true_and,u8,p8]) (by simp -implicitDefEqProofs (disch:=first|omega|simp only[go_sem]) only[go_sem,true_and,u9,p9]) (fun N e=>Zy ((e.get _ (by omega)).trans gT2)) (fun N e=>Zy ((e.get _ (by omega)).trans gT2)) cr (sv.mono fun j hj=>⟨by show j<N2.next;have:=hj.2;omega,oth j (by have:=hj.1;omega)⟩) (by omega) o2 (by omega) hw (by omega)) ?_
     rintro e ⟨fr3,df3,N,rd3⟩ hG
     cases e <;> try exact hG.elim
     obtain ⟨rfl,rfl,kN,gN,oN,⟨u2,w2,q6,o3,hw2⟩,q0,q3,q21,q22,q23⟩:=hG
     simp only at kN gN oN q6 o3 q0 q3 q21 q22 q23
     have hne0:∀ j,w=some j→j≠B∧j≠cid∧j≠rid:=fun j hj=>by have:=hw j hj;omega
     simp -implicitDefEqProofs (disch:=first|omega|simp only[go_sem]) only[go_sem,true_and,q23,u23,p23,f23,hw1]
     refine hK' (i+1) _ ?_ (by omega)
     rw[G5a,hq,hone,hgo]
     exact ⟨by trivial,by trivial,by simp -implicitDefEqProofs (disch:=first|omega|simp only[go_sem]) only[go_sem,true_and,q0,u0,p0,f0],by simp -implicitDefEqProofs (disch:=first|omega|simp only[go_sem]) only[go_sem,true_and,q3,u3,p3,f3],by simp -implicitDefEqProofs (disch:=first|omega|simp only[go_sem]) only[go_sem,true_and,q21,u21,p21,f21],by simp -implicitDefEqProofs (disch:=first|omega|simp only[go_sem]) only[go_sem,true_and,q22,u22,p22,f22],vz,by omega,⟨by show H.next≤N.next;omega,gN.trans (k2.ng.trans kK.ng),fun j hj hn=>(oN j (by omega) fun e=>by have:=hw j e;omega).trans ((k2.get j (by omega) hn).trans (kK.get j hj hn))⟩,⟨_,_,a2.ans o2 kN oN hne0⟩,u2,w2,(vy q6),o3,hw2⟩
    ·have hb2:A4a q.1 t=false:=by simpa using hb
     have hgo:goS q.1 t (i:Nat)=(q.1,none):=if_neg hb
     simp -implicitDefEqProofs (disch:=first|omega|simp only[go_sem]) only[go_sem,true_and,hb2,Bool.not_false,f23,hw1]
     refine hK' (i+1) _ ?_ (by omega)
     rw[G5a,hq,hone,hgo]
     exact ⟨by trivial,by trivial,(vy f0),(vy f3),(vy f21),(vy f22),vz,by omega,kK.ext eM,⟨mq,rq,aM⟩,u,w,(vy f6),by rw[show q.2++(none:Option Row).toList=q.2 from List.append_nil _];exact oM,hw⟩
 ·obtain rfl:i=l.length:=by omega
  rw[List.take_length]at aq ow
  obtain ⟨K2,gB,hwS,s1,hres⟩:=s1b hE hHn a.lt h0 hs kK aq ow hw
  refine hX _ _ (by simp) ?_
  simp -implicitDefEqProofs (disch:=first|omega|simp only[go_sem]) only[go_sem,true_and,f0,f6,Zy gB,hwS,s1]
  exact ⟨_,rfl,hres⟩
abbrev a3b:List Value:=[u8V 3,u8V 0,u8V 0,u8V 2,u8V 1,u8V 0,u8V 8,u8V 0,u8V 1,u8V 5,u8V 0,u8V 0,u8V 24,u8V 0]
def Z2b (s r:Int) (k:Key) (n:Int):Txn:=⟨s,r,[3,0,0,2,1,0,8,0,1,5,0,0,24,0],[n],[k],[k]⟩
theorem K9c {h:DHeap}:c0a Try.prog 22 14 [(0,u8V 3),(1,u8V 0),(2,u8V 0),(3,u8V 2),(4,u8V 1),(5,u8V 0),(6,u8V 8),(7,u8V 0),(8,u8V 1),(9,u8V 5),(10,u8V 0),(11,u8V 0),(12,u8V 24),(13,u8V 0)] h=some (.slice (some ⟨h.next,0,none⟩) 14 14,h.push (.row a3b 1 false)):=
 L2a (h:=h) (vs:=a3b) L9c (by decide) (fun v hv=>by
  simp only[a3b,List.mem_cons,List.not_mem_nil,or_false]at hv
  rcases hv with rfl | rfl | rfl | rfl | rfl | rfl | rfl | rfl | rfl | rfl | rfl | rfl | rfl | rfl <;> rfl) (by decide)
theorem q6c {a b:Int} {i j k l:Nat}:Xj Try.prog 26 [(0,.int .i64 a),(1,.int .i64 b),(2,.slice (some ⟨i,0,none⟩) 14 14),(3,.slice (some ⟨j,0,none⟩) 1 1),(4,.slice (some ⟨k,0,none⟩) 1 1),(5,.slice (some ⟨l,0,none⟩) 1 1)]=some (Wq a b (.slice (some ⟨i,0,none⟩) 14 14) (.slice (some ⟨j,0,none⟩) 1 1) (.slice (some ⟨k,0,none⟩) 1 1) (.slice (some ⟨l,0,none⟩) 1 1)):=k0a D0d rfl
theorem J9a {α:Type} (F:FRep α) {K:DHeap} {id:Nat} {S:Nat→Prop} {cs:List Value} {l:List α} {n m zz:Nat} (g:K.get id=some (.row cs zz false)) (hS:S id) (hc:cs=l.flatMap F.enc) (hz:zz=F.z) (hn:n=l.length) (hok:∀ x∈l,F.ok x):Sl F.rep S K (.slice (some ⟨id,0,none⟩) n m) l:=by
 subst hz;subst hn;subst hc
 have hl:∀ l:List α,(l.flatMap F.enc).length=l.length*F.rep.z:=by
  intro l
  induction l with
  | nil=>simp
  | cons x l ih=>rw[List.flatMap_cons,List.length_append,ih,F.len,List.length_cons,Nat.add_mul];show F.z+l.length*F.z=l.length*F.z+1*F.z;omega
 refine .inr ⟨id,0,m,_,F.z,false,rfl,hS,g,.inr rfl,by rw[hl];omega,?_⟩
 rw[List.drop_zero,← hl,List.take_length]
 exact Els.flat.2 ⟨rfl,hok⟩
theorem b3b {h:DHeap} {s r n:Int} {k:Key} (hk:fKey.ok k) (hn:inK .i64 n):Ct Try.prog 15 [.int .i64 s,.int .i64 r,Zk k,.int .i64 n] h fun r1 h1=>∃ vc va vr vw,r1=.ret (Wq s r vc va vr vw)∧Ext h h1∧TxV (I6a h h1) h1 (Z2b s r k n) vc va vr vw:=by
 refine X2d (by simp) ?_
 obtain ⟨H1,hH1⟩:∃ H,h.push (.row [.int .i32 k.t,.int .i64 k.r] 0 false)=H:=⟨_,rfl⟩
 obtain ⟨H2,hH2⟩:∃ H,H1.push (.row [.int .i64 0,.int .i64 0,Xw,Xw,Xw,Xw] 0 false)=H:=⟨_,rfl⟩
 obtain ⟨H3,hH3⟩:∃ H,H2.push (.row a3b 1 false)=H:=⟨_,rfl⟩
 obtain ⟨H4,hH4⟩:∃ H,H3.push (.row [.int .i64 n] 1 false)=H:=⟨_,rfl⟩
 obtain ⟨H5,hH5⟩:∃ H,H4.push (.row [.int .i32 k.t,.int .i64 k.r] 2 false)=H:=⟨_,rfl⟩
 obtain ⟨H6,hH6⟩:∃ H,H5.push (.row [.int .i32 k.t,.int .i64 k.r] 2 false)=H:=⟨_,rfl⟩
 have e1:Ext h H1:=hH1▸Ext.push1 _ _
 have e2:Ext H1 H2:=hH2▸Ext.push1 _ _
 have e3:Ext H2 H3:=hH3▸Ext.push1 _ _
 have e4:Ext H3 H4:=hH4▸Ext.push1 _ _
 have e5:Ext H4 H5:=hH5▸Ext.push1 _ _
 have e6:Ext H5 H6:=hH6▸Ext.push1 _ _
 have n1:H1.next=h.next+1:=by rw[← hH1];rfl
 have n2:H2.next=h.next+2:=by rw[← hH2,l0a,n1]
 have n3:H3.next=h.next+3:=by rw[← hH3,l0a,n2]
 have n4:H4.next=h.next+4:=by rw[← hH4,l0a,n3]
 have n5:H5.next=h.next+5:=by rw[← hH5,l0a,n4]
 have n6:H6.next=h.next+6:=by rw[← hH6,l0a,n5]
 have gk:∀ K,Ext H1 K→Zj K h.next 0 2=some (Zk k):=fun K e=>by
  rw[Zu ((e.get _ (by omega)).trans (by rw[← hH1];exact Zz _ _)) (Nat.le_of_ble_eq_true rfl)]
  rfl
 have gt:H6.get H1.next=some (.row [.int .i64 0,.int .i64 0,Xw,Xw,Xw,Xw] 0 false):=((((e3.trans e4).trans e5).trans e6).get _ (by omega)).trans (by rw[← hH2];exact Zz _ _)
 obtain ⟨H7,hH7⟩:∃ H,H6.set H1.next (.row [.int .i64 s,.int .i64 r,.slice (some ⟨H2.next,0,none⟩) 14 14,.slice (some ⟨H3.next,0,none⟩) 1 1,.slice (some ⟨H4.next,0,none⟩) 1 1,.slice (some ⟨H5.next,0,none⟩) 1 1] 0 false)=H:=⟨_,rfl⟩
 have st:storeAt H6 H1.next 0 [.int .i64 s,.int .i64 r,.slice (some ⟨H2.next,0,none⟩) 14 14,.slice (some ⟨H3.next,0,none⟩) 1 1,.slice (some ⟨H4.next,0,none⟩) 1 1,.slice (some ⟨H5.next,0,none⟩) 1 1]=some H7:=by
  rw[← hH7]
  exact b0a gt (Nat.le_of_ble_eq_true rfl) rfl
 have l7:Zj H7 H1.next 0 6=some (Wq s r (.slice (some ⟨H2.next,0,none⟩) 14 14) (.slice (some ⟨H3.next,0,none⟩) 1 1) (.slice (some ⟨H4.next,0,none⟩) 1 1) (.slice (some ⟨H5.next,0,none⟩) 1 1)):=by
  rw[← hH7,Zu (Zq _ _) (Nat.le_of_ble_eq_true rfl)]
  rfl
 have n7:H7.next=h.next+6:=by rw[← hH7];exact n6
 have o7:∀ j,j≠H1.next→H7.get j=H6.get j:=fun j hj=>by rw[← hH7];exact Zx _ _ hj
 have g3:H7.get H2.next=some (.row a3b 1 false):=(o7 _ (by omega)).trans ((((e4.trans e5).trans e6).get _ (by omega)).trans (by rw[← hH3];exact Zz _ _))
 have g4:H7.get H3.next=some (.row [.int .i64 n] 1 false):=(o7 _ (by omega)).trans (((e5.trans e6).get _ (by omega)).trans (by rw[← hH4];exact Zz _ _))
 have g5:H7.get H4.next=some (.row [.int .i32 k.t,.int .i64 k.r] 2 false):=(o7 _ (by omega)).trans ((e6.get _ (by omega)).trans (by rw[← hH5];exact Zz _ _))
 have g6:H7.get H5.next=some (.row [.int .i32 k.t,.int .i64 k.r] 2 false):=(o7 _ (by omega)).trans (by rw[← hH6];exact Zz _ _)
 simp -implicitDefEqProofs (disch:=first|omega|simp only[go_sem]) only[go_sem,true_and,c15,hH1,hH2,hH3,gk H4 ((e2.trans e3).trans e4),gk H5 (((e2.trans e3).trans e4).trans e5),K9c,hH4,hH5,hH6,q6c,st,C1a,D0a,l7]
 have ho:∀ x∈[k],fKey.ok x:=fun x hx=>by rw[List.mem_singleton.1 hx];exact hk
 exact ⟨_,rfl,_,_,_,_,rfl,by rw[← hH7];exact (((((e1.trans e2).trans e3).trans e4).trans e5).trans e6).set (by omega),⟨J9a fU8 g3 ⟨by omega,by omega⟩ rfl rfl rfl fun x hx=>u0c.2 (by simp only[Z2b,List.mem_cons,List.not_mem_nil,or_false]at hx;omega),J9a fI64 g4 ⟨by omega,by omega⟩ rfl rfl rfl fun x hx=>by rw[List.mem_singleton.1 hx];exact hn,J9a fKey g5 ⟨by omega,by omega⟩ rfl rfl rfl ho,J9a fKey g6 ⟨by omega,by omega⟩ rfl rfl rfl ho⟩⟩
theorem Q4b {S:Nat→Prop} {h:DHeap} {x:Txn} {vc va vr vw:Value} (k1:inK .i64 x.ses) (k2:inK .i64 x.req) (t:TxV S h x vc va vr vw):rTxn.rd S h [.int .i64 x.ses,.int .i64 x.req,vc,va,vr,vw] x:=
 ⟨[.int .i64 x.ses],_,rfl,⟨rfl,k1⟩,[.int .i64 x.req],_,rfl,⟨rfl,k2⟩,[vc],_,rfl,⟨vc,rfl,t.c⟩,[va],_,rfl,⟨va,rfl,t.a⟩,[vr],[vw],rfl,⟨vr,rfl,t.r⟩,vw,rfl,t.w⟩
theorem N0b {h:DHeap} {u:Value} {l:List Row} {i:Nat} {x:Row} (hu:Arg rRowU h u l) (hx:l[i]? = some x):∃ id o v,ZQ Try.prog 53 u (.int .i64 i)=some (.pointer (some ⟨id,o,none⟩))∧Arg fI64.rep h v x.x.vs∧∀ K,Ext h K→ZZ K id (o+2+1)=some v:=by
 obtain ⟨id,o,e,hi,cells,esz,ro,g,b,v,hc,sv⟩:=hu.idx (P:=Try.prog) (t:=53) R2d (k:=.i64) hx
 refine ⟨id,o,v,e,sv,fun K hK=>?_⟩
 have:=congrArg (fun l:List Value=>l[3]?) hc
 simp only[List.getElem?_take,List.getElem?_drop]at this
 rw[Zy ((hK.get id hi).trans g)]
 exact (by simpa using this:3<rRowU.z∧cells[o+3]? = some v).2
abbrev S2a:Key:=⟨0,3⟩
def m0b:List Txn:=[Z2b 1 1 S2a 5,Z2b 2 1 S2a 2,Z2b 1 1 S2a 9]
theorem H3c:(a2a (⟨0,[],[]⟩,[]) 0 m0b).2=[⟨1,1,0,[5],0,0⟩,⟨2,1,0,[7],0,1⟩,⟨1,1,0,[5],0,0⟩]∧(a2a (⟨0,[],[]⟩,[]) 0 m0b).1.cells=[⟨S2a,7,0⟩]:=⟨by kernel_rfl,by kernel_rfl⟩
theorem C9c {i:Nat}:Xj Try.prog 52 [(0,.int .i64 1),(3,.slice (some ⟨i,0,none⟩) 3 3)]=some (a1b 1 0 0 (.slice (some ⟨i,0,none⟩) 3 3)):=k0a G0d rfl
theorem G3c {h:DHeap}:DC Try.prog 5 [] h (.ret (.bool true)) h:=by
 refine Ct.pure (D5d (by simp) ?_) (W0a _)
 simp -implicitDefEqProofs (disch:=first|omega|simp only[go_sem]) only[go_sem,true_and,c5]
 refine Yv E6b ?_
 rintro r H ⟨B,cid,rid,rfl,eH,b1,b2,b3,a⟩
 have hbk:Xj Try.prog 34 [(1,.int .i64 3)]=some (Zk S2a):=k0a d1c rfl
 obtain ⟨H1,hH1⟩:∃ M,H.push (.row [.int .i32 0,.int .i64 3] 0 false)=M:=⟨_,rfl⟩
 have e1:Ext H H1:=hH1▸Ext.push1 _ _
 have n1:H1.next=H.next+1:=by rw[← hH1];rfl
 have st1:Yz Try.prog 34 (.pointer (some ⟨H.next,0,none⟩)) (Zk S2a) (H.push (.row [.int .i32 0,.int .i64 0] 0 false))=some H1:=by
  rw[← hH1]
  exact (s3a rfl).trans (a0a rfl rfl)
 have gk:∀ K,Ext H1 K→Zj K H.next 0 2=some (Zk S2a):=fun K e=>by
  rw[Zu ((e.get _ (by omega)).trans (by rw[← hH1];exact Zz _ _)) (Nat.le_of_ble_eq_true rfl)]
  rfl
 have hk3:fKey.ok S2a:=⟨a8c.2 ⟨by decide,by decide⟩,t0a.2 ⟨by decide,by decide⟩⟩
 have i64:∀ n:Int,0≤n→n≤9→inK .i64 n:=fun n _ _=>t0a.2 ⟨by omega,by omega⟩
 simp -implicitDefEqProofs (disch:=first|omega|simp only[go_sem]) only[go_sem,true_and,Xx,x9a,hbk,st1]
 refine m1d rfl ?_
 simp -implicitDefEqProofs (disch:=first|omega|simp only[go_sem]) only[go_sem,true_and,j0d,M0d,gk H1 (.refl _)]
 refine x2a (b3b hk3 (i64 5 (by decide) (by decide))) ?_
 rintro r K1 ⟨vc1,va1,vr1,vw1,rfl,f1,x1⟩
 have gk1:=gk K1 f1
 simp -implicitDefEqProofs (disch:=first|omega|simp only[go_sem]) only[go_sem,true_and,S4a,gk1]
 refine x2a (b3b hk3 (i64 2 (by decide) (by decide))) ?_
 rintro r K2 ⟨vc2,va2,vr2,vw2,rfl,f2,x2⟩
 have gk2:=gk K2 (f1.trans f2)
 simp -implicitDefEqProofs (disch:=first|omega|simp only[go_sem]) only[go_sem,true_and,S4a,gk2]
 refine x2a (b3b hk3 (i64 9 (by decide) (by decide))) ?_
 rintro r K3 ⟨vc3,va3,vr3,vw3,rfl,f3,x3⟩
 have m1:=f1.next
 have m2:=f2.next
 have m3:=f3.next
 have hcs:∀ {S K t a b c d},TxV S K t a b c d→∀ x y,(Wq x y a b c d).cells.toList=[.int .i64 x,.int .i64 y,a,b,c,d]∧(Wq x y a b c d).cells.size=6:=fun _ _ _=>⟨rfl,rfl⟩
 have hbs:=L2a (h:=K3) (t:=50) (vs:=[Wq 1 1 vc1 va1 vr1 vw1,Wq 2 1 vc2 va2 vr2 vw2,Wq 1 1 vc3 va3 vr3 vw3]) N9c (Nat.succ_pos _) (fun v hv=>by
  simp only[List.mem_cons,List.not_mem_nil,or_false]at hv
  rcases hv with rfl | rfl | rfl <;> rfl) (Nat.le_of_ble_eq_true rfl)
 have hbs2:c0a Try.prog 50 3 [(0,Wq 1 1 vc1 va1 vr1 vw1),(1,Wq 2 1 vc2 va2 vr2 vw2),(2,Wq 1 1 vc3 va3 vr3 vw3)] K3=some (.slice (some ⟨K3.next,0,none⟩) 3 3,K3.push (.row ([.int .i64 1,.int .i64 1,vc1,va1,vr1,vw1]++([.int .i64 2,.int .i64 1,vc2,va2,vr2,vw2]++([.int .i64 1,.int .i64 1,vc3,va3,vr3,vw3]++[]))) 6 false)):=hbs
 obtain ⟨K4,hK4⟩:∃ K,K=K3.push (.row ([.int .i64 1,.int .i64 1,vc1,va1,vr1,vw1]++([.int .i64 2,.int .i64 1,vc2,va2,vr2,vw2]++([.int .i64 1,.int .i64 1,vc3,va3,vr3,vw3]++[]))) 6 false):=⟨_,rfl⟩
 rw[← hK4]at hbs2
 have f4:Ext K3 K4:=hK4▸Ext.push1 _ _
 have m4:K4.next=K3.next+1:=by rw[hK4];rfl
 have e4:Ext H K4:=e1.trans (f1.trans (f2.trans (f3.trans f4)))
 have a4:=a.ext e4
 obtain ⟨l1,l2,l3⟩:=a.lt
 have fr:∀ {x y j},H1.next≤x→y≤K4.next→(x≤j∧j<y)→w7a K4 B cid rid j:=fun {x y j} h1 h2 h3=>⟨by omega,by omega,by omega,by omega⟩
 have sl:Sl rTxn (w7a K4 B cid rid) K4 (.slice (some ⟨K3.next,0,none⟩) 3 3) m0b:=.inr ⟨K3.next,0,3,_,6,false,rfl,⟨by omega,by omega,by omega,by omega⟩,by rw[hK4];exact Zz _ _,.inr rfl,Nat.le_of_ble_eq_true rfl,
  ⟨_,_,rfl,Q4b (i64 1 (by decide) (by decide)) (i64 1 (by decide) (by decide)) (x1.mono fun j hj=>⟨fr (Nat.le_refl _) (by omega) hj,(f2.trans (f3.trans f4)).get j hj.2⟩),
   _,_,rfl,Q4b (i64 2 (by decide) (by decide)) (i64 1 (by decide) (by decide)) (x2.mono fun j hj=>⟨fr m1 (by omega) hj,(f3.trans f4).get j hj.2⟩),
   _,_,rfl,Q4b (i64 1 (by decide) (by decide)) (i64 1 (by decide) (by decide)) (x3.mono fun j hj=>⟨fr (by omega) (by omega) hj,f4.get j hj.2⟩),rfl⟩⟩
 have hTl:∀ t∈m0b,Q3a t:=fun t ht=>by
  simp only[m0b,List.mem_cons,List.not_mem_nil,or_false]at ht
  rcases ht with rfl | rfl | rfl <;> exact ⟨by decide,by decide,by decide,by decide⟩
 have gk3:=gk K3 (f1.trans (f2.trans f3))
 have gk4:=gk K4 (f1.trans (f2.trans (f3.trans f4)))
 simp -implicitDefEqProofs (disch:=first|omega|simp only[go_sem]) only[go_sem,true_and,S4a,gk3,gk4,hbs2,C9c]
 refine x2a (r1b a4 (by decide) (by decide) sl hTl (by decide)) ?_
 rintro r K5 ⟨u,mm',rm',rfl,k5,a5,su⟩
 obtain ⟨lr1,lr2⟩:=H3c
 rw[G5a]at su a5
 rw[lr1]at su
 obtain ⟨rws,a5'⟩:∃ rws,SerAt K5 B cid rid ⟨1,[⟨S2a,7,0⟩],rws⟩ mm' rm':=⟨_,by rw[← lr2];exact a5⟩
 have m5:=k5.next
 have gk5:Zj K5 H.next 0 2=some (Zk S2a):=by
  rw[Zu ((k5.get _ (by omega) (by omega)).trans (((f1.trans (f2.trans (f3.trans f4))).get _ (by omega)).trans (by rw[← hH1];exact Zz _ _))) (Nat.le_of_ble_eq_true rfl)]
  rfl
 simp -implicitDefEqProofs (disch:=first|omega|simp only[go_sem]) only[go_sem,true_and,S4a,gk5]
 have hlast:Yu Cell.k [⟨S2a,7,0⟩] S2a=some ⟨S2a,7,0⟩:=by kernel_rfl
 have hget:DC Try.prog 16 [.pointer (some ⟨B,0,none⟩),Zk S2a] K5 (.ret (.tuple #[Wx ⟨S2a,7,0⟩,.bool true])) K5:=by
  have:=Y7c (k:=S2a) a5'
  rw[hlast]at this
  exact this
 refine YQ hget ?_
 obtain ⟨K6,hK6⟩:∃ K,K=K5.push (.row [.int .i32 0,.int .i64 3,.int .i64 7,.int .i64 0] 0 false):=⟨_,rfl⟩
 have f6:Ext K5 K6:=hK6▸Ext.push1 _ _
 have st6:Yz Try.prog 36 (.pointer (some ⟨K5.next,0,none⟩)) (Wx ⟨S2a,7,0⟩) (K5.push (.row [.int .i32 0,.int .i64 0,.int .i64 0,.int .i64 0] 0 false))=some K6:=by
  rw[hK6]
  exact (E0b rfl).trans (a0a rfl rfl)
 have su6:Arg rRowU K6 u _:=(su.mono fun j hj=>⟨hj.2,rfl⟩:Arg rRowU K5 u _).ext f6
 obtain ⟨id1,o1,v1,i1,w1,z1⟩:=N0b (i:=0) su6 rfl
 have i1':ZQ Try.prog 53 u (.int .i64 0)=some (.pointer (some ⟨id1,o1,none⟩)):=i1
 obtain ⟨id2,o2,v2,i2,w2,z2⟩:=N0b (i:=1) su6 rfl
 have i2':ZQ Try.prog 53 u (.int .i64 1)=some (.pointer (some ⟨id2,o2,none⟩)):=i2
 obtain ⟨id3,o3,v3,i3,w3,z3⟩:=N0b (i:=2) su6 rfl
 have i3':ZQ Try.prog 53 u (.int .i64 2)=some (.pointer (some ⟨id3,o3,none⟩)):=i3
 have hlen:∀ K,dLen Try.prog #[53] u K=some (.int .i64 3):=su6.lens (P:=Try.prog) (ts:=#[53]) (t:=53) rfl n0d
 obtain ⟨K7,hK7⟩:∃ K,K=K6.push (.row [.int .i64 5] 1 false):=⟨_,rfl⟩
 obtain ⟨K8,hK8⟩:∃ K,K=K7.push (.row [.int .i64 7] 1 false):=⟨_,rfl⟩
 obtain ⟨K9,hK9⟩:∃ K,K=K8.push (.row [.int .i64 5] 1 false):=⟨_,rfl⟩
 have f7:Ext K6 K7:=hK7▸Ext.push1 _ _
 have f8:Ext K7 K8:=hK8▸Ext.push1 _ _
 have f9:Ext K8 K9:=hK9▸Ext.push1 _ _
 have ok1:∀ n:Int,0≤n→n≤9→∀ x∈[n],fI64.ok x:=fun n h1 h2 x hx=>by rw[List.mem_singleton.1 hx];exact i64 n h1 h2
 have b7:Arg fI64.rep K7 (.slice (some ⟨K6.next,0,none⟩) 1 1) [5]:=by rw[hK7];exact built fI64 K6 rfl rfl rfl (ok1 5 (by decide) (by decide))
 have b8:Arg fI64.rep K8 (.slice (some ⟨K7.next,0,none⟩) 1 1) [7]:=by rw[hK8];exact built fI64 K7 rfl rfl rfl (ok1 7 (by decide) (by decide))
 have b9:Arg fI64.rep K9 (.slice (some ⟨K8.next,0,none⟩) 1 1) [5]:=by rw[hK9];exact built fI64 K8 rfl rfl rfl (ok1 5 (by decide) (by decide))
 have e5:q1a (fun a b:Int=>decide (a=b)) [5] [5]=true:=by decide
 have e7:q1a (fun a b:Int=>decide (a=b)) [7] [7]=true:=by decide
 simp -implicitDefEqProofs (disch:=first|omega|simp only[go_sem]) only[go_sem,true_and,Xx,st6,hlen,Yy,decide_true,i1',z1 K6 (.refl _),← hK7]
 refine YQ (n9a (w1.ext f7) b7 (by decide)) ?_
 simp -implicitDefEqProofs (disch:=first|omega|simp only[go_sem]) only[go_sem,true_and,Yy,e5,i2',z2 K7 f7,← hK8]
 refine YQ (n9a ((w2.ext f7).ext f8) b8 (by decide)) ?_
 simp -implicitDefEqProofs (disch:=first|omega|simp only[go_sem]) only[go_sem,true_and,Yy,e7,i3',z3 K8 (f7.trans f8),← hK9]
 refine YQ (n9a (((w3.ext f7).ext f8).ext f9) b9 (by decide)) ?_
 have c7:ZZ K9 K5.next 2=some (.int .i64 7):=Zy (((f7.trans (f8.trans f9)).get _ (by rw[hK6];exact Nat.lt_succ_self _)).trans (by rw[hK6];exact Zz _ _))
 simp -implicitDefEqProofs (disch:=first|omega|simp only[go_sem]) only[go_sem,true_and,Yy,e5,c7,decide_true]
 refine YQ (L4b (a5'.ext (f6.trans (f7.trans (f8.trans f9))))) ?_
 simp -implicitDefEqProofs (disch:=first|omega|simp only[go_sem]) only[go_sem,true_and,Yy,decide_true]
 exact ⟨_,rfl,rfl,⟨by show h.next≤K9.next;have:=eH.next;have:=e4.next;have:=(f6.trans (f7.trans (f8.trans f9))).next;omega,(f6.trans (f7.trans (f8.trans f9))).ng.trans (k5.ng.trans (e4.ng.trans eH.ng)),fun j hj=>((f6.trans (f7.trans (f8.trans f9))).get j (by have:=eH.next;have:=e4.next;omega)).trans ((k5.get j (by have:=eH.next;have:=e4.next;omega) (by omega)).trans ((e4.get j (by have:=eH.next;omega)).trans (eH.get j hj)))⟩⟩
end Go.Proofs.Ytheamfnbfgiaeaa
namespace Go.Proofs.Ytheamfnbfgiaeaa
open Go.D
set_option maxRecDepth 100000
structure AggT {α:Type} (s e:TypeId) (F:FRep α):Prop where
 el:G0a Try.prog s=some F.z
 isl:r2a Try.prog s=true
 one:f3a Try.prog s=true
 eszS:c1a Try.prog s=0
 agg:E4a Try.prog e=some F.z
 zero:∃ zs,zeroCells Try.prog e=some zs∧zs.all Yw=true∧zs.length=F.z
 esz:c1a Try.prog e=0
 app:∃ b,M2a Try.prog #[s,s]=some (F.z,b)∧b≤32768
 bsl:∃ zs,l4a Try.prog s=some (F.z,zs)
 le:0<F.z∧F.z≤1024
abbrev t5a {α:Type} (F:FRep α) (x:α):Value:=.agg (F.enc x).toArray
section
variable {α:Type} {s e:TypeId} {F:FRep α}
theorem AggT.size (T:AggT s e F) {x:α}:(t5a F x).cells.size=F.z:=by
 show (F.enc x).toArray.size=F.z
 simp[F.len]
theorem AggT.box (T:AggT s e F) (K:DHeap) {x:α} (hx:F.ok x):∃ zs,i1a Try.prog e K=some (.pointer (some ⟨K.next,0,none⟩),K.push (.row zs 0 false))∧Yz Try.prog e (.pointer (some ⟨K.next,0,none⟩)) (t5a F x) (K.push (.row zs 0 false))=some (K.push (.row (F.enc x) 0 false))∧∀ M,Ext (K.push (.row (F.enc x) 0 false)) M→XQ Try.prog e (.pointer (some ⟨K.next,0,none⟩)) M=some (t5a F x):=by
 obtain ⟨zs,z1,z2,z3⟩:=T.zero
 refine ⟨zs,M8a z1 z2 T.esz,(V9a T.agg (by simp[F.len])).trans ?_,fun M hM=>?_⟩
 ·exact a0a (by simp[F.len,z3]) (by simpa using F.rep.one (S:=fun _=>True) (h:=K) ⟨rfl,hx⟩)
 ·rw[L5a T.agg,Zu ((hM.get _ (Nat.lt_succ_self _)).trans (Zz _ _)) (by rw[F.len];omega)]
  simp[List.take_of_length_le,F.len]
def P2b (s e:TypeId):Code:=.seq (rg [qL 5 s 1,qN 6 5 s,mo 7 (.move (I64 0))])
 (.block 0 (.loop (.seq (rg [qB 8 .lss 3 7 6 3])
   (.seq (.cond (T 8) .skip (.exit 0))
   (.seq (.block 1 (.seq (rg [qI 9 s 5 7,qL 10 e 9,mo 4 (.alloc e),qS e 4 10])
     (.seq (rg [qV 11 0,qL 12 e 4,mo 13 (.call ⟨.value (T 11),#[T 12],#[e]⟩),mo 14 (.unOp .not 4 (T 13))])
     (.cond (T 14) .ret .skip))))
     (rg [mo 15 (.binOp .add 3 (T 7) (I64 1) 3),qV 7 15]))))))
theorem K8b {f:FuncId} (go:GoC Try.prog f 16 (P2b s e) []) (T:AggT s e F) {h:DHeap} {c l p:Nat} {D:n2a} {v:Value} {lst:List α} (I:Nat→DHeap→Prop) (J:DHeap→Prop) (hp:D.params=#[p]) (hps:p<D.size) (hlen:lst.length≤4294967296) (h0:I 0 h)
 (hI:∀ i K,I i K→K.get l=some (.loop D)∧K.get c=some (.row [v] 0 false)∧Arg F.rep K v lst) (hE:∀ i K K',I i K→Ext K K'→I i K')
 (hR:∀ i K x,I i K→lst[i]? = some x→Rt Try.prog l D.size (w0a D.tmps [p] [t5a F x]) D.assign D.body K fun r H=>(r=.ret (.bool true)∧I (i+1) H)∨(r=.ret (.bool false)∧J H)) :
 Ct Try.prog f [.func (.yield l) #[] #[],.pointer (some ⟨c,0,none⟩)] h fun r H=>(∃ v,r=.ret v)∧(I lst.length H∨J H):=by
 refine go (by simp) ?_
 obtain ⟨hl0,hc0,a0⟩:=hI 0 h h0
 have C0:XQ Try.prog s (.pointer (some ⟨c,0,none⟩)) h=some v:=(M5a T.one).trans (Zy hc0)
 have el:∀ K,dLen Try.prog #[s] v K=some (.int .i64 (lst.length:Nat)):=a0.lens (P:=Try.prog) (ts:=#[s]) (t:=s) rfl T.isl
 simp -implicitDefEqProofs (disch:=first|omega|simp only[go_sem]) only[go_sem,true_and,P2b,C0,el]
 refine XU (σ:=Nat) (by kernel_rfl) (fun i st=>st.df=[]∧st.rd=none∧st.fr 0=some (.func (.yield l) #[] #[])∧st.fr 5=some v∧st.fr 6=some (.int .i64 (lst.length:Nat))∧st.fr 7=some (.int .i64 (i:Nat))∧i≤lst.length∧I i st.h) (fun i=>lst.length - i) 0 ?_ ?_
 ·simp -implicitDefEqProofs (disch:=first|omega|simp only[go_sem]) only[go_sem,true_and]
  exact ⟨by trivial,Nat.zero_le _,h0⟩
 rintro i ⟨fr,df,K,rd⟩ K' hK' hX ⟨rfl,rfl,f0,f5,f6,f7,hi,hinv⟩
 simp only at f0 f5 f6 f7 hinv
 simp -implicitDefEqProofs (disch:=first|omega|simp only[go_sem]) only[go_sem,true_and,f5,f6,f7]
 refine j0a (fun hc1=>?_) (fun hc1=>?_)
 ·have hj:i<lst.length:=by omega
  have hw:=YZ hj (by omega)
  obtain ⟨_,_,aK⟩:=hI i K hinv
  obtain ⟨id1,o1,i1,_,hat1⟩:=aK.idx (P:=Try.prog) (t:=s) T.el (k:=.i64) (i:=i) (x:=lst[i]) (by simp)
  have hx:=hat1.flat.2.2
  obtain ⟨zs,b1,b2,b3⟩:=T.box K hx
  have a1:XQ Try.prog e (.pointer (some ⟨id1,o1,none⟩)) K=some (t5a F lst[i]):=(L5a T.agg).trans hat1.flat.2.1
  have a1':XQ Try.prog e (.pointer (some ⟨id1,o1,none⟩)) K=some (t5a F lst[i]):=a1
  obtain ⟨K1,hK1⟩:∃ K1,K.push (.row (F.enc lst[i]) 0 false)=K1:=⟨_,rfl⟩
  rw[hK1]at b2 b3
  have eK1:Ext K K1:=hK1▸Ext.push1 _ _
  have hI1:=hE i K K1 hinv eK1
  obtain ⟨lp1,_,_⟩:=hI i K1 hI1
  have hy:d2a Try.prog K1 (some (.func (.yield l) #[] #[])) (some [t5a F lst[i]])=.ok (.round l D.size (w0a D.tmps [p] [t5a F lst[i]]) D.assign D.body) K1:=by
   rw[w5a lp1 _ (by rw[hp];rfl) (by rw[hp];simpa using hps),hp]
  simp -implicitDefEqProofs (disch:=first|omega|simp only[go_sem]) only[go_sem,true_and,f0,f5,f7,i1,a1,b1,b2,b3 K1 (.refl _),hy]
  refine V7a (hR i K1 _ hI1 (List.getElem?_eq_getElem hj)) ?_
  rintro r H (⟨rfl,hI2⟩ | ⟨rfl,hJ⟩)
  ·simp -implicitDefEqProofs (disch:=first|omega|simp only[go_sem]) only[go_sem,true_and,Xx,Bool.not_true,f7,hw]
   refine hK' (i+1) _ ?_ (by omega)
   exact ⟨by trivial,by trivial,(vy f0),(vy f5),(vy f6),vz,by omega,hI2⟩
  ·simp -implicitDefEqProofs (disch:=first|omega|simp only[go_sem]) only[go_sem,true_and,Xx,Bool.not_false]
   refine hX _ _ (by simp) ?_
   simp -implicitDefEqProofs (disch:=first|omega|simp only[go_sem]) only[go_sem,true_and]
   exact ⟨_,rfl,⟨_,rfl⟩,.inr hJ⟩
 obtain rfl:i=lst.length:=by omega
 refine hX _ _ (by simp) ?_
 simp -implicitDefEqProofs (disch:=first|omega|simp only[go_sem]) only[go_sem,true_and]
 exact ⟨_,rfl,⟨_,rfl⟩,.inl hinv⟩
end
theorem M2d:AggT 31 36 fCell:=⟨by kernel_rfl,by kernel_rfl,by kernel_rfl,by kernel_rfl,by kernel_rfl,⟨[.int .i32 0,.int .i64 0,.int .i64 0,.int .i64 0],by kernel_rfl,by kernel_rfl,by kernel_rfl⟩,by kernel_rfl,⟨_,f3b,by decide⟩,⟨_,M9c⟩,by decide⟩
theorem v3c:GoC Try.prog 29 16 (P2b 31 36) []:=fun h1 h2=>m3d h1 h2
end Go.Proofs.Ytheamfnbfgiaeaa
namespace Go.Proofs.Ytheamfnbfgiaeaa
open Go.D
set_option maxRecDepth 100000
section
variable {α:Type} {s e:TypeId} {F:FRep α}
def apC (s:TypeId) (fa fb:Code):Code:=.seq (rg [mo 2 (.box s (T 0)),mo 4 (.assign (.const (.slice none 0 0)))])
 (.seq (.seq (rg [qV 6 1]) (.block 0 (.rangeFunc (T 6) #[7] fa fb)))
 (.seq (rg [qL 12 s 2,qA 4 12]) .ret))
def apA (e:TypeId):Code:=rg [mo 5 (.alloc e),qS e 5 7]
def apB (s e:TypeId):Code:=.block 1 (rg [qL 8 s 2,qL 9 e 5,mo 10 (.buildSlice s 1 #[(0,T 9)]),mo 11 (.call ⟨.builtin .append,#[T 8,T 10],#[s,s]⟩),qS s 2 11])
abbrev apD (fa fb:Code) (fr:Fr) (k:Nat):n2a:=⟨13,fr,#[7],fa,fb,k,.ready,none⟩
structure ApI (F:FRep α) (fa fb:Code) (hB:DHeap) (fr:Fr) (b:Nat) (l:List α) (K:DHeap):Prop where
 r:Rng hB (apD fa fb fr hB.next) (fun j=>j=b) K
 box:∃ v w,K.get b=some (.row [v] 0 false)∧Owns F.rep NoS K v l w∧∀ i,w=some i→hB.next+1<i
theorem ApI.ext {fa fb:Code} {hB K K':DHeap} {fr:Fr} {b:Nat} {l:List α} (x:ApI F fa fb hB fr b l K) (hb:b<hB.next) (e:Ext K K'):ApI F fa fb hB fr b l K':=by
 have hn:=x.r.nx
 obtain ⟨v,w,g,o,hw⟩:=x.box
 exact ⟨x.r.ext e,v,w,(e.get _ (by omega)).trans g,o.mono e.next (fun i hi=>e.get i (o.lt i hi)) (fun i hi=>hi.elim),hw⟩
theorem g2c {fa fb:Code} (ta:Go.D.strip fa=apA e) (tb:Go.D.strip fb=apB s e) (T:AggT s e F) {hB K:DHeap} {fr:Fr} {b:Nat} {l:List α} {x:α} (hx:F.ok x) (hlen:l.length+1≤4294967296) (hb:b<hB.next) (f2:fr 2=some (.pointer (some ⟨b,0,none⟩))) (a:ApI F fa fb hB fr b l K) :
 Rt Try.prog (hB.next+1) 13 (w0a fr [7] [t5a F x]) fa fb K fun r H=>r=.ret (.bool true)∧ApI F fa fb hB fr b (l++[x]) H:=by
 obtain ⟨v,w,gb,o,hw⟩:=a.box
 have hwl:=o.lt
 have nx:=a.r.nx
 refine T5b ta tb (by kernel_rfl) (by kernel_rfl) ?_
 obtain ⟨zs,b1,b2,b3⟩:=T.box K hx
 obtain ⟨K1,hK1⟩:∃ K1,K1=K.push (.row (F.enc x) 0 false):=⟨_,rfl⟩
 rw[← hK1]at b2 b3
 have r1:=a.r.push (.row (F.enc x) 0 false)
 rw[← hK1]at r1
 simp -implicitDefEqProofs (disch:=first|omega|simp only[go_sem]) only[go_sem,true_and,apA,w0a,b1,b2]
 refine ⟨_,r1.lp,rfl,?_⟩
 obtain ⟨D2,hD2⟩:∃ D2:n2a,D2={ apD fa fb fr hB.next with state:=.busy,pending:=(apD fa fb fr hB.next).pending }:=⟨_,rfl⟩
 rw[← hD2]
 obtain ⟨K2,hK2⟩:∃ K2,K2=K1.set (hB.next+1) (.loop D2):=⟨_,rfl⟩
 rw[← hK2]
 have r2:Rng hB D2 (fun j=>j=b) K2:=by rw[hK2];exact r1.loop _
 have hK2n:K2.next=K.next+1:=by rw[hK2,hK1];rfl
 have hK2g:K2.ng=K.ng:=by rw[hK2,hK1];rfl
 have oth:∀ j,j<K.next→j≠hB.next+1→K2.get j=K.get j:=fun j hj hne=>by rw[hK2,Zx _ _ hne,hK1,ZX _ _ hj]
 have gb2:K2.get b=some (.row [v] 0 false):=(oth _ (by omega) (by omega)).trans gb
 have gk2:K2.get K.next=some (.row (F.enc x) 0 false):=by rw[hK2,Zx _ _ (by omega),hK1];exact Zz _ _
 have o2:Owns F.rep NoS K2 v l w:=o.mono (by omega) (fun i hi=>oth i (hwl i hi) (by have:=hw i hi;omega)) (fun i hi=>hi.elim)
 have lb:XQ Try.prog s (.pointer (some ⟨b,0,none⟩)) K2=some v:=(M5a T.one).trans (Zy gb2)
 have lk:XQ Try.prog e (.pointer (some ⟨K.next,0,none⟩)) K2=some (t5a F x):=by
  rw[L5a T.agg,Zu gk2 (by rw[F.len];omega)]
  simp[List.take_of_length_le,F.len]
 obtain ⟨bb,hT,hbb⟩:=T.app
 obtain ⟨zz,hB0⟩:=T.bsl
 have hle:=T.le
 have bs:c0a Try.prog s 1 [(0,t5a F x)] K2=some (.slice (some ⟨K2.next,0,none⟩) 1 1,K2.push (.row (F.enc x) F.z false)):=o7a hB0 T.size (by omega)
 obtain ⟨v',h2,e6,n2,ng2,gg,o3⟩:=o2.snoc (P:=Try.prog) (ts:=#[s,s]) (cs:=F.enc x) (x:=x) (z:=F.z) (fun i hi=>hi.elim) ⟨rfl,hx⟩ rfl hle.1 hT hlen hbb
 have hv':v'.cells=#[v']:=o3.sl.cells1
 have hone:[v'].all Value.oneCell'=true:=by obtain ⟨_,_,rfl⟩:=o3.sl.isSlice;rfl
 have gb3:h2.get b=some (.row [v] 0 false):=(gg _ (by omega) (fun h=>by have:=hw b h;omega)).trans gb2
 have w1:Yz Try.prog s (.pointer (some ⟨b,0,none⟩)) v' h2=some (h2.set b (.row [v'] 0 false)):=(b5a T.one hv').trans (b0a gb3 (Nat.le_of_ble_eq_true rfl) hone)
 simp -implicitDefEqProofs (disch:=first|omega|simp only[go_sem]) only[go_sem,true_and,apB,f2,lb,lk,bs,e6,w1]
 have hnw:∀ j,j<hB.next+2→w≠some j:=fun j hj h=>by have:=hw j h;omega
 have r3:Rng hB D2 (fun j=>j=b) h2:=r2.keep (by omega) ng2 fun j hj=>gg j (by omega) (hnw j hj)
 have r4:Rng hB D2 (fun j=>j=b) (h2.set b (.row [v'] 0 false)):=r3.set rfl hb
 refine ⟨D2,r4.lp,rfl,?_⟩
 subst hD2
 exact ⟨r4.loop _,v',some (K2.next+1),(Zx _ _ (by omega)).trans (Zq _ _),o3.mono (Nat.le_refl _) (fun i hi=>by cases hi;rw[Zx _ _ (by omega),Zx _ _ (by omega)]) (fun i hi=>hi.elim),fun i hi=>by cases hi;omega⟩
theorem i5b {fA fk:FuncId} {fa fb:Code} (go:GoC Try.prog fA 13 (apC s fa fb) [.tmp 4]) (ta:Go.D.strip fa=apA e) (tb:Go.D.strip fb=apB s e) (gk:GoC Try.prog fk 16 (P2b s e) []) (hg:K0a Try.prog fk=true) (T:AggT s e F) {h:DHeap} {c:Nat} {v:Value} {lst:List α} (hlen:lst.length≤2000000000) (hc:c<h.next) (gc:h.get c=some (.row [v] 0 false)) (av:Arg F.rep h v lst) :
 Ct Try.prog fA [.slice none 0 0,.func (.func fk) #[] #[.pointer (some ⟨c,0,none⟩)]] h fun r h1=>∃ w,r=.ret w∧Made F h h1 w lst:=by
 refine go (by simp) ?_
 obtain ⟨H0,hH0⟩:∃ H,H=h.push (.row [.slice none 0 0] 0 false):=⟨_,rfl⟩
 have hE0:Ext h H0:=by rw[hH0];exact Ext.push1 _ _
 have hH0n:H0.next=h.next+1:=by rw[hH0];rfl
 have gb:H0.get h.next=some (.row [.slice none 0 0] 0 false):=by rw[hH0];exact Zz _ _
 simp -implicitDefEqProofs (disch:=first|omega|simp only[go_sem]) only[go_sem,true_and,apC,T.eszS,← hH0]
 obtain ⟨fr,hfr⟩:∃ fr:Fr,fr=(((c2a [.slice none 0 0,.func (.func fk) #[] #[.pointer (some ⟨c,0,none⟩)]] 13).put (some 2) (.pointer (some ⟨h.next,0,none⟩))).put (some 4) (.slice none 0 0)).put (some 6) (.func (.func fk) #[] #[.pointer (some ⟨c,0,none⟩)]):=⟨_,rfl⟩
 rw[← hfr]
 have f2:fr 2=some (.pointer (some ⟨h.next,0,none⟩)):=by rw[hfr];simp -implicitDefEqProofs (disch:=first|omega|simp only[go_sem]) only[go_sem,true_and]
 have f6:fr 6=some (.func (.func fk) #[] #[.pointer (some ⟨c,0,none⟩)]):=by rw[hfr];simp -implicitDefEqProofs (disch:=first|omega|simp only[go_sem]) only[go_sem,true_and]
 have e2:Ext H0 ((H0.push (.marks true)).push (.loop (apD fa fb fr H0.next))):=(Ext.push1 _ _).push _
 have hold:∀ {l:List α} {K:DHeap},ApI F fa fb H0 fr h.next l K→Ext h K:=fun a=>a.r.below hE0 fun j hj=>by rw[hj];exact Nat.le_refl _
 refine NC.range_yields (fv:=.func (.func fk) #[] #[.pointer (some ⟨c,0,none⟩)]) (A:=fun H=>ApI F fa fb H0 fr h.next lst H) (B:=fun _=>False) rfl (vy f6) (fun K=>K7a hg _ _ _ K)
  ((K8b gk T (fun i K=>ApI F fa fb H0 fr h.next (lst.take i) K) (fun _=>False) (D:=apD fa fb fr H0.next) (p:=7) (v:=v) (lst:=lst) rfl (Nat.le_of_ble_eq_true rfl) (by omega) ?_
    (fun i K a=>⟨a.r.lp,((hold a).get c hc).trans gc,av.ext (hold a)⟩) (fun i K K' a e=>a.ext (by omega) e) ?_).mono fun r H ⟨h1,h2⟩=>⟨h1,.inl (h2.elim (fun a=>by simpa using a) False.elim)⟩) (fun H a=>⟨a.r.lp,?_⟩) (fun H a=>a.elim)
 ·exact ⟨Rng.start _ _ _,_,_,(e2.get _ (by omega)).trans gb,Owns.nil _ _ _,fun i hi=>by cases hi⟩
 ·intro i K x a hx
  obtain ⟨hj,rfl⟩:=List.getElem?_eq_some_iff.1 hx
  refine (g2c ta tb T (av.ok _ (List.getElem_mem hj)) (by rw[List.length_take];omega) (by omega) f2 a).mono fun r H ⟨h1,h2⟩=>.inl ⟨h1,?_⟩
  rw[List.take_succ_eq_append_getElem hj]
  exact h2
 generalize hHf:H.set (H0.next+1) _=Hf
 obtain ⟨rr,v,w,g,o,hw⟩:=a
 have nr:=rr.nx
 have oth:∀ j,j≠H0.next+1→Hf.get j=H.get j:=fun j hj=>by rw[← hHf];exact Zx _ _ hj
 have nf:Hf.next=H.next:=by rw[← hHf];rfl
 have hEf:Ext h Hf:=by rw[← hHf];exact (rr.below hE0 fun j hj=>by rw[hj];exact Nat.le_refl _).set (by omega)
 have hM:Hf.get H0.next=some (.marks true):=(oth _ (by omega)).trans rr.mrk
 have k1:XQ Try.prog s (.pointer (some ⟨h.next,0,none⟩)) Hf=some v:=(M5a T.one).trans (Zy ((oth _ (by omega)).trans g))
 have o1:Owns F.rep NoS (Hf.set H0.next (.marks false)) v lst w:=o.mono (Nat.le_of_eq nf.symm) (fun i hi=>by have:=hw i hi;rw[Zx _ _ (by omega),oth _ (by omega)]) (fun i hi=>hi.elim)
 simp -implicitDefEqProofs (disch:=first|omega|simp only[go_sem]) only[go_sem,true_and,f2,k1]
 refine X2b hM ?_
 simp -implicitDefEqProofs (disch:=first|omega|simp only[go_sem]) only[go_sem,true_and]
 exact ⟨_,rfl,v,rfl,hEf.set (by omega),w,o1,fun i hi=>by have:=hw i hi;omega⟩
end
end Go.Proofs.Ytheamfnbfgiaeaa
namespace Go.Proofs.Ytheamfnbfgiaeaa
open Go.D
set_option maxRecDepth 100000
def NoSer (h:DHeap) (p:Value):Prop:=p=.pointer none∨∃ B,p=.pointer (some ⟨B,0,none⟩)∧B<h.next∧h.get B=some (.row [.int .i64 0,.map none,.map none] 0 false)
theorem NoSer.ext {h h1:DHeap} {p:Value} (x:NoSer h p) (e:Ext h h1):NoSer h1 p:=by
 rcases x with rfl | ⟨B,rfl,hB,g⟩
 ·exact .inl rfl
 ·exact .inr ⟨B,rfl,Nat.lt_of_lt_of_le hB e.next,(e.get _ hB).trans g⟩
def L8b (h:DHeap) (l:List Cell) (r:DEnd) (h1:DHeap):Prop:=∃ c v,r=.ret (.func (.func 29) #[] #[.pointer (some ⟨c,0,none⟩)])∧Ext h h1∧c<h1.next∧h1.get c=some (.row [v] 0 false)∧Arg fCell.rep h1 v l
theorem V4b {h:DHeap} {v:Value} {l:List Cell} (a:Arg fCell.rep h v l):Ct Try.prog 21 [v] h (L8b h l):=by
 refine d3d (by simp) ?_
 obtain ⟨x,y,rfl⟩:=a.isSlice
 have hcv':(Value.slice x l.length y).cells.toList=[.slice x l.length y]:=rfl
 obtain ⟨H,hH⟩:∃ H,H=h.push (.row [.slice x l.length y] 0 false):=⟨_,rfl⟩
 have hE:Ext h H:=by rw[hH];exact Ext.push1 _ _
 simp -implicitDefEqProofs (disch:=first|omega|simp only[go_sem]) only[go_sem,true_and,c21,hcv',← hH]
 exact ⟨_,rfl,h.next,_,rfl,hE,by rw[hH];exact Nat.lt_succ_self _,by rw[hH];exact Zz _ _,a.ext hE⟩
theorem l2b {h:DHeap} {c:Nat} {v:Value} {l:List Cell} (hlen:l.length≤2000000000) (hc:c<h.next) (gc:h.get c=some (.row [v] 0 false)) (av:Arg fCell.rep h v l) :
 Ct Try.prog 6 [.func (.func 29) #[] #[.pointer (some ⟨c,0,none⟩)]] h fun r h1=>∃ w,r=.ret w∧Made fCell h h1 w l:=by
 refine E5d (by simp) ?_
 simp -implicitDefEqProofs (disch:=first|omega|simp only[go_sem]) only[go_sem,true_and,c6]
 refine Yv (i5b (s:=31) (e:=36) (fun h1 h2=>a3d h1 h2) a1d f1d v3c (by kernel_rfl) M2d hlen hc gc av) ?_
 rintro r H ⟨w,rfl,m⟩
 simp -implicitDefEqProofs (disch:=first|omega|simp only[go_sem]) only[go_sem,true_and,Xx]
 exact ⟨_,rfl,w,rfl,m⟩
theorem s9b {h:DHeap} {B cid rid:Nat} {s:Xv} {mm:List (Key × Value)} {rm:List (Int × Value)} (a:SerAt h B cid rid s mm rm) (hl:s.cells.length≤1048576):Ct Try.prog 7 [.pointer (some ⟨B,0,none⟩)] h (L8b h s.cells):=by
 refine F5d (by simp) ?_
 simp -implicitDefEqProofs (disch:=first|omega|simp only[go_sem]) only[go_sem,true_and,c7]
 refine YQ (a7a a) ?_
 simp -implicitDefEqProofs (disch:=first|omega|simp only[go_sem]) only[go_sem,true_and,Bool.not_false,Zy a.row]
 refine Yv (M4b a.cel a.cm a.lt.2.1 a.ok hl) ?_
 rintro r H ⟨w,rfl,mw⟩
 simp -implicitDefEqProofs (disch:=first|omega|simp only[go_sem]) only[go_sem,true_and,Xx]
 refine Yv (V4b mw.arg) ?_
 rintro r K ⟨c,v,rfl,e,hc,gc,av⟩
 simp -implicitDefEqProofs (disch:=first|omega|simp only[go_sem]) only[go_sem,true_and,Xx]
 exact ⟨_,rfl,c,v,rfl,mw.ext.trans e,hc,gc,av⟩
structure O3a where
 k:Int
 f:Int
 n:Int
 txns:List Txn
def c6a (s:Xv) (e:O3a):Xv:=⟨s.slot+1,(h2a e.k (s,[]) e.txns).1.cells,(h2a e.k (s,[]) e.txns).1.rows⟩
def rEnt:Rep O3a:=rM (rP fI64.rep (rP fI64.rep (rP fI64.rep (rSl rTxn)))) fun x=>(x.k,x.f,x.n,x.txns)
theorem V9c {S:Nat→Prop} {h:DHeap} {cs:List Value} {x:O3a} (a:rEnt.rd S h cs x):∃ vt,cs=[.int .i64 x.k,.int .i64 x.f,.int .i64 x.n,vt]∧Sl rTxn S h vt x.txns:=by
 obtain ⟨_,_,rfl,⟨rfl,_⟩,_,_,rfl,⟨rfl,_⟩,_,_,rfl,⟨rfl,_⟩,vt,rfl,hv⟩:=a
 exact ⟨vt,rfl,hv⟩
theorem u6b {S:Nat→Prop} {h:DHeap} {v:Value} {l:List O3a} (hb:Sl rEnt S h v l) {i:Nat} (hi:i<l.length):∃ id o vt,ZQ Try.prog 27 v (.int .i64 (i:Nat))=some (.pointer (some ⟨id,o,none⟩))∧Zj h id o 4=some (a1b l[i].k l[i].f l[i].n vt)∧Sl rTxn S h vt l[i].txns:=by
 obtain ⟨id,o,e,_,hat⟩:=hb.idx (P:=Try.prog) (t:=27) P2d (k:=.i64) (i:=i) (x:=l[i]) (by simp)
 obtain ⟨cs,h1,h2⟩:=hat.load_agg
 obtain ⟨vt,rfl,tx⟩:=V9c h2
 exact ⟨id,o,vt,e,h1,tx⟩
theorem K6c {S:Nat→Prop} {K:DHeap} {k f n:Int} {vt:Value} {l:List Txn} (x:Sl rTxn S K vt l) :
 ∃ K1,Yz Try.prog 52 (.pointer (some ⟨K.next,0,none⟩)) (a1b k f n vt) (K.push (.row [.int .i64 0,.int .i64 0,.int .i64 0,.slice none 0 0] 0 false))=some K1∧Ext K K1∧(∀ M,Ext K1 M→Zj M K.next 0 4=some (a1b k f n vt))∧(∀ M,Ext K1 M→M.get K.next=some (.row [.int .i64 k,.int .i64 f,.int .i64 n,vt] 0 false))∧K1.next=K.next+1:=by
 have hone:[Value.int .i64 k,.int .i64 f,.int .i64 n,vt].all Value.oneCell'=true:=by
  rcases x.isSlice with ⟨_,_,rfl⟩
  rfl
 refine ⟨K.push (.row [.int .i64 k,.int .i64 f,.int .i64 n,vt] 0 false),(b6c rfl).trans (a0a rfl hone),Ext.push1 _ _,fun M e=>?_,fun M e=>(e.get _ (Nat.lt_succ_self _)).trans (Zz _ _),rfl⟩
 rw[Zu ((e.get _ (Nat.lt_succ_self _)).trans (Zz _ _)) (Nat.le_of_ble_eq_true rfl)]
 rfl
def T2b (l:List O3a):Prop:=∀ e∈l,e.txns.length≤1048576∧∀ t∈e.txns,Q3a t
def s17:Xv:=⟨0,[],[]⟩
theorem T6a:∀ {l:List O3a} {s:Xv},(l.foldl c6a s).slot=s.slot+l.length
 | [],s=>by simp
 | e :: l,s=>by
   rw[List.foldl_cons,T6a,List.length_cons]
   show s.slot+1+_=_
   omega
theorem d4c {h:DHeap} {v:Value} {l:List O3a} (hb:Arg rEnt h v l) (hL:T2b l) (hl:l.length≤1048576) :
 Ct Try.prog 4 [v] h fun r h1=>∃ B cid rid mm rm,r=.ret (.pointer (some ⟨B,0,none⟩))∧Ext h h1∧h.next≤B∧h.next≤cid∧h.next≤rid∧SerAt h1 B cid rid (l.foldl c6a s17) mm rm:=by
 refine C5d (by simp) ?_
 have el:∀ K,dLen Try.prog #[27] v K=some (.int .i64 (l.length:Nat)):=hb.lens (P:=Try.prog) (ts:=#[27]) (t:=27) rfl l0d
 simp -implicitDefEqProofs (disch:=first|omega|simp only[go_sem]) only[go_sem,true_and,c4]
 refine Yv E6b ?_
 rintro r H ⟨B,cid,rid,rfl,eH,b1,b2,b3,a⟩
 obtain ⟨l1,l2,l3⟩:=a.lt
 simp -implicitDefEqProofs (disch:=first|omega|simp only[go_sem]) only[go_sem,true_and,Xx,el]
 refine XU (σ:=Nat) (by kernel_rfl) (fun i st=>st.df=[]∧st.rd=none∧st.fr 3=some (.pointer (some ⟨B,0,none⟩))∧st.fr 7=some v∧st.fr 8=some (.int .i64 (l.length:Nat))∧st.fr 9=some (.int .i64 (i:Nat))∧i≤l.length∧KpD (fun j=>j=B∨j=cid∨j=rid) H st.h∧∃ mm rm,SerAt st.h B cid rid ((l.take i).foldl c6a s17) mm rm) (fun i=>l.length - i) 0 ?_ ?_
 ·simp -implicitDefEqProofs (disch:=first|omega|simp only[go_sem]) only[go_sem,true_and]
  exact ⟨by trivial,Nat.zero_le _,.refl _ _,_,_,a⟩
 rintro i ⟨fr,df,K,rd⟩ K' hK' hX ⟨rfl,rfl,f3,f7,f8,f9,hi,kK,mm,rm,aK⟩
 simp only at f3 f7 f8 f9 kK aK
 have kn:=kK.next
 have keep:∀ j,j<h.next→K.get j=h.get j:=fun j hj=>(kK.get j (by have:=eH.next;omega) (by omega)).trans (eH.get j hj)
 simp -implicitDefEqProofs (disch:=first|omega|simp only[go_sem]) only[go_sem,true_and,f7,f8,f9]
 refine j0a (fun hc1=>?_) (fun hc1=>?_)
 ·have hj:i<l.length:=by omega
  have hw:=YZ hj (by omega)
  have hn:=eH.next
  have hbK:Sl rEnt (w7a K B cid rid) K v l:=hb.mono fun j hj2=>⟨⟨by have:j<h.next:=hj2;omega,by have:j<h.next:=hj2;omega⟩,keep j hj2⟩
  obtain ⟨id1,o1,vt,i1,c1,tx⟩:=u6b hbK hj
  obtain ⟨K1,s1,e1,lc1,_,n1⟩:=K6c (k:=l[i].k) (f:=l[i].f) (n:=l[i].n) tx
  obtain ⟨hL1,hL2⟩:=hL _ (List.getElem_mem hj)
  have hsl:((l.take i).foldl c6a s17).slot=(i:Nat):=by
   rw[T6a,List.length_take,Nat.min_eq_left hi]
   show (0:Int)+_=_
   omega
  simp -implicitDefEqProofs (disch:=first|omega|simp only[go_sem]) only[go_sem,true_and,f3,f7,f9,i1,c1,s1,lc1 K1 (.refl _)]
  refine Yv (r1b (aK.ext e1) (by omega) (by omega) (tx.mono fun j hj2=>⟨⟨by have:=hj2.1;omega,hj2.2⟩,e1.get j hj2.1⟩) hL2 hL1) ?_
  rintro r M ⟨u,mm',rm',rfl,kM,aM,_⟩
  simp -implicitDefEqProofs (disch:=first|omega|simp only[go_sem]) only[go_sem,true_and,Xx,f9,hw]
  refine hK' (i+1) _ ?_ (by omega)
  refine ⟨by trivial,by trivial,(vy f3),(vy f7),(vy f8),vz,by omega,⟨by have:=kM.next;show H.next≤M.next;omega,kM.ng.trans (e1.ng.trans kK.ng),fun j hj2 hn2=>(kM.get j (by omega) hn2).trans ((e1.get j (by omega)).trans (kK.get j hj2 hn2))⟩,mm',rm',?_⟩
  rw[List.take_succ_eq_append_getElem hj,List.foldl_append]
  exact aM
 obtain rfl:i=l.length:=by omega
 rw[List.take_length]at aK
 refine hX _ _ (by simp) ?_
 simp -implicitDefEqProofs (disch:=first|omega|simp only[go_sem]) only[go_sem,true_and,f3]
 have hn:=eH.next
 exact ⟨_,rfl,B,cid,rid,mm,rm,rfl,⟨by omega,kK.ng.trans eH.ng,keep⟩,b1,b2,b3,aK⟩
def TxB (t:Txn):Prop:=∀ j,0≤t.code.getD j 0∧t.code.getD j 0≤255
theorem C8c {t:Txn} {slot:Int} {m:List Cell} (hb:TxB t):(S1a t slot m).length≤m.length+t.writes.length:=by
 unfold S1a
 obtain ⟨h1,h2⟩:=t1c (t:=t) (l:=i4a m t.reads) (f:=4096) hb
 have h3:(t3a t m).ch.length≤t.writes.length:=by
  have hn:((t3a t m).ch.map Change.k).Nodup:=List.pairwise_map.2 (h2.imp fun h e=>by rw[e]at h;exact absurd h (by simp[YJ]))
  have:=a1a (b:=t.writes) hn fun k hk=>by
   obtain ⟨c,hc,rfl⟩:=List.mem_map.1 hk
   exact h1 c hc
  simpa using this
 have h4:=g9a (slot:=slot) (l:=(t3a t m).ch) (m:=m)
 split <;> omega
theorem z0d {s:Xv} {t:Txn} {i:Int} (hb:TxB t):(r1a s t i).1.cells.length≤s.cells.length+t.writes.length:=by
 have h:=C8c (slot:=s.slot) (m:=s.cells) hb
 have hg:(goS s t i).1.cells.length≤s.cells.length+t.writes.length:=by
  unfold goS
  split
  ·exact h
  ·exact Nat.le_add_right _ _
 unfold r1a
 split
 ·split
  ·exact Nat.le_add_right _ _
  ·exact hg
 ·exact hg
def wsT (l:List Txn):Nat:=(l.map fun t=>t.writes.length).sum
def wsE (l:List O3a):Nat:=(l.map fun e=>wsT e.txns).sum
theorem x1c:∀ {l:List Txn} {q:Xv × List Row} {i:Nat},(∀ t∈l,TxB t)→(a2a q i l).1.cells.length≤q.1.cells.length+wsT l
 | [],_,_,_=>Nat.le_add_right _ _
 | t :: l,q,i,hb=>by
   have h1:=z0d (s:=q.1) (i:=(i:Int)) (hb t (by simp))
   have h2:=x1c (l:=l) (q:=((r1a q.1 t i).1,q.2++(r1a q.1 t i).2.toList)) (i:=i+1) fun t ht=>hb t (by simp[ht])
   show (a2a ((r1a q.1 t i).1,q.2++(r1a q.1 t i).2.toList) (i+1) l).1.cells.length≤_
   simp only[wsT,List.map_cons,List.sum_cons]at h2 ⊢
   omega
theorem g0c:∀ {l:List O3a} {s:Xv},(∀ e∈l,∀ t∈e.txns,TxB t)→(l.foldl c6a s).cells.length≤s.cells.length+wsE l
 | [],_,_=>Nat.le_add_right _ _
 | e :: l,s,hb=>by
   have h2:=g0c (l:=l) (s:=c6a s e) fun e he=>hb e (by simp[he])
   have h1:(c6a s e).cells.length≤s.cells.length+wsT e.txns:=by
    show (h2a e.k (s,[]) e.txns).1.cells.length≤_
    unfold h2a
    split
    ·exact x1c (q:=(s,[])) (hb e (by simp))
    ·exact Nat.le_add_right _ _
   rw[List.foldl_cons]
   simp only[wsE,List.map_cons,List.sum_cons]at h2 ⊢
   omega
theorem p7c {h:DHeap} {v:Value} {l:List O3a} (hb:Arg rEnt h v l):∀ e∈l,∀ t∈e.txns,TxB t:=by
 intro e he t ht
 obtain ⟨i,hi,rfl⟩:=List.mem_iff_getElem.1 he
 obtain ⟨_,_,vt,_,_,tx⟩:=u6b hb hi
 obtain ⟨j,hj,rfl⟩:=List.mem_iff_getElem.1 ht
 obtain ⟨_,_,vc,va,vr,vw,_,_,x,_,_⟩:=O6b tx hj
 exact O6a x.c
def X2a (x:O3a):Nat:=3+Wy O0a x.txns
theorem p3b:∀ l:List Txn,2*wsT l≤Wy O0a l
 | []=>Nat.le_refl _
 | t :: l=>by
   have:=p3b l
   have h2:2*t.writes.length≤O0a t:=by
    have:∀ l:List Key,2*l.length≤Wy (fun _=>2) l:=fun l=>by
     induction l with
     | nil=>simp
     | cons x l ih=>simp only[Wy,List.length_cons];omega
    have:=this t.writes
    unfold O0a
    omega
   simp only[wsT,List.map_cons,List.sum_cons,Wy]at this ⊢
   omega
theorem o3b:∀ l:List O3a,2*wsE l≤Wy X2a l
 | []=>Nat.le_refl _
 | e :: l=>by
   have h1:=o3b l
   have h2:=p3b e.txns
   have h3:X2a e=3+Wy O0a e.txns:=rfl
   simp only[wsE,List.map_cons,List.sum_cons,Wy]at h1 ⊢
   omega
theorem f9a {α:Type} {B:α→Nat}:∀ {l:List α} {x:α},x∈l→B x≤Wy B l
 | y :: l,x,h=>by
   rcases List.mem_cons.1 h with rfl | h
   ·simp only[Wy];omega
   ·have:=f9a (B:=B) h
    simp only[Wy];omega
theorem g3c {l:List O3a} (h:Wy X2a l≤1048576):T2b l:=fun e he=>by
 have h1:=f9a (B:=X2a) he
 have h2:=s4a O0a e.txns
 have h3:X2a e=3+Wy O0a e.txns:=rfl
 exact ⟨by omega,fun t ht=>P6b (by have:=f9a (B:=O0a) ht;omega)⟩
theorem y2c {slot:Int} {ws:List Key} {c:Change} (hc:c.k∈ws) {m:List Cell} (hm:UpB Cell.k m):(o2a slot m c).filter (fun z=>!decide (z.k∈ws))=m.filter fun z=>!decide (z.k∈ws):=by
 unfold o2a
 split
 ·rw[x4a hm,List.filter_filter]
  refine List.filter_congr fun z _=>?_
  by_cases h:z.k∈ws
  ·simp[h]
  ·have:z.k≠c.k:=fun e=>h (e▸hc)
   simp[h,this]
 ·clear hm
  induction m with
  | nil=>simp[Z1a,hc]
  | cons y r ih=>
    unfold Z1a
    split
    ·rw[List.filter_cons,ih,List.filter_cons]
    ·split
     ·rename_i e
      have:y.k∈ws:=by rw[show y.k=c.k from e];exact hc
      simp[List.filter_cons,hc,this]
     ·simp[List.filter_cons,hc]
theorem r3b {slot:Int} {ws:List Key}:∀ {l:List Change} {m:List Cell},(∀ c∈l,c.k∈ws)→UpB Cell.k m→(l.foldl (o2a slot) m).filter (fun z=>!decide (z.k∈ws))=m.filter fun z=>!decide (z.k∈ws)
 | [],_,_,_=>rfl
 | c :: l,m,h,hm=>by
   rw[List.foldl_cons,r3b (fun c hc=>h c (by simp[hc])) (O6c hm),y2c (h c (by simp)) hm]
theorem D1c {t:Txn} {slot:Int} {m:List Cell} (hb:TxB t) (hm:UpB Cell.k m):(S1a t slot m).filter (fun z=>!decide (z.k∈t.writes))=m.filter fun z=>!decide (z.k∈t.writes):=by
 unfold S1a
 split
 ·exact r3b (t1c hb).1 hm
 ·rfl
theorem y0c {h:DHeap} {v:Value} {m:List Cell} {bt:Nat} {a b:Int} {vc va vr vw:Value} {ws:List Key} (hb:Arg fCell.rep h v m) (hl:m.length≤2000000000) (hbt:bt<h.next) (gt:h.get bt=some (.row [.int .i64 a,.int .i64 b,vc,va,vr,vw] 0 false)) (hw:Arg fKey.rep h vw ws) (hwl:ws.length≤4294967296) :
 Ct Try.prog 11 [v,.pointer (some ⟨bt,0,none⟩)] h fun r h1=>∃ w,r=.ret w∧Made fCell h h1 w (m.filter fun z=>!decide (z.k∈ws)):=by
 refine T2d (by simp) ?_
 have el:∀ K,dLen Try.prog #[31] v K=some (.int .i64 (m.length:Nat)):=hb.lens (P:=Try.prog) (ts:=#[31]) (t:=31) rfl h0b
 simp -implicitDefEqProofs (disch:=first|omega|simp only[go_sem]) only[go_sem,true_and,c11,el]
 refine XU (σ:=Nat) (by kernel_rfl) (fun i s=>s.df=[]∧s.rd=none∧s.fr 1=some (.pointer (some ⟨bt,0,none⟩))∧s.fr 7=some v∧s.fr 8=some (.int .i64 (m.length:Nat))∧s.fr 9=some (.int .i64 (i:Nat))∧i≤m.length∧Ext h s.h∧∃ u w,s.fr 4=some u∧Owns fCell.rep NoS s.h u ((m.take i).filter fun z=>!decide (z.k∈ws)) w∧∀ j,w=some j→h.next≤j) (fun i=>m.length - i) 0 ?_ ?_
 ·simp -implicitDefEqProofs (disch:=first|omega|simp only[go_sem]) only[go_sem,true_and]
  exact ⟨by trivial,Nat.zero_le _,.refl _,_,none,rfl,Owns.nil _ _ _,fun j hj=>by cases hj⟩
 rintro i ⟨fr,df,K,rd⟩ K' hK' hX ⟨rfl,rfl,f1,f7,f8,f9,hi,eK,u,w,f4,ow,hww⟩
 simp only at f1 f7 f8 f9 eK f4 ow
 have kn:=eK.next
 have hwlt:=ow.lt
 simp -implicitDefEqProofs (disch:=first|omega|simp only[go_sem]) only[go_sem,true_and,f7,f8,f9]
 refine j0a (fun hc1=>?_) (fun hc1=>?_)
 ·have hj:i<m.length:=by omega
  have hw1:=YZ hj (by omega)
  obtain ⟨id1,o1,i1,_,hat1⟩:=(hb.ext eK).idx (P:=Try.prog) (t:=31) J2b (k:=.i64) (i:=i) (x:=m[i]) (by simp)
  have a1:Zj K id1 o1 4=some (Wx m[i]):=hat1.flat.2.1
  obtain ⟨K1,t1,eK1,nK1,cc⟩:=N6a (K:=K) (x:=m[i])
  obtain ⟨c1,_,c3⟩:=cc K1 (.refl _)
  have e1:=eK.trans eK1
  have o1':Owns fCell.rep NoS K1 u ((m.take i).filter fun z=>!decide (z.k∈ws)) w:=ow.mono eK1.next (fun j hj2=>eK1.get j (hwlt j hj2)) (fun j hj2=>hj2.elim)
  have htk:(m.take (i+1)).filter (fun z=>!decide (z.k∈ws))=(m.take i).filter (fun z=>!decide (z.k∈ws))++[m[i]].filter (fun z=>!decide (z.k∈ws)):=by rw[List.take_succ_eq_append_getElem hj,List.filter_append]
  simp -implicitDefEqProofs (disch:=first|omega|simp only[go_sem]) only[go_sem,true_and,f1,f7,f9,i1,a1,t1,Zy ((e1.get _ hbt).trans gt),c1]
  refine YQ (O9a (hw.ext e1) hwl) ?_
  by_cases hin:m[i].k∈ws
  ·simp -implicitDefEqProofs (disch:=first|omega|simp only[go_sem]) only[go_sem,true_and,decide_eq_true hin,Bool.not_true,f9,hw1]
   refine hK' (i+1) _ ?_ (by omega)
   have hf:[m[i]].filter (fun z=>!decide (z.k∈ws))=[]:=by simp[hin]
   exact ⟨by trivial,by trivial,(vy f1),(vy f7),(vy f8),vz,by omega,e1,u,w,(vy f4),by rw[htk,hf,List.append_nil];exact o1',hww⟩
  ·have hf:[m[i]].filter (fun z=>!decide (z.k∈ws))=[m[i]]:=by simp[hin]
   have hlen:((m.take i).filter fun z=>!decide (z.k∈ws)).length≤m.length:=Nat.le_trans (List.length_filter_le _ _) (by rw[List.length_take];omega)
   obtain ⟨v',h2,e6,n2,ng2,gg,o3⟩:=o1'.snoc (cs:=[.int .i32 m[i].k.t,.int .i64 m[i].k.r,.int .i64 m[i].v,.int .i64 m[i].s]) (x:=m[i]) (z:=4) (fun j hj2=>hj2.elim) ⟨rfl,hat1.flat.2.2⟩ rfl (by decide) f3b (by omega) (by decide)
   have hbs:c0a Try.prog 31 1 [(0,Wx m[i])] K1=some (.slice (some ⟨K1.next,0,none⟩) 1 1,K1.push (.row [.int .i32 m[i].k.t,.int .i64 m[i].k.r,.int .i64 m[i].v,.int .i64 m[i].s] 4 false)):=o9b rfl
   simp -implicitDefEqProofs (disch:=first|omega|simp only[go_sem]) only[go_sem,true_and,decide_eq_false hin,Bool.not_false,f4,f9,hw1,c3,hbs,e6]
   refine hK' (i+1) _ ?_ (by omega)
   have n1:=eK1.next
   exact ⟨by trivial,by trivial,(vy f1),(vy f7),(vy f8),vz,by omega,⟨by show h.next≤h2.next;omega,ng2.trans e1.ng,fun j hj2=>(gg j (by omega) fun e=>by have:=hww j e;omega).trans (e1.get j hj2)⟩,v',some (K1.next+1),vz,by rw[htk,hf];exact o3,fun j hj2=>by cases hj2;omega⟩
 obtain rfl:i=m.length:=by omega
 rw[List.take_length]at ow
 refine hX _ _ (by simp) ?_
 simp -implicitDefEqProofs (disch:=first|omega|simp only[go_sem]) only[go_sem,true_and,f4]
 exact ⟨_,rfl,u,rfl,eK,w,ow,hww⟩
theorem E1c {t:Txn} {slot p:Int} {m:List Cell} (h:(XY t slot p m).e≠0):(XY t slot p m).vs=[]∧S1a t slot m=m:=
 ⟨((r1c (by decide)).2.2 h).1,if_neg h⟩
set_option maxHeartbeats 1000000 in
theorem g5b {h:DHeap} {t:Txn} {vc va vr vw v:Value} {l:List O3a} (x:TxV (InH h) h t vc va vr vw) (hT:Q3a t) (hb:Arg rEnt h v l) (hL:T2b l) (hl:l.length≤1048576) (hW:wsE l≤600000) :
 DC Try.prog 3 [Wq t.ses t.req vc va vr vw,v] h (.ret (.bool true)) h:=by
 refine Ct.pure (B5d (by simp) ?_) (W0a _)
 have hcl:(Wq t.ses t.req vc va vr vw).cells.toList=[.int .i64 t.ses,.int .i64 t.req,vc,va,vr,vw]:=rfl
 obtain ⟨H,hH⟩:∃ H,H=h.push (.row [.int .i64 t.ses,.int .i64 t.req,vc,va,vr,vw] 0 false):=⟨_,rfl⟩
 have hE:Ext h H:=by rw[hH];exact Ext.push1 _ _
 have hHn:H.next=h.next+1:=by rw[hH];rfl
 have gt:∀ K,Ext H K→K.get h.next=some (.row [.int .i64 t.ses,.int .i64 t.req,vc,va,vr,vw] 0 false):=fun K e=>(e.get _ (by omega)).trans (by rw[hH];exact Zz _ _)
 have lt:∀ K,Ext H K→Zj K h.next 0 6=some (Wq t.ses t.req vc va vr vw):=fun K e=>by
  rw[Zu (gt K e) (Nat.le_of_ble_eq_true rfl)]
  rfl
 simp -implicitDefEqProofs (disch:=first|omega|simp only[go_sem]) only[go_sem,true_and,c3,hcl,← hH]
 refine Yv (d4c (hb.ext hE) hL hl) ?_
 rintro r K ⟨B,cid,rid,mm,rm,rfl,eK,_,_,_,a⟩
 have hsl:(l.foldl c6a s17).slot=l.length:=by rw[T6a];show (0:Int)+_=_;omega
 have hcl2:(l.foldl c6a s17).cells.length≤600000:=by
  have:=g0c (s:=s17) (p7c hb)
  have h0:s17.cells.length=0:=rfl
  omega
 obtain ⟨s,hs⟩:∃ s,l.foldl c6a s17=s:=⟨_,rfl⟩
 rw[hs]at a hsl hcl2
 simp -implicitDefEqProofs (disch:=first|omega|simp only[go_sem]) only[go_sem,true_and,Xx,x9a]
 refine YQ G3c ?_
 simp -implicitDefEqProofs (disch:=first|omega|simp only[go_sem]) only[go_sem,true_and,Yy,Yq,Bool.not_true]
 refine Yv (s9b a (by omega)) ?_
 rintro r K2 ⟨c,cv,rfl,e2,hc,gc,av⟩
 simp -implicitDefEqProofs (disch:=first|omega|simp only[go_sem]) only[go_sem,true_and,Xx]
 refine Yv (l2b (by omega) hc gc av) ?_
 rintro r K3 ⟨w,rfl,mw⟩
 have e3:=e2.trans mw.ext
 have hup:=a.cm.2.1
 have hid:=q3b hup
 have eH3:=eK.trans e3
 simp -implicitDefEqProofs (disch:=first|omega|simp only[go_sem]) only[go_sem,true_and,Xx]
 obtain ⟨K4,hK4⟩:∃ K4,K3.push (.row [.int .i64 0,.slice none 0 0,.int .i64 0,.int .i64 0] 0 false)=K4:=⟨_,rfl⟩
 have e4:Ext K3 K4:=hK4▸Ext.push1 _ _
 have n4:K4.next=K3.next+1:=by rw[← hK4];rfl
 have g4:K4.get K3.next=some (.row [.int .i64 0,.slice none 0 0,.int .i64 0,.int .i64 0] 0 false):=by rw[← hK4];exact Zz _ _
 have eH4:=eH3.trans e4
 refine l1d rfl ?_
 simp -implicitDefEqProofs (disch:=first|omega|simp only[go_sem]) only[go_sem,true_and,i0d,L0d]
 simp -implicitDefEqProofs (disch:=first|omega|simp only[go_sem]) only[go_sem,true_and,hK4,lt K4 eH4]
 refine n7a (L4b (a.ext (e3.trans e4))) ?_
 simp -implicitDefEqProofs (disch:=first|omega|simp only[go_sem]) only[go_sem,true_and,lt K4 eH4,g4]
 refine x2a (I4b (x.ext (hE.trans eH4)) hT (mw.arg.ext e4) (by omega) (by rw[hsl];exact t0a.2 ⟨by omega,by omega⟩)) ?_
 rw[hid]
 rintro r M ⟨vv,q,rfl,avv,mq⟩
 have hR:=E1c (t:=t) (slot:=s.slot) (p:=0) (m:=s.cells)
 have hout:=D1c (slot:=s.slot) (O6a x.c) hup
 have hvl:(XY t s.slot 0 s.cells).vs.length≤4096:=k5a.1
 have hcl3:=d2b (t:=t) (slot:=s.slot) (m:=s.cells)
 have hres:J2a (XY t s.slot 0 s.cells) vv=.agg #[.int .i64 (XY t s.slot 0 s.cells).e,vv,.int .i64 s.slot,.int .i64 0]:=rfl
 obtain ⟨x5,hx5⟩:∃ x5,XY t s.slot 0 s.cells=x5:=⟨_,rfl⟩
 obtain ⟨mc,hmc⟩:∃ mc,S1a t s.slot s.cells=mc:=⟨_,rfl⟩
 rw[hx5]at hR avv hvl hres ⊢
 rw[hmc]at hR mq hout hcl3
 have hmn:=mq.ext.next
 have gM:=(mq.ext.get K3.next (by omega)).trans g4
 have hone:[Value.int .i64 x5.e,vv,.int .i64 x5.s,.int .i64 x5.p].all Value.oneCell'=true:=by
  obtain ⟨_,_,rfl⟩:=avv.isSlice
  rfl
 obtain ⟨M2,hM2⟩:∃ M2,M2=M.set K3.next (.row [.int .i64 x5.e,vv,.int .i64 x5.s,.int .i64 x5.p] 0 false):=⟨_,rfl⟩
 have s1:Yz Try.prog 41 (.pointer (some ⟨K3.next,0,none⟩)) (J2a x5 vv) M=some M2:=by
  rw[hM2]
  exact (F0b rfl).trans (G1a gM rfl hone)
 have eM2:Ext K3 M2:=by rw[hM2];exact (e4.trans mq.ext).set (Nat.le_refl _)
 have g5:M2.get K3.next=some (.row [.int .i64 x5.e,vv,.int .i64 x5.s,.int .i64 x5.p] 0 false):=by rw[hM2];exact Zq _ _
 have eHM:=eH3.trans eM2
 have q2:Arg fCell.rep M2 q mc:=by rw[hM2];exact p8a mq.arg gM (by decide)
 have v2:Arg fI64.rep M2 vv x5.vs:=by rw[hM2];exact p8a avv gM (by decide)
 have w2:=mw.arg.ext eM2
 simp -implicitDefEqProofs (disch:=first|omega|simp only[go_sem]) only[go_sem,true_and,S4a,lt M (eH4.trans mq.ext),gM,s1,Zy g5]
 by_cases he:x5.e=0
 ·simp -implicitDefEqProofs (disch:=first|omega|simp only[go_sem]) only[go_sem,true_and,he,decide_true,Bool.not_true]
  refine Yv (y0c q2 (by omega) (by have:=eHM.next;omega) (gt M2 eHM) (x.w.ext (hE.trans eHM)) (by have:=hT.w;omega)) ?_
  rintro r N ⟨u1,rfl,m1⟩
  simp -implicitDefEqProofs (disch:=first|omega|simp only[go_sem]) only[go_sem,true_and,Xx]
  have eHN:=eHM.trans m1.ext
  refine Yv (y0c (w2.ext m1.ext) (by omega) (by have:=eHN.next;omega) (gt N eHN) (x.w.ext (hE.trans eHN)) (by have:=hT.w;omega)) ?_
  rintro r N2 ⟨u2,rfl,m2⟩
  simp -implicitDefEqProofs (disch:=first|omega|simp only[go_sem]) only[go_sem,true_and,Xx]
  have hlen:(mc.filter fun z=>!decide (z.k∈t.writes)).length≤4294967296:=Nat.le_trans (List.length_filter_le _ _) (by omega)
  refine YQ (F1b (m1.arg.ext m2.ext) m2.arg hlen) ?_
  rw[hout,g8a,decide_eq_true rfl]
  simp -implicitDefEqProofs (disch:=first|omega|simp only[go_sem]) only[go_sem,true_and]
  exact ⟨_,rfl,rfl,hE.trans (eHN.trans m2.ext)⟩
 ·obtain ⟨r1,r2⟩:=hR he
  rw[r1]at v2
  rw[r2]at q2
  have l0:∀ K,dLen Try.prog #[23] vv K=some (.int .i64 0):=v2.lens (P:=Try.prog) (ts:=#[23]) (t:=23) rfl x6a
  simp -implicitDefEqProofs (disch:=first|omega|simp only[go_sem]) only[go_sem,true_and,eq_false he,decide_false,Bool.not_false,Zy g5,l0,decide_true,Yy,Yq]
  refine YQ (F1b q2 w2 (by omega)) ?_
  rw[g8a,decide_eq_true rfl]
  simp -implicitDefEqProofs (disch:=first|omega|simp only[go_sem]) only[go_sem,true_and,Yy,Yq]
  exact ⟨_,rfl,rfl,hE.trans eHM⟩
theorem E3c:Lays Try.prog 50 (rSl rTxn) (Wy O0a):=.slice (e:=26) (by kernel_rfl) (by kernel_rfl) (by decide) B6b
abbrev A5d:List (Nat × Nat):=[(3,0),(3,1),(2,2),(50,3)]
theorem g8c:Lays Try.prog 52 rEnt X2a:=
 (Lays.of (l:=A5d) (by kernel_rfl) (by kernel_rfl) (.cons A6b (.cons A6b (.cons z6a (.one E3c))))).conv (Q:=rEnt) rfl (fun x=>⟨x.1,x.2.1,x.2.2.1,x.2.2.2⟩) (fun _ _ _ _ h=>h)
   (fun x=>by simp only[X2a];omega)
theorem C3c:Lays Try.prog 27 (rSl rEnt) (Wy X2a):=.slice (e:=52) (by kernel_rfl) (by kernel_rfl) (by decide) g8c
theorem b4c:Par Try.prog 27 false:=⟨_,Try.underlying27,rfl⟩
end Go.Proofs.Ytheamfnbfgiaeaa
namespace Go.Proofs.Ytheamfnbfgiaeaa.lawAborts
open Go.D
open Go.ChangeShapes Go.WideShapes Go.ChangeAt Go.RowKit
theorem own:ownKnob Try.prog.godebug=none:=by kernel_rfl
set_option maxRecDepth 100000 in
theorem lifted (os:Os) (started:os.Started) (H:Type) (enc:TypeId × Value→H) (F:Stop.Interp) :
 ReturnsInHanded {} Try.checked os 3 .any ((Rows.OpenSpec.upto Rows.serialAbortsSpec).pre6 enc Try.prog Try.f3 Rows.serialAbortsUptoRow.domain false) (((Rows.OpenSpec.upto Rows.serialAbortsSpec).at F).post enc Try.prog Try.f3 false true false false):=by
 refine returnsInHanded_of_cond (C:=Try.checked) (s:=Rows.OpenSpec.upto Rows.serialAbortsSpec) (k:=Rows.uptoSmall) rfl own started (by kernel_rfl) Try.func3
  (OpenSpec.witness (enc:=enc) (C:=Try.checked) (s:=Rows.OpenSpec.upto Rows.serialAbortsSpec) (k:=Rows.uptoSmall) rfl false ⟨#[],#[.agg #[.int .i64 0,.int .i64 0,.slice none 0 0,.slice none 0 0,.slice none 0 0,.slice none 0 0],.slice none 0 0],[]⟩ 8 (by kernel_rfl) (by kernel_rfl) (by kernel_rfl)
    (x:=([.agg [.lit (.int .i64 0),.lit (.int .i64 0),.nil,.nil,.nil,.nil],.nil],[],[])) (by kernel_rfl) rfl (by kernel_rfl)) ?_
 intro W base args ds gs before hval hW _ hk _
 refine B3c (by kernel_rfl)
  (.cons (agg:=true) u8c B6b (.cons (agg:=false) b4c C3c .nil)) (tb:=4) (by kernel_rfl) (by kernel_rfl) rfl (fun ds hl=>?_) (fun h vs x hng hq hB=>?_) W base args ds gs before hval hW hk
 ·match ds,hl with
  | [d0,d1],_=>rfl
 ·obtain ⟨cs,vs1,rfl,h1,cs2,vs2,rfl,⟨u,rfl,hu⟩,rfl⟩:=hq
  obtain ⟨vc,va,vr,vw,rfl,_,_,tx⟩:=H1c h1
  have q1:=s4a X2a x.2.1
  have q2:=o3b x.2.1
  exact (g5b tx (P6b (by omega)) hu (g3c (by omega)) (by omega) (by omega)).ct rfl
theorem p1:Try.pinned.checked.prog.funcNamed Rows.serialAbortsUptoRow.func=some 3:=by kernel_rfl
theorem p2:joinedFacts Try.pinned.checked.prog 3 Try.f3 (Rows.OpenSpec.upto Rows.serialAbortsSpec).bare Rows.serialAbortsUptoRow=true:=by kernel_rfl
theorem p3:Try.f3.isInstance Try.pinned.checked.prog Rows.serialAbortsUptoRow.origin Rows.serialAbortsUptoRow.targs:=of_decide_eq_true (by kernel_rfl)
theorem p4:Try.f3.isWrapper Try.pinned.checked.prog Rows.serialAbortsUptoRow.wrapper Rows.serialAbortsUptoRow.mainSum:=by unfold Func.isWrapper;first | (rw[if_pos (by decide +kernel)];kernel_rfl) | (rw[if_neg (by decide +kernel)];exact ⟨rfl,rfl⟩)
theorem proved:Rows.SerialAbortsUptoSaid:=
 OpenClaim.holds_of_cond 3 Try.f3 rfl rfl rfl rfl rfl rfl rfl ⟨rfl,rfl,rfl,rfl,rfl⟩ rfl rfl rfl rfl rfl p1 Try.func3 p2 p3 p4
  (fun os started H enc _ F=>lifted os started H enc F)
end Go.Proofs.Ytheamfnbfgiaeaa.lawAborts
