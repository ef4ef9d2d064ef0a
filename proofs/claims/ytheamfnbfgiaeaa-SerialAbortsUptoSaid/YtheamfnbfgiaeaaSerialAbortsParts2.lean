/-
A part of the proof of a law: contracts of functions over plain heaps, and what they lean on. Conditions: none.
-/
import Derived.Sort.Statements
import Derived.Shelf.SlSortCmp.WholeK
import Derived.Test.YtheamfnbfgiaeaaBase1
import Derived.Test.YtheamfnbfgiaeaaBase2
import Derived.Test.YtheamfnbfgiaeaaSerialAbortsParts1
set_option linter.unusedSimpArgs false
set_option linter.unusedVariables false
set_option linter.defProp false
namespace Go.Proofs.Ytheamfnbfgiaeaa
open Go.D
set_option maxRecDepth 100000
def P5a (e:Int):Value:=.iface 152 (.agg #[.int .i64 e])
theorem k0c {S:Nat→Prop} (e:Int):VIn S (P5a e):=.iface (.agg fun v hv=>by simp at hv;subst hv;exact .int _ _)
theorem t6c (e:Int):Xj Try.prog 152 [(0,.int .i64 e)]=some (.agg #[.int .i64 e]):=k0a x8c rfl
theorem o8c {h:DHeap}:DC Try.prog 53 [.int .i64 0] h (.ret (.tuple #[])) h:=by
 refine Ct.pure (W4c (by simp) ?_) (.tuple fun v hv=>by simp at hv)
 simp -implicitDefEqProofs (disch:=first|omega|simp only[go_sem]) only[go_sem,true_and,c53]
 exact ⟨_,rfl,rfl,.refl h⟩
theorem w4b {h:DHeap} {e:Int} (he:e≠0):DC Try.prog 53 [.int .i64 e] h (.pan (P5a e)) h:=by
 refine Ct.purePan (W4c (by simp) ?_) (k0c e)
 simp -implicitDefEqProofs (disch:=first|omega|simp only[go_sem]) only[go_sem,true_and,c53,t6c,he]
 exact ⟨rfl,.refl h⟩
theorem B1d {h:DHeap} {v:Value} {l:List Int} (hb:Arg fU8.rep h v l) (hl:l.length≤1048576) :
 Ct Try.prog 51 [v] h fun r h1=>((q0a l 0).2=0∧∃ w,r=.ret w∧Made fInstr h h1 w (q0a l 0).1)∨((q0a l 0).2≠0∧r=.pan (P5a (q0a l 0).2)∧Ext h h1):=by
 refine H3d (by simp) ?_
 have el:∀ K,dLen Try.prog #[22] v K=some (.int .i64 (l.length:Nat)):=hb.lens (P:=Try.prog) (ts:=#[22]) (t:=22) rfl p4b
 have hbl:=O6a hb
 simp -implicitDefEqProofs (disch:=first|omega|simp only[go_sem]) only[go_sem,true_and,c51]
 refine XU (σ:=Nat × List Instr) (by kernel_rfl) (fun a s=>s.df=[]∧s.rd=none∧s.fr 0=some v∧s.fr 4=some (.int .i64 (a.1:Nat))∧(∃ w,s.fr 3=some w∧Made fInstr h s.h w a.2)∧a.1≤l.length∧a.2.length≤a.1∧q0a l 0=(a.2++(q0a l a.1).1,(q0a l a.1).2)) (fun a=>l.length - a.1) (0,[]) ?_ ?_
 ·simp -implicitDefEqProofs (disch:=first|omega|simp only[go_sem]) only[go_sem,true_and]
  exact ⟨rfl,⟨_,rfl,.nil _ (.refl h)⟩,Nat.zero_le _,Nat.le_refl _,trivial⟩
 ·rintro ⟨i,acc⟩ ⟨fr,df,K,rd⟩ K' hK' hX ⟨rfl,hrd,f0,f4,⟨w,f3,hm⟩,hi,hal,hw⟩
  simp only at hrd f0 f4 f3 hm hi hal hw
  subst hrd
  have hE:=hm.ext
  simp -implicitDefEqProofs (disch:=first|omega|simp only[go_sem]) only[go_sem,true_and,f0,f4,el]
  refine j0a (fun hc1=>?_) (fun hc1=>?_)
  ·have hil:i<l.length:=by omega
   have hst:=o6a hil
   simp -implicitDefEqProofs (disch:=first|omega|simp only[go_sem]) only[go_sem,true_and,f0,f4]
   refine YQ (z4d (hb.ext hE) (by omega) (by omega)) ?_
   obtain ⟨x,hx⟩:∃ x,(Xk l i).1=x:=⟨_,rfl⟩
   obtain ⟨K1,hK1⟩:∃ K1,K1=K.push (.row (fInstr.enc x) 0 false):=⟨_,rfl⟩
   have g:K1.get K.next=some (.row (fInstr.enc x) 0 false):=by rw[hK1];exact Zz _ _
   have lc:Zj K1 K.next 0 5=some (P0a x):=by rw[Zu g (Nat.le_of_ble_eq_true rfl)];rfl
   have hm1:Made fInstr h K1 w acc:=hm.on (by rw[hK1];exact Ext.push1 _ _)
   rw[hx]
   have s5:=F6a (h:=K) (x:=x)
   rw[← hK1]at s5
   by_cases he:(Xk l i).2.2=0
   ·obtain ⟨e1,e2,_,e4,e5⟩:=Q1a he
    have hok:=q8c (by omega) hbl he
    rw[hx]at hok
    rw[if_pos he,hx]at hst
    obtain ⟨nx,hnx⟩:∃ nx:Nat,(Xk l i).2.1=nx:=⟨(Xk l i).2.1.toNat,by omega⟩
    rw[hnx]at hst ⊢
    rw[he]
    have hbs:∀ K:DHeap,c0a Try.prog 99 1 [(0,P0a x)] K=some (.slice (some ⟨K.next,0,none⟩) 1 1,K.push (.row (fInstr.enc x) 5 false)):=fun K=>q9b rfl
    obtain ⟨w2,h2,e6,m2⟩:=hm1.snoc B9c (y:=x) (cs:=fInstr.enc x) (z:=5) rfl rfl hok (by omega) (by decide)
    simp -implicitDefEqProofs (disch:=first|omega|simp only[go_sem]) only[go_sem,true_and,s5]
    refine YQ o8c ?_
    simp -implicitDefEqProofs (disch:=first|omega|simp only[go_sem]) only[go_sem,true_and,f3,lc,hbs,e6]
    refine hK' (nx,acc++[x]) _ ?_ (by simp only;omega)
    refine ⟨by trivial,by trivial,(vy f0),vz,⟨w2,vz,m2⟩,by simp only;omega,by simp;omega,?_⟩
    rw[hw,hst]
    simp
   ·rw[if_neg he]at hst
    simp -implicitDefEqProofs (disch:=first|omega|simp only[go_sem]) only[go_sem,true_and,s5]
    refine T1b (w4b he) ?_
    refine hX _ _ (by simp) ?_
    simp -implicitDefEqProofs (disch:=first|omega|simp only[go_sem]) only[go_sem,true_and]
    refine .inr ⟨?_,?_,hm1.ext⟩
    ·rw[hw,hst];exact he
    ·rw[hw,hst]
  ·refine hX _ _ (by simp) ?_
   simp -implicitDefEqProofs (disch:=first|omega|simp only[go_sem]) only[go_sem,true_and,f3]
   have:=l7a (l:=l) (i:=i) (by omega)
   refine ⟨_,rfl,.inl ⟨?_,w,rfl,?_⟩⟩
   ·rw[hw,this]
   ·rw[hw,this,List.append_nil];exact hm
theorem v2c {h:DHeap} {e:Int}:DC Try.prog 50 [P5a e] h (.ret (.int .i64 e)) h:=by
 refine Ct.pure (G3d (by simp) ?_) (Y0a _ _)
 simp -implicitDefEqProofs (disch:=first|omega|simp only[go_sem]) only[go_sem,true_and,c50,P5a,N5b (v:=.int .i64 e) rfl,k7b]
 exact ⟨_,rfl,rfl,Ext.push1 _ _⟩
theorem S3c {e:Int} {ox oy:Operand} {h:DHeap}:ZV Try.prog .neq 20 ox oy (P5a e) .nilIface h=.ok (.value (.bool true)) h:=by
 kernel_rfl
theorem T3c {i:Nat} {h:DHeap}:ZV Try.prog .neq 20 (T i) (.const .nilIface) .nilIface .nilIface h=.ok (.value (.bool false)) h:=by
 kernel_rfl
theorem g7c {h:DHeap} {x y:Value}:DCD Try.prog 49 [x,y] .ret h .ret h:=by
 refine R2b (fn:=Try.f49) (rs:=[]) (by kernel_rfl) i6b (by kernel_rfl) (by kernel_rfl) (n:=8) (Nat.le_of_ble_eq_true rfl) (by kernel_rfl) (.refl h) ?_
 simp only[K2a]
 simp -implicitDefEqProofs (disch:=first|omega|simp only[go_sem]) only[go_sem,true_and,v5a,T3c]
 exact ⟨rfl,trivial⟩
theorem t6b {h:DHeap} {a b:Nat} {e:Int} {c d:Value} {z y:Nat} (ha:h.get a=some (.row [c] z false)) (hb:h.get b=some (.row [d] y false)) (hab:b≠a) :
 DCD Try.prog 49 [.pointer (some ⟨a,0,none⟩),.pointer (some ⟨b,0,none⟩)] (.pan (P5a e)) h (.recd (P5a e)) ((h.set a (.row [.slice none 0 0] z false)).set b (.row [.int .i64 e] y false)):=by
 refine R2b (fn:=Try.f49) (rs:=[]) (by kernel_rfl) i6b (by kernel_rfl) (by kernel_rfl) (n:=8) (Nat.le_of_ble_eq_true rfl) (by kernel_rfl) ((HStep.set _ _ _).trans (HStep.set _ _ _)) ?_
 simp only[K2a]
 have w1:=b0a (o:=0) (vs:=[.slice none 0 0]) ha (Nat.le_of_ble_eq_true rfl) rfl
 have w2:=b0a (o:=0) (vs:=[.int .i64 e]) ((Zx _ _ hab).trans hb:(h.set a (.row (YW [c] 0 [.slice none 0 0]) z false)).get b=_) (Nat.le_of_ble_eq_true rfl) rfl
 have tc:=v2c (h:=h) (e:=e)
 simp -implicitDefEqProofs (disch:=first|omega|simp only[go_sem]) only[go_sem,true_and,v5a,S3c]
 refine YQ tc ?_
 simp -implicitDefEqProofs (disch:=first|omega|simp only[go_sem]) only[go_sem,true_and,w1,w2]
 exact ⟨rfl,rfl⟩
def m2a (xs:List Instr):Bool:=xs.all fun x=>!T0a x.op||decide (x.imm∈xs.map (·.pos))
def P2a (l:List Int):Int:=if 512<l.length then 3 else if (q0a l 0).2≠0 then (q0a l 0).2 else if m2a (q0a l 0).1 then 0 else 131
def WX (l:List Int):List Instr:=if P2a l=0 then (q0a l 0).1 else []
theorem Q7a {S:Nat→Prop} {h:DHeap} {v:Value} {l:List Instr} {i:Nat} (hb:Sl fInstr.rep S h v l) (hi:i<l.length) :
 ∃ id o,ZQ Try.prog 99 v (.int .i64 (i:Nat))=some (.pointer (some ⟨id,o,none⟩))∧Zj h id o 5=some (P0a l[i])∧ZZ h id (o+0)=some (.int .i64 l[i].pos)∧ZZ h id (o+1)=some (.int .i64 l[i].op)∧ZZ h id (o+4)=some (.int .i64 l[i].imm):=by
 obtain ⟨id,o,g,hs,hat⟩:=hb.idx (P:=Try.prog) (t:=99) O7b (k:=.i64) (List.getElem?_eq_getElem hi)
 obtain ⟨a,b,_⟩:=hat.flat
 exact ⟨id,o,g,b,a 0 (by decide),a 1 (by decide),a 4 (by decide)⟩
def x8a (l:List Instr) (i:Nat):Prop:=∀ j x,j<i→l[j]? = some x→T0a x.op=true→x.imm∈l.map (·.pos)
theorem P5b {l:List Instr} (h:x8a l l.length):m2a l=true:=by
 unfold m2a
 rw[List.all_eq_true]
 intro x hx
 obtain ⟨j,hj⟩:=List.mem_iff_getElem?.1 hx
 cases hb:T0a x.op with
 | false=>rfl
 | true=>simpa using h j x (List.getElem?_eq_some_iff.1 hj).1 hj hb
theorem Q5b {l:List Instr} {x:Instr} (hx:x∈l) (hb:T0a x.op=true) (hm:x.imm∉l.map (·.pos)):m2a l=false:=by
 unfold m2a
 rw[List.all_eq_false]
 exact ⟨x,hx,by simp[hb];simpa using hm⟩
theorem s4b {l:List Instr} {i:Nat} (hi:i<l.length) (h:x8a l i) (hx:T0a l[i].op=true→l[i].imm∈l.map (·.pos)):x8a l (i+1):=by
 intro j x hj hjx hb
 by_cases hji:j=i
 ·subst hji
  rw[List.getElem?_eq_getElem hi]at hjx
  cases hjx
  exact hx hb
 ·exact h j x (by omega) hjx hb
theorem d8c {h:DHeap} {x:Instr}:DC Try.prog 52 [P0a x] h (.ret (.bool (T0a x.op))) h:=by
 obtain ⟨x1,x2,x3,x4,x5⟩:=x
 refine Ct.pure (I3d (by simp) ?_) (W0a _)
 obtain ⟨H,hH⟩:∃ H,H=h.push (.row [.int .i64 x1,.int .i64 x2,.int .i64 x3,.int .i64 x4,.int .i64 x5] 0 false):=⟨_,rfl⟩
 have hE:Ext h H:=by rw[hH];exact Ext.push1 _ _
 have g:H.get h.next=some (.row [.int .i64 x1,.int .i64 x2,.int .i64 x3,.int .i64 x4,.int .i64 x5] 0 false):=by rw[hH];exact Zz _ _
 have a1:ZZ H h.next 1=some (.int .i64 x2):=Zy g
 simp -implicitDefEqProofs (disch:=first|omega|simp only[go_sem]) only[go_sem,true_and,c52,← hH,a1]
 clear hH
 (repeat' first | (refine C9a (fun hb=>?_) (fun hb=>?_) <;> (try simp only[Bool.not_eq_true',Bool.not_eq_false']at hb) <;> simp -implicitDefEqProofs (disch:=first|omega|simp only[go_sem]) only[go_sem,true_and,Yy,Yq,hb,a1]) | (refine B3a (fun hb=>?_) (fun hb=>?_) <;> (try simp only[Bool.not_eq_true',Bool.not_eq_false']at hb) <;> simp -implicitDefEqProofs (disch:=first|omega|simp only[go_sem]) only[go_sem,true_and,Yy,Yq,hb,a1]))
 all_goals exact ⟨_,rfl,by simp_all [T0a],hE⟩
theorem r9a:K0a Try.prog 49=true:=by kernel_rfl
theorem B0b:R1c Try.prog 124 .i64:=⟨2,4,by kernel_rfl,by kernel_rfl,by kernel_rfl⟩
theorem L2b {fr:Fr} {K:DHeap} {a b id id2:Nat} {w:Value} {e:Int} {z y:Nat} (f2:fr a=some (.pointer (some ⟨id,0,none⟩))) (f3:fr b=some (.pointer (some ⟨id2,0,none⟩))) (hk:K.get id=some (.row [w] z false)) (hk2:K.get id2=some (.row [.int .i64 e] y false)) :
 p0a Try.prog [.cell a 99,.cell b 54] fr K=some (.tuple #[w,.int .i64 e]):=by
 rw[b6a,Z2a,Z2a,f2,f3,D0a,D0a]
 have e1:XQ Try.prog 99 (.pointer (some ⟨id,0,none⟩)) K=some w:=ld_99.trans (Zy hk)
 have e2:XQ Try.prog 54 (.pointer (some ⟨id2,0,none⟩)) K=some (.int .i64 e):=ld_54.trans (Zy hk2)
 rw[e1,e2,f2b]
structure DecI (h:DHeap) (a b mp n0:Nat) (w:Value) (xs:List Instr) (ks:List Int) (K:DHeap):Prop where
 ext:Ext h K
 ga:K.get a=some (.row [w] 0 false)
 gb:K.get b=some (.row [.int .i64 0] 0 false)
 sm:SetAt .i64 K mp ks
 sl:Sl fInstr.rep (fun j=>n0≤j∧j<mp) K w xs
 lt:mp<K.next
 ab:h.next≤a∧h.next≤b∧a<n0∧b<n0∧a≠b∧n0≤mp
theorem DecI.push {h:DHeap} {a b mp n0:Nat} {w:Value} {xs:List Instr} {ks:List Int} {K K':DHeap} (s:DecI h a b mp n0 w xs ks K) (e:Ext K K'):DecI h a b mp n0 w xs ks K':=by
 have hl:=s.lt
 have ha:=s.ab
 exact ⟨s.ext.trans e,(e.get _ (by omega)).trans s.ga,(e.get _ (by omega)).trans s.gb,s.sm.keep (e.get _ hl),s.sl.mono fun j hj=>⟨hj,e.get _ (by omega)⟩,Nat.lt_of_lt_of_le hl e.next,ha⟩
theorem DecI.upd {h:DHeap} {a b mp n0:Nat} {w:Value} {xs:List Instr} {ks ks':List Int} {K:DHeap} {o:DObj} (s:DecI h a b mp n0 w xs ks K) (hs:SetAt .i64 (K.set mp o) mp ks'):DecI h a b mp n0 w xs ks' (K.set mp o):=by
 have ha:=s.ab
 exact ⟨s.ext.set (by omega),(Zx _ _ (by omega)).trans s.ga,(Zx _ _ (by omega)).trans s.gb,hs,s.sl.mono fun j hj=>⟨hj,Zx _ _ (by omega)⟩,s.lt,ha⟩
theorem T3b {h:DHeap} {v:Value} {l:List Int} (hb:Arg fU8.rep h v l) (hl:l.length≤1048576) :
 Ct Try.prog 39 [v] h fun r h1=>∃ w,r=.ret (.tuple #[w,.int .i64 (P2a l)])∧Ext h h1∧Arg fInstr.rep h1 w (WX l):=by
 refine w3d (by simp) ?_
 have el:∀ K,dLen Try.prog #[22] v K=some (.int .i64 (l.length:Nat)):=hb.lens (P:=Try.prog) (ts:=#[22]) (t:=22) rfl p4b
 obtain ⟨H,hH⟩:∃ H,H=(h.push (.row [.slice none 0 0] 0 false)).push (.row [.int .i64 0] 0 false):=⟨_,rfl⟩
 have hE:Ext h H:=by rw[hH];exact (Ext.push1 _ _).push _
 have hHn:H.next=h.next+2:=by rw[hH];rfl
 have ga:H.get h.next=some (.row [.slice none 0 0] 0 false):=by rw[hH];exact B5a
 have gb:H.get (h.next+1)=some (.row [.int .i64 0] 0 false):=by rw[hH];exact Zz _ _
 by_cases h0:(512:Int)<(l.length:Nat)
 ·have h0':=eq_true h0
  have hD:P2a l=3:=by rw[P2a,if_pos (by omega)]
  have w1:storeAt H h.next 0 [.slice none 0 0]=some H:=by
   rw[b0a ga (Nat.le_of_ble_eq_true rfl) rfl]
   exact congrArg some (A3a ga)
  have w2:=b0a (o:=0) (vs:=[.int .i64 3]) gb (Nat.le_of_ble_eq_true rfl) rfl
  simp -implicitDefEqProofs (disch:=first|omega|simp only[go_sem]) only[go_sem,true_and,c39,l0a,← hH,el,h0',w1,w2]
  refine B2a (L2b vz vz ((Zx _ _ (by omega)).trans ga) (Zq _ _)) ⟨_,by rw[hD],hE.set (by omega),?_⟩
  rw[WX,hD]
  exact .nil _ _ _
 have hE0:P2a l=if (q0a l 0).2≠0 then (q0a l 0).2 else if m2a (q0a l 0).1 then 0 else 131:=by rw[P2a,if_neg (by omega)]
 simp -implicitDefEqProofs (disch:=first|omega|simp only[go_sem]) only[go_sem,true_and,c39,l0a,← hH,el,h0]
 refine Yv (B1d (hb.ext hE) hl) ?_
 have hlen:=m5a (l:=l) (n:=l.length) (i:=0) (by omega)
 obtain ⟨xs,hxs⟩:∃ xs,(q0a l 0).1=xs:=⟨_,rfl⟩
 obtain ⟨e,he⟩:∃ e,(q0a l 0).2=e:=⟨_,rfl⟩
 rw[hxs,he]
 rw[hxs]at hlen
 rw[hxs,he]at hE0
 rintro r h1 (⟨he0,w,rfl,hm⟩ | ⟨he0,rfl,hE1⟩)
 case inr=>
  rw[if_pos he0]at hE0
  have ga1:=(hE1.get _ (by omega)).trans ga
  have gb1:=(hE1.get _ (by omega)).trans gb
  simp -implicitDefEqProofs (disch:=first|omega|simp only[go_sem]) only[go_sem,true_and,Xx]
  refine W2b r9a (t6b ga1 gb1 (by omega)) ?_
  simp -implicitDefEqProofs (disch:=first|omega|simp only[go_sem]) only[go_sem,true_and,r4a,o8a]
  refine B2a (L2b vz vz ((Zx _ _ (by omega)).trans (Zq _ _)) (Zq _ _)) ⟨_,by rw[hE0],((hE.trans hE1).set (by omega)).set (by omega),?_⟩
  rw[WX,hE0,if_neg he0]
  exact .nil _ _ _
 rw[if_neg (fun hh=>hh he0)]at hE0
 have hE1:=hm.ext
 have hE1n:=hE1.next
 have ga1:=(hE1.get _ (by omega)).trans ga
 have gb1:=(hE1.get _ (by omega)).trans gb
 have hone:[w].all Value.oneCell'=true:=by obtain ⟨_,_,rfl⟩:=hm.sl.isSlice;rfl
 have w1:=b0a (o:=0) (vs:=[w]) ga1 (Nat.le_of_ble_eq_true rfl) hone
 have sst:∀ K,Yz Try.prog 99 (.pointer (some ⟨h.next,0,none⟩)) w K=storeAt K h.next 0 [w]:=fun K=>d6c hm.sl.cells1
 obtain ⟨K0,hK0⟩:∃ K0,K0=(h1.set h.next (.row [w] 0 false)).push (.map [] 0):=⟨_,rfl⟩
 have elw:∀ K,dLen Try.prog #[99] w K=some (.int .i64 (xs.length:Nat)):=hm.arg.lens (P:=Try.prog) (ts:=#[99]) (t:=99) rfl r4b
 have I0:DecI h h.next (h.next+1) h1.next H.next w xs [] K0:=by
  have hEs:Ext h (h1.set h.next (.row [w] 0 false)):=(hE.trans hE1).set (by omega)
  refine ⟨by rw[hK0];exact hEs.push _,?_,?_,?_,?_,?_,by omega⟩
  ·rw[hK0,ZX _ _ (by simp only[Z6a];omega)];exact Zq _ _
  ·rw[hK0,ZX _ _ (by simp only[Z6a];omega),Zx _ _ (by omega)];exact gb1
  ·rw[hK0];exact SetAt.new
  ·refine hm.sl.mono fun j hj=>⟨hj,?_⟩
   rw[hK0,ZX _ _ (by simp only[Z6a];omega),Zx _ _ (by omega)]
  ·rw[hK0];exact Nat.lt_succ_self _
 have lw:∀ {ks K},DecI h h.next (h.next+1) h1.next H.next w xs ks K→ZZ K h.next 0=some w:=fun s=>Zy s.ga
 simp -implicitDefEqProofs (disch:=first|omega|simp only[go_sem]) only[go_sem,true_and,Xx,sst,w1,YW]
 have hK0':∀ x,x=[w]→(h1.set h.next (.row x 0 false)).push (.map [] 0)=K0:=fun x hx=>by rw[hx,hK0]
 simp only[List.set_cons_zero,Z6a,← hK0]
 simp -implicitDefEqProofs (disch:=first|omega|simp only[go_sem]) only[go_sem,true_and,lw I0,elw]
 refine a9b (fun s=>s.df=[.fn 49 [.pointer (some ⟨h.next,0,none⟩),.pointer (some ⟨h.next+1,0,none⟩)]]∧s.rd=none∧s.fr 2=some (.pointer (some ⟨h.next,0,none⟩))∧s.fr 3=some (.pointer (some ⟨h.next+1,0,none⟩))∧s.fr 4=some (.map (some h1.next))∧DecI h h.next (h.next+1) h1.next H.next w xs (xs.map (·.pos)) s.h) ?_ ?_
 ·refine XU (σ:=Nat) (by kernel_rfl) (fun i s=>s.df=[.fn 49 [.pointer (some ⟨h.next,0,none⟩),.pointer (some ⟨h.next+1,0,none⟩)]]∧s.rd=none∧s.fr 2=some (.pointer (some ⟨h.next,0,none⟩))∧s.fr 3=some (.pointer (some ⟨h.next+1,0,none⟩))∧s.fr 4=some (.map (some h1.next))∧s.fr 16=some w∧s.fr 17=some (.int .i64 (xs.length:Nat))∧s.fr 18=some (.int .i64 (i:Nat))∧i≤xs.length∧DecI h h.next (h.next+1) h1.next H.next w xs ((xs.take i).map (·.pos)) s.h) (fun i=>xs.length - i) 0 ?_ ?_
  ·simp -implicitDefEqProofs (disch:=first|omega|simp only[go_sem]) only[go_sem,true_and]
   exact ⟨rfl,Nat.zero_le _,I0⟩
  ·rintro i ⟨fr,df,K,rd⟩ K' hK' hX ⟨hdf,hrd,f2,f3,f4,f16,f17,f18,hi,I⟩
   simp only at hdf hrd f2 f3 f4 f16 f17 f18 I
   subst hdf hrd
   simp -implicitDefEqProofs (disch:=first|omega|simp only[go_sem]) only[go_sem,true_and,f17,f18]
   refine j0a (fun hc1=>?_) (fun hc1=>?_)
   ·have hj:i<xs.length:=by omega
    obtain ⟨id,o,g,c5,_,_,_⟩:=Q7a I.sl hj
    have hw1:=YZ hj (by omega)
    obtain ⟨x,hx⟩:∃ x,xs[i]=x:=⟨_,rfl⟩
    rw[hx]at c5
    obtain ⟨K1,hK1⟩:∃ K1,K1=K.push (.row (fInstr.enc x) 0 false):=⟨_,rfl⟩
    have g1:K1.get K.next=some (.row (fInstr.enc x) 0 false):=by rw[hK1];exact Zz _ _
    have p0:ZZ K1 K.next 0=some (.int .i64 x.pos):=Zy g1
    have s5:=F6a (h:=K) (x:=x)
    rw[← hK1]at s5
    have I1:DecI h h.next (h.next+1) h1.next H.next w xs ((xs.take i).map (·.pos)) K1:=I.push (by rw[hK1];exact Ext.push1 _ _)
    obtain ⟨ob,hu,hs⟩:=I1.sm.update B0b x.pos
    simp -implicitDefEqProofs (disch:=first|omega|simp only[go_sem]) only[go_sem,true_and,f16,f18,g,c5,s5,f4,p0,hu,hw1]
    refine hK' (i+1) _ ?_ (by omega)
    refine ⟨by trivial,by trivial,(vy f2),(vy f3),(vy f4),(vy f16),(vy f17),vz,by omega,?_⟩
    have:=I1.upd hs
    rw[show xs.take (i+1)=xs.take i++[x] by rw[← hx];simp]
    simpa using this
   ·obtain rfl:i=xs.length:=by omega
    refine hX _ _ (by simp) ?_
    rw[List.take_length]at I
    exact ⟨rfl,rfl,f2,f3,f4,I⟩
 rintro ⟨fr,df,K,rd⟩ ⟨hdf,hrd,f2,f3,f4,I⟩
 simp only at hdf hrd f2 f3 f4 I
 subst hdf hrd
 simp -implicitDefEqProofs (disch:=first|omega|simp only[go_sem]) only[go_sem,true_and,f2,lw I,elw]
 refine XU (σ:=Nat) (by kernel_rfl) (fun i s=>s.df=[.fn 49 [.pointer (some ⟨h.next,0,none⟩),.pointer (some ⟨h.next+1,0,none⟩)]]∧s.rd=none∧s.fr 2=some (.pointer (some ⟨h.next,0,none⟩))∧s.fr 3=some (.pointer (some ⟨h.next+1,0,none⟩))∧s.fr 4=some (.map (some h1.next))∧s.fr 26=some w∧s.fr 27=some (.int .i64 (xs.length:Nat))∧s.fr 28=some (.int .i64 (i:Nat))∧i≤xs.length∧x8a xs i∧DecI h h.next (h.next+1) h1.next H.next w xs (xs.map (·.pos)) s.h) (fun i=>xs.length - i) 0 ?_ ?_
 ·simp -implicitDefEqProofs (disch:=first|omega|simp only[go_sem]) only[go_sem,true_and,f2,f3,f4]
  exact ⟨rfl,Nat.zero_le _,fun j x hj=>absurd hj (Nat.not_lt_zero j),I⟩
 clear f2 f3 f4 I K fr
 rintro i ⟨fr,df,K,rd⟩ K' hK' hX ⟨hdf,hrd,f2,f3,f4,f26,f27,f28,hi,hso,I⟩
 simp only at hdf hrd f2 f3 f4 f26 f27 f28 I
 subst hdf hrd
 simp -implicitDefEqProofs (disch:=first|omega|simp only[go_sem]) only[go_sem,true_and,f27,f28]
 refine j0a (fun hc1=>?_) (fun hc1=>?_)
 ·have hj:i<xs.length:=by omega
  obtain ⟨id,o,g,c5,_,_,_⟩:=Q7a I.sl hj
  have hw1:=YZ hj (by omega)
  have hmem:=List.getElem_mem hj
  have hsucc:=fun hx=>s4b hj hso hx
  have hbad:=fun (a:T0a xs[i].op=true) (b:xs[i].imm∉xs.map (·.pos))=>Q5b hmem a b
  obtain ⟨x,hx⟩:∃ x,xs[i]=x:=⟨_,rfl⟩
  rw[hx]at c5
  rw[hx]at hsucc hbad
  obtain ⟨K1,hK1⟩:∃ K1,K1=K.push (.row (fInstr.enc x) 0 false):=⟨_,rfl⟩
  have g1:K1.get K.next=some (.row (fInstr.enc x) 0 false):=by rw[hK1];exact Zz _ _
  have p4:ZZ K1 K.next 4=some (.int .i64 x.imm):=Zy g1
  have pc:Zj K1 K.next 0 5=some (P0a x):=by rw[Zu g1 (Nat.le_of_ble_eq_true rfl)];rfl
  have s5:=F6a (h:=K) (x:=x)
  rw[← hK1]at s5
  have I1:DecI h h.next (h.next+1) h1.next H.next w xs (xs.map (·.pos)) K1:=I.push (by rw[hK1];exact Ext.push1 _ _)
  simp -implicitDefEqProofs (disch:=first|omega|simp only[go_sem]) only[go_sem,true_and,f26,f28,g,c5,s5,pc]
  refine YQ d8c ?_
  by_cases hjb:T0a x.op=true
  case neg=>
   have hjb':T0a x.op=false:=by simpa using hjb
   simp -implicitDefEqProofs (disch:=first|omega|simp only[go_sem]) only[go_sem,true_and,hjb',Yy,Yq,f28,hw1]
   refine hK' (i+1) _ ?_ (by omega)
   exact ⟨by trivial,by trivial,(vy f2),(vy f3),(vy f4),(vy f26),(vy f27),vz,by omega,hsucc fun hh=>absurd hh hjb,I1⟩
  have hlk:=I1.sm.lookup B0b x.imm
  by_cases hin:x.imm∈xs.map (·.pos)
  ·rw[decide_eq_true hin]at hlk
   simp -implicitDefEqProofs (disch:=first|omega|simp only[go_sem]) only[go_sem,true_and,hjb,f4,p4,hlk,Yy,Yq,f28,hw1]
   refine hK' (i+1) _ ?_ (by omega)
   exact ⟨by trivial,by trivial,(vy f2),(vy f3),(vy f4),(vy f26),(vy f27),vz,by omega,hsucc fun _=>hin,I1⟩
  ·rw[decide_eq_false hin]at hlk
   rw[hbad hjb hin]at hE0
   simp only[Bool.false_eq_true,if_false]at hE0
   simp -implicitDefEqProofs (disch:=first|omega|simp only[go_sem]) only[go_sem,true_and,hjb,f4,p4,hlk,Yy,Yq]
   refine T1b (w4b (by decide)) ?_
   refine hX _ _ (by simp) ?_
   simp -implicitDefEqProofs (disch:=first|omega|simp only[go_sem]) only[go_sem,true_and]
   refine W2b r9a (t6b I1.ga I1.gb (by omega)) ?_
   simp -implicitDefEqProofs (disch:=first|omega|simp only[go_sem]) only[go_sem,true_and,r4a,o8a]
   refine B2a (L2b (vy f2) (vy f3) ((Zx _ _ (by omega)).trans (Zq _ _)) (Zq _ _)) ⟨_,by rw[hE0],(I1.ext.set (by omega)).set (by omega),?_⟩
   rw[WX,hE0]
   exact .nil _ _ _
 ·obtain rfl:i=xs.length:=by omega
  rw[P5b hso]at hE0
  simp only[if_true]at hE0
  refine hX _ _ (by simp) ?_
  have w2:storeAt K h.next 0 [w]=some K:=by
   rw[b0a I.ga (Nat.le_of_ble_eq_true rfl) hone]
   exact congrArg some (A3a I.ga)
  have w3:storeAt K (h.next+1) 0 [.int .i64 0]=some K:=by
   rw[b0a I.gb (Nat.le_of_ble_eq_true rfl) rfl]
   exact congrArg some (A3a I.gb)
  simp -implicitDefEqProofs (disch:=first|omega|simp only[go_sem]) only[go_sem,true_and,f2,f3,lw I,sst,w2,w3]
  refine W2b r9a g7c ?_
  simp -implicitDefEqProofs (disch:=first|omega|simp only[go_sem]) only[go_sem,true_and,r4a,o8a]
  refine B2a (L2b (vy f2) (vy f3) I.ga I.gb) ⟨_,by rw[hE0],I.ext,?_⟩
  rw[WX,hE0,if_pos rfl,hxs]
  have hlt:=I.lt
  exact I.sl.mono fun j hj=>⟨by omega,rfl⟩
theorem z6b {S:Nat→Prop} {h:DHeap} {v:Value} {l:List Key} {i:Nat} (hb:Sl fKey.rep S h v l) (hi:i<l.length) :
 ∃ id o,ZQ Try.prog 24 v (.int .i64 (i:Nat))=some (.pointer (some ⟨id,o,none⟩))∧Zj h id o 2=some (Zk l[i])∧ZZ h id (o+0)=some (.int .i32 l[i].t)∧ZZ h id (o+1)=some (.int .i64 l[i].r):=by
 obtain ⟨id,o,g,hs,hat⟩:=hb.idx (P:=Try.prog) (t:=24) Z3a (k:=.i64) (List.getElem?_eq_getElem hi)
 obtain ⟨a,b,_⟩:=hat.flat
 exact ⟨id,o,g,b,a 0 (by decide),a 1 (by decide)⟩
theorem B0c {a b:Key}:YJ a b=!(decide (b.t<a.t)||(decide (b.t=a.t)&&decide (b.r≤a.r))):=by
 unfold YJ
 by_cases h1:b.t<a.t
 ·simp[h1];omega
 ·by_cases h2:b.t=a.t
  ·by_cases h3:b.r≤a.r
   ·simp[h1,h2,h3,Int.not_lt.2]
   ·simp[h1,h2,h3,Int.not_le.1]
  ·simp[h1,h2];omega
theorem J6b {h:DHeap} {v:Value} {l:List Key} (hb:Arg fKey.rep h v l) (hl:l.length≤4294967296):DC Try.prog 48 [v] h (.ret (.bool (C2a YJ l))) h:=by
 refine Ct.pure (F3d (by simp) ?_) (W0a _)
 have el:∀ K,dLen Try.prog #[24] v K=some (.int .i64 (l.length:Nat)):=hb.lens (P:=Try.prog) (ts:=#[24]) (t:=24) rfl R2a
 simp -implicitDefEqProofs (disch:=first|omega|simp only[go_sem]) only[go_sem,true_and,c48,el]
 refine XU (σ:=Nat) (by kernel_rfl) (fun i s=>s.df=[]∧s.h=h∧s.fr 0=some v∧s.fr 5=some (.int .i64 (l.length:Nat))∧s.fr 6=some (.int .i64 (i:Nat))∧i≤l.length∧C2a YJ (l.drop (i - 1))=C2a YJ l) (fun i=>l.length - i) 0 ?_ ?_
 ·simp -implicitDefEqProofs (disch:=first|omega|simp only[go_sem]) only[go_sem,true_and]
  exact ⟨rfl,Nat.zero_le _,rfl⟩
 ·rintro i ⟨fr,df,K,rd⟩ K' hK' hX ⟨rfl,rfl,f0,f5,f6,hi,ho⟩
  simp only at f0 f5 f6
  simp -implicitDefEqProofs (disch:=first|omega|simp only[go_sem]) only[go_sem,true_and,f5,f6]
  refine j0a (fun hc1=>?_) (fun hc1=>?_)
  ·have hj:i<l.length:=by omega
   have hw1:=YZ hj (by omega)
   simp -implicitDefEqProofs (disch:=first|omega|simp only[go_sem]) only[go_sem,true_and,f6]
   refine k7c ?_
   by_cases h0:(0:Int)<(i:Nat)
   case neg=>
    obtain rfl:i=0:=by omega
    simp -implicitDefEqProofs (disch:=first|omega|simp only[go_sem]) only[go_sem,true_and,l48_0,h0,Yy,Yq,f6,hw1,B1a]
    refine hK' (0+1) _ ?_ (by omega)
    exact ⟨by trivial,by trivial,(vy f0),(vy f5),vz,by omega,ho⟩
   obtain ⟨j,rfl⟩:∃ j,i=j+1:=⟨i - 1,by omega⟩
   have h0':=eq_true h0
   have hwm:IntKind.i64.wrap (((j+1:Nat):Int) - 1)=(j:Nat):=by rw[r0a (by omega) (by omega)];omega
   obtain ⟨id1,o1,g1,_,a0,a1⟩:=z6b hb (i:=j+1) hj
   obtain ⟨id2,o2,g2,_,b0,b1⟩:=z6b hb (i:=j) (by omega)
   rw[Nat.add_zero]at a0 b0
   rw[Nat.add_sub_cancel,B8b hj,B0c]at ho
   have good:∀ {s:St},s.df=[]→s.h=K→s.fr 0=some v→s.fr 5=some (.int .i64 (l.length:Nat))→s.fr 6=some (.int .i64 ((j+1+1:Nat):Int))→(decide (l[j+1].t<l[j].t)||(decide (l[j+1].t=l[j].t)&&decide (l[j+1].r≤l[j].r)))=false→K' .normal s:=fun a b c d e f=>by
    refine hK' (j+1+1) _ ⟨a,b,c,d,e,by omega,?_⟩ (by omega)
    rw[f,Bool.not_false,Bool.true_and]at ho
    exact ho
   by_cases h1:l[j+1].t<l[j].t
   ·have h1':=eq_true h1
    simp -implicitDefEqProofs (disch:=first|omega|simp only[go_sem]) only[go_sem,true_and,l48_0,f0,f6,h0',h1',g1,g2,hwm,a0,a1,b0,b1,Yy,Yq,B1a]
    refine hX _ _ (by simp) ?_
    simp -implicitDefEqProofs (disch:=first|omega|simp only[go_sem]) only[go_sem,true_and]
    refine ⟨_,rfl,?_,.refl _⟩
    rw[← ho]
    simp[h1]
   by_cases h2:l[j+1].t=l[j].t
   case neg=>
    simp -implicitDefEqProofs (disch:=first|omega|simp only[go_sem]) only[go_sem,true_and,l48_0,f0,f6,h0',h1,h2,g1,g2,hwm,a0,a1,b0,b1,Yy,Yq,B1a,hw1]
    exact good rfl rfl (vy f0) (vy f5) vz (by simp[h1,h2])
   have h2':=eq_true h2
   by_cases h3:l[j+1].r≤l[j].r
   ·have h3':=eq_true h3
    simp -implicitDefEqProofs (disch:=first|omega|simp only[go_sem]) only[go_sem,true_and,l48_0,f0,f6,h0',h1,h2',h3',g1,g2,hwm,a0,a1,b0,b1,Yy,Yq,B1a]
    refine hX _ _ (by simp) ?_
    simp -implicitDefEqProofs (disch:=first|omega|simp only[go_sem]) only[go_sem,true_and]
    refine ⟨_,rfl,?_,.refl _⟩
    rw[← ho]
    simp[h1,h2,h3]
   ·simp -implicitDefEqProofs (disch:=first|omega|simp only[go_sem]) only[go_sem,true_and,l48_0,f0,f6,h0',h1,h2',h3,g1,g2,hwm,a0,a1,b0,b1,Yy,Yq,B1a,hw1]
    exact good rfl rfl (vy f0) (vy f5) vz (by simp[h1,h2,h3])
  ·refine hX _ _ (by simp) ?_
   simp -implicitDefEqProofs (disch:=first|omega|simp only[go_sem]) only[go_sem,true_and]
   refine ⟨_,rfl,?_,.refl _⟩
   rw[← ho,C4b (by simp;omega)]
def v1a (t:Txn) (x:Instr):Bool:=
 if x.op=3∨x.op=4 then decide ((t.reads.length:Int)≤x.imm) else if x.op=5∨x.op=6 then decide ((t.writes.length:Int)≤x.imm) else if x.op=2 then decide ((t.args.length:Int)≤x.imm) else false
def v2a (t:Txn):Int:=
 if t.ses<1∨1099511627776<t.ses∨t.req<1∨1099511627776<t.req then 1
 else if 8<t.args.length∨16<t.reads.length∨16<t.writes.length then 3
 else if C2a YJ t.reads=false∨C2a YJ t.writes=false then 1
 else if P2a t.code≠0 then P2a t.code
 else if (WX t.code).any (v1a t) then 132 else 0
theorem X4b {l:List Int} (hb:∀ j,0≤l.getD j 0∧l.getD j 0≤255):∀ (n i:Nat),∀ x∈(Ww l n i).1,x.imm≤65535
 | 0,i,x,hx=>by simp[Ww]at hx
 | n+1,i,x,hx=>by
   simp only[Ww]at hx
   split at hx
   ·simp at hx
   ·split at hx
    ·rename_i he
     rcases List.mem_cons.1 hx with rfl | hx
     ·obtain ⟨e,_⟩:=Q1a he
      rw[e]
      have b3:=hb (i+1+(if Xz (l.getD i 0) then 1 else 0)+if Wu (l.getD i 0) then 1 else 0)
      have b4:=hb (i+1+(if Xz (l.getD i 0) then 1 else 0)+(if Wu (l.getD i 0) then 1 else 0)+1)
      simp only[YV,D5a]
      generalize l.getD (i+1+(if Xz (l.getD i 0) then 1 else 0)+if Wu (l.getD i 0) then 1 else 0) 0=y3 at b3 ⊢
      generalize l.getD (i+1+(if Xz (l.getD i 0) then 1 else 0)+(if Wu (l.getD i 0) then 1 else 0)+1) 0=y4 at b4 ⊢
      repeat' split
      all_goals omega
     ·exact X4b hb n _ x hx
    ·simp at hx
theorem f3c {l:List Int} (hb:∀ j,0≤l.getD j 0∧l.getD j 0≤255):∀ x∈WX l,x.imm≤65535:=by
 intro x hx
 unfold WX at hx
 split at hx
 ·exact X4b hb _ _ x hx
 ·simp at hx
structure TxnAt (h:DHeap) (id:Nat) (t:Txn) (vc va vr vw:Value):Prop where
 c0:ZZ h id 0=some (.int .i64 t.ses)
 c1:ZZ h id 1=some (.int .i64 t.req)
 c2:ZZ h id 2=some vc
 c3:ZZ h id 3=some va
 c4:ZZ h id 4=some vr
 c5:ZZ h id 5=some vw
theorem TxnAt.of {h:DHeap} {id z:Nat} {ro:Bool} {t:Txn} {vc va vr vw:Value} (g:h.get id=some (.row [.int .i64 t.ses,.int .i64 t.req,vc,va,vr,vw] z ro)):TxnAt h id t vc va vr vw:=
 ⟨Zy g,Zy g,Zy g,Zy g,Zy g,Zy g⟩
theorem f2c {t:Txn} {l:List Instr} {i:Nat} (hi:i<l.length) (h:(l.take i).any (v1a t)=false) (hx:v1a t l[i]=false):(l.take (i+1)).any (v1a t)=false:=by
 rw[List.take_succ_eq_append_getElem hi,List.any_append,h,Bool.false_or]
 simp[hx]
set_option maxHeartbeats 1000000 in
theorem w2c {h:DHeap} {t:Txn} {vc va vr vw:Value} (hc:Arg fU8.rep h vc t.code) (ha:Arg fI64.rep h va t.args) (hr:Arg fKey.rep h vr t.reads) (hw:Arg fKey.rep h vw t.writes) (hl:t.code.length≤1048576) (hby:∀ j,0≤t.code.getD j 0∧t.code.getD j 0≤255) :
 DC Try.prog 38 [Wq t.ses t.req vc va vr vw] h (.ret (.int .i64 (v2a t))) h:=by
 refine Ct.pure (v3d (by simp) ?_) (Y0a _ _)
 have hvc:=hc.cells1
 have hva:=ha.cells1
 have hvr:=hr.cells1
 have hvw:=hw.cells1
 obtain ⟨H,hH⟩:∃ H,H=h.push (.row [.int .i64 t.ses,.int .i64 t.req,vc,va,vr,vw] 0 false):=⟨_,rfl⟩
 have hE:Ext h H:=by rw[hH];exact Ext.push1 _ _
 have g:H.get h.next=some (.row [.int .i64 t.ses,.int .i64 t.req,vc,va,vr,vw] 0 false):=by rw[hH];exact Zz _ _
 have hHn:H.next=h.next+1:=by rw[hH];rfl
 have LT:∀ K,Ext H K→TxnAt K h.next t vc va vr vw:=fun K e=>TxnAt.of ((e.get _ (by omega)).trans g)
 have L0:=LT H (.refl _)
 have ea:∀ K,dLen Try.prog #[23] va K=some (.int .i64 (t.args.length:Nat)):=ha.lens (P:=Try.prog) (ts:=#[23]) (t:=23) rfl x6a
 have er:∀ K,dLen Try.prog #[24] vr K=some (.int .i64 (t.reads.length:Nat)):=hr.lens (P:=Try.prog) (ts:=#[24]) (t:=24) rfl R2a
 have ew:∀ K,dLen Try.prog #[24] vw K=some (.int .i64 (t.writes.length:Nat)):=hw.lens (P:=Try.prog) (ts:=#[24]) (t:=24) rfl R2a
 by_cases p1:t.ses<1∨1099511627776<t.ses∨t.req<1∨1099511627776<t.req
 ·have hT:v2a t=1:=by rw[v2a,if_pos p1]
  by_cases q1:t.ses<1
  ·have q1':=eq_true q1
   simp -implicitDefEqProofs (disch:=first|omega|simp only[go_sem]) only[go_sem,true_and,c38,← hH,L0.c0,L0.c1,q1',Yy,Yq]
   exact ⟨_,rfl,by rw[hT],hE⟩
  by_cases q2:1099511627776<t.ses
  ·have q2':=eq_true q2
   simp -implicitDefEqProofs (disch:=first|omega|simp only[go_sem]) only[go_sem,true_and,c38,← hH,L0.c0,L0.c1,q1,q2',Yy,Yq]
   exact ⟨_,rfl,by rw[hT],hE⟩
  by_cases q3:t.req<1
  ·have q3':=eq_true q3
   simp -implicitDefEqProofs (disch:=first|omega|simp only[go_sem]) only[go_sem,true_and,c38,← hH,L0.c0,L0.c1,q1,q2,q3',Yy,Yq]
   exact ⟨_,rfl,by rw[hT],hE⟩
  have q4:1099511627776<t.req:=by omega
  have q4':=eq_true q4
  simp -implicitDefEqProofs (disch:=first|omega|simp only[go_sem]) only[go_sem,true_and,c38,← hH,L0.c0,L0.c1,q1,q2,q3,q4',Yy,Yq]
  exact ⟨_,rfl,by rw[hT],hE⟩
 have q1:¬ t.ses<1:=fun hh=>p1 (.inl hh)
 have q2:¬ 1099511627776<t.ses:=fun hh=>p1 (.inr (.inl hh))
 have q3:¬ t.req<1:=fun hh=>p1 (.inr (.inr (.inl hh)))
 have q4:¬ 1099511627776<t.req:=fun hh=>p1 (.inr (.inr (.inr hh)))
 by_cases p2:8<t.args.length∨16<t.reads.length∨16<t.writes.length
 ·have hT:v2a t=3:=by rw[v2a,if_neg p1,if_pos p2]
  by_cases r1:(8:Int)<(t.args.length:Nat)
  ·have r1':=eq_true r1
   simp -implicitDefEqProofs (disch:=first|omega|simp only[go_sem]) only[go_sem,true_and,c38,← hH,L0.c0,L0.c1,L0.c3,L0.c4,L0.c5,ea,er,ew,q1,q2,q3,q4,r1',Yy,Yq]
   exact ⟨_,rfl,by rw[hT],hE⟩
  by_cases r2:(16:Int)<(t.reads.length:Nat)
  ·have r2':=eq_true r2
   simp -implicitDefEqProofs (disch:=first|omega|simp only[go_sem]) only[go_sem,true_and,c38,← hH,L0.c0,L0.c1,L0.c3,L0.c4,L0.c5,ea,er,ew,q1,q2,q3,q4,r1,r2',Yy,Yq]
   exact ⟨_,rfl,by rw[hT],hE⟩
  have r3:(16:Int)<(t.writes.length:Nat):=by omega
  have r3':=eq_true r3
  simp -implicitDefEqProofs (disch:=first|omega|simp only[go_sem]) only[go_sem,true_and,c38,← hH,L0.c0,L0.c1,L0.c3,L0.c4,L0.c5,ea,er,ew,q1,q2,q3,q4,r1,r2,r3',Yy,Yq]
  exact ⟨_,rfl,by rw[hT],hE⟩
 have r1:¬ (8:Int)<(t.args.length:Nat):=by omega
 have r2:¬ (16:Int)<(t.reads.length:Nat):=by omega
 have r3:¬ (16:Int)<(t.writes.length:Nat):=by omega
 simp -implicitDefEqProofs (disch:=first|omega|simp only[go_sem]) only[go_sem,true_and,c38,← hH,L0.c0,L0.c1,L0.c3,L0.c4,L0.c5,ea,er,ew,q1,q2,q3,q4,r1,r2,r3,Yy,Yq]
 refine YQ (J6b (hr.ext hE) (by omega)) ?_
 cases u1:C2a YJ t.reads with
 | false=>
   have hT:v2a t=1:=by rw[v2a,if_neg p1,if_neg p2,if_pos (.inl u1)]
   simp -implicitDefEqProofs (disch:=first|omega|simp only[go_sem]) only[go_sem,true_and,Yy,Yq]
   exact ⟨_,rfl,by rw[hT],hE⟩
 | true=>
 simp -implicitDefEqProofs (disch:=first|omega|simp only[go_sem]) only[go_sem,true_and,L0.c5]
 refine YQ (J6b (hw.ext hE) (by omega)) ?_
 cases u2:C2a YJ t.writes with
 | false=>
   have hT:v2a t=1:=by rw[v2a,if_neg p1,if_neg p2,if_pos (.inr u2)]
   simp -implicitDefEqProofs (disch:=first|omega|simp only[go_sem]) only[go_sem,true_and,Yy,Yq]
   exact ⟨_,rfl,by rw[hT],hE⟩
 | true=>
 have hT:v2a t=if P2a t.code≠0 then P2a t.code else if (WX t.code).any (v1a t) then 132 else 0:=by rw[v2a,if_neg p1,if_neg p2,if_neg (by simp[u1,u2])]
 simp -implicitDefEqProofs (disch:=first|omega|simp only[go_sem]) only[go_sem,true_and,Yy,Yq,L0.c2]
 refine Yv (T3b (hc.ext hE) hl) ?_
 rintro r h1 ⟨w,rfl,hE1,hxs⟩
 have L1:=LT h1 hE1
 by_cases he:P2a t.code=0
 case neg=>
  rw[if_pos he]at hT
  simp -implicitDefEqProofs (disch:=first|omega|simp only[go_sem]) only[go_sem,true_and,Xx,he]
  exact ⟨_,rfl,by rw[hT],hE.trans hE1⟩
 have he':=eq_true he
 rw[if_neg (fun hh=>hh he)]at hT
 obtain ⟨xs,hx⟩:∃ xs,WX t.code=xs:=⟨_,rfl⟩
 rw[hx]at hxs hT
 have elw:∀ K,dLen Try.prog #[99] w K=some (.int .i64 (xs.length:Nat)):=hxs.lens (P:=Try.prog) (ts:=#[99]) (t:=99) rfl r4b
 have hxl:xs.length≤1048576:=by
  rw[← hx]
  rw[WX,if_pos he]
  have:=m5a (l:=t.code) (n:=t.code.length) (i:=0) (by omega)
  omega
 simp -implicitDefEqProofs (disch:=first|omega|simp only[go_sem]) only[go_sem,true_and,Xx,he',elw]
 have himm:=f3c hby
 rw[hx]at himm
 refine XU (σ:=Nat) (by kernel_rfl) (fun i s=>s.df=[]∧s.rd=none∧Ext h1 s.h∧s.fr 1=some (.pointer (some ⟨h.next,0,none⟩))∧s.fr 64=some w∧s.fr 65=some (.int .i64 (xs.length:Nat))∧s.fr 66=some (.int .i64 (i:Nat))∧i≤xs.length∧(xs.take i).any (v1a t)=false) (fun i=>xs.length - i) 0 ?_ ?_
 ·simp -implicitDefEqProofs (disch:=first|omega|simp only[go_sem]) only[go_sem,true_and]
  exact ⟨.refl _,rfl,Nat.zero_le _,rfl⟩
 ·rintro i ⟨fr,df,K,rd⟩ K' hK' hX ⟨hdf,hrd,hEK,f1,f64,f65,f66,hi,hn⟩
  simp only at hdf hrd hEK f1 f64 f65 f66
  subst hdf hrd
  simp -implicitDefEqProofs (disch:=first|omega|simp only[go_sem]) only[go_sem,true_and,f65,f66]
  refine j0a (fun hc1=>?_) (fun hc1=>?_)
  ·have hj:i<xs.length:=by omega
   obtain ⟨id,o,g',c5,_,_,_⟩:=Q7a (hxs.ext hEK) hj
   have hw1:=YZ hj (by omega)
   have hmem:=List.getElem_mem hj
   have him:=himm _ hmem
   have hsucc:=fun hx=>f2c (t:=t) hj hn hx
   have hbad:∀ hb:v1a t xs[i]=true,xs.any (v1a t)=true:=fun hb=>List.any_eq_true.2 ⟨_,hmem,hb⟩
   obtain ⟨x,hxi⟩:∃ x,xs[i]=x:=⟨_,rfl⟩
   rw[hxi]at c5 hsucc hbad him
   obtain ⟨K1,hK1⟩:∃ K1,K1=K.push (.row (fInstr.enc x) 0 false):=⟨_,rfl⟩
   have g1:K1.get K.next=some (.row (fInstr.enc x) 0 false):=by rw[hK1];exact Zz _ _
   have p1':ZZ K1 K.next 1=some (.int .i64 x.op):=Zy g1
   have p4:ZZ K1 K.next 4=some (.int .i64 x.imm):=Zy g1
   have s5:=F6a (h:=K) (x:=x)
   rw[← hK1]at s5
   have hEK1:Ext h1 K1:=hEK.trans (by rw[hK1];exact Ext.push1 _ _)
   have L2:=LT K1 (hE1.trans hEK1)
   have good:∀ {s:St},s.df=[]→s.rd=none→s.h=K1→s.fr 1=some (.pointer (some ⟨h.next,0,none⟩))→s.fr 64=some w→s.fr 65=some (.int .i64 (xs.length:Nat))→s.fr 66=some (.int .i64 ((i+1:Nat):Int))→v1a t x=false→K' .normal s:=fun a r b c d e g f=>
    hK' (i+1) _ ⟨a,r,b▸hEK1,c,d,e,g,by omega,hsucc f⟩ (by omega)
   have bad:v1a t x=true→∃ v,some (Value.int .i64 132)=some v∧DEnd.ret v=.ret (.int .i64 (v2a t))∧Ext h K1:=fun hb=>by
    rw[hbad hb,if_pos rfl]at hT
    exact ⟨_,rfl,by rw[hT],(hE.trans hE1).trans hEK1⟩
   by_cases n3:x.op=3
   ·have o':=eq_true n3
    have hb:v1a t x=decide ((t.reads.length:Int)≤x.imm):=by simp[v1a,n3]
    by_cases hm:(t.reads.length:Int)≤x.imm
    ·have hm':=eq_true hm
     simp -implicitDefEqProofs (disch:=first|omega|simp only[go_sem]) only[go_sem,true_and,f1,f64,f66,g',c5,s5,p1',p4,L2.c4,er,o',hm']
     refine hX _ _ (by simp) ?_
     simp -implicitDefEqProofs (disch:=first|omega|simp only[go_sem]) only[go_sem,true_and]
     exact bad (by rw[hb,decide_eq_true hm])
    ·simp -implicitDefEqProofs (disch:=first|omega|simp only[go_sem]) only[go_sem,true_and,f1,f64,f66,g',c5,s5,p1',p4,L2.c4,er,o',hm,hw1]
     exact good rfl rfl rfl (vy f1) (vy f64) (vy f65) vz (by rw[hb,decide_eq_false hm])
   by_cases n4:x.op=4
   ·have o':=eq_true n4
    have hb:v1a t x=decide ((t.reads.length:Int)≤x.imm):=by simp[v1a,n3,n4]
    by_cases hm:(t.reads.length:Int)≤x.imm
    ·have hm':=eq_true hm
     simp -implicitDefEqProofs (disch:=first|omega|simp only[go_sem]) only[go_sem,true_and,f1,f64,f66,g',c5,s5,p1',p4,L2.c4,er,n3,o',hm']
     refine hX _ _ (by simp) ?_
     simp -implicitDefEqProofs (disch:=first|omega|simp only[go_sem]) only[go_sem,true_and]
     exact bad (by rw[hb,decide_eq_true hm])
    ·simp -implicitDefEqProofs (disch:=first|omega|simp only[go_sem]) only[go_sem,true_and,f1,f64,f66,g',c5,s5,p1',p4,L2.c4,er,n3,o',hm,hw1]
     exact good rfl rfl rfl (vy f1) (vy f64) (vy f65) vz (by rw[hb,decide_eq_false hm])
   by_cases n5:x.op=5
   ·have o':=eq_true n5
    have hb:v1a t x=decide ((t.writes.length:Int)≤x.imm):=by simp[v1a,n3,n4,n5]
    by_cases hm:(t.writes.length:Int)≤x.imm
    ·have hm':=eq_true hm
     simp -implicitDefEqProofs (disch:=first|omega|simp only[go_sem]) only[go_sem,true_and,f1,f64,f66,g',c5,s5,p1',p4,L2.c5,ew,n3,n4,o',hm']
     refine hX _ _ (by simp) ?_
     simp -implicitDefEqProofs (disch:=first|omega|simp only[go_sem]) only[go_sem,true_and]
     exact bad (by rw[hb,decide_eq_true hm])
    ·simp -implicitDefEqProofs (disch:=first|omega|simp only[go_sem]) only[go_sem,true_and,f1,f64,f66,g',c5,s5,p1',p4,L2.c5,ew,n3,n4,o',hm,hw1]
     exact good rfl rfl rfl (vy f1) (vy f64) (vy f65) vz (by rw[hb,decide_eq_false hm])
   by_cases n6:x.op=6
   ·have o':=eq_true n6
    have hb:v1a t x=decide ((t.writes.length:Int)≤x.imm):=by simp[v1a,n3,n4,n5,n6]
    by_cases hm:(t.writes.length:Int)≤x.imm
    ·have hm':=eq_true hm
     simp -implicitDefEqProofs (disch:=first|omega|simp only[go_sem]) only[go_sem,true_and,f1,f64,f66,g',c5,s5,p1',p4,L2.c5,ew,n3,n4,n5,o',hm']
     refine hX _ _ (by simp) ?_
     simp -implicitDefEqProofs (disch:=first|omega|simp only[go_sem]) only[go_sem,true_and]
     exact bad (by rw[hb,decide_eq_true hm])
    ·simp -implicitDefEqProofs (disch:=first|omega|simp only[go_sem]) only[go_sem,true_and,f1,f64,f66,g',c5,s5,p1',p4,L2.c5,ew,n3,n4,n5,o',hm,hw1]
     exact good rfl rfl rfl (vy f1) (vy f64) (vy f65) vz (by rw[hb,decide_eq_false hm])
   by_cases n2:x.op=2
   ·have o':=eq_true n2
    have hb:v1a t x=decide ((t.args.length:Int)≤x.imm):=by simp[v1a,n3,n4,n5,n6,n2]
    by_cases hm:(t.args.length:Int)≤x.imm
    ·have hm':=eq_true hm
     simp -implicitDefEqProofs (disch:=first|omega|simp only[go_sem]) only[go_sem,true_and,f1,f64,f66,g',c5,s5,p1',p4,L2.c3,ea,n3,n4,n5,n6,o',hm']
     refine hX _ _ (by simp) ?_
     simp -implicitDefEqProofs (disch:=first|omega|simp only[go_sem]) only[go_sem,true_and]
     exact bad (by rw[hb,decide_eq_true hm])
    ·simp -implicitDefEqProofs (disch:=first|omega|simp only[go_sem]) only[go_sem,true_and,f1,f64,f66,g',c5,s5,p1',p4,L2.c3,ea,n3,n4,n5,n6,o',hm,hw1]
     exact good rfl rfl rfl (vy f1) (vy f64) (vy f65) vz (by rw[hb,decide_eq_false hm])
   have hb:v1a t x=false:=by simp[v1a,n3,n4,n5,n6,n2]
   have hm:¬ 1048576≤x.imm:=by omega
   simp -implicitDefEqProofs (disch:=first|omega|simp only[go_sem]) only[go_sem,true_and,f1,f64,f66,g',c5,s5,p1',p4,n3,n4,n5,n6,n2,hm,hw1]
   exact good rfl rfl rfl (vy f1) (vy f64) (vy f65) vz hb
  ·obtain rfl:i=xs.length:=by omega
   rw[List.take_length]at hn
   rw[hn]at hT
   refine hX _ _ (by simp) ?_
   simp -implicitDefEqProofs (disch:=first|omega|simp only[go_sem]) only[go_sem,true_and]
   exact ⟨_,rfl,by rw[hT];rfl,(hE.trans hE1).trans hEK⟩
theorem m7b {h:DHeap} {b:Value} {l:List Int} (hb:Arg fI64.rep h b l) (hl:l.length≤4294967296):DC Try.prog 31 [b] h (.ret (T3a h b l)) (O2a fI64 h b l):=by
 refine Ct.cloned hb (o3d (by simp) ?_)
 simp -implicitDefEqProofs (disch:=first|omega|simp only[go_sem]) only[go_sem,c31,hb.nilEq x6a]
 refine B3a (fun hn=>?_) (fun hn=>?_)
 ·simp -implicitDefEqProofs (disch:=first|omega|simp only[go_sem]) only[go_sem]
  obtain ⟨_,rfl⟩:=d3a hb hn
  exact ⟨_,rfl,_,rfl,.nil _ (.refl h),hn.symm⟩
 ·have m0:Made fI64 h (h.push (.row [] 1 false)) (.slice (some ⟨h.next,0,none⟩) 0 0) []:=.none0 fI64 (.refl h) rfl
  obtain ⟨v2,h2,e2,m2,k2⟩:=m0.append c3b (hb.ext (Ext.push1 _ _)) (by simpa using hl) (by decide)
  simp -implicitDefEqProofs (disch:=first|omega|simp only[go_sem]) only[go_sem,e2]
  exact ⟨_,rfl,_,rfl,m2,(m0.isNil_append rfl m2 fun hk=>(k2 hk).1).trans hn.symm⟩
theorem n7b {h:DHeap} {b:Value} {l:List Key} (hb:Arg fKey.rep h b l) (hl:l.length≤4294967296):DC Try.prog 78 [b] h (.ret (T3a h b l)) (O2a fKey h b l):=by
 refine Ct.cloned hb (Y3d (by simp) ?_)
 simp -implicitDefEqProofs (disch:=first|omega|simp only[go_sem]) only[go_sem,c78,hb.nilEq R2a]
 refine B3a (fun hn=>?_) (fun hn=>?_)
 ·simp -implicitDefEqProofs (disch:=first|omega|simp only[go_sem]) only[go_sem]
  obtain ⟨_,rfl⟩:=d3a hb hn
  exact ⟨_,rfl,_,rfl,.nil _ (.refl h),hn.symm⟩
 ·have m0:Made fKey h (h.push (.row [] 2 false)) (.slice (some ⟨h.next,0,none⟩) 0 0) []:=.none0 fKey (.refl h) rfl
  obtain ⟨v2,h2,e2,m2,k2⟩:=m0.append d3b (hb.ext (Ext.push1 _ _)) (by simpa using hl) (by decide)
  simp -implicitDefEqProofs (disch:=first|omega|simp only[go_sem]) only[go_sem,e2]
  exact ⟨_,rfl,_,rfl,m2,(m0.isNil_append rfl m2 fun hk=>(k2 hk).1).trans hn.symm⟩
structure TxV (S:Nat→Prop) (h:DHeap) (t:Txn) (vc va vr vw:Value):Prop where
 c:Sl fU8.rep S h vc t.code
 a:Sl fI64.rep S h va t.args
 r:Sl fKey.rep S h vr t.reads
 w:Sl fKey.rep S h vw t.writes
theorem TxV.mono {S S':Nat→Prop} {h h':DHeap} {t:Txn} {vc va vr vw:Value} (x:TxV S h t vc va vr vw) (m:∀ i,S i→S' i∧h'.get i=h.get i):TxV S' h' t vc va vr vw:=
 ⟨x.c.mono m,x.a.mono m,x.r.mono m,x.w.mono m⟩
structure Q3a (t:Txn):Prop where
 c:t.code.length≤1048576
 a:t.args.length≤1048576
 r:t.reads.length≤1048576
 w:t.writes.length≤1048576
abbrev InH (h:DHeap):Nat→Prop:=fun i=>i<h.next
abbrev I6a (h h1:DHeap):Nat→Prop:=fun i=>h.next≤i∧i<h1.next
theorem TxV.ext {h h1:DHeap} {t:Txn} {vc va vr vw:Value} (x:TxV (InH h) h t vc va vr vw) (e:Ext h h1):TxV (InH h1) h1 t vc va vr vw:=
 x.mono fun i hi=>⟨Nat.lt_of_lt_of_le hi e.next,e.get i hi⟩
theorem TxV.one {S:Nat→Prop} {h:DHeap} {t:Txn} {vc va vr vw:Value} (x:TxV S h t vc va vr vw) (a b:Int):[.int .i64 a,.int .i64 b,vc,va,vr,vw].all Value.oneCell'=true:=by
 obtain ⟨_,_,rfl⟩:=x.c.isSlice
 obtain ⟨_,_,rfl⟩:=x.a.isSlice
 obtain ⟨_,_,rfl⟩:=x.r.isSlice
 obtain ⟨_,_,rfl⟩:=x.w.isSlice
 rfl
theorem H8b {K:DHeap} {id o z:Nat} {R R':List Value} {v:Value} (hv:v.cells=#[v]) (hone:[v].all Value.oneCell'=true) (ho:o+1≤R.length) (hR:R.set o v=R') (g:K.get id=some (.row R z false)):storeAt K id o [v]=some (K.set id (.row R' z false)):=by
 subst hR
 exact b0a g ho hone
theorem A0d {α:Type} {R:Rep α} {S:Nat→Prop} {h:DHeap} {v:Value} {l:List α} (x:Sl R S h v l):[v].all Value.oneCell'=true:=by obtain ⟨_,_,rfl⟩:=x.isSlice;rfl
def Wrt (h:DHeap) (i:Nat):Prop:=∃ cs z,h.get i=some (.row cs z false)
theorem h7a {α:Type} {R:Rep α} {S S':Nat→Prop} {h h':DHeap} {v:Value} {l:List α} (x:Sl R (fun i=>S i∧Wrt h i) h v l) (m:∀ i,S i→S' i∧h'.get i=h.get i):Sl R (fun i=>S' i∧Wrt h' i) h' v l:=
 x.mono fun i hi=>by
  obtain ⟨a,b⟩:=m i hi.1
  obtain ⟨cs,z,g⟩:=hi.2
  exact ⟨⟨a,cs,z,b.trans g⟩,b⟩
def TxW (S:Nat→Prop) (h:DHeap) (t:Txn) (vc va vr vw:Value):Prop:=TxV (fun i=>S i∧Wrt h i) h t vc va vr vw
theorem TxW.v {S:Nat→Prop} {h:DHeap} {t:Txn} {vc va vr vw:Value} (x:TxW S h t vc va vr vw):TxV S h t vc va vr vw:=TxV.mono x fun _ hi=>⟨hi.1,rfl⟩
theorem TxW.mono {S S':Nat→Prop} {h h':DHeap} {t:Txn} {vc va vr vw:Value} (x:TxW S h t vc va vr vw) (m:∀ i,S i→S' i∧h'.get i=h.get i):TxW S' h' t vc va vr vw:=
 ⟨h7a x.c m,h7a x.a m,h7a x.r m,h7a x.w m⟩
theorem t0c {P:Program} {t:TypeId} {s:ByteArray} (ht:P.underlying t=some .string) (hs:s[0]? = some 0):G4a P t (.string s) (.int .u8 (IntKind.u8.wrap 0))=some (.int .u8 0):=by
 rw[show IntKind.u8.wrap 0=0 by decide]
 unfold G4a
 rw[ht]
 simp only[Int.le_refl,if_true,Int.toNat_zero,hs]
 rfl
theorem j8c {h:DHeap}:DC Try.prog 73 [.int .u64 0] h (.ret (.int .i64 0)) h:=by
 refine Ct.pure (T3d (by simp) ?_) (Y0a _ _)
 simp -implicitDefEqProofs (disch:=first|omega|simp only[go_sem]) only[go_sem,true_and,c73]
 rw[t0c (by kernel_rfl) (by kernel_rfl)]
 simp -implicitDefEqProofs (disch:=first|omega|simp only[go_sem]) only[go_sem,true_and]
 exact ⟨_,rfl,congrArg (fun z=>DEnd.ret (Value.int IntKind.i64 z)) (by decide),.refl _⟩
theorem v4d {h:DHeap}:DC Try.prog 45 [.int .u64 0] h (.ret (.int .i64 0)) h:=by
 refine Ct.pure (C3d (by simp) ?_) (Y0a _ _)
 simp -implicitDefEqProofs (disch:=first|omega|simp only[go_sem]) only[go_sem,true_and,c45]
 refine YQ j8c ?_
 simp -implicitDefEqProofs (disch:=first|omega|simp only[go_sem]) only[go_sem,true_and]
 exact ⟨_,rfl,rfl,.refl _⟩
theorem z5b {h:DHeap} {v:Value} {g:Value}:Ct Try.prog 64 [v,.int .i64 0,.int .i64 0,g] h fun r h1=>r=.ret (.tuple #[])∧h1=h:=by
 refine S3d (by simp) ?_
 simp -implicitDefEqProofs (disch:=first|omega|simp only[go_sem]) only[go_sem,true_and,c64]
 refine XU (σ:=Nat) (by kernel_rfl) (fun j s=>s.df=[]∧s.h=h∧s.fr 2=some (.int .i64 0)∧s.fr 8=some (.int .i64 1)) (fun j=>0) 0 ?_ ?_
 ·simp -implicitDefEqProofs (disch:=first|omega|simp only[go_sem]) only[go_sem,true_and]
  exact congrArg some (congrArg (Value.int IntKind.i64) (by decide))
 ·rintro i ⟨fr,df,K,rd⟩ K' hK' hX ⟨rfl,rfl,f2,f8⟩
  simp only at f2 f8
  simp -implicitDefEqProofs (disch:=first|omega|simp only[go_sem]) only[go_sem,true_and,f2,f8]
  refine hX _ _ (by simp) ?_
  simp -implicitDefEqProofs (disch:=first|omega|simp only[go_sem]) only[go_sem,true_and]
  exact ⟨_,rfl,rfl,trivial⟩
theorem A4d {h:DHeap} {v g x:Value}:Ct Try.prog 44 [v,.int .i64 0,.int .i64 0,x,g] h fun r h1=>r=.ret (.tuple #[])∧h1=h:=by
 refine B3d (by simp) ?_
 have e0:IntKind.i64.wrap (0 - 0)=0:=by decide
 simp -implicitDefEqProofs (disch:=first|omega|simp only[go_sem]) only[go_sem,true_and,c44]
 refine XU (σ:=Nat) (by kernel_rfl) (fun j s=>s.df=[]∧s.rd=none∧s.h=h∧s.fr 0=some v∧s.fr 1=some (.int .i64 0)∧s.fr 2=some (.int .i64 0)∧s.fr 4=some g) (fun j=>0) 0 ?_ ?_
 ·simp -implicitDefEqProofs (disch:=first|omega|simp only[go_sem]) only[go_sem,true_and]
 ·rintro i ⟨fr,df,K,rd⟩ K' hK' hX ⟨rfl,rfl,rfl,f0,f1,f2,f4⟩
  simp only at f0 f1 f2 f4
  simp -implicitDefEqProofs (disch:=first|omega|simp only[go_sem]) only[go_sem,true_and,f0,f1,f2,f4,e0]
  refine Yv z5b ?_
  rintro r h1 ⟨rfl,rfl⟩
  simp -implicitDefEqProofs (disch:=first|omega|simp only[go_sem]) only[go_sem,true_and,Xx]
  refine hX _ _ (by simp) ?_
  simp -implicitDefEqProofs (disch:=first|omega|simp only[go_sem]) only[go_sem,true_and]
  exact ⟨_,rfl,rfl,trivial⟩
theorem B1c {h:DHeap} {v:Value} {g:Value} (hb:Arg fKey.rep h v []):Ct Try.prog 33 [v,g] h fun r h1=>r=.ret (.tuple #[])∧h1=h:=by
 refine q3d (by simp) ?_
 have el:∀ K,dLen Try.prog #[24] v K=some (.int .i64 ((([]:List Key).length:Nat):Int)):=hb.lens (P:=Try.prog) (ts:=#[24]) (t:=24) rfl R2a
 have e0:IntKind.u64.wrap ((0:Nat):Int)=0:=by decide
 simp -implicitDefEqProofs (disch:=first|omega|simp only[go_sem]) only[go_sem,true_and,c33,el,List.length_nil,e0]
 refine YQ v4d ?_
 simp -implicitDefEqProofs (disch:=first|omega|simp only[go_sem]) only[go_sem,true_and]
 refine Yv A4d ?_
 rintro r h1 ⟨rfl,rfl⟩
 simp -implicitDefEqProofs (disch:=first|omega|simp only[go_sem]) only[go_sem,true_and,Xx]
 exact ⟨_,rfl,rfl,trivial⟩
theorem t4b:Lays Try.prog 24 (rSl fKey.rep) (Wy fun _=>2):=.slice (e:=34) (by kernel_rfl) (by kernel_rfl) (by decide) i8c
def O0a (x:Txn):Nat:=2+(Wy (fun _=>1) x.code+(Wy (fun _=>1) x.args+(Wy (fun _=>2) x.reads+Wy (fun _=>2) x.writes)))
abbrev h1d:List (Nat × Nat):=[(2,0),(2,1),(22,2),(23,3),(24,4),(24,5)]
theorem B6b:Lays Try.prog 26 rTxn O0a:=
 (Lays.of (l:=h1d) (by kernel_rfl) (by kernel_rfl) (.cons z6a (.cons z6a (.cons K0c (.cons D3c (.cons t4b (.one t4b))))))).conv (Q:=rTxn) rfl (fun x=>⟨x.1,x.2.1,x.2.2.1,x.2.2.2.1,x.2.2.2.2.1,x.2.2.2.2.2⟩) (fun _ _ _ _ h=>h)
   (fun x=>by simp only[O0a];omega)
theorem u8c:Par Try.prog 26 true:=u8b (l:=h1d) (by kernel_rfl)
theorem H1c {S:Nat→Prop} {h:DHeap} {cs:List Value} {x:Txn} (a:rTxn.rd S h cs x):∃ vc va vr vw,cs=[.int .i64 x.ses,.int .i64 x.req,vc,va,vr,vw]∧inK .i64 x.ses∧inK .i64 x.req∧TxV S h x vc va vr vw:=by
 obtain ⟨_,_,rfl,⟨rfl,k1⟩,_,_,rfl,⟨rfl,k2⟩,_,_,rfl,⟨vc,rfl,h1⟩,_,_,rfl,⟨va,rfl,h2⟩,_,_,rfl,⟨vr,rfl,h3⟩,vw,rfl,h4⟩:=a
 exact ⟨vc,va,vr,vw,rfl,k1,k2,h1,h2,h3,h4⟩
theorem t2c (x:Txn):x.code.length≤O0a x∧x.args.length≤O0a x∧x.reads.length≤O0a x∧x.writes.length≤O0a x:=by
 have h1:=s4a (fun _=>1) x.code
 have h2:=s4a (fun _=>1) x.args
 have h3:=s4a (fun _=>2) x.reads
 have h4:=s4a (fun _=>2) x.writes
 have hb:O0a x=2+(Wy (fun _=>1) x.code+(Wy (fun _=>1) x.args+(Wy (fun _=>2) x.reads+Wy (fun _=>2) x.writes))):=rfl
 omega
theorem P6b {x:Txn} (h:O0a x≤1048576):Q3a x:=by
 have:=t2c x
 exact ⟨by omega,by omega,by omega,by omega⟩
end Go.Proofs.Ytheamfnbfgiaeaa
namespace Go.D
variable {P:Program} {nt:Nat}
structure KeyOf (P:Program) (kt:TypeId) {κ:Type} (enc:κ→Value):Prop where
 flat:∀ k,Yk (enc k)=true
 inj:∀ a b,enc a=enc b→a=b
 chk:∀ (b:Bool) k,∃ u,ZW P (Instr.checkKey b 10000 kt (enc k))=some (.inr u)
 bits:∀ k,Instr.sameBits 10000 (enc k) (enc k)=true
 find:∀ k (es:List MapEntry),(∀ e∈es,∃ a,e.key=enc a)→∃ r,H1a P kt (enc k) es=some r∧(∀ i,r=some i→∃ e,es[i]? = some e∧e.key=enc k)∧(r=none→∀ e∈es,e.key≠enc k)
theorem N7a {k:IntKind} {n:Int}:∀ {es:List MapEntry} {i:Nat},(∀ e∈es,∃ m,e.key=.int k m) →
 (∃ j v,Instr.findNow (.int k) (.int k n) es i=some (some (j,v))∧i≤j∧∃ e,es[j - i]? = some e∧e.key=.int k n)∨(Instr.findNow (.int k) (.int k n) es i=some none∧∀ e∈es,e.key≠.int k n)
 | [],i,_=>.inr ⟨rfl,fun e he=>by simp at he⟩
 | e :: es,i,h=>by
   obtain ⟨m,h1⟩:=h e (by simp)
   have ih:=N7a (k:=k) (n:=n) (es:=es) (i:=i+1) fun e he=>h e (by simp[he])
   simp only[Instr.findNow,h1,Instr.sameNow,if_true]
   by_cases hm:n=m
   ·subst hm
    refine .inl ⟨i,e.val,by simp,Nat.le_refl _,e,by simp,h1⟩
   ·have:(n==m)=false:=by simpa using hm
    rw[this]
    rcases ih with ⟨j,v,a,b,e',c,d⟩ | ⟨a,b⟩
    ·exact .inl ⟨j,v,a,by omega,e',by rw[show j - i=(j - (i+1))+1 by omega];exact c,d⟩
    ·refine .inr ⟨a,fun e' he=>?_⟩
     rcases List.mem_cons.1 he with rfl | he
     ·rw[h1]
      intro hh
      cases hh
      exact hm rfl
     ·exact b e' he
theorem KeyOf.int {kt:TypeId} {k:IntKind} (hu:P.underlying kt=some (.int k)):KeyOf P kt (fun n:Int=>Value.int k n) where
 flat _:=rfl
 inj a b h:=by cases h;rfl
 chk b n:=u5a hu b n
 bits n:=f8a 9999
 find n es h:=by
  unfold H1a
  rw[hu]
  rcases N7a (n:=n) (i:=0) h with ⟨j,v,a,_,e,c,d⟩ | ⟨a,b⟩
  ·exact ⟨some j,by simp only[a];rfl,fun i hi=>(by cases hi;exact ⟨e,c,d⟩),fun h=>by cases h⟩
  ·exact ⟨none,by simp only[a];rfl,fun i hi=>(by cases hi),fun _=>b⟩
theorem A1b {kt:TypeId} {κ:Type} [DecidableEq κ] {enc:κ→Value} (heq:∀ a b,ZW P (Op.equal kt (enc a) (enc b))=some (.inr (decide (a=b)))) (inj:∀ a b,enc a=enc b→a=b) {k:κ}:∀ {es:List MapEntry} {i:Nat},(∀ e∈es,∃ a,e.key=enc a) →
 (∃ j,y5a P kt (enc k) es i=some (some j)∧i≤j∧∃ e,es[j - i]? = some e∧e.key=enc k)∨(y5a P kt (enc k) es i=some none∧∀ e∈es,e.key≠enc k)
 | [],i,_=>.inr ⟨rfl,fun e he=>by simp at he⟩
 | e :: es,i,h=>by
   obtain ⟨m,h1⟩:=h e (by simp)
   have ih:=A1b heq inj (k:=k) (es:=es) (i:=i+1) fun e he=>h e (by simp[he])
   unfold y5a
   rw[h1,heq]
   by_cases hm:k=m
   ·subst hm
    rw[decide_eq_true rfl]
    exact .inl ⟨i,rfl,Nat.le_refl _,e,by simp,h1⟩
   ·rw[decide_eq_false hm]
    rcases ih with ⟨j,a,b,e',c,d⟩ | ⟨a,b⟩
    ·exact .inl ⟨j,a,by omega,e',by rw[show j - i=(j - (i+1))+1 by omega];exact c,d⟩
    ·refine .inr ⟨a,fun e' he=>?_⟩
     rcases List.mem_cons.1 he with rfl | he
     ·rw[h1]
      exact fun hh=>hm (inj _ _ hh).symm
     ·exact b e' he
theorem KeyOf.eq {kt:TypeId} {κ:Type} [DecidableEq κ] {enc:κ→Value} {d:TypeDesc} (hu:P.underlying kt=some d) (flat:∀ k,Yk (enc k)=true) (inj:∀ a b,enc a=enc b→a=b) (chk:∀ (b:Bool) k,∃ u,ZW P (Instr.checkKey b 10000 kt (enc k))=some (.inr u)) (bits:∀ k,Instr.sameBits 10000 (enc k) (enc k)=true)
 (hnow:∀ a b,Instr.sameNow d (enc a) (enc b)=none) (heq:∀ a b,ZW P (Op.equal kt (enc a) (enc b))=some (.inr (decide (a=b)))):KeyOf P kt enc where
 flat:=flat
 inj:=inj
 chk:=chk
 bits:=bits
 find k es h:=by
  unfold H1a
  rw[hu]
  cases es with
  | nil=>exact ⟨none,rfl,fun i hi=>(by cases hi),fun _ e he=>by cases he⟩
  | cons e es=>
    obtain ⟨m,h1⟩:=h e (by simp)
    have:Instr.findNow d (enc k) (e :: es) 0=none:=by simp only[Instr.findNow,h1,hnow]
    simp only[this]
    rcases A1b heq inj (k:=k) (i:=0) h with ⟨j,a,_,e',c,q⟩ | ⟨a,b⟩
    ·exact ⟨some j,a,fun i hi=>(by cases hi;exact ⟨e',c,q⟩),fun h=>by cases h⟩
    ·exact ⟨none,a,fun i hi=>(by cases hi),fun _=>b⟩
section
variable {κ:Type} [DecidableEq κ]
def WW (m:List (κ × Value)) (k:κ):Option Value:=(m.find? fun p=>p.1=k).map (·.2)
def V0a (m:List (κ × Value)) (k:κ) (v:Value):List (κ × Value):=if k∈m.map (·.1) then m.map (fun p=>if p.1=k then (k,v) else p) else m++[(k,v)]
theorem R7a {m:List (κ × Value)} {k:κ}:WW m k=none↔k∉m.map (·.1):=by
 unfold WW
 rw[Option.map_eq_none_iff,List.find?_eq_none]
 constructor
 ·intro h hm
  obtain ⟨p,hp,e⟩:=List.mem_map.1 hm
  exact h p hp (by simpa using e)
 ·intro h p hp e
  exact h (List.mem_map.2 ⟨p,hp,by simpa using e⟩)
theorem s2a {m:List (κ × Value)} (hn:(m.map (·.1)).Nodup) {k:κ} {v:Value}:WW m k=some v↔(k,v)∈m:=by
 induction m with
 | nil=>simp[WW]
 | cons p m ih=>
   obtain ⟨k0,v0⟩:=p
   simp only[List.map_cons,List.nodup_cons]at hn
   unfold WW at ih ⊢
   by_cases h:k0=k
   ·subst h
    rw[List.find?_cons_of_pos (by simp)]
    simp only[Option.map_some,Option.some.injEq,List.mem_cons,Prod.mk.injEq,true_and]
    constructor
    ·rintro rfl;exact .inl rfl
    ·rintro (rfl | hm)
     ·rfl
     ·exact absurd (List.mem_map.2 ⟨_,hm,rfl⟩) hn.1
   ·rw[List.find?_cons_of_neg (by simpa using h),ih hn.2]
    simp only[List.mem_cons,Prod.mk.injEq]
    constructor
    ·exact .inr
    ·rintro (⟨rfl,_⟩ | hm)
     ·exact absurd rfl h
     ·exact hm
theorem T7a {m:List (κ × Value)} {k:κ} {v:Value}:(V0a m k v).map (·.1)=if k∈m.map (·.1) then m.map (·.1) else m.map (·.1)++[k]:=by
 unfold V0a
 split
 ·rw[List.map_map]
  refine List.map_congr_left fun p _=>?_
  show (if p.1=k then (k,v) else p).1=p.1
  split
  ·rename_i h;exact h.symm
  ·rfl
 ·simp
theorem P1a {m:List (κ × Value)} {k:κ} {v:Value} (hn:(m.map (·.1)).Nodup):((V0a m k v).map (·.1)).Nodup:=by
 rw[T7a]
 split
 ·exact hn
 ·rename_i h
  refine List.nodup_append.2 ⟨hn,by simp,fun a ha b hb=>?_⟩
  simp only[List.mem_singleton]at hb
  subst hb
  exact fun e=>h (e▸ha)
theorem H3a {m:List (κ × Value)} {k k':κ} {v:Value} (hn:(m.map (·.1)).Nodup):WW (V0a m k v) k'=if k'=k then some v else WW m k':=by
 have hn':=P1a (k:=k) (v:=v) hn
 have key:∀ u,WW (V0a m k v) k'=some u↔(if k'=k then some v else WW m k')=some u:=fun u=>by
  rw[s2a hn']
  unfold V0a
  split
  ·rename_i hk
   rw[List.mem_map]
   constructor
   ·rintro ⟨p,hp,he⟩
    split at he
    ·cases he
     rw[if_pos rfl]
    ·rename_i hne
     subst he
     rw[if_neg hne]
     exact (s2a hn).2 hp
   ·intro he
    split at he
    ·rename_i hkk
     cases he
     obtain ⟨p,hp,hpk⟩:=List.mem_map.1 hk
     exact ⟨p,hp,by rw[if_pos hpk,hkk]⟩
    ·rename_i hne
     exact ⟨(k',u),(s2a hn).1 he,by rw[if_neg hne]⟩
  ·rename_i hk
   rw[List.mem_append,List.mem_singleton]
   constructor
   ·rintro (hp | hp)
    ·have:k'≠k:=fun e=>hk (e▸List.mem_map.2 ⟨_,hp,rfl⟩)
     rw[if_neg this]
     exact (s2a hn).2 hp
    ·cases hp
     rw[if_pos rfl]
   ·intro he
    split at he
    ·rename_i hkk
     cases he
     exact .inr (by rw[hkk])
    ·exact .inl ((s2a hn).1 he)
 cases h1:(if k'=k then some v else WW m k') with
 | some u=>exact (key u).2 h1
 | none=>
   cases h2:WW (V0a m k v) k' with
   | none=>rfl
   | some u=>
     have:=(key u).1 h2
     rw[h1]at this
     cases this
end
def MapAt {κ:Type} (enc:κ→Value) (h:DHeap) (id:Nat) (m:List (κ × Value)):Prop:=
 ∃ es c,h.get id=some (.map es c)∧es.map (fun e=>(e.key,e.val))=m.map (fun p=>(enc p.1,p.2))∧(m.map (·.1)).Nodup∧(es.map (·.born)).Nodup∧∀ e∈es,e.born<c
theorem MapAt.keep {κ:Type} {enc:κ→Value} {h h':DHeap} {id:Nat} {m:List (κ × Value)} (a:MapAt enc h id m) (hg:h'.get id=h.get id):MapAt enc h' id m:=by
 obtain ⟨es,c,g,r⟩:=a
 exact ⟨es,c,hg.trans g,r⟩
theorem MapAt.new {κ:Type} {enc:κ→Value} {h:DHeap}:MapAt enc (h.push (.map [] 0)) h.next []:=
 ⟨[],0,Zz _ _,rfl,by simp,by simp,fun e he=>by cases he⟩
structure x7a (P:Program) (t:TypeId) {κ:Type} (enc:κ→Value) (z:Value):Prop where
 map:∃ kt et,P.underlying t=some (.map kt et)∧KeyOf P kt enc∧l8a P et=some z
theorem MapAt.es_key {κ:Type} {enc:κ→Value} {m:List (κ × Value)} {es:List MapEntry} (hm:es.map (fun e=>(e.key,e.val))=m.map (fun p=>(enc p.1,p.2))) {i:Nat} {e:MapEntry} (he:es[i]? = some e):∃ p,m[i]? = some p∧e.key=enc p.1∧e.val=p.2:=by
 have:=congrArg (fun l=>l[i]?) hm
 simp only[List.getElem?_map,he,Option.map_some]at this
 cases hp:m[i]? with
 | none=>rw[hp]at this;cases this
 | some p=>
   rw[hp]at this
   simp only[Option.map_some,Option.some.injEq,Prod.mk.injEq]at this
   exact ⟨p,rfl,this.1,this.2⟩
theorem MapAt.found {κ:Type} [DecidableEq κ] {enc:κ→Value} {kt:TypeId} {m:List (κ × Value)} {es:List MapEntry} (K:KeyOf P kt enc) (hm:es.map (fun e=>(e.key,e.val))=m.map (fun p=>(enc p.1,p.2))) (hn:(m.map (·.1)).Nodup) (k:κ) :
 (∃ i e v,H1a P kt (enc k) es=some (some i)∧es[i]? = some e∧m[i]? = some (k,v)∧e.key=enc k∧e.val=v∧WW m k=some v)∨(H1a P kt (enc k) es=some none∧k∉m.map (·.1)):=by
 have hk:∀ e∈es,∃ a,e.key=enc a:=fun e he=>by
  obtain ⟨i,hi⟩:=List.getElem?_of_mem he
  obtain ⟨p,_,h2,_⟩:=MapAt.es_key hm hi
  exact ⟨_,h2⟩
 obtain ⟨r,h1,h2,h3⟩:=K.find k es hk
 cases r with
 | some i=>
   obtain ⟨e,a,b⟩:=h2 i rfl
   obtain ⟨p,c,d,e'⟩:=MapAt.es_key hm a
   have:p.1=k:=K.inj _ _ (d.symm.trans b)
   refine .inl ⟨i,e,p.2,h1,a,by rw[← this];exact c,b,e',(s2a hn).2 ?_⟩
   rw[← this]
   exact List.mem_of_getElem? c
 | none=>
   refine .inr ⟨h1,fun hm2=>?_⟩
   obtain ⟨p,hp,hpk⟩:=List.mem_map.1 hm2
   obtain ⟨i,hi⟩:=List.getElem?_of_mem hp
   have:=congrArg (fun l=>l[i]?) hm
   simp only[List.getElem?_map,hi,Option.map_some]at this
   cases he:es[i]? with
   | none=>rw[he]at this;cases this
   | some e=>
     rw[he]at this
     simp only[Option.map_some,Option.some.injEq,Prod.mk.injEq]at this
     exact h3 rfl e (List.mem_of_getElem? he) (by rw[this.1,hpk])
theorem MapAt.lookup {κ:Type} [DecidableEq κ] {enc:κ→Value} {z:Value} {t:TypeId} {h:DHeap} {id:Nat} {m:List (κ × Value)} (T:x7a P t enc z) (a:MapAt enc h id m) (k:κ) (ok:Bool) :
 J0a P t (.map (some id)) (enc k) ok h=some (if ok then .tuple #[(WW m k).getD z,.bool (WW m k).isSome] else (WW m k).getD z):=by
 obtain ⟨kt,et,hu,K,hz⟩:=T.map
 obtain ⟨es,c,g,hm,hn,_,_⟩:=a
 obtain ⟨u,hc⟩:=K.chk es.isEmpty k
 unfold J0a
 simp only[hu,u6a,g,K.flat k,if_true,hc]
 rcases MapAt.found K hm hn k with ⟨i,e,v,h1,h2,h3,h4,h5,h6⟩ | ⟨h1,h2⟩
 ·simp only[h1,h2,h6,h5,Option.getD_some,Option.isSome_some]
 ·simp only[h1,hz,R7a.2 h2,Option.getD_none,Option.isSome_none]
theorem MapAt.update {κ:Type} [DecidableEq κ] {enc:κ→Value} {z:Value} {t:TypeId} {h:DHeap} {id:Nat} {m:List (κ × Value)} (T:x7a P t enc z) (a:MapAt enc h id m) (k:κ) (v:Value) :
 ∃ o,C0a P t (.map (some id)) (enc k) v h=some (h.set id o)∧MapAt enc (h.set id o) id (V0a m k v):=by
 obtain ⟨kt,et,hu,K,hz⟩:=T.map
 obtain ⟨es,c,g,hm,hn,hb,hlt⟩:=a
 obtain ⟨u,hc⟩:=K.chk false k
 unfold C0a
 simp only[hu,g,K.flat k,if_true,hc]
 rcases MapAt.found K hm hn k with ⟨i,e,v0,h1,h2,h3,h4,h5,h6⟩ | ⟨h1,h2⟩
 ·have hbits:Instr.sameBits 10000 e.key (enc k)=true:=by rw[h4];exact K.bits k
  simp only[h1,h2,hbits,if_true]
  refine ⟨_,rfl,_,_,Zq _ _,?_,P1a hn,?_,?_⟩
  ·have hk:k∈m.map (·.1):=List.mem_map.2 ⟨_,List.mem_of_getElem? h3,rfl⟩
   rw[V0a,if_pos hk,List.map_set,hm]
   refine List.ext_getElem? fun j=>?_
   rw[List.getElem?_set,List.getElem?_map,List.getElem?_map,List.getElem?_map]
   by_cases hj:i=j
   ·subst hj
    have hlen:i<(m.map fun p=>(enc p.1,p.2)).length:=by simpa using (List.getElem?_eq_some_iff.1 h3).1
    rw[if_pos rfl,if_pos hlen,h3]
    simp
   ·rw[if_neg hj]
    cases hp:m[j]? with
    | none=>rfl
    | some p=>
      have:p.1≠k:=fun e=>by
       have q1:(m.map (·.1))[j]? = some k:=by rw[List.getElem?_map,hp];simp[e]
       have q2:(m.map (·.1))[i]? = some k:=by rw[List.getElem?_map,h3];rfl
       have hil:=(List.getElem?_eq_some_iff.1 q2).1
       exact hj ((List.getElem?_inj hil hn).1 (q2.trans q1.symm))
      simp[this]
  ·have:(es.set i { e with key:=enc k,val:=v }).map (·.born)=es.map (·.born):=by
    rw[List.map_set]
    refine List.ext_getElem? fun j=>?_
    rw[List.getElem?_set]
    split
    ·rename_i hj
     subst hj
     rw[List.getElem?_map,h2,List.length_map,if_pos (List.getElem?_eq_some_iff.1 h2).1]
     rfl
    ·rfl
   rw[this]
   exact hb
  ·intro e' he'
   rcases List.mem_or_eq_of_mem_set he' with he' | rfl
   ·exact hlt e' he'
   ·exact hlt e (List.mem_of_getElem? h2)
 ·simp only[h1]
  refine ⟨_,rfl,_,_,Zq _ _,?_,P1a hn,?_,?_⟩
  ·rw[V0a,if_neg h2,List.map_append,List.map_append,hm]
   rfl
  ·rw[List.map_append]
   refine List.nodup_append.2 ⟨hb,by simp,fun x hx y hy=>?_⟩
   obtain ⟨e,he,rfl⟩:=List.mem_map.1 hx
   simp only[List.map_cons,List.map_nil,List.mem_singleton]at hy
   have:=hlt e he
   omega
  ·intro e he
   rcases List.mem_append.1 he with he | he
   ·have:=hlt e he
    omega
   ·simp only[List.mem_singleton]at he
    subst he
    exact Nat.lt_succ_self _
theorem i5a {α β:Type} {f:α→β}:∀ (l:List α) (i:Nat),(l.eraseIdx i).map f=(l.map f).eraseIdx i
 | [],_=>rfl
 | _ :: _,0=>rfl
 | a :: l,i+1=>by rw[List.eraseIdx_cons_succ,List.map_cons,List.map_cons,List.eraseIdx_cons_succ,i5a l i]
section
variable {κ:Type} [DecidableEq κ]
def h6a (m:List (κ × Value)) (k:κ):List (κ × Value):=m.filter fun p=>!decide (p.1=k)
theorem X6a {m:List (κ × Value)} {k:κ} (hn:(m.map (·.1)).Nodup):((h6a m k).map (·.1)).Nodup:=List.Sublist.nodup ((List.filter_sublist (l:=m)).map _) hn
theorem T0c {m:List (κ × Value)} {k k':κ}:WW (h6a m k) k'=if k'=k then none else WW m k':=by
 unfold WW h6a
 rw[List.find?_filter]
 by_cases h:k'=k
 ·subst h
  rw[if_pos rfl,List.find?_eq_none.2 fun p _=>by simp]
  rfl
 ·rw[if_neg h]
  congr 2
  funext p
  by_cases hp:p.1=k'
  ·simp[hp,h]
  ·simp[hp]
theorem t7a {k:κ} {v:Value}:∀ {m:List (κ × Value)} {i:Nat},(m.map (·.1)).Nodup→m[i]? = some (k,v)→m.eraseIdx i=h6a m k
 | [],i,_,h=>by simp at h
 | p :: m,0,hn,h=>by
   simp only[List.getElem?_cons_zero,Option.some.injEq]at h
   subst h
   simp only[List.map_cons,List.nodup_cons]at hn
   rw[List.eraseIdx_cons_zero,h6a,List.filter_cons_of_neg (by simp),List.filter_eq_self.2]
   intro q hq
   have:q.1≠k:=fun e=>hn.1 (List.mem_map.2 ⟨q,hq,e⟩)
   simp[this]
 | p :: m,i+1,hn,h=>by
   simp only[List.getElem?_cons_succ]at h
   simp only[List.map_cons,List.nodup_cons]at hn
   have:p.1≠k:=fun e=>hn.1 (List.mem_map.2 ⟨_,List.mem_of_getElem? h,e.symm⟩)
   rw[List.eraseIdx_cons_succ,t7a hn.2 h,h6a,h6a,List.filter_cons_of_pos (by simp[this])]
end
theorem MapAt.delete {κ:Type} [DecidableEq κ] {enc:κ→Value} {z:Value} {t:TypeId} {ts:Array TypeId} {h:DHeap} {id:Nat} {m:List (κ × Value)} (T:x7a P t enc z) (hts:ts[0]? = some t) (a:MapAt enc h id m) (k:κ) :
 ∃ o,Y2a P ts (.map (some id)) (enc k) h=some (.tuple #[],h.set id o)∧MapAt enc (h.set id o) id (h6a m k):=by
 obtain ⟨kt,et,hu,K,hz⟩:=T.map
 obtain ⟨es,c,g,hm,hn,hb,hlt⟩:=a
 obtain ⟨u,hc⟩:=K.chk es.isEmpty k
 unfold Y2a
 simp only[hts,hu,g,K.flat k,if_true,hc]
 rcases MapAt.found K hm hn k with ⟨i,e,v0,h1,h2,h3,h4,h5,h6⟩ | ⟨h1,h2⟩
 ·simp only[h1]
  refine ⟨_,rfl,_,_,Zq _ _,?_,X6a hn,?_,fun e' he'=>hlt e' (List.mem_of_mem_eraseIdx he')⟩
  ·rw[← t7a hn h3,i5a,i5a,hm]
  ·rw[i5a]
   exact List.Sublist.nodup (List.eraseIdx_sublist _ _) hb
 ·simp only[h1]
  refine ⟨_,rfl,_,_,Zq _ _,?_,X6a hn,hb,hlt⟩
  rw[hm,h6a,List.filter_eq_self.2]
  intro q hq
  have:q.1≠k:=fun e=>h2 (List.mem_map.2 ⟨q,hq,e⟩)
  simp[this]
def RngAt {κ:Type} (enc:κ→Value) (h:DHeap) (r id:Nat) (m:List (κ × Value)) (dn:List κ):Prop:=
 ∃ es c seen,h.get id=some (.map es c)∧h.get r=some (.iter (some id) c seen c)∧es.map (fun e=>(e.key,e.val))=m.map (fun p=>(enc p.1,p.2))∧(m.map (·.1)).Nodup∧(es.map (·.born)).Nodup∧(∀ e∈es,e.born<c) ∧
  ∀ (i:Nat) e p,es[i]? = some e→m[i]? = some p→(e.born∈seen↔p.1∈dn)
theorem RngAt.keep {κ:Type} {enc:κ→Value} {h h':DHeap} {r id:Nat} {m:List (κ × Value)} {dn:List κ} (a:RngAt enc h r id m dn) (h1:h'.get id=h.get id) (h2:h'.get r=h.get r):RngAt enc h' r id m dn:=by
 obtain ⟨es,c,seen,g1,g2,q⟩:=a
 exact ⟨es,c,seen,h1.trans g1,h2.trans g2,q⟩
theorem RngAt.map {κ:Type} {enc:κ→Value} {h:DHeap} {r id:Nat} {m:List (κ × Value)} {dn:List κ} (a:RngAt enc h r id m dn):MapAt enc h id m:=by
 obtain ⟨es,c,seen,g1,g2,q1,q2,q3,q4,_⟩:=a
 exact ⟨es,c,g1,q1,q2,q3,q4⟩
theorem MapAt.range {κ:Type} {enc:κ→Value} {t:TypeId} {h:DHeap} {id:Nat} {m:List (κ × Value)} {kt et:TypeId} (hu:P.underlying t=some (.map kt et)) (a:MapAt enc h id m) (hid:id<h.next) :
 ∃ o,W3a P t (.map (some id)) h=some (.pointer (some ⟨h.next,0,none⟩),h.push o)∧RngAt enc (h.push o) h.next id m []:=by
 obtain ⟨es,c,g,q1,q2,q3,q4⟩:=a
 refine ⟨.iter (some id) c [] c,?_,es,c,[],(ZX _ _ hid).trans g,Zz _ _,q1,q2,q3,q4,fun i e p _ _=>by simp⟩
 unfold W3a
 simp only[hu,g]
theorem b0b {e:MapEntry}:∀ {es:List MapEntry},(es.map (·.born)).Nodup→e∈es→es.find? (fun x=>x.born==e.born)=some e
 | [],_,h=>by cases h
 | a :: es,hn,h=>by
   rw[List.find?_cons]
   rw[List.map_cons,List.nodup_cons]at hn
   rcases List.mem_cons.1 h with rfl | h
   ·simp
   ·have:(a.born==e.born)=false:=by
     simp only[beq_eq_false_iff_ne,ne_eq]
     exact fun hh=>hn.1 (hh▸List.mem_map.2 ⟨e,h,rfl⟩)
    rw[this]
    exact b0b hn.2 h
theorem RngAt.next {κ:Type} {enc:κ→Value} {h:DHeap} {r id:Nat} {m:List (κ × Value)} {dn:List κ} (hf:∀ k,Yk (enc k)=true) (hne:id≠r) (a:RngAt enc h r id m dn) :
 ∃ l,w4a (.pointer (some ⟨r,0,none⟩)) h=some (l,h.set r .dead)∧∀ p∈l,(p=(.tuple #[.bool false],h)∧∀ k∈m.map (·.1),k∈dn) ∨
  ∃ k v o,(k,v)∈m∧k∉dn∧p=(.tuple #[.bool true,enc k,v],h.set r o)∧x5a (.pointer (some ⟨r,0,none⟩)) (h.set r o)=some (.tuple #[enc k,v])∧RngAt enc (h.set r o) r id m (k :: dn):=by
 obtain ⟨es,c,seen,g1,g2,q1,q2,q3,q4,q5⟩:=a
 have hc1:(!seen.isEmpty&&!es.isEmpty&&es.all fun e=>decide (e.born ≥ c))=false:=by
  cases es with
  | nil=>simp
  | cons e es=>
    have:=q4 e (by simp)
    have h1:decide (e.born ≥ c)=false:=decide_eq_false (by omega)
    simp[h1]
 have hc2:(es.all fun e=>Yk e.key)=true:=List.all_eq_true.2 fun e he=>by
  obtain ⟨i,hi⟩:=List.getElem?_of_mem he
  obtain ⟨p,_,h2,_⟩:=MapAt.es_key q1 hi
  rw[h2]
  exact hf _
 unfold w4a
 simp only[g2,g1,hc1,hc2,Bool.not_true,Bool.or_false,Bool.false_eq_true,if_false]
 refine ⟨_,rfl,fun p hp=>?_⟩
 rcases List.mem_append.1 hp with hp | hp
 ·split at hp
  ·rename_i hemp
   simp only[List.mem_singleton]at hp
   refine .inl ⟨hp,fun k hk=>?_⟩
   obtain ⟨pr,hpm,rfl⟩:=List.mem_map.1 hk
   obtain ⟨i,hi⟩:=List.getElem?_of_mem hpm
   have:=congrArg (fun l=>l[i]?) q1
   simp only[List.getElem?_map,hi,Option.map_some]at this
   cases he:es[i]? with
   | none=>rw[he]at this;cases this
   | some e=>
     refine (q5 i e pr he hi).1 ?_
     cases hs:seen.contains e.born with
     | true=>exact List.contains_iff_mem.1 hs
     | false=>
       exfalso
       have hm:=List.mem_of_getElem? he
       have:e∈(es.filter fun e=>!seen.contains e.born).filter fun e=>decide (e.born<c):=by
        simp only[List.mem_filter,hs,Bool.not_false,decide_eq_true_eq,and_true]
        exact ⟨hm,q4 e hm⟩
       rw[List.isEmpty_iff.1 hemp]at this
       cases this
  ·cases hp
 ·obtain ⟨e,hem,rfl⟩:=List.mem_map.1 hp
  have he:e∈es∧seen.contains e.born=false:=by
   rcases List.mem_append.1 hem with h | h
   ·simp only[List.mem_filter,Bool.not_eq_true']at h
    exact h.1
   ·simp only[List.mem_filter,Bool.not_eq_true']at h
    exact h.1
  obtain ⟨i,hi⟩:=List.getElem?_of_mem he.1
  obtain ⟨pr,hpi,hk,hv⟩:=MapAt.es_key q1 hi
  have hns:e.born∉seen:=fun hh=>by rw[List.contains_iff_mem.2 hh]at he;cases he.2
  refine .inr ⟨pr.1,pr.2,.iter (some id) c (seen++[e.born]) c,List.mem_of_getElem? hpi,fun hd=>hns ((q5 i e pr hi hpi).2 hd),by rw[hk,hv],?_,es,c,seen++[e.born],(Zx _ _ hne).trans g1,Zq _ _,q1,q2,q3,q4,fun j e' p' hj hpj=>?_⟩
  ·have h1:(h.set r (.iter (some id) c (seen++[e.born]) c)).get r=some (.iter (some id) c (seen++[e.born]) c):=Zq _ _
   have h2:(h.set r (.iter (some id) c (seen++[e.born]) c)).get id=some (.map es c):=(Zx _ _ hne).trans g1
   have h3:(seen++[e.born]).getLast? = some e.born:=by simp
   unfold x5a
   simp only[h1,h2,h3,if_true,b0b q3 he.1,hk,hf,hv]
  rw[List.mem_append,List.mem_singleton,List.mem_cons,q5 j e' p' hj hpj]
  have hij:e'.born=e.born↔j=i:=by
   have a1:(es.map (·.born))[j]? = some e'.born:=by rw[List.getElem?_map,hj];rfl
   have a2:(es.map (·.born))[i]? = some e.born:=by rw[List.getElem?_map,hi];rfl
   constructor
   ·intro hh
    exact (List.getElem?_inj (List.getElem?_eq_some_iff.1 a1).1 q3).1 (by rw[a1,a2,hh])
   ·intro hh
    subst hh
    rw[hj]at hi
    cases hi
    rfl
  have hij2:p'.1=pr.1↔j=i:=by
   have a1:(m.map (·.1))[j]? = some p'.1:=by rw[List.getElem?_map,hpj];rfl
   have a2:(m.map (·.1))[i]? = some pr.1:=by rw[List.getElem?_map,hpi];rfl
   constructor
   ·intro hh
    exact (List.getElem?_inj (List.getElem?_eq_some_iff.1 a1).1 q2).1 (by rw[a1,a2,hh])
   ·intro hh
    subst hh
    rw[hpj]at hpi
    cases hpi
    rfl
  rw[hij,hij2]
  exact Or.comm
def Y0b (P:Program) (t:TypeId) (h:DHeap):Option Value→DR
 | some v=>.ofp (W3a P t v h)
 | none=>.bad
def DR.ofk:Option (List (Value × DHeap) × DHeap)→DR
 | some (l,h')=>.ok (.pick l) h'
 | none=>.bad
def H3b (h:DHeap):Option Value→DR
 | some v=>DR.ofk (w4a v h)
 | none=>.bad
theorem X9b {ρ:Operand→Option Value} {h:DHeap} (dst:Option Tmp) (t:TypeId) (x:Operand) (ty:TypeId) (pos:String) (aft:Array Edge) (gd:Option (Nat × Bool)):dOp P ρ ⟨dst,.range t x,ty,pos,aft,gd⟩ h=Y0b P t h (ρ x):=by
 unfold dOp Y0b
 simp only
 cases ρ x <;> rfl
theorem Y2c {ρ:Operand→Option Value} {h:DHeap} (dst:Option Tmp) (x:Operand) (ty:TypeId) (pos:String) (aft:Array Edge) (gd:Option (Nat × Bool)):dOp P ρ ⟨dst,.next x false,ty,pos,aft,gd⟩ h=H3b h (ρ x):=by
 unfold dOp H3b DR.ofk
 simp only
 cases ρ x with
 | none=>rfl
 | some v=>rfl
theorem N3b {t:TypeId} {h:DHeap} {v:Value}:Y0b P t h (some v)=.ofp (W3a P t v h):=rfl
theorem p5b {h:DHeap} {v:Value}:H3b h (some v)=DR.ofk (w4a v h):=rfl
theorem X3c {l:List (Value × DHeap)} {h:DHeap}:DR.ofk (some (l,h))=.ok (.pick l) h:=rfl
theorem N1c (ops:Array Oper) (o:Oper) (rest:List Oper) (s:St) (Q:Zv→St→Prop) (l:List (Value × DHeap)) (h:DHeap):NNx P ops o rest s Q (.ok (.pick l) h)=∀ p∈l,Wk P ops rest ⟨s.fr.put o.dst p.1,s.df,p.2,s.rd⟩ Q:=rfl
def S0b (h:DHeap):Option Value→DR
 | some v=>.ofv h (x5a v h)
 | none=>.bad
theorem U9b {ρ:Operand→Option Value} {h:DHeap} (dst:Option Tmp) (x:Operand) (ty:TypeId) (pos:String) (aft:Array Edge) (gd:Option (Nat × Bool)):dOp P ρ ⟨dst,.entry x,ty,pos,aft,gd⟩ h=S0b h (ρ x):=by
 unfold dOp S0b
 simp only
 cases ρ x <;> rfl
theorem z3b {h:DHeap} {v:Value}:S0b h (some v)=.ofv h (x5a v h):=rfl
attribute [go_sem] U9b z3b X9b Y2c N3b p5b X3c N1c
end Go.D
namespace Go.Proofs.Ytheamfnbfgiaeaa
open Go.D
set_option maxRecDepth 100000
theorem z3c (a b:Key) (h:Zk a=Zk b):a=b:=by
 cases a;cases b
 simp only[Zk]at h
 simpa using h
theorem H8c:∃ d,Try.prog.underlying 34=some d∧∀ a b,Instr.sameNow d (Zk a) (Zk b)=none:=⟨_,rfl,fun _ _=>rfl⟩
theorem P6c (b:Bool) (k:Key):∃ u,ZW Try.prog (Instr.checkKey b 10000 34 (Zk k))=some (.inr u):=⟨_,rfl⟩
theorem s2c (k:Key):Instr.sameBits 10000 (Zk k) (Zk k)=true:=by
 simp[Instr.sameBits,Zk]
theorem g8b:KeyOf Try.prog 34 Zk:=
 have ⟨_,hu,hn⟩:=H8c
 .eq hu (fun _=>rfl) z3c P6c s2c hn (j0b 9998)
theorem a1a {α:Type} [DecidableEq α]:∀ {a b:List α},a.Nodup→(∀ x∈a,x∈b)→a.length≤b.length
 | [],_,_,_=>Nat.zero_le _
 | x :: a,b,hn,hs=>by
   rw[List.nodup_cons]at hn
   have h1:=a1a (a:=a) (b:=b.erase x) hn.2 fun y hy=>(List.mem_erase_of_ne (fun (hh:y=x)=>hn.1 (hh▸hy))).2 (hs y (by simp[hy]))
   have h2:=List.length_erase_of_mem (hs x (by simp))
   have h3:=List.length_pos_of_mem (hs x (by simp))
   rw[List.length_cons]
   omega
structure But (r:Nat) (K K':DHeap):Prop where
 next:K.next≤K'.next
 ng:K'.ng=K.ng
 get:∀ j,j<K.next→j≠r→K'.get j=K.get j
theorem g2b:Try.prog.underlying 103=some (.map 34 2):=by kernel_rfl
def p6a (fk:FuncId):Prop:=∀ {h:DHeap} {c l p id:Nat} {D:n2a} {m:List (Key × Value)} (I:List Key→DHeap→Prop) (hp:D.params=#[p]) (hps:p<D.size) (hid:id<h.next) (hc:c<h.next) (hl:l<h.next) (h0:I [] h) (hI:∀ dn K,I dn K→K.get l=some (.loop D)∧K.get c=some (.row [.map (some id)] 0 false)∧MapAt Zk K id m) (hE:∀ dn K K',I dn K→But h.next K K'→I dn K') (hR:∀ dn K k,I dn K→k∉dn→k∈m.map (·.1)→h.next<K.next→Rt Try.prog l D.size (w0a D.tmps [p] [Zk k]) D.assign D.body K fun r H=>r=.ret (.bool true)∧I (k :: dn) H∧H.get id=K.get id∧H.get h.next=K.get h.next∧K.next≤H.next),Ct Try.prog fk [.func (.yield l) #[] #[],.pointer (some ⟨c,0,none⟩)] h fun r H=>(∃ v,r=.ret v)∧∃ dn,dn.Nodup∧(∀ k,k∈dn↔k∈m.map (·.1))∧I dn H
theorem R5b:p6a 88:=by
 intro h c l p id D m I hp hps hid hc hl h0 hI hE hR
 refine c4d (by simp) ?_
 obtain ⟨hl0,hc0,hm0⟩:=hI [] h h0
 have C0:ZZ h c 0=some (.map (some id)):=Zy hc0
 obtain ⟨o,hr0,hr1⟩:=hm0.range g2b hid
 simp -implicitDefEqProofs (disch:=first|omega|simp only[go_sem]) only[go_sem,true_and,c88,C0,hr0]
 refine XU (σ:=List Key) (by kernel_rfl) (fun dn s=>s.df=[]∧s.fr 0=some (.func (.yield l) #[] #[])∧s.fr 5=some (.pointer (some ⟨h.next,0,none⟩))∧h.next<s.h.next∧dn.Nodup∧(∀ k∈dn,k∈m.map (·.1))∧RngAt Zk s.h h.next id m dn∧I dn s.h) (fun dn=>m.length - dn.length) [] ?_ ?_
 ·simp -implicitDefEqProofs (disch:=first|omega|simp only[go_sem]) only[go_sem,true_and]
  exact ⟨Nat.lt_succ_self _,.nil,fun k hk=>(by cases hk),hr1,hE _ _ _ h0 ⟨Nat.le_succ _,rfl,fun j hj _=>ZX _ _ hj⟩⟩
 ·rintro dn ⟨fr,df,hh,rd⟩ K' hK' hX ⟨rfl,f0,f5,hlt,hnd,hsub,hrng,hinv⟩
  simp only at f0 f5 hlt hrng hinv
  obtain ⟨L,hL,hall⟩:=hrng.next (fun _=>rfl) (by omega)
  simp -implicitDefEqProofs (disch:=first|omega|simp only[go_sem]) only[go_sem,true_and,f5,hL]
  intro pp hpp
  rcases hall pp hpp with ⟨rfl,hd⟩ | ⟨k,v,o2,hk,hnk,rfl,hent,hr2⟩
  ·simp -implicitDefEqProofs (disch:=first|omega|simp only[go_sem]) only[go_sem,true_and]
   refine hX _ _ (by simp) ?_
   simp -implicitDefEqProofs (disch:=first|omega|simp only[go_sem]) only[go_sem,true_and]
   exact ⟨_,rfl,⟨_,rfl⟩,dn,hnd,fun k=>⟨hsub k,hd k⟩,hinv⟩
  obtain ⟨K1,hK1⟩:∃ K,K=hh.set h.next o2:=⟨_,rfl⟩
  rw[← hK1]at hent hr2
  obtain ⟨K2,hK2⟩:∃ K,K=K1.push (.row [.int .i32 k.t,.int .i64 k.r] 0 false):=⟨_,rfl⟩
  have hK1n:K1.next=hh.next:=by rw[hK1];rfl
  have hK2n:K2.next=hh.next+1:=by rw[hK2];exact congrArg (·+1) hK1n
  have g2:K2.get K1.next=some (.row [.int .i32 k.t,.int .i64 k.r] 0 false):=by rw[hK2];exact Zz _ _
  have hst:Yz Try.prog 34 (.pointer (some ⟨K1.next,0,none⟩)) (Zk k) (K1.push (.row [.int .i32 0,.int .i64 0] 0 false))=some K2:=by
   rw[hK2]
   exact (s3a rfl).trans (a0a rfl rfl)
  have l2:Zj K2 K1.next 0 2=some (Zk k):=by rw[Zu g2 (Nat.le_of_ble_eq_true rfl)];rfl
  have oth:∀ j,j<hh.next→j≠h.next→K2.get j=hh.get j:=fun j hj hne=>by rw[hK2,ZX _ _ (by omega),hK1,Zx _ _ hne]
  have hI2:I dn K2:=hE dn hh K2 hinv ⟨by omega,by rw[hK2,hK1];rfl,oth⟩
  have hl2:K2.get l=some (.loop D):=(hI dn K2 hI2).1
  have hr3:RngAt Zk K2 h.next id m (k :: dn):=hr2.keep (by rw[hK2];exact ZX _ _ (by omega)) (by rw[hK2];exact ZX _ _ (by omega))
  have hy:d2a Try.prog K2 (some (.func (.yield l) #[] #[])) (some [Zk k])=.ok (.round l D.size (w0a D.tmps [p] [Zk k]) D.assign D.body) K2:=by
   rw[w5a hl2 _ (by rw[hp];rfl) (by rw[hp];simpa using hps),hp]
  have hkm:k∈m.map (·.1):=List.mem_map.2 ⟨_,hk,rfl⟩
  simp -implicitDefEqProofs (disch:=first|omega|simp only[go_sem]) only[go_sem,true_and,← hK1,f5,hent,hst,f0,l2,hy]
  refine V7a (hR dn K2 k hI2 hnk hkm (by omega)) ?_
  rintro r H ⟨rfl,hI3,e1,e2,e3⟩
  simp -implicitDefEqProofs (disch:=first|omega|simp only[go_sem]) only[go_sem,true_and,Xx]
  have hlen:(k :: dn).length≤m.length:=by
   have:=a1a (a:=k :: dn) (b:=m.map (·.1)) (List.nodup_cons.2 ⟨hnk,hnd⟩) (fun x hx=>by
    rcases List.mem_cons.1 hx with rfl | hx
    ·exact hkm
    ·exact hsub x hx)
   simpa using this
  refine hK' (k :: dn) _ ?_ (by rw[List.length_cons]at hlen ⊢;omega)
  exact ⟨by trivial,(vy f0),(vy f5),show h.next<H.next by omega,List.nodup_cons.2 ⟨hnk,hnd⟩,fun x hx=>(by
   rcases List.mem_cons.1 hx with rfl | hx
   ·exact hkm
   ·exact hsub x hx),hr3.keep e1 e2,hI3⟩
@[reducible] noncomputable def O0b (fr:Fr) (k:Nat):n2a:=⟨13,fr,#[7],Y9a,Z9a,k,.ready,none⟩
structure AppI (hB:DHeap) (fr:Fr) (b:Nat) (dn:List Key) (K:DHeap):Prop where
 r:Rng hB (O0b fr hB.next) (fun j=>j=b) K
 box:∃ v w,K.get b=some (.row [v] 0 false)∧Owns fKey.rep NoS K v dn.reverse w∧∀ i,w=some i→hB.next+2<i
theorem AppI.but {hB K K':DHeap} {fr:Fr} {b:Nat} {dn:List Key} (s:AppI hB fr b dn K) (hb:b<hB.next) (e:But (hB.next+2) K K'):AppI hB fr b dn K':=by
 have hn:=s.r.nx
 obtain ⟨v,w,g,o,hw⟩:=s.box
 exact ⟨s.r.keep e.next e.ng fun j hj=>e.get j (by omega) (by omega),v,w,(e.get _ (by omega) (by omega)).trans g,o.mono e.next (fun i hi=>e.get i (o.lt i hi) (by have:=hw i hi;omega)) (fun i hi=>hi.elim),hw⟩
theorem k9b {hB K:DHeap} {fr:Fr} {b:Nat} {dn:List Key} {k:Key} (hk:fKey.ok k) (hlen:dn.length+1≤4294967296) (hb:b<hB.next) (f2:fr 2=some (.pointer (some ⟨b,0,none⟩))) (hnx:hB.next+2<K.next) (s:AppI hB fr b dn K) :
 Rt Try.prog (hB.next+1) 13 (w0a fr [7] [Zk k]) Y9a Z9a K fun r H=>r=.ret (.bool true)∧AppI hB fr b (k :: dn) H∧H.get (hB.next+2)=K.get (hB.next+2)∧K.next≤H.next:=by
 obtain ⟨v,w,gb,o,hw⟩:=s.box
 have hwl:=o.lt
 refine T5b b1d g1d (by kernel_rfl) (by kernel_rfl) ?_
 obtain ⟨K1,hK1⟩:∃ K1,K1=K.push (.row [.int .i32 k.t,.int .i64 k.r] 0 false):=⟨_,rfl⟩
 have hst:Yz Try.prog 34 (.pointer (some ⟨K.next,0,none⟩)) (Zk k) (K.push (.row [.int .i32 0,.int .i64 0] 0 false))=some K1:=by
  rw[hK1]
  exact (s3a rfl).trans (a0a rfl rfl)
 have r1:=s.r.push (.row [.int .i32 k.t,.int .i64 k.r] 0 false)
 rw[← hK1]at r1
 simp -implicitDefEqProofs (disch:=first|omega|simp only[go_sem]) only[go_sem,true_and,y1c,w0a,hst]
 refine ⟨_,r1.lp,rfl,?_⟩
 obtain ⟨D2,hD2⟩:∃ D2:n2a,D2={ O0b fr hB.next with state:=.busy,pending:=(O0b fr hB.next).pending }:=⟨_,rfl⟩
 rw[← hD2]
 obtain ⟨K2,hK2⟩:∃ K2,K2=K1.set (hB.next+1) (.loop D2):=⟨_,rfl⟩
 rw[← hK2]
 have r2:Rng hB D2 (fun j=>j=b) K2:=by rw[hK2];exact r1.loop _
 have hK2n:K2.next=K.next+1:=by rw[hK2,hK1];rfl
 have hK2g:K2.ng=K.ng:=by rw[hK2,hK1];rfl
 have oth:∀ j,j<K.next→j≠hB.next+1→K2.get j=K.get j:=fun j hj hne=>by rw[hK2,Zx _ _ hne,hK1,ZX _ _ hj]
 have gb2:K2.get b=some (.row [v] 0 false):=(oth _ (by omega) (by omega)).trans gb
 have gk2:K2.get K.next=some (.row [.int .i32 k.t,.int .i64 k.r] 0 false):=by rw[hK2,Zx _ _ (by omega),hK1];exact Zz _ _
 have o2:Owns fKey.rep NoS K2 v dn.reverse w:=o.mono (by omega) (fun i hi=>oth i (hwl i hi) (by have:=hw i hi;omega)) (fun i hi=>hi.elim)
 have lb:ZZ K2 b 0=some v:=Zy gb2
 have lk:Zj K2 K.next 0 2=some (Zk k):=by rw[Zu gk2 (Nat.le_of_ble_eq_true rfl)];rfl
 obtain ⟨v',h2,e6,n2,ng2,gg,o3⟩:=o2.snoc (cs:=[.int .i32 k.t,.int .i64 k.r]) (x:=k) (z:=2) (fun i hi=>hi.elim) ⟨rfl,hk⟩ rfl (by decide) d3b (by simpa using hlen) (by decide)
 have hv':v'.cells=#[v']:=o3.sl.cells1
 have hone:[v'].all Value.oneCell'=true:=by obtain ⟨_,_,rfl⟩:=o3.sl.isSlice;rfl
 have gb3:h2.get b=some (.row [v] 0 false):=(gg _ (by omega) (fun h=>by have:=hw b h;omega)).trans gb2
 have w1:Yz Try.prog 24 (.pointer (some ⟨b,0,none⟩)) v' h2=some (h2.set b (.row [v'] 0 false)):=(Z5c hv').trans (b0a gb3 (Nat.le_of_ble_eq_true rfl) hone)
 simp -implicitDefEqProofs (disch:=first|omega|simp only[go_sem]) only[go_sem,true_and,z1c,f2,lb,lk,e6,w1]
 have hnw:∀ j,j<hB.next+3→w≠some j:=fun j hj h=>by have:=hw j h;omega
 have r3:Rng hB D2 (fun j=>j=b) h2:=r2.keep (by omega) ng2 fun j hj=>gg j (by omega) (hnw j (by omega))
 have r4:Rng hB D2 (fun j=>j=b) (h2.set b (.row [v'] 0 false)):=r3.set rfl hb
 refine ⟨D2,r4.lp,rfl,?_,?_,?_⟩
 ·subst hD2
  refine ⟨r4.loop _,v',some (K2.next+1),(Zx _ _ (by omega)).trans (Zq _ _),?_,fun i hi=>by cases hi;omega⟩
  rw[List.reverse_cons]
  exact o3.mono (Nat.le_refl _) (fun i hi=>by cases hi;rw[Zx _ _ (by omega),Zx _ _ (by omega)]) (fun i hi=>hi.elim)
 ·rw[Zx _ _ (by omega),Zx _ _ (by omega),gg _ (by omega) (hnw _ (by omega)),oth _ (by omega) (by omega)]
 ·show K.next≤h2.next
  omega
theorem h2c {fk:FuncId} (Y:p6a fk) (hg:K0a Try.prog fk=true) {hB:DHeap} {fr:Fr} {b c id:Nat} {m:List (Key × Value)} {Q:Zv→St→Prop} (hlen:m.length≤4294967296) (hok:∀ k∈m.map (·.1),fKey.ok k)
 (f2:fr 2=some (.pointer (some ⟨b,0,none⟩))) (f6:fr 6=some (.func (.func fk) #[] #[.pointer (some ⟨c,0,none⟩)]))
 (hb:b<hB.next) (gb:hB.get b=some (.row [.slice none 0 0] 0 false)) (hc:c<hB.next∧c≠b) (gc:hB.get c=some (.row [.map (some id)] 0 false)) (hid:id<hB.next∧id≠b) (hm:MapAt Zk hB id m)
 (hA:∀ dn H,dn.Nodup→(∀ k,k∈dn↔k∈m.map (·.1))→AppI hB fr b dn H→Q .normal ⟨fr,[.mark hB.next],H.set (hB.next+1) (.loop { O0b fr hB.next with state:=.exhausted }),none⟩) :
 NC Try.prog 13 (.rangeFunc (T 6) #[7] Y9a Z9a) Q ⟨fr,[],hB,none⟩:=by
 refine NC.range_yields (fv:=.func (.func fk) #[] #[.pointer (some ⟨c,0,none⟩)]) (A:=fun H=>∃ dn,dn.Nodup∧(∀ k,k∈dn↔k∈m.map (·.1))∧AppI hB fr b dn H) (B:=fun _=>False) rfl (vy f6) (fun K=>K7a hg _ _ _ K) ?_ (fun H ⟨dn,h1,h2,s⟩=>⟨s.r.lp,hA dn H h1 h2 s⟩) (fun H s=>s.elim)
 have e:Ext hB ((hB.push (.marks true)).push (.loop (O0b fr hB.next))):=(Ext.push1 _ _).push _
 refine (Y (D:=O0b fr hB.next) (p:=7) (id:=id) (m:=m) (fun dn K=>AppI hB fr b dn K∧dn.Nodup∧∀ k∈dn,k∈m.map (·.1)) rfl (Nat.le_of_ble_eq_true rfl) (Nat.lt_of_lt_of_le hid.1 e.next) (Nat.lt_of_lt_of_le hc.1 e.next) (Nat.lt_succ_self _) ?_ (fun dn K ⟨s,_,_⟩=>⟨s.r.lp,(s.r.old _ hc.1 hc.2).trans gc,hm.keep (s.r.old _ hid.1 hid.2)⟩) (fun dn K K' ⟨s,h1,h2⟩ e=>⟨s.but hb e,h1,h2⟩) ?_).mono fun r H ⟨h1,dn,h2,h3,h4,_⟩=>⟨h1,.inl ⟨dn,h2,h3,h4⟩⟩
 ·exact ⟨⟨Rng.start _ _ _,_,_,(e.get _ hb).trans gb,Owns.nil _ _ _,fun i hi=>by cases hi⟩,.nil,fun k hk=>by cases hk⟩
 ·rintro dn K k ⟨s,hn,hs⟩ hnk hkm hlt
  have hl:(k :: dn).length≤m.length:=by
   have:=a1a (a:=k :: dn) (b:=m.map (·.1)) (List.nodup_cons.2 ⟨hnk,hn⟩) (fun x hx=>by
    rcases List.mem_cons.1 hx with rfl | hx
    ·exact hkm
    ·exact hs x hx)
   simpa using this
  refine (k9b (hok k hkm) (by rw[List.length_cons]at hl;omega) hb f2 hlt s).mono fun r H ⟨h1,h2,h3,h4⟩=>⟨h1,⟨h2,List.nodup_cons.2 ⟨hnk,hn⟩,fun x hx=>?_⟩,(h2.r.old _ hid.1 hid.2).trans (s.r.old _ hid.1 hid.2).symm,h3,h4⟩
  rcases List.mem_cons.1 hx with rfl | hx
  ·exact hkm
  ·exact hs x hx
theorem h5b {fk:FuncId} (Y:p6a fk) (hg:K0a Try.prog fk=true) {h:DHeap} {c id:Nat} {m:List (Key × Value)} (hlen:m.length≤4294967296) (hok:∀ k∈m.map (·.1),fKey.ok k) (hc:c<h.next) (gc:h.get c=some (.row [.map (some id)] 0 false)) (hid:id<h.next) (hm:MapAt Zk h id m) :
 Ct Try.prog 43 [.slice none 0 0,.func (.func fk) #[] #[.pointer (some ⟨c,0,none⟩)]] h fun r h1=>∃ v dn,r=.ret v∧dn.Nodup∧(∀ k,k∈dn↔k∈m.map (·.1))∧Made fKey h h1 v dn:=by
 refine A3d (by simp) ?_
 obtain ⟨H0,hH0⟩:∃ H,H=h.push (.row [.slice none 0 0] 0 false):=⟨_,rfl⟩
 have hE0:Ext h H0:=by rw[hH0];exact Ext.push1 _ _
 have hH0n:H0.next=h.next+1:=by rw[hH0];rfl
 have gb:H0.get h.next=some (.row [.slice none 0 0] 0 false):=by rw[hH0];exact Zz _ _
 simp -implicitDefEqProofs (disch:=first|omega|simp only[go_sem]) only[go_sem,true_and,c43,← hH0]
 refine h2c Y hg (b:=h.next) (c:=c) (id:=id) (m:=m) hlen hok vz vz (by omega) gb ⟨by omega,by omega⟩ ((hE0.get _ hc).trans gc) ⟨by omega,by omega⟩ (hm.keep (hE0.get _ hid)) (fun dn H hn hmem s=>?_)
 generalize hHf:H.set (H0.next+1) _=Hf
 obtain ⟨rr,v,w,g,o,hw⟩:=s
 have nr:=rr.nx
 have oth:∀ j,j≠H0.next+1→Hf.get j=H.get j:=fun j hj=>by rw[← hHf];exact Zx _ _ hj
 have nf:Hf.next=H.next:=by rw[← hHf];rfl
 have hEf:Ext h Hf:=by rw[← hHf];exact (rr.below hE0 fun j hj=>by rw[hj];exact Nat.le_refl _).set (by omega)
 have hM:Hf.get H0.next=some (.marks true):=(oth _ (by omega)).trans rr.mrk
 have k1:ZZ Hf h.next 0=some v:=Zy ((oth _ (by omega)).trans g)
 have o1:Owns fKey.rep NoS (Hf.set H0.next (.marks false)) v dn.reverse w:=o.mono (Nat.le_of_eq nf.symm) (fun i hi=>by have:=hw i hi;rw[Zx _ _ (by omega),oth _ (by omega)]) (fun i hi=>hi.elim)
 simp -implicitDefEqProofs (disch:=first|omega|simp only[go_sem]) only[go_sem,true_and,k1]
 refine X2b hM ?_
 simp -implicitDefEqProofs (disch:=first|omega|simp only[go_sem]) only[go_sem,true_and]
 exact ⟨_,rfl,v,dn.reverse,rfl,List.pairwise_reverse.2 (hn.imp fun h=>h.symm),fun k=>by rw[List.mem_reverse];exact hmem k,hEf.set (by omega),w,o1,fun i hi=>by have:=hw i hi;omega⟩
end Go.Proofs.Ytheamfnbfgiaeaa
namespace Go.D
variable {P:Program} {nt:Nat}
section
variable {ops:Array Oper} {o:Oper} {s:St} {E:DHeap→DHeap→Prop} {V:Nat→DHeap→Value→Prop} {cons:Nat→Option Nat} {b:List Nat} {i:Nat} {Q:Zv→St→Prop} {v:Value} {h':DHeap}
end
end Go.D
namespace Go.Proofs.Ytheamfnbfgiaeaa
open Go.D
open Go.Sort
set_option maxRecDepth 100000
theorem j2a {a b:Key}:YJ a b=true↔a.t<b.t∨(a.t=b.t∧a.r<b.r):=by simp[YJ]
theorem k1a (a:Key):YJ a a=false:=by
 cases h:YJ a a with
 | false=>rfl
 | true=>have:=j2a.1 h;omega
theorem n3a {a b c:Key} (h:YJ a b=true) (g:YJ b c=true):YJ a c=true:=by
 rw[j2a]at *;omega
theorem i0b {a b:Key} (h:YJ a b=true):YJ b a=false:=by
 cases g:YJ b a with
 | false=>rfl
 | true=>rw[j2a]at h g;omega
theorem f8c {a b:Key} (h:a.t=b.t) (g:a.r=b.r):a=b:=by cases a;cases b;simp at h g;simp[h,g]
theorem F2a {a b:Key} (h:YJ a b=false) (hn:a≠b):YJ b a=true:=by
 rw[j2a]
 have h':¬ (a.t<b.t∨(a.t=b.t∧a.r<b.r)):=fun hh=>by rw[j2a.2 hh]at h;cases h
 by_cases ht:a.t=b.t
 ·have:a.r≠b.r:=fun hr=>hn (f8c ht hr)
  omega
 ·omega
theorem P1b:SWO YJ where
 irrefl:=k1a
 trans:=fun _ _ _ h g=>n3a h g
 ntrans:=fun x y z h g=>by
  cases k:YJ x z with
  | false=>rfl
  | true=>
    have h':¬ (x.t<y.t∨(x.t=y.t∧x.r<y.r)):=fun hh=>by rw[j2a.2 hh]at h;cases h
    have g':¬ (y.t<z.t∨(y.t=z.t∧y.r<z.r)):=fun hh=>by rw[j2a.2 hh]at g;cases g
    have:=j2a.1 k
    omega
abbrev UpK (l:List Key):Prop:=l.Pairwise fun a b=>YJ a b=true
theorem O2b:∀ {l m:List Key},UpK l→UpK m→(∀ x,x∈l↔x∈m)→l=m
 | [],[],_,_,_=>rfl
 | [],y :: m,_,_,h=>absurd ((h y).2 List.mem_cons_self) (by simp)
 | x :: l,[],_,_,h=>absurd ((h x).1 List.mem_cons_self) (by simp)
 | x :: l,y :: m,hl,hm,h=>by
   obtain ⟨hx,hl'⟩:=List.pairwise_cons.1 hl
   obtain ⟨hy,hm'⟩:=List.pairwise_cons.1 hm
   have e:x=y:=by
    rcases List.mem_cons.1 ((h x).1 List.mem_cons_self) with e | e
    ·exact e
    ·rcases List.mem_cons.1 ((h y).2 List.mem_cons_self) with e' | e'
     ·exact e'.symm
     ·have a:=hx y e'
      rw[i0b (hy x e)]at a
      cases a
   subst e
   refine congrArg (x :: ·) (O2b hl' hm' fun z=>⟨fun hz=>?_,fun hz=>?_⟩)
   ·rcases List.mem_cons.1 ((h z).1 (List.mem_cons_of_mem _ hz)) with e | e
    ·subst e;have:=hx z hz;rw[k1a]at this;cases this
    ·exact e
   ·rcases List.mem_cons.1 ((h z).2 (List.mem_cons_of_mem _ hz)) with e | e
    ·subst e;have:=hy z hz;rw[k1a]at this;cases this
    ·exact e
def i3a (x:Key):List Key→List Key
 | []=>[x]
 | y :: l=>if YJ y x=true then y :: i3a x l else if y=x then y :: l else x :: y :: l
def d4a (l:List Key):List Key:=l.foldl (fun r x=>i3a x r) []
theorem v9a {x z:Key}:∀ {l:List Key},z∈i3a x l↔z=x∨z∈l
 | []=>by simp[i3a]
 | y :: l=>by
   unfold i3a
   split
   ·rw[List.mem_cons,v9a,List.mem_cons]
    constructor
    ·rintro (h | h | h) <;> simp[h]
    ·rintro (h | h | h) <;> simp[h]
   ·split
    ·rename_i e;subst e
     simp
    ·simp
theorem y6b {x:Key}:∀ {l:List Key},UpK l→UpK (i3a x l)
 | [],_=>by simp[i3a]
 | y :: l,h=>by
   obtain ⟨hy,hl⟩:=List.pairwise_cons.1 h
   unfold i3a
   split
   ·rename_i e
    refine List.pairwise_cons.2 ⟨fun z hz=>?_,y6b hl⟩
    rcases v9a.1 hz with rfl | hz
    ·exact e
    ·exact hy z hz
   ·rename_i e
    split
    ·exact h
    ·rename_i hn
     have hxy:=F2a (by simpa using e) hn
     refine List.pairwise_cons.2 ⟨fun z hz=>?_,h⟩
     rcases List.mem_cons.1 hz with rfl | hz
     ·exact hxy
     ·exact n3a hxy (hy z hz)
theorem o4b {x:Key}:∀ {l:List Key},(i3a x l).length≤l.length+1
 | []=>by simp[i3a]
 | y :: l=>by
   unfold i3a
   have:=o4b (x:=x) (l:=l)
   split
   ·simp;omega
   ·split <;> simp
theorem p9a:∀ (l r:List Key),UpK r→UpK (l.foldl (fun r x=>i3a x r) r)∧∀ z,z∈l.foldl (fun r x=>i3a x r) r↔z∈l∨z∈r
 | [],r,h=>by simp[h]
 | x :: l,r,h=>by
   obtain ⟨a,b⟩:=p9a l (i3a x r) (y6b h)
   refine ⟨a,fun z=>?_⟩
   rw[List.foldl_cons,b z,v9a,List.mem_cons]
   constructor
   ·rintro (h | h | h) <;> simp[h]
   ·rintro ((h | h) | h) <;> simp[h]
theorem s9a (l:List Key):UpK (d4a l):=(p9a l [] .nil).1
theorem mem_keysN {l:List Key} {z:Key}:z∈d4a l↔z∈l:=by
 have:=(p9a l [] .nil).2 z
 simpa [d4a] using this
theorem g4b:∀ (l r:List Key),(l.foldl (fun r x=>i3a x r) r).length≤l.length+r.length
 | [],r=>by simp
 | x :: l,r=>by
   have h1:=g4b l (i3a x r)
   have h2:=o4b (x:=x) (l:=r)
   simp only[List.foldl_cons,List.length_cons]
   omega
theorem Q1b (l:List Key):(d4a l).length≤l.length:=by simpa [d4a] using g4b l []
def Wz:List Key→List Key
 | []=>[]
 | [x]=>[x]
 | x :: y :: l=>if x=y then Wz (y :: l) else x :: Wz (y :: l)
theorem T5a {z:Key}:∀ {l:List Key},z∈Wz l↔z∈l
 | []=>by simp[Wz]
 | [x]=>by simp[Wz]
 | x :: y :: l=>by
   unfold Wz
   have:=T5a (z:=z) (l:=y :: l)
   split
   ·rename_i e;subst e
    rw[this];simp
   ·rw[List.mem_cons,this];simp
theorem i9a:∀ {l:List Key},l.Pairwise (fun a b=>YJ b a=false)→UpK (Wz l)
 | [],_=>by simp[Wz]
 | [x],_=>by simp[Wz]
 | x :: y :: l,h=>by
   obtain ⟨hx,hl⟩:=List.pairwise_cons.1 h
   unfold Wz
   split
   ·exact i9a hl
   ·rename_i hn
    have hxy:=F2a (hx y List.mem_cons_self) (fun e=>hn e.symm)
    refine List.pairwise_cons.2 ⟨fun z hz=>?_,i9a hl⟩
    rcases List.mem_cons.1 (T5a.1 hz) with rfl | hz
    ·exact hxy
    ·have hyz:=(List.pairwise_cons.1 hl).1 z hz
     by_cases e:z=y
     ·rw[e];exact hxy
     ·exact n3a hxy (F2a hyz e)
theorem R1b {l l':List Key} (hp:l'.Perm l) (hs:l'.Pairwise (fun a b=>YJ b a=false)):Wz l'=d4a l:=
 O2b (i9a hs) (s9a l) fun z=>by rw[T5a,mem_keysN,hp.mem_iff]
instance:Inhabited Key:=⟨⟨0,0⟩⟩
theorem n6a {l:List Key} {n:Nat} (hn:n=l.length) (h:SortedIn YJ 0 n l.toArray):l.Pairwise (fun a b=>YJ b a=false):=by
 subst hn
 refine List.pairwise_iff_getElem.2 fun i j hi hj hij=>?_
 have:=h i j (Nat.zero_le _) hij hj
 simpa [hi,hj] using this
end Go.Proofs.Ytheamfnbfgiaeaa
namespace Go.Proofs.Ytheamfnbfgiaeaa
open Go.D
set_option maxRecDepth 100000
theorem _root_.Go.D.Made.base {α:Type} {F:FRep α} {h0 h1 h2:DHeap} {v:Value} {l:List α} (m:Made F h1 h2 v l) (e:Ext h0 h1):Made F h0 h2 v l:=by
 obtain ⟨w,a,b⟩:=m.own
 exact ⟨e.trans m.ext,w,a,fun i hi=>Nat.le_trans e.next (b i hi)⟩
end Go.Proofs.Ytheamfnbfgiaeaa
namespace Go.D
variable {P:Program} {α:Type}
def RowIs (F:FRep α) (h:DHeap) (id:Nat) (A:List α):Prop:=h.get id=some (.row (A.flatMap F.enc) F.z false)
theorem g7a (vs:List Value):∀ (x B:List Value),vs.length=x.length→YW (x++B) 0 vs=vs++B:=fun x B hl=>by
 refine List.ext_getElem? fun i=>?_
 rw[N3a]
 by_cases h1:i<vs.length
 ·rw[if_pos ⟨Nat.zero_le _,by omega,by simp;omega⟩,Nat.sub_zero,List.getElem?_append_left h1]
 ·rw[if_neg (by omega),List.getElem?_append_right (by omega),List.getElem?_append_right (by omega),hl]
theorem y5b (F:FRep α) {A:List α} {k:Nat} (hk:k<A.length) (x:α):YW (A.flatMap F.enc) (k*F.z) (F.enc x)=(A.set k x).flatMap F.enc:=by
 have h1:A.flatMap F.enc=(A.take k).flatMap F.enc++(F.enc A[k]++(A.drop (k+1)).flatMap F.enc):=by
  conv=>lhs;rw[← List.take_append_drop k A,List.drop_eq_getElem_cons hk]
  rw[List.flatMap_append,List.flatMap_cons]
 have h2:(A.set k x).flatMap F.enc=(A.take k).flatMap F.enc++(F.enc x++(A.drop (k+1)).flatMap F.enc):=by
  rw[List.set_eq_take_append_cons_drop,if_pos hk,List.flatMap_append,List.flatMap_cons]
 have h3:k*F.z=((A.take k).flatMap F.enc).length+0:=by rw[ZU];simp[Nat.min_eq_left (Nat.le_of_lt hk)]
 rw[h1,h2,h3,b2b,g7a _ _ _ (by rw[F.len,F.len])]
theorem RowIs.store {F:FRep α} {h:DHeap} {id k:Nat} {A:List α} (r:RowIs F h id A) (hk:k<A.length) (x:α):storeAt h id (k*F.z) (F.enc x)=some (h.set id (.row ((A.set k x).flatMap F.enc) F.z false)):=by
 have hm:(k+1)*F.z≤A.length*F.z:=Nat.mul_le_mul_right _ hk
 rw[Nat.succ_mul]at hm
 rw[b0a r (by rw[F.len,ZU];exact hm) ?_,y5b F hk]
 refine List.all_eq_true.2 fun v hv=>?_
 have:=List.all_eq_true.1 (F.flat x) v hv
 unfold Yw at this
 cases v <;> first | rfl | cases this
theorem RowIs.set {F:FRep α} {h:DHeap} {id:Nat} {A:List α} {z:Nat} (hz:z=F.z):RowIs F (h.set id (.row (A.flatMap F.enc) z false)) id A:=by
 subst hz;exact Zq _ _
theorem RowIs.sl {F:FRep α} {h:DHeap} {id o n c:Nat} {A:List α} (r:RowIs F h id A) (hn:o+n≤A.length) (hok:∀ x∈A,F.ok x):Sl F.rep (fun i=>i=id) h (.slice (some ⟨id,o*F.z,none⟩) n c) ((A.drop o).take n):=by
 have hl:((A.drop o).take n).length=n:=by simp;omega
 have hm:(o+n)*F.z≤A.length*F.z:=Nat.mul_le_mul_right _ hn
 rw[Nat.add_mul]at hm
 refine .inr ⟨id,o*F.z,c,A.flatMap F.enc,F.z,false,by rw[hl],rfl,r,.inr rfl,?_,?_⟩
 ·rw[hl,ZU];exact hm
 ·refine Els.flat.2 ⟨?_,fun x hx=>hok x (List.mem_of_mem_drop (List.mem_of_mem_take hx))⟩
  rw[hl]
  have h1:A.flatMap F.enc=(A.take o).flatMap F.enc++(((A.drop o).take n).flatMap F.enc++(A.drop (o+n)).flatMap F.enc):=by
   rw[← List.flatMap_append,← List.flatMap_append]
   congr 1
   rw[← List.drop_drop,List.take_append_drop,List.take_append_drop]
  have h2:o*F.z=((A.take o).flatMap F.enc).length:=by rw[ZU];simp[Nat.min_eq_left (show o≤A.length by omega)]
  have h3:n*F.rep.z=(((A.drop o).take n).flatMap F.enc).length:=by rw[ZU,hl];rfl
  rw[h1,h2,List.drop_left,h3,List.take_left]
theorem a5a {t:TypeId} {z id o n c:Nat} {h:DHeap} {cs:List Value} {lo hi:Option Value} {i j:Nat} (hz:G0a P t=some z) (hp:0<z) (hg:h.get id=some (.row cs z false)) (hj:Yj hi n n=some j) (hi2:Yj lo 0 j=some i) :
 Xq P t (.slice (some ⟨id,o,none⟩) n c) lo hi none h=some (.slice (some ⟨id,o+i*z,none⟩) (j - i) (if j=n∧c=n then j - i else j - i+1)):=by
 unfold G0a at hz
 split at hz
 ·rename_i e e1
  cases e2:P.info? e with
  | none=>rw[e2]at hz;cases hz
  | some inf=>
    rw[e2]at hz
    have hsz:inf.size=z:=by simpa using hz
    have hfit:D1a h id inf.size=true:=by simp[D1a,hg,hsz]
    simp only[Xq,e1,e2]
    rw[if_pos ⟨hfit,by rw[hsz];exact hp⟩]
    simp only[Yj]at hj hi2 ⊢
    simp only[hj,hi2,hsz]
 ·cases hz
def L9a (P:Program) (t:TypeId):Option (Nat × Value):=
 match P.underlying t with
 | some (.slice e)=>(P.info? e).bind fun i=>i.zero.map fun z=>(z.cells.size,z)
 | _=>none
theorem R9a {t:TypeId} {zc id o n c esz:Nat} {zv:Value} {h:DHeap} {cs:List Value} (hz:L9a P t=some (zc,zv)) (hall:zv.cells.toList.all Yw=true) (hg:h.get id=some (.row cs esz false)) (hl:o+n*zc≤cs.length) :
 ∃ zs:List Value,zs.length=n*zc∧k3a P #[t] (.slice (some ⟨id,o,none⟩) n c) h=some (.tuple #[],h.set id (.row (YW cs o zs) esz false)):=by
 unfold L9a at hz
 split at hz
 ·rename_i e e1
  cases e2:P.info? e with
  | none=>rw[e2]at hz;cases hz
  | some inf=>
    rw[e2]at hz
    rw[Option.bind_some]at hz
    cases e3:inf.zero with
    | none=>rw[e3]at hz;simp at hz
    | some z=>
      rw[e3]at hz
      simp only[Option.map_some,Option.some.injEq,Prod.mk.injEq]at hz
      obtain ⟨h1,rfl⟩:=hz
      by_cases h0:n=0
      ·subst h0
       refine ⟨[],by simp,?_⟩
       simp only[k3a,List.getElem?_toArray,List.getElem?_cons_zero,e1,if_true,YW,A3a hg]
      ·refine ⟨(i0a z.cells (n*z.cells.size)).toList,by simp[i0a,h1],?_⟩
       simp only[k3a,List.getElem?_toArray,List.getElem?_cons_zero,e1,if_neg h0,e2,e3,hg]
       rw[if_pos ⟨hall,by rw[h1];exact hl⟩]
 ·cases hz
theorem B8c {F:FRep α} {h:DHeap} {id k c:Nat} {B:List α} {cs zs:List Value} (hg:h.get id=some (.row (YW cs (k*F.z) zs) F.z false)) (hk:k=B.length) (hl:k*F.z≤cs.length) (hB:cs.take (k*F.z)=B.flatMap F.enc) (hok:∀ x∈B,F.ok x):Sl F.rep (fun i=>i=id) h (.slice (some ⟨id,0,none⟩) k c) B:=by
 subst hk
 refine .inr ⟨id,0,c,_,F.z,false,rfl,rfl,hg,.inr rfl,?_,Els.flat.2 ⟨?_,hok⟩⟩
 ·rw[U2a];show 0+B.length*F.z≤_;omega
 ·rw[← hB,List.drop_zero]
  refine List.ext_getElem? fun i=>?_
  show (List.take (B.length*F.z) _)[i]? = _
  rw[List.getElem?_take,List.getElem?_take,N3a]
  split
  ·rw[if_neg (by omega)]
  ·rfl
end Go.D
namespace Go.Proofs.Ytheamfnbfgiaeaa
open Go.D
set_option maxRecDepth 100000
theorem N9a {x y:Key}:∀ {L:List Key},Wz (L++[y,x])=if y=x then Wz (L++[y]) else Wz (L++[y])++[x]
 | []=>by
   simp only[List.nil_append,Wz]
   split
   ·rename_i e;rw[e]
   ·rfl
 | [z]=>by
   simp only[List.cons_append,List.nil_append,Wz]
   by_cases h1:z=y <;> by_cases h2:y=x <;> simp[h1,h2]
 | z :: w :: L=>by
   have ih:=N9a (x:=x) (y:=y) (L:=w :: L)
   simp only[List.cons_append,Wz]at ih ⊢
   by_cases h1:z=w
   ·rw[if_pos h1,if_pos h1];exact ih
   ·rw[if_neg h1,if_neg h1,ih]
    split <;> simp
theorem U3a {l:List Key} {m:Nat} (hm:m+1<l.length):Wz (l.take (m+1+1))=if l[m]=l[m+1] then Wz (l.take (m+1)) else Wz (l.take (m+1))++[l[m+1]]:=by
 rw[List.take_succ_eq_append_getElem hm,List.take_succ_eq_append_getElem (show m<l.length by omega),List.append_assoc]
 exact N9a
theorem B8a {K:DHeap} {id i:Nat} {A:List Key} (r:RowIs fKey K id A) (hi:i<A.length):Zj K id (i*2) 2=some (Zk A[i]):=by
 have hm:(i+1)*2≤A.length*2:=Nat.mul_le_mul_right _ hi
 have h1:A.flatMap fKey.enc=(A.take i).flatMap fKey.enc++(fKey.enc A[i]++(A.drop (i+1)).flatMap fKey.enc):=by
  conv=>lhs;rw[← List.take_append_drop i A,List.drop_eq_getElem_cons hi]
  rw[List.flatMap_append,List.flatMap_cons]
 have h2:i*2=((A.take i).flatMap fKey.enc).length:=by rw[ZU];simp[Nat.min_eq_left (Nat.le_of_lt hi)];rfl
 rw[Zu r (by rw[ZU];show _≤A.length*2;omega),h1,h2,List.drop_left]
 rfl
structure CmpI (l:List Key) (n0 k2 k:Nat) (A:List Key):Prop where
 len:A.length=l.length
 le:n0+k2≤l.length
 one:1≤n0∧1≤k2
 kk:k=(Wz (l.take (n0+k2))).length
 hd:A.take k=Wz (l.take (n0+k2))
 lt:k<n0+k2
 tl:∀ p,k≤p→A[p]? = l[p]?
theorem CmpI.first {l:List Key} {n0:Nat} (h0:n0+1<l.length) (he:l[n0]=l[n0+1]) (hc:Wz (l.take (n0+1))=l.take (n0+1)):CmpI l (n0+1) 1 (n0+1) l where
 len:=rfl
 le:=by omega
 one:=by omega
 kk:=by rw[U3a h0,if_pos he,hc];simp;omega
 hd:=by rw[U3a h0,if_pos he,hc]
 lt:=by omega
 tl:=fun _ _=>rfl
theorem CmpI.at {l A:List Key} {n0 k2 k:Nat} (x:CmpI l n0 k2 k A) (h:n0+k2<l.length):∃ (h1:n0+k2<A.length) (h2:n0+k2 - 1<A.length),A[n0+k2]=l[n0+k2]∧A[n0+k2 - 1]=l[n0+k2 - 1]:=by
 have e:=x.len
 have:=x.one
 refine ⟨by omega,by omega,?_,?_⟩
 ·have h1:=x.tl (n0+k2) (by have:=x.lt;omega)
  rw[List.getElem?_eq_getElem (by omega),List.getElem?_eq_getElem h]at h1
  exact Option.some.inj h1
 ·have h1:=x.tl (n0+k2 - 1) (by have:=x.lt;omega)
  rw[List.getElem?_eq_getElem (by omega),List.getElem?_eq_getElem (by omega)]at h1
  exact Option.some.inj h1
theorem CmpI.same {l A:List Key} {n0 k2 k:Nat} (x:CmpI l n0 k2 k A) (h:n0+k2<l.length) (he:l[n0+k2]=l[n0+k2 - 1]):CmpI l n0 (k2+1) k A:=by
 obtain ⟨m,hm⟩:∃ m,n0+k2=m+1:=⟨n0+k2 - 1,by have:=x.one;omega⟩
 obtain ⟨a,b,c,d,e,f,g⟩:=x
 have hs:=U3a (l:=l) (m:=m) (by omega)
 simp only[hm,Nat.add_sub_cancel]at he
 rw[if_pos he.symm]at hs
 refine ⟨a,by omega,by omega,?_,?_,by omega,g⟩
 ·rw[← Nat.add_assoc,hm,hs,← hm];exact d
 ·rw[← Nat.add_assoc,hm,hs,← hm];exact e
theorem CmpI.other {l A:List Key} {n0 k2 k:Nat} (x:CmpI l n0 k2 k A) (h:n0+k2<l.length) (he:¬ l[n0+k2]=l[n0+k2 - 1]):CmpI l n0 (k2+1) (k+1) (A.set k l[n0+k2]):=by
 obtain ⟨m,hm⟩:∃ m,n0+k2=m+1:=⟨n0+k2 - 1,by have:=x.one;omega⟩
 obtain ⟨a,b,c,d,e,f,g⟩:=x
 have hs:=U3a (l:=l) (m:=m) (by omega)
 have he':¬ l[m]=l[m+1]:=fun hh=>he (by simp only[hm,Nat.add_sub_cancel];exact hh.symm)
 rw[if_neg he']at hs
 refine ⟨by simp[a],by omega,by omega,?_,?_,by omega,fun p hp=>?_⟩
 ·rw[← Nat.add_assoc]
  simp only[hm]at d ⊢
  rw[hs,List.length_append,← d]
  rfl
 ·rw[← Nat.add_assoc]
  simp only[hm]at e ⊢
  rw[hs,← e,List.take_succ_eq_append_getElem (by simp;omega),List.take_set_of_le (Nat.le_refl _)]
  simp
 ·rw[List.getElem?_set_ne (by omega)]
  exact g p (by omega)
theorem P9c:L9a Try.prog 24=some (2,.agg #[.int .i32 0,.int .i64 0]):=by kernel_rfl
set_option maxHeartbeats 1000000 in
theorem D9b {h:DHeap} {id c:Nat} {l:List Key} (hr:RowIs fKey h id l) (hok:∀ x∈l,fKey.ok x) (hl:l.length≤1048576) :
 Ct Try.prog 79 [.slice (some ⟨id,0,none⟩) l.length c] h fun r h1=>∃ c' cs,r=.ret (.slice (some ⟨id,0,none⟩) (Wz l).length c')∧h1=h.set id (.row cs 2 false)∧Sl fKey.rep (fun i=>i=id) h1 (.slice (some ⟨id,0,none⟩) (Wz l).length c') (Wz l):=by
 refine Y4c (by simp) ?_
 obtain ⟨v,hv⟩:∃ v,Value.slice (some ⟨id,0,none⟩) l.length c=v:=⟨_,rfl⟩
 have el:∀ K,dLen Try.prog #[24] v K=some (.int .i64 (l.length:Nat)):=fun K=>by rw[← hv];rfl
 have hself:h=h.set id (.row (l.flatMap fKey.enc) 2 false):=(A3a hr).symm
 have done1:Wz l=l→∃ u,some v=some u∧∃ c' cs,DEnd.ret u=.ret (.slice (some ⟨id,0,none⟩) (Wz l).length c')∧h=h.set id (.row cs 2 false)∧Sl fKey.rep (fun i=>i=id) h (.slice (some ⟨id,0,none⟩) (Wz l).length c') (Wz l):=fun e=>by
  refine ⟨v,rfl,c,_,by rw[← hv,e],hself,?_⟩
  have:=hr.sl (o:=0) (n:=l.length) (c:=c) (by omega) hok
  rw[e]
  simpa using this
 by_cases h2:(l.length:Int)<2
 ·have h2':=eq_true h2
  simp -implicitDefEqProofs (disch:=first|omega|simp only[go_sem]) only[go_sem,true_and,c79,hv,el,h2']
  refine done1 ?_
  match l,h2 with
  | [],_=>rfl
  | [_],_=>rfl
  | _ :: _ :: _,h=>simp at h;omega
 have hz2:2≤l.length:=by omega
 have ia:∀ i:Nat,i<l.length→ZQ Try.prog 24 v (.int .i64 (i:Nat))=some (.pointer (some ⟨id,i*2,none⟩)):=fun i hi=>by
  rw[← hv]
  refine (r3a Z3a (by omega) (by omega)).trans ?_
  rw[Nat.zero_add,Int.toNat_natCast]
 have slo:∀ K (A:List Key) (k:Nat),RowIs fKey K id A→k≤l.length→∃ c',Xq Try.prog 24 v (some (.int .i64 (k:Nat))) none none K=some (.slice (some ⟨id,k*2,none⟩) (l.length - k) c'):=fun K A k r hk=>by
  rw[← hv]
  have:=a5a (c:=c) (o:=0) (n:=l.length) Z3a (by decide) r (lo:=some (.int .i64 (k:Nat))) (hi:=none) (j:=l.length) (i:=k) rfl (N2a (k:=.i64) hk)
  rw[Nat.zero_add]at this
  exact ⟨_,this⟩
 have shi:∀ K cs (k:Nat),K.get id=some (.row cs 2 false)→k≤l.length→∃ c',Xq Try.prog 24 v none (some (.int .i64 (k:Nat))) none K=some (.slice (some ⟨id,0,none⟩) k c'):=fun K cs k r hk=>by
  rw[← hv]
  exact ⟨_,(a5a Z3a (by decide) r (j:=k) (i:=0) (N2a (k:=.i64) hk) rfl)⟩
 have hrr:∀ A:List Key,RowIs fKey (h.set id (.row (A.flatMap fKey.enc) 2 false)) id A:=fun A=>RowIs.set rfl
 simp -implicitDefEqProofs (disch:=first|omega|simp only[go_sem]) only[go_sem,true_and,c79,hv,el,h2]
 refine XU (σ:=Nat) (by kernel_rfl) (fun j s=>s.df=[]∧s.rd=none∧s.h=h∧s.fr 0=some v∧s.fr 3=some (.int .i64 ((j+1:Nat):Int))∧j+1≤l.length∧Wz (l.take (j+1))=l.take (j+1)) (fun j=>l.length - j) 0 ?_ ?_
 ·simp -implicitDefEqProofs (disch:=first|omega|simp only[go_sem]) only[go_sem,true_and]
  refine ⟨rfl,by omega,?_⟩
  match l,hz2 with
  | x :: y :: _,_=>rfl
 rintro j ⟨fr,df,K,rd⟩ K' hK' hX ⟨rfl,rfl,rfl,f0,f3,hj,hc⟩
 simp only at f0 f3
 simp -implicitDefEqProofs (disch:=first|omega|simp only[go_sem]) only[go_sem,true_and,f0,f3,el]
 refine j0a (fun hc1=>?_) (fun hc1=>?_)
 ·have hjl:j+1<l.length:=by omega
  have hwm:IntKind.i64.wrap (((j+1:Nat):Int) - 1)=(j:Nat):=by rw[r0a (by omega) (by omega)];omega
  have hw1:=YZ hjl (by omega)
  have k1:=B8a hr hjl
  have k0:=B8a hr (show j<l.length by omega)
  simp -implicitDefEqProofs (disch:=first|omega|simp only[go_sem]) only[go_sem,true_and]
  refine n7c ?_
  by_cases heq:l[j+1]=l[j]
  case neg=>
   have heqd:decide (l[j+1]=l[j])=false:=decide_eq_false heq
   simp -implicitDefEqProofs (disch:=first|omega|simp only[go_sem]) only[go_sem,true_and,l79_0,f0,f3,hwm,ia _ hjl,ia j (show j<l.length by omega),k0,k1,d9a,heqd,B1a,hw1]
   refine hK' (j+1) _ ?_ (by omega)
   refine ⟨by trivial,by trivial,by trivial,(vy f0),vz,by omega,?_⟩
   rw[U3a hjl,if_neg (fun e=>heq e.symm),hc,List.take_succ_eq_append_getElem hjl]
  have heqd:decide (l[j+1]=l[j])=true:=decide_eq_true heq
  obtain ⟨c2,hs2⟩:=slo K l (j+1) hr (by omega)
  simp -implicitDefEqProofs (disch:=first|omega|simp only[go_sem]) only[go_sem,true_and,l79_0,f0,f3,hwm,ia _ hjl,ia j (show j<l.length by omega),k0,k1,d9a,heqd,B1a,hs2]
  obtain ⟨s2,hs2v⟩:∃ s2,Value.slice (some ⟨id,(j+1)*2,none⟩) (l.length - (j+1)) c2=s2:=⟨_,rfl⟩
  have el2:∀ K,dLen Try.prog #[24] s2 K=some (.int .i64 ((l.length - (j+1):Nat):Int)):=fun K=>by rw[← hs2v];rfl
  have ia2:∀ i:Nat,j+1+i<l.length→ZQ Try.prog 24 s2 (.int .i64 (i:Nat))=some (.pointer (some ⟨id,(j+1+i)*2,none⟩)):=fun i hi=>by
   rw[← hs2v]
   refine (r3a Z3a (by omega) (by omega)).trans ?_
   rw[Nat.add_mul (j+1),Int.toNat_natCast]
  rw[hs2v]
  refine XU (σ:=Nat) (by kernel_rfl) (fun i s=>s.df=[]∧s.rd=none∧s.fr 0=some v∧s.fr 4=some s2∧s.fr 5=some (.int .i64 (i:Nat))∧∃ k A,s.fr 3=some (.int .i64 (k:Nat))∧s.h=K.set id (.row (A.flatMap fKey.enc) 2 false)∧CmpI l (j+1) i k A) (fun i=>l.length - i) 1 ?_ ?_
  ·simp -implicitDefEqProofs (disch:=first|omega|simp only[go_sem]) only[go_sem,true_and,f0,f3]
   exact ⟨rfl,_,l,rfl,hself,.first hjl heq.symm hc⟩
  clear f0 f3
  rintro i ⟨fr,df,M,rd⟩ K2' hK2 hX2 ⟨rfl,rfl,f0,f4,f5,k,A,f3,hM,x⟩
  simp only at f0 f4 f5 f3 hM
  subst hM
  have hrA:=hrr A
  have xle:=x.le
  have xone:=x.one
  simp -implicitDefEqProofs (disch:=first|omega|simp only[go_sem]) only[go_sem,true_and,f4,f5,el2]
  refine j0a (fun hc2=>?_) (fun hc2=>?_)
  ·have hil:j+1+i<l.length:=by omega
   obtain ⟨hA1,hA0,eA1,eA0⟩:=x.at hil
   have k1:=B8a hrA hA1
   have k0:=B8a hrA hA0
   rw[eA1]at k1
   rw[eA0]at k0
   have hwm2:IntKind.i64.wrap (((i:Nat):Int) - 1)=((i - 1:Nat):Int):=by rw[r0a (by omega) (by omega)];omega
   have hw2:=YZ (i:=i) (show i<l.length by omega) (by omega)
   have hia1:=ia2 i hil
   have hia0:=ia2 (i - 1) (by omega)
   rw[show j+1+(i - 1)=j+1+i - 1 by omega]at hia0
   simp -implicitDefEqProofs (disch:=first|omega|simp only[go_sem]) only[go_sem,true_and]
   refine o7c ?_
   by_cases he2:l[j+1+i]=l[j+1+i - 1]
   ·have heqd2:decide (l[j+1+i]=l[j+1+i - 1])=true:=decide_eq_true he2
    simp -implicitDefEqProofs (disch:=first|omega|simp only[go_sem]) only[go_sem,true_and,l79_1,f4,f5,hwm2,hia1,hia0,k0,k1,b6b,heqd2,Bool.not_true,B1a,hw2]
    refine hK2 (i+1) _ ?_ (by omega)
    exact ⟨by trivial,by trivial,(vy f0),(vy f4),vz,k,A,(vy f3),by trivial,x.same hil he2⟩
   ·have heqd2:decide (l[j+1+i]=l[j+1+i - 1])=false:=decide_eq_false he2
    have xlt:=x.lt
    have xlen:=x.len
    have hst:storeAt (K.set id (.row (A.flatMap fKey.enc) 2 false)) id (k*2) [.int .i32 l[j+1+i].t,.int .i64 l[j+1+i].r]=some (K.set id (.row ((A.set k l[j+1+i]).flatMap fKey.enc) 2 false)):=
     (hrA.store (show k<A.length by omega) l[j+1+i]).trans (congrArg some (L6b _ _ _ _))
    have hw3:=YZ (i:=k) (show k<l.length by omega) (by omega)
    simp -implicitDefEqProofs (disch:=first|omega|simp only[go_sem]) only[go_sem,true_and,l79_1,f0,f3,f4,f5,hwm2,hia1,hia0,ia k (show k<l.length by omega),k0,k1,b6b,heqd2,Bool.not_false,B1a,hw2,hst,hw3]
    refine hK2 (i+1) _ ?_ (by omega)
    exact ⟨by trivial,by trivial,(vy f0),(vy f4),vz,k+1,A.set k l[j+1+i],vz,by trivial,x.other hil he2⟩
  ·have hil:j+1+i=l.length:=by omega
   have xlt:=x.lt
   have xlen:=x.len
   have xk:=x.kk
   have xhd:=x.hd
   rw[hil,List.take_length]at xk xhd
   obtain ⟨c3,hs3⟩:=slo _ A k hrA (by omega)
   obtain ⟨zs,hzs,hcl⟩:=R9a (esz:=2) (n:=l.length - k) (c:=c3) (o:=k*2) P9c rfl hrA (by rw[ZU];show _≤A.length*2;omega)
   rw[L6b]at hcl
   obtain ⟨c4,hs4⟩:=shi (K.set id (.row (YW (A.flatMap fKey.enc) (k*2) zs) 2 false)) _ k (Zq _ _) (by omega)
   refine hX2 _ _ (by simp) ?_
   simp -implicitDefEqProofs (disch:=first|omega|simp only[go_sem]) only[go_sem,true_and,f0,f3,hs3,hcl,hs4]
   refine hX _ _ (by simp) ?_
   simp -implicitDefEqProofs (disch:=first|omega|simp only[go_sem]) only[go_sem,true_and]
   refine ⟨_,rfl,c4,_,by rw[← xk],rfl,?_⟩
   rw[← xk]
   refine B8c (cs:=A.flatMap fKey.enc) (zs:=zs) (Zq _ _) xk (by rw[ZU];show k*2≤A.length*2;omega) ?_ fun y hy=>hok y (T5a.1 hy)
   have hAk:A.flatMap fKey.enc=(A.take k).flatMap fKey.enc++(A.drop k).flatMap fKey.enc:=by rw[← List.flatMap_append,List.take_append_drop]
   have hlk:k*fKey.z=((A.take k).flatMap fKey.enc).length:=by rw[ZU];simp[Nat.min_eq_left (show k≤A.length by omega)]
   rw[hAk,hlk,List.take_left,xhd]
 ·have:j+1=l.length:=by omega
  rw[this,List.take_length]at hc
  refine hX _ _ (by simp) ?_
  simp -implicitDefEqProofs (disch:=first|omega|simp only[go_sem]) only[go_sem,true_and,f0]
  exact done1 hc
end Go.Proofs.Ytheamfnbfgiaeaa
namespace Go.Proofs.Ytheamfnbfgiaeaa
open Go.D
set_option maxRecDepth 100000
section
variable {α:Type} (key:α→Key)
def Yu (l:List α) (k:Key):Option α:=l.reverse.find? fun p=>key p=k
def byK (l:List α):List α:=(d4a (l.map key)).filterMap (Yu key l)
def Z1a (x:α):List α→List α
 | []=>[x]
 | y :: r=>if YJ (key y) (key x)=true then y :: Z1a x r else if key y=key x then x :: r else x :: y :: r
abbrev UpB (l:List α):Prop:=l.Pairwise fun a b=>YJ (key a) (key b)=true
variable {key}
theorem f0a {l:List α} {k:Key} {x:α} (h:Yu key l k=some x):x∈l∧key x=k:=by
 refine ⟨List.mem_reverse.1 (List.mem_of_find?_eq_some h),?_⟩
 have:=List.find?_some h
 simpa using this
theorem U6a {l:List α} {k:Key}:Yu key l k=none↔k∉l.map key:=by
 unfold Yu
 rw[List.find?_eq_none]
 constructor
 ·intro h hm
  obtain ⟨p,hp,rfl⟩:=List.mem_map.1 hm
  have:=h p (List.mem_reverse.2 hp)
  simp at this
 ·intro h p hp e
  exact h (List.mem_map.2 ⟨p,List.mem_reverse.1 hp,by simpa using e⟩)
theorem R5a {l:List α} {k:Key} (h:k∈l.map key):∃ x,Yu key l k=some x:=by
 cases hq:Yu key l k with
 | some q=>exact ⟨q,rfl⟩
 | none=>exact absurd h (U6a.1 hq)
theorem k0b {l:List α} {x:α} {k:Key}:Yu key (l++[x]) k=if key x=k then some x else Yu key l k:=by
 unfold Yu
 rw[List.reverse_append]
 by_cases h:key x=k
 ·simp[h]
 ·simp[h]
theorem G3a {l:List α} {x:α}:x∈byK key l↔Yu key l (key x)=some x:=by
 unfold byK
 rw[List.mem_filterMap]
 constructor
 ·rintro ⟨k,_,hx⟩
  rw[(f0a hx).2]
  exact hx
 ·intro h
  exact ⟨key x,mem_keysN.2 (List.mem_map.2 ⟨x,(f0a h).1,rfl⟩),h⟩
theorem S3a (l:List α):UpB key (byK key l):=by
 unfold byK UpB
 rw[List.pairwise_filterMap]
 exact (s9a (l.map key)).imp fun {a b} hab x hx y hy=>by
  rw[(f0a hx).2,(f0a hy).2]
  exact hab
theorem H0b:∀ {l m:List α},UpB key l→UpB key m→(∀ x,x∈l↔x∈m)→l=m
 | [],[],_,_,_=>rfl
 | [],y :: m,_,_,h=>by have:=(h y).2 (by simp);simp at this
 | x :: l,[],_,_,h=>by have:=(h x).1 (by simp);simp at this
 | x :: l,y :: m,hl,hm,h=>by
   obtain ⟨hx,hl'⟩:=List.pairwise_cons.1 hl
   obtain ⟨hy,hm'⟩:=List.pairwise_cons.1 hm
   have e:x=y:=by
    rcases List.mem_cons.1 ((h x).1 (by simp)) with e | hxm
    ·exact e
    rcases List.mem_cons.1 ((h y).2 (by simp)) with e | hyl
    ·exact e.symm
    have h1:=hy x hxm
    have h2:=hx y hyl
    rw[i0b h1]at h2
    cases h2
   subst e
   congr 1
   refine H0b hl' hm' fun z=>?_
   have nx:∀ {k:List α},(∀ w∈k,YJ (key x) (key w)=true)→z∈k→z≠x:=fun hk hz e=>by
    subst e
    have:=hk z hz
    rw[k1a]at this
    cases this
   constructor
   ·intro hz
    rcases List.mem_cons.1 ((h z).1 (List.mem_cons_of_mem _ hz)) with e | hz2
    ·exact absurd e (nx hx hz)
    ·exact hz2
   ·intro hz
    rcases List.mem_cons.1 ((h z).2 (List.mem_cons_of_mem _ hz)) with e | hz2
    ·exact absurd e (nx hy hz)
    ·exact hz2
theorem u9a {x z:α}:∀ {l:List α},UpB key l→(z∈Z1a key x l↔z=x∨z∈l∧key z≠key x)
 | [],_=>by simp[Z1a]
 | y :: l,h=>by
   obtain ⟨hy,hl⟩:=List.pairwise_cons.1 h
   unfold Z1a
   by_cases h1:YJ (key y) (key x)=true
   ·rw[if_pos h1,List.mem_cons,u9a hl,List.mem_cons]
    have hne:key y≠key x:=fun e=>by rw[e,k1a]at h1;cases h1
    constructor
    ·rintro (rfl | rfl | ⟨a,b⟩)
     ·exact .inr ⟨.inl rfl,hne⟩
     ·exact .inl rfl
     ·exact .inr ⟨.inr a,b⟩
    ·rintro (rfl | ⟨rfl | a,b⟩)
     ·exact .inr (.inl rfl)
     ·exact .inl rfl
     ·exact .inr (.inr ⟨a,b⟩)
   ·rw[if_neg h1]
    by_cases h2:key y=key x
    ·rw[if_pos h2,List.mem_cons,List.mem_cons]
     constructor
     ·rintro (rfl | a)
      ·exact .inl rfl
      ·refine .inr ⟨.inr a,fun e=>?_⟩
       have:=hy z a
       rw[h2,e,k1a]at this
       cases this
     ·rintro (rfl | ⟨rfl | a,b⟩)
      ·exact .inl rfl
      ·exact absurd h2 b
      ·exact .inr a
    ·rw[if_neg h2,List.mem_cons,List.mem_cons]
     have hlt:YJ (key x) (key y)=true:=F2a (by simpa using h1) h2
     constructor
     ·rintro (rfl | rfl | a)
      ·exact .inl rfl
      ·exact .inr ⟨.inl rfl,h2⟩
      ·refine .inr ⟨.inr a,fun e=>?_⟩
       have:=n3a hlt (hy z a)
       rw[e,k1a]at this
       cases this
     ·rintro (rfl | ⟨rfl | a,b⟩)
      ·exact .inl rfl
      ·exact .inr (.inl rfl)
      ·exact .inr (.inr a)
theorem w8a {x:α}:∀ {l:List α},UpB key l→UpB key (Z1a key x l)
 | [],_=>by simp[Z1a,UpB]
 | y :: l,h=>by
   obtain ⟨hy,hl⟩:=List.pairwise_cons.1 h
   unfold Z1a
   by_cases h1:YJ (key y) (key x)=true
   ·rw[if_pos h1]
    refine List.pairwise_cons.2 ⟨fun z hz=>?_,w8a hl⟩
    rcases (u9a hl).1 hz with rfl | ⟨a,_⟩
    ·exact h1
    ·exact hy z a
   ·rw[if_neg h1]
    by_cases h2:key y=key x
    ·rw[if_pos h2]
     exact List.pairwise_cons.2 ⟨fun z hz=>by rw[← h2];exact hy z hz,hl⟩
    ·rw[if_neg h2]
     have hlt:YJ (key x) (key y)=true:=F2a (by simpa using h1) h2
     refine List.pairwise_cons.2 ⟨fun z hz=>?_,h⟩
     rcases List.mem_cons.1 hz with rfl | hz
     ·exact hlt
     ·exact n3a hlt (hy z hz)
theorem q3b {l:List α} (h:UpB key l):byK key l=l:=by
 refine H0b (S3a _) h fun z=>?_
 rw[G3a]
 constructor
 ·exact fun e=>(f0a e).1
 ·intro hz
  obtain ⟨y,hy⟩:=R5a (key:=key) (List.mem_map.2 ⟨z,hz,rfl⟩)
  obtain ⟨h1,h2⟩:=f0a hy
  rw[hy]
  congr 1
  obtain ⟨i,hi,rfl⟩:=List.getElem_of_mem h1
  obtain ⟨j,hj,rfl⟩:=List.getElem_of_mem hz
  rcases Nat.lt_trichotomy i j with hij | rfl | hij
  ·have:=List.pairwise_iff_getElem.1 h i j hi hj hij
   rw[h2,k1a]at this
   cases this
  ·rfl
  ·have:=List.pairwise_iff_getElem.1 h j i hj hi hij
   rw[h2,k1a]at this
   cases this
theorem r6a (l:List α):(byK key l).length≤l.length:=by
 have h1:=List.length_filterMap_le (Yu key l) (d4a (l.map key))
 have h2:=Q1b (l.map key)
 rw[List.length_map]at h2
 exact Nat.le_trans h1 h2
theorem j5a {l:List α} {x:α} (h:x∈byK key l):x∈l:=(f0a (G3a.1 h)).1
theorem m4b {x:α}:∀ {l:List α},(Z1a key x l).length≤l.length+1
 | []=>by simp[Z1a]
 | y :: l=>by
   unfold Z1a
   have:=m4b (x:=x) (l:=l)
   repeat' split
   all_goals simp
   omega
end
end Go.Proofs.Ytheamfnbfgiaeaa
namespace Go.Proofs.Ytheamfnbfgiaeaa
open Go.D
set_option maxRecDepth 100000
structure V2b where
 e:Int
 vs:List Int
 ch:List Change
 s:Int
 deriving DecidableEq
structure RS where
 reg:List Int
 w:List Change
 out:List Int
def W2a (m:List Pair) (w:List Change) (k:Key):Int × Bool:=
 match Yu Change.k w k with
 | some c=>(c.v,!c.e)
 | none=>match Yu Pair.k m k with
   | some p=>(p.v,true)
   | none=>(0,false)
def f2a (t:Txn) (l:List Pair):List Pair:=(byK Pair.k l).filter fun p=>decide (p.k∈t.reads)
def y3a:Key:=⟨0,0⟩
def O9c:Change:=⟨y3a,0,false⟩
abbrev RS.r (s:RS) (i:Int):Int:=s.reg.getD i.toNat 0
abbrev RS.set (s:RS) (i:Int) (v:Int):RS:={ s with reg:=s.reg.set i.toNat v }
abbrev RS.put (s:RS) (c:Change):RS:={ s with w:=s.w++[c] }
def I2a (x:Instr) (s:RS):Key:=⟨IntKind.i32.wrap x.imm,s.r x.b⟩
def ZY (t:Txn) (m:List Pair) (x:Instr) (s:RS):Int × RS × Option Int:=
 if x.op=0 then (0,s,none)
 else if x.op=1 then (-1,s.set x.a x.imm,none)
 else if x.op=2 then (-1,s.set x.a (t.args.getD x.imm.toNat 0),none)
 else if x.op=7 then (-1,s.set x.a (s.r x.b),none)
 else if x.op=3 then (-1,s.set x.a (W2a m s.w (t.reads.getD x.imm.toNat y3a)).1,none)
 else if x.op=4 then (-1,s.set x.a (if (W2a m s.w (t.reads.getD x.imm.toNat y3a)).2 then 1 else 0),none)
 else if x.op=5 then (-1,s.put ⟨t.writes.getD x.imm.toNat y3a,s.r x.a,false⟩,none)
 else if x.op=6 then (-1,s.put ⟨t.writes.getD x.imm.toNat y3a,0,true⟩,none)
 else if x.op=19 then (-1,s.set x.a (A6a (s.r x.a) x.imm),none)
 else if x.op=22 then (-1,s,some x.imm)
 else if x.op=23 then (-1,s,if s.r x.a=0 then none else some x.imm)
 else if x.op=24 then (if 8≤s.out.length then (5,s,none) else (-1,{ s with out:=s.out++[s.r x.a] },none))
 else if x.op=25 then (100+x.imm,s,none)
 else if x.op=26 then (if I2a x s∈t.reads then (-1,s.set x.a (W2a m s.w (I2a x s)).1,none) else (4,s,none))
 else if x.op=27 then (if I2a x s∈t.writes then (-1,s.put ⟨I2a x s,s.r x.a,false⟩,none) else (4,s,none))
 else if (X1a x.op (s.r x.a) (s.r x.b)).2=0 then (-1,s.set x.a (X1a x.op (s.r x.a) (s.r x.b)).1,none)
 else ((X1a x.op (s.r x.a) (s.r x.b)).2,s,none)
def m1a (t:Txn) (m:List Pair):Nat→Nat→Nat→RS→V2b
 | n,i,k,s=>
   if t.code.length≤i then ⟨0,s.out,byK Change.k s.w,k⟩ else
   match n with
   | 0=>⟨2,[],[],k⟩
   | n+1=>
     if (ZY t m (YV t.code i) s).1=-1 then m1a t m n (((ZY t m (YV t.code i) s).2.2.getD (i+XW (t.code.getD i 0))).toNat) (k+1) (ZY t m (YV t.code i) s).2.1
     else if (ZY t m (YV t.code i) s).1=0 then ⟨0,(ZY t m (YV t.code i) s).2.1.out,byK Change.k (ZY t m (YV t.code i) s).2.1.w,(k+1:Nat)⟩
     else ⟨(ZY t m (YV t.code i) s).1,[],[],(k+1:Nat)⟩
def rs0:RS:=⟨[0,0,0,0,0,0,0,0],[],[]⟩
def c4a (f:Int):Nat:=(max 0 (min f 4096)).toNat
def z1a (t:Txn) (l:List Pair) (f:Int):V2b:=if v2a t≠0 then ⟨1,[],[],0⟩ else m1a t (f2a t l) (c4a f) 0 0 rs0
theorem i4b (f:Int):c4a f≤4096:=by unfold c4a;omega
theorem z3a {t:Txn} {m:List Pair} {n i k:Nat} {s:RS} (h:t.code.length≤i):m1a t m n i k s=⟨0,s.out,byK Change.k s.w,k⟩:=by
 unfold m1a
 rw[if_pos h]
theorem K3a {t:Txn} {m:List Pair} {i k:Nat} {s:RS} (h:i<t.code.length):m1a t m 0 i k s=⟨2,[],[],k⟩:=by
 unfold m1a
 rw[if_neg (by omega)]
theorem s5a {t:Txn} {m:List Pair} {n i k:Nat} {s:RS} (h:i<t.code.length) (hs:(ZY t m (YV t.code i) s).1=-1) :
 m1a t m (n+1) i k s=m1a t m n (((ZY t m (YV t.code i) s).2.2.getD (i+XW (t.code.getD i 0))).toNat) (k+1) (ZY t m (YV t.code i) s).2.1:=by
 conv=>lhs;unfold m1a
 rw[if_neg (by omega)]
 simp only[hs,if_true]
theorem L3a {t:Txn} {m:List Pair} {n i k:Nat} {s:RS} (h:i<t.code.length) (hs:(ZY t m (YV t.code i) s).1=0) :
 m1a t m (n+1) i k s=⟨0,(ZY t m (YV t.code i) s).2.1.out,byK Change.k (ZY t m (YV t.code i) s).2.1.w,(k+1:Nat)⟩:=by
 unfold m1a
 rw[if_neg (by omega)]
 simp only[hs,if_true]
 rw[if_neg (by decide)]
theorem M3a {t:Txn} {m:List Pair} {n i k:Nat} {s:RS} (h:i<t.code.length) (hs:(ZY t m (YV t.code i) s).1 ≠ -1) (h0:(ZY t m (YV t.code i) s).1≠0) :
 m1a t m (n+1) i k s=⟨(ZY t m (YV t.code i) s).1,[],[],(k+1:Nat)⟩:=by
 unfold m1a
 rw[if_neg (by omega)]
 simp only[hs,h0,if_false]
theorem z9a {l:List Int}:∀ {n i:Nat},l.length - i≤n→(Ww l n i).2=0→i≤l.length→∀ j x,(Ww l n i).1[j]? = some x →
 ∃ p:Nat,x=YV l p∧i≤p∧(Xk l p).2.2=0∧(j=0→p=i)∧((p:Int)+XW (l.getD p 0)).toNat=(match (Ww l n i).1[j+1]? with | some y=>y.pos.toNat | none=>l.length)
 | 0,i,_,_,_,j,x,hx=>by simp[Ww]at hx
 | n+1,i,hn,he,hi,j,x,hx=>by
   by_cases hil:l.length≤i
   ·simp only[Ww]at hx
    rw[if_pos hil]at hx
    simp at hx
   ·by_cases h1:(Xk l i).2.2=0
    ·obtain ⟨a,b,c,d,e,f⟩:=Q1a h1
     have hw:Ww l (n+1) i=((Xk l i).1 :: (Ww l n (Xk l i).2.1.toNat).1,(Ww l n (Xk l i).2.1.toNat).2):=by
      simp only[Ww]
      rw[if_neg hil,if_pos h1]
     rw[hw]at he hx ⊢
     simp only at he hx ⊢
     have ih:=z9a (n:=n) (i:=(Xk l i).2.1.toNat) (by omega) he (by omega)
     cases j with
     | zero=>
       simp only[List.getElem?_cons_zero,Option.some.injEq]at hx
       subst hx
       refine ⟨i,a,Nat.le_refl _,h1,fun _=>rfl,?_⟩
       rw[List.getElem?_cons_succ]
       cases hy:(Ww l n (Xk l i).2.1.toNat).1[0]? with
       | some y=>
         obtain ⟨p,e1,_,_,e2,_⟩:=ih 0 y hy
         have:=e2 rfl
         subst this
         rw[e1]
         show _=(((Xk l i).2.1.toNat:Nat):Int).toNat
         rw[b]
         simp only[Int.toNat_natCast]
       | none=>
         have hnil:(Ww l n (Xk l i).2.1.toNat).1=[]:=by
          cases hl:(Ww l n (Xk l i).2.1.toNat).1 with
          | nil=>rfl
          | cons y ys=>rw[hl]at hy;simp at hy
         have hge:l.length≤(Xk l i).2.1.toNat:=by
          cases n with
          | zero=>omega
          | succ n=>
            simp only[Ww]at hnil he
            by_cases h3:l.length≤(Xk l i).2.1.toNat
            ·exact h3
            ·rw[if_neg h3]at hnil he
             split at hnil
             ·simp at hnil
             ·rename_i h4
              rw[if_neg h4]at he
              exact absurd he h4
         show _=l.length
         omega
     | succ j=>
       rw[List.getElem?_cons_succ]at hx
       obtain ⟨p,e1,e2,e3,_,e5⟩:=ih j x hx
       refine ⟨p,e1,by omega,e3,fun h=>by omega,?_⟩
       rw[e5,List.getElem?_cons_succ]
    ·simp only[Ww]at he
     rw[if_neg hil,if_neg h1]at he
     exact absurd he h1
theorem W4b {l:List Int}:∀ {n i:Nat},(Ww l n i).1.Pairwise (fun x y=>x.pos<y.pos)∧∀ x∈(Ww l n i).1,(i:Int)≤x.pos
 | 0,i=>by simp[Ww]
 | n+1,i=>by
   simp only[Ww]
   split
   ·simp
   ·split
    ·rename_i h1
     obtain ⟨a,b,c,d,e,f⟩:=Q1a h1
     obtain ⟨u1,u2⟩:=W4b (l:=l) (n:=n) (i:=(Xk l i).2.1.toNat)
     have hp:(Xk l i).1.pos=i:=by rw[a];rfl
     refine ⟨List.pairwise_cons.2 ⟨fun y hy=>?_,u1⟩,fun x hx=>?_⟩
     ·have:=u2 y hy
      show (Xk l i).1.pos<y.pos
      omega
     ·rcases List.mem_cons.1 hx with rfl | hx
      ·omega
      ·have:=u2 x hx
       omega
    ·simp
def Wj (t:Txn) (i:Nat):Nat:=match (WX t.code)[i]? with | some x=>x.pos.toNat | none=>t.code.length
theorem s8a {t:Txn} (h:P2a t.code=0):WX t.code=(q0a t.code 0).1∧(q0a t.code 0).2=0∧m2a (q0a t.code 0).1=true∧t.code.length≤512:=by
 refine ⟨by rw[WX,if_pos h],?_⟩
 unfold P2a at h
 split at h
 ·exact absurd h (by decide)
 ·rename_i h1
  split at h
  ·rename_i h2
   exact absurd h h2
  ·rename_i h2
   split at h
   ·rename_i h3
    exact ⟨by simpa using h2,h3,by omega⟩
   ·exact absurd h (by decide)
theorem q8a {t:Txn} (h:P2a t.code=0) {i:Nat} {x:Instr} (hx:(WX t.code)[i]? = some x):Wj t i<t.code.length∧x=YV t.code (Wj t i)∧x.pos=Wj t i∧(Xk t.code (Wj t i)).2.2=0∧((Wj t i:Nat)+XW (t.code.getD (Wj t i) 0):Int).toNat=Wj t (i+1):=by
 obtain ⟨e,e2,_,_⟩:=s8a h
 have hx':=hx
 rw[e]at hx'
 obtain ⟨p,a,b,c,d,f⟩:=z9a (by omega) e2 (Nat.zero_le _) i x hx'
 have hp:Wj t i=p:=by
  unfold Wj
  rw[hx]
  show x.pos.toNat=p
  rw[a]
  show ((p:Int)).toNat=p
  simp
 obtain ⟨_,_,hlt,_⟩:=Q1a c
 rw[hp]
 refine ⟨hlt,a,by rw[a];rfl,c,?_⟩
 rw[f]
 unfold Wj
 rw[e]
 rfl
theorem x1b {t:Txn} (h:P2a t.code=0):Wj t 0=0:=by
 obtain ⟨e,e2,_,_⟩:=s8a h
 cases hx:(WX t.code)[0]? with
 | some x=>
   have hx':=hx
   rw[e]at hx'
   obtain ⟨p,a,b,c,d,f⟩:=z9a (by omega) e2 (Nat.zero_le _) 0 x hx'
   unfold Wj
   rw[hx]
   show x.pos.toNat=0
   rw[a,d rfl]
   rfl
 | none=>
   have hnil:(q0a t.code 0).1=[]:=by
    rw[← e]
    cases hl:WX t.code with
    | nil=>rfl
    | cons y ys=>rw[hl]at hx;simp at hx
   have hl0:t.code.length≤0:=by
    by_cases h0:0<t.code.length
    ·rw[o6a h0]at hnil e2
     split at hnil
     ·simp at hnil
     ·rename_i h4
      rw[if_neg h4]at e2
      exact absurd e2 h4
    ·omega
   unfold Wj
   rw[hx]
   show t.code.length=0
   omega
theorem X6c {t:Txn}:(WX t.code).Pairwise (fun x y=>x.pos<y.pos):=by
 unfold WX
 split
 ·exact W4b.1
 ·exact .nil
theorem h9a {t:Txn} {i:Nat} (h:(WX t.code).length≤i):Wj t i=t.code.length:=by
 unfold Wj
 rw[List.getElem?_eq_none h]
theorem w1b {t:Txn} (h:P2a t.code=0) {x:Instr} (hx:x∈WX t.code) (hj:T0a x.op=true):∃ i y,(WX t.code)[i]? = some y∧y.pos=x.imm∧x.imm.toNat=Wj t i:=by
 obtain ⟨e,_,e3,_⟩:=s8a h
 rw[e]at hx
 unfold m2a at e3
 have:=List.all_eq_true.1 e3 x hx
 rw[hj]at this
 simp only[Bool.not_true,Bool.false_or,decide_eq_true_eq]at this
 obtain ⟨y,hy,hp⟩:=List.mem_map.1 this
 obtain ⟨i,hi⟩:=List.mem_iff_getElem?.1 hy
 rw[← e]at hi
 refine ⟨i,y,hi,hp,?_⟩
 unfold Wj
 rw[hi,← hp]
theorem G0b {t:Txn} (h:v2a t=0):P2a t.code=0∧(∀ x∈WX t.code,v1a t x=false)∧t.args.length≤8∧t.reads.length≤16∧t.writes.length≤16:=by
 unfold v2a at h
 split at h
 ·exact absurd h (by decide)
 split at h
 ·exact absurd h (by decide)
 rename_i h2
 split at h
 ·exact absurd h (by decide)
 split at h
 ·rename_i h4
  exact absurd h h4
 rename_i h4
 split at h
 ·exact absurd h (by decide)
 rename_i h5
 refine ⟨by simpa using h4,fun x hx=>?_,by omega,by omega,by omega⟩
 simp only[Bool.not_eq_true,List.any_eq_false]at h5
 simpa using h5 x hx
structure a7b (t:Txn) (x:Instr):Prop where
 a:0≤x.a∧x.a<8
 b:0≤x.b∧x.b<8
 imm : -32768≤x.imm∧x.imm≤65535
 imm0:x.op≠1→0≤x.imm
 rd:x.op=3∨x.op=4→x.imm<t.reads.length
 wr:x.op=5∨x.op=6→x.imm<t.writes.length
 ar:x.op=2→x.imm<t.args.length
 op:0≤x.op∧x.op<28
theorem w0c {t:Txn} (h:v2a t=0) (hb:∀ j,0≤t.code.getD j 0∧t.code.getD j 0≤255) {i:Nat} {x:Instr} (hx:(WX t.code)[i]? = some x):a7b t x:=by
 obtain ⟨h1,h2,_,_,_⟩:=G0b h
 obtain ⟨_,e1,_,e3,_⟩:=q8a h1 hx
 have hbad:=h2 x (List.mem_of_getElem? hx)
 obtain ⟨_,_,_,d,_,f⟩:=Q1a e3
 obtain ⟨p,hp⟩:∃ p,Wj t i=p:=⟨_,rfl⟩
 rw[hp]at e1 e3 d f
 rw[← e1]at f
 have hop:x.op=t.code.getD p 0:=by rw[e1];rfl
 have hs:=D0b (n:=x.op) (by rw[hop];omega)
 have b3:=hb (p+1+(if Xz (t.code.getD p 0) then 1 else 0)+if Wu (t.code.getD p 0) then 1 else 0)
 have b4:=hb (p+1+(if Xz (t.code.getD p 0) then 1 else 0)+(if Wu (t.code.getD p 0) then 1 else 0)+1)
 have himm:x.imm=D5a (t.code.getD p 0) (U1a (t.code.getD p 0)) (t.code.getD (p+1+(if Xz (t.code.getD p 0) then 1 else 0)+if Wu (t.code.getD p 0) then 1 else 0) 0) (t.code.getD (p+1+(if Xz (t.code.getD p 0) then 1 else 0)+(if Wu (t.code.getD p 0) then 1 else 0)+1) 0):=by rw[e1];rfl
 generalize t.code.getD (p+1+(if Xz (t.code.getD p 0) then 1 else 0)+if Wu (t.code.getD p 0) then 1 else 0) 0=y3 at b3 himm
 generalize t.code.getD (p+1+(if Xz (t.code.getD p 0) then 1 else 0)+(if Wu (t.code.getD p 0) then 1 else 0)+1) 0=y4 at b4 himm
 have hii:(-32768≤x.imm∧x.imm≤65535)∧(x.op≠1→0≤x.imm):=by
  rw[himm,hop]
  unfold D5a
  constructor
  ·repeat' split
   all_goals omega
  ·intro hne
   repeat' split
   all_goals omega
 have ha0:Xz x.op=false→x.a=0:=fun hf=>by
  rw[e1]at hf ⊢
  show (if Xz (t.code.getD p 0)=true then _ else 0)=0
  rw[if_neg (by rw[show Xz (t.code.getD p 0)=false from hf];decide)]
 have hb0:Wu x.op=false→x.b=0:=fun hf=>by
  rw[e1]at hf ⊢
  show (if Wu (t.code.getD p 0)=true then _ else 0)=0
  rw[if_neg (by rw[show Wu (t.code.getD p 0)=false from hf];decide)]
 have hidx:(Xz x.op=true→0≤x.a∧x.a<8)∧(Wu x.op=true→0≤x.b∧x.b<8):=by
  unfold Q2a at f
  split at f
  ·exact absurd f (by decide)
  ·rename_i hn
   simp only[Bool.or_eq_true,Bool.and_eq_true,decide_eq_true_eq,not_or,not_and]at hn
   refine ⟨fun h=>?_,fun h=>?_⟩
   ·have:=hn.1 h
    omega
   ·have:=hn.2 h
    omega
 unfold v1a at hbad
 refine ⟨?_,?_,hii.1,hii.2,fun h=>?_,fun h=>?_,fun h=>?_,hs.2.2⟩
 ·cases hf:Xz x.op with
  | true=>exact hidx.1 hf
  | false=>rw[ha0 hf];decide
 ·cases hf:Wu x.op with
  | true=>exact hidx.2 hf
  | false=>rw[hb0 hf];decide
 ·rw[if_pos h]at hbad
  simpa using hbad
 ·rw[if_neg (by omega),if_pos h]at hbad
  simpa using hbad
 ·rw[if_neg (by omega),if_neg (by omega),if_pos h]at hbad
  simpa using hbad
theorem y0b {t:Txn} {m:List Pair}:∀ {n i k:Nat} {s:RS},(k:Int)≤(m1a t m n i k s).s∧(m1a t m n i k s).s≤k+n
 | n,i,k,s=>by
   by_cases h:t.code.length≤i
   ·rw[z3a h]
    show (k:Int)≤k∧(k:Int)≤k+n
    omega
   ·cases n with
    | zero=>rw[K3a (by omega)];show (k:Int)≤k∧(k:Int)≤k+(0:Nat);omega
    | succ n=>
      by_cases h1:(ZY t m (YV t.code i) s).1=-1
      ·rw[s5a (by omega) h1]
       have:=y0b (t:=t) (m:=m) (n:=n) (i:=((ZY t m (YV t.code i) s).2.2.getD (i+XW (t.code.getD i 0))).toNat) (k:=k+1) (s:=(ZY t m (YV t.code i) s).2.1)
       omega
      ·by_cases h0:(ZY t m (YV t.code i) s).1=0
       ·rw[L3a (by omega) h0]
        show (k:Int)≤((k+1:Nat):Int)∧((k+1:Nat):Int)≤k+((n+1:Nat):Int)
        omega
       ·rw[M3a (by omega) h1 h0]
        show (k:Int)≤((k+1:Nat):Int)∧((k+1:Nat):Int)≤k+((n+1:Nat):Int)
        omega
theorem D4b {t:Txn} {m:List Pair}:∀ {n i k:Nat} {s:RS},(m1a t m n i k s).e≠0→(m1a t m n i k s).vs=[]∧(m1a t m n i k s).ch=[]
 | n,i,k,s=>by
   by_cases h:t.code.length≤i
   ·rw[z3a h]
    exact fun hh=>absurd rfl hh
   ·cases n with
    | zero=>rw[K3a (by omega)];exact fun _=>⟨rfl,rfl⟩
    | succ n=>
      by_cases h1:(ZY t m (YV t.code i) s).1=-1
      ·rw[s5a (by omega) h1]
       exact D4b
      ·by_cases h0:(ZY t m (YV t.code i) s).1=0
       ·rw[L3a (by omega) h0]
        exact fun hh=>absurd rfl hh
       ·rw[M3a (by omega) h1 h0]
        exact fun _=>⟨rfl,rfl⟩
theorem r1c {t:Txn} {l:List Pair} {f:Int} (h0:0≤f):0≤(z1a t l f).s∧(z1a t l f).s≤min f 4096∧((z1a t l f).e≠0→(z1a t l f).vs=[]∧(z1a t l f).ch=[]):=by
 unfold z1a
 split
 ·exact ⟨Int.le_refl _,by show (0:Int)≤_;omega,fun _=>⟨rfl,rfl⟩⟩
 ·have h:=y0b (t:=t) (m:=f2a t l) (n:=c4a f) (i:=0) (k:=0) (s:=rs0)
  have hf:((c4a f:Nat):Int)=min f 4096:=by unfold c4a;omega
  refine ⟨by omega,by omega,D4b⟩
theorem y6a {α:Type} {P:α→Prop} {c:Prop} [Decidable c] {a b:α} (h1:c→P a) (h2:¬ c→P b):P (if c then a else b):=by
 by_cases h:c
 ·rw[if_pos h];exact h1 h
 ·rw[if_neg h];exact h2 h
theorem E8c {t:Txn} {m:List Pair} {x:Instr} {s:RS} (hx:a7b t x) (hs:∀ c∈s.w,c.k∈t.writes):∀ c∈(ZY t m x s).2.1.w,c.k∈t.writes:=by
 have hin:∀ (c:Change),c.k∈t.writes→∀ d∈s.w++[c],d.k∈t.writes:=fun c hc d hd=>by
  rcases List.mem_append.1 hd with hd | hd
  ·exact hs d hd
  ·rw[List.mem_singleton.1 hd]
   exact hc
 have hget:x.op=5∨x.op=6→t.writes.getD x.imm.toNat y3a∈t.writes:=fun h=>by
  have h1:=hx.wr h
  have h2:=hx.imm0 (by omega)
  have hl:x.imm.toNat<t.writes.length:=by omega
  rw[List.getD_eq_getElem?_getD,List.getElem?_eq_getElem hl]
  exact List.getElem_mem hl
 unfold ZY
 refine y6a (P:=fun r:Int × RS × Option Int=>∀ c∈r.2.1.w,c.k∈t.writes) (fun _=>hs) fun _=>?_
 repeat' (refine y6a (P:=fun r:Int × RS × Option Int=>∀ c∈r.2.1.w,c.k∈t.writes) (fun _=>?_) (fun _=>?_))
 all_goals first
  | exact hs
  | (refine hin _ (hget (.inl ?_));assumption)
  | (refine hin _ (hget (.inr ?_));assumption)
  | (refine hin _ ?_;assumption)
theorem D8c {t:Txn} {m:List Pair} {x:Instr} {s:RS} {a:Int}:(ZY t m x s).2.2=some a→a=x.imm∧T0a x.op=true:=by
 unfold ZY
 repeat' (refine y6a (P:=fun r:Int × RS × Option Int=>r.2.2=some a→a=x.imm∧T0a x.op=true) (fun _=>?_) (fun _=>?_))
 all_goals try simp only
 all_goals intro h
 all_goals first
  | (cases h;done)
  | (cases h;exact ⟨rfl,by simp[T0a, *]⟩)
  | (split at h
     ·cases h
     ·cases h;exact ⟨rfl,by simp[T0a, *]⟩)
theorem u1c {t:Txn} {m:List Pair} (h:v2a t=0) (hb:∀ j,0≤t.code.getD j 0∧t.code.getD j 0≤255):∀ {n j k:Nat} {s:RS},(∀ c∈s.w,c.k∈t.writes)→∀ c∈(m1a t m n (Wj t j) k s).ch,c.k∈t.writes
 | n,j,k,s,hs=>by
   obtain ⟨h1,_⟩:=G0b h
   cases hx:(WX t.code)[j]? with
   | none=>
     have hge:(WX t.code).length≤j:=by
      by_cases hj:j<(WX t.code).length
      ·rw[List.getElem?_eq_getElem hj]at hx;cases hx
      ·omega
     rw[z3a (by rw[h9a hge];exact Nat.le_refl _)]
     exact fun c hc=>hs c (j5a hc)
   | some x=>
     obtain ⟨hlt,e1,_,_,e4⟩:=q8a h1 hx
     have hio:=w0c h hb hx
     cases n with
     | zero=>rw[K3a hlt];exact fun c hc=>(by cases hc)
     | succ n=>
       rw[e1]at hio
       have hw:=E8c (m:=m) hio hs
       by_cases hg:(ZY t m (YV t.code (Wj t j)) s).1=-1
       ·rw[s5a hlt hg]
        have hnext:∃ j',((ZY t m (YV t.code (Wj t j)) s).2.2.getD ((Wj t j:Nat)+XW (t.code.getD (Wj t j) 0))).toNat=Wj t j':=by
         cases hj:(ZY t m (YV t.code (Wj t j)) s).2.2 with
         | none=>exact ⟨j+1,e4⟩
         | some a=>
           have hja:=D8c hj
           obtain ⟨i,y,_,_,hy⟩:=w1b h1 (List.mem_of_getElem? hx) (by rw[e1];exact hja.2)
           refine ⟨i,?_⟩
           rw[← hy,e1,hja.1]
           rfl
        obtain ⟨j',hj'⟩:=hnext
        rw[hj']
        exact u1c h hb hw
       ·by_cases h0:(ZY t m (YV t.code (Wj t j)) s).1=0
        ·rw[L3a hlt h0]
         exact fun c hc=>hw c (j5a hc)
        ·rw[M3a hlt hg h0]
         exact fun c hc=>(by cases hc)
theorem M5b {t:Txn} {m:List Pair} {x:Instr} {s:RS}:(ZY t m x s).2.1.w.length≤s.w.length+1∧(ZY t m x s).2.1.out.length≤s.out.length+1:=by
 unfold ZY
 repeat' (refine y6a (P:=fun r:Int × RS × Option Int=>r.2.1.w.length≤s.w.length+1∧r.2.1.out.length≤s.out.length+1) (fun _=>?_) (fun _=>?_))
 all_goals simp
theorem E4b {t:Txn} {m:List Pair}:∀ {n i k:Nat} {s:RS},(m1a t m n i k s).vs.length≤s.out.length+n∧(m1a t m n i k s).ch.length≤s.w.length+n
 | n,i,k,s=>by
   by_cases h:t.code.length≤i
   ·rw[z3a h]
    have:=r6a (key:=Change.k) s.w
    exact ⟨Nat.le_add_right _ _,Nat.le_trans this (Nat.le_add_right _ _)⟩
   ·cases n with
    | zero=>rw[K3a (by omega)];exact ⟨Nat.zero_le _,Nat.zero_le _⟩
    | succ n=>
      have hs:=M5b (t:=t) (m:=m) (x:=YV t.code i) (s:=s)
      by_cases h1:(ZY t m (YV t.code i) s).1=-1
      ·rw[s5a (by omega) h1]
       have:=E4b (t:=t) (m:=m) (n:=n) (i:=((ZY t m (YV t.code i) s).2.2.getD (i+XW (t.code.getD i 0))).toNat) (k:=k+1) (s:=(ZY t m (YV t.code i) s).2.1)
       omega
      ·by_cases h0:(ZY t m (YV t.code i) s).1=0
       ·rw[L3a (by omega) h0]
        have:=r6a (key:=Change.k) (ZY t m (YV t.code i) s).2.1.w
        show (ZY t m (YV t.code i) s).2.1.out.length≤_∧(byK Change.k (ZY t m (YV t.code i) s).2.1.w).length≤_
        omega
       ·rw[M3a (by omega) h1 h0]
        exact ⟨Nat.zero_le _,Nat.zero_le _⟩
theorem k5a {t:Txn} {l:List Pair} {f:Int}:(z1a t l f).vs.length≤4096∧(z1a t l f).ch.length≤4096:=by
 unfold z1a
 split
 ·exact ⟨Nat.zero_le _,Nat.zero_le _⟩
 ·have h1:=E4b (t:=t) (m:=f2a t l) (n:=c4a f) (i:=0) (k:=0) (s:=rs0)
  have h2:=i4b f
  have h3:rs0.out.length=0:=rfl
  have h4:rs0.w.length=0:=rfl
  omega
theorem K6b {t:Txn} {m:List Pair}:∀ {n i k:Nat} {s:RS},UpB Change.k (m1a t m n i k s).ch
 | n,i,k,s=>by
   by_cases h:t.code.length≤i
   ·rw[z3a h]
    exact S3a _
   ·cases n with
    | zero=>rw[K3a (by omega)];exact .nil
    | succ n=>
      by_cases h1:(ZY t m (YV t.code i) s).1=-1
      ·rw[s5a (by omega) h1]
       exact K6b
      ·by_cases h0:(ZY t m (YV t.code i) s).1=0
       ·rw[L3a (by omega) h0]
        exact S3a _
       ·rw[M3a (by omega) h1 h0]
        exact .nil
theorem t1c {t:Txn} {l:List Pair} {f:Int} (hb:∀ j,0≤t.code.getD j 0∧t.code.getD j 0≤255):(∀ c∈(z1a t l f).ch,c.k∈t.writes)∧UpB Change.k (z1a t l f).ch:=by
 unfold z1a
 split
 ·exact ⟨fun c hc=>(by cases hc),List.Pairwise.nil⟩
 ·rename_i h
  have h':v2a t=0:=by simpa using h
  have:=u1c (m:=f2a t l) h' hb (n:=c4a f) (j:=0) (k:=0) (s:=rs0) (fun c hc=>(by cases hc))
  rw[x1b (G0b h').1]at this
  exact ⟨this,K6b⟩
theorem S1b {α:Type} {key:α→Key} {l:List α} (h:UpB key l) {p:α}:Yu key l (key p)=some p↔p∈l:=by
 rw[← G3a,q3b h]
theorem G0c {α:Type} {key:α→Key} {l:List α} {k:Key}:Yu key (byK key l) k=Yu key l k:=by
 cases h:Yu key l k with
 | some x=>
   have hx:=f0a h
   have:Yu key (byK key l) (key x)=some x:=(S1b (S3a l)).2 (G3a.2 (by rw[hx.2];exact h))
   rw[hx.2]at this
   exact this
 | none=>
   refine U6a.2 fun hm=>?_
   obtain ⟨x,hx,rfl⟩:=List.mem_map.1 hm
   have:=G3a.1 hx
   rw[h]at this
   cases this
end Go.Proofs.Ytheamfnbfgiaeaa
namespace Go.D
open Go.Sort Go.Proofs
variable {P:Program} {α:Type}
def h00:DHeap:=⟨fun _=>none,0,0⟩
theorem n5d (w:World):Sim (fun _=>none) h00 w where
 lt:=fun _ _ h=>(by cases h)
 blk:=fun _ _ h=>(by cases h)
 obj:=fun _ _ h=>(by cases h)
 sep:=fun _ _ _ _ h=>(by cases h)
 glob:=fun g hg=>absurd hg (Nat.not_lt_zero g)
theorem x3c {ι':Inj} {h':DHeap} {w w':World} (st:Step (fun _=>none) ι' h00 h' w w'):∃ q os',w'=grow (w.drewN q) os':=by
 refine ⟨w'.drawn - w.drawn,w'.heap.extract w.heap.size w'.heap.size,?_⟩
 have hh:w'.heap=w.heap++w'.heap.extract w.heap.size w'.heap.size:=by
  refine Array.ext_getElem? fun b=>?_
  rw[Array.getElem?_append]
  by_cases hb:b<w.heap.size
  ·rw[if_pos hb]
   exact st.frame b hb fun id e he=>by cases he
  ·rw[if_neg hb,Array.getElem?_extract]
   have:=st.size
   by_cases hb2:b<w'.heap.size
   ·rw[if_pos (by omega)]
    congr 1;omega
   ·rw[Array.getElem?_eq_none (by omega),if_neg (by omega)]
 have h1:=st.os
 have h2:=st.tape
 have h3:=st.output
 have h4:=st.drawn
 obtain ⟨hp,tp,dr,o,out⟩:=w'
 simp only at hh h1 h2 h3 h4 ⊢
 subst h1 h2 h3
 rw[World.mk.injEq]
 refine ⟨hh,rfl,?_,rfl,rfl⟩
 show dr=w.drawn+(dr - w.drawn)
 omega
theorem VRel.aggFlat {ι:Inj} {l:List Value} (h:l.all Yw=true):VRel ι (.agg l.toArray) (.agg l.toArray):=
 .agg rfl fun i v v' a b=>by
  rw[a]at b;cases b
  exact E3a ι (U0a h (by simpa using a))
theorem o7b {g:Nat} {enc:α→List Value} {k:Nat} {cf:α→α→Int} [Inhabited α] (hflat:∀ x,(enc x).all Yw=true) (hdc:∀ x y,DC P g [.agg (enc x).toArray,.agg (enc y).toArray] h00 (.ret (.int .i64 (cf x y))) h00) (blk off size:Nat) (w:World) :
 CmpLays P g #[] enc k cf blk off size w:=by
 intro m os dk _ x y
 have:=(hdc x y).2 0 (fun _=>none) (sortWorldK enc k w blk off m dk os) (#[.agg (enc x).toArray,.agg (enc y).toArray]++#[]) (n5d _) (by
  simp only[Array.append_empty]
  exact ((LRel.nil _).cons (.aggFlat (hflat y))).cons (.aggFlat (hflat x)))
 refine Calls.mono (callsIn_wide.1 this) ?_
 rintro e w' ⟨ι',he,_,st⟩
 cases e with
 | returned v=>cases he;exact ⟨rfl,x3c st⟩
 | _=>exact he.elim
theorem U8a {F:FRep α} [Inhabited α]:∀ (l:List α) (i r:Nat),i<l.length→r<F.z→(l.flatMap F.enc)[i*F.z+r]? = (F.enc (l.toArray[i]!))[r]?
 | [],i,r,hi,_=>by simp at hi
 | x :: l,0,r,_,hr=>by
   rw[List.flatMap_cons,Nat.zero_mul,Nat.zero_add,List.getElem?_append_left (by rw[F.len];exact hr)]
   rfl
 | x :: l,i+1,r,hi,hr=>by
   rw[List.flatMap_cons,Nat.succ_mul,List.getElem?_append_right (by rw[F.len];omega),F.len,show i*F.z+F.z+r - F.z=i*F.z+r by omega]
   have:=U8a l i r (by simpa using hi) hr
   rw[this]
   simp
theorem c0b {F:FRep α} [Inhabited α] (l:List α):flatK F.enc F.z l.toArray=(l.flatMap F.enc).toArray:=by
 have hs:(flatK F.enc F.z l.toArray).size=(l.flatMap F.enc).toArray.size:=by rw[size_flatK,List.size_toArray,List.size_toArray,ZU]
 refine ext_get! hs fun t ht=>?_
 rw[size_flatK,List.size_toArray]at ht
 rw[get_flatK _ _ _ _ (by simpa using ht)]
 have hz:0<F.z:=by
  rcases Nat.eq_zero_or_pos F.z with h | h
  ·rw[h]at ht;simp at ht
  ·exact h
 have h1:t / F.z<l.length:=(Nat.div_lt_iff_lt_mul hz).2 ht
 have h2:t % F.z<F.z:=Nat.mod_lt _ hz
 have:=U8a (F:=F) l (t / F.z) (t % F.z) h1 h2
 rw[Nat.div_add_mod' t F.z]at this
 have h3:t<(l.flatMap F.enc).length:=by rw[ZU];exact ht
 obtain ⟨x,hx⟩:∃ x,l.toArray[t / F.z]! = x:=⟨_,rfl⟩
 rw[hx]at this ⊢
 have h4:t % F.z<(F.enc x).length:=by rw[F.len];exact h2
 rw[List.getElem?_eq_getElem h3,List.getElem?_eq_getElem h4]at this
 rw[getElem!_pos (F.enc x) (t % F.z) h4,getElem!_pos (l.flatMap F.enc).toArray t (by simpa using h3)]
 simpa using (Option.some.inj this).symm
theorem y3c {F:FRep α} [Inhabited α] {ι:Inj} {h:DHeap} {w:World} {id o:Nat} {e:Ent} {cells:List Value} {esz:Nat} {l:List α} (s:Sim ι h w) (he:ι id=some e) (hg:h.get id=some (.row cells esz false)) (hl:o+l.length*F.z≤cells.length)
 (hc:(cells.drop o).take (l.length*F.z)=l.flatMap F.enc):HoldsK F.enc F.z w e.block (e.shift+o) l.toArray:=by
 obtain ⟨_,_,cur,ty,fz,h3,h4,h5⟩:=s.row he hg
 obtain ⟨hsz,hlen,hfz⟩:=h5 rfl
 unfold HoldsK
 rw[c0b]
 intro j hj
 have hj2:j<l.length*F.z:=by rw[← ZU];simpa using hj
 have h6:cells[o+j]? = (l.flatMap F.enc)[j]?:=by
  rw[← hc,List.getElem?_take,if_pos hj2,List.getElem?_drop]
 have h7:j<(l.flatMap F.enc).length:=by simpa using hj
 rw[List.getElem?_eq_getElem h7]at h6
 obtain ⟨v',h8,h9⟩:=h4 _ _ h6
 have hfl:=List.all_eq_true.1 (b4a F l) _ (List.getElem_mem h7)
 have h10:v'=(l.flatMap F.enc)[j]:=by
  unfold Yw at hfl
  generalize (l.flatMap F.enc)[j]=x at hfl h9
  cases h9 <;> first | rfl | cases hfl
 constructor
 ·simp only[World.cell?,h3]
  rw[getElem!_pos (l.flatMap F.enc).toArray j (by simpa using h7)]
  simp only[id_eq,List.getElem_toArray]
  rw[show e.shift+o+j=e.shift+(o+j) by omega,h8,h10]
  rfl
 ·simp only[World.frozen?,h3]
  rw[Bool.and_eq_false_iff]
  simp only[decide_eq_false_iff_not]
  have:=hfz (e.shift+o+j) (by omega)
  omega
theorem Sim.rewrite {ι:Inj} {h:DHeap} {w w':World} {id:Nat} {e:Ent} {cells cells':List Value} {esz:Nat} {cur cur':Array Value} {ty:TypeId} {fz:Nat × Nat} (s:Sim ι h w) (he:ι id=some e) (hg:h.get id=some (.row cells esz false)) (hcur:w.heap[e.block]? = some (.cells cur ty fz)) (hcur':w'.heap[e.block]? = some (.cells cur' ty fz)) (hsz:cur'.size=cur.size)
 (hrel:∀ (i:Nat) v,cells'[i]? = some v→∃ v',cur'[e.shift+i]? = some v'∧VRel ι v v') (hlen:cells'.length=cells.length) (hoth:∀ b,b<w.heap.size→b≠e.block→w'.heap[b]? = w.heap[b]?) (hsize:w.heap.size≤w'.heap.size) (h1:w'.os=w.os) (h2:w'.tape=w.tape) (h3:w'.output=w.output) (h4:w.drawn≤w'.drawn) :
 Sim ι (h.set id (.row cells' esz false)) w'∧Step ι ι h (h.set id (.row cells' esz false)) w w':=by
 obtain ⟨hro,hez,cur0,ty0,fz0,k3,k4,k5⟩:=s.row he hg
 rw[hcur]at k3
 cases k3
 obtain ⟨l1,l2,l3⟩:=k5 rfl
 refine ⟨⟨s.lt,fun i x hx=>Nat.lt_of_lt_of_le (s.blk i x hx) hsize,?_,?_,s.glob⟩,⟨Inj.le_refl _,fun i x a b=>(by rw[a]at b;cases b),Nat.le_refl _,rfl,h1,h2,h3,hsize,?_,h4⟩⟩
 ·intro id' e' h'
  simp only[DHeap.set]
  by_cases hid:id'=id
  ·subst hid
   rw[he]at h'
   cases h'
   exact ⟨.row cells' esz false,by rw[if_pos rfl],hro,hez,cur',ty,fz,hcur',hrel,fun _=>⟨by rw[hsz];exact l1,by rw[hlen];exact l2,l3⟩⟩
  ·rw[if_neg hid]
   obtain ⟨o,a,b⟩:=s.obj _ _ h'
   by_cases hbl:e'.block=e.block
   ·rcases s.sep id' id e' e h' he hid hbl with hd | hd | hd
    ·rw[a]at hd;cases hd;exact ⟨_,a,b⟩
    ·rw[hg]at hd;cases hd
    ·rw[hro]at hd;cases hd.2
   ·exact ⟨o,a,b.mono (Inj.le_refl _) (hoth _ (s.blk _ _ h') hbl)⟩
 ·intro id1 id2 e1 e2 a b c d
  simp only[DHeap.set]
  rcases s.sep id1 id2 e1 e2 a b c d with hd | hd | hd
  ·left
   rw[if_neg (fun hx=>by subst hx;rw[hg]at hd;cases hd)]
   exact hd
  ·right;left
   rw[if_neg (fun hx=>by subst hx;rw[hg]at hd;cases hd)]
   exact hd
  ·exact .inr (.inr hd)
 ·intro b hb hx
  refine hoth b hb fun hbe=>?_
  have hy:=hx id e he hbe.symm
  rw[hro]at hy;cases hy
theorem Y4b {F:FRep α} [Inhabited α] {ι:Inj} {h:DHeap} {w:World} {id o:Nat} {e:Ent} {cells:List Value} {esz:Nat} (l':List α) (m:Nat) (os:Array Obj) (s:Sim ι h w) (he:ι id=some e) (hg:h.get id=some (.row cells esz false)) (hl:o+l'.length*F.z≤cells.length) :
 Sim ι (h.set id (.row (YW cells o (l'.flatMap F.enc)) esz false)) (sortWorldK F.enc F.z w e.block (e.shift+o) m l'.toArray os)∧Step ι ι h (h.set id (.row (YW cells o (l'.flatMap F.enc)) esz false)) w (sortWorldK F.enc F.z w e.block (e.shift+o) m l'.toArray os):=by
 obtain ⟨_,_,cur,ty,fz,h3,h4,h5⟩:=s.row he hg
 obtain ⟨hsz,hlen,hfz⟩:=h5 rfl
 have hb:=s.blk _ _ he
 have hlk:∀ b,b<w.heap.size→(sortWorldK F.enc F.z w e.block (e.shift+o) m l'.toArray os).heap[b]? = (w.heap.modify e.block (onCells (putCells _root_.id (e.shift+o) (l'.flatMap F.enc).toArray)))[b]?:=fun b hb=>by
  show ((w.heap.modify e.block (onCells (putCells _root_.id (e.shift+o) (flatK F.enc F.z l'.toArray))))++os)[b]? = _
  rw[Array.getElem?_append_left (by simpa using hb),c0b]
 refine s.rewrite (cur:=cur) (cur':=putCells _root_.id (e.shift+o) (l'.flatMap F.enc).toArray cur) (ty:=ty) (fz:=fz) he hg h3 ?_ (by simp[putCells]) (fun i v hv=>?_) (U2a _ _ _) (fun b hb hne=>?_) ?_ rfl rfl rfl (Nat.le_add_right _ _)
 ·rw[hlk _ hb,Array.getElem?_modify,if_pos rfl,h3]
  rfl
 ·rw[N3a,ZU]at hv
  simp only[putCells,Array.getElem?_mapIdx]
  by_cases hi:o≤i∧i<o+l'.length*F.z∧i<cells.length
  ·rw[if_pos hi]at hv
   obtain ⟨u,hu,_⟩:=h4 i cells[i] (List.getElem?_eq_getElem hi.2.2)
   rw[hu]
   have h7:i - o<(l'.flatMap F.enc).length:=by rw[ZU];omega
   have hv2:=hv
   rw[List.getElem?_eq_getElem h7]at hv2
   refine ⟨v,?_,E3a ι (U0a (b4a F l') hv)⟩
   simp only[Option.map_some,id_eq]
   rw[if_pos ⟨by omega,by simp only[List.size_toArray,ZU];omega⟩,show e.shift+i - (e.shift+o)=i - o by omega,getElem!_pos (l'.flatMap F.enc).toArray (i - o) (by simpa using h7)]
   simpa using hv2
  ·rw[if_neg hi]at hv
   obtain ⟨u,hu,hr⟩:=h4 i v hv
   have:=(List.getElem?_eq_some_iff.1 hv).1
   rw[hu]
   refine ⟨u,?_,hr⟩
   simp only[Option.map_some]
   rw[if_neg]
   simp only[List.size_toArray,ZU]
   omega
 ·rw[hlk b hb,Array.getElem?_modify,if_neg (fun hh=>hne hh.symm)]
 ·show _≤((w.heap.modify e.block (onCells (putCells _root_.id (e.shift+o) (flatK F.enc F.z l'.toArray))))++os).size
  simp
theorem N6b {F:FRep α} [Inhabited α] {ρ:Go.Shelf.Ren} {k:Nat} (hk:F.z=k) (L:SlLaysF0.n6 P ρ) (aE:∀ w,(isAgg (ρ.t 24)).run P w=.ok true w) (zE:∀ w,(Go.sizeOf (ρ.t 24)).run P w=.ok k w) {cf:α→α→Int} (hO:SWO (ltOf cf)) {g:Nat} (eg:∀ args w,(callFunc g args).run P w=.ok (.enter g args) w)
 (hdc:∀ x y,DC P g [.agg (F.enc x).toArray,.agg (F.enc y).toArray] h00 (.ret (.int .i64 (cf x y))) h00) {h:DHeap} {id o c:Nat} {cells:List Value} {l:List α} {esz:Nat} (hg:h.get id=some (.row cells esz false)) (h0:0<l.length) (hl:o+l.length*F.z≤cells.length) (hc:(cells.drop o).take (l.length*F.z)=l.flatMap F.enc) (hsz:l.length<4611686018427387904) :
 Ct P (ρ.f 6) [.slice (some ⟨id,o,none⟩) l.length c,.func (.func g) #[] #[]] h fun r h1=>r=.ret (.tuple #[])∧∃ l':List α,l'.Perm l∧SortedIn (ltOf cf) 0 l.length l'.toArray∧h1=h.set id (.row (YW cells o (l'.flatMap F.enc)) esz false):=by
 subst hk
 intro n ι w args' s ha
 obtain ⟨a0,e0,r0⟩:=ha.get (i:=0) rfl
 obtain ⟨a1,e1,r1⟩:=ha.get (i:=1) rfl
 have hsz2:args'.toList.length=2:=ha.1.symm
 have hargs:args'=#[a0,a1]:=by
  obtain ⟨L⟩:=args'
  match L,hsz2 with
  | [x,y],_=>simp at e0 e1;rw[e0,e1]
 cases r0 with
 | @slice _ _ _ _ cap' e a' he hl' hx ha' hb=>
 cases r1 with
 | func hf q1 q2 q3 q4=>
 rename_i first' cap2
 obtain rfl:first'=#[]:=by simpa using q1.symm
 obtain rfl:cap2=#[]:=by simpa using q3.symm
 obtain rfl:=ha' (by omega)
 have hm:=y3c s he hg hl hc
 have hcalls:=AnyQ.slices_SortFunc L F.z aE zE F.enc F.len (fun x v hv=>I1b (List.all_eq_true.1 (F.flat x) v hv)) cf hO g #[] e.block (e.shift+o) cap' l.toArray w eg (o7b F.flat hdc _ _ _ _) hm (s.blk _ _ he) (by simpa using hsz)
 rw[hargs]
 refine callsIn_wide.2 (Calls.mono hcalls ?_)
 rintro en w' ⟨rfl,d',m,os,hp,hs,rfl⟩
 obtain ⟨p1,_,p3⟩:=hp
 have hd:d'=d'.toList.toArray:=by simp
 have hlen:d'.toList.length=l.length:=by simpa using p1
 have hperm:d'.toList.Perm l:=by
  have e1:(d'.extract 0 l.toArray.size).toList=d'.toList:=by rw[← p1];simp
  have e2:(l.toArray.extract 0 l.toArray.size).toList=l:=by simp
  rw[e1,e2]at p3
  exact p3
 obtain ⟨q5,q6⟩:=Y4b (F:=F) d'.toList m os s he hg (by rw[hlen];exact hl)
 rw[hd]
 refine ⟨ι,.ret (.tuple #[]),_,⟨rfl,d'.toList,hperm,?_,rfl⟩,⟨q6.next,q6.ng⟩,.tuple rfl (fun i v v' h1=>by simp at h1),q5,q6⟩
 simpa using hs
end Go.D
namespace Go.Proofs.Ytheamfnbfgiaeaa
open Go.D
open Go.Sort
set_option maxRecDepth 100000
theorem C9b {h:DHeap} {v:Value} (hb:Arg fKey.rep h v []):Ct Try.prog 79 [v] h fun r h1=>r=.ret v∧h1=h:=by
 refine Y4c (by simp) ?_
 have el:∀ K,dLen Try.prog #[24] v K=some (.int .i64 ((([]:List Key).length:Nat):Int)):=hb.lens (P:=Try.prog) (ts:=#[24]) (t:=24) rfl R2a
 have h0:(((0:Nat):Int)<2)=True:=eq_true (by decide)
 simp -implicitDefEqProofs (disch:=first|omega|simp only[go_sem]) only[go_sem,true_and,c79,el,List.length_nil,h0]
 exact ⟨_,rfl,rfl,trivial⟩
theorem W6a:ltOf K4a=YJ:=by
 funext a b
 exact f8b a b
theorem W9a:∀ args w,(callFunc 28 args).run Try.prog w=.ok (.enter 28 args) w:=enters_of Try.func28 (by kernel_rfl) rfl
theorem o0d {h:DHeap} {v:Value} {l:List Key} (hb:Arg fKey.rep h v l) (hl:l.length≤1048576) :
 Ct Try.prog 63 [v] h fun r h1=>∃ w,r=.ret w∧Ext h h1∧Sl fKey.rep (I6a h h1) h1 w (d4a l):=by
 refine R3d (by simp) ?_
 have m:=M9a (h:=h) hb
 simp -implicitDefEqProofs (disch:=first|omega|simp only[go_sem]) only[go_sem,true_and,c63]
 refine YQ (n7b hb (by omega)) ?_
 by_cases h0:l=[]
 ·subst h0
  simp -implicitDefEqProofs (disch:=first|omega|simp only[go_sem]) only[go_sem,true_and]
  refine Yv (B1c m.arg) ?_
  rintro r h1 ⟨rfl,rfl⟩
  simp -implicitDefEqProofs (disch:=first|omega|simp only[go_sem]) only[go_sem,true_and]
  refine Yv (C9b m.arg) ?_
  rintro r h1 ⟨rfl,rfl⟩
  simp -implicitDefEqProofs (disch:=first|omega|simp only[go_sem]) only[go_sem,true_and,Xx]
  exact ⟨_,rfl,_,rfl,m.ext,m.sl⟩
 ·have hnn:N1a v=false:=by
   cases hn:N1a v with
   | false=>rfl
   | true=>exact absurd (d3a hb hn).2 h0
  have e1:T3a h v l=.slice (some ⟨h.next,0,none⟩) l.length (l.length+1):=by rw[T3a,hnn];rfl
  have e2:O2a fKey h v l=h.push (.row (l.flatMap fKey.enc) 2 false):=by rw[O2a,hnn];rfl
  have hok:=hb.ok
  obtain ⟨K,hK⟩:∃ K,h.push (.row (l.flatMap fKey.enc) 2 false)=K:=⟨_,rfl⟩
  have hg:K.get h.next=some (.row (l.flatMap fKey.enc) 2 false):=by rw[← hK];exact Zz _ _
  have hE:Ext h K:=by rw[← hK];exact Ext.push1 _ _
  have hKn:K.next=h.next+1:=by rw[← hK];rfl
  have hlen:0<l.length:=List.length_pos_iff.2 h0
  have ht:(l.flatMap fKey.enc).take (l.length*2)=l.flatMap fKey.enc:=List.take_of_length_le (by rw[ZU];exact Nat.le_refl _)
  rw[e1,e2,hK]
  simp -implicitDefEqProofs (disch:=first|omega|simp only[go_sem]) only[go_sem,true_and]
  refine Yv (N6b (F:=fKey) (k:=2) rfl M6b Try.isAgg34 Try.sizeOf34 (cf:=K4a) (W6a▸P1b) W9a (fun x y=>y1b) (o:=0) (esz:=2) hg hlen (by rw[ZU,Nat.zero_add];exact Nat.le_refl _) ht (by omega)) ?_
  rintro r h1 ⟨rfl,l',hp,hs,rfl⟩
  have hl':l'.length=l.length:=hp.length_eq
  have e3:YW (l.flatMap fKey.enc) 0 (l'.flatMap fKey.enc)=l'.flatMap fKey.enc:=by
   have:=g7a (l'.flatMap fKey.enc) (l.flatMap fKey.enc) [] (by rw[ZU,ZU,hl'])
   simpa using this
  rw[e3]
  simp -implicitDefEqProofs (disch:=first|omega|simp only[go_sem]) only[go_sem,true_and]
  have hr:RowIs fKey (K.set h.next (.row (l'.flatMap fKey.enc) 2 false)) h.next l':=RowIs.set rfl
  have cc:=D9b (c:=l.length+1) hr (fun x hx=>hok x (hp.mem_iff.1 hx)) (by omega)
  rw[hl']at cc
  refine Yv cc ?_
  rintro r h1 ⟨c',cs,rfl,rfl,hsl⟩
  simp -implicitDefEqProofs (disch:=first|omega|simp only[go_sem]) only[go_sem,true_and,Xx]
  rw[W6a]at hs
  rw[R1b hp (n6a hl'.symm hs)]at hsl
  rw[R1b hp (n6a hl'.symm hs)]
  refine ⟨_,rfl,_,rfl,(hE.set (by omega)).set (by omega),hsl.mono fun i hi=>⟨⟨by omega,?_⟩,rfl⟩⟩
  subst hi
  show h.next<K.next
  omega
end Go.Proofs.Ytheamfnbfgiaeaa
namespace Go.Proofs.Ytheamfnbfgiaeaa
open Go.D
open Go.Sort
set_option maxRecDepth 100000
abbrev E8b (fk:FuncId) (c:Nat):Value:=.func (.func fk) #[] #[.pointer (some ⟨c,0,none⟩)]
theorem L0c {h:DHeap} {id:Nat}:Ct Try.prog 76 [.map (some id)] h fun r h1=>r=.ret (E8b 88 h.next)∧h1=h.push (.row [.map (some id)] 0 false):=by
 refine W3d (by simp) ?_
 simp -implicitDefEqProofs (disch:=first|omega|simp only[go_sem]) only[go_sem,true_and,c76]
 exact ⟨_,rfl,rfl,trivial⟩
theorem B9b {fk:FuncId} (Y:p6a fk) (hg:K0a Try.prog fk=true) {h:DHeap} {c id:Nat} {m:List (Key × Value)} (hlen:m.length≤4294967296) (hok:∀ k∈m.map (·.1),fKey.ok k) (hc:c<h.next) (gc:h.get c=some (.row [.map (some id)] 0 false)) (hid:id<h.next) (hm:MapAt Zk h id m) :
 Ct Try.prog 32 [E8b fk c] h fun r h1=>∃ v dn,r=.ret v∧dn.Nodup∧(∀ k,k∈dn↔k∈m.map (·.1))∧Made fKey h h1 v dn:=by
 refine p3d (by simp) ?_
 simp -implicitDefEqProofs (disch:=first|omega|simp only[go_sem]) only[go_sem,true_and,c32]
 refine Yv (h5b Y hg hlen hok hc gc hid hm) ?_
 rintro r h1 ⟨v,dn,rfl,h2,h3,h4⟩
 simp -implicitDefEqProofs (disch:=first|omega|simp only[go_sem]) only[go_sem,true_and,Xx]
 exact ⟨_,rfl,v,dn,rfl,h2,h3,h4⟩
theorem i8a {fk:FuncId} (Y:p6a fk) (hg:K0a Try.prog fk=true) {h:DHeap} {c id:Nat} {m:List (Key × Value)} (hlen:m.length≤1048576) (hok:∀ k∈m.map (·.1),fKey.ok k) (hc:c<h.next) (gc:h.get c=some (.row [.map (some id)] 0 false)) (hid:id<h.next) (hm:MapAt Zk h id m) :
 Ct Try.prog 26 [E8b fk c,.func (.func 28) #[] #[]] h fun r h1=>∃ v l,r=.ret v∧UpK l∧(∀ k,k∈l↔k∈m.map (·.1))∧Ext h h1∧Sl fKey.rep (I6a h h1) h1 v l:=by
 refine j3d (by simp) ?_
 simp -implicitDefEqProofs (disch:=first|omega|simp only[go_sem]) only[go_sem,true_and,c26]
 refine Yv (B9b Y hg (by omega) hok hc gc hid hm) ?_
 rintro r h1 ⟨v,dn,rfl,hn,hmem,mm⟩
 simp -implicitDefEqProofs (disch:=first|omega|simp only[go_sem]) only[go_sem,true_and]
 by_cases h0:dn=[]
 ·subst h0
  refine Yv (B1c mm.arg) ?_
  rintro r h2 ⟨rfl,rfl⟩
  simp -implicitDefEqProofs (disch:=first|omega|simp only[go_sem]) only[go_sem,true_and,Xx]
  exact ⟨_,rfl,v,[],rfl,.nil,hmem,mm.ext,mm.sl⟩
 have hl:dn.length≤m.length:=by
  have:=a1a (b:=m.map (·.1)) hn (fun x hx=>(hmem x).1 hx)
  simpa using this
 obtain ⟨w,o,hw⟩:=mm.nonnil h0
 rcases o with ⟨_,h0',_⟩ | ⟨hz,_⟩ | ⟨i,cap,cells,rfl,hwi,hlt,hgw,hle,els⟩
 ·exact absurd h0' h0
 ·cases hz
 cases hwi
 have hE:=mm.ext
 refine Yv (N6b (F:=fKey) (k:=2) rfl M6b Try.isAgg34 Try.sizeOf34 (cf:=K4a) (W6a▸P1b) W9a (fun x y=>y1b) (o:=0) (esz:=2) hgw (List.length_pos_iff.2 h0) (by rw[Nat.zero_add];exact hle) (Els.flat.1 els).1 (by omega)) ?_
 rintro r h2 ⟨rfl,l',hp,hs,rfl⟩
 rw[W6a]at hs
 have hl':l'.length=dn.length:=hp.length_eq
 have hsl:=n6a hl'.symm hs
 have hnd:l'.Nodup:=hp.nodup_iff.2 hn
 have hle2:(l'.flatMap fKey.enc).length≤cells.length:=by rw[ZU,hl'];exact hle
 simp -implicitDefEqProofs (disch:=first|omega|simp only[go_sem]) only[go_sem,true_and,Xx]
 refine ⟨_,rfl,_,l',rfl,?_,fun k=>(hp.mem_iff).trans (hmem k),hE.set hw,?_⟩
 ·exact (hsl.and hnd).imp fun h=>F2a h.1 (fun e=>h.2 e.symm)
 ·rw[← hl']
  refine .inr ⟨w,0,cap,_,2,false,rfl,⟨hw,hlt⟩,Zq _ _,.inr rfl,?_,?_⟩
  ·rw[U2a,hl']
   simpa using hle
  ·refine Els.flat.2 ⟨?_,fun x hx=>mm.ok x (hp.mem_iff.1 hx)⟩
   obtain ⟨A,B,hAB,hA⟩:∃ A B,cells=A++B∧A.length=(l'.flatMap fKey.enc).length:=⟨_,_,(List.take_append_drop _ cells).symm,by rw[List.length_take];exact Nat.min_eq_left hle2⟩
   rw[hAB,g7a _ _ _ hA.symm,List.drop_zero]
   exact List.take_left' (by rw[ZU];rfl)
end Go.Proofs.Ytheamfnbfgiaeaa
namespace Go.Proofs.Ytheamfnbfgiaeaa
open Go.D
set_option maxRecDepth 100000
def l1a (l:List Pair):List (Key × Value):=l.foldl (fun m p=>V0a m p.k (.int .i64 p.v)) []
theorem F5b {l:List Pair} {i:Nat} (hi:i<l.length):l1a (l.take (i+1))=V0a (l1a (l.take i)) l[i].k (.int .i64 l[i].v):=by
 unfold l1a
 rw[List.take_succ_eq_append_getElem hi,List.foldl_append]
 rfl
theorem P3c {m:List (Key × Value)} {k:Key} {v:Value}:(V0a m k v).length≤m.length+1:=by
 unfold V0a
 split
 ·rw[List.length_map];exact Nat.le_succ _
 ·rw[List.length_append];exact Nat.le_refl _
theorem Y8a:∀ (l:List Pair) (m:List (Key × Value)),(l.foldl (fun m p=>V0a m p.k (.int .i64 p.v)) m).length≤m.length+l.length
 | [],m=>by simp
 | p :: l,m=>by
   have h1:=Y8a l (V0a m p.k (.int .i64 p.v))
   have h2:=P3c (m:=m) (k:=p.k) (v:=.int .i64 p.v)
   rw[List.foldl_cons,List.length_cons]
   omega
theorem t0b (l:List Pair):(l1a l).length≤l.length:=by
 have:=Y8a l []
 rw[List.length_nil,Nat.zero_add]at this
 exact this
theorem Z8a {k:Key}:∀ (l:List Pair) (m:List (Key × Value)),k∈(l.foldl (fun m p=>V0a m p.k (.int .i64 p.v)) m).map (·.1)↔k∈m.map (·.1)∨k∈l.map (·.k)
 | [],m=>by simp
 | p :: l,m=>by
   rw[List.foldl_cons,Z8a l,T7a]
   split
   ·rename_i h
    rw[List.map_cons,List.mem_cons]
    constructor
    ·rintro (a | a)
     ·exact .inl a
     ·exact .inr (.inr a)
    ·rintro (a | a | a)
     ·exact .inl a
     ·exact .inl (a▸h)
     ·exact .inr a
   ·rw[List.map_cons,List.mem_cons,List.mem_append,List.mem_singleton,or_assoc]
theorem b7a {k:Key} {l:List Pair}:k∈(l1a l).map (·.1)↔k∈l.map (·.k):=by
 unfold l1a
 rw[Z8a]
 simp
def g5a (l:List Pair) (k:Key):Option Pair:=l.reverse.find? fun p=>p.k=k
def s1a (l:List Pair) (k:Key):Pair:=(g5a l k).getD ⟨k,0⟩
theorem h8b {l:List Pair} {k:Key} {p:Pair} (h:g5a l k=some p):p∈l∧p.k=k:=by
 refine ⟨List.mem_reverse.1 (List.mem_of_find?_eq_some h),?_⟩
 have:=List.find?_some h
 simpa using this
theorem J0c {l:List Pair} {k:Key} (h:k∈l.map (·.k)):∃ p,g5a l k=some p:=by
 obtain ⟨p,hp,rfl⟩:=List.mem_map.1 h
 cases hq:g5a l p.k with
 | some q=>exact ⟨q,rfl⟩
 | none=>
   have:=List.find?_eq_none.1 hq p (List.mem_reverse.2 hp)
   simp at this
theorem S7a {k:Key}:∀ (l:List Pair) (m:List (Key × Value)),(m.map (·.1)).Nodup→WW (l.foldl (fun m p=>V0a m p.k (.int .i64 p.v)) m) k=match g5a l k with | some p=>some (.int .i64 p.v) | none=>WW m k
 | [],m,_=>rfl
 | p :: l,m,hn=>by
   rw[List.foldl_cons,S7a l _ (P1a hn),H3a hn]
   unfold g5a
   rw[List.reverse_cons,List.find?_append]
   cases hq:l.reverse.find? fun p=>p.k=k with
   | some q=>rfl
   | none=>
     by_cases hk:k=p.k
     ·simp[hk]
     ·have:¬ p.k=k:=fun e=>hk e.symm
      simp[hk,this]
theorem B5b {l:List Pair} {k:Key}:WW (l1a l) k=(g5a l k).map fun p=>.int .i64 p.v:=by
 unfold l1a
 rw[S7a l [] .nil]
 cases g5a l k <;> rfl
theorem t8b {l:List Pair} {k:Key} (h:k∈l.map (·.k)):s1a l k∈l∧(s1a l k).k=k∧WW (l1a l) k=some (.int .i64 (s1a l k).v):=by
 obtain ⟨p,hp⟩:=J0c h
 obtain ⟨h1,h2⟩:=h8b hp
 rw[B5b]
 unfold s1a
 rw[hp]
 exact ⟨h1,h2,rfl⟩
theorem h3b {k:Key} {v:Int}:Xj Try.prog 84 [(0,Zk k),(1,.int .i64 v)]=some (.agg #[.int .i32 k.t,.int .i64 k.r,.int .i64 v]):=k0a K0d rfl
theorem n0b:x7a Try.prog 103 Zk (.int .i64 0):=⟨_,_,g2b,g8b,by kernel_rfl⟩
theorem t8c {h:DHeap} {v:Value} {l:List Pair} (hb:Arg fPair.rep h v l) (hl:l.length≤1048576) :
 Ct Try.prog 55 [v] h fun r h1=>∃ w ks,r=.ret w∧UpK ks∧(∀ k,k∈ks↔k∈l.map (·.k))∧(ks=[]→w=.slice none 0 0)∧Made fPair h h1 w (ks.map (s1a l)):=by
 refine J3d (by simp) ?_
 have el:∀ K,dLen Try.prog #[82] v K=some (.int .i64 (l.length:Nat)):=hb.lens (P:=Try.prog) (ts:=#[82]) (t:=82) rfl q4b
 simp -implicitDefEqProofs (disch:=first|omega|simp only[go_sem]) only[go_sem,true_and,c55,el]
 refine XU (σ:=Nat) (by kernel_rfl) (fun i s=>s.df=[]∧s.rd=none∧s.fr 3=some (.map (some h.next))∧s.fr 10=some v∧s.fr 11=some (.int .i64 (l.length:Nat))∧s.fr 12=some (.int .i64 (i:Nat))∧i≤l.length∧h.next<s.h.next∧Ext h s.h∧MapAt Zk s.h h.next (l1a (l.take i))) (fun i=>l.length - i) 0 ?_ ?_
 ·simp -implicitDefEqProofs (disch:=first|omega|simp only[go_sem]) only[go_sem,true_and]
  exact ⟨by trivial,Nat.zero_le _,Nat.lt_succ_self _,Ext.push1 _ _,MapAt.new⟩
 rintro i ⟨fr,df,K,rd⟩ K' hK' hX ⟨rfl,rfl,f3,f10,f11,f12,hi,hlt,hE,hm⟩
 simp only at f3 f10 f11 f12 hlt hE hm
 simp -implicitDefEqProofs (disch:=first|omega|simp only[go_sem]) only[go_sem,true_and,f10,f11,f12]
 refine j0a (fun hc1=>?_) (fun hc1=>?_)
 ·have hj:i<l.length:=by omega
  obtain ⟨id1,o1,e1,_,hat1⟩:=(hb.ext hE).idx (P:=Try.prog) (t:=82) t8a (k:=.i64) (i:=i) (x:=l[i]) (by simp)
  have l1:Zj K id1 o1 3=some (.agg #[.int .i32 l[i].k.t,.int .i64 l[i].k.r,.int .i64 l[i].v]):=hat1.flat.2.1
  obtain ⟨K1,hK1⟩:∃ H,H=K.push (.row [.int .i32 l[i].k.t,.int .i64 l[i].k.r,.int .i64 l[i].v] 0 false):=⟨_,rfl⟩
  have g1:K1.get K.next=some (.row [.int .i32 l[i].k.t,.int .i64 l[i].k.r,.int .i64 l[i].v] 0 false):=by rw[hK1];exact Zz _ _
  have lk:Zj K1 K.next 0 2=some (Zk l[i].k):=by rw[Zu g1 (Nat.le_of_ble_eq_true rfl)];rfl
  have lv:ZZ K1 K.next 2=some (.int .i64 l[i].v):=Zy g1
  have hE1:Ext K K1:=by rw[hK1];exact Ext.push1 _ _
  have hm1:MapAt Zk K1 h.next (l1a (l.take i)):=hm.keep (hE1.get _ hlt)
  obtain ⟨o,hu,hm2⟩:=hm1.update n0b l[i].k (.int .i64 l[i].v)
  have hw:=YZ hj (by omega)
  have hst:Yz Try.prog 84 (.pointer (some ⟨K.next,0,none⟩)) (.agg #[.int .i32 l[i].k.t,.int .i64 l[i].k.r,.int .i64 l[i].v]) (K.push (.row [.int .i32 0,.int .i64 0,.int .i64 0] 0 false))=some K1:=by
   rw[hK1]
   exact (N2b rfl).trans (a0a rfl rfl)
  simp -implicitDefEqProofs (disch:=first|omega|simp only[go_sem]) only[go_sem,true_and,f3,f10,f12,e1,l1,hst,lk,lv,hu,hw]
  refine hK' (i+1) _ ?_ (by omega)
  have hn1:=hE1.next
  exact ⟨rfl,rfl,(vy f3),(vy f10),(vy f11),vz,by omega,show h.next<K1.next by omega,(hE.trans hE1).set (Nat.le_refl _),by rw[F5b hj];exact hm2⟩
 obtain rfl:i=l.length:=by omega
 refine hX _ _ (by simp) ?_
 rw[List.take_length]at hm
 simp -implicitDefEqProofs (disch:=first|omega|simp only[go_sem]) only[go_sem,true_and,f3]
 have hkok:∀ k∈(l1a l).map (·.1),fKey.ok k:=fun k hk=>by
  obtain ⟨p,hp,rfl⟩:=List.mem_map.1 (b7a.1 hk)
  exact (hb.ok p hp).1
 refine Yv L0c ?_
 rintro r h2 ⟨rfl,rfl⟩
 simp -implicitDefEqProofs (disch:=first|omega|simp only[go_sem]) only[go_sem,true_and]
 obtain ⟨H2,hH2⟩:∃ H,H=K.push (.row [.map (some h.next)] 0 false):=⟨_,rfl⟩
 rw[← hH2]
 have g2:H2.get K.next=some (.row [.map (some h.next)] 0 false):=by rw[hH2];exact Zz _ _
 have hE2:Ext K H2:=by rw[hH2];exact Ext.push1 _ _
 have hH2n:H2.next=K.next+1:=by rw[hH2];rfl
 have hm2:MapAt Zk H2 h.next (l1a l):=hm.keep (hE2.get _ hlt)
 refine Yv (i8a R5b (by kernel_rfl) (h:=H2) (c:=K.next) (id:=h.next) (m:=l1a l) (Nat.le_trans (t0b l) hl) hkok (by omega) g2 (by omega) hm2) ?_
 rintro r h3 ⟨w,ks,rfl,hup,hmem,hE3,hs3⟩
 have hsk:Arg fKey.rep h3 w ks:=hs3.mono fun i hi=>⟨hi.2,rfl⟩
 have ek:∀ K,dLen Try.prog #[24] w K=some (.int .i64 (ks.length:Nat)):=hsk.lens (P:=Try.prog) (ts:=#[24]) (t:=24) rfl R2a
 simp -implicitDefEqProofs (disch:=first|omega|simp only[go_sem]) only[go_sem,true_and,Xx,ek]
 have hpm:∀ k∈ks,s1a l k∈l∧(s1a l k).k=k∧WW (l1a l) k=some (.int .i64 (s1a l k).v):=fun k hk=>t8b (b7a.1 ((hmem k).1 hk))
 have hkl:ks.length≤1048576:=by
  have h1:=a1a (a:=ks) (b:=(l1a l).map (·.1)) (hup.imp fun {a b} h e=>by rw[e,k1a]at h;cases h) (fun x hx=>(hmem x).1 hx)
  rw[List.length_map]at h1
  exact Nat.le_trans h1 (Nat.le_trans (t0b l) hl)
 have hE03:Ext h h3:=(hE.trans hE2).trans hE3
 have hn3:=hE3.next
 have hm3:MapAt Zk h3 h.next (l1a l):=hm2.keep (hE3.get _ (by omega))
 refine XU (σ:=Nat) (by kernel_rfl) (fun j s=>s.df=[]∧s.rd=none∧s.fr 3=some (.map (some h.next))∧s.fr 24=some w∧s.fr 25=some (.int .i64 (ks.length:Nat))∧s.fr 26=some (.int .i64 (j:Nat))∧j≤ks.length∧∃ v',s.fr 6=some v'∧(j=0→v'=.slice none 0 0)∧Made fPair h3 s.h v' ((ks.take j).map (s1a l))) (fun j=>ks.length - j) 0 ?_ ?_
 ·simp -implicitDefEqProofs (disch:=first|omega|simp only[go_sem]) only[go_sem,true_and,f3]
  exact ⟨by trivial,Nat.zero_le _,_,rfl,fun _=>rfl,Made.nil _ (.refl _)⟩
 rintro j ⟨fr,df,K4,rd⟩ K' hK' hX ⟨rfl,rfl,f3,f24,f25,f26,hj,v',f6,hv0,mm⟩
 simp only at f3 f24 f25 f26 f6 mm
 have hE4:=mm.ext
 have hn4:=hE4.next
 simp -implicitDefEqProofs (disch:=first|omega|simp only[go_sem]) only[go_sem,true_and,f24,f25,f26]
 refine j0a (fun hc1=>?_) (fun hc1=>?_)
 ·have hjl:j<ks.length:=by omega
  obtain ⟨id1,o1,e1,_,hat1⟩:=(hsk.ext hE4).idx (P:=Try.prog) (t:=24) Z3a (k:=.i64) (i:=j) (x:=ks[j]) (by simp)
  have l1:Zj K4 id1 o1 2=some (Zk ks[j]):=hat1.flat.2.1
  obtain ⟨K5,hK5⟩:∃ H,H=K4.push (.row [.int .i32 ks[j].t,.int .i64 ks[j].r] 0 false):=⟨_,rfl⟩
  have hE5:Ext K4 K5:=by rw[hK5];exact Ext.push1 _ _
  have hK5n:K5.next=K4.next+1:=by rw[hK5];rfl
  have hst:Yz Try.prog 34 (.pointer (some ⟨K4.next,0,none⟩)) (Zk ks[j]) (K4.push (.row [.int .i32 0,.int .i64 0] 0 false))=some K5:=by
   rw[hK5]
   exact (s3a rfl).trans (a0a rfl rfl)
  have g5:K5.get K4.next=some (.row [.int .i32 ks[j].t,.int .i64 ks[j].r] 0 false):=by rw[hK5];exact Zz _ _
  have l5:Zj K5 K4.next 0 2=some (Zk ks[j]):=by rw[Zu g5 (Nat.le_of_ble_eq_true rfl)];rfl
  obtain ⟨hp1,hp2,hp3⟩:=hpm ks[j] (List.getElem_mem hjl)
  have lk5:J0a Try.prog 103 (.map (some h.next)) (Zk ks[j]) false K5=some (.int .i64 (s1a l ks[j]).v):=by
   rw[(hm3.keep ((hE5.get _ (by omega)).trans (hE4.get _ (by omega)))).lookup n0b ks[j] false,hp3]
   rfl
  obtain ⟨w2,h6,e6,m6⟩:=(mm.on hE5).snoc j9b (y:=s1a l ks[j]) (cs:=[.int .i32 ks[j].t,.int .i64 ks[j].r,.int .i64 (s1a l ks[j]).v]) (z:=3) (by rw[j0c,hp2]) rfl (hb.ok _ hp1) (by rw[List.length_map,List.length_take];omega) (by decide)
  have hw:=YZ hjl (by omega)
  simp -implicitDefEqProofs (disch:=first|omega|simp only[go_sem]) only[go_sem,true_and,f24,f26,e1,l1,hst]
  refine l9c rfl ?_
  simp -implicitDefEqProofs (disch:=first|omega|simp only[go_sem]) only[go_sem,true_and,U4c,T5c,f3,f6,f26,l5,lk5,h3b,e6,hw]
  refine hK' (j+1) _ ?_ (by omega)
  refine ⟨rfl,rfl,(vy f3),(vy f24),(vy f25),vz,by omega,w2,vz,fun h=>by omega,?_⟩
  rw[List.take_succ_eq_append_getElem hjl,List.map_append]
  exact m6
 obtain rfl:j=ks.length:=by omega
 refine hX _ _ (by simp) ?_
 rw[List.take_length]at mm
 simp -implicitDefEqProofs (disch:=first|omega|simp only[go_sem]) only[go_sem,true_and,f6]
 exact ⟨_,rfl,_,ks,rfl,hup,fun k=>(hmem k).trans b7a,fun e=>hv0 (by rw[e];rfl),mm.base hE03⟩
theorem I8b {l:List Key} {k:Key} {i:Nat} (hi:i<l.length) (h:k∉l.take i) (hn:l[i]≠k):k∉l.take (i+1):=by
 rw[List.take_succ_eq_append_getElem hi,List.mem_append,List.mem_singleton]
 rintro (a | a)
 ·exact h a
 ·exact hn a.symm
theorem c8b {h:DHeap} {a:Value} {l:List Key} {k:Key} (hb:Arg fKey.rep h a l) (hl:l.length≤4294967296) :
 Ct Try.prog 23 [a,Zk k] h fun r h1=>∃ n:Int,r=.ret (.int .i64 n)∧(0≤n↔k∈l)∧Ext h h1:=by
 refine g3d (by simp) ?_
 have el:∀ K,dLen Try.prog #[24] a K=some (.int .i64 (l.length:Nat)):=hb.lens (P:=Try.prog) (ts:=#[24]) (t:=24) rfl R2a
 obtain ⟨K,hK⟩:∃ K,K=h.push (.row [.int .i32 k.t,.int .i64 k.r] 0 false):=⟨_,rfl⟩
 have hE:Ext h K:=by rw[hK];exact Ext.push1 _ _
 have gk:K.get h.next=some (.row [.int .i32 k.t,.int .i64 k.r] 0 false):=by rw[hK];exact Zz _ _
 have lk:Zj K h.next 0 2=some (Zk k):=by rw[Zu gk (Nat.le_of_ble_eq_true rfl)];rfl
 have hcl:(Zk k).cells.toList=[.int .i32 k.t,.int .i64 k.r]:=rfl
 simp -implicitDefEqProofs (disch:=first|omega|simp only[go_sem]) only[go_sem,true_and,c23,el,hcl,← hK]
 refine XU (σ:=Nat) (by kernel_rfl) (fun i s=>s.df=[]∧s.rd=none∧s.h=K∧s.fr 0=some a∧s.fr 3=some (.pointer (some ⟨h.next,0,none⟩))∧s.fr 7=some (.int .i64 (l.length:Nat))∧s.fr 8=some (.int .i64 (i:Nat))∧i≤l.length∧k∉l.take i) (fun i=>l.length - i) 0 ?_ ?_
 ·simp -implicitDefEqProofs (disch:=first|omega|simp only[go_sem]) only[go_sem,true_and]
  exact ⟨by trivial,Nat.zero_le _,by simp⟩
 rintro i ⟨fr,df,hh,rd⟩ K' hK' hX ⟨rfl,rfl,rfl,f0,f3,f7,f8,hi,hni⟩
 simp only at f0 f3 f7 f8
 simp -implicitDefEqProofs (disch:=first|omega|simp only[go_sem]) only[go_sem,true_and,f7,f8]
 refine j0a (fun hc1=>?_) (fun hc1=>?_)
 ·have hj:i<l.length:=by omega
  obtain ⟨id1,o1,e1,_,hat1⟩:=(hb.ext hE).idx (P:=Try.prog) (t:=24) Z3a (k:=.i64) (i:=i) (x:=l[i]) (by simp)
  have l1:Zj hh id1 o1 2=some (Zk l[i]):=hat1.flat.2.1
  have hw:=YZ hj (by omega)
  simp -implicitDefEqProofs (disch:=first|omega|simp only[go_sem]) only[go_sem,true_and,f8]
  refine V8c rfl ?_
  simp -implicitDefEqProofs (disch:=first|omega|simp only[go_sem]) only[go_sem,true_and,G4c,F5c,f0,f3,lk,e1,l1,d9a]
  by_cases he:k=l[i]
  ·simp -implicitDefEqProofs (disch:=first|omega|simp only[go_sem]) only[go_sem,true_and,he,f8]
   refine hX _ _ (by simp) ?_
   simp -implicitDefEqProofs (disch:=first|omega|simp only[go_sem]) only[go_sem,true_and]
   exact ⟨_,rfl,_,rfl,⟨fun _=>by rw[he];exact List.getElem_mem hj,fun _=>by omega⟩,hE⟩
  ·simp -implicitDefEqProofs (disch:=first|omega|simp only[go_sem]) only[go_sem,true_and,he,f8,hw]
   refine hK' (i+1) _ ?_ (by omega)
   exact ⟨rfl,rfl,rfl,(vy f0),(vy f3),(vy f7),vz,by omega,I8b hj hni fun e=>he e.symm⟩
 obtain rfl:i=l.length:=by omega
 refine hX _ _ (by simp) ?_
 simp -implicitDefEqProofs (disch:=first|omega|simp only[go_sem]) only[go_sem,true_and]
 rw[List.take_length]at hni
 exact ⟨_,rfl,_,rfl,⟨fun h=>absurd h (by decide),fun h=>absurd h hni⟩,hE⟩
theorem O9a {h:DHeap} {a:Value} {l:List Key} {k:Key} (hb:Arg fKey.rep h a l) (hl:l.length≤4294967296) :
 DC Try.prog 12 [a,Zk k] h (.ret (.bool (decide (k∈l)))) h:=by
 refine Ct.pure (U2d (by simp) ?_) (W0a _)
 obtain ⟨K,hK⟩:∃ K,K=h.push (.row [.int .i32 k.t,.int .i64 k.r] 0 false):=⟨_,rfl⟩
 have hE:Ext h K:=by rw[hK];exact Ext.push1 _ _
 have gk:K.get h.next=some (.row [.int .i32 k.t,.int .i64 k.r] 0 false):=by rw[hK];exact Zz _ _
 have lk:Zj K h.next 0 2=some (Zk k):=by rw[Zu gk (Nat.le_of_ble_eq_true rfl)];rfl
 have hcl:(Zk k).cells.toList=[.int .i32 k.t,.int .i64 k.r]:=rfl
 simp -implicitDefEqProofs (disch:=first|omega|simp only[go_sem]) only[go_sem,true_and,c12,hcl,← hK,lk]
 refine Yv (c8b (hb.ext hE) hl) ?_
 rintro r h1 ⟨n,rfl,hn,hE1⟩
 simp -implicitDefEqProofs (disch:=first|omega|simp only[go_sem]) only[go_sem,true_and,Xx]
 exact ⟨_,rfl,congrArg (fun b=>DEnd.ret (Value.bool b)) (decide_eq_decide.2 hn),hE.trans hE1⟩
theorem a8b {h:DHeap} {a:Value} {l:List Key} {k:Key} (hb:Arg fKey.rep h a l) (hl:l.length≤4294967296) :
 DC Try.prog 57 [a,Zk k] h (.ret (.bool (decide (k∈l)))) h:=by
 refine Ct.pure (L3d (by simp) ?_) (W0a _)
 obtain ⟨K,hK⟩:∃ K,K=h.push (.row [.int .i32 k.t,.int .i64 k.r] 0 false):=⟨_,rfl⟩
 have hE:Ext h K:=by rw[hK];exact Ext.push1 _ _
 have gk:K.get h.next=some (.row [.int .i32 k.t,.int .i64 k.r] 0 false):=by rw[hK];exact Zz _ _
 have lk:Zj K h.next 0 2=some (Zk k):=by rw[Zu gk (Nat.le_of_ble_eq_true rfl)];rfl
 have hcl:(Zk k).cells.toList=[.int .i32 k.t,.int .i64 k.r]:=rfl
 simp -implicitDefEqProofs (disch:=first|omega|simp only[go_sem]) only[go_sem,true_and,c57,hcl,← hK,lk]
 refine YQ (O9a (hb.ext hE) hl) ?_
 simp -implicitDefEqProofs (disch:=first|omega|simp only[go_sem]) only[go_sem,true_and]
 exact ⟨_,rfl,rfl,hE⟩
abbrev f4a (x:Pair):Value:=.agg #[.int .i32 x.k.t,.int .i64 x.k.r,.int .i64 x.v]
structure c9a (h:DHeap) (f:FuncId) (cap:Array Value) (l:List Pair) (pd:Pair→Bool):Prop where
 good:K0a Try.prog f=true
 says:∀ x∈l,∀ K,Ext h K→DC Try.prog f (f4a x :: cap.toList) K (.ret (.bool (pd x))) K
theorem V8a {h:DHeap} {a:Value} {l:List Pair} {f:FuncId} {cap:Array Value} {pd:Pair→Bool} (hb:Arg fPair.rep h a l) (hl:l.length≤4294967296) (ht:c9a h f cap l pd) :
 Ct Try.prog 75 [a,.func (.func f) #[] cap] h fun r h1=>Ext h h1∧((r=.ret (.int .i64 (-1))∧∀ x∈l,pd x=false)∨∃ i:Nat,∃ hi:i<l.length,r=.ret (.int .i64 (i:Nat))∧pd l[i]=true∧∀ x∈l.take i,pd x=false):=by
 refine V3d (by simp) ?_
 have el:∀ K,dLen Try.prog #[82] a K=some (.int .i64 (l.length:Nat)):=hb.lens (P:=Try.prog) (ts:=#[82]) (t:=82) rfl q4b
 simp -implicitDefEqProofs (disch:=first|omega|simp only[go_sem]) only[go_sem,true_and,c75,el]
 refine XU (σ:=Nat) (by kernel_rfl) (fun i s=>s.df=[]∧s.rd=none∧s.h=h∧s.fr 0=some a∧s.fr 1=some (.func (.func f) #[] cap)∧s.fr 7=some (.int .i64 (l.length:Nat))∧s.fr 8=some (.int .i64 (i:Nat))∧i≤l.length∧∀ x∈l.take i,pd x=false) (fun i=>l.length - i) 0 ?_ ?_
 ·simp -implicitDefEqProofs (disch:=first|omega|simp only[go_sem]) only[go_sem,true_and]
  exact ⟨by trivial,Nat.zero_le _,fun x hx=>by simp at hx⟩
 rintro i ⟨fr,df,hh,rd⟩ K' hK' hX ⟨rfl,rfl,rfl,f0,f1,f7,f8,hi,hni⟩
 simp only at f0 f1 f7 f8
 simp -implicitDefEqProofs (disch:=first|omega|simp only[go_sem]) only[go_sem,true_and,f7,f8]
 refine j0a (fun hc1=>?_) (fun hc1=>?_)
 ·have hj:i<l.length:=by omega
  obtain ⟨id1,o1,e1,_,hat1⟩:=hb.idx (P:=Try.prog) (t:=82) t8a (k:=.i64) (i:=i) (x:=l[i]) (by simp)
  have l1:Zj hh id1 o1 3=some (f4a l[i]):=hat1.flat.2.1
  have hw:=YZ hj (by omega)
  have hca:d2a Try.prog hh (some (.func (.func f) #[] cap)) (some [f4a l[i]])=.ok (.enter f (f4a l[i] :: cap.toList)) hh:=a6a ht.good _ _ _
  simp -implicitDefEqProofs (disch:=first|omega|simp only[go_sem]) only[go_sem,true_and,f0,f1,f8,e1,l1,hca]
  refine YQ (ht.says _ (List.getElem_mem hj) hh (.refl _)) ?_
  cases hq:pd l[i] with
  | true=>
    simp -implicitDefEqProofs (disch:=first|omega|simp only[go_sem]) only[go_sem,true_and]
    refine hX _ _ (by simp) ?_
    simp -implicitDefEqProofs (disch:=first|omega|simp only[go_sem]) only[go_sem,true_and]
    exact ⟨_,rfl,.refl _,.inr ⟨i,hj,rfl,hq,hni⟩⟩
  | false=>
    simp -implicitDefEqProofs (disch:=first|omega|simp only[go_sem]) only[go_sem,true_and,f8,hw]
    refine hK' (i+1) _ ?_ (by omega)
    refine ⟨rfl,rfl,rfl,(vy f0),(vy f1),(vy f7),vz,by omega,fun x hx=>?_⟩
    rw[List.take_succ_eq_append_getElem hj,List.mem_append,List.mem_singleton]at hx
    rcases hx with hx | rfl
    ·exact hni x hx
    ·exact hq
 obtain rfl:i=l.length:=by omega
 refine hX _ _ (by simp) ?_
 simp -implicitDefEqProofs (disch:=first|omega|simp only[go_sem]) only[go_sem,true_and]
 rw[List.take_length]at hni
 exact ⟨_,rfl,.refl _,.inl ⟨rfl,hni⟩⟩
theorem o8b {h:DHeap} {c:Nat} {w:Value} {reads:List Key} {x:Pair} (hc:ZZ h c 4=some w) (hlt:c<h.next) (hb:Arg fKey.rep h w reads) (hl:reads.length≤4294967296) :
 DC Try.prog 56 [f4a x,.pointer (some ⟨c,0,none⟩)] h (.ret (.bool (!decide (x.k∈reads)))) h:=by
 refine Ct.pure (K3d (by simp) ?_) (W0a _)
 obtain ⟨K,hK⟩:∃ K,K=h.push (.row [.int .i32 x.k.t,.int .i64 x.k.r,.int .i64 x.v] 0 false):=⟨_,rfl⟩
 have hE:Ext h K:=by rw[hK];exact Ext.push1 _ _
 have gk:K.get h.next=some (.row [.int .i32 x.k.t,.int .i64 x.k.r,.int .i64 x.v] 0 false):=by rw[hK];exact Zz _ _
 have lk:Zj K h.next 0 2=some (Zk x.k):=by rw[Zu gk (Nat.le_of_ble_eq_true rfl)];rfl
 have hc2:ZZ K c 4=some w:=by
  have:=hE.get c hlt
  simp only[ZZ,this]at hc ⊢
  exact hc
 have hcl:(f4a x).cells.toList=[.int .i32 x.k.t,.int .i64 x.k.r,.int .i64 x.v]:=rfl
 simp -implicitDefEqProofs (disch:=first|omega|simp only[go_sem]) only[go_sem,true_and,c56,hcl,← hK,hc2,lk]
 refine YQ (a8b (hb.ext hE) hl) ?_
 simp -implicitDefEqProofs (disch:=first|omega|simp only[go_sem]) only[go_sem,true_and]
 exact ⟨_,rfl,rfl,hE⟩
theorem p8b {h:DHeap} {c:Nat} {w:Value} {reads:List Key} {l:List Pair} (hc:ZZ h c 4=some w) (hlt:c<h.next) (hb:Arg fKey.rep h w reads) (hl:reads.length≤4294967296) :
 c9a h 56 #[.pointer (some ⟨c,0,none⟩)] l fun x=>!decide (x.k∈reads) where
 good:=by kernel_rfl
 says x _ K e:=o8b (by
  have:=e.get c hlt
  simp only[ZZ,this]at hc ⊢
  exact hc) (Nat.lt_of_lt_of_le hlt e.next) (hb.ext e) hl
theorem U1b {l:List Pair} {ks:List Key} (hu:UpK ks) (hm:∀ k,k∈ks↔k∈l.map (·.k)):ks.map (s1a l)=byK Pair.k l:=by
 have e:ks=d4a (l.map (·.k)):=O2b hu (s9a _) fun k=>(hm k).trans mem_keysN.symm
 have key:∀ ms:List Key,(∀ k∈ms,k∈l.map (·.k))→ms.map (s1a l)=ms.filterMap (Yu Pair.k l):=by
  intro ms
  induction ms with
  | nil=>intro _;rfl
  | cons a ms ih=>
    intro h
    obtain ⟨x,hx⟩:=R5a (key:=Pair.k) (h a (by simp))
    rw[List.map_cons,ih fun k hk=>h k (by simp[hk]),List.filterMap_cons,hx]
    have:s1a l a=x:=by
     unfold s1a g5a
     unfold Yu at hx
     rw[hx]
     rfl
    rw[this]
 rw[key ks fun k hk=>(hm k).1 hk,e]
 rfl
theorem a4c {h:DHeap} {v:Value} {l:List Pair} (hb:Arg fPair.rep h v l) (hl:l.length≤1048576):DC Try.prog 55 [v] h (.ret (lv h (byK Pair.k l))) (lh fPair h (byK Pair.k l)):=
 Ct.made ((t8c hb hl).mono fun r h1 ⟨w,ks,e,hu,hm,h0,mm⟩=>by
  rw[U1b hu hm]at mm
  refine ⟨w,e,mm,fun hk=>h0 ?_⟩
  rw[← U1b hu hm]at hk
  simpa using hk)
theorem f4c {K:DHeap} {id i:Nat} {A:List Pair} (r:RowIs fPair K id A) (hi:i<A.length):Zj K id (i*3) 3=some (f4a A[i]):=by
 have hm:(i+1)*3≤A.length*3:=Nat.mul_le_mul_right _ hi
 have h1:A.flatMap fPair.enc=(A.take i).flatMap fPair.enc++(fPair.enc A[i]++(A.drop (i+1)).flatMap fPair.enc):=by
  conv=>lhs;rw[← List.take_append_drop i A,List.drop_eq_getElem_cons hi]
  rw[List.flatMap_append,List.flatMap_cons]
 have h2:i*3=((A.take i).flatMap fPair.enc).length:=by rw[ZU];simp[Nat.min_eq_left (Nat.le_of_lt hi)];rfl
 rw[Zu r (by rw[ZU];show _≤A.length*3;omega),h1,h2,List.drop_left]
 rfl
theorem L7a {h h0:DHeap} {v:Value} {l:List Pair} {f:FuncId} {cap:Array Value} {pd:Pair→Bool} (hb:Arg fPair.rep h v l) (hl:l.length≤1048576) (hE:Ext h0 h) (ht:c9a h0 f cap l pd) (hn:∀ x∈l,pd x=false) :
 Ct Try.prog 54 [v,.func (.func f) #[] cap] h fun r h1=>r=.ret v∧Ext h h1:=by
 refine X4c (by simp) ?_
 have ht':c9a h f cap l pd:=⟨ht.good,fun x hx K e=>ht.says x hx K (hE.trans e)⟩
 simp -implicitDefEqProofs (disch:=first|omega|simp only[go_sem]) only[go_sem,true_and,c54]
 refine Yv (V8a hb (by omega) ht') ?_
 rintro r h1 ⟨e1,hr⟩
 rcases hr with ⟨rfl,_⟩ | ⟨i,hi,_,hp,_⟩
 ·simp -implicitDefEqProofs (disch:=first|omega|simp only[go_sem]) only[go_sem,true_and,Xx]
  exact ⟨_,rfl,rfl,e1⟩
 ·rw[hn _ (List.getElem_mem hi)]at hp
  cases hp
structure DelI (l:List Pair) (pd:Pair→Bool) (j k:Nat) (A:List Pair):Prop where
 len:A.length=l.length
 le:j≤l.length
 kk:k=((l.take j).filter fun x=>!pd x).length
 hd:A.take k=(l.take j).filter fun x=>!pd x
 lt:k<j
 tl:∀ p,k<p→j≤p→A[p]? = l[p]?
theorem DelI.first {l:List Pair} {pd:Pair→Bool} {i:Nat} (hi:i<l.length) (hp:pd l[i]=true) (hn:∀ x∈l.take i,pd x=false):DelI l pd (i+1) i l:=by
 have e:(l.take (i+1)).filter (fun x=>!pd x)=l.take i:=by
  rw[List.take_succ_eq_append_getElem hi,List.filter_append,List.filter_cons_of_neg (by simp[hp]),List.filter_nil,List.append_nil]
  exact List.filter_eq_self.2 fun x hx=>by simp[hn x hx]
 refine ⟨rfl,hi,?_,?_,Nat.lt_succ_self _,fun _ _ _=>rfl⟩
 ·rw[e,List.length_take];omega
 ·rw[e]
theorem DelI.at {l A:List Pair} {pd:Pair→Bool} {j k:Nat} (x:DelI l pd j k A) (h:j<l.length):∃ h1:j<A.length,A[j]=l[j]:=by
 have e:=x.len
 refine ⟨by omega,?_⟩
 have h1:=x.tl j x.lt (Nat.le_refl _)
 rw[List.getElem?_eq_getElem (by omega),List.getElem?_eq_getElem h]at h1
 exact Option.some.inj h1
theorem DelI.skip {l A:List Pair} {pd:Pair→Bool} {j k:Nat} (x:DelI l pd j k A) (h:j<l.length) (hp:pd l[j]=true):DelI l pd (j+1) k A:=by
 have e:(l.take (j+1)).filter (fun x=>!pd x)=(l.take j).filter fun x=>!pd x:=by
  rw[List.take_succ_eq_append_getElem h,List.filter_append,List.filter_cons_of_neg (by simp[hp]),List.filter_nil,List.append_nil]
 exact ⟨x.len,h,by rw[e];exact x.kk,by rw[e];exact x.hd,Nat.lt_succ_of_lt x.lt,fun p h1 h2=>x.tl p h1 (by omega)⟩
theorem DelI.keep {l A:List Pair} {pd:Pair→Bool} {j k:Nat} (x:DelI l pd j k A) (h:j<l.length) (hp:pd l[j]=false):DelI l pd (j+1) (k+1) (A.set k l[j]):=by
 have e:(l.take (j+1)).filter (fun x=>!pd x)=((l.take j).filter fun x=>!pd x)++[l[j]]:=by
  rw[List.take_succ_eq_append_getElem h,List.filter_append,List.filter_cons_of_pos (by simp[hp]),List.filter_nil]
 have hlt:=x.lt
 have hlen:=x.len
 refine ⟨by rw[List.length_set];exact x.len,h,by rw[e,List.length_append,← x.kk];rfl,?_,by omega,fun p h1 h2=>?_⟩
 ·rw[e,← x.hd,List.take_set,List.take_succ_eq_append_getElem (by omega),List.set_append_right _ _ (by simp;omega)]
  congr 1
  have:k - (List.take k A).length=0:=by simp;omega
  rw[this]
  rfl
 ·rw[List.getElem?_set_ne (by omega)]
  exact x.tl p (by omega) (by omega)
theorem Q6c:L9a Try.prog 82=some (3,.agg #[.int .i32 0,.int .i64 0,.int .i64 0]):=by kernel_rfl
set_option maxHeartbeats 1000000 in
theorem U3b {h h0:DHeap} {id c:Nat} {l:List Pair} {f:FuncId} {cap:Array Value} {pd:Pair→Bool} (hr:RowIs fPair h id l) (hok:∀ x∈l,fPair.ok x) (hl:l.length≤1048576) (hid:h0.next≤id) (hidl:id<h.next) (hE:Ext h0 h) (ht:c9a h0 f cap l pd) :
 Ct Try.prog 54 [.slice (some ⟨id,0,none⟩) l.length c,.func (.func f) #[] cap] h fun r h1=>∃ w,r=.ret w∧Made fPair h0 h1 w (l.filter fun x=>!pd x):=by
 obtain ⟨v,hv⟩:∃ v,Value.slice (some ⟨id,0,none⟩) l.length c=v:=⟨_,rfl⟩
 have hb:Arg fPair.rep h v l:=by
  have:=hr.sl (o:=0) (n:=l.length) (c:=c) (by omega) hok
  simp only[Nat.zero_mul,List.drop_zero,List.take_length]at this
  rw[hv]at this
  exact this.mono fun i hi=>⟨by rw[hi];exact hidl,rfl⟩
 have mk:∀ (K:DHeap) (k c2:Nat) (cs:List Value),Ext h0 K→id<K.next→K.get id=some (.row cs 3 false)→k=(l.filter fun x=>!pd x).length→k*3≤cs.length→cs.take (k*3)=(l.filter fun x=>!pd x).flatMap fPair.enc→Made fPair h0 K (.slice (some ⟨id,0,none⟩) k c2) (l.filter fun x=>!pd x):=fun K k c2 cs e hlt g hk hle ht=>by
  subst hk
  exact ⟨e,some id,.inr (.inr ⟨id,c2,cs,rfl,rfl,hlt,g,hle,Els.flat.2 ⟨ht,fun x hx=>hok x ((List.mem_filter.1 hx).1)⟩⟩),fun i hi=>by cases hi;exact hid⟩
 rw[hv]
 by_cases hn:∀ x∈l,pd x=false
 ·have hf:l.filter (fun x=>!pd x)=l:=List.filter_eq_self.2 fun x hx=>by simp[hn x hx]
  refine (L7a hb hl hE ht hn).mono fun r h1 ⟨e,e1⟩=>⟨v,e,?_⟩
  have:=mk h1 l.length c (l.flatMap fPair.enc) (hE.trans e1) (Nat.lt_of_lt_of_le hidl e1.next) ((e1.get _ hidl).trans hr) (by rw[hf]) (by rw[ZU];exact Nat.le_refl _) (by rw[hf,List.take_of_length_le (by rw[ZU];exact Nat.le_refl _)])
  rw[hv]at this
  exact this
 refine X4c (by simp) ?_
 have el:∀ K,dLen Try.prog #[82] v K=some (.int .i64 (l.length:Nat)):=fun K=>by rw[← hv];rfl
 have ht':c9a h f cap l pd:=⟨ht.good,fun x hx K e=>ht.says x hx K (hE.trans e)⟩
 have ia:∀ i:Nat,i<l.length→ZQ Try.prog 82 v (.int .i64 (i:Nat))=some (.pointer (some ⟨id,i*3,none⟩)):=fun i hi=>by
  rw[← hv]
  refine (r3a t8a (by omega) (by omega)).trans ?_
  rw[Nat.zero_add,Int.toNat_natCast]
 have slo:∀ K (A:List Pair) (k:Nat),RowIs fPair K id A→k≤l.length→∃ c',Xq Try.prog 82 v (some (.int .i64 (k:Nat))) none none K=some (.slice (some ⟨id,k*3,none⟩) (l.length - k) c'):=fun K A k r hk=>by
  rw[← hv]
  have:=a5a (c:=c) (o:=0) (n:=l.length) t8a (by decide) r (lo:=some (.int .i64 (k:Nat))) (hi:=none) (j:=l.length) (i:=k) rfl (N2a (k:=.i64) hk)
  rw[Nat.zero_add]at this
  exact ⟨_,this⟩
 have shi:∀ K cs (k:Nat),K.get id=some (.row cs 3 false)→k≤l.length→∃ c',Xq Try.prog 82 v none (some (.int .i64 (k:Nat))) none K=some (.slice (some ⟨id,0,none⟩) k c'):=fun K cs k r hk=>by
  rw[← hv]
  exact ⟨_,(a5a t8a (by decide) r (j:=k) (i:=0) (N2a (k:=.i64) hk) rfl)⟩
 simp -implicitDefEqProofs (disch:=first|omega|simp only[go_sem]) only[go_sem,true_and,c54]
 refine Yv (V8a hb (by omega) ht') ?_
 rintro r h1 ⟨e1,hr1⟩
 rcases hr1 with ⟨_,hn1⟩ | ⟨i0,hi0,rfl,hp0,hn0⟩
 ·exact absurd hn1 hn
 have hne:(((i0:Nat):Int)=-1)=False:=eq_false (by omega)
 have hw0:=YZ hi0 (by omega)
 simp -implicitDefEqProofs (disch:=first|omega|simp only[go_sem]) only[go_sem,true_and,Xx,hne,hw0]
 have hr1:RowIs fPair h1 id l:=(e1.get _ hidl).trans hr
 refine XU (σ:=Nat) (by kernel_rfl) (fun j s=>s.df=[]∧s.rd=none∧s.fr 0=some v∧s.fr 1=some (.func (.func f) #[] cap)∧s.fr 6=some (.int .i64 (j:Nat))∧Ext h0 s.h∧id<s.h.next∧∃ k A,s.fr 5=some (.int .i64 (k:Nat))∧RowIs fPair s.h id A∧DelI l pd j k A) (fun j=>l.length - j) (i0+1) ?_ ?_
 ·simp -implicitDefEqProofs (disch:=first|omega|simp only[go_sem]) only[go_sem,true_and]
  exact ⟨hE.trans e1,Nat.lt_of_lt_of_le hidl e1.next,i0,l,rfl,hr1,.first hi0 hp0 hn0⟩
 rintro j ⟨fr,df,K,rd⟩ K' hK' hX ⟨rfl,rfl,f0,f1,f6,hEK,hKl,k,A,f5,hrA,x⟩
 simp only at f0 f1 f6 hEK hKl f5 hrA
 have xlt:=x.lt
 have xlen:=x.len
 have xle:=x.le
 simp -implicitDefEqProofs (disch:=first|omega|simp only[go_sem]) only[go_sem,true_and,f0,f6,el]
 refine j0a (fun hc1=>?_) (fun hc1=>?_)
 ·have hj:j<l.length:=by omega
  obtain ⟨hA1,eA1⟩:=x.at hj
  have k1:=f4c hrA hA1
  rw[eA1]at k1
  have hw:=YZ hj (by omega)
  obtain ⟨K1,hK1⟩:∃ H,H=K.push (.row [.int .i32 l[j].k.t,.int .i64 l[j].k.r,.int .i64 l[j].v] 0 false):=⟨_,rfl⟩
  have g1:K1.get K.next=some (.row [.int .i32 l[j].k.t,.int .i64 l[j].k.r,.int .i64 l[j].v] 0 false):=by rw[hK1];exact Zz _ _
  have lk:Zj K1 K.next 0 3=some (f4a l[j]):=by rw[Zu g1 (Nat.le_of_ble_eq_true rfl)];rfl
  have hE1:Ext K K1:=by rw[hK1];exact Ext.push1 _ _
  have hK1n:K1.next=K.next+1:=by rw[hK1];rfl
  have hst:Yz Try.prog 84 (.pointer (some ⟨K.next,0,none⟩)) (.agg #[.int .i32 l[j].k.t,.int .i64 l[j].k.r,.int .i64 l[j].v]) (K.push (.row [.int .i32 0,.int .i64 0,.int .i64 0] 0 false))=some K1:=by
   rw[hK1]
   exact (N2b rfl).trans (a0a rfl rfl)
  have hca:d2a Try.prog K1 (some (.func (.func f) #[] cap)) (some [f4a l[j]])=.ok (.enter f (f4a l[j] :: cap.toList)) K1:=a6a ht.good _ _ _
  have hr2:RowIs fPair K1 id A:=(hE1.get _ hKl).trans hrA
  simp -implicitDefEqProofs (disch:=first|omega|simp only[go_sem]) only[go_sem,true_and,f0,f1,f6,ia j hj,k1,hst,lk,hca]
  refine YQ (ht.says _ (List.getElem_mem hj) K1 (hEK.trans hE1)) ?_
  cases hq:pd l[j] with
  | true=>
    simp -implicitDefEqProofs (disch:=first|omega|simp only[go_sem]) only[go_sem,true_and,f6,hw]
    refine hK' (j+1) _ ?_ (by omega)
    exact ⟨by trivial,by trivial,(vy f0),(vy f1),vz,hEK.trans hE1,show id<K1.next by omega,k,A,(vy f5),hr2,x.skip hj hq⟩
  | false=>
    have hw3:=YZ (i:=k) (show k<l.length by omega) (by omega)
    have hst2:storeAt K1 id (k*3) [.int .i32 l[j].k.t,.int .i64 l[j].k.r,.int .i64 l[j].v]=some (K1.set id (.row ((A.set k l[j]).flatMap fPair.enc) 3 false)):=hr2.store (show k<A.length by omega) l[j]
    simp -implicitDefEqProofs (disch:=first|omega|simp only[go_sem]) only[go_sem,true_and,f0,f5,f6,lk,ia k (show k<l.length by omega),hst2,hw,hw3]
    refine hK' (j+1) _ ?_ (by omega)
    exact ⟨by trivial,by trivial,(vy f0),(vy f1),vz,(hEK.trans hE1).set hid,show id<K1.next by omega,k+1,A.set k l[j],vz,RowIs.set rfl,x.keep hj hq⟩
 ·have hjl:j=l.length:=by omega
  have xk:=x.kk
  have xhd:=x.hd
  rw[hjl,List.take_length]at xk xhd
  obtain ⟨c3,hs3⟩:=slo _ A k hrA (by omega)
  obtain ⟨zs,hzs,hcl⟩:=R9a (esz:=3) (n:=l.length - k) (c:=c3) (o:=k*3) Q6c rfl hrA (by rw[ZU];show _≤A.length*3;omega)
  obtain ⟨c4,hs4⟩:=shi (K.set id (.row (YW (A.flatMap fPair.enc) (k*3) zs) 3 false)) _ k (Zq _ _) (by omega)
  refine hX _ _ (by simp) ?_
  simp -implicitDefEqProofs (disch:=first|omega|simp only[go_sem]) only[go_sem,true_and,f0,f5,hs3,hcl,hs4]
  refine ⟨_,rfl,_,rfl,mk _ k c4 _ (hEK.set hid) hKl (Zq _ _) xk ?_ ?_⟩
  ·rw[U2a,ZU];show k*3≤A.length*3;omega
  ·have hAk:A.flatMap fPair.enc=(A.take k).flatMap fPair.enc++(A.drop k).flatMap fPair.enc:=by rw[← List.flatMap_append,List.take_append_drop]
   have hlk:k*3=((A.take k).flatMap fPair.enc).length:=by rw[ZU];simp[Nat.min_eq_left (show k≤A.length by omega)];rfl
   rw[← xhd]
   refine List.ext_getElem? fun i=>?_
   rw[List.getElem?_take]
   split
   ·rename_i hi
    rw[N3a,if_neg (by omega),hAk,List.getElem?_append_left (by omega)]
   ·rw[List.getElem?_eq_none (by omega)]
theorem f0c {h0 H:DHeap} {l:List Pair} {f:FuncId} {cap:Array Value} {pd:Pair→Bool} (hok:∀ x∈l,fPair.ok x) (hl:l.length≤1048576) (hE:Ext h0 H) (ht:c9a H f cap l pd) :
 Ct Try.prog 54 [lv H l,.func (.func f) #[] cap] (lh fPair H l) fun r h1=>∃ w,r=.ret w∧Made fPair h0 h1 w (l.filter fun x=>!pd x):=by
 by_cases h0':l=[]
 ·subst h0'
  refine (L7a (h0:=H) (pd:=pd) (k8c fPair H hok).arg (by simp) (l0b _ _ _) ht (fun x hx=>by cases hx)).mono fun r h1 ⟨e,e1⟩=>⟨_,e,?_⟩
  exact (Made.nil fPair ((hE.trans (l0b _ _ _)).trans e1))
 ·have hne:l.isEmpty=false:=by simpa using h0'
  have e1:lv H l=.slice (some ⟨H.next,0,none⟩) l.length (l.length+1):=by unfold lv;rw[hne];rfl
  have e2:lh fPair H l=H.push (.row (l.flatMap fPair.enc) 3 false):=by unfold lh;rw[hne];rfl
  rw[e1,e2]
  refine (U3b (h0:=H) (Zz _ _) hok hl (Nat.le_refl _) (Nat.lt_succ_self _) (Ext.push1 _ _) ht).mono fun r h1 ⟨w,e,m⟩=>⟨w,e,m.base hE⟩
theorem p8c {h:DHeap} {t:Txn} {vc va vr vw v:Value} {l:List Pair} (x:TxV (InH h) h t vc va vr vw) (hb:Arg fPair.rep h v l) (hl:l.length≤1048576) (hr:t.reads.length≤4294967296) :
 Ct Try.prog 40 [Wq t.ses t.req vc va vr vw,v] h fun r h1=>∃ w,r=.ret w∧Made fPair h h1 w (f2a t l):=by
 refine x3d (by simp) ?_
 obtain ⟨H,hH⟩:∃ H,H=h.push (.row [.int .i64 t.ses,.int .i64 t.req,vc,va,vr,vw] 0 false):=⟨_,rfl⟩
 have hE:Ext h H:=by rw[hH];exact Ext.push1 _ _
 have g:H.get h.next=some (.row [.int .i64 t.ses,.int .i64 t.req,vc,va,vr,vw] 0 false):=by rw[hH];exact Zz _ _
 have hHn:H.next=h.next+1:=by rw[hH];rfl
 have hcl:(Wq t.ses t.req vc va vr vw).cells.toList=[.int .i64 t.ses,.int .i64 t.req,vc,va,vr,vw]:=rfl
 simp -implicitDefEqProofs (disch:=first|omega|simp only[go_sem]) only[go_sem,true_and,c40,hcl,← hH]
 refine YQ (a4c (hb.ext hE) hl) ?_
 simp -implicitDefEqProofs (disch:=first|omega|simp only[go_sem]) only[go_sem,true_and]
 have hlen:=r6a (key:=Pair.k) l
 refine Yv (f0c (h0:=h) (fun x hx=>hb.ok x (j5a hx)) (by omega) hE (p8b (Zy g) (by omega) (x.ext hE).r hr)) ?_
 rintro r h1 ⟨w,rfl,m⟩
 simp -implicitDefEqProofs (disch:=first|omega|simp only[go_sem]) only[go_sem,true_and,Xx]
 refine ⟨_,rfl,w,rfl,?_⟩
 simpa [f2a] using m
end Go.Proofs.Ytheamfnbfgiaeaa
namespace Go.D
variable {P:Program} {α:Type} {F:FRep α} {h h1 K:DHeap} {v:Value} {l:List α} {z b id:Nat} {ts:Array TypeId}
def NoRow (h:DHeap) (i z:Nat):Prop:=∀ cs,h.get i≠some (.row cs z false)
theorem NoRow.map {es:List MapEntry} {c:Nat} (g:h.get id=some (.map es c)):NoRow h id z:=fun cs e=>by rw[g]at e;cases e
theorem NoRow.row {cs:List Value} {y:Nat} (g:h.get id=some (.row cs y false)) (hy:y≠z):NoRow h id z:=fun cs' e=>by rw[g]at e;cases e;exact hy rfl
theorem NoRow.keep (n:NoRow h id z) (e:K.get id=h.get id):NoRow K id z:=fun cs g=>n cs (e▸g)
theorem MapAt.noRow {κ:Type} {enc:κ→Value} {m:List (κ × Value)} (a:MapAt enc h id m):NoRow h id z:=by
 obtain ⟨es,c,g,_⟩:=a
 exact .map g
theorem Owns.ne {w:Option Nat} (a:Owns F.rep NoS K v l w) (hn:NoRow K id F.z):w≠some id:=by
 rintro rfl
 rcases a with ⟨_,_,h0⟩ | ⟨h0,_⟩ | ⟨i,cap,cells,_,h0,_,g,_⟩
 ·cases h0
 ·cases h0
 ·cases h0
  exact hn _ g
theorem Made.setX {o:DObj} (m:Made F h K v l) (hn:NoRow K id F.z) (hid:h.next≤id):Made F h (K.set id o) v l:=by
 obtain ⟨w,a,b⟩:=m.own
 have hne:=a.ne hn
 exact ⟨m.ext.set hid,w,a.mono (Nat.le_refl _) (fun i hi=>Zx _ _ fun e=>by subst e;exact hne hi) (fun i hi=>hi.elim),b⟩
theorem Made.snocX (m:Made F h h1 v l) (hT:M2a P ts=some (F.z,b)) {y:α} {cs:List Value} (hc:cs=F.enc y) (hz:F.z=z) (hp:0<F.z) (hy:F.ok y) (hlen:l.length+1≤4294967296) (hb:b≤32768) :
 ∃ v' h2,s0a P ts v (.slice (some ⟨h1.next,0,none⟩) 1 1) (h1.push (.row cs z false))=some (v',h2)∧Made F h h2 v' (l++[y])∧h2.next=h1.next+2∧∀ i,i<h1.next→NoRow h1 i F.z→h2.get i=h1.get i:=by
 obtain ⟨w,a,bw⟩:=m.own
 obtain ⟨v',h2,e1,n2,ng2,gg,o3⟩:=a.snoc (cs:=cs) (x:=y) (z:=z) (fun i hi=>hi.elim) ⟨hc,hy⟩ hz.symm hp hT hlen hb
 exact ⟨v',h2,e1,⟨⟨by have:=m.ext.next;omega,ng2.trans m.ext.ng,fun i hi=>(gg i (Nat.lt_of_lt_of_le hi m.ext.next) (fun e=>by have:=bw i e;omega)).trans (m.ext.get i hi)⟩,_,o3,fun i hi=>by cases hi;have:=m.ext.next;omega⟩,n2,fun i hi hn=>gg i hi (a.ne hn)⟩
end Go.D
namespace Go.Proofs.Ytheamfnbfgiaeaa
open Go.D
set_option maxRecDepth 100000
abbrev g1a (c:Change):Value:=.agg #[.int .i32 c.k.t,.int .i64 c.k.r,.int .i64 c.v,.bool c.e]
def y1a {α:Type} (key:α→Key) (enc:α→Value) (l:List α):List (Key × Value):=l.foldl (fun m p=>V0a m (key p) (enc p)) []
section
variable {α:Type} {key:α→Key} {enc:α→Value}
theorem O4a {l:List α} {x:α}:y1a key enc (l++[x])=V0a (y1a key enc l) (key x) (enc x):=by
 unfold y1a
 rw[List.foldl_append]
 rfl
theorem X7a {l:List α} {i:Nat} (hi:i<l.length):y1a key enc (l.take (i+1))=V0a (y1a key enc (l.take i)) (key l[i]) (enc l[i]):=by
 rw[List.take_succ_eq_append_getElem hi,O4a]
theorem i7a {P:List α→Prop} (h0:P []) (h1:∀ l x,P l→P (l++[x])):∀ l,P l:=fun l=>by
 have:∀ m:List α,P m.reverse:=fun m=>by
  induction m with
  | nil=>exact h0
  | cons x m ih=>rw[List.reverse_cons];exact h1 _ _ ih
 have h:=this l.reverse
 rwa [List.reverse_reverse]at h
theorem c7a:∀ l:List α,((y1a key enc l).map (·.1)).Nodup:=
 i7a (by simp[y1a]) fun l x ih=>by rw[O4a];exact P1a ih
theorem M4a {k:Key}:∀ l:List α,WW (y1a key enc l) k=(Yu key l k).map enc:=
 i7a rfl fun l x ih=>by
  rw[O4a,H3a (c7a l),k0b,ih]
  by_cases h:k=key x
  ·rw[if_pos h,if_pos h.symm];rfl
  ·rw[if_neg h,if_neg fun e=>h e.symm]
theorem O3c:∀ (l:List α) (k:Key),k∈(y1a key enc l).map (·.1)↔k∈l.map key:=
 i7a (by simp[y1a]) fun l x ih k=>by
  have ih':=ih
  have ih:=ih k
  rw[O4a,T7a,List.map_append,List.map_cons,List.map_nil,List.mem_append,List.mem_singleton]
  split
  ·rename_i hx
   rw[ih]
   have hx:=(ih' (key x)).1 hx
   constructor
   ·exact .inl
   ·rintro (h | rfl)
    ·exact h
    ·exact hx
  ·rw[List.mem_append,List.mem_singleton,ih]
end
theorem R4b:Try.prog.underlying 104=some (.map 34 90):=by kernel_rfl
theorem y8a:x7a Try.prog 104 Zk (g1a O9c):=⟨_,_,R4b,g8b,by kernel_rfl⟩
set_option maxHeartbeats 1000000 in
theorem t9b {h:DHeap} {v:Value} {l:List Change} (hb:Arg fChange.rep h v l) (hl:l.length≤1048576) :
 Ct Try.prog 42 [v] h fun r h1=>∃ w,r=.ret w∧Made fChange h h1 w (byK Change.k l):=by
 refine z3d (by simp) ?_
 have el:∀ K,dLen Try.prog #[85] v K=some (.int .i64 (l.length:Nat)):=hb.lens (P:=Try.prog) (ts:=#[85]) (t:=85) rfl x0c
 simp -implicitDefEqProofs (disch:=first|omega|simp only[go_sem]) only[go_sem,true_and,c42,el]
 refine XU (σ:=Nat) (by kernel_rfl) (fun i s=>s.df=[]∧s.rd=none∧s.fr 3=some (.map (some h.next))∧s.fr 11=some v∧s.fr 12=some (.int .i64 (l.length:Nat))∧s.fr 13=some (.int .i64 (i:Nat))∧i≤l.length∧h.next<s.h.next∧MapAt Zk s.h h.next (y1a Change.k g1a (l.take i))∧∃ kv,s.fr 4=some kv∧Made fKey h s.h kv ((l.take i).map Change.k)) (fun i=>l.length - i) 0 ?_ ?_
 ·simp -implicitDefEqProofs (disch:=first|omega|simp only[go_sem]) only[go_sem,true_and]
  exact ⟨by trivial,Nat.zero_le _,Nat.lt_succ_self _,MapAt.new,_,rfl,.nil fKey (Ext.push1 _ _)⟩
 rintro i ⟨fr,df,K,rd⟩ K' hK' hX ⟨rfl,rfl,f3,f11,f12,f13,hi,hlt,hm,kv,f4,mk⟩
 simp only at f3 f11 f12 f13 hlt hm f4 mk
 have hE:=mk.ext
 simp -implicitDefEqProofs (disch:=first|omega|simp only[go_sem]) only[go_sem,true_and,f11,f12,f13]
 refine j0a (fun hc1=>?_) (fun hc1=>?_)
 ·have hj:i<l.length:=by omega
  obtain ⟨id1,o1,e1,_,hat1⟩:=(hb.ext hE).idx (P:=Try.prog) (t:=85) A4c (k:=.i64) (i:=i) (x:=l[i]) (by simp)
  have l1:Zj K id1 o1 4=some (g1a l[i]):=hat1.flat.2.1
  obtain ⟨K1,hK1⟩:∃ H,H=K.push (.row [.int .i32 l[i].k.t,.int .i64 l[i].k.r,.int .i64 l[i].v,.bool l[i].e] 0 false):=⟨_,rfl⟩
  have g1:K1.get K.next=some (.row [.int .i32 l[i].k.t,.int .i64 l[i].k.r,.int .i64 l[i].v,.bool l[i].e] 0 false):=by rw[hK1];exact Zz _ _
  have hE1:Ext K K1:=by rw[hK1];exact Ext.push1 _ _
  have hK1n:K1.next=K.next+1:=by rw[hK1];rfl
  have hm1:MapAt Zk K1 h.next (y1a Change.k g1a (l.take i)):=hm.keep (hE1.get _ hlt)
  obtain ⟨o,hu,hm2⟩:=hm1.update y8a l[i].k (g1a l[i])
  obtain ⟨K2,hK2⟩:∃ H,K1.set h.next o=H:=⟨_,rfl⟩
  rw[hK2]at hu hm2
  have g2:K2.get K.next=some (.row [.int .i32 l[i].k.t,.int .i64 l[i].k.r,.int .i64 l[i].v,.bool l[i].e] 0 false):=by rw[← hK2,Zx _ _ (by omega)];exact g1
  have lk:Zj K1 K.next 0 2=some (Zk l[i].k):=by rw[Zu g1 (Nat.le_of_ble_eq_true rfl)];rfl
  have lk2:Zj K2 K.next 0 2=some (Zk l[i].k):=by rw[Zu g2 (Nat.le_of_ble_eq_true rfl)];rfl
  have lc:Zj K1 K.next 0 4=some (g1a l[i]):=by rw[Zu g1 (Nat.le_of_ble_eq_true rfl)];rfl
  have mk2:Made fKey h K2 kv ((l.take i).map Change.k):=hK2▸(mk.on hE1).setX hm1.noRow (Nat.le_refl _)
  have hK2n:K2.next=K.next+1:=by rw[← hK2];exact hK1n
  obtain ⟨kv',h6,e6,m6,n6,k6⟩:=mk2.snocX d3b (y:=l[i].k) (cs:=[.int .i32 l[i].k.t,.int .i64 l[i].k.r]) (z:=2) rfl rfl (by decide) (hb.ok _ (List.getElem_mem hj)).1 (by rw[List.length_map,List.length_take];omega) (by decide)
  have hm3:MapAt Zk h6 h.next (y1a Change.k g1a (l.take (i+1))):=by
   rw[X7a hj]
   exact hm2.keep (k6 _ (by omega) hm2.noRow)
  have hw:=YZ hj (by omega)
  have hst:Yz Try.prog 90 (.pointer (some ⟨K.next,0,none⟩)) (.agg #[.int .i32 l[i].k.t,.int .i64 l[i].k.r,.int .i64 l[i].v,.bool l[i].e]) (K.push (.row [.int .i32 0,.int .i64 0,.int .i64 0,.bool false] 0 false))=some K1:=by
   rw[hK1]
   exact (C8a rfl).trans (a0a rfl rfl)
  simp -implicitDefEqProofs (disch:=first|omega|simp only[go_sem]) only[go_sem,true_and,f3,f4,f11,f13,e1,l1,hst,lk,lc,hu,lk2,e6,hw]
  refine hK' (i+1) _ ?_ (by omega)
  refine ⟨by trivial,by trivial,(vy f3),(vy f11),(vy f12),vz,by omega,?_,hm3,kv',vz,?_⟩
  ·show h.next<h6.next
   omega
  ·rw[List.take_succ_eq_append_getElem hj,List.map_append]
   exact m6
 obtain rfl:i=l.length:=by omega
 refine hX _ _ (by simp) ?_
 rw[List.take_length]at hm mk
 simp -implicitDefEqProofs (disch:=first|omega|simp only[go_sem]) only[go_sem,true_and,f4]
 refine Yv (o0d mk.arg (by rw[List.length_map];exact hl)) ?_
 rintro r h3 ⟨w,rfl,hE3,hs3⟩
 obtain ⟨ks,hks⟩:∃ ks,d4a (l.map Change.k)=ks:=⟨_,rfl⟩
 rw[hks]at hs3
 have hsk:Arg fKey.rep h3 w ks:=hs3.mono fun i hi=>⟨hi.2,rfl⟩
 have ek:∀ K,dLen Try.prog #[24] w K=some (.int .i64 (ks.length:Nat)):=hsk.lens (P:=Try.prog) (ts:=#[24]) (t:=24) rfl R2a
 have hkl:ks.length≤l.length:=by
  have:=Q1b (l.map Change.k)
  rw[hks,List.length_map]at this
  exact this
 have hE03:Ext h h3:=hE.trans hE3
 have hn3:=hE3.next
 have hm3:MapAt Zk h3 h.next (y1a Change.k g1a l):=hm.keep (hE3.get _ hlt)
 simp -implicitDefEqProofs (disch:=first|omega|simp only[go_sem]) only[go_sem,true_and,Xx,ek]
 refine XU (σ:=Nat) (by kernel_rfl) (fun j s=>s.df=[]∧s.rd=none∧s.fr 3=some (.map (some h.next))∧s.fr 28=some w∧s.fr 29=some (.int .i64 (ks.length:Nat))∧s.fr 30=some (.int .i64 (j:Nat))∧j≤ks.length∧∃ v',s.fr 7=some v'∧Made fChange h3 s.h v' ((ks.take j).filterMap (Yu Change.k l))) (fun j=>ks.length - j) 0 ?_ ?_
 ·simp -implicitDefEqProofs (disch:=first|omega|simp only[go_sem]) only[go_sem,true_and,f3]
  exact ⟨by trivial,Nat.zero_le _,_,rfl,Made.nil _ (.refl _)⟩
 rintro j ⟨fr,df,K4,rd⟩ K' hK' hX ⟨rfl,rfl,f3,f28,f29,f30,hj,v',f7,mm⟩
 simp only at f3 f28 f29 f30 f7 mm
 have hE4:=mm.ext
 have hn4:=hE4.next
 simp -implicitDefEqProofs (disch:=first|omega|simp only[go_sem]) only[go_sem,true_and,f28,f29,f30]
 refine j0a (fun hc1=>?_) (fun hc1=>?_)
 ·have hjl:j<ks.length:=by omega
  obtain ⟨id1,o1,e1,_,hat1⟩:=(hsk.ext hE4).idx (P:=Try.prog) (t:=24) Z3a (k:=.i64) (i:=j) (x:=ks[j]) (by simp)
  have l1:Zj K4 id1 o1 2=some (Zk ks[j]):=hat1.flat.2.1
  obtain ⟨K5,hK5⟩:∃ H,H=K4.push (.row [.int .i32 ks[j].t,.int .i64 ks[j].r] 0 false):=⟨_,rfl⟩
  have hE5:Ext K4 K5:=by rw[hK5];exact Ext.push1 _ _
  have hK5n:K5.next=K4.next+1:=by rw[hK5];rfl
  have hst:Yz Try.prog 34 (.pointer (some ⟨K4.next,0,none⟩)) (Zk ks[j]) (K4.push (.row [.int .i32 0,.int .i64 0] 0 false))=some K5:=by
   rw[hK5]
   exact (s3a rfl).trans (a0a rfl rfl)
  have g5:K5.get K4.next=some (.row [.int .i32 ks[j].t,.int .i64 ks[j].r] 0 false):=by rw[hK5];exact Zz _ _
  have l5:Zj K5 K4.next 0 2=some (Zk ks[j]):=by rw[Zu g5 (Nat.le_of_ble_eq_true rfl)];rfl
  have hkm:ks[j]∈l.map Change.k:=mem_keysN.1 (hks▸List.getElem_mem hjl)
  obtain ⟨c,hc⟩:=R5a (key:=Change.k) hkm
  obtain ⟨hc1,hc2⟩:=f0a hc
  have lk5:J0a Try.prog 104 (.map (some h.next)) (Zk ks[j]) false K5=some (g1a c):=by
   rw[(hm3.keep ((hE5.get _ (by omega)).trans (hE4.get _ (by omega)))).lookup y8a ks[j] false,M4a,hc]
   rfl
  obtain ⟨w2,h6,e6,m6⟩:=(mm.on hE5).snoc g3b (y:=c) (cs:=[.int .i32 c.k.t,.int .i64 c.k.r,.int .i64 c.v,.bool c.e]) (z:=4) rfl rfl (hb.ok _ hc1) (by have:=List.length_filterMap_le (Yu Change.k l) (ks.take j);have:=List.length_take (i:=j) (l:=ks);omega) (by decide)
  have hw:=YZ hjl (by omega)
  simp -implicitDefEqProofs (disch:=first|omega|simp only[go_sem]) only[go_sem,true_and,f3,f7,f28,f30,e1,l1,hst,l5,lk5,e6,hw]
  refine hK' (j+1) _ ?_ (by omega)
  refine ⟨rfl,rfl,(vy f3),(vy f28),(vy f29),vz,by omega,w2,vz,?_⟩
  rw[List.take_succ_eq_append_getElem hjl,List.filterMap_append]
  simpa [hc] using m6
 obtain rfl:j=ks.length:=by omega
 refine hX _ _ (by simp) ?_
 rw[List.take_length]at mm
 simp -implicitDefEqProofs (disch:=first|omega|simp only[go_sem]) only[go_sem,true_and,f7]
 refine ⟨_,rfl,_,rfl,?_⟩
 unfold byK
 rw[hks]
 exact mm.base hE03
end Go.Proofs.Ytheamfnbfgiaeaa
namespace Go.Proofs.Ytheamfnbfgiaeaa
open Go.D
set_option maxRecDepth 100000
end Go.Proofs.Ytheamfnbfgiaeaa
namespace Go.D
variable {α:Type} {R:Rep α} {S D:Nat→Prop} {h h' K K':DHeap} {v:Value} {l:List α} {id:Nat} {o:DObj}
structure KpD (D:Nat→Prop) (h K:DHeap):Prop where
 next:h.next≤K.next
 ng:K.ng=h.ng
 get:∀ i,i<h.next→¬ D i→K.get i=h.get i
theorem KpD.refl (D:Nat→Prop) (h:DHeap):KpD D h h:=⟨Nat.le_refl _,rfl,fun _ _ _=>rfl⟩
theorem KpD.set (k:KpD D h K) (hD:D id∨h.next≤id):KpD D h (K.set id o):=
 ⟨k.next,k.ng,fun i hi hn=>(Zx _ _ (fun e:i=id=>by
  subst e
  rcases hD with hD | hD
  ·exact hn hD
  ·omega)).trans (k.get i hi hn)⟩
theorem KpD.ext (k:KpD D h K) (e:Ext K K'):KpD D h K':=
 ⟨Nat.le_trans k.next e.next,e.ng.trans k.ng,fun i hi hn=>(e.get i (Nat.lt_of_lt_of_le hi k.next)).trans (k.get i hi hn)⟩
theorem KpD.of (e:Ext h K):KpD D h K:=(KpD.refl D h).ext e
theorem KpD.toExt (k:KpD D h K) (e:Ext h' h) (hD:∀ i,D i→h'.next≤i):Ext h' K:=
 ⟨Nat.le_trans e.next k.next,k.ng.trans e.ng,fun i hi=>(k.get i (Nat.lt_of_lt_of_le hi e.next) (fun hd=>by have:=hD i hd;omega)).trans (e.get i hi)⟩
theorem Sl.kp (a:Sl R S h v l) (k:KpD D h K) (hS:∀ i,S i→i<h.next∧¬ D i):Sl R S K v l:=a.mono fun i hi=>⟨hi,k.get i (hS i hi).1 (hS i hi).2⟩
theorem K4b {F:FRep α} {z:Nat} (a:Sl F.rep S h v l) (k:∀ i,S i→NoRow h i z→K.get i=h.get i) (hz:F.z≠z:=by decide) (hz0:∀ cs esz ro,∀ i,S i→h.get i=some (.row cs esz ro)→ro=false∨True:=fun _ _ _ _ _ _=>.inr trivial):Sl F.rep S K v l:=by
 rcases a with a | ⟨id,o,cap,cells,esz,ro,e,b,c,d,f⟩
 ·exact .inl a
 ·refine .inr ⟨id,o,cap,cells,esz,ro,e,b,(k id b fun cs g=>?_).trans c,d,f.1,Els.flat.2 (Els.flat.1 f.2)⟩
  rw[c]at g
  cases g
  rcases d with d | d
  ·cases d
  ·exact hz d.symm
theorem MapAt.kp {κ:Type} {enc:κ→Value} {m:List (κ × Value)} (a:MapAt enc h id m) (k:KpD D h K) (hi:id<h.next) (hn:¬ D id):MapAt enc K id m:=a.keep (k.get id hi hn)
end Go.D
namespace Go.Proofs.Ytheamfnbfgiaeaa
open Go.D
set_option maxRecDepth 100000
def Wv (t:Txn) (vc va vr vw:Value) (g:List Int) (hm mm am:Nat) (vo:Value) (pc:Int):List Value:=
 .int .i64 t.ses :: .int .i64 t.req :: vc :: va :: vr :: vw :: (g.map (fun n=>Value.int .i64 n)++[.map (some hm),.map (some mm),vo,.int .i64 pc,.map (some am)])
theorem u4b {g:List Int} (h:g.length=8):∃ a b c d e f i j,g=[a,b,c,d,e,f,i,j]:=by
 match g,h with
 | [a,b,c,d,e,f,i,j],_=>exact ⟨a,b,c,d,e,f,i,j,rfl⟩
section
variable {t:Txn} {vc va vr vw vo:Value} {g:List Int} {hm mm am:Nat} {pc:Int}
theorem H5a (hg:g.length=8):(Wv t vc va vr vw g hm mm am vo pc).length=19:=by simp[Wv,hg]
theorem G4b (hg:g.length=8) {a:Nat} (ha:a<8):(Wv t vc va vr vw g hm mm am vo pc)[6+a]? = some (.int .i64 (g.getD a 0)):=by
 obtain ⟨r0,r1,r2,r3,r4,r5,r6,r7,rfl⟩:=u4b hg
 match a,ha with
 | 0,_=>rfl
 | 1,_=>rfl
 | 2,_=>rfl
 | 3,_=>rfl
 | 4,_=>rfl
 | 5,_=>rfl
 | 6,_=>rfl
 | 7,_=>rfl
theorem n1a (hg:g.length=8):(Wv t vc va vr vw g hm mm am vo pc)[14]? = some (.map (some hm))∧(Wv t vc va vr vw g hm mm am vo pc)[15]? = some (.map (some mm))∧(Wv t vc va vr vw g hm mm am vo pc)[16]? = some vo∧(Wv t vc va vr vw g hm mm am vo pc)[17]? = some (.int .i64 pc)∧(Wv t vc va vr vw g hm mm am vo pc)[18]? = some (.map (some am)):=by
 obtain ⟨r0,r1,r2,r3,r4,r5,r6,r7,rfl⟩:=u4b hg
 exact ⟨rfl,rfl,rfl,rfl,rfl⟩
theorem H5b (hg:g.length=8) {a:Nat} (ha:a<8) (v:Int):YW (Wv t vc va vr vw g hm mm am vo pc) (6+a) [.int .i64 v]=Wv t vc va vr vw (g.set a v) hm mm am vo pc:=by
 obtain ⟨r0,r1,r2,r3,r4,r5,r6,r7,rfl⟩:=u4b hg
 match a,ha with
 | 0,_=>rfl
 | 1,_=>rfl
 | 2,_=>rfl
 | 3,_=>rfl
 | 4,_=>rfl
 | 5,_=>rfl
 | 6,_=>rfl
 | 7,_=>rfl
theorem G5b (hg:g.length=8) (v:Value):YW (Wv t vc va vr vw g hm mm am vo pc) 16 [v]=Wv t vc va vr vw g hm mm am v pc:=by
 obtain ⟨r0,r1,r2,r3,r4,r5,r6,r7,rfl⟩:=u4b hg
 rfl
theorem f7a (hg:g.length=8) (n:Int):YW (Wv t vc va vr vw g hm mm am vo pc) 17 [.int .i64 n]=Wv t vc va vr vw g hm mm am vo n:=by
 obtain ⟨r0,r1,r2,r3,r4,r5,r6,r7,rfl⟩:=u4b hg
 rfl
end
structure X5a (h0:DHeap) (b hm mm am:Nat) (t:Txn) (vc va vr vw:Value) (m:List Pair) (L:List Instr):Prop where
 lb:b<h0.next
 lh:hm<h0.next
 lm:mm<h0.next
 la:am<h0.next
 bm:b≠mm
 hb:hm≠b
 hmm:hm≠mm
 ab:am≠b
 amm:am≠mm
 tx:TxV (fun i=>i<h0.next∧¬ (i=b∨i=mm)) h0 t vc va vr vw
 len:Q3a t
 has:MapAt Zk h0 hm (y1a Pair.k (fun p=>.int .i64 p.v) m)
 at_:∃ ms:List (Int × Value),MapAt (fun n:Int=>Value.int .i64 n) h0 am ms∧∀ (i:Nat) x,L[i]? = some x→WW ms x.pos=some (.int .i64 (i:Nat))
 okm:∀ p∈m,fPair.ok p
structure RunI (h0 K:DHeap) (b hm mm am:Nat) (t:Txn) (vc va vr vw:Value) (s:RS) (pc:Int):Prop where
 kp:KpD (fun i=>i=b∨i=mm) h0 K
 row:∃ vo w,K.get b=some (.row (Wv t vc va vr vw s.reg hm mm am vo pc) 0 false)∧Owns fI64.rep NoS K vo s.out w∧∀ i,w=some i→h0.next≤i
 mine:MapAt Zk K mm (y1a Change.k g1a s.w)
 len:s.reg.length=8
 ok:∀ n∈s.reg,inK .i64 n
 outn:s.out.length≤8
 wok:∀ c∈s.w,fChange.ok c
section
variable {h0 K K':DHeap} {b hm mm am:Nat} {t:Txn} {vc va vr vw:Value} {m:List Pair} {L:List Instr} {s:RS} {pc:Int}
theorem RunI.ext (C:X5a h0 b hm mm am t vc va vr vw m L) (I:RunI h0 K b hm mm am t vc va vr vw s pc) (e:Ext K K'):RunI h0 K' b hm mm am t vc va vr vw s pc:=by
 obtain ⟨vo,w,g,o,hw⟩:=I.row
 have hn:=I.kp.next
 have hlb:=C.lb
 have hlm:=C.lm
 exact ⟨I.kp.ext e,⟨vo,w,(e.get _ (by omega)).trans g,o.mono e.next (fun i hi=>e.get i (o.lt i hi)) (fun i hi=>hi.elim),hw⟩,I.mine.keep (e.get _ (by omega)),I.len,I.ok,I.outn,I.wok⟩
theorem RunI.tx (C:X5a h0 b hm mm am t vc va vr vw m L) (I:RunI h0 K b hm mm am t vc va vr vw s pc):TxV (InH K) K t vc va vr vw:=
 C.tx.mono fun i hi=>⟨Nat.lt_of_lt_of_le hi.1 I.kp.next,I.kp.get i hi.1 hi.2⟩
theorem RunI.box (C:X5a h0 b hm mm am t vc va vr vw m L) (I:RunI h0 K b hm mm am t vc va vr vw s pc) {s':RS} {pc':Int} {vo:Value} {w:Option Nat} (ho:Owns fI64.rep NoS K vo s'.out w) (hw:∀ i,w=some i→h0.next≤i) (hwm:s'.w=s.w) (hl:s'.reg.length=8) (hok:∀ n∈s'.reg,inK .i64 n) (hn:s'.out.length≤8) :
 RunI h0 (K.set b (.row (Wv t vc va vr vw s'.reg hm mm am vo pc') 0 false)) b hm mm am t vc va vr vw s' pc':=by
 have hlb:=C.lb
 refine ⟨I.kp.set (.inl (.inl rfl)),⟨vo,w,Zq _ _,ho.mono (Nat.le_refl _) (fun i hi=>Zx _ _ (by have:=hw i hi;omega)) (fun i hi=>hi.elim),hw⟩,?_,hl,hok,hn,by rw[hwm];exact I.wok⟩
 rw[hwm]
 exact I.mine.keep (Zx _ _ (fun e=>C.bm e.symm))
theorem RunI.reg (C:X5a h0 b hm mm am t vc va vr vw m L) (I:RunI h0 K b hm mm am t vc va vr vw s pc) {vo:Value} (g:K.get b=some (.row (Wv t vc va vr vw s.reg hm mm am vo pc) 0 false)) {a v:Int} (hv:inK .i64 v):RunI h0 (K.set b (.row (Wv t vc va vr vw (s.reg.set a.toNat v) hm mm am vo pc) 0 false)) b hm mm am t vc va vr vw (s.set a v) pc:=by
 obtain ⟨vo',w,g',o,hw⟩:=I.row
 have:vo'=vo:=by
  rw[g]at g'
  injection g' with g'
  injection g' with g'
  have h1:=(n1a (t:=t) (vc:=vc) (va:=va) (vr:=vr) (vw:=vw) (vo:=vo) (hm:=hm) (mm:=mm) (am:=am) (pc:=pc) I.len).2.2.1
  have h2:=(n1a (t:=t) (vc:=vc) (va:=va) (vr:=vr) (vw:=vw) (vo:=vo') (hm:=hm) (mm:=mm) (am:=am) (pc:=pc) I.len).2.2.1
  rw[g',h2]at h1
  exact Option.some.inj h1
 subst this
 refine I.box C (s':=s.set a v) o hw rfl (by simp[I.len]) (fun n hn=>?_) I.outn
 rcases List.mem_or_eq_of_mem_set hn with hn | rfl
 ·exact I.ok n hn
 ·exact hv
theorem RunI.pc' (C:X5a h0 b hm mm am t vc va vr vw m L) (I:RunI h0 K b hm mm am t vc va vr vw s pc) {vo:Value} (g:K.get b=some (.row (Wv t vc va vr vw s.reg hm mm am vo pc) 0 false)) (n:Int):RunI h0 (K.set b (.row (Wv t vc va vr vw s.reg hm mm am vo n) 0 false)) b hm mm am t vc va vr vw s n:=by
 obtain ⟨vo',w,g',o,hw⟩:=I.row
 have:vo'=vo:=by
  rw[g]at g'
  injection g' with g'
  injection g' with g'
  have h1:=(n1a (t:=t) (vc:=vc) (va:=va) (vr:=vr) (vw:=vw) (vo:=vo) (hm:=hm) (mm:=mm) (am:=am) (pc:=pc) I.len).2.2.1
  have h2:=(n1a (t:=t) (vc:=vc) (va:=va) (vr:=vr) (vw:=vw) (vo:=vo') (hm:=hm) (mm:=mm) (am:=am) (pc:=pc) I.len).2.2.1
  rw[g',h2]at h1
  exact Option.some.inj h1
 subst this
 exact I.box C o hw rfl I.len I.ok I.outn
theorem RunI.put (C:X5a h0 b hm mm am t vc va vr vw m L) (I:RunI h0 K b hm mm am t vc va vr vw s pc) {c:Change} {o:DObj} (hm2:MapAt Zk (K.set mm o) mm (V0a (y1a Change.k g1a s.w) c.k (g1a c))) (hc:fChange.ok c):RunI h0 (K.set mm o) b hm mm am t vc va vr vw (s.put c) pc:=by
 obtain ⟨vo,w,g,ow,hw⟩:=I.row
 have hlm:=C.lm
 refine ⟨I.kp.set (.inl (.inr rfl)),⟨vo,w,(Zx _ _ C.bm).trans g,ow.mono (Nat.le_refl _) (fun i hi=>Zx _ _ (by have:=hw i hi;omega)) (fun i hi=>hi.elim),hw⟩,?_,I.len,I.ok,I.outn,fun x hx=>?_⟩
 ·rw[show (s.put c).w=s.w++[c] from rfl,O4a]
  exact hm2
 ·rcases List.mem_append.1 hx with hx | hx
  ·exact I.wok x hx
  ·rw[List.mem_singleton.1 hx]
   exact hc
end
theorem j4c:Try.prog.underlying 105=some (.map 3 3):=by kernel_rfl
theorem z5c:x7a Try.prog 105 (fun n:Int=>Value.int .i64 n) (.int .i64 0):=⟨_,_,j4c,KeyOf.int (by kernel_rfl),by kernel_rfl⟩
theorem U4b {m:List Pair} {w:List Change} {k:Key} {c:Change} (h:Yu Change.k w k=some c):W2a m w k=(c.v,!c.e):=by unfold W2a;rw[h]
theorem h2b {m:List Pair} {w:List Change} {k:Key} {p:Pair} (h:Yu Change.k w k=none) (hp:Yu Pair.k m k=some p):W2a m w k=(p.v,true):=by unfold W2a;rw[h,hp]
theorem Q6b {m:List Pair} {w:List Change} {k:Key} (h:Yu Change.k w k=none) (hp:Yu Pair.k m k=none):W2a m w k=(0,false):=by unfold W2a;rw[h,hp]
set_option maxHeartbeats 1000000 in
theorem n1b {h0 h:DHeap} {b hm mm am:Nat} {t:Txn} {vc va vr vw:Value} {m:List Pair} {L:List Instr} {s:RS} {pc:Int} {k:Key} (C:X5a h0 b hm mm am t vc va vr vw m L) (I:RunI h0 h b hm mm am t vc va vr vw s pc) :
 DC Try.prog 58 [.pointer (some ⟨b,0,none⟩),Zk k] h (.ret (.tuple #[.int .i64 (W2a m s.w k).1,.bool (W2a m s.w k).2])) h:=by
 refine Ct.pure (M3d (by simp) ?_) (Q5a _ rfl)
 obtain ⟨K1,hK1⟩:∃ H,H=h.push (.row [.int .i32 k.t,.int .i64 k.r] 0 false):=⟨_,rfl⟩
 have g1:K1.get h.next=some (.row [.int .i32 k.t,.int .i64 k.r] 0 false):=by rw[hK1];exact Zz _ _
 have e1:Ext h K1:=by rw[hK1];exact Ext.push1 _ _
 have n1:K1.next=h.next+1:=by rw[hK1];rfl
 obtain ⟨K2,hK2⟩:∃ H,H=K1.push (.row [.int .i32 0,.int .i64 0,.int .i64 0,.bool false] 0 false):=⟨_,rfl⟩
 have e2:Ext K1 K2:=by rw[hK2];exact Ext.push1 _ _
 have n2:K2.next=h.next+2:=by rw[hK2,l0a,n1]
 have hcl:(Zk k).cells.toList=[.int .i32 k.t,.int .i64 k.r]:=rfl
 have I2:=I.ext C (e1.trans e2)
 obtain ⟨vo,w,gb,_,_⟩:=I2.row
 obtain ⟨t14,t15,_,_,_⟩:=n1a (t:=t) (vc:=vc) (va:=va) (vr:=vr) (vw:=vw) (vo:=vo) (hm:=hm) (mm:=mm) (am:=am) (pc:=pc) I.len
 have c15:ZZ K2 b 15=some (.map (some mm)):=(Zy gb).trans t15
 have c14:ZZ K2 b 14=some (.map (some hm)):=(Zy gb).trans t14
 have lk:Zj K2 h.next 0 2=some (Zk k):=by rw[Zu ((e2.get _ (by omega)).trans g1) (Nat.le_of_ble_eq_true rfl)];rfl
 have hl:=I2.mine.lookup y8a k true
 rw[M4a]at hl
 have hnb:b<h.next:=Nat.lt_of_lt_of_le C.lb I.kp.next
 have gh:K2.get K1.next=some (.row [.int .i32 0,.int .i64 0,.int .i64 0,.bool false] 0 false):=by rw[hK2];exact Zz _ _
 cases hq:Yu Change.k s.w k with
 | some c=>
   rw[hq]at hl
   simp only[Option.map_some,Option.getD_some,Option.isSome_some,if_true]at hl
   obtain ⟨K3,hK3⟩:∃ H,H=K2.set K1.next (.row [.int .i32 c.k.t,.int .i64 c.k.r,.int .i64 c.v,.bool c.e] 0 false):=⟨_,rfl⟩
   have hst:Yz Try.prog 90 (.pointer (some ⟨K1.next,0,none⟩)) (g1a c) K2=some K3:=by
    rw[hK3]
    exact (C8a rfl).trans (b0a gh (Nat.le_of_ble_eq_true rfl) rfl)
   have g3:K3.get K1.next=some (.row [.int .i32 c.k.t,.int .i64 c.k.r,.int .i64 c.v,.bool c.e] 0 false):=by rw[hK3];exact Zq _ _
   have q1:ZZ K3 K1.next 2=some (.int .i64 c.v):=Zy g3
   have q2:ZZ K3 K1.next 3=some (.bool c.e):=Zy g3
   have e3:Ext h K3:=by rw[hK3];exact (e1.trans e2).set (by omega)
   simp -implicitDefEqProofs (disch:=first|omega|simp only[go_sem]) only[go_sem,true_and,c58,hcl,← hK1]
   refine S6b rfl ?_
   simp -implicitDefEqProofs (disch:=first|omega|simp only[go_sem]) only[go_sem,true_and,W7b,x8b]
   simp -implicitDefEqProofs (disch:=first|omega|simp only[go_sem]) only[go_sem,true_and,← hK2,c15,lk,hl,hst]
   refine ⟨⟨gh,trivial⟩,?_⟩
   refine m9c rfl ?_
   simp -implicitDefEqProofs (disch:=first|omega|simp only[go_sem]) only[go_sem,true_and,V4c,U5c,q1,q2]
   exact ⟨_,rfl,by rw[U4b hq],e3⟩
 | none=>
   rw[hq]at hl
   simp only[Option.map_none,Option.getD_none,Option.isSome_none,if_true]at hl
   obtain ⟨K3,hK3⟩:∃ H,H=K2.set K1.next (.row [.int .i32 0,.int .i64 0,.int .i64 0,.bool false] 0 false):=⟨_,rfl⟩
   have hst:Yz Try.prog 90 (.pointer (some ⟨K1.next,0,none⟩)) (g1a O9c) K2=some K3:=by
    rw[hK3]
    exact (C8a rfl).trans (b0a gh (Nat.le_of_ble_eq_true rfl) rfl)
   have hself:K3=K2:=by rw[hK3];exact A3a gh
   rw[hself]at hst
   have hl2:=(C.has.kp I2.kp C.lh (fun e=>e.elim C.hb C.hmm)).lookup n0b k true
   rw[M4a]at hl2
   simp -implicitDefEqProofs (disch:=first|omega|simp only[go_sem]) only[go_sem,true_and,c58,hcl,← hK1]
   refine S6b rfl ?_
   simp -implicitDefEqProofs (disch:=first|omega|simp only[go_sem]) only[go_sem,true_and,W7b,x8b]
   simp -implicitDefEqProofs (disch:=first|omega|simp only[go_sem]) only[go_sem,true_and,← hK2,c15,lk,hl,hst]
   refine ⟨⟨gh,trivial⟩,?_⟩
   refine n9c rfl ?_
   cases hp:Yu Pair.k m k with
   | some p=>
     rw[hp]at hl2
     simp only[Option.map_some,Option.getD_some,Option.isSome_some,if_true]at hl2
     simp -implicitDefEqProofs (disch:=first|omega|simp only[go_sem]) only[go_sem,true_and,X7b,y8b,c14,lk,hl2]
     exact ⟨_,rfl,by rw[h2b hq hp],e1.trans e2⟩
   | none=>
     rw[hp]at hl2
     simp only[Option.map_none,Option.getD_none,Option.isSome_none,if_true]at hl2
     simp -implicitDefEqProofs (disch:=first|omega|simp only[go_sem]) only[go_sem,true_and,X7b,y8b,c14,lk,hl2]
     exact ⟨_,rfl,by rw[Q6b hq hp],e1.trans e2⟩
theorem s0c {h0 h:DHeap} {b hm mm am:Nat} {t:Txn} {vc va vr vw vo:Value} {m:List Pair} {L:List Instr} {s:RS} {pc:Int} {i:Nat} {x:Instr} (C:X5a h0 b hm mm am t vc va vr vw m L) (I:RunI h0 h b hm mm am t vc va vr vw s pc) (hx:L[i]? = some x) (g:h.get b=some (.row (Wv t vc va vr vw s.reg hm mm am vo pc) 0 false)) :
 Ct Try.prog 61 [.pointer (some ⟨b,0,none⟩),.int .i64 x.pos] h fun r h1=>r=.ret (.tuple #[])∧h1=h.set b (.row (Wv t vc va vr vw s.reg hm mm am vo (i:Nat)) 0 false):=by
 refine P3d (by simp) ?_
 obtain ⟨ms,ha,hat⟩:=C.at_
 obtain ⟨_,_,_,_,t18⟩:=n1a (t:=t) (vc:=vc) (va:=va) (vr:=vr) (vw:=vw) (vo:=vo) (hm:=hm) (mm:=mm) (am:=am) (pc:=pc) I.len
 have c18:ZZ h b 18=some (.map (some am)):=(Zy g).trans t18
 have hl:=(ha.kp I.kp C.la (fun e=>e.elim C.ab C.amm)).lookup z5c x.pos false
 rw[hat i x hx]at hl
 simp only[Bool.false_eq_true,if_false,Option.getD_some]at hl
 have hst:storeAt h b 17 [.int .i64 (i:Nat)]=some (h.set b (.row (Wv t vc va vr vw s.reg hm mm am vo (i:Nat)) 0 false)):=by
  rw[b0a g (by rw[H5a I.len];exact Nat.le_of_ble_eq_true rfl) rfl,f7a I.len]
 simp -implicitDefEqProofs (disch:=first|omega|simp only[go_sem]) only[go_sem,true_and,c61,c18,hl,hst]
 exact ⟨_,rfl,rfl,trivial⟩
end Go.Proofs.Ytheamfnbfgiaeaa
namespace Go.Proofs.Ytheamfnbfgiaeaa
open Go.D
set_option maxRecDepth 100000
theorem F8c {a b:Int} (h:inK .i64 a):inK .i64 (a.tmod b):=by
 rw[t0a]at h ⊢
 have h1:=Int.natAbs_tmod a b
 have h2:a.natAbs % b.natAbs≤a.natAbs:=Nat.mod_le _ _
 by_cases ha:0≤a
 ·have:=Int.tmod_nonneg b ha
  omega
 ·have e:a.tmod b=-((-a).tmod b):=by rw[Int.neg_tmod,Int.neg_neg]
  have:=Int.tmod_nonneg b (show 0 ≤ -a by omega)
  omega
theorem V7c {a:Int} {n:Nat} (h:inK .i64 a):inK .i64 (a.fdiv (2 ^ n)):=by
 have hc:(0:Int)<2 ^ n:=Int.pow_pos (by decide)
 rw[Int.fdiv_eq_ediv_of_nonneg _ (Int.le_of_lt hc)]
 obtain ⟨c,hcc⟩:∃ c:Int,2 ^ n=c:=⟨_,rfl⟩
 rw[hcc]at hc ⊢
 rw[t0a]at h ⊢
 by_cases ha:0≤a
 ·have h1:=Int.ediv_nonneg ha (Int.le_of_lt hc)
  have h2:=Int.ediv_le_self c ha
  omega
 ·have h1:=Int.ediv_neg_of_neg_of_pos (show a<0 by omega) hc
  have h2:a≤a / c:=(Int.le_ediv_iff_mul_le hc).2 (by
   have:a*(c - 1)≤0:=Int.mul_nonpos_of_nonpos_of_nonneg (by omega) (by omega)
   rw[Int.mul_sub,Int.mul_one]at this
   omega)
  omega
theorem w6c {o a b:Int} (ha:inK .i64 a):inK .i64 (X1a o a b).1∧((X1a o a b).2=0∨(X1a o a b).2=1∨(X1a o a b).2=3):=by
 have z0:inK .i64 0:=t0a.2 ⟨by decide,by decide⟩
 have z1:inK .i64 1:=t0a.2 ⟨by decide,by decide⟩
 unfold X1a
 simp only
 have key:∀ {P:Int × Int→Prop} {c:Prop} [Decidable c] {x y:Int × Int},P x→P y→P (if c then x else y):=fun {P c _ x y} h1 h2=>by
  by_cases h:c
  ·rw[if_pos h];exact h1
  ·rw[if_neg h];exact h2
 have w:∀ n,inK .i64 (IntKind.i64.wrap n):=fun n=>o1b _ _
 repeat' (refine key (P:=fun r=>inK .i64 r.1∧(r.2=0∨r.2=1∨r.2=3)) ?_ ?_)
 all_goals first
  | exact ⟨w _,.inl rfl⟩
  | exact ⟨z0,.inr (.inr rfl)⟩
  | exact ⟨F8c ha,.inl rfl⟩
  | exact ⟨V7c ha,.inl rfl⟩
  | exact ⟨z0,.inr (.inl rfl)⟩
  | (refine ⟨?_,.inl rfl⟩
     show inK .i64 (if _ then 1 else 0)
     split
     ·exact z1
     ·exact z0)
theorem U0c {a n:Int} (ha:inK .i64 a):inK .i64 (A6a a n):=by
 unfold A6a
 have h8:inK .i64 (IntKind.i8.wrap a):=by rw[t0a];simp[IntKind.wrap,IntKind.signed,IntKind.bits];omega
 have h16:inK .i64 (IntKind.i16.wrap a):=by rw[t0a];simp[IntKind.wrap,IntKind.signed,IntKind.bits];omega
 have h32:inK .i64 (IntKind.i32.wrap a):=by rw[t0a];simp[IntKind.wrap,IntKind.signed,IntKind.bits];omega
 repeat' split
 all_goals assumption
theorem R6b {m:List Pair} {w:List Change} {k:Key} (hm:∀ p∈m,fPair.ok p) (hw:∀ c∈w,fChange.ok c):inK .i64 (W2a m w k).1:=by
 cases hq:Yu Change.k w k with
 | some c=>rw[U4b hq];exact (hw c (f0a hq).1).2.1
 | none=>
   cases hp:Yu Pair.k m k with
   | some p=>rw[h2b hq hp];exact (hm p (f0a hp).1).2
   | none=>rw[Q6b hq hp];exact t0a.2 ⟨by decide,by decide⟩
theorem P4a {s:RS} (h:∀ n∈s.reg,inK .i64 n) (i:Int):inK .i64 (s.r i):=by
 show inK .i64 (s.reg.getD i.toNat 0)
 rw[List.getD_eq_getElem?_getD]
 cases hq:s.reg[i.toNat]? with
 | some x=>exact h x (List.mem_of_getElem? hq)
 | none=>exact t0a.2 ⟨by decide,by decide⟩
theorem G8b {t:Txn} {m:List Pair} {x:Instr} {s:RS}:(ZY t m x s).2.1.w.length≤s.w.length+1:=by
 unfold ZY
 repeat' (refine y6a (P:=fun r:Int × RS × Option Int=>r.2.1.w.length≤s.w.length+1) (fun _=>?_) (fun _=>?_))
 all_goals simp
end Go.Proofs.Ytheamfnbfgiaeaa
namespace Go.Proofs.Ytheamfnbfgiaeaa
open Go.D
set_option maxRecDepth 100000
theorem Y5b {k:Key} {v:Int}:Xj Try.prog 90 [(0,Zk k),(1,.int .i64 v)]=some (g1a ⟨k,v,false⟩):=k0a f1c rfl
theorem s6c {k:Key}:Xj Try.prog 90 [(0,Zk k),(2,.bool true)]=some (g1a ⟨k,0,true⟩):=k0a f1c rfl
theorem a6b {t r:Int}:Xj Try.prog 34 [(0,.int .i32 t),(1,.int .i64 r)]=some (Zk ⟨t,r⟩):=k0a d1c rfl
theorem p6c:q6a Try.prog 106=some (8,1):=by kernel_rfl
theorem x6b {id o:Nat} {a:Int} (h0:0≤a) (h8:a<8):ZQ Try.prog 106 (.pointer (some ⟨id,o,none⟩)) (.int .i64 a)=some (.pointer (some ⟨id,o+a.toNat,none⟩)):=by
 rw[m4a p6c h0 (by omega),Nat.mul_one]
section
variable {t:Txn} {m:List Pair} {x:Instr} {s:RS}
theorem se0 (h:x.op=0):ZY t m x s=(0,s,none):=by unfold ZY;rw[h];rfl
theorem se1 (h:x.op=1):ZY t m x s=(-1,s.set x.a x.imm,none):=by unfold ZY;rw[h];rfl
theorem se2 (h:x.op=2):ZY t m x s=(-1,s.set x.a (t.args.getD x.imm.toNat 0),none):=by unfold ZY;rw[h];rfl
theorem se7 (h:x.op=7):ZY t m x s=(-1,s.set x.a (s.r x.b),none):=by unfold ZY;rw[h];rfl
theorem se3 (h:x.op=3):ZY t m x s=(-1,s.set x.a (W2a m s.w (t.reads.getD x.imm.toNat y3a)).1,none):=by unfold ZY;rw[h];rfl
theorem se4 (h:x.op=4):ZY t m x s=(-1,s.set x.a (if (W2a m s.w (t.reads.getD x.imm.toNat y3a)).2 then 1 else 0),none):=by unfold ZY;rw[h];rfl
theorem se5 {k:Key} (h:x.op=5) (hk:t.writes.getD x.imm.toNat y3a=k):ZY t m x s=(-1,s.put ⟨k,s.r x.a,false⟩,none):=by subst hk;unfold ZY;rw[h];rfl
theorem se6 {k:Key} (h:x.op=6) (hk:t.writes.getD x.imm.toNat y3a=k):ZY t m x s=(-1,s.put ⟨k,0,true⟩,none):=by subst hk;unfold ZY;rw[h];rfl
theorem Q5d (h:x.op=19):ZY t m x s=(-1,s.set x.a (A6a (s.r x.a) x.imm),none):=by unfold ZY;rw[h];rfl
theorem R5d (h:x.op=22):ZY t m x s=(-1,s,some x.imm):=by unfold ZY;rw[h];rfl
theorem j5d (h:x.op=23) (z:s.r x.a=0):ZY t m x s=(-1,s,none):=by
 have:ZY t m x s=(-1,s,if s.r x.a=0 then none else some x.imm):=by unfold ZY;rw[h];rfl
 rw[this,if_pos z]
theorem S5d (h:x.op=23) (z:¬ s.r x.a=0):ZY t m x s=(-1,s,some x.imm):=by
 have:ZY t m x s=(-1,s,if s.r x.a=0 then none else some x.imm):=by unfold ZY;rw[h];rfl
 rw[this,if_neg z]
theorem k5d (h:x.op=24) (z:8≤s.out.length):ZY t m x s=(5,s,none):=by
 have:ZY t m x s=(if 8≤s.out.length then (5,s,none) else (-1,{ s with out:=s.out++[s.r x.a] },none)):=by unfold ZY;rw[h];rfl
 rw[this,if_pos z]
theorem T5d (h:x.op=24) (z:¬ 8≤s.out.length):ZY t m x s=(-1,{ s with out:=s.out++[s.r x.a] },none):=by
 have:ZY t m x s=(if 8≤s.out.length then (5,s,none) else (-1,{ s with out:=s.out++[s.r x.a] },none)):=by unfold ZY;rw[h];rfl
 rw[this,if_neg z]
theorem U5d (h:x.op=25):ZY t m x s=(100+x.imm,s,none):=by unfold ZY;rw[h];rfl
theorem V5d {k:Key} (h:x.op=26) (hk:I2a x s=k) (z:k∈t.reads):ZY t m x s=(-1,s.set x.a (W2a m s.w k).1,none):=by
 subst hk
 have:ZY t m x s=(if I2a x s∈t.reads then (-1,s.set x.a (W2a m s.w (I2a x s)).1,none) else (4,s,none)):=by unfold ZY;rw[h];rfl
 rw[this,if_pos z]
theorem l5d {k:Key} (h:x.op=26) (hk:I2a x s=k) (z:¬ k∈t.reads):ZY t m x s=(4,s,none):=by
 subst hk
 have:ZY t m x s=(if I2a x s∈t.reads then (-1,s.set x.a (W2a m s.w (I2a x s)).1,none) else (4,s,none)):=by unfold ZY;rw[h];rfl
 rw[this,if_neg z]
theorem W5d {k:Key} (h:x.op=27) (hk:I2a x s=k) (z:k∈t.writes):ZY t m x s=(-1,s.put ⟨k,s.r x.a,false⟩,none):=by
 subst hk
 have:ZY t m x s=(if I2a x s∈t.writes then (-1,s.put ⟨I2a x s,s.r x.a,false⟩,none) else (4,s,none)):=by unfold ZY;rw[h];rfl
 rw[this,if_pos z]
theorem m5d {k:Key} (h:x.op=27) (hk:I2a x s=k) (z:¬ k∈t.writes):ZY t m x s=(4,s,none):=by
 subst hk
 have:ZY t m x s=(if I2a x s∈t.writes then (-1,s.put ⟨I2a x s,s.r x.a,false⟩,none) else (4,s,none)):=by unfold ZY;rw[h];rfl
 rw[this,if_neg z]
def F6b (n:Int):Prop:=n≠0∧n≠1∧n≠2∧n≠7∧n≠3∧n≠4∧n≠5∧n≠6∧n≠19∧n≠22∧n≠23∧n≠24∧n≠25∧n≠26∧n≠27
theorem seb (h:F6b x.op):ZY t m x s=if (X1a x.op (s.r x.a) (s.r x.b)).2=0 then (-1,s.set x.a (X1a x.op (s.r x.a) (s.r x.b)).1,none) else ((X1a x.op (s.r x.a) (s.r x.b)).2,s,none):=by
 obtain ⟨h0,h1,h2,h7,h3,h4,h5,h6,h19,h22,h23,h24,h25,h26,h27⟩:=h
 unfold ZY
 rw[if_neg h0,if_neg h1,if_neg h2,if_neg h7,if_neg h3,if_neg h4,if_neg h5,if_neg h6,if_neg h19,if_neg h22,if_neg h23,if_neg h24,if_neg h25,if_neg h26,if_neg h27]
end
def StepP (h0:DHeap) (b hm mm am:Nat) (t:Txn) (vc va vr vw:Value) (m:List Pair) (L:List Instr) (x:Instr) (s:RS) (pc:Int) (r:DEnd) (h1:DHeap):Prop:=
 r=.ret (.int .i64 (ZY t m x s).1)∧∃ pc',RunI h0 h1 b hm mm am t vc va vr vw (ZY t m x s).2.1 pc'∧((ZY t m x s).2.2=none→pc'=pc)∧∀ a,(ZY t m x s).2.2=some a→∃ (i:Nat) (y:Instr),L[i]? = some y∧y.pos=a∧pc'=(i:Nat)
section
variable {h0 h1:DHeap} {b hm mm am:Nat} {t:Txn} {vc va vr vw:Value} {m:List Pair} {L:List Instr} {x:Instr} {s s':RS} {pc e:Int}
theorem StepP.of (E:ZY t m x s=(e,s',none)) (I:RunI h0 h1 b hm mm am t vc va vr vw s' pc):StepP h0 b hm mm am t vc va vr vw m L x s pc (.ret (.int .i64 e)) h1:=by
 unfold StepP
 rw[E]
 exact ⟨rfl,pc,I,fun _=>rfl,fun a ha=>by cases ha⟩
theorem StepP.jump {a:Int} {i:Nat} {y:Instr} (E:ZY t m x s=(e,s',some a)) (hy:L[i]? = some y) (hp:y.pos=a) (I:RunI h0 h1 b hm mm am t vc va vr vw s' (i:Nat)):StepP h0 b hm mm am t vc va vr vw m L x s pc (.ret (.int .i64 e)) h1:=by
 unfold StepP
 rw[E]
 exact ⟨rfl,_,I,fun ha=>(by cases ha),fun a ha=>by cases ha;exact ⟨i,y,hy,hp,rfl⟩⟩
end
set_option maxHeartbeats 4000000 in
theorem X0d {h0 h:DHeap} {b hm mm am:Nat} {t:Txn} {vc va vr vw:Value} {m:List Pair} {L:List Instr} {s:RS} {pc:Int} {x:Instr} (C:X5a h0 b hm mm am t vc va vr vw m L) (I:RunI h0 h b hm mm am t vc va vr vw s pc) (hx:a7b t x) (hj:T0a x.op=true→∃ (i:Nat) (y:Instr),L[i]? = some y∧y.pos=x.imm) :
 Ct Try.prog 41 [.pointer (some ⟨b,0,none⟩),P0a x] h (StepP h0 b hm mm am t vc va vr vw m L x s pc):=by
 obtain ⟨x1,x2,x3,x4,x5⟩:=x
 obtain ⟨R,hR⟩:∃ R,StepP h0 b hm mm am t vc va vr vw m L ⟨x1,x2,x3,x4,x5⟩ s pc=R:=⟨_,rfl⟩
 rw[hR]
 refine y3d (by simp) ?_
 obtain ⟨H,hH⟩:∃ H,H=h.push (.row [.int .i64 x1,.int .i64 x2,.int .i64 x3,.int .i64 x4,.int .i64 x5] 0 false):=⟨_,rfl⟩
 have hE:Ext h H:=by rw[hH];exact Ext.push1 _ _
 have gx:H.get h.next=some (.row [.int .i64 x1,.int .i64 x2,.int .i64 x3,.int .i64 x4,.int .i64 x5] 0 false):=by rw[hH];exact Zz _ _
 have hHn:H.next=h.next+1:=by rw[hH];rfl
 have IH:RunI h0 H b hm mm am t vc va vr vw s pc:=I.ext C hE
 have hbn:b<h.next:=Nat.lt_of_lt_of_le C.lb I.kp.next
 have hmn:mm<h.next:=Nat.lt_of_lt_of_le C.lm I.kp.next
 obtain ⟨vo,w,gb,ow,hw⟩:=IH.row
 have l8:=I.len
 obtain ⟨t14,t15,t16,t17,t18⟩:=n1a (t:=t) (vc:=vc) (va:=va) (vr:=vr) (vw:=vw) (vo:=vo) (hm:=hm) (mm:=mm) (am:=am) (pc:=pc) l8
 have a1:∀ K,Ext H K→ZZ K h.next 1=some (.int .i64 x2):=fun K e=>Zy ((e.get _ (by omega)).trans gx)
 have a2:∀ K,Ext H K→ZZ K h.next 2=some (.int .i64 x3):=fun K e=>Zy ((e.get _ (by omega)).trans gx)
 have a3:∀ K,Ext H K→ZZ K h.next 3=some (.int .i64 x4):=fun K e=>Zy ((e.get _ (by omega)).trans gx)
 have a4:∀ K,Ext H K→ZZ K h.next 4=some (.int .i64 x5):=fun K e=>Zy ((e.get _ (by omega)).trans gx)
 have gbK:∀ K,Ext H K→K.get b=some (.row (Wv t vc va vr vw s.reg hm mm am vo pc) 0 false):=fun K e=>(e.get _ (by omega)).trans gb
 have ha8:x3.toNat<8:=by have:=hx.a;simp only at this;omega
 have hb8:x4.toNat<8:=by have:=hx.b;simp only at this;omega
 have ra:∀ K,Ext H K→ZZ K b (6+x3.toNat)=some (.int .i64 (s.r x3)):=fun K e=>(Zy (gbK K e)).trans (G4b l8 ha8)
 have rb:∀ K,Ext H K→ZZ K b (6+x4.toNat)=some (.int .i64 (s.r x4)):=fun K e=>(Zy (gbK K e)).trans (G4b l8 hb8)
 have b3:∀ K,Ext H K→ZZ K b 3=some va:=fun K e=>Zy (gbK K e)
 have b4:∀ K,Ext H K→ZZ K b 4=some vr:=fun K e=>Zy (gbK K e)
 have b5:∀ K,Ext H K→ZZ K b 5=some vw:=fun K e=>Zy (gbK K e)
 have b15:∀ K,Ext H K→ZZ K b 15=some (.map (some mm)):=fun K e=>(Zy (gbK K e)).trans t15
 have b16:∀ K,Ext H K→ZZ K b 16=some vo:=fun K e=>(Zy (gbK K e)).trans t16
 have iaa:=x6b (id:=b) (o:=6) hx.a.1 hx.a.2
 have iab:=x6b (id:=b) (o:=6) hx.b.1 hx.b.2
 simp only at iaa iab
 have wst:∀ K v,Ext H K→storeAt K b (6+x3.toNat) [.int .i64 v]=some (K.set b (.row (Wv t vc va vr vw (s.reg.set x3.toNat v) hm mm am vo pc) 0 false)):=fun K v e=>by
  rw[b0a (gbK K e) (by rw[H5a l8];show 6+x3.toNat+1≤19;omega) rfl,H5b l8 ha8]
 have hTx:TxV (InH H) H t vc va vr vw:=IH.tx C
 have rx:Ext H H:=.refl H
 have iok:inK .i64 x5:=by have:=hx.imm;simp only at this;exact t0a.2 ⟨by omega,by omega⟩
 have zok:inK .i64 0:=t0a.2 ⟨by decide,by decide⟩
 have hcl:(P0a ⟨x1,x2,x3,x4,x5⟩).cells.toList=[.int .i64 x1,.int .i64 x2,.int .i64 x3,.int .i64 x4,.int .i64 x5]:=rfl
 have fin:∀ {K:DHeap} {s':RS} {e:Int},ZY t m ⟨x1,x2,x3,x4,x5⟩ s=(e,s',none)→RunI h0 K b hm mm am t vc va vr vw s' pc→∃ u,some (Value.int .i64 e)=some u∧R (.ret u) K:=fun E I'=>⟨_,rfl,by rw[← hR];exact .of E I'⟩
 have kok:∀ {l:List Key} {v:Value},Arg fKey.rep H v l→∀ (n:Nat),n<l.length→fKey.ok (l.getD n y3a):=fun hs n hn=>by
  rw[List.getD_eq_getElem?_getD,List.getElem?_eq_getElem hn]
  exact hs.ok _ (List.getElem_mem hn)
 have kat:∀ {l:List Key} {v:Value},Arg fKey.rep H v l→∀ (n:Int),0≤n→n<l.length→∃ id o,ZQ Try.prog 24 v (.int .i64 n)=some (.pointer (some ⟨id,o,none⟩))∧∀ K,Ext H K→Zj K id o 2=some (Zk (l.getD n.toNat y3a)):=fun {l v} hs n h0 hn=>by
  have hn':n.toNat<l.length:=by omega
  obtain ⟨id,o,e1,hid,hat⟩:=hs.idx (P:=Try.prog) (t:=24) Z3a (k:=.i64) (i:=n.toNat) (x:=l[n.toNat]) (by simp)
  have hnn:((n.toNat:Nat):Int)=n:=by omega
  rw[hnn]at e1
  refine ⟨id,o,e1,fun K e=>?_⟩
  have h2:=hat.flat.2.1
  rw[List.getD_eq_getElem?_getD,List.getElem?_eq_getElem hn']
  unfold Zj at h2 ⊢
  rw[e.get _ hid]
  exact h2
 obtain ⟨_,_,himm,himm0,hrd,hwr,har,hop⟩:=hx
 simp only at himm himm0 hrd hwr har hop hj
 simp -implicitDefEqProofs (disch:=first|omega|simp only[go_sem]) only[go_sem,true_and,c41,hcl,← hH]
 refine a9c rfl ?_
 simp -implicitDefEqProofs (disch:=first|omega|simp only[go_sem]) only[go_sem,true_and,K4c,J5c,a2 H rx,a3 H rx,iaa,iab,rb H rx,a1 H rx]
 by_cases c0:x2=0
 ·simp -implicitDefEqProofs (disch:=first|omega|simp only[go_sem]) only[go_sem,true_and,c0]
  exact fin (se0 (x:=⟨x1,x2,x3,x4,x5⟩) c0) IH
 by_cases c1:x2=1
 ·simp -implicitDefEqProofs (disch:=first|omega|simp only[go_sem]) only[go_sem,true_and,c1,a4 H rx,wst H _ rx]
  exact fin (se1 (x:=⟨x1,x2,x3,x4,x5⟩) c1) (IH.reg C gb iok)
 by_cases c2:x2=2
 ·have i0:0≤x5:=himm0 (by omega)
  have hl:x5.toNat<t.args.length:=by have:=har c2;omega
  obtain ⟨id1,o1,e1,_,hat1⟩:=hTx.a.idx (P:=Try.prog) (t:=23) N7b (k:=.i64) (i:=x5.toNat) (x:=t.args[x5.toNat]) (by simp)
  rw[show ((x5.toNat:Nat):Int)=x5 by omega]at e1
  have l1:ZZ H id1 o1=some (.int .i64 (t.args.getD x5.toNat 0)):=by
   rw[List.getD_eq_getElem?_getD,List.getElem?_eq_getElem hl]
   exact hat1.int
  have hok:inK .i64 (t.args.getD x5.toNat 0):=by
   rw[List.getD_eq_getElem?_getD,List.getElem?_eq_getElem hl]
   exact hTx.a.ok _ (List.getElem_mem hl)
  simp -implicitDefEqProofs (disch:=first|omega|simp only[go_sem]) only[go_sem,true_and,c2]
  refine b9c rfl ?_
  simp -implicitDefEqProofs (disch:=first|omega|simp only[go_sem]) only[go_sem,true_and,L4c,K5c,a4 H rx,b3 H rx,e1,l1,wst H _ rx]
  exact fin (se2 (x:=⟨x1,x2,x3,x4,x5⟩) c2) (IH.reg C gb hok)
 by_cases c7:x2=7
 ·simp -implicitDefEqProofs (disch:=first|omega|simp only[go_sem]) only[go_sem,true_and,c7,wst H _ rx]
  exact fin (se7 (x:=⟨x1,x2,x3,x4,x5⟩) c7) (IH.reg C gb (P4a I.ok _))
 by_cases c3:x2=3
 ·obtain ⟨id1,o1,e1,l1⟩:=kat hTx.r x5 (himm0 (by omega)) (hrd (.inl c3))
  simp -implicitDefEqProofs (disch:=first|omega|simp only[go_sem]) only[go_sem,true_and,c3]
  refine c9c rfl ?_
  simp -implicitDefEqProofs (disch:=first|omega|simp only[go_sem]) only[go_sem,true_and,M4c,L5c,a4 H rx,b4 H rx,e1,l1 H rx]
  refine n7a (n1b C IH) ?_
  simp -implicitDefEqProofs (disch:=first|omega|simp only[go_sem]) only[go_sem,true_and,wst H _ rx]
  exact fin (se3 (x:=⟨x1,x2,x3,x4,x5⟩) c3) (IH.reg C gb (R6b C.okm I.wok))
 by_cases c4:x2=4
 ·obtain ⟨id1,o1,e1,l1⟩:=kat hTx.r x5 (himm0 (by omega)) (hrd (.inr c4))
  simp -implicitDefEqProofs (disch:=first|omega|simp only[go_sem]) only[go_sem,true_and,c4]
  refine d9c rfl ?_
  simp -implicitDefEqProofs (disch:=first|omega|simp only[go_sem]) only[go_sem,true_and,N4c,M5c,a4 H rx,b4 H rx,e1,l1 H rx]
  refine n7a (n1b C IH) ?_
  simp -implicitDefEqProofs (disch:=first|omega|simp only[go_sem]) only[go_sem,true_and]
  refine YQ l1b ?_
  simp -implicitDefEqProofs (disch:=first|omega|simp only[go_sem]) only[go_sem,true_and,wst H _ rx]
  refine fin (se4 (x:=⟨x1,x2,x3,x4,x5⟩) c4) (IH.reg C gb ?_)
  split
  ·exact t0a.2 ⟨by decide,by decide⟩
  ·exact t0a.2 ⟨by decide,by decide⟩
 by_cases c5:x2=5
 ·have hlt:=hwr (.inl c5)
  have i0:0≤x5:=himm0 (by omega)
  have hl:x5.toNat<t.writes.length:=by omega
  obtain ⟨id1,o1,e1,l1⟩:=kat hTx.w x5 i0 hlt
  obtain ⟨k,hk⟩:∃ k,t.writes.getD x5.toNat y3a=k:=⟨_,rfl⟩
  have hkok:fKey.ok k:=hk▸kok hTx.w x5.toNat hl
  rw[hk]at l1
  obtain ⟨H2,hH2⟩:∃ K,K=H.push (.row [.int .i32 0,.int .i64 0] 0 false):=⟨_,rfl⟩
  have e2:Ext H H2:=by rw[hH2];exact Ext.push1 _ _
  have g2:H2.get H.next=some (.row [.int .i32 0,.int .i64 0] 0 false):=by rw[hH2];exact Zz _ _
  obtain ⟨H3,hH3⟩:∃ K,K=H2.set H.next (.row [.int .i32 k.t,.int .i64 k.r] 0 false):=⟨_,rfl⟩
  have e3:Ext H H3:=by rw[hH3];exact e2.set (Nat.le_refl _)
  have hst:Yz Try.prog 34 (.pointer (some ⟨H.next,0,none⟩)) (Zk k) H2=some H3:=by
   rw[hH3]
   exact (s3a rfl).trans (b0a g2 (Nat.le_of_ble_eq_true rfl) rfl)
  have g3:H3.get H.next=some (.row [.int .i32 k.t,.int .i64 k.r] 0 false):=by rw[hH3];exact Zq _ _
  have l3:Zj H3 H.next 0 2=some (Zk k):=by rw[Zu g3 (Nat.le_of_ble_eq_true rfl)];rfl
  have I3:=IH.ext C e3
  obtain ⟨o,hu,hm2⟩:=I3.mine.update y8a k (g1a ⟨k,s.r x3,false⟩)
  simp -implicitDefEqProofs (disch:=first|omega|simp only[go_sem]) only[go_sem,true_and,c5]
  refine f9c rfl ?_
  simp -implicitDefEqProofs (disch:=first|omega|simp only[go_sem]) only[go_sem,true_and,O4c,N5c]
  simp -implicitDefEqProofs (disch:=first|omega|simp only[go_sem]) only[go_sem,true_and,← hH2,a4 H2 e2,b5 H2 e2,e1,l1 H2 e2,hst]
  refine g9c rfl ?_
  simp -implicitDefEqProofs (disch:=first|omega|simp only[go_sem]) only[go_sem,true_and,P4c,O5c,b15 H3 e3,l3,ra H3 e3,Y5b,hu]
  exact fin (se5 (x:=⟨x1,x2,x3,x4,x5⟩) c5 hk) (I3.put C (c:=⟨k,s.r x3,false⟩) hm2 ⟨hkok,P4a I.ok _,trivial⟩)
 by_cases c6:x2=6
 ·have hlt:=hwr (.inr c6)
  have i0:0≤x5:=himm0 (by omega)
  have hl:x5.toNat<t.writes.length:=by omega
  obtain ⟨id1,o1,e1,l1⟩:=kat hTx.w x5 i0 hlt
  obtain ⟨k,hk⟩:∃ k,t.writes.getD x5.toNat y3a=k:=⟨_,rfl⟩
  have hkok:fKey.ok k:=hk▸kok hTx.w x5.toNat hl
  rw[hk]at l1
  obtain ⟨H2,hH2⟩:∃ K,K=H.push (.row [.int .i32 0,.int .i64 0] 0 false):=⟨_,rfl⟩
  have e2:Ext H H2:=by rw[hH2];exact Ext.push1 _ _
  have g2:H2.get H.next=some (.row [.int .i32 0,.int .i64 0] 0 false):=by rw[hH2];exact Zz _ _
  obtain ⟨H3,hH3⟩:∃ K,K=H2.set H.next (.row [.int .i32 k.t,.int .i64 k.r] 0 false):=⟨_,rfl⟩
  have e3:Ext H H3:=by rw[hH3];exact e2.set (Nat.le_refl _)
  have hst:Yz Try.prog 34 (.pointer (some ⟨H.next,0,none⟩)) (Zk k) H2=some H3:=by
   rw[hH3]
   exact (s3a rfl).trans (b0a g2 (Nat.le_of_ble_eq_true rfl) rfl)
  have g3:H3.get H.next=some (.row [.int .i32 k.t,.int .i64 k.r] 0 false):=by rw[hH3];exact Zq _ _
  have l3:Zj H3 H.next 0 2=some (Zk k):=by rw[Zu g3 (Nat.le_of_ble_eq_true rfl)];rfl
  have I3:=IH.ext C e3
  obtain ⟨o,hu,hm2⟩:=I3.mine.update y8a k (g1a ⟨k,0,true⟩)
  simp -implicitDefEqProofs (disch:=first|omega|simp only[go_sem]) only[go_sem,true_and,c6]
  refine h9c rfl ?_
  simp -implicitDefEqProofs (disch:=first|omega|simp only[go_sem]) only[go_sem,true_and,Q4c,P5c]
  simp -implicitDefEqProofs (disch:=first|omega|simp only[go_sem]) only[go_sem,true_and,← hH2,a4 H2 e2,b5 H2 e2,e1,l1 H2 e2,hst]
  refine i9c rfl ?_
  simp -implicitDefEqProofs (disch:=first|omega|simp only[go_sem]) only[go_sem,true_and,R4c,Q5c,b15 H3 e3,l3,s6c,hu]
  exact fin (se6 (x:=⟨x1,x2,x3,x4,x5⟩) c6 hk) (I3.put C (c:=⟨k,0,true⟩) hm2 ⟨hkok,zok,trivial⟩)
 by_cases c19:x2=19
 ·simp -implicitDefEqProofs (disch:=first|omega|simp only[go_sem]) only[go_sem,true_and,c19]
  refine j9c rfl ?_
  simp -implicitDefEqProofs (disch:=first|omega|simp only[go_sem]) only[go_sem,true_and,S4c,R5c,ra H rx,a4 H rx]
  refine n7a R3c ?_
  simp -implicitDefEqProofs (disch:=first|omega|simp only[go_sem]) only[go_sem,true_and,wst H _ rx]
  exact fin (Q5d (x:=⟨x1,x2,x3,x4,x5⟩) c19) (IH.reg C gb (U0c (P4a I.ok _)))
 by_cases c22:x2=22
 ·obtain ⟨i,y,hy,hp⟩:=hj (by simp[T0a,c22])
  have gc:=s0c C IH hy gb
  rw[hp]at gc
  simp -implicitDefEqProofs (disch:=first|omega|simp only[go_sem]) only[go_sem,true_and,c22,a4 H rx]
  refine Yv gc ?_
  rintro r K ⟨rfl,rfl⟩
  simp -implicitDefEqProofs (disch:=first|omega|simp only[go_sem]) only[go_sem,true_and,Xx]
  exact ⟨_,rfl,by rw[← hR];exact .jump (R5d (x:=⟨x1,x2,x3,x4,x5⟩) c22) hy hp (IH.pc' C gb _)⟩
 by_cases c23:x2=23
 ·by_cases z:s.r x3=0
  ·simp -implicitDefEqProofs (disch:=first|omega|simp only[go_sem]) only[go_sem,true_and,c23,ra H rx,z]
   exact fin (j5d (x:=⟨x1,x2,x3,x4,x5⟩) c23 z) IH
  ·obtain ⟨i,y,hy,hp⟩:=hj (by simp[T0a,c23])
   have gc:=s0c C IH hy gb
   rw[hp]at gc
   simp -implicitDefEqProofs (disch:=first|omega|simp only[go_sem]) only[go_sem,true_and,c23,ra H rx,z,a4 H rx]
   refine Yv gc ?_
   rintro r K ⟨rfl,rfl⟩
   simp -implicitDefEqProofs (disch:=first|omega|simp only[go_sem]) only[go_sem,true_and,Xx]
   exact ⟨_,rfl,by rw[← hR];exact .jump (S5d (x:=⟨x1,x2,x3,x4,x5⟩) c23 z) hy hp (IH.pc' C gb _)⟩
 by_cases c24:x2=24
 ·have lo:∀ K,dLen Try.prog #[23] vo K=some (.int .i64 (s.out.length:Nat)):=ow.sl.lens (P:=Try.prog) (ts:=#[23]) (t:=23) rfl x6a
  by_cases z:8≤s.out.length
  ·have z':=eq_true (show (8:Int)≤(s.out.length:Nat) by omega)
   simp -implicitDefEqProofs (disch:=first|omega|simp only[go_sem]) only[go_sem,true_and,c24,b16 H rx,lo,z']
   exact fin (k5d (x:=⟨x1,x2,x3,x4,x5⟩) c24 z) IH
  ·have z':¬ (8:Int)≤(s.out.length:Nat):=by omega
   obtain ⟨vo',h2,e6,n2,ng2,gg,o3⟩:=ow.snoc (cs:=[.int .i64 (s.r x3)]) (x:=s.r x3) (z:=1) (fun i hi=>hi.elim) ⟨rfl,P4a I.ok _⟩ rfl (by decide) c3b (by omega) (by decide)
   have hv':vo'.cells=#[vo']:=o3.sl.cells1
   have hone:[vo'].all Value.oneCell'=true:=by obtain ⟨_,_,rfl⟩:=o3.sl.isSlice;rfl
   have nb:w≠some b:=fun e=>by have:=hw b e;have:=C.lb;omega
   have nm:w≠some mm:=fun e=>by have:=hw mm e;have:=C.lm;omega
   have gb2:h2.get b=some (.row (Wv t vc va vr vw s.reg hm mm am vo pc) 0 false):=(gg _ (by omega) nb).trans gb
   have w1:Yz Try.prog 23 (.pointer (some ⟨b,16,none⟩)) vo' h2=some (h2.set b (.row (Wv t vc va vr vw s.reg hm mm am vo' pc) 0 false)):=by
    rw[Y5c hv',b0a gb2 (by rw[H5a l8];exact Nat.le_of_ble_eq_true rfl) hone,G5b l8]
   have ep:Ext H (H.push (.row [.int .i64 (s.r x3)] 1 false)):=Ext.push1 _ _
   simp -implicitDefEqProofs (disch:=first|omega|simp only[go_sem]) only[go_sem,true_and,c24,b16 H rx,lo,z']
   refine k9c rfl ?_
   simp -implicitDefEqProofs (disch:=first|omega|simp only[go_sem]) only[go_sem,true_and,T4c,S5c,b16 H rx,ra H rx,b16 _ ep,e6,w1]
   have kp2:KpD (fun i=>i=b∨i=mm) h0 h2:=⟨by have:=IH.kp.next;omega,ng2.trans IH.kp.ng,fun i hi hn=>(gg i (Nat.lt_of_lt_of_le hi IH.kp.next) (fun e=>by have:=hw i e;omega)).trans (IH.kp.get i hi hn)⟩
   have mm2:MapAt Zk h2 mm (y1a Change.k g1a s.w):=IH.mine.keep (gg _ (by omega) nm)
   have hkn:=IH.kp.next
   refine fin (s':={ s with out:=s.out++[s.r x3] }) (T5d (x:=⟨x1,x2,x3,x4,x5⟩) c24 z) ⟨kp2.set (.inl (.inl rfl)),⟨vo',some (H.next+1),Zq _ _,o3.mono (Nat.le_refl _) (fun i hi=>Zx _ _ (by cases hi;omega)) (fun i hi=>hi.elim),fun i hi=>by cases hi;omega⟩,mm2.keep (Zx _ _ (fun e=>C.bm e.symm)),l8,I.ok,by simp;omega,I.wok⟩
 by_cases c25:x2=25
 ·have i0:0≤x5:=himm0 (by omega)
  have hwp:IntKind.i64.wrap (100+x5)=100+x5:=r0a (by omega) (by omega)
  simp -implicitDefEqProofs (disch:=first|omega|simp only[go_sem]) only[go_sem,true_and,c25,a4 H rx,hwp]
  exact fin (U5d (x:=⟨x1,x2,x3,x4,x5⟩) c25) IH
 by_cases c26:x2=26
 ·obtain ⟨k,hk⟩:∃ k,(⟨IntKind.i32.wrap x5,s.r x4⟩:Key)=k:=⟨_,rfl⟩
  have hkok:fKey.ok k:=hk▸⟨o1b _ _,P4a I.ok _⟩
  have hfar:I2a ⟨x1,x2,x3,x4,x5⟩ s=k:=hk
  obtain ⟨H3,hH3⟩:∃ K,K=H.push (.row [.int .i32 k.t,.int .i64 k.r] 0 false):=⟨_,rfl⟩
  have e3:Ext H H3:=by rw[hH3];exact Ext.push1 _ _
  have hst:Yz Try.prog 34 (.pointer (some ⟨H.next,0,none⟩)) (Zk k) (H.push (.row [.int .i32 0,.int .i64 0] 0 false))=some H3:=by
   rw[hH3]
   exact (s3a rfl).trans (a0a rfl rfl)
  have g3:H3.get H.next=some (.row [.int .i32 k.t,.int .i64 k.r] 0 false):=by rw[hH3];exact Zz _ _
  have l3:Zj H3 H.next 0 2=some (Zk k):=by rw[Zu g3 (Nat.le_of_ble_eq_true rfl)];rfl
  have I3:=IH.ext C e3
  have hbk:Xj Try.prog 34 [(0,.int .i32 (IntKind.i32.wrap x5)),(1,.int .i64 (s.r x4))]=some (Zk k):=hk▸a6b
  simp -implicitDefEqProofs (disch:=first|omega|simp only[go_sem]) only[go_sem,true_and,c26,a4 H rx,hbk,hst]
  refine o4c rfl ?_
  simp -implicitDefEqProofs (disch:=first|omega|simp only[go_sem]) only[go_sem,true_and,o0c,i1c,b4 H3 e3,l3]
  refine n7a (a8b (hTx.ext e3).r (by have:=C.len.r;omega)) ?_
  by_cases hm':k∈t.reads
  ·have hmd:=decide_eq_true hm'
   simp -implicitDefEqProofs (disch:=first|omega|simp only[go_sem]) only[go_sem,true_and,hmd,l3]
   refine YQ (n1b C I3) ?_
   simp -implicitDefEqProofs (disch:=first|omega|simp only[go_sem]) only[go_sem,true_and,wst H3 _ e3]
   exact fin (V5d (x:=⟨x1,x2,x3,x4,x5⟩) c26 hfar hm') (I3.reg C (gbK H3 e3) (R6b C.okm I.wok))
  ·have hmd:=decide_eq_false hm'
   simp -implicitDefEqProofs (disch:=first|omega|simp only[go_sem]) only[go_sem,true_and,hmd]
   exact fin (l5d (x:=⟨x1,x2,x3,x4,x5⟩) c26 hfar hm') I3
 by_cases c27:x2=27
 ·obtain ⟨k,hk⟩:∃ k,(⟨IntKind.i32.wrap x5,s.r x4⟩:Key)=k:=⟨_,rfl⟩
  have hkok:fKey.ok k:=hk▸⟨o1b _ _,P4a I.ok _⟩
  have hfar:I2a ⟨x1,x2,x3,x4,x5⟩ s=k:=hk
  obtain ⟨H3,hH3⟩:∃ K,K=H.push (.row [.int .i32 k.t,.int .i64 k.r] 0 false):=⟨_,rfl⟩
  have e3:Ext H H3:=by rw[hH3];exact Ext.push1 _ _
  have hst:Yz Try.prog 34 (.pointer (some ⟨H.next,0,none⟩)) (Zk k) (H.push (.row [.int .i32 0,.int .i64 0] 0 false))=some H3:=by
   rw[hH3]
   exact (s3a rfl).trans (a0a rfl rfl)
  have g3:H3.get H.next=some (.row [.int .i32 k.t,.int .i64 k.r] 0 false):=by rw[hH3];exact Zz _ _
  have l3:Zj H3 H.next 0 2=some (Zk k):=by rw[Zu g3 (Nat.le_of_ble_eq_true rfl)];rfl
  have I3:=IH.ext C e3
  have hbk:Xj Try.prog 34 [(0,.int .i32 (IntKind.i32.wrap x5)),(1,.int .i64 (s.r x4))]=some (Zk k):=hk▸a6b
  simp -implicitDefEqProofs (disch:=first|omega|simp only[go_sem]) only[go_sem,true_and,c27,a4 H rx,hbk,hst]
  refine p4c rfl ?_
  simp -implicitDefEqProofs (disch:=first|omega|simp only[go_sem]) only[go_sem,true_and,p0c,j1c,b5 H3 e3,l3]
  refine n7a (a8b (hTx.ext e3).w (by have:=C.len.w;omega)) ?_
  by_cases hm':k∈t.writes
  ·have hmd:=decide_eq_true hm'
   obtain ⟨o,hu,hm2⟩:=I3.mine.update y8a k (g1a ⟨k,s.r x3,false⟩)
   simp -implicitDefEqProofs (disch:=first|omega|simp only[go_sem]) only[go_sem,true_and,hmd]
   refine q4c rfl ?_
   simp -implicitDefEqProofs (disch:=first|omega|simp only[go_sem]) only[go_sem,true_and,q0c,k1c,b15 H3 e3,l3,ra H3 e3,Y5b,hu]
   exact fin (W5d (x:=⟨x1,x2,x3,x4,x5⟩) c27 hfar hm') (I3.put C (c:=⟨k,s.r x3,false⟩) hm2 ⟨hkok,P4a I.ok _,trivial⟩)
  ·have hmd:=decide_eq_false hm'
   simp -implicitDefEqProofs (disch:=first|omega|simp only[go_sem]) only[go_sem,true_and,hmd]
   exact fin (m5d (x:=⟨x1,x2,x3,x4,x5⟩) c27 hfar hm') I3
 obtain ⟨k1,k2⟩:=w6c (o:=x2) (b:=s.r x4) (P4a I.ok x3)
 have hpl:F6b x2:=⟨c0,c1,c2,c7,c3,c4,c5,c6,c19,c22,c23,c24,c25,c26,c27⟩
 simp -implicitDefEqProofs (disch:=first|omega|simp only[go_sem]) only[go_sem,true_and,c0,c1,c2,c7,c3,c4,c5,c6,c19,c22,c23,c24,c25,c26,c27]
 refine r4c rfl ?_
 simp -implicitDefEqProofs (disch:=first|omega|simp only[go_sem]) only[go_sem,true_and,r0c,l1c,a1 H rx,ra H rx]
 refine n7a r2c ?_
 by_cases z:(X1a x2 (s.r x3) (s.r x4)).2=0
 ·simp -implicitDefEqProofs (disch:=first|omega|simp only[go_sem]) only[go_sem,true_and,v4a,z,wst H _ rx]
  exact fin ((seb (x:=⟨x1,x2,x3,x4,x5⟩) hpl).trans (if_pos z)) (IH.reg C gb k1)
 ·simp -implicitDefEqProofs (disch:=first|omega|simp only[go_sem]) only[go_sem,true_and,v4a,z]
  exact fin ((seb (x:=⟨x1,x2,x3,x4,x5⟩) hpl).trans (if_neg z)) IH
end Go.Proofs.Ytheamfnbfgiaeaa
namespace Go.Proofs.Ytheamfnbfgiaeaa
open Go.D
set_option maxRecDepth 100000
def atM (L:List Instr):Nat→List (Int × Value)
 | 0=>[]
 | i+1=>V0a (atM L i) ((L[i]?.map (·.pos)).getD 0) (.int .i64 (i:Nat))
theorem t1b (L:List Instr):∀ n,((atM L n).map (·.1)).Nodup
 | 0=>.nil
 | n+1=>P1a (t1b L n)
theorem X5b {L:List Instr} (hL:L.Pairwise fun x y=>x.pos<y.pos):∀ {n i:Nat} {x:Instr},n≤L.length→i<n→L[i]? = some x→WW (atM L n) x.pos=some (.int .i64 (i:Nat))
 | 0,i,x,_,hi,_=>by omega
 | n+1,i,x,hn,hi,hx=>by
   have hl:n<L.length:=by omega
   simp only[atM]
   rw[List.getElem?_eq_getElem hl,Option.map_some,Option.getD_some,H3a (t1b L n)]
   by_cases hin:i=n
   ·subst hin
    rw[List.getElem?_eq_getElem hl]at hx
    cases hx
    rw[if_pos rfl]
   ·have hil:i<L.length:=by omega
    have hxi:L[i]=x:=by rw[List.getElem?_eq_getElem hil]at hx;exact Option.some.inj hx
    have:=List.pairwise_iff_getElem.1 hL i n hil hl (by omega)
    rw[hxi]at this
    rw[if_neg (by omega)]
    exact X5b hL (by omega) (by omega) hx
theorem o2c {L:List Instr} {i:Nat} (hi:i<L.length):atM L (i+1)=V0a (atM L i) L[i].pos (.int .i64 (i:Nat)):=by
 simp only[atM]
 rw[List.getElem?_eq_getElem hi]
 rfl
theorem u2c {w l:List Change} (hn:(l.map Change.k).Nodup) (hl:∀ c∈l,Yu Change.k w c.k=some c) (hall:∀ k∈w.map Change.k,k∈l.map Change.k):byK Change.k l=byK Change.k w:=by
 refine H0b (S3a _) (S3a _) fun c=>?_
 rw[G3a,G3a]
 constructor
 ·intro h
  exact hl c (f0a h).1
 ·intro h
  obtain ⟨h1,h2⟩:=f0a h
  obtain ⟨d,hd⟩:=R5a (hall c.k (List.mem_map.2 ⟨c,h1,rfl⟩))
  obtain ⟨g1,g2⟩:=f0a hd
  have:=hl d g1
  rw[g2,h]at this
  cases this
  exact hd
theorem X7c (f:Int):max 0 (min f 4096)=(c4a f:Nat):=by unfold c4a;omega
end Go.Proofs.Ytheamfnbfgiaeaa
