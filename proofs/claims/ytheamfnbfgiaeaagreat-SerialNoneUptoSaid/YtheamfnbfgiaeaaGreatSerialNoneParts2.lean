/-
A part of the proof of a law: contracts of functions over plain heaps, and what they lean on. Conditions: none.
-/
import Derived.Sort.Statements
import Derived.Shelf.SlSortCmp.WholeK
import Derived.Test.YtheamfnbfgiaeaaGreatBase1
import Derived.Test.YtheamfnbfgiaeaaGreatBase2
import Derived.Test.YtheamfnbfgiaeaaGreatSerialNoneParts1
set_option linter.unusedSimpArgs false
set_option linter.unusedVariables false
set_option linter.defProp false
namespace Go.Proofs.YtheamfnbfgiaeaaGreat
open Go.D
set_option maxRecDepth 100000
def l2a (xs:List Instr):Bool:=xs.all fun x=>!F1a x.op||decide (x.imm∈xs.map (·.pos))
def N2a (l:List Int):Int:=if 512<l.length then 3 else if (t0a l 0).2≠0 then (t0a l 0).2 else if l2a (t0a l 0).1 then 0 else 131
def g1a (l:List Int):List Instr:=if N2a l=0 then (t0a l 0).1 else []
theorem G7a {S:Nat→Prop} {h:DHeap} {v:Value} {l:List Instr} {i:Nat} (hb:Sl fInstr.rep S h v l) (hi:i<l.length) :
 ∃ id o,ZQ Tryz.prog 143 v (.int .i64 (i:Nat))=some (.pointer (some ⟨id,o,none⟩))∧Zk h id o 5=some (R0a l[i])∧Zq h id (o+0)=some (.int .i64 l[i].pos)∧Zq h id (o+1)=some (.int .i64 l[i].op)∧Zq h id (o+4)=some (.int .i64 l[i].imm):=by
 obtain ⟨id,o,g,hs,hat⟩:=hb.idx (P:=Tryz.prog) (t:=143) w3b (k:=.i64) (List.getElem?_eq_getElem hi)
 obtain ⟨a,b,_⟩:=hat.flat
 exact ⟨id,o,g,b,a 0 (by decide),a 1 (by decide),a 4 (by decide)⟩
def m8a (l:List Instr) (i:Nat):Prop:=∀ j x,j<i→l[j]? = some x→F1a x.op=true→x.imm∈l.map (·.pos)
theorem m5b {l:List Instr} (h:m8a l l.length):l2a l=true:=by
 unfold l2a
 rw[List.all_eq_true]
 intro x hx
 obtain ⟨j,hj⟩:=List.mem_iff_getElem?.1 hx
 cases hb:F1a x.op with
 | false=>rfl
 | true=>simpa using h j x (List.getElem?_eq_some_iff.1 hj).1 hj hb
theorem n5b {l:List Instr} {x:Instr} (hx:x∈l) (hb:F1a x.op=true) (hm:x.imm∉l.map (·.pos)):l2a l=false:=by
 unfold l2a
 rw[List.all_eq_false]
 exact ⟨x,hx,by simp[hb];simpa using hm⟩
theorem O3b {l:List Instr} {i:Nat} (hi:i<l.length) (h:m8a l i) (hx:F1a l[i].op=true→l[i].imm∈l.map (·.pos)):m8a l (i+1):=by
 intro j x hj hjx hb
 by_cases hji:j=i
 ·subst hji
  rw[List.getElem?_eq_getElem hi]at hjx
  cases hjx
  exact hx hb
 ·exact h j x (by omega) hjx hb
theorem E7c {h:DHeap} {x:Instr}:DC Tryz.prog 100 [R0a x] h (.ret (.bool (F1a x.op))) h:=by
 obtain ⟨x1,x2,x3,x4,x5⟩:=x
 refine Ct.pure (M0d (by simp) ?_) (Y0a _)
 obtain ⟨H,hH⟩:∃ H,H=h.push (.row [.int .i64 x1,.int .i64 x2,.int .i64 x3,.int .i64 x4,.int .i64 x5] 0 false):=⟨_,rfl⟩
 have hE:Ext h H:=by rw[hH];exact Ext.push1 _ _
 have g:H.get h.next=some (.row [.int .i64 x1,.int .i64 x2,.int .i64 x3,.int .i64 x4,.int .i64 x5] 0 false):=by rw[hH];exact Zz _ _
 have a1:Zq H h.next 1=some (.int .i64 x2):=Zy g
 simp -implicitDefEqProofs (disch:=first|omega|simp only[go_sem]) only[go_sem,true_and,w9c,← hH,a1]
 clear hH
 (repeat' first | (refine q9a (fun hb=>?_) (fun hb=>?_) <;> (try simp only[Bool.not_eq_true',Bool.not_eq_false']at hb) <;> simp -implicitDefEqProofs (disch:=first|omega|simp only[go_sem]) only[go_sem,true_and,ZJ,Yz,hb,a1]) | (refine B3a (fun hb=>?_) (fun hb=>?_) <;> (try simp only[Bool.not_eq_true',Bool.not_eq_false']at hb) <;> simp -implicitDefEqProofs (disch:=first|omega|simp only[go_sem]) only[go_sem,true_and,ZJ,Yz,hb,a1]))
 all_goals exact ⟨_,rfl,by simp_all [F1a],hE⟩
theorem d9a:L0a Tryz.prog 97=true:=by kernel_rfl
theorem h0b:v1c Tryz.prog 175 .i64:=⟨2,4,by kernel_rfl,by kernel_rfl,by kernel_rfl⟩
theorem l2b {fr:Fr} {K:DHeap} {a b id id2:Nat} {w:Value} {e:Int} {z y:Nat} (f2:fr a=some (.pointer (some ⟨id,0,none⟩))) (f3:fr b=some (.pointer (some ⟨id2,0,none⟩))) (hk:K.get id=some (.row [w] z false)) (hk2:K.get id2=some (.row [.int .i64 e] y false)) :
 s0a Tryz.prog [.cell a 143,.cell b 52] fr K=some (.tuple #[w,.int .i64 e]):=by
 rw[S5a,W2a,W2a,f2,f3,G0a,G0a]
 have e1:XX Tryz.prog 143 (.pointer (some ⟨id,0,none⟩)) K=some w:=ld_143.trans (Zy hk)
 have e2:XX Tryz.prog 52 (.pointer (some ⟨id2,0,none⟩)) K=some (.int .i64 e):=ld_52.trans (Zy hk2)
 rw[e1,e2,E1b]
structure DecI (h:DHeap) (a b mp n0:Nat) (w:Value) (xs:List Instr) (ks:List Int) (K:DHeap):Prop where
 ext:Ext h K
 ga:K.get a=some (.row [w] 0 false)
 gb:K.get b=some (.row [.int .i64 0] 0 false)
 sm:SetAt .i64 K mp ks
 sl:Sl fInstr.rep (fun j=>n0≤j∧j<mp) K w xs
 lt:mp<K.next
 ab:h.next≤a∧h.next≤b∧a<n0∧b<n0∧a≠b∧n0≤mp
theorem DecI.push {h:DHeap} {a b mp n0:Nat} {w:Value} {xs:List Instr} {ks:List Int} {K K':DHeap} (s:DecI h a b mp n0 w xs ks K) (e:Ext K K'):DecI h a b mp n0 w xs ks K':=by
 have hl:=s.lt
 have ha:=s.ab
 exact ⟨s.ext.trans e,(e.get _ (by omega)).trans s.ga,(e.get _ (by omega)).trans s.gb,s.sm.keep (e.get _ hl),s.sl.mono fun j hj=>⟨hj,e.get _ (by omega)⟩,Nat.lt_of_lt_of_le hl e.next,ha⟩
theorem DecI.upd {h:DHeap} {a b mp n0:Nat} {w:Value} {xs:List Instr} {ks ks':List Int} {K:DHeap} {o:DObj} (s:DecI h a b mp n0 w xs ks K) (hs:SetAt .i64 (K.set mp o) mp ks'):DecI h a b mp n0 w xs ks' (K.set mp o):=by
 have ha:=s.ab
 exact ⟨s.ext.set (by omega),(Zx _ _ (by omega)).trans s.ga,(Zx _ _ (by omega)).trans s.gb,hs,s.sl.mono fun j hj=>⟨hj,Zx _ _ (by omega)⟩,s.lt,ha⟩
theorem p3b {h:DHeap} {v:Value} {l:List Int} (hb:Arg fU8.rep h v l) (hl:l.length≤1048576) :
 Ct Tryz.prog 70 [v] h fun r h1=>∃ w,r=.ret (.tuple #[w,.int .i64 (N2a l)])∧Ext h h1∧Arg fInstr.rep h1 w (g1a l):=by
 refine L3d (by simp) ?_
 have el:∀ K,dLen Tryz.prog #[22] v K=some (.int .i64 (l.length:Nat)):=hb.lens (P:=Tryz.prog) (ts:=#[22]) (t:=22) rfl M3b
 obtain ⟨H,hH⟩:∃ H,H=(h.push (.row [.slice none 0 0] 0 false)).push (.row [.int .i64 0] 0 false):=⟨_,rfl⟩
 have hE:Ext h H:=by rw[hH];exact (Ext.push1 _ _).push _
 have hHn:H.next=h.next+2:=by rw[hH];rfl
 have ga:H.get h.next=some (.row [.slice none 0 0] 0 false):=by rw[hH];exact p5a
 have gb:H.get (h.next+1)=some (.row [.int .i64 0] 0 false):=by rw[hH];exact Zz _ _
 by_cases h0:(512:Int)<(l.length:Nat)
 ·have h0':=eq_true h0
  have hD:N2a l=3:=by rw[N2a,if_pos (by omega)]
  have w1:storeAt H h.next 0 [.slice none 0 0]=some H:=by
   rw[b0a ga (Nat.le_of_ble_eq_true rfl) rfl]
   exact congrArg some (z3a ga)
  have w2:=b0a (o:=0) (vs:=[.int .i64 3]) gb (Nat.le_of_ble_eq_true rfl) rfl
  simp -implicitDefEqProofs (disch:=first|omega|simp only[go_sem]) only[go_sem,true_and,c70,m0a,← hH,el,h0',w1,w2]
  refine A2a (l2b vz vz ((Zx _ _ (by omega)).trans ga) (Zj _ _)) ⟨_,by rw[hD],hE.set (by omega),?_⟩
  rw[g1a,hD]
  exact .nil _ _ _
 have hE0:N2a l=if (t0a l 0).2≠0 then (t0a l 0).2 else if l2a (t0a l 0).1 then 0 else 131:=by rw[N2a,if_neg (by omega)]
 simp -implicitDefEqProofs (disch:=first|omega|simp only[go_sem]) only[go_sem,true_and,c70,m0a,← hH,el,h0]
 refine YW (B2d (hb.ext hE) hl) ?_
 have hlen:=Z4a (l:=l) (n:=l.length) (i:=0) (by omega)
 obtain ⟨xs,hxs⟩:∃ xs,(t0a l 0).1=xs:=⟨_,rfl⟩
 obtain ⟨e,he⟩:∃ e,(t0a l 0).2=e:=⟨_,rfl⟩
 rw[hxs,he]
 rw[hxs]at hlen
 rw[hxs,he]at hE0
 rintro r h1 (⟨he0,w,rfl,hm⟩ | ⟨he0,rfl,hE1⟩)
 case inr=>
  rw[if_pos he0]at hE0
  have ga1:=(hE1.get _ (by omega)).trans ga
  have gb1:=(hE1.get _ (by omega)).trans gb
  simp -implicitDefEqProofs (disch:=first|omega|simp only[go_sem]) only[go_sem,true_and,Xk]
  refine t2b d9a (R5b ga1 gb1 (by omega)) ?_
  simp -implicitDefEqProofs (disch:=first|omega|simp only[go_sem]) only[go_sem,true_and,n4a,b8a]
  refine A2a (l2b vz vz ((Zx _ _ (by omega)).trans (Zj _ _)) (Zj _ _)) ⟨_,by rw[hE0],((hE.trans hE1).set (by omega)).set (by omega),?_⟩
  rw[g1a,hE0,if_neg he0]
  exact .nil _ _ _
 rw[if_neg (fun hh=>hh he0)]at hE0
 have hE1:=hm.ext
 have hE1n:=hE1.next
 have ga1:=(hE1.get _ (by omega)).trans ga
 have gb1:=(hE1.get _ (by omega)).trans gb
 have hone:[w].all Value.oneCell'=true:=by obtain ⟨_,_,rfl⟩:=hm.sl.isSlice;rfl
 have w1:=b0a (o:=0) (vs:=[w]) ga1 (Nat.le_of_ble_eq_true rfl) hone
 have sst:∀ K,Yx Tryz.prog 143 (.pointer (some ⟨h.next,0,none⟩)) w K=storeAt K h.next 0 [w]:=fun K=>f1c hm.sl.cells1
 obtain ⟨K0,hK0⟩:∃ K0,K0=(h1.set h.next (.row [w] 0 false)).push (.map [] 0):=⟨_,rfl⟩
 have elw:∀ K,dLen Tryz.prog #[143] w K=some (.int .i64 (xs.length:Nat)):=hm.arg.lens (P:=Tryz.prog) (ts:=#[143]) (t:=143) rfl J0b
 have I0:DecI h h.next (h.next+1) h1.next H.next w xs [] K0:=by
  have hEs:Ext h (h1.set h.next (.row [w] 0 false)):=(hE.trans hE1).set (by omega)
  refine ⟨by rw[hK0];exact hEs.push _,?_,?_,?_,?_,?_,by omega⟩
  ·rw[hK0,a0a _ _ (by simp only[M6a];omega)];exact Zj _ _
  ·rw[hK0,a0a _ _ (by simp only[M6a];omega),Zx _ _ (by omega)];exact gb1
  ·rw[hK0];exact SetAt.new
  ·refine hm.sl.mono fun j hj=>⟨hj,?_⟩
   rw[hK0,a0a _ _ (by simp only[M6a];omega),Zx _ _ (by omega)]
  ·rw[hK0];exact Nat.lt_succ_self _
 have lw:∀ {ks K},DecI h h.next (h.next+1) h1.next H.next w xs ks K→Zq K h.next 0=some w:=fun s=>Zy s.ga
 simp -implicitDefEqProofs (disch:=first|omega|simp only[go_sem]) only[go_sem,true_and,Xk,sst,w1,YZ]
 have hK0':∀ x,x=[w]→(h1.set h.next (.row x 0 false)).push (.map [] 0)=K0:=fun x hx=>by rw[hx,hK0]
 simp only[List.set_cons_zero,M6a,← hK0]
 simp -implicitDefEqProofs (disch:=first|omega|simp only[go_sem]) only[go_sem,true_and,lw I0,elw]
 refine q8b (fun s=>s.df=[.fn 97 [.pointer (some ⟨h.next,0,none⟩),.pointer (some ⟨h.next+1,0,none⟩)]]∧s.rd=none∧s.fr 2=some (.pointer (some ⟨h.next,0,none⟩))∧s.fr 3=some (.pointer (some ⟨h.next+1,0,none⟩))∧s.fr 4=some (.map (some h1.next))∧DecI h h.next (h.next+1) h1.next H.next w xs (xs.map (·.pos)) s.h) ?_ ?_
 ·refine A0a (σ:=Nat) (by kernel_rfl) (fun i s=>s.df=[.fn 97 [.pointer (some ⟨h.next,0,none⟩),.pointer (some ⟨h.next+1,0,none⟩)]]∧s.rd=none∧s.fr 2=some (.pointer (some ⟨h.next,0,none⟩))∧s.fr 3=some (.pointer (some ⟨h.next+1,0,none⟩))∧s.fr 4=some (.map (some h1.next))∧s.fr 16=some w∧s.fr 17=some (.int .i64 (xs.length:Nat))∧s.fr 18=some (.int .i64 (i:Nat))∧i≤xs.length∧DecI h h.next (h.next+1) h1.next H.next w xs ((xs.take i).map (·.pos)) s.h) (fun i=>xs.length - i) 0 ?_ ?_
  ·simp -implicitDefEqProofs (disch:=first|omega|simp only[go_sem]) only[go_sem,true_and]
   exact ⟨rfl,Nat.zero_le _,I0⟩
  ·rintro i ⟨fr,df,K,rd⟩ K' hK' hX ⟨hdf,hrd,f2,f3,f4,f16,f17,f18,hi,I⟩
   simp only at hdf hrd f2 f3 f4 f16 f17 f18 I
   subst hdf hrd
   simp -implicitDefEqProofs (disch:=first|omega|simp only[go_sem]) only[go_sem,true_and,f17,f18]
   refine n0a (fun hc1=>?_) (fun hc1=>?_)
   ·have hj:i<xs.length:=by omega
    obtain ⟨id,o,g,c5,_,_,_⟩:=G7a I.sl hj
    have hw1:=d0a hj (by omega)
    obtain ⟨x,hx⟩:∃ x,xs[i]=x:=⟨_,rfl⟩
    rw[hx]at c5
    obtain ⟨K1,hK1⟩:∃ K1,K1=K.push (.row (fInstr.enc x) 0 false):=⟨_,rfl⟩
    have g1:K1.get K.next=some (.row (fInstr.enc x) 0 false):=by rw[hK1];exact Zz _ _
    have p0:Zq K1 K.next 0=some (.int .i64 x.pos):=Zy g1
    have s5:=r6a (h:=K) (x:=x)
    rw[← hK1]at s5
    have I1:DecI h h.next (h.next+1) h1.next H.next w xs ((xs.take i).map (·.pos)) K1:=I.push (by rw[hK1];exact Ext.push1 _ _)
    obtain ⟨ob,hu,hs⟩:=I1.sm.update h0b x.pos
    simp -implicitDefEqProofs (disch:=first|omega|simp only[go_sem]) only[go_sem,true_and,f16,f18,g,c5,s5,f4,p0,hu,hw1]
    refine hK' (i+1) _ ?_ (by omega)
    refine ⟨by trivial,by trivial,(vy f2),(vy f3),(vy f4),(vy f16),(vy f17),vz,by omega,?_⟩
    have:=I1.upd hs
    rw[show xs.take (i+1)=xs.take i++[x] by rw[← hx];simp]
    simpa using this
   ·obtain rfl:i=xs.length:=by omega
    refine hX _ _ (by simp) ?_
    rw[List.take_length]at I
    exact ⟨rfl,rfl,f2,f3,f4,I⟩
 rintro ⟨fr,df,K,rd⟩ ⟨hdf,hrd,f2,f3,f4,I⟩
 simp only at hdf hrd f2 f3 f4 I
 subst hdf hrd
 simp -implicitDefEqProofs (disch:=first|omega|simp only[go_sem]) only[go_sem,true_and,f2,lw I,elw]
 refine A0a (σ:=Nat) (by kernel_rfl) (fun i s=>s.df=[.fn 97 [.pointer (some ⟨h.next,0,none⟩),.pointer (some ⟨h.next+1,0,none⟩)]]∧s.rd=none∧s.fr 2=some (.pointer (some ⟨h.next,0,none⟩))∧s.fr 3=some (.pointer (some ⟨h.next+1,0,none⟩))∧s.fr 4=some (.map (some h1.next))∧s.fr 26=some w∧s.fr 27=some (.int .i64 (xs.length:Nat))∧s.fr 28=some (.int .i64 (i:Nat))∧i≤xs.length∧m8a xs i∧DecI h h.next (h.next+1) h1.next H.next w xs (xs.map (·.pos)) s.h) (fun i=>xs.length - i) 0 ?_ ?_
 ·simp -implicitDefEqProofs (disch:=first|omega|simp only[go_sem]) only[go_sem,true_and,f2,f3,f4]
  exact ⟨rfl,Nat.zero_le _,fun j x hj=>absurd hj (Nat.not_lt_zero j),I⟩
 clear f2 f3 f4 I K fr
 rintro i ⟨fr,df,K,rd⟩ K' hK' hX ⟨hdf,hrd,f2,f3,f4,f26,f27,f28,hi,hso,I⟩
 simp only at hdf hrd f2 f3 f4 f26 f27 f28 I
 subst hdf hrd
 simp -implicitDefEqProofs (disch:=first|omega|simp only[go_sem]) only[go_sem,true_and,f27,f28]
 refine n0a (fun hc1=>?_) (fun hc1=>?_)
 ·have hj:i<xs.length:=by omega
  obtain ⟨id,o,g,c5,_,_,_⟩:=G7a I.sl hj
  have hw1:=d0a hj (by omega)
  have hmem:=List.getElem_mem hj
  have hsucc:=fun hx=>O3b hj hso hx
  have hbad:=fun (a:F1a xs[i].op=true) (b:xs[i].imm∉xs.map (·.pos))=>n5b hmem a b
  obtain ⟨x,hx⟩:∃ x,xs[i]=x:=⟨_,rfl⟩
  rw[hx]at c5
  rw[hx]at hsucc hbad
  obtain ⟨K1,hK1⟩:∃ K1,K1=K.push (.row (fInstr.enc x) 0 false):=⟨_,rfl⟩
  have g1:K1.get K.next=some (.row (fInstr.enc x) 0 false):=by rw[hK1];exact Zz _ _
  have p4:Zq K1 K.next 4=some (.int .i64 x.imm):=Zy g1
  have pc:Zk K1 K.next 0 5=some (R0a x):=by rw[Zu g1 (Nat.le_of_ble_eq_true rfl)];rfl
  have s5:=r6a (h:=K) (x:=x)
  rw[← hK1]at s5
  have I1:DecI h h.next (h.next+1) h1.next H.next w xs (xs.map (·.pos)) K1:=I.push (by rw[hK1];exact Ext.push1 _ _)
  simp -implicitDefEqProofs (disch:=first|omega|simp only[go_sem]) only[go_sem,true_and,f26,f28,g,c5,s5,pc]
  refine YX E7c ?_
  by_cases hjb:F1a x.op=true
  case neg=>
   have hjb':F1a x.op=false:=by simpa using hjb
   simp -implicitDefEqProofs (disch:=first|omega|simp only[go_sem]) only[go_sem,true_and,hjb',ZJ,Yz,f28,hw1]
   refine hK' (i+1) _ ?_ (by omega)
   exact ⟨by trivial,by trivial,(vy f2),(vy f3),(vy f4),(vy f26),(vy f27),vz,by omega,hsucc fun hh=>absurd hh hjb,I1⟩
  have hlk:=I1.sm.lookup h0b x.imm
  by_cases hin:x.imm∈xs.map (·.pos)
  ·rw[decide_eq_true hin]at hlk
   simp -implicitDefEqProofs (disch:=first|omega|simp only[go_sem]) only[go_sem,true_and,hjb,f4,p4,hlk,ZJ,Yz,f28,hw1]
   refine hK' (i+1) _ ?_ (by omega)
   exact ⟨by trivial,by trivial,(vy f2),(vy f3),(vy f4),(vy f26),(vy f27),vz,by omega,hsucc fun _=>hin,I1⟩
  ·rw[decide_eq_false hin]at hlk
   rw[hbad hjb hin]at hE0
   simp only[Bool.false_eq_true,if_false]at hE0
   simp -implicitDefEqProofs (disch:=first|omega|simp only[go_sem]) only[go_sem,true_and,hjb,f4,p4,hlk,ZJ,Yz]
   refine r1b (T3b (by decide)) ?_
   refine hX _ _ (by simp) ?_
   simp -implicitDefEqProofs (disch:=first|omega|simp only[go_sem]) only[go_sem,true_and]
   refine t2b d9a (R5b I1.ga I1.gb (by omega)) ?_
   simp -implicitDefEqProofs (disch:=first|omega|simp only[go_sem]) only[go_sem,true_and,n4a,b8a]
   refine A2a (l2b (vy f2) (vy f3) ((Zx _ _ (by omega)).trans (Zj _ _)) (Zj _ _)) ⟨_,by rw[hE0],(I1.ext.set (by omega)).set (by omega),?_⟩
   rw[g1a,hE0]
   exact .nil _ _ _
 ·obtain rfl:i=xs.length:=by omega
  rw[m5b hso]at hE0
  simp only[if_true]at hE0
  refine hX _ _ (by simp) ?_
  have w2:storeAt K h.next 0 [w]=some K:=by
   rw[b0a I.ga (Nat.le_of_ble_eq_true rfl) hone]
   exact congrArg some (z3a I.ga)
  have w3:storeAt K (h.next+1) 0 [.int .i64 0]=some K:=by
   rw[b0a I.gb (Nat.le_of_ble_eq_true rfl) rfl]
   exact congrArg some (z3a I.gb)
  simp -implicitDefEqProofs (disch:=first|omega|simp only[go_sem]) only[go_sem,true_and,f2,f3,lw I,sst,w2,w3]
  refine t2b d9a O6c ?_
  simp -implicitDefEqProofs (disch:=first|omega|simp only[go_sem]) only[go_sem,true_and,n4a,b8a]
  refine A2a (l2b (vy f2) (vy f3) I.ga I.gb) ⟨_,by rw[hE0],I.ext,?_⟩
  rw[g1a,hE0,if_pos rfl,hxs]
  have hlt:=I.lt
  exact I.sl.mono fun j hj=>⟨by omega,rfl⟩
theorem Y5b {S:Nat→Prop} {h:DHeap} {v:Value} {l:List Key} {i:Nat} (hb:Sl fKey.rep S h v l) (hi:i<l.length) :
 ∃ id o,ZQ Tryz.prog 24 v (.int .i64 (i:Nat))=some (.pointer (some ⟨id,o,none⟩))∧Zk h id o 2=some (ZZ l[i])∧Zq h id (o+0)=some (.int .i32 l[i].t)∧Zq h id (o+1)=some (.int .i64 l[i].r):=by
 obtain ⟨id,o,g,hs,hat⟩:=hb.idx (P:=Tryz.prog) (t:=24) t4a (k:=.i64) (List.getElem?_eq_getElem hi)
 obtain ⟨a,b,_⟩:=hat.flat
 exact ⟨id,o,g,b,a 0 (by decide),a 1 (by decide)⟩
theorem W9b {a b:Key}:YQ a b=!(decide (b.t<a.t)||(decide (b.t=a.t)&&decide (b.r≤a.r))):=by
 unfold YQ
 by_cases h1:b.t<a.t
 ·simp[h1];omega
 ·by_cases h2:b.t=a.t
  ·by_cases h3:b.r≤a.r
   ·simp[h1,h2,h3,Int.not_lt.2]
   ·simp[h1,h2,h3,Int.not_le.1]
  ·simp[h1,h2];omega
theorem i6b {h:DHeap} {v:Value} {l:List Key} (hb:Arg fKey.rep h v l) (hl:l.length≤4294967296):DC Tryz.prog 96 [v] h (.ret (.bool (B2a YQ l))) h:=by
 refine Ct.pure (V3d (by simp) ?_) (Y0a _)
 have el:∀ K,dLen Tryz.prog #[24] v K=some (.int .i64 (l.length:Nat)):=hb.lens (P:=Tryz.prog) (ts:=#[24]) (t:=24) rfl m3a
 simp -implicitDefEqProofs (disch:=first|omega|simp only[go_sem]) only[go_sem,true_and,c96,el]
 refine A0a (σ:=Nat) (by kernel_rfl) (fun i s=>s.df=[]∧s.h=h∧s.fr 0=some v∧s.fr 5=some (.int .i64 (l.length:Nat))∧s.fr 6=some (.int .i64 (i:Nat))∧i≤l.length∧B2a YQ (l.drop (i - 1))=B2a YQ l) (fun i=>l.length - i) 0 ?_ ?_
 ·simp -implicitDefEqProofs (disch:=first|omega|simp only[go_sem]) only[go_sem,true_and]
  exact ⟨rfl,Nat.zero_le _,rfl⟩
 ·rintro i ⟨fr,df,K,rd⟩ K' hK' hX ⟨rfl,rfl,f0,f5,f6,hi,ho⟩
  simp only at f0 f5 f6
  simp -implicitDefEqProofs (disch:=first|omega|simp only[go_sem]) only[go_sem,true_and,f5,f6]
  refine n0a (fun hc1=>?_) (fun hc1=>?_)
  ·have hj:i<l.length:=by omega
   have hw1:=d0a hj (by omega)
   simp -implicitDefEqProofs (disch:=first|omega|simp only[go_sem]) only[go_sem,true_and,f6]
   refine R6c ?_
   by_cases h0:(0:Int)<(i:Nat)
   case neg=>
    obtain rfl:i=0:=by omega
    simp -implicitDefEqProofs (disch:=first|omega|simp only[go_sem]) only[go_sem,true_and,l96_0,h0,ZJ,Yz,f6,hw1,z1a]
    refine hK' (0+1) _ ?_ (by omega)
    exact ⟨by trivial,by trivial,(vy f0),(vy f5),vz,by omega,ho⟩
   obtain ⟨j,rfl⟩:∃ j,i=j+1:=⟨i - 1,by omega⟩
   have h0':=eq_true h0
   have hwm:IntKind.i64.wrap (((j+1:Nat):Int) - 1)=(j:Nat):=by rw[o0a (by omega) (by omega)];omega
   obtain ⟨id1,o1,g1,_,a0,a1⟩:=Y5b hb (i:=j+1) hj
   obtain ⟨id2,o2,g2,_,b0,b1⟩:=Y5b hb (i:=j) (by omega)
   rw[Nat.add_zero]at a0 b0
   rw[Nat.add_sub_cancel,O7b hj,W9b]at ho
   have good:∀ {s:St},s.df=[]→s.h=K→s.fr 0=some v→s.fr 5=some (.int .i64 (l.length:Nat))→s.fr 6=some (.int .i64 ((j+1+1:Nat):Int))→(decide (l[j+1].t<l[j].t)||(decide (l[j+1].t=l[j].t)&&decide (l[j+1].r≤l[j].r)))=false→K' .normal s:=fun a b c d e f=>by
    refine hK' (j+1+1) _ ⟨a,b,c,d,e,by omega,?_⟩ (by omega)
    rw[f,Bool.not_false,Bool.true_and]at ho
    exact ho
   by_cases h1:l[j+1].t<l[j].t
   ·have h1':=eq_true h1
    simp -implicitDefEqProofs (disch:=first|omega|simp only[go_sem]) only[go_sem,true_and,l96_0,f0,f6,h0',h1',g1,g2,hwm,a0,a1,b0,b1,ZJ,Yz,z1a]
    refine hX _ _ (by simp) ?_
    simp -implicitDefEqProofs (disch:=first|omega|simp only[go_sem]) only[go_sem,true_and]
    refine ⟨_,rfl,?_,.refl _⟩
    rw[← ho]
    simp[h1]
   by_cases h2:l[j+1].t=l[j].t
   case neg=>
    simp -implicitDefEqProofs (disch:=first|omega|simp only[go_sem]) only[go_sem,true_and,l96_0,f0,f6,h0',h1,h2,g1,g2,hwm,a0,a1,b0,b1,ZJ,Yz,z1a,hw1]
    exact good rfl rfl (vy f0) (vy f5) vz (by simp[h1,h2])
   have h2':=eq_true h2
   by_cases h3:l[j+1].r≤l[j].r
   ·have h3':=eq_true h3
    simp -implicitDefEqProofs (disch:=first|omega|simp only[go_sem]) only[go_sem,true_and,l96_0,f0,f6,h0',h1,h2',h3',g1,g2,hwm,a0,a1,b0,b1,ZJ,Yz,z1a]
    refine hX _ _ (by simp) ?_
    simp -implicitDefEqProofs (disch:=first|omega|simp only[go_sem]) only[go_sem,true_and]
    refine ⟨_,rfl,?_,.refl _⟩
    rw[← ho]
    simp[h1,h2,h3]
   ·simp -implicitDefEqProofs (disch:=first|omega|simp only[go_sem]) only[go_sem,true_and,l96_0,f0,f6,h0',h1,h2',h3,g1,g2,hwm,a0,a1,b0,b1,ZJ,Yz,z1a,hw1]
    exact good rfl rfl (vy f0) (vy f5) vz (by simp[h1,h2,h3])
  ·refine hX _ _ (by simp) ?_
   simp -implicitDefEqProofs (disch:=first|omega|simp only[go_sem]) only[go_sem,true_and]
   refine ⟨_,rfl,?_,.refl _⟩
   rw[← ho,d4b (by simp;omega)]
def v1a (t:Txn) (x:Instr):Bool:=
 if x.op=3∨x.op=4 then decide ((t.reads.length:Int)≤x.imm) else if x.op=5∨x.op=6 then decide ((t.writes.length:Int)≤x.imm) else if x.op=2 then decide ((t.args.length:Int)≤x.imm) else false
def T2a (t:Txn):Int:=
 if t.ses<1∨1099511627776<t.ses∨t.req<1∨1099511627776<t.req then 1
 else if 8<t.args.length∨16<t.reads.length∨16<t.writes.length then 3
 else if B2a YQ t.reads=false∨B2a YQ t.writes=false then 1
 else if N2a t.code≠0 then N2a t.code
 else if (g1a t.code).any (v1a t) then 132 else 0
theorem u4b {l:List Int} (hb:∀ j,0≤l.getD j 0∧l.getD j 0≤255):∀ (n i:Nat),∀ x∈(XJ l n i).1,x.imm≤65535
 | 0,i,x,hx=>by simp[XJ]at hx
 | n+1,i,x,hx=>by
   simp only[XJ]at hx
   split at hx
   ·simp at hx
   ·split at hx
    ·rename_i he
     rcases List.mem_cons.1 hx with rfl | hx
     ·obtain ⟨e,_⟩:=Q1a he
      rw[e]
      have b3:=hb (i+1+(if YJ (l.getD i 0) then 1 else 0)+if XK (l.getD i 0) then 1 else 0)
      have b4:=hb (i+1+(if YJ (l.getD i 0) then 1 else 0)+(if XK (l.getD i 0) then 1 else 0)+1)
      simp only[YV,r5a]
      generalize l.getD (i+1+(if YJ (l.getD i 0) then 1 else 0)+if XK (l.getD i 0) then 1 else 0) 0=y3 at b3 ⊢
      generalize l.getD (i+1+(if YJ (l.getD i 0) then 1 else 0)+(if XK (l.getD i 0) then 1 else 0)+1) 0=y4 at b4 ⊢
      repeat' split
      all_goals omega
     ·exact u4b hb n _ x hx
    ·simp at hx
theorem K2c {l:List Int} (hb:∀ j,0≤l.getD j 0∧l.getD j 0≤255):∀ x∈g1a l,x.imm≤65535:=by
 intro x hx
 unfold g1a at hx
 split at hx
 ·exact u4b hb _ _ x hx
 ·simp at hx
structure TxnAt (h:DHeap) (id:Nat) (t:Txn) (vc va vr vw:Value):Prop where
 c0:Zq h id 0=some (.int .i64 t.ses)
 c1:Zq h id 1=some (.int .i64 t.req)
 c2:Zq h id 2=some vc
 c3:Zq h id 3=some va
 c4:Zq h id 4=some vr
 c5:Zq h id 5=some vw
theorem TxnAt.of {h:DHeap} {id z:Nat} {ro:Bool} {t:Txn} {vc va vr vw:Value} (g:h.get id=some (.row [.int .i64 t.ses,.int .i64 t.req,vc,va,vr,vw] z ro)):TxnAt h id t vc va vr vw:=
 ⟨Zy g,Zy g,Zy g,Zy g,Zy g,Zy g⟩
theorem I1c {t:Txn} {l:List Instr} {i:Nat} (hi:i<l.length) (h:(l.take i).any (v1a t)=false) (hx:v1a t l[i]=false):(l.take (i+1)).any (v1a t)=false:=by
 rw[List.take_succ_eq_append_getElem hi,List.any_append,h,Bool.false_or]
 simp[hx]
set_option maxHeartbeats 1000000 in
theorem d2c {h:DHeap} {t:Txn} {vc va vr vw:Value} (hc:Arg fU8.rep h vc t.code) (ha:Arg fI64.rep h va t.args) (hr:Arg fKey.rep h vr t.reads) (hw:Arg fKey.rep h vw t.writes) (hl:t.code.length≤1048576) (hby:∀ j,0≤t.code.getD j 0∧t.code.getD j 0≤255) :
 DC Tryz.prog 69 [h1a t.ses t.req vc va vr vw] h (.ret (.int .i64 (T2a t))) h:=by
 refine Ct.pure (K3d (by simp) ?_) (T0a _ _)
 have hvc:=hc.cells1
 have hva:=ha.cells1
 have hvr:=hr.cells1
 have hvw:=hw.cells1
 obtain ⟨H,hH⟩:∃ H,H=h.push (.row [.int .i64 t.ses,.int .i64 t.req,vc,va,vr,vw] 0 false):=⟨_,rfl⟩
 have hE:Ext h H:=by rw[hH];exact Ext.push1 _ _
 have g:H.get h.next=some (.row [.int .i64 t.ses,.int .i64 t.req,vc,va,vr,vw] 0 false):=by rw[hH];exact Zz _ _
 have hHn:H.next=h.next+1:=by rw[hH];rfl
 have LT:∀ K,Ext H K→TxnAt K h.next t vc va vr vw:=fun K e=>TxnAt.of ((e.get _ (by omega)).trans g)
 have L0:=LT H (.refl _)
 have ea:∀ K,dLen Tryz.prog #[23] va K=some (.int .i64 (t.args.length:Nat)):=ha.lens (P:=Tryz.prog) (ts:=#[23]) (t:=23) rfl H7a
 have er:∀ K,dLen Tryz.prog #[24] vr K=some (.int .i64 (t.reads.length:Nat)):=hr.lens (P:=Tryz.prog) (ts:=#[24]) (t:=24) rfl m3a
 have ew:∀ K,dLen Tryz.prog #[24] vw K=some (.int .i64 (t.writes.length:Nat)):=hw.lens (P:=Tryz.prog) (ts:=#[24]) (t:=24) rfl m3a
 by_cases p1:t.ses<1∨1099511627776<t.ses∨t.req<1∨1099511627776<t.req
 ·have hT:T2a t=1:=by rw[T2a,if_pos p1]
  by_cases q1:t.ses<1
  ·have q1':=eq_true q1
   simp -implicitDefEqProofs (disch:=first|omega|simp only[go_sem]) only[go_sem,true_and,c69,← hH,L0.c0,L0.c1,q1',ZJ,Yz]
   exact ⟨_,rfl,by rw[hT],hE⟩
  by_cases q2:1099511627776<t.ses
  ·have q2':=eq_true q2
   simp -implicitDefEqProofs (disch:=first|omega|simp only[go_sem]) only[go_sem,true_and,c69,← hH,L0.c0,L0.c1,q1,q2',ZJ,Yz]
   exact ⟨_,rfl,by rw[hT],hE⟩
  by_cases q3:t.req<1
  ·have q3':=eq_true q3
   simp -implicitDefEqProofs (disch:=first|omega|simp only[go_sem]) only[go_sem,true_and,c69,← hH,L0.c0,L0.c1,q1,q2,q3',ZJ,Yz]
   exact ⟨_,rfl,by rw[hT],hE⟩
  have q4:1099511627776<t.req:=by omega
  have q4':=eq_true q4
  simp -implicitDefEqProofs (disch:=first|omega|simp only[go_sem]) only[go_sem,true_and,c69,← hH,L0.c0,L0.c1,q1,q2,q3,q4',ZJ,Yz]
  exact ⟨_,rfl,by rw[hT],hE⟩
 have q1:¬ t.ses<1:=fun hh=>p1 (.inl hh)
 have q2:¬ 1099511627776<t.ses:=fun hh=>p1 (.inr (.inl hh))
 have q3:¬ t.req<1:=fun hh=>p1 (.inr (.inr (.inl hh)))
 have q4:¬ 1099511627776<t.req:=fun hh=>p1 (.inr (.inr (.inr hh)))
 by_cases p2:8<t.args.length∨16<t.reads.length∨16<t.writes.length
 ·have hT:T2a t=3:=by rw[T2a,if_neg p1,if_pos p2]
  by_cases r1:(8:Int)<(t.args.length:Nat)
  ·have r1':=eq_true r1
   simp -implicitDefEqProofs (disch:=first|omega|simp only[go_sem]) only[go_sem,true_and,c69,← hH,L0.c0,L0.c1,L0.c3,L0.c4,L0.c5,ea,er,ew,q1,q2,q3,q4,r1',ZJ,Yz]
   exact ⟨_,rfl,by rw[hT],hE⟩
  by_cases r2:(16:Int)<(t.reads.length:Nat)
  ·have r2':=eq_true r2
   simp -implicitDefEqProofs (disch:=first|omega|simp only[go_sem]) only[go_sem,true_and,c69,← hH,L0.c0,L0.c1,L0.c3,L0.c4,L0.c5,ea,er,ew,q1,q2,q3,q4,r1,r2',ZJ,Yz]
   exact ⟨_,rfl,by rw[hT],hE⟩
  have r3:(16:Int)<(t.writes.length:Nat):=by omega
  have r3':=eq_true r3
  simp -implicitDefEqProofs (disch:=first|omega|simp only[go_sem]) only[go_sem,true_and,c69,← hH,L0.c0,L0.c1,L0.c3,L0.c4,L0.c5,ea,er,ew,q1,q2,q3,q4,r1,r2,r3',ZJ,Yz]
  exact ⟨_,rfl,by rw[hT],hE⟩
 have r1:¬ (8:Int)<(t.args.length:Nat):=by omega
 have r2:¬ (16:Int)<(t.reads.length:Nat):=by omega
 have r3:¬ (16:Int)<(t.writes.length:Nat):=by omega
 simp -implicitDefEqProofs (disch:=first|omega|simp only[go_sem]) only[go_sem,true_and,c69,← hH,L0.c0,L0.c1,L0.c3,L0.c4,L0.c5,ea,er,ew,q1,q2,q3,q4,r1,r2,r3,ZJ,Yz]
 refine YX (i6b (hr.ext hE) (by omega)) ?_
 cases u1:B2a YQ t.reads with
 | false=>
   have hT:T2a t=1:=by rw[T2a,if_neg p1,if_neg p2,if_pos (.inl u1)]
   simp -implicitDefEqProofs (disch:=first|omega|simp only[go_sem]) only[go_sem,true_and,ZJ,Yz]
   exact ⟨_,rfl,by rw[hT],hE⟩
 | true=>
 simp -implicitDefEqProofs (disch:=first|omega|simp only[go_sem]) only[go_sem,true_and,L0.c5]
 refine YX (i6b (hw.ext hE) (by omega)) ?_
 cases u2:B2a YQ t.writes with
 | false=>
   have hT:T2a t=1:=by rw[T2a,if_neg p1,if_neg p2,if_pos (.inr u2)]
   simp -implicitDefEqProofs (disch:=first|omega|simp only[go_sem]) only[go_sem,true_and,ZJ,Yz]
   exact ⟨_,rfl,by rw[hT],hE⟩
 | true=>
 have hT:T2a t=if N2a t.code≠0 then N2a t.code else if (g1a t.code).any (v1a t) then 132 else 0:=by rw[T2a,if_neg p1,if_neg p2,if_neg (by simp[u1,u2])]
 simp -implicitDefEqProofs (disch:=first|omega|simp only[go_sem]) only[go_sem,true_and,ZJ,Yz,L0.c2]
 refine YW (p3b (hc.ext hE) hl) ?_
 rintro r h1 ⟨w,rfl,hE1,hxs⟩
 have L1:=LT h1 hE1
 by_cases he:N2a t.code=0
 case neg=>
  rw[if_pos he]at hT
  simp -implicitDefEqProofs (disch:=first|omega|simp only[go_sem]) only[go_sem,true_and,Xk,he]
  exact ⟨_,rfl,by rw[hT],hE.trans hE1⟩
 have he':=eq_true he
 rw[if_neg (fun hh=>hh he)]at hT
 obtain ⟨xs,hx⟩:∃ xs,g1a t.code=xs:=⟨_,rfl⟩
 rw[hx]at hxs hT
 have elw:∀ K,dLen Tryz.prog #[143] w K=some (.int .i64 (xs.length:Nat)):=hxs.lens (P:=Tryz.prog) (ts:=#[143]) (t:=143) rfl J0b
 have hxl:xs.length≤1048576:=by
  rw[← hx]
  rw[g1a,if_pos he]
  have:=Z4a (l:=t.code) (n:=t.code.length) (i:=0) (by omega)
  omega
 simp -implicitDefEqProofs (disch:=first|omega|simp only[go_sem]) only[go_sem,true_and,Xk,he',elw]
 have himm:=K2c hby
 rw[hx]at himm
 refine A0a (σ:=Nat) (by kernel_rfl) (fun i s=>s.df=[]∧s.rd=none∧Ext h1 s.h∧s.fr 1=some (.pointer (some ⟨h.next,0,none⟩))∧s.fr 64=some w∧s.fr 65=some (.int .i64 (xs.length:Nat))∧s.fr 66=some (.int .i64 (i:Nat))∧i≤xs.length∧(xs.take i).any (v1a t)=false) (fun i=>xs.length - i) 0 ?_ ?_
 ·simp -implicitDefEqProofs (disch:=first|omega|simp only[go_sem]) only[go_sem,true_and]
  exact ⟨.refl _,rfl,Nat.zero_le _,rfl⟩
 ·rintro i ⟨fr,df,K,rd⟩ K' hK' hX ⟨hdf,hrd,hEK,f1,f64,f65,f66,hi,hn⟩
  simp only at hdf hrd hEK f1 f64 f65 f66
  subst hdf hrd
  simp -implicitDefEqProofs (disch:=first|omega|simp only[go_sem]) only[go_sem,true_and,f65,f66]
  refine n0a (fun hc1=>?_) (fun hc1=>?_)
  ·have hj:i<xs.length:=by omega
   obtain ⟨id,o,g',c5,_,_,_⟩:=G7a (hxs.ext hEK) hj
   have hw1:=d0a hj (by omega)
   have hmem:=List.getElem_mem hj
   have him:=himm _ hmem
   have hsucc:=fun hx=>I1c (t:=t) hj hn hx
   have hbad:∀ hb:v1a t xs[i]=true,xs.any (v1a t)=true:=fun hb=>List.any_eq_true.2 ⟨_,hmem,hb⟩
   obtain ⟨x,hxi⟩:∃ x,xs[i]=x:=⟨_,rfl⟩
   rw[hxi]at c5 hsucc hbad him
   obtain ⟨K1,hK1⟩:∃ K1,K1=K.push (.row (fInstr.enc x) 0 false):=⟨_,rfl⟩
   have g1:K1.get K.next=some (.row (fInstr.enc x) 0 false):=by rw[hK1];exact Zz _ _
   have p1':Zq K1 K.next 1=some (.int .i64 x.op):=Zy g1
   have p4:Zq K1 K.next 4=some (.int .i64 x.imm):=Zy g1
   have s5:=r6a (h:=K) (x:=x)
   rw[← hK1]at s5
   have hEK1:Ext h1 K1:=hEK.trans (by rw[hK1];exact Ext.push1 _ _)
   have L2:=LT K1 (hE1.trans hEK1)
   have good:∀ {s:St},s.df=[]→s.rd=none→s.h=K1→s.fr 1=some (.pointer (some ⟨h.next,0,none⟩))→s.fr 64=some w→s.fr 65=some (.int .i64 (xs.length:Nat))→s.fr 66=some (.int .i64 ((i+1:Nat):Int))→v1a t x=false→K' .normal s:=fun a r b c d e g f=>
    hK' (i+1) _ ⟨a,r,b▸hEK1,c,d,e,g,by omega,hsucc f⟩ (by omega)
   have bad:v1a t x=true→∃ v,some (Value.int .i64 132)=some v∧DEnd.ret v=.ret (.int .i64 (T2a t))∧Ext h K1:=fun hb=>by
    rw[hbad hb,if_pos rfl]at hT
    exact ⟨_,rfl,by rw[hT],(hE.trans hE1).trans hEK1⟩
   by_cases n3:x.op=3
   ·have o':=eq_true n3
    have hb:v1a t x=decide ((t.reads.length:Int)≤x.imm):=by simp[v1a,n3]
    by_cases hm:(t.reads.length:Int)≤x.imm
    ·have hm':=eq_true hm
     simp -implicitDefEqProofs (disch:=first|omega|simp only[go_sem]) only[go_sem,true_and,f1,f64,f66,g',c5,s5,p1',p4,L2.c4,er,o',hm']
     refine hX _ _ (by simp) ?_
     simp -implicitDefEqProofs (disch:=first|omega|simp only[go_sem]) only[go_sem,true_and]
     exact bad (by rw[hb,decide_eq_true hm])
    ·simp -implicitDefEqProofs (disch:=first|omega|simp only[go_sem]) only[go_sem,true_and,f1,f64,f66,g',c5,s5,p1',p4,L2.c4,er,o',hm,hw1]
     exact good rfl rfl rfl (vy f1) (vy f64) (vy f65) vz (by rw[hb,decide_eq_false hm])
   by_cases n4:x.op=4
   ·have o':=eq_true n4
    have hb:v1a t x=decide ((t.reads.length:Int)≤x.imm):=by simp[v1a,n3,n4]
    by_cases hm:(t.reads.length:Int)≤x.imm
    ·have hm':=eq_true hm
     simp -implicitDefEqProofs (disch:=first|omega|simp only[go_sem]) only[go_sem,true_and,f1,f64,f66,g',c5,s5,p1',p4,L2.c4,er,n3,o',hm']
     refine hX _ _ (by simp) ?_
     simp -implicitDefEqProofs (disch:=first|omega|simp only[go_sem]) only[go_sem,true_and]
     exact bad (by rw[hb,decide_eq_true hm])
    ·simp -implicitDefEqProofs (disch:=first|omega|simp only[go_sem]) only[go_sem,true_and,f1,f64,f66,g',c5,s5,p1',p4,L2.c4,er,n3,o',hm,hw1]
     exact good rfl rfl rfl (vy f1) (vy f64) (vy f65) vz (by rw[hb,decide_eq_false hm])
   by_cases n5:x.op=5
   ·have o':=eq_true n5
    have hb:v1a t x=decide ((t.writes.length:Int)≤x.imm):=by simp[v1a,n3,n4,n5]
    by_cases hm:(t.writes.length:Int)≤x.imm
    ·have hm':=eq_true hm
     simp -implicitDefEqProofs (disch:=first|omega|simp only[go_sem]) only[go_sem,true_and,f1,f64,f66,g',c5,s5,p1',p4,L2.c5,ew,n3,n4,o',hm']
     refine hX _ _ (by simp) ?_
     simp -implicitDefEqProofs (disch:=first|omega|simp only[go_sem]) only[go_sem,true_and]
     exact bad (by rw[hb,decide_eq_true hm])
    ·simp -implicitDefEqProofs (disch:=first|omega|simp only[go_sem]) only[go_sem,true_and,f1,f64,f66,g',c5,s5,p1',p4,L2.c5,ew,n3,n4,o',hm,hw1]
     exact good rfl rfl rfl (vy f1) (vy f64) (vy f65) vz (by rw[hb,decide_eq_false hm])
   by_cases n6:x.op=6
   ·have o':=eq_true n6
    have hb:v1a t x=decide ((t.writes.length:Int)≤x.imm):=by simp[v1a,n3,n4,n5,n6]
    by_cases hm:(t.writes.length:Int)≤x.imm
    ·have hm':=eq_true hm
     simp -implicitDefEqProofs (disch:=first|omega|simp only[go_sem]) only[go_sem,true_and,f1,f64,f66,g',c5,s5,p1',p4,L2.c5,ew,n3,n4,n5,o',hm']
     refine hX _ _ (by simp) ?_
     simp -implicitDefEqProofs (disch:=first|omega|simp only[go_sem]) only[go_sem,true_and]
     exact bad (by rw[hb,decide_eq_true hm])
    ·simp -implicitDefEqProofs (disch:=first|omega|simp only[go_sem]) only[go_sem,true_and,f1,f64,f66,g',c5,s5,p1',p4,L2.c5,ew,n3,n4,n5,o',hm,hw1]
     exact good rfl rfl rfl (vy f1) (vy f64) (vy f65) vz (by rw[hb,decide_eq_false hm])
   by_cases n2:x.op=2
   ·have o':=eq_true n2
    have hb:v1a t x=decide ((t.args.length:Int)≤x.imm):=by simp[v1a,n3,n4,n5,n6,n2]
    by_cases hm:(t.args.length:Int)≤x.imm
    ·have hm':=eq_true hm
     simp -implicitDefEqProofs (disch:=first|omega|simp only[go_sem]) only[go_sem,true_and,f1,f64,f66,g',c5,s5,p1',p4,L2.c3,ea,n3,n4,n5,n6,o',hm']
     refine hX _ _ (by simp) ?_
     simp -implicitDefEqProofs (disch:=first|omega|simp only[go_sem]) only[go_sem,true_and]
     exact bad (by rw[hb,decide_eq_true hm])
    ·simp -implicitDefEqProofs (disch:=first|omega|simp only[go_sem]) only[go_sem,true_and,f1,f64,f66,g',c5,s5,p1',p4,L2.c3,ea,n3,n4,n5,n6,o',hm,hw1]
     exact good rfl rfl rfl (vy f1) (vy f64) (vy f65) vz (by rw[hb,decide_eq_false hm])
   have hb:v1a t x=false:=by simp[v1a,n3,n4,n5,n6,n2]
   have hm:¬ 1048576≤x.imm:=by omega
   simp -implicitDefEqProofs (disch:=first|omega|simp only[go_sem]) only[go_sem,true_and,f1,f64,f66,g',c5,s5,p1',p4,n3,n4,n5,n6,n2,hm,hw1]
   exact good rfl rfl rfl (vy f1) (vy f64) (vy f65) vz hb
  ·obtain rfl:i=xs.length:=by omega
   rw[List.take_length]at hn
   rw[hn]at hT
   refine hX _ _ (by simp) ?_
   simp -implicitDefEqProofs (disch:=first|omega|simp only[go_sem]) only[go_sem,true_and]
   exact ⟨_,rfl,by rw[hT];rfl,(hE.trans hE1).trans hEK⟩
theorem H6b {h:DHeap} {b:Value} {l:List Int} (hb:Arg fI64.rep h b l) (hl:l.length≤4294967296):DC Tryz.prog 63 [b] h (.ret (P3a h b l)) (M2a fI64 h b l):=by
 refine Ct.cloned hb (I3d (by simp) ?_)
 simp -implicitDefEqProofs (disch:=first|omega|simp only[go_sem]) only[go_sem,c63,hb.nilEq H7a]
 refine B3a (fun hn=>?_) (fun hn=>?_)
 ·simp -implicitDefEqProofs (disch:=first|omega|simp only[go_sem]) only[go_sem]
  obtain ⟨_,rfl⟩:=a3a hb hn
  exact ⟨_,rfl,_,rfl,.nil _ (.refl h),hn.symm⟩
 ·have m0:Made fI64 h (h.push (.row [] 1 false)) (.slice (some ⟨h.next,0,none⟩) 0 0) []:=.none0 fI64 (.refl h) rfl
  obtain ⟨v2,h2,e2,m2,k2⟩:=m0.append z2b (hb.ext (Ext.push1 _ _)) (by simpa using hl) (by decide)
  simp -implicitDefEqProofs (disch:=first|omega|simp only[go_sem]) only[go_sem,e2]
  exact ⟨_,rfl,_,rfl,m2,(m0.isNil_append rfl m2 fun hk=>(k2 hk).1).trans hn.symm⟩
theorem I6b {h:DHeap} {b:Value} {l:List Key} (hb:Arg fKey.rep h b l) (hl:l.length≤4294967296):DC Tryz.prog 137 [b] h (.ret (P3a h b l)) (M2a fKey h b l):=by
 refine Ct.cloned hb (h1d (by simp) ?_)
 simp -implicitDefEqProofs (disch:=first|omega|simp only[go_sem]) only[go_sem,M9c,hb.nilEq m3a]
 refine B3a (fun hn=>?_) (fun hn=>?_)
 ·simp -implicitDefEqProofs (disch:=first|omega|simp only[go_sem]) only[go_sem]
  obtain ⟨_,rfl⟩:=a3a hb hn
  exact ⟨_,rfl,_,rfl,.nil _ (.refl h),hn.symm⟩
 ·have m0:Made fKey h (h.push (.row [] 2 false)) (.slice (some ⟨h.next,0,none⟩) 0 0) []:=.none0 fKey (.refl h) rfl
  obtain ⟨v2,h2,e2,m2,k2⟩:=m0.append A2b (hb.ext (Ext.push1 _ _)) (by simpa using hl) (by decide)
  simp -implicitDefEqProofs (disch:=first|omega|simp only[go_sem]) only[go_sem,e2]
  exact ⟨_,rfl,_,rfl,m2,(m0.isNil_append rfl m2 fun hk=>(k2 hk).1).trans hn.symm⟩
structure TxV (S:Nat→Prop) (h:DHeap) (t:Txn) (vc va vr vw:Value):Prop where
 c:Sl fU8.rep S h vc t.code
 a:Sl fI64.rep S h va t.args
 r:Sl fKey.rep S h vr t.reads
 w:Sl fKey.rep S h vw t.writes
theorem TxV.mono {S S':Nat→Prop} {h h':DHeap} {t:Txn} {vc va vr vw:Value} (x:TxV S h t vc va vr vw) (m:∀ i,S i→S' i∧h'.get i=h.get i):TxV S' h' t vc va vr vw:=
 ⟨x.c.mono m,x.a.mono m,x.r.mono m,x.w.mono m⟩
structure y6a (t:Txn):Prop where
 c:t.code.length≤1048576
 a:t.args.length≤1048576
 r:t.reads.length≤1048576
 w:t.writes.length≤1048576
abbrev InH (h:DHeap):Nat→Prop:=fun i=>i<h.next
abbrev u6a (h h1:DHeap):Nat→Prop:=fun i=>h.next≤i∧i<h1.next
theorem TxV.ext {h h1:DHeap} {t:Txn} {vc va vr vw:Value} (x:TxV (InH h) h t vc va vr vw) (e:Ext h h1):TxV (InH h1) h1 t vc va vr vw:=
 x.mono fun i hi=>⟨Nat.lt_of_lt_of_le hi e.next,e.get i hi⟩
theorem TxV.one {S:Nat→Prop} {h:DHeap} {t:Txn} {vc va vr vw:Value} (x:TxV S h t vc va vr vw) (a b:Int):[.int .i64 a,.int .i64 b,vc,va,vr,vw].all Value.oneCell'=true:=by
 obtain ⟨_,_,rfl⟩:=x.c.isSlice
 obtain ⟨_,_,rfl⟩:=x.a.isSlice
 obtain ⟨_,_,rfl⟩:=x.r.isSlice
 obtain ⟨_,_,rfl⟩:=x.w.isSlice
 rfl
theorem V7b {K:DHeap} {id o z:Nat} {R R':List Value} {v:Value} (hv:v.cells=#[v]) (hone:[v].all Value.oneCell'=true) (ho:o+1≤R.length) (hR:R.set o v=R') (g:K.get id=some (.row R z false)):storeAt K id o [v]=some (K.set id (.row R' z false)):=by
 subst hR
 exact b0a g ho hone
theorem C1d {α:Type} {R:Rep α} {S:Nat→Prop} {h:DHeap} {v:Value} {l:List α} (x:Sl R S h v l):[v].all Value.oneCell'=true:=by obtain ⟨_,_,rfl⟩:=x.isSlice;rfl
def Wrt (h:DHeap) (i:Nat):Prop:=∃ cs z,h.get i=some (.row cs z false)
theorem T6a {α:Type} {R:Rep α} {S S':Nat→Prop} {h h':DHeap} {v:Value} {l:List α} (x:Sl R (fun i=>S i∧Wrt h i) h v l) (m:∀ i,S i→S' i∧h'.get i=h.get i):Sl R (fun i=>S' i∧Wrt h' i) h' v l:=
 x.mono fun i hi=>by
  obtain ⟨a,b⟩:=m i hi.1
  obtain ⟨cs,z,g⟩:=hi.2
  exact ⟨⟨a,cs,z,b.trans g⟩,b⟩
def TxW (S:Nat→Prop) (h:DHeap) (t:Txn) (vc va vr vw:Value):Prop:=TxV (fun i=>S i∧Wrt h i) h t vc va vr vw
theorem TxW.v {S:Nat→Prop} {h:DHeap} {t:Txn} {vc va vr vw:Value} (x:TxW S h t vc va vr vw):TxV S h t vc va vr vw:=TxV.mono x fun _ hi=>⟨hi.1,rfl⟩
theorem TxW.mono {S S':Nat→Prop} {h h':DHeap} {t:Txn} {vc va vr vw:Value} (x:TxW S h t vc va vr vw) (m:∀ i,S i→S' i∧h'.get i=h.get i):TxW S' h' t vc va vr vw:=
 ⟨T6a x.c m,T6a x.a m,T6a x.r m,T6a x.w m⟩
theorem Q9b {P:Program} {t:TypeId} {s:ByteArray} (ht:P.underlying t=some .string) (hs:s[0]? = some 0):z4a P t (.string s) (.int .u8 (IntKind.u8.wrap 0))=some (.int .u8 0):=by
 rw[show IntKind.u8.wrap 0=0 by decide]
 unfold z4a
 rw[ht]
 simp only[Int.le_refl,if_true,Int.toNat_zero,hs]
 rfl
theorem J7c {h:DHeap}:DC Tryz.prog 131 [.int .u64 0] h (.ret (.int .i64 0)) h:=by
 refine Ct.pure (a1d (by simp) ?_) (T0a _ _)
 simp -implicitDefEqProofs (disch:=first|omega|simp only[go_sem]) only[go_sem,true_and,I9c]
 rw[Q9b (by kernel_rfl) (by kernel_rfl)]
 simp -implicitDefEqProofs (disch:=first|omega|simp only[go_sem]) only[go_sem,true_and]
 exact ⟨_,rfl,congrArg (fun z=>DEnd.ret (Value.int IntKind.i64 z)) (by decide),.refl _⟩
theorem r4d {h:DHeap}:DC Tryz.prog 95 [.int .u64 0] h (.ret (.int .i64 0)) h:=by
 refine Ct.pure (U3d (by simp) ?_) (T0a _ _)
 simp -implicitDefEqProofs (disch:=first|omega|simp only[go_sem]) only[go_sem,true_and,c95]
 refine YX J7c ?_
 simp -implicitDefEqProofs (disch:=first|omega|simp only[go_sem]) only[go_sem,true_and]
 exact ⟨_,rfl,rfl,.refl _⟩
theorem V4b {h:DHeap} {v:Value} {g:Value}:Ct Tryz.prog 139 [v,.int .i64 0,.int .i64 0,g] h fun r h1=>r=.ret (.tuple #[])∧h1=h:=by
 refine i1d (by simp) ?_
 simp -implicitDefEqProofs (disch:=first|omega|simp only[go_sem]) only[go_sem,true_and,N9c]
 refine A0a (σ:=Nat) (by kernel_rfl) (fun j s=>s.df=[]∧s.h=h∧s.fr 2=some (.int .i64 0)∧s.fr 8=some (.int .i64 1)) (fun j=>0) 0 ?_ ?_
 ·simp -implicitDefEqProofs (disch:=first|omega|simp only[go_sem]) only[go_sem,true_and]
  exact congrArg some (congrArg (Value.int IntKind.i64) (by decide))
 ·rintro i ⟨fr,df,K,rd⟩ K' hK' hX ⟨rfl,rfl,f2,f8⟩
  simp only at f2 f8
  simp -implicitDefEqProofs (disch:=first|omega|simp only[go_sem]) only[go_sem,true_and,f2,f8]
  refine hX _ _ (by simp) ?_
  simp -implicitDefEqProofs (disch:=first|omega|simp only[go_sem]) only[go_sem,true_and]
  exact ⟨_,rfl,rfl,trivial⟩
theorem w4d {h:DHeap} {v g x:Value}:Ct Tryz.prog 113 [v,.int .i64 0,.int .i64 0,x,g] h fun r h1=>r=.ret (.tuple #[])∧h1=h:=by
 refine X0d (by simp) ?_
 have e0:IntKind.i64.wrap (0 - 0)=0:=by decide
 simp -implicitDefEqProofs (disch:=first|omega|simp only[go_sem]) only[go_sem,true_and,F9c]
 refine A0a (σ:=Nat) (by kernel_rfl) (fun j s=>s.df=[]∧s.rd=none∧s.h=h∧s.fr 0=some v∧s.fr 1=some (.int .i64 0)∧s.fr 2=some (.int .i64 0)∧s.fr 4=some g) (fun j=>0) 0 ?_ ?_
 ·simp -implicitDefEqProofs (disch:=first|omega|simp only[go_sem]) only[go_sem,true_and]
 ·rintro i ⟨fr,df,K,rd⟩ K' hK' hX ⟨rfl,rfl,rfl,f0,f1,f2,f4⟩
  simp only at f0 f1 f2 f4
  simp -implicitDefEqProofs (disch:=first|omega|simp only[go_sem]) only[go_sem,true_and,f0,f1,f2,f4,e0]
  refine YW V4b ?_
  rintro r h1 ⟨rfl,rfl⟩
  simp -implicitDefEqProofs (disch:=first|omega|simp only[go_sem]) only[go_sem,true_and,Xk]
  refine hX _ _ (by simp) ?_
  simp -implicitDefEqProofs (disch:=first|omega|simp only[go_sem]) only[go_sem,true_and]
  exact ⟨_,rfl,rfl,trivial⟩
theorem d1c {h:DHeap} {v:Value} {g:Value} (hb:Arg fKey.rep h v []):Ct Tryz.prog 75 [v,g] h fun r h1=>r=.ret (.tuple #[])∧h1=h:=by
 refine Q3d (by simp) ?_
 have el:∀ K,dLen Tryz.prog #[24] v K=some (.int .i64 ((([]:List Key).length:Nat):Int)):=hb.lens (P:=Tryz.prog) (ts:=#[24]) (t:=24) rfl m3a
 have e0:IntKind.u64.wrap ((0:Nat):Int)=0:=by decide
 simp -implicitDefEqProofs (disch:=first|omega|simp only[go_sem]) only[go_sem,true_and,c75,el,List.length_nil,e0]
 refine YX r4d ?_
 simp -implicitDefEqProofs (disch:=first|omega|simp only[go_sem]) only[go_sem,true_and]
 refine YW w4d ?_
 rintro r h1 ⟨rfl,rfl⟩
 simp -implicitDefEqProofs (disch:=first|omega|simp only[go_sem]) only[go_sem,true_and,Xk]
 exact ⟨_,rfl,rfl,trivial⟩
theorem Q3b:Lays Tryz.prog 24 (rSl fKey.rep) (t2a fun _=>2):=.slice (e:=31) (by kernel_rfl) (by kernel_rfl) (by decide) a6b
def c8a (x:Txn):Nat:=2+(t2a (fun _=>1) x.code+(t2a (fun _=>1) x.args+(t2a (fun _=>2) x.reads+t2a (fun _=>2) x.writes)))
abbrev r5d:List (Nat × Nat):=[(2,0),(2,1),(22,2),(23,3),(24,4),(24,5)]
theorem I7c:Lays Tryz.prog 26 rTxn c8a:=
 (Lays.of (l:=r5d) (by kernel_rfl) (by kernel_rfl) (.cons m6a (.cons m6a (.cons m0c (.cons l3c (.cons Q3b (.one Q3b))))))).conv (Q:=rTxn) rfl (fun x=>⟨x.1,x.2.1,x.2.2.1,x.2.2.2.1,x.2.2.2.2.1,x.2.2.2.2.2⟩) (fun _ _ _ _ h=>h)
   (fun x=>by simp only[c8a];omega)
theorem n2d {S:Nat→Prop} {h:DHeap} {cs:List Value} {x:Txn} (a:rTxn.rd S h cs x):∃ vc va vr vw,cs=[.int .i64 x.ses,.int .i64 x.req,vc,va,vr,vw]∧inK .i64 x.ses∧inK .i64 x.req∧TxV S h x vc va vr vw:=by
 obtain ⟨_,_,rfl,⟨rfl,k1⟩,_,_,rfl,⟨rfl,k2⟩,_,_,rfl,⟨vc,rfl,h1⟩,_,_,rfl,⟨va,rfl,h2⟩,_,_,rfl,⟨vr,rfl,h3⟩,vw,rfl,h4⟩:=a
 exact ⟨vc,va,vr,vw,rfl,k1,k2,h1,h2,h3,h4⟩
end Go.Proofs.YtheamfnbfgiaeaaGreat
namespace Go.D
variable {P:Program} {nt:Nat}
structure KeyOf (P:Program) (kt:TypeId) {κ:Type} (enc:κ→Value):Prop where
 flat:∀ k,Yj (enc k)=true
 inj:∀ a b,enc a=enc b→a=b
 chk:∀ (b:Bool) k,∃ u,ZU P (Instr.checkKey b 10000 kt (enc k))=some (.inr u)
 bits:∀ k,Instr.sameBits 10000 (enc k) (enc k)=true
 find:∀ k (es:List MapEntry),(∀ e∈es,∃ a,e.key=enc a)→∃ r,H1a P kt (enc k) es=some r∧(∀ i,r=some i→∃ e,es[i]? = some e∧e.key=enc k)∧(r=none→∀ e∈es,e.key≠enc k)
theorem D7a {k:IntKind} {n:Int}:∀ {es:List MapEntry} {i:Nat},(∀ e∈es,∃ m,e.key=.int k m) →
 (∃ j v,Instr.findNow (.int k) (.int k n) es i=some (some (j,v))∧i≤j∧∃ e,es[j - i]? = some e∧e.key=.int k n)∨(Instr.findNow (.int k) (.int k n) es i=some none∧∀ e∈es,e.key≠.int k n)
 | [],i,_=>.inr ⟨rfl,fun e he=>by simp at he⟩
 | e :: es,i,h=>by
   obtain ⟨m,h1⟩:=h e (by simp)
   have ih:=D7a (k:=k) (n:=n) (es:=es) (i:=i+1) fun e he=>h e (by simp[he])
   simp only[Instr.findNow,h1,Instr.sameNow,if_true]
   by_cases hm:n=m
   ·subst hm
    refine .inl ⟨i,e.val,by simp,Nat.le_refl _,e,by simp,h1⟩
   ·have:(n==m)=false:=by simpa using hm
    rw[this]
    rcases ih with ⟨j,v,a,b,e',c,d⟩ | ⟨a,b⟩
    ·exact .inl ⟨j,v,a,by omega,e',by rw[show j - i=(j - (i+1))+1 by omega];exact c,d⟩
    ·refine .inr ⟨a,fun e' he=>?_⟩
     rcases List.mem_cons.1 he with rfl | he
     ·rw[h1]
      intro hh
      cases hh
      exact hm rfl
     ·exact b e' he
theorem KeyOf.int {kt:TypeId} {k:IntKind} (hu:P.underlying kt=some (.int k)):KeyOf P kt (fun n:Int=>Value.int k n) where
 flat _:=rfl
 inj a b h:=by cases h;rfl
 chk b n:=i5a hu b n
 bits n:=V7a 9999
 find n es h:=by
  unfold H1a
  rw[hu]
  rcases D7a (n:=n) (i:=0) h with ⟨j,v,a,_,e,c,d⟩ | ⟨a,b⟩
  ·exact ⟨some j,by simp only[a];rfl,fun i hi=>(by cases hi;exact ⟨e,c,d⟩),fun h=>by cases h⟩
  ·exact ⟨none,by simp only[a];rfl,fun i hi=>(by cases hi),fun _=>b⟩
theorem Z0b {kt:TypeId} {κ:Type} [DecidableEq κ] {enc:κ→Value} (heq:∀ a b,ZU P (Op.equal kt (enc a) (enc b))=some (.inr (decide (a=b)))) (inj:∀ a b,enc a=enc b→a=b) {k:κ}:∀ {es:List MapEntry} {i:Nat},(∀ e∈es,∃ a,e.key=enc a) →
 (∃ j,l5a P kt (enc k) es i=some (some j)∧i≤j∧∃ e,es[j - i]? = some e∧e.key=enc k)∨(l5a P kt (enc k) es i=some none∧∀ e∈es,e.key≠enc k)
 | [],i,_=>.inr ⟨rfl,fun e he=>by simp at he⟩
 | e :: es,i,h=>by
   obtain ⟨m,h1⟩:=h e (by simp)
   have ih:=Z0b heq inj (k:=k) (es:=es) (i:=i+1) fun e he=>h e (by simp[he])
   unfold l5a
   rw[h1,heq]
   by_cases hm:k=m
   ·subst hm
    rw[decide_eq_true rfl]
    exact .inl ⟨i,rfl,Nat.le_refl _,e,by simp,h1⟩
   ·rw[decide_eq_false hm]
    rcases ih with ⟨j,a,b,e',c,d⟩ | ⟨a,b⟩
    ·exact .inl ⟨j,a,by omega,e',by rw[show j - i=(j - (i+1))+1 by omega];exact c,d⟩
    ·refine .inr ⟨a,fun e' he=>?_⟩
     rcases List.mem_cons.1 he with rfl | he
     ·rw[h1]
      exact fun hh=>hm (inj _ _ hh).symm
     ·exact b e' he
theorem KeyOf.eq {kt:TypeId} {κ:Type} [DecidableEq κ] {enc:κ→Value} {d:TypeDesc} (hu:P.underlying kt=some d) (flat:∀ k,Yj (enc k)=true) (inj:∀ a b,enc a=enc b→a=b) (chk:∀ (b:Bool) k,∃ u,ZU P (Instr.checkKey b 10000 kt (enc k))=some (.inr u)) (bits:∀ k,Instr.sameBits 10000 (enc k) (enc k)=true)
 (hnow:∀ a b,Instr.sameNow d (enc a) (enc b)=none) (heq:∀ a b,ZU P (Op.equal kt (enc a) (enc b))=some (.inr (decide (a=b)))):KeyOf P kt enc where
 flat:=flat
 inj:=inj
 chk:=chk
 bits:=bits
 find k es h:=by
  unfold H1a
  rw[hu]
  cases es with
  | nil=>exact ⟨none,rfl,fun i hi=>(by cases hi),fun _ e he=>by cases he⟩
  | cons e es=>
    obtain ⟨m,h1⟩:=h e (by simp)
    have:Instr.findNow d (enc k) (e :: es) 0=none:=by simp only[Instr.findNow,h1,hnow]
    simp only[this]
    rcases Z0b heq inj (k:=k) (i:=0) h with ⟨j,a,_,e',c,q⟩ | ⟨a,b⟩
    ·exact ⟨some j,a,fun i hi=>(by cases hi;exact ⟨e',c,q⟩),fun h=>by cases h⟩
    ·exact ⟨none,a,fun i hi=>(by cases hi),fun _=>b⟩
section
variable {κ:Type} [DecidableEq κ]
def Ww (m:List (κ × Value)) (k:κ):Option Value:=(m.find? fun p=>p.1=k).map (·.2)
def X0a (m:List (κ × Value)) (k:κ) (v:Value):List (κ × Value):=if k∈m.map (·.1) then m.map (fun p=>if p.1=k then (k,v) else p) else m++[(k,v)]
theorem I7a {m:List (κ × Value)} {k:κ}:Ww m k=none↔k∉m.map (·.1):=by
 unfold Ww
 rw[Option.map_eq_none_iff,List.find?_eq_none]
 constructor
 ·intro h hm
  obtain ⟨p,hp,e⟩:=List.mem_map.1 hm
  exact h p hp (by simpa using e)
 ·intro h p hp e
  exact h (List.mem_map.2 ⟨p,hp,by simpa using e⟩)
theorem p2a {m:List (κ × Value)} (hn:(m.map (·.1)).Nodup) {k:κ} {v:Value}:Ww m k=some v↔(k,v)∈m:=by
 induction m with
 | nil=>simp[Ww]
 | cons p m ih=>
   obtain ⟨k0,v0⟩:=p
   simp only[List.map_cons,List.nodup_cons]at hn
   unfold Ww at ih ⊢
   by_cases h:k0=k
   ·subst h
    rw[List.find?_cons_of_pos (by simp)]
    simp only[Option.map_some,Option.some.injEq,List.mem_cons,Prod.mk.injEq,true_and]
    constructor
    ·rintro rfl;exact .inl rfl
    ·rintro (rfl | hm)
     ·rfl
     ·exact absurd (List.mem_map.2 ⟨_,hm,rfl⟩) hn.1
   ·rw[List.find?_cons_of_neg (by simpa using h),ih hn.2]
    simp only[List.mem_cons,Prod.mk.injEq]
    constructor
    ·exact .inr
    ·rintro (⟨rfl,_⟩ | hm)
     ·exact absurd rfl h
     ·exact hm
theorem K7a {m:List (κ × Value)} {k:κ} {v:Value}:(X0a m k v).map (·.1)=if k∈m.map (·.1) then m.map (·.1) else m.map (·.1)++[k]:=by
 unfold X0a
 split
 ·rw[List.map_map]
  refine List.map_congr_left fun p _=>?_
  show (if p.1=k then (k,v) else p).1=p.1
  split
  ·rename_i h;exact h.symm
  ·rfl
 ·simp
theorem P1a {m:List (κ × Value)} {k:κ} {v:Value} (hn:(m.map (·.1)).Nodup):((X0a m k v).map (·.1)).Nodup:=by
 rw[K7a]
 split
 ·exact hn
 ·rename_i h
  refine List.nodup_append.2 ⟨hn,by simp,fun a ha b hb=>?_⟩
  simp only[List.mem_singleton]at hb
  subst hb
  exact fun e=>h (e▸ha)
theorem I3a {m:List (κ × Value)} {k k':κ} {v:Value} (hn:(m.map (·.1)).Nodup):Ww (X0a m k v) k'=if k'=k then some v else Ww m k':=by
 have hn':=P1a (k:=k) (v:=v) hn
 have key:∀ u,Ww (X0a m k v) k'=some u↔(if k'=k then some v else Ww m k')=some u:=fun u=>by
  rw[p2a hn']
  unfold X0a
  split
  ·rename_i hk
   rw[List.mem_map]
   constructor
   ·rintro ⟨p,hp,he⟩
    split at he
    ·cases he
     rw[if_pos rfl]
    ·rename_i hne
     subst he
     rw[if_neg hne]
     exact (p2a hn).2 hp
   ·intro he
    split at he
    ·rename_i hkk
     cases he
     obtain ⟨p,hp,hpk⟩:=List.mem_map.1 hk
     exact ⟨p,hp,by rw[if_pos hpk,hkk]⟩
    ·rename_i hne
     exact ⟨(k',u),(p2a hn).1 he,by rw[if_neg hne]⟩
  ·rename_i hk
   rw[List.mem_append,List.mem_singleton]
   constructor
   ·rintro (hp | hp)
    ·have:k'≠k:=fun e=>hk (e▸List.mem_map.2 ⟨_,hp,rfl⟩)
     rw[if_neg this]
     exact (p2a hn).2 hp
    ·cases hp
     rw[if_pos rfl]
   ·intro he
    split at he
    ·rename_i hkk
     cases he
     exact .inr (by rw[hkk])
    ·exact .inl ((p2a hn).1 he)
 cases h1:(if k'=k then some v else Ww m k') with
 | some u=>exact (key u).2 h1
 | none=>
   cases h2:Ww (X0a m k v) k' with
   | none=>rfl
   | some u=>
     have:=(key u).1 h2
     rw[h1]at this
     cases this
end
def MapAt {κ:Type} (enc:κ→Value) (h:DHeap) (id:Nat) (m:List (κ × Value)):Prop:=
 ∃ es c,h.get id=some (.map es c)∧es.map (fun e=>(e.key,e.val))=m.map (fun p=>(enc p.1,p.2))∧(m.map (·.1)).Nodup∧(es.map (·.born)).Nodup∧∀ e∈es,e.born<c
theorem MapAt.keep {κ:Type} {enc:κ→Value} {h h':DHeap} {id:Nat} {m:List (κ × Value)} (a:MapAt enc h id m) (hg:h'.get id=h.get id):MapAt enc h' id m:=by
 obtain ⟨es,c,g,r⟩:=a
 exact ⟨es,c,hg.trans g,r⟩
theorem MapAt.new {κ:Type} {enc:κ→Value} {h:DHeap}:MapAt enc (h.push (.map [] 0)) h.next []:=
 ⟨[],0,Zz _ _,rfl,by simp,by simp,fun e he=>by cases he⟩
structure l7a (P:Program) (t:TypeId) {κ:Type} (enc:κ→Value) (z:Value):Prop where
 map:∃ kt et,P.underlying t=some (.map kt et)∧KeyOf P kt enc∧Y7a P et=some z
theorem MapAt.es_key {κ:Type} {enc:κ→Value} {m:List (κ × Value)} {es:List MapEntry} (hm:es.map (fun e=>(e.key,e.val))=m.map (fun p=>(enc p.1,p.2))) {i:Nat} {e:MapEntry} (he:es[i]? = some e):∃ p,m[i]? = some p∧e.key=enc p.1∧e.val=p.2:=by
 have:=congrArg (fun l=>l[i]?) hm
 simp only[List.getElem?_map,he,Option.map_some]at this
 cases hp:m[i]? with
 | none=>rw[hp]at this;cases this
 | some p=>
   rw[hp]at this
   simp only[Option.map_some,Option.some.injEq,Prod.mk.injEq]at this
   exact ⟨p,rfl,this.1,this.2⟩
theorem MapAt.found {κ:Type} [DecidableEq κ] {enc:κ→Value} {kt:TypeId} {m:List (κ × Value)} {es:List MapEntry} (K:KeyOf P kt enc) (hm:es.map (fun e=>(e.key,e.val))=m.map (fun p=>(enc p.1,p.2))) (hn:(m.map (·.1)).Nodup) (k:κ) :
 (∃ i e v,H1a P kt (enc k) es=some (some i)∧es[i]? = some e∧m[i]? = some (k,v)∧e.key=enc k∧e.val=v∧Ww m k=some v)∨(H1a P kt (enc k) es=some none∧k∉m.map (·.1)):=by
 have hk:∀ e∈es,∃ a,e.key=enc a:=fun e he=>by
  obtain ⟨i,hi⟩:=List.getElem?_of_mem he
  obtain ⟨p,_,h2,_⟩:=MapAt.es_key hm hi
  exact ⟨_,h2⟩
 obtain ⟨r,h1,h2,h3⟩:=K.find k es hk
 cases r with
 | some i=>
   obtain ⟨e,a,b⟩:=h2 i rfl
   obtain ⟨p,c,d,e'⟩:=MapAt.es_key hm a
   have:p.1=k:=K.inj _ _ (d.symm.trans b)
   refine .inl ⟨i,e,p.2,h1,a,by rw[← this];exact c,b,e',(p2a hn).2 ?_⟩
   rw[← this]
   exact List.mem_of_getElem? c
 | none=>
   refine .inr ⟨h1,fun hm2=>?_⟩
   obtain ⟨p,hp,hpk⟩:=List.mem_map.1 hm2
   obtain ⟨i,hi⟩:=List.getElem?_of_mem hp
   have:=congrArg (fun l=>l[i]?) hm
   simp only[List.getElem?_map,hi,Option.map_some]at this
   cases he:es[i]? with
   | none=>rw[he]at this;cases this
   | some e=>
     rw[he]at this
     simp only[Option.map_some,Option.some.injEq,Prod.mk.injEq]at this
     exact h3 rfl e (List.mem_of_getElem? he) (by rw[this.1,hpk])
theorem MapAt.lookup {κ:Type} [DecidableEq κ] {enc:κ→Value} {z:Value} {t:TypeId} {h:DHeap} {id:Nat} {m:List (κ × Value)} (T:l7a P t enc z) (a:MapAt enc h id m) (k:κ) (ok:Bool) :
 Q0a P t (.map (some id)) (enc k) ok h=some (if ok then .tuple #[(Ww m k).getD z,.bool (Ww m k).isSome] else (Ww m k).getD z):=by
 obtain ⟨kt,et,hu,K,hz⟩:=T.map
 obtain ⟨es,c,g,hm,hn,_,_⟩:=a
 obtain ⟨u,hc⟩:=K.chk es.isEmpty k
 unfold Q0a
 simp only[hu,j6a,g,K.flat k,if_true,hc]
 rcases MapAt.found K hm hn k with ⟨i,e,v,h1,h2,h3,h4,h5,h6⟩ | ⟨h1,h2⟩
 ·simp only[h1,h2,h6,h5,Option.getD_some,Option.isSome_some]
 ·simp only[h1,hz,I7a.2 h2,Option.getD_none,Option.isSome_none]
theorem MapAt.update {κ:Type} [DecidableEq κ] {enc:κ→Value} {z:Value} {t:TypeId} {h:DHeap} {id:Nat} {m:List (κ × Value)} (T:l7a P t enc z) (a:MapAt enc h id m) (k:κ) (v:Value) :
 ∃ o,F0a P t (.map (some id)) (enc k) v h=some (h.set id o)∧MapAt enc (h.set id o) id (X0a m k v):=by
 obtain ⟨kt,et,hu,K,hz⟩:=T.map
 obtain ⟨es,c,g,hm,hn,hb,hlt⟩:=a
 obtain ⟨u,hc⟩:=K.chk false k
 unfold F0a
 simp only[hu,g,K.flat k,if_true,hc]
 rcases MapAt.found K hm hn k with ⟨i,e,v0,h1,h2,h3,h4,h5,h6⟩ | ⟨h1,h2⟩
 ·have hbits:Instr.sameBits 10000 e.key (enc k)=true:=by rw[h4];exact K.bits k
  simp only[h1,h2,hbits,if_true]
  refine ⟨_,rfl,_,_,Zj _ _,?_,P1a hn,?_,?_⟩
  ·have hk:k∈m.map (·.1):=List.mem_map.2 ⟨_,List.mem_of_getElem? h3,rfl⟩
   rw[X0a,if_pos hk,List.map_set,hm]
   refine List.ext_getElem? fun j=>?_
   rw[List.getElem?_set,List.getElem?_map,List.getElem?_map,List.getElem?_map]
   by_cases hj:i=j
   ·subst hj
    have hlen:i<(m.map fun p=>(enc p.1,p.2)).length:=by simpa using (List.getElem?_eq_some_iff.1 h3).1
    rw[if_pos rfl,if_pos hlen,h3]
    simp
   ·rw[if_neg hj]
    cases hp:m[j]? with
    | none=>rfl
    | some p=>
      have:p.1≠k:=fun e=>by
       have q1:(m.map (·.1))[j]? = some k:=by rw[List.getElem?_map,hp];simp[e]
       have q2:(m.map (·.1))[i]? = some k:=by rw[List.getElem?_map,h3];rfl
       have hil:=(List.getElem?_eq_some_iff.1 q2).1
       exact hj ((List.getElem?_inj hil hn).1 (q2.trans q1.symm))
      simp[this]
  ·have:(es.set i { e with key:=enc k,val:=v }).map (·.born)=es.map (·.born):=by
    rw[List.map_set]
    refine List.ext_getElem? fun j=>?_
    rw[List.getElem?_set]
    split
    ·rename_i hj
     subst hj
     rw[List.getElem?_map,h2,List.length_map,if_pos (List.getElem?_eq_some_iff.1 h2).1]
     rfl
    ·rfl
   rw[this]
   exact hb
  ·intro e' he'
   rcases List.mem_or_eq_of_mem_set he' with he' | rfl
   ·exact hlt e' he'
   ·exact hlt e (List.mem_of_getElem? h2)
 ·simp only[h1]
  refine ⟨_,rfl,_,_,Zj _ _,?_,P1a hn,?_,?_⟩
  ·rw[X0a,if_neg h2,List.map_append,List.map_append,hm]
   rfl
  ·rw[List.map_append]
   refine List.nodup_append.2 ⟨hb,by simp,fun x hx y hy=>?_⟩
   obtain ⟨e,he,rfl⟩:=List.mem_map.1 hx
   simp only[List.map_cons,List.map_nil,List.mem_singleton]at hy
   have:=hlt e he
   omega
  ·intro e he
   rcases List.mem_append.1 he with he | he
   ·have:=hlt e he
    omega
   ·simp only[List.mem_singleton]at he
    subst he
    exact Nat.lt_succ_self _
theorem X4a {α β:Type} {f:α→β}:∀ (l:List α) (i:Nat),(l.eraseIdx i).map f=(l.map f).eraseIdx i
 | [],_=>rfl
 | _ :: _,0=>rfl
 | a :: l,i+1=>by rw[List.eraseIdx_cons_succ,List.map_cons,List.map_cons,List.eraseIdx_cons_succ,X4a l i]
section
variable {κ:Type} [DecidableEq κ]
def Y5a (m:List (κ × Value)) (k:κ):List (κ × Value):=m.filter fun p=>!decide (p.1=k)
theorem K6a {m:List (κ × Value)} {k:κ} (hn:(m.map (·.1)).Nodup):((Y5a m k).map (·.1)).Nodup:=List.Sublist.nodup ((List.filter_sublist (l:=m)).map _) hn
theorem x0c {m:List (κ × Value)} {k k':κ}:Ww (Y5a m k) k'=if k'=k then none else Ww m k':=by
 unfold Ww Y5a
 rw[List.find?_filter]
 by_cases h:k'=k
 ·subst h
  rw[if_pos rfl,List.find?_eq_none.2 fun p _=>by simp]
  rfl
 ·rw[if_neg h]
  congr 2
  funext p
  by_cases hp:p.1=k'
  ·simp[hp,h]
  ·simp[hp]
theorem i7a {k:κ} {v:Value}:∀ {m:List (κ × Value)} {i:Nat},(m.map (·.1)).Nodup→m[i]? = some (k,v)→m.eraseIdx i=Y5a m k
 | [],i,_,h=>by simp at h
 | p :: m,0,hn,h=>by
   simp only[List.getElem?_cons_zero,Option.some.injEq]at h
   subst h
   simp only[List.map_cons,List.nodup_cons]at hn
   rw[List.eraseIdx_cons_zero,Y5a,List.filter_cons_of_neg (by simp),List.filter_eq_self.2]
   intro q hq
   have:q.1≠k:=fun e=>hn.1 (List.mem_map.2 ⟨q,hq,e⟩)
   simp[this]
 | p :: m,i+1,hn,h=>by
   simp only[List.getElem?_cons_succ]at h
   simp only[List.map_cons,List.nodup_cons]at hn
   have:p.1≠k:=fun e=>hn.1 (List.mem_map.2 ⟨_,List.mem_of_getElem? h,e.symm⟩)
   rw[List.eraseIdx_cons_succ,i7a hn.2 h,Y5a,Y5a,List.filter_cons_of_pos (by simp[this])]
end
theorem MapAt.delete {κ:Type} [DecidableEq κ] {enc:κ→Value} {z:Value} {t:TypeId} {ts:Array TypeId} {h:DHeap} {id:Nat} {m:List (κ × Value)} (T:l7a P t enc z) (hts:ts[0]? = some t) (a:MapAt enc h id m) (k:κ) :
 ∃ o,V2a P ts (.map (some id)) (enc k) h=some (.tuple #[],h.set id o)∧MapAt enc (h.set id o) id (Y5a m k):=by
 obtain ⟨kt,et,hu,K,hz⟩:=T.map
 obtain ⟨es,c,g,hm,hn,hb,hlt⟩:=a
 obtain ⟨u,hc⟩:=K.chk es.isEmpty k
 unfold V2a
 simp only[hts,hu,g,K.flat k,if_true,hc]
 rcases MapAt.found K hm hn k with ⟨i,e,v0,h1,h2,h3,h4,h5,h6⟩ | ⟨h1,h2⟩
 ·simp only[h1]
  refine ⟨_,rfl,_,_,Zj _ _,?_,K6a hn,?_,fun e' he'=>hlt e' (List.mem_of_mem_eraseIdx he')⟩
  ·rw[← i7a hn h3,X4a,X4a,hm]
  ·rw[X4a]
   exact List.Sublist.nodup (List.eraseIdx_sublist _ _) hb
 ·simp only[h1]
  refine ⟨_,rfl,_,_,Zj _ _,?_,K6a hn,hb,hlt⟩
  rw[hm,Y5a,List.filter_eq_self.2]
  intro q hq
  have:q.1≠k:=fun e=>h2 (List.mem_map.2 ⟨q,hq,e⟩)
  simp[this]
def RngAt {κ:Type} (enc:κ→Value) (h:DHeap) (r id:Nat) (m:List (κ × Value)) (dn:List κ):Prop:=
 ∃ es c seen,h.get id=some (.map es c)∧h.get r=some (.iter (some id) c seen c)∧es.map (fun e=>(e.key,e.val))=m.map (fun p=>(enc p.1,p.2))∧(m.map (·.1)).Nodup∧(es.map (·.born)).Nodup∧(∀ e∈es,e.born<c) ∧
  ∀ (i:Nat) e p,es[i]? = some e→m[i]? = some p→(e.born∈seen↔p.1∈dn)
theorem RngAt.keep {κ:Type} {enc:κ→Value} {h h':DHeap} {r id:Nat} {m:List (κ × Value)} {dn:List κ} (a:RngAt enc h r id m dn) (h1:h'.get id=h.get id) (h2:h'.get r=h.get r):RngAt enc h' r id m dn:=by
 obtain ⟨es,c,seen,g1,g2,q⟩:=a
 exact ⟨es,c,seen,h1.trans g1,h2.trans g2,q⟩
theorem RngAt.map {κ:Type} {enc:κ→Value} {h:DHeap} {r id:Nat} {m:List (κ × Value)} {dn:List κ} (a:RngAt enc h r id m dn):MapAt enc h id m:=by
 obtain ⟨es,c,seen,g1,g2,q1,q2,q3,q4,_⟩:=a
 exact ⟨es,c,g1,q1,q2,q3,q4⟩
theorem MapAt.range {κ:Type} {enc:κ→Value} {t:TypeId} {h:DHeap} {id:Nat} {m:List (κ × Value)} {kt et:TypeId} (hu:P.underlying t=some (.map kt et)) (a:MapAt enc h id m) (hid:id<h.next) :
 ∃ o,S3a P t (.map (some id)) h=some (.pointer (some ⟨h.next,0,none⟩),h.push o)∧RngAt enc (h.push o) h.next id m []:=by
 obtain ⟨es,c,g,q1,q2,q3,q4⟩:=a
 refine ⟨.iter (some id) c [] c,?_,es,c,[],(a0a _ _ hid).trans g,Zz _ _,q1,q2,q3,q4,fun i e p _ _=>by simp⟩
 unfold S3a
 simp only[hu,g]
theorem J9a {e:MapEntry}:∀ {es:List MapEntry},(es.map (·.born)).Nodup→e∈es→es.find? (fun x=>x.born==e.born)=some e
 | [],_,h=>by cases h
 | a :: es,hn,h=>by
   rw[List.find?_cons]
   rw[List.map_cons,List.nodup_cons]at hn
   rcases List.mem_cons.1 h with rfl | h
   ·simp
   ·have:(a.born==e.born)=false:=by
     simp only[beq_eq_false_iff_ne,ne_eq]
     exact fun hh=>hn.1 (hh▸List.mem_map.2 ⟨e,h,rfl⟩)
    rw[this]
    exact J9a hn.2 h
theorem RngAt.next {κ:Type} {enc:κ→Value} {h:DHeap} {r id:Nat} {m:List (κ × Value)} {dn:List κ} (hf:∀ k,Yj (enc k)=true) (hne:id≠r) (a:RngAt enc h r id m dn) :
 ∃ l,s4a (.pointer (some ⟨r,0,none⟩)) h=some (l,h.set r .dead)∧∀ p∈l,(p=(.tuple #[.bool false],h)∧∀ k∈m.map (·.1),k∈dn) ∨
  ∃ k v o,(k,v)∈m∧k∉dn∧p=(.tuple #[.bool true,enc k,v],h.set r o)∧k5a (.pointer (some ⟨r,0,none⟩)) (h.set r o)=some (.tuple #[enc k,v])∧RngAt enc (h.set r o) r id m (k :: dn):=by
 obtain ⟨es,c,seen,g1,g2,q1,q2,q3,q4,q5⟩:=a
 have hc1:(!seen.isEmpty&&!es.isEmpty&&es.all fun e=>decide (e.born ≥ c))=false:=by
  cases es with
  | nil=>simp
  | cons e es=>
    have:=q4 e (by simp)
    have h1:decide (e.born ≥ c)=false:=decide_eq_false (by omega)
    simp[h1]
 have hc2:(es.all fun e=>Yj e.key)=true:=List.all_eq_true.2 fun e he=>by
  obtain ⟨i,hi⟩:=List.getElem?_of_mem he
  obtain ⟨p,_,h2,_⟩:=MapAt.es_key q1 hi
  rw[h2]
  exact hf _
 unfold s4a
 simp only[g2,g1,hc1,hc2,Bool.not_true,Bool.or_false,Bool.false_eq_true,if_false]
 refine ⟨_,rfl,fun p hp=>?_⟩
 rcases List.mem_append.1 hp with hp | hp
 ·split at hp
  ·rename_i hemp
   simp only[List.mem_singleton]at hp
   refine .inl ⟨hp,fun k hk=>?_⟩
   obtain ⟨pr,hpm,rfl⟩:=List.mem_map.1 hk
   obtain ⟨i,hi⟩:=List.getElem?_of_mem hpm
   have:=congrArg (fun l=>l[i]?) q1
   simp only[List.getElem?_map,hi,Option.map_some]at this
   cases he:es[i]? with
   | none=>rw[he]at this;cases this
   | some e=>
     refine (q5 i e pr he hi).1 ?_
     cases hs:seen.contains e.born with
     | true=>exact List.contains_iff_mem.1 hs
     | false=>
       exfalso
       have hm:=List.mem_of_getElem? he
       have:e∈(es.filter fun e=>!seen.contains e.born).filter fun e=>decide (e.born<c):=by
        simp only[List.mem_filter,hs,Bool.not_false,decide_eq_true_eq,and_true]
        exact ⟨hm,q4 e hm⟩
       rw[List.isEmpty_iff.1 hemp]at this
       cases this
  ·cases hp
 ·obtain ⟨e,hem,rfl⟩:=List.mem_map.1 hp
  have he:e∈es∧seen.contains e.born=false:=by
   rcases List.mem_append.1 hem with h | h
   ·simp only[List.mem_filter,Bool.not_eq_true']at h
    exact h.1
   ·simp only[List.mem_filter,Bool.not_eq_true']at h
    exact h.1
  obtain ⟨i,hi⟩:=List.getElem?_of_mem he.1
  obtain ⟨pr,hpi,hk,hv⟩:=MapAt.es_key q1 hi
  have hns:e.born∉seen:=fun hh=>by rw[List.contains_iff_mem.2 hh]at he;cases he.2
  refine .inr ⟨pr.1,pr.2,.iter (some id) c (seen++[e.born]) c,List.mem_of_getElem? hpi,fun hd=>hns ((q5 i e pr hi hpi).2 hd),by rw[hk,hv],?_,es,c,seen++[e.born],(Zx _ _ hne).trans g1,Zj _ _,q1,q2,q3,q4,fun j e' p' hj hpj=>?_⟩
  ·have h1:(h.set r (.iter (some id) c (seen++[e.born]) c)).get r=some (.iter (some id) c (seen++[e.born]) c):=Zj _ _
   have h2:(h.set r (.iter (some id) c (seen++[e.born]) c)).get id=some (.map es c):=(Zx _ _ hne).trans g1
   have h3:(seen++[e.born]).getLast? = some e.born:=by simp
   unfold k5a
   simp only[h1,h2,h3,if_true,J9a q3 he.1,hk,hf,hv]
  rw[List.mem_append,List.mem_singleton,List.mem_cons,q5 j e' p' hj hpj]
  have hij:e'.born=e.born↔j=i:=by
   have a1:(es.map (·.born))[j]? = some e'.born:=by rw[List.getElem?_map,hj];rfl
   have a2:(es.map (·.born))[i]? = some e.born:=by rw[List.getElem?_map,hi];rfl
   constructor
   ·intro hh
    exact (List.getElem?_inj (List.getElem?_eq_some_iff.1 a1).1 q3).1 (by rw[a1,a2,hh])
   ·intro hh
    subst hh
    rw[hj]at hi
    cases hi
    rfl
  have hij2:p'.1=pr.1↔j=i:=by
   have a1:(m.map (·.1))[j]? = some p'.1:=by rw[List.getElem?_map,hpj];rfl
   have a2:(m.map (·.1))[i]? = some pr.1:=by rw[List.getElem?_map,hpi];rfl
   constructor
   ·intro hh
    exact (List.getElem?_inj (List.getElem?_eq_some_iff.1 a1).1 q2).1 (by rw[a1,a2,hh])
   ·intro hh
    subst hh
    rw[hpj]at hpi
    cases hpi
    rfl
  rw[hij,hij2]
  exact Or.comm
def C0b (P:Program) (t:TypeId) (h:DHeap):Option Value→DR
 | some v=>.ofp (S3a P t v h)
 | none=>.bad
def DR.ofk:Option (List (Value × DHeap) × DHeap)→DR
 | some (l,h')=>.ok (.pick l) h'
 | none=>.bad
def c3b (h:DHeap):Option Value→DR
 | some v=>DR.ofk (s4a v h)
 | none=>.bad
theorem q9b {ρ:Operand→Option Value} {h:DHeap} (dst:Option Tmp) (t:TypeId) (x:Operand) (ty:TypeId) (pos:String) (aft:Array Edge) (gd:Option (Nat × Bool)):dOp P ρ ⟨dst,.range t x,ty,pos,aft,gd⟩ h=C0b P t h (ρ x):=by
 unfold dOp C0b
 simp only
 cases ρ x <;> rfl
theorem E2c {ρ:Operand→Option Value} {h:DHeap} (dst:Option Tmp) (x:Operand) (ty:TypeId) (pos:String) (aft:Array Edge) (gd:Option (Nat × Bool)):dOp P ρ ⟨dst,.next x false,ty,pos,aft,gd⟩ h=c3b h (ρ x):=by
 unfold dOp c3b DR.ofk
 simp only
 cases ρ x with
 | none=>rfl
 | some v=>rfl
theorem j3b {t:TypeId} {h:DHeap} {v:Value}:C0b P t h (some v)=.ofp (S3a P t v h):=rfl
theorem L4b {h:DHeap} {v:Value}:c3b h (some v)=DR.ofk (s4a v h):=rfl
theorem F3c {l:List (Value × DHeap)} {h:DHeap}:DR.ofk (some (l,h))=.ok (.pick l) h:=rfl
theorem r1c (ops:Array Oper) (o:Oper) (rest:List Oper) (s:St) (Q:Zv→St→Prop) (l:List (Value × DHeap)) (h:DHeap):NNx P ops o rest s Q (.ok (.pick l) h)=∀ p∈l,Wz P ops rest ⟨s.fr.put o.dst p.1,s.df,p.2,s.rd⟩ Q:=rfl
def w0b (h:DHeap):Option Value→DR
 | some v=>.ofv h (k5a v h)
 | none=>.bad
theorem n9b {ρ:Operand→Option Value} {h:DHeap} (dst:Option Tmp) (x:Operand) (ty:TypeId) (pos:String) (aft:Array Edge) (gd:Option (Nat × Bool)):dOp P ρ ⟨dst,.entry x,ty,pos,aft,gd⟩ h=w0b h (ρ x):=by
 unfold dOp w0b
 simp only
 cases ρ x <;> rfl
theorem U2b {h:DHeap} {v:Value}:w0b h (some v)=.ofv h (k5a v h):=rfl
attribute [go_sem] n9b U2b q9b E2c j3b L4b F3c r1c
end Go.D
namespace Go.Proofs.YtheamfnbfgiaeaaGreat
open Go.D
set_option maxRecDepth 100000
theorem i3c (a b:Key) (h:ZZ a=ZZ b):a=b:=by
 cases a;cases b
 simp only[ZZ]at h
 simpa using h
theorem p8c:∃ d,Tryz.prog.underlying 31=some d∧∀ a b,Instr.sameNow d (ZZ a) (ZZ b)=none:=⟨_,rfl,fun _ _=>rfl⟩
theorem y6c (b:Bool) (k:Key):∃ u,ZU Tryz.prog (Instr.checkKey b 10000 31 (ZZ k))=some (.inr u):=⟨_,rfl⟩
theorem V1c (k:Key):Instr.sameBits 10000 (ZZ k) (ZZ k)=true:=by
 simp[Instr.sameBits,ZZ]
theorem x7b:KeyOf Tryz.prog 31 ZZ:=
 have ⟨_,hu,hn⟩:=p8c
 .eq hu (fun _=>rfl) i3c y6c V1c hn (P3b 9998)
theorem B1a {α:Type} [DecidableEq α]:∀ {a b:List α},a.Nodup→(∀ x∈a,x∈b)→a.length≤b.length
 | [],_,_,_=>Nat.zero_le _
 | x :: a,b,hn,hs=>by
   rw[List.nodup_cons]at hn
   have h1:=B1a (a:=a) (b:=b.erase x) hn.2 fun y hy=>(List.mem_erase_of_ne (fun (hh:y=x)=>hn.1 (hh▸hy))).2 (hs y (by simp[hy]))
   have h2:=List.length_erase_of_mem (hs x (by simp))
   have h3:=List.length_pos_of_mem (hs x (by simp))
   rw[List.length_cons]
   omega
structure But (r:Nat) (K K':DHeap):Prop where
 next:K.next≤K'.next
 ng:K'.ng=K.ng
 get:∀ j,j<K.next→j≠r→K'.get j=K.get j
theorem F1b:Tryz.prog.underlying 147=some (.map 31 2):=by kernel_rfl
def q7a (fk:FuncId):Prop:=∀ {h:DHeap} {c l p id:Nat} {D:m2a} {m:List (Key × Value)} (I:List Key→DHeap→Prop) (hp:D.params=#[p]) (hps:p<D.size) (hid:id<h.next) (hc:c<h.next) (hl:l<h.next) (h0:I [] h) (hI:∀ dn K,I dn K→K.get l=some (.loop D)∧K.get c=some (.row [.map (some id)] 0 false)∧MapAt ZZ K id m) (hE:∀ dn K K',I dn K→But h.next K K'→I dn K') (hR:∀ dn K k,I dn K→k∉dn→k∈m.map (·.1)→h.next<K.next→Rt Tryz.prog l D.size (E0a D.tmps [p] [ZZ k]) D.assign D.body K fun r H=>r=.ret (.bool true)∧I (k :: dn) H∧H.get id=K.get id∧H.get h.next=K.get h.next∧K.next≤H.next),Ct Tryz.prog fk [.func (.yield l) #[] #[],.pointer (some ⟨c,0,none⟩)] h fun r H=>(∃ v,r=.ret v)∧∃ dn,dn.Nodup∧(∀ k,k∈dn↔k∈m.map (·.1))∧I dn H
theorem o5b:q7a 155:=by
 intro h c l p id D m I hp hps hid hc hl h0 hI hE hR
 refine m1d (by simp) ?_
 obtain ⟨hl0,hc0,hm0⟩:=hI [] h h0
 have C0:Zq h c 0=some (.map (some id)):=Zy hc0
 obtain ⟨o,hr0,hr1⟩:=hm0.range F1b hid
 simp -implicitDefEqProofs (disch:=first|omega|simp only[go_sem]) only[go_sem,true_and,Q9c,C0,hr0]
 refine A0a (σ:=List Key) (by kernel_rfl) (fun dn s=>s.df=[]∧s.fr 0=some (.func (.yield l) #[] #[])∧s.fr 5=some (.pointer (some ⟨h.next,0,none⟩))∧h.next<s.h.next∧dn.Nodup∧(∀ k∈dn,k∈m.map (·.1))∧RngAt ZZ s.h h.next id m dn∧I dn s.h) (fun dn=>m.length - dn.length) [] ?_ ?_
 ·simp -implicitDefEqProofs (disch:=first|omega|simp only[go_sem]) only[go_sem,true_and]
  exact ⟨Nat.lt_succ_self _,.nil,fun k hk=>(by cases hk),hr1,hE _ _ _ h0 ⟨Nat.le_succ _,rfl,fun j hj _=>a0a _ _ hj⟩⟩
 ·rintro dn ⟨fr,df,hh,rd⟩ K' hK' hX ⟨rfl,f0,f5,hlt,hnd,hsub,hrng,hinv⟩
  simp only at f0 f5 hlt hrng hinv
  obtain ⟨L,hL,hall⟩:=hrng.next (fun _=>rfl) (by omega)
  simp -implicitDefEqProofs (disch:=first|omega|simp only[go_sem]) only[go_sem,true_and,f5,hL]
  intro pp hpp
  rcases hall pp hpp with ⟨rfl,hd⟩ | ⟨k,v,o2,hk,hnk,rfl,hent,hr2⟩
  ·simp -implicitDefEqProofs (disch:=first|omega|simp only[go_sem]) only[go_sem,true_and]
   refine hX _ _ (by simp) ?_
   simp -implicitDefEqProofs (disch:=first|omega|simp only[go_sem]) only[go_sem,true_and]
   exact ⟨_,rfl,⟨_,rfl⟩,dn,hnd,fun k=>⟨hsub k,hd k⟩,hinv⟩
  obtain ⟨K1,hK1⟩:∃ K,K=hh.set h.next o2:=⟨_,rfl⟩
  rw[← hK1]at hent hr2
  obtain ⟨K2,hK2⟩:∃ K,K=K1.push (.row [.int .i32 k.t,.int .i64 k.r] 0 false):=⟨_,rfl⟩
  have hK1n:K1.next=hh.next:=by rw[hK1];rfl
  have hK2n:K2.next=hh.next+1:=by rw[hK2];exact congrArg (·+1) hK1n
  have g2:K2.get K1.next=some (.row [.int .i32 k.t,.int .i64 k.r] 0 false):=by rw[hK2];exact Zz _ _
  have hst:Yx Tryz.prog 31 (.pointer (some ⟨K1.next,0,none⟩)) (ZZ k) (K1.push (.row [.int .i32 0,.int .i64 0] 0 false))=some K2:=by
   rw[hK2]
   exact (c4a rfl).trans (c0a rfl rfl)
  have l2:Zk K2 K1.next 0 2=some (ZZ k):=by rw[Zu g2 (Nat.le_of_ble_eq_true rfl)];rfl
  have oth:∀ j,j<hh.next→j≠h.next→K2.get j=hh.get j:=fun j hj hne=>by rw[hK2,a0a _ _ (by omega),hK1,Zx _ _ hne]
  have hI2:I dn K2:=hE dn hh K2 hinv ⟨by omega,by rw[hK2,hK1];rfl,oth⟩
  have hl2:K2.get l=some (.loop D):=(hI dn K2 hI2).1
  have hr3:RngAt ZZ K2 h.next id m (k :: dn):=hr2.keep (by rw[hK2];exact a0a _ _ (by omega)) (by rw[hK2];exact a0a _ _ (by omega))
  have hy:v2a Tryz.prog K2 (some (.func (.yield l) #[] #[])) (some [ZZ k])=.ok (.round l D.size (E0a D.tmps [p] [ZZ k]) D.assign D.body) K2:=by
   rw[y7a hl2 _ (by rw[hp];rfl) (by rw[hp];simpa using hps),hp]
  have hkm:k∈m.map (·.1):=List.mem_map.2 ⟨_,hk,rfl⟩
  simp -implicitDefEqProofs (disch:=first|omega|simp only[go_sem]) only[go_sem,true_and,← hK1,f5,hent,hst,f0,l2,hy]
  refine s1b (hR dn K2 k hI2 hnk hkm (by omega)) ?_
  rintro r H ⟨rfl,hI3,e1,e2,e3⟩
  simp -implicitDefEqProofs (disch:=first|omega|simp only[go_sem]) only[go_sem,true_and,Xk]
  have hlen:(k :: dn).length≤m.length:=by
   have:=B1a (a:=k :: dn) (b:=m.map (·.1)) (List.nodup_cons.2 ⟨hnk,hnd⟩) (fun x hx=>by
    rcases List.mem_cons.1 hx with rfl | hx
    ·exact hkm
    ·exact hsub x hx)
   simpa using this
  refine hK' (k :: dn) _ ?_ (by rw[List.length_cons]at hlen ⊢;omega)
  exact ⟨by trivial,(vy f0),(vy f5),show h.next<H.next by omega,List.nodup_cons.2 ⟨hnk,hnd⟩,fun x hx=>(by
   rcases List.mem_cons.1 hx with rfl | hx
   ·exact hkm
   ·exact hsub x hx),hr3.keep e1 e2,hI3⟩
@[reducible] noncomputable def s0b (fr:Fr) (k:Nat):m2a:=⟨13,fr,#[7],i8a,j8a,k,.ready,none⟩
structure AppI (hB:DHeap) (fr:Fr) (b:Nat) (dn:List Key) (K:DHeap):Prop where
 r:Rng hB (s0b fr hB.next) (fun j=>j=b) K
 box:∃ v w,K.get b=some (.row [v] 0 false)∧Owns fKey.rep NoS K v dn.reverse w∧∀ i,w=some i→hB.next+2<i
theorem AppI.but {hB K K':DHeap} {fr:Fr} {b:Nat} {dn:List Key} (s:AppI hB fr b dn K) (hb:b<hB.next) (e:But (hB.next+2) K K'):AppI hB fr b dn K':=by
 have hn:=s.r.nx
 obtain ⟨v,w,g,o,hw⟩:=s.box
 exact ⟨s.r.keep e.next e.ng fun j hj=>e.get j (by omega) (by omega),v,w,(e.get _ (by omega) (by omega)).trans g,o.mono e.next (fun i hi=>e.get i (o.lt i hi) (by have:=hw i hi;omega)) (fun i hi=>hi.elim),hw⟩
theorem y8b {hB K:DHeap} {fr:Fr} {b:Nat} {dn:List Key} {k:Key} (hk:fKey.ok k) (hlen:dn.length+1≤4294967296) (hb:b<hB.next) (f2:fr 2=some (.pointer (some ⟨b,0,none⟩))) (hnx:hB.next+2<K.next) (s:AppI hB fr b dn K) :
 Rt Tryz.prog (hB.next+1) 13 (E0a fr [7] [ZZ k]) i8a j8a K fun r H=>r=.ret (.bool true)∧AppI hB fr b (k :: dn) H∧H.get (hB.next+2)=K.get (hB.next+2)∧K.next≤H.next:=by
 obtain ⟨v,w,gb,o,hw⟩:=s.box
 have hwl:=o.lt
 refine q5b j8c k8c (by kernel_rfl) (by kernel_rfl) ?_
 obtain ⟨K1,hK1⟩:∃ K1,K1=K.push (.row [.int .i32 k.t,.int .i64 k.r] 0 false):=⟨_,rfl⟩
 have hst:Yx Tryz.prog 31 (.pointer (some ⟨K.next,0,none⟩)) (ZZ k) (K.push (.row [.int .i32 0,.int .i64 0] 0 false))=some K1:=by
  rw[hK1]
  exact (c4a rfl).trans (c0a rfl rfl)
 have r1:=s.r.push (.row [.int .i32 k.t,.int .i64 k.r] 0 false)
 rw[← hK1]at r1
 simp -implicitDefEqProofs (disch:=first|omega|simp only[go_sem]) only[go_sem,true_and,j6b,E0a,hst]
 refine ⟨_,r1.lp,rfl,?_⟩
 obtain ⟨D2,hD2⟩:∃ D2:m2a,D2={ s0b fr hB.next with state:=.busy,pending:=(s0b fr hB.next).pending }:=⟨_,rfl⟩
 rw[← hD2]
 obtain ⟨K2,hK2⟩:∃ K2,K2=K1.set (hB.next+1) (.loop D2):=⟨_,rfl⟩
 rw[← hK2]
 have r2:Rng hB D2 (fun j=>j=b) K2:=by rw[hK2];exact r1.loop _
 have hK2n:K2.next=K.next+1:=by rw[hK2,hK1];rfl
 have hK2g:K2.ng=K.ng:=by rw[hK2,hK1];rfl
 have oth:∀ j,j<K.next→j≠hB.next+1→K2.get j=K.get j:=fun j hj hne=>by rw[hK2,Zx _ _ hne,hK1,a0a _ _ hj]
 have gb2:K2.get b=some (.row [v] 0 false):=(oth _ (by omega) (by omega)).trans gb
 have gk2:K2.get K.next=some (.row [.int .i32 k.t,.int .i64 k.r] 0 false):=by rw[hK2,Zx _ _ (by omega),hK1];exact Zz _ _
 have o2:Owns fKey.rep NoS K2 v dn.reverse w:=o.mono (by omega) (fun i hi=>oth i (hwl i hi) (by have:=hw i hi;omega)) (fun i hi=>hi.elim)
 have lb:Zq K2 b 0=some v:=Zy gb2
 have lk:Zk K2 K.next 0 2=some (ZZ k):=by rw[Zu gk2 (Nat.le_of_ble_eq_true rfl)];rfl
 obtain ⟨v',h2,e6,n2,ng2,gg,o3⟩:=o2.snoc (cs:=[.int .i32 k.t,.int .i64 k.r]) (x:=k) (z:=2) (fun i hi=>hi.elim) ⟨rfl,hk⟩ rfl (by decide) A2b (by simpa using hlen) (by decide)
 have hv':v'.cells=#[v']:=o3.sl.cells1
 have hone:[v'].all Value.oneCell'=true:=by obtain ⟨_,_,rfl⟩:=o3.sl.isSlice;rfl
 have gb3:h2.get b=some (.row [v] 0 false):=(gg _ (by omega) (fun h=>by have:=hw b h;omega)).trans gb2
 have w1:Yx Tryz.prog 24 (.pointer (some ⟨b,0,none⟩)) v' h2=some (h2.set b (.row [v'] 0 false)):=(J5c hv').trans (b0a gb3 (Nat.le_of_ble_eq_true rfl) hone)
 simp -implicitDefEqProofs (disch:=first|omega|simp only[go_sem]) only[go_sem,true_and,k6b,f2,lb,lk,e6,w1]
 have hnw:∀ j,j<hB.next+3→w≠some j:=fun j hj h=>by have:=hw j h;omega
 have r3:Rng hB D2 (fun j=>j=b) h2:=r2.keep (by omega) ng2 fun j hj=>gg j (by omega) (hnw j (by omega))
 have r4:Rng hB D2 (fun j=>j=b) (h2.set b (.row [v'] 0 false)):=r3.set rfl hb
 refine ⟨D2,r4.lp,rfl,?_,?_,?_⟩
 ·subst hD2
  refine ⟨r4.loop _,v',some (K2.next+1),(Zx _ _ (by omega)).trans (Zj _ _),?_,fun i hi=>by cases hi;omega⟩
  rw[List.reverse_cons]
  exact o3.mono (Nat.le_refl _) (fun i hi=>by cases hi;rw[Zx _ _ (by omega),Zx _ _ (by omega)]) (fun i hi=>hi.elim)
 ·rw[Zx _ _ (by omega),Zx _ _ (by omega),gg _ (by omega) (hnw _ (by omega)),oth _ (by omega) (by omega)]
 ·show K.next≤h2.next
  omega
theorem K1c {fk:FuncId} (Y:q7a fk) (hg:L0a Tryz.prog fk=true) {hB:DHeap} {fr:Fr} {b c id:Nat} {m:List (Key × Value)} {Q:Zv→St→Prop} (hlen:m.length≤4294967296) (hok:∀ k∈m.map (·.1),fKey.ok k)
 (f2:fr 2=some (.pointer (some ⟨b,0,none⟩))) (f6:fr 6=some (.func (.func fk) #[] #[.pointer (some ⟨c,0,none⟩)]))
 (hb:b<hB.next) (gb:hB.get b=some (.row [.slice none 0 0] 0 false)) (hc:c<hB.next∧c≠b) (gc:hB.get c=some (.row [.map (some id)] 0 false)) (hid:id<hB.next∧id≠b) (hm:MapAt ZZ hB id m)
 (hA:∀ dn H,dn.Nodup→(∀ k,k∈dn↔k∈m.map (·.1))→AppI hB fr b dn H→Q .normal ⟨fr,[.mark hB.next],H.set (hB.next+1) (.loop { s0b fr hB.next with state:=.exhausted }),none⟩) :
 NC Tryz.prog 13 (.rangeFunc (T 6) #[7] i8a j8a) Q ⟨fr,[],hB,none⟩:=by
 refine NC.range_yields (fv:=.func (.func fk) #[] #[.pointer (some ⟨c,0,none⟩)]) (A:=fun H=>∃ dn,dn.Nodup∧(∀ k,k∈dn↔k∈m.map (·.1))∧AppI hB fr b dn H) (B:=fun _=>False) rfl (vy f6) (fun K=>z7a hg _ _ _ K) ?_ (fun H ⟨dn,h1,h2,s⟩=>⟨s.r.lp,hA dn H h1 h2 s⟩) (fun H s=>s.elim)
 have e:Ext hB ((hB.push (.marks true)).push (.loop (s0b fr hB.next))):=(Ext.push1 _ _).push _
 refine (Y (D:=s0b fr hB.next) (p:=7) (id:=id) (m:=m) (fun dn K=>AppI hB fr b dn K∧dn.Nodup∧∀ k∈dn,k∈m.map (·.1)) rfl (Nat.le_of_ble_eq_true rfl) (Nat.lt_of_lt_of_le hid.1 e.next) (Nat.lt_of_lt_of_le hc.1 e.next) (Nat.lt_succ_self _) ?_ (fun dn K ⟨s,_,_⟩=>⟨s.r.lp,(s.r.old _ hc.1 hc.2).trans gc,hm.keep (s.r.old _ hid.1 hid.2)⟩) (fun dn K K' ⟨s,h1,h2⟩ e=>⟨s.but hb e,h1,h2⟩) ?_).mono fun r H ⟨h1,dn,h2,h3,h4,_⟩=>⟨h1,.inl ⟨dn,h2,h3,h4⟩⟩
 ·exact ⟨⟨Rng.start _ _ _,_,_,(e.get _ hb).trans gb,Owns.nil _ _ _,fun i hi=>by cases hi⟩,.nil,fun k hk=>by cases hk⟩
 ·rintro dn K k ⟨s,hn,hs⟩ hnk hkm hlt
  have hl:(k :: dn).length≤m.length:=by
   have:=B1a (a:=k :: dn) (b:=m.map (·.1)) (List.nodup_cons.2 ⟨hnk,hn⟩) (fun x hx=>by
    rcases List.mem_cons.1 hx with rfl | hx
    ·exact hkm
    ·exact hs x hx)
   simpa using this
  refine (y8b (hok k hkm) (by rw[List.length_cons]at hl;omega) hb f2 hlt s).mono fun r H ⟨h1,h2,h3,h4⟩=>⟨h1,⟨h2,List.nodup_cons.2 ⟨hnk,hn⟩,fun x hx=>?_⟩,(h2.r.old _ hid.1 hid.2).trans (s.r.old _ hid.1 hid.2).symm,h3,h4⟩
  rcases List.mem_cons.1 hx with rfl | hx
  ·exact hkm
  ·exact hs x hx
theorem D4b {fk:FuncId} (Y:q7a fk) (hg:L0a Tryz.prog fk=true) {h:DHeap} {c id:Nat} {m:List (Key × Value)} (hlen:m.length≤4294967296) (hok:∀ k∈m.map (·.1),fKey.ok k) (hc:c<h.next) (gc:h.get c=some (.row [.map (some id)] 0 false)) (hid:id<h.next) (hm:MapAt ZZ h id m) :
 Ct Tryz.prog 112 [.slice none 0 0,.func (.func fk) #[] #[.pointer (some ⟨c,0,none⟩)]] h fun r h1=>∃ v dn,r=.ret v∧dn.Nodup∧(∀ k,k∈dn↔k∈m.map (·.1))∧Made fKey h h1 v dn:=by
 refine W0d (by simp) ?_
 obtain ⟨H0,hH0⟩:∃ H,H=h.push (.row [.slice none 0 0] 0 false):=⟨_,rfl⟩
 have hE0:Ext h H0:=by rw[hH0];exact Ext.push1 _ _
 have hH0n:H0.next=h.next+1:=by rw[hH0];rfl
 have gb:H0.get h.next=some (.row [.slice none 0 0] 0 false):=by rw[hH0];exact Zz _ _
 simp -implicitDefEqProofs (disch:=first|omega|simp only[go_sem]) only[go_sem,true_and,E9c,← hH0]
 refine K1c Y hg (b:=h.next) (c:=c) (id:=id) (m:=m) hlen hok vz vz (by omega) gb ⟨by omega,by omega⟩ ((hE0.get _ hc).trans gc) ⟨by omega,by omega⟩ (hm.keep (hE0.get _ hid)) (fun dn H hn hmem s=>?_)
 generalize hHf:H.set (H0.next+1) _=Hf
 obtain ⟨rr,v,w,g,o,hw⟩:=s
 have nr:=rr.nx
 have oth:∀ j,j≠H0.next+1→Hf.get j=H.get j:=fun j hj=>by rw[← hHf];exact Zx _ _ hj
 have nf:Hf.next=H.next:=by rw[← hHf];rfl
 have hEf:Ext h Hf:=by rw[← hHf];exact (rr.below hE0 fun j hj=>by rw[hj];exact Nat.le_refl _).set (by omega)
 have hM:Hf.get H0.next=some (.marks true):=(oth _ (by omega)).trans rr.mrk
 have k1:Zq Hf h.next 0=some v:=Zy ((oth _ (by omega)).trans g)
 have o1:Owns fKey.rep NoS (Hf.set H0.next (.marks false)) v dn.reverse w:=o.mono (Nat.le_of_eq nf.symm) (fun i hi=>by have:=hw i hi;rw[Zx _ _ (by omega),oth _ (by omega)]) (fun i hi=>hi.elim)
 simp -implicitDefEqProofs (disch:=first|omega|simp only[go_sem]) only[go_sem,true_and,k1]
 refine u2b hM ?_
 simp -implicitDefEqProofs (disch:=first|omega|simp only[go_sem]) only[go_sem,true_and]
 exact ⟨_,rfl,v,dn.reverse,rfl,List.pairwise_reverse.2 (hn.imp fun h=>h.symm),fun k=>by rw[List.mem_reverse];exact hmem k,hEf.set (by omega),w,o1,fun i hi=>by have:=hw i hi;omega⟩
end Go.Proofs.YtheamfnbfgiaeaaGreat
namespace Go.D
variable {P:Program} {nt:Nat}
section
variable {ops:Array Oper} {o:Oper} {s:St} {E:DHeap→DHeap→Prop} {V:Nat→DHeap→Value→Prop} {cons:Nat→Option Nat} {b:List Nat} {i:Nat} {Q:Zv→St→Prop} {v:Value} {h':DHeap}
end
end Go.D
namespace Go.Proofs.YtheamfnbfgiaeaaGreat
open Go.D
open Go.Sort
set_option maxRecDepth 100000
theorem i2a {a b:Key}:YQ a b=true↔a.t<b.t∨(a.t=b.t∧a.r<b.r):=by simp[YQ]
theorem m1a (a:Key):YQ a a=false:=by
 cases h:YQ a a with
 | false=>rfl
 | true=>have:=i2a.1 h;omega
theorem n3a {a b c:Key} (h:YQ a b=true) (g:YQ b c=true):YQ a c=true:=by
 rw[i2a]at *;omega
theorem O9a {a b:Key} (h:YQ a b=true):YQ b a=false:=by
 cases g:YQ b a with
 | false=>rfl
 | true=>rw[i2a]at h g;omega
theorem F7c {a b:Key} (h:a.t=b.t) (g:a.r=b.r):a=b:=by cases a;cases b;simp at h g;simp[h,g]
theorem E2a {a b:Key} (h:YQ a b=false) (hn:a≠b):YQ b a=true:=by
 rw[i2a]
 have h':¬ (a.t<b.t∨(a.t=b.t∧a.r<b.r)):=fun hh=>by rw[i2a.2 hh]at h;cases h
 by_cases ht:a.t=b.t
 ·have:a.r≠b.r:=fun hr=>hn (F7c ht hr)
  omega
 ·omega
theorem n1b:SWO YQ where
 irrefl:=m1a
 trans:=fun _ _ _ h g=>n3a h g
 ntrans:=fun x y z h g=>by
  cases k:YQ x z with
  | false=>rfl
  | true=>
    have h':¬ (x.t<y.t∨(x.t=y.t∧x.r<y.r)):=fun hh=>by rw[i2a.2 hh]at h;cases h
    have g':¬ (y.t<z.t∨(y.t=z.t∧y.r<z.r)):=fun hh=>by rw[i2a.2 hh]at g;cases g
    have:=i2a.1 k
    omega
abbrev UpK (l:List Key):Prop:=l.Pairwise fun a b=>YQ a b=true
theorem X7b:∀ {l m:List Key},UpK l→UpK m→(∀ x,x∈l↔x∈m)→l=m
 | [],[],_,_,_=>rfl
 | [],y :: m,_,_,h=>absurd ((h y).2 List.mem_cons_self) (by simp)
 | x :: l,[],_,_,h=>absurd ((h x).1 List.mem_cons_self) (by simp)
 | x :: l,y :: m,hl,hm,h=>by
   obtain ⟨hx,hl'⟩:=List.pairwise_cons.1 hl
   obtain ⟨hy,hm'⟩:=List.pairwise_cons.1 hm
   have e:x=y:=by
    rcases List.mem_cons.1 ((h x).1 List.mem_cons_self) with e | e
    ·exact e
    ·rcases List.mem_cons.1 ((h y).2 List.mem_cons_self) with e' | e'
     ·exact e'.symm
     ·have a:=hx y e'
      rw[O9a (hy x e)]at a
      cases a
   subst e
   refine congrArg (x :: ·) (X7b hl' hm' fun z=>⟨fun hz=>?_,fun hz=>?_⟩)
   ·rcases List.mem_cons.1 ((h z).1 (List.mem_cons_of_mem _ hz)) with e | e
    ·subst e;have:=hx z hz;rw[m1a]at this;cases this
    ·exact e
   ·rcases List.mem_cons.1 ((h z).2 (List.mem_cons_of_mem _ hz)) with e | e
    ·subst e;have:=hy z hz;rw[m1a]at this;cases this
    ·exact e
def g3a (x:Key):List Key→List Key
 | []=>[x]
 | y :: l=>if YQ y x=true then y :: g3a x l else if y=x then y :: l else x :: y :: l
def Z3a (l:List Key):List Key:=l.foldl (fun r x=>g3a x r) []
theorem i9a {x z:Key}:∀ {l:List Key},z∈g3a x l↔z=x∨z∈l
 | []=>by simp[g3a]
 | y :: l=>by
   unfold g3a
   split
   ·rw[List.mem_cons,i9a,List.mem_cons]
    constructor
    ·rintro (h | h | h) <;> simp[h]
    ·rintro (h | h | h) <;> simp[h]
   ·split
    ·rename_i e;subst e
     simp
    ·simp
theorem W5b {x:Key}:∀ {l:List Key},UpK l→UpK (g3a x l)
 | [],_=>by simp[g3a]
 | y :: l,h=>by
   obtain ⟨hy,hl⟩:=List.pairwise_cons.1 h
   unfold g3a
   split
   ·rename_i e
    refine List.pairwise_cons.2 ⟨fun z hz=>?_,W5b hl⟩
    rcases i9a.1 hz with rfl | hz
    ·exact e
    ·exact hy z hz
   ·rename_i e
    split
    ·exact h
    ·rename_i hn
     have hxy:=E2a (by simpa using e) hn
     refine List.pairwise_cons.2 ⟨fun z hz=>?_,h⟩
     rcases List.mem_cons.1 hz with rfl | hz
     ·exact hxy
     ·exact n3a hxy (hy z hz)
theorem L3b {x:Key}:∀ {l:List Key},(g3a x l).length≤l.length+1
 | []=>by simp[g3a]
 | y :: l=>by
   unfold g3a
   have:=L3b (x:=x) (l:=l)
   split
   ·simp;omega
   ·split <;> simp
theorem b9a:∀ (l r:List Key),UpK r→UpK (l.foldl (fun r x=>g3a x r) r)∧∀ z,z∈l.foldl (fun r x=>g3a x r) r↔z∈l∨z∈r
 | [],r,h=>by simp[h]
 | x :: l,r,h=>by
   obtain ⟨a,b⟩:=b9a l (g3a x r) (W5b h)
   refine ⟨a,fun z=>?_⟩
   rw[List.foldl_cons,b z,i9a,List.mem_cons]
   constructor
   ·rintro (h | h | h) <;> simp[h]
   ·rintro ((h | h) | h) <;> simp[h]
theorem f9a (l:List Key):UpK (Z3a l):=(b9a l [] .nil).1
theorem mem_keysN {l:List Key} {z:Key}:z∈Z3a l↔z∈l:=by
 have:=(b9a l [] .nil).2 z
 simpa [Z3a] using this
theorem C3b:∀ (l r:List Key),(l.foldl (fun r x=>g3a x r) r).length≤l.length+r.length
 | [],r=>by simp
 | x :: l,r=>by
   have h1:=C3b l (g3a x r)
   have h2:=L3b (x:=x) (l:=r)
   simp only[List.foldl_cons,List.length_cons]
   omega
theorem o1b (l:List Key):(Z3a l).length≤l.length:=by simpa [Z3a] using C3b l []
def XU:List Key→List Key
 | []=>[]
 | [x]=>[x]
 | x :: y :: l=>if x=y then XU (y :: l) else x :: XU (y :: l)
theorem H5a {z:Key}:∀ {l:List Key},z∈XU l↔z∈l
 | []=>by simp[XU]
 | [x]=>by simp[XU]
 | x :: y :: l=>by
   unfold XU
   have:=H5a (z:=z) (l:=y :: l)
   split
   ·rename_i e;subst e
    rw[this];simp
   ·rw[List.mem_cons,this];simp
theorem U8a:∀ {l:List Key},l.Pairwise (fun a b=>YQ b a=false)→UpK (XU l)
 | [],_=>by simp[XU]
 | [x],_=>by simp[XU]
 | x :: y :: l,h=>by
   obtain ⟨hx,hl⟩:=List.pairwise_cons.1 h
   unfold XU
   split
   ·exact U8a hl
   ·rename_i hn
    have hxy:=E2a (hx y List.mem_cons_self) (fun e=>hn e.symm)
    refine List.pairwise_cons.2 ⟨fun z hz=>?_,U8a hl⟩
    rcases List.mem_cons.1 (H5a.1 hz) with rfl | hz
    ·exact hxy
    ·have hyz:=(List.pairwise_cons.1 hl).1 z hz
     by_cases e:z=y
     ·rw[e];exact hxy
     ·exact n3a hxy (E2a hyz e)
theorem p1b {l l':List Key} (hp:l'.Perm l) (hs:l'.Pairwise (fun a b=>YQ b a=false)):XU l'=Z3a l:=
 X7b (U8a hs) (f9a l) fun z=>by rw[H5a,mem_keysN,hp.mem_iff]
instance:Inhabited Key:=⟨⟨0,0⟩⟩
theorem d6a {l:List Key} {n:Nat} (hn:n=l.length) (h:SortedIn YQ 0 n l.toArray):l.Pairwise (fun a b=>YQ b a=false):=by
 subst hn
 refine List.pairwise_iff_getElem.2 fun i j hi hj hij=>?_
 have:=h i j (Nat.zero_le _) hij hj
 simpa [hi,hj] using this
end Go.Proofs.YtheamfnbfgiaeaaGreat
namespace Go.Proofs.YtheamfnbfgiaeaaGreat
open Go.D
set_option maxRecDepth 100000
theorem _root_.Go.D.Made.base {α:Type} {F:FRep α} {h0 h1 h2:DHeap} {v:Value} {l:List α} (m:Made F h1 h2 v l) (e:Ext h0 h1):Made F h0 h2 v l:=by
 obtain ⟨w,a,b⟩:=m.own
 exact ⟨e.trans m.ext,w,a,fun i hi=>Nat.le_trans e.next (b i hi)⟩
end Go.Proofs.YtheamfnbfgiaeaaGreat
namespace Go.D
variable {P:Program} {α:Type}
def RowIs (F:FRep α) (h:DHeap) (id:Nat) (A:List α):Prop:=h.get id=some (.row (A.flatMap F.enc) F.z false)
theorem S6a (vs:List Value):∀ (x B:List Value),vs.length=x.length→YZ (x++B) 0 vs=vs++B:=fun x B hl=>by
 refine List.ext_getElem? fun i=>?_
 rw[M3a]
 by_cases h1:i<vs.length
 ·rw[if_pos ⟨Nat.zero_le _,by omega,by simp;omega⟩,Nat.sub_zero,List.getElem?_append_left h1]
 ·rw[if_neg (by omega),List.getElem?_append_right (by omega),List.getElem?_append_right (by omega),hl]
theorem U4b (F:FRep α) {A:List α} {k:Nat} (hk:k<A.length) (x:α):YZ (A.flatMap F.enc) (k*F.z) (F.enc x)=(A.set k x).flatMap F.enc:=by
 have h1:A.flatMap F.enc=(A.take k).flatMap F.enc++(F.enc A[k]++(A.drop (k+1)).flatMap F.enc):=by
  conv=>lhs;rw[← List.take_append_drop k A,List.drop_eq_getElem_cons hk]
  rw[List.flatMap_append,List.flatMap_cons]
 have h2:(A.set k x).flatMap F.enc=(A.take k).flatMap F.enc++(F.enc x++(A.drop (k+1)).flatMap F.enc):=by
  rw[List.set_eq_take_append_cons_drop,if_pos hk,List.flatMap_append,List.flatMap_cons]
 have h3:k*F.z=((A.take k).flatMap F.enc).length+0:=by rw[ZW];simp[Nat.min_eq_left (Nat.le_of_lt hk)]
 rw[h1,h2,h3,C1b,S6a _ _ _ (by rw[F.len,F.len])]
theorem RowIs.store {F:FRep α} {h:DHeap} {id k:Nat} {A:List α} (r:RowIs F h id A) (hk:k<A.length) (x:α):storeAt h id (k*F.z) (F.enc x)=some (h.set id (.row ((A.set k x).flatMap F.enc) F.z false)):=by
 have hm:(k+1)*F.z≤A.length*F.z:=Nat.mul_le_mul_right _ hk
 rw[Nat.succ_mul]at hm
 rw[b0a r (by rw[F.len,ZW];exact hm) ?_,U4b F hk]
 refine List.all_eq_true.2 fun v hv=>?_
 have:=List.all_eq_true.1 (F.flat x) v hv
 unfold Yw at this
 cases v <;> first | rfl | cases this
theorem RowIs.set {F:FRep α} {h:DHeap} {id:Nat} {A:List α} {z:Nat} (hz:z=F.z):RowIs F (h.set id (.row (A.flatMap F.enc) z false)) id A:=by
 subst hz;exact Zj _ _
theorem RowIs.sl {F:FRep α} {h:DHeap} {id o n c:Nat} {A:List α} (r:RowIs F h id A) (hn:o+n≤A.length) (hok:∀ x∈A,F.ok x):Sl F.rep (fun i=>i=id) h (.slice (some ⟨id,o*F.z,none⟩) n c) ((A.drop o).take n):=by
 have hl:((A.drop o).take n).length=n:=by simp;omega
 have hm:(o+n)*F.z≤A.length*F.z:=Nat.mul_le_mul_right _ hn
 rw[Nat.add_mul]at hm
 refine .inr ⟨id,o*F.z,c,A.flatMap F.enc,F.z,false,by rw[hl],rfl,r,.inr rfl,?_,?_⟩
 ·rw[hl,ZW];exact hm
 ·refine Els.flat.2 ⟨?_,fun x hx=>hok x (List.mem_of_mem_drop (List.mem_of_mem_take hx))⟩
  rw[hl]
  have h1:A.flatMap F.enc=(A.take o).flatMap F.enc++(((A.drop o).take n).flatMap F.enc++(A.drop (o+n)).flatMap F.enc):=by
   rw[← List.flatMap_append,← List.flatMap_append]
   congr 1
   rw[← List.drop_drop,List.take_append_drop,List.take_append_drop]
  have h2:o*F.z=((A.take o).flatMap F.enc).length:=by rw[ZW];simp[Nat.min_eq_left (show o≤A.length by omega)]
  have h3:n*F.rep.z=(((A.drop o).take n).flatMap F.enc).length:=by rw[ZW,hl];rfl
  rw[h1,h2,List.drop_left,h3,List.take_left]
theorem Q4a {t:TypeId} {z id o n c:Nat} {h:DHeap} {cs:List Value} {lo hi:Option Value} {i j:Nat} (hz:M0a P t=some z) (hp:0<z) (hg:h.get id=some (.row cs z false)) (hj:Yu hi n n=some j) (hi2:Yu lo 0 j=some i) :
 Xw P t (.slice (some ⟨id,o,none⟩) n c) lo hi none h=some (.slice (some ⟨id,o+i*z,none⟩) (j - i) (if j=n∧c=n then j - i else j - i+1)):=by
 unfold M0a at hz
 split at hz
 ·rename_i e e1
  cases e2:P.info? e with
  | none=>rw[e2]at hz;cases hz
  | some inf=>
    rw[e2]at hz
    have hsz:inf.size=z:=by simpa using hz
    have hfit:C1a h id inf.size=true:=by simp[C1a,hg,hsz]
    simp only[Xw,e1,e2]
    rw[if_pos ⟨hfit,by rw[hsz];exact hp⟩]
    simp only[Yu]at hj hi2 ⊢
    simp only[hj,hi2,hsz]
 ·cases hz
def y9a (P:Program) (t:TypeId):Option (Nat × Value):=
 match P.underlying t with
 | some (.slice e)=>(P.info? e).bind fun i=>i.zero.map fun z=>(z.cells.size,z)
 | _=>none
theorem D9a {t:TypeId} {zc id o n c esz:Nat} {zv:Value} {h:DHeap} {cs:List Value} (hz:y9a P t=some (zc,zv)) (hall:zv.cells.toList.all Yw=true) (hg:h.get id=some (.row cs esz false)) (hl:o+n*zc≤cs.length) :
 ∃ zs:List Value,zs.length=n*zc∧j3a P #[t] (.slice (some ⟨id,o,none⟩) n c) h=some (.tuple #[],h.set id (.row (YZ cs o zs) esz false)):=by
 unfold y9a at hz
 split at hz
 ·rename_i e e1
  cases e2:P.info? e with
  | none=>rw[e2]at hz;cases hz
  | some inf=>
    rw[e2]at hz
    rw[Option.bind_some]at hz
    cases e3:inf.zero with
    | none=>rw[e3]at hz;simp at hz
    | some z=>
      rw[e3]at hz
      simp only[Option.map_some,Option.some.injEq,Prod.mk.injEq]at hz
      obtain ⟨h1,rfl⟩:=hz
      by_cases h0:n=0
      ·subst h0
       refine ⟨[],by simp,?_⟩
       simp only[j3a,List.getElem?_toArray,List.getElem?_cons_zero,e1,if_true,YZ,z3a hg]
      ·refine ⟨(j0a z.cells (n*z.cells.size)).toList,by simp[j0a,h1],?_⟩
       simp only[j3a,List.getElem?_toArray,List.getElem?_cons_zero,e1,if_neg h0,e2,e3,hg]
       rw[if_pos ⟨hall,by rw[h1];exact hl⟩]
 ·cases hz
theorem h8c {F:FRep α} {h:DHeap} {id k c:Nat} {B:List α} {cs zs:List Value} (hg:h.get id=some (.row (YZ cs (k*F.z) zs) F.z false)) (hk:k=B.length) (hl:k*F.z≤cs.length) (hB:cs.take (k*F.z)=B.flatMap F.enc) (hok:∀ x∈B,F.ok x):Sl F.rep (fun i=>i=id) h (.slice (some ⟨id,0,none⟩) k c) B:=by
 subst hk
 refine .inr ⟨id,0,c,_,F.z,false,rfl,rfl,hg,.inr rfl,?_,Els.flat.2 ⟨?_,hok⟩⟩
 ·rw[R2a];show 0+B.length*F.z≤_;omega
 ·rw[← hB,List.drop_zero]
  refine List.ext_getElem? fun i=>?_
  show (List.take (B.length*F.z) _)[i]? = _
  rw[List.getElem?_take,List.getElem?_take,M3a]
  split
  ·rw[if_neg (by omega)]
  ·rfl
end Go.D
namespace Go.Proofs.YtheamfnbfgiaeaaGreat
open Go.D
set_option maxRecDepth 100000
theorem A9a {x y:Key}:∀ {L:List Key},XU (L++[y,x])=if y=x then XU (L++[y]) else XU (L++[y])++[x]
 | []=>by
   simp only[List.nil_append,XU]
   split
   ·rename_i e;rw[e]
   ·rfl
 | [z]=>by
   simp only[List.cons_append,List.nil_append,XU]
   by_cases h1:z=y <;> by_cases h2:y=x <;> simp[h1,h2]
 | z :: w :: L=>by
   have ih:=A9a (x:=x) (y:=y) (L:=w :: L)
   simp only[List.cons_append,XU]at ih ⊢
   by_cases h1:z=w
   ·rw[if_pos h1,if_pos h1];exact ih
   ·rw[if_neg h1,if_neg h1,ih]
    split <;> simp
theorem Q3a {l:List Key} {m:Nat} (hm:m+1<l.length):XU (l.take (m+1+1))=if l[m]=l[m+1] then XU (l.take (m+1)) else XU (l.take (m+1))++[l[m+1]]:=by
 rw[List.take_succ_eq_append_getElem hm,List.take_succ_eq_append_getElem (show m<l.length by omega),List.append_assoc]
 exact A9a
theorem o8a {K:DHeap} {id i:Nat} {A:List Key} (r:RowIs fKey K id A) (hi:i<A.length):Zk K id (i*2) 2=some (ZZ A[i]):=by
 have hm:(i+1)*2≤A.length*2:=Nat.mul_le_mul_right _ hi
 have h1:A.flatMap fKey.enc=(A.take i).flatMap fKey.enc++(fKey.enc A[i]++(A.drop (i+1)).flatMap fKey.enc):=by
  conv=>lhs;rw[← List.take_append_drop i A,List.drop_eq_getElem_cons hi]
  rw[List.flatMap_append,List.flatMap_cons]
 have h2:i*2=((A.take i).flatMap fKey.enc).length:=by rw[ZW];simp[Nat.min_eq_left (Nat.le_of_lt hi)];rfl
 rw[Zu r (by rw[ZW];show _≤A.length*2;omega),h1,h2,List.drop_left]
 rfl
structure CmpI (l:List Key) (n0 k2 k:Nat) (A:List Key):Prop where
 len:A.length=l.length
 le:n0+k2≤l.length
 one:1≤n0∧1≤k2
 kk:k=(XU (l.take (n0+k2))).length
 hd:A.take k=XU (l.take (n0+k2))
 lt:k<n0+k2
 tl:∀ p,k≤p→A[p]? = l[p]?
theorem CmpI.first {l:List Key} {n0:Nat} (h0:n0+1<l.length) (he:l[n0]=l[n0+1]) (hc:XU (l.take (n0+1))=l.take (n0+1)):CmpI l (n0+1) 1 (n0+1) l where
 len:=rfl
 le:=by omega
 one:=by omega
 kk:=by rw[Q3a h0,if_pos he,hc];simp;omega
 hd:=by rw[Q3a h0,if_pos he,hc]
 lt:=by omega
 tl:=fun _ _=>rfl
theorem CmpI.at {l A:List Key} {n0 k2 k:Nat} (x:CmpI l n0 k2 k A) (h:n0+k2<l.length):∃ (h1:n0+k2<A.length) (h2:n0+k2 - 1<A.length),A[n0+k2]=l[n0+k2]∧A[n0+k2 - 1]=l[n0+k2 - 1]:=by
 have e:=x.len
 have:=x.one
 refine ⟨by omega,by omega,?_,?_⟩
 ·have h1:=x.tl (n0+k2) (by have:=x.lt;omega)
  rw[List.getElem?_eq_getElem (by omega),List.getElem?_eq_getElem h]at h1
  exact Option.some.inj h1
 ·have h1:=x.tl (n0+k2 - 1) (by have:=x.lt;omega)
  rw[List.getElem?_eq_getElem (by omega),List.getElem?_eq_getElem (by omega)]at h1
  exact Option.some.inj h1
theorem CmpI.same {l A:List Key} {n0 k2 k:Nat} (x:CmpI l n0 k2 k A) (h:n0+k2<l.length) (he:l[n0+k2]=l[n0+k2 - 1]):CmpI l n0 (k2+1) k A:=by
 obtain ⟨m,hm⟩:∃ m,n0+k2=m+1:=⟨n0+k2 - 1,by have:=x.one;omega⟩
 obtain ⟨a,b,c,d,e,f,g⟩:=x
 have hs:=Q3a (l:=l) (m:=m) (by omega)
 simp only[hm,Nat.add_sub_cancel]at he
 rw[if_pos he.symm]at hs
 refine ⟨a,by omega,by omega,?_,?_,by omega,g⟩
 ·rw[← Nat.add_assoc,hm,hs,← hm];exact d
 ·rw[← Nat.add_assoc,hm,hs,← hm];exact e
theorem CmpI.other {l A:List Key} {n0 k2 k:Nat} (x:CmpI l n0 k2 k A) (h:n0+k2<l.length) (he:¬ l[n0+k2]=l[n0+k2 - 1]):CmpI l n0 (k2+1) (k+1) (A.set k l[n0+k2]):=by
 obtain ⟨m,hm⟩:∃ m,n0+k2=m+1:=⟨n0+k2 - 1,by have:=x.one;omega⟩
 obtain ⟨a,b,c,d,e,f,g⟩:=x
 have hs:=Q3a (l:=l) (m:=m) (by omega)
 have he':¬ l[m]=l[m+1]:=fun hh=>he (by simp only[hm,Nat.add_sub_cancel];exact hh.symm)
 rw[if_neg he']at hs
 refine ⟨by simp[a],by omega,by omega,?_,?_,by omega,fun p hp=>?_⟩
 ·rw[← Nat.add_assoc]
  simp only[hm]at d ⊢
  rw[hs,List.length_append,← d]
  rfl
 ·rw[← Nat.add_assoc]
  simp only[hm]at e ⊢
  rw[hs,← e,List.take_succ_eq_append_getElem (by simp;omega),List.take_set_of_le (Nat.le_refl _)]
  simp
 ·rw[List.getElem?_set_ne (by omega)]
  exact g p (by omega)
theorem v0d:y9a Tryz.prog 24=some (2,.agg #[.int .i32 0,.int .i64 0]):=by kernel_rfl
set_option maxHeartbeats 1000000 in
theorem V8b {h:DHeap} {id c:Nat} {l:List Key} (hr:RowIs fKey h id l) (hok:∀ x∈l,fKey.ok x) (hl:l.length≤1048576) :
 Ct Tryz.prog 138 [.slice (some ⟨id,0,none⟩) l.length c] h fun r h1=>∃ c' cs,r=.ret (.slice (some ⟨id,0,none⟩) (XU l).length c')∧h1=h.set id (.row cs 2 false)∧Sl fKey.rep (fun i=>i=id) h1 (.slice (some ⟨id,0,none⟩) (XU l).length c') (XU l):=by
 refine O9b (by simp) ?_
 obtain ⟨v,hv⟩:∃ v,Value.slice (some ⟨id,0,none⟩) l.length c=v:=⟨_,rfl⟩
 have el:∀ K,dLen Tryz.prog #[24] v K=some (.int .i64 (l.length:Nat)):=fun K=>by rw[← hv];rfl
 have hself:h=h.set id (.row (l.flatMap fKey.enc) 2 false):=(z3a hr).symm
 have done1:XU l=l→∃ u,some v=some u∧∃ c' cs,DEnd.ret u=.ret (.slice (some ⟨id,0,none⟩) (XU l).length c')∧h=h.set id (.row cs 2 false)∧Sl fKey.rep (fun i=>i=id) h (.slice (some ⟨id,0,none⟩) (XU l).length c') (XU l):=fun e=>by
  refine ⟨v,rfl,c,_,by rw[← hv,e],hself,?_⟩
  have:=hr.sl (o:=0) (n:=l.length) (c:=c) (by omega) hok
  rw[e]
  simpa using this
 by_cases h2:(l.length:Int)<2
 ·have h2':=eq_true h2
  simp -implicitDefEqProofs (disch:=first|omega|simp only[go_sem]) only[go_sem,true_and,E6b,hv,el,h2']
  refine done1 ?_
  match l,h2 with
  | [],_=>rfl
  | [_],_=>rfl
  | _ :: _ :: _,h=>simp at h;omega
 have hz2:2≤l.length:=by omega
 have ia:∀ i:Nat,i<l.length→ZQ Tryz.prog 24 v (.int .i64 (i:Nat))=some (.pointer (some ⟨id,i*2,none⟩)):=fun i hi=>by
  rw[← hv]
  refine (w2a t4a (by omega) (by omega)).trans ?_
  rw[Nat.zero_add,Int.toNat_natCast]
 have slo:∀ K (A:List Key) (k:Nat),RowIs fKey K id A→k≤l.length→∃ c',Xw Tryz.prog 24 v (some (.int .i64 (k:Nat))) none none K=some (.slice (some ⟨id,k*2,none⟩) (l.length - k) c'):=fun K A k r hk=>by
  rw[← hv]
  have:=Q4a (c:=c) (o:=0) (n:=l.length) t4a (by decide) r (lo:=some (.int .i64 (k:Nat))) (hi:=none) (j:=l.length) (i:=k) rfl (L2a (k:=.i64) hk)
  rw[Nat.zero_add]at this
  exact ⟨_,this⟩
 have shi:∀ K cs (k:Nat),K.get id=some (.row cs 2 false)→k≤l.length→∃ c',Xw Tryz.prog 24 v none (some (.int .i64 (k:Nat))) none K=some (.slice (some ⟨id,0,none⟩) k c'):=fun K cs k r hk=>by
  rw[← hv]
  exact ⟨_,(Q4a t4a (by decide) r (j:=k) (i:=0) (L2a (k:=.i64) hk) rfl)⟩
 have hrr:∀ A:List Key,RowIs fKey (h.set id (.row (A.flatMap fKey.enc) 2 false)) id A:=fun A=>RowIs.set rfl
 simp -implicitDefEqProofs (disch:=first|omega|simp only[go_sem]) only[go_sem,true_and,E6b,hv,el,h2]
 refine A0a (σ:=Nat) (by kernel_rfl) (fun j s=>s.df=[]∧s.rd=none∧s.h=h∧s.fr 0=some v∧s.fr 3=some (.int .i64 ((j+1:Nat):Int))∧j+1≤l.length∧XU (l.take (j+1))=l.take (j+1)) (fun j=>l.length - j) 0 ?_ ?_
 ·simp -implicitDefEqProofs (disch:=first|omega|simp only[go_sem]) only[go_sem,true_and]
  refine ⟨rfl,by omega,?_⟩
  match l,hz2 with
  | x :: y :: _,_=>rfl
 rintro j ⟨fr,df,K,rd⟩ K' hK' hX ⟨rfl,rfl,rfl,f0,f3,hj,hc⟩
 simp only at f0 f3
 simp -implicitDefEqProofs (disch:=first|omega|simp only[go_sem]) only[go_sem,true_and,f0,f3,el]
 refine n0a (fun hc1=>?_) (fun hc1=>?_)
 ·have hjl:j+1<l.length:=by omega
  have hwm:IntKind.i64.wrap (((j+1:Nat):Int) - 1)=(j:Nat):=by rw[o0a (by omega) (by omega)];omega
  have hw1:=d0a hjl (by omega)
  have k1:=o8a hr hjl
  have k0:=o8a hr (show j<l.length by omega)
  simp -implicitDefEqProofs (disch:=first|omega|simp only[go_sem]) only[go_sem,true_and]
  refine N2c ?_
  by_cases heq:l[j+1]=l[j]
  case neg=>
   have heqd:decide (l[j+1]=l[j])=false:=decide_eq_false heq
   simp -implicitDefEqProofs (disch:=first|omega|simp only[go_sem]) only[go_sem,true_and,l138_0,f0,f3,hwm,ia _ hjl,ia j (show j<l.length by omega),k0,k1,T8a,heqd,z1a,hw1]
   refine hK' (j+1) _ ?_ (by omega)
   refine ⟨by trivial,by trivial,by trivial,(vy f0),vz,by omega,?_⟩
   rw[Q3a hjl,if_neg (fun e=>heq e.symm),hc,List.take_succ_eq_append_getElem hjl]
  have heqd:decide (l[j+1]=l[j])=true:=decide_eq_true heq
  obtain ⟨c2,hs2⟩:=slo K l (j+1) hr (by omega)
  simp -implicitDefEqProofs (disch:=first|omega|simp only[go_sem]) only[go_sem,true_and,l138_0,f0,f3,hwm,ia _ hjl,ia j (show j<l.length by omega),k0,k1,T8a,heqd,z1a,hs2]
  obtain ⟨s2,hs2v⟩:∃ s2,Value.slice (some ⟨id,(j+1)*2,none⟩) (l.length - (j+1)) c2=s2:=⟨_,rfl⟩
  have el2:∀ K,dLen Tryz.prog #[24] s2 K=some (.int .i64 ((l.length - (j+1):Nat):Int)):=fun K=>by rw[← hs2v];rfl
  have ia2:∀ i:Nat,j+1+i<l.length→ZQ Tryz.prog 24 s2 (.int .i64 (i:Nat))=some (.pointer (some ⟨id,(j+1+i)*2,none⟩)):=fun i hi=>by
   rw[← hs2v]
   refine (w2a t4a (by omega) (by omega)).trans ?_
   rw[Nat.add_mul (j+1),Int.toNat_natCast]
  rw[hs2v]
  refine A0a (σ:=Nat) (by kernel_rfl) (fun i s=>s.df=[]∧s.rd=none∧s.fr 0=some v∧s.fr 4=some s2∧s.fr 5=some (.int .i64 (i:Nat))∧∃ k A,s.fr 3=some (.int .i64 (k:Nat))∧s.h=K.set id (.row (A.flatMap fKey.enc) 2 false)∧CmpI l (j+1) i k A) (fun i=>l.length - i) 1 ?_ ?_
  ·simp -implicitDefEqProofs (disch:=first|omega|simp only[go_sem]) only[go_sem,true_and,f0,f3]
   exact ⟨rfl,_,l,rfl,hself,.first hjl heq.symm hc⟩
  clear f0 f3
  rintro i ⟨fr,df,M,rd⟩ K2' hK2 hX2 ⟨rfl,rfl,f0,f4,f5,k,A,f3,hM,x⟩
  simp only at f0 f4 f5 f3 hM
  subst hM
  have hrA:=hrr A
  have xle:=x.le
  have xone:=x.one
  simp -implicitDefEqProofs (disch:=first|omega|simp only[go_sem]) only[go_sem,true_and,f4,f5,el2]
  refine n0a (fun hc2=>?_) (fun hc2=>?_)
  ·have hil:j+1+i<l.length:=by omega
   obtain ⟨hA1,hA0,eA1,eA0⟩:=x.at hil
   have k1:=o8a hrA hA1
   have k0:=o8a hrA hA0
   rw[eA1]at k1
   rw[eA0]at k0
   have hwm2:IntKind.i64.wrap (((i:Nat):Int) - 1)=((i - 1:Nat):Int):=by rw[o0a (by omega) (by omega)];omega
   have hw2:=d0a (i:=i) (show i<l.length by omega) (by omega)
   have hia1:=ia2 i hil
   have hia0:=ia2 (i - 1) (by omega)
   rw[show j+1+(i - 1)=j+1+i - 1 by omega]at hia0
   simp -implicitDefEqProofs (disch:=first|omega|simp only[go_sem]) only[go_sem,true_and]
   refine O2c ?_
   by_cases he2:l[j+1+i]=l[j+1+i - 1]
   ·have heqd2:decide (l[j+1+i]=l[j+1+i - 1])=true:=decide_eq_true he2
    simp -implicitDefEqProofs (disch:=first|omega|simp only[go_sem]) only[go_sem,true_and,l138_1,f4,f5,hwm2,hia1,hia0,k0,k1,z5b,heqd2,Bool.not_true,z1a,hw2]
    refine hK2 (i+1) _ ?_ (by omega)
    exact ⟨by trivial,by trivial,(vy f0),(vy f4),vz,k,A,(vy f3),by trivial,x.same hil he2⟩
   ·have heqd2:decide (l[j+1+i]=l[j+1+i - 1])=false:=decide_eq_false he2
    have xlt:=x.lt
    have xlen:=x.len
    have hst:storeAt (K.set id (.row (A.flatMap fKey.enc) 2 false)) id (k*2) [.int .i32 l[j+1+i].t,.int .i64 l[j+1+i].r]=some (K.set id (.row ((A.set k l[j+1+i]).flatMap fKey.enc) 2 false)):=
     (hrA.store (show k<A.length by omega) l[j+1+i]).trans (congrArg some (l6b _ _ _ _))
    have hw3:=d0a (i:=k) (show k<l.length by omega) (by omega)
    simp -implicitDefEqProofs (disch:=first|omega|simp only[go_sem]) only[go_sem,true_and,l138_1,f0,f3,f4,f5,hwm2,hia1,hia0,ia k (show k<l.length by omega),k0,k1,z5b,heqd2,Bool.not_false,z1a,hw2,hst,hw3]
    refine hK2 (i+1) _ ?_ (by omega)
    exact ⟨by trivial,by trivial,(vy f0),(vy f4),vz,k+1,A.set k l[j+1+i],vz,by trivial,x.other hil he2⟩
  ·have hil:j+1+i=l.length:=by omega
   have xlt:=x.lt
   have xlen:=x.len
   have xk:=x.kk
   have xhd:=x.hd
   rw[hil,List.take_length]at xk xhd
   obtain ⟨c3,hs3⟩:=slo _ A k hrA (by omega)
   obtain ⟨zs,hzs,hcl⟩:=D9a (esz:=2) (n:=l.length - k) (c:=c3) (o:=k*2) v0d rfl hrA (by rw[ZW];show _≤A.length*2;omega)
   rw[l6b]at hcl
   obtain ⟨c4,hs4⟩:=shi (K.set id (.row (YZ (A.flatMap fKey.enc) (k*2) zs) 2 false)) _ k (Zj _ _) (by omega)
   refine hX2 _ _ (by simp) ?_
   simp -implicitDefEqProofs (disch:=first|omega|simp only[go_sem]) only[go_sem,true_and,f0,f3,hs3,hcl,hs4]
   refine hX _ _ (by simp) ?_
   simp -implicitDefEqProofs (disch:=first|omega|simp only[go_sem]) only[go_sem,true_and]
   refine ⟨_,rfl,c4,_,by rw[← xk],rfl,?_⟩
   rw[← xk]
   refine h8c (cs:=A.flatMap fKey.enc) (zs:=zs) (Zj _ _) xk (by rw[ZW];show k*2≤A.length*2;omega) ?_ fun y hy=>hok y (H5a.1 hy)
   have hAk:A.flatMap fKey.enc=(A.take k).flatMap fKey.enc++(A.drop k).flatMap fKey.enc:=by rw[← List.flatMap_append,List.take_append_drop]
   have hlk:k*fKey.z=((A.take k).flatMap fKey.enc).length:=by rw[ZW];simp[Nat.min_eq_left (show k≤A.length by omega)]
   rw[hAk,hlk,List.take_left,xhd]
 ·have:j+1=l.length:=by omega
  rw[this,List.take_length]at hc
  refine hX _ _ (by simp) ?_
  simp -implicitDefEqProofs (disch:=first|omega|simp only[go_sem]) only[go_sem,true_and,f0]
  exact done1 hc
end Go.Proofs.YtheamfnbfgiaeaaGreat
namespace Go.Proofs.YtheamfnbfgiaeaaGreat
open Go.D
set_option maxRecDepth 100000
section
variable {α:Type} (key:α→Key)
def Yv (l:List α) (k:Key):Option α:=l.reverse.find? fun p=>key p=k
def byK (l:List α):List α:=(Z3a (l.map key)).filterMap (Yv key l)
def X3a (x:α):List α→List α
 | []=>[x]
 | y :: r=>if YQ (key y) (key x)=true then y :: X3a x r else if key y=key x then x :: r else x :: y :: r
abbrev UpB (l:List α):Prop:=l.Pairwise fun a b=>YQ (key a) (key b)=true
variable {key}
theorem h0a {l:List α} {k:Key} {x:α} (h:Yv key l k=some x):x∈l∧key x=k:=by
 refine ⟨List.mem_reverse.1 (List.mem_of_find?_eq_some h),?_⟩
 have:=List.find?_some h
 simpa using this
theorem H6a {l:List α} {k:Key}:Yv key l k=none↔k∉l.map key:=by
 unfold Yv
 rw[List.find?_eq_none]
 constructor
 ·intro h hm
  obtain ⟨p,hp,rfl⟩:=List.mem_map.1 hm
  have:=h p (List.mem_reverse.2 hp)
  simp at this
 ·intro h p hp e
  exact h (List.mem_map.2 ⟨p,List.mem_reverse.1 hp,by simpa using e⟩)
theorem F5a {l:List α} {k:Key} (h:k∈l.map key):∃ x,Yv key l k=some x:=by
 cases hq:Yv key l k with
 | some q=>exact ⟨q,rfl⟩
 | none=>exact absurd h (H6a.1 hq)
theorem P9a {l:List α} {x:α} {k:Key}:Yv key (l++[x]) k=if key x=k then some x else Yv key l k:=by
 unfold Yv
 rw[List.reverse_append]
 by_cases h:key x=k
 ·simp[h]
 ·simp[h]
theorem H3a {l:List α} {x:α}:x∈byK key l↔Yv key l (key x)=some x:=by
 unfold byK
 rw[List.mem_filterMap]
 constructor
 ·rintro ⟨k,_,hx⟩
  rw[(h0a hx).2]
  exact hx
 ·intro h
  exact ⟨key x,mem_keysN.2 (List.mem_map.2 ⟨x,(h0a h).1,rfl⟩),h⟩
theorem h5a (l:List α):UpB key (byK key l):=by
 unfold byK UpB
 rw[List.pairwise_filterMap]
 exact (f9a (l.map key)).imp fun {a b} hab x hx y hy=>by
  rw[(h0a hx).2,(h0a hy).2]
  exact hab
theorem l0b:∀ {l m:List α},UpB key l→UpB key m→(∀ x,x∈l↔x∈m)→l=m
 | [],[],_,_,_=>rfl
 | [],y :: m,_,_,h=>by have:=(h y).2 (by simp);simp at this
 | x :: l,[],_,_,h=>by have:=(h x).1 (by simp);simp at this
 | x :: l,y :: m,hl,hm,h=>by
   obtain ⟨hx,hl'⟩:=List.pairwise_cons.1 hl
   obtain ⟨hy,hm'⟩:=List.pairwise_cons.1 hm
   have e:x=y:=by
    rcases List.mem_cons.1 ((h x).1 (by simp)) with e | hxm
    ·exact e
    rcases List.mem_cons.1 ((h y).2 (by simp)) with e | hyl
    ·exact e.symm
    have h1:=hy x hxm
    have h2:=hx y hyl
    rw[O9a h1]at h2
    cases h2
   subst e
   congr 1
   refine l0b hl' hm' fun z=>?_
   have nx:∀ {k:List α},(∀ w∈k,YQ (key x) (key w)=true)→z∈k→z≠x:=fun hk hz e=>by
    subst e
    have:=hk z hz
    rw[m1a]at this
    cases this
   constructor
   ·intro hz
    rcases List.mem_cons.1 ((h z).1 (List.mem_cons_of_mem _ hz)) with e | hz2
    ·exact absurd e (nx hx hz)
    ·exact hz2
   ·intro hz
    rcases List.mem_cons.1 ((h z).2 (List.mem_cons_of_mem _ hz)) with e | hz2
    ·exact absurd e (nx hy hz)
    ·exact hz2
theorem h9a {x z:α}:∀ {l:List α},UpB key l→(z∈X3a key x l↔z=x∨z∈l∧key z≠key x)
 | [],_=>by simp[X3a]
 | y :: l,h=>by
   obtain ⟨hy,hl⟩:=List.pairwise_cons.1 h
   unfold X3a
   by_cases h1:YQ (key y) (key x)=true
   ·rw[if_pos h1,List.mem_cons,h9a hl,List.mem_cons]
    have hne:key y≠key x:=fun e=>by rw[e,m1a]at h1;cases h1
    constructor
    ·rintro (rfl | rfl | ⟨a,b⟩)
     ·exact .inr ⟨.inl rfl,hne⟩
     ·exact .inl rfl
     ·exact .inr ⟨.inr a,b⟩
    ·rintro (rfl | ⟨rfl | a,b⟩)
     ·exact .inr (.inl rfl)
     ·exact .inl rfl
     ·exact .inr (.inr ⟨a,b⟩)
   ·rw[if_neg h1]
    by_cases h2:key y=key x
    ·rw[if_pos h2,List.mem_cons,List.mem_cons]
     constructor
     ·rintro (rfl | a)
      ·exact .inl rfl
      ·refine .inr ⟨.inr a,fun e=>?_⟩
       have:=hy z a
       rw[h2,e,m1a]at this
       cases this
     ·rintro (rfl | ⟨rfl | a,b⟩)
      ·exact .inl rfl
      ·exact absurd h2 b
      ·exact .inr a
    ·rw[if_neg h2,List.mem_cons,List.mem_cons]
     have hlt:YQ (key x) (key y)=true:=E2a (by simpa using h1) h2
     constructor
     ·rintro (rfl | rfl | a)
      ·exact .inl rfl
      ·exact .inr ⟨.inl rfl,h2⟩
      ·refine .inr ⟨.inr a,fun e=>?_⟩
       have:=n3a hlt (hy z a)
       rw[e,m1a]at this
       cases this
     ·rintro (rfl | ⟨rfl | a,b⟩)
      ·exact .inl rfl
      ·exact .inr (.inl rfl)
      ·exact .inr (.inr a)
theorem H0b {x:α}:∀ {l:List α},UpB key l→UpB key (X3a key x l)
 | [],_=>by simp[X3a,UpB]
 | y :: l,h=>by
   obtain ⟨hy,hl⟩:=List.pairwise_cons.1 h
   unfold X3a
   by_cases h1:YQ (key y) (key x)=true
   ·rw[if_pos h1]
    refine List.pairwise_cons.2 ⟨fun z hz=>?_,H0b hl⟩
    rcases (h9a hl).1 hz with rfl | ⟨a,_⟩
    ·exact h1
    ·exact hy z a
   ·rw[if_neg h1]
    by_cases h2:key y=key x
    ·rw[if_pos h2]
     exact List.pairwise_cons.2 ⟨fun z hz=>by rw[← h2];exact hy z hz,hl⟩
    ·rw[if_neg h2]
     have hlt:YQ (key x) (key y)=true:=E2a (by simpa using h1) h2
     refine List.pairwise_cons.2 ⟨fun z hz=>?_,h⟩
     rcases List.mem_cons.1 hz with rfl | hz
     ·exact hlt
     ·exact n3a hlt (hy z hz)
theorem G8b {l:List α} (h:UpB key l):byK key l=l:=by
 refine l0b (h5a _) h fun z=>?_
 rw[H3a]
 constructor
 ·exact fun e=>(h0a e).1
 ·intro hz
  obtain ⟨y,hy⟩:=F5a (key:=key) (List.mem_map.2 ⟨z,hz,rfl⟩)
  obtain ⟨h1,h2⟩:=h0a hy
  rw[hy]
  congr 1
  obtain ⟨i,hi,rfl⟩:=List.getElem_of_mem h1
  obtain ⟨j,hj,rfl⟩:=List.getElem_of_mem hz
  rcases Nat.lt_trichotomy i j with hij | rfl | hij
  ·have:=List.pairwise_iff_getElem.1 h i j hi hj hij
   rw[h2,m1a]at this
   cases this
  ·rfl
  ·have:=List.pairwise_iff_getElem.1 h j i hj hi hij
   rw[h2,m1a]at this
   cases this
theorem d8a (l:List α):(byK key l).length≤l.length:=by
 have h1:=List.length_filterMap_le (Yv key l) (Z3a (l.map key))
 have h2:=o1b (l.map key)
 rw[List.length_map]at h2
 exact Nat.le_trans h1 h2
theorem E7b {l:List α} {x:α} (h:x∈byK key l):x∈l:=(h0a (H3a.1 h)).1
end
end Go.Proofs.YtheamfnbfgiaeaaGreat
namespace Go.Proofs.YtheamfnbfgiaeaaGreat
open Go.D
set_option maxRecDepth 100000
structure s2b where
 e:Int
 vs:List Int
 ch:List Change
 s:Int
 deriving DecidableEq
structure RS where
 reg:List Int
 w:List Change
 out:List Int
def U2a (m:List Pair) (w:List Change) (k:Key):Int × Bool:=
 match Yv Change.k w k with
 | some c=>(c.v,!c.e)
 | none=>match Yv Pair.k m k with
   | some p=>(p.v,true)
   | none=>(0,false)
def Q2a (t:Txn) (l:List Pair):List Pair:=(byK Pair.k l).filter fun p=>decide (p.k∈t.reads)
def Y3a:Key:=⟨0,0⟩
def u0d:Change:=⟨Y3a,0,false⟩
abbrev RS.r (s:RS) (i:Int):Int:=s.reg.getD i.toNat 0
abbrev RS.set (s:RS) (i:Int) (v:Int):RS:={ s with reg:=s.reg.set i.toNat v }
abbrev RS.put (s:RS) (c:Change):RS:={ s with w:=s.w++[c] }
def H2a (x:Instr) (s:RS):Key:=⟨IntKind.i32.wrap x.imm,s.r x.b⟩
def ZY (t:Txn) (m:List Pair) (x:Instr) (s:RS):Int × RS × Option Int:=
 if x.op=0 then (0,s,none)
 else if x.op=1 then (-1,s.set x.a x.imm,none)
 else if x.op=2 then (-1,s.set x.a (t.args.getD x.imm.toNat 0),none)
 else if x.op=7 then (-1,s.set x.a (s.r x.b),none)
 else if x.op=3 then (-1,s.set x.a (U2a m s.w (t.reads.getD x.imm.toNat Y3a)).1,none)
 else if x.op=4 then (-1,s.set x.a (if (U2a m s.w (t.reads.getD x.imm.toNat Y3a)).2 then 1 else 0),none)
 else if x.op=5 then (-1,s.put ⟨t.writes.getD x.imm.toNat Y3a,s.r x.a,false⟩,none)
 else if x.op=6 then (-1,s.put ⟨t.writes.getD x.imm.toNat Y3a,0,true⟩,none)
 else if x.op=19 then (-1,s.set x.a (n6a (s.r x.a) x.imm),none)
 else if x.op=22 then (-1,s,some x.imm)
 else if x.op=23 then (-1,s,if s.r x.a=0 then none else some x.imm)
 else if x.op=24 then (if 8≤s.out.length then (5,s,none) else (-1,{ s with out:=s.out++[s.r x.a] },none))
 else if x.op=25 then (100+x.imm,s,none)
 else if x.op=26 then (if H2a x s∈t.reads then (-1,s.set x.a (U2a m s.w (H2a x s)).1,none) else (4,s,none))
 else if x.op=27 then (if H2a x s∈t.writes then (-1,s.put ⟨H2a x s,s.r x.a,false⟩,none) else (4,s,none))
 else if (X1a x.op (s.r x.a) (s.r x.b)).2=0 then (-1,s.set x.a (X1a x.op (s.r x.a) (s.r x.b)).1,none)
 else ((X1a x.op (s.r x.a) (s.r x.b)).2,s,none)
def a2a (t:Txn) (m:List Pair):Nat→Nat→Nat→RS→s2b
 | n,i,k,s=>
   if t.code.length≤i then ⟨0,s.out,byK Change.k s.w,k⟩ else
   match n with
   | 0=>⟨2,[],[],k⟩
   | n+1=>
     if (ZY t m (YV t.code i) s).1=-1 then a2a t m n (((ZY t m (YV t.code i) s).2.2.getD (i+Xq (t.code.getD i 0))).toNat) (k+1) (ZY t m (YV t.code i) s).2.1
     else if (ZY t m (YV t.code i) s).1=0 then ⟨0,(ZY t m (YV t.code i) s).2.1.out,byK Change.k (ZY t m (YV t.code i) s).2.1.w,(k+1:Nat)⟩
     else ⟨(ZY t m (YV t.code i) s).1,[],[],(k+1:Nat)⟩
def rs0:RS:=⟨[0,0,0,0,0,0,0,0],[],[]⟩
def F6a (f:Int):Nat:=(max 0 (min f 4096)).toNat
def b4a (t:Txn) (l:List Pair) (f:Int):s2b:=if T2a t≠0 then ⟨1,[],[],0⟩ else a2a t (Q2a t l) (F6a f) 0 0 rs0
theorem E3b (f:Int):F6a f≤4096:=by unfold F6a;omega
theorem Q6a {t:Txn} {m:List Pair} {n i k:Nat} {s:RS} (h:t.code.length≤i):a2a t m n i k s=⟨0,s.out,byK Change.k s.w,k⟩:=by
 unfold a2a
 rw[if_pos h]
theorem P7a {t:Txn} {m:List Pair} {i k:Nat} {s:RS} (h:i<t.code.length):a2a t m 0 i k s=⟨2,[],[],k⟩:=by
 unfold a2a
 rw[if_neg (by omega)]
theorem N0b {t:Txn} {m:List Pair} {n i k:Nat} {s:RS} (h:i<t.code.length) (hs:(ZY t m (YV t.code i) s).1=-1) :
 a2a t m (n+1) i k s=a2a t m n (((ZY t m (YV t.code i) s).2.2.getD (i+Xq (t.code.getD i 0))).toNat) (k+1) (ZY t m (YV t.code i) s).2.1:=by
 conv=>lhs;unfold a2a
 rw[if_neg (by omega)]
 simp only[hs,if_true]
theorem Q7a {t:Txn} {m:List Pair} {n i k:Nat} {s:RS} (h:i<t.code.length) (hs:(ZY t m (YV t.code i) s).1=0) :
 a2a t m (n+1) i k s=⟨0,(ZY t m (YV t.code i) s).2.1.out,byK Change.k (ZY t m (YV t.code i) s).2.1.w,(k+1:Nat)⟩:=by
 unfold a2a
 rw[if_neg (by omega)]
 simp only[hs,if_true]
 rw[if_neg (by decide)]
theorem R7a {t:Txn} {m:List Pair} {n i k:Nat} {s:RS} (h:i<t.code.length) (hs:(ZY t m (YV t.code i) s).1 ≠ -1) (h0:(ZY t m (YV t.code i) s).1≠0) :
 a2a t m (n+1) i k s=⟨(ZY t m (YV t.code i) s).1,[],[],(k+1:Nat)⟩:=by
 unfold a2a
 rw[if_neg (by omega)]
 simp only[hs,h0,if_false]
theorem n9a {l:List Int}:∀ {n i:Nat},l.length - i≤n→(XJ l n i).2=0→i≤l.length→∀ j x,(XJ l n i).1[j]? = some x →
 ∃ p:Nat,x=YV l p∧i≤p∧(Xv l p).2.2=0∧(j=0→p=i)∧((p:Int)+Xq (l.getD p 0)).toNat=(match (XJ l n i).1[j+1]? with | some y=>y.pos.toNat | none=>l.length)
 | 0,i,_,_,_,j,x,hx=>by simp[XJ]at hx
 | n+1,i,hn,he,hi,j,x,hx=>by
   by_cases hil:l.length≤i
   ·simp only[XJ]at hx
    rw[if_pos hil]at hx
    simp at hx
   ·by_cases h1:(Xv l i).2.2=0
    ·obtain ⟨a,b,c,d,e,f⟩:=Q1a h1
     have hw:XJ l (n+1) i=((Xv l i).1 :: (XJ l n (Xv l i).2.1.toNat).1,(XJ l n (Xv l i).2.1.toNat).2):=by
      simp only[XJ]
      rw[if_neg hil,if_pos h1]
     rw[hw]at he hx ⊢
     simp only at he hx ⊢
     have ih:=n9a (n:=n) (i:=(Xv l i).2.1.toNat) (by omega) he (by omega)
     cases j with
     | zero=>
       simp only[List.getElem?_cons_zero,Option.some.injEq]at hx
       subst hx
       refine ⟨i,a,Nat.le_refl _,h1,fun _=>rfl,?_⟩
       rw[List.getElem?_cons_succ]
       cases hy:(XJ l n (Xv l i).2.1.toNat).1[0]? with
       | some y=>
         obtain ⟨p,e1,_,_,e2,_⟩:=ih 0 y hy
         have:=e2 rfl
         subst this
         rw[e1]
         show _=(((Xv l i).2.1.toNat:Nat):Int).toNat
         rw[b]
         simp only[Int.toNat_natCast]
       | none=>
         have hnil:(XJ l n (Xv l i).2.1.toNat).1=[]:=by
          cases hl:(XJ l n (Xv l i).2.1.toNat).1 with
          | nil=>rfl
          | cons y ys=>rw[hl]at hy;simp at hy
         have hge:l.length≤(Xv l i).2.1.toNat:=by
          cases n with
          | zero=>omega
          | succ n=>
            simp only[XJ]at hnil he
            by_cases h3:l.length≤(Xv l i).2.1.toNat
            ·exact h3
            ·rw[if_neg h3]at hnil he
             split at hnil
             ·simp at hnil
             ·rename_i h4
              rw[if_neg h4]at he
              exact absurd he h4
         show _=l.length
         omega
     | succ j=>
       rw[List.getElem?_cons_succ]at hx
       obtain ⟨p,e1,e2,e3,_,e5⟩:=ih j x hx
       refine ⟨p,e1,by omega,e3,fun h=>by omega,?_⟩
       rw[e5,List.getElem?_cons_succ]
    ·simp only[XJ]at he
     rw[if_neg hil,if_neg h1]at he
     exact absurd he h1
theorem t4b {l:List Int}:∀ {n i:Nat},(XJ l n i).1.Pairwise (fun x y=>x.pos<y.pos)∧∀ x∈(XJ l n i).1,(i:Int)≤x.pos
 | 0,i=>by simp[XJ]
 | n+1,i=>by
   simp only[XJ]
   split
   ·simp
   ·split
    ·rename_i h1
     obtain ⟨a,b,c,d,e,f⟩:=Q1a h1
     obtain ⟨u1,u2⟩:=t4b (l:=l) (n:=n) (i:=(Xv l i).2.1.toNat)
     have hp:(Xv l i).1.pos=i:=by rw[a];rfl
     refine ⟨List.pairwise_cons.2 ⟨fun y hy=>?_,u1⟩,fun x hx=>?_⟩
     ·have:=u2 y hy
      show (Xv l i).1.pos<y.pos
      omega
     ·rcases List.mem_cons.1 hx with rfl | hx
      ·omega
      ·have:=u2 x hx
       omega
    ·simp
def r1a (t:Txn) (i:Nat):Nat:=match (g1a t.code)[i]? with | some x=>x.pos.toNat | none=>t.code.length
theorem g8a {t:Txn} (h:N2a t.code=0):g1a t.code=(t0a t.code 0).1∧(t0a t.code 0).2=0∧l2a (t0a t.code 0).1=true∧t.code.length≤512:=by
 refine ⟨by rw[g1a,if_pos h],?_⟩
 unfold N2a at h
 split at h
 ·exact absurd h (by decide)
 ·rename_i h1
  split at h
  ·rename_i h2
   exact absurd h h2
  ·rename_i h2
   split at h
   ·rename_i h3
    exact ⟨by simpa using h2,h3,by omega⟩
   ·exact absurd h (by decide)
theorem t0b {t:Txn} (h:N2a t.code=0) {i:Nat} {x:Instr} (hx:(g1a t.code)[i]? = some x):r1a t i<t.code.length∧x=YV t.code (r1a t i)∧x.pos=r1a t i∧(Xv t.code (r1a t i)).2.2=0∧((r1a t i:Nat)+Xq (t.code.getD (r1a t i) 0):Int).toNat=r1a t (i+1):=by
 obtain ⟨e,e2,_,_⟩:=g8a h
 have hx':=hx
 rw[e]at hx'
 obtain ⟨p,a,b,c,d,f⟩:=n9a (by omega) e2 (Nat.zero_le _) i x hx'
 have hp:r1a t i=p:=by
  unfold r1a
  rw[hx]
  show x.pos.toNat=p
  rw[a]
  show ((p:Int)).toNat=p
  simp
 obtain ⟨_,_,hlt,_⟩:=Q1a c
 rw[hp]
 refine ⟨hlt,a,by rw[a];rfl,c,?_⟩
 rw[f]
 unfold r1a
 rw[e]
 rfl
theorem S8b {t:Txn} (h:N2a t.code=0):r1a t 0=0:=by
 obtain ⟨e,e2,_,_⟩:=g8a h
 cases hx:(g1a t.code)[0]? with
 | some x=>
   have hx':=hx
   rw[e]at hx'
   obtain ⟨p,a,b,c,d,f⟩:=n9a (by omega) e2 (Nat.zero_le _) 0 x hx'
   unfold r1a
   rw[hx]
   show x.pos.toNat=0
   rw[a,d rfl]
   rfl
 | none=>
   have hnil:(t0a t.code 0).1=[]:=by
    rw[← e]
    cases hl:g1a t.code with
    | nil=>rfl
    | cons y ys=>rw[hl]at hx;simp at hx
   have hl0:t.code.length≤0:=by
    by_cases h0:0<t.code.length
    ·rw[f6a h0]at hnil e2
     split at hnil
     ·simp at hnil
     ·rename_i h4
      rw[if_neg h4]at e2
      exact absurd e2 h4
    ·omega
   unfold r1a
   rw[hx]
   show t.code.length=0
   omega
theorem G6c {t:Txn}:(g1a t.code).Pairwise (fun x y=>x.pos<y.pos):=by
 unfold g1a
 split
 ·exact t4b.1
 ·exact .nil
theorem N2b {t:Txn} {i:Nat} (h:(g1a t.code).length≤i):r1a t i=t.code.length:=by
 unfold r1a
 rw[List.getElem?_eq_none h]
theorem R8b {t:Txn} (h:N2a t.code=0) {x:Instr} (hx:x∈g1a t.code) (hj:F1a x.op=true):∃ i y,(g1a t.code)[i]? = some y∧y.pos=x.imm∧x.imm.toNat=r1a t i:=by
 obtain ⟨e,_,e3,_⟩:=g8a h
 rw[e]at hx
 unfold l2a at e3
 have:=List.all_eq_true.1 e3 x hx
 rw[hj]at this
 simp only[Bool.not_true,Bool.false_or,decide_eq_true_eq]at this
 obtain ⟨y,hy,hp⟩:=List.mem_map.1 this
 obtain ⟨i,hi⟩:=List.mem_iff_getElem?.1 hy
 rw[← e]at hi
 refine ⟨i,y,hi,hp,?_⟩
 unfold r1a
 rw[hi,← hp]
theorem k1c {t:Txn} (h:T2a t=0):N2a t.code=0∧(∀ x∈g1a t.code,v1a t x=false)∧t.args.length≤8∧t.reads.length≤16∧t.writes.length≤16:=by
 unfold T2a at h
 split at h
 ·exact absurd h (by decide)
 split at h
 ·exact absurd h (by decide)
 rename_i h2
 split at h
 ·exact absurd h (by decide)
 split at h
 ·rename_i h4
  exact absurd h h4
 rename_i h4
 split at h
 ·exact absurd h (by decide)
 rename_i h5
 refine ⟨by simpa using h4,fun x hx=>?_,by omega,by omega,by omega⟩
 simp only[Bool.not_eq_true,List.any_eq_false]at h5
 simpa using h5 x hx
structure j4c (t:Txn) (x:Instr):Prop where
 a:0≤x.a∧x.a<8
 b:0≤x.b∧x.b<8
 imm : -32768≤x.imm∧x.imm≤65535
 imm0:x.op≠1→0≤x.imm
 rd:x.op=3∨x.op=4→x.imm<t.reads.length
 wr:x.op=5∨x.op=6→x.imm<t.writes.length
 ar:x.op=2→x.imm<t.args.length
 op:0≤x.op∧x.op<28
theorem o1d {t:Txn} (h:T2a t=0) (hb:∀ j,0≤t.code.getD j 0∧t.code.getD j 0≤255) {i:Nat} {x:Instr} (hx:(g1a t.code)[i]? = some x):j4c t x:=by
 obtain ⟨h1,h2,_,_,_⟩:=k1c h
 obtain ⟨_,e1,_,e3,_⟩:=t0b h1 hx
 have hbad:=h2 x (List.mem_of_getElem? hx)
 obtain ⟨_,_,_,d,_,f⟩:=Q1a e3
 obtain ⟨p,hp⟩:∃ p,r1a t i=p:=⟨_,rfl⟩
 rw[hp]at e1 e3 d f
 rw[← e1]at f
 have hop:x.op=t.code.getD p 0:=by rw[e1];rfl
 have hs:=j0b (n:=x.op) (by rw[hop];omega)
 have b3:=hb (p+1+(if YJ (t.code.getD p 0) then 1 else 0)+if XK (t.code.getD p 0) then 1 else 0)
 have b4:=hb (p+1+(if YJ (t.code.getD p 0) then 1 else 0)+(if XK (t.code.getD p 0) then 1 else 0)+1)
 have himm:x.imm=r5a (t.code.getD p 0) (U1a (t.code.getD p 0)) (t.code.getD (p+1+(if YJ (t.code.getD p 0) then 1 else 0)+if XK (t.code.getD p 0) then 1 else 0) 0) (t.code.getD (p+1+(if YJ (t.code.getD p 0) then 1 else 0)+(if XK (t.code.getD p 0) then 1 else 0)+1) 0):=by rw[e1];rfl
 generalize t.code.getD (p+1+(if YJ (t.code.getD p 0) then 1 else 0)+if XK (t.code.getD p 0) then 1 else 0) 0=y3 at b3 himm
 generalize t.code.getD (p+1+(if YJ (t.code.getD p 0) then 1 else 0)+(if XK (t.code.getD p 0) then 1 else 0)+1) 0=y4 at b4 himm
 have hii:(-32768≤x.imm∧x.imm≤65535)∧(x.op≠1→0≤x.imm):=by
  rw[himm,hop]
  unfold r5a
  constructor
  ·repeat' split
   all_goals omega
  ·intro hne
   repeat' split
   all_goals omega
 have ha0:YJ x.op=false→x.a=0:=fun hf=>by
  rw[e1]at hf ⊢
  show (if YJ (t.code.getD p 0)=true then _ else 0)=0
  rw[if_neg (by rw[show YJ (t.code.getD p 0)=false from hf];decide)]
 have hb0:XK x.op=false→x.b=0:=fun hf=>by
  rw[e1]at hf ⊢
  show (if XK (t.code.getD p 0)=true then _ else 0)=0
  rw[if_neg (by rw[show XK (t.code.getD p 0)=false from hf];decide)]
 have hidx:(YJ x.op=true→0≤x.a∧x.a<8)∧(XK x.op=true→0≤x.b∧x.b<8):=by
  unfold O2a at f
  split at f
  ·exact absurd f (by decide)
  ·rename_i hn
   simp only[Bool.or_eq_true,Bool.and_eq_true,decide_eq_true_eq,not_or,not_and]at hn
   refine ⟨fun h=>?_,fun h=>?_⟩
   ·have:=hn.1 h
    omega
   ·have:=hn.2 h
    omega
 unfold v1a at hbad
 refine ⟨?_,?_,hii.1,hii.2,fun h=>?_,fun h=>?_,fun h=>?_,hs.2.2⟩
 ·cases hf:YJ x.op with
  | true=>exact hidx.1 hf
  | false=>rw[ha0 hf];decide
 ·cases hf:XK x.op with
  | true=>exact hidx.2 hf
  | false=>rw[hb0 hf];decide
 ·rw[if_pos h]at hbad
  simpa using hbad
 ·rw[if_neg (by omega),if_pos h]at hbad
  simpa using hbad
 ·rw[if_neg (by omega),if_neg (by omega),if_pos h]at hbad
  simpa using hbad
theorem R7b {t:Txn} {m:List Pair}:∀ {n i k:Nat} {s:RS},(k:Int)≤(a2a t m n i k s).s∧(a2a t m n i k s).s≤k+n
 | n,i,k,s=>by
   by_cases h:t.code.length≤i
   ·rw[Q6a h]
    show (k:Int)≤k∧(k:Int)≤k+n
    omega
   ·cases n with
    | zero=>rw[P7a (by omega)];show (k:Int)≤k∧(k:Int)≤k+(0:Nat);omega
    | succ n=>
      by_cases h1:(ZY t m (YV t.code i) s).1=-1
      ·rw[N0b (by omega) h1]
       have:=R7b (t:=t) (m:=m) (n:=n) (i:=((ZY t m (YV t.code i) s).2.2.getD (i+Xq (t.code.getD i 0))).toNat) (k:=k+1) (s:=(ZY t m (YV t.code i) s).2.1)
       omega
      ·by_cases h0:(ZY t m (YV t.code i) s).1=0
       ·rw[Q7a (by omega) h0]
        show (k:Int)≤((k+1:Nat):Int)∧((k+1:Nat):Int)≤k+((n+1:Nat):Int)
        omega
       ·rw[R7a (by omega) h1 h0]
        show (k:Int)≤((k+1:Nat):Int)∧((k+1:Nat):Int)≤k+((n+1:Nat):Int)
        omega
theorem X5b {α:Type} {P:α→Prop} {c:Prop} [Decidable c] {a b:α} (h1:c→P a) (h2:¬ c→P b):P (if c then a else b):=by
 by_cases h:c
 ·rw[if_pos h];exact h1 h
 ·rw[if_neg h];exact h2 h
theorem j5b {t:Txn} {m:List Pair} {x:Instr} {s:RS}:(ZY t m x s).2.1.w.length≤s.w.length+1∧(ZY t m x s).2.1.out.length≤s.out.length+1:=by
 unfold ZY
 repeat' (refine X5b (P:=fun r:Int × RS × Option Int=>r.2.1.w.length≤s.w.length+1∧r.2.1.out.length≤s.out.length+1) (fun _=>?_) (fun _=>?_))
 all_goals simp
theorem f4b {t:Txn} {m:List Pair}:∀ {n i k:Nat} {s:RS},(a2a t m n i k s).vs.length≤s.out.length+n∧(a2a t m n i k s).ch.length≤s.w.length+n
 | n,i,k,s=>by
   by_cases h:t.code.length≤i
   ·rw[Q6a h]
    have:=d8a (key:=Change.k) s.w
    exact ⟨Nat.le_add_right _ _,Nat.le_trans this (Nat.le_add_right _ _)⟩
   ·cases n with
    | zero=>rw[P7a (by omega)];exact ⟨Nat.zero_le _,Nat.zero_le _⟩
    | succ n=>
      have hs:=j5b (t:=t) (m:=m) (x:=YV t.code i) (s:=s)
      by_cases h1:(ZY t m (YV t.code i) s).1=-1
      ·rw[N0b (by omega) h1]
       have:=f4b (t:=t) (m:=m) (n:=n) (i:=((ZY t m (YV t.code i) s).2.2.getD (i+Xq (t.code.getD i 0))).toNat) (k:=k+1) (s:=(ZY t m (YV t.code i) s).2.1)
       omega
      ·by_cases h0:(ZY t m (YV t.code i) s).1=0
       ·rw[Q7a (by omega) h0]
        have:=d8a (key:=Change.k) (ZY t m (YV t.code i) s).2.1.w
        show (ZY t m (YV t.code i) s).2.1.out.length≤_∧(byK Change.k (ZY t m (YV t.code i) s).2.1.w).length≤_
        omega
       ·rw[R7a (by omega) h1 h0]
        exact ⟨Nat.zero_le _,Nat.zero_le _⟩
theorem f0b {t:Txn} {l:List Pair} {f:Int}:(b4a t l f).vs.length≤4096∧(b4a t l f).ch.length≤4096:=by
 unfold b4a
 split
 ·exact ⟨Nat.zero_le _,Nat.zero_le _⟩
 ·have h1:=f4b (t:=t) (m:=Q2a t l) (n:=F6a f) (i:=0) (k:=0) (s:=rs0)
  have h2:=E3b f
  have h3:rs0.out.length=0:=rfl
  have h4:rs0.w.length=0:=rfl
  omega
theorem q1b {α:Type} {key:α→Key} {l:List α} (h:UpB key l) {p:α}:Yv key l (key p)=some p↔p∈l:=by
 rw[← H3a,G8b h]
theorem i0c {α:Type} {key:α→Key} {l:List α} {k:Key}:Yv key (byK key l) k=Yv key l k:=by
 cases h:Yv key l k with
 | some x=>
   have hx:=h0a h
   have:Yv key (byK key l) (key x)=some x:=(q1b (h5a l)).2 (H3a.2 (by rw[hx.2];exact h))
   rw[hx.2]at this
   exact this
 | none=>
   refine H6a.2 fun hm=>?_
   obtain ⟨x,hx,rfl⟩:=List.mem_map.1 hm
   have:=H3a.1 hx
   rw[h]at this
   cases this
end Go.Proofs.YtheamfnbfgiaeaaGreat
namespace Go.D
open Go.Sort Go.Proofs
variable {P:Program} {α:Type}
def h00:DHeap:=⟨fun _=>none,0,0⟩
theorem W4d (w:World):Sim (fun _=>none) h00 w where
 lt:=fun _ _ h=>(by cases h)
 blk:=fun _ _ h=>(by cases h)
 obj:=fun _ _ h=>(by cases h)
 sep:=fun _ _ _ _ h=>(by cases h)
 glob:=fun g hg=>absurd hg (Nat.not_lt_zero g)
theorem g3c {ι':Inj} {h':DHeap} {w w':World} (st:Step (fun _=>none) ι' h00 h' w w'):∃ q os',w'=grow (w.drewN q) os':=by
 refine ⟨w'.drawn - w.drawn,w'.heap.extract w.heap.size w'.heap.size,?_⟩
 have hh:w'.heap=w.heap++w'.heap.extract w.heap.size w'.heap.size:=by
  refine Array.ext_getElem? fun b=>?_
  rw[Array.getElem?_append]
  by_cases hb:b<w.heap.size
  ·rw[if_pos hb]
   exact st.frame b hb fun id e he=>by cases he
  ·rw[if_neg hb,Array.getElem?_extract]
   have:=st.size
   by_cases hb2:b<w'.heap.size
   ·rw[if_pos (by omega)]
    congr 1;omega
   ·rw[Array.getElem?_eq_none (by omega),if_neg (by omega)]
 have h1:=st.os
 have h2:=st.tape
 have h3:=st.output
 have h4:=st.drawn
 obtain ⟨hp,tp,dr,o,out⟩:=w'
 simp only at hh h1 h2 h3 h4 ⊢
 subst h1 h2 h3
 rw[World.mk.injEq]
 refine ⟨hh,rfl,?_,rfl,rfl⟩
 show dr=w.drawn+(dr - w.drawn)
 omega
theorem VRel.aggFlat {ι:Inj} {l:List Value} (h:l.all Yw=true):VRel ι (.agg l.toArray) (.agg l.toArray):=
 .agg rfl fun i v v' a b=>by
  rw[a]at b;cases b
  exact E3a ι (W0a h (by simpa using a))
theorem J6b {g:Nat} {enc:α→List Value} {k:Nat} {cf:α→α→Int} [Inhabited α] (hflat:∀ x,(enc x).all Yw=true) (hdc:∀ x y,DC P g [.agg (enc x).toArray,.agg (enc y).toArray] h00 (.ret (.int .i64 (cf x y))) h00) (blk off size:Nat) (w:World) :
 CmpLays P g #[] enc k cf blk off size w:=by
 intro m os dk _ x y
 have:=(hdc x y).2 0 (fun _=>none) (sortWorldK enc k w blk off m dk os) (#[.agg (enc x).toArray,.agg (enc y).toArray]++#[]) (W4d _) (by
  simp only[Array.append_empty]
  exact ((LRel.nil _).cons (.aggFlat (hflat y))).cons (.aggFlat (hflat x)))
 refine Calls.mono (callsIn_wide.1 this) ?_
 rintro e w' ⟨ι',he,_,st⟩
 cases e with
 | returned v=>cases he;exact ⟨rfl,g3c st⟩
 | _=>exact he.elim
theorem I8a {F:FRep α} [Inhabited α]:∀ (l:List α) (i r:Nat),i<l.length→r<F.z→(l.flatMap F.enc)[i*F.z+r]? = (F.enc (l.toArray[i]!))[r]?
 | [],i,r,hi,_=>by simp at hi
 | x :: l,0,r,_,hr=>by
   rw[List.flatMap_cons,Nat.zero_mul,Nat.zero_add,List.getElem?_append_left (by rw[F.len];exact hr)]
   rfl
 | x :: l,i+1,r,hi,hr=>by
   rw[List.flatMap_cons,Nat.succ_mul,List.getElem?_append_right (by rw[F.len];omega),F.len,show i*F.z+F.z+r - F.z=i*F.z+r by omega]
   have:=I8a l i r (by simpa using hi) hr
   rw[this]
   simp
theorem K9a {F:FRep α} [Inhabited α] (l:List α):flatK F.enc F.z l.toArray=(l.flatMap F.enc).toArray:=by
 have hs:(flatK F.enc F.z l.toArray).size=(l.flatMap F.enc).toArray.size:=by rw[size_flatK,List.size_toArray,List.size_toArray,ZW]
 refine ext_get! hs fun t ht=>?_
 rw[size_flatK,List.size_toArray]at ht
 rw[get_flatK _ _ _ _ (by simpa using ht)]
 have hz:0<F.z:=by
  rcases Nat.eq_zero_or_pos F.z with h | h
  ·rw[h]at ht;simp at ht
  ·exact h
 have h1:t / F.z<l.length:=(Nat.div_lt_iff_lt_mul hz).2 ht
 have h2:t % F.z<F.z:=Nat.mod_lt _ hz
 have:=I8a (F:=F) l (t / F.z) (t % F.z) h1 h2
 rw[Nat.div_add_mod' t F.z]at this
 have h3:t<(l.flatMap F.enc).length:=by rw[ZW];exact ht
 obtain ⟨x,hx⟩:∃ x,l.toArray[t / F.z]! = x:=⟨_,rfl⟩
 rw[hx]at this ⊢
 have h4:t % F.z<(F.enc x).length:=by rw[F.len];exact h2
 rw[List.getElem?_eq_getElem h3,List.getElem?_eq_getElem h4]at this
 rw[getElem!_pos (F.enc x) (t % F.z) h4,getElem!_pos (l.flatMap F.enc).toArray t (by simpa using h3)]
 simpa using (Option.some.inj this).symm
theorem h3c {F:FRep α} [Inhabited α] {ι:Inj} {h:DHeap} {w:World} {id o:Nat} {e:Ent} {cells:List Value} {esz:Nat} {l:List α} (s:Sim ι h w) (he:ι id=some e) (hg:h.get id=some (.row cells esz false)) (hl:o+l.length*F.z≤cells.length)
 (hc:(cells.drop o).take (l.length*F.z)=l.flatMap F.enc):HoldsK F.enc F.z w e.block (e.shift+o) l.toArray:=by
 obtain ⟨_,_,cur,ty,fz,h3,h4,h5⟩:=s.row he hg
 obtain ⟨hsz,hlen,hfz⟩:=h5 rfl
 unfold HoldsK
 rw[K9a]
 intro j hj
 have hj2:j<l.length*F.z:=by rw[← ZW];simpa using hj
 have h6:cells[o+j]? = (l.flatMap F.enc)[j]?:=by
  rw[← hc,List.getElem?_take,if_pos hj2,List.getElem?_drop]
 have h7:j<(l.flatMap F.enc).length:=by simpa using hj
 rw[List.getElem?_eq_getElem h7]at h6
 obtain ⟨v',h8,h9⟩:=h4 _ _ h6
 have hfl:=List.all_eq_true.1 (W3a F l) _ (List.getElem_mem h7)
 have h10:v'=(l.flatMap F.enc)[j]:=by
  unfold Yw at hfl
  generalize (l.flatMap F.enc)[j]=x at hfl h9
  cases h9 <;> first | rfl | cases hfl
 constructor
 ·simp only[World.cell?,h3]
  rw[getElem!_pos (l.flatMap F.enc).toArray j (by simpa using h7)]
  simp only[id_eq,List.getElem_toArray]
  rw[show e.shift+o+j=e.shift+(o+j) by omega,h8,h10]
  rfl
 ·simp only[World.frozen?,h3]
  rw[Bool.and_eq_false_iff]
  simp only[decide_eq_false_iff_not]
  have:=hfz (e.shift+o+j) (by omega)
  omega
theorem Sim.rewrite {ι:Inj} {h:DHeap} {w w':World} {id:Nat} {e:Ent} {cells cells':List Value} {esz:Nat} {cur cur':Array Value} {ty:TypeId} {fz:Nat × Nat} (s:Sim ι h w) (he:ι id=some e) (hg:h.get id=some (.row cells esz false)) (hcur:w.heap[e.block]? = some (.cells cur ty fz)) (hcur':w'.heap[e.block]? = some (.cells cur' ty fz)) (hsz:cur'.size=cur.size)
 (hrel:∀ (i:Nat) v,cells'[i]? = some v→∃ v',cur'[e.shift+i]? = some v'∧VRel ι v v') (hlen:cells'.length=cells.length) (hoth:∀ b,b<w.heap.size→b≠e.block→w'.heap[b]? = w.heap[b]?) (hsize:w.heap.size≤w'.heap.size) (h1:w'.os=w.os) (h2:w'.tape=w.tape) (h3:w'.output=w.output) (h4:w.drawn≤w'.drawn) :
 Sim ι (h.set id (.row cells' esz false)) w'∧Step ι ι h (h.set id (.row cells' esz false)) w w':=by
 obtain ⟨hro,hez,cur0,ty0,fz0,k3,k4,k5⟩:=s.row he hg
 rw[hcur]at k3
 cases k3
 obtain ⟨l1,l2,l3⟩:=k5 rfl
 refine ⟨⟨s.lt,fun i x hx=>Nat.lt_of_lt_of_le (s.blk i x hx) hsize,?_,?_,s.glob⟩,⟨Inj.le_refl _,fun i x a b=>(by rw[a]at b;cases b),Nat.le_refl _,rfl,h1,h2,h3,hsize,?_,h4⟩⟩
 ·intro id' e' h'
  simp only[DHeap.set]
  by_cases hid:id'=id
  ·subst hid
   rw[he]at h'
   cases h'
   exact ⟨.row cells' esz false,by rw[if_pos rfl],hro,hez,cur',ty,fz,hcur',hrel,fun _=>⟨by rw[hsz];exact l1,by rw[hlen];exact l2,l3⟩⟩
  ·rw[if_neg hid]
   obtain ⟨o,a,b⟩:=s.obj _ _ h'
   by_cases hbl:e'.block=e.block
   ·rcases s.sep id' id e' e h' he hid hbl with hd | hd | hd
    ·rw[a]at hd;cases hd;exact ⟨_,a,b⟩
    ·rw[hg]at hd;cases hd
    ·rw[hro]at hd;cases hd.2
   ·exact ⟨o,a,b.mono (Inj.le_refl _) (hoth _ (s.blk _ _ h') hbl)⟩
 ·intro id1 id2 e1 e2 a b c d
  simp only[DHeap.set]
  rcases s.sep id1 id2 e1 e2 a b c d with hd | hd | hd
  ·left
   rw[if_neg (fun hx=>by subst hx;rw[hg]at hd;cases hd)]
   exact hd
  ·right;left
   rw[if_neg (fun hx=>by subst hx;rw[hg]at hd;cases hd)]
   exact hd
  ·exact .inr (.inr hd)
 ·intro b hb hx
  refine hoth b hb fun hbe=>?_
  have hy:=hx id e he hbe.symm
  rw[hro]at hy;cases hy
theorem v4b {F:FRep α} [Inhabited α] {ι:Inj} {h:DHeap} {w:World} {id o:Nat} {e:Ent} {cells:List Value} {esz:Nat} (l':List α) (m:Nat) (os:Array Obj) (s:Sim ι h w) (he:ι id=some e) (hg:h.get id=some (.row cells esz false)) (hl:o+l'.length*F.z≤cells.length) :
 Sim ι (h.set id (.row (YZ cells o (l'.flatMap F.enc)) esz false)) (sortWorldK F.enc F.z w e.block (e.shift+o) m l'.toArray os)∧Step ι ι h (h.set id (.row (YZ cells o (l'.flatMap F.enc)) esz false)) w (sortWorldK F.enc F.z w e.block (e.shift+o) m l'.toArray os):=by
 obtain ⟨_,_,cur,ty,fz,h3,h4,h5⟩:=s.row he hg
 obtain ⟨hsz,hlen,hfz⟩:=h5 rfl
 have hb:=s.blk _ _ he
 have hlk:∀ b,b<w.heap.size→(sortWorldK F.enc F.z w e.block (e.shift+o) m l'.toArray os).heap[b]? = (w.heap.modify e.block (onCells (putCells _root_.id (e.shift+o) (l'.flatMap F.enc).toArray)))[b]?:=fun b hb=>by
  show ((w.heap.modify e.block (onCells (putCells _root_.id (e.shift+o) (flatK F.enc F.z l'.toArray))))++os)[b]? = _
  rw[Array.getElem?_append_left (by simpa using hb),K9a]
 refine s.rewrite (cur:=cur) (cur':=putCells _root_.id (e.shift+o) (l'.flatMap F.enc).toArray cur) (ty:=ty) (fz:=fz) he hg h3 ?_ (by simp[putCells]) (fun i v hv=>?_) (R2a _ _ _) (fun b hb hne=>?_) ?_ rfl rfl rfl (Nat.le_add_right _ _)
 ·rw[hlk _ hb,Array.getElem?_modify,if_pos rfl,h3]
  rfl
 ·rw[M3a,ZW]at hv
  simp only[putCells,Array.getElem?_mapIdx]
  by_cases hi:o≤i∧i<o+l'.length*F.z∧i<cells.length
  ·rw[if_pos hi]at hv
   obtain ⟨u,hu,_⟩:=h4 i cells[i] (List.getElem?_eq_getElem hi.2.2)
   rw[hu]
   have h7:i - o<(l'.flatMap F.enc).length:=by rw[ZW];omega
   have hv2:=hv
   rw[List.getElem?_eq_getElem h7]at hv2
   refine ⟨v,?_,E3a ι (W0a (W3a F l') hv)⟩
   simp only[Option.map_some,id_eq]
   rw[if_pos ⟨by omega,by simp only[List.size_toArray,ZW];omega⟩,show e.shift+i - (e.shift+o)=i - o by omega,getElem!_pos (l'.flatMap F.enc).toArray (i - o) (by simpa using h7)]
   simpa using hv2
  ·rw[if_neg hi]at hv
   obtain ⟨u,hu,hr⟩:=h4 i v hv
   have:=(List.getElem?_eq_some_iff.1 hv).1
   rw[hu]
   refine ⟨u,?_,hr⟩
   simp only[Option.map_some]
   rw[if_neg]
   simp only[List.size_toArray,ZW]
   omega
 ·rw[hlk b hb,Array.getElem?_modify,if_neg (fun hh=>hne hh.symm)]
 ·show _≤((w.heap.modify e.block (onCells (putCells _root_.id (e.shift+o) (flatK F.enc F.z l'.toArray))))++os).size
  simp
theorem n6b {F:FRep α} [Inhabited α] {ρ:Go.Shelf.Ren} {k:Nat} (hk:F.z=k) (L:SlLaysF0.n6 P ρ) (aE:∀ w,(isAgg (ρ.t 24)).run P w=.ok true w) (zE:∀ w,(Go.sizeOf (ρ.t 24)).run P w=.ok k w) {cf:α→α→Int} (hO:SWO (ltOf cf)) {g:Nat} (eg:∀ args w,(callFunc g args).run P w=.ok (.enter g args) w)
 (hdc:∀ x y,DC P g [.agg (F.enc x).toArray,.agg (F.enc y).toArray] h00 (.ret (.int .i64 (cf x y))) h00) {h:DHeap} {id o c:Nat} {cells:List Value} {l:List α} {esz:Nat} (hg:h.get id=some (.row cells esz false)) (h0:0<l.length) (hl:o+l.length*F.z≤cells.length) (hc:(cells.drop o).take (l.length*F.z)=l.flatMap F.enc) (hsz:l.length<4611686018427387904) :
 Ct P (ρ.f 6) [.slice (some ⟨id,o,none⟩) l.length c,.func (.func g) #[] #[]] h fun r h1=>r=.ret (.tuple #[])∧∃ l':List α,l'.Perm l∧SortedIn (ltOf cf) 0 l.length l'.toArray∧h1=h.set id (.row (YZ cells o (l'.flatMap F.enc)) esz false):=by
 subst hk
 intro n ι w args' s ha
 obtain ⟨a0,e0,r0⟩:=ha.get (i:=0) rfl
 obtain ⟨a1,e1,r1⟩:=ha.get (i:=1) rfl
 have hsz2:args'.toList.length=2:=ha.1.symm
 have hargs:args'=#[a0,a1]:=by
  obtain ⟨L⟩:=args'
  match L,hsz2 with
  | [x,y],_=>simp at e0 e1;rw[e0,e1]
 cases r0 with
 | @slice _ _ _ _ cap' e a' he hl' hx ha' hb=>
 cases r1 with
 | func hf q1 q2 q3 q4=>
 rename_i first' cap2
 obtain rfl:first'=#[]:=by simpa using q1.symm
 obtain rfl:cap2=#[]:=by simpa using q3.symm
 obtain rfl:=ha' (by omega)
 have hm:=h3c s he hg hl hc
 have hcalls:=AnyQ.slices_SortFunc L F.z aE zE F.enc F.len (fun x v hv=>h1b (List.all_eq_true.1 (F.flat x) v hv)) cf hO g #[] e.block (e.shift+o) cap' l.toArray w eg (J6b F.flat hdc _ _ _ _) hm (s.blk _ _ he) (by simpa using hsz)
 rw[hargs]
 refine callsIn_wide.2 (Calls.mono hcalls ?_)
 rintro en w' ⟨rfl,d',m,os,hp,hs,rfl⟩
 obtain ⟨p1,_,p3⟩:=hp
 have hd:d'=d'.toList.toArray:=by simp
 have hlen:d'.toList.length=l.length:=by simpa using p1
 have hperm:d'.toList.Perm l:=by
  have e1:(d'.extract 0 l.toArray.size).toList=d'.toList:=by rw[← p1];simp
  have e2:(l.toArray.extract 0 l.toArray.size).toList=l:=by simp
  rw[e1,e2]at p3
  exact p3
 obtain ⟨q5,q6⟩:=v4b (F:=F) d'.toList m os s he hg (by rw[hlen];exact hl)
 rw[hd]
 refine ⟨ι,.ret (.tuple #[]),_,⟨rfl,d'.toList,hperm,?_,rfl⟩,⟨q6.next,q6.ng⟩,.tuple rfl (fun i v v' h1=>by simp at h1),q5,q6⟩
 simpa using hs
end Go.D
namespace Go.Proofs.YtheamfnbfgiaeaaGreat
open Go.D
open Go.Sort
set_option maxRecDepth 100000
theorem U8b {h:DHeap} {v:Value} (hb:Arg fKey.rep h v []):Ct Tryz.prog 138 [v] h fun r h1=>r=.ret v∧h1=h:=by
 refine O9b (by simp) ?_
 have el:∀ K,dLen Tryz.prog #[24] v K=some (.int .i64 ((([]:List Key).length:Nat):Int)):=hb.lens (P:=Tryz.prog) (ts:=#[24]) (t:=24) rfl m3a
 have h0:(((0:Nat):Int)<2)=True:=eq_true (by decide)
 simp -implicitDefEqProofs (disch:=first|omega|simp only[go_sem]) only[go_sem,true_and,E6b,el,List.length_nil,h0]
 exact ⟨_,rfl,rfl,trivial⟩
theorem J6a:ltOf C4a=YQ:=by
 funext a b
 exact w7b a b
theorem H9a:∀ args w,(callFunc 55 args).run Tryz.prog w=.ok (.enter 55 args) w:=enters_of Tryz.func55 (by kernel_rfl) rfl
theorem s1d {h:DHeap} {v:Value} {l:List Key} (hb:Arg fKey.rep h v l) (hl:l.length≤1048576) :
 Ct Tryz.prog 111 [v] h fun r h1=>∃ w,r=.ret w∧Ext h h1∧Sl fKey.rep (u6a h h1) h1 w (Z3a l):=by
 refine V0d (by simp) ?_
 have m:=z9a (h:=h) hb
 simp -implicitDefEqProofs (disch:=first|omega|simp only[go_sem]) only[go_sem,true_and,D9c]
 refine YX (I6b hb (by omega)) ?_
 by_cases h0:l=[]
 ·subst h0
  simp -implicitDefEqProofs (disch:=first|omega|simp only[go_sem]) only[go_sem,true_and]
  refine YW (d1c m.arg) ?_
  rintro r h1 ⟨rfl,rfl⟩
  simp -implicitDefEqProofs (disch:=first|omega|simp only[go_sem]) only[go_sem,true_and]
  refine YW (U8b m.arg) ?_
  rintro r h1 ⟨rfl,rfl⟩
  simp -implicitDefEqProofs (disch:=first|omega|simp only[go_sem]) only[go_sem,true_and,Xk]
  exact ⟨_,rfl,_,rfl,m.ext,m.sl⟩
 ·have hnn:N1a v=false:=by
   cases hn:N1a v with
   | false=>rfl
   | true=>exact absurd (a3a hb hn).2 h0
  have e1:P3a h v l=.slice (some ⟨h.next,0,none⟩) l.length (l.length+1):=by rw[P3a,hnn];rfl
  have e2:M2a fKey h v l=h.push (.row (l.flatMap fKey.enc) 2 false):=by rw[M2a,hnn];rfl
  have hok:=hb.ok
  obtain ⟨K,hK⟩:∃ K,h.push (.row (l.flatMap fKey.enc) 2 false)=K:=⟨_,rfl⟩
  have hg:K.get h.next=some (.row (l.flatMap fKey.enc) 2 false):=by rw[← hK];exact Zz _ _
  have hE:Ext h K:=by rw[← hK];exact Ext.push1 _ _
  have hKn:K.next=h.next+1:=by rw[← hK];rfl
  have hlen:0<l.length:=List.length_pos_iff.2 h0
  have ht:(l.flatMap fKey.enc).take (l.length*2)=l.flatMap fKey.enc:=List.take_of_length_le (by rw[ZW];exact Nat.le_refl _)
  rw[e1,e2,hK]
  simp -implicitDefEqProofs (disch:=first|omega|simp only[go_sem]) only[go_sem,true_and]
  refine YW (n6b (F:=fKey) (k:=2) rfl m6b Tryz.isAgg31 Tryz.sizeOf31 (cf:=C4a) (J6a▸n1b) H9a (fun x y=>X0b) (o:=0) (esz:=2) hg hlen (by rw[ZW,Nat.zero_add];exact Nat.le_refl _) ht (by omega)) ?_
  rintro r h1 ⟨rfl,l',hp,hs,rfl⟩
  have hl':l'.length=l.length:=hp.length_eq
  have e3:YZ (l.flatMap fKey.enc) 0 (l'.flatMap fKey.enc)=l'.flatMap fKey.enc:=by
   have:=S6a (l'.flatMap fKey.enc) (l.flatMap fKey.enc) [] (by rw[ZW,ZW,hl'])
   simpa using this
  rw[e3]
  simp -implicitDefEqProofs (disch:=first|omega|simp only[go_sem]) only[go_sem,true_and]
  have hr:RowIs fKey (K.set h.next (.row (l'.flatMap fKey.enc) 2 false)) h.next l':=RowIs.set rfl
  have cc:=V8b (c:=l.length+1) hr (fun x hx=>hok x (hp.mem_iff.1 hx)) (by omega)
  rw[hl']at cc
  refine YW cc ?_
  rintro r h1 ⟨c',cs,rfl,rfl,hsl⟩
  simp -implicitDefEqProofs (disch:=first|omega|simp only[go_sem]) only[go_sem,true_and,Xk]
  rw[J6a]at hs
  rw[p1b hp (d6a hl'.symm hs)]at hsl
  rw[p1b hp (d6a hl'.symm hs)]
  refine ⟨_,rfl,_,rfl,(hE.set (by omega)).set (by omega),hsl.mono fun i hi=>⟨⟨by omega,?_⟩,rfl⟩⟩
  subst hi
  show h.next<K.next
  omega
end Go.Proofs.YtheamfnbfgiaeaaGreat
namespace Go.Proofs.YtheamfnbfgiaeaaGreat
open Go.D
open Go.Sort
set_option maxRecDepth 100000
abbrev O3c (fk:FuncId) (c:Nat):Value:=.func (.func fk) #[] #[.pointer (some ⟨c,0,none⟩)]
theorem p0c {h:DHeap} {id:Nat}:Ct Tryz.prog 134 [.map (some id)] h fun r h1=>r=.ret (O3c 155 h.next)∧h1=h.push (.row [.map (some id)] 0 false):=by
 refine d1d (by simp) ?_
 simp -implicitDefEqProofs (disch:=first|omega|simp only[go_sem]) only[go_sem,true_and,K9c]
 exact ⟨_,rfl,rfl,trivial⟩
theorem T8b {fk:FuncId} (Y:q7a fk) (hg:L0a Tryz.prog fk=true) {h:DHeap} {c id:Nat} {m:List (Key × Value)} (hlen:m.length≤4294967296) (hok:∀ k∈m.map (·.1),fKey.ok k) (hc:c<h.next) (gc:h.get c=some (.row [.map (some id)] 0 false)) (hid:id<h.next) (hm:MapAt ZZ h id m) :
 Ct Tryz.prog 74 [O3c fk c] h fun r h1=>∃ v dn,r=.ret v∧dn.Nodup∧(∀ k,k∈dn↔k∈m.map (·.1))∧Made fKey h h1 v dn:=by
 refine P3d (by simp) ?_
 simp -implicitDefEqProofs (disch:=first|omega|simp only[go_sem]) only[go_sem,true_and,c74]
 refine YW (D4b Y hg hlen hok hc gc hid hm) ?_
 rintro r h1 ⟨v,dn,rfl,h2,h3,h4⟩
 simp -implicitDefEqProofs (disch:=first|omega|simp only[go_sem]) only[go_sem,true_and,Xk]
 exact ⟨_,rfl,v,dn,rfl,h2,h3,h4⟩
theorem l4b {fk:FuncId} (Y:q7a fk) (hg:L0a Tryz.prog fk=true) {h:DHeap} {c id:Nat} {m:List (Key × Value)} (hlen:m.length≤1048576) (hok:∀ k∈m.map (·.1),fKey.ok k) (hc:c<h.next) (gc:h.get c=some (.row [.map (some id)] 0 false)) (hid:id<h.next) (hm:MapAt ZZ h id m) :
 Ct Tryz.prog 53 [O3c fk c,.func (.func 55) #[] #[]] h fun r h1=>∃ v l,r=.ret v∧UpK l∧(∀ k,k∈l↔k∈m.map (·.1))∧Ext h h1∧Sl fKey.rep (u6a h h1) h1 v l:=by
 refine G3d (by simp) ?_
 simp -implicitDefEqProofs (disch:=first|omega|simp only[go_sem]) only[go_sem,true_and,c53]
 refine YW (T8b Y hg (by omega) hok hc gc hid hm) ?_
 rintro r h1 ⟨v,dn,rfl,hn,hmem,mm⟩
 simp -implicitDefEqProofs (disch:=first|omega|simp only[go_sem]) only[go_sem,true_and]
 by_cases h0:dn=[]
 ·subst h0
  refine YW (d1c mm.arg) ?_
  rintro r h2 ⟨rfl,rfl⟩
  simp -implicitDefEqProofs (disch:=first|omega|simp only[go_sem]) only[go_sem,true_and,Xk]
  exact ⟨_,rfl,v,[],rfl,.nil,hmem,mm.ext,mm.sl⟩
 have hl:dn.length≤m.length:=by
  have:=B1a (b:=m.map (·.1)) hn (fun x hx=>(hmem x).1 hx)
  simpa using this
 obtain ⟨w,o,hw⟩:=mm.nonnil h0
 rcases o with ⟨_,h0',_⟩ | ⟨hz,_⟩ | ⟨i,cap,cells,rfl,hwi,hlt,hgw,hle,els⟩
 ·exact absurd h0' h0
 ·cases hz
 cases hwi
 have hE:=mm.ext
 refine YW (n6b (F:=fKey) (k:=2) rfl m6b Tryz.isAgg31 Tryz.sizeOf31 (cf:=C4a) (J6a▸n1b) H9a (fun x y=>X0b) (o:=0) (esz:=2) hgw (List.length_pos_iff.2 h0) (by rw[Nat.zero_add];exact hle) (Els.flat.1 els).1 (by omega)) ?_
 rintro r h2 ⟨rfl,l',hp,hs,rfl⟩
 rw[J6a]at hs
 have hl':l'.length=dn.length:=hp.length_eq
 have hsl:=d6a hl'.symm hs
 have hnd:l'.Nodup:=hp.nodup_iff.2 hn
 have hle2:(l'.flatMap fKey.enc).length≤cells.length:=by rw[ZW,hl'];exact hle
 simp -implicitDefEqProofs (disch:=first|omega|simp only[go_sem]) only[go_sem,true_and,Xk]
 refine ⟨_,rfl,_,l',rfl,?_,fun k=>(hp.mem_iff).trans (hmem k),hE.set hw,?_⟩
 ·exact (hsl.and hnd).imp fun h=>E2a h.1 (fun e=>h.2 e.symm)
 ·rw[← hl']
  refine .inr ⟨w,0,cap,_,2,false,rfl,⟨hw,hlt⟩,Zj _ _,.inr rfl,?_,?_⟩
  ·rw[R2a,hl']
   simpa using hle
  ·refine Els.flat.2 ⟨?_,fun x hx=>mm.ok x (hp.mem_iff.1 hx)⟩
   obtain ⟨A,B,hAB,hA⟩:∃ A B,cells=A++B∧A.length=(l'.flatMap fKey.enc).length:=⟨_,_,(List.take_append_drop _ cells).symm,by rw[List.length_take];exact Nat.min_eq_left hle2⟩
   rw[hAB,S6a _ _ _ hA.symm,List.drop_zero]
   exact List.take_left' (by rw[ZW];rfl)
end Go.Proofs.YtheamfnbfgiaeaaGreat
namespace Go.Proofs.YtheamfnbfgiaeaaGreat
open Go.D
set_option maxRecDepth 100000
def n1a (l:List Pair):List (Key × Value):=l.foldl (fun m p=>X0a m p.k (.int .i64 p.v)) []
theorem b5b {l:List Pair} {i:Nat} (hi:i<l.length):n1a (l.take (i+1))=X0a (n1a (l.take i)) l[i].k (.int .i64 l[i].v):=by
 unfold n1a
 rw[List.take_succ_eq_append_getElem hi,List.foldl_append]
 rfl
theorem x3c {m:List (Key × Value)} {k:Key} {v:Value}:(X0a m k v).length≤m.length+1:=by
 unfold X0a
 split
 ·rw[List.length_map];exact Nat.le_succ _
 ·rw[List.length_append];exact Nat.le_refl _
theorem M8a:∀ (l:List Pair) (m:List (Key × Value)),(l.foldl (fun m p=>X0a m p.k (.int .i64 p.v)) m).length≤m.length+l.length
 | [],m=>by simp
 | p :: l,m=>by
   have h1:=M8a l (X0a m p.k (.int .i64 p.v))
   have h2:=x3c (m:=m) (k:=p.k) (v:=.int .i64 p.v)
   rw[List.foldl_cons,List.length_cons]
   omega
theorem Z9a (l:List Pair):(n1a l).length≤l.length:=by
 have:=M8a l []
 rw[List.length_nil,Nat.zero_add]at this
 exact this
theorem N8a {k:Key}:∀ (l:List Pair) (m:List (Key × Value)),k∈(l.foldl (fun m p=>X0a m p.k (.int .i64 p.v)) m).map (·.1)↔k∈m.map (·.1)∨k∈l.map (·.k)
 | [],m=>by simp
 | p :: l,m=>by
   rw[List.foldl_cons,N8a l,K7a]
   split
   ·rename_i h
    rw[List.map_cons,List.mem_cons]
    constructor
    ·rintro (a | a)
     ·exact .inl a
     ·exact .inr (.inr a)
    ·rintro (a | a | a)
     ·exact .inl a
     ·exact .inl (a▸h)
     ·exact .inr a
   ·rw[List.map_cons,List.mem_cons,List.mem_append,List.mem_singleton,or_assoc]
theorem N6a {k:Key} {l:List Pair}:k∈(n1a l).map (·.1)↔k∈l.map (·.k):=by
 unfold n1a
 rw[N8a]
 simp
def V4a (l:List Pair) (k:Key):Option Pair:=l.reverse.find? fun p=>p.k=k
def s1a (l:List Pair) (k:Key):Pair:=(V4a l k).getD ⟨k,0⟩
theorem y7b {l:List Pair} {k:Key} {p:Pair} (h:V4a l k=some p):p∈l∧p.k=k:=by
 refine ⟨List.mem_reverse.1 (List.mem_of_find?_eq_some h),?_⟩
 have:=List.find?_some h
 simpa using this
theorem l0c {l:List Pair} {k:Key} (h:k∈l.map (·.k)):∃ p,V4a l k=some p:=by
 obtain ⟨p,hp,rfl⟩:=List.mem_map.1 h
 cases hq:V4a l p.k with
 | some q=>exact ⟨q,rfl⟩
 | none=>
   have:=List.find?_eq_none.1 hq p (List.mem_reverse.2 hp)
   simp at this
theorem J7a {k:Key}:∀ (l:List Pair) (m:List (Key × Value)),(m.map (·.1)).Nodup→Ww (l.foldl (fun m p=>X0a m p.k (.int .i64 p.v)) m) k=match V4a l k with | some p=>some (.int .i64 p.v) | none=>Ww m k
 | [],m,_=>rfl
 | p :: l,m,hn=>by
   rw[List.foldl_cons,J7a l _ (P1a hn),I3a hn]
   unfold V4a
   rw[List.reverse_cons,List.find?_append]
   cases hq:l.reverse.find? fun p=>p.k=k with
   | some q=>rfl
   | none=>
     by_cases hk:k=p.k
     ·simp[hk]
     ·have:¬ p.k=k:=fun e=>hk e.symm
      simp[hk,this]
theorem X4b {l:List Pair} {k:Key}:Ww (n1a l) k=(V4a l k).map fun p=>.int .i64 p.v:=by
 unfold n1a
 rw[J7a l [] .nil]
 cases V4a l k <;> rfl
theorem K7b {l:List Pair} {k:Key} (h:k∈l.map (·.k)):s1a l k∈l∧(s1a l k).k=k∧Ww (n1a l) k=some (.int .i64 (s1a l k).v):=by
 obtain ⟨p,hp⟩:=l0c h
 obtain ⟨h1,h2⟩:=y7b hp
 rw[X4b]
 unfold s1a
 rw[hp]
 exact ⟨h1,h2,rfl⟩
theorem C2b {k:Key} {v:Int}:Xy Tryz.prog 118 [(0,ZZ k),(1,.int .i64 v)]=some (.agg #[.int .i32 k.t,.int .i64 k.r,.int .i64 v]):=l0a Z7c rfl
theorem S9a:l7a Tryz.prog 147 ZZ (.int .i64 0):=⟨_,_,F1b,x7b,by kernel_rfl⟩
theorem V7c {h:DHeap} {v:Value} {l:List Pair} (hb:Arg fPair.rep h v l) (hl:l.length≤1048576) :
 Ct Tryz.prog 103 [v] h fun r h1=>∃ w ks,r=.ret w∧UpK ks∧(∀ k,k∈ks↔k∈l.map (·.k))∧(ks=[]→w=.slice none 0 0)∧Made fPair h h1 w (ks.map (s1a l)):=by
 refine N0d (by simp) ?_
 have el:∀ K,dLen Tryz.prog #[96] v K=some (.int .i64 (l.length:Nat)):=hb.lens (P:=Tryz.prog) (ts:=#[96]) (t:=96) rfl N3b
 simp -implicitDefEqProofs (disch:=first|omega|simp only[go_sem]) only[go_sem,true_and,x9c,el]
 refine A0a (σ:=Nat) (by kernel_rfl) (fun i s=>s.df=[]∧s.rd=none∧s.fr 3=some (.map (some h.next))∧s.fr 10=some v∧s.fr 11=some (.int .i64 (l.length:Nat))∧s.fr 12=some (.int .i64 (i:Nat))∧i≤l.length∧h.next<s.h.next∧Ext h s.h∧MapAt ZZ s.h h.next (n1a (l.take i))) (fun i=>l.length - i) 0 ?_ ?_
 ·simp -implicitDefEqProofs (disch:=first|omega|simp only[go_sem]) only[go_sem,true_and]
  exact ⟨by trivial,Nat.zero_le _,Nat.lt_succ_self _,Ext.push1 _ _,MapAt.new⟩
 rintro i ⟨fr,df,K,rd⟩ K' hK' hX ⟨rfl,rfl,f3,f10,f11,f12,hi,hlt,hE,hm⟩
 simp only at f3 f10 f11 f12 hlt hE hm
 simp -implicitDefEqProofs (disch:=first|omega|simp only[go_sem]) only[go_sem,true_and,f10,f11,f12]
 refine n0a (fun hc1=>?_) (fun hc1=>?_)
 ·have hj:i<l.length:=by omega
  obtain ⟨id1,o1,e1,_,hat1⟩:=(hb.ext hE).idx (P:=Tryz.prog) (t:=96) h8a (k:=.i64) (i:=i) (x:=l[i]) (by simp)
  have l1:Zk K id1 o1 3=some (.agg #[.int .i32 l[i].k.t,.int .i64 l[i].k.r,.int .i64 l[i].v]):=hat1.flat.2.1
  obtain ⟨K1,hK1⟩:∃ H,H=K.push (.row [.int .i32 l[i].k.t,.int .i64 l[i].k.r,.int .i64 l[i].v] 0 false):=⟨_,rfl⟩
  have g1:K1.get K.next=some (.row [.int .i32 l[i].k.t,.int .i64 l[i].k.r,.int .i64 l[i].v] 0 false):=by rw[hK1];exact Zz _ _
  have lk:Zk K1 K.next 0 2=some (ZZ l[i].k):=by rw[Zu g1 (Nat.le_of_ble_eq_true rfl)];rfl
  have lv:Zq K1 K.next 2=some (.int .i64 l[i].v):=Zy g1
  have hE1:Ext K K1:=by rw[hK1];exact Ext.push1 _ _
  have hm1:MapAt ZZ K1 h.next (n1a (l.take i)):=hm.keep (hE1.get _ hlt)
  obtain ⟨o,hu,hm2⟩:=hm1.update S9a l[i].k (.int .i64 l[i].v)
  have hw:=d0a hj (by omega)
  have hst:Yx Tryz.prog 118 (.pointer (some ⟨K.next,0,none⟩)) (.agg #[.int .i32 l[i].k.t,.int .i64 l[i].k.r,.int .i64 l[i].v]) (K.push (.row [.int .i32 0,.int .i64 0,.int .i64 0] 0 false))=some K1:=by
   rw[hK1]
   exact (k0b rfl).trans (c0a rfl rfl)
  simp -implicitDefEqProofs (disch:=first|omega|simp only[go_sem]) only[go_sem,true_and,f3,f10,f12,e1,l1,hst,lk,lv,hu,hw]
  refine hK' (i+1) _ ?_ (by omega)
  have hn1:=hE1.next
  exact ⟨rfl,rfl,(vy f3),(vy f10),(vy f11),vz,by omega,show h.next<K1.next by omega,(hE.trans hE1).set (Nat.le_refl _),by rw[b5b hj];exact hm2⟩
 obtain rfl:i=l.length:=by omega
 refine hX _ _ (by simp) ?_
 rw[List.take_length]at hm
 simp -implicitDefEqProofs (disch:=first|omega|simp only[go_sem]) only[go_sem,true_and,f3]
 have hkok:∀ k∈(n1a l).map (·.1),fKey.ok k:=fun k hk=>by
  obtain ⟨p,hp,rfl⟩:=List.mem_map.1 (N6a.1 hk)
  exact (hb.ok p hp).1
 refine YW p0c ?_
 rintro r h2 ⟨rfl,rfl⟩
 simp -implicitDefEqProofs (disch:=first|omega|simp only[go_sem]) only[go_sem,true_and]
 obtain ⟨H2,hH2⟩:∃ H,H=K.push (.row [.map (some h.next)] 0 false):=⟨_,rfl⟩
 rw[← hH2]
 have g2:H2.get K.next=some (.row [.map (some h.next)] 0 false):=by rw[hH2];exact Zz _ _
 have hE2:Ext K H2:=by rw[hH2];exact Ext.push1 _ _
 have hH2n:H2.next=K.next+1:=by rw[hH2];rfl
 have hm2:MapAt ZZ H2 h.next (n1a l):=hm.keep (hE2.get _ hlt)
 refine YW (l4b o5b (by kernel_rfl) (h:=H2) (c:=K.next) (id:=h.next) (m:=n1a l) (Nat.le_trans (Z9a l) hl) hkok (by omega) g2 (by omega) hm2) ?_
 rintro r h3 ⟨w,ks,rfl,hup,hmem,hE3,hs3⟩
 have hsk:Arg fKey.rep h3 w ks:=hs3.mono fun i hi=>⟨hi.2,rfl⟩
 have ek:∀ K,dLen Tryz.prog #[24] w K=some (.int .i64 (ks.length:Nat)):=hsk.lens (P:=Tryz.prog) (ts:=#[24]) (t:=24) rfl m3a
 simp -implicitDefEqProofs (disch:=first|omega|simp only[go_sem]) only[go_sem,true_and,Xk,ek]
 have hpm:∀ k∈ks,s1a l k∈l∧(s1a l k).k=k∧Ww (n1a l) k=some (.int .i64 (s1a l k).v):=fun k hk=>K7b (N6a.1 ((hmem k).1 hk))
 have hkl:ks.length≤1048576:=by
  have h1:=B1a (a:=ks) (b:=(n1a l).map (·.1)) (hup.imp fun {a b} h e=>by rw[e,m1a]at h;cases h) (fun x hx=>(hmem x).1 hx)
  rw[List.length_map]at h1
  exact Nat.le_trans h1 (Nat.le_trans (Z9a l) hl)
 have hE03:Ext h h3:=(hE.trans hE2).trans hE3
 have hn3:=hE3.next
 have hm3:MapAt ZZ h3 h.next (n1a l):=hm2.keep (hE3.get _ (by omega))
 refine A0a (σ:=Nat) (by kernel_rfl) (fun j s=>s.df=[]∧s.rd=none∧s.fr 3=some (.map (some h.next))∧s.fr 24=some w∧s.fr 25=some (.int .i64 (ks.length:Nat))∧s.fr 26=some (.int .i64 (j:Nat))∧j≤ks.length∧∃ v',s.fr 6=some v'∧(j=0→v'=.slice none 0 0)∧Made fPair h3 s.h v' ((ks.take j).map (s1a l))) (fun j=>ks.length - j) 0 ?_ ?_
 ·simp -implicitDefEqProofs (disch:=first|omega|simp only[go_sem]) only[go_sem,true_and,f3]
  exact ⟨by trivial,Nat.zero_le _,_,rfl,fun _=>rfl,Made.nil _ (.refl _)⟩
 rintro j ⟨fr,df,K4,rd⟩ K' hK' hX ⟨rfl,rfl,f3,f24,f25,f26,hj,v',f6,hv0,mm⟩
 simp only at f3 f24 f25 f26 f6 mm
 have hE4:=mm.ext
 have hn4:=hE4.next
 simp -implicitDefEqProofs (disch:=first|omega|simp only[go_sem]) only[go_sem,true_and,f24,f25,f26]
 refine n0a (fun hc1=>?_) (fun hc1=>?_)
 ·have hjl:j<ks.length:=by omega
  obtain ⟨id1,o1,e1,_,hat1⟩:=(hsk.ext hE4).idx (P:=Tryz.prog) (t:=24) t4a (k:=.i64) (i:=j) (x:=ks[j]) (by simp)
  have l1:Zk K4 id1 o1 2=some (ZZ ks[j]):=hat1.flat.2.1
  obtain ⟨K5,hK5⟩:∃ H,H=K4.push (.row [.int .i32 ks[j].t,.int .i64 ks[j].r] 0 false):=⟨_,rfl⟩
  have hE5:Ext K4 K5:=by rw[hK5];exact Ext.push1 _ _
  have hK5n:K5.next=K4.next+1:=by rw[hK5];rfl
  have hst:Yx Tryz.prog 31 (.pointer (some ⟨K4.next,0,none⟩)) (ZZ ks[j]) (K4.push (.row [.int .i32 0,.int .i64 0] 0 false))=some K5:=by
   rw[hK5]
   exact (c4a rfl).trans (c0a rfl rfl)
  have g5:K5.get K4.next=some (.row [.int .i32 ks[j].t,.int .i64 ks[j].r] 0 false):=by rw[hK5];exact Zz _ _
  have l5:Zk K5 K4.next 0 2=some (ZZ ks[j]):=by rw[Zu g5 (Nat.le_of_ble_eq_true rfl)];rfl
  obtain ⟨hp1,hp2,hp3⟩:=hpm ks[j] (List.getElem_mem hjl)
  have lk5:Q0a Tryz.prog 147 (.map (some h.next)) (ZZ ks[j]) false K5=some (.int .i64 (s1a l ks[j]).v):=by
   rw[(hm3.keep ((hE5.get _ (by omega)).trans (hE4.get _ (by omega)))).lookup S9a ks[j] false,hp3]
   rfl
  obtain ⟨w2,h6,e6,m6⟩:=(mm.on hE5).snoc x8b (y:=s1a l ks[j]) (cs:=[.int .i32 ks[j].t,.int .i64 ks[j].r,.int .i64 (s1a l ks[j]).v]) (z:=3) (by rw[A9b,hp2]) rfl (hb.ok _ hp1) (by rw[List.length_map,List.length_take];omega) (by decide)
  have hw:=d0a hjl (by omega)
  simp -implicitDefEqProofs (disch:=first|omega|simp only[go_sem]) only[go_sem,true_and,f24,f26,e1,l1,hst]
  refine Z3c rfl ?_
  simp -implicitDefEqProofs (disch:=first|omega|simp only[go_sem]) only[go_sem,true_and,F9b,M0c,f3,f6,f26,l5,lk5,C2b,e6,hw]
  refine hK' (j+1) _ ?_ (by omega)
  refine ⟨rfl,rfl,(vy f3),(vy f24),(vy f25),vz,by omega,w2,vz,fun h=>by omega,?_⟩
  rw[List.take_succ_eq_append_getElem hjl,List.map_append]
  exact m6
 obtain rfl:j=ks.length:=by omega
 refine hX _ _ (by simp) ?_
 rw[List.take_length]at mm
 simp -implicitDefEqProofs (disch:=first|omega|simp only[go_sem]) only[go_sem,true_and,f6]
 exact ⟨_,rfl,_,ks,rfl,hup,fun k=>(hmem k).trans N6a,fun e=>hv0 (by rw[e];rfl),mm.base hE03⟩
theorem W7b {l:List Key} {k:Key} {i:Nat} (hi:i<l.length) (h:k∉l.take i) (hn:l[i]≠k):k∉l.take (i+1):=by
 rw[List.take_succ_eq_append_getElem hi,List.mem_append,List.mem_singleton]
 rintro (a | a)
 ·exact h a
 ·exact hn a.symm
theorem v7b {h:DHeap} {a:Value} {l:List Key} {k:Key} (hb:Arg fKey.rep h a l) (hl:l.length≤4294967296) :
 Ct Tryz.prog 156 [a,ZZ k] h fun r h1=>∃ n:Int,r=.ret (.int .i64 n)∧(0≤n↔k∈l)∧Ext h h1:=by
 refine n1d (by simp) ?_
 have el:∀ K,dLen Tryz.prog #[24] a K=some (.int .i64 (l.length:Nat)):=hb.lens (P:=Tryz.prog) (ts:=#[24]) (t:=24) rfl m3a
 obtain ⟨K,hK⟩:∃ K,K=h.push (.row [.int .i32 k.t,.int .i64 k.r] 0 false):=⟨_,rfl⟩
 have hE:Ext h K:=by rw[hK];exact Ext.push1 _ _
 have gk:K.get h.next=some (.row [.int .i32 k.t,.int .i64 k.r] 0 false):=by rw[hK];exact Zz _ _
 have lk:Zk K h.next 0 2=some (ZZ k):=by rw[Zu gk (Nat.le_of_ble_eq_true rfl)];rfl
 have hcl:(ZZ k).cells.toList=[.int .i32 k.t,.int .i64 k.r]:=rfl
 simp -implicitDefEqProofs (disch:=first|omega|simp only[go_sem]) only[go_sem,true_and,R9c,el,hcl,← hK]
 refine A0a (σ:=Nat) (by kernel_rfl) (fun i s=>s.df=[]∧s.rd=none∧s.h=K∧s.fr 0=some a∧s.fr 3=some (.pointer (some ⟨h.next,0,none⟩))∧s.fr 7=some (.int .i64 (l.length:Nat))∧s.fr 8=some (.int .i64 (i:Nat))∧i≤l.length∧k∉l.take i) (fun i=>l.length - i) 0 ?_ ?_
 ·simp -implicitDefEqProofs (disch:=first|omega|simp only[go_sem]) only[go_sem,true_and]
  exact ⟨by trivial,Nat.zero_le _,by simp⟩
 rintro i ⟨fr,df,hh,rd⟩ K' hK' hX ⟨rfl,rfl,rfl,f0,f3,f7,f8,hi,hni⟩
 simp only at f0 f3 f7 f8
 simp -implicitDefEqProofs (disch:=first|omega|simp only[go_sem]) only[go_sem,true_and,f7,f8]
 refine n0a (fun hc1=>?_) (fun hc1=>?_)
 ·have hj:i<l.length:=by omega
  obtain ⟨id1,o1,e1,_,hat1⟩:=(hb.ext hE).idx (P:=Tryz.prog) (t:=24) t4a (k:=.i64) (i:=i) (x:=l[i]) (by simp)
  have l1:Zk hh id1 o1 2=some (ZZ l[i]):=hat1.flat.2.1
  have hw:=d0a hj (by omega)
  simp -implicitDefEqProofs (disch:=first|omega|simp only[go_sem]) only[go_sem,true_and,f8]
  refine c4c rfl ?_
  simp -implicitDefEqProofs (disch:=first|omega|simp only[go_sem]) only[go_sem,true_and,H9b,O0c,f0,f3,lk,e1,l1,T8a]
  by_cases he:k=l[i]
  ·simp -implicitDefEqProofs (disch:=first|omega|simp only[go_sem]) only[go_sem,true_and,he,f8]
   refine hX _ _ (by simp) ?_
   simp -implicitDefEqProofs (disch:=first|omega|simp only[go_sem]) only[go_sem,true_and]
   exact ⟨_,rfl,_,rfl,⟨fun _=>by rw[he];exact List.getElem_mem hj,fun _=>by omega⟩,hE⟩
  ·simp -implicitDefEqProofs (disch:=first|omega|simp only[go_sem]) only[go_sem,true_and,he,f8,hw]
   refine hK' (i+1) _ ?_ (by omega)
   exact ⟨rfl,rfl,rfl,(vy f0),(vy f3),(vy f7),vz,by omega,W7b hj hni fun e=>he e.symm⟩
 obtain rfl:i=l.length:=by omega
 refine hX _ _ (by simp) ?_
 simp -implicitDefEqProofs (disch:=first|omega|simp only[go_sem]) only[go_sem,true_and]
 rw[List.take_length]at hni
 exact ⟨_,rfl,_,rfl,⟨fun h=>absurd h (by decide),fun h=>absurd h hni⟩,hE⟩
theorem O6b {h:DHeap} {a:Value} {l:List Key} {k:Key} (hb:Arg fKey.rep h a l) (hl:l.length≤4294967296) :
 DC Tryz.prog 135 [a,ZZ k] h (.ret (.bool (decide (k∈l)))) h:=by
 refine Ct.pure (f1d (by simp) ?_) (Y0a _)
 obtain ⟨K,hK⟩:∃ K,K=h.push (.row [.int .i32 k.t,.int .i64 k.r] 0 false):=⟨_,rfl⟩
 have hE:Ext h K:=by rw[hK];exact Ext.push1 _ _
 have gk:K.get h.next=some (.row [.int .i32 k.t,.int .i64 k.r] 0 false):=by rw[hK];exact Zz _ _
 have lk:Zk K h.next 0 2=some (ZZ k):=by rw[Zu gk (Nat.le_of_ble_eq_true rfl)];rfl
 have hcl:(ZZ k).cells.toList=[.int .i32 k.t,.int .i64 k.r]:=rfl
 simp -implicitDefEqProofs (disch:=first|omega|simp only[go_sem]) only[go_sem,true_and,L9c,hcl,← hK,lk]
 refine YW (v7b (hb.ext hE) hl) ?_
 rintro r h1 ⟨n,rfl,hn,hE1⟩
 simp -implicitDefEqProofs (disch:=first|omega|simp only[go_sem]) only[go_sem,true_and,Xk]
 exact ⟨_,rfl,congrArg (fun b=>DEnd.ret (Value.bool b)) (decide_eq_decide.2 hn),hE.trans hE1⟩
theorem t7b {h:DHeap} {a:Value} {l:List Key} {k:Key} (hb:Arg fKey.rep h a l) (hl:l.length≤4294967296) :
 DC Tryz.prog 105 [a,ZZ k] h (.ret (.bool (decide (k∈l)))) h:=by
 refine Ct.pure (P0d (by simp) ?_) (Y0a _)
 obtain ⟨K,hK⟩:∃ K,K=h.push (.row [.int .i32 k.t,.int .i64 k.r] 0 false):=⟨_,rfl⟩
 have hE:Ext h K:=by rw[hK];exact Ext.push1 _ _
 have gk:K.get h.next=some (.row [.int .i32 k.t,.int .i64 k.r] 0 false):=by rw[hK];exact Zz _ _
 have lk:Zk K h.next 0 2=some (ZZ k):=by rw[Zu gk (Nat.le_of_ble_eq_true rfl)];rfl
 have hcl:(ZZ k).cells.toList=[.int .i32 k.t,.int .i64 k.r]:=rfl
 simp -implicitDefEqProofs (disch:=first|omega|simp only[go_sem]) only[go_sem,true_and,z9c,hcl,← hK,lk]
 refine YX (O6b (hb.ext hE) hl) ?_
 simp -implicitDefEqProofs (disch:=first|omega|simp only[go_sem]) only[go_sem,true_and]
 exact ⟨_,rfl,rfl,hE⟩
abbrev a4a (x:Pair):Value:=.agg #[.int .i32 x.k.t,.int .i64 x.k.r,.int .i64 x.v]
structure R8a (h:DHeap) (f:FuncId) (cap:Array Value) (l:List Pair) (pd:Pair→Bool):Prop where
 good:L0a Tryz.prog f=true
 says:∀ x∈l,∀ K,Ext h K→DC Tryz.prog f (a4a x :: cap.toList) K (.ret (.bool (pd x))) K
theorem J8a {h:DHeap} {a:Value} {l:List Pair} {f:FuncId} {cap:Array Value} {pd:Pair→Bool} (hb:Arg fPair.rep h a l) (hl:l.length≤4294967296) (ht:R8a h f cap l pd) :
 Ct Tryz.prog 133 [a,.func (.func f) #[] cap] h fun r h1=>Ext h h1∧((r=.ret (.int .i64 (-1))∧∀ x∈l,pd x=false)∨∃ i:Nat,∃ hi:i<l.length,r=.ret (.int .i64 (i:Nat))∧pd l[i]=true∧∀ x∈l.take i,pd x=false):=by
 refine c1d (by simp) ?_
 have el:∀ K,dLen Tryz.prog #[96] a K=some (.int .i64 (l.length:Nat)):=hb.lens (P:=Tryz.prog) (ts:=#[96]) (t:=96) rfl N3b
 simp -implicitDefEqProofs (disch:=first|omega|simp only[go_sem]) only[go_sem,true_and,J9c,el]
 refine A0a (σ:=Nat) (by kernel_rfl) (fun i s=>s.df=[]∧s.rd=none∧s.h=h∧s.fr 0=some a∧s.fr 1=some (.func (.func f) #[] cap)∧s.fr 7=some (.int .i64 (l.length:Nat))∧s.fr 8=some (.int .i64 (i:Nat))∧i≤l.length∧∀ x∈l.take i,pd x=false) (fun i=>l.length - i) 0 ?_ ?_
 ·simp -implicitDefEqProofs (disch:=first|omega|simp only[go_sem]) only[go_sem,true_and]
  exact ⟨by trivial,Nat.zero_le _,fun x hx=>by simp at hx⟩
 rintro i ⟨fr,df,hh,rd⟩ K' hK' hX ⟨rfl,rfl,rfl,f0,f1,f7,f8,hi,hni⟩
 simp only at f0 f1 f7 f8
 simp -implicitDefEqProofs (disch:=first|omega|simp only[go_sem]) only[go_sem,true_and,f7,f8]
 refine n0a (fun hc1=>?_) (fun hc1=>?_)
 ·have hj:i<l.length:=by omega
  obtain ⟨id1,o1,e1,_,hat1⟩:=hb.idx (P:=Tryz.prog) (t:=96) h8a (k:=.i64) (i:=i) (x:=l[i]) (by simp)
  have l1:Zk hh id1 o1 3=some (a4a l[i]):=hat1.flat.2.1
  have hw:=d0a hj (by omega)
  have hca:v2a Tryz.prog hh (some (.func (.func f) #[] cap)) (some [a4a l[i]])=.ok (.enter f (a4a l[i] :: cap.toList)) hh:=R5a ht.good _ _ _
  simp -implicitDefEqProofs (disch:=first|omega|simp only[go_sem]) only[go_sem,true_and,f0,f1,f8,e1,l1,hca]
  refine YX (ht.says _ (List.getElem_mem hj) hh (.refl _)) ?_
  cases hq:pd l[i] with
  | true=>
    simp -implicitDefEqProofs (disch:=first|omega|simp only[go_sem]) only[go_sem,true_and]
    refine hX _ _ (by simp) ?_
    simp -implicitDefEqProofs (disch:=first|omega|simp only[go_sem]) only[go_sem,true_and]
    exact ⟨_,rfl,.refl _,.inr ⟨i,hj,rfl,hq,hni⟩⟩
  | false=>
    simp -implicitDefEqProofs (disch:=first|omega|simp only[go_sem]) only[go_sem,true_and,f8,hw]
    refine hK' (i+1) _ ?_ (by omega)
    refine ⟨rfl,rfl,rfl,(vy f0),(vy f1),(vy f7),vz,by omega,fun x hx=>?_⟩
    rw[List.take_succ_eq_append_getElem hj,List.mem_append,List.mem_singleton]at hx
    rcases hx with hx | rfl
    ·exact hni x hx
    ·exact hq
 obtain rfl:i=l.length:=by omega
 refine hX _ _ (by simp) ?_
 simp -implicitDefEqProofs (disch:=first|omega|simp only[go_sem]) only[go_sem,true_and]
 rw[List.take_length]at hni
 exact ⟨_,rfl,.refl _,.inl ⟨rfl,hni⟩⟩
theorem F7b {h:DHeap} {c:Nat} {w:Value} {reads:List Key} {x:Pair} (hc:Zq h c 4=some w) (hlt:c<h.next) (hb:Arg fKey.rep h w reads) (hl:reads.length≤4294967296) :
 DC Tryz.prog 104 [a4a x,.pointer (some ⟨c,0,none⟩)] h (.ret (.bool (!decide (x.k∈reads)))) h:=by
 refine Ct.pure (O0d (by simp) ?_) (Y0a _)
 obtain ⟨K,hK⟩:∃ K,K=h.push (.row [.int .i32 x.k.t,.int .i64 x.k.r,.int .i64 x.v] 0 false):=⟨_,rfl⟩
 have hE:Ext h K:=by rw[hK];exact Ext.push1 _ _
 have gk:K.get h.next=some (.row [.int .i32 x.k.t,.int .i64 x.k.r,.int .i64 x.v] 0 false):=by rw[hK];exact Zz _ _
 have lk:Zk K h.next 0 2=some (ZZ x.k):=by rw[Zu gk (Nat.le_of_ble_eq_true rfl)];rfl
 have hc2:Zq K c 4=some w:=by
  have:=hE.get c hlt
  simp only[Zq,this]at hc ⊢
  exact hc
 have hcl:(a4a x).cells.toList=[.int .i32 x.k.t,.int .i64 x.k.r,.int .i64 x.v]:=rfl
 simp -implicitDefEqProofs (disch:=first|omega|simp only[go_sem]) only[go_sem,true_and,y9c,hcl,← hK,hc2,lk]
 refine YX (t7b (hb.ext hE) hl) ?_
 simp -implicitDefEqProofs (disch:=first|omega|simp only[go_sem]) only[go_sem,true_and]
 exact ⟨_,rfl,rfl,hE⟩
theorem G7b {h:DHeap} {c:Nat} {w:Value} {reads:List Key} {l:List Pair} (hc:Zq h c 4=some w) (hlt:c<h.next) (hb:Arg fKey.rep h w reads) (hl:reads.length≤4294967296) :
 R8a h 104 #[.pointer (some ⟨c,0,none⟩)] l fun x=>!decide (x.k∈reads) where
 good:=by kernel_rfl
 says x _ K e:=F7b (by
  have:=e.get c hlt
  simp only[Zq,this]at hc ⊢
  exact hc) (Nat.lt_of_lt_of_le hlt e.next) (hb.ext e) hl
theorem t1b {l:List Pair} {ks:List Key} (hu:UpK ks) (hm:∀ k,k∈ks↔k∈l.map (·.k)):ks.map (s1a l)=byK Pair.k l:=by
 have e:ks=Z3a (l.map (·.k)):=X7b hu (f9a _) fun k=>(hm k).trans mem_keysN.symm
 have key:∀ ms:List Key,(∀ k∈ms,k∈l.map (·.k))→ms.map (s1a l)=ms.filterMap (Yv Pair.k l):=by
  intro ms
  induction ms with
  | nil=>intro _;rfl
  | cons a ms ih=>
    intro h
    obtain ⟨x,hx⟩:=F5a (key:=Pair.k) (h a (by simp))
    rw[List.map_cons,ih fun k hk=>h k (by simp[hk]),List.filterMap_cons,hx]
    have:s1a l a=x:=by
     unfold s1a V4a
     unfold Yv at hx
     rw[hx]
     rfl
    rw[this]
 rw[key ks fun k hk=>(hm k).1 hk,e]
 rfl
theorem I3c {h:DHeap} {v:Value} {l:List Pair} (hb:Arg fPair.rep h v l) (hl:l.length≤1048576):DC Tryz.prog 103 [v] h (.ret (lv h (byK Pair.k l))) (lh fPair h (byK Pair.k l)):=
 Ct.made ((V7c hb hl).mono fun r h1 ⟨w,ks,e,hu,hm,h0,mm⟩=>by
  rw[t1b hu hm]at mm
  refine ⟨w,e,mm,fun hk=>h0 ?_⟩
  rw[← t1b hu hm]at hk
  simpa using hk)
theorem L3c {K:DHeap} {id i:Nat} {A:List Pair} (r:RowIs fPair K id A) (hi:i<A.length):Zk K id (i*3) 3=some (a4a A[i]):=by
 have hm:(i+1)*3≤A.length*3:=Nat.mul_le_mul_right _ hi
 have h1:A.flatMap fPair.enc=(A.take i).flatMap fPair.enc++(fPair.enc A[i]++(A.drop (i+1)).flatMap fPair.enc):=by
  conv=>lhs;rw[← List.take_append_drop i A,List.drop_eq_getElem_cons hi]
  rw[List.flatMap_append,List.flatMap_cons]
 have h2:i*3=((A.take i).flatMap fPair.enc).length:=by rw[ZW];simp[Nat.min_eq_left (Nat.le_of_lt hi)];rfl
 rw[Zu r (by rw[ZW];show _≤A.length*3;omega),h1,h2,List.drop_left]
 rfl
theorem A7a {h h0:DHeap} {v:Value} {l:List Pair} {f:FuncId} {cap:Array Value} {pd:Pair→Bool} (hb:Arg fPair.rep h v l) (hl:l.length≤1048576) (hE:Ext h0 h) (ht:R8a h0 f cap l pd) (hn:∀ x∈l,pd x=false) :
 Ct Tryz.prog 102 [v,.func (.func f) #[] cap] h fun r h1=>r=.ret v∧Ext h h1:=by
 refine N9b (by simp) ?_
 have ht':R8a h f cap l pd:=⟨ht.good,fun x hx K e=>ht.says x hx K (hE.trans e)⟩
 simp -implicitDefEqProofs (disch:=first|omega|simp only[go_sem]) only[go_sem,true_and,Y1c]
 refine YW (J8a hb (by omega) ht') ?_
 rintro r h1 ⟨e1,hr⟩
 rcases hr with ⟨rfl,_⟩ | ⟨i,hi,_,hp,_⟩
 ·simp -implicitDefEqProofs (disch:=first|omega|simp only[go_sem]) only[go_sem,true_and,Xk]
  exact ⟨_,rfl,rfl,e1⟩
 ·rw[hn _ (List.getElem_mem hi)]at hp
  cases hp
structure DelI (l:List Pair) (pd:Pair→Bool) (j k:Nat) (A:List Pair):Prop where
 len:A.length=l.length
 le:j≤l.length
 kk:k=((l.take j).filter fun x=>!pd x).length
 hd:A.take k=(l.take j).filter fun x=>!pd x
 lt:k<j
 tl:∀ p,k<p→j≤p→A[p]? = l[p]?
theorem DelI.first {l:List Pair} {pd:Pair→Bool} {i:Nat} (hi:i<l.length) (hp:pd l[i]=true) (hn:∀ x∈l.take i,pd x=false):DelI l pd (i+1) i l:=by
 have e:(l.take (i+1)).filter (fun x=>!pd x)=l.take i:=by
  rw[List.take_succ_eq_append_getElem hi,List.filter_append,List.filter_cons_of_neg (by simp[hp]),List.filter_nil,List.append_nil]
  exact List.filter_eq_self.2 fun x hx=>by simp[hn x hx]
 refine ⟨rfl,hi,?_,?_,Nat.lt_succ_self _,fun _ _ _=>rfl⟩
 ·rw[e,List.length_take];omega
 ·rw[e]
theorem DelI.at {l A:List Pair} {pd:Pair→Bool} {j k:Nat} (x:DelI l pd j k A) (h:j<l.length):∃ h1:j<A.length,A[j]=l[j]:=by
 have e:=x.len
 refine ⟨by omega,?_⟩
 have h1:=x.tl j x.lt (Nat.le_refl _)
 rw[List.getElem?_eq_getElem (by omega),List.getElem?_eq_getElem h]at h1
 exact Option.some.inj h1
theorem DelI.skip {l A:List Pair} {pd:Pair→Bool} {j k:Nat} (x:DelI l pd j k A) (h:j<l.length) (hp:pd l[j]=true):DelI l pd (j+1) k A:=by
 have e:(l.take (j+1)).filter (fun x=>!pd x)=(l.take j).filter fun x=>!pd x:=by
  rw[List.take_succ_eq_append_getElem h,List.filter_append,List.filter_cons_of_neg (by simp[hp]),List.filter_nil,List.append_nil]
 exact ⟨x.len,h,by rw[e];exact x.kk,by rw[e];exact x.hd,Nat.lt_succ_of_lt x.lt,fun p h1 h2=>x.tl p h1 (by omega)⟩
theorem DelI.keep {l A:List Pair} {pd:Pair→Bool} {j k:Nat} (x:DelI l pd j k A) (h:j<l.length) (hp:pd l[j]=false):DelI l pd (j+1) (k+1) (A.set k l[j]):=by
 have e:(l.take (j+1)).filter (fun x=>!pd x)=((l.take j).filter fun x=>!pd x)++[l[j]]:=by
  rw[List.take_succ_eq_append_getElem h,List.filter_append,List.filter_cons_of_pos (by simp[hp]),List.filter_nil]
 have hlt:=x.lt
 have hlen:=x.len
 refine ⟨by rw[List.length_set];exact x.len,h,by rw[e,List.length_append,← x.kk];rfl,?_,by omega,fun p h1 h2=>?_⟩
 ·rw[e,← x.hd,List.take_set,List.take_succ_eq_append_getElem (by omega),List.set_append_right _ _ (by simp;omega)]
  congr 1
  have:k - (List.take k A).length=0:=by simp;omega
  rw[this]
  rfl
 ·rw[List.getElem?_set_ne (by omega)]
  exact x.tl p (by omega) (by omega)
theorem z6c:y9a Tryz.prog 96=some (3,.agg #[.int .i32 0,.int .i64 0,.int .i64 0]):=by kernel_rfl
set_option maxHeartbeats 1000000 in
theorem q3b {h h0:DHeap} {id c:Nat} {l:List Pair} {f:FuncId} {cap:Array Value} {pd:Pair→Bool} (hr:RowIs fPair h id l) (hok:∀ x∈l,fPair.ok x) (hl:l.length≤1048576) (hid:h0.next≤id) (hidl:id<h.next) (hE:Ext h0 h) (ht:R8a h0 f cap l pd) :
 Ct Tryz.prog 102 [.slice (some ⟨id,0,none⟩) l.length c,.func (.func f) #[] cap] h fun r h1=>∃ w,r=.ret w∧Made fPair h0 h1 w (l.filter fun x=>!pd x):=by
 obtain ⟨v,hv⟩:∃ v,Value.slice (some ⟨id,0,none⟩) l.length c=v:=⟨_,rfl⟩
 have hb:Arg fPair.rep h v l:=by
  have:=hr.sl (o:=0) (n:=l.length) (c:=c) (by omega) hok
  simp only[Nat.zero_mul,List.drop_zero,List.take_length]at this
  rw[hv]at this
  exact this.mono fun i hi=>⟨by rw[hi];exact hidl,rfl⟩
 have mk:∀ (K:DHeap) (k c2:Nat) (cs:List Value),Ext h0 K→id<K.next→K.get id=some (.row cs 3 false)→k=(l.filter fun x=>!pd x).length→k*3≤cs.length→cs.take (k*3)=(l.filter fun x=>!pd x).flatMap fPair.enc→Made fPair h0 K (.slice (some ⟨id,0,none⟩) k c2) (l.filter fun x=>!pd x):=fun K k c2 cs e hlt g hk hle ht=>by
  subst hk
  exact ⟨e,some id,.inr (.inr ⟨id,c2,cs,rfl,rfl,hlt,g,hle,Els.flat.2 ⟨ht,fun x hx=>hok x ((List.mem_filter.1 hx).1)⟩⟩),fun i hi=>by cases hi;exact hid⟩
 rw[hv]
 by_cases hn:∀ x∈l,pd x=false
 ·have hf:l.filter (fun x=>!pd x)=l:=List.filter_eq_self.2 fun x hx=>by simp[hn x hx]
  refine (A7a hb hl hE ht hn).mono fun r h1 ⟨e,e1⟩=>⟨v,e,?_⟩
  have:=mk h1 l.length c (l.flatMap fPair.enc) (hE.trans e1) (Nat.lt_of_lt_of_le hidl e1.next) ((e1.get _ hidl).trans hr) (by rw[hf]) (by rw[ZW];exact Nat.le_refl _) (by rw[hf,List.take_of_length_le (by rw[ZW];exact Nat.le_refl _)])
  rw[hv]at this
  exact this
 refine N9b (by simp) ?_
 have el:∀ K,dLen Tryz.prog #[96] v K=some (.int .i64 (l.length:Nat)):=fun K=>by rw[← hv];rfl
 have ht':R8a h f cap l pd:=⟨ht.good,fun x hx K e=>ht.says x hx K (hE.trans e)⟩
 have ia:∀ i:Nat,i<l.length→ZQ Tryz.prog 96 v (.int .i64 (i:Nat))=some (.pointer (some ⟨id,i*3,none⟩)):=fun i hi=>by
  rw[← hv]
  refine (w2a h8a (by omega) (by omega)).trans ?_
  rw[Nat.zero_add,Int.toNat_natCast]
 have slo:∀ K (A:List Pair) (k:Nat),RowIs fPair K id A→k≤l.length→∃ c',Xw Tryz.prog 96 v (some (.int .i64 (k:Nat))) none none K=some (.slice (some ⟨id,k*3,none⟩) (l.length - k) c'):=fun K A k r hk=>by
  rw[← hv]
  have:=Q4a (c:=c) (o:=0) (n:=l.length) h8a (by decide) r (lo:=some (.int .i64 (k:Nat))) (hi:=none) (j:=l.length) (i:=k) rfl (L2a (k:=.i64) hk)
  rw[Nat.zero_add]at this
  exact ⟨_,this⟩
 have shi:∀ K cs (k:Nat),K.get id=some (.row cs 3 false)→k≤l.length→∃ c',Xw Tryz.prog 96 v none (some (.int .i64 (k:Nat))) none K=some (.slice (some ⟨id,0,none⟩) k c'):=fun K cs k r hk=>by
  rw[← hv]
  exact ⟨_,(Q4a h8a (by decide) r (j:=k) (i:=0) (L2a (k:=.i64) hk) rfl)⟩
 simp -implicitDefEqProofs (disch:=first|omega|simp only[go_sem]) only[go_sem,true_and,Y1c]
 refine YW (J8a hb (by omega) ht') ?_
 rintro r h1 ⟨e1,hr1⟩
 rcases hr1 with ⟨_,hn1⟩ | ⟨i0,hi0,rfl,hp0,hn0⟩
 ·exact absurd hn1 hn
 have hne:(((i0:Nat):Int)=-1)=False:=eq_false (by omega)
 have hw0:=d0a hi0 (by omega)
 simp -implicitDefEqProofs (disch:=first|omega|simp only[go_sem]) only[go_sem,true_and,Xk,hne,hw0]
 have hr1:RowIs fPair h1 id l:=(e1.get _ hidl).trans hr
 refine A0a (σ:=Nat) (by kernel_rfl) (fun j s=>s.df=[]∧s.rd=none∧s.fr 0=some v∧s.fr 1=some (.func (.func f) #[] cap)∧s.fr 6=some (.int .i64 (j:Nat))∧Ext h0 s.h∧id<s.h.next∧∃ k A,s.fr 5=some (.int .i64 (k:Nat))∧RowIs fPair s.h id A∧DelI l pd j k A) (fun j=>l.length - j) (i0+1) ?_ ?_
 ·simp -implicitDefEqProofs (disch:=first|omega|simp only[go_sem]) only[go_sem,true_and]
  exact ⟨hE.trans e1,Nat.lt_of_lt_of_le hidl e1.next,i0,l,rfl,hr1,.first hi0 hp0 hn0⟩
 rintro j ⟨fr,df,K,rd⟩ K' hK' hX ⟨rfl,rfl,f0,f1,f6,hEK,hKl,k,A,f5,hrA,x⟩
 simp only at f0 f1 f6 hEK hKl f5 hrA
 have xlt:=x.lt
 have xlen:=x.len
 have xle:=x.le
 simp -implicitDefEqProofs (disch:=first|omega|simp only[go_sem]) only[go_sem,true_and,f0,f6,el]
 refine n0a (fun hc1=>?_) (fun hc1=>?_)
 ·have hj:j<l.length:=by omega
  obtain ⟨hA1,eA1⟩:=x.at hj
  have k1:=L3c hrA hA1
  rw[eA1]at k1
  have hw:=d0a hj (by omega)
  obtain ⟨K1,hK1⟩:∃ H,H=K.push (.row [.int .i32 l[j].k.t,.int .i64 l[j].k.r,.int .i64 l[j].v] 0 false):=⟨_,rfl⟩
  have g1:K1.get K.next=some (.row [.int .i32 l[j].k.t,.int .i64 l[j].k.r,.int .i64 l[j].v] 0 false):=by rw[hK1];exact Zz _ _
  have lk:Zk K1 K.next 0 3=some (a4a l[j]):=by rw[Zu g1 (Nat.le_of_ble_eq_true rfl)];rfl
  have hE1:Ext K K1:=by rw[hK1];exact Ext.push1 _ _
  have hK1n:K1.next=K.next+1:=by rw[hK1];rfl
  have hst:Yx Tryz.prog 118 (.pointer (some ⟨K.next,0,none⟩)) (.agg #[.int .i32 l[j].k.t,.int .i64 l[j].k.r,.int .i64 l[j].v]) (K.push (.row [.int .i32 0,.int .i64 0,.int .i64 0] 0 false))=some K1:=by
   rw[hK1]
   exact (k0b rfl).trans (c0a rfl rfl)
  have hca:v2a Tryz.prog K1 (some (.func (.func f) #[] cap)) (some [a4a l[j]])=.ok (.enter f (a4a l[j] :: cap.toList)) K1:=R5a ht.good _ _ _
  have hr2:RowIs fPair K1 id A:=(hE1.get _ hKl).trans hrA
  simp -implicitDefEqProofs (disch:=first|omega|simp only[go_sem]) only[go_sem,true_and,f0,f1,f6,ia j hj,k1,hst,lk,hca]
  refine YX (ht.says _ (List.getElem_mem hj) K1 (hEK.trans hE1)) ?_
  cases hq:pd l[j] with
  | true=>
    simp -implicitDefEqProofs (disch:=first|omega|simp only[go_sem]) only[go_sem,true_and,f6,hw]
    refine hK' (j+1) _ ?_ (by omega)
    exact ⟨by trivial,by trivial,(vy f0),(vy f1),vz,hEK.trans hE1,show id<K1.next by omega,k,A,(vy f5),hr2,x.skip hj hq⟩
  | false=>
    have hw3:=d0a (i:=k) (show k<l.length by omega) (by omega)
    have hst2:storeAt K1 id (k*3) [.int .i32 l[j].k.t,.int .i64 l[j].k.r,.int .i64 l[j].v]=some (K1.set id (.row ((A.set k l[j]).flatMap fPair.enc) 3 false)):=hr2.store (show k<A.length by omega) l[j]
    simp -implicitDefEqProofs (disch:=first|omega|simp only[go_sem]) only[go_sem,true_and,f0,f5,f6,lk,ia k (show k<l.length by omega),hst2,hw,hw3]
    refine hK' (j+1) _ ?_ (by omega)
    exact ⟨by trivial,by trivial,(vy f0),(vy f1),vz,(hEK.trans hE1).set hid,show id<K1.next by omega,k+1,A.set k l[j],vz,RowIs.set rfl,x.keep hj hq⟩
 ·have hjl:j=l.length:=by omega
  have xk:=x.kk
  have xhd:=x.hd
  rw[hjl,List.take_length]at xk xhd
  obtain ⟨c3,hs3⟩:=slo _ A k hrA (by omega)
  obtain ⟨zs,hzs,hcl⟩:=D9a (esz:=3) (n:=l.length - k) (c:=c3) (o:=k*3) z6c rfl hrA (by rw[ZW];show _≤A.length*3;omega)
  obtain ⟨c4,hs4⟩:=shi (K.set id (.row (YZ (A.flatMap fPair.enc) (k*3) zs) 3 false)) _ k (Zj _ _) (by omega)
  refine hX _ _ (by simp) ?_
  simp -implicitDefEqProofs (disch:=first|omega|simp only[go_sem]) only[go_sem,true_and,f0,f5,hs3,hcl,hs4]
  refine ⟨_,rfl,_,rfl,mk _ k c4 _ (hEK.set hid) hKl (Zj _ _) xk ?_ ?_⟩
  ·rw[R2a,ZW];show k*3≤A.length*3;omega
  ·have hAk:A.flatMap fPair.enc=(A.take k).flatMap fPair.enc++(A.drop k).flatMap fPair.enc:=by rw[← List.flatMap_append,List.take_append_drop]
   have hlk:k*3=((A.take k).flatMap fPair.enc).length:=by rw[ZW];simp[Nat.min_eq_left (show k≤A.length by omega)];rfl
   rw[← xhd]
   refine List.ext_getElem? fun i=>?_
   rw[List.getElem?_take]
   split
   ·rename_i hi
    rw[M3a,if_neg (by omega),hAk,List.getElem?_append_left (by omega)]
   ·rw[List.getElem?_eq_none (by omega)]
theorem x9b {h0 H:DHeap} {l:List Pair} {f:FuncId} {cap:Array Value} {pd:Pair→Bool} (hok:∀ x∈l,fPair.ok x) (hl:l.length≤1048576) (hE:Ext h0 H) (ht:R8a H f cap l pd) :
 Ct Tryz.prog 102 [lv H l,.func (.func f) #[] cap] (lh fPair H l) fun r h1=>∃ w,r=.ret w∧Made fPair h0 h1 w (l.filter fun x=>!pd x):=by
 by_cases h0':l=[]
 ·subst h0'
  refine (A7a (h0:=H) (pd:=pd) (K7c fPair H hok).arg (by simp) (Q9a _ _ _) ht (fun x hx=>by cases hx)).mono fun r h1 ⟨e,e1⟩=>⟨_,e,?_⟩
  exact (Made.nil fPair ((hE.trans (Q9a _ _ _)).trans e1))
 ·have hne:l.isEmpty=false:=by simpa using h0'
  have e1:lv H l=.slice (some ⟨H.next,0,none⟩) l.length (l.length+1):=by unfold lv;rw[hne];rfl
  have e2:lh fPair H l=H.push (.row (l.flatMap fPair.enc) 3 false):=by unfold lh;rw[hne];rfl
  rw[e1,e2]
  refine (q3b (h0:=H) (Zz _ _) hok hl (Nat.le_refl _) (Nat.lt_succ_self _) (Ext.push1 _ _) ht).mono fun r h1 ⟨w,e,m⟩=>⟨w,e,m.base hE⟩
theorem Q7c {h:DHeap} {t:Txn} {vc va vr vw v:Value} {l:List Pair} (x:TxV (InH h) h t vc va vr vw) (hb:Arg fPair.rep h v l) (hl:l.length≤1048576) (hr:t.reads.length≤4294967296) :
 Ct Tryz.prog 71 [h1a t.ses t.req vc va vr vw,v] h fun r h1=>∃ w,r=.ret w∧Made fPair h h1 w (Q2a t l):=by
 refine M3d (by simp) ?_
 obtain ⟨H,hH⟩:∃ H,H=h.push (.row [.int .i64 t.ses,.int .i64 t.req,vc,va,vr,vw] 0 false):=⟨_,rfl⟩
 have hE:Ext h H:=by rw[hH];exact Ext.push1 _ _
 have g:H.get h.next=some (.row [.int .i64 t.ses,.int .i64 t.req,vc,va,vr,vw] 0 false):=by rw[hH];exact Zz _ _
 have hHn:H.next=h.next+1:=by rw[hH];rfl
 have hcl:(h1a t.ses t.req vc va vr vw).cells.toList=[.int .i64 t.ses,.int .i64 t.req,vc,va,vr,vw]:=rfl
 simp -implicitDefEqProofs (disch:=first|omega|simp only[go_sem]) only[go_sem,true_and,c71,hcl,← hH]
 refine YX (I3c (hb.ext hE) hl) ?_
 simp -implicitDefEqProofs (disch:=first|omega|simp only[go_sem]) only[go_sem,true_and]
 have hlen:=d8a (key:=Pair.k) l
 refine YW (x9b (h0:=h) (fun x hx=>hb.ok x (E7b hx)) (by omega) hE (G7b (Zy g) (by omega) (x.ext hE).r hr)) ?_
 rintro r h1 ⟨w,rfl,m⟩
 simp -implicitDefEqProofs (disch:=first|omega|simp only[go_sem]) only[go_sem,true_and,Xk]
 refine ⟨_,rfl,w,rfl,?_⟩
 simpa [Q2a] using m
end Go.Proofs.YtheamfnbfgiaeaaGreat
namespace Go.D
variable {P:Program} {α:Type} {F:FRep α} {h h1 K:DHeap} {v:Value} {l:List α} {z b id:Nat} {ts:Array TypeId}
def NoRow (h:DHeap) (i z:Nat):Prop:=∀ cs,h.get i≠some (.row cs z false)
theorem NoRow.map {es:List MapEntry} {c:Nat} (g:h.get id=some (.map es c)):NoRow h id z:=fun cs e=>by rw[g]at e;cases e
theorem NoRow.row {cs:List Value} {y:Nat} (g:h.get id=some (.row cs y false)) (hy:y≠z):NoRow h id z:=fun cs' e=>by rw[g]at e;cases e;exact hy rfl
theorem NoRow.keep (n:NoRow h id z) (e:K.get id=h.get id):NoRow K id z:=fun cs g=>n cs (e▸g)
theorem MapAt.noRow {κ:Type} {enc:κ→Value} {m:List (κ × Value)} (a:MapAt enc h id m):NoRow h id z:=by
 obtain ⟨es,c,g,_⟩:=a
 exact .map g
theorem Owns.ne {w:Option Nat} (a:Owns F.rep NoS K v l w) (hn:NoRow K id F.z):w≠some id:=by
 rintro rfl
 rcases a with ⟨_,_,h0⟩ | ⟨h0,_⟩ | ⟨i,cap,cells,_,h0,_,g,_⟩
 ·cases h0
 ·cases h0
 ·cases h0
  exact hn _ g
theorem Made.setX {o:DObj} (m:Made F h K v l) (hn:NoRow K id F.z) (hid:h.next≤id):Made F h (K.set id o) v l:=by
 obtain ⟨w,a,b⟩:=m.own
 have hne:=a.ne hn
 exact ⟨m.ext.set hid,w,a.mono (Nat.le_refl _) (fun i hi=>Zx _ _ fun e=>by subst e;exact hne hi) (fun i hi=>hi.elim),b⟩
theorem Made.snocX (m:Made F h h1 v l) (hT:K2a P ts=some (F.z,b)) {y:α} {cs:List Value} (hc:cs=F.enc y) (hz:F.z=z) (hp:0<F.z) (hy:F.ok y) (hlen:l.length+1≤4294967296) (hb:b≤32768) :
 ∃ v' h2,u0a P ts v (.slice (some ⟨h1.next,0,none⟩) 1 1) (h1.push (.row cs z false))=some (v',h2)∧Made F h h2 v' (l++[y])∧h2.next=h1.next+2∧∀ i,i<h1.next→NoRow h1 i F.z→h2.get i=h1.get i:=by
 obtain ⟨w,a,bw⟩:=m.own
 obtain ⟨v',h2,e1,n2,ng2,gg,o3⟩:=a.snoc (cs:=cs) (x:=y) (z:=z) (fun i hi=>hi.elim) ⟨hc,hy⟩ hz.symm hp hT hlen hb
 exact ⟨v',h2,e1,⟨⟨by have:=m.ext.next;omega,ng2.trans m.ext.ng,fun i hi=>(gg i (Nat.lt_of_lt_of_le hi m.ext.next) (fun e=>by have:=bw i e;omega)).trans (m.ext.get i hi)⟩,_,o3,fun i hi=>by cases hi;have:=m.ext.next;omega⟩,n2,fun i hi hn=>gg i hi (a.ne hn)⟩
end Go.D
namespace Go.Proofs.YtheamfnbfgiaeaaGreat
open Go.D
set_option maxRecDepth 100000
abbrev f1a (c:Change):Value:=.agg #[.int .i32 c.k.t,.int .i64 c.k.r,.int .i64 c.v,.bool c.e]
def G1a {α:Type} (key:α→Key) (enc:α→Value) (l:List α):List (Key × Value):=l.foldl (fun m p=>X0a m (key p) (enc p)) []
section
variable {α:Type} {key:α→Key} {enc:α→Value}
theorem G4a {l:List α} {x:α}:G1a key enc (l++[x])=X0a (G1a key enc l) (key x) (enc x):=by
 unfold G1a
 rw[List.foldl_append]
 rfl
theorem u1b {l:List α} {i:Nat} (hi:i<l.length):G1a key enc (l.take (i+1))=X0a (G1a key enc (l.take i)) (key l[i]) (enc l[i]):=by
 rw[List.take_succ_eq_append_getElem hi,G4a]
theorem U6a {P:List α→Prop} (h0:P []) (h1:∀ l x,P l→P (l++[x])):∀ l,P l:=fun l=>by
 have:∀ m:List α,P m.reverse:=fun m=>by
  induction m with
  | nil=>exact h0
  | cons x m ih=>rw[List.reverse_cons];exact h1 _ _ ih
 have h:=this l.reverse
 rwa [List.reverse_reverse]at h
theorem O6a:∀ l:List α,((G1a key enc l).map (·.1)).Nodup:=
 U6a (by simp[G1a]) fun l x ih=>by rw[G4a];exact P1a ih
theorem E4a {k:Key}:∀ l:List α,Ww (G1a key enc l) k=(Yv key l k).map enc:=
 U6a rfl fun l x ih=>by
  rw[G4a,I3a (O6a l),P9a,ih]
  by_cases h:k=key x
  ·rw[if_pos h,if_pos h.symm];rfl
  ·rw[if_neg h,if_neg fun e=>h e.symm]
theorem w3c:∀ (l:List α) (k:Key),k∈(G1a key enc l).map (·.1)↔k∈l.map key:=
 U6a (by simp[G1a]) fun l x ih k=>by
  have ih':=ih
  have ih:=ih k
  rw[G4a,K7a,List.map_append,List.map_cons,List.map_nil,List.mem_append,List.mem_singleton]
  split
  ·rename_i hx
   rw[ih]
   have hx:=(ih' (key x)).1 hx
   constructor
   ·exact .inl
   ·rintro (h | rfl)
    ·exact h
    ·exact hx
  ·rw[List.mem_append,List.mem_singleton,ih]
end
theorem p4b:Tryz.prog.underlying 148=some (.map 31 99):=by kernel_rfl
theorem n8a:l7a Tryz.prog 148 ZZ (f1a u0d):=⟨_,_,p4b,x7b,by kernel_rfl⟩
set_option maxHeartbeats 1000000 in
theorem I8b {h:DHeap} {v:Value} {l:List Change} (hb:Arg fChange.rep h v l) (hl:l.length≤1048576) :
 Ct Tryz.prog 73 [v] h fun r h1=>∃ w,r=.ret w∧Made fChange h h1 w (byK Change.k l):=by
 refine O3d (by simp) ?_
 have el:∀ K,dLen Tryz.prog #[92] v K=some (.int .i64 (l.length:Nat)):=hb.lens (P:=Tryz.prog) (ts:=#[92]) (t:=92) rfl T9b
 simp -implicitDefEqProofs (disch:=first|omega|simp only[go_sem]) only[go_sem,true_and,c73,el]
 refine A0a (σ:=Nat) (by kernel_rfl) (fun i s=>s.df=[]∧s.rd=none∧s.fr 3=some (.map (some h.next))∧s.fr 11=some v∧s.fr 12=some (.int .i64 (l.length:Nat))∧s.fr 13=some (.int .i64 (i:Nat))∧i≤l.length∧h.next<s.h.next∧MapAt ZZ s.h h.next (G1a Change.k f1a (l.take i))∧∃ kv,s.fr 4=some kv∧Made fKey h s.h kv ((l.take i).map Change.k)) (fun i=>l.length - i) 0 ?_ ?_
 ·simp -implicitDefEqProofs (disch:=first|omega|simp only[go_sem]) only[go_sem,true_and]
  exact ⟨by trivial,Nat.zero_le _,Nat.lt_succ_self _,MapAt.new,_,rfl,.nil fKey (Ext.push1 _ _)⟩
 rintro i ⟨fr,df,K,rd⟩ K' hK' hX ⟨rfl,rfl,f3,f11,f12,f13,hi,hlt,hm,kv,f4,mk⟩
 simp only at f3 f11 f12 f13 hlt hm f4 mk
 have hE:=mk.ext
 simp -implicitDefEqProofs (disch:=first|omega|simp only[go_sem]) only[go_sem,true_and,f11,f12,f13]
 refine n0a (fun hc1=>?_) (fun hc1=>?_)
 ·have hj:i<l.length:=by omega
  obtain ⟨id1,o1,e1,_,hat1⟩:=(hb.ext hE).idx (P:=Tryz.prog) (t:=92) r4c (k:=.i64) (i:=i) (x:=l[i]) (by simp)
  have l1:Zk K id1 o1 4=some (f1a l[i]):=hat1.flat.2.1
  obtain ⟨K1,hK1⟩:∃ H,H=K.push (.row [.int .i32 l[i].k.t,.int .i64 l[i].k.r,.int .i64 l[i].v,.bool l[i].e] 0 false):=⟨_,rfl⟩
  have g1:K1.get K.next=some (.row [.int .i32 l[i].k.t,.int .i64 l[i].k.r,.int .i64 l[i].v,.bool l[i].e] 0 false):=by rw[hK1];exact Zz _ _
  have hE1:Ext K K1:=by rw[hK1];exact Ext.push1 _ _
  have hK1n:K1.next=K.next+1:=by rw[hK1];rfl
  have hm1:MapAt ZZ K1 h.next (G1a Change.k f1a (l.take i)):=hm.keep (hE1.get _ hlt)
  obtain ⟨o,hu,hm2⟩:=hm1.update n8a l[i].k (f1a l[i])
  obtain ⟨K2,hK2⟩:∃ H,K1.set h.next o=H:=⟨_,rfl⟩
  rw[hK2]at hu hm2
  have g2:K2.get K.next=some (.row [.int .i32 l[i].k.t,.int .i64 l[i].k.r,.int .i64 l[i].v,.bool l[i].e] 0 false):=by rw[← hK2,Zx _ _ (by omega)];exact g1
  have lk:Zk K1 K.next 0 2=some (ZZ l[i].k):=by rw[Zu g1 (Nat.le_of_ble_eq_true rfl)];rfl
  have lk2:Zk K2 K.next 0 2=some (ZZ l[i].k):=by rw[Zu g2 (Nat.le_of_ble_eq_true rfl)];rfl
  have lc:Zk K1 K.next 0 4=some (f1a l[i]):=by rw[Zu g1 (Nat.le_of_ble_eq_true rfl)];rfl
  have mk2:Made fKey h K2 kv ((l.take i).map Change.k):=hK2▸(mk.on hE1).setX hm1.noRow (Nat.le_refl _)
  have hK2n:K2.next=K.next+1:=by rw[← hK2];exact hK1n
  obtain ⟨kv',h6,e6,m6,n6,k6⟩:=mk2.snocX A2b (y:=l[i].k) (cs:=[.int .i32 l[i].k.t,.int .i64 l[i].k.r]) (z:=2) rfl rfl (by decide) (hb.ok _ (List.getElem_mem hj)).1 (by rw[List.length_map,List.length_take];omega) (by decide)
  have hm3:MapAt ZZ h6 h.next (G1a Change.k f1a (l.take (i+1))):=by
   rw[u1b hj]
   exact hm2.keep (k6 _ (by omega) hm2.noRow)
  have hw:=d0a hj (by omega)
  have hst:Yx Tryz.prog 99 (.pointer (some ⟨K.next,0,none⟩)) (.agg #[.int .i32 l[i].k.t,.int .i64 l[i].k.r,.int .i64 l[i].v,.bool l[i].e]) (K.push (.row [.int .i32 0,.int .i64 0,.int .i64 0,.bool false] 0 false))=some K1:=by
   rw[hK1]
   exact (p8a rfl).trans (c0a rfl rfl)
  simp -implicitDefEqProofs (disch:=first|omega|simp only[go_sem]) only[go_sem,true_and,f3,f4,f11,f13,e1,l1,hst,lk,lc,hu,lk2,e6,hw]
  refine hK' (i+1) _ ?_ (by omega)
  refine ⟨by trivial,by trivial,(vy f3),(vy f11),(vy f12),vz,by omega,?_,hm3,kv',vz,?_⟩
  ·show h.next<h6.next
   omega
  ·rw[List.take_succ_eq_append_getElem hj,List.map_append]
   exact m6
 obtain rfl:i=l.length:=by omega
 refine hX _ _ (by simp) ?_
 rw[List.take_length]at hm mk
 simp -implicitDefEqProofs (disch:=first|omega|simp only[go_sem]) only[go_sem,true_and,f4]
 refine YW (s1d mk.arg (by rw[List.length_map];exact hl)) ?_
 rintro r h3 ⟨w,rfl,hE3,hs3⟩
 obtain ⟨ks,hks⟩:∃ ks,Z3a (l.map Change.k)=ks:=⟨_,rfl⟩
 rw[hks]at hs3
 have hsk:Arg fKey.rep h3 w ks:=hs3.mono fun i hi=>⟨hi.2,rfl⟩
 have ek:∀ K,dLen Tryz.prog #[24] w K=some (.int .i64 (ks.length:Nat)):=hsk.lens (P:=Tryz.prog) (ts:=#[24]) (t:=24) rfl m3a
 have hkl:ks.length≤l.length:=by
  have:=o1b (l.map Change.k)
  rw[hks,List.length_map]at this
  exact this
 have hE03:Ext h h3:=hE.trans hE3
 have hn3:=hE3.next
 have hm3:MapAt ZZ h3 h.next (G1a Change.k f1a l):=hm.keep (hE3.get _ hlt)
 simp -implicitDefEqProofs (disch:=first|omega|simp only[go_sem]) only[go_sem,true_and,Xk,ek]
 refine A0a (σ:=Nat) (by kernel_rfl) (fun j s=>s.df=[]∧s.rd=none∧s.fr 3=some (.map (some h.next))∧s.fr 28=some w∧s.fr 29=some (.int .i64 (ks.length:Nat))∧s.fr 30=some (.int .i64 (j:Nat))∧j≤ks.length∧∃ v',s.fr 7=some v'∧Made fChange h3 s.h v' ((ks.take j).filterMap (Yv Change.k l))) (fun j=>ks.length - j) 0 ?_ ?_
 ·simp -implicitDefEqProofs (disch:=first|omega|simp only[go_sem]) only[go_sem,true_and,f3]
  exact ⟨by trivial,Nat.zero_le _,_,rfl,Made.nil _ (.refl _)⟩
 rintro j ⟨fr,df,K4,rd⟩ K' hK' hX ⟨rfl,rfl,f3,f28,f29,f30,hj,v',f7,mm⟩
 simp only at f3 f28 f29 f30 f7 mm
 have hE4:=mm.ext
 have hn4:=hE4.next
 simp -implicitDefEqProofs (disch:=first|omega|simp only[go_sem]) only[go_sem,true_and,f28,f29,f30]
 refine n0a (fun hc1=>?_) (fun hc1=>?_)
 ·have hjl:j<ks.length:=by omega
  obtain ⟨id1,o1,e1,_,hat1⟩:=(hsk.ext hE4).idx (P:=Tryz.prog) (t:=24) t4a (k:=.i64) (i:=j) (x:=ks[j]) (by simp)
  have l1:Zk K4 id1 o1 2=some (ZZ ks[j]):=hat1.flat.2.1
  obtain ⟨K5,hK5⟩:∃ H,H=K4.push (.row [.int .i32 ks[j].t,.int .i64 ks[j].r] 0 false):=⟨_,rfl⟩
  have hE5:Ext K4 K5:=by rw[hK5];exact Ext.push1 _ _
  have hK5n:K5.next=K4.next+1:=by rw[hK5];rfl
  have hst:Yx Tryz.prog 31 (.pointer (some ⟨K4.next,0,none⟩)) (ZZ ks[j]) (K4.push (.row [.int .i32 0,.int .i64 0] 0 false))=some K5:=by
   rw[hK5]
   exact (c4a rfl).trans (c0a rfl rfl)
  have g5:K5.get K4.next=some (.row [.int .i32 ks[j].t,.int .i64 ks[j].r] 0 false):=by rw[hK5];exact Zz _ _
  have l5:Zk K5 K4.next 0 2=some (ZZ ks[j]):=by rw[Zu g5 (Nat.le_of_ble_eq_true rfl)];rfl
  have hkm:ks[j]∈l.map Change.k:=mem_keysN.1 (hks▸List.getElem_mem hjl)
  obtain ⟨c,hc⟩:=F5a (key:=Change.k) hkm
  obtain ⟨hc1,hc2⟩:=h0a hc
  have lk5:Q0a Tryz.prog 148 (.map (some h.next)) (ZZ ks[j]) false K5=some (f1a c):=by
   rw[(hm3.keep ((hE5.get _ (by omega)).trans (hE4.get _ (by omega)))).lookup n8a ks[j] false,E4a,hc]
   rfl
  obtain ⟨w2,h6,e6,m6⟩:=(mm.on hE5).snoc B2b (y:=c) (cs:=[.int .i32 c.k.t,.int .i64 c.k.r,.int .i64 c.v,.bool c.e]) (z:=4) rfl rfl (hb.ok _ hc1) (by have:=List.length_filterMap_le (Yv Change.k l) (ks.take j);have:=List.length_take (i:=j) (l:=ks);omega) (by decide)
  have hw:=d0a hjl (by omega)
  simp -implicitDefEqProofs (disch:=first|omega|simp only[go_sem]) only[go_sem,true_and,f3,f7,f28,f30,e1,l1,hst,l5,lk5,e6,hw]
  refine hK' (j+1) _ ?_ (by omega)
  refine ⟨rfl,rfl,(vy f3),(vy f28),(vy f29),vz,by omega,w2,vz,?_⟩
  rw[List.take_succ_eq_append_getElem hjl,List.filterMap_append]
  simpa [hc] using m6
 obtain rfl:j=ks.length:=by omega
 refine hX _ _ (by simp) ?_
 rw[List.take_length]at mm
 simp -implicitDefEqProofs (disch:=first|omega|simp only[go_sem]) only[go_sem,true_and,f7]
 refine ⟨_,rfl,_,rfl,?_⟩
 unfold byK
 rw[hks]
 exact mm.base hE03
end Go.Proofs.YtheamfnbfgiaeaaGreat
namespace Go.Proofs.YtheamfnbfgiaeaaGreat
open Go.D
set_option maxRecDepth 100000
end Go.Proofs.YtheamfnbfgiaeaaGreat
namespace Go.D
variable {α:Type} {R:Rep α} {S D:Nat→Prop} {h h' K K':DHeap} {v:Value} {l:List α} {id:Nat} {o:DObj}
structure KpD (D:Nat→Prop) (h K:DHeap):Prop where
 next:h.next≤K.next
 ng:K.ng=h.ng
 get:∀ i,i<h.next→¬ D i→K.get i=h.get i
theorem KpD.refl (D:Nat→Prop) (h:DHeap):KpD D h h:=⟨Nat.le_refl _,rfl,fun _ _ _=>rfl⟩
theorem KpD.set (k:KpD D h K) (hD:D id∨h.next≤id):KpD D h (K.set id o):=
 ⟨k.next,k.ng,fun i hi hn=>(Zx _ _ (fun e:i=id=>by
  subst e
  rcases hD with hD | hD
  ·exact hn hD
  ·omega)).trans (k.get i hi hn)⟩
theorem KpD.ext (k:KpD D h K) (e:Ext K K'):KpD D h K':=
 ⟨Nat.le_trans k.next e.next,e.ng.trans k.ng,fun i hi hn=>(e.get i (Nat.lt_of_lt_of_le hi k.next)).trans (k.get i hi hn)⟩
theorem KpD.of (e:Ext h K):KpD D h K:=(KpD.refl D h).ext e
theorem KpD.toExt (k:KpD D h K) (e:Ext h' h) (hD:∀ i,D i→h'.next≤i):Ext h' K:=
 ⟨Nat.le_trans e.next k.next,k.ng.trans e.ng,fun i hi=>(k.get i (Nat.lt_of_lt_of_le hi e.next) (fun hd=>by have:=hD i hd;omega)).trans (e.get i hi)⟩
theorem Sl.kp (a:Sl R S h v l) (k:KpD D h K) (hS:∀ i,S i→i<h.next∧¬ D i):Sl R S K v l:=a.mono fun i hi=>⟨hi,k.get i (hS i hi).1 (hS i hi).2⟩
theorem k4b {F:FRep α} {z:Nat} (a:Sl F.rep S h v l) (k:∀ i,S i→NoRow h i z→K.get i=h.get i) (hz:F.z≠z:=by decide) (hz0:∀ cs esz ro,∀ i,S i→h.get i=some (.row cs esz ro)→ro=false∨True:=fun _ _ _ _ _ _=>.inr trivial):Sl F.rep S K v l:=by
 rcases a with a | ⟨id,o,cap,cells,esz,ro,e,b,c,d,f⟩
 ·exact .inl a
 ·refine .inr ⟨id,o,cap,cells,esz,ro,e,b,(k id b fun cs g=>?_).trans c,d,f.1,Els.flat.2 (Els.flat.1 f.2)⟩
  rw[c]at g
  cases g
  rcases d with d | d
  ·cases d
  ·exact hz d.symm
theorem MapAt.kp {κ:Type} {enc:κ→Value} {m:List (κ × Value)} (a:MapAt enc h id m) (k:KpD D h K) (hi:id<h.next) (hn:¬ D id):MapAt enc K id m:=a.keep (k.get id hi hn)
end Go.D
namespace Go.Proofs.YtheamfnbfgiaeaaGreat
open Go.D
set_option maxRecDepth 100000
def XQ (t:Txn) (vc va vr vw:Value) (g:List Int) (hm mm am:Nat) (vo:Value) (pc:Int):List Value:=
 .int .i64 t.ses :: .int .i64 t.req :: vc :: va :: vr :: vw :: (g.map (fun n=>Value.int .i64 n)++[.map (some hm),.map (some mm),vo,.int .i64 pc,.map (some am)])
theorem R3b {g:List Int} (h:g.length=8):∃ a b c d e f i j,g=[a,b,c,d,e,f,i,j]:=by
 match g,h with
 | [a,b,c,d,e,f,i,j],_=>exact ⟨a,b,c,d,e,f,i,j,rfl⟩
section
variable {t:Txn} {vc va vr vw vo:Value} {g:List Int} {hm mm am:Nat} {pc:Int}
theorem w5a (hg:g.length=8):(XQ t vc va vr vw g hm mm am vo pc).length=19:=by simp[XQ,hg]
theorem h4b (hg:g.length=8) {a:Nat} (ha:a<8):(XQ t vc va vr vw g hm mm am vo pc)[6+a]? = some (.int .i64 (g.getD a 0)):=by
 obtain ⟨r0,r1,r2,r3,r4,r5,r6,r7,rfl⟩:=R3b hg
 match a,ha with
 | 0,_=>rfl
 | 1,_=>rfl
 | 2,_=>rfl
 | 3,_=>rfl
 | 4,_=>rfl
 | 5,_=>rfl
 | 6,_=>rfl
 | 7,_=>rfl
theorem o1a (hg:g.length=8):(XQ t vc va vr vw g hm mm am vo pc)[14]? = some (.map (some hm))∧(XQ t vc va vr vw g hm mm am vo pc)[15]? = some (.map (some mm))∧(XQ t vc va vr vw g hm mm am vo pc)[16]? = some vo∧(XQ t vc va vr vw g hm mm am vo pc)[17]? = some (.int .i64 pc)∧(XQ t vc va vr vw g hm mm am vo pc)[18]? = some (.map (some am)):=by
 obtain ⟨r0,r1,r2,r3,r4,r5,r6,r7,rfl⟩:=R3b hg
 exact ⟨rfl,rfl,rfl,rfl,rfl⟩
theorem d5b (hg:g.length=8) {a:Nat} (ha:a<8) (v:Int):YZ (XQ t vc va vr vw g hm mm am vo pc) (6+a) [.int .i64 v]=XQ t vc va vr vw (g.set a v) hm mm am vo pc:=by
 obtain ⟨r0,r1,r2,r3,r4,r5,r6,r7,rfl⟩:=R3b hg
 match a,ha with
 | 0,_=>rfl
 | 1,_=>rfl
 | 2,_=>rfl
 | 3,_=>rfl
 | 4,_=>rfl
 | 5,_=>rfl
 | 6,_=>rfl
 | 7,_=>rfl
theorem c5b (hg:g.length=8) (v:Value):YZ (XQ t vc va vr vw g hm mm am vo pc) 16 [v]=XQ t vc va vr vw g hm mm am v pc:=by
 obtain ⟨r0,r1,r2,r3,r4,r5,r6,r7,rfl⟩:=R3b hg
 rfl
theorem R6a (hg:g.length=8) (n:Int):YZ (XQ t vc va vr vw g hm mm am vo pc) 17 [.int .i64 n]=XQ t vc va vr vw g hm mm am vo n:=by
 obtain ⟨r0,r1,r2,r3,r4,r5,r6,r7,rfl⟩:=R3b hg
 rfl
end
structure M5a (h0:DHeap) (b hm mm am:Nat) (t:Txn) (vc va vr vw:Value) (m:List Pair) (L:List Instr):Prop where
 lb:b<h0.next
 lh:hm<h0.next
 lm:mm<h0.next
 la:am<h0.next
 bm:b≠mm
 hb:hm≠b
 hmm:hm≠mm
 ab:am≠b
 amm:am≠mm
 tx:TxV (fun i=>i<h0.next∧¬ (i=b∨i=mm)) h0 t vc va vr vw
 len:y6a t
 has:MapAt ZZ h0 hm (G1a Pair.k (fun p=>.int .i64 p.v) m)
 at_:∃ ms:List (Int × Value),MapAt (fun n:Int=>Value.int .i64 n) h0 am ms∧∀ (i:Nat) x,L[i]? = some x→Ww ms x.pos=some (.int .i64 (i:Nat))
 okm:∀ p∈m,fPair.ok p
structure RunI (h0 K:DHeap) (b hm mm am:Nat) (t:Txn) (vc va vr vw:Value) (s:RS) (pc:Int):Prop where
 kp:KpD (fun i=>i=b∨i=mm) h0 K
 row:∃ vo w,K.get b=some (.row (XQ t vc va vr vw s.reg hm mm am vo pc) 0 false)∧Owns fI64.rep NoS K vo s.out w∧∀ i,w=some i→h0.next≤i
 mine:MapAt ZZ K mm (G1a Change.k f1a s.w)
 len:s.reg.length=8
 ok:∀ n∈s.reg,inK .i64 n
 outn:s.out.length≤8
 wok:∀ c∈s.w,fChange.ok c
section
variable {h0 K K':DHeap} {b hm mm am:Nat} {t:Txn} {vc va vr vw:Value} {m:List Pair} {L:List Instr} {s:RS} {pc:Int}
theorem RunI.ext (C:M5a h0 b hm mm am t vc va vr vw m L) (I:RunI h0 K b hm mm am t vc va vr vw s pc) (e:Ext K K'):RunI h0 K' b hm mm am t vc va vr vw s pc:=by
 obtain ⟨vo,w,g,o,hw⟩:=I.row
 have hn:=I.kp.next
 have hlb:=C.lb
 have hlm:=C.lm
 exact ⟨I.kp.ext e,⟨vo,w,(e.get _ (by omega)).trans g,o.mono e.next (fun i hi=>e.get i (o.lt i hi)) (fun i hi=>hi.elim),hw⟩,I.mine.keep (e.get _ (by omega)),I.len,I.ok,I.outn,I.wok⟩
theorem RunI.tx (C:M5a h0 b hm mm am t vc va vr vw m L) (I:RunI h0 K b hm mm am t vc va vr vw s pc):TxV (InH K) K t vc va vr vw:=
 C.tx.mono fun i hi=>⟨Nat.lt_of_lt_of_le hi.1 I.kp.next,I.kp.get i hi.1 hi.2⟩
theorem RunI.box (C:M5a h0 b hm mm am t vc va vr vw m L) (I:RunI h0 K b hm mm am t vc va vr vw s pc) {s':RS} {pc':Int} {vo:Value} {w:Option Nat} (ho:Owns fI64.rep NoS K vo s'.out w) (hw:∀ i,w=some i→h0.next≤i) (hwm:s'.w=s.w) (hl:s'.reg.length=8) (hok:∀ n∈s'.reg,inK .i64 n) (hn:s'.out.length≤8) :
 RunI h0 (K.set b (.row (XQ t vc va vr vw s'.reg hm mm am vo pc') 0 false)) b hm mm am t vc va vr vw s' pc':=by
 have hlb:=C.lb
 refine ⟨I.kp.set (.inl (.inl rfl)),⟨vo,w,Zj _ _,ho.mono (Nat.le_refl _) (fun i hi=>Zx _ _ (by have:=hw i hi;omega)) (fun i hi=>hi.elim),hw⟩,?_,hl,hok,hn,by rw[hwm];exact I.wok⟩
 rw[hwm]
 exact I.mine.keep (Zx _ _ (fun e=>C.bm e.symm))
theorem RunI.reg (C:M5a h0 b hm mm am t vc va vr vw m L) (I:RunI h0 K b hm mm am t vc va vr vw s pc) {vo:Value} (g:K.get b=some (.row (XQ t vc va vr vw s.reg hm mm am vo pc) 0 false)) {a v:Int} (hv:inK .i64 v):RunI h0 (K.set b (.row (XQ t vc va vr vw (s.reg.set a.toNat v) hm mm am vo pc) 0 false)) b hm mm am t vc va vr vw (s.set a v) pc:=by
 obtain ⟨vo',w,g',o,hw⟩:=I.row
 have:vo'=vo:=by
  rw[g]at g'
  injection g' with g'
  injection g' with g'
  have h1:=(o1a (t:=t) (vc:=vc) (va:=va) (vr:=vr) (vw:=vw) (vo:=vo) (hm:=hm) (mm:=mm) (am:=am) (pc:=pc) I.len).2.2.1
  have h2:=(o1a (t:=t) (vc:=vc) (va:=va) (vr:=vr) (vw:=vw) (vo:=vo') (hm:=hm) (mm:=mm) (am:=am) (pc:=pc) I.len).2.2.1
  rw[g',h2]at h1
  exact Option.some.inj h1
 subst this
 refine I.box C (s':=s.set a v) o hw rfl (by simp[I.len]) (fun n hn=>?_) I.outn
 rcases List.mem_or_eq_of_mem_set hn with hn | rfl
 ·exact I.ok n hn
 ·exact hv
theorem RunI.pc' (C:M5a h0 b hm mm am t vc va vr vw m L) (I:RunI h0 K b hm mm am t vc va vr vw s pc) {vo:Value} (g:K.get b=some (.row (XQ t vc va vr vw s.reg hm mm am vo pc) 0 false)) (n:Int):RunI h0 (K.set b (.row (XQ t vc va vr vw s.reg hm mm am vo n) 0 false)) b hm mm am t vc va vr vw s n:=by
 obtain ⟨vo',w,g',o,hw⟩:=I.row
 have:vo'=vo:=by
  rw[g]at g'
  injection g' with g'
  injection g' with g'
  have h1:=(o1a (t:=t) (vc:=vc) (va:=va) (vr:=vr) (vw:=vw) (vo:=vo) (hm:=hm) (mm:=mm) (am:=am) (pc:=pc) I.len).2.2.1
  have h2:=(o1a (t:=t) (vc:=vc) (va:=va) (vr:=vr) (vw:=vw) (vo:=vo') (hm:=hm) (mm:=mm) (am:=am) (pc:=pc) I.len).2.2.1
  rw[g',h2]at h1
  exact Option.some.inj h1
 subst this
 exact I.box C o hw rfl I.len I.ok I.outn
theorem RunI.put (C:M5a h0 b hm mm am t vc va vr vw m L) (I:RunI h0 K b hm mm am t vc va vr vw s pc) {c:Change} {o:DObj} (hm2:MapAt ZZ (K.set mm o) mm (X0a (G1a Change.k f1a s.w) c.k (f1a c))) (hc:fChange.ok c):RunI h0 (K.set mm o) b hm mm am t vc va vr vw (s.put c) pc:=by
 obtain ⟨vo,w,g,ow,hw⟩:=I.row
 have hlm:=C.lm
 refine ⟨I.kp.set (.inl (.inr rfl)),⟨vo,w,(Zx _ _ C.bm).trans g,ow.mono (Nat.le_refl _) (fun i hi=>Zx _ _ (by have:=hw i hi;omega)) (fun i hi=>hi.elim),hw⟩,?_,I.len,I.ok,I.outn,fun x hx=>?_⟩
 ·rw[show (s.put c).w=s.w++[c] from rfl,G4a]
  exact hm2
 ·rcases List.mem_append.1 hx with hx | hx
  ·exact I.wok x hx
  ·rw[List.mem_singleton.1 hx]
   exact hc
end
theorem U3c:Tryz.prog.underlying 149=some (.map 3 3):=by kernel_rfl
theorem k5c:l7a Tryz.prog 149 (fun n:Int=>Value.int .i64 n) (.int .i64 0):=⟨_,_,U3c,KeyOf.int (by kernel_rfl),by kernel_rfl⟩
theorem r4b {m:List Pair} {w:List Change} {k:Key} {c:Change} (h:Yv Change.k w k=some c):U2a m w k=(c.v,!c.e):=by unfold U2a;rw[h]
theorem G1b {m:List Pair} {w:List Change} {k:Key} {p:Pair} (h:Yv Change.k w k=none) (hp:Yv Pair.k m k=some p):U2a m w k=(p.v,true):=by unfold U2a;rw[h,hp]
theorem o6b {m:List Pair} {w:List Change} {k:Key} (h:Yv Change.k w k=none) (hp:Yv Pair.k m k=none):U2a m w k=(0,false):=by unfold U2a;rw[h,hp]
set_option maxHeartbeats 1000000 in
theorem P0b {h0 h:DHeap} {b hm mm am:Nat} {t:Txn} {vc va vr vw:Value} {m:List Pair} {L:List Instr} {s:RS} {pc:Int} {k:Key} (C:M5a h0 b hm mm am t vc va vr vw m L) (I:RunI h0 h b hm mm am t vc va vr vw s pc) :
 DC Tryz.prog 106 [.pointer (some ⟨b,0,none⟩),ZZ k] h (.ret (.tuple #[.int .i64 (U2a m s.w k).1,.bool (U2a m s.w k).2])) h:=by
 refine Ct.pure (Q0d (by simp) ?_) (h2a _ rfl)
 obtain ⟨K1,hK1⟩:∃ H,H=h.push (.row [.int .i32 k.t,.int .i64 k.r] 0 false):=⟨_,rfl⟩
 have g1:K1.get h.next=some (.row [.int .i32 k.t,.int .i64 k.r] 0 false):=by rw[hK1];exact Zz _ _
 have e1:Ext h K1:=by rw[hK1];exact Ext.push1 _ _
 have n1:K1.next=h.next+1:=by rw[hK1];rfl
 obtain ⟨K2,hK2⟩:∃ H,H=K1.push (.row [.int .i32 0,.int .i64 0,.int .i64 0,.bool false] 0 false):=⟨_,rfl⟩
 have e2:Ext K1 K2:=by rw[hK2];exact Ext.push1 _ _
 have n2:K2.next=h.next+2:=by rw[hK2,m0a,n1]
 have hcl:(ZZ k).cells.toList=[.int .i32 k.t,.int .i64 k.r]:=rfl
 have I2:=I.ext C (e1.trans e2)
 obtain ⟨vo,w,gb,_,_⟩:=I2.row
 obtain ⟨t14,t15,_,_,_⟩:=o1a (t:=t) (vc:=vc) (va:=va) (vr:=vr) (vw:=vw) (vo:=vo) (hm:=hm) (mm:=mm) (am:=am) (pc:=pc) I.len
 have c15:Zq K2 b 15=some (.map (some mm)):=(Zy gb).trans t15
 have c14:Zq K2 b 14=some (.map (some hm)):=(Zy gb).trans t14
 have lk:Zk K2 h.next 0 2=some (ZZ k):=by rw[Zu ((e2.get _ (by omega)).trans g1) (Nat.le_of_ble_eq_true rfl)];rfl
 have hl:=I2.mine.lookup n8a k true
 rw[E4a]at hl
 have hnb:b<h.next:=Nat.lt_of_lt_of_le C.lb I.kp.next
 have gh:K2.get K1.next=some (.row [.int .i32 0,.int .i64 0,.int .i64 0,.bool false] 0 false):=by rw[hK2];exact Zz _ _
 cases hq:Yv Change.k s.w k with
 | some c=>
   rw[hq]at hl
   simp only[Option.map_some,Option.getD_some,Option.isSome_some,if_true]at hl
   obtain ⟨K3,hK3⟩:∃ H,H=K2.set K1.next (.row [.int .i32 c.k.t,.int .i64 c.k.r,.int .i64 c.v,.bool c.e] 0 false):=⟨_,rfl⟩
   have hst:Yx Tryz.prog 99 (.pointer (some ⟨K1.next,0,none⟩)) (f1a c) K2=some K3:=by
    rw[hK3]
    exact (p8a rfl).trans (b0a gh (Nat.le_of_ble_eq_true rfl) rfl)
   have g3:K3.get K1.next=some (.row [.int .i32 c.k.t,.int .i64 c.k.r,.int .i64 c.v,.bool c.e] 0 false):=by rw[hK3];exact Zj _ _
   have q1:Zq K3 K1.next 2=some (.int .i64 c.v):=Zy g3
   have q2:Zq K3 K1.next 3=some (.bool c.e):=Zy g3
   have e3:Ext h K3:=by rw[hK3];exact (e1.trans e2).set (by omega)
   simp -implicitDefEqProofs (disch:=first|omega|simp only[go_sem]) only[go_sem,true_and,Z1c,hcl,← hK1]
   refine x4b rfl ?_
   simp -implicitDefEqProofs (disch:=first|omega|simp only[go_sem]) only[go_sem,true_and,F3b,Y3b]
   simp -implicitDefEqProofs (disch:=first|omega|simp only[go_sem]) only[go_sem,true_and,← hK2,c15,lk,hl,hst]
   refine ⟨⟨gh,trivial⟩,?_⟩
   refine a4c rfl ?_
   simp -implicitDefEqProofs (disch:=first|omega|simp only[go_sem]) only[go_sem,true_and,G9b,N0c,q1,q2]
   exact ⟨_,rfl,by rw[r4b hq],e3⟩
 | none=>
   rw[hq]at hl
   simp only[Option.map_none,Option.getD_none,Option.isSome_none,if_true]at hl
   obtain ⟨K3,hK3⟩:∃ H,H=K2.set K1.next (.row [.int .i32 0,.int .i64 0,.int .i64 0,.bool false] 0 false):=⟨_,rfl⟩
   have hst:Yx Tryz.prog 99 (.pointer (some ⟨K1.next,0,none⟩)) (f1a u0d) K2=some K3:=by
    rw[hK3]
    exact (p8a rfl).trans (b0a gh (Nat.le_of_ble_eq_true rfl) rfl)
   have hself:K3=K2:=by rw[hK3];exact z3a gh
   rw[hself]at hst
   have hl2:=(C.has.kp I2.kp C.lh (fun e=>e.elim C.hb C.hmm)).lookup S9a k true
   rw[E4a]at hl2
   simp -implicitDefEqProofs (disch:=first|omega|simp only[go_sem]) only[go_sem,true_and,Z1c,hcl,← hK1]
   refine x4b rfl ?_
   simp -implicitDefEqProofs (disch:=first|omega|simp only[go_sem]) only[go_sem,true_and,F3b,Y3b]
   simp -implicitDefEqProofs (disch:=first|omega|simp only[go_sem]) only[go_sem,true_and,← hK2,c15,lk,hl,hst]
   refine ⟨⟨gh,trivial⟩,?_⟩
   refine b4c rfl ?_
   cases hp:Yv Pair.k m k with
   | some p=>
     rw[hp]at hl2
     simp only[Option.map_some,Option.getD_some,Option.isSome_some,if_true]at hl2
     simp -implicitDefEqProofs (disch:=first|omega|simp only[go_sem]) only[go_sem,true_and,G3b,Z3b,c14,lk,hl2]
     exact ⟨_,rfl,by rw[G1b hq hp],e1.trans e2⟩
   | none=>
     rw[hp]at hl2
     simp only[Option.map_none,Option.getD_none,Option.isSome_none,if_true]at hl2
     simp -implicitDefEqProofs (disch:=first|omega|simp only[go_sem]) only[go_sem,true_and,G3b,Z3b,c14,lk,hl2]
     exact ⟨_,rfl,by rw[o6b hq hp],e1.trans e2⟩
theorem P9b {h0 h:DHeap} {b hm mm am:Nat} {t:Txn} {vc va vr vw vo:Value} {m:List Pair} {L:List Instr} {s:RS} {pc:Int} {i:Nat} {x:Instr} (C:M5a h0 b hm mm am t vc va vr vw m L) (I:RunI h0 h b hm mm am t vc va vr vw s pc) (hx:L[i]? = some x) (g:h.get b=some (.row (XQ t vc va vr vw s.reg hm mm am vo pc) 0 false)) :
 Ct Tryz.prog 109 [.pointer (some ⟨b,0,none⟩),.int .i64 x.pos] h fun r h1=>r=.ret (.tuple #[])∧h1=h.set b (.row (XQ t vc va vr vw s.reg hm mm am vo (i:Nat)) 0 false):=by
 refine T0d (by simp) ?_
 obtain ⟨ms,ha,hat⟩:=C.at_
 obtain ⟨_,_,_,_,t18⟩:=o1a (t:=t) (vc:=vc) (va:=va) (vr:=vr) (vw:=vw) (vo:=vo) (hm:=hm) (mm:=mm) (am:=am) (pc:=pc) I.len
 have c18:Zq h b 18=some (.map (some am)):=(Zy g).trans t18
 have hl:=(ha.kp I.kp C.la (fun e=>e.elim C.ab C.amm)).lookup k5c x.pos false
 rw[hat i x hx]at hl
 simp only[Bool.false_eq_true,if_false,Option.getD_some]at hl
 have hst:storeAt h b 17 [.int .i64 (i:Nat)]=some (h.set b (.row (XQ t vc va vr vw s.reg hm mm am vo (i:Nat)) 0 false)):=by
  rw[b0a g (by rw[w5a I.len];exact Nat.le_of_ble_eq_true rfl) rfl,R6a I.len]
 simp -implicitDefEqProofs (disch:=first|omega|simp only[go_sem]) only[go_sem,true_and,B9c,c18,hl,hst]
 exact ⟨_,rfl,rfl,trivial⟩
end Go.Proofs.YtheamfnbfgiaeaaGreat
namespace Go.Proofs.YtheamfnbfgiaeaaGreat
open Go.D
set_option maxRecDepth 100000
theorem l8c {a b:Int} (h:inK .i64 a):inK .i64 (a.tmod b):=by
 rw[w0a]at h ⊢
 have h1:=Int.natAbs_tmod a b
 have h2:a.natAbs % b.natAbs≤a.natAbs:=Nat.mod_le _ _
 by_cases ha:0≤a
 ·have:=Int.tmod_nonneg b ha
  omega
 ·have e:a.tmod b=-((-a).tmod b):=by rw[Int.neg_tmod,Int.neg_neg]
  have:=Int.tmod_nonneg b (show 0 ≤ -a by omega)
  omega
theorem v7c {a:Int} {n:Nat} (h:inK .i64 a):inK .i64 (a.fdiv (2 ^ n)):=by
 have hc:(0:Int)<2 ^ n:=Int.pow_pos (by decide)
 rw[Int.fdiv_eq_ediv_of_nonneg _ (Int.le_of_lt hc)]
 obtain ⟨c,hcc⟩:∃ c:Int,2 ^ n=c:=⟨_,rfl⟩
 rw[hcc]at hc ⊢
 rw[w0a]at h ⊢
 by_cases ha:0≤a
 ·have h1:=Int.ediv_nonneg ha (Int.le_of_lt hc)
  have h2:=Int.ediv_le_self c ha
  omega
 ·have h1:=Int.ediv_neg_of_neg_of_pos (show a<0 by omega) hc
  have h2:a≤a / c:=(Int.le_ediv_iff_mul_le hc).2 (by
   have:a*(c - 1)≤0:=Int.mul_nonpos_of_nonpos_of_nonneg (by omega) (by omega)
   rw[Int.mul_sub,Int.mul_one]at this
   omega)
  omega
theorem h6c {o a b:Int} (ha:inK .i64 a):inK .i64 (X1a o a b).1∧((X1a o a b).2=0∨(X1a o a b).2=1∨(X1a o a b).2=3):=by
 have z0:inK .i64 0:=w0a.2 ⟨by decide,by decide⟩
 have z1:inK .i64 1:=w0a.2 ⟨by decide,by decide⟩
 unfold X1a
 simp only
 have key:∀ {P:Int × Int→Prop} {c:Prop} [Decidable c] {x y:Int × Int},P x→P y→P (if c then x else y):=fun {P c _ x y} h1 h2=>by
  by_cases h:c
  ·rw[if_pos h];exact h1
  ·rw[if_neg h];exact h2
 have w:∀ n,inK .i64 (IntKind.i64.wrap n):=fun n=>Q0b _ _
 repeat' (refine key (P:=fun r=>inK .i64 r.1∧(r.2=0∨r.2=1∨r.2=3)) ?_ ?_)
 all_goals first
  | exact ⟨w _,.inl rfl⟩
  | exact ⟨z0,.inr (.inr rfl)⟩
  | exact ⟨l8c ha,.inl rfl⟩
  | exact ⟨v7c ha,.inl rfl⟩
  | exact ⟨z0,.inr (.inl rfl)⟩
  | (refine ⟨?_,.inl rfl⟩
     show inK .i64 (if _ then 1 else 0)
     split
     ·exact z1
     ·exact z0)
theorem y0c {a n:Int} (ha:inK .i64 a):inK .i64 (n6a a n):=by
 unfold n6a
 have h8:inK .i64 (IntKind.i8.wrap a):=by rw[w0a];simp[IntKind.wrap,IntKind.signed,IntKind.bits];omega
 have h16:inK .i64 (IntKind.i16.wrap a):=by rw[w0a];simp[IntKind.wrap,IntKind.signed,IntKind.bits];omega
 have h32:inK .i64 (IntKind.i32.wrap a):=by rw[w0a];simp[IntKind.wrap,IntKind.signed,IntKind.bits];omega
 repeat' split
 all_goals assumption
theorem p6b {m:List Pair} {w:List Change} {k:Key} (hm:∀ p∈m,fPair.ok p) (hw:∀ c∈w,fChange.ok c):inK .i64 (U2a m w k).1:=by
 cases hq:Yv Change.k w k with
 | some c=>rw[r4b hq];exact (hw c (h0a hq).1).2.1
 | none=>
   cases hp:Yv Pair.k m k with
   | some p=>rw[G1b hq hp];exact (hm p (h0a hp).1).2
   | none=>rw[o6b hq hp];exact w0a.2 ⟨by decide,by decide⟩
theorem H4a {s:RS} (h:∀ n∈s.reg,inK .i64 n) (i:Int):inK .i64 (s.r i):=by
 show inK .i64 (s.reg.getD i.toNat 0)
 rw[List.getD_eq_getElem?_getD]
 cases hq:s.reg[i.toNat]? with
 | some x=>exact h x (List.mem_of_getElem? hq)
 | none=>exact w0a.2 ⟨by decide,by decide⟩
theorem U7b {t:Txn} {m:List Pair} {x:Instr} {s:RS}:(ZY t m x s).2.1.w.length≤s.w.length+1:=by
 unfold ZY
 repeat' (refine X5b (P:=fun r:Int × RS × Option Int=>r.2.1.w.length≤s.w.length+1) (fun _=>?_) (fun _=>?_))
 all_goals simp
end Go.Proofs.YtheamfnbfgiaeaaGreat
namespace Go.Proofs.YtheamfnbfgiaeaaGreat
open Go.D
set_option maxRecDepth 100000
theorem v5b {k:Key} {v:Int}:Xy Tryz.prog 99 [(0,ZZ k),(1,.int .i64 v)]=some (f1a ⟨k,v,false⟩):=l0a K0c rfl
theorem c6c {k:Key}:Xy Tryz.prog 99 [(0,ZZ k),(2,.bool true)]=some (f1a ⟨k,0,true⟩):=l0a K0c rfl
theorem x5b {t r:Int}:Xy Tryz.prog 31 [(0,.int .i32 t),(1,.int .i64 r)]=some (ZZ ⟨t,r⟩):=l0a H0c rfl
theorem Y5c:g6a Tryz.prog 126=some (8,1):=by kernel_rfl
theorem V5b {id o:Nat} {a:Int} (h0:0≤a) (h8:a<8):ZQ Tryz.prog 126 (.pointer (some ⟨id,o,none⟩)) (.int .i64 a)=some (.pointer (some ⟨id,o+a.toNat,none⟩)):=by
 rw[i4a Y5c h0 (by omega),Nat.mul_one]
section
variable {t:Txn} {m:List Pair} {x:Instr} {s:RS}
theorem se0 (h:x.op=0):ZY t m x s=(0,s,none):=by unfold ZY;rw[h];rfl
theorem se1 (h:x.op=1):ZY t m x s=(-1,s.set x.a x.imm,none):=by unfold ZY;rw[h];rfl
theorem se2 (h:x.op=2):ZY t m x s=(-1,s.set x.a (t.args.getD x.imm.toNat 0),none):=by unfold ZY;rw[h];rfl
theorem se7 (h:x.op=7):ZY t m x s=(-1,s.set x.a (s.r x.b),none):=by unfold ZY;rw[h];rfl
theorem se3 (h:x.op=3):ZY t m x s=(-1,s.set x.a (U2a m s.w (t.reads.getD x.imm.toNat Y3a)).1,none):=by unfold ZY;rw[h];rfl
theorem se4 (h:x.op=4):ZY t m x s=(-1,s.set x.a (if (U2a m s.w (t.reads.getD x.imm.toNat Y3a)).2 then 1 else 0),none):=by unfold ZY;rw[h];rfl
theorem se5 {k:Key} (h:x.op=5) (hk:t.writes.getD x.imm.toNat Y3a=k):ZY t m x s=(-1,s.put ⟨k,s.r x.a,false⟩,none):=by subst hk;unfold ZY;rw[h];rfl
theorem se6 {k:Key} (h:x.op=6) (hk:t.writes.getD x.imm.toNat Y3a=k):ZY t m x s=(-1,s.put ⟨k,0,true⟩,none):=by subst hk;unfold ZY;rw[h];rfl
theorem k5d (h:x.op=19):ZY t m x s=(-1,s.set x.a (n6a (s.r x.a) x.imm),none):=by unfold ZY;rw[h];rfl
theorem l5d (h:x.op=22):ZY t m x s=(-1,s,some x.imm):=by unfold ZY;rw[h];rfl
theorem S4d (h:x.op=23) (z:s.r x.a=0):ZY t m x s=(-1,s,none):=by
 have:ZY t m x s=(-1,s,if s.r x.a=0 then none else some x.imm):=by unfold ZY;rw[h];rfl
 rw[this,if_pos z]
theorem m5d (h:x.op=23) (z:¬ s.r x.a=0):ZY t m x s=(-1,s,some x.imm):=by
 have:ZY t m x s=(-1,s,if s.r x.a=0 then none else some x.imm):=by unfold ZY;rw[h];rfl
 rw[this,if_neg z]
theorem T4d (h:x.op=24) (z:8≤s.out.length):ZY t m x s=(5,s,none):=by
 have:ZY t m x s=(if 8≤s.out.length then (5,s,none) else (-1,{ s with out:=s.out++[s.r x.a] },none)):=by unfold ZY;rw[h];rfl
 rw[this,if_pos z]
theorem n5d (h:x.op=24) (z:¬ 8≤s.out.length):ZY t m x s=(-1,{ s with out:=s.out++[s.r x.a] },none):=by
 have:ZY t m x s=(if 8≤s.out.length then (5,s,none) else (-1,{ s with out:=s.out++[s.r x.a] },none)):=by unfold ZY;rw[h];rfl
 rw[this,if_neg z]
theorem o5d (h:x.op=25):ZY t m x s=(100+x.imm,s,none):=by unfold ZY;rw[h];rfl
theorem p5d {k:Key} (h:x.op=26) (hk:H2a x s=k) (z:k∈t.reads):ZY t m x s=(-1,s.set x.a (U2a m s.w k).1,none):=by
 subst hk
 have:ZY t m x s=(if H2a x s∈t.reads then (-1,s.set x.a (U2a m s.w (H2a x s)).1,none) else (4,s,none)):=by unfold ZY;rw[h];rfl
 rw[this,if_pos z]
theorem U4d {k:Key} (h:x.op=26) (hk:H2a x s=k) (z:¬ k∈t.reads):ZY t m x s=(4,s,none):=by
 subst hk
 have:ZY t m x s=(if H2a x s∈t.reads then (-1,s.set x.a (U2a m s.w (H2a x s)).1,none) else (4,s,none)):=by unfold ZY;rw[h];rfl
 rw[this,if_neg z]
theorem q5d {k:Key} (h:x.op=27) (hk:H2a x s=k) (z:k∈t.writes):ZY t m x s=(-1,s.put ⟨k,s.r x.a,false⟩,none):=by
 subst hk
 have:ZY t m x s=(if H2a x s∈t.writes then (-1,s.put ⟨H2a x s,s.r x.a,false⟩,none) else (4,s,none)):=by unfold ZY;rw[h];rfl
 rw[this,if_pos z]
theorem V4d {k:Key} (h:x.op=27) (hk:H2a x s=k) (z:¬ k∈t.writes):ZY t m x s=(4,s,none):=by
 subst hk
 have:ZY t m x s=(if H2a x s∈t.writes then (-1,s.put ⟨H2a x s,s.r x.a,false⟩,none) else (4,s,none)):=by unfold ZY;rw[h];rfl
 rw[this,if_neg z]
def d6b (n:Int):Prop:=n≠0∧n≠1∧n≠2∧n≠7∧n≠3∧n≠4∧n≠5∧n≠6∧n≠19∧n≠22∧n≠23∧n≠24∧n≠25∧n≠26∧n≠27
theorem seb (h:d6b x.op):ZY t m x s=if (X1a x.op (s.r x.a) (s.r x.b)).2=0 then (-1,s.set x.a (X1a x.op (s.r x.a) (s.r x.b)).1,none) else ((X1a x.op (s.r x.a) (s.r x.b)).2,s,none):=by
 obtain ⟨h0,h1,h2,h7,h3,h4,h5,h6,h19,h22,h23,h24,h25,h26,h27⟩:=h
 unfold ZY
 rw[if_neg h0,if_neg h1,if_neg h2,if_neg h7,if_neg h3,if_neg h4,if_neg h5,if_neg h6,if_neg h19,if_neg h22,if_neg h23,if_neg h24,if_neg h25,if_neg h26,if_neg h27]
end
def StepP (h0:DHeap) (b hm mm am:Nat) (t:Txn) (vc va vr vw:Value) (m:List Pair) (L:List Instr) (x:Instr) (s:RS) (pc:Int) (r:DEnd) (h1:DHeap):Prop:=
 r=.ret (.int .i64 (ZY t m x s).1)∧∃ pc',RunI h0 h1 b hm mm am t vc va vr vw (ZY t m x s).2.1 pc'∧((ZY t m x s).2.2=none→pc'=pc)∧∀ a,(ZY t m x s).2.2=some a→∃ (i:Nat) (y:Instr),L[i]? = some y∧y.pos=a∧pc'=(i:Nat)
section
variable {h0 h1:DHeap} {b hm mm am:Nat} {t:Txn} {vc va vr vw:Value} {m:List Pair} {L:List Instr} {x:Instr} {s s':RS} {pc e:Int}
theorem StepP.of (E:ZY t m x s=(e,s',none)) (I:RunI h0 h1 b hm mm am t vc va vr vw s' pc):StepP h0 b hm mm am t vc va vr vw m L x s pc (.ret (.int .i64 e)) h1:=by
 unfold StepP
 rw[E]
 exact ⟨rfl,pc,I,fun _=>rfl,fun a ha=>by cases ha⟩
theorem StepP.jump {a:Int} {i:Nat} {y:Instr} (E:ZY t m x s=(e,s',some a)) (hy:L[i]? = some y) (hp:y.pos=a) (I:RunI h0 h1 b hm mm am t vc va vr vw s' (i:Nat)):StepP h0 b hm mm am t vc va vr vw m L x s pc (.ret (.int .i64 e)) h1:=by
 unfold StepP
 rw[E]
 exact ⟨rfl,_,I,fun ha=>(by cases ha),fun a ha=>by cases ha;exact ⟨i,y,hy,hp,rfl⟩⟩
end
set_option maxHeartbeats 4000000 in
theorem h2d {h0 h:DHeap} {b hm mm am:Nat} {t:Txn} {vc va vr vw:Value} {m:List Pair} {L:List Instr} {s:RS} {pc:Int} {x:Instr} (C:M5a h0 b hm mm am t vc va vr vw m L) (I:RunI h0 h b hm mm am t vc va vr vw s pc) (hx:j4c t x) (hj:F1a x.op=true→∃ (i:Nat) (y:Instr),L[i]? = some y∧y.pos=x.imm) :
 Ct Tryz.prog 72 [.pointer (some ⟨b,0,none⟩),R0a x] h (StepP h0 b hm mm am t vc va vr vw m L x s pc):=by
 obtain ⟨x1,x2,x3,x4,x5⟩:=x
 obtain ⟨R,hR⟩:∃ R,StepP h0 b hm mm am t vc va vr vw m L ⟨x1,x2,x3,x4,x5⟩ s pc=R:=⟨_,rfl⟩
 rw[hR]
 refine N3d (by simp) ?_
 obtain ⟨H,hH⟩:∃ H,H=h.push (.row [.int .i64 x1,.int .i64 x2,.int .i64 x3,.int .i64 x4,.int .i64 x5] 0 false):=⟨_,rfl⟩
 have hE:Ext h H:=by rw[hH];exact Ext.push1 _ _
 have gx:H.get h.next=some (.row [.int .i64 x1,.int .i64 x2,.int .i64 x3,.int .i64 x4,.int .i64 x5] 0 false):=by rw[hH];exact Zz _ _
 have hHn:H.next=h.next+1:=by rw[hH];rfl
 have IH:RunI h0 H b hm mm am t vc va vr vw s pc:=I.ext C hE
 have hbn:b<h.next:=Nat.lt_of_lt_of_le C.lb I.kp.next
 have hmn:mm<h.next:=Nat.lt_of_lt_of_le C.lm I.kp.next
 obtain ⟨vo,w,gb,ow,hw⟩:=IH.row
 have l8:=I.len
 obtain ⟨t14,t15,t16,t17,t18⟩:=o1a (t:=t) (vc:=vc) (va:=va) (vr:=vr) (vw:=vw) (vo:=vo) (hm:=hm) (mm:=mm) (am:=am) (pc:=pc) l8
 have a1:∀ K,Ext H K→Zq K h.next 1=some (.int .i64 x2):=fun K e=>Zy ((e.get _ (by omega)).trans gx)
 have a2:∀ K,Ext H K→Zq K h.next 2=some (.int .i64 x3):=fun K e=>Zy ((e.get _ (by omega)).trans gx)
 have a3:∀ K,Ext H K→Zq K h.next 3=some (.int .i64 x4):=fun K e=>Zy ((e.get _ (by omega)).trans gx)
 have a4:∀ K,Ext H K→Zq K h.next 4=some (.int .i64 x5):=fun K e=>Zy ((e.get _ (by omega)).trans gx)
 have gbK:∀ K,Ext H K→K.get b=some (.row (XQ t vc va vr vw s.reg hm mm am vo pc) 0 false):=fun K e=>(e.get _ (by omega)).trans gb
 have ha8:x3.toNat<8:=by have:=hx.a;simp only at this;omega
 have hb8:x4.toNat<8:=by have:=hx.b;simp only at this;omega
 have ra:∀ K,Ext H K→Zq K b (6+x3.toNat)=some (.int .i64 (s.r x3)):=fun K e=>(Zy (gbK K e)).trans (h4b l8 ha8)
 have rb:∀ K,Ext H K→Zq K b (6+x4.toNat)=some (.int .i64 (s.r x4)):=fun K e=>(Zy (gbK K e)).trans (h4b l8 hb8)
 have b3:∀ K,Ext H K→Zq K b 3=some va:=fun K e=>Zy (gbK K e)
 have b4:∀ K,Ext H K→Zq K b 4=some vr:=fun K e=>Zy (gbK K e)
 have b5:∀ K,Ext H K→Zq K b 5=some vw:=fun K e=>Zy (gbK K e)
 have b15:∀ K,Ext H K→Zq K b 15=some (.map (some mm)):=fun K e=>(Zy (gbK K e)).trans t15
 have b16:∀ K,Ext H K→Zq K b 16=some vo:=fun K e=>(Zy (gbK K e)).trans t16
 have iaa:=V5b (id:=b) (o:=6) hx.a.1 hx.a.2
 have iab:=V5b (id:=b) (o:=6) hx.b.1 hx.b.2
 simp only at iaa iab
 have wst:∀ K v,Ext H K→storeAt K b (6+x3.toNat) [.int .i64 v]=some (K.set b (.row (XQ t vc va vr vw (s.reg.set x3.toNat v) hm mm am vo pc) 0 false)):=fun K v e=>by
  rw[b0a (gbK K e) (by rw[w5a l8];show 6+x3.toNat+1≤19;omega) rfl,d5b l8 ha8]
 have hTx:TxV (InH H) H t vc va vr vw:=IH.tx C
 have rx:Ext H H:=.refl H
 have iok:inK .i64 x5:=by have:=hx.imm;simp only at this;exact w0a.2 ⟨by omega,by omega⟩
 have zok:inK .i64 0:=w0a.2 ⟨by decide,by decide⟩
 have hcl:(R0a ⟨x1,x2,x3,x4,x5⟩).cells.toList=[.int .i64 x1,.int .i64 x2,.int .i64 x3,.int .i64 x4,.int .i64 x5]:=rfl
 have fin:∀ {K:DHeap} {s':RS} {e:Int},ZY t m ⟨x1,x2,x3,x4,x5⟩ s=(e,s',none)→RunI h0 K b hm mm am t vc va vr vw s' pc→∃ u,some (Value.int .i64 e)=some u∧R (.ret u) K:=fun E I'=>⟨_,rfl,by rw[← hR];exact .of E I'⟩
 have kok:∀ {l:List Key} {v:Value},Arg fKey.rep H v l→∀ (n:Nat),n<l.length→fKey.ok (l.getD n Y3a):=fun hs n hn=>by
  rw[List.getD_eq_getElem?_getD,List.getElem?_eq_getElem hn]
  exact hs.ok _ (List.getElem_mem hn)
 have kat:∀ {l:List Key} {v:Value},Arg fKey.rep H v l→∀ (n:Int),0≤n→n<l.length→∃ id o,ZQ Tryz.prog 24 v (.int .i64 n)=some (.pointer (some ⟨id,o,none⟩))∧∀ K,Ext H K→Zk K id o 2=some (ZZ (l.getD n.toNat Y3a)):=fun {l v} hs n h0 hn=>by
  have hn':n.toNat<l.length:=by omega
  obtain ⟨id,o,e1,hid,hat⟩:=hs.idx (P:=Tryz.prog) (t:=24) t4a (k:=.i64) (i:=n.toNat) (x:=l[n.toNat]) (by simp)
  have hnn:((n.toNat:Nat):Int)=n:=by omega
  rw[hnn]at e1
  refine ⟨id,o,e1,fun K e=>?_⟩
  have h2:=hat.flat.2.1
  rw[List.getD_eq_getElem?_getD,List.getElem?_eq_getElem hn']
  unfold Zk at h2 ⊢
  rw[e.get _ hid]
  exact h2
 obtain ⟨_,_,himm,himm0,hrd,hwr,har,hop⟩:=hx
 simp only at himm himm0 hrd hwr har hop hj
 simp -implicitDefEqProofs (disch:=first|omega|simp only[go_sem]) only[go_sem,true_and,c72,hcl,← hH]
 refine I8c rfl ?_
 simp -implicitDefEqProofs (disch:=first|omega|simp only[go_sem]) only[go_sem,true_and,B4c,v5c,a2 H rx,a3 H rx,iaa,iab,rb H rx,a1 H rx]
 by_cases c0:x2=0
 ·simp -implicitDefEqProofs (disch:=first|omega|simp only[go_sem]) only[go_sem,true_and,c0]
  exact fin (se0 (x:=⟨x1,x2,x3,x4,x5⟩) c0) IH
 by_cases c1:x2=1
 ·simp -implicitDefEqProofs (disch:=first|omega|simp only[go_sem]) only[go_sem,true_and,c1,a4 H rx,wst H _ rx]
  exact fin (se1 (x:=⟨x1,x2,x3,x4,x5⟩) c1) (IH.reg C gb iok)
 by_cases c2:x2=2
 ·have i0:0≤x5:=himm0 (by omega)
  have hl:x5.toNat<t.args.length:=by have:=har c2;omega
  obtain ⟨id1,o1,e1,_,hat1⟩:=hTx.a.idx (P:=Tryz.prog) (t:=23) k7b (k:=.i64) (i:=x5.toNat) (x:=t.args[x5.toNat]) (by simp)
  rw[show ((x5.toNat:Nat):Int)=x5 by omega]at e1
  have l1:Zq H id1 o1=some (.int .i64 (t.args.getD x5.toNat 0)):=by
   rw[List.getD_eq_getElem?_getD,List.getElem?_eq_getElem hl]
   exact hat1.int
  have hok:inK .i64 (t.args.getD x5.toNat 0):=by
   rw[List.getD_eq_getElem?_getD,List.getElem?_eq_getElem hl]
   exact hTx.a.ok _ (List.getElem_mem hl)
  simp -implicitDefEqProofs (disch:=first|omega|simp only[go_sem]) only[go_sem,true_and,c2]
  refine J8c rfl ?_
  simp -implicitDefEqProofs (disch:=first|omega|simp only[go_sem]) only[go_sem,true_and,C4c,w5c,a4 H rx,b3 H rx,e1,l1,wst H _ rx]
  exact fin (se2 (x:=⟨x1,x2,x3,x4,x5⟩) c2) (IH.reg C gb hok)
 by_cases c7:x2=7
 ·simp -implicitDefEqProofs (disch:=first|omega|simp only[go_sem]) only[go_sem,true_and,c7,wst H _ rx]
  exact fin (se7 (x:=⟨x1,x2,x3,x4,x5⟩) c7) (IH.reg C gb (H4a I.ok _))
 by_cases c3:x2=3
 ·obtain ⟨id1,o1,e1,l1⟩:=kat hTx.r x5 (himm0 (by omega)) (hrd (.inl c3))
  simp -implicitDefEqProofs (disch:=first|omega|simp only[go_sem]) only[go_sem,true_and,c3]
  refine K8c rfl ?_
  simp -implicitDefEqProofs (disch:=first|omega|simp only[go_sem]) only[go_sem,true_and,D4c,x5c,a4 H rx,b4 H rx,e1,l1 H rx]
  refine q8a (P0b C IH) ?_
  simp -implicitDefEqProofs (disch:=first|omega|simp only[go_sem]) only[go_sem,true_and,wst H _ rx]
  exact fin (se3 (x:=⟨x1,x2,x3,x4,x5⟩) c3) (IH.reg C gb (p6b C.okm I.wok))
 by_cases c4:x2=4
 ·obtain ⟨id1,o1,e1,l1⟩:=kat hTx.r x5 (himm0 (by omega)) (hrd (.inr c4))
  simp -implicitDefEqProofs (disch:=first|omega|simp only[go_sem]) only[go_sem,true_and,c4]
  refine L8c rfl ?_
  simp -implicitDefEqProofs (disch:=first|omega|simp only[go_sem]) only[go_sem,true_and,E4c,y5c,a4 H rx,b4 H rx,e1,l1 H rx]
  refine q8a (P0b C IH) ?_
  simp -implicitDefEqProofs (disch:=first|omega|simp only[go_sem]) only[go_sem,true_and]
  refine YX O0b ?_
  simp -implicitDefEqProofs (disch:=first|omega|simp only[go_sem]) only[go_sem,true_and,wst H _ rx]
  refine fin (se4 (x:=⟨x1,x2,x3,x4,x5⟩) c4) (IH.reg C gb ?_)
  split
  ·exact w0a.2 ⟨by decide,by decide⟩
  ·exact w0a.2 ⟨by decide,by decide⟩
 by_cases c5:x2=5
 ·have hlt:=hwr (.inl c5)
  have i0:0≤x5:=himm0 (by omega)
  have hl:x5.toNat<t.writes.length:=by omega
  obtain ⟨id1,o1,e1,l1⟩:=kat hTx.w x5 i0 hlt
  obtain ⟨k,hk⟩:∃ k,t.writes.getD x5.toNat Y3a=k:=⟨_,rfl⟩
  have hkok:fKey.ok k:=hk▸kok hTx.w x5.toNat hl
  rw[hk]at l1
  obtain ⟨H2,hH2⟩:∃ K,K=H.push (.row [.int .i32 0,.int .i64 0] 0 false):=⟨_,rfl⟩
  have e2:Ext H H2:=by rw[hH2];exact Ext.push1 _ _
  have g2:H2.get H.next=some (.row [.int .i32 0,.int .i64 0] 0 false):=by rw[hH2];exact Zz _ _
  obtain ⟨H3,hH3⟩:∃ K,K=H2.set H.next (.row [.int .i32 k.t,.int .i64 k.r] 0 false):=⟨_,rfl⟩
  have e3:Ext H H3:=by rw[hH3];exact e2.set (Nat.le_refl _)
  have hst:Yx Tryz.prog 31 (.pointer (some ⟨H.next,0,none⟩)) (ZZ k) H2=some H3:=by
   rw[hH3]
   exact (c4a rfl).trans (b0a g2 (Nat.le_of_ble_eq_true rfl) rfl)
  have g3:H3.get H.next=some (.row [.int .i32 k.t,.int .i64 k.r] 0 false):=by rw[hH3];exact Zj _ _
  have l3:Zk H3 H.next 0 2=some (ZZ k):=by rw[Zu g3 (Nat.le_of_ble_eq_true rfl)];rfl
  have I3:=IH.ext C e3
  obtain ⟨o,hu,hm2⟩:=I3.mine.update n8a k (f1a ⟨k,s.r x3,false⟩)
  simp -implicitDefEqProofs (disch:=first|omega|simp only[go_sem]) only[go_sem,true_and,c5]
  refine M8c rfl ?_
  simp -implicitDefEqProofs (disch:=first|omega|simp only[go_sem]) only[go_sem,true_and,F4c,z5c]
  simp -implicitDefEqProofs (disch:=first|omega|simp only[go_sem]) only[go_sem,true_and,← hH2,a4 H2 e2,b5 H2 e2,e1,l1 H2 e2,hst]
  refine N8c rfl ?_
  simp -implicitDefEqProofs (disch:=first|omega|simp only[go_sem]) only[go_sem,true_and,G4c,A5c,b15 H3 e3,l3,ra H3 e3,v5b,hu]
  exact fin (se5 (x:=⟨x1,x2,x3,x4,x5⟩) c5 hk) (I3.put C (c:=⟨k,s.r x3,false⟩) hm2 ⟨hkok,H4a I.ok _,trivial⟩)
 by_cases c6:x2=6
 ·have hlt:=hwr (.inr c6)
  have i0:0≤x5:=himm0 (by omega)
  have hl:x5.toNat<t.writes.length:=by omega
  obtain ⟨id1,o1,e1,l1⟩:=kat hTx.w x5 i0 hlt
  obtain ⟨k,hk⟩:∃ k,t.writes.getD x5.toNat Y3a=k:=⟨_,rfl⟩
  have hkok:fKey.ok k:=hk▸kok hTx.w x5.toNat hl
  rw[hk]at l1
  obtain ⟨H2,hH2⟩:∃ K,K=H.push (.row [.int .i32 0,.int .i64 0] 0 false):=⟨_,rfl⟩
  have e2:Ext H H2:=by rw[hH2];exact Ext.push1 _ _
  have g2:H2.get H.next=some (.row [.int .i32 0,.int .i64 0] 0 false):=by rw[hH2];exact Zz _ _
  obtain ⟨H3,hH3⟩:∃ K,K=H2.set H.next (.row [.int .i32 k.t,.int .i64 k.r] 0 false):=⟨_,rfl⟩
  have e3:Ext H H3:=by rw[hH3];exact e2.set (Nat.le_refl _)
  have hst:Yx Tryz.prog 31 (.pointer (some ⟨H.next,0,none⟩)) (ZZ k) H2=some H3:=by
   rw[hH3]
   exact (c4a rfl).trans (b0a g2 (Nat.le_of_ble_eq_true rfl) rfl)
  have g3:H3.get H.next=some (.row [.int .i32 k.t,.int .i64 k.r] 0 false):=by rw[hH3];exact Zj _ _
  have l3:Zk H3 H.next 0 2=some (ZZ k):=by rw[Zu g3 (Nat.le_of_ble_eq_true rfl)];rfl
  have I3:=IH.ext C e3
  obtain ⟨o,hu,hm2⟩:=I3.mine.update n8a k (f1a ⟨k,0,true⟩)
  simp -implicitDefEqProofs (disch:=first|omega|simp only[go_sem]) only[go_sem,true_and,c6]
  refine O8c rfl ?_
  simp -implicitDefEqProofs (disch:=first|omega|simp only[go_sem]) only[go_sem,true_and,H4c,B5c]
  simp -implicitDefEqProofs (disch:=first|omega|simp only[go_sem]) only[go_sem,true_and,← hH2,a4 H2 e2,b5 H2 e2,e1,l1 H2 e2,hst]
  refine P8c rfl ?_
  simp -implicitDefEqProofs (disch:=first|omega|simp only[go_sem]) only[go_sem,true_and,I4c,C5c,b15 H3 e3,l3,c6c,hu]
  exact fin (se6 (x:=⟨x1,x2,x3,x4,x5⟩) c6 hk) (I3.put C (c:=⟨k,0,true⟩) hm2 ⟨hkok,zok,trivial⟩)
 by_cases c19:x2=19
 ·simp -implicitDefEqProofs (disch:=first|omega|simp only[go_sem]) only[go_sem,true_and,c19]
  refine Q8c rfl ?_
  simp -implicitDefEqProofs (disch:=first|omega|simp only[go_sem]) only[go_sem,true_and,J4c,D5c,ra H rx,a4 H rx]
  refine q8a z3c ?_
  simp -implicitDefEqProofs (disch:=first|omega|simp only[go_sem]) only[go_sem,true_and,wst H _ rx]
  exact fin (k5d (x:=⟨x1,x2,x3,x4,x5⟩) c19) (IH.reg C gb (y0c (H4a I.ok _)))
 by_cases c22:x2=22
 ·obtain ⟨i,y,hy,hp⟩:=hj (by simp[F1a,c22])
  have gc:=P9b C IH hy gb
  rw[hp]at gc
  simp -implicitDefEqProofs (disch:=first|omega|simp only[go_sem]) only[go_sem,true_and,c22,a4 H rx]
  refine YW gc ?_
  rintro r K ⟨rfl,rfl⟩
  simp -implicitDefEqProofs (disch:=first|omega|simp only[go_sem]) only[go_sem,true_and,Xk]
  exact ⟨_,rfl,by rw[← hR];exact .jump (l5d (x:=⟨x1,x2,x3,x4,x5⟩) c22) hy hp (IH.pc' C gb _)⟩
 by_cases c23:x2=23
 ·by_cases z:s.r x3=0
  ·simp -implicitDefEqProofs (disch:=first|omega|simp only[go_sem]) only[go_sem,true_and,c23,ra H rx,z]
   exact fin (S4d (x:=⟨x1,x2,x3,x4,x5⟩) c23 z) IH
  ·obtain ⟨i,y,hy,hp⟩:=hj (by simp[F1a,c23])
   have gc:=P9b C IH hy gb
   rw[hp]at gc
   simp -implicitDefEqProofs (disch:=first|omega|simp only[go_sem]) only[go_sem,true_and,c23,ra H rx,z,a4 H rx]
   refine YW gc ?_
   rintro r K ⟨rfl,rfl⟩
   simp -implicitDefEqProofs (disch:=first|omega|simp only[go_sem]) only[go_sem,true_and,Xk]
   exact ⟨_,rfl,by rw[← hR];exact .jump (m5d (x:=⟨x1,x2,x3,x4,x5⟩) c23 z) hy hp (IH.pc' C gb _)⟩
 by_cases c24:x2=24
 ·have lo:∀ K,dLen Tryz.prog #[23] vo K=some (.int .i64 (s.out.length:Nat)):=ow.sl.lens (P:=Tryz.prog) (ts:=#[23]) (t:=23) rfl H7a
  by_cases z:8≤s.out.length
  ·have z':=eq_true (show (8:Int)≤(s.out.length:Nat) by omega)
   simp -implicitDefEqProofs (disch:=first|omega|simp only[go_sem]) only[go_sem,true_and,c24,b16 H rx,lo,z']
   exact fin (T4d (x:=⟨x1,x2,x3,x4,x5⟩) c24 z) IH
  ·have z':¬ (8:Int)≤(s.out.length:Nat):=by omega
   obtain ⟨vo',h2,e6,n2,ng2,gg,o3⟩:=ow.snoc (cs:=[.int .i64 (s.r x3)]) (x:=s.r x3) (z:=1) (fun i hi=>hi.elim) ⟨rfl,H4a I.ok _⟩ rfl (by decide) z2b (by omega) (by decide)
   have hv':vo'.cells=#[vo']:=o3.sl.cells1
   have hone:[vo'].all Value.oneCell'=true:=by obtain ⟨_,_,rfl⟩:=o3.sl.isSlice;rfl
   have nb:w≠some b:=fun e=>by have:=hw b e;have:=C.lb;omega
   have nm:w≠some mm:=fun e=>by have:=hw mm e;have:=C.lm;omega
   have gb2:h2.get b=some (.row (XQ t vc va vr vw s.reg hm mm am vo pc) 0 false):=(gg _ (by omega) nb).trans gb
   have w1:Yx Tryz.prog 23 (.pointer (some ⟨b,16,none⟩)) vo' h2=some (h2.set b (.row (XQ t vc va vr vw s.reg hm mm am vo' pc) 0 false)):=by
    rw[I5c hv',b0a gb2 (by rw[w5a l8];exact Nat.le_of_ble_eq_true rfl) hone,c5b l8]
   have ep:Ext H (H.push (.row [.int .i64 (s.r x3)] 1 false)):=Ext.push1 _ _
   simp -implicitDefEqProofs (disch:=first|omega|simp only[go_sem]) only[go_sem,true_and,c24,b16 H rx,lo,z']
   refine R8c rfl ?_
   simp -implicitDefEqProofs (disch:=first|omega|simp only[go_sem]) only[go_sem,true_and,K4c,E5c,b16 H rx,ra H rx,b16 _ ep,e6,w1]
   have kp2:KpD (fun i=>i=b∨i=mm) h0 h2:=⟨by have:=IH.kp.next;omega,ng2.trans IH.kp.ng,fun i hi hn=>(gg i (Nat.lt_of_lt_of_le hi IH.kp.next) (fun e=>by have:=hw i e;omega)).trans (IH.kp.get i hi hn)⟩
   have mm2:MapAt ZZ h2 mm (G1a Change.k f1a s.w):=IH.mine.keep (gg _ (by omega) nm)
   have hkn:=IH.kp.next
   refine fin (s':={ s with out:=s.out++[s.r x3] }) (n5d (x:=⟨x1,x2,x3,x4,x5⟩) c24 z) ⟨kp2.set (.inl (.inl rfl)),⟨vo',some (H.next+1),Zj _ _,o3.mono (Nat.le_refl _) (fun i hi=>Zx _ _ (by cases hi;omega)) (fun i hi=>hi.elim),fun i hi=>by cases hi;omega⟩,mm2.keep (Zx _ _ (fun e=>C.bm e.symm)),l8,I.ok,by simp;omega,I.wok⟩
 by_cases c25:x2=25
 ·have i0:0≤x5:=himm0 (by omega)
  have hwp:IntKind.i64.wrap (100+x5)=100+x5:=o0a (by omega) (by omega)
  simp -implicitDefEqProofs (disch:=first|omega|simp only[go_sem]) only[go_sem,true_and,c25,a4 H rx,hwp]
  exact fin (o5d (x:=⟨x1,x2,x3,x4,x5⟩) c25) IH
 by_cases c26:x2=26
 ·obtain ⟨k,hk⟩:∃ k,(⟨IntKind.i32.wrap x5,s.r x4⟩:Key)=k:=⟨_,rfl⟩
  have hkok:fKey.ok k:=hk▸⟨Q0b _ _,H4a I.ok _⟩
  have hfar:H2a ⟨x1,x2,x3,x4,x5⟩ s=k:=hk
  obtain ⟨H3,hH3⟩:∃ K,K=H.push (.row [.int .i32 k.t,.int .i64 k.r] 0 false):=⟨_,rfl⟩
  have e3:Ext H H3:=by rw[hH3];exact Ext.push1 _ _
  have hst:Yx Tryz.prog 31 (.pointer (some ⟨H.next,0,none⟩)) (ZZ k) (H.push (.row [.int .i32 0,.int .i64 0] 0 false))=some H3:=by
   rw[hH3]
   exact (c4a rfl).trans (c0a rfl rfl)
  have g3:H3.get H.next=some (.row [.int .i32 k.t,.int .i64 k.r] 0 false):=by rw[hH3];exact Zz _ _
  have l3:Zk H3 H.next 0 2=some (ZZ k):=by rw[Zu g3 (Nat.le_of_ble_eq_true rfl)];rfl
  have I3:=IH.ext C e3
  have hbk:Xy Tryz.prog 31 [(0,.int .i32 (IntKind.i32.wrap x5)),(1,.int .i64 (s.r x4))]=some (ZZ k):=hk▸x5b
  simp -implicitDefEqProofs (disch:=first|omega|simp only[go_sem]) only[go_sem,true_and,c26,a4 H rx,hbk,hst]
  refine d4c rfl ?_
  simp -implicitDefEqProofs (disch:=first|omega|simp only[go_sem]) only[go_sem,true_and,I9b,P0c,b4 H3 e3,l3]
  refine q8a (t7b (hTx.ext e3).r (by have:=C.len.r;omega)) ?_
  by_cases hm':k∈t.reads
  ·have hmd:=decide_eq_true hm'
   simp -implicitDefEqProofs (disch:=first|omega|simp only[go_sem]) only[go_sem,true_and,hmd,l3]
   refine YX (P0b C I3) ?_
   simp -implicitDefEqProofs (disch:=first|omega|simp only[go_sem]) only[go_sem,true_and,wst H3 _ e3]
   exact fin (p5d (x:=⟨x1,x2,x3,x4,x5⟩) c26 hfar hm') (I3.reg C (gbK H3 e3) (p6b C.okm I.wok))
  ·have hmd:=decide_eq_false hm'
   simp -implicitDefEqProofs (disch:=first|omega|simp only[go_sem]) only[go_sem,true_and,hmd]
   exact fin (U4d (x:=⟨x1,x2,x3,x4,x5⟩) c26 hfar hm') I3
 by_cases c27:x2=27
 ·obtain ⟨k,hk⟩:∃ k,(⟨IntKind.i32.wrap x5,s.r x4⟩:Key)=k:=⟨_,rfl⟩
  have hkok:fKey.ok k:=hk▸⟨Q0b _ _,H4a I.ok _⟩
  have hfar:H2a ⟨x1,x2,x3,x4,x5⟩ s=k:=hk
  obtain ⟨H3,hH3⟩:∃ K,K=H.push (.row [.int .i32 k.t,.int .i64 k.r] 0 false):=⟨_,rfl⟩
  have e3:Ext H H3:=by rw[hH3];exact Ext.push1 _ _
  have hst:Yx Tryz.prog 31 (.pointer (some ⟨H.next,0,none⟩)) (ZZ k) (H.push (.row [.int .i32 0,.int .i64 0] 0 false))=some H3:=by
   rw[hH3]
   exact (c4a rfl).trans (c0a rfl rfl)
  have g3:H3.get H.next=some (.row [.int .i32 k.t,.int .i64 k.r] 0 false):=by rw[hH3];exact Zz _ _
  have l3:Zk H3 H.next 0 2=some (ZZ k):=by rw[Zu g3 (Nat.le_of_ble_eq_true rfl)];rfl
  have I3:=IH.ext C e3
  have hbk:Xy Tryz.prog 31 [(0,.int .i32 (IntKind.i32.wrap x5)),(1,.int .i64 (s.r x4))]=some (ZZ k):=hk▸x5b
  simp -implicitDefEqProofs (disch:=first|omega|simp only[go_sem]) only[go_sem,true_and,c27,a4 H rx,hbk,hst]
  refine f4c rfl ?_
  simp -implicitDefEqProofs (disch:=first|omega|simp only[go_sem]) only[go_sem,true_and,J9b,Q0c,b5 H3 e3,l3]
  refine q8a (t7b (hTx.ext e3).w (by have:=C.len.w;omega)) ?_
  by_cases hm':k∈t.writes
  ·have hmd:=decide_eq_true hm'
   obtain ⟨o,hu,hm2⟩:=I3.mine.update n8a k (f1a ⟨k,s.r x3,false⟩)
   simp -implicitDefEqProofs (disch:=first|omega|simp only[go_sem]) only[go_sem,true_and,hmd]
   refine g4c rfl ?_
   simp -implicitDefEqProofs (disch:=first|omega|simp only[go_sem]) only[go_sem,true_and,K9b,R0c,b15 H3 e3,l3,ra H3 e3,v5b,hu]
   exact fin (q5d (x:=⟨x1,x2,x3,x4,x5⟩) c27 hfar hm') (I3.put C (c:=⟨k,s.r x3,false⟩) hm2 ⟨hkok,H4a I.ok _,trivial⟩)
  ·have hmd:=decide_eq_false hm'
   simp -implicitDefEqProofs (disch:=first|omega|simp only[go_sem]) only[go_sem,true_and,hmd]
   exact fin (V4d (x:=⟨x1,x2,x3,x4,x5⟩) c27 hfar hm') I3
 obtain ⟨k1,k2⟩:=h6c (o:=x2) (b:=s.r x4) (H4a I.ok x3)
 have hpl:d6b x2:=⟨c0,c1,c2,c7,c3,c4,c5,c6,c19,c22,c23,c24,c25,c26,c27⟩
 simp -implicitDefEqProofs (disch:=first|omega|simp only[go_sem]) only[go_sem,true_and,c0,c1,c2,c7,c3,c4,c5,c6,c19,c22,c23,c24,c25,c26,c27]
 refine h4c rfl ?_
 simp -implicitDefEqProofs (disch:=first|omega|simp only[go_sem]) only[go_sem,true_and,L9b,S0c,a1 H rx,ra H rx]
 refine q8a U1c ?_
 by_cases z:(X1a x2 (s.r x3) (s.r x4)).2=0
 ·simp -implicitDefEqProofs (disch:=first|omega|simp only[go_sem]) only[go_sem,true_and,q4a,z,wst H _ rx]
  exact fin ((seb (x:=⟨x1,x2,x3,x4,x5⟩) hpl).trans (if_pos z)) (IH.reg C gb k1)
 ·simp -implicitDefEqProofs (disch:=first|omega|simp only[go_sem]) only[go_sem,true_and,q4a,z]
  exact fin ((seb (x:=⟨x1,x2,x3,x4,x5⟩) hpl).trans (if_neg z)) IH
end Go.Proofs.YtheamfnbfgiaeaaGreat
namespace Go.Proofs.YtheamfnbfgiaeaaGreat
open Go.D
set_option maxRecDepth 100000
def atM (L:List Instr):Nat→List (Int × Value)
 | 0=>[]
 | i+1=>X0a (atM L i) ((L[i]?.map (·.pos)).getD 0) (.int .i64 (i:Nat))
theorem U0b (L:List Instr):∀ n,((atM L n).map (·.1)).Nodup
 | 0=>.nil
 | n+1=>P1a (U0b L n)
theorem u5b {L:List Instr} (hL:L.Pairwise fun x y=>x.pos<y.pos):∀ {n i:Nat} {x:Instr},n≤L.length→i<n→L[i]? = some x→Ww (atM L n) x.pos=some (.int .i64 (i:Nat))
 | 0,i,x,_,hi,_=>by omega
 | n+1,i,x,hn,hi,hx=>by
   have hl:n<L.length:=by omega
   simp only[atM]
   rw[List.getElem?_eq_getElem hl,Option.map_some,Option.getD_some,I3a (U0b L n)]
   by_cases hin:i=n
   ·subst hin
    rw[List.getElem?_eq_getElem hl]at hx
    cases hx
    rw[if_pos rfl]
   ·have hil:i<L.length:=by omega
    have hxi:L[i]=x:=by rw[List.getElem?_eq_getElem hil]at hx;exact Option.some.inj hx
    have:=List.pairwise_iff_getElem.1 hL i n hil hl (by omega)
    rw[hxi]at this
    rw[if_neg (by omega)]
    exact u5b hL (by omega) (by omega) hx
theorem R1c {L:List Instr} {i:Nat} (hi:i<L.length):atM L (i+1)=X0a (atM L i) L[i].pos (.int .i64 (i:Nat)):=by
 simp only[atM]
 rw[List.getElem?_eq_getElem hi]
 rfl
theorem W1c {w l:List Change} (hn:(l.map Change.k).Nodup) (hl:∀ c∈l,Yv Change.k w c.k=some c) (hall:∀ k∈w.map Change.k,k∈l.map Change.k):byK Change.k l=byK Change.k w:=by
 refine l0b (h5a _) (h5a _) fun c=>?_
 rw[H3a,H3a]
 constructor
 ·intro h
  exact hl c (h0a h).1
 ·intro h
  obtain ⟨h1,h2⟩:=h0a h
  obtain ⟨d,hd⟩:=F5a (hall c.k (List.mem_map.2 ⟨c,h1,rfl⟩))
  obtain ⟨g1,g2⟩:=h0a hd
  have:=hl d g1
  rw[g2,h]at this
  cases this
  exact hd
theorem x7c (f:Int):max 0 (min f 4096)=(F6a f:Nat):=by unfold F6a;omega
abbrev YU:Value:=.slice none 0 0
theorem v3c {P:Program} {h:DHeap} {ts:Array TypeId} {ty:TypeId} {a b:Int}:Y1a P .max ts ty h (some [.int .i64 a,.int .i64 b])=.ok (.value (.int .i64 (max a b))) h:=by
 have hq:ZU P (Builtin.max_ ts ty #[.int .i64 a,.int .i64 b])=some (.inr (.int .i64 (max a b))):=by
  have e:max a b=if a<b then b else a:=by
   by_cases h:a<b
   ·rw[if_pos h];omega
   ·rw[if_neg h];omega
  rw[e]
  rfl
 have hf:([Value.int .i64 a,.int .i64 b].all Yj)=true:=rfl
 show (if [Value.int .i64 a,.int .i64 b].all Yj=true then Xj P (Builtin.max_ ts ty #[.int .i64 a,.int .i64 b]) h else .bad)=_
 rw[if_pos hf]
 simp only[Xj,hq]
 rfl
theorem C2d {e:Int}:Xy Tryz.prog 94 [(0,.int .i64 e)]=some (.agg #[.int .i64 e,YU,YU,.int .i64 0]):=l0a W3b rfl
theorem n4c {e k:Int}:Xy Tryz.prog 94 [(0,.int .i64 e),(3,.int .i64 k)]=some (.agg #[.int .i64 e,YU,YU,.int .i64 k]):=l0a W3b rfl
theorem D2d {e k:Int} {u w:Value} (hu:u.cells=#[u]) (hw:w.cells=#[w]):Xy Tryz.prog 94 [(0,.int .i64 e),(1,u),(2,w),(3,.int .i64 k)]=some (.agg #[.int .i64 e,u,w,.int .i64 k]):=l0a W3b (by simp[T4a,hu,hw,YZ,V0b])
theorem k9c {t:Txn} {vc va vr vw:Value} {a b c:Nat}:Xy Tryz.prog 151 [(0,h1a t.ses t.req vc va vr vw),(2,.map (some a)),(3,.map (some b)),(6,.map (some c))]=some (.agg (XQ t vc va vr vw [0,0,0,0,0,0,0,0] a b c YU 0).toArray):=l0a a8c rfl
def RunR (h:DHeap) (o:s2b) (r:DEnd) (h1:DHeap):Prop:=∃ vv cv,r=.ret (.agg #[.int .i64 o.e,vv,cv,.int .i64 o.s])∧Made fI64 h h1 vv o.vs∧Made fChange h h1 cv o.ch
theorem RunR.none {h h1:DHeap} {e k:Int} (hE:Ext h h1) {o:s2b} (ho:o=⟨e,[],[],k⟩):RunR h o (.ret (.agg #[.int .i64 e,YU,YU,.int .i64 k])) h1:=by
 subst ho
 exact ⟨_,_,rfl,.nil _ hE,.nil _ hE⟩
set_option maxHeartbeats 4000000 in
theorem R4d {h:DHeap} {t:Txn} {vc va vr vw v:Value} {l:List Pair} {f:Int} (x:TxV (InH h) h t vc va vr vw) (hT:y6a t) (hb:Arg fPair.rep h v l) (hl:l.length≤1048576) :
 Ct Tryz.prog 52 [h1a t.ses t.req vc va vr vw,v,.int .i64 f] h (RunR h (b4a t l f)):=by
 obtain ⟨R,hR⟩:∃ R,RunR h (b4a t l f)=R:=⟨_,rfl⟩
 rw[hR]
 refine F3d (by simp) ?_
 have hcl:(h1a t.ses t.req vc va vr vw).cells.toList=[.int .i64 t.ses,.int .i64 t.req,vc,va,vr,vw]:=rfl
 obtain ⟨H1,hH1⟩:∃ H,h.push (.row [.int .i64 t.ses,.int .i64 t.req,vc,va,vr,vw] 0 false)=H:=⟨_,rfl⟩
 have g1:H1.get h.next=some (.row [.int .i64 t.ses,.int .i64 t.req,vc,va,vr,vw] 0 false):=by rw[← hH1];exact Zz _ _
 have n1:H1.next=h.next+1:=by rw[← hH1];rfl
 have e1:Ext h H1:=by rw[← hH1];exact Ext.push1 _ _
 obtain ⟨H2,hH2⟩:∃ H,H1.push (.row [.int .i64 0,YU,YU,.int .i64 0] 0 false)=H:=⟨_,rfl⟩
 have g2:H2.get H1.next=some (.row [.int .i64 0,YU,YU,.int .i64 0] 0 false):=by rw[← hH2];exact Zz _ _
 have n2:H2.next=h.next+2:=by rw[← hH2,m0a,n1]
 have e12:Ext H1 H2:=by rw[← hH2];exact Ext.push1 _ _
 have e2:Ext h H2:=e1.trans e12
 have lt:∀ K,Ext H2 K→Zk K h.next 0 6=some (h1a t.ses t.req vc va vr vw):=fun K e=>by
  rw[Zu ((e.get _ (by omega)).trans ((e12.get _ (by omega)).trans g1)) (Nat.le_of_ble_eq_true rfl)]
  rfl
 have lc:∀ K,Ext H2 K→Zq K h.next 2=some vc:=fun K e=>Zy ((e.get _ (by omega)).trans ((e12.get _ (by omega)).trans g1))
 have hby:=J2b x.c
 have x2:TxV (InH H2) H2 t vc va vr vw:=x.ext e2
 have res:∀ (K:DHeap) (e k:Int) (u w:Value),u.cells=#[u]→w.cells=#[w]→[Value.int .i64 e,u,w,.int .i64 k].all Value.oneCell'=true→K.get H1.next=some (.row [.int .i64 0,YU,YU,.int .i64 0] 0 false) →
  ∃ K',storeAt K H1.next 0 [.int .i64 e,u,w,.int .i64 k]=some K'∧Zk K' H1.next 0 4=some (.agg #[.int .i64 e,u,w,.int .i64 k])∧∃ o,K'=K.set H1.next o:=fun K e k u w hu hw ho g=>by
  refine ⟨_,b0a g (Nat.le_of_ble_eq_true rfl) ho,?_,_,rfl⟩
  rw[Zu (Zj _ _) (Nat.le_of_ble_eq_true rfl)]
  rfl
 simp -implicitDefEqProofs (disch:=first|omega|simp only[go_sem]) only[go_sem,true_and,c52,hcl,hH1,hH2,lt H2 (.refl _)]
 refine YX (d2c x2.c x2.a x2.r x2.w hT.c hby) ?_
 by_cases hz:T2a t=0
 case neg=>
  obtain ⟨K',s1,s2,o,rfl⟩:=res H2 1 0 YU YU rfl rfl rfl g2
  simp -implicitDefEqProofs (disch:=first|omega|simp only[go_sem]) only[go_sem,true_and,hz,C2d,s1,A1a,G0a,s2]
  refine ⟨_,rfl,?_⟩
  rw[← hR]
  exact RunR.none (e2.set (by omega)) (by unfold b4a;rw[if_pos hz])
 obtain ⟨hdec,_,hna,hnr,hnw⟩:=k1c hz
 simp -implicitDefEqProofs (disch:=first|omega|simp only[go_sem]) only[go_sem,true_and,hz,lc H2 (.refl _)]
 refine YW (p3b x2.c hT.c) ?_
 rintro r Q1 ⟨w,rfl,eQ1,hw⟩
 obtain ⟨L,hL⟩:∃ L,g1a t.code=L:=⟨_,rfl⟩
 rw[hL]at hw
 have eQ:Ext h Q1:=e2.trans eQ1
 have hLlen:L.length≤512:=by
  have h1:=Z4a (l:=t.code) (n:=t.code.length) (i:=0) (by omega)
  obtain ⟨h2,_,_,h3⟩:=g8a hdec
  rw[← hL,h2]
  omega
 obtain ⟨M1,hM1⟩:∃ H,Q1.push (.map [] 0)=H:=⟨_,rfl⟩
 obtain ⟨M2,hM2⟩:∃ H,M1.push (.map [] 0)=H:=⟨_,rfl⟩
 obtain ⟨M3,hM3⟩:∃ H,M2.push (.map [] 0)=H:=⟨_,rfl⟩
 obtain ⟨M4,hM4⟩:∃ H,M3.push (.row (XQ t vc va vr vw [0,0,0,0,0,0,0,0] Q1.next M1.next M2.next YU 0) 0 false)=H:=⟨_,rfl⟩
 have m1:M1.next=Q1.next+1:=by rw[← hM1];rfl
 have m2:M2.next=Q1.next+2:=by rw[← hM2,m0a,m1]
 have m3:M3.next=Q1.next+3:=by rw[← hM3,m0a,m2]
 have m4:M4.next=Q1.next+4:=by rw[← hM4,m0a,m3]
 have E1:Ext Q1 M1:=hM1▸Ext.push1 _ _
 have E2:Ext M1 M2:=hM2▸Ext.push1 _ _
 have E3:Ext M2 M3:=hM3▸Ext.push1 _ _
 have E4:Ext M3 M4:=hM4▸Ext.push1 _ _
 have a1:MapAt ZZ M4 Q1.next ([]:List (Key × Value)):=MapAt.keep (by rw[← hM1];exact MapAt.new) ((E4.get _ (by omega)).trans ((E3.get _ (by omega)).trans (E2.get _ (by omega))))
 have a2:MapAt ZZ M4 M1.next ([]:List (Key × Value)):=MapAt.keep (by rw[← hM2];exact MapAt.new) ((E4.get _ (by omega)).trans (E3.get _ (by omega)))
 have a3:MapAt (fun n:Int=>Value.int .i64 n) M4 M2.next ([]:List (Int × Value)):=MapAt.keep (by rw[← hM3];exact MapAt.new) (E4.get _ (by omega))
 have a4:M4.get M3.next=some (.row (XQ t vc va vr vw [0,0,0,0,0,0,0,0] Q1.next M1.next M2.next YU 0) 0 false):=by rw[← hM4];exact Zz _ _
 have EQ4:Ext Q1 M4:=((E1.trans E2).trans E3).trans E4
 have elw:∀ K,dLen Tryz.prog #[143] w K=some (.int .i64 (L.length:Nat)):=hw.lens (P:=Tryz.prog) (ts:=#[143]) (t:=143) rfl J0b
 simp -implicitDefEqProofs (disch:=first|omega|simp only[go_sem]) only[go_sem,true_and,Xk,lt Q1 eQ1,hM1,hM2,hM3,k9c,hM4,elw]
 refine A0a (σ:=Nat) (by kernel_rfl) (fun i s=>s.df=[]∧s.rd=none∧s.fr 1=some v∧s.fr 2=some (.int .i64 f)∧s.fr 3=some (.pointer (some ⟨h.next,0,none⟩))∧s.fr 6=some (.pointer (some ⟨H1.next,0,none⟩))∧s.fr 7=some w∧s.fr 9=some (.pointer (some ⟨M3.next,0,none⟩))∧s.fr 36=some w∧s.fr 37=some (.int .i64 (L.length:Nat))∧s.fr 38=some (.int .i64 (i:Nat))∧i≤L.length ∧
  Ext Q1 s.h∧M3.next<s.h.next∧s.h.get M3.next=some (.row (XQ t vc va vr vw [0,0,0,0,0,0,0,0] Q1.next M1.next M2.next YU 0) 0 false)∧MapAt ZZ s.h Q1.next ([]:List (Key × Value))∧MapAt ZZ s.h M1.next ([]:List (Key × Value))∧MapAt (fun n:Int=>Value.int .i64 n) s.h M2.next (atM L i)) (fun i=>L.length - i) 0 ?_ ?_
 ·simp -implicitDefEqProofs (disch:=first|omega|simp only[go_sem]) only[go_sem,true_and]
  exact ⟨by trivial,Nat.zero_le _,EQ4,by omega,a4,a1,a2,a3⟩
 rintro i ⟨fr,df,K,rd⟩ K' hK' hX ⟨rfl,rfl,f1,f2,f3,f6,f7,f9,f36,f37,f38,hi,eK,hlt,b4,b1,b2,b3⟩
 simp only at f1 f2 f3 f6 f7 f9 f36 f37 f38 eK hlt b4 b1 b2 b3
 simp -implicitDefEqProofs (disch:=first|omega|simp only[go_sem]) only[go_sem,true_and,f36,f37,f38]
 refine n0a (fun hc1=>?_) (fun hc1=>?_)
 ·have hj:i<L.length:=by omega
  obtain ⟨id1,o1,q1,hid1,hat1⟩:=(hw.ext eK).idx (P:=Tryz.prog) (t:=143) w3b (k:=.i64) (i:=i) (x:=L[i]) (by simp)
  have l1:Zk K id1 o1 5=some (R0a L[i]):=hat1.flat.2.1
  obtain ⟨K1,hK1⟩:∃ H,H=K.push (.row (fInstr.enc L[i]) 0 false):=⟨_,rfl⟩
  have eK1:Ext K K1:=by rw[hK1];exact Ext.push1 _ _
  have gK1:K1.get K.next=some (.row (fInstr.enc L[i]) 0 false):=by rw[hK1];exact Zz _ _
  have c0:Zq K1 K.next 0=some (.int .i64 L[i].pos):=Zy gK1
  have c18:Zq K1 M3.next 18=some (.map (some M2.next)):=Zy ((eK1.get _ hlt).trans b4)
  have hst:Yx Tryz.prog 130 (.pointer (some ⟨K.next,0,none⟩)) (R0a L[i]) (K.push (.row [.int .i64 0,.int .i64 0,.int .i64 0,.int .i64 0,.int .i64 0] 0 false))=some K1:=by
   rw[hK1]
   exact (m4b rfl).trans r6a
  obtain ⟨o,hu,hm2⟩:=(b3.keep (eK1.get _ (by omega))).update k5c L[i].pos (.int .i64 (i:Nat))
  have hw1:=d0a hj (by omega)
  have hn1:=eK1.next
  simp -implicitDefEqProofs (disch:=first|omega|simp only[go_sem]) only[go_sem,true_and,f36,f38,q1,l1,hst]
  refine F8c rfl ?_
  simp -implicitDefEqProofs (disch:=first|omega|simp only[go_sem]) only[go_sem,true_and,y4c,s5c,f9,f38,c18,c0,hu,hw1]
  refine hK' (i+1) _ ?_ (by omega)
  refine ⟨by trivial,by trivial,(vy f1),(vy f2),(vy f3),(vy f6),(vy f7),(vy f9),(vy f36),(vy f37),vz,by omega,(eK.trans eK1).set (by omega),show M3.next<K1.next by omega,(Zx _ _ (by omega)).trans ((eK1.get _ hlt).trans b4),b1.keep ((Zx _ _ (by omega)).trans (eK1.get _ (by omega))),b2.keep ((Zx _ _ (by omega)).trans (eK1.get _ (by omega))),?_⟩
  rw[R1c hj]
  exact hm2
 obtain rfl:i=L.length:=by omega
 refine hX _ _ (by simp) ?_
 clear hK' hX K' f36 f37 f38 hc1 hi
 have eH2K:Ext H2 K:=eQ1.trans eK
 have eHK:Ext h K:=e2.trans eH2K
 simp -implicitDefEqProofs (disch:=first|omega|simp only[go_sem]) only[go_sem,true_and,f1,f3,lt K eH2K]
 refine YW (Q7c (x.ext eHK) (hb.ext eHK) hl (by have:=hT.r;omega)) ?_
 rintro r Y ⟨wn,rfl,mn⟩
 obtain ⟨ns,hns⟩:∃ ns,Q2a t l=ns:=⟨_,rfl⟩
 rw[hns]at mn
 have hnsl:ns.length≤1048576:=by
  have h1:=List.length_filter_le (fun p:Pair=>decide (p.k∈t.reads)) (byK Pair.k l)
  have h2:=d8a (key:=Pair.k) l
  rw[← hns]
  unfold Q2a
  omega
 have eKY:=mn.ext
 have nKY:=eKY.next
 have eln:∀ K,dLen Tryz.prog #[96] wn K=some (.int .i64 (ns.length:Nat)):=mn.arg.lens (P:=Tryz.prog) (ts:=#[96]) (t:=96) rfl N3b
 have y1:MapAt ZZ Y Q1.next ([]:List (Key × Value)):=b1.keep (eKY.get _ (by omega))
 simp -implicitDefEqProofs (disch:=first|omega|simp only[go_sem]) only[go_sem,true_and,Xk,eln]
 refine A0a (σ:=Nat) (by kernel_rfl) (fun j s=>s.df=[]∧s.rd=none∧s.fr 2=some (.int .i64 f)∧s.fr 6=some (.pointer (some ⟨H1.next,0,none⟩))∧s.fr 7=some w∧s.fr 9=some (.pointer (some ⟨M3.next,0,none⟩))∧s.fr 53=some wn∧s.fr 54=some (.int .i64 (ns.length:Nat))∧s.fr 55=some (.int .i64 (j:Nat))∧j≤ns.length ∧
  KpD (fun i=>i=Q1.next) Y s.h∧MapAt ZZ s.h Q1.next (G1a Pair.k (fun p=>.int .i64 p.v) (ns.take j))) (fun j=>ns.length - j) 0 ?_ ?_
 ·simp -implicitDefEqProofs (disch:=first|omega|simp only[go_sem]) only[go_sem,true_and,f2,f6,f7,f9]
  exact ⟨by trivial,Nat.zero_le _,.refl _ _,y1⟩
 clear f1 f2 f3 f6 f7 f9
 rintro j ⟨fr,df,Z,rd⟩ K' hK' hX ⟨rfl,rfl,f2,f6,f7,f9,f53,f54,f55,hj,kZ,z1⟩
 simp only at f2 f6 f7 f9 f53 f54 f55 kZ z1
 have nYZ:=kZ.next
 have gz:Z.get M3.next=some (.row (XQ t vc va vr vw [0,0,0,0,0,0,0,0] Q1.next M1.next M2.next YU 0) 0 false):=(kZ.get _ (by omega) (by omega)).trans ((eKY.get _ hlt).trans b4)
 simp -implicitDefEqProofs (disch:=first|omega|simp only[go_sem]) only[go_sem,true_and,f53,f54,f55]
 refine n0a (fun hc1=>?_) (fun hc1=>?_)
 ·have hjl:j<ns.length:=by omega
  obtain ⟨id1,o1,q1,hid1,hat1⟩:=(mn.sl.kp kZ (fun i hi=>⟨hi.2,fun e=>by omega⟩)).idx (P:=Tryz.prog) (t:=96) h8a (k:=.i64) (i:=j) (x:=ns[j]) (by simp)
  have l1:Zk Z id1 o1 3=some (a4a ns[j]):=hat1.flat.2.1
  obtain ⟨K1,hK1⟩:∃ H,H=Z.push (.row [.int .i32 ns[j].k.t,.int .i64 ns[j].k.r,.int .i64 ns[j].v] 0 false):=⟨_,rfl⟩
  have eK1:Ext Z K1:=by rw[hK1];exact Ext.push1 _ _
  have gK1:K1.get Z.next=some (.row [.int .i32 ns[j].k.t,.int .i64 ns[j].k.r,.int .i64 ns[j].v] 0 false):=by rw[hK1];exact Zz _ _
  have lk:Zk K1 Z.next 0 2=some (ZZ ns[j].k):=by rw[Zu gK1 (Nat.le_of_ble_eq_true rfl)];rfl
  have lv:Zq K1 Z.next 2=some (.int .i64 ns[j].v):=Zy gK1
  have c14:Zq K1 M3.next 14=some (.map (some Q1.next)):=Zy ((eK1.get _ (by omega)).trans gz)
  have hst:Yx Tryz.prog 118 (.pointer (some ⟨Z.next,0,none⟩)) (.agg #[.int .i32 ns[j].k.t,.int .i64 ns[j].k.r,.int .i64 ns[j].v]) (Z.push (.row [.int .i32 0,.int .i64 0,.int .i64 0] 0 false))=some K1:=by
   rw[hK1]
   exact (k0b rfl).trans (c0a rfl rfl)
  obtain ⟨o,hu,hm2⟩:=(z1.keep (eK1.get _ (by omega))).update S9a ns[j].k (.int .i64 ns[j].v)
  have hw1:=d0a hjl (by omega)
  simp -implicitDefEqProofs (disch:=first|omega|simp only[go_sem]) only[go_sem,true_and,f53,f55,q1,l1,hst]
  refine G8c rfl ?_
  simp -implicitDefEqProofs (disch:=first|omega|simp only[go_sem]) only[go_sem,true_and,z4c,t5c,f9,f55,c14,lk,lv,hu,hw1]
  refine hK' (j+1) _ ?_ (by omega)
  refine ⟨by trivial,by trivial,(vy f2),(vy f6),(vy f7),(vy f9),(vy f53),(vy f54),vz,by omega,(kZ.ext eK1).set (.inl rfl),?_⟩
  rw[u1b hjl]
  exact hm2
 obtain rfl:j=ns.length:=by omega
 refine hX _ _ (by simp) ?_
 rw[List.take_length]at z1
 clear hK' hX K' f53 f54 f55 hc1 hj
 have eHY:Ext h Y:=eHK.trans eKY
 have kQ:∀ i,i<Q1.next→Z.get i=Q1.get i:=fun i hi=>(kZ.get _ (by have:=eK.next;omega) (by omega)).trans ((eKY.get _ (by have:=eK.next;omega)).trans (eK.get _ hi))
 have nQZ:Q1.next+4≤Z.next:=by omega
 have C:M5a Z M3.next Q1.next M1.next M2.next t vc va vr vw ns L:={
  lb:=by omega
  lh:=by omega
  lm:=by omega
  la:=by omega
  bm:=by omega
  hb:=by omega
  hmm:=by omega
  ab:=by omega
  amm:=by omega
  tx:=x.mono fun i hi=>⟨⟨by have:=eQ.next;have:i<h.next:=hi;omega,by have:=eQ.next;have:i<h.next:=hi;omega⟩,(kQ i (Nat.lt_of_lt_of_le hi eQ.next)).trans (eQ.get i hi)⟩
  len:=hT
  has:=z1
  at_:=⟨_,b3.keep ((kZ.get _ (by omega) (by omega)).trans (eKY.get _ (by omega))),fun i x hx=>u5b (hL▸G6c) (Nat.le_refl _) (List.getElem?_eq_some_iff.1 hx).1 hx⟩
  okm:=mn.ok }
 have I0:RunI Z Z M3.next Q1.next M1.next M2.next t vc va vr vw rs0 0:=⟨.refl _ _,⟨YU,none,gz,Owns.nil _ _ _,fun i hi=>by cases hi⟩,b2.keep ((kZ.get _ (by omega) (by omega)).trans (eKY.get _ (by omega))),rfl,fun n hn=>by
  have:n=0:=by simpa [rs0] using hn
  subst this
  exact w0a.2 ⟨by decide,by decide⟩,by decide,fun c hc=>by cases hc⟩
 have hwZ:∀ K,KpD (fun i=>i=M3.next∨i=M1.next) Z K→Arg fInstr.rep K w L:=fun K k=>hw.mono fun i hi=>⟨by have:=k.next;have:i<Q1.next:=hi;omega,(k.get i (by have:i<Q1.next:=hi;omega) (by have:i<Q1.next:=hi;omega)).trans (kQ i hi)⟩
 have rZ:∀ K,KpD (fun i=>i=M3.next∨i=M1.next) Z K→K.get H1.next=some (.row [.int .i64 0,YU,YU,.int .i64 0] 0 false):=fun K k=>by
  have:=eQ1.next
  exact (k.get _ (by omega) (by omega)).trans ((kQ _ (by omega)).trans ((eQ1.get _ (by omega)).trans g2))
 have eZ:∀ K,KpD (fun i=>i=M3.next∨i=M1.next) Z K→Ext h K:=fun K k=>by
  have e0:Ext h Z:=kZ.toExt eHY (fun i hi=>by have:=eQ.next;omega)
  exact k.toExt e0 fun i hi=>by have:=eQ.next;omega
 obtain ⟨F,hF⟩:∃ F,F6a f=F:=⟨_,rfl⟩
 have hFl:F≤4096:=hF▸E3b f
 have hfu:max 0 (min f 4096)=(F:Nat):=hF▸x7c f
 obtain ⟨O,hO⟩:∃ O,b4a t l f=O:=⟨_,rfl⟩
 have hO2:a2a t ns F 0 0 rs0=O:=by
  rw[← hO]
  unfold b4a
  rw[if_neg (fun hh=>hh hz),hns,hF]
 rw[hO]at hR
 simp -implicitDefEqProofs (disch:=first|omega|simp only[go_sem]) only[go_sem,true_and,f2,M7c,v3c,hfu]
 refine A0a (σ:=Nat × Nat × RS) (by kernel_rfl) (fun a s=>s.df=[]∧s.rd=none∧s.fr 2=some (.int .i64 (F:Nat))∧s.fr 6=some (.pointer (some ⟨H1.next,0,none⟩))∧s.fr 7=some w∧s.fr 9=some (.pointer (some ⟨M3.next,0,none⟩))∧s.fr 14=some (.int .i64 (a.1:Nat))∧RunI Z s.h M3.next Q1.next M1.next M2.next t vc va vr vw a.2.2 (a.2.1:Nat)∧a.1≤F∧a.2.1≤L.length∧a.2.2.w.length≤a.1∧a2a t ns (F - a.1) (r1a t a.2.1) a.1 a.2.2=O) (fun a=>F - a.1) (0,0,rs0) ?_ ?_
 ·simp -implicitDefEqProofs (disch:=first|omega|simp only[go_sem]) only[go_sem,true_and,f6,f7,f9]
  exact ⟨by trivial,I0,Nat.zero_le _,Nat.zero_le _,Nat.le_refl _,by rw[S8b hdec];exact hO2⟩
 clear f2 f6 f7 f9
 rintro ⟨k,i,st⟩ ⟨fr,df,K,rd⟩ K' hK' hX ⟨rfl,rfl,f2,f6,f7,f9,f14,I,hk,hi,hwl,hrun⟩
 simp only at f2 f6 f7 f9 f14 I hk hi hwl hrun
 obtain ⟨vo,ow,gb,oo,how⟩:=I.row
 have l8:=I.len
 have c17:Zq K M3.next 17=some (.int .i64 (i:Nat)):=(Zy gb).trans (o1a l8).2.2.2.1
 have hbK:M3.next<K.next:=Nat.lt_of_lt_of_le C.lb I.kp.next
 simp -implicitDefEqProofs (disch:=first|omega|simp only[go_sem]) only[go_sem,true_and,f7,f9,c17,elw]
 refine n0a (fun hc1=>?_) (fun hc1=>?_)
 ·have hil:i<L.length:=by omega
  obtain ⟨y,hy⟩:∃ y,L[i]? = some y:=⟨_,List.getElem?_eq_getElem hil⟩
  have hy':(g1a t.code)[i]? = some y:=by rw[hL];exact hy
  obtain ⟨hp1,hp2,hp3,hp4,hp5⟩:=t0b hdec hy'
  have hiok:=o1d hz hby hy'
  have hjmp:F1a y.op=true→∃ (i:Nat) (z:Instr),L[i]? = some z∧z.pos=y.imm:=fun hj=>by
   obtain ⟨i',z,q1,q2,_⟩:=R8b hdec (List.mem_of_getElem? hy') hj
   rw[hL]at q1
   exact ⟨i',z,q1,q2⟩
  by_cases hkF:k=F
  ·have hkF':=eq_true (show ((k:Nat):Int)=(F:Nat) by omega)
   obtain ⟨K3,s1,s2,o,rfl⟩:=res K 2 k YU YU rfl rfl rfl (rZ K I.kp)
   simp -implicitDefEqProofs (disch:=first|omega|simp only[go_sem]) only[go_sem,true_and,f2,f6,f14,hkF',n4c,s1]
   refine hX _ _ (by simp) ?_
   simp -implicitDefEqProofs (disch:=first|omega|simp only[go_sem]) only[go_sem,true_and,f6,A1a,G0a,s2]
   refine ⟨_,rfl,?_⟩
   rw[← hR]
   refine RunR.none ((eZ K I.kp).set (by omega)) ?_
   rw[← hrun,hkF,Nat.sub_self]
   exact P7a hp1
  have hkF':¬ ((k:Nat):Int)=(F:Nat):=by omega
  have hw1:=d0a (i:=k) (n:=F) (by omega) (by omega)
  have hw2:=d0a hil (by omega)
  obtain ⟨id1,o1,q1,hid1,hat1⟩:=(hwZ K I.kp).idx (P:=Tryz.prog) (t:=143) w3b (k:=.i64) (i:=i) (x:=y) hy
  have l1:Zk K id1 o1 5=some (R0a y):=hat1.flat.2.1
  obtain ⟨K1,hK1⟩:∃ H,H=K.push (.row (fInstr.enc y) 0 false):=⟨_,rfl⟩
  have eK1:Ext K K1:=by rw[hK1];exact Ext.push1 _ _
  have gK1:K1.get K.next=some (.row (fInstr.enc y) 0 false):=by rw[hK1];exact Zz _ _
  have hst:Yx Tryz.prog 130 (.pointer (some ⟨K.next,0,none⟩)) (R0a y) (K.push (.row [.int .i64 0,.int .i64 0,.int .i64 0,.int .i64 0,.int .i64 0] 0 false))=some K1:=by
   rw[hK1]
   exact (m4b rfl).trans r6a
  have I1:=I.ext C eK1
  have gb1:K1.get M3.next=some (.row (XQ t vc va vr vw st.reg Q1.next M1.next M2.next vo (i:Nat)) 0 false):=(eK1.get _ hbK).trans gb
  have c17':Zq K1 M3.next 17=some (.int .i64 (i:Nat)):=(Zy gb1).trans (o1a l8).2.2.2.1
  obtain ⟨K2,hK2⟩:∃ H,K1.set M3.next (.row (XQ t vc va vr vw st.reg Q1.next M1.next M2.next vo ((i+1:Nat):Int)) 0 false)=H:=⟨_,rfl⟩
  have I2:=hK2▸I1.pc' C gb1 ((i+1:Nat):Int)
  have hst2:storeAt K1 M3.next 17 [.int .i64 ((i+1:Nat):Int)]=some K2:=by
   rw[b0a gb1 (by rw[w5a l8];exact Nat.le_of_ble_eq_true rfl) rfl,R6a l8,hK2]
  have lx:Zk K2 K.next 0 5=some (R0a y):=by
   rw[← hK2,Zu ((Zx _ _ (by omega)).trans gK1) (Nat.le_of_ble_eq_true rfl)]
   rfl
  simp -implicitDefEqProofs (disch:=first|omega|simp only[go_sem]) only[go_sem,true_and,f2,f7,f9,f14,hkF',hw1,c17,q1,l1,hst,c17',hw2,hst2,lx]
  refine YW (h2d C I2 hiok hjmp) ?_
  rintro r N ⟨rfl,pc',I3,j1,j2⟩
  have hpos:∀ e,(ZY t ns y st)=e→(ZY t ns (YV t.code (r1a t i)) st)=e:=fun e he=>by rw[← hp2];exact he
  have hwl3:=U7b (t:=t) (m:=ns) (x:=y) (s:=st)
  have hFk:F - k=(F - (k+1))+1:=by omega
  obtain ⟨e,s',jo,hE⟩:∃ e s' jo,ZY t ns y st=(e,s',jo):=⟨_,_,_,rfl⟩
  have hE':=hpos _ hE
  rw[hE]at I3 j1 j2 hwl3 ⊢
  simp only at I3 j1 j2 hwl3
  by_cases hm1:e=-1
  ·have hm1':=eq_true hm1
   simp -implicitDefEqProofs (disch:=first|omega|simp only[go_sem]) only[go_sem,true_and,Xk,hm1']
   obtain ⟨i',hi',hpi'⟩:∃ i':Nat,pc'=(i':Nat)∧i'≤L.length∧(jo.getD ((r1a t i:Nat)+Xq (t.code.getD (r1a t i) 0))).toNat=r1a t i':=by
    cases jo with
    | none=>exact ⟨i+1,j1 rfl,by omega,hp5⟩
    | some a=>
      obtain ⟨i',z,hz1,hz2,hz3⟩:=j2 a rfl
      refine ⟨i',hz3,Nat.le_of_lt (List.getElem?_eq_some_iff.1 hz1).1,?_⟩
      have hz1':(g1a t.code)[i']? = some z:=by rw[hL];exact hz1
      obtain ⟨_,_,q,_,_⟩:=t0b hdec hz1'
      show a.toNat=_
      rw[← hz2,q]
      simp
   subst hi'
   refine hK' (k+1,i',s') _ ?_ (by show F - (k+1)<F - k;omega)
   refine ⟨by trivial,by trivial,(vy f2),(vy f6),(vy f7),(vy f9),vz,I3,by show k+1≤F;omega,hpi'.1,by show s'.w.length≤k+1;omega,?_⟩
   show a2a t ns (F - (k+1)) (r1a t i') (k+1) s'=O
   rw[← hrun,hFk,N0b hp1 (by rw[hE'];exact hm1),hE',← hpi'.2]
  by_cases hm0:e=0
  ·subst hm0
   obtain ⟨vo3,ow3,gb3,oo3,how3⟩:=I3.row
   have hst3:storeAt N M3.next 17 [.int .i64 (L.length:Nat)]=some (N.set M3.next (.row (XQ t vc va vr vw s'.reg Q1.next M1.next M2.next vo3 (L.length:Nat)) 0 false)):=by
    rw[b0a gb3 (by rw[w5a I3.len];exact Nat.le_of_ble_eq_true rfl) rfl,R6a I3.len]
   simp -implicitDefEqProofs (disch:=first|omega|simp only[go_sem]) only[go_sem,true_and,Xk,f7,f9,elw,hst3]
   refine hK' (k+1,L.length,s') _ ?_ (by show F - (k+1)<F - k;omega)
   refine ⟨by trivial,by trivial,(vy f2),(vy f6),(vy f7),(vy f9),vz,I3.pc' C gb3 _,by show k+1≤F;omega,Nat.le_refl _,by show s'.w.length≤k+1;omega,?_⟩
   show a2a t ns (F - (k+1)) (r1a t L.length) (k+1) s'=O
   rw[Q6a (by rw[N2b (by rw[hL];exact Nat.le_refl _)];exact Nat.le_refl _),← hrun,hFk,Q7a hp1 (by rw[hE']),hE']
  ·obtain ⟨K3,s1,s2,o,rfl⟩:=res N e ((k+1:Nat):Int) YU YU rfl rfl rfl (rZ N I3.kp)
   simp -implicitDefEqProofs (disch:=first|omega|simp only[go_sem]) only[go_sem,true_and,Xk,hm1,hm0,f6,n4c,s1]
   refine hX _ _ (by simp) ?_
   simp -implicitDefEqProofs (disch:=first|omega|simp only[go_sem]) only[go_sem,true_and,f6,A1a,G0a,s2]
   refine ⟨_,rfl,?_⟩
   rw[← hR]
   refine RunR.none ((eZ N I3.kp).set (by omega)) ?_
   rw[← hrun,hFk,R7a hp1 (by rw[hE'];exact hm1) (by rw[hE'];exact hm0),hE']
 obtain rfl:i=L.length:=by omega
 refine hX _ _ (by simp) ?_
 have hO3:O=⟨0,st.out,byK Change.k st.w,(k:Nat)⟩:=by
  rw[← hrun]
  exact Q6a (by rw[N2b (by rw[hL];exact Nat.le_refl _)];exact Nat.le_refl _)
 clear hK' hX K' f2 f7
 have c15:Zq K M3.next 15=some (.map (some M1.next)):=(Zy gb).trans (o1a l8).2.1
 have hmK:M1.next<K.next:=Nat.lt_of_lt_of_le C.lm I.kp.next
 obtain ⟨oi,hr0,hr1⟩:=I.mine.range p4b hmK
 simp -implicitDefEqProofs (disch:=first|omega|simp only[go_sem]) only[go_sem,true_and,f9,c15,hr0]
 refine A0a (σ:=List Change) (by kernel_rfl) (fun a s=>s.df=[]∧s.rd=none∧s.fr 6=some (.pointer (some ⟨H1.next,0,none⟩))∧s.fr 9=some (.pointer (some ⟨M3.next,0,none⟩))∧s.fr 14=some (.int .i64 (k:Nat))∧s.fr 119=some (.pointer (some ⟨K.next,0,none⟩))∧K.next<s.h.next∧(∃ cv,s.fr 17=some cv∧Made fChange K s.h cv a)∧(a.map Change.k).Nodup∧(∀ c∈a,Yv Change.k st.w c.k=some c)∧RngAt ZZ s.h K.next M1.next (G1a Change.k f1a st.w) (a.map Change.k).reverse) (fun a=>st.w.length - a.length) [] ?_ ?_
 ·simp -implicitDefEqProofs (disch:=first|omega|simp only[go_sem]) only[go_sem,true_and,f6,f9,f14]
  exact ⟨Nat.lt_succ_self _,⟨_,rfl,.nil _ (Ext.push1 _ _)⟩,.nil,fun c hc=>(by cases hc),hr1⟩
 rintro a ⟨fr,df,N,rd⟩ K' hK' hX ⟨rfl,rfl,f6,f9,f14,f119,hlN,⟨cv,f17,mc⟩,hnd,hla,hrg⟩
 simp only at f6 f9 f14 f119 hlN f17 mc hrg
 obtain ⟨NL,hNL,hall⟩:=hrg.next (fun _=>rfl) (by omega)
 have hal:a.length≤st.w.length:=by
  have h1:=B1a (b:=st.w.map Change.k) hnd (fun k hk=>by
   obtain ⟨c,hc,rfl⟩:=List.mem_map.1 hk
   exact List.mem_map.2 ⟨c,(h0a (hla c hc)).1,rfl⟩)
  simpa using h1
 simp -implicitDefEqProofs (disch:=first|omega|simp only[go_sem]) only[go_sem,true_and,f119,hNL]
 intro pp hpp
 rcases hall pp hpp with ⟨rfl,hd⟩ | ⟨ck,cvv,o2,hk',hnk,rfl,hent,hr2⟩
 ·simp -implicitDefEqProofs (disch:=first|omega|simp only[go_sem]) only[go_sem,true_and]
  refine hX _ _ (by simp) ?_
  have eKN:=mc.ext
  have gbN:N.get M3.next=some (.row (XQ t vc va vr vw st.reg Q1.next M1.next M2.next vo (L.length:Nat)) 0 false):=(eKN.get _ hbK).trans gb
  have c16:∀ N',Ext N N'→Zq N' M3.next 16=some vo:=fun N' e=>(Zy ((e.get _ (by omega)).trans gbN)).trans (o1a l8).2.2.1
  have hlast:byK Change.k a=byK Change.k st.w:=W1c hnd hla fun k hk=>by
   have:=hd k ((w3c st.w k).2 hk)
   simpa using this
  have hvo:vo.cells=#[vo]:=oo.sl.cells1
  simp -implicitDefEqProofs (disch:=first|omega|simp only[go_sem]) only[go_sem,true_and]
  refine H8c rfl ?_
  simp -implicitDefEqProofs (disch:=first|omega|simp only[go_sem]) only[go_sem,true_and,A4c,u5c,f9,f14,f17,c16 N (.refl _)]
  refine A3a (I8b mc.arg (by omega)) ?_
  rintro r N2 ⟨w2,rfl,m2⟩
  have hw2:w2.cells=#[w2]:=m2.sl.cells1
  have hone:[Value.int .i64 0,vo,w2,.int .i64 (k:Nat)].all Value.oneCell'=true:=by
   obtain ⟨_,_,rfl⟩:=oo.sl.isSlice
   obtain ⟨_,_,rfl⟩:=m2.sl.isSlice
   rfl
  have eN:=m2.ext
  obtain ⟨K3,s1,s2,o,rfl⟩:=res N2 0 (k:Nat) vo w2 hvo hw2 hone ((eN.get _ (by have:=I.kp.next;have:=eKN.next;have:=eQ1.next;omega)).trans ((eKN.get _ (by have:=I.kp.next;have:=eQ1.next;omega)).trans (rZ K I.kp)))
  simp -implicitDefEqProofs (disch:=first|omega|simp only[go_sem]) only[go_sem,true_and,P5a,c16 N2 eN,D2d hvo hw2,f6,s1]
  simp -implicitDefEqProofs (disch:=first|omega|simp only[go_sem]) only[go_sem,true_and,A1a,G0a,f6,s2]
  refine ⟨_,rfl,?_⟩
  rw[← hR,hO3]
  have ehK:Ext h K:=eZ K I.kp
  have ehN2:Ext h N2:=(ehK.trans eKN).trans eN
  have hH1:h.next≤H1.next:=by omega
  have eset:Ext h (N2.set H1.next o):=ehN2.set hH1
  have h1Z:H1.next<Z.next:=by have:=eQ1.next;omega
  refine ⟨_,_,rfl,⟨eset,ow,oo.mono (by show K.next≤N2.next;exact Nat.le_trans eKN.next eN.next) (fun i hi=>?_) (fun i hi=>hi.elim),fun i hi=>?_⟩,?_⟩
  ·have h1:=how i hi
   have h2:=oo.lt i hi
   rw[Zx _ _ (by omega)]
   exact (eN.get _ (Nat.lt_of_lt_of_le h2 eKN.next)).trans (eKN.get _ h2)
  ·have:=how i hi
   have:=eQ.next
   omega
  ·rw[hlast]at m2
   obtain ⟨w3,p1,p2⟩:=m2.own
   refine ⟨eset,w3,p1.mono (Nat.le_refl _) (fun i hi=>Zx _ _ ?_) (fun i hi=>hi.elim),fun i hi=>?_⟩
   ·have:=p2 i hi
    have:=I.kp.next
    have:=eKN.next
    omega
   ·have:=p2 i hi
    have:=eKN.next
    have:=ehK.next
    omega
 ·obtain ⟨c,hc,hcv⟩:∃ c,Yv Change.k st.w ck=some c∧cvv=f1a c:=by
   have:=(p2a (O6a st.w)).2 hk'
   rw[E4a]at this
   cases hq:Yv Change.k st.w ck with
   | none=>rw[hq]at this;cases this
   | some c=>
     rw[hq]at this
     exact ⟨c,rfl,(Option.some.inj this).symm⟩
  subst hcv
  have hck:=(h0a hc).2
  subst hck
  obtain ⟨N1,hN1⟩:∃ H,H=N.set K.next o2:=⟨_,rfl⟩
  rw[← hN1]at hent hr2
  have hN1n:N1.next=N.next:=by rw[hN1];rfl
  have mc1:Made fChange K N1 cv a:=by
   rw[hN1]
   obtain ⟨es,cc,seen,q1,q2,_⟩:=hrg
   exact mc.setX (fun cs e=>by rw[q2]at e;cases e) (Nat.le_refl _)
  obtain ⟨N2,hN2⟩:∃ H,H=N1.push (.row [.int .i32 c.k.t,.int .i64 c.k.r,.int .i64 c.v,.bool c.e] 0 false):=⟨_,rfl⟩
  have eN2:Ext N1 N2:=by rw[hN2];exact Ext.push1 _ _
  have hN2n:N2.next=N.next+1:=by rw[hN2,m0a,hN1n]
  have gN2:N2.get N1.next=some (.row [.int .i32 c.k.t,.int .i64 c.k.r,.int .i64 c.v,.bool c.e] 0 false):=by rw[hN2];exact Zz _ _
  have lc2:Zk N2 N1.next 0 4=some (f1a c):=by rw[Zu gN2 (Nat.le_of_ble_eq_true rfl)];rfl
  have hst:Yx Tryz.prog 99 (.pointer (some ⟨N1.next,0,none⟩)) (.agg #[.int .i32 c.k.t,.int .i64 c.k.r,.int .i64 c.v,.bool c.e]) (N1.push (.row [.int .i32 0,.int .i64 0,.int .i64 0,.bool false] 0 false))=some N2:=by
   rw[hN2]
   exact (p8a rfl).trans (c0a rfl rfl)
  have hwokc:=I.wok c (h0a hc).1
  have hnk2:c.k∉a.map Change.k:=fun hh=>hnk (List.mem_reverse.2 hh)
  have hal2:a.length+1≤st.w.length:=by
   have h1:=B1a (a:=c.k :: a.map Change.k) (b:=st.w.map Change.k) (List.nodup_cons.2 ⟨hnk2,hnd⟩) (fun k hk=>by
    rcases List.mem_cons.1 hk with rfl | hk
    ·exact List.mem_map.2 ⟨c,(h0a hc).1,rfl⟩
    ·obtain ⟨d,hd,rfl⟩:=List.mem_map.1 hk
     exact List.mem_map.2 ⟨d,(h0a (hla d hd)).1,rfl⟩)
   simpa using h1
  obtain ⟨cv',N3,e6,m6,n6,k6⟩:=(mc1.on eN2).snocX B2b (y:=c) (cs:=[.int .i32 c.k.t,.int .i64 c.k.r,.int .i64 c.v,.bool c.e]) (z:=4) rfl rfl (by decide) hwokc (by omega) (by decide)
  have hr3:RngAt ZZ N2 K.next M1.next (G1a Change.k f1a st.w) (c.k :: (a.map Change.k).reverse):=hr2.keep (eN2.get _ (by omega)) (eN2.get _ (by omega))
  have hr4:RngAt ZZ N3 K.next M1.next (G1a Change.k f1a st.w) (c.k :: (a.map Change.k).reverse):=by
   have hr3':=hr3
   obtain ⟨es,cc,seen,q1,q2,_⟩:=hr3'
   exact RngAt.keep hr3 (k6 _ (by omega) (.map q1)) (k6 _ (by omega) (fun cs e=>by rw[q2]at e;cases e))
  simp -implicitDefEqProofs (disch:=first|omega|simp only[go_sem]) only[go_sem,true_and,← hN1,f119,f17,hent,hst,lc2,e6]
  refine hK' (a++[c]) _ ?_ (by rw[List.length_append];simp;omega)
  refine ⟨by trivial,by trivial,(vy f6),(vy f9),(vy f14),(vy f119),show K.next<N3.next by omega,⟨cv',vz,m6⟩,?_,fun d hd=>?_,?_⟩
  ·rw[List.map_append]
   refine List.nodup_append.2 ⟨hnd,by simp,fun p hp q hq=>?_⟩
   simp only[List.map_cons,List.map_nil,List.mem_singleton]at hq
   subst hq
   exact fun e=>hnk2 (e▸hp)
  ·rcases List.mem_append.1 hd with hd | hd
   ·exact hla d hd
   ·rw[List.mem_singleton.1 hd]
    exact hc
  ·rw[List.map_append,List.reverse_append]
   exact hr4
abbrev u8V (n:Int):Value:=.int .u8 n
theorem Pair.ext_iff' {a b:Pair}:a=b↔a.k=b.k∧a.v=b.v:=by cases a;cases b;simp
theorem Change.ext_iff' {a b:Change}:a=b↔a.k=b.k∧a.v=b.v∧a.e=b.e:=by cases a;cases b;simp
theorem T7c {K:DHeap} {e k:Int} {vv cv:Value} {R S:Nat→Prop} {xs:List Int} {cs:List Change} (hv:Sl fI64.rep R K vv xs) (hc:Sl fChange.rep S K cv cs) :
 ∃ K1,Yx Tryz.prog 94 (.pointer (some ⟨K.next,0,none⟩)) (.agg #[.int .i64 e,vv,cv,.int .i64 k]) (K.push (.row [.int .i64 0,YU,YU,.int .i64 0] 0 false))=some K1∧Ext K K1∧K1.get K.next=some (.row [.int .i64 e,vv,cv,.int .i64 k] 0 false)∧K1.next=K.next+1:=by
 have hone:[Value.int .i64 e,vv,cv,.int .i64 k].all Value.oneCell'=true:=by
  obtain ⟨_,_,rfl⟩:=hv.isSlice
  obtain ⟨_,_,rfl⟩:=hc.isSlice
  rfl
 exact ⟨K.push (.row [.int .i64 e,vv,cv,.int .i64 k] 0 false),(M5c rfl).trans (c0a rfl hone),Ext.push1 _ _,Zz _ _,rfl⟩
end Go.Proofs.YtheamfnbfgiaeaaGreat
namespace Go.Proofs.YtheamfnbfgiaeaaGreat
open Go.D
set_option maxRecDepth 100000
def a6a (t:Txn) (vc va vr vw vm:Value) (g:List Int) (vq vo:Value) (n:Int):List Value:=
 .int .i64 t.ses :: .int .i64 t.req :: vc :: va :: vr :: vw :: vm :: (g.map (fun n=>Value.int .i64 n)++[vq,vo,.int .i64 n])
section
variable {t:Txn} {vc va vr vw vm vq vo:Value} {g:List Int} {n:Int}
end
structure n7a (h0:DHeap) (b:Nat) (t:Txn) (vc va vr vw vm:Value) (m:List Pair):Prop where
 lb:b<h0.next
 tx:TxV (fun i=>i<h0.next∧¬ i=b) h0 t vc va vr vw
 len:y6a t
 sm:Sl fPair.rep (fun i=>i<h0.next∧¬ i=b) h0 vm m
 lm:m.length≤1048576
 up:UpB Pair.k m
structure RefI (h0 K:DHeap) (b:Nat) (t:Txn) (vc va vr vw vm:Value) (s:RS) (n:Int) (vq vo:Value) (wq wo:Option Nat):Prop where
 kp:KpD (fun i=>i=b) h0 K
 row:K.get b=some (.row (a6a t vc va vr vw vm s.reg vq vo n) 0 false)
 q:Owns fChange.rep NoS K vq s.w wq
 o:Owns fI64.rep NoS K vo s.out wo
 hq:∀ i,wq=some i→h0.next≤i
 ho:∀ i,wo=some i→h0.next≤i
 len:s.reg.length=8
 ok:∀ n∈s.reg,inK .i64 n
 outn:s.out.length≤8
 wn:s.w.length≤8192
section
variable {h0 K K':DHeap} {b:Nat} {t:Txn} {vc va vr vw vm vq vo vq' vo':Value} {m:List Pair} {s s':RS} {n n':Int} {wq wo:Option Nat}
theorem RefI.ext (C:n7a h0 b t vc va vr vw vm m) (I:RefI h0 K b t vc va vr vw vm s n vq vo wq wo) (e:Ext K K'):RefI h0 K' b t vc va vr vw vm s n vq vo wq wo:=
 ⟨I.kp.ext e,(e.get _ (Nat.lt_of_lt_of_le C.lb I.kp.next)).trans I.row,I.q.mono e.next (fun i hi=>e.get i (I.q.lt i hi)) (fun i hi=>hi.elim),I.o.mono e.next (fun i hi=>e.get i (I.o.lt i hi)) (fun i hi=>hi.elim),I.hq,I.ho,I.len,I.ok,I.outn,I.wn⟩
theorem RefI.tx (C:n7a h0 b t vc va vr vw vm m) (I:RefI h0 K b t vc va vr vw vm s n vq vo wq wo):TxV (InH K) K t vc va vr vw:=
 C.tx.mono fun i hi=>⟨Nat.lt_of_lt_of_le hi.1 I.kp.next,I.kp.get i hi.1 hi.2⟩
theorem RefI.sm (C:n7a h0 b t vc va vr vw vm m) (I:RefI h0 K b t vc va vr vw vm s n vq vo wq wo):Arg fPair.rep K vm m:=
 C.sm.mono fun i hi=>⟨Nat.lt_of_lt_of_le hi.1 I.kp.next,I.kp.get i hi.1 hi.2⟩
theorem RefI.box (C:n7a h0 b t vc va vr vw vm m) (I:RefI h0 K b t vc va vr vw vm s n vq vo wq wo) (hw:s'.w=s.w) (hout:s'.out=s.out) (hl:s'.reg.length=8) (hok:∀ n∈s'.reg,inK .i64 n) :
 RefI h0 (K.set b (.row (a6a t vc va vr vw vm s'.reg vq vo n') 0 false)) b t vc va vr vw vm s' n' vq vo wq wo:=by
 have hlb:=C.lb
 refine ⟨I.kp.set (.inl rfl),Zj _ _,?_,?_,I.hq,I.ho,hl,hok,by rw[hout];exact I.outn,by rw[hw];exact I.wn⟩
 ·rw[hw]
  exact I.q.mono (Nat.le_refl _) (fun i hi=>Zx _ _ (by have:=I.hq i hi;omega)) (fun i hi=>hi.elim)
 ·rw[hout]
  exact I.o.mono (Nat.le_refl _) (fun i hi=>Zx _ _ (by have:=I.ho i hi;omega)) (fun i hi=>hi.elim)
theorem RefI.reg (C:n7a h0 b t vc va vr vw vm m) (I:RefI h0 K b t vc va vr vw vm s n vq vo wq wo) {a v:Int} (hv:inK .i64 v):RefI h0 (K.set b (.row (a6a t vc va vr vw vm (s.reg.set a.toNat v) vq vo n) 0 false)) b t vc va vr vw vm (s.set a v) n vq vo wq wo:=
 I.box C (s':=s.set a v) rfl rfl (by simp[I.len]) fun n hn=>by
  rcases List.mem_or_eq_of_mem_set hn with hn | rfl
  ·exact I.ok n hn
  ·exact hv
theorem RefI.at' (C:n7a h0 b t vc va vr vw vm m) (I:RefI h0 K b t vc va vr vw vm s n vq vo wq wo) (k:Int):RefI h0 (K.set b (.row (a6a t vc va vr vw vm s.reg vq vo k) 0 false)) b t vc va vr vw vm s k vq vo wq wo:=
 I.box C rfl rfl I.len I.ok
theorem RefI.put (C:n7a h0 b t vc va vr vw vm m) (I:RefI h0 K b t vc va vr vw vm s n vq vo wq wo) {c:Change} (hc:fChange.ok c) (hwn:s.w.length<8192) :
 ∃ vq' h2,u0a Tryz.prog #[92,92] vq (.slice (some ⟨K.next,0,none⟩) 1 1) (K.push (.row [.int .i32 c.k.t,.int .i64 c.k.r,.int .i64 c.v,.bool c.e] 4 false))=some (vq',h2)∧vq'.cells=#[vq']∧[vq'].all Value.oneCell'=true ∧
  h2.get b=some (.row (a6a t vc va vr vw vm s.reg vq vo n) 0 false)∧RefI h0 (h2.set b (.row (a6a t vc va vr vw vm s.reg vq' vo n) 0 false)) b t vc va vr vw vm (s.put c) n vq' vo (some (K.next+1)) wo:=by
 obtain ⟨vq',h2,e6,n2,ng2,gg,o3⟩:=I.q.snoc (cs:=[.int .i32 c.k.t,.int .i64 c.k.r,.int .i64 c.v,.bool c.e]) (x:=c) (z:=4) (fun i hi=>hi.elim) ⟨rfl,hc⟩ rfl (by decide) B2b (by omega) (by decide)
 have hlb:=C.lb
 have hkn:=I.kp.next
 have nb:wq≠some b:=fun e=>by have:=I.hq b e;omega
 have gb2:h2.get b=some (.row (a6a t vc va vr vw vm s.reg vq vo n) 0 false):=(gg _ (by omega) nb).trans I.row
 have kp2:KpD (fun i=>i=b) h0 h2:=⟨by omega,ng2.trans I.kp.ng,fun i hi hn=>(gg i (by omega) (fun e=>by have:=I.hq i e;omega)).trans (I.kp.get i hi hn)⟩
 have nwo:∀ i,wo=some i→wq≠some i:=fun i hi=>by
  subst hi
  refine I.q.ne ?_
  rcases I.o with ⟨_,_,e⟩ | ⟨e,_⟩ | ⟨id,cap,cells,_,e,_,g2,_⟩
  ·cases e
  ·cases e
  ·cases e
   exact .row g2 (by decide)
 refine ⟨vq',h2,e6,o3.sl.cells1,by obtain ⟨_,_,rfl⟩:=o3.sl.isSlice;rfl,gb2,⟨kp2.set (.inl rfl),Zj _ _,o3.mono (Nat.le_refl _) (fun i hi=>Zx _ _ (by cases hi;omega)) (fun i hi=>hi.elim),?_,fun i hi=>by cases hi;omega,I.ho,I.len,I.ok,I.outn,?_⟩⟩
 ·exact I.o.mono (show K.next≤h2.next by omega) (fun i hi=>by
   have h1:=I.o.lt i hi
   have h3:=I.ho i hi
   rw[Zx _ _ (by omega)]
   exact gg i h1 (nwo i hi)) (fun i hi=>hi.elim)
 ·show (s.w++[c]).length≤8192
  rw[List.length_append]
  simp
  omega
theorem RefI.ans (C:n7a h0 b t vc va vr vw vm m) (I:RefI h0 K b t vc va vr vw vm s n vq vo wq wo) {y:Int} (hy:inK .i64 y) (hon:s.out.length<8) :
 ∃ vo' h2,u0a Tryz.prog #[23,23] vo (.slice (some ⟨K.next,0,none⟩) 1 1) (K.push (.row [.int .i64 y] 1 false))=some (vo',h2)∧vo'.cells=#[vo']∧[vo'].all Value.oneCell'=true ∧
  h2.get b=some (.row (a6a t vc va vr vw vm s.reg vq vo n) 0 false)∧RefI h0 (h2.set b (.row (a6a t vc va vr vw vm s.reg vq vo' n) 0 false)) b t vc va vr vw vm { s with out:=s.out++[y] } n vq vo' wq (some (K.next+1)):=by
 obtain ⟨vo',h2,e6,n2,ng2,gg,o3⟩:=I.o.snoc (cs:=[.int .i64 y]) (x:=y) (z:=1) (fun i hi=>hi.elim) ⟨rfl,hy⟩ rfl (by decide) z2b (by omega) (by decide)
 have hlb:=C.lb
 have hkn:=I.kp.next
 have nb:wo≠some b:=fun e=>by have:=I.ho b e;omega
 have gb2:h2.get b=some (.row (a6a t vc va vr vw vm s.reg vq vo n) 0 false):=(gg _ (by omega) nb).trans I.row
 have kp2:KpD (fun i=>i=b) h0 h2:=⟨by omega,ng2.trans I.kp.ng,fun i hi hn=>(gg i (by omega) (fun e=>by have:=I.ho i e;omega)).trans (I.kp.get i hi hn)⟩
 have nwq:∀ i,wq=some i→wo≠some i:=fun i hi=>by
  subst hi
  refine I.o.ne ?_
  rcases I.q with ⟨_,_,e⟩ | ⟨e,_⟩ | ⟨id,cap,cells,_,e,_,g2,_⟩
  ·cases e
  ·cases e
  ·cases e
   exact .row g2 (by decide)
 refine ⟨vo',h2,e6,o3.sl.cells1,by obtain ⟨_,_,rfl⟩:=o3.sl.isSlice;rfl,gb2,⟨kp2.set (.inl rfl),Zj _ _,?_,o3.mono (Nat.le_refl _) (fun i hi=>Zx _ _ (by cases hi;omega)) (fun i hi=>hi.elim),I.hq,fun i hi=>by cases hi;omega,I.len,I.ok,?_,I.wn⟩⟩
 ·exact I.q.mono (show K.next≤h2.next by omega) (fun i hi=>by
   have h1:=I.q.lt i hi
   have h3:=I.hq i hi
   rw[Zx _ _ (by omega)]
   exact gg i h1 (nwq i hi)) (fun i hi=>hi.elim)
 ·show (s.out++[y]).length≤8
  rw[List.length_append]
  simp
  omega
theorem RefI.wok (I:RefI h0 K b t vc va vr vw vm s n vq vo wq wo):∀ c∈s.w,fChange.ok c:=I.q.sl.ok
end
end Go.Proofs.YtheamfnbfgiaeaaGreat
namespace Go.Proofs.YtheamfnbfgiaeaaGreat
open Go.D
set_option maxRecDepth 100000
def StepR (h0:DHeap) (b:Nat) (t:Txn) (vc va vr vw vm:Value) (m:List Pair) (x:Instr) (s:RS) (nx:Int) (r:DEnd) (h1:DHeap):Prop:=
 ∃ e s' j n' vq vo wq wo,ZY t m x s=(e,s',j)∧RefI h0 h1 b t vc va vr vw vm s' n' vq vo wq wo∧r=.ret (.tuple #[.bool (!decide (e=-1)),.int .i64 (if e=-1 then 0 else e)])∧(j=none→n'=nx)∧∀ a,j=some a→n'=a
section
variable {h0 h1:DHeap} {b:Nat} {t:Txn} {vc va vr vw vm vq vo:Value} {m:List Pair} {x:Instr} {s s':RS} {nx e:Int} {wq wo:Option Nat}
theorem StepR.go (E:ZY t m x s=(-1,s',none)) (I:RefI h0 h1 b t vc va vr vw vm s' nx vq vo wq wo):StepR h0 b t vc va vr vw vm m x s nx (.ret (.tuple #[.bool false,.int .i64 0])) h1:=
 ⟨_,_,_,_,_,_,_,_,E,I,rfl,fun _=>rfl,fun a ha=>by cases ha⟩
theorem StepR.jump {a:Int} (E:ZY t m x s=(-1,s',some a)) (I:RefI h0 h1 b t vc va vr vw vm s' a vq vo wq wo):StepR h0 b t vc va vr vw vm m x s nx (.ret (.tuple #[.bool false,.int .i64 0])) h1:=
 ⟨_,_,_,_,_,_,_,_,E,I,rfl,fun ha=>(by cases ha),fun b hb=>by cases hb;rfl⟩
theorem StepR.stop (E:ZY t m x s=(e,s',none)) (he:e ≠ -1) (I:RefI h0 h1 b t vc va vr vw vm s' nx vq vo wq wo):StepR h0 b t vc va vr vw vm m x s nx (.ret (.tuple #[.bool true,.int .i64 e])) h1:=
 ⟨_,_,_,_,_,_,_,_,E,I,by rw[decide_eq_false he,if_neg he];rfl,fun _=>rfl,fun a ha=>by cases ha⟩
end
end Go.Proofs.YtheamfnbfgiaeaaGreat
namespace Go.Proofs.YtheamfnbfgiaeaaGreat
open Go.D
set_option maxRecDepth 100000
theorem Q7b {t:Txn} {l k:List Pair} {f:Int} (h:Q2a t l=Q2a t k):b4a t l f=b4a t k f:=by
 unfold b4a
 rw[h]
end Go.Proofs.YtheamfnbfgiaeaaGreat
