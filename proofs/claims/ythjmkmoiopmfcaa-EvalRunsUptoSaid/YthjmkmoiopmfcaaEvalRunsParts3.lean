/-
A part of the proof of a law: contracts of functions over plain heaps, and what they lean on. Conditions: none.
-/
import Derived.Sort.Statements
import Derived.Shelf.SlSortCmp.WholeK
import Derived.Test.YthjmkmoiopmfcaaBase1
import Derived.Test.YthjmkmoiopmfcaaBase2
import Derived.Test.YthjmkmoiopmfcaaEvalRunsParts1
import Derived.Test.YthjmkmoiopmfcaaEvalRunsParts2
set_option linter.unusedSimpArgs false
set_option linter.unusedVariables false
namespace Go.D
variable {P:Program}
structure SetT (P:Program) (t:TypeId) (k:IntKind):Prop where
 map:∃ kt et,P.underlying t=some (.map kt et)∧P.underlying kt=some (.int k)∧zeroOf P et=some (.bool false)
def SetAt (k:IntKind) (h:DHeap) (id:Nat) (ks:List Int):Prop:=
 ∃ es c,h.get id=some (.map es c)∧(∀ e∈es,∃ n,e.key=.int k n∧e.val=.bool true)∧∀ n,n∈ks↔∃ e∈es,e.key=.int k n
theorem findNow_int {k:IntKind} {n:Int}:∀ {es:List MapEntry} {i:Nat},(∀ e∈es,∃ m,e.key=.int k m∧e.val=.bool true) →
 (∃ j,Instr.findNow (.int k) (.int k n) es i=some (some (j,.bool true))∧i≤j∧∃ e,es[j - i]? = some e∧e.key=.int k n)∨(Instr.findNow (.int k) (.int k n) es i=some none∧∀ e∈es,e.key≠.int k n)
 | [],i,_=>.inr ⟨rfl,fun e he=>by simp at he⟩
 | e :: es,i,h=>by
   obtain ⟨m,h1,h2⟩:=h e (by simp)
   have ih:=findNow_int (k:=k) (n:=n) (es:=es) (i:=i+1) fun e he=>h e (by simp[he])
   simp only[Instr.findNow,h1,Instr.sameNow,if_true]
   by_cases hm:n=m
   ·subst hm
    refine .inl ⟨i,by simp[h2],Nat.le_refl _,e,by simp,h1⟩
   ·have:(n==m)=false:=by simpa using hm
    rw[this]
    rcases ih with ⟨j,a,b,e',c,d⟩ | ⟨a,b⟩
    ·exact .inl ⟨j,a,by omega,e',by rw[show j - i=(j - (i+1))+1 by omega];exact c,d⟩
    ·refine .inr ⟨a,fun e' he=>?_⟩
     rcases List.mem_cons.1 he with rfl | he
     ·rw[h1]
      intro hh
      cases hh
      exact hm rfl
     ·exact b e' he
theorem quick_und {t:TypeId} {d:TypeDesc} (hu:P.underlying t=some d):quick P (underlying t)=some (.inr d):=by
 simp only[underlying,program,Bind.bind,Sem.bind,quick,hu]
 rfl
theorem checkKey_intN {kt:TypeId} {k:IntKind} (hu:P.underlying kt=some (.int k)) (b:Bool) (n:Int) (m:Nat):quick P (Instr.checkKey b (m+1) kt (.int k n))=some (.inr ()):=by
 unfold Instr.checkKey
 rw[quick_bind (quick_und hu)]
 rfl
theorem checkKey_int {kt:TypeId} {k:IntKind} (hu:P.underlying kt=some (.int k)) (b:Bool) (n:Int):∃ u,quick P (Instr.checkKey b 10000 kt (.int k n))=some (.inr u):=⟨(),checkKey_intN hu b n 9999⟩
theorem sameBits_int {k:IntKind} {n:Int} (m:Nat):Instr.sameBits (m+1) (.int k n) (.int k n)=true:=by simp[Instr.sameBits]
theorem SetAt.lookup {t:TypeId} {k:IntKind} {h:DHeap} {id:Nat} {ks:List Int} (T:SetT P t k) (a:SetAt k h id ks) (n:Int):dLookup P t (.map (some id)) (.int k n) false h=some (.bool (decide (n∈ks))):=by
 obtain ⟨kt,et,u1,u2,u3⟩:=T.map
 obtain ⟨es,c,g,e1,e2⟩:=a
 obtain ⟨u,hck⟩:=checkKey_int (P:=P) u2 es.isEmpty n
 have hm:dMapEs (.map (some id)) h=some es:=by simp only[dMapEs,g]
 have hf3:flat3 (.int k n)=true:=rfl
 simp only[dLookup,u1,hm,hf3,if_true,hck]
 rcases findNow_int (k:=k) (n:=n) (es:=es) (i:=0) e1 with ⟨j,a,_,e,c,d⟩ | ⟨a,b⟩
 ·have hfd:dFind P kt (.int k n) es=some (some j):=by simp only[dFind,u2,a];rfl
  rw[Nat.sub_zero]at c
  obtain ⟨m,h1,h2⟩:=e1 e (List.mem_of_getElem? c)
  rw[decide_eq_true ((e2 n).2 ⟨e,List.mem_of_getElem? c,d⟩)]
  simp only[hfd,c,h2]
  rfl
 ·have hfd:dFind P kt (.int k n) es=some none:=by simp only[dFind,u2,a];rfl
  rw[decide_eq_false (fun hh=>by
   obtain ⟨e,he,hk⟩:=(e2 n).1 hh
   exact b e he hk)]
  simp only[hfd,u3]
  rfl
theorem SetAt.update {t:TypeId} {k:IntKind} {h:DHeap} {id:Nat} {ks:List Int} (T:SetT P t k) (a:SetAt k h id ks) (n:Int):∃ o,dMapUpdate P t (.map (some id)) (.int k n) (.bool true) h=some (h.set id o)∧SetAt k (h.set id o) id (ks++[n]):=by
 obtain ⟨kt,et,u1,u2,u3⟩:=T.map
 obtain ⟨es,c,g,e1,e2⟩:=a
 obtain ⟨u,hck⟩:=checkKey_int (P:=P) u2 false n
 have hf3:flat3 (.int k n)=true:=rfl
 simp only[dMapUpdate,u1,g,hf3,if_true,hck]
 rcases findNow_int (k:=k) (n:=n) (es:=es) (i:=0) e1 with ⟨j,a,_,e,c',d⟩ | ⟨a,b⟩
 ·have hfd:dFind P kt (.int k n) es=some (some j):=by simp only[dFind,u2,a];rfl
  rw[Nat.sub_zero]at c'
  have hsb:Instr.sameBits 10000 e.key (.int k n)=true:=by
   rw[d]
   exact sameBits_int 9999
  simp only[hfd,c',hsb,if_true]
  refine ⟨_,rfl,_,_,get_set_same _ _,fun e' he=>?_,fun m=>?_⟩
  ·rcases List.mem_or_eq_of_mem_set he with he | he
   ·exact e1 e' he
   ·exact ⟨n,by rw[he],by rw[he]⟩
  ·rw[List.mem_append,e2 m]
   constructor
   ·rintro (⟨e',he,hk⟩ | hm)
    ·obtain ⟨i,hi⟩:=List.mem_iff_getElem?.1 he
     by_cases hij:j=i
     ·subst hij
      rw[c']at hi
      cases hi
      rw[d]at hk
      cases hk
      exact ⟨{ e with key:=.int k n,val:=.bool true },List.mem_iff_getElem?.2 ⟨j,by rw[List.getElem?_set,if_pos rfl,if_pos (List.getElem?_eq_some_iff.1 c').1]⟩,rfl⟩
     ·exact ⟨e',List.mem_iff_getElem?.2 ⟨i,by rw[List.getElem?_set,if_neg hij];exact hi⟩,hk⟩
    ·simp only[List.mem_singleton]at hm
     subst hm
     exact ⟨{ e with key:=.int k m,val:=.bool true },List.mem_iff_getElem?.2 ⟨j,by rw[List.getElem?_set,if_pos rfl,if_pos (List.getElem?_eq_some_iff.1 c').1]⟩,rfl⟩
   ·rintro ⟨e',he,hk⟩
    rcases List.mem_or_eq_of_mem_set he with he | he
    ·exact .inl ⟨e',he,hk⟩
    ·rw[he]at hk
     cases hk
     exact .inr (by simp)
 ·have hfd:dFind P kt (.int k n) es=some none:=by simp only[dFind,u2,a];rfl
  simp only[hfd]
  refine ⟨_,rfl,_,_,get_set_same _ _,fun e' he=>?_,fun m=>?_⟩
  ·rcases List.mem_append.1 he with he | he
   ·exact e1 e' he
   ·simp only[List.mem_singleton]at he
    exact ⟨n,by rw[he],by rw[he]⟩
  ·rw[List.mem_append,e2 m]
   constructor
   ·rintro (⟨e',he,hk⟩ | hm)
    ·exact ⟨e',by simp[he],hk⟩
    ·simp only[List.mem_singleton]at hm
     subst hm
     exact ⟨_,List.mem_append.2 (.inr (List.mem_singleton.2 rfl)),rfl⟩
   ·rintro ⟨e',he,hk⟩
    rcases List.mem_append.1 he with he | he
    ·exact .inl ⟨e',he,hk⟩
    ·simp only[List.mem_singleton]at he
     rw[he]at hk
     cases hk
     exact .inr (by simp)
theorem SetAt.keep {k:IntKind} {h h':DHeap} {id:Nat} {ks:List Int} (a:SetAt k h id ks) (hg:h'.get id=h.get id):SetAt k h' id ks:=by
 obtain ⟨es,c,g,e⟩:=a
 exact ⟨es,c,hg.trans g,e⟩
theorem SetAt.new {k:IntKind} {h:DHeap}:SetAt k (h.push (.map [] 0)) h.next []:=⟨[],0,get_push_same _ _,by simp,by simp⟩
theorem XLoop_cut {nt id:Nat} {c:Code} {K:St→Prop} {Q:DExit→St→Prop} {s:St} (M:St→Prop) (h1:XLoop P nt c (DBlock id (DThen M Q)) s) (h3:∀ s',M s'→K s'):XLoop P nt c (DBlock id (DThen K Q)) s:=xblock_cut (c:=.loop c) M h1 h3
end Go.D

namespace Go.Proofs.Ythjmkmoiopmfcaa
open Go.D
set_option maxRecDepth 100000
def failV (e:Int):Value:=.iface 125 (.agg #[.int .i64 e])
theorem failV_vin {S:Nat→Prop} (e:Int):VIn S (failV e):=.iface (.agg fun v hv=>by simp at hv;subst hv;exact .int _ _)
theorem bd_fail (e:Int):dBuild Try.prog 125 [(0,.int .i64 e)]=some (.agg #[.int .i64 e]):=dBuild_at plc_125 rfl
theorem must_no {h:DHeap}:DC Try.prog 62 [.int .i64 0] h (.ret (.tuple #[])) h:=by
 refine Ct.pure (go_62 (by simp) ?_) (.tuple fun v hv=>by simp at hv)
 simp -implicitDefEqProofs (disch:=first|omega|simp only[go_sem]) only[go_sem,true_and,c62]
 exact ⟨_,rfl,rfl,.refl h⟩
theorem must_yes {h:DHeap} {e:Int} (he:e≠0):DC Try.prog 62 [.int .i64 e] h (.pan (failV e)) h:=by
 refine Ct.purePan (go_62 (by simp) ?_) (failV_vin e)
 simp -implicitDefEqProofs (disch:=first|omega|simp only[go_sem]) only[go_sem,true_and,c62,bd_fail,he]
 exact ⟨rfl,.refl h⟩
theorem all_c {h:DHeap} {v:Value} {l:List Int} (hb:Arg fU8.rep h v l) (hl:l.length≤1048576) :
 Ct Try.prog 60 [v] h fun r h1=>((walkAt l 0).2=0∧∃ w,r=.ret w∧Made fInstr h h1 w (walkAt l 0).1)∨((walkAt l 0).2≠0∧r=.pan (failV (walkAt l 0).2)∧Ext h h1):=by
 refine go_60 (by simp) ?_
 have el:∀ K,dLen Try.prog #[22] v K=some (.int .i64 (l.length:Nat)):=hb.lens (P:=Try.prog) (ts:=#[22]) (t:=22) rfl isl_22
 have hbl:=bytes_le hb
 simp -implicitDefEqProofs (disch:=first|omega|simp only[go_sem]) only[go_sem,true_and,c60]
 refine xloop (σ:=Nat × List Instr) (by kernel_rfl) (fun a s=>s.df=[]∧s.rd=none∧s.fr 0=some v∧s.fr 4=some (.int .i64 (a.1:Nat))∧(∃ w,s.fr 3=some w∧Made fInstr h s.h w a.2)∧a.1≤l.length∧a.2.length≤a.1∧walkAt l 0=(a.2++(walkAt l a.1).1,(walkAt l a.1).2)) (fun a=>l.length - a.1) (0,[]) ?_ ?_
 ·simp -implicitDefEqProofs (disch:=first|omega|simp only[go_sem]) only[go_sem,true_and]
  exact ⟨rfl,⟨_,rfl,.nil _ (.refl h)⟩,Nat.zero_le _,Nat.le_refl _,trivial⟩
 ·rintro ⟨i,acc⟩ ⟨fr,df,K,rd⟩ K' hK' hX ⟨rfl,hrd,f0,f4,⟨w,f3,hm⟩,hi,hal,hw⟩
  simp only at hrd f0 f4 f3 hm hi hal hw
  subst hrd
  have hE:=hm.ext
  simp -implicitDefEqProofs (disch:=first|omega|simp only[go_sem]) only[go_sem,true_and,f0,f4,el]
  refine XIf_dec (fun hc1=>?_) (fun hc1=>?_)
  ·have hil:i<l.length:=by omega
   have hst:=walkAt_step hil
   simp -implicitDefEqProofs (disch:=first|omega|simp only[go_sem]) only[go_sem,true_and,f0,f4]
   refine ncall (one_c (hb.ext hE) (by omega) (by omega)) ?_
   obtain ⟨x,hx⟩:∃ x,(oneT l i).1=x:=⟨_,rfl⟩
   obtain ⟨K1,hK1⟩:∃ K1,K1=K.push (.row (fInstr.enc x) 0 false):=⟨_,rfl⟩
   have g:K1.get K.next=some (.row (fInstr.enc x) 0 false):=by rw[hK1];exact get_push_same _ _
   have lc:cellsAt K1 K.next 0 5=some (instrV x):=by rw[cellsAt_row g (Nat.le_of_ble_eq_true rfl)];rfl
   have hm1:Made fInstr h K1 w acc:=hm.on (by rw[hK1];exact Ext.push1 _ _)
   rw[hx]
   have s5:=store5 (h:=K) (x:=x)
   rw[← hK1]at s5
   by_cases he:(oneT l i).2.2=0
   ·obtain ⟨e1,e2,_,e4,e5⟩:=oneT_next he
    have hok:=oneT_ok (by omega) hbl he
    rw[hx]at hok
    rw[if_pos he,hx]at hst
    obtain ⟨nx,hnx⟩:∃ nx:Nat,(oneT l i).2.1=nx:=⟨(oneT l i).2.1.toNat,by omega⟩
    rw[hnx]at hst ⊢
    rw[he]
    have hbs:∀ K:DHeap,dBuildSlice Try.prog 74 1 [(0,instrV x)] K=some (.slice (some ⟨K.next,0,none⟩) 1 1,K.push (.row (fInstr.enc x) 5 false)):=fun K=>bs1_74 rfl
    obtain ⟨w2,h2,e6,m2⟩:=hm1.snoc app_74 (y:=x) (cs:=fInstr.enc x) (z:=5) rfl rfl hok (by omega) (by decide)
    simp -implicitDefEqProofs (disch:=first|omega|simp only[go_sem]) only[go_sem,true_and,s5]
    refine ncall must_no ?_
    simp -implicitDefEqProofs (disch:=first|omega|simp only[go_sem]) only[go_sem,true_and,f3,lc,hbs,e6]
    refine hK' (nx,acc++[x]) _ ?_ (by simp only;omega)
    refine ⟨by trivial,by trivial,(vy f0),vz,⟨w2,vz,m2⟩,by simp only;omega,by simp;omega,?_⟩
    rw[hw,hst]
    simp
   ·rw[if_neg he]at hst
    simp -implicitDefEqProofs (disch:=first|omega|simp only[go_sem]) only[go_sem,true_and,s5]
    refine ncall_pan (must_yes he) ?_
    refine hX _ _ (by simp) ?_
    simp -implicitDefEqProofs (disch:=first|omega|simp only[go_sem]) only[go_sem,true_and]
    refine .inr ⟨?_,?_,hm1.ext⟩
    ·rw[hw,hst];exact he
    ·rw[hw,hst]
  ·refine hX _ _ (by simp) ?_
   simp -implicitDefEqProofs (disch:=first|omega|simp only[go_sem]) only[go_sem,true_and,f3]
   have:=walkAt_end (l:=l) (i:=i) (by omega)
   refine ⟨_,rfl,.inl ⟨?_,w,rfl,?_⟩⟩
   ·rw[hw,this]
   ·rw[hw,this,List.append_nil];exact hm
theorem caught_c {h:DHeap} {e:Int}:DC Try.prog 59 [failV e] h (.ret (.int .i64 e)) h:=by
 refine Ct.pure (go_59 (by simp) ?_) (vin_int _ _)
 simp -implicitDefEqProofs (disch:=first|omega|simp only[go_sem]) only[go_sem,true_and,c59,failV,store1_push (v:=.int .i64 e) rfl,cell1_push]
 exact ⟨_,rfl,rfl,Ext.push1 _ _⟩
theorem neq_fail {e:Int} {ox oy:Operand} {h:DHeap}:dBinOp Try.prog .neq 20 ox oy (failV e) .nilIface h=.ok (.value (.bool true)) h:=by
 kernel_rfl
theorem neq_none {i:Nat} {h:DHeap}:dBinOp Try.prog .neq 20 (T i) (.const .nilIface) .nilIface .nilIface h=.ok (.value (.bool false)) h:=by
 kernel_rfl
theorem dec_ret {h:DHeap} {x y:Value}:DCD Try.prog 58 [x,y] .ret h .ret h:=by
 refine DCD_recN (fn:=Try.f58) (rs:=[]) (by kernel_rfl) body_58 (by kernel_rfl) (by kernel_rfl) (n:=8) (Nat.le_of_ble_eq_true rfl) (by kernel_rfl) (.refl h) ?_
 simp only[XOpsR]
 simp -implicitDefEqProofs (disch:=first|omega|simp only[go_sem]) only[go_sem,true_and,dBuiltin_recover,neq_none]
 exact ⟨rfl,trivial⟩
theorem dec_pan {h:DHeap} {a b:Nat} {e:Int} {c d:Value} {z y:Nat} (ha:h.get a=some (.row [c] z false)) (hb:h.get b=some (.row [d] y false)) (hab:b≠a) :
 DCD Try.prog 58 [.pointer (some ⟨a,0,none⟩),.pointer (some ⟨b,0,none⟩)] (.pan (failV e)) h (.recd (failV e)) ((h.set a (.row [.slice none 0 0] z false)).set b (.row [.int .i64 e] y false)):=by
 refine DCD_recN (fn:=Try.f58) (rs:=[]) (by kernel_rfl) body_58 (by kernel_rfl) (by kernel_rfl) (n:=8) (Nat.le_of_ble_eq_true rfl) (by kernel_rfl) ((HStep.set _ _ _).trans (HStep.set _ _ _)) ?_
 simp only[XOpsR]
 have w1:=storeAt_row (o:=0) (vs:=[.slice none 0 0]) ha (Nat.le_of_ble_eq_true rfl) rfl
 have w2:=storeAt_row (o:=0) (vs:=[.int .i64 e]) ((get_set_other _ _ hab).trans hb:(h.set a (.row (setAt [c] 0 [.slice none 0 0]) z false)).get b=_) (Nat.le_of_ble_eq_true rfl) rfl
 have tc:=caught_c (h:=h) (e:=e)
 simp -implicitDefEqProofs (disch:=first|omega|simp only[go_sem]) only[go_sem,true_and,dBuiltin_recover,neq_fail]
 refine ncall tc ?_
 simp -implicitDefEqProofs (disch:=first|omega|simp only[go_sem]) only[go_sem,true_and,w1,w2]
 exact ⟨rfl,rfl⟩
end Go.Proofs.Ythjmkmoiopmfcaa

namespace Go.Proofs.Ythjmkmoiopmfcaa
open Go.D
set_option maxRecDepth 100000
def targetsOk (xs:List Instr):Bool:=xs.all fun x=>!jumpsB x.op||decide (x.imm∈xs.map (·.pos))
def decE (l:List Int):Int:=if 512<l.length then 3 else if (walkAt l 0).2≠0 then (walkAt l 0).2 else if targetsOk (walkAt l 0).1 then 0 else 131
def decL (l:List Int):List Instr:=if decE l=0 then (walkAt l 0).1 else []
theorem instr_idx {S:Nat→Prop} {h:DHeap} {v:Value} {l:List Instr} {i:Nat} (hb:Sl fInstr.rep S h v l) (hi:i<l.length) :
 ∃ id o,dIndexAddr Try.prog 74 v (.int .i64 (i:Nat))=some (.pointer (some ⟨id,o,none⟩))∧cellsAt h id o 5=some (instrV l[i])∧cellAt h id (o+0)=some (.int .i64 l[i].pos)∧cellAt h id (o+1)=some (.int .i64 l[i].op)∧cellAt h id (o+4)=some (.int .i64 l[i].imm):=by
 obtain ⟨id,o,g,hs,hat⟩:=hb.idx (P:=Try.prog) (t:=74) el_74 (k:=.i64) (List.getElem?_eq_getElem hi)
 obtain ⟨a,b,_⟩:=hat.flat
 exact ⟨id,o,g,b,a 0 (by decide),a 1 (by decide),a 4 (by decide)⟩
theorem refBegins_c {h:DHeap} {v:Value} {l:List Instr} {n:Int} (hb:Arg fInstr.rep h v l) (hl:l.length≤1048576) :
 DC Try.prog 84 [v,.int .i64 n] h (.ret (.bool (decide (n∈l.map (·.pos))))) h:=by
 refine Ct.pure (go_84 (by simp) ?_) (vin_bool _)
 have el:∀ K,dLen Try.prog #[74] v K=some (.int .i64 (l.length:Nat)):=hb.lens (P:=Try.prog) (ts:=#[74]) (t:=74) rfl isl_74
 simp -implicitDefEqProofs (disch:=first|omega|simp only[go_sem]) only[go_sem,true_and,c84]
 refine xloop (σ:=Nat) (by kernel_rfl) (fun i s=>s.df=[]∧s.h=h∧s.fr 0=some v∧s.fr 1=some (.int .i64 n)∧s.fr 5=some (.int .i64 (i:Nat))∧i≤l.length∧∀ j,j<i→∀ x,l[j]? = some x→x.pos≠n) (fun i=>l.length - i) 0 ?_ ?_
 ·simp -implicitDefEqProofs (disch:=first|omega|simp only[go_sem]) only[go_sem,true_and]
  exact ⟨rfl,Nat.zero_le _,fun j hj=>absurd hj (Nat.not_lt_zero j)⟩
 ·rintro i ⟨fr,df,K,rd⟩ K' hK' hX ⟨rfl,rfl,f0,f1,f5,hi,hn⟩
  simp only at f0 f1 f5
  simp -implicitDefEqProofs (disch:=first|omega|simp only[go_sem]) only[go_sem,true_and,f0,f5,el]
  refine XIf_dec (fun hc1=>?_) (fun hc1=>?_)
  ·have hj:i<l.length:=by omega
   obtain ⟨id,o,g,_,c0,_,_⟩:=instr_idx hb hj
   rw[Nat.add_zero]at c0
   have hw1:=wrap_succ hj (by omega)
   simp -implicitDefEqProofs (disch:=first|omega|simp only[go_sem]) only[go_sem,true_and,f0,f1,f5,g,c0]
   by_cases he:l[i].pos=n
   ·have he':=eq_true he
    simp -implicitDefEqProofs (disch:=first|omega|simp only[go_sem]) only[go_sem,true_and,he']
    refine hX _ _ (by simp) ?_
    simp -implicitDefEqProofs (disch:=first|omega|simp only[go_sem]) only[go_sem,true_and]
    refine ⟨_,rfl,?_,.refl _⟩
    rw[decide_eq_true (List.mem_map.2 ⟨l[i],List.getElem_mem hj,he⟩)]
   ·simp -implicitDefEqProofs (disch:=first|omega|simp only[go_sem]) only[go_sem,true_and,he,f5,hw1]
    refine hK' (i+1) _ ?_ (by omega)
    refine ⟨by trivial,by trivial,(vy f0),(vy f1),vz,by omega,fun j hj2 x hx=>?_⟩
    by_cases hji:j=i
    ·subst hji
     rw[List.getElem?_eq_getElem hj]at hx
     cases hx
     exact he
    ·exact hn j (by omega) x hx
  ·refine hX _ _ (by simp) ?_
   simp -implicitDefEqProofs (disch:=first|omega|simp only[go_sem]) only[go_sem,true_and]
   refine ⟨_,rfl,?_,.refl _⟩
   rw[decide_eq_false (fun hh=>by
    obtain ⟨x,hx,hp⟩:=List.mem_map.1 hh
    obtain ⟨j,hj⟩:=List.mem_iff_getElem?.1 hx
    exact hn j (by have:=(List.getElem?_eq_some_iff.1 hj).1;omega) x hj hp)]
def jumpsSo (l:List Instr) (i:Nat):Prop:=∀ j x,j<i→l[j]? = some x→jumpsB x.op=true→x.imm∈l.map (·.pos)
theorem targets_all {l:List Instr} (h:jumpsSo l l.length):targetsOk l=true:=by
 unfold targetsOk
 rw[List.all_eq_true]
 intro x hx
 obtain ⟨j,hj⟩:=List.mem_iff_getElem?.1 hx
 cases hb:jumpsB x.op with
 | false=>rfl
 | true=>simpa using h j x (List.getElem?_eq_some_iff.1 hj).1 hj hb
theorem targets_bad {l:List Instr} {x:Instr} (hx:x∈l) (hb:jumpsB x.op=true) (hm:x.imm∉l.map (·.pos)):targetsOk l=false:=by
 unfold targetsOk
 rw[List.all_eq_false]
 exact ⟨x,hx,by simp[hb];simpa using hm⟩
theorem jumpsSo_succ {l:List Instr} {i:Nat} (hi:i<l.length) (h:jumpsSo l i) (hx:jumpsB l[i].op=true→l[i].imm∈l.map (·.pos)):jumpsSo l (i+1):=by
 intro j x hj hjx hb
 by_cases hji:j=i
 ·subst hji
  rw[List.getElem?_eq_getElem hi]at hjx
  cases hjx
  exact hx hb
 ·exact h j x (by omega) hjx hb
theorem refDecode_c {h:DHeap} {v:Value} {l:List Int} (hb:Arg fU8.rep h v l) (hl:l.length≤1048576) :
 Ct Try.prog 66 [v] h fun r h1=>∃ w,r=.ret (.tuple #[w,.int .i64 (decE l)])∧Ext h h1∧Arg fInstr.rep h1 w (decL l):=by
 refine go_66 (by simp) ?_
 have el:∀ K,dLen Try.prog #[22] v K=some (.int .i64 (l.length:Nat)):=hb.lens (P:=Try.prog) (ts:=#[22]) (t:=22) rfl isl_22
 by_cases h0:(512:Int)<(l.length:Nat)
 ·have h0':=eq_true h0
  have hE:decE l=3:=by rw[decE,if_pos (by omega)]
  simp -implicitDefEqProofs (disch:=first|omega|simp only[go_sem]) only[go_sem,true_and,c66,el,h0']
  refine ⟨_,rfl,_,by rw[hE],.refl _,?_⟩
  rw[decL,hE]
  exact .nil _ _ _
 have hE0:decE l=if (walkAt l 0).2≠0 then (walkAt l 0).2 else if targetsOk (walkAt l 0).1 then 0 else 131:=by rw[decE,if_neg (by omega)]
 simp -implicitDefEqProofs (disch:=first|omega|simp only[go_sem]) only[go_sem,true_and,c66,el,h0]
 refine ncall_ct (refWalk_c hb hl) ?_
 rintro r h1 ⟨w,rfl,hm⟩
 have hlen:=walkAt_len (l:=l) (n:=l.length) (i:=0) (by omega)
 obtain ⟨xs,hxs⟩:∃ xs,(walkAt l 0).1=xs:=⟨_,rfl⟩
 obtain ⟨e,he⟩:∃ e,(walkAt l 0).2=e:=⟨_,rfl⟩
 rw[hxs]at hm hlen
 rw[hxs,he]at hE0
 rw[he]
 have hEx:=hm.ext
 by_cases h1e:e=0
 case neg=>
  rw[if_pos h1e]at hE0
  simp -implicitDefEqProofs (disch:=first|omega|simp only[go_sem]) only[go_sem,true_and,XEnd,h1e]
  refine ⟨_,rfl,_,by rw[hE0],hEx,?_⟩
  rw[decL,hE0,if_neg h1e]
  exact .nil _ _ _
 rw[if_neg (fun hh=>hh h1e)]at hE0
 have h1e':=eq_true h1e
 have elw:∀ K,dLen Try.prog #[74] w K=some (.int .i64 (xs.length:Nat)):=hm.arg.lens (P:=Try.prog) (ts:=#[74]) (t:=74) rfl isl_74
 simp -implicitDefEqProofs (disch:=first|omega|simp only[go_sem]) only[go_sem,true_and,XEnd,h1e']
 refine xloop (σ:=Nat) (by kernel_rfl) (fun i s=>s.df=[]∧s.h=h1∧s.fr 4=some w∧s.fr 6=some (.int .i64 (i:Nat))∧i≤xs.length∧jumpsSo xs i) (fun i=>xs.length - i) 0 ?_ ?_
 ·simp -implicitDefEqProofs (disch:=first|omega|simp only[go_sem]) only[go_sem,true_and]
  exact ⟨rfl,Nat.zero_le _,fun j x hj=>absurd hj (Nat.not_lt_zero j)⟩
 ·rintro i ⟨fr,df,K,rd⟩ K' hK' hX ⟨rfl,rfl,f4,f6,hi,hso⟩
  simp only at f4 f6
  simp -implicitDefEqProofs (disch:=first|omega|simp only[go_sem]) only[go_sem,true_and,f4,f6,elw]
  refine XIf_dec (fun hc1=>?_) (fun hc1=>?_)
  ·have hj:i<xs.length:=by omega
   obtain ⟨id,o,g,_,_,c1,c4⟩:=instr_idx hm.arg hj
   have hw1:=wrap_succ hj (by omega)
   simp -implicitDefEqProofs (disch:=first|omega|simp only[go_sem]) only[go_sem,true_and,f4,f6,g,c1]
   refine ncall refJumps_c ?_
   by_cases hjb:jumpsB xs[i].op=true
   case neg=>
    have hjb':jumpsB xs[i].op=false:=by simpa using hjb
    simp -implicitDefEqProofs (disch:=first|omega|simp only[go_sem]) only[go_sem,true_and,hjb',dPick_t,dPick_f,f6,hw1]
    refine hK' (i+1) _ ?_ (by omega)
    exact ⟨by trivial,by trivial,(vy f4),vz,by omega,jumpsSo_succ hj hso fun hh=>absurd hh hjb⟩
   simp -implicitDefEqProofs (disch:=first|omega|simp only[go_sem]) only[go_sem,true_and,hjb,f4,f6,g,c4]
   refine ncall (refBegins_c hm.arg (by omega)) ?_
   by_cases hin:xs[i].imm∈xs.map (·.pos)
   ·rw[decide_eq_true hin]
    simp -implicitDefEqProofs (disch:=first|omega|simp only[go_sem]) only[go_sem,true_and,dPick_t,dPick_f,f6,hw1]
    refine hK' (i+1) _ ?_ (by omega)
    exact ⟨by trivial,by trivial,(vy f4),vz,by omega,jumpsSo_succ hj hso fun _=>hin⟩
   ·rw[decide_eq_false hin]
    simp -implicitDefEqProofs (disch:=first|omega|simp only[go_sem]) only[go_sem,true_and,dPick_t,dPick_f]
    rw[targets_bad (List.getElem_mem hj) hjb hin]at hE0
    simp only[Bool.false_eq_true,if_false]at hE0
    refine hX _ _ (by simp) ?_
    simp -implicitDefEqProofs (disch:=first|omega|simp only[go_sem]) only[go_sem,true_and]
    refine ⟨_,rfl,_,by rw[hE0],hEx,?_⟩
    rw[decL,hE0]
    exact .nil _ _ _
  ·obtain rfl:i=xs.length:=by omega
   rw[targets_all hso]at hE0
   simp only[if_true]at hE0
   refine hX _ _ (by simp) ?_
   simp -implicitDefEqProofs (disch:=first|omega|simp only[go_sem]) only[go_sem,true_and,f4]
   refine ⟨_,rfl,_,by rw[hE0],hEx,?_⟩
   rw[decL,hE0,if_pos rfl,hxs]
   exact hm.arg
theorem jumps_c {h:DHeap} {x:Instr}:DC Try.prog 61 [instrV x] h (.ret (.bool (jumpsB x.op))) h:=by
 obtain ⟨x1,x2,x3,x4,x5⟩:=x
 refine Ct.pure (go_61 (by simp) ?_) (vin_bool _)
 obtain ⟨H,hH⟩:∃ H,H=h.push (.row [.int .i64 x1,.int .i64 x2,.int .i64 x3,.int .i64 x4,.int .i64 x5] 0 false):=⟨_,rfl⟩
 have hE:Ext h H:=by rw[hH];exact Ext.push1 _ _
 have g:H.get h.next=some (.row [.int .i64 x1,.int .i64 x2,.int .i64 x3,.int .i64 x4,.int .i64 x5] 0 false):=by rw[hH];exact get_push_same _ _
 have a1:cellAt H h.next 1=some (.int .i64 x2):=cellAt_row g
 simp -implicitDefEqProofs (disch:=first|omega|simp only[go_sem]) only[go_sem,true_and,c61,← hH,a1]
 clear hH
 (repeat' first | (refine NStp_split (fun hb=>?_) (fun hb=>?_) <;> (try simp only[Bool.not_eq_true',Bool.not_eq_false']at hb) <;> simp -implicitDefEqProofs (disch:=first|omega|simp only[go_sem]) only[go_sem,true_and,dPick_t,dPick_f,hb,a1]) | (refine XIf_split (fun hb=>?_) (fun hb=>?_) <;> (try simp only[Bool.not_eq_true',Bool.not_eq_false']at hb) <;> simp -implicitDefEqProofs (disch:=first|omega|simp only[go_sem]) only[go_sem,true_and,dPick_t,dPick_f,hb,a1]))
 all_goals exact ⟨_,rfl,by simp_all [jumpsB],hE⟩
end Go.Proofs.Ythjmkmoiopmfcaa

namespace Go.Proofs.Ythjmkmoiopmfcaa
open Go.D
set_option maxRecDepth 100000
theorem good_dec:goodFn Try.prog 58=true:=by kernel_rfl
theorem set_begins:SetT Try.prog 107 .i64:=⟨2,4,by kernel_rfl,by kernel_rfl,by kernel_rfl⟩
theorem res_d {fr:Fr} {K:DHeap} {a b id id2:Nat} {w:Value} {e:Int} {z y:Nat} (f2:fr a=some (.pointer (some ⟨id,0,none⟩))) (f3:fr b=some (.pointer (some ⟨id2,0,none⟩))) (hk:K.get id=some (.row [w] z false)) (hk2:K.get id2=some (.row [.int .i64 e] y false)) :
 dResults Try.prog [.cell a 74,.cell b 53] fr K=some (.tuple #[w,.int .i64 e]):=by
 rw[dResults_d2,dRes1_cell,dRes1_cell,f2,f3,dResC_some,dResC_some]
 have e1:dLoad Try.prog 74 (.pointer (some ⟨id,0,none⟩)) K=some w:=ld_74.trans (cellAt_row hk)
 have e2:dLoad Try.prog 53 (.pointer (some ⟨id2,0,none⟩)) K=some (.int .i64 e):=ld_53.trans (cellAt_row hk2)
 rw[e1,e2,tup2_some]
structure DecI (h:DHeap) (a b mp n0:Nat) (w:Value) (xs:List Instr) (ks:List Int) (K:DHeap):Prop where
 ext:Ext h K
 ga:K.get a=some (.row [w] 0 false)
 gb:K.get b=some (.row [.int .i64 0] 0 false)
 sm:SetAt .i64 K mp ks
 sl:Sl fInstr.rep (fun j=>n0≤j∧j<mp) K w xs
 lt:mp<K.next
 ab:h.next≤a∧h.next≤b∧a<n0∧b<n0∧a≠b∧n0≤mp
theorem DecI.push {h:DHeap} {a b mp n0:Nat} {w:Value} {xs:List Instr} {ks:List Int} {K K':DHeap} (s:DecI h a b mp n0 w xs ks K) (e:Ext K K'):DecI h a b mp n0 w xs ks K':=by
 have hl:=s.lt
 have ha:=s.ab
 exact ⟨s.ext.trans e,(e.get _ (by omega)).trans s.ga,(e.get _ (by omega)).trans s.gb,s.sm.keep (e.get _ hl),s.sl.mono fun j hj=>⟨hj,e.get _ (by omega)⟩,Nat.lt_of_lt_of_le hl e.next,ha⟩
theorem DecI.upd {h:DHeap} {a b mp n0:Nat} {w:Value} {xs:List Instr} {ks ks':List Int} {K:DHeap} {o:DObj} (s:DecI h a b mp n0 w xs ks K) (hs:SetAt .i64 (K.set mp o) mp ks'):DecI h a b mp n0 w xs ks' (K.set mp o):=by
 have ha:=s.ab
 exact ⟨s.ext.set (by omega),(get_set_other _ _ (by omega)).trans s.ga,(get_set_other _ _ (by omega)).trans s.gb,hs,s.sl.mono fun j hj=>⟨hj,get_set_other _ _ (by omega)⟩,s.lt,ha⟩
theorem decode_c {h:DHeap} {v:Value} {l:List Int} (hb:Arg fU8.rep h v l) (hl:l.length≤1048576) :
 Ct Try.prog 39 [v] h fun r h1=>∃ w,r=.ret (.tuple #[w,.int .i64 (decE l)])∧Ext h h1∧Arg fInstr.rep h1 w (decL l):=by
 refine go_39 (by simp) ?_
 have el:∀ K,dLen Try.prog #[22] v K=some (.int .i64 (l.length:Nat)):=hb.lens (P:=Try.prog) (ts:=#[22]) (t:=22) rfl isl_22
 obtain ⟨H,hH⟩:∃ H,H=(h.push (.row [.slice none 0 0] 0 false)).push (.row [.int .i64 0] 0 false):=⟨_,rfl⟩
 have hE:Ext h H:=by rw[hH];exact (Ext.push1 _ _).push _
 have hHn:H.next=h.next+2:=by rw[hH];rfl
 have ga:H.get h.next=some (.row [.slice none 0 0] 0 false):=by rw[hH];exact get_p1
 have gb:H.get (h.next+1)=some (.row [.int .i64 0] 0 false):=by rw[hH];exact get_push_same _ _
 by_cases h0:(512:Int)<(l.length:Nat)
 ·have h0':=eq_true h0
  have hD:decE l=3:=by rw[decE,if_pos (by omega)]
  have w1:storeAt H h.next 0 [.slice none 0 0]=some H:=by
   rw[storeAt_row ga (Nat.le_of_ble_eq_true rfl) rfl]
   exact congrArg some (set_self ga)
  have w2:=storeAt_row (o:=0) (vs:=[.int .i64 3]) gb (Nat.le_of_ble_eq_true rfl) rfl
  simp -implicitDefEqProofs (disch:=first|omega|simp only[go_sem]) only[go_sem,true_and,c39,next_push,← hH,el,h0',w1,w2]
  refine ret_at (res_d vz vz ((get_set_other _ _ (by omega)).trans ga) (get_set_same _ _)) ⟨_,by rw[hD],hE.set (by omega),?_⟩
  rw[decL,hD]
  exact .nil _ _ _
 have hE0:decE l=if (walkAt l 0).2≠0 then (walkAt l 0).2 else if targetsOk (walkAt l 0).1 then 0 else 131:=by rw[decE,if_neg (by omega)]
 simp -implicitDefEqProofs (disch:=first|omega|simp only[go_sem]) only[go_sem,true_and,c39,next_push,← hH,el,h0]
 refine ncall_ct (all_c (hb.ext hE) hl) ?_
 have hlen:=walkAt_len (l:=l) (n:=l.length) (i:=0) (by omega)
 obtain ⟨xs,hxs⟩:∃ xs,(walkAt l 0).1=xs:=⟨_,rfl⟩
 obtain ⟨e,he⟩:∃ e,(walkAt l 0).2=e:=⟨_,rfl⟩
 rw[hxs,he]
 rw[hxs]at hlen
 rw[hxs,he]at hE0
 rintro r h1 (⟨he0,w,rfl,hm⟩ | ⟨he0,rfl,hE1⟩)
 case inr=>
  rw[if_pos he0]at hE0
  have ga1:=(hE1.get _ (by omega)).trans ga
  have gb1:=(hE1.get _ (by omega)).trans gb
  simp -implicitDefEqProofs (disch:=first|omega|simp only[go_sem]) only[go_sem,true_and,XEnd]
  refine XLv_fn good_dec (dec_pan ga1 gb1 (by omega)) ?_
  simp -implicitDefEqProofs (disch:=first|omega|simp only[go_sem]) only[go_sem,true_and,settleD,XLv_ret]
  refine ret_at (res_d vz vz ((get_set_other _ _ (by omega)).trans (get_set_same _ _)) (get_set_same _ _)) ⟨_,by rw[hE0],((hE.trans hE1).set (by omega)).set (by omega),?_⟩
  rw[decL,hE0,if_neg he0]
  exact .nil _ _ _
 rw[if_neg (fun hh=>hh he0)]at hE0
 have hE1:=hm.ext
 have hE1n:=hE1.next
 have ga1:=(hE1.get _ (by omega)).trans ga
 have gb1:=(hE1.get _ (by omega)).trans gb
 have hone:[w].all Value.oneCell'=true:=by obtain ⟨_,_,rfl⟩:=hm.sl.isSlice;rfl
 have w1:=storeAt_row (o:=0) (vs:=[w]) ga1 (Nat.le_of_ble_eq_true rfl) hone
 have sst:∀ K,dStore Try.prog 74 (.pointer (some ⟨h.next,0,none⟩)) w K=storeAt K h.next 0 [w]:=fun K=>st_74 hm.sl.cells1
 obtain ⟨K0,hK0⟩:∃ K0,K0=(h1.set h.next (.row [w] 0 false)).push (.map [] 0):=⟨_,rfl⟩
 have elw:∀ K,dLen Try.prog #[74] w K=some (.int .i64 (xs.length:Nat)):=hm.arg.lens (P:=Try.prog) (ts:=#[74]) (t:=74) rfl isl_74
 have I0:DecI h h.next (h.next+1) h1.next H.next w xs [] K0:=by
  have hEs:Ext h (h1.set h.next (.row [w] 0 false)):=(hE.trans hE1).set (by omega)
  refine ⟨by rw[hK0];exact hEs.push _,?_,?_,?_,?_,?_,by omega⟩
  ·rw[hK0,get_push_other _ _ (by simp only[next_set];omega)];exact get_set_same _ _
  ·rw[hK0,get_push_other _ _ (by simp only[next_set];omega),get_set_other _ _ (by omega)];exact gb1
  ·rw[hK0];exact SetAt.new
  ·refine hm.sl.mono fun j hj=>⟨hj,?_⟩
   rw[hK0,get_push_other _ _ (by simp only[next_set];omega),get_set_other _ _ (by omega)]
  ·rw[hK0];exact Nat.lt_succ_self _
 have lw:∀ {ks K},DecI h h.next (h.next+1) h1.next H.next w xs ks K→cellAt K h.next 0=some w:=fun s=>cellAt_row s.ga
 simp -implicitDefEqProofs (disch:=first|omega|simp only[go_sem]) only[go_sem,true_and,XEnd,sst,w1,setAt]
 have hK0':∀ x,x=[w]→(h1.set h.next (.row x 0 false)).push (.map [] 0)=K0:=fun x hx=>by rw[hx,hK0]
 simp only[List.set_cons_zero,next_set,← hK0]
 simp -implicitDefEqProofs (disch:=first|omega|simp only[go_sem]) only[go_sem,true_and,lw I0,elw]
 refine XLoop_cut (fun s=>s.df=[.fn 58 [.pointer (some ⟨h.next,0,none⟩),.pointer (some ⟨h.next+1,0,none⟩)]]∧s.rd=none∧s.fr 2=some (.pointer (some ⟨h.next,0,none⟩))∧s.fr 3=some (.pointer (some ⟨h.next+1,0,none⟩))∧s.fr 4=some (.map (some h1.next))∧DecI h h.next (h.next+1) h1.next H.next w xs (xs.map (·.pos)) s.h) ?_ ?_
 ·refine xloop (σ:=Nat) (by kernel_rfl) (fun i s=>s.df=[.fn 58 [.pointer (some ⟨h.next,0,none⟩),.pointer (some ⟨h.next+1,0,none⟩)]]∧s.rd=none∧s.fr 2=some (.pointer (some ⟨h.next,0,none⟩))∧s.fr 3=some (.pointer (some ⟨h.next+1,0,none⟩))∧s.fr 4=some (.map (some h1.next))∧s.fr 16=some w∧s.fr 17=some (.int .i64 (xs.length:Nat))∧s.fr 18=some (.int .i64 (i:Nat))∧i≤xs.length∧DecI h h.next (h.next+1) h1.next H.next w xs ((xs.take i).map (·.pos)) s.h) (fun i=>xs.length - i) 0 ?_ ?_
  ·simp -implicitDefEqProofs (disch:=first|omega|simp only[go_sem]) only[go_sem,true_and]
   exact ⟨rfl,Nat.zero_le _,I0⟩
  ·rintro i ⟨fr,df,K,rd⟩ K' hK' hX ⟨hdf,hrd,f2,f3,f4,f16,f17,f18,hi,I⟩
   simp only at hdf hrd f2 f3 f4 f16 f17 f18 I
   subst hdf hrd
   simp -implicitDefEqProofs (disch:=first|omega|simp only[go_sem]) only[go_sem,true_and,f17,f18]
   refine XIf_dec (fun hc1=>?_) (fun hc1=>?_)
   ·have hj:i<xs.length:=by omega
    obtain ⟨id,o,g,c5,_,_,_⟩:=instr_idx I.sl hj
    have hw1:=wrap_succ hj (by omega)
    obtain ⟨x,hx⟩:∃ x,xs[i]=x:=⟨_,rfl⟩
    rw[hx]at c5
    obtain ⟨K1,hK1⟩:∃ K1,K1=K.push (.row (fInstr.enc x) 0 false):=⟨_,rfl⟩
    have g1:K1.get K.next=some (.row (fInstr.enc x) 0 false):=by rw[hK1];exact get_push_same _ _
    have p0:cellAt K1 K.next 0=some (.int .i64 x.pos):=cellAt_row g1
    have s5:=store5 (h:=K) (x:=x)
    rw[← hK1]at s5
    have I1:DecI h h.next (h.next+1) h1.next H.next w xs ((xs.take i).map (·.pos)) K1:=I.push (by rw[hK1];exact Ext.push1 _ _)
    obtain ⟨ob,hu,hs⟩:=I1.sm.update set_begins x.pos
    simp -implicitDefEqProofs (disch:=first|omega|simp only[go_sem]) only[go_sem,true_and,f16,f18,g,c5,s5,f4,p0,hu,hw1]
    refine hK' (i+1) _ ?_ (by omega)
    refine ⟨by trivial,by trivial,(vy f2),(vy f3),(vy f4),(vy f16),(vy f17),vz,by omega,?_⟩
    have:=I1.upd hs
    rw[show xs.take (i+1)=xs.take i++[x] by rw[← hx];simp]
    simpa using this
   ·obtain rfl:i=xs.length:=by omega
    refine hX _ _ (by simp) ?_
    rw[List.take_length]at I
    exact ⟨rfl,rfl,f2,f3,f4,I⟩
 rintro ⟨fr,df,K,rd⟩ ⟨hdf,hrd,f2,f3,f4,I⟩
 simp only at hdf hrd f2 f3 f4 I
 subst hdf hrd
 simp -implicitDefEqProofs (disch:=first|omega|simp only[go_sem]) only[go_sem,true_and,f2,lw I,elw]
 refine xloop (σ:=Nat) (by kernel_rfl) (fun i s=>s.df=[.fn 58 [.pointer (some ⟨h.next,0,none⟩),.pointer (some ⟨h.next+1,0,none⟩)]]∧s.rd=none∧s.fr 2=some (.pointer (some ⟨h.next,0,none⟩))∧s.fr 3=some (.pointer (some ⟨h.next+1,0,none⟩))∧s.fr 4=some (.map (some h1.next))∧s.fr 26=some w∧s.fr 27=some (.int .i64 (xs.length:Nat))∧s.fr 28=some (.int .i64 (i:Nat))∧i≤xs.length∧jumpsSo xs i∧DecI h h.next (h.next+1) h1.next H.next w xs (xs.map (·.pos)) s.h) (fun i=>xs.length - i) 0 ?_ ?_
 ·simp -implicitDefEqProofs (disch:=first|omega|simp only[go_sem]) only[go_sem,true_and,f2,f3,f4]
  exact ⟨rfl,Nat.zero_le _,fun j x hj=>absurd hj (Nat.not_lt_zero j),I⟩
 clear f2 f3 f4 I K fr
 rintro i ⟨fr,df,K,rd⟩ K' hK' hX ⟨hdf,hrd,f2,f3,f4,f26,f27,f28,hi,hso,I⟩
 simp only at hdf hrd f2 f3 f4 f26 f27 f28 I
 subst hdf hrd
 simp -implicitDefEqProofs (disch:=first|omega|simp only[go_sem]) only[go_sem,true_and,f27,f28]
 refine XIf_dec (fun hc1=>?_) (fun hc1=>?_)
 ·have hj:i<xs.length:=by omega
  obtain ⟨id,o,g,c5,_,_,_⟩:=instr_idx I.sl hj
  have hw1:=wrap_succ hj (by omega)
  have hmem:=List.getElem_mem hj
  have hsucc:=fun hx=>jumpsSo_succ hj hso hx
  have hbad:=fun (a:jumpsB xs[i].op=true) (b:xs[i].imm∉xs.map (·.pos))=>targets_bad hmem a b
  obtain ⟨x,hx⟩:∃ x,xs[i]=x:=⟨_,rfl⟩
  rw[hx]at c5
  rw[hx]at hsucc hbad
  obtain ⟨K1,hK1⟩:∃ K1,K1=K.push (.row (fInstr.enc x) 0 false):=⟨_,rfl⟩
  have g1:K1.get K.next=some (.row (fInstr.enc x) 0 false):=by rw[hK1];exact get_push_same _ _
  have p4:cellAt K1 K.next 4=some (.int .i64 x.imm):=cellAt_row g1
  have pc:cellsAt K1 K.next 0 5=some (instrV x):=by rw[cellsAt_row g1 (Nat.le_of_ble_eq_true rfl)];rfl
  have s5:=store5 (h:=K) (x:=x)
  rw[← hK1]at s5
  have I1:DecI h h.next (h.next+1) h1.next H.next w xs (xs.map (·.pos)) K1:=I.push (by rw[hK1];exact Ext.push1 _ _)
  simp -implicitDefEqProofs (disch:=first|omega|simp only[go_sem]) only[go_sem,true_and,f26,f28,g,c5,s5,pc]
  refine ncall jumps_c ?_
  by_cases hjb:jumpsB x.op=true
  case neg=>
   have hjb':jumpsB x.op=false:=by simpa using hjb
   simp -implicitDefEqProofs (disch:=first|omega|simp only[go_sem]) only[go_sem,true_and,hjb',dPick_t,dPick_f,f28,hw1]
   refine hK' (i+1) _ ?_ (by omega)
   exact ⟨by trivial,by trivial,(vy f2),(vy f3),(vy f4),(vy f26),(vy f27),vz,by omega,hsucc fun hh=>absurd hh hjb,I1⟩
  have hlk:=I1.sm.lookup set_begins x.imm
  by_cases hin:x.imm∈xs.map (·.pos)
  ·rw[decide_eq_true hin]at hlk
   simp -implicitDefEqProofs (disch:=first|omega|simp only[go_sem]) only[go_sem,true_and,hjb,f4,p4,hlk,dPick_t,dPick_f,f28,hw1]
   refine hK' (i+1) _ ?_ (by omega)
   exact ⟨by trivial,by trivial,(vy f2),(vy f3),(vy f4),(vy f26),(vy f27),vz,by omega,hsucc fun _=>hin,I1⟩
  ·rw[decide_eq_false hin]at hlk
   rw[hbad hjb hin]at hE0
   simp only[Bool.false_eq_true,if_false]at hE0
   simp -implicitDefEqProofs (disch:=first|omega|simp only[go_sem]) only[go_sem,true_and,hjb,f4,p4,hlk,dPick_t,dPick_f]
   refine ncall_pan (must_yes (by decide)) ?_
   refine hX _ _ (by simp) ?_
   simp -implicitDefEqProofs (disch:=first|omega|simp only[go_sem]) only[go_sem,true_and]
   refine XLv_fn good_dec (dec_pan I1.ga I1.gb (by omega)) ?_
   simp -implicitDefEqProofs (disch:=first|omega|simp only[go_sem]) only[go_sem,true_and,settleD,XLv_ret]
   refine ret_at (res_d (vy f2) (vy f3) ((get_set_other _ _ (by omega)).trans (get_set_same _ _)) (get_set_same _ _)) ⟨_,by rw[hE0],(I1.ext.set (by omega)).set (by omega),?_⟩
   rw[decL,hE0]
   exact .nil _ _ _
 ·obtain rfl:i=xs.length:=by omega
  rw[targets_all hso]at hE0
  simp only[if_true]at hE0
  refine hX _ _ (by simp) ?_
  have w2:storeAt K h.next 0 [w]=some K:=by
   rw[storeAt_row I.ga (Nat.le_of_ble_eq_true rfl) hone]
   exact congrArg some (set_self I.ga)
  have w3:storeAt K (h.next+1) 0 [.int .i64 0]=some K:=by
   rw[storeAt_row I.gb (Nat.le_of_ble_eq_true rfl) rfl]
   exact congrArg some (set_self I.gb)
  simp -implicitDefEqProofs (disch:=first|omega|simp only[go_sem]) only[go_sem,true_and,f2,f3,lw I,sst,w2,w3]
  refine XLv_fn good_dec dec_ret ?_
  simp -implicitDefEqProofs (disch:=first|omega|simp only[go_sem]) only[go_sem,true_and,settleD,XLv_ret]
  refine ret_at (res_d (vy f2) (vy f3) I.ga I.gb) ⟨_,by rw[hE0],I.ext,?_⟩
  rw[decL,hE0,if_pos rfl,hxs]
  have hlt:=I.lt
  exact I.sl.mono fun j hj=>⟨by omega,rfl⟩
end Go.Proofs.Ythjmkmoiopmfcaa

namespace Go.Proofs.Ythjmkmoiopmfcaa
open Go.D
set_option maxRecDepth 100000
theorem key_idx {S:Nat→Prop} {h:DHeap} {v:Value} {l:List Key} {i:Nat} (hb:Sl fKey.rep S h v l) (hi:i<l.length) :
 ∃ id o,dIndexAddr Try.prog 24 v (.int .i64 (i:Nat))=some (.pointer (some ⟨id,o,none⟩))∧cellsAt h id o 2=some (keyV l[i])∧cellAt h id (o+0)=some (.int .i32 l[i].t)∧cellAt h id (o+1)=some (.int .i64 l[i].r):=by
 obtain ⟨id,o,g,hs,hat⟩:=hb.idx (P:=Try.prog) (t:=24) el_24 (k:=.i64) (List.getElem?_eq_getElem hi)
 obtain ⟨a,b,_⟩:=hat.flat
 exact ⟨id,o,g,b,a 0 (by decide),a 1 (by decide)⟩
theorem keyLt_neg {a b:Key}:keyLt a b=!(decide (b.t<a.t)||(decide (b.t=a.t)&&decide (b.r≤a.r))):=by
 unfold keyLt
 by_cases h1:b.t<a.t
 ·simp[h1];omega
 ·by_cases h2:b.t=a.t
  ·by_cases h3:b.r≤a.r
   ·simp[h1,h2,h3,Int.not_lt.2]
   ·simp[h1,h2,h3,Int.not_le.1]
  ·simp[h1,h2];omega
theorem rises_c {h:DHeap} {v:Value} {l:List Key} (hb:Arg fKey.rep h v l) (hl:l.length≤4294967296):DC Try.prog 52 [v] h (.ret (.bool (risesB keyLt l))) h:=by
 refine Ct.pure (go_52 (by simp) ?_) (vin_bool _)
 have el:∀ K,dLen Try.prog #[24] v K=some (.int .i64 (l.length:Nat)):=hb.lens (P:=Try.prog) (ts:=#[24]) (t:=24) rfl isl_24
 simp -implicitDefEqProofs (disch:=first|omega|simp only[go_sem]) only[go_sem,true_and,c52,el]
 refine xloop (σ:=Nat) (by kernel_rfl) (fun i s=>s.df=[]∧s.h=h∧s.fr 0=some v∧s.fr 5=some (.int .i64 (l.length:Nat))∧s.fr 6=some (.int .i64 (i:Nat))∧i≤l.length∧risesB keyLt (l.drop (i - 1))=risesB keyLt l) (fun i=>l.length - i) 0 ?_ ?_
 ·simp -implicitDefEqProofs (disch:=first|omega|simp only[go_sem]) only[go_sem,true_and]
  exact ⟨rfl,Nat.zero_le _,rfl⟩
 ·rintro i ⟨fr,df,K,rd⟩ K' hK' hX ⟨rfl,rfl,f0,f5,f6,hi,ho⟩
  simp only at f0 f5 f6
  simp -implicitDefEqProofs (disch:=first|omega|simp only[go_sem]) only[go_sem,true_and,f5,f6]
  refine XIf_dec (fun hc1=>?_) (fun hc1=>?_)
  ·have hj:i<l.length:=by omega
   have hw1:=wrap_succ hj (by omega)
   simp -implicitDefEqProofs (disch:=first|omega|simp only[go_sem]) only[go_sem,true_and,f6]
   refine dr_52_0 ?_
   by_cases h0:(0:Int)<(i:Nat)
   case neg=>
    obtain rfl:i=0:=by omega
    simp -implicitDefEqProofs (disch:=first|omega|simp only[go_sem]) only[go_sem,true_and,l52_0,h0,dPick_t,dPick_f,f6,hw1,XStab_nil]
    refine hK' (0+1) _ ?_ (by omega)
    exact ⟨by trivial,by trivial,(vy f0),(vy f5),vz,by omega,ho⟩
   obtain ⟨j,rfl⟩:∃ j,i=j+1:=⟨i - 1,by omega⟩
   have h0':=eq_true h0
   have hwm:IntKind.i64.wrap (((j+1:Nat):Int) - 1)=(j:Nat):=by rw[wrap_i64_in (by omega) (by omega)];omega
   obtain ⟨id1,o1,g1,_,a0,a1⟩:=key_idx hb (i:=j+1) hj
   obtain ⟨id2,o2,g2,_,b0,b1⟩:=key_idx hb (i:=j) (by omega)
   rw[Nat.add_zero]at a0 b0
   rw[Nat.add_sub_cancel,risesB_two hj,keyLt_neg]at ho
   have good:∀ {s:St},s.df=[]→s.h=K→s.fr 0=some v→s.fr 5=some (.int .i64 (l.length:Nat))→s.fr 6=some (.int .i64 ((j+1+1:Nat):Int))→(decide (l[j+1].t<l[j].t)||(decide (l[j+1].t=l[j].t)&&decide (l[j+1].r≤l[j].r)))=false→K' .normal s:=fun a b c d e f=>by
    refine hK' (j+1+1) _ ⟨a,b,c,d,e,by omega,?_⟩ (by omega)
    rw[f,Bool.not_false,Bool.true_and]at ho
    exact ho
   by_cases h1:l[j+1].t<l[j].t
   ·have h1':=eq_true h1
    simp -implicitDefEqProofs (disch:=first|omega|simp only[go_sem]) only[go_sem,true_and,l52_0,f0,f6,h0',h1',g1,g2,hwm,a0,a1,b0,b1,dPick_t,dPick_f,XStab_nil]
    refine hX _ _ (by simp) ?_
    simp -implicitDefEqProofs (disch:=first|omega|simp only[go_sem]) only[go_sem,true_and]
    refine ⟨_,rfl,?_,.refl _⟩
    rw[← ho]
    simp[h1]
   by_cases h2:l[j+1].t=l[j].t
   case neg=>
    simp -implicitDefEqProofs (disch:=first|omega|simp only[go_sem]) only[go_sem,true_and,l52_0,f0,f6,h0',h1,h2,g1,g2,hwm,a0,a1,b0,b1,dPick_t,dPick_f,XStab_nil,hw1]
    exact good rfl rfl (vy f0) (vy f5) vz (by simp[h1,h2])
   have h2':=eq_true h2
   by_cases h3:l[j+1].r≤l[j].r
   ·have h3':=eq_true h3
    simp -implicitDefEqProofs (disch:=first|omega|simp only[go_sem]) only[go_sem,true_and,l52_0,f0,f6,h0',h1,h2',h3',g1,g2,hwm,a0,a1,b0,b1,dPick_t,dPick_f,XStab_nil]
    refine hX _ _ (by simp) ?_
    simp -implicitDefEqProofs (disch:=first|omega|simp only[go_sem]) only[go_sem,true_and]
    refine ⟨_,rfl,?_,.refl _⟩
    rw[← ho]
    simp[h1,h2,h3]
   ·simp -implicitDefEqProofs (disch:=first|omega|simp only[go_sem]) only[go_sem,true_and,l52_0,f0,f6,h0',h1,h2',h3,g1,g2,hwm,a0,a1,b0,b1,dPick_t,dPick_f,XStab_nil,hw1]
    exact good rfl rfl (vy f0) (vy f5) vz (by simp[h1,h2,h3])
  ·refine hX _ _ (by simp) ?_
   simp -implicitDefEqProofs (disch:=first|omega|simp only[go_sem]) only[go_sem,true_and]
   refine ⟨_,rfl,?_,.refl _⟩
   rw[← ho,risesB_short (by simp;omega)]
def cmpR (a b:Key):Int:=if keyLt a b then -1 else if a=b then 0 else 1
theorem refCompare_c {h:DHeap} {a b:Key}:DC Try.prog 80 [keyV a,keyV b] h (.ret (.int .i64 (cmpR a b))) h:=by
 refine Ct.pure (go_80 (by simp) ?_) (vin_int _ _)
 obtain ⟨H,hH⟩:∃ H,H=(h.push (.row [.int .i32 a.t,.int .i64 a.r] 0 false)).push (.row [.int .i32 b.t,.int .i64 b.r] 0 false):=⟨_,rfl⟩
 have hE:Ext h H:=by rw[hH];exact (Ext.push1 _ _).push _
 have g1:H.get h.next=some (.row [.int .i32 a.t,.int .i64 a.r] 0 false):=by rw[hH];exact get_p1
 have g2:H.get (h.next+1)=some (.row [.int .i32 b.t,.int .i64 b.r] 0 false):=by rw[hH];exact get_push_same _ _
 have a0:cellAt H h.next 0=some (.int .i32 a.t):=cellAt_row g1
 have a1:cellAt H h.next 1=some (.int .i64 a.r):=cellAt_row g1
 have b0:cellAt H (h.next+1) 0=some (.int .i32 b.t):=cellAt_row g2
 have b1:cellAt H (h.next+1) 1=some (.int .i64 b.r):=cellAt_row g2
 have c0:cellsAt H h.next 0 2=some (keyV a):=by rw[cellsAt_row g1 (Nat.le_of_ble_eq_true rfl)];rfl
 have c1:cellsAt H (h.next+1) 0 2=some (keyV b):=by rw[cellsAt_row g2 (Nat.le_of_ble_eq_true rfl)];rfl
 simp -implicitDefEqProofs (disch:=first|omega|simp only[go_sem]) only[go_sem,true_and,c80,next_push,← hH,a0,b0]
 clear hH
 (repeat' first | (refine NStp_split (fun hb=>?_) (fun hb=>?_) <;> (try simp only[Bool.not_eq_true',Bool.not_eq_false']at hb) <;> simp -implicitDefEqProofs (disch:=first|omega|simp only[go_sem]) only[go_sem,true_and,dPick_t,dPick_f,hb,a0,a1,b0,b1,c0,c1,bin_key']) | (refine XIf_split (fun hb=>?_) (fun hb=>?_) <;> (try simp only[Bool.not_eq_true',Bool.not_eq_false']at hb) <;> simp -implicitDefEqProofs (disch:=first|omega|simp only[go_sem]) only[go_sem,true_and,dPick_t,dPick_f,hb,a0,a1,b0,b1,c0,c1,bin_key']))
 all_goals
  refine ⟨_,rfl,?_,hE⟩
  congr 2
  unfold cmpR keyLt
  simp_all <;> omega
end Go.Proofs.Ythjmkmoiopmfcaa

namespace Go.Proofs.Ythjmkmoiopmfcaa
open Go.D
set_option maxRecDepth 100000
theorem cmpR_neg {a b:Key}:cmpR a b<0↔keyLt a b=true:=by
 unfold cmpR
 cases keyLt a b with
 | true=>simp
 | false=>
   simp only[Bool.false_eq_true,if_false]
   split <;> simp
theorem refRises_c {h:DHeap} {v:Value} {l:List Key} (hb:Arg fKey.rep h v l) (hl:l.length≤4294967296):DC Try.prog 65 [v] h (.ret (.bool (risesB keyLt l))) h:=by
 refine Ct.pure (go_65 (by simp) ?_) (vin_bool _)
 have el:∀ K,dLen Try.prog #[24] v K=some (.int .i64 (l.length:Nat)):=hb.lens (P:=Try.prog) (ts:=#[24]) (t:=24) rfl isl_24
 simp -implicitDefEqProofs (disch:=first|omega|simp only[go_sem]) only[go_sem,true_and,c65]
 refine xloop (σ:=Nat) (by kernel_rfl) (fun j s=>s.df=[]∧s.h=h∧s.fr 0=some v∧s.fr 3=some (.int .i64 ((j+1:Nat):Int))∧(j=0∨j<l.length)∧risesB keyLt (l.drop j)=risesB keyLt l) (fun j=>l.length - j) 0 ?_ ?_
 ·simp -implicitDefEqProofs (disch:=first|omega|simp only[go_sem]) only[go_sem,true_and]
  exact ⟨rfl,.inl trivial,rfl⟩
 ·rintro j ⟨fr,df,K,rd⟩ K' hK' hX ⟨rfl,rfl,f0,f3,hi,ho⟩
  simp only at f0 f3
  simp -implicitDefEqProofs (disch:=first|omega|simp only[go_sem]) only[go_sem,true_and,f0,f3,el]
  refine XIf_dec (fun hc1=>?_) (fun hc1=>?_)
  ·have hj:j+1<l.length:=by omega
   have hw1:=wrap_succ hj (by omega)
   have hwm:IntKind.i64.wrap (((j+1:Nat):Int) - 1)=(j:Nat):=by rw[wrap_i64_in (by omega) (by omega)];omega
   obtain ⟨id1,o1,g1,a2,_,_⟩:=key_idx hb (i:=j+1) hj
   obtain ⟨id2,o2,g2,b2,_,_⟩:=key_idx hb (i:=j) (by omega)
   rw[risesB_two hj]at ho
   simp -implicitDefEqProofs (disch:=first|omega|simp only[go_sem]) only[go_sem,true_and]
   refine dr_65_0 ?_
   simp -implicitDefEqProofs (disch:=first|omega|simp only[go_sem]) only[go_sem,true_and,l65_0,f0,f3,hwm,g1,g2,a2,b2]
   refine dcall refCompare_c ?_
   by_cases hlt:keyLt l[j] l[j+1]=true
   ·have hneg:¬ 0≤cmpR l[j] l[j+1]:=by have:=cmpR_neg.2 hlt;omega
    rw[hlt,Bool.true_and]at ho
    simp -implicitDefEqProofs (disch:=first|omega|simp only[go_sem]) only[go_sem,true_and,hneg,XStab_nil,f3,hw1]
    refine hK' (j+1) _ ?_ (by omega)
    exact ⟨by trivial,by trivial,(vy f0),vz,.inr hj,ho⟩
   ·have hneg:0≤cmpR l[j] l[j+1]:=by
     cases Int.decLt (cmpR l[j] l[j+1]) 0 with
     | isTrue e=>exact absurd (cmpR_neg.1 e) hlt
     | isFalse e=>omega
    have hneg':=eq_true hneg
    have hlt':keyLt l[j] l[j+1]=false:=by simpa using hlt
    rw[hlt',Bool.false_and]at ho
    simp -implicitDefEqProofs (disch:=first|omega|simp only[go_sem]) only[go_sem,true_and,hneg',XStab_nil]
    refine hX _ _ (by simp) ?_
    simp -implicitDefEqProofs (disch:=first|omega|simp only[go_sem]) only[go_sem,true_and]
    exact ⟨_,rfl,by rw[← ho],.refl _⟩
  ·refine hX _ _ (by simp) ?_
   simp -implicitDefEqProofs (disch:=first|omega|simp only[go_sem]) only[go_sem,true_and]
   refine ⟨_,rfl,?_,.refl _⟩
   rw[← ho,risesB_short (by simp;omega)]
end Go.Proofs.Ythjmkmoiopmfcaa

namespace Go.Proofs.Ythjmkmoiopmfcaa
open Go.D
set_option maxRecDepth 100000
def badI (t:Txn) (x:Instr):Bool:=
 if x.op=3∨x.op=4 then decide ((t.reads.length:Int)≤x.imm) else if x.op=5∨x.op=6 then decide ((t.writes.length:Int)≤x.imm) else if x.op=2 then decide ((t.args.length:Int)≤x.imm) else false
def txnE (t:Txn):Int:=
 if t.ses<1∨1099511627776<t.ses∨t.req<1∨1099511627776<t.req then 1
 else if 8<t.args.length∨16<t.reads.length∨16<t.writes.length then 3
 else if risesB keyLt t.reads=false∨risesB keyLt t.writes=false then 1
 else if decE t.code≠0 then decE t.code
 else if (decL t.code).any (badI t) then 132 else 0
theorem walk_imm {l:List Int} (hb:∀ j,0≤l.getD j 0∧l.getD j 0≤255):∀ (n i:Nat),∀ x∈(walkF l n i).1,x.imm≤65535
 | 0,i,x,hx=>by simp[walkF]at hx
 | n+1,i,x,hx=>by
   simp only[walkF]at hx
   split at hx
   ·simp at hx
   ·split at hx
    ·rename_i he
     rcases List.mem_cons.1 hx with rfl | hx
     ·obtain ⟨e,_⟩:=oneT_next he
      rw[e]
      have b3:=hb (i+1+(if firstB (l.getD i 0) then 1 else 0)+if twoB (l.getD i 0) then 1 else 0)
      have b4:=hb (i+1+(if firstB (l.getD i 0) then 1 else 0)+(if twoB (l.getD i 0) then 1 else 0)+1)
      simp only[oneI,immW]
      generalize l.getD (i+1+(if firstB (l.getD i 0) then 1 else 0)+if twoB (l.getD i 0) then 1 else 0) 0=y3 at b3 ⊢
      generalize l.getD (i+1+(if firstB (l.getD i 0) then 1 else 0)+(if twoB (l.getD i 0) then 1 else 0)+1) 0=y4 at b4 ⊢
      repeat' split
      all_goals omega
     ·exact walk_imm hb n _ x hx
    ·simp at hx
theorem decL_imm {l:List Int} (hb:∀ j,0≤l.getD j 0∧l.getD j 0≤255):∀ x∈decL l,x.imm≤65535:=by
 intro x hx
 unfold decL at hx
 split at hx
 ·exact walk_imm hb _ _ x hx
 ·simp at hx
structure TxnAt (h:DHeap) (id:Nat) (t:Txn) (vc va vr vw:Value):Prop where
 c0:cellAt h id 0=some (.int .i64 t.ses)
 c1:cellAt h id 1=some (.int .i64 t.req)
 c2:cellAt h id 2=some vc
 c3:cellAt h id 3=some va
 c4:cellAt h id 4=some vr
 c5:cellAt h id 5=some vw
theorem TxnAt.of {h:DHeap} {id z:Nat} {ro:Bool} {t:Txn} {vc va vr vw:Value} (g:h.get id=some (.row [.int .i64 t.ses,.int .i64 t.req,vc,va,vr,vw] z ro)):TxnAt h id t vc va vr vw:=
 ⟨cellAt_row g,cellAt_row g,cellAt_row g,cellAt_row g,cellAt_row g,cellAt_row g⟩
theorem any_take {t:Txn} {l:List Instr} {i:Nat} (hi:i<l.length) (h:(l.take i).any (badI t)=false) (hx:badI t l[i]=false):(l.take (i+1)).any (badI t)=false:=by
 rw[List.take_succ_eq_append_getElem hi,List.any_append,h,Bool.false_or]
 simp[hx]
set_option maxHeartbeats 1000000 in
theorem refCheckT_c {h:DHeap} {t:Txn} {vc va vr vw:Value} (hc:Arg fU8.rep h vc t.code) (ha:Arg fI64.rep h va t.args) (hr:Arg fKey.rep h vr t.reads) (hw:Arg fKey.rep h vw t.writes) (hl:t.code.length≤1048576) :
 DC Try.prog 41 [txnV t.ses t.req vc va vr vw] h (.ret (.int .i64 (txnE t))) h:=by
 refine Ct.pure (go_41 (by simp) ?_) (vin_int _ _)
 have hvc:=hc.cells1
 have hva:=ha.cells1
 have hvr:=hr.cells1
 have hvw:=hw.cells1
 obtain ⟨H,hH⟩:∃ H,H=h.push (.row [.int .i64 t.ses,.int .i64 t.req,vc,va,vr,vw] 0 false):=⟨_,rfl⟩
 have hE:Ext h H:=by rw[hH];exact Ext.push1 _ _
 have g:H.get h.next=some (.row [.int .i64 t.ses,.int .i64 t.req,vc,va,vr,vw] 0 false):=by rw[hH];exact get_push_same _ _
 have hHn:H.next=h.next+1:=by rw[hH];rfl
 have LT:∀ K,Ext H K→TxnAt K h.next t vc va vr vw:=fun K e=>TxnAt.of ((e.get _ (by omega)).trans g)
 have L0:=LT H (.refl _)
 have ea:∀ K,dLen Try.prog #[23] va K=some (.int .i64 (t.args.length:Nat)):=ha.lens (P:=Try.prog) (ts:=#[23]) (t:=23) rfl isl_23
 have er:∀ K,dLen Try.prog #[24] vr K=some (.int .i64 (t.reads.length:Nat)):=hr.lens (P:=Try.prog) (ts:=#[24]) (t:=24) rfl isl_24
 have ew:∀ K,dLen Try.prog #[24] vw K=some (.int .i64 (t.writes.length:Nat)):=hw.lens (P:=Try.prog) (ts:=#[24]) (t:=24) rfl isl_24
 by_cases p1:t.ses<1∨1099511627776<t.ses∨t.req<1∨1099511627776<t.req
 ·have hT:txnE t=1:=by rw[txnE,if_pos p1]
  by_cases q1:t.ses<1
  ·have q1':=eq_true q1
   simp -implicitDefEqProofs (disch:=first|omega|simp only[go_sem]) only[go_sem,true_and,c41,← hH,L0.c0,L0.c1,q1',dPick_t,dPick_f]
   exact ⟨_,rfl,by rw[hT],hE⟩
  by_cases q2:1099511627776<t.ses
  ·have q2':=eq_true q2
   simp -implicitDefEqProofs (disch:=first|omega|simp only[go_sem]) only[go_sem,true_and,c41,← hH,L0.c0,L0.c1,q1,q2',dPick_t,dPick_f]
   exact ⟨_,rfl,by rw[hT],hE⟩
  by_cases q3:t.req<1
  ·have q3':=eq_true q3
   simp -implicitDefEqProofs (disch:=first|omega|simp only[go_sem]) only[go_sem,true_and,c41,← hH,L0.c0,L0.c1,q1,q2,q3',dPick_t,dPick_f]
   exact ⟨_,rfl,by rw[hT],hE⟩
  have q4:1099511627776<t.req:=by omega
  have q4':=eq_true q4
  simp -implicitDefEqProofs (disch:=first|omega|simp only[go_sem]) only[go_sem,true_and,c41,← hH,L0.c0,L0.c1,q1,q2,q3,q4',dPick_t,dPick_f]
  exact ⟨_,rfl,by rw[hT],hE⟩
 have q1:¬ t.ses<1:=fun hh=>p1 (.inl hh)
 have q2:¬ 1099511627776<t.ses:=fun hh=>p1 (.inr (.inl hh))
 have q3:¬ t.req<1:=fun hh=>p1 (.inr (.inr (.inl hh)))
 have q4:¬ 1099511627776<t.req:=fun hh=>p1 (.inr (.inr (.inr hh)))
 by_cases p2:8<t.args.length∨16<t.reads.length∨16<t.writes.length
 ·have hT:txnE t=3:=by rw[txnE,if_neg p1,if_pos p2]
  by_cases r1:(8:Int)<(t.args.length:Nat)
  ·have r1':=eq_true r1
   simp -implicitDefEqProofs (disch:=first|omega|simp only[go_sem]) only[go_sem,true_and,c41,← hH,L0.c0,L0.c1,L0.c3,L0.c4,L0.c5,ea,er,ew,q1,q2,q3,q4,r1',dPick_t,dPick_f]
   exact ⟨_,rfl,by rw[hT],hE⟩
  by_cases r2:(16:Int)<(t.reads.length:Nat)
  ·have r2':=eq_true r2
   simp -implicitDefEqProofs (disch:=first|omega|simp only[go_sem]) only[go_sem,true_and,c41,← hH,L0.c0,L0.c1,L0.c3,L0.c4,L0.c5,ea,er,ew,q1,q2,q3,q4,r1,r2',dPick_t,dPick_f]
   exact ⟨_,rfl,by rw[hT],hE⟩
  have r3:(16:Int)<(t.writes.length:Nat):=by omega
  have r3':=eq_true r3
  simp -implicitDefEqProofs (disch:=first|omega|simp only[go_sem]) only[go_sem,true_and,c41,← hH,L0.c0,L0.c1,L0.c3,L0.c4,L0.c5,ea,er,ew,q1,q2,q3,q4,r1,r2,r3',dPick_t,dPick_f]
  exact ⟨_,rfl,by rw[hT],hE⟩
 have r1:¬ (8:Int)<(t.args.length:Nat):=by omega
 have r2:¬ (16:Int)<(t.reads.length:Nat):=by omega
 have r3:¬ (16:Int)<(t.writes.length:Nat):=by omega
 simp -implicitDefEqProofs (disch:=first|omega|simp only[go_sem]) only[go_sem,true_and,c41,← hH,L0.c0,L0.c1,L0.c3,L0.c4,L0.c5,ea,er,ew,q1,q2,q3,q4,r1,r2,r3,dPick_t,dPick_f]
 refine ncall (refRises_c (hr.ext hE) (by omega)) ?_
 cases u1:risesB keyLt t.reads with
 | false=>
   have hT:txnE t=1:=by rw[txnE,if_neg p1,if_neg p2,if_pos (.inl u1)]
   simp -implicitDefEqProofs (disch:=first|omega|simp only[go_sem]) only[go_sem,true_and,dPick_t,dPick_f]
   exact ⟨_,rfl,by rw[hT],hE⟩
 | true=>
 simp -implicitDefEqProofs (disch:=first|omega|simp only[go_sem]) only[go_sem,true_and,L0.c5]
 refine ncall (refRises_c (hw.ext hE) (by omega)) ?_
 cases u2:risesB keyLt t.writes with
 | false=>
   have hT:txnE t=1:=by rw[txnE,if_neg p1,if_neg p2,if_pos (.inr u2)]
   simp -implicitDefEqProofs (disch:=first|omega|simp only[go_sem]) only[go_sem,true_and,dPick_t,dPick_f]
   exact ⟨_,rfl,by rw[hT],hE⟩
 | true=>
 have hT:txnE t=if decE t.code≠0 then decE t.code else if (decL t.code).any (badI t) then 132 else 0:=by rw[txnE,if_neg p1,if_neg p2,if_neg (by simp[u1,u2])]
 simp -implicitDefEqProofs (disch:=first|omega|simp only[go_sem]) only[go_sem,true_and,dPick_t,dPick_f,L0.c2]
 refine ncall_ct (refDecode_c (hc.ext hE) hl) ?_
 rintro r h1 ⟨w,rfl,hE1,hxs⟩
 have L1:=LT h1 hE1
 by_cases he:decE t.code=0
 case neg=>
  rw[if_pos he]at hT
  simp -implicitDefEqProofs (disch:=first|omega|simp only[go_sem]) only[go_sem,true_and,XEnd,he]
  exact ⟨_,rfl,by rw[hT],hE.trans hE1⟩
 have he':=eq_true he
 rw[if_neg (fun hh=>hh he)]at hT
 obtain ⟨xs,hx⟩:∃ xs,decL t.code=xs:=⟨_,rfl⟩
 rw[hx]at hxs hT
 have elw:∀ K,dLen Try.prog #[74] w K=some (.int .i64 (xs.length:Nat)):=hxs.lens (P:=Try.prog) (ts:=#[74]) (t:=74) rfl isl_74
 have hxl:xs.length≤1048576:=by
  rw[← hx]
  rw[decL,if_pos he]
  have:=walkAt_len (l:=t.code) (n:=t.code.length) (i:=0) (by omega)
  omega
 simp -implicitDefEqProofs (disch:=first|omega|simp only[go_sem]) only[go_sem,true_and,XEnd,he']
 refine xloop (σ:=Nat) (by kernel_rfl) (fun i s=>s.df=[]∧s.h=h1∧s.fr 1=some (.pointer (some ⟨h.next,0,none⟩))∧s.fr 3=some w∧s.fr 5=some (.int .i64 (i:Nat))∧i≤xs.length∧(xs.take i).any (badI t)=false) (fun i=>xs.length - i) 0 ?_ ?_
 ·simp -implicitDefEqProofs (disch:=first|omega|simp only[go_sem]) only[go_sem,true_and]
  exact ⟨rfl,Nat.zero_le _,rfl⟩
 ·rintro i ⟨fr,df,K,rd⟩ K' hK' hX ⟨rfl,rfl,f1,f3,f5,hi,hn⟩
  simp only at f1 f3 f5
  simp -implicitDefEqProofs (disch:=first|omega|simp only[go_sem]) only[go_sem,true_and,f3,f5,elw]
  refine XIf_dec (fun hc1=>?_) (fun hc1=>?_)
  ·have hj:i<xs.length:=by omega
   obtain ⟨id,o,g',_,_,d1,d4⟩:=instr_idx hxs hj
   have hw1:=wrap_succ hj (by omega)
   have hmem:=List.getElem_mem hj
   have hsucc:=fun hx=>any_take (t:=t) hj hn hx
   have hbad:∀ hb:badI t xs[i]=true,xs.any (badI t)=true:=fun hb=>List.any_eq_true.2 ⟨_,hmem,hb⟩
   obtain ⟨x,hxi⟩:∃ x,xs[i]=x:=⟨_,rfl⟩
   rw[hxi]at d1 d4 hsucc hbad
   have good:∀ {s:St},s.df=[]→s.h=K→s.fr 1=some (.pointer (some ⟨h.next,0,none⟩))→s.fr 3=some w→s.fr 5=some (.int .i64 ((i+1:Nat):Int))→badI t x=false→K' .normal s:=fun a b c d e f=>
    hK' (i+1) _ ⟨a,b,c,d,e,by omega,hsucc f⟩ (by omega)
   have bad:badI t x=true→∃ v,some (Value.int .i64 132)=some v∧DEnd.ret v=.ret (.int .i64 (txnE t))∧Ext h K:=fun hb=>by
    rw[hbad hb,if_pos rfl]at hT
    exact ⟨_,rfl,by rw[hT],hE.trans hE1⟩
   by_cases n3:x.op=3
   ·have o':=eq_true n3
    have hb:badI t x=decide ((t.reads.length:Int)≤x.imm):=by simp[badI,n3]
    by_cases hm:(t.reads.length:Int)≤x.imm
    ·have hm':=eq_true hm
     simp -implicitDefEqProofs (disch:=first|omega|simp only[go_sem]) only[go_sem,true_and,f1,f3,f5,g',d1,d4,L1.c4,er,o',hm']
     refine hX _ _ (by simp) ?_
     simp -implicitDefEqProofs (disch:=first|omega|simp only[go_sem]) only[go_sem,true_and]
     exact bad (by rw[hb,decide_eq_true hm])
    ·simp -implicitDefEqProofs (disch:=first|omega|simp only[go_sem]) only[go_sem,true_and,f1,f3,f5,g',d1,d4,L1.c4,er,o',hm,hw1]
     exact good rfl rfl (vy f1) (vy f3) vz (by rw[hb,decide_eq_false hm])
   by_cases n4:x.op=4
   ·have o':=eq_true n4
    have hb:badI t x=decide ((t.reads.length:Int)≤x.imm):=by simp[badI,n3,n4]
    by_cases hm:(t.reads.length:Int)≤x.imm
    ·have hm':=eq_true hm
     simp -implicitDefEqProofs (disch:=first|omega|simp only[go_sem]) only[go_sem,true_and,f1,f3,f5,g',d1,d4,L1.c4,er,n3,o',hm']
     refine hX _ _ (by simp) ?_
     simp -implicitDefEqProofs (disch:=first|omega|simp only[go_sem]) only[go_sem,true_and]
     exact bad (by rw[hb,decide_eq_true hm])
    ·simp -implicitDefEqProofs (disch:=first|omega|simp only[go_sem]) only[go_sem,true_and,f1,f3,f5,g',d1,d4,L1.c4,er,n3,o',hm,hw1]
     exact good rfl rfl (vy f1) (vy f3) vz (by rw[hb,decide_eq_false hm])
   by_cases n5:x.op=5
   ·have o':=eq_true n5
    have hb:badI t x=decide ((t.writes.length:Int)≤x.imm):=by simp[badI,n3,n4,n5]
    by_cases hm:(t.writes.length:Int)≤x.imm
    ·have hm':=eq_true hm
     simp -implicitDefEqProofs (disch:=first|omega|simp only[go_sem]) only[go_sem,true_and,f1,f3,f5,g',d1,d4,L1.c5,ew,n3,n4,o',hm']
     refine hX _ _ (by simp) ?_
     simp -implicitDefEqProofs (disch:=first|omega|simp only[go_sem]) only[go_sem,true_and]
     exact bad (by rw[hb,decide_eq_true hm])
    ·simp -implicitDefEqProofs (disch:=first|omega|simp only[go_sem]) only[go_sem,true_and,f1,f3,f5,g',d1,d4,L1.c5,ew,n3,n4,o',hm,hw1]
     exact good rfl rfl (vy f1) (vy f3) vz (by rw[hb,decide_eq_false hm])
   by_cases n6:x.op=6
   ·have o':=eq_true n6
    have hb:badI t x=decide ((t.writes.length:Int)≤x.imm):=by simp[badI,n3,n4,n5,n6]
    by_cases hm:(t.writes.length:Int)≤x.imm
    ·have hm':=eq_true hm
     simp -implicitDefEqProofs (disch:=first|omega|simp only[go_sem]) only[go_sem,true_and,f1,f3,f5,g',d1,d4,L1.c5,ew,n3,n4,n5,o',hm']
     refine hX _ _ (by simp) ?_
     simp -implicitDefEqProofs (disch:=first|omega|simp only[go_sem]) only[go_sem,true_and]
     exact bad (by rw[hb,decide_eq_true hm])
    ·simp -implicitDefEqProofs (disch:=first|omega|simp only[go_sem]) only[go_sem,true_and,f1,f3,f5,g',d1,d4,L1.c5,ew,n3,n4,n5,o',hm,hw1]
     exact good rfl rfl (vy f1) (vy f3) vz (by rw[hb,decide_eq_false hm])
   by_cases n2:x.op=2
   ·have o':=eq_true n2
    have hb:badI t x=decide ((t.args.length:Int)≤x.imm):=by simp[badI,n3,n4,n5,n6,n2]
    by_cases hm:(t.args.length:Int)≤x.imm
    ·have hm':=eq_true hm
     simp -implicitDefEqProofs (disch:=first|omega|simp only[go_sem]) only[go_sem,true_and,f1,f3,f5,g',d1,d4,L1.c3,ea,n3,n4,n5,n6,o',hm']
     refine hX _ _ (by simp) ?_
     simp -implicitDefEqProofs (disch:=first|omega|simp only[go_sem]) only[go_sem,true_and]
     exact bad (by rw[hb,decide_eq_true hm])
    ·simp -implicitDefEqProofs (disch:=first|omega|simp only[go_sem]) only[go_sem,true_and,f1,f3,f5,g',d1,d4,L1.c3,ea,n3,n4,n5,n6,o',hm,hw1]
     exact good rfl rfl (vy f1) (vy f3) vz (by rw[hb,decide_eq_false hm])
   have hb:badI t x=false:=by simp[badI,n3,n4,n5,n6,n2]
   simp -implicitDefEqProofs (disch:=first|omega|simp only[go_sem]) only[go_sem,true_and,f1,f3,f5,g',d1,d4,n3,n4,n5,n6,n2,hw1]
   exact good rfl rfl (vy f1) (vy f3) vz hb
  ·obtain rfl:i=xs.length:=by omega
   rw[List.take_length]at hn
   rw[hn]at hT
   refine hX _ _ (by simp) ?_
   simp -implicitDefEqProofs (disch:=first|omega|simp only[go_sem]) only[go_sem,true_and]
   exact ⟨_,rfl,by rw[hT];rfl,hE.trans hE1⟩
end Go.Proofs.Ythjmkmoiopmfcaa

namespace Go.Proofs.Ythjmkmoiopmfcaa
open Go.D
set_option maxRecDepth 100000
set_option maxHeartbeats 1000000 in
theorem checkT_c {h:DHeap} {t:Txn} {vc va vr vw:Value} (hc:Arg fU8.rep h vc t.code) (ha:Arg fI64.rep h va t.args) (hr:Arg fKey.rep h vr t.reads) (hw:Arg fKey.rep h vw t.writes) (hl:t.code.length≤1048576) (hby:∀ j,0≤t.code.getD j 0∧t.code.getD j 0≤255) :
 DC Try.prog 23 [txnV t.ses t.req vc va vr vw] h (.ret (.int .i64 (txnE t))) h:=by
 refine Ct.pure (go_23 (by simp) ?_) (vin_int _ _)
 have hvc:=hc.cells1
 have hva:=ha.cells1
 have hvr:=hr.cells1
 have hvw:=hw.cells1
 obtain ⟨H,hH⟩:∃ H,H=h.push (.row [.int .i64 t.ses,.int .i64 t.req,vc,va,vr,vw] 0 false):=⟨_,rfl⟩
 have hE:Ext h H:=by rw[hH];exact Ext.push1 _ _
 have g:H.get h.next=some (.row [.int .i64 t.ses,.int .i64 t.req,vc,va,vr,vw] 0 false):=by rw[hH];exact get_push_same _ _
 have hHn:H.next=h.next+1:=by rw[hH];rfl
 have LT:∀ K,Ext H K→TxnAt K h.next t vc va vr vw:=fun K e=>TxnAt.of ((e.get _ (by omega)).trans g)
 have L0:=LT H (.refl _)
 have ea:∀ K,dLen Try.prog #[23] va K=some (.int .i64 (t.args.length:Nat)):=ha.lens (P:=Try.prog) (ts:=#[23]) (t:=23) rfl isl_23
 have er:∀ K,dLen Try.prog #[24] vr K=some (.int .i64 (t.reads.length:Nat)):=hr.lens (P:=Try.prog) (ts:=#[24]) (t:=24) rfl isl_24
 have ew:∀ K,dLen Try.prog #[24] vw K=some (.int .i64 (t.writes.length:Nat)):=hw.lens (P:=Try.prog) (ts:=#[24]) (t:=24) rfl isl_24
 by_cases p1:t.ses<1∨1099511627776<t.ses∨t.req<1∨1099511627776<t.req
 ·have hT:txnE t=1:=by rw[txnE,if_pos p1]
  by_cases q1:t.ses<1
  ·have q1':=eq_true q1
   simp -implicitDefEqProofs (disch:=first|omega|simp only[go_sem]) only[go_sem,true_and,c23,← hH,L0.c0,L0.c1,q1',dPick_t,dPick_f]
   exact ⟨_,rfl,by rw[hT],hE⟩
  by_cases q2:1099511627776<t.ses
  ·have q2':=eq_true q2
   simp -implicitDefEqProofs (disch:=first|omega|simp only[go_sem]) only[go_sem,true_and,c23,← hH,L0.c0,L0.c1,q1,q2',dPick_t,dPick_f]
   exact ⟨_,rfl,by rw[hT],hE⟩
  by_cases q3:t.req<1
  ·have q3':=eq_true q3
   simp -implicitDefEqProofs (disch:=first|omega|simp only[go_sem]) only[go_sem,true_and,c23,← hH,L0.c0,L0.c1,q1,q2,q3',dPick_t,dPick_f]
   exact ⟨_,rfl,by rw[hT],hE⟩
  have q4:1099511627776<t.req:=by omega
  have q4':=eq_true q4
  simp -implicitDefEqProofs (disch:=first|omega|simp only[go_sem]) only[go_sem,true_and,c23,← hH,L0.c0,L0.c1,q1,q2,q3,q4',dPick_t,dPick_f]
  exact ⟨_,rfl,by rw[hT],hE⟩
 have q1:¬ t.ses<1:=fun hh=>p1 (.inl hh)
 have q2:¬ 1099511627776<t.ses:=fun hh=>p1 (.inr (.inl hh))
 have q3:¬ t.req<1:=fun hh=>p1 (.inr (.inr (.inl hh)))
 have q4:¬ 1099511627776<t.req:=fun hh=>p1 (.inr (.inr (.inr hh)))
 by_cases p2:8<t.args.length∨16<t.reads.length∨16<t.writes.length
 ·have hT:txnE t=3:=by rw[txnE,if_neg p1,if_pos p2]
  by_cases r1:(8:Int)<(t.args.length:Nat)
  ·have r1':=eq_true r1
   simp -implicitDefEqProofs (disch:=first|omega|simp only[go_sem]) only[go_sem,true_and,c23,← hH,L0.c0,L0.c1,L0.c3,L0.c4,L0.c5,ea,er,ew,q1,q2,q3,q4,r1',dPick_t,dPick_f]
   exact ⟨_,rfl,by rw[hT],hE⟩
  by_cases r2:(16:Int)<(t.reads.length:Nat)
  ·have r2':=eq_true r2
   simp -implicitDefEqProofs (disch:=first|omega|simp only[go_sem]) only[go_sem,true_and,c23,← hH,L0.c0,L0.c1,L0.c3,L0.c4,L0.c5,ea,er,ew,q1,q2,q3,q4,r1,r2',dPick_t,dPick_f]
   exact ⟨_,rfl,by rw[hT],hE⟩
  have r3:(16:Int)<(t.writes.length:Nat):=by omega
  have r3':=eq_true r3
  simp -implicitDefEqProofs (disch:=first|omega|simp only[go_sem]) only[go_sem,true_and,c23,← hH,L0.c0,L0.c1,L0.c3,L0.c4,L0.c5,ea,er,ew,q1,q2,q3,q4,r1,r2,r3',dPick_t,dPick_f]
  exact ⟨_,rfl,by rw[hT],hE⟩
 have r1:¬ (8:Int)<(t.args.length:Nat):=by omega
 have r2:¬ (16:Int)<(t.reads.length:Nat):=by omega
 have r3:¬ (16:Int)<(t.writes.length:Nat):=by omega
 simp -implicitDefEqProofs (disch:=first|omega|simp only[go_sem]) only[go_sem,true_and,c23,← hH,L0.c0,L0.c1,L0.c3,L0.c4,L0.c5,ea,er,ew,q1,q2,q3,q4,r1,r2,r3,dPick_t,dPick_f]
 refine ncall (rises_c (hr.ext hE) (by omega)) ?_
 cases u1:risesB keyLt t.reads with
 | false=>
   have hT:txnE t=1:=by rw[txnE,if_neg p1,if_neg p2,if_pos (.inl u1)]
   simp -implicitDefEqProofs (disch:=first|omega|simp only[go_sem]) only[go_sem,true_and,dPick_t,dPick_f]
   exact ⟨_,rfl,by rw[hT],hE⟩
 | true=>
 simp -implicitDefEqProofs (disch:=first|omega|simp only[go_sem]) only[go_sem,true_and,L0.c5]
 refine ncall (rises_c (hw.ext hE) (by omega)) ?_
 cases u2:risesB keyLt t.writes with
 | false=>
   have hT:txnE t=1:=by rw[txnE,if_neg p1,if_neg p2,if_pos (.inr u2)]
   simp -implicitDefEqProofs (disch:=first|omega|simp only[go_sem]) only[go_sem,true_and,dPick_t,dPick_f]
   exact ⟨_,rfl,by rw[hT],hE⟩
 | true=>
 have hT:txnE t=if decE t.code≠0 then decE t.code else if (decL t.code).any (badI t) then 132 else 0:=by rw[txnE,if_neg p1,if_neg p2,if_neg (by simp[u1,u2])]
 simp -implicitDefEqProofs (disch:=first|omega|simp only[go_sem]) only[go_sem,true_and,dPick_t,dPick_f,L0.c2]
 refine ncall_ct (decode_c (hc.ext hE) hl) ?_
 rintro r h1 ⟨w,rfl,hE1,hxs⟩
 have L1:=LT h1 hE1
 by_cases he:decE t.code=0
 case neg=>
  rw[if_pos he]at hT
  simp -implicitDefEqProofs (disch:=first|omega|simp only[go_sem]) only[go_sem,true_and,XEnd,he]
  exact ⟨_,rfl,by rw[hT],hE.trans hE1⟩
 have he':=eq_true he
 rw[if_neg (fun hh=>hh he)]at hT
 obtain ⟨xs,hx⟩:∃ xs,decL t.code=xs:=⟨_,rfl⟩
 rw[hx]at hxs hT
 have elw:∀ K,dLen Try.prog #[74] w K=some (.int .i64 (xs.length:Nat)):=hxs.lens (P:=Try.prog) (ts:=#[74]) (t:=74) rfl isl_74
 have hxl:xs.length≤1048576:=by
  rw[← hx]
  rw[decL,if_pos he]
  have:=walkAt_len (l:=t.code) (n:=t.code.length) (i:=0) (by omega)
  omega
 simp -implicitDefEqProofs (disch:=first|omega|simp only[go_sem]) only[go_sem,true_and,XEnd,he',elw]
 have himm:=decL_imm hby
 rw[hx]at himm
 refine xloop (σ:=Nat) (by kernel_rfl) (fun i s=>s.df=[]∧s.rd=none∧Ext h1 s.h∧s.fr 1=some (.pointer (some ⟨h.next,0,none⟩))∧s.fr 64=some w∧s.fr 65=some (.int .i64 (xs.length:Nat))∧s.fr 66=some (.int .i64 (i:Nat))∧i≤xs.length∧(xs.take i).any (badI t)=false) (fun i=>xs.length - i) 0 ?_ ?_
 ·simp -implicitDefEqProofs (disch:=first|omega|simp only[go_sem]) only[go_sem,true_and]
  exact ⟨.refl _,rfl,Nat.zero_le _,rfl⟩
 ·rintro i ⟨fr,df,K,rd⟩ K' hK' hX ⟨hdf,hrd,hEK,f1,f64,f65,f66,hi,hn⟩
  simp only at hdf hrd hEK f1 f64 f65 f66
  subst hdf hrd
  simp -implicitDefEqProofs (disch:=first|omega|simp only[go_sem]) only[go_sem,true_and,f65,f66]
  refine XIf_dec (fun hc1=>?_) (fun hc1=>?_)
  ·have hj:i<xs.length:=by omega
   obtain ⟨id,o,g',c5,_,_,_⟩:=instr_idx (hxs.ext hEK) hj
   have hw1:=wrap_succ hj (by omega)
   have hmem:=List.getElem_mem hj
   have him:=himm _ hmem
   have hsucc:=fun hx=>any_take (t:=t) hj hn hx
   have hbad:∀ hb:badI t xs[i]=true,xs.any (badI t)=true:=fun hb=>List.any_eq_true.2 ⟨_,hmem,hb⟩
   obtain ⟨x,hxi⟩:∃ x,xs[i]=x:=⟨_,rfl⟩
   rw[hxi]at c5 hsucc hbad him
   obtain ⟨K1,hK1⟩:∃ K1,K1=K.push (.row (fInstr.enc x) 0 false):=⟨_,rfl⟩
   have g1:K1.get K.next=some (.row (fInstr.enc x) 0 false):=by rw[hK1];exact get_push_same _ _
   have p1':cellAt K1 K.next 1=some (.int .i64 x.op):=cellAt_row g1
   have p4:cellAt K1 K.next 4=some (.int .i64 x.imm):=cellAt_row g1
   have s5:=store5 (h:=K) (x:=x)
   rw[← hK1]at s5
   have hEK1:Ext h1 K1:=hEK.trans (by rw[hK1];exact Ext.push1 _ _)
   have L2:=LT K1 (hE1.trans hEK1)
   have good:∀ {s:St},s.df=[]→s.rd=none→s.h=K1→s.fr 1=some (.pointer (some ⟨h.next,0,none⟩))→s.fr 64=some w→s.fr 65=some (.int .i64 (xs.length:Nat))→s.fr 66=some (.int .i64 ((i+1:Nat):Int))→badI t x=false→K' .normal s:=fun a r b c d e g f=>
    hK' (i+1) _ ⟨a,r,b▸hEK1,c,d,e,g,by omega,hsucc f⟩ (by omega)
   have bad:badI t x=true→∃ v,some (Value.int .i64 132)=some v∧DEnd.ret v=.ret (.int .i64 (txnE t))∧Ext h K1:=fun hb=>by
    rw[hbad hb,if_pos rfl]at hT
    exact ⟨_,rfl,by rw[hT],(hE.trans hE1).trans hEK1⟩
   by_cases n3:x.op=3
   ·have o':=eq_true n3
    have hb:badI t x=decide ((t.reads.length:Int)≤x.imm):=by simp[badI,n3]
    by_cases hm:(t.reads.length:Int)≤x.imm
    ·have hm':=eq_true hm
     simp -implicitDefEqProofs (disch:=first|omega|simp only[go_sem]) only[go_sem,true_and,f1,f64,f66,g',c5,s5,p1',p4,L2.c4,er,o',hm']
     refine hX _ _ (by simp) ?_
     simp -implicitDefEqProofs (disch:=first|omega|simp only[go_sem]) only[go_sem,true_and]
     exact bad (by rw[hb,decide_eq_true hm])
    ·simp -implicitDefEqProofs (disch:=first|omega|simp only[go_sem]) only[go_sem,true_and,f1,f64,f66,g',c5,s5,p1',p4,L2.c4,er,o',hm,hw1]
     exact good rfl rfl rfl (vy f1) (vy f64) (vy f65) vz (by rw[hb,decide_eq_false hm])
   by_cases n4:x.op=4
   ·have o':=eq_true n4
    have hb:badI t x=decide ((t.reads.length:Int)≤x.imm):=by simp[badI,n3,n4]
    by_cases hm:(t.reads.length:Int)≤x.imm
    ·have hm':=eq_true hm
     simp -implicitDefEqProofs (disch:=first|omega|simp only[go_sem]) only[go_sem,true_and,f1,f64,f66,g',c5,s5,p1',p4,L2.c4,er,n3,o',hm']
     refine hX _ _ (by simp) ?_
     simp -implicitDefEqProofs (disch:=first|omega|simp only[go_sem]) only[go_sem,true_and]
     exact bad (by rw[hb,decide_eq_true hm])
    ·simp -implicitDefEqProofs (disch:=first|omega|simp only[go_sem]) only[go_sem,true_and,f1,f64,f66,g',c5,s5,p1',p4,L2.c4,er,n3,o',hm,hw1]
     exact good rfl rfl rfl (vy f1) (vy f64) (vy f65) vz (by rw[hb,decide_eq_false hm])
   by_cases n5:x.op=5
   ·have o':=eq_true n5
    have hb:badI t x=decide ((t.writes.length:Int)≤x.imm):=by simp[badI,n3,n4,n5]
    by_cases hm:(t.writes.length:Int)≤x.imm
    ·have hm':=eq_true hm
     simp -implicitDefEqProofs (disch:=first|omega|simp only[go_sem]) only[go_sem,true_and,f1,f64,f66,g',c5,s5,p1',p4,L2.c5,ew,n3,n4,o',hm']
     refine hX _ _ (by simp) ?_
     simp -implicitDefEqProofs (disch:=first|omega|simp only[go_sem]) only[go_sem,true_and]
     exact bad (by rw[hb,decide_eq_true hm])
    ·simp -implicitDefEqProofs (disch:=first|omega|simp only[go_sem]) only[go_sem,true_and,f1,f64,f66,g',c5,s5,p1',p4,L2.c5,ew,n3,n4,o',hm,hw1]
     exact good rfl rfl rfl (vy f1) (vy f64) (vy f65) vz (by rw[hb,decide_eq_false hm])
   by_cases n6:x.op=6
   ·have o':=eq_true n6
    have hb:badI t x=decide ((t.writes.length:Int)≤x.imm):=by simp[badI,n3,n4,n5,n6]
    by_cases hm:(t.writes.length:Int)≤x.imm
    ·have hm':=eq_true hm
     simp -implicitDefEqProofs (disch:=first|omega|simp only[go_sem]) only[go_sem,true_and,f1,f64,f66,g',c5,s5,p1',p4,L2.c5,ew,n3,n4,n5,o',hm']
     refine hX _ _ (by simp) ?_
     simp -implicitDefEqProofs (disch:=first|omega|simp only[go_sem]) only[go_sem,true_and]
     exact bad (by rw[hb,decide_eq_true hm])
    ·simp -implicitDefEqProofs (disch:=first|omega|simp only[go_sem]) only[go_sem,true_and,f1,f64,f66,g',c5,s5,p1',p4,L2.c5,ew,n3,n4,n5,o',hm,hw1]
     exact good rfl rfl rfl (vy f1) (vy f64) (vy f65) vz (by rw[hb,decide_eq_false hm])
   by_cases n2:x.op=2
   ·have o':=eq_true n2
    have hb:badI t x=decide ((t.args.length:Int)≤x.imm):=by simp[badI,n3,n4,n5,n6,n2]
    by_cases hm:(t.args.length:Int)≤x.imm
    ·have hm':=eq_true hm
     simp -implicitDefEqProofs (disch:=first|omega|simp only[go_sem]) only[go_sem,true_and,f1,f64,f66,g',c5,s5,p1',p4,L2.c3,ea,n3,n4,n5,n6,o',hm']
     refine hX _ _ (by simp) ?_
     simp -implicitDefEqProofs (disch:=first|omega|simp only[go_sem]) only[go_sem,true_and]
     exact bad (by rw[hb,decide_eq_true hm])
    ·simp -implicitDefEqProofs (disch:=first|omega|simp only[go_sem]) only[go_sem,true_and,f1,f64,f66,g',c5,s5,p1',p4,L2.c3,ea,n3,n4,n5,n6,o',hm,hw1]
     exact good rfl rfl rfl (vy f1) (vy f64) (vy f65) vz (by rw[hb,decide_eq_false hm])
   have hb:badI t x=false:=by simp[badI,n3,n4,n5,n6,n2]
   have hm:¬ 1048576≤x.imm:=by omega
   simp -implicitDefEqProofs (disch:=first|omega|simp only[go_sem]) only[go_sem,true_and,f1,f64,f66,g',c5,s5,p1',p4,n3,n4,n5,n6,n2,hm,hw1]
   exact good rfl rfl rfl (vy f1) (vy f64) (vy f65) vz hb
  ·obtain rfl:i=xs.length:=by omega
   rw[List.take_length]at hn
   rw[hn]at hT
   refine hX _ _ (by simp) ?_
   simp -implicitDefEqProofs (disch:=first|omega|simp only[go_sem]) only[go_sem,true_and]
   exact ⟨_,rfl,by rw[hT];rfl,(hE.trans hE1).trans hEK⟩
end Go.Proofs.Ythjmkmoiopmfcaa

namespace Go.Proofs.Ythjmkmoiopmfcaa
open Go.D
set_option maxRecDepth 100000
theorem clone_keys {h:DHeap} {b:Value} {l:List Key} (hb:Arg fKey.rep h b l) (hl:l.length≤4294967296):DC Try.prog 77 [b] h (.ret (cloneV h b l)) (cloneH fKey h b l):=by
 refine Ct.cloned hb (go_77 (by simp) ?_)
 simp -implicitDefEqProofs (disch:=first|omega|simp only[go_sem]) only[go_sem,c77,hb.nilEq isl_24]
 refine XIf_split (fun hn=>?_) (fun hn=>?_)
 ·simp -implicitDefEqProofs (disch:=first|omega|simp only[go_sem]) only[go_sem]
  obtain ⟨_,rfl⟩:=isNilV_nil hb hn
  exact ⟨_,rfl,_,rfl,.nil _ (.refl h),hn.symm⟩
 ·have m0:Made fKey h (h.push (.row [] 2 false)) (.slice (some ⟨h.next,0,none⟩) 0 0) []:=.none0 fKey (.refl h) rfl
  obtain ⟨v2,h2,e2,m2,k2⟩:=m0.append app_24 (hb.ext (Ext.push1 _ _)) (by simpa using hl) (by decide)
  simp -implicitDefEqProofs (disch:=first|omega|simp only[go_sem]) only[go_sem,e2]
  exact ⟨_,rfl,_,rfl,m2,(m0.isNil_append rfl m2 fun hk=>(k2 hk).1).trans hn.symm⟩
structure TxV (S:Nat→Prop) (h:DHeap) (t:Txn) (vc va vr vw:Value):Prop where
 c:Sl fU8.rep S h vc t.code
 a:Sl fI64.rep S h va t.args
 r:Sl fKey.rep S h vr t.reads
 w:Sl fKey.rep S h vw t.writes
theorem TxV.mono {S S':Nat→Prop} {h h':DHeap} {t:Txn} {vc va vr vw:Value} (x:TxV S h t vc va vr vw) (m:∀ i,S i→S' i∧h'.get i=h.get i):TxV S' h' t vc va vr vw:=
 ⟨x.c.mono m,x.a.mono m,x.r.mono m,x.w.mono m⟩
structure TxLen (t:Txn):Prop where
 c:t.code.length≤1048576
 a:t.args.length≤1048576
 r:t.reads.length≤1048576
 w:t.writes.length≤1048576
abbrev InH (h:DHeap):Nat→Prop:=fun i=>i<h.next
abbrev Fresh (h h1:DHeap):Nat→Prop:=fun i=>h.next≤i∧i<h1.next
theorem TxV.ext {h h1:DHeap} {t:Txn} {vc va vr vw:Value} (x:TxV (InH h) h t vc va vr vw) (e:Ext h h1):TxV (InH h1) h1 t vc va vr vw:=
 x.mono fun i hi=>⟨Nat.lt_of_lt_of_le hi e.next,e.get i hi⟩
theorem TxV.one {S:Nat→Prop} {h:DHeap} {t:Txn} {vc va vr vw:Value} (x:TxV S h t vc va vr vw) (a b:Int):[.int .i64 a,.int .i64 b,vc,va,vr,vw].all Value.oneCell'=true:=by
 obtain ⟨_,_,rfl⟩:=x.c.isSlice
 obtain ⟨_,_,rfl⟩:=x.a.isSlice
 obtain ⟨_,_,rfl⟩:=x.r.isSlice
 obtain ⟨_,_,rfl⟩:=x.w.isSlice
 rfl
def Wrt (h:DHeap) (i:Nat):Prop:=∃ cs z,h.get i=some (.row cs z false)
theorem slW_mono {α:Type} {R:Rep α} {S S':Nat→Prop} {h h':DHeap} {v:Value} {l:List α} (x:Sl R (fun i=>S i∧Wrt h i) h v l) (m:∀ i,S i→S' i∧h'.get i=h.get i):Sl R (fun i=>S' i∧Wrt h' i) h' v l:=
 x.mono fun i hi=>by
  obtain ⟨a,b⟩:=m i hi.1
  obtain ⟨cs,z,g⟩:=hi.2
  exact ⟨⟨a,cs,z,b.trans g⟩,b⟩
def TxW (S:Nat→Prop) (h:DHeap) (t:Txn) (vc va vr vw:Value):Prop:=TxV (fun i=>S i∧Wrt h i) h t vc va vr vw
theorem TxW.v {S:Nat→Prop} {h:DHeap} {t:Txn} {vc va vr vw:Value} (x:TxW S h t vc va vr vw):TxV S h t vc va vr vw:=TxV.mono x fun _ hi=>⟨hi.1,rfl⟩
theorem TxW.mono {S S':Nat→Prop} {h h':DHeap} {t:Txn} {vc va vr vw:Value} (x:TxW S h t vc va vr vw) (m:∀ i,S i→S' i∧h'.get i=h.get i):TxW S' h' t vc va vr vw:=
 ⟨slW_mono x.c m,slW_mono x.a m,slW_mono x.r m,slW_mono x.w m⟩
end Go.Proofs.Ythjmkmoiopmfcaa

namespace Go.Proofs.Ythjmkmoiopmfcaa
open Go.D
set_option maxRecDepth 100000
theorem idx_first {P:Program} {t:TypeId} {s:ByteArray} (ht:P.underlying t=some .string) (hs:s[0]? = some 0):dIndex P t (.string s) (.int .u8 (IntKind.u8.wrap 0))=some (.int .u8 0):=by
 rw[show IntKind.u8.wrap 0=0 by decide]
 unfold dIndex
 rw[ht]
 simp only[Int.le_refl,if_true,Int.toNat_zero,hs]
 rfl
theorem len64_0 {h:DHeap}:DC Try.prog 108 [.int .u64 0] h (.ret (.int .i64 0)) h:=by
 refine Ct.pure (go_108 (by simp) ?_) (vin_int _ _)
 simp -implicitDefEqProofs (disch:=first|omega|simp only[go_sem]) only[go_sem,true_and,c108]
 rw[idx_first (by kernel_rfl) (by kernel_rfl)]
 simp -implicitDefEqProofs (disch:=first|omega|simp only[go_sem]) only[go_sem,true_and]
 exact ⟨_,rfl,congrArg (fun z=>DEnd.ret (Value.int IntKind.i64 z)) (by decide),.refl _⟩
theorem len_0 {h:DHeap}:DC Try.prog 92 [.int .u64 0] h (.ret (.int .i64 0)) h:=by
 refine Ct.pure (go_92 (by simp) ?_) (vin_int _ _)
 simp -implicitDefEqProofs (disch:=first|omega|simp only[go_sem]) only[go_sem,true_and,c92]
 refine ncall len64_0 ?_
 simp -implicitDefEqProofs (disch:=first|omega|simp only[go_sem]) only[go_sem,true_and]
 exact ⟨_,rfl,rfl,.refl _⟩
theorem insertion_0 {h:DHeap} {v:Value} {g:Value}:Ct Try.prog 99 [v,.int .i64 0,.int .i64 0,g] h fun r h1=>r=.ret (.tuple #[])∧h1=h:=by
 refine go_99 (by simp) ?_
 simp -implicitDefEqProofs (disch:=first|omega|simp only[go_sem]) only[go_sem,true_and,c99]
 refine xloop (σ:=Nat) (by kernel_rfl) (fun j s=>s.df=[]∧s.h=h∧s.fr 2=some (.int .i64 0)∧s.fr 8=some (.int .i64 1)) (fun j=>0) 0 ?_ ?_
 ·simp -implicitDefEqProofs (disch:=first|omega|simp only[go_sem]) only[go_sem,true_and]
  exact congrArg some (congrArg (Value.int IntKind.i64) (by decide))
 ·rintro i ⟨fr,df,K,rd⟩ K' hK' hX ⟨rfl,rfl,f2,f8⟩
  simp only at f2 f8
  simp -implicitDefEqProofs (disch:=first|omega|simp only[go_sem]) only[go_sem,true_and,f2,f8]
  refine hX _ _ (by simp) ?_
  simp -implicitDefEqProofs (disch:=first|omega|simp only[go_sem]) only[go_sem,true_and]
  exact ⟨_,rfl,rfl,trivial⟩
theorem pdq_0 {h:DHeap} {v g x:Value}:Ct Try.prog 91 [v,.int .i64 0,.int .i64 0,x,g] h fun r h1=>r=.ret (.tuple #[])∧h1=h:=by
 refine go_91 (by simp) ?_
 have e0:IntKind.i64.wrap (0 - 0)=0:=by decide
 simp -implicitDefEqProofs (disch:=first|omega|simp only[go_sem]) only[go_sem,true_and,c91]
 refine xloop (σ:=Nat) (by kernel_rfl) (fun j s=>s.df=[]∧s.rd=none∧s.h=h∧s.fr 0=some v∧s.fr 1=some (.int .i64 0)∧s.fr 2=some (.int .i64 0)∧s.fr 4=some g) (fun j=>0) 0 ?_ ?_
 ·simp -implicitDefEqProofs (disch:=first|omega|simp only[go_sem]) only[go_sem,true_and]
 ·rintro i ⟨fr,df,K,rd⟩ K' hK' hX ⟨rfl,rfl,rfl,f0,f1,f2,f4⟩
  simp only at f0 f1 f2 f4
  simp -implicitDefEqProofs (disch:=first|omega|simp only[go_sem]) only[go_sem,true_and,f0,f1,f2,f4,e0]
  refine ncall_ct insertion_0 ?_
  rintro r h1 ⟨rfl,rfl⟩
  simp -implicitDefEqProofs (disch:=first|omega|simp only[go_sem]) only[go_sem,true_and,XEnd]
  refine hX _ _ (by simp) ?_
  simp -implicitDefEqProofs (disch:=first|omega|simp only[go_sem]) only[go_sem,true_and]
  exact ⟨_,rfl,rfl,trivial⟩
theorem sort_0 {h:DHeap} {v:Value} {g:Value} (hb:Arg fKey.rep h v []):Ct Try.prog 78 [v,g] h fun r h1=>r=.ret (.tuple #[])∧h1=h:=by
 refine go_78 (by simp) ?_
 have el:∀ K,dLen Try.prog #[24] v K=some (.int .i64 ((([]:List Key).length:Nat):Int)):=hb.lens (P:=Try.prog) (ts:=#[24]) (t:=24) rfl isl_24
 have e0:IntKind.u64.wrap ((0:Nat):Int)=0:=by decide
 simp -implicitDefEqProofs (disch:=first|omega|simp only[go_sem]) only[go_sem,true_and,c78,el,List.length_nil,e0]
 refine ncall len_0 ?_
 simp -implicitDefEqProofs (disch:=first|omega|simp only[go_sem]) only[go_sem,true_and]
 refine ncall_ct pdq_0 ?_
 rintro r h1 ⟨rfl,rfl⟩
 simp -implicitDefEqProofs (disch:=first|omega|simp only[go_sem]) only[go_sem,true_and,XEnd]
 exact ⟨_,rfl,rfl,trivial⟩
end Go.Proofs.Ythjmkmoiopmfcaa

namespace Go.Proofs.Ythjmkmoiopmfcaa
open Go.D
set_option maxRecDepth 100000
theorem lay_keys:Lays Try.prog 24 (rSl fKey.rep) (sumB fun _=>2):=.slice (e:=44) (by kernel_rfl) (by kernel_rfl) (by decide) lay_key
theorem lay_pair:Lays Try.prog 46 fPair.rep (fun _=>3):=
 (Lays.of (l:=[(44,0),(2,2)]) (by kernel_rfl) (by kernel_rfl) (.cons lay_key (.one lay_i64))).conv (Q:=fPair.rep) rfl (fun x=>⟨x.1,x.2⟩)
   (fun _ _ _ _ h=>by
     obtain ⟨c1,c2,rfl,⟨rfl,k1⟩,rfl,k2⟩:=h
     exact ⟨rfl,k1,k2⟩) (fun _=>Nat.le_refl _)
theorem lay_pairs:Lays Try.prog 27 (rSl fPair.rep) (sumB fun _=>3):=.slice (e:=46) (by kernel_rfl) (by kernel_rfl) (by decide) lay_pair
def bulkTxn (x:Txn):Nat:=2+(sumB (fun _=>1) x.code+(sumB (fun _=>1) x.args+(sumB (fun _=>2) x.reads+sumB (fun _=>2) x.writes)))
abbrev txnF:List (Nat × Nat):=[(2,0),(2,1),(22,2),(23,3),(24,4),(24,5)]
theorem lay_txn:Lays Try.prog 26 rTxn bulkTxn:=
 (Lays.of (l:=txnF) (by kernel_rfl) (by kernel_rfl) (.cons lay_i64 (.cons lay_i64 (.cons lay_bytes (.cons lay_ints (.cons lay_keys (.one lay_keys))))))).conv (Q:=rTxn) rfl (fun x=>⟨x.1,x.2.1,x.2.2.1,x.2.2.2.1,x.2.2.2.2.1,x.2.2.2.2.2⟩) (fun _ _ _ _ h=>h)
   (fun x=>by simp only[bulkTxn];omega)
theorem par_txn:Par Try.prog 26 true:=par_struct (l:=txnF) (by kernel_rfl)
theorem txn_in {S:Nat→Prop} {h:DHeap} {cs:List Value} {x:Txn} (a:rTxn.rd S h cs x):∃ vc va vr vw,cs=[.int .i64 x.ses,.int .i64 x.req,vc,va,vr,vw]∧inK .i64 x.ses∧inK .i64 x.req∧TxV S h x vc va vr vw:=by
 obtain ⟨_,_,rfl,⟨rfl,k1⟩,_,_,rfl,⟨rfl,k2⟩,_,_,rfl,⟨vc,rfl,h1⟩,_,_,rfl,⟨va,rfl,h2⟩,_,_,rfl,⟨vr,rfl,h3⟩,vw,rfl,h4⟩:=a
 exact ⟨vc,va,vr,vw,rfl,k1,k2,h1,h2,h3,h4⟩
theorem bulk_txn (x:Txn):x.code.length≤bulkTxn x∧x.args.length≤bulkTxn x∧x.reads.length≤bulkTxn x∧x.writes.length≤bulkTxn x:=by
 have h1:=sumB_len (fun _=>1) x.code
 have h2:=sumB_len (fun _=>1) x.args
 have h3:=sumB_len (fun _=>2) x.reads
 have h4:=sumB_len (fun _=>2) x.writes
 have hb:bulkTxn x=2+(sumB (fun _=>1) x.code+(sumB (fun _=>1) x.args+(sumB (fun _=>2) x.reads+sumB (fun _=>2) x.writes))):=rfl
 omega
theorem txn_len {x:Txn} (h:bulkTxn x≤1048576):TxLen x:=by
 have:=bulk_txn x
 exact ⟨by omega,by omega,by omega,by omega⟩
end Go.Proofs.Ythjmkmoiopmfcaa

namespace Go.D
variable {P:Program} {nt:Nat}
structure KeyOf (P:Program) (kt:TypeId) {κ:Type} (enc:κ→Value):Prop where
 flat:∀ k,flat3 (enc k)=true
 inj:∀ a b,enc a=enc b→a=b
 chk:∀ (b:Bool) k,∃ u,quick P (Instr.checkKey b 10000 kt (enc k))=some (.inr u)
 bits:∀ k,Instr.sameBits 10000 (enc k) (enc k)=true
 find:∀ k (es:List MapEntry),(∀ e∈es,∃ a,e.key=enc a)→∃ r,dFind P kt (enc k) es=some r∧(∀ i,r=some i→∃ e,es[i]? = some e∧e.key=enc k)∧(r=none→∀ e∈es,e.key≠enc k)
theorem findNow_intK {k:IntKind} {n:Int}:∀ {es:List MapEntry} {i:Nat},(∀ e∈es,∃ m,e.key=.int k m) →
 (∃ j v,Instr.findNow (.int k) (.int k n) es i=some (some (j,v))∧i≤j∧∃ e,es[j - i]? = some e∧e.key=.int k n)∨(Instr.findNow (.int k) (.int k n) es i=some none∧∀ e∈es,e.key≠.int k n)
 | [],i,_=>.inr ⟨rfl,fun e he=>by simp at he⟩
 | e :: es,i,h=>by
   obtain ⟨m,h1⟩:=h e (by simp)
   have ih:=findNow_intK (k:=k) (n:=n) (es:=es) (i:=i+1) fun e he=>h e (by simp[he])
   simp only[Instr.findNow,h1,Instr.sameNow,if_true]
   by_cases hm:n=m
   ·subst hm
    refine .inl ⟨i,e.val,by simp,Nat.le_refl _,e,by simp,h1⟩
   ·have:(n==m)=false:=by simpa using hm
    rw[this]
    rcases ih with ⟨j,v,a,b,e',c,d⟩ | ⟨a,b⟩
    ·exact .inl ⟨j,v,a,by omega,e',by rw[show j - i=(j - (i+1))+1 by omega];exact c,d⟩
    ·refine .inr ⟨a,fun e' he=>?_⟩
     rcases List.mem_cons.1 he with rfl | he
     ·rw[h1]
      intro hh
      cases hh
      exact hm rfl
     ·exact b e' he
theorem KeyOf.int {kt:TypeId} {k:IntKind} (hu:P.underlying kt=some (.int k)):KeyOf P kt (fun n:Int=>Value.int k n) where
 flat _:=rfl
 inj a b h:=by cases h;rfl
 chk b n:=checkKey_int hu b n
 bits n:=sameBits_int 9999
 find n es h:=by
  unfold dFind
  rw[hu]
  rcases findNow_intK (n:=n) (i:=0) h with ⟨j,v,a,_,e,c,d⟩ | ⟨a,b⟩
  ·exact ⟨some j,by simp only[a];rfl,fun i hi=>(by cases hi;exact ⟨e,c,d⟩),fun h=>by cases h⟩
  ·exact ⟨none,by simp only[a];rfl,fun i hi=>(by cases hi),fun _=>b⟩
theorem dFindK_eq {kt:TypeId} {κ:Type} [DecidableEq κ] {enc:κ→Value} (heq:∀ a b,quick P (Op.equal kt (enc a) (enc b))=some (.inr (decide (a=b)))) (inj:∀ a b,enc a=enc b→a=b) {k:κ}:∀ {es:List MapEntry} {i:Nat},(∀ e∈es,∃ a,e.key=enc a) →
 (∃ j,dFindK P kt (enc k) es i=some (some j)∧i≤j∧∃ e,es[j - i]? = some e∧e.key=enc k)∨(dFindK P kt (enc k) es i=some none∧∀ e∈es,e.key≠enc k)
 | [],i,_=>.inr ⟨rfl,fun e he=>by simp at he⟩
 | e :: es,i,h=>by
   obtain ⟨m,h1⟩:=h e (by simp)
   have ih:=dFindK_eq heq inj (k:=k) (es:=es) (i:=i+1) fun e he=>h e (by simp[he])
   unfold dFindK
   rw[h1,heq]
   by_cases hm:k=m
   ·subst hm
    rw[decide_eq_true rfl]
    exact .inl ⟨i,rfl,Nat.le_refl _,e,by simp,h1⟩
   ·rw[decide_eq_false hm]
    rcases ih with ⟨j,a,b,e',c,d⟩ | ⟨a,b⟩
    ·exact .inl ⟨j,a,by omega,e',by rw[show j - i=(j - (i+1))+1 by omega];exact c,d⟩
    ·refine .inr ⟨a,fun e' he=>?_⟩
     rcases List.mem_cons.1 he with rfl | he
     ·rw[h1]
      exact fun hh=>hm (inj _ _ hh).symm
     ·exact b e' he
theorem KeyOf.eq {kt:TypeId} {κ:Type} [DecidableEq κ] {enc:κ→Value} {d:TypeDesc} (hu:P.underlying kt=some d) (flat:∀ k,flat3 (enc k)=true) (inj:∀ a b,enc a=enc b→a=b) (chk:∀ (b:Bool) k,∃ u,quick P (Instr.checkKey b 10000 kt (enc k))=some (.inr u)) (bits:∀ k,Instr.sameBits 10000 (enc k) (enc k)=true)
 (hnow:∀ a b,Instr.sameNow d (enc a) (enc b)=none) (heq:∀ a b,quick P (Op.equal kt (enc a) (enc b))=some (.inr (decide (a=b)))):KeyOf P kt enc where
 flat:=flat
 inj:=inj
 chk:=chk
 bits:=bits
 find k es h:=by
  unfold dFind
  rw[hu]
  cases es with
  | nil=>exact ⟨none,rfl,fun i hi=>(by cases hi),fun _ e he=>by cases he⟩
  | cons e es=>
    obtain ⟨m,h1⟩:=h e (by simp)
    have:Instr.findNow d (enc k) (e :: es) 0=none:=by simp only[Instr.findNow,h1,hnow]
    simp only[this]
    rcases dFindK_eq heq inj (k:=k) (i:=0) h with ⟨j,a,_,e',c,q⟩ | ⟨a,b⟩
    ·exact ⟨some j,a,fun i hi=>(by cases hi;exact ⟨e',c,q⟩),fun h=>by cases h⟩
    ·exact ⟨none,a,fun i hi=>(by cases hi),fun _=>b⟩
section
variable {κ:Type} [DecidableEq κ]
def mget (m:List (κ × Value)) (k:κ):Option Value:=(m.find? fun p=>p.1=k).map (·.2)
def mput (m:List (κ × Value)) (k:κ) (v:Value):List (κ × Value):=if k∈m.map (·.1) then m.map (fun p=>if p.1=k then (k,v) else p) else m++[(k,v)]
theorem mget_none {m:List (κ × Value)} {k:κ}:mget m k=none↔k∉m.map (·.1):=by
 unfold mget
 rw[Option.map_eq_none_iff,List.find?_eq_none]
 constructor
 ·intro h hm
  obtain ⟨p,hp,e⟩:=List.mem_map.1 hm
  exact h p hp (by simpa using e)
 ·intro h p hp e
  exact h (List.mem_map.2 ⟨p,hp,by simpa using e⟩)
theorem mget_mem {m:List (κ × Value)} (hn:(m.map (·.1)).Nodup) {k:κ} {v:Value}:mget m k=some v↔(k,v)∈m:=by
 induction m with
 | nil=>simp[mget]
 | cons p m ih=>
   obtain ⟨k0,v0⟩:=p
   simp only[List.map_cons,List.nodup_cons]at hn
   unfold mget at ih ⊢
   by_cases h:k0=k
   ·subst h
    rw[List.find?_cons_of_pos (by simp)]
    simp only[Option.map_some,Option.some.injEq,List.mem_cons,Prod.mk.injEq,true_and]
    constructor
    ·rintro rfl;exact .inl rfl
    ·rintro (rfl | hm)
     ·rfl
     ·exact absurd (List.mem_map.2 ⟨_,hm,rfl⟩) hn.1
   ·rw[List.find?_cons_of_neg (by simpa using h),ih hn.2]
    simp only[List.mem_cons,Prod.mk.injEq]
    constructor
    ·exact .inr
    ·rintro (⟨rfl,_⟩ | hm)
     ·exact absurd rfl h
     ·exact hm
theorem mput_keys {m:List (κ × Value)} {k:κ} {v:Value}:(mput m k v).map (·.1)=if k∈m.map (·.1) then m.map (·.1) else m.map (·.1)++[k]:=by
 unfold mput
 split
 ·rw[List.map_map]
  refine List.map_congr_left fun p _=>?_
  show (if p.1=k then (k,v) else p).1=p.1
  split
  ·rename_i h;exact h.symm
  ·rfl
 ·simp
theorem mput_nodup {m:List (κ × Value)} {k:κ} {v:Value} (hn:(m.map (·.1)).Nodup):((mput m k v).map (·.1)).Nodup:=by
 rw[mput_keys]
 split
 ·exact hn
 ·rename_i h
  refine List.nodup_append.2 ⟨hn,by simp,fun a ha b hb=>?_⟩
  simp only[List.mem_singleton]at hb
  subst hb
  exact fun e=>h (e▸ha)
theorem mget_mput {m:List (κ × Value)} {k k':κ} {v:Value} (hn:(m.map (·.1)).Nodup):mget (mput m k v) k'=if k'=k then some v else mget m k':=by
 have hn':=mput_nodup (k:=k) (v:=v) hn
 have key:∀ u,mget (mput m k v) k'=some u↔(if k'=k then some v else mget m k')=some u:=fun u=>by
  rw[mget_mem hn']
  unfold mput
  split
  ·rename_i hk
   rw[List.mem_map]
   constructor
   ·rintro ⟨p,hp,he⟩
    split at he
    ·cases he
     rw[if_pos rfl]
    ·rename_i hne
     subst he
     rw[if_neg hne]
     exact (mget_mem hn).2 hp
   ·intro he
    split at he
    ·rename_i hkk
     cases he
     obtain ⟨p,hp,hpk⟩:=List.mem_map.1 hk
     exact ⟨p,hp,by rw[if_pos hpk,hkk]⟩
    ·rename_i hne
     exact ⟨(k',u),(mget_mem hn).1 he,by rw[if_neg hne]⟩
  ·rename_i hk
   rw[List.mem_append,List.mem_singleton]
   constructor
   ·rintro (hp | hp)
    ·have:k'≠k:=fun e=>hk (e▸List.mem_map.2 ⟨_,hp,rfl⟩)
     rw[if_neg this]
     exact (mget_mem hn).2 hp
    ·cases hp
     rw[if_pos rfl]
   ·intro he
    split at he
    ·rename_i hkk
     cases he
     exact .inr (by rw[hkk])
    ·exact .inl ((mget_mem hn).1 he)
 cases h1:(if k'=k then some v else mget m k') with
 | some u=>exact (key u).2 h1
 | none=>
   cases h2:mget (mput m k v) k' with
   | none=>rfl
   | some u=>
     have:=(key u).1 h2
     rw[h1]at this
     cases this
end
def MapAt {κ:Type} (enc:κ→Value) (h:DHeap) (id:Nat) (m:List (κ × Value)):Prop:=
 ∃ es c,h.get id=some (.map es c)∧es.map (fun e=>(e.key,e.val))=m.map (fun p=>(enc p.1,p.2))∧(m.map (·.1)).Nodup∧(es.map (·.born)).Nodup∧∀ e∈es,e.born<c
theorem MapAt.keep {κ:Type} {enc:κ→Value} {h h':DHeap} {id:Nat} {m:List (κ × Value)} (a:MapAt enc h id m) (hg:h'.get id=h.get id):MapAt enc h' id m:=by
 obtain ⟨es,c,g,r⟩:=a
 exact ⟨es,c,hg.trans g,r⟩
theorem MapAt.new {κ:Type} {enc:κ→Value} {h:DHeap}:MapAt enc (h.push (.map [] 0)) h.next []:=
 ⟨[],0,get_push_same _ _,rfl,by simp,by simp,fun e he=>by cases he⟩
structure MapT (P:Program) (t:TypeId) {κ:Type} (enc:κ→Value) (z:Value):Prop where
 map:∃ kt et,P.underlying t=some (.map kt et)∧KeyOf P kt enc∧zeroOf P et=some z
theorem MapAt.es_key {κ:Type} {enc:κ→Value} {m:List (κ × Value)} {es:List MapEntry} (hm:es.map (fun e=>(e.key,e.val))=m.map (fun p=>(enc p.1,p.2))) {i:Nat} {e:MapEntry} (he:es[i]? = some e):∃ p,m[i]? = some p∧e.key=enc p.1∧e.val=p.2:=by
 have:=congrArg (fun l=>l[i]?) hm
 simp only[List.getElem?_map,he,Option.map_some]at this
 cases hp:m[i]? with
 | none=>rw[hp]at this;cases this
 | some p=>
   rw[hp]at this
   simp only[Option.map_some,Option.some.injEq,Prod.mk.injEq]at this
   exact ⟨p,rfl,this.1,this.2⟩
theorem MapAt.found {κ:Type} [DecidableEq κ] {enc:κ→Value} {kt:TypeId} {m:List (κ × Value)} {es:List MapEntry} (K:KeyOf P kt enc) (hm:es.map (fun e=>(e.key,e.val))=m.map (fun p=>(enc p.1,p.2))) (hn:(m.map (·.1)).Nodup) (k:κ) :
 (∃ i e v,dFind P kt (enc k) es=some (some i)∧es[i]? = some e∧m[i]? = some (k,v)∧e.key=enc k∧e.val=v∧mget m k=some v)∨(dFind P kt (enc k) es=some none∧k∉m.map (·.1)):=by
 have hk:∀ e∈es,∃ a,e.key=enc a:=fun e he=>by
  obtain ⟨i,hi⟩:=List.getElem?_of_mem he
  obtain ⟨p,_,h2,_⟩:=MapAt.es_key hm hi
  exact ⟨_,h2⟩
 obtain ⟨r,h1,h2,h3⟩:=K.find k es hk
 cases r with
 | some i=>
   obtain ⟨e,a,b⟩:=h2 i rfl
   obtain ⟨p,c,d,e'⟩:=MapAt.es_key hm a
   have:p.1=k:=K.inj _ _ (d.symm.trans b)
   refine .inl ⟨i,e,p.2,h1,a,by rw[← this];exact c,b,e',(mget_mem hn).2 ?_⟩
   rw[← this]
   exact List.mem_of_getElem? c
 | none=>
   refine .inr ⟨h1,fun hm2=>?_⟩
   obtain ⟨p,hp,hpk⟩:=List.mem_map.1 hm2
   obtain ⟨i,hi⟩:=List.getElem?_of_mem hp
   have:=congrArg (fun l=>l[i]?) hm
   simp only[List.getElem?_map,hi,Option.map_some]at this
   cases he:es[i]? with
   | none=>rw[he]at this;cases this
   | some e=>
     rw[he]at this
     simp only[Option.map_some,Option.some.injEq,Prod.mk.injEq]at this
     exact h3 rfl e (List.mem_of_getElem? he) (by rw[this.1,hpk])
theorem MapAt.lookup {κ:Type} [DecidableEq κ] {enc:κ→Value} {z:Value} {t:TypeId} {h:DHeap} {id:Nat} {m:List (κ × Value)} (T:MapT P t enc z) (a:MapAt enc h id m) (k:κ) (ok:Bool) :
 dLookup P t (.map (some id)) (enc k) ok h=some (if ok then .tuple #[(mget m k).getD z,.bool (mget m k).isSome] else (mget m k).getD z):=by
 obtain ⟨kt,et,hu,K,hz⟩:=T.map
 obtain ⟨es,c,g,hm,hn,_,_⟩:=a
 obtain ⟨u,hc⟩:=K.chk es.isEmpty k
 unfold dLookup
 simp only[hu,dMapEs,g,K.flat k,if_true,hc]
 rcases MapAt.found K hm hn k with ⟨i,e,v,h1,h2,h3,h4,h5,h6⟩ | ⟨h1,h2⟩
 ·simp only[h1,h2,h6,h5,Option.getD_some,Option.isSome_some]
 ·simp only[h1,hz,mget_none.2 h2,Option.getD_none,Option.isSome_none]
theorem MapAt.update {κ:Type} [DecidableEq κ] {enc:κ→Value} {z:Value} {t:TypeId} {h:DHeap} {id:Nat} {m:List (κ × Value)} (T:MapT P t enc z) (a:MapAt enc h id m) (k:κ) (v:Value) :
 ∃ o,dMapUpdate P t (.map (some id)) (enc k) v h=some (h.set id o)∧MapAt enc (h.set id o) id (mput m k v):=by
 obtain ⟨kt,et,hu,K,hz⟩:=T.map
 obtain ⟨es,c,g,hm,hn,hb,hlt⟩:=a
 obtain ⟨u,hc⟩:=K.chk false k
 unfold dMapUpdate
 simp only[hu,g,K.flat k,if_true,hc]
 rcases MapAt.found K hm hn k with ⟨i,e,v0,h1,h2,h3,h4,h5,h6⟩ | ⟨h1,h2⟩
 ·have hbits:Instr.sameBits 10000 e.key (enc k)=true:=by rw[h4];exact K.bits k
  simp only[h1,h2,hbits,if_true]
  refine ⟨_,rfl,_,_,get_set_same _ _,?_,mput_nodup hn,?_,?_⟩
  ·have hk:k∈m.map (·.1):=List.mem_map.2 ⟨_,List.mem_of_getElem? h3,rfl⟩
   rw[mput,if_pos hk,List.map_set,hm]
   refine List.ext_getElem? fun j=>?_
   rw[List.getElem?_set,List.getElem?_map,List.getElem?_map,List.getElem?_map]
   by_cases hj:i=j
   ·subst hj
    have hlen:i<(m.map fun p=>(enc p.1,p.2)).length:=by simpa using (List.getElem?_eq_some_iff.1 h3).1
    rw[if_pos rfl,if_pos hlen,h3]
    simp
   ·rw[if_neg hj]
    cases hp:m[j]? with
    | none=>rfl
    | some p=>
      have:p.1≠k:=fun e=>by
       have q1:(m.map (·.1))[j]? = some k:=by rw[List.getElem?_map,hp];simp[e]
       have q2:(m.map (·.1))[i]? = some k:=by rw[List.getElem?_map,h3];rfl
       have hil:=(List.getElem?_eq_some_iff.1 q2).1
       exact hj ((List.getElem?_inj hil hn).1 (q2.trans q1.symm))
      simp[this]
  ·have:(es.set i { e with key:=enc k,val:=v }).map (·.born)=es.map (·.born):=by
    rw[List.map_set]
    refine List.ext_getElem? fun j=>?_
    rw[List.getElem?_set]
    split
    ·rename_i hj
     subst hj
     rw[List.getElem?_map,h2,List.length_map,if_pos (List.getElem?_eq_some_iff.1 h2).1]
     rfl
    ·rfl
   rw[this]
   exact hb
  ·intro e' he'
   rcases List.mem_or_eq_of_mem_set he' with he' | rfl
   ·exact hlt e' he'
   ·exact hlt e (List.mem_of_getElem? h2)
 ·simp only[h1]
  refine ⟨_,rfl,_,_,get_set_same _ _,?_,mput_nodup hn,?_,?_⟩
  ·rw[mput,if_neg h2,List.map_append,List.map_append,hm]
   rfl
  ·rw[List.map_append]
   refine List.nodup_append.2 ⟨hb,by simp,fun x hx y hy=>?_⟩
   obtain ⟨e,he,rfl⟩:=List.mem_map.1 hx
   simp only[List.map_cons,List.map_nil,List.mem_singleton]at hy
   have:=hlt e he
   omega
  ·intro e he
   rcases List.mem_append.1 he with he | he
   ·have:=hlt e he
    omega
   ·simp only[List.mem_singleton]at he
    subst he
    exact Nat.lt_succ_self _
def RngAt {κ:Type} (enc:κ→Value) (h:DHeap) (r id:Nat) (m:List (κ × Value)) (dn:List κ):Prop:=
 ∃ es c seen,h.get id=some (.map es c)∧h.get r=some (.iter (some id) c seen c)∧es.map (fun e=>(e.key,e.val))=m.map (fun p=>(enc p.1,p.2))∧(m.map (·.1)).Nodup∧(es.map (·.born)).Nodup∧(∀ e∈es,e.born<c) ∧
  ∀ (i:Nat) e p,es[i]? = some e→m[i]? = some p→(e.born∈seen↔p.1∈dn)
theorem RngAt.keep {κ:Type} {enc:κ→Value} {h h':DHeap} {r id:Nat} {m:List (κ × Value)} {dn:List κ} (a:RngAt enc h r id m dn) (h1:h'.get id=h.get id) (h2:h'.get r=h.get r):RngAt enc h' r id m dn:=by
 obtain ⟨es,c,seen,g1,g2,q⟩:=a
 exact ⟨es,c,seen,h1.trans g1,h2.trans g2,q⟩
theorem RngAt.map {κ:Type} {enc:κ→Value} {h:DHeap} {r id:Nat} {m:List (κ × Value)} {dn:List κ} (a:RngAt enc h r id m dn):MapAt enc h id m:=by
 obtain ⟨es,c,seen,g1,g2,q1,q2,q3,q4,_⟩:=a
 exact ⟨es,c,g1,q1,q2,q3,q4⟩
theorem MapAt.range {κ:Type} {enc:κ→Value} {t:TypeId} {h:DHeap} {id:Nat} {m:List (κ × Value)} {kt et:TypeId} (hu:P.underlying t=some (.map kt et)) (a:MapAt enc h id m) (hid:id<h.next) :
 ∃ o,dRange P t (.map (some id)) h=some (.pointer (some ⟨h.next,0,none⟩),h.push o)∧RngAt enc (h.push o) h.next id m []:=by
 obtain ⟨es,c,g,q1,q2,q3,q4⟩:=a
 refine ⟨.iter (some id) c [] c,?_,es,c,[],(get_push_other _ _ hid).trans g,get_push_same _ _,q1,q2,q3,q4,fun i e p _ _=>by simp⟩
 unfold dRange
 simp only[hu,g]
theorem find_bornD {e:MapEntry}:∀ {es:List MapEntry},(es.map (·.born)).Nodup→e∈es→es.find? (fun x=>x.born==e.born)=some e
 | [],_,h=>by cases h
 | a :: es,hn,h=>by
   rw[List.find?_cons]
   rw[List.map_cons,List.nodup_cons]at hn
   rcases List.mem_cons.1 h with rfl | h
   ·simp
   ·have:(a.born==e.born)=false:=by
     simp only[beq_eq_false_iff_ne,ne_eq]
     exact fun hh=>hn.1 (hh▸List.mem_map.2 ⟨e,h,rfl⟩)
    rw[this]
    exact find_bornD hn.2 h
theorem RngAt.next {κ:Type} {enc:κ→Value} {h:DHeap} {r id:Nat} {m:List (κ × Value)} {dn:List κ} (hf:∀ k,flat3 (enc k)=true) (hne:id≠r) (a:RngAt enc h r id m dn) :
 ∃ l,dNext (.pointer (some ⟨r,0,none⟩)) h=some (l,h.set r .dead)∧∀ p∈l,(p=(.tuple #[.bool false],h)∧∀ k∈m.map (·.1),k∈dn) ∨
  ∃ k v o,(k,v)∈m∧k∉dn∧p=(.tuple #[.bool true,enc k,v],h.set r o)∧dEntry (.pointer (some ⟨r,0,none⟩)) (h.set r o)=some (.tuple #[enc k,v])∧RngAt enc (h.set r o) r id m (k :: dn):=by
 obtain ⟨es,c,seen,g1,g2,q1,q2,q3,q4,q5⟩:=a
 have hc1:(!seen.isEmpty&&!es.isEmpty&&es.all fun e=>decide (e.born ≥ c))=false:=by
  cases es with
  | nil=>simp
  | cons e es=>
    have:=q4 e (by simp)
    have h1:decide (e.born ≥ c)=false:=decide_eq_false (by omega)
    simp[h1]
 have hc2:(es.all fun e=>flat3 e.key)=true:=List.all_eq_true.2 fun e he=>by
  obtain ⟨i,hi⟩:=List.getElem?_of_mem he
  obtain ⟨p,_,h2,_⟩:=MapAt.es_key q1 hi
  rw[h2]
  exact hf _
 unfold dNext
 simp only[g2,g1,hc1,hc2,Bool.not_true,Bool.or_false,Bool.false_eq_true,if_false]
 refine ⟨_,rfl,fun p hp=>?_⟩
 rcases List.mem_append.1 hp with hp | hp
 ·split at hp
  ·rename_i hemp
   simp only[List.mem_singleton]at hp
   refine .inl ⟨hp,fun k hk=>?_⟩
   obtain ⟨pr,hpm,rfl⟩:=List.mem_map.1 hk
   obtain ⟨i,hi⟩:=List.getElem?_of_mem hpm
   have:=congrArg (fun l=>l[i]?) q1
   simp only[List.getElem?_map,hi,Option.map_some]at this
   cases he:es[i]? with
   | none=>rw[he]at this;cases this
   | some e=>
     refine (q5 i e pr he hi).1 ?_
     cases hs:seen.contains e.born with
     | true=>exact List.contains_iff_mem.1 hs
     | false=>
       exfalso
       have hm:=List.mem_of_getElem? he
       have:e∈(es.filter fun e=>!seen.contains e.born).filter fun e=>decide (e.born<c):=by
        simp only[List.mem_filter,hs,Bool.not_false,decide_eq_true_eq,and_true]
        exact ⟨hm,q4 e hm⟩
       rw[List.isEmpty_iff.1 hemp]at this
       cases this
  ·cases hp
 ·obtain ⟨e,hem,rfl⟩:=List.mem_map.1 hp
  have he:e∈es∧seen.contains e.born=false:=by
   rcases List.mem_append.1 hem with h | h
   ·simp only[List.mem_filter,Bool.not_eq_true']at h
    exact h.1
   ·simp only[List.mem_filter,Bool.not_eq_true']at h
    exact h.1
  obtain ⟨i,hi⟩:=List.getElem?_of_mem he.1
  obtain ⟨pr,hpi,hk,hv⟩:=MapAt.es_key q1 hi
  have hns:e.born∉seen:=fun hh=>by rw[List.contains_iff_mem.2 hh]at he;cases he.2
  refine .inr ⟨pr.1,pr.2,.iter (some id) c (seen++[e.born]) c,List.mem_of_getElem? hpi,fun hd=>hns ((q5 i e pr hi hpi).2 hd),by rw[hk,hv],?_,es,c,seen++[e.born],(get_set_other _ _ hne).trans g1,get_set_same _ _,q1,q2,q3,q4,fun j e' p' hj hpj=>?_⟩
  ·have h1:(h.set r (.iter (some id) c (seen++[e.born]) c)).get r=some (.iter (some id) c (seen++[e.born]) c):=get_set_same _ _
   have h2:(h.set r (.iter (some id) c (seen++[e.born]) c)).get id=some (.map es c):=(get_set_other _ _ hne).trans g1
   have h3:(seen++[e.born]).getLast? = some e.born:=by simp
   unfold dEntry
   simp only[h1,h2,h3,if_true,find_bornD q3 he.1,hk,hf,hv]
  rw[List.mem_append,List.mem_singleton,List.mem_cons,q5 j e' p' hj hpj]
  have hij:e'.born=e.born↔j=i:=by
   have a1:(es.map (·.born))[j]? = some e'.born:=by rw[List.getElem?_map,hj];rfl
   have a2:(es.map (·.born))[i]? = some e.born:=by rw[List.getElem?_map,hi];rfl
   constructor
   ·intro hh
    exact (List.getElem?_inj (List.getElem?_eq_some_iff.1 a1).1 q3).1 (by rw[a1,a2,hh])
   ·intro hh
    subst hh
    rw[hj]at hi
    cases hi
    rfl
  have hij2:p'.1=pr.1↔j=i:=by
   have a1:(m.map (·.1))[j]? = some p'.1:=by rw[List.getElem?_map,hpj];rfl
   have a2:(m.map (·.1))[i]? = some pr.1:=by rw[List.getElem?_map,hpi];rfl
   constructor
   ·intro hh
    exact (List.getElem?_inj (List.getElem?_eq_some_iff.1 a1).1 q2).1 (by rw[a1,a2,hh])
   ·intro hh
    subst hh
    rw[hpj]at hpi
    cases hpi
    rfl
  rw[hij,hij2]
  exact Or.comm
def dRangeO (P:Program) (t:TypeId) (h:DHeap):Option Value→DR
 | some v=>.ofp (dRange P t v h)
 | none=>.bad
def DR.ofk:Option (List (Value × DHeap) × DHeap)→DR
 | some (l,h')=>.ok (.pick l) h'
 | none=>.bad
def dNextO (h:DHeap):Option Value→DR
 | some v=>DR.ofk (dNext v h)
 | none=>.bad
theorem dOp_range {ρ:Operand→Option Value} {h:DHeap} (dst:Option Tmp) (t:TypeId) (x:Operand) (ty:TypeId) (pos:String) (aft:Array Edge) (gd:Option (Nat × Bool)):dOp P ρ ⟨dst,.range t x,ty,pos,aft,gd⟩ h=dRangeO P t h (ρ x):=by
 unfold dOp dRangeO
 simp only
 cases ρ x <;> rfl
theorem dOp_next {ρ:Operand→Option Value} {h:DHeap} (dst:Option Tmp) (x:Operand) (ty:TypeId) (pos:String) (aft:Array Edge) (gd:Option (Nat × Bool)):dOp P ρ ⟨dst,.next x false,ty,pos,aft,gd⟩ h=dNextO h (ρ x):=by
 unfold dOp dNextO DR.ofk
 simp only
 cases ρ x with
 | none=>rfl
 | some v=>rfl
theorem dRangeO_some {t:TypeId} {h:DHeap} {v:Value}:dRangeO P t h (some v)=.ofp (dRange P t v h):=rfl
theorem dNextO_some {h:DHeap} {v:Value}:dNextO h (some v)=DR.ofk (dNext v h):=rfl
theorem ofk_some {l:List (Value × DHeap)} {h:DHeap}:DR.ofk (some (l,h))=.ok (.pick l) h:=rfl
theorem NNx_pick (ops:Array Oper) (o:Oper) (rest:List Oper) (s:St) (Q:DExit→St→Prop) (l:List (Value × DHeap)) (h:DHeap):NNx P ops o rest s Q (.ok (.pick l) h)=∀ p∈l,NOps P ops rest ⟨s.fr.put o.dst p.1,s.df,p.2,s.rd⟩ Q:=rfl
def dEntryO (h:DHeap):Option Value→DR
 | some v=>.ofv h (dEntry v h)
 | none=>.bad
theorem dOp_entry {ρ:Operand→Option Value} {h:DHeap} (dst:Option Tmp) (x:Operand) (ty:TypeId) (pos:String) (aft:Array Edge) (gd:Option (Nat × Bool)):dOp P ρ ⟨dst,.entry x,ty,pos,aft,gd⟩ h=dEntryO h (ρ x):=by
 unfold dOp dEntryO
 simp only
 cases ρ x <;> rfl
theorem dEntryO_some {h:DHeap} {v:Value}:dEntryO h (some v)=.ofv h (dEntry v h):=rfl
attribute [go_sem] dOp_entry dEntryO_some dOp_range dOp_next dRangeO_some dNextO_some ofk_some NNx_pick
end Go.D

namespace Go.Proofs.Ythjmkmoiopmfcaa
open Go.D
set_option maxRecDepth 100000
theorem keyV_inj (a b:Key) (h:keyV a=keyV b):a=b:=by
 cases a;cases b
 simp only[keyV]at h
 simpa using h
theorem und_key:∃ d,Try.prog.underlying 44=some d∧∀ a b,Instr.sameNow d (keyV a) (keyV b)=none:=⟨_,rfl,fun _ _=>rfl⟩
theorem chk_key (b:Bool) (k:Key):∃ u,quick Try.prog (Instr.checkKey b 10000 44 (keyV k))=some (.inr u):=⟨_,rfl⟩
theorem bits_key (k:Key):Instr.sameBits 10000 (keyV k) (keyV k)=true:=by
 simp[Instr.sameBits,keyV]
theorem keyOf:KeyOf Try.prog 44 keyV:=
 have ⟨_,hu,hn⟩:=und_key
 .eq hu (fun _=>rfl) keyV_inj chk_key bits_key hn (key_eq 9998)
end Go.Proofs.Ythjmkmoiopmfcaa

namespace Go.Proofs.Ythjmkmoiopmfcaa
open Go.D
set_option maxRecDepth 100000
theorem nodup_len {α:Type} [DecidableEq α]:∀ {a b:List α},a.Nodup→(∀ x∈a,x∈b)→a.length≤b.length
 | [],_,_,_=>Nat.zero_le _
 | x :: a,b,hn,hs=>by
   rw[List.nodup_cons]at hn
   have h1:=nodup_len (a:=a) (b:=b.erase x) hn.2 fun y hy=>(List.mem_erase_of_ne (fun (hh:y=x)=>hn.1 (hh▸hy))).2 (hs y (by simp[hy]))
   have h2:=List.length_erase_of_mem (hs x (by simp))
   have h3:=List.length_pos_of_mem (hs x (by simp))
   rw[List.length_cons]
   omega
structure But (r:Nat) (K K':DHeap):Prop where
 next:K.next≤K'.next
 ng:K'.ng=K.ng
 get:∀ j,j<K.next→j≠r→K'.get j=K.get j
theorem und_map64:Try.prog.underlying 64=some (.map 44 2):=by kernel_rfl
theorem yields_keys {h:DHeap} {c l p id:Nat} {D:DLoop} {m:List (Key × Value)} (I:List Key→DHeap→Prop) (hp:D.params=#[p]) (hps:p<D.size) (hid:id<h.next) (hc:c<h.next) (hl:l<h.next)
 (h0:I [] h) (hI:∀ dn K,I dn K→K.get l=some (.loop D)∧K.get c=some (.row [.map (some id)] 0 false)∧MapAt keyV K id m) (hE:∀ dn K K',I dn K→But h.next K K'→I dn K')
 (hR:∀ dn K k,I dn K→k∉dn→k∈m.map (·.1)→h.next<K.next→Rt Try.prog l D.size (putParams D.tmps [p] [keyV k]) D.assign D.body K fun r H=>r=.ret (.bool true)∧I (k :: dn) H∧H.get id=K.get id∧H.get h.next=K.get h.next∧K.next≤H.next) :
 Ct Try.prog 87 [.func (.yield l) #[] #[],.pointer (some ⟨c,0,none⟩)] h fun r H=>(∃ v,r=.ret v)∧∃ dn,dn.Nodup∧(∀ k,k∈dn↔k∈m.map (·.1))∧I dn H:=by
 refine go_87 (by simp) ?_
 obtain ⟨hl0,hc0,hm0⟩:=hI [] h h0
 have C0:cellAt h c 0=some (.map (some id)):=cellAt_row hc0
 obtain ⟨o,hr0,hr1⟩:=hm0.range und_map64 hid
 simp -implicitDefEqProofs (disch:=first|omega|simp only[go_sem]) only[go_sem,true_and,c87,C0,hr0]
 refine xloop (σ:=List Key) (by kernel_rfl) (fun dn s=>s.df=[]∧s.fr 0=some (.func (.yield l) #[] #[])∧s.fr 5=some (.pointer (some ⟨h.next,0,none⟩))∧h.next<s.h.next∧dn.Nodup∧(∀ k∈dn,k∈m.map (·.1))∧RngAt keyV s.h h.next id m dn∧I dn s.h) (fun dn=>m.length - dn.length) [] ?_ ?_
 ·simp -implicitDefEqProofs (disch:=first|omega|simp only[go_sem]) only[go_sem,true_and]
  exact ⟨Nat.lt_succ_self _,.nil,fun k hk=>(by cases hk),hr1,hE _ _ _ h0 ⟨Nat.le_succ _,rfl,fun j hj _=>get_push_other _ _ hj⟩⟩
 ·rintro dn ⟨fr,df,hh,rd⟩ K' hK' hX ⟨rfl,f0,f5,hlt,hnd,hsub,hrng,hinv⟩
  simp only at f0 f5 hlt hrng hinv
  obtain ⟨L,hL,hall⟩:=hrng.next (fun _=>rfl) (by omega)
  simp -implicitDefEqProofs (disch:=first|omega|simp only[go_sem]) only[go_sem,true_and,f5,hL]
  intro pp hpp
  rcases hall pp hpp with ⟨rfl,hd⟩ | ⟨k,v,o2,hk,hnk,rfl,hent,hr2⟩
  ·simp -implicitDefEqProofs (disch:=first|omega|simp only[go_sem]) only[go_sem,true_and]
   refine hX _ _ (by simp) ?_
   simp -implicitDefEqProofs (disch:=first|omega|simp only[go_sem]) only[go_sem,true_and]
   exact ⟨_,rfl,⟨_,rfl⟩,dn,hnd,fun k=>⟨hsub k,hd k⟩,hinv⟩
  obtain ⟨K1,hK1⟩:∃ K,K=hh.set h.next o2:=⟨_,rfl⟩
  rw[← hK1]at hent hr2
  obtain ⟨K2,hK2⟩:∃ K,K=K1.push (.row [.int .i32 k.t,.int .i64 k.r] 0 false):=⟨_,rfl⟩
  have hK1n:K1.next=hh.next:=by rw[hK1];rfl
  have hK2n:K2.next=hh.next+1:=by rw[hK2];exact congrArg (·+1) hK1n
  have g2:K2.get K1.next=some (.row [.int .i32 k.t,.int .i64 k.r] 0 false):=by rw[hK2];exact get_push_same _ _
  have hst:dStore Try.prog 44 (.pointer (some ⟨K1.next,0,none⟩)) (keyV k) (K1.push (.row [.int .i32 0,.int .i64 0] 0 false))=some K2:=by
   rw[hK2]
   exact (st_44 rfl).trans (storeAll_push rfl rfl)
  have l2:cellsAt K2 K1.next 0 2=some (keyV k):=by rw[cellsAt_row g2 (Nat.le_of_ble_eq_true rfl)];rfl
  have oth:∀ j,j<hh.next→j≠h.next→K2.get j=hh.get j:=fun j hj hne=>by rw[hK2,get_push_other _ _ (by omega),hK1,get_set_other _ _ hne]
  have hI2:I dn K2:=hE dn hh K2 hinv ⟨by omega,by rw[hK2,hK1];rfl,oth⟩
  have hl2:K2.get l=some (.loop D):=(hI dn K2 hI2).1
  have hr3:RngAt keyV K2 h.next id m (k :: dn):=hr2.keep (by rw[hK2];exact get_push_other _ _ (by omega)) (by rw[hK2];exact get_push_other _ _ (by omega))
  have hy:dCallO Try.prog K2 (some (.func (.yield l) #[] #[])) (some [keyV k])=.ok (.round l D.size (putParams D.tmps [p] [keyV k]) D.assign D.body) K2:=by
   rw[dCallO_yield hl2 _ (by rw[hp];rfl) (by rw[hp];simpa using hps),hp]
  have hkm:k∈m.map (·.1):=List.mem_map.2 ⟨_,hk,rfl⟩
  simp -implicitDefEqProofs (disch:=first|omega|simp only[go_sem]) only[go_sem,true_and,← hK1,f5,hent,hst,f0,l2,hy]
  refine nround_rt (hR dn K2 k hI2 hnk hkm (by omega)) ?_
  rintro r H ⟨rfl,hI3,e1,e2,e3⟩
  simp -implicitDefEqProofs (disch:=first|omega|simp only[go_sem]) only[go_sem,true_and,XEnd]
  have hlen:(k :: dn).length≤m.length:=by
   have:=nodup_len (a:=k :: dn) (b:=m.map (·.1)) (List.nodup_cons.2 ⟨hnk,hnd⟩) (fun x hx=>by
    rcases List.mem_cons.1 hx with rfl | hx
    ·exact hkm
    ·exact hsub x hx)
   simpa using this
  refine hK' (k :: dn) _ ?_ (by rw[List.length_cons]at hlen ⊢;omega)
  exact ⟨by trivial,(vy f0),(vy f5),show h.next<H.next by omega,List.nodup_cons.2 ⟨hnk,hnd⟩,fun x hx=>(by
   rcases List.mem_cons.1 hx with rfl | hx
   ·exact hkm
   ·exact hsub x hx),hr3.keep e1 e2,hI3⟩
end Go.Proofs.Ythjmkmoiopmfcaa

namespace Go.Proofs.Ythjmkmoiopmfcaa
open Go.D
set_option maxRecDepth 100000
abbrev appD (fr:Fr) (k:Nat):DLoop:=⟨13,fr,#[7],fa96_0,fb96_0,k,.ready,none⟩
structure AppI (hB:DHeap) (fr:Fr) (b:Nat) (dn:List Key) (K:DHeap):Prop where
 r:Rng hB (appD fr hB.next) (fun j=>j=b) K
 box:∃ v w,K.get b=some (.row [v] 0 false)∧Owns fKey.rep NoS K v dn.reverse w∧∀ i,w=some i→hB.next+2<i
theorem AppI.but {hB K K':DHeap} {fr:Fr} {b:Nat} {dn:List Key} (s:AppI hB fr b dn K) (hb:b<hB.next) (e:But (hB.next+2) K K'):AppI hB fr b dn K':=by
 have hn:=s.r.nx
 obtain ⟨v,w,g,o,hw⟩:=s.box
 exact ⟨s.r.keep e.next e.ng fun j hj=>e.get j (by omega) (by omega),v,w,(e.get _ (by omega) (by omega)).trans g,o.mono e.next (fun i hi=>e.get i (o.lt i hi) (by have:=hw i hi;omega)) (fun i hi=>hi.elim),hw⟩
theorem app_round {hB K:DHeap} {fr:Fr} {b:Nat} {dn:List Key} {k:Key} (hk:fKey.ok k) (hlen:dn.length+1≤4294967296) (hb:b<hB.next) (f2:fr 2=some (.pointer (some ⟨b,0,none⟩))) (hnx:hB.next+2<K.next) (s:AppI hB fr b dn K) :
 Rt Try.prog (hB.next+1) 13 (putParams fr [7] [keyV k]) fa96_0 fb96_0 K fun r H=>r=.ret (.bool true)∧AppI hB fr b (k :: dn) H∧H.get (hB.next+2)=K.get (hB.next+2)∧K.next≤H.next:=by
 obtain ⟨v,w,gb,o,hw⟩:=s.box
 have hwl:=o.lt
 refine Rt_walk ta96_0 tb96_0 (by kernel_rfl) (by kernel_rfl) ?_
 obtain ⟨K1,hK1⟩:∃ K1,K1=K.push (.row [.int .i32 k.t,.int .i64 k.r] 0 false):=⟨_,rfl⟩
 have hst:dStore Try.prog 44 (.pointer (some ⟨K.next,0,none⟩)) (keyV k) (K.push (.row [.int .i32 0,.int .i64 0] 0 false))=some K1:=by
  rw[hK1]
  exact (st_44 rfl).trans (storeAll_push rfl rfl)
 have r1:=s.r.push (.row [.int .i32 k.t,.int .i64 k.r] 0 false)
 rw[← hK1]at r1
 simp -implicitDefEqProofs (disch:=first|omega|simp only[go_sem]) only[go_sem,true_and,sa96_0,putParams,hst]
 refine ⟨_,r1.lp,rfl,?_⟩
 obtain ⟨D2,hD2⟩:∃ D2:DLoop,D2={ appD fr hB.next with state:=.busy,pending:=(appD fr hB.next).pending }:=⟨_,rfl⟩
 rw[← hD2]
 obtain ⟨K2,hK2⟩:∃ K2,K2=K1.set (hB.next+1) (.loop D2):=⟨_,rfl⟩
 rw[← hK2]
 have r2:Rng hB D2 (fun j=>j=b) K2:=by rw[hK2];exact r1.loop _
 have hK2n:K2.next=K.next+1:=by rw[hK2,hK1];rfl
 have hK2g:K2.ng=K.ng:=by rw[hK2,hK1];rfl
 have oth:∀ j,j<K.next→j≠hB.next+1→K2.get j=K.get j:=fun j hj hne=>by rw[hK2,get_set_other _ _ hne,hK1,get_push_other _ _ hj]
 have gb2:K2.get b=some (.row [v] 0 false):=(oth _ (by omega) (by omega)).trans gb
 have gk2:K2.get K.next=some (.row [.int .i32 k.t,.int .i64 k.r] 0 false):=by rw[hK2,get_set_other _ _ (by omega),hK1];exact get_push_same _ _
 have o2:Owns fKey.rep NoS K2 v dn.reverse w:=o.mono (by omega) (fun i hi=>oth i (hwl i hi) (by have:=hw i hi;omega)) (fun i hi=>hi.elim)
 have lb:cellAt K2 b 0=some v:=cellAt_row gb2
 have lk:cellsAt K2 K.next 0 2=some (keyV k):=by rw[cellsAt_row gk2 (Nat.le_of_ble_eq_true rfl)];rfl
 obtain ⟨v',h2,e6,n2,ng2,gg,o3⟩:=o2.snoc (cs:=[.int .i32 k.t,.int .i64 k.r]) (x:=k) (z:=2) (fun i hi=>hi.elim) ⟨rfl,hk⟩ rfl (by decide) app_24 (by simpa using hlen) (by decide)
 have hv':v'.cells=#[v']:=o3.sl.cells1
 have hone:[v'].all Value.oneCell'=true:=by obtain ⟨_,_,rfl⟩:=o3.sl.isSlice;rfl
 have gb3:h2.get b=some (.row [v] 0 false):=(gg _ (by omega) (fun h=>by have:=hw b h;omega)).trans gb2
 have w1:dStore Try.prog 24 (.pointer (some ⟨b,0,none⟩)) v' h2=some (h2.set b (.row [v'] 0 false)):=(st_24 hv').trans (storeAt_row gb3 (Nat.le_of_ble_eq_true rfl) hone)
 simp -implicitDefEqProofs (disch:=first|omega|simp only[go_sem]) only[go_sem,true_and,sb96_0,f2,lb,lk,e6,w1]
 have hnw:∀ j,j<hB.next+3→w≠some j:=fun j hj h=>by have:=hw j h;omega
 have r3:Rng hB D2 (fun j=>j=b) h2:=r2.keep (by omega) ng2 fun j hj=>gg j (by omega) (hnw j (by omega))
 have r4:Rng hB D2 (fun j=>j=b) (h2.set b (.row [v'] 0 false)):=r3.set rfl hb
 refine ⟨D2,r4.lp,rfl,?_,?_,?_⟩
 ·subst hD2
  refine ⟨r4.loop _,v',some (K2.next+1),(get_set_other _ _ (by omega)).trans (get_set_same _ _),?_,fun i hi=>by cases hi;omega⟩
  rw[List.reverse_cons]
  exact o3.mono (Nat.le_refl _) (fun i hi=>by cases hi;rw[get_set_other _ _ (by omega),get_set_other _ _ (by omega)]) (fun i hi=>hi.elim)
 ·rw[get_set_other _ _ (by omega),get_set_other _ _ (by omega),gg _ (by omega) (hnw _ (by omega)),oth _ (by omega) (by omega)]
 ·show K.next≤h2.next
  omega
end Go.Proofs.Ythjmkmoiopmfcaa

namespace Go.Proofs.Ythjmkmoiopmfcaa
open Go.D
set_option maxRecDepth 100000
theorem app_loop {hB:DHeap} {fr:Fr} {b c id:Nat} {m:List (Key × Value)} {Q:DExit→St→Prop} (hlen:m.length≤4294967296) (hok:∀ k∈m.map (·.1),fKey.ok k)
 (f2:fr 2=some (.pointer (some ⟨b,0,none⟩))) (f6:fr 6=some (.func (.func 87) #[] #[.pointer (some ⟨c,0,none⟩)]))
 (hb:b<hB.next) (gb:hB.get b=some (.row [.slice none 0 0] 0 false)) (hc:c<hB.next∧c≠b) (gc:hB.get c=some (.row [.map (some id)] 0 false)) (hid:id<hB.next∧id≠b) (hm:MapAt keyV hB id m)
 (hA:∀ dn H,dn.Nodup→(∀ k,k∈dn↔k∈m.map (·.1))→AppI hB fr b dn H→Q .normal ⟨fr,[.mark hB.next],H.set (hB.next+1) (.loop { appD fr hB.next with state:=.exhausted }),none⟩) :
 NC Try.prog 13 (.rangeFunc (T 6) #[7] fa96_0 fb96_0) Q ⟨fr,[],hB,none⟩:=by
 refine NC.range_yields (fv:=.func (.func 87) #[] #[.pointer (some ⟨c,0,none⟩)]) (A:=fun H=>∃ dn,dn.Nodup∧(∀ k,k∈dn↔k∈m.map (·.1))∧AppI hB fr b dn H) (B:=fun _=>False) rfl (vy f6) (fun K=>dTarget_func (by kernel_rfl) _ _ _ K) ?_ (fun H ⟨dn,h1,h2,s⟩=>⟨s.r.lp,hA dn H h1 h2 s⟩) (fun H s=>s.elim)
 have e:Ext hB ((hB.push (.marks true)).push (.loop (appD fr hB.next))):=(Ext.push1 _ _).push _
 refine (yields_keys (D:=appD fr hB.next) (p:=7) (id:=id) (m:=m) (fun dn K=>AppI hB fr b dn K∧dn.Nodup∧∀ k∈dn,k∈m.map (·.1)) rfl (Nat.le_of_ble_eq_true rfl) (Nat.lt_of_lt_of_le hid.1 e.next) (Nat.lt_of_lt_of_le hc.1 e.next) (Nat.lt_succ_self _) ?_ (fun dn K ⟨s,_,_⟩=>⟨s.r.lp,(s.r.old _ hc.1 hc.2).trans gc,hm.keep (s.r.old _ hid.1 hid.2)⟩) (fun dn K K' ⟨s,h1,h2⟩ e=>⟨s.but hb e,h1,h2⟩) ?_).mono fun r H ⟨h1,dn,h2,h3,h4,_⟩=>⟨h1,.inl ⟨dn,h2,h3,h4⟩⟩
 ·exact ⟨⟨Rng.start _ _ _,_,_,(e.get _ hb).trans gb,Owns.nil _ _ _,fun i hi=>by cases hi⟩,.nil,fun k hk=>by cases hk⟩
 ·rintro dn K k ⟨s,hn,hs⟩ hnk hkm hlt
  have hl:(k :: dn).length≤m.length:=by
   have:=nodup_len (a:=k :: dn) (b:=m.map (·.1)) (List.nodup_cons.2 ⟨hnk,hn⟩) (fun x hx=>by
    rcases List.mem_cons.1 hx with rfl | hx
    ·exact hkm
    ·exact hs x hx)
   simpa using this
  refine (app_round (hok k hkm) (by rw[List.length_cons]at hl;omega) hb f2 hlt s).mono fun r H ⟨h1,h2,h3,h4⟩=>⟨h1,⟨h2,List.nodup_cons.2 ⟨hnk,hn⟩,fun x hx=>?_⟩,(h2.r.old _ hid.1 hid.2).trans (s.r.old _ hid.1 hid.2).symm,h3,h4⟩
  rcases List.mem_cons.1 hx with rfl | hx
  ·exact hkm
  ·exact hs x hx
theorem appendSeq_c {h:DHeap} {c id:Nat} {m:List (Key × Value)} (hlen:m.length≤4294967296) (hok:∀ k∈m.map (·.1),fKey.ok k) (hc:c<h.next) (gc:h.get c=some (.row [.map (some id)] 0 false)) (hid:id<h.next) (hm:MapAt keyV h id m) :
 Ct Try.prog 96 [.slice none 0 0,.func (.func 87) #[] #[.pointer (some ⟨c,0,none⟩)]] h fun r h1=>∃ v dn,r=.ret v∧dn.Nodup∧(∀ k,k∈dn↔k∈m.map (·.1))∧Made fKey h h1 v dn:=by
 refine go_96 (by simp) ?_
 obtain ⟨H0,hH0⟩:∃ H,H=h.push (.row [.slice none 0 0] 0 false):=⟨_,rfl⟩
 have hE0:Ext h H0:=by rw[hH0];exact Ext.push1 _ _
 have hH0n:H0.next=h.next+1:=by rw[hH0];rfl
 have gb:H0.get h.next=some (.row [.slice none 0 0] 0 false):=by rw[hH0];exact get_push_same _ _
 simp -implicitDefEqProofs (disch:=first|omega|simp only[go_sem]) only[go_sem,true_and,c96,← hH0]
 refine app_loop (b:=h.next) (c:=c) (id:=id) (m:=m) hlen hok vz vz (by omega) gb ⟨by omega,by omega⟩ ((hE0.get _ hc).trans gc) ⟨by omega,by omega⟩ (hm.keep (hE0.get _ hid)) (fun dn H hn hmem s=>?_)
 generalize hHf:H.set (H0.next+1) _=Hf
 obtain ⟨rr,v,w,g,o,hw⟩:=s
 have nr:=rr.nx
 have oth:∀ j,j≠H0.next+1→Hf.get j=H.get j:=fun j hj=>by rw[← hHf];exact get_set_other _ _ hj
 have nf:Hf.next=H.next:=by rw[← hHf];rfl
 have hEf:Ext h Hf:=by rw[← hHf];exact (rr.below hE0 fun j hj=>by rw[hj];exact Nat.le_refl _).set (by omega)
 have hM:Hf.get H0.next=some (.marks true):=(oth _ (by omega)).trans rr.mrk
 have k1:cellAt Hf h.next 0=some v:=cellAt_row ((oth _ (by omega)).trans g)
 have o1:Owns fKey.rep NoS (Hf.set H0.next (.marks false)) v dn.reverse w:=o.mono (Nat.le_of_eq nf.symm) (fun i hi=>by have:=hw i hi;rw[get_set_other _ _ (by omega),oth _ (by omega)]) (fun i hi=>hi.elim)
 simp -implicitDefEqProofs (disch:=first|omega|simp only[go_sem]) only[go_sem,true_and,k1]
 refine XLv_mark hM ?_
 simp -implicitDefEqProofs (disch:=first|omega|simp only[go_sem]) only[go_sem,true_and]
 exact ⟨_,rfl,v,dn.reverse,rfl,List.pairwise_reverse.2 (hn.imp fun h=>h.symm),fun k=>by rw[List.mem_reverse];exact hmem k,hEf.set (by omega),w,o1,fun i hi=>by have:=hw i hi;omega⟩
end Go.Proofs.Ythjmkmoiopmfcaa

namespace Go.D
variable {P:Program} {nt:Nat}
def RegC (E:DHeap→DHeap→Prop) (V:Nat→DHeap→Value→Prop) (cons:Nat→Option Nat) (b:List Nat) (i:Nat) (o:Oper) (s s':St):Prop:=
 ∃ v h',s'=⟨s.fr.put o.dst v,s.df,h',s.rd⟩∧E s.h h'∧V i h' v∧∀ j u,j≠i→(b.getD j 0).testBit i=false→(∀ c,cons j=some c→c≠i∧(b.getD i 0).testBit c=false)→V j s.h u→V j h' u
theorem NC.regsC {id:Nat} {ops:Array Oper} {l:List Oper} {b:List Nat} {Q:DExit→St→Prop} {s0:St} (hmix:P.follows .mixedOrders=true) (hd:dstsOK nt ops=true) (hlow:lowOK ops=true) (hb:befs ops.toList []=b) (hl:ops.map stripO=l.toArray) (hown:onceDsts l=true)
 (E:DHeap→DHeap→Prop) (hrefl:∀ h,E h h) (htrans:∀ a b c,E a b→E b c→E a c) (V:Nat→DHeap→Value→Prop) (cons:Nat→Option Nat)
 (hstep:∀ (i:Nat) (o:Oper) (s:St),l[i]? = some o→RegG l E s0 s→(∀ j t,dstOf l j=some t→(b.getD j 0).testBit i=true→s.fr t=s0.fr t)→(∀ t,dstOf l i=some t→s.fr t=s0.fr t)→(∀ j,(b.getD i 0).testBit j=true→(cons j=none∨cons j=some i)→RegAt l V j s)→NOne P l.toArray o s (RegC E V cons b i o s) Q)
 (hfin:∀ s,RegG l E s0 s→(∀ i,i<l.length→cons i=none→RegAt l V i s)→Q .normal s):NC P nt (.region id ops true) Q s0:=by
 subst hb
 have hsz:ops.size=l.length:=by
  have:=congrArg Array.size hl
  simpa using this
 have hat:∀ {i:Nat} {o:Oper},ops[i]? = some o→l[i]? = some (stripO o):=fun {i o} ho=>by
  have:=congrArg (fun a:Array Oper=>a[i]?) hl
  simp only[Array.getElem?_map,ho,Option.map_some]at this
  simpa using this.symm
 refine NC.any hmix hd (lowOK_spec hlow) (fun L s=>RegG l E s0 s∧(∀ i,L i=true→i<ops.size)∧(∀ (i:Nat) o,L i=true→ops[i]? = some o→∀ p∈preds o,L p=true)∧(∀ i,L i=true→(∀ c,cons i=some c→L c=false)→RegAt l V i s)∧∀ j t,dstOf l j=some t→L j=false→s.fr t=s0.fr t)
  ⟨⟨rfl,rfl,hrefl _,fun _ _=>rfl⟩,by simp,by simp,by simp,fun _ _ _ _=>rfl⟩ ?_ (fun L s hI hall=>hfin s hI.1 fun i hi hc=>hI.2.2.2.1 i (hall i (by omega)) fun c hc2=>by rw[hc]at hc2;cases hc2)
 rintro L s i o ⟨hG,hsz',hdn,hF,hpre⟩ ho hn hp
 have hi:=(Array.getElem?_eq_some_iff.1 ho).1
 have hcl:∀ (k:Nat) o,ops[k]? = some o→(∀ p∈preds o,L p=true)→∀ j,((befs ops.toList []).getD k 0).testBit j=true→L j=true:=fun k o ho hp j hj=>
  bef_closed (D:=fun j=>L j=true) (fun i o hi ho p hp=>hdn i o hi ho p hp) k o ho hp j hj
 have hx:=hstep i (stripO o) s (hat ho) hG (fun j t hj hbit=>hpre j t hj (by
  cases hL:L j with
  | false=>rfl
  | true=>
    have hjs:=hsz' j hL
    have hoj:=Array.getElem?_eq_getElem hjs
    have:=hcl j _ hoj (hdn j _ hL hoj) i hbit
    rw[hn]at this
    cases this)) (fun t ht=>hpre i t ht hn) fun j hj hc=>hF j (hcl i o ho hp j hj) fun c hc2=>by
    rcases hc with hc | hc <;> rw[hc]at hc2 <;> cases hc2
    exact hn
 have fin:∀ s',RegC E V cons (befs ops.toList []) i (stripO o) s s' →
  (RegG l E s0 s'∧(∀ j,(if j=i then true else L j)=true→j<ops.size)∧(∀ (j:Nat) o,(if j=i then true else L j)=true→ops[j]? = some o→∀ p∈preds o,(if p=i then true else L p)=true)∧(∀ j,(if j=i then true else L j)=true→(∀ c,cons j=some c→(if c=i then true else L c)=false)→RegAt l V j s')∧∀ j t,dstOf l j=some t→(if j=i then true else L j)=false→s'.fr t=s0.fr t):=by
  rintro _ ⟨v,h',rfl,he,hv,hst⟩
  have hdst:dstOf l i=o.dst:=by simp[dstOf,hat ho,stripO]
  have hput:∀ t,o.dst≠some t→s.fr.put o.dst v t=s.fr t:=fun t ht=>by
   cases hod:o.dst with
   | none=>rfl
   | some d=>exact put_other _ _ (fun e=>ht (by rw[hod,e]))
  refine ⟨⟨hG.df,hG.rd,htrans _ _ _ hG.ext he,fun t ht=>?_⟩,fun j hj=>?_,fun j oj hj hoj p hpm=>?_,fun j hj hcj=>?_,fun j t hj hLj=>?_⟩
  ·have:o.dst≠some t:=fun e=>by
    have hc:isDst l t=true:=List.any_eq_true.2 ⟨stripO o,List.mem_of_getElem? (hat ho),by show (o.dst==some t)=true;rw[e];simp⟩
    rw[ht]at hc;cases hc
   exact (hput t this).trans (hG.fr t ht)
  ·by_cases hji:j=i
   ·rw[hji];exact hi
   ·rw[if_neg hji]at hj;exact hsz' j hj
  ·by_cases hpi:p=i
   ·rw[if_pos hpi]
   ·rw[if_neg hpi]
    by_cases hji:j=i
    ·subst hji;rw[ho]at hoj;cases hoj;exact hp p hpm
    ·rw[if_neg hji]at hj;exact hdn j oj hj hoj p hpm
  ·by_cases hji:j=i
   ·subst hji
    refine ⟨v,fun d hd=>?_,hv⟩
    rw[hdst]at hd
    show s.fr.put o.dst v d=_
    rw[hd]
    exact put_same _ _ _
   ·rw[if_neg hji]at hj
    obtain ⟨u,h1,h2⟩:=hF j hj fun c hc=>by
     have:=hcj c hc
     by_cases hci:c=i
     ·rw[if_pos hci]at this;cases this
     ·rwa [if_neg hci]at this
    have hbj:((befs ops.toList []).getD j 0).testBit i=false:=by
     cases hbit:((befs ops.toList []).getD j 0).testBit i with
     | false=>rfl
     | true=>
       have hoj:=Array.getElem?_eq_getElem (hsz' j hj)
       have:=hcl j _ hoj (hdn j _ hj hoj) i hbit
       rw[hn]at this
       cases this
    refine ⟨u,fun d hd=>?_,hst j u hji hbj (fun c hc=>by
     have h3:=hcj c hc
     by_cases hci:c=i
     ·rw[if_pos hci]at h3;cases h3
     ·rw[if_neg hci]at h3
      refine ⟨hci,?_⟩
      cases hbit:((befs ops.toList []).getD i 0).testBit c with
      | false=>rfl
      | true=>rw[hcl i o ho hp c hbit]at h3;cases h3) h2⟩
    have hne:o.dst≠some d:=fun e=>by
     have hjs:=hsz' j hj
     have hoj:=hat (Array.getElem?_eq_getElem hjs)
     have hd2:(stripO ops[j]).dst=some d:=by simpa [dstOf,hoj] using hd
     exact hji (onceDsts_ne hown hoj (hat ho) hd2 e)
    exact (hput d hne).trans (h1 d hd)
  ·by_cases hji:j=i
   ·rw[if_pos hji]at hLj;cases hLj
   ·rw[if_neg hji]at hLj
    have hne:o.dst≠some t:=fun e=>by
     unfold dstOf at hj
     cases hlj:l[j]? with
     | none=>rw[hlj]at hj;cases hj
     | some oj=>
       rw[hlj]at hj
       exact hji (onceDsts_ne hown hlj (hat ho) (by simpa using hj) e)
    exact (hput t hne).trans (hpre j t hj hLj)
 rw[← hl,NOne_strip]at hx
 unfold NOne at hx ⊢
 cases hw:dWanted ops s.fr o with
 | none=>rw[hw]at hx;exact hx.elim
 | some bb=>
   rw[hw]at hx
   cases bb with
   | false=>exact fin _ hx
   | true=>exact NNext_mono fin (fun _ _ h=>h) hx
section
variable {ops:Array Oper} {o:Oper} {s:St} {E:DHeap→DHeap→Prop} {V:Nat→DHeap→Value→Prop} {cons:Nat→Option Nat} {b:List Nat} {i:Nat} {Q:DExit→St→Prop} {v:Value} {h':DHeap}
theorem regc_pure (hE:∀ h,E h h) (hw:dWanted ops s.fr o=some true) (hop:dOp P (evalF s.h.ng s.fr) o s.h=.ok (.value v) s.h) (hV:V i s.h v):NOne P ops o s (RegC E V cons b i o s) Q:=
 NOne_val hw hop ⟨v,_,rfl,hE _,hV,fun _ _ _ _ _ h=>h⟩
theorem regc_val (hw:dWanted ops s.fr o=some true) (hop:dOp P (evalF s.h.ng s.fr) o s.h=.ok (.value v) h') (he:E s.h h') (hV:V i h' v) (hst:∀ j u,j≠i→(b.getD j 0).testBit i=false→(∀ c,cons j=some c→c≠i∧(b.getD i 0).testBit c=false)→V j s.h u→V j h' u):NOne P ops o s (RegC E V cons b i o s) Q:=
 NOne_val hw hop ⟨v,_,rfl,he,hV,hst⟩
end
end Go.D

namespace Go.Proofs.Ythjmkmoiopmfcaa
open Go.D
open Go.Sort
set_option maxRecDepth 100000
theorem keyLt_iff {a b:Key}:keyLt a b=true↔a.t<b.t∨(a.t=b.t∧a.r<b.r):=by simp[keyLt]
theorem keyLt_irr (a:Key):keyLt a a=false:=by
 cases h:keyLt a a with
 | false=>rfl
 | true=>have:=keyLt_iff.1 h;omega
theorem keyLt_trans {a b c:Key} (h:keyLt a b=true) (g:keyLt b c=true):keyLt a c=true:=by
 rw[keyLt_iff]at *;omega
theorem keyLt_asym {a b:Key} (h:keyLt a b=true):keyLt b a=false:=by
 cases g:keyLt b a with
 | false=>rfl
 | true=>rw[keyLt_iff]at h g;omega
theorem key_ext {a b:Key} (h:a.t=b.t) (g:a.r=b.r):a=b:=by cases a;cases b;simp at h g;simp[h,g]
theorem keyLt_total {a b:Key} (h:keyLt a b=false) (hn:a≠b):keyLt b a=true:=by
 rw[keyLt_iff]
 have h':¬ (a.t<b.t∨(a.t=b.t∧a.r<b.r)):=fun hh=>by rw[keyLt_iff.2 hh]at h;cases h
 by_cases ht:a.t=b.t
 ·have:a.r≠b.r:=fun hr=>hn (key_ext ht hr)
  omega
 ·omega
theorem keyLt_swo:SWO keyLt where
 irrefl:=keyLt_irr
 trans:=fun _ _ _ h g=>keyLt_trans h g
 ntrans:=fun x y z h g=>by
  cases k:keyLt x z with
  | false=>rfl
  | true=>
    have h':¬ (x.t<y.t∨(x.t=y.t∧x.r<y.r)):=fun hh=>by rw[keyLt_iff.2 hh]at h;cases h
    have g':¬ (y.t<z.t∨(y.t=z.t∧y.r<z.r)):=fun hh=>by rw[keyLt_iff.2 hh]at g;cases g
    have:=keyLt_iff.1 k
    omega
abbrev UpK (l:List Key):Prop:=l.Pairwise fun a b=>keyLt a b=true
theorem up_eq:∀ {l m:List Key},UpK l→UpK m→(∀ x,x∈l↔x∈m)→l=m
 | [],[],_,_,_=>rfl
 | [],y :: m,_,_,h=>absurd ((h y).2 List.mem_cons_self) (by simp)
 | x :: l,[],_,_,h=>absurd ((h x).1 List.mem_cons_self) (by simp)
 | x :: l,y :: m,hl,hm,h=>by
   obtain ⟨hx,hl'⟩:=List.pairwise_cons.1 hl
   obtain ⟨hy,hm'⟩:=List.pairwise_cons.1 hm
   have e:x=y:=by
    rcases List.mem_cons.1 ((h x).1 List.mem_cons_self) with e | e
    ·exact e
    ·rcases List.mem_cons.1 ((h y).2 List.mem_cons_self) with e' | e'
     ·exact e'.symm
     ·have a:=hx y e'
      rw[keyLt_asym (hy x e)]at a
      cases a
   subst e
   refine congrArg (x :: ·) (up_eq hl' hm' fun z=>⟨fun hz=>?_,fun hz=>?_⟩)
   ·rcases List.mem_cons.1 ((h z).1 (List.mem_cons_of_mem _ hz)) with e | e
    ·subst e;have:=hx z hz;rw[keyLt_irr]at this;cases this
    ·exact e
   ·rcases List.mem_cons.1 ((h z).2 (List.mem_cons_of_mem _ hz)) with e | e
    ·subst e;have:=hy z hz;rw[keyLt_irr]at this;cases this
    ·exact e
def insK (x:Key):List Key→List Key
 | []=>[x]
 | y :: l=>if keyLt y x=true then y :: insK x l else if y=x then y :: l else x :: y :: l
def keysN (l:List Key):List Key:=l.foldl (fun r x=>insK x r) []
theorem mem_insK {x z:Key}:∀ {l:List Key},z∈insK x l↔z=x∨z∈l
 | []=>by simp[insK]
 | y :: l=>by
   unfold insK
   split
   ·rw[List.mem_cons,mem_insK,List.mem_cons]
    constructor
    ·rintro (h | h | h) <;> simp[h]
    ·rintro (h | h | h) <;> simp[h]
   ·split
    ·rename_i e;subst e
     simp
    ·simp
theorem insK_up {x:Key}:∀ {l:List Key},UpK l→UpK (insK x l)
 | [],_=>by simp[insK]
 | y :: l,h=>by
   obtain ⟨hy,hl⟩:=List.pairwise_cons.1 h
   unfold insK
   split
   ·rename_i e
    refine List.pairwise_cons.2 ⟨fun z hz=>?_,insK_up hl⟩
    rcases mem_insK.1 hz with rfl | hz
    ·exact e
    ·exact hy z hz
   ·rename_i e
    split
    ·exact h
    ·rename_i hn
     have hxy:=keyLt_total (by simpa using e) hn
     refine List.pairwise_cons.2 ⟨fun z hz=>?_,h⟩
     rcases List.mem_cons.1 hz with rfl | hz
     ·exact hxy
     ·exact keyLt_trans hxy (hy z hz)
theorem insK_len {x:Key}:∀ {l:List Key},(insK x l).length≤l.length+1
 | []=>by simp[insK]
 | y :: l=>by
   unfold insK
   have:=insK_len (x:=x) (l:=l)
   split
   ·simp;omega
   ·split <;> simp
theorem fold_ins:∀ (l r:List Key),UpK r→UpK (l.foldl (fun r x=>insK x r) r)∧∀ z,z∈l.foldl (fun r x=>insK x r) r↔z∈l∨z∈r
 | [],r,h=>by simp[h]
 | x :: l,r,h=>by
   obtain ⟨a,b⟩:=fold_ins l (insK x r) (insK_up h)
   refine ⟨a,fun z=>?_⟩
   rw[List.foldl_cons,b z,mem_insK,List.mem_cons]
   constructor
   ·rintro (h | h | h) <;> simp[h]
   ·rintro ((h | h) | h) <;> simp[h]
theorem keysN_up (l:List Key):UpK (keysN l):=(fold_ins l [] .nil).1
theorem mem_keysN {l:List Key} {z:Key}:z∈keysN l↔z∈l:=by
 have:=(fold_ins l [] .nil).2 z
 simpa [keysN] using this
theorem fold_len:∀ (l r:List Key),(l.foldl (fun r x=>insK x r) r).length≤l.length+r.length
 | [],r=>by simp
 | x :: l,r=>by
   have h1:=fold_len l (insK x r)
   have h2:=insK_len (x:=x) (l:=r)
   simp only[List.foldl_cons,List.length_cons]
   omega
theorem keysN_len (l:List Key):(keysN l).length≤l.length:=by simpa [keysN] using fold_len l []
def compK:List Key→List Key
 | []=>[]
 | [x]=>[x]
 | x :: y :: l=>if x=y then compK (y :: l) else x :: compK (y :: l)
theorem mem_compK {z:Key}:∀ {l:List Key},z∈compK l↔z∈l
 | []=>by simp[compK]
 | [x]=>by simp[compK]
 | x :: y :: l=>by
   unfold compK
   have:=mem_compK (z:=z) (l:=y :: l)
   split
   ·rename_i e;subst e
    rw[this];simp
   ·rw[List.mem_cons,this];simp
theorem compK_up:∀ {l:List Key},l.Pairwise (fun a b=>keyLt b a=false)→UpK (compK l)
 | [],_=>by simp[compK]
 | [x],_=>by simp[compK]
 | x :: y :: l,h=>by
   obtain ⟨hx,hl⟩:=List.pairwise_cons.1 h
   unfold compK
   split
   ·exact compK_up hl
   ·rename_i hn
    have hxy:=keyLt_total (hx y List.mem_cons_self) (fun e=>hn e.symm)
    refine List.pairwise_cons.2 ⟨fun z hz=>?_,compK_up hl⟩
    rcases List.mem_cons.1 (mem_compK.1 hz) with rfl | hz
    ·exact hxy
    ·have hyz:=(List.pairwise_cons.1 hl).1 z hz
     by_cases e:z=y
     ·rw[e];exact hxy
     ·exact keyLt_trans hxy (keyLt_total hyz e)
theorem keys_same {l l':List Key} (hp:l'.Perm l) (hs:l'.Pairwise (fun a b=>keyLt b a=false)):compK l'=keysN l:=
 up_eq (compK_up hs) (keysN_up l) fun z=>by rw[mem_compK,mem_keysN,hp.mem_iff]
instance:Inhabited Key:=⟨⟨0,0⟩⟩
theorem sorted_list {l:List Key} {n:Nat} (hn:n=l.length) (h:SortedIn keyLt 0 n l.toArray):l.Pairwise (fun a b=>keyLt b a=false):=by
 subst hn
 refine List.pairwise_iff_getElem.2 fun i j hi hj hij=>?_
 have:=h i j (Nat.zero_le _) hij hj
 simpa [hi,hj] using this
end Go.Proofs.Ythjmkmoiopmfcaa

namespace Go.Proofs.Ythjmkmoiopmfcaa
open Go.D
set_option maxRecDepth 100000
theorem _root_.Go.D.Made.base {α:Type} {F:FRep α} {h0 h1 h2:DHeap} {v:Value} {l:List α} (m:Made F h1 h2 v l) (e:Ext h0 h1):Made F h0 h2 v l:=by
 obtain ⟨w,a,b⟩:=m.own
 exact ⟨e.trans m.ext,w,a,fun i hi=>Nat.le_trans e.next (b i hi)⟩
def InsV (L:List Value) (K0:DHeap) (a b c:List Key) (k:Nat) (h:DHeap) (v:Value):Prop:=
 ((k≠4∧k≠9∧k≠10∧k≠14∧k≠15)→v=L.getD k undef)∧(k=4→Made fKey K0 h v a)∧(k=9→Arg fKey.rep h v b)∧(k=10→Made fKey K0 h v (a++b))∧(k=14∨k=15→Made fKey K0 h v (a++b++c))
theorem InsV.stab {L:List Value} {K0 h h':DHeap} {a b c:List Key} {k:Nat} {v:Value} (e:Ext h h') (x:InsV L K0 a b c k h v):InsV L K0 a b c k h' v:=
 ⟨x.1,fun hk=>(x.2.1 hk).on e,fun hk=>(x.2.2.1 hk).ext e,fun hk=>(x.2.2.2.1 hk).on e,fun hk=>(x.2.2.2.2 hk).on e⟩
end Go.Proofs.Ythjmkmoiopmfcaa

namespace Go.D
variable {P:Program} {α:Type}
def RowIs (F:FRep α) (h:DHeap) (id:Nat) (A:List α):Prop:=h.get id=some (.row (A.flatMap F.enc) F.z false)
theorem setAt_over (vs:List Value):∀ (x B:List Value),vs.length=x.length→setAt (x++B) 0 vs=vs++B:=fun x B hl=>by
 refine List.ext_getElem? fun i=>?_
 rw[setAt_get]
 by_cases h1:i<vs.length
 ·rw[if_pos ⟨Nat.zero_le _,by omega,by simp;omega⟩,Nat.sub_zero,List.getElem?_append_left h1]
 ·rw[if_neg (by omega),List.getElem?_append_right (by omega),List.getElem?_append_right (by omega),hl]
theorem flatMap_set (F:FRep α) {A:List α} {k:Nat} (hk:k<A.length) (x:α):setAt (A.flatMap F.enc) (k*F.z) (F.enc x)=(A.set k x).flatMap F.enc:=by
 have h1:A.flatMap F.enc=(A.take k).flatMap F.enc++(F.enc A[k]++(A.drop (k+1)).flatMap F.enc):=by
  conv=>lhs;rw[← List.take_append_drop k A,List.drop_eq_getElem_cons hk]
  rw[List.flatMap_append,List.flatMap_cons]
 have h2:(A.set k x).flatMap F.enc=(A.take k).flatMap F.enc++(F.enc x++(A.drop (k+1)).flatMap F.enc):=by
  rw[List.set_eq_take_append_cons_drop,if_pos hk,List.flatMap_append,List.flatMap_cons]
 have h3:k*F.z=((A.take k).flatMap F.enc).length+0:=by rw[flatMap_len];simp[Nat.min_eq_left (Nat.le_of_lt hk)]
 rw[h1,h2,h3,setAt_mid,setAt_over _ _ _ (by rw[F.len,F.len])]
theorem RowIs.store {F:FRep α} {h:DHeap} {id k:Nat} {A:List α} (r:RowIs F h id A) (hk:k<A.length) (x:α):storeAt h id (k*F.z) (F.enc x)=some (h.set id (.row ((A.set k x).flatMap F.enc) F.z false)):=by
 have hm:(k+1)*F.z≤A.length*F.z:=Nat.mul_le_mul_right _ hk
 rw[Nat.succ_mul]at hm
 rw[storeAt_row r (by rw[F.len,flatMap_len];exact hm) ?_,flatMap_set F hk]
 refine List.all_eq_true.2 fun v hv=>?_
 have:=List.all_eq_true.1 (F.flat x) v hv
 unfold flat1 at this
 cases v <;> first | rfl | cases this
theorem RowIs.set {F:FRep α} {h:DHeap} {id:Nat} {A:List α} {z:Nat} (hz:z=F.z):RowIs F (h.set id (.row (A.flatMap F.enc) z false)) id A:=by
 subst hz;exact get_set_same _ _
theorem RowIs.sl {F:FRep α} {h:DHeap} {id o n c:Nat} {A:List α} (r:RowIs F h id A) (hn:o+n≤A.length) (hok:∀ x∈A,F.ok x):Sl F.rep (fun i=>i=id) h (.slice (some ⟨id,o*F.z,none⟩) n c) ((A.drop o).take n):=by
 have hl:((A.drop o).take n).length=n:=by simp;omega
 have hm:(o+n)*F.z≤A.length*F.z:=Nat.mul_le_mul_right _ hn
 rw[Nat.add_mul]at hm
 refine .inr ⟨id,o*F.z,c,A.flatMap F.enc,F.z,false,by rw[hl],rfl,r,.inr rfl,?_,?_⟩
 ·rw[hl,flatMap_len];exact hm
 ·refine Els.flat.2 ⟨?_,fun x hx=>hok x (List.mem_of_mem_drop (List.mem_of_mem_take hx))⟩
  rw[hl]
  have h1:A.flatMap F.enc=(A.take o).flatMap F.enc++(((A.drop o).take n).flatMap F.enc++(A.drop (o+n)).flatMap F.enc):=by
   rw[← List.flatMap_append,← List.flatMap_append]
   congr 1
   rw[← List.drop_drop,List.take_append_drop,List.take_append_drop]
  have h2:o*F.z=((A.take o).flatMap F.enc).length:=by rw[flatMap_len];simp[Nat.min_eq_left (show o≤A.length by omega)]
  have h3:n*F.rep.z=(((A.drop o).take n).flatMap F.enc).length:=by rw[flatMap_len,hl];rfl
  rw[h1,h2,List.drop_left,h3,List.take_left]
theorem dSlice_row {t:TypeId} {z id o n c:Nat} {h:DHeap} {cs:List Value} {lo hi:Option Value} {i j:Nat} (hz:slElem P t=some z) (hp:0<z) (hg:h.get id=some (.row cs z false)) (hj:boundOf hi n n=some j) (hi2:boundOf lo 0 j=some i) :
 dSlice P t (.slice (some ⟨id,o,none⟩) n c) lo hi none h=some (.slice (some ⟨id,o+i*z,none⟩) (j - i) (if j=n∧c=n then j - i else j - i+1)):=by
 unfold slElem at hz
 split at hz
 ·rename_i e e1
  cases e2:P.info? e with
  | none=>rw[e2]at hz;cases hz
  | some inf=>
    rw[e2]at hz
    have hsz:inf.size=z:=by simpa using hz
    have hfit:rowFits h id inf.size=true:=by simp[rowFits,hg,hsz]
    simp only[dSlice,e1,e2]
    rw[if_pos ⟨hfit,by rw[hsz];exact hp⟩]
    simp only[boundOf]at hj hi2 ⊢
    simp only[hj,hi2,hsz]
 ·cases hz
def clElem (P:Program) (t:TypeId):Option (Nat × Value):=
 match P.underlying t with
 | some (.slice e)=>(P.info? e).bind fun i=>i.zero.map fun z=>(z.cells.size,z)
 | _=>none
theorem dClear_row {t:TypeId} {zc id o n c esz:Nat} {zv:Value} {h:DHeap} {cs:List Value} (hz:clElem P t=some (zc,zv)) (hall:zv.cells.toList.all flat1=true) (hg:h.get id=some (.row cs esz false)) (hl:o+n*zc≤cs.length) :
 ∃ zs:List Value,zs.length=n*zc∧dClear P #[t] (.slice (some ⟨id,o,none⟩) n c) h=some (.tuple #[],h.set id (.row (setAt cs o zs) esz false)):=by
 unfold clElem at hz
 split at hz
 ·rename_i e e1
  cases e2:P.info? e with
  | none=>rw[e2]at hz;cases hz
  | some inf=>
    rw[e2]at hz
    rw[Option.bind_some]at hz
    cases e3:inf.zero with
    | none=>rw[e3]at hz;simp at hz
    | some z=>
      rw[e3]at hz
      simp only[Option.map_some,Option.some.injEq,Prod.mk.injEq]at hz
      obtain ⟨h1,rfl⟩:=hz
      by_cases h0:n=0
      ·subst h0
       refine ⟨[],by simp,?_⟩
       simp only[dClear,List.getElem?_toArray,List.getElem?_cons_zero,e1,if_true,setAt,set_self hg]
      ·refine ⟨(rowZeros z.cells (n*z.cells.size)).toList,by simp[rowZeros,h1],?_⟩
       simp only[dClear,List.getElem?_toArray,List.getElem?_cons_zero,e1,if_neg h0,e2,e3,hg]
       rw[if_pos ⟨hall,by rw[h1];exact hl⟩]
 ·cases hz
theorem sl_head {F:FRep α} {h:DHeap} {id k c:Nat} {B:List α} {cs zs:List Value} (hg:h.get id=some (.row (setAt cs (k*F.z) zs) F.z false)) (hk:k=B.length) (hl:k*F.z≤cs.length) (hB:cs.take (k*F.z)=B.flatMap F.enc) (hok:∀ x∈B,F.ok x):Sl F.rep (fun i=>i=id) h (.slice (some ⟨id,0,none⟩) k c) B:=by
 subst hk
 refine .inr ⟨id,0,c,_,F.z,false,rfl,rfl,hg,.inr rfl,?_,Els.flat.2 ⟨?_,hok⟩⟩
 ·rw[setAt_length];show 0+B.length*F.z≤_;omega
 ·rw[← hB,List.drop_zero]
  refine List.ext_getElem? fun i=>?_
  show (List.take (B.length*F.z) _)[i]? = _
  rw[List.getElem?_take,List.getElem?_take,setAt_get]
  split
  ·rw[if_neg (by omega)]
  ·rfl
end Go.D

namespace Go.Proofs.Ythjmkmoiopmfcaa
open Go.D
set_option maxRecDepth 100000
theorem compK_snoc {x y:Key}:∀ {L:List Key},compK (L++[y,x])=if y=x then compK (L++[y]) else compK (L++[y])++[x]
 | []=>by
   simp only[List.nil_append,compK]
   split
   ·rename_i e;rw[e]
   ·rfl
 | [z]=>by
   simp only[List.cons_append,List.nil_append,compK]
   by_cases h1:z=y <;> by_cases h2:y=x <;> simp[h1,h2]
 | z :: w :: L=>by
   have ih:=compK_snoc (x:=x) (y:=y) (L:=w :: L)
   simp only[List.cons_append,compK]at ih ⊢
   by_cases h1:z=w
   ·rw[if_pos h1,if_pos h1];exact ih
   ·rw[if_neg h1,if_neg h1,ih]
    split <;> simp
theorem compK_take {l:List Key} {m:Nat} (hm:m+1<l.length):compK (l.take (m+1+1))=if l[m]=l[m+1] then compK (l.take (m+1)) else compK (l.take (m+1))++[l[m+1]]:=by
 rw[List.take_succ_eq_append_getElem hm,List.take_succ_eq_append_getElem (show m<l.length by omega),List.append_assoc]
 exact compK_snoc
theorem row_key {K:DHeap} {id i:Nat} {A:List Key} (r:RowIs fKey K id A) (hi:i<A.length):cellsAt K id (i*2) 2=some (keyV A[i]):=by
 have hm:(i+1)*2≤A.length*2:=Nat.mul_le_mul_right _ hi
 have h1:A.flatMap fKey.enc=(A.take i).flatMap fKey.enc++(fKey.enc A[i]++(A.drop (i+1)).flatMap fKey.enc):=by
  conv=>lhs;rw[← List.take_append_drop i A,List.drop_eq_getElem_cons hi]
  rw[List.flatMap_append,List.flatMap_cons]
 have h2:i*2=((A.take i).flatMap fKey.enc).length:=by rw[flatMap_len];simp[Nat.min_eq_left (Nat.le_of_lt hi)];rfl
 rw[cellsAt_row r (by rw[flatMap_len];show _≤A.length*2;omega),h1,h2,List.drop_left]
 rfl
structure CmpI (l:List Key) (n0 k2 k:Nat) (A:List Key):Prop where
 len:A.length=l.length
 le:n0+k2≤l.length
 one:1≤n0∧1≤k2
 kk:k=(compK (l.take (n0+k2))).length
 hd:A.take k=compK (l.take (n0+k2))
 lt:k<n0+k2
 tl:∀ p,k≤p→A[p]? = l[p]?
theorem CmpI.first {l:List Key} {n0:Nat} (h0:n0+1<l.length) (he:l[n0]=l[n0+1]) (hc:compK (l.take (n0+1))=l.take (n0+1)):CmpI l (n0+1) 1 (n0+1) l where
 len:=rfl
 le:=by omega
 one:=by omega
 kk:=by rw[compK_take h0,if_pos he,hc];simp;omega
 hd:=by rw[compK_take h0,if_pos he,hc]
 lt:=by omega
 tl:=fun _ _=>rfl
theorem CmpI.at {l A:List Key} {n0 k2 k:Nat} (x:CmpI l n0 k2 k A) (h:n0+k2<l.length):∃ (h1:n0+k2<A.length) (h2:n0+k2 - 1<A.length),A[n0+k2]=l[n0+k2]∧A[n0+k2 - 1]=l[n0+k2 - 1]:=by
 have e:=x.len
 have:=x.one
 refine ⟨by omega,by omega,?_,?_⟩
 ·have h1:=x.tl (n0+k2) (by have:=x.lt;omega)
  rw[List.getElem?_eq_getElem (by omega),List.getElem?_eq_getElem h]at h1
  exact Option.some.inj h1
 ·have h1:=x.tl (n0+k2 - 1) (by have:=x.lt;omega)
  rw[List.getElem?_eq_getElem (by omega),List.getElem?_eq_getElem (by omega)]at h1
  exact Option.some.inj h1
theorem CmpI.same {l A:List Key} {n0 k2 k:Nat} (x:CmpI l n0 k2 k A) (h:n0+k2<l.length) (he:l[n0+k2]=l[n0+k2 - 1]):CmpI l n0 (k2+1) k A:=by
 obtain ⟨m,hm⟩:∃ m,n0+k2=m+1:=⟨n0+k2 - 1,by have:=x.one;omega⟩
 obtain ⟨a,b,c,d,e,f,g⟩:=x
 have hs:=compK_take (l:=l) (m:=m) (by omega)
 simp only[hm,Nat.add_sub_cancel]at he
 rw[if_pos he.symm]at hs
 refine ⟨a,by omega,by omega,?_,?_,by omega,g⟩
 ·rw[← Nat.add_assoc,hm,hs,← hm];exact d
 ·rw[← Nat.add_assoc,hm,hs,← hm];exact e
theorem CmpI.other {l A:List Key} {n0 k2 k:Nat} (x:CmpI l n0 k2 k A) (h:n0+k2<l.length) (he:¬ l[n0+k2]=l[n0+k2 - 1]):CmpI l n0 (k2+1) (k+1) (A.set k l[n0+k2]):=by
 obtain ⟨m,hm⟩:∃ m,n0+k2=m+1:=⟨n0+k2 - 1,by have:=x.one;omega⟩
 obtain ⟨a,b,c,d,e,f,g⟩:=x
 have hs:=compK_take (l:=l) (m:=m) (by omega)
 have he':¬ l[m]=l[m+1]:=fun hh=>he (by simp only[hm,Nat.add_sub_cancel];exact hh.symm)
 rw[if_neg he']at hs
 refine ⟨by simp[a],by omega,by omega,?_,?_,by omega,fun p hp=>?_⟩
 ·rw[← Nat.add_assoc]
  simp only[hm]at d ⊢
  rw[hs,List.length_append,← d]
  rfl
 ·rw[← Nat.add_assoc]
  simp only[hm]at e ⊢
  rw[hs,← e,List.take_succ_eq_append_getElem (by simp;omega),List.take_set_of_le (Nat.le_refl _)]
  simp
 ·rw[List.getElem?_set_ne (by omega)]
  exact g p (by omega)
theorem cl_key:clElem Try.prog 24=some (2,.agg #[.int .i32 0,.int .i64 0]):=by kernel_rfl
set_option maxHeartbeats 1000000 in
theorem compact_c {h:DHeap} {id c:Nat} {l:List Key} (hr:RowIs fKey h id l) (hok:∀ x∈l,fKey.ok x) (hl:l.length≤1048576) :
 Ct Try.prog 79 [.slice (some ⟨id,0,none⟩) l.length c] h fun r h1=>∃ c' cs,r=.ret (.slice (some ⟨id,0,none⟩) (compK l).length c')∧h1=h.set id (.row cs 2 false)∧Sl fKey.rep (fun i=>i=id) h1 (.slice (some ⟨id,0,none⟩) (compK l).length c') (compK l):=by
 refine go_79 (by simp) ?_
 obtain ⟨v,hv⟩:∃ v,Value.slice (some ⟨id,0,none⟩) l.length c=v:=⟨_,rfl⟩
 have el:∀ K,dLen Try.prog #[24] v K=some (.int .i64 (l.length:Nat)):=fun K=>by rw[← hv];rfl
 have hself:h=h.set id (.row (l.flatMap fKey.enc) 2 false):=(set_self hr).symm
 have done1:compK l=l→∃ u,some v=some u∧∃ c' cs,DEnd.ret u=.ret (.slice (some ⟨id,0,none⟩) (compK l).length c')∧h=h.set id (.row cs 2 false)∧Sl fKey.rep (fun i=>i=id) h (.slice (some ⟨id,0,none⟩) (compK l).length c') (compK l):=fun e=>by
  refine ⟨v,rfl,c,_,by rw[← hv,e],hself,?_⟩
  have:=hr.sl (o:=0) (n:=l.length) (c:=c) (by omega) hok
  rw[e]
  simpa using this
 by_cases h2:(l.length:Int)<2
 ·have h2':=eq_true h2
  simp -implicitDefEqProofs (disch:=first|omega|simp only[go_sem]) only[go_sem,true_and,c79,hv,el,h2']
  refine done1 ?_
  match l,h2 with
  | [],_=>rfl
  | [_],_=>rfl
  | _ :: _ :: _,h=>simp at h;omega
 have hz2:2≤l.length:=by omega
 have ia:∀ i:Nat,i<l.length→dIndexAddr Try.prog 24 v (.int .i64 (i:Nat))=some (.pointer (some ⟨id,i*2,none⟩)):=fun i hi=>by
  rw[← hv]
  refine (dIndexAddr_at el_24 (by omega) (by omega)).trans ?_
  rw[Nat.zero_add,Int.toNat_natCast]
 have slo:∀ K (A:List Key) (k:Nat),RowIs fKey K id A→k≤l.length→∃ c',dSlice Try.prog 24 v (some (.int .i64 (k:Nat))) none none K=some (.slice (some ⟨id,k*2,none⟩) (l.length - k) c'):=fun K A k r hk=>by
  rw[← hv]
  have:=dSlice_row (c:=c) (o:=0) (n:=l.length) el_24 (by decide) r (lo:=some (.int .i64 (k:Nat))) (hi:=none) (j:=l.length) (i:=k) rfl (bound_nat (k:=.i64) hk)
  rw[Nat.zero_add]at this
  exact ⟨_,this⟩
 have shi:∀ K cs (k:Nat),K.get id=some (.row cs 2 false)→k≤l.length→∃ c',dSlice Try.prog 24 v none (some (.int .i64 (k:Nat))) none K=some (.slice (some ⟨id,0,none⟩) k c'):=fun K cs k r hk=>by
  rw[← hv]
  exact ⟨_,(dSlice_row el_24 (by decide) r (j:=k) (i:=0) (bound_nat (k:=.i64) hk) rfl)⟩
 have hrr:∀ A:List Key,RowIs fKey (h.set id (.row (A.flatMap fKey.enc) 2 false)) id A:=fun A=>RowIs.set rfl
 simp -implicitDefEqProofs (disch:=first|omega|simp only[go_sem]) only[go_sem,true_and,c79,hv,el,h2]
 refine xloop (σ:=Nat) (by kernel_rfl) (fun j s=>s.df=[]∧s.rd=none∧s.h=h∧s.fr 0=some v∧s.fr 3=some (.int .i64 ((j+1:Nat):Int))∧j+1≤l.length∧compK (l.take (j+1))=l.take (j+1)) (fun j=>l.length - j) 0 ?_ ?_
 ·simp -implicitDefEqProofs (disch:=first|omega|simp only[go_sem]) only[go_sem,true_and]
  refine ⟨rfl,by omega,?_⟩
  match l,hz2 with
  | x :: y :: _,_=>rfl
 rintro j ⟨fr,df,K,rd⟩ K' hK' hX ⟨rfl,rfl,rfl,f0,f3,hj,hc⟩
 simp only at f0 f3
 simp -implicitDefEqProofs (disch:=first|omega|simp only[go_sem]) only[go_sem,true_and,f0,f3,el]
 refine XIf_dec (fun hc1=>?_) (fun hc1=>?_)
 ·have hjl:j+1<l.length:=by omega
  have hwm:IntKind.i64.wrap (((j+1:Nat):Int) - 1)=(j:Nat):=by rw[wrap_i64_in (by omega) (by omega)];omega
  have hw1:=wrap_succ hjl (by omega)
  have k1:=row_key hr hjl
  have k0:=row_key hr (show j<l.length by omega)
  simp -implicitDefEqProofs (disch:=first|omega|simp only[go_sem]) only[go_sem,true_and]
  refine dr_79_0 ?_
  by_cases heq:l[j+1]=l[j]
  case neg=>
   have heqd:decide (l[j+1]=l[j])=false:=decide_eq_false heq
   simp -implicitDefEqProofs (disch:=first|omega|simp only[go_sem]) only[go_sem,true_and,l79_0,f0,f3,hwm,ia _ hjl,ia j (show j<l.length by omega),k0,k1,bin_key',heqd,XStab_nil,hw1]
   refine hK' (j+1) _ ?_ (by omega)
   refine ⟨by trivial,by trivial,by trivial,(vy f0),vz,by omega,?_⟩
   rw[compK_take hjl,if_neg (fun e=>heq e.symm),hc,List.take_succ_eq_append_getElem hjl]
  have heqd:decide (l[j+1]=l[j])=true:=decide_eq_true heq
  obtain ⟨c2,hs2⟩:=slo K l (j+1) hr (by omega)
  simp -implicitDefEqProofs (disch:=first|omega|simp only[go_sem]) only[go_sem,true_and,l79_0,f0,f3,hwm,ia _ hjl,ia j (show j<l.length by omega),k0,k1,bin_key',heqd,XStab_nil,hs2]
  obtain ⟨s2,hs2v⟩:∃ s2,Value.slice (some ⟨id,(j+1)*2,none⟩) (l.length - (j+1)) c2=s2:=⟨_,rfl⟩
  have el2:∀ K,dLen Try.prog #[24] s2 K=some (.int .i64 ((l.length - (j+1):Nat):Int)):=fun K=>by rw[← hs2v];rfl
  have ia2:∀ i:Nat,j+1+i<l.length→dIndexAddr Try.prog 24 s2 (.int .i64 (i:Nat))=some (.pointer (some ⟨id,(j+1+i)*2,none⟩)):=fun i hi=>by
   rw[← hs2v]
   refine (dIndexAddr_at el_24 (by omega) (by omega)).trans ?_
   rw[Nat.add_mul (j+1),Int.toNat_natCast]
  rw[hs2v]
  refine xloop (σ:=Nat) (by kernel_rfl) (fun i s=>s.df=[]∧s.rd=none∧s.fr 0=some v∧s.fr 4=some s2∧s.fr 5=some (.int .i64 (i:Nat))∧∃ k A,s.fr 3=some (.int .i64 (k:Nat))∧s.h=K.set id (.row (A.flatMap fKey.enc) 2 false)∧CmpI l (j+1) i k A) (fun i=>l.length - i) 1 ?_ ?_
  ·simp -implicitDefEqProofs (disch:=first|omega|simp only[go_sem]) only[go_sem,true_and,f0,f3]
   exact ⟨rfl,_,l,rfl,hself,.first hjl heq.symm hc⟩
  clear f0 f3
  rintro i ⟨fr,df,M,rd⟩ K2' hK2 hX2 ⟨rfl,rfl,f0,f4,f5,k,A,f3,hM,x⟩
  simp only at f0 f4 f5 f3 hM
  subst hM
  have hrA:=hrr A
  have xle:=x.le
  have xone:=x.one
  simp -implicitDefEqProofs (disch:=first|omega|simp only[go_sem]) only[go_sem,true_and,f4,f5,el2]
  refine XIf_dec (fun hc2=>?_) (fun hc2=>?_)
  ·have hil:j+1+i<l.length:=by omega
   obtain ⟨hA1,hA0,eA1,eA0⟩:=x.at hil
   have k1:=row_key hrA hA1
   have k0:=row_key hrA hA0
   rw[eA1]at k1
   rw[eA0]at k0
   have hwm2:IntKind.i64.wrap (((i:Nat):Int) - 1)=((i - 1:Nat):Int):=by rw[wrap_i64_in (by omega) (by omega)];omega
   have hw2:=wrap_succ (i:=i) (show i<l.length by omega) (by omega)
   have hia1:=ia2 i hil
   have hia0:=ia2 (i - 1) (by omega)
   rw[show j+1+(i - 1)=j+1+i - 1 by omega]at hia0
   simp -implicitDefEqProofs (disch:=first|omega|simp only[go_sem]) only[go_sem,true_and]
   refine dr_79_1 ?_
   by_cases he2:l[j+1+i]=l[j+1+i - 1]
   ·have heqd2:decide (l[j+1+i]=l[j+1+i - 1])=true:=decide_eq_true he2
    simp -implicitDefEqProofs (disch:=first|omega|simp only[go_sem]) only[go_sem,true_and,l79_1,f4,f5,hwm2,hia1,hia0,k0,k1,bin_key,heqd2,Bool.not_true,XStab_nil,hw2]
    refine hK2 (i+1) _ ?_ (by omega)
    exact ⟨by trivial,by trivial,(vy f0),(vy f4),vz,k,A,(vy f3),by trivial,x.same hil he2⟩
   ·have heqd2:decide (l[j+1+i]=l[j+1+i - 1])=false:=decide_eq_false he2
    have xlt:=x.lt
    have xlen:=x.len
    have hst:storeAt (K.set id (.row (A.flatMap fKey.enc) 2 false)) id (k*2) [.int .i32 l[j+1+i].t,.int .i64 l[j+1+i].r]=some (K.set id (.row ((A.set k l[j+1+i]).flatMap fKey.enc) 2 false)):=
     (hrA.store (show k<A.length by omega) l[j+1+i]).trans (congrArg some (set_set _ _ _ _))
    have hw3:=wrap_succ (i:=k) (show k<l.length by omega) (by omega)
    simp -implicitDefEqProofs (disch:=first|omega|simp only[go_sem]) only[go_sem,true_and,l79_1,f0,f3,f4,f5,hwm2,hia1,hia0,ia k (show k<l.length by omega),k0,k1,bin_key,heqd2,Bool.not_false,XStab_nil,hw2,hst,hw3]
    refine hK2 (i+1) _ ?_ (by omega)
    exact ⟨by trivial,by trivial,(vy f0),(vy f4),vz,k+1,A.set k l[j+1+i],vz,by trivial,x.other hil he2⟩
  ·have hil:j+1+i=l.length:=by omega
   have xlt:=x.lt
   have xlen:=x.len
   have xk:=x.kk
   have xhd:=x.hd
   rw[hil,List.take_length]at xk xhd
   obtain ⟨c3,hs3⟩:=slo _ A k hrA (by omega)
   obtain ⟨zs,hzs,hcl⟩:=dClear_row (esz:=2) (n:=l.length - k) (c:=c3) (o:=k*2) cl_key rfl hrA (by rw[flatMap_len];show _≤A.length*2;omega)
   rw[set_set]at hcl
   obtain ⟨c4,hs4⟩:=shi (K.set id (.row (setAt (A.flatMap fKey.enc) (k*2) zs) 2 false)) _ k (get_set_same _ _) (by omega)
   refine hX2 _ _ (by simp) ?_
   simp -implicitDefEqProofs (disch:=first|omega|simp only[go_sem]) only[go_sem,true_and,f0,f3,hs3,hcl,hs4]
   refine hX _ _ (by simp) ?_
   simp -implicitDefEqProofs (disch:=first|omega|simp only[go_sem]) only[go_sem,true_and]
   refine ⟨_,rfl,c4,_,by rw[← xk],rfl,?_⟩
   rw[← xk]
   refine sl_head (cs:=A.flatMap fKey.enc) (zs:=zs) (get_set_same _ _) xk (by rw[flatMap_len];show k*2≤A.length*2;omega) ?_ fun y hy=>hok y (mem_compK.1 hy)
   have hAk:A.flatMap fKey.enc=(A.take k).flatMap fKey.enc++(A.drop k).flatMap fKey.enc:=by rw[← List.flatMap_append,List.take_append_drop]
   have hlk:k*fKey.z=((A.take k).flatMap fKey.enc).length:=by rw[flatMap_len];simp[Nat.min_eq_left (show k≤A.length by omega)]
   rw[hAk,hlk,List.take_left,xhd]
 ·have:j+1=l.length:=by omega
  rw[this,List.take_length]at hc
  refine hX _ _ (by simp) ?_
  simp -implicitDefEqProofs (disch:=first|omega|simp only[go_sem]) only[go_sem,true_and,f0]
  exact done1 hc
end Go.Proofs.Ythjmkmoiopmfcaa

namespace Go.Proofs.Ythjmkmoiopmfcaa
open Go.D
set_option maxRecDepth 100000
section
variable {α:Type} (key:α→Key)
def lastB (l:List α) (k:Key):Option α:=l.reverse.find? fun p=>key p=k
def byK (l:List α):List α:=(keysN (l.map key)).filterMap (lastB key l)
def insB (x:α):List α→List α
 | []=>[x]
 | y :: r=>if keyLt (key y) (key x)=true then y :: insB x r else if key y=key x then x :: r else x :: y :: r
abbrev UpB (l:List α):Prop:=l.Pairwise fun a b=>keyLt (key a) (key b)=true
variable {key}
theorem lastB_some {l:List α} {k:Key} {x:α} (h:lastB key l k=some x):x∈l∧key x=k:=by
 refine ⟨List.mem_reverse.1 (List.mem_of_find?_eq_some h),?_⟩
 have:=List.find?_some h
 simpa using this
theorem lastB_none {l:List α} {k:Key}:lastB key l k=none↔k∉l.map key:=by
 unfold lastB
 rw[List.find?_eq_none]
 constructor
 ·intro h hm
  obtain ⟨p,hp,rfl⟩:=List.mem_map.1 hm
  have:=h p (List.mem_reverse.2 hp)
  simp at this
 ·intro h p hp e
  exact h (List.mem_map.2 ⟨p,List.mem_reverse.1 hp,by simpa using e⟩)
theorem lastB_mem {l:List α} {k:Key} (h:k∈l.map key):∃ x,lastB key l k=some x:=by
 cases hq:lastB key l k with
 | some q=>exact ⟨q,rfl⟩
 | none=>exact absurd h (lastB_none.1 hq)
theorem lastB_snoc {l:List α} {x:α} {k:Key}:lastB key (l++[x]) k=if key x=k then some x else lastB key l k:=by
 unfold lastB
 rw[List.reverse_append]
 by_cases h:key x=k
 ·simp[h]
 ·simp[h]
theorem lastB_append {l m:List α} {k:Key}:lastB key (l++m) k=match lastB key m k with | some x=>some x | none=>lastB key l k:=by
 unfold lastB
 rw[List.reverse_append,List.find?_append]
 cases List.find? (fun p=>decide (key p=k)) m.reverse <;> rfl
theorem mem_byK {l:List α} {x:α}:x∈byK key l↔lastB key l (key x)=some x:=by
 unfold byK
 rw[List.mem_filterMap]
 constructor
 ·rintro ⟨k,_,hx⟩
  rw[(lastB_some hx).2]
  exact hx
 ·intro h
  exact ⟨key x,mem_keysN.2 (List.mem_map.2 ⟨x,(lastB_some h).1,rfl⟩),h⟩
theorem byK_up (l:List α):UpB key (byK key l):=by
 unfold byK UpB
 rw[List.pairwise_filterMap]
 exact (keysN_up (l.map key)).imp fun {a b} hab x hx y hy=>by
  rw[(lastB_some hx).2,(lastB_some hy).2]
  exact hab
theorem upB_eq:∀ {l m:List α},UpB key l→UpB key m→(∀ x,x∈l↔x∈m)→l=m
 | [],[],_,_,_=>rfl
 | [],y :: m,_,_,h=>by have:=(h y).2 (by simp);simp at this
 | x :: l,[],_,_,h=>by have:=(h x).1 (by simp);simp at this
 | x :: l,y :: m,hl,hm,h=>by
   obtain ⟨hx,hl'⟩:=List.pairwise_cons.1 hl
   obtain ⟨hy,hm'⟩:=List.pairwise_cons.1 hm
   have e:x=y:=by
    rcases List.mem_cons.1 ((h x).1 (by simp)) with e | hxm
    ·exact e
    rcases List.mem_cons.1 ((h y).2 (by simp)) with e | hyl
    ·exact e.symm
    have h1:=hy x hxm
    have h2:=hx y hyl
    rw[keyLt_asym h1]at h2
    cases h2
   subst e
   congr 1
   refine upB_eq hl' hm' fun z=>?_
   have nx:∀ {k:List α},(∀ w∈k,keyLt (key x) (key w)=true)→z∈k→z≠x:=fun hk hz e=>by
    subst e
    have:=hk z hz
    rw[keyLt_irr]at this
    cases this
   constructor
   ·intro hz
    rcases List.mem_cons.1 ((h z).1 (List.mem_cons_of_mem _ hz)) with e | hz2
    ·exact absurd e (nx hx hz)
    ·exact hz2
   ·intro hz
    rcases List.mem_cons.1 ((h z).2 (List.mem_cons_of_mem _ hz)) with e | hz2
    ·exact absurd e (nx hy hz)
    ·exact hz2
theorem mem_insB {x z:α}:∀ {l:List α},UpB key l→(z∈insB key x l↔z=x∨z∈l∧key z≠key x)
 | [],_=>by simp[insB]
 | y :: l,h=>by
   obtain ⟨hy,hl⟩:=List.pairwise_cons.1 h
   unfold insB
   by_cases h1:keyLt (key y) (key x)=true
   ·rw[if_pos h1,List.mem_cons,mem_insB hl,List.mem_cons]
    have hne:key y≠key x:=fun e=>by rw[e,keyLt_irr]at h1;cases h1
    constructor
    ·rintro (rfl | rfl | ⟨a,b⟩)
     ·exact .inr ⟨.inl rfl,hne⟩
     ·exact .inl rfl
     ·exact .inr ⟨.inr a,b⟩
    ·rintro (rfl | ⟨rfl | a,b⟩)
     ·exact .inr (.inl rfl)
     ·exact .inl rfl
     ·exact .inr (.inr ⟨a,b⟩)
   ·rw[if_neg h1]
    by_cases h2:key y=key x
    ·rw[if_pos h2,List.mem_cons,List.mem_cons]
     constructor
     ·rintro (rfl | a)
      ·exact .inl rfl
      ·refine .inr ⟨.inr a,fun e=>?_⟩
       have:=hy z a
       rw[h2,e,keyLt_irr]at this
       cases this
     ·rintro (rfl | ⟨rfl | a,b⟩)
      ·exact .inl rfl
      ·exact absurd h2 b
      ·exact .inr a
    ·rw[if_neg h2,List.mem_cons,List.mem_cons]
     have hlt:keyLt (key x) (key y)=true:=keyLt_total (by simpa using h1) h2
     constructor
     ·rintro (rfl | rfl | a)
      ·exact .inl rfl
      ·exact .inr ⟨.inl rfl,h2⟩
      ·refine .inr ⟨.inr a,fun e=>?_⟩
       have:=keyLt_trans hlt (hy z a)
       rw[e,keyLt_irr]at this
       cases this
     ·rintro (rfl | ⟨rfl | a,b⟩)
      ·exact .inl rfl
      ·exact .inr (.inl rfl)
      ·exact .inr (.inr a)
theorem insB_up {x:α}:∀ {l:List α},UpB key l→UpB key (insB key x l)
 | [],_=>by simp[insB,UpB]
 | y :: l,h=>by
   obtain ⟨hy,hl⟩:=List.pairwise_cons.1 h
   unfold insB
   by_cases h1:keyLt (key y) (key x)=true
   ·rw[if_pos h1]
    refine List.pairwise_cons.2 ⟨fun z hz=>?_,insB_up hl⟩
    rcases (mem_insB hl).1 hz with rfl | ⟨a,_⟩
    ·exact h1
    ·exact hy z a
   ·rw[if_neg h1]
    by_cases h2:key y=key x
    ·rw[if_pos h2]
     exact List.pairwise_cons.2 ⟨fun z hz=>by rw[← h2];exact hy z hz,hl⟩
    ·rw[if_neg h2]
     have hlt:keyLt (key x) (key y)=true:=keyLt_total (by simpa using h1) h2
     refine List.pairwise_cons.2 ⟨fun z hz=>?_,h⟩
     rcases List.mem_cons.1 hz with rfl | hz
     ·exact hlt
     ·exact keyLt_trans hlt (hy z hz)
theorem byK_snoc {l:List α} {x:α}:byK key (l++[x])=insB key x (byK key l):=by
 refine upB_eq (byK_up _) (insB_up (byK_up _)) fun z=>?_
 rw[mem_byK,mem_insB (byK_up _),mem_byK,lastB_snoc]
 by_cases h:key x=key z
 ·rw[if_pos h]
  constructor
  ·intro e
   cases e
   exact .inl rfl
  ·rintro (rfl | ⟨_,b⟩)
   ·rfl
   ·exact absurd h.symm b
 ·rw[if_neg h]
  constructor
  ·intro e
   exact .inr ⟨e,fun e=>h e.symm⟩
  ·rintro (rfl | ⟨a,_⟩)
   ·exact absurd rfl h
   ·exact a
theorem byK_take {l:List α} {i:Nat} (hi:i<l.length):byK key (l.take (i+1))=insB key l[i] (byK key (l.take i)):=by
 rw[List.take_succ_eq_append_getElem hi,byK_snoc]
theorem byK_id {l:List α} (h:UpB key l):byK key l=l:=by
 refine upB_eq (byK_up _) h fun z=>?_
 rw[mem_byK]
 constructor
 ·exact fun e=>(lastB_some e).1
 ·intro hz
  obtain ⟨y,hy⟩:=lastB_mem (key:=key) (List.mem_map.2 ⟨z,hz,rfl⟩)
  obtain ⟨h1,h2⟩:=lastB_some hy
  rw[hy]
  congr 1
  obtain ⟨i,hi,rfl⟩:=List.getElem_of_mem h1
  obtain ⟨j,hj,rfl⟩:=List.getElem_of_mem hz
  rcases Nat.lt_trichotomy i j with hij | rfl | hij
  ·have:=List.pairwise_iff_getElem.1 h i j hi hj hij
   rw[h2,keyLt_irr]at this
   cases this
  ·rfl
  ·have:=List.pairwise_iff_getElem.1 h j i hj hi hij
   rw[h2,keyLt_irr]at this
   cases this
theorem byK_len (l:List α):(byK key l).length≤l.length:=by
 have h1:=List.length_filterMap_le (lastB key l) (keysN (l.map key))
 have h2:=keysN_len (l.map key)
 rw[List.length_map]at h2
 exact Nat.le_trans h1 h2
theorem mem_of_byK {l:List α} {x:α} (h:x∈byK key l):x∈l:=(lastB_some (mem_byK.1 h)).1
theorem insB_cut {x:α} {r:List α} {j:Nat} (hj:j<r.length) (h:insB key x r=r.take j++insB key x (r.drop j)) (hl:keyLt (key r[j]) (key x)=true):insB key x r=r.take (j+1)++insB key x (r.drop (j+1)):=by
 rw[h,List.drop_eq_getElem_cons hj,insB,if_pos hl,List.take_succ_eq_append_getElem hj,List.append_assoc]
 rfl
theorem insB_end {x:α} {r:List α} {j:Nat} (hj:j<r.length) (h:insB key x r=r.take j++insB key x (r.drop j)) (hl:¬ keyLt (key r[j]) (key x)=true):insB key x r=r.take j++[x]++r.drop (if key r[j]=key x then j+1 else j):=by
 rw[h,List.drop_eq_getElem_cons hj,insB,if_neg hl]
 split
 ·rw[List.append_assoc];rfl
 ·rw[List.append_assoc,List.drop_eq_getElem_cons hj];rfl
theorem insB_full {x:α} {r:List α} (h:insB key x r=r.take r.length++insB key x (r.drop r.length)):insB key x r=r++[x]:=by
 rw[h,List.drop_length,List.take_length]
 rfl
end
end Go.Proofs.Ythjmkmoiopmfcaa

namespace Go.Proofs.Ythjmkmoiopmfcaa
open Go.D
set_option maxRecDepth 100000
structure Outc where
 e:Int
 vs:List Int
 ch:List Change
 s:Int
 deriving DecidableEq
structure RS where
 reg:List Int
 w:List Change
 out:List Int
def valE (m:List Pair) (w:List Change) (k:Key):Int × Bool:=
 match lastB Change.k w k with
 | some c=>(c.v,!c.e)
 | none=>match lastB Pair.k m k with
   | some p=>(p.v,true)
   | none=>(0,false)
def needsN (t:Txn) (l:List Pair):List Pair:=(byK Pair.k l).filter fun p=>decide (p.k∈t.reads)
def key0:Key:=⟨0,0⟩
def chg0:Change:=⟨key0,0,false⟩
abbrev RS.r (s:RS) (i:Int):Int:=s.reg.getD i.toNat 0
abbrev RS.set (s:RS) (i:Int) (v:Int):RS:={ s with reg:=s.reg.set i.toNat v }
abbrev RS.put (s:RS) (c:Change):RS:={ s with w:=s.w++[c] }
def farK (x:Instr) (s:RS):Key:=⟨IntKind.i32.wrap x.imm,s.r x.b⟩
def stepE (t:Txn) (m:List Pair) (x:Instr) (s:RS):Int × RS × Option Int:=
 if x.op=0 then (0,s,none)
 else if x.op=1 then (-1,s.set x.a x.imm,none)
 else if x.op=2 then (-1,s.set x.a (t.args.getD x.imm.toNat 0),none)
 else if x.op=7 then (-1,s.set x.a (s.r x.b),none)
 else if x.op=3 then (-1,s.set x.a (valE m s.w (t.reads.getD x.imm.toNat key0)).1,none)
 else if x.op=4 then (-1,s.set x.a (if (valE m s.w (t.reads.getD x.imm.toNat key0)).2 then 1 else 0),none)
 else if x.op=5 then (-1,s.put ⟨t.writes.getD x.imm.toNat key0,s.r x.a,false⟩,none)
 else if x.op=6 then (-1,s.put ⟨t.writes.getD x.imm.toNat key0,0,true⟩,none)
 else if x.op=19 then (-1,s.set x.a (narrow (s.r x.a) x.imm),none)
 else if x.op=22 then (-1,s,some x.imm)
 else if x.op=23 then (-1,s,if s.r x.a=0 then none else some x.imm)
 else if x.op=24 then (if 8≤s.out.length then (5,s,none) else (-1,{ s with out:=s.out++[s.r x.a] },none))
 else if x.op=25 then (100+x.imm,s,none)
 else if x.op=26 then (if farK x s∈t.reads then (-1,s.set x.a (valE m s.w (farK x s)).1,none) else (4,s,none))
 else if x.op=27 then (if farK x s∈t.writes then (-1,s.put ⟨farK x s,s.r x.a,false⟩,none) else (4,s,none))
 else if (bin2 x.op (s.r x.a) (s.r x.b)).2=0 then (-1,s.set x.a (bin2 x.op (s.r x.a) (s.r x.b)).1,none)
 else ((bin2 x.op (s.r x.a) (s.r x.b)).2,s,none)
def runF (t:Txn) (m:List Pair):Nat→Nat→Nat→RS→Outc
 | n,i,k,s=>
   if t.code.length≤i then ⟨0,s.out,byK Change.k s.w,k⟩ else
   match n with
   | 0=>⟨2,[],[],k⟩
   | n+1=>
     if (stepE t m (oneI t.code i) s).1=-1 then runF t m n (((stepE t m (oneI t.code i) s).2.2.getD (i+sizeI (t.code.getD i 0))).toNat) (k+1) (stepE t m (oneI t.code i) s).2.1
     else if (stepE t m (oneI t.code i) s).1=0 then ⟨0,(stepE t m (oneI t.code i) s).2.1.out,byK Change.k (stepE t m (oneI t.code i) s).2.1.w,(k+1:Nat)⟩
     else ⟨(stepE t m (oneI t.code i) s).1,[],[],(k+1:Nat)⟩
def rs0:RS:=⟨[0,0,0,0,0,0,0,0],[],[]⟩
def fuelN (f:Int):Nat:=(max 0 (min f 4096)).toNat
def runE (t:Txn) (l:List Pair) (f:Int):Outc:=if txnE t≠0 then ⟨1,[],[],0⟩ else runF t (needsN t l) (fuelN f) 0 0 rs0
theorem fuelN_le (f:Int):fuelN f≤4096:=by unfold fuelN;omega
theorem runF_end {t:Txn} {m:List Pair} {n i k:Nat} {s:RS} (h:t.code.length≤i):runF t m n i k s=⟨0,s.out,byK Change.k s.w,k⟩:=by
 unfold runF
 rw[if_pos h]
theorem runF_fuel {t:Txn} {m:List Pair} {i k:Nat} {s:RS} (h:i<t.code.length):runF t m 0 i k s=⟨2,[],[],k⟩:=by
 unfold runF
 rw[if_neg (by omega)]
theorem runF_go {t:Txn} {m:List Pair} {n i k:Nat} {s:RS} (h:i<t.code.length) (hs:(stepE t m (oneI t.code i) s).1=-1) :
 runF t m (n+1) i k s=runF t m n (((stepE t m (oneI t.code i) s).2.2.getD (i+sizeI (t.code.getD i 0))).toNat) (k+1) (stepE t m (oneI t.code i) s).2.1:=by
 conv=>lhs;unfold runF
 rw[if_neg (by omega)]
 simp only[hs,if_true]
theorem runF_halt {t:Txn} {m:List Pair} {n i k:Nat} {s:RS} (h:i<t.code.length) (hs:(stepE t m (oneI t.code i) s).1=0) :
 runF t m (n+1) i k s=⟨0,(stepE t m (oneI t.code i) s).2.1.out,byK Change.k (stepE t m (oneI t.code i) s).2.1.w,(k+1:Nat)⟩:=by
 unfold runF
 rw[if_neg (by omega)]
 simp only[hs,if_true]
 rw[if_neg (by decide)]
theorem runF_stop {t:Txn} {m:List Pair} {n i k:Nat} {s:RS} (h:i<t.code.length) (hs:(stepE t m (oneI t.code i) s).1 ≠ -1) (h0:(stepE t m (oneI t.code i) s).1≠0) :
 runF t m (n+1) i k s=⟨(stepE t m (oneI t.code i) s).1,[],[],(k+1:Nat)⟩:=by
 unfold runF
 rw[if_neg (by omega)]
 simp only[hs,h0,if_false]
theorem walkF_at {l:List Int}:∀ {n i:Nat},l.length - i≤n→(walkF l n i).2=0→i≤l.length→∀ j x,(walkF l n i).1[j]? = some x →
 ∃ p:Nat,x=oneI l p∧i≤p∧(oneT l p).2.2=0∧(j=0→p=i)∧((p:Int)+sizeI (l.getD p 0)).toNat=(match (walkF l n i).1[j+1]? with | some y=>y.pos.toNat | none=>l.length)
 | 0,i,_,_,_,j,x,hx=>by simp[walkF]at hx
 | n+1,i,hn,he,hi,j,x,hx=>by
   by_cases hil:l.length≤i
   ·simp only[walkF]at hx
    rw[if_pos hil]at hx
    simp at hx
   ·by_cases h1:(oneT l i).2.2=0
    ·obtain ⟨a,b,c,d,e,f⟩:=oneT_next h1
     have hw:walkF l (n+1) i=((oneT l i).1 :: (walkF l n (oneT l i).2.1.toNat).1,(walkF l n (oneT l i).2.1.toNat).2):=by
      simp only[walkF]
      rw[if_neg hil,if_pos h1]
     rw[hw]at he hx ⊢
     simp only at he hx ⊢
     have ih:=walkF_at (n:=n) (i:=(oneT l i).2.1.toNat) (by omega) he (by omega)
     cases j with
     | zero=>
       simp only[List.getElem?_cons_zero,Option.some.injEq]at hx
       subst hx
       refine ⟨i,a,Nat.le_refl _,h1,fun _=>rfl,?_⟩
       rw[List.getElem?_cons_succ]
       cases hy:(walkF l n (oneT l i).2.1.toNat).1[0]? with
       | some y=>
         obtain ⟨p,e1,_,_,e2,_⟩:=ih 0 y hy
         have:=e2 rfl
         subst this
         rw[e1]
         show _=(((oneT l i).2.1.toNat:Nat):Int).toNat
         rw[b]
         simp only[Int.toNat_natCast]
       | none=>
         have hnil:(walkF l n (oneT l i).2.1.toNat).1=[]:=by
          cases hl:(walkF l n (oneT l i).2.1.toNat).1 with
          | nil=>rfl
          | cons y ys=>rw[hl]at hy;simp at hy
         have hge:l.length≤(oneT l i).2.1.toNat:=by
          cases n with
          | zero=>omega
          | succ n=>
            simp only[walkF]at hnil he
            by_cases h3:l.length≤(oneT l i).2.1.toNat
            ·exact h3
            ·rw[if_neg h3]at hnil he
             split at hnil
             ·simp at hnil
             ·rename_i h4
              rw[if_neg h4]at he
              exact absurd he h4
         show _=l.length
         omega
     | succ j=>
       rw[List.getElem?_cons_succ]at hx
       obtain ⟨p,e1,e2,e3,_,e5⟩:=ih j x hx
       refine ⟨p,e1,by omega,e3,fun h=>by omega,?_⟩
       rw[e5,List.getElem?_cons_succ]
    ·simp only[walkF]at he
     rw[if_neg hil,if_neg h1]at he
     exact absurd he h1
theorem walkF_up {l:List Int}:∀ {n i:Nat},(walkF l n i).1.Pairwise (fun x y=>x.pos<y.pos)∧∀ x∈(walkF l n i).1,(i:Int)≤x.pos
 | 0,i=>by simp[walkF]
 | n+1,i=>by
   simp only[walkF]
   split
   ·simp
   ·split
    ·rename_i h1
     obtain ⟨a,b,c,d,e,f⟩:=oneT_next h1
     obtain ⟨u1,u2⟩:=walkF_up (l:=l) (n:=n) (i:=(oneT l i).2.1.toNat)
     have hp:(oneT l i).1.pos=i:=by rw[a];rfl
     refine ⟨List.pairwise_cons.2 ⟨fun y hy=>?_,u1⟩,fun x hx=>?_⟩
     ·have:=u2 y hy
      show (oneT l i).1.pos<y.pos
      omega
     ·rcases List.mem_cons.1 hx with rfl | hx
      ·omega
      ·have:=u2 x hx
       omega
    ·simp
def posN (t:Txn) (i:Nat):Nat:=match (decL t.code)[i]? with | some x=>x.pos.toNat | none=>t.code.length
theorem decL_of {t:Txn} (h:decE t.code=0):decL t.code=(walkAt t.code 0).1∧(walkAt t.code 0).2=0∧targetsOk (walkAt t.code 0).1=true∧t.code.length≤512:=by
 refine ⟨by rw[decL,if_pos h],?_⟩
 unfold decE at h
 split at h
 ·exact absurd h (by decide)
 ·rename_i h1
  split at h
  ·rename_i h2
   exact absurd h h2
  ·rename_i h2
   split at h
   ·rename_i h3
    exact ⟨by simpa using h2,h3,by omega⟩
   ·exact absurd h (by decide)
theorem code_at {t:Txn} (h:decE t.code=0) {i:Nat} {x:Instr} (hx:(decL t.code)[i]? = some x):posN t i<t.code.length∧x=oneI t.code (posN t i)∧x.pos=posN t i∧(oneT t.code (posN t i)).2.2=0∧((posN t i:Nat)+sizeI (t.code.getD (posN t i) 0):Int).toNat=posN t (i+1):=by
 obtain ⟨e,e2,_,_⟩:=decL_of h
 have hx':=hx
 rw[e]at hx'
 obtain ⟨p,a,b,c,d,f⟩:=walkF_at (by omega) e2 (Nat.zero_le _) i x hx'
 have hp:posN t i=p:=by
  unfold posN
  rw[hx]
  show x.pos.toNat=p
  rw[a]
  show ((p:Int)).toNat=p
  simp
 obtain ⟨_,_,hlt,_⟩:=oneT_next c
 rw[hp]
 refine ⟨hlt,a,by rw[a];rfl,c,?_⟩
 rw[f]
 unfold posN
 rw[e]
 rfl
theorem code_zero {t:Txn} (h:decE t.code=0):posN t 0=0:=by
 obtain ⟨e,e2,_,_⟩:=decL_of h
 cases hx:(decL t.code)[0]? with
 | some x=>
   have hx':=hx
   rw[e]at hx'
   obtain ⟨p,a,b,c,d,f⟩:=walkF_at (by omega) e2 (Nat.zero_le _) 0 x hx'
   unfold posN
   rw[hx]
   show x.pos.toNat=0
   rw[a,d rfl]
   rfl
 | none=>
   have hnil:(walkAt t.code 0).1=[]:=by
    rw[← e]
    cases hl:decL t.code with
    | nil=>rfl
    | cons y ys=>rw[hl]at hx;simp at hx
   have hl0:t.code.length≤0:=by
    by_cases h0:0<t.code.length
    ·rw[walkAt_step h0]at hnil e2
     split at hnil
     ·simp at hnil
     ·rename_i h4
      rw[if_neg h4]at e2
      exact absurd e2 h4
    ·omega
   unfold posN
   rw[hx]
   show t.code.length=0
   omega
theorem code_up {t:Txn}:(decL t.code).Pairwise (fun x y=>x.pos<y.pos):=by
 unfold decL
 split
 ·exact walkF_up.1
 ·exact .nil
theorem code_end {t:Txn} {i:Nat} (h:(decL t.code).length≤i):posN t i=t.code.length:=by
 unfold posN
 rw[List.getElem?_eq_none h]
theorem code_jump {t:Txn} (h:decE t.code=0) {x:Instr} (hx:x∈decL t.code) (hj:jumpsB x.op=true):∃ i y,(decL t.code)[i]? = some y∧y.pos=x.imm∧x.imm.toNat=posN t i:=by
 obtain ⟨e,_,e3,_⟩:=decL_of h
 rw[e]at hx
 unfold targetsOk at e3
 have:=List.all_eq_true.1 e3 x hx
 rw[hj]at this
 simp only[Bool.not_true,Bool.false_or,decide_eq_true_eq]at this
 obtain ⟨y,hy,hp⟩:=List.mem_map.1 this
 obtain ⟨i,hi⟩:=List.mem_iff_getElem?.1 hy
 rw[← e]at hi
 refine ⟨i,y,hi,hp,?_⟩
 unfold posN
 rw[hi,← hp]
theorem txn_ok {t:Txn} (h:txnE t=0):decE t.code=0∧(∀ x∈decL t.code,badI t x=false)∧t.args.length≤8∧t.reads.length≤16∧t.writes.length≤16:=by
 unfold txnE at h
 split at h
 ·exact absurd h (by decide)
 split at h
 ·exact absurd h (by decide)
 rename_i h2
 split at h
 ·exact absurd h (by decide)
 split at h
 ·rename_i h4
  exact absurd h h4
 rename_i h4
 split at h
 ·exact absurd h (by decide)
 rename_i h5
 refine ⟨by simpa using h4,fun x hx=>?_,by omega,by omega,by omega⟩
 simp only[Bool.not_eq_true,List.any_eq_false]at h5
 simpa using h5 x hx
structure InsOk (t:Txn) (x:Instr):Prop where
 a:0≤x.a∧x.a<8
 b:0≤x.b∧x.b<8
 imm : -32768≤x.imm∧x.imm≤65535
 imm0:x.op≠1→0≤x.imm
 rd:x.op=3∨x.op=4→x.imm<t.reads.length
 wr:x.op=5∨x.op=6→x.imm<t.writes.length
 ar:x.op=2→x.imm<t.args.length
 op:0≤x.op∧x.op<28
theorem ins_ok {t:Txn} (h:txnE t=0) (hb:∀ j,0≤t.code.getD j 0∧t.code.getD j 0≤255) {i:Nat} {x:Instr} (hx:(decL t.code)[i]? = some x):InsOk t x:=by
 obtain ⟨h1,h2,_,_,_⟩:=txn_ok h
 obtain ⟨_,e1,_,e3,_⟩:=code_at h1 hx
 have hbad:=h2 x (List.mem_of_getElem? hx)
 obtain ⟨_,_,_,d,_,f⟩:=oneT_next e3
 obtain ⟨p,hp⟩:∃ p,posN t i=p:=⟨_,rfl⟩
 rw[hp]at e1 e3 d f
 rw[← e1]at f
 have hop:x.op=t.code.getD p 0:=by rw[e1];rfl
 have hs:=size_split (n:=x.op) (by rw[hop];omega)
 have b3:=hb (p+1+(if firstB (t.code.getD p 0) then 1 else 0)+if twoB (t.code.getD p 0) then 1 else 0)
 have b4:=hb (p+1+(if firstB (t.code.getD p 0) then 1 else 0)+(if twoB (t.code.getD p 0) then 1 else 0)+1)
 have himm:x.imm=immW (t.code.getD p 0) (wideI (t.code.getD p 0)) (t.code.getD (p+1+(if firstB (t.code.getD p 0) then 1 else 0)+if twoB (t.code.getD p 0) then 1 else 0) 0) (t.code.getD (p+1+(if firstB (t.code.getD p 0) then 1 else 0)+(if twoB (t.code.getD p 0) then 1 else 0)+1) 0):=by rw[e1];rfl
 generalize t.code.getD (p+1+(if firstB (t.code.getD p 0) then 1 else 0)+if twoB (t.code.getD p 0) then 1 else 0) 0=y3 at b3 himm
 generalize t.code.getD (p+1+(if firstB (t.code.getD p 0) then 1 else 0)+(if twoB (t.code.getD p 0) then 1 else 0)+1) 0=y4 at b4 himm
 have hii:(-32768≤x.imm∧x.imm≤65535)∧(x.op≠1→0≤x.imm):=by
  rw[himm,hop]
  unfold immW
  constructor
  ·repeat' split
   all_goals omega
  ·intro hne
   repeat' split
   all_goals omega
 have ha0:firstB x.op=false→x.a=0:=fun hf=>by
  rw[e1]at hf ⊢
  show (if firstB (t.code.getD p 0)=true then _ else 0)=0
  rw[if_neg (by rw[show firstB (t.code.getD p 0)=false from hf];decide)]
 have hb0:twoB x.op=false→x.b=0:=fun hf=>by
  rw[e1]at hf ⊢
  show (if twoB (t.code.getD p 0)=true then _ else 0)=0
  rw[if_neg (by rw[show twoB (t.code.getD p 0)=false from hf];decide)]
 have hidx:(firstB x.op=true→0≤x.a∧x.a<8)∧(twoB x.op=true→0≤x.b∧x.b<8):=by
  unfold indexE at f
  split at f
  ·exact absurd f (by decide)
  ·rename_i hn
   simp only[Bool.or_eq_true,Bool.and_eq_true,decide_eq_true_eq,not_or,not_and]at hn
   refine ⟨fun h=>?_,fun h=>?_⟩
   ·have:=hn.1 h
    omega
   ·have:=hn.2 h
    omega
 unfold badI at hbad
 refine ⟨?_,?_,hii.1,hii.2,fun h=>?_,fun h=>?_,fun h=>?_,hs.2.2⟩
 ·cases hf:firstB x.op with
  | true=>exact hidx.1 hf
  | false=>rw[ha0 hf];decide
 ·cases hf:twoB x.op with
  | true=>exact hidx.2 hf
  | false=>rw[hb0 hf];decide
 ·rw[if_pos h]at hbad
  simpa using hbad
 ·rw[if_neg (by omega),if_pos h]at hbad
  simpa using hbad
 ·rw[if_neg (by omega),if_neg (by omega),if_pos h]at hbad
  simpa using hbad
end Go.Proofs.Ythjmkmoiopmfcaa

namespace Go.Proofs.Ythjmkmoiopmfcaa
open Go.D
set_option maxRecDepth 100000
theorem runF_steps {t:Txn} {m:List Pair}:∀ {n i k:Nat} {s:RS},(k:Int)≤(runF t m n i k s).s∧(runF t m n i k s).s≤k+n
 | n,i,k,s=>by
   by_cases h:t.code.length≤i
   ·rw[runF_end h]
    show (k:Int)≤k∧(k:Int)≤k+n
    omega
   ·cases n with
    | zero=>rw[runF_fuel (by omega)];show (k:Int)≤k∧(k:Int)≤k+(0:Nat);omega
    | succ n=>
      by_cases h1:(stepE t m (oneI t.code i) s).1=-1
      ·rw[runF_go (by omega) h1]
       have:=runF_steps (t:=t) (m:=m) (n:=n) (i:=((stepE t m (oneI t.code i) s).2.2.getD (i+sizeI (t.code.getD i 0))).toNat) (k:=k+1) (s:=(stepE t m (oneI t.code i) s).2.1)
       omega
      ·by_cases h0:(stepE t m (oneI t.code i) s).1=0
       ·rw[runF_halt (by omega) h0]
        show (k:Int)≤((k+1:Nat):Int)∧((k+1:Nat):Int)≤k+((n+1:Nat):Int)
        omega
       ·rw[runF_stop (by omega) h1 h0]
        show (k:Int)≤((k+1:Nat):Int)∧((k+1:Nat):Int)≤k+((n+1:Nat):Int)
        omega
theorem needsN_up {t:Txn} {l:List Pair}:UpB Pair.k (needsN t l):=(byK_up l).filter _
theorem lastB_up {l:List Pair} (h:UpB Pair.k l) {p:Pair}:lastB Pair.k l p.k=some p↔p∈l:=by
 rw[← mem_byK,byK_id h]
theorem ite_all {α:Type} {P:α→Prop} {c:Prop} [Decidable c] {a b:α} (h1:c→P a) (h2:¬ c→P b):P (if c then a else b):=by
 by_cases h:c
 ·rw[if_pos h];exact h1 h
 ·rw[if_neg h];exact h2 h
theorem stepE_j {t:Txn} {m:List Pair} {x:Instr} {s:RS} {a:Int}:(stepE t m x s).2.2=some a→a=x.imm∧jumpsB x.op=true:=by
 unfold stepE
 repeat' (refine ite_all (P:=fun r:Int × RS × Option Int=>r.2.2=some a→a=x.imm∧jumpsB x.op=true) (fun _=>?_) (fun _=>?_))
 all_goals try simp only
 all_goals intro h
 all_goals first
  | (cases h;done)
  | (cases h;exact ⟨rfl,by simp[jumpsB, *]⟩)
  | (split at h
     ·cases h
     ·cases h;exact ⟨rfl,by simp[jumpsB, *]⟩)
theorem stepE_small {t:Txn} {m:List Pair} {x:Instr} {s:RS}:(stepE t m x s).2.1.w.length≤s.w.length+1∧(stepE t m x s).2.1.out.length≤s.out.length+1:=by
 unfold stepE
 repeat' (refine ite_all (P:=fun r:Int × RS × Option Int=>r.2.1.w.length≤s.w.length+1∧r.2.1.out.length≤s.out.length+1) (fun _=>?_) (fun _=>?_))
 all_goals simp
theorem runF_len {t:Txn} {m:List Pair}:∀ {n i k:Nat} {s:RS},(runF t m n i k s).vs.length≤s.out.length+n∧(runF t m n i k s).ch.length≤s.w.length+n
 | n,i,k,s=>by
   by_cases h:t.code.length≤i
   ·rw[runF_end h]
    have:=byK_len (key:=Change.k) s.w
    exact ⟨Nat.le_add_right _ _,Nat.le_trans this (Nat.le_add_right _ _)⟩
   ·cases n with
    | zero=>rw[runF_fuel (by omega)];exact ⟨Nat.zero_le _,Nat.zero_le _⟩
    | succ n=>
      have hs:=stepE_small (t:=t) (m:=m) (x:=oneI t.code i) (s:=s)
      by_cases h1:(stepE t m (oneI t.code i) s).1=-1
      ·rw[runF_go (by omega) h1]
       have:=runF_len (t:=t) (m:=m) (n:=n) (i:=((stepE t m (oneI t.code i) s).2.2.getD (i+sizeI (t.code.getD i 0))).toNat) (k:=k+1) (s:=(stepE t m (oneI t.code i) s).2.1)
       omega
      ·by_cases h0:(stepE t m (oneI t.code i) s).1=0
       ·rw[runF_halt (by omega) h0]
        have:=byK_len (key:=Change.k) (stepE t m (oneI t.code i) s).2.1.w
        show (stepE t m (oneI t.code i) s).2.1.out.length≤_∧(byK Change.k (stepE t m (oneI t.code i) s).2.1.w).length≤_
        omega
       ·rw[runF_stop (by omega) h1 h0]
        exact ⟨Nat.zero_le _,Nat.zero_le _⟩
theorem runF_small {t:Txn} {l:List Pair} {f:Int}:(runE t l f).vs.length≤4096∧(runE t l f).ch.length≤4096:=by
 unfold runE
 split
 ·exact ⟨Nat.zero_le _,Nat.zero_le _⟩
 ·have h1:=runF_len (t:=t) (m:=needsN t l) (n:=fuelN f) (i:=0) (k:=0) (s:=rs0)
  have h2:=fuelN_le f
  have h3:rs0.out.length=0:=rfl
  have h4:rs0.w.length=0:=rfl
  omega
end Go.Proofs.Ythjmkmoiopmfcaa

namespace Go.Proofs.Ythjmkmoiopmfcaa
open Go.D
set_option maxRecDepth 100000
theorem par_int:Par Try.prog 3 false:=⟨_,Try.underlying3,rfl⟩
theorem par_pairs:Par Try.prog 27 false:=⟨_,Try.underlying27,rfl⟩
end Go.Proofs.Ythjmkmoiopmfcaa

namespace Go.D
open Go.Sort Go.Proofs
variable {P:Program} {α:Type}
def h00:DHeap:=⟨fun _=>none,0,0⟩
theorem sim00 (w:World):Sim (fun _=>none) h00 w where
 lt:=fun _ _ h=>(by cases h)
 blk:=fun _ _ h=>(by cases h)
 obj:=fun _ _ h=>(by cases h)
 sep:=fun _ _ _ _ h=>(by cases h)
 glob:=fun g hg=>absurd hg (Nat.not_lt_zero g)
theorem grown_of {ι':Inj} {h':DHeap} {w w':World} (st:Step (fun _=>none) ι' h00 h' w w'):∃ q os',w'=grow (w.drewN q) os':=by
 refine ⟨w'.drawn - w.drawn,w'.heap.extract w.heap.size w'.heap.size,?_⟩
 have hh:w'.heap=w.heap++w'.heap.extract w.heap.size w'.heap.size:=by
  refine Array.ext_getElem? fun b=>?_
  rw[Array.getElem?_append]
  by_cases hb:b<w.heap.size
  ·rw[if_pos hb]
   exact st.frame b hb fun id e he=>by cases he
  ·rw[if_neg hb,Array.getElem?_extract]
   have:=st.size
   by_cases hb2:b<w'.heap.size
   ·rw[if_pos (by omega)]
    congr 1;omega
   ·rw[Array.getElem?_eq_none (by omega),if_neg (by omega)]
 have h1:=st.os
 have h2:=st.tape
 have h3:=st.output
 have h4:=st.drawn
 obtain ⟨hp,tp,dr,o,out⟩:=w'
 simp only at hh h1 h2 h3 h4 ⊢
 subst h1 h2 h3
 rw[World.mk.injEq]
 refine ⟨hh,rfl,?_,rfl,rfl⟩
 show dr=w.drawn+(dr - w.drawn)
 omega
theorem VRel.aggFlat {ι:Inj} {l:List Value} (h:l.all flat1=true):VRel ι (.agg l.toArray) (.agg l.toArray):=
 .agg rfl fun i v v' a b=>by
  rw[a]at b;cases b
  exact flat1_rel ι (list_all_get h (by simpa using a))
theorem cmpLays_of {g:Nat} {enc:α→List Value} {k:Nat} {cf:α→α→Int} [Inhabited α] (hflat:∀ x,(enc x).all flat1=true) (hdc:∀ x y,DC P g [.agg (enc x).toArray,.agg (enc y).toArray] h00 (.ret (.int .i64 (cf x y))) h00) (blk off size:Nat) (w:World) :
 CmpLays P g #[] enc k cf blk off size w:=by
 intro m os dk _ x y
 have:=(hdc x y).2 0 (fun _=>none) (sortWorldK enc k w blk off m dk os) (#[.agg (enc x).toArray,.agg (enc y).toArray]++#[]) (sim00 _) (by
  simp only[Array.append_empty]
  exact ((LRel.nil _).cons (.aggFlat (hflat y))).cons (.aggFlat (hflat x)))
 refine Calls.mono (callsIn_wide.1 this) ?_
 rintro e w' ⟨ι',he,_,st⟩
 cases e with
 | returned v=>cases he;exact ⟨rfl,grown_of st⟩
 | _=>exact he.elim
theorem flatMap_get {F:FRep α} [Inhabited α]:∀ (l:List α) (i r:Nat),i<l.length→r<F.z→(l.flatMap F.enc)[i*F.z+r]? = (F.enc (l.toArray[i]!))[r]?
 | [],i,r,hi,_=>by simp at hi
 | x :: l,0,r,_,hr=>by
   rw[List.flatMap_cons,Nat.zero_mul,Nat.zero_add,List.getElem?_append_left (by rw[F.len];exact hr)]
   rfl
 | x :: l,i+1,r,hi,hr=>by
   rw[List.flatMap_cons,Nat.succ_mul,List.getElem?_append_right (by rw[F.len];omega),F.len,show i*F.z+F.z+r - F.z=i*F.z+r by omega]
   have:=flatMap_get l i r (by simpa using hi) hr
   rw[this]
   simp
theorem flatK_list {F:FRep α} [Inhabited α] (l:List α):flatK F.enc F.z l.toArray=(l.flatMap F.enc).toArray:=by
 have hs:(flatK F.enc F.z l.toArray).size=(l.flatMap F.enc).toArray.size:=by rw[size_flatK,List.size_toArray,List.size_toArray,flatMap_len]
 refine ext_get! hs fun t ht=>?_
 rw[size_flatK,List.size_toArray]at ht
 rw[get_flatK _ _ _ _ (by simpa using ht)]
 have hz:0<F.z:=by
  rcases Nat.eq_zero_or_pos F.z with h | h
  ·rw[h]at ht;simp at ht
  ·exact h
 have h1:t / F.z<l.length:=(Nat.div_lt_iff_lt_mul hz).2 ht
 have h2:t % F.z<F.z:=Nat.mod_lt _ hz
 have:=flatMap_get (F:=F) l (t / F.z) (t % F.z) h1 h2
 rw[Nat.div_add_mod' t F.z]at this
 have h3:t<(l.flatMap F.enc).length:=by rw[flatMap_len];exact ht
 obtain ⟨x,hx⟩:∃ x,l.toArray[t / F.z]! = x:=⟨_,rfl⟩
 rw[hx]at this ⊢
 have h4:t % F.z<(F.enc x).length:=by rw[F.len];exact h2
 rw[List.getElem?_eq_getElem h3,List.getElem?_eq_getElem h4]at this
 rw[getElem!_pos (F.enc x) (t % F.z) h4,getElem!_pos (l.flatMap F.enc).toArray t (by simpa using h3)]
 simpa using (Option.some.inj this).symm
theorem holds_of {F:FRep α} [Inhabited α] {ι:Inj} {h:DHeap} {w:World} {id o:Nat} {e:Ent} {cells:List Value} {esz:Nat} {l:List α} (s:Sim ι h w) (he:ι id=some e) (hg:h.get id=some (.row cells esz false)) (hl:o+l.length*F.z≤cells.length)
 (hc:(cells.drop o).take (l.length*F.z)=l.flatMap F.enc):HoldsK F.enc F.z w e.block (e.shift+o) l.toArray:=by
 obtain ⟨_,_,cur,ty,fz,h3,h4,h5⟩:=s.row he hg
 obtain ⟨hsz,hlen,hfz⟩:=h5 rfl
 unfold HoldsK
 rw[flatK_list]
 intro j hj
 have hj2:j<l.length*F.z:=by rw[← flatMap_len];simpa using hj
 have h6:cells[o+j]? = (l.flatMap F.enc)[j]?:=by
  rw[← hc,List.getElem?_take,if_pos hj2,List.getElem?_drop]
 have h7:j<(l.flatMap F.enc).length:=by simpa using hj
 rw[List.getElem?_eq_getElem h7]at h6
 obtain ⟨v',h8,h9⟩:=h4 _ _ h6
 have hfl:=List.all_eq_true.1 (flatMap_flat F l) _ (List.getElem_mem h7)
 have h10:v'=(l.flatMap F.enc)[j]:=by
  unfold flat1 at hfl
  generalize (l.flatMap F.enc)[j]=x at hfl h9
  cases h9 <;> first | rfl | cases hfl
 constructor
 ·simp only[World.cell?,h3]
  rw[getElem!_pos (l.flatMap F.enc).toArray j (by simpa using h7)]
  simp only[id_eq,List.getElem_toArray]
  rw[show e.shift+o+j=e.shift+(o+j) by omega,h8,h10]
  rfl
 ·simp only[World.frozen?,h3]
  rw[Bool.and_eq_false_iff]
  simp only[decide_eq_false_iff_not]
  have:=hfz (e.shift+o+j) (by omega)
  omega
theorem Sim.rewrite {ι:Inj} {h:DHeap} {w w':World} {id:Nat} {e:Ent} {cells cells':List Value} {esz:Nat} {cur cur':Array Value} {ty:TypeId} {fz:Nat × Nat} (s:Sim ι h w) (he:ι id=some e) (hg:h.get id=some (.row cells esz false)) (hcur:w.heap[e.block]? = some (.cells cur ty fz)) (hcur':w'.heap[e.block]? = some (.cells cur' ty fz)) (hsz:cur'.size=cur.size)
 (hrel:∀ (i:Nat) v,cells'[i]? = some v→∃ v',cur'[e.shift+i]? = some v'∧VRel ι v v') (hlen:cells'.length=cells.length) (hoth:∀ b,b<w.heap.size→b≠e.block→w'.heap[b]? = w.heap[b]?) (hsize:w.heap.size≤w'.heap.size) (h1:w'.os=w.os) (h2:w'.tape=w.tape) (h3:w'.output=w.output) (h4:w.drawn≤w'.drawn) :
 Sim ι (h.set id (.row cells' esz false)) w'∧Step ι ι h (h.set id (.row cells' esz false)) w w':=by
 obtain ⟨hro,hez,cur0,ty0,fz0,k3,k4,k5⟩:=s.row he hg
 rw[hcur]at k3
 cases k3
 obtain ⟨l1,l2,l3⟩:=k5 rfl
 refine ⟨⟨s.lt,fun i x hx=>Nat.lt_of_lt_of_le (s.blk i x hx) hsize,?_,?_,s.glob⟩,⟨Inj.le_refl _,fun i x a b=>(by rw[a]at b;cases b),Nat.le_refl _,rfl,h1,h2,h3,hsize,?_,h4⟩⟩
 ·intro id' e' h'
  simp only[DHeap.set]
  by_cases hid:id'=id
  ·subst hid
   rw[he]at h'
   cases h'
   exact ⟨.row cells' esz false,by rw[if_pos rfl],hro,hez,cur',ty,fz,hcur',hrel,fun _=>⟨by rw[hsz];exact l1,by rw[hlen];exact l2,l3⟩⟩
  ·rw[if_neg hid]
   obtain ⟨o,a,b⟩:=s.obj _ _ h'
   by_cases hbl:e'.block=e.block
   ·rcases s.sep id' id e' e h' he hid hbl with hd | hd | hd
    ·rw[a]at hd;cases hd;exact ⟨_,a,b⟩
    ·rw[hg]at hd;cases hd
    ·rw[hro]at hd;cases hd.2
   ·exact ⟨o,a,b.mono (Inj.le_refl _) (hoth _ (s.blk _ _ h') hbl)⟩
 ·intro id1 id2 e1 e2 a b c d
  simp only[DHeap.set]
  rcases s.sep id1 id2 e1 e2 a b c d with hd | hd | hd
  ·left
   rw[if_neg (fun hx=>by subst hx;rw[hg]at hd;cases hd)]
   exact hd
  ·right;left
   rw[if_neg (fun hx=>by subst hx;rw[hg]at hd;cases hd)]
   exact hd
  ·exact .inr (.inr hd)
 ·intro b hb hx
  refine hoth b hb fun hbe=>?_
  have hy:=hx id e he hbe.symm
  rw[hro]at hy;cases hy
theorem world_sorted {F:FRep α} [Inhabited α] {ι:Inj} {h:DHeap} {w:World} {id o:Nat} {e:Ent} {cells:List Value} {esz:Nat} (l':List α) (m:Nat) (os:Array Obj) (s:Sim ι h w) (he:ι id=some e) (hg:h.get id=some (.row cells esz false)) (hl:o+l'.length*F.z≤cells.length) :
 Sim ι (h.set id (.row (setAt cells o (l'.flatMap F.enc)) esz false)) (sortWorldK F.enc F.z w e.block (e.shift+o) m l'.toArray os)∧Step ι ι h (h.set id (.row (setAt cells o (l'.flatMap F.enc)) esz false)) w (sortWorldK F.enc F.z w e.block (e.shift+o) m l'.toArray os):=by
 obtain ⟨_,_,cur,ty,fz,h3,h4,h5⟩:=s.row he hg
 obtain ⟨hsz,hlen,hfz⟩:=h5 rfl
 have hb:=s.blk _ _ he
 have hlk:∀ b,b<w.heap.size→(sortWorldK F.enc F.z w e.block (e.shift+o) m l'.toArray os).heap[b]? = (w.heap.modify e.block (onCells (putCells _root_.id (e.shift+o) (l'.flatMap F.enc).toArray)))[b]?:=fun b hb=>by
  show ((w.heap.modify e.block (onCells (putCells _root_.id (e.shift+o) (flatK F.enc F.z l'.toArray))))++os)[b]? = _
  rw[Array.getElem?_append_left (by simpa using hb),flatK_list]
 refine s.rewrite (cur:=cur) (cur':=putCells _root_.id (e.shift+o) (l'.flatMap F.enc).toArray cur) (ty:=ty) (fz:=fz) he hg h3 ?_ (by simp[putCells]) (fun i v hv=>?_) (setAt_length _ _ _) (fun b hb hne=>?_) ?_ rfl rfl rfl (Nat.le_add_right _ _)
 ·rw[hlk _ hb,Array.getElem?_modify,if_pos rfl,h3]
  rfl
 ·rw[setAt_get,flatMap_len]at hv
  simp only[putCells,Array.getElem?_mapIdx]
  by_cases hi:o≤i∧i<o+l'.length*F.z∧i<cells.length
  ·rw[if_pos hi]at hv
   obtain ⟨u,hu,_⟩:=h4 i cells[i] (List.getElem?_eq_getElem hi.2.2)
   rw[hu]
   have h7:i - o<(l'.flatMap F.enc).length:=by rw[flatMap_len];omega
   have hv2:=hv
   rw[List.getElem?_eq_getElem h7]at hv2
   refine ⟨v,?_,flat1_rel ι (list_all_get (flatMap_flat F l') hv)⟩
   simp only[Option.map_some,id_eq]
   rw[if_pos ⟨by omega,by simp only[List.size_toArray,flatMap_len];omega⟩,show e.shift+i - (e.shift+o)=i - o by omega,getElem!_pos (l'.flatMap F.enc).toArray (i - o) (by simpa using h7)]
   simpa using hv2
  ·rw[if_neg hi]at hv
   obtain ⟨u,hu,hr⟩:=h4 i v hv
   have:=(List.getElem?_eq_some_iff.1 hv).1
   rw[hu]
   refine ⟨u,?_,hr⟩
   simp only[Option.map_some]
   rw[if_neg]
   simp only[List.size_toArray,flatMap_len]
   omega
 ·rw[hlk b hb,Array.getElem?_modify,if_neg (fun hh=>hne hh.symm)]
 ·show _≤((w.heap.modify e.block (onCells (putCells _root_.id (e.shift+o) (flatK F.enc F.z l'.toArray))))++os).size
  simp
theorem sort_ct {F:FRep α} [Inhabited α] {ρ:Go.Shelf.Ren} {k:Nat} (hk:F.z=k) (L:SlLaysF0.n6 P ρ) (aE:∀ w,(isAgg (ρ.t 24)).run P w=.ok true w) (zE:∀ w,(Go.sizeOf (ρ.t 24)).run P w=.ok k w) {cf:α→α→Int} (hO:SWO (ltOf cf)) {g:Nat} (eg:∀ args w,(callFunc g args).run P w=.ok (.enter g args) w)
 (hdc:∀ x y,DC P g [.agg (F.enc x).toArray,.agg (F.enc y).toArray] h00 (.ret (.int .i64 (cf x y))) h00) {h:DHeap} {id o c:Nat} {cells:List Value} {l:List α} {esz:Nat} (hg:h.get id=some (.row cells esz false)) (h0:0<l.length) (hl:o+l.length*F.z≤cells.length) (hc:(cells.drop o).take (l.length*F.z)=l.flatMap F.enc) (hsz:l.length<4611686018427387904) :
 Ct P (ρ.f 6) [.slice (some ⟨id,o,none⟩) l.length c,.func (.func g) #[] #[]] h fun r h1=>r=.ret (.tuple #[])∧∃ l':List α,l'.Perm l∧SortedIn (ltOf cf) 0 l.length l'.toArray∧h1=h.set id (.row (setAt cells o (l'.flatMap F.enc)) esz false):=by
 subst hk
 intro n ι w args' s ha
 obtain ⟨a0,e0,r0⟩:=ha.get (i:=0) rfl
 obtain ⟨a1,e1,r1⟩:=ha.get (i:=1) rfl
 have hsz2:args'.toList.length=2:=ha.1.symm
 have hargs:args'=#[a0,a1]:=by
  obtain ⟨L⟩:=args'
  match L,hsz2 with
  | [x,y],_=>simp at e0 e1;rw[e0,e1]
 cases r0 with
 | @slice _ _ _ _ cap' e a' he hl' hx ha' hb=>
 cases r1 with
 | func hf q1 q2 q3 q4=>
 rename_i first' cap2
 obtain rfl:first'=#[]:=by simpa using q1.symm
 obtain rfl:cap2=#[]:=by simpa using q3.symm
 obtain rfl:=ha' (by omega)
 have hm:=holds_of s he hg hl hc
 have hcalls:=AnyQ.slices_SortFunc L F.z aE zE F.enc F.len (fun x v hv=>flat1_one (List.all_eq_true.1 (F.flat x) v hv)) cf hO g #[] e.block (e.shift+o) cap' l.toArray w eg (cmpLays_of F.flat hdc _ _ _ _) hm (s.blk _ _ he) (by simpa using hsz)
 rw[hargs]
 refine callsIn_wide.2 (Calls.mono hcalls ?_)
 rintro en w' ⟨rfl,d',m,os,hp,hs,rfl⟩
 obtain ⟨p1,_,p3⟩:=hp
 have hd:d'=d'.toList.toArray:=by simp
 have hlen:d'.toList.length=l.length:=by simpa using p1
 have hperm:d'.toList.Perm l:=by
  have e1:(d'.extract 0 l.toArray.size).toList=d'.toList:=by rw[← p1];simp
  have e2:(l.toArray.extract 0 l.toArray.size).toList=l:=by simp
  rw[e1,e2]at p3
  exact p3
 obtain ⟨q5,q6⟩:=world_sorted (F:=F) d'.toList m os s he hg (by rw[hlen];exact hl)
 rw[hd]
 refine ⟨ι,.ret (.tuple #[]),_,⟨rfl,d'.toList,hperm,?_,rfl⟩,⟨q6.next,q6.ng⟩,.tuple rfl (fun i v v' h1=>by simp at h1),q5,q6⟩
 simpa using hs
end Go.D

namespace Go.Proofs.Ythjmkmoiopmfcaa
open Go.D
open Go.Sort
set_option maxRecDepth 100000
theorem compact_0 {h:DHeap} {v:Value} (hb:Arg fKey.rep h v []):Ct Try.prog 79 [v] h fun r h1=>r=.ret v∧h1=h:=by
 refine go_79 (by simp) ?_
 have el:∀ K,dLen Try.prog #[24] v K=some (.int .i64 ((([]:List Key).length:Nat):Int)):=hb.lens (P:=Try.prog) (ts:=#[24]) (t:=24) rfl isl_24
 have h0:(((0:Nat):Int)<2)=True:=eq_true (by decide)
 simp -implicitDefEqProofs (disch:=first|omega|simp only[go_sem]) only[go_sem,true_and,c79,el,List.length_nil,h0]
 exact ⟨_,rfl,rfl,trivial⟩
theorem ltOf_key:ltOf keyCmp=keyLt:=by
 funext a b
 exact keyCmp_neg a b
theorem enters_cmp:∀ args w,(callFunc 76 args).run Try.prog w=.ok (.enter 76 args) w:=enters_of Try.func76 (by kernel_rfl) rfl
theorem keys_c {h:DHeap} {v:Value} {l:List Key} (hb:Arg fKey.rep h v l) (hl:l.length≤1048576) :
 Ct Try.prog 53 [v] h fun r h1=>∃ w,r=.ret w∧Ext h h1∧Sl fKey.rep (Fresh h h1) h1 w (keysN l):=by
 refine go_53 (by simp) ?_
 have m:=clone_made (h:=h) hb
 simp -implicitDefEqProofs (disch:=first|omega|simp only[go_sem]) only[go_sem,true_and,c53]
 refine ncall (clone_keys hb (by omega)) ?_
 by_cases h0:l=[]
 ·subst h0
  simp -implicitDefEqProofs (disch:=first|omega|simp only[go_sem]) only[go_sem,true_and]
  refine ncall_ct (sort_0 m.arg) ?_
  rintro r h1 ⟨rfl,rfl⟩
  simp -implicitDefEqProofs (disch:=first|omega|simp only[go_sem]) only[go_sem,true_and]
  refine ncall_ct (compact_0 m.arg) ?_
  rintro r h1 ⟨rfl,rfl⟩
  simp -implicitDefEqProofs (disch:=first|omega|simp only[go_sem]) only[go_sem,true_and,XEnd]
  exact ⟨_,rfl,_,rfl,m.ext,m.sl⟩
 ·have hnn:isNilV v=false:=by
   cases hn:isNilV v with
   | false=>rfl
   | true=>exact absurd (isNilV_nil hb hn).2 h0
  have e1:cloneV h v l=.slice (some ⟨h.next,0,none⟩) l.length (l.length+1):=by rw[cloneV,hnn];rfl
  have e2:cloneH fKey h v l=h.push (.row (l.flatMap fKey.enc) 2 false):=by rw[cloneH,hnn];rfl
  have hok:=hb.ok
  obtain ⟨K,hK⟩:∃ K,h.push (.row (l.flatMap fKey.enc) 2 false)=K:=⟨_,rfl⟩
  have hg:K.get h.next=some (.row (l.flatMap fKey.enc) 2 false):=by rw[← hK];exact get_push_same _ _
  have hE:Ext h K:=by rw[← hK];exact Ext.push1 _ _
  have hKn:K.next=h.next+1:=by rw[← hK];rfl
  have hlen:0<l.length:=List.length_pos_iff.2 h0
  have ht:(l.flatMap fKey.enc).take (l.length*2)=l.flatMap fKey.enc:=List.take_of_length_le (by rw[flatMap_len];exact Nat.le_refl _)
  rw[e1,e2,hK]
  simp -implicitDefEqProofs (disch:=first|omega|simp only[go_sem]) only[go_sem,true_and]
  refine ncall_ct (sort_ct (F:=fKey) (k:=2) rfl sortKey Try.isAgg44 Try.sizeOf44 (cf:=keyCmp) (ltOf_key▸keyLt_swo) enters_cmp (fun x y=>compare_c) (o:=0) (esz:=2) hg hlen (by rw[flatMap_len,Nat.zero_add];exact Nat.le_refl _) ht (by omega)) ?_
  rintro r h1 ⟨rfl,l',hp,hs,rfl⟩
  have hl':l'.length=l.length:=hp.length_eq
  have e3:setAt (l.flatMap fKey.enc) 0 (l'.flatMap fKey.enc)=l'.flatMap fKey.enc:=by
   have:=setAt_over (l'.flatMap fKey.enc) (l.flatMap fKey.enc) [] (by rw[flatMap_len,flatMap_len,hl'])
   simpa using this
  rw[e3]
  simp -implicitDefEqProofs (disch:=first|omega|simp only[go_sem]) only[go_sem,true_and]
  have hr:RowIs fKey (K.set h.next (.row (l'.flatMap fKey.enc) 2 false)) h.next l':=RowIs.set rfl
  have cc:=compact_c (c:=l.length+1) hr (fun x hx=>hok x (hp.mem_iff.1 hx)) (by omega)
  rw[hl']at cc
  refine ncall_ct cc ?_
  rintro r h1 ⟨c',cs,rfl,rfl,hsl⟩
  simp -implicitDefEqProofs (disch:=first|omega|simp only[go_sem]) only[go_sem,true_and,XEnd]
  rw[ltOf_key]at hs
  rw[keys_same hp (sorted_list hl'.symm hs)]at hsl
  rw[keys_same hp (sorted_list hl'.symm hs)]
  refine ⟨_,rfl,_,rfl,(hE.set (by omega)).set (by omega),hsl.mono fun i hi=>⟨⟨by omega,?_⟩,rfl⟩⟩
  subst hi
  show h.next<K.next
  omega
end Go.Proofs.Ythjmkmoiopmfcaa

namespace Go.Proofs.Ythjmkmoiopmfcaa
open Go.D
open Go.Sort
set_option maxRecDepth 100000
abbrev seqV (c:Nat):Value:=.func (.func 87) #[] #[.pointer (some ⟨c,0,none⟩)]
theorem mapKeys_c {h:DHeap} {id:Nat}:Ct Try.prog 75 [.map (some id)] h fun r h1=>r=.ret (seqV h.next)∧h1=h.push (.row [.map (some id)] 0 false):=by
 refine go_75 (by simp) ?_
 simp -implicitDefEqProofs (disch:=first|omega|simp only[go_sem]) only[go_sem,true_and,c75]
 exact ⟨_,rfl,rfl,trivial⟩
theorem collect_c {h:DHeap} {c id:Nat} {m:List (Key × Value)} (hlen:m.length≤4294967296) (hok:∀ k∈m.map (·.1),fKey.ok k) (hc:c<h.next) (gc:h.get c=some (.row [.map (some id)] 0 false)) (hid:id<h.next) (hm:MapAt keyV h id m) :
 Ct Try.prog 86 [seqV c] h fun r h1=>∃ v dn,r=.ret v∧dn.Nodup∧(∀ k,k∈dn↔k∈m.map (·.1))∧Made fKey h h1 v dn:=by
 refine go_86 (by simp) ?_
 simp -implicitDefEqProofs (disch:=first|omega|simp only[go_sem]) only[go_sem,true_and,c86]
 refine ncall_ct (appendSeq_c hlen hok hc gc hid hm) ?_
 rintro r h1 ⟨v,dn,rfl,h2,h3,h4⟩
 simp -implicitDefEqProofs (disch:=first|omega|simp only[go_sem]) only[go_sem,true_and,XEnd]
 exact ⟨_,rfl,v,dn,rfl,h2,h3,h4⟩
theorem sortedFunc_c {h:DHeap} {c id:Nat} {m:List (Key × Value)} (hlen:m.length≤1048576) (hok:∀ k∈m.map (·.1),fKey.ok k) (hc:c<h.next) (gc:h.get c=some (.row [.map (some id)] 0 false)) (hid:id<h.next) (hm:MapAt keyV h id m) :
 Ct Try.prog 74 [seqV c,.func (.func 76) #[] #[]] h fun r h1=>∃ v l,r=.ret v∧UpK l∧(∀ k,k∈l↔k∈m.map (·.1))∧Ext h h1∧Sl fKey.rep (Fresh h h1) h1 v l:=by
 refine go_74 (by simp) ?_
 simp -implicitDefEqProofs (disch:=first|omega|simp only[go_sem]) only[go_sem,true_and,c74]
 refine ncall_ct (collect_c (by omega) hok hc gc hid hm) ?_
 rintro r h1 ⟨v,dn,rfl,hn,hmem,mm⟩
 simp -implicitDefEqProofs (disch:=first|omega|simp only[go_sem]) only[go_sem,true_and]
 by_cases h0:dn=[]
 ·subst h0
  refine ncall_ct (sort_0 mm.arg) ?_
  rintro r h2 ⟨rfl,rfl⟩
  simp -implicitDefEqProofs (disch:=first|omega|simp only[go_sem]) only[go_sem,true_and,XEnd]
  exact ⟨_,rfl,v,[],rfl,.nil,hmem,mm.ext,mm.sl⟩
 have hl:dn.length≤m.length:=by
  have:=nodup_len (b:=m.map (·.1)) hn (fun x hx=>(hmem x).1 hx)
  simpa using this
 obtain ⟨w,o,hw⟩:=mm.nonnil h0
 rcases o with ⟨_,h0',_⟩ | ⟨hz,_⟩ | ⟨i,cap,cells,rfl,hwi,hlt,hg,hle,els⟩
 ·exact absurd h0' h0
 ·cases hz
 cases hwi
 have hE:=mm.ext
 refine ncall_ct (sort_ct (F:=fKey) (k:=2) rfl sortKey Try.isAgg44 Try.sizeOf44 (cf:=keyCmp) (ltOf_key▸keyLt_swo) enters_cmp (fun x y=>compare_c) (o:=0) (esz:=2) hg (List.length_pos_iff.2 h0) (by rw[Nat.zero_add];exact hle) (Els.flat.1 els).1 (by omega)) ?_
 rintro r h2 ⟨rfl,l',hp,hs,rfl⟩
 rw[ltOf_key]at hs
 have hl':l'.length=dn.length:=hp.length_eq
 have hsl:=sorted_list hl'.symm hs
 have hnd:l'.Nodup:=hp.nodup_iff.2 hn
 have hle2:(l'.flatMap fKey.enc).length≤cells.length:=by rw[flatMap_len,hl'];exact hle
 simp -implicitDefEqProofs (disch:=first|omega|simp only[go_sem]) only[go_sem,true_and,XEnd]
 refine ⟨_,rfl,_,l',rfl,?_,fun k=>(hp.mem_iff).trans (hmem k),hE.set hw,?_⟩
 ·exact (hsl.and hnd).imp fun h=>keyLt_total h.1 (fun e=>h.2 e.symm)
 ·rw[← hl']
  refine .inr ⟨w,0,cap,_,2,false,rfl,⟨hw,hlt⟩,get_set_same _ _,.inr rfl,?_,?_⟩
  ·rw[setAt_length,hl']
   simpa using hle
  ·refine Els.flat.2 ⟨?_,fun x hx=>mm.ok x (hp.mem_iff.1 hx)⟩
   obtain ⟨A,B,hAB,hA⟩:∃ A B,cells=A++B∧A.length=(l'.flatMap fKey.enc).length:=⟨_,_,(List.take_append_drop _ cells).symm,by rw[List.length_take];exact Nat.min_eq_left hle2⟩
   rw[hAB,setAt_over _ _ _ hA.symm,List.drop_zero]
   exact List.take_left' (by rw[flatMap_len];rfl)
end Go.Proofs.Ythjmkmoiopmfcaa

namespace Go.Proofs.Ythjmkmoiopmfcaa
open Go.D
set_option maxRecDepth 100000
def putAll (l:List Pair):List (Key × Value):=l.foldl (fun m p=>mput m p.k (.int .i64 p.v)) []
theorem putAll_take {l:List Pair} {i:Nat} (hi:i<l.length):putAll (l.take (i+1))=mput (putAll (l.take i)) l[i].k (.int .i64 l[i].v):=by
 unfold putAll
 rw[List.take_succ_eq_append_getElem hi,List.foldl_append]
 rfl
theorem mput_len {m:List (Key × Value)} {k:Key} {v:Value}:(mput m k v).length≤m.length+1:=by
 unfold mput
 split
 ·rw[List.length_map];exact Nat.le_succ _
 ·rw[List.length_append];exact Nat.le_refl _
theorem putAll_lenG:∀ (l:List Pair) (m:List (Key × Value)),(l.foldl (fun m p=>mput m p.k (.int .i64 p.v)) m).length≤m.length+l.length
 | [],m=>by simp
 | p :: l,m=>by
   have h1:=putAll_lenG l (mput m p.k (.int .i64 p.v))
   have h2:=mput_len (m:=m) (k:=p.k) (v:=.int .i64 p.v)
   rw[List.foldl_cons,List.length_cons]
   omega
theorem putAll_len (l:List Pair):(putAll l).length≤l.length:=by
 have:=putAll_lenG l []
 rw[List.length_nil,Nat.zero_add]at this
 exact this
theorem putAll_memG {k:Key}:∀ (l:List Pair) (m:List (Key × Value)),k∈(l.foldl (fun m p=>mput m p.k (.int .i64 p.v)) m).map (·.1)↔k∈m.map (·.1)∨k∈l.map (·.k)
 | [],m=>by simp
 | p :: l,m=>by
   rw[List.foldl_cons,putAll_memG l,mput_keys]
   split
   ·rename_i h
    rw[List.map_cons,List.mem_cons]
    constructor
    ·rintro (a | a)
     ·exact .inl a
     ·exact .inr (.inr a)
    ·rintro (a | a | a)
     ·exact .inl a
     ·exact .inl (a▸h)
     ·exact .inr a
   ·rw[List.map_cons,List.mem_cons,List.mem_append,List.mem_singleton,or_assoc]
theorem putAll_mem {k:Key} {l:List Pair}:k∈(putAll l).map (·.1)↔k∈l.map (·.k):=by
 unfold putAll
 rw[putAll_memG]
 simp
def lastP (l:List Pair) (k:Key):Option Pair:=l.reverse.find? fun p=>p.k=k
def pairOf (l:List Pair) (k:Key):Pair:=(lastP l k).getD ⟨k,0⟩
theorem lastP_some {l:List Pair} {k:Key} {p:Pair} (h:lastP l k=some p):p∈l∧p.k=k:=by
 refine ⟨List.mem_reverse.1 (List.mem_of_find?_eq_some h),?_⟩
 have:=List.find?_some h
 simpa using this
theorem lastP_mem {l:List Pair} {k:Key} (h:k∈l.map (·.k)):∃ p,lastP l k=some p:=by
 obtain ⟨p,hp,rfl⟩:=List.mem_map.1 h
 cases hq:lastP l p.k with
 | some q=>exact ⟨q,rfl⟩
 | none=>
   have:=List.find?_eq_none.1 hq p (List.mem_reverse.2 hp)
   simp at this
theorem mget_putAllG {k:Key}:∀ (l:List Pair) (m:List (Key × Value)),(m.map (·.1)).Nodup→mget (l.foldl (fun m p=>mput m p.k (.int .i64 p.v)) m) k=match lastP l k with | some p=>some (.int .i64 p.v) | none=>mget m k
 | [],m,_=>rfl
 | p :: l,m,hn=>by
   rw[List.foldl_cons,mget_putAllG l _ (mput_nodup hn),mget_mput hn]
   unfold lastP
   rw[List.reverse_cons,List.find?_append]
   cases hq:l.reverse.find? fun p=>p.k=k with
   | some q=>rfl
   | none=>
     by_cases hk:k=p.k
     ·simp[hk]
     ·have:¬ p.k=k:=fun e=>hk e.symm
      simp[hk,this]
theorem mget_putAll {l:List Pair} {k:Key}:mget (putAll l) k=(lastP l k).map fun p=>.int .i64 p.v:=by
 unfold putAll
 rw[mget_putAllG l [] .nil]
 cases lastP l k <;> rfl
theorem pairOf_mem {l:List Pair} {k:Key} (h:k∈l.map (·.k)):pairOf l k∈l∧(pairOf l k).k=k∧mget (putAll l) k=some (.int .i64 (pairOf l k).v):=by
 obtain ⟨p,hp⟩:=lastP_mem h
 obtain ⟨h1,h2⟩:=lastP_some hp
 rw[mget_putAll]
 unfold pairOf
 rw[hp]
 exact ⟨h1,h2,rfl⟩
theorem bd_pairK {k:Key} {v:Int}:dBuild Try.prog 46 [(0,keyV k),(1,.int .i64 v)]=some (.agg #[.int .i32 k.t,.int .i64 k.r,.int .i64 v]):=dBuild_at plc_46 rfl
theorem mapT64:MapT Try.prog 64 keyV (.int .i64 0):=⟨_,_,und_map64,keyOf,by kernel_rfl⟩
theorem pairs_c {h:DHeap} {v:Value} {l:List Pair} (hb:Arg fPair.rep h v l) (hl:l.length≤1048576) :
 Ct Try.prog 49 [v] h fun r h1=>∃ w ks,r=.ret w∧UpK ks∧(∀ k,k∈ks↔k∈l.map (·.k))∧(ks=[]→w=.slice none 0 0)∧Made fPair h h1 w (ks.map (pairOf l)):=by
 refine go_49 (by simp) ?_
 have el:∀ K,dLen Try.prog #[27] v K=some (.int .i64 (l.length:Nat)):=hb.lens (P:=Try.prog) (ts:=#[27]) (t:=27) rfl isl_27
 simp -implicitDefEqProofs (disch:=first|omega|simp only[go_sem]) only[go_sem,true_and,c49,el]
 refine xloop (σ:=Nat) (by kernel_rfl) (fun i s=>s.df=[]∧s.rd=none∧s.fr 3=some (.map (some h.next))∧s.fr 10=some v∧s.fr 11=some (.int .i64 (l.length:Nat))∧s.fr 12=some (.int .i64 (i:Nat))∧i≤l.length∧h.next<s.h.next∧Ext h s.h∧MapAt keyV s.h h.next (putAll (l.take i))) (fun i=>l.length - i) 0 ?_ ?_
 ·simp -implicitDefEqProofs (disch:=first|omega|simp only[go_sem]) only[go_sem,true_and]
  exact ⟨by trivial,Nat.zero_le _,Nat.lt_succ_self _,Ext.push1 _ _,MapAt.new⟩
 rintro i ⟨fr,df,K,rd⟩ K' hK' hX ⟨rfl,rfl,f3,f10,f11,f12,hi,hlt,hE,hm⟩
 simp only at f3 f10 f11 f12 hlt hE hm
 simp -implicitDefEqProofs (disch:=first|omega|simp only[go_sem]) only[go_sem,true_and,f10,f11,f12]
 refine XIf_dec (fun hc1=>?_) (fun hc1=>?_)
 ·have hj:i<l.length:=by omega
  obtain ⟨id1,o1,e1,_,hat1⟩:=(hb.ext hE).idx (P:=Try.prog) (t:=27) el_27 (k:=.i64) (i:=i) (x:=l[i]) (by simp)
  have l1:cellsAt K id1 o1 3=some (.agg #[.int .i32 l[i].k.t,.int .i64 l[i].k.r,.int .i64 l[i].v]):=hat1.flat.2.1
  obtain ⟨K1,hK1⟩:∃ H,H=K.push (.row [.int .i32 l[i].k.t,.int .i64 l[i].k.r,.int .i64 l[i].v] 0 false):=⟨_,rfl⟩
  have g1:K1.get K.next=some (.row [.int .i32 l[i].k.t,.int .i64 l[i].k.r,.int .i64 l[i].v] 0 false):=by rw[hK1];exact get_push_same _ _
  have lk:cellsAt K1 K.next 0 2=some (keyV l[i].k):=by rw[cellsAt_row g1 (Nat.le_of_ble_eq_true rfl)];rfl
  have lv:cellAt K1 K.next 2=some (.int .i64 l[i].v):=cellAt_row g1
  have hE1:Ext K K1:=by rw[hK1];exact Ext.push1 _ _
  have hm1:MapAt keyV K1 h.next (putAll (l.take i)):=hm.keep (hE1.get _ hlt)
  obtain ⟨o,hu,hm2⟩:=hm1.update mapT64 l[i].k (.int .i64 l[i].v)
  have hw:=wrap_succ hj (by omega)
  have hst:dStore Try.prog 46 (.pointer (some ⟨K.next,0,none⟩)) (.agg #[.int .i32 l[i].k.t,.int .i64 l[i].k.r,.int .i64 l[i].v]) (K.push (.row [.int .i32 0,.int .i64 0,.int .i64 0] 0 false))=some K1:=by
   rw[hK1]
   exact (st_46 rfl).trans (storeAll_push rfl rfl)
  simp -implicitDefEqProofs (disch:=first|omega|simp only[go_sem]) only[go_sem,true_and,f3,f10,f12,e1,l1,hst,lk,lv,hu,hw]
  refine hK' (i+1) _ ?_ (by omega)
  have hn1:=hE1.next
  exact ⟨rfl,rfl,(vy f3),(vy f10),(vy f11),vz,by omega,show h.next<K1.next by omega,(hE.trans hE1).set (Nat.le_refl _),by rw[putAll_take hj];exact hm2⟩
 obtain rfl:i=l.length:=by omega
 refine hX _ _ (by simp) ?_
 rw[List.take_length]at hm
 simp -implicitDefEqProofs (disch:=first|omega|simp only[go_sem]) only[go_sem,true_and,f3]
 have hkok:∀ k∈(putAll l).map (·.1),fKey.ok k:=fun k hk=>by
  obtain ⟨p,hp,rfl⟩:=List.mem_map.1 (putAll_mem.1 hk)
  exact (hb.ok p hp).1
 refine ncall_ct mapKeys_c ?_
 rintro r h2 ⟨rfl,rfl⟩
 simp -implicitDefEqProofs (disch:=first|omega|simp only[go_sem]) only[go_sem,true_and]
 obtain ⟨H2,hH2⟩:∃ H,H=K.push (.row [.map (some h.next)] 0 false):=⟨_,rfl⟩
 rw[← hH2]
 have g2:H2.get K.next=some (.row [.map (some h.next)] 0 false):=by rw[hH2];exact get_push_same _ _
 have hE2:Ext K H2:=by rw[hH2];exact Ext.push1 _ _
 have hH2n:H2.next=K.next+1:=by rw[hH2];rfl
 have hm2:MapAt keyV H2 h.next (putAll l):=hm.keep (hE2.get _ hlt)
 refine ncall_ct (sortedFunc_c (h:=H2) (c:=K.next) (id:=h.next) (m:=putAll l) (Nat.le_trans (putAll_len l) hl) hkok (by omega) g2 (by omega) hm2) ?_
 rintro r h3 ⟨w,ks,rfl,hup,hmem,hE3,hs3⟩
 have hsk:Arg fKey.rep h3 w ks:=hs3.mono fun i hi=>⟨hi.2,rfl⟩
 have ek:∀ K,dLen Try.prog #[24] w K=some (.int .i64 (ks.length:Nat)):=hsk.lens (P:=Try.prog) (ts:=#[24]) (t:=24) rfl isl_24
 simp -implicitDefEqProofs (disch:=first|omega|simp only[go_sem]) only[go_sem,true_and,XEnd,ek]
 have hpm:∀ k∈ks,pairOf l k∈l∧(pairOf l k).k=k∧mget (putAll l) k=some (.int .i64 (pairOf l k).v):=fun k hk=>pairOf_mem (putAll_mem.1 ((hmem k).1 hk))
 have hkl:ks.length≤1048576:=by
  have h1:=nodup_len (a:=ks) (b:=(putAll l).map (·.1)) (hup.imp fun {a b} h e=>by rw[e,keyLt_irr]at h;cases h) (fun x hx=>(hmem x).1 hx)
  rw[List.length_map]at h1
  exact Nat.le_trans h1 (Nat.le_trans (putAll_len l) hl)
 have hE03:Ext h h3:=(hE.trans hE2).trans hE3
 have hn3:=hE3.next
 have hm3:MapAt keyV h3 h.next (putAll l):=hm2.keep (hE3.get _ (by omega))
 refine xloop (σ:=Nat) (by kernel_rfl) (fun j s=>s.df=[]∧s.rd=none∧s.fr 3=some (.map (some h.next))∧s.fr 24=some w∧s.fr 25=some (.int .i64 (ks.length:Nat))∧s.fr 26=some (.int .i64 (j:Nat))∧j≤ks.length∧∃ v',s.fr 6=some v'∧(j=0→v'=.slice none 0 0)∧Made fPair h3 s.h v' ((ks.take j).map (pairOf l))) (fun j=>ks.length - j) 0 ?_ ?_
 ·simp -implicitDefEqProofs (disch:=first|omega|simp only[go_sem]) only[go_sem,true_and,f3]
  exact ⟨by trivial,Nat.zero_le _,_,rfl,fun _=>rfl,Made.nil _ (.refl _)⟩
 rintro j ⟨fr,df,K4,rd⟩ K' hK' hX ⟨rfl,rfl,f3,f24,f25,f26,hj,v',f6,hv0,mm⟩
 simp only at f3 f24 f25 f26 f6 mm
 have hE4:=mm.ext
 have hn4:=hE4.next
 simp -implicitDefEqProofs (disch:=first|omega|simp only[go_sem]) only[go_sem,true_and,f24,f25,f26]
 refine XIf_dec (fun hc1=>?_) (fun hc1=>?_)
 ·have hjl:j<ks.length:=by omega
  obtain ⟨id1,o1,e1,_,hat1⟩:=(hsk.ext hE4).idx (P:=Try.prog) (t:=24) el_24 (k:=.i64) (i:=j) (x:=ks[j]) (by simp)
  have l1:cellsAt K4 id1 o1 2=some (keyV ks[j]):=hat1.flat.2.1
  obtain ⟨K5,hK5⟩:∃ H,H=K4.push (.row [.int .i32 ks[j].t,.int .i64 ks[j].r] 0 false):=⟨_,rfl⟩
  have hE5:Ext K4 K5:=by rw[hK5];exact Ext.push1 _ _
  have hK5n:K5.next=K4.next+1:=by rw[hK5];rfl
  have hst:dStore Try.prog 44 (.pointer (some ⟨K4.next,0,none⟩)) (keyV ks[j]) (K4.push (.row [.int .i32 0,.int .i64 0] 0 false))=some K5:=by
   rw[hK5]
   exact (st_44 rfl).trans (storeAll_push rfl rfl)
  have g5:K5.get K4.next=some (.row [.int .i32 ks[j].t,.int .i64 ks[j].r] 0 false):=by rw[hK5];exact get_push_same _ _
  have l5:cellsAt K5 K4.next 0 2=some (keyV ks[j]):=by rw[cellsAt_row g5 (Nat.le_of_ble_eq_true rfl)];rfl
  obtain ⟨hp1,hp2,hp3⟩:=hpm ks[j] (List.getElem_mem hjl)
  have lk5:dLookup Try.prog 64 (.map (some h.next)) (keyV ks[j]) false K5=some (.int .i64 (pairOf l ks[j]).v):=by
   rw[(hm3.keep ((hE5.get _ (by omega)).trans (hE4.get _ (by omega)))).lookup mapT64 ks[j] false,hp3]
   rfl
  obtain ⟨w2,h6,e6,m6⟩:=(mm.on hE5).snoc app_27 (y:=pairOf l ks[j]) (cs:=[.int .i32 ks[j].t,.int .i64 ks[j].r,.int .i64 (pairOf l ks[j]).v]) (z:=3) (by rw[fPair_enc,hp2]) rfl (hb.ok _ hp1) (by rw[List.length_map,List.length_take];omega) (by decide)
  have hw:=wrap_succ hjl (by omega)
  simp -implicitDefEqProofs (disch:=first|omega|simp only[go_sem]) only[go_sem,true_and,f24,f26,e1,l1,hst]
  refine yr_49_0 rfl ?_
  simp -implicitDefEqProofs (disch:=first|omega|simp only[go_sem]) only[go_sem,true_and,g49_0,q49_0,f3,f6,f26,l5,lk5,bd_pairK,e6,hw]
  refine hK' (j+1) _ ?_ (by omega)
  refine ⟨rfl,rfl,(vy f3),(vy f24),(vy f25),vz,by omega,w2,vz,fun h=>by omega,?_⟩
  rw[List.take_succ_eq_append_getElem hjl,List.map_append]
  exact m6
 obtain rfl:j=ks.length:=by omega
 refine hX _ _ (by simp) ?_
 rw[List.take_length]at mm
 simp -implicitDefEqProofs (disch:=first|omega|simp only[go_sem]) only[go_sem,true_and,f6]
 exact ⟨_,rfl,_,ks,rfl,hup,fun k=>(hmem k).trans putAll_mem,fun e=>hv0 (by rw[e];rfl),mm.base hE03⟩
end Go.Proofs.Ythjmkmoiopmfcaa

namespace Go.Proofs.Ythjmkmoiopmfcaa
open Go.D
set_option maxRecDepth 100000
theorem take_notin {l:List Key} {k:Key} {i:Nat} (hi:i<l.length) (h:k∉l.take i) (hn:l[i]≠k):k∉l.take (i+1):=by
 rw[List.take_succ_eq_append_getElem hi,List.mem_append,List.mem_singleton]
 rintro (a | a)
 ·exact h a
 ·exact hn a.symm
theorem indexKey_c {h:DHeap} {a:Value} {l:List Key} {k:Key} (hb:Arg fKey.rep h a l) (hl:l.length≤4294967296) :
 Ct Try.prog 47 [a,keyV k] h fun r h1=>∃ n:Int,r=.ret (.int .i64 n)∧(0≤n↔k∈l)∧Ext h h1:=by
 refine go_47 (by simp) ?_
 have el:∀ K,dLen Try.prog #[24] a K=some (.int .i64 (l.length:Nat)):=hb.lens (P:=Try.prog) (ts:=#[24]) (t:=24) rfl isl_24
 obtain ⟨K,hK⟩:∃ K,K=h.push (.row [.int .i32 k.t,.int .i64 k.r] 0 false):=⟨_,rfl⟩
 have hE:Ext h K:=by rw[hK];exact Ext.push1 _ _
 have gk:K.get h.next=some (.row [.int .i32 k.t,.int .i64 k.r] 0 false):=by rw[hK];exact get_push_same _ _
 have lk:cellsAt K h.next 0 2=some (keyV k):=by rw[cellsAt_row gk (Nat.le_of_ble_eq_true rfl)];rfl
 have hcl:(keyV k).cells.toList=[.int .i32 k.t,.int .i64 k.r]:=rfl
 simp -implicitDefEqProofs (disch:=first|omega|simp only[go_sem]) only[go_sem,true_and,c47,el,hcl,← hK]
 refine xloop (σ:=Nat) (by kernel_rfl) (fun i s=>s.df=[]∧s.rd=none∧s.h=K∧s.fr 0=some a∧s.fr 3=some (.pointer (some ⟨h.next,0,none⟩))∧s.fr 7=some (.int .i64 (l.length:Nat))∧s.fr 8=some (.int .i64 (i:Nat))∧i≤l.length∧k∉l.take i) (fun i=>l.length - i) 0 ?_ ?_
 ·simp -implicitDefEqProofs (disch:=first|omega|simp only[go_sem]) only[go_sem,true_and]
  exact ⟨by trivial,Nat.zero_le _,by simp⟩
 rintro i ⟨fr,df,hh,rd⟩ K' hK' hX ⟨rfl,rfl,rfl,f0,f3,f7,f8,hi,hni⟩
 simp only at f0 f3 f7 f8
 simp -implicitDefEqProofs (disch:=first|omega|simp only[go_sem]) only[go_sem,true_and,f7,f8]
 refine XIf_dec (fun hc1=>?_) (fun hc1=>?_)
 ·have hj:i<l.length:=by omega
  obtain ⟨id1,o1,e1,_,hat1⟩:=(hb.ext hE).idx (P:=Try.prog) (t:=24) el_24 (k:=.i64) (i:=i) (x:=l[i]) (by simp)
  have l1:cellsAt hh id1 o1 2=some (keyV l[i]):=hat1.flat.2.1
  have hw:=wrap_succ hj (by omega)
  simp -implicitDefEqProofs (disch:=first|omega|simp only[go_sem]) only[go_sem,true_and,f8]
  refine yr_47_0 rfl ?_
  simp -implicitDefEqProofs (disch:=first|omega|simp only[go_sem]) only[go_sem,true_and,g47_0,q47_0,f0,f3,lk,e1,l1,bin_key']
  by_cases he:k=l[i]
  ·simp -implicitDefEqProofs (disch:=first|omega|simp only[go_sem]) only[go_sem,true_and,he,f8]
   refine hX _ _ (by simp) ?_
   simp -implicitDefEqProofs (disch:=first|omega|simp only[go_sem]) only[go_sem,true_and]
   exact ⟨_,rfl,_,rfl,⟨fun _=>by rw[he];exact List.getElem_mem hj,fun _=>by omega⟩,hE⟩
  ·simp -implicitDefEqProofs (disch:=first|omega|simp only[go_sem]) only[go_sem,true_and,he,f8,hw]
   refine hK' (i+1) _ ?_ (by omega)
   exact ⟨rfl,rfl,rfl,(vy f0),(vy f3),(vy f7),vz,by omega,take_notin hj hni fun e=>he e.symm⟩
 obtain rfl:i=l.length:=by omega
 refine hX _ _ (by simp) ?_
 simp -implicitDefEqProofs (disch:=first|omega|simp only[go_sem]) only[go_sem,true_and]
 rw[List.take_length]at hni
 exact ⟨_,rfl,_,rfl,⟨fun h=>absurd h (by decide),fun h=>absurd h hni⟩,hE⟩
theorem contains_c {h:DHeap} {a:Value} {l:List Key} {k:Key} (hb:Arg fKey.rep h a l) (hl:l.length≤4294967296) :
 DC Try.prog 19 [a,keyV k] h (.ret (.bool (decide (k∈l)))) h:=by
 refine Ct.pure (go_19 (by simp) ?_) (vin_bool _)
 obtain ⟨K,hK⟩:∃ K,K=h.push (.row [.int .i32 k.t,.int .i64 k.r] 0 false):=⟨_,rfl⟩
 have hE:Ext h K:=by rw[hK];exact Ext.push1 _ _
 have gk:K.get h.next=some (.row [.int .i32 k.t,.int .i64 k.r] 0 false):=by rw[hK];exact get_push_same _ _
 have lk:cellsAt K h.next 0 2=some (keyV k):=by rw[cellsAt_row gk (Nat.le_of_ble_eq_true rfl)];rfl
 have hcl:(keyV k).cells.toList=[.int .i32 k.t,.int .i64 k.r]:=rfl
 simp -implicitDefEqProofs (disch:=first|omega|simp only[go_sem]) only[go_sem,true_and,c19,hcl,← hK,lk]
 refine ncall_ct (indexKey_c (hb.ext hE) hl) ?_
 rintro r h1 ⟨n,rfl,hn,hE1⟩
 simp -implicitDefEqProofs (disch:=first|omega|simp only[go_sem]) only[go_sem,true_and,XEnd]
 exact ⟨_,rfl,congrArg (fun b=>DEnd.ret (Value.bool b)) (decide_eq_decide.2 hn),hE.trans hE1⟩
theorem has_c {h:DHeap} {a:Value} {l:List Key} {k:Key} (hb:Arg fKey.rep h a l) (hl:l.length≤4294967296) :
 DC Try.prog 51 [a,keyV k] h (.ret (.bool (decide (k∈l)))) h:=by
 refine Ct.pure (go_51 (by simp) ?_) (vin_bool _)
 obtain ⟨K,hK⟩:∃ K,K=h.push (.row [.int .i32 k.t,.int .i64 k.r] 0 false):=⟨_,rfl⟩
 have hE:Ext h K:=by rw[hK];exact Ext.push1 _ _
 have gk:K.get h.next=some (.row [.int .i32 k.t,.int .i64 k.r] 0 false):=by rw[hK];exact get_push_same _ _
 have lk:cellsAt K h.next 0 2=some (keyV k):=by rw[cellsAt_row gk (Nat.le_of_ble_eq_true rfl)];rfl
 have hcl:(keyV k).cells.toList=[.int .i32 k.t,.int .i64 k.r]:=rfl
 simp -implicitDefEqProofs (disch:=first|omega|simp only[go_sem]) only[go_sem,true_and,c51,hcl,← hK,lk]
 refine ncall (contains_c (hb.ext hE) hl) ?_
 simp -implicitDefEqProofs (disch:=first|omega|simp only[go_sem]) only[go_sem,true_and]
 exact ⟨_,rfl,rfl,hE⟩
theorem has_r {h:DHeap} {a:Value} {l:List Key} {k:Key} (hb:Arg fKey.rep h a l) (hl:l.length≤4294967296) :
 DC Try.prog 56 [a,keyV k] h (.ret (.bool (decide (k∈l)))) h:=by
 refine Ct.pure (go_56 (by simp) ?_) (vin_bool _)
 have el:∀ K,dLen Try.prog #[24] a K=some (.int .i64 (l.length:Nat)):=hb.lens (P:=Try.prog) (ts:=#[24]) (t:=24) rfl isl_24
 obtain ⟨K,hK⟩:∃ K,K=h.push (.row [.int .i32 k.t,.int .i64 k.r] 0 false):=⟨_,rfl⟩
 have hE:Ext h K:=by rw[hK];exact Ext.push1 _ _
 have gk:K.get h.next=some (.row [.int .i32 k.t,.int .i64 k.r] 0 false):=by rw[hK];exact get_push_same _ _
 have lk:cellsAt K h.next 0 2=some (keyV k):=by rw[cellsAt_row gk (Nat.le_of_ble_eq_true rfl)];rfl
 have hcl:(keyV k).cells.toList=[.int .i32 k.t,.int .i64 k.r]:=rfl
 simp -implicitDefEqProofs (disch:=first|omega|simp only[go_sem]) only[go_sem,true_and,c56,hcl,← hK]
 refine xloop (σ:=Nat) (by kernel_rfl) (fun i s=>s.df=[]∧s.rd=none∧s.h=K∧s.fr 0=some a∧s.fr 3=some (.pointer (some ⟨h.next,0,none⟩))∧s.fr 5=some (.int .i64 (i:Nat))∧i≤l.length∧k∉l.take i) (fun i=>l.length - i) 0 ?_ ?_
 ·simp -implicitDefEqProofs (disch:=first|omega|simp only[go_sem]) only[go_sem,true_and]
  exact ⟨by trivial,Nat.zero_le _,by simp⟩
 rintro i ⟨fr,df,hh,rd⟩ K' hK' hX ⟨rfl,rfl,rfl,f0,f3,f5,hi,hni⟩
 simp only at f0 f3 f5
 simp -implicitDefEqProofs (disch:=first|omega|simp only[go_sem]) only[go_sem,true_and,f0,f5,el]
 refine XIf_dec (fun hc1=>?_) (fun hc1=>?_)
 ·have hj:i<l.length:=by omega
  obtain ⟨id1,o1,e1,_,hat1⟩:=(hb.ext hE).idx (P:=Try.prog) (t:=24) el_24 (k:=.i64) (i:=i) (x:=l[i]) (by simp)
  have l1:cellsAt hh id1 o1 2=some (keyV l[i]):=hat1.flat.2.1
  have hw:=wrap_succ hj (by omega)
  simp -implicitDefEqProofs (disch:=first|omega|simp only[go_sem]) only[go_sem,true_and]
  refine yr_56_0 rfl ?_
  simp -implicitDefEqProofs (disch:=first|omega|simp only[go_sem]) only[go_sem,true_and,g56_0,q56_0,f0,f3,f5,lk,e1,l1,bin_key']
  by_cases he:l[i]=k
  ·simp -implicitDefEqProofs (disch:=first|omega|simp only[go_sem]) only[go_sem,true_and,he]
   refine hX _ _ (by simp) ?_
   simp -implicitDefEqProofs (disch:=first|omega|simp only[go_sem]) only[go_sem,true_and]
   have hm:k∈l:=by rw[← he];exact List.getElem_mem hj
   exact ⟨_,rfl,by rw[decide_eq_true hm],hE⟩
  ·simp -implicitDefEqProofs (disch:=first|omega|simp only[go_sem]) only[go_sem,true_and,he,f5,hw]
   refine hK' (i+1) _ ?_ (by omega)
   exact ⟨rfl,rfl,rfl,(vy f0),(vy f3),vz,by omega,take_notin hj hni he⟩
 obtain rfl:i=l.length:=by omega
 refine hX _ _ (by simp) ?_
 simp -implicitDefEqProofs (disch:=first|omega|simp only[go_sem]) only[go_sem,true_and]
 rw[List.take_length]at hni
 exact ⟨_,rfl,by rw[decide_eq_false hni],hE⟩
end Go.Proofs.Ythjmkmoiopmfcaa

namespace Go.Proofs.Ythjmkmoiopmfcaa
open Go.D
set_option maxRecDepth 100000
abbrev pairV (x:Pair):Value:=.agg #[.int .i32 x.k.t,.int .i64 x.k.r,.int .i64 x.v]
structure Test (h:DHeap) (f:FuncId) (cap:Array Value) (l:List Pair) (pd:Pair→Bool):Prop where
 good:goodFn Try.prog f=true
 says:∀ x∈l,∀ K,Ext h K→DC Try.prog f (pairV x :: cap.toList) K (.ret (.bool (pd x))) K
theorem indexFunc_c {h:DHeap} {a:Value} {l:List Pair} {f:FuncId} {cap:Array Value} {pd:Pair→Bool} (hb:Arg fPair.rep h a l) (hl:l.length≤4294967296) (ht:Test h f cap l pd) :
 Ct Try.prog 73 [a,.func (.func f) #[] cap] h fun r h1=>Ext h h1∧((r=.ret (.int .i64 (-1))∧∀ x∈l,pd x=false)∨∃ i:Nat,∃ hi:i<l.length,r=.ret (.int .i64 (i:Nat))∧pd l[i]=true∧∀ x∈l.take i,pd x=false):=by
 refine go_73 (by simp) ?_
 have el:∀ K,dLen Try.prog #[27] a K=some (.int .i64 (l.length:Nat)):=hb.lens (P:=Try.prog) (ts:=#[27]) (t:=27) rfl isl_27
 simp -implicitDefEqProofs (disch:=first|omega|simp only[go_sem]) only[go_sem,true_and,c73,el]
 refine xloop (σ:=Nat) (by kernel_rfl) (fun i s=>s.df=[]∧s.rd=none∧s.h=h∧s.fr 0=some a∧s.fr 1=some (.func (.func f) #[] cap)∧s.fr 7=some (.int .i64 (l.length:Nat))∧s.fr 8=some (.int .i64 (i:Nat))∧i≤l.length∧∀ x∈l.take i,pd x=false) (fun i=>l.length - i) 0 ?_ ?_
 ·simp -implicitDefEqProofs (disch:=first|omega|simp only[go_sem]) only[go_sem,true_and]
  exact ⟨by trivial,Nat.zero_le _,fun x hx=>by simp at hx⟩
 rintro i ⟨fr,df,hh,rd⟩ K' hK' hX ⟨rfl,rfl,rfl,f0,f1,f7,f8,hi,hni⟩
 simp only at f0 f1 f7 f8
 simp -implicitDefEqProofs (disch:=first|omega|simp only[go_sem]) only[go_sem,true_and,f7,f8]
 refine XIf_dec (fun hc1=>?_) (fun hc1=>?_)
 ·have hj:i<l.length:=by omega
  obtain ⟨id1,o1,e1,_,hat1⟩:=hb.idx (P:=Try.prog) (t:=27) el_27 (k:=.i64) (i:=i) (x:=l[i]) (by simp)
  have l1:cellsAt hh id1 o1 3=some (pairV l[i]):=hat1.flat.2.1
  have hw:=wrap_succ hj (by omega)
  have hca:dCallO Try.prog hh (some (.func (.func f) #[] cap)) (some [pairV l[i]])=.ok (.enter f (pairV l[i] :: cap.toList)) hh:=dCallO_func ht.good _ _ _
  simp -implicitDefEqProofs (disch:=first|omega|simp only[go_sem]) only[go_sem,true_and,f0,f1,f8,e1,l1,hca]
  refine ncall (ht.says _ (List.getElem_mem hj) hh (.refl _)) ?_
  cases hq:pd l[i] with
  | true=>
    simp -implicitDefEqProofs (disch:=first|omega|simp only[go_sem]) only[go_sem,true_and]
    refine hX _ _ (by simp) ?_
    simp -implicitDefEqProofs (disch:=first|omega|simp only[go_sem]) only[go_sem,true_and]
    exact ⟨_,rfl,.refl _,.inr ⟨i,hj,rfl,hq,hni⟩⟩
  | false=>
    simp -implicitDefEqProofs (disch:=first|omega|simp only[go_sem]) only[go_sem,true_and,f8,hw]
    refine hK' (i+1) _ ?_ (by omega)
    refine ⟨rfl,rfl,rfl,(vy f0),(vy f1),(vy f7),vz,by omega,fun x hx=>?_⟩
    rw[List.take_succ_eq_append_getElem hj,List.mem_append,List.mem_singleton]at hx
    rcases hx with hx | rfl
    ·exact hni x hx
    ·exact hq
 obtain rfl:i=l.length:=by omega
 refine hX _ _ (by simp) ?_
 simp -implicitDefEqProofs (disch:=first|omega|simp only[go_sem]) only[go_sem,true_and]
 rw[List.take_length]at hni
 exact ⟨_,rfl,.refl _,.inl ⟨rfl,hni⟩⟩
end Go.Proofs.Ythjmkmoiopmfcaa

namespace Go.Proofs.Ythjmkmoiopmfcaa
open Go.D
set_option maxRecDepth 100000
theorem needs_says {h:DHeap} {c:Nat} {w:Value} {reads:List Key} {x:Pair} (hc:cellAt h c 4=some w) (hlt:c<h.next) (hb:Arg fKey.rep h w reads) (hl:reads.length≤4294967296) :
 DC Try.prog 50 [pairV x,.pointer (some ⟨c,0,none⟩)] h (.ret (.bool (!decide (x.k∈reads)))) h:=by
 refine Ct.pure (go_50 (by simp) ?_) (vin_bool _)
 obtain ⟨K,hK⟩:∃ K,K=h.push (.row [.int .i32 x.k.t,.int .i64 x.k.r,.int .i64 x.v] 0 false):=⟨_,rfl⟩
 have hE:Ext h K:=by rw[hK];exact Ext.push1 _ _
 have gk:K.get h.next=some (.row [.int .i32 x.k.t,.int .i64 x.k.r,.int .i64 x.v] 0 false):=by rw[hK];exact get_push_same _ _
 have lk:cellsAt K h.next 0 2=some (keyV x.k):=by rw[cellsAt_row gk (Nat.le_of_ble_eq_true rfl)];rfl
 have hc2:cellAt K c 4=some w:=by
  have:=hE.get c hlt
  simp only[cellAt,this]at hc ⊢
  exact hc
 have hcl:(pairV x).cells.toList=[.int .i32 x.k.t,.int .i64 x.k.r,.int .i64 x.v]:=rfl
 simp -implicitDefEqProofs (disch:=first|omega|simp only[go_sem]) only[go_sem,true_and,c50,hcl,← hK,hc2,lk]
 refine ncall (has_c (hb.ext hE) hl) ?_
 simp -implicitDefEqProofs (disch:=first|omega|simp only[go_sem]) only[go_sem,true_and]
 exact ⟨_,rfl,rfl,hE⟩
theorem needs_test {h:DHeap} {c:Nat} {w:Value} {reads:List Key} {l:List Pair} (hc:cellAt h c 4=some w) (hlt:c<h.next) (hb:Arg fKey.rep h w reads) (hl:reads.length≤4294967296) :
 Test h 50 #[.pointer (some ⟨c,0,none⟩)] l fun x=>!decide (x.k∈reads) where
 good:=by kernel_rfl
 says x _ K e:=needs_says (by
  have:=e.get c hlt
  simp only[cellAt,this]at hc ⊢
  exact hc) (Nat.lt_of_lt_of_le hlt e.next) (hb.ext e) hl
end Go.Proofs.Ythjmkmoiopmfcaa

namespace Go.Proofs.Ythjmkmoiopmfcaa
open Go.D
set_option maxRecDepth 100000
theorem pairs_byK {l:List Pair} {ks:List Key} (hu:UpK ks) (hm:∀ k,k∈ks↔k∈l.map (·.k)):ks.map (pairOf l)=byK Pair.k l:=by
 have e:ks=keysN (l.map (·.k)):=up_eq hu (keysN_up _) fun k=>(hm k).trans mem_keysN.symm
 have key:∀ ms:List Key,(∀ k∈ms,k∈l.map (·.k))→ms.map (pairOf l)=ms.filterMap (lastB Pair.k l):=by
  intro ms
  induction ms with
  | nil=>intro _;rfl
  | cons a ms ih=>
    intro h
    obtain ⟨x,hx⟩:=lastB_mem (key:=Pair.k) (h a (by simp))
    rw[List.map_cons,ih fun k hk=>h k (by simp[hk]),List.filterMap_cons,hx]
    have:pairOf l a=x:=by
     unfold pairOf lastP
     unfold lastB at hx
     rw[hx]
     rfl
    rw[this]
 rw[key ks fun k hk=>(hm k).1 hk,e]
 rfl
theorem pairs_dc {h:DHeap} {v:Value} {l:List Pair} (hb:Arg fPair.rep h v l) (hl:l.length≤1048576):DC Try.prog 49 [v] h (.ret (lv h (byK Pair.k l))) (lh fPair h (byK Pair.k l)):=
 Ct.made ((pairs_c hb hl).mono fun r h1 ⟨w,ks,e,hu,hm,h0,mm⟩=>by
  rw[pairs_byK hu hm]at mm
  refine ⟨w,e,mm,fun hk=>h0 ?_⟩
  rw[← pairs_byK hu hm]at hk
  simpa using hk)
theorem row_pair {K:DHeap} {id i:Nat} {A:List Pair} (r:RowIs fPair K id A) (hi:i<A.length):cellsAt K id (i*3) 3=some (pairV A[i]):=by
 have hm:(i+1)*3≤A.length*3:=Nat.mul_le_mul_right _ hi
 have h1:A.flatMap fPair.enc=(A.take i).flatMap fPair.enc++(fPair.enc A[i]++(A.drop (i+1)).flatMap fPair.enc):=by
  conv=>lhs;rw[← List.take_append_drop i A,List.drop_eq_getElem_cons hi]
  rw[List.flatMap_append,List.flatMap_cons]
 have h2:i*3=((A.take i).flatMap fPair.enc).length:=by rw[flatMap_len];simp[Nat.min_eq_left (Nat.le_of_lt hi)];rfl
 rw[cellsAt_row r (by rw[flatMap_len];show _≤A.length*3;omega),h1,h2,List.drop_left]
 rfl
theorem deleteNone_c {h h0:DHeap} {v:Value} {l:List Pair} {f:FuncId} {cap:Array Value} {pd:Pair→Bool} (hb:Arg fPair.rep h v l) (hl:l.length≤1048576) (hE:Ext h0 h) (ht:Test h0 f cap l pd) (hn:∀ x∈l,pd x=false) :
 Ct Try.prog 48 [v,.func (.func f) #[] cap] h fun r h1=>r=.ret v∧Ext h h1:=by
 refine go_48 (by simp) ?_
 have ht':Test h f cap l pd:=⟨ht.good,fun x hx K e=>ht.says x hx K (hE.trans e)⟩
 simp -implicitDefEqProofs (disch:=first|omega|simp only[go_sem]) only[go_sem,true_and,c48]
 refine ncall_ct (indexFunc_c hb (by omega) ht') ?_
 rintro r h1 ⟨e1,hr⟩
 rcases hr with ⟨rfl,_⟩ | ⟨i,hi,_,hp,_⟩
 ·simp -implicitDefEqProofs (disch:=first|omega|simp only[go_sem]) only[go_sem,true_and,XEnd]
  exact ⟨_,rfl,rfl,e1⟩
 ·rw[hn _ (List.getElem_mem hi)]at hp
  cases hp
structure DelI (l:List Pair) (pd:Pair→Bool) (j k:Nat) (A:List Pair):Prop where
 len:A.length=l.length
 le:j≤l.length
 kk:k=((l.take j).filter fun x=>!pd x).length
 hd:A.take k=(l.take j).filter fun x=>!pd x
 lt:k<j
 tl:∀ p,k<p→j≤p→A[p]? = l[p]?
theorem DelI.first {l:List Pair} {pd:Pair→Bool} {i:Nat} (hi:i<l.length) (hp:pd l[i]=true) (hn:∀ x∈l.take i,pd x=false):DelI l pd (i+1) i l:=by
 have e:(l.take (i+1)).filter (fun x=>!pd x)=l.take i:=by
  rw[List.take_succ_eq_append_getElem hi,List.filter_append,List.filter_cons_of_neg (by simp[hp]),List.filter_nil,List.append_nil]
  exact List.filter_eq_self.2 fun x hx=>by simp[hn x hx]
 refine ⟨rfl,hi,?_,?_,Nat.lt_succ_self _,fun _ _ _=>rfl⟩
 ·rw[e,List.length_take];omega
 ·rw[e]
theorem DelI.at {l A:List Pair} {pd:Pair→Bool} {j k:Nat} (x:DelI l pd j k A) (h:j<l.length):∃ h1:j<A.length,A[j]=l[j]:=by
 have e:=x.len
 refine ⟨by omega,?_⟩
 have h1:=x.tl j x.lt (Nat.le_refl _)
 rw[List.getElem?_eq_getElem (by omega),List.getElem?_eq_getElem h]at h1
 exact Option.some.inj h1
theorem DelI.skip {l A:List Pair} {pd:Pair→Bool} {j k:Nat} (x:DelI l pd j k A) (h:j<l.length) (hp:pd l[j]=true):DelI l pd (j+1) k A:=by
 have e:(l.take (j+1)).filter (fun x=>!pd x)=(l.take j).filter fun x=>!pd x:=by
  rw[List.take_succ_eq_append_getElem h,List.filter_append,List.filter_cons_of_neg (by simp[hp]),List.filter_nil,List.append_nil]
 exact ⟨x.len,h,by rw[e];exact x.kk,by rw[e];exact x.hd,Nat.lt_succ_of_lt x.lt,fun p h1 h2=>x.tl p h1 (by omega)⟩
theorem DelI.keep {l A:List Pair} {pd:Pair→Bool} {j k:Nat} (x:DelI l pd j k A) (h:j<l.length) (hp:pd l[j]=false):DelI l pd (j+1) (k+1) (A.set k l[j]):=by
 have e:(l.take (j+1)).filter (fun x=>!pd x)=((l.take j).filter fun x=>!pd x)++[l[j]]:=by
  rw[List.take_succ_eq_append_getElem h,List.filter_append,List.filter_cons_of_pos (by simp[hp]),List.filter_nil]
 have hlt:=x.lt
 have hlen:=x.len
 refine ⟨by rw[List.length_set];exact x.len,h,by rw[e,List.length_append,← x.kk];rfl,?_,by omega,fun p h1 h2=>?_⟩
 ·rw[e,← x.hd,List.take_set,List.take_succ_eq_append_getElem (by omega),List.set_append_right _ _ (by simp;omega)]
  congr 1
  have:k - (List.take k A).length=0:=by simp;omega
  rw[this]
  rfl
 ·rw[List.getElem?_set_ne (by omega)]
  exact x.tl p (by omega) (by omega)
theorem cl_pair:clElem Try.prog 27=some (3,.agg #[.int .i32 0,.int .i64 0,.int .i64 0]):=by kernel_rfl
set_option maxHeartbeats 1000000 in
theorem deleteFunc_c {h h0:DHeap} {id c:Nat} {l:List Pair} {f:FuncId} {cap:Array Value} {pd:Pair→Bool} (hr:RowIs fPair h id l) (hok:∀ x∈l,fPair.ok x) (hl:l.length≤1048576) (hid:h0.next≤id) (hidl:id<h.next) (hE:Ext h0 h) (ht:Test h0 f cap l pd) :
 Ct Try.prog 48 [.slice (some ⟨id,0,none⟩) l.length c,.func (.func f) #[] cap] h fun r h1=>∃ w,r=.ret w∧Made fPair h0 h1 w (l.filter fun x=>!pd x):=by
 obtain ⟨v,hv⟩:∃ v,Value.slice (some ⟨id,0,none⟩) l.length c=v:=⟨_,rfl⟩
 have hb:Arg fPair.rep h v l:=by
  have:=hr.sl (o:=0) (n:=l.length) (c:=c) (by omega) hok
  simp only[Nat.zero_mul,List.drop_zero,List.take_length]at this
  rw[hv]at this
  exact this.mono fun i hi=>⟨by rw[hi];exact hidl,rfl⟩
 have mk:∀ (K:DHeap) (k c2:Nat) (cs:List Value),Ext h0 K→id<K.next→K.get id=some (.row cs 3 false)→k=(l.filter fun x=>!pd x).length→k*3≤cs.length→cs.take (k*3)=(l.filter fun x=>!pd x).flatMap fPair.enc→Made fPair h0 K (.slice (some ⟨id,0,none⟩) k c2) (l.filter fun x=>!pd x):=fun K k c2 cs e hlt g hk hle ht=>by
  subst hk
  exact ⟨e,some id,.inr (.inr ⟨id,c2,cs,rfl,rfl,hlt,g,hle,Els.flat.2 ⟨ht,fun x hx=>hok x ((List.mem_filter.1 hx).1)⟩⟩),fun i hi=>by cases hi;exact hid⟩
 rw[hv]
 by_cases hn:∀ x∈l,pd x=false
 ·have hf:l.filter (fun x=>!pd x)=l:=List.filter_eq_self.2 fun x hx=>by simp[hn x hx]
  refine (deleteNone_c hb hl hE ht hn).mono fun r h1 ⟨e,e1⟩=>⟨v,e,?_⟩
  have:=mk h1 l.length c (l.flatMap fPair.enc) (hE.trans e1) (Nat.lt_of_lt_of_le hidl e1.next) ((e1.get _ hidl).trans hr) (by rw[hf]) (by rw[flatMap_len];exact Nat.le_refl _) (by rw[hf,List.take_of_length_le (by rw[flatMap_len];exact Nat.le_refl _)])
  rw[hv]at this
  exact this
 refine go_48 (by simp) ?_
 have el:∀ K,dLen Try.prog #[27] v K=some (.int .i64 (l.length:Nat)):=fun K=>by rw[← hv];rfl
 have ht':Test h f cap l pd:=⟨ht.good,fun x hx K e=>ht.says x hx K (hE.trans e)⟩
 have ia:∀ i:Nat,i<l.length→dIndexAddr Try.prog 27 v (.int .i64 (i:Nat))=some (.pointer (some ⟨id,i*3,none⟩)):=fun i hi=>by
  rw[← hv]
  refine (dIndexAddr_at el_27 (by omega) (by omega)).trans ?_
  rw[Nat.zero_add,Int.toNat_natCast]
 have slo:∀ K (A:List Pair) (k:Nat),RowIs fPair K id A→k≤l.length→∃ c',dSlice Try.prog 27 v (some (.int .i64 (k:Nat))) none none K=some (.slice (some ⟨id,k*3,none⟩) (l.length - k) c'):=fun K A k r hk=>by
  rw[← hv]
  have:=dSlice_row (c:=c) (o:=0) (n:=l.length) el_27 (by decide) r (lo:=some (.int .i64 (k:Nat))) (hi:=none) (j:=l.length) (i:=k) rfl (bound_nat (k:=.i64) hk)
  rw[Nat.zero_add]at this
  exact ⟨_,this⟩
 have shi:∀ K cs (k:Nat),K.get id=some (.row cs 3 false)→k≤l.length→∃ c',dSlice Try.prog 27 v none (some (.int .i64 (k:Nat))) none K=some (.slice (some ⟨id,0,none⟩) k c'):=fun K cs k r hk=>by
  rw[← hv]
  exact ⟨_,(dSlice_row el_27 (by decide) r (j:=k) (i:=0) (bound_nat (k:=.i64) hk) rfl)⟩
 simp -implicitDefEqProofs (disch:=first|omega|simp only[go_sem]) only[go_sem,true_and,c48]
 refine ncall_ct (indexFunc_c hb (by omega) ht') ?_
 rintro r h1 ⟨e1,hr1⟩
 rcases hr1 with ⟨_,hn1⟩ | ⟨i0,hi0,rfl,hp0,hn0⟩
 ·exact absurd hn1 hn
 have hne:(((i0:Nat):Int)=-1)=False:=eq_false (by omega)
 have hw0:=wrap_succ hi0 (by omega)
 simp -implicitDefEqProofs (disch:=first|omega|simp only[go_sem]) only[go_sem,true_and,XEnd,hne,hw0]
 have hr1:RowIs fPair h1 id l:=(e1.get _ hidl).trans hr
 refine xloop (σ:=Nat) (by kernel_rfl) (fun j s=>s.df=[]∧s.rd=none∧s.fr 0=some v∧s.fr 1=some (.func (.func f) #[] cap)∧s.fr 6=some (.int .i64 (j:Nat))∧Ext h0 s.h∧id<s.h.next∧∃ k A,s.fr 5=some (.int .i64 (k:Nat))∧RowIs fPair s.h id A∧DelI l pd j k A) (fun j=>l.length - j) (i0+1) ?_ ?_
 ·simp -implicitDefEqProofs (disch:=first|omega|simp only[go_sem]) only[go_sem,true_and]
  exact ⟨hE.trans e1,Nat.lt_of_lt_of_le hidl e1.next,i0,l,rfl,hr1,.first hi0 hp0 hn0⟩
 rintro j ⟨fr,df,K,rd⟩ K' hK' hX ⟨rfl,rfl,f0,f1,f6,hEK,hKl,k,A,f5,hrA,x⟩
 simp only at f0 f1 f6 hEK hKl f5 hrA
 have xlt:=x.lt
 have xlen:=x.len
 have xle:=x.le
 simp -implicitDefEqProofs (disch:=first|omega|simp only[go_sem]) only[go_sem,true_and,f0,f6,el]
 refine XIf_dec (fun hc1=>?_) (fun hc1=>?_)
 ·have hj:j<l.length:=by omega
  obtain ⟨hA1,eA1⟩:=x.at hj
  have k1:=row_pair hrA hA1
  rw[eA1]at k1
  have hw:=wrap_succ hj (by omega)
  obtain ⟨K1,hK1⟩:∃ H,H=K.push (.row [.int .i32 l[j].k.t,.int .i64 l[j].k.r,.int .i64 l[j].v] 0 false):=⟨_,rfl⟩
  have g1:K1.get K.next=some (.row [.int .i32 l[j].k.t,.int .i64 l[j].k.r,.int .i64 l[j].v] 0 false):=by rw[hK1];exact get_push_same _ _
  have lk:cellsAt K1 K.next 0 3=some (pairV l[j]):=by rw[cellsAt_row g1 (Nat.le_of_ble_eq_true rfl)];rfl
  have hE1:Ext K K1:=by rw[hK1];exact Ext.push1 _ _
  have hK1n:K1.next=K.next+1:=by rw[hK1];rfl
  have hst:dStore Try.prog 46 (.pointer (some ⟨K.next,0,none⟩)) (.agg #[.int .i32 l[j].k.t,.int .i64 l[j].k.r,.int .i64 l[j].v]) (K.push (.row [.int .i32 0,.int .i64 0,.int .i64 0] 0 false))=some K1:=by
   rw[hK1]
   exact (st_46 rfl).trans (storeAll_push rfl rfl)
  have hca:dCallO Try.prog K1 (some (.func (.func f) #[] cap)) (some [pairV l[j]])=.ok (.enter f (pairV l[j] :: cap.toList)) K1:=dCallO_func ht.good _ _ _
  have hr2:RowIs fPair K1 id A:=(hE1.get _ hKl).trans hrA
  simp -implicitDefEqProofs (disch:=first|omega|simp only[go_sem]) only[go_sem,true_and,f0,f1,f6,ia j hj,k1,hst,lk,hca]
  refine ncall (ht.says _ (List.getElem_mem hj) K1 (hEK.trans hE1)) ?_
  cases hq:pd l[j] with
  | true=>
    simp -implicitDefEqProofs (disch:=first|omega|simp only[go_sem]) only[go_sem,true_and,f6,hw]
    refine hK' (j+1) _ ?_ (by omega)
    exact ⟨by trivial,by trivial,(vy f0),(vy f1),vz,hEK.trans hE1,show id<K1.next by omega,k,A,(vy f5),hr2,x.skip hj hq⟩
  | false=>
    have hw3:=wrap_succ (i:=k) (show k<l.length by omega) (by omega)
    have hst2:storeAt K1 id (k*3) [.int .i32 l[j].k.t,.int .i64 l[j].k.r,.int .i64 l[j].v]=some (K1.set id (.row ((A.set k l[j]).flatMap fPair.enc) 3 false)):=hr2.store (show k<A.length by omega) l[j]
    simp -implicitDefEqProofs (disch:=first|omega|simp only[go_sem]) only[go_sem,true_and,f0,f5,f6,lk,ia k (show k<l.length by omega),hst2,hw,hw3]
    refine hK' (j+1) _ ?_ (by omega)
    exact ⟨by trivial,by trivial,(vy f0),(vy f1),vz,(hEK.trans hE1).set hid,show id<K1.next by omega,k+1,A.set k l[j],vz,RowIs.set rfl,x.keep hj hq⟩
 ·have hjl:j=l.length:=by omega
  have xk:=x.kk
  have xhd:=x.hd
  rw[hjl,List.take_length]at xk xhd
  obtain ⟨c3,hs3⟩:=slo _ A k hrA (by omega)
  obtain ⟨zs,hzs,hcl⟩:=dClear_row (esz:=3) (n:=l.length - k) (c:=c3) (o:=k*3) cl_pair rfl hrA (by rw[flatMap_len];show _≤A.length*3;omega)
  obtain ⟨c4,hs4⟩:=shi (K.set id (.row (setAt (A.flatMap fPair.enc) (k*3) zs) 3 false)) _ k (get_set_same _ _) (by omega)
  refine hX _ _ (by simp) ?_
  simp -implicitDefEqProofs (disch:=first|omega|simp only[go_sem]) only[go_sem,true_and,f0,f5,hs3,hcl,hs4]
  refine ⟨_,rfl,_,rfl,mk _ k c4 _ (hEK.set hid) hKl (get_set_same _ _) xk ?_ ?_⟩
  ·rw[setAt_length,flatMap_len];show k*3≤A.length*3;omega
  ·have hAk:A.flatMap fPair.enc=(A.take k).flatMap fPair.enc++(A.drop k).flatMap fPair.enc:=by rw[← List.flatMap_append,List.take_append_drop]
   have hlk:k*3=((A.take k).flatMap fPair.enc).length:=by rw[flatMap_len];simp[Nat.min_eq_left (show k≤A.length by omega)];rfl
   rw[← xhd]
   refine List.ext_getElem? fun i=>?_
   rw[List.getElem?_take]
   split
   ·rename_i hi
    rw[setAt_get,if_neg (by omega),hAk,List.getElem?_append_left (by omega)]
   ·rw[List.getElem?_eq_none (by omega)]
end Go.Proofs.Ythjmkmoiopmfcaa

namespace Go.Proofs.Ythjmkmoiopmfcaa
open Go.D
set_option maxRecDepth 100000
def PinV (L:List Value) (K0:DHeap) (a b:List Pair) (k:Nat) (h:DHeap) (v:Value):Prop:=
 ((k≠4∧k≠9∧k≠10∧k≠11)→v=L.getD k undef)∧(k=4→Made fPair K0 h v a)∧(k=9→Arg fPair.rep h v b)∧(k=10∨k=11→Made fPair K0 h v (a++b))
theorem PinV.stab {L:List Value} {K0 h h':DHeap} {a b:List Pair} {k:Nat} {v:Value} (e:Ext h h') (x:PinV L K0 a b k h v):PinV L K0 a b k h' v:=
 ⟨x.1,fun hk=>(x.2.1 hk).on e,fun hk=>(x.2.2.1 hk).ext e,fun hk=>(x.2.2.2 hk).on e⟩
def pinCons:Nat→Option Nat
 | 4=>some 10
 | 9=>some 10
 | _=>none
theorem pins_stab {L:List Value} {K0 h h':DHeap} {a b:List Pair} {B:List Nat} {k:Nat} {v:Value} (b1:(B.getD 11 0).testBit 10=true) (h1:k≠10) (h2:(B.getD k 0).testBit 10=false) (h3:∀ c,pinCons k=some c→c≠10∧(B.getD 10 0).testBit c=false) (x:PinV L K0 a b k h v):PinV L K0 a b k h' v:=by
 have n4:k≠4:=fun e=>by subst e;exact (h3 10 rfl).1 rfl
 have n9:k≠9:=fun e=>by subst e;exact (h3 10 rfl).1 rfl
 have n11:¬ (k=10∨k=11):=fun e=>by
  rcases e with rfl | rfl
  ·exact h1 rfl
  ·rw[b1]at h2;cases h2
 exact ⟨x.1,fun e=>absurd e n4,fun e=>absurd e n9,fun e=>absurd e n11⟩
theorem pair_key {S:Nat→Prop} {h:DHeap} {id o:Nat} {x:Pair} (a:At fPair.rep S h id o x):cellsAt h id o 2=some (keyV x.k):=by
 obtain ⟨cells,esz,ro,g,b,e,_⟩:=a
 have hb:o+3≤cells.length:=b
 rw[cellsAt_row g (by omega)]
 have e':(cells.drop o).take 3=[.int .i32 x.k.t,.int .i64 x.k.r,.int .i64 x.v]:=e
 have:(cells.drop o).take 2=[.int .i32 x.k.t,.int .i64 x.k.r]:=by
  have:=congrArg (List.take 2) e'
  rwa [List.take_take]at this
 rw[this]
set_option maxHeartbeats 1000000 in
theorem pins_region {K0:DHeap} {v rv:Value} {l r:List Pair} {i j:Nat} {fr:Fr} {rd:Option Nat} (hv:Arg fPair.rep K0 v l) (hr:Arg fPair.rep K0 rv r) (hi:i<l.length) (hj:j≤r.length) (hlr:r.length≤4000000000)
 (f0:fr 0=some v) (f3:fr 3=some rv) (f4:fr 4=some (.int .i64 (i:Nat))) (f5:fr 5=some (.int .i64 (j:Nat))) (f6:fr 6=some (.slice none 0 0)) :
 NC Try.prog 69 r55_1 (DThen (fun s=>s.df=[]∧s.rd=rd∧(∃ w,s.fr 6=some w∧Made fPair K0 s.h w (r.take j++[l[i]]))∧s.fr 0=fr 0∧s.fr 3=fr 3∧s.fr 4=fr 4∧s.fr 5=fr 5) (fun _ _=>False)) ⟨fr,[],K0,rd⟩:=by
 obtain ⟨u3,a1,a2⟩:=hr.slice (P:=Try.prog) (t:=27) el_27 (by decide) (lo:=none) (hi:=some (.int .i64 (j:Nat))) (i:=0) (j:=j) (bound_nat (k:=.i64) hj) rfl (Nat.zero_le _) hj
 rw[List.drop_zero]at a2
 have sl3:∀ K,Ext K0 K→dSlice Try.prog 27 rv none (some (.int .i64 (j:Nat))) none K=some u3:=fun K e=>(dSlice_ext hr e).trans a1
 have sl3':∀ K,Ext K0 K→Arg fPair.rep K u3 (r.take j):=fun K e=>a2.ext e
 obtain ⟨id,o,hia,hid,hat⟩:=hv.idx (P:=Try.prog) (t:=27) el_27 (k:=.i64) (i:=i) (x:=l[i]) (by simp)
 have hc0:cellsAt K0 id o 3=some (pairV l[i]):=hat.flat.2.1
 have hcl:∀ K,Ext K0 K→cellsAt K id o 3=some (pairV l[i]):=fun K e=>by
  have:=e.get id hid
  unfold cellsAt at hc0 ⊢
  rw[this]
  exact hc0
 have V0:∀ (k:Nat),(k≠4∧k≠9∧k≠10∧k≠11)→∀ h,PinV [.slice none 0 0,rv,.int .i64 (j:Nat),u3,undef,v,.int .i64 (i:Nat),.pointer (some ⟨id,o,none⟩),pairV l[i],undef,undef,undef] K0 (r.take j) [l[i]] k h (([.slice none 0 0,rv,.int .i64 (j:Nat),u3,undef,v,.int .i64 (i:Nat),.pointer (some ⟨id,o,none⟩),pairV l[i],undef,undef,undef]:List Value).getD k undef):=fun k hk h=>
  ⟨fun _=>rfl,fun e=>absurd e hk.1,fun e=>absurd e hk.2.1,fun e=>by rcases e with e | e;exact absurd e hk.2.2.1;exact absurd e hk.2.2.2⟩
 refine NC.regsC (l:=l55_1) (by kernel_rfl) (by kernel_rfl) (by kernel_rfl) rfl (by kernel_rfl) (by kernel_rfl) (fun a b=>Ext K0 a→Ext K0 b) (fun _ h=>h) (fun _ _ _ f g h=>g (f h)) (PinV [.slice none 0 0,rv,.int .i64 (j:Nat),u3,undef,v,.int .i64 (i:Nat),.pointer (some ⟨id,o,none⟩),pairV l[i],undef,undef,undef] K0 (r.take j) [l[i]]) pinCons ?_ ?_
 case refine_2=>
  rintro ⟨fr1,df1,K,rd1⟩ g hF
  obtain ⟨w,e1,e2⟩:=(hF 11 (by decide) rfl).ex (d:=6) rfl
  exact ⟨g.df,g.rd,⟨w,e1,e2.2.2.2 (.inr rfl)⟩,g.fr 0 (by kernel_rfl),g.fr 3 (by kernel_rfl),g.fr 4 (by kernel_rfl),g.fr 5 (by kernel_rfl)⟩
 intro k oo s ho g hpre hown hF
 have gx:Ext K0 s.h:=g.ext (.refl _)
 have F0:s.fr 0=some v:=(g.fr 0 (by kernel_rfl)).trans f0
 have F3:s.fr 3=some rv:=(g.fr 3 (by kernel_rfl)).trans f3
 have F4:s.fr 4=some (.int .i64 (i:Nat)):=(g.fr 4 (by kernel_rfl)).trans f4
 have F5:s.fr 5=some (.int .i64 (j:Nat)):=(g.fr 5 (by kernel_rfl)).trans f5
 have hk':k<12:=(List.getElem?_eq_some_iff.1 ho).1
 match k,hk' with
 | 0,_=>
   simp only[l55_1,List.getElem?_cons_zero,List.getElem?_cons_succ,Option.some.injEq]at ho
   subst ho
   have F6:s.fr 6=some (.slice none 0 0):=(hpre 11 6 (by kernel_rfl) (by kernel_rfl)).trans f6
   exact regc_pure (v:=.slice none 0 0) (fun _ e=>e) vz (vy F6) (V0 0 (by decide) _)
 | 1,_=>
   simp only[l55_1,List.getElem?_cons_zero,List.getElem?_cons_succ,Option.some.injEq]at ho
   subst ho
   exact regc_pure (v:=rv) (fun _ e=>e) vz (vy F3) (V0 1 (by decide) _)
 | 2,_=>
   simp only[l55_1,List.getElem?_cons_zero,List.getElem?_cons_succ,Option.some.injEq]at ho
   subst ho
   exact regc_pure (v:=.int .i64 (j:Nat)) (fun _ e=>e) vz (vy F5) (V0 2 (by decide) _)
 | 3,_=>
   simp only[l55_1,List.getElem?_cons_zero,List.getElem?_cons_succ,Option.some.injEq]at ho
   subst ho
   have q1:s.fr 34=some (rv):=(hF 1 (by kernel_rfl) (.inl rfl)).eq rfl fun _ _ e=>e.1 (by decide)
   have q2:s.fr 35=some (.int .i64 (j:Nat)):=(hF 2 (by kernel_rfl) (.inl rfl)).eq rfl fun _ _ e=>e.1 (by decide)
   exact regc_pure (v:=u3) (fun _ e=>e) vz (by simp -implicitDefEqProofs (disch:=first|omega|simp only[go_sem]) only[go_sem,true_and,q1,q2,sl3 s.h gx]) (V0 3 (by decide) _)
 | 4,_=>
   simp only[l55_1,List.getElem?_cons_zero,List.getElem?_cons_succ,Option.some.injEq]at ho
   subst ho
   have q0:s.fr 33=some (.slice none 0 0):=(hF 0 (by kernel_rfl) (.inl rfl)).eq rfl fun _ _ e=>e.1 (by decide)
   have q3:s.fr 36=some (u3):=(hF 3 (by kernel_rfl) (.inl rfl)).eq rfl fun _ _ e=>e.1 (by decide)
   obtain ⟨w,h2,e2,m2,_⟩:=(Made.nil fPair (Ext.refl s.h)).append app_27 (x:=u3) ((sl3' s.h gx)) (by simp;omega) (by decide)
   refine regc_val (h':=h2) (v:=w) vz (by simp -implicitDefEqProofs (disch:=first|omega|simp only[go_sem]) only[go_sem,true_and,q0,q3,e2]) (fun e=>e.trans m2.ext) ⟨fun h=>absurd rfl h.1,fun _=>by simpa using m2.base gx,fun h=>absurd h (by decide),fun h=>absurd h (by decide)⟩ (fun j u _ _ _ hV=>hV.stab m2.ext)
 | 5,_=>
   simp only[l55_1,List.getElem?_cons_zero,List.getElem?_cons_succ,Option.some.injEq]at ho
   subst ho
   exact regc_pure (v:=v) (fun _ e=>e) vz (vy F0) (V0 5 (by decide) _)
 | 6,_=>
   simp only[l55_1,List.getElem?_cons_zero,List.getElem?_cons_succ,Option.some.injEq]at ho
   subst ho
   exact regc_pure (v:=.int .i64 (i:Nat)) (fun _ e=>e) vz (vy F4) (V0 6 (by decide) _)
 | 7,_=>
   simp only[l55_1,List.getElem?_cons_zero,List.getElem?_cons_succ,Option.some.injEq]at ho
   subst ho
   have q5:s.fr 38=some (v):=(hF 5 (by kernel_rfl) (.inl rfl)).eq rfl fun _ _ e=>e.1 (by decide)
   have q6:s.fr 39=some (.int .i64 (i:Nat)):=(hF 6 (by kernel_rfl) (.inl rfl)).eq rfl fun _ _ e=>e.1 (by decide)
   exact regc_pure (v:=.pointer (some ⟨id,o,none⟩)) (fun _ e=>e) vz (by simp -implicitDefEqProofs (disch:=first|omega|simp only[go_sem]) only[go_sem,true_and,q5,q6,hia]) (V0 7 (by decide) _)
 | 8,_=>
   simp only[l55_1,List.getElem?_cons_zero,List.getElem?_cons_succ,Option.some.injEq]at ho
   subst ho
   have q7:s.fr 40=some (.pointer (some ⟨id,o,none⟩)):=(hF 7 (by kernel_rfl) (.inl rfl)).eq rfl fun _ _ e=>e.1 (by decide)
   have hc:=hcl s.h gx
   exact regc_pure (v:=pairV l[i]) (fun _ e=>e) vz (by simp -implicitDefEqProofs (disch:=first|omega|simp only[go_sem]) only[go_sem,true_and,q7,hc]) (V0 8 (by decide) _)
 | 9,_=>
   simp only[l55_1,List.getElem?_cons_zero,List.getElem?_cons_succ,Option.some.injEq]at ho
   subst ho
   have q8:s.fr 41=some (pairV l[i]):=(hF 8 (by kernel_rfl) (.inl rfl)).eq rfl fun _ _ e=>e.1 (by decide)
   have m2:=built fPair s.h (cs:=[.int .i32 l[i].k.t,.int .i64 l[i].k.r,.int .i64 l[i].v]) (zz:=3) (l:=[l[i]]) (n:=1) (m:=1) (by simp;rfl) rfl rfl (by simpa using hv.ok _ (List.getElem_mem hi))
   refine regc_val (h':=s.h.push (.row [.int .i32 l[i].k.t,.int .i64 l[i].k.r,.int .i64 l[i].v] 3 false)) (v:=.slice (some ⟨s.h.next,0,none⟩) 1 1) vz (vy q8) (fun e=>e.push _) ⟨fun h=>absurd rfl h.2.1,fun h=>absurd h (by decide),fun _=>m2,fun h=>absurd h (by decide)⟩ (fun j u _ _ _ hV=>hV.stab (Ext.push1 _ _))
 | 10,_=>
   simp only[l55_1,List.getElem?_cons_zero,List.getElem?_cons_succ,Option.some.injEq]at ho
   subst ho
   obtain ⟨w4,q4,v4⟩:=(hF 4 (by kernel_rfl) (.inr rfl)).ex (d:=37) rfl
   obtain ⟨w9,q9,v9⟩:=(hF 9 (by kernel_rfl) (.inr rfl)).ex (d:=42) rfl
   obtain ⟨w,h2,e2,m2,_⟩:=(v4.2.1 rfl).append app_27 (v9.2.2.1 rfl) (by simp;omega) (by decide)
   refine regc_val (h':=h2) (v:=w) vz (by simp -implicitDefEqProofs (disch:=first|omega|simp only[go_sem]) only[go_sem,true_and,q4,q9,e2]) (fun _=>m2.ext) ⟨fun h=>absurd rfl h.2.2.1,fun h=>absurd h (by decide),fun h=>absurd h (by decide),fun _=>m2⟩ (fun j u h1 h2 h3 hV=>pins_stab (by kernel_rfl) h1 h2 h3 hV)
 | 11,_=>
   simp only[l55_1,List.getElem?_cons_zero,List.getElem?_cons_succ,Option.some.injEq]at ho
   subst ho
   obtain ⟨w10,q10,v10⟩:=(hF 10 (by kernel_rfl) (.inl rfl)).ex (d:=43) rfl
   exact regc_pure (v:=w10) (fun _ e=>e) vz (vy q10) ⟨fun h=>absurd rfl h.2.2.2,fun h=>absurd h (by decide),fun h=>absurd h (by decide),fun _=>v10.2.2.2 (.inl rfl)⟩
set_option maxHeartbeats 1000000 in
theorem refPairs_c {h:DHeap} {v:Value} {l:List Pair} (hb:Arg fPair.rep h v l) (hl:l.length≤4194304) :
 Ct Try.prog 55 [v] h fun r h1=>∃ w,r=.ret w∧Made fPair h h1 w (byK Pair.k l):=by
 refine go_55 (by simp) ?_
 have el:∀ K,dLen Try.prog #[27] v K=some (.int .i64 (l.length:Nat)):=hb.lens (P:=Try.prog) (ts:=#[27]) (t:=27) rfl isl_27
 simp -implicitDefEqProofs (disch:=first|omega|simp only[go_sem]) only[go_sem,true_and,c55]
 refine xloop (σ:=Nat) (by kernel_rfl) (fun i s=>s.df=[]∧s.rd=none∧s.fr 0=some v∧s.fr 4=some (.int .i64 (i:Nat))∧i≤l.length∧∃ rv,s.fr 3=some rv∧Made fPair h s.h rv (byK Pair.k (l.take i))) (fun i=>l.length - i) 0 ?_ ?_
 ·simp -implicitDefEqProofs (disch:=first|omega|simp only[go_sem]) only[go_sem,true_and]
  exact ⟨by trivial,Nat.zero_le _,_,rfl,.nil fPair (.refl h)⟩
 rintro i ⟨fr,df,K,rd⟩ K' hK' hX ⟨rfl,rfl,f0,f4,hi,rv,f3,m⟩
 simp only at f0 f4 f3 m
 simp -implicitDefEqProofs (disch:=first|omega|simp only[go_sem]) only[go_sem,true_and,f0,f4,el]
 refine XIf_dec (fun hc1=>?_) (fun hc1=>?_)
 ·have hj0:i<l.length:=by omega
  have hbK:Arg fPair.rep K v l:=hb.ext m.ext
  have hr:=m.arg
  have hrl:=byK_len (key:=Pair.k) (l.take i)
  have htl:(l.take i).length≤l.length:=by simp;omega
  have hnext:=byK_take (key:=Pair.k) hj0
  have hw1:=wrap_succ hj0 (by omega)
  obtain ⟨rl,hrr⟩:∃ rl,byK Pair.k (l.take i)=rl:=⟨_,rfl⟩
  rw[hrr]at hr hrl hnext
  have er:∀ K,dLen Try.prog #[27] rv K=some (.int .i64 (rl.length:Nat)):=hr.lens (P:=Try.prog) (ts:=#[27]) (t:=27) rfl isl_27
  obtain ⟨id1,o1,g1,hid1,hat1⟩:=hbK.idx (P:=Try.prog) (t:=27) el_27 (k:=.i64) (i:=i) (x:=l[i]) (by simp)
  have a1:cellsAt K id1 o1 2=some (keyV l[i].k):=pair_key hat1
  obtain ⟨x,hx⟩:∃ x,l[i]=x:=⟨_,rfl⟩
  rw[hx]at a1 hnext
  simp -implicitDefEqProofs (disch:=first|omega|simp only[go_sem]) only[go_sem,true_and]
  refine XLoop_cut (fun s=>s.df=[]∧s.rd=none∧s.h=K∧s.fr 0=some v∧s.fr 4=some (.int .i64 (i:Nat))∧s.fr 3=some rv∧∃ j,s.fr 5=some (.int .i64 (j:Nat))∧j≤rl.length∧insB Pair.k x rl=rl.take j++insB Pair.k x (rl.drop j)∧∀ hj:j<rl.length,¬ keyLt rl[j].k x.k=true) ?_ ?_
  ·refine xloop (σ:=Nat) (by kernel_rfl) (fun j s=>s.df=[]∧s.rd=none∧s.h=K∧s.fr 0=some v∧s.fr 4=some (.int .i64 (i:Nat))∧s.fr 3=some rv∧s.fr 5=some (.int .i64 (j:Nat))∧j≤rl.length∧insB Pair.k x rl=rl.take j++insB Pair.k x (rl.drop j)) (fun j=>rl.length - j) 0 ?_ ?_
   ·simp -implicitDefEqProofs (disch:=first|omega|simp only[go_sem]) only[go_sem,true_and,f0,f3,f4]
    exact ⟨by trivial,Nat.zero_le _,by simp⟩
   ·rintro j ⟨fr,df,K2,rd⟩ K2' hK2 hX2 ⟨rfl,rfl,rfl,f0,f4,f3,f5,hj,hin⟩
    simp only at f0 f4 f3 f5
    simp -implicitDefEqProofs (disch:=first|omega|simp only[go_sem]) only[go_sem,true_and]
    refine yr_55_0 rfl ?_
    by_cases hjl:j<rl.length
    ·obtain ⟨id2,o2,g2,hid2,hat2⟩:=hr.idx (P:=Try.prog) (t:=27) el_27 (k:=.i64) (i:=j) (x:=rl[j]) (by simp)
     have a2:cellsAt K2 id2 o2 2=some (keyV rl[j].k):=pair_key hat2
     have hjl2:=eq_true (show ((j:Nat):Int)<(rl.length:Nat) by omega)
     simp -implicitDefEqProofs (disch:=first|omega|simp only[go_sem]) only[go_sem,true_and,g55_0,q55_0,l55_0,f0,f3,f4,f5,er,hjl2,g1,a1,g2,a2,dPick_t,dPick_f]
     refine ycall refCompare_c ?_
     have hw2:=wrap_succ hjl (by omega)
     by_cases hlt:keyLt rl[j].k x.k=true
     ·have hneg':=eq_true (cmpR_neg.2 hlt)
      simp -implicitDefEqProofs (disch:=first|omega|simp only[go_sem]) only[go_sem,true_and,hneg',dPick_t,dPick_f,f5,hw2]
      refine hK2 (j+1) _ ?_ (by omega)
      exact ⟨by trivial,by trivial,by trivial,(vy f0),(vy f4),(vy f3),vz,by omega,insB_cut hjl hin hlt⟩
     ·have hneg:¬ cmpR rl[j].k x.k<0:=fun hh=>hlt (cmpR_neg.1 hh)
      simp -implicitDefEqProofs (disch:=first|omega|simp only[go_sem]) only[go_sem,true_and,hneg,dPick_t,dPick_f]
      refine hX2 _ _ (by simp) ?_
      exact ⟨by trivial,by trivial,by trivial,(vy f0),(vy f4),(vy f3),j,(vy f5),hj,hin,fun _=>hlt⟩
    ·have hjl':¬ ((j:Nat):Int)<(rl.length:Nat):=by omega
     simp -implicitDefEqProofs (disch:=first|omega|simp only[go_sem]) only[go_sem,true_and,g55_0,q55_0,l55_0,f0,f3,f4,f5,er,hjl',dPick_t,dPick_f]
     refine hX2 _ _ (by simp) ?_
     exact ⟨by trivial,by trivial,by trivial,(vy f0),(vy f4),(vy f3),j,(vy f5),hj,hin,fun h=>absurd h hjl⟩
  rintro ⟨fr,df,K2,rd⟩ ⟨hdf,hrd,hK2,f0,f4,f3,j,f5,hj,hin,hnl⟩
  simp only at hdf hrd hK2 f0 f4 f3 f5
  subst hdf hrd hK2
  simp -implicitDefEqProofs (disch:=first|omega|simp only[go_sem]) only[go_sem,true_and]
  refine NC.mono (pins_region hbK hr hj0 hj (by omega) (vy f0) (vy f3) (vy f4) (vy f5) vz) ?_
  rintro e ⟨fr1,df1,K3,rd1⟩ hM
  cases e <;> try exact hM.elim
  obtain ⟨rfl,rfl,⟨w,q6,mw⟩,q0,q3,q4,q5⟩:=hM
  simp only at q6 mw
  have Q0:fr1 0=some v:=q0.trans (vy f0)
  have Q3:fr1 3=some rv:=q3.trans (vy f3)
  have Q4:fr1 4=some (.int .i64 (i:Nat)):=q4.trans (vy f4)
  have Q5:fr1 5=some (.int .i64 (j:Nat)):=q5.trans (vy f5)
  rw[hx]at mw
  have hr3:Arg fPair.rep K3 rv rl:=hr.ext mw.ext
  have hb3:Arg fPair.rep K3 v l:=hbK.ext mw.ext
  have fin:∀ (n:Nat),n≤rl.length→insB Pair.k x rl=rl.take j++[x]++rl.drop n →
   ∃ u wh K4,dSlice Try.prog 27 rv (some (.int .i64 (n:Nat))) none none K3=some u∧dAppend Try.prog #[27,27] w u K3=some (wh,K4)∧Made fPair h K4 wh (byK Pair.k (l.take (i+1))):=fun n hn he=>by
   obtain ⟨u,b1,b2⟩:=hr3.slice (P:=Try.prog) (t:=27) el_27 (by decide) (lo:=some (.int .i64 (n:Nat))) (hi:=none) (i:=n) (j:=rl.length) rfl (bound_nat (k:=.i64) hn) hn (Nat.le_refl _)
   rw[List.take_length]at b2
   obtain ⟨wh,K4,e4,m4,_⟩:=mw.append app_27 b2 (by simp;omega) (by decide)
   exact ⟨u,wh,K4,b1,e4,by rw[hnext,he];exact m4.base m.ext⟩
  simp -implicitDefEqProofs (disch:=first|omega|simp only[go_sem]) only[go_sem,true_and]
  refine yr_55_2 rfl ?_
  by_cases hjl:j<rl.length
  ·obtain ⟨id2,o2,g2,hid2,hat2⟩:=hr3.idx (P:=Try.prog) (t:=27) el_27 (k:=.i64) (i:=j) (x:=rl[j]) (by simp)
   have a2:cellsAt K3 id2 o2 2=some (keyV rl[j].k):=pair_key hat2
   obtain ⟨id1,o1,g1,hid1,hat1⟩:=hb3.idx (P:=Try.prog) (t:=27) el_27 (k:=.i64) (i:=i) (x:=l[i]) (by simp)
   have a1:cellsAt K3 id1 o1 2=some (keyV l[i].k):=pair_key hat1
   rw[hx]at a1
   have hjl2:=eq_true (show ((j:Nat):Int)<(rl.length:Nat) by omega)
   have hend:=insB_end hjl hin (hnl hjl)
   by_cases heq:rl[j].k=x.k
   ·have heqd:decide (rl[j].k=x.k)=true:=decide_eq_true heq
    rw[if_pos heq]at hend
    have hw2:=wrap_succ hjl (by omega)
    obtain ⟨u,wh,K4,s1,s2,s3⟩:=fin (j+1) (by omega) hend
    simp -implicitDefEqProofs (disch:=first|omega|simp only[go_sem]) only[go_sem,true_and,g55_2,q55_2,l55_2,Q0,Q3,Q4,Q5,q6,er,hjl2,g1,a1,g2,a2,dPick_t,dPick_f,bin_key',heqd,hw2,s1,s2,hw1]
    refine hK' (i+1) _ ?_ (by omega)
    exact ⟨by trivial,by trivial,by simp -implicitDefEqProofs (disch:=first|omega|simp only[go_sem]) only[go_sem,true_and,Q0],vz,by omega,wh,vz,s3⟩
   ·have heqd:decide (rl[j].k=x.k)=false:=decide_eq_false heq
    rw[if_neg heq]at hend
    obtain ⟨u,wh,K4,s1,s2,s3⟩:=fin j hj hend
    simp -implicitDefEqProofs (disch:=first|omega|simp only[go_sem]) only[go_sem,true_and,g55_2,q55_2,l55_2,Q0,Q3,Q4,Q5,q6,er,hjl2,g1,a1,g2,a2,dPick_t,dPick_f,bin_key',heqd,s1,s2,hw1]
    refine hK' (i+1) _ ?_ (by omega)
    exact ⟨by trivial,by trivial,by simp -implicitDefEqProofs (disch:=first|omega|simp only[go_sem]) only[go_sem,true_and,Q0],vz,by omega,wh,vz,s3⟩
  ·have hjl':¬ ((j:Nat):Int)<(rl.length:Nat):=by omega
   have hje:j=rl.length:=by omega
   have hend:insB Pair.k x rl=rl.take j++[x]++rl.drop j:=by
    subst hje
    rw[insB_full hin,List.take_length,List.drop_length,List.append_nil]
   obtain ⟨u,wh,K4,s1,s2,s3⟩:=fin j hj hend
   simp -implicitDefEqProofs (disch:=first|omega|simp only[go_sem]) only[go_sem,true_and,g55_2,q55_2,l55_2,Q0,Q3,Q4,Q5,q6,er,hjl',dPick_t,dPick_f,s1,s2,hw1]
   refine hK' (i+1) _ ?_ (by omega)
   exact ⟨by trivial,by trivial,by simp -implicitDefEqProofs (disch:=first|omega|simp only[go_sem]) only[go_sem,true_and,Q0],vz,by omega,wh,vz,s3⟩
 ·obtain rfl:i=l.length:=by omega
  rw[List.take_length]at m
  simp -implicitDefEqProofs (disch:=first|omega|simp only[go_sem]) only[go_sem,true_and]
  refine hX _ _ (by simp) ?_
  simp -implicitDefEqProofs (disch:=first|omega|simp only[go_sem]) only[go_sem,true_and,f3]
  exact ⟨_,rfl,_,rfl,m⟩
end Go.Proofs.Ythjmkmoiopmfcaa

namespace Go.Proofs.Ythjmkmoiopmfcaa
open Go.D
set_option maxRecDepth 100000
theorem delete_lh {h0 H:DHeap} {l:List Pair} {f:FuncId} {cap:Array Value} {pd:Pair→Bool} (hok:∀ x∈l,fPair.ok x) (hl:l.length≤1048576) (hE:Ext h0 H) (ht:Test H f cap l pd) :
 Ct Try.prog 48 [lv H l,.func (.func f) #[] cap] (lh fPair H l) fun r h1=>∃ w,r=.ret w∧Made fPair h0 h1 w (l.filter fun x=>!pd x):=by
 by_cases h0':l=[]
 ·subst h0'
  refine (deleteNone_c (h0:=H) (pd:=pd) (lh_made fPair H hok).arg (by simp) (lh_ext _ _ _) ht (fun x hx=>by cases hx)).mono fun r h1 ⟨e,e1⟩=>⟨_,e,?_⟩
  exact (Made.nil fPair ((hE.trans (lh_ext _ _ _)).trans e1))
 ·have hne:l.isEmpty=false:=by simpa using h0'
  have e1:lv H l=.slice (some ⟨H.next,0,none⟩) l.length (l.length+1):=by unfold lv;rw[hne];rfl
  have e2:lh fPair H l=H.push (.row (l.flatMap fPair.enc) 3 false):=by unfold lh;rw[hne];rfl
  rw[e1,e2]
  refine (deleteFunc_c (h0:=H) (get_push_same _ _) hok hl (Nat.le_refl _) (Nat.lt_succ_self _) (Ext.push1 _ _) ht).mono fun r h1 ⟨w,e,m⟩=>⟨w,e,m.base hE⟩
theorem needs_c {h:DHeap} {t:Txn} {vc va vr vw v:Value} {l:List Pair} (x:TxV (InH h) h t vc va vr vw) (hb:Arg fPair.rep h v l) (hl:l.length≤1048576) (hr:t.reads.length≤4294967296) :
 Ct Try.prog 21 [txnV t.ses t.req vc va vr vw,v] h fun r h1=>∃ w,r=.ret w∧Made fPair h h1 w (needsN t l):=by
 refine go_21 (by simp) ?_
 obtain ⟨H,hH⟩:∃ H,H=h.push (.row [.int .i64 t.ses,.int .i64 t.req,vc,va,vr,vw] 0 false):=⟨_,rfl⟩
 have hE:Ext h H:=by rw[hH];exact Ext.push1 _ _
 have g:H.get h.next=some (.row [.int .i64 t.ses,.int .i64 t.req,vc,va,vr,vw] 0 false):=by rw[hH];exact get_push_same _ _
 have hHn:H.next=h.next+1:=by rw[hH];rfl
 have hcl:(txnV t.ses t.req vc va vr vw).cells.toList=[.int .i64 t.ses,.int .i64 t.req,vc,va,vr,vw]:=rfl
 simp -implicitDefEqProofs (disch:=first|omega|simp only[go_sem]) only[go_sem,true_and,c21,hcl,← hH]
 refine ncall (pairs_dc (hb.ext hE) hl) ?_
 simp -implicitDefEqProofs (disch:=first|omega|simp only[go_sem]) only[go_sem,true_and]
 have hlen:=byK_len (key:=Pair.k) l
 refine ncall_ct (delete_lh (h0:=h) (fun x hx=>hb.ok x (mem_of_byK hx)) (by omega) hE (needs_test (cellAt_row g) (by omega) (x.ext hE).r hr)) ?_
 rintro r h1 ⟨w,rfl,m⟩
 simp -implicitDefEqProofs (disch:=first|omega|simp only[go_sem]) only[go_sem,true_and,XEnd]
 refine ⟨_,rfl,w,rfl,?_⟩
 simpa [needsN] using m
theorem refNeeds_c {h:DHeap} {t:Txn} {vc va vr vw v:Value} {l:List Pair} (x:TxV (InH h) h t vc va vr vw) (hb:Arg fPair.rep h v l) (hl:l.length≤1048576) (hr:t.reads.length≤4294967296) :
 Ct Try.prog 31 [txnV t.ses t.req vc va vr vw,v] h fun r h1=>∃ w,r=.ret w∧Made fPair h h1 w (needsN t l):=by
 refine go_31 (by simp) ?_
 obtain ⟨H,hH⟩:∃ H,H=h.push (.row [.int .i64 t.ses,.int .i64 t.req,vc,va,vr,vw] 0 false):=⟨_,rfl⟩
 have hE:Ext h H:=by rw[hH];exact Ext.push1 _ _
 have g:H.get h.next=some (.row [.int .i64 t.ses,.int .i64 t.req,vc,va,vr,vw] 0 false):=by rw[hH];exact get_push_same _ _
 have hHn:H.next=h.next+1:=by rw[hH];rfl
 have hcl:(txnV t.ses t.req vc va vr vw).cells.toList=[.int .i64 t.ses,.int .i64 t.req,vc,va,vr,vw]:=rfl
 simp -implicitDefEqProofs (disch:=first|omega|simp only[go_sem]) only[go_sem,true_and,c31,hcl,← hH]
 refine ncall_ct (refPairs_c (hb.ext hE) (by omega)) ?_
 rintro r h1 ⟨w,rfl,m⟩
 obtain ⟨ps,hps⟩:∃ ps,byK Pair.k l=ps:=⟨_,rfl⟩
 rw[hps]at m
 have hlen:ps.length≤l.length:=hps▸byK_len (key:=Pair.k) l
 have el:∀ K,dLen Try.prog #[27] w K=some (.int .i64 (ps.length:Nat)):=m.arg.lens (P:=Try.prog) (ts:=#[27]) (t:=27) rfl isl_27
 have hE1:=m.ext
 simp -implicitDefEqProofs (disch:=first|omega|simp only[go_sem]) only[go_sem,true_and,XEnd]
 refine xloop (σ:=Nat) (by kernel_rfl) (fun i s=>s.df=[]∧s.rd=none∧s.fr 2=some (.pointer (some ⟨h.next,0,none⟩))∧s.fr 6=some w∧s.fr 7=some (.int .i64 (i:Nat))∧i≤ps.length∧∃ rv,s.fr 5=some rv∧Made fPair h1 s.h rv ((ps.take i).filter fun p=>decide (p.k∈t.reads))) (fun i=>ps.length - i) 0 ?_ ?_
 ·simp -implicitDefEqProofs (disch:=first|omega|simp only[go_sem]) only[go_sem,true_and]
  exact ⟨by trivial,Nat.zero_le _,_,rfl,.nil fPair (.refl h1)⟩
 rintro i ⟨fr,df,K,rd⟩ K' hK' hX ⟨rfl,rfl,f2,f6,f7,hi,rv,f5,mm⟩
 simp only at f2 f6 f7 f5 mm
 simp -implicitDefEqProofs (disch:=first|omega|simp only[go_sem]) only[go_sem,true_and,f6,f7,el]
 refine XIf_dec (fun hc1=>?_) (fun hc1=>?_)
 ·have hj:i<ps.length:=by omega
  have hE2:=mm.ext
  have hEK:Ext H K:=hE1.trans hE2
  obtain ⟨id1,o1,e1,hid,hat1⟩:=(m.arg.ext hE2).idx (P:=Try.prog) (t:=27) el_27 (k:=.i64) (i:=i) (x:=ps[i]) (by simp)
  have l1:cellsAt K id1 o1 3=some (pairV ps[i]):=hat1.flat.2.1
  have k1:cellsAt K id1 o1 2=some (keyV ps[i].k):=pair_key hat1
  have hw:=wrap_succ hj (by omega)
  have g2:cellAt K h.next 4=some vr:=cellAt_row ((hEK.get _ (by omega)).trans g)
  simp -implicitDefEqProofs (disch:=first|omega|simp only[go_sem]) only[go_sem,true_and]
  refine yr_31_0 rfl ?_
  simp -implicitDefEqProofs (disch:=first|omega|simp only[go_sem]) only[go_sem,true_and,g31_0,q31_0,f2,f6,f7,g2,e1,k1]
  refine ycall (has_r (x.ext (hE.trans hEK)).r hr) ?_
  by_cases hm:ps[i].k∈t.reads
  ·have hmd:=decide_eq_true hm
   obtain ⟨w2,h6,e6,m6⟩:=mm.snoc app_27 (y:=ps[i]) (cs:=[.int .i32 ps[i].k.t,.int .i64 ps[i].k.r,.int .i64 ps[i].v]) (z:=3) rfl rfl (m.ok _ (List.getElem_mem hj)) (by have:=List.length_filter_le (fun p:Pair=>decide (p.k∈t.reads)) (ps.take i);have:=List.length_take (i:=i) (l:=ps);omega) (by decide)
   simp -implicitDefEqProofs (disch:=first|omega|simp only[go_sem]) only[go_sem,true_and,hmd,f5,f6,f7,e1,l1,e6,hw]
   refine hK' (i+1) _ ?_ (by omega)
   refine ⟨by trivial,by trivial,(vy f2),(vy f6),vz,by omega,w2,vz,?_⟩
   rw[List.take_succ_eq_append_getElem hj,List.filter_append,List.filter_cons_of_pos (by simpa using hm),List.filter_nil]
   exact m6
  ·have hmd:=decide_eq_false hm
   simp -implicitDefEqProofs (disch:=first|omega|simp only[go_sem]) only[go_sem,true_and,hmd,f7,hw]
   refine hK' (i+1) _ ?_ (by omega)
   refine ⟨by trivial,by trivial,(vy f2),(vy f6),vz,by omega,rv,(vy f5),?_⟩
   rw[List.take_succ_eq_append_getElem hj,List.filter_append,List.filter_cons_of_neg (by simpa using hm),List.filter_nil,List.append_nil]
   exact mm
 obtain rfl:i=ps.length:=by omega
 refine hX _ _ (by simp) ?_
 rw[List.take_length]at mm
 simp -implicitDefEqProofs (disch:=first|omega|simp only[go_sem]) only[go_sem,true_and,f5]
 refine ⟨_,rfl,_,rfl,?_⟩
 unfold needsN
 rw[hps]
 exact mm.base (hE.trans hE1)
end Go.Proofs.Ythjmkmoiopmfcaa

namespace Go.D
variable {P:Program} {α:Type} {F:FRep α} {h h1 K:DHeap} {v:Value} {l:List α} {z b id:Nat} {ts:Array TypeId}
def NoRow (h:DHeap) (i z:Nat):Prop:=∀ cs,h.get i≠some (.row cs z false)
theorem NoRow.map {es:List MapEntry} {c:Nat} (g:h.get id=some (.map es c)):NoRow h id z:=fun cs e=>by rw[g]at e;cases e
theorem NoRow.row {cs:List Value} {y:Nat} (g:h.get id=some (.row cs y false)) (hy:y≠z):NoRow h id z:=fun cs' e=>by rw[g]at e;cases e;exact hy rfl
theorem NoRow.keep (n:NoRow h id z) (e:K.get id=h.get id):NoRow K id z:=fun cs g=>n cs (e▸g)
theorem MapAt.noRow {κ:Type} {enc:κ→Value} {m:List (κ × Value)} (a:MapAt enc h id m):NoRow h id z:=by
 obtain ⟨es,c,g,_⟩:=a
 exact .map g
theorem Owns.ne {w:Option Nat} (a:Owns F.rep NoS K v l w) (hn:NoRow K id F.z):w≠some id:=by
 rintro rfl
 rcases a with ⟨_,_,h0⟩ | ⟨h0,_⟩ | ⟨i,cap,cells,_,h0,_,g,_⟩
 ·cases h0
 ·cases h0
 ·cases h0
  exact hn _ g
theorem Made.setX {o:DObj} (m:Made F h K v l) (hn:NoRow K id F.z) (hid:h.next≤id):Made F h (K.set id o) v l:=by
 obtain ⟨w,a,b⟩:=m.own
 have hne:=a.ne hn
 exact ⟨m.ext.set hid,w,a.mono (Nat.le_refl _) (fun i hi=>get_set_other _ _ fun e=>by subst e;exact hne hi) (fun i hi=>hi.elim),b⟩
theorem Made.snocX (m:Made F h h1 v l) (hT:appT P ts=some (F.z,b)) {y:α} {cs:List Value} (hc:cs=F.enc y) (hz:F.z=z) (hp:0<F.z) (hy:F.ok y) (hlen:l.length+1≤4294967296) (hb:b≤32768) :
 ∃ v' h2,dAppend P ts v (.slice (some ⟨h1.next,0,none⟩) 1 1) (h1.push (.row cs z false))=some (v',h2)∧Made F h h2 v' (l++[y])∧h2.next=h1.next+2∧∀ i,i<h1.next→NoRow h1 i F.z→h2.get i=h1.get i:=by
 obtain ⟨w,a,bw⟩:=m.own
 obtain ⟨v',h2,e1,n2,ng2,gg,o3⟩:=a.snoc (cs:=cs) (x:=y) (z:=z) (fun i hi=>hi.elim) ⟨hc,hy⟩ hz.symm hp hT hlen hb
 exact ⟨v',h2,e1,⟨⟨by have:=m.ext.next;omega,ng2.trans m.ext.ng,fun i hi=>(gg i (Nat.lt_of_lt_of_le hi m.ext.next) (fun e=>by have:=bw i e;omega)).trans (m.ext.get i hi)⟩,_,o3,fun i hi=>by cases hi;have:=m.ext.next;omega⟩,n2,fun i hi hn=>gg i hi (a.ne hn)⟩
end Go.D

namespace Go.Proofs.Ythjmkmoiopmfcaa
open Go.D
set_option maxRecDepth 100000
abbrev chgV (c:Change):Value:=.agg #[.int .i32 c.k.t,.int .i64 c.k.r,.int .i64 c.v,.bool c.e]
def putB {α:Type} (key:α→Key) (enc:α→Value) (l:List α):List (Key × Value):=l.foldl (fun m p=>mput m (key p) (enc p)) []
section
variable {α:Type} {key:α→Key} {enc:α→Value}
theorem putB_snoc {l:List α} {x:α}:putB key enc (l++[x])=mput (putB key enc l) (key x) (enc x):=by
 unfold putB
 rw[List.foldl_append]
 rfl
theorem putB_take {l:List α} {i:Nat} (hi:i<l.length):putB key enc (l.take (i+1))=mput (putB key enc (l.take i)) (key l[i]) (enc l[i]):=by
 rw[List.take_succ_eq_append_getElem hi,putB_snoc]
theorem snoc_ind {P:List α→Prop} (h0:P []) (h1:∀ l x,P l→P (l++[x])):∀ l,P l:=fun l=>by
 have:∀ m:List α,P m.reverse:=fun m=>by
  induction m with
  | nil=>exact h0
  | cons x m ih=>rw[List.reverse_cons];exact h1 _ _ ih
 have h:=this l.reverse
 rwa [List.reverse_reverse]at h
theorem putB_nodup:∀ l:List α,((putB key enc l).map (·.1)).Nodup:=
 snoc_ind (by simp[putB]) fun l x ih=>by rw[putB_snoc];exact mput_nodup ih
theorem mget_putB {k:Key}:∀ l:List α,mget (putB key enc l) k=(lastB key l k).map enc:=
 snoc_ind rfl fun l x ih=>by
  rw[putB_snoc,mget_mput (putB_nodup l),lastB_snoc,ih]
  by_cases h:k=key x
  ·rw[if_pos h,if_pos h.symm];rfl
  ·rw[if_neg h,if_neg fun e=>h e.symm]
theorem mem_putB:∀ (l:List α) (k:Key),k∈(putB key enc l).map (·.1)↔k∈l.map key:=
 snoc_ind (by simp[putB]) fun l x ih k=>by
  have ih':=ih
  have ih:=ih k
  rw[putB_snoc,mput_keys,List.map_append,List.map_cons,List.map_nil,List.mem_append,List.mem_singleton]
  split
  ·rename_i hx
   rw[ih]
   have hx:=(ih' (key x)).1 hx
   constructor
   ·exact .inl
   ·rintro (h | rfl)
    ·exact h
    ·exact hx
  ·rw[List.mem_append,List.mem_singleton,ih]
end
theorem und_mapC:Try.prog.underlying 63=some (.map 44 51):=by kernel_rfl
theorem mapTC:MapT Try.prog 63 keyV (chgV chg0):=⟨_,_,und_mapC,keyOf,by kernel_rfl⟩
theorem chg_key {S:Nat→Prop} {h:DHeap} {id o:Nat} {x:Change} (a:At fChange.rep S h id o x):cellsAt h id o 2=some (keyV x.k):=by
 obtain ⟨cells,esz,ro,g,b,e,_⟩:=a
 have hb:o+4≤cells.length:=b
 rw[cellsAt_row g (by omega)]
 have e':(cells.drop o).take 4=[.int .i32 x.k.t,.int .i64 x.k.r,.int .i64 x.v,.bool x.e]:=e
 have:(cells.drop o).take 2=[.int .i32 x.k.t,.int .i64 x.k.r]:=by
  have:=congrArg (List.take 2) e'
  rwa [List.take_take]at this
 rw[this]
set_option maxHeartbeats 1000000 in
theorem changes_c {h:DHeap} {v:Value} {l:List Change} (hb:Arg fChange.rep h v l) (hl:l.length≤1048576) :
 Ct Try.prog 26 [v] h fun r h1=>∃ w,r=.ret w∧Made fChange h h1 w (byK Change.k l):=by
 refine go_26 (by simp) ?_
 have el:∀ K,dLen Try.prog #[30] v K=some (.int .i64 (l.length:Nat)):=hb.lens (P:=Try.prog) (ts:=#[30]) (t:=30) rfl isl_30
 simp -implicitDefEqProofs (disch:=first|omega|simp only[go_sem]) only[go_sem,true_and,c26,el]
 refine xloop (σ:=Nat) (by kernel_rfl) (fun i s=>s.df=[]∧s.rd=none∧s.fr 3=some (.map (some h.next))∧s.fr 11=some v∧s.fr 12=some (.int .i64 (l.length:Nat))∧s.fr 13=some (.int .i64 (i:Nat))∧i≤l.length∧h.next<s.h.next∧MapAt keyV s.h h.next (putB Change.k chgV (l.take i))∧∃ kv,s.fr 4=some kv∧Made fKey h s.h kv ((l.take i).map Change.k)) (fun i=>l.length - i) 0 ?_ ?_
 ·simp -implicitDefEqProofs (disch:=first|omega|simp only[go_sem]) only[go_sem,true_and]
  exact ⟨by trivial,Nat.zero_le _,Nat.lt_succ_self _,MapAt.new,_,rfl,.nil fKey (Ext.push1 _ _)⟩
 rintro i ⟨fr,df,K,rd⟩ K' hK' hX ⟨rfl,rfl,f3,f11,f12,f13,hi,hlt,hm,kv,f4,mk⟩
 simp only at f3 f11 f12 f13 hlt hm f4 mk
 have hE:=mk.ext
 simp -implicitDefEqProofs (disch:=first|omega|simp only[go_sem]) only[go_sem,true_and,f11,f12,f13]
 refine XIf_dec (fun hc1=>?_) (fun hc1=>?_)
 ·have hj:i<l.length:=by omega
  obtain ⟨id1,o1,e1,_,hat1⟩:=(hb.ext hE).idx (P:=Try.prog) (t:=30) el_30 (k:=.i64) (i:=i) (x:=l[i]) (by simp)
  have l1:cellsAt K id1 o1 4=some (chgV l[i]):=hat1.flat.2.1
  obtain ⟨K1,hK1⟩:∃ H,H=K.push (.row [.int .i32 l[i].k.t,.int .i64 l[i].k.r,.int .i64 l[i].v,.bool l[i].e] 0 false):=⟨_,rfl⟩
  have g1:K1.get K.next=some (.row [.int .i32 l[i].k.t,.int .i64 l[i].k.r,.int .i64 l[i].v,.bool l[i].e] 0 false):=by rw[hK1];exact get_push_same _ _
  have hE1:Ext K K1:=by rw[hK1];exact Ext.push1 _ _
  have hK1n:K1.next=K.next+1:=by rw[hK1];rfl
  have hm1:MapAt keyV K1 h.next (putB Change.k chgV (l.take i)):=hm.keep (hE1.get _ hlt)
  obtain ⟨o,hu,hm2⟩:=hm1.update mapTC l[i].k (chgV l[i])
  obtain ⟨K2,hK2⟩:∃ H,K1.set h.next o=H:=⟨_,rfl⟩
  rw[hK2]at hu hm2
  have g2:K2.get K.next=some (.row [.int .i32 l[i].k.t,.int .i64 l[i].k.r,.int .i64 l[i].v,.bool l[i].e] 0 false):=by rw[← hK2,get_set_other _ _ (by omega)];exact g1
  have lk:cellsAt K1 K.next 0 2=some (keyV l[i].k):=by rw[cellsAt_row g1 (Nat.le_of_ble_eq_true rfl)];rfl
  have lk2:cellsAt K2 K.next 0 2=some (keyV l[i].k):=by rw[cellsAt_row g2 (Nat.le_of_ble_eq_true rfl)];rfl
  have lc:cellsAt K1 K.next 0 4=some (chgV l[i]):=by rw[cellsAt_row g1 (Nat.le_of_ble_eq_true rfl)];rfl
  have mk2:Made fKey h K2 kv ((l.take i).map Change.k):=hK2▸(mk.on hE1).setX hm1.noRow (Nat.le_refl _)
  have hK2n:K2.next=K.next+1:=by rw[← hK2];exact hK1n
  obtain ⟨kv',h6,e6,m6,n6,k6⟩:=mk2.snocX app_24 (y:=l[i].k) (cs:=[.int .i32 l[i].k.t,.int .i64 l[i].k.r]) (z:=2) rfl rfl (by decide) (hb.ok _ (List.getElem_mem hj)).1 (by rw[List.length_map,List.length_take];omega) (by decide)
  have hm3:MapAt keyV h6 h.next (putB Change.k chgV (l.take (i+1))):=by
   rw[putB_take hj]
   exact hm2.keep (k6 _ (by omega) hm2.noRow)
  have hw:=wrap_succ hj (by omega)
  have hst:dStore Try.prog 51 (.pointer (some ⟨K.next,0,none⟩)) (.agg #[.int .i32 l[i].k.t,.int .i64 l[i].k.r,.int .i64 l[i].v,.bool l[i].e]) (K.push (.row [.int .i32 0,.int .i64 0,.int .i64 0,.bool false] 0 false))=some K1:=by
   rw[hK1]
   exact (st_51 rfl).trans (storeAll_push rfl rfl)
  simp -implicitDefEqProofs (disch:=first|omega|simp only[go_sem]) only[go_sem,true_and,f3,f4,f11,f13,e1,l1,hst,lk,lc,hu,lk2,e6,hw]
  refine hK' (i+1) _ ?_ (by omega)
  refine ⟨by trivial,by trivial,(vy f3),(vy f11),(vy f12),vz,by omega,?_,hm3,kv',vz,?_⟩
  ·show h.next<h6.next
   omega
  ·rw[List.take_succ_eq_append_getElem hj,List.map_append]
   exact m6
 obtain rfl:i=l.length:=by omega
 refine hX _ _ (by simp) ?_
 rw[List.take_length]at hm mk
 simp -implicitDefEqProofs (disch:=first|omega|simp only[go_sem]) only[go_sem,true_and,f4]
 refine ncall_ct (keys_c mk.arg (by rw[List.length_map];exact hl)) ?_
 rintro r h3 ⟨w,rfl,hE3,hs3⟩
 obtain ⟨ks,hks⟩:∃ ks,keysN (l.map Change.k)=ks:=⟨_,rfl⟩
 rw[hks]at hs3
 have hsk:Arg fKey.rep h3 w ks:=hs3.mono fun i hi=>⟨hi.2,rfl⟩
 have ek:∀ K,dLen Try.prog #[24] w K=some (.int .i64 (ks.length:Nat)):=hsk.lens (P:=Try.prog) (ts:=#[24]) (t:=24) rfl isl_24
 have hkl:ks.length≤l.length:=by
  have:=keysN_len (l.map Change.k)
  rw[hks,List.length_map]at this
  exact this
 have hE03:Ext h h3:=hE.trans hE3
 have hn3:=hE3.next
 have hm3:MapAt keyV h3 h.next (putB Change.k chgV l):=hm.keep (hE3.get _ hlt)
 simp -implicitDefEqProofs (disch:=first|omega|simp only[go_sem]) only[go_sem,true_and,XEnd,ek]
 refine xloop (σ:=Nat) (by kernel_rfl) (fun j s=>s.df=[]∧s.rd=none∧s.fr 3=some (.map (some h.next))∧s.fr 28=some w∧s.fr 29=some (.int .i64 (ks.length:Nat))∧s.fr 30=some (.int .i64 (j:Nat))∧j≤ks.length∧∃ v',s.fr 7=some v'∧Made fChange h3 s.h v' ((ks.take j).filterMap (lastB Change.k l))) (fun j=>ks.length - j) 0 ?_ ?_
 ·simp -implicitDefEqProofs (disch:=first|omega|simp only[go_sem]) only[go_sem,true_and,f3]
  exact ⟨by trivial,Nat.zero_le _,_,rfl,Made.nil _ (.refl _)⟩
 rintro j ⟨fr,df,K4,rd⟩ K' hK' hX ⟨rfl,rfl,f3,f28,f29,f30,hj,v',f7,mm⟩
 simp only at f3 f28 f29 f30 f7 mm
 have hE4:=mm.ext
 have hn4:=hE4.next
 simp -implicitDefEqProofs (disch:=first|omega|simp only[go_sem]) only[go_sem,true_and,f28,f29,f30]
 refine XIf_dec (fun hc1=>?_) (fun hc1=>?_)
 ·have hjl:j<ks.length:=by omega
  obtain ⟨id1,o1,e1,_,hat1⟩:=(hsk.ext hE4).idx (P:=Try.prog) (t:=24) el_24 (k:=.i64) (i:=j) (x:=ks[j]) (by simp)
  have l1:cellsAt K4 id1 o1 2=some (keyV ks[j]):=hat1.flat.2.1
  obtain ⟨K5,hK5⟩:∃ H,H=K4.push (.row [.int .i32 ks[j].t,.int .i64 ks[j].r] 0 false):=⟨_,rfl⟩
  have hE5:Ext K4 K5:=by rw[hK5];exact Ext.push1 _ _
  have hK5n:K5.next=K4.next+1:=by rw[hK5];rfl
  have hst:dStore Try.prog 44 (.pointer (some ⟨K4.next,0,none⟩)) (keyV ks[j]) (K4.push (.row [.int .i32 0,.int .i64 0] 0 false))=some K5:=by
   rw[hK5]
   exact (st_44 rfl).trans (storeAll_push rfl rfl)
  have g5:K5.get K4.next=some (.row [.int .i32 ks[j].t,.int .i64 ks[j].r] 0 false):=by rw[hK5];exact get_push_same _ _
  have l5:cellsAt K5 K4.next 0 2=some (keyV ks[j]):=by rw[cellsAt_row g5 (Nat.le_of_ble_eq_true rfl)];rfl
  have hkm:ks[j]∈l.map Change.k:=mem_keysN.1 (hks▸List.getElem_mem hjl)
  obtain ⟨c,hc⟩:=lastB_mem (key:=Change.k) hkm
  obtain ⟨hc1,hc2⟩:=lastB_some hc
  have lk5:dLookup Try.prog 63 (.map (some h.next)) (keyV ks[j]) false K5=some (chgV c):=by
   rw[(hm3.keep ((hE5.get _ (by omega)).trans (hE4.get _ (by omega)))).lookup mapTC ks[j] false,mget_putB,hc]
   rfl
  obtain ⟨w2,h6,e6,m6⟩:=(mm.on hE5).snoc app_30 (y:=c) (cs:=[.int .i32 c.k.t,.int .i64 c.k.r,.int .i64 c.v,.bool c.e]) (z:=4) rfl rfl (hb.ok _ hc1) (by have:=List.length_filterMap_le (lastB Change.k l) (ks.take j);have:=List.length_take (i:=j) (l:=ks);omega) (by decide)
  have hw:=wrap_succ hjl (by omega)
  simp -implicitDefEqProofs (disch:=first|omega|simp only[go_sem]) only[go_sem,true_and,f3,f7,f28,f30,e1,l1,hst,l5,lk5,e6,hw]
  refine hK' (j+1) _ ?_ (by omega)
  refine ⟨rfl,rfl,(vy f3),(vy f28),(vy f29),vz,by omega,w2,vz,?_⟩
  rw[List.take_succ_eq_append_getElem hjl,List.filterMap_append]
  simpa [hc] using m6
 obtain rfl:j=ks.length:=by omega
 refine hX _ _ (by simp) ?_
 rw[List.take_length]at mm
 simp -implicitDefEqProofs (disch:=first|omega|simp only[go_sem]) only[go_sem,true_and,f7]
 refine ⟨_,rfl,_,rfl,?_⟩
 unfold byK
 rw[hks]
 exact mm.base hE03
end Go.Proofs.Ythjmkmoiopmfcaa

namespace Go.Proofs.Ythjmkmoiopmfcaa
open Go.D
set_option maxRecDepth 100000
set_option maxHeartbeats 1000000 in
theorem refChanges_c {h:DHeap} {v:Value} {l:List Change} (hb:Arg fChange.rep h v l) (hl:l.length≤4194304) :
 Ct Try.prog 27 [v] h fun r h1=>∃ w,r=.ret w∧Made fChange h h1 w (byK Change.k l):=by
 refine go_27 (by simp) ?_
 have el:∀ K,dLen Try.prog #[30] v K=some (.int .i64 (l.length:Nat)):=hb.lens (P:=Try.prog) (ts:=#[30]) (t:=30) rfl isl_30
 simp -implicitDefEqProofs (disch:=first|omega|simp only[go_sem]) only[go_sem,true_and,c27]
 refine xloop (σ:=Nat) (by kernel_rfl) (fun i s=>s.df=[]∧s.rd=none∧s.fr 0=some v∧s.fr 4=some (.int .i64 (i:Nat))∧i≤l.length∧∃ rv,s.fr 3=some rv∧Made fChange h s.h rv (byK Change.k (l.take i))) (fun i=>l.length - i) 0 ?_ ?_
 ·simp -implicitDefEqProofs (disch:=first|omega|simp only[go_sem]) only[go_sem,true_and]
  exact ⟨by trivial,Nat.zero_le _,_,rfl,.nil fChange (.refl h)⟩
 rintro i ⟨fr,df,K,rd⟩ K' hK' hX ⟨rfl,rfl,f0,f4,hi,rv,f3,m⟩
 simp only at f0 f4 f3 m
 simp -implicitDefEqProofs (disch:=first|omega|simp only[go_sem]) only[go_sem,true_and,f0,f4,el]
 refine XIf_dec (fun hc1=>?_) (fun hc1=>?_)
 ·have hj0:i<l.length:=by omega
  have hbK:Arg fChange.rep K v l:=hb.ext m.ext
  have hr:=m.arg
  have hrl:=byK_len (key:=Change.k) (l.take i)
  have htl:(l.take i).length≤l.length:=by simp;omega
  have hnext:=byK_take (key:=Change.k) hj0
  have hw1:=wrap_succ hj0 (by omega)
  obtain ⟨rl,hrr⟩:∃ rl,byK Change.k (l.take i)=rl:=⟨_,rfl⟩
  rw[hrr]at hr hrl hnext
  have er:∀ K,dLen Try.prog #[30] rv K=some (.int .i64 (rl.length:Nat)):=hr.lens (P:=Try.prog) (ts:=#[30]) (t:=30) rfl isl_30
  obtain ⟨id1,o1,g1,hid1,hat1⟩:=hbK.idx (P:=Try.prog) (t:=30) el_30 (k:=.i64) (i:=i) (x:=l[i]) (by simp)
  have a1:cellsAt K id1 o1 2=some (keyV l[i].k):=chg_key hat1
  obtain ⟨x,hx⟩:∃ x,l[i]=x:=⟨_,rfl⟩
  rw[hx]at a1 hnext
  simp -implicitDefEqProofs (disch:=first|omega|simp only[go_sem]) only[go_sem,true_and]
  refine XLoop_cut (fun s=>s.df=[]∧s.rd=none∧s.h=K∧s.fr 0=some v∧s.fr 4=some (.int .i64 (i:Nat))∧s.fr 3=some rv∧∃ j,s.fr 5=some (.int .i64 (j:Nat))∧j≤rl.length∧insB Change.k x rl=rl.take j++insB Change.k x (rl.drop j)∧∀ hj:j<rl.length,¬ keyLt rl[j].k x.k=true) ?_ ?_
  ·refine xloop (σ:=Nat) (by kernel_rfl) (fun j s=>s.df=[]∧s.rd=none∧s.h=K∧s.fr 0=some v∧s.fr 4=some (.int .i64 (i:Nat))∧s.fr 3=some rv∧s.fr 5=some (.int .i64 (j:Nat))∧j≤rl.length∧insB Change.k x rl=rl.take j++insB Change.k x (rl.drop j)) (fun j=>rl.length - j) 0 ?_ ?_
   ·simp -implicitDefEqProofs (disch:=first|omega|simp only[go_sem]) only[go_sem,true_and,f0,f3,f4]
    exact ⟨by trivial,Nat.zero_le _,by simp⟩
   ·rintro j ⟨fr,df,K2,rd⟩ K2' hK2 hX2 ⟨rfl,rfl,rfl,f0,f4,f3,f5,hj,hin⟩
    simp only at f0 f4 f3 f5
    simp -implicitDefEqProofs (disch:=first|omega|simp only[go_sem]) only[go_sem,true_and]
    refine yr_27_0 rfl ?_
    by_cases hjl:j<rl.length
    ·obtain ⟨id2,o2,g2,hid2,hat2⟩:=hr.idx (P:=Try.prog) (t:=30) el_30 (k:=.i64) (i:=j) (x:=rl[j]) (by simp)
     have a2:cellsAt K2 id2 o2 2=some (keyV rl[j].k):=chg_key hat2
     have hjl2:=eq_true (show ((j:Nat):Int)<(rl.length:Nat) by omega)
     simp -implicitDefEqProofs (disch:=first|omega|simp only[go_sem]) only[go_sem,true_and,g27_0,q27_0,l27_0,f0,f3,f4,f5,er,hjl2,g1,a1,g2,a2,dPick_t,dPick_f]
     refine ycall less_c ?_
     have hw2:=wrap_succ hjl (by omega)
     by_cases hlt:keyLt rl[j].k x.k=true
     ·skip
      simp -implicitDefEqProofs (disch:=first|omega|simp only[go_sem]) only[go_sem,true_and,hlt,dPick_t,dPick_f,f5,hw2]
      refine hK2 (j+1) _ ?_ (by omega)
      exact ⟨by trivial,by trivial,by trivial,(vy f0),(vy f4),(vy f3),vz,by omega,insB_cut hjl hin hlt⟩
     ·have hneg:keyLt rl[j].k x.k=false:=by simpa using hlt
      simp -implicitDefEqProofs (disch:=first|omega|simp only[go_sem]) only[go_sem,true_and,hneg,dPick_t,dPick_f]
      refine hX2 _ _ (by simp) ?_
      exact ⟨by trivial,by trivial,by trivial,(vy f0),(vy f4),(vy f3),j,(vy f5),hj,hin,fun _=>hlt⟩
    ·have hjl':¬ ((j:Nat):Int)<(rl.length:Nat):=by omega
     simp -implicitDefEqProofs (disch:=first|omega|simp only[go_sem]) only[go_sem,true_and,g27_0,q27_0,l27_0,f0,f3,f4,f5,er,hjl',dPick_t,dPick_f]
     refine hX2 _ _ (by simp) ?_
     exact ⟨by trivial,by trivial,by trivial,(vy f0),(vy f4),(vy f3),j,(vy f5),hj,hin,fun h=>absurd h hjl⟩
  rintro ⟨fr,df,K2,rd⟩ ⟨hdf,hrd,hK2,f0,f4,f3,j,f5,hj,hin,hnl⟩
  simp only at hdf hrd hK2 f0 f4 f3 f5
  subst hdf hrd hK2
  obtain ⟨u3,s3,ar3⟩:=hr.slice (P:=Try.prog) (t:=30) el_30 (by decide) (lo:=none) (hi:=some (.int .i64 (j:Nat))) (i:=0) (j:=j) (bound_nat (k:=.i64) hj) rfl (Nat.zero_le _) hj
  rw[List.drop_zero]at ar3
  obtain ⟨w0,L1,e0,m0,_⟩:=(Made.nil fChange (Ext.refl K2)).append app_30 (x:=u3) ar3 (by simp;omega) (by decide)
  rw[List.nil_append]at m0
  obtain ⟨id3,o3,g3,hid3,hat3⟩:=(hbK.ext m0.ext).idx (P:=Try.prog) (t:=30) el_30 (k:=.i64) (i:=i) (x:=l[i]) (by simp)
  have a3:cellsAt L1 id3 o3 4=some (chgV l[i]):=hat3.flat.2.1
  obtain ⟨w,K3,e1,mw⟩:=m0.snoc app_30 (y:=l[i]) (cs:=[.int .i32 l[i].k.t,.int .i64 l[i].k.r,.int .i64 l[i].v,.bool l[i].e]) (z:=4) rfl rfl (hb.ok _ (List.getElem_mem hj0)) (by simp;omega) (by decide)
  rw[hx]at mw
  have hr3:Arg fChange.rep K3 rv rl:=hr.ext mw.ext
  have hb3:Arg fChange.rep K3 v l:=hbK.ext mw.ext
  have fin:∀ (n:Nat),n≤rl.length→insB Change.k x rl=rl.take j++[x]++rl.drop n →
   ∃ u wh K4,dSlice Try.prog 30 rv (some (.int .i64 (n:Nat))) none none K3=some u∧dAppend Try.prog #[30,30] w u K3=some (wh,K4)∧Made fChange h K4 wh (byK Change.k (l.take (i+1))):=fun n hn he=>by
   obtain ⟨u,b1,b2⟩:=hr3.slice (P:=Try.prog) (t:=30) el_30 (by decide) (lo:=some (.int .i64 (n:Nat))) (hi:=none) (i:=n) (j:=rl.length) rfl (bound_nat (k:=.i64) hn) hn (Nat.le_refl _)
   rw[List.take_length]at b2
   obtain ⟨wh,K4,e4,m4,_⟩:=mw.append app_30 b2 (by simp;omega) (by decide)
   exact ⟨u,wh,K4,b1,e4,by rw[hnext,he];exact m4.base m.ext⟩
  simp -implicitDefEqProofs (disch:=first|omega|simp only[go_sem]) only[go_sem,true_and,f0,f3,f4,f5,s3,e0,g3,a3,e1]
  refine yr_27_1 rfl ?_
  by_cases hjl:j<rl.length
  ·obtain ⟨id2,o2,g2,hid2,hat2⟩:=hr3.idx (P:=Try.prog) (t:=30) el_30 (k:=.i64) (i:=j) (x:=rl[j]) (by simp)
   have a2:cellsAt K3 id2 o2 2=some (keyV rl[j].k):=chg_key hat2
   obtain ⟨id1,o1,g1,hid1,hat1⟩:=hb3.idx (P:=Try.prog) (t:=30) el_30 (k:=.i64) (i:=i) (x:=l[i]) (by simp)
   have a1:cellsAt K3 id1 o1 2=some (keyV l[i].k):=chg_key hat1
   rw[hx]at a1
   have hjl2:=eq_true (show ((j:Nat):Int)<(rl.length:Nat) by omega)
   have hend:=insB_end hjl hin (hnl hjl)
   by_cases heq:rl[j].k=x.k
   ·have heqd:decide (rl[j].k=x.k)=true:=decide_eq_true heq
    rw[if_pos heq]at hend
    have hw2:=wrap_succ hjl (by omega)
    obtain ⟨u,wh,K4,s1,s2,s3⟩:=fin (j+1) (by omega) hend
    simp -implicitDefEqProofs (disch:=first|omega|simp only[go_sem]) only[go_sem,true_and,g27_1,q27_1,l27_1,f0,f3,f4,f5,er,hjl2,g1,a1,g2,a2,dPick_t,dPick_f,bin_key',heqd,hw2,s1,s2,hw1]
    refine hK' (i+1) _ ?_ (by omega)
    exact ⟨by trivial,by trivial,(vy f0),vz,by omega,wh,vz,s3⟩
   ·have heqd:decide (rl[j].k=x.k)=false:=decide_eq_false heq
    rw[if_neg heq]at hend
    obtain ⟨u,wh,K4,s1,s2,s3⟩:=fin j hj hend
    simp -implicitDefEqProofs (disch:=first|omega|simp only[go_sem]) only[go_sem,true_and,g27_1,q27_1,l27_1,f0,f3,f4,f5,er,hjl2,g1,a1,g2,a2,dPick_t,dPick_f,bin_key',heqd,s1,s2,hw1]
    refine hK' (i+1) _ ?_ (by omega)
    exact ⟨by trivial,by trivial,(vy f0),vz,by omega,wh,vz,s3⟩
  ·have hjl':¬ ((j:Nat):Int)<(rl.length:Nat):=by omega
   have hje:j=rl.length:=by omega
   have hend:insB Change.k x rl=rl.take j++[x]++rl.drop j:=by
    subst hje
    rw[insB_full hin,List.take_length,List.drop_length,List.append_nil]
   obtain ⟨u,wh,K4,s1,s2,s3⟩:=fin j hj hend
   simp -implicitDefEqProofs (disch:=first|omega|simp only[go_sem]) only[go_sem,true_and,g27_1,q27_1,l27_1,f0,f3,f4,f5,er,hjl',dPick_t,dPick_f,s1,s2,hw1]
   refine hK' (i+1) _ ?_ (by omega)
   exact ⟨by trivial,by trivial,(vy f0),vz,by omega,wh,vz,s3⟩
 ·obtain rfl:i=l.length:=by omega
  rw[List.take_length]at m
  simp -implicitDefEqProofs (disch:=first|omega|simp only[go_sem]) only[go_sem,true_and]
  refine hX _ _ (by simp) ?_
  simp -implicitDefEqProofs (disch:=first|omega|simp only[go_sem]) only[go_sem,true_and,f3]
  exact ⟨_,rfl,_,rfl,m⟩
end Go.Proofs.Ythjmkmoiopmfcaa

namespace Go.D
variable {α:Type} {R:Rep α} {S D:Nat→Prop} {h h' K K':DHeap} {v:Value} {l:List α} {id:Nat} {o:DObj}
structure KpD (D:Nat→Prop) (h K:DHeap):Prop where
 next:h.next≤K.next
 ng:K.ng=h.ng
 get:∀ i,i<h.next→¬ D i→K.get i=h.get i
theorem KpD.refl (D:Nat→Prop) (h:DHeap):KpD D h h:=⟨Nat.le_refl _,rfl,fun _ _ _=>rfl⟩
theorem KpD.set (k:KpD D h K) (hD:D id∨h.next≤id):KpD D h (K.set id o):=
 ⟨k.next,k.ng,fun i hi hn=>(get_set_other _ _ (fun e:i=id=>by
  subst e
  rcases hD with hD | hD
  ·exact hn hD
  ·omega)).trans (k.get i hi hn)⟩
theorem KpD.ext (k:KpD D h K) (e:Ext K K'):KpD D h K':=
 ⟨Nat.le_trans k.next e.next,e.ng.trans k.ng,fun i hi hn=>(e.get i (Nat.lt_of_lt_of_le hi k.next)).trans (k.get i hi hn)⟩
theorem KpD.of (e:Ext h K):KpD D h K:=(KpD.refl D h).ext e
theorem KpD.toExt (k:KpD D h K) (e:Ext h' h) (hD:∀ i,D i→h'.next≤i):Ext h' K:=
 ⟨Nat.le_trans e.next k.next,k.ng.trans e.ng,fun i hi=>(k.get i (Nat.lt_of_lt_of_le hi e.next) (fun hd=>by have:=hD i hd;omega)).trans (e.get i hi)⟩
theorem Sl.kp (a:Sl R S h v l) (k:KpD D h K) (hS:∀ i,S i→i<h.next∧¬ D i):Sl R S K v l:=a.mono fun i hi=>⟨hi,k.get i (hS i hi).1 (hS i hi).2⟩
theorem MapAt.kp {κ:Type} {enc:κ→Value} {m:List (κ × Value)} (a:MapAt enc h id m) (k:KpD D h K) (hi:id<h.next) (hn:¬ D id):MapAt enc K id m:=a.keep (k.get id hi hn)
end Go.D
