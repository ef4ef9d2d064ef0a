/-
EvalOwn: what is answered is its caller's own, and the inputs are left alone, for every input of bulk at most 1048576. Conditions: none.
-/
import Derived.Shelf.SlSortCmp.WholeK
import Derived.Test.YthjmkmoiopmfcaaRows
import Derived.WalkKit
import Derived.ProofKit
import Derived.OpenShut
import Derived.JoinedCond
import Derived.Test.YthjmkmoiopmfcaaBase1
import Derived.Test.YthjmkmoiopmfcaaBase2
import Derived.Test.YthjmkmoiopmfcaaEvalOwnParts1
import Derived.Test.YthjmkmoiopmfcaaEvalOwnParts2
set_option linter.unusedSimpArgs false
set_option linter.unusedVariables false
namespace Go.D
variable {P:Program} {α:Type}
def RowIs (F:FRep α) (h:DHeap) (id:Nat) (A:List α):Prop:=h.get id=some (.row (A.flatMap F.enc) F.z false)
theorem setAt_over (vs:List Value):∀ (x B:List Value),vs.length=x.length→setAt (x++B) 0 vs=vs++B:=fun x B hl=>by
 refine List.ext_getElem? fun i=>?_
 rw[setAt_get]
 by_cases h1:i<vs.length
 ·rw[if_pos ⟨Nat.zero_le _,by omega,by simp;omega⟩,Nat.sub_zero,List.getElem?_append_left h1]
 ·rw[if_neg (by omega),List.getElem?_append_right (by omega),List.getElem?_append_right (by omega),hl]
theorem flatMap_set (F:FRep α) {A:List α} {k:Nat} (hk:k<A.length) (x:α):setAt (A.flatMap F.enc) (k*F.z) (F.enc x)=(A.set k x).flatMap F.enc:=by
 have h1:A.flatMap F.enc=(A.take k).flatMap F.enc++(F.enc A[k]++(A.drop (k+1)).flatMap F.enc):=by
  conv=>lhs;rw[← List.take_append_drop k A,List.drop_eq_getElem_cons hk]
  rw[List.flatMap_append,List.flatMap_cons]
 have h2:(A.set k x).flatMap F.enc=(A.take k).flatMap F.enc++(F.enc x++(A.drop (k+1)).flatMap F.enc):=by
  rw[List.set_eq_take_append_cons_drop,if_pos hk,List.flatMap_append,List.flatMap_cons]
 have h3:k*F.z=((A.take k).flatMap F.enc).length+0:=by rw[flatMap_len];simp[Nat.min_eq_left (Nat.le_of_lt hk)]
 rw[h1,h2,h3,setAt_mid,setAt_over _ _ _ (by rw[F.len,F.len])]
theorem RowIs.store {F:FRep α} {h:DHeap} {id k:Nat} {A:List α} (r:RowIs F h id A) (hk:k<A.length) (x:α):storeAt h id (k*F.z) (F.enc x)=some (h.set id (.row ((A.set k x).flatMap F.enc) F.z false)):=by
 have hm:(k+1)*F.z≤A.length*F.z:=Nat.mul_le_mul_right _ hk
 rw[Nat.succ_mul]at hm
 rw[storeAt_row r (by rw[F.len,flatMap_len];exact hm) ?_,flatMap_set F hk]
 refine List.all_eq_true.2 fun v hv=>?_
 have:=List.all_eq_true.1 (F.flat x) v hv
 unfold flat1 at this
 cases v <;> first | rfl | cases this
theorem RowIs.set {F:FRep α} {h:DHeap} {id:Nat} {A:List α} {z:Nat} (hz:z=F.z):RowIs F (h.set id (.row (A.flatMap F.enc) z false)) id A:=by
 subst hz;exact get_set_same _ _
theorem RowIs.sl {F:FRep α} {h:DHeap} {id o n c:Nat} {A:List α} (r:RowIs F h id A) (hn:o+n≤A.length) (hok:∀ x∈A,F.ok x):Sl F.rep (fun i=>i=id) h (.slice (some ⟨id,o*F.z,none⟩) n c) ((A.drop o).take n):=by
 have hl:((A.drop o).take n).length=n:=by simp;omega
 have hm:(o+n)*F.z≤A.length*F.z:=Nat.mul_le_mul_right _ hn
 rw[Nat.add_mul]at hm
 refine .inr ⟨id,o*F.z,c,A.flatMap F.enc,F.z,false,by rw[hl],rfl,r,.inr rfl,?_,?_⟩
 ·rw[hl,flatMap_len];exact hm
 ·refine Els.flat.2 ⟨?_,fun x hx=>hok x (List.mem_of_mem_drop (List.mem_of_mem_take hx))⟩
  rw[hl]
  have h1:A.flatMap F.enc=(A.take o).flatMap F.enc++(((A.drop o).take n).flatMap F.enc++(A.drop (o+n)).flatMap F.enc):=by
   rw[← List.flatMap_append,← List.flatMap_append]
   congr 1
   rw[← List.drop_drop,List.take_append_drop,List.take_append_drop]
  have h2:o*F.z=((A.take o).flatMap F.enc).length:=by rw[flatMap_len];simp[Nat.min_eq_left (show o≤A.length by omega)]
  have h3:n*F.rep.z=(((A.drop o).take n).flatMap F.enc).length:=by rw[flatMap_len,hl];rfl
  rw[h1,h2,List.drop_left,h3,List.take_left]
theorem dSlice_row {t:TypeId} {z id o n c:Nat} {h:DHeap} {cs:List Value} {lo hi:Option Value} {i j:Nat} (hz:slElem P t=some z) (hp:0<z) (hg:h.get id=some (.row cs z false)) (hj:boundOf hi n n=some j) (hi2:boundOf lo 0 j=some i) :
 dSlice P t (.slice (some ⟨id,o,none⟩) n c) lo hi none h=some (.slice (some ⟨id,o+i*z,none⟩) (j - i) (if j=n∧c=n then j - i else j - i+1)):=by
 unfold slElem at hz
 split at hz
 ·rename_i e e1
  cases e2:P.info? e with
  | none=>rw[e2]at hz;cases hz
  | some inf=>
    rw[e2]at hz
    have hsz:inf.size=z:=by simpa using hz
    have hfit:rowFits h id inf.size=true:=by simp[rowFits,hg,hsz]
    simp only[dSlice,e1,e2]
    rw[if_pos ⟨hfit,by rw[hsz];exact hp⟩]
    simp only[boundOf]at hj hi2 ⊢
    simp only[hj,hi2,hsz]
 ·cases hz
def clElem (P:Program) (t:TypeId):Option (Nat × Value):=
 match P.underlying t with
 | some (.slice e)=>(P.info? e).bind fun i=>i.zero.map fun z=>(z.cells.size,z)
 | _=>none
theorem dClear_row {t:TypeId} {zc id o n c esz:Nat} {zv:Value} {h:DHeap} {cs:List Value} (hz:clElem P t=some (zc,zv)) (hall:zv.cells.toList.all flat1=true) (hg:h.get id=some (.row cs esz false)) (hl:o+n*zc≤cs.length) :
 ∃ zs:List Value,zs.length=n*zc∧dClear P #[t] (.slice (some ⟨id,o,none⟩) n c) h=some (.tuple #[],h.set id (.row (setAt cs o zs) esz false)):=by
 unfold clElem at hz
 split at hz
 ·rename_i e e1
  cases e2:P.info? e with
  | none=>rw[e2]at hz;cases hz
  | some inf=>
    rw[e2]at hz
    rw[Option.bind_some]at hz
    cases e3:inf.zero with
    | none=>rw[e3]at hz;simp at hz
    | some z=>
      rw[e3]at hz
      simp only[Option.map_some,Option.some.injEq,Prod.mk.injEq]at hz
      obtain ⟨h1,rfl⟩:=hz
      by_cases h0:n=0
      ·subst h0
       refine ⟨[],by simp,?_⟩
       simp only[dClear,List.getElem?_toArray,List.getElem?_cons_zero,e1,if_true,setAt,set_self hg]
      ·refine ⟨(rowZeros z.cells (n*z.cells.size)).toList,by simp[rowZeros,h1],?_⟩
       simp only[dClear,List.getElem?_toArray,List.getElem?_cons_zero,e1,if_neg h0,e2,e3,hg]
       rw[if_pos ⟨hall,by rw[h1];exact hl⟩]
 ·cases hz
theorem sl_head {F:FRep α} {h:DHeap} {id k c:Nat} {B:List α} {cs zs:List Value} (hg:h.get id=some (.row (setAt cs (k*F.z) zs) F.z false)) (hk:k=B.length) (hl:k*F.z≤cs.length) (hB:cs.take (k*F.z)=B.flatMap F.enc) (hok:∀ x∈B,F.ok x):Sl F.rep (fun i=>i=id) h (.slice (some ⟨id,0,none⟩) k c) B:=by
 subst hk
 refine .inr ⟨id,0,c,_,F.z,false,rfl,rfl,hg,.inr rfl,?_,Els.flat.2 ⟨?_,hok⟩⟩
 ·rw[setAt_length];show 0+B.length*F.z≤_;omega
 ·rw[← hB,List.drop_zero]
  refine List.ext_getElem? fun i=>?_
  show (List.take (B.length*F.z) _)[i]? = _
  rw[List.getElem?_take,List.getElem?_take,setAt_get]
  split
  ·rw[if_neg (by omega)]
  ·rfl
end Go.D

namespace Go.Proofs.Ythjmkmoiopmfcaa
open Go.D
set_option maxRecDepth 100000
theorem compK_snoc {x y:Key}:∀ {L:List Key},compK (L++[y,x])=if y=x then compK (L++[y]) else compK (L++[y])++[x]
 | []=>by
   simp only[List.nil_append,compK]
   split
   ·rename_i e;rw[e]
   ·rfl
 | [z]=>by
   simp only[List.cons_append,List.nil_append,compK]
   by_cases h1:z=y <;> by_cases h2:y=x <;> simp[h1,h2]
 | z :: w :: L=>by
   have ih:=compK_snoc (x:=x) (y:=y) (L:=w :: L)
   simp only[List.cons_append,compK]at ih ⊢
   by_cases h1:z=w
   ·rw[if_pos h1,if_pos h1];exact ih
   ·rw[if_neg h1,if_neg h1,ih]
    split <;> simp
theorem compK_take {l:List Key} {m:Nat} (hm:m+1<l.length):compK (l.take (m+1+1))=if l[m]=l[m+1] then compK (l.take (m+1)) else compK (l.take (m+1))++[l[m+1]]:=by
 rw[List.take_succ_eq_append_getElem hm,List.take_succ_eq_append_getElem (show m<l.length by omega),List.append_assoc]
 exact compK_snoc
theorem row_key {K:DHeap} {id i:Nat} {A:List Key} (r:RowIs fKey K id A) (hi:i<A.length):cellsAt K id (i*2) 2=some (keyV A[i]):=by
 have hm:(i+1)*2≤A.length*2:=Nat.mul_le_mul_right _ hi
 have h1:A.flatMap fKey.enc=(A.take i).flatMap fKey.enc++(fKey.enc A[i]++(A.drop (i+1)).flatMap fKey.enc):=by
  conv=>lhs;rw[← List.take_append_drop i A,List.drop_eq_getElem_cons hi]
  rw[List.flatMap_append,List.flatMap_cons]
 have h2:i*2=((A.take i).flatMap fKey.enc).length:=by rw[flatMap_len];simp[Nat.min_eq_left (Nat.le_of_lt hi)];rfl
 rw[cellsAt_row r (by rw[flatMap_len];show _≤A.length*2;omega),h1,h2,List.drop_left]
 rfl
structure CmpI (l:List Key) (n0 k2 k:Nat) (A:List Key):Prop where
 len:A.length=l.length
 le:n0+k2≤l.length
 one:1≤n0∧1≤k2
 kk:k=(compK (l.take (n0+k2))).length
 hd:A.take k=compK (l.take (n0+k2))
 lt:k<n0+k2
 tl:∀ p,k≤p→A[p]? = l[p]?
theorem CmpI.first {l:List Key} {n0:Nat} (h0:n0+1<l.length) (he:l[n0]=l[n0+1]) (hc:compK (l.take (n0+1))=l.take (n0+1)):CmpI l (n0+1) 1 (n0+1) l where
 len:=rfl
 le:=by omega
 one:=by omega
 kk:=by rw[compK_take h0,if_pos he,hc];simp;omega
 hd:=by rw[compK_take h0,if_pos he,hc]
 lt:=by omega
 tl:=fun _ _=>rfl
theorem CmpI.at {l A:List Key} {n0 k2 k:Nat} (x:CmpI l n0 k2 k A) (h:n0+k2<l.length):∃ (h1:n0+k2<A.length) (h2:n0+k2 - 1<A.length),A[n0+k2]=l[n0+k2]∧A[n0+k2 - 1]=l[n0+k2 - 1]:=by
 have e:=x.len
 have:=x.one
 refine ⟨by omega,by omega,?_,?_⟩
 ·have h1:=x.tl (n0+k2) (by have:=x.lt;omega)
  rw[List.getElem?_eq_getElem (by omega),List.getElem?_eq_getElem h]at h1
  exact Option.some.inj h1
 ·have h1:=x.tl (n0+k2 - 1) (by have:=x.lt;omega)
  rw[List.getElem?_eq_getElem (by omega),List.getElem?_eq_getElem (by omega)]at h1
  exact Option.some.inj h1
theorem CmpI.same {l A:List Key} {n0 k2 k:Nat} (x:CmpI l n0 k2 k A) (h:n0+k2<l.length) (he:l[n0+k2]=l[n0+k2 - 1]):CmpI l n0 (k2+1) k A:=by
 obtain ⟨m,hm⟩:∃ m,n0+k2=m+1:=⟨n0+k2 - 1,by have:=x.one;omega⟩
 obtain ⟨a,b,c,d,e,f,g⟩:=x
 have hs:=compK_take (l:=l) (m:=m) (by omega)
 simp only[hm,Nat.add_sub_cancel]at he
 rw[if_pos he.symm]at hs
 refine ⟨a,by omega,by omega,?_,?_,by omega,g⟩
 ·rw[← Nat.add_assoc,hm,hs,← hm];exact d
 ·rw[← Nat.add_assoc,hm,hs,← hm];exact e
theorem CmpI.other {l A:List Key} {n0 k2 k:Nat} (x:CmpI l n0 k2 k A) (h:n0+k2<l.length) (he:¬ l[n0+k2]=l[n0+k2 - 1]):CmpI l n0 (k2+1) (k+1) (A.set k l[n0+k2]):=by
 obtain ⟨m,hm⟩:∃ m,n0+k2=m+1:=⟨n0+k2 - 1,by have:=x.one;omega⟩
 obtain ⟨a,b,c,d,e,f,g⟩:=x
 have hs:=compK_take (l:=l) (m:=m) (by omega)
 have he':¬ l[m]=l[m+1]:=fun hh=>he (by simp only[hm,Nat.add_sub_cancel];exact hh.symm)
 rw[if_neg he']at hs
 refine ⟨by simp[a],by omega,by omega,?_,?_,by omega,fun p hp=>?_⟩
 ·rw[← Nat.add_assoc]
  simp only[hm]at d ⊢
  rw[hs,List.length_append,← d]
  rfl
 ·rw[← Nat.add_assoc]
  simp only[hm]at e ⊢
  rw[hs,← e,List.take_succ_eq_append_getElem (by simp;omega),List.take_set_of_le (Nat.le_refl _)]
  simp
 ·rw[List.getElem?_set_ne (by omega)]
  exact g p (by omega)
theorem cl_key:clElem Try.prog 24=some (2,.agg #[.int .i32 0,.int .i64 0]):=by kernel_rfl
set_option maxHeartbeats 1000000 in
theorem compact_c {h:DHeap} {id c:Nat} {l:List Key} (hr:RowIs fKey h id l) (hok:∀ x∈l,fKey.ok x) (hl:l.length≤1048576) :
 Ct Try.prog 79 [.slice (some ⟨id,0,none⟩) l.length c] h fun r h1=>∃ c' cs,r=.ret (.slice (some ⟨id,0,none⟩) (compK l).length c')∧h1=h.set id (.row cs 2 false)∧Sl fKey.rep (fun i=>i=id) h1 (.slice (some ⟨id,0,none⟩) (compK l).length c') (compK l):=by
 refine go_79 (by simp) ?_
 obtain ⟨v,hv⟩:∃ v,Value.slice (some ⟨id,0,none⟩) l.length c=v:=⟨_,rfl⟩
 have el:∀ K,dLen Try.prog #[24] v K=some (.int .i64 (l.length:Nat)):=fun K=>by rw[← hv];rfl
 have hself:h=h.set id (.row (l.flatMap fKey.enc) 2 false):=(set_self hr).symm
 have done1:compK l=l→∃ u,some v=some u∧∃ c' cs,DEnd.ret u=.ret (.slice (some ⟨id,0,none⟩) (compK l).length c')∧h=h.set id (.row cs 2 false)∧Sl fKey.rep (fun i=>i=id) h (.slice (some ⟨id,0,none⟩) (compK l).length c') (compK l):=fun e=>by
  refine ⟨v,rfl,c,_,by rw[← hv,e],hself,?_⟩
  have:=hr.sl (o:=0) (n:=l.length) (c:=c) (by omega) hok
  rw[e]
  simpa using this
 by_cases h2:(l.length:Int)<2
 ·have h2':=eq_true h2
  simp -implicitDefEqProofs (disch:=first|omega|simp only[go_sem]) only[go_sem,true_and,c79,hv,el,h2']
  refine done1 ?_
  match l,h2 with
  | [],_=>rfl
  | [_],_=>rfl
  | _ :: _ :: _,h=>simp at h;omega
 have hz2:2≤l.length:=by omega
 have ia:∀ i:Nat,i<l.length→dIndexAddr Try.prog 24 v (.int .i64 (i:Nat))=some (.pointer (some ⟨id,i*2,none⟩)):=fun i hi=>by
  rw[← hv]
  refine (dIndexAddr_at el_24 (by omega) (by omega)).trans ?_
  rw[Nat.zero_add,Int.toNat_natCast]
 have slo:∀ K (A:List Key) (k:Nat),RowIs fKey K id A→k≤l.length→∃ c',dSlice Try.prog 24 v (some (.int .i64 (k:Nat))) none none K=some (.slice (some ⟨id,k*2,none⟩) (l.length - k) c'):=fun K A k r hk=>by
  rw[← hv]
  have:=dSlice_row (c:=c) (o:=0) (n:=l.length) el_24 (by decide) r (lo:=some (.int .i64 (k:Nat))) (hi:=none) (j:=l.length) (i:=k) rfl (bound_nat (k:=.i64) hk)
  rw[Nat.zero_add]at this
  exact ⟨_,this⟩
 have shi:∀ K cs (k:Nat),K.get id=some (.row cs 2 false)→k≤l.length→∃ c',dSlice Try.prog 24 v none (some (.int .i64 (k:Nat))) none K=some (.slice (some ⟨id,0,none⟩) k c'):=fun K cs k r hk=>by
  rw[← hv]
  exact ⟨_,(dSlice_row el_24 (by decide) r (j:=k) (i:=0) (bound_nat (k:=.i64) hk) rfl)⟩
 have hrr:∀ A:List Key,RowIs fKey (h.set id (.row (A.flatMap fKey.enc) 2 false)) id A:=fun A=>RowIs.set rfl
 simp -implicitDefEqProofs (disch:=first|omega|simp only[go_sem]) only[go_sem,true_and,c79,hv,el,h2]
 refine xloop (σ:=Nat) (by kernel_rfl) (fun j s=>s.df=[]∧s.rd=none∧s.h=h∧s.fr 0=some v∧s.fr 3=some (.int .i64 ((j+1:Nat):Int))∧j+1≤l.length∧compK (l.take (j+1))=l.take (j+1)) (fun j=>l.length - j) 0 ?_ ?_
 ·simp -implicitDefEqProofs (disch:=first|omega|simp only[go_sem]) only[go_sem,true_and]
  refine ⟨rfl,by omega,?_⟩
  match l,hz2 with
  | x :: y :: _,_=>rfl
 rintro j ⟨fr,df,K,rd⟩ K' hK' hX ⟨rfl,rfl,rfl,f0,f3,hj,hc⟩
 simp only at f0 f3
 simp -implicitDefEqProofs (disch:=first|omega|simp only[go_sem]) only[go_sem,true_and,f0,f3,el]
 refine XIf_dec (fun hc1=>?_) (fun hc1=>?_)
 ·have hjl:j+1<l.length:=by omega
  have hwm:IntKind.i64.wrap (((j+1:Nat):Int) - 1)=(j:Nat):=by rw[wrap_i64_in (by omega) (by omega)];omega
  have hw1:=wrap_succ hjl (by omega)
  have k1:=row_key hr hjl
  have k0:=row_key hr (show j<l.length by omega)
  simp -implicitDefEqProofs (disch:=first|omega|simp only[go_sem]) only[go_sem,true_and]
  refine dr_79_0 ?_
  by_cases heq:l[j+1]=l[j]
  case neg=>
   have heqd:decide (l[j+1]=l[j])=false:=decide_eq_false heq
   simp -implicitDefEqProofs (disch:=first|omega|simp only[go_sem]) only[go_sem,true_and,l79_0,f0,f3,hwm,ia _ hjl,ia j (show j<l.length by omega),k0,k1,bin_key',heqd,XStab_nil,hw1]
   refine hK' (j+1) _ ?_ (by omega)
   refine ⟨by trivial,by trivial,by trivial,(vy f0),vz,by omega,?_⟩
   rw[compK_take hjl,if_neg (fun e=>heq e.symm),hc,List.take_succ_eq_append_getElem hjl]
  have heqd:decide (l[j+1]=l[j])=true:=decide_eq_true heq
  obtain ⟨c2,hs2⟩:=slo K l (j+1) hr (by omega)
  simp -implicitDefEqProofs (disch:=first|omega|simp only[go_sem]) only[go_sem,true_and,l79_0,f0,f3,hwm,ia _ hjl,ia j (show j<l.length by omega),k0,k1,bin_key',heqd,XStab_nil,hs2]
  obtain ⟨s2,hs2v⟩:∃ s2,Value.slice (some ⟨id,(j+1)*2,none⟩) (l.length - (j+1)) c2=s2:=⟨_,rfl⟩
  have el2:∀ K,dLen Try.prog #[24] s2 K=some (.int .i64 ((l.length - (j+1):Nat):Int)):=fun K=>by rw[← hs2v];rfl
  have ia2:∀ i:Nat,j+1+i<l.length→dIndexAddr Try.prog 24 s2 (.int .i64 (i:Nat))=some (.pointer (some ⟨id,(j+1+i)*2,none⟩)):=fun i hi=>by
   rw[← hs2v]
   refine (dIndexAddr_at el_24 (by omega) (by omega)).trans ?_
   rw[Nat.add_mul (j+1),Int.toNat_natCast]
  rw[hs2v]
  refine xloop (σ:=Nat) (by kernel_rfl) (fun i s=>s.df=[]∧s.rd=none∧s.fr 0=some v∧s.fr 4=some s2∧s.fr 5=some (.int .i64 (i:Nat))∧∃ k A,s.fr 3=some (.int .i64 (k:Nat))∧s.h=K.set id (.row (A.flatMap fKey.enc) 2 false)∧CmpI l (j+1) i k A) (fun i=>l.length - i) 1 ?_ ?_
  ·simp -implicitDefEqProofs (disch:=first|omega|simp only[go_sem]) only[go_sem,true_and,f0,f3]
   exact ⟨rfl,_,l,rfl,hself,.first hjl heq.symm hc⟩
  clear f0 f3
  rintro i ⟨fr,df,M,rd⟩ K2' hK2 hX2 ⟨rfl,rfl,f0,f4,f5,k,A,f3,hM,x⟩
  simp only at f0 f4 f5 f3 hM
  subst hM
  have hrA:=hrr A
  have xle:=x.le
  have xone:=x.one
  simp -implicitDefEqProofs (disch:=first|omega|simp only[go_sem]) only[go_sem,true_and,f4,f5,el2]
  refine XIf_dec (fun hc2=>?_) (fun hc2=>?_)
  ·have hil:j+1+i<l.length:=by omega
   obtain ⟨hA1,hA0,eA1,eA0⟩:=x.at hil
   have k1:=row_key hrA hA1
   have k0:=row_key hrA hA0
   rw[eA1]at k1
   rw[eA0]at k0
   have hwm2:IntKind.i64.wrap (((i:Nat):Int) - 1)=((i - 1:Nat):Int):=by rw[wrap_i64_in (by omega) (by omega)];omega
   have hw2:=wrap_succ (i:=i) (show i<l.length by omega) (by omega)
   have hia1:=ia2 i hil
   have hia0:=ia2 (i - 1) (by omega)
   rw[show j+1+(i - 1)=j+1+i - 1 by omega]at hia0
   simp -implicitDefEqProofs (disch:=first|omega|simp only[go_sem]) only[go_sem,true_and]
   refine dr_79_1 ?_
   by_cases he2:l[j+1+i]=l[j+1+i - 1]
   ·have heqd2:decide (l[j+1+i]=l[j+1+i - 1])=true:=decide_eq_true he2
    simp -implicitDefEqProofs (disch:=first|omega|simp only[go_sem]) only[go_sem,true_and,l79_1,f4,f5,hwm2,hia1,hia0,k0,k1,bin_key,heqd2,Bool.not_true,XStab_nil,hw2]
    refine hK2 (i+1) _ ?_ (by omega)
    exact ⟨by trivial,by trivial,(vy f0),(vy f4),vz,k,A,(vy f3),by trivial,x.same hil he2⟩
   ·have heqd2:decide (l[j+1+i]=l[j+1+i - 1])=false:=decide_eq_false he2
    have xlt:=x.lt
    have xlen:=x.len
    have hst:storeAt (K.set id (.row (A.flatMap fKey.enc) 2 false)) id (k*2) [.int .i32 l[j+1+i].t,.int .i64 l[j+1+i].r]=some (K.set id (.row ((A.set k l[j+1+i]).flatMap fKey.enc) 2 false)):=
     (hrA.store (show k<A.length by omega) l[j+1+i]).trans (congrArg some (set_set _ _ _ _))
    have hw3:=wrap_succ (i:=k) (show k<l.length by omega) (by omega)
    simp -implicitDefEqProofs (disch:=first|omega|simp only[go_sem]) only[go_sem,true_and,l79_1,f0,f3,f4,f5,hwm2,hia1,hia0,ia k (show k<l.length by omega),k0,k1,bin_key,heqd2,Bool.not_false,XStab_nil,hw2,hst,hw3]
    refine hK2 (i+1) _ ?_ (by omega)
    exact ⟨by trivial,by trivial,(vy f0),(vy f4),vz,k+1,A.set k l[j+1+i],vz,by trivial,x.other hil he2⟩
  ·have hil:j+1+i=l.length:=by omega
   have xlt:=x.lt
   have xlen:=x.len
   have xk:=x.kk
   have xhd:=x.hd
   rw[hil,List.take_length]at xk xhd
   obtain ⟨c3,hs3⟩:=slo _ A k hrA (by omega)
   obtain ⟨zs,hzs,hcl⟩:=dClear_row (esz:=2) (n:=l.length - k) (c:=c3) (o:=k*2) cl_key rfl hrA (by rw[flatMap_len];show _≤A.length*2;omega)
   rw[set_set]at hcl
   obtain ⟨c4,hs4⟩:=shi (K.set id (.row (setAt (A.flatMap fKey.enc) (k*2) zs) 2 false)) _ k (get_set_same _ _) (by omega)
   refine hX2 _ _ (by simp) ?_
   simp -implicitDefEqProofs (disch:=first|omega|simp only[go_sem]) only[go_sem,true_and,f0,f3,hs3,hcl,hs4]
   refine hX _ _ (by simp) ?_
   simp -implicitDefEqProofs (disch:=first|omega|simp only[go_sem]) only[go_sem,true_and]
   refine ⟨_,rfl,c4,_,by rw[← xk],rfl,?_⟩
   rw[← xk]
   refine sl_head (cs:=A.flatMap fKey.enc) (zs:=zs) (get_set_same _ _) xk (by rw[flatMap_len];show k*2≤A.length*2;omega) ?_ fun y hy=>hok y (mem_compK.1 hy)
   have hAk:A.flatMap fKey.enc=(A.take k).flatMap fKey.enc++(A.drop k).flatMap fKey.enc:=by rw[← List.flatMap_append,List.take_append_drop]
   have hlk:k*fKey.z=((A.take k).flatMap fKey.enc).length:=by rw[flatMap_len];simp[Nat.min_eq_left (show k≤A.length by omega)]
   rw[hAk,hlk,List.take_left,xhd]
 ·have:j+1=l.length:=by omega
  rw[this,List.take_length]at hc
  refine hX _ _ (by simp) ?_
  simp -implicitDefEqProofs (disch:=first|omega|simp only[go_sem]) only[go_sem,true_and,f0]
  exact done1 hc
end Go.Proofs.Ythjmkmoiopmfcaa

namespace Go.Proofs.Ythjmkmoiopmfcaa
open Go.D
set_option maxRecDepth 100000
section
variable {α:Type} (key:α→Key)
def lastB (l:List α) (k:Key):Option α:=l.reverse.find? fun p=>key p=k
def byK (l:List α):List α:=(keysN (l.map key)).filterMap (lastB key l)
abbrev UpB (l:List α):Prop:=l.Pairwise fun a b=>keyLt (key a) (key b)=true
variable {key}
theorem lastB_some {l:List α} {k:Key} {x:α} (h:lastB key l k=some x):x∈l∧key x=k:=by
 refine ⟨List.mem_reverse.1 (List.mem_of_find?_eq_some h),?_⟩
 have:=List.find?_some h
 simpa using this
theorem lastB_none {l:List α} {k:Key}:lastB key l k=none↔k∉l.map key:=by
 unfold lastB
 rw[List.find?_eq_none]
 constructor
 ·intro h hm
  obtain ⟨p,hp,rfl⟩:=List.mem_map.1 hm
  have:=h p (List.mem_reverse.2 hp)
  simp at this
 ·intro h p hp e
  exact h (List.mem_map.2 ⟨p,List.mem_reverse.1 hp,by simpa using e⟩)
theorem lastB_mem {l:List α} {k:Key} (h:k∈l.map key):∃ x,lastB key l k=some x:=by
 cases hq:lastB key l k with
 | some q=>exact ⟨q,rfl⟩
 | none=>exact absurd h (lastB_none.1 hq)
theorem lastB_snoc {l:List α} {x:α} {k:Key}:lastB key (l++[x]) k=if key x=k then some x else lastB key l k:=by
 unfold lastB
 rw[List.reverse_append]
 by_cases h:key x=k
 ·simp[h]
 ·simp[h]
theorem mem_byK {l:List α} {x:α}:x∈byK key l↔lastB key l (key x)=some x:=by
 unfold byK
 rw[List.mem_filterMap]
 constructor
 ·rintro ⟨k,_,hx⟩
  rw[(lastB_some hx).2]
  exact hx
 ·intro h
  exact ⟨key x,mem_keysN.2 (List.mem_map.2 ⟨x,(lastB_some h).1,rfl⟩),h⟩
theorem byK_up (l:List α):UpB key (byK key l):=by
 unfold byK UpB
 rw[List.pairwise_filterMap]
 exact (keysN_up (l.map key)).imp fun {a b} hab x hx y hy=>by
  rw[(lastB_some hx).2,(lastB_some hy).2]
  exact hab
theorem upB_eq:∀ {l m:List α},UpB key l→UpB key m→(∀ x,x∈l↔x∈m)→l=m
 | [],[],_,_,_=>rfl
 | [],y :: m,_,_,h=>by have:=(h y).2 (by simp);simp at this
 | x :: l,[],_,_,h=>by have:=(h x).1 (by simp);simp at this
 | x :: l,y :: m,hl,hm,h=>by
   obtain ⟨hx,hl'⟩:=List.pairwise_cons.1 hl
   obtain ⟨hy,hm'⟩:=List.pairwise_cons.1 hm
   have e:x=y:=by
    rcases List.mem_cons.1 ((h x).1 (by simp)) with e | hxm
    ·exact e
    rcases List.mem_cons.1 ((h y).2 (by simp)) with e | hyl
    ·exact e.symm
    have h1:=hy x hxm
    have h2:=hx y hyl
    rw[keyLt_asym h1]at h2
    cases h2
   subst e
   congr 1
   refine upB_eq hl' hm' fun z=>?_
   have nx:∀ {k:List α},(∀ w∈k,keyLt (key x) (key w)=true)→z∈k→z≠x:=fun hk hz e=>by
    subst e
    have:=hk z hz
    rw[keyLt_irr]at this
    cases this
   constructor
   ·intro hz
    rcases List.mem_cons.1 ((h z).1 (List.mem_cons_of_mem _ hz)) with e | hz2
    ·exact absurd e (nx hx hz)
    ·exact hz2
   ·intro hz
    rcases List.mem_cons.1 ((h z).2 (List.mem_cons_of_mem _ hz)) with e | hz2
    ·exact absurd e (nx hy hz)
    ·exact hz2
theorem byK_len (l:List α):(byK key l).length≤l.length:=by
 have h1:=List.length_filterMap_le (lastB key l) (keysN (l.map key))
 have h2:=keysN_len (l.map key)
 rw[List.length_map]at h2
 exact Nat.le_trans h1 h2
theorem mem_of_byK {l:List α} {x:α} (h:x∈byK key l):x∈l:=(lastB_some (mem_byK.1 h)).1
end
end Go.Proofs.Ythjmkmoiopmfcaa

namespace Go.Proofs.Ythjmkmoiopmfcaa
open Go.D
set_option maxRecDepth 100000
structure Outc where
 e:Int
 vs:List Int
 ch:List Change
 s:Int
 deriving DecidableEq
structure RS where
 reg:List Int
 w:List Change
 out:List Int
def valE (m:List Pair) (w:List Change) (k:Key):Int × Bool:=
 match lastB Change.k w k with
 | some c=>(c.v,!c.e)
 | none=>match lastB Pair.k m k with
   | some p=>(p.v,true)
   | none=>(0,false)
def needsN (t:Txn) (l:List Pair):List Pair:=(byK Pair.k l).filter fun p=>decide (p.k∈t.reads)
def key0:Key:=⟨0,0⟩
def chg0:Change:=⟨key0,0,false⟩
abbrev RS.r (s:RS) (i:Int):Int:=s.reg.getD i.toNat 0
abbrev RS.set (s:RS) (i:Int) (v:Int):RS:={ s with reg:=s.reg.set i.toNat v }
abbrev RS.put (s:RS) (c:Change):RS:={ s with w:=s.w++[c] }
def farK (x:Instr) (s:RS):Key:=⟨IntKind.i32.wrap x.imm,s.r x.b⟩
def stepE (t:Txn) (m:List Pair) (x:Instr) (s:RS):Int × RS × Option Int:=
 if x.op=0 then (0,s,none)
 else if x.op=1 then (-1,s.set x.a x.imm,none)
 else if x.op=2 then (-1,s.set x.a (t.args.getD x.imm.toNat 0),none)
 else if x.op=7 then (-1,s.set x.a (s.r x.b),none)
 else if x.op=3 then (-1,s.set x.a (valE m s.w (t.reads.getD x.imm.toNat key0)).1,none)
 else if x.op=4 then (-1,s.set x.a (if (valE m s.w (t.reads.getD x.imm.toNat key0)).2 then 1 else 0),none)
 else if x.op=5 then (-1,s.put ⟨t.writes.getD x.imm.toNat key0,s.r x.a,false⟩,none)
 else if x.op=6 then (-1,s.put ⟨t.writes.getD x.imm.toNat key0,0,true⟩,none)
 else if x.op=19 then (-1,s.set x.a (narrow (s.r x.a) x.imm),none)
 else if x.op=22 then (-1,s,some x.imm)
 else if x.op=23 then (-1,s,if s.r x.a=0 then none else some x.imm)
 else if x.op=24 then (if 8≤s.out.length then (5,s,none) else (-1,{ s with out:=s.out++[s.r x.a] },none))
 else if x.op=25 then (100+x.imm,s,none)
 else if x.op=26 then (if farK x s∈t.reads then (-1,s.set x.a (valE m s.w (farK x s)).1,none) else (4,s,none))
 else if x.op=27 then (if farK x s∈t.writes then (-1,s.put ⟨farK x s,s.r x.a,false⟩,none) else (4,s,none))
 else if (bin2 x.op (s.r x.a) (s.r x.b)).2=0 then (-1,s.set x.a (bin2 x.op (s.r x.a) (s.r x.b)).1,none)
 else ((bin2 x.op (s.r x.a) (s.r x.b)).2,s,none)
def runF (t:Txn) (m:List Pair):Nat→Nat→Nat→RS→Outc
 | n,i,k,s=>
   if t.code.length≤i then ⟨0,s.out,byK Change.k s.w,k⟩ else
   match n with
   | 0=>⟨2,[],[],k⟩
   | n+1=>
     if (stepE t m (oneI t.code i) s).1=-1 then runF t m n (((stepE t m (oneI t.code i) s).2.2.getD (i+sizeI (t.code.getD i 0))).toNat) (k+1) (stepE t m (oneI t.code i) s).2.1
     else if (stepE t m (oneI t.code i) s).1=0 then ⟨0,(stepE t m (oneI t.code i) s).2.1.out,byK Change.k (stepE t m (oneI t.code i) s).2.1.w,(k+1:Nat)⟩
     else ⟨(stepE t m (oneI t.code i) s).1,[],[],(k+1:Nat)⟩
def rs0:RS:=⟨[0,0,0,0,0,0,0,0],[],[]⟩
def fuelN (f:Int):Nat:=(max 0 (min f 4096)).toNat
def runE (t:Txn) (l:List Pair) (f:Int):Outc:=if txnE t≠0 then ⟨1,[],[],0⟩ else runF t (needsN t l) (fuelN f) 0 0 rs0
theorem fuelN_le (f:Int):fuelN f≤4096:=by unfold fuelN;omega
theorem runF_end {t:Txn} {m:List Pair} {n i k:Nat} {s:RS} (h:t.code.length≤i):runF t m n i k s=⟨0,s.out,byK Change.k s.w,k⟩:=by
 unfold runF
 rw[if_pos h]
theorem runF_fuel {t:Txn} {m:List Pair} {i k:Nat} {s:RS} (h:i<t.code.length):runF t m 0 i k s=⟨2,[],[],k⟩:=by
 unfold runF
 rw[if_neg (by omega)]
theorem runF_go {t:Txn} {m:List Pair} {n i k:Nat} {s:RS} (h:i<t.code.length) (hs:(stepE t m (oneI t.code i) s).1=-1) :
 runF t m (n+1) i k s=runF t m n (((stepE t m (oneI t.code i) s).2.2.getD (i+sizeI (t.code.getD i 0))).toNat) (k+1) (stepE t m (oneI t.code i) s).2.1:=by
 conv=>lhs;unfold runF
 rw[if_neg (by omega)]
 simp only[hs,if_true]
theorem runF_halt {t:Txn} {m:List Pair} {n i k:Nat} {s:RS} (h:i<t.code.length) (hs:(stepE t m (oneI t.code i) s).1=0) :
 runF t m (n+1) i k s=⟨0,(stepE t m (oneI t.code i) s).2.1.out,byK Change.k (stepE t m (oneI t.code i) s).2.1.w,(k+1:Nat)⟩:=by
 unfold runF
 rw[if_neg (by omega)]
 simp only[hs,if_true]
 rw[if_neg (by decide)]
theorem runF_stop {t:Txn} {m:List Pair} {n i k:Nat} {s:RS} (h:i<t.code.length) (hs:(stepE t m (oneI t.code i) s).1 ≠ -1) (h0:(stepE t m (oneI t.code i) s).1≠0) :
 runF t m (n+1) i k s=⟨(stepE t m (oneI t.code i) s).1,[],[],(k+1:Nat)⟩:=by
 unfold runF
 rw[if_neg (by omega)]
 simp only[hs,h0,if_false]
theorem walkF_at {l:List Int}:∀ {n i:Nat},l.length - i≤n→(walkF l n i).2=0→i≤l.length→∀ j x,(walkF l n i).1[j]? = some x →
 ∃ p:Nat,x=oneI l p∧i≤p∧(oneT l p).2.2=0∧(j=0→p=i)∧((p:Int)+sizeI (l.getD p 0)).toNat=(match (walkF l n i).1[j+1]? with | some y=>y.pos.toNat | none=>l.length)
 | 0,i,_,_,_,j,x,hx=>by simp[walkF]at hx
 | n+1,i,hn,he,hi,j,x,hx=>by
   by_cases hil:l.length≤i
   ·simp only[walkF]at hx
    rw[if_pos hil]at hx
    simp at hx
   ·by_cases h1:(oneT l i).2.2=0
    ·obtain ⟨a,b,c,d,e,f⟩:=oneT_next h1
     have hw:walkF l (n+1) i=((oneT l i).1 :: (walkF l n (oneT l i).2.1.toNat).1,(walkF l n (oneT l i).2.1.toNat).2):=by
      simp only[walkF]
      rw[if_neg hil,if_pos h1]
     rw[hw]at he hx ⊢
     simp only at he hx ⊢
     have ih:=walkF_at (n:=n) (i:=(oneT l i).2.1.toNat) (by omega) he (by omega)
     cases j with
     | zero=>
       simp only[List.getElem?_cons_zero,Option.some.injEq]at hx
       subst hx
       refine ⟨i,a,Nat.le_refl _,h1,fun _=>rfl,?_⟩
       rw[List.getElem?_cons_succ]
       cases hy:(walkF l n (oneT l i).2.1.toNat).1[0]? with
       | some y=>
         obtain ⟨p,e1,_,_,e2,_⟩:=ih 0 y hy
         have:=e2 rfl
         subst this
         rw[e1]
         show _=(((oneT l i).2.1.toNat:Nat):Int).toNat
         rw[b]
         simp only[Int.toNat_natCast]
       | none=>
         have hnil:(walkF l n (oneT l i).2.1.toNat).1=[]:=by
          cases hl:(walkF l n (oneT l i).2.1.toNat).1 with
          | nil=>rfl
          | cons y ys=>rw[hl]at hy;simp at hy
         have hge:l.length≤(oneT l i).2.1.toNat:=by
          cases n with
          | zero=>omega
          | succ n=>
            simp only[walkF]at hnil he
            by_cases h3:l.length≤(oneT l i).2.1.toNat
            ·exact h3
            ·rw[if_neg h3]at hnil he
             split at hnil
             ·simp at hnil
             ·rename_i h4
              rw[if_neg h4]at he
              exact absurd he h4
         show _=l.length
         omega
     | succ j=>
       rw[List.getElem?_cons_succ]at hx
       obtain ⟨p,e1,e2,e3,_,e5⟩:=ih j x hx
       refine ⟨p,e1,by omega,e3,fun h=>by omega,?_⟩
       rw[e5,List.getElem?_cons_succ]
    ·simp only[walkF]at he
     rw[if_neg hil,if_neg h1]at he
     exact absurd he h1
theorem walkF_up {l:List Int}:∀ {n i:Nat},(walkF l n i).1.Pairwise (fun x y=>x.pos<y.pos)∧∀ x∈(walkF l n i).1,(i:Int)≤x.pos
 | 0,i=>by simp[walkF]
 | n+1,i=>by
   simp only[walkF]
   split
   ·simp
   ·split
    ·rename_i h1
     obtain ⟨a,b,c,d,e,f⟩:=oneT_next h1
     obtain ⟨u1,u2⟩:=walkF_up (l:=l) (n:=n) (i:=(oneT l i).2.1.toNat)
     have hp:(oneT l i).1.pos=i:=by rw[a];rfl
     refine ⟨List.pairwise_cons.2 ⟨fun y hy=>?_,u1⟩,fun x hx=>?_⟩
     ·have:=u2 y hy
      show (oneT l i).1.pos<y.pos
      omega
     ·rcases List.mem_cons.1 hx with rfl | hx
      ·omega
      ·have:=u2 x hx
       omega
    ·simp
def posN (t:Txn) (i:Nat):Nat:=match (decL t.code)[i]? with | some x=>x.pos.toNat | none=>t.code.length
theorem decL_of {t:Txn} (h:decE t.code=0):decL t.code=(walkAt t.code 0).1∧(walkAt t.code 0).2=0∧targetsOk (walkAt t.code 0).1=true∧t.code.length≤512:=by
 refine ⟨by rw[decL,if_pos h],?_⟩
 unfold decE at h
 split at h
 ·exact absurd h (by decide)
 ·rename_i h1
  split at h
  ·rename_i h2
   exact absurd h h2
  ·rename_i h2
   split at h
   ·rename_i h3
    exact ⟨by simpa using h2,h3,by omega⟩
   ·exact absurd h (by decide)
theorem code_at {t:Txn} (h:decE t.code=0) {i:Nat} {x:Instr} (hx:(decL t.code)[i]? = some x):posN t i<t.code.length∧x=oneI t.code (posN t i)∧x.pos=posN t i∧(oneT t.code (posN t i)).2.2=0∧((posN t i:Nat)+sizeI (t.code.getD (posN t i) 0):Int).toNat=posN t (i+1):=by
 obtain ⟨e,e2,_,_⟩:=decL_of h
 have hx':=hx
 rw[e]at hx'
 obtain ⟨p,a,b,c,d,f⟩:=walkF_at (by omega) e2 (Nat.zero_le _) i x hx'
 have hp:posN t i=p:=by
  unfold posN
  rw[hx]
  show x.pos.toNat=p
  rw[a]
  show ((p:Int)).toNat=p
  simp
 obtain ⟨_,_,hlt,_⟩:=oneT_next c
 rw[hp]
 refine ⟨hlt,a,by rw[a];rfl,c,?_⟩
 rw[f]
 unfold posN
 rw[e]
 rfl
theorem code_zero {t:Txn} (h:decE t.code=0):posN t 0=0:=by
 obtain ⟨e,e2,_,_⟩:=decL_of h
 cases hx:(decL t.code)[0]? with
 | some x=>
   have hx':=hx
   rw[e]at hx'
   obtain ⟨p,a,b,c,d,f⟩:=walkF_at (by omega) e2 (Nat.zero_le _) 0 x hx'
   unfold posN
   rw[hx]
   show x.pos.toNat=0
   rw[a,d rfl]
   rfl
 | none=>
   have hnil:(walkAt t.code 0).1=[]:=by
    rw[← e]
    cases hl:decL t.code with
    | nil=>rfl
    | cons y ys=>rw[hl]at hx;simp at hx
   have hl0:t.code.length≤0:=by
    by_cases h0:0<t.code.length
    ·rw[walkAt_step h0]at hnil e2
     split at hnil
     ·simp at hnil
     ·rename_i h4
      rw[if_neg h4]at e2
      exact absurd e2 h4
    ·omega
   unfold posN
   rw[hx]
   show t.code.length=0
   omega
theorem code_up {t:Txn}:(decL t.code).Pairwise (fun x y=>x.pos<y.pos):=by
 unfold decL
 split
 ·exact walkF_up.1
 ·exact .nil
theorem code_end {t:Txn} {i:Nat} (h:(decL t.code).length≤i):posN t i=t.code.length:=by
 unfold posN
 rw[List.getElem?_eq_none h]
theorem code_jump {t:Txn} (h:decE t.code=0) {x:Instr} (hx:x∈decL t.code) (hj:jumpsB x.op=true):∃ i y,(decL t.code)[i]? = some y∧y.pos=x.imm∧x.imm.toNat=posN t i:=by
 obtain ⟨e,_,e3,_⟩:=decL_of h
 rw[e]at hx
 unfold targetsOk at e3
 have:=List.all_eq_true.1 e3 x hx
 rw[hj]at this
 simp only[Bool.not_true,Bool.false_or,decide_eq_true_eq]at this
 obtain ⟨y,hy,hp⟩:=List.mem_map.1 this
 obtain ⟨i,hi⟩:=List.mem_iff_getElem?.1 hy
 rw[← e]at hi
 refine ⟨i,y,hi,hp,?_⟩
 unfold posN
 rw[hi,← hp]
theorem txn_ok {t:Txn} (h:txnE t=0):decE t.code=0∧(∀ x∈decL t.code,badI t x=false)∧t.args.length≤8∧t.reads.length≤16∧t.writes.length≤16:=by
 unfold txnE at h
 split at h
 ·exact absurd h (by decide)
 split at h
 ·exact absurd h (by decide)
 rename_i h2
 split at h
 ·exact absurd h (by decide)
 split at h
 ·rename_i h4
  exact absurd h h4
 rename_i h4
 split at h
 ·exact absurd h (by decide)
 rename_i h5
 refine ⟨by simpa using h4,fun x hx=>?_,by omega,by omega,by omega⟩
 simp only[Bool.not_eq_true,List.any_eq_false]at h5
 simpa using h5 x hx
structure InsOk (t:Txn) (x:Instr):Prop where
 a:0≤x.a∧x.a<8
 b:0≤x.b∧x.b<8
 imm : -32768≤x.imm∧x.imm≤65535
 imm0:x.op≠1→0≤x.imm
 rd:x.op=3∨x.op=4→x.imm<t.reads.length
 wr:x.op=5∨x.op=6→x.imm<t.writes.length
 ar:x.op=2→x.imm<t.args.length
 op:0≤x.op∧x.op<28
theorem ins_ok {t:Txn} (h:txnE t=0) (hb:∀ j,0≤t.code.getD j 0∧t.code.getD j 0≤255) {i:Nat} {x:Instr} (hx:(decL t.code)[i]? = some x):InsOk t x:=by
 obtain ⟨h1,h2,_,_,_⟩:=txn_ok h
 obtain ⟨_,e1,_,e3,_⟩:=code_at h1 hx
 have hbad:=h2 x (List.mem_of_getElem? hx)
 obtain ⟨_,_,_,d,_,f⟩:=oneT_next e3
 obtain ⟨p,hp⟩:∃ p,posN t i=p:=⟨_,rfl⟩
 rw[hp]at e1 e3 d f
 rw[← e1]at f
 have hop:x.op=t.code.getD p 0:=by rw[e1];rfl
 have hs:=size_split (n:=x.op) (by rw[hop];omega)
 have b3:=hb (p+1+(if firstB (t.code.getD p 0) then 1 else 0)+if twoB (t.code.getD p 0) then 1 else 0)
 have b4:=hb (p+1+(if firstB (t.code.getD p 0) then 1 else 0)+(if twoB (t.code.getD p 0) then 1 else 0)+1)
 have himm:x.imm=immW (t.code.getD p 0) (wideI (t.code.getD p 0)) (t.code.getD (p+1+(if firstB (t.code.getD p 0) then 1 else 0)+if twoB (t.code.getD p 0) then 1 else 0) 0) (t.code.getD (p+1+(if firstB (t.code.getD p 0) then 1 else 0)+(if twoB (t.code.getD p 0) then 1 else 0)+1) 0):=by rw[e1];rfl
 generalize t.code.getD (p+1+(if firstB (t.code.getD p 0) then 1 else 0)+if twoB (t.code.getD p 0) then 1 else 0) 0=y3 at b3 himm
 generalize t.code.getD (p+1+(if firstB (t.code.getD p 0) then 1 else 0)+(if twoB (t.code.getD p 0) then 1 else 0)+1) 0=y4 at b4 himm
 have hii:(-32768≤x.imm∧x.imm≤65535)∧(x.op≠1→0≤x.imm):=by
  rw[himm,hop]
  unfold immW
  constructor
  ·repeat' split
   all_goals omega
  ·intro hne
   repeat' split
   all_goals omega
 have ha0:firstB x.op=false→x.a=0:=fun hf=>by
  rw[e1]at hf ⊢
  show (if firstB (t.code.getD p 0)=true then _ else 0)=0
  rw[if_neg (by rw[show firstB (t.code.getD p 0)=false from hf];decide)]
 have hb0:twoB x.op=false→x.b=0:=fun hf=>by
  rw[e1]at hf ⊢
  show (if twoB (t.code.getD p 0)=true then _ else 0)=0
  rw[if_neg (by rw[show twoB (t.code.getD p 0)=false from hf];decide)]
 have hidx:(firstB x.op=true→0≤x.a∧x.a<8)∧(twoB x.op=true→0≤x.b∧x.b<8):=by
  unfold indexE at f
  split at f
  ·exact absurd f (by decide)
  ·rename_i hn
   simp only[Bool.or_eq_true,Bool.and_eq_true,decide_eq_true_eq,not_or,not_and]at hn
   refine ⟨fun h=>?_,fun h=>?_⟩
   ·have:=hn.1 h
    omega
   ·have:=hn.2 h
    omega
 unfold badI at hbad
 refine ⟨?_,?_,hii.1,hii.2,fun h=>?_,fun h=>?_,fun h=>?_,hs.2.2⟩
 ·cases hf:firstB x.op with
  | true=>exact hidx.1 hf
  | false=>rw[ha0 hf];decide
 ·cases hf:twoB x.op with
  | true=>exact hidx.2 hf
  | false=>rw[hb0 hf];decide
 ·rw[if_pos h]at hbad
  simpa using hbad
 ·rw[if_neg (by omega),if_pos h]at hbad
  simpa using hbad
 ·rw[if_neg (by omega),if_neg (by omega),if_pos h]at hbad
  simpa using hbad
end Go.Proofs.Ythjmkmoiopmfcaa

namespace Go.Proofs.Ythjmkmoiopmfcaa
open Go.D
set_option maxRecDepth 100000
theorem runF_steps {t:Txn} {m:List Pair}:∀ {n i k:Nat} {s:RS},(k:Int)≤(runF t m n i k s).s∧(runF t m n i k s).s≤k+n
 | n,i,k,s=>by
   by_cases h:t.code.length≤i
   ·rw[runF_end h]
    show (k:Int)≤k∧(k:Int)≤k+n
    omega
   ·cases n with
    | zero=>rw[runF_fuel (by omega)];show (k:Int)≤k∧(k:Int)≤k+(0:Nat);omega
    | succ n=>
      by_cases h1:(stepE t m (oneI t.code i) s).1=-1
      ·rw[runF_go (by omega) h1]
       have:=runF_steps (t:=t) (m:=m) (n:=n) (i:=((stepE t m (oneI t.code i) s).2.2.getD (i+sizeI (t.code.getD i 0))).toNat) (k:=k+1) (s:=(stepE t m (oneI t.code i) s).2.1)
       omega
      ·by_cases h0:(stepE t m (oneI t.code i) s).1=0
       ·rw[runF_halt (by omega) h0]
        show (k:Int)≤((k+1:Nat):Int)∧((k+1:Nat):Int)≤k+((n+1:Nat):Int)
        omega
       ·rw[runF_stop (by omega) h1 h0]
        show (k:Int)≤((k+1:Nat):Int)∧((k+1:Nat):Int)≤k+((n+1:Nat):Int)
        omega
theorem ite_all {α:Type} {P:α→Prop} {c:Prop} [Decidable c] {a b:α} (h1:c→P a) (h2:¬ c→P b):P (if c then a else b):=by
 by_cases h:c
 ·rw[if_pos h];exact h1 h
 ·rw[if_neg h];exact h2 h
theorem stepE_small {t:Txn} {m:List Pair} {x:Instr} {s:RS}:(stepE t m x s).2.1.w.length≤s.w.length+1∧(stepE t m x s).2.1.out.length≤s.out.length+1:=by
 unfold stepE
 repeat' (refine ite_all (P:=fun r:Int × RS × Option Int=>r.2.1.w.length≤s.w.length+1∧r.2.1.out.length≤s.out.length+1) (fun _=>?_) (fun _=>?_))
 all_goals simp
theorem runF_len {t:Txn} {m:List Pair}:∀ {n i k:Nat} {s:RS},(runF t m n i k s).vs.length≤s.out.length+n∧(runF t m n i k s).ch.length≤s.w.length+n
 | n,i,k,s=>by
   by_cases h:t.code.length≤i
   ·rw[runF_end h]
    have:=byK_len (key:=Change.k) s.w
    exact ⟨Nat.le_add_right _ _,Nat.le_trans this (Nat.le_add_right _ _)⟩
   ·cases n with
    | zero=>rw[runF_fuel (by omega)];exact ⟨Nat.zero_le _,Nat.zero_le _⟩
    | succ n=>
      have hs:=stepE_small (t:=t) (m:=m) (x:=oneI t.code i) (s:=s)
      by_cases h1:(stepE t m (oneI t.code i) s).1=-1
      ·rw[runF_go (by omega) h1]
       have:=runF_len (t:=t) (m:=m) (n:=n) (i:=((stepE t m (oneI t.code i) s).2.2.getD (i+sizeI (t.code.getD i 0))).toNat) (k:=k+1) (s:=(stepE t m (oneI t.code i) s).2.1)
       omega
      ·by_cases h0:(stepE t m (oneI t.code i) s).1=0
       ·rw[runF_halt (by omega) h0]
        have:=byK_len (key:=Change.k) (stepE t m (oneI t.code i) s).2.1.w
        show (stepE t m (oneI t.code i) s).2.1.out.length≤_∧(byK Change.k (stepE t m (oneI t.code i) s).2.1.w).length≤_
        omega
       ·rw[runF_stop (by omega) h1 h0]
        exact ⟨Nat.zero_le _,Nat.zero_le _⟩
theorem runF_small {t:Txn} {l:List Pair} {f:Int}:(runE t l f).vs.length≤4096∧(runE t l f).ch.length≤4096:=by
 unfold runE
 split
 ·exact ⟨Nat.zero_le _,Nat.zero_le _⟩
 ·have h1:=runF_len (t:=t) (m:=needsN t l) (n:=fuelN f) (i:=0) (k:=0) (s:=rs0)
  have h2:=fuelN_le f
  have h3:rs0.out.length=0:=rfl
  have h4:rs0.w.length=0:=rfl
  omega
end Go.Proofs.Ythjmkmoiopmfcaa

namespace Go.Proofs.Ythjmkmoiopmfcaa
open Go.D
set_option maxRecDepth 100000
def goneB (l:List Change) (k:Key):Bool:=match lastB Change.k l k with
 | some c=>c.e
 | none=>false
def addsB (l:List Change):List Pair:=l.filterMap fun c=>if c.e then none else some ⟨c.k,c.v⟩
def applyN (m:List Pair) (l:List Change):List Pair:=(byK Pair.k (m++addsB (byK Change.k l))).filter fun p=>!goneB (byK Change.k l) p.k
theorem applyN_len (m:List Pair) (l:List Change):(applyN m l).length≤m.length+l.length:=by
 unfold applyN
 have h1:=List.length_filter_le (fun p:Pair=>!goneB (byK Change.k l) p.k) (byK Pair.k (m++addsB (byK Change.k l)))
 have h2:=byK_len (key:=Pair.k) (m++addsB (byK Change.k l))
 have h3:(addsB (byK Change.k l)).length≤(byK Change.k l).length:=List.length_filterMap_le _ _
 have h4:=byK_len (key:=Change.k) l
 rw[List.length_append]at h2
 omega
end Go.Proofs.Ythjmkmoiopmfcaa

namespace Go.Proofs.Ythjmkmoiopmfcaa
open Go.D
set_option maxRecDepth 100000
theorem par_pairs:Par Try.prog 27 false:=⟨_,Try.underlying27,rfl⟩
theorem par_changes:Par Try.prog 30 false:=⟨_,Try.underlying30,rfl⟩
theorem lay_change:Lays Try.prog 51 fChange.rep (fun _=>4):=
 (Lays.of (l:=[(44,0),(2,2),(4,3)]) (by kernel_rfl) (by kernel_rfl) (.cons lay_key (.cons lay_i64 (.one lay_bool)))).conv (Q:=fChange.rep) rfl (fun x=>⟨x.1,x.2.1,x.2.2⟩)
   (fun _ _ _ _ h=>by
     obtain ⟨c1,c2,rfl,⟨rfl,k1⟩,c3,c4,rfl,⟨rfl,k2⟩,rfl,k3⟩:=h
     exact ⟨rfl,k1,k2,k3⟩) (fun _=>Nat.le_refl _)
theorem lay_changes:Lays Try.prog 30 (rSl fChange.rep) (sumB fun _=>4):=.slice (e:=51) (by kernel_rfl) (by kernel_rfl) (by decide) lay_change
theorem sumB_len3:∀ l:List Pair,3*l.length≤sumB (fun _=>3) l
 | []=>Nat.zero_le _
 | _ :: l=>by
   have:=sumB_len3 l
   simp only[sumB,List.length_cons]
   omega
theorem sumB_len4:∀ l:List Change,4*l.length≤sumB (fun _=>4) l
 | []=>Nat.zero_le _
 | _ :: l=>by
   have:=sumB_len4 l
   simp only[sumB,List.length_cons]
   omega
end Go.Proofs.Ythjmkmoiopmfcaa

namespace Go.D
open Go.Sort Go.Proofs
variable {P:Program} {α:Type}
def h00:DHeap:=⟨fun _=>none,0,0⟩
theorem sim00 (w:World):Sim (fun _=>none) h00 w where
 lt:=fun _ _ h=>(by cases h)
 blk:=fun _ _ h=>(by cases h)
 obj:=fun _ _ h=>(by cases h)
 sep:=fun _ _ _ _ h=>(by cases h)
 glob:=fun g hg=>absurd hg (Nat.not_lt_zero g)
theorem grown_of {ι':Inj} {h':DHeap} {w w':World} (st:Step (fun _=>none) ι' h00 h' w w'):∃ q os',w'=grow (w.drewN q) os':=by
 refine ⟨w'.drawn - w.drawn,w'.heap.extract w.heap.size w'.heap.size,?_⟩
 have hh:w'.heap=w.heap++w'.heap.extract w.heap.size w'.heap.size:=by
  refine Array.ext_getElem? fun b=>?_
  rw[Array.getElem?_append]
  by_cases hb:b<w.heap.size
  ·rw[if_pos hb]
   exact st.frame b hb fun id e he=>by cases he
  ·rw[if_neg hb,Array.getElem?_extract]
   have:=st.size
   by_cases hb2:b<w'.heap.size
   ·rw[if_pos (by omega)]
    congr 1;omega
   ·rw[Array.getElem?_eq_none (by omega),if_neg (by omega)]
 have h1:=st.os
 have h2:=st.tape
 have h3:=st.output
 have h4:=st.drawn
 obtain ⟨hp,tp,dr,o,out⟩:=w'
 simp only at hh h1 h2 h3 h4 ⊢
 subst h1 h2 h3
 rw[World.mk.injEq]
 refine ⟨hh,rfl,?_,rfl,rfl⟩
 show dr=w.drawn+(dr - w.drawn)
 omega
theorem VRel.aggFlat {ι:Inj} {l:List Value} (h:l.all flat1=true):VRel ι (.agg l.toArray) (.agg l.toArray):=
 .agg rfl fun i v v' a b=>by
  rw[a]at b;cases b
  exact flat1_rel ι (list_all_get h (by simpa using a))
theorem cmpLays_of {g:Nat} {enc:α→List Value} {k:Nat} {cf:α→α→Int} [Inhabited α] (hflat:∀ x,(enc x).all flat1=true) (hdc:∀ x y,DC P g [.agg (enc x).toArray,.agg (enc y).toArray] h00 (.ret (.int .i64 (cf x y))) h00) (blk off size:Nat) (w:World) :
 CmpLays P g #[] enc k cf blk off size w:=by
 intro m os dk _ x y
 have:=(hdc x y).2 0 (fun _=>none) (sortWorldK enc k w blk off m dk os) (#[.agg (enc x).toArray,.agg (enc y).toArray]++#[]) (sim00 _) (by
  simp only[Array.append_empty]
  exact ((LRel.nil _).cons (.aggFlat (hflat y))).cons (.aggFlat (hflat x)))
 refine Calls.mono (callsIn_wide.1 this) ?_
 rintro e w' ⟨ι',he,_,st⟩
 cases e with
 | returned v=>cases he;exact ⟨rfl,grown_of st⟩
 | _=>exact he.elim
theorem flatMap_get {F:FRep α} [Inhabited α]:∀ (l:List α) (i r:Nat),i<l.length→r<F.z→(l.flatMap F.enc)[i*F.z+r]? = (F.enc (l.toArray[i]!))[r]?
 | [],i,r,hi,_=>by simp at hi
 | x :: l,0,r,_,hr=>by
   rw[List.flatMap_cons,Nat.zero_mul,Nat.zero_add,List.getElem?_append_left (by rw[F.len];exact hr)]
   rfl
 | x :: l,i+1,r,hi,hr=>by
   rw[List.flatMap_cons,Nat.succ_mul,List.getElem?_append_right (by rw[F.len];omega),F.len,show i*F.z+F.z+r - F.z=i*F.z+r by omega]
   have:=flatMap_get l i r (by simpa using hi) hr
   rw[this]
   simp
theorem flatK_list {F:FRep α} [Inhabited α] (l:List α):flatK F.enc F.z l.toArray=(l.flatMap F.enc).toArray:=by
 have hs:(flatK F.enc F.z l.toArray).size=(l.flatMap F.enc).toArray.size:=by rw[size_flatK,List.size_toArray,List.size_toArray,flatMap_len]
 refine ext_get! hs fun t ht=>?_
 rw[size_flatK,List.size_toArray]at ht
 rw[get_flatK _ _ _ _ (by simpa using ht)]
 have hz:0<F.z:=by
  rcases Nat.eq_zero_or_pos F.z with h | h
  ·rw[h]at ht;simp at ht
  ·exact h
 have h1:t / F.z<l.length:=(Nat.div_lt_iff_lt_mul hz).2 ht
 have h2:t % F.z<F.z:=Nat.mod_lt _ hz
 have:=flatMap_get (F:=F) l (t / F.z) (t % F.z) h1 h2
 rw[Nat.div_add_mod' t F.z]at this
 have h3:t<(l.flatMap F.enc).length:=by rw[flatMap_len];exact ht
 obtain ⟨x,hx⟩:∃ x,l.toArray[t / F.z]! = x:=⟨_,rfl⟩
 rw[hx]at this ⊢
 have h4:t % F.z<(F.enc x).length:=by rw[F.len];exact h2
 rw[List.getElem?_eq_getElem h3,List.getElem?_eq_getElem h4]at this
 rw[getElem!_pos (F.enc x) (t % F.z) h4,getElem!_pos (l.flatMap F.enc).toArray t (by simpa using h3)]
 simpa using (Option.some.inj this).symm
theorem holds_of {F:FRep α} [Inhabited α] {ι:Inj} {h:DHeap} {w:World} {id o:Nat} {e:Ent} {cells:List Value} {esz:Nat} {l:List α} (s:Sim ι h w) (he:ι id=some e) (hg:h.get id=some (.row cells esz false)) (hl:o+l.length*F.z≤cells.length)
 (hc:(cells.drop o).take (l.length*F.z)=l.flatMap F.enc):HoldsK F.enc F.z w e.block (e.shift+o) l.toArray:=by
 obtain ⟨_,_,cur,ty,fz,h3,h4,h5⟩:=s.row he hg
 obtain ⟨hsz,hlen,hfz⟩:=h5 rfl
 unfold HoldsK
 rw[flatK_list]
 intro j hj
 have hj2:j<l.length*F.z:=by rw[← flatMap_len];simpa using hj
 have h6:cells[o+j]? = (l.flatMap F.enc)[j]?:=by
  rw[← hc,List.getElem?_take,if_pos hj2,List.getElem?_drop]
 have h7:j<(l.flatMap F.enc).length:=by simpa using hj
 rw[List.getElem?_eq_getElem h7]at h6
 obtain ⟨v',h8,h9⟩:=h4 _ _ h6
 have hfl:=List.all_eq_true.1 (flatMap_flat F l) _ (List.getElem_mem h7)
 have h10:v'=(l.flatMap F.enc)[j]:=by
  unfold flat1 at hfl
  generalize (l.flatMap F.enc)[j]=x at hfl h9
  cases h9 <;> first | rfl | cases hfl
 constructor
 ·simp only[World.cell?,h3]
  rw[getElem!_pos (l.flatMap F.enc).toArray j (by simpa using h7)]
  simp only[id_eq,List.getElem_toArray]
  rw[show e.shift+o+j=e.shift+(o+j) by omega,h8,h10]
  rfl
 ·simp only[World.frozen?,h3]
  rw[Bool.and_eq_false_iff]
  simp only[decide_eq_false_iff_not]
  have:=hfz (e.shift+o+j) (by omega)
  omega
theorem Sim.rewrite {ι:Inj} {h:DHeap} {w w':World} {id:Nat} {e:Ent} {cells cells':List Value} {esz:Nat} {cur cur':Array Value} {ty:TypeId} {fz:Nat × Nat} (s:Sim ι h w) (he:ι id=some e) (hg:h.get id=some (.row cells esz false)) (hcur:w.heap[e.block]? = some (.cells cur ty fz)) (hcur':w'.heap[e.block]? = some (.cells cur' ty fz)) (hsz:cur'.size=cur.size)
 (hrel:∀ (i:Nat) v,cells'[i]? = some v→∃ v',cur'[e.shift+i]? = some v'∧VRel ι v v') (hlen:cells'.length=cells.length) (hoth:∀ b,b<w.heap.size→b≠e.block→w'.heap[b]? = w.heap[b]?) (hsize:w.heap.size≤w'.heap.size) (h1:w'.os=w.os) (h2:w'.tape=w.tape) (h3:w'.output=w.output) (h4:w.drawn≤w'.drawn) :
 Sim ι (h.set id (.row cells' esz false)) w'∧Step ι ι h (h.set id (.row cells' esz false)) w w':=by
 obtain ⟨hro,hez,cur0,ty0,fz0,k3,k4,k5⟩:=s.row he hg
 rw[hcur]at k3
 cases k3
 obtain ⟨l1,l2,l3⟩:=k5 rfl
 refine ⟨⟨s.lt,fun i x hx=>Nat.lt_of_lt_of_le (s.blk i x hx) hsize,?_,?_,s.glob⟩,⟨Inj.le_refl _,fun i x a b=>(by rw[a]at b;cases b),Nat.le_refl _,rfl,h1,h2,h3,hsize,?_,h4⟩⟩
 ·intro id' e' h'
  simp only[DHeap.set]
  by_cases hid:id'=id
  ·subst hid
   rw[he]at h'
   cases h'
   exact ⟨.row cells' esz false,by rw[if_pos rfl],hro,hez,cur',ty,fz,hcur',hrel,fun _=>⟨by rw[hsz];exact l1,by rw[hlen];exact l2,l3⟩⟩
  ·rw[if_neg hid]
   obtain ⟨o,a,b⟩:=s.obj _ _ h'
   by_cases hbl:e'.block=e.block
   ·rcases s.sep id' id e' e h' he hid hbl with hd | hd | hd
    ·rw[a]at hd;cases hd;exact ⟨_,a,b⟩
    ·rw[hg]at hd;cases hd
    ·rw[hro]at hd;cases hd.2
   ·exact ⟨o,a,b.mono (Inj.le_refl _) (hoth _ (s.blk _ _ h') hbl)⟩
 ·intro id1 id2 e1 e2 a b c d
  simp only[DHeap.set]
  rcases s.sep id1 id2 e1 e2 a b c d with hd | hd | hd
  ·left
   rw[if_neg (fun hx=>by subst hx;rw[hg]at hd;cases hd)]
   exact hd
  ·right;left
   rw[if_neg (fun hx=>by subst hx;rw[hg]at hd;cases hd)]
   exact hd
  ·exact .inr (.inr hd)
 ·intro b hb hx
  refine hoth b hb fun hbe=>?_
  have hy:=hx id e he hbe.symm
  rw[hro]at hy;cases hy
theorem world_sorted {F:FRep α} [Inhabited α] {ι:Inj} {h:DHeap} {w:World} {id o:Nat} {e:Ent} {cells:List Value} {esz:Nat} (l':List α) (m:Nat) (os:Array Obj) (s:Sim ι h w) (he:ι id=some e) (hg:h.get id=some (.row cells esz false)) (hl:o+l'.length*F.z≤cells.length) :
 Sim ι (h.set id (.row (setAt cells o (l'.flatMap F.enc)) esz false)) (sortWorldK F.enc F.z w e.block (e.shift+o) m l'.toArray os)∧Step ι ι h (h.set id (.row (setAt cells o (l'.flatMap F.enc)) esz false)) w (sortWorldK F.enc F.z w e.block (e.shift+o) m l'.toArray os):=by
 obtain ⟨_,_,cur,ty,fz,h3,h4,h5⟩:=s.row he hg
 obtain ⟨hsz,hlen,hfz⟩:=h5 rfl
 have hb:=s.blk _ _ he
 have hlk:∀ b,b<w.heap.size→(sortWorldK F.enc F.z w e.block (e.shift+o) m l'.toArray os).heap[b]? = (w.heap.modify e.block (onCells (putCells _root_.id (e.shift+o) (l'.flatMap F.enc).toArray)))[b]?:=fun b hb=>by
  show ((w.heap.modify e.block (onCells (putCells _root_.id (e.shift+o) (flatK F.enc F.z l'.toArray))))++os)[b]? = _
  rw[Array.getElem?_append_left (by simpa using hb),flatK_list]
 refine s.rewrite (cur:=cur) (cur':=putCells _root_.id (e.shift+o) (l'.flatMap F.enc).toArray cur) (ty:=ty) (fz:=fz) he hg h3 ?_ (by simp[putCells]) (fun i v hv=>?_) (setAt_length _ _ _) (fun b hb hne=>?_) ?_ rfl rfl rfl (Nat.le_add_right _ _)
 ·rw[hlk _ hb,Array.getElem?_modify,if_pos rfl,h3]
  rfl
 ·rw[setAt_get,flatMap_len]at hv
  simp only[putCells,Array.getElem?_mapIdx]
  by_cases hi:o≤i∧i<o+l'.length*F.z∧i<cells.length
  ·rw[if_pos hi]at hv
   obtain ⟨u,hu,_⟩:=h4 i cells[i] (List.getElem?_eq_getElem hi.2.2)
   rw[hu]
   have h7:i - o<(l'.flatMap F.enc).length:=by rw[flatMap_len];omega
   have hv2:=hv
   rw[List.getElem?_eq_getElem h7]at hv2
   refine ⟨v,?_,flat1_rel ι (list_all_get (flatMap_flat F l') hv)⟩
   simp only[Option.map_some,id_eq]
   rw[if_pos ⟨by omega,by simp only[List.size_toArray,flatMap_len];omega⟩,show e.shift+i - (e.shift+o)=i - o by omega,getElem!_pos (l'.flatMap F.enc).toArray (i - o) (by simpa using h7)]
   simpa using hv2
  ·rw[if_neg hi]at hv
   obtain ⟨u,hu,hr⟩:=h4 i v hv
   have:=(List.getElem?_eq_some_iff.1 hv).1
   rw[hu]
   refine ⟨u,?_,hr⟩
   simp only[Option.map_some]
   rw[if_neg]
   simp only[List.size_toArray,flatMap_len]
   omega
 ·rw[hlk b hb,Array.getElem?_modify,if_neg (fun hh=>hne hh.symm)]
 ·show _≤((w.heap.modify e.block (onCells (putCells _root_.id (e.shift+o) (flatK F.enc F.z l'.toArray))))++os).size
  simp
theorem sort_ct {F:FRep α} [Inhabited α] {ρ:Go.Shelf.Ren} {k:Nat} (hk:F.z=k) (L:SlLaysF0.n6 P ρ) (aE:∀ w,(isAgg (ρ.t 24)).run P w=.ok true w) (zE:∀ w,(Go.sizeOf (ρ.t 24)).run P w=.ok k w) {cf:α→α→Int} (hO:SWO (ltOf cf)) {g:Nat} (eg:∀ args w,(callFunc g args).run P w=.ok (.enter g args) w)
 (hdc:∀ x y,DC P g [.agg (F.enc x).toArray,.agg (F.enc y).toArray] h00 (.ret (.int .i64 (cf x y))) h00) {h:DHeap} {id o c:Nat} {cells:List Value} {l:List α} {esz:Nat} (hg:h.get id=some (.row cells esz false)) (h0:0<l.length) (hl:o+l.length*F.z≤cells.length) (hc:(cells.drop o).take (l.length*F.z)=l.flatMap F.enc) (hsz:l.length<4611686018427387904) :
 Ct P (ρ.f 6) [.slice (some ⟨id,o,none⟩) l.length c,.func (.func g) #[] #[]] h fun r h1=>r=.ret (.tuple #[])∧∃ l':List α,l'.Perm l∧SortedIn (ltOf cf) 0 l.length l'.toArray∧h1=h.set id (.row (setAt cells o (l'.flatMap F.enc)) esz false):=by
 subst hk
 intro n ι w args' s ha
 obtain ⟨a0,e0,r0⟩:=ha.get (i:=0) rfl
 obtain ⟨a1,e1,r1⟩:=ha.get (i:=1) rfl
 have hsz2:args'.toList.length=2:=ha.1.symm
 have hargs:args'=#[a0,a1]:=by
  obtain ⟨L⟩:=args'
  match L,hsz2 with
  | [x,y],_=>simp at e0 e1;rw[e0,e1]
 cases r0 with
 | @slice _ _ _ _ cap' e a' he hl' hx ha' hb=>
 cases r1 with
 | func hf q1 q2 q3 q4=>
 rename_i first' cap2
 obtain rfl:first'=#[]:=by simpa using q1.symm
 obtain rfl:cap2=#[]:=by simpa using q3.symm
 obtain rfl:=ha' (by omega)
 have hm:=holds_of s he hg hl hc
 have hcalls:=AnyQ.slices_SortFunc L F.z aE zE F.enc F.len (fun x v hv=>flat1_one (List.all_eq_true.1 (F.flat x) v hv)) cf hO g #[] e.block (e.shift+o) cap' l.toArray w eg (cmpLays_of F.flat hdc _ _ _ _) hm (s.blk _ _ he) (by simpa using hsz)
 rw[hargs]
 refine callsIn_wide.2 (Calls.mono hcalls ?_)
 rintro en w' ⟨rfl,d',m,os,hp,hs,rfl⟩
 obtain ⟨p1,_,p3⟩:=hp
 have hd:d'=d'.toList.toArray:=by simp
 have hlen:d'.toList.length=l.length:=by simpa using p1
 have hperm:d'.toList.Perm l:=by
  have e1:(d'.extract 0 l.toArray.size).toList=d'.toList:=by rw[← p1];simp
  have e2:(l.toArray.extract 0 l.toArray.size).toList=l:=by simp
  rw[e1,e2]at p3
  exact p3
 obtain ⟨q5,q6⟩:=world_sorted (F:=F) d'.toList m os s he hg (by rw[hlen];exact hl)
 rw[hd]
 refine ⟨ι,.ret (.tuple #[]),_,⟨rfl,d'.toList,hperm,?_,rfl⟩,⟨q6.next,q6.ng⟩,.tuple rfl (fun i v v' h1=>by simp at h1),q5,q6⟩
 simpa using hs
end Go.D

namespace Go.Proofs.Ythjmkmoiopmfcaa
open Go.D
open Go.Sort
set_option maxRecDepth 100000
theorem compact_0 {h:DHeap} {v:Value} (hb:Arg fKey.rep h v []):Ct Try.prog 79 [v] h fun r h1=>r=.ret v∧h1=h:=by
 refine go_79 (by simp) ?_
 have el:∀ K,dLen Try.prog #[24] v K=some (.int .i64 ((([]:List Key).length:Nat):Int)):=hb.lens (P:=Try.prog) (ts:=#[24]) (t:=24) rfl isl_24
 have h0:(((0:Nat):Int)<2)=True:=eq_true (by decide)
 simp -implicitDefEqProofs (disch:=first|omega|simp only[go_sem]) only[go_sem,true_and,c79,el,List.length_nil,h0]
 exact ⟨_,rfl,rfl,trivial⟩
theorem ltOf_key:ltOf keyCmp=keyLt:=by
 funext a b
 exact keyCmp_neg a b
theorem enters_cmp:∀ args w,(callFunc 76 args).run Try.prog w=.ok (.enter 76 args) w:=enters_of Try.func76 (by kernel_rfl) rfl
theorem keys_c {h:DHeap} {v:Value} {l:List Key} (hb:Arg fKey.rep h v l) (hl:l.length≤1048576) :
 Ct Try.prog 53 [v] h fun r h1=>∃ w,r=.ret w∧Ext h h1∧Sl fKey.rep (Fresh h h1) h1 w (keysN l):=by
 refine go_53 (by simp) ?_
 have m:=clone_made (h:=h) hb
 simp -implicitDefEqProofs (disch:=first|omega|simp only[go_sem]) only[go_sem,true_and,c53]
 refine ncall (clone_keys hb (by omega)) ?_
 by_cases h0:l=[]
 ·subst h0
  simp -implicitDefEqProofs (disch:=first|omega|simp only[go_sem]) only[go_sem,true_and]
  refine ncall_ct (sort_0 m.arg) ?_
  rintro r h1 ⟨rfl,rfl⟩
  simp -implicitDefEqProofs (disch:=first|omega|simp only[go_sem]) only[go_sem,true_and]
  refine ncall_ct (compact_0 m.arg) ?_
  rintro r h1 ⟨rfl,rfl⟩
  simp -implicitDefEqProofs (disch:=first|omega|simp only[go_sem]) only[go_sem,true_and,XEnd]
  exact ⟨_,rfl,_,rfl,m.ext,m.sl⟩
 ·have hnn:isNilV v=false:=by
   cases hn:isNilV v with
   | false=>rfl
   | true=>exact absurd (isNilV_nil hb hn).2 h0
  have e1:cloneV h v l=.slice (some ⟨h.next,0,none⟩) l.length (l.length+1):=by rw[cloneV,hnn];rfl
  have e2:cloneH fKey h v l=h.push (.row (l.flatMap fKey.enc) 2 false):=by rw[cloneH,hnn];rfl
  have hok:=hb.ok
  obtain ⟨K,hK⟩:∃ K,h.push (.row (l.flatMap fKey.enc) 2 false)=K:=⟨_,rfl⟩
  have hg:K.get h.next=some (.row (l.flatMap fKey.enc) 2 false):=by rw[← hK];exact get_push_same _ _
  have hE:Ext h K:=by rw[← hK];exact Ext.push1 _ _
  have hKn:K.next=h.next+1:=by rw[← hK];rfl
  have hlen:0<l.length:=List.length_pos_iff.2 h0
  have ht:(l.flatMap fKey.enc).take (l.length*2)=l.flatMap fKey.enc:=List.take_of_length_le (by rw[flatMap_len];exact Nat.le_refl _)
  rw[e1,e2,hK]
  simp -implicitDefEqProofs (disch:=first|omega|simp only[go_sem]) only[go_sem,true_and]
  refine ncall_ct (sort_ct (F:=fKey) (k:=2) rfl sortKey Try.isAgg44 Try.sizeOf44 (cf:=keyCmp) (ltOf_key▸keyLt_swo) enters_cmp (fun x y=>compare_c) (o:=0) (esz:=2) hg hlen (by rw[flatMap_len,Nat.zero_add];exact Nat.le_refl _) ht (by omega)) ?_
  rintro r h1 ⟨rfl,l',hp,hs,rfl⟩
  have hl':l'.length=l.length:=hp.length_eq
  have e3:setAt (l.flatMap fKey.enc) 0 (l'.flatMap fKey.enc)=l'.flatMap fKey.enc:=by
   have:=setAt_over (l'.flatMap fKey.enc) (l.flatMap fKey.enc) [] (by rw[flatMap_len,flatMap_len,hl'])
   simpa using this
  rw[e3]
  simp -implicitDefEqProofs (disch:=first|omega|simp only[go_sem]) only[go_sem,true_and]
  have hr:RowIs fKey (K.set h.next (.row (l'.flatMap fKey.enc) 2 false)) h.next l':=RowIs.set rfl
  have cc:=compact_c (c:=l.length+1) hr (fun x hx=>hok x (hp.mem_iff.1 hx)) (by omega)
  rw[hl']at cc
  refine ncall_ct cc ?_
  rintro r h1 ⟨c',cs,rfl,rfl,hsl⟩
  simp -implicitDefEqProofs (disch:=first|omega|simp only[go_sem]) only[go_sem,true_and,XEnd]
  rw[ltOf_key]at hs
  rw[keys_same hp (sorted_list hl'.symm hs)]at hsl
  rw[keys_same hp (sorted_list hl'.symm hs)]
  refine ⟨_,rfl,_,rfl,(hE.set (by omega)).set (by omega),hsl.mono fun i hi=>⟨⟨by omega,?_⟩,rfl⟩⟩
  subst hi
  show h.next<K.next
  omega
end Go.Proofs.Ythjmkmoiopmfcaa

namespace Go.Proofs.Ythjmkmoiopmfcaa
open Go.D
open Go.Sort
set_option maxRecDepth 100000
abbrev seqV (c:Nat):Value:=.func (.func 87) #[] #[.pointer (some ⟨c,0,none⟩)]
theorem mapKeys_c {h:DHeap} {id:Nat}:Ct Try.prog 75 [.map (some id)] h fun r h1=>r=.ret (seqV h.next)∧h1=h.push (.row [.map (some id)] 0 false):=by
 refine go_75 (by simp) ?_
 simp -implicitDefEqProofs (disch:=first|omega|simp only[go_sem]) only[go_sem,true_and,c75]
 exact ⟨_,rfl,rfl,trivial⟩
theorem collect_c {h:DHeap} {c id:Nat} {m:List (Key × Value)} (hlen:m.length≤4294967296) (hok:∀ k∈m.map (·.1),fKey.ok k) (hc:c<h.next) (gc:h.get c=some (.row [.map (some id)] 0 false)) (hid:id<h.next) (hm:MapAt keyV h id m) :
 Ct Try.prog 86 [seqV c] h fun r h1=>∃ v dn,r=.ret v∧dn.Nodup∧(∀ k,k∈dn↔k∈m.map (·.1))∧Made fKey h h1 v dn:=by
 refine go_86 (by simp) ?_
 simp -implicitDefEqProofs (disch:=first|omega|simp only[go_sem]) only[go_sem,true_and,c86]
 refine ncall_ct (appendSeq_c hlen hok hc gc hid hm) ?_
 rintro r h1 ⟨v,dn,rfl,h2,h3,h4⟩
 simp -implicitDefEqProofs (disch:=first|omega|simp only[go_sem]) only[go_sem,true_and,XEnd]
 exact ⟨_,rfl,v,dn,rfl,h2,h3,h4⟩
theorem sortedFunc_c {h:DHeap} {c id:Nat} {m:List (Key × Value)} (hlen:m.length≤1048576) (hok:∀ k∈m.map (·.1),fKey.ok k) (hc:c<h.next) (gc:h.get c=some (.row [.map (some id)] 0 false)) (hid:id<h.next) (hm:MapAt keyV h id m) :
 Ct Try.prog 74 [seqV c,.func (.func 76) #[] #[]] h fun r h1=>∃ v l,r=.ret v∧UpK l∧(∀ k,k∈l↔k∈m.map (·.1))∧Ext h h1∧Sl fKey.rep (Fresh h h1) h1 v l:=by
 refine go_74 (by simp) ?_
 simp -implicitDefEqProofs (disch:=first|omega|simp only[go_sem]) only[go_sem,true_and,c74]
 refine ncall_ct (collect_c (by omega) hok hc gc hid hm) ?_
 rintro r h1 ⟨v,dn,rfl,hn,hmem,mm⟩
 simp -implicitDefEqProofs (disch:=first|omega|simp only[go_sem]) only[go_sem,true_and]
 by_cases h0:dn=[]
 ·subst h0
  refine ncall_ct (sort_0 mm.arg) ?_
  rintro r h2 ⟨rfl,rfl⟩
  simp -implicitDefEqProofs (disch:=first|omega|simp only[go_sem]) only[go_sem,true_and,XEnd]
  exact ⟨_,rfl,v,[],rfl,.nil,hmem,mm.ext,mm.sl⟩
 have hl:dn.length≤m.length:=by
  have:=nodup_len (b:=m.map (·.1)) hn (fun x hx=>(hmem x).1 hx)
  simpa using this
 obtain ⟨w,o,hw⟩:=mm.nonnil h0
 rcases o with ⟨_,h0',_⟩ | ⟨hz,_⟩ | ⟨i,cap,cells,rfl,hwi,hlt,hg,hle,els⟩
 ·exact absurd h0' h0
 ·cases hz
 cases hwi
 have hE:=mm.ext
 refine ncall_ct (sort_ct (F:=fKey) (k:=2) rfl sortKey Try.isAgg44 Try.sizeOf44 (cf:=keyCmp) (ltOf_key▸keyLt_swo) enters_cmp (fun x y=>compare_c) (o:=0) (esz:=2) hg (List.length_pos_iff.2 h0) (by rw[Nat.zero_add];exact hle) (Els.flat.1 els).1 (by omega)) ?_
 rintro r h2 ⟨rfl,l',hp,hs,rfl⟩
 rw[ltOf_key]at hs
 have hl':l'.length=dn.length:=hp.length_eq
 have hsl:=sorted_list hl'.symm hs
 have hnd:l'.Nodup:=hp.nodup_iff.2 hn
 have hle2:(l'.flatMap fKey.enc).length≤cells.length:=by rw[flatMap_len,hl'];exact hle
 simp -implicitDefEqProofs (disch:=first|omega|simp only[go_sem]) only[go_sem,true_and,XEnd]
 refine ⟨_,rfl,_,l',rfl,?_,fun k=>(hp.mem_iff).trans (hmem k),hE.set hw,?_⟩
 ·exact (hsl.and hnd).imp fun h=>keyLt_total h.1 (fun e=>h.2 e.symm)
 ·rw[← hl']
  refine .inr ⟨w,0,cap,_,2,false,rfl,⟨hw,hlt⟩,get_set_same _ _,.inr rfl,?_,?_⟩
  ·rw[setAt_length,hl']
   simpa using hle
  ·refine Els.flat.2 ⟨?_,fun x hx=>mm.ok x (hp.mem_iff.1 hx)⟩
   obtain ⟨A,B,hAB,hA⟩:∃ A B,cells=A++B∧A.length=(l'.flatMap fKey.enc).length:=⟨_,_,(List.take_append_drop _ cells).symm,by rw[List.length_take];exact Nat.min_eq_left hle2⟩
   rw[hAB,setAt_over _ _ _ hA.symm,List.drop_zero]
   exact List.take_left' (by rw[flatMap_len];rfl)
end Go.Proofs.Ythjmkmoiopmfcaa

namespace Go.Proofs.Ythjmkmoiopmfcaa
open Go.D
set_option maxRecDepth 100000
def putAll (l:List Pair):List (Key × Value):=l.foldl (fun m p=>mput m p.k (.int .i64 p.v)) []
theorem putAll_take {l:List Pair} {i:Nat} (hi:i<l.length):putAll (l.take (i+1))=mput (putAll (l.take i)) l[i].k (.int .i64 l[i].v):=by
 unfold putAll
 rw[List.take_succ_eq_append_getElem hi,List.foldl_append]
 rfl
theorem mput_len {m:List (Key × Value)} {k:Key} {v:Value}:(mput m k v).length≤m.length+1:=by
 unfold mput
 split
 ·rw[List.length_map];exact Nat.le_succ _
 ·rw[List.length_append];exact Nat.le_refl _
theorem putAll_lenG:∀ (l:List Pair) (m:List (Key × Value)),(l.foldl (fun m p=>mput m p.k (.int .i64 p.v)) m).length≤m.length+l.length
 | [],m=>by simp
 | p :: l,m=>by
   have h1:=putAll_lenG l (mput m p.k (.int .i64 p.v))
   have h2:=mput_len (m:=m) (k:=p.k) (v:=.int .i64 p.v)
   rw[List.foldl_cons,List.length_cons]
   omega
theorem putAll_len (l:List Pair):(putAll l).length≤l.length:=by
 have:=putAll_lenG l []
 rw[List.length_nil,Nat.zero_add]at this
 exact this
theorem putAll_memG {k:Key}:∀ (l:List Pair) (m:List (Key × Value)),k∈(l.foldl (fun m p=>mput m p.k (.int .i64 p.v)) m).map (·.1)↔k∈m.map (·.1)∨k∈l.map (·.k)
 | [],m=>by simp
 | p :: l,m=>by
   rw[List.foldl_cons,putAll_memG l,mput_keys]
   split
   ·rename_i h
    rw[List.map_cons,List.mem_cons]
    constructor
    ·rintro (a | a)
     ·exact .inl a
     ·exact .inr (.inr a)
    ·rintro (a | a | a)
     ·exact .inl a
     ·exact .inl (a▸h)
     ·exact .inr a
   ·rw[List.map_cons,List.mem_cons,List.mem_append,List.mem_singleton,or_assoc]
theorem putAll_mem {k:Key} {l:List Pair}:k∈(putAll l).map (·.1)↔k∈l.map (·.k):=by
 unfold putAll
 rw[putAll_memG]
 simp
def lastP (l:List Pair) (k:Key):Option Pair:=l.reverse.find? fun p=>p.k=k
def pairOf (l:List Pair) (k:Key):Pair:=(lastP l k).getD ⟨k,0⟩
theorem lastP_some {l:List Pair} {k:Key} {p:Pair} (h:lastP l k=some p):p∈l∧p.k=k:=by
 refine ⟨List.mem_reverse.1 (List.mem_of_find?_eq_some h),?_⟩
 have:=List.find?_some h
 simpa using this
theorem lastP_mem {l:List Pair} {k:Key} (h:k∈l.map (·.k)):∃ p,lastP l k=some p:=by
 obtain ⟨p,hp,rfl⟩:=List.mem_map.1 h
 cases hq:lastP l p.k with
 | some q=>exact ⟨q,rfl⟩
 | none=>
   have:=List.find?_eq_none.1 hq p (List.mem_reverse.2 hp)
   simp at this
theorem mget_putAllG {k:Key}:∀ (l:List Pair) (m:List (Key × Value)),(m.map (·.1)).Nodup→mget (l.foldl (fun m p=>mput m p.k (.int .i64 p.v)) m) k=match lastP l k with | some p=>some (.int .i64 p.v) | none=>mget m k
 | [],m,_=>rfl
 | p :: l,m,hn=>by
   rw[List.foldl_cons,mget_putAllG l _ (mput_nodup hn),mget_mput hn]
   unfold lastP
   rw[List.reverse_cons,List.find?_append]
   cases hq:l.reverse.find? fun p=>p.k=k with
   | some q=>rfl
   | none=>
     by_cases hk:k=p.k
     ·simp[hk]
     ·have:¬ p.k=k:=fun e=>hk e.symm
      simp[hk,this]
theorem mget_putAll {l:List Pair} {k:Key}:mget (putAll l) k=(lastP l k).map fun p=>.int .i64 p.v:=by
 unfold putAll
 rw[mget_putAllG l [] .nil]
 cases lastP l k <;> rfl
theorem pairOf_mem {l:List Pair} {k:Key} (h:k∈l.map (·.k)):pairOf l k∈l∧(pairOf l k).k=k∧mget (putAll l) k=some (.int .i64 (pairOf l k).v):=by
 obtain ⟨p,hp⟩:=lastP_mem h
 obtain ⟨h1,h2⟩:=lastP_some hp
 rw[mget_putAll]
 unfold pairOf
 rw[hp]
 exact ⟨h1,h2,rfl⟩
theorem bd_pairK {k:Key} {v:Int}:dBuild Try.prog 46 [(0,keyV k),(1,.int .i64 v)]=some (.agg #[.int .i32 k.t,.int .i64 k.r,.int .i64 v]):=dBuild_at plc_46 rfl
theorem mapT64:MapT Try.prog 64 keyV (.int .i64 0):=⟨_,_,und_map64,keyOf,by kernel_rfl⟩
theorem pairs_c {h:DHeap} {v:Value} {l:List Pair} (hb:Arg fPair.rep h v l) (hl:l.length≤1048576) :
 Ct Try.prog 49 [v] h fun r h1=>∃ w ks,r=.ret w∧UpK ks∧(∀ k,k∈ks↔k∈l.map (·.k))∧(ks=[]→w=.slice none 0 0)∧Made fPair h h1 w (ks.map (pairOf l)):=by
 refine go_49 (by simp) ?_
 have el:∀ K,dLen Try.prog #[27] v K=some (.int .i64 (l.length:Nat)):=hb.lens (P:=Try.prog) (ts:=#[27]) (t:=27) rfl isl_27
 simp -implicitDefEqProofs (disch:=first|omega|simp only[go_sem]) only[go_sem,true_and,c49,el]
 refine xloop (σ:=Nat) (by kernel_rfl) (fun i s=>s.df=[]∧s.rd=none∧s.fr 3=some (.map (some h.next))∧s.fr 10=some v∧s.fr 11=some (.int .i64 (l.length:Nat))∧s.fr 12=some (.int .i64 (i:Nat))∧i≤l.length∧h.next<s.h.next∧Ext h s.h∧MapAt keyV s.h h.next (putAll (l.take i))) (fun i=>l.length - i) 0 ?_ ?_
 ·simp -implicitDefEqProofs (disch:=first|omega|simp only[go_sem]) only[go_sem,true_and]
  exact ⟨by trivial,Nat.zero_le _,Nat.lt_succ_self _,Ext.push1 _ _,MapAt.new⟩
 rintro i ⟨fr,df,K,rd⟩ K' hK' hX ⟨rfl,rfl,f3,f10,f11,f12,hi,hlt,hE,hm⟩
 simp only at f3 f10 f11 f12 hlt hE hm
 simp -implicitDefEqProofs (disch:=first|omega|simp only[go_sem]) only[go_sem,true_and,f10,f11,f12]
 refine XIf_dec (fun hc1=>?_) (fun hc1=>?_)
 ·have hj:i<l.length:=by omega
  obtain ⟨id1,o1,e1,_,hat1⟩:=(hb.ext hE).idx (P:=Try.prog) (t:=27) el_27 (k:=.i64) (i:=i) (x:=l[i]) (by simp)
  have l1:cellsAt K id1 o1 3=some (.agg #[.int .i32 l[i].k.t,.int .i64 l[i].k.r,.int .i64 l[i].v]):=hat1.flat.2.1
  obtain ⟨K1,hK1⟩:∃ H,H=K.push (.row [.int .i32 l[i].k.t,.int .i64 l[i].k.r,.int .i64 l[i].v] 0 false):=⟨_,rfl⟩
  have g1:K1.get K.next=some (.row [.int .i32 l[i].k.t,.int .i64 l[i].k.r,.int .i64 l[i].v] 0 false):=by rw[hK1];exact get_push_same _ _
  have lk:cellsAt K1 K.next 0 2=some (keyV l[i].k):=by rw[cellsAt_row g1 (Nat.le_of_ble_eq_true rfl)];rfl
  have lv:cellAt K1 K.next 2=some (.int .i64 l[i].v):=cellAt_row g1
  have hE1:Ext K K1:=by rw[hK1];exact Ext.push1 _ _
  have hm1:MapAt keyV K1 h.next (putAll (l.take i)):=hm.keep (hE1.get _ hlt)
  obtain ⟨o,hu,hm2⟩:=hm1.update mapT64 l[i].k (.int .i64 l[i].v)
  have hw:=wrap_succ hj (by omega)
  have hst:dStore Try.prog 46 (.pointer (some ⟨K.next,0,none⟩)) (.agg #[.int .i32 l[i].k.t,.int .i64 l[i].k.r,.int .i64 l[i].v]) (K.push (.row [.int .i32 0,.int .i64 0,.int .i64 0] 0 false))=some K1:=by
   rw[hK1]
   exact (st_46 rfl).trans (storeAll_push rfl rfl)
  simp -implicitDefEqProofs (disch:=first|omega|simp only[go_sem]) only[go_sem,true_and,f3,f10,f12,e1,l1,hst,lk,lv,hu,hw]
  refine hK' (i+1) _ ?_ (by omega)
  have hn1:=hE1.next
  exact ⟨rfl,rfl,(vy f3),(vy f10),(vy f11),vz,by omega,show h.next<K1.next by omega,(hE.trans hE1).set (Nat.le_refl _),by rw[putAll_take hj];exact hm2⟩
 obtain rfl:i=l.length:=by omega
 refine hX _ _ (by simp) ?_
 rw[List.take_length]at hm
 simp -implicitDefEqProofs (disch:=first|omega|simp only[go_sem]) only[go_sem,true_and,f3]
 have hkok:∀ k∈(putAll l).map (·.1),fKey.ok k:=fun k hk=>by
  obtain ⟨p,hp,rfl⟩:=List.mem_map.1 (putAll_mem.1 hk)
  exact (hb.ok p hp).1
 refine ncall_ct mapKeys_c ?_
 rintro r h2 ⟨rfl,rfl⟩
 simp -implicitDefEqProofs (disch:=first|omega|simp only[go_sem]) only[go_sem,true_and]
 obtain ⟨H2,hH2⟩:∃ H,H=K.push (.row [.map (some h.next)] 0 false):=⟨_,rfl⟩
 rw[← hH2]
 have g2:H2.get K.next=some (.row [.map (some h.next)] 0 false):=by rw[hH2];exact get_push_same _ _
 have hE2:Ext K H2:=by rw[hH2];exact Ext.push1 _ _
 have hH2n:H2.next=K.next+1:=by rw[hH2];rfl
 have hm2:MapAt keyV H2 h.next (putAll l):=hm.keep (hE2.get _ hlt)
 refine ncall_ct (sortedFunc_c (h:=H2) (c:=K.next) (id:=h.next) (m:=putAll l) (Nat.le_trans (putAll_len l) hl) hkok (by omega) g2 (by omega) hm2) ?_
 rintro r h3 ⟨w,ks,rfl,hup,hmem,hE3,hs3⟩
 have hsk:Arg fKey.rep h3 w ks:=hs3.mono fun i hi=>⟨hi.2,rfl⟩
 have ek:∀ K,dLen Try.prog #[24] w K=some (.int .i64 (ks.length:Nat)):=hsk.lens (P:=Try.prog) (ts:=#[24]) (t:=24) rfl isl_24
 simp -implicitDefEqProofs (disch:=first|omega|simp only[go_sem]) only[go_sem,true_and,XEnd,ek]
 have hpm:∀ k∈ks,pairOf l k∈l∧(pairOf l k).k=k∧mget (putAll l) k=some (.int .i64 (pairOf l k).v):=fun k hk=>pairOf_mem (putAll_mem.1 ((hmem k).1 hk))
 have hkl:ks.length≤1048576:=by
  have h1:=nodup_len (a:=ks) (b:=(putAll l).map (·.1)) (hup.imp fun {a b} h e=>by rw[e,keyLt_irr]at h;cases h) (fun x hx=>(hmem x).1 hx)
  rw[List.length_map]at h1
  exact Nat.le_trans h1 (Nat.le_trans (putAll_len l) hl)
 have hE03:Ext h h3:=(hE.trans hE2).trans hE3
 have hn3:=hE3.next
 have hm3:MapAt keyV h3 h.next (putAll l):=hm2.keep (hE3.get _ (by omega))
 refine xloop (σ:=Nat) (by kernel_rfl) (fun j s=>s.df=[]∧s.rd=none∧s.fr 3=some (.map (some h.next))∧s.fr 24=some w∧s.fr 25=some (.int .i64 (ks.length:Nat))∧s.fr 26=some (.int .i64 (j:Nat))∧j≤ks.length∧∃ v',s.fr 6=some v'∧(j=0→v'=.slice none 0 0)∧Made fPair h3 s.h v' ((ks.take j).map (pairOf l))) (fun j=>ks.length - j) 0 ?_ ?_
 ·simp -implicitDefEqProofs (disch:=first|omega|simp only[go_sem]) only[go_sem,true_and,f3]
  exact ⟨by trivial,Nat.zero_le _,_,rfl,fun _=>rfl,Made.nil _ (.refl _)⟩
 rintro j ⟨fr,df,K4,rd⟩ K' hK' hX ⟨rfl,rfl,f3,f24,f25,f26,hj,v',f6,hv0,mm⟩
 simp only at f3 f24 f25 f26 f6 mm
 have hE4:=mm.ext
 have hn4:=hE4.next
 simp -implicitDefEqProofs (disch:=first|omega|simp only[go_sem]) only[go_sem,true_and,f24,f25,f26]
 refine XIf_dec (fun hc1=>?_) (fun hc1=>?_)
 ·have hjl:j<ks.length:=by omega
  obtain ⟨id1,o1,e1,_,hat1⟩:=(hsk.ext hE4).idx (P:=Try.prog) (t:=24) el_24 (k:=.i64) (i:=j) (x:=ks[j]) (by simp)
  have l1:cellsAt K4 id1 o1 2=some (keyV ks[j]):=hat1.flat.2.1
  obtain ⟨K5,hK5⟩:∃ H,H=K4.push (.row [.int .i32 ks[j].t,.int .i64 ks[j].r] 0 false):=⟨_,rfl⟩
  have hE5:Ext K4 K5:=by rw[hK5];exact Ext.push1 _ _
  have hK5n:K5.next=K4.next+1:=by rw[hK5];rfl
  have hst:dStore Try.prog 44 (.pointer (some ⟨K4.next,0,none⟩)) (keyV ks[j]) (K4.push (.row [.int .i32 0,.int .i64 0] 0 false))=some K5:=by
   rw[hK5]
   exact (st_44 rfl).trans (storeAll_push rfl rfl)
  have g5:K5.get K4.next=some (.row [.int .i32 ks[j].t,.int .i64 ks[j].r] 0 false):=by rw[hK5];exact get_push_same _ _
  have l5:cellsAt K5 K4.next 0 2=some (keyV ks[j]):=by rw[cellsAt_row g5 (Nat.le_of_ble_eq_true rfl)];rfl
  obtain ⟨hp1,hp2,hp3⟩:=hpm ks[j] (List.getElem_mem hjl)
  have lk5:dLookup Try.prog 64 (.map (some h.next)) (keyV ks[j]) false K5=some (.int .i64 (pairOf l ks[j]).v):=by
   rw[(hm3.keep ((hE5.get _ (by omega)).trans (hE4.get _ (by omega)))).lookup mapT64 ks[j] false,hp3]
   rfl
  obtain ⟨w2,h6,e6,m6⟩:=(mm.on hE5).snoc app_27 (y:=pairOf l ks[j]) (cs:=[.int .i32 ks[j].t,.int .i64 ks[j].r,.int .i64 (pairOf l ks[j]).v]) (z:=3) (by rw[fPair_enc,hp2]) rfl (hb.ok _ hp1) (by rw[List.length_map,List.length_take];omega) (by decide)
  have hw:=wrap_succ hjl (by omega)
  simp -implicitDefEqProofs (disch:=first|omega|simp only[go_sem]) only[go_sem,true_and,f24,f26,e1,l1,hst]
  refine yr_49_0 rfl ?_
  simp -implicitDefEqProofs (disch:=first|omega|simp only[go_sem]) only[go_sem,true_and,g49_0,q49_0,f3,f6,f26,l5,lk5,bd_pairK,e6,hw]
  refine hK' (j+1) _ ?_ (by omega)
  refine ⟨rfl,rfl,(vy f3),(vy f24),(vy f25),vz,by omega,w2,vz,fun h=>by omega,?_⟩
  rw[List.take_succ_eq_append_getElem hjl,List.map_append]
  exact m6
 obtain rfl:j=ks.length:=by omega
 refine hX _ _ (by simp) ?_
 rw[List.take_length]at mm
 simp -implicitDefEqProofs (disch:=first|omega|simp only[go_sem]) only[go_sem,true_and,f6]
 exact ⟨_,rfl,_,ks,rfl,hup,fun k=>(hmem k).trans putAll_mem,fun e=>hv0 (by rw[e];rfl),mm.base hE03⟩
end Go.Proofs.Ythjmkmoiopmfcaa

namespace Go.Proofs.Ythjmkmoiopmfcaa
open Go.D
set_option maxRecDepth 100000
theorem take_notin {l:List Key} {k:Key} {i:Nat} (hi:i<l.length) (h:k∉l.take i) (hn:l[i]≠k):k∉l.take (i+1):=by
 rw[List.take_succ_eq_append_getElem hi,List.mem_append,List.mem_singleton]
 rintro (a | a)
 ·exact h a
 ·exact hn a.symm
theorem indexKey_c {h:DHeap} {a:Value} {l:List Key} {k:Key} (hb:Arg fKey.rep h a l) (hl:l.length≤4294967296) :
 Ct Try.prog 47 [a,keyV k] h fun r h1=>∃ n:Int,r=.ret (.int .i64 n)∧(0≤n↔k∈l)∧Ext h h1:=by
 refine go_47 (by simp) ?_
 have el:∀ K,dLen Try.prog #[24] a K=some (.int .i64 (l.length:Nat)):=hb.lens (P:=Try.prog) (ts:=#[24]) (t:=24) rfl isl_24
 obtain ⟨K,hK⟩:∃ K,K=h.push (.row [.int .i32 k.t,.int .i64 k.r] 0 false):=⟨_,rfl⟩
 have hE:Ext h K:=by rw[hK];exact Ext.push1 _ _
 have gk:K.get h.next=some (.row [.int .i32 k.t,.int .i64 k.r] 0 false):=by rw[hK];exact get_push_same _ _
 have lk:cellsAt K h.next 0 2=some (keyV k):=by rw[cellsAt_row gk (Nat.le_of_ble_eq_true rfl)];rfl
 have hcl:(keyV k).cells.toList=[.int .i32 k.t,.int .i64 k.r]:=rfl
 simp -implicitDefEqProofs (disch:=first|omega|simp only[go_sem]) only[go_sem,true_and,c47,el,hcl,← hK]
 refine xloop (σ:=Nat) (by kernel_rfl) (fun i s=>s.df=[]∧s.rd=none∧s.h=K∧s.fr 0=some a∧s.fr 3=some (.pointer (some ⟨h.next,0,none⟩))∧s.fr 7=some (.int .i64 (l.length:Nat))∧s.fr 8=some (.int .i64 (i:Nat))∧i≤l.length∧k∉l.take i) (fun i=>l.length - i) 0 ?_ ?_
 ·simp -implicitDefEqProofs (disch:=first|omega|simp only[go_sem]) only[go_sem,true_and]
  exact ⟨by trivial,Nat.zero_le _,by simp⟩
 rintro i ⟨fr,df,hh,rd⟩ K' hK' hX ⟨rfl,rfl,rfl,f0,f3,f7,f8,hi,hni⟩
 simp only at f0 f3 f7 f8
 simp -implicitDefEqProofs (disch:=first|omega|simp only[go_sem]) only[go_sem,true_and,f7,f8]
 refine XIf_dec (fun hc1=>?_) (fun hc1=>?_)
 ·have hj:i<l.length:=by omega
  obtain ⟨id1,o1,e1,_,hat1⟩:=(hb.ext hE).idx (P:=Try.prog) (t:=24) el_24 (k:=.i64) (i:=i) (x:=l[i]) (by simp)
  have l1:cellsAt hh id1 o1 2=some (keyV l[i]):=hat1.flat.2.1
  have hw:=wrap_succ hj (by omega)
  simp -implicitDefEqProofs (disch:=first|omega|simp only[go_sem]) only[go_sem,true_and,f8]
  refine yr_47_0 rfl ?_
  simp -implicitDefEqProofs (disch:=first|omega|simp only[go_sem]) only[go_sem,true_and,g47_0,q47_0,f0,f3,lk,e1,l1,bin_key']
  by_cases he:k=l[i]
  ·simp -implicitDefEqProofs (disch:=first|omega|simp only[go_sem]) only[go_sem,true_and,he,f8]
   refine hX _ _ (by simp) ?_
   simp -implicitDefEqProofs (disch:=first|omega|simp only[go_sem]) only[go_sem,true_and]
   exact ⟨_,rfl,_,rfl,⟨fun _=>by rw[he];exact List.getElem_mem hj,fun _=>by omega⟩,hE⟩
  ·simp -implicitDefEqProofs (disch:=first|omega|simp only[go_sem]) only[go_sem,true_and,he,f8,hw]
   refine hK' (i+1) _ ?_ (by omega)
   exact ⟨rfl,rfl,rfl,(vy f0),(vy f3),(vy f7),vz,by omega,take_notin hj hni fun e=>he e.symm⟩
 obtain rfl:i=l.length:=by omega
 refine hX _ _ (by simp) ?_
 simp -implicitDefEqProofs (disch:=first|omega|simp only[go_sem]) only[go_sem,true_and]
 rw[List.take_length]at hni
 exact ⟨_,rfl,_,rfl,⟨fun h=>absurd h (by decide),fun h=>absurd h hni⟩,hE⟩
theorem contains_c {h:DHeap} {a:Value} {l:List Key} {k:Key} (hb:Arg fKey.rep h a l) (hl:l.length≤4294967296) :
 DC Try.prog 19 [a,keyV k] h (.ret (.bool (decide (k∈l)))) h:=by
 refine Ct.pure (go_19 (by simp) ?_) (vin_bool _)
 obtain ⟨K,hK⟩:∃ K,K=h.push (.row [.int .i32 k.t,.int .i64 k.r] 0 false):=⟨_,rfl⟩
 have hE:Ext h K:=by rw[hK];exact Ext.push1 _ _
 have gk:K.get h.next=some (.row [.int .i32 k.t,.int .i64 k.r] 0 false):=by rw[hK];exact get_push_same _ _
 have lk:cellsAt K h.next 0 2=some (keyV k):=by rw[cellsAt_row gk (Nat.le_of_ble_eq_true rfl)];rfl
 have hcl:(keyV k).cells.toList=[.int .i32 k.t,.int .i64 k.r]:=rfl
 simp -implicitDefEqProofs (disch:=first|omega|simp only[go_sem]) only[go_sem,true_and,c19,hcl,← hK,lk]
 refine ncall_ct (indexKey_c (hb.ext hE) hl) ?_
 rintro r h1 ⟨n,rfl,hn,hE1⟩
 simp -implicitDefEqProofs (disch:=first|omega|simp only[go_sem]) only[go_sem,true_and,XEnd]
 exact ⟨_,rfl,congrArg (fun b=>DEnd.ret (Value.bool b)) (decide_eq_decide.2 hn),hE.trans hE1⟩
theorem has_c {h:DHeap} {a:Value} {l:List Key} {k:Key} (hb:Arg fKey.rep h a l) (hl:l.length≤4294967296) :
 DC Try.prog 51 [a,keyV k] h (.ret (.bool (decide (k∈l)))) h:=by
 refine Ct.pure (go_51 (by simp) ?_) (vin_bool _)
 obtain ⟨K,hK⟩:∃ K,K=h.push (.row [.int .i32 k.t,.int .i64 k.r] 0 false):=⟨_,rfl⟩
 have hE:Ext h K:=by rw[hK];exact Ext.push1 _ _
 have gk:K.get h.next=some (.row [.int .i32 k.t,.int .i64 k.r] 0 false):=by rw[hK];exact get_push_same _ _
 have lk:cellsAt K h.next 0 2=some (keyV k):=by rw[cellsAt_row gk (Nat.le_of_ble_eq_true rfl)];rfl
 have hcl:(keyV k).cells.toList=[.int .i32 k.t,.int .i64 k.r]:=rfl
 simp -implicitDefEqProofs (disch:=first|omega|simp only[go_sem]) only[go_sem,true_and,c51,hcl,← hK,lk]
 refine ncall (contains_c (hb.ext hE) hl) ?_
 simp -implicitDefEqProofs (disch:=first|omega|simp only[go_sem]) only[go_sem,true_and]
 exact ⟨_,rfl,rfl,hE⟩
end Go.Proofs.Ythjmkmoiopmfcaa

namespace Go.Proofs.Ythjmkmoiopmfcaa
open Go.D
set_option maxRecDepth 100000
abbrev pairV (x:Pair):Value:=.agg #[.int .i32 x.k.t,.int .i64 x.k.r,.int .i64 x.v]
structure Test (h:DHeap) (f:FuncId) (cap:Array Value) (l:List Pair) (pd:Pair→Bool):Prop where
 good:goodFn Try.prog f=true
 says:∀ x∈l,∀ K,Ext h K→DC Try.prog f (pairV x :: cap.toList) K (.ret (.bool (pd x))) K
theorem indexFunc_c {h:DHeap} {a:Value} {l:List Pair} {f:FuncId} {cap:Array Value} {pd:Pair→Bool} (hb:Arg fPair.rep h a l) (hl:l.length≤4294967296) (ht:Test h f cap l pd) :
 Ct Try.prog 73 [a,.func (.func f) #[] cap] h fun r h1=>Ext h h1∧((r=.ret (.int .i64 (-1))∧∀ x∈l,pd x=false)∨∃ i:Nat,∃ hi:i<l.length,r=.ret (.int .i64 (i:Nat))∧pd l[i]=true∧∀ x∈l.take i,pd x=false):=by
 refine go_73 (by simp) ?_
 have el:∀ K,dLen Try.prog #[27] a K=some (.int .i64 (l.length:Nat)):=hb.lens (P:=Try.prog) (ts:=#[27]) (t:=27) rfl isl_27
 simp -implicitDefEqProofs (disch:=first|omega|simp only[go_sem]) only[go_sem,true_and,c73,el]
 refine xloop (σ:=Nat) (by kernel_rfl) (fun i s=>s.df=[]∧s.rd=none∧s.h=h∧s.fr 0=some a∧s.fr 1=some (.func (.func f) #[] cap)∧s.fr 7=some (.int .i64 (l.length:Nat))∧s.fr 8=some (.int .i64 (i:Nat))∧i≤l.length∧∀ x∈l.take i,pd x=false) (fun i=>l.length - i) 0 ?_ ?_
 ·simp -implicitDefEqProofs (disch:=first|omega|simp only[go_sem]) only[go_sem,true_and]
  exact ⟨by trivial,Nat.zero_le _,fun x hx=>by simp at hx⟩
 rintro i ⟨fr,df,hh,rd⟩ K' hK' hX ⟨rfl,rfl,rfl,f0,f1,f7,f8,hi,hni⟩
 simp only at f0 f1 f7 f8
 simp -implicitDefEqProofs (disch:=first|omega|simp only[go_sem]) only[go_sem,true_and,f7,f8]
 refine XIf_dec (fun hc1=>?_) (fun hc1=>?_)
 ·have hj:i<l.length:=by omega
  obtain ⟨id1,o1,e1,_,hat1⟩:=hb.idx (P:=Try.prog) (t:=27) el_27 (k:=.i64) (i:=i) (x:=l[i]) (by simp)
  have l1:cellsAt hh id1 o1 3=some (pairV l[i]):=hat1.flat.2.1
  have hw:=wrap_succ hj (by omega)
  have hca:dCallO Try.prog hh (some (.func (.func f) #[] cap)) (some [pairV l[i]])=.ok (.enter f (pairV l[i] :: cap.toList)) hh:=dCallO_func ht.good _ _ _
  simp -implicitDefEqProofs (disch:=first|omega|simp only[go_sem]) only[go_sem,true_and,f0,f1,f8,e1,l1,hca]
  refine ncall (ht.says _ (List.getElem_mem hj) hh (.refl _)) ?_
  cases hq:pd l[i] with
  | true=>
    simp -implicitDefEqProofs (disch:=first|omega|simp only[go_sem]) only[go_sem,true_and]
    refine hX _ _ (by simp) ?_
    simp -implicitDefEqProofs (disch:=first|omega|simp only[go_sem]) only[go_sem,true_and]
    exact ⟨_,rfl,.refl _,.inr ⟨i,hj,rfl,hq,hni⟩⟩
  | false=>
    simp -implicitDefEqProofs (disch:=first|omega|simp only[go_sem]) only[go_sem,true_and,f8,hw]
    refine hK' (i+1) _ ?_ (by omega)
    refine ⟨rfl,rfl,rfl,(vy f0),(vy f1),(vy f7),vz,by omega,fun x hx=>?_⟩
    rw[List.take_succ_eq_append_getElem hj,List.mem_append,List.mem_singleton]at hx
    rcases hx with hx | rfl
    ·exact hni x hx
    ·exact hq
 obtain rfl:i=l.length:=by omega
 refine hX _ _ (by simp) ?_
 simp -implicitDefEqProofs (disch:=first|omega|simp only[go_sem]) only[go_sem,true_and]
 rw[List.take_length]at hni
 exact ⟨_,rfl,.refl _,.inl ⟨rfl,hni⟩⟩
end Go.Proofs.Ythjmkmoiopmfcaa

namespace Go.Proofs.Ythjmkmoiopmfcaa
open Go.D
set_option maxRecDepth 100000
theorem needs_says {h:DHeap} {c:Nat} {w:Value} {reads:List Key} {x:Pair} (hc:cellAt h c 4=some w) (hlt:c<h.next) (hb:Arg fKey.rep h w reads) (hl:reads.length≤4294967296) :
 DC Try.prog 50 [pairV x,.pointer (some ⟨c,0,none⟩)] h (.ret (.bool (!decide (x.k∈reads)))) h:=by
 refine Ct.pure (go_50 (by simp) ?_) (vin_bool _)
 obtain ⟨K,hK⟩:∃ K,K=h.push (.row [.int .i32 x.k.t,.int .i64 x.k.r,.int .i64 x.v] 0 false):=⟨_,rfl⟩
 have hE:Ext h K:=by rw[hK];exact Ext.push1 _ _
 have gk:K.get h.next=some (.row [.int .i32 x.k.t,.int .i64 x.k.r,.int .i64 x.v] 0 false):=by rw[hK];exact get_push_same _ _
 have lk:cellsAt K h.next 0 2=some (keyV x.k):=by rw[cellsAt_row gk (Nat.le_of_ble_eq_true rfl)];rfl
 have hc2:cellAt K c 4=some w:=by
  have:=hE.get c hlt
  simp only[cellAt,this]at hc ⊢
  exact hc
 have hcl:(pairV x).cells.toList=[.int .i32 x.k.t,.int .i64 x.k.r,.int .i64 x.v]:=rfl
 simp -implicitDefEqProofs (disch:=first|omega|simp only[go_sem]) only[go_sem,true_and,c50,hcl,← hK,hc2,lk]
 refine ncall (has_c (hb.ext hE) hl) ?_
 simp -implicitDefEqProofs (disch:=first|omega|simp only[go_sem]) only[go_sem,true_and]
 exact ⟨_,rfl,rfl,hE⟩
theorem needs_test {h:DHeap} {c:Nat} {w:Value} {reads:List Key} {l:List Pair} (hc:cellAt h c 4=some w) (hlt:c<h.next) (hb:Arg fKey.rep h w reads) (hl:reads.length≤4294967296) :
 Test h 50 #[.pointer (some ⟨c,0,none⟩)] l fun x=>!decide (x.k∈reads) where
 good:=by kernel_rfl
 says x _ K e:=needs_says (by
  have:=e.get c hlt
  simp only[cellAt,this]at hc ⊢
  exact hc) (Nat.lt_of_lt_of_le hlt e.next) (hb.ext e) hl
end Go.Proofs.Ythjmkmoiopmfcaa

namespace Go.Proofs.Ythjmkmoiopmfcaa
open Go.D
set_option maxRecDepth 100000
theorem pairs_byK {l:List Pair} {ks:List Key} (hu:UpK ks) (hm:∀ k,k∈ks↔k∈l.map (·.k)):ks.map (pairOf l)=byK Pair.k l:=by
 have e:ks=keysN (l.map (·.k)):=up_eq hu (keysN_up _) fun k=>(hm k).trans mem_keysN.symm
 have key:∀ ms:List Key,(∀ k∈ms,k∈l.map (·.k))→ms.map (pairOf l)=ms.filterMap (lastB Pair.k l):=by
  intro ms
  induction ms with
  | nil=>intro _;rfl
  | cons a ms ih=>
    intro h
    obtain ⟨x,hx⟩:=lastB_mem (key:=Pair.k) (h a (by simp))
    rw[List.map_cons,ih fun k hk=>h k (by simp[hk]),List.filterMap_cons,hx]
    have:pairOf l a=x:=by
     unfold pairOf lastP
     unfold lastB at hx
     rw[hx]
     rfl
    rw[this]
 rw[key ks fun k hk=>(hm k).1 hk,e]
 rfl
theorem pairs_dc {h:DHeap} {v:Value} {l:List Pair} (hb:Arg fPair.rep h v l) (hl:l.length≤1048576):DC Try.prog 49 [v] h (.ret (lv h (byK Pair.k l))) (lh fPair h (byK Pair.k l)):=
 Ct.made ((pairs_c hb hl).mono fun r h1 ⟨w,ks,e,hu,hm,h0,mm⟩=>by
  rw[pairs_byK hu hm]at mm
  refine ⟨w,e,mm,fun hk=>h0 ?_⟩
  rw[← pairs_byK hu hm]at hk
  simpa using hk)
theorem row_pair {K:DHeap} {id i:Nat} {A:List Pair} (r:RowIs fPair K id A) (hi:i<A.length):cellsAt K id (i*3) 3=some (pairV A[i]):=by
 have hm:(i+1)*3≤A.length*3:=Nat.mul_le_mul_right _ hi
 have h1:A.flatMap fPair.enc=(A.take i).flatMap fPair.enc++(fPair.enc A[i]++(A.drop (i+1)).flatMap fPair.enc):=by
  conv=>lhs;rw[← List.take_append_drop i A,List.drop_eq_getElem_cons hi]
  rw[List.flatMap_append,List.flatMap_cons]
 have h2:i*3=((A.take i).flatMap fPair.enc).length:=by rw[flatMap_len];simp[Nat.min_eq_left (Nat.le_of_lt hi)];rfl
 rw[cellsAt_row r (by rw[flatMap_len];show _≤A.length*3;omega),h1,h2,List.drop_left]
 rfl
theorem deleteNone_c {h h0:DHeap} {v:Value} {l:List Pair} {f:FuncId} {cap:Array Value} {pd:Pair→Bool} (hb:Arg fPair.rep h v l) (hl:l.length≤1048576) (hE:Ext h0 h) (ht:Test h0 f cap l pd) (hn:∀ x∈l,pd x=false) :
 Ct Try.prog 48 [v,.func (.func f) #[] cap] h fun r h1=>r=.ret v∧Ext h h1:=by
 refine go_48 (by simp) ?_
 have ht':Test h f cap l pd:=⟨ht.good,fun x hx K e=>ht.says x hx K (hE.trans e)⟩
 simp -implicitDefEqProofs (disch:=first|omega|simp only[go_sem]) only[go_sem,true_and,c48]
 refine ncall_ct (indexFunc_c hb (by omega) ht') ?_
 rintro r h1 ⟨e1,hr⟩
 rcases hr with ⟨rfl,_⟩ | ⟨i,hi,_,hp,_⟩
 ·simp -implicitDefEqProofs (disch:=first|omega|simp only[go_sem]) only[go_sem,true_and,XEnd]
  exact ⟨_,rfl,rfl,e1⟩
 ·rw[hn _ (List.getElem_mem hi)]at hp
  cases hp
structure DelI (l:List Pair) (pd:Pair→Bool) (j k:Nat) (A:List Pair):Prop where
 len:A.length=l.length
 le:j≤l.length
 kk:k=((l.take j).filter fun x=>!pd x).length
 hd:A.take k=(l.take j).filter fun x=>!pd x
 lt:k<j
 tl:∀ p,k<p→j≤p→A[p]? = l[p]?
theorem DelI.first {l:List Pair} {pd:Pair→Bool} {i:Nat} (hi:i<l.length) (hp:pd l[i]=true) (hn:∀ x∈l.take i,pd x=false):DelI l pd (i+1) i l:=by
 have e:(l.take (i+1)).filter (fun x=>!pd x)=l.take i:=by
  rw[List.take_succ_eq_append_getElem hi,List.filter_append,List.filter_cons_of_neg (by simp[hp]),List.filter_nil,List.append_nil]
  exact List.filter_eq_self.2 fun x hx=>by simp[hn x hx]
 refine ⟨rfl,hi,?_,?_,Nat.lt_succ_self _,fun _ _ _=>rfl⟩
 ·rw[e,List.length_take];omega
 ·rw[e]
theorem DelI.at {l A:List Pair} {pd:Pair→Bool} {j k:Nat} (x:DelI l pd j k A) (h:j<l.length):∃ h1:j<A.length,A[j]=l[j]:=by
 have e:=x.len
 refine ⟨by omega,?_⟩
 have h1:=x.tl j x.lt (Nat.le_refl _)
 rw[List.getElem?_eq_getElem (by omega),List.getElem?_eq_getElem h]at h1
 exact Option.some.inj h1
theorem DelI.skip {l A:List Pair} {pd:Pair→Bool} {j k:Nat} (x:DelI l pd j k A) (h:j<l.length) (hp:pd l[j]=true):DelI l pd (j+1) k A:=by
 have e:(l.take (j+1)).filter (fun x=>!pd x)=(l.take j).filter fun x=>!pd x:=by
  rw[List.take_succ_eq_append_getElem h,List.filter_append,List.filter_cons_of_neg (by simp[hp]),List.filter_nil,List.append_nil]
 exact ⟨x.len,h,by rw[e];exact x.kk,by rw[e];exact x.hd,Nat.lt_succ_of_lt x.lt,fun p h1 h2=>x.tl p h1 (by omega)⟩
theorem DelI.keep {l A:List Pair} {pd:Pair→Bool} {j k:Nat} (x:DelI l pd j k A) (h:j<l.length) (hp:pd l[j]=false):DelI l pd (j+1) (k+1) (A.set k l[j]):=by
 have e:(l.take (j+1)).filter (fun x=>!pd x)=((l.take j).filter fun x=>!pd x)++[l[j]]:=by
  rw[List.take_succ_eq_append_getElem h,List.filter_append,List.filter_cons_of_pos (by simp[hp]),List.filter_nil]
 have hlt:=x.lt
 have hlen:=x.len
 refine ⟨by rw[List.length_set];exact x.len,h,by rw[e,List.length_append,← x.kk];rfl,?_,by omega,fun p h1 h2=>?_⟩
 ·rw[e,← x.hd,List.take_set,List.take_succ_eq_append_getElem (by omega),List.set_append_right _ _ (by simp;omega)]
  congr 1
  have:k - (List.take k A).length=0:=by simp;omega
  rw[this]
  rfl
 ·rw[List.getElem?_set_ne (by omega)]
  exact x.tl p (by omega) (by omega)
theorem cl_pair:clElem Try.prog 27=some (3,.agg #[.int .i32 0,.int .i64 0,.int .i64 0]):=by kernel_rfl
set_option maxHeartbeats 1000000 in
theorem deleteFunc_c {h h0:DHeap} {id c:Nat} {l:List Pair} {f:FuncId} {cap:Array Value} {pd:Pair→Bool} (hr:RowIs fPair h id l) (hok:∀ x∈l,fPair.ok x) (hl:l.length≤1048576) (hid:h0.next≤id) (hidl:id<h.next) (hE:Ext h0 h) (ht:Test h0 f cap l pd) :
 Ct Try.prog 48 [.slice (some ⟨id,0,none⟩) l.length c,.func (.func f) #[] cap] h fun r h1=>∃ w,r=.ret w∧Made fPair h0 h1 w (l.filter fun x=>!pd x):=by
 obtain ⟨v,hv⟩:∃ v,Value.slice (some ⟨id,0,none⟩) l.length c=v:=⟨_,rfl⟩
 have hb:Arg fPair.rep h v l:=by
  have:=hr.sl (o:=0) (n:=l.length) (c:=c) (by omega) hok
  simp only[Nat.zero_mul,List.drop_zero,List.take_length]at this
  rw[hv]at this
  exact this.mono fun i hi=>⟨by rw[hi];exact hidl,rfl⟩
 have mk:∀ (K:DHeap) (k c2:Nat) (cs:List Value),Ext h0 K→id<K.next→K.get id=some (.row cs 3 false)→k=(l.filter fun x=>!pd x).length→k*3≤cs.length→cs.take (k*3)=(l.filter fun x=>!pd x).flatMap fPair.enc→Made fPair h0 K (.slice (some ⟨id,0,none⟩) k c2) (l.filter fun x=>!pd x):=fun K k c2 cs e hlt g hk hle ht=>by
  subst hk
  exact ⟨e,some id,.inr (.inr ⟨id,c2,cs,rfl,rfl,hlt,g,hle,Els.flat.2 ⟨ht,fun x hx=>hok x ((List.mem_filter.1 hx).1)⟩⟩),fun i hi=>by cases hi;exact hid⟩
 rw[hv]
 by_cases hn:∀ x∈l,pd x=false
 ·have hf:l.filter (fun x=>!pd x)=l:=List.filter_eq_self.2 fun x hx=>by simp[hn x hx]
  refine (deleteNone_c hb hl hE ht hn).mono fun r h1 ⟨e,e1⟩=>⟨v,e,?_⟩
  have:=mk h1 l.length c (l.flatMap fPair.enc) (hE.trans e1) (Nat.lt_of_lt_of_le hidl e1.next) ((e1.get _ hidl).trans hr) (by rw[hf]) (by rw[flatMap_len];exact Nat.le_refl _) (by rw[hf,List.take_of_length_le (by rw[flatMap_len];exact Nat.le_refl _)])
  rw[hv]at this
  exact this
 refine go_48 (by simp) ?_
 have el:∀ K,dLen Try.prog #[27] v K=some (.int .i64 (l.length:Nat)):=fun K=>by rw[← hv];rfl
 have ht':Test h f cap l pd:=⟨ht.good,fun x hx K e=>ht.says x hx K (hE.trans e)⟩
 have ia:∀ i:Nat,i<l.length→dIndexAddr Try.prog 27 v (.int .i64 (i:Nat))=some (.pointer (some ⟨id,i*3,none⟩)):=fun i hi=>by
  rw[← hv]
  refine (dIndexAddr_at el_27 (by omega) (by omega)).trans ?_
  rw[Nat.zero_add,Int.toNat_natCast]
 have slo:∀ K (A:List Pair) (k:Nat),RowIs fPair K id A→k≤l.length→∃ c',dSlice Try.prog 27 v (some (.int .i64 (k:Nat))) none none K=some (.slice (some ⟨id,k*3,none⟩) (l.length - k) c'):=fun K A k r hk=>by
  rw[← hv]
  have:=dSlice_row (c:=c) (o:=0) (n:=l.length) el_27 (by decide) r (lo:=some (.int .i64 (k:Nat))) (hi:=none) (j:=l.length) (i:=k) rfl (bound_nat (k:=.i64) hk)
  rw[Nat.zero_add]at this
  exact ⟨_,this⟩
 have shi:∀ K cs (k:Nat),K.get id=some (.row cs 3 false)→k≤l.length→∃ c',dSlice Try.prog 27 v none (some (.int .i64 (k:Nat))) none K=some (.slice (some ⟨id,0,none⟩) k c'):=fun K cs k r hk=>by
  rw[← hv]
  exact ⟨_,(dSlice_row el_27 (by decide) r (j:=k) (i:=0) (bound_nat (k:=.i64) hk) rfl)⟩
 simp -implicitDefEqProofs (disch:=first|omega|simp only[go_sem]) only[go_sem,true_and,c48]
 refine ncall_ct (indexFunc_c hb (by omega) ht') ?_
 rintro r h1 ⟨e1,hr1⟩
 rcases hr1 with ⟨_,hn1⟩ | ⟨i0,hi0,rfl,hp0,hn0⟩
 ·exact absurd hn1 hn
 have hne:(((i0:Nat):Int)=-1)=False:=eq_false (by omega)
 have hw0:=wrap_succ hi0 (by omega)
 simp -implicitDefEqProofs (disch:=first|omega|simp only[go_sem]) only[go_sem,true_and,XEnd,hne,hw0]
 have hr1:RowIs fPair h1 id l:=(e1.get _ hidl).trans hr
 refine xloop (σ:=Nat) (by kernel_rfl) (fun j s=>s.df=[]∧s.rd=none∧s.fr 0=some v∧s.fr 1=some (.func (.func f) #[] cap)∧s.fr 6=some (.int .i64 (j:Nat))∧Ext h0 s.h∧id<s.h.next∧∃ k A,s.fr 5=some (.int .i64 (k:Nat))∧RowIs fPair s.h id A∧DelI l pd j k A) (fun j=>l.length - j) (i0+1) ?_ ?_
 ·simp -implicitDefEqProofs (disch:=first|omega|simp only[go_sem]) only[go_sem,true_and]
  exact ⟨hE.trans e1,Nat.lt_of_lt_of_le hidl e1.next,i0,l,rfl,hr1,.first hi0 hp0 hn0⟩
 rintro j ⟨fr,df,K,rd⟩ K' hK' hX ⟨rfl,rfl,f0,f1,f6,hEK,hKl,k,A,f5,hrA,x⟩
 simp only at f0 f1 f6 hEK hKl f5 hrA
 have xlt:=x.lt
 have xlen:=x.len
 have xle:=x.le
 simp -implicitDefEqProofs (disch:=first|omega|simp only[go_sem]) only[go_sem,true_and,f0,f6,el]
 refine XIf_dec (fun hc1=>?_) (fun hc1=>?_)
 ·have hj:j<l.length:=by omega
  obtain ⟨hA1,eA1⟩:=x.at hj
  have k1:=row_pair hrA hA1
  rw[eA1]at k1
  have hw:=wrap_succ hj (by omega)
  obtain ⟨K1,hK1⟩:∃ H,H=K.push (.row [.int .i32 l[j].k.t,.int .i64 l[j].k.r,.int .i64 l[j].v] 0 false):=⟨_,rfl⟩
  have g1:K1.get K.next=some (.row [.int .i32 l[j].k.t,.int .i64 l[j].k.r,.int .i64 l[j].v] 0 false):=by rw[hK1];exact get_push_same _ _
  have lk:cellsAt K1 K.next 0 3=some (pairV l[j]):=by rw[cellsAt_row g1 (Nat.le_of_ble_eq_true rfl)];rfl
  have hE1:Ext K K1:=by rw[hK1];exact Ext.push1 _ _
  have hK1n:K1.next=K.next+1:=by rw[hK1];rfl
  have hst:dStore Try.prog 46 (.pointer (some ⟨K.next,0,none⟩)) (.agg #[.int .i32 l[j].k.t,.int .i64 l[j].k.r,.int .i64 l[j].v]) (K.push (.row [.int .i32 0,.int .i64 0,.int .i64 0] 0 false))=some K1:=by
   rw[hK1]
   exact (st_46 rfl).trans (storeAll_push rfl rfl)
  have hca:dCallO Try.prog K1 (some (.func (.func f) #[] cap)) (some [pairV l[j]])=.ok (.enter f (pairV l[j] :: cap.toList)) K1:=dCallO_func ht.good _ _ _
  have hr2:RowIs fPair K1 id A:=(hE1.get _ hKl).trans hrA
  simp -implicitDefEqProofs (disch:=first|omega|simp only[go_sem]) only[go_sem,true_and,f0,f1,f6,ia j hj,k1,hst,lk,hca]
  refine ncall (ht.says _ (List.getElem_mem hj) K1 (hEK.trans hE1)) ?_
  cases hq:pd l[j] with
  | true=>
    simp -implicitDefEqProofs (disch:=first|omega|simp only[go_sem]) only[go_sem,true_and,f6,hw]
    refine hK' (j+1) _ ?_ (by omega)
    exact ⟨by trivial,by trivial,(vy f0),(vy f1),vz,hEK.trans hE1,show id<K1.next by omega,k,A,(vy f5),hr2,x.skip hj hq⟩
  | false=>
    have hw3:=wrap_succ (i:=k) (show k<l.length by omega) (by omega)
    have hst2:storeAt K1 id (k*3) [.int .i32 l[j].k.t,.int .i64 l[j].k.r,.int .i64 l[j].v]=some (K1.set id (.row ((A.set k l[j]).flatMap fPair.enc) 3 false)):=hr2.store (show k<A.length by omega) l[j]
    simp -implicitDefEqProofs (disch:=first|omega|simp only[go_sem]) only[go_sem,true_and,f0,f5,f6,lk,ia k (show k<l.length by omega),hst2,hw,hw3]
    refine hK' (j+1) _ ?_ (by omega)
    exact ⟨by trivial,by trivial,(vy f0),(vy f1),vz,(hEK.trans hE1).set hid,show id<K1.next by omega,k+1,A.set k l[j],vz,RowIs.set rfl,x.keep hj hq⟩
 ·have hjl:j=l.length:=by omega
  have xk:=x.kk
  have xhd:=x.hd
  rw[hjl,List.take_length]at xk xhd
  obtain ⟨c3,hs3⟩:=slo _ A k hrA (by omega)
  obtain ⟨zs,hzs,hcl⟩:=dClear_row (esz:=3) (n:=l.length - k) (c:=c3) (o:=k*3) cl_pair rfl hrA (by rw[flatMap_len];show _≤A.length*3;omega)
  obtain ⟨c4,hs4⟩:=shi (K.set id (.row (setAt (A.flatMap fPair.enc) (k*3) zs) 3 false)) _ k (get_set_same _ _) (by omega)
  refine hX _ _ (by simp) ?_
  simp -implicitDefEqProofs (disch:=first|omega|simp only[go_sem]) only[go_sem,true_and,f0,f5,hs3,hcl,hs4]
  refine ⟨_,rfl,_,rfl,mk _ k c4 _ (hEK.set hid) hKl (get_set_same _ _) xk ?_ ?_⟩
  ·rw[setAt_length,flatMap_len];show k*3≤A.length*3;omega
  ·have hAk:A.flatMap fPair.enc=(A.take k).flatMap fPair.enc++(A.drop k).flatMap fPair.enc:=by rw[← List.flatMap_append,List.take_append_drop]
   have hlk:k*3=((A.take k).flatMap fPair.enc).length:=by rw[flatMap_len];simp[Nat.min_eq_left (show k≤A.length by omega)];rfl
   rw[← xhd]
   refine List.ext_getElem? fun i=>?_
   rw[List.getElem?_take]
   split
   ·rename_i hi
    rw[setAt_get,if_neg (by omega),hAk,List.getElem?_append_left (by omega)]
   ·rw[List.getElem?_eq_none (by omega)]
end Go.Proofs.Ythjmkmoiopmfcaa

namespace Go.Proofs.Ythjmkmoiopmfcaa
open Go.D
set_option maxRecDepth 100000
end Go.Proofs.Ythjmkmoiopmfcaa

namespace Go.Proofs.Ythjmkmoiopmfcaa
open Go.D
set_option maxRecDepth 100000
theorem delete_lh {h0 H:DHeap} {l:List Pair} {f:FuncId} {cap:Array Value} {pd:Pair→Bool} (hok:∀ x∈l,fPair.ok x) (hl:l.length≤1048576) (hE:Ext h0 H) (ht:Test H f cap l pd) :
 Ct Try.prog 48 [lv H l,.func (.func f) #[] cap] (lh fPair H l) fun r h1=>∃ w,r=.ret w∧Made fPair h0 h1 w (l.filter fun x=>!pd x):=by
 by_cases h0':l=[]
 ·subst h0'
  refine (deleteNone_c (h0:=H) (pd:=pd) (lh_made fPair H hok).arg (by simp) (lh_ext _ _ _) ht (fun x hx=>by cases hx)).mono fun r h1 ⟨e,e1⟩=>⟨_,e,?_⟩
  exact (Made.nil fPair ((hE.trans (lh_ext _ _ _)).trans e1))
 ·have hne:l.isEmpty=false:=by simpa using h0'
  have e1:lv H l=.slice (some ⟨H.next,0,none⟩) l.length (l.length+1):=by unfold lv;rw[hne];rfl
  have e2:lh fPair H l=H.push (.row (l.flatMap fPair.enc) 3 false):=by unfold lh;rw[hne];rfl
  rw[e1,e2]
  refine (deleteFunc_c (h0:=H) (get_push_same _ _) hok hl (Nat.le_refl _) (Nat.lt_succ_self _) (Ext.push1 _ _) ht).mono fun r h1 ⟨w,e,m⟩=>⟨w,e,m.base hE⟩
theorem needs_c {h:DHeap} {t:Txn} {vc va vr vw v:Value} {l:List Pair} (x:TxV (InH h) h t vc va vr vw) (hb:Arg fPair.rep h v l) (hl:l.length≤1048576) (hr:t.reads.length≤4294967296) :
 Ct Try.prog 21 [txnV t.ses t.req vc va vr vw,v] h fun r h1=>∃ w,r=.ret w∧Made fPair h h1 w (needsN t l):=by
 refine go_21 (by simp) ?_
 obtain ⟨H,hH⟩:∃ H,H=h.push (.row [.int .i64 t.ses,.int .i64 t.req,vc,va,vr,vw] 0 false):=⟨_,rfl⟩
 have hE:Ext h H:=by rw[hH];exact Ext.push1 _ _
 have g:H.get h.next=some (.row [.int .i64 t.ses,.int .i64 t.req,vc,va,vr,vw] 0 false):=by rw[hH];exact get_push_same _ _
 have hHn:H.next=h.next+1:=by rw[hH];rfl
 have hcl:(txnV t.ses t.req vc va vr vw).cells.toList=[.int .i64 t.ses,.int .i64 t.req,vc,va,vr,vw]:=rfl
 simp -implicitDefEqProofs (disch:=first|omega|simp only[go_sem]) only[go_sem,true_and,c21,hcl,← hH]
 refine ncall (pairs_dc (hb.ext hE) hl) ?_
 simp -implicitDefEqProofs (disch:=first|omega|simp only[go_sem]) only[go_sem,true_and]
 have hlen:=byK_len (key:=Pair.k) l
 refine ncall_ct (delete_lh (h0:=h) (fun x hx=>hb.ok x (mem_of_byK hx)) (by omega) hE (needs_test (cellAt_row g) (by omega) (x.ext hE).r hr)) ?_
 rintro r h1 ⟨w,rfl,m⟩
 simp -implicitDefEqProofs (disch:=first|omega|simp only[go_sem]) only[go_sem,true_and,XEnd]
 refine ⟨_,rfl,w,rfl,?_⟩
 simpa [needsN] using m
end Go.Proofs.Ythjmkmoiopmfcaa

namespace Go.D
variable {P:Program} {α:Type} {F:FRep α} {h h1 K:DHeap} {v:Value} {l:List α} {z b id:Nat} {ts:Array TypeId}
def NoRow (h:DHeap) (i z:Nat):Prop:=∀ cs,h.get i≠some (.row cs z false)
theorem NoRow.map {es:List MapEntry} {c:Nat} (g:h.get id=some (.map es c)):NoRow h id z:=fun cs e=>by rw[g]at e;cases e
theorem NoRow.row {cs:List Value} {y:Nat} (g:h.get id=some (.row cs y false)) (hy:y≠z):NoRow h id z:=fun cs' e=>by rw[g]at e;cases e;exact hy rfl
theorem NoRow.keep (n:NoRow h id z) (e:K.get id=h.get id):NoRow K id z:=fun cs g=>n cs (e▸g)
theorem MapAt.noRow {κ:Type} {enc:κ→Value} {m:List (κ × Value)} (a:MapAt enc h id m):NoRow h id z:=by
 obtain ⟨es,c,g,_⟩:=a
 exact .map g
theorem Owns.ne {w:Option Nat} (a:Owns F.rep NoS K v l w) (hn:NoRow K id F.z):w≠some id:=by
 rintro rfl
 rcases a with ⟨_,_,h0⟩ | ⟨h0,_⟩ | ⟨i,cap,cells,_,h0,_,g,_⟩
 ·cases h0
 ·cases h0
 ·cases h0
  exact hn _ g
theorem Made.setX {o:DObj} (m:Made F h K v l) (hn:NoRow K id F.z) (hid:h.next≤id):Made F h (K.set id o) v l:=by
 obtain ⟨w,a,b⟩:=m.own
 have hne:=a.ne hn
 exact ⟨m.ext.set hid,w,a.mono (Nat.le_refl _) (fun i hi=>get_set_other _ _ fun e=>by subst e;exact hne hi) (fun i hi=>hi.elim),b⟩
theorem Made.snocX (m:Made F h h1 v l) (hT:appT P ts=some (F.z,b)) {y:α} {cs:List Value} (hc:cs=F.enc y) (hz:F.z=z) (hp:0<F.z) (hy:F.ok y) (hlen:l.length+1≤4294967296) (hb:b≤32768) :
 ∃ v' h2,dAppend P ts v (.slice (some ⟨h1.next,0,none⟩) 1 1) (h1.push (.row cs z false))=some (v',h2)∧Made F h h2 v' (l++[y])∧h2.next=h1.next+2∧∀ i,i<h1.next→NoRow h1 i F.z→h2.get i=h1.get i:=by
 obtain ⟨w,a,bw⟩:=m.own
 obtain ⟨v',h2,e1,n2,ng2,gg,o3⟩:=a.snoc (cs:=cs) (x:=y) (z:=z) (fun i hi=>hi.elim) ⟨hc,hy⟩ hz.symm hp hT hlen hb
 exact ⟨v',h2,e1,⟨⟨by have:=m.ext.next;omega,ng2.trans m.ext.ng,fun i hi=>(gg i (Nat.lt_of_lt_of_le hi m.ext.next) (fun e=>by have:=bw i e;omega)).trans (m.ext.get i hi)⟩,_,o3,fun i hi=>by cases hi;have:=m.ext.next;omega⟩,n2,fun i hi hn=>gg i hi (a.ne hn)⟩
end Go.D

namespace Go.Proofs.Ythjmkmoiopmfcaa
open Go.D
set_option maxRecDepth 100000
abbrev chgV (c:Change):Value:=.agg #[.int .i32 c.k.t,.int .i64 c.k.r,.int .i64 c.v,.bool c.e]
def putB {α:Type} (key:α→Key) (enc:α→Value) (l:List α):List (Key × Value):=l.foldl (fun m p=>mput m (key p) (enc p)) []
section
variable {α:Type} {key:α→Key} {enc:α→Value}
theorem putB_snoc {l:List α} {x:α}:putB key enc (l++[x])=mput (putB key enc l) (key x) (enc x):=by
 unfold putB
 rw[List.foldl_append]
 rfl
theorem putB_take {l:List α} {i:Nat} (hi:i<l.length):putB key enc (l.take (i+1))=mput (putB key enc (l.take i)) (key l[i]) (enc l[i]):=by
 rw[List.take_succ_eq_append_getElem hi,putB_snoc]
theorem snoc_ind {P:List α→Prop} (h0:P []) (h1:∀ l x,P l→P (l++[x])):∀ l,P l:=fun l=>by
 have:∀ m:List α,P m.reverse:=fun m=>by
  induction m with
  | nil=>exact h0
  | cons x m ih=>rw[List.reverse_cons];exact h1 _ _ ih
 have h:=this l.reverse
 rwa [List.reverse_reverse]at h
theorem putB_nodup:∀ l:List α,((putB key enc l).map (·.1)).Nodup:=
 snoc_ind (by simp[putB]) fun l x ih=>by rw[putB_snoc];exact mput_nodup ih
theorem mget_putB {k:Key}:∀ l:List α,mget (putB key enc l) k=(lastB key l k).map enc:=
 snoc_ind rfl fun l x ih=>by
  rw[putB_snoc,mget_mput (putB_nodup l),lastB_snoc,ih]
  by_cases h:k=key x
  ·rw[if_pos h,if_pos h.symm];rfl
  ·rw[if_neg h,if_neg fun e=>h e.symm]
theorem mem_putB:∀ (l:List α) (k:Key),k∈(putB key enc l).map (·.1)↔k∈l.map key:=
 snoc_ind (by simp[putB]) fun l x ih k=>by
  have ih':=ih
  have ih:=ih k
  rw[putB_snoc,mput_keys,List.map_append,List.map_cons,List.map_nil,List.mem_append,List.mem_singleton]
  split
  ·rename_i hx
   rw[ih]
   have hx:=(ih' (key x)).1 hx
   constructor
   ·exact .inl
   ·rintro (h | rfl)
    ·exact h
    ·exact hx
  ·rw[List.mem_append,List.mem_singleton,ih]
end
theorem und_mapC:Try.prog.underlying 63=some (.map 44 51):=by kernel_rfl
theorem mapTC:MapT Try.prog 63 keyV (chgV chg0):=⟨_,_,und_mapC,keyOf,by kernel_rfl⟩
set_option maxHeartbeats 1000000 in
theorem changes_c {h:DHeap} {v:Value} {l:List Change} (hb:Arg fChange.rep h v l) (hl:l.length≤1048576) :
 Ct Try.prog 26 [v] h fun r h1=>∃ w,r=.ret w∧Made fChange h h1 w (byK Change.k l):=by
 refine go_26 (by simp) ?_
 have el:∀ K,dLen Try.prog #[30] v K=some (.int .i64 (l.length:Nat)):=hb.lens (P:=Try.prog) (ts:=#[30]) (t:=30) rfl isl_30
 simp -implicitDefEqProofs (disch:=first|omega|simp only[go_sem]) only[go_sem,true_and,c26,el]
 refine xloop (σ:=Nat) (by kernel_rfl) (fun i s=>s.df=[]∧s.rd=none∧s.fr 3=some (.map (some h.next))∧s.fr 11=some v∧s.fr 12=some (.int .i64 (l.length:Nat))∧s.fr 13=some (.int .i64 (i:Nat))∧i≤l.length∧h.next<s.h.next∧MapAt keyV s.h h.next (putB Change.k chgV (l.take i))∧∃ kv,s.fr 4=some kv∧Made fKey h s.h kv ((l.take i).map Change.k)) (fun i=>l.length - i) 0 ?_ ?_
 ·simp -implicitDefEqProofs (disch:=first|omega|simp only[go_sem]) only[go_sem,true_and]
  exact ⟨by trivial,Nat.zero_le _,Nat.lt_succ_self _,MapAt.new,_,rfl,.nil fKey (Ext.push1 _ _)⟩
 rintro i ⟨fr,df,K,rd⟩ K' hK' hX ⟨rfl,rfl,f3,f11,f12,f13,hi,hlt,hm,kv,f4,mk⟩
 simp only at f3 f11 f12 f13 hlt hm f4 mk
 have hE:=mk.ext
 simp -implicitDefEqProofs (disch:=first|omega|simp only[go_sem]) only[go_sem,true_and,f11,f12,f13]
 refine XIf_dec (fun hc1=>?_) (fun hc1=>?_)
 ·have hj:i<l.length:=by omega
  obtain ⟨id1,o1,e1,_,hat1⟩:=(hb.ext hE).idx (P:=Try.prog) (t:=30) el_30 (k:=.i64) (i:=i) (x:=l[i]) (by simp)
  have l1:cellsAt K id1 o1 4=some (chgV l[i]):=hat1.flat.2.1
  obtain ⟨K1,hK1⟩:∃ H,H=K.push (.row [.int .i32 l[i].k.t,.int .i64 l[i].k.r,.int .i64 l[i].v,.bool l[i].e] 0 false):=⟨_,rfl⟩
  have g1:K1.get K.next=some (.row [.int .i32 l[i].k.t,.int .i64 l[i].k.r,.int .i64 l[i].v,.bool l[i].e] 0 false):=by rw[hK1];exact get_push_same _ _
  have hE1:Ext K K1:=by rw[hK1];exact Ext.push1 _ _
  have hK1n:K1.next=K.next+1:=by rw[hK1];rfl
  have hm1:MapAt keyV K1 h.next (putB Change.k chgV (l.take i)):=hm.keep (hE1.get _ hlt)
  obtain ⟨o,hu,hm2⟩:=hm1.update mapTC l[i].k (chgV l[i])
  obtain ⟨K2,hK2⟩:∃ H,K1.set h.next o=H:=⟨_,rfl⟩
  rw[hK2]at hu hm2
  have g2:K2.get K.next=some (.row [.int .i32 l[i].k.t,.int .i64 l[i].k.r,.int .i64 l[i].v,.bool l[i].e] 0 false):=by rw[← hK2,get_set_other _ _ (by omega)];exact g1
  have lk:cellsAt K1 K.next 0 2=some (keyV l[i].k):=by rw[cellsAt_row g1 (Nat.le_of_ble_eq_true rfl)];rfl
  have lk2:cellsAt K2 K.next 0 2=some (keyV l[i].k):=by rw[cellsAt_row g2 (Nat.le_of_ble_eq_true rfl)];rfl
  have lc:cellsAt K1 K.next 0 4=some (chgV l[i]):=by rw[cellsAt_row g1 (Nat.le_of_ble_eq_true rfl)];rfl
  have mk2:Made fKey h K2 kv ((l.take i).map Change.k):=hK2▸(mk.on hE1).setX hm1.noRow (Nat.le_refl _)
  have hK2n:K2.next=K.next+1:=by rw[← hK2];exact hK1n
  obtain ⟨kv',h6,e6,m6,n6,k6⟩:=mk2.snocX app_24 (y:=l[i].k) (cs:=[.int .i32 l[i].k.t,.int .i64 l[i].k.r]) (z:=2) rfl rfl (by decide) (hb.ok _ (List.getElem_mem hj)).1 (by rw[List.length_map,List.length_take];omega) (by decide)
  have hm3:MapAt keyV h6 h.next (putB Change.k chgV (l.take (i+1))):=by
   rw[putB_take hj]
   exact hm2.keep (k6 _ (by omega) hm2.noRow)
  have hw:=wrap_succ hj (by omega)
  have hst:dStore Try.prog 51 (.pointer (some ⟨K.next,0,none⟩)) (.agg #[.int .i32 l[i].k.t,.int .i64 l[i].k.r,.int .i64 l[i].v,.bool l[i].e]) (K.push (.row [.int .i32 0,.int .i64 0,.int .i64 0,.bool false] 0 false))=some K1:=by
   rw[hK1]
   exact (st_51 rfl).trans (storeAll_push rfl rfl)
  simp -implicitDefEqProofs (disch:=first|omega|simp only[go_sem]) only[go_sem,true_and,f3,f4,f11,f13,e1,l1,hst,lk,lc,hu,lk2,e6,hw]
  refine hK' (i+1) _ ?_ (by omega)
  refine ⟨by trivial,by trivial,(vy f3),(vy f11),(vy f12),vz,by omega,?_,hm3,kv',vz,?_⟩
  ·show h.next<h6.next
   omega
  ·rw[List.take_succ_eq_append_getElem hj,List.map_append]
   exact m6
 obtain rfl:i=l.length:=by omega
 refine hX _ _ (by simp) ?_
 rw[List.take_length]at hm mk
 simp -implicitDefEqProofs (disch:=first|omega|simp only[go_sem]) only[go_sem,true_and,f4]
 refine ncall_ct (keys_c mk.arg (by rw[List.length_map];exact hl)) ?_
 rintro r h3 ⟨w,rfl,hE3,hs3⟩
 obtain ⟨ks,hks⟩:∃ ks,keysN (l.map Change.k)=ks:=⟨_,rfl⟩
 rw[hks]at hs3
 have hsk:Arg fKey.rep h3 w ks:=hs3.mono fun i hi=>⟨hi.2,rfl⟩
 have ek:∀ K,dLen Try.prog #[24] w K=some (.int .i64 (ks.length:Nat)):=hsk.lens (P:=Try.prog) (ts:=#[24]) (t:=24) rfl isl_24
 have hkl:ks.length≤l.length:=by
  have:=keysN_len (l.map Change.k)
  rw[hks,List.length_map]at this
  exact this
 have hE03:Ext h h3:=hE.trans hE3
 have hn3:=hE3.next
 have hm3:MapAt keyV h3 h.next (putB Change.k chgV l):=hm.keep (hE3.get _ hlt)
 simp -implicitDefEqProofs (disch:=first|omega|simp only[go_sem]) only[go_sem,true_and,XEnd,ek]
 refine xloop (σ:=Nat) (by kernel_rfl) (fun j s=>s.df=[]∧s.rd=none∧s.fr 3=some (.map (some h.next))∧s.fr 28=some w∧s.fr 29=some (.int .i64 (ks.length:Nat))∧s.fr 30=some (.int .i64 (j:Nat))∧j≤ks.length∧∃ v',s.fr 7=some v'∧Made fChange h3 s.h v' ((ks.take j).filterMap (lastB Change.k l))) (fun j=>ks.length - j) 0 ?_ ?_
 ·simp -implicitDefEqProofs (disch:=first|omega|simp only[go_sem]) only[go_sem,true_and,f3]
  exact ⟨by trivial,Nat.zero_le _,_,rfl,Made.nil _ (.refl _)⟩
 rintro j ⟨fr,df,K4,rd⟩ K' hK' hX ⟨rfl,rfl,f3,f28,f29,f30,hj,v',f7,mm⟩
 simp only at f3 f28 f29 f30 f7 mm
 have hE4:=mm.ext
 have hn4:=hE4.next
 simp -implicitDefEqProofs (disch:=first|omega|simp only[go_sem]) only[go_sem,true_and,f28,f29,f30]
 refine XIf_dec (fun hc1=>?_) (fun hc1=>?_)
 ·have hjl:j<ks.length:=by omega
  obtain ⟨id1,o1,e1,_,hat1⟩:=(hsk.ext hE4).idx (P:=Try.prog) (t:=24) el_24 (k:=.i64) (i:=j) (x:=ks[j]) (by simp)
  have l1:cellsAt K4 id1 o1 2=some (keyV ks[j]):=hat1.flat.2.1
  obtain ⟨K5,hK5⟩:∃ H,H=K4.push (.row [.int .i32 ks[j].t,.int .i64 ks[j].r] 0 false):=⟨_,rfl⟩
  have hE5:Ext K4 K5:=by rw[hK5];exact Ext.push1 _ _
  have hK5n:K5.next=K4.next+1:=by rw[hK5];rfl
  have hst:dStore Try.prog 44 (.pointer (some ⟨K4.next,0,none⟩)) (keyV ks[j]) (K4.push (.row [.int .i32 0,.int .i64 0] 0 false))=some K5:=by
   rw[hK5]
   exact (st_44 rfl).trans (storeAll_push rfl rfl)
  have g5:K5.get K4.next=some (.row [.int .i32 ks[j].t,.int .i64 ks[j].r] 0 false):=by rw[hK5];exact get_push_same _ _
  have l5:cellsAt K5 K4.next 0 2=some (keyV ks[j]):=by rw[cellsAt_row g5 (Nat.le_of_ble_eq_true rfl)];rfl
  have hkm:ks[j]∈l.map Change.k:=mem_keysN.1 (hks▸List.getElem_mem hjl)
  obtain ⟨c,hc⟩:=lastB_mem (key:=Change.k) hkm
  obtain ⟨hc1,hc2⟩:=lastB_some hc
  have lk5:dLookup Try.prog 63 (.map (some h.next)) (keyV ks[j]) false K5=some (chgV c):=by
   rw[(hm3.keep ((hE5.get _ (by omega)).trans (hE4.get _ (by omega)))).lookup mapTC ks[j] false,mget_putB,hc]
   rfl
  obtain ⟨w2,h6,e6,m6⟩:=(mm.on hE5).snoc app_30 (y:=c) (cs:=[.int .i32 c.k.t,.int .i64 c.k.r,.int .i64 c.v,.bool c.e]) (z:=4) rfl rfl (hb.ok _ hc1) (by have:=List.length_filterMap_le (lastB Change.k l) (ks.take j);have:=List.length_take (i:=j) (l:=ks);omega) (by decide)
  have hw:=wrap_succ hjl (by omega)
  simp -implicitDefEqProofs (disch:=first|omega|simp only[go_sem]) only[go_sem,true_and,f3,f7,f28,f30,e1,l1,hst,l5,lk5,e6,hw]
  refine hK' (j+1) _ ?_ (by omega)
  refine ⟨rfl,rfl,(vy f3),(vy f28),(vy f29),vz,by omega,w2,vz,?_⟩
  rw[List.take_succ_eq_append_getElem hjl,List.filterMap_append]
  simpa [hc] using m6
 obtain rfl:j=ks.length:=by omega
 refine hX _ _ (by simp) ?_
 rw[List.take_length]at mm
 simp -implicitDefEqProofs (disch:=first|omega|simp only[go_sem]) only[go_sem,true_and,f7]
 refine ⟨_,rfl,_,rfl,?_⟩
 unfold byK
 rw[hks]
 exact mm.base hE03
end Go.Proofs.Ythjmkmoiopmfcaa

namespace Go.Proofs.Ythjmkmoiopmfcaa
open Go.D
set_option maxRecDepth 100000
end Go.Proofs.Ythjmkmoiopmfcaa

namespace Go.D
variable {α:Type} {R:Rep α} {S D:Nat→Prop} {h h' K K':DHeap} {v:Value} {l:List α} {id:Nat} {o:DObj}
structure KpD (D:Nat→Prop) (h K:DHeap):Prop where
 next:h.next≤K.next
 ng:K.ng=h.ng
 get:∀ i,i<h.next→¬ D i→K.get i=h.get i
theorem KpD.refl (D:Nat→Prop) (h:DHeap):KpD D h h:=⟨Nat.le_refl _,rfl,fun _ _ _=>rfl⟩
theorem KpD.set (k:KpD D h K) (hD:D id∨h.next≤id):KpD D h (K.set id o):=
 ⟨k.next,k.ng,fun i hi hn=>(get_set_other _ _ (fun e:i=id=>by
  subst e
  rcases hD with hD | hD
  ·exact hn hD
  ·omega)).trans (k.get i hi hn)⟩
theorem KpD.ext (k:KpD D h K) (e:Ext K K'):KpD D h K':=
 ⟨Nat.le_trans k.next e.next,e.ng.trans k.ng,fun i hi hn=>(e.get i (Nat.lt_of_lt_of_le hi k.next)).trans (k.get i hi hn)⟩
theorem KpD.of (e:Ext h K):KpD D h K:=(KpD.refl D h).ext e
theorem KpD.toExt (k:KpD D h K) (e:Ext h' h) (hD:∀ i,D i→h'.next≤i):Ext h' K:=
 ⟨Nat.le_trans e.next k.next,k.ng.trans e.ng,fun i hi=>(k.get i (Nat.lt_of_lt_of_le hi e.next) (fun hd=>by have:=hD i hd;omega)).trans (e.get i hi)⟩
theorem Sl.kp (a:Sl R S h v l) (k:KpD D h K) (hS:∀ i,S i→i<h.next∧¬ D i):Sl R S K v l:=a.mono fun i hi=>⟨hi,k.get i (hS i hi).1 (hS i hi).2⟩
theorem sl_keepZ {F:FRep α} {z:Nat} (a:Sl F.rep S h v l) (k:∀ i,S i→NoRow h i z→K.get i=h.get i) (hz:F.z≠z:=by decide) (hz0:∀ cs esz ro,∀ i,S i→h.get i=some (.row cs esz ro)→ro=false∨True:=fun _ _ _ _ _ _=>.inr trivial):Sl F.rep S K v l:=by
 rcases a with a | ⟨id,o,cap,cells,esz,ro,e,b,c,d,f⟩
 ·exact .inl a
 ·refine .inr ⟨id,o,cap,cells,esz,ro,e,b,(k id b fun cs g=>?_).trans c,d,f.1,Els.flat.2 (Els.flat.1 f.2)⟩
  rw[c]at g
  cases g
  rcases d with d | d
  ·cases d
  ·exact hz d.symm
theorem MapAt.kp {κ:Type} {enc:κ→Value} {m:List (κ × Value)} (a:MapAt enc h id m) (k:KpD D h K) (hi:id<h.next) (hn:¬ D id):MapAt enc K id m:=a.keep (k.get id hi hn)
end Go.D

namespace Go.Proofs.Ythjmkmoiopmfcaa
open Go.D
set_option maxRecDepth 100000
def runL (t:Txn) (vc va vr vw:Value) (g:List Int) (hm mm am:Nat) (vo:Value) (pc:Int):List Value:=
 .int .i64 t.ses :: .int .i64 t.req :: vc :: va :: vr :: vw :: (g.map (fun n=>Value.int .i64 n)++[.map (some hm),.map (some mm),vo,.int .i64 pc,.map (some am)])
theorem len8 {g:List Int} (h:g.length=8):∃ a b c d e f i j,g=[a,b,c,d,e,f,i,j]:=by
 match g,h with
 | [a,b,c,d,e,f,i,j],_=>exact ⟨a,b,c,d,e,f,i,j,rfl⟩
section
variable {t:Txn} {vc va vr vw vo:Value} {g:List Int} {hm mm am:Nat} {pc:Int}
theorem runL_len (hg:g.length=8):(runL t vc va vr vw g hm mm am vo pc).length=19:=by simp[runL,hg]
theorem runL_reg (hg:g.length=8) {a:Nat} (ha:a<8):(runL t vc va vr vw g hm mm am vo pc)[6+a]? = some (.int .i64 (g.getD a 0)):=by
 obtain ⟨r0,r1,r2,r3,r4,r5,r6,r7,rfl⟩:=len8 hg
 match a,ha with
 | 0,_=>rfl
 | 1,_=>rfl
 | 2,_=>rfl
 | 3,_=>rfl
 | 4,_=>rfl
 | 5,_=>rfl
 | 6,_=>rfl
 | 7,_=>rfl
theorem runL_tail (hg:g.length=8):(runL t vc va vr vw g hm mm am vo pc)[14]? = some (.map (some hm))∧(runL t vc va vr vw g hm mm am vo pc)[15]? = some (.map (some mm))∧(runL t vc va vr vw g hm mm am vo pc)[16]? = some vo∧(runL t vc va vr vw g hm mm am vo pc)[17]? = some (.int .i64 pc)∧(runL t vc va vr vw g hm mm am vo pc)[18]? = some (.map (some am)):=by
 obtain ⟨r0,r1,r2,r3,r4,r5,r6,r7,rfl⟩:=len8 hg
 exact ⟨rfl,rfl,rfl,rfl,rfl⟩
theorem runL_setReg (hg:g.length=8) {a:Nat} (ha:a<8) (v:Int):setAt (runL t vc va vr vw g hm mm am vo pc) (6+a) [.int .i64 v]=runL t vc va vr vw (g.set a v) hm mm am vo pc:=by
 obtain ⟨r0,r1,r2,r3,r4,r5,r6,r7,rfl⟩:=len8 hg
 match a,ha with
 | 0,_=>rfl
 | 1,_=>rfl
 | 2,_=>rfl
 | 3,_=>rfl
 | 4,_=>rfl
 | 5,_=>rfl
 | 6,_=>rfl
 | 7,_=>rfl
theorem runL_setOut (hg:g.length=8) (v:Value):setAt (runL t vc va vr vw g hm mm am vo pc) 16 [v]=runL t vc va vr vw g hm mm am v pc:=by
 obtain ⟨r0,r1,r2,r3,r4,r5,r6,r7,rfl⟩:=len8 hg
 rfl
theorem runL_setPc (hg:g.length=8) (n:Int):setAt (runL t vc va vr vw g hm mm am vo pc) 17 [.int .i64 n]=runL t vc va vr vw g hm mm am vo n:=by
 obtain ⟨r0,r1,r2,r3,r4,r5,r6,r7,rfl⟩:=len8 hg
 rfl
end
structure RunC (h0:DHeap) (b hm mm am:Nat) (t:Txn) (vc va vr vw:Value) (m:List Pair) (L:List Instr):Prop where
 lb:b<h0.next
 lh:hm<h0.next
 lm:mm<h0.next
 la:am<h0.next
 bm:b≠mm
 hb:hm≠b
 hmm:hm≠mm
 ab:am≠b
 amm:am≠mm
 tx:TxV (fun i=>i<h0.next∧¬ (i=b∨i=mm)) h0 t vc va vr vw
 len:TxLen t
 has:MapAt keyV h0 hm (putB Pair.k (fun p=>.int .i64 p.v) m)
 at_:∃ ms:List (Int × Value),MapAt (fun n:Int=>Value.int .i64 n) h0 am ms∧∀ (i:Nat) x,L[i]? = some x→mget ms x.pos=some (.int .i64 (i:Nat))
 okm:∀ p∈m,fPair.ok p
structure RunI (h0 K:DHeap) (b hm mm am:Nat) (t:Txn) (vc va vr vw:Value) (s:RS) (pc:Int):Prop where
 kp:KpD (fun i=>i=b∨i=mm) h0 K
 row:∃ vo w,K.get b=some (.row (runL t vc va vr vw s.reg hm mm am vo pc) 0 false)∧Owns fI64.rep NoS K vo s.out w∧∀ i,w=some i→h0.next≤i
 mine:MapAt keyV K mm (putB Change.k chgV s.w)
 len:s.reg.length=8
 ok:∀ n∈s.reg,inK .i64 n
 outn:s.out.length≤8
 wok:∀ c∈s.w,fChange.ok c
section
variable {h0 K K':DHeap} {b hm mm am:Nat} {t:Txn} {vc va vr vw:Value} {m:List Pair} {L:List Instr} {s:RS} {pc:Int}
theorem RunI.ext (C:RunC h0 b hm mm am t vc va vr vw m L) (I:RunI h0 K b hm mm am t vc va vr vw s pc) (e:Ext K K'):RunI h0 K' b hm mm am t vc va vr vw s pc:=by
 obtain ⟨vo,w,g,o,hw⟩:=I.row
 have hn:=I.kp.next
 have hlb:=C.lb
 have hlm:=C.lm
 exact ⟨I.kp.ext e,⟨vo,w,(e.get _ (by omega)).trans g,o.mono e.next (fun i hi=>e.get i (o.lt i hi)) (fun i hi=>hi.elim),hw⟩,I.mine.keep (e.get _ (by omega)),I.len,I.ok,I.outn,I.wok⟩
theorem RunI.tx (C:RunC h0 b hm mm am t vc va vr vw m L) (I:RunI h0 K b hm mm am t vc va vr vw s pc):TxV (InH K) K t vc va vr vw:=
 C.tx.mono fun i hi=>⟨Nat.lt_of_lt_of_le hi.1 I.kp.next,I.kp.get i hi.1 hi.2⟩
theorem RunI.box (C:RunC h0 b hm mm am t vc va vr vw m L) (I:RunI h0 K b hm mm am t vc va vr vw s pc) {s':RS} {pc':Int} {vo:Value} {w:Option Nat} (ho:Owns fI64.rep NoS K vo s'.out w) (hw:∀ i,w=some i→h0.next≤i) (hwm:s'.w=s.w) (hl:s'.reg.length=8) (hok:∀ n∈s'.reg,inK .i64 n) (hn:s'.out.length≤8) :
 RunI h0 (K.set b (.row (runL t vc va vr vw s'.reg hm mm am vo pc') 0 false)) b hm mm am t vc va vr vw s' pc':=by
 have hlb:=C.lb
 refine ⟨I.kp.set (.inl (.inl rfl)),⟨vo,w,get_set_same _ _,ho.mono (Nat.le_refl _) (fun i hi=>get_set_other _ _ (by have:=hw i hi;omega)) (fun i hi=>hi.elim),hw⟩,?_,hl,hok,hn,by rw[hwm];exact I.wok⟩
 rw[hwm]
 exact I.mine.keep (get_set_other _ _ (fun e=>C.bm e.symm))
theorem RunI.reg (C:RunC h0 b hm mm am t vc va vr vw m L) (I:RunI h0 K b hm mm am t vc va vr vw s pc) {vo:Value} (g:K.get b=some (.row (runL t vc va vr vw s.reg hm mm am vo pc) 0 false)) {a v:Int} (hv:inK .i64 v):RunI h0 (K.set b (.row (runL t vc va vr vw (s.reg.set a.toNat v) hm mm am vo pc) 0 false)) b hm mm am t vc va vr vw (s.set a v) pc:=by
 obtain ⟨vo',w,g',o,hw⟩:=I.row
 have:vo'=vo:=by
  rw[g]at g'
  injection g' with g'
  injection g' with g'
  have h1:=(runL_tail (t:=t) (vc:=vc) (va:=va) (vr:=vr) (vw:=vw) (vo:=vo) (hm:=hm) (mm:=mm) (am:=am) (pc:=pc) I.len).2.2.1
  have h2:=(runL_tail (t:=t) (vc:=vc) (va:=va) (vr:=vr) (vw:=vw) (vo:=vo') (hm:=hm) (mm:=mm) (am:=am) (pc:=pc) I.len).2.2.1
  rw[g',h2]at h1
  exact Option.some.inj h1
 subst this
 refine I.box C (s':=s.set a v) o hw rfl (by simp[I.len]) (fun n hn=>?_) I.outn
 rcases List.mem_or_eq_of_mem_set hn with hn | rfl
 ·exact I.ok n hn
 ·exact hv
theorem RunI.pc' (C:RunC h0 b hm mm am t vc va vr vw m L) (I:RunI h0 K b hm mm am t vc va vr vw s pc) {vo:Value} (g:K.get b=some (.row (runL t vc va vr vw s.reg hm mm am vo pc) 0 false)) (n:Int):RunI h0 (K.set b (.row (runL t vc va vr vw s.reg hm mm am vo n) 0 false)) b hm mm am t vc va vr vw s n:=by
 obtain ⟨vo',w,g',o,hw⟩:=I.row
 have:vo'=vo:=by
  rw[g]at g'
  injection g' with g'
  injection g' with g'
  have h1:=(runL_tail (t:=t) (vc:=vc) (va:=va) (vr:=vr) (vw:=vw) (vo:=vo) (hm:=hm) (mm:=mm) (am:=am) (pc:=pc) I.len).2.2.1
  have h2:=(runL_tail (t:=t) (vc:=vc) (va:=va) (vr:=vr) (vw:=vw) (vo:=vo') (hm:=hm) (mm:=mm) (am:=am) (pc:=pc) I.len).2.2.1
  rw[g',h2]at h1
  exact Option.some.inj h1
 subst this
 exact I.box C o hw rfl I.len I.ok I.outn
theorem RunI.put (C:RunC h0 b hm mm am t vc va vr vw m L) (I:RunI h0 K b hm mm am t vc va vr vw s pc) {c:Change} {o:DObj} (hm2:MapAt keyV (K.set mm o) mm (mput (putB Change.k chgV s.w) c.k (chgV c))) (hc:fChange.ok c):RunI h0 (K.set mm o) b hm mm am t vc va vr vw (s.put c) pc:=by
 obtain ⟨vo,w,g,ow,hw⟩:=I.row
 have hlm:=C.lm
 refine ⟨I.kp.set (.inl (.inr rfl)),⟨vo,w,(get_set_other _ _ C.bm).trans g,ow.mono (Nat.le_refl _) (fun i hi=>get_set_other _ _ (by have:=hw i hi;omega)) (fun i hi=>hi.elim),hw⟩,?_,I.len,I.ok,I.outn,fun x hx=>?_⟩
 ·rw[show (s.put c).w=s.w++[c] from rfl,putB_snoc]
  exact hm2
 ·rcases List.mem_append.1 hx with hx | hx
  ·exact I.wok x hx
  ·rw[List.mem_singleton.1 hx]
   exact hc
end
theorem und_mapI:Try.prog.underlying 78=some (.map 3 3):=by kernel_rfl
theorem mapTI:MapT Try.prog 78 (fun n:Int=>Value.int .i64 n) (.int .i64 0):=⟨_,_,und_mapI,KeyOf.int (by kernel_rfl),by kernel_rfl⟩
theorem valE_chg {m:List Pair} {w:List Change} {k:Key} {c:Change} (h:lastB Change.k w k=some c):valE m w k=(c.v,!c.e):=by unfold valE;rw[h]
theorem valE_pair {m:List Pair} {w:List Change} {k:Key} {p:Pair} (h:lastB Change.k w k=none) (hp:lastB Pair.k m k=some p):valE m w k=(p.v,true):=by unfold valE;rw[h,hp]
theorem valE_no {m:List Pair} {w:List Change} {k:Key} (h:lastB Change.k w k=none) (hp:lastB Pair.k m k=none):valE m w k=(0,false):=by unfold valE;rw[h,hp]
set_option maxHeartbeats 1000000 in
theorem value_c {h0 h:DHeap} {b hm mm am:Nat} {t:Txn} {vc va vr vw:Value} {m:List Pair} {L:List Instr} {s:RS} {pc:Int} {k:Key} (C:RunC h0 b hm mm am t vc va vr vw m L) (I:RunI h0 h b hm mm am t vc va vr vw s pc) :
 DC Try.prog 63 [.pointer (some ⟨b,0,none⟩),keyV k] h (.ret (.tuple #[.int .i64 (valE m s.w k).1,.bool (valE m s.w k).2])) h:=by
 refine Ct.pure (go_63 (by simp) ?_) (flat3_vin _ rfl)
 obtain ⟨K1,hK1⟩:∃ H,H=h.push (.row [.int .i32 k.t,.int .i64 k.r] 0 false):=⟨_,rfl⟩
 have g1:K1.get h.next=some (.row [.int .i32 k.t,.int .i64 k.r] 0 false):=by rw[hK1];exact get_push_same _ _
 have e1:Ext h K1:=by rw[hK1];exact Ext.push1 _ _
 have n1:K1.next=h.next+1:=by rw[hK1];rfl
 obtain ⟨K2,hK2⟩:∃ H,H=K1.push (.row [.int .i32 0,.int .i64 0,.int .i64 0,.bool false] 0 false):=⟨_,rfl⟩
 have e2:Ext K1 K2:=by rw[hK2];exact Ext.push1 _ _
 have n2:K2.next=h.next+2:=by rw[hK2,next_push,n1]
 have hcl:(keyV k).cells.toList=[.int .i32 k.t,.int .i64 k.r]:=rfl
 have I2:=I.ext C (e1.trans e2)
 obtain ⟨vo,w,gb,_,_⟩:=I2.row
 obtain ⟨t14,t15,_,_,_⟩:=runL_tail (t:=t) (vc:=vc) (va:=va) (vr:=vr) (vw:=vw) (vo:=vo) (hm:=hm) (mm:=mm) (am:=am) (pc:=pc) I.len
 have c15:cellAt K2 b 15=some (.map (some mm)):=(cellAt_row gb).trans t15
 have c14:cellAt K2 b 14=some (.map (some hm)):=(cellAt_row gb).trans t14
 have lk:cellsAt K2 h.next 0 2=some (keyV k):=by rw[cellsAt_row ((e2.get _ (by omega)).trans g1) (Nat.le_of_ble_eq_true rfl)];rfl
 have hl:=I2.mine.lookup mapTC k true
 rw[mget_putB]at hl
 have hnb:b<h.next:=Nat.lt_of_lt_of_le C.lb I.kp.next
 have gh:K2.get K1.next=some (.row [.int .i32 0,.int .i64 0,.int .i64 0,.bool false] 0 false):=by rw[hK2];exact get_push_same _ _
 cases hq:lastB Change.k s.w k with
 | some c=>
   rw[hq]at hl
   simp only[Option.map_some,Option.getD_some,Option.isSome_some,if_true]at hl
   obtain ⟨K3,hK3⟩:∃ H,H=K2.set K1.next (.row [.int .i32 c.k.t,.int .i64 c.k.r,.int .i64 c.v,.bool c.e] 0 false):=⟨_,rfl⟩
   have hst:dStore Try.prog 51 (.pointer (some ⟨K1.next,0,none⟩)) (chgV c) K2=some K3:=by
    rw[hK3]
    exact (st_51 rfl).trans (storeAt_row gh (Nat.le_of_ble_eq_true rfl) rfl)
   have g3:K3.get K1.next=some (.row [.int .i32 c.k.t,.int .i64 c.k.r,.int .i64 c.v,.bool c.e] 0 false):=by rw[hK3];exact get_set_same _ _
   have q1:cellAt K3 K1.next 2=some (.int .i64 c.v):=cellAt_row g3
   have q2:cellAt K3 K1.next 3=some (.bool c.e):=cellAt_row g3
   have e3:Ext h K3:=by rw[hK3];exact (e1.trans e2).set (by omega)
   simp -implicitDefEqProofs (disch:=first|omega|simp only[go_sem]) only[go_sem,true_and,c63,hcl,← hK1]
   refine yr_63_0 rfl ?_
   simp -implicitDefEqProofs (disch:=first|omega|simp only[go_sem]) only[go_sem,true_and,g63_0,q63_0]
   simp -implicitDefEqProofs (disch:=first|omega|simp only[go_sem]) only[go_sem,true_and,← hK2,c15,lk,hl,hst]
   refine ⟨⟨gh,trivial⟩,?_⟩
   refine yr_63_1 rfl ?_
   simp -implicitDefEqProofs (disch:=first|omega|simp only[go_sem]) only[go_sem,true_and,g63_1,q63_1,q1,q2]
   exact ⟨_,rfl,by rw[valE_chg hq],e3⟩
 | none=>
   rw[hq]at hl
   simp only[Option.map_none,Option.getD_none,Option.isSome_none,if_true]at hl
   obtain ⟨K3,hK3⟩:∃ H,H=K2.set K1.next (.row [.int .i32 0,.int .i64 0,.int .i64 0,.bool false] 0 false):=⟨_,rfl⟩
   have hst:dStore Try.prog 51 (.pointer (some ⟨K1.next,0,none⟩)) (chgV chg0) K2=some K3:=by
    rw[hK3]
    exact (st_51 rfl).trans (storeAt_row gh (Nat.le_of_ble_eq_true rfl) rfl)
   have hself:K3=K2:=by rw[hK3];exact set_self gh
   rw[hself]at hst
   have hl2:=(C.has.kp I2.kp C.lh (fun e=>e.elim C.hb C.hmm)).lookup mapT64 k true
   rw[mget_putB]at hl2
   simp -implicitDefEqProofs (disch:=first|omega|simp only[go_sem]) only[go_sem,true_and,c63,hcl,← hK1]
   refine yr_63_0 rfl ?_
   simp -implicitDefEqProofs (disch:=first|omega|simp only[go_sem]) only[go_sem,true_and,g63_0,q63_0]
   simp -implicitDefEqProofs (disch:=first|omega|simp only[go_sem]) only[go_sem,true_and,← hK2,c15,lk,hl,hst]
   refine ⟨⟨gh,trivial⟩,?_⟩
   refine yr_63_2 rfl ?_
   cases hp:lastB Pair.k m k with
   | some p=>
     rw[hp]at hl2
     simp only[Option.map_some,Option.getD_some,Option.isSome_some,if_true]at hl2
     simp -implicitDefEqProofs (disch:=first|omega|simp only[go_sem]) only[go_sem,true_and,g63_2,q63_2,c14,lk,hl2]
     exact ⟨_,rfl,by rw[valE_pair hq hp],e1.trans e2⟩
   | none=>
     rw[hp]at hl2
     simp only[Option.map_none,Option.getD_none,Option.isSome_none,if_true]at hl2
     simp -implicitDefEqProofs (disch:=first|omega|simp only[go_sem]) only[go_sem,true_and,g63_2,q63_2,c14,lk,hl2]
     exact ⟨_,rfl,by rw[valE_no hq hp],e1.trans e2⟩
theorem goes_c {h0 h:DHeap} {b hm mm am:Nat} {t:Txn} {vc va vr vw vo:Value} {m:List Pair} {L:List Instr} {s:RS} {pc:Int} {i:Nat} {x:Instr} (C:RunC h0 b hm mm am t vc va vr vw m L) (I:RunI h0 h b hm mm am t vc va vr vw s pc) (hx:L[i]? = some x) (g:h.get b=some (.row (runL t vc va vr vw s.reg hm mm am vo pc) 0 false)) :
 Ct Try.prog 64 [.pointer (some ⟨b,0,none⟩),.int .i64 x.pos] h fun r h1=>r=.ret (.tuple #[])∧h1=h.set b (.row (runL t vc va vr vw s.reg hm mm am vo (i:Nat)) 0 false):=by
 refine go_64 (by simp) ?_
 obtain ⟨ms,ha,hat⟩:=C.at_
 obtain ⟨_,_,_,_,t18⟩:=runL_tail (t:=t) (vc:=vc) (va:=va) (vr:=vr) (vw:=vw) (vo:=vo) (hm:=hm) (mm:=mm) (am:=am) (pc:=pc) I.len
 have c18:cellAt h b 18=some (.map (some am)):=(cellAt_row g).trans t18
 have hl:=(ha.kp I.kp C.la (fun e=>e.elim C.ab C.amm)).lookup mapTI x.pos false
 rw[hat i x hx]at hl
 simp only[Bool.false_eq_true,if_false,Option.getD_some]at hl
 have hst:storeAt h b 17 [.int .i64 (i:Nat)]=some (h.set b (.row (runL t vc va vr vw s.reg hm mm am vo (i:Nat)) 0 false)):=by
  rw[storeAt_row g (by rw[runL_len I.len];exact Nat.le_of_ble_eq_true rfl) rfl,runL_setPc I.len]
 simp -implicitDefEqProofs (disch:=first|omega|simp only[go_sem]) only[go_sem,true_and,c64,c18,hl,hst]
 exact ⟨_,rfl,rfl,trivial⟩
end Go.Proofs.Ythjmkmoiopmfcaa

namespace Go.Proofs.Ythjmkmoiopmfcaa
open Go.D
set_option maxRecDepth 100000
theorem tmod_ok {a b:Int} (h:inK .i64 a):inK .i64 (a.tmod b):=by
 rw[inK_i64]at h ⊢
 have h1:=Int.natAbs_tmod a b
 have h2:a.natAbs % b.natAbs≤a.natAbs:=Nat.mod_le _ _
 by_cases ha:0≤a
 ·have:=Int.tmod_nonneg b ha
  omega
 ·have e:a.tmod b=-((-a).tmod b):=by rw[Int.neg_tmod,Int.neg_neg]
  have:=Int.tmod_nonneg b (show 0 ≤ -a by omega)
  omega
theorem fdiv_ok {a:Int} {n:Nat} (h:inK .i64 a):inK .i64 (a.fdiv (2 ^ n)):=by
 have hc:(0:Int)<2 ^ n:=Int.pow_pos (by decide)
 rw[Int.fdiv_eq_ediv_of_nonneg _ (Int.le_of_lt hc)]
 obtain ⟨c,hcc⟩:∃ c:Int,2 ^ n=c:=⟨_,rfl⟩
 rw[hcc]at hc ⊢
 rw[inK_i64]at h ⊢
 by_cases ha:0≤a
 ·have h1:=Int.ediv_nonneg ha (Int.le_of_lt hc)
  have h2:=Int.ediv_le_self c ha
  omega
 ·have h1:=Int.ediv_neg_of_neg_of_pos (show a<0 by omega) hc
  have h2:a≤a / c:=(Int.le_ediv_iff_mul_le hc).2 (by
   have:a*(c - 1)≤0:=Int.mul_nonpos_of_nonpos_of_nonneg (by omega) (by omega)
   rw[Int.mul_sub,Int.mul_one]at this
   omega)
  omega
theorem bin2_ok {o a b:Int} (ha:inK .i64 a):inK .i64 (bin2 o a b).1∧((bin2 o a b).2=0∨(bin2 o a b).2=1∨(bin2 o a b).2=3):=by
 have z0:inK .i64 0:=inK_i64.2 ⟨by decide,by decide⟩
 have z1:inK .i64 1:=inK_i64.2 ⟨by decide,by decide⟩
 unfold bin2
 simp only
 have key:∀ {P:Int × Int→Prop} {c:Prop} [Decidable c] {x y:Int × Int},P x→P y→P (if c then x else y):=fun {P c _ x y} h1 h2=>by
  by_cases h:c
  ·rw[if_pos h];exact h1
  ·rw[if_neg h];exact h2
 have w:∀ n,inK .i64 (IntKind.i64.wrap n):=fun n=>wrap_ok _ _
 repeat' (refine key (P:=fun r=>inK .i64 r.1∧(r.2=0∨r.2=1∨r.2=3)) ?_ ?_)
 all_goals first
  | exact ⟨w _,.inl rfl⟩
  | exact ⟨z0,.inr (.inr rfl)⟩
  | exact ⟨tmod_ok ha,.inl rfl⟩
  | exact ⟨fdiv_ok ha,.inl rfl⟩
  | exact ⟨z0,.inr (.inl rfl)⟩
  | (refine ⟨?_,.inl rfl⟩
     show inK .i64 (if _ then 1 else 0)
     split
     ·exact z1
     ·exact z0)
theorem narrow_ok {a n:Int} (ha:inK .i64 a):inK .i64 (narrow a n):=by
 unfold narrow
 have h8:inK .i64 (IntKind.i8.wrap a):=by rw[inK_i64];simp[IntKind.wrap,IntKind.signed,IntKind.bits];omega
 have h16:inK .i64 (IntKind.i16.wrap a):=by rw[inK_i64];simp[IntKind.wrap,IntKind.signed,IntKind.bits];omega
 have h32:inK .i64 (IntKind.i32.wrap a):=by rw[inK_i64];simp[IntKind.wrap,IntKind.signed,IntKind.bits];omega
 repeat' split
 all_goals assumption
theorem valE_ok {m:List Pair} {w:List Change} {k:Key} (hm:∀ p∈m,fPair.ok p) (hw:∀ c∈w,fChange.ok c):inK .i64 (valE m w k).1:=by
 cases hq:lastB Change.k w k with
 | some c=>rw[valE_chg hq];exact (hw c (lastB_some hq).1).2.1
 | none=>
   cases hp:lastB Pair.k m k with
   | some p=>rw[valE_pair hq hp];exact (hm p (lastB_some hp).1).2
   | none=>rw[valE_no hq hp];exact inK_i64.2 ⟨by decide,by decide⟩
theorem reg_ok {s:RS} (h:∀ n∈s.reg,inK .i64 n) (i:Int):inK .i64 (s.r i):=by
 show inK .i64 (s.reg.getD i.toNat 0)
 rw[List.getD_eq_getElem?_getD]
 cases hq:s.reg[i.toNat]? with
 | some x=>exact h x (List.mem_of_getElem? hq)
 | none=>exact inK_i64.2 ⟨by decide,by decide⟩
theorem stepE_wlen {t:Txn} {m:List Pair} {x:Instr} {s:RS}:(stepE t m x s).2.1.w.length≤s.w.length+1:=by
 unfold stepE
 repeat' (refine ite_all (P:=fun r:Int × RS × Option Int=>r.2.1.w.length≤s.w.length+1) (fun _=>?_) (fun _=>?_))
 all_goals simp
end Go.Proofs.Ythjmkmoiopmfcaa

namespace Go.Proofs.Ythjmkmoiopmfcaa
open Go.D
set_option maxRecDepth 100000
theorem bd_chgS {k:Key} {v:Int}:dBuild Try.prog 51 [(0,keyV k),(1,.int .i64 v)]=some (chgV ⟨k,v,false⟩):=dBuild_at plc_51 rfl
theorem bd_chgE {k:Key}:dBuild Try.prog 51 [(0,keyV k),(2,.bool true)]=some (chgV ⟨k,0,true⟩):=dBuild_at plc_51 rfl
theorem bd_keyK {t r:Int}:dBuild Try.prog 44 [(0,.int .i32 t),(1,.int .i64 r)]=some (keyV ⟨t,r⟩):=dBuild_at plc_44 rfl
theorem ar_regs:arrElem Try.prog 79=some (8,1):=by kernel_rfl
theorem ia_regs {id o:Nat} {a:Int} (h0:0≤a) (h8:a<8):dIndexAddr Try.prog 79 (.pointer (some ⟨id,o,none⟩)) (.int .i64 a)=some (.pointer (some ⟨id,o+a.toNat,none⟩)):=by
 rw[dIndexAddr_arr ar_regs h0 (by omega),Nat.mul_one]
section
variable {t:Txn} {m:List Pair} {x:Instr} {s:RS}
theorem se0 (h:x.op=0):stepE t m x s=(0,s,none):=by unfold stepE;rw[h];rfl
theorem se1 (h:x.op=1):stepE t m x s=(-1,s.set x.a x.imm,none):=by unfold stepE;rw[h];rfl
theorem se2 (h:x.op=2):stepE t m x s=(-1,s.set x.a (t.args.getD x.imm.toNat 0),none):=by unfold stepE;rw[h];rfl
theorem se7 (h:x.op=7):stepE t m x s=(-1,s.set x.a (s.r x.b),none):=by unfold stepE;rw[h];rfl
theorem se3 (h:x.op=3):stepE t m x s=(-1,s.set x.a (valE m s.w (t.reads.getD x.imm.toNat key0)).1,none):=by unfold stepE;rw[h];rfl
theorem se4 (h:x.op=4):stepE t m x s=(-1,s.set x.a (if (valE m s.w (t.reads.getD x.imm.toNat key0)).2 then 1 else 0),none):=by unfold stepE;rw[h];rfl
theorem se5 {k:Key} (h:x.op=5) (hk:t.writes.getD x.imm.toNat key0=k):stepE t m x s=(-1,s.put ⟨k,s.r x.a,false⟩,none):=by subst hk;unfold stepE;rw[h];rfl
theorem se6 {k:Key} (h:x.op=6) (hk:t.writes.getD x.imm.toNat key0=k):stepE t m x s=(-1,s.put ⟨k,0,true⟩,none):=by subst hk;unfold stepE;rw[h];rfl
theorem se19 (h:x.op=19):stepE t m x s=(-1,s.set x.a (narrow (s.r x.a) x.imm),none):=by unfold stepE;rw[h];rfl
theorem se22 (h:x.op=22):stepE t m x s=(-1,s,some x.imm):=by unfold stepE;rw[h];rfl
theorem se23z (h:x.op=23) (z:s.r x.a=0):stepE t m x s=(-1,s,none):=by
 have:stepE t m x s=(-1,s,if s.r x.a=0 then none else some x.imm):=by unfold stepE;rw[h];rfl
 rw[this,if_pos z]
theorem se23 (h:x.op=23) (z:¬ s.r x.a=0):stepE t m x s=(-1,s,some x.imm):=by
 have:stepE t m x s=(-1,s,if s.r x.a=0 then none else some x.imm):=by unfold stepE;rw[h];rfl
 rw[this,if_neg z]
theorem se24f (h:x.op=24) (z:8≤s.out.length):stepE t m x s=(5,s,none):=by
 have:stepE t m x s=(if 8≤s.out.length then (5,s,none) else (-1,{ s with out:=s.out++[s.r x.a] },none)):=by unfold stepE;rw[h];rfl
 rw[this,if_pos z]
theorem se24 (h:x.op=24) (z:¬ 8≤s.out.length):stepE t m x s=(-1,{ s with out:=s.out++[s.r x.a] },none):=by
 have:stepE t m x s=(if 8≤s.out.length then (5,s,none) else (-1,{ s with out:=s.out++[s.r x.a] },none)):=by unfold stepE;rw[h];rfl
 rw[this,if_neg z]
theorem se25 (h:x.op=25):stepE t m x s=(100+x.imm,s,none):=by unfold stepE;rw[h];rfl
theorem se26 {k:Key} (h:x.op=26) (hk:farK x s=k) (z:k∈t.reads):stepE t m x s=(-1,s.set x.a (valE m s.w k).1,none):=by
 subst hk
 have:stepE t m x s=(if farK x s∈t.reads then (-1,s.set x.a (valE m s.w (farK x s)).1,none) else (4,s,none)):=by unfold stepE;rw[h];rfl
 rw[this,if_pos z]
theorem se26f {k:Key} (h:x.op=26) (hk:farK x s=k) (z:¬ k∈t.reads):stepE t m x s=(4,s,none):=by
 subst hk
 have:stepE t m x s=(if farK x s∈t.reads then (-1,s.set x.a (valE m s.w (farK x s)).1,none) else (4,s,none)):=by unfold stepE;rw[h];rfl
 rw[this,if_neg z]
theorem se27 {k:Key} (h:x.op=27) (hk:farK x s=k) (z:k∈t.writes):stepE t m x s=(-1,s.put ⟨k,s.r x.a,false⟩,none):=by
 subst hk
 have:stepE t m x s=(if farK x s∈t.writes then (-1,s.put ⟨farK x s,s.r x.a,false⟩,none) else (4,s,none)):=by unfold stepE;rw[h];rfl
 rw[this,if_pos z]
theorem se27f {k:Key} (h:x.op=27) (hk:farK x s=k) (z:¬ k∈t.writes):stepE t m x s=(4,s,none):=by
 subst hk
 have:stepE t m x s=(if farK x s∈t.writes then (-1,s.put ⟨farK x s,s.r x.a,false⟩,none) else (4,s,none)):=by unfold stepE;rw[h];rfl
 rw[this,if_neg z]
def plainOp (n:Int):Prop:=n≠0∧n≠1∧n≠2∧n≠7∧n≠3∧n≠4∧n≠5∧n≠6∧n≠19∧n≠22∧n≠23∧n≠24∧n≠25∧n≠26∧n≠27
theorem seb (h:plainOp x.op):stepE t m x s=if (bin2 x.op (s.r x.a) (s.r x.b)).2=0 then (-1,s.set x.a (bin2 x.op (s.r x.a) (s.r x.b)).1,none) else ((bin2 x.op (s.r x.a) (s.r x.b)).2,s,none):=by
 obtain ⟨h0,h1,h2,h7,h3,h4,h5,h6,h19,h22,h23,h24,h25,h26,h27⟩:=h
 unfold stepE
 rw[if_neg h0,if_neg h1,if_neg h2,if_neg h7,if_neg h3,if_neg h4,if_neg h5,if_neg h6,if_neg h19,if_neg h22,if_neg h23,if_neg h24,if_neg h25,if_neg h26,if_neg h27]
end
def StepP (h0:DHeap) (b hm mm am:Nat) (t:Txn) (vc va vr vw:Value) (m:List Pair) (L:List Instr) (x:Instr) (s:RS) (pc:Int) (r:DEnd) (h1:DHeap):Prop:=
 r=.ret (.int .i64 (stepE t m x s).1)∧∃ pc',RunI h0 h1 b hm mm am t vc va vr vw (stepE t m x s).2.1 pc'∧((stepE t m x s).2.2=none→pc'=pc)∧∀ a,(stepE t m x s).2.2=some a→∃ (i:Nat) (y:Instr),L[i]? = some y∧y.pos=a∧pc'=(i:Nat)
section
variable {h0 h1:DHeap} {b hm mm am:Nat} {t:Txn} {vc va vr vw:Value} {m:List Pair} {L:List Instr} {x:Instr} {s s':RS} {pc e:Int}
theorem StepP.of (E:stepE t m x s=(e,s',none)) (I:RunI h0 h1 b hm mm am t vc va vr vw s' pc):StepP h0 b hm mm am t vc va vr vw m L x s pc (.ret (.int .i64 e)) h1:=by
 unfold StepP
 rw[E]
 exact ⟨rfl,pc,I,fun _=>rfl,fun a ha=>by cases ha⟩
theorem StepP.jump {a:Int} {i:Nat} {y:Instr} (E:stepE t m x s=(e,s',some a)) (hy:L[i]? = some y) (hp:y.pos=a) (I:RunI h0 h1 b hm mm am t vc va vr vw s' (i:Nat)):StepP h0 b hm mm am t vc va vr vw m L x s pc (.ret (.int .i64 e)) h1:=by
 unfold StepP
 rw[E]
 exact ⟨rfl,_,I,fun ha=>(by cases ha),fun a ha=>by cases ha;exact ⟨i,y,hy,hp,rfl⟩⟩
end
set_option maxHeartbeats 4000000 in
theorem step_c {h0 h:DHeap} {b hm mm am:Nat} {t:Txn} {vc va vr vw:Value} {m:List Pair} {L:List Instr} {s:RS} {pc:Int} {x:Instr} (C:RunC h0 b hm mm am t vc va vr vw m L) (I:RunI h0 h b hm mm am t vc va vr vw s pc) (hx:InsOk t x) (hj:jumpsB x.op=true→∃ (i:Nat) (y:Instr),L[i]? = some y∧y.pos=x.imm) :
 Ct Try.prog 40 [.pointer (some ⟨b,0,none⟩),instrV x] h (StepP h0 b hm mm am t vc va vr vw m L x s pc):=by
 obtain ⟨x1,x2,x3,x4,x5⟩:=x
 obtain ⟨R,hR⟩:∃ R,StepP h0 b hm mm am t vc va vr vw m L ⟨x1,x2,x3,x4,x5⟩ s pc=R:=⟨_,rfl⟩
 rw[hR]
 refine go_40 (by simp) ?_
 obtain ⟨H,hH⟩:∃ H,H=h.push (.row [.int .i64 x1,.int .i64 x2,.int .i64 x3,.int .i64 x4,.int .i64 x5] 0 false):=⟨_,rfl⟩
 have hE:Ext h H:=by rw[hH];exact Ext.push1 _ _
 have gx:H.get h.next=some (.row [.int .i64 x1,.int .i64 x2,.int .i64 x3,.int .i64 x4,.int .i64 x5] 0 false):=by rw[hH];exact get_push_same _ _
 have hHn:H.next=h.next+1:=by rw[hH];rfl
 have IH:RunI h0 H b hm mm am t vc va vr vw s pc:=I.ext C hE
 have hbn:b<h.next:=Nat.lt_of_lt_of_le C.lb I.kp.next
 have hmn:mm<h.next:=Nat.lt_of_lt_of_le C.lm I.kp.next
 obtain ⟨vo,w,gb,ow,hw⟩:=IH.row
 have l8:=I.len
 obtain ⟨t14,t15,t16,t17,t18⟩:=runL_tail (t:=t) (vc:=vc) (va:=va) (vr:=vr) (vw:=vw) (vo:=vo) (hm:=hm) (mm:=mm) (am:=am) (pc:=pc) l8
 have a1:∀ K,Ext H K→cellAt K h.next 1=some (.int .i64 x2):=fun K e=>cellAt_row ((e.get _ (by omega)).trans gx)
 have a2:∀ K,Ext H K→cellAt K h.next 2=some (.int .i64 x3):=fun K e=>cellAt_row ((e.get _ (by omega)).trans gx)
 have a3:∀ K,Ext H K→cellAt K h.next 3=some (.int .i64 x4):=fun K e=>cellAt_row ((e.get _ (by omega)).trans gx)
 have a4:∀ K,Ext H K→cellAt K h.next 4=some (.int .i64 x5):=fun K e=>cellAt_row ((e.get _ (by omega)).trans gx)
 have gbK:∀ K,Ext H K→K.get b=some (.row (runL t vc va vr vw s.reg hm mm am vo pc) 0 false):=fun K e=>(e.get _ (by omega)).trans gb
 have ha8:x3.toNat<8:=by have:=hx.a;simp only at this;omega
 have hb8:x4.toNat<8:=by have:=hx.b;simp only at this;omega
 have ra:∀ K,Ext H K→cellAt K b (6+x3.toNat)=some (.int .i64 (s.r x3)):=fun K e=>(cellAt_row (gbK K e)).trans (runL_reg l8 ha8)
 have rb:∀ K,Ext H K→cellAt K b (6+x4.toNat)=some (.int .i64 (s.r x4)):=fun K e=>(cellAt_row (gbK K e)).trans (runL_reg l8 hb8)
 have b3:∀ K,Ext H K→cellAt K b 3=some va:=fun K e=>cellAt_row (gbK K e)
 have b4:∀ K,Ext H K→cellAt K b 4=some vr:=fun K e=>cellAt_row (gbK K e)
 have b5:∀ K,Ext H K→cellAt K b 5=some vw:=fun K e=>cellAt_row (gbK K e)
 have b15:∀ K,Ext H K→cellAt K b 15=some (.map (some mm)):=fun K e=>(cellAt_row (gbK K e)).trans t15
 have b16:∀ K,Ext H K→cellAt K b 16=some vo:=fun K e=>(cellAt_row (gbK K e)).trans t16
 have iaa:=ia_regs (id:=b) (o:=6) hx.a.1 hx.a.2
 have iab:=ia_regs (id:=b) (o:=6) hx.b.1 hx.b.2
 simp only at iaa iab
 have wst:∀ K v,Ext H K→storeAt K b (6+x3.toNat) [.int .i64 v]=some (K.set b (.row (runL t vc va vr vw (s.reg.set x3.toNat v) hm mm am vo pc) 0 false)):=fun K v e=>by
  rw[storeAt_row (gbK K e) (by rw[runL_len l8];show 6+x3.toNat+1≤19;omega) rfl,runL_setReg l8 ha8]
 have hTx:TxV (InH H) H t vc va vr vw:=IH.tx C
 have rx:Ext H H:=.refl H
 have iok:inK .i64 x5:=by have:=hx.imm;simp only at this;exact inK_i64.2 ⟨by omega,by omega⟩
 have zok:inK .i64 0:=inK_i64.2 ⟨by decide,by decide⟩
 have hcl:(instrV ⟨x1,x2,x3,x4,x5⟩).cells.toList=[.int .i64 x1,.int .i64 x2,.int .i64 x3,.int .i64 x4,.int .i64 x5]:=rfl
 have fin:∀ {K:DHeap} {s':RS} {e:Int},stepE t m ⟨x1,x2,x3,x4,x5⟩ s=(e,s',none)→RunI h0 K b hm mm am t vc va vr vw s' pc→∃ u,some (Value.int .i64 e)=some u∧R (.ret u) K:=fun E I'=>⟨_,rfl,by rw[← hR];exact .of E I'⟩
 have kok:∀ {l:List Key} {v:Value},Arg fKey.rep H v l→∀ (n:Nat),n<l.length→fKey.ok (l.getD n key0):=fun hs n hn=>by
  rw[List.getD_eq_getElem?_getD,List.getElem?_eq_getElem hn]
  exact hs.ok _ (List.getElem_mem hn)
 have kat:∀ {l:List Key} {v:Value},Arg fKey.rep H v l→∀ (n:Int),0≤n→n<l.length→∃ id o,dIndexAddr Try.prog 24 v (.int .i64 n)=some (.pointer (some ⟨id,o,none⟩))∧∀ K,Ext H K→cellsAt K id o 2=some (keyV (l.getD n.toNat key0)):=fun {l v} hs n h0 hn=>by
  have hn':n.toNat<l.length:=by omega
  obtain ⟨id,o,e1,hid,hat⟩:=hs.idx (P:=Try.prog) (t:=24) el_24 (k:=.i64) (i:=n.toNat) (x:=l[n.toNat]) (by simp)
  have hnn:((n.toNat:Nat):Int)=n:=by omega
  rw[hnn]at e1
  refine ⟨id,o,e1,fun K e=>?_⟩
  have h2:=hat.flat.2.1
  rw[List.getD_eq_getElem?_getD,List.getElem?_eq_getElem hn']
  unfold cellsAt at h2 ⊢
  rw[e.get _ hid]
  exact h2
 obtain ⟨_,_,himm,himm0,hrd,hwr,har,hop⟩:=hx
 simp only at himm himm0 hrd hwr har hop hj
 simp -implicitDefEqProofs (disch:=first|omega|simp only[go_sem]) only[go_sem,true_and,c40,hcl,← hH]
 refine yr_40_0 rfl ?_
 simp -implicitDefEqProofs (disch:=first|omega|simp only[go_sem]) only[go_sem,true_and,g40_0,q40_0,a2 H rx,a3 H rx,iaa,iab,rb H rx,a1 H rx]
 by_cases c0:x2=0
 ·simp -implicitDefEqProofs (disch:=first|omega|simp only[go_sem]) only[go_sem,true_and,c0]
  exact fin (se0 (x:=⟨x1,x2,x3,x4,x5⟩) c0) IH
 by_cases c1:x2=1
 ·simp -implicitDefEqProofs (disch:=first|omega|simp only[go_sem]) only[go_sem,true_and,c1,a4 H rx,wst H _ rx]
  exact fin (se1 (x:=⟨x1,x2,x3,x4,x5⟩) c1) (IH.reg C gb iok)
 by_cases c2:x2=2
 ·have i0:0≤x5:=himm0 (by omega)
  have hl:x5.toNat<t.args.length:=by have:=har c2;omega
  obtain ⟨id1,o1,e1,_,hat1⟩:=hTx.a.idx (P:=Try.prog) (t:=23) el_23 (k:=.i64) (i:=x5.toNat) (x:=t.args[x5.toNat]) (by simp)
  rw[show ((x5.toNat:Nat):Int)=x5 by omega]at e1
  have l1:cellAt H id1 o1=some (.int .i64 (t.args.getD x5.toNat 0)):=by
   rw[List.getD_eq_getElem?_getD,List.getElem?_eq_getElem hl]
   exact hat1.int
  have hok:inK .i64 (t.args.getD x5.toNat 0):=by
   rw[List.getD_eq_getElem?_getD,List.getElem?_eq_getElem hl]
   exact hTx.a.ok _ (List.getElem_mem hl)
  simp -implicitDefEqProofs (disch:=first|omega|simp only[go_sem]) only[go_sem,true_and,c2]
  refine yr_40_1 rfl ?_
  simp -implicitDefEqProofs (disch:=first|omega|simp only[go_sem]) only[go_sem,true_and,g40_1,q40_1,a4 H rx,b3 H rx,e1,l1,wst H _ rx]
  exact fin (se2 (x:=⟨x1,x2,x3,x4,x5⟩) c2) (IH.reg C gb hok)
 by_cases c7:x2=7
 ·simp -implicitDefEqProofs (disch:=first|omega|simp only[go_sem]) only[go_sem,true_and,c7,wst H _ rx]
  exact fin (se7 (x:=⟨x1,x2,x3,x4,x5⟩) c7) (IH.reg C gb (reg_ok I.ok _))
 by_cases c3:x2=3
 ·obtain ⟨id1,o1,e1,l1⟩:=kat hTx.r x5 (himm0 (by omega)) (hrd (.inl c3))
  simp -implicitDefEqProofs (disch:=first|omega|simp only[go_sem]) only[go_sem,true_and,c3]
  refine yr_40_2 rfl ?_
  simp -implicitDefEqProofs (disch:=first|omega|simp only[go_sem]) only[go_sem,true_and,g40_2,q40_2,a4 H rx,b4 H rx,e1,l1 H rx]
  refine ycall (value_c C IH) ?_
  simp -implicitDefEqProofs (disch:=first|omega|simp only[go_sem]) only[go_sem,true_and,wst H _ rx]
  exact fin (se3 (x:=⟨x1,x2,x3,x4,x5⟩) c3) (IH.reg C gb (valE_ok C.okm I.wok))
 by_cases c4:x2=4
 ·obtain ⟨id1,o1,e1,l1⟩:=kat hTx.r x5 (himm0 (by omega)) (hrd (.inr c4))
  simp -implicitDefEqProofs (disch:=first|omega|simp only[go_sem]) only[go_sem,true_and,c4]
  refine yr_40_3 rfl ?_
  simp -implicitDefEqProofs (disch:=first|omega|simp only[go_sem]) only[go_sem,true_and,g40_3,q40_3,a4 H rx,b4 H rx,e1,l1 H rx]
  refine ycall (value_c C IH) ?_
  simp -implicitDefEqProofs (disch:=first|omega|simp only[go_sem]) only[go_sem,true_and]
  refine ncall truth_c ?_
  simp -implicitDefEqProofs (disch:=first|omega|simp only[go_sem]) only[go_sem,true_and,wst H _ rx]
  refine fin (se4 (x:=⟨x1,x2,x3,x4,x5⟩) c4) (IH.reg C gb ?_)
  split
  ·exact inK_i64.2 ⟨by decide,by decide⟩
  ·exact inK_i64.2 ⟨by decide,by decide⟩
 by_cases c5:x2=5
 ·have hlt:=hwr (.inl c5)
  have i0:0≤x5:=himm0 (by omega)
  have hl:x5.toNat<t.writes.length:=by omega
  obtain ⟨id1,o1,e1,l1⟩:=kat hTx.w x5 i0 hlt
  obtain ⟨k,hk⟩:∃ k,t.writes.getD x5.toNat key0=k:=⟨_,rfl⟩
  have hkok:fKey.ok k:=hk▸kok hTx.w x5.toNat hl
  rw[hk]at l1
  obtain ⟨H2,hH2⟩:∃ K,K=H.push (.row [.int .i32 0,.int .i64 0] 0 false):=⟨_,rfl⟩
  have e2:Ext H H2:=by rw[hH2];exact Ext.push1 _ _
  have g2:H2.get H.next=some (.row [.int .i32 0,.int .i64 0] 0 false):=by rw[hH2];exact get_push_same _ _
  obtain ⟨H3,hH3⟩:∃ K,K=H2.set H.next (.row [.int .i32 k.t,.int .i64 k.r] 0 false):=⟨_,rfl⟩
  have e3:Ext H H3:=by rw[hH3];exact e2.set (Nat.le_refl _)
  have hst:dStore Try.prog 44 (.pointer (some ⟨H.next,0,none⟩)) (keyV k) H2=some H3:=by
   rw[hH3]
   exact (st_44 rfl).trans (storeAt_row g2 (Nat.le_of_ble_eq_true rfl) rfl)
  have g3:H3.get H.next=some (.row [.int .i32 k.t,.int .i64 k.r] 0 false):=by rw[hH3];exact get_set_same _ _
  have l3:cellsAt H3 H.next 0 2=some (keyV k):=by rw[cellsAt_row g3 (Nat.le_of_ble_eq_true rfl)];rfl
  have I3:=IH.ext C e3
  obtain ⟨o,hu,hm2⟩:=I3.mine.update mapTC k (chgV ⟨k,s.r x3,false⟩)
  simp -implicitDefEqProofs (disch:=first|omega|simp only[go_sem]) only[go_sem,true_and,c5]
  refine yr_40_4 rfl ?_
  simp -implicitDefEqProofs (disch:=first|omega|simp only[go_sem]) only[go_sem,true_and,g40_4,q40_4]
  simp -implicitDefEqProofs (disch:=first|omega|simp only[go_sem]) only[go_sem,true_and,← hH2,a4 H2 e2,b5 H2 e2,e1,l1 H2 e2,hst]
  refine yr_40_5 rfl ?_
  simp -implicitDefEqProofs (disch:=first|omega|simp only[go_sem]) only[go_sem,true_and,g40_5,q40_5,b15 H3 e3,l3,ra H3 e3,bd_chgS,hu]
  exact fin (se5 (x:=⟨x1,x2,x3,x4,x5⟩) c5 hk) (I3.put C (c:=⟨k,s.r x3,false⟩) hm2 ⟨hkok,reg_ok I.ok _,trivial⟩)
 by_cases c6:x2=6
 ·have hlt:=hwr (.inr c6)
  have i0:0≤x5:=himm0 (by omega)
  have hl:x5.toNat<t.writes.length:=by omega
  obtain ⟨id1,o1,e1,l1⟩:=kat hTx.w x5 i0 hlt
  obtain ⟨k,hk⟩:∃ k,t.writes.getD x5.toNat key0=k:=⟨_,rfl⟩
  have hkok:fKey.ok k:=hk▸kok hTx.w x5.toNat hl
  rw[hk]at l1
  obtain ⟨H2,hH2⟩:∃ K,K=H.push (.row [.int .i32 0,.int .i64 0] 0 false):=⟨_,rfl⟩
  have e2:Ext H H2:=by rw[hH2];exact Ext.push1 _ _
  have g2:H2.get H.next=some (.row [.int .i32 0,.int .i64 0] 0 false):=by rw[hH2];exact get_push_same _ _
  obtain ⟨H3,hH3⟩:∃ K,K=H2.set H.next (.row [.int .i32 k.t,.int .i64 k.r] 0 false):=⟨_,rfl⟩
  have e3:Ext H H3:=by rw[hH3];exact e2.set (Nat.le_refl _)
  have hst:dStore Try.prog 44 (.pointer (some ⟨H.next,0,none⟩)) (keyV k) H2=some H3:=by
   rw[hH3]
   exact (st_44 rfl).trans (storeAt_row g2 (Nat.le_of_ble_eq_true rfl) rfl)
  have g3:H3.get H.next=some (.row [.int .i32 k.t,.int .i64 k.r] 0 false):=by rw[hH3];exact get_set_same _ _
  have l3:cellsAt H3 H.next 0 2=some (keyV k):=by rw[cellsAt_row g3 (Nat.le_of_ble_eq_true rfl)];rfl
  have I3:=IH.ext C e3
  obtain ⟨o,hu,hm2⟩:=I3.mine.update mapTC k (chgV ⟨k,0,true⟩)
  simp -implicitDefEqProofs (disch:=first|omega|simp only[go_sem]) only[go_sem,true_and,c6]
  refine yr_40_6 rfl ?_
  simp -implicitDefEqProofs (disch:=first|omega|simp only[go_sem]) only[go_sem,true_and,g40_6,q40_6]
  simp -implicitDefEqProofs (disch:=first|omega|simp only[go_sem]) only[go_sem,true_and,← hH2,a4 H2 e2,b5 H2 e2,e1,l1 H2 e2,hst]
  refine yr_40_7 rfl ?_
  simp -implicitDefEqProofs (disch:=first|omega|simp only[go_sem]) only[go_sem,true_and,g40_7,q40_7,b15 H3 e3,l3,bd_chgE,hu]
  exact fin (se6 (x:=⟨x1,x2,x3,x4,x5⟩) c6 hk) (I3.put C (c:=⟨k,0,true⟩) hm2 ⟨hkok,zok,trivial⟩)
 by_cases c19:x2=19
 ·simp -implicitDefEqProofs (disch:=first|omega|simp only[go_sem]) only[go_sem,true_and,c19]
  refine yr_40_8 rfl ?_
  simp -implicitDefEqProofs (disch:=first|omega|simp only[go_sem]) only[go_sem,true_and,g40_8,q40_8,ra H rx,a4 H rx]
  refine ycall narrow_c ?_
  simp -implicitDefEqProofs (disch:=first|omega|simp only[go_sem]) only[go_sem,true_and,wst H _ rx]
  exact fin (se19 (x:=⟨x1,x2,x3,x4,x5⟩) c19) (IH.reg C gb (narrow_ok (reg_ok I.ok _)))
 by_cases c22:x2=22
 ·obtain ⟨i,y,hy,hp⟩:=hj (by simp[jumpsB,c22])
  have gc:=goes_c C IH hy gb
  rw[hp]at gc
  simp -implicitDefEqProofs (disch:=first|omega|simp only[go_sem]) only[go_sem,true_and,c22,a4 H rx]
  refine ncall_ct gc ?_
  rintro r K ⟨rfl,rfl⟩
  simp -implicitDefEqProofs (disch:=first|omega|simp only[go_sem]) only[go_sem,true_and,XEnd]
  exact ⟨_,rfl,by rw[← hR];exact .jump (se22 (x:=⟨x1,x2,x3,x4,x5⟩) c22) hy hp (IH.pc' C gb _)⟩
 by_cases c23:x2=23
 ·by_cases z:s.r x3=0
  ·simp -implicitDefEqProofs (disch:=first|omega|simp only[go_sem]) only[go_sem,true_and,c23,ra H rx,z]
   exact fin (se23z (x:=⟨x1,x2,x3,x4,x5⟩) c23 z) IH
  ·obtain ⟨i,y,hy,hp⟩:=hj (by simp[jumpsB,c23])
   have gc:=goes_c C IH hy gb
   rw[hp]at gc
   simp -implicitDefEqProofs (disch:=first|omega|simp only[go_sem]) only[go_sem,true_and,c23,ra H rx,z,a4 H rx]
   refine ncall_ct gc ?_
   rintro r K ⟨rfl,rfl⟩
   simp -implicitDefEqProofs (disch:=first|omega|simp only[go_sem]) only[go_sem,true_and,XEnd]
   exact ⟨_,rfl,by rw[← hR];exact .jump (se23 (x:=⟨x1,x2,x3,x4,x5⟩) c23 z) hy hp (IH.pc' C gb _)⟩
 by_cases c24:x2=24
 ·have lo:∀ K,dLen Try.prog #[23] vo K=some (.int .i64 (s.out.length:Nat)):=ow.sl.lens (P:=Try.prog) (ts:=#[23]) (t:=23) rfl isl_23
  by_cases z:8≤s.out.length
  ·have z':=eq_true (show (8:Int)≤(s.out.length:Nat) by omega)
   simp -implicitDefEqProofs (disch:=first|omega|simp only[go_sem]) only[go_sem,true_and,c24,b16 H rx,lo,z']
   exact fin (se24f (x:=⟨x1,x2,x3,x4,x5⟩) c24 z) IH
  ·have z':¬ (8:Int)≤(s.out.length:Nat):=by omega
   obtain ⟨vo',h2,e6,n2,ng2,gg,o3⟩:=ow.snoc (cs:=[.int .i64 (s.r x3)]) (x:=s.r x3) (z:=1) (fun i hi=>hi.elim) ⟨rfl,reg_ok I.ok _⟩ rfl (by decide) app_23 (by omega) (by decide)
   have hv':vo'.cells=#[vo']:=o3.sl.cells1
   have hone:[vo'].all Value.oneCell'=true:=by obtain ⟨_,_,rfl⟩:=o3.sl.isSlice;rfl
   have nb:w≠some b:=fun e=>by have:=hw b e;have:=C.lb;omega
   have nm:w≠some mm:=fun e=>by have:=hw mm e;have:=C.lm;omega
   have gb2:h2.get b=some (.row (runL t vc va vr vw s.reg hm mm am vo pc) 0 false):=(gg _ (by omega) nb).trans gb
   have w1:dStore Try.prog 23 (.pointer (some ⟨b,16,none⟩)) vo' h2=some (h2.set b (.row (runL t vc va vr vw s.reg hm mm am vo' pc) 0 false)):=by
    rw[st_23 hv',storeAt_row gb2 (by rw[runL_len l8];exact Nat.le_of_ble_eq_true rfl) hone,runL_setOut l8]
   have ep:Ext H (H.push (.row [.int .i64 (s.r x3)] 1 false)):=Ext.push1 _ _
   simp -implicitDefEqProofs (disch:=first|omega|simp only[go_sem]) only[go_sem,true_and,c24,b16 H rx,lo,z']
   refine yr_40_9 rfl ?_
   simp -implicitDefEqProofs (disch:=first|omega|simp only[go_sem]) only[go_sem,true_and,g40_9,q40_9,b16 H rx,ra H rx,b16 _ ep,e6,w1]
   have kp2:KpD (fun i=>i=b∨i=mm) h0 h2:=⟨by have:=IH.kp.next;omega,ng2.trans IH.kp.ng,fun i hi hn=>(gg i (Nat.lt_of_lt_of_le hi IH.kp.next) (fun e=>by have:=hw i e;omega)).trans (IH.kp.get i hi hn)⟩
   have mm2:MapAt keyV h2 mm (putB Change.k chgV s.w):=IH.mine.keep (gg _ (by omega) nm)
   have hkn:=IH.kp.next
   refine fin (s':={ s with out:=s.out++[s.r x3] }) (se24 (x:=⟨x1,x2,x3,x4,x5⟩) c24 z) ⟨kp2.set (.inl (.inl rfl)),⟨vo',some (H.next+1),get_set_same _ _,o3.mono (Nat.le_refl _) (fun i hi=>get_set_other _ _ (by cases hi;omega)) (fun i hi=>hi.elim),fun i hi=>by cases hi;omega⟩,mm2.keep (get_set_other _ _ (fun e=>C.bm e.symm)),l8,I.ok,by simp;omega,I.wok⟩
 by_cases c25:x2=25
 ·have i0:0≤x5:=himm0 (by omega)
  have hwp:IntKind.i64.wrap (100+x5)=100+x5:=wrap_i64_in (by omega) (by omega)
  simp -implicitDefEqProofs (disch:=first|omega|simp only[go_sem]) only[go_sem,true_and,c25,a4 H rx,hwp]
  exact fin (se25 (x:=⟨x1,x2,x3,x4,x5⟩) c25) IH
 by_cases c26:x2=26
 ·obtain ⟨k,hk⟩:∃ k,(⟨IntKind.i32.wrap x5,s.r x4⟩:Key)=k:=⟨_,rfl⟩
  have hkok:fKey.ok k:=hk▸⟨wrap_ok _ _,reg_ok I.ok _⟩
  have hfar:farK ⟨x1,x2,x3,x4,x5⟩ s=k:=hk
  obtain ⟨H3,hH3⟩:∃ K,K=H.push (.row [.int .i32 k.t,.int .i64 k.r] 0 false):=⟨_,rfl⟩
  have e3:Ext H H3:=by rw[hH3];exact Ext.push1 _ _
  have hst:dStore Try.prog 44 (.pointer (some ⟨H.next,0,none⟩)) (keyV k) (H.push (.row [.int .i32 0,.int .i64 0] 0 false))=some H3:=by
   rw[hH3]
   exact (st_44 rfl).trans (storeAll_push rfl rfl)
  have g3:H3.get H.next=some (.row [.int .i32 k.t,.int .i64 k.r] 0 false):=by rw[hH3];exact get_push_same _ _
  have l3:cellsAt H3 H.next 0 2=some (keyV k):=by rw[cellsAt_row g3 (Nat.le_of_ble_eq_true rfl)];rfl
  have I3:=IH.ext C e3
  have hbk:dBuild Try.prog 44 [(0,.int .i32 (IntKind.i32.wrap x5)),(1,.int .i64 (s.r x4))]=some (keyV k):=hk▸bd_keyK
  simp -implicitDefEqProofs (disch:=first|omega|simp only[go_sem]) only[go_sem,true_and,c26,a4 H rx,hbk,hst]
  refine yr_40_10 rfl ?_
  simp -implicitDefEqProofs (disch:=first|omega|simp only[go_sem]) only[go_sem,true_and,g40_10,q40_10,b4 H3 e3,l3]
  refine ycall (has_c (hTx.ext e3).r (by have:=C.len.r;omega)) ?_
  by_cases hm':k∈t.reads
  ·have hmd:=decide_eq_true hm'
   simp -implicitDefEqProofs (disch:=first|omega|simp only[go_sem]) only[go_sem,true_and,hmd,l3]
   refine ncall (value_c C I3) ?_
   simp -implicitDefEqProofs (disch:=first|omega|simp only[go_sem]) only[go_sem,true_and,wst H3 _ e3]
   exact fin (se26 (x:=⟨x1,x2,x3,x4,x5⟩) c26 hfar hm') (I3.reg C (gbK H3 e3) (valE_ok C.okm I.wok))
  ·have hmd:=decide_eq_false hm'
   simp -implicitDefEqProofs (disch:=first|omega|simp only[go_sem]) only[go_sem,true_and,hmd]
   exact fin (se26f (x:=⟨x1,x2,x3,x4,x5⟩) c26 hfar hm') I3
 by_cases c27:x2=27
 ·obtain ⟨k,hk⟩:∃ k,(⟨IntKind.i32.wrap x5,s.r x4⟩:Key)=k:=⟨_,rfl⟩
  have hkok:fKey.ok k:=hk▸⟨wrap_ok _ _,reg_ok I.ok _⟩
  have hfar:farK ⟨x1,x2,x3,x4,x5⟩ s=k:=hk
  obtain ⟨H3,hH3⟩:∃ K,K=H.push (.row [.int .i32 k.t,.int .i64 k.r] 0 false):=⟨_,rfl⟩
  have e3:Ext H H3:=by rw[hH3];exact Ext.push1 _ _
  have hst:dStore Try.prog 44 (.pointer (some ⟨H.next,0,none⟩)) (keyV k) (H.push (.row [.int .i32 0,.int .i64 0] 0 false))=some H3:=by
   rw[hH3]
   exact (st_44 rfl).trans (storeAll_push rfl rfl)
  have g3:H3.get H.next=some (.row [.int .i32 k.t,.int .i64 k.r] 0 false):=by rw[hH3];exact get_push_same _ _
  have l3:cellsAt H3 H.next 0 2=some (keyV k):=by rw[cellsAt_row g3 (Nat.le_of_ble_eq_true rfl)];rfl
  have I3:=IH.ext C e3
  have hbk:dBuild Try.prog 44 [(0,.int .i32 (IntKind.i32.wrap x5)),(1,.int .i64 (s.r x4))]=some (keyV k):=hk▸bd_keyK
  simp -implicitDefEqProofs (disch:=first|omega|simp only[go_sem]) only[go_sem,true_and,c27,a4 H rx,hbk,hst]
  refine yr_40_11 rfl ?_
  simp -implicitDefEqProofs (disch:=first|omega|simp only[go_sem]) only[go_sem,true_and,g40_11,q40_11,b5 H3 e3,l3]
  refine ycall (has_c (hTx.ext e3).w (by have:=C.len.w;omega)) ?_
  by_cases hm':k∈t.writes
  ·have hmd:=decide_eq_true hm'
   obtain ⟨o,hu,hm2⟩:=I3.mine.update mapTC k (chgV ⟨k,s.r x3,false⟩)
   simp -implicitDefEqProofs (disch:=first|omega|simp only[go_sem]) only[go_sem,true_and,hmd]
   refine yr_40_12 rfl ?_
   simp -implicitDefEqProofs (disch:=first|omega|simp only[go_sem]) only[go_sem,true_and,g40_12,q40_12,b15 H3 e3,l3,ra H3 e3,bd_chgS,hu]
   exact fin (se27 (x:=⟨x1,x2,x3,x4,x5⟩) c27 hfar hm') (I3.put C (c:=⟨k,s.r x3,false⟩) hm2 ⟨hkok,reg_ok I.ok _,trivial⟩)
  ·have hmd:=decide_eq_false hm'
   simp -implicitDefEqProofs (disch:=first|omega|simp only[go_sem]) only[go_sem,true_and,hmd]
   exact fin (se27f (x:=⟨x1,x2,x3,x4,x5⟩) c27 hfar hm') I3
 obtain ⟨k1,k2⟩:=bin2_ok (o:=x2) (b:=s.r x4) (reg_ok I.ok x3)
 have hpl:plainOp x2:=⟨c0,c1,c2,c7,c3,c4,c5,c6,c19,c22,c23,c24,c25,c26,c27⟩
 simp -implicitDefEqProofs (disch:=first|omega|simp only[go_sem]) only[go_sem,true_and,c0,c1,c2,c7,c3,c4,c5,c6,c19,c22,c23,c24,c25,c26,c27]
 refine yr_40_13 rfl ?_
 simp -implicitDefEqProofs (disch:=first|omega|simp only[go_sem]) only[go_sem,true_and,g40_13,q40_13,a1 H rx,ra H rx]
 refine ycall binary_c ?_
 by_cases z:(bin2 x2 (s.r x3) (s.r x4)).2=0
 ·simp -implicitDefEqProofs (disch:=first|omega|simp only[go_sem]) only[go_sem,true_and,bin2V,z,wst H _ rx]
  exact fin ((seb (x:=⟨x1,x2,x3,x4,x5⟩) hpl).trans (if_pos z)) (IH.reg C gb k1)
 ·simp -implicitDefEqProofs (disch:=first|omega|simp only[go_sem]) only[go_sem,true_and,bin2V,z]
  exact fin ((seb (x:=⟨x1,x2,x3,x4,x5⟩) hpl).trans (if_neg z)) IH
end Go.Proofs.Ythjmkmoiopmfcaa

namespace Go.Proofs.Ythjmkmoiopmfcaa
open Go.D
set_option maxRecDepth 100000
def atM (L:List Instr):Nat→List (Int × Value)
 | 0=>[]
 | i+1=>mput (atM L i) ((L[i]?.map (·.pos)).getD 0) (.int .i64 (i:Nat))
theorem atM_nodup (L:List Instr):∀ n,((atM L n).map (·.1)).Nodup
 | 0=>.nil
 | n+1=>mput_nodup (atM_nodup L n)
theorem atM_get {L:List Instr} (hL:L.Pairwise fun x y=>x.pos<y.pos):∀ {n i:Nat} {x:Instr},n≤L.length→i<n→L[i]? = some x→mget (atM L n) x.pos=some (.int .i64 (i:Nat))
 | 0,i,x,_,hi,_=>by omega
 | n+1,i,x,hn,hi,hx=>by
   have hl:n<L.length:=by omega
   simp only[atM]
   rw[List.getElem?_eq_getElem hl,Option.map_some,Option.getD_some,mget_mput (atM_nodup L n)]
   by_cases hin:i=n
   ·subst hin
    rw[List.getElem?_eq_getElem hl]at hx
    cases hx
    rw[if_pos rfl]
   ·have hil:i<L.length:=by omega
    have hxi:L[i]=x:=by rw[List.getElem?_eq_getElem hil]at hx;exact Option.some.inj hx
    have:=List.pairwise_iff_getElem.1 hL i n hil hl (by omega)
    rw[hxi]at this
    rw[if_neg (by omega)]
    exact atM_get hL (by omega) (by omega) hx
theorem atM_step {L:List Instr} {i:Nat} (hi:i<L.length):atM L (i+1)=mput (atM L i) L[i].pos (.int .i64 (i:Nat)):=by
 simp only[atM]
 rw[List.getElem?_eq_getElem hi]
 rfl
theorem byK_last {w l:List Change} (hn:(l.map Change.k).Nodup) (hl:∀ c∈l,lastB Change.k w c.k=some c) (hall:∀ k∈w.map Change.k,k∈l.map Change.k):byK Change.k l=byK Change.k w:=by
 refine upB_eq (byK_up _) (byK_up _) fun c=>?_
 rw[mem_byK,mem_byK]
 constructor
 ·intro h
  exact hl c (lastB_some h).1
 ·intro h
  obtain ⟨h1,h2⟩:=lastB_some h
  obtain ⟨d,hd⟩:=lastB_mem (hall c.k (List.mem_map.2 ⟨c,h1,rfl⟩))
  obtain ⟨g1,g2⟩:=lastB_some hd
  have:=hl d g1
  rw[g2,h]at this
  cases this
  exact hd
theorem fuel_ok (f:Int):max 0 (min f 4096)=(fuelN f:Nat):=by unfold fuelN;omega
end Go.Proofs.Ythjmkmoiopmfcaa

namespace Go.Proofs.Ythjmkmoiopmfcaa
open Go.D
set_option maxRecDepth 100000
abbrev nilV0:Value:=.slice none 0 0
theorem maxR_i64 {P:Program} {h:DHeap} {ts:Array TypeId} {ty:TypeId} {a b:Int}:dBuiltin P .max ts ty h (some [.int .i64 a,.int .i64 b])=.ok (.value (.int .i64 (max a b))) h:=by
 have hq:quick P (Builtin.max_ ts ty #[.int .i64 a,.int .i64 b])=some (.inr (.int .i64 (max a b))):=by
  have e:max a b=if a<b then b else a:=by
   by_cases h:a<b
   ·rw[if_pos h];omega
   ·rw[if_neg h];omega
  rw[e]
  rfl
 have hf:([Value.int .i64 a,.int .i64 b].all flat3)=true:=rfl
 show (if [Value.int .i64 a,.int .i64 b].all flat3=true then dval P (Builtin.max_ ts ty #[.int .i64 a,.int .i64 b]) h else .bad)=_
 rw[if_pos hf]
 simp only[dval,hq]
 rfl
theorem bd_o1 {e:Int}:dBuild Try.prog 32 [(0,.int .i64 e)]=some (.agg #[.int .i64 e,nilV0,nilV0,.int .i64 0]):=dBuild_at plc_32 rfl
theorem bd_o2 {e k:Int}:dBuild Try.prog 32 [(0,.int .i64 e),(3,.int .i64 k)]=some (.agg #[.int .i64 e,nilV0,nilV0,.int .i64 k]):=dBuild_at plc_32 rfl
theorem bd_o4 {e k:Int} {u w:Value} (hu:u.cells=#[u]) (hw:w.cells=#[w]):dBuild Try.prog 32 [(0,.int .i64 e),(1,u),(2,w),(3,.int .i64 k)]=some (.agg #[.int .i64 e,u,w,.int .i64 k]):=dBuild_at plc_32 (by simp[fillL,hu,hw,setAt,cells_int])
theorem bd_run {t:Txn} {vc va vr vw:Value} {a b c:Nat}:dBuild Try.prog 81 [(0,txnV t.ses t.req vc va vr vw),(2,.map (some a)),(3,.map (some b)),(6,.map (some c))]=some (.agg (runL t vc va vr vw [0,0,0,0,0,0,0,0] a b c nilV0 0).toArray):=dBuild_at plc_81 rfl
def RunR (h:DHeap) (o:Outc) (r:DEnd) (h1:DHeap):Prop:=∃ vv cv,r=.ret (.agg #[.int .i64 o.e,vv,cv,.int .i64 o.s])∧Made fI64 h h1 vv o.vs∧Made fChange h h1 cv o.ch
theorem RunR.none {h h1:DHeap} {e k:Int} (hE:Ext h h1) {o:Outc} (ho:o=⟨e,[],[],k⟩):RunR h o (.ret (.agg #[.int .i64 e,nilV0,nilV0,.int .i64 k])) h1:=by
 subst ho
 exact ⟨_,_,rfl,.nil _ hE,.nil _ hE⟩
set_option maxHeartbeats 4000000 in
theorem run_c {h:DHeap} {t:Txn} {vc va vr vw v:Value} {l:List Pair} {f:Int} (x:TxV (InH h) h t vc va vr vw) (hT:TxLen t) (hb:Arg fPair.rep h v l) (hl:l.length≤1048576) :
 Ct Try.prog 13 [txnV t.ses t.req vc va vr vw,v,.int .i64 f] h (RunR h (runE t l f)):=by
 obtain ⟨R,hR⟩:∃ R,RunR h (runE t l f)=R:=⟨_,rfl⟩
 rw[hR]
 refine go_13 (by simp) ?_
 have hcl:(txnV t.ses t.req vc va vr vw).cells.toList=[.int .i64 t.ses,.int .i64 t.req,vc,va,vr,vw]:=rfl
 obtain ⟨H1,hH1⟩:∃ H,h.push (.row [.int .i64 t.ses,.int .i64 t.req,vc,va,vr,vw] 0 false)=H:=⟨_,rfl⟩
 have g1:H1.get h.next=some (.row [.int .i64 t.ses,.int .i64 t.req,vc,va,vr,vw] 0 false):=by rw[← hH1];exact get_push_same _ _
 have n1:H1.next=h.next+1:=by rw[← hH1];rfl
 have e1:Ext h H1:=by rw[← hH1];exact Ext.push1 _ _
 obtain ⟨H2,hH2⟩:∃ H,H1.push (.row [.int .i64 0,nilV0,nilV0,.int .i64 0] 0 false)=H:=⟨_,rfl⟩
 have g2:H2.get H1.next=some (.row [.int .i64 0,nilV0,nilV0,.int .i64 0] 0 false):=by rw[← hH2];exact get_push_same _ _
 have n2:H2.next=h.next+2:=by rw[← hH2,next_push,n1]
 have e12:Ext H1 H2:=by rw[← hH2];exact Ext.push1 _ _
 have e2:Ext h H2:=e1.trans e12
 have lt:∀ K,Ext H2 K→cellsAt K h.next 0 6=some (txnV t.ses t.req vc va vr vw):=fun K e=>by
  rw[cellsAt_row ((e.get _ (by omega)).trans ((e12.get _ (by omega)).trans g1)) (Nat.le_of_ble_eq_true rfl)]
  rfl
 have lc:∀ K,Ext H2 K→cellAt K h.next 2=some vc:=fun K e=>cellAt_row ((e.get _ (by omega)).trans ((e12.get _ (by omega)).trans g1))
 have hby:=bytes_le x.c
 have x2:TxV (InH H2) H2 t vc va vr vw:=x.ext e2
 have res:∀ (K:DHeap) (e k:Int) (u w:Value),u.cells=#[u]→w.cells=#[w]→[Value.int .i64 e,u,w,.int .i64 k].all Value.oneCell'=true→K.get H1.next=some (.row [.int .i64 0,nilV0,nilV0,.int .i64 0] 0 false) →
  ∃ K',storeAt K H1.next 0 [.int .i64 e,u,w,.int .i64 k]=some K'∧cellsAt K' H1.next 0 4=some (.agg #[.int .i64 e,u,w,.int .i64 k])∧∃ o,K'=K.set H1.next o:=fun K e k u w hu hw ho g=>by
  refine ⟨_,storeAt_row g (Nat.le_of_ble_eq_true rfl) ho,?_,_,rfl⟩
  rw[cellsAt_row (get_set_same _ _) (Nat.le_of_ble_eq_true rfl)]
  rfl
 simp -implicitDefEqProofs (disch:=first|omega|simp only[go_sem]) only[go_sem,true_and,c13,hcl,hH1,hH2,lt H2 (.refl _)]
 refine ncall (checkT_c x2.c x2.a x2.r x2.w hT.c hby) ?_
 by_cases hz:txnE t=0
 case neg=>
  obtain ⟨K',s1,s2,o,rfl⟩:=res H2 1 0 nilV0 nilV0 rfl rfl rfl g2
  simp -implicitDefEqProofs (disch:=first|omega|simp only[go_sem]) only[go_sem,true_and,hz,bd_o1,s1,dResults_c1,dResC_some,s2]
  refine ⟨_,rfl,?_⟩
  rw[← hR]
  exact RunR.none (e2.set (by omega)) (by unfold runE;rw[if_pos hz])
 obtain ⟨hdec,_,hna,hnr,hnw⟩:=txn_ok hz
 simp -implicitDefEqProofs (disch:=first|omega|simp only[go_sem]) only[go_sem,true_and,hz,lc H2 (.refl _)]
 refine ncall_ct (decode_c x2.c hT.c) ?_
 rintro r Q1 ⟨w,rfl,eQ1,hw⟩
 obtain ⟨L,hL⟩:∃ L,decL t.code=L:=⟨_,rfl⟩
 rw[hL]at hw
 have eQ:Ext h Q1:=e2.trans eQ1
 have hLlen:L.length≤512:=by
  have h1:=walkAt_len (l:=t.code) (n:=t.code.length) (i:=0) (by omega)
  obtain ⟨h2,_,_,h3⟩:=decL_of hdec
  rw[← hL,h2]
  omega
 obtain ⟨M1,hM1⟩:∃ H,Q1.push (.map [] 0)=H:=⟨_,rfl⟩
 obtain ⟨M2,hM2⟩:∃ H,M1.push (.map [] 0)=H:=⟨_,rfl⟩
 obtain ⟨M3,hM3⟩:∃ H,M2.push (.map [] 0)=H:=⟨_,rfl⟩
 obtain ⟨M4,hM4⟩:∃ H,M3.push (.row (runL t vc va vr vw [0,0,0,0,0,0,0,0] Q1.next M1.next M2.next nilV0 0) 0 false)=H:=⟨_,rfl⟩
 have m1:M1.next=Q1.next+1:=by rw[← hM1];rfl
 have m2:M2.next=Q1.next+2:=by rw[← hM2,next_push,m1]
 have m3:M3.next=Q1.next+3:=by rw[← hM3,next_push,m2]
 have m4:M4.next=Q1.next+4:=by rw[← hM4,next_push,m3]
 have E1:Ext Q1 M1:=hM1▸Ext.push1 _ _
 have E2:Ext M1 M2:=hM2▸Ext.push1 _ _
 have E3:Ext M2 M3:=hM3▸Ext.push1 _ _
 have E4:Ext M3 M4:=hM4▸Ext.push1 _ _
 have a1:MapAt keyV M4 Q1.next ([]:List (Key × Value)):=MapAt.keep (by rw[← hM1];exact MapAt.new) ((E4.get _ (by omega)).trans ((E3.get _ (by omega)).trans (E2.get _ (by omega))))
 have a2:MapAt keyV M4 M1.next ([]:List (Key × Value)):=MapAt.keep (by rw[← hM2];exact MapAt.new) ((E4.get _ (by omega)).trans (E3.get _ (by omega)))
 have a3:MapAt (fun n:Int=>Value.int .i64 n) M4 M2.next ([]:List (Int × Value)):=MapAt.keep (by rw[← hM3];exact MapAt.new) (E4.get _ (by omega))
 have a4:M4.get M3.next=some (.row (runL t vc va vr vw [0,0,0,0,0,0,0,0] Q1.next M1.next M2.next nilV0 0) 0 false):=by rw[← hM4];exact get_push_same _ _
 have EQ4:Ext Q1 M4:=((E1.trans E2).trans E3).trans E4
 have elw:∀ K,dLen Try.prog #[74] w K=some (.int .i64 (L.length:Nat)):=hw.lens (P:=Try.prog) (ts:=#[74]) (t:=74) rfl isl_74
 simp -implicitDefEqProofs (disch:=first|omega|simp only[go_sem]) only[go_sem,true_and,XEnd,lt Q1 eQ1,hM1,hM2,hM3,bd_run,hM4,elw]
 refine xloop (σ:=Nat) (by kernel_rfl) (fun i s=>s.df=[]∧s.rd=none∧s.fr 1=some v∧s.fr 2=some (.int .i64 f)∧s.fr 3=some (.pointer (some ⟨h.next,0,none⟩))∧s.fr 6=some (.pointer (some ⟨H1.next,0,none⟩))∧s.fr 7=some w∧s.fr 9=some (.pointer (some ⟨M3.next,0,none⟩))∧s.fr 36=some w∧s.fr 37=some (.int .i64 (L.length:Nat))∧s.fr 38=some (.int .i64 (i:Nat))∧i≤L.length ∧
  Ext Q1 s.h∧M3.next<s.h.next∧s.h.get M3.next=some (.row (runL t vc va vr vw [0,0,0,0,0,0,0,0] Q1.next M1.next M2.next nilV0 0) 0 false)∧MapAt keyV s.h Q1.next ([]:List (Key × Value))∧MapAt keyV s.h M1.next ([]:List (Key × Value))∧MapAt (fun n:Int=>Value.int .i64 n) s.h M2.next (atM L i)) (fun i=>L.length - i) 0 ?_ ?_
 ·simp -implicitDefEqProofs (disch:=first|omega|simp only[go_sem]) only[go_sem,true_and]
  exact ⟨by trivial,Nat.zero_le _,EQ4,by omega,a4,a1,a2,a3⟩
 rintro i ⟨fr,df,K,rd⟩ K' hK' hX ⟨rfl,rfl,f1,f2,f3,f6,f7,f9,f36,f37,f38,hi,eK,hlt,b4,b1,b2,b3⟩
 simp only at f1 f2 f3 f6 f7 f9 f36 f37 f38 eK hlt b4 b1 b2 b3
 simp -implicitDefEqProofs (disch:=first|omega|simp only[go_sem]) only[go_sem,true_and,f36,f37,f38]
 refine XIf_dec (fun hc1=>?_) (fun hc1=>?_)
 ·have hj:i<L.length:=by omega
  obtain ⟨id1,o1,q1,hid1,hat1⟩:=(hw.ext eK).idx (P:=Try.prog) (t:=74) el_74 (k:=.i64) (i:=i) (x:=L[i]) (by simp)
  have l1:cellsAt K id1 o1 5=some (instrV L[i]):=hat1.flat.2.1
  obtain ⟨K1,hK1⟩:∃ H,H=K.push (.row (fInstr.enc L[i]) 0 false):=⟨_,rfl⟩
  have eK1:Ext K K1:=by rw[hK1];exact Ext.push1 _ _
  have gK1:K1.get K.next=some (.row (fInstr.enc L[i]) 0 false):=by rw[hK1];exact get_push_same _ _
  have c0:cellAt K1 K.next 0=some (.int .i64 L[i].pos):=cellAt_row gK1
  have c18:cellAt K1 M3.next 18=some (.map (some M2.next)):=cellAt_row ((eK1.get _ hlt).trans b4)
  have hst:dStore Try.prog 83 (.pointer (some ⟨K.next,0,none⟩)) (instrV L[i]) (K.push (.row [.int .i64 0,.int .i64 0,.int .i64 0,.int .i64 0,.int .i64 0] 0 false))=some K1:=by
   rw[hK1]
   exact (st_83 rfl).trans store5
  obtain ⟨o,hu,hm2⟩:=(b3.keep (eK1.get _ (by omega))).update mapTI L[i].pos (.int .i64 (i:Nat))
  have hw1:=wrap_succ hj (by omega)
  have hn1:=eK1.next
  simp -implicitDefEqProofs (disch:=first|omega|simp only[go_sem]) only[go_sem,true_and,f36,f38,q1,l1,hst]
  refine yr_13_0 rfl ?_
  simp -implicitDefEqProofs (disch:=first|omega|simp only[go_sem]) only[go_sem,true_and,g13_0,q13_0,f9,f38,c18,c0,hu,hw1]
  refine hK' (i+1) _ ?_ (by omega)
  refine ⟨by trivial,by trivial,(vy f1),(vy f2),(vy f3),(vy f6),(vy f7),(vy f9),(vy f36),(vy f37),vz,by omega,(eK.trans eK1).set (by omega),show M3.next<K1.next by omega,(get_set_other _ _ (by omega)).trans ((eK1.get _ hlt).trans b4),b1.keep ((get_set_other _ _ (by omega)).trans (eK1.get _ (by omega))),b2.keep ((get_set_other _ _ (by omega)).trans (eK1.get _ (by omega))),?_⟩
  rw[atM_step hj]
  exact hm2
 obtain rfl:i=L.length:=by omega
 refine hX _ _ (by simp) ?_
 clear hK' hX K' f36 f37 f38 hc1 hi
 have eH2K:Ext H2 K:=eQ1.trans eK
 have eHK:Ext h K:=e2.trans eH2K
 simp -implicitDefEqProofs (disch:=first|omega|simp only[go_sem]) only[go_sem,true_and,f1,f3,lt K eH2K]
 refine ncall_ct (needs_c (x.ext eHK) (hb.ext eHK) hl (by have:=hT.r;omega)) ?_
 rintro r Y ⟨wn,rfl,mn⟩
 obtain ⟨ns,hns⟩:∃ ns,needsN t l=ns:=⟨_,rfl⟩
 rw[hns]at mn
 have hnsl:ns.length≤1048576:=by
  have h1:=List.length_filter_le (fun p:Pair=>decide (p.k∈t.reads)) (byK Pair.k l)
  have h2:=byK_len (key:=Pair.k) l
  rw[← hns]
  unfold needsN
  omega
 have eKY:=mn.ext
 have nKY:=eKY.next
 have eln:∀ K,dLen Try.prog #[27] wn K=some (.int .i64 (ns.length:Nat)):=mn.arg.lens (P:=Try.prog) (ts:=#[27]) (t:=27) rfl isl_27
 have y1:MapAt keyV Y Q1.next ([]:List (Key × Value)):=b1.keep (eKY.get _ (by omega))
 simp -implicitDefEqProofs (disch:=first|omega|simp only[go_sem]) only[go_sem,true_and,XEnd,eln]
 refine xloop (σ:=Nat) (by kernel_rfl) (fun j s=>s.df=[]∧s.rd=none∧s.fr 2=some (.int .i64 f)∧s.fr 6=some (.pointer (some ⟨H1.next,0,none⟩))∧s.fr 7=some w∧s.fr 9=some (.pointer (some ⟨M3.next,0,none⟩))∧s.fr 53=some wn∧s.fr 54=some (.int .i64 (ns.length:Nat))∧s.fr 55=some (.int .i64 (j:Nat))∧j≤ns.length ∧
  KpD (fun i=>i=Q1.next) Y s.h∧MapAt keyV s.h Q1.next (putB Pair.k (fun p=>.int .i64 p.v) (ns.take j))) (fun j=>ns.length - j) 0 ?_ ?_
 ·simp -implicitDefEqProofs (disch:=first|omega|simp only[go_sem]) only[go_sem,true_and,f2,f6,f7,f9]
  exact ⟨by trivial,Nat.zero_le _,.refl _ _,y1⟩
 clear f1 f2 f3 f6 f7 f9
 rintro j ⟨fr,df,Z,rd⟩ K' hK' hX ⟨rfl,rfl,f2,f6,f7,f9,f53,f54,f55,hj,kZ,z1⟩
 simp only at f2 f6 f7 f9 f53 f54 f55 kZ z1
 have nYZ:=kZ.next
 have gz:Z.get M3.next=some (.row (runL t vc va vr vw [0,0,0,0,0,0,0,0] Q1.next M1.next M2.next nilV0 0) 0 false):=(kZ.get _ (by omega) (by omega)).trans ((eKY.get _ hlt).trans b4)
 simp -implicitDefEqProofs (disch:=first|omega|simp only[go_sem]) only[go_sem,true_and,f53,f54,f55]
 refine XIf_dec (fun hc1=>?_) (fun hc1=>?_)
 ·have hjl:j<ns.length:=by omega
  obtain ⟨id1,o1,q1,hid1,hat1⟩:=(mn.sl.kp kZ (fun i hi=>⟨hi.2,fun e=>by omega⟩)).idx (P:=Try.prog) (t:=27) el_27 (k:=.i64) (i:=j) (x:=ns[j]) (by simp)
  have l1:cellsAt Z id1 o1 3=some (pairV ns[j]):=hat1.flat.2.1
  obtain ⟨K1,hK1⟩:∃ H,H=Z.push (.row [.int .i32 ns[j].k.t,.int .i64 ns[j].k.r,.int .i64 ns[j].v] 0 false):=⟨_,rfl⟩
  have eK1:Ext Z K1:=by rw[hK1];exact Ext.push1 _ _
  have gK1:K1.get Z.next=some (.row [.int .i32 ns[j].k.t,.int .i64 ns[j].k.r,.int .i64 ns[j].v] 0 false):=by rw[hK1];exact get_push_same _ _
  have lk:cellsAt K1 Z.next 0 2=some (keyV ns[j].k):=by rw[cellsAt_row gK1 (Nat.le_of_ble_eq_true rfl)];rfl
  have lv:cellAt K1 Z.next 2=some (.int .i64 ns[j].v):=cellAt_row gK1
  have c14:cellAt K1 M3.next 14=some (.map (some Q1.next)):=cellAt_row ((eK1.get _ (by omega)).trans gz)
  have hst:dStore Try.prog 46 (.pointer (some ⟨Z.next,0,none⟩)) (.agg #[.int .i32 ns[j].k.t,.int .i64 ns[j].k.r,.int .i64 ns[j].v]) (Z.push (.row [.int .i32 0,.int .i64 0,.int .i64 0] 0 false))=some K1:=by
   rw[hK1]
   exact (st_46 rfl).trans (storeAll_push rfl rfl)
  obtain ⟨o,hu,hm2⟩:=(z1.keep (eK1.get _ (by omega))).update mapT64 ns[j].k (.int .i64 ns[j].v)
  have hw1:=wrap_succ hjl (by omega)
  simp -implicitDefEqProofs (disch:=first|omega|simp only[go_sem]) only[go_sem,true_and,f53,f55,q1,l1,hst]
  refine yr_13_1 rfl ?_
  simp -implicitDefEqProofs (disch:=first|omega|simp only[go_sem]) only[go_sem,true_and,g13_1,q13_1,f9,f55,c14,lk,lv,hu,hw1]
  refine hK' (j+1) _ ?_ (by omega)
  refine ⟨by trivial,by trivial,(vy f2),(vy f6),(vy f7),(vy f9),(vy f53),(vy f54),vz,by omega,(kZ.ext eK1).set (.inl rfl),?_⟩
  rw[putB_take hjl]
  exact hm2
 obtain rfl:j=ns.length:=by omega
 refine hX _ _ (by simp) ?_
 rw[List.take_length]at z1
 clear hK' hX K' f53 f54 f55 hc1 hj
 have eHY:Ext h Y:=eHK.trans eKY
 have kQ:∀ i,i<Q1.next→Z.get i=Q1.get i:=fun i hi=>(kZ.get _ (by have:=eK.next;omega) (by omega)).trans ((eKY.get _ (by have:=eK.next;omega)).trans (eK.get _ hi))
 have nQZ:Q1.next+4≤Z.next:=by omega
 have C:RunC Z M3.next Q1.next M1.next M2.next t vc va vr vw ns L:={
  lb:=by omega
  lh:=by omega
  lm:=by omega
  la:=by omega
  bm:=by omega
  hb:=by omega
  hmm:=by omega
  ab:=by omega
  amm:=by omega
  tx:=x.mono fun i hi=>⟨⟨by have:=eQ.next;have:i<h.next:=hi;omega,by have:=eQ.next;have:i<h.next:=hi;omega⟩,(kQ i (Nat.lt_of_lt_of_le hi eQ.next)).trans (eQ.get i hi)⟩
  len:=hT
  has:=z1
  at_:=⟨_,b3.keep ((kZ.get _ (by omega) (by omega)).trans (eKY.get _ (by omega))),fun i x hx=>atM_get (hL▸code_up) (Nat.le_refl _) (List.getElem?_eq_some_iff.1 hx).1 hx⟩
  okm:=mn.ok }
 have I0:RunI Z Z M3.next Q1.next M1.next M2.next t vc va vr vw rs0 0:=⟨.refl _ _,⟨nilV0,none,gz,Owns.nil _ _ _,fun i hi=>by cases hi⟩,b2.keep ((kZ.get _ (by omega) (by omega)).trans (eKY.get _ (by omega))),rfl,fun n hn=>by
  have:n=0:=by simpa [rs0] using hn
  subst this
  exact inK_i64.2 ⟨by decide,by decide⟩,by decide,fun c hc=>by cases hc⟩
 have hwZ:∀ K,KpD (fun i=>i=M3.next∨i=M1.next) Z K→Arg fInstr.rep K w L:=fun K k=>hw.mono fun i hi=>⟨by have:=k.next;have:i<Q1.next:=hi;omega,(k.get i (by have:i<Q1.next:=hi;omega) (by have:i<Q1.next:=hi;omega)).trans (kQ i hi)⟩
 have rZ:∀ K,KpD (fun i=>i=M3.next∨i=M1.next) Z K→K.get H1.next=some (.row [.int .i64 0,nilV0,nilV0,.int .i64 0] 0 false):=fun K k=>by
  have:=eQ1.next
  exact (k.get _ (by omega) (by omega)).trans ((kQ _ (by omega)).trans ((eQ1.get _ (by omega)).trans g2))
 have eZ:∀ K,KpD (fun i=>i=M3.next∨i=M1.next) Z K→Ext h K:=fun K k=>by
  have e0:Ext h Z:=kZ.toExt eHY (fun i hi=>by have:=eQ.next;omega)
  exact k.toExt e0 fun i hi=>by have:=eQ.next;omega
 obtain ⟨F,hF⟩:∃ F,fuelN f=F:=⟨_,rfl⟩
 have hFl:F≤4096:=hF▸fuelN_le f
 have hfu:max 0 (min f 4096)=(F:Nat):=hF▸fuel_ok f
 obtain ⟨O,hO⟩:∃ O,runE t l f=O:=⟨_,rfl⟩
 have hO2:runF t ns F 0 0 rs0=O:=by
  rw[← hO]
  unfold runE
  rw[if_neg (fun hh=>hh hz),hns,hF]
 rw[hO]at hR
 simp -implicitDefEqProofs (disch:=first|omega|simp only[go_sem]) only[go_sem,true_and,f2,min_i64,maxR_i64,hfu]
 refine xloop (σ:=Nat × Nat × RS) (by kernel_rfl) (fun a s=>s.df=[]∧s.rd=none∧s.fr 2=some (.int .i64 (F:Nat))∧s.fr 6=some (.pointer (some ⟨H1.next,0,none⟩))∧s.fr 7=some w∧s.fr 9=some (.pointer (some ⟨M3.next,0,none⟩))∧s.fr 14=some (.int .i64 (a.1:Nat))∧RunI Z s.h M3.next Q1.next M1.next M2.next t vc va vr vw a.2.2 (a.2.1:Nat)∧a.1≤F∧a.2.1≤L.length∧a.2.2.w.length≤a.1∧runF t ns (F - a.1) (posN t a.2.1) a.1 a.2.2=O) (fun a=>F - a.1) (0,0,rs0) ?_ ?_
 ·simp -implicitDefEqProofs (disch:=first|omega|simp only[go_sem]) only[go_sem,true_and,f6,f7,f9]
  exact ⟨by trivial,I0,Nat.zero_le _,Nat.zero_le _,Nat.le_refl _,by rw[code_zero hdec];exact hO2⟩
 clear f2 f6 f7 f9
 rintro ⟨k,i,st⟩ ⟨fr,df,K,rd⟩ K' hK' hX ⟨rfl,rfl,f2,f6,f7,f9,f14,I,hk,hi,hwl,hrun⟩
 simp only at f2 f6 f7 f9 f14 I hk hi hwl hrun
 obtain ⟨vo,ow,gb,oo,how⟩:=I.row
 have l8:=I.len
 have c17:cellAt K M3.next 17=some (.int .i64 (i:Nat)):=(cellAt_row gb).trans (runL_tail l8).2.2.2.1
 have hbK:M3.next<K.next:=Nat.lt_of_lt_of_le C.lb I.kp.next
 simp -implicitDefEqProofs (disch:=first|omega|simp only[go_sem]) only[go_sem,true_and,f7,f9,c17,elw]
 refine XIf_dec (fun hc1=>?_) (fun hc1=>?_)
 ·have hil:i<L.length:=by omega
  obtain ⟨y,hy⟩:∃ y,L[i]? = some y:=⟨_,List.getElem?_eq_getElem hil⟩
  have hy':(decL t.code)[i]? = some y:=by rw[hL];exact hy
  obtain ⟨hp1,hp2,hp3,hp4,hp5⟩:=code_at hdec hy'
  have hiok:=ins_ok hz hby hy'
  have hjmp:jumpsB y.op=true→∃ (i:Nat) (z:Instr),L[i]? = some z∧z.pos=y.imm:=fun hj=>by
   obtain ⟨i',z,q1,q2,_⟩:=code_jump hdec (List.mem_of_getElem? hy') hj
   rw[hL]at q1
   exact ⟨i',z,q1,q2⟩
  by_cases hkF:k=F
  ·have hkF':=eq_true (show ((k:Nat):Int)=(F:Nat) by omega)
   obtain ⟨K3,s1,s2,o,rfl⟩:=res K 2 k nilV0 nilV0 rfl rfl rfl (rZ K I.kp)
   simp -implicitDefEqProofs (disch:=first|omega|simp only[go_sem]) only[go_sem,true_and,f2,f6,f14,hkF',bd_o2,s1]
   refine hX _ _ (by simp) ?_
   simp -implicitDefEqProofs (disch:=first|omega|simp only[go_sem]) only[go_sem,true_and,f6,dResults_c1,dResC_some,s2]
   refine ⟨_,rfl,?_⟩
   rw[← hR]
   refine RunR.none ((eZ K I.kp).set (by omega)) ?_
   rw[← hrun,hkF,Nat.sub_self]
   exact runF_fuel hp1
  have hkF':¬ ((k:Nat):Int)=(F:Nat):=by omega
  have hw1:=wrap_succ (i:=k) (n:=F) (by omega) (by omega)
  have hw2:=wrap_succ hil (by omega)
  obtain ⟨id1,o1,q1,hid1,hat1⟩:=(hwZ K I.kp).idx (P:=Try.prog) (t:=74) el_74 (k:=.i64) (i:=i) (x:=y) hy
  have l1:cellsAt K id1 o1 5=some (instrV y):=hat1.flat.2.1
  obtain ⟨K1,hK1⟩:∃ H,H=K.push (.row (fInstr.enc y) 0 false):=⟨_,rfl⟩
  have eK1:Ext K K1:=by rw[hK1];exact Ext.push1 _ _
  have gK1:K1.get K.next=some (.row (fInstr.enc y) 0 false):=by rw[hK1];exact get_push_same _ _
  have hst:dStore Try.prog 83 (.pointer (some ⟨K.next,0,none⟩)) (instrV y) (K.push (.row [.int .i64 0,.int .i64 0,.int .i64 0,.int .i64 0,.int .i64 0] 0 false))=some K1:=by
   rw[hK1]
   exact (st_83 rfl).trans store5
  have I1:=I.ext C eK1
  have gb1:K1.get M3.next=some (.row (runL t vc va vr vw st.reg Q1.next M1.next M2.next vo (i:Nat)) 0 false):=(eK1.get _ hbK).trans gb
  have c17':cellAt K1 M3.next 17=some (.int .i64 (i:Nat)):=(cellAt_row gb1).trans (runL_tail l8).2.2.2.1
  obtain ⟨K2,hK2⟩:∃ H,K1.set M3.next (.row (runL t vc va vr vw st.reg Q1.next M1.next M2.next vo ((i+1:Nat):Int)) 0 false)=H:=⟨_,rfl⟩
  have I2:=hK2▸I1.pc' C gb1 ((i+1:Nat):Int)
  have hst2:storeAt K1 M3.next 17 [.int .i64 ((i+1:Nat):Int)]=some K2:=by
   rw[storeAt_row gb1 (by rw[runL_len l8];exact Nat.le_of_ble_eq_true rfl) rfl,runL_setPc l8,hK2]
  have lx:cellsAt K2 K.next 0 5=some (instrV y):=by
   rw[← hK2,cellsAt_row ((get_set_other _ _ (by omega)).trans gK1) (Nat.le_of_ble_eq_true rfl)]
   rfl
  simp -implicitDefEqProofs (disch:=first|omega|simp only[go_sem]) only[go_sem,true_and,f2,f7,f9,f14,hkF',hw1,c17,q1,l1,hst,c17',hw2,hst2,lx]
  refine ncall_ct (step_c C I2 hiok hjmp) ?_
  rintro r N ⟨rfl,pc',I3,j1,j2⟩
  have hpos:∀ e,(stepE t ns y st)=e→(stepE t ns (oneI t.code (posN t i)) st)=e:=fun e he=>by rw[← hp2];exact he
  have hwl3:=stepE_wlen (t:=t) (m:=ns) (x:=y) (s:=st)
  have hFk:F - k=(F - (k+1))+1:=by omega
  obtain ⟨e,s',jo,hE⟩:∃ e s' jo,stepE t ns y st=(e,s',jo):=⟨_,_,_,rfl⟩
  have hE':=hpos _ hE
  rw[hE]at I3 j1 j2 hwl3 ⊢
  simp only at I3 j1 j2 hwl3
  by_cases hm1:e=-1
  ·have hm1':=eq_true hm1
   simp -implicitDefEqProofs (disch:=first|omega|simp only[go_sem]) only[go_sem,true_and,XEnd,hm1']
   obtain ⟨i',hi',hpi'⟩:∃ i':Nat,pc'=(i':Nat)∧i'≤L.length∧(jo.getD ((posN t i:Nat)+sizeI (t.code.getD (posN t i) 0))).toNat=posN t i':=by
    cases jo with
    | none=>exact ⟨i+1,j1 rfl,by omega,hp5⟩
    | some a=>
      obtain ⟨i',z,hz1,hz2,hz3⟩:=j2 a rfl
      refine ⟨i',hz3,Nat.le_of_lt (List.getElem?_eq_some_iff.1 hz1).1,?_⟩
      have hz1':(decL t.code)[i']? = some z:=by rw[hL];exact hz1
      obtain ⟨_,_,q,_,_⟩:=code_at hdec hz1'
      show a.toNat=_
      rw[← hz2,q]
      simp
   subst hi'
   refine hK' (k+1,i',s') _ ?_ (by show F - (k+1)<F - k;omega)
   refine ⟨by trivial,by trivial,(vy f2),(vy f6),(vy f7),(vy f9),vz,I3,by show k+1≤F;omega,hpi'.1,by show s'.w.length≤k+1;omega,?_⟩
   show runF t ns (F - (k+1)) (posN t i') (k+1) s'=O
   rw[← hrun,hFk,runF_go hp1 (by rw[hE'];exact hm1),hE',← hpi'.2]
  by_cases hm0:e=0
  ·subst hm0
   obtain ⟨vo3,ow3,gb3,oo3,how3⟩:=I3.row
   have hst3:storeAt N M3.next 17 [.int .i64 (L.length:Nat)]=some (N.set M3.next (.row (runL t vc va vr vw s'.reg Q1.next M1.next M2.next vo3 (L.length:Nat)) 0 false)):=by
    rw[storeAt_row gb3 (by rw[runL_len I3.len];exact Nat.le_of_ble_eq_true rfl) rfl,runL_setPc I3.len]
   simp -implicitDefEqProofs (disch:=first|omega|simp only[go_sem]) only[go_sem,true_and,XEnd,f7,f9,elw,hst3]
   refine hK' (k+1,L.length,s') _ ?_ (by show F - (k+1)<F - k;omega)
   refine ⟨by trivial,by trivial,(vy f2),(vy f6),(vy f7),(vy f9),vz,I3.pc' C gb3 _,by show k+1≤F;omega,Nat.le_refl _,by show s'.w.length≤k+1;omega,?_⟩
   show runF t ns (F - (k+1)) (posN t L.length) (k+1) s'=O
   rw[runF_end (by rw[code_end (by rw[hL];exact Nat.le_refl _)];exact Nat.le_refl _),← hrun,hFk,runF_halt hp1 (by rw[hE']),hE']
  ·obtain ⟨K3,s1,s2,o,rfl⟩:=res N e ((k+1:Nat):Int) nilV0 nilV0 rfl rfl rfl (rZ N I3.kp)
   simp -implicitDefEqProofs (disch:=first|omega|simp only[go_sem]) only[go_sem,true_and,XEnd,hm1,hm0,f6,bd_o2,s1]
   refine hX _ _ (by simp) ?_
   simp -implicitDefEqProofs (disch:=first|omega|simp only[go_sem]) only[go_sem,true_and,f6,dResults_c1,dResC_some,s2]
   refine ⟨_,rfl,?_⟩
   rw[← hR]
   refine RunR.none ((eZ N I3.kp).set (by omega)) ?_
   rw[← hrun,hFk,runF_stop hp1 (by rw[hE'];exact hm1) (by rw[hE'];exact hm0),hE']
 obtain rfl:i=L.length:=by omega
 refine hX _ _ (by simp) ?_
 have hO3:O=⟨0,st.out,byK Change.k st.w,(k:Nat)⟩:=by
  rw[← hrun]
  exact runF_end (by rw[code_end (by rw[hL];exact Nat.le_refl _)];exact Nat.le_refl _)
 clear hK' hX K' f2 f7
 have c15:cellAt K M3.next 15=some (.map (some M1.next)):=(cellAt_row gb).trans (runL_tail l8).2.1
 have hmK:M1.next<K.next:=Nat.lt_of_lt_of_le C.lm I.kp.next
 obtain ⟨oi,hr0,hr1⟩:=I.mine.range und_mapC hmK
 simp -implicitDefEqProofs (disch:=first|omega|simp only[go_sem]) only[go_sem,true_and,f9,c15,hr0]
 refine xloop (σ:=List Change) (by kernel_rfl) (fun a s=>s.df=[]∧s.rd=none∧s.fr 6=some (.pointer (some ⟨H1.next,0,none⟩))∧s.fr 9=some (.pointer (some ⟨M3.next,0,none⟩))∧s.fr 14=some (.int .i64 (k:Nat))∧s.fr 119=some (.pointer (some ⟨K.next,0,none⟩))∧K.next<s.h.next∧(∃ cv,s.fr 17=some cv∧Made fChange K s.h cv a)∧(a.map Change.k).Nodup∧(∀ c∈a,lastB Change.k st.w c.k=some c)∧RngAt keyV s.h K.next M1.next (putB Change.k chgV st.w) (a.map Change.k).reverse) (fun a=>st.w.length - a.length) [] ?_ ?_
 ·simp -implicitDefEqProofs (disch:=first|omega|simp only[go_sem]) only[go_sem,true_and,f6,f9,f14]
  exact ⟨Nat.lt_succ_self _,⟨_,rfl,.nil _ (Ext.push1 _ _)⟩,.nil,fun c hc=>(by cases hc),hr1⟩
 rintro a ⟨fr,df,N,rd⟩ K' hK' hX ⟨rfl,rfl,f6,f9,f14,f119,hlN,⟨cv,f17,mc⟩,hnd,hla,hrg⟩
 simp only at f6 f9 f14 f119 hlN f17 mc hrg
 obtain ⟨NL,hNL,hall⟩:=hrg.next (fun _=>rfl) (by omega)
 have hal:a.length≤st.w.length:=by
  have h1:=nodup_len (b:=st.w.map Change.k) hnd (fun k hk=>by
   obtain ⟨c,hc,rfl⟩:=List.mem_map.1 hk
   exact List.mem_map.2 ⟨c,(lastB_some (hla c hc)).1,rfl⟩)
  simpa using h1
 simp -implicitDefEqProofs (disch:=first|omega|simp only[go_sem]) only[go_sem,true_and,f119,hNL]
 intro pp hpp
 rcases hall pp hpp with ⟨rfl,hd⟩ | ⟨ck,cvv,o2,hk',hnk,rfl,hent,hr2⟩
 ·simp -implicitDefEqProofs (disch:=first|omega|simp only[go_sem]) only[go_sem,true_and]
  refine hX _ _ (by simp) ?_
  have eKN:=mc.ext
  have gbN:N.get M3.next=some (.row (runL t vc va vr vw st.reg Q1.next M1.next M2.next vo (L.length:Nat)) 0 false):=(eKN.get _ hbK).trans gb
  have c16:∀ N',Ext N N'→cellAt N' M3.next 16=some vo:=fun N' e=>(cellAt_row ((e.get _ (by omega)).trans gbN)).trans (runL_tail l8).2.2.1
  have hlast:byK Change.k a=byK Change.k st.w:=byK_last hnd hla fun k hk=>by
   have:=hd k ((mem_putB st.w k).2 hk)
   simpa using this
  have hvo:vo.cells=#[vo]:=oo.sl.cells1
  simp -implicitDefEqProofs (disch:=first|omega|simp only[go_sem]) only[go_sem,true_and]
  refine yr_13_2 rfl ?_
  simp -implicitDefEqProofs (disch:=first|omega|simp only[go_sem]) only[go_sem,true_and,g13_2,q13_2,f9,f14,f17,c16 N (.refl _)]
  refine ycall_ct (changes_c mc.arg (by omega)) ?_
  rintro r N2 ⟨w2,rfl,m2⟩
  have hw2:w2.cells=#[w2]:=m2.sl.cells1
  have hone:[Value.int .i64 0,vo,w2,.int .i64 (k:Nat)].all Value.oneCell'=true:=by
   obtain ⟨_,_,rfl⟩:=oo.sl.isSlice
   obtain ⟨_,_,rfl⟩:=m2.sl.isSlice
   rfl
  have eN:=m2.ext
  obtain ⟨K3,s1,s2,o,rfl⟩:=res N2 0 (k:Nat) vo w2 hvo hw2 hone ((eN.get _ (by have:=I.kp.next;have:=eKN.next;have:=eQ1.next;omega)).trans ((eKN.get _ (by have:=I.kp.next;have:=eQ1.next;omega)).trans (rZ K I.kp)))
  simp -implicitDefEqProofs (disch:=first|omega|simp only[go_sem]) only[go_sem,true_and,YEnd,c16 N2 eN,bd_o4 hvo hw2,f6,s1]
  simp -implicitDefEqProofs (disch:=first|omega|simp only[go_sem]) only[go_sem,true_and,dResults_c1,dResC_some,f6,s2]
  refine ⟨_,rfl,?_⟩
  rw[← hR,hO3]
  have ehK:Ext h K:=eZ K I.kp
  have ehN2:Ext h N2:=(ehK.trans eKN).trans eN
  have hH1:h.next≤H1.next:=by omega
  have eset:Ext h (N2.set H1.next o):=ehN2.set hH1
  have h1Z:H1.next<Z.next:=by have:=eQ1.next;omega
  refine ⟨_,_,rfl,⟨eset,ow,oo.mono (by show K.next≤N2.next;exact Nat.le_trans eKN.next eN.next) (fun i hi=>?_) (fun i hi=>hi.elim),fun i hi=>?_⟩,?_⟩
  ·have h1:=how i hi
   have h2:=oo.lt i hi
   rw[get_set_other _ _ (by omega)]
   exact (eN.get _ (Nat.lt_of_lt_of_le h2 eKN.next)).trans (eKN.get _ h2)
  ·have:=how i hi
   have:=eQ.next
   omega
  ·rw[hlast]at m2
   obtain ⟨w3,p1,p2⟩:=m2.own
   refine ⟨eset,w3,p1.mono (Nat.le_refl _) (fun i hi=>get_set_other _ _ ?_) (fun i hi=>hi.elim),fun i hi=>?_⟩
   ·have:=p2 i hi
    have:=I.kp.next
    have:=eKN.next
    omega
   ·have:=p2 i hi
    have:=eKN.next
    have:=ehK.next
    omega
 ·obtain ⟨c,hc,hcv⟩:∃ c,lastB Change.k st.w ck=some c∧cvv=chgV c:=by
   have:=(mget_mem (putB_nodup st.w)).2 hk'
   rw[mget_putB]at this
   cases hq:lastB Change.k st.w ck with
   | none=>rw[hq]at this;cases this
   | some c=>
     rw[hq]at this
     exact ⟨c,rfl,(Option.some.inj this).symm⟩
  subst hcv
  have hck:=(lastB_some hc).2
  subst hck
  obtain ⟨N1,hN1⟩:∃ H,H=N.set K.next o2:=⟨_,rfl⟩
  rw[← hN1]at hent hr2
  have hN1n:N1.next=N.next:=by rw[hN1];rfl
  have mc1:Made fChange K N1 cv a:=by
   rw[hN1]
   obtain ⟨es,cc,seen,q1,q2,_⟩:=hrg
   exact mc.setX (fun cs e=>by rw[q2]at e;cases e) (Nat.le_refl _)
  obtain ⟨N2,hN2⟩:∃ H,H=N1.push (.row [.int .i32 c.k.t,.int .i64 c.k.r,.int .i64 c.v,.bool c.e] 0 false):=⟨_,rfl⟩
  have eN2:Ext N1 N2:=by rw[hN2];exact Ext.push1 _ _
  have hN2n:N2.next=N.next+1:=by rw[hN2,next_push,hN1n]
  have gN2:N2.get N1.next=some (.row [.int .i32 c.k.t,.int .i64 c.k.r,.int .i64 c.v,.bool c.e] 0 false):=by rw[hN2];exact get_push_same _ _
  have lc2:cellsAt N2 N1.next 0 4=some (chgV c):=by rw[cellsAt_row gN2 (Nat.le_of_ble_eq_true rfl)];rfl
  have hst:dStore Try.prog 51 (.pointer (some ⟨N1.next,0,none⟩)) (.agg #[.int .i32 c.k.t,.int .i64 c.k.r,.int .i64 c.v,.bool c.e]) (N1.push (.row [.int .i32 0,.int .i64 0,.int .i64 0,.bool false] 0 false))=some N2:=by
   rw[hN2]
   exact (st_51 rfl).trans (storeAll_push rfl rfl)
  have hwokc:=I.wok c (lastB_some hc).1
  have hnk2:c.k∉a.map Change.k:=fun hh=>hnk (List.mem_reverse.2 hh)
  have hal2:a.length+1≤st.w.length:=by
   have h1:=nodup_len (a:=c.k :: a.map Change.k) (b:=st.w.map Change.k) (List.nodup_cons.2 ⟨hnk2,hnd⟩) (fun k hk=>by
    rcases List.mem_cons.1 hk with rfl | hk
    ·exact List.mem_map.2 ⟨c,(lastB_some hc).1,rfl⟩
    ·obtain ⟨d,hd,rfl⟩:=List.mem_map.1 hk
     exact List.mem_map.2 ⟨d,(lastB_some (hla d hd)).1,rfl⟩)
   simpa using h1
  obtain ⟨cv',N3,e6,m6,n6,k6⟩:=(mc1.on eN2).snocX app_30 (y:=c) (cs:=[.int .i32 c.k.t,.int .i64 c.k.r,.int .i64 c.v,.bool c.e]) (z:=4) rfl rfl (by decide) hwokc (by omega) (by decide)
  have hr3:RngAt keyV N2 K.next M1.next (putB Change.k chgV st.w) (c.k :: (a.map Change.k).reverse):=hr2.keep (eN2.get _ (by omega)) (eN2.get _ (by omega))
  have hr4:RngAt keyV N3 K.next M1.next (putB Change.k chgV st.w) (c.k :: (a.map Change.k).reverse):=by
   have hr3':=hr3
   obtain ⟨es,cc,seen,q1,q2,_⟩:=hr3'
   exact RngAt.keep hr3 (k6 _ (by omega) (.map q1)) (k6 _ (by omega) (fun cs e=>by rw[q2]at e;cases e))
  simp -implicitDefEqProofs (disch:=first|omega|simp only[go_sem]) only[go_sem,true_and,← hN1,f119,f17,hent,hst,lc2,e6]
  refine hK' (a++[c]) _ ?_ (by rw[List.length_append];simp;omega)
  refine ⟨by trivial,by trivial,(vy f6),(vy f9),(vy f14),(vy f119),show K.next<N3.next by omega,⟨cv',vz,m6⟩,?_,fun d hd=>?_,?_⟩
  ·rw[List.map_append]
   refine List.nodup_append.2 ⟨hnd,by simp,fun p hp q hq=>?_⟩
   simp only[List.map_cons,List.map_nil,List.mem_singleton]at hq
   subst hq
   exact fun e=>hnk2 (e▸hp)
  ·rcases List.mem_append.1 hd with hd | hd
   ·exact hla d hd
   ·rw[List.mem_singleton.1 hd]
    exact hc
  ·rw[List.map_append,List.reverse_append]
   exact hr4
end Go.Proofs.Ythjmkmoiopmfcaa

namespace Go.Proofs.Ythjmkmoiopmfcaa
open Go.D
set_option maxRecDepth 100000
def smallT:Txn:=⟨1,1,[1,0,7,0,5,0,0,3,1,0,24,1],[],[⟨1,2⟩],[⟨1,2⟩]⟩
abbrev u8V (n:Int):Value:=.int .u8 n
abbrev codeV:List Value:=[u8V 1,u8V 0,u8V 7,u8V 0,u8V 5,u8V 0,u8V 0,u8V 3,u8V 1,u8V 0,u8V 24,u8V 1]
theorem bs_code {h:DHeap}:dBuildSlice Try.prog 22 12 [(0,u8V 1),(1,u8V 0),(2,u8V 7),(3,u8V 0),(4,u8V 5),(5,u8V 0),(6,u8V 0),(7,u8V 3),(8,u8V 1),(9,u8V 0),(10,u8V 24),(11,u8V 1)] h=some (.slice (some ⟨h.next,0,none⟩) 12 12,h.push (.row codeV 1 false)):=
 dBuildSlice_all (h:=h) (vs:=codeV) bsl_22 (by decide) (fun v hv=>by
  simp only[codeV,List.mem_cons,List.not_mem_nil,or_false]at hv
  rcases hv with rfl | rfl | rfl | rfl | rfl | rfl | rfl | rfl | rfl | rfl | rfl | rfl <;> rfl) (by decide)
theorem bd_small {vc vr:Value} (hc:vc.cells=#[vc]) (hr:vr.cells=#[vr]):dBuild Try.prog 26 [(0,.int .i64 1),(1,.int .i64 1),(2,vc),(4,vr),(5,vr)]=some (txnV 1 1 vc nilV0 vr vr):=dBuild_at plc_26 (by simp[fillL,hc,hr,setAt,cells_int])
theorem smallT_c {h:DHeap}:Ct Try.prog 36 [] h fun r h1=>∃ vc vr,r=.ret (txnV 1 1 vc nilV0 vr vr)∧Ext h h1∧TxV (InH h1) h1 smallT vc nilV0 vr vr:=by
 refine go_36 (by simp) ?_
 obtain ⟨H1,hH1⟩:∃ H,h.push (.row [.int .i64 0,.int .i64 0,nilV0,nilV0,nilV0,nilV0] 0 false)=H:=⟨_,rfl⟩
 obtain ⟨H2,hH2⟩:∃ H,H1.push (.row [.int .i32 1,.int .i64 2] 2 false)=H:=⟨_,rfl⟩
 obtain ⟨H3,hH3⟩:∃ H,H2.push (.row codeV 1 false)=H:=⟨_,rfl⟩
 have n1:H1.next=h.next+1:=by rw[← hH1];rfl
 have n2:H2.next=h.next+2:=by rw[← hH2,next_push,n1]
 have n3:H3.next=h.next+3:=by rw[← hH3,next_push,n2]
 have e1:Ext h H1:=hH1▸Ext.push1 _ _
 have e2:Ext H1 H2:=hH2▸Ext.push1 _ _
 have e3:Ext H2 H3:=hH3▸Ext.push1 _ _
 have g1:H3.get h.next=some (.row [.int .i64 0,.int .i64 0,nilV0,nilV0,nilV0,nilV0] 0 false):=(e3.get _ (by omega)).trans ((e2.get _ (by omega)).trans (by rw[← hH1];exact get_push_same _ _))
 have g2:H3.get H1.next=some (.row [.int .i32 1,.int .i64 2] 2 false):=(e3.get _ (by omega)).trans (by rw[← hH2];exact get_push_same _ _)
 have g3:H3.get H2.next=some (.row codeV 1 false):=by rw[← hH3];exact get_push_same _ _
 have hk:dBuild Try.prog 44 [(0,.int .i32 1),(1,.int .i64 2)]=some (keyV ⟨1,2⟩):=bd_keyK
 obtain ⟨H4,hH4⟩:∃ H,H3.set h.next (.row [.int .i64 1,.int .i64 1,.slice (some ⟨H2.next,0,none⟩) 12 12,nilV0,.slice (some ⟨H1.next,0,none⟩) 1 1,.slice (some ⟨H1.next,0,none⟩) 1 1] 0 false)=H:=⟨_,rfl⟩
 have st:storeAt H3 h.next 0 [.int .i64 1,.int .i64 1,.slice (some ⟨H2.next,0,none⟩) 12 12,nilV0,.slice (some ⟨H1.next,0,none⟩) 1 1,.slice (some ⟨H1.next,0,none⟩) 1 1]=some H4:=by
  rw[← hH4]
  exact storeAt_row g1 (Nat.le_of_ble_eq_true rfl) rfl
 have l4:cellsAt H4 h.next 0 6=some (txnV 1 1 (.slice (some ⟨H2.next,0,none⟩) 12 12) nilV0 (.slice (some ⟨H1.next,0,none⟩) 1 1) (.slice (some ⟨H1.next,0,none⟩) 1 1)):=by
  rw[← hH4,cellsAt_row (get_set_same _ _) (Nat.le_of_ble_eq_true rfl)]
  rfl
 have n4:H4.next=h.next+3:=by rw[← hH4];exact n3
 have g24:H4.get H1.next=some (.row [.int .i32 1,.int .i64 2] 2 false):=by rw[← hH4];exact (get_set_other _ _ (by omega)).trans g2
 have g34:H4.get H2.next=some (.row codeV 1 false):=by rw[← hH4];exact (get_set_other _ _ (by omega)).trans g3
 have sr:Arg fKey.rep H4 (.slice (some ⟨H1.next,0,none⟩) 1 1) [⟨1,2⟩]:=.inr ⟨H1.next,0,1,_,2,false,rfl,by omega,g24,.inr rfl,Nat.le_of_ble_eq_true rfl,Els.flat.2 ⟨rfl,fun x hx=>by
  rw[List.mem_singleton.1 hx]
  exact ⟨inK_i32.2 ⟨by decide,by decide⟩,inK_i64.2 ⟨by decide,by decide⟩⟩⟩⟩
 have sc:Arg fU8.rep H4 (.slice (some ⟨H2.next,0,none⟩) 12 12) smallT.code:=.inr ⟨H2.next,0,12,_,1,false,rfl,by omega,g34,.inr rfl,Nat.le_of_ble_eq_true rfl,Els.flat.2 ⟨rfl,fun x hx=>by
  have:0≤x∧x≤255:=by
   simp only[smallT,List.mem_cons,List.not_mem_nil,or_false]at hx
   omega
  exact inK_u8.2 this⟩⟩
 have hbd:=bd_small (vc:=.slice (some ⟨H2.next,0,none⟩) 12 12) (vr:=.slice (some ⟨H1.next,0,none⟩) 1 1) rfl rfl
 simp -implicitDefEqProofs (disch:=first|omega|simp only[go_sem]) only[go_sem,true_and,c36,hH1,hk,hH2,bs_code,hH3,hbd,st,dResults_c1,dResC_some,l4]
 exact ⟨_,rfl,_,_,rfl,by rw[← hH4];exact ((e1.trans e2).trans e3).set (Nat.le_refl _),⟨sc,.nil _ _ _,sr,sr⟩⟩
theorem small_run:(runE smallT [] 9).e=0∧(runE smallT [] 9).vs=[7]∧(runE smallT [] 9).ch=[⟨⟨1,2⟩,7,false⟩]∧(runE smallT [] 9).s=4:=by decide +kernel
theorem begun_c {h:DHeap}:DC Try.prog 11 [] h (.ret (.bool true)) h:=by
 refine Ct.pure (go_11 (by simp) ?_) (vin_bool _)
 simp -implicitDefEqProofs (disch:=first|omega|simp only[go_sem]) only[go_sem,true_and,c11]
 refine ncall_ct smallT_c ?_
 rintro r H ⟨vc,vr,rfl,hE,x⟩
 simp -implicitDefEqProofs (disch:=first|omega|simp only[go_sem]) only[go_sem,true_and,XEnd]
 have hT:TxLen smallT:=⟨by decide,by decide,by decide,by decide⟩
 refine ncall_ct (run_c (t:=smallT) (l:=[]) x hT (.nil _ _ _) (by decide)) ?_
 rintro r K ⟨vv,cv,rfl,mv,mc⟩
 obtain ⟨s1,s2,s3,s4⟩:=small_run
 rw[s2]at mv
 rw[s3]at mc
 rw[s1,s4]
 have hvv:=mv.sl.cells1
 have hcv:=mc.sl.cells1
 have hone:[Value.int .i64 0,vv,cv,.int .i64 4].all Value.oneCell'=true:=by
  obtain ⟨_,_,rfl⟩:=mv.sl.isSlice
  obtain ⟨_,_,rfl⟩:=mc.sl.isSlice
  rfl
 obtain ⟨K1,hK1⟩:∃ H,K.push (.row [.int .i64 0,vv,cv,.int .i64 4] 0 false)=H:=⟨_,rfl⟩
 have hst:dStore Try.prog 32 (.pointer (some ⟨K.next,0,none⟩)) (.agg #[.int .i64 0,vv,cv,.int .i64 4]) (K.push (.row [.int .i64 0,nilV0,nilV0,.int .i64 0] 0 false))=some K1:=by
  rw[← hK1]
  exact (st_32 rfl).trans (storeAll_push rfl hone)
 have eK:Ext K K1:=hK1▸Ext.push1 _ _
 have gK:K1.get K.next=some (.row [.int .i64 0,vv,cv,.int .i64 4] 0 false):=by rw[← hK1];exact get_push_same _ _
 obtain ⟨K2,hK2⟩:∃ H,K1.push (.row [.int .i64 7] 1 false)=H:=⟨_,rfl⟩
 have eK2:Ext K1 K2:=hK2▸Ext.push1 _ _
 have hn:K.next<K1.next:=by rw[← hK1];exact Nat.lt_succ_self _
 have c0:cellAt K1 K.next 0=some (.int .i64 0):=cellAt_row gK
 have c1:cellAt K1 K.next 1=some vv:=cellAt_row gK
 have gK2:=(eK2.get _ hn).trans gK
 have c2:cellAt K2 K.next 2=some cv:=cellAt_row gK2
 have c3:cellAt K2 K.next 3=some (.int .i64 4):=cellAt_row gK2
 have a7:Arg fI64.rep K2 (.slice (some ⟨K1.next,0,none⟩) 1 1) [7]:=.inr ⟨K1.next,0,1,_,1,false,rfl,by rw[← hK2];exact Nat.lt_succ_self _,by rw[← hK2];exact get_push_same _ _,.inr rfl,Nat.le_of_ble_eq_true rfl,Els.flat.2 ⟨rfl,fun x hx=>by
  rw[List.mem_singleton.1 hx]
  exact inK_i64.2 ⟨by decide,by decide⟩⟩⟩
 have mv2:Arg fI64.rep K2 vv [7]:=(mv.arg.ext eK).ext eK2
 have mc2:Arg fChange.rep K2 cv [⟨⟨1,2⟩,7,false⟩]:=(mc.arg.ext eK).ext eK2
 have lcv:∀ K,dLen Try.prog #[30] cv K=some (.int .i64 1):=mc2.lens (P:=Try.prog) (ts:=#[30]) (t:=30) rfl isl_30
 obtain ⟨id,o,i1,_,hat⟩:=mc2.idx (P:=Try.prog) (t:=30) el_30 (k:=.i64) (i:=0) (x:=⟨⟨1,2⟩,7,false⟩) rfl
 have i1':dIndexAddr Try.prog 30 cv (.int .i64 0)=some (.pointer (some ⟨id,o,none⟩)):=i1
 have v1:cellAt K2 id (o+2)=some (.int .i64 7):=hat.flat.1 2 (by decide)
 simp -implicitDefEqProofs (disch:=first|omega|simp only[go_sem]) only[go_sem,true_and,XEnd,hst,c0,c1,hK2]
 refine ncall (eqInts_c mv2 a7 (by decide)) ?_
 have hs:sameL (fun a b:Int=>decide (a=b)) [7] [7]=true:=by decide
 simp -implicitDefEqProofs (disch:=first|omega|simp only[go_sem]) only[go_sem,true_and,hs,dPick_t,c2,lcv,i1',v1,c3]
 exact ⟨_,rfl,rfl,((hE.trans mv.ext).trans eK).trans eK2⟩
end Go.Proofs.Ythjmkmoiopmfcaa

namespace Go.Proofs.Ythjmkmoiopmfcaa
open Go.D
set_option maxRecDepth 100000
end Go.Proofs.Ythjmkmoiopmfcaa

namespace Go.Proofs.Ythjmkmoiopmfcaa
open Go.D
set_option maxRecDepth 100000
theorem fld_pair:fldsOf Try.prog 46=some [(44,0),(2,2)]:=by kernel_rfl
theorem fld_chg:fldsOf Try.prog 51=some [(44,0),(2,2),(4,3)]:=by kernel_rfl
theorem grd_pair:Try.prog.eqGuardType Try.prog.depth 46=false:=by kernel_rfl
theorem grd_chg:Try.prog.eqGuardType Try.prog.depth 51=false:=by kernel_rfl
theorem und_bool:Try.prog.underlying 4=some .bool:=by kernel_rfl
theorem Pair.ext_iff' {a b:Pair}:a=b↔a.k=b.k∧a.v=b.v:=by cases a;cases b;simp
theorem Change.ext_iff' {a b:Change}:a=b↔a.k=b.k∧a.v=b.v∧a.e=b.e:=by cases a;cases b;simp
theorem pair_eq (d:Nat) (a b:Pair):quick Try.prog (Op.equalIn (d+1+1+1) 46 (pairV a) (pairV b))=some (.inr (decide (a=b))):=by
 refine quick_struct fld_pair ⟨keyV a.k,keyV b.k,_,_,(quick_part_agg agg_44).trans rfl,(quick_part_agg agg_44).trans rfl,key_eq d a.k b.k,⟨_,_,_,_,quick_part_one one_2 rfl,quick_part_one one_2 rfl,quick_int und_i64,rfl,rfl⟩,?_⟩
 rw[decide_eq_decide.2 Pair.ext_iff',Bool.decide_and,Bool.and_true]
 rfl
theorem chg_eq (d:Nat) (a b:Change):quick Try.prog (Op.equalIn (d+1+1+1) 51 (chgV a) (chgV b))=some (.inr (decide (a=b))):=by
 refine quick_struct fld_chg ⟨keyV a.k,keyV b.k,_,_,(quick_part_agg agg_44).trans rfl,(quick_part_agg agg_44).trans rfl,key_eq d a.k b.k,⟨_,_,_,_,quick_part_one one_2 rfl,quick_part_one one_2 rfl,quick_int und_i64,
  ⟨_,_,_,_,quick_part_one one_4 rfl,quick_part_one one_4 rfl,quick_bool und_bool,rfl,rfl⟩,rfl⟩,?_⟩
 have hb:decide (a.e=b.e)=(a.e==b.e):=by cases a.e <;> cases b.e <;> rfl
 rw[decide_eq_decide.2 Change.ext_iff',Bool.decide_and,Bool.decide_and,Bool.and_true,hb]
 rfl
theorem bin_pair {a b:Pair} {h:DHeap} {ox oy:Operand}:dBinOp Try.prog .neq 46 ox oy (pairV a) (pairV b) h=.ok (.value (.bool (!decide (a=b)))) h:=(bin_agg rfl rfl grd_pair (pair_eq 9997 a b)).2
theorem bin_chg {a b:Change} {h:DHeap} {ox oy:Operand}:dBinOp Try.prog .neq 51 ox oy (chgV a) (chgV b) h=.ok (.value (.bool (!decide (a=b)))) h:=(bin_agg rfl rfl grd_chg (chg_eq 9997 a b)).2
theorem sameL_dec {α:Type} [DecidableEq α]:∀ {l m:List α},sameL (fun a b=>decide (a=b)) l m=decide (l=m)
 | [],[]=>by simp[sameL]
 | [],b :: m=>by simp[sameL]
 | a :: l,[]=>by simp[sameL]
 | a :: l,b :: m=>by
   simp only[sameL,sameL_dec (l:=l) (m:=m)]
   rw[← Bool.decide_and]
   exact decide_eq_decide.2 ⟨fun h=>by rw[h.1,h.2],fun h=>List.cons.inj h⟩
theorem eqChg_c {h:DHeap} {a b:Value} {l m:List Change} (ha:Arg fChange.rep h a l) (hb:Arg fChange.rep h b m) (hlen:l.length≤4294967296) :
 DC Try.prog 25 [a,b] h (.ret (.bool (decide (l=m)))) h:=by
 rw[← sameL_dec]
 refine Ct.pure (go_25 (by simp) ?_) (vin_bool _)
 have ea:∀ K,dLen Try.prog #[30] a K=some (.int .i64 (l.length:Nat)):=ha.lens (P:=Try.prog) (ts:=#[30]) (t:=30) rfl isl_30
 have eb:∀ K,dLen Try.prog #[30] b K=some (.int .i64 (m.length:Nat)):=hb.lens (P:=Try.prog) (ts:=#[30]) (t:=30) rfl isl_30
 by_cases hl:l.length=m.length
 case neg=>
  have hli:¬ ((l.length:Nat):Int)=(m.length:Nat):=by omega
  simp -implicitDefEqProofs (disch:=first|omega|simp only[go_sem]) only[go_sem,true_and,c25,ea,eb,hli]
  exact ⟨_,rfl,by rw[sameL_len hl],.refl h⟩
 have hli:((l.length:Nat):Int)=(m.length:Nat):=by omega
 simp -implicitDefEqProofs (disch:=first|omega|simp only[go_sem]) only[go_sem,true_and,c25,ea,eb,hli]
 refine xloop (σ:=Nat) (by kernel_rfl) (fun i s=>s.df=[]∧s.rd=none∧s.h=h∧s.fr 0=some a∧s.fr 1=some b∧s.fr 12=some (.int .i64 (l.length:Nat))∧s.fr 13=some (.int .i64 (i:Nat))∧i≤l.length∧sameL (fun a b:Change=>decide (a=b)) (l.drop i) (m.drop i)=sameL (fun a b:Change=>decide (a=b)) l m) (fun i=>l.length - i) 0 ?_ ?_
 ·simp -implicitDefEqProofs (disch:=first|omega|simp only[go_sem]) only[go_sem,true_and,hli]
  exact ⟨by trivial,Nat.zero_le _,by rw[List.drop_zero,List.drop_zero]⟩
 ·rintro i ⟨fr,df,hh,rd⟩ K hK hX ⟨rfl,rfl,rfl,f0,f1,f12,f13,hi,ho⟩
  simp only at f0 f1 f12 f13
  simp -implicitDefEqProofs (disch:=first|omega|simp only[go_sem]) only[go_sem,true_and,f0,f1,f12,f13]
  refine XIf_dec (fun hc1=>?_) (fun hc1=>?_)
  ·have hj:i<l.length:=by omega
   have hk:i<m.length:=by omega
   obtain ⟨id1,o1,e1,_,hat1⟩:=ha.idx (P:=Try.prog) (t:=30) el_30 (k:=.i64) (i:=i) (x:=l[i]) (by simp)
   obtain ⟨id2,o2,e2,_,hat2⟩:=hb.idx (P:=Try.prog) (t:=30) el_30 (k:=.i64) (i:=i) (x:=m[i]) (by simp)
   have hw:=wrap_succ hj (by omega)
   have l1:cellsAt hh id1 o1 4=some (chgV l[i]):=hat1.flat.2.1
   have l2:cellsAt hh id2 o2 4=some (chgV m[i]):=hat2.flat.2.1
   rw[sameL_drop hj hk]at ho
   simp -implicitDefEqProofs (disch:=first|omega|simp only[go_sem]) only[go_sem,true_and,f13]
   refine yr_25_0 rfl ?_
   by_cases hlt:l[i]=m[i]
   ·rw[decide_eq_true hlt,Bool.true_and]at ho
    simp -implicitDefEqProofs (disch:=first|omega|simp only[go_sem]) only[go_sem,true_and,g25_0,q25_0,f0,f1,f13,e1,e2,l1,l2,bin_chg,hlt,hw]
    refine hK (i+1) _ ?_ (by omega)
    exact ⟨by trivial,by trivial,by trivial,(vy f0),(vy f1),(vy f12),vz,by omega,ho⟩
   ·rw[decide_eq_false hlt,Bool.false_and]at ho
    simp -implicitDefEqProofs (disch:=first|omega|simp only[go_sem]) only[go_sem,true_and,g25_0,q25_0,f0,f1,f13,e1,e2,l1,l2,bin_chg,hlt]
    refine hX _ _ (by simp) ?_
    simp -implicitDefEqProofs (disch:=first|omega|simp only[go_sem]) only[go_sem,true_and]
    exact ⟨_,rfl,by rw[← ho],.refl hh⟩
  ·obtain rfl:i=l.length:=by omega
   refine hX _ _ (by simp) ?_
   simp -implicitDefEqProofs (disch:=first|omega|simp only[go_sem]) only[go_sem,true_and]
   exact ⟨_,rfl,by rw[← ho,sameL_end hl],.refl hh⟩
theorem eqPair_c {h:DHeap} {a b:Value} {l m:List Pair} (ha:Arg fPair.rep h a l) (hb:Arg fPair.rep h b m) (hlen:l.length≤4294967296) :
 DC Try.prog 28 [a,b] h (.ret (.bool (decide (l=m)))) h:=by
 rw[← sameL_dec]
 refine Ct.pure (go_28 (by simp) ?_) (vin_bool _)
 have ea:∀ K,dLen Try.prog #[27] a K=some (.int .i64 (l.length:Nat)):=ha.lens (P:=Try.prog) (ts:=#[27]) (t:=27) rfl isl_27
 have eb:∀ K,dLen Try.prog #[27] b K=some (.int .i64 (m.length:Nat)):=hb.lens (P:=Try.prog) (ts:=#[27]) (t:=27) rfl isl_27
 by_cases hl:l.length=m.length
 case neg=>
  have hli:¬ ((l.length:Nat):Int)=(m.length:Nat):=by omega
  simp -implicitDefEqProofs (disch:=first|omega|simp only[go_sem]) only[go_sem,true_and,c28,ea,eb,hli]
  exact ⟨_,rfl,by rw[sameL_len hl],.refl h⟩
 have hli:((l.length:Nat):Int)=(m.length:Nat):=by omega
 simp -implicitDefEqProofs (disch:=first|omega|simp only[go_sem]) only[go_sem,true_and,c28,ea,eb,hli]
 refine xloop (σ:=Nat) (by kernel_rfl) (fun i s=>s.df=[]∧s.rd=none∧s.h=h∧s.fr 0=some a∧s.fr 1=some b∧s.fr 12=some (.int .i64 (l.length:Nat))∧s.fr 13=some (.int .i64 (i:Nat))∧i≤l.length∧sameL (fun a b:Pair=>decide (a=b)) (l.drop i) (m.drop i)=sameL (fun a b:Pair=>decide (a=b)) l m) (fun i=>l.length - i) 0 ?_ ?_
 ·simp -implicitDefEqProofs (disch:=first|omega|simp only[go_sem]) only[go_sem,true_and,hli]
  exact ⟨by trivial,Nat.zero_le _,by rw[List.drop_zero,List.drop_zero]⟩
 ·rintro i ⟨fr,df,hh,rd⟩ K hK hX ⟨rfl,rfl,rfl,f0,f1,f12,f13,hi,ho⟩
  simp only at f0 f1 f12 f13
  simp -implicitDefEqProofs (disch:=first|omega|simp only[go_sem]) only[go_sem,true_and,f0,f1,f12,f13]
  refine XIf_dec (fun hc1=>?_) (fun hc1=>?_)
  ·have hj:i<l.length:=by omega
   have hk:i<m.length:=by omega
   obtain ⟨id1,o1,e1,_,hat1⟩:=ha.idx (P:=Try.prog) (t:=27) el_27 (k:=.i64) (i:=i) (x:=l[i]) (by simp)
   obtain ⟨id2,o2,e2,_,hat2⟩:=hb.idx (P:=Try.prog) (t:=27) el_27 (k:=.i64) (i:=i) (x:=m[i]) (by simp)
   have hw:=wrap_succ hj (by omega)
   have l1:cellsAt hh id1 o1 3=some (pairV l[i]):=hat1.flat.2.1
   have l2:cellsAt hh id2 o2 3=some (pairV m[i]):=hat2.flat.2.1
   rw[sameL_drop hj hk]at ho
   simp -implicitDefEqProofs (disch:=first|omega|simp only[go_sem]) only[go_sem,true_and,f13]
   refine yr_28_0 rfl ?_
   by_cases hlt:l[i]=m[i]
   ·rw[decide_eq_true hlt,Bool.true_and]at ho
    simp -implicitDefEqProofs (disch:=first|omega|simp only[go_sem]) only[go_sem,true_and,g28_0,q28_0,f0,f1,f13,e1,e2,l1,l2,bin_pair,hlt,hw]
    refine hK (i+1) _ ?_ (by omega)
    exact ⟨by trivial,by trivial,by trivial,(vy f0),(vy f1),(vy f12),vz,by omega,ho⟩
   ·rw[decide_eq_false hlt,Bool.false_and]at ho
    simp -implicitDefEqProofs (disch:=first|omega|simp only[go_sem]) only[go_sem,true_and,g28_0,q28_0,f0,f1,f13,e1,e2,l1,l2,bin_pair,hlt]
    refine hX _ _ (by simp) ?_
    simp -implicitDefEqProofs (disch:=first|omega|simp only[go_sem]) only[go_sem,true_and]
    exact ⟨_,rfl,by rw[← ho],.refl hh⟩
  ·obtain rfl:i=l.length:=by omega
   refine hX _ _ (by simp) ?_
   simp -implicitDefEqProofs (disch:=first|omega|simp only[go_sem]) only[go_sem,true_and]
   exact ⟨_,rfl,by rw[← ho,sameL_end hl],.refl hh⟩
theorem samePairs_c {h:DHeap} {a b:Value} {l m:List Pair} (ha:Arg fPair.rep h a l) (hb:Arg fPair.rep h b m) (hlen:l.length≤4294967296) :
 DC Try.prog 35 [a,b] h (.ret (.bool (decide (l=m)))) h:=by
 rw[← sameL_dec]
 refine Ct.pure (go_35 (by simp) ?_) (vin_bool _)
 have ea:∀ K,dLen Try.prog #[27] a K=some (.int .i64 (l.length:Nat)):=ha.lens (P:=Try.prog) (ts:=#[27]) (t:=27) rfl isl_27
 have eb:∀ K,dLen Try.prog #[27] b K=some (.int .i64 (m.length:Nat)):=hb.lens (P:=Try.prog) (ts:=#[27]) (t:=27) rfl isl_27
 by_cases hl:l.length=m.length
 case neg=>
  have hli:¬ ((l.length:Nat):Int)=(m.length:Nat):=by omega
  simp -implicitDefEqProofs (disch:=first|omega|simp only[go_sem]) only[go_sem,true_and,c35,ea,eb,hli]
  exact ⟨_,rfl,by rw[sameL_len hl],.refl h⟩
 have hli:((l.length:Nat):Int)=(m.length:Nat):=by omega
 simp -implicitDefEqProofs (disch:=first|omega|simp only[go_sem]) only[go_sem,true_and,c35,ea,eb,hli]
 refine xloop (σ:=Nat) (by kernel_rfl) (fun i s=>s.df=[]∧s.rd=none∧s.h=h∧s.fr 0=some a∧s.fr 1=some b∧s.fr 5=some (.int .i64 (i:Nat))∧i≤l.length∧sameL (fun a b:Pair=>decide (a=b)) (l.drop i) (m.drop i)=sameL (fun a b:Pair=>decide (a=b)) l m) (fun i=>l.length - i) 0 ?_ ?_
 ·simp -implicitDefEqProofs (disch:=first|omega|simp only[go_sem]) only[go_sem,true_and]
  exact ⟨by trivial,Nat.zero_le _,by rw[List.drop_zero,List.drop_zero]⟩
 ·rintro i ⟨fr,df,hh,rd⟩ K hK hX ⟨rfl,rfl,rfl,f0,f1,f5,hi,ho⟩
  simp only at f0 f1 f5
  simp -implicitDefEqProofs (disch:=first|omega|simp only[go_sem]) only[go_sem,true_and,f0,f1,f0,f5,ea]
  refine XIf_dec (fun hc1=>?_) (fun hc1=>?_)
  ·have hj:i<l.length:=by omega
   have hk:i<m.length:=by omega
   obtain ⟨id1,o1,e1,_,hat1⟩:=ha.idx (P:=Try.prog) (t:=27) el_27 (k:=.i64) (i:=i) (x:=l[i]) (by simp)
   obtain ⟨id2,o2,e2,_,hat2⟩:=hb.idx (P:=Try.prog) (t:=27) el_27 (k:=.i64) (i:=i) (x:=m[i]) (by simp)
   have hw:=wrap_succ hj (by omega)
   have l1:cellsAt hh id1 o1 3=some (pairV l[i]):=hat1.flat.2.1
   have l2:cellsAt hh id2 o2 3=some (pairV m[i]):=hat2.flat.2.1
   rw[sameL_drop hj hk]at ho
   simp -implicitDefEqProofs (disch:=first|omega|simp only[go_sem]) only[go_sem,true_and,f5]
   refine yr_35_0 rfl ?_
   by_cases hlt:l[i]=m[i]
   ·rw[decide_eq_true hlt,Bool.true_and]at ho
    simp -implicitDefEqProofs (disch:=first|omega|simp only[go_sem]) only[go_sem,true_and,g35_0,q35_0,f0,f1,f5,e1,e2,l1,l2,bin_pair,hlt,hw]
    refine hK (i+1) _ ?_ (by omega)
    exact ⟨by trivial,by trivial,by trivial,(vy f0),(vy f1),vz,by omega,ho⟩
   ·rw[decide_eq_false hlt,Bool.false_and]at ho
    simp -implicitDefEqProofs (disch:=first|omega|simp only[go_sem]) only[go_sem,true_and,g35_0,q35_0,f0,f1,f5,e1,e2,l1,l2,bin_pair,hlt]
    refine hX _ _ (by simp) ?_
    simp -implicitDefEqProofs (disch:=first|omega|simp only[go_sem]) only[go_sem,true_and]
    exact ⟨_,rfl,by rw[← ho],.refl hh⟩
  ·obtain rfl:i=l.length:=by omega
   refine hX _ _ (by simp) ?_
   simp -implicitDefEqProofs (disch:=first|omega|simp only[go_sem]) only[go_sem,true_and]
   exact ⟨_,rfl,by rw[← ho,sameL_end hl],.refl hh⟩
theorem sameInts_c {h:DHeap} {a b:Value} {l m:List Int} (ha:Arg fI64.rep h a l) (hb:Arg fI64.rep h b m) (hlen:l.length≤4294967296) :
 DC Try.prog 38 [a,b] h (.ret (.bool (decide (l=m)))) h:=by
 rw[← sameL_dec]
 refine Ct.pure (go_38 (by simp) ?_) (vin_bool _)
 have ea:∀ K,dLen Try.prog #[23] a K=some (.int .i64 (l.length:Nat)):=ha.lens (P:=Try.prog) (ts:=#[23]) (t:=23) rfl isl_23
 have eb:∀ K,dLen Try.prog #[23] b K=some (.int .i64 (m.length:Nat)):=hb.lens (P:=Try.prog) (ts:=#[23]) (t:=23) rfl isl_23
 by_cases hl:l.length=m.length
 case neg=>
  have hli:¬ ((l.length:Nat):Int)=(m.length:Nat):=by omega
  simp -implicitDefEqProofs (disch:=first|omega|simp only[go_sem]) only[go_sem,true_and,c38,ea,eb,hli]
  exact ⟨_,rfl,by rw[sameL_len hl],.refl h⟩
 have hli:((l.length:Nat):Int)=(m.length:Nat):=by omega
 simp -implicitDefEqProofs (disch:=first|omega|simp only[go_sem]) only[go_sem,true_and,c38,ea,eb,hli]
 refine xloop (σ:=Nat) (by kernel_rfl) (fun i s=>s.df=[]∧s.rd=none∧s.h=h∧s.fr 0=some a∧s.fr 1=some b∧s.fr 5=some (.int .i64 (i:Nat))∧i≤l.length∧sameL (fun a b:Int=>decide (a=b)) (l.drop i) (m.drop i)=sameL (fun a b:Int=>decide (a=b)) l m) (fun i=>l.length - i) 0 ?_ ?_
 ·simp -implicitDefEqProofs (disch:=first|omega|simp only[go_sem]) only[go_sem,true_and]
  exact ⟨by trivial,Nat.zero_le _,by rw[List.drop_zero,List.drop_zero]⟩
 ·rintro i ⟨fr,df,hh,rd⟩ K hK hX ⟨rfl,rfl,rfl,f0,f1,f5,hi,ho⟩
  simp only at f0 f1 f5
  simp -implicitDefEqProofs (disch:=first|omega|simp only[go_sem]) only[go_sem,true_and,f0,f1,f0,f5,ea]
  refine XIf_dec (fun hc1=>?_) (fun hc1=>?_)
  ·have hj:i<l.length:=by omega
   have hk:i<m.length:=by omega
   obtain ⟨id1,o1,e1,_,hat1⟩:=ha.idx (P:=Try.prog) (t:=23) el_23 (k:=.i64) (i:=i) (x:=l[i]) (by simp)
   obtain ⟨id2,o2,e2,_,hat2⟩:=hb.idx (P:=Try.prog) (t:=23) el_23 (k:=.i64) (i:=i) (x:=m[i]) (by simp)
   have hw:=wrap_succ hj (by omega)
   have l1:=hat1.int
   have l2:=hat2.int
   rw[sameL_drop hj hk]at ho
   simp -implicitDefEqProofs (disch:=first|omega|simp only[go_sem]) only[go_sem,true_and,f5]
   refine yr_38_0 rfl ?_
   by_cases hlt:l[i]=m[i]
   ·rw[decide_eq_true hlt,Bool.true_and]at ho
    simp -implicitDefEqProofs (disch:=first|omega|simp only[go_sem]) only[go_sem,true_and,g38_0,q38_0,f0,f1,f5,e1,e2,l1,l2,hlt,hw]
    refine hK (i+1) _ ?_ (by omega)
    exact ⟨by trivial,by trivial,by trivial,(vy f0),(vy f1),vz,by omega,ho⟩
   ·rw[decide_eq_false hlt,Bool.false_and]at ho
    simp -implicitDefEqProofs (disch:=first|omega|simp only[go_sem]) only[go_sem,true_and,g38_0,q38_0,f0,f1,f5,e1,e2,l1,l2,hlt]
    refine hX _ _ (by simp) ?_
    simp -implicitDefEqProofs (disch:=first|omega|simp only[go_sem]) only[go_sem,true_and]
    exact ⟨_,rfl,by rw[← ho],.refl hh⟩
  ·obtain rfl:i=l.length:=by omega
   refine hX _ _ (by simp) ?_
   simp -implicitDefEqProofs (disch:=first|omega|simp only[go_sem]) only[go_sem,true_and]
   exact ⟨_,rfl,by rw[← ho,sameL_end hl],.refl hh⟩
theorem sameKeys4_c {h:DHeap} {a b:Value} {l m:List Key} (ha:Arg fKey.rep h a l) (hb:Arg fKey.rep h b m) (hlen:l.length≤4294967296) :
 DC Try.prog 57 [a,b] h (.ret (.bool (decide (l=m)))) h:=by
 rw[← sameL_dec]
 refine Ct.pure (go_57 (by simp) ?_) (vin_bool _)
 have ea:∀ K,dLen Try.prog #[24] a K=some (.int .i64 (l.length:Nat)):=ha.lens (P:=Try.prog) (ts:=#[24]) (t:=24) rfl isl_24
 have eb:∀ K,dLen Try.prog #[24] b K=some (.int .i64 (m.length:Nat)):=hb.lens (P:=Try.prog) (ts:=#[24]) (t:=24) rfl isl_24
 by_cases hl:l.length=m.length
 case neg=>
  have hli:¬ ((l.length:Nat):Int)=(m.length:Nat):=by omega
  simp -implicitDefEqProofs (disch:=first|omega|simp only[go_sem]) only[go_sem,true_and,c57,ea,eb,hli]
  exact ⟨_,rfl,by rw[sameL_len hl],.refl h⟩
 have hli:((l.length:Nat):Int)=(m.length:Nat):=by omega
 simp -implicitDefEqProofs (disch:=first|omega|simp only[go_sem]) only[go_sem,true_and,c57,ea,eb,hli]
 refine xloop (σ:=Nat) (by kernel_rfl) (fun i s=>s.df=[]∧s.rd=none∧s.h=h∧s.fr 0=some a∧s.fr 1=some b∧s.fr 5=some (.int .i64 (i:Nat))∧i≤l.length∧sameL (fun a b:Key=>decide (a=b)) (l.drop i) (m.drop i)=sameL (fun a b:Key=>decide (a=b)) l m) (fun i=>l.length - i) 0 ?_ ?_
 ·simp -implicitDefEqProofs (disch:=first|omega|simp only[go_sem]) only[go_sem,true_and]
  exact ⟨by trivial,Nat.zero_le _,by rw[List.drop_zero,List.drop_zero]⟩
 ·rintro i ⟨fr,df,hh,rd⟩ K hK hX ⟨rfl,rfl,rfl,f0,f1,f5,hi,ho⟩
  simp only at f0 f1 f5
  simp -implicitDefEqProofs (disch:=first|omega|simp only[go_sem]) only[go_sem,true_and,f0,f1,f0,f5,ea]
  refine XIf_dec (fun hc1=>?_) (fun hc1=>?_)
  ·have hj:i<l.length:=by omega
   have hk:i<m.length:=by omega
   obtain ⟨id1,o1,e1,_,hat1⟩:=ha.idx (P:=Try.prog) (t:=24) el_24 (k:=.i64) (i:=i) (x:=l[i]) (by simp)
   obtain ⟨id2,o2,e2,_,hat2⟩:=hb.idx (P:=Try.prog) (t:=24) el_24 (k:=.i64) (i:=i) (x:=m[i]) (by simp)
   have hw:=wrap_succ hj (by omega)
   have l1:cellsAt hh id1 o1 2=some (keyV l[i]):=hat1.flat.2.1
   have l2:cellsAt hh id2 o2 2=some (keyV m[i]):=hat2.flat.2.1
   rw[sameL_drop hj hk]at ho
   simp -implicitDefEqProofs (disch:=first|omega|simp only[go_sem]) only[go_sem,true_and,f5]
   refine yr_57_0 rfl ?_
   by_cases hlt:l[i]=m[i]
   ·rw[decide_eq_true hlt,Bool.true_and]at ho
    simp -implicitDefEqProofs (disch:=first|omega|simp only[go_sem]) only[go_sem,true_and,g57_0,q57_0,f0,f1,f5,e1,e2,l1,l2,bin_key,hlt,hw]
    refine hK (i+1) _ ?_ (by omega)
    exact ⟨by trivial,by trivial,by trivial,(vy f0),(vy f1),vz,by omega,ho⟩
   ·rw[decide_eq_false hlt,Bool.false_and]at ho
    simp -implicitDefEqProofs (disch:=first|omega|simp only[go_sem]) only[go_sem,true_and,g57_0,q57_0,f0,f1,f5,e1,e2,l1,l2,bin_key,hlt]
    refine hX _ _ (by simp) ?_
    simp -implicitDefEqProofs (disch:=first|omega|simp only[go_sem]) only[go_sem,true_and]
    exact ⟨_,rfl,by rw[← ho],.refl hh⟩
  ·obtain rfl:i=l.length:=by omega
   refine hX _ _ (by simp) ?_
   simp -implicitDefEqProofs (disch:=first|omega|simp only[go_sem]) only[go_sem,true_and]
   exact ⟨_,rfl,by rw[← ho,sameL_end hl],.refl hh⟩
theorem clone_pairs {h:DHeap} {b:Value} {l:List Pair} (hb:Arg fPair.rep h b l) (hl:l.length≤4294967296):DC Try.prog 20 [b] h (.ret (cloneV h b l)) (cloneH fPair h b l):=by
 refine Ct.cloned hb (go_20 (by simp) ?_)
 simp -implicitDefEqProofs (disch:=first|omega|simp only[go_sem]) only[go_sem,c20,hb.nilEq isl_27]
 refine XIf_split (fun hn=>?_) (fun hn=>?_)
 ·simp -implicitDefEqProofs (disch:=first|omega|simp only[go_sem]) only[go_sem]
  obtain ⟨_,rfl⟩:=isNilV_nil hb hn
  exact ⟨_,rfl,_,rfl,.nil _ (.refl h),hn.symm⟩
 ·have m0:Made fPair h (h.push (.row [] 3 false)) (.slice (some ⟨h.next,0,none⟩) 0 0) []:=.none0 fPair (.refl h) rfl
  obtain ⟨v2,h2,e2,m2,k2⟩:=m0.append app_27 (hb.ext (Ext.push1 _ _)) (by simpa using hl) (by decide)
  simp -implicitDefEqProofs (disch:=first|omega|simp only[go_sem]) only[go_sem,e2]
  exact ⟨_,rfl,_,rfl,m2,(m0.isNil_append rfl m2 fun hk=>(k2 hk).1).trans hn.symm⟩
theorem clone_chgs {h:DHeap} {b:Value} {l:List Change} (hb:Arg fChange.rep h b l) (hl:l.length≤4294967296):DC Try.prog 32 [b] h (.ret (cloneV h b l)) (cloneH fChange h b l):=by
 refine Ct.cloned hb (go_32 (by simp) ?_)
 simp -implicitDefEqProofs (disch:=first|omega|simp only[go_sem]) only[go_sem,c32,hb.nilEq isl_30]
 refine XIf_split (fun hn=>?_) (fun hn=>?_)
 ·simp -implicitDefEqProofs (disch:=first|omega|simp only[go_sem]) only[go_sem]
  obtain ⟨_,rfl⟩:=isNilV_nil hb hn
  exact ⟨_,rfl,_,rfl,.nil _ (.refl h),hn.symm⟩
 ·have m0:Made fChange h (h.push (.row [] 4 false)) (.slice (some ⟨h.next,0,none⟩) 0 0) []:=.none0 fChange (.refl h) rfl
  obtain ⟨v2,h2,e2,m2,k2⟩:=m0.append app_30 (hb.ext (Ext.push1 _ _)) (by simpa using hl) (by decide)
  simp -implicitDefEqProofs (disch:=first|omega|simp only[go_sem]) only[go_sem,e2]
  exact ⟨_,rfl,_,rfl,m2,(m0.isNil_append rfl m2 fun hk=>(k2 hk).1).trans hn.symm⟩
end Go.Proofs.Ythjmkmoiopmfcaa

namespace Go.Proofs.Ythjmkmoiopmfcaa
open Go.D
set_option maxRecDepth 100000
end Go.Proofs.Ythjmkmoiopmfcaa

namespace Go.Proofs.Ythjmkmoiopmfcaa
open Go.D
set_option maxRecDepth 100000
theorem out_box {K:DHeap} {e k:Int} {vv cv:Value} {R S:Nat→Prop} {xs:List Int} {cs:List Change} (hv:Sl fI64.rep R K vv xs) (hc:Sl fChange.rep S K cv cs) :
 ∃ K1,dStore Try.prog 32 (.pointer (some ⟨K.next,0,none⟩)) (.agg #[.int .i64 e,vv,cv,.int .i64 k]) (K.push (.row [.int .i64 0,nilV0,nilV0,.int .i64 0] 0 false))=some K1∧Ext K K1∧K1.get K.next=some (.row [.int .i64 e,vv,cv,.int .i64 k] 0 false)∧K1.next=K.next+1:=by
 have hone:[Value.int .i64 e,vv,cv,.int .i64 k].all Value.oneCell'=true:=by
  obtain ⟨_,_,rfl⟩:=hv.isSlice
  obtain ⟨_,_,rfl⟩:=hc.isSlice
  rfl
 exact ⟨K.push (.row [.int .i64 e,vv,cv,.int .i64 k] 0 false),(st_32 rfl).trans (storeAll_push rfl hone),Ext.push1 _ _,get_push_same _ _,rfl⟩
end Go.Proofs.Ythjmkmoiopmfcaa

namespace Go.Proofs.Ythjmkmoiopmfcaa
open Go.D
set_option maxRecDepth 100000
def refL (t:Txn) (vc va vr vw vm:Value) (g:List Int) (vq vo:Value) (n:Int):List Value:=
 .int .i64 t.ses :: .int .i64 t.req :: vc :: va :: vr :: vw :: vm :: (g.map (fun n=>Value.int .i64 n)++[vq,vo,.int .i64 n])
section
variable {t:Txn} {vc va vr vw vm vq vo:Value} {g:List Int} {n:Int}
end
structure RefC (h0:DHeap) (b:Nat) (t:Txn) (vc va vr vw vm:Value) (m:List Pair):Prop where
 lb:b<h0.next
 tx:TxV (fun i=>i<h0.next∧¬ i=b) h0 t vc va vr vw
 len:TxLen t
 sm:Sl fPair.rep (fun i=>i<h0.next∧¬ i=b) h0 vm m
 lm:m.length≤1048576
 up:UpB Pair.k m
structure RefI (h0 K:DHeap) (b:Nat) (t:Txn) (vc va vr vw vm:Value) (s:RS) (n:Int) (vq vo:Value) (wq wo:Option Nat):Prop where
 kp:KpD (fun i=>i=b) h0 K
 row:K.get b=some (.row (refL t vc va vr vw vm s.reg vq vo n) 0 false)
 q:Owns fChange.rep NoS K vq s.w wq
 o:Owns fI64.rep NoS K vo s.out wo
 hq:∀ i,wq=some i→h0.next≤i
 ho:∀ i,wo=some i→h0.next≤i
 len:s.reg.length=8
 ok:∀ n∈s.reg,inK .i64 n
 outn:s.out.length≤8
 wn:s.w.length≤8192
section
variable {h0 K K':DHeap} {b:Nat} {t:Txn} {vc va vr vw vm vq vo vq' vo':Value} {m:List Pair} {s s':RS} {n n':Int} {wq wo:Option Nat}
theorem RefI.ext (C:RefC h0 b t vc va vr vw vm m) (I:RefI h0 K b t vc va vr vw vm s n vq vo wq wo) (e:Ext K K'):RefI h0 K' b t vc va vr vw vm s n vq vo wq wo:=
 ⟨I.kp.ext e,(e.get _ (Nat.lt_of_lt_of_le C.lb I.kp.next)).trans I.row,I.q.mono e.next (fun i hi=>e.get i (I.q.lt i hi)) (fun i hi=>hi.elim),I.o.mono e.next (fun i hi=>e.get i (I.o.lt i hi)) (fun i hi=>hi.elim),I.hq,I.ho,I.len,I.ok,I.outn,I.wn⟩
theorem RefI.tx (C:RefC h0 b t vc va vr vw vm m) (I:RefI h0 K b t vc va vr vw vm s n vq vo wq wo):TxV (InH K) K t vc va vr vw:=
 C.tx.mono fun i hi=>⟨Nat.lt_of_lt_of_le hi.1 I.kp.next,I.kp.get i hi.1 hi.2⟩
theorem RefI.sm (C:RefC h0 b t vc va vr vw vm m) (I:RefI h0 K b t vc va vr vw vm s n vq vo wq wo):Arg fPair.rep K vm m:=
 C.sm.mono fun i hi=>⟨Nat.lt_of_lt_of_le hi.1 I.kp.next,I.kp.get i hi.1 hi.2⟩
theorem RefI.box (C:RefC h0 b t vc va vr vw vm m) (I:RefI h0 K b t vc va vr vw vm s n vq vo wq wo) (hw:s'.w=s.w) (hout:s'.out=s.out) (hl:s'.reg.length=8) (hok:∀ n∈s'.reg,inK .i64 n) :
 RefI h0 (K.set b (.row (refL t vc va vr vw vm s'.reg vq vo n') 0 false)) b t vc va vr vw vm s' n' vq vo wq wo:=by
 have hlb:=C.lb
 refine ⟨I.kp.set (.inl rfl),get_set_same _ _,?_,?_,I.hq,I.ho,hl,hok,by rw[hout];exact I.outn,by rw[hw];exact I.wn⟩
 ·rw[hw]
  exact I.q.mono (Nat.le_refl _) (fun i hi=>get_set_other _ _ (by have:=I.hq i hi;omega)) (fun i hi=>hi.elim)
 ·rw[hout]
  exact I.o.mono (Nat.le_refl _) (fun i hi=>get_set_other _ _ (by have:=I.ho i hi;omega)) (fun i hi=>hi.elim)
theorem RefI.reg (C:RefC h0 b t vc va vr vw vm m) (I:RefI h0 K b t vc va vr vw vm s n vq vo wq wo) {a v:Int} (hv:inK .i64 v):RefI h0 (K.set b (.row (refL t vc va vr vw vm (s.reg.set a.toNat v) vq vo n) 0 false)) b t vc va vr vw vm (s.set a v) n vq vo wq wo:=
 I.box C (s':=s.set a v) rfl rfl (by simp[I.len]) fun n hn=>by
  rcases List.mem_or_eq_of_mem_set hn with hn | rfl
  ·exact I.ok n hn
  ·exact hv
theorem RefI.at' (C:RefC h0 b t vc va vr vw vm m) (I:RefI h0 K b t vc va vr vw vm s n vq vo wq wo) (k:Int):RefI h0 (K.set b (.row (refL t vc va vr vw vm s.reg vq vo k) 0 false)) b t vc va vr vw vm s k vq vo wq wo:=
 I.box C rfl rfl I.len I.ok
theorem RefI.put (C:RefC h0 b t vc va vr vw vm m) (I:RefI h0 K b t vc va vr vw vm s n vq vo wq wo) {c:Change} (hc:fChange.ok c) (hwn:s.w.length<8192) :
 ∃ vq' h2,dAppend Try.prog #[30,30] vq (.slice (some ⟨K.next,0,none⟩) 1 1) (K.push (.row [.int .i32 c.k.t,.int .i64 c.k.r,.int .i64 c.v,.bool c.e] 4 false))=some (vq',h2)∧vq'.cells=#[vq']∧[vq'].all Value.oneCell'=true ∧
  h2.get b=some (.row (refL t vc va vr vw vm s.reg vq vo n) 0 false)∧RefI h0 (h2.set b (.row (refL t vc va vr vw vm s.reg vq' vo n) 0 false)) b t vc va vr vw vm (s.put c) n vq' vo (some (K.next+1)) wo:=by
 obtain ⟨vq',h2,e6,n2,ng2,gg,o3⟩:=I.q.snoc (cs:=[.int .i32 c.k.t,.int .i64 c.k.r,.int .i64 c.v,.bool c.e]) (x:=c) (z:=4) (fun i hi=>hi.elim) ⟨rfl,hc⟩ rfl (by decide) app_30 (by omega) (by decide)
 have hlb:=C.lb
 have hkn:=I.kp.next
 have nb:wq≠some b:=fun e=>by have:=I.hq b e;omega
 have gb2:h2.get b=some (.row (refL t vc va vr vw vm s.reg vq vo n) 0 false):=(gg _ (by omega) nb).trans I.row
 have kp2:KpD (fun i=>i=b) h0 h2:=⟨by omega,ng2.trans I.kp.ng,fun i hi hn=>(gg i (by omega) (fun e=>by have:=I.hq i e;omega)).trans (I.kp.get i hi hn)⟩
 have nwo:∀ i,wo=some i→wq≠some i:=fun i hi=>by
  subst hi
  refine I.q.ne ?_
  rcases I.o with ⟨_,_,e⟩ | ⟨e,_⟩ | ⟨id,cap,cells,_,e,_,g2,_⟩
  ·cases e
  ·cases e
  ·cases e
   exact .row g2 (by decide)
 refine ⟨vq',h2,e6,o3.sl.cells1,by obtain ⟨_,_,rfl⟩:=o3.sl.isSlice;rfl,gb2,⟨kp2.set (.inl rfl),get_set_same _ _,o3.mono (Nat.le_refl _) (fun i hi=>get_set_other _ _ (by cases hi;omega)) (fun i hi=>hi.elim),?_,fun i hi=>by cases hi;omega,I.ho,I.len,I.ok,I.outn,?_⟩⟩
 ·exact I.o.mono (show K.next≤h2.next by omega) (fun i hi=>by
   have h1:=I.o.lt i hi
   have h3:=I.ho i hi
   rw[get_set_other _ _ (by omega)]
   exact gg i h1 (nwo i hi)) (fun i hi=>hi.elim)
 ·show (s.w++[c]).length≤8192
  rw[List.length_append]
  simp
  omega
theorem RefI.wok (I:RefI h0 K b t vc va vr vw vm s n vq vo wq wo):∀ c∈s.w,fChange.ok c:=I.q.sl.ok
end
end Go.Proofs.Ythjmkmoiopmfcaa

namespace Go.Proofs.Ythjmkmoiopmfcaa
open Go.D
set_option maxRecDepth 100000
def StepR (h0:DHeap) (b:Nat) (t:Txn) (vc va vr vw vm:Value) (m:List Pair) (x:Instr) (s:RS) (nx:Int) (r:DEnd) (h1:DHeap):Prop:=
 ∃ e s' j n' vq vo wq wo,stepE t m x s=(e,s',j)∧RefI h0 h1 b t vc va vr vw vm s' n' vq vo wq wo∧r=.ret (.tuple #[.bool (!decide (e=-1)),.int .i64 (if e=-1 then 0 else e)])∧(j=none→n'=nx)∧∀ a,j=some a→n'=a
section
variable {h0 h1:DHeap} {b:Nat} {t:Txn} {vc va vr vw vm vq vo:Value} {m:List Pair} {x:Instr} {s s':RS} {nx e:Int} {wq wo:Option Nat}
theorem StepR.go (E:stepE t m x s=(-1,s',none)) (I:RefI h0 h1 b t vc va vr vw vm s' nx vq vo wq wo):StepR h0 b t vc va vr vw vm m x s nx (.ret (.tuple #[.bool false,.int .i64 0])) h1:=
 ⟨_,_,_,_,_,_,_,_,E,I,rfl,fun _=>rfl,fun a ha=>by cases ha⟩
theorem StepR.jump {a:Int} (E:stepE t m x s=(-1,s',some a)) (I:RefI h0 h1 b t vc va vr vw vm s' a vq vo wq wo):StepR h0 b t vc va vr vw vm m x s nx (.ret (.tuple #[.bool false,.int .i64 0])) h1:=
 ⟨_,_,_,_,_,_,_,_,E,I,rfl,fun ha=>(by cases ha),fun b hb=>by cases hb;rfl⟩
theorem StepR.stop (E:stepE t m x s=(e,s',none)) (he:e ≠ -1) (I:RefI h0 h1 b t vc va vr vw vm s' nx vq vo wq wo):StepR h0 b t vc va vr vw vm m x s nx (.ret (.tuple #[.bool true,.int .i64 e])) h1:=
 ⟨_,_,_,_,_,_,_,_,E,I,by rw[decide_eq_false he,if_neg he];rfl,fun _=>rfl,fun a ha=>by cases ha⟩
end
end Go.Proofs.Ythjmkmoiopmfcaa

namespace Go.Proofs.Ythjmkmoiopmfcaa
open Go.D
set_option maxRecDepth 100000
end Go.Proofs.Ythjmkmoiopmfcaa

namespace Go.Proofs.Ythjmkmoiopmfcaa
open Go.D
set_option maxRecDepth 100000
end Go.Proofs.Ythjmkmoiopmfcaa

namespace Go.Proofs.Ythjmkmoiopmfcaa
open Go.D
set_option maxRecDepth 100000
theorem und_mapB:Try.prog.underlying 103=some (.map 44 4):=by kernel_rfl
theorem mapTB:MapT Try.prog 103 keyV (.bool false):=⟨_,_,und_mapB,keyOf,by kernel_rfl⟩
theorem apply_says {h:DHeap} {c id:Nat} {cs:List Change} {x:Pair} (hc:cellAt h c 0=some (.map (some id))) (hlt:c<h.next) (hid:id<h.next) (hm:MapAt keyV h id (putB Change.k (fun c=>.bool c.e) cs)) :
 DC Try.prog 54 [pairV x,.pointer (some ⟨c,0,none⟩)] h (.ret (.bool (goneB cs x.k))) h:=by
 refine Ct.pure (go_54 (by simp) ?_) (vin_bool _)
 obtain ⟨K,hK⟩:∃ K,K=h.push (.row [.int .i32 x.k.t,.int .i64 x.k.r,.int .i64 x.v] 0 false):=⟨_,rfl⟩
 have hE:Ext h K:=by rw[hK];exact Ext.push1 _ _
 have gk:K.get h.next=some (.row [.int .i32 x.k.t,.int .i64 x.k.r,.int .i64 x.v] 0 false):=by rw[hK];exact get_push_same _ _
 have lk:cellsAt K h.next 0 2=some (keyV x.k):=by rw[cellsAt_row gk (Nat.le_of_ble_eq_true rfl)];rfl
 have hc2:cellAt K c 0=some (.map (some id)):=by
  have:=hE.get c hlt
  simp only[cellAt,this]at hc ⊢
  exact hc
 have hl:=(hm.keep (hE.get _ hid)).lookup mapTB x.k false
 rw[mget_putB]at hl
 have hl2:dLookup Try.prog 103 (.map (some id)) (keyV x.k) false K=some (.bool (goneB cs x.k)):=by
  rw[hl]
  unfold goneB
  cases lastB Change.k cs x.k <;> rfl
 have hcl:(pairV x).cells.toList=[.int .i32 x.k.t,.int .i64 x.k.r,.int .i64 x.v]:=rfl
 simp -implicitDefEqProofs (disch:=first|omega|simp only[go_sem]) only[go_sem,true_and,c54,hcl,← hK,hc2,lk,hl2]
 exact ⟨_,rfl,rfl,hE⟩
theorem apply_test {h:DHeap} {c id:Nat} {cs:List Change} {l:List Pair} (hc:cellAt h c 0=some (.map (some id))) (hlt:c<h.next) (hid:id<h.next) (hm:MapAt keyV h id (putB Change.k (fun c=>.bool c.e) cs)) :
 Test h 54 #[.pointer (some ⟨c,0,none⟩)] l fun x=>goneB cs x.k where
 good:=by kernel_rfl
 says x _ K e:=apply_says (by
  have:=e.get c hlt
  simp only[cellAt,this]at hc ⊢
  exact hc) (Nat.lt_of_lt_of_le hlt e.next) (Nat.lt_of_lt_of_le hid e.next) (hm.keep (e.get _ hid))
theorem addsB_take {l:List Change} {i:Nat} (hi:i<l.length):addsB (l.take (i+1))=addsB (l.take i)++if l[i].e then [] else [⟨l[i].k,l[i].v⟩]:=by
 unfold addsB
 rw[List.take_succ_eq_append_getElem hi,List.filterMap_append]
 congr 1
 by_cases he:l[i].e=true
 ·simp[he]
 ·simp[he]
set_option maxHeartbeats 2000000 in
theorem apply_c {h:DHeap} {v u:Value} {m:List Pair} {l:List Change} (hb:Arg fPair.rep h v m) (hc:Arg fChange.rep h u l) (hl:m.length+l.length≤1048576) :
 Ct Try.prog 29 [v,u] h fun r h1=>∃ w,r=.ret w∧Made fPair h h1 w (applyN m l):=by
 refine go_29 (by simp) ?_
 obtain ⟨H1,hH1⟩:∃ H,h.push (.map [] 0)=H:=⟨_,rfl⟩
 have n1:H1.next=h.next+1:=by rw[← hH1];rfl
 have e1:Ext h H1:=hH1▸Ext.push1 _ _
 obtain ⟨H2,hH2⟩:∃ H,H1.push (.row [.map (some h.next)] 0 false)=H:=⟨_,rfl⟩
 have n2:H2.next=h.next+2:=by rw[← hH2,next_push,n1]
 have e2:Ext H1 H2:=hH2▸Ext.push1 _ _
 have hst0:dStore Try.prog 103 (.pointer (some ⟨H1.next,0,none⟩)) (.map (some h.next)) (H1.push (.row [.map none] 0 false))=some H2:=by
  rw[← hH2]
  exact (st_103 rfl).trans (storeAll_push rfl rfl)
 have m2:MapAt keyV H2 h.next ([]:List (Key × Value)):=MapAt.keep (by rw[← hH1];exact MapAt.new) (e2.get _ (by omega))
 have g2:H2.get H1.next=some (.row [.map (some h.next)] 0 false):=by rw[← hH2];exact get_push_same _ _
 have eH2:Ext h H2:=e1.trans e2
 simp -implicitDefEqProofs (disch:=first|omega|simp only[go_sem]) only[go_sem,true_and,c29,hH1,hst0]
 refine ncall (clone_pairs (hb.ext eH2) (by omega)) ?_
 have mc:=clone_made (h:=H2) (hb.ext eH2)
 obtain ⟨cv,hcv⟩:∃ w,cloneV H2 v m=w:=⟨_,rfl⟩
 obtain ⟨H3,hH3⟩:∃ H,cloneH fPair H2 v m=H:=⟨_,rfl⟩
 rw[hcv,hH3]at mc ⊢
 have e3:=mc.ext
 simp -implicitDefEqProofs (disch:=first|omega|simp only[go_sem]) only[go_sem,true_and]
 refine ncall_ct (changes_c (hc.ext (eH2.trans e3)) (by omega)) ?_
 rintro r K ⟨w,rfl,mw⟩
 obtain ⟨cs,hcs⟩:∃ cs,byK Change.k l=cs:=⟨_,rfl⟩
 rw[hcs]at mw
 have hcl:cs.length≤l.length:=hcs▸byK_len (key:=Change.k) l
 have eK:=mw.ext
 have e3n:=e3.next
 have eKn:=eK.next
 have elw:∀ K,dLen Try.prog #[30] w K=some (.int .i64 (cs.length:Nat)):=mw.arg.lens (P:=Try.prog) (ts:=#[30]) (t:=30) rfl isl_30
 have hwr:Sl fChange.rep (fun i=>H3.next≤i∧i<K.next) K w cs:=mw.sl
 have mcK:Made fPair h K cv m:=(mc.base eH2).on eK
 simp -implicitDefEqProofs (disch:=first|omega|simp only[go_sem]) only[go_sem,true_and,XEnd,elw]
 refine xloop (σ:=Nat) (by kernel_rfl) (fun i s=>s.df=[]∧s.rd=none∧s.fr 5=some (.pointer (some ⟨H1.next,0,none⟩))∧s.fr 13=some w∧s.fr 14=some (.int .i64 (cs.length:Nat))∧s.fr 15=some (.int .i64 (i:Nat))∧i≤cs.length∧K.next≤s.h.next∧s.h.get H1.next=some (.row [.map (some h.next)] 0 false)∧MapAt keyV s.h h.next (putB Change.k (fun c=>.bool c.e) (cs.take i))∧Sl fChange.rep (fun i=>H3.next≤i∧i<K.next) s.h w cs∧∃ av,s.fr 6=some av∧Made fPair h s.h av (m++addsB (cs.take i))) (fun i=>cs.length - i) 0 ?_ ?_
 ·simp -implicitDefEqProofs (disch:=first|omega|simp only[go_sem]) only[go_sem,true_and]
  refine ⟨by trivial,Nat.zero_le _,Nat.le_refl _,(eK.get _ (by omega)).trans ((e3.get _ (by omega)).trans g2),m2.keep ((eK.get _ (by omega)).trans (e3.get _ (by omega))),hwr,_,rfl,?_⟩
  have:m++addsB (cs.take 0)=m:=by simp[addsB]
  rw[this]
  exact mcK
 rintro i ⟨fr,df,N,rd⟩ K' hK' hX ⟨rfl,rfl,f5,f13,f14,f15,hi,hKN,gN,mN,sN,av,f6,mv⟩
 simp only at f5 f13 f14 f15 hKN gN mN sN f6 mv
 simp -implicitDefEqProofs (disch:=first|omega|simp only[go_sem]) only[go_sem,true_and,f13,f14,f15]
 refine XIf_dec (fun hc1=>?_) (fun hc1=>?_)
 ·have hj:i<cs.length:=by omega
  obtain ⟨id1,o1,i1,hid1,hat1⟩:=sN.idx (P:=Try.prog) (t:=30) el_30 (k:=.i64) (i:=i) (x:=cs[i]) (by simp)
  have l1:cellsAt N id1 o1 4=some (chgV cs[i]):=hat1.flat.2.1
  obtain ⟨N1,hN1⟩:∃ H,N.push (.row [.int .i32 cs[i].k.t,.int .i64 cs[i].k.r,.int .i64 cs[i].v,.bool cs[i].e] 0 false)=H:=⟨_,rfl⟩
  have eN1:Ext N N1:=hN1▸Ext.push1 _ _
  have n1':N1.next=N.next+1:=by rw[← hN1];rfl
  have gc1:N1.get N.next=some (.row [.int .i32 cs[i].k.t,.int .i64 cs[i].k.r,.int .i64 cs[i].v,.bool cs[i].e] 0 false):=by rw[← hN1];exact get_push_same _ _
  have hst:dStore Try.prog 51 (.pointer (some ⟨N.next,0,none⟩)) (.agg #[.int .i32 cs[i].k.t,.int .i64 cs[i].k.r,.int .i64 cs[i].v,.bool cs[i].e]) (N.push (.row [.int .i32 0,.int .i64 0,.int .i64 0,.bool false] 0 false))=some N1:=by
   rw[← hN1]
   exact (st_51 rfl).trans (storeAll_push rfl rfl)
  have lk1:cellsAt N1 N.next 0 2=some (keyV cs[i].k):=by rw[cellsAt_row gc1 (Nat.le_of_ble_eq_true rfl)];rfl
  have le1:cellAt N1 N.next 3=some (.bool cs[i].e):=cellAt_row gc1
  have lm1:cellAt N1 H1.next 0=some (.map (some h.next)):=cellAt_row ((eN1.get _ (by omega)).trans gN)
  obtain ⟨o,hu,hm2⟩:=(mN.keep (eN1.get _ (by omega))).update mapTB cs[i].k (.bool cs[i].e)
  obtain ⟨N2,hN2⟩:∃ H,N1.set h.next o=H:=⟨_,rfl⟩
  rw[hN2]at hu hm2
  have n2':N2.next=N.next+1:=by rw[← hN2];exact n1'
  have gc2:N2.get N.next=some (.row [.int .i32 cs[i].k.t,.int .i64 cs[i].k.r,.int .i64 cs[i].v,.bool cs[i].e] 0 false):=by rw[← hN2];exact (get_set_other _ _ (by omega)).trans gc1
  have lk2:cellsAt N2 N.next 0 2=some (keyV cs[i].k):=by rw[cellsAt_row gc2 (Nat.le_of_ble_eq_true rfl)];rfl
  have lv2:cellAt N2 N.next 2=some (.int .i64 cs[i].v):=cellAt_row gc2
  have le2:cellAt N2 N.next 3=some (.bool cs[i].e):=cellAt_row gc2
  have gN2:N2.get H1.next=some (.row [.map (some h.next)] 0 false):=by rw[← hN2];exact (get_set_other _ _ (by omega)).trans ((eN1.get _ (by omega)).trans gN)
  have sN2:Sl fChange.rep (fun i=>H3.next≤i∧i<K.next) N2 w cs:=sN.mono fun j hj=>⟨hj,by rw[← hN2,get_set_other _ _ (by omega)];exact eN1.get _ (by omega)⟩
  have mv2:Made fPair h N2 av (m++addsB (cs.take i)):=hN2▸(mv.on eN1).setX (mN.keep (eN1.get _ (by omega))).noRow (Nat.le_refl _)
  have hw:=wrap_succ hj (by omega)
  have hput:MapAt keyV N2 h.next (putB Change.k (fun c=>.bool c.e) (cs.take (i+1))):=by rw[putB_take hj];exact hm2
  simp -implicitDefEqProofs (disch:=first|omega|simp only[go_sem]) only[go_sem,true_and,f5,f13,f15,i1,l1,hst,lm1,lk1,le1,hu,le2]
  refine XIf_split (fun he=>?_) (fun he=>?_)
  ·have he:cs[i].e=false:=by simpa using he
   have hadds:addsB (cs.take (i+1))=addsB (cs.take i)++[⟨cs[i].k,cs[i].v⟩]:=by rw[addsB_take hj,he];rfl
   have hal:(m++addsB (cs.take i)).length+1≤4294967296:=by
    have h1:(addsB (cs.take i)).length≤(cs.take i).length:=List.length_filterMap_le _ _
    have h2:=List.length_take (i:=i) (l:=cs)
    rw[List.length_append]
    omega
   obtain ⟨av',N3,e6,m6,n6,k6⟩:=mv2.snocX app_27 (y:=⟨cs[i].k,cs[i].v⟩) (cs:=[.int .i32 cs[i].k.t,.int .i64 cs[i].k.r,.int .i64 cs[i].v]) (z:=3) rfl rfl (by decide) ⟨(mw.ok _ (List.getElem_mem hj)).1,(mw.ok _ (List.getElem_mem hj)).2.1⟩ hal (by decide)
   have sN3:Sl fChange.rep (fun i=>H3.next≤i∧i<K.next) N3 w cs:=sl_keepZ sN2 fun j hj hn=>k6 j (by omega) hn
   simp -implicitDefEqProofs (disch:=first|omega|simp only[go_sem]) only[go_sem,true_and,f6,f15,lk2,lv2,bd_pairK,e6,hw]
   refine hK' (i+1) _ ?_ (by omega)
   exact ⟨by trivial,by trivial,(vy f5),(vy f13),(vy f14),vz,by omega,by show K.next≤N3.next;omega,(k6 _ (by omega) (.row gN2 (by decide))).trans gN2,hput.keep (k6 _ (by omega) hput.noRow),sN3,av',vz,by rw[hadds,← List.append_assoc];exact m6⟩
  ·have he:cs[i].e=true:=by simpa using he
   have hadds:addsB (cs.take (i+1))=addsB (cs.take i):=by rw[addsB_take hj,he];simp
   simp -implicitDefEqProofs (disch:=first|omega|simp only[go_sem]) only[go_sem,true_and,f15,hw]
   refine hK' (i+1) _ ?_ (by omega)
   exact ⟨by trivial,by trivial,(vy f5),(vy f13),(vy f14),vz,by omega,by show K.next≤N2.next;omega,gN2,hput,sN2,av,(vy f6),by rw[hadds];exact mv2⟩
 obtain rfl:i=cs.length:=by omega
 refine hX _ _ (by simp) ?_
 rw[List.take_length]at mN mv
 have hall:(m++addsB cs).length≤1048576:=by
  have h1:(addsB cs).length≤cs.length:=List.length_filterMap_le _ _
  rw[List.length_append]
  omega
 simp -implicitDefEqProofs (disch:=first|omega|simp only[go_sem]) only[go_sem,true_and,f6]
 refine ncall (pairs_dc mv.arg hall) ?_
 simp -implicitDefEqProofs (disch:=first|omega|simp only[go_sem]) only[go_sem,true_and,f5]
 have hE:Ext h N:=mv.ext
 have hlen:=byK_len (key:=Pair.k) (m++addsB cs)
 refine ncall_ct (delete_lh (h0:=h) (fun x hx=>mv.ok x (mem_of_byK hx)) (by omega) hE (apply_test (cellAt_row gN) (by omega) (by omega) mN)) ?_
 rintro r h1 ⟨w3,rfl,m3⟩
 simp -implicitDefEqProofs (disch:=first|omega|simp only[go_sem]) only[go_sem,true_and,XEnd]
 refine ⟨_,rfl,w3,rfl,?_⟩
 unfold applyN
 rw[hcs]
 exact m3
end Go.Proofs.Ythjmkmoiopmfcaa

namespace Go.Proofs.Ythjmkmoiopmfcaa
open Go.D
set_option maxRecDepth 100000
end Go.Proofs.Ythjmkmoiopmfcaa

namespace Go.Proofs.Ythjmkmoiopmfcaa
open Go.D
set_option maxRecDepth 100000
end Go.Proofs.Ythjmkmoiopmfcaa

namespace Go.Proofs.Ythjmkmoiopmfcaa
open Go.D
set_option maxRecDepth 100000
end Go.Proofs.Ythjmkmoiopmfcaa

namespace Go.Proofs.Ythjmkmoiopmfcaa
open Go.D
set_option maxRecDepth 100000
theorem _root_.Go.D.MapAt.len {P:Program} {κ:Type} {enc:κ→Value} {t:TypeId} {kt et:TypeId} {h:DHeap} {id:Nat} {m:List (κ × Value)} (hu:P.underlying t=some (.map kt et)) (a:MapAt enc h id m):dLen P #[t] (.map (some id)) h=some (.int .i64 (m.length:Nat)):=by
 obtain ⟨es,c,g,q1,_⟩:=a
 have:es.length=m.length:=by
  have:=congrArg List.length q1
  simpa using this
 unfold dLen
 simp only[List.getElem?_toArray,List.getElem?_cons_zero,hu,g,this]
 rfl
end Go.Proofs.Ythjmkmoiopmfcaa

namespace Go.Proofs.Ythjmkmoiopmfcaa
open Go.D
set_option maxRecDepth 100000
end Go.Proofs.Ythjmkmoiopmfcaa

namespace Go.Proofs.Ythjmkmoiopmfcaa
open Go.D
set_option maxRecDepth 100000
def strB (l:List Int):ByteArray:=⟨(l.map fun n=>UInt8.ofNat n.toNat).toArray⟩
theorem bytesB_of:∀ l:List Int,bytesList (l.map (Value.int .u8))=some (l.map fun n=>UInt8.ofNat n.toNat)
 | []=>rfl
 | n :: l=>by simp only[List.map_cons,bytesList,bytesB_of l,Option.map_some]
theorem fU8_flatB:∀ l:List Int,l.flatMap fU8.enc=l.map (Value.int .u8)
 | []=>rfl
 | n :: l=>by rw[List.flatMap_cons,fU8_flatB l];rfl
theorem convB_nil {h:DHeap}:dConvertO Try.prog 22 9 h (some (.slice none 0 0))=.ok (.value (.string ⟨#[]⟩)) h:=by kernel_rfl
theorem undB_bytes:Try.prog.underlying 22=some (.slice 5):=by kernel_rfl
theorem undB_str:Try.prog.underlying 9=some .string:=by kernel_rfl
theorem undB_u8:Try.prog.underlying 5=some (.int .u8):=by kernel_rfl
theorem convB {h:DHeap} {a:Value} {l:List Int} (ha:Arg fU8.rep h a l):dConvertO Try.prog 22 9 h (some a)=.ok (.value (.string (strB l))) h:=by
 rcases ha with ⟨rfl,rfl⟩ | ⟨id,o,cap,cells,esz,ro,rfl,b,c,d,e,f⟩
 ·exact convB_nil
 ·obtain ⟨f1,_⟩:=Els.flat.1 f
  have hz:fU8.rep.z=1:=rfl
  rw[hz,Nat.mul_one]at e f1
  rw[fU8_flatB]at f1
  have hfl:flat3 (.slice (some ⟨id,o,none⟩) l.length cap)=false:=rfl
  simp only[dConvertO,dConvert,hfl,Bool.false_eq_true,if_false,undB_bytes,undB_str,undB_u8,c]
  rw[if_pos e,f1,bytesB_of]
  rfl
theorem binB {h:DHeap} {ox oy:Operand} {a b:ByteArray}:dBinOp Try.prog .eql 9 ox oy (.string a) (.string b) h=.ok (.value (.bool (a.toList==b.toList))) h:=by
 simp[dBinOp,flat3,flat2,flat1,dval,quick,eqGuard,binOp,Op.stringOp,Bind.bind,Pure.pure,Sem.bind]
theorem cl_step {P:Program} {α:Type} {F:FRep α} {ts:Array TypeId} {b B o:Nat} {S:Nat→Prop} {K:DHeap} {x:Value} {l:List α} {R:List Value} (hT:appT P ts=some (F.z,b)) (hs:Sl F.rep S K x l) (hlen:l.length≤4294967296) (hB:B<K.next) (g:K.get B=some (.row R 0 false)) (ho:o+1≤R.length) (hb:b≤32768:=by decide) :
 ∃ v K1,dAppend P ts (.slice none 0 0) x K=some (v,K1)∧v.cells=#[v]∧storeAt K1 B o [v]=some (K1.set B (.row (R.set o v) 0 false))∧Ext K K1∧Sl F.rep (Fresh K K1) K1 v l:=by
 obtain ⟨v,K1,a,m,_⟩:=(Made.nil F (Ext.refl K)).append hT hs (by simpa using hlen) hb
 rw[List.nil_append]at m
 exact ⟨v,K1,a,m.sl.cells1,store_cell m.sl.cells1 (one_sl m.sl) ho rfl ((m.ext.get _ hB).trans g),m.ext,m.sl⟩
theorem refClone_c {h:DHeap} {t:Txn} {vc va vr vw:Value} (x:TxV (InH h) h t vc va vr vw) (hl:TxLen t) :
 Ct Try.prog 33 [txnV t.ses t.req vc va vr vw] h fun r h1=>∃ vc' va' vr' vw',r=.ret (txnV t.ses t.req vc' va' vr' vw')∧Ext h h1∧TxV (Fresh h h1) h1 t vc' va' vr' vw':=by
 refine go_33 (by simp) ?_
 obtain ⟨q1,q2,q3,q4⟩:=hl
 have hcl:(txnV t.ses t.req vc va vr vw).cells.toList=[.int .i64 t.ses,.int .i64 t.req,vc,va,vr,vw]:=rfl
 obtain ⟨H,hH⟩:∃ H,H=(h.push (.row [.int .i64 t.ses,.int .i64 t.req,vc,va,vr,vw] 0 false)).push (.row [.int .i64 0,.int .i64 0,.slice none 0 0,.slice none 0 0,.slice none 0 0,.slice none 0 0] 0 false):=⟨_,rfl⟩
 have hE:Ext h H:=by rw[hH];exact (Ext.push1 _ _).push _
 have hHn:H.next=h.next+2:=by rw[hH];rfl
 have ga:H.get h.next=some (.row [.int .i64 t.ses,.int .i64 t.req,vc,va,vr,vw] 0 false):=by rw[hH];exact get_p1
 have gb:H.get (h.next+1)=some (.row [.int .i64 0,.int .i64 0,.slice none 0 0,.slice none 0 0,.slice none 0 0,.slice none 0 0] 0 false):=by rw[hH];exact get_push_same _ _
 obtain ⟨c',K1,a1,n1,s1,e1,m1⟩:=cl_step (P:=Try.prog) (o:=2) app_22 (x.c.ext hE) (by omega) (by omega) ga (by simp)
 obtain ⟨J1,hJ1⟩:∃ J,J=K1.set h.next (.row [.int .i64 t.ses,.int .i64 t.req,c',va,vr,vw] 0 false):=⟨_,rfl⟩
 have s1:storeAt K1 h.next 2 [c']=some J1:=s1.trans (by rw[hJ1];rfl)
 have E1:Ext h J1:=by rw[hJ1];exact (hE.trans e1).set (Nat.le_refl _)
 have g1:J1.get h.next=some (.row [.int .i64 t.ses,.int .i64 t.req,c',va,vr,vw] 0 false):=by rw[hJ1];exact get_set_same _ _
 have o1:∀ i,i≠h.next→J1.get i=K1.get i:=fun i hi=>by rw[hJ1];exact get_set_other _ _ hi
 have j1:J1.next=K1.next:=by rw[hJ1];rfl
 have k1:=e1.next
 obtain ⟨a',K2,a2,n2,s2,e2,m2⟩:=cl_step (P:=Try.prog) (o:=3) app_23 (x.a.ext E1) (by omega) (by omega) g1 (by simp)
 obtain ⟨J2,hJ2⟩:∃ J,J=K2.set h.next (.row [.int .i64 t.ses,.int .i64 t.req,c',a',vr,vw] 0 false):=⟨_,rfl⟩
 have s2:storeAt K2 h.next 3 [a']=some J2:=s2.trans (by rw[hJ2];rfl)
 have E2:Ext h J2:=by rw[hJ2];exact (E1.trans e2).set (Nat.le_refl _)
 have g2:J2.get h.next=some (.row [.int .i64 t.ses,.int .i64 t.req,c',a',vr,vw] 0 false):=by rw[hJ2];exact get_set_same _ _
 have o2:∀ i,i≠h.next→J2.get i=K2.get i:=fun i hi=>by rw[hJ2];exact get_set_other _ _ hi
 have j2:J2.next=K2.next:=by rw[hJ2];rfl
 have k2:=e2.next
 obtain ⟨r',K3,a3,n3,s3,e3,m3⟩:=cl_step (P:=Try.prog) (o:=4) app_24 (x.r.ext E2) (by omega) (by omega) g2 (by simp)
 obtain ⟨J3,hJ3⟩:∃ J,J=K3.set h.next (.row [.int .i64 t.ses,.int .i64 t.req,c',a',r',vw] 0 false):=⟨_,rfl⟩
 have s3:storeAt K3 h.next 4 [r']=some J3:=s3.trans (by rw[hJ3];rfl)
 have E3:Ext h J3:=by rw[hJ3];exact (E2.trans e3).set (Nat.le_refl _)
 have g3:J3.get h.next=some (.row [.int .i64 t.ses,.int .i64 t.req,c',a',r',vw] 0 false):=by rw[hJ3];exact get_set_same _ _
 have o3:∀ i,i≠h.next→J3.get i=K3.get i:=fun i hi=>by rw[hJ3];exact get_set_other _ _ hi
 have j3:J3.next=K3.next:=by rw[hJ3];rfl
 have k3:=e3.next
 obtain ⟨w',K4,a4,n4,s4,e4,m4⟩:=cl_step (P:=Try.prog) (o:=5) app_24 (x.w.ext E3) (by omega) (by omega) g3 (by simp)
 obtain ⟨J4,hJ4⟩:∃ J,J=K4.set h.next (.row [.int .i64 t.ses,.int .i64 t.req,c',a',r',w'] 0 false):=⟨_,rfl⟩
 have s4:storeAt K4 h.next 5 [w']=some J4:=s4.trans (by rw[hJ4];rfl)
 have E4:Ext h J4:=by rw[hJ4];exact (E3.trans e4).set (Nat.le_refl _)
 have g4:J4.get h.next=some (.row [.int .i64 t.ses,.int .i64 t.req,c',a',r',w'] 0 false):=by rw[hJ4];exact get_set_same _ _
 have o4:∀ i,i≠h.next→J4.get i=K4.get i:=fun i hi=>by rw[hJ4];exact get_set_other _ _ hi
 have j4:J4.next=K4.next:=by rw[hJ4];rfl
 have k4:=e4.next
 have gb4:J4.get (h.next+1)=some (.row [.int .i64 0,.int .i64 0,.slice none 0 0,.slice none 0 0,.slice none 0 0,.slice none 0 0] 0 false):=by
  rw[o4 _ (by omega),e4.get _ (by omega),o3 _ (by omega),e3.get _ (by omega),o2 _ (by omega),e2.get _ (by omega),o1 _ (by omega),e1.get _ (by omega)]
  exact gb
 obtain ⟨M,hM⟩:∃ M,M=J4.set (h.next+1) (.row [.int .i64 t.ses,.int .i64 t.req,c',a',r',w'] 0 false):=⟨_,rfl⟩
 have oM:∀ i,i≠h.next+1→M.get i=J4.get i:=fun i hi=>by rw[hM];exact get_set_other _ _ hi
 have jM:M.next=J4.next:=by rw[hM];rfl
 have y:TxV (Fresh h M) M t c' a' r' w':=by
  refine ⟨m1.mono fun i hi=>⟨⟨by omega,by omega⟩,?_⟩,m2.mono fun i hi=>⟨⟨by omega,by omega⟩,?_⟩,m3.mono fun i hi=>⟨⟨by omega,by omega⟩,?_⟩,m4.mono fun i hi=>⟨⟨by omega,by omega⟩,?_⟩⟩
  ·obtain ⟨_,_⟩:=hi
   rw[oM _ (by omega),o4 _ (by omega),e4.get _ (by omega),o3 _ (by omega),e3.get _ (by omega),o2 _ (by omega),e2.get _ (by omega),o1 _ (by omega)]
  ·obtain ⟨_,_⟩:=hi
   rw[oM _ (by omega),o4 _ (by omega),e4.get _ (by omega),o3 _ (by omega),e3.get _ (by omega),o2 _ (by omega)]
  ·obtain ⟨_,_⟩:=hi
   rw[oM _ (by omega),o4 _ (by omega),e4.get _ (by omega),o3 _ (by omega)]
  ·obtain ⟨_,_⟩:=hi
   rw[oM _ (by omega),o4 _ (by omega)]
 have sa:storeAt J4 (h.next+1) 0 [.int .i64 t.ses,.int .i64 t.req,c',a',r',w']=some M:=by rw[hM];exact storeAll (vs:=[.int .i64 t.ses,.int .i64 t.req,c',a',r',w']) gb4 rfl (y.one _ _)
 have ca:cellsAt J4 h.next 0 6=some (txnV t.ses t.req c' a' r' w'):=by
  rw[cellsAt_row g4 (Nat.le_of_ble_eq_true rfl)];rfl
 have cM:cellsAt M (h.next+1) 0 6=some (txnV t.ses t.req c' a' r' w'):=by
  rw[hM,cellsAt_row (get_set_same _ _) (Nat.le_of_ble_eq_true rfl)];rfl
 simp -implicitDefEqProofs (disch:=first|omega|simp only[go_sem]) only[go_sem,true_and,c33,hcl,next_push,← hH,cellAt_row ga,a1,n1,s1,cellAt_row g1,a2,n2,s2,cellAt_row g2,a3,n3,s3,cellAt_row g3,a4,n4,s4,ca,sa]
 refine ret_at (v:=txnV t.ses t.req c' a' r' w') ?_ ?_
 ·rw[dResults_c1]
  simp -implicitDefEqProofs (disch:=first|omega|simp only[go_sem]) only[go_sem,true_and,cM,dResC_some]
 ·exact ⟨_,_,_,_,rfl,by rw[hM];exact E4.set (by omega),y⟩
theorem refSameTxn_c {h:DHeap} {t:Txn} {vc va vr vw uc ua ur uw:Value} (x:TxV (InH h) h t vc va vr vw) (y:TxV (InH h) h t uc ua ur uw) (hl:TxLen t) :
 DC Try.prog 34 [txnV t.ses t.req vc va vr vw,txnV t.ses t.req uc ua ur uw] h (.ret (.bool true)) h:=by
 refine Ct.pure (go_34 (by simp) ?_) (vin_bool _)
 obtain ⟨q1,q2,q3,q4⟩:=hl
 have hc1:(txnV t.ses t.req vc va vr vw).cells.toList=[.int .i64 t.ses,.int .i64 t.req,vc,va,vr,vw]:=rfl
 have hc2:(txnV t.ses t.req uc ua ur uw).cells.toList=[.int .i64 t.ses,.int .i64 t.req,uc,ua,ur,uw]:=rfl
 obtain ⟨H,hH⟩:∃ H,H=(h.push (.row [.int .i64 t.ses,.int .i64 t.req,vc,va,vr,vw] 0 false)).push (.row [.int .i64 t.ses,.int .i64 t.req,uc,ua,ur,uw] 0 false):=⟨_,rfl⟩
 have hE:Ext h H:=by rw[hH];exact (Ext.push1 _ _).push _
 have ga:H.get h.next=some (.row [.int .i64 t.ses,.int .i64 t.req,vc,va,vr,vw] 0 false):=by rw[hH];exact get_p1
 have gb:H.get (h.next+1)=some (.row [.int .i64 t.ses,.int .i64 t.req,uc,ua,ur,uw] 0 false):=by rw[hH];exact get_push_same _ _
 have xH:=x.ext hE
 have yH:=y.ext hE
 simp -implicitDefEqProofs (disch:=first|omega|simp only[go_sem]) only[go_sem,true_and,c34,hc1,hc2,next_push,← hH,cellAt_row ga,cellAt_row gb,dPick_t,dPick_f,convB xH.c,convB yH.c,binB,beq_self_eq_true]
 refine ncall (sameInts_c xH.a yH.a (by omega)) ?_
 have d1:decide (t.args=t.args)=true:=by simp
 simp -implicitDefEqProofs (disch:=first|omega|simp only[go_sem]) only[go_sem,true_and,d1,dPick_t,dPick_f,cellAt_row ga,cellAt_row gb]
 refine ncall (sameKeys4_c xH.r yH.r (by omega)) ?_
 have d2:decide (t.reads=t.reads)=true:=by simp
 simp -implicitDefEqProofs (disch:=first|omega|simp only[go_sem]) only[go_sem,true_and,d2,dPick_t,dPick_f,cellAt_row ga,cellAt_row gb]
 refine ncall (sameKeys4_c xH.w yH.w (by omega)) ?_
 have d3:decide (t.writes=t.writes)=true:=by simp
 simp -implicitDefEqProofs (disch:=first|omega|simp only[go_sem]) only[go_sem,true_and,d3,dPick_t,dPick_f]
 exact ⟨_,rfl,rfl,hE⟩
end Go.Proofs.Ythjmkmoiopmfcaa

namespace Go.Proofs.Ythjmkmoiopmfcaa
open Go.D
set_option maxRecDepth 100000
def WrV (z j n:Nat) (w:Value) (D:Nat→Prop) (K:DHeap):Prop:=
 n=0∨∃ id o cap cells,w=.slice (some ⟨id,o,none⟩) n cap∧D id∧K.get id=some (.row cells z false)∧o+n*z≤cells.length∧∀ i<n,∃ x,cells[o+i*z+j]? = some (.int .i64 x)
theorem WrV.of {α:Type} {F:FRep α} {h K:DHeap} {v:Value} {l:List α} {j:Nat} (m:Made F h K v l) (hj:j<F.z) (hv:∀ x:α,∃ a,(F.enc x)[j]? = some (.int .i64 a)):WrV F.z j l.length v (Fresh h K) K:=by
 rcases Made.slW m with ⟨rfl,rfl⟩ | ⟨id,o,cap,cells,esz,ro,rfl,⟨hS,cs,z,g'⟩,g,hro,hl,_⟩
 ·exact .inl rfl
 ·rw[g]at g'
  cases g'
  rcases hro with hro | hro
  ·cases hro
  ·subst hro
   refine .inr ⟨id,o,cap,_,rfl,hS,g,hl,fun i hi=>?_⟩
   obtain ⟨id2,o2,cap2,e,_,hat⟩:=m.sl.at (i:=i) (x:=l[i]) (by simp)
   cases e
   obtain ⟨a,ha⟩:=hv l[i]
   have:=hat.flat.1 j hj
   rw[cellAt_row g,ha]at this
   exact ⟨a,this⟩
theorem WrV.keep {z j n:Nat} {w:Value} {D:Nat→Prop} {K K':DHeap} (x:WrV z j n w D K) (k:∀ i,D i→K'.get i=K.get i):WrV z j n w D K':=by
 rcases x with x | ⟨id,o,cap,cs,rfl,hd,gg,hlen,hc⟩
 ·exact .inl x
 ·exact .inr ⟨id,o,cap,cs,rfl,hd,(k id hd).trans gg,hlen,hc⟩
theorem WrV.step {P:Program} {t:TypeId} {z n i j:Nat} {w:Value} {D:Nat→Prop} {K:DHeap} (x:WrV z j n w D K) (hi:i<n) (hj:j<z) (hel:slElem P t=some z) :
 ∃ id o a,dIndexAddr P t w (.int .i64 (i:Nat))=some (.pointer (some ⟨id,o,none⟩))∧cellAt K id (o+j)=some (.int .i64 a)∧D id ∧
  ∀ b,∃ K',storeAt K id (o+j) [.int .i64 b]=some K'∧(∃ x,K'=K.set id x)∧WrV z j n w D K':=by
 rcases x with x | ⟨id,o,cap,cs,rfl,hd,gg,hlen,hc⟩
 ·omega
 ·obtain ⟨a,ha⟩:=hc i hi
  refine ⟨id,o+i*z,a,(dIndexAddr_at hel (by omega) (by omega)).trans (by rw[Int.toNat_natCast]),(cellAt_row gg).trans ha,hd,fun b=>?_⟩
  have hm:(i+1)*z≤n*z:=Nat.mul_le_mul_right _ hi
  rw[Nat.succ_mul]at hm
  refine ⟨_,storeAt_row gg (by show o+i*z+j+1≤cs.length;omega) rfl,⟨_,rfl⟩,.inr ⟨id,o,cap,setAt cs (o+i*z+j) [.int .i64 b],rfl,hd,get_set_same _ _,by rw[setAt_length];exact hlen,fun k hk=>?_⟩⟩
  rw[setAt_get]
  split
  ·rename_i hh
   have:o+k*z+j - (o+i*z+j)=0:=by
    obtain ⟨p,q,r⟩:=hh
    simp only[List.length_singleton]at q
    omega
   rw[this]
   exact ⟨b,rfl⟩
  ·exact hc k hk
theorem txn_box {S:Nat→Prop} {K:DHeap} {t:Txn} {vc va vr vw:Value} (x:TxV S K t vc va vr vw) :
 ∃ K1,dStore Try.prog 26 (.pointer (some ⟨K.next,0,none⟩)) (.agg #[.int .i64 t.ses,.int .i64 t.req,vc,va,vr,vw]) (K.push (.row [.int .i64 0,.int .i64 0,.slice none 0 0,.slice none 0 0,.slice none 0 0,.slice none 0 0] 0 false))=some K1∧Ext K K1∧K1.get K.next=some (.row [.int .i64 t.ses,.int .i64 t.req,vc,va,vr,vw] 0 false)∧K1.next=K.next+1:=
 ⟨K.push (.row [.int .i64 t.ses,.int .i64 t.req,vc,va,vr,vw] 0 false),(st_26 rfl).trans (storeAll_push rfl (x.one _ _)),Ext.push1 _ _,get_push_same _ _,rfl⟩
set_option maxHeartbeats 4000000 in
theorem ownLaw_c {h:DHeap} {t:Txn} {vc va vr vw v u:Value} {m:List Pair} {l:List Change} (x:TxV (InH h) h t vc va vr vw) (hT:TxLen t) (hb:Arg fPair.rep h v m) (hc:Arg fChange.rep h u l) (hl:m.length+l.length≤1048576) :
 DC Try.prog 10 [txnV t.ses t.req vc va vr vw,v,u] h (.ret (.bool true)) h:=by
 refine Ct.pure (go_10 (by simp) ?_) (vin_bool _)
 have hcl:(txnV t.ses t.req vc va vr vw).cells.toList=[.int .i64 t.ses,.int .i64 t.req,vc,va,vr,vw]:=rfl
 obtain ⟨H,hH⟩:∃ H,H=h.push (.row [.int .i64 t.ses,.int .i64 t.req,vc,va,vr,vw] 0 false):=⟨_,rfl⟩
 have hE:Ext h H:=by rw[hH];exact Ext.push1 _ _
 have gH:H.get h.next=some (.row [.int .i64 t.ses,.int .i64 t.req,vc,va,vr,vw] 0 false):=by rw[hH];exact get_push_same _ _
 have hHn:h.next<H.next:=by rw[hH];exact Nat.lt_succ_self _
 have lt:∀ K,Ext H K→cellsAt K h.next 0 6=some (txnV t.ses t.req vc va vr vw):=fun K e=>by
  rw[cellsAt_row ((e.get _ hHn).trans gH) (Nat.le_of_ble_eq_true rfl)]
  rfl
 simp -implicitDefEqProofs (disch:=first|omega|simp only[go_sem]) only[go_sem,true_and,c10,hcl,← hH]
 refine ncall begun_c ?_
 simp -implicitDefEqProofs (disch:=first|omega|simp only[go_sem]) only[go_sem,true_and]
 obtain ⟨A,hA⟩:∃ A,cloneH fPair H v m=A:=⟨_,rfl⟩
 obtain ⟨v',hv'⟩:∃ w,cloneV H v m=w:=⟨_,rfl⟩
 have cA:=clone_pairs (hb.ext hE) (by omega)
 have mA:=clone_made (h:=H) (hb.ext hE)
 rw[hA,hv']at cA mA
 have eA:=mA.ext
 refine ncall cA ?_
 simp -implicitDefEqProofs (disch:=first|omega|simp only[go_sem]) only[go_sem,true_and]
 obtain ⟨B,hB⟩:∃ G,cloneH fChange A u l=G:=⟨_,rfl⟩
 obtain ⟨u',hu'⟩:∃ w,cloneV A u l=w:=⟨_,rfl⟩
 have cB:=clone_chgs (hc.ext (hE.trans eA)) (by omega)
 have mB:=clone_made (h:=A) (hc.ext (hE.trans eA))
 rw[hB,hu']at cB mB
 have eB:=mB.ext
 refine ncall cB ?_
 have EB:Ext H B:=eA.trans eB
 simp -implicitDefEqProofs (disch:=first|omega|simp only[go_sem]) only[go_sem,true_and,lt B EB]
 refine ncall_ct (refClone_c (x.ext (hE.trans EB)) hT) ?_
 rintro r C ⟨nc,na,nr,nw,rfl,eC,xC⟩
 obtain ⟨C1,hst,eC1,gC1,nC1⟩:=txn_box xC
 have E1:Ext H C1:=(EB.trans eC).trans eC1
 have hCn:=eC.next
 simp -implicitDefEqProofs (disch:=first|omega|simp only[go_sem]) only[go_sem,true_and,XEnd,hst,lt C1 E1]
 refine ncall_ct (run_c (x.ext (hE.trans E1)) hT (hb.ext (hE.trans E1)) (by omega)) ?_
 obtain ⟨o,ho⟩:∃ o,runE t m 50=o:=⟨_,rfl⟩
 rw[ho]
 rintro r R ⟨vv,cv,rfl,mv,mc⟩
 have hsm:=runF_small (t:=t) (l:=m) (f:=50)
 rw[ho]at hsm
 obtain ⟨R1,hst2,eR,gR,nR⟩:=out_box (e:=o.e) (k:=o.s) mv.sl mc.sl
 have lc:∀ K,dLen Try.prog #[30] cv K=some (.int .i64 (o.ch.length:Nat)):=mc.arg.lens (P:=Try.prog) (ts:=#[30]) (t:=30) rfl isl_30
 have c2:∀ K,KpD (Fresh C1 R) R1 K→cellAt K R.next 2=some cv:=fun K k=>cellAt_row ((k.get _ (by omega) (fun hh=>Nat.lt_irrefl _ hh.2)).trans gR)
 have w0:WrV 4 2 o.ch.length cv (Fresh C1 R) R1:=(WrV.of (F:=fChange) (j:=2) mc (Nat.le_of_ble_eq_true rfl) fun y=>⟨y.v,rfl⟩).keep fun i hi=>eR.get i hi.2
 have ECR:Ext C1 R1:=mv.ext.trans eR
 simp -implicitDefEqProofs (disch:=first|omega|simp only[go_sem]) only[go_sem,true_and,XEnd,hst2,c2 R1 (.refl _ _),lc]
 refine xloop (σ:=Nat) (by kernel_rfl) (fun i s=>s.df=[]∧s.rd=none∧s.fr 1=some v∧s.fr 2=some u∧s.fr 3=some (.pointer (some ⟨h.next,0,none⟩))∧s.fr 7=some v'∧s.fr 8=some u'∧s.fr 9=some (.pointer (some ⟨C.next,0,none⟩))∧s.fr 10=some (.pointer (some ⟨R.next,0,none⟩))∧s.fr 28=some (.int .i64 (o.ch.length:Nat))∧s.fr 29=some (.int .i64 (i:Nat))∧i≤o.ch.length∧KpD (Fresh C1 R) R1 s.h∧WrV 4 2 o.ch.length cv (Fresh C1 R) s.h) (fun i=>o.ch.length - i) 0 ?_ ?_
 ·simp -implicitDefEqProofs (disch:=first|omega|simp only[go_sem]) only[go_sem,true_and]
  exact ⟨by trivial,Nat.zero_le _,.refl _ _,w0⟩
 rintro i ⟨fr,df,K,rd⟩ K' hK' hX ⟨rfl,rfl,f1,f2,f3,f7,f8,f9,f10,f28,f29,hi,kK,wK⟩
 simp only at f1 f2 f3 f7 f8 f9 f10 f28 f29 kK wK
 simp -implicitDefEqProofs (disch:=first|omega|simp only[go_sem]) only[go_sem,true_and,f28,f29]
 refine XIf_dec (fun hc1=>?_) (fun hc1=>?_)
 ·have hj:i<o.ch.length:=by omega
  obtain ⟨id1,o1,a,i1,a1,hd,st⟩:=wK.step (P:=Try.prog) (t:=30) hj (by omega) el_30
  obtain ⟨K2,s1,⟨ob,hK2⟩,wK2⟩:=st (IntKind.i64.wrap (a+1))
  have hw:=wrap_succ hj (by omega)
  simp -implicitDefEqProofs (disch:=first|omega|simp only[go_sem]) only[go_sem,true_and,f10,f29,c2 K kK,i1,a1,s1,hw]
  refine hK' (i+1) _ ?_ (by omega)
  exact ⟨by trivial,by trivial,(vy f1),(vy f2),(vy f3),(vy f7),(vy f8),(vy f9),(vy f10),(vy f28),vz,by omega,by rw[hK2];exact kK.set (.inl hd),wK2⟩
 refine hX _ _ (by simp) ?_
 have EK:Ext C1 K:=kK.toExt ECR fun i hi=>hi.1
 clear hK' hX K' f28 f29 hc1 hi
 have E2:Ext H K:=E1.trans EK
 simp -implicitDefEqProofs (disch:=first|omega|simp only[go_sem]) only[go_sem,true_and]
 refine yr_10_0 rfl ?_
 simp -implicitDefEqProofs (disch:=first|omega|simp only[go_sem]) only[go_sem,true_and,g10_0,q10_0,l10_0,f1,f2,f3,lt K E2]
 refine ycall_ct (apply_c (hb.ext (hE.trans E2)) (hc.ext (hE.trans E2)) hl) ?_
 rintro r P1 ⟨w1,rfl,m1⟩
 have e1:=m1.ext
 simp -implicitDefEqProofs (disch:=first|omega|simp only[go_sem]) only[go_sem,true_and,YEnd,lt P1 (E2.trans e1)]
 refine ycall_ct (needs_c (x.ext (hE.trans (E2.trans e1))) (hb.ext (hE.trans (E2.trans e1))) (by omega) (by have:=hT.r;omega)) ?_
 rintro r P2 ⟨w2,rfl,m2⟩
 have e2:=m2.ext
 have q1:=applyN_len m l
 have q2:(needsN t m).length≤m.length:=Nat.le_trans (List.length_filter_le _ _) (byK_len _)
 obtain ⟨P3,hP3⟩:∃ P,P=P2.push (.row [w1,w2] 1 false):=⟨_,rfl⟩
 have hbs:dBuildSlice Try.prog 69 2 [(0,w1),(1,w2)] P2=some (.slice (some ⟨P2.next,0,none⟩) 2 2,P3):=by
  rw[bs2_69 (by rw[m1.sl.cells1];rfl) (by rw[m2.sl.cells1];rfl),m1.sl.cells1,m2.sl.cells1,hP3]
  rfl
 have e3:Ext P2 P3:=by rw[hP3];exact Ext.push1 _ _
 have nP3:P3.next=P2.next+1:=by rw[hP3];rfl
 have gP3:P3.get P2.next=some (.row [w1,w2] 1 false):=by rw[hP3];exact get_push_same _ _
 have hn1:=e1.next
 have hn2:=e2.next
 simp -implicitDefEqProofs (disch:=first|omega|simp only[go_sem]) only[go_sem,true_and,YEnd,hbs,lt P2 ((E2.trans e1).trans e2)]
 obtain ⟨ws,hws⟩:∃ ws:Nat→Value,ws=fun k=>if k=0 then w1 else w2:=⟨_,rfl⟩
 obtain ⟨ns,hns⟩:∃ ns:Nat→Nat,ns=fun k=>if k=0 then (applyN m l).length else (needsN t m).length:=⟨_,rfl⟩
 obtain ⟨ds,hds⟩:∃ ds:Nat→Nat→Prop,ds=fun k=>if k=0 then Fresh K P1 else Fresh P1 P2:=⟨_,rfl⟩
 have dsI:∀ k i,ds k i→Fresh K P2 i:=fun k i hk=>by
  rw[hds]at hk
  try simp only at hk
  split at hk
  ·exact ⟨hk.1,by have:=hk.2;omega⟩
  ·exact ⟨by have:=hk.1;omega,hk.2⟩
 have dsD:∀ k k' i,k<k'→k'<2→ds k i→¬ ds k' i:=fun k k' i hk hk2 hp hq=>by
  rw[hds]at hp hq
  try simp only at hp hq
  rw[if_neg (show ¬ k'=0 by omega)]at hq
  rw[if_pos (show k=0 by omega)]at hp
  exact absurd hq.1 (by have:=hp.2;omega)
 have nsL:∀ k,ns k≤1048576:=fun k=>by
  rw[hns]
  try simp only
  split <;> omega
 have hli:∀ k K,dLen Try.prog #[27] (ws k) K=some (.int .i64 (ns k:Nat)):=fun k K=>by
  rw[hws,hns]
  try simp only
  split
  ·exact m1.arg.lens (P:=Try.prog) (ts:=#[27]) (t:=27) rfl isl_27 K
  ·exact m2.arg.lens (P:=Try.prog) (ts:=#[27]) (t:=27) rfl isl_27 K
 have w3:∀ k,k<2→WrV 3 2 (ns k) (ws k) (ds k) P3:=fun k hk=>by
  rw[hws,hns,hds]
  simp only
  split
  ·exact (WrV.of (F:=fPair) (j:=2) m1 (Nat.le_of_ble_eq_true rfl) fun y=>⟨y.v,rfl⟩).keep fun i hi=>(e2.trans e3).get i hi.2
  ·exact (WrV.of (F:=fPair) (j:=2) m2 (Nat.le_of_ble_eq_true rfl) fun y=>⟨y.v,rfl⟩).keep fun i hi=>e3.get i hi.2
 have c3:∀ k M,k<2→KpD (Fresh K P2) P3 M→cellAt M P2.next k=some (ws k):=fun k M hk kp=>by
  rw[cellAt_row ((kp.get _ (by omega) (fun hh=>Nat.lt_irrefl _ hh.2)).trans gP3),hws]
  match k,hk with
  | 0,_=>rfl
  | 1,_=>rfl
 have ix:∀ k,k<2→dIndexAddr Try.prog 69 (.slice (some ⟨P2.next,0,none⟩) 2 2) (.int .i64 (k:Nat))=some (.pointer (some ⟨P2.next,k,none⟩)):=fun k hk=>by
  rw[dIndexAddr_at el_69 (by omega) (by omega)]
  simp
 refine xloop (σ:=Nat) (by kernel_rfl) (fun i s=>s.df=[]∧s.rd=none∧s.fr 1=some v∧s.fr 2=some u∧s.fr 3=some (.pointer (some ⟨h.next,0,none⟩))∧s.fr 7=some v'∧s.fr 8=some u'∧s.fr 9=some (.pointer (some ⟨C.next,0,none⟩))∧s.fr 48=some (.slice (some ⟨P2.next,0,none⟩) 2 2)∧s.fr 49=some (.int .i64 2)∧s.fr 50=some (.int .i64 (i:Nat))∧i≤2∧KpD (Fresh K P2) P3 s.h∧∀ k,i≤k→k<2→WrV 3 2 (ns k) (ws k) (ds k) s.h) (fun i=>2 - i) 0 ?_ ?_
 ·simp -implicitDefEqProofs (disch:=first|omega|simp only[go_sem]) only[go_sem,true_and,f1,f2,f3,f7,f8,f9]
  exact ⟨rfl,rfl,Nat.zero_le _,.refl _ _,fun k _ hk=>w3 k hk⟩
 clear f1 f2 f3 f7 f8 f9 f10
 rintro i ⟨fr,df,M,rd⟩ K' hK' hX ⟨rfl,rfl,f1,f2,f3,f7,f8,f9,f48,f49,f50,hi,kM,wM⟩
 simp only at f1 f2 f3 f7 f8 f9 f48 f49 f50 kM wM
 simp -implicitDefEqProofs (disch:=first|omega|simp only[go_sem]) only[go_sem,true_and,f49,f50]
 refine XIf_dec (fun hc1=>?_) (fun hc1=>?_)
 ·have hj:i<2:=by omega
  simp -implicitDefEqProofs (disch:=first|omega|simp only[go_sem]) only[go_sem,true_and,f48,f50,ix i hj,c3 i M hj kM,hli]
  refine xloop (σ:=Nat) (by kernel_rfl) (fun k s=>s.df=[]∧s.rd=none∧s.fr 1=some v∧s.fr 2=some u∧s.fr 3=some (.pointer (some ⟨h.next,0,none⟩))∧s.fr 7=some v'∧s.fr 8=some u'∧s.fr 9=some (.pointer (some ⟨C.next,0,none⟩))∧s.fr 48=some (.slice (some ⟨P2.next,0,none⟩) 2 2)∧s.fr 49=some (.int .i64 2)∧s.fr 50=some (.int .i64 (i:Nat))∧s.fr 13=some (ws i)∧s.fr 55=some (.int .i64 (ns i:Nat))∧s.fr 56=some (.int .i64 (k:Nat))∧k≤ns i∧KpD (ds i) M s.h∧WrV 3 2 (ns i) (ws i) (ds i) s.h) (fun k=>ns i - k) 0 ?_ ?_
  ·simp -implicitDefEqProofs (disch:=first|omega|simp only[go_sem]) only[go_sem,true_and,f1,f2,f3,f7,f8,f9,f48,f49,f50]
   exact ⟨by trivial,Nat.zero_le _,.refl _ _,wM i (Nat.le_refl _) hj⟩
  clear f1 f2 f3 f7 f8 f9 f48 f49 f50
  rintro k ⟨fr,df,N,rd⟩ L' hL' hY ⟨rfl,rfl,f1,f2,f3,f7,f8,f9,f48,f49,f50,f13,f55,f56,hk,kN,wN⟩
  simp only at f1 f2 f3 f7 f8 f9 f48 f49 f50 f13 f55 f56 kN wN
  simp -implicitDefEqProofs (disch:=first|omega|simp only[go_sem]) only[go_sem,true_and,f55,f56]
  refine XIf_dec (fun hc2=>?_) (fun hc2=>?_)
  ·have hk2:k<ns i:=by omega
   have hL:=nsL i
   obtain ⟨id1,o1,a,i1,a1,hd,st⟩:=wN.step (P:=Try.prog) (t:=27) hk2 (by omega) el_27
   obtain ⟨N2,s1,⟨ob,hN2⟩,wN2⟩:=st (IntKind.i64.wrap (a+1))
   have hw:=wrap_succ hk2 (by omega)
   simp -implicitDefEqProofs (disch:=first|omega|simp only[go_sem]) only[go_sem,true_and,f13,f56,i1,a1,s1,hw]
   refine hL' (k+1) _ ?_ (by omega)
   exact ⟨by trivial,by trivial,(vy f1),(vy f2),(vy f3),(vy f7),(vy f8),(vy f9),(vy f48),(vy f49),(vy f50),(vy f13),(vy f55),vz,by omega,by rw[hN2];exact kN.set (.inl hd),wN2⟩
  refine hY _ _ (by simp) ?_
  have hw:=wrap_succ hj (by omega)
  have kp:KpD (Fresh K P2) P3 N:=⟨Nat.le_trans kM.next kN.next,kN.ng.trans kM.ng,fun j h1 h2=>(kN.get j (Nat.lt_of_lt_of_le h1 kM.next) fun hd=>h2 (dsI _ _ hd)).trans (kM.get j h1 h2)⟩
  simp -implicitDefEqProofs (disch:=first|omega|simp only[go_sem]) only[go_sem,true_and,f50,hw]
  refine hK' (i+1) _ ?_ (by omega)
  refine ⟨by trivial,by trivial,(vy f1),(vy f2),(vy f3),(vy f7),(vy f8),(vy f9),(vy f48),(vy f49),vz,by omega,kp,fun q h1 h2=>(wM q (by omega) h2).keep fun j hd=>kN.get j ?_ (fun hh=>dsD i q j (by omega) h2 hh hd)⟩
  have:=(dsI _ _ hd).2
  have:=kM.next
  omega
 refine hX _ _ (by simp) ?_
 have hne:Ext K P3:=(e1.trans e2).trans e3
 have EM:Ext C1 M:=EK.trans (kM.toExt hne fun i hi=>hi.1)
 have EHM:Ext H M:=E1.trans EM
 have ehM:Ext h M:=hE.trans EHM
 have cM:cellsAt M C.next 0 6=some (txnV t.ses t.req nc na nr nw):=by
  rw[cellsAt_row ((EM.get _ (by omega)).trans gC1) (Nat.le_of_ble_eq_true rfl)]
  rfl
 have aA:Arg fPair.rep M v' m:=mA.arg.ext (((eB.trans eC).trans eC1).trans EM)
 have aB:Arg fChange.rep M u' l:=mB.arg.ext ((eC.trans eC1).trans EM)
 have xM:TxV (InH M) M t nc na nr nw:=xC.mono fun i hi=>⟨Nat.lt_of_lt_of_le hi.2 (eC1.trans EM).next,(eC1.trans EM).get i hi.2⟩
 simp -implicitDefEqProofs (disch:=first|omega|simp only[go_sem]) only[go_sem,true_and,f1,f7]
 refine ncall (eqPair_c (hb.ext ehM) aA (by omega)) ?_
 have d1:decide (m=m)=true:=by simp
 simp -implicitDefEqProofs (disch:=first|omega|simp only[go_sem]) only[go_sem,true_and,d1,dPick_t,dPick_f,f2,f8]
 refine ncall (eqChg_c (hc.ext ehM) aB (by omega)) ?_
 have d2:decide (l=l)=true:=by simp
 simp -implicitDefEqProofs (disch:=first|omega|simp only[go_sem]) only[go_sem,true_and,d2,dPick_t,dPick_f,f3,f9,lt M EHM,cM]
 refine ncall (refSameTxn_c (x.ext ehM) xM hT) ?_
 simp -implicitDefEqProofs (disch:=first|omega|simp only[go_sem]) only[go_sem,true_and,dPick_t,dPick_f,f1,f7]
 refine ncall (samePairs_c (hb.ext ehM) aA (by omega)) ?_
 simp -implicitDefEqProofs (disch:=first|omega|simp only[go_sem]) only[go_sem,true_and,d1,dPick_t,dPick_f]
 exact ⟨_,rfl,rfl,ehM⟩
end Go.Proofs.Ythjmkmoiopmfcaa

namespace Go.Proofs.Ythjmkmoiopmfcaa.lawOwnE
open Go.D
open Go.ChangeShapes Go.WideShapes Go.ChangeAt Go.RowKit
theorem own:ownKnob Try.prog.godebug=none:=by kernel_rfl
set_option maxRecDepth 100000 in
theorem lifted (os:Os) (started:os.Started) (H:Type) (enc:TypeId × Value→H) (F:Stop.Interp) :
 ReturnsInHanded {} Try.checked os 10 .any ((Rows.OpenSpec.upto Rows.evalOwnSpec).pre6 enc Try.prog Try.f10 Rows.evalOwnUptoRow.domain false) (((Rows.OpenSpec.upto Rows.evalOwnSpec).at F).post enc Try.prog Try.f10 false true false false):=by
 refine returnsInHanded_of_cond (C:=Try.checked) (s:=Rows.OpenSpec.upto Rows.evalOwnSpec) (k:=Rows.uptoSmall) rfl own started (by kernel_rfl) Try.func10
  (OpenSpec.witness (enc:=enc) (C:=Try.checked) (s:=Rows.OpenSpec.upto Rows.evalOwnSpec) (k:=Rows.uptoSmall) rfl false ⟨#[],#[.agg #[.int .i64 0,.int .i64 0,.slice none 0 0,.slice none 0 0,.slice none 0 0,.slice none 0 0],.slice none 0 0,.slice none 0 0],[]⟩ 8 (by kernel_rfl) (by kernel_rfl) (by kernel_rfl)
    (x:=([.agg [.lit (.int .i64 0),.lit (.int .i64 0),.nil,.nil,.nil,.nil],.nil,.nil],[],[])) (by kernel_rfl) rfl (by kernel_rfl)) ?_
 intro W base args ds gs before hval hW _ hk _
 refine law_kept (by kernel_rfl)
  (.cons (agg:=true) par_txn lay_txn (.cons (agg:=false) par_pairs lay_pairs (.cons (agg:=false) par_changes lay_changes .nil))) (tb:=4) (by kernel_rfl) (by kernel_rfl) rfl (fun ds hl=>?_) (fun h vs x hng hq hB=>?_) W base args ds gs before hval hW hk
 ·match ds,hl with
  | [d0,d1,d2],_=>rfl
 ·obtain ⟨cs,vs1,rfl,h1,cs2,vs2,rfl,⟨v,rfl,hv⟩,cs3,vs3,rfl,⟨u,rfl,hu⟩,rfl⟩:=hq
  obtain ⟨vc,va,vr,vw,rfl,_,_,tx⟩:=txn_in h1
  have q1:=sumB_len3 x.2.1
  have q2:=sumB_len4 x.2.2.1
  exact (ownLaw_c tx (txn_len (by omega)) hv hu (by omega)).ct rfl
theorem p1:Try.pinned.checked.prog.funcNamed Rows.evalOwnUptoRow.func=some 10:=by kernel_rfl
theorem p2:joinedFacts Try.pinned.checked.prog 10 Try.f10 (Rows.OpenSpec.upto Rows.evalOwnSpec).bare Rows.evalOwnUptoRow=true:=by kernel_rfl
theorem p3:Try.f10.isInstance Try.pinned.checked.prog Rows.evalOwnUptoRow.origin Rows.evalOwnUptoRow.targs:=of_decide_eq_true (by kernel_rfl)
theorem p4:Try.f10.isWrapper Try.pinned.checked.prog Rows.evalOwnUptoRow.wrapper Rows.evalOwnUptoRow.mainSum:=by unfold Func.isWrapper;first | (rw[if_pos (by decide +kernel)];kernel_rfl) | (rw[if_neg (by decide +kernel)];exact ⟨rfl,rfl⟩)
theorem proved:Rows.EvalOwnUptoSaid:=
 OpenClaim.holds_of_cond 10 Try.f10 rfl rfl rfl rfl rfl rfl rfl ⟨rfl,rfl,rfl,rfl,rfl⟩ rfl rfl rfl rfl rfl p1 Try.func10 p2 p3 p4
  (fun os started H enc _ F=>lifted os started H enc F)
end Go.Proofs.Ythjmkmoiopmfcaa.lawOwnE
