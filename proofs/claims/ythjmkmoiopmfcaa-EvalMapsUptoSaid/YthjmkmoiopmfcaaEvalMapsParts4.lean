/-
EvalMaps: changes by keys, a map behind changes, and the values that a transaction reads, are what the reference says, for every input of bulk at most 1048576. Conditions: none.
-/
import Derived.Test.YthjmkmoiopmfcaaRows
import Derived.WalkKit
import Derived.ProofKit
import Derived.OpenShut
import Derived.JoinedCond
import Derived.Test.YthjmkmoiopmfcaaBase1
import Derived.Test.YthjmkmoiopmfcaaBase2
import Derived.Test.YthjmkmoiopmfcaaEvalMapsParts1
import Derived.Test.YthjmkmoiopmfcaaEvalMapsParts2
import Derived.Test.YthjmkmoiopmfcaaEvalMapsParts3
set_option linter.unusedSimpArgs false
set_option linter.unusedVariables false
namespace Go.Proofs.Ythjmkmoiopmfcaa
open Go.D
set_option maxRecDepth 100000
theorem applyR_take {m:List Pair} {l:List Change} {i:Nat} (hi:i<l.length):applyR m (l.take (i+1))=app1 (applyR m (l.take i)) l[i]:=by
 rw[List.take_succ_eq_append_getElem hi,applyR_snoc]
set_option maxHeartbeats 2000000 in
theorem refApply_c {h:DHeap} {v u:Value} {m:List Pair} {l:List Change} (hb:Arg fPair.rep h v m) (hc:Arg fChange.rep h u l) (hl:m.length+l.length≤1048576) :
 Ct Try.prog 30 [v,u] h fun r h1=>∃ w,r=.ret w∧Made fPair h h1 w (applyN m l):=by
 rw[← applyR_eq]
 refine go_30 (by simp) ?_
 have elu:∀ K,dLen Try.prog #[30] u K=some (.int .i64 (l.length:Nat)):=hc.lens (P:=Try.prog) (ts:=#[30]) (t:=30) rfl isl_30
 simp -implicitDefEqProofs (disch:=first|omega|simp only[go_sem]) only[go_sem,true_and,c30]
 refine ncall_ct (refPairs_c hb (by omega)) ?_
 rintro r H ⟨w,rfl,mw⟩
 simp -implicitDefEqProofs (disch:=first|omega|simp only[go_sem]) only[go_sem,true_and,XEnd]
 refine xloop (σ:=Nat) (by kernel_rfl) (fun i s=>s.df=[]∧s.rd=none∧s.fr 1=some u∧s.fr 6=some (.int .i64 (i:Nat))∧i≤l.length∧∃ ov,s.fr 5=some ov∧Made fPair h s.h ov (applyR m (l.take i))) (fun i=>l.length - i) 0 ?_ ?_
 ·simp -implicitDefEqProofs (disch:=first|omega|simp only[go_sem]) only[go_sem,true_and]
  exact ⟨by trivial,Nat.zero_le _,_,rfl,mw⟩
 rintro i ⟨fr,df,K,rd⟩ K' hK' hX ⟨rfl,rfl,f1,f6,hi,ov,f5,mo⟩
 simp only at f1 f6 f5 mo
 simp -implicitDefEqProofs (disch:=first|omega|simp only[go_sem]) only[go_sem,true_and,f1,f6,elu]
 refine XIf_dec (fun hc1=>?_) (fun hc1=>?_)
 ·have hj:i<l.length:=by omega
  have eK:=mo.ext
  have hstep:=applyR_take (m:=m) hj
  obtain ⟨os,hos⟩:∃ os,applyR m (l.take i)=os:=⟨_,rfl⟩
  rw[hos]at mo hstep
  have hol:os.length≤m.length+i:=by
   rw[← hos,applyR_eq]
   have h1:=applyN_len m (l.take i)
   have h2:=List.length_take (i:=i) (l:=l)
   omega
  have elo:∀ K,dLen Try.prog #[27] ov K=some (.int .i64 (os.length:Nat)):=mo.arg.lens (P:=Try.prog) (ts:=#[27]) (t:=27) rfl isl_27
  obtain ⟨c,hcc⟩:∃ c,l[i]=c:=⟨_,rfl⟩
  have lat:∀ N,Ext h N→∃ id o,dIndexAddr Try.prog 30 u (.int .i64 (i:Nat))=some (.pointer (some ⟨id,o,none⟩))∧cellsAt N id o 2=some (keyV c.k)∧cellAt N id (o+2)=some (.int .i64 c.v)∧cellAt N id (o+3)=some (.bool c.e):=fun N e=>by
   obtain ⟨id,o,i1,_,hat⟩:=(hc.ext e).idx (P:=Try.prog) (t:=30) el_30 (k:=.i64) (i:=i) (x:=c) (by rw[← hcc];simp)
   exact ⟨id,o,i1,chg_key hat,hat.flat.1 2 (by decide),hat.flat.1 3 (by decide)⟩
  rw[hcc]at hstep
  simp -implicitDefEqProofs (disch:=first|omega|simp only[go_sem]) only[go_sem,true_and]
  refine XLoop_cut (fun s=>s.df=[]∧s.rd=none∧s.fr 1=some u∧s.fr 6=some (.int .i64 (i:Nat))∧∃ xv,s.fr 7=some xv∧Made fPair K s.h xv (os.filter fun p=>!decide (p.k=c.k))) ?_ ?_
  ·refine xloop (σ:=Nat) (by kernel_rfl) (fun j s=>s.df=[]∧s.rd=none∧s.fr 1=some u∧s.fr 5=some ov∧s.fr 6=some (.int .i64 (i:Nat))∧s.fr 8=some (.int .i64 (j:Nat))∧j≤os.length∧∃ xv,s.fr 7=some xv∧Made fPair K s.h xv ((os.take j).filter fun p=>!decide (p.k=c.k))) (fun j=>os.length - j) 0 ?_ ?_
   ·simp -implicitDefEqProofs (disch:=first|omega|simp only[go_sem]) only[go_sem,true_and,f1,f5,f6]
    exact ⟨by trivial,Nat.zero_le _,_,rfl,.nil _ (.refl K)⟩
   rintro j ⟨fr,df,N,rd⟩ K2' hK2 hX2 ⟨rfl,rfl,f1,f5,f6,f8,hjl,xv,f7,mx⟩
   simp only at f1 f5 f6 f8 f7 mx
   simp -implicitDefEqProofs (disch:=first|omega|simp only[go_sem]) only[go_sem,true_and,f5,f8,elo]
   refine XIf_dec (fun hc2=>?_) (fun hc2=>?_)
   ·have hjo:j<os.length:=by omega
    have eN:=mx.ext
    obtain ⟨id1,o1,i1,_,hat1⟩:=(mo.arg.ext eN).idx (P:=Try.prog) (t:=27) el_27 (k:=.i64) (i:=j) (x:=os[j]) (by simp)
    have k1:cellsAt N id1 o1 2=some (keyV os[j].k):=pair_key hat1
    have l1:cellsAt N id1 o1 3=some (pairV os[j]):=hat1.flat.2.1
    obtain ⟨id2,o2,i2,k2,_,_⟩:=lat N (eK.trans eN)
    have hw:=wrap_succ hjo (by omega)
    simp -implicitDefEqProofs (disch:=first|omega|simp only[go_sem]) only[go_sem,true_and]
    refine yr_30_0 rfl ?_
    simp -implicitDefEqProofs (disch:=first|omega|simp only[go_sem]) only[go_sem,true_and,g30_0,q30_0,f1,f5,f6,f8,i1,i2,k1,k2,bin_key]
    have htake:(os.take (j+1)).filter (fun p=>!decide (p.k=c.k))=((os.take j).filter fun p=>!decide (p.k=c.k))++[os[j]].filter fun p=>!decide (p.k=c.k):=by
     rw[List.take_succ_eq_append_getElem hjo,List.filter_append]
    by_cases he:os[j].k=c.k
    ·have hed:=decide_eq_true he
     simp -implicitDefEqProofs (disch:=first|omega|simp only[go_sem]) only[go_sem,true_and,hed,f8,hw]
     refine hK2 (j+1) _ ?_ (by omega)
     refine ⟨by trivial,by trivial,(vy f1),(vy f5),(vy f6),vz,by omega,xv,(vy f7),?_⟩
     rw[htake,List.filter_cons_of_neg (by simp[he]),List.filter_nil,List.append_nil]
     exact mx
    ·have hed:=decide_eq_false he
     have hfl:((os.take j).filter fun p=>!decide (p.k=c.k)).length+1≤4294967296:=by
      have h1:=List.length_filter_le (fun p:Pair=>!decide (p.k=c.k)) (os.take j)
      have h2:=List.length_take (i:=j) (l:=os)
      omega
     obtain ⟨xv',N3,e6,m6⟩:=mx.snoc app_27 (y:=os[j]) (cs:=[.int .i32 os[j].k.t,.int .i64 os[j].k.r,.int .i64 os[j].v]) (z:=3) rfl rfl (mo.ok _ (List.getElem_mem hjo)) hfl (by decide)
     simp -implicitDefEqProofs (disch:=first|omega|simp only[go_sem]) only[go_sem,true_and,hed,f5,f7,f8,i1,l1,e6,hw]
     refine hK2 (j+1) _ ?_ (by omega)
     refine ⟨by trivial,by trivial,(vy f1),(vy f5),(vy f6),vz,by omega,xv',vz,?_⟩
     rw[htake,List.filter_cons_of_pos (by simp[he]),List.filter_nil]
     exact m6
   ·obtain rfl:j=os.length:=by omega
    rw[List.take_length]at mx
    refine hX2 _ _ (by simp) ?_
    exact ⟨by trivial,by trivial,(vy f1),(vy f6),xv,(vy f7),mx⟩
  rintro ⟨fr,df,N,rd⟩ ⟨hdf,hrd,f1,f6,xv,f7,mx⟩
  simp only at hdf hrd f1 f6 f7 mx
  subst hdf hrd
  have eN:=mx.ext
  obtain ⟨id2,o2,i2,k2,v2,q2⟩:=lat N (eK.trans eN)
  have hw:=wrap_succ hj (by omega)
  have hfl:(os.filter fun p=>!decide (p.k=c.k)).length≤os.length:=List.length_filter_le _ _
  simp -implicitDefEqProofs (disch:=first|omega|simp only[go_sem]) only[go_sem,true_and,f1,f6,i2,q2]
  refine XIf_split (fun he=>?_) (fun he=>?_)
  ·have he:c.e=false:=by simpa using he
   have hcok:fPair.ok ⟨c.k,c.v⟩:=by
    have:=hc.ok c (hcc▸List.getElem_mem hj)
    exact ⟨this.1,this.2.1⟩
   obtain ⟨xv',N3,e6,m6⟩:=mx.snoc app_27 (y:=⟨c.k,c.v⟩) (cs:=[.int .i32 c.k.t,.int .i64 c.k.r,.int .i64 c.v]) (z:=3) rfl rfl hcok (by omega) (by decide)
   have happ:app1 os c=byK Pair.k ((os.filter fun p=>!decide (p.k=c.k))++[⟨c.k,c.v⟩]):=by
    unfold app1
    rw[he]
    rfl
   simp -implicitDefEqProofs (disch:=first|omega|simp only[go_sem]) only[go_sem,true_and]
   refine yr_30_1 rfl ?_
   simp -implicitDefEqProofs (disch:=first|omega|simp only[go_sem]) only[go_sem,true_and,g30_1,q30_1,f1,f6,f7,i2,k2,v2,bd_pairK,e6]
   refine ncall_ct (refPairs_c m6.arg (by rw[List.length_append];simp;omega)) ?_
   rintro r N4 ⟨w4,rfl,m4⟩
   simp -implicitDefEqProofs (disch:=first|omega|simp only[go_sem]) only[go_sem,true_and,XEnd,f6,hw]
   refine hK' (i+1) _ ?_ (by omega)
   refine ⟨by trivial,by trivial,(vy f1),vz,by omega,w4,vz,?_⟩
   rw[hstep,happ]
   exact m4.base (eK.trans m6.ext)
  ·have he:c.e=true:=by simpa using he
   have happ:app1 os c=byK Pair.k (os.filter fun p=>!decide (p.k=c.k)):=by
    unfold app1
    rw[he]
    simp
   simp -implicitDefEqProofs (disch:=first|omega|simp only[go_sem]) only[go_sem,true_and,f7]
   refine ncall_ct (refPairs_c mx.arg (by omega)) ?_
   rintro r N4 ⟨w4,rfl,m4⟩
   simp -implicitDefEqProofs (disch:=first|omega|simp only[go_sem]) only[go_sem,true_and,XEnd,f6,hw]
   refine hK' (i+1) _ ?_ (by omega)
   refine ⟨by trivial,by trivial,(vy f1),vz,by omega,w4,vz,?_⟩
   rw[hstep,happ]
   exact m4.base (eK.trans eN)
 ·obtain rfl:i=l.length:=by omega
  rw[List.take_length]at mo
  refine hX _ _ (by simp) ?_
  simp -implicitDefEqProofs (disch:=first|omega|simp only[go_sem]) only[go_sem,true_and,f5]
  exact ⟨_,rfl,_,rfl,mo⟩
end Go.Proofs.Ythjmkmoiopmfcaa

namespace Go.Proofs.Ythjmkmoiopmfcaa
open Go.D
set_option maxRecDepth 100000
set_option maxHeartbeats 1000000 in
theorem mapsLaw_c {h:DHeap} {t:Txn} {vc va vr vw v u:Value} {m:List Pair} {l:List Change} (hb:Arg fPair.rep h v m) (hc:Arg fChange.rep h u l) (x:TxV (InH h) h t vc va vr vw) (hl:m.length+l.length≤1048576) (hr:t.reads.length≤4294967296) :
 DC Try.prog 8 [v,u,txnV t.ses t.req vc va vr vw] h (.ret (.bool true)) h:=by
 refine Ct.pure (go_8 (by simp) ?_) (vin_bool _)
 have hcl:(txnV t.ses t.req vc va vr vw).cells.toList=[.int .i64 t.ses,.int .i64 t.req,vc,va,vr,vw]:=rfl
 obtain ⟨H,hH⟩:∃ H,H=h.push (.row [.int .i64 t.ses,.int .i64 t.req,vc,va,vr,vw] 0 false):=⟨_,rfl⟩
 have hE:Ext h H:=by rw[hH];exact Ext.push1 _ _
 have gH:H.get h.next=some (.row [.int .i64 t.ses,.int .i64 t.req,vc,va,vr,vw] 0 false):=by rw[hH];exact get_push_same _ _
 have hHn:h.next<H.next:=by rw[hH];exact Nat.lt_succ_self _
 have lt:∀ K,Ext H K→cellsAt K h.next 0 6=some (txnV t.ses t.req vc va vr vw):=fun K e=>by
  rw[cellsAt_row ((e.get _ hHn).trans gH) (Nat.le_of_ble_eq_true rfl)]
  rfl
 simp -implicitDefEqProofs (disch:=first|omega|simp only[go_sem]) only[go_sem,true_and,c8,hcl,← hH]
 refine yr_8_0 rfl ?_
 simp -implicitDefEqProofs (disch:=first|omega|simp only[go_sem]) only[go_sem,true_and,g8_0,q8_0,l8_0]
 refine ycall begun_c ?_
 simp -implicitDefEqProofs (disch:=first|omega|simp only[go_sem]) only[go_sem,true_and,dPick_t,dPick_f]
 have hn1:=byK_len (key:=Change.k) l
 refine ycall_ct (changes_c (hc.ext hE) (by omega)) ?_
 rintro r K1 ⟨w1,rfl,m1⟩
 have e1:=hE.trans m1.ext
 simp -implicitDefEqProofs (disch:=first|omega|simp only[go_sem]) only[go_sem,true_and,YEnd]
 refine ycall_ct (refChanges_c (hc.ext e1) (by omega)) ?_
 rintro r K2 ⟨w2,rfl,m2⟩
 have e2:=e1.trans m2.ext
 simp -implicitDefEqProofs (disch:=first|omega|simp only[go_sem]) only[go_sem,true_and,YEnd]
 refine ycall (eqChg_c (m1.arg.ext m2.ext) m2.arg (by omega)) ?_
 have hd1:decide (byK Change.k l=byK Change.k l)=true:=by simp
 simp -implicitDefEqProofs (disch:=first|omega|simp only[go_sem]) only[go_sem,true_and,hd1,dPick_t,dPick_f]
 have hn2:=applyN_len m l
 refine ycall_ct (apply_c (hb.ext e2) (hc.ext e2) hl) ?_
 rintro r K3 ⟨w3,rfl,m3⟩
 have e3:=e2.trans m3.ext
 simp -implicitDefEqProofs (disch:=first|omega|simp only[go_sem]) only[go_sem,true_and,YEnd]
 refine ycall_ct (refApply_c (hb.ext e3) (hc.ext e3) hl) ?_
 rintro r K4 ⟨w4,rfl,m4⟩
 have e4:=e3.trans m4.ext
 simp -implicitDefEqProofs (disch:=first|omega|simp only[go_sem]) only[go_sem,true_and,YEnd]
 refine ycall (eqPair_c (m3.arg.ext m4.ext) m4.arg (by omega)) ?_
 have hd2:decide (applyN m l=applyN m l)=true:=by simp
 have eH4:Ext H K4:=((m1.ext.trans m2.ext).trans m3.ext).trans m4.ext
 simp -implicitDefEqProofs (disch:=first|omega|simp only[go_sem]) only[go_sem,true_and,hd2,dPick_t,dPick_f,lt K4 eH4]
 have hn3:(needsN t m).length≤m.length:=Nat.le_trans (List.length_filter_le _ _) (byK_len _)
 refine ycall_ct (needs_c (x.ext e4) (hb.ext e4) (by omega) hr) ?_
 rintro r K5 ⟨w5,rfl,m5⟩
 have e5:=e4.trans m5.ext
 simp -implicitDefEqProofs (disch:=first|omega|simp only[go_sem]) only[go_sem,true_and,YEnd,lt K5 (eH4.trans m5.ext)]
 refine ycall_ct (refNeeds_c (x.ext e5) (hb.ext e5) (by omega) hr) ?_
 rintro r K6 ⟨w6,rfl,m6⟩
 simp -implicitDefEqProofs (disch:=first|omega|simp only[go_sem]) only[go_sem,true_and,YEnd]
 refine ycall (eqPair_c (m5.arg.ext m6.ext) m6.arg (by omega)) ?_
 simp -implicitDefEqProofs (disch:=first|omega|simp only[go_sem]) only[go_sem,true_and,dPick_t,dPick_f]
 exact ⟨_,rfl,by simp,e5.trans m6.ext⟩
end Go.Proofs.Ythjmkmoiopmfcaa

namespace Go.Proofs.Ythjmkmoiopmfcaa.lawMaps
open Go.D
open Go.ChangeShapes Go.WideShapes Go.ChangeAt Go.RowKit
theorem own:ownKnob Try.prog.godebug=none:=by kernel_rfl
set_option maxRecDepth 100000 in
theorem lifted (os:Os) (started:os.Started) (H:Type) (enc:TypeId × Value→H) (F:Stop.Interp) :
 ReturnsInHanded {} Try.checked os 8 .any ((Rows.OpenSpec.upto Rows.evalMapsSpec).pre6 enc Try.prog Try.f8 Rows.evalMapsUptoRow.domain false) (((Rows.OpenSpec.upto Rows.evalMapsSpec).at F).post enc Try.prog Try.f8 false true false false):=by
 refine returnsInHanded_of_cond (C:=Try.checked) (s:=Rows.OpenSpec.upto Rows.evalMapsSpec) (k:=Rows.uptoSmall) rfl own started (by kernel_rfl) Try.func8
  (OpenSpec.witness (enc:=enc) (C:=Try.checked) (s:=Rows.OpenSpec.upto Rows.evalMapsSpec) (k:=Rows.uptoSmall) rfl false ⟨#[],#[.slice none 0 0,.slice none 0 0,.agg #[.int .i64 0,.int .i64 0,.slice none 0 0,.slice none 0 0,.slice none 0 0,.slice none 0 0]],[]⟩ 8 (by kernel_rfl) (by kernel_rfl) (by kernel_rfl)
    (x:=([.nil,.nil,.agg [.lit (.int .i64 0),.lit (.int .i64 0),.nil,.nil,.nil,.nil]],[],[])) (by kernel_rfl) rfl (by kernel_rfl)) ?_
 intro W base args ds gs before hval hW _ hk _
 refine law_kept (by kernel_rfl)
  (.cons (agg:=false) par_pairs lay_pairs (.cons (agg:=false) par_changes lay_changes (.cons (agg:=true) par_txn lay_txn .nil))) (tb:=4) (by kernel_rfl) (by kernel_rfl) rfl (fun ds hl=>?_) (fun h vs x hng hq hB=>?_) W base args ds gs before hval hW hk
 ·match ds,hl with
  | [d0,d1,d2],_=>rfl
 ·obtain ⟨cs,vs1,rfl,⟨v,rfl,hv⟩,cs2,vs2,rfl,⟨u,rfl,hu⟩,cs3,vs3,rfl,h1,rfl⟩:=hq
  obtain ⟨vc,va,vr,vw,rfl,_,_,tx⟩:=txn_in h1
  have h1:=sumB_len (fun _=>3) x.1
  have h2:=sumB_len (fun _=>4) x.2.1
  have h3:=bulk_txn x.2.2.1
  exact (mapsLaw_c hv hu tx (by omega) (by omega)).ct rfl
theorem p1:Try.pinned.checked.prog.funcNamed Rows.evalMapsUptoRow.func=some 8:=by kernel_rfl
theorem p2:joinedFacts Try.pinned.checked.prog 8 Try.f8 (Rows.OpenSpec.upto Rows.evalMapsSpec).bare Rows.evalMapsUptoRow=true:=by kernel_rfl
theorem p3:Try.f8.isInstance Try.pinned.checked.prog Rows.evalMapsUptoRow.origin Rows.evalMapsUptoRow.targs:=of_decide_eq_true (by kernel_rfl)
theorem p4:Try.f8.isWrapper Try.pinned.checked.prog Rows.evalMapsUptoRow.wrapper Rows.evalMapsUptoRow.mainSum:=by unfold Func.isWrapper;first | (rw[if_pos (by decide +kernel)];kernel_rfl) | (rw[if_neg (by decide +kernel)];exact ⟨rfl,rfl⟩)
theorem proved:Rows.EvalMapsUptoSaid:=
 OpenClaim.holds_of_cond 8 Try.f8 rfl rfl rfl rfl rfl rfl rfl ⟨rfl,rfl,rfl,rfl,rfl⟩ rfl rfl rfl rfl rfl p1 Try.func8 p2 p3 p4
  (fun os started H enc _ F=>lifted os started H enc F)
end Go.Proofs.Ythjmkmoiopmfcaa.lawMaps
