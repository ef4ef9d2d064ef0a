/-
EvalRuns: what any transaction comes to, over any values, with any fuel, is what the reference says, for every input of bulk at most 1048576. Conditions: none.
-/
import Derived.Test.YthjmkmoiopmfcaaRows
import Derived.WalkKit
import Derived.ProofKit
import Derived.OpenShut
import Derived.JoinedCond
import Derived.Test.YthjmkmoiopmfcaaBase1
import Derived.Test.YthjmkmoiopmfcaaBase2
import Derived.Test.YthjmkmoiopmfcaaEvalRunsParts1
import Derived.Test.YthjmkmoiopmfcaaEvalRunsParts2
import Derived.Test.YthjmkmoiopmfcaaEvalRunsParts3
set_option linter.unusedSimpArgs false
set_option linter.unusedVariables false
namespace Go.Proofs.Ythjmkmoiopmfcaa
open Go.D
set_option maxRecDepth 100000
def runL (t:Txn) (vc va vr vw:Value) (g:List Int) (hm mm am:Nat) (vo:Value) (pc:Int):List Value:=
 .int .i64 t.ses :: .int .i64 t.req :: vc :: va :: vr :: vw :: (g.map (fun n=>Value.int .i64 n)++[.map (some hm),.map (some mm),vo,.int .i64 pc,.map (some am)])
theorem len8 {g:List Int} (h:g.length=8):∃ a b c d e f i j,g=[a,b,c,d,e,f,i,j]:=by
 match g,h with
 | [a,b,c,d,e,f,i,j],_=>exact ⟨a,b,c,d,e,f,i,j,rfl⟩
section
variable {t:Txn} {vc va vr vw vo:Value} {g:List Int} {hm mm am:Nat} {pc:Int}
theorem runL_len (hg:g.length=8):(runL t vc va vr vw g hm mm am vo pc).length=19:=by simp[runL,hg]
theorem runL_reg (hg:g.length=8) {a:Nat} (ha:a<8):(runL t vc va vr vw g hm mm am vo pc)[6+a]? = some (.int .i64 (g.getD a 0)):=by
 obtain ⟨r0,r1,r2,r3,r4,r5,r6,r7,rfl⟩:=len8 hg
 match a,ha with
 | 0,_=>rfl
 | 1,_=>rfl
 | 2,_=>rfl
 | 3,_=>rfl
 | 4,_=>rfl
 | 5,_=>rfl
 | 6,_=>rfl
 | 7,_=>rfl
theorem runL_tail (hg:g.length=8):(runL t vc va vr vw g hm mm am vo pc)[14]? = some (.map (some hm))∧(runL t vc va vr vw g hm mm am vo pc)[15]? = some (.map (some mm))∧(runL t vc va vr vw g hm mm am vo pc)[16]? = some vo∧(runL t vc va vr vw g hm mm am vo pc)[17]? = some (.int .i64 pc)∧(runL t vc va vr vw g hm mm am vo pc)[18]? = some (.map (some am)):=by
 obtain ⟨r0,r1,r2,r3,r4,r5,r6,r7,rfl⟩:=len8 hg
 exact ⟨rfl,rfl,rfl,rfl,rfl⟩
theorem runL_setReg (hg:g.length=8) {a:Nat} (ha:a<8) (v:Int):setAt (runL t vc va vr vw g hm mm am vo pc) (6+a) [.int .i64 v]=runL t vc va vr vw (g.set a v) hm mm am vo pc:=by
 obtain ⟨r0,r1,r2,r3,r4,r5,r6,r7,rfl⟩:=len8 hg
 match a,ha with
 | 0,_=>rfl
 | 1,_=>rfl
 | 2,_=>rfl
 | 3,_=>rfl
 | 4,_=>rfl
 | 5,_=>rfl
 | 6,_=>rfl
 | 7,_=>rfl
theorem runL_setOut (hg:g.length=8) (v:Value):setAt (runL t vc va vr vw g hm mm am vo pc) 16 [v]=runL t vc va vr vw g hm mm am v pc:=by
 obtain ⟨r0,r1,r2,r3,r4,r5,r6,r7,rfl⟩:=len8 hg
 rfl
theorem runL_setPc (hg:g.length=8) (n:Int):setAt (runL t vc va vr vw g hm mm am vo pc) 17 [.int .i64 n]=runL t vc va vr vw g hm mm am vo n:=by
 obtain ⟨r0,r1,r2,r3,r4,r5,r6,r7,rfl⟩:=len8 hg
 rfl
end
structure RunC (h0:DHeap) (b hm mm am:Nat) (t:Txn) (vc va vr vw:Value) (m:List Pair) (L:List Instr):Prop where
 lb:b<h0.next
 lh:hm<h0.next
 lm:mm<h0.next
 la:am<h0.next
 bm:b≠mm
 hb:hm≠b
 hmm:hm≠mm
 ab:am≠b
 amm:am≠mm
 tx:TxV (fun i=>i<h0.next∧¬ (i=b∨i=mm)) h0 t vc va vr vw
 len:TxLen t
 has:MapAt keyV h0 hm (putB Pair.k (fun p=>.int .i64 p.v) m)
 at_:∃ ms:List (Int × Value),MapAt (fun n:Int=>Value.int .i64 n) h0 am ms∧∀ (i:Nat) x,L[i]? = some x→mget ms x.pos=some (.int .i64 (i:Nat))
 okm:∀ p∈m,fPair.ok p
structure RunI (h0 K:DHeap) (b hm mm am:Nat) (t:Txn) (vc va vr vw:Value) (s:RS) (pc:Int):Prop where
 kp:KpD (fun i=>i=b∨i=mm) h0 K
 row:∃ vo w,K.get b=some (.row (runL t vc va vr vw s.reg hm mm am vo pc) 0 false)∧Owns fI64.rep NoS K vo s.out w∧∀ i,w=some i→h0.next≤i
 mine:MapAt keyV K mm (putB Change.k chgV s.w)
 len:s.reg.length=8
 ok:∀ n∈s.reg,inK .i64 n
 outn:s.out.length≤8
 wok:∀ c∈s.w,fChange.ok c
section
variable {h0 K K':DHeap} {b hm mm am:Nat} {t:Txn} {vc va vr vw:Value} {m:List Pair} {L:List Instr} {s:RS} {pc:Int}
theorem RunI.ext (C:RunC h0 b hm mm am t vc va vr vw m L) (I:RunI h0 K b hm mm am t vc va vr vw s pc) (e:Ext K K'):RunI h0 K' b hm mm am t vc va vr vw s pc:=by
 obtain ⟨vo,w,g,o,hw⟩:=I.row
 have hn:=I.kp.next
 have hlb:=C.lb
 have hlm:=C.lm
 exact ⟨I.kp.ext e,⟨vo,w,(e.get _ (by omega)).trans g,o.mono e.next (fun i hi=>e.get i (o.lt i hi)) (fun i hi=>hi.elim),hw⟩,I.mine.keep (e.get _ (by omega)),I.len,I.ok,I.outn,I.wok⟩
theorem RunI.tx (C:RunC h0 b hm mm am t vc va vr vw m L) (I:RunI h0 K b hm mm am t vc va vr vw s pc):TxV (InH K) K t vc va vr vw:=
 C.tx.mono fun i hi=>⟨Nat.lt_of_lt_of_le hi.1 I.kp.next,I.kp.get i hi.1 hi.2⟩
theorem RunI.box (C:RunC h0 b hm mm am t vc va vr vw m L) (I:RunI h0 K b hm mm am t vc va vr vw s pc) {s':RS} {pc':Int} {vo:Value} {w:Option Nat} (ho:Owns fI64.rep NoS K vo s'.out w) (hw:∀ i,w=some i→h0.next≤i) (hwm:s'.w=s.w) (hl:s'.reg.length=8) (hok:∀ n∈s'.reg,inK .i64 n) (hn:s'.out.length≤8) :
 RunI h0 (K.set b (.row (runL t vc va vr vw s'.reg hm mm am vo pc') 0 false)) b hm mm am t vc va vr vw s' pc':=by
 have hlb:=C.lb
 refine ⟨I.kp.set (.inl (.inl rfl)),⟨vo,w,get_set_same _ _,ho.mono (Nat.le_refl _) (fun i hi=>get_set_other _ _ (by have:=hw i hi;omega)) (fun i hi=>hi.elim),hw⟩,?_,hl,hok,hn,by rw[hwm];exact I.wok⟩
 rw[hwm]
 exact I.mine.keep (get_set_other _ _ (fun e=>C.bm e.symm))
theorem RunI.reg (C:RunC h0 b hm mm am t vc va vr vw m L) (I:RunI h0 K b hm mm am t vc va vr vw s pc) {vo:Value} (g:K.get b=some (.row (runL t vc va vr vw s.reg hm mm am vo pc) 0 false)) {a v:Int} (hv:inK .i64 v):RunI h0 (K.set b (.row (runL t vc va vr vw (s.reg.set a.toNat v) hm mm am vo pc) 0 false)) b hm mm am t vc va vr vw (s.set a v) pc:=by
 obtain ⟨vo',w,g',o,hw⟩:=I.row
 have:vo'=vo:=by
  rw[g]at g'
  injection g' with g'
  injection g' with g'
  have h1:=(runL_tail (t:=t) (vc:=vc) (va:=va) (vr:=vr) (vw:=vw) (vo:=vo) (hm:=hm) (mm:=mm) (am:=am) (pc:=pc) I.len).2.2.1
  have h2:=(runL_tail (t:=t) (vc:=vc) (va:=va) (vr:=vr) (vw:=vw) (vo:=vo') (hm:=hm) (mm:=mm) (am:=am) (pc:=pc) I.len).2.2.1
  rw[g',h2]at h1
  exact Option.some.inj h1
 subst this
 refine I.box C (s':=s.set a v) o hw rfl (by simp[I.len]) (fun n hn=>?_) I.outn
 rcases List.mem_or_eq_of_mem_set hn with hn | rfl
 ·exact I.ok n hn
 ·exact hv
theorem RunI.pc' (C:RunC h0 b hm mm am t vc va vr vw m L) (I:RunI h0 K b hm mm am t vc va vr vw s pc) {vo:Value} (g:K.get b=some (.row (runL t vc va vr vw s.reg hm mm am vo pc) 0 false)) (n:Int):RunI h0 (K.set b (.row (runL t vc va vr vw s.reg hm mm am vo n) 0 false)) b hm mm am t vc va vr vw s n:=by
 obtain ⟨vo',w,g',o,hw⟩:=I.row
 have:vo'=vo:=by
  rw[g]at g'
  injection g' with g'
  injection g' with g'
  have h1:=(runL_tail (t:=t) (vc:=vc) (va:=va) (vr:=vr) (vw:=vw) (vo:=vo) (hm:=hm) (mm:=mm) (am:=am) (pc:=pc) I.len).2.2.1
  have h2:=(runL_tail (t:=t) (vc:=vc) (va:=va) (vr:=vr) (vw:=vw) (vo:=vo') (hm:=hm) (mm:=mm) (am:=am) (pc:=pc) I.len).2.2.1
  rw[g',h2]at h1
  exact Option.some.inj h1
 subst this
 exact I.box C o hw rfl I.len I.ok I.outn
theorem RunI.put (C:RunC h0 b hm mm am t vc va vr vw m L) (I:RunI h0 K b hm mm am t vc va vr vw s pc) {c:Change} {o:DObj} (hm2:MapAt keyV (K.set mm o) mm (mput (putB Change.k chgV s.w) c.k (chgV c))) (hc:fChange.ok c):RunI h0 (K.set mm o) b hm mm am t vc va vr vw (s.put c) pc:=by
 obtain ⟨vo,w,g,ow,hw⟩:=I.row
 have hlm:=C.lm
 refine ⟨I.kp.set (.inl (.inr rfl)),⟨vo,w,(get_set_other _ _ C.bm).trans g,ow.mono (Nat.le_refl _) (fun i hi=>get_set_other _ _ (by have:=hw i hi;omega)) (fun i hi=>hi.elim),hw⟩,?_,I.len,I.ok,I.outn,fun x hx=>?_⟩
 ·rw[show (s.put c).w=s.w++[c] from rfl,putB_snoc]
  exact hm2
 ·rcases List.mem_append.1 hx with hx | hx
  ·exact I.wok x hx
  ·rw[List.mem_singleton.1 hx]
   exact hc
end
theorem und_mapI:Try.prog.underlying 78=some (.map 3 3):=by kernel_rfl
theorem mapTI:MapT Try.prog 78 (fun n:Int=>Value.int .i64 n) (.int .i64 0):=⟨_,_,und_mapI,KeyOf.int (by kernel_rfl),by kernel_rfl⟩
theorem valE_chg {m:List Pair} {w:List Change} {k:Key} {c:Change} (h:lastB Change.k w k=some c):valE m w k=(c.v,!c.e):=by unfold valE;rw[h]
theorem valE_pair {m:List Pair} {w:List Change} {k:Key} {p:Pair} (h:lastB Change.k w k=none) (hp:lastB Pair.k m k=some p):valE m w k=(p.v,true):=by unfold valE;rw[h,hp]
theorem valE_no {m:List Pair} {w:List Change} {k:Key} (h:lastB Change.k w k=none) (hp:lastB Pair.k m k=none):valE m w k=(0,false):=by unfold valE;rw[h,hp]
set_option maxHeartbeats 1000000 in
theorem value_c {h0 h:DHeap} {b hm mm am:Nat} {t:Txn} {vc va vr vw:Value} {m:List Pair} {L:List Instr} {s:RS} {pc:Int} {k:Key} (C:RunC h0 b hm mm am t vc va vr vw m L) (I:RunI h0 h b hm mm am t vc va vr vw s pc) :
 DC Try.prog 63 [.pointer (some ⟨b,0,none⟩),keyV k] h (.ret (.tuple #[.int .i64 (valE m s.w k).1,.bool (valE m s.w k).2])) h:=by
 refine Ct.pure (go_63 (by simp) ?_) (flat3_vin _ rfl)
 obtain ⟨K1,hK1⟩:∃ H,H=h.push (.row [.int .i32 k.t,.int .i64 k.r] 0 false):=⟨_,rfl⟩
 have g1:K1.get h.next=some (.row [.int .i32 k.t,.int .i64 k.r] 0 false):=by rw[hK1];exact get_push_same _ _
 have e1:Ext h K1:=by rw[hK1];exact Ext.push1 _ _
 have n1:K1.next=h.next+1:=by rw[hK1];rfl
 obtain ⟨K2,hK2⟩:∃ H,H=K1.push (.row [.int .i32 0,.int .i64 0,.int .i64 0,.bool false] 0 false):=⟨_,rfl⟩
 have e2:Ext K1 K2:=by rw[hK2];exact Ext.push1 _ _
 have n2:K2.next=h.next+2:=by rw[hK2,next_push,n1]
 have hcl:(keyV k).cells.toList=[.int .i32 k.t,.int .i64 k.r]:=rfl
 have I2:=I.ext C (e1.trans e2)
 obtain ⟨vo,w,gb,_,_⟩:=I2.row
 obtain ⟨t14,t15,_,_,_⟩:=runL_tail (t:=t) (vc:=vc) (va:=va) (vr:=vr) (vw:=vw) (vo:=vo) (hm:=hm) (mm:=mm) (am:=am) (pc:=pc) I.len
 have c15:cellAt K2 b 15=some (.map (some mm)):=(cellAt_row gb).trans t15
 have c14:cellAt K2 b 14=some (.map (some hm)):=(cellAt_row gb).trans t14
 have lk:cellsAt K2 h.next 0 2=some (keyV k):=by rw[cellsAt_row ((e2.get _ (by omega)).trans g1) (Nat.le_of_ble_eq_true rfl)];rfl
 have hl:=I2.mine.lookup mapTC k true
 rw[mget_putB]at hl
 have hnb:b<h.next:=Nat.lt_of_lt_of_le C.lb I.kp.next
 have gh:K2.get K1.next=some (.row [.int .i32 0,.int .i64 0,.int .i64 0,.bool false] 0 false):=by rw[hK2];exact get_push_same _ _
 cases hq:lastB Change.k s.w k with
 | some c=>
   rw[hq]at hl
   simp only[Option.map_some,Option.getD_some,Option.isSome_some,if_true]at hl
   obtain ⟨K3,hK3⟩:∃ H,H=K2.set K1.next (.row [.int .i32 c.k.t,.int .i64 c.k.r,.int .i64 c.v,.bool c.e] 0 false):=⟨_,rfl⟩
   have hst:dStore Try.prog 51 (.pointer (some ⟨K1.next,0,none⟩)) (chgV c) K2=some K3:=by
    rw[hK3]
    exact (st_51 rfl).trans (storeAt_row gh (Nat.le_of_ble_eq_true rfl) rfl)
   have g3:K3.get K1.next=some (.row [.int .i32 c.k.t,.int .i64 c.k.r,.int .i64 c.v,.bool c.e] 0 false):=by rw[hK3];exact get_set_same _ _
   have q1:cellAt K3 K1.next 2=some (.int .i64 c.v):=cellAt_row g3
   have q2:cellAt K3 K1.next 3=some (.bool c.e):=cellAt_row g3
   have e3:Ext h K3:=by rw[hK3];exact (e1.trans e2).set (by omega)
   simp -implicitDefEqProofs (disch:=first|omega|simp only[go_sem]) only[go_sem,true_and,c63,hcl,← hK1]
   refine yr_63_0 rfl ?_
   simp -implicitDefEqProofs (disch:=first|omega|simp only[go_sem]) only[go_sem,true_and,g63_0,q63_0]
   simp -implicitDefEqProofs (disch:=first|omega|simp only[go_sem]) only[go_sem,true_and,← hK2,c15,lk,hl,hst]
   refine ⟨⟨gh,trivial⟩,?_⟩
   refine yr_63_1 rfl ?_
   simp -implicitDefEqProofs (disch:=first|omega|simp only[go_sem]) only[go_sem,true_and,g63_1,q63_1,q1,q2]
   exact ⟨_,rfl,by rw[valE_chg hq],e3⟩
 | none=>
   rw[hq]at hl
   simp only[Option.map_none,Option.getD_none,Option.isSome_none,if_true]at hl
   obtain ⟨K3,hK3⟩:∃ H,H=K2.set K1.next (.row [.int .i32 0,.int .i64 0,.int .i64 0,.bool false] 0 false):=⟨_,rfl⟩
   have hst:dStore Try.prog 51 (.pointer (some ⟨K1.next,0,none⟩)) (chgV chg0) K2=some K3:=by
    rw[hK3]
    exact (st_51 rfl).trans (storeAt_row gh (Nat.le_of_ble_eq_true rfl) rfl)
   have hself:K3=K2:=by rw[hK3];exact set_self gh
   rw[hself]at hst
   have hl2:=(C.has.kp I2.kp C.lh (fun e=>e.elim C.hb C.hmm)).lookup mapT64 k true
   rw[mget_putB]at hl2
   simp -implicitDefEqProofs (disch:=first|omega|simp only[go_sem]) only[go_sem,true_and,c63,hcl,← hK1]
   refine yr_63_0 rfl ?_
   simp -implicitDefEqProofs (disch:=first|omega|simp only[go_sem]) only[go_sem,true_and,g63_0,q63_0]
   simp -implicitDefEqProofs (disch:=first|omega|simp only[go_sem]) only[go_sem,true_and,← hK2,c15,lk,hl,hst]
   refine ⟨⟨gh,trivial⟩,?_⟩
   refine yr_63_2 rfl ?_
   cases hp:lastB Pair.k m k with
   | some p=>
     rw[hp]at hl2
     simp only[Option.map_some,Option.getD_some,Option.isSome_some,if_true]at hl2
     simp -implicitDefEqProofs (disch:=first|omega|simp only[go_sem]) only[go_sem,true_and,g63_2,q63_2,c14,lk,hl2]
     exact ⟨_,rfl,by rw[valE_pair hq hp],e1.trans e2⟩
   | none=>
     rw[hp]at hl2
     simp only[Option.map_none,Option.getD_none,Option.isSome_none,if_true]at hl2
     simp -implicitDefEqProofs (disch:=first|omega|simp only[go_sem]) only[go_sem,true_and,g63_2,q63_2,c14,lk,hl2]
     exact ⟨_,rfl,by rw[valE_no hq hp],e1.trans e2⟩
theorem goes_c {h0 h:DHeap} {b hm mm am:Nat} {t:Txn} {vc va vr vw vo:Value} {m:List Pair} {L:List Instr} {s:RS} {pc:Int} {i:Nat} {x:Instr} (C:RunC h0 b hm mm am t vc va vr vw m L) (I:RunI h0 h b hm mm am t vc va vr vw s pc) (hx:L[i]? = some x) (g:h.get b=some (.row (runL t vc va vr vw s.reg hm mm am vo pc) 0 false)) :
 Ct Try.prog 64 [.pointer (some ⟨b,0,none⟩),.int .i64 x.pos] h fun r h1=>r=.ret (.tuple #[])∧h1=h.set b (.row (runL t vc va vr vw s.reg hm mm am vo (i:Nat)) 0 false):=by
 refine go_64 (by simp) ?_
 obtain ⟨ms,ha,hat⟩:=C.at_
 obtain ⟨_,_,_,_,t18⟩:=runL_tail (t:=t) (vc:=vc) (va:=va) (vr:=vr) (vw:=vw) (vo:=vo) (hm:=hm) (mm:=mm) (am:=am) (pc:=pc) I.len
 have c18:cellAt h b 18=some (.map (some am)):=(cellAt_row g).trans t18
 have hl:=(ha.kp I.kp C.la (fun e=>e.elim C.ab C.amm)).lookup mapTI x.pos false
 rw[hat i x hx]at hl
 simp only[Bool.false_eq_true,if_false,Option.getD_some]at hl
 have hst:storeAt h b 17 [.int .i64 (i:Nat)]=some (h.set b (.row (runL t vc va vr vw s.reg hm mm am vo (i:Nat)) 0 false)):=by
  rw[storeAt_row g (by rw[runL_len I.len];exact Nat.le_of_ble_eq_true rfl) rfl,runL_setPc I.len]
 simp -implicitDefEqProofs (disch:=first|omega|simp only[go_sem]) only[go_sem,true_and,c64,c18,hl,hst]
 exact ⟨_,rfl,rfl,trivial⟩
end Go.Proofs.Ythjmkmoiopmfcaa

namespace Go.Proofs.Ythjmkmoiopmfcaa
open Go.D
set_option maxRecDepth 100000
theorem tmod_ok {a b:Int} (h:inK .i64 a):inK .i64 (a.tmod b):=by
 rw[inK_i64]at h ⊢
 have h1:=Int.natAbs_tmod a b
 have h2:a.natAbs % b.natAbs≤a.natAbs:=Nat.mod_le _ _
 by_cases ha:0≤a
 ·have:=Int.tmod_nonneg b ha
  omega
 ·have e:a.tmod b=-((-a).tmod b):=by rw[Int.neg_tmod,Int.neg_neg]
  have:=Int.tmod_nonneg b (show 0 ≤ -a by omega)
  omega
theorem fdiv_ok {a:Int} {n:Nat} (h:inK .i64 a):inK .i64 (a.fdiv (2 ^ n)):=by
 have hc:(0:Int)<2 ^ n:=Int.pow_pos (by decide)
 rw[Int.fdiv_eq_ediv_of_nonneg _ (Int.le_of_lt hc)]
 obtain ⟨c,hcc⟩:∃ c:Int,2 ^ n=c:=⟨_,rfl⟩
 rw[hcc]at hc ⊢
 rw[inK_i64]at h ⊢
 by_cases ha:0≤a
 ·have h1:=Int.ediv_nonneg ha (Int.le_of_lt hc)
  have h2:=Int.ediv_le_self c ha
  omega
 ·have h1:=Int.ediv_neg_of_neg_of_pos (show a<0 by omega) hc
  have h2:a≤a / c:=(Int.le_ediv_iff_mul_le hc).2 (by
   have:a*(c - 1)≤0:=Int.mul_nonpos_of_nonpos_of_nonneg (by omega) (by omega)
   rw[Int.mul_sub,Int.mul_one]at this
   omega)
  omega
theorem bin2_ok {o a b:Int} (ha:inK .i64 a):inK .i64 (bin2 o a b).1∧((bin2 o a b).2=0∨(bin2 o a b).2=1∨(bin2 o a b).2=3):=by
 have z0:inK .i64 0:=inK_i64.2 ⟨by decide,by decide⟩
 have z1:inK .i64 1:=inK_i64.2 ⟨by decide,by decide⟩
 unfold bin2
 simp only
 have key:∀ {P:Int × Int→Prop} {c:Prop} [Decidable c] {x y:Int × Int},P x→P y→P (if c then x else y):=fun {P c _ x y} h1 h2=>by
  by_cases h:c
  ·rw[if_pos h];exact h1
  ·rw[if_neg h];exact h2
 have w:∀ n,inK .i64 (IntKind.i64.wrap n):=fun n=>wrap_ok _ _
 repeat' (refine key (P:=fun r=>inK .i64 r.1∧(r.2=0∨r.2=1∨r.2=3)) ?_ ?_)
 all_goals first
  | exact ⟨w _,.inl rfl⟩
  | exact ⟨z0,.inr (.inr rfl)⟩
  | exact ⟨tmod_ok ha,.inl rfl⟩
  | exact ⟨fdiv_ok ha,.inl rfl⟩
  | exact ⟨z0,.inr (.inl rfl)⟩
  | (refine ⟨?_,.inl rfl⟩
     show inK .i64 (if _ then 1 else 0)
     split
     ·exact z1
     ·exact z0)
theorem narrow_ok {a n:Int} (ha:inK .i64 a):inK .i64 (narrow a n):=by
 unfold narrow
 have h8:inK .i64 (IntKind.i8.wrap a):=by rw[inK_i64];simp[IntKind.wrap,IntKind.signed,IntKind.bits];omega
 have h16:inK .i64 (IntKind.i16.wrap a):=by rw[inK_i64];simp[IntKind.wrap,IntKind.signed,IntKind.bits];omega
 have h32:inK .i64 (IntKind.i32.wrap a):=by rw[inK_i64];simp[IntKind.wrap,IntKind.signed,IntKind.bits];omega
 repeat' split
 all_goals assumption
theorem valE_ok {m:List Pair} {w:List Change} {k:Key} (hm:∀ p∈m,fPair.ok p) (hw:∀ c∈w,fChange.ok c):inK .i64 (valE m w k).1:=by
 cases hq:lastB Change.k w k with
 | some c=>rw[valE_chg hq];exact (hw c (lastB_some hq).1).2.1
 | none=>
   cases hp:lastB Pair.k m k with
   | some p=>rw[valE_pair hq hp];exact (hm p (lastB_some hp).1).2
   | none=>rw[valE_no hq hp];exact inK_i64.2 ⟨by decide,by decide⟩
theorem reg_ok {s:RS} (h:∀ n∈s.reg,inK .i64 n) (i:Int):inK .i64 (s.r i):=by
 show inK .i64 (s.reg.getD i.toNat 0)
 rw[List.getD_eq_getElem?_getD]
 cases hq:s.reg[i.toNat]? with
 | some x=>exact h x (List.mem_of_getElem? hq)
 | none=>exact inK_i64.2 ⟨by decide,by decide⟩
theorem stepE_wlen {t:Txn} {m:List Pair} {x:Instr} {s:RS}:(stepE t m x s).2.1.w.length≤s.w.length+1:=by
 unfold stepE
 repeat' (refine ite_all (P:=fun r:Int × RS × Option Int=>r.2.1.w.length≤s.w.length+1) (fun _=>?_) (fun _=>?_))
 all_goals simp
end Go.Proofs.Ythjmkmoiopmfcaa

namespace Go.Proofs.Ythjmkmoiopmfcaa
open Go.D
set_option maxRecDepth 100000
theorem bd_chgS {k:Key} {v:Int}:dBuild Try.prog 51 [(0,keyV k),(1,.int .i64 v)]=some (chgV ⟨k,v,false⟩):=dBuild_at plc_51 rfl
theorem bd_chgE {k:Key}:dBuild Try.prog 51 [(0,keyV k),(2,.bool true)]=some (chgV ⟨k,0,true⟩):=dBuild_at plc_51 rfl
theorem bd_keyK {t r:Int}:dBuild Try.prog 44 [(0,.int .i32 t),(1,.int .i64 r)]=some (keyV ⟨t,r⟩):=dBuild_at plc_44 rfl
theorem ar_regs:arrElem Try.prog 79=some (8,1):=by kernel_rfl
theorem ia_regs {id o:Nat} {a:Int} (h0:0≤a) (h8:a<8):dIndexAddr Try.prog 79 (.pointer (some ⟨id,o,none⟩)) (.int .i64 a)=some (.pointer (some ⟨id,o+a.toNat,none⟩)):=by
 rw[dIndexAddr_arr ar_regs h0 (by omega),Nat.mul_one]
section
variable {t:Txn} {m:List Pair} {x:Instr} {s:RS}
theorem se0 (h:x.op=0):stepE t m x s=(0,s,none):=by unfold stepE;rw[h];rfl
theorem se1 (h:x.op=1):stepE t m x s=(-1,s.set x.a x.imm,none):=by unfold stepE;rw[h];rfl
theorem se2 (h:x.op=2):stepE t m x s=(-1,s.set x.a (t.args.getD x.imm.toNat 0),none):=by unfold stepE;rw[h];rfl
theorem se7 (h:x.op=7):stepE t m x s=(-1,s.set x.a (s.r x.b),none):=by unfold stepE;rw[h];rfl
theorem se3 (h:x.op=3):stepE t m x s=(-1,s.set x.a (valE m s.w (t.reads.getD x.imm.toNat key0)).1,none):=by unfold stepE;rw[h];rfl
theorem se4 (h:x.op=4):stepE t m x s=(-1,s.set x.a (if (valE m s.w (t.reads.getD x.imm.toNat key0)).2 then 1 else 0),none):=by unfold stepE;rw[h];rfl
theorem se5 {k:Key} (h:x.op=5) (hk:t.writes.getD x.imm.toNat key0=k):stepE t m x s=(-1,s.put ⟨k,s.r x.a,false⟩,none):=by subst hk;unfold stepE;rw[h];rfl
theorem se6 {k:Key} (h:x.op=6) (hk:t.writes.getD x.imm.toNat key0=k):stepE t m x s=(-1,s.put ⟨k,0,true⟩,none):=by subst hk;unfold stepE;rw[h];rfl
theorem se19 (h:x.op=19):stepE t m x s=(-1,s.set x.a (narrow (s.r x.a) x.imm),none):=by unfold stepE;rw[h];rfl
theorem se22 (h:x.op=22):stepE t m x s=(-1,s,some x.imm):=by unfold stepE;rw[h];rfl
theorem se23z (h:x.op=23) (z:s.r x.a=0):stepE t m x s=(-1,s,none):=by
 have:stepE t m x s=(-1,s,if s.r x.a=0 then none else some x.imm):=by unfold stepE;rw[h];rfl
 rw[this,if_pos z]
theorem se23 (h:x.op=23) (z:¬ s.r x.a=0):stepE t m x s=(-1,s,some x.imm):=by
 have:stepE t m x s=(-1,s,if s.r x.a=0 then none else some x.imm):=by unfold stepE;rw[h];rfl
 rw[this,if_neg z]
theorem se24f (h:x.op=24) (z:8≤s.out.length):stepE t m x s=(5,s,none):=by
 have:stepE t m x s=(if 8≤s.out.length then (5,s,none) else (-1,{ s with out:=s.out++[s.r x.a] },none)):=by unfold stepE;rw[h];rfl
 rw[this,if_pos z]
theorem se24 (h:x.op=24) (z:¬ 8≤s.out.length):stepE t m x s=(-1,{ s with out:=s.out++[s.r x.a] },none):=by
 have:stepE t m x s=(if 8≤s.out.length then (5,s,none) else (-1,{ s with out:=s.out++[s.r x.a] },none)):=by unfold stepE;rw[h];rfl
 rw[this,if_neg z]
theorem se25 (h:x.op=25):stepE t m x s=(100+x.imm,s,none):=by unfold stepE;rw[h];rfl
theorem se26 {k:Key} (h:x.op=26) (hk:farK x s=k) (z:k∈t.reads):stepE t m x s=(-1,s.set x.a (valE m s.w k).1,none):=by
 subst hk
 have:stepE t m x s=(if farK x s∈t.reads then (-1,s.set x.a (valE m s.w (farK x s)).1,none) else (4,s,none)):=by unfold stepE;rw[h];rfl
 rw[this,if_pos z]
theorem se26f {k:Key} (h:x.op=26) (hk:farK x s=k) (z:¬ k∈t.reads):stepE t m x s=(4,s,none):=by
 subst hk
 have:stepE t m x s=(if farK x s∈t.reads then (-1,s.set x.a (valE m s.w (farK x s)).1,none) else (4,s,none)):=by unfold stepE;rw[h];rfl
 rw[this,if_neg z]
theorem se27 {k:Key} (h:x.op=27) (hk:farK x s=k) (z:k∈t.writes):stepE t m x s=(-1,s.put ⟨k,s.r x.a,false⟩,none):=by
 subst hk
 have:stepE t m x s=(if farK x s∈t.writes then (-1,s.put ⟨farK x s,s.r x.a,false⟩,none) else (4,s,none)):=by unfold stepE;rw[h];rfl
 rw[this,if_pos z]
theorem se27f {k:Key} (h:x.op=27) (hk:farK x s=k) (z:¬ k∈t.writes):stepE t m x s=(4,s,none):=by
 subst hk
 have:stepE t m x s=(if farK x s∈t.writes then (-1,s.put ⟨farK x s,s.r x.a,false⟩,none) else (4,s,none)):=by unfold stepE;rw[h];rfl
 rw[this,if_neg z]
def plainOp (n:Int):Prop:=n≠0∧n≠1∧n≠2∧n≠7∧n≠3∧n≠4∧n≠5∧n≠6∧n≠19∧n≠22∧n≠23∧n≠24∧n≠25∧n≠26∧n≠27
theorem seb (h:plainOp x.op):stepE t m x s=if (bin2 x.op (s.r x.a) (s.r x.b)).2=0 then (-1,s.set x.a (bin2 x.op (s.r x.a) (s.r x.b)).1,none) else ((bin2 x.op (s.r x.a) (s.r x.b)).2,s,none):=by
 obtain ⟨h0,h1,h2,h7,h3,h4,h5,h6,h19,h22,h23,h24,h25,h26,h27⟩:=h
 unfold stepE
 rw[if_neg h0,if_neg h1,if_neg h2,if_neg h7,if_neg h3,if_neg h4,if_neg h5,if_neg h6,if_neg h19,if_neg h22,if_neg h23,if_neg h24,if_neg h25,if_neg h26,if_neg h27]
end
def StepP (h0:DHeap) (b hm mm am:Nat) (t:Txn) (vc va vr vw:Value) (m:List Pair) (L:List Instr) (x:Instr) (s:RS) (pc:Int) (r:DEnd) (h1:DHeap):Prop:=
 r=.ret (.int .i64 (stepE t m x s).1)∧∃ pc',RunI h0 h1 b hm mm am t vc va vr vw (stepE t m x s).2.1 pc'∧((stepE t m x s).2.2=none→pc'=pc)∧∀ a,(stepE t m x s).2.2=some a→∃ (i:Nat) (y:Instr),L[i]? = some y∧y.pos=a∧pc'=(i:Nat)
section
variable {h0 h1:DHeap} {b hm mm am:Nat} {t:Txn} {vc va vr vw:Value} {m:List Pair} {L:List Instr} {x:Instr} {s s':RS} {pc e:Int}
theorem StepP.of (E:stepE t m x s=(e,s',none)) (I:RunI h0 h1 b hm mm am t vc va vr vw s' pc):StepP h0 b hm mm am t vc va vr vw m L x s pc (.ret (.int .i64 e)) h1:=by
 unfold StepP
 rw[E]
 exact ⟨rfl,pc,I,fun _=>rfl,fun a ha=>by cases ha⟩
theorem StepP.jump {a:Int} {i:Nat} {y:Instr} (E:stepE t m x s=(e,s',some a)) (hy:L[i]? = some y) (hp:y.pos=a) (I:RunI h0 h1 b hm mm am t vc va vr vw s' (i:Nat)):StepP h0 b hm mm am t vc va vr vw m L x s pc (.ret (.int .i64 e)) h1:=by
 unfold StepP
 rw[E]
 exact ⟨rfl,_,I,fun ha=>(by cases ha),fun a ha=>by cases ha;exact ⟨i,y,hy,hp,rfl⟩⟩
end
set_option maxHeartbeats 4000000 in
theorem step_c {h0 h:DHeap} {b hm mm am:Nat} {t:Txn} {vc va vr vw:Value} {m:List Pair} {L:List Instr} {s:RS} {pc:Int} {x:Instr} (C:RunC h0 b hm mm am t vc va vr vw m L) (I:RunI h0 h b hm mm am t vc va vr vw s pc) (hx:InsOk t x) (hj:jumpsB x.op=true→∃ (i:Nat) (y:Instr),L[i]? = some y∧y.pos=x.imm) :
 Ct Try.prog 40 [.pointer (some ⟨b,0,none⟩),instrV x] h (StepP h0 b hm mm am t vc va vr vw m L x s pc):=by
 obtain ⟨x1,x2,x3,x4,x5⟩:=x
 obtain ⟨R,hR⟩:∃ R,StepP h0 b hm mm am t vc va vr vw m L ⟨x1,x2,x3,x4,x5⟩ s pc=R:=⟨_,rfl⟩
 rw[hR]
 refine go_40 (by simp) ?_
 obtain ⟨H,hH⟩:∃ H,H=h.push (.row [.int .i64 x1,.int .i64 x2,.int .i64 x3,.int .i64 x4,.int .i64 x5] 0 false):=⟨_,rfl⟩
 have hE:Ext h H:=by rw[hH];exact Ext.push1 _ _
 have gx:H.get h.next=some (.row [.int .i64 x1,.int .i64 x2,.int .i64 x3,.int .i64 x4,.int .i64 x5] 0 false):=by rw[hH];exact get_push_same _ _
 have hHn:H.next=h.next+1:=by rw[hH];rfl
 have IH:RunI h0 H b hm mm am t vc va vr vw s pc:=I.ext C hE
 have hbn:b<h.next:=Nat.lt_of_lt_of_le C.lb I.kp.next
 have hmn:mm<h.next:=Nat.lt_of_lt_of_le C.lm I.kp.next
 obtain ⟨vo,w,gb,ow,hw⟩:=IH.row
 have l8:=I.len
 obtain ⟨t14,t15,t16,t17,t18⟩:=runL_tail (t:=t) (vc:=vc) (va:=va) (vr:=vr) (vw:=vw) (vo:=vo) (hm:=hm) (mm:=mm) (am:=am) (pc:=pc) l8
 have a1:∀ K,Ext H K→cellAt K h.next 1=some (.int .i64 x2):=fun K e=>cellAt_row ((e.get _ (by omega)).trans gx)
 have a2:∀ K,Ext H K→cellAt K h.next 2=some (.int .i64 x3):=fun K e=>cellAt_row ((e.get _ (by omega)).trans gx)
 have a3:∀ K,Ext H K→cellAt K h.next 3=some (.int .i64 x4):=fun K e=>cellAt_row ((e.get _ (by omega)).trans gx)
 have a4:∀ K,Ext H K→cellAt K h.next 4=some (.int .i64 x5):=fun K e=>cellAt_row ((e.get _ (by omega)).trans gx)
 have gbK:∀ K,Ext H K→K.get b=some (.row (runL t vc va vr vw s.reg hm mm am vo pc) 0 false):=fun K e=>(e.get _ (by omega)).trans gb
 have ha8:x3.toNat<8:=by have:=hx.a;simp only at this;omega
 have hb8:x4.toNat<8:=by have:=hx.b;simp only at this;omega
 have ra:∀ K,Ext H K→cellAt K b (6+x3.toNat)=some (.int .i64 (s.r x3)):=fun K e=>(cellAt_row (gbK K e)).trans (runL_reg l8 ha8)
 have rb:∀ K,Ext H K→cellAt K b (6+x4.toNat)=some (.int .i64 (s.r x4)):=fun K e=>(cellAt_row (gbK K e)).trans (runL_reg l8 hb8)
 have b3:∀ K,Ext H K→cellAt K b 3=some va:=fun K e=>cellAt_row (gbK K e)
 have b4:∀ K,Ext H K→cellAt K b 4=some vr:=fun K e=>cellAt_row (gbK K e)
 have b5:∀ K,Ext H K→cellAt K b 5=some vw:=fun K e=>cellAt_row (gbK K e)
 have b15:∀ K,Ext H K→cellAt K b 15=some (.map (some mm)):=fun K e=>(cellAt_row (gbK K e)).trans t15
 have b16:∀ K,Ext H K→cellAt K b 16=some vo:=fun K e=>(cellAt_row (gbK K e)).trans t16
 have iaa:=ia_regs (id:=b) (o:=6) hx.a.1 hx.a.2
 have iab:=ia_regs (id:=b) (o:=6) hx.b.1 hx.b.2
 simp only at iaa iab
 have wst:∀ K v,Ext H K→storeAt K b (6+x3.toNat) [.int .i64 v]=some (K.set b (.row (runL t vc va vr vw (s.reg.set x3.toNat v) hm mm am vo pc) 0 false)):=fun K v e=>by
  rw[storeAt_row (gbK K e) (by rw[runL_len l8];show 6+x3.toNat+1≤19;omega) rfl,runL_setReg l8 ha8]
 have hTx:TxV (InH H) H t vc va vr vw:=IH.tx C
 have rx:Ext H H:=.refl H
 have iok:inK .i64 x5:=by have:=hx.imm;simp only at this;exact inK_i64.2 ⟨by omega,by omega⟩
 have zok:inK .i64 0:=inK_i64.2 ⟨by decide,by decide⟩
 have hcl:(instrV ⟨x1,x2,x3,x4,x5⟩).cells.toList=[.int .i64 x1,.int .i64 x2,.int .i64 x3,.int .i64 x4,.int .i64 x5]:=rfl
 have fin:∀ {K:DHeap} {s':RS} {e:Int},stepE t m ⟨x1,x2,x3,x4,x5⟩ s=(e,s',none)→RunI h0 K b hm mm am t vc va vr vw s' pc→∃ u,some (Value.int .i64 e)=some u∧R (.ret u) K:=fun E I'=>⟨_,rfl,by rw[← hR];exact .of E I'⟩
 have kok:∀ {l:List Key} {v:Value},Arg fKey.rep H v l→∀ (n:Nat),n<l.length→fKey.ok (l.getD n key0):=fun hs n hn=>by
  rw[List.getD_eq_getElem?_getD,List.getElem?_eq_getElem hn]
  exact hs.ok _ (List.getElem_mem hn)
 have kat:∀ {l:List Key} {v:Value},Arg fKey.rep H v l→∀ (n:Int),0≤n→n<l.length→∃ id o,dIndexAddr Try.prog 24 v (.int .i64 n)=some (.pointer (some ⟨id,o,none⟩))∧∀ K,Ext H K→cellsAt K id o 2=some (keyV (l.getD n.toNat key0)):=fun {l v} hs n h0 hn=>by
  have hn':n.toNat<l.length:=by omega
  obtain ⟨id,o,e1,hid,hat⟩:=hs.idx (P:=Try.prog) (t:=24) el_24 (k:=.i64) (i:=n.toNat) (x:=l[n.toNat]) (by simp)
  have hnn:((n.toNat:Nat):Int)=n:=by omega
  rw[hnn]at e1
  refine ⟨id,o,e1,fun K e=>?_⟩
  have h2:=hat.flat.2.1
  rw[List.getD_eq_getElem?_getD,List.getElem?_eq_getElem hn']
  unfold cellsAt at h2 ⊢
  rw[e.get _ hid]
  exact h2
 obtain ⟨_,_,himm,himm0,hrd,hwr,har,hop⟩:=hx
 simp only at himm himm0 hrd hwr har hop hj
 simp -implicitDefEqProofs (disch:=first|omega|simp only[go_sem]) only[go_sem,true_and,c40,hcl,← hH]
 refine yr_40_0 rfl ?_
 simp -implicitDefEqProofs (disch:=first|omega|simp only[go_sem]) only[go_sem,true_and,g40_0,q40_0,a2 H rx,a3 H rx,iaa,iab,rb H rx,a1 H rx]
 by_cases c0:x2=0
 ·simp -implicitDefEqProofs (disch:=first|omega|simp only[go_sem]) only[go_sem,true_and,c0]
  exact fin (se0 (x:=⟨x1,x2,x3,x4,x5⟩) c0) IH
 by_cases c1:x2=1
 ·simp -implicitDefEqProofs (disch:=first|omega|simp only[go_sem]) only[go_sem,true_and,c1,a4 H rx,wst H _ rx]
  exact fin (se1 (x:=⟨x1,x2,x3,x4,x5⟩) c1) (IH.reg C gb iok)
 by_cases c2:x2=2
 ·have i0:0≤x5:=himm0 (by omega)
  have hl:x5.toNat<t.args.length:=by have:=har c2;omega
  obtain ⟨id1,o1,e1,_,hat1⟩:=hTx.a.idx (P:=Try.prog) (t:=23) el_23 (k:=.i64) (i:=x5.toNat) (x:=t.args[x5.toNat]) (by simp)
  rw[show ((x5.toNat:Nat):Int)=x5 by omega]at e1
  have l1:cellAt H id1 o1=some (.int .i64 (t.args.getD x5.toNat 0)):=by
   rw[List.getD_eq_getElem?_getD,List.getElem?_eq_getElem hl]
   exact hat1.int
  have hok:inK .i64 (t.args.getD x5.toNat 0):=by
   rw[List.getD_eq_getElem?_getD,List.getElem?_eq_getElem hl]
   exact hTx.a.ok _ (List.getElem_mem hl)
  simp -implicitDefEqProofs (disch:=first|omega|simp only[go_sem]) only[go_sem,true_and,c2]
  refine yr_40_1 rfl ?_
  simp -implicitDefEqProofs (disch:=first|omega|simp only[go_sem]) only[go_sem,true_and,g40_1,q40_1,a4 H rx,b3 H rx,e1,l1,wst H _ rx]
  exact fin (se2 (x:=⟨x1,x2,x3,x4,x5⟩) c2) (IH.reg C gb hok)
 by_cases c7:x2=7
 ·simp -implicitDefEqProofs (disch:=first|omega|simp only[go_sem]) only[go_sem,true_and,c7,wst H _ rx]
  exact fin (se7 (x:=⟨x1,x2,x3,x4,x5⟩) c7) (IH.reg C gb (reg_ok I.ok _))
 by_cases c3:x2=3
 ·obtain ⟨id1,o1,e1,l1⟩:=kat hTx.r x5 (himm0 (by omega)) (hrd (.inl c3))
  simp -implicitDefEqProofs (disch:=first|omega|simp only[go_sem]) only[go_sem,true_and,c3]
  refine yr_40_2 rfl ?_
  simp -implicitDefEqProofs (disch:=first|omega|simp only[go_sem]) only[go_sem,true_and,g40_2,q40_2,a4 H rx,b4 H rx,e1,l1 H rx]
  refine ycall (value_c C IH) ?_
  simp -implicitDefEqProofs (disch:=first|omega|simp only[go_sem]) only[go_sem,true_and,wst H _ rx]
  exact fin (se3 (x:=⟨x1,x2,x3,x4,x5⟩) c3) (IH.reg C gb (valE_ok C.okm I.wok))
 by_cases c4:x2=4
 ·obtain ⟨id1,o1,e1,l1⟩:=kat hTx.r x5 (himm0 (by omega)) (hrd (.inr c4))
  simp -implicitDefEqProofs (disch:=first|omega|simp only[go_sem]) only[go_sem,true_and,c4]
  refine yr_40_3 rfl ?_
  simp -implicitDefEqProofs (disch:=first|omega|simp only[go_sem]) only[go_sem,true_and,g40_3,q40_3,a4 H rx,b4 H rx,e1,l1 H rx]
  refine ycall (value_c C IH) ?_
  simp -implicitDefEqProofs (disch:=first|omega|simp only[go_sem]) only[go_sem,true_and]
  refine ncall truth_c ?_
  simp -implicitDefEqProofs (disch:=first|omega|simp only[go_sem]) only[go_sem,true_and,wst H _ rx]
  refine fin (se4 (x:=⟨x1,x2,x3,x4,x5⟩) c4) (IH.reg C gb ?_)
  split
  ·exact inK_i64.2 ⟨by decide,by decide⟩
  ·exact inK_i64.2 ⟨by decide,by decide⟩
 by_cases c5:x2=5
 ·have hlt:=hwr (.inl c5)
  have i0:0≤x5:=himm0 (by omega)
  have hl:x5.toNat<t.writes.length:=by omega
  obtain ⟨id1,o1,e1,l1⟩:=kat hTx.w x5 i0 hlt
  obtain ⟨k,hk⟩:∃ k,t.writes.getD x5.toNat key0=k:=⟨_,rfl⟩
  have hkok:fKey.ok k:=hk▸kok hTx.w x5.toNat hl
  rw[hk]at l1
  obtain ⟨H2,hH2⟩:∃ K,K=H.push (.row [.int .i32 0,.int .i64 0] 0 false):=⟨_,rfl⟩
  have e2:Ext H H2:=by rw[hH2];exact Ext.push1 _ _
  have g2:H2.get H.next=some (.row [.int .i32 0,.int .i64 0] 0 false):=by rw[hH2];exact get_push_same _ _
  obtain ⟨H3,hH3⟩:∃ K,K=H2.set H.next (.row [.int .i32 k.t,.int .i64 k.r] 0 false):=⟨_,rfl⟩
  have e3:Ext H H3:=by rw[hH3];exact e2.set (Nat.le_refl _)
  have hst:dStore Try.prog 44 (.pointer (some ⟨H.next,0,none⟩)) (keyV k) H2=some H3:=by
   rw[hH3]
   exact (st_44 rfl).trans (storeAt_row g2 (Nat.le_of_ble_eq_true rfl) rfl)
  have g3:H3.get H.next=some (.row [.int .i32 k.t,.int .i64 k.r] 0 false):=by rw[hH3];exact get_set_same _ _
  have l3:cellsAt H3 H.next 0 2=some (keyV k):=by rw[cellsAt_row g3 (Nat.le_of_ble_eq_true rfl)];rfl
  have I3:=IH.ext C e3
  obtain ⟨o,hu,hm2⟩:=I3.mine.update mapTC k (chgV ⟨k,s.r x3,false⟩)
  simp -implicitDefEqProofs (disch:=first|omega|simp only[go_sem]) only[go_sem,true_and,c5]
  refine yr_40_4 rfl ?_
  simp -implicitDefEqProofs (disch:=first|omega|simp only[go_sem]) only[go_sem,true_and,g40_4,q40_4]
  simp -implicitDefEqProofs (disch:=first|omega|simp only[go_sem]) only[go_sem,true_and,← hH2,a4 H2 e2,b5 H2 e2,e1,l1 H2 e2,hst]
  refine yr_40_5 rfl ?_
  simp -implicitDefEqProofs (disch:=first|omega|simp only[go_sem]) only[go_sem,true_and,g40_5,q40_5,b15 H3 e3,l3,ra H3 e3,bd_chgS,hu]
  exact fin (se5 (x:=⟨x1,x2,x3,x4,x5⟩) c5 hk) (I3.put C (c:=⟨k,s.r x3,false⟩) hm2 ⟨hkok,reg_ok I.ok _,trivial⟩)
 by_cases c6:x2=6
 ·have hlt:=hwr (.inr c6)
  have i0:0≤x5:=himm0 (by omega)
  have hl:x5.toNat<t.writes.length:=by omega
  obtain ⟨id1,o1,e1,l1⟩:=kat hTx.w x5 i0 hlt
  obtain ⟨k,hk⟩:∃ k,t.writes.getD x5.toNat key0=k:=⟨_,rfl⟩
  have hkok:fKey.ok k:=hk▸kok hTx.w x5.toNat hl
  rw[hk]at l1
  obtain ⟨H2,hH2⟩:∃ K,K=H.push (.row [.int .i32 0,.int .i64 0] 0 false):=⟨_,rfl⟩
  have e2:Ext H H2:=by rw[hH2];exact Ext.push1 _ _
  have g2:H2.get H.next=some (.row [.int .i32 0,.int .i64 0] 0 false):=by rw[hH2];exact get_push_same _ _
  obtain ⟨H3,hH3⟩:∃ K,K=H2.set H.next (.row [.int .i32 k.t,.int .i64 k.r] 0 false):=⟨_,rfl⟩
  have e3:Ext H H3:=by rw[hH3];exact e2.set (Nat.le_refl _)
  have hst:dStore Try.prog 44 (.pointer (some ⟨H.next,0,none⟩)) (keyV k) H2=some H3:=by
   rw[hH3]
   exact (st_44 rfl).trans (storeAt_row g2 (Nat.le_of_ble_eq_true rfl) rfl)
  have g3:H3.get H.next=some (.row [.int .i32 k.t,.int .i64 k.r] 0 false):=by rw[hH3];exact get_set_same _ _
  have l3:cellsAt H3 H.next 0 2=some (keyV k):=by rw[cellsAt_row g3 (Nat.le_of_ble_eq_true rfl)];rfl
  have I3:=IH.ext C e3
  obtain ⟨o,hu,hm2⟩:=I3.mine.update mapTC k (chgV ⟨k,0,true⟩)
  simp -implicitDefEqProofs (disch:=first|omega|simp only[go_sem]) only[go_sem,true_and,c6]
  refine yr_40_6 rfl ?_
  simp -implicitDefEqProofs (disch:=first|omega|simp only[go_sem]) only[go_sem,true_and,g40_6,q40_6]
  simp -implicitDefEqProofs (disch:=first|omega|simp only[go_sem]) only[go_sem,true_and,← hH2,a4 H2 e2,b5 H2 e2,e1,l1 H2 e2,hst]
  refine yr_40_7 rfl ?_
  simp -implicitDefEqProofs (disch:=first|omega|simp only[go_sem]) only[go_sem,true_and,g40_7,q40_7,b15 H3 e3,l3,bd_chgE,hu]
  exact fin (se6 (x:=⟨x1,x2,x3,x4,x5⟩) c6 hk) (I3.put C (c:=⟨k,0,true⟩) hm2 ⟨hkok,zok,trivial⟩)
 by_cases c19:x2=19
 ·simp -implicitDefEqProofs (disch:=first|omega|simp only[go_sem]) only[go_sem,true_and,c19]
  refine yr_40_8 rfl ?_
  simp -implicitDefEqProofs (disch:=first|omega|simp only[go_sem]) only[go_sem,true_and,g40_8,q40_8,ra H rx,a4 H rx]
  refine ycall narrow_c ?_
  simp -implicitDefEqProofs (disch:=first|omega|simp only[go_sem]) only[go_sem,true_and,wst H _ rx]
  exact fin (se19 (x:=⟨x1,x2,x3,x4,x5⟩) c19) (IH.reg C gb (narrow_ok (reg_ok I.ok _)))
 by_cases c22:x2=22
 ·obtain ⟨i,y,hy,hp⟩:=hj (by simp[jumpsB,c22])
  have gc:=goes_c C IH hy gb
  rw[hp]at gc
  simp -implicitDefEqProofs (disch:=first|omega|simp only[go_sem]) only[go_sem,true_and,c22,a4 H rx]
  refine ncall_ct gc ?_
  rintro r K ⟨rfl,rfl⟩
  simp -implicitDefEqProofs (disch:=first|omega|simp only[go_sem]) only[go_sem,true_and,XEnd]
  exact ⟨_,rfl,by rw[← hR];exact .jump (se22 (x:=⟨x1,x2,x3,x4,x5⟩) c22) hy hp (IH.pc' C gb _)⟩
 by_cases c23:x2=23
 ·by_cases z:s.r x3=0
  ·simp -implicitDefEqProofs (disch:=first|omega|simp only[go_sem]) only[go_sem,true_and,c23,ra H rx,z]
   exact fin (se23z (x:=⟨x1,x2,x3,x4,x5⟩) c23 z) IH
  ·obtain ⟨i,y,hy,hp⟩:=hj (by simp[jumpsB,c23])
   have gc:=goes_c C IH hy gb
   rw[hp]at gc
   simp -implicitDefEqProofs (disch:=first|omega|simp only[go_sem]) only[go_sem,true_and,c23,ra H rx,z,a4 H rx]
   refine ncall_ct gc ?_
   rintro r K ⟨rfl,rfl⟩
   simp -implicitDefEqProofs (disch:=first|omega|simp only[go_sem]) only[go_sem,true_and,XEnd]
   exact ⟨_,rfl,by rw[← hR];exact .jump (se23 (x:=⟨x1,x2,x3,x4,x5⟩) c23 z) hy hp (IH.pc' C gb _)⟩
 by_cases c24:x2=24
 ·have lo:∀ K,dLen Try.prog #[23] vo K=some (.int .i64 (s.out.length:Nat)):=ow.sl.lens (P:=Try.prog) (ts:=#[23]) (t:=23) rfl isl_23
  by_cases z:8≤s.out.length
  ·have z':=eq_true (show (8:Int)≤(s.out.length:Nat) by omega)
   simp -implicitDefEqProofs (disch:=first|omega|simp only[go_sem]) only[go_sem,true_and,c24,b16 H rx,lo,z']
   exact fin (se24f (x:=⟨x1,x2,x3,x4,x5⟩) c24 z) IH
  ·have z':¬ (8:Int)≤(s.out.length:Nat):=by omega
   obtain ⟨vo',h2,e6,n2,ng2,gg,o3⟩:=ow.snoc (cs:=[.int .i64 (s.r x3)]) (x:=s.r x3) (z:=1) (fun i hi=>hi.elim) ⟨rfl,reg_ok I.ok _⟩ rfl (by decide) app_23 (by omega) (by decide)
   have hv':vo'.cells=#[vo']:=o3.sl.cells1
   have hone:[vo'].all Value.oneCell'=true:=by obtain ⟨_,_,rfl⟩:=o3.sl.isSlice;rfl
   have nb:w≠some b:=fun e=>by have:=hw b e;have:=C.lb;omega
   have nm:w≠some mm:=fun e=>by have:=hw mm e;have:=C.lm;omega
   have gb2:h2.get b=some (.row (runL t vc va vr vw s.reg hm mm am vo pc) 0 false):=(gg _ (by omega) nb).trans gb
   have w1:dStore Try.prog 23 (.pointer (some ⟨b,16,none⟩)) vo' h2=some (h2.set b (.row (runL t vc va vr vw s.reg hm mm am vo' pc) 0 false)):=by
    rw[st_23 hv',storeAt_row gb2 (by rw[runL_len l8];exact Nat.le_of_ble_eq_true rfl) hone,runL_setOut l8]
   have ep:Ext H (H.push (.row [.int .i64 (s.r x3)] 1 false)):=Ext.push1 _ _
   simp -implicitDefEqProofs (disch:=first|omega|simp only[go_sem]) only[go_sem,true_and,c24,b16 H rx,lo,z']
   refine yr_40_9 rfl ?_
   simp -implicitDefEqProofs (disch:=first|omega|simp only[go_sem]) only[go_sem,true_and,g40_9,q40_9,b16 H rx,ra H rx,b16 _ ep,e6,w1]
   have kp2:KpD (fun i=>i=b∨i=mm) h0 h2:=⟨by have:=IH.kp.next;omega,ng2.trans IH.kp.ng,fun i hi hn=>(gg i (Nat.lt_of_lt_of_le hi IH.kp.next) (fun e=>by have:=hw i e;omega)).trans (IH.kp.get i hi hn)⟩
   have mm2:MapAt keyV h2 mm (putB Change.k chgV s.w):=IH.mine.keep (gg _ (by omega) nm)
   have hkn:=IH.kp.next
   refine fin (s':={ s with out:=s.out++[s.r x3] }) (se24 (x:=⟨x1,x2,x3,x4,x5⟩) c24 z) ⟨kp2.set (.inl (.inl rfl)),⟨vo',some (H.next+1),get_set_same _ _,o3.mono (Nat.le_refl _) (fun i hi=>get_set_other _ _ (by cases hi;omega)) (fun i hi=>hi.elim),fun i hi=>by cases hi;omega⟩,mm2.keep (get_set_other _ _ (fun e=>C.bm e.symm)),l8,I.ok,by simp;omega,I.wok⟩
 by_cases c25:x2=25
 ·have i0:0≤x5:=himm0 (by omega)
  have hwp:IntKind.i64.wrap (100+x5)=100+x5:=wrap_i64_in (by omega) (by omega)
  simp -implicitDefEqProofs (disch:=first|omega|simp only[go_sem]) only[go_sem,true_and,c25,a4 H rx,hwp]
  exact fin (se25 (x:=⟨x1,x2,x3,x4,x5⟩) c25) IH
 by_cases c26:x2=26
 ·obtain ⟨k,hk⟩:∃ k,(⟨IntKind.i32.wrap x5,s.r x4⟩:Key)=k:=⟨_,rfl⟩
  have hkok:fKey.ok k:=hk▸⟨wrap_ok _ _,reg_ok I.ok _⟩
  have hfar:farK ⟨x1,x2,x3,x4,x5⟩ s=k:=hk
  obtain ⟨H3,hH3⟩:∃ K,K=H.push (.row [.int .i32 k.t,.int .i64 k.r] 0 false):=⟨_,rfl⟩
  have e3:Ext H H3:=by rw[hH3];exact Ext.push1 _ _
  have hst:dStore Try.prog 44 (.pointer (some ⟨H.next,0,none⟩)) (keyV k) (H.push (.row [.int .i32 0,.int .i64 0] 0 false))=some H3:=by
   rw[hH3]
   exact (st_44 rfl).trans (storeAll_push rfl rfl)
  have g3:H3.get H.next=some (.row [.int .i32 k.t,.int .i64 k.r] 0 false):=by rw[hH3];exact get_push_same _ _
  have l3:cellsAt H3 H.next 0 2=some (keyV k):=by rw[cellsAt_row g3 (Nat.le_of_ble_eq_true rfl)];rfl
  have I3:=IH.ext C e3
  have hbk:dBuild Try.prog 44 [(0,.int .i32 (IntKind.i32.wrap x5)),(1,.int .i64 (s.r x4))]=some (keyV k):=hk▸bd_keyK
  simp -implicitDefEqProofs (disch:=first|omega|simp only[go_sem]) only[go_sem,true_and,c26,a4 H rx,hbk,hst]
  refine yr_40_10 rfl ?_
  simp -implicitDefEqProofs (disch:=first|omega|simp only[go_sem]) only[go_sem,true_and,g40_10,q40_10,b4 H3 e3,l3]
  refine ycall (has_c (hTx.ext e3).r (by have:=C.len.r;omega)) ?_
  by_cases hm':k∈t.reads
  ·have hmd:=decide_eq_true hm'
   simp -implicitDefEqProofs (disch:=first|omega|simp only[go_sem]) only[go_sem,true_and,hmd,l3]
   refine ncall (value_c C I3) ?_
   simp -implicitDefEqProofs (disch:=first|omega|simp only[go_sem]) only[go_sem,true_and,wst H3 _ e3]
   exact fin (se26 (x:=⟨x1,x2,x3,x4,x5⟩) c26 hfar hm') (I3.reg C (gbK H3 e3) (valE_ok C.okm I.wok))
  ·have hmd:=decide_eq_false hm'
   simp -implicitDefEqProofs (disch:=first|omega|simp only[go_sem]) only[go_sem,true_and,hmd]
   exact fin (se26f (x:=⟨x1,x2,x3,x4,x5⟩) c26 hfar hm') I3
 by_cases c27:x2=27
 ·obtain ⟨k,hk⟩:∃ k,(⟨IntKind.i32.wrap x5,s.r x4⟩:Key)=k:=⟨_,rfl⟩
  have hkok:fKey.ok k:=hk▸⟨wrap_ok _ _,reg_ok I.ok _⟩
  have hfar:farK ⟨x1,x2,x3,x4,x5⟩ s=k:=hk
  obtain ⟨H3,hH3⟩:∃ K,K=H.push (.row [.int .i32 k.t,.int .i64 k.r] 0 false):=⟨_,rfl⟩
  have e3:Ext H H3:=by rw[hH3];exact Ext.push1 _ _
  have hst:dStore Try.prog 44 (.pointer (some ⟨H.next,0,none⟩)) (keyV k) (H.push (.row [.int .i32 0,.int .i64 0] 0 false))=some H3:=by
   rw[hH3]
   exact (st_44 rfl).trans (storeAll_push rfl rfl)
  have g3:H3.get H.next=some (.row [.int .i32 k.t,.int .i64 k.r] 0 false):=by rw[hH3];exact get_push_same _ _
  have l3:cellsAt H3 H.next 0 2=some (keyV k):=by rw[cellsAt_row g3 (Nat.le_of_ble_eq_true rfl)];rfl
  have I3:=IH.ext C e3
  have hbk:dBuild Try.prog 44 [(0,.int .i32 (IntKind.i32.wrap x5)),(1,.int .i64 (s.r x4))]=some (keyV k):=hk▸bd_keyK
  simp -implicitDefEqProofs (disch:=first|omega|simp only[go_sem]) only[go_sem,true_and,c27,a4 H rx,hbk,hst]
  refine yr_40_11 rfl ?_
  simp -implicitDefEqProofs (disch:=first|omega|simp only[go_sem]) only[go_sem,true_and,g40_11,q40_11,b5 H3 e3,l3]
  refine ycall (has_c (hTx.ext e3).w (by have:=C.len.w;omega)) ?_
  by_cases hm':k∈t.writes
  ·have hmd:=decide_eq_true hm'
   obtain ⟨o,hu,hm2⟩:=I3.mine.update mapTC k (chgV ⟨k,s.r x3,false⟩)
   simp -implicitDefEqProofs (disch:=first|omega|simp only[go_sem]) only[go_sem,true_and,hmd]
   refine yr_40_12 rfl ?_
   simp -implicitDefEqProofs (disch:=first|omega|simp only[go_sem]) only[go_sem,true_and,g40_12,q40_12,b15 H3 e3,l3,ra H3 e3,bd_chgS,hu]
   exact fin (se27 (x:=⟨x1,x2,x3,x4,x5⟩) c27 hfar hm') (I3.put C (c:=⟨k,s.r x3,false⟩) hm2 ⟨hkok,reg_ok I.ok _,trivial⟩)
  ·have hmd:=decide_eq_false hm'
   simp -implicitDefEqProofs (disch:=first|omega|simp only[go_sem]) only[go_sem,true_and,hmd]
   exact fin (se27f (x:=⟨x1,x2,x3,x4,x5⟩) c27 hfar hm') I3
 obtain ⟨k1,k2⟩:=bin2_ok (o:=x2) (b:=s.r x4) (reg_ok I.ok x3)
 have hpl:plainOp x2:=⟨c0,c1,c2,c7,c3,c4,c5,c6,c19,c22,c23,c24,c25,c26,c27⟩
 simp -implicitDefEqProofs (disch:=first|omega|simp only[go_sem]) only[go_sem,true_and,c0,c1,c2,c7,c3,c4,c5,c6,c19,c22,c23,c24,c25,c26,c27]
 refine yr_40_13 rfl ?_
 simp -implicitDefEqProofs (disch:=first|omega|simp only[go_sem]) only[go_sem,true_and,g40_13,q40_13,a1 H rx,ra H rx]
 refine ycall binary_c ?_
 by_cases z:(bin2 x2 (s.r x3) (s.r x4)).2=0
 ·simp -implicitDefEqProofs (disch:=first|omega|simp only[go_sem]) only[go_sem,true_and,bin2V,z,wst H _ rx]
  exact fin ((seb (x:=⟨x1,x2,x3,x4,x5⟩) hpl).trans (if_pos z)) (IH.reg C gb k1)
 ·simp -implicitDefEqProofs (disch:=first|omega|simp only[go_sem]) only[go_sem,true_and,bin2V,z]
  exact fin ((seb (x:=⟨x1,x2,x3,x4,x5⟩) hpl).trans (if_neg z)) IH
end Go.Proofs.Ythjmkmoiopmfcaa

namespace Go.Proofs.Ythjmkmoiopmfcaa
open Go.D
set_option maxRecDepth 100000
def atM (L:List Instr):Nat→List (Int × Value)
 | 0=>[]
 | i+1=>mput (atM L i) ((L[i]?.map (·.pos)).getD 0) (.int .i64 (i:Nat))
theorem atM_nodup (L:List Instr):∀ n,((atM L n).map (·.1)).Nodup
 | 0=>.nil
 | n+1=>mput_nodup (atM_nodup L n)
theorem atM_get {L:List Instr} (hL:L.Pairwise fun x y=>x.pos<y.pos):∀ {n i:Nat} {x:Instr},n≤L.length→i<n→L[i]? = some x→mget (atM L n) x.pos=some (.int .i64 (i:Nat))
 | 0,i,x,_,hi,_=>by omega
 | n+1,i,x,hn,hi,hx=>by
   have hl:n<L.length:=by omega
   simp only[atM]
   rw[List.getElem?_eq_getElem hl,Option.map_some,Option.getD_some,mget_mput (atM_nodup L n)]
   by_cases hin:i=n
   ·subst hin
    rw[List.getElem?_eq_getElem hl]at hx
    cases hx
    rw[if_pos rfl]
   ·have hil:i<L.length:=by omega
    have hxi:L[i]=x:=by rw[List.getElem?_eq_getElem hil]at hx;exact Option.some.inj hx
    have:=List.pairwise_iff_getElem.1 hL i n hil hl (by omega)
    rw[hxi]at this
    rw[if_neg (by omega)]
    exact atM_get hL (by omega) (by omega) hx
theorem atM_step {L:List Instr} {i:Nat} (hi:i<L.length):atM L (i+1)=mput (atM L i) L[i].pos (.int .i64 (i:Nat)):=by
 simp only[atM]
 rw[List.getElem?_eq_getElem hi]
 rfl
theorem byK_last {w l:List Change} (hn:(l.map Change.k).Nodup) (hl:∀ c∈l,lastB Change.k w c.k=some c) (hall:∀ k∈w.map Change.k,k∈l.map Change.k):byK Change.k l=byK Change.k w:=by
 refine upB_eq (byK_up _) (byK_up _) fun c=>?_
 rw[mem_byK,mem_byK]
 constructor
 ·intro h
  exact hl c (lastB_some h).1
 ·intro h
  obtain ⟨h1,h2⟩:=lastB_some h
  obtain ⟨d,hd⟩:=lastB_mem (hall c.k (List.mem_map.2 ⟨c,h1,rfl⟩))
  obtain ⟨g1,g2⟩:=lastB_some hd
  have:=hl d g1
  rw[g2,h]at this
  cases this
  exact hd
theorem fuel_ok (f:Int):max 0 (min f 4096)=(fuelN f:Nat):=by unfold fuelN;omega
end Go.Proofs.Ythjmkmoiopmfcaa

namespace Go.Proofs.Ythjmkmoiopmfcaa
open Go.D
set_option maxRecDepth 100000
abbrev nilV0:Value:=.slice none 0 0
theorem maxR_i64 {P:Program} {h:DHeap} {ts:Array TypeId} {ty:TypeId} {a b:Int}:dBuiltin P .max ts ty h (some [.int .i64 a,.int .i64 b])=.ok (.value (.int .i64 (max a b))) h:=by
 have hq:quick P (Builtin.max_ ts ty #[.int .i64 a,.int .i64 b])=some (.inr (.int .i64 (max a b))):=by
  have e:max a b=if a<b then b else a:=by
   by_cases h:a<b
   ·rw[if_pos h];omega
   ·rw[if_neg h];omega
  rw[e]
  rfl
 have hf:([Value.int .i64 a,.int .i64 b].all flat3)=true:=rfl
 show (if [Value.int .i64 a,.int .i64 b].all flat3=true then dval P (Builtin.max_ ts ty #[.int .i64 a,.int .i64 b]) h else .bad)=_
 rw[if_pos hf]
 simp only[dval,hq]
 rfl
theorem bd_o1 {e:Int}:dBuild Try.prog 32 [(0,.int .i64 e)]=some (.agg #[.int .i64 e,nilV0,nilV0,.int .i64 0]):=dBuild_at plc_32 rfl
theorem bd_o2 {e k:Int}:dBuild Try.prog 32 [(0,.int .i64 e),(3,.int .i64 k)]=some (.agg #[.int .i64 e,nilV0,nilV0,.int .i64 k]):=dBuild_at plc_32 rfl
theorem bd_o4 {e k:Int} {u w:Value} (hu:u.cells=#[u]) (hw:w.cells=#[w]):dBuild Try.prog 32 [(0,.int .i64 e),(1,u),(2,w),(3,.int .i64 k)]=some (.agg #[.int .i64 e,u,w,.int .i64 k]):=dBuild_at plc_32 (by simp[fillL,hu,hw,setAt,cells_int])
theorem bd_run {t:Txn} {vc va vr vw:Value} {a b c:Nat}:dBuild Try.prog 81 [(0,txnV t.ses t.req vc va vr vw),(2,.map (some a)),(3,.map (some b)),(6,.map (some c))]=some (.agg (runL t vc va vr vw [0,0,0,0,0,0,0,0] a b c nilV0 0).toArray):=dBuild_at plc_81 rfl
def RunR (h:DHeap) (o:Outc) (r:DEnd) (h1:DHeap):Prop:=∃ vv cv,r=.ret (.agg #[.int .i64 o.e,vv,cv,.int .i64 o.s])∧Made fI64 h h1 vv o.vs∧Made fChange h h1 cv o.ch
theorem RunR.none {h h1:DHeap} {e k:Int} (hE:Ext h h1) {o:Outc} (ho:o=⟨e,[],[],k⟩):RunR h o (.ret (.agg #[.int .i64 e,nilV0,nilV0,.int .i64 k])) h1:=by
 subst ho
 exact ⟨_,_,rfl,.nil _ hE,.nil _ hE⟩
set_option maxHeartbeats 4000000 in
theorem run_c {h:DHeap} {t:Txn} {vc va vr vw v:Value} {l:List Pair} {f:Int} (x:TxV (InH h) h t vc va vr vw) (hT:TxLen t) (hb:Arg fPair.rep h v l) (hl:l.length≤1048576) :
 Ct Try.prog 13 [txnV t.ses t.req vc va vr vw,v,.int .i64 f] h (RunR h (runE t l f)):=by
 obtain ⟨R,hR⟩:∃ R,RunR h (runE t l f)=R:=⟨_,rfl⟩
 rw[hR]
 refine go_13 (by simp) ?_
 have hcl:(txnV t.ses t.req vc va vr vw).cells.toList=[.int .i64 t.ses,.int .i64 t.req,vc,va,vr,vw]:=rfl
 obtain ⟨H1,hH1⟩:∃ H,h.push (.row [.int .i64 t.ses,.int .i64 t.req,vc,va,vr,vw] 0 false)=H:=⟨_,rfl⟩
 have g1:H1.get h.next=some (.row [.int .i64 t.ses,.int .i64 t.req,vc,va,vr,vw] 0 false):=by rw[← hH1];exact get_push_same _ _
 have n1:H1.next=h.next+1:=by rw[← hH1];rfl
 have e1:Ext h H1:=by rw[← hH1];exact Ext.push1 _ _
 obtain ⟨H2,hH2⟩:∃ H,H1.push (.row [.int .i64 0,nilV0,nilV0,.int .i64 0] 0 false)=H:=⟨_,rfl⟩
 have g2:H2.get H1.next=some (.row [.int .i64 0,nilV0,nilV0,.int .i64 0] 0 false):=by rw[← hH2];exact get_push_same _ _
 have n2:H2.next=h.next+2:=by rw[← hH2,next_push,n1]
 have e12:Ext H1 H2:=by rw[← hH2];exact Ext.push1 _ _
 have e2:Ext h H2:=e1.trans e12
 have lt:∀ K,Ext H2 K→cellsAt K h.next 0 6=some (txnV t.ses t.req vc va vr vw):=fun K e=>by
  rw[cellsAt_row ((e.get _ (by omega)).trans ((e12.get _ (by omega)).trans g1)) (Nat.le_of_ble_eq_true rfl)]
  rfl
 have lc:∀ K,Ext H2 K→cellAt K h.next 2=some vc:=fun K e=>cellAt_row ((e.get _ (by omega)).trans ((e12.get _ (by omega)).trans g1))
 have hby:=bytes_le x.c
 have x2:TxV (InH H2) H2 t vc va vr vw:=x.ext e2
 have res:∀ (K:DHeap) (e k:Int) (u w:Value),u.cells=#[u]→w.cells=#[w]→[Value.int .i64 e,u,w,.int .i64 k].all Value.oneCell'=true→K.get H1.next=some (.row [.int .i64 0,nilV0,nilV0,.int .i64 0] 0 false) →
  ∃ K',storeAt K H1.next 0 [.int .i64 e,u,w,.int .i64 k]=some K'∧cellsAt K' H1.next 0 4=some (.agg #[.int .i64 e,u,w,.int .i64 k])∧∃ o,K'=K.set H1.next o:=fun K e k u w hu hw ho g=>by
  refine ⟨_,storeAt_row g (Nat.le_of_ble_eq_true rfl) ho,?_,_,rfl⟩
  rw[cellsAt_row (get_set_same _ _) (Nat.le_of_ble_eq_true rfl)]
  rfl
 simp -implicitDefEqProofs (disch:=first|omega|simp only[go_sem]) only[go_sem,true_and,c13,hcl,hH1,hH2,lt H2 (.refl _)]
 refine ncall (checkT_c x2.c x2.a x2.r x2.w hT.c hby) ?_
 by_cases hz:txnE t=0
 case neg=>
  obtain ⟨K',s1,s2,o,rfl⟩:=res H2 1 0 nilV0 nilV0 rfl rfl rfl g2
  simp -implicitDefEqProofs (disch:=first|omega|simp only[go_sem]) only[go_sem,true_and,hz,bd_o1,s1,dResults_c1,dResC_some,s2]
  refine ⟨_,rfl,?_⟩
  rw[← hR]
  exact RunR.none (e2.set (by omega)) (by unfold runE;rw[if_pos hz])
 obtain ⟨hdec,_,hna,hnr,hnw⟩:=txn_ok hz
 simp -implicitDefEqProofs (disch:=first|omega|simp only[go_sem]) only[go_sem,true_and,hz,lc H2 (.refl _)]
 refine ncall_ct (decode_c x2.c hT.c) ?_
 rintro r Q1 ⟨w,rfl,eQ1,hw⟩
 obtain ⟨L,hL⟩:∃ L,decL t.code=L:=⟨_,rfl⟩
 rw[hL]at hw
 have eQ:Ext h Q1:=e2.trans eQ1
 have hLlen:L.length≤512:=by
  have h1:=walkAt_len (l:=t.code) (n:=t.code.length) (i:=0) (by omega)
  obtain ⟨h2,_,_,h3⟩:=decL_of hdec
  rw[← hL,h2]
  omega
 obtain ⟨M1,hM1⟩:∃ H,Q1.push (.map [] 0)=H:=⟨_,rfl⟩
 obtain ⟨M2,hM2⟩:∃ H,M1.push (.map [] 0)=H:=⟨_,rfl⟩
 obtain ⟨M3,hM3⟩:∃ H,M2.push (.map [] 0)=H:=⟨_,rfl⟩
 obtain ⟨M4,hM4⟩:∃ H,M3.push (.row (runL t vc va vr vw [0,0,0,0,0,0,0,0] Q1.next M1.next M2.next nilV0 0) 0 false)=H:=⟨_,rfl⟩
 have m1:M1.next=Q1.next+1:=by rw[← hM1];rfl
 have m2:M2.next=Q1.next+2:=by rw[← hM2,next_push,m1]
 have m3:M3.next=Q1.next+3:=by rw[← hM3,next_push,m2]
 have m4:M4.next=Q1.next+4:=by rw[← hM4,next_push,m3]
 have E1:Ext Q1 M1:=hM1▸Ext.push1 _ _
 have E2:Ext M1 M2:=hM2▸Ext.push1 _ _
 have E3:Ext M2 M3:=hM3▸Ext.push1 _ _
 have E4:Ext M3 M4:=hM4▸Ext.push1 _ _
 have a1:MapAt keyV M4 Q1.next ([]:List (Key × Value)):=MapAt.keep (by rw[← hM1];exact MapAt.new) ((E4.get _ (by omega)).trans ((E3.get _ (by omega)).trans (E2.get _ (by omega))))
 have a2:MapAt keyV M4 M1.next ([]:List (Key × Value)):=MapAt.keep (by rw[← hM2];exact MapAt.new) ((E4.get _ (by omega)).trans (E3.get _ (by omega)))
 have a3:MapAt (fun n:Int=>Value.int .i64 n) M4 M2.next ([]:List (Int × Value)):=MapAt.keep (by rw[← hM3];exact MapAt.new) (E4.get _ (by omega))
 have a4:M4.get M3.next=some (.row (runL t vc va vr vw [0,0,0,0,0,0,0,0] Q1.next M1.next M2.next nilV0 0) 0 false):=by rw[← hM4];exact get_push_same _ _
 have EQ4:Ext Q1 M4:=((E1.trans E2).trans E3).trans E4
 have elw:∀ K,dLen Try.prog #[74] w K=some (.int .i64 (L.length:Nat)):=hw.lens (P:=Try.prog) (ts:=#[74]) (t:=74) rfl isl_74
 simp -implicitDefEqProofs (disch:=first|omega|simp only[go_sem]) only[go_sem,true_and,XEnd,lt Q1 eQ1,hM1,hM2,hM3,bd_run,hM4,elw]
 refine xloop (σ:=Nat) (by kernel_rfl) (fun i s=>s.df=[]∧s.rd=none∧s.fr 1=some v∧s.fr 2=some (.int .i64 f)∧s.fr 3=some (.pointer (some ⟨h.next,0,none⟩))∧s.fr 6=some (.pointer (some ⟨H1.next,0,none⟩))∧s.fr 7=some w∧s.fr 9=some (.pointer (some ⟨M3.next,0,none⟩))∧s.fr 36=some w∧s.fr 37=some (.int .i64 (L.length:Nat))∧s.fr 38=some (.int .i64 (i:Nat))∧i≤L.length ∧
  Ext Q1 s.h∧M3.next<s.h.next∧s.h.get M3.next=some (.row (runL t vc va vr vw [0,0,0,0,0,0,0,0] Q1.next M1.next M2.next nilV0 0) 0 false)∧MapAt keyV s.h Q1.next ([]:List (Key × Value))∧MapAt keyV s.h M1.next ([]:List (Key × Value))∧MapAt (fun n:Int=>Value.int .i64 n) s.h M2.next (atM L i)) (fun i=>L.length - i) 0 ?_ ?_
 ·simp -implicitDefEqProofs (disch:=first|omega|simp only[go_sem]) only[go_sem,true_and]
  exact ⟨by trivial,Nat.zero_le _,EQ4,by omega,a4,a1,a2,a3⟩
 rintro i ⟨fr,df,K,rd⟩ K' hK' hX ⟨rfl,rfl,f1,f2,f3,f6,f7,f9,f36,f37,f38,hi,eK,hlt,b4,b1,b2,b3⟩
 simp only at f1 f2 f3 f6 f7 f9 f36 f37 f38 eK hlt b4 b1 b2 b3
 simp -implicitDefEqProofs (disch:=first|omega|simp only[go_sem]) only[go_sem,true_and,f36,f37,f38]
 refine XIf_dec (fun hc1=>?_) (fun hc1=>?_)
 ·have hj:i<L.length:=by omega
  obtain ⟨id1,o1,q1,hid1,hat1⟩:=(hw.ext eK).idx (P:=Try.prog) (t:=74) el_74 (k:=.i64) (i:=i) (x:=L[i]) (by simp)
  have l1:cellsAt K id1 o1 5=some (instrV L[i]):=hat1.flat.2.1
  obtain ⟨K1,hK1⟩:∃ H,H=K.push (.row (fInstr.enc L[i]) 0 false):=⟨_,rfl⟩
  have eK1:Ext K K1:=by rw[hK1];exact Ext.push1 _ _
  have gK1:K1.get K.next=some (.row (fInstr.enc L[i]) 0 false):=by rw[hK1];exact get_push_same _ _
  have c0:cellAt K1 K.next 0=some (.int .i64 L[i].pos):=cellAt_row gK1
  have c18:cellAt K1 M3.next 18=some (.map (some M2.next)):=cellAt_row ((eK1.get _ hlt).trans b4)
  have hst:dStore Try.prog 83 (.pointer (some ⟨K.next,0,none⟩)) (instrV L[i]) (K.push (.row [.int .i64 0,.int .i64 0,.int .i64 0,.int .i64 0,.int .i64 0] 0 false))=some K1:=by
   rw[hK1]
   exact (st_83 rfl).trans store5
  obtain ⟨o,hu,hm2⟩:=(b3.keep (eK1.get _ (by omega))).update mapTI L[i].pos (.int .i64 (i:Nat))
  have hw1:=wrap_succ hj (by omega)
  have hn1:=eK1.next
  simp -implicitDefEqProofs (disch:=first|omega|simp only[go_sem]) only[go_sem,true_and,f36,f38,q1,l1,hst]
  refine yr_13_0 rfl ?_
  simp -implicitDefEqProofs (disch:=first|omega|simp only[go_sem]) only[go_sem,true_and,g13_0,q13_0,f9,f38,c18,c0,hu,hw1]
  refine hK' (i+1) _ ?_ (by omega)
  refine ⟨by trivial,by trivial,(vy f1),(vy f2),(vy f3),(vy f6),(vy f7),(vy f9),(vy f36),(vy f37),vz,by omega,(eK.trans eK1).set (by omega),show M3.next<K1.next by omega,(get_set_other _ _ (by omega)).trans ((eK1.get _ hlt).trans b4),b1.keep ((get_set_other _ _ (by omega)).trans (eK1.get _ (by omega))),b2.keep ((get_set_other _ _ (by omega)).trans (eK1.get _ (by omega))),?_⟩
  rw[atM_step hj]
  exact hm2
 obtain rfl:i=L.length:=by omega
 refine hX _ _ (by simp) ?_
 clear hK' hX K' f36 f37 f38 hc1 hi
 have eH2K:Ext H2 K:=eQ1.trans eK
 have eHK:Ext h K:=e2.trans eH2K
 simp -implicitDefEqProofs (disch:=first|omega|simp only[go_sem]) only[go_sem,true_and,f1,f3,lt K eH2K]
 refine ncall_ct (needs_c (x.ext eHK) (hb.ext eHK) hl (by have:=hT.r;omega)) ?_
 rintro r Y ⟨wn,rfl,mn⟩
 obtain ⟨ns,hns⟩:∃ ns,needsN t l=ns:=⟨_,rfl⟩
 rw[hns]at mn
 have hnsl:ns.length≤1048576:=by
  have h1:=List.length_filter_le (fun p:Pair=>decide (p.k∈t.reads)) (byK Pair.k l)
  have h2:=byK_len (key:=Pair.k) l
  rw[← hns]
  unfold needsN
  omega
 have eKY:=mn.ext
 have nKY:=eKY.next
 have eln:∀ K,dLen Try.prog #[27] wn K=some (.int .i64 (ns.length:Nat)):=mn.arg.lens (P:=Try.prog) (ts:=#[27]) (t:=27) rfl isl_27
 have y1:MapAt keyV Y Q1.next ([]:List (Key × Value)):=b1.keep (eKY.get _ (by omega))
 simp -implicitDefEqProofs (disch:=first|omega|simp only[go_sem]) only[go_sem,true_and,XEnd,eln]
 refine xloop (σ:=Nat) (by kernel_rfl) (fun j s=>s.df=[]∧s.rd=none∧s.fr 2=some (.int .i64 f)∧s.fr 6=some (.pointer (some ⟨H1.next,0,none⟩))∧s.fr 7=some w∧s.fr 9=some (.pointer (some ⟨M3.next,0,none⟩))∧s.fr 53=some wn∧s.fr 54=some (.int .i64 (ns.length:Nat))∧s.fr 55=some (.int .i64 (j:Nat))∧j≤ns.length ∧
  KpD (fun i=>i=Q1.next) Y s.h∧MapAt keyV s.h Q1.next (putB Pair.k (fun p=>.int .i64 p.v) (ns.take j))) (fun j=>ns.length - j) 0 ?_ ?_
 ·simp -implicitDefEqProofs (disch:=first|omega|simp only[go_sem]) only[go_sem,true_and,f2,f6,f7,f9]
  exact ⟨by trivial,Nat.zero_le _,.refl _ _,y1⟩
 clear f1 f2 f3 f6 f7 f9
 rintro j ⟨fr,df,Z,rd⟩ K' hK' hX ⟨rfl,rfl,f2,f6,f7,f9,f53,f54,f55,hj,kZ,z1⟩
 simp only at f2 f6 f7 f9 f53 f54 f55 kZ z1
 have nYZ:=kZ.next
 have gz:Z.get M3.next=some (.row (runL t vc va vr vw [0,0,0,0,0,0,0,0] Q1.next M1.next M2.next nilV0 0) 0 false):=(kZ.get _ (by omega) (by omega)).trans ((eKY.get _ hlt).trans b4)
 simp -implicitDefEqProofs (disch:=first|omega|simp only[go_sem]) only[go_sem,true_and,f53,f54,f55]
 refine XIf_dec (fun hc1=>?_) (fun hc1=>?_)
 ·have hjl:j<ns.length:=by omega
  obtain ⟨id1,o1,q1,hid1,hat1⟩:=(mn.sl.kp kZ (fun i hi=>⟨hi.2,fun e=>by omega⟩)).idx (P:=Try.prog) (t:=27) el_27 (k:=.i64) (i:=j) (x:=ns[j]) (by simp)
  have l1:cellsAt Z id1 o1 3=some (pairV ns[j]):=hat1.flat.2.1
  obtain ⟨K1,hK1⟩:∃ H,H=Z.push (.row [.int .i32 ns[j].k.t,.int .i64 ns[j].k.r,.int .i64 ns[j].v] 0 false):=⟨_,rfl⟩
  have eK1:Ext Z K1:=by rw[hK1];exact Ext.push1 _ _
  have gK1:K1.get Z.next=some (.row [.int .i32 ns[j].k.t,.int .i64 ns[j].k.r,.int .i64 ns[j].v] 0 false):=by rw[hK1];exact get_push_same _ _
  have lk:cellsAt K1 Z.next 0 2=some (keyV ns[j].k):=by rw[cellsAt_row gK1 (Nat.le_of_ble_eq_true rfl)];rfl
  have lv:cellAt K1 Z.next 2=some (.int .i64 ns[j].v):=cellAt_row gK1
  have c14:cellAt K1 M3.next 14=some (.map (some Q1.next)):=cellAt_row ((eK1.get _ (by omega)).trans gz)
  have hst:dStore Try.prog 46 (.pointer (some ⟨Z.next,0,none⟩)) (.agg #[.int .i32 ns[j].k.t,.int .i64 ns[j].k.r,.int .i64 ns[j].v]) (Z.push (.row [.int .i32 0,.int .i64 0,.int .i64 0] 0 false))=some K1:=by
   rw[hK1]
   exact (st_46 rfl).trans (storeAll_push rfl rfl)
  obtain ⟨o,hu,hm2⟩:=(z1.keep (eK1.get _ (by omega))).update mapT64 ns[j].k (.int .i64 ns[j].v)
  have hw1:=wrap_succ hjl (by omega)
  simp -implicitDefEqProofs (disch:=first|omega|simp only[go_sem]) only[go_sem,true_and,f53,f55,q1,l1,hst]
  refine yr_13_1 rfl ?_
  simp -implicitDefEqProofs (disch:=first|omega|simp only[go_sem]) only[go_sem,true_and,g13_1,q13_1,f9,f55,c14,lk,lv,hu,hw1]
  refine hK' (j+1) _ ?_ (by omega)
  refine ⟨by trivial,by trivial,(vy f2),(vy f6),(vy f7),(vy f9),(vy f53),(vy f54),vz,by omega,(kZ.ext eK1).set (.inl rfl),?_⟩
  rw[putB_take hjl]
  exact hm2
 obtain rfl:j=ns.length:=by omega
 refine hX _ _ (by simp) ?_
 rw[List.take_length]at z1
 clear hK' hX K' f53 f54 f55 hc1 hj
 have eHY:Ext h Y:=eHK.trans eKY
 have kQ:∀ i,i<Q1.next→Z.get i=Q1.get i:=fun i hi=>(kZ.get _ (by have:=eK.next;omega) (by omega)).trans ((eKY.get _ (by have:=eK.next;omega)).trans (eK.get _ hi))
 have nQZ:Q1.next+4≤Z.next:=by omega
 have C:RunC Z M3.next Q1.next M1.next M2.next t vc va vr vw ns L:={
  lb:=by omega
  lh:=by omega
  lm:=by omega
  la:=by omega
  bm:=by omega
  hb:=by omega
  hmm:=by omega
  ab:=by omega
  amm:=by omega
  tx:=x.mono fun i hi=>⟨⟨by have:=eQ.next;have:i<h.next:=hi;omega,by have:=eQ.next;have:i<h.next:=hi;omega⟩,(kQ i (Nat.lt_of_lt_of_le hi eQ.next)).trans (eQ.get i hi)⟩
  len:=hT
  has:=z1
  at_:=⟨_,b3.keep ((kZ.get _ (by omega) (by omega)).trans (eKY.get _ (by omega))),fun i x hx=>atM_get (hL▸code_up) (Nat.le_refl _) (List.getElem?_eq_some_iff.1 hx).1 hx⟩
  okm:=mn.ok }
 have I0:RunI Z Z M3.next Q1.next M1.next M2.next t vc va vr vw rs0 0:=⟨.refl _ _,⟨nilV0,none,gz,Owns.nil _ _ _,fun i hi=>by cases hi⟩,b2.keep ((kZ.get _ (by omega) (by omega)).trans (eKY.get _ (by omega))),rfl,fun n hn=>by
  have:n=0:=by simpa [rs0] using hn
  subst this
  exact inK_i64.2 ⟨by decide,by decide⟩,by decide,fun c hc=>by cases hc⟩
 have hwZ:∀ K,KpD (fun i=>i=M3.next∨i=M1.next) Z K→Arg fInstr.rep K w L:=fun K k=>hw.mono fun i hi=>⟨by have:=k.next;have:i<Q1.next:=hi;omega,(k.get i (by have:i<Q1.next:=hi;omega) (by have:i<Q1.next:=hi;omega)).trans (kQ i hi)⟩
 have rZ:∀ K,KpD (fun i=>i=M3.next∨i=M1.next) Z K→K.get H1.next=some (.row [.int .i64 0,nilV0,nilV0,.int .i64 0] 0 false):=fun K k=>by
  have:=eQ1.next
  exact (k.get _ (by omega) (by omega)).trans ((kQ _ (by omega)).trans ((eQ1.get _ (by omega)).trans g2))
 have eZ:∀ K,KpD (fun i=>i=M3.next∨i=M1.next) Z K→Ext h K:=fun K k=>by
  have e0:Ext h Z:=kZ.toExt eHY (fun i hi=>by have:=eQ.next;omega)
  exact k.toExt e0 fun i hi=>by have:=eQ.next;omega
 obtain ⟨F,hF⟩:∃ F,fuelN f=F:=⟨_,rfl⟩
 have hFl:F≤4096:=hF▸fuelN_le f
 have hfu:max 0 (min f 4096)=(F:Nat):=hF▸fuel_ok f
 obtain ⟨O,hO⟩:∃ O,runE t l f=O:=⟨_,rfl⟩
 have hO2:runF t ns F 0 0 rs0=O:=by
  rw[← hO]
  unfold runE
  rw[if_neg (fun hh=>hh hz),hns,hF]
 rw[hO]at hR
 simp -implicitDefEqProofs (disch:=first|omega|simp only[go_sem]) only[go_sem,true_and,f2,min_i64,maxR_i64,hfu]
 refine xloop (σ:=Nat × Nat × RS) (by kernel_rfl) (fun a s=>s.df=[]∧s.rd=none∧s.fr 2=some (.int .i64 (F:Nat))∧s.fr 6=some (.pointer (some ⟨H1.next,0,none⟩))∧s.fr 7=some w∧s.fr 9=some (.pointer (some ⟨M3.next,0,none⟩))∧s.fr 14=some (.int .i64 (a.1:Nat))∧RunI Z s.h M3.next Q1.next M1.next M2.next t vc va vr vw a.2.2 (a.2.1:Nat)∧a.1≤F∧a.2.1≤L.length∧a.2.2.w.length≤a.1∧runF t ns (F - a.1) (posN t a.2.1) a.1 a.2.2=O) (fun a=>F - a.1) (0,0,rs0) ?_ ?_
 ·simp -implicitDefEqProofs (disch:=first|omega|simp only[go_sem]) only[go_sem,true_and,f6,f7,f9]
  exact ⟨by trivial,I0,Nat.zero_le _,Nat.zero_le _,Nat.le_refl _,by rw[code_zero hdec];exact hO2⟩
 clear f2 f6 f7 f9
 rintro ⟨k,i,st⟩ ⟨fr,df,K,rd⟩ K' hK' hX ⟨rfl,rfl,f2,f6,f7,f9,f14,I,hk,hi,hwl,hrun⟩
 simp only at f2 f6 f7 f9 f14 I hk hi hwl hrun
 obtain ⟨vo,ow,gb,oo,how⟩:=I.row
 have l8:=I.len
 have c17:cellAt K M3.next 17=some (.int .i64 (i:Nat)):=(cellAt_row gb).trans (runL_tail l8).2.2.2.1
 have hbK:M3.next<K.next:=Nat.lt_of_lt_of_le C.lb I.kp.next
 simp -implicitDefEqProofs (disch:=first|omega|simp only[go_sem]) only[go_sem,true_and,f7,f9,c17,elw]
 refine XIf_dec (fun hc1=>?_) (fun hc1=>?_)
 ·have hil:i<L.length:=by omega
  obtain ⟨y,hy⟩:∃ y,L[i]? = some y:=⟨_,List.getElem?_eq_getElem hil⟩
  have hy':(decL t.code)[i]? = some y:=by rw[hL];exact hy
  obtain ⟨hp1,hp2,hp3,hp4,hp5⟩:=code_at hdec hy'
  have hiok:=ins_ok hz hby hy'
  have hjmp:jumpsB y.op=true→∃ (i:Nat) (z:Instr),L[i]? = some z∧z.pos=y.imm:=fun hj=>by
   obtain ⟨i',z,q1,q2,_⟩:=code_jump hdec (List.mem_of_getElem? hy') hj
   rw[hL]at q1
   exact ⟨i',z,q1,q2⟩
  by_cases hkF:k=F
  ·have hkF':=eq_true (show ((k:Nat):Int)=(F:Nat) by omega)
   obtain ⟨K3,s1,s2,o,rfl⟩:=res K 2 k nilV0 nilV0 rfl rfl rfl (rZ K I.kp)
   simp -implicitDefEqProofs (disch:=first|omega|simp only[go_sem]) only[go_sem,true_and,f2,f6,f14,hkF',bd_o2,s1]
   refine hX _ _ (by simp) ?_
   simp -implicitDefEqProofs (disch:=first|omega|simp only[go_sem]) only[go_sem,true_and,f6,dResults_c1,dResC_some,s2]
   refine ⟨_,rfl,?_⟩
   rw[← hR]
   refine RunR.none ((eZ K I.kp).set (by omega)) ?_
   rw[← hrun,hkF,Nat.sub_self]
   exact runF_fuel hp1
  have hkF':¬ ((k:Nat):Int)=(F:Nat):=by omega
  have hw1:=wrap_succ (i:=k) (n:=F) (by omega) (by omega)
  have hw2:=wrap_succ hil (by omega)
  obtain ⟨id1,o1,q1,hid1,hat1⟩:=(hwZ K I.kp).idx (P:=Try.prog) (t:=74) el_74 (k:=.i64) (i:=i) (x:=y) hy
  have l1:cellsAt K id1 o1 5=some (instrV y):=hat1.flat.2.1
  obtain ⟨K1,hK1⟩:∃ H,H=K.push (.row (fInstr.enc y) 0 false):=⟨_,rfl⟩
  have eK1:Ext K K1:=by rw[hK1];exact Ext.push1 _ _
  have gK1:K1.get K.next=some (.row (fInstr.enc y) 0 false):=by rw[hK1];exact get_push_same _ _
  have hst:dStore Try.prog 83 (.pointer (some ⟨K.next,0,none⟩)) (instrV y) (K.push (.row [.int .i64 0,.int .i64 0,.int .i64 0,.int .i64 0,.int .i64 0] 0 false))=some K1:=by
   rw[hK1]
   exact (st_83 rfl).trans store5
  have I1:=I.ext C eK1
  have gb1:K1.get M3.next=some (.row (runL t vc va vr vw st.reg Q1.next M1.next M2.next vo (i:Nat)) 0 false):=(eK1.get _ hbK).trans gb
  have c17':cellAt K1 M3.next 17=some (.int .i64 (i:Nat)):=(cellAt_row gb1).trans (runL_tail l8).2.2.2.1
  obtain ⟨K2,hK2⟩:∃ H,K1.set M3.next (.row (runL t vc va vr vw st.reg Q1.next M1.next M2.next vo ((i+1:Nat):Int)) 0 false)=H:=⟨_,rfl⟩
  have I2:=hK2▸I1.pc' C gb1 ((i+1:Nat):Int)
  have hst2:storeAt K1 M3.next 17 [.int .i64 ((i+1:Nat):Int)]=some K2:=by
   rw[storeAt_row gb1 (by rw[runL_len l8];exact Nat.le_of_ble_eq_true rfl) rfl,runL_setPc l8,hK2]
  have lx:cellsAt K2 K.next 0 5=some (instrV y):=by
   rw[← hK2,cellsAt_row ((get_set_other _ _ (by omega)).trans gK1) (Nat.le_of_ble_eq_true rfl)]
   rfl
  simp -implicitDefEqProofs (disch:=first|omega|simp only[go_sem]) only[go_sem,true_and,f2,f7,f9,f14,hkF',hw1,c17,q1,l1,hst,c17',hw2,hst2,lx]
  refine ncall_ct (step_c C I2 hiok hjmp) ?_
  rintro r N ⟨rfl,pc',I3,j1,j2⟩
  have hpos:∀ e,(stepE t ns y st)=e→(stepE t ns (oneI t.code (posN t i)) st)=e:=fun e he=>by rw[← hp2];exact he
  have hwl3:=stepE_wlen (t:=t) (m:=ns) (x:=y) (s:=st)
  have hFk:F - k=(F - (k+1))+1:=by omega
  obtain ⟨e,s',jo,hE⟩:∃ e s' jo,stepE t ns y st=(e,s',jo):=⟨_,_,_,rfl⟩
  have hE':=hpos _ hE
  rw[hE]at I3 j1 j2 hwl3 ⊢
  simp only at I3 j1 j2 hwl3
  by_cases hm1:e=-1
  ·have hm1':=eq_true hm1
   simp -implicitDefEqProofs (disch:=first|omega|simp only[go_sem]) only[go_sem,true_and,XEnd,hm1']
   obtain ⟨i',hi',hpi'⟩:∃ i':Nat,pc'=(i':Nat)∧i'≤L.length∧(jo.getD ((posN t i:Nat)+sizeI (t.code.getD (posN t i) 0))).toNat=posN t i':=by
    cases jo with
    | none=>exact ⟨i+1,j1 rfl,by omega,hp5⟩
    | some a=>
      obtain ⟨i',z,hz1,hz2,hz3⟩:=j2 a rfl
      refine ⟨i',hz3,Nat.le_of_lt (List.getElem?_eq_some_iff.1 hz1).1,?_⟩
      have hz1':(decL t.code)[i']? = some z:=by rw[hL];exact hz1
      obtain ⟨_,_,q,_,_⟩:=code_at hdec hz1'
      show a.toNat=_
      rw[← hz2,q]
      simp
   subst hi'
   refine hK' (k+1,i',s') _ ?_ (by show F - (k+1)<F - k;omega)
   refine ⟨by trivial,by trivial,(vy f2),(vy f6),(vy f7),(vy f9),vz,I3,by show k+1≤F;omega,hpi'.1,by show s'.w.length≤k+1;omega,?_⟩
   show runF t ns (F - (k+1)) (posN t i') (k+1) s'=O
   rw[← hrun,hFk,runF_go hp1 (by rw[hE'];exact hm1),hE',← hpi'.2]
  by_cases hm0:e=0
  ·subst hm0
   obtain ⟨vo3,ow3,gb3,oo3,how3⟩:=I3.row
   have hst3:storeAt N M3.next 17 [.int .i64 (L.length:Nat)]=some (N.set M3.next (.row (runL t vc va vr vw s'.reg Q1.next M1.next M2.next vo3 (L.length:Nat)) 0 false)):=by
    rw[storeAt_row gb3 (by rw[runL_len I3.len];exact Nat.le_of_ble_eq_true rfl) rfl,runL_setPc I3.len]
   simp -implicitDefEqProofs (disch:=first|omega|simp only[go_sem]) only[go_sem,true_and,XEnd,f7,f9,elw,hst3]
   refine hK' (k+1,L.length,s') _ ?_ (by show F - (k+1)<F - k;omega)
   refine ⟨by trivial,by trivial,(vy f2),(vy f6),(vy f7),(vy f9),vz,I3.pc' C gb3 _,by show k+1≤F;omega,Nat.le_refl _,by show s'.w.length≤k+1;omega,?_⟩
   show runF t ns (F - (k+1)) (posN t L.length) (k+1) s'=O
   rw[runF_end (by rw[code_end (by rw[hL];exact Nat.le_refl _)];exact Nat.le_refl _),← hrun,hFk,runF_halt hp1 (by rw[hE']),hE']
  ·obtain ⟨K3,s1,s2,o,rfl⟩:=res N e ((k+1:Nat):Int) nilV0 nilV0 rfl rfl rfl (rZ N I3.kp)
   simp -implicitDefEqProofs (disch:=first|omega|simp only[go_sem]) only[go_sem,true_and,XEnd,hm1,hm0,f6,bd_o2,s1]
   refine hX _ _ (by simp) ?_
   simp -implicitDefEqProofs (disch:=first|omega|simp only[go_sem]) only[go_sem,true_and,f6,dResults_c1,dResC_some,s2]
   refine ⟨_,rfl,?_⟩
   rw[← hR]
   refine RunR.none ((eZ N I3.kp).set (by omega)) ?_
   rw[← hrun,hFk,runF_stop hp1 (by rw[hE'];exact hm1) (by rw[hE'];exact hm0),hE']
 obtain rfl:i=L.length:=by omega
 refine hX _ _ (by simp) ?_
 have hO3:O=⟨0,st.out,byK Change.k st.w,(k:Nat)⟩:=by
  rw[← hrun]
  exact runF_end (by rw[code_end (by rw[hL];exact Nat.le_refl _)];exact Nat.le_refl _)
 clear hK' hX K' f2 f7
 have c15:cellAt K M3.next 15=some (.map (some M1.next)):=(cellAt_row gb).trans (runL_tail l8).2.1
 have hmK:M1.next<K.next:=Nat.lt_of_lt_of_le C.lm I.kp.next
 obtain ⟨oi,hr0,hr1⟩:=I.mine.range und_mapC hmK
 simp -implicitDefEqProofs (disch:=first|omega|simp only[go_sem]) only[go_sem,true_and,f9,c15,hr0]
 refine xloop (σ:=List Change) (by kernel_rfl) (fun a s=>s.df=[]∧s.rd=none∧s.fr 6=some (.pointer (some ⟨H1.next,0,none⟩))∧s.fr 9=some (.pointer (some ⟨M3.next,0,none⟩))∧s.fr 14=some (.int .i64 (k:Nat))∧s.fr 119=some (.pointer (some ⟨K.next,0,none⟩))∧K.next<s.h.next∧(∃ cv,s.fr 17=some cv∧Made fChange K s.h cv a)∧(a.map Change.k).Nodup∧(∀ c∈a,lastB Change.k st.w c.k=some c)∧RngAt keyV s.h K.next M1.next (putB Change.k chgV st.w) (a.map Change.k).reverse) (fun a=>st.w.length - a.length) [] ?_ ?_
 ·simp -implicitDefEqProofs (disch:=first|omega|simp only[go_sem]) only[go_sem,true_and,f6,f9,f14]
  exact ⟨Nat.lt_succ_self _,⟨_,rfl,.nil _ (Ext.push1 _ _)⟩,.nil,fun c hc=>(by cases hc),hr1⟩
 rintro a ⟨fr,df,N,rd⟩ K' hK' hX ⟨rfl,rfl,f6,f9,f14,f119,hlN,⟨cv,f17,mc⟩,hnd,hla,hrg⟩
 simp only at f6 f9 f14 f119 hlN f17 mc hrg
 obtain ⟨NL,hNL,hall⟩:=hrg.next (fun _=>rfl) (by omega)
 have hal:a.length≤st.w.length:=by
  have h1:=nodup_len (b:=st.w.map Change.k) hnd (fun k hk=>by
   obtain ⟨c,hc,rfl⟩:=List.mem_map.1 hk
   exact List.mem_map.2 ⟨c,(lastB_some (hla c hc)).1,rfl⟩)
  simpa using h1
 simp -implicitDefEqProofs (disch:=first|omega|simp only[go_sem]) only[go_sem,true_and,f119,hNL]
 intro pp hpp
 rcases hall pp hpp with ⟨rfl,hd⟩ | ⟨ck,cvv,o2,hk',hnk,rfl,hent,hr2⟩
 ·simp -implicitDefEqProofs (disch:=first|omega|simp only[go_sem]) only[go_sem,true_and]
  refine hX _ _ (by simp) ?_
  have eKN:=mc.ext
  have gbN:N.get M3.next=some (.row (runL t vc va vr vw st.reg Q1.next M1.next M2.next vo (L.length:Nat)) 0 false):=(eKN.get _ hbK).trans gb
  have c16:∀ N',Ext N N'→cellAt N' M3.next 16=some vo:=fun N' e=>(cellAt_row ((e.get _ (by omega)).trans gbN)).trans (runL_tail l8).2.2.1
  have hlast:byK Change.k a=byK Change.k st.w:=byK_last hnd hla fun k hk=>by
   have:=hd k ((mem_putB st.w k).2 hk)
   simpa using this
  have hvo:vo.cells=#[vo]:=oo.sl.cells1
  simp -implicitDefEqProofs (disch:=first|omega|simp only[go_sem]) only[go_sem,true_and]
  refine yr_13_2 rfl ?_
  simp -implicitDefEqProofs (disch:=first|omega|simp only[go_sem]) only[go_sem,true_and,g13_2,q13_2,f9,f14,f17,c16 N (.refl _)]
  refine ycall_ct (changes_c mc.arg (by omega)) ?_
  rintro r N2 ⟨w2,rfl,m2⟩
  have hw2:w2.cells=#[w2]:=m2.sl.cells1
  have hone:[Value.int .i64 0,vo,w2,.int .i64 (k:Nat)].all Value.oneCell'=true:=by
   obtain ⟨_,_,rfl⟩:=oo.sl.isSlice
   obtain ⟨_,_,rfl⟩:=m2.sl.isSlice
   rfl
  have eN:=m2.ext
  obtain ⟨K3,s1,s2,o,rfl⟩:=res N2 0 (k:Nat) vo w2 hvo hw2 hone ((eN.get _ (by have:=I.kp.next;have:=eKN.next;have:=eQ1.next;omega)).trans ((eKN.get _ (by have:=I.kp.next;have:=eQ1.next;omega)).trans (rZ K I.kp)))
  simp -implicitDefEqProofs (disch:=first|omega|simp only[go_sem]) only[go_sem,true_and,YEnd,c16 N2 eN,bd_o4 hvo hw2,f6,s1]
  simp -implicitDefEqProofs (disch:=first|omega|simp only[go_sem]) only[go_sem,true_and,dResults_c1,dResC_some,f6,s2]
  refine ⟨_,rfl,?_⟩
  rw[← hR,hO3]
  have ehK:Ext h K:=eZ K I.kp
  have ehN2:Ext h N2:=(ehK.trans eKN).trans eN
  have hH1:h.next≤H1.next:=by omega
  have eset:Ext h (N2.set H1.next o):=ehN2.set hH1
  have h1Z:H1.next<Z.next:=by have:=eQ1.next;omega
  refine ⟨_,_,rfl,⟨eset,ow,oo.mono (by show K.next≤N2.next;exact Nat.le_trans eKN.next eN.next) (fun i hi=>?_) (fun i hi=>hi.elim),fun i hi=>?_⟩,?_⟩
  ·have h1:=how i hi
   have h2:=oo.lt i hi
   rw[get_set_other _ _ (by omega)]
   exact (eN.get _ (Nat.lt_of_lt_of_le h2 eKN.next)).trans (eKN.get _ h2)
  ·have:=how i hi
   have:=eQ.next
   omega
  ·rw[hlast]at m2
   obtain ⟨w3,p1,p2⟩:=m2.own
   refine ⟨eset,w3,p1.mono (Nat.le_refl _) (fun i hi=>get_set_other _ _ ?_) (fun i hi=>hi.elim),fun i hi=>?_⟩
   ·have:=p2 i hi
    have:=I.kp.next
    have:=eKN.next
    omega
   ·have:=p2 i hi
    have:=eKN.next
    have:=ehK.next
    omega
 ·obtain ⟨c,hc,hcv⟩:∃ c,lastB Change.k st.w ck=some c∧cvv=chgV c:=by
   have:=(mget_mem (putB_nodup st.w)).2 hk'
   rw[mget_putB]at this
   cases hq:lastB Change.k st.w ck with
   | none=>rw[hq]at this;cases this
   | some c=>
     rw[hq]at this
     exact ⟨c,rfl,(Option.some.inj this).symm⟩
  subst hcv
  have hck:=(lastB_some hc).2
  subst hck
  obtain ⟨N1,hN1⟩:∃ H,H=N.set K.next o2:=⟨_,rfl⟩
  rw[← hN1]at hent hr2
  have hN1n:N1.next=N.next:=by rw[hN1];rfl
  have mc1:Made fChange K N1 cv a:=by
   rw[hN1]
   obtain ⟨es,cc,seen,q1,q2,_⟩:=hrg
   exact mc.setX (fun cs e=>by rw[q2]at e;cases e) (Nat.le_refl _)
  obtain ⟨N2,hN2⟩:∃ H,H=N1.push (.row [.int .i32 c.k.t,.int .i64 c.k.r,.int .i64 c.v,.bool c.e] 0 false):=⟨_,rfl⟩
  have eN2:Ext N1 N2:=by rw[hN2];exact Ext.push1 _ _
  have hN2n:N2.next=N.next+1:=by rw[hN2,next_push,hN1n]
  have gN2:N2.get N1.next=some (.row [.int .i32 c.k.t,.int .i64 c.k.r,.int .i64 c.v,.bool c.e] 0 false):=by rw[hN2];exact get_push_same _ _
  have lc2:cellsAt N2 N1.next 0 4=some (chgV c):=by rw[cellsAt_row gN2 (Nat.le_of_ble_eq_true rfl)];rfl
  have hst:dStore Try.prog 51 (.pointer (some ⟨N1.next,0,none⟩)) (.agg #[.int .i32 c.k.t,.int .i64 c.k.r,.int .i64 c.v,.bool c.e]) (N1.push (.row [.int .i32 0,.int .i64 0,.int .i64 0,.bool false] 0 false))=some N2:=by
   rw[hN2]
   exact (st_51 rfl).trans (storeAll_push rfl rfl)
  have hwokc:=I.wok c (lastB_some hc).1
  have hnk2:c.k∉a.map Change.k:=fun hh=>hnk (List.mem_reverse.2 hh)
  have hal2:a.length+1≤st.w.length:=by
   have h1:=nodup_len (a:=c.k :: a.map Change.k) (b:=st.w.map Change.k) (List.nodup_cons.2 ⟨hnk2,hnd⟩) (fun k hk=>by
    rcases List.mem_cons.1 hk with rfl | hk
    ·exact List.mem_map.2 ⟨c,(lastB_some hc).1,rfl⟩
    ·obtain ⟨d,hd,rfl⟩:=List.mem_map.1 hk
     exact List.mem_map.2 ⟨d,(lastB_some (hla d hd)).1,rfl⟩)
   simpa using h1
  obtain ⟨cv',N3,e6,m6,n6,k6⟩:=(mc1.on eN2).snocX app_30 (y:=c) (cs:=[.int .i32 c.k.t,.int .i64 c.k.r,.int .i64 c.v,.bool c.e]) (z:=4) rfl rfl (by decide) hwokc (by omega) (by decide)
  have hr3:RngAt keyV N2 K.next M1.next (putB Change.k chgV st.w) (c.k :: (a.map Change.k).reverse):=hr2.keep (eN2.get _ (by omega)) (eN2.get _ (by omega))
  have hr4:RngAt keyV N3 K.next M1.next (putB Change.k chgV st.w) (c.k :: (a.map Change.k).reverse):=by
   have hr3':=hr3
   obtain ⟨es,cc,seen,q1,q2,_⟩:=hr3'
   exact RngAt.keep hr3 (k6 _ (by omega) (.map q1)) (k6 _ (by omega) (fun cs e=>by rw[q2]at e;cases e))
  simp -implicitDefEqProofs (disch:=first|omega|simp only[go_sem]) only[go_sem,true_and,← hN1,f119,f17,hent,hst,lc2,e6]
  refine hK' (a++[c]) _ ?_ (by rw[List.length_append];simp;omega)
  refine ⟨by trivial,by trivial,(vy f6),(vy f9),(vy f14),(vy f119),show K.next<N3.next by omega,⟨cv',vz,m6⟩,?_,fun d hd=>?_,?_⟩
  ·rw[List.map_append]
   refine List.nodup_append.2 ⟨hnd,by simp,fun p hp q hq=>?_⟩
   simp only[List.map_cons,List.map_nil,List.mem_singleton]at hq
   subst hq
   exact fun e=>hnk2 (e▸hp)
  ·rcases List.mem_append.1 hd with hd | hd
   ·exact hla d hd
   ·rw[List.mem_singleton.1 hd]
    exact hc
  ·rw[List.map_append,List.reverse_append]
   exact hr4
end Go.Proofs.Ythjmkmoiopmfcaa

namespace Go.Proofs.Ythjmkmoiopmfcaa
open Go.D
set_option maxRecDepth 100000
def smallT:Txn:=⟨1,1,[1,0,7,0,5,0,0,3,1,0,24,1],[],[⟨1,2⟩],[⟨1,2⟩]⟩
abbrev u8V (n:Int):Value:=.int .u8 n
abbrev codeV:List Value:=[u8V 1,u8V 0,u8V 7,u8V 0,u8V 5,u8V 0,u8V 0,u8V 3,u8V 1,u8V 0,u8V 24,u8V 1]
theorem bs_code {h:DHeap}:dBuildSlice Try.prog 22 12 [(0,u8V 1),(1,u8V 0),(2,u8V 7),(3,u8V 0),(4,u8V 5),(5,u8V 0),(6,u8V 0),(7,u8V 3),(8,u8V 1),(9,u8V 0),(10,u8V 24),(11,u8V 1)] h=some (.slice (some ⟨h.next,0,none⟩) 12 12,h.push (.row codeV 1 false)):=
 dBuildSlice_all (h:=h) (vs:=codeV) bsl_22 (by decide) (fun v hv=>by
  simp only[codeV,List.mem_cons,List.not_mem_nil,or_false]at hv
  rcases hv with rfl | rfl | rfl | rfl | rfl | rfl | rfl | rfl | rfl | rfl | rfl | rfl <;> rfl) (by decide)
theorem bd_small {vc vr:Value} (hc:vc.cells=#[vc]) (hr:vr.cells=#[vr]):dBuild Try.prog 26 [(0,.int .i64 1),(1,.int .i64 1),(2,vc),(4,vr),(5,vr)]=some (txnV 1 1 vc nilV0 vr vr):=dBuild_at plc_26 (by simp[fillL,hc,hr,setAt,cells_int])
theorem smallT_c {h:DHeap}:Ct Try.prog 36 [] h fun r h1=>∃ vc vr,r=.ret (txnV 1 1 vc nilV0 vr vr)∧Ext h h1∧TxV (InH h1) h1 smallT vc nilV0 vr vr:=by
 refine go_36 (by simp) ?_
 obtain ⟨H1,hH1⟩:∃ H,h.push (.row [.int .i64 0,.int .i64 0,nilV0,nilV0,nilV0,nilV0] 0 false)=H:=⟨_,rfl⟩
 obtain ⟨H2,hH2⟩:∃ H,H1.push (.row [.int .i32 1,.int .i64 2] 2 false)=H:=⟨_,rfl⟩
 obtain ⟨H3,hH3⟩:∃ H,H2.push (.row codeV 1 false)=H:=⟨_,rfl⟩
 have n1:H1.next=h.next+1:=by rw[← hH1];rfl
 have n2:H2.next=h.next+2:=by rw[← hH2,next_push,n1]
 have n3:H3.next=h.next+3:=by rw[← hH3,next_push,n2]
 have e1:Ext h H1:=hH1▸Ext.push1 _ _
 have e2:Ext H1 H2:=hH2▸Ext.push1 _ _
 have e3:Ext H2 H3:=hH3▸Ext.push1 _ _
 have g1:H3.get h.next=some (.row [.int .i64 0,.int .i64 0,nilV0,nilV0,nilV0,nilV0] 0 false):=(e3.get _ (by omega)).trans ((e2.get _ (by omega)).trans (by rw[← hH1];exact get_push_same _ _))
 have g2:H3.get H1.next=some (.row [.int .i32 1,.int .i64 2] 2 false):=(e3.get _ (by omega)).trans (by rw[← hH2];exact get_push_same _ _)
 have g3:H3.get H2.next=some (.row codeV 1 false):=by rw[← hH3];exact get_push_same _ _
 have hk:dBuild Try.prog 44 [(0,.int .i32 1),(1,.int .i64 2)]=some (keyV ⟨1,2⟩):=bd_keyK
 obtain ⟨H4,hH4⟩:∃ H,H3.set h.next (.row [.int .i64 1,.int .i64 1,.slice (some ⟨H2.next,0,none⟩) 12 12,nilV0,.slice (some ⟨H1.next,0,none⟩) 1 1,.slice (some ⟨H1.next,0,none⟩) 1 1] 0 false)=H:=⟨_,rfl⟩
 have st:storeAt H3 h.next 0 [.int .i64 1,.int .i64 1,.slice (some ⟨H2.next,0,none⟩) 12 12,nilV0,.slice (some ⟨H1.next,0,none⟩) 1 1,.slice (some ⟨H1.next,0,none⟩) 1 1]=some H4:=by
  rw[← hH4]
  exact storeAt_row g1 (Nat.le_of_ble_eq_true rfl) rfl
 have l4:cellsAt H4 h.next 0 6=some (txnV 1 1 (.slice (some ⟨H2.next,0,none⟩) 12 12) nilV0 (.slice (some ⟨H1.next,0,none⟩) 1 1) (.slice (some ⟨H1.next,0,none⟩) 1 1)):=by
  rw[← hH4,cellsAt_row (get_set_same _ _) (Nat.le_of_ble_eq_true rfl)]
  rfl
 have n4:H4.next=h.next+3:=by rw[← hH4];exact n3
 have g24:H4.get H1.next=some (.row [.int .i32 1,.int .i64 2] 2 false):=by rw[← hH4];exact (get_set_other _ _ (by omega)).trans g2
 have g34:H4.get H2.next=some (.row codeV 1 false):=by rw[← hH4];exact (get_set_other _ _ (by omega)).trans g3
 have sr:Arg fKey.rep H4 (.slice (some ⟨H1.next,0,none⟩) 1 1) [⟨1,2⟩]:=.inr ⟨H1.next,0,1,_,2,false,rfl,by omega,g24,.inr rfl,Nat.le_of_ble_eq_true rfl,Els.flat.2 ⟨rfl,fun x hx=>by
  rw[List.mem_singleton.1 hx]
  exact ⟨inK_i32.2 ⟨by decide,by decide⟩,inK_i64.2 ⟨by decide,by decide⟩⟩⟩⟩
 have sc:Arg fU8.rep H4 (.slice (some ⟨H2.next,0,none⟩) 12 12) smallT.code:=.inr ⟨H2.next,0,12,_,1,false,rfl,by omega,g34,.inr rfl,Nat.le_of_ble_eq_true rfl,Els.flat.2 ⟨rfl,fun x hx=>by
  have:0≤x∧x≤255:=by
   simp only[smallT,List.mem_cons,List.not_mem_nil,or_false]at hx
   omega
  exact inK_u8.2 this⟩⟩
 have hbd:=bd_small (vc:=.slice (some ⟨H2.next,0,none⟩) 12 12) (vr:=.slice (some ⟨H1.next,0,none⟩) 1 1) rfl rfl
 simp -implicitDefEqProofs (disch:=first|omega|simp only[go_sem]) only[go_sem,true_and,c36,hH1,hk,hH2,bs_code,hH3,hbd,st,dResults_c1,dResC_some,l4]
 exact ⟨_,rfl,_,_,rfl,by rw[← hH4];exact ((e1.trans e2).trans e3).set (Nat.le_refl _),⟨sc,.nil _ _ _,sr,sr⟩⟩
theorem small_run:(runE smallT [] 9).e=0∧(runE smallT [] 9).vs=[7]∧(runE smallT [] 9).ch=[⟨⟨1,2⟩,7,false⟩]∧(runE smallT [] 9).s=4:=by decide +kernel
theorem begun_c {h:DHeap}:DC Try.prog 11 [] h (.ret (.bool true)) h:=by
 refine Ct.pure (go_11 (by simp) ?_) (vin_bool _)
 simp -implicitDefEqProofs (disch:=first|omega|simp only[go_sem]) only[go_sem,true_and,c11]
 refine ncall_ct smallT_c ?_
 rintro r H ⟨vc,vr,rfl,hE,x⟩
 simp -implicitDefEqProofs (disch:=first|omega|simp only[go_sem]) only[go_sem,true_and,XEnd]
 have hT:TxLen smallT:=⟨by decide,by decide,by decide,by decide⟩
 refine ncall_ct (run_c (t:=smallT) (l:=[]) x hT (.nil _ _ _) (by decide)) ?_
 rintro r K ⟨vv,cv,rfl,mv,mc⟩
 obtain ⟨s1,s2,s3,s4⟩:=small_run
 rw[s2]at mv
 rw[s3]at mc
 rw[s1,s4]
 have hvv:=mv.sl.cells1
 have hcv:=mc.sl.cells1
 have hone:[Value.int .i64 0,vv,cv,.int .i64 4].all Value.oneCell'=true:=by
  obtain ⟨_,_,rfl⟩:=mv.sl.isSlice
  obtain ⟨_,_,rfl⟩:=mc.sl.isSlice
  rfl
 obtain ⟨K1,hK1⟩:∃ H,K.push (.row [.int .i64 0,vv,cv,.int .i64 4] 0 false)=H:=⟨_,rfl⟩
 have hst:dStore Try.prog 32 (.pointer (some ⟨K.next,0,none⟩)) (.agg #[.int .i64 0,vv,cv,.int .i64 4]) (K.push (.row [.int .i64 0,nilV0,nilV0,.int .i64 0] 0 false))=some K1:=by
  rw[← hK1]
  exact (st_32 rfl).trans (storeAll_push rfl hone)
 have eK:Ext K K1:=hK1▸Ext.push1 _ _
 have gK:K1.get K.next=some (.row [.int .i64 0,vv,cv,.int .i64 4] 0 false):=by rw[← hK1];exact get_push_same _ _
 obtain ⟨K2,hK2⟩:∃ H,K1.push (.row [.int .i64 7] 1 false)=H:=⟨_,rfl⟩
 have eK2:Ext K1 K2:=hK2▸Ext.push1 _ _
 have hn:K.next<K1.next:=by rw[← hK1];exact Nat.lt_succ_self _
 have c0:cellAt K1 K.next 0=some (.int .i64 0):=cellAt_row gK
 have c1:cellAt K1 K.next 1=some vv:=cellAt_row gK
 have gK2:=(eK2.get _ hn).trans gK
 have c2:cellAt K2 K.next 2=some cv:=cellAt_row gK2
 have c3:cellAt K2 K.next 3=some (.int .i64 4):=cellAt_row gK2
 have a7:Arg fI64.rep K2 (.slice (some ⟨K1.next,0,none⟩) 1 1) [7]:=.inr ⟨K1.next,0,1,_,1,false,rfl,by rw[← hK2];exact Nat.lt_succ_self _,by rw[← hK2];exact get_push_same _ _,.inr rfl,Nat.le_of_ble_eq_true rfl,Els.flat.2 ⟨rfl,fun x hx=>by
  rw[List.mem_singleton.1 hx]
  exact inK_i64.2 ⟨by decide,by decide⟩⟩⟩
 have mv2:Arg fI64.rep K2 vv [7]:=(mv.arg.ext eK).ext eK2
 have mc2:Arg fChange.rep K2 cv [⟨⟨1,2⟩,7,false⟩]:=(mc.arg.ext eK).ext eK2
 have lcv:∀ K,dLen Try.prog #[30] cv K=some (.int .i64 1):=mc2.lens (P:=Try.prog) (ts:=#[30]) (t:=30) rfl isl_30
 obtain ⟨id,o,i1,_,hat⟩:=mc2.idx (P:=Try.prog) (t:=30) el_30 (k:=.i64) (i:=0) (x:=⟨⟨1,2⟩,7,false⟩) rfl
 have i1':dIndexAddr Try.prog 30 cv (.int .i64 0)=some (.pointer (some ⟨id,o,none⟩)):=i1
 have v1:cellAt K2 id (o+2)=some (.int .i64 7):=hat.flat.1 2 (by decide)
 simp -implicitDefEqProofs (disch:=first|omega|simp only[go_sem]) only[go_sem,true_and,XEnd,hst,c0,c1,hK2]
 refine ncall (eqInts_c mv2 a7 (by decide)) ?_
 have hs:sameL (fun a b:Int=>decide (a=b)) [7] [7]=true:=by decide
 simp -implicitDefEqProofs (disch:=first|omega|simp only[go_sem]) only[go_sem,true_and,hs,dPick_t,c2,lcv,i1',v1,c3]
 exact ⟨_,rfl,rfl,((hE.trans mv.ext).trans eK).trans eK2⟩
end Go.Proofs.Ythjmkmoiopmfcaa

namespace Go.Proofs.Ythjmkmoiopmfcaa
open Go.D
set_option maxRecDepth 100000
end Go.Proofs.Ythjmkmoiopmfcaa

namespace Go.Proofs.Ythjmkmoiopmfcaa
open Go.D
set_option maxRecDepth 100000
theorem fld_chg:fldsOf Try.prog 51=some [(44,0),(2,2),(4,3)]:=by kernel_rfl
theorem grd_chg:Try.prog.eqGuardType Try.prog.depth 51=false:=by kernel_rfl
theorem und_bool:Try.prog.underlying 4=some .bool:=by kernel_rfl
theorem Pair.ext_iff' {a b:Pair}:a=b↔a.k=b.k∧a.v=b.v:=by cases a;cases b;simp
theorem Change.ext_iff' {a b:Change}:a=b↔a.k=b.k∧a.v=b.v∧a.e=b.e:=by cases a;cases b;simp
theorem chg_eq (d:Nat) (a b:Change):quick Try.prog (Op.equalIn (d+1+1+1) 51 (chgV a) (chgV b))=some (.inr (decide (a=b))):=by
 refine quick_struct fld_chg ⟨keyV a.k,keyV b.k,_,_,(quick_part_agg agg_44).trans rfl,(quick_part_agg agg_44).trans rfl,key_eq d a.k b.k,⟨_,_,_,_,quick_part_one one_2 rfl,quick_part_one one_2 rfl,quick_int und_i64,
  ⟨_,_,_,_,quick_part_one one_4 rfl,quick_part_one one_4 rfl,quick_bool und_bool,rfl,rfl⟩,rfl⟩,?_⟩
 have hb:decide (a.e=b.e)=(a.e==b.e):=by cases a.e <;> cases b.e <;> rfl
 rw[decide_eq_decide.2 Change.ext_iff',Bool.decide_and,Bool.decide_and,Bool.and_true,hb]
 rfl
theorem bin_chg {a b:Change} {h:DHeap} {ox oy:Operand}:dBinOp Try.prog .neq 51 ox oy (chgV a) (chgV b) h=.ok (.value (.bool (!decide (a=b)))) h:=(bin_agg rfl rfl grd_chg (chg_eq 9997 a b)).2
theorem sameL_dec {α:Type} [DecidableEq α]:∀ {l m:List α},sameL (fun a b=>decide (a=b)) l m=decide (l=m)
 | [],[]=>by simp[sameL]
 | [],b :: m=>by simp[sameL]
 | a :: l,[]=>by simp[sameL]
 | a :: l,b :: m=>by
   simp only[sameL,sameL_dec (l:=l) (m:=m)]
   rw[← Bool.decide_and]
   exact decide_eq_decide.2 ⟨fun h=>by rw[h.1,h.2],fun h=>List.cons.inj h⟩
theorem sameInts_c {h:DHeap} {a b:Value} {l m:List Int} (ha:Arg fI64.rep h a l) (hb:Arg fI64.rep h b m) (hlen:l.length≤4294967296) :
 DC Try.prog 38 [a,b] h (.ret (.bool (decide (l=m)))) h:=by
 rw[← sameL_dec]
 refine Ct.pure (go_38 (by simp) ?_) (vin_bool _)
 have ea:∀ K,dLen Try.prog #[23] a K=some (.int .i64 (l.length:Nat)):=ha.lens (P:=Try.prog) (ts:=#[23]) (t:=23) rfl isl_23
 have eb:∀ K,dLen Try.prog #[23] b K=some (.int .i64 (m.length:Nat)):=hb.lens (P:=Try.prog) (ts:=#[23]) (t:=23) rfl isl_23
 by_cases hl:l.length=m.length
 case neg=>
  have hli:¬ ((l.length:Nat):Int)=(m.length:Nat):=by omega
  simp -implicitDefEqProofs (disch:=first|omega|simp only[go_sem]) only[go_sem,true_and,c38,ea,eb,hli]
  exact ⟨_,rfl,by rw[sameL_len hl],.refl h⟩
 have hli:((l.length:Nat):Int)=(m.length:Nat):=by omega
 simp -implicitDefEqProofs (disch:=first|omega|simp only[go_sem]) only[go_sem,true_and,c38,ea,eb,hli]
 refine xloop (σ:=Nat) (by kernel_rfl) (fun i s=>s.df=[]∧s.rd=none∧s.h=h∧s.fr 0=some a∧s.fr 1=some b∧s.fr 5=some (.int .i64 (i:Nat))∧i≤l.length∧sameL (fun a b:Int=>decide (a=b)) (l.drop i) (m.drop i)=sameL (fun a b:Int=>decide (a=b)) l m) (fun i=>l.length - i) 0 ?_ ?_
 ·simp -implicitDefEqProofs (disch:=first|omega|simp only[go_sem]) only[go_sem,true_and]
  exact ⟨by trivial,Nat.zero_le _,by rw[List.drop_zero,List.drop_zero]⟩
 ·rintro i ⟨fr,df,hh,rd⟩ K hK hX ⟨rfl,rfl,rfl,f0,f1,f5,hi,ho⟩
  simp only at f0 f1 f5
  simp -implicitDefEqProofs (disch:=first|omega|simp only[go_sem]) only[go_sem,true_and,f0,f1,f0,f5,ea]
  refine XIf_dec (fun hc1=>?_) (fun hc1=>?_)
  ·have hj:i<l.length:=by omega
   have hk:i<m.length:=by omega
   obtain ⟨id1,o1,e1,_,hat1⟩:=ha.idx (P:=Try.prog) (t:=23) el_23 (k:=.i64) (i:=i) (x:=l[i]) (by simp)
   obtain ⟨id2,o2,e2,_,hat2⟩:=hb.idx (P:=Try.prog) (t:=23) el_23 (k:=.i64) (i:=i) (x:=m[i]) (by simp)
   have hw:=wrap_succ hj (by omega)
   have l1:=hat1.int
   have l2:=hat2.int
   rw[sameL_drop hj hk]at ho
   simp -implicitDefEqProofs (disch:=first|omega|simp only[go_sem]) only[go_sem,true_and,f5]
   refine yr_38_0 rfl ?_
   by_cases hlt:l[i]=m[i]
   ·rw[decide_eq_true hlt,Bool.true_and]at ho
    simp -implicitDefEqProofs (disch:=first|omega|simp only[go_sem]) only[go_sem,true_and,g38_0,q38_0,f0,f1,f5,e1,e2,l1,l2,hlt,hw]
    refine hK (i+1) _ ?_ (by omega)
    exact ⟨by trivial,by trivial,by trivial,(vy f0),(vy f1),vz,by omega,ho⟩
   ·rw[decide_eq_false hlt,Bool.false_and]at ho
    simp -implicitDefEqProofs (disch:=first|omega|simp only[go_sem]) only[go_sem,true_and,g38_0,q38_0,f0,f1,f5,e1,e2,l1,l2,hlt]
    refine hX _ _ (by simp) ?_
    simp -implicitDefEqProofs (disch:=first|omega|simp only[go_sem]) only[go_sem,true_and]
    exact ⟨_,rfl,by rw[← ho],.refl hh⟩
  ·obtain rfl:i=l.length:=by omega
   refine hX _ _ (by simp) ?_
   simp -implicitDefEqProofs (disch:=first|omega|simp only[go_sem]) only[go_sem,true_and]
   exact ⟨_,rfl,by rw[← ho,sameL_end hl],.refl hh⟩
abbrev outV (o:Outc) (vv cv:Value):Value:=.agg #[.int .i64 o.e,vv,cv,.int .i64 o.s]
theorem Outc.eq_iff {a b:Outc}:a=b↔a.e=b.e∧a.s=b.s∧a.vs=b.vs∧a.ch=b.ch:=by
 cases a;cases b
 constructor
 ·intro h
  cases h
  exact ⟨rfl,rfl,rfl,rfl⟩
 ·rintro ⟨h1,h2,h3,h4⟩
  simp only at h1 h2 h3 h4
  rw[h1,h2,h3,h4]
theorem Outc.dec {a b:Outc}:decide (a=b)=(decide (a.e=b.e)&&(decide (a.s=b.s)&&(decide (a.vs=b.vs)&&decide (a.ch=b.ch)))):=by
 rw[decide_eq_decide.2 Outc.eq_iff,Bool.decide_and,Bool.decide_and,Bool.decide_and]
set_option maxHeartbeats 1000000 in
theorem refSame_c {h:DHeap} {a b:Outc} {va ca vb cb:Value} (h1:Arg fI64.rep h va a.vs) (h2:Arg fChange.rep h ca a.ch) (h3:Arg fI64.rep h vb b.vs) (h4:Arg fChange.rep h cb b.ch) (hl:a.vs.length≤4294967296) (hl2:a.ch.length≤4294967296) :
 DC Try.prog 12 [outV a va ca,outV b vb cb] h (.ret (.bool (decide (a=b)))) h:=by
 refine Ct.pure (go_12 (by simp) ?_) (vin_bool _)
 rw[Outc.dec]
 obtain ⟨H,hH⟩:∃ H,H=(h.push (.row [.int .i64 a.e,va,ca,.int .i64 a.s] 0 false)).push (.row [.int .i64 b.e,vb,cb,.int .i64 b.s] 0 false):=⟨_,rfl⟩
 have hE:Ext h H:=by rw[hH];exact (Ext.push1 _ _).push _
 have ga:H.get h.next=some (.row [.int .i64 a.e,va,ca,.int .i64 a.s] 0 false):=by rw[hH];exact get_p1
 have gb:H.get (h.next+1)=some (.row [.int .i64 b.e,vb,cb,.int .i64 b.s] 0 false):=by rw[hH];exact get_push_same _ _
 have qa:(outV a va ca).cells.toList=[.int .i64 a.e,va,ca,.int .i64 a.s]:=rfl
 have qb:(outV b vb cb).cells.toList=[.int .i64 b.e,vb,cb,.int .i64 b.s]:=rfl
 have ea:∀ K,dLen Try.prog #[30] ca K=some (.int .i64 (a.ch.length:Nat)):=h2.lens (P:=Try.prog) (ts:=#[30]) (t:=30) rfl isl_30
 have eb:∀ K,dLen Try.prog #[30] cb K=some (.int .i64 (b.ch.length:Nat)):=h4.lens (P:=Try.prog) (ts:=#[30]) (t:=30) rfl isl_30
 simp -implicitDefEqProofs (disch:=first|omega|simp only[go_sem]) only[go_sem,true_and,c12,qa,qb,next_push,← hH]
 by_cases p1:a.e=b.e
 case neg=>
  simp -implicitDefEqProofs (disch:=first|omega|simp only[go_sem]) only[go_sem,true_and,cellAt_row ga,cellAt_row gb,p1,dPick_t,dPick_f]
  exact ⟨_,rfl,by simp,hE⟩
 have p1':=eq_true p1
 by_cases p2:a.s=b.s
 case neg=>
  simp -implicitDefEqProofs (disch:=first|omega|simp only[go_sem]) only[go_sem,true_and,cellAt_row ga,cellAt_row gb,p1',p2,dPick_t,dPick_f]
  exact ⟨_,rfl,by simp,hE⟩
 have p2':=eq_true p2
 rw[decide_eq_true p1,decide_eq_true p2,Bool.true_and,Bool.true_and]
 by_cases p4:a.ch.length=b.ch.length
 case neg=>
  have p4':¬ ((a.ch.length:Nat):Int)=(b.ch.length:Nat):=by omega
  simp -implicitDefEqProofs (disch:=first|omega|simp only[go_sem]) only[go_sem,true_and,cellAt_row ga,cellAt_row gb,p1',p2',ea,eb,p4',dPick_t,dPick_f]
  exact ⟨_,rfl,by rw[decide_eq_false (fun e:a.ch=b.ch=>p4 (by rw[e])),Bool.and_false],hE⟩
 have p4':((a.ch.length:Nat):Int)=(b.ch.length:Nat):=by omega
 simp -implicitDefEqProofs (disch:=first|omega|simp only[go_sem]) only[go_sem,true_and,cellAt_row ga,cellAt_row gb,p1',p2',ea,eb,p4',dPick_t,dPick_f]
 refine ncall (sameInts_c (h1.ext hE) (h3.ext hE) hl) ?_
 by_cases p3:a.vs=b.vs
 case neg=>
  rw[decide_eq_false p3]
  simp -implicitDefEqProofs (disch:=first|omega|simp only[go_sem]) only[go_sem,true_and,dPick_t,dPick_f]
  exact ⟨_,rfl,rfl,hE⟩
 rw[decide_eq_true p3,Bool.true_and,← sameL_dec]
 simp -implicitDefEqProofs (disch:=first|omega|simp only[go_sem]) only[go_sem,true_and,dPick_t,dPick_f]
 have la:cellAt H h.next 2=some ca:=cellAt_row ga
 have lb:cellAt H (h.next+1) 2=some cb:=cellAt_row gb
 refine xloop (σ:=Nat) (by kernel_rfl) (fun i s=>s.df=[]∧s.rd=none∧s.h=H∧s.fr 2=some (.pointer (some ⟨h.next,0,none⟩))∧s.fr 3=some (.pointer (some ⟨h.next+1,0,none⟩))∧s.fr 5=some (.int .i64 (i:Nat))∧i≤a.ch.length∧sameL (fun a b:Change=>decide (a=b)) (a.ch.drop i) (b.ch.drop i)=sameL (fun a b:Change=>decide (a=b)) a.ch b.ch) (fun i=>a.ch.length - i) 0 ?_ ?_
 ·simp -implicitDefEqProofs (disch:=first|omega|simp only[go_sem]) only[go_sem,true_and]
  exact ⟨by trivial,Nat.zero_le _,by rw[List.drop_zero,List.drop_zero]⟩
 rintro i ⟨fr,df,K,rd⟩ K' hK' hX ⟨hdf,hrd,hK,f2,f3,f5,hi,ho⟩
 simp only at hdf hrd hK f2 f3 f5
 subst hdf hrd hK
 simp -implicitDefEqProofs (disch:=first|omega|simp only[go_sem]) only[go_sem,true_and,f2,f5,la,ea]
 refine XIf_dec (fun hc1=>?_) (fun hc1=>?_)
 ·have hj:i<a.ch.length:=by omega
  have hjm:i<b.ch.length:=by omega
  obtain ⟨id1,o1,e1,_,hat1⟩:=(h2.ext hE).idx (P:=Try.prog) (t:=30) el_30 (k:=.i64) (i:=i) (x:=a.ch[i]) (by simp)
  obtain ⟨id2,o2,e2,_,hat2⟩:=(h4.ext hE).idx (P:=Try.prog) (t:=30) el_30 (k:=.i64) (i:=i) (x:=b.ch[i]) (by simp)
  have hw:=wrap_succ hj (by omega)
  have l1:cellsAt K id1 o1 4=some (chgV a.ch[i]):=hat1.flat.2.1
  have l2:cellsAt K id2 o2 4=some (chgV b.ch[i]):=hat2.flat.2.1
  rw[sameL_drop hj hjm]at ho
  simp -implicitDefEqProofs (disch:=first|omega|simp only[go_sem]) only[go_sem,true_and]
  refine yr_12_0 rfl ?_
  by_cases hlt:a.ch[i]=b.ch[i]
  ·rw[decide_eq_true hlt,Bool.true_and]at ho
   simp -implicitDefEqProofs (disch:=first|omega|simp only[go_sem]) only[go_sem,true_and,g12_0,q12_0,f2,f3,f5,la,lb,e1,e2,l1,l2,bin_chg,hlt,hw]
   refine hK' (i+1) _ ?_ (by omega)
   exact ⟨by trivial,by trivial,by trivial,(vy f2),(vy f3),vz,by omega,ho⟩
  ·rw[decide_eq_false hlt,Bool.false_and]at ho
   simp -implicitDefEqProofs (disch:=first|omega|simp only[go_sem]) only[go_sem,true_and,g12_0,q12_0,f2,f3,f5,la,lb,e1,e2,l1,l2,bin_chg,hlt]
   refine hX _ _ (by simp) ?_
   simp -implicitDefEqProofs (disch:=first|omega|simp only[go_sem]) only[go_sem,true_and]
   exact ⟨_,rfl,by rw[← ho],hE⟩
 ·obtain rfl:i=a.ch.length:=by omega
  refine hX _ _ (by simp) ?_
  simp -implicitDefEqProofs (disch:=first|omega|simp only[go_sem]) only[go_sem,true_and]
  exact ⟨_,rfl,by rw[← ho,sameL_end p4],hE⟩
end Go.Proofs.Ythjmkmoiopmfcaa

namespace Go.Proofs.Ythjmkmoiopmfcaa
open Go.D
set_option maxRecDepth 100000
end Go.Proofs.Ythjmkmoiopmfcaa

namespace Go.Proofs.Ythjmkmoiopmfcaa
open Go.D
set_option maxRecDepth 100000
end Go.Proofs.Ythjmkmoiopmfcaa

namespace Go.Proofs.Ythjmkmoiopmfcaa
open Go.D
set_option maxRecDepth 100000
def refL (t:Txn) (vc va vr vw vm:Value) (g:List Int) (vq vo:Value) (n:Int):List Value:=
 .int .i64 t.ses :: .int .i64 t.req :: vc :: va :: vr :: vw :: vm :: (g.map (fun n=>Value.int .i64 n)++[vq,vo,.int .i64 n])
section
variable {t:Txn} {vc va vr vw vm vq vo:Value} {g:List Int} {n:Int}
theorem refL_len (hg:g.length=8):(refL t vc va vr vw vm g vq vo n).length=18:=by simp[refL,hg]
theorem refL_reg (hg:g.length=8) {a:Nat} (ha:a<8):(refL t vc va vr vw vm g vq vo n)[7+a]? = some (.int .i64 (g.getD a 0)):=by
 obtain ⟨r0,r1,r2,r3,r4,r5,r6,r7,rfl⟩:=len8 hg
 match a,ha with
 | 0,_=>rfl
 | 1,_=>rfl
 | 2,_=>rfl
 | 3,_=>rfl
 | 4,_=>rfl
 | 5,_=>rfl
 | 6,_=>rfl
 | 7,_=>rfl
theorem refL_tail (hg:g.length=8):(refL t vc va vr vw vm g vq vo n)[6]? = some vm∧(refL t vc va vr vw vm g vq vo n)[15]? = some vq∧(refL t vc va vr vw vm g vq vo n)[16]? = some vo∧(refL t vc va vr vw vm g vq vo n)[17]? = some (.int .i64 n):=by
 obtain ⟨r0,r1,r2,r3,r4,r5,r6,r7,rfl⟩:=len8 hg
 exact ⟨rfl,rfl,rfl,rfl⟩
theorem refL_setReg (hg:g.length=8) {a:Nat} (ha:a<8) (v:Int):setAt (refL t vc va vr vw vm g vq vo n) (7+a) [.int .i64 v]=refL t vc va vr vw vm (g.set a v) vq vo n:=by
 obtain ⟨r0,r1,r2,r3,r4,r5,r6,r7,rfl⟩:=len8 hg
 match a,ha with
 | 0,_=>rfl
 | 1,_=>rfl
 | 2,_=>rfl
 | 3,_=>rfl
 | 4,_=>rfl
 | 5,_=>rfl
 | 6,_=>rfl
 | 7,_=>rfl
theorem refL_setW (hg:g.length=8) (v:Value):setAt (refL t vc va vr vw vm g vq vo n) 15 [v]=refL t vc va vr vw vm g v vo n:=by
 obtain ⟨r0,r1,r2,r3,r4,r5,r6,r7,rfl⟩:=len8 hg
 rfl
theorem refL_setOut (hg:g.length=8) (v:Value):setAt (refL t vc va vr vw vm g vq vo n) 16 [v]=refL t vc va vr vw vm g vq v n:=by
 obtain ⟨r0,r1,r2,r3,r4,r5,r6,r7,rfl⟩:=len8 hg
 rfl
theorem refL_setAt (hg:g.length=8) (k:Int):setAt (refL t vc va vr vw vm g vq vo n) 17 [.int .i64 k]=refL t vc va vr vw vm g vq vo k:=by
 obtain ⟨r0,r1,r2,r3,r4,r5,r6,r7,rfl⟩:=len8 hg
 rfl
end
structure RefC (h0:DHeap) (b:Nat) (t:Txn) (vc va vr vw vm:Value) (m:List Pair):Prop where
 lb:b<h0.next
 tx:TxV (fun i=>i<h0.next∧¬ i=b) h0 t vc va vr vw
 len:TxLen t
 sm:Sl fPair.rep (fun i=>i<h0.next∧¬ i=b) h0 vm m
 lm:m.length≤1048576
 up:UpB Pair.k m
structure RefI (h0 K:DHeap) (b:Nat) (t:Txn) (vc va vr vw vm:Value) (s:RS) (n:Int) (vq vo:Value) (wq wo:Option Nat):Prop where
 kp:KpD (fun i=>i=b) h0 K
 row:K.get b=some (.row (refL t vc va vr vw vm s.reg vq vo n) 0 false)
 q:Owns fChange.rep NoS K vq s.w wq
 o:Owns fI64.rep NoS K vo s.out wo
 hq:∀ i,wq=some i→h0.next≤i
 ho:∀ i,wo=some i→h0.next≤i
 len:s.reg.length=8
 ok:∀ n∈s.reg,inK .i64 n
 outn:s.out.length≤8
 wn:s.w.length≤8192
section
variable {h0 K K':DHeap} {b:Nat} {t:Txn} {vc va vr vw vm vq vo vq' vo':Value} {m:List Pair} {s s':RS} {n n':Int} {wq wo:Option Nat}
theorem RefI.ext (C:RefC h0 b t vc va vr vw vm m) (I:RefI h0 K b t vc va vr vw vm s n vq vo wq wo) (e:Ext K K'):RefI h0 K' b t vc va vr vw vm s n vq vo wq wo:=
 ⟨I.kp.ext e,(e.get _ (Nat.lt_of_lt_of_le C.lb I.kp.next)).trans I.row,I.q.mono e.next (fun i hi=>e.get i (I.q.lt i hi)) (fun i hi=>hi.elim),I.o.mono e.next (fun i hi=>e.get i (I.o.lt i hi)) (fun i hi=>hi.elim),I.hq,I.ho,I.len,I.ok,I.outn,I.wn⟩
theorem RefI.tx (C:RefC h0 b t vc va vr vw vm m) (I:RefI h0 K b t vc va vr vw vm s n vq vo wq wo):TxV (InH K) K t vc va vr vw:=
 C.tx.mono fun i hi=>⟨Nat.lt_of_lt_of_le hi.1 I.kp.next,I.kp.get i hi.1 hi.2⟩
theorem RefI.sm (C:RefC h0 b t vc va vr vw vm m) (I:RefI h0 K b t vc va vr vw vm s n vq vo wq wo):Arg fPair.rep K vm m:=
 C.sm.mono fun i hi=>⟨Nat.lt_of_lt_of_le hi.1 I.kp.next,I.kp.get i hi.1 hi.2⟩
theorem RefI.box (C:RefC h0 b t vc va vr vw vm m) (I:RefI h0 K b t vc va vr vw vm s n vq vo wq wo) (hw:s'.w=s.w) (hout:s'.out=s.out) (hl:s'.reg.length=8) (hok:∀ n∈s'.reg,inK .i64 n) :
 RefI h0 (K.set b (.row (refL t vc va vr vw vm s'.reg vq vo n') 0 false)) b t vc va vr vw vm s' n' vq vo wq wo:=by
 have hlb:=C.lb
 refine ⟨I.kp.set (.inl rfl),get_set_same _ _,?_,?_,I.hq,I.ho,hl,hok,by rw[hout];exact I.outn,by rw[hw];exact I.wn⟩
 ·rw[hw]
  exact I.q.mono (Nat.le_refl _) (fun i hi=>get_set_other _ _ (by have:=I.hq i hi;omega)) (fun i hi=>hi.elim)
 ·rw[hout]
  exact I.o.mono (Nat.le_refl _) (fun i hi=>get_set_other _ _ (by have:=I.ho i hi;omega)) (fun i hi=>hi.elim)
theorem RefI.reg (C:RefC h0 b t vc va vr vw vm m) (I:RefI h0 K b t vc va vr vw vm s n vq vo wq wo) {a v:Int} (hv:inK .i64 v):RefI h0 (K.set b (.row (refL t vc va vr vw vm (s.reg.set a.toNat v) vq vo n) 0 false)) b t vc va vr vw vm (s.set a v) n vq vo wq wo:=
 I.box C (s':=s.set a v) rfl rfl (by simp[I.len]) fun n hn=>by
  rcases List.mem_or_eq_of_mem_set hn with hn | rfl
  ·exact I.ok n hn
  ·exact hv
theorem RefI.at' (C:RefC h0 b t vc va vr vw vm m) (I:RefI h0 K b t vc va vr vw vm s n vq vo wq wo) (k:Int):RefI h0 (K.set b (.row (refL t vc va vr vw vm s.reg vq vo k) 0 false)) b t vc va vr vw vm s k vq vo wq wo:=
 I.box C rfl rfl I.len I.ok
theorem RefI.put (C:RefC h0 b t vc va vr vw vm m) (I:RefI h0 K b t vc va vr vw vm s n vq vo wq wo) {c:Change} (hc:fChange.ok c) (hwn:s.w.length<8192) :
 ∃ vq' h2,dAppend Try.prog #[30,30] vq (.slice (some ⟨K.next,0,none⟩) 1 1) (K.push (.row [.int .i32 c.k.t,.int .i64 c.k.r,.int .i64 c.v,.bool c.e] 4 false))=some (vq',h2)∧vq'.cells=#[vq']∧[vq'].all Value.oneCell'=true ∧
  h2.get b=some (.row (refL t vc va vr vw vm s.reg vq vo n) 0 false)∧RefI h0 (h2.set b (.row (refL t vc va vr vw vm s.reg vq' vo n) 0 false)) b t vc va vr vw vm (s.put c) n vq' vo (some (K.next+1)) wo:=by
 obtain ⟨vq',h2,e6,n2,ng2,gg,o3⟩:=I.q.snoc (cs:=[.int .i32 c.k.t,.int .i64 c.k.r,.int .i64 c.v,.bool c.e]) (x:=c) (z:=4) (fun i hi=>hi.elim) ⟨rfl,hc⟩ rfl (by decide) app_30 (by omega) (by decide)
 have hlb:=C.lb
 have hkn:=I.kp.next
 have nb:wq≠some b:=fun e=>by have:=I.hq b e;omega
 have gb2:h2.get b=some (.row (refL t vc va vr vw vm s.reg vq vo n) 0 false):=(gg _ (by omega) nb).trans I.row
 have kp2:KpD (fun i=>i=b) h0 h2:=⟨by omega,ng2.trans I.kp.ng,fun i hi hn=>(gg i (by omega) (fun e=>by have:=I.hq i e;omega)).trans (I.kp.get i hi hn)⟩
 have nwo:∀ i,wo=some i→wq≠some i:=fun i hi=>by
  subst hi
  refine I.q.ne ?_
  rcases I.o with ⟨_,_,e⟩ | ⟨e,_⟩ | ⟨id,cap,cells,_,e,_,g2,_⟩
  ·cases e
  ·cases e
  ·cases e
   exact .row g2 (by decide)
 refine ⟨vq',h2,e6,o3.sl.cells1,by obtain ⟨_,_,rfl⟩:=o3.sl.isSlice;rfl,gb2,⟨kp2.set (.inl rfl),get_set_same _ _,o3.mono (Nat.le_refl _) (fun i hi=>get_set_other _ _ (by cases hi;omega)) (fun i hi=>hi.elim),?_,fun i hi=>by cases hi;omega,I.ho,I.len,I.ok,I.outn,?_⟩⟩
 ·exact I.o.mono (show K.next≤h2.next by omega) (fun i hi=>by
   have h1:=I.o.lt i hi
   have h3:=I.ho i hi
   rw[get_set_other _ _ (by omega)]
   exact gg i h1 (nwo i hi)) (fun i hi=>hi.elim)
 ·show (s.w++[c]).length≤8192
  rw[List.length_append]
  simp
  omega
theorem RefI.ans (C:RefC h0 b t vc va vr vw vm m) (I:RefI h0 K b t vc va vr vw vm s n vq vo wq wo) {y:Int} (hy:inK .i64 y) (hon:s.out.length<8) :
 ∃ vo' h2,dAppend Try.prog #[23,23] vo (.slice (some ⟨K.next,0,none⟩) 1 1) (K.push (.row [.int .i64 y] 1 false))=some (vo',h2)∧vo'.cells=#[vo']∧[vo'].all Value.oneCell'=true ∧
  h2.get b=some (.row (refL t vc va vr vw vm s.reg vq vo n) 0 false)∧RefI h0 (h2.set b (.row (refL t vc va vr vw vm s.reg vq vo' n) 0 false)) b t vc va vr vw vm { s with out:=s.out++[y] } n vq vo' wq (some (K.next+1)):=by
 obtain ⟨vo',h2,e6,n2,ng2,gg,o3⟩:=I.o.snoc (cs:=[.int .i64 y]) (x:=y) (z:=1) (fun i hi=>hi.elim) ⟨rfl,hy⟩ rfl (by decide) app_23 (by omega) (by decide)
 have hlb:=C.lb
 have hkn:=I.kp.next
 have nb:wo≠some b:=fun e=>by have:=I.ho b e;omega
 have gb2:h2.get b=some (.row (refL t vc va vr vw vm s.reg vq vo n) 0 false):=(gg _ (by omega) nb).trans I.row
 have kp2:KpD (fun i=>i=b) h0 h2:=⟨by omega,ng2.trans I.kp.ng,fun i hi hn=>(gg i (by omega) (fun e=>by have:=I.ho i e;omega)).trans (I.kp.get i hi hn)⟩
 have nwq:∀ i,wq=some i→wo≠some i:=fun i hi=>by
  subst hi
  refine I.o.ne ?_
  rcases I.q with ⟨_,_,e⟩ | ⟨e,_⟩ | ⟨id,cap,cells,_,e,_,g2,_⟩
  ·cases e
  ·cases e
  ·cases e
   exact .row g2 (by decide)
 refine ⟨vo',h2,e6,o3.sl.cells1,by obtain ⟨_,_,rfl⟩:=o3.sl.isSlice;rfl,gb2,⟨kp2.set (.inl rfl),get_set_same _ _,?_,o3.mono (Nat.le_refl _) (fun i hi=>get_set_other _ _ (by cases hi;omega)) (fun i hi=>hi.elim),I.hq,fun i hi=>by cases hi;omega,I.len,I.ok,?_,I.wn⟩⟩
 ·exact I.q.mono (show K.next≤h2.next by omega) (fun i hi=>by
   have h1:=I.q.lt i hi
   have h3:=I.hq i hi
   rw[get_set_other _ _ (by omega)]
   exact gg i h1 (nwq i hi)) (fun i hi=>hi.elim)
 ·show (s.out++[y]).length≤8
  rw[List.length_append]
  simp
  omega
theorem RefI.wok (I:RefI h0 K b t vc va vr vw vm s n vq vo wq wo):∀ c∈s.w,fChange.ok c:=I.q.sl.ok
end
theorem lastB_at {α:Type} {key:α→Key} {l:List α} {k:Key} {i:Nat} (hi:i<l.length) (hk:key l[i]=k) (hn:k∉(l.drop (i+1)).map key):lastB key l k=some l[i]:=by
 have h1:=lastB_append (key:=key) (l:=l.take (i+1)) (m:=l.drop (i+1)) (k:=k)
 rw[List.take_append_drop,lastB_none.2 hn,List.take_succ_eq_append_getElem hi,lastB_snoc,if_pos hk]at h1
 exact h1
set_option maxHeartbeats 1000000 in
theorem refValue_c {h0 h:DHeap} {b:Nat} {t:Txn} {vc va vr vw vm vq vo:Value} {m:List Pair} {s:RS} {n:Int} {wq wo:Option Nat} {k:Key} (C:RefC h0 b t vc va vr vw vm m) (I:RefI h0 h b t vc va vr vw vm s n vq vo wq wo) :
 DC Try.prog 85 [.pointer (some ⟨b,0,none⟩),keyV k] h (.ret (.tuple #[.int .i64 (valE m s.w k).1,.bool (valE m s.w k).2])) h:=by
 refine Ct.pure (go_85 (by simp) ?_) (flat3_vin _ rfl)
 obtain ⟨K1,hK1⟩:∃ H,H=h.push (.row [.int .i32 k.t,.int .i64 k.r] 0 false):=⟨_,rfl⟩
 have g1:K1.get h.next=some (.row [.int .i32 k.t,.int .i64 k.r] 0 false):=by rw[hK1];exact get_push_same _ _
 have e1:Ext h K1:=by rw[hK1];exact Ext.push1 _ _
 have hcl:(keyV k).cells.toList=[.int .i32 k.t,.int .i64 k.r]:=rfl
 have lk:cellsAt K1 h.next 0 2=some (keyV k):=by rw[cellsAt_row g1 (Nat.le_of_ble_eq_true rfl)];rfl
 have I1:=I.ext C e1
 obtain ⟨t6,t15,_,_⟩:=refL_tail (t:=t) (vc:=vc) (va:=va) (vr:=vr) (vw:=vw) (vm:=vm) (vq:=vq) (vo:=vo) (n:=n) I.len
 have c15:cellAt K1 b 15=some vq:=(cellAt_row I1.row).trans t15
 have c6:cellAt K1 b 6=some vm:=(cellAt_row I1.row).trans t6
 have hwn:=I.wn
 have aq:Arg fChange.rep K1 vq s.w:=I1.q.arg (fun i hi=>hi.elim)
 have lq:∀ K,dLen Try.prog #[30] vq K=some (.int .i64 (s.w.length:Nat)):=aq.lens (P:=Try.prog) (ts:=#[30]) (t:=30) rfl isl_30
 have am:=I1.sm C
 have hlm:=C.lm
 have lm:∀ K,dLen Try.prog #[27] vm K=some (.int .i64 (m.length:Nat)):=am.lens (P:=Try.prog) (ts:=#[27]) (t:=27) rfl isl_27
 have w0:IntKind.i64.wrap ((s.w.length:Nat) - 1:Int)=(s.w.length:Nat) - 1:=wrap_i64_in (by omega) (by omega)
 simp -implicitDefEqProofs (disch:=first|omega|simp only[go_sem]) only[go_sem,true_and,c85,hcl,← hK1,c15,lq,w0]
 refine XLoop_cut (fun s'=>s'.df=[]∧s'.rd=none∧s'.h=K1∧s'.fr 0=some (.pointer (some ⟨b,0,none⟩))∧s'.fr 3=some (.pointer (some ⟨h.next,0,none⟩))∧k∉s.w.map Change.k) ?_ ?_
 ·refine xloop (σ:=Nat) (by kernel_rfl) (fun i s'=>s'.df=[]∧s'.rd=none∧s'.h=K1∧s'.fr 0=some (.pointer (some ⟨b,0,none⟩))∧s'.fr 3=some (.pointer (some ⟨h.next,0,none⟩))∧s'.fr 6=some (.int .i64 ((i:Nat) - 1:Int))∧i≤s.w.length∧k∉(s.w.drop i).map Change.k) (fun i=>i) s.w.length ?_ ?_
  ·simp -implicitDefEqProofs (disch:=first|omega|simp only[go_sem]) only[go_sem,true_and]
   exact ⟨Nat.le_refl _,by rw[List.drop_length];simp⟩
  rintro i ⟨fr,df,M,rd⟩ K' hK' hX ⟨rfl,rfl,rfl,f0,f3,f6,hi,hn⟩
  simp only at f0 f3 f6
  simp -implicitDefEqProofs (disch:=first|omega|simp only[go_sem]) only[go_sem,true_and,f6]
  refine XIf_dec (fun hc1=>?_) (fun hc1=>?_)
  ·obtain ⟨j,rfl⟩:∃ j,i=j+1:=⟨i - 1,by omega⟩
   have hj:j<s.w.length:=by omega
   have hjj:((j+1:Nat):Int) - 1=(j:Nat):=by omega
   rw[hjj]at f6
   obtain ⟨id1,o1,i1,_,hat1⟩:=aq.idx (P:=Try.prog) (t:=30) el_30 (k:=.i64) (i:=j) (x:=s.w[j]) (by simp)
   have k1:cellsAt M id1 o1 2=some (keyV s.w[j].k):=chg_key hat1
   have v1:cellAt M id1 (o1+2)=some (.int .i64 s.w[j].v):=hat1.flat.1 2 (by decide)
   have v2:cellAt M id1 (o1+3)=some (.bool s.w[j].e):=hat1.flat.1 3 (by decide)
   have hw:IntKind.i64.wrap ((j:Nat) - 1:Int)=(j:Nat) - 1:=wrap_i64_in (by omega) (by omega)
   simp -implicitDefEqProofs (disch:=first|omega|simp only[go_sem]) only[go_sem,true_and]
   refine yr_85_0 rfl ?_
   simp -implicitDefEqProofs (disch:=first|omega|simp only[go_sem]) only[go_sem,true_and,g85_0,q85_0,f0,f3,f6,c15,i1,k1,lk,bin_key']
   by_cases he:s.w[j].k=k
   ·simp -implicitDefEqProofs (disch:=first|omega|simp only[go_sem]) only[go_sem,true_and,he]
    refine yr_85_1 rfl ?_
    simp -implicitDefEqProofs (disch:=first|omega|simp only[go_sem]) only[go_sem,true_and,g85_1,q85_1,f0,f6,c15,i1,v1,v2]
    refine hX _ _ (by simp) ?_
    simp -implicitDefEqProofs (disch:=first|omega|simp only[go_sem]) only[go_sem,true_and]
    exact ⟨_,rfl,by rw[valE_chg (lastB_at hj he hn)],e1⟩
   ·simp -implicitDefEqProofs (disch:=first|omega|simp only[go_sem]) only[go_sem,true_and,he,f6,hw]
    refine hK' j _ ?_ (by omega)
    refine ⟨by trivial,by trivial,by trivial,(vy f0),(vy f3),vz,by omega,?_⟩
    rw[List.drop_eq_getElem_cons hj,List.map_cons,List.mem_cons]
    rintro (e | e)
    ·exact he e.symm
    ·exact hn e
  ·obtain rfl:i=0:=by omega
   refine hX _ _ (by simp) ?_
   exact ⟨by trivial,by trivial,by trivial,(vy f0),(vy f3),hn⟩
 rintro ⟨fr,df,M,rd⟩ ⟨hdf,hrd,hM,f0,f3,hn⟩
 simp only at hdf hrd hM f0 f3
 subst hdf hrd hM
 have hnone:=(lastB_none (key:=Change.k)).2 hn
 simp -implicitDefEqProofs (disch:=first|omega|simp only[go_sem]) only[go_sem,true_and]
 refine xloop (σ:=Nat) (by kernel_rfl) (fun i s'=>s'.df=[]∧s'.rd=none∧s'.h=M∧s'.fr 0=some (.pointer (some ⟨b,0,none⟩))∧s'.fr 3=some (.pointer (some ⟨h.next,0,none⟩))∧s'.fr 7=some (.int .i64 (i:Nat))∧i≤m.length∧k∉(m.take i).map Pair.k) (fun i=>m.length - i) 0 ?_ ?_
 ·simp -implicitDefEqProofs (disch:=first|omega|simp only[go_sem]) only[go_sem,true_and,f0,f3]
  exact ⟨by trivial,Nat.zero_le _,by simp⟩
 clear f0 f3
 rintro i ⟨fr,df,M2,rd⟩ K' hK' hX ⟨hdf,hrd,hM2,f0,f3,f7,hi,hni⟩
 simp only at hdf hrd hM2 f0 f3 f7
 subst hdf hrd hM2
 simp -implicitDefEqProofs (disch:=first|omega|simp only[go_sem]) only[go_sem,true_and,f0,f7,c6,lm]
 refine XIf_dec (fun hc1=>?_) (fun hc1=>?_)
 ·have hj:i<m.length:=by omega
  obtain ⟨id1,o1,i1,_,hat1⟩:=am.idx (P:=Try.prog) (t:=27) el_27 (k:=.i64) (i:=i) (x:=m[i]) (by simp)
  have k1:cellsAt M2 id1 o1 2=some (keyV m[i].k):=pair_key hat1
  have v1:cellAt M2 id1 (o1+2)=some (.int .i64 m[i].v):=hat1.flat.1 2 (by decide)
  have hw:=wrap_succ hj (by omega)
  simp -implicitDefEqProofs (disch:=first|omega|simp only[go_sem]) only[go_sem,true_and]
  refine yr_85_2 rfl ?_
  simp -implicitDefEqProofs (disch:=first|omega|simp only[go_sem]) only[go_sem,true_and,g85_2,q85_2,f0,f3,f7,c6,i1,k1,lk,bin_key']
  by_cases he:m[i].k=k
  ·simp -implicitDefEqProofs (disch:=first|omega|simp only[go_sem]) only[go_sem,true_and,he,f0,f7,c6,i1,v1]
   refine hX _ _ (by simp) ?_
   simp -implicitDefEqProofs (disch:=first|omega|simp only[go_sem]) only[go_sem,true_and]
   have hp:lastB Pair.k m k=some m[i]:=by
    rw[← he]
    exact (lastB_up C.up).2 (List.getElem_mem hj)
   exact ⟨_,rfl,by rw[valE_pair hnone hp],e1⟩
  ·simp -implicitDefEqProofs (disch:=first|omega|simp only[go_sem]) only[go_sem,true_and,he,f7,hw]
   refine hK' (i+1) _ ?_ (by omega)
   refine ⟨by trivial,by trivial,by trivial,(vy f0),(vy f3),vz,by omega,?_⟩
   rw[List.take_succ_eq_append_getElem hj,List.map_append,List.mem_append]
   rintro (e | e)
   ·exact hni e
   ·exact he (List.mem_singleton.1 e).symm
 ·obtain rfl:i=m.length:=by omega
  rw[List.take_length]at hni
  refine hX _ _ (by simp) ?_
  simp -implicitDefEqProofs (disch:=first|omega|simp only[go_sem]) only[go_sem,true_and]
  exact ⟨_,rfl,by rw[valE_no hnone (lastB_none.2 hni)],e1⟩
end Go.Proofs.Ythjmkmoiopmfcaa

namespace Go.Proofs.Ythjmkmoiopmfcaa
open Go.D
set_option maxRecDepth 100000
def TouchP (h0:DHeap) (b:Nat) (t:Txn) (vc va vr vw vm:Value) (m:List Pair) (x:Instr) (s:RS) (n:Int) (r:DEnd) (h1:DHeap):Prop:=
 ∃ s' vq vo wq wo,RefI h0 h1 b t vc va vr vw vm s' n vq vo wq wo∧((stepE t m x s=(-1,s',none)∧r=.ret (.int .i64 0))∨(stepE t m x s=(4,s',none)∧r=.ret (.int .i64 4)))
def StepR (h0:DHeap) (b:Nat) (t:Txn) (vc va vr vw vm:Value) (m:List Pair) (x:Instr) (s:RS) (nx:Int) (r:DEnd) (h1:DHeap):Prop:=
 ∃ e s' j n' vq vo wq wo,stepE t m x s=(e,s',j)∧RefI h0 h1 b t vc va vr vw vm s' n' vq vo wq wo∧r=.ret (.tuple #[.bool (!decide (e=-1)),.int .i64 (if e=-1 then 0 else e)])∧(j=none→n'=nx)∧∀ a,j=some a→n'=a
section
variable {h0 h1:DHeap} {b:Nat} {t:Txn} {vc va vr vw vm vq vo:Value} {m:List Pair} {x:Instr} {s s':RS} {nx e:Int} {wq wo:Option Nat}
theorem StepR.go (E:stepE t m x s=(-1,s',none)) (I:RefI h0 h1 b t vc va vr vw vm s' nx vq vo wq wo):StepR h0 b t vc va vr vw vm m x s nx (.ret (.tuple #[.bool false,.int .i64 0])) h1:=
 ⟨_,_,_,_,_,_,_,_,E,I,rfl,fun _=>rfl,fun a ha=>by cases ha⟩
theorem StepR.jump {a:Int} (E:stepE t m x s=(-1,s',some a)) (I:RefI h0 h1 b t vc va vr vw vm s' a vq vo wq wo):StepR h0 b t vc va vr vw vm m x s nx (.ret (.tuple #[.bool false,.int .i64 0])) h1:=
 ⟨_,_,_,_,_,_,_,_,E,I,rfl,fun ha=>(by cases ha),fun b hb=>by cases hb;rfl⟩
theorem StepR.stop (E:stepE t m x s=(e,s',none)) (he:e ≠ -1) (I:RefI h0 h1 b t vc va vr vw vm s' nx vq vo wq wo):StepR h0 b t vc va vr vw vm m x s nx (.ret (.tuple #[.bool true,.int .i64 e])) h1:=
 ⟨_,_,_,_,_,_,_,_,E,I,by rw[decide_eq_false he,if_neg he];rfl,fun _=>rfl,fun a ha=>by cases ha⟩
end
set_option maxHeartbeats 4000000 in
theorem touch_c {h0 h:DHeap} {b:Nat} {t:Txn} {vc va vr vw vm vq vo:Value} {m:List Pair} {s:RS} {n:Int} {wq wo:Option Nat} {x:Instr} (C:RefC h0 b t vc va vr vw vm m) (I:RefI h0 h b t vc va vr vw vm s n vq vo wq wo) (hx:InsOk t x) (hwn:s.w.length<8192) (hT:x.op=3∨x.op=4∨x.op=5∨x.op=6∨x.op=26∨x.op=27) (hokm:∀ p∈m,fPair.ok p) :
 Ct Try.prog 72 [.pointer (some ⟨b,0,none⟩),instrV x] h (TouchP h0 b t vc va vr vw vm m x s n):=by
 obtain ⟨x1,x2,x3,x4,x5⟩:=x
 obtain ⟨R,hR⟩:∃ R,TouchP h0 b t vc va vr vw vm m ⟨x1,x2,x3,x4,x5⟩ s n=R:=⟨_,rfl⟩
 rw[hR]
 refine go_72 (by simp) ?_
 obtain ⟨H,hH⟩:∃ H,H=h.push (.row [.int .i64 x1,.int .i64 x2,.int .i64 x3,.int .i64 x4,.int .i64 x5] 0 false):=⟨_,rfl⟩
 have hE:Ext h H:=by rw[hH];exact Ext.push1 _ _
 have gH:H.get h.next=some (.row [.int .i64 x1,.int .i64 x2,.int .i64 x3,.int .i64 x4,.int .i64 x5] 0 false):=by rw[hH];exact get_push_same _ _
 have hHn:H.next=h.next+1:=by rw[hH];rfl
 obtain ⟨H2,hH2⟩:∃ K,K=H.push (.row [.int .i32 0,.int .i64 0] 0 false):=⟨_,rfl⟩
 have e2:Ext H H2:=by rw[hH2];exact Ext.push1 _ _
 have g2:H2.get H.next=some (.row [.int .i32 0,.int .i64 0] 0 false):=by rw[hH2];exact get_push_same _ _
 have hH2n:H2.next=h.next+2:=by rw[hH2,next_push,hHn]
 obtain ⟨k,hk⟩:∃ k,(⟨IntKind.i32.wrap x5,s.r x4⟩:Key)=k:=⟨_,rfl⟩
 have hkok:fKey.ok k:=hk▸⟨wrap_ok _ _,reg_ok I.ok _⟩
 have hfar:farK ⟨x1,x2,x3,x4,x5⟩ s=k:=hk
 have hbk:dBuild Try.prog 44 [(0,.int .i32 (IntKind.i32.wrap x5)),(1,.int .i64 (s.r x4))]=some (keyV k):=hk▸bd_keyK
 obtain ⟨B,hB⟩:∃ K,K=H2.set H.next (.row [.int .i32 k.t,.int .i64 k.r] 0 false):=⟨_,rfl⟩
 have e3:Ext H B:=by rw[hB];exact e2.set (Nat.le_refl _)
 have hst:dStore Try.prog 44 (.pointer (some ⟨H.next,0,none⟩)) (keyV k) H2=some B:=by
  rw[hB]
  exact (st_44 rfl).trans (storeAt_row g2 (Nat.le_of_ble_eq_true rfl) rfl)
 have g3:B.get H.next=some (.row [.int .i32 k.t,.int .i64 k.r] 0 false):=by rw[hB];exact get_set_same _ _
 have hBn:B.next=h.next+2:=by rw[hB];exact hH2n
 have lk:∀ K,Ext B K→cellsAt K H.next 0 2=some (keyV k):=fun K e=>by rw[cellsAt_row ((e.get _ (by omega)).trans g3) (Nat.le_of_ble_eq_true rfl)];rfl
 have IB:RefI h0 B b t vc va vr vw vm s n vq vo wq wo:=I.ext C (hE.trans e3)
 have gx:B.get h.next=some (.row [.int .i64 x1,.int .i64 x2,.int .i64 x3,.int .i64 x4,.int .i64 x5] 0 false):=(e3.get _ (by omega)).trans gH
 have q3:cellAt H2 h.next 3=some (.int .i64 x4):=cellAt_row ((e2.get _ (by omega)).trans gH)
 have q4:cellAt H2 h.next 4=some (.int .i64 x5):=cellAt_row ((e2.get _ (by omega)).trans gH)
 have l8:=I.len
 have hbn:b<h.next:=Nat.lt_of_lt_of_le C.lb I.kp.next
 obtain ⟨t6,t15,t16,t17⟩:=refL_tail (t:=t) (vc:=vc) (va:=va) (vr:=vr) (vw:=vw) (vm:=vm) (g:=s.reg) (vq:=vq) (vo:=vo) (n:=n) l8
 have ha8:x3.toNat<8:=by have:=hx.a;simp only at this;omega
 have hb8:x4.toNat<8:=by have:=hx.b;simp only at this;omega
 have iaa:=ia_regs (id:=b) (o:=7) hx.a.1 hx.a.2
 have iab:=ia_regs (id:=b) (o:=7) hx.b.1 hx.b.2
 simp only at iaa iab
 have zok:inK .i64 0:=inK_i64.2 ⟨by decide,by decide⟩
 have iok:inK .i64 x5:=by have:=hx.imm;simp only at this;exact inK_i64.2 ⟨by omega,by omega⟩
 have qb:cellAt H2 b (7+x4.toNat)=some (.int .i64 (s.r x4)):=(cellAt_row ((e2.get _ (by omega)).trans ((hE.get _ hbn).trans I.row))).trans (refL_reg l8 hb8)
 have a1:∀ K,Ext B K→cellAt K h.next 1=some (.int .i64 x2):=fun K e=>cellAt_row ((e.get _ (by omega)).trans gx)
 have a2:∀ K,Ext B K→cellAt K h.next 2=some (.int .i64 x3):=fun K e=>cellAt_row ((e.get _ (by omega)).trans gx)
 have a3:∀ K,Ext B K→cellAt K h.next 3=some (.int .i64 x4):=fun K e=>cellAt_row ((e.get _ (by omega)).trans gx)
 have a4:∀ K,Ext B K→cellAt K h.next 4=some (.int .i64 x5):=fun K e=>cellAt_row ((e.get _ (by omega)).trans gx)
 have gbK:∀ K,Ext B K→K.get b=some (.row (refL t vc va vr vw vm s.reg vq vo n) 0 false):=fun K e=>(e.get _ (by omega)).trans IB.row
 have ra:∀ K,Ext B K→cellAt K b (7+x3.toNat)=some (.int .i64 (s.r x3)):=fun K e=>(cellAt_row (gbK K e)).trans (refL_reg l8 ha8)
 have rb:∀ K,Ext B K→cellAt K b (7+x4.toNat)=some (.int .i64 (s.r x4)):=fun K e=>(cellAt_row (gbK K e)).trans (refL_reg l8 hb8)
 have b3:∀ K,Ext B K→cellAt K b 3=some va:=fun K e=>cellAt_row (gbK K e)
 have b4:∀ K,Ext B K→cellAt K b 4=some vr:=fun K e=>cellAt_row (gbK K e)
 have b5:∀ K,Ext B K→cellAt K b 5=some vw:=fun K e=>cellAt_row (gbK K e)
 have b15:∀ K,Ext B K→cellAt K b 15=some vq:=fun K e=>(cellAt_row (gbK K e)).trans t15
 have b16:∀ K,Ext B K→cellAt K b 16=some vo:=fun K e=>(cellAt_row (gbK K e)).trans t16
 have wst:∀ K v,Ext B K→storeAt K b (7+x3.toNat) [.int .i64 v]=some (K.set b (.row (refL t vc va vr vw vm (s.reg.set x3.toNat v) vq vo n) 0 false)):=fun K v e=>by
  rw[storeAt_row (gbK K e) (by rw[refL_len l8];show 7+x3.toNat+1≤18;omega) rfl,refL_setReg l8 ha8]
 have hTx:TxV (InH B) B t vc va vr vw:=IB.tx C
 have rx:Ext B B:=.refl B
 have kok:∀ {l:List Key} {v:Value},Arg fKey.rep B v l→∀ (n:Nat),n<l.length→fKey.ok (l.getD n key0):=fun hs n hn=>by
  rw[List.getD_eq_getElem?_getD,List.getElem?_eq_getElem hn]
  exact hs.ok _ (List.getElem_mem hn)
 have kat:∀ {l:List Key} {v:Value},Arg fKey.rep B v l→∀ (n:Int),0≤n→n<l.length→∃ id o,dIndexAddr Try.prog 24 v (.int .i64 n)=some (.pointer (some ⟨id,o,none⟩))∧∀ K,Ext B K→cellsAt K id o 2=some (keyV (l.getD n.toNat key0)):=fun {l v} hs n h0 hn=>by
  have hn':n.toNat<l.length:=by omega
  obtain ⟨id,o,e1,hid,hat⟩:=hs.idx (P:=Try.prog) (t:=24) el_24 (k:=.i64) (i:=n.toNat) (x:=l[n.toNat]) (by simp)
  have hnn:((n.toNat:Nat):Int)=n:=by omega
  rw[hnn]at e1
  refine ⟨id,o,e1,fun K e=>?_⟩
  have h2:=hat.flat.2.1
  rw[List.getD_eq_getElem?_getD,List.getElem?_eq_getElem hn']
  unfold cellsAt at h2 ⊢
  rw[e.get _ hid]
  exact h2
 obtain ⟨_,_,himm,himm0,hrd,hwr,har,hop⟩:=hx
 simp only at himm himm0 hrd hwr har hop
 have go:∀ {K:DHeap} {s':RS} {vq' vo':Value} {wq' wo':Option Nat},stepE t m ⟨x1,x2,x3,x4,x5⟩ s=(-1,s',none)→RefI h0 K b t vc va vr vw vm s' n vq' vo' wq' wo'→∃ u,some (Value.int .i64 0)=some u∧R (.ret u) K:=fun E I'=>⟨_,rfl,by rw[← hR];exact ⟨_,_,_,_,_,I',.inl ⟨E,rfl⟩⟩⟩
 have no:∀ {K:DHeap} {s':RS} {vq' vo':Value} {wq' wo':Option Nat},stepE t m ⟨x1,x2,x3,x4,x5⟩ s=(4,s',none)→RefI h0 K b t vc va vr vw vm s' n vq' vo' wq' wo'→∃ u,some (Value.int .i64 4)=some u∧R (.ret u) K:=fun E I'=>⟨_,rfl,by rw[← hR];exact ⟨_,_,_,_,_,I',.inr ⟨E,rfl⟩⟩⟩
 have hcl:(instrV ⟨x1,x2,x3,x4,x5⟩).cells.toList=[.int .i64 x1,.int .i64 x2,.int .i64 x3,.int .i64 x4,.int .i64 x5]:=rfl
 have wput:∀ (h2:DHeap) (v:Value),v.cells=#[v]→[v].all Value.oneCell'=true→h2.get b=some (.row (refL t vc va vr vw vm s.reg vq vo n) 0 false)→dStore Try.prog 30 (.pointer (some ⟨b,15,none⟩)) v h2=some (h2.set b (.row (refL t vc va vr vw vm s.reg v vo n) 0 false)):=fun h2 v hv hone g=>by
  rw[st_30 hv,storeAt_row g (by rw[refL_len l8];exact Nat.le_of_ble_eq_true rfl) hone,refL_setW l8]
 simp -implicitDefEqProofs (disch:=first|omega|simp only[go_sem]) only[go_sem,true_and,c72,hcl,← hH]
 refine yr_72_0 rfl ?_
 simp -implicitDefEqProofs (disch:=first|omega|simp only[go_sem]) only[go_sem,true_and,g72_0,q72_0]
 simp -implicitDefEqProofs (disch:=first|omega|simp only[go_sem]) only[go_sem,true_and,← hH2,q3,q4,iab,qb,hbk,hst,a1 B rx]
 by_cases c3:x2=3
 ·obtain ⟨id1,o1,e1,l1⟩:=kat hTx.r x5 (himm0 (by omega)) (hrd (.inl c3))
  simp -implicitDefEqProofs (disch:=first|omega|simp only[go_sem]) only[go_sem,true_and,c3]
  refine yr_72_1 rfl ?_
  simp -implicitDefEqProofs (disch:=first|omega|simp only[go_sem]) only[go_sem,true_and,g72_1,q72_1,a2 B rx,b4 B rx,a4 B rx,e1,l1 B rx]
  refine ycall (refValue_c C IB) ?_
  simp -implicitDefEqProofs (disch:=first|omega|simp only[go_sem]) only[go_sem,true_and,a2 B rx,iaa,wst B _ rx]
  exact go (se3 (x:=⟨x1,x2,x3,x4,x5⟩) c3) (IB.reg C (valE_ok hokm IB.wok))
 by_cases c4:x2=4
 ·obtain ⟨id1,o1,e1,l1⟩:=kat hTx.r x5 (himm0 (by omega)) (hrd (.inr c4))
  simp -implicitDefEqProofs (disch:=first|omega|simp only[go_sem]) only[go_sem,true_and,c4]
  refine yr_72_2 rfl ?_
  simp -implicitDefEqProofs (disch:=first|omega|simp only[go_sem]) only[go_sem,true_and,g72_2,q72_2,b4 B rx,a4 B rx,e1,l1 B rx]
  refine ycall (refValue_c C IB) ?_
  simp -implicitDefEqProofs (disch:=first|omega|simp only[go_sem]) only[go_sem,true_and]
  refine yr_72_3 rfl ?_
  simp -implicitDefEqProofs (disch:=first|omega|simp only[go_sem]) only[go_sem,true_and,g72_3,q72_3,a2 B rx]
  refine ycall truth_r ?_
  simp -implicitDefEqProofs (disch:=first|omega|simp only[go_sem]) only[go_sem,true_and,a2 B rx,iaa,wst B _ rx]
  refine go (se4 (x:=⟨x1,x2,x3,x4,x5⟩) c4) (IB.reg C ?_)
  split
  ·exact inK_i64.2 ⟨by decide,by decide⟩
  ·exact zok
 by_cases c5:x2=5
 ·have hlt:=hwr (.inl c5)
  have i0:0≤x5:=himm0 (by omega)
  have hl:x5.toNat<t.writes.length:=by omega
  obtain ⟨id1,o1,e1,l1⟩:=kat hTx.w x5 i0 hlt
  obtain ⟨k1,hk1⟩:∃ k,t.writes.getD x5.toNat key0=k:=⟨_,rfl⟩
  have hk1ok:fKey.ok k1:=hk1▸kok hTx.w x5.toNat hl
  rw[hk1]at l1
  obtain ⟨vq',h2,e6,c1,on1,gb2,IP⟩:=IB.put C (c:=⟨k1,s.r x3,false⟩) ⟨hk1ok,reg_ok I.ok _,trivial⟩ hwn
  have wp:=wput h2 vq' c1 on1 gb2
  have ep:Ext B (B.push (.row [.int .i32 k1.t,.int .i64 k1.r,.int .i64 (s.r x3),.bool false] 4 false)):=Ext.push1 _ _
  simp -implicitDefEqProofs (disch:=first|omega|simp only[go_sem]) only[go_sem,true_and,c5]
  refine yr_72_4 rfl ?_
  simp -implicitDefEqProofs (disch:=first|omega|simp only[go_sem]) only[go_sem,true_and,g72_4,q72_4,b15 B rx,b5 B rx,a4 B rx,e1,l1 B rx,a2 B rx,iaa,ra B rx,bd_chgS,b15 _ ep,e6,wp]
  exact go (se5 (x:=⟨x1,x2,x3,x4,x5⟩) c5 hk1) IP
 by_cases c6:x2=6
 ·have hlt:=hwr (.inr c6)
  have i0:0≤x5:=himm0 (by omega)
  have hl:x5.toNat<t.writes.length:=by omega
  obtain ⟨id1,o1,e1,l1⟩:=kat hTx.w x5 i0 hlt
  obtain ⟨k1,hk1⟩:∃ k,t.writes.getD x5.toNat key0=k:=⟨_,rfl⟩
  have hk1ok:fKey.ok k1:=hk1▸kok hTx.w x5.toNat hl
  rw[hk1]at l1
  obtain ⟨vq',h2,e6,c1,on1,gb2,IP⟩:=IB.put C (c:=⟨k1,0,true⟩) ⟨hk1ok,zok,trivial⟩ hwn
  have wp:=wput h2 vq' c1 on1 gb2
  have ep:Ext B (B.push (.row [.int .i32 k1.t,.int .i64 k1.r,.int .i64 0,.bool true] 4 false)):=Ext.push1 _ _
  simp -implicitDefEqProofs (disch:=first|omega|simp only[go_sem]) only[go_sem,true_and,c6]
  refine yr_72_5 rfl ?_
  simp -implicitDefEqProofs (disch:=first|omega|simp only[go_sem]) only[go_sem,true_and,g72_5,q72_5,b15 B rx,b5 B rx,a4 B rx,e1,l1 B rx,bd_chgE,b15 _ ep,e6,wp]
  exact go (se6 (x:=⟨x1,x2,x3,x4,x5⟩) c6 hk1) IP
 by_cases c26:x2=26
 ·simp -implicitDefEqProofs (disch:=first|omega|simp only[go_sem]) only[go_sem,true_and,c26]
  refine yr_72_6 rfl ?_
  simp -implicitDefEqProofs (disch:=first|omega|simp only[go_sem]) only[go_sem,true_and,g72_6,q72_6,b4 B rx,lk B rx]
  refine ycall (has_r hTx.r (by have:=C.len.r;omega)) ?_
  by_cases hm':k∈t.reads
  ·have hmd:=decide_eq_true hm'
   simp -implicitDefEqProofs (disch:=first|omega|simp only[go_sem]) only[go_sem,true_and,hmd]
   refine yr_72_7 rfl ?_
   simp -implicitDefEqProofs (disch:=first|omega|simp only[go_sem]) only[go_sem,true_and,g72_7,q72_7,a2 B rx,lk B rx]
   refine ycall (refValue_c C IB) ?_
   simp -implicitDefEqProofs (disch:=first|omega|simp only[go_sem]) only[go_sem,true_and,a2 B rx,iaa,wst B _ rx]
   exact go (se26 (x:=⟨x1,x2,x3,x4,x5⟩) c26 hfar hm') (IB.reg C (valE_ok hokm IB.wok))
  ·have hmd:=decide_eq_false hm'
   simp -implicitDefEqProofs (disch:=first|omega|simp only[go_sem]) only[go_sem,true_and,hmd]
   exact no (se26f (x:=⟨x1,x2,x3,x4,x5⟩) c26 hfar hm') IB
 by_cases c27:x2=27
 ·simp -implicitDefEqProofs (disch:=first|omega|simp only[go_sem]) only[go_sem,true_and,c27]
  refine yr_72_8 rfl ?_
  simp -implicitDefEqProofs (disch:=first|omega|simp only[go_sem]) only[go_sem,true_and,g72_8,q72_8,b5 B rx,lk B rx]
  refine ycall (has_r hTx.w (by have:=C.len.w;omega)) ?_
  by_cases hm':k∈t.writes
  ·have hmd:=decide_eq_true hm'
   obtain ⟨vq',h2,e6,c1,on1,gb2,IP⟩:=IB.put C (c:=⟨k,s.r x3,false⟩) ⟨hkok,reg_ok I.ok _,trivial⟩ hwn
   have wp:=wput h2 vq' c1 on1 gb2
   have ep:Ext B (B.push (.row [.int .i32 k.t,.int .i64 k.r,.int .i64 (s.r x3),.bool false] 4 false)):=Ext.push1 _ _
   simp -implicitDefEqProofs (disch:=first|omega|simp only[go_sem]) only[go_sem,true_and,hmd]
   refine yr_72_9 rfl ?_
   simp -implicitDefEqProofs (disch:=first|omega|simp only[go_sem]) only[go_sem,true_and,g72_9,q72_9,b15 B rx,lk B rx,a2 B rx,iaa,ra B rx,bd_chgS,b15 _ ep,e6,wp]
   exact go (se27 (x:=⟨x1,x2,x3,x4,x5⟩) c27 hfar hm') IP
  ·have hmd:=decide_eq_false hm'
   simp -implicitDefEqProofs (disch:=first|omega|simp only[go_sem]) only[go_sem,true_and,hmd]
   exact no (se27f (x:=⟨x1,x2,x3,x4,x5⟩) c27 hfar hm') IB
 exfalso
 simp only at hT
 omega
set_option maxHeartbeats 4000000 in
theorem refStep_c {h0 h:DHeap} {b:Nat} {t:Txn} {vc va vr vw vm vq vo:Value} {m:List Pair} {s:RS} {n nx:Int} {wq wo:Option Nat} {x:Instr} (C:RefC h0 b t vc va vr vw vm m) (I:RefI h0 h b t vc va vr vw vm s n vq vo wq wo) (hx:InsOk t x) (hwn:s.w.length<8192) (hokm:∀ p∈m,fPair.ok p) :
 Ct Try.prog 43 [.pointer (some ⟨b,0,none⟩),instrV x,.int .i64 nx] h (StepR h0 b t vc va vr vw vm m x s nx):=by
 have hx0:=hx
 obtain ⟨x1,x2,x3,x4,x5⟩:=x
 obtain ⟨R,hR⟩:∃ R,StepR h0 b t vc va vr vw vm m ⟨x1,x2,x3,x4,x5⟩ s nx=R:=⟨_,rfl⟩
 rw[hR]
 refine go_43 (by simp) ?_
 obtain ⟨H,hH⟩:∃ H,H=h.push (.row [.int .i64 x1,.int .i64 x2,.int .i64 x3,.int .i64 x4,.int .i64 x5] 0 false):=⟨_,rfl⟩
 have hE:Ext h H:=by rw[hH];exact Ext.push1 _ _
 have gH:H.get h.next=some (.row [.int .i64 x1,.int .i64 x2,.int .i64 x3,.int .i64 x4,.int .i64 x5] 0 false):=by rw[hH];exact get_push_same _ _
 have hHn:H.next=h.next+1:=by rw[hH];rfl
 have l8:=I.len
 have hbn:b<h.next:=Nat.lt_of_lt_of_le C.lb I.kp.next
 obtain ⟨t6,t15,t16,t17⟩:=refL_tail (t:=t) (vc:=vc) (va:=va) (vr:=vr) (vw:=vw) (vm:=vm) (g:=s.reg) (vq:=vq) (vo:=vo) (n:=nx) l8
 have ha8:x3.toNat<8:=by have:=hx.a;simp only at this;omega
 have hb8:x4.toNat<8:=by have:=hx.b;simp only at this;omega
 have iaa:=ia_regs (id:=b) (o:=7) hx.a.1 hx.a.2
 have iab:=ia_regs (id:=b) (o:=7) hx.b.1 hx.b.2
 simp only at iaa iab
 have zok:inK .i64 0:=inK_i64.2 ⟨by decide,by decide⟩
 have iok:inK .i64 x5:=by have:=hx.imm;simp only at this;exact inK_i64.2 ⟨by omega,by omega⟩
 have IH:=I.ext C hE
 obtain ⟨B,hB⟩:∃ K,K=H.set b (.row (refL t vc va vr vw vm s.reg vq vo nx) 0 false):=⟨_,rfl⟩
 have IB:RefI h0 B b t vc va vr vw vm s nx vq vo wq wo:=hB▸IH.at' C nx
 have hst:storeAt H b 17 [.int .i64 nx]=some B:=by
  rw[storeAt_row IH.row (by rw[refL_len l8];exact Nat.le_of_ble_eq_true rfl) rfl,refL_setAt l8,hB]
 have gx:B.get h.next=some (.row [.int .i64 x1,.int .i64 x2,.int .i64 x3,.int .i64 x4,.int .i64 x5] 0 false):=by rw[hB];exact (get_set_other _ _ (by omega)).trans gH
 have hBn:B.next=h.next+1:=by rw[hB];exact hHn
 have a1:∀ K,Ext B K→cellAt K h.next 1=some (.int .i64 x2):=fun K e=>cellAt_row ((e.get _ (by omega)).trans gx)
 have a2:∀ K,Ext B K→cellAt K h.next 2=some (.int .i64 x3):=fun K e=>cellAt_row ((e.get _ (by omega)).trans gx)
 have a3:∀ K,Ext B K→cellAt K h.next 3=some (.int .i64 x4):=fun K e=>cellAt_row ((e.get _ (by omega)).trans gx)
 have a4:∀ K,Ext B K→cellAt K h.next 4=some (.int .i64 x5):=fun K e=>cellAt_row ((e.get _ (by omega)).trans gx)
 have gbK:∀ K,Ext B K→K.get b=some (.row (refL t vc va vr vw vm s.reg vq vo nx) 0 false):=fun K e=>(e.get _ (by omega)).trans IB.row
 have ra:∀ K,Ext B K→cellAt K b (7+x3.toNat)=some (.int .i64 (s.r x3)):=fun K e=>(cellAt_row (gbK K e)).trans (refL_reg l8 ha8)
 have rb:∀ K,Ext B K→cellAt K b (7+x4.toNat)=some (.int .i64 (s.r x4)):=fun K e=>(cellAt_row (gbK K e)).trans (refL_reg l8 hb8)
 have b3:∀ K,Ext B K→cellAt K b 3=some va:=fun K e=>cellAt_row (gbK K e)
 have b4:∀ K,Ext B K→cellAt K b 4=some vr:=fun K e=>cellAt_row (gbK K e)
 have b5:∀ K,Ext B K→cellAt K b 5=some vw:=fun K e=>cellAt_row (gbK K e)
 have b15:∀ K,Ext B K→cellAt K b 15=some vq:=fun K e=>(cellAt_row (gbK K e)).trans t15
 have b16:∀ K,Ext B K→cellAt K b 16=some vo:=fun K e=>(cellAt_row (gbK K e)).trans t16
 have wst:∀ K v,Ext B K→storeAt K b (7+x3.toNat) [.int .i64 v]=some (K.set b (.row (refL t vc va vr vw vm (s.reg.set x3.toNat v) vq vo nx) 0 false)):=fun K v e=>by
  rw[storeAt_row (gbK K e) (by rw[refL_len l8];show 7+x3.toNat+1≤18;omega) rfl,refL_setReg l8 ha8]
 have hTx:TxV (InH B) B t vc va vr vw:=IB.tx C
 have rx:Ext B B:=.refl B
 have kok:∀ {l:List Key} {v:Value},Arg fKey.rep B v l→∀ (n:Nat),n<l.length→fKey.ok (l.getD n key0):=fun hs n hn=>by
  rw[List.getD_eq_getElem?_getD,List.getElem?_eq_getElem hn]
  exact hs.ok _ (List.getElem_mem hn)
 have kat:∀ {l:List Key} {v:Value},Arg fKey.rep B v l→∀ (n:Int),0≤n→n<l.length→∃ id o,dIndexAddr Try.prog 24 v (.int .i64 n)=some (.pointer (some ⟨id,o,none⟩))∧∀ K,Ext B K→cellsAt K id o 2=some (keyV (l.getD n.toNat key0)):=fun {l v} hs n h0 hn=>by
  have hn':n.toNat<l.length:=by omega
  obtain ⟨id,o,e1,hid,hat⟩:=hs.idx (P:=Try.prog) (t:=24) el_24 (k:=.i64) (i:=n.toNat) (x:=l[n.toNat]) (by simp)
  have hnn:((n.toNat:Nat):Int)=n:=by omega
  rw[hnn]at e1
  refine ⟨id,o,e1,fun K e=>?_⟩
  have h2:=hat.flat.2.1
  rw[List.getD_eq_getElem?_getD,List.getElem?_eq_getElem hn']
  unfold cellsAt at h2 ⊢
  rw[e.get _ hid]
  exact h2
 obtain ⟨_,_,himm,himm0,hrd,hwr,har,hop⟩:=hx
 simp only at himm himm0 hrd hwr har hop
 have go:∀ {K:DHeap} {s':RS} {vq' vo':Value} {wq' wo':Option Nat},stepE t m ⟨x1,x2,x3,x4,x5⟩ s=(-1,s',none)→RefI h0 K b t vc va vr vw vm s' nx vq' vo' wq' wo'→∃ u,some (Value.tuple #[.bool false,.int .i64 0])=some u∧R (.ret u) K:=fun E I'=>⟨_,rfl,by rw[← hR];exact .go E I'⟩
 have no:∀ {K:DHeap} {s':RS} {e:Int} {vq' vo':Value} {wq' wo':Option Nat},stepE t m ⟨x1,x2,x3,x4,x5⟩ s=(e,s',none)→e ≠ -1→RefI h0 K b t vc va vr vw vm s' nx vq' vo' wq' wo'→∃ u,some (Value.tuple #[.bool true,.int .i64 e])=some u∧R (.ret u) K:=fun E he I'=>⟨_,rfl,by rw[← hR];exact .stop E he I'⟩
 have hcl:(instrV ⟨x1,x2,x3,x4,x5⟩).cells.toList=[.int .i64 x1,.int .i64 x2,.int .i64 x3,.int .i64 x4,.int .i64 x5]:=rfl
 have lx:cellsAt B h.next 0 5=some (instrV ⟨x1,x2,x3,x4,x5⟩):=by rw[cellsAt_row gx (Nat.le_of_ble_eq_true rfl)];rfl
 simp -implicitDefEqProofs (disch:=first|omega|simp only[go_sem]) only[go_sem,true_and,c43,hcl,← hH,hst,a1 B rx]
 by_cases c0:x2=0
 ·simp -implicitDefEqProofs (disch:=first|omega|simp only[go_sem]) only[go_sem,true_and,c0]
  exact no (se0 (x:=⟨x1,x2,x3,x4,x5⟩) c0) (by decide) IB
 by_cases c1:x2=1
 ·simp -implicitDefEqProofs (disch:=first|omega|simp only[go_sem]) only[go_sem,true_and,c1]
  refine yr_43_0 rfl ?_
  simp -implicitDefEqProofs (disch:=first|omega|simp only[go_sem]) only[go_sem,true_and,g43_0,q43_0,a2 B rx,a4 B rx,iaa,wst B _ rx]
  exact go (se1 (x:=⟨x1,x2,x3,x4,x5⟩) c1) (IB.reg C iok)
 by_cases c2:x2=2
 ·have i0:0≤x5:=himm0 (by omega)
  have hl:x5.toNat<t.args.length:=by have:=har c2;omega
  obtain ⟨id1,o1,e1,_,hat1⟩:=hTx.a.idx (P:=Try.prog) (t:=23) el_23 (k:=.i64) (i:=x5.toNat) (x:=t.args[x5.toNat]) (by simp)
  rw[show ((x5.toNat:Nat):Int)=x5 by omega]at e1
  have l1:cellAt B id1 o1=some (.int .i64 (t.args.getD x5.toNat 0)):=by
   rw[List.getD_eq_getElem?_getD,List.getElem?_eq_getElem hl]
   exact hat1.int
  have hok:inK .i64 (t.args.getD x5.toNat 0):=by
   rw[List.getD_eq_getElem?_getD,List.getElem?_eq_getElem hl]
   exact hTx.a.ok _ (List.getElem_mem hl)
  simp -implicitDefEqProofs (disch:=first|omega|simp only[go_sem]) only[go_sem,true_and,c2]
  refine yr_43_1 rfl ?_
  simp -implicitDefEqProofs (disch:=first|omega|simp only[go_sem]) only[go_sem,true_and,g43_1,q43_1,a2 B rx,a4 B rx,b3 B rx,e1,l1,iaa,wst B _ rx]
  exact go (se2 (x:=⟨x1,x2,x3,x4,x5⟩) c2) (IB.reg C hok)
 by_cases c7:x2=7
 ·simp -implicitDefEqProofs (disch:=first|omega|simp only[go_sem]) only[go_sem,true_and,c7]
  refine yr_43_2 rfl ?_
  simp -implicitDefEqProofs (disch:=first|omega|simp only[go_sem]) only[go_sem,true_and,g43_2,q43_2,a2 B rx,a3 B rx,iaa,iab,rb B rx,wst B _ rx]
  exact go (se7 (x:=⟨x1,x2,x3,x4,x5⟩) c7) (IB.reg C (reg_ok I.ok _))
 by_cases c19:x2=19
 ·simp -implicitDefEqProofs (disch:=first|omega|simp only[go_sem]) only[go_sem,true_and,c19]
  refine yr_43_3 rfl ?_
  simp -implicitDefEqProofs (disch:=first|omega|simp only[go_sem]) only[go_sem,true_and,g43_3,q43_3,a2 B rx,a4 B rx,iaa,ra B rx]
  refine ycall narrow_r ?_
  simp -implicitDefEqProofs (disch:=first|omega|simp only[go_sem]) only[go_sem,true_and,a2 B rx,iaa,wst B _ rx]
  exact go (se19 (x:=⟨x1,x2,x3,x4,x5⟩) c19) (IB.reg C (narrow_ok (reg_ok I.ok _)))
 by_cases c22:x2=22
 ·have hsj:storeAt B b 17 [.int .i64 x5]=some (B.set b (.row (refL t vc va vr vw vm s.reg vq vo x5) 0 false)):=by
   rw[storeAt_row IB.row (by rw[refL_len l8];exact Nat.le_of_ble_eq_true rfl) rfl,refL_setAt l8]
  simp -implicitDefEqProofs (disch:=first|omega|simp only[go_sem]) only[go_sem,true_and,c22,a4 B rx,hsj]
  exact ⟨_,rfl,by rw[← hR];exact .jump (se22 (x:=⟨x1,x2,x3,x4,x5⟩) c22) (IB.at' C x5)⟩
 by_cases c23:x2=23
 ·have hsj:storeAt B b 17 [.int .i64 x5]=some (B.set b (.row (refL t vc va vr vw vm s.reg vq vo x5) 0 false)):=by
   rw[storeAt_row IB.row (by rw[refL_len l8];exact Nat.le_of_ble_eq_true rfl) rfl,refL_setAt l8]
  simp -implicitDefEqProofs (disch:=first|omega|simp only[go_sem]) only[go_sem,true_and,c23]
  refine yr_43_4 rfl ?_
  simp -implicitDefEqProofs (disch:=first|omega|simp only[go_sem]) only[go_sem,true_and,g43_4,q43_4,a2 B rx,iaa,ra B rx]
  by_cases z:s.r x3=0
  ·simp -implicitDefEqProofs (disch:=first|omega|simp only[go_sem]) only[go_sem,true_and,z]
   exact go (se23z (x:=⟨x1,x2,x3,x4,x5⟩) c23 z) IB
  ·simp -implicitDefEqProofs (disch:=first|omega|simp only[go_sem]) only[go_sem,true_and,z,a4 B rx,hsj]
   exact ⟨_,rfl,by rw[← hR];exact .jump (se23 (x:=⟨x1,x2,x3,x4,x5⟩) c23 z) (IB.at' C x5)⟩
 by_cases c24:x2=24
 ·have lo:∀ K,dLen Try.prog #[23] vo K=some (.int .i64 (s.out.length:Nat)):=IB.o.sl.lens (P:=Try.prog) (ts:=#[23]) (t:=23) rfl isl_23
  by_cases z:8≤s.out.length
  ·have z':=eq_true (show (8:Int)≤(s.out.length:Nat) by omega)
   simp -implicitDefEqProofs (disch:=first|omega|simp only[go_sem]) only[go_sem,true_and,c24,b16 B rx,lo,z']
   exact no (se24f (x:=⟨x1,x2,x3,x4,x5⟩) c24 z) (by decide) IB
  ·have z':¬ (8:Int)≤(s.out.length:Nat):=by omega
   obtain ⟨vo',h2,e6,c1,on1,gb2,IP⟩:=IB.ans C (y:=s.r x3) (reg_ok I.ok _) (by omega)
   have wp:dStore Try.prog 23 (.pointer (some ⟨b,16,none⟩)) vo' h2=some (h2.set b (.row (refL t vc va vr vw vm s.reg vq vo' nx) 0 false)):=by
    rw[st_23 c1,storeAt_row gb2 (by rw[refL_len l8];exact Nat.le_of_ble_eq_true rfl) on1,refL_setOut l8]
   have ep:Ext B (B.push (.row [.int .i64 (s.r x3)] 1 false)):=Ext.push1 _ _
   simp -implicitDefEqProofs (disch:=first|omega|simp only[go_sem]) only[go_sem,true_and,c24,b16 B rx,lo,z']
   refine yr_43_5 rfl ?_
   simp -implicitDefEqProofs (disch:=first|omega|simp only[go_sem]) only[go_sem,true_and,g43_5,q43_5,b16 B rx,a2 B rx,iaa,ra B rx,b16 _ ep,e6,wp]
   exact go (se24 (x:=⟨x1,x2,x3,x4,x5⟩) c24 z) IP
 by_cases c25:x2=25
 ·have i0:0≤x5:=himm0 (by omega)
  have hwp:IntKind.i64.wrap (100+x5)=100+x5:=wrap_i64_in (by omega) (by omega)
  simp -implicitDefEqProofs (disch:=first|omega|simp only[go_sem]) only[go_sem,true_and,c25]
  refine yr_43_6 rfl ?_
  simp -implicitDefEqProofs (disch:=first|omega|simp only[go_sem]) only[go_sem,true_and,g43_6,q43_6,a4 B rx,hwp]
  exact no (se25 (x:=⟨x1,x2,x3,x4,x5⟩) c25) (by omega) IB
 have tch:(x2=3∨x2=4∨x2=5∨x2=6∨x2=26∨x2=27)→Ct Try.prog 72 [.pointer (some ⟨b,0,none⟩),instrV ⟨x1,x2,x3,x4,x5⟩] B (TouchP h0 b t vc va vr vw vm m ⟨x1,x2,x3,x4,x5⟩ s nx):=fun h=>touch_c C IB hx0 hwn h hokm
 by_cases c3:x2=3
 ·have tc:=tch (by omega)
  rw[c3]at tc lx
  simp -implicitDefEqProofs (disch:=first|omega|simp only[go_sem]) only[go_sem,true_and,c3,lx]
  refine ncall_ct tc ?_
  rintro r K ⟨s',vq',vo',wq',wo',I',h | h⟩
  ·obtain ⟨E,rfl⟩:=h
   simp -implicitDefEqProofs (disch:=first|omega|simp only[go_sem]) only[go_sem,true_and,XEnd]
   exact go (by rw[c3];exact E) I'
  ·obtain ⟨E,rfl⟩:=h
   simp -implicitDefEqProofs (disch:=first|omega|simp only[go_sem]) only[go_sem,true_and,XEnd]
   exact no (by rw[c3];exact E) (by decide) I'
 by_cases c4:x2=4
 ·have tc:=tch (by omega)
  rw[c4]at tc lx
  simp -implicitDefEqProofs (disch:=first|omega|simp only[go_sem]) only[go_sem,true_and,c4,lx]
  refine ncall_ct tc ?_
  rintro r K ⟨s',vq',vo',wq',wo',I',h | h⟩
  ·obtain ⟨E,rfl⟩:=h
   simp -implicitDefEqProofs (disch:=first|omega|simp only[go_sem]) only[go_sem,true_and,XEnd]
   exact go (by rw[c4];exact E) I'
  ·obtain ⟨E,rfl⟩:=h
   simp -implicitDefEqProofs (disch:=first|omega|simp only[go_sem]) only[go_sem,true_and,XEnd]
   exact no (by rw[c4];exact E) (by decide) I'
 by_cases c5:x2=5
 ·have tc:=tch (by omega)
  rw[c5]at tc lx
  simp -implicitDefEqProofs (disch:=first|omega|simp only[go_sem]) only[go_sem,true_and,c5,lx]
  refine ncall_ct tc ?_
  rintro r K ⟨s',vq',vo',wq',wo',I',h | h⟩
  ·obtain ⟨E,rfl⟩:=h
   simp -implicitDefEqProofs (disch:=first|omega|simp only[go_sem]) only[go_sem,true_and,XEnd]
   exact go (by rw[c5];exact E) I'
  ·obtain ⟨E,rfl⟩:=h
   simp -implicitDefEqProofs (disch:=first|omega|simp only[go_sem]) only[go_sem,true_and,XEnd]
   exact no (by rw[c5];exact E) (by decide) I'
 by_cases c6:x2=6
 ·have tc:=tch (by omega)
  rw[c6]at tc lx
  simp -implicitDefEqProofs (disch:=first|omega|simp only[go_sem]) only[go_sem,true_and,c6,lx]
  refine ncall_ct tc ?_
  rintro r K ⟨s',vq',vo',wq',wo',I',h | h⟩
  ·obtain ⟨E,rfl⟩:=h
   simp -implicitDefEqProofs (disch:=first|omega|simp only[go_sem]) only[go_sem,true_and,XEnd]
   exact go (by rw[c6];exact E) I'
  ·obtain ⟨E,rfl⟩:=h
   simp -implicitDefEqProofs (disch:=first|omega|simp only[go_sem]) only[go_sem,true_and,XEnd]
   exact no (by rw[c6];exact E) (by decide) I'
 by_cases c26:x2=26
 ·have tc:=tch (by omega)
  rw[c26]at tc lx
  simp -implicitDefEqProofs (disch:=first|omega|simp only[go_sem]) only[go_sem,true_and,c26,lx]
  refine ncall_ct tc ?_
  rintro r K ⟨s',vq',vo',wq',wo',I',h | h⟩
  ·obtain ⟨E,rfl⟩:=h
   simp -implicitDefEqProofs (disch:=first|omega|simp only[go_sem]) only[go_sem,true_and,XEnd]
   exact go (by rw[c26];exact E) I'
  ·obtain ⟨E,rfl⟩:=h
   simp -implicitDefEqProofs (disch:=first|omega|simp only[go_sem]) only[go_sem,true_and,XEnd]
   exact no (by rw[c26];exact E) (by decide) I'
 by_cases c27:x2=27
 ·have tc:=tch (by omega)
  rw[c27]at tc lx
  simp -implicitDefEqProofs (disch:=first|omega|simp only[go_sem]) only[go_sem,true_and,c27,lx]
  refine ncall_ct tc ?_
  rintro r K ⟨s',vq',vo',wq',wo',I',h | h⟩
  ·obtain ⟨E,rfl⟩:=h
   simp -implicitDefEqProofs (disch:=first|omega|simp only[go_sem]) only[go_sem,true_and,XEnd]
   exact go (by rw[c27];exact E) I'
  ·obtain ⟨E,rfl⟩:=h
   simp -implicitDefEqProofs (disch:=first|omega|simp only[go_sem]) only[go_sem,true_and,XEnd]
   exact no (by rw[c27];exact E) (by decide) I'
 obtain ⟨k1,k2⟩:=bin2_ok (o:=x2) (b:=s.r x4) (reg_ok I.ok x3)
 have hpl:plainOp x2:=⟨c0,c1,c2,c7,c3,c4,c5,c6,c19,c22,c23,c24,c25,c26,c27⟩
 simp -implicitDefEqProofs (disch:=first|omega|simp only[go_sem]) only[go_sem,true_and,c0,c1,c2,c7,c3,c4,c5,c6,c19,c22,c23,c24,c25,c26,c27]
 refine yr_43_7 rfl ?_
 simp -implicitDefEqProofs (disch:=first|omega|simp only[go_sem]) only[go_sem,true_and,g43_7,q43_7,a1 B rx,a2 B rx,a3 B rx,iaa,iab,ra B rx,rb B rx]
 refine ycall binary_r ?_
 by_cases z:(bin2 x2 (s.r x3) (s.r x4)).2=0
 ·simp -implicitDefEqProofs (disch:=first|omega|simp only[go_sem]) only[go_sem,true_and,bin2V,z]
  refine yr_43_8 rfl ?_
  simp -implicitDefEqProofs (disch:=first|omega|simp only[go_sem]) only[go_sem,true_and,g43_8,q43_8,a2 B rx,iaa,wst B _ rx]
  exact go ((seb (x:=⟨x1,x2,x3,x4,x5⟩) hpl).trans (if_pos z)) (IB.reg C k1)
 ·simp -implicitDefEqProofs (disch:=first|omega|simp only[go_sem]) only[go_sem,true_and,bin2V,z]
  exact no ((seb (x:=⟨x1,x2,x3,x4,x5⟩) hpl).trans (if_neg z)) (by omega) IB
end Go.Proofs.Ythjmkmoiopmfcaa

namespace Go.Proofs.Ythjmkmoiopmfcaa
open Go.D
set_option maxRecDepth 100000
theorem bd_refrun {t:Txn} {vc va vr vw w:Value} (hw:w.cells=#[w]):dBuild Try.prog 87 [(0,txnV t.ses t.req vc va vr vw),(1,w)]=some (.agg (refL t vc va vr vw w [0,0,0,0,0,0,0,0] nilV0 nilV0 0).toArray):=dBuild_at plc_87 (by simp[fillL,hw,setAt,refL,cells_agg])
theorem bd_o3 {k:Int} {u w:Value} (hu:u.cells=#[u]) (hw:w.cells=#[w]):dBuild Try.prog 32 [(1,u),(2,w),(3,.int .i64 k)]=some (.agg #[.int .i64 0,u,w,.int .i64 k]):=dBuild_at plc_32 (by simp[fillL,hu,hw,setAt,cells_int])
theorem fuel_ok2 (f:Int):min (max f 0) 4096=(fuelN f:Nat):=by unfold fuelN;omega
set_option maxHeartbeats 4000000 in
theorem refRun_c {h:DHeap} {t:Txn} {vc va vr vw v:Value} {l:List Pair} {f:Int} (x:TxV (InH h) h t vc va vr vw) (hT:TxLen t) (hb:Arg fPair.rep h v l) (hl:l.length≤1048576) :
 Ct Try.prog 14 [txnV t.ses t.req vc va vr vw,v,.int .i64 f] h (RunR h (runE t l f)):=by
 obtain ⟨R,hR⟩:∃ R,RunR h (runE t l f)=R:=⟨_,rfl⟩
 rw[hR]
 refine go_14 (by simp) ?_
 have hcl:(txnV t.ses t.req vc va vr vw).cells.toList=[.int .i64 t.ses,.int .i64 t.req,vc,va,vr,vw]:=rfl
 obtain ⟨H1,hH1⟩:∃ H,h.push (.row [.int .i64 t.ses,.int .i64 t.req,vc,va,vr,vw] 0 false)=H:=⟨_,rfl⟩
 have g1:H1.get h.next=some (.row [.int .i64 t.ses,.int .i64 t.req,vc,va,vr,vw] 0 false):=by rw[← hH1];exact get_push_same _ _
 have n1:H1.next=h.next+1:=by rw[← hH1];rfl
 have e1:Ext h H1:=by rw[← hH1];exact Ext.push1 _ _
 obtain ⟨H2,hH2⟩:∃ H,H1.push (.row [.int .i64 0,nilV0,nilV0,.int .i64 0] 0 false)=H:=⟨_,rfl⟩
 have g2:H2.get H1.next=some (.row [.int .i64 0,nilV0,nilV0,.int .i64 0] 0 false):=by rw[← hH2];exact get_push_same _ _
 have n2:H2.next=h.next+2:=by rw[← hH2,next_push,n1]
 have e12:Ext H1 H2:=by rw[← hH2];exact Ext.push1 _ _
 have e2:Ext h H2:=e1.trans e12
 have lt:∀ K,Ext H2 K→cellsAt K h.next 0 6=some (txnV t.ses t.req vc va vr vw):=fun K e=>by
  rw[cellsAt_row ((e.get _ (by omega)).trans ((e12.get _ (by omega)).trans g1)) (Nat.le_of_ble_eq_true rfl)]
  rfl
 have hby:=bytes_le x.c
 have x2:TxV (InH H2) H2 t vc va vr vw:=x.ext e2
 have res:∀ (K:DHeap) (e k:Int) (u w:Value),u.cells=#[u]→w.cells=#[w]→[Value.int .i64 e,u,w,.int .i64 k].all Value.oneCell'=true→K.get H1.next=some (.row [.int .i64 0,nilV0,nilV0,.int .i64 0] 0 false) →
  ∃ K',storeAt K H1.next 0 [.int .i64 e,u,w,.int .i64 k]=some K'∧cellsAt K' H1.next 0 4=some (.agg #[.int .i64 e,u,w,.int .i64 k])∧∃ o,K'=K.set H1.next o:=fun K e k u w hu hw ho g=>by
  refine ⟨_,storeAt_row g (Nat.le_of_ble_eq_true rfl) ho,?_,_,rfl⟩
  rw[cellsAt_row (get_set_same _ _) (Nat.le_of_ble_eq_true rfl)]
  rfl
 simp -implicitDefEqProofs (disch:=first|omega|simp only[go_sem]) only[go_sem,true_and,c14,hcl,hH1,hH2,lt H2 (.refl _)]
 refine ncall (refCheckT_c x2.c x2.a x2.r x2.w hT.c) ?_
 by_cases hz:txnE t=0
 case neg=>
  obtain ⟨K',s1,s2,o,rfl⟩:=res H2 1 0 nilV0 nilV0 rfl rfl rfl g2
  simp -implicitDefEqProofs (disch:=first|omega|simp only[go_sem]) only[go_sem,true_and,hz,bd_o1,s1,dResults_c1,dResC_some,s2]
  refine ⟨_,rfl,?_⟩
  rw[← hR]
  exact RunR.none (e2.set (by omega)) (by unfold runE;rw[if_pos hz])
 obtain ⟨hdec,_,hna,hnr,hnw⟩:=txn_ok hz
 simp -implicitDefEqProofs (disch:=first|omega|simp only[go_sem]) only[go_sem,true_and,hz]
 refine yr_14_0 rfl ?_
 simp -implicitDefEqProofs (disch:=first|omega|simp only[go_sem]) only[go_sem,true_and,g14_0,q14_0,lt H2 (.refl _)]
 refine ycall_ct (refNeeds_c x2 (hb.ext e2) hl (by have:=hT.r;omega)) ?_
 rintro r Y ⟨wn,rfl,mn⟩
 obtain ⟨ns,hns⟩:∃ ns,needsN t l=ns:=⟨_,rfl⟩
 rw[hns]at mn
 have hnsl:ns.length≤1048576:=by
  have h1:=List.length_filter_le (fun p:Pair=>decide (p.k∈t.reads)) (byK Pair.k l)
  have h2:=byK_len (key:=Pair.k) l
  rw[← hns]
  unfold needsN
  omega
 have eY:=mn.ext
 have nY:=eY.next
 have hwc:wn.cells=#[wn]:=mn.sl.cells1
 obtain ⟨Z,hZ⟩:∃ H,Y.push (.row (refL t vc va vr vw wn [0,0,0,0,0,0,0,0] nilV0 nilV0 0) 0 false)=H:=⟨_,rfl⟩
 have gZ:Z.get Y.next=some (.row (refL t vc va vr vw wn [0,0,0,0,0,0,0,0] nilV0 nilV0 0) 0 false):=by rw[← hZ];exact get_push_same _ _
 have eZ0:Ext Y Z:=hZ▸Ext.push1 _ _
 have nZ:Z.next=Y.next+1:=by rw[← hZ];rfl
 have eHZ:Ext h Z:=(e2.trans eY).trans eZ0
 have C:RefC Z Y.next t vc va vr vw wn ns:={
  lb:=by omega
  tx:=x.mono fun i hi=>⟨⟨by have:i<h.next:=hi;omega,by have:i<h.next:=hi;omega⟩,eHZ.get i hi⟩
  len:=hT
  sm:=mn.sl.mono fun i hi=>⟨⟨by omega,by omega⟩,eZ0.get _ hi.2⟩
  lm:=hnsl
  up:=hns▸needsN_up }
 have I0:RefI Z Z Y.next t vc va vr vw wn rs0 0 nilV0 nilV0 none none:=⟨.refl _ _,gZ,Owns.nil _ _ _,Owns.nil _ _ _,fun i hi=>(by cases hi),fun i hi=>(by cases hi),rfl,fun n hn=>by
  have:n=0:=by simpa [rs0] using hn
  subst this
  exact inK_i64.2 ⟨by decide,by decide⟩,by decide,by decide⟩
 have eZ:∀ K,KpD (fun i=>i=Y.next) Z K→Ext h K:=fun K k=>k.toExt eHZ fun i hi=>by omega
 have rZ:∀ K,KpD (fun i=>i=Y.next) Z K→K.get H1.next=some (.row [.int .i64 0,nilV0,nilV0,.int .i64 0] 0 false):=fun K k=>
  (k.get _ (by omega) (by omega)).trans ((eZ0.get _ (by omega)).trans ((eY.get _ (by omega)).trans g2))
 have tcell:∀ K,KpD (fun i=>i=Y.next) Z K→cellAt K h.next 2=some vc:=fun K k=>
  cellAt_row ((k.get _ (by omega) (by omega)).trans ((eZ0.get _ (by omega)).trans ((eY.get _ (by omega)).trans ((e12.get _ (by omega)).trans g1))))
 obtain ⟨F,hF⟩:∃ F,fuelN f=F:=⟨_,rfl⟩
 have hFl:F≤4096:=hF▸fuelN_le f
 have hfu:min (max f 0) 4096=(F:Nat):=hF▸fuel_ok2 f
 obtain ⟨O,hO⟩:∃ O,runE t l f=O:=⟨_,rfl⟩
 have hO2:runF t ns F 0 0 rs0=O:=by
  rw[← hO]
  unfold runE
  rw[if_neg (fun hh=>hh hz),hns,hF]
 rw[hO]at hR
 have elc:∀ K,dLen Try.prog #[22] vc K=some (.int .i64 (t.code.length:Nat)):=x.c.lens (P:=Try.prog) (ts:=#[22]) (t:=22) rfl isl_22
 have hcl512:=(decL_of hdec).2.2.2
 simp -implicitDefEqProofs (disch:=first|omega|simp only[go_sem]) only[go_sem,true_and,YEnd,lt Y eY,bd_refrun hwc,hZ]
 simp -implicitDefEqProofs (disch:=first|omega|simp only[go_sem]) only[go_sem,true_and,maxR_i64,min_i64,hfu]
 obtain ⟨MM,hMM⟩:∃ MM:St→Prop,MM=fun s=>s.df=[]∧s.rd=none∧s.fr 6=some (.pointer (some ⟨H1.next,0,none⟩))∧s.fr 7=some (.pointer (some ⟨Y.next,0,none⟩))∧∃ (k:Nat) (st:RS) (n:Int) (vq vo:Value) (wq wo:Option Nat),s.fr 9=some (.int .i64 (k:Nat))∧RefI Z s.h Y.next t vc va vr vw wn st n vq vo wq wo∧O=⟨0,st.out,byK Change.k st.w,(k:Nat)⟩:=⟨_,rfl⟩
 refine XLoop_cut MM ?_ ?_
 ·refine xloop (σ:=Nat × Nat × RS) (by kernel_rfl) (fun a s=>s.df=[]∧s.rd=none∧s.fr 3=some (.pointer (some ⟨h.next,0,none⟩))∧s.fr 6=some (.pointer (some ⟨H1.next,0,none⟩))∧s.fr 7=some (.pointer (some ⟨Y.next,0,none⟩))∧s.fr 8=some (.int .i64 (F:Nat))∧s.fr 9=some (.int .i64 (a.1:Nat))∧(∃ vq vo wq wo,RefI Z s.h Y.next t vc va vr vw wn a.2.2 (posN t a.2.1:Nat) vq vo wq wo)∧a.1≤F∧a.2.2.w.length≤a.1∧runF t ns (F - a.1) (posN t a.2.1) a.1 a.2.2=O) (fun a=>F - a.1) (0,0,rs0) ?_ ?_
  ·simp -implicitDefEqProofs (disch:=first|omega|simp only[go_sem]) only[go_sem,true_and]
   exact ⟨by trivial,by rw[code_zero hdec];exact ⟨_,_,_,_,I0⟩,Nat.zero_le _,Nat.le_refl _,by rw[code_zero hdec];exact hO2⟩
  rintro ⟨k,i,st⟩ ⟨fr,df,K,rd⟩ K' hK' hX ⟨rfl,rfl,f3,f6,f7,f8,f9,⟨vq,vo,wq,wo,I⟩,hk,hwl,hrun⟩
  simp only at f3 f6 f7 f8 f9 I hk hwl hrun
  have l8:=I.len
  have c17:cellAt K Y.next 17=some (.int .i64 (posN t i:Nat)):=(cellAt_row I.row).trans (refL_tail l8).2.2.2
  have hYK:Y.next<K.next:=Nat.lt_of_lt_of_le C.lb I.kp.next
  simp -implicitDefEqProofs (disch:=first|omega|simp only[go_sem]) only[go_sem,true_and]
  refine yr_14_1 rfl ?_
  simp -implicitDefEqProofs (disch:=first|omega|simp only[go_sem]) only[go_sem,true_and,g14_1,q14_1,f3,f7,c17,tcell K I.kp,elc]
  refine XIf_dec (fun hc1=>?_) (fun hc1=>?_)
  ·have hp:posN t i<t.code.length:=by omega
   obtain ⟨y,hy⟩:∃ y,(decL t.code)[i]? = some y:=by
    cases hq:(decL t.code)[i]? with
    | some y=>exact ⟨y,rfl⟩
    | none=>
      have:(decL t.code).length≤i:=by
       by_cases hj:i<(decL t.code).length
       ·rw[List.getElem?_eq_getElem hj]at hq;cases hq
       ·omega
      rw[code_end this]at hp
      omega
   obtain ⟨hp1,hp2,hp3,hp4,hp5⟩:=code_at hdec hy
   have hiok:=ins_ok hz hby hy
   by_cases hkF:k=F
   ·have hkF':=eq_true (show ((F:Nat):Int)≤(k:Nat) by omega)
    obtain ⟨K3,s1,s2,o,rfl⟩:=res K 2 k nilV0 nilV0 rfl rfl rfl (rZ K I.kp)
    simp -implicitDefEqProofs (disch:=first|omega|simp only[go_sem]) only[go_sem,true_and,f6,f8,f9,hkF',bd_o2,s1]
    refine hX _ _ (by simp) ?_
    simp -implicitDefEqProofs (disch:=first|omega|simp only[go_sem]) only[go_sem,true_and,f6,dResults_c1,dResC_some,s2]
    refine ⟨_,rfl,?_⟩
    rw[← hR]
    refine RunR.none ((eZ K I.kp).set (by omega)) ?_
    rw[← hrun,hkF,Nat.sub_self]
    exact runF_fuel hp1
   have hkF':¬ ((F:Nat):Int)≤(k:Nat):=by omega
   have hw1:=wrap_succ (i:=k) (n:=F) (by omega) (by omega)
   obtain ⟨o1,o2,o3,_⟩:=oneT_next hp4
   have hT3:oneT t.code (posN t i)=(y,(posN t i:Nat)+sizeI (t.code.getD (posN t i) 0),0):=by
    refine Prod.ext (o1.trans hp2.symm) (Prod.ext o2 hp4)
   obtain ⟨K0,hK0⟩:∃ H,H=K.push (.row [.int .i64 0,.int .i64 0,.int .i64 0,.int .i64 0,.int .i64 0] 0 false):=⟨_,rfl⟩
   have eK0:Ext K K0:=by rw[hK0];exact Ext.push1 _ _
   have gh:K0.get K.next=some (.row [.int .i64 0,.int .i64 0,.int .i64 0,.int .i64 0,.int .i64 0] 0 false):=by rw[hK0];exact get_push_same _ _
   obtain ⟨K1,hK1⟩:∃ H,H=K0.set K.next (.row (fInstr.enc y) 0 false):=⟨_,rfl⟩
   have eK1:Ext K K1:=by rw[hK1];exact eK0.set (Nat.le_refl _)
   have gK1:K1.get K.next=some (.row (fInstr.enc y) 0 false):=by rw[hK1];exact get_set_same _ _
   have hst:dStore Try.prog 83 (.pointer (some ⟨K.next,0,none⟩)) (instrV y) K0=some K1:=by
    rw[hK1]
    exact (st_83 rfl).trans (storeAt_row gh (Nat.le_of_ble_eq_true rfl) rfl)
   have I1:=I.ext C eK1
   have c17':cellAt K0 Y.next 17=some (.int .i64 (posN t i:Nat)):=(cellAt_row ((eK0.get _ hYK).trans I.row)).trans (refL_tail l8).2.2.2
   have tc0:cellAt K0 h.next 2=some vc:=tcell K0 (I.kp.ext eK0)
   have lx:cellsAt K1 K.next 0 5=some (instrV y):=by rw[cellsAt_row gK1 (Nat.le_of_ble_eq_true rfl)];rfl
   have one:=refOne_c (h:=K0) (i:=posN t i) ((x.ext (eZ K0 (I.kp.ext eK0))).c) (by have:=hT.c;omega) (by omega)
   rw[hT3]at one
   simp -implicitDefEqProofs (disch:=first|omega|simp only[go_sem]) only[go_sem,true_and,f8,f9,hkF']
   refine yr_14_2 rfl ?_
   simp -implicitDefEqProofs (disch:=first|omega|simp only[go_sem]) only[go_sem,true_and,g14_2,q14_2]
   simp -implicitDefEqProofs (disch:=first|omega|simp only[go_sem]) only[go_sem,true_and,← hK0,f3,f7,tc0,c17']
   refine ycall one ?_
   simp -implicitDefEqProofs (disch:=first|omega|simp only[go_sem]) only[go_sem,true_and,gh,hst]
   simp -implicitDefEqProofs (disch:=first|omega|simp only[go_sem]) only[go_sem,true_and,f7,f9,hw1,lx]
   refine ncall_ct (refStep_c C I1 hiok (by omega) mn.ok) ?_
   rintro r N ⟨e,s',jo,n',vq',vo',wq',wo',hE,I3,rfl,j1,j2⟩
   have hwl3:=stepE_wlen (t:=t) (m:=ns) (x:=y) (s:=st)
   have hFk:F - k=(F - (k+1))+1:=by omega
   rw[hE]at hwl3
   simp only at hwl3
   rw[hp2]at hE
   by_cases hm1:e=-1
   ·subst hm1
    have hnext:∃ i':Nat,n'=(posN t i':Nat)∧(jo.getD ((posN t i:Nat)+sizeI (t.code.getD (posN t i) 0))).toNat=posN t i':=by
     cases jo with
     | none=>
       refine ⟨i+1,?_,hp5⟩
       rw[j1 rfl,← hp5]
       have:=(sizeI_le (t.code.getD (posN t i) 0)).1
       omega
     | some a=>
       obtain ⟨ha1,ha2⟩:=stepE_j (t:=t) (m:=ns) (x:=y) (s:=st) (a:=a) (by rw[hp2,hE])
       obtain ⟨i',z,q1,q2,q3⟩:=code_jump hdec (List.mem_of_getElem? hy) ha2
       refine ⟨i',?_,?_⟩
       ·rw[j2 a rfl,ha1,← q3]
        obtain ⟨_,_,q,_,_⟩:=code_at hdec q1
        omega
       ·show a.toNat=_
        rw[ha1,q3]
    obtain ⟨i',rfl,hni⟩:=hnext
    simp -implicitDefEqProofs (disch:=first|omega|simp only[go_sem]) only[go_sem,true_and,XEnd,dPick_t,dPick_f]
    refine hK' (k+1,i',s') _ ?_ (by show F - (k+1)<F - k;omega)
    refine ⟨by trivial,by trivial,(vy f3),(vy f6),(vy f7),(vy f8),vz,⟨_,_,_,_,I3⟩,by show k+1≤F;omega,by show s'.w.length≤k+1;omega,?_⟩
    show runF t ns (F - (k+1)) (posN t i') (k+1) s'=O
    rw[← hrun,hFk,runF_go hp1 (by rw[hE]),hE,← hni]
   ·have hmd:=decide_eq_false hm1
    by_cases hm0:e=0
    ·subst hm0
     simp -implicitDefEqProofs (disch:=first|omega|simp only[go_sem]) only[go_sem,true_and,XEnd,dPick_t,dPick_f]
     refine hX _ _ (by simp) ?_
     rw[hMM]
     refine ⟨by trivial,by trivial,(vy f6),(vy f7),k+1,s',n',vq',vo',wq',wo',vz,I3,?_⟩
     rw[← hrun,hFk,runF_halt hp1 (by rw[hE]),hE]
    ·obtain ⟨K3,s1,s2,o,rfl⟩:=res N e ((k+1:Nat):Int) nilV0 nilV0 rfl rfl rfl (rZ N I3.kp)
     simp -implicitDefEqProofs (disch:=first|omega|simp only[go_sem]) only[go_sem,true_and,XEnd,hmd,hm1,hm0,dPick_t,dPick_f,f6,bd_o2,s1]
     refine hX _ _ (by simp) ?_
     simp -implicitDefEqProofs (disch:=first|omega|simp only[go_sem]) only[go_sem,true_and,f6,dResults_c1,dResC_some,s2]
     refine ⟨_,rfl,?_⟩
     rw[← hR]
     refine RunR.none ((eZ N I3.kp).set (by omega)) ?_
     rw[← hrun,hFk,runF_stop hp1 (by rw[hE];exact hm1) (by rw[hE];exact hm0),hE]
  ·refine hX _ _ (by simp) ?_
   rw[hMM]
   refine ⟨by trivial,by trivial,(vy f6),(vy f7),k,st,_,vq,vo,wq,wo,(vy f9),I,?_⟩
   rw[← hrun]
   exact runF_end (by omega)
 rintro ⟨fr,df,K,rd⟩ hM
 rw[hMM]at hM
 obtain ⟨hdf,hrd,f6,f7,k,st,n,vq,vo,wq,wo,f9,I,hO3⟩:=hM
 simp only at hdf hrd f6 f7 f9 I
 subst hdf hrd
 have l8:=I.len
 have hYK:Y.next<K.next:=Nat.lt_of_lt_of_le C.lb I.kp.next
 have c15:cellAt K Y.next 15=some vq:=(cellAt_row I.row).trans (refL_tail l8).2.1
 have c16:∀ N,Ext K N→cellAt N Y.next 16=some vo:=fun N e=>(cellAt_row ((e.get _ hYK).trans I.row)).trans (refL_tail l8).2.2.1
 have hwn:=I.wn
 have aq:Arg fChange.rep K vq st.w:=I.q.arg (fun i hi=>hi.elim)
 have hvo:vo.cells=#[vo]:=I.o.sl.cells1
 simp -implicitDefEqProofs (disch:=first|omega|simp only[go_sem]) only[go_sem,true_and]
 refine yr_14_3 rfl ?_
 simp -implicitDefEqProofs (disch:=first|omega|simp only[go_sem]) only[go_sem,true_and,g14_3,q14_3,f7,f9,c15,c16 K (.refl _)]
 refine ycall_ct (refChanges_c aq (by omega)) ?_
 rintro r N2 ⟨w2,rfl,m2⟩
 have hw2:w2.cells=#[w2]:=m2.sl.cells1
 have hone:[Value.int .i64 0,vo,w2,.int .i64 (k:Nat)].all Value.oneCell'=true:=by
  obtain ⟨_,_,rfl⟩:=I.o.sl.isSlice
  obtain ⟨_,_,rfl⟩:=m2.sl.isSlice
  rfl
 have eN:=m2.ext
 have hkn:=I.kp.next
 obtain ⟨K3,s1,s2,o,rfl⟩:=res N2 0 (k:Nat) vo w2 hvo hw2 hone ((eN.get _ (by omega)).trans (rZ K I.kp))
 simp -implicitDefEqProofs (disch:=first|omega|simp only[go_sem]) only[go_sem,true_and,YEnd,c16 N2 eN,bd_o3 hvo hw2,f6,s1]
 simp -implicitDefEqProofs (disch:=first|omega|simp only[go_sem]) only[go_sem,true_and,dResults_c1,dResC_some,f6,s2]
 refine ⟨_,rfl,?_⟩
 rw[← hR,hO3]
 have ehK:Ext h K:=eZ K I.kp
 have eset:Ext h (N2.set H1.next o):=(ehK.trans eN).set (by omega)
 refine ⟨_,_,rfl,⟨eset,wo,I.o.mono (by show K.next≤N2.next;exact eN.next) (fun i hi=>?_) (fun i hi=>hi.elim),fun i hi=>?_⟩,?_⟩
 ·have h1:=I.ho i hi
  have h2:=I.o.lt i hi
  rw[get_set_other _ _ (by omega)]
  exact eN.get _ h2
 ·have:=I.ho i hi
  omega
 ·obtain ⟨w3,p1,p2⟩:=m2.own
  refine ⟨eset,w3,p1.mono (Nat.le_refl _) (fun i hi=>get_set_other _ _ ?_) (fun i hi=>hi.elim),fun i hi=>?_⟩
  ·have:=p2 i hi
   omega
  ·have:=p2 i hi
   omega
end Go.Proofs.Ythjmkmoiopmfcaa

namespace Go.Proofs.Ythjmkmoiopmfcaa
open Go.D
set_option maxRecDepth 100000
theorem runsLaw_c {h:DHeap} {t:Txn} {vc va vr vw v:Value} {l:List Pair} {f:Int} (x:TxV (InH h) h t vc va vr vw) (hT:TxLen t) (hb:Arg fPair.rep h v l) (hl:l.length≤1048576) :
 DC Try.prog 3 [txnV t.ses t.req vc va vr vw,v,.int .i64 f] h (.ret (.bool true)) h:=by
 refine Ct.pure (go_3 (by simp) ?_) (vin_bool _)
 have hcl:(txnV t.ses t.req vc va vr vw).cells.toList=[.int .i64 t.ses,.int .i64 t.req,vc,va,vr,vw]:=rfl
 obtain ⟨H,hH⟩:∃ H,H=h.push (.row [.int .i64 t.ses,.int .i64 t.req,vc,va,vr,vw] 0 false):=⟨_,rfl⟩
 have hE:Ext h H:=by rw[hH];exact Ext.push1 _ _
 have gH:H.get h.next=some (.row [.int .i64 t.ses,.int .i64 t.req,vc,va,vr,vw] 0 false):=by rw[hH];exact get_push_same _ _
 have hHn:h.next<H.next:=by rw[hH];exact Nat.lt_succ_self _
 have lt:∀ K,Ext H K→cellsAt K h.next 0 6=some (txnV t.ses t.req vc va vr vw):=fun K e=>by
  rw[cellsAt_row ((e.get _ hHn).trans gH) (Nat.le_of_ble_eq_true rfl)]
  rfl
 simp -implicitDefEqProofs (disch:=first|omega|simp only[go_sem]) only[go_sem,true_and,c3,hcl,← hH]
 refine yr_3_0 rfl ?_
 simp -implicitDefEqProofs (disch:=first|omega|simp only[go_sem]) only[go_sem,true_and,g3_0,q3_0,l3_0]
 refine ycall begun_c ?_
 simp -implicitDefEqProofs (disch:=first|omega|simp only[go_sem]) only[go_sem,true_and,lt H (.refl _),dPick_t,dPick_f]
 refine ycall_ct (run_c (x.ext hE) hT (hb.ext hE) hl) ?_
 rintro r K ⟨vv,cv,rfl,mv,mc⟩
 have e1:=mv.ext
 simp -implicitDefEqProofs (disch:=first|omega|simp only[go_sem]) only[go_sem,true_and,YEnd,lt K e1]
 refine ycall_ct (refRun_c (x.ext (hE.trans e1)) hT (hb.ext (hE.trans e1)) hl) ?_
 rintro r M ⟨uu,du,rfl,nv,nc⟩
 simp -implicitDefEqProofs (disch:=first|omega|simp only[go_sem]) only[go_sem,true_and,YEnd]
 have hs:=runF_small (t:=t) (l:=l) (f:=f)
 refine ycall (refSame_c (mv.arg.ext nv.ext) (mc.arg.ext nv.ext) nv.arg nc.arg (by omega) (by omega)) ?_
 simp -implicitDefEqProofs (disch:=first|omega|simp only[go_sem]) only[go_sem,true_and,dPick_t,dPick_f]
 exact ⟨_,rfl,by simp,(hE.trans e1).trans nv.ext⟩
end Go.Proofs.Ythjmkmoiopmfcaa

namespace Go.Proofs.Ythjmkmoiopmfcaa.lawRuns
open Go.D
open Go.ChangeShapes Go.WideShapes Go.ChangeAt Go.RowKit
theorem own:ownKnob Try.prog.godebug=none:=by kernel_rfl
set_option maxRecDepth 100000 in
theorem lifted (os:Os) (started:os.Started) (H:Type) (enc:TypeId × Value→H) (F:Stop.Interp) :
 ReturnsInHanded {} Try.checked os 3 .any ((Rows.OpenSpec.upto Rows.evalRunsSpec).pre6 enc Try.prog Try.f3 Rows.evalRunsUptoRow.domain false) (((Rows.OpenSpec.upto Rows.evalRunsSpec).at F).post enc Try.prog Try.f3 false true false false):=by
 refine returnsInHanded_of_cond (C:=Try.checked) (s:=Rows.OpenSpec.upto Rows.evalRunsSpec) (k:=Rows.uptoSmall) rfl own started (by kernel_rfl) Try.func3
  (OpenSpec.witness (enc:=enc) (C:=Try.checked) (s:=Rows.OpenSpec.upto Rows.evalRunsSpec) (k:=Rows.uptoSmall) rfl false ⟨#[],#[.agg #[.int .i64 0,.int .i64 0,.slice none 0 0,.slice none 0 0,.slice none 0 0,.slice none 0 0],.slice none 0 0,.int .i64 0],[]⟩ 8 (by kernel_rfl) (by kernel_rfl) (by kernel_rfl)
    (x:=([.agg [.lit (.int .i64 0),.lit (.int .i64 0),.nil,.nil,.nil,.nil],.nil,.lit (.int .i64 0)],[],[])) (by kernel_rfl) rfl (by kernel_rfl)) ?_
 intro W base args ds gs before hval hW _ hk _
 refine law_kept (by kernel_rfl)
  (.cons (agg:=true) par_txn lay_txn (.cons (agg:=false) par_pairs lay_pairs (.cons (agg:=false) par_int lay_int .nil))) (tb:=4) (by kernel_rfl) (by kernel_rfl) rfl (fun ds hl=>?_) (fun h vs x hng hq hB=>?_) W base args ds gs before hval hW hk
 ·match ds,hl with
  | [d0,d1,d2],_=>rfl
 ·obtain ⟨cs,vs1,rfl,h1,cs2,vs2,rfl,⟨v,rfl,hv⟩,cs3,vs3,rfl,⟨rfl,h3⟩,rfl⟩:=hq
  obtain ⟨vc,va,vr,vw,rfl,_,_,tx⟩:=txn_in h1
  have:=sumB_len (fun _=>3) x.2.1
  exact (runsLaw_c tx (txn_len (by omega)) hv (by omega)).ct rfl
theorem p1:Try.pinned.checked.prog.funcNamed Rows.evalRunsUptoRow.func=some 3:=by kernel_rfl
theorem p2:joinedFacts Try.pinned.checked.prog 3 Try.f3 (Rows.OpenSpec.upto Rows.evalRunsSpec).bare Rows.evalRunsUptoRow=true:=by kernel_rfl
theorem p3:Try.f3.isInstance Try.pinned.checked.prog Rows.evalRunsUptoRow.origin Rows.evalRunsUptoRow.targs:=of_decide_eq_true (by kernel_rfl)
theorem p4:Try.f3.isWrapper Try.pinned.checked.prog Rows.evalRunsUptoRow.wrapper Rows.evalRunsUptoRow.mainSum:=by unfold Func.isWrapper;first | (rw[if_pos (by decide +kernel)];kernel_rfl) | (rw[if_neg (by decide +kernel)];exact ⟨rfl,rfl⟩)
theorem proved:Rows.EvalRunsUptoSaid:=
 OpenClaim.holds_of_cond 3 Try.f3 rfl rfl rfl rfl rfl rfl rfl ⟨rfl,rfl,rfl,rfl,rfl⟩ rfl rfl rfl rfl rfl p1 Try.func3 p2 p3 p4
  (fun os started H enc _ F=>lifted os started H enc F)
end Go.Proofs.Ythjmkmoiopmfcaa.lawRuns
