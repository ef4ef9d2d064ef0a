/-
EvalEnds: a run's steps are at most its fuel, and more fuel changes nothing for a run that did not end for it, for every input of bulk at most 1048576. Conditions: none.
-/
import Derived.Test.YthjmkmoiopmfcaaRows
import Derived.WalkKit
import Derived.ProofKit
import Derived.OpenShut
import Derived.JoinedCond
import Derived.Test.YthjmkmoiopmfcaaBase1
import Derived.Test.YthjmkmoiopmfcaaBase2
import Derived.Test.YthjmkmoiopmfcaaEvalEndsParts1
import Derived.Test.YthjmkmoiopmfcaaEvalEndsParts2
import Derived.Test.YthjmkmoiopmfcaaEvalEndsParts3
set_option linter.unusedSimpArgs false
set_option linter.unusedVariables false
namespace Go.Proofs.Ythjmkmoiopmfcaa
open Go.D
set_option maxRecDepth 100000

def smallT : Txn := ⟨1, 1, [1, 0, 7, 0, 5, 0, 0, 3, 1, 0, 24, 1], [], [⟨1, 2⟩], [⟨1, 2⟩]⟩
abbrev u8V (n : Int) : Value := .int .u8 n
abbrev codeV : List Value := [u8V 1, u8V 0, u8V 7, u8V 0, u8V 5, u8V 0, u8V 0, u8V 3, u8V 1, u8V 0, u8V 24, u8V 1]
theorem bs_code {h : DHeap} : dBuildSlice Try.prog 22 12 [(0, u8V 1), (1, u8V 0), (2, u8V 7), (3, u8V 0), (4, u8V 5), (5, u8V 0), (6, u8V 0), (7, u8V 3), (8, u8V 1), (9, u8V 0), (10, u8V 24), (11, u8V 1)] h = some (.slice (some ⟨h.next, 0, none⟩) 12 12, h.push (.row codeV 1 false)) :=
  dBuildSlice_all (h := h) (vs := codeV) bsl_22 (by decide) (fun v hv => by
    simp only [codeV, List.mem_cons, List.not_mem_nil, or_false] at hv
    rcases hv with rfl | rfl | rfl | rfl | rfl | rfl | rfl | rfl | rfl | rfl | rfl | rfl <;> rfl) (by decide)
theorem bd_small {vc vr : Value} (hc : vc.cells = #[vc]) (hr : vr.cells = #[vr]) : dBuild Try.prog 26 [(0, .int .i64 1), (1, .int .i64 1), (2, vc), (4, vr), (5, vr)] = some (txnV 1 1 vc nilV0 vr vr) := dBuild_at plc_26 (by simp [fillL, hc, hr, setAt, cells_int])
theorem smallT_c {h : DHeap} : Ct Try.prog 36 [] h fun r h1 => ∃ vc vr, r = .ret (txnV 1 1 vc nilV0 vr vr) ∧ Ext h h1 ∧ TxV (InH h1) h1 smallT vc nilV0 vr vr := by
  refine go_36 (by simp) ?_
  obtain ⟨H1, hH1⟩ : ∃ H, h.push (.row [.int .i64 0, .int .i64 0, nilV0, nilV0, nilV0, nilV0] 0 false) = H := ⟨_, rfl⟩
  obtain ⟨H2, hH2⟩ : ∃ H, H1.push (.row [.int .i32 1, .int .i64 2] 2 false) = H := ⟨_, rfl⟩
  obtain ⟨H3, hH3⟩ : ∃ H, H2.push (.row codeV 1 false) = H := ⟨_, rfl⟩
  have n1 : H1.next = h.next + 1 := by rw [← hH1]; rfl
  have n2 : H2.next = h.next + 2 := by rw [← hH2, next_push, n1]
  have n3 : H3.next = h.next + 3 := by rw [← hH3, next_push, n2]
  have e1 : Ext h H1 := hH1 ▸ Ext.push1 _ _
  have e2 : Ext H1 H2 := hH2 ▸ Ext.push1 _ _
  have e3 : Ext H2 H3 := hH3 ▸ Ext.push1 _ _
  have g1 : H3.get h.next = some (.row [.int .i64 0, .int .i64 0, nilV0, nilV0, nilV0, nilV0] 0 false) := (e3.get _ (by omega)).trans ((e2.get _ (by omega)).trans (by rw [← hH1]; exact get_push_same _ _))
  have g2 : H3.get H1.next = some (.row [.int .i32 1, .int .i64 2] 2 false) := (e3.get _ (by omega)).trans (by rw [← hH2]; exact get_push_same _ _)
  have g3 : H3.get H2.next = some (.row codeV 1 false) := by rw [← hH3]; exact get_push_same _ _
  have hk : dBuild Try.prog 44 [(0, .int .i32 1), (1, .int .i64 2)] = some (keyV ⟨1, 2⟩) := bd_keyK
  obtain ⟨H4, hH4⟩ : ∃ H, H3.set h.next (.row [.int .i64 1, .int .i64 1, .slice (some ⟨H2.next, 0, none⟩) 12 12, nilV0, .slice (some ⟨H1.next, 0, none⟩) 1 1, .slice (some ⟨H1.next, 0, none⟩) 1 1] 0 false) = H := ⟨_, rfl⟩
  have st : storeAt H3 h.next 0 [.int .i64 1, .int .i64 1, .slice (some ⟨H2.next, 0, none⟩) 12 12, nilV0, .slice (some ⟨H1.next, 0, none⟩) 1 1, .slice (some ⟨H1.next, 0, none⟩) 1 1] = some H4 := by
    rw [← hH4]
    exact storeAt_row g1 (Nat.le_of_ble_eq_true rfl) rfl
  have l4 : cellsAt H4 h.next 0 6 = some (txnV 1 1 (.slice (some ⟨H2.next, 0, none⟩) 12 12) nilV0 (.slice (some ⟨H1.next, 0, none⟩) 1 1) (.slice (some ⟨H1.next, 0, none⟩) 1 1)) := by
    rw [← hH4, cellsAt_row (get_set_same _ _) (Nat.le_of_ble_eq_true rfl)]
    rfl
  have n4 : H4.next = h.next + 3 := by rw [← hH4]; exact n3
  have g24 : H4.get H1.next = some (.row [.int .i32 1, .int .i64 2] 2 false) := by rw [← hH4]; exact (get_set_other _ _ (by omega)).trans g2
  have g34 : H4.get H2.next = some (.row codeV 1 false) := by rw [← hH4]; exact (get_set_other _ _ (by omega)).trans g3
  have sr : Arg fKey.rep H4 (.slice (some ⟨H1.next, 0, none⟩) 1 1) [⟨1, 2⟩] := .inr ⟨H1.next, 0, 1, _, 2, false, rfl, by omega, g24, .inr rfl, Nat.le_of_ble_eq_true rfl, Els.flat.2 ⟨rfl, fun x hx => by
    rw [List.mem_singleton.1 hx]
    exact ⟨inK_i32.2 ⟨by decide, by decide⟩, inK_i64.2 ⟨by decide, by decide⟩⟩⟩⟩
  have sc : Arg fU8.rep H4 (.slice (some ⟨H2.next, 0, none⟩) 12 12) smallT.code := .inr ⟨H2.next, 0, 12, _, 1, false, rfl, by omega, g34, .inr rfl, Nat.le_of_ble_eq_true rfl, Els.flat.2 ⟨rfl, fun x hx => by
    have : 0 ≤ x ∧ x ≤ 255 := by
      simp only [smallT, List.mem_cons, List.not_mem_nil, or_false] at hx
      omega
    exact inK_u8.2 this⟩⟩
  have hbd := bd_small (vc := .slice (some ⟨H2.next, 0, none⟩) 12 12) (vr := .slice (some ⟨H1.next, 0, none⟩) 1 1) rfl rfl
  simp -implicitDefEqProofs (disch:=first|omega|simp only [go_sem,Nat.reduceAdd]) only [go_sem,Int.reduceLT,Int.reduceLE,Int.reduceEq,reduceIte,true_and, c36, hH1, hk, hH2, bs_code, hH3, hbd, st, dResults_c1, dResC_some, l4]
  exact ⟨_, rfl, _, _, rfl, by rw [← hH4]; exact ((e1.trans e2).trans e3).set (Nat.le_refl _), ⟨sc, .nil _ _ _, sr, sr⟩⟩
theorem small_run : (runE smallT [] 9).e = 0 ∧ (runE smallT [] 9).vs = [7] ∧ (runE smallT [] 9).ch = [⟨⟨1, 2⟩, 7, false⟩] ∧ (runE smallT [] 9).s = 4 := by decide +kernel
theorem begun_c {h : DHeap} : DC Try.prog 11 [] h (.ret (.bool true)) h := by
  refine Ct.pure (go_11 (by simp) ?_) (vin_bool _)
  simp -implicitDefEqProofs (disch:=first|omega|simp only [go_sem,Nat.reduceAdd]) only [go_sem,Int.reduceLT,Int.reduceLE,Int.reduceEq,reduceIte,true_and, c11]
  refine ncall_ct smallT_c ?_
  rintro r H ⟨vc, vr, rfl, hE, x⟩
  simp -implicitDefEqProofs (disch:=first|omega|simp only [go_sem,Nat.reduceAdd]) only [go_sem,Int.reduceLT,Int.reduceLE,Int.reduceEq,reduceIte,true_and, XEnd]
  have hT : TxLen smallT := ⟨by decide, by decide, by decide, by decide⟩
  refine ncall_ct (run_c (t := smallT) (l := []) x hT (.nil _ _ _) (by decide)) ?_
  rintro r K ⟨vv, cv, rfl, mv, mc⟩
  obtain ⟨s1, s2, s3, s4⟩ := small_run
  rw [s2] at mv
  rw [s3] at mc
  rw [s1, s4]
  have hvv := mv.sl.cells1
  have hcv := mc.sl.cells1
  have hone : [Value.int .i64 0, vv, cv, .int .i64 4].all Value.oneCell' = true := by
    obtain ⟨_, _, rfl⟩ := mv.sl.isSlice
    obtain ⟨_, _, rfl⟩ := mc.sl.isSlice
    rfl
  obtain ⟨K1, hK1⟩ : ∃ H, K.push (.row [.int .i64 0, vv, cv, .int .i64 4] 0 false) = H := ⟨_, rfl⟩
  have hst : dStore Try.prog 32 (.pointer (some ⟨K.next, 0, none⟩)) (.agg #[.int .i64 0, vv, cv, .int .i64 4]) (K.push (.row [.int .i64 0, nilV0, nilV0, .int .i64 0] 0 false)) = some K1 := by
    rw [← hK1]
    exact (st_32 rfl).trans (storeAll_push rfl hone)
  have eK : Ext K K1 := hK1 ▸ Ext.push1 _ _
  have gK : K1.get K.next = some (.row [.int .i64 0, vv, cv, .int .i64 4] 0 false) := by rw [← hK1]; exact get_push_same _ _
  obtain ⟨K2, hK2⟩ : ∃ H, K1.push (.row [.int .i64 7] 1 false) = H := ⟨_, rfl⟩
  have eK2 : Ext K1 K2 := hK2 ▸ Ext.push1 _ _
  have hn : K.next < K1.next := by rw [← hK1]; exact Nat.lt_succ_self _
  have c0 : cellAt K1 K.next 0 = some (.int .i64 0) := cellAt_row gK
  have c1 : cellAt K1 K.next 1 = some vv := cellAt_row gK
  have gK2 := (eK2.get _ hn).trans gK
  have c2 : cellAt K2 K.next 2 = some cv := cellAt_row gK2
  have c3 : cellAt K2 K.next 3 = some (.int .i64 4) := cellAt_row gK2
  have a7 : Arg fI64.rep K2 (.slice (some ⟨K1.next, 0, none⟩) 1 1) [7] := .inr ⟨K1.next, 0, 1, _, 1, false, rfl, by rw [← hK2]; exact Nat.lt_succ_self _, by rw [← hK2]; exact get_push_same _ _, .inr rfl, Nat.le_of_ble_eq_true rfl, Els.flat.2 ⟨rfl, fun x hx => by
    rw [List.mem_singleton.1 hx]
    exact inK_i64.2 ⟨by decide, by decide⟩⟩⟩
  have mv2 : Arg fI64.rep K2 vv [7] := (mv.arg.ext eK).ext eK2
  have mc2 : Arg fChange.rep K2 cv [⟨⟨1, 2⟩, 7, false⟩] := (mc.arg.ext eK).ext eK2
  have lcv : ∀ K, dLen Try.prog #[30] cv K = some (.int .i64 1) := mc2.lens (P := Try.prog) (ts := #[30]) (t := 30) rfl isl_30
  obtain ⟨id, o, i1, _, hat⟩ := mc2.idx (P := Try.prog) (t := 30) el_30 (k := .i64) (i := 0) (x := ⟨⟨1, 2⟩, 7, false⟩) rfl
  have i1' : dIndexAddr Try.prog 30 cv (.int .i64 0) = some (.pointer (some ⟨id, o, none⟩)) := i1
  have v1 : cellAt K2 id (o + 2) = some (.int .i64 7) := hat.flat.1 2 (by decide)
  simp -implicitDefEqProofs (disch:=first|omega|simp only [go_sem,Nat.reduceAdd]) only [go_sem,Int.reduceLT,Int.reduceLE,Int.reduceEq,reduceIte,true_and, XEnd, hst, c0, c1, hK2]
  refine ncall (eqInts_c mv2 a7 (by decide)) ?_
  have hs : sameL (fun a b : Int => decide (a = b)) [7] [7] = true := by decide
  simp -implicitDefEqProofs (disch:=first|omega|simp only [go_sem,Nat.reduceAdd]) only [go_sem,Int.reduceLT,Int.reduceLE,Int.reduceEq,reduceIte,true_and, hs, dPick_t, c2, lcv, i1', v1, c3]
  exact ⟨_, rfl, rfl, ((hE.trans mv.ext).trans eK).trans eK2⟩
end Go.Proofs.Ythjmkmoiopmfcaa

namespace Go.Proofs.Ythjmkmoiopmfcaa
open Go.D
set_option maxRecDepth 100000

end Go.Proofs.Ythjmkmoiopmfcaa

namespace Go.Proofs.Ythjmkmoiopmfcaa
open Go.D
set_option maxRecDepth 100000

theorem fld_chg : fldsOf Try.prog 51 = some [(44, 0), (2, 2), (4, 3)] := by kernel_rfl
theorem grd_chg : Try.prog.eqGuardType Try.prog.depth 51 = false := by kernel_rfl
theorem und_bool : Try.prog.underlying 4 = some .bool := by kernel_rfl
theorem Pair.ext_iff' {a b : Pair} : a = b ↔ a.k = b.k ∧ a.v = b.v := by cases a; cases b; simp
theorem Change.ext_iff' {a b : Change} : a = b ↔ a.k = b.k ∧ a.v = b.v ∧ a.e = b.e := by cases a; cases b; simp
theorem chg_eq (d : Nat) (a b : Change) : quick Try.prog (Op.equalIn (d + 1 + 1 + 1) 51 (chgV a) (chgV b)) = some (.inr (decide (a = b))) := by
  refine quick_struct fld_chg ⟨keyV a.k, keyV b.k, _, _, (quick_part_agg agg_44).trans rfl, (quick_part_agg agg_44).trans rfl, key_eq d a.k b.k, ⟨_, _, _, _, quick_part_one one_2 rfl, quick_part_one one_2 rfl, quick_int und_i64,
    ⟨_, _, _, _, quick_part_one one_4 rfl, quick_part_one one_4 rfl, quick_bool und_bool, rfl, rfl⟩, rfl⟩, ?_⟩
  have hb : decide (a.e = b.e) = (a.e == b.e) := by cases a.e <;> cases b.e <;> rfl
  rw [decide_eq_decide.2 Change.ext_iff', Bool.decide_and, Bool.decide_and, Bool.and_true, hb]
  rfl
theorem bin_chg {a b : Change} {h : DHeap} {ox oy : Operand} : dBinOp Try.prog .neq 51 ox oy (chgV a) (chgV b) h = .ok (.value (.bool (!decide (a = b)))) h := (bin_agg rfl rfl grd_chg (chg_eq 9997 a b)).2
theorem sameL_dec {α : Type} [DecidableEq α] : ∀ {l m : List α}, sameL (fun a b => decide (a = b)) l m = decide (l = m)
  | [], [] => by simp [sameL]
  | [], b :: m => by simp [sameL]
  | a :: l, [] => by simp [sameL]
  | a :: l, b :: m => by
    simp only [sameL, sameL_dec (l := l) (m := m)]
    rw [← Bool.decide_and]
    exact decide_eq_decide.2 ⟨fun h => by rw [h.1, h.2], fun h => List.cons.inj h⟩
theorem sameInts_c {h : DHeap} {a b : Value} {l m : List Int} (ha : Arg fI64.rep h a l) (hb : Arg fI64.rep h b m) (hlen : l.length ≤ 4294967296) :
    DC Try.prog 38 [a, b] h (.ret (.bool (decide (l = m)))) h := by
  rw [← sameL_dec]
  refine Ct.pure (go_38 (by simp) ?_) (vin_bool _)
  have ea : ∀ K, dLen Try.prog #[23] a K = some (.int .i64 (l.length : Nat)) := ha.lens (P := Try.prog) (ts := #[23]) (t := 23) rfl isl_23
  have eb : ∀ K, dLen Try.prog #[23] b K = some (.int .i64 (m.length : Nat)) := hb.lens (P := Try.prog) (ts := #[23]) (t := 23) rfl isl_23
  by_cases hl : l.length = m.length
  case neg =>
    have hli : ¬ ((l.length : Nat) : Int) = (m.length : Nat) := by omega
    simp -implicitDefEqProofs (disch:=first|omega|simp only [go_sem,Nat.reduceAdd]) only [go_sem,Int.reduceLT,Int.reduceLE,Int.reduceEq,reduceIte,true_and, c38, ea, eb, hli]
    exact ⟨_, rfl, by rw [sameL_len hl], .refl h⟩
  have hli : ((l.length : Nat) : Int) = (m.length : Nat) := by omega
  simp -implicitDefEqProofs (disch:=first|omega|simp only [go_sem,Nat.reduceAdd]) only [go_sem,Int.reduceLT,Int.reduceLE,Int.reduceEq,reduceIte,true_and, c38, ea, eb, hli]
  refine xloop (σ := Nat) (by kernel_rfl) (fun i s => s.df = [] ∧ s.rd = none ∧ s.h = h ∧ s.fr 0 = some a ∧ s.fr 1 = some b ∧ s.fr 5 = some (.int .i64 (i : Nat)) ∧ i ≤ l.length ∧ sameL (fun a b : Int => decide (a = b)) (l.drop i) (m.drop i) = sameL (fun a b : Int => decide (a = b)) l m) (fun i => l.length - i) 0 ?_ ?_
  · simp -implicitDefEqProofs (disch:=first|omega|simp only [go_sem,Nat.reduceAdd]) only [go_sem,Int.reduceLT,Int.reduceLE,Int.reduceEq,reduceIte,true_and]
    exact ⟨by trivial, Nat.zero_le _, by rw [List.drop_zero, List.drop_zero]⟩
  · rintro i ⟨fr, df, hh, rd⟩ K hK hX ⟨rfl, rfl, rfl, f0, f1, f5, hi, ho⟩
    simp only at f0 f1 f5
    simp -implicitDefEqProofs (disch:=first|omega|simp only [go_sem,Nat.reduceAdd]) only [go_sem,Int.reduceLT,Int.reduceLE,Int.reduceEq,reduceIte,true_and, f0, f1, f0, f5, ea]
    refine XIf_dec (fun hc1 => ?_) (fun hc1 => ?_)
    · have hj : i < l.length := by omega
      have hk : i < m.length := by omega
      obtain ⟨id1, o1, e1, _, hat1⟩ := ha.idx (P := Try.prog) (t := 23) el_23 (k := .i64) (i := i) (x := l[i]) (by simp)
      obtain ⟨id2, o2, e2, _, hat2⟩ := hb.idx (P := Try.prog) (t := 23) el_23 (k := .i64) (i := i) (x := m[i]) (by simp)
      have hw := wrap_succ hj (by omega)
      have l1 := hat1.int
      have l2 := hat2.int
      rw [sameL_drop hj hk] at ho
      simp -implicitDefEqProofs (disch:=first|omega|simp only [go_sem,Nat.reduceAdd]) only [go_sem,Int.reduceLT,Int.reduceLE,Int.reduceEq,reduceIte,true_and, f5]
      refine yr_38_0 rfl ?_
      by_cases hlt : l[i] = m[i]
      · rw [decide_eq_true hlt, Bool.true_and] at ho
        simp -implicitDefEqProofs (disch:=first|omega|simp only [go_sem,Nat.reduceAdd]) only [go_sem,Int.reduceLT,Int.reduceLE,Int.reduceEq,reduceIte,true_and, g38_0, q38_0, f0, f1, f5, e1, e2, l1, l2, hlt, hw]
        refine hK (i + 1) _ ?_ (by omega)
        exact ⟨by trivial, by trivial, by trivial, (vy f0), (vy f1), vz, by omega, ho⟩
      · rw [decide_eq_false hlt, Bool.false_and] at ho
        simp -implicitDefEqProofs (disch:=first|omega|simp only [go_sem,Nat.reduceAdd]) only [go_sem,Int.reduceLT,Int.reduceLE,Int.reduceEq,reduceIte,true_and, g38_0, q38_0, f0, f1, f5, e1, e2, l1, l2, hlt]
        refine hX _ _ (by simp) ?_
        simp -implicitDefEqProofs (disch:=first|omega|simp only [go_sem,Nat.reduceAdd]) only [go_sem,Int.reduceLT,Int.reduceLE,Int.reduceEq,reduceIte,true_and]
        exact ⟨_, rfl, by rw [← ho], .refl hh⟩
    · obtain rfl : i = l.length := by omega
      refine hX _ _ (by simp) ?_
      simp -implicitDefEqProofs (disch:=first|omega|simp only [go_sem,Nat.reduceAdd]) only [go_sem,Int.reduceLT,Int.reduceLE,Int.reduceEq,reduceIte,true_and]
      exact ⟨_, rfl, by rw [← ho, sameL_end hl], .refl hh⟩
abbrev outV (o : Outc) (vv cv : Value) : Value := .agg #[.int .i64 o.e, vv, cv, .int .i64 o.s]
theorem Outc.eq_iff {a b : Outc} : a = b ↔ a.e = b.e ∧ a.s = b.s ∧ a.vs = b.vs ∧ a.ch = b.ch := by
  cases a; cases b
  constructor
  · intro h
    cases h
    exact ⟨rfl, rfl, rfl, rfl⟩
  · rintro ⟨h1, h2, h3, h4⟩
    simp only at h1 h2 h3 h4
    rw [h1, h2, h3, h4]
theorem Outc.dec {a b : Outc} : decide (a = b) = (decide (a.e = b.e) && (decide (a.s = b.s) && (decide (a.vs = b.vs) && decide (a.ch = b.ch)))) := by
  rw [decide_eq_decide.2 Outc.eq_iff, Bool.decide_and, Bool.decide_and, Bool.decide_and]
set_option maxHeartbeats 1000000 in
theorem refSame_c {h : DHeap} {a b : Outc} {va ca vb cb : Value} (h1 : Arg fI64.rep h va a.vs) (h2 : Arg fChange.rep h ca a.ch) (h3 : Arg fI64.rep h vb b.vs) (h4 : Arg fChange.rep h cb b.ch) (hl : a.vs.length ≤ 4294967296) (hl2 : a.ch.length ≤ 4294967296) :
    DC Try.prog 12 [outV a va ca, outV b vb cb] h (.ret (.bool (decide (a = b)))) h := by
  refine Ct.pure (go_12 (by simp) ?_) (vin_bool _)
  rw [Outc.dec]
  obtain ⟨H, hH⟩ : ∃ H, H = (h.push (.row [.int .i64 a.e, va, ca, .int .i64 a.s] 0 false)).push (.row [.int .i64 b.e, vb, cb, .int .i64 b.s] 0 false) := ⟨_, rfl⟩
  have hE : Ext h H := by rw [hH]; exact (Ext.push1 _ _).push _
  have ga : H.get h.next = some (.row [.int .i64 a.e, va, ca, .int .i64 a.s] 0 false) := by rw [hH]; exact get_p1
  have gb : H.get (h.next + 1) = some (.row [.int .i64 b.e, vb, cb, .int .i64 b.s] 0 false) := by rw [hH]; exact get_push_same _ _
  have qa : (outV a va ca).cells.toList = [.int .i64 a.e, va, ca, .int .i64 a.s] := rfl
  have qb : (outV b vb cb).cells.toList = [.int .i64 b.e, vb, cb, .int .i64 b.s] := rfl
  have ea : ∀ K, dLen Try.prog #[30] ca K = some (.int .i64 (a.ch.length : Nat)) := h2.lens (P := Try.prog) (ts := #[30]) (t := 30) rfl isl_30
  have eb : ∀ K, dLen Try.prog #[30] cb K = some (.int .i64 (b.ch.length : Nat)) := h4.lens (P := Try.prog) (ts := #[30]) (t := 30) rfl isl_30
  simp -implicitDefEqProofs (disch:=first|omega|simp only [go_sem,Nat.reduceAdd]) only [go_sem,Int.reduceLT,Int.reduceLE,Int.reduceEq,reduceIte,true_and, c12, qa, qb, next_push, ← hH]
  by_cases p1 : a.e = b.e
  case neg =>
    simp -implicitDefEqProofs (disch:=first|omega|simp only [go_sem,Nat.reduceAdd]) only [go_sem,Int.reduceLT,Int.reduceLE,Int.reduceEq,reduceIte,true_and, cellAt_row ga, cellAt_row gb, p1, dPick_t, dPick_f]
    exact ⟨_, rfl, by simp, hE⟩
  have p1' := eq_true p1
  by_cases p2 : a.s = b.s
  case neg =>
    simp -implicitDefEqProofs (disch:=first|omega|simp only [go_sem,Nat.reduceAdd]) only [go_sem,Int.reduceLT,Int.reduceLE,Int.reduceEq,reduceIte,true_and, cellAt_row ga, cellAt_row gb, p1', p2, dPick_t, dPick_f]
    exact ⟨_, rfl, by simp, hE⟩
  have p2' := eq_true p2
  rw [decide_eq_true p1, decide_eq_true p2, Bool.true_and, Bool.true_and]
  by_cases p4 : a.ch.length = b.ch.length
  case neg =>
    have p4' : ¬ ((a.ch.length : Nat) : Int) = (b.ch.length : Nat) := by omega
    simp -implicitDefEqProofs (disch:=first|omega|simp only [go_sem,Nat.reduceAdd]) only [go_sem,Int.reduceLT,Int.reduceLE,Int.reduceEq,reduceIte,true_and, cellAt_row ga, cellAt_row gb, p1', p2', ea, eb, p4', dPick_t, dPick_f]
    exact ⟨_, rfl, by rw [decide_eq_false (fun e : a.ch = b.ch => p4 (by rw [e])), Bool.and_false], hE⟩
  have p4' : ((a.ch.length : Nat) : Int) = (b.ch.length : Nat) := by omega
  simp -implicitDefEqProofs (disch:=first|omega|simp only [go_sem,Nat.reduceAdd]) only [go_sem,Int.reduceLT,Int.reduceLE,Int.reduceEq,reduceIte,true_and, cellAt_row ga, cellAt_row gb, p1', p2', ea, eb, p4', dPick_t, dPick_f]
  refine ncall (sameInts_c (h1.ext hE) (h3.ext hE) hl) ?_
  by_cases p3 : a.vs = b.vs
  case neg =>
    rw [decide_eq_false p3]
    simp -implicitDefEqProofs (disch:=first|omega|simp only [go_sem,Nat.reduceAdd]) only [go_sem,Int.reduceLT,Int.reduceLE,Int.reduceEq,reduceIte,true_and, dPick_t, dPick_f]
    exact ⟨_, rfl, rfl, hE⟩
  rw [decide_eq_true p3, Bool.true_and, ← sameL_dec]
  simp -implicitDefEqProofs (disch:=first|omega|simp only [go_sem,Nat.reduceAdd]) only [go_sem,Int.reduceLT,Int.reduceLE,Int.reduceEq,reduceIte,true_and, dPick_t, dPick_f]
  have la : cellAt H h.next 2 = some ca := cellAt_row ga
  have lb : cellAt H (h.next + 1) 2 = some cb := cellAt_row gb
  refine xloop (σ := Nat) (by kernel_rfl) (fun i s => s.df = [] ∧ s.rd = none ∧ s.h = H ∧ s.fr 2 = some (.pointer (some ⟨h.next, 0, none⟩)) ∧ s.fr 3 = some (.pointer (some ⟨h.next + 1, 0, none⟩)) ∧ s.fr 5 = some (.int .i64 (i : Nat)) ∧ i ≤ a.ch.length ∧ sameL (fun a b : Change => decide (a = b)) (a.ch.drop i) (b.ch.drop i) = sameL (fun a b : Change => decide (a = b)) a.ch b.ch) (fun i => a.ch.length - i) 0 ?_ ?_
  · simp -implicitDefEqProofs (disch:=first|omega|simp only [go_sem,Nat.reduceAdd]) only [go_sem,Int.reduceLT,Int.reduceLE,Int.reduceEq,reduceIte,true_and]
    exact ⟨by trivial, Nat.zero_le _, by rw [List.drop_zero, List.drop_zero]⟩
  rintro i ⟨fr, df, K, rd⟩ K' hK' hX ⟨hdf, hrd, hK, f2, f3, f5, hi, ho⟩
  simp only at hdf hrd hK f2 f3 f5
  subst hdf hrd hK
  simp -implicitDefEqProofs (disch:=first|omega|simp only [go_sem,Nat.reduceAdd]) only [go_sem,Int.reduceLT,Int.reduceLE,Int.reduceEq,reduceIte,true_and, f2, f5, la, ea]
  refine XIf_dec (fun hc1 => ?_) (fun hc1 => ?_)
  · have hj : i < a.ch.length := by omega
    have hjm : i < b.ch.length := by omega
    obtain ⟨id1, o1, e1, _, hat1⟩ := (h2.ext hE).idx (P := Try.prog) (t := 30) el_30 (k := .i64) (i := i) (x := a.ch[i]) (by simp)
    obtain ⟨id2, o2, e2, _, hat2⟩ := (h4.ext hE).idx (P := Try.prog) (t := 30) el_30 (k := .i64) (i := i) (x := b.ch[i]) (by simp)
    have hw := wrap_succ hj (by omega)
    have l1 : cellsAt K id1 o1 4 = some (chgV a.ch[i]) := hat1.flat.2.1
    have l2 : cellsAt K id2 o2 4 = some (chgV b.ch[i]) := hat2.flat.2.1
    rw [sameL_drop hj hjm] at ho
    simp -implicitDefEqProofs (disch:=first|omega|simp only [go_sem,Nat.reduceAdd]) only [go_sem,Int.reduceLT,Int.reduceLE,Int.reduceEq,reduceIte,true_and]
    refine yr_12_0 rfl ?_
    by_cases hlt : a.ch[i] = b.ch[i]
    · rw [decide_eq_true hlt, Bool.true_and] at ho
      simp -implicitDefEqProofs (disch:=first|omega|simp only [go_sem,Nat.reduceAdd]) only [go_sem,Int.reduceLT,Int.reduceLE,Int.reduceEq,reduceIte,true_and, g12_0, q12_0, f2, f3, f5, la, lb, e1, e2, l1, l2, bin_chg, hlt, hw]
      refine hK' (i + 1) _ ?_ (by omega)
      exact ⟨by trivial, by trivial, by trivial, (vy f2), (vy f3), vz, by omega, ho⟩
    · rw [decide_eq_false hlt, Bool.false_and] at ho
      simp -implicitDefEqProofs (disch:=first|omega|simp only [go_sem,Nat.reduceAdd]) only [go_sem,Int.reduceLT,Int.reduceLE,Int.reduceEq,reduceIte,true_and, g12_0, q12_0, f2, f3, f5, la, lb, e1, e2, l1, l2, bin_chg, hlt]
      refine hX _ _ (by simp) ?_
      simp -implicitDefEqProofs (disch:=first|omega|simp only [go_sem,Nat.reduceAdd]) only [go_sem,Int.reduceLT,Int.reduceLE,Int.reduceEq,reduceIte,true_and]
      exact ⟨_, rfl, by rw [← ho], hE⟩
  · obtain rfl : i = a.ch.length := by omega
    refine hX _ _ (by simp) ?_
    simp -implicitDefEqProofs (disch:=first|omega|simp only [go_sem,Nat.reduceAdd]) only [go_sem,Int.reduceLT,Int.reduceLE,Int.reduceEq,reduceIte,true_and]
    exact ⟨_, rfl, by rw [← ho, sameL_end p4], hE⟩
end Go.Proofs.Ythjmkmoiopmfcaa

namespace Go.Proofs.Ythjmkmoiopmfcaa
open Go.D
set_option maxRecDepth 100000

end Go.Proofs.Ythjmkmoiopmfcaa

namespace Go.Proofs.Ythjmkmoiopmfcaa
open Go.D
set_option maxRecDepth 100000

/-- an outcome is laid into a box -/
theorem out_box {K : DHeap} {e k : Int} {vv cv : Value} {R S : Nat → Prop} {xs : List Int} {cs : List Change} (hv : Sl fI64.rep R K vv xs) (hc : Sl fChange.rep S K cv cs) :
    ∃ K1, dStore Try.prog 32 (.pointer (some ⟨K.next, 0, none⟩)) (.agg #[.int .i64 e, vv, cv, .int .i64 k]) (K.push (.row [.int .i64 0, nilV0, nilV0, .int .i64 0] 0 false)) = some K1 ∧ Ext K K1 ∧ K1.get K.next = some (.row [.int .i64 e, vv, cv, .int .i64 k] 0 false) ∧ K1.next = K.next + 1 := by
  have hone : [Value.int .i64 e, vv, cv, .int .i64 k].all Value.oneCell' = true := by
    obtain ⟨_, _, rfl⟩ := hv.isSlice
    obtain ⟨_, _, rfl⟩ := hc.isSlice
    rfl
  exact ⟨K.push (.row [.int .i64 e, vv, cv, .int .i64 k] 0 false), (st_32 rfl).trans (storeAll_push rfl hone), Ext.push1 _ _, get_push_same _ _, rfl⟩
set_option maxHeartbeats 2000000 in
theorem endsLaw_c {h : DHeap} {t : Txn} {vc va vr vw v : Value} {l : List Pair} {f g : Int} (x : TxV (InH h) h t vc va vr vw) (hT : TxLen t) (hb : Arg fPair.rep h v l) (hl : l.length ≤ 1048576) (hf : 0 ≤ f ∧ f ≤ 65535) (hg : 0 ≤ g ∧ g ≤ 65535) :
    DC Try.prog 5 [txnV t.ses t.req vc va vr vw, v, .int .u16 f, .int .u16 g] h (.ret (.bool true)) h := by
  refine Ct.pure (go_5 (by simp) ?_) (vin_bool _)
  have hcl : (txnV t.ses t.req vc va vr vw).cells.toList = [.int .i64 t.ses, .int .i64 t.req, vc, va, vr, vw] := rfl
  obtain ⟨H, hH⟩ : ∃ H, H = h.push (.row [.int .i64 t.ses, .int .i64 t.req, vc, va, vr, vw] 0 false) := ⟨_, rfl⟩
  have hE : Ext h H := by rw [hH]; exact Ext.push1 _ _
  have gH : H.get h.next = some (.row [.int .i64 t.ses, .int .i64 t.req, vc, va, vr, vw] 0 false) := by rw [hH]; exact get_push_same _ _
  have hHn : h.next < H.next := by rw [hH]; exact Nat.lt_succ_self _
  have lt : ∀ K, Ext H K → cellsAt K h.next 0 6 = some (txnV t.ses t.req vc va vr vw) := fun K e => by
    rw [cellsAt_row ((e.get _ hHn).trans gH) (Nat.le_of_ble_eq_true rfl)]
    rfl
  have w1 : IntKind.i64.wrap f = f := wrap_i64_in (by omega) (by omega)
  have w2 : IntKind.i64.wrap g = g := wrap_i64_in (by omega) (by omega)
  have w3 : IntKind.i64.wrap (f + g) = f + g := wrap_i64_in (by omega) (by omega)
  obtain ⟨q1, q2, q3⟩ := runE_ends (t := t) (l := l) hf.1
  have q4 := runE_more (t := t) (l := l) (show f ≤ f + g by omega)
  obtain ⟨o, ho⟩ : ∃ o, runE t l f = o := ⟨_, rfl⟩
  obtain ⟨p, hp⟩ : ∃ p, runE t l (f + g) = p := ⟨_, rfl⟩
  rw [ho] at q1 q2 q3 q4
  rw [hp] at q4
  have s0 : ¬ o.s < 0 := by omega
  have s1 : ¬ min f 4096 < o.s := by omega
  simp -implicitDefEqProofs (disch:=first|omega|simp only [go_sem,Nat.reduceAdd]) only [go_sem,Int.reduceLT,Int.reduceLE,Int.reduceEq,reduceIte,true_and, c5, hcl, ← hH, lt H (.refl _), w1]
  refine ncall_ct (run_c (x.ext hE) hT (hb.ext hE) hl) ?_
  rw [ho]
  rintro r K ⟨vv, cv, rfl, mv, mc⟩
  obtain ⟨K1, hst, eK, gK, nK⟩ := out_box (e := o.e) (k := o.s) mv.sl mc.sl
  have E1 : Ext H K1 := mv.ext.trans eK
  simp -implicitDefEqProofs (disch:=first|omega|simp only [go_sem,Nat.reduceAdd]) only [go_sem,Int.reduceLT,Int.reduceLE,Int.reduceEq,reduceIte,true_and, XEnd, hst, lt K1 E1, w1, w2, w3]
  refine ncall_ct (run_c (x.ext (hE.trans E1)) hT (hb.ext (hE.trans E1)) hl) ?_
  rw [hp]
  rintro r M ⟨uu, du, rfl, nv, nc⟩
  obtain ⟨M1, hst2, eM, gM, nM⟩ := out_box (e := p.e) (k := p.s) nv.sl nc.sl
  have E2 : Ext K1 M1 := nv.ext.trans eM
  have gK1 : M1.get K.next = some (.row [.int .i64 o.e, vv, cv, .int .i64 o.s] 0 false) := (E2.get _ (by omega)).trans gK
  have c0 : cellAt M1 K.next 0 = some (.int .i64 o.e) := cellAt_row gK1
  have c1 : cellAt M1 K.next 1 = some vv := cellAt_row gK1
  have c2 : cellAt M1 K.next 2 = some cv := cellAt_row gK1
  have c3 : cellAt M1 K.next 3 = some (.int .i64 o.s) := cellAt_row gK1
  have d1 : cellsAt M1 K.next 0 4 = some (outV o vv cv) := by rw [cellsAt_row gK1 (Nat.le_of_ble_eq_true rfl)]; rfl
  have d2 : cellsAt M1 M.next 0 4 = some (outV p uu du) := by rw [cellsAt_row gM (Nat.le_of_ble_eq_true rfl)]; rfl
  have av := (mv.arg.ext eK).ext E2
  have ac := (mc.arg.ext eK).ext E2
  have lv : ∀ K, dLen Try.prog #[23] vv K = some (.int .i64 (o.vs.length : Nat)) := av.lens (P := Try.prog) (ts := #[23]) (t := 23) rfl isl_23
  have lc : ∀ K, dLen Try.prog #[30] cv K = some (.int .i64 (o.ch.length : Nat)) := ac.lens (P := Try.prog) (ts := #[30]) (t := 30) rfl isl_30
  have eAll : Ext h M1 := hE.trans (E1.trans E2)
  simp -implicitDefEqProofs (disch:=first|omega|simp only [go_sem,Nat.reduceAdd]) only [go_sem,Int.reduceLT,Int.reduceLE,Int.reduceEq,reduceIte,true_and, XEnd, hst2]
  refine ncall begun_c ?_
  simp -implicitDefEqProofs (disch:=first|omega|simp only [go_sem,Nat.reduceAdd]) only [go_sem,Int.reduceLT,Int.reduceLE,Int.reduceEq,reduceIte,true_and, dPick_t, dPick_f, c3, s0, min_i64, w1, s1]
  have fin : o.e ≠ 2 → o = p := fun hne => by
    rcases q4 with q4 | q4
    · exact absurd q4 hne
    · exact q4
  have hvl : o.vs.length ≤ 4294967296 ∧ o.ch.length ≤ 4294967296 := by
    have h1 := runF_small (t := t) (l := l) (f := f)
    rw [ho] at h1
    omega
  by_cases he : o.e = 0
  · have he2 : o.e ≠ 2 := by omega
    simp -implicitDefEqProofs (disch:=first|omega|simp only [go_sem,Nat.reduceAdd]) only [go_sem,Int.reduceLT,Int.reduceLE,Int.reduceEq,reduceIte,true_and, c0, he, dPick_t, dPick_f, d1, d2]
    refine ncall (refSame_c av ac (nv.arg.ext eM) (nc.arg.ext eM) hvl.1 hvl.2) ?_
    simp -implicitDefEqProofs (disch:=first|omega|simp only [go_sem,Nat.reduceAdd]) only [go_sem,Int.reduceLT,Int.reduceLE,Int.reduceEq,reduceIte,true_and]
    exact ⟨_, rfl, by rw [decide_eq_true (fin he2)], eAll⟩
  · obtain ⟨z1, z2⟩ := q3 he
    have lv : ∀ K, dLen Try.prog #[23] vv K = some (.int .i64 0) := fun K => by rw [lv K, z1]; rfl
    have lc : ∀ K, dLen Try.prog #[30] cv K = some (.int .i64 0) := fun K => by rw [lc K, z2]; rfl
    by_cases he2 : o.e = 2
    · simp -implicitDefEqProofs (disch:=first|omega|simp only [go_sem,Nat.reduceAdd]) only [go_sem,Int.reduceLT,Int.reduceLE,Int.reduceEq,reduceIte,true_and, c0, c1, c2, he2, lv, lc, dPick_t, dPick_f]
      exact ⟨_, rfl, rfl, eAll⟩
    · simp -implicitDefEqProofs (disch:=first|omega|simp only [go_sem,Nat.reduceAdd]) only [go_sem,Int.reduceLT,Int.reduceLE,Int.reduceEq,reduceIte,true_and, c0, c1, c2, he, he2, lv, lc, dPick_t, dPick_f, d1, d2]
      refine ncall (refSame_c av ac (nv.arg.ext eM) (nc.arg.ext eM) hvl.1 hvl.2) ?_
      simp -implicitDefEqProofs (disch:=first|omega|simp only [go_sem,Nat.reduceAdd]) only [go_sem,Int.reduceLT,Int.reduceLE,Int.reduceEq,reduceIte,true_and]
      exact ⟨_, rfl, by rw [decide_eq_true (fin he2)], eAll⟩
end Go.Proofs.Ythjmkmoiopmfcaa

namespace Go.Proofs.Ythjmkmoiopmfcaa.lawEnds
open Go.D
open Go.ChangeShapes Go.WideShapes Go.ChangeAt Go.RowKit
theorem own : ownKnob Try.prog.godebug = none := by kernel_rfl
set_option maxRecDepth 100000 in
theorem lifted (os : Os) (started : os.Started) (H : Type) (enc : TypeId × Value → H) (F : Stop.Interp) :
    ReturnsInHanded {} Try.checked os 5 .any ((Rows.OpenSpec.upto Rows.evalEndsSpec).pre6 enc Try.prog Try.f5 Rows.evalEndsUptoRow.domain false) (((Rows.OpenSpec.upto Rows.evalEndsSpec).at F).post enc Try.prog Try.f5 false true false false) := by
  refine returnsInHanded_of_cond (C := Try.checked) (s := Rows.OpenSpec.upto Rows.evalEndsSpec) (k := Rows.uptoSmall) rfl own started (by kernel_rfl) Try.func5
    (OpenSpec.witness (enc := enc) (C := Try.checked) (s := Rows.OpenSpec.upto Rows.evalEndsSpec) (k := Rows.uptoSmall) rfl false ⟨#[], #[.agg #[.int .i64 0, .int .i64 0, .slice none 0 0, .slice none 0 0, .slice none 0 0, .slice none 0 0], .slice none 0 0, .int .u16 0, .int .u16 0], []⟩ 8 (by kernel_rfl) (by kernel_rfl) (by kernel_rfl)
      (x := ([.agg [.lit (.int .i64 0), .lit (.int .i64 0), .nil, .nil, .nil, .nil], .nil, .lit (.int .u16 0), .lit (.int .u16 0)], [], [])) (by kernel_rfl) rfl (by kernel_rfl)) ?_
  intro W base args ds gs before hval hW _ hk _
  refine law_kept (by kernel_rfl)
    (.cons (agg := true) par_txn lay_txn (.cons (agg := false) par_pairs lay_pairs (.cons (agg := false) par_u16 lay_u16 (.cons (agg := false) par_u16 lay_u16 .nil)))) (tb := 4) (by kernel_rfl) (by kernel_rfl) rfl (fun ds hl => ?_) (fun h vs x hng hq hB => ?_) W base args ds gs before hval hW hk
  · match ds, hl with
    | [d0, d1, d2, d3], _ => rfl
  · obtain ⟨cs, vs1, rfl, h1, cs2, vs2, rfl, ⟨v, rfl, hv⟩, cs3, vs3, rfl, ⟨rfl, h3⟩, cs4, vs4, rfl, ⟨rfl, h4⟩, rfl⟩ := hq
    obtain ⟨vc, va, vr, vw, rfl, _, _, tx⟩ := txn_in h1
    have := sumB_len (fun _ => 3) x.2.1
    exact (endsLaw_c tx (txn_len (by omega)) hv (by omega) (inK_u16.1 h3) (inK_u16.1 h4)).ct rfl
theorem p1 : Try.pinned.checked.prog.funcNamed Rows.evalEndsUptoRow.func = some 5 := by kernel_rfl
theorem p2 : joinedFacts Try.pinned.checked.prog 5 Try.f5 (Rows.OpenSpec.upto Rows.evalEndsSpec).bare Rows.evalEndsUptoRow = true := by kernel_rfl
theorem p3 : Try.f5.isInstance Try.pinned.checked.prog Rows.evalEndsUptoRow.origin Rows.evalEndsUptoRow.targs := of_decide_eq_true (by kernel_rfl)
theorem p4 : Try.f5.isWrapper Try.pinned.checked.prog Rows.evalEndsUptoRow.wrapper Rows.evalEndsUptoRow.mainSum := by unfold Func.isWrapper; first | (rw [if_pos (by decide +kernel)]; kernel_rfl) | (rw [if_neg (by decide +kernel)]; exact ⟨rfl, rfl⟩)
theorem proved : Rows.EvalEndsUptoSaid :=
  OpenClaim.holds_of_cond 5 Try.f5 rfl rfl rfl rfl rfl rfl rfl ⟨rfl, rfl, rfl, rfl, rfl⟩ rfl rfl rfl rfl rfl p1 Try.func5 p2 p3 p4
    (fun os started H enc _ F => lifted os started H enc F)
end Go.Proofs.Ythjmkmoiopmfcaa.lawEnds
