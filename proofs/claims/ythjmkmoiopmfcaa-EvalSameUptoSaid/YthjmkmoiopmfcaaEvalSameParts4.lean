/-
EvalSame: which outcomes are the same is what the reference says, for every input of bulk at most 1048576. Conditions: none.
-/
import Derived.Test.YthjmkmoiopmfcaaRows
import Derived.WalkKit
import Derived.ProofKit
import Derived.OpenShut
import Derived.JoinedCond
import Derived.Test.YthjmkmoiopmfcaaBase1
import Derived.Test.YthjmkmoiopmfcaaBase2
import Derived.Test.YthjmkmoiopmfcaaEvalSameParts1
import Derived.Test.YthjmkmoiopmfcaaEvalSameParts2
import Derived.Test.YthjmkmoiopmfcaaEvalSameParts3
set_option linter.unusedSimpArgs false
set_option linter.unusedVariables false
namespace Go.Proofs.Ythjmkmoiopmfcaa
open Go.D
set_option maxRecDepth 100000

theorem fld_chg : fldsOf Try.prog 51 = some [(44, 0), (2, 2), (4, 3)] := by kernel_rfl
theorem grd_chg : Try.prog.eqGuardType Try.prog.depth 51 = false := by kernel_rfl
theorem und_bool : Try.prog.underlying 4 = some .bool := by kernel_rfl
theorem Pair.ext_iff' {a b : Pair} : a = b ↔ a.k = b.k ∧ a.v = b.v := by cases a; cases b; simp
theorem Change.ext_iff' {a b : Change} : a = b ↔ a.k = b.k ∧ a.v = b.v ∧ a.e = b.e := by cases a; cases b; simp
theorem chg_eq (d : Nat) (a b : Change) : quick Try.prog (Op.equalIn (d + 1 + 1 + 1) 51 (chgV a) (chgV b)) = some (.inr (decide (a = b))) := by
  refine quick_struct fld_chg ⟨keyV a.k, keyV b.k, _, _, (quick_part_agg agg_44).trans rfl, (quick_part_agg agg_44).trans rfl, key_eq d a.k b.k, ⟨_, _, _, _, quick_part_one one_2 rfl, quick_part_one one_2 rfl, quick_int und_i64,
    ⟨_, _, _, _, quick_part_one one_4 rfl, quick_part_one one_4 rfl, quick_bool und_bool, rfl, rfl⟩, rfl⟩, ?_⟩
  have hb : decide (a.e = b.e) = (a.e == b.e) := by cases a.e <;> cases b.e <;> rfl
  rw [decide_eq_decide.2 Change.ext_iff', Bool.decide_and, Bool.decide_and, Bool.and_true, hb]
  rfl
theorem bin_chg {a b : Change} {h : DHeap} {ox oy : Operand} : dBinOp Try.prog .neq 51 ox oy (chgV a) (chgV b) h = .ok (.value (.bool (!decide (a = b)))) h := (bin_agg rfl rfl grd_chg (chg_eq 9997 a b)).2
theorem sameL_dec {α : Type} [DecidableEq α] : ∀ {l m : List α}, sameL (fun a b => decide (a = b)) l m = decide (l = m)
  | [], [] => by simp [sameL]
  | [], b :: m => by simp [sameL]
  | a :: l, [] => by simp [sameL]
  | a :: l, b :: m => by
    simp only [sameL, sameL_dec (l := l) (m := m)]
    rw [← Bool.decide_and]
    exact decide_eq_decide.2 ⟨fun h => by rw [h.1, h.2], fun h => List.cons.inj h⟩
theorem eqChg_c {h : DHeap} {a b : Value} {l m : List Change} (ha : Arg fChange.rep h a l) (hb : Arg fChange.rep h b m) (hlen : l.length ≤ 4294967296) :
    DC Try.prog 25 [a, b] h (.ret (.bool (decide (l = m)))) h := by
  rw [← sameL_dec]
  refine Ct.pure (go_25 (by simp) ?_) (vin_bool _)
  have ea : ∀ K, dLen Try.prog #[30] a K = some (.int .i64 (l.length : Nat)) := ha.lens (P := Try.prog) (ts := #[30]) (t := 30) rfl isl_30
  have eb : ∀ K, dLen Try.prog #[30] b K = some (.int .i64 (m.length : Nat)) := hb.lens (P := Try.prog) (ts := #[30]) (t := 30) rfl isl_30
  by_cases hl : l.length = m.length
  case neg =>
    have hli : ¬ ((l.length : Nat) : Int) = (m.length : Nat) := by omega
    simp -implicitDefEqProofs (disch:=first|omega|simp only [go_sem,Nat.reduceAdd]) only [go_sem,Int.reduceLT,Int.reduceLE,Int.reduceEq,reduceIte,true_and, c25, ea, eb, hli]
    exact ⟨_, rfl, by rw [sameL_len hl], .refl h⟩
  have hli : ((l.length : Nat) : Int) = (m.length : Nat) := by omega
  simp -implicitDefEqProofs (disch:=first|omega|simp only [go_sem,Nat.reduceAdd]) only [go_sem,Int.reduceLT,Int.reduceLE,Int.reduceEq,reduceIte,true_and, c25, ea, eb, hli]
  refine xloop (σ := Nat) (by kernel_rfl) (fun i s => s.df = [] ∧ s.rd = none ∧ s.h = h ∧ s.fr 0 = some a ∧ s.fr 1 = some b ∧ s.fr 12 = some (.int .i64 (l.length : Nat)) ∧ s.fr 13 = some (.int .i64 (i : Nat)) ∧ i ≤ l.length ∧ sameL (fun a b : Change => decide (a = b)) (l.drop i) (m.drop i) = sameL (fun a b : Change => decide (a = b)) l m) (fun i => l.length - i) 0 ?_ ?_
  · simp -implicitDefEqProofs (disch:=first|omega|simp only [go_sem,Nat.reduceAdd]) only [go_sem,Int.reduceLT,Int.reduceLE,Int.reduceEq,reduceIte,true_and, hli]
    exact ⟨by trivial, Nat.zero_le _, by rw [List.drop_zero, List.drop_zero]⟩
  · rintro i ⟨fr, df, hh, rd⟩ K hK hX ⟨rfl, rfl, rfl, f0, f1, f12, f13, hi, ho⟩
    simp only at f0 f1 f12 f13
    simp -implicitDefEqProofs (disch:=first|omega|simp only [go_sem,Nat.reduceAdd]) only [go_sem,Int.reduceLT,Int.reduceLE,Int.reduceEq,reduceIte,true_and, f0, f1, f12, f13]
    refine XIf_dec (fun hc1 => ?_) (fun hc1 => ?_)
    · have hj : i < l.length := by omega
      have hk : i < m.length := by omega
      obtain ⟨id1, o1, e1, _, hat1⟩ := ha.idx (P := Try.prog) (t := 30) el_30 (k := .i64) (i := i) (x := l[i]) (by simp)
      obtain ⟨id2, o2, e2, _, hat2⟩ := hb.idx (P := Try.prog) (t := 30) el_30 (k := .i64) (i := i) (x := m[i]) (by simp)
      have hw := wrap_succ hj (by omega)
      have l1 : cellsAt hh id1 o1 4 = some (chgV l[i]) := hat1.flat.2.1
      have l2 : cellsAt hh id2 o2 4 = some (chgV m[i]) := hat2.flat.2.1
      rw [sameL_drop hj hk] at ho
      simp -implicitDefEqProofs (disch:=first|omega|simp only [go_sem,Nat.reduceAdd]) only [go_sem,Int.reduceLT,Int.reduceLE,Int.reduceEq,reduceIte,true_and, f13]
      refine yr_25_0 rfl ?_
      by_cases hlt : l[i] = m[i]
      · rw [decide_eq_true hlt, Bool.true_and] at ho
        simp -implicitDefEqProofs (disch:=first|omega|simp only [go_sem,Nat.reduceAdd]) only [go_sem,Int.reduceLT,Int.reduceLE,Int.reduceEq,reduceIte,true_and, g25_0, q25_0, f0, f1, f13, e1, e2, l1, l2, bin_chg, hlt, hw]
        refine hK (i + 1) _ ?_ (by omega)
        exact ⟨by trivial, by trivial, by trivial, (vy f0), (vy f1), (vy f12), vz, by omega, ho⟩
      · rw [decide_eq_false hlt, Bool.false_and] at ho
        simp -implicitDefEqProofs (disch:=first|omega|simp only [go_sem,Nat.reduceAdd]) only [go_sem,Int.reduceLT,Int.reduceLE,Int.reduceEq,reduceIte,true_and, g25_0, q25_0, f0, f1, f13, e1, e2, l1, l2, bin_chg, hlt]
        refine hX _ _ (by simp) ?_
        simp -implicitDefEqProofs (disch:=first|omega|simp only [go_sem,Nat.reduceAdd]) only [go_sem,Int.reduceLT,Int.reduceLE,Int.reduceEq,reduceIte,true_and]
        exact ⟨_, rfl, by rw [← ho], .refl hh⟩
    · obtain rfl : i = l.length := by omega
      refine hX _ _ (by simp) ?_
      simp -implicitDefEqProofs (disch:=first|omega|simp only [go_sem,Nat.reduceAdd]) only [go_sem,Int.reduceLT,Int.reduceLE,Int.reduceEq,reduceIte,true_and]
      exact ⟨_, rfl, by rw [← ho, sameL_end hl], .refl hh⟩
theorem sameInts_c {h : DHeap} {a b : Value} {l m : List Int} (ha : Arg fI64.rep h a l) (hb : Arg fI64.rep h b m) (hlen : l.length ≤ 4294967296) :
    DC Try.prog 38 [a, b] h (.ret (.bool (decide (l = m)))) h := by
  rw [← sameL_dec]
  refine Ct.pure (go_38 (by simp) ?_) (vin_bool _)
  have ea : ∀ K, dLen Try.prog #[23] a K = some (.int .i64 (l.length : Nat)) := ha.lens (P := Try.prog) (ts := #[23]) (t := 23) rfl isl_23
  have eb : ∀ K, dLen Try.prog #[23] b K = some (.int .i64 (m.length : Nat)) := hb.lens (P := Try.prog) (ts := #[23]) (t := 23) rfl isl_23
  by_cases hl : l.length = m.length
  case neg =>
    have hli : ¬ ((l.length : Nat) : Int) = (m.length : Nat) := by omega
    simp -implicitDefEqProofs (disch:=first|omega|simp only [go_sem,Nat.reduceAdd]) only [go_sem,Int.reduceLT,Int.reduceLE,Int.reduceEq,reduceIte,true_and, c38, ea, eb, hli]
    exact ⟨_, rfl, by rw [sameL_len hl], .refl h⟩
  have hli : ((l.length : Nat) : Int) = (m.length : Nat) := by omega
  simp -implicitDefEqProofs (disch:=first|omega|simp only [go_sem,Nat.reduceAdd]) only [go_sem,Int.reduceLT,Int.reduceLE,Int.reduceEq,reduceIte,true_and, c38, ea, eb, hli]
  refine xloop (σ := Nat) (by kernel_rfl) (fun i s => s.df = [] ∧ s.rd = none ∧ s.h = h ∧ s.fr 0 = some a ∧ s.fr 1 = some b ∧ s.fr 5 = some (.int .i64 (i : Nat)) ∧ i ≤ l.length ∧ sameL (fun a b : Int => decide (a = b)) (l.drop i) (m.drop i) = sameL (fun a b : Int => decide (a = b)) l m) (fun i => l.length - i) 0 ?_ ?_
  · simp -implicitDefEqProofs (disch:=first|omega|simp only [go_sem,Nat.reduceAdd]) only [go_sem,Int.reduceLT,Int.reduceLE,Int.reduceEq,reduceIte,true_and]
    exact ⟨by trivial, Nat.zero_le _, by rw [List.drop_zero, List.drop_zero]⟩
  · rintro i ⟨fr, df, hh, rd⟩ K hK hX ⟨rfl, rfl, rfl, f0, f1, f5, hi, ho⟩
    simp only at f0 f1 f5
    simp -implicitDefEqProofs (disch:=first|omega|simp only [go_sem,Nat.reduceAdd]) only [go_sem,Int.reduceLT,Int.reduceLE,Int.reduceEq,reduceIte,true_and, f0, f1, f0, f5, ea]
    refine XIf_dec (fun hc1 => ?_) (fun hc1 => ?_)
    · have hj : i < l.length := by omega
      have hk : i < m.length := by omega
      obtain ⟨id1, o1, e1, _, hat1⟩ := ha.idx (P := Try.prog) (t := 23) el_23 (k := .i64) (i := i) (x := l[i]) (by simp)
      obtain ⟨id2, o2, e2, _, hat2⟩ := hb.idx (P := Try.prog) (t := 23) el_23 (k := .i64) (i := i) (x := m[i]) (by simp)
      have hw := wrap_succ hj (by omega)
      have l1 := hat1.int
      have l2 := hat2.int
      rw [sameL_drop hj hk] at ho
      simp -implicitDefEqProofs (disch:=first|omega|simp only [go_sem,Nat.reduceAdd]) only [go_sem,Int.reduceLT,Int.reduceLE,Int.reduceEq,reduceIte,true_and, f5]
      refine yr_38_0 rfl ?_
      by_cases hlt : l[i] = m[i]
      · rw [decide_eq_true hlt, Bool.true_and] at ho
        simp -implicitDefEqProofs (disch:=first|omega|simp only [go_sem,Nat.reduceAdd]) only [go_sem,Int.reduceLT,Int.reduceLE,Int.reduceEq,reduceIte,true_and, g38_0, q38_0, f0, f1, f5, e1, e2, l1, l2, hlt, hw]
        refine hK (i + 1) _ ?_ (by omega)
        exact ⟨by trivial, by trivial, by trivial, (vy f0), (vy f1), vz, by omega, ho⟩
      · rw [decide_eq_false hlt, Bool.false_and] at ho
        simp -implicitDefEqProofs (disch:=first|omega|simp only [go_sem,Nat.reduceAdd]) only [go_sem,Int.reduceLT,Int.reduceLE,Int.reduceEq,reduceIte,true_and, g38_0, q38_0, f0, f1, f5, e1, e2, l1, l2, hlt]
        refine hX _ _ (by simp) ?_
        simp -implicitDefEqProofs (disch:=first|omega|simp only [go_sem,Nat.reduceAdd]) only [go_sem,Int.reduceLT,Int.reduceLE,Int.reduceEq,reduceIte,true_and]
        exact ⟨_, rfl, by rw [← ho], .refl hh⟩
    · obtain rfl : i = l.length := by omega
      refine hX _ _ (by simp) ?_
      simp -implicitDefEqProofs (disch:=first|omega|simp only [go_sem,Nat.reduceAdd]) only [go_sem,Int.reduceLT,Int.reduceLE,Int.reduceEq,reduceIte,true_and]
      exact ⟨_, rfl, by rw [← ho, sameL_end hl], .refl hh⟩
abbrev outV (o : Outc) (vv cv : Value) : Value := .agg #[.int .i64 o.e, vv, cv, .int .i64 o.s]
theorem Outc.eq_iff {a b : Outc} : a = b ↔ a.e = b.e ∧ a.s = b.s ∧ a.vs = b.vs ∧ a.ch = b.ch := by
  cases a; cases b
  constructor
  · intro h
    cases h
    exact ⟨rfl, rfl, rfl, rfl⟩
  · rintro ⟨h1, h2, h3, h4⟩
    simp only at h1 h2 h3 h4
    rw [h1, h2, h3, h4]
theorem Outc.dec {a b : Outc} : decide (a = b) = (decide (a.e = b.e) && (decide (a.s = b.s) && (decide (a.vs = b.vs) && decide (a.ch = b.ch)))) := by
  rw [decide_eq_decide.2 Outc.eq_iff, Bool.decide_and, Bool.decide_and, Bool.decide_and]
theorem evalSame_c {h : DHeap} {a b : Outc} {va ca vb cb : Value} (h1 : Arg fI64.rep h va a.vs) (h2 : Arg fChange.rep h ca a.ch) (h3 : Arg fI64.rep h vb b.vs) (h4 : Arg fChange.rep h cb b.ch) (hl : a.vs.length ≤ 4294967296) (hl2 : a.ch.length ≤ 4294967296) :
    DC Try.prog 24 [outV a va ca, outV b vb cb] h (.ret (.bool (decide (a = b)))) h := by
  refine Ct.pure (go_24 (by simp) ?_) (vin_bool _)
  rw [Outc.dec]
  obtain ⟨H, hH⟩ : ∃ H, H = (h.push (.row [.int .i64 a.e, va, ca, .int .i64 a.s] 0 false)).push (.row [.int .i64 b.e, vb, cb, .int .i64 b.s] 0 false) := ⟨_, rfl⟩
  have hE : Ext h H := by rw [hH]; exact (Ext.push1 _ _).push _
  have ga : H.get h.next = some (.row [.int .i64 a.e, va, ca, .int .i64 a.s] 0 false) := by rw [hH]; exact get_p1
  have gb : H.get (h.next + 1) = some (.row [.int .i64 b.e, vb, cb, .int .i64 b.s] 0 false) := by rw [hH]; exact get_push_same _ _
  have qa : (outV a va ca).cells.toList = [.int .i64 a.e, va, ca, .int .i64 a.s] := rfl
  have qb : (outV b vb cb).cells.toList = [.int .i64 b.e, vb, cb, .int .i64 b.s] := rfl
  simp -implicitDefEqProofs (disch:=first|omega|simp only [go_sem,Nat.reduceAdd]) only [go_sem,Int.reduceLT,Int.reduceLE,Int.reduceEq,reduceIte,true_and, c24, qa, qb, next_push, ← hH]
  by_cases p1 : a.e = b.e
  case neg =>
    simp -implicitDefEqProofs (disch:=first|omega|simp only [go_sem,Nat.reduceAdd]) only [go_sem,Int.reduceLT,Int.reduceLE,Int.reduceEq,reduceIte,true_and, cellAt_row ga, cellAt_row gb, p1, dPick_t, dPick_f]
    exact ⟨_, rfl, by simp, hE⟩
  have p1' := eq_true p1
  by_cases p2 : a.s = b.s
  case neg =>
    simp -implicitDefEqProofs (disch:=first|omega|simp only [go_sem,Nat.reduceAdd]) only [go_sem,Int.reduceLT,Int.reduceLE,Int.reduceEq,reduceIte,true_and, cellAt_row ga, cellAt_row gb, p1', p2, dPick_t, dPick_f]
    exact ⟨_, rfl, by simp, hE⟩
  have p2' := eq_true p2
  rw [decide_eq_true p1, decide_eq_true p2, Bool.true_and, Bool.true_and]
  simp -implicitDefEqProofs (disch:=first|omega|simp only [go_sem,Nat.reduceAdd]) only [go_sem,Int.reduceLT,Int.reduceLE,Int.reduceEq,reduceIte,true_and, cellAt_row ga, cellAt_row gb, p1', p2', dPick_t, dPick_f]
  refine ncall (eqInts_c (h1.ext hE) (h3.ext hE) hl) ?_
  rw [sameL_dec]
  by_cases p3 : a.vs = b.vs
  case neg =>
    rw [decide_eq_false p3]
    simp -implicitDefEqProofs (disch:=first|omega|simp only [go_sem,Nat.reduceAdd]) only [go_sem,Int.reduceLT,Int.reduceLE,Int.reduceEq,reduceIte,true_and, dPick_t, dPick_f]
    exact ⟨_, rfl, rfl, hE⟩
  rw [decide_eq_true p3]
  simp -implicitDefEqProofs (disch:=first|omega|simp only [go_sem,Nat.reduceAdd]) only [go_sem,Int.reduceLT,Int.reduceLE,Int.reduceEq,reduceIte,true_and, cellAt_row ga, cellAt_row gb, dPick_t, dPick_f]
  refine ncall (eqChg_c (h2.ext hE) (h4.ext hE) hl2) ?_
  simp -implicitDefEqProofs (disch:=first|omega|simp only [go_sem,Nat.reduceAdd]) only [go_sem,Int.reduceLT,Int.reduceLE,Int.reduceEq,reduceIte,true_and, dPick_t, dPick_f]
  exact ⟨_, rfl, rfl, hE⟩
set_option maxHeartbeats 1000000 in
theorem refSame_c {h : DHeap} {a b : Outc} {va ca vb cb : Value} (h1 : Arg fI64.rep h va a.vs) (h2 : Arg fChange.rep h ca a.ch) (h3 : Arg fI64.rep h vb b.vs) (h4 : Arg fChange.rep h cb b.ch) (hl : a.vs.length ≤ 4294967296) (hl2 : a.ch.length ≤ 4294967296) :
    DC Try.prog 12 [outV a va ca, outV b vb cb] h (.ret (.bool (decide (a = b)))) h := by
  refine Ct.pure (go_12 (by simp) ?_) (vin_bool _)
  rw [Outc.dec]
  obtain ⟨H, hH⟩ : ∃ H, H = (h.push (.row [.int .i64 a.e, va, ca, .int .i64 a.s] 0 false)).push (.row [.int .i64 b.e, vb, cb, .int .i64 b.s] 0 false) := ⟨_, rfl⟩
  have hE : Ext h H := by rw [hH]; exact (Ext.push1 _ _).push _
  have ga : H.get h.next = some (.row [.int .i64 a.e, va, ca, .int .i64 a.s] 0 false) := by rw [hH]; exact get_p1
  have gb : H.get (h.next + 1) = some (.row [.int .i64 b.e, vb, cb, .int .i64 b.s] 0 false) := by rw [hH]; exact get_push_same _ _
  have qa : (outV a va ca).cells.toList = [.int .i64 a.e, va, ca, .int .i64 a.s] := rfl
  have qb : (outV b vb cb).cells.toList = [.int .i64 b.e, vb, cb, .int .i64 b.s] := rfl
  have ea : ∀ K, dLen Try.prog #[30] ca K = some (.int .i64 (a.ch.length : Nat)) := h2.lens (P := Try.prog) (ts := #[30]) (t := 30) rfl isl_30
  have eb : ∀ K, dLen Try.prog #[30] cb K = some (.int .i64 (b.ch.length : Nat)) := h4.lens (P := Try.prog) (ts := #[30]) (t := 30) rfl isl_30
  simp -implicitDefEqProofs (disch:=first|omega|simp only [go_sem,Nat.reduceAdd]) only [go_sem,Int.reduceLT,Int.reduceLE,Int.reduceEq,reduceIte,true_and, c12, qa, qb, next_push, ← hH]
  by_cases p1 : a.e = b.e
  case neg =>
    simp -implicitDefEqProofs (disch:=first|omega|simp only [go_sem,Nat.reduceAdd]) only [go_sem,Int.reduceLT,Int.reduceLE,Int.reduceEq,reduceIte,true_and, cellAt_row ga, cellAt_row gb, p1, dPick_t, dPick_f]
    exact ⟨_, rfl, by simp, hE⟩
  have p1' := eq_true p1
  by_cases p2 : a.s = b.s
  case neg =>
    simp -implicitDefEqProofs (disch:=first|omega|simp only [go_sem,Nat.reduceAdd]) only [go_sem,Int.reduceLT,Int.reduceLE,Int.reduceEq,reduceIte,true_and, cellAt_row ga, cellAt_row gb, p1', p2, dPick_t, dPick_f]
    exact ⟨_, rfl, by simp, hE⟩
  have p2' := eq_true p2
  rw [decide_eq_true p1, decide_eq_true p2, Bool.true_and, Bool.true_and]
  by_cases p4 : a.ch.length = b.ch.length
  case neg =>
    have p4' : ¬ ((a.ch.length : Nat) : Int) = (b.ch.length : Nat) := by omega
    simp -implicitDefEqProofs (disch:=first|omega|simp only [go_sem,Nat.reduceAdd]) only [go_sem,Int.reduceLT,Int.reduceLE,Int.reduceEq,reduceIte,true_and, cellAt_row ga, cellAt_row gb, p1', p2', ea, eb, p4', dPick_t, dPick_f]
    exact ⟨_, rfl, by rw [decide_eq_false (fun e : a.ch = b.ch => p4 (by rw [e])), Bool.and_false], hE⟩
  have p4' : ((a.ch.length : Nat) : Int) = (b.ch.length : Nat) := by omega
  simp -implicitDefEqProofs (disch:=first|omega|simp only [go_sem,Nat.reduceAdd]) only [go_sem,Int.reduceLT,Int.reduceLE,Int.reduceEq,reduceIte,true_and, cellAt_row ga, cellAt_row gb, p1', p2', ea, eb, p4', dPick_t, dPick_f]
  refine ncall (sameInts_c (h1.ext hE) (h3.ext hE) hl) ?_
  by_cases p3 : a.vs = b.vs
  case neg =>
    rw [decide_eq_false p3]
    simp -implicitDefEqProofs (disch:=first|omega|simp only [go_sem,Nat.reduceAdd]) only [go_sem,Int.reduceLT,Int.reduceLE,Int.reduceEq,reduceIte,true_and, dPick_t, dPick_f]
    exact ⟨_, rfl, rfl, hE⟩
  rw [decide_eq_true p3, Bool.true_and, ← sameL_dec]
  simp -implicitDefEqProofs (disch:=first|omega|simp only [go_sem,Nat.reduceAdd]) only [go_sem,Int.reduceLT,Int.reduceLE,Int.reduceEq,reduceIte,true_and, dPick_t, dPick_f]
  have la : cellAt H h.next 2 = some ca := cellAt_row ga
  have lb : cellAt H (h.next + 1) 2 = some cb := cellAt_row gb
  refine xloop (σ := Nat) (by kernel_rfl) (fun i s => s.df = [] ∧ s.rd = none ∧ s.h = H ∧ s.fr 2 = some (.pointer (some ⟨h.next, 0, none⟩)) ∧ s.fr 3 = some (.pointer (some ⟨h.next + 1, 0, none⟩)) ∧ s.fr 5 = some (.int .i64 (i : Nat)) ∧ i ≤ a.ch.length ∧ sameL (fun a b : Change => decide (a = b)) (a.ch.drop i) (b.ch.drop i) = sameL (fun a b : Change => decide (a = b)) a.ch b.ch) (fun i => a.ch.length - i) 0 ?_ ?_
  · simp -implicitDefEqProofs (disch:=first|omega|simp only [go_sem,Nat.reduceAdd]) only [go_sem,Int.reduceLT,Int.reduceLE,Int.reduceEq,reduceIte,true_and]
    exact ⟨by trivial, Nat.zero_le _, by rw [List.drop_zero, List.drop_zero]⟩
  rintro i ⟨fr, df, K, rd⟩ K' hK' hX ⟨hdf, hrd, hK, f2, f3, f5, hi, ho⟩
  simp only at hdf hrd hK f2 f3 f5
  subst hdf hrd hK
  simp -implicitDefEqProofs (disch:=first|omega|simp only [go_sem,Nat.reduceAdd]) only [go_sem,Int.reduceLT,Int.reduceLE,Int.reduceEq,reduceIte,true_and, f2, f5, la, ea]
  refine XIf_dec (fun hc1 => ?_) (fun hc1 => ?_)
  · have hj : i < a.ch.length := by omega
    have hjm : i < b.ch.length := by omega
    obtain ⟨id1, o1, e1, _, hat1⟩ := (h2.ext hE).idx (P := Try.prog) (t := 30) el_30 (k := .i64) (i := i) (x := a.ch[i]) (by simp)
    obtain ⟨id2, o2, e2, _, hat2⟩ := (h4.ext hE).idx (P := Try.prog) (t := 30) el_30 (k := .i64) (i := i) (x := b.ch[i]) (by simp)
    have hw := wrap_succ hj (by omega)
    have l1 : cellsAt K id1 o1 4 = some (chgV a.ch[i]) := hat1.flat.2.1
    have l2 : cellsAt K id2 o2 4 = some (chgV b.ch[i]) := hat2.flat.2.1
    rw [sameL_drop hj hjm] at ho
    simp -implicitDefEqProofs (disch:=first|omega|simp only [go_sem,Nat.reduceAdd]) only [go_sem,Int.reduceLT,Int.reduceLE,Int.reduceEq,reduceIte,true_and]
    refine yr_12_0 rfl ?_
    by_cases hlt : a.ch[i] = b.ch[i]
    · rw [decide_eq_true hlt, Bool.true_and] at ho
      simp -implicitDefEqProofs (disch:=first|omega|simp only [go_sem,Nat.reduceAdd]) only [go_sem,Int.reduceLT,Int.reduceLE,Int.reduceEq,reduceIte,true_and, g12_0, q12_0, f2, f3, f5, la, lb, e1, e2, l1, l2, bin_chg, hlt, hw]
      refine hK' (i + 1) _ ?_ (by omega)
      exact ⟨by trivial, by trivial, by trivial, (vy f2), (vy f3), vz, by omega, ho⟩
    · rw [decide_eq_false hlt, Bool.false_and] at ho
      simp -implicitDefEqProofs (disch:=first|omega|simp only [go_sem,Nat.reduceAdd]) only [go_sem,Int.reduceLT,Int.reduceLE,Int.reduceEq,reduceIte,true_and, g12_0, q12_0, f2, f3, f5, la, lb, e1, e2, l1, l2, bin_chg, hlt]
      refine hX _ _ (by simp) ?_
      simp -implicitDefEqProofs (disch:=first|omega|simp only [go_sem,Nat.reduceAdd]) only [go_sem,Int.reduceLT,Int.reduceLE,Int.reduceEq,reduceIte,true_and]
      exact ⟨_, rfl, by rw [← ho], hE⟩
  · obtain rfl : i = a.ch.length := by omega
    refine hX _ _ (by simp) ?_
    simp -implicitDefEqProofs (disch:=first|omega|simp only [go_sem,Nat.reduceAdd]) only [go_sem,Int.reduceLT,Int.reduceLE,Int.reduceEq,reduceIte,true_and]
    exact ⟨_, rfl, by rw [← ho, sameL_end p4], hE⟩
end Go.Proofs.Ythjmkmoiopmfcaa

namespace Go.Proofs.Ythjmkmoiopmfcaa
open Go.D
set_option maxRecDepth 100000

theorem bin_eqB {a b : Bool} {h : DHeap} {ox oy : Operand} : dBinOp Try.prog .eql 4 ox oy (.bool a) (.bool b) h = .ok (.value (.bool (a == b))) h := by
  have hf : (flat3 (.bool a) && flat3 (.bool b)) = true := rfl
  simp only [dBinOp, hf, if_true, dval]
  cases a <;> cases b <;> rfl
theorem sameLaw_c {h : DHeap} {a b : Outc} {va ca vb cb : Value} (h1 : Arg fI64.rep h va a.vs) (h2 : Arg fChange.rep h ca a.ch) (h3 : Arg fI64.rep h vb b.vs) (h4 : Arg fChange.rep h cb b.ch) (hl : a.vs.length ≤ 4294967296) (hl2 : a.ch.length ≤ 4294967296) :
    DC Try.prog 7 [outV a va ca, outV b vb cb] h (.ret (.bool true)) h := by
  refine Ct.pure (go_7 (by simp) ?_) (vin_bool _)
  obtain ⟨H, hH⟩ : ∃ H, H = (h.push (.row [.int .i64 a.e, va, ca, .int .i64 a.s] 0 false)).push (.row [.int .i64 b.e, vb, cb, .int .i64 b.s] 0 false) := ⟨_, rfl⟩
  have hE : Ext h H := by rw [hH]; exact (Ext.push1 _ _).push _
  have ga : H.get h.next = some (.row [.int .i64 a.e, va, ca, .int .i64 a.s] 0 false) := by rw [hH]; exact get_p1
  have gb : H.get (h.next + 1) = some (.row [.int .i64 b.e, vb, cb, .int .i64 b.s] 0 false) := by rw [hH]; exact get_push_same _ _
  have qa : (outV a va ca).cells.toList = [.int .i64 a.e, va, ca, .int .i64 a.s] := rfl
  have qb : (outV b vb cb).cells.toList = [.int .i64 b.e, vb, cb, .int .i64 b.s] := rfl
  have la : cellsAt H h.next 0 4 = some (outV a va ca) := by rw [cellsAt_row ga (Nat.le_of_ble_eq_true rfl)]; rfl
  have lb : cellsAt H (h.next + 1) 0 4 = some (outV b vb cb) := by rw [cellsAt_row gb (Nat.le_of_ble_eq_true rfl)]; rfl
  simp -implicitDefEqProofs (disch:=first|omega|simp only [go_sem,Nat.reduceAdd]) only [go_sem,Int.reduceLT,Int.reduceLE,Int.reduceEq,reduceIte,true_and, c7, qa, qb, next_push, ← hH]
  refine yr_7_0 rfl ?_
  simp -implicitDefEqProofs (disch:=first|omega|simp only [go_sem,Nat.reduceAdd]) only [go_sem,Int.reduceLT,Int.reduceLE,Int.reduceEq,reduceIte,true_and, g7_0, q7_0, l7_0]
  refine ycall begun_c ?_
  simp -implicitDefEqProofs (disch:=first|omega|simp only [go_sem,Nat.reduceAdd]) only [go_sem,Int.reduceLT,Int.reduceLE,Int.reduceEq,reduceIte,true_and, la, lb, dPick_t, dPick_f]
  refine ycall (evalSame_c (h1.ext hE) (h2.ext hE) (h3.ext hE) (h4.ext hE) hl hl2) ?_
  simp -implicitDefEqProofs (disch:=first|omega|simp only [go_sem,Nat.reduceAdd]) only [go_sem,Int.reduceLT,Int.reduceLE,Int.reduceEq,reduceIte,true_and, la, lb]
  refine ycall (refSame_c (h1.ext hE) (h2.ext hE) (h3.ext hE) (h4.ext hE) hl hl2) ?_
  simp -implicitDefEqProofs (disch:=first|omega|simp only [go_sem,Nat.reduceAdd]) only [go_sem,Int.reduceLT,Int.reduceLE,Int.reduceEq,reduceIte,true_and, la, lb, bin_eqB, beq_self_eq_true, dPick_t, dPick_f]
  refine ycall (evalSame_c (h1.ext hE) (h2.ext hE) (h1.ext hE) (h2.ext hE) hl hl2) ?_
  simp -implicitDefEqProofs (disch:=first|omega|simp only [go_sem,Nat.reduceAdd]) only [go_sem,Int.reduceLT,Int.reduceLE,Int.reduceEq,reduceIte,true_and, la, lb, dPick_t, dPick_f]
  exact ⟨_, rfl, by simp, hE⟩
end Go.Proofs.Ythjmkmoiopmfcaa

namespace Go.Proofs.Ythjmkmoiopmfcaa.lawSame
open Go.D
open Go.ChangeShapes Go.WideShapes Go.ChangeAt Go.RowKit
theorem own : ownKnob Try.prog.godebug = none := by kernel_rfl
set_option maxRecDepth 100000 in
theorem lifted (os : Os) (started : os.Started) (H : Type) (enc : TypeId × Value → H) (F : Stop.Interp) :
    ReturnsInHanded {} Try.checked os 7 .any ((Rows.OpenSpec.upto Rows.evalSameSpec).pre6 enc Try.prog Try.f7 Rows.evalSameUptoRow.domain false) (((Rows.OpenSpec.upto Rows.evalSameSpec).at F).post enc Try.prog Try.f7 false true false false) := by
  refine returnsInHanded_of_cond (C := Try.checked) (s := Rows.OpenSpec.upto Rows.evalSameSpec) (k := Rows.uptoSmall) rfl own started (by kernel_rfl) Try.func7
    (OpenSpec.witness (enc := enc) (C := Try.checked) (s := Rows.OpenSpec.upto Rows.evalSameSpec) (k := Rows.uptoSmall) rfl false ⟨#[], #[.agg #[.int .i64 0, .slice none 0 0, .slice none 0 0, .int .i64 0], .agg #[.int .i64 0, .slice none 0 0, .slice none 0 0, .int .i64 0]], []⟩ 8 (by kernel_rfl) (by kernel_rfl) (by kernel_rfl)
      (x := ([.agg [.lit (.int .i64 0), .nil, .nil, .lit (.int .i64 0)], .agg [.lit (.int .i64 0), .nil, .nil, .lit (.int .i64 0)]], [], [])) (by kernel_rfl) rfl (by kernel_rfl)) ?_
  intro W base args ds gs before hval hW _ hk _
  refine law_kept (by kernel_rfl)
    (.cons (agg := true) par_outc lay_outc (.cons (agg := true) par_outc lay_outc .nil)) (tb := 4) (by kernel_rfl) (by kernel_rfl) rfl (fun ds hl => ?_) (fun h vs x hng hq hB => ?_) W base args ds gs before hval hW hk
  · match ds, hl with
    | [d0, d1], _ => rfl
  · obtain ⟨cs, vs1, rfl, h1, cs2, vs2, rfl, h2, rfl⟩ := hq
    obtain ⟨va, ca, rfl, a1, a2⟩ := outc_in h1
    obtain ⟨vb, cb, rfl, b1, b2⟩ := outc_in h2
    have := bulk_outc x.1
    exact (sameLaw_c a1 a2 b1 b2 (by omega) (by omega)).ct rfl
theorem p1 : Try.pinned.checked.prog.funcNamed Rows.evalSameUptoRow.func = some 7 := by kernel_rfl
theorem p2 : joinedFacts Try.pinned.checked.prog 7 Try.f7 (Rows.OpenSpec.upto Rows.evalSameSpec).bare Rows.evalSameUptoRow = true := by kernel_rfl
theorem p3 : Try.f7.isInstance Try.pinned.checked.prog Rows.evalSameUptoRow.origin Rows.evalSameUptoRow.targs := of_decide_eq_true (by kernel_rfl)
theorem p4 : Try.f7.isWrapper Try.pinned.checked.prog Rows.evalSameUptoRow.wrapper Rows.evalSameUptoRow.mainSum := by unfold Func.isWrapper; first | (rw [if_pos (by decide +kernel)]; kernel_rfl) | (rw [if_neg (by decide +kernel)]; exact ⟨rfl, rfl⟩)
theorem proved : Rows.EvalSameUptoSaid :=
  OpenClaim.holds_of_cond 7 Try.f7 rfl rfl rfl rfl rfl rfl rfl ⟨rfl, rfl, rfl, rfl, rfl⟩ rfl rfl rfl rfl rfl p1 Try.func7 p2 p3 p4
    (fun os started H enc _ F => lifted os started H enc F)
end Go.Proofs.Ythjmkmoiopmfcaa.lawSame
