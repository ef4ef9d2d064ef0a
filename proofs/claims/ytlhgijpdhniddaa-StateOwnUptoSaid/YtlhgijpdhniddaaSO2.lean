/-
A part of the proof of a law: contracts of functions over plain heaps, and what they lean on. Conditions: none.
-/
import Derived.Test.YtlhgijpdhniddaaRows
import Derived.ChangeArms
import Derived.ChangeOld
import Derived.ChangeReads
import Derived.ChangeSame
import Derived.WalkKit
import Derived.ProofKit
import Derived.OpenShut
import Derived.JoinedCond
import Derived.Test.YtlhgijpdhniddaaBase1
import Derived.Test.YtlhgijpdhniddaaBase2
import Derived.Test.YtlhgijpdhniddaaSO1
set_option linter.unusedSimpArgs false
set_option linter.unusedVariables false
namespace Go.Proofs.Ytlhgijpdhniddaa
open Go.D
set_option maxRecDepth 100000

abbrev keyV (k : Key) : Value := .agg #[.int .i32 k.t, .int .i64 k.r]
abbrev cellV (c : Cell) : Value := .agg #[.int .i32 c.k.t, .int .i64 c.k.r, .int .i64 c.v, .int .i64 c.s]
abbrev rowV (r : Row) (v : Value) : Value := .agg #[.int .i64 r.ses, .int .i64 r.req, .int .i64 r.x.e, v, .int .i64 r.x.s, .int .i64 r.x.p]
def keyLt (a b : Key) : Bool := decide (a.t < b.t) || (decide (a.t = b.t) && decide (a.r < b.r))
def keyCmp (a b : Key) : Int := if cmpI a.t b.t = 0 then cmpI a.r b.r else cmpI a.t b.t
theorem cmpI_zero {a b : Int} : cmpI a b = 0 ↔ a = b := by
  unfold cmpI; split
  · constructor <;> intro h <;> omega
  · split
    · constructor <;> intro h <;> omega
    · constructor <;> intro h <;> omega
theorem cmpI_neg {a b : Int} : cmpI a b < 0 ↔ a < b := by
  unfold cmpI; split
  · constructor <;> intro h <;> omega
  · split
    · constructor <;> intro h <;> omega
    · constructor <;> intro h <;> omega
theorem keyCmp_neg (a b : Key) : decide (keyCmp a b < 0) = keyLt a b := by
  unfold keyCmp keyLt
  by_cases h : a.t = b.t
  · rw [if_pos (cmpI_zero.2 h)]
    rw [show decide (a.t < b.t) = false by simp; omega, show decide (a.t = b.t) = true by simp [h]]
    simp [cmpI_neg]
  · rw [if_neg (fun hh => h (cmpI_zero.1 hh)), show decide (a.t = b.t) = false by simp [h]]
    simp [cmpI_neg]
theorem keyCmp_or (a b : Key) : orI [cmpI a.t b.t, cmpI a.r b.r] = keyCmp a b := by
  unfold keyCmp orI orI orI
  split
  · split
    · rename_i h; exact h.symm
    · rfl
  · rfl
theorem cmpI_ok (a b : Int) : inK .i64 (cmpI a b) := by
  unfold cmpI; split
  · exact inK_i64.2 ⟨by decide, by decide⟩
  · split <;> exact inK_i64.2 ⟨by decide, by decide⟩
theorem compare_c {h : DHeap} {a b : Key} : DC Try.prog 46 [keyV a, keyV b] h (.ret (.int .i64 (keyCmp a b))) h := by
  refine Ct.pure (go_46 (by simp) ?_) (vin_int _ _)
  simp -implicitDefEqProofs (disch := first | omega | (simp only [go_sem, List.size_toArray, List.length_cons, List.length_nil, Nat.reduceAdd]; done)) only [go_sem, Int.reduceLT, Int.reduceLE, Int.reduceEq, reduceIte, c46]
  refine dr_46_0 ?_
  simp -implicitDefEqProofs (disch := first | omega | (simp only [go_sem, List.size_toArray, List.length_cons, List.length_nil, Nat.reduceAdd]; done)) only [go_sem, Int.reduceLT, Int.reduceLE, Int.reduceEq, reduceIte, l46_0, cellAt_p1, cellAt_p0, Nat.add_zero, Nat.zero_add]
  refine dcall cmp32_c ?_
  simp -implicitDefEqProofs (disch := first | omega | (simp only [go_sem, List.size_toArray, List.length_cons, List.length_nil, Nat.reduceAdd]; done)) only [go_sem, Int.reduceLT, Int.reduceLE, Int.reduceEq, reduceIte, l46_0, cellAt_p1, cellAt_p0, Nat.add_zero, Nat.zero_add]
  refine dcall cmp64_c ?_
  simp -implicitDefEqProofs (disch := first | omega | (simp only [go_sem, List.size_toArray, List.length_cons, List.length_nil, Nat.reduceAdd]; done)) only [go_sem, Int.reduceLT, Int.reduceLE, Int.reduceEq, reduceIte]
  have ha : ∀ K : DHeap, Arg fI64.rep (K.push (.row [.int .i64 (cmpI a.t b.t), .int .i64 (cmpI a.r b.r)] 1 false)) (.slice (some ⟨K.next, 0, none⟩) 2 2) [cmpI a.t b.t, cmpI a.r b.r] := fun K =>
    built fI64 K rfl rfl rfl (fun x hx => by
      rcases List.mem_cons.1 hx with rfl | hx
      · exact cmpI_ok _ _
      · rw [List.mem_singleton.1 hx]; exact cmpI_ok _ _)
  refine dcall (or_c (ha _) (Nat.le_of_ble_eq_true rfl)) ?_
  rw [keyCmp_or]
  simp -implicitDefEqProofs (disch := first | omega | (simp only [go_sem, List.size_toArray, List.length_cons, List.length_nil, Nat.reduceAdd]; done)) only [go_sem, Int.reduceLT, Int.reduceLE, Int.reduceEq, reduceIte, Nat.reduceAdd]
  refine ⟨⟨XSt1_at (i := 6) (j := 4) rfl rfl rfl ?_, XSt1_at (i := 8) (j := 4) rfl rfl rfl ?_, trivial⟩, _, rfl, rfl, ((Ext.push1 _ _).push _).push _⟩
  · rw [if_pos (by decide)]
    refine Ld_on (p := .pointer (some ⟨h.next, 1, none⟩)) ?_ ?_ (ld_2.trans cellAt_p1)
    · simp -implicitDefEqProofs (disch := first | omega | (simp only [go_sem, List.size_toArray, List.length_cons, List.length_nil, Nat.reduceAdd]; done)) only [go_sem, Int.reduceLT, Int.reduceLE, Int.reduceEq, reduceIte]
    · simp -implicitDefEqProofs (disch := first | omega | (simp only [go_sem, List.size_toArray, List.length_cons, List.length_nil, Nat.reduceAdd]; done)) only [go_sem, Int.reduceLT, Int.reduceLE, Int.reduceEq, reduceIte]
  · rw [if_pos (by decide)]
    refine Ld_on (p := .pointer (some ⟨_, 1, none⟩)) ?_ ?_ (ld_2.trans cellAt_p0)
    · simp -implicitDefEqProofs (disch := first | omega | (simp only [go_sem, List.size_toArray, List.length_cons, List.length_nil, Nat.reduceAdd]; done)) only [go_sem, Int.reduceLT, Int.reduceLE, Int.reduceEq, reduceIte]
    · simp -implicitDefEqProofs (disch := first | omega | (simp only [go_sem, List.size_toArray, List.length_cons, List.length_nil, Nat.reduceAdd]; done)) only [go_sem, Int.reduceLT, Int.reduceLE, Int.reduceEq, reduceIte]
theorem below_c {h : DHeap} {a b : Cell} : DC Try.prog 45 [cellV a, cellV b] h (.ret (.bool (keyLt a.k b.k))) h := by
  refine Ct.pure (go_45 (by simp) ?_) (vin_bool _)
  simp -implicitDefEqProofs (disch := first | omega | (simp only [go_sem, List.size_toArray, List.length_cons, List.length_nil, Nat.reduceAdd]; done)) only [go_sem, Int.reduceLT, Int.reduceLE, Int.reduceEq, reduceIte, c45, cells2_p1, cells2_p0, Nat.add_zero, Nat.zero_add]
  refine ncall (compare_c (a := a.k) (b := b.k)) ?_
  simp -implicitDefEqProofs (disch := first | omega | (simp only [go_sem, List.size_toArray, List.length_cons, List.length_nil, Nat.reduceAdd]; done)) only [go_sem, Int.reduceLT, Int.reduceLE, Int.reduceEq, reduceIte, keyCmp_neg]
  exact ⟨_, rfl, rfl, (Ext.push1 _ _).push _⟩
theorem belowRow_c {h : DHeap} {a b : Row} {v w : Value} (hv : v.cells = #[v]) (hw : w.cells = #[w]) : DC Try.prog 48 [rowV a v, rowV b w] h (.ret (.bool (decide (a.ses < b.ses)))) h := by
  refine Ct.pure (go_48 (by simp) ?_) (vin_bool _)
  simp -implicitDefEqProofs (disch := first | omega | (simp only [go_sem, List.size_toArray, List.length_cons, List.length_nil, Nat.reduceAdd]; done)) only [go_sem, Int.reduceLT, Int.reduceLE, Int.reduceEq, reduceIte, c48, cellAt_p1, cellAt_p0, Nat.add_zero, Nat.zero_add]
  exact ⟨_, rfl, rfl, (Ext.push1 _ _).push _⟩
theorem less_c {h : DHeap} {a b : Key} : DC Try.prog 65 [keyV a, keyV b] h (.ret (.bool (keyLt a b))) h := by
  refine Ct.pure (go_65 (by simp) ?_) (vin_bool _)
  unfold keyLt
  by_cases h0 : a.t < b.t
  · simp -implicitDefEqProofs (disch := first | omega | (simp only [go_sem, List.size_toArray, List.length_cons, List.length_nil, Nat.reduceAdd]; done)) only [go_sem, Int.reduceLT, Int.reduceLE, Int.reduceEq, reduceIte, c65, cellAt_p1, cellAt_p0, Nat.add_zero, Nat.zero_add, h0, dPick_t, dPick_f, Bool.true_or]
    exact ⟨_, rfl, rfl, (Ext.push1 _ _).push _⟩
  by_cases h1 : a.t = b.t
  · simp -implicitDefEqProofs (disch := first | omega | (simp only [go_sem, List.size_toArray, List.length_cons, List.length_nil, Nat.reduceAdd]; done)) only [go_sem, Int.reduceLT, Int.reduceLE, Int.reduceEq, reduceIte, c65, cellAt_p1, cellAt_p0, Nat.add_zero, Nat.zero_add, h0, h1, dPick_t, dPick_f, Bool.false_or, Bool.true_and, Int.lt_irrefl]
    exact ⟨_, rfl, rfl, (Ext.push1 _ _).push _⟩
  · simp -implicitDefEqProofs (disch := first | omega | (simp only [go_sem, List.size_toArray, List.length_cons, List.length_nil, Nat.reduceAdd]; done)) only [go_sem, Int.reduceLT, Int.reduceLE, Int.reduceEq, reduceIte, c65, cellAt_p1, cellAt_p0, Nat.add_zero, Nat.zero_add, h0, h1, dPick_t, dPick_f, Bool.false_or, Bool.false_and]
    exact ⟨_, rfl, rfl, (Ext.push1 _ _).push _⟩

/-- each below the next -/
def risesB {α : Type} (lt : α → α → Bool) : List α → Bool
  | a :: b :: l => lt a b && risesB lt (b :: l)
  | _ => true
theorem risesB_short {α : Type} {lt : α → α → Bool} : ∀ {l : List α}, l.length ≤ 1 → risesB lt l = true
  | [], _ => rfl
  | [_], _ => rfl
  | _ :: _ :: _, h => by simp at h
theorem risesB_two {α : Type} {lt : α → α → Bool} {l : List α} {j : Nat} (h : j + 1 < l.length) : risesB lt (l.drop j) = (lt l[j] l[j + 1] && risesB lt (l.drop (j + 1))) := by
  rw [List.drop_eq_getElem_cons (show j < l.length by omega), List.drop_eq_getElem_cons h, risesB]
theorem risesCell_c {h : DHeap} {b : Value} {l : List Cell} (hb : Arg fCell.rep h b l) (hlen : l.length ≤ 4294967296) :
    DC Try.prog 44 [b, .func (.func 45) #[] #[]] h (.ret (.bool (risesB (fun a b => keyLt a.k b.k) l))) h := by
  refine Ct.pure (go_44 (by simp) ?_) (vin_bool _)
  have el := hb.dLen (P := Try.prog) (ts := #[23]) (t := 23) rfl isl_23
  simp -implicitDefEqProofs (disch := first | omega | (simp only [go_sem, List.size_toArray, List.length_cons, List.length_nil, Nat.reduceAdd]; done)) only [go_sem, Int.reduceLT, Int.reduceLE, Int.reduceEq, reduceIte, c44]
  refine xloop (σ := Nat) (by kernel_rfl) (fun j s => s.df = [] ∧ s.h = h ∧ s.fr 0 = some b ∧ s.fr 1 = some (.func (.func 45) #[] #[]) ∧ s.fr 5 = some (.int .i64 ((j + 1 : Nat) : Int)) ∧ (j = 0 ∨ j < l.length) ∧ risesB (fun a b => keyLt a.k b.k) (l.drop j) = risesB (fun a b => keyLt a.k b.k) l) (fun j => l.length - j) 0 ?_ ?_
  · simp -implicitDefEqProofs (disch := first | omega | (simp only [go_sem, List.size_toArray, List.length_cons, List.length_nil, Nat.reduceAdd]; done)) only [go_sem, Int.reduceLT, Int.reduceLE, Int.reduceEq, reduceIte]
    exact ⟨by trivial, by trivial, by trivial, by trivial, by trivial, .inl (by trivial), by rw [List.drop_zero]⟩
  · rintro j ⟨fr, df, hh, rd⟩ K hK hX ⟨rfl, rfl, h0, h1, h5, hi, ho⟩
    simp only at h0 h1 h5
    simp -implicitDefEqProofs (disch := first | omega | (simp only [go_sem, List.size_toArray, List.length_cons, List.length_nil, Nat.reduceAdd]; done)) only [go_sem, Int.reduceLT, Int.reduceLE, Int.reduceEq, reduceIte, h0, h1, h5, el]
    refine XIf_dec (fun hc1 => ?_) (fun hc1 => ?_)
    · have hj : j + 1 < l.length := by omega
      obtain ⟨id1, o1, e1, _, hat1⟩ := hb.idx (P := Try.prog) (t := 23) el_23 (k := .i64) (i := j) (x := l[j]) (by simp)
      obtain ⟨id2, o2, e2, _, hat2⟩ := hb.idx (P := Try.prog) (t := 23) el_23 (k := .i64) (i := j + 1) (x := l[j + 1]) (by simp)
      have hw := wrap_succ hj (by omega)
      have hw2 : IntKind.i64.wrap (((j + 1 : Nat) : Int) - 1) = (j : Int) := by rw [wrap_i64_in (by omega) (by omega)]; omega
      have l1 : cellsAt hh id1 o1 4 = some (cellV l[j]) := hat1.flat.2.1
      have l2 : cellsAt hh id2 o2 4 = some (cellV l[j + 1]) := hat2.flat.2.1
      simp -implicitDefEqProofs (disch := first | omega | (simp only [go_sem, List.size_toArray, List.length_cons, List.length_nil, Nat.reduceAdd]; done)) only [go_sem, Int.reduceLT, Int.reduceLE, Int.reduceEq, reduceIte]
      refine dr_44_0 ?_
      simp -implicitDefEqProofs (disch := first | omega | (simp only [go_sem, List.size_toArray, List.length_cons, List.length_nil, Nat.reduceAdd]; done)) only [go_sem, Int.reduceLT, Int.reduceLE, Int.reduceEq, reduceIte, l44_0, h0, h1, h5, hw2, e1, e2, l1, l2, List.nil_append]
      refine dcall below_c ?_
      rw [risesB_two hj] at ho
      by_cases hlt : keyLt l[j].k l[j + 1].k = true
      · rw [hlt, Bool.true_and] at ho
        simp -implicitDefEqProofs (disch := first | omega | (simp only [go_sem, List.size_toArray, List.length_cons, List.length_nil, Nat.reduceAdd]; done)) only [go_sem, Int.reduceLT, Int.reduceLE, Int.reduceEq, reduceIte, hlt, true_and, h0, h1, h5, hw]
        refine hK (j + 1) _ ?_ (by omega)
        exact ⟨by trivial, by trivial, by simp -implicitDefEqProofs (disch := first | omega | (simp only [go_sem, List.size_toArray, List.length_cons, List.length_nil, Nat.reduceAdd]; done)) only [go_sem, Int.reduceLT, Int.reduceLE, Int.reduceEq, reduceIte, h0], by simp -implicitDefEqProofs (disch := first | omega | (simp only [go_sem, List.size_toArray, List.length_cons, List.length_nil, Nat.reduceAdd]; done)) only [go_sem, Int.reduceLT, Int.reduceLE, Int.reduceEq, reduceIte, h1], by simp -implicitDefEqProofs (disch := first | omega | (simp only [go_sem, List.size_toArray, List.length_cons, List.length_nil, Nat.reduceAdd]; done)) only [go_sem, Int.reduceLT, Int.reduceLE, Int.reduceEq, reduceIte], .inr hj, ho⟩
      · have hlt' : keyLt l[j].k l[j + 1].k = false := by simpa using hlt
        rw [hlt', Bool.false_and] at ho
        simp -implicitDefEqProofs (disch := first | omega | (simp only [go_sem, List.size_toArray, List.length_cons, List.length_nil, Nat.reduceAdd]; done)) only [go_sem, Int.reduceLT, Int.reduceLE, Int.reduceEq, reduceIte, hlt', true_and]
        refine hX _ _ (by simp) ?_
        simp -implicitDefEqProofs (disch := first | omega | (simp only [go_sem, List.size_toArray, List.length_cons, List.length_nil, Nat.reduceAdd]; done)) only [go_sem, Int.reduceLT, Int.reduceLE, Int.reduceEq, reduceIte]
        exact ⟨_, rfl, by rw [← ho], .refl hh⟩
    · refine hX _ _ (by simp) ?_
      simp -implicitDefEqProofs (disch := first | omega | (simp only [go_sem, List.size_toArray, List.length_cons, List.length_nil, Nat.reduceAdd]; done)) only [go_sem, Int.reduceLT, Int.reduceLE, Int.reduceEq, reduceIte]
      refine ⟨_, rfl, ?_, .refl hh⟩
      rw [← ho, risesB_short (by simp; omega)]
/-- a row as it lies -/
structure RowOk (r : Row) : Prop where
  ses : inK .i64 r.ses
  req : inK .i64 r.req
  e : inK .i64 r.x.e
  s : inK .i64 r.x.s
  p : inK .i64 r.x.p
theorem row_rd {S : Nat → Prop} {h : DHeap} {cs : List Value} {r : Row} (a : rRow.rd S h cs r) : ∃ v, cs = [.int .i64 r.ses, .int .i64 r.req, .int .i64 r.x.e, v, .int .i64 r.x.s, .int .i64 r.x.p] ∧ Sl fI64.rep S h v r.x.vs ∧ RowOk r := by
  obtain ⟨c1, c2, rfl, ⟨rfl, k1⟩, c3, c4, rfl, ⟨rfl, k2⟩, c5, c6, rfl, ⟨rfl, k3⟩, c7, c8, rfl, ⟨v, rfl, hs⟩, c9, c10, rfl, ⟨rfl, k4⟩, rfl, k5⟩ := a
  exact ⟨v, rfl, hs, ⟨k1, k2, k3, k4, k5⟩⟩
theorem rd_row {S : Nat → Prop} {h : DHeap} {r : Row} {v : Value} (hs : Sl fI64.rep S h v r.x.vs) (k : RowOk r) : rRow.rd S h [.int .i64 r.ses, .int .i64 r.req, .int .i64 r.x.e, v, .int .i64 r.x.s, .int .i64 r.x.p] r :=
  ⟨_, _, rfl, ⟨rfl, k.ses⟩, _, _, rfl, ⟨rfl, k.req⟩, _, _, rfl, ⟨rfl, k.e⟩, _, _, rfl, ⟨v, rfl, hs⟩, _, _, rfl, ⟨rfl, k.s⟩, rfl, k.p⟩
theorem row_at {S : Nat → Prop} {h : DHeap} {id o : Nat} {r : Row} (a : At rRow S h id o r) : ∃ v, cellsAt h id o 6 = some (rowV r v) ∧ Sl fI64.rep S h v r.x.vs ∧ RowOk r := by
  obtain ⟨cs, e1, e2⟩ := a.load_agg
  obtain ⟨v, rfl, h2⟩ := row_rd e2
  exact ⟨v, e1, h2⟩
theorem risesRow_c {h : DHeap} {b : Value} {l : List Row} (hb : Arg rRow h b l) (hlen : l.length ≤ 4294967296) :
    DC Try.prog 47 [b, .func (.func 48) #[] #[]] h (.ret (.bool (risesB (fun a b => decide (a.ses < b.ses)) l))) h := by
  refine Ct.pure (go_47 (by simp) ?_) (vin_bool _)
  have el := hb.dLen (P := Try.prog) (ts := #[24]) (t := 24) rfl isl_24
  simp -implicitDefEqProofs (disch := first | omega | (simp only [go_sem, List.size_toArray, List.length_cons, List.length_nil, Nat.reduceAdd]; done)) only [go_sem, Int.reduceLT, Int.reduceLE, Int.reduceEq, reduceIte, c47]
  refine xloop (σ := Nat) (by kernel_rfl) (fun j s => s.df = [] ∧ s.h = h ∧ s.fr 0 = some b ∧ s.fr 1 = some (.func (.func 48) #[] #[]) ∧ s.fr 5 = some (.int .i64 ((j + 1 : Nat) : Int)) ∧ (j = 0 ∨ j < l.length) ∧ risesB (fun a b => decide (a.ses < b.ses)) (l.drop j) = risesB (fun a b => decide (a.ses < b.ses)) l) (fun j => l.length - j) 0 ?_ ?_
  · simp -implicitDefEqProofs (disch := first | omega | (simp only [go_sem, List.size_toArray, List.length_cons, List.length_nil, Nat.reduceAdd]; done)) only [go_sem, Int.reduceLT, Int.reduceLE, Int.reduceEq, reduceIte]
    exact ⟨by trivial, by trivial, by trivial, by trivial, by trivial, .inl (by trivial), by rw [List.drop_zero]⟩
  · rintro j ⟨fr, df, hh, rd⟩ K hK hX ⟨rfl, rfl, h0, h1, h5, hi, ho⟩
    simp only at h0 h1 h5
    simp -implicitDefEqProofs (disch := first | omega | (simp only [go_sem, List.size_toArray, List.length_cons, List.length_nil, Nat.reduceAdd]; done)) only [go_sem, Int.reduceLT, Int.reduceLE, Int.reduceEq, reduceIte, h0, h1, h5, el]
    refine XIf_dec (fun hc1 => ?_) (fun hc1 => ?_)
    · have hj : j + 1 < l.length := by omega
      obtain ⟨id1, o1, e1, _, hat1⟩ := hb.idx (P := Try.prog) (t := 24) el_24 (k := .i64) (i := j) (x := l[j]) (by simp)
      obtain ⟨id2, o2, e2, _, hat2⟩ := hb.idx (P := Try.prog) (t := 24) el_24 (k := .i64) (i := j + 1) (x := l[j + 1]) (by simp)
      have hw := wrap_succ hj (by omega)
      have hw2 : IntKind.i64.wrap (((j + 1 : Nat) : Int) - 1) = (j : Int) := by rw [wrap_i64_in (by omega) (by omega)]; omega
      obtain ⟨v1, l1, s1, _⟩ := row_at hat1
      obtain ⟨v2, l2, s2, _⟩ := row_at hat2
      simp -implicitDefEqProofs (disch := first | omega | (simp only [go_sem, List.size_toArray, List.length_cons, List.length_nil, Nat.reduceAdd]; done)) only [go_sem, Int.reduceLT, Int.reduceLE, Int.reduceEq, reduceIte]
      refine dr_47_0 ?_
      simp -implicitDefEqProofs (disch := first | omega | (simp only [go_sem, List.size_toArray, List.length_cons, List.length_nil, Nat.reduceAdd]; done)) only [go_sem, Int.reduceLT, Int.reduceLE, Int.reduceEq, reduceIte, l47_0, h0, h1, h5, hw2, e1, e2, l1, l2, List.nil_append]
      refine dcall (belowRow_c s1.cells1 s2.cells1) ?_
      rw [risesB_two hj] at ho
      by_cases hlt : l[j].ses < l[j + 1].ses
      · rw [decide_eq_true hlt, Bool.true_and] at ho
        simp -implicitDefEqProofs (disch := first | omega | (simp only [go_sem, List.size_toArray, List.length_cons, List.length_nil, Nat.reduceAdd]; done)) only [go_sem, Int.reduceLT, Int.reduceLE, Int.reduceEq, reduceIte, hlt, true_and, h0, h1, h5, hw]
        refine hK (j + 1) _ ?_ (by omega)
        exact ⟨by trivial, by trivial, by simp -implicitDefEqProofs (disch := first | omega | (simp only [go_sem, List.size_toArray, List.length_cons, List.length_nil, Nat.reduceAdd]; done)) only [go_sem, Int.reduceLT, Int.reduceLE, Int.reduceEq, reduceIte, h0], by simp -implicitDefEqProofs (disch := first | omega | (simp only [go_sem, List.size_toArray, List.length_cons, List.length_nil, Nat.reduceAdd]; done)) only [go_sem, Int.reduceLT, Int.reduceLE, Int.reduceEq, reduceIte, h1], by simp -implicitDefEqProofs (disch := first | omega | (simp only [go_sem, List.size_toArray, List.length_cons, List.length_nil, Nat.reduceAdd]; done)) only [go_sem, Int.reduceLT, Int.reduceLE, Int.reduceEq, reduceIte], .inr hj, ho⟩
      · rw [decide_eq_false hlt, Bool.false_and] at ho
        simp -implicitDefEqProofs (disch := first | omega | (simp only [go_sem, List.size_toArray, List.length_cons, List.length_nil, Nat.reduceAdd]; done)) only [go_sem, Int.reduceLT, Int.reduceLE, Int.reduceEq, reduceIte, hlt, true_and]
        refine hX _ _ (by simp) ?_
        simp -implicitDefEqProofs (disch := first | omega | (simp only [go_sem, List.size_toArray, List.length_cons, List.length_nil, Nat.reduceAdd]; done)) only [go_sem, Int.reduceLT, Int.reduceLE, Int.reduceEq, reduceIte]
        exact ⟨_, rfl, by rw [← ho], .refl hh⟩
    · refine hX _ _ (by simp) ?_
      simp -implicitDefEqProofs (disch := first | omega | (simp only [go_sem, List.size_toArray, List.length_cons, List.length_nil, Nat.reduceAdd]; done)) only [go_sem, Int.reduceLT, Int.reduceLE, Int.reduceEq, reduceIte]
      refine ⟨_, rfl, ?_, .refl hh⟩
      rw [← ho, risesB_short (by simp; omega)]
end Go.Proofs.Ytlhgijpdhniddaa

namespace Go.Proofs.Ytlhgijpdhniddaa
open Go.D
set_option maxRecDepth 100000

abbrev stateV (n : Int) (cv rv : Value) : Value := .agg #[.int .i64 n, cv, rv]
def mayCell (n : Int) (c : Cell) : Bool := countB c.s (n - 1)
def mayRowB (n : Int) (r : Row) : Bool := (((((decide (1 ≤ r.ses ∧ r.ses ≤ 1099511627776) && decide (1 ≤ r.req ∧ r.req ≤ 1099511627776)) && countB r.x.e 355) && decide (r.x.vs.length ≤ 8)) && countB r.x.s (n - 1)) && countB r.x.p 15)
def mayB (x : State) : Bool :=
  (((countB x.slot 1099511627776 && decide (x.rows.length ≤ 64)) && (risesB (fun a b => keyLt a.k b.k) x.cells && risesB (fun a b => decide (a.ses < b.ses)) x.rows)) && x.cells.all (mayCell x.slot)) && x.rows.all (mayRowB x.slot)
def checkE (x : State) : Int := if mayB x then 0 else 220

theorem cnt1 {s : Int} (hs : inK .i64 s) : countB (IntKind.i64.wrap (s - 1)) 1099511627775 = decide (1 ≤ s ∧ s ≤ 1099511627776) := by
  have h1 := inK_i64.1 hs
  by_cases h0 : s = -9223372036854775808
  · subst h0; decide
  · rw [wrap_i64_in (by omega) (by omega)]
    unfold countB
    rw [← Bool.decide_and]
    exact decide_eq_decide.2 (by omega)
theorem check_c {h : DHeap} {n : Int} {cv rv : Value} {cells : List Cell} {rows : List Row} (hn : inK .i64 n) (hc : Arg fCell.rep h cv cells) (hr : Arg rRow h rv rows) (hlc : cells.length ≤ 4294967296) (hlr : rows.length ≤ 4294967296) :
    DC Try.prog 17 [stateV n cv rv] h (.ret (.int .i64 (checkE ⟨n, cells, rows⟩))) h := by
  refine Ct.pure (go_17 (by simp) ?_) (vin_int _ _)
  have hn' := inK_i64.1 hn
  have c1 := hc.cells1
  have r1 := hr.cells1
  obtain ⟨H0, hH0⟩ : ∃ H, H = h.push (.row [.int .i64 n, cv, rv] 0 false) := ⟨_, rfl⟩
  have hE0 : Ext h H0 := by rw [hH0]; exact Ext.push1 _ _
  have hB0 : H0.get h.next = some (.row [.int .i64 n, cv, rv] 0 false) := by rw [hH0]; exact get_push_same _ _
  have hN0 : h.next < H0.next := by rw [hH0, next_push]; omega
  have er := hr.lens (P := Try.prog) (ts := #[24]) (t := 24) rfl isl_24
  have ec := hc.lens (P := Try.prog) (ts := #[23]) (t := 23) rfl isl_23
  have B0 : cellAt H0 h.next 0 = some (.int .i64 n) := cellAt_row hB0
  have B1 : cellAt H0 h.next 1 = some cv := cellAt_row hB0
  have B2 : cellAt H0 h.next 2 = some rv := cellAt_row hB0
  simp -implicitDefEqProofs (disch := first | omega | (simp only [go_sem, List.size_toArray, List.length_cons, List.length_nil, Nat.reduceAdd]; done)) only [go_sem, Int.reduceLT, Int.reduceLE, Int.reduceEq, reduceIte, c17, ← hH0, B0, B1, B2, Nat.add_zero, Nat.zero_add]
  obtain ⟨ok1, e1⟩ : ∃ b, (countB n 1099511627776 && decide (rows.length ≤ 64)) = b := ⟨_, rfl⟩
  obtain ⟨ok2, e2⟩ : ∃ b, (ok1 && (risesB (fun a b => keyLt a.k b.k) cells && risesB (fun a b => decide (a.ses < b.ses)) rows)) = b := ⟨_, rfl⟩
  refine NCl_cut (fun s => s.df = [] ∧ s.h = H0 ∧ s.fr 1 = some (.pointer (some ⟨h.next, 0, none⟩)) ∧ s.fr 3 = some (.bool ok1)) ?_ ?_
  · refine ncall count_c ?_
    by_cases h1 : countB n 1099511627776 = true
    · rw [h1]
      by_cases h2 : rows.length ≤ 64
      · have h2i : ((rows.length : Nat) : Int) ≤ 64 := by omega
        simp -implicitDefEqProofs (disch := first | omega | (simp only [go_sem, List.size_toArray, List.length_cons, List.length_nil, Nat.reduceAdd]; done)) only [go_sem, Int.reduceLT, Int.reduceLE, Int.reduceEq, reduceIte, B2, er, h2i, dPick_t, dPick_f, Nat.zero_add]
        exact ⟨by trivial, by trivial, by trivial, by rw [← e1]; simp [h1, h2]⟩
      · have h2i : ¬ ((rows.length : Nat) : Int) ≤ 64 := by omega
        simp -implicitDefEqProofs (disch := first | omega | (simp only [go_sem, List.size_toArray, List.length_cons, List.length_nil, Nat.reduceAdd]; done)) only [go_sem, Int.reduceLT, Int.reduceLE, Int.reduceEq, reduceIte, B2, er, h2i, dPick_t, dPick_f, Nat.zero_add]
        exact ⟨by trivial, by trivial, by trivial, by rw [← e1]; simp [h1, h2]⟩
    · rw [show countB n 1099511627776 = false by simpa using h1]
      simp -implicitDefEqProofs (disch := first | omega | (simp only [go_sem, List.size_toArray, List.length_cons, List.length_nil, Nat.reduceAdd]; done)) only [go_sem, Int.reduceLT, Int.reduceLE, Int.reduceEq, reduceIte, B2, er, dPick_t, dPick_f]
      exact ⟨by trivial, by trivial, by trivial, by rw [← e1]; simp [h1]⟩
  rintro ⟨fr, df, hh, rd⟩ ⟨rfl, rfl, f1, f3⟩
  simp only at f1 f3
  simp -implicitDefEqProofs (disch := first | omega | (simp only [go_sem, List.size_toArray, List.length_cons, List.length_nil, Nat.reduceAdd]; done)) only [go_sem, Int.reduceLT, Int.reduceLE, Int.reduceEq, reduceIte, f1, f3]
  have hc0 := hc.ext hE0
  have hr0 := hr.ext hE0
  refine NStp_cut (fun s => s.df = [] ∧ s.h = hh ∧ s.fr 1 = some (.pointer (some ⟨h.next, 0, none⟩)) ∧ s.fr 3 = some (.bool ok2)) ?_ ?_
  · cases ok1 with
    | true =>
      simp -implicitDefEqProofs (disch := first | omega | (simp only [go_sem, List.size_toArray, List.length_cons, List.length_nil, Nat.reduceAdd]; done)) only [go_sem, Int.reduceLT, Int.reduceLE, Int.reduceEq, reduceIte, f1, f3, B1, B2, Nat.zero_add]
      refine ncall (risesCell_c hc0 hlc) ?_
      by_cases h1 : risesB (fun a b => keyLt a.k b.k) cells = true
      · rw [h1]
        simp -implicitDefEqProofs (disch := first | omega | (simp only [go_sem, List.size_toArray, List.length_cons, List.length_nil, Nat.reduceAdd]; done)) only [go_sem, Int.reduceLT, Int.reduceLE, Int.reduceEq, reduceIte, f1, f3, B1, B2, Nat.zero_add, dPick_t]
        refine ncall (risesRow_c hr0 hlr) ?_
        simp -implicitDefEqProofs (disch := first | omega | (simp only [go_sem, List.size_toArray, List.length_cons, List.length_nil, Nat.reduceAdd]; done)) only [go_sem, Int.reduceLT, Int.reduceLE, Int.reduceEq, reduceIte, f1, dPick_t]
        exact ⟨by trivial, by trivial, by trivial, by rw [← e2]; simp [h1]⟩
      · rw [show risesB (fun a b => keyLt a.k b.k) cells = false by simpa using h1]
        simp -implicitDefEqProofs (disch := first | omega | (simp only [go_sem, List.size_toArray, List.length_cons, List.length_nil, Nat.reduceAdd]; done)) only [go_sem, Int.reduceLT, Int.reduceLE, Int.reduceEq, reduceIte, f1, dPick_t, dPick_f]
        exact ⟨by trivial, by trivial, by trivial, by rw [← e2]; simp [h1]⟩
    | false =>
      simp -implicitDefEqProofs (disch := first | omega | (simp only [go_sem, List.size_toArray, List.length_cons, List.length_nil, Nat.reduceAdd]; done)) only [go_sem, Int.reduceLT, Int.reduceLE, Int.reduceEq, reduceIte, f1, f3, dPick_f]
      exact ⟨by trivial, by trivial, by trivial, by rw [← e2]; simp⟩
  have hpos : ok2 = true → 0 ≤ n := by
    intro hk
    rw [← e2, ← e1] at hk
    simp [countB] at hk
    omega
  rintro ⟨fr, df, hh2, rd⟩ ⟨rfl, rfl, f1, f3⟩
  simp only at f1 f3
  simp -implicitDefEqProofs (disch := first | omega | (simp only [go_sem, List.size_toArray, List.length_cons, List.length_nil, Nat.reduceAdd]; done)) only [go_sem, Int.reduceLT, Int.reduceLE, Int.reduceEq, reduceIte, f1, f3, B1, ec, Nat.zero_add]
  refine xloop (σ := Nat) (by kernel_rfl) (fun i s => s.df = [] ∧ Ext hh2 s.h ∧ s.fr 1 = some (.pointer (some ⟨h.next, 0, none⟩)) ∧ s.fr 30 = some cv ∧ s.fr 31 = some (.int .i64 cells.length) ∧ s.fr 32 = some (.int .i64 (i : Nat)) ∧ i ≤ cells.length ∧ s.fr 3 = some (.bool (ok2 && (cells.take i).all (mayCell n)))) (fun i => cells.length - i) 0 ?_ ?_
  · simp -implicitDefEqProofs (disch := first | omega | (simp only [go_sem, List.size_toArray, List.length_cons, List.length_nil, Nat.reduceAdd]; done)) only [go_sem, Int.reduceLT, Int.reduceLE, Int.reduceEq, reduceIte, f1, f3]
    exact ⟨by trivial, .refl _, by trivial, by trivial, by trivial, by trivial, Nat.zero_le _, by simp⟩
  · rintro i ⟨fr, df, hh, rd⟩ K hK hX ⟨rfl, hE, f1, f30, f31, f32, hi, f3⟩
    simp only at hE f1 f30 f31 f32 f3
    have hB : hh.get h.next = some (.row [.int .i64 n, cv, rv] 0 false) := (hE.get _ hN0).trans hB0
    have hBn : h.next < hh.next := Nat.lt_of_lt_of_le hN0 hE.next
    have C0 : cellAt hh h.next 0 = some (.int .i64 n) := cellAt_row hB
    have C2 : cellAt hh h.next 2 = some rv := cellAt_row hB
    simp -implicitDefEqProofs (disch := first | omega | (simp only [go_sem, List.size_toArray, List.length_cons, List.length_nil, Nat.reduceAdd]; done)) only [go_sem, Int.reduceLT, Int.reduceLE, Int.reduceEq, reduceIte, f1, f30, f31, f32]
    refine XIf_dec (fun hc1 => ?_) (fun hc1 => ?_)
    · have hj : i < cells.length := by omega
      obtain ⟨id1, o1, g1, _, hat1⟩ := (hc0.ext hE).idx (P := Try.prog) (t := 23) el_23 (k := .i64) (i := i) (x := cells[i]) (by simp)
      have l1 : cellsAt hh id1 o1 4 = some (cellV cells[i]) := hat1.flat.2.1
      have hw := wrap_succ hj (by omega)
      obtain ⟨ok, eo⟩ : ∃ b, (ok2 && (cells.take i).all (mayCell n)) = b := ⟨_, rfl⟩
      rw [eo] at f3
      have hst : [Value.int .i32 cells[i].k.t, .int .i64 cells[i].k.r, .int .i64 cells[i].v, .int .i64 cells[i].s].all Value.oneCell' = true := rfl
      have hnx : (ok2 && (cells.take (i + 1)).all (mayCell n)) = (ok && mayCell n cells[i]) := by
        rw [take_snoc (get_of_lt hj), List.all_append, ← eo, Bool.and_assoc]; simp
      have hE2 : ∀ x, Ext hh2 (hh.push x) := fun x => hE.push x
      cases ok with
      | true =>
        have hn0 : 0 ≤ n := hpos (by
          cases ok2
          · simp at eo
          · rfl)
        have hnw : IntKind.i64.wrap (n - 1) = n - 1 := wrap_i64_in (by omega) (by omega)
        simp -implicitDefEqProofs (disch := first | omega | (simp only [go_sem, List.size_toArray, List.length_cons, List.length_nil, Nat.reduceAdd]; done)) only [go_sem, Int.reduceLT, Int.reduceLE, Int.reduceEq, reduceIte, f1, f3, f30, f31, f32, g1, l1, List.nil_append, store4_push hst, cellAt_p0, cellAt_o1, C0, hnw, Nat.zero_add, Nat.add_zero]
        refine ncall count_c ?_
        simp -implicitDefEqProofs (disch := first | omega | (simp only [go_sem, List.size_toArray, List.length_cons, List.length_nil, Nat.reduceAdd]; done)) only [go_sem, Int.reduceLT, Int.reduceLE, Int.reduceEq, reduceIte, f1, f3, f30, f31, f32, hw, dPick_t]
        refine hK (i + 1) _ ?_ (by omega)
        exact ⟨by trivial, hE2 _, by simp -implicitDefEqProofs (disch := first | omega | (simp only [go_sem, List.size_toArray, List.length_cons, List.length_nil, Nat.reduceAdd]; done)) only [go_sem, Int.reduceLT, Int.reduceLE, Int.reduceEq, reduceIte, f1], by simp -implicitDefEqProofs (disch := first | omega | (simp only [go_sem, List.size_toArray, List.length_cons, List.length_nil, Nat.reduceAdd]; done)) only [go_sem, Int.reduceLT, Int.reduceLE, Int.reduceEq, reduceIte, f30], by simp -implicitDefEqProofs (disch := first | omega | (simp only [go_sem, List.size_toArray, List.length_cons, List.length_nil, Nat.reduceAdd]; done)) only [go_sem, Int.reduceLT, Int.reduceLE, Int.reduceEq, reduceIte, f31], by simp -implicitDefEqProofs (disch := first | omega | (simp only [go_sem, List.size_toArray, List.length_cons, List.length_nil, Nat.reduceAdd]; done)) only [go_sem, Int.reduceLT, Int.reduceLE, Int.reduceEq, reduceIte], by omega, by simp -implicitDefEqProofs (disch := first | omega | (simp only [go_sem, List.size_toArray, List.length_cons, List.length_nil, Nat.reduceAdd]; done)) only [go_sem, Int.reduceLT, Int.reduceLE, Int.reduceEq, reduceIte]; rw [hnx, Bool.true_and]; rfl⟩
      | false =>
        simp -implicitDefEqProofs (disch := first | omega | (simp only [go_sem, List.size_toArray, List.length_cons, List.length_nil, Nat.reduceAdd]; done)) only [go_sem, Int.reduceLT, Int.reduceLE, Int.reduceEq, reduceIte, f1, f3, f30, f31, f32, g1, l1, List.nil_append, store4_push hst, hw, dPick_f]
        refine hK (i + 1) _ ?_ (by omega)
        exact ⟨by trivial, hE2 _, by simp -implicitDefEqProofs (disch := first | omega | (simp only [go_sem, List.size_toArray, List.length_cons, List.length_nil, Nat.reduceAdd]; done)) only [go_sem, Int.reduceLT, Int.reduceLE, Int.reduceEq, reduceIte, f1], by simp -implicitDefEqProofs (disch := first | omega | (simp only [go_sem, List.size_toArray, List.length_cons, List.length_nil, Nat.reduceAdd]; done)) only [go_sem, Int.reduceLT, Int.reduceLE, Int.reduceEq, reduceIte, f30], by simp -implicitDefEqProofs (disch := first | omega | (simp only [go_sem, List.size_toArray, List.length_cons, List.length_nil, Nat.reduceAdd]; done)) only [go_sem, Int.reduceLT, Int.reduceLE, Int.reduceEq, reduceIte, f31], by simp -implicitDefEqProofs (disch := first | omega | (simp only [go_sem, List.size_toArray, List.length_cons, List.length_nil, Nat.reduceAdd]; done)) only [go_sem, Int.reduceLT, Int.reduceLE, Int.reduceEq, reduceIte], by omega, by simp -implicitDefEqProofs (disch := first | omega | (simp only [go_sem, List.size_toArray, List.length_cons, List.length_nil, Nat.reduceAdd]; done)) only [go_sem, Int.reduceLT, Int.reduceLE, Int.reduceEq, reduceIte]; rw [hnx, Bool.false_and]⟩
    · obtain rfl : i = cells.length := by omega
      rw [List.take_length] at f3
      obtain ⟨ok3, e3⟩ : ∃ b, (ok2 && cells.all (mayCell n)) = b := ⟨_, rfl⟩
      rw [e3] at f3
      have hpos3 : ok3 = true → 0 ≤ n := fun hk => hpos (by
        cases ok2
        · rw [← e3] at hk; simp at hk
        · rfl)
      have hEh : Ext h hh := hE0.trans hE
      have hr1 := hr.ext hEh
      have hNh : h.next < hh.next := hBn
      clear hE hK hc0 hr0
      refine hX _ _ (by simp) ?_
      simp -implicitDefEqProofs (disch := first | omega | (simp only [go_sem, List.size_toArray, List.length_cons, List.length_nil, Nat.reduceAdd]; done)) only [go_sem, Int.reduceLT, Int.reduceLE, Int.reduceEq, reduceIte, f1, f3, C2, er, Nat.zero_add]
      refine xloop (σ := Nat) (by kernel_rfl) (fun i s => s.df = [] ∧ Ext hh s.h ∧ s.fr 1 = some (.pointer (some ⟨h.next, 0, none⟩)) ∧ s.fr 47 = some rv ∧ s.fr 48 = some (.int .i64 rows.length) ∧ s.fr 49 = some (.int .i64 (i : Nat)) ∧ i ≤ rows.length ∧ s.fr 3 = some (.bool (ok3 && (rows.take i).all (mayRowB n)))) (fun i => rows.length - i) 0 ?_ ?_
      · simp -implicitDefEqProofs (disch := first | omega | (simp only [go_sem, List.size_toArray, List.length_cons, List.length_nil, Nat.reduceAdd]; done)) only [go_sem, Int.reduceLT, Int.reduceLE, Int.reduceEq, reduceIte, f1, f3]
        exact ⟨by trivial, .refl _, by trivial, by trivial, by trivial, by trivial, Nat.zero_le _, by simp⟩
      · rintro i ⟨fr, df, h2, rd⟩ K hK hX ⟨rfl, hE, f1, f47, f48, f49, hi, f3⟩
        simp only at hE f1 f47 f48 f49 f3
        have hB2 : h2.get h.next = some (.row [.int .i64 n, cv, rv] 0 false) := (hE.get _ hNh).trans hB
        have hBn : h.next < h2.next := Nat.lt_of_lt_of_le hNh hE.next
        have C0 : cellAt h2 h.next 0 = some (.int .i64 n) := cellAt_row hB2
        simp -implicitDefEqProofs (disch := first | omega | (simp only [go_sem, List.size_toArray, List.length_cons, List.length_nil, Nat.reduceAdd]; done)) only [go_sem, Int.reduceLT, Int.reduceLE, Int.reduceEq, reduceIte, f1, f47, f48, f49]
        refine XIf_dec (fun hc1 => ?_) (fun hc1 => ?_)
        · have hj : i < rows.length := by omega
          obtain ⟨id1, o1, g1, _, hat1⟩ := (hr1.ext hE).idx (P := Try.prog) (t := 24) el_24 (k := .i64) (i := i) (x := rows[i]) (by simp)
          obtain ⟨v1, l1, s1, k1⟩ := row_at hat1
          have hw := wrap_succ hj (by omega)
          obtain ⟨ok, eo⟩ : ∃ b, (ok3 && (rows.take i).all (mayRowB n)) = b := ⟨_, rfl⟩
          rw [eo] at f3
          have hnx : (ok3 && (rows.take (i + 1)).all (mayRowB n)) = (ok && mayRowB n rows[i]) := by
            rw [take_snoc (get_of_lt hj), List.all_append, ← eo, Bool.and_assoc]; simp
          have hE2 : ∀ x y, Ext hh ((h2.push x).push y) := fun x y => (hE.push x).push y
          have hst := rRow.one (rd_row s1 k1)
          have hst2 : [Value.int .i64 rows[i].x.e, v1, .int .i64 rows[i].x.s, .int .i64 rows[i].x.p].all Value.oneCell' = true := by
            obtain ⟨_, _, rfl⟩ := s1.isSlice
            rfl
          have ev := s1.lens (P := Try.prog) (ts := #[51]) (t := 51) rfl isl_51
          simp -implicitDefEqProofs (disch := first | omega | (simp only [go_sem, List.size_toArray, List.length_cons, List.length_nil, Nat.reduceAdd]; done)) only [go_sem, Int.reduceLT, Int.reduceLE, Int.reduceEq, reduceIte, f1, f3, f47, f48, f49, g1, l1, List.nil_append, store6_push hst, cells4_at2_p0, store4_push hst2, Nat.zero_add]
          obtain ⟨Ra, hRa⟩ : ∃ x, x = DObj.row [Value.int .i64 rows[i].ses, Value.int .i64 rows[i].req, Value.int .i64 rows[i].x.e, v1, Value.int .i64 rows[i].x.s, Value.int .i64 rows[i].x.p] 0 false := ⟨_, rfl⟩
          obtain ⟨Rb, hRb⟩ : ∃ x, x = DObj.row [Value.int .i64 rows[i].x.e, v1, Value.int .i64 rows[i].x.s, Value.int .i64 rows[i].x.p] 0 false := ⟨_, rfl⟩
          obtain ⟨okm, em⟩ : ∃ b, (ok && (decide (1 ≤ rows[i].ses ∧ rows[i].ses ≤ 1099511627776) && decide (1 ≤ rows[i].req ∧ rows[i].req ≤ 1099511627776))) = b := ⟨_, rfl⟩
          have hfin : (ok && mayRowB n rows[i]) = (okm && (((countB rows[i].x.e 355 && decide (rows[i].x.vs.length ≤ 8)) && countB rows[i].x.s (n - 1)) && countB rows[i].x.p 15)) := by
            rw [← em]; simp only [mayRowB, Bool.and_assoc]
          refine NStp_cut (fun s => s.df = [] ∧ s.h = (h2.push Ra).push Rb ∧ s.fr 1 = some (.pointer (some ⟨h.next, 0, none⟩)) ∧ s.fr 8 = some (.pointer (some ⟨(h2.push Ra).next, 0, none⟩)) ∧ s.fr 47 = some rv ∧ s.fr 48 = some (.int .i64 rows.length) ∧ s.fr 49 = some (.int .i64 (i : Nat)) ∧ s.fr 3 = some (.bool okm)) ?_ ?_
          · cases ok with
            | true =>
              simp -implicitDefEqProofs (disch := first | omega | (simp only [go_sem, List.size_toArray, List.length_cons, List.length_nil, Nat.reduceAdd]; done)) only [go_sem, Int.reduceLT, Int.reduceLE, Int.reduceEq, reduceIte, f1, f3, f47, f48, f49, cellAt_p1, Nat.zero_add]
              refine ncall count_c ?_
              rw [cnt1 k1.ses]
              by_cases h1 : (1 ≤ rows[i].ses ∧ rows[i].ses ≤ 1099511627776)
              · simp -implicitDefEqProofs (disch := first | omega | (simp only [go_sem, List.size_toArray, List.length_cons, List.length_nil, Nat.reduceAdd]; done)) only [go_sem, Int.reduceLT, Int.reduceLE, Int.reduceEq, reduceIte, f1, f3, f47, f48, f49, h1, cellAt_p1, Nat.zero_add, dPick_t, and_self]
                refine ncall count_c ?_
                rw [cnt1 k1.req]
                simp -implicitDefEqProofs (disch := first | omega | (simp only [go_sem, List.size_toArray, List.length_cons, List.length_nil, Nat.reduceAdd]; done)) only [go_sem, Int.reduceLT, Int.reduceLE, Int.reduceEq, reduceIte, f1, f3, f47, f48, f49, cellAt_p1, Nat.zero_add, dPick_t, hRa, hRb]
                exact ⟨by trivial, by trivial, by trivial, by trivial, by trivial, by trivial, by trivial, by rw [← em]; simp [h1]⟩
              · simp -implicitDefEqProofs (disch := first | omega | (simp only [go_sem, List.size_toArray, List.length_cons, List.length_nil, Nat.reduceAdd]; done)) only [go_sem, Int.reduceLT, Int.reduceLE, Int.reduceEq, reduceIte, f1, f3, f47, f48, f49, h1, cellAt_p1, Nat.zero_add, dPick_t, dPick_f, hRa, hRb]
                exact ⟨by trivial, by trivial, by trivial, by trivial, by trivial, by trivial, by trivial, by rw [← em]; simp [h1]⟩
            | false =>
              simp -implicitDefEqProofs (disch := first | omega | (simp only [go_sem, List.size_toArray, List.length_cons, List.length_nil, Nat.reduceAdd]; done)) only [go_sem, Int.reduceLT, Int.reduceLE, Int.reduceEq, reduceIte, f1, f3, f47, f48, f49, dPick_f, hRa, hRb]
              exact ⟨by trivial, by trivial, by trivial, by trivial, by trivial, by trivial, by trivial, by rw [← em]; simp⟩
          clear f3
          have hokn : ok = true → ok3 = true := by
            intro hh; rw [hh] at eo
            cases ok3
            · simp at eo
            · rfl
          rintro ⟨fr, df, h3, rd⟩ ⟨rfl, rfl, f1, f8, f47, f48, f49, f3⟩
          simp only at f1 f8 f47 f48 f49 f3
          rw [hfin] at hnx
          simp -implicitDefEqProofs (disch := first | omega | (simp only [go_sem, List.size_toArray, List.length_cons, List.length_nil, Nat.reduceAdd]; done)) only [go_sem, Int.reduceLT, Int.reduceLE, Int.reduceEq, reduceIte, f1, f8, f47, f48, f49, f3]
          refine NStp_cutB (fun s => s.df = [] ∧ s.h = (h2.push Ra).push Rb ∧ s.fr 1 = some (.pointer (some ⟨h.next, 0, none⟩)) ∧ s.fr 47 = some rv ∧ s.fr 48 = some (.int .i64 rows.length) ∧ s.fr 49 = some (.int .i64 (i : Nat)) ∧ s.fr 3 = some (.bool (ok3 && (rows.take (i + 1)).all (mayRowB n)))) ?_ ?_
          · rw [hnx]
            cases okm with
            | false =>
              simp -implicitDefEqProofs (disch := first | omega | (simp only [go_sem, List.size_toArray, List.length_cons, List.length_nil, Nat.reduceAdd]; done)) only [go_sem, Int.reduceLT, Int.reduceLE, Int.reduceEq, reduceIte, f1, f8, f47, f48, f49, f3, dPick_f]
              exact ⟨by trivial, by trivial, by trivial, by trivial, by trivial, by trivial, by simp⟩
            | true =>
              have hn0 : 0 ≤ n := hpos3 (hokn (by
                cases ok
                · simp at em
                · rfl))
              have hnw : IntKind.i64.wrap (n - 1) = n - 1 := wrap_i64_in (by omega) (by omega)
              subst hRa; subst hRb
              simp -implicitDefEqProofs (disch := first | omega | (simp only [go_sem, List.size_toArray, List.length_cons, List.length_nil, Nat.reduceAdd]; done)) only [go_sem, Int.reduceLT, Int.reduceLE, Int.reduceEq, reduceIte, f1, f8, f47, f48, f49, f3, cellAt_p0, Nat.zero_add]
              refine ncall count_c ?_
              by_cases h1 : countB rows[i].x.e 355 = true
              · rw [h1]
                by_cases h2' : rows[i].x.vs.length ≤ 8
                · have h2i : ((rows[i].x.vs.length : Nat) : Int) ≤ 8 := by omega
                  simp -implicitDefEqProofs (disch := first | omega | (simp only [go_sem, List.size_toArray, List.length_cons, List.length_nil, Nat.reduceAdd]; done)) only [go_sem, Int.reduceLT, Int.reduceLE, Int.reduceEq, reduceIte, f1, f8, f47, f48, f49, f3, cellAt_p0, Nat.zero_add, ev, h2i, dPick_t, C0, cellAt_o2, hnw]
                  refine ncall count_c ?_
                  by_cases h3 : countB rows[i].x.s (n - 1) = true
                  · rw [h3]
                    simp -implicitDefEqProofs (disch := first | omega | (simp only [go_sem, List.size_toArray, List.length_cons, List.length_nil, Nat.reduceAdd]; done)) only [go_sem, Int.reduceLT, Int.reduceLE, Int.reduceEq, reduceIte, f1, f8, f47, f48, f49, f3, cellAt_p0, Nat.zero_add, dPick_t]
                    refine ncall count_c ?_
                    simp -implicitDefEqProofs (disch := first | omega | (simp only [go_sem, List.size_toArray, List.length_cons, List.length_nil, Nat.reduceAdd]; done)) only [go_sem, Int.reduceLT, Int.reduceLE, Int.reduceEq, reduceIte, f1, f8, f47, f48, f49, f3, cellAt_p0, Nat.zero_add, dPick_t]
                    exact ⟨by trivial, by trivial, by trivial, by trivial, by trivial, by trivial, by simp [h1, h2', h3]⟩
                  · rw [show countB rows[i].x.s (n - 1) = false by simpa using h3]
                    simp -implicitDefEqProofs (disch := first | omega | (simp only [go_sem, List.size_toArray, List.length_cons, List.length_nil, Nat.reduceAdd]; done)) only [go_sem, Int.reduceLT, Int.reduceLE, Int.reduceEq, reduceIte, f1, f8, f47, f48, f49, f3, dPick_t, dPick_f]
                    exact ⟨by trivial, by trivial, by trivial, by trivial, by trivial, by trivial, by simp [h1, h2', h3]⟩
                · have h2i : ¬ ((rows[i].x.vs.length : Nat) : Int) ≤ 8 := by omega
                  simp -implicitDefEqProofs (disch := first | omega | (simp only [go_sem, List.size_toArray, List.length_cons, List.length_nil, Nat.reduceAdd]; done)) only [go_sem, Int.reduceLT, Int.reduceLE, Int.reduceEq, reduceIte, f1, f8, f47, f48, f49, f3, cellAt_p0, Nat.zero_add, ev, h2i, dPick_t, dPick_f]
                  exact ⟨by trivial, by trivial, by trivial, by trivial, by trivial, by trivial, by simp [h2']⟩
              · rw [show countB rows[i].x.e 355 = false by simpa using h1]
                simp -implicitDefEqProofs (disch := first | omega | (simp only [go_sem, List.size_toArray, List.length_cons, List.length_nil, Nat.reduceAdd]; done)) only [go_sem, Int.reduceLT, Int.reduceLE, Int.reduceEq, reduceIte, f1, f8, f47, f48, f49, f3, dPick_t, dPick_f]
                exact ⟨by trivial, by trivial, by trivial, by trivial, by trivial, by trivial, by simp [h1]⟩
          rintro ⟨fr, df, h3, rd⟩ ⟨rfl, rfl, f1, f47, f48, f49, f3⟩
          simp only at f1 f47 f48 f49 f3
          simp -implicitDefEqProofs (disch := first | omega | (simp only [go_sem, List.size_toArray, List.length_cons, List.length_nil, Nat.reduceAdd]; done)) only [go_sem, Int.reduceLT, Int.reduceLE, Int.reduceEq, reduceIte, f49, hw]
          refine hK (i + 1) _ ?_ (by omega)
          exact ⟨by trivial, hE2 _ _, by simp -implicitDefEqProofs (disch := first | omega | (simp only [go_sem, List.size_toArray, List.length_cons, List.length_nil, Nat.reduceAdd]; done)) only [go_sem, Int.reduceLT, Int.reduceLE, Int.reduceEq, reduceIte, f1], by simp -implicitDefEqProofs (disch := first | omega | (simp only [go_sem, List.size_toArray, List.length_cons, List.length_nil, Nat.reduceAdd]; done)) only [go_sem, Int.reduceLT, Int.reduceLE, Int.reduceEq, reduceIte, f47], by simp -implicitDefEqProofs (disch := first | omega | (simp only [go_sem, List.size_toArray, List.length_cons, List.length_nil, Nat.reduceAdd]; done)) only [go_sem, Int.reduceLT, Int.reduceLE, Int.reduceEq, reduceIte, f48], by simp -implicitDefEqProofs (disch := first | omega | (simp only [go_sem, List.size_toArray, List.length_cons, List.length_nil, Nat.reduceAdd]; done)) only [go_sem, Int.reduceLT, Int.reduceLE, Int.reduceEq, reduceIte], by omega, by simp -implicitDefEqProofs (disch := first | omega | (simp only [go_sem, List.size_toArray, List.length_cons, List.length_nil, Nat.reduceAdd]; done)) only [go_sem, Int.reduceLT, Int.reduceLE, Int.reduceEq, reduceIte, f3]⟩
        · obtain rfl : i = rows.length := by omega
          rw [List.take_length] at f3
          refine hX _ _ (by simp) ?_
          have hres : mayB ⟨n, cells, rows⟩ = (ok3 && rows.all (mayRowB n)) := by
            rw [← e3, ← e2, ← e1]; rfl
          have hfe : Ext h h2 := hEh.trans hE
          unfold checkE
          rw [hres]
          cases hb : (ok3 && rows.all (mayRowB n)) with
          | true =>
            rw [hb] at f3
            simp -implicitDefEqProofs (disch := first | omega | (simp only [go_sem, List.size_toArray, List.length_cons, List.length_nil, Nat.reduceAdd]; done)) only [go_sem, Int.reduceLT, Int.reduceLE, Int.reduceEq, reduceIte, f3]
            exact ⟨_, rfl, rfl, hfe⟩
          | false =>
            rw [hb] at f3
            simp -implicitDefEqProofs (disch := first | omega | (simp only [go_sem, List.size_toArray, List.length_cons, List.length_nil, Nat.reduceAdd]; done)) only [go_sem, Int.reduceLT, Int.reduceLE, Int.reduceEq, reduceIte, f3]
            exact ⟨_, rfl, rfl, hfe⟩
end Go.Proofs.Ytlhgijpdhniddaa

namespace Go.Proofs.Ytlhgijpdhniddaa
open Go.D
set_option maxRecDepth 100000

theorem refcount_c {h : DHeap} {n : Int} : DC Try.prog 64 [.int .i64 n] h (.ret (.bool (countB n 1099511627776))) h := by
  refine Ct.pure (go_64 (by simp) ?_) (vin_bool _)
  unfold countB
  by_cases h0 : 0 ≤ n
  · simp -implicitDefEqProofs (disch := first | omega | (simp only [go_sem, List.size_toArray, List.length_cons, List.length_nil, Nat.reduceAdd]; done)) only [go_sem, Int.reduceLT, Int.reduceLE, Int.reduceEq, reduceIte, c64, ge_iff_le, h0, dPick_t, Bool.true_and]
    exact ⟨_, rfl, rfl, .refl h⟩
  · simp -implicitDefEqProofs (disch := first | omega | (simp only [go_sem, List.size_toArray, List.length_cons, List.length_nil, Nat.reduceAdd]; done)) only [go_sem, Int.reduceLT, Int.reduceLE, Int.reduceEq, reduceIte, c64, ge_iff_le, h0, dPick_f, Bool.false_and]
    exact ⟨_, rfl, rfl, .refl h⟩
theorem mayRow_iff {n : Int} {r : Row} : mayRowB n r = true ↔ (1 ≤ r.ses ∧ r.ses ≤ 1099511627776) ∧ (1 ≤ r.req ∧ r.req ≤ 1099511627776) ∧ (0 ≤ r.x.e ∧ r.x.e ≤ 355) ∧ r.x.vs.length ≤ 8 ∧ (0 ≤ r.x.s ∧ r.x.s < n) ∧ (0 ≤ r.x.p ∧ r.x.p < 16) := by
  simp only [mayRowB, countB, Bool.and_eq_true, decide_eq_true_eq]
  omega
theorem mayRow_false {n : Int} {r : Row} (h : ¬ ((1 ≤ r.ses ∧ r.ses ≤ 1099511627776) ∧ (1 ≤ r.req ∧ r.req ≤ 1099511627776) ∧ (0 ≤ r.x.e ∧ r.x.e ≤ 355) ∧ r.x.vs.length ≤ 8 ∧ (0 ≤ r.x.s ∧ r.x.s < n) ∧ (0 ≤ r.x.p ∧ r.x.p < 16))) : mayRowB n r = false := by
  rw [← mayRow_iff] at h; simpa using h
theorem mayRow_true {n : Int} {r : Row} (h1 : 1 ≤ r.ses ∧ r.ses ≤ 1099511627776) (h2 : 1 ≤ r.req ∧ r.req ≤ 1099511627776) (h3 : 0 ≤ r.x.e ∧ r.x.e ≤ 355) (h4 : r.x.vs.length ≤ 8) (h5 : 0 ≤ r.x.s ∧ r.x.s < n) (h6 : 0 ≤ r.x.p ∧ r.x.p < 16) : mayRowB n r = true :=
  mayRow_iff.2 ⟨h1, h2, h3, h4, h5, h6⟩
theorem mayRow_c {h : DHeap} {n : Int} {r : Row} {v : Value} {S : Nat → Prop} (hv : Sl fI64.rep S h v r.x.vs) : DC Try.prog 66 [rowV r v, .int .i64 n] h (.ret (.bool (mayRowB n r))) h := by
  refine Ct.pure (go_66 (by simp) ?_) (vin_bool _)
  have v1 := hv.cells1
  have ev := hv.lens (P := Try.prog) (ts := #[51]) (t := 51) rfl isl_51
  have hst2 : [Value.int .i64 r.x.e, v, .int .i64 r.x.s, .int .i64 r.x.p].all Value.oneCell' = true := by
    obtain ⟨_, _, rfl⟩ := hv.isSlice
    rfl
  have hfe : ∀ {x y}, Ext h ((h.push x).push y) := (Ext.push1 _ _).push _
  unfold c66
  by_cases g0 : 1 ≤ r.ses
  case neg =>
    simp -implicitDefEqProofs (disch := first | omega | (simp only [go_sem, List.size_toArray, List.length_cons, List.length_nil, Nat.reduceAdd]; done)) only [go_sem, Int.reduceLT, Int.reduceLE, Int.reduceEq, reduceIte, cellAt_p0, cellAt_p1, cells4_at2_p0, store4_push hst2, Nat.zero_add, Nat.add_zero, ge_iff_le, ev, dPick_t, dPick_f, List.nil_append, v1, g0]
    exact ⟨_, rfl, by rw [mayRow_false (by first | omega | (simp only [countB, Bool.and_eq_true, decide_eq_true_eq] at *; omega))], hfe⟩
  simp -implicitDefEqProofs (disch := first | omega | (simp only [go_sem, List.size_toArray, List.length_cons, List.length_nil, Nat.reduceAdd]; done)) only [go_sem, Int.reduceLT, Int.reduceLE, Int.reduceEq, reduceIte, cellAt_p0, cellAt_p1, cells4_at2_p0, store4_push hst2, Nat.zero_add, Nat.add_zero, ge_iff_le, ev, dPick_t, dPick_f, List.nil_append, v1, g0]
  refine ncall refcount_c ?_
  by_cases g1 : countB r.ses 1099511627776 = true
  case neg =>
    rw [show countB r.ses 1099511627776 = false by simpa using g1]
    simp -implicitDefEqProofs (disch := first | omega | (simp only [go_sem, List.size_toArray, List.length_cons, List.length_nil, Nat.reduceAdd]; done)) only [go_sem, Int.reduceLT, Int.reduceLE, Int.reduceEq, reduceIte, cellAt_p0, cellAt_p1, cells4_at2_p0, store4_push hst2, Nat.zero_add, Nat.add_zero, ge_iff_le, ev, dPick_t, dPick_f, List.nil_append, v1, g0]
    exact ⟨_, rfl, by rw [mayRow_false (by first | omega | (simp only [countB, Bool.and_eq_true, decide_eq_true_eq] at *; omega))], hfe⟩
  rw [g1]
  by_cases g2 : 1 ≤ r.req
  case neg =>
    simp -implicitDefEqProofs (disch := first | omega | (simp only [go_sem, List.size_toArray, List.length_cons, List.length_nil, Nat.reduceAdd]; done)) only [go_sem, Int.reduceLT, Int.reduceLE, Int.reduceEq, reduceIte, cellAt_p0, cellAt_p1, cells4_at2_p0, store4_push hst2, Nat.zero_add, Nat.add_zero, ge_iff_le, ev, dPick_t, dPick_f, List.nil_append, v1, g0, g2]
    exact ⟨_, rfl, by rw [mayRow_false (by first | omega | (simp only [countB, Bool.and_eq_true, decide_eq_true_eq] at *; omega))], hfe⟩
  simp -implicitDefEqProofs (disch := first | omega | (simp only [go_sem, List.size_toArray, List.length_cons, List.length_nil, Nat.reduceAdd]; done)) only [go_sem, Int.reduceLT, Int.reduceLE, Int.reduceEq, reduceIte, cellAt_p0, cellAt_p1, cells4_at2_p0, store4_push hst2, Nat.zero_add, Nat.add_zero, ge_iff_le, ev, dPick_t, dPick_f, List.nil_append, v1, g0, g2]
  refine ncall refcount_c ?_
  by_cases g3 : countB r.req 1099511627776 = true
  case neg =>
    rw [show countB r.req 1099511627776 = false by simpa using g3]
    simp -implicitDefEqProofs (disch := first | omega | (simp only [go_sem, List.size_toArray, List.length_cons, List.length_nil, Nat.reduceAdd]; done)) only [go_sem, Int.reduceLT, Int.reduceLE, Int.reduceEq, reduceIte, cellAt_p0, cellAt_p1, cells4_at2_p0, store4_push hst2, Nat.zero_add, Nat.add_zero, ge_iff_le, ev, dPick_t, dPick_f, List.nil_append, v1, g0, g2]
    exact ⟨_, rfl, by rw [mayRow_false (by first | omega | (simp only [countB, Bool.and_eq_true, decide_eq_true_eq] at *; omega))], hfe⟩
  rw [g3]
  by_cases g4 : 0 ≤ r.x.e
  case neg =>
    simp -implicitDefEqProofs (disch := first | omega | (simp only [go_sem, List.size_toArray, List.length_cons, List.length_nil, Nat.reduceAdd]; done)) only [go_sem, Int.reduceLT, Int.reduceLE, Int.reduceEq, reduceIte, cellAt_p0, cellAt_p1, cells4_at2_p0, store4_push hst2, Nat.zero_add, Nat.add_zero, ge_iff_le, ev, dPick_t, dPick_f, List.nil_append, v1, g0, g2, g4]
    exact ⟨_, rfl, by rw [mayRow_false (by first | omega | (simp only [countB, Bool.and_eq_true, decide_eq_true_eq] at *; omega))], hfe⟩
  by_cases g5 : r.x.e ≤ 355
  case neg =>
    simp -implicitDefEqProofs (disch := first | omega | (simp only [go_sem, List.size_toArray, List.length_cons, List.length_nil, Nat.reduceAdd]; done)) only [go_sem, Int.reduceLT, Int.reduceLE, Int.reduceEq, reduceIte, cellAt_p0, cellAt_p1, cells4_at2_p0, store4_push hst2, Nat.zero_add, Nat.add_zero, ge_iff_le, ev, dPick_t, dPick_f, List.nil_append, v1, g0, g2, g4, g5]
    exact ⟨_, rfl, by rw [mayRow_false (by first | omega | (simp only [countB, Bool.and_eq_true, decide_eq_true_eq] at *; omega))], hfe⟩
  by_cases g6 : ((r.x.vs.length : Nat) : Int) ≤ 8
  case neg =>
    simp -implicitDefEqProofs (disch := first | omega | (simp only [go_sem, List.size_toArray, List.length_cons, List.length_nil, Nat.reduceAdd]; done)) only [go_sem, Int.reduceLT, Int.reduceLE, Int.reduceEq, reduceIte, cellAt_p0, cellAt_p1, cells4_at2_p0, store4_push hst2, Nat.zero_add, Nat.add_zero, ge_iff_le, ev, dPick_t, dPick_f, List.nil_append, v1, g0, g2, g4, g5, g6]
    exact ⟨_, rfl, by rw [mayRow_false (by first | omega | (simp only [countB, Bool.and_eq_true, decide_eq_true_eq] at *; omega))], hfe⟩
  by_cases g7 : 0 ≤ r.x.s
  case neg =>
    simp -implicitDefEqProofs (disch := first | omega | (simp only [go_sem, List.size_toArray, List.length_cons, List.length_nil, Nat.reduceAdd]; done)) only [go_sem, Int.reduceLT, Int.reduceLE, Int.reduceEq, reduceIte, cellAt_p0, cellAt_p1, cells4_at2_p0, store4_push hst2, Nat.zero_add, Nat.add_zero, ge_iff_le, ev, dPick_t, dPick_f, List.nil_append, v1, g0, g2, g4, g5, g6, g7]
    exact ⟨_, rfl, by rw [mayRow_false (by first | omega | (simp only [countB, Bool.and_eq_true, decide_eq_true_eq] at *; omega))], hfe⟩
  by_cases g8 : r.x.s < n
  case neg =>
    simp -implicitDefEqProofs (disch := first | omega | (simp only [go_sem, List.size_toArray, List.length_cons, List.length_nil, Nat.reduceAdd]; done)) only [go_sem, Int.reduceLT, Int.reduceLE, Int.reduceEq, reduceIte, cellAt_p0, cellAt_p1, cells4_at2_p0, store4_push hst2, Nat.zero_add, Nat.add_zero, ge_iff_le, ev, dPick_t, dPick_f, List.nil_append, v1, g0, g2, g4, g5, g6, g7, g8]
    exact ⟨_, rfl, by rw [mayRow_false (by first | omega | (simp only [countB, Bool.and_eq_true, decide_eq_true_eq] at *; omega))], hfe⟩
  by_cases g9 : 0 ≤ r.x.p
  case neg =>
    simp -implicitDefEqProofs (disch := first | omega | (simp only [go_sem, List.size_toArray, List.length_cons, List.length_nil, Nat.reduceAdd]; done)) only [go_sem, Int.reduceLT, Int.reduceLE, Int.reduceEq, reduceIte, cellAt_p0, cellAt_p1, cells4_at2_p0, store4_push hst2, Nat.zero_add, Nat.add_zero, ge_iff_le, ev, dPick_t, dPick_f, List.nil_append, v1, g0, g2, g4, g5, g6, g7, g8, g9]
    exact ⟨_, rfl, by rw [mayRow_false (by first | omega | (simp only [countB, Bool.and_eq_true, decide_eq_true_eq] at *; omega))], hfe⟩
  by_cases g10 : r.x.p < 16
  case neg =>
    simp -implicitDefEqProofs (disch := first | omega | (simp only [go_sem, List.size_toArray, List.length_cons, List.length_nil, Nat.reduceAdd]; done)) only [go_sem, Int.reduceLT, Int.reduceLE, Int.reduceEq, reduceIte, cellAt_p0, cellAt_p1, cells4_at2_p0, store4_push hst2, Nat.zero_add, Nat.add_zero, ge_iff_le, ev, dPick_t, dPick_f, List.nil_append, v1, g0, g2, g4, g5, g6, g7, g8, g9, g10]
    exact ⟨_, rfl, by rw [mayRow_false (by first | omega | (simp only [countB, Bool.and_eq_true, decide_eq_true_eq] at *; omega))], hfe⟩
  simp -implicitDefEqProofs (disch := first | omega | (simp only [go_sem, List.size_toArray, List.length_cons, List.length_nil, Nat.reduceAdd]; done)) only [go_sem, Int.reduceLT, Int.reduceLE, Int.reduceEq, reduceIte, cellAt_p0, cellAt_p1, cells4_at2_p0, store4_push hst2, Nat.zero_add, Nat.add_zero, ge_iff_le, ev, dPick_t, dPick_f, List.nil_append, v1, g0, g2, g4, g5, g6, g7, g8, g9, g10]
  exact ⟨_, rfl, by rw [mayRow_true (by first | omega | (simp only [countB, Bool.and_eq_true, decide_eq_true_eq] at *; omega)) (by first | omega | (simp only [countB, Bool.and_eq_true, decide_eq_true_eq] at *; omega)) (by omega) (by omega) (by omega) (by omega)], hfe⟩
end Go.Proofs.Ytlhgijpdhniddaa

namespace Go.Proofs.Ytlhgijpdhniddaa
open Go.D
set_option maxRecDepth 100000

theorem risesB_get {α : Type} {lt : α → α → Bool} : ∀ {l : List α}, risesB lt l = true → ∀ (i : Nat) (a b : α), l[i]? = some a → l[i + 1]? = some b → lt a b = true
  | [], _, i, a, b, h1, _ => by simp at h1
  | [_], _, i, a, b, _, h2 => by simp at h2
  | x :: y :: l, h, 0, a, b, h1, h2 => by
    simp at h1 h2; subst h1; subst h2
    simp [risesB] at h; exact h.1
  | x :: y :: l, h, i + 1, a, b, h1, h2 => by
    simp [risesB] at h
    exact risesB_get h.2 i a b (by simpa using h1) (by simpa using h2)
theorem risesB_of {α : Type} {lt : α → α → Bool} : ∀ {l : List α}, (∀ (i : Nat) (a b : α), l[i]? = some a → l[i + 1]? = some b → lt a b = true) → risesB lt l = true
  | [], _ => rfl
  | [_], _ => rfl
  | x :: y :: l, h => by
    simp only [risesB, Bool.and_eq_true]
    exact ⟨h 0 x y rfl rfl, risesB_of fun i a b h1 h2 => h (i + 1) a b (by simpa using h1) (by simpa using h2)⟩
/-- one is in order, and behind the one ahead of it -/
def OkAt {α : Type} (lt : α → α → Bool) (p : α → Bool) (l : List α) (j : Nat) : Prop := ∀ x, l[j]? = some x → p x = true ∧ ∀ k y, j = k + 1 → l[k]? = some y → lt y x = true
theorem okAll {α : Type} {lt : α → α → Bool} {p : α → Bool} {l : List α} : (risesB lt l = true ∧ l.all p = true) ↔ ∀ j, j < l.length → OkAt lt p l j := by
  constructor
  · rintro ⟨h1, h2⟩ j hj x hx
    refine ⟨List.all_eq_true.1 h2 x (List.mem_of_getElem? hx), fun k y hk hy => ?_⟩
    subst hk
    exact risesB_get h1 k y x hy hx
  · intro h
    refine ⟨risesB_of fun i a b h1 h2 => ?_, List.all_eq_true.2 fun x hx => ?_⟩
    · have hl : i + 1 < l.length := by
        rcases Nat.lt_or_ge (i + 1) l.length with hh | hh
        · exact hh
        · rw [List.getElem?_eq_none hh] at h2; cases h2
      exact ((h (i + 1) hl) b h2).2 i a rfl h1
    · obtain ⟨j, hj, rfl⟩ := List.mem_iff_getElem.1 hx
      exact ((h j hj) _ (get_of_lt hj)).1
abbrev OkCell (n : Int) (l : List Cell) := OkAt (fun a b => keyLt a.k b.k) (mayCell n) l
abbrev OkRow (n : Int) (l : List Row) := OkAt (fun a b => decide (a.ses < b.ses)) (mayRowB n) l
theorem may_iff {x : State} : mayB x = true ↔ countB x.slot 1099511627776 = true ∧ x.rows.length ≤ 64 ∧ (∀ j, j < x.cells.length → OkCell x.slot x.cells j) ∧ (∀ j, j < x.rows.length → OkRow x.slot x.rows j) := by
  rw [← okAll, ← okAll]
  simp only [mayB, Bool.and_eq_true, decide_eq_true_eq]
  constructor
  · rintro ⟨⟨⟨⟨a, b⟩, c, d⟩, e⟩, f⟩; exact ⟨a, b, ⟨c, e⟩, d, f⟩
  · rintro ⟨a, b, ⟨c, e⟩, d, f⟩; exact ⟨⟨⟨⟨a, b⟩, c, d⟩, e⟩, f⟩
theorem may_false {x : State} (h : ¬ (countB x.slot 1099511627776 = true ∧ x.rows.length ≤ 64 ∧ (∀ j, j < x.cells.length → OkCell x.slot x.cells j) ∧ (∀ j, j < x.rows.length → OkRow x.slot x.rows j))) : mayB x = false := by
  rw [← may_iff] at h; simpa using h
theorem cell_key {S : Nat → Prop} {h : DHeap} {id o : Nat} {c : Cell} (a : At fCell.rep S h id o c) : cellsAt h id o 2 = some (keyV c.k) := by
  obtain ⟨cells, esz, ro, g, b, e, _⟩ := a
  have hb : o + 4 ≤ cells.length := b
  have he : (cells.drop o).take 4 = fCell.enc c := e
  rw [cellsAt_row g (by omega)]
  have : (cells.drop o).take 2 = ((cells.drop o).take 4).take 2 := by rw [List.take_take]; rfl
  rw [this, he]; rfl
theorem row_ses {S : Nat → Prop} {h : DHeap} {id o : Nat} {r : Row} (a : At rRow S h id o r) : cellAt h id o = some (.int .i64 r.ses) := a.iso.fst.load_int.1

theorem may_c {h : DHeap} {n : Int} {cv rv : Value} {cells : List Cell} {rows : List Row} (hc : Arg fCell.rep h cv cells) (hr : Arg rRow h rv rows) (hlc : cells.length ≤ 4294967296) (hlr : rows.length ≤ 4294967296) :
    DC Try.prog 37 [stateV n cv rv] h (.ret (.bool (mayB ⟨n, cells, rows⟩))) h := by
  refine Ct.pure (go_37 (by simp) ?_) (vin_bool _)
  have c1 := hc.cells1
  have r1 := hr.cells1
  obtain ⟨H0, hH0⟩ : ∃ H, H = h.push (.row [.int .i64 n, cv, rv] 0 false) := ⟨_, rfl⟩
  have hE0 : Ext h H0 := by rw [hH0]; exact Ext.push1 _ _
  have hB0 : H0.get h.next = some (.row [.int .i64 n, cv, rv] 0 false) := by rw [hH0]; exact get_push_same _ _
  have hN0 : h.next < H0.next := by rw [hH0, next_push]; omega
  have er := hr.lens (P := Try.prog) (ts := #[24]) (t := 24) rfl isl_24
  have ec := hc.lens (P := Try.prog) (ts := #[23]) (t := 23) rfl isl_23
  have B0 : cellAt H0 h.next 0 = some (.int .i64 n) := cellAt_row hB0
  have B1 : cellAt H0 h.next 1 = some cv := cellAt_row hB0
  have B2 : cellAt H0 h.next 2 = some rv := cellAt_row hB0
  have hc0 := hc.ext hE0
  have hr0 := hr.ext hE0
  simp -implicitDefEqProofs (disch := first | omega | (simp only [go_sem, List.size_toArray, List.length_cons, List.length_nil, Nat.reduceAdd]; done)) only [go_sem, Int.reduceLT, Int.reduceLE, Int.reduceEq, reduceIte, c37, ← hH0, B0, B1, B2, Nat.add_zero, Nat.zero_add]
  refine ncall refcount_c ?_
  by_cases h1 : countB n 1099511627776 = true
  case neg =>
    rw [show countB n 1099511627776 = false by simpa using h1]
    simp -implicitDefEqProofs (disch := first | omega | (simp only [go_sem, List.size_toArray, List.length_cons, List.length_nil, Nat.reduceAdd]; done)) only [go_sem, Int.reduceLT, Int.reduceLE, Int.reduceEq, reduceIte, dPick_t]
    exact ⟨_, rfl, by rw [may_false (fun hh => h1 hh.1)], hE0⟩
  rw [h1]
  by_cases h2 : rows.length ≤ 64
  case neg =>
    have h2i : ((rows.length : Nat) : Int) > 64 := by omega
    simp -implicitDefEqProofs (disch := first | omega | (simp only [go_sem, List.size_toArray, List.length_cons, List.length_nil, Nat.reduceAdd]; done)) only [go_sem, Int.reduceLT, Int.reduceLE, Int.reduceEq, reduceIte, B2, er, h2i, dPick_t, dPick_f, Nat.zero_add]
    exact ⟨_, rfl, by rw [may_false (fun hh => h2 hh.2.1)], hE0⟩
  have h2i : ¬ ((rows.length : Nat) : Int) > 64 := by omega
  simp -implicitDefEqProofs (disch := first | omega | (simp only [go_sem, List.size_toArray, List.length_cons, List.length_nil, Nat.reduceAdd]; done)) only [go_sem, Int.reduceLT, Int.reduceLE, Int.reduceEq, reduceIte, B2, er, h2i, dPick_t, dPick_f, Nat.zero_add]
  refine xloop (σ := Nat) (by kernel_rfl) (fun i s => s.df = [] ∧ Ext H0 s.h ∧ s.fr 1 = some (.pointer (some ⟨h.next, 0, none⟩)) ∧ s.fr 3 = some (.int .i64 (i : Nat)) ∧ i ≤ cells.length ∧ ∀ j, j < i → OkCell n cells j) (fun i => cells.length - i) 0 ?_ ?_
  · simp -implicitDefEqProofs (disch := first | omega | (simp only [go_sem, List.size_toArray, List.length_cons, List.length_nil, Nat.reduceAdd]; done)) only [go_sem, Int.reduceLT, Int.reduceLE, Int.reduceEq, reduceIte]
    exact ⟨by trivial, .refl _, by trivial, by trivial, Nat.zero_le _, fun j hj => absurd hj (Nat.not_lt_zero _)⟩
  · rintro i ⟨fr, df, hh, rd⟩ K hK hX ⟨rfl, hE, f1, f3, hi, hok⟩
    simp only at hE f1 f3
    have hB : hh.get h.next = some (.row [.int .i64 n, cv, rv] 0 false) := (hE.get _ hN0).trans hB0
    have hBn : h.next < hh.next := Nat.lt_of_lt_of_le hN0 hE.next
    have C0 : cellAt hh h.next 0 = some (.int .i64 n) := cellAt_row hB
    have C1 : cellAt hh h.next 1 = some cv := cellAt_row hB
    have C2 : cellAt hh h.next 2 = some rv := cellAt_row hB
    simp -implicitDefEqProofs (disch := first | omega | (simp only [go_sem, List.size_toArray, List.length_cons, List.length_nil, Nat.reduceAdd]; done)) only [go_sem, Int.reduceLT, Int.reduceLE, Int.reduceEq, reduceIte, f1, f3, C1, ec, Nat.zero_add]
    refine XIf_dec (fun hc1 => ?_) (fun hc1 => ?_)
    · have hj : i < cells.length := by omega
      obtain ⟨id1, o1, g1, _, hat1⟩ := (hc0.ext hE).idx (P := Try.prog) (t := 23) el_23 (k := .i64) (i := i) (x := cells[i]) (by simp)
      have l1 : cellsAt hh id1 o1 4 = some (cellV cells[i]) := hat1.flat.2.1
      have hw := wrap_succ hj (by omega)
      have hst : [Value.int .i32 cells[i].k.t, .int .i64 cells[i].k.r, .int .i64 cells[i].v, .int .i64 cells[i].s].all Value.oneCell' = true := rfl
      have hE2 : ∀ x, Ext H0 (hh.push x) := fun x => hE.push x
      have bad : ¬ OkCell n cells i → mayB ⟨n, cells, rows⟩ = false := fun hno => may_false (fun hh => hno (hh.2.2.1 i hj))
      simp -implicitDefEqProofs (disch := first | omega | (simp only [go_sem, List.size_toArray, List.length_cons, List.length_nil, Nat.reduceAdd]; done)) only [go_sem, Int.reduceLT, Int.reduceLE, Int.reduceEq, reduceIte, f1, f3, C1, g1, l1, List.nil_append, store4_push hst, Nat.zero_add, Nat.add_zero]
      refine dr_37_0 ?_
      by_cases q1 : cells[i].s < 0
      case pos =>
        simp -implicitDefEqProofs (disch := first | omega | (simp only [go_sem, List.size_toArray, List.length_cons, List.length_nil, Nat.reduceAdd]; done)) only [go_sem, Int.reduceLT, Int.reduceLE, Int.reduceEq, reduceIte, l37_0, f1, f3, cellAt_p0, cellAt_o1, C0, Nat.zero_add, Nat.add_zero, q1, dPick_t, true_and]
        refine hX _ _ (by simp) ?_
        simp -implicitDefEqProofs (disch := first | omega | (simp only [go_sem, List.size_toArray, List.length_cons, List.length_nil, Nat.reduceAdd]; done)) only [go_sem, Int.reduceLT, Int.reduceLE, Int.reduceEq, reduceIte]
        exact ⟨_, rfl, by rw [bad (fun hok => by have := (hok _ (get_of_lt hj)).1; simp [mayCell, countB] at this; omega)], hE0.trans (hE2 _)⟩
      by_cases q2 : cells[i].s ≥ n
      case pos =>
        simp -implicitDefEqProofs (disch := first | omega | (simp only [go_sem, List.size_toArray, List.length_cons, List.length_nil, Nat.reduceAdd]; done)) only [go_sem, Int.reduceLT, Int.reduceLE, Int.reduceEq, reduceIte, l37_0, f1, f3, cellAt_p0, cellAt_o1, C0, Nat.zero_add, Nat.add_zero, q1, q2, dPick_t, dPick_f, true_and]
        refine hX _ _ (by simp) ?_
        simp -implicitDefEqProofs (disch := first | omega | (simp only [go_sem, List.size_toArray, List.length_cons, List.length_nil, Nat.reduceAdd]; done)) only [go_sem, Int.reduceLT, Int.reduceLE, Int.reduceEq, reduceIte]
        exact ⟨_, rfl, by rw [bad (fun hok => by have := (hok _ (get_of_lt hj)).1; simp [mayCell, countB] at this; omega)], hE0.trans (hE2 _)⟩
      have hmc : mayCell n cells[i] = true := by
        simp [mayCell, countB]; omega
      by_cases q3 : i = 0
      case pos =>
        have q3i : ¬ ((i : Nat) : Int) > 0 := by omega
        simp -implicitDefEqProofs (disch := first | omega | (simp only [go_sem, List.size_toArray, List.length_cons, List.length_nil, Nat.reduceAdd]; done)) only [go_sem, Int.reduceLT, Int.reduceLE, Int.reduceEq, reduceIte, l37_0, f1, f3, cellAt_p0, cellAt_o1, C0, Nat.zero_add, Nat.add_zero, q1, q2, q3i, dPick_t, dPick_f, true_and, hw]
        refine hK (i + 1) _ ?_ (by omega)
        refine ⟨by trivial, hE2 _, by simp -implicitDefEqProofs (disch := first | omega | (simp only [go_sem, List.size_toArray, List.length_cons, List.length_nil, Nat.reduceAdd]; done)) only [go_sem, Int.reduceLT, Int.reduceLE, Int.reduceEq, reduceIte, f1], by simp -implicitDefEqProofs (disch := first | omega | (simp only [go_sem, List.size_toArray, List.length_cons, List.length_nil, Nat.reduceAdd]; done)) only [go_sem, Int.reduceLT, Int.reduceLE, Int.reduceEq, reduceIte], by omega, fun j hj2 => ?_⟩
        rcases Nat.lt_or_ge j i with h3 | h3
        · exact hok j h3
        · obtain rfl : j = i := by omega
          intro x hx
          rw [get_of_lt hj] at hx
          cases hx
          exact ⟨hmc, fun k y hk => by omega⟩
      have q3i : ((i : Nat) : Int) > 0 := by omega
      obtain ⟨m, hm⟩ : ∃ m, i = m + 1 := ⟨i - 1, by omega⟩
      have hmj : m < cells.length := by omega
      have hw2 : IntKind.i64.wrap (((i : Nat) : Int) - 1) = (m : Int) := by rw [wrap_i64_in (by omega) (by omega)]; omega
      obtain ⟨id2, o2, g2, hid2, hat2⟩ := (hc0.ext hE).idx (P := Try.prog) (t := 23) el_23 (k := .i64) (i := m) (x := cells[m]) (by simp)
      have l2 := cell_key hat2
      simp -implicitDefEqProofs (disch := first | omega | (simp only [go_sem, List.size_toArray, List.length_cons, List.length_nil, Nat.reduceAdd]; done)) only [go_sem, Int.reduceLT, Int.reduceLE, Int.reduceEq, reduceIte, l37_0, f1, f3, cellAt_p0, cellAt_o1, cellsAt_o1, cells2_p0, C0, C1, Nat.zero_add, Nat.add_zero, q1, q2, q3i, dPick_t, dPick_f, true_and, hw2, g2, l2]
      refine dcall (less_c (b := cells[i].k)) ?_
      by_cases q4 : keyLt cells[m].k cells[i].k = true
      case neg =>
        rw [show keyLt cells[m].k cells[i].k = false by simpa using q4]
        simp -implicitDefEqProofs (disch := first | omega | (simp only [go_sem, List.size_toArray, List.length_cons, List.length_nil, Nat.reduceAdd]; done)) only [go_sem, Int.reduceLT, Int.reduceLE, Int.reduceEq, reduceIte, true_and, dPick_t, dPick_f]
        refine hX _ _ (by simp) ?_
        simp -implicitDefEqProofs (disch := first | omega | (simp only [go_sem, List.size_toArray, List.length_cons, List.length_nil, Nat.reduceAdd]; done)) only [go_sem, Int.reduceLT, Int.reduceLE, Int.reduceEq, reduceIte]
        exact ⟨_, rfl, by rw [bad (fun hok => q4 ((hok _ (get_of_lt hj)).2 m _ hm (get_of_lt hmj)))], hE0.trans (hE2 _)⟩
      rw [q4]
      simp -implicitDefEqProofs (disch := first | omega | (simp only [go_sem, List.size_toArray, List.length_cons, List.length_nil, Nat.reduceAdd]; done)) only [go_sem, Int.reduceLT, Int.reduceLE, Int.reduceEq, reduceIte, true_and, dPick_t, dPick_f, f3, hw]
      refine hK (i + 1) _ ?_ (by omega)
      refine ⟨by trivial, hE2 _, by simp -implicitDefEqProofs (disch := first | omega | (simp only [go_sem, List.size_toArray, List.length_cons, List.length_nil, Nat.reduceAdd]; done)) only [go_sem, Int.reduceLT, Int.reduceLE, Int.reduceEq, reduceIte, f1], by simp -implicitDefEqProofs (disch := first | omega | (simp only [go_sem, List.size_toArray, List.length_cons, List.length_nil, Nat.reduceAdd]; done)) only [go_sem, Int.reduceLT, Int.reduceLE, Int.reduceEq, reduceIte], by omega, fun j hj2 => ?_⟩
      rcases Nat.lt_or_ge j i with h3 | h3
      · exact hok j h3
      · obtain rfl : j = i := by omega
        intro x hx
        rw [get_of_lt hj] at hx
        cases hx
        refine ⟨hmc, fun k y hk hy => ?_⟩
        obtain rfl : k = m := by omega
        rw [get_of_lt hmj] at hy
        cases hy
        exact q4
    · have hcells : ∀ j, j < cells.length → OkCell n cells j := fun j hj => hok j (by omega)
      refine hX _ _ (by simp) ?_
      clear hK hX
      have hr1 := hr0.ext hE
      simp -implicitDefEqProofs (disch := first | omega | (simp only [go_sem, List.size_toArray, List.length_cons, List.length_nil, Nat.reduceAdd]; done)) only [go_sem, Int.reduceLT, Int.reduceLE, Int.reduceEq, reduceIte, f1]
      refine xloop (σ := Nat) (by kernel_rfl) (fun i s => s.df = [] ∧ s.h = hh ∧ s.fr 1 = some (.pointer (some ⟨h.next, 0, none⟩)) ∧ s.fr 5 = some (.int .i64 (i : Nat)) ∧ i ≤ rows.length ∧ ∀ j, j < i → OkRow n rows j) (fun i => rows.length - i) 0 ?_ ?_
      · simp -implicitDefEqProofs (disch := first | omega | (simp only [go_sem, List.size_toArray, List.length_cons, List.length_nil, Nat.reduceAdd]; done)) only [go_sem, Int.reduceLT, Int.reduceLE, Int.reduceEq, reduceIte, f1]
        exact ⟨by trivial, by trivial, by trivial, by trivial, Nat.zero_le _, fun j hj => absurd hj (Nat.not_lt_zero _)⟩
      · rintro i ⟨fr, df, hh, rd⟩ K hK hX ⟨rfl, rfl, f1, f5, hi, hok⟩
        simp only at f1 f5
        simp -implicitDefEqProofs (disch := first | omega | (simp only [go_sem, List.size_toArray, List.length_cons, List.length_nil, Nat.reduceAdd]; done)) only [go_sem, Int.reduceLT, Int.reduceLE, Int.reduceEq, reduceIte, f1, f5, C2, er, Nat.zero_add]
        refine XIf_dec (fun hc1 => ?_) (fun hc1 => ?_)
        · have hj : i < rows.length := by omega
          obtain ⟨id1, o1, g1, _, hat1⟩ := hr1.idx (P := Try.prog) (t := 24) el_24 (k := .i64) (i := i) (x := rows[i]) (by simp)
          obtain ⟨v1, l1, s1, k1⟩ := row_at hat1
          have m1 := row_ses hat1
          have hw := wrap_succ hj (by omega)
          have bad : ¬ OkRow n rows i → mayB ⟨n, cells, rows⟩ = false := fun hno => may_false (fun hh => hno (hh.2.2.2 i hj))
          simp -implicitDefEqProofs (disch := first | omega | (simp only [go_sem, List.size_toArray, List.length_cons, List.length_nil, Nat.reduceAdd]; done)) only [go_sem, Int.reduceLT, Int.reduceLE, Int.reduceEq, reduceIte]
          refine dr_37_1 ?_
          simp -implicitDefEqProofs (disch := first | omega | (simp only [go_sem, List.size_toArray, List.length_cons, List.length_nil, Nat.reduceAdd]; done)) only [go_sem, Int.reduceLT, Int.reduceLE, Int.reduceEq, reduceIte, l37_1, f1, f5, C0, C2, g1, l1, Nat.zero_add]
          refine dcall (mayRow_c s1) ?_
          by_cases q1 : mayRowB n rows[i] = true
          case neg =>
            rw [show mayRowB n rows[i] = false by simpa using q1]
            simp -implicitDefEqProofs (disch := first | omega | (simp only [go_sem, List.size_toArray, List.length_cons, List.length_nil, Nat.reduceAdd]; done)) only [go_sem, Int.reduceLT, Int.reduceLE, Int.reduceEq, reduceIte, true_and, dPick_t]
            refine hX _ _ (by simp) ?_
            simp -implicitDefEqProofs (disch := first | omega | (simp only [go_sem, List.size_toArray, List.length_cons, List.length_nil, Nat.reduceAdd]; done)) only [go_sem, Int.reduceLT, Int.reduceLE, Int.reduceEq, reduceIte]
            exact ⟨_, rfl, by rw [bad (fun hok => q1 (hok _ (get_of_lt hj)).1)], hE0.trans hE⟩
          rw [q1]
          by_cases q3 : i = 0
          case pos =>
            have q3i : ¬ ((i : Nat) : Int) > 0 := by omega
            simp -implicitDefEqProofs (disch := first | omega | (simp only [go_sem, List.size_toArray, List.length_cons, List.length_nil, Nat.reduceAdd]; done)) only [go_sem, Int.reduceLT, Int.reduceLE, Int.reduceEq, reduceIte, f1, f5, C2, Nat.zero_add, Nat.add_zero, q3i, dPick_t, dPick_f, true_and, hw]
            refine hK (i + 1) _ ?_ (by omega)
            refine ⟨by trivial, by trivial, by simp -implicitDefEqProofs (disch := first | omega | (simp only [go_sem, List.size_toArray, List.length_cons, List.length_nil, Nat.reduceAdd]; done)) only [go_sem, Int.reduceLT, Int.reduceLE, Int.reduceEq, reduceIte, f1], by simp -implicitDefEqProofs (disch := first | omega | (simp only [go_sem, List.size_toArray, List.length_cons, List.length_nil, Nat.reduceAdd]; done)) only [go_sem, Int.reduceLT, Int.reduceLE, Int.reduceEq, reduceIte], by omega, fun j hj2 => ?_⟩
            rcases Nat.lt_or_ge j i with h3 | h3
            · exact hok j h3
            · obtain rfl : j = i := by omega
              intro x hx
              rw [get_of_lt hj] at hx
              cases hx
              exact ⟨q1, fun k y hk => by omega⟩
          have q3i : ((i : Nat) : Int) > 0 := by omega
          obtain ⟨m, hm⟩ : ∃ m, i = m + 1 := ⟨i - 1, by omega⟩
          have hmj : m < rows.length := by omega
          have hw2 : IntKind.i64.wrap (((i : Nat) : Int) - 1) = (m : Int) := by rw [wrap_i64_in (by omega) (by omega)]; omega
          obtain ⟨id2, o2, g2, hid2, hat2⟩ := hr1.idx (P := Try.prog) (t := 24) el_24 (k := .i64) (i := m) (x := rows[m]) (by simp)
          have m2 := row_ses hat2
          by_cases q4 : rows[m].ses < rows[i].ses
          case neg =>
            have q4' : rows[m].ses ≥ rows[i].ses := by omega
            simp -implicitDefEqProofs (disch := first | omega | (simp only [go_sem, List.size_toArray, List.length_cons, List.length_nil, Nat.reduceAdd]; done)) only [go_sem, Int.reduceLT, Int.reduceLE, Int.reduceEq, reduceIte, f1, f5, C2, Nat.zero_add, Nat.add_zero, q3i, q4', hw2, g1, g2, m1, m2, dPick_t, dPick_f, true_and]
            refine hX _ _ (by simp) ?_
            simp -implicitDefEqProofs (disch := first | omega | (simp only [go_sem, List.size_toArray, List.length_cons, List.length_nil, Nat.reduceAdd]; done)) only [go_sem, Int.reduceLT, Int.reduceLE, Int.reduceEq, reduceIte]
            exact ⟨_, rfl, by rw [bad (fun hok => q4 (of_decide_eq_true ((hok _ (get_of_lt hj)).2 m _ hm (get_of_lt hmj))))], hE0.trans hE⟩
          have q4' : ¬ rows[m].ses ≥ rows[i].ses := by omega
          simp -implicitDefEqProofs (disch := first | omega | (simp only [go_sem, List.size_toArray, List.length_cons, List.length_nil, Nat.reduceAdd]; done)) only [go_sem, Int.reduceLT, Int.reduceLE, Int.reduceEq, reduceIte, f1, f5, C2, Nat.zero_add, Nat.add_zero, q3i, q4', hw2, hw, g1, g2, m1, m2, dPick_t, dPick_f, true_and]
          refine hK (i + 1) _ ?_ (by omega)
          refine ⟨by trivial, by trivial, by simp -implicitDefEqProofs (disch := first | omega | (simp only [go_sem, List.size_toArray, List.length_cons, List.length_nil, Nat.reduceAdd]; done)) only [go_sem, Int.reduceLT, Int.reduceLE, Int.reduceEq, reduceIte, f1], by simp -implicitDefEqProofs (disch := first | omega | (simp only [go_sem, List.size_toArray, List.length_cons, List.length_nil, Nat.reduceAdd]; done)) only [go_sem, Int.reduceLT, Int.reduceLE, Int.reduceEq, reduceIte], by omega, fun j hj2 => ?_⟩
          rcases Nat.lt_or_ge j i with h3 | h3
          · exact hok j h3
          · obtain rfl : j = i := by omega
            intro x hx
            rw [get_of_lt hj] at hx
            cases hx
            refine ⟨q1, fun k y hk hy => ?_⟩
            obtain rfl : k = m := by omega
            rw [get_of_lt hmj] at hy
            cases hy
            exact decide_eq_true q4
        · refine hX _ _ (by simp) ?_
          simp -implicitDefEqProofs (disch := first | omega | (simp only [go_sem, List.size_toArray, List.length_cons, List.length_nil, Nat.reduceAdd]; done)) only [go_sem, Int.reduceLT, Int.reduceLE, Int.reduceEq, reduceIte]
          exact ⟨_, rfl, by rw [may_iff.2 ⟨h1, h2, hcells, fun j hj => hok j (by have hj' : j < rows.length := hj; omega)⟩], hE0.trans hE⟩
end Go.Proofs.Ytlhgijpdhniddaa

namespace Go.Proofs.Ytlhgijpdhniddaa
open Go.D
set_option maxRecDepth 100000

theorem fld_key : fldsOf Try.prog 48 = some [(21, 0), (2, 1)] := by kernel_rfl
theorem fld_cell : fldsOf Try.prog 50 = some [(48, 0), (2, 2), (2, 3)] := by kernel_rfl
theorem und_i32 : Try.prog.underlying 21 = some (.int .i32) := by kernel_rfl
theorem und_i64 : Try.prog.underlying 2 = some (.int .i64) := by kernel_rfl
theorem grd_cell : Try.prog.eqGuardType Try.prog.depth 50 = false := by kernel_rfl
theorem Key.ext_iff' {a b : Key} : a = b ↔ a.t = b.t ∧ a.r = b.r := by cases a; cases b; simp
theorem Cell.ext_iff' {a b : Cell} : a = b ↔ a.k = b.k ∧ a.v = b.v ∧ a.s = b.s := by cases a; cases b; simp
theorem key_eq (d : Nat) (a b : Key) : quick Try.prog (Op.equalIn (d + 1 + 1) 48 (keyV a) (keyV b)) = some (.inr (decide (a = b))) := by
  refine quick_struct fld_key ⟨_, _, _, _, quick_part_one one_21 rfl, quick_part_one one_21 rfl, quick_int und_i32, ⟨_, _, _, _, quick_part_one one_2 rfl, quick_part_one one_2 rfl, quick_int und_i64, rfl, rfl⟩, ?_⟩
  rw [decide_eq_decide.2 Key.ext_iff', Bool.decide_and, Bool.and_true]
  rfl
theorem cell_eq (d : Nat) (a b : Cell) : quick Try.prog (Op.equalIn (d + 1 + 1 + 1) 50 (cellV a) (cellV b)) = some (.inr (decide (a = b))) := by
  refine quick_struct fld_cell ⟨keyV a.k, keyV b.k, _, _, (quick_part_agg agg_48).trans rfl, (quick_part_agg agg_48).trans rfl, key_eq d a.k b.k, ⟨_, _, _, _, quick_part_one one_2 rfl, quick_part_one one_2 rfl, quick_int und_i64,
    ⟨_, _, _, _, quick_part_one one_2 rfl, quick_part_one one_2 rfl, quick_int und_i64, rfl, rfl⟩, rfl⟩, ?_⟩
  rw [decide_eq_decide.2 Cell.ext_iff', Bool.decide_and, Bool.decide_and, Bool.and_true]
  rfl
theorem bin_cell {a b : Cell} {h : DHeap} {ox oy : Operand} : dBinOp Try.prog .neq 50 ox oy (cellV a) (cellV b) h = .ok (.value (.bool (!decide (a = b)))) h := (bin_agg rfl rfl grd_cell (cell_eq 9997 a b)).2
/-- two lists, one by one -/
def sameL {α : Type} (eq : α → α → Bool) : List α → List α → Bool
  | [], [] => true
  | a :: l, b :: m => eq a b && sameL eq l m
  | _, _ => false
theorem sameL_len {α : Type} {eq : α → α → Bool} : ∀ {l m : List α}, l.length ≠ m.length → sameL eq l m = false
  | [], [], h => by simp at h
  | [], _ :: _, _ => rfl
  | _ :: _, [], _ => rfl
  | a :: l, b :: m, h => by
    simp only [sameL]
    rw [sameL_len (l := l) (m := m) (by simpa using h), Bool.and_false]
theorem sameL_drop {α : Type} {eq : α → α → Bool} {l m : List α} {i : Nat} (hl : i < l.length) (hm : i < m.length) : sameL eq (l.drop i) (m.drop i) = (eq l[i] m[i] && sameL eq (l.drop (i + 1)) (m.drop (i + 1))) := by
  rw [List.drop_eq_getElem_cons hl, List.drop_eq_getElem_cons hm, sameL]
theorem sameL_end {α : Type} {eq : α → α → Bool} {l m : List α} (h : l.length = m.length) : sameL eq (l.drop l.length) (m.drop l.length) = true := by
  rw [List.drop_length, h, List.drop_length]; rfl
end Go.Proofs.Ytlhgijpdhniddaa

namespace Go.Proofs.Ytlhgijpdhniddaa
open Go.D
set_option maxRecDepth 100000

abbrev resV (x : Res) (v : Value) : Value := .agg #[.int .i64 x.e, v, .int .i64 x.s, .int .i64 x.p]
def sameRes (x y : Res) : Bool := decide (x.e = y.e) && (decide (x.s = y.s) && (decide (x.p = y.p) && sameL (fun a b : Int => decide (a = b)) x.vs y.vs))
def sameRow (a b : Row) : Bool := decide (a.ses = b.ses) && (decide (a.req = b.req) && sameRes a.x b.x)
end Go.Proofs.Ytlhgijpdhniddaa

namespace Go.Proofs.Ytlhgijpdhniddaa
open Go.D
set_option maxRecDepth 100000

def sameState (a b : State) : Bool := decide (a.slot = b.slot) && (decide (a.rows.length = b.rows.length) && (sameL (fun a b : Cell => decide (a = b)) a.cells b.cells && sameL sameRow a.rows b.rows))
end Go.Proofs.Ytlhgijpdhniddaa

namespace Go.Proofs.Ytlhgijpdhniddaa
open Go.D
set_option maxRecDepth 100000

theorem takeI_size (l : List Int) : (takeI l).2.1 = ((takeI l).2.1.toNat : Int) ∧ (takeI l).2.1.toNat ≤ l.length := by
  cases l with
  | nil => exact ⟨rfl, Nat.le_refl _⟩
  | cons c r =>
    simp only [takeI]
    split
    · exact ⟨rfl, Nat.zero_le _⟩
    split
    · exact ⟨rfl, Nat.zero_le _⟩
    split
    · exact ⟨rfl, Nat.zero_le _⟩
    split
    · exact ⟨rfl, Nat.zero_le _⟩
    · simp only [List.length_cons]; omega
/-- the next number: what it is, where the rest begins, what is wrong -/
def numA (l : List Int) (a : Nat) (e : Int) : Int × Nat × Int :=
  if e = 0 then (if (takeI (l.drop a)).2.2 = 0 then ((takeI (l.drop a)).1, a + (takeI (l.drop a)).2.1.toNat, 0) else (0, a, (takeI (l.drop a)).2.2)) else (0, a, e)
abbrev refRow (b : Value) (a : Nat) (e : Int) (odd : Bool) : DObj := .row [b, .int .i64 (a : Int), .int .i64 e, .bool odd] 0 false
end Go.Proofs.Ytlhgijpdhniddaa

namespace Go.Proofs.Ytlhgijpdhniddaa
open Go.D
set_option maxRecDepth 100000

/-- a length -/
def lenA (l : List Int) (a : Nat) (e most : Int) : Int × Nat × Int :=
  if (numA l a e).2.2 = 0 then (if (numA l a e).1 < 0 ∨ most < (numA l a e).1 then (0, (numA l a e).2.1, 220) else numA l a e) else (0, (numA l a e).2.1, (numA l a e).2.2)
theorem lenA_in {l : List Int} {a : Nat} {e most : Int} (hm : 0 ≤ most) : 0 ≤ (lenA l a e most).1 ∧ (lenA l a e most).1 ≤ most := by
  unfold lenA
  split
  · split
    · exact ⟨Int.le_refl _, hm⟩
    · omega
  · exact ⟨Int.le_refl _, hm⟩
theorem Sl.upto {S : Nat → Prop} {h h1 : DHeap} {b : Value} {l : List Int} (hb : Sl fU8.rep S h b l) (e : ∀ i, S i → h1.get i = h.get i) : Sl fU8.rep S h1 b l := hb.keep e
/-- a cell that is read -/
def cellA (l : List Int) (a : Nat) (e : Int) (odd : Bool) : Cell × Nat × Int × Bool :=
  (⟨⟨IntKind.i32.wrap (numA l a e).1, (numA l (numA l a e).2.1 (numA l a e).2.2).1⟩,
    (numA l (numA l (numA l a e).2.1 (numA l a e).2.2).2.1 (numA l (numA l a e).2.1 (numA l a e).2.2).2.2).1,
    (numA l (numA l (numA l (numA l a e).2.1 (numA l a e).2.2).2.1 (numA l (numA l a e).2.1 (numA l a e).2.2).2.2).2.1 (numA l (numA l (numA l a e).2.1 (numA l a e).2.2).2.1 (numA l (numA l a e).2.1 (numA l a e).2.2).2.2).2.2).1⟩,
   (numA l (numA l (numA l (numA l a e).2.1 (numA l a e).2.2).2.1 (numA l (numA l a e).2.1 (numA l a e).2.2).2.2).2.1 (numA l (numA l (numA l a e).2.1 (numA l a e).2.2).2.1 (numA l (numA l a e).2.1 (numA l a e).2.2).2.2).2.2).2.1,
   (numA l (numA l (numA l (numA l a e).2.1 (numA l a e).2.2).2.1 (numA l (numA l a e).2.1 (numA l a e).2.2).2.2).2.1 (numA l (numA l (numA l a e).2.1 (numA l a e).2.2).2.1 (numA l (numA l a e).2.1 (numA l a e).2.2).2.2).2.2).2.2,
   odd || decide ((numA l a e).1 < -2147483648 ∨ 2147483647 < (numA l a e).1))
theorem cell_form {l : List Int} {a a1 a2 a3 a4 : Nat} {e e1 e2 e3 e4 n1 n2 n3 n4 : Int} {odd : Bool} (h1 : numA l a e = (n1, a1, e1)) (h2 : numA l a1 e1 = (n2, a2, e2)) (h3 : numA l a2 e2 = (n3, a3, e3)) (h4 : numA l a3 e3 = (n4, a4, e4)) :
    cellA l a e odd = (⟨⟨IntKind.i32.wrap n1, n2⟩, n3, n4⟩, a4, e4, odd || decide (n1 < -2147483648 ∨ 2147483647 < n1)) := by
  simp only [cellA, h1, h2, h3, h4]
theorem cellV_vin {S : Nat → Prop} (c : Cell) : VIn S (cellV c) := .agg fun v hv => by
  simp at hv
  rcases hv with rfl | rfl | rfl | rfl <;> exact .int _ _
theorem bd_key {t r : Int} : dBuild Try.prog 48 [(0, .int .i32 t), (1, .int .i64 r)] = some (keyV ⟨t, r⟩) := dBuild_at plc_48 rfl
end Go.Proofs.Ytlhgijpdhniddaa

namespace Go.Proofs.Ytlhgijpdhniddaa
open Go.D
set_option maxRecDepth 100000

theorem eqCells_c {h : DHeap} {a b : Value} {l m : List Cell} (ha : Arg fCell.rep h a l) (hb : Arg fCell.rep h b m) (hlen : l.length ≤ 4294967296) :
    DC Try.prog 49 [a, b] h (.ret (.bool (sameL (fun a b : Cell => decide (a = b)) l m))) h := by
  refine Ct.pure (go_49 (by simp) ?_) (vin_bool _)
  have ea := ha.lens (P := Try.prog) (ts := #[23]) (t := 23) rfl isl_23
  have eb := hb.lens (P := Try.prog) (ts := #[23]) (t := 23) rfl isl_23
  by_cases hl : l.length = m.length
  case neg =>
    have hli : ¬ ((l.length : Nat) : Int) = (m.length : Nat) := by omega
    simp -implicitDefEqProofs (disch := first | omega | (simp -implicitDefEqProofs only [go_sem, List.size_toArray, List.length_cons, List.length_nil, Nat.reduceAdd]; done)) only [go_sem, Int.reduceLT, Int.reduceLE, Int.reduceEq, reduceIte, true_and, Nat.zero_add, Nat.add_zero, Option.map_some, c49, ea, eb, hli]
    exact ⟨_, rfl, by rw [sameL_len hl], .refl h⟩
  have hli : ((l.length : Nat) : Int) = (m.length : Nat) := by omega
  simp -implicitDefEqProofs (disch := first | omega | (simp -implicitDefEqProofs only [go_sem, List.size_toArray, List.length_cons, List.length_nil, Nat.reduceAdd]; done)) only [go_sem, Int.reduceLT, Int.reduceLE, Int.reduceEq, reduceIte, true_and, Nat.zero_add, Nat.add_zero, Option.map_some, c49, ea, eb, hli]
  refine xloop (σ := Nat) (by kernel_rfl) (fun i s => s.df = [] ∧ s.h = h ∧ s.fr 0 = some a ∧ s.fr 1 = some b ∧ s.fr 12 = some (.int .i64 (l.length : Nat)) ∧ s.fr 13 = some (.int .i64 (i : Nat)) ∧ i ≤ l.length ∧ sameL (fun a b : Cell => decide (a = b)) (l.drop i) (m.drop i) = sameL (fun a b : Cell => decide (a = b)) l m) (fun i => l.length - i) 0 ?_ ?_
  · simp -implicitDefEqProofs (disch := first | omega | (simp -implicitDefEqProofs only [go_sem, List.size_toArray, List.length_cons, List.length_nil, Nat.reduceAdd]; done)) only [go_sem, Int.reduceLT, Int.reduceLE, Int.reduceEq, reduceIte, true_and, Nat.zero_add, Nat.add_zero, Option.map_some, hli]
    exact ⟨rfl, Nat.zero_le _, by rw [List.drop_zero, List.drop_zero]⟩
  · rintro i ⟨fr, df, hh, rd⟩ K hK hX ⟨rfl, rfl, f0, f1, f12, f13, hi, ho⟩
    simp only at f0 f1 f12 f13
    simp -implicitDefEqProofs (disch := first | omega | (simp -implicitDefEqProofs only [go_sem, List.size_toArray, List.length_cons, List.length_nil, Nat.reduceAdd]; done)) only [go_sem, Int.reduceLT, Int.reduceLE, Int.reduceEq, reduceIte, true_and, Nat.zero_add, Nat.add_zero, Option.map_some, f0, f1, f12, f13]
    refine XIf_dec (fun hc1 => ?_) (fun hc1 => ?_)
    · have hj : i < l.length := by omega
      have hk : i < m.length := by omega
      obtain ⟨id1, o1, e1, _, hat1⟩ := ha.idx (P := Try.prog) (t := 23) el_23 (k := .i64) (i := i) (x := l[i]) (by simp)
      obtain ⟨id2, o2, e2, _, hat2⟩ := hb.idx (P := Try.prog) (t := 23) el_23 (k := .i64) (i := i) (x := m[i]) (by simp)
      have hw := wrap_succ hj (by omega)
      have l1 : cellsAt hh id1 o1 4 = some (cellV l[i]) := hat1.flat.2.1
      have l2 : cellsAt hh id2 o2 4 = some (cellV m[i]) := hat2.flat.2.1
      rw [sameL_drop hj hk] at ho
      simp -implicitDefEqProofs (disch := first | omega | (simp -implicitDefEqProofs only [go_sem, List.size_toArray, List.length_cons, List.length_nil, Nat.reduceAdd]; done)) only [go_sem, Int.reduceLT, Int.reduceLE, Int.reduceEq, reduceIte, true_and, Nat.zero_add, Nat.add_zero, Option.map_some, f13]
      refine dr_49_0 ?_
      by_cases hlt : l[i] = m[i]
      · rw [decide_eq_true hlt, Bool.true_and] at ho
        simp -implicitDefEqProofs (disch := first | omega | (simp -implicitDefEqProofs only [go_sem, List.size_toArray, List.length_cons, List.length_nil, Nat.reduceAdd]; done)) only [go_sem, Int.reduceLT, Int.reduceLE, Int.reduceEq, reduceIte, true_and, Nat.zero_add, Nat.add_zero, Option.map_some, l49_0, f0, f1, f13, e1, e2, l1, l2, bin_cell, hlt, hw]
        refine hK (i + 1) _ ?_ (by omega)
        exact ⟨by trivial, by trivial, by simp -implicitDefEqProofs (disch := first | omega | (simp -implicitDefEqProofs only [go_sem, List.size_toArray, List.length_cons, List.length_nil, Nat.reduceAdd]; done)) only [go_sem, Int.reduceLT, Int.reduceLE, Int.reduceEq, reduceIte, true_and, Nat.zero_add, Nat.add_zero, Option.map_some, f0], by simp -implicitDefEqProofs (disch := first | omega | (simp -implicitDefEqProofs only [go_sem, List.size_toArray, List.length_cons, List.length_nil, Nat.reduceAdd]; done)) only [go_sem, Int.reduceLT, Int.reduceLE, Int.reduceEq, reduceIte, true_and, Nat.zero_add, Nat.add_zero, Option.map_some, f1], by simp -implicitDefEqProofs (disch := first | omega | (simp -implicitDefEqProofs only [go_sem, List.size_toArray, List.length_cons, List.length_nil, Nat.reduceAdd]; done)) only [go_sem, Int.reduceLT, Int.reduceLE, Int.reduceEq, reduceIte, true_and, Nat.zero_add, Nat.add_zero, Option.map_some, f12], by simp -implicitDefEqProofs (disch := first | omega | (simp -implicitDefEqProofs only [go_sem, List.size_toArray, List.length_cons, List.length_nil, Nat.reduceAdd]; done)) only [go_sem, Int.reduceLT, Int.reduceLE, Int.reduceEq, reduceIte, true_and, Nat.zero_add, Nat.add_zero, Option.map_some], by omega, ho⟩
      · rw [decide_eq_false hlt, Bool.false_and] at ho
        simp -implicitDefEqProofs (disch := first | omega | (simp -implicitDefEqProofs only [go_sem, List.size_toArray, List.length_cons, List.length_nil, Nat.reduceAdd]; done)) only [go_sem, Int.reduceLT, Int.reduceLE, Int.reduceEq, reduceIte, true_and, Nat.zero_add, Nat.add_zero, Option.map_some, l49_0, f0, f1, f13, e1, e2, l1, l2, bin_cell, hlt]
        refine hX _ _ (by simp) ?_
        simp -implicitDefEqProofs (disch := first | omega | (simp -implicitDefEqProofs only [go_sem, List.size_toArray, List.length_cons, List.length_nil, Nat.reduceAdd]; done)) only [go_sem, Int.reduceLT, Int.reduceLE, Int.reduceEq, reduceIte, true_and, Nat.zero_add, Nat.add_zero, Option.map_some]
        exact ⟨_, rfl, by rw [← ho], .refl hh⟩
    · obtain rfl : i = l.length := by omega
      refine hX _ _ (by simp) ?_
      simp -implicitDefEqProofs (disch := first | omega | (simp -implicitDefEqProofs only [go_sem, List.size_toArray, List.length_cons, List.length_nil, Nat.reduceAdd]; done)) only [go_sem, Int.reduceLT, Int.reduceLE, Int.reduceEq, reduceIte, true_and, Nat.zero_add, Nat.add_zero, Option.map_some]
      exact ⟨_, rfl, by rw [← ho, sameL_end hl], .refl hh⟩
end Go.Proofs.Ytlhgijpdhniddaa

namespace Go.Proofs.Ytlhgijpdhniddaa
open Go.D
set_option maxRecDepth 100000

def xorU (a b : Int) : Int := IntKind.u64.wrap (((BitVec.ofInt IntKind.u64.bits a ^^^ BitVec.ofInt IntKind.u64.bits b).toNat : Nat) : Int)
def shlU (a b : Int) : Int := IntKind.u64.wrap (a * 2 ^ (min b.toNat IntKind.u64.bits))
def shrU (a b : Int) : Int := a.fdiv (2 ^ (min b.toNat IntKind.u64.bits))
def mixI (x : Int) : Int := xorU (xorU (xorU x (shlU x 13)) (shrU (xorU x (shlU x 13)) 7)) (shlU (xorU (xorU x (shlU x 13)) (shrU (xorU x (shlU x 13)) 7)) 17)
def hashI (k : Key) : Int :=
  mixI (IntKind.u64.wrap (IntKind.u64.wrap (mixI (IntKind.u64.wrap (mixI (IntKind.u64.wrap (IntKind.u64.wrap k.r + 11400714819323198485)) + IntKind.u64.wrap (IntKind.u32.wrap k.t))) + shrU (IntKind.u64.wrap k.r) 32) + shlU (IntKind.u64.wrap (IntKind.u32.wrap k.t)) 32))
theorem mix_c {h : DHeap} {x : Int} : DC Try.prog 69 [.int .u64 x] h (.ret (.int .u64 (mixI x))) h := by
  refine Ct.pure (go_69 (by simp) ?_) (vin_int _ _)
  simp -implicitDefEqProofs (disch := first | omega | (simp -implicitDefEqProofs only [go_sem, List.size_toArray, List.length_cons, List.length_nil, Nat.reduceAdd]; done)) only [go_sem, Int.reduceLT, Int.reduceLE, Int.reduceEq, reduceIte, true_and, Nat.zero_add, Nat.add_zero, Option.map_some, c69, bin_shl, bin_shr, Int.reduceLT]
  exact ⟨_, rfl, rfl, .refl h⟩
theorem refMix_c {h : DHeap} {x : Int} : DC Try.prog 75 [.int .u64 x] h (.ret (.int .u64 (mixI x))) h := by
  refine Ct.pure (go_75 (by simp) ?_) (vin_int _ _)
  simp -implicitDefEqProofs (disch := first | omega | (simp -implicitDefEqProofs only [go_sem, List.size_toArray, List.length_cons, List.length_nil, Nat.reduceAdd]; done)) only [go_sem, Int.reduceLT, Int.reduceLE, Int.reduceEq, reduceIte, true_and, Nat.zero_add, Nat.add_zero, Option.map_some, c75, bin_shl, bin_shr]
  exact ⟨_, rfl, rfl, .refl h⟩
theorem hash_c {h : DHeap} {k : Key} : DC Try.prog 42 [keyV k] h (.ret (.int .u64 (hashI k))) h := by
  refine Ct.pure (go_42 (by simp) ?_) (vin_int _ _)
  simp -implicitDefEqProofs (disch := first | omega | (simp -implicitDefEqProofs only [go_sem, List.size_toArray, List.length_cons, List.length_nil, Nat.reduceAdd]; done)) only [go_sem, Int.reduceLT, Int.reduceLE, Int.reduceEq, reduceIte, true_and, Nat.zero_add, Nat.add_zero, Option.map_some, c42, bin_shl, bin_shr, cellAt_p0]
  refine dr_42_0 ?_
  simp -implicitDefEqProofs (disch := first | omega | (simp -implicitDefEqProofs only [go_sem, List.size_toArray, List.length_cons, List.length_nil, Nat.reduceAdd]; done)) only [go_sem, Int.reduceLT, Int.reduceLE, Int.reduceEq, reduceIte, true_and, Nat.zero_add, Nat.add_zero, Option.map_some, l42_0, cellAt_p0, bin_shl, bin_shr]
  refine ncall mix_c ?_
  simp -implicitDefEqProofs (disch := first | omega | (simp -implicitDefEqProofs only [go_sem, List.size_toArray, List.length_cons, List.length_nil, Nat.reduceAdd]; done)) only [go_sem, Int.reduceLT, Int.reduceLE, Int.reduceEq, reduceIte, true_and, Nat.zero_add, Nat.add_zero, Option.map_some, bin_shl, bin_shr]
  refine ncall mix_c ?_
  simp -implicitDefEqProofs (disch := first | omega | (simp -implicitDefEqProofs only [go_sem, List.size_toArray, List.length_cons, List.length_nil, Nat.reduceAdd]; done)) only [go_sem, Int.reduceLT, Int.reduceLE, Int.reduceEq, reduceIte, true_and, Nat.zero_add, Nat.add_zero, Option.map_some, bin_shl, bin_shr]
  refine ncall mix_c ?_
  simp -implicitDefEqProofs (disch := first | omega | (simp -implicitDefEqProofs only [go_sem, List.size_toArray, List.length_cons, List.length_nil, Nat.reduceAdd]; done)) only [go_sem, Int.reduceLT, Int.reduceLE, Int.reduceEq, reduceIte, true_and, Nat.zero_add, Nat.add_zero, Option.map_some]
  exact ⟨_, rfl, rfl, Ext.push1 _ _⟩
theorem refHash_c {h : DHeap} {k : Key} : DC Try.prog 59 [keyV k] h (.ret (.int .u64 (hashI k))) h := by
  refine Ct.pure (go_59 (by simp) ?_) (vin_int _ _)
  simp -implicitDefEqProofs (disch := first | omega | (simp -implicitDefEqProofs only [go_sem, List.size_toArray, List.length_cons, List.length_nil, Nat.reduceAdd]; done)) only [go_sem, Int.reduceLT, Int.reduceLE, Int.reduceEq, reduceIte, true_and, Nat.zero_add, Nat.add_zero, Option.map_some, c59, bin_shl, bin_shr, cellAt_p0]
  refine dr_59_0 ?_
  simp -implicitDefEqProofs (disch := first | omega | (simp -implicitDefEqProofs only [go_sem, List.size_toArray, List.length_cons, List.length_nil, Nat.reduceAdd]; done)) only [go_sem, Int.reduceLT, Int.reduceLE, Int.reduceEq, reduceIte, true_and, Nat.zero_add, Nat.add_zero, Option.map_some, l59_0, cellAt_p0, bin_shl, bin_shr]
  refine ncall refMix_c ?_
  simp -implicitDefEqProofs (disch := first | omega | (simp -implicitDefEqProofs only [go_sem, List.size_toArray, List.length_cons, List.length_nil, Nat.reduceAdd]; done)) only [go_sem, Int.reduceLT, Int.reduceLE, Int.reduceEq, reduceIte, true_and, Nat.zero_add, Nat.add_zero, Option.map_some, bin_shl, bin_shr]
  refine ncall refMix_c ?_
  simp -implicitDefEqProofs (disch := first | omega | (simp -implicitDefEqProofs only [go_sem, List.size_toArray, List.length_cons, List.length_nil, Nat.reduceAdd]; done)) only [go_sem, Int.reduceLT, Int.reduceLE, Int.reduceEq, reduceIte, true_and, Nat.zero_add, Nat.add_zero, Option.map_some, bin_shl, bin_shr]
  refine ncall refMix_c ?_
  simp -implicitDefEqProofs (disch := first | omega | (simp -implicitDefEqProofs only [go_sem, List.size_toArray, List.length_cons, List.length_nil, Nat.reduceAdd]; done)) only [go_sem, Int.reduceLT, Int.reduceLE, Int.reduceEq, reduceIte, true_and, Nat.zero_add, Nat.add_zero, Option.map_some]
  exact ⟨_, rfl, rfl, Ext.push1 _ _⟩
end Go.Proofs.Ytlhgijpdhniddaa

namespace Go.Proofs.Ytlhgijpdhniddaa
open Go.D
set_option maxRecDepth 100000

/-- the next numbers -/
def valsA (l : List Int) : Nat → Nat → Int → List Int × Nat × Int
  | 0, a, e => ([], a, e)
  | k + 1, a, e => ((numA l a e).1 :: (valsA l k (numA l a e).2.1 (numA l a e).2.2).1, (valsA l k (numA l a e).2.1 (numA l a e).2.2).2)
theorem valsA_succ (l : List Int) : ∀ (k a : Nat) (e : Int), valsA l (k + 1) a e = ((valsA l k a e).1 ++ [(numA l (valsA l k a e).2.1 (valsA l k a e).2.2).1], (numA l (valsA l k a e).2.1 (valsA l k a e).2.2).2)
  | 0, a, e => rfl
  | k + 1, a, e => by
    rw [valsA, valsA_succ l k]
    rfl
theorem numA_in {l : List Int} (hb : ∀ x ∈ l, 0 ≤ x ∧ x ≤ 255) (a : Nat) (e : Int) : inK .i64 (numA l a e).1 := by
  have h0 : inK .i64 0 := inK_i64.2 (by decide)
  unfold numA
  split
  · split
    · exact takeI_in fun x hx => hb x (List.mem_of_mem_drop hx)
    · exact h0
  · exact h0
/-- one number more behind a list of one's own -/
theorem own_snoc {K : DHeap} {v : Value} {vs : List Int} {w : Option Nat} {n : Int} (ho : Owns fI64.rep NoS K v vs w) (hn : inK .i64 n) (hlen : vs.length + 1 ≤ 4294967296) :
    ∃ v' h2 w', dAppend Try.prog #[51, 51] v (.slice (some ⟨K.next, 0, none⟩) 1 1) (K.push (.row [.int .i64 n] 1 false)) = some (v', h2) ∧ K.next ≤ h2.next ∧ h2.ng = K.ng ∧ (∀ i, i < K.next → w ≠ some i → h2.get i = K.get i) ∧
      Owns fI64.rep NoS h2 v' (vs ++ [n]) w' ∧ (∀ i, w' = some i → w = some i ∨ K.next ≤ i) := by
  have hw := ho.lt
  have ho2 : Owns fI64.rep NoS (K.push (.row [.int .i64 n] 1 false)) v vs w := ho.mono (Nat.le_succ _) (fun i hi => get_push_other _ _ (hw i hi)) (fun i hi => hi.elim)
  have hs : Arg fI64.rep (K.push (.row [.int .i64 n] 1 false)) (.slice (some ⟨K.next, 0, none⟩) 1 1) [n] := built fI64 K rfl rfl rfl (fun x hx => by rw [List.mem_singleton.1 hx]; exact hn)
  obtain ⟨new, e1, e2⟩ := hs.src
  have e2' : Els fI64.rep NoS (K.push (.row [.int .i64 n] 1 false)) new [n] := Els.flat.2 (Els.flat.1 e2)
  obtain ⟨v', h2, w', e3, g, o, hw'⟩ := ho2.append (k := [n]) app_51 (fun i hi => hi.elim) hs.lenV e1 e2' (by simp only [List.length_singleton]; omega) (by simp only [List.length_singleton]; omega)
  refine ⟨v', h2, w', e3, Nat.le_trans (Nat.le_succ _) g.next, g.ng, fun i hi hwi => (g.get i (Nat.lt_succ_of_lt hi) hwi).trans (get_push_other _ _ hi), o, fun i hi => ?_⟩
  rcases hw' with ⟨_, h0, _⟩ | ⟨h0, _⟩
  · exact .inl (h0 ▸ hi)
  · rw [h0] at hi; cases hi; exact .inr (Nat.le_succ _)
end Go.Proofs.Ytlhgijpdhniddaa

namespace Go.Proofs.Ytlhgijpdhniddaa
open Go.D
set_option maxRecDepth 100000

abbrev zeroRow : List Value := [.int .i64 0, .int .i64 0, .int .i64 0, .slice none 0 0, .int .i64 0, .int .i64 0]
/-- how things lie while a row is read -/
structure RowSt (h : DHeap) (R : Nat) (b : Value) (a : Nat) (e : Int) (odd : Bool) (cells : List Value) (hh : DHeap) : Prop where
  rR : hh.get R = some (refRow b a e odd)
  bB : hh.get h.next = some (.row zeroRow 0 false)
  cC : hh.get (h.next + 1) = some (.row cells 0 false)
  old : ∀ j, j < h.next → j ≠ R → hh.get j = h.get j
  nx : h.next + 2 ≤ hh.next
  ng : hh.ng = h.ng
theorem RowSt.num {h hh : DHeap} {R a a' : Nat} {b : Value} {e e' : Int} {odd : Bool} {cells : List Value} (s : RowSt h R b a e odd cells hh) (hn : R < h.next) : RowSt h R b a' e' odd cells (hh.set R (refRow b a' e' odd)) :=
  ⟨get_set_same _ _, (get_set_other _ _ (by omega)).trans s.bB, (get_set_other _ _ (by omega)).trans s.cC, fun j hj hji => (get_set_other _ _ hji).trans (s.old j hj hji), s.nx, s.ng⟩
theorem RowSt.fld {h hh : DHeap} {R a : Nat} {b : Value} {e : Int} {odd : Bool} {cells cells' : List Value} (s : RowSt h R b a e odd cells hh) (hn : R < h.next) : RowSt h R b a e odd cells' (hh.set (h.next + 1) (.row cells' 0 false)) :=
  ⟨(get_set_other _ _ (by omega)).trans s.rR, (get_set_other _ _ (by omega)).trans s.bB, get_set_same _ _, fun j hj hji => (get_set_other _ _ (by omega)).trans (s.old j hj hji), s.nx, s.ng⟩
theorem RowSt.grow {h hh h2 : DHeap} {R a : Nat} {b : Value} {e : Int} {odd : Bool} {cells : List Value} {w : Option Nat} (s : RowSt h R b a e odd cells hh) (hn : R < h.next) (hw : ∀ x, w = some x → h.next + 2 ≤ x) (h1 : hh.next ≤ h2.next) (hg : h2.ng = hh.ng) (hk : ∀ i, i < hh.next → w ≠ some i → h2.get i = hh.get i) : RowSt h R b a e odd cells h2 := by
  have nx := s.nx
  have hk' : ∀ i, i < h.next + 2 → h2.get i = hh.get i := fun i hi => hk i (by omega) (fun hx => by have := hw i hx; omega)
  exact ⟨(hk' _ (by omega)).trans s.rR, (hk' _ (by omega)).trans s.bB, (hk' _ (by omega)).trans s.cC, fun j hj hji => (hk' _ (by omega)).trans (s.old j hj hji), by omega, hg.trans s.ng⟩
section
variable {h hh : DHeap} {R a a1 : Nat} {b : Value} {e n1 e1 : Int} {odd : Bool} {cells : List Value} {l : List Int}
end
theorem rowV_ren {r : Row} {π : Nat → Option Nat} {v u : Value} (h : VRen π v u) : VRen π (rowV r v) (rowV r u) := by
  refine .agg rfl fun i x y hx hy => ?_
  rcases i with _ | _ | _ | _ | _ | _ | i <;> simp at hx hy
  · subst hx; subst hy; exact .int _ _
  · subst hx; subst hy; exact .int _ _
  · subst hx; subst hy; exact .int _ _
  · subst hx; subst hy; exact h
  · subst hx; subst hy; exact .int _ _
  · subst hx; subst hy; exact .int _ _
end Go.Proofs.Ytlhgijpdhniddaa

namespace Go.Proofs.Ytlhgijpdhniddaa
open Go.D
set_option maxRecDepth 100000

abbrev rdRow (b : Value) (e : Int) (odd : Bool) : DObj := .row [b, .int .i64 e, .bool odd] 0 false
theorem rdRow_vin {h : DHeap} {b : Value} {e : Int} {odd : Bool} (hb : VIn (fun i => i < h.next) b) : ∀ v ∈ [b, .int .i64 e, .bool odd], VIn (fun i => i < h.next) v := by
  intro v hv
  simp at hv
  rcases hv with rfl | rfl | rfl
  · exact hb
  · exact .int _ _
  · exact .bool _
/-- the bytes behind the next number -/
def nextV (b : Value) (l : List Int) (e : Int) : Value := if e = 0 then cutV 1 b (if (takeI l).2.2 = 0 then (takeI l).2.1.toNat else 0) else b
def nextL (l : List Int) (e : Int) : List Int := if e = 0 then l.drop (if (takeI l).2.2 = 0 then (takeI l).2.1.toNat else 0) else l
def nextN (l : List Int) (e : Int) : Int := if e = 0 then (if (takeI l).2.2 = 0 then (takeI l).1 else 0) else 0
def nextE (l : List Int) (e : Int) : Int := if e = 0 then (takeI l).2.2 else e
theorem next_sl {S : Nat → Prop} {h : DHeap} {b : Value} {l : List Int} {e : Int} (hb : Sl fU8.rep S h b l) : Sl fU8.rep S h (nextV b l e) (nextL l e) := by
  unfold nextV nextL
  split
  · have hk : (if (takeI l).2.2 = 0 then (takeI l).2.1.toNat else 0) ≤ l.length := by
      split
      · exact (takeI_size l).2
      · exact Nat.zero_le _
    exact (hb.cut (P := Try.prog) (t := 22) (kd := .i64) el_22 (by decide) hk).2
  · exact hb
/-- both readers read the same -/
theorem next_numA (l : List Int) (a : Nat) (e : Int) : nextN (l.drop a) e = (numA l a e).1 ∧ nextE (l.drop a) e = (numA l a e).2.2 ∧ nextL (l.drop a) e = l.drop (numA l a e).2.1 := by
  unfold nextN nextE nextL numA
  split
  · split
    · rename_i h1 h2
      exact ⟨rfl, h2, by rw [List.drop_drop]⟩
    · exact ⟨rfl, rfl, by simp⟩
  · exact ⟨rfl, rfl, rfl⟩
theorem int_c {h : DHeap} {R : Nat} {b : Value} {e : Int} {odd : Bool} {l : List Int} (hb : Sl fU8.rep (fun i => i < R) h b l) (hR : h.get R = some (rdRow b e odd)) (hn : R < h.next) (hlen : l.length ≤ 4294967296) :
    DC Try.prog 28 [.pointer (some ⟨R, 0, none⟩)] h (.ret (.int .i64 (nextN l e))) (h.set R (rdRow (nextV b l e) (nextE l e) odd)) := by
  have hbv : VIn (fun i => i < h.next) (nextV b l e) := (next_sl hb).vin.mono fun i hi => Nat.lt_trans hi hn
  refine Ct.changed hn (rdRow_vin hbv) (vin_int _ _) (go_28 (by simp) ?_)
  have C0 : cellAt h R 0 = some b := cellAt_row hR
  have C1 : cellAt h R 1 = some (.int .i64 e) := cellAt_row hR
  by_cases h0 : e = 0
  case neg =>
    have q1 : nextN l e = 0 := if_neg h0
    have q2 : nextV b l e = b := if_neg h0
    have q3 : nextE l e = e := if_neg h0
    rw [q1, q2, q3]
    simp -implicitDefEqProofs (disch := first | omega | (simp -implicitDefEqProofs only [go_sem, List.size_toArray, List.length_cons, List.length_nil, Nat.reduceAdd]; done)) only [go_sem, Int.reduceLT, Int.reduceLE, Int.reduceEq, reduceIte, true_and, Nat.zero_add, Nat.add_zero, Option.map_some, c28, C1, h0]
    exact ⟨_, rfl, rfl, .self hR⟩
  subst h0
  have hba : Arg fU8.rep h b l := hb.mono fun i hi => ⟨Nat.lt_trans hi hn, rfl⟩
  have hk : (if (takeI l).2.2 = 0 then (takeI l).2.1.toNat else 0) ≤ l.length := by
    split
    · exact (takeI_size l).2
    · exact Nat.zero_le _
  obtain ⟨k, hkk⟩ : ∃ k, (if (takeI l).2.2 = 0 then (takeI l).2.1.toNat else 0) = k := ⟨_, rfl⟩
  have hcut := (hba.cut (P := Try.prog) (t := 22) (kd := .i64) el_22 (by decide) hk).1
  rw [hkk] at hcut
  have q1 : nextN l 0 = (if (takeI l).2.2 = 0 then (takeI l).1 else 0) := if_pos rfl
  have q2 : nextV b l 0 = cutV 1 b k := by unfold nextV; rw [if_pos rfl, hkk]
  have q3 : nextE l 0 = (takeI l).2.2 := if_pos rfl
  have hk2 : (if (takeI l).2.2 = 0 then (takeI l).2.1 else 0) = ((k : Nat) : Int) := by
    rw [← hkk]
    split
    · exact (takeI_size l).1
    · rfl
  rw [q2] at hbv
  rw [q1, q2, q3]
  have hc := takeNum_c hba hlen
  rw [hk2] at hc
  have hcl : (cutV 1 b k).cells = #[cutV 1 b k] := by
    have := (next_sl (e := 0) hb).cells1
    rw [q2] at this; exact this
  have s1 : dStore Try.prog 22 (.pointer (some ⟨R, 0, none⟩)) (cutV 1 b k) h = some (h.set R (rdRow (cutV 1 b k) 0 odd)) := (st_22 hcl).trans (storeAt_row hR (Nat.le_of_ble_eq_true rfl) (by
    have := (next_sl (e := 0) hb).isSlice
    rw [q2] at this
    obtain ⟨_, _, hx⟩ := this
    rw [hx]; rfl))
  have s2 : storeAt (h.set R (rdRow (cutV 1 b k) 0 odd)) R 1 [.int .i64 (takeI l).2.2] = some (h.set R (rdRow (cutV 1 b k) (takeI l).2.2 odd)) := (storeAt_row (get_set_same _ _) (Nat.le_of_ble_eq_true rfl) rfl).trans (by rw [set_set]; rfl)
  have hcut' : dSlice Try.prog 22 b (some (.int .i64 (k : Int))) none none h = some (cutV 1 b k) := hcut
  simp -implicitDefEqProofs (disch := first | omega | (simp -implicitDefEqProofs only [go_sem, List.size_toArray, List.length_cons, List.length_nil, Nat.reduceAdd]; done)) only [go_sem, Int.reduceLT, Int.reduceLE, Int.reduceEq, reduceIte, true_and, Nat.zero_add, Nat.add_zero, Option.map_some, c28, C0, C1]
  refine ncall hc ?_
  simp -implicitDefEqProofs (disch := first | omega | (simp -implicitDefEqProofs only [go_sem, List.size_toArray, List.length_cons, List.length_nil, Nat.reduceAdd]; done)) only [go_sem, Int.reduceLT, Int.reduceLE, Int.reduceEq, reduceIte, true_and, Nat.zero_add, Nat.add_zero, Option.map_some, C0, hcut', s1, s2]
  exact ⟨_, rfl, rfl, .set _ _ _⟩
end Go.Proofs.Ytlhgijpdhniddaa

namespace Go.Proofs.Ytlhgijpdhniddaa
open Go.D
set_option maxRecDepth 100000

def manyN (l : List Int) (e most : Int) : Int := if nextE l e = 0 then (if nextN l e < 0 ∨ most < nextN l e then 0 else nextN l e) else 0
def manyE (l : List Int) (e most : Int) : Int := if nextE l e = 0 then (if nextN l e < 0 ∨ most < nextN l e then 220 else 0) else nextE l e
theorem many_lenA (l : List Int) (a : Nat) (e most : Int) : manyN (l.drop a) e most = (lenA l a e most).1 ∧ manyE (l.drop a) e most = (lenA l a e most).2.2 ∧ nextL (l.drop a) e = l.drop (lenA l a e most).2.1 := by
  obtain ⟨h1, h2, h3⟩ := next_numA l a e
  unfold manyN manyE lenA
  rw [h1, h2]
  split
  · rename_i h0
    split
    · exact ⟨rfl, rfl, h3⟩
    · exact ⟨rfl, h0.symm, h3⟩
  · exact ⟨rfl, rfl, h3⟩
theorem many_c {h : DHeap} {R : Nat} {b : Value} {e most : Int} {odd : Bool} {l : List Int} (hb : Sl fU8.rep (fun i => i < R) h b l) (hR : h.get R = some (rdRow b e odd)) (hn : R < h.next) (hlen : l.length ≤ 4294967296) :
    DC Try.prog 29 [.pointer (some ⟨R, 0, none⟩), .int .i64 most] h (.ret (.int .i64 (manyN l e most))) (h.set R (rdRow (nextV b l e) (manyE l e most) odd)) := by
  have hbv : VIn (fun i => i < h.next) (nextV b l e) := (next_sl hb).vin.mono fun i hi => Nat.lt_trans hi hn
  refine Ct.changed hn (rdRow_vin hbv) (vin_int _ _) (go_29 (by simp) ?_)
  simp -implicitDefEqProofs (disch := first | omega | (simp -implicitDefEqProofs only [go_sem, List.size_toArray, List.length_cons, List.length_nil, Nat.reduceAdd]; done)) only [go_sem, Int.reduceLT, Int.reduceLE, Int.reduceEq, reduceIte, true_and, Nat.zero_add, Nat.add_zero, Option.map_some, c29]
  refine ncall (int_c hb hR hn hlen) ?_
  obtain ⟨n, hnn⟩ : ∃ n, nextN l e = n := ⟨_, rfl⟩
  obtain ⟨e1, he1⟩ : ∃ n, nextE l e = n := ⟨_, rfl⟩
  obtain ⟨b1, hb1⟩ : ∃ n, nextV b l e = n := ⟨_, rfl⟩
  unfold manyN manyE
  rw [hnn, he1, hb1]
  have C1 : cellAt (h.set R (rdRow b1 e1 odd)) R 1 = some (.int .i64 e1) := cellAt_row (get_set_same _ _)
  by_cases h0 : e1 = 0
  case neg =>
    simp -implicitDefEqProofs (disch := first | omega | (simp -implicitDefEqProofs only [go_sem, List.size_toArray, List.length_cons, List.length_nil, Nat.reduceAdd]; done)) only [go_sem, Int.reduceLT, Int.reduceLE, Int.reduceEq, reduceIte, true_and, Nat.zero_add, Nat.add_zero, Option.map_some, C1, h0, dPick_f]
    exact ⟨_, rfl, rfl, .set _ _ _⟩
  subst h0
  have s1 : storeAt (h.set R (rdRow b1 0 odd)) R 1 [.int .i64 220] = some (h.set R (rdRow b1 220 odd)) := (storeAt_row (get_set_same _ _) (Nat.le_of_ble_eq_true rfl) rfl).trans (by rw [set_set]; rfl)
  have C3 : cellAt (h.set R (rdRow b1 220 odd)) R 1 = some (.int .i64 220) := cellAt_row (get_set_same _ _)
  simp -implicitDefEqProofs (disch := first | omega | (simp -implicitDefEqProofs only [go_sem, List.size_toArray, List.length_cons, List.length_nil, Nat.reduceAdd]; done)) only [go_sem, Int.reduceLT, Int.reduceLE, Int.reduceEq, reduceIte, true_and, Nat.zero_add, Nat.add_zero, Option.map_some, C1]
  refine ncall count_c ?_
  by_cases h1 : n < 0 ∨ most < n
  · rw [show countB n most = false by simp [countB]; omega]
    simp -implicitDefEqProofs (disch := first | omega | (simp -implicitDefEqProofs only [go_sem, List.size_toArray, List.length_cons, List.length_nil, Nat.reduceAdd]; done)) only [go_sem, Int.reduceLT, Int.reduceLE, Int.reduceEq, reduceIte, true_and, Nat.zero_add, Nat.add_zero, Option.map_some, C1, h1, dPick_t, s1, C3]
    exact ⟨_, rfl, rfl, .set _ _ _⟩
  · rw [show countB n most = true by simp [countB]; omega]
    simp -implicitDefEqProofs (disch := first | omega | (simp -implicitDefEqProofs only [go_sem, List.size_toArray, List.length_cons, List.length_nil, Nat.reduceAdd]; done)) only [go_sem, Int.reduceLT, Int.reduceLE, Int.reduceEq, reduceIte, true_and, Nat.zero_add, Nat.add_zero, Option.map_some, C1, h1, dPick_t]
    exact ⟨_, rfl, rfl, .set _ _ _⟩
/-- the k-th next thing -/
theorem int_at {h h0 : DHeap} {R : Nat} {b : Value} {e : Int} {odd : Bool} {l : List Int} (hh : h.get R = some (rdRow b e odd)) (hb : Sl fU8.rep (fun i => i < R) h0 b l) (hk : ∀ i, i < R → h.get i = h0.get i) (hn : R < h.next) (hlen : l.length ≤ 4294967296) :
    DC Try.prog 28 [.pointer (some ⟨R, 0, none⟩)] h (.ret (.int .i64 (nextN l e))) (h.set R (rdRow (nextV b l e) (nextE l e) odd)) := int_c (hb.keep hk) hh hn hlen
theorem nextL_len {l : List Int} {e : Int} {n : Nat} (h : l.length ≤ n) : (nextL l e).length ≤ n := by
  unfold nextL
  split
  · rw [List.length_drop]; omega
  · exact h
end Go.Proofs.Ytlhgijpdhniddaa

namespace Go.Proofs.Ytlhgijpdhniddaa
open Go.D
set_option maxRecDepth 100000

/-- how things lie while something is read -/
structure TwoSt (h : DHeap) (R : Nat) (o : DObj) (zs cells : List Value) (hh : DHeap) : Prop where
  rR : hh.get R = some o
  bB : hh.get h.next = some (.row zs 0 false)
  cC : hh.get (h.next + 1) = some (.row cells 0 false)
  old : ∀ j, j < h.next → j ≠ R → hh.get j = h.get j
  nx : h.next + 2 ≤ hh.next
  ng : hh.ng = h.ng
section
variable {h hh : DHeap} {R : Nat} {o o' : DObj} {zs cells cells' : List Value}
theorem TwoSt.num (s : TwoSt h R o zs cells hh) (hn : R < h.next) : TwoSt h R o' zs cells (hh.set R o') :=
  ⟨get_set_same _ _, (get_set_other _ _ (by omega)).trans s.bB, (get_set_other _ _ (by omega)).trans s.cC, fun j hj hji => (get_set_other _ _ hji).trans (s.old j hj hji), s.nx, s.ng⟩
theorem TwoSt.fld (s : TwoSt h R o zs cells hh) (hn : R < h.next) : TwoSt h R o zs cells' (hh.set (h.next + 1) (.row cells' 0 false)) :=
  ⟨(get_set_other _ _ (by omega)).trans s.rR, (get_set_other _ _ (by omega)).trans s.bB, get_set_same _ _, fun j hj hji => (get_set_other _ _ (by omega)).trans (s.old j hj hji), s.nx, s.ng⟩
theorem TwoSt.low (s : TwoSt h R o zs cells hh) (hn : R < h.next) : ∀ i, i < R → hh.get i = h.get i := fun i hi => s.old i (by omega) (by omega)
theorem TwoSt.int_c {b : Value} {e : Int} {odd : Bool} {l : List Int} (s : TwoSt h R (rdRow b e odd) zs cells hh) (hb : Sl fU8.rep (fun i => i < R) h b l) (hn : R < h.next) (hlen : l.length ≤ 4294967296) :
    DC Try.prog 28 [.pointer (some ⟨R, 0, none⟩)] hh (.ret (.int .i64 (nextN l e))) (hh.set R (rdRow (nextV b l e) (nextE l e) odd)) :=
  int_at s.rR hb (s.low hn) (by have := s.nx; omega) hlen
end
theorem bd_key1 {t : Int} : dBuild Try.prog 48 [(0, .int .i32 t)] = some (.agg #[.int .i32 t, .int .i64 0]) := dBuild_at plc_48 rfl
theorem bd_cell1 {t : Int} : dBuild Try.prog 50 [(0, .agg #[.int .i32 t, .int .i64 0])] = some (.agg #[.int .i32 t, .int .i64 0, .int .i64 0, .int .i64 0]) := dBuild_at plc_50 rfl
theorem wrap32_odd {n : Int} (hn : inK .i64 n) : decide (IntKind.i64.wrap (IntKind.i32.wrap n) = n) = !decide (n < -2147483648 ∨ 2147483647 < n) := by
  have h1 := inK_i64.1 hn
  have h2 := inK_i32.1 (wrap_ok .i32 n)
  rw [wrap_i64_in (by omega) (by omega), ← decide_not]
  refine decide_eq_decide.2 ⟨fun hh => ?_, fun hh => ?_⟩
  · rw [← hh]; omega
  · exact wrap_in (inK_i32.2 ⟨by omega, by omega⟩)
theorem nextN_in {l : List Int} (hb : ∀ x ∈ l, 0 ≤ x ∧ x ≤ 255) (e : Int) : inK .i64 (nextN l e) := by
  have h0 : inK .i64 0 := inK_i64.2 (by decide)
  unfold nextN
  split
  · split
    · exact takeI_in hb
    · exact h0
  · exact h0
set_option maxHeartbeats 2000000 in
theorem stCell_c {h : DHeap} {R : Nat} {b b1 b2 b3 : Value} {e e1 e2 e3 n1 n2 n3 : Int} {odd : Bool} {l l1 l2 l3 : List Int} (hb : Sl fU8.rep (fun i => i < R) h b l) (hR : h.get R = some (rdRow b e odd)) (hn : R < h.next) (hlen : l.length ≤ 4294967296)
    (x1 : nextN l e = n1) (y1 : nextV b l e = b1) (z1 : nextL l e = l1) (w1 : nextE l e = e1) (x2 : nextN l1 e1 = n2) (y2 : nextV b1 l1 e1 = b2) (z2 : nextL l1 e1 = l2) (w2 : nextE l1 e1 = e2)
    (x3 : nextN l2 e2 = n3) (y3 : nextV b2 l2 e2 = b3) (z3 : nextL l2 e2 = l3) (w3 : nextE l2 e2 = e3) :
    DC Try.prog 30 [.pointer (some ⟨R, 0, none⟩)] h (.ret (cellV ⟨⟨IntKind.i32.wrap n1, n2⟩, n3, nextN l3 e3⟩)) (h.set R (rdRow (nextV b3 l3 e3) (nextE l3 e3) (odd || decide (n1 < -2147483648 ∨ 2147483647 < n1)))) := by
  have hb1 : Sl fU8.rep (fun i => i < R) h b1 l1 := by have := next_sl (e := e) hb; rw [y1, z1] at this; exact this
  have hb2 : Sl fU8.rep (fun i => i < R) h b2 l2 := by have := next_sl (e := e1) hb1; rw [y2, z2] at this; exact this
  have hb3 : Sl fU8.rep (fun i => i < R) h b3 l3 := by have := next_sl (e := e2) hb2; rw [y3, z3] at this; exact this
  have g1 : l1.length ≤ 4294967296 := by rw [← z1]; exact nextL_len hlen
  have g2 : l2.length ≤ 4294967296 := by rw [← z2]; exact nextL_len g1
  have g3 : l3.length ≤ 4294967296 := by rw [← z3]; exact nextL_len g2
  have hin : inK .i64 n1 := by rw [← x1]; exact nextN_in (fun x hx => inK_u8.1 (hb.ok x hx)) e
  have hbv : VIn (fun i => i < h.next) (nextV b3 l3 e3) := (next_sl hb3).vin.mono fun i hi => Nat.lt_trans hi hn
  refine Ct.changed hn (rdRow_vin hbv) (cellV_vin _) (go_30 (by simp) ?_)
  obtain ⟨H, hH⟩ : ∃ H, H = h.push (.row [.int .i32 0, .int .i64 0, .int .i64 0, .int .i64 0] 0 false) := ⟨_, rfl⟩
  have hHn : H.next = h.next + 1 := by rw [hH]; rfl
  have hHg : H.ng = h.ng := by rw [hH]; rfl
  have hHB : H.get h.next = some (.row [.int .i32 0, .int .i64 0, .int .i64 0, .int .i64 0] 0 false) := by rw [hH]; exact get_push_same _ _
  have hHo : ∀ i, i < h.next → H.get i = h.get i := fun i hi => by rw [hH]; exact get_push_other _ _ hi
  have c1 := int_at (h := H) ((hHo R hn).trans hR) hb (fun i hi => hHo i (by omega)) (by omega) hlen
  rw [x1, y1, w1] at c1
  obtain ⟨K, hK⟩ : ∃ K, K = (H.set R (rdRow b1 e1 odd)).push (.row [.int .i32 (IntKind.i32.wrap n1), .int .i64 0, .int .i64 0, .int .i64 0] 0 false) := ⟨_, rfl⟩
  have S0 : TwoSt h R (rdRow b1 e1 odd) [.int .i32 0, .int .i64 0, .int .i64 0, .int .i64 0] [.int .i32 (IntKind.i32.wrap n1), .int .i64 0, .int .i64 0, .int .i64 0] K := by
    rw [hK]
    refine ⟨?_, ?_, ?_, fun j hj hji => ?_, ?_, ?_⟩
    · rw [get_push_other _ _ (by rw [next_set]; omega), get_set_same]
    · rw [get_push_other _ _ (by rw [next_set]; omega), get_set_other _ _ (by omega), hHB]
    · rw [get_push_at _ _ (by rw [next_set, hHn])]
    · rw [get_push_other _ _ (by rw [next_set]; omega), get_set_other _ _ hji, hHo j hj]
    · rw [next_push, next_set, hHn]; omega
    · rw [ng_push, ng_set, hHg]
  obtain ⟨odd', ho⟩ : ∃ o, (odd || decide (n1 < -2147483648 ∨ 2147483647 < n1)) = o := ⟨_, rfl⟩
  rw [ho]
  have hst4 : [Value.int .i32 (IntKind.i32.wrap n1), .int .i64 0, .int .i64 0, .int .i64 0].all Value.oneCell' = true := rfl
  simp -implicitDefEqProofs (disch := first | omega | (simp -implicitDefEqProofs only [go_sem, List.size_toArray, List.length_cons, List.length_nil, Nat.reduceAdd]; done)) only [go_sem, Int.reduceLT, Int.reduceLE, Int.reduceEq, reduceIte, true_and, Nat.zero_add, Nat.add_zero, Option.map_some, c30]
  rw [← hH]
  refine ncall c1 ?_
  simp -implicitDefEqProofs (disch := first | omega | (simp -implicitDefEqProofs only [go_sem, List.size_toArray, List.length_cons, List.length_nil, Nat.reduceAdd]; done)) only [go_sem, Int.reduceLT, Int.reduceLE, Int.reduceEq, reduceIte, true_and, Nat.zero_add, Nat.add_zero, Option.map_some, bd_key1, bd_cell1, store4_push hst4]
  rw [← hK]
  simp -implicitDefEqProofs (disch := first | omega | (simp -implicitDefEqProofs only [go_sem, List.size_toArray, List.length_cons, List.length_nil, Nat.reduceAdd]; done)) only [go_sem, Int.reduceLT, Int.reduceLE, Int.reduceEq, reduceIte, true_and, Nat.zero_add, Nat.add_zero, Option.map_some, next_set, hHn]
  have D2 : cellAt K R 2 = some (.bool odd) := cellAt_row S0.rR
  have D0 : cellAt K (h.next + 1) 0 = some (.int .i32 (IntKind.i32.wrap n1)) := cellAt_row S0.cC
  have so : storeAt K R 2 [.bool odd'] = some (K.set R (rdRow b1 e1 odd')) := storeAt_row S0.rR (Nat.le_of_ble_eq_true rfl) rfl
  refine NNx_cut (fun s => s.df = [] ∧ s.h = K.set R (rdRow b1 e1 odd') ∧ s.fr 0 = some (.pointer (some ⟨R, 0, none⟩)) ∧ s.fr 2 = some (.pointer (some ⟨h.next, 0, none⟩)) ∧ s.fr 4 = some (.pointer (some ⟨h.next + 1, 0, none⟩))) ?_ ?_
  · cases odd with
    | true =>
      have ho' : odd' = true := by rw [← ho]; rfl
      rw [ho'] at so ⊢
      simp -implicitDefEqProofs (disch := first | omega | (simp -implicitDefEqProofs only [go_sem, List.size_toArray, List.length_cons, List.length_nil, Nat.reduceAdd]; done)) only [go_sem, Int.reduceLT, Int.reduceLE, Int.reduceEq, reduceIte, true_and, Nat.zero_add, Nat.add_zero, Option.map_some, D2, so, dPick_t]
      done
    | false =>
      have hq : (!decide (IntKind.i64.wrap (IntKind.i32.wrap n1) = n1)) = odd' := by rw [wrap32_odd hin, Bool.not_not, ← ho]; rfl
      simp -implicitDefEqProofs (disch := first | omega | (simp -implicitDefEqProofs only [go_sem, List.size_toArray, List.length_cons, List.length_nil, Nat.reduceAdd]; done)) only [go_sem, Int.reduceLT, Int.reduceLE, Int.reduceEq, reduceIte, true_and, Nat.zero_add, Nat.add_zero, Option.map_some, D2, D0, hq, so, dPick_f]
      done
  rintro ⟨fr, df, h2, rd⟩ ⟨rfl, rfl, f0, f2, f4⟩
  simp only at f0 f2 f4
  have S1 := S0.num (o' := rdRow b1 e1 odd') hn
  have t2 := S1.int_c hb1 hn g1
  rw [set_set, x2, y2, w2] at t2
  have S2 := S0.num (o' := rdRow b2 e2 odd') hn
  have u2 : storeAt (K.set R (rdRow b2 e2 odd')) (h.next + 1) 1 [.int .i64 n2] = some _ := storeAt_row S2.cC (Nat.le_of_ble_eq_true rfl) rfl
  have S3 := S2.fld (cells' := [.int .i32 (IntKind.i32.wrap n1), .int .i64 n2, .int .i64 0, .int .i64 0]) hn
  have t3 := S3.int_c hb2 hn g2
  rw [x3, y3, w3] at t3
  have S4 := S3.num (o' := rdRow b3 e3 odd') hn
  obtain ⟨K4, hK4⟩ : ∃ K4, K4 = ((K.set R (rdRow b2 e2 odd')).set (h.next + 1) (.row [.int .i32 (IntKind.i32.wrap n1), .int .i64 n2, .int .i64 0, .int .i64 0] 0 false)).set R (rdRow b3 e3 odd') := ⟨_, rfl⟩
  rw [← hK4] at S4 t3
  have u3 : storeAt K4 (h.next + 1) 2 [.int .i64 n3] = some (K4.set (h.next + 1) (.row [.int .i32 (IntKind.i32.wrap n1), .int .i64 n2, .int .i64 n3, .int .i64 0] 0 false)) := storeAt_row S4.cC (Nat.le_of_ble_eq_true rfl) rfl
  have S5 := S4.fld (cells' := [.int .i32 (IntKind.i32.wrap n1), .int .i64 n2, .int .i64 n3, .int .i64 0]) hn
  have t4 := S5.int_c hb3 hn g3
  have S6 := S5.num (o' := rdRow (nextV b3 l3 e3) (nextE l3 e3) odd') hn
  obtain ⟨K6, hK6⟩ : ∃ K6, K6 = (K4.set (h.next + 1) (.row [.int .i32 (IntKind.i32.wrap n1), .int .i64 n2, .int .i64 n3, .int .i64 0] 0 false)).set R (rdRow (nextV b3 l3 e3) (nextE l3 e3) odd') := ⟨_, rfl⟩
  rw [← hK6] at S6 t4
  obtain ⟨n4, x4⟩ : ∃ n4, nextN l3 e3 = n4 := ⟨_, rfl⟩
  rw [x4] at t4 ⊢
  have u4 : storeAt K6 (h.next + 1) 3 [.int .i64 n4] = some (K6.set (h.next + 1) (.row [.int .i32 (IntKind.i32.wrap n1), .int .i64 n2, .int .i64 n3, .int .i64 n4] 0 false)) := storeAt_row S6.cC (Nat.le_of_ble_eq_true rfl) rfl
  have S7 := S6.fld (cells' := [.int .i32 (IntKind.i32.wrap n1), .int .i64 n2, .int .i64 n3, .int .i64 n4]) hn
  obtain ⟨K7, hK7⟩ : ∃ K7, K7 = K6.set (h.next + 1) (.row [.int .i32 (IntKind.i32.wrap n1), .int .i64 n2, .int .i64 n3, .int .i64 n4] 0 false) := ⟨_, rfl⟩
  rw [← hK7] at S7 u4
  have ldx : cellsAt K7 (h.next + 1) 0 4 = some (cellV ⟨⟨IntKind.i32.wrap n1, n2⟩, n3, n4⟩) := by
    rw [cellsAt_row S7.cC (Nat.le_of_ble_eq_true rfl)]; rfl
  have u5 : storeAt K7 h.next 0 [.int .i32 (IntKind.i32.wrap n1), .int .i64 n2, .int .i64 n3, .int .i64 n4] = some (K7.set h.next (.row [.int .i32 (IntKind.i32.wrap n1), .int .i64 n2, .int .i64 n3, .int .i64 n4] 0 false)) := storeAll S7.bB rfl rfl
  simp -implicitDefEqProofs (disch := first | omega | (simp -implicitDefEqProofs only [go_sem, List.size_toArray, List.length_cons, List.length_nil, Nat.reduceAdd]; done)) only [go_sem, Int.reduceLT, Int.reduceLE, Int.reduceEq, reduceIte, true_and, Nat.zero_add, Nat.add_zero, Option.map_some, f0]
  refine ncall t2 ?_
  simp -implicitDefEqProofs (disch := first | omega | (simp -implicitDefEqProofs only [go_sem, List.size_toArray, List.length_cons, List.length_nil, Nat.reduceAdd]; done)) only [go_sem, Int.reduceLT, Int.reduceLE, Int.reduceEq, reduceIte, true_and, Nat.zero_add, Nat.add_zero, Option.map_some, f0, f4, u2]
  refine ncall t3 ?_
  simp -implicitDefEqProofs (disch := first | omega | (simp -implicitDefEqProofs only [go_sem, List.size_toArray, List.length_cons, List.length_nil, Nat.reduceAdd]; done)) only [go_sem, Int.reduceLT, Int.reduceLE, Int.reduceEq, reduceIte, true_and, Nat.zero_add, Nat.add_zero, Option.map_some, f0, f4, u3]
  refine ncall t4 ?_
  simp -implicitDefEqProofs (disch := first | omega | (simp -implicitDefEqProofs only [go_sem, List.size_toArray, List.length_cons, List.length_nil, Nat.reduceAdd]; done)) only [go_sem, Int.reduceLT, Int.reduceLE, Int.reduceEq, reduceIte, true_and, Nat.zero_add, Nat.add_zero, Option.map_some, f2, f4, u4, ldx, u5, dResults_c1, dResC_some]
  refine ⟨cellV ⟨⟨IntKind.i32.wrap n1, n2⟩, n3, n4⟩, ?_, rfl, ?_, S7.ng, fun j hj hji => (get_set_other _ _ (by omega)).trans (S7.old j hj hji), (get_set_other _ _ (by omega)).trans S7.rR⟩
  · rw [cellsAt_row (get_set_same _ _) (Nat.le_of_ble_eq_true rfl)]; rfl
  · have := S7.nx
    rw [next_set]; omega
end Go.Proofs.Ytlhgijpdhniddaa

namespace Go.Proofs.Ytlhgijpdhniddaa
open Go.D
set_option maxRecDepth 100000

/-- the next numbers, what is left, and what is wrong -/
def valsS (b : Value) (l : List Int) (e : Int) : Nat → List Int × Value × List Int × Int
  | 0 => ([], b, l, e)
  | k + 1 => ((valsS b l e k).1 ++ [nextN (valsS b l e k).2.2.1 (valsS b l e k).2.2.2], nextV (valsS b l e k).2.1 (valsS b l e k).2.2.1 (valsS b l e k).2.2.2, nextL (valsS b l e k).2.2.1 (valsS b l e k).2.2.2, nextE (valsS b l e k).2.2.1 (valsS b l e k).2.2.2)
theorem valsS_len (b : Value) (l : List Int) (e : Int) : ∀ k, (valsS b l e k).1.length = k
  | 0 => rfl
  | k + 1 => by rw [valsS, List.length_append, valsS_len b l e k]; rfl
theorem valsS_sl {S : Nat → Prop} {h : DHeap} {b : Value} {l : List Int} {e : Int} (hb : Sl fU8.rep S h b l) : ∀ k, Sl fU8.rep S h (valsS b l e k).2.1 (valsS b l e k).2.2.1
  | 0 => hb
  | k + 1 => next_sl (valsS_sl hb k)
theorem valsS_small {b : Value} {l : List Int} {e : Int} {n : Nat} (h : l.length ≤ n) : ∀ k, (valsS b l e k).2.2.1.length ≤ n
  | 0 => h
  | k + 1 => nextL_len (valsS_small h k)
theorem valsS_A (b : Value) (l : List Int) (a : Nat) (e : Int) : ∀ k, (valsS b (l.drop a) e k).1 = (valsA l k a e).1 ∧ (valsS b (l.drop a) e k).2.2.1 = l.drop (valsA l k a e).2.1 ∧ (valsS b (l.drop a) e k).2.2.2 = (valsA l k a e).2.2
  | 0 => ⟨rfl, rfl, rfl⟩
  | k + 1 => by
    obtain ⟨h1, h2, h3⟩ := valsS_A b l a e k
    obtain ⟨g1, g2, g3⟩ := next_numA l (valsA l k a e).2.1 (valsA l k a e).2.2
    rw [valsA_succ, valsS]
    simp only [h1, h2, h3, g1, g2, g3]
    exact ⟨trivial, trivial, trivial⟩
section
variable {h hh h2 : DHeap} {R : Nat} {o o' : DObj} {zs cells cells' : List Value} {w : Option Nat}
theorem TwoSt.grow (s : TwoSt h R o zs cells hh) (hn : R < h.next) (hw : ∀ x, w = some x → h.next + 2 ≤ x) (h1 : hh.next ≤ h2.next) (hg : h2.ng = hh.ng) (hk : ∀ i, i < hh.next → w ≠ some i → h2.get i = hh.get i) : TwoSt h R o zs cells h2 := by
  have nx := s.nx
  have hk' : ∀ i, i < h.next + 2 → h2.get i = hh.get i := fun i hi => hk i (by omega) (fun hx => by have := hw i hx; omega)
  exact ⟨(hk' _ (by omega)).trans s.rR, (hk' _ (by omega)).trans s.bB, (hk' _ (by omega)).trans s.cC, fun j hj hji => (hk' _ (by omega)).trans (s.old j hj hji), by omega, hg.trans s.ng⟩
theorem TwoSt.many_c {b : Value} {e most : Int} {odd : Bool} {l : List Int} (s : TwoSt h R (rdRow b e odd) zs cells hh) (hb : Sl fU8.rep (fun i => i < R) h b l) (hn : R < h.next) (hlen : l.length ≤ 4294967296) :
    DC Try.prog 29 [.pointer (some ⟨R, 0, none⟩), .int .i64 most] hh (.ret (.int .i64 (manyN l e most))) (hh.set R (rdRow (nextV b l e) (manyE l e most) odd)) :=
  Go.Proofs.Ytlhgijpdhniddaa.many_c (hb.keep (s.low hn)) s.rR (by have := s.nx; omega) hlen
end
theorem manyN_in {l : List Int} {e most : Int} (hm : 0 ≤ most) : 0 ≤ manyN l e most ∧ manyN l e most ≤ most := by
  unfold manyN
  split
  · split
    · exact ⟨Int.le_refl _, hm⟩
    · omega
  · exact ⟨Int.le_refl _, hm⟩
theorem bd_row1 {x : Int} : dBuild Try.prog 55 [(0, .int .i64 x)] = some (.agg #[.int .i64 x, .int .i64 0, .int .i64 0, .slice none 0 0, .int .i64 0, .int .i64 0]) := dBuild_at plc_55 rfl
set_option maxHeartbeats 2000000 in
theorem stRow_c {h : DHeap} {R : Nat} {b b1 b2 b3 b4 b5 b6 : Value} {e e1 e2 e3 e4 e5 e6 n1 n2 n3 n4 n6 n7 : Int} {odd : Bool} {l l1 l2 l3 l4 l5 l6 vs : List Int} (hb : Sl fU8.rep (fun i => i < R) h b l) (hR : h.get R = some (rdRow b e odd)) (hn : R < h.next) (hlen : l.length ≤ 4294967296)
    (x1 : nextN l e = n1) (y1 : nextV b l e = b1) (z1 : nextL l e = l1) (w1 : nextE l e = e1) (x2 : nextN l1 e1 = n2) (y2 : nextV b1 l1 e1 = b2) (z2 : nextL l1 e1 = l2) (w2 : nextE l1 e1 = e2)
    (x3 : nextN l2 e2 = n3) (y3 : nextV b2 l2 e2 = b3) (z3 : nextL l2 e2 = l3) (w3 : nextE l2 e2 = e3) (x4 : manyN l3 e3 8 = n4) (y4 : nextV b3 l3 e3 = b4) (z4 : nextL l3 e3 = l4) (w4 : manyE l3 e3 8 = e4)
    (xv : valsS b4 l4 e4 n4.toNat = (vs, b5, l5, e5)) (x6 : nextN l5 e5 = n6) (y6 : nextV b5 l5 e5 = b6) (z6 : nextL l5 e5 = l6) (w6 : nextE l5 e5 = e6) (x7 : nextN l6 e6 = n7) :
    DC Try.prog 31 [.pointer (some ⟨R, 0, none⟩)] h (.ret (rowV ⟨n1, n2, ⟨n3, vs, n6, n7⟩⟩ (lv h vs))) (lh fI64 (h.set R (rdRow (nextV b6 l6 e6) (nextE l6 e6) odd)) vs) := by
  have hb1 : Sl fU8.rep (fun i => i < R) h b1 l1 := by have := next_sl (e := e) hb; rw [y1, z1] at this; exact this
  have hb2 : Sl fU8.rep (fun i => i < R) h b2 l2 := by have := next_sl (e := e1) hb1; rw [y2, z2] at this; exact this
  have hb3 : Sl fU8.rep (fun i => i < R) h b3 l3 := by have := next_sl (e := e2) hb2; rw [y3, z3] at this; exact this
  have hb4 : Sl fU8.rep (fun i => i < R) h b4 l4 := by have := next_sl (e := e3) hb3; rw [y4, z4] at this; exact this
  have hb5 : Sl fU8.rep (fun i => i < R) h b5 l5 := by have := valsS_sl (e := e4) hb4 n4.toNat; rw [xv] at this; exact this
  have hb6 : Sl fU8.rep (fun i => i < R) h b6 l6 := by have := next_sl (e := e5) hb5; rw [y6, z6] at this; exact this
  have g1 : l1.length ≤ 4294967296 := by rw [← z1]; exact nextL_len hlen
  have g2 : l2.length ≤ 4294967296 := by rw [← z2]; exact nextL_len g1
  have g3 : l3.length ≤ 4294967296 := by rw [← z3]; exact nextL_len g2
  have g4 : l4.length ≤ 4294967296 := by rw [← z4]; exact nextL_len g3
  have g5 : l5.length ≤ 4294967296 := by have := valsS_small (b := b4) (e := e4) g4 n4.toNat; rw [xv] at this; exact this
  have g6 : l6.length ≤ 4294967296 := by rw [← z6]; exact nextL_len g5
  have hn4 : 0 ≤ n4 ∧ n4 ≤ 8 := by rw [← x4]; exact manyN_in (by decide)
  have hbv : VIn (fun i => i < h.next) (nextV b6 l6 e6) := (next_sl hb6).vin.mono fun i hi => Nat.lt_trans hi hn
  refine Ct.changedList (mk := rowV ⟨n1, n2, ⟨n3, vs, n6, n7⟩⟩) (fun _ => rowV_ren) hn (rdRow_vin hbv) (go_31 (by simp) ?_)
  obtain ⟨H, hH⟩ : ∃ H, H = h.push (.row zeroRow 0 false) := ⟨_, rfl⟩
  have hHn : H.next = h.next + 1 := by rw [hH]; rfl
  have hHg : H.ng = h.ng := by rw [hH]; rfl
  have hHB : H.get h.next = some (.row zeroRow 0 false) := by rw [hH]; exact get_push_same _ _
  have hHo : ∀ i, i < h.next → H.get i = h.get i := fun i hi => by rw [hH]; exact get_push_other _ _ hi
  have c1 := int_at (h := H) ((hHo R hn).trans hR) hb (fun i hi => hHo i (by omega)) (by omega) hlen
  rw [x1, y1, w1] at c1
  obtain ⟨K, hK⟩ : ∃ K, K = (H.set R (rdRow b1 e1 odd)).push (.row [.int .i64 n1, .int .i64 0, .int .i64 0, .slice none 0 0, .int .i64 0, .int .i64 0] 0 false) := ⟨_, rfl⟩
  have S0 : TwoSt h R (rdRow b1 e1 odd) zeroRow [.int .i64 n1, .int .i64 0, .int .i64 0, .slice none 0 0, .int .i64 0, .int .i64 0] K := by
    rw [hK]
    refine ⟨?_, ?_, ?_, fun j hj hji => ?_, ?_, ?_⟩
    · rw [get_push_other _ _ (by rw [next_set]; omega), get_set_same]
    · rw [get_push_other _ _ (by rw [next_set]; omega), get_set_other _ _ (by omega), hHB]
    · rw [get_push_at _ _ (by rw [next_set, hHn])]
    · rw [get_push_other _ _ (by rw [next_set]; omega), get_set_other _ _ hji, hHo j hj]
    · rw [next_push, next_set, hHn]; omega
    · rw [ng_push, ng_set, hHg]
  have hst6 : [Value.int .i64 n1, .int .i64 0, .int .i64 0, .slice none 0 0, .int .i64 0, .int .i64 0].all Value.oneCell' = true := rfl
  have t2 := S0.int_c hb1 hn g1
  rw [x2, y2, w2] at t2
  have S1 := S0.num (o' := rdRow b2 e2 odd) hn
  have u2 : storeAt (K.set R (rdRow b2 e2 odd)) (h.next + 1) 1 [.int .i64 n2] = some ((K.set R (rdRow b2 e2 odd)).set (h.next + 1) (.row [.int .i64 n1, .int .i64 n2, .int .i64 0, .slice none 0 0, .int .i64 0, .int .i64 0] 0 false)) := storeAt_row S1.cC (Nat.le_of_ble_eq_true rfl) rfl
  have S2 := S1.fld (cells' := [.int .i64 n1, .int .i64 n2, .int .i64 0, .slice none 0 0, .int .i64 0, .int .i64 0]) hn
  obtain ⟨K2, hK2⟩ : ∃ K2, K2 = (K.set R (rdRow b2 e2 odd)).set (h.next + 1) (.row [.int .i64 n1, .int .i64 n2, .int .i64 0, .slice none 0 0, .int .i64 0, .int .i64 0] 0 false) := ⟨_, rfl⟩
  rw [← hK2] at S2 u2
  have t3 := S2.int_c hb2 hn g2
  rw [x3, y3, w3] at t3
  have S3 := S2.num (o' := rdRow b3 e3 odd) hn
  have u3 : storeAt (K2.set R (rdRow b3 e3 odd)) (h.next + 1) 2 [.int .i64 n3] = some ((K2.set R (rdRow b3 e3 odd)).set (h.next + 1) (.row [.int .i64 n1, .int .i64 n2, .int .i64 n3, .slice none 0 0, .int .i64 0, .int .i64 0] 0 false)) := storeAt_row S3.cC (Nat.le_of_ble_eq_true rfl) rfl
  have S4 := S3.fld (cells' := [.int .i64 n1, .int .i64 n2, .int .i64 n3, .slice none 0 0, .int .i64 0, .int .i64 0]) hn
  obtain ⟨K4, hK4⟩ : ∃ K4, K4 = (K2.set R (rdRow b3 e3 odd)).set (h.next + 1) (.row [.int .i64 n1, .int .i64 n2, .int .i64 n3, .slice none 0 0, .int .i64 0, .int .i64 0] 0 false) := ⟨_, rfl⟩
  rw [← hK4] at S4 u3
  have t4 := S4.many_c (most := 8) hb3 hn g3
  rw [x4, y4, w4] at t4
  have S5 := S4.num (o' := rdRow b4 e4 odd) hn
  simp -implicitDefEqProofs (disch := first | omega | (simp -implicitDefEqProofs only [go_sem, List.size_toArray, List.length_cons, List.length_nil, Nat.reduceAdd]; done)) only [go_sem, Int.reduceLT, Int.reduceLE, Int.reduceEq, reduceIte, true_and, Nat.zero_add, Nat.add_zero, Option.map_some, c31]
  rw [← hH]
  refine ncall c1 ?_
  simp -implicitDefEqProofs (disch := first | omega | (simp -implicitDefEqProofs only [go_sem, List.size_toArray, List.length_cons, List.length_nil, Nat.reduceAdd]; done)) only [go_sem, Int.reduceLT, Int.reduceLE, Int.reduceEq, reduceIte, true_and, Nat.zero_add, Nat.add_zero, Option.map_some, bd_row1, store6_push hst6]
  rw [← hK]
  simp -implicitDefEqProofs (disch := first | omega | (simp -implicitDefEqProofs only [go_sem, List.size_toArray, List.length_cons, List.length_nil, Nat.reduceAdd]; done)) only [go_sem, Int.reduceLT, Int.reduceLE, Int.reduceEq, reduceIte, true_and, Nat.zero_add, Nat.add_zero, Option.map_some, next_set, hHn]
  refine ncall t2 ?_
  simp -implicitDefEqProofs (disch := first | omega | (simp -implicitDefEqProofs only [go_sem, List.size_toArray, List.length_cons, List.length_nil, Nat.reduceAdd]; done)) only [go_sem, Int.reduceLT, Int.reduceLE, Int.reduceEq, reduceIte, true_and, Nat.zero_add, Nat.add_zero, Option.map_some, u2]
  refine ncall t3 ?_
  simp -implicitDefEqProofs (disch := first | omega | (simp -implicitDefEqProofs only [go_sem, List.size_toArray, List.length_cons, List.length_nil, Nat.reduceAdd]; done)) only [go_sem, Int.reduceLT, Int.reduceLE, Int.reduceEq, reduceIte, true_and, Nat.zero_add, Nat.add_zero, Option.map_some, u3]
  refine ncall t4 ?_
  simp -implicitDefEqProofs (disch := first | omega | (simp -implicitDefEqProofs only [go_sem, List.size_toArray, List.length_cons, List.length_nil, Nat.reduceAdd]; done)) only [go_sem, Int.reduceLT, Int.reduceLE, Int.reduceEq, reduceIte, true_and, Nat.zero_add, Nat.add_zero, Option.map_some]
  refine xloop (σ := Nat) (by kernel_rfl) (fun i s => s.df = [] ∧ s.fr 0 = some (.pointer (some ⟨R, 0, none⟩)) ∧ s.fr 2 = some (.pointer (some ⟨h.next, 0, none⟩)) ∧ s.fr 3 = some (.pointer (some ⟨h.next + 1, 0, none⟩)) ∧ s.fr 15 = some (.int .i64 n4) ∧ s.fr 16 = some (.int .i64 (i : Nat)) ∧ (i : Int) ≤ n4 ∧
    ∃ v w, TwoSt h R (rdRow (valsS b4 l4 e4 i).2.1 (valsS b4 l4 e4 i).2.2.2 odd) zeroRow [.int .i64 n1, .int .i64 n2, .int .i64 n3, v, .int .i64 0, .int .i64 0] s.h ∧ Owns fI64.rep NoS s.h v (valsS b4 l4 e4 i).1 w ∧ (∀ x, w = some x → h.next + 2 ≤ x) ∧ (i = 0 → v = .slice none 0 0)) (fun i => n4.toNat - i) 0 ?_ ?_
  · simp -implicitDefEqProofs (disch := first | omega | (simp -implicitDefEqProofs only [go_sem, List.size_toArray, List.length_cons, List.length_nil, Nat.reduceAdd]; done)) only [go_sem, Int.reduceLT, Int.reduceLE, Int.reduceEq, reduceIte, true_and, Nat.zero_add, Nat.add_zero, Option.map_some]
    exact ⟨rfl, hn4.1, .slice none 0 0, none, S5, Owns.nil _ _ _, by simp, by simp⟩
  · rintro i ⟨fr, df, hh, rd⟩ K' hK' hX ⟨rfl, f0, f2, f3, f15, f16, hi, v, w, S, ho, hw, hv0⟩
    simp only at f0 f2 f3 f15 f16 S ho hw
    simp -implicitDefEqProofs (disch := first | omega | (simp -implicitDefEqProofs only [go_sem, List.size_toArray, List.length_cons, List.length_nil, Nat.reduceAdd]; done)) only [go_sem, Int.reduceLT, Int.reduceLE, Int.reduceEq, reduceIte, true_and, Nat.zero_add, Nat.add_zero, Option.map_some, f15, f16]
    refine XIf_dec (fun hc1 => ?_) (fun hc1 => ?_)
    · obtain ⟨ws, bi, li, ei, hva⟩ : ∃ p q r s, valsS b4 l4 e4 i = (p, q, r, s) := ⟨_, _, _, _, rfl⟩
      have hbi : Sl fU8.rep (fun i => i < R) h bi li := by have := valsS_sl (e := e4) hb4 i; rw [hva] at this; exact this
      have gi : li.length ≤ 4294967296 := by have := valsS_small (b := b4) (e := e4) g4 i; rw [hva] at this; exact this
      have hwl : ws.length = i := by have := valsS_len b4 l4 e4 i; rw [hva] at this; exact this
      have hsucc : valsS b4 l4 e4 (i + 1) = (ws ++ [nextN li ei], nextV bi li ei, nextL li ei, nextE li ei) := by rw [valsS, hva]
      rw [hva] at S ho
      simp only at S ho
      have hnn : inK .i64 (nextN li ei) := nextN_in (fun x hx => inK_u8.1 (hbi.ok x hx)) ei
      have tc := S.int_c hbi hn gi
      obtain ⟨n, hx⟩ : ∃ n, nextN li ei = n := ⟨_, rfl⟩
      rw [hx] at hsucc hnn tc
      have S1 := S.num (o' := rdRow (nextV bi li ei) (nextE li ei) odd) hn
      have hwi : ∀ x, w = some x → x ≠ R := fun x hxw => by have := hw x hxw; omega
      have ho1 : Owns fI64.rep NoS (hh.set R (rdRow (nextV bi li ei) (nextE li ei) odd)) v ws w := ho.mono (Nat.le_refl _) (fun x hxw => get_set_other _ _ (hwi x hxw)) (fun i hi => hi.elim)
      obtain ⟨v', h2, w', e3', g1', g2', g3', g4', g5'⟩ := own_snoc ho1 hnn (by omega)
      have S2' := S1.grow hn hw g1' g2' g3'
      have S3' := S2'.fld (cells' := [.int .i64 n1, .int .i64 n2, .int .i64 n3, v', .int .i64 0, .int .i64 0]) hn
      have C3 : cellAt hh (h.next + 1) 3 = some v := cellAt_row S.cC
      have hsl := g4'.sl.isSlice
      have hcl : v'.cells = #[v'] := g4'.sl.cells1
      have hone : [v'].all Value.oneCell' = true := by obtain ⟨_, _, rfl⟩ := hsl; rfl
      have hst : dStore Try.prog 51 (.pointer (some ⟨h.next + 1, 3, none⟩)) v' h2 = some (h2.set (h.next + 1) (.row [.int .i64 n1, .int .i64 n2, .int .i64 n3, v', .int .i64 0, .int .i64 0] 0 false)) :=
        (st_51 hcl).trans (storeAt_row S2'.cC (Nat.le_of_ble_eq_true rfl) hone)
      have hw5 : IntKind.i64.wrap ((i : Int) + 1) = ((i + 1 : Nat) : Int) := by rw [wrap_i64_in (by omega) (by omega)]; omega
      have hbs : ∀ K : DHeap, dBuildSlice Try.prog 51 1 [(0, .int .i64 n)] K = some (.slice (some ⟨K.next, 0, none⟩) 1 1, K.push (.row [.int .i64 n] 1 false)) := fun K => bs1_51 rfl
      simp -implicitDefEqProofs (disch := first | omega | (simp -implicitDefEqProofs only [go_sem, List.size_toArray, List.length_cons, List.length_nil, Nat.reduceAdd]; done)) only [go_sem, Int.reduceLT, Int.reduceLE, Int.reduceEq, reduceIte, true_and, Nat.zero_add, Nat.add_zero, Option.map_some]
      refine dr_31_0 ?_
      simp -implicitDefEqProofs (disch := first | omega | (simp -implicitDefEqProofs only [go_sem, List.size_toArray, List.length_cons, List.length_nil, Nat.reduceAdd]; done)) only [go_sem, Int.reduceLT, Int.reduceLE, Int.reduceEq, reduceIte, true_and, Nat.zero_add, Nat.add_zero, Option.map_some, l31_0, f0, f3, C3]
      refine dcall tc ?_
      simp -implicitDefEqProofs (disch := first | omega | (simp -implicitDefEqProofs only [go_sem, List.size_toArray, List.length_cons, List.length_nil, Nat.reduceAdd]; done)) only [go_sem, Int.reduceLT, Int.reduceLE, Int.reduceEq, reduceIte, true_and, Nat.zero_add, Nat.add_zero, Option.map_some, hbs, e3', hst, f3]
      have D1 : ∀ K : DHeap, K.get (h.next + 1) = some (.row [.int .i64 n1, .int .i64 n2, .int .i64 n3, v, .int .i64 0, .int .i64 0] 0 false) → dLoad Try.prog 51 (.pointer (some ⟨h.next + 1, 3, none⟩)) K = some v := fun K hk => ld_51.trans (cellAt_row hk)
      refine ⟨⟨XSt1_at (i := 2) (j := 4) rfl rfl rfl ?_, XSt1_at (i := 2) (j := 5) rfl rfl rfl ?_, trivial⟩, ?_⟩
      · rw [if_neg (by decide)]
        refine Ld_on (p := .pointer (some ⟨h.next + 1, 3, none⟩)) ?_ ?_ (D1 _ S1.cC)
        · simp -implicitDefEqProofs (disch := first | omega | (simp -implicitDefEqProofs only [go_sem, List.size_toArray, List.length_cons, List.length_nil, Nat.reduceAdd]; done)) only [go_sem, Int.reduceLT, Int.reduceLE, Int.reduceEq, reduceIte, true_and, Nat.zero_add, Nat.add_zero, Option.map_some]
        · simp -implicitDefEqProofs (disch := first | omega | (simp -implicitDefEqProofs only [go_sem, List.size_toArray, List.length_cons, List.length_nil, Nat.reduceAdd]; done)) only [go_sem, Int.reduceLT, Int.reduceLE, Int.reduceEq, reduceIte, true_and, Nat.zero_add, Nat.add_zero, Option.map_some]
      · rw [if_neg (by decide)]
        refine Ld_on (p := .pointer (some ⟨h.next + 1, 3, none⟩)) ?_ ?_ (D1 _ ((get_push_other _ _ (by have := S1.nx; omega)).trans S1.cC))
        · simp -implicitDefEqProofs (disch := first | omega | (simp -implicitDefEqProofs only [go_sem, List.size_toArray, List.length_cons, List.length_nil, Nat.reduceAdd]; done)) only [go_sem, Int.reduceLT, Int.reduceLE, Int.reduceEq, reduceIte, true_and, Nat.zero_add, Nat.add_zero, Option.map_some]
        · simp -implicitDefEqProofs (disch := first | omega | (simp -implicitDefEqProofs only [go_sem, List.size_toArray, List.length_cons, List.length_nil, Nat.reduceAdd]; done)) only [go_sem, Int.reduceLT, Int.reduceLE, Int.reduceEq, reduceIte, true_and, Nat.zero_add, Nat.add_zero, Option.map_some]
      simp -implicitDefEqProofs (disch := first | omega | (simp -implicitDefEqProofs only [go_sem, List.size_toArray, List.length_cons, List.length_nil, Nat.reduceAdd]; done)) only [go_sem, Int.reduceLT, Int.reduceLE, Int.reduceEq, reduceIte, true_and, Nat.zero_add, Nat.add_zero, Option.map_some, f16, hw5]
      refine hK' (i + 1) _ ?_ (by omega)
      refine ⟨by trivial, by simp -implicitDefEqProofs (disch := first | omega | (simp -implicitDefEqProofs only [go_sem, List.size_toArray, List.length_cons, List.length_nil, Nat.reduceAdd]; done)) only [go_sem, Int.reduceLT, Int.reduceLE, Int.reduceEq, reduceIte, true_and, Nat.zero_add, Nat.add_zero, Option.map_some, f0], by simp -implicitDefEqProofs (disch := first | omega | (simp -implicitDefEqProofs only [go_sem, List.size_toArray, List.length_cons, List.length_nil, Nat.reduceAdd]; done)) only [go_sem, Int.reduceLT, Int.reduceLE, Int.reduceEq, reduceIte, true_and, Nat.zero_add, Nat.add_zero, Option.map_some, f2], by simp -implicitDefEqProofs (disch := first | omega | (simp -implicitDefEqProofs only [go_sem, List.size_toArray, List.length_cons, List.length_nil, Nat.reduceAdd]; done)) only [go_sem, Int.reduceLT, Int.reduceLE, Int.reduceEq, reduceIte, true_and, Nat.zero_add, Nat.add_zero, Option.map_some, f3], by simp -implicitDefEqProofs (disch := first | omega | (simp -implicitDefEqProofs only [go_sem, List.size_toArray, List.length_cons, List.length_nil, Nat.reduceAdd]; done)) only [go_sem, Int.reduceLT, Int.reduceLE, Int.reduceEq, reduceIte, true_and, Nat.zero_add, Nat.add_zero, Option.map_some, f15], by simp -implicitDefEqProofs (disch := first | omega | (simp -implicitDefEqProofs only [go_sem, List.size_toArray, List.length_cons, List.length_nil, Nat.reduceAdd]; done)) only [go_sem, Int.reduceLT, Int.reduceLE, Int.reduceEq, reduceIte, true_and, Nat.zero_add, Nat.add_zero, Option.map_some], by omega, v', w', ?_, ?_, ?_, fun h0 => absurd h0 (Nat.succ_ne_zero _)⟩
      · rw [hsucc]; exact S3'
      · rw [hsucc]
        exact g4'.mono (Nat.le_refl _) (fun x hxw => get_set_other _ _ (by
          rcases g5' x hxw with hh1 | hh1
          · have := hw x hh1; omega
          · have := S1.nx; omega)) (fun i hi => hi.elim)
      · intro x hxw
        rcases g5' x hxw with hh1 | hh1
        · exact hw x hh1
        · have := S1.nx; omega
    · have hin : i = n4.toNat := by omega
      subst hin
      rw [xv] at S ho
      simp only at S ho
      refine hX _ _ (by simp) ?_
      have S1 := S.num (o' := rdRow b6 e6 odd) hn
      have hone : ∀ p q : Int, [Value.int .i64 n1, .int .i64 n2, .int .i64 n3, v, .int .i64 p, .int .i64 q].all Value.oneCell' = true := by
        obtain ⟨_, _, rfl⟩ := ho.sl.isSlice
        intro p q; rfl
      have t6 := S.int_c hb5 hn g5
      rw [x6, y6, w6] at t6
      have st5 : storeAt (hh.set R (rdRow b6 e6 odd)) (h.next + 1) 4 [.int .i64 n6] = some ((hh.set R (rdRow b6 e6 odd)).set (h.next + 1) (.row [.int .i64 n1, .int .i64 n2, .int .i64 n3, v, .int .i64 n6, .int .i64 0] 0 false)) := storeAt_row S1.cC (Nat.le_of_ble_eq_true rfl) rfl
      have S2 := S1.fld (cells' := [.int .i64 n1, .int .i64 n2, .int .i64 n3, v, .int .i64 n6, .int .i64 0]) hn
      have t7 := S2.int_c hb6 hn g6
      rw [x7] at t7
      have S3 := S2.num (o' := rdRow (nextV b6 l6 e6) (nextE l6 e6) odd) hn
      obtain ⟨K5, hK5⟩ : ∃ K5, K5 = ((hh.set R (rdRow b6 e6 odd)).set (h.next + 1) (.row [.int .i64 n1, .int .i64 n2, .int .i64 n3, v, .int .i64 n6, .int .i64 0] 0 false)).set R (rdRow (nextV b6 l6 e6) (nextE l6 e6) odd) := ⟨_, rfl⟩
      simp -implicitDefEqProofs (disch := first | omega | (simp -implicitDefEqProofs only [go_sem, List.size_toArray, List.length_cons, List.length_nil, Nat.reduceAdd]; done)) only [go_sem, Int.reduceLT, Int.reduceLE, Int.reduceEq, reduceIte, true_and, Nat.zero_add, Nat.add_zero, Option.map_some, f0]
      refine ncall t6 ?_
      simp -implicitDefEqProofs (disch := first | omega | (simp -implicitDefEqProofs only [go_sem, List.size_toArray, List.length_cons, List.length_nil, Nat.reduceAdd]; done)) only [go_sem, Int.reduceLT, Int.reduceLE, Int.reduceEq, reduceIte, true_and, Nat.zero_add, Nat.add_zero, Option.map_some, f0, f3, st5]
      refine ncall t7 ?_
      rw [← hK5] at S3 ⊢
      have ho5 : Owns fI64.rep NoS K5 v vs w := by
        rw [hK5]
        refine ho.mono (Nat.le_refl _) (fun x hxw => ?_) (fun i hi => hi.elim)
        have := hw x hxw
        rw [get_set_other _ _ (by omega), get_set_other _ _ (by omega), get_set_other _ _ (by omega)]
      have st7 : storeAt K5 (h.next + 1) 5 [.int .i64 n7] = some (K5.set (h.next + 1) (.row [.int .i64 n1, .int .i64 n2, .int .i64 n3, v, .int .i64 n6, .int .i64 n7] 0 false)) := storeAt_row S3.cC (Nat.le_of_ble_eq_true rfl) rfl
      have S4 := S3.fld (cells' := [.int .i64 n1, .int .i64 n2, .int .i64 n3, v, .int .i64 n6, .int .i64 n7]) hn
      have ldx : cellsAt (K5.set (h.next + 1) (.row [.int .i64 n1, .int .i64 n2, .int .i64 n3, v, .int .i64 n6, .int .i64 n7] 0 false)) (h.next + 1) 0 6 = some (rowV ⟨n1, n2, ⟨n3, vs, n6, n7⟩⟩ v) := by
        rw [cellsAt_row S4.cC (Nat.le_of_ble_eq_true rfl)]; rfl
      have st8 : storeAt (K5.set (h.next + 1) (.row [.int .i64 n1, .int .i64 n2, .int .i64 n3, v, .int .i64 n6, .int .i64 n7] 0 false)) h.next 0 [.int .i64 n1, .int .i64 n2, .int .i64 n3, v, .int .i64 n6, .int .i64 n7] = some ((K5.set (h.next + 1) (.row [.int .i64 n1, .int .i64 n2, .int .i64 n3, v, .int .i64 n6, .int .i64 n7] 0 false)).set h.next (.row [.int .i64 n1, .int .i64 n2, .int .i64 n3, v, .int .i64 n6, .int .i64 n7] 0 false)) := storeAll S4.bB rfl (hone _ _)
      simp -implicitDefEqProofs (disch := first | omega | (simp -implicitDefEqProofs only [go_sem, List.size_toArray, List.length_cons, List.length_nil, Nat.reduceAdd]; done)) only [go_sem, Int.reduceLT, Int.reduceLE, Int.reduceEq, reduceIte, true_and, Nat.zero_add, Nat.add_zero, Option.map_some, f0, f2, f3, st7, ldx, st8, dResults_c1, dResC_some]
      have hvl : vs.length = n4.toNat := by have := valsS_len b4 l4 e4 n4.toNat; rw [xv] at this; exact this
      refine ⟨rowV ⟨n1, n2, ⟨n3, vs, n6, n7⟩⟩ v, ?_, v, w, rfl, ?_, ?_, ?_, ?_⟩
      · rw [cellsAt_row (get_set_same _ _) (Nat.le_of_ble_eq_true rfl)]; rfl
      · refine ⟨?_, S4.ng, fun j hj hji => (get_set_other _ _ (by omega)).trans (S4.old j hj hji), (get_set_other _ _ (by omega)).trans S4.rR⟩
        have := S4.nx
        rw [next_set]; omega
      · refine ho5.mono (Nat.le_refl _) (fun x hxw => ?_) (fun i hi => hi.elim)
        have := hw x hxw
        rw [get_set_other _ _ (by omega), get_set_other _ _ (by omega)]
      · intro x hxw
        have := hw x hxw
        omega
      · intro h0
        rw [h0] at hvl
        exact hv0 (by simpa using hvl.symm)
end Go.Proofs.Ytlhgijpdhniddaa

namespace Go.Proofs.Ytlhgijpdhniddaa
open Go.D
set_option maxRecDepth 100000

theorem numsB_ok {l : List Int} (hl : ∀ n ∈ l, inK .i64 n) : ∀ x ∈ numsB l, fU8.ok x := by
  intro x hx
  obtain ⟨n, hn, hxn⟩ := List.mem_flatMap.1 hx
  exact numB_ok (hl n hn) x hxn
theorem lv_cells {h : DHeap} {l : List Int} : (lv h l).cells = #[lv h l] := by
  unfold lv mkS
  split <;> rfl
theorem lv_one {h : DHeap} {l : List Int} : [lv h l].all Value.oneCell' = true := by
  unfold lv mkS
  split <;> rfl
theorem put_c {h : DHeap} {W : Nat} {b v : Value} {lb ll : List Int} (hb : Arg fU8.rep h b lb) (hl : Arg fI64.rep h v ll) (hW : h.get W = some (.row [b] 0 false)) (hn : W < h.next) (hlen : lb.length + 9 * ll.length ≤ 1073741824) (hne : lb ++ numsB ll ≠ []) :
    Ct Try.prog 41 [.pointer (some ⟨W, 0, none⟩), v] h fun r h1 => r = .ret (.tuple #[]) ∧ h1 = (lh fU8 h (lb ++ numsB ll)).set W (.row [lv h (lb ++ numsB ll)] 0 false) := by
  refine go_41 (by simp) ?_
  have C0 : cellAt h W 0 = some b := cellAt_row hW
  have hg : (lh fU8 h (lb ++ numsB ll)).get W = some (.row [b] 0 false) := ((lh_ext fU8 h _).get W hn).trans hW
  have s1 : dStore Try.prog 22 (.pointer (some ⟨W, 0, none⟩)) (lv h (lb ++ numsB ll)) (lh fU8 h (lb ++ numsB ll)) = some ((lh fU8 h (lb ++ numsB ll)).set W (.row [lv h (lb ++ numsB ll)] 0 false)) := (st_22 lv_cells).trans (storeAll hg rfl lv_one)
  simp -implicitDefEqProofs (disch := first | omega | (simp -implicitDefEqProofs only [go_sem, List.size_toArray, List.length_cons, List.length_nil, Nat.reduceAdd]; done)) only [go_sem, Int.reduceLT, Int.reduceLE, Int.reduceEq, reduceIte, true_and, Nat.zero_add, Nat.add_zero, Option.map_some, c41, C0]
  refine ncall (Num_c hb hl hlen hne) ?_
  simp -implicitDefEqProofs (disch := first | omega | (simp -implicitDefEqProofs only [go_sem, List.size_toArray, List.length_cons, List.length_nil, Nat.reduceAdd]; done)) only [go_sem, Int.reduceLT, Int.reduceLE, Int.reduceEq, reduceIte, true_and, Nat.zero_add, Nat.add_zero, Option.map_some, s1]
  exact ⟨_, rfl, by trivial, by trivial⟩
/-- how the writer's bytes lie -/
structure WrSt (h : DHeap) (W : Nat) (lb : List Int) (hh : DHeap) : Prop where
  ext : Ext h hh
  lt : W < hh.next
  old : h.next ≤ W
  row : ∃ b, hh.get W = some (.row [b] 0 false) ∧ Sl fU8.rep (fun i => h.next ≤ i ∧ i < hh.next ∧ i ≠ W) hh b lb
theorem WrSt.on {h hh h2 : DHeap} {W : Nat} {lb : List Int} (s : WrSt h W lb hh) (e : Ext hh h2) : WrSt h W lb h2 := by
  obtain ⟨b, h1, h2'⟩ := s.row
  exact ⟨s.ext.trans e, Nat.lt_of_lt_of_le s.lt e.next, s.old, b, (e.get _ s.lt).trans h1, h2'.mono fun i hi => ⟨⟨hi.1, Nat.lt_of_lt_of_le hi.2.1 e.next, hi.2.2⟩, e.get i hi.2.1⟩⟩
theorem WrSt.put {h hh : DHeap} {W : Nat} {lb ll : List Int} {v : Value} (s : WrSt h W lb hh) (hl : Arg fI64.rep hh v ll) (hlen : lb.length + 9 * ll.length ≤ 1073741824) (hne : lb ++ numsB ll ≠ []) :
    Ct Try.prog 41 [.pointer (some ⟨W, 0, none⟩), v] hh fun r h1 => r = .ret (.tuple #[]) ∧ WrSt h W (lb ++ numsB ll) h1 ∧ hh.next ≤ h1.next ∧ (∀ i, i < hh.next → i ≠ W → h1.get i = hh.get i) := by
  obtain ⟨b, h1, h2⟩ := s.row
  have hba : Arg fU8.rep hh b lb := h2.mono fun i hi => ⟨hi.2.1, rfl⟩
  refine (put_c hba hl h1 s.lt hlen hne).mono fun r h' ⟨e1, e2⟩ => ⟨e1, ?_, ?_, ?_⟩
  · subst e2
    have he := lh_ext fU8 hh (lb ++ numsB ll)
    refine ⟨(s.ext.trans he).set s.old, Nat.lt_of_lt_of_le s.lt he.next, s.old, _, get_set_same _ _, ?_⟩
    have hok : ∀ x ∈ lb ++ numsB ll, fU8.ok x := fun x hx => by
      rcases List.mem_append.1 hx with hx | hx
      · exact hba.ok x hx
      · exact numsB_ok (fun y hy => hl.ok y hy) x hx
    have hs := (lh_made fU8 hh hok).sl
    have hlt := s.lt
    have hEn := s.ext.next
    exact hs.mono fun i hi => ⟨⟨by omega, hi.2, by omega⟩, get_set_other _ _ (by omega)⟩
  · subst e2; exact (lh_ext fU8 hh _).next
  · subst e2
    intro i hi hiW
    rw [get_set_other _ _ hiW]
    exact (lh_ext fU8 hh _).get i hi
end Go.Proofs.Ytlhgijpdhniddaa

namespace Go.Proofs.Ytlhgijpdhniddaa
open Go.D
set_option maxRecDepth 100000

/-- a cell's bytes, a row's bytes, a state's bytes -/
def cellB (c : Cell) : List Int := numsB [c.k.t, c.k.r, c.v, c.s]
def rowB (r : Row) : List Int := numsB [r.ses, r.req, r.x.e, (r.x.vs.length : Int)] ++ (numsB r.x.vs ++ numsB [r.x.s, r.x.p])
def stateB (x : State) : List Int := numsB [x.slot, (x.cells.length : Int)] ++ (x.cells.flatMap cellB ++ (numsB [(x.rows.length : Int)] ++ x.rows.flatMap rowB))
theorem ok4 {a b c d : Int} (ha : inK .i64 a) (hb : inK .i64 b) (hc : inK .i64 c) (hd : inK .i64 d) : ∀ x ∈ [a, b, c, d], fI64.ok x := by
  intro x hx
  simp at hx
  rcases hx with rfl | rfl | rfl | rfl <;> assumption
theorem ok2 {a b : Int} (ha : inK .i64 a) (hb : inK .i64 b) : ∀ x ∈ [a, b], fI64.ok x := by
  intro x hx
  simp at hx
  rcases hx with rfl | rfl <;> assumption
theorem ok1 {a : Int} (ha : inK .i64 a) : ∀ x ∈ [a], fI64.ok x := by
  intro x hx
  simp at hx
  subst hx; assumption
theorem bs4 {K : DHeap} {a b c d : Int} : dBuildSlice Try.prog 51 4 [(0, .int .i64 a), (1, .int .i64 b), (2, .int .i64 c), (3, .int .i64 d)] K = some (.slice (some ⟨K.next, 0, none⟩) 4 4, K.push (.row [.int .i64 a, .int .i64 b, .int .i64 c, .int .i64 d] 1 false)) :=
  dBuildSlice_all bsl_51 (vs := [.int .i64 a, .int .i64 b, .int .i64 c, .int .i64 d]) (Nat.succ_pos _) (by
    intro v hv
    simp at hv
    rcases hv with rfl | rfl | rfl | rfl <;> rfl) (Nat.le_of_ble_eq_true rfl)
theorem bs2 {K : DHeap} {a b : Int} : dBuildSlice Try.prog 51 2 [(0, .int .i64 a), (1, .int .i64 b)] K = some (.slice (some ⟨K.next, 0, none⟩) 2 2, K.push (.row [.int .i64 a, .int .i64 b] 1 false)) := bs2_51 rfl rfl
theorem bs1 {K : DHeap} {a : Int} : dBuildSlice Try.prog 51 1 [(0, .int .i64 a)] K = some (.slice (some ⟨K.next, 0, none⟩) 1 1, K.push (.row [.int .i64 a] 1 false)) := bs1_51 rfl
theorem bd_writer : dBuild Try.prog 80 [] = some (.agg #[.slice none 0 0]) := dBuild_at plc_80 rfl
theorem numsB_ne {a : Int} {l : List Int} {lb : List Int} : lb ++ numsB (a :: l) ≠ [] := by
  have := numB_pos a
  intro h
  have h2 := congrArg List.length h
  simp only [numsB, List.flatMap_cons, List.length_append, List.length_nil] at h2
  omega
/-- with numbers just laid -/
theorem WrSt.put4 {h hh : DHeap} {W : Nat} {lb : List Int} {a b c d : Int} (s : WrSt h W lb hh) (hk : ∀ x ∈ [a, b, c, d], fI64.ok x) (hlen : lb.length ≤ 1073741000) :
    Ct Try.prog 41 [.pointer (some ⟨W, 0, none⟩), .slice (some ⟨hh.next, 0, none⟩) 4 4] (hh.push (.row [.int .i64 a, .int .i64 b, .int .i64 c, .int .i64 d] 1 false)) fun r h1 => r = .ret (.tuple #[]) ∧ WrSt h W (lb ++ numsB [a, b, c, d]) h1 ∧ hh.next ≤ h1.next ∧ (∀ i, i < hh.next → i ≠ W → h1.get i = hh.get i) := by
  refine ((s.on (Ext.push1 _ _)).put (built fI64 hh rfl rfl rfl hk) (by simp only [List.length_cons, List.length_nil]; omega) numsB_ne).mono fun r h1 ⟨e1, e2, e3, e4⟩ => ⟨e1, e2, Nat.le_trans (Nat.le_succ _) e3, fun i hi hiW => (e4 i (Nat.lt_succ_of_lt hi) hiW).trans (get_push_other _ _ hi)⟩
theorem WrSt.put2 {h hh : DHeap} {W : Nat} {lb : List Int} {a b : Int} (s : WrSt h W lb hh) (hk : ∀ x ∈ [a, b], fI64.ok x) (hlen : lb.length ≤ 1073741000) :
    Ct Try.prog 41 [.pointer (some ⟨W, 0, none⟩), .slice (some ⟨hh.next, 0, none⟩) 2 2] (hh.push (.row [.int .i64 a, .int .i64 b] 1 false)) fun r h1 => r = .ret (.tuple #[]) ∧ WrSt h W (lb ++ numsB [a, b]) h1 ∧ hh.next ≤ h1.next ∧ (∀ i, i < hh.next → i ≠ W → h1.get i = hh.get i) := by
  refine ((s.on (Ext.push1 _ _)).put (built fI64 hh rfl rfl rfl hk) (by simp only [List.length_cons, List.length_nil]; omega) numsB_ne).mono fun r h1 ⟨e1, e2, e3, e4⟩ => ⟨e1, e2, Nat.le_trans (Nat.le_succ _) e3, fun i hi hiW => (e4 i (Nat.lt_succ_of_lt hi) hiW).trans (get_push_other _ _ hi)⟩
theorem WrSt.put1 {h hh : DHeap} {W : Nat} {lb : List Int} {a : Int} (s : WrSt h W lb hh) (hk : ∀ x ∈ [a], fI64.ok x) (hlen : lb.length ≤ 1073741000) :
    Ct Try.prog 41 [.pointer (some ⟨W, 0, none⟩), .slice (some ⟨hh.next, 0, none⟩) 1 1] (hh.push (.row [.int .i64 a] 1 false)) fun r h1 => r = .ret (.tuple #[]) ∧ WrSt h W (lb ++ numsB [a]) h1 ∧ hh.next ≤ h1.next ∧ (∀ i, i < hh.next → i ≠ W → h1.get i = hh.get i) := by
  refine ((s.on (Ext.push1 _ _)).put (built fI64 hh rfl rfl rfl hk) (by simp only [List.length_cons, List.length_nil]; omega) numsB_ne).mono fun r h1 ⟨e1, e2, e3, e4⟩ => ⟨e1, e2, Nat.le_trans (Nat.le_succ _) e3, fun i hi hiW => (e4 i (Nat.lt_succ_of_lt hi) hiW).trans (get_push_other _ _ hi)⟩
end Go.Proofs.Ytlhgijpdhniddaa

namespace Go.Proofs.Ytlhgijpdhniddaa
open Go.D
set_option maxRecDepth 100000

def bytesE (x : State) : Int := if mayB x then (if 1048576 < (stateB x).length then 3 else 0) else 220
def bytesL (x : State) : List Int := if mayB x then (if 1048576 < (stateB x).length then [] else stateB x) else []
theorem i32_i64 {n : Int} (h : inK .i32 n) : inK .i64 n := by
  have := inK_i32.1 h
  exact inK_i64.2 ⟨by omega, by omega⟩
theorem cellB_len {c : Cell} (h : fCell.ok c) : (cellB c).length ≤ 36 := by
  obtain ⟨⟨h1, h2⟩, h3, h4⟩ := h
  have h1' : inK .i64 c.k.t := i32_i64 h1
  have := numsB_len (l := [c.k.t, c.k.r, c.v, c.s]) (ok4 h1' h2 h3 h4)
  simpa [cellB] using this
theorem cells_len : ∀ {l : List Cell}, (∀ c ∈ l, fCell.ok c) → (l.flatMap cellB).length ≤ 36 * l.length
  | [], _ => by simp
  | c :: l, h => by
    have h1 := cellB_len (h c (by simp))
    have h2 := cells_len (l := l) fun x hx => h x (by simp [hx])
    simp only [List.flatMap_cons, List.length_append, List.length_cons]
    omega
set_option maxHeartbeats 2000000 in
theorem bytes_s {h : DHeap} {n : Int} {cv rv : Value} {cells : List Cell} {rows : List Row} (hn : inK .i64 n) (hc : Arg fCell.rep h cv cells) (hr : Arg rRow h rv rows) (hlc : cells.length ≤ 16777216) (hlr : rows.length ≤ 16777216) :
    Ct Try.prog 14 [stateV n cv rv] h fun r h1 => ∃ v, r = .ret (.tuple #[v, .int .i64 (bytesE ⟨n, cells, rows⟩)]) ∧ Ext h h1 ∧ Sl fU8.rep (fun i => h.next ≤ i ∧ i < h1.next) h1 v (bytesL ⟨n, cells, rows⟩) := by
  refine go_14 (by simp) ?_
  have c1 := hc.cells1
  have r1 := hr.cells1
  obtain ⟨H0, hH0⟩ : ∃ H, H = h.push (.row [.int .i64 n, cv, rv] 0 false) := ⟨_, rfl⟩
  have hE0 : Ext h H0 := by rw [hH0]; exact Ext.push1 _ _
  have hB0 : H0.get h.next = some (.row [.int .i64 n, cv, rv] 0 false) := by rw [hH0]; exact get_push_same _ _
  have hN0 : h.next < H0.next := by rw [hH0, next_push]; omega
  have er := hr.lens (P := Try.prog) (ts := #[24]) (t := 24) rfl isl_24
  have ec := hc.lens (P := Try.prog) (ts := #[23]) (t := 23) rfl isl_23
  have hl3 : cellsAt H0 h.next 0 3 = some (stateV n cv rv) := by rw [cellsAt_row hB0 (Nat.le_of_ble_eq_true rfl)]; rfl
  have hc0 := hc.ext hE0
  have hr0 := hr.ext hE0
  simp -implicitDefEqProofs (disch := first | omega | (simp -implicitDefEqProofs only [go_sem, List.size_toArray, List.length_cons, List.length_nil, Nat.reduceAdd]; done)) only [go_sem, Int.reduceLT, Int.reduceLE, Int.reduceEq, reduceIte, true_and, Nat.zero_add, Nat.add_zero, Option.map_some, c14, ← hH0, hl3]
  refine ncall (check_c hn hc0 hr0 (by omega) (by omega)) ?_
  unfold checkE
  cases hm : mayB ⟨n, cells, rows⟩ with
  | false =>
    simp -implicitDefEqProofs (disch := first | omega | (simp -implicitDefEqProofs only [go_sem, List.size_toArray, List.length_cons, List.length_nil, Nat.reduceAdd]; done)) only [go_sem, Int.reduceLT, Int.reduceLE, Int.reduceEq, reduceIte, true_and, Nat.zero_add, Nat.add_zero, Option.map_some]
    refine ⟨_, rfl, .slice none 0 0, ?_, hE0, ?_⟩
    · simp [bytesE, hm]
    · simp only [bytesL, hm]; exact .nil _ _ _
  | true =>
    obtain ⟨m1, m2, m3, m4⟩ := may_iff.1 hm
    have m2' : rows.length ≤ 64 := m2
    have B0 : cellAt H0 h.next 0 = some (.int .i64 n) := cellAt_row hB0
    simp -implicitDefEqProofs (disch := first | omega | (simp -implicitDefEqProofs only [go_sem, List.size_toArray, List.length_cons, List.length_nil, Nat.reduceAdd]; done)) only [go_sem, Int.reduceLT, Int.reduceLE, Int.reduceEq, reduceIte, true_and, Nat.zero_add, Nat.add_zero, Option.map_some, bd_writer]
    obtain ⟨K0, hK0⟩ : ∃ K, K = H0.push (.row [.slice none 0 0] 0 false) := ⟨_, rfl⟩
    have W0 : WrSt H0 H0.next [] K0 := by
      rw [hK0]
      exact ⟨Ext.push1 _ _, by rw [next_push]; omega, Nat.le_refl _, _, get_push_same _ _, .nil _ _ _⟩
    have D0 : cellAt K0 h.next 0 = some (.int .i64 n) := cellAt_row ((W0.ext.get _ hN0).trans hB0)
    have D1 : cellAt K0 h.next 1 = some cv := cellAt_row ((W0.ext.get _ hN0).trans hB0)
    have hcn : inK .i64 (cells.length : Int) := inK_i64.2 ⟨by omega, by omega⟩
    simp -implicitDefEqProofs (disch := first | omega | (simp -implicitDefEqProofs only [go_sem, List.size_toArray, List.length_cons, List.length_nil, Nat.reduceAdd]; done)) only [go_sem, Int.reduceLT, Int.reduceLE, Int.reduceEq, reduceIte, true_and, Nat.zero_add, Nat.add_zero, Option.map_some, ← hK0, D0, D1, ec, bs2]
    refine ncall_ct (W0.put2 (ok2 hn hcn) (by simp)) ?_
    rintro r K1 ⟨rfl, W1, _, _⟩
    have E1 : cellAt K1 h.next 1 = some cv := cellAt_row ((W1.ext.get _ hN0).trans hB0)
    simp -implicitDefEqProofs (disch := first | omega | (simp -implicitDefEqProofs only [go_sem, List.size_toArray, List.length_cons, List.length_nil, Nat.reduceAdd]; done)) only [go_sem, Int.reduceLT, Int.reduceLE, Int.reduceEq, reduceIte, true_and, Nat.zero_add, Nat.add_zero, Option.map_some, XEnd, E1, ec]
    have hcok : ∀ c ∈ cells, fCell.ok c := hc.ok
    have hpre : (numsB [n, (cells.length : Int)]).length ≤ 18 := by have := numsB_len (l := [n, (cells.length : Int)]) (ok2 hn hcn); simpa using this
    refine xloop (σ := Nat) (by kernel_rfl) (fun i s => s.df = [] ∧ s.fr 1 = some (.pointer (some ⟨h.next, 0, none⟩)) ∧ s.fr 5 = some (.pointer (some ⟨H0.next, 0, none⟩)) ∧ s.fr 26 = some cv ∧ s.fr 27 = some (.int .i64 (cells.length : Nat)) ∧ s.fr 28 = some (.int .i64 (i : Nat)) ∧ i ≤ cells.length ∧
      WrSt H0 H0.next (numsB [n, (cells.length : Int)] ++ (cells.take i).flatMap cellB) s.h) (fun i => cells.length - i) 0 ?_ ?_
    · simp -implicitDefEqProofs (disch := first | omega | (simp -implicitDefEqProofs only [go_sem, List.size_toArray, List.length_cons, List.length_nil, Nat.reduceAdd]; done)) only [go_sem, Int.reduceLT, Int.reduceLE, Int.reduceEq, reduceIte, true_and, Nat.zero_add, Nat.add_zero, Option.map_some]
      refine ⟨rfl, Nat.zero_le _, ?_⟩
      simpa using W1
    · rintro i ⟨fr, df, hh, rd⟩ K' hK' hX ⟨rfl, f1, f5, f26, f27, f28, hi, W⟩
      simp only at f1 f5 f26 f27 f28 W
      simp -implicitDefEqProofs (disch := first | omega | (simp -implicitDefEqProofs only [go_sem, List.size_toArray, List.length_cons, List.length_nil, Nat.reduceAdd]; done)) only [go_sem, Int.reduceLT, Int.reduceLE, Int.reduceEq, reduceIte, true_and, Nat.zero_add, Nat.add_zero, Option.map_some, f26, f27, f28]
      refine XIf_dec (fun hc1 => ?_) (fun hc1 => ?_)
      · have hj : i < cells.length := by omega
        obtain ⟨id1, o1, g1, _, hat1⟩ := (hc0.ext W.ext).idx (P := Try.prog) (t := 23) el_23 (k := .i64) (i := i) (x := cells[i]) (by simp)
        have l1 : cellsAt hh id1 o1 4 = some (cellV cells[i]) := hat1.flat.2.1
        have hw := wrap_succ hj (by omega)
        obtain ⟨⟨k1, k2⟩, k3, k4⟩ := hcok _ (List.getElem_mem hj)
        have k1' : inK .i64 cells[i].k.t := i32_i64 k1
        have hwt : IntKind.i64.wrap cells[i].k.t = cells[i].k.t := wrap_in k1'
        have hst : [Value.int .i32 cells[i].k.t, .int .i64 cells[i].k.r, .int .i64 cells[i].v, .int .i64 cells[i].s].all Value.oneCell' = true := rfl
        have hbl : (numsB [n, (cells.length : Int)] ++ (cells.take i).flatMap cellB).length ≤ 1073741000 := by
          have := cells_len (l := cells.take i) fun c hcm => hcok c (List.mem_of_mem_take hcm)
          rw [List.length_append]
          simp only [List.length_take] at this
          omega
        have Wc := W.on (Ext.push1 hh (.row [Value.int .i32 cells[i].k.t, .int .i64 cells[i].k.r, .int .i64 cells[i].v, .int .i64 cells[i].s] 0 false))
        simp -implicitDefEqProofs (disch := first | omega | (simp -implicitDefEqProofs only [go_sem, List.size_toArray, List.length_cons, List.length_nil, Nat.reduceAdd]; done)) only [go_sem, Int.reduceLT, Int.reduceLE, Int.reduceEq, reduceIte, true_and, Nat.zero_add, Nat.add_zero, Option.map_some, f5, f26, f28, g1, l1, store4_push hst, cellAt_p0, hwt, bs4]
        refine ncall_ct (Wc.put4 (ok4 k1' k2 k3 k4) hbl) ?_
        rintro r K2 ⟨rfl, W2, _, _⟩
        simp -implicitDefEqProofs (disch := first | omega | (simp -implicitDefEqProofs only [go_sem, List.size_toArray, List.length_cons, List.length_nil, Nat.reduceAdd]; done)) only [go_sem, Int.reduceLT, Int.reduceLE, Int.reduceEq, reduceIte, true_and, Nat.zero_add, Nat.add_zero, Option.map_some, XEnd, f28, hw]
        refine hK' (i + 1) _ ?_ (by omega)
        refine ⟨by trivial, by simp -implicitDefEqProofs (disch := first | omega | (simp -implicitDefEqProofs only [go_sem, List.size_toArray, List.length_cons, List.length_nil, Nat.reduceAdd]; done)) only [go_sem, Int.reduceLT, Int.reduceLE, Int.reduceEq, reduceIte, true_and, Nat.zero_add, Nat.add_zero, Option.map_some, f1], by simp -implicitDefEqProofs (disch := first | omega | (simp -implicitDefEqProofs only [go_sem, List.size_toArray, List.length_cons, List.length_nil, Nat.reduceAdd]; done)) only [go_sem, Int.reduceLT, Int.reduceLE, Int.reduceEq, reduceIte, true_and, Nat.zero_add, Nat.add_zero, Option.map_some, f5], by simp -implicitDefEqProofs (disch := first | omega | (simp -implicitDefEqProofs only [go_sem, List.size_toArray, List.length_cons, List.length_nil, Nat.reduceAdd]; done)) only [go_sem, Int.reduceLT, Int.reduceLE, Int.reduceEq, reduceIte, true_and, Nat.zero_add, Nat.add_zero, Option.map_some, f26], by simp -implicitDefEqProofs (disch := first | omega | (simp -implicitDefEqProofs only [go_sem, List.size_toArray, List.length_cons, List.length_nil, Nat.reduceAdd]; done)) only [go_sem, Int.reduceLT, Int.reduceLE, Int.reduceEq, reduceIte, true_and, Nat.zero_add, Nat.add_zero, Option.map_some, f27], by simp -implicitDefEqProofs (disch := first | omega | (simp -implicitDefEqProofs only [go_sem, List.size_toArray, List.length_cons, List.length_nil, Nat.reduceAdd]; done)) only [go_sem, Int.reduceLT, Int.reduceLE, Int.reduceEq, reduceIte, true_and, Nat.zero_add, Nat.add_zero, Option.map_some], by omega, ?_⟩
        rw [take_snoc (get_of_lt hj), List.flatMap_append]
        have : [cells[i]].flatMap cellB = numsB [cells[i].k.t, cells[i].k.r, cells[i].v, cells[i].s] := by simp [cellB]
        rw [this, ← List.append_assoc]
        exact W2
      · obtain rfl : i = cells.length := by omega
        rw [List.take_length] at W
        refine hX _ _ (by simp) ?_
        clear hK' hX
        have hrn : inK .i64 (rows.length : Int) := inK_i64.2 ⟨by omega, by omega⟩
        have E2 : cellAt hh h.next 2 = some rv := cellAt_row ((W.ext.get _ hN0).trans hB0)
        have hbl : (numsB [n, (cells.length : Int)] ++ cells.flatMap cellB).length ≤ 603979800 := by
          have := cells_len (l := cells) hcok
          rw [List.length_append]
          omega
        simp -implicitDefEqProofs (disch := first | omega | (simp -implicitDefEqProofs only [go_sem, List.size_toArray, List.length_cons, List.length_nil, Nat.reduceAdd]; done)) only [go_sem, Int.reduceLT, Int.reduceLE, Int.reduceEq, reduceIte, true_and, Nat.zero_add, Nat.add_zero, Option.map_some, f1, f5, E2, er, bs1]
        refine ncall_ct (W.put1 (ok1 hrn) (by omega)) ?_
        rintro r K2 ⟨rfl, W2, _, _⟩
        obtain ⟨pre, hpr⟩ : ∃ p, p = numsB [n, (cells.length : Int)] ++ cells.flatMap cellB ++ numsB [(rows.length : Int)] := ⟨_, rfl⟩
        rw [← hpr] at W2
        have hpl : pre.length ≤ 604000000 := by
          have := numsB_len (l := [(rows.length : Int)]) (ok1 hrn)
          rw [hpr, List.length_append]
          simp only [List.length_cons, List.length_nil] at this
          omega
        have hpn : pre ≠ [] := by rw [hpr]; exact numsB_ne
        have F2 : cellAt K2 h.next 2 = some rv := cellAt_row ((W2.ext.get _ hN0).trans hB0)
        simp -implicitDefEqProofs (disch := first | omega | (simp -implicitDefEqProofs only [go_sem, List.size_toArray, List.length_cons, List.length_nil, Nat.reduceAdd]; done)) only [go_sem, Int.reduceLT, Int.reduceLE, Int.reduceEq, reduceIte, true_and, Nat.zero_add, Nat.add_zero, Option.map_some, XEnd, f1, F2, er]
        refine xloop (σ := Nat) (by kernel_rfl) (fun i s => s.df = [] ∧ s.fr 1 = some (.pointer (some ⟨h.next, 0, none⟩)) ∧ s.fr 5 = some (.pointer (some ⟨H0.next, 0, none⟩)) ∧ s.fr 54 = some rv ∧ s.fr 55 = some (.int .i64 (rows.length : Nat)) ∧ s.fr 56 = some (.int .i64 (i : Nat)) ∧ i ≤ rows.length ∧
          ((rows.take i).flatMap rowB).length ≤ 126 * i ∧ WrSt H0 H0.next (pre ++ (rows.take i).flatMap rowB) s.h) (fun i => rows.length - i) 0 ?_ ?_
        · simp -implicitDefEqProofs (disch := first | omega | (simp -implicitDefEqProofs only [go_sem, List.size_toArray, List.length_cons, List.length_nil, Nat.reduceAdd]; done)) only [go_sem, Int.reduceLT, Int.reduceLE, Int.reduceEq, reduceIte, true_and, Nat.zero_add, Nat.add_zero, Option.map_some, f1, f5]
          refine ⟨rfl, Nat.zero_le _, by simp, ?_⟩
          simpa using W2
        · rintro i ⟨fr, df, hh, rd⟩ K' hK' hX ⟨rfl, f1, f5, f54, f55, f56, hi, hlb, W⟩
          simp only at f1 f5 f54 f55 f56 W
          simp -implicitDefEqProofs (disch := first | omega | (simp -implicitDefEqProofs only [go_sem, List.size_toArray, List.length_cons, List.length_nil, Nat.reduceAdd]; done)) only [go_sem, Int.reduceLT, Int.reduceLE, Int.reduceEq, reduceIte, true_and, Nat.zero_add, Nat.add_zero, Option.map_some, f54, f55, f56]
          refine XIf_dec (fun hc1 => ?_) (fun hc1 => ?_)
          · have hj : i < rows.length := by omega
            have hrB : Sl rRow (fun i => i < h.next) hh rv rows := hr.mono fun i hi => ⟨hi, (hE0.trans W.ext).get i hi⟩
            obtain ⟨id1, o1, g1, _, hat1⟩ := hrB.idx (P := Try.prog) (t := 24) el_24 (k := .i64) (i := i) (x := rows[i]) (by simp)
            obtain ⟨v1, l1, s1, k1⟩ := row_at hat1
            have hw := wrap_succ hj (by omega)
            have hv8 : rows[i].x.vs.length ≤ 8 := (mayRow_iff.1 ((m4 i hj) _ (get_of_lt hj)).1).2.2.2.1
            have hst := rRow.one (rd_row s1 k1)
            have ev := s1.lens (P := Try.prog) (ts := #[51]) (t := 51) rfl isl_51
            have hvn : inK .i64 (rows[i].x.vs.length : Int) := inK_i64.2 ⟨by omega, by omega⟩
            have q1 := numsB_len (l := [rows[i].ses, rows[i].req, rows[i].x.e, (rows[i].x.vs.length : Int)]) (ok4 k1.ses k1.req k1.e hvn)
            have q2 := numsB_len (l := rows[i].x.vs) (fun y hy => s1.ok y hy)
            have q3 := numsB_len (l := [rows[i].x.s, rows[i].x.p]) (ok2 k1.s k1.p)
            simp only [List.length_cons, List.length_nil] at q1 q3
            have hNh : h.next < hh.next := Nat.lt_of_lt_of_le hN0 W.ext.next
            obtain ⟨Hc, hHc⟩ : ∃ Hc, Hc = hh.push (.row [Value.int .i64 rows[i].ses, .int .i64 rows[i].req, .int .i64 rows[i].x.e, v1, .int .i64 rows[i].x.s, .int .i64 rows[i].x.p] 0 false) := ⟨_, rfl⟩
            have hHcn : Hc.next = hh.next + 1 := by rw [hHc]; rfl
            have hbox : Hc.get hh.next = some (.row [Value.int .i64 rows[i].ses, .int .i64 rows[i].req, .int .i64 rows[i].x.e, v1, .int .i64 rows[i].x.s, .int .i64 rows[i].x.p] 0 false) := by rw [hHc]; exact get_push_same _ _
            have Wc : WrSt H0 H0.next (pre ++ (rows.take i).flatMap rowB) Hc := by rw [hHc]; exact W.on (Ext.push1 _ _)
            have hWlt := W.lt
            have hl0 : (pre ++ (rows.take i).flatMap rowB).length ≤ 604000000 + 126 * i := by rw [List.length_append]; omega
            have G0 : cellAt Hc hh.next 0 = some (.int .i64 rows[i].ses) := cellAt_row hbox
            have G1 : cellAt Hc hh.next 1 = some (.int .i64 rows[i].req) := cellAt_row hbox
            have G2 : cellAt Hc hh.next 2 = some (.int .i64 rows[i].x.e) := cellAt_row hbox
            have G3 : cellAt Hc hh.next 3 = some v1 := cellAt_row hbox
            simp -implicitDefEqProofs (disch := first | omega | (simp -implicitDefEqProofs only [go_sem, List.size_toArray, List.length_cons, List.length_nil, Nat.reduceAdd]; done)) only [go_sem, Int.reduceLT, Int.reduceLE, Int.reduceEq, reduceIte, true_and, Nat.zero_add, Nat.add_zero, Option.map_some, f5, f54, f56, g1, l1, store6_push hst, ← hHc]
            simp -implicitDefEqProofs (disch := first | omega | (simp -implicitDefEqProofs only [go_sem, List.size_toArray, List.length_cons, List.length_nil, Nat.reduceAdd]; done)) only [go_sem, Int.reduceLT, Int.reduceLE, Int.reduceEq, reduceIte, true_and, Nat.zero_add, Nat.add_zero, Option.map_some, f5, G0, G1, G2, G3, ev, bs4, Nat.reduceAdd]
            refine ncall_ct (Wc.put4 (ok4 k1.ses k1.req k1.e hvn) (by omega)) ?_
            rintro r K3 ⟨rfl, W3, n3, u3⟩
            have hbox3 := (u3 hh.next (by omega) (by omega)).trans hbox
            have G33 : cellAt K3 hh.next 3 = some v1 := cellAt_row hbox3
            have ha3 : Arg fI64.rep K3 v1 rows[i].x.vs := s1.mono fun j hjj => ⟨by omega, (u3 j (by omega) (by omega)).trans (by rw [hHc, get_push_other _ _ (by omega)])⟩
            simp -implicitDefEqProofs (disch := first | omega | (simp -implicitDefEqProofs only [go_sem, List.size_toArray, List.length_cons, List.length_nil, Nat.reduceAdd]; done)) only [go_sem, Int.reduceLT, Int.reduceLE, Int.reduceEq, reduceIte, true_and, Nat.zero_add, Nat.add_zero, Option.map_some, XEnd, f5, G33, Nat.reduceAdd]
            refine ncall_ct (W3.put ha3 (by rw [List.length_append]; omega) (by simp [hpn])) ?_
            rintro r K4 ⟨rfl, W4, n4, u4⟩
            have hbox4 := (u4 hh.next (by omega) (by omega)).trans hbox3
            have G44 : cellAt K4 hh.next 4 = some (.int .i64 rows[i].x.s) := cellAt_row hbox4
            have G45 : cellAt K4 hh.next 5 = some (.int .i64 rows[i].x.p) := cellAt_row hbox4
            simp -implicitDefEqProofs (disch := first | omega | (simp -implicitDefEqProofs only [go_sem, List.size_toArray, List.length_cons, List.length_nil, Nat.reduceAdd]; done)) only [go_sem, Int.reduceLT, Int.reduceLE, Int.reduceEq, reduceIte, true_and, Nat.zero_add, Nat.add_zero, Option.map_some, XEnd, f5, G44, G45, bs2, Nat.reduceAdd]
            refine ncall_ct (W4.put2 (ok2 k1.s k1.p) (by rw [List.length_append, List.length_append]; omega)) ?_
            rintro r K5 ⟨rfl, W5, n5, u5⟩
            simp -implicitDefEqProofs (disch := first | omega | (simp -implicitDefEqProofs only [go_sem, List.size_toArray, List.length_cons, List.length_nil, Nat.reduceAdd]; done)) only [go_sem, Int.reduceLT, Int.reduceLE, Int.reduceEq, reduceIte, true_and, Nat.zero_add, Nat.add_zero, Option.map_some, XEnd, f56, hw]
            refine hK' (i + 1) _ ?_ (by omega)
            have hrb : [rows[i]].flatMap rowB = numsB [rows[i].ses, rows[i].req, rows[i].x.e, (rows[i].x.vs.length : Int)] ++ (numsB rows[i].x.vs ++ numsB [rows[i].x.s, rows[i].x.p]) := by simp [rowB]
            refine ⟨by trivial, by simp -implicitDefEqProofs (disch := first | omega | (simp -implicitDefEqProofs only [go_sem, List.size_toArray, List.length_cons, List.length_nil, Nat.reduceAdd]; done)) only [go_sem, Int.reduceLT, Int.reduceLE, Int.reduceEq, reduceIte, true_and, Nat.zero_add, Nat.add_zero, Option.map_some, f1], by simp -implicitDefEqProofs (disch := first | omega | (simp -implicitDefEqProofs only [go_sem, List.size_toArray, List.length_cons, List.length_nil, Nat.reduceAdd]; done)) only [go_sem, Int.reduceLT, Int.reduceLE, Int.reduceEq, reduceIte, true_and, Nat.zero_add, Nat.add_zero, Option.map_some, f5], by simp -implicitDefEqProofs (disch := first | omega | (simp -implicitDefEqProofs only [go_sem, List.size_toArray, List.length_cons, List.length_nil, Nat.reduceAdd]; done)) only [go_sem, Int.reduceLT, Int.reduceLE, Int.reduceEq, reduceIte, true_and, Nat.zero_add, Nat.add_zero, Option.map_some, f54], by simp -implicitDefEqProofs (disch := first | omega | (simp -implicitDefEqProofs only [go_sem, List.size_toArray, List.length_cons, List.length_nil, Nat.reduceAdd]; done)) only [go_sem, Int.reduceLT, Int.reduceLE, Int.reduceEq, reduceIte, true_and, Nat.zero_add, Nat.add_zero, Option.map_some, f55], by simp -implicitDefEqProofs (disch := first | omega | (simp -implicitDefEqProofs only [go_sem, List.size_toArray, List.length_cons, List.length_nil, Nat.reduceAdd]; done)) only [go_sem, Int.reduceLT, Int.reduceLE, Int.reduceEq, reduceIte, true_and, Nat.zero_add, Nat.add_zero, Option.map_some], by omega, ?_, ?_⟩
            · rw [take_snoc (get_of_lt hj), List.flatMap_append, hrb, List.length_append, List.length_append, List.length_append]
              omega
            · rw [take_snoc (get_of_lt hj), List.flatMap_append, hrb]
              simp only [List.append_assoc] at W5 ⊢
              exact W5
          · obtain rfl : i = rows.length := by omega
            rw [List.take_length] at W
            refine hX _ _ (by simp) ?_
            obtain ⟨b, hb1, hb2⟩ := W.row
            have hsb : pre ++ rows.flatMap rowB = stateB ⟨n, cells, rows⟩ := by rw [hpr]; simp only [stateB, List.append_assoc]
            rw [hsb] at hb2
            have C0 : cellAt hh H0.next 0 = some b := cellAt_row hb1
            have eb := hb2.lens (P := Try.prog) (ts := #[22]) (t := 22) rfl isl_22
            have hEh : Ext h hh := hE0.trans W.ext
            by_cases hbig : 1048576 < (stateB ⟨n, cells, rows⟩).length
            · have hbi : (((stateB ⟨n, cells, rows⟩).length : Nat) : Int) > 1048576 := by omega
              simp -implicitDefEqProofs (disch := first | omega | (simp -implicitDefEqProofs only [go_sem, List.size_toArray, List.length_cons, List.length_nil, Nat.reduceAdd]; done)) only [go_sem, Int.reduceLT, Int.reduceLE, Int.reduceEq, reduceIte, true_and, Nat.zero_add, Nat.add_zero, Option.map_some, f5, C0, eb, hbi]
              refine ⟨_, rfl, .slice none 0 0, ?_, hEh, ?_⟩
              · simp [bytesE, hm, hbig]
              · simp only [bytesL, hm, if_true, hbig]; exact .nil _ _ _
            · have hbi : ¬ (((stateB ⟨n, cells, rows⟩).length : Nat) : Int) > 1048576 := by omega
              simp -implicitDefEqProofs (disch := first | omega | (simp -implicitDefEqProofs only [go_sem, List.size_toArray, List.length_cons, List.length_nil, Nat.reduceAdd]; done)) only [go_sem, Int.reduceLT, Int.reduceLE, Int.reduceEq, reduceIte, true_and, Nat.zero_add, Nat.add_zero, Option.map_some, f5, C0, eb, hbi]
              refine ⟨_, rfl, b, ?_, hEh, ?_⟩
              · simp [bytesE, hm, hbig]
              · simp only [bytesL, hm, if_true, if_neg hbig]; have hEn0 := hE0.next
                exact hb2.mono fun i hi => ⟨⟨by omega, hi.2.1⟩, rfl⟩
theorem bytes_c {h : DHeap} {n : Int} {cv rv : Value} {cells : List Cell} {rows : List Row} (hn : inK .i64 n) (hc : Arg fCell.rep h cv cells) (hr : Arg rRow h rv rows) (hlc : cells.length ≤ 16777216) (hlr : rows.length ≤ 16777216) :
    Ct Try.prog 14 [stateV n cv rv] h fun r h1 => ∃ v, r = .ret (.tuple #[v, .int .i64 (bytesE ⟨n, cells, rows⟩)]) ∧ Ext h h1 ∧ Arg fU8.rep h1 v (bytesL ⟨n, cells, rows⟩) :=
  (bytes_s hn hc hr hlc hlr).mono fun r h1 ⟨v, e, x, a⟩ => ⟨v, e, x, a.mono fun i hi => ⟨hi.2, rfl⟩⟩
end Go.Proofs.Ytlhgijpdhniddaa

namespace Go.Proofs.Ytlhgijpdhniddaa
open Go.D
set_option maxRecDepth 100000

def digL (l : List Int) : Int := l.foldl (fun x c => hashI ⟨IntKind.i32.wrap c, IntKind.i64.wrap x⟩) 0
def digE (x : State) : Int := if bytesE x = 0 then digL (bytesL x) else 0
theorem digest_c {h : DHeap} {n : Int} {cv rv : Value} {cells : List Cell} {rows : List Row} (hn : inK .i64 n) (hc : Arg fCell.rep h cv cells) (hr : Arg rRow h rv rows) (hlc : cells.length ≤ 16777216) (hlr : rows.length ≤ 16777216) :
    DC Try.prog 16 [stateV n cv rv] h (.ret (.int .u64 (digE ⟨n, cells, rows⟩))) h := by
  refine Ct.pure (go_16 (by simp) ?_) (vin_int _ _)
  have c1 := hc.cells1
  have r1 := hr.cells1
  obtain ⟨H0, hH0⟩ : ∃ H, H = h.push (.row [.int .i64 n, cv, rv] 0 false) := ⟨_, rfl⟩
  have hE0 : Ext h H0 := by rw [hH0]; exact Ext.push1 _ _
  have hB0 : H0.get h.next = some (.row [.int .i64 n, cv, rv] 0 false) := by rw [hH0]; exact get_push_same _ _
  have hl3 : cellsAt H0 h.next 0 3 = some (stateV n cv rv) := by rw [cellsAt_row hB0 (Nat.le_of_ble_eq_true rfl)]; rfl
  simp -implicitDefEqProofs (disch := first | omega | (simp -implicitDefEqProofs only [go_sem, List.size_toArray, List.length_cons, List.length_nil, Nat.reduceAdd]; done)) only [go_sem, Int.reduceLT, Int.reduceLE, Int.reduceEq, reduceIte, true_and, Nat.zero_add, Nat.add_zero, Option.map_some, c16, ← hH0, hl3]
  refine ncall_ct (bytes_c hn (hc.ext hE0) (hr.ext hE0) hlc hlr) ?_
  rintro r h1 ⟨v, rfl, hE, ha⟩
  unfold digE
  by_cases h0 : bytesE ⟨n, cells, rows⟩ = 0
  case neg =>
    simp -implicitDefEqProofs (disch := first | omega | (simp -implicitDefEqProofs only [go_sem, List.size_toArray, List.length_cons, List.length_nil, Nat.reduceAdd]; done)) only [go_sem, Int.reduceLT, Int.reduceLE, Int.reduceEq, reduceIte, true_and, Nat.zero_add, Nat.add_zero, Option.map_some, XEnd, h0]
    exact ⟨_, rfl, rfl, hE0.trans hE⟩
  obtain ⟨l, hl⟩ : ∃ l, bytesL ⟨n, cells, rows⟩ = l := ⟨_, rfl⟩
  have hll : l.length ≤ 1048576 := by
    rw [← hl]
    unfold bytesL
    split
    · split
      · exact Nat.zero_le _
      · omega
    · exact Nat.zero_le _
  rw [hl] at ha ⊢
  have ev := ha.lens (P := Try.prog) (ts := #[22]) (t := 22) rfl isl_22
  simp -implicitDefEqProofs (disch := first | omega | (simp -implicitDefEqProofs only [go_sem, List.size_toArray, List.length_cons, List.length_nil, Nat.reduceAdd]; done)) only [go_sem, Int.reduceLT, Int.reduceLE, Int.reduceEq, reduceIte, true_and, Nat.zero_add, Nat.add_zero, Option.map_some, XEnd, h0, ev]
  refine xloop (σ := Nat) (by kernel_rfl) (fun i s => s.df = [] ∧ s.h = h1 ∧ s.fr 15 = some v ∧ s.fr 16 = some (.int .i64 (l.length : Nat)) ∧ s.fr 17 = some (.int .i64 (i : Nat)) ∧ i ≤ l.length ∧ s.fr 5 = some (.int .u64 (digL (l.take i)))) (fun i => l.length - i) 0 ?_ ?_
  · simp -implicitDefEqProofs (disch := first | omega | (simp -implicitDefEqProofs only [go_sem, List.size_toArray, List.length_cons, List.length_nil, Nat.reduceAdd]; done)) only [go_sem, Int.reduceLT, Int.reduceLE, Int.reduceEq, reduceIte, true_and, Nat.zero_add, Nat.add_zero, Option.map_some]
    exact ⟨rfl, Nat.zero_le _, by simp [digL]⟩
  · rintro i ⟨fr, df, hh, rd⟩ K' hK' hX ⟨rfl, rfl, f15, f16, f17, hi, f5⟩
    simp only at f15 f16 f17 f5
    simp -implicitDefEqProofs (disch := first | omega | (simp -implicitDefEqProofs only [go_sem, List.size_toArray, List.length_cons, List.length_nil, Nat.reduceAdd]; done)) only [go_sem, Int.reduceLT, Int.reduceLE, Int.reduceEq, reduceIte, true_and, Nat.zero_add, Nat.add_zero, Option.map_some, f15, f16, f17]
    refine XIf_dec (fun hc1 => ?_) (fun hc1 => ?_)
    · have hj : i < l.length := by omega
      obtain ⟨id1, o1, e1, _, hat1⟩ := ha.idx (P := Try.prog) (t := 22) el_22 (k := .i64) (i := i) (x := l[i]) (by simp)
      have l1 := hat1.int
      have hw := wrap_succ hj (by omega)
      simp -implicitDefEqProofs (disch := first | omega | (simp -implicitDefEqProofs only [go_sem, List.size_toArray, List.length_cons, List.length_nil, Nat.reduceAdd]; done)) only [go_sem, Int.reduceLT, Int.reduceLE, Int.reduceEq, reduceIte, true_and, Nat.zero_add, Nat.add_zero, Option.map_some, f15, f17, f5, e1, l1, bd_key]
      refine ncall hash_c ?_
      simp -implicitDefEqProofs (disch := first | omega | (simp -implicitDefEqProofs only [go_sem, List.size_toArray, List.length_cons, List.length_nil, Nat.reduceAdd]; done)) only [go_sem, Int.reduceLT, Int.reduceLE, Int.reduceEq, reduceIte, true_and, Nat.zero_add, Nat.add_zero, Option.map_some, f17, hw]
      refine hK' (i + 1) _ ?_ (by omega)
      refine ⟨by trivial, by trivial, by simp -implicitDefEqProofs (disch := first | omega | (simp -implicitDefEqProofs only [go_sem, List.size_toArray, List.length_cons, List.length_nil, Nat.reduceAdd]; done)) only [go_sem, Int.reduceLT, Int.reduceLE, Int.reduceEq, reduceIte, true_and, Nat.zero_add, Nat.add_zero, Option.map_some, f15], by simp -implicitDefEqProofs (disch := first | omega | (simp -implicitDefEqProofs only [go_sem, List.size_toArray, List.length_cons, List.length_nil, Nat.reduceAdd]; done)) only [go_sem, Int.reduceLT, Int.reduceLE, Int.reduceEq, reduceIte, true_and, Nat.zero_add, Nat.add_zero, Option.map_some, f16], by simp -implicitDefEqProofs (disch := first | omega | (simp -implicitDefEqProofs only [go_sem, List.size_toArray, List.length_cons, List.length_nil, Nat.reduceAdd]; done)) only [go_sem, Int.reduceLT, Int.reduceLE, Int.reduceEq, reduceIte, true_and, Nat.zero_add, Nat.add_zero, Option.map_some], by omega, ?_⟩
      simp -implicitDefEqProofs (disch := first | omega | (simp -implicitDefEqProofs only [go_sem, List.size_toArray, List.length_cons, List.length_nil, Nat.reduceAdd]; done)) only [go_sem, Int.reduceLT, Int.reduceLE, Int.reduceEq, reduceIte, true_and, Nat.zero_add, Nat.add_zero, Option.map_some]
      have hsn : digL (l.take i ++ [l[i]]) = hashI ⟨IntKind.i32.wrap l[i], IntKind.i64.wrap (digL (l.take i))⟩ := by simp only [digL, List.foldl_append, List.foldl_cons, List.foldl_nil]
      rw [take_snoc (get_of_lt hj), hsn]
    · obtain rfl : i = l.length := by omega
      rw [List.take_length] at f5
      refine hX _ _ (by simp) ?_
      simp -implicitDefEqProofs (disch := first | omega | (simp -implicitDefEqProofs only [go_sem, List.size_toArray, List.length_cons, List.length_nil, Nat.reduceAdd]; done)) only [go_sem, Int.reduceLT, Int.reduceLE, Int.reduceEq, reduceIte, true_and, Nat.zero_add, Nat.add_zero, Option.map_some, f5]
      exact ⟨_, rfl, by simp, hE0.trans hE⟩
end Go.Proofs.Ytlhgijpdhniddaa

namespace Go.Proofs.Ytlhgijpdhniddaa
open Go.D
set_option maxRecDepth 100000

def strOf (l : List Int) : ByteArray := ⟨(l.map fun n => UInt8.ofNat n.toNat).toArray⟩
theorem bytesList_of : ∀ l : List Int, bytesList (l.map (Value.int .u8)) = some (l.map fun n => UInt8.ofNat n.toNat)
  | [] => rfl
  | n :: l => by simp only [List.map_cons, bytesList, bytesList_of l, Option.map_some]
theorem fU8_flat : ∀ l : List Int, l.flatMap fU8.enc = l.map (Value.int .u8)
  | [] => rfl
  | n :: l => by rw [List.flatMap_cons, fU8_flat l]; rfl
theorem conv_nil {h : DHeap} : dConvertO Try.prog 22 9 h (some (.slice none 0 0)) = .ok (.value (.string ⟨#[]⟩)) h := by kernel_rfl
theorem und_bytes : Try.prog.underlying 22 = some (.slice 5) := by kernel_rfl
theorem und_str : Try.prog.underlying 9 = some .string := by kernel_rfl
theorem und_u8 : Try.prog.underlying 5 = some (.int .u8) := by kernel_rfl
theorem conv_bytes {h : DHeap} {a : Value} {l : List Int} (ha : Arg fU8.rep h a l) : dConvertO Try.prog 22 9 h (some a) = .ok (.value (.string (strOf l))) h := by
  rcases ha with ⟨rfl, rfl⟩ | ⟨id, o, cap, cells, esz, ro, rfl, b, c, d, e, f⟩
  · exact conv_nil
  · obtain ⟨f1, _⟩ := Els.flat.1 f
    have hz : fU8.rep.z = 1 := rfl
    rw [hz, Nat.mul_one] at e f1
    rw [fU8_flat] at f1
    have hfl : flat3 (.slice (some ⟨id, o, none⟩) l.length cap) = false := rfl
    simp only [dConvertO, dConvert, hfl, Bool.false_eq_true, if_false, und_bytes, und_str, und_u8, c]
    rw [if_pos e, f1, bytesList_of]
    rfl
theorem strOf_inj : ∀ {l m : List Int}, (∀ x ∈ l, 0 ≤ x ∧ x ≤ 255) → (∀ x ∈ m, 0 ≤ x ∧ x ≤ 255) → (strOf l = strOf m ↔ l = m) := by
  intro l m hl hm
  refine ⟨fun h => ?_, fun h => by rw [h]⟩
  replace h : l.map (fun n => UInt8.ofNat n.toNat) = m.map (fun n => UInt8.ofNat n.toNat) := by
    have := congrArg (fun s : ByteArray => s.data.toList) h
    simpa [strOf] using this
  induction l generalizing m with
  | nil => cases m with
    | nil => rfl
    | cons y m => simp at h
  | cons x l ih => cases m with
    | nil => simp at h
    | cons y m =>
      simp only [List.map_cons, List.cons.injEq] at h
      have hx := hl x (by simp)
      have hy := hm y (by simp)
      have h1 := congrArg UInt8.toNat h.1
      simp only [UInt8.toNat_ofNat'] at h1
      have hxy : x = y := by omega
      rw [hxy, ih (fun z hz => hl z (by simp [hz])) (fun z hz => hm z (by simp [hz])) h.2]
theorem bin_str {h : DHeap} {ox oy : Operand} {a b : ByteArray} : dBinOp Try.prog .eql 9 ox oy (.string a) (.string b) h = .ok (.value (.bool (a.toList == b.toList))) h := by
  simp [dBinOp, flat3, flat2, flat1, dval, quick, eqGuard, binOp, Op.stringOp, Bind.bind, Pure.pure, Sem.bind]
theorem bytesEqual_c {h : DHeap} {a b : Value} {l m : List Int} (ha : Arg fU8.rep h a l) (hb : Arg fU8.rep h b m) :
    DC Try.prog 15 [a, b] h (.ret (.bool (decide (l = m)))) h := by
  refine Ct.pure (go_15 (by simp) ?_) (vin_bool _)
  simp -implicitDefEqProofs (disch := first | omega | (simp -implicitDefEqProofs only [go_sem, List.size_toArray, List.length_cons, List.length_nil, Nat.reduceAdd]; done)) only [go_sem, Int.reduceLT, Int.reduceLE, Int.reduceEq, reduceIte, true_and, Nat.zero_add, Nat.add_zero, Option.map_some, c15, conv_bytes ha, conv_bytes hb, bin_str]
  refine ⟨_, rfl, ?_, .refl h⟩
  have := strOf_inj (fun x hx => inK_u8.1 (ha.ok x hx)) (fun x hx => inK_u8.1 (hb.ok x hx))
  congr 2
  rw [Bool.eq_iff_iff, beq_iff_eq, decide_eq_true_iff, ← this, ByteArray.toList_eq, ByteArray.toList_eq]
  exact ⟨fun hh => ByteArray.ext (Array.toList_inj.1 hh), fun hh => by rw [hh]⟩
end Go.Proofs.Ytlhgijpdhniddaa

namespace Go.Proofs.Ytlhgijpdhniddaa
open Go.D
set_option maxRecDepth 100000

/-- numbers behind bytes, by the reference -/
theorem num_any {h : DHeap} {b v : Value} {lb ll : List Int} (hb : Arg fU8.rep h b lb) (hl : Arg fI64.rep h v ll) (hlen : lb.length + 9 * ll.length ≤ 1073741824) :
    Ct Try.prog 54 [b, v] h fun r h1 => ∃ u, r = .ret u ∧ Ext h h1 ∧ Arg fU8.rep h1 u (lb ++ numsB ll) := by
  have hok : ∀ x ∈ lb ++ numsB ll, fU8.ok x := fun x hx => by
    rcases List.mem_append.1 hx with hx | hx
    · exact hb.ok x hx
    · exact numsB_ok (fun y hy => hl.ok y hy) x hx
  exact (refnum_c hb hl hlen).ct ⟨_, rfl, lh_ext fU8 h _, (lh_made fU8 h hok).arg⟩
theorem num_built {h : DHeap} {b : Value} {lb ll : List Int} {cs : List Value} {k : Nat} (hb : Arg fU8.rep h b lb) (hk : ∀ x ∈ ll, fI64.ok x) (hc : cs = ll.flatMap fI64.enc) (hn : k = ll.length) (hlen : lb.length + 9 * ll.length ≤ 1073741824) :
    Ct Try.prog 54 [b, .slice (some ⟨h.next, 0, none⟩) k k] (h.push (.row cs 1 false)) fun r h1 => ∃ u, r = .ret u ∧ Ext h h1 ∧ Arg fU8.rep h1 u (lb ++ numsB ll) :=
  (num_any (hb.ext (Ext.push1 _ _)) (built fI64 h hc rfl hn hk) hlen).mono fun r h1 ⟨u, e1, e2, e3⟩ => ⟨u, e1, (Ext.push1 _ _).trans e2, e3⟩
end Go.Proofs.Ytlhgijpdhniddaa

namespace Go.Proofs.Ytlhgijpdhniddaa
open Go.D
set_option maxRecDepth 100000

set_option maxHeartbeats 2000000 in
theorem refBytes_c {h : DHeap} {n : Int} {cv rv : Value} {cells : List Cell} {rows : List Row} (hn : inK .i64 n) (hc : Arg fCell.rep h cv cells) (hr : Arg rRow h rv rows) (hlc : cells.length ≤ 16777216) (hlr : rows.length ≤ 16777216) :
    Ct Try.prog 21 [stateV n cv rv] h fun r h1 => ∃ v, r = .ret (.tuple #[v, .int .i64 (bytesE ⟨n, cells, rows⟩)]) ∧ Ext h h1 ∧ Arg fU8.rep h1 v (bytesL ⟨n, cells, rows⟩) := by
  refine go_21 (by simp) ?_
  have c1 := hc.cells1
  have r1 := hr.cells1
  obtain ⟨H0, hH0⟩ : ∃ H, H = h.push (.row [.int .i64 n, cv, rv] 0 false) := ⟨_, rfl⟩
  have hE0 : Ext h H0 := by rw [hH0]; exact Ext.push1 _ _
  have hB0 : H0.get h.next = some (.row [.int .i64 n, cv, rv] 0 false) := by rw [hH0]; exact get_push_same _ _
  have hN0 : h.next < H0.next := by rw [hH0, next_push]; omega
  have er := hr.lens (P := Try.prog) (ts := #[24]) (t := 24) rfl isl_24
  have ec := hc.lens (P := Try.prog) (ts := #[23]) (t := 23) rfl isl_23
  have hl3 : cellsAt H0 h.next 0 3 = some (stateV n cv rv) := by rw [cellsAt_row hB0 (Nat.le_of_ble_eq_true rfl)]; rfl
  have hc0 := hc.ext hE0
  have hr0 := hr.ext hE0
  simp -implicitDefEqProofs (disch := first | omega | (simp -implicitDefEqProofs only [go_sem, List.size_toArray, List.length_cons, List.length_nil, Nat.reduceAdd]; done)) only [go_sem, Int.reduceLT, Int.reduceLE, Int.reduceEq, reduceIte, true_and, Nat.zero_add, Nat.add_zero, Option.map_some, c21, ← hH0, hl3]
  refine ncall (may_c hc0 hr0 (by omega) (by omega)) ?_
  cases hm : mayB ⟨n, cells, rows⟩ with
  | false =>
    simp -implicitDefEqProofs (disch := first | omega | (simp -implicitDefEqProofs only [go_sem, List.size_toArray, List.length_cons, List.length_nil, Nat.reduceAdd]; done)) only [go_sem, Int.reduceLT, Int.reduceLE, Int.reduceEq, reduceIte, true_and, Nat.zero_add, Nat.add_zero, Option.map_some]
    refine ⟨_, rfl, .slice none 0 0, ?_, hE0, ?_⟩
    · simp [bytesE, hm]
    · simp only [bytesL, hm]; exact .nil _ _ _
  | true =>
    obtain ⟨m1, m2, m3, m4⟩ := may_iff.1 hm
    have m2' : rows.length ≤ 64 := m2
    have B0 : cellAt H0 h.next 0 = some (.int .i64 n) := cellAt_row hB0
    have B1 : cellAt H0 h.next 1 = some cv := cellAt_row hB0
    have hcn : inK .i64 (cells.length : Int) := inK_i64.2 ⟨by omega, by omega⟩
    simp -implicitDefEqProofs (disch := first | omega | (simp -implicitDefEqProofs only [go_sem, List.size_toArray, List.length_cons, List.length_nil, Nat.reduceAdd]; done)) only [go_sem, Int.reduceLT, Int.reduceLE, Int.reduceEq, reduceIte, true_and, Nat.zero_add, Nat.add_zero, Option.map_some, B0, B1, ec, bs2]
    refine ncall_ct (num_built (lb := []) (ll := [n, (cells.length : Int)]) (.nil _ _ _) (ok2 hn hcn) rfl rfl (Nat.le_of_ble_eq_true rfl)) ?_
    rintro r K1 ⟨u1, rfl, E1, A1⟩
    rw [List.nil_append] at A1
    simp -implicitDefEqProofs (disch := first | omega | (simp -implicitDefEqProofs only [go_sem, List.size_toArray, List.length_cons, List.length_nil, Nat.reduceAdd]; done)) only [go_sem, Int.reduceLT, Int.reduceLE, Int.reduceEq, reduceIte, true_and, Nat.zero_add, Nat.add_zero, Option.map_some, XEnd]
    have hcok : ∀ c ∈ cells, fCell.ok c := hc.ok
    have hpre : (numsB [n, (cells.length : Int)]).length ≤ 18 := by have := numsB_len (l := [n, (cells.length : Int)]) (ok2 hn hcn); simpa using this
    refine xloop (σ := Nat) (by kernel_rfl) (fun i s => s.df = [] ∧ s.fr 1 = some (.pointer (some ⟨h.next, 0, none⟩)) ∧ s.fr 5 = some (.int .i64 (i : Nat)) ∧ i ≤ cells.length ∧ Ext H0 s.h ∧
      ∃ u, s.fr 4 = some u ∧ Arg fU8.rep s.h u (numsB [n, (cells.length : Int)] ++ (cells.take i).flatMap cellB)) (fun i => cells.length - i) 0 ?_ ?_
    · simp -implicitDefEqProofs (disch := first | omega | (simp -implicitDefEqProofs only [go_sem, List.size_toArray, List.length_cons, List.length_nil, Nat.reduceAdd]; done)) only [go_sem, Int.reduceLT, Int.reduceLE, Int.reduceEq, reduceIte, true_and, Nat.zero_add, Nat.add_zero, Option.map_some]
      refine ⟨rfl, Nat.zero_le _, E1, u1, rfl, ?_⟩
      simpa using A1
    · rintro i ⟨fr, df, hh, rd⟩ K' hK' hX ⟨rfl, f1, f5, hi, hE, u, f4, A⟩
      simp only at f1 f5 hE f4 A
      have C1 : cellAt hh h.next 1 = some cv := cellAt_row ((hE.get _ hN0).trans hB0)
      simp -implicitDefEqProofs (disch := first | omega | (simp -implicitDefEqProofs only [go_sem, List.size_toArray, List.length_cons, List.length_nil, Nat.reduceAdd]; done)) only [go_sem, Int.reduceLT, Int.reduceLE, Int.reduceEq, reduceIte, true_and, Nat.zero_add, Nat.add_zero, Option.map_some, f1, f5, C1, ec]
      refine XIf_dec (fun hc1 => ?_) (fun hc1 => ?_)
      · have hj : i < cells.length := by omega
        obtain ⟨id1, o1, g1, _, hat1⟩ := (hc0.ext hE).idx (P := Try.prog) (t := 23) el_23 (k := .i64) (i := i) (x := cells[i]) (by simp)
        have l1 : cellsAt hh id1 o1 4 = some (cellV cells[i]) := hat1.flat.2.1
        have hw := wrap_succ hj (by omega)
        obtain ⟨⟨k1, k2⟩, k3, k4⟩ := hcok _ (List.getElem_mem hj)
        have k1' : inK .i64 cells[i].k.t := i32_i64 k1
        have hwt : IntKind.i64.wrap cells[i].k.t = cells[i].k.t := wrap_in k1'
        have hst : [Value.int .i32 cells[i].k.t, .int .i64 cells[i].k.r, .int .i64 cells[i].v, .int .i64 cells[i].s].all Value.oneCell' = true := rfl
        have hbl : (numsB [n, (cells.length : Int)] ++ (cells.take i).flatMap cellB).length ≤ 1073741000 := by
          have := cells_len (l := cells.take i) fun c hcm => hcok c (List.mem_of_mem_take hcm)
          rw [List.length_append]
          simp only [List.length_take] at this
          omega
        have Ac := A.ext (Ext.push1 hh (.row [Value.int .i32 cells[i].k.t, .int .i64 cells[i].k.r, .int .i64 cells[i].v, .int .i64 cells[i].s] 0 false))
        simp -implicitDefEqProofs (disch := first | omega | (simp -implicitDefEqProofs only [go_sem, List.size_toArray, List.length_cons, List.length_nil, Nat.reduceAdd]; done)) only [go_sem, Int.reduceLT, Int.reduceLE, Int.reduceEq, reduceIte, true_and, Nat.zero_add, Nat.add_zero, Option.map_some, f1, f4, f5, C1, g1, l1, store4_push hst, cellAt_p0, hwt, bs4]
        refine ncall_ct (num_built (ll := [cells[i].k.t, cells[i].k.r, cells[i].v, cells[i].s]) Ac (ok4 k1' k2 k3 k4) rfl rfl (by simp only [List.length_cons, List.length_nil]; omega)) ?_
        rintro r K2 ⟨u2, rfl, E2, A2⟩
        simp -implicitDefEqProofs (disch := first | omega | (simp -implicitDefEqProofs only [go_sem, List.size_toArray, List.length_cons, List.length_nil, Nat.reduceAdd]; done)) only [go_sem, Int.reduceLT, Int.reduceLE, Int.reduceEq, reduceIte, true_and, Nat.zero_add, Nat.add_zero, Option.map_some, XEnd, f5, hw]
        refine hK' (i + 1) _ ?_ (by omega)
        refine ⟨by trivial, by simp -implicitDefEqProofs (disch := first | omega | (simp -implicitDefEqProofs only [go_sem, List.size_toArray, List.length_cons, List.length_nil, Nat.reduceAdd]; done)) only [go_sem, Int.reduceLT, Int.reduceLE, Int.reduceEq, reduceIte, true_and, Nat.zero_add, Nat.add_zero, Option.map_some, f1], by simp -implicitDefEqProofs (disch := first | omega | (simp -implicitDefEqProofs only [go_sem, List.size_toArray, List.length_cons, List.length_nil, Nat.reduceAdd]; done)) only [go_sem, Int.reduceLT, Int.reduceLE, Int.reduceEq, reduceIte, true_and, Nat.zero_add, Nat.add_zero, Option.map_some], by omega, hE.trans ((Ext.push1 _ _).trans E2), u2, by simp -implicitDefEqProofs (disch := first | omega | (simp -implicitDefEqProofs only [go_sem, List.size_toArray, List.length_cons, List.length_nil, Nat.reduceAdd]; done)) only [go_sem, Int.reduceLT, Int.reduceLE, Int.reduceEq, reduceIte, true_and, Nat.zero_add, Nat.add_zero, Option.map_some], ?_⟩
        rw [take_snoc (get_of_lt hj), List.flatMap_append]
        have : [cells[i]].flatMap cellB = numsB [cells[i].k.t, cells[i].k.r, cells[i].v, cells[i].s] := by simp [cellB]
        rw [this, ← List.append_assoc]
        exact A2
      · obtain rfl : i = cells.length := by omega
        rw [List.take_length] at A
        refine hX _ _ (by simp) ?_
        clear hK' hX
        have hrn : inK .i64 (rows.length : Int) := inK_i64.2 ⟨by omega, by omega⟩
        have C2 : cellAt hh h.next 2 = some rv := cellAt_row ((hE.get _ hN0).trans hB0)
        have hbl : (numsB [n, (cells.length : Int)] ++ cells.flatMap cellB).length ≤ 603979800 := by
          have := cells_len (l := cells) hcok
          rw [List.length_append]
          omega
        simp -implicitDefEqProofs (disch := first | omega | (simp -implicitDefEqProofs only [go_sem, List.size_toArray, List.length_cons, List.length_nil, Nat.reduceAdd]; done)) only [go_sem, Int.reduceLT, Int.reduceLE, Int.reduceEq, reduceIte, true_and, Nat.zero_add, Nat.add_zero, Option.map_some, f1, f4, C2, er, bs1]
        refine ncall_ct (num_built (ll := [(rows.length : Int)]) A (ok1 hrn) rfl rfl (by simp only [List.length_cons, List.length_nil]; omega)) ?_
        rintro r K2 ⟨u2, rfl, E2, A2⟩
        obtain ⟨pre, hpr⟩ : ∃ p, p = numsB [n, (cells.length : Int)] ++ cells.flatMap cellB ++ numsB [(rows.length : Int)] := ⟨_, rfl⟩
        rw [← hpr] at A2
        have hpl : pre.length ≤ 604000000 := by
          have := numsB_len (l := [(rows.length : Int)]) (ok1 hrn)
          rw [hpr, List.length_append]
          simp only [List.length_cons, List.length_nil] at this
          omega
        simp -implicitDefEqProofs (disch := first | omega | (simp -implicitDefEqProofs only [go_sem, List.size_toArray, List.length_cons, List.length_nil, Nat.reduceAdd]; done)) only [go_sem, Int.reduceLT, Int.reduceLE, Int.reduceEq, reduceIte, true_and, Nat.zero_add, Nat.add_zero, Option.map_some, XEnd, f1]
        refine xloop (σ := Nat) (by kernel_rfl) (fun i s => s.df = [] ∧ s.fr 1 = some (.pointer (some ⟨h.next, 0, none⟩)) ∧ s.fr 7 = some (.int .i64 (i : Nat)) ∧ i ≤ rows.length ∧ Ext H0 s.h ∧
          ((rows.take i).flatMap rowB).length ≤ 126 * i ∧ ∃ u, s.fr 4 = some u ∧ Arg fU8.rep s.h u (pre ++ (rows.take i).flatMap rowB)) (fun i => rows.length - i) 0 ?_ ?_
        · simp -implicitDefEqProofs (disch := first | omega | (simp -implicitDefEqProofs only [go_sem, List.size_toArray, List.length_cons, List.length_nil, Nat.reduceAdd]; done)) only [go_sem, Int.reduceLT, Int.reduceLE, Int.reduceEq, reduceIte, true_and, Nat.zero_add, Nat.add_zero, Option.map_some, f1]
          refine ⟨rfl, Nat.zero_le _, hE.trans E2, by simp, u2, rfl, ?_⟩
          simpa using A2
        · rintro i ⟨fr, df, hh, rd⟩ K' hK' hX ⟨rfl, f1, f7, hi, hE, hlb, u, f4, A⟩
          simp only at f1 f7 hE f4 A
          have C2 : cellAt hh h.next 2 = some rv := cellAt_row ((hE.get _ hN0).trans hB0)
          simp -implicitDefEqProofs (disch := first | omega | (simp -implicitDefEqProofs only [go_sem, List.size_toArray, List.length_cons, List.length_nil, Nat.reduceAdd]; done)) only [go_sem, Int.reduceLT, Int.reduceLE, Int.reduceEq, reduceIte, true_and, Nat.zero_add, Nat.add_zero, Option.map_some, f1, f7, C2, er]
          refine XIf_dec (fun hc1 => ?_) (fun hc1 => ?_)
          · have hj : i < rows.length := by omega
            have hr1 : Arg rRow hh rv rows := hr0.ext hE
            obtain ⟨id1, o1, g1, _, hat1⟩ := hr1.idx (P := Try.prog) (t := 24) el_24 (k := .i64) (i := i) (x := rows[i]) (by simp)
            obtain ⟨v1, l1, s1, k1⟩ := row_at hat1
            have hw := wrap_succ hj (by omega)
            have hv8 : rows[i].x.vs.length ≤ 8 := (mayRow_iff.1 ((m4 i hj) _ (get_of_lt hj)).1).2.2.2.1
            have hst := rRow.one (rd_row s1 k1)
            have ev := s1.lens (P := Try.prog) (ts := #[51]) (t := 51) rfl isl_51
            have hvn : inK .i64 (rows[i].x.vs.length : Int) := inK_i64.2 ⟨by omega, by omega⟩
            have q1 := numsB_len (l := [rows[i].ses, rows[i].req, rows[i].x.e, (rows[i].x.vs.length : Int)]) (ok4 k1.ses k1.req k1.e hvn)
            have q2 := numsB_len (l := rows[i].x.vs) (fun y hy => s1.ok y hy)
            have q3 := numsB_len (l := [rows[i].x.s, rows[i].x.p]) (ok2 k1.s k1.p)
            simp only [List.length_cons, List.length_nil] at q1 q3
            obtain ⟨Hc, hHc⟩ : ∃ Hc, Hc = hh.push (.row [Value.int .i64 rows[i].ses, .int .i64 rows[i].req, .int .i64 rows[i].x.e, v1, .int .i64 rows[i].x.s, .int .i64 rows[i].x.p] 0 false) := ⟨_, rfl⟩
            have hHcn : Hc.next = hh.next + 1 := by rw [hHc]; rfl
            have hEc : Ext hh Hc := by rw [hHc]; exact Ext.push1 _ _
            have hbox : Hc.get hh.next = some (.row [Value.int .i64 rows[i].ses, .int .i64 rows[i].req, .int .i64 rows[i].x.e, v1, .int .i64 rows[i].x.s, .int .i64 rows[i].x.p] 0 false) := by rw [hHc]; exact get_push_same _ _
            have hl0 : (pre ++ (rows.take i).flatMap rowB).length ≤ 604000000 + 126 * i := by rw [List.length_append]; omega
            obtain ⟨lb, hlbq⟩ : ∃ lb, lb = pre ++ (rows.take i).flatMap rowB := ⟨_, rfl⟩
            rw [← hlbq] at hl0 A
            have G : ∀ {K : DHeap} {o : Nat}, Ext Hc K → cellAt K hh.next o = ([Value.int .i64 rows[i].ses, .int .i64 rows[i].req, .int .i64 rows[i].x.e, v1, .int .i64 rows[i].x.s, .int .i64 rows[i].x.p] : List Value)[o]? := fun e => cellAt_row ((e.get _ (by omega)).trans hbox)
            have G0 : cellAt Hc hh.next 0 = some (.int .i64 rows[i].ses) := G (.refl _)
            have G1 : cellAt Hc hh.next 1 = some (.int .i64 rows[i].req) := G (.refl _)
            have G2 : cellAt Hc hh.next 2 = some (.int .i64 rows[i].x.e) := G (.refl _)
            have G3 : cellAt Hc hh.next 3 = some v1 := G (.refl _)
            obtain ⟨Hd, hHd⟩ : ∃ Hd, Hd = Hc.push (.row [Value.int .i64 rows[i].ses, .int .i64 rows[i].req, .int .i64 rows[i].x.e, .int .i64 (rows[i].x.vs.length : Int)] 1 false) := ⟨_, rfl⟩
            have hEd : Ext Hc Hd := by rw [hHd]; exact Ext.push1 _ _
            have hbd : Arg fI64.rep Hd (.slice (some ⟨Hc.next, 0, none⟩) 4 4) [rows[i].ses, rows[i].req, rows[i].x.e, (rows[i].x.vs.length : Int)] := by rw [hHd]; exact built fI64 Hc rfl rfl rfl (ok4 k1.ses k1.req k1.e hvn)
            have Ad := (A.ext hEc).ext hEd
            have d1 := refnum_c Ad hbd (by simp only [List.length_cons, List.length_nil]; omega)
            have hok1 : ∀ x ∈ lb ++ numsB [rows[i].ses, rows[i].req, rows[i].x.e, (rows[i].x.vs.length : Int)], fU8.ok x := fun x hx => by
              rcases List.mem_append.1 hx with hx | hx
              · exact A.ok x hx
              · exact numsB_ok (ok4 k1.ses k1.req k1.e hvn) x hx
            obtain ⟨lb1, hb1⟩ : ∃ l1, l1 = lb ++ numsB [rows[i].ses, rows[i].req, rows[i].x.e, (rows[i].x.vs.length : Int)] := ⟨_, rfl⟩
            have hl1 : lb1.length ≤ 604000100 + 126 * i := by rw [hb1, List.length_append]; omega
            rw [← hb1] at d1 hok1
            have M1 := lh_made fU8 Hd hok1
            have G3' : cellAt (lh fU8 Hd lb1) hh.next 3 = some v1 := G (hEd.trans (lh_ext _ _ _))
            have sv : Arg fI64.rep (lh fU8 Hd lb1) v1 rows[i].x.vs := ((s1.ext hEc).ext hEd).ext (lh_ext _ _ _)
            have d2 := refnum_c M1.arg sv (by omega)
            obtain ⟨lb2, hb2⟩ : ∃ l1, l1 = lb1 ++ numsB rows[i].x.vs := ⟨_, rfl⟩
            have hl2 : lb2.length ≤ 604000200 + 126 * i := by rw [hb2, List.length_append]; omega
            have hok2 : ∀ x ∈ lb2, fU8.ok x := fun x hx => by
              rw [hb2] at hx
              rcases List.mem_append.1 hx with hx | hx
              · exact hok1 x hx
              · exact numsB_ok (fun y hy => s1.ok y hy) x hx
            rw [← hb2] at d2
            have M2 := lh_made fU8 (lh fU8 Hd lb1) hok2
            have E5 : Ext Hc (lh fU8 (lh fU8 Hd lb1) lb2) := (hEd.trans (lh_ext _ _ _)).trans (lh_ext _ _ _)
            have G4 : cellAt (lh fU8 (lh fU8 Hd lb1) lb2) hh.next 4 = some (.int .i64 rows[i].x.s) := G E5
            have G5 : cellAt (lh fU8 (lh fU8 Hd lb1) lb2) hh.next 5 = some (.int .i64 rows[i].x.p) := G E5
            simp -implicitDefEqProofs (disch := first | omega | (simp -implicitDefEqProofs only [go_sem, List.size_toArray, List.length_cons, List.length_nil, Nat.reduceAdd]; done)) only [go_sem, Int.reduceLT, Int.reduceLE, Int.reduceEq, reduceIte, true_and, Nat.zero_add, Nat.add_zero, Option.map_some, f1, f7, C2, g1, l1, store6_push hst, ← hHc]
            refine dr_21_0 ?_
            simp -implicitDefEqProofs (disch := first | omega | (simp -implicitDefEqProofs only [go_sem, List.size_toArray, List.length_cons, List.length_nil, Nat.reduceAdd]; done)) only [go_sem, Int.reduceLT, Int.reduceLE, Int.reduceEq, reduceIte, true_and, Nat.zero_add, Nat.add_zero, Option.map_some, l21_0, f4, G0, G1, G2, G3, ev, bs4, Nat.reduceAdd, ← hHd]
            refine dcall d1 ?_
            simp -implicitDefEqProofs (disch := first | omega | (simp -implicitDefEqProofs only [go_sem, List.size_toArray, List.length_cons, List.length_nil, Nat.reduceAdd]; done)) only [go_sem, Int.reduceLT, Int.reduceLE, Int.reduceEq, reduceIte, true_and, Nat.zero_add, Nat.add_zero, Option.map_some, G3', Nat.reduceAdd]
            refine dcall d2 ?_
            simp -implicitDefEqProofs (disch := first | omega | (simp -implicitDefEqProofs only [go_sem, List.size_toArray, List.length_cons, List.length_nil, Nat.reduceAdd]; done)) only [go_sem, Int.reduceLT, Int.reduceLE, Int.reduceEq, reduceIte, true_and, Nat.zero_add, Nat.add_zero, Option.map_some, G4, G5, bs2, Nat.reduceAdd]
            refine ⟨⟨XSt1_at (i := 2) (j := 11) rfl rfl rfl ?_, XSt1_at (i := 4) (j := 11) rfl rfl rfl ?_, XSt1_at (i := 7) (j := 11) rfl rfl rfl ?_, XSt1_at (i := 16) (j := 11) rfl rfl rfl ?_, XSt1_at (i := 16) (j := 12) rfl rfl rfl ?_, XSt1_at (i := 16) (j := 13) rfl rfl rfl ?_, trivial⟩, ?_⟩
            · rw [if_neg (by decide)]
              refine Ld_on (p := .pointer (some ⟨hh.next, 0, none⟩)) ?_ ?_ (ld_2.trans G0)
              · simp -implicitDefEqProofs (disch := first | omega | (simp -implicitDefEqProofs only [go_sem, List.size_toArray, List.length_cons, List.length_nil, Nat.reduceAdd]; done)) only [go_sem, Int.reduceLT, Int.reduceLE, Int.reduceEq, reduceIte, true_and, Nat.zero_add, Nat.add_zero, Option.map_some]
              · simp -implicitDefEqProofs (disch := first | omega | (simp -implicitDefEqProofs only [go_sem, List.size_toArray, List.length_cons, List.length_nil, Nat.reduceAdd]; done)) only [go_sem, Int.reduceLT, Int.reduceLE, Int.reduceEq, reduceIte, true_and, Nat.zero_add, Nat.add_zero, Option.map_some]
            · rw [if_neg (by decide)]
              refine Ld_on (p := .pointer (some ⟨hh.next, 1, none⟩)) ?_ ?_ (ld_2.trans G1)
              · simp -implicitDefEqProofs (disch := first | omega | (simp -implicitDefEqProofs only [go_sem, List.size_toArray, List.length_cons, List.length_nil, Nat.reduceAdd]; done)) only [go_sem, Int.reduceLT, Int.reduceLE, Int.reduceEq, reduceIte, true_and, Nat.zero_add, Nat.add_zero, Option.map_some]
              · simp -implicitDefEqProofs (disch := first | omega | (simp -implicitDefEqProofs only [go_sem, List.size_toArray, List.length_cons, List.length_nil, Nat.reduceAdd]; done)) only [go_sem, Int.reduceLT, Int.reduceLE, Int.reduceEq, reduceIte, true_and, Nat.zero_add, Nat.add_zero, Option.map_some]
            · rw [if_neg (by decide)]
              refine Ld_on (p := .pointer (some ⟨hh.next, 2, none⟩)) ?_ ?_ (ld_3.trans G2)
              · simp -implicitDefEqProofs (disch := first | omega | (simp -implicitDefEqProofs only [go_sem, List.size_toArray, List.length_cons, List.length_nil, Nat.reduceAdd]; done)) only [go_sem, Int.reduceLT, Int.reduceLE, Int.reduceEq, reduceIte, true_and, Nat.zero_add, Nat.add_zero, Option.map_some]
              · simp -implicitDefEqProofs (disch := first | omega | (simp -implicitDefEqProofs only [go_sem, List.size_toArray, List.length_cons, List.length_nil, Nat.reduceAdd]; done)) only [go_sem, Int.reduceLT, Int.reduceLE, Int.reduceEq, reduceIte, true_and, Nat.zero_add, Nat.add_zero, Option.map_some]
            · rw [if_pos (by decide)]
              refine Ld_on (p := .pointer (some ⟨hh.next, 3, none⟩)) ?_ ?_ (ld_51.trans G3)
              · simp -implicitDefEqProofs (disch := first | omega | (simp -implicitDefEqProofs only [go_sem, List.size_toArray, List.length_cons, List.length_nil, Nat.reduceAdd]; done)) only [go_sem, Int.reduceLT, Int.reduceLE, Int.reduceEq, reduceIte, true_and, Nat.zero_add, Nat.add_zero, Option.map_some]
              · simp -implicitDefEqProofs (disch := first | omega | (simp -implicitDefEqProofs only [go_sem, List.size_toArray, List.length_cons, List.length_nil, Nat.reduceAdd]; done)) only [go_sem, Int.reduceLT, Int.reduceLE, Int.reduceEq, reduceIte, true_and, Nat.zero_add, Nat.add_zero, Option.map_some]
            · rw [if_pos (by decide)]
              refine Ld_on (p := .pointer (some ⟨hh.next, 3, none⟩)) ?_ ?_ (ld_51.trans G3)
              · simp -implicitDefEqProofs (disch := first | omega | (simp -implicitDefEqProofs only [go_sem, List.size_toArray, List.length_cons, List.length_nil, Nat.reduceAdd]; done)) only [go_sem, Int.reduceLT, Int.reduceLE, Int.reduceEq, reduceIte, true_and, Nat.zero_add, Nat.add_zero, Option.map_some]
              · simp -implicitDefEqProofs (disch := first | omega | (simp -implicitDefEqProofs only [go_sem, List.size_toArray, List.length_cons, List.length_nil, Nat.reduceAdd]; done)) only [go_sem, Int.reduceLT, Int.reduceLE, Int.reduceEq, reduceIte, true_and, Nat.zero_add, Nat.add_zero, Option.map_some]
            · rw [if_pos (by decide)]
              refine Ld_on (p := .pointer (some ⟨hh.next, 3, none⟩)) ?_ ?_ (ld_51.trans (G hEd))
              · simp -implicitDefEqProofs (disch := first | omega | (simp -implicitDefEqProofs only [go_sem, List.size_toArray, List.length_cons, List.length_nil, Nat.reduceAdd]; done)) only [go_sem, Int.reduceLT, Int.reduceLE, Int.reduceEq, reduceIte, true_and, Nat.zero_add, Nat.add_zero, Option.map_some]
              · simp -implicitDefEqProofs (disch := first | omega | (simp -implicitDefEqProofs only [go_sem, List.size_toArray, List.length_cons, List.length_nil, Nat.reduceAdd]; done)) only [go_sem, Int.reduceLT, Int.reduceLE, Int.reduceEq, reduceIte, true_and, Nat.zero_add, Nat.add_zero, Option.map_some]
            refine ncall_ct (num_built (ll := [rows[i].x.s, rows[i].x.p]) M2.arg (ok2 k1.s k1.p) rfl rfl (by simp only [List.length_cons, List.length_nil]; omega)) ?_
            rintro r K6 ⟨u6, rfl, E6, A6⟩
            simp -implicitDefEqProofs (disch := first | omega | (simp -implicitDefEqProofs only [go_sem, List.size_toArray, List.length_cons, List.length_nil, Nat.reduceAdd]; done)) only [go_sem, Int.reduceLT, Int.reduceLE, Int.reduceEq, reduceIte, true_and, Nat.zero_add, Nat.add_zero, Option.map_some, XEnd, f7, hw]
            refine hK' (i + 1) _ ?_ (by omega)
            have hrb : [rows[i]].flatMap rowB = numsB [rows[i].ses, rows[i].req, rows[i].x.e, (rows[i].x.vs.length : Int)] ++ (numsB rows[i].x.vs ++ numsB [rows[i].x.s, rows[i].x.p]) := by simp [rowB]
            refine ⟨by trivial, by simp -implicitDefEqProofs (disch := first | omega | (simp -implicitDefEqProofs only [go_sem, List.size_toArray, List.length_cons, List.length_nil, Nat.reduceAdd]; done)) only [go_sem, Int.reduceLT, Int.reduceLE, Int.reduceEq, reduceIte, true_and, Nat.zero_add, Nat.add_zero, Option.map_some, f1], by simp -implicitDefEqProofs (disch := first | omega | (simp -implicitDefEqProofs only [go_sem, List.size_toArray, List.length_cons, List.length_nil, Nat.reduceAdd]; done)) only [go_sem, Int.reduceLT, Int.reduceLE, Int.reduceEq, reduceIte, true_and, Nat.zero_add, Nat.add_zero, Option.map_some], by omega, ((hE.trans hEc).trans E5).trans E6, ?_, u6, by simp -implicitDefEqProofs (disch := first | omega | (simp -implicitDefEqProofs only [go_sem, List.size_toArray, List.length_cons, List.length_nil, Nat.reduceAdd]; done)) only [go_sem, Int.reduceLT, Int.reduceLE, Int.reduceEq, reduceIte, true_and, Nat.zero_add, Nat.add_zero, Option.map_some], ?_⟩
            · rw [take_snoc (get_of_lt hj), List.flatMap_append, hrb, List.length_append, List.length_append, List.length_append]
              omega
            · rw [take_snoc (get_of_lt hj), List.flatMap_append, hrb]
              rw [hb2, hb1, hlbq] at A6
              simp only [List.append_assoc] at A6 ⊢
              exact A6
          · obtain rfl : i = rows.length := by omega
            rw [List.take_length] at A
            refine hX _ _ (by simp) ?_
            have hsb : pre ++ rows.flatMap rowB = stateB ⟨n, cells, rows⟩ := by rw [hpr]; simp only [stateB, List.append_assoc]
            rw [hsb] at A
            have eb := A.lens (P := Try.prog) (ts := #[22]) (t := 22) rfl isl_22
            have hEh : Ext h hh := hE0.trans hE
            by_cases hbig : 1048576 < (stateB ⟨n, cells, rows⟩).length
            · have hbi : (((stateB ⟨n, cells, rows⟩).length : Nat) : Int) > 1048576 := by omega
              simp -implicitDefEqProofs (disch := first | omega | (simp -implicitDefEqProofs only [go_sem, List.size_toArray, List.length_cons, List.length_nil, Nat.reduceAdd]; done)) only [go_sem, Int.reduceLT, Int.reduceLE, Int.reduceEq, reduceIte, true_and, Nat.zero_add, Nat.add_zero, Option.map_some, f4, eb, hbi]
              refine ⟨_, rfl, .slice none 0 0, ?_, hEh, ?_⟩
              · simp [bytesE, hm, hbig]
              · simp only [bytesL, hm, if_true, hbig]; exact .nil _ _ _
            · have hbi : ¬ (((stateB ⟨n, cells, rows⟩).length : Nat) : Int) > 1048576 := by omega
              simp -implicitDefEqProofs (disch := first | omega | (simp -implicitDefEqProofs only [go_sem, List.size_toArray, List.length_cons, List.length_nil, Nat.reduceAdd]; done)) only [go_sem, Int.reduceLT, Int.reduceLE, Int.reduceEq, reduceIte, true_and, Nat.zero_add, Nat.add_zero, Option.map_some, f4, eb, hbi]
              refine ⟨_, rfl, u, ?_, hEh, ?_⟩
              · simp [bytesE, hm, hbig]
              · simp only [bytesL, hm, if_true, if_neg hbig]; exact A
end Go.Proofs.Ytlhgijpdhniddaa

namespace Go.Proofs.Ytlhgijpdhniddaa
open Go.D
set_option maxRecDepth 100000

theorem refDigest_c {h : DHeap} {n : Int} {cv rv : Value} {cells : List Cell} {rows : List Row} (hn : inK .i64 n) (hc : Arg fCell.rep h cv cells) (hr : Arg rRow h rv rows) (hlc : cells.length ≤ 16777216) (hlr : rows.length ≤ 16777216) :
    DC Try.prog 25 [stateV n cv rv] h (.ret (.int .u64 (digE ⟨n, cells, rows⟩))) h := by
  refine Ct.pure (go_25 (by simp) ?_) (vin_int _ _)
  have c1 := hc.cells1
  have r1 := hr.cells1
  obtain ⟨H0, hH0⟩ : ∃ H, H = h.push (.row [.int .i64 n, cv, rv] 0 false) := ⟨_, rfl⟩
  have hE0 : Ext h H0 := by rw [hH0]; exact Ext.push1 _ _
  have hB0 : H0.get h.next = some (.row [.int .i64 n, cv, rv] 0 false) := by rw [hH0]; exact get_push_same _ _
  have hl3 : cellsAt H0 h.next 0 3 = some (stateV n cv rv) := by rw [cellsAt_row hB0 (Nat.le_of_ble_eq_true rfl)]; rfl
  simp -implicitDefEqProofs (disch := first | omega | (simp -implicitDefEqProofs only [go_sem, List.size_toArray, List.length_cons, List.length_nil, Nat.reduceAdd]; done)) only [go_sem, Int.reduceLT, Int.reduceLE, Int.reduceEq, reduceIte, true_and, Nat.zero_add, Nat.add_zero, Option.map_some, c25, ← hH0, hl3]
  refine ncall_ct (refBytes_c hn (hc.ext hE0) (hr.ext hE0) hlc hlr) ?_
  rintro r h1 ⟨v, rfl, hE, ha⟩
  unfold digE
  by_cases h0 : bytesE ⟨n, cells, rows⟩ = 0
  case neg =>
    simp -implicitDefEqProofs (disch := first | omega | (simp -implicitDefEqProofs only [go_sem, List.size_toArray, List.length_cons, List.length_nil, Nat.reduceAdd]; done)) only [go_sem, Int.reduceLT, Int.reduceLE, Int.reduceEq, reduceIte, true_and, Nat.zero_add, Nat.add_zero, Option.map_some, XEnd, h0]
    exact ⟨_, rfl, rfl, hE0.trans hE⟩
  obtain ⟨l, hl⟩ : ∃ l, bytesL ⟨n, cells, rows⟩ = l := ⟨_, rfl⟩
  have hll : l.length ≤ 1048576 := by
    rw [← hl]
    unfold bytesL
    split
    · split
      · exact Nat.zero_le _
      · omega
    · exact Nat.zero_le _
  rw [hl] at ha ⊢
  have ev := ha.lens (P := Try.prog) (ts := #[22]) (t := 22) rfl isl_22
  simp -implicitDefEqProofs (disch := first | omega | (simp -implicitDefEqProofs only [go_sem, List.size_toArray, List.length_cons, List.length_nil, Nat.reduceAdd]; done)) only [go_sem, Int.reduceLT, Int.reduceLE, Int.reduceEq, reduceIte, true_and, Nat.zero_add, Nat.add_zero, Option.map_some, XEnd, h0, ev]
  refine xloop (σ := Nat) (by kernel_rfl) (fun i s => s.df = [] ∧ s.h = h1 ∧ s.fr 3 = some v ∧ s.fr 6 = some (.int .i64 (i : Nat)) ∧ i ≤ l.length ∧ s.fr 5 = some (.int .u64 (digL (l.take i)))) (fun i => l.length - i) 0 ?_ ?_
  · simp -implicitDefEqProofs (disch := first | omega | (simp -implicitDefEqProofs only [go_sem, List.size_toArray, List.length_cons, List.length_nil, Nat.reduceAdd]; done)) only [go_sem, Int.reduceLT, Int.reduceLE, Int.reduceEq, reduceIte, true_and, Nat.zero_add, Nat.add_zero, Option.map_some]
    exact ⟨rfl, Nat.zero_le _, by simp [digL]⟩
  · rintro i ⟨fr, df, hh, rd⟩ K' hK' hX ⟨rfl, rfl, f3, f6, hi, f5⟩
    simp only at f3 f6 f5
    simp -implicitDefEqProofs (disch := first | omega | (simp -implicitDefEqProofs only [go_sem, List.size_toArray, List.length_cons, List.length_nil, Nat.reduceAdd]; done)) only [go_sem, Int.reduceLT, Int.reduceLE, Int.reduceEq, reduceIte, true_and, Nat.zero_add, Nat.add_zero, Option.map_some, f3, f6, ev]
    refine XIf_dec (fun hc1 => ?_) (fun hc1 => ?_)
    · have hj : i < l.length := by omega
      obtain ⟨id1, o1, e1, _, hat1⟩ := ha.idx (P := Try.prog) (t := 22) el_22 (k := .i64) (i := i) (x := l[i]) (by simp)
      have l1 := hat1.int
      have hw := wrap_succ hj (by omega)
      simp -implicitDefEqProofs (disch := first | omega | (simp -implicitDefEqProofs only [go_sem, List.size_toArray, List.length_cons, List.length_nil, Nat.reduceAdd]; done)) only [go_sem, Int.reduceLT, Int.reduceLE, Int.reduceEq, reduceIte, true_and, Nat.zero_add, Nat.add_zero, Option.map_some, f3, f6, f5, e1, l1, bd_key]
      refine ncall refHash_c ?_
      simp -implicitDefEqProofs (disch := first | omega | (simp -implicitDefEqProofs only [go_sem, List.size_toArray, List.length_cons, List.length_nil, Nat.reduceAdd]; done)) only [go_sem, Int.reduceLT, Int.reduceLE, Int.reduceEq, reduceIte, true_and, Nat.zero_add, Nat.add_zero, Option.map_some, f6, hw]
      refine hK' (i + 1) _ ?_ (by omega)
      refine ⟨by trivial, by trivial, by simp -implicitDefEqProofs (disch := first | omega | (simp -implicitDefEqProofs only [go_sem, List.size_toArray, List.length_cons, List.length_nil, Nat.reduceAdd]; done)) only [go_sem, Int.reduceLT, Int.reduceLE, Int.reduceEq, reduceIte, true_and, Nat.zero_add, Nat.add_zero, Option.map_some, f3], by simp -implicitDefEqProofs (disch := first | omega | (simp -implicitDefEqProofs only [go_sem, List.size_toArray, List.length_cons, List.length_nil, Nat.reduceAdd]; done)) only [go_sem, Int.reduceLT, Int.reduceLE, Int.reduceEq, reduceIte, true_and, Nat.zero_add, Nat.add_zero, Option.map_some], by omega, ?_⟩
      simp -implicitDefEqProofs (disch := first | omega | (simp -implicitDefEqProofs only [go_sem, List.size_toArray, List.length_cons, List.length_nil, Nat.reduceAdd]; done)) only [go_sem, Int.reduceLT, Int.reduceLE, Int.reduceEq, reduceIte, true_and, Nat.zero_add, Nat.add_zero, Option.map_some]
      have hsn : digL (l.take i ++ [l[i]]) = hashI ⟨IntKind.i32.wrap l[i], IntKind.i64.wrap (digL (l.take i))⟩ := by simp only [digL, List.foldl_append, List.foldl_cons, List.foldl_nil]
      rw [take_snoc (get_of_lt hj), hsn]
    · obtain rfl : i = l.length := by omega
      rw [List.take_length] at f5
      refine hX _ _ (by simp) ?_
      simp -implicitDefEqProofs (disch := first | omega | (simp -implicitDefEqProofs only [go_sem, List.size_toArray, List.length_cons, List.length_nil, Nat.reduceAdd]; done)) only [go_sem, Int.reduceLT, Int.reduceLE, Int.reduceEq, reduceIte, true_and, Nat.zero_add, Nat.add_zero, Option.map_some, f5]
      exact ⟨_, rfl, by simp, hE0.trans hE⟩
end Go.Proofs.Ytlhgijpdhniddaa

namespace Go.D
open Go.Proofs.Ytlhgijpdhniddaa (Rows.uptoBulk Rows.uptoBulkAll)
variable {P : Program}

/-- a picture of which nothing may be written -/
structure Rds (ι : Inj) (h : DHeap) (W : World) : Prop where
  sim : Sim ι h W
  ro : ∀ id e, ι id = some e → e.ro = true
/-- there are cells -/
def Blk (W : World) : Prop := ∃ (b : Nat) (c : Array Value) (t : TypeId) (fz : Nat × Nat), W.heap[b]? = some (Obj.cells c t fz)
/-- there are, if a slice names some -/
def BlkOf (W : World) (cs : List Value) : Prop := ∀ a len cap, Value.slice (some a) len cap ∈ cs → Blk W
theorem BlkOf.of {W : World} (b : Blk W) (cs : List Value) : BlkOf W cs := fun _ _ _ _ => b
theorem BlkOf.sub {W : World} {cs ds : List Value} (b : BlkOf W cs) (h : ∀ v ∈ ds, v ∈ cs) : BlkOf W ds := fun a l c hm => b a l c (h _ hm)
theorem Rds.none (W : World) : Rds (fun _ => none) ⟨fun _ => none, 0, 0⟩ W :=
  ⟨⟨fun _ _ h => (by cases h), fun _ _ h => (by cases h), fun _ _ h => (by cases h), fun _ _ _ _ h => (by cases h), fun g hg => absurd hg (Nat.not_lt_zero _)⟩, fun _ _ h => by cases h⟩
theorem Rds.push {ι : Inj} {h : DHeap} {W : World} (s : Rds ι h W) {b : Nat} {cur : Array Value} {ty : TypeId} {fz : Nat × Nat} (hb : W.heap[b]? = some (.cells cur ty fz)) (shift z : Nat) {cells : List Value}
    (hc : ∀ (i : Nat) v, cells[i]? = some v → ∃ v', cur[shift + i]? = some v' ∧ VRel ι v v') :
    Rds (ι.upd h.next ⟨b, shift, z, 0, true⟩) (h.push (.row cells z true)) W ∧ ι.le (ι.upd h.next ⟨b, shift, z, 0, true⟩) ∧ Ext h (h.push (.row cells z true)) := by
  have hle : ι.le (ι.upd h.next ⟨b, shift, z, 0, true⟩) := Inj.upd_le s.sim.fresh
  have hbl : b < W.heap.size := by
    cases hx : W.heap[b]? with
    | none => rw [hx] at hb; cases hb
    | some _ => exact (Array.getElem?_eq_some_iff.1 hx).1
  have hcase : ∀ id e, (ι.upd h.next ⟨b, shift, z, 0, true⟩) id = some e → (id = h.next ∧ e = ⟨b, shift, z, 0, true⟩) ∨ (id ≠ h.next ∧ ι id = some e) := by
    intro id e he
    unfold Inj.upd at he
    split at he
    · cases he; exact .inl ⟨‹_›, rfl⟩
    · exact .inr ⟨‹_›, he⟩
  have hro : ∀ id e, (ι.upd h.next ⟨b, shift, z, 0, true⟩) id = some e → e.ro = true := by
    intro id e he
    rcases hcase id e he with ⟨_, rfl⟩ | ⟨_, he⟩
    · rfl
    · exact s.ro id e he
  refine ⟨⟨⟨?_, ?_, ?_, ?_, ?_⟩, hro⟩, hle, Ext.push1 _ _⟩
  · intro id e he
    rcases hcase id e he with ⟨rfl, _⟩ | ⟨_, he⟩
    · exact Nat.lt_succ_self _
    · exact Nat.lt_succ_of_lt (s.sim.lt id e he)
  · intro id e he
    rcases hcase id e he with ⟨_, rfl⟩ | ⟨_, he⟩
    · exact hbl
    · exact s.sim.blk id e he
  · intro id e he
    rcases hcase id e he with ⟨rfl, rfl⟩ | ⟨_, he⟩
    · refine ⟨_, get_push_same _ _, rfl, rfl, cur, ty, fz, hb, fun i v hv => ?_, fun hh => by cases hh⟩
      obtain ⟨v', a, r⟩ := hc i v hv
      exact ⟨v', a, r.mono hle⟩
    · obtain ⟨o, a, r⟩ := s.sim.obj id e he
      exact ⟨o, (get_push_other _ _ (s.sim.lt id e he)).trans a, r.mono hle rfl⟩
  · intro id id' e e' he he' _ _
    exact .inr (.inr ⟨hro _ _ he, hro _ _ he'⟩)
  · intro g hg
    obtain ⟨e, a, r⟩ := s.sim.glob g hg
    exact ⟨e, hle _ _ a, r⟩

/-- the cells of a type's data lie as 'R' reads them; the bulk of what is read is at most that of the datum; and they stay as they are read -/
structure Lays {α : Type} (P : Program) (t : TypeId) (R : Rep α) (B : α → Nat) : Prop where
  size : P.cellsOf t = R.z
  lay : ∀ {H : Type} (enc : TypeId × Value → H) (W : World) (n : Nat) (cs : List Value) (x : DataW H × List MemPlace), DataW.trod enc P W 0 (fun _ => true) true n t cs = some x → BlkOf W cs → ∀ (ι : Inj) (h : DHeap), Rds ι h W →
    ∃ ι' h' cs0 y, Rds ι' h' W ∧ ι.le ι' ∧ Ext h h' ∧ LRel ι' cs0 cs ∧ R.rd (fun i => i < h'.next) h' cs0 y ∧ B y ≤ Rows.uptoBulk x.1
  stay : ∀ {H : Type} (enc : TypeId × Value → H) (W W' : World) (n : Nat) (cs : List Value) (x : DataW H × List MemPlace) (sp : Nat → Bool), DataW.trod enc P W 0 (fun _ => true) true n t cs = some x → (∀ p ∈ x.2, W.sameAt W' p) → (∀ p ∈ x.2, sp p.block = true) →
    DataW.trod enc P W' 0 sp true n t cs = some x

theorem Rows.one_le {H : Type} (d : DataW H) : 1 ≤ Rows.uptoBulk d := by
  cases d with
  | lit l => cases l <;> simp [Rows.uptoBulk]
  | nil => simp [Rows.uptoBulk]
  | ptr d => simp [Rows.uptoBulk]
  | slice elems spare => simp [Rows.uptoBulk]
  | agg parts => simp [Rows.uptoBulk]
  | iface t d => simp [Rows.uptoBulk]
  | map entries => simp [Rows.uptoBulk]
  | held h => simp [Rows.uptoBulk]
theorem wf_in {k : IntKind} {n : Int} (h : (Lit.int k n).wf = true) : inK k n := by
  simpa [Lit.wf, inK] using h
theorem trod_pos {H : Type} {enc : TypeId × Value → H} {W : World} {base : Nat} {sp : Nat → Bool} {hd : Bool} {n : Nat} {t : TypeId} {cs : List Value} {x : DataW H × List MemPlace} (h : DataW.trod enc P W base sp hd n t cs = some x) : ∃ m, n = m + 1 := by
  cases n with
  | zero => simp [DataW.trod] at h
  | succ m => exact ⟨m, rfl⟩
theorem Lays.int {t : TypeId} {k : IntKind} (hu : P.underlying t = some (.int k)) (hz : P.cellsOf t = 1) : Lays P t (fI k).rep (fun _ => 1) where
  size := hz
  lay enc W n cs x h _ ι hh s := by
    obtain ⟨m, rfl, rfl, hw⟩ := DataW.trod_int hu h
    exact ⟨ι, hh, [.int k m], m, s, Inj.le_refl _, .refl _, (LRel.nil ι).cons (.int _ _), ⟨rfl, wf_in hw⟩, Rows.one_le _⟩
  stay enc W W' n cs x sp h _ _ := by
    obtain ⟨m, rfl⟩ := trod_pos h
    obtain ⟨i, rfl, rfl, hw⟩ := DataW.trod_int hu h
    simp only [DataW.trod, hu]
    rw [if_pos (by simpa using hw)]
theorem Lays.bool {t : TypeId} (hu : P.underlying t = some .bool) (hz : P.cellsOf t = 1) : Lays P t fB.rep (fun _ => 1) where
  size := hz
  lay enc W n cs x h _ ι hh s := by
    obtain ⟨m, rfl, rfl⟩ := DataW.trod_bool hu h
    exact ⟨ι, hh, [.bool m], m, s, Inj.le_refl _, .refl _, (LRel.nil ι).cons (.bool _), ⟨rfl, trivial⟩, Rows.one_le _⟩
  stay enc W W' n cs x sp h _ _ := by
    obtain ⟨m, rfl⟩ := trod_pos h
    obtain ⟨i, rfl, rfl⟩ := DataW.trod_bool hu h
    simp only [DataW.trod, hu]
/-- read in another way -/
theorem Lays.conv {α β : Type} {t : TypeId} {R : Rep α} {B : α → Nat} {Q : Rep β} {C : β → Nat} (a : Lays P t R B) (hz : R.z = Q.z) (f : α → β) (hf : ∀ S h cs x, R.rd S h cs x → Q.rd S h cs (f x)) (hC : ∀ x, C (f x) ≤ B x) : Lays P t Q C where
  size := a.size.trans hz
  lay enc W n cs x h b ι hh s := by
    obtain ⟨ι', h', cs0, y, g1, g2, g3, g4, g5, g6⟩ := a.lay enc W n cs x h b ι hh s
    exact ⟨ι', h', cs0, f y, g1, g2, g3, g4, hf _ _ _ _ g5, Nat.le_trans (hC y) g6⟩
  stay := a.stay

/-! ### Structs -/
/-- fields that lie one behind the other -/
inductive Flds (P : Program) : {α : Type} → Nat → List Field → Rep α → (α → Nat) → Prop
  | one {α : Type} {off : Nat} {f : Field} {R : Rep α} {B : α → Nat} (ho : f.offset = off) (hl : Lays P f.type R B) : Flds P off [f] R B
  | cons {α β : Type} {off : Nat} {f : Field} {fs : List Field} {R : Rep α} {B : α → Nat} {Q : Rep β} {C : β → Nat} (ho : f.offset = off) (hl : Lays P f.type R B) (hr : Flds P (off + R.z) fs Q C) : Flds P off (f :: fs) (rP R Q) (fun x => B x.1 + C x.2)
theorem rd_ext {α : Type} (R : Rep α) {h h' : DHeap} {cs : List Value} {x : α} (a : R.rd (fun i => i < h.next) h cs x) (e : Ext h h') : R.rd (fun i => i < h'.next) h' cs x := R.mono a fun i hi => ⟨Nat.lt_of_lt_of_le hi e.next, e.get i hi⟩
theorem Flds.lay {α : Type} {off : Nat} {fs : List Field} {R : Rep α} {B : α → Nat} (a : Flds P off fs R B) : ∀ {H : Type} (enc : TypeId × Value → H) (W : World) (n : Nat) (cs : List Value) (xs : List (DataW H × List MemPlace)), xs.length = fs.length →
    (∀ (i : Nat) (f : Field), fs[i]? = some f → DataW.trod enc P W 0 (fun _ => true) true n f.type ((cs.drop f.offset).take (P.cellsOf f.type)) = xs[i]?) → BlkOf W cs → ∀ (ι : Inj) (h : DHeap), Rds ι h W →
    ∃ ι' h' cs0 y, Rds ι' h' W ∧ ι.le ι' ∧ Ext h h' ∧ LRel ι' cs0 ((cs.drop off).take R.z) ∧ R.rd (fun i => i < h'.next) h' cs0 y ∧ B y ≤ Rows.uptoBulkAll (xs.map (·.1)) := by
  induction a with
  | @one α off f R B ho hl =>
    intro H enc W n cs xs hlen hx b ι h s
    match xs, hlen with
    | [x], _ =>
      have := hx 0 f rfl
      obtain ⟨ι', h', cs0, y, g1, g2, g3, g4, g5, g6⟩ := hl.lay enc W n _ x this (b.sub fun v hv => List.mem_of_mem_drop (List.mem_of_mem_take hv)) ι h s
      rw [hl.size, ho] at g4
      exact ⟨ι', h', cs0, y, g1, g2, g3, g4, g5, by simp [Rows.uptoBulkAll]; exact g6⟩
  | @cons α β off f fs R B Q C ho hl hr ih =>
    intro H enc W n cs xs hlen hx b ι h s
    match xs, hlen with
    | x :: xs, hlen =>
      have h0 := hx 0 f rfl
      obtain ⟨ι1, h1, c1, y1, g1, g2, g3, g4, g5, g6⟩ := hl.lay enc W n _ x h0 (b.sub fun v hv => List.mem_of_mem_drop (List.mem_of_mem_take hv)) ι h s
      rw [hl.size, ho] at g4
      obtain ⟨ι2, h2, c2, y2, k1, k2, k3, k4, k5, k6⟩ := ih enc W n cs xs (by simpa using hlen) (fun i f hf => by simpa using hx (i + 1) f (by simpa using hf)) b ι1 h1 g1
      refine ⟨ι2, h2, c1 ++ c2, (y1, y2), k1, Inj.le_trans g2 k2, g3.trans k3, ?_, ⟨c1, c2, rfl, rd_ext R g5 k3, k5⟩, ?_⟩
      · have := (g4.mono k2).append k4
        have e : (cs.drop off).take (rP R Q).z = (cs.drop off).take R.z ++ (cs.drop (off + R.z)).take Q.z := by
          show (cs.drop off).take (R.z + Q.z) = _
          rw [List.take_add, List.drop_drop]
        rw [e]; exact this
      · simp only [List.map_cons, Rows.uptoBulkAll]; omega
theorem Flds.stay {α : Type} {off : Nat} {fs : List Field} {R : Rep α} {B : α → Nat} (a : Flds P off fs R B) : ∀ {H : Type} (enc : TypeId × Value → H) (W W' : World) (n : Nat) (cs : List Value) (sp : Nat → Bool) (f : Field) (x : DataW H × List MemPlace), f ∈ fs →
    DataW.trod enc P W 0 (fun _ => true) true n f.type ((cs.drop f.offset).take (P.cellsOf f.type)) = some x → (∀ p ∈ x.2, W.sameAt W' p) → (∀ p ∈ x.2, sp p.block = true) → DataW.trod enc P W' 0 sp true n f.type ((cs.drop f.offset).take (P.cellsOf f.type)) = some x := by
  induction a with
  | one ho hl =>
    intro H enc W W' n cs sp f x hf h1 h2 h3
    simp only [List.mem_singleton] at hf
    subst hf
    exact hl.stay enc W W' n _ x sp h1 h2 h3
  | cons ho hl hr ih =>
    intro H enc W W' n cs sp f x hf h1 h2 h3
    rcases List.mem_cons.1 hf with rfl | hf
    · exact hl.stay enc W W' n _ x sp h1 h2 h3
    · exact ih enc W W' n cs sp f x hf h1 h2 h3
theorem Lays.struct {α : Type} {t : TypeId} {fs : Array Field} {R : Rep α} {B : α → Nat} (hu : P.underlying t = some (.struct fs)) (hz : P.cellsOf t = R.z) (a : Flds P 0 fs.toList R B) : Lays P t R B where
  size := hz
  lay enc W n cs x h b ι hh s := by
    obtain ⟨xs, m, rfl, rfl, hl, hxl, hx⟩ := DataW.trod_struct hu h
    obtain ⟨ι', h', cs0, y, g1, g2, g3, g4, g5, g6⟩ := a.lay enc W m cs xs (by simpa using hxl) (fun i f hf => hx i f (by simpa using hf)) b ι hh s
    refine ⟨ι', h', cs0, y, g1, g2, g3, ?_, g5, ?_⟩
    · rw [List.drop_zero, List.take_of_length_le (by omega)] at g4; exact g4
    · simp only [Rows.uptoBulk]; omega
  stay enc W W' n cs x sp h h2 h3 := by
    obtain ⟨m, rfl⟩ := trod_pos h
    simp only [DataW.trod, hu] at h ⊢
    split at h
    · rename_i hl
      rw [if_pos hl]
      simp only [Option.map_eq_some_iff] at h ⊢
      obtain ⟨xs, hm, rfl⟩ := h
      exact ⟨xs, mapM_carry hm (fun f y hf hy hv => a.stay enc W W' m cs sp f y hf hv (fun p hp => h2 p (List.mem_flatMap.2 ⟨y, hy, hp⟩)) (fun p hp => h3 p (List.mem_flatMap.2 ⟨y, hy, hp⟩))), rfl⟩
    · cases h

/-! ### Slices -/
theorem add_add (a : Addr) (i j : Nat) : ((a.add i).add j).block = a.block ∧ ((a.add i).add j).off = a.off + (i + j) := by
  unfold Addr.add
  split <;> split <;> simp_all [Nat.add_assoc]
theorem cell_at {W : World} {a : Addr} {v : Value} (h : W.cell? a = some v) : a.spot = none ∧ ∃ cur ty fz, W.heap[a.block]? = some (.cells cur ty fz) ∧ cur[a.off]? = some v := by
  unfold World.cell? at h
  split at h
  · rename_i c ty fz e
    split at h
    · cases h
    · rename_i hs
      exact ⟨by simpa using hs, c, ty, fz, e, h⟩
  · cases h
theorem cells_get {W : World} {base : Nat} {a : Addr} {n : Nat} {cs : List Value} (h : W.cells? base a n = some cs) : cs.length = n ∧ ∀ j, j < n → W.cell? (a.add j) = cs[j]? := by
  unfold World.cells? at h
  split at h
  · refine ⟨by simpa using mapM_some_length h, fun j hj => ?_⟩
    exact mapM_some_get h j j (by simp [hj])
  · cases h
def sumB {α : Type} (B : α → Nat) : List α → Nat
  | [] => 0
  | x :: l => max 1 (B x) + sumB B l
theorem sumB_append {α : Type} (B : α → Nat) (l k : List α) : sumB B (l ++ k) = sumB B l + sumB B k := by
  induction l with
  | nil => simp [sumB]
  | cons x l ih => simp only [List.cons_append, sumB, ih]; omega
theorem sumB_len {α : Type} (B : α → Nat) (l : List α) : l.length ≤ sumB B l := by
  induction l with
  | nil => simp
  | cons x l ih => simp only [List.length_cons, sumB]; omega
theorem bulk_append {H : Type} (l r : List (DataW H)) : Rows.uptoBulkAll (l ++ r) = Rows.uptoBulkAll l + Rows.uptoBulkAll r := by
  induction l with
  | nil => simp [Rows.uptoBulkAll]
  | cons x l ih => simp only [List.cons_append, Rows.uptoBulkAll, ih]; omega
theorem Lays.elems {α : Type} {e : TypeId} {R : Rep α} {B : α → Nat} (a : Lays P e R B) {H : Type} (enc : TypeId × Value → H) (W : World) (m : Nat) (ad : Addr) (elems : List (DataW H × List MemPlace))
    (he : ∀ i, i < elems.length → (W.cells? 0 (ad.add (i * P.cellsOf e)) (P.cellsOf e)).bind (DataW.trod enc P W 0 (fun _ => true) true m e) = elems[i]?) (b : Blk W) (ι : Inj) (h : DHeap) (s : Rds ι h W) : ∀ k, k ≤ elems.length →
    ∃ ι' h' cells ys, Rds ι' h' W ∧ ι.le ι' ∧ Ext h h' ∧ ys.length = k ∧ Els R (fun i => i < h'.next) h' cells ys ∧ (∀ (i : Nat) v, cells[i]? = some v → ∃ v' cur ty fz, W.heap[ad.block]? = some (.cells cur ty fz) ∧ cur[ad.off + i]? = some v' ∧ VRel ι' v v') ∧
      sumB B ys ≤ Rows.uptoBulkAll ((elems.take k).map (·.1)) := by
  intro k
  induction k with
  | zero => exact fun _ => ⟨ι, h, [], [], s, Inj.le_refl _, .refl _, rfl, rfl, fun i v hv => by simp at hv, by simp [sumB]⟩
  | succ k ih =>
    intro hk
    obtain ⟨ι1, h1, c1, ys, g1, g2, g3, g4, g5, g6, g7⟩ := ih (by omega)
    have hlt : k < elems.length := by omega
    have h0 := he k hlt
    rw [List.getElem?_eq_getElem hlt, Option.bind_eq_some_iff] at h0
    obtain ⟨cs, hc, ht⟩ := h0
    obtain ⟨hcl, hcg⟩ := cells_get hc
    obtain ⟨ι2, h2, c2, y, k1, k2, k3, k4, k5, k6⟩ := a.lay enc W m cs _ ht (.of b _) ι1 h1 g1
    have hl1 : c1.length = k * R.z := by rw [g5.len, g4]
    have hl2 : c2.length = R.z := R.len k5
    refine ⟨ι2, h2, c1 ++ c2, ys ++ [y], k1, Inj.le_trans g2 k2, g3.trans k3, by simp [g4], Els.append (g5.mono fun i hi => ⟨Nat.lt_of_lt_of_le hi k3.next, k3.get i hi⟩) (.single k5), fun i v hv => ?_, ?_⟩
    · rw [List.getElem?_append] at hv
      split at hv
      · obtain ⟨v', cur, ty, fz, x1, x2, x3⟩ := g6 i v hv
        exact ⟨v', cur, ty, fz, x1, x2, x3.mono k2⟩
      · rename_i hi
        have hj : i - c1.length < c2.length := (List.getElem?_eq_some_iff.1 hv).1
        obtain ⟨v', hv', hr⟩ := k4.get hv
        have hj' : i - c1.length < P.cellsOf e := by rw [a.size]; omega
        have hcell := hcg (i - c1.length) hj'
        rw [hv'] at hcell
        obtain ⟨_, cur, ty, fz, x1, x2⟩ := cell_at hcell
        obtain ⟨y1, y2⟩ := add_add ad (k * P.cellsOf e) (i - c1.length)
        rw [y1] at x1
        rw [y2, a.size, hl1] at x2
        exact ⟨v', cur, ty, fz, x1, by rw [show ad.off + (k * R.z + (i - k * R.z)) = ad.off + i by omega] at x2; exact x2, hr⟩
    · rw [sumB_append, List.take_add_one, List.getElem?_eq_getElem hlt]
      simp only [List.map_append, bulk_append, Option.toList_some, List.map_cons, List.map_nil, Rows.uptoBulkAll, sumB]
      have := Rows.one_le elems[k].1
      omega
theorem Lays.slice {α : Type} {t e : TypeId} {R : Rep α} {B : α → Nat} (hu : P.underlying t = some (.slice e)) (hz : P.cellsOf t = 1) (hp : 0 < R.z) (a : Lays P e R B) : Lays P t (rSl R) (sumB B) where
  size := hz
  lay enc W n cs x h b ι hh s := by
    rcases DataW.trod_slice hu h with ⟨rfl, rfl⟩ | ⟨ad, len, cap, elems, rest, m, rfl, rfl, rfl, hb0, hlc, hcm, hel, he, hs, _⟩
    · exact ⟨ι, hh, [.slice none 0 0], [], s, Inj.le_refl _, .refl _, (LRel.nil ι).cons .snil, ⟨_, rfl, Sl.nil _ _ _⟩, Nat.zero_le _⟩
    · replace b : Blk W := b ad len cap (by simp)
      obtain ⟨hrl, hr⟩ := hs rfl
      obtain ⟨ι1, h1, cells, ys, g1, g2, g3, g4, g5, g6, g7⟩ := a.elems enc W m ad elems (fun i hi => he i (by omega)) b ι hh s elems.length (Nat.le_refl _)
      have hcl : cells.length = len * R.z := by rw [g5.len, g4, hel]
      rw [List.take_length] at g7
      -- the block
      have hblk : ∃ bb sh cur ty fz, W.heap[bb]? = some (.cells cur ty fz) ∧ (0 < cap → ad = ⟨bb, sh, none⟩) ∧ ∀ (i : Nat) v, cells[i]? = some v → ∃ v', cur[sh + i]? = some v' ∧ VRel ι1 v v' := by
        by_cases hc0 : cap = 0
        · obtain ⟨bb, cur, ty, fz, e1⟩ := b
          refine ⟨bb, 0, cur, ty, fz, e1, fun hh => by omega, fun i v hv => ?_⟩
          have := (List.getElem?_eq_some_iff.1 hv).1
          rw [hcl, show len = 0 by omega] at this
          omega
        · have h0 : ∃ v, W.cell? ((ad.add 0).add 0) = some v := by
            by_cases hl0 : len = 0
            · have hx := hr 0 (by omega)
              rw [List.getElem?_eq_getElem (by omega), Option.bind_eq_some_iff] at hx
              obtain ⟨cs', hc', _⟩ := hx
              obtain ⟨q1, q2⟩ := cells_get hc'
              have := q2 0 (by rw [a.size]; exact hp)
              rw [hl0, Nat.zero_add, Nat.zero_mul, List.getElem?_eq_getElem (by rw [q1, a.size]; exact hp)] at this
              exact ⟨_, this⟩
            · have hx := he 0 (by omega)
              rw [List.getElem?_eq_getElem (by omega), Option.bind_eq_some_iff] at hx
              obtain ⟨cs', hc', _⟩ := hx
              obtain ⟨q1, q2⟩ := cells_get hc'
              have := q2 0 (by rw [a.size]; exact hp)
              rw [Nat.zero_mul, List.getElem?_eq_getElem (by rw [q1, a.size]; exact hp)] at this
              exact ⟨_, this⟩
          obtain ⟨v0, hv0⟩ := h0
          have hadd : (ad.add 0).add 0 = ad := by simp [Addr.add]
          rw [hadd] at hv0
          obtain ⟨hsp, cur, ty, fz, e1, _⟩ := cell_at hv0
          refine ⟨ad.block, ad.off, cur, ty, fz, e1, fun _ => by cases ad; simp_all, fun i v hv => ?_⟩
          obtain ⟨v', cur', ty', fz', x1, x2, x3⟩ := g6 i v hv
          rw [e1] at x1
          cases x1
          exact ⟨v', x2, x3⟩
      obtain ⟨bb, sh, cur, ty, fz, e1, e2, e3⟩ := hblk
      obtain ⟨k1, k2, k3⟩ := g1.push e1 sh R.z e3
      refine ⟨_, _, [.slice (some ⟨h1.next, 0, none⟩) ys.length cap], ys, k1, Inj.le_trans g2 k2, g3.trans k3, (LRel.nil _).cons ?_, ⟨_, rfl, .inr ⟨h1.next, 0, cap, cells, R.z, true, rfl, Nat.lt_succ_self _, get_push_same _ _, .inl rfl, ?_, ?_⟩⟩, ?_⟩
      · rw [show len = ys.length by omega]
        exact .slice (Inj.upd_same _ _ _) (by omega) (fun h => h) (fun hc => e2 hc) (fun hh => by cases hh)
      · rw [hcl, g4, hel]; omega
      · rw [List.drop_zero, List.take_of_length_le (by rw [hcl, g4, hel]; exact Nat.le_refl _)]
        exact g5.mono fun i hi => ⟨Nat.lt_of_lt_of_le hi k3.next, k3.get i hi⟩
      · simp only [Rows.uptoBulk]; omega
  stay enc W W' n cs x sp h h2 h3 := by
    obtain ⟨m, rfl⟩ := trod_pos h
    rcases DataW.trod_slice hu h with ⟨rfl, rfl⟩ | ⟨ad, len, cap, _, _, _, _, rfl, _⟩
    · simp only [DataW.trod, hu]
    · simp only [DataW.trod, hu, if_true] at h ⊢
      split at h
      · rename_i hc
        rw [if_pos hc]
        simp only [Option.map_eq_some_iff, Option.bind_eq_some_iff] at h ⊢
        obtain ⟨elems, he, rest, hrest, rfl⟩ := h
        have hlen : elems.length = len := by simpa using mapM_some_length he
        have hrl : rest.length = cap - len := by simpa using mapM_some_length hrest
        have one : ∀ (i : Nat) (y : DataW _ × List MemPlace), i < elems.length + rest.length → y ∈ elems ++ rest →
            (W.cells? 0 (ad.add (i * P.cellsOf e)) (P.cellsOf e)).bind (DataW.trod enc P W 0 (fun _ => true) true m e) = some y → (W'.cells? 0 (ad.add (i * P.cellsOf e)) (P.cellsOf e)).bind (DataW.trod enc P W' 0 sp true m e) = some y := by
          intro i y hi hy hv
          simp only [Option.bind_eq_some_iff] at hv ⊢
          obtain ⟨cs', hc', hy'⟩ := hv
          have hm : ∀ p ∈ y.2, p ∈ (elems ++ rest).flatMap (·.2) := fun p hp => List.mem_flatMap.2 ⟨y, hy, hp⟩
          refine ⟨cs', World.cells?_carry hc' (fun p hp => h2 p ?_), a.stay enc W W' m cs' y sp hy' (fun p hp => h2 p (List.mem_append_right _ (hm p hp))) (fun p hp => h3 p (List.mem_append_right _ (hm p hp)))⟩
          obtain ⟨j, hj, rfl⟩ := MemPlace.mem_row.1 hp
          refine List.mem_append_left _ (MemPlace.mem_row.2 ⟨i * P.cellsOf e + j, ?_, ?_⟩)
          · calc i * P.cellsOf e + j < i * P.cellsOf e + P.cellsOf e := by omega
              _ = (i + 1) * P.cellsOf e := by rw [Nat.add_mul, Nat.one_mul]
              _ ≤ (elems.length + rest.length) * P.cellsOf e := Nat.mul_le_mul_right _ hi
          · unfold Addr.add
            split
            · rename_i h0
              simp [h0]
            · simp [Nat.add_assoc]
        refine ⟨elems, mapM_carry he (fun i y hi hy => one i y (by have : i < len := (by simpa using hi); omega) (by simp [hy])), rest, ?_, rfl⟩
        by_cases hc0 : cap - len = 0
        · have hr0 : rest = [] := List.eq_nil_of_length_eq_zero (by omega)
          rw [hr0, hc0]
          split <;> rfl
        · have hsp : sp ad.block = true := by
            have : MemPlace.cell ad.block (ad.off + 0) ∈ MemPlace.row ad ((elems.length + rest.length) * P.cellsOf e) := MemPlace.mem_row.2 ⟨0, by
              rw [a.size]
              exact Nat.mul_pos (by omega) hp, rfl⟩
            exact h3 _ (List.mem_append_left _ this)
          rw [if_pos hsp]
          exact mapM_carry hrest (fun j y hj hy => one (len + j) y (by have : j < cap - len := (by simpa using hj); omega) (by simp [hy]))
      · cases h
end Go.D

namespace Go.D
open Go.Proofs.Ytlhgijpdhniddaa (Rows.uptoBulk Rows.uptoBulkAll Rows.uptoSmall)
open Go.ChangeShapes Go.RowKit
variable {P : Program}

/-- a parameter's value: one cell, or a struct's cells -/
def argV (agg : Bool) (cs : List Value) : Value := if agg then .agg cs.toArray else cs.headD undef
def oneDesc : TypeDesc → Bool
  | .int _ | .bool | .slice _ => true
  | _ => false
/-- a parameter's type: a struct, or one cell that is read -/
def Par (P : Program) (t : TypeId) (agg : Bool) : Prop := if agg then ∃ fs, P.underlying t = some (.struct fs) else ∃ d, P.underlying t = some d ∧ oneDesc d = true
theorem has_blk {W : World} {base : Nat} {a : Addr} {e : TypeId} {n : Nat} (h : W.has P .any base a e n) : Blk W := by
  obtain ⟨_, _, row, cells, hs, _⟩ := h
  unfold World.shape? at hs
  split at hs
  · rename_i c elem fz e
    exact ⟨_, _, _, _, e⟩
  · cases hs
theorem okCell_blk {W : World} {base : Nat} {t : TypeId} {a : Addr} {len cap : Nat} (h : Cell.okWide P W .any base t (.slice (some a) len cap)) : Blk W := by
  unfold Cell.okWide at h
  split at h <;> try simp_all
  unfold Cell.ok at h
  split at h <;> try simp_all
  exact has_blk h.2.2
theorem ok_blk {W : World} {base : Nat} {t : TypeId} {v : Value} (h : Value.okWide P W .any base t v) : BlkOf W v.cells.toList := by
  intro a len cap hm
  unfold Value.okWide at h
  have one : Cell.okWide P W .any base t v → Blk W := fun hc => by
    have hv : v.cells = #[v] ∨ (∃ cs, v = .agg cs) ∨ (∃ cs, v = .tuple cs) := by
      cases v <;> first | exact .inl rfl | exact .inr (.inl ⟨_, rfl⟩) | exact .inr (.inr ⟨_, rfl⟩)
    rcases hv with hv | ⟨cs, rfl⟩ | ⟨cs, rfl⟩
    · rw [hv] at hm
      simp only [List.mem_singleton] at hm
      subst hm
      exact okCell_blk hc
    · exfalso
      unfold Cell.okWide at hc
      split at hc <;> simp_all
      unfold Cell.ok at hc
      split at hc <;> simp_all
    · exfalso
      unfold Cell.okWide at hc
      split at hc <;> simp_all
      unfold Cell.ok at hc
      split at hc <;> simp_all
  have agg : (∃ cs, v = .agg cs ∧ cs.size = P.cellsOf t ∧ Row.okWide P W .any base t cs) → Blk W := fun ⟨cs, e, _, ts, _, _, hr⟩ => by
    subst e
    obtain ⟨i, hi⟩ := List.mem_iff_getElem?.1 hm
    obtain ⟨u, _, hu⟩ := hr i _ (by simpa [Value.cells] using hi)
    exact okCell_blk hu
  split at h
  · exact agg h
  · exact agg h
  · exact one h
theorem Lays.arg {α : Type} {t : TypeId} {R : Rep α} {B : α → Nat} {agg : Bool} (hp : Par P t agg) (a : Lays P t R B) {H : Type} {enc : TypeId × Value → H} {W : World} {base : Nat} {v : Value} {d : DataW H} {ps : List MemPlace}
    (ht : DataW.Trod enc P W 0 (fun _ => true) true t v d ps) (hv : Value.okWide P W .any base t v) {ι : Inj} {h : DHeap} (s : Rds ι h W) :
    ∃ ι' h' cs0 y, Rds ι' h' W ∧ ι.le ι' ∧ Ext h h' ∧ VRel ι' (argV agg cs0) v ∧ R.rd (fun i => i < h'.next) h' cs0 y ∧ B y ≤ Rows.uptoBulk d := by
  obtain ⟨n, hn⟩ := ht
  obtain ⟨ι', h', cs0, y, g1, g2, g3, g4, g5, g6⟩ := a.lay enc W n _ _ hn (ok_blk hv) ι h s
  refine ⟨ι', h', cs0, y, g1, g2, g3, ?_, g5, g6⟩
  unfold Par at hp
  unfold Value.okWide at hv
  cases agg with
  | true =>
    obtain ⟨fs, hu⟩ := hp
    rw [hu] at hv
    obtain ⟨cs, rfl, _⟩ := hv
    obtain ⟨x1, x2⟩ := g4
    exact .agg (by simpa [Value.cells] using x1) (fun i v v' a b => x2 i v v' (by simpa using a) (by simpa [Value.cells] using b))
  | false =>
    obtain ⟨de, hu, ho⟩ := hp
    have hc : Cell.okWide P W .any base t v := by
      rw [hu] at hv
      cases de <;> first | exact hv | simp [oneDesc] at ho
    have h1 : v.cells = #[v] := by
      cases v <;> first | rfl | (exfalso; unfold Cell.okWide at hc; rw [hu] at hc; cases de <;> simp [oneDesc, Cell.ok, hu] at ho hc)
    rw [h1] at g4
    obtain ⟨x1, x2⟩ := g4
    match cs0, x1 with
    | [c], _ => exact x2 0 c v rfl rfl

/-- parameters, one behind the other -/
inductive Pars (P : Program) : {α : Type} → List TypeId → ((Nat → Prop) → DHeap → List Value → α → Prop) → (α → Nat) → Prop
  | nil : Pars P [] (fun _ _ vs (_ : Unit) => vs = []) (fun _ => 0)
  | cons {α β : Type} {t : TypeId} {ts : List TypeId} {agg : Bool} {R : Rep α} {B : α → Nat} {Q : (Nat → Prop) → DHeap → List Value → β → Prop} {C : β → Nat} (hp : Par P t agg) (hl : Lays P t R B) (hr : Pars P ts Q C) :
      Pars P (t :: ts) (fun S h vs (x : α × β) => ∃ cs vs', vs = argV agg cs :: vs' ∧ R.rd S h cs x.1 ∧ Q S h vs' x.2) (fun x => B x.1 + C x.2)
theorem Pars.lay {α : Type} {ts : List TypeId} {Q : (Nat → Prop) → DHeap → List Value → α → Prop} {B : α → Nat} (a : Pars P ts Q B) : ∀ {H : Type} {enc : TypeId × Value → H} {W : World} {base : Nat} {vs : List Value} {ds : List (DataW H)} {ps : List MemPlace},
    DataW.TrodAll enc P W 0 (fun _ => true) true ts vs ds ps → (∀ (j : Nat) t v, ts[j]? = some t → vs[j]? = some v → Value.okWide P W .any base t v) → ∀ {ι : Inj} {h : DHeap}, Rds ι h W →
    ∃ ι' h' vs0 y, Rds ι' h' W ∧ ι.le ι' ∧ Ext h h' ∧ LRel ι' vs0 vs ∧ (∀ h1, Ext h' h1 → Q (fun i => i < h1.next) h1 vs0 y) ∧ B y ≤ Rows.uptoBulkAll ds := by
  induction a with
  | nil =>
    intro H enc W base vs ds ps ht hv ι h s
    obtain ⟨rfl, rfl, rfl⟩ := trodAll_nil ht
    exact ⟨ι, h, [], (), s, Inj.le_refl _, .refl _, LRel.nil _, fun _ _ => rfl, Nat.le_refl _⟩
  | cons hp hl hr ih =>
    intro H enc W base vs ds ps ht hv ι h s
    obtain ⟨v, vs, d, ds, p, q, rfl, rfl, rfl, t1, t2⟩ := trodAll_cons ht
    obtain ⟨ι1, h1, cs, y, g1, g2, g3, g4, g5, g6⟩ := hl.arg hp t1 (hv 0 _ _ rfl rfl) s
    obtain ⟨ι2, h2, vs0, z, k1, k2, k3, k4, k5, k6⟩ := ih t2 (fun j t v a b => hv (j + 1) t v a b) g1
    exact ⟨ι2, h2, argV _ cs :: vs0, (y, z), k1, Inj.le_trans g2 k2, g3.trans k3, LRel.cons (g4.mono k2) k4, fun h3 e => ⟨cs, vs0, rfl, rd_ext _ g5 (k3.trans e), k5 h3 e⟩, by simp only [Rows.uptoBulkAll]; omega⟩
theorem Pars.stay {α : Type} {ts : List TypeId} {Q : (Nat → Prop) → DHeap → List Value → α → Prop} {B : α → Nat} (a : Pars P ts Q B) : ∀ {H : Type} {enc : TypeId × Value → H} {W W' : World} {sp : Nat → Bool} {vs : List Value} {ds : List (DataW H)} {ps : List MemPlace},
    DataW.TrodAll enc P W 0 (fun _ => true) true ts vs ds ps → (∀ p ∈ ps, W.sameAt W' p) → (∀ p ∈ ps, sp p.block = true) → DataW.TrodAll enc P W' 0 sp true ts vs ds ps := by
  induction a with
  | nil =>
    intro H enc W W' sp vs ds ps ht _ _
    obtain ⟨rfl, rfl, rfl⟩ := trodAll_nil ht
    rfl
  | cons hp hl hr ih =>
    intro H enc W W' sp vs ds ps ht h2 h3
    obtain ⟨v, vs, d, ds, p, q, rfl, rfl, rfl, ⟨n, t1⟩, t2⟩ := trodAll_cons ht
    exact ⟨p, q, ⟨n, hl.stay enc W W' n _ _ sp t1 (fun x hx => h2 x (List.mem_append_left _ hx)) (fun x hx => h3 x (List.mem_append_left _ hx))⟩, ih t2 (fun x hx => h2 x (List.mem_append_right _ hx)) (fun x hx => h3 x (List.mem_append_right _ hx)), rfl⟩

section
variable {H : Type} {enc : TypeId × Value → H}
/-- what was there is as it was -/
theorem post_of_kept {f : Func} {s : ChangeSpec} {apart fresh handsOn again : Bool} {W W' : World} {args : Array Value} {v : Value} {ds gs : List (DataW H)} {before pa pv : List MemPlace}
    (hW : DataW.Whole enc P f.params.toList s.vars apart W args.toList ds gs before)
    (hres : ∀ (b : Nat) (sp : Nat → Bool) (hd : Bool), DataW.TrodAll enc P W' b sp hd f.resultTypes.toList (v.resultList f.resultTypes.size) (s.fn H (ds ++ gs)).results [])
    (hargs : ∀ sp : Nat → Bool, (∀ p ∈ before, sp p.block = true) → DataW.TrodAll enc P W' 0 sp true f.params.toList args.toList (s.fn H (ds ++ gs)).args pa)
    (hvars : ∀ sp : Nat → Bool, (∀ p ∈ before, sp p.block = true) → DataW.TrodVars enc P W' sp s.vars (s.fn H (ds ++ gs)).vars pv)
    (hps : before = pa ++ pv) (hos : W'.os = W.os) (hout : W'.output = W.output) (hk : ∀ b, b < W.heap.size → W'.heap[b]? = W.heap[b]?)
    (hok : ∀ (j : Nat) (t : TypeId) (r : Value), f.resultTypes[j]? = some t → (v.resultList f.resultTypes.size)[j]? = some r → Value.okWide P W' .any 0 t r) :
    s.post enc P f apart fresh handsOn again W args v W' := by
  have hlt := hW.lt
  have hold : ∀ p ∈ before, (fun b => decide (b < W.heap.size)) p.block = true := fun p hp => by simpa using hlt p hp
  have hkept : ∀ may, W.keptBut W' may := fun may => ⟨hos, hout, fun i hi => by
    rw [hk i hi]
    exact (World.keptBut_refl W may).2.2 i hi⟩
  refine ⟨ds, gs, before, [], pa, pv, hW, hres _ _ _, hargs _ hold, hvars _ hold, hkept _, fun _ => ?_⟩
  · obtain ⟨_, _, _, _, _, hz, hn⟩ := hW
    refine ⟨hok, _, _, ([] ++ pa) ++ pv, ⟨[] ++ pa, pv, trodAll_append (hargs _ (fun _ _ => rfl)) (hres _ _ _), hvars _ (fun _ _ => rfl), rfl, ?_, ?_⟩, ?_⟩
    · intro b off hp
      have hp' : MemPlace.cell b off ∈ before := by rw [hps]; simpa using hp
      have : W'.frozen? ⟨b, off, none⟩ = W.frozen? ⟨b, off, none⟩ := by
        simp only [World.frozen?]
        rw [hk b (hlt _ hp')]
      rw [this]
      exact hz b off hp'
    · intro ha
      have := hn ha
      rw [hps] at this
      simpa using this
    · intro p hp _
      rw [hps]
      simpa using hp
theorem trodVars_nil {W : World} {sp : Nat → Bool} {gs : List (DataW H)} {q : List MemPlace} (h : DataW.TrodVars enc P W sp [] gs q) : gs = [] ∧ q = [] := by
  cases gs with
  | nil => exact ⟨rfl, h⟩
  | cons => exact h.elim

/-- a law: its contract over plain heaps gives its statement -/
theorem law_kept {α : Type} {f : FuncId} {fn : Func} {ts : List TypeId} {Q : (Nat → Prop) → DHeap → List Value → α → Prop} {B : α → Nat} {tb : TypeId} {s : ChangeSpec} {apart fresh handsOn again : Bool} (hts : fn.params.toList = ts) (pars : Pars P ts Q B)
    (hrt : fn.resultTypes = #[tb]) (hb : P.underlying tb = some .bool) (hs : s.vars = []) (hfn : ∀ ds : List (DataW H), ds.length = ts.length → s.fn H ds = { results := [.lit (.bool true)], args := ds })
    (ct : ∀ h vs x, h.ng = 0 → Q (fun i => i < h.next) h vs x → B x ≤ 1048576 → Ct P f vs h (fun r _ => r = .ret (.bool true)))
    (W : World) (base : Nat) (args : Array Value) (ds gs : List (DataW H)) (before : List MemPlace)
    (hval : ∀ (j : Nat) t v, fn.params[j]? = some t → args[j]? = some v → Value.okWide P W .any base t v)
    (hW : DataW.Whole enc P fn.params.toList s.vars apart W args.toList ds gs before) (hk : Rows.uptoSmall H (ds ++ gs) = true) :
    Calls P f args W fun e W' => ∃ v, e = .returned v ∧ s.post enc P fn apart fresh handsOn again W args v W' := by
  have hW' := hW
  obtain ⟨p, q, hA, hV, rfl, hfz, hnd⟩ := hW
  rw [hs] at hV
  obtain ⟨rfl, rfl⟩ := trodVars_nil hV
  rw [hts] at hA
  have hk' : Rows.uptoBulkAll ds ≤ 1048576 := by
    have := of_decide_eq_true hk
    simpa using this
  obtain ⟨ι, h, vs, y, s1, _, he, hr, hq, hB⟩ := pars.lay hA (fun j t v a b => hval j t v (by simpa [← hts] using a) (by simpa using b)) (Rds.none W)
  have hng : h.ng = 0 := he.ng
  have c := ct h vs y hng (hq h (.refl _)) (by omega) 0 ι W args s1.sim hr
  refine callsIn_wide.1 (CallsIn.mono c fun e W' ⟨ι', r, h', hR, _, hE, sim', st⟩ => ?_)
  subst hR
  cases e with
  | returned v =>
    have hv : v = .bool true := by
      have : VRel ι' (.bool true) v := hE
      cases this; rfl
    subst hv
    have hheap : ∀ b, b < W.heap.size → W'.heap[b]? = W.heap[b]? := fun b hb => st.frame b hb fun id e he _ => s1.ro id e he
    have hlen : ds.length = ts.length := by
      have : ∀ {ts : List TypeId} {vs : List Value} {ds : List (DataW H)} {ps : List MemPlace}, DataW.TrodAll enc P W 0 (fun _ => true) true ts vs ds ps → ds.length = ts.length := by
        intro ts
        induction ts with
        | nil => intro vs ds ps h; obtain ⟨_, rfl, _⟩ := trodAll_nil h; rfl
        | cons t ts ih =>
          intro vs ds ps h
          obtain ⟨_, _, _, _, _, _, _, rfl, _, _, h2⟩ := trodAll_cons h
          simp [ih h2]
      exact this hA
    have hlt : ∀ x ∈ p, x.block < W.heap.size := DataW.TrodAll.lt hA
    have hsame : ∀ x ∈ p, W.sameAt W' x := fun x hx => by
      have hb := hheap _ (hlt x hx)
      cases x with
      | cell b off => simp only [World.sameAt, World.cell?]; rw [show W'.heap[b]? = W.heap[b]? from hb]
      | map b => exact hb
    refine ⟨_, rfl, post_of_kept (pa := p) (pv := []) hW' ?_ ?_ ?_ rfl st.os st.output hheap ?_⟩
    · intro b sp hd
      rw [List.append_nil, hfn ds hlen, hrt]
      exact trodAll_cons_mk (shut_bool hb _) trodAll_mk0
    · intro sp hsp
      rw [List.append_nil, hfn ds hlen, hts]
      exact pars.stay hA hsame (fun x hx => hsp x (by simpa using hx))
    · intro sp hsp
      rw [List.append_nil, hfn ds hlen, hs]
      rfl
    · intro j t r h1 h2
      rw [hrt] at h1 h2
      cases j with
      | zero =>
        simp at h1
        simp [Value.resultList] at h2
        subst h1; subst h2
        simp [Value.okWide, hb, Cell.okWide, Cell.ok]
      | succ j => simp at h1
  | _ => exact hE.elim
end
end Go.D

namespace Go.D
variable {P : Program} {α : Type} {R : Rep α} {S S' : Nat → Prop} {K h : DHeap} {v : Value} {l : List α}

theorem laid_src {cs : List Value} {x : α} {z n : Nat} (hx : R.rd S K cs x) (hz : z = R.z) (hp : 0 < R.z) : srcCells R.z 1 (.slice (some ⟨K.next, 0, none⟩) 1 n) (K.push (.row cs z false)) = some cs := by
  subst hz
  have hl := R.len hx
  simp only [srcCells, get_push_same]
  simp [hl]
  exact List.take_of_length_le (by omega)
/-- one element more -/
theorem Owns.snoc {w : Option Nat} {ts : Array TypeId} {cs : List Value} {x : α} {z b : Nat} (ho : Owns R S K v l w) (hS : ∀ i, S i → i < K.next ∧ w ≠ some i) (hx : R.rd S K cs x) (hz : z = R.z) (hp : 0 < R.z) (hT : appT P ts = some (R.z, b)) (hlen : l.length + 1 ≤ 4294967296) (hb : b ≤ 32768) :
    ∃ v' h2, dAppend P ts v (.slice (some ⟨K.next, 0, none⟩) 1 1) (K.push (.row cs z false)) = some (v', h2) ∧ h2.next = K.next + 2 ∧ h2.ng = K.ng ∧ (∀ i, i < K.next → w ≠ some i → h2.get i = K.get i) ∧
      Owns R S h2 v' (l ++ [x]) (some (K.next + 1)) := by
  have hw := ho.lt
  have hg : ∀ i, S i → (K.push (.row cs z false)).get i = K.get i := fun i hi => get_push_other _ _ (hS i hi).1
  have ho2 : Owns R S (K.push (.row cs z false)) v l w := ho.mono (Nat.le_succ _) (fun i hi => get_push_other _ _ (hw i hi)) (fun i hi => ⟨hi, hg i hi⟩)
  have hm : (l.length + 1) * b ≤ 4294967296 * 32768 := Nat.mul_le_mul hlen hb
  obtain ⟨v', h2, w', e3, g, o, hw'⟩ := ho2.append (k := [x]) (x := .slice (some ⟨K.next, 0, none⟩) 1 1) hT (fun i hi => ⟨Nat.lt_succ_of_lt (hS i hi).1, (hS i hi).2⟩) rfl (laid_src hx hz hp) (.single (R.mono hx fun i hi => ⟨hi, hg i hi⟩)) (by simp only [List.length_singleton]; omega) (by simp only [List.length_singleton]; omega)
  rcases hw' with ⟨h0, _⟩ | ⟨h0, h1⟩
  · cases h0
  · subst h0
    exact ⟨v', h2, e3, h1, g.ng, fun i hi hwi => (g.get i (Nat.lt_succ_of_lt hi) hwi).trans (get_push_other _ _ hi), o⟩
/-- a list of one's own is read by whoever -/
theorem Owns.arg {w : Option Nat} (a : Owns R S h v l w) (hS : ∀ i, S i → i < h.next) : Arg R h v l := by
  have hlt := a.lt
  exact a.sl.mono fun i hi => ⟨by
    rcases hi with hi | hi
    · exact hS i hi
    · exact hlt i hi, rfl⟩
end Go.D

namespace Go.Proofs.Ytlhgijpdhniddaa
open Go.D
set_option maxRecDepth 100000

/-- a row that is read; 'f' is what is made of small numbers -/
def rowA (f : Int → Int) (l : List Int) (a : Nat) (e : Int) : Row × Nat × Int :=
  let p1 := numA l a e
  let p2 := numA l p1.2.1 p1.2.2
  let p3 := numA l p2.2.1 p2.2.2
  let p4 := lenA l p3.2.1 p3.2.2 8
  let p5 := valsA l p4.1.toNat p4.2.1 p4.2.2
  let p6 := numA l p5.2.1 p5.2.2
  let p7 := numA l p6.2.1 p6.2.2
  (⟨p1.1, p2.1, ⟨f p3.1, p5.1, p6.1, f p7.1⟩⟩, p7.2.1, p7.2.2)
def cellsA (l : List Int) : Nat → Nat → Int → Bool → List Cell × Nat × Int × Bool
  | 0, a, e, o => ([], a, e, o)
  | k + 1, a, e, o => if e = 0 then ((cellA l a e o).1 :: (cellsA l k (cellA l a e o).2.1 (cellA l a e o).2.2.1 (cellA l a e o).2.2.2).1, (cellsA l k (cellA l a e o).2.1 (cellA l a e o).2.2.1 (cellA l a e o).2.2.2).2) else ([], a, e, o)
def rowsA (f : Int → Int) (l : List Int) : Nat → Nat → Int → List Row × Nat × Int
  | 0, a, e => ([], a, e)
  | k + 1, a, e => if e = 0 then ((rowA f l a e).1 :: (rowsA f l k (rowA f l a e).2.1 (rowA f l a e).2.2).1, (rowsA f l k (rowA f l a e).2.1 (rowA f l a e).2.2).2) else ([], a, e)
theorem cellsA_stop (l : List Int) (k a : Nat) {e : Int} (o : Bool) (h : k = 0 ∨ e ≠ 0) : cellsA l k a e o = ([], a, e, o) := by
  cases k with
  | zero => rfl
  | succ k =>
    rcases h with h | h
    · omega
    · rw [cellsA, if_neg h]
theorem rowsA_stop (f : Int → Int) (l : List Int) (k a : Nat) {e : Int} (h : k = 0 ∨ e ≠ 0) : rowsA f l k a e = ([], a, e) := by
  cases k with
  | zero => rfl
  | succ k =>
    rcases h with h | h
    · omega
    · rw [rowsA, if_neg h]
theorem cellsA_len (l : List Int) : ∀ (k a : Nat) (e : Int) (o : Bool), (cellsA l k a e o).1.length ≤ k
  | 0, _, _, _ => Nat.le_refl _
  | k + 1, a, e, o => by
    rw [cellsA]
    split
    · simpa using cellsA_len l k _ _ _
    · simp
theorem rowsA_len (f : Int → Int) (l : List Int) : ∀ (k a : Nat) (e : Int), (rowsA f l k a e).1.length ≤ k
  | 0, _, _ => Nat.le_refl _
  | k + 1, a, e => by
    rw [rowsA]
    split
    · simpa using rowsA_len f l k _ _
    · simp
/-- what the whole comes to: the end, what can't be so, what may not be -/
def endE (l : List Int) (a : Nat) (e : Int) (odd : Bool) (x : State) : Int :=
  if e = 0 then (if a < l.length then 13 else if odd = true ∨ mayB x = false then 220 else 0) else e
def parseS (f : Int → Int) (l : List Int) : State :=
  let s := numA l 0 0
  let n := lenA l s.2.1 s.2.2 1048576
  let c := cellsA l n.1.toNat n.2.1 n.2.2 false
  let m := lenA l c.2.1 c.2.2.1 1048576
  let r := rowsA f l m.1.toNat m.2.1 m.2.2
  ⟨s.1, c.1, r.1⟩
def parseE (f : Int → Int) (l : List Int) : Int :=
  let s := numA l 0 0
  let n := lenA l s.2.1 s.2.2 1048576
  let c := cellsA l n.1.toNat n.2.1 n.2.2 false
  let m := lenA l c.2.1 c.2.2.1 1048576
  let r := rowsA f l m.1.toNat m.2.1 m.2.2
  endE l r.2.1 r.2.2 c.2.2.2 ⟨s.1, c.1, r.1⟩
/-- what is answered -/
def parseR (f : Int → Int) (l : List Int) : State := if parseE f l = 0 then parseS f l else ⟨0, [], []⟩

theorem cellA_ok {l : List Int} (hb : ∀ x ∈ l, 0 ≤ x ∧ x ≤ 255) (a : Nat) (e : Int) (o : Bool) : fCell.ok (cellA l a e o).1 := by
  unfold cellA
  exact ⟨⟨wrap_ok _ _, numA_in hb _ _⟩, numA_in hb _ _, numA_in hb _ _⟩
theorem valsA_in {l : List Int} (hb : ∀ x ∈ l, 0 ≤ x ∧ x ≤ 255) : ∀ (k a : Nat) (e : Int), ∀ x ∈ (valsA l k a e).1, inK .i64 x
  | 0, _, _ => by simp [valsA]
  | k + 1, a, e => by
    intro x hx
    rw [valsA] at hx
    rcases List.mem_cons.1 hx with rfl | hx
    · exact numA_in hb _ _
    · exact valsA_in hb k _ _ x hx
theorem rowA_ok {f : Int → Int} (hf : ∀ n, inK .i64 n → inK .i64 (f n)) {l : List Int} (hb : ∀ x ∈ l, 0 ≤ x ∧ x ≤ 255) (a : Nat) (e : Int) : RowOk (rowA f l a e).1 := by
  unfold rowA
  exact ⟨numA_in hb _ _, numA_in hb _ _, hf _ (numA_in hb _ _), numA_in hb _ _, hf _ (numA_in hb _ _)⟩
/-- the program's cell, at a place -/
theorem stCell_at {h : DHeap} {R a : Nat} {bb : Value} {e : Int} {odd : Bool} {l : List Int} (hb : Sl fU8.rep (fun i => i < R) h bb (l.drop a)) (hR : h.get R = some (rdRow bb e odd)) (hn : R < h.next) (hlen : l.length ≤ 4294967296) :
    ∃ b', Sl fU8.rep (fun i => i < R) h b' (l.drop (cellA l a e odd).2.1) ∧ DC Try.prog 30 [.pointer (some ⟨R, 0, none⟩)] h (.ret (cellV (cellA l a e odd).1)) (h.set R (rdRow b' (cellA l a e odd).2.2.1 (cellA l a e odd).2.2.2)) := by
  obtain ⟨n1, a1, e1, x1⟩ : ∃ n1 a1 e1, numA l a e = (n1, a1, e1) := ⟨_, _, _, rfl⟩
  obtain ⟨n2, a2, e2, x2⟩ : ∃ p q r, numA l a1 e1 = (p, q, r) := ⟨_, _, _, rfl⟩
  obtain ⟨n3, a3, e3, x3⟩ : ∃ p q r, numA l a2 e2 = (p, q, r) := ⟨_, _, _, rfl⟩
  obtain ⟨n4, a4, e4, x4⟩ : ∃ p q r, numA l a3 e3 = (p, q, r) := ⟨_, _, _, rfl⟩
  obtain ⟨p1, p2, p3⟩ := next_numA l a e
  obtain ⟨q1, q2, q3⟩ := next_numA l a1 e1
  obtain ⟨r1, r2, r3⟩ := next_numA l a2 e2
  obtain ⟨s1, s2, s3⟩ := next_numA l a3 e3
  rw [x1] at p1 p2 p3
  rw [x2] at q1 q2 q3
  rw [x3] at r1 r2 r3
  rw [x4] at s1 s2 s3
  simp only at p1 p2 p3 q1 q2 q3 r1 r2 r3 s1 s2 s3
  have c := stCell_c hb hR hn (by rw [List.length_drop]; omega) p1 rfl p3 p2 q1 rfl q3 q2 r1 rfl r3 r2
  rw [s1, s2] at c
  rw [cell_form x1 x2 x3 x4]
  refine ⟨_, ?_, c⟩
  have h1 := next_sl (e := e) hb; rw [p3] at h1
  have h2 := next_sl (e := e1) h1; rw [q3] at h2
  have h3 := next_sl (e := e2) h2; rw [r3] at h3
  have h4 := next_sl (e := e3) h3; rw [s3] at h4
  exact h4
/-- the program's row, at a place -/
theorem stRow_at {h : DHeap} {R a : Nat} {bb : Value} {e : Int} {odd : Bool} {l : List Int} (hb : Sl fU8.rep (fun i => i < R) h bb (l.drop a)) (hR : h.get R = some (rdRow bb e odd)) (hn : R < h.next) (hlen : l.length ≤ 4294967296) :
    ∃ b', Sl fU8.rep (fun i => i < R) h b' (l.drop (rowA id l a e).2.1) ∧ DC Try.prog 31 [.pointer (some ⟨R, 0, none⟩)] h (.ret (rowV (rowA id l a e).1 (lv h (rowA id l a e).1.x.vs))) (lh fI64 (h.set R (rdRow b' (rowA id l a e).2.2 odd)) (rowA id l a e).1.x.vs) := by
  obtain ⟨n1, a1, e1, x1⟩ : ∃ n1 a1 e1, numA l a e = (n1, a1, e1) := ⟨_, _, _, rfl⟩
  obtain ⟨n2, a2, e2, x2⟩ : ∃ p q r, numA l a1 e1 = (p, q, r) := ⟨_, _, _, rfl⟩
  obtain ⟨n3, a3, e3, x3⟩ : ∃ p q r, numA l a2 e2 = (p, q, r) := ⟨_, _, _, rfl⟩
  obtain ⟨n4, a4, e4, x4⟩ : ∃ p q r, lenA l a3 e3 8 = (p, q, r) := ⟨_, _, _, rfl⟩
  obtain ⟨vs, a5, e5, x5⟩ : ∃ p q r, valsA l n4.toNat a4 e4 = (p, q, r) := ⟨_, _, _, rfl⟩
  obtain ⟨n6, a6, e6, x6⟩ : ∃ p q r, numA l a5 e5 = (p, q, r) := ⟨_, _, _, rfl⟩
  obtain ⟨n7, a7, e7, x7⟩ : ∃ p q r, numA l a6 e6 = (p, q, r) := ⟨_, _, _, rfl⟩
  obtain ⟨p1, p2, p3⟩ := next_numA l a e
  obtain ⟨q1, q2, q3⟩ := next_numA l a1 e1
  obtain ⟨r1, r2, r3⟩ := next_numA l a2 e2
  obtain ⟨s1, s2, s3⟩ := many_lenA l a3 e3 8
  obtain ⟨u1, u2, u3⟩ := next_numA l a5 e5
  obtain ⟨v1, v2, v3⟩ := next_numA l a6 e6
  rw [x1] at p1 p2 p3
  rw [x2] at q1 q2 q3
  rw [x3] at r1 r2 r3
  rw [x4] at s1 s2 s3
  rw [x6] at u1 u2 u3
  rw [x7] at v1 v2 v3
  simp only at p1 p2 p3 q1 q2 q3 r1 r2 r3 s1 s2 s3 u1 u2 u3 v1 v2 v3
  have h1 := next_sl (e := e) hb; rw [p3] at h1
  have h2 := next_sl (e := e1) h1; rw [q3] at h2
  have h3 := next_sl (e := e2) h2; rw [r3] at h3
  have h4 := next_sl (e := e3) h3; rw [s3] at h4
  obtain ⟨w1, w2, w3⟩ := valsS_A (nextV (nextV (nextV (nextV bb (l.drop a) e) (l.drop a1) e1) (l.drop a2) e2) (l.drop a3) e3) l a4 e4 n4.toNat
  have h5 := valsS_sl (e := e4) h4 n4.toNat
  rw [w2] at h5
  rw [x5] at w1 w2 w3 h5
  simp only at w1 w2 w3 h5
  obtain ⟨b5, hb5⟩ : ∃ b5, (valsS (nextV (nextV (nextV (nextV bb (l.drop a) e) (l.drop a1) e1) (l.drop a2) e2) (l.drop a3) e3) (l.drop a4) e4 n4.toNat).2.1 = b5 := ⟨_, rfl⟩
  rw [hb5] at h5
  have xv : valsS (nextV (nextV (nextV (nextV bb (l.drop a) e) (l.drop a1) e1) (l.drop a2) e2) (l.drop a3) e3) (l.drop a4) e4 n4.toNat = (vs, b5, l.drop a5, e5) := by rw [← w1, ← w2, ← w3, ← hb5]
  have h6 := next_sl (e := e5) h5; rw [u3] at h6
  have h7 := next_sl (e := e6) h6; rw [v3] at h7
  have c := stRow_c hb hR hn (by rw [List.length_drop]; omega) p1 rfl p3 p2 q1 rfl q3 q2 r1 rfl r3 r2 s1 rfl s3 s2 xv u1 rfl u3 u2 v1
  rw [v2] at c
  have hrow : rowA id l a e = (⟨n1, n2, ⟨n3, vs, n6, n7⟩⟩, a7, e7) := by simp only [rowA, x1, x2, x3, x4, x5, x6, x7, id]
  rw [hrow]
  exact ⟨_, h7, c⟩
end Go.Proofs.Ytlhgijpdhniddaa
