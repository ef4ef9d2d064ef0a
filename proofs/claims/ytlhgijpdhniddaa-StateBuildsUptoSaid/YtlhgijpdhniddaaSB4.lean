/-
StateBuilds: for every input of bulk at most 1048576 the law returns true, and the input reads as it did. Conditions: none.
-/
import Derived.Test.YtlhgijpdhniddaaRows
import Derived.WalkKit
import Derived.ProofKit
import Derived.OpenShut
import Derived.JoinedCond
import Derived.Test.YtlhgijpdhniddaaBase1
import Derived.Test.YtlhgijpdhniddaaBase2
import Derived.Test.YtlhgijpdhniddaaSB1
import Derived.Test.YtlhgijpdhniddaaSB2
import Derived.Test.YtlhgijpdhniddaaSB3
set_option linter.unusedSimpArgs false
set_option linter.unusedVariables false
namespace Go.Proofs.Ytlhgijpdhniddaa
open Go.D
set_option maxRecDepth 100000

/-- the i-th part of bytes -/
def pieceL (l : List Int) (i : Nat) : List Int := (l.take (min ((i + 1) * 16384) l.length)).drop (i * 16384)
def manyL (l : List Int) : Nat := (l.length + 16383) / 16384
def partsL (slot : Int) (l : List Int) : List Part := (List.range (manyL l)).map fun (i : Nat) => (⟨slot, (i : Int), (manyL l : Int), pieceL l i⟩ : Part)
/-- a state's parts -/
def partsS (x : State) : List Part := if bytesE x = 0 then partsL x.slot (stateB x) else []
abbrev partV (x : Part) (w : Value) : Value := .agg #[.int .i64 x.slot, .int .i64 x.index, .int .i64 x.many, w]
theorem partsL_len (slot : Int) (l : List Int) : (partsL slot l).length = manyL l := by simp [partsL]
theorem partsL_get {slot : Int} {l : List Int} {i : Nat} (h : i < manyL l) : (partsL slot l)[i]? = some ⟨slot, (i : Int), (manyL l : Int), pieceL l i⟩ := by
  unfold partsL
  rw [List.getElem?_map, List.getElem?_range h]
  rfl
theorem piece_le {l : List Int} {i : Nat} (h : i < manyL l) : i * 16384 ≤ min ((i + 1) * 16384) l.length := by
  unfold manyL at h
  omega
theorem cut_c {h : DHeap} {S : Nat → Prop} {b : Value} {l : List Int} {i j : Nat} (hb : Sl fU8.rep S h b l) (hS : ∀ i, S i → i < h.next) (hij : i ≤ j) (hj : j ≤ l.length) :
    ∃ v', DC Try.prog 56 [b, .int .i64 (i : Nat), .int .i64 (j : Nat)] h (.ret v') h ∧ Sl fU8.rep S h v' ((l.take j).drop i) := by
  obtain ⟨v', e, hs⟩ := hb.slice3 (P := Try.prog) (t := 22) (lo := some (.int .i64 (i : Nat))) (vm := .int .i64 (j : Nat)) (vh := .int .i64 (j : Nat)) (i := i) (j := j) el_22 (by decide) (bound_nat hj) (bound_nat (Nat.le_refl _)) (bound_nat hij) hij hj
  refine ⟨v', Ct.pure (go_56 (by simp) ?_) (hs.vin.mono hS), hs⟩
  simp -implicitDefEqProofs (disch := first | omega | (simp -implicitDefEqProofs only [go_sem, List.size_toArray, List.length_cons, List.length_nil, Nat.reduceAdd]; done)) only [go_sem, Int.reduceLT, Int.reduceLE, Int.reduceEq, reduceIte, true_and, Nat.zero_add, Nat.add_zero, Option.map_some, c56, e]
  exact ⟨_, rfl, rfl, .refl _⟩
theorem bytes0_of {x : State} (h : bytesE x = 0) : mayB x = true ∧ (stateB x).length ≤ 1048576 ∧ bytesL x = stateB x := by
  unfold bytesE at h
  unfold bytesL
  split at h
  · rename_i hm
    split at h
    · cases h
    · rename_i hlen
      exact ⟨hm, by omega, by rw [if_pos hm, if_neg hlen]⟩
  · cases h
theorem part_rd {S : Nat → Prop} {h : DHeap} {x : Part} {w : Value} (h1 : inK .i64 x.slot) (h2 : inK .i64 x.index) (h3 : inK .i64 x.many) (hs : Sl fU8.rep S h w x.data) : rPart.rd S h [.int .i64 x.slot, .int .i64 x.index, .int .i64 x.many, w] x :=
  ⟨_, _, rfl, ⟨rfl, h1⟩, _, _, rfl, ⟨rfl, h2⟩, _, _, rfl, ⟨rfl, h3⟩, w, rfl, hs⟩
theorem rd_part {S : Nat → Prop} {h : DHeap} {cs : List Value} {x : Part} (a : rPart.rd S h cs x) : ∃ w, cs = [.int .i64 x.slot, .int .i64 x.index, .int .i64 x.many, w] ∧ Sl fU8.rep S h w x.data ∧ inK .i64 x.slot ∧ inK .i64 x.index ∧ inK .i64 x.many := by
  obtain ⟨c1, c2, rfl, ⟨rfl, k1⟩, c3, c4, rfl, ⟨rfl, k2⟩, c5, c6, rfl, ⟨rfl, k3⟩, w, rfl, hs⟩ := a
  exact ⟨w, rfl, hs, k1, k2, k3⟩
theorem part_at {S : Nat → Prop} {h : DHeap} {id o : Nat} {x : Part} (a : At rPart S h id o x) : ∃ w, cellsAt h id o 4 = some (partV x w) ∧ Sl fU8.rep S h w x.data ∧ inK .i64 x.slot ∧ inK .i64 x.index ∧ inK .i64 x.many := by
  obtain ⟨cs, e1, e2⟩ := a.load_agg
  obtain ⟨w, rfl, h2⟩ := rd_part e2
  exact ⟨w, e1, h2⟩
theorem bd_part {a b c : Int} {x : Option Addr} {n k : Nat} : dBuild Try.prog 57 [(0, .int .i64 a), (1, .int .i64 b), (2, .int .i64 c), (3, .slice x n k)] = some (.agg #[.int .i64 a, .int .i64 b, .int .i64 c, .slice x n k]) := dBuild_at plc_57 rfl
/-- one more part behind a list of parts -/
theorem parts_c {h : DHeap} {n : Int} {cv rv : Value} {cells : List Cell} {rows : List Row} (hn : inK .i64 n) (hc : Arg fCell.rep h cv cells) (hr : Arg rRow h rv rows) (hlc : cells.length ≤ 16777216) (hlr : rows.length ≤ 16777216) :
    Ct Try.prog 23 [stateV n cv rv] h fun r h1 => ∃ c vp, r = .ret (.func (.func 57) #[] #[.pointer (some ⟨c, 0, none⟩)]) ∧ Ext h h1 ∧ h.next ≤ c ∧ c < h1.next ∧ h1.get c = some (.row [vp] 0 false) ∧
      Sl rPart (fun i => h.next ≤ i ∧ i < h1.next ∧ i ≠ c) h1 vp (partsS ⟨n, cells, rows⟩) := by
  refine go_23 (by simp) ?_
  have c1 := hc.cells1
  have r1 := hr.cells1
  obtain ⟨H0, hH0⟩ : ∃ H, H = h.push (.row [.int .i64 n, cv, rv] 0 false) := ⟨_, rfl⟩
  have hE0 : Ext h H0 := by rw [hH0]; exact Ext.push1 _ _
  have hB0 : H0.get h.next = some (.row [.int .i64 n, cv, rv] 0 false) := by rw [hH0]; exact get_push_same _ _
  have hl3 : cellsAt H0 h.next 0 3 = some (stateV n cv rv) := by rw [cellsAt_row hB0 (Nat.le_of_ble_eq_true rfl)]; rfl
  have hH0n : H0.next = h.next + 1 := by rw [hH0]; rfl
  simp -implicitDefEqProofs (disch := first | omega | (simp -implicitDefEqProofs only [go_sem, List.size_toArray, List.length_cons, List.length_nil, Nat.reduceAdd]; done)) only [go_sem, Int.reduceLT, Int.reduceLE, Int.reduceEq, reduceIte, true_and, Nat.zero_add, Nat.add_zero, Option.map_some, c23, ← hH0, hl3]
  refine ncall_ct (bytes_s hn (hc.ext hE0) (hr.ext hE0) hlc hlr) ?_
  rintro r h1 ⟨v, rfl, hE, ha⟩
  have hEn := hE.next
  have hEh := hE0.trans hE
  by_cases h0 : bytesE ⟨n, cells, rows⟩ = 0
  case neg =>
    simp -implicitDefEqProofs (disch := first | omega | (simp -implicitDefEqProofs only [go_sem, List.size_toArray, List.length_cons, List.length_nil, Nat.reduceAdd]; done)) only [go_sem, Int.reduceLT, Int.reduceLE, Int.reduceEq, reduceIte, true_and, Nat.zero_add, Nat.add_zero, Option.map_some, XEnd, h0]
    refine ⟨_, rfl, h1.next, _, rfl, hEh.push _, by omega, Nat.lt_succ_self _, get_push_same _ _, ?_⟩
    unfold partsS
    rw [if_neg h0]
    exact Sl.nil _ _ _
  obtain ⟨hm, hlen, hbl⟩ := bytes0_of h0
  rw [hbl] at ha
  have hps : partsS ⟨n, cells, rows⟩ = partsL n (stateB ⟨n, cells, rows⟩) := by unfold partsS; rw [if_pos h0]
  rw [hps]
  obtain ⟨l, hl⟩ : ∃ l, stateB ⟨n, cells, rows⟩ = l := ⟨_, rfl⟩
  rw [hl] at ha hlen ⊢
  obtain ⟨H1, hH1⟩ : ∃ H, H = h1.push (.row [.slice none 0 0] 0 false) := ⟨_, rfl⟩
  have hH1n : H1.next = h1.next + 1 := by rw [hH1]; rfl
  have el : ∀ K, dLen Try.prog #[22] v K = some (.int .i64 (l.length : Nat)) := ha.lens (P := Try.prog) (ts := #[22]) (t := 22) rfl isl_22
  have hw1 : IntKind.i64.wrap ((l.length : Int) + 16384) = (l.length : Int) + 16384 := wrap_i64_in (by omega) (by omega)
  have hw2 : IntKind.i64.wrap ((l.length : Int) + 16384 - 1) = (l.length : Int) + 16383 := by rw [wrap_i64_in (by omega) (by omega)]; omega
  have hw3 : IntKind.i64.wrap (((l.length : Int) + 16383).tdiv 16384) = ((manyL l : Nat) : Int) := by
    have : ((l.length : Int) + 16383).tdiv 16384 = ((manyL l : Nat) : Int) := by
      rw [Int.tdiv_eq_ediv_of_nonneg (by omega)]
      unfold manyL
      omega
    rw [this, wrap_i64_in (by omega) (by unfold manyL; omega)]
  have hmany : manyL l ≤ 65 := by unfold manyL; omega
  have hq : ∀ {K : DHeap} {ox oy : Operand}, dBinOp Try.prog .quo 3 ox oy (.int .i64 ((l.length : Int) + 16383)) (.int .i64 16384) K = .ok (.value (.int .i64 ((manyL l : Nat) : Int))) K := fun {K ox oy} => by
    rw [bin_quo (by decide), hw3]
  simp -implicitDefEqProofs (disch := first | omega | (simp -implicitDefEqProofs only [go_sem, List.size_toArray, List.length_cons, List.length_nil, Nat.reduceAdd]; done)) only [go_sem, Int.reduceLT, Int.reduceLE, Int.reduceEq, reduceIte, true_and, Nat.zero_add, Nat.add_zero, Option.map_some, XEnd, h0, ← hH1, el, hw1, hw2, hq]
  refine XLoop_cut (fun s => s.df = [] ∧ s.fr 5 = some (.pointer (some ⟨h1.next, 0, none⟩)) ∧ Ext h s.h ∧ h1.next < s.h.next ∧ ∃ vp, s.h.get h1.next = some (.row [vp] 0 false) ∧ Sl rPart (fun i => h.next ≤ i ∧ i < s.h.next ∧ i ≠ h1.next) s.h vp (partsL n l)) ?_ ?_
  · refine xloop (σ := Nat) (by kernel_rfl) (fun i s => s.df = [] ∧ s.fr 1 = some (.pointer (some ⟨h.next, 0, none⟩)) ∧ s.fr 3 = some v ∧ s.fr 5 = some (.pointer (some ⟨h1.next, 0, none⟩)) ∧ s.fr 6 = some (.int .i64 (manyL l : Nat)) ∧ s.fr 20 = some (.int .i64 (manyL l : Nat)) ∧ s.fr 21 = some (.int .i64 (i : Nat)) ∧ i ≤ manyL l ∧
      (∀ j, j < h1.next → s.h.get j = h1.get j) ∧ H1.next ≤ s.h.next ∧ s.h.ng = h1.ng ∧ ∃ vp w, s.h.get h1.next = some (.row [vp] 0 false) ∧ Owns rPart (fun j => h.next ≤ j ∧ j < h1.next) s.h vp ((partsL n l).take i) w ∧ ∀ x, w = some x → h1.next + 1 ≤ x) (fun i => manyL l - i) 0 ?_ ?_
    · simp -implicitDefEqProofs (disch := first | omega | (simp -implicitDefEqProofs only [go_sem, List.size_toArray, List.length_cons, List.length_nil, Nat.reduceAdd]; done)) only [go_sem, Int.reduceLT, Int.reduceLE, Int.reduceEq, reduceIte, true_and, Nat.zero_add, Nat.add_zero, Option.map_some]
      exact ⟨rfl, Nat.zero_le _, fun j hj => by rw [hH1]; exact get_push_other _ _ hj, Nat.le_refl _, by rw [hH1]; rfl, .slice none 0 0, none, by rw [hH1]; exact get_push_same _ _, Owns.nil _ _ _, by simp⟩
    · rintro i ⟨fr, df, hh, rd⟩ K' hK' hX ⟨rfl, f1, f3, f5, f6, f20, f21, hi, hold, hnx, hng, vp, w, hg, ho, hw⟩
      simp only at f1 f3 f5 f6 f20 f21 hold hnx hng hg ho
      have hwl := ho.lt
      have hnx' : h1.next + 1 ≤ hh.next := by rw [← hH1n]; exact hnx
      have hEhn := hEh.next
      by_cases hc1 : ((i : Nat) : Int) < (manyL l : Nat)
      case neg =>
        have hi2 : i = manyL l := by omega
        simp -implicitDefEqProofs (disch := first | omega | (simp -implicitDefEqProofs only [go_sem, List.size_toArray, List.length_cons, List.length_nil, Nat.reduceAdd]; done)) only [go_sem, Int.reduceLT, Int.reduceLE, Int.reduceEq, reduceIte, true_and, Nat.zero_add, Nat.add_zero, Option.map_some, f20, f21, hc1]
        refine hX _ _ (by simp) ⟨rfl, by simp -implicitDefEqProofs (disch := first | omega | (simp -implicitDefEqProofs only [go_sem, List.size_toArray, List.length_cons, List.length_nil, Nat.reduceAdd]; done)) only [go_sem, Int.reduceLT, Int.reduceLE, Int.reduceEq, reduceIte, true_and, Nat.zero_add, Nat.add_zero, Option.map_some, f5], ⟨Nat.le_trans hEh.next (Nat.le_of_succ_le hnx'), hng.trans hEh.ng, fun j hj => (hold j (Nat.lt_of_lt_of_le hj hEh.next)).trans (hEh.get j hj)⟩, hnx', vp, hg, ?_⟩
        rw [hi2, ← partsL_len n l, List.take_length] at ho
        have key : ∀ j, ((h.next ≤ j ∧ j < h1.next) ∨ w = some j) → h.next ≤ j ∧ j < hh.next ∧ j ≠ h1.next := fun j hj => by
          rcases hj with hj | hj
          · exact ⟨hj.1, by omega, by omega⟩
          · have := hw j hj; have := hwl j hj; exact ⟨by omega, by omega, by omega⟩
        exact ho.sl.mono fun j hj => ⟨key j hj, rfl⟩
      have hlt : i < manyL l := by omega
      have hpl := piece_le hlt
      have ha' : Sl fU8.rep (fun j => h.next ≤ j ∧ j < h1.next) hh v l := ha.mono fun j hj => ⟨⟨by have := hE0.next; omega, hj.2⟩, hold j hj.2⟩
      obtain ⟨v', tc, hs'⟩ := cut_c ha' (fun j hj => by omega) hpl (Nat.min_le_right _ _)
      have hgS : hh.get h.next = some (.row [.int .i64 n, cv, rv] 0 false) := by rw [hold _ (by omega), hE.get _ (by omega)]; exact hB0
      have C1 : cellAt hh h.next 0 = some (.int .i64 n) := cellAt_row hgS
      have C5 : cellAt hh h1.next 0 = some vp := cellAt_row hg
      have hx := partsL_get (slot := n) hlt
      have hwA : IntKind.i64.wrap ((i : Int) * 16384) = ((i * 16384 : Nat) : Int) := by rw [wrap_i64_in (by omega) (by omega)]; omega
      have hwB : IntKind.i64.wrap ((i : Int) + 1) = ((i + 1 : Nat) : Int) := by rw [wrap_i64_in (by omega) (by omega)]; omega
      have hwC : IntKind.i64.wrap (((i + 1 : Nat) : Int) * 16384) = (((i + 1) * 16384 : Nat) : Int) := by rw [wrap_i64_in (by omega) (by omega)]; omega
      have hmin : min (l.length : Int) (((i + 1) * 16384 : Nat) : Int) = ((min ((i + 1) * 16384) l.length : Nat) : Int) := by omega
      have hsl := hs'.isSlice
      have hbp : ∀ a b c : Int, dBuild Try.prog 57 [(0, .int .i64 a), (1, .int .i64 b), (2, .int .i64 c), (3, v')] = some (.agg #[.int .i64 a, .int .i64 b, .int .i64 c, v']) := by
        obtain ⟨_, _, rfl⟩ := hsl
        exact fun a b c => bd_part
      simp -implicitDefEqProofs (disch := first | omega | (simp -implicitDefEqProofs only [go_sem, List.size_toArray, List.length_cons, List.length_nil, Nat.reduceAdd]; done)) only [go_sem, Int.reduceLT, Int.reduceLE, Int.reduceEq, reduceIte, true_and, Nat.zero_add, Nat.add_zero, Option.map_some, f20, f21, hc1]
      refine dr_23_0 ?_
      simp -implicitDefEqProofs (disch := first | omega | (simp -implicitDefEqProofs only [go_sem, List.size_toArray, List.length_cons, List.length_nil, Nat.reduceAdd]; done)) only [go_sem, Int.reduceLT, Int.reduceLE, Int.reduceEq, reduceIte, true_and, Nat.zero_add, Nat.add_zero, Option.map_some, l23_0, f1, f3, f5, f6, C1, C5, el, hwA, hwB, hwC, min_i64, hmin]
      refine dcall tc ?_
      obtain ⟨z2, h2, e3, y1, y2, y3, o3⟩ := ho.snoc (ts := #[44, 44]) (z := 4) (fun j hj => ⟨by omega, fun hwj => by have := hw j hwj; omega⟩)
        (part_rd (x := ⟨n, (i : Int), (manyL l : Int), pieceL l i⟩) hn (inK_i64.2 (by show _ ≤ ((i:Nat):Int) ∧ ((i:Nat):Int) ≤ _; omega)) (inK_i64.2 (by show _ ≤ ((manyL l:Nat):Int) ∧ ((manyL l:Nat):Int) ≤ _; omega)) hs') rfl (by decide) app_44 (by rw [List.length_take, partsL_len]; omega) (by decide)
      have hbs : ∀ (K : DHeap) (a b c : Int), dBuildSlice Try.prog 44 1 [(0, .agg #[.int .i64 a, .int .i64 b, .int .i64 c, v'])] K = some (.slice (some ⟨K.next, 0, none⟩) 1 1, K.push (.row [.int .i64 a, .int .i64 b, .int .i64 c, v'] 4 false)) := fun K a b c => bs1_44 rfl
      have g2 : h2.get h1.next = some (.row [vp] 0 false) := (y3 _ (by omega) (fun hwi => by have := hw _ hwi; omega)).trans hg
      have hsl2 := o3.sl.isSlice
      have hcl2 : z2.cells = #[z2] := o3.sl.cells1
      have hone : [z2].all Value.oneCell' = true := by obtain ⟨_, _, rfl⟩ := hsl2; rfl
      have hst : dStore Try.prog 44 (.pointer (some ⟨h1.next, 0, none⟩)) z2 h2 = some (h2.set h1.next (.row [z2] 0 false)) :=
        (st_44 hcl2).trans (storeAt_row g2 (Nat.le_of_ble_eq_true rfl) hone)
      simp -implicitDefEqProofs (disch := first | omega | (simp -implicitDefEqProofs only [go_sem, List.size_toArray, List.length_cons, List.length_nil, Nat.reduceAdd]; done)) only [go_sem, Int.reduceLT, Int.reduceLE, Int.reduceEq, reduceIte, true_and, Nat.zero_add, Nat.add_zero, Option.map_some, hbp, hbs, e3, f5, hst]
      have D0 : ∀ K : DHeap, K.get h1.next = some (.row [vp] 0 false) → dLoad Try.prog 44 (.pointer (some ⟨h1.next, 0, none⟩)) K = some vp := fun K hk => ld_44.trans (cellAt_row hk)
      have D2 : dLoad Try.prog 2 (.pointer (some ⟨h.next, 0, none⟩)) hh = some (.int .i64 n) := ld_2.trans C1
      refine ⟨⟨XSt1_at (i := 0) (j := 9) rfl rfl rfl ?_, XSt1_at (i := 0) (j := 13) rfl rfl rfl ?_, XSt1_at (i := 0) (j := 14) rfl rfl rfl ?_, XSt1_at (i := 0) (j := 16) rfl rfl rfl ?_, XSt1_at (i := 2) (j := 9) rfl rfl rfl ?_, XSt1_at (i := 2) (j := 13) rfl rfl rfl ?_, XSt1_at (i := 2) (j := 14) rfl rfl rfl ?_, trivial⟩, ?_⟩
      · rw [if_neg (by decide)]
        exact Ld_on (p := .pointer (some ⟨h1.next, 0, none⟩)) (by simp -implicitDefEqProofs (disch := first | omega | (simp -implicitDefEqProofs only [go_sem, List.size_toArray, List.length_cons, List.length_nil, Nat.reduceAdd]; done)) only [go_sem, Int.reduceLT, Int.reduceLE, Int.reduceEq, reduceIte, true_and, Nat.zero_add, Nat.add_zero, Option.map_some]) (by simp -implicitDefEqProofs (disch := first | omega | (simp -implicitDefEqProofs only [go_sem, List.size_toArray, List.length_cons, List.length_nil, Nat.reduceAdd]; done)) only [go_sem, Int.reduceLT, Int.reduceLE, Int.reduceEq, reduceIte, true_and, Nat.zero_add, Nat.add_zero, Option.map_some, f5]) (D0 _ hg)
      · rw [if_neg (by decide)]
        exact Ld_on (p := .pointer (some ⟨h1.next, 0, none⟩)) (by simp -implicitDefEqProofs (disch := first | omega | (simp -implicitDefEqProofs only [go_sem, List.size_toArray, List.length_cons, List.length_nil, Nat.reduceAdd]; done)) only [go_sem, Int.reduceLT, Int.reduceLE, Int.reduceEq, reduceIte, true_and, Nat.zero_add, Nat.add_zero, Option.map_some]) (by simp -implicitDefEqProofs (disch := first | omega | (simp -implicitDefEqProofs only [go_sem, List.size_toArray, List.length_cons, List.length_nil, Nat.reduceAdd]; done)) only [go_sem, Int.reduceLT, Int.reduceLE, Int.reduceEq, reduceIte, true_and, Nat.zero_add, Nat.add_zero, Option.map_some, f5]) (D0 _ hg)
      · rw [if_neg (by decide)]
        exact Ld_on (p := .pointer (some ⟨h1.next, 0, none⟩)) (by simp -implicitDefEqProofs (disch := first | omega | (simp -implicitDefEqProofs only [go_sem, List.size_toArray, List.length_cons, List.length_nil, Nat.reduceAdd]; done)) only [go_sem, Int.reduceLT, Int.reduceLE, Int.reduceEq, reduceIte, true_and, Nat.zero_add, Nat.add_zero, Option.map_some]) (by simp -implicitDefEqProofs (disch := first | omega | (simp -implicitDefEqProofs only [go_sem, List.size_toArray, List.length_cons, List.length_nil, Nat.reduceAdd]; done)) only [go_sem, Int.reduceLT, Int.reduceLE, Int.reduceEq, reduceIte, true_and, Nat.zero_add, Nat.add_zero, Option.map_some, f5]) (D0 _ hg)
      · rw [if_neg (by decide)]
        exact Ld_on (p := .pointer (some ⟨h1.next, 0, none⟩)) (by simp -implicitDefEqProofs (disch := first | omega | (simp -implicitDefEqProofs only [go_sem, List.size_toArray, List.length_cons, List.length_nil, Nat.reduceAdd]; done)) only [go_sem, Int.reduceLT, Int.reduceLE, Int.reduceEq, reduceIte, true_and, Nat.zero_add, Nat.add_zero, Option.map_some]) (by simp -implicitDefEqProofs (disch := first | omega | (simp -implicitDefEqProofs only [go_sem, List.size_toArray, List.length_cons, List.length_nil, Nat.reduceAdd]; done)) only [go_sem, Int.reduceLT, Int.reduceLE, Int.reduceEq, reduceIte, true_and, Nat.zero_add, Nat.add_zero, Option.map_some, f5]) (D0 _ ((get_push_other _ _ (by omega)).trans hg))
      · rw [if_neg (by decide)]
        exact Ld_on (p := .pointer (some ⟨h.next, 0, none⟩)) (by simp -implicitDefEqProofs (disch := first | omega | (simp -implicitDefEqProofs only [go_sem, List.size_toArray, List.length_cons, List.length_nil, Nat.reduceAdd]; done)) only [go_sem, Int.reduceLT, Int.reduceLE, Int.reduceEq, reduceIte, true_and, Nat.zero_add, Nat.add_zero, Option.map_some]) (by simp -implicitDefEqProofs (disch := first | omega | (simp -implicitDefEqProofs only [go_sem, List.size_toArray, List.length_cons, List.length_nil, Nat.reduceAdd]; done)) only [go_sem, Int.reduceLT, Int.reduceLE, Int.reduceEq, reduceIte, true_and, Nat.zero_add, Nat.add_zero, Option.map_some, f1]) D2
      · rw [if_neg (by decide)]
        exact Ld_on (p := .pointer (some ⟨h.next, 0, none⟩)) (by simp -implicitDefEqProofs (disch := first | omega | (simp -implicitDefEqProofs only [go_sem, List.size_toArray, List.length_cons, List.length_nil, Nat.reduceAdd]; done)) only [go_sem, Int.reduceLT, Int.reduceLE, Int.reduceEq, reduceIte, true_and, Nat.zero_add, Nat.add_zero, Option.map_some]) (by simp -implicitDefEqProofs (disch := first | omega | (simp -implicitDefEqProofs only [go_sem, List.size_toArray, List.length_cons, List.length_nil, Nat.reduceAdd]; done)) only [go_sem, Int.reduceLT, Int.reduceLE, Int.reduceEq, reduceIte, true_and, Nat.zero_add, Nat.add_zero, Option.map_some, f1]) D2
      · rw [if_neg (by decide)]
        exact Ld_on (p := .pointer (some ⟨h.next, 0, none⟩)) (by simp -implicitDefEqProofs (disch := first | omega | (simp -implicitDefEqProofs only [go_sem, List.size_toArray, List.length_cons, List.length_nil, Nat.reduceAdd]; done)) only [go_sem, Int.reduceLT, Int.reduceLE, Int.reduceEq, reduceIte, true_and, Nat.zero_add, Nat.add_zero, Option.map_some]) (by simp -implicitDefEqProofs (disch := first | omega | (simp -implicitDefEqProofs only [go_sem, List.size_toArray, List.length_cons, List.length_nil, Nat.reduceAdd]; done)) only [go_sem, Int.reduceLT, Int.reduceLE, Int.reduceEq, reduceIte, true_and, Nat.zero_add, Nat.add_zero, Option.map_some, f1]) D2
      simp -implicitDefEqProofs (disch := first | omega | (simp -implicitDefEqProofs only [go_sem, List.size_toArray, List.length_cons, List.length_nil, Nat.reduceAdd]; done)) only [go_sem, Int.reduceLT, Int.reduceLE, Int.reduceEq, reduceIte, true_and, Nat.zero_add, Nat.add_zero, Option.map_some, f21, hwB]
      refine hK' (i + 1) _ ?_ (by omega)
      refine ⟨by trivial, by simp -implicitDefEqProofs (disch := first | omega | (simp -implicitDefEqProofs only [go_sem, List.size_toArray, List.length_cons, List.length_nil, Nat.reduceAdd]; done)) only [go_sem, Int.reduceLT, Int.reduceLE, Int.reduceEq, reduceIte, true_and, Nat.zero_add, Nat.add_zero, Option.map_some, f1], by simp -implicitDefEqProofs (disch := first | omega | (simp -implicitDefEqProofs only [go_sem, List.size_toArray, List.length_cons, List.length_nil, Nat.reduceAdd]; done)) only [go_sem, Int.reduceLT, Int.reduceLE, Int.reduceEq, reduceIte, true_and, Nat.zero_add, Nat.add_zero, Option.map_some, f3], by simp -implicitDefEqProofs (disch := first | omega | (simp -implicitDefEqProofs only [go_sem, List.size_toArray, List.length_cons, List.length_nil, Nat.reduceAdd]; done)) only [go_sem, Int.reduceLT, Int.reduceLE, Int.reduceEq, reduceIte, true_and, Nat.zero_add, Nat.add_zero, Option.map_some, f5], by simp -implicitDefEqProofs (disch := first | omega | (simp -implicitDefEqProofs only [go_sem, List.size_toArray, List.length_cons, List.length_nil, Nat.reduceAdd]; done)) only [go_sem, Int.reduceLT, Int.reduceLE, Int.reduceEq, reduceIte, true_and, Nat.zero_add, Nat.add_zero, Option.map_some, f6], by simp -implicitDefEqProofs (disch := first | omega | (simp -implicitDefEqProofs only [go_sem, List.size_toArray, List.length_cons, List.length_nil, Nat.reduceAdd]; done)) only [go_sem, Int.reduceLT, Int.reduceLE, Int.reduceEq, reduceIte, true_and, Nat.zero_add, Nat.add_zero, Option.map_some, f20], by simp -implicitDefEqProofs (disch := first | omega | (simp -implicitDefEqProofs only [go_sem, List.size_toArray, List.length_cons, List.length_nil, Nat.reduceAdd]; done)) only [go_sem, Int.reduceLT, Int.reduceLE, Int.reduceEq, reduceIte, true_and, Nat.zero_add, Nat.add_zero, Option.map_some], by omega, ?_, ?_, ?_, z2, some (hh.next + 1), get_set_same _ _, ?_, ?_⟩
      · intro j hj
        exact (get_set_other _ _ (by omega)).trans ((y3 _ (by omega) (fun hwi => by have := hw _ hwi; omega)).trans (hold j hj))
      · show H1.next ≤ h2.next
        omega
      · exact y2.trans hng
      · rw [List.take_add_one, hx]
        exact o3.mono (Nat.le_refl _) (fun x hxw => get_set_other _ _ (by cases hxw; omega)) (fun j hj => ⟨hj, get_set_other _ _ (by omega)⟩)
      · intro x hxw
        cases hxw
        omega
  · rintro ⟨fr, df, hh, rd⟩ ⟨rfl, f5, hE2, hc2, vp, hg, hs⟩
    simp only at f5 hE2 hc2 hg hs
    simp -implicitDefEqProofs (disch := first | omega | (simp -implicitDefEqProofs only [go_sem, List.size_toArray, List.length_cons, List.length_nil, Nat.reduceAdd]; done)) only [go_sem, Int.reduceLT, Int.reduceLE, Int.reduceEq, reduceIte, true_and, Nat.zero_add, Nat.add_zero, Option.map_some, f5]
    exact ⟨_, rfl, h1.next, vp, rfl, hE2, by omega, hc2, hg, hs⟩
end Go.Proofs.Ytlhgijpdhniddaa

namespace Go.Proofs.Ytlhgijpdhniddaa
open Go.D
set_option maxRecDepth 100000

theorem part_idx {S : Nat → Prop} {h : DHeap} {v : Value} {ps : List Part} {i : Nat} {x : Part} (hb : Sl rPart S h v ps) (hx : ps[i]? = some x) :
    ∃ id o w, dIndexAddr Try.prog 44 v (.int .i64 (i : Nat)) = some (.pointer (some ⟨id, o, none⟩)) ∧ S id ∧ cellsAt h id o 4 = some (partV x w) ∧ Sl fU8.rep S h w x.data ∧ inK .i64 x.slot ∧ inK .i64 x.index ∧ inK .i64 x.many := by
  obtain ⟨id, o, g, hs, hat⟩ := hb.idx (P := Try.prog) (t := 44) el_44 (k := .i64) hx
  obtain ⟨w, l, k⟩ := part_at hat
  exact ⟨id, o, w, g, hs, l, k⟩
theorem yields_c {h : DHeap} {c l p : Nat} {D : DLoop} {vp : Value} {ps : List Part} (I : Nat → DHeap → Prop) (Stop : DHeap → Prop) (hp : D.params = #[p]) (hps : p < D.size) (hlen : ps.length ≤ 65) (hdl : ∀ x ∈ ps, x.data.length ≤ 4294967296)
    (h0 : I 0 h) (hI : ∀ i K, I i K → K.get l = some (.loop D) ∧ K.get c = some (.row [vp] 0 false) ∧ Arg rPart K vp ps) (hE : ∀ i K K', I i K → Ext K K' → I i K')
    (hR : ∀ i K K' x w, I i K → Ext K K' → ps[i]? = some x → Sl fU8.rep (fun j => K.next ≤ j ∧ j < K'.next) K' w x.data → inK .i64 x.slot → inK .i64 x.index → inK .i64 x.many → Rt Try.prog l D.size (putParams D.tmps [p] [partV x w]) D.assign D.body K' fun r H => r = .ret (.bool true) ∧ I (i + 1) H ∨ r = .ret (.bool false) ∧ Stop H) :
    Ct Try.prog 57 [.func (.yield l) #[] #[], .pointer (some ⟨c, 0, none⟩)] h fun r H => (∃ v, r = .ret v) ∧ (I ps.length H ∨ Stop H) := by
  refine go_57 (by simp) ?_
  obtain ⟨hl0, hc0, ha0⟩ := hI 0 h h0
  have C0 : cellAt h c 0 = some vp := cellAt_row hc0
  have el : ∀ K, dLen Try.prog #[44] vp K = some (.int .i64 (ps.length : Nat)) := ha0.lens (P := Try.prog) (ts := #[44]) (t := 44) rfl isl_44
  simp -implicitDefEqProofs (disch := first | omega | (simp -implicitDefEqProofs only [go_sem, List.size_toArray, List.length_cons, List.length_nil, Nat.reduceAdd]; done)) only [go_sem, Int.reduceLT, Int.reduceLE, Int.reduceEq, reduceIte, true_and, Nat.zero_add, Nat.add_zero, Option.map_some, c57, C0, el]
  refine xloop (σ := Nat) (by kernel_rfl) (fun i s => s.df = [] ∧ s.fr 0 = some (.func (.yield l) #[] #[]) ∧ s.fr 5 = some vp ∧ s.fr 6 = some (.int .i64 (ps.length : Nat)) ∧ s.fr 7 = some (.int .i64 (i : Nat)) ∧ i ≤ ps.length ∧ I i s.h) (fun i => ps.length - i) 0 ?_ ?_
  · simp -implicitDefEqProofs (disch := first | omega | (simp -implicitDefEqProofs only [go_sem, List.size_toArray, List.length_cons, List.length_nil, Nat.reduceAdd]; done)) only [go_sem, Int.reduceLT, Int.reduceLE, Int.reduceEq, reduceIte, true_and, Nat.zero_add, Nat.add_zero, Option.map_some]
    exact ⟨rfl, Nat.zero_le _, h0⟩
  · rintro i ⟨fr, df, hh, rd⟩ K' hK' hX ⟨rfl, f0, f5, f6, f7, hi, hinv⟩
    simp only at f0 f5 f6 f7 hinv
    simp -implicitDefEqProofs (disch := first | omega | (simp -implicitDefEqProofs only [go_sem, List.size_toArray, List.length_cons, List.length_nil, Nat.reduceAdd]; done)) only [go_sem, Int.reduceLT, Int.reduceLE, Int.reduceEq, reduceIte, true_and, Nat.zero_add, Nat.add_zero, Option.map_some, f5, f6, f7]
    refine XIf_dec (fun hc1 => ?_) (fun hc1 => ?_)
    · have hj : i < ps.length := by omega
      obtain ⟨hl, hc, ha⟩ := hI i hh hinv
      obtain ⟨id, o, w, g1, hid, l1, hs, k1, k2, k3⟩ := part_idx ha (get_of_lt hj)
      have hsl := hs.isSlice
      have hcw : w.cells = #[w] := hs.cells1
      have hst : [Value.int .i64 ps[i].slot, .int .i64 ps[i].index, .int .i64 ps[i].many, w].all Value.oneCell' = true := by obtain ⟨_, _, rfl⟩ := hsl; rfl
      have hw1 := wrap_succ hj (by omega)
      obtain ⟨H1, hH1⟩ : ∃ H, H = hh.push (.row [.int .i64 ps[i].slot, .int .i64 ps[i].index, .int .i64 ps[i].many, w] 0 false) := ⟨_, rfl⟩
      have hE1 : Ext hh H1 := by rw [hH1]; exact Ext.push1 _ _
      have hgB : H1.get hh.next = some (.row [.int .i64 ps[i].slot, .int .i64 ps[i].index, .int .i64 ps[i].many, w] 0 false) := by rw [hH1]; exact get_push_same _ _
      have C3 : cellAt H1 hh.next 3 = some w := cellAt_row hgB
      have hH1n : H1.next = hh.next + 1 := by rw [hH1]; rfl
      have hdi := hdl _ (List.getElem_mem hj)
      have tc := clone_u8 (hs.ext hE1) hdi
      have md := clone_made (h := H1) (hs.ext hE1)
      obtain ⟨cv, hcv⟩ : ∃ v, cloneV H1 w ps[i].data = v := ⟨_, rfl⟩
      obtain ⟨K2, hK2⟩ : ∃ v, cloneH fU8 H1 w ps[i].data = v := ⟨_, rfl⟩
      rw [hcv, hK2] at tc md
      have hE2 := md.ext
      have hE2n := hE2.next
      have hg2 : K2.get hh.next = some (.row [.int .i64 ps[i].slot, .int .i64 ps[i].index, .int .i64 ps[i].many, w] 0 false) := (hE2.get _ (by omega)).trans hgB
      have hscv := md.sl.isSlice
      have hccv : cv.cells = #[cv] := md.sl.cells1
      have hone : [cv].all Value.oneCell' = true := by obtain ⟨_, _, rfl⟩ := hscv; rfl
      obtain ⟨K3, hK3⟩ : ∃ K, K = K2.set hh.next (.row [.int .i64 ps[i].slot, .int .i64 ps[i].index, .int .i64 ps[i].many, cv] 0 false) := ⟨_, rfl⟩
      have hst2 : dStore Try.prog 22 (.pointer (some ⟨hh.next, 3, none⟩)) cv K2 = some K3 := by
        rw [hK3]
        exact (st_22 hccv).trans (storeAt_row hg2 (Nat.le_of_ble_eq_true rfl) hone)
      have hg3 : K3.get hh.next = some (.row [.int .i64 ps[i].slot, .int .i64 ps[i].index, .int .i64 ps[i].many, cv] 0 false) := by rw [hK3]; exact get_set_same _ _
      have hK3n : K3.next = K2.next := by rw [hK3]; rfl
      have l3 : cellsAt K3 hh.next 0 4 = some (partV ps[i] cv) := by rw [cellsAt_row hg3 (Nat.le_of_ble_eq_true rfl)]; rfl
      have hE3 : Ext hh K3 := ⟨by omega, by rw [hK3]; exact (hE2.ng).trans hE1.ng, fun j hj => by rw [hK3, get_set_other _ _ (by omega)]; exact (hE2.get j (by omega)).trans (hE1.get j hj)⟩
      have hs3 : Sl fU8.rep (fun j => hh.next ≤ j ∧ j < K3.next) K3 cv ps[i].data := md.sl.mono fun j hj => ⟨by omega, by rw [hK3]; exact get_set_other _ _ (by omega)⟩
      have hl3 : K3.get l = some (.loop D) := (hI i K3 (hE i hh K3 hinv hE3)).1
      have hy : dCallO Try.prog K3 (some (.func (.yield l) #[] #[])) (some [partV ps[i] cv]) = .ok (.round l D.size (putParams D.tmps [p] [partV ps[i] cv]) D.assign D.body) K3 := by
        rw [dCallO_yield hl3 _ (by rw [hp]; rfl) (by rw [hp]; simpa using hps), hp]
      simp -implicitDefEqProofs (disch := first | omega | (simp -implicitDefEqProofs only [go_sem, List.size_toArray, List.length_cons, List.length_nil, Nat.reduceAdd]; done)) only [go_sem, Int.reduceLT, Int.reduceLE, Int.reduceEq, reduceIte, true_and, Nat.zero_add, Nat.add_zero, Option.map_some, f5, f6, f7, g1, l1, store4_push hst, hcw, ← hH1, C3]
      refine ncall tc ?_
      simp -implicitDefEqProofs (disch := first | omega | (simp -implicitDefEqProofs only [go_sem, List.size_toArray, List.length_cons, List.length_nil, Nat.reduceAdd]; done)) only [go_sem, Int.reduceLT, Int.reduceLE, Int.reduceEq, reduceIte, true_and, Nat.zero_add, Nat.add_zero, Option.map_some, hst2, l3, f0, hy]
      refine nround_rt (hR i hh K3 _ cv hinv hE3 (get_of_lt hj) hs3 k1 k2 k3) ?_
      rintro r H (⟨rfl, hI2⟩ | ⟨rfl, hS⟩)
      · simp -implicitDefEqProofs (disch := first | omega | (simp -implicitDefEqProofs only [go_sem, List.size_toArray, List.length_cons, List.length_nil, Nat.reduceAdd]; done)) only [go_sem, Int.reduceLT, Int.reduceLE, Int.reduceEq, reduceIte, true_and, Nat.zero_add, Nat.add_zero, Option.map_some, XEnd, f7, hw1]
        refine hK' (i + 1) _ ?_ (by omega)
        exact ⟨by trivial, by simp -implicitDefEqProofs (disch := first | omega | (simp -implicitDefEqProofs only [go_sem, List.size_toArray, List.length_cons, List.length_nil, Nat.reduceAdd]; done)) only [go_sem, Int.reduceLT, Int.reduceLE, Int.reduceEq, reduceIte, true_and, Nat.zero_add, Nat.add_zero, Option.map_some, f0], by simp -implicitDefEqProofs (disch := first | omega | (simp -implicitDefEqProofs only [go_sem, List.size_toArray, List.length_cons, List.length_nil, Nat.reduceAdd]; done)) only [go_sem, Int.reduceLT, Int.reduceLE, Int.reduceEq, reduceIte, true_and, Nat.zero_add, Nat.add_zero, Option.map_some, f5], by simp -implicitDefEqProofs (disch := first | omega | (simp -implicitDefEqProofs only [go_sem, List.size_toArray, List.length_cons, List.length_nil, Nat.reduceAdd]; done)) only [go_sem, Int.reduceLT, Int.reduceLE, Int.reduceEq, reduceIte, true_and, Nat.zero_add, Nat.add_zero, Option.map_some, f6], by simp -implicitDefEqProofs (disch := first | omega | (simp -implicitDefEqProofs only [go_sem, List.size_toArray, List.length_cons, List.length_nil, Nat.reduceAdd]; done)) only [go_sem, Int.reduceLT, Int.reduceLE, Int.reduceEq, reduceIte, true_and, Nat.zero_add, Nat.add_zero, Option.map_some], by omega, hI2⟩
      · simp -implicitDefEqProofs (disch := first | omega | (simp -implicitDefEqProofs only [go_sem, List.size_toArray, List.length_cons, List.length_nil, Nat.reduceAdd]; done)) only [go_sem, Int.reduceLT, Int.reduceLE, Int.reduceEq, reduceIte, true_and, Nat.zero_add, Nat.add_zero, Option.map_some, XEnd]
        refine hX _ _ (by simp) ?_
        simp -implicitDefEqProofs (disch := first | omega | (simp -implicitDefEqProofs only [go_sem, List.size_toArray, List.length_cons, List.length_nil, Nat.reduceAdd]; done)) only [go_sem, Int.reduceLT, Int.reduceLE, Int.reduceEq, reduceIte, true_and, Nat.zero_add, Nat.add_zero, Option.map_some]
        exact ⟨_, rfl, ⟨_, rfl⟩, .inr hS⟩
    · obtain rfl : i = ps.length := by omega
      refine hX _ _ (by simp) ?_
      simp -implicitDefEqProofs (disch := first | omega | (simp -implicitDefEqProofs only [go_sem, List.size_toArray, List.length_cons, List.length_nil, Nat.reduceAdd]; done)) only [go_sem, Int.reduceLT, Int.reduceLE, Int.reduceEq, reduceIte, true_and, Nat.zero_add, Nat.add_zero, Option.map_some]
      exact ⟨_, rfl, ⟨_, rfl⟩, .inl hinv⟩
end Go.Proofs.Ytlhgijpdhniddaa

namespace Go.Proofs.Ytlhgijpdhniddaa
open Go.D
set_option maxRecDepth 100000

theorem refParts_c {h : DHeap} {n : Int} {cv rv : Value} {cells : List Cell} {rows : List Row} (hn : inK .i64 n) (hc : Arg fCell.rep h cv cells) (hr : Arg rRow h rv rows) (hlc : cells.length ≤ 16777216) (hlr : rows.length ≤ 16777216) :
    Ct Try.prog 24 [stateV n cv rv] h fun r h1 => ∃ vp, r = .ret vp ∧ Ext h h1 ∧ Arg rPart h1 vp (partsS ⟨n, cells, rows⟩) := by
  refine go_24 (by simp) ?_
  have c1 := hc.cells1
  have r1 := hr.cells1
  obtain ⟨H0, hH0⟩ : ∃ H, H = h.push (.row [.int .i64 n, cv, rv] 0 false) := ⟨_, rfl⟩
  have hE0 : Ext h H0 := by rw [hH0]; exact Ext.push1 _ _
  have hB0 : H0.get h.next = some (.row [.int .i64 n, cv, rv] 0 false) := by rw [hH0]; exact get_push_same _ _
  have hl3 : cellsAt H0 h.next 0 3 = some (stateV n cv rv) := by rw [cellsAt_row hB0 (Nat.le_of_ble_eq_true rfl)]; rfl
  have hH0n : H0.next = h.next + 1 := by rw [hH0]; rfl
  simp -implicitDefEqProofs (disch := first | omega | (simp -implicitDefEqProofs only [go_sem, List.size_toArray, List.length_cons, List.length_nil, Nat.reduceAdd]; done)) only [go_sem, Int.reduceLT, Int.reduceLE, Int.reduceEq, reduceIte, true_and, Nat.zero_add, Nat.add_zero, Option.map_some, c24, ← hH0, hl3]
  refine ncall_ct (refBytes_c hn (hc.ext hE0) (hr.ext hE0) hlc hlr) ?_
  rintro r h1 ⟨v, rfl, hE, ha⟩
  have hEn := hE.next
  have hEh := hE0.trans hE
  by_cases h0 : bytesE ⟨n, cells, rows⟩ = 0
  case neg =>
    simp -implicitDefEqProofs (disch := first | omega | (simp -implicitDefEqProofs only [go_sem, List.size_toArray, List.length_cons, List.length_nil, Nat.reduceAdd]; done)) only [go_sem, Int.reduceLT, Int.reduceLE, Int.reduceEq, reduceIte, true_and, Nat.zero_add, Nat.add_zero, Option.map_some, XEnd, h0]
    refine ⟨_, rfl, _, rfl, hEh, ?_⟩
    unfold partsS
    rw [if_neg h0]
    exact Sl.nil _ _ _
  obtain ⟨hm, hlen, hbl⟩ := bytes0_of h0
  rw [hbl] at ha
  have hps : partsS ⟨n, cells, rows⟩ = partsL n (stateB ⟨n, cells, rows⟩) := by unfold partsS; rw [if_pos h0]
  rw [hps]
  obtain ⟨l, hl⟩ : ∃ l, stateB ⟨n, cells, rows⟩ = l := ⟨_, rfl⟩
  rw [hl] at ha hlen ⊢
  have el : ∀ K, dLen Try.prog #[22] v K = some (.int .i64 (l.length : Nat)) := ha.lens (P := Try.prog) (ts := #[22]) (t := 22) rfl isl_22
  have hw1 : IntKind.i64.wrap ((l.length : Int) + 16384) = (l.length : Int) + 16384 := wrap_i64_in (by omega) (by omega)
  have hw2 : IntKind.i64.wrap ((l.length : Int) + 16384 - 1) = (l.length : Int) + 16383 := by rw [wrap_i64_in (by omega) (by omega)]; omega
  have hw3 : IntKind.i64.wrap (((l.length : Int) + 16383).tdiv 16384) = ((manyL l : Nat) : Int) := by
    have : ((l.length : Int) + 16383).tdiv 16384 = ((manyL l : Nat) : Int) := by
      rw [Int.tdiv_eq_ediv_of_nonneg (by omega)]
      unfold manyL
      omega
    rw [this, wrap_i64_in (by omega) (by unfold manyL; omega)]
  have hmany : manyL l ≤ 65 := by unfold manyL; omega
  have hq : ∀ {K : DHeap} {ox oy : Operand}, dBinOp Try.prog .quo 3 ox oy (.int .i64 ((l.length : Int) + 16383)) (.int .i64 16384) K = .ok (.value (.int .i64 ((manyL l : Nat) : Int))) K := fun {K ox oy} => by
    rw [bin_quo (by decide), hw3]
  simp -implicitDefEqProofs (disch := first | omega | (simp -implicitDefEqProofs only [go_sem, List.size_toArray, List.length_cons, List.length_nil, Nat.reduceAdd]; done)) only [go_sem, Int.reduceLT, Int.reduceLE, Int.reduceEq, reduceIte, true_and, Nat.zero_add, Nat.add_zero, Option.map_some, XEnd, h0, el, hw1, hw2, hq]
  refine xloop (σ := Nat) (by kernel_rfl) (fun i s => s.df = [] ∧ s.fr 1 = some (.pointer (some ⟨h.next, 0, none⟩)) ∧ s.fr 3 = some v ∧ s.fr 5 = some (.int .i64 (manyL l : Nat)) ∧ s.fr 7 = some (.int .i64 (i : Nat)) ∧ i ≤ manyL l ∧ Ext h1 s.h ∧
      ∃ vp w, s.fr 6 = some vp ∧ Owns rPart (fun j => j < h1.next) s.h vp ((partsL n l).take i) w ∧ ∀ x, w = some x → h1.next ≤ x) (fun i => manyL l - i) 0 ?_ ?_
  · simp -implicitDefEqProofs (disch := first | omega | (simp -implicitDefEqProofs only [go_sem, List.size_toArray, List.length_cons, List.length_nil, Nat.reduceAdd]; done)) only [go_sem, Int.reduceLT, Int.reduceLE, Int.reduceEq, reduceIte, true_and, Nat.zero_add, Nat.add_zero, Option.map_some]
    exact ⟨rfl, Nat.zero_le _, .refl _, .slice none 0 0, none, rfl, Owns.nil _ _ _, by simp⟩
  · rintro i ⟨fr, df, hh, rd⟩ K' hK' hX ⟨rfl, f1, f3, f5, f7, hi, hE2, vp, w, f6, ho, hw⟩
    simp only at f1 f3 f5 f7 hE2 f6 ho
    have hwl := ho.lt
    have hEn2 := hE2.next
    by_cases hc1 : ((i : Nat) : Int) < (manyL l : Nat)
    case neg =>
      have hi2 : i = manyL l := by omega
      simp -implicitDefEqProofs (disch := first | omega | (simp -implicitDefEqProofs only [go_sem, List.size_toArray, List.length_cons, List.length_nil, Nat.reduceAdd]; done)) only [go_sem, Int.reduceLT, Int.reduceLE, Int.reduceEq, reduceIte, true_and, Nat.zero_add, Nat.add_zero, Option.map_some, f5, f7, hc1]
      refine hX _ _ (by simp) ?_
      rw [hi2, ← partsL_len n l, List.take_length] at ho
      simp -implicitDefEqProofs (disch := first | omega | (simp -implicitDefEqProofs only [go_sem, List.size_toArray, List.length_cons, List.length_nil, Nat.reduceAdd]; done)) only [go_sem, Int.reduceLT, Int.reduceLE, Int.reduceEq, reduceIte, true_and, Nat.zero_add, Nat.add_zero, Option.map_some, f6]
      exact ⟨_, rfl, _, rfl, hEh.trans hE2, ho.arg fun j hj => by omega⟩
    have hlt : i < manyL l := by omega
    have hpl := piece_le hlt
    have ha' : Sl fU8.rep (fun j => j < h1.next) hh v l := ha.mono fun j hj => ⟨hj, hE2.get j hj⟩
    obtain ⟨v', tc, hs'⟩ := ha'.slice (P := Try.prog) (t := 22) el_22 (by decide) (lo := some (.int .i64 ((i * 16384 : Nat) : Int))) (hi := some (.int .i64 ((min ((i + 1) * 16384) l.length : Nat) : Int))) (i := i * 16384) (j := min ((i + 1) * 16384) l.length) (bound_nat (Nat.min_le_right _ _)) (bound_nat hpl) hpl (Nat.min_le_right _ _)
    have hgS : hh.get h.next = some (.row [.int .i64 n, cv, rv] 0 false) := by rw [hE2.get _ (by omega), hE.get _ (by omega)]; exact hB0
    have C1 : cellAt hh h.next 0 = some (.int .i64 n) := cellAt_row hgS
    have hx := partsL_get (slot := n) hlt
    have hwA : IntKind.i64.wrap ((i : Int) * 16384) = ((i * 16384 : Nat) : Int) := by rw [wrap_i64_in (by omega) (by omega)]; omega
    have hwB : IntKind.i64.wrap ((i : Int) + 1) = ((i + 1 : Nat) : Int) := by rw [wrap_i64_in (by omega) (by omega)]; omega
    have hwC : IntKind.i64.wrap (((i + 1 : Nat) : Int) * 16384) = (((i + 1) * 16384 : Nat) : Int) := by rw [wrap_i64_in (by omega) (by omega)]; omega
    have hmin : min (((i + 1) * 16384 : Nat) : Int) (l.length : Int) = ((min ((i + 1) * 16384) l.length : Nat) : Int) := by omega
    have hsl := hs'.isSlice
    have hbp : ∀ a b c : Int, dBuild Try.prog 57 [(0, .int .i64 a), (1, .int .i64 b), (2, .int .i64 c), (3, v')] = some (.agg #[.int .i64 a, .int .i64 b, .int .i64 c, v']) := by
      obtain ⟨_, _, rfl⟩ := hsl
      exact fun a b c => bd_part
    obtain ⟨z2, h2, e3, y1, y2, y3, o3⟩ := ho.snoc (ts := #[44, 44]) (z := 4) (fun j hj => ⟨by omega, fun hwj => by have := hw j hwj; omega⟩)
      (part_rd (x := ⟨n, (i : Int), (manyL l : Int), pieceL l i⟩) hn (inK_i64.2 (by show _ ≤ ((i:Nat):Int) ∧ ((i:Nat):Int) ≤ _; omega)) (inK_i64.2 (by show _ ≤ ((manyL l:Nat):Int) ∧ ((manyL l:Nat):Int) ≤ _; omega)) hs') rfl (by decide) app_44 (by rw [List.length_take, partsL_len]; omega) (by decide)
    have hbs : ∀ (K : DHeap) (a b c : Int), dBuildSlice Try.prog 44 1 [(0, .agg #[.int .i64 a, .int .i64 b, .int .i64 c, v'])] K = some (.slice (some ⟨K.next, 0, none⟩) 1 1, K.push (.row [.int .i64 a, .int .i64 b, .int .i64 c, v'] 4 false)) := fun K a b c => bs1_44 rfl
    simp -implicitDefEqProofs (disch := first | omega | (simp -implicitDefEqProofs only [go_sem, List.size_toArray, List.length_cons, List.length_nil, Nat.reduceAdd]; done)) only [go_sem, Int.reduceLT, Int.reduceLE, Int.reduceEq, reduceIte, true_and, Nat.zero_add, Nat.add_zero, Option.map_some, f5, f7, hc1, hwB, hwC, f3, el, min_i64, hmin]
    refine dr_24_0 ?_
    simp -implicitDefEqProofs (disch := first | omega | (simp -implicitDefEqProofs only [go_sem, List.size_toArray, List.length_cons, List.length_nil, Nat.reduceAdd]; done)) only [go_sem, Int.reduceLT, Int.reduceLE, Int.reduceEq, reduceIte, true_and, Nat.zero_add, Nat.add_zero, Option.map_some, l24_0, f1, f3, f5, f6, f7, C1, hwA, tc, hbp, hbs, e3]
    have D2 : dLoad Try.prog 2 (.pointer (some ⟨h.next, 0, none⟩)) hh = some (.int .i64 n) := ld_2.trans C1
    refine ⟨⟨XSt1_at (i := 2) (j := 9) rfl rfl rfl ?_, trivial⟩, ?_⟩
    · rw [if_neg (by decide)]
      exact Ld_on (p := .pointer (some ⟨h.next, 0, none⟩)) (by simp -implicitDefEqProofs (disch := first | omega | (simp -implicitDefEqProofs only [go_sem, List.size_toArray, List.length_cons, List.length_nil, Nat.reduceAdd]; done)) only [go_sem, Int.reduceLT, Int.reduceLE, Int.reduceEq, reduceIte, true_and, Nat.zero_add, Nat.add_zero, Option.map_some]) (by simp -implicitDefEqProofs (disch := first | omega | (simp -implicitDefEqProofs only [go_sem, List.size_toArray, List.length_cons, List.length_nil, Nat.reduceAdd]; done)) only [go_sem, Int.reduceLT, Int.reduceLE, Int.reduceEq, reduceIte, true_and, Nat.zero_add, Nat.add_zero, Option.map_some, f1]) D2
    simp -implicitDefEqProofs (disch := first | omega | (simp -implicitDefEqProofs only [go_sem, List.size_toArray, List.length_cons, List.length_nil, Nat.reduceAdd]; done)) only [go_sem, Int.reduceLT, Int.reduceLE, Int.reduceEq, reduceIte, true_and, Nat.zero_add, Nat.add_zero, Option.map_some, f7, hwB]
    refine hK' (i + 1) _ ?_ (by omega)
    refine ⟨by trivial, by simp -implicitDefEqProofs (disch := first | omega | (simp -implicitDefEqProofs only [go_sem, List.size_toArray, List.length_cons, List.length_nil, Nat.reduceAdd]; done)) only [go_sem, Int.reduceLT, Int.reduceLE, Int.reduceEq, reduceIte, true_and, Nat.zero_add, Nat.add_zero, Option.map_some, f1], by simp -implicitDefEqProofs (disch := first | omega | (simp -implicitDefEqProofs only [go_sem, List.size_toArray, List.length_cons, List.length_nil, Nat.reduceAdd]; done)) only [go_sem, Int.reduceLT, Int.reduceLE, Int.reduceEq, reduceIte, true_and, Nat.zero_add, Nat.add_zero, Option.map_some, f3], by simp -implicitDefEqProofs (disch := first | omega | (simp -implicitDefEqProofs only [go_sem, List.size_toArray, List.length_cons, List.length_nil, Nat.reduceAdd]; done)) only [go_sem, Int.reduceLT, Int.reduceLE, Int.reduceEq, reduceIte, true_and, Nat.zero_add, Nat.add_zero, Option.map_some, f5], by simp -implicitDefEqProofs (disch := first | omega | (simp -implicitDefEqProofs only [go_sem, List.size_toArray, List.length_cons, List.length_nil, Nat.reduceAdd]; done)) only [go_sem, Int.reduceLT, Int.reduceLE, Int.reduceEq, reduceIte, true_and, Nat.zero_add, Nat.add_zero, Option.map_some], by omega, ?_, z2, some (hh.next + 1), by simp -implicitDefEqProofs (disch := first | omega | (simp -implicitDefEqProofs only [go_sem, List.size_toArray, List.length_cons, List.length_nil, Nat.reduceAdd]; done)) only [go_sem, Int.reduceLT, Int.reduceLE, Int.reduceEq, reduceIte, true_and, Nat.zero_add, Nat.add_zero, Option.map_some], ?_, ?_⟩
    · exact ⟨by show h1.next ≤ h2.next; omega, y2.trans hE2.ng, fun j hj => (y3 _ (by omega) (fun hwi => by have := hw _ hwi; omega)).trans (hE2.get j hj)⟩
    · rw [List.take_add_one, hx]
      exact o3
    · intro x hxw
      cases hxw
      omega
end Go.Proofs.Ytlhgijpdhniddaa

namespace Go.Proofs.Ytlhgijpdhniddaa
open Go.D
set_option maxRecDepth 100000

/-- are two parts the same? -/
def samePartB (x y : Part) : Bool := decide (x.slot = y.slot ∧ x.index = y.index ∧ x.many = y.many ∧ x.data = y.data)
theorem samePart_c {h : DHeap} {x y : Part} {w u : Value} (hx : Arg fU8.rep h w x.data) (hy : Arg fU8.rep h u y.data) : DC Try.prog 55 [partV x w, partV y u] h (.ret (.bool (samePartB x y))) h := by
  obtain ⟨x0, x1, x2, xd⟩ := x
  obtain ⟨y0, y1, y2, yd⟩ := y
  refine Ct.pure (go_55 (by simp) ?_) (vin_bool _)
  simp only at hx hy ⊢
  have c1 := hx.cells1
  have c2 := hy.cells1
  obtain ⟨H, hH⟩ : ∃ H, H = (h.push (.row [.int .i64 x0, .int .i64 x1, .int .i64 x2, w] 0 false)).push (.row [.int .i64 y0, .int .i64 y1, .int .i64 y2, u] 0 false) := ⟨_, rfl⟩
  have hE : Ext h H := by rw [hH]; exact (Ext.push1 _ _).push _
  have g1 : H.get h.next = some (.row [.int .i64 x0, .int .i64 x1, .int .i64 x2, w] 0 false) := by rw [hH]; exact get_p1
  have g2 : H.get (h.next + 1) = some (.row [.int .i64 y0, .int .i64 y1, .int .i64 y2, u] 0 false) := by rw [hH]; exact get_push_same _ _
  have a0 : cellAt H h.next 0 = some (.int .i64 x0) := cellAt_row g1
  have a1 : cellAt H h.next 1 = some (.int .i64 x1) := cellAt_row g1
  have a2 : cellAt H h.next 2 = some (.int .i64 x2) := cellAt_row g1
  have a3 : cellAt H h.next 3 = some w := cellAt_row g1
  have b0 : cellAt H (h.next + 1) 0 = some (.int .i64 y0) := cellAt_row g2
  have b1 : cellAt H (h.next + 1) 1 = some (.int .i64 y1) := cellAt_row g2
  have b2 : cellAt H (h.next + 1) 2 = some (.int .i64 y2) := cellAt_row g2
  have b3 : cellAt H (h.next + 1) 3 = some u := cellAt_row g2
  have x3 := conv_bytes (hx.ext hE)
  have y3 := conv_bytes (hy.ext hE)
  by_cases h0 : x0 = y0
  case neg =>
    simp -implicitDefEqProofs (disch := first | omega | (simp -implicitDefEqProofs only [go_sem, List.size_toArray, List.length_cons, List.length_nil, Nat.reduceAdd]; done)) only [go_sem, Int.reduceLT, Int.reduceLE, Int.reduceEq, reduceIte, true_and, Nat.zero_add, Nat.add_zero, Option.map_some, c55, c1, c2, next_push, ← hH, a0, b0, h0, dPick_f]
    exact ⟨_, rfl, by simp [samePartB, h0], hE⟩
  subst h0
  by_cases h1 : x1 = y1
  case neg =>
    simp -implicitDefEqProofs (disch := first | omega | (simp -implicitDefEqProofs only [go_sem, List.size_toArray, List.length_cons, List.length_nil, Nat.reduceAdd]; done)) only [go_sem, Int.reduceLT, Int.reduceLE, Int.reduceEq, reduceIte, true_and, Nat.zero_add, Nat.add_zero, Option.map_some, c55, c1, c2, next_push, ← hH, a0, b0, a1, b1, h1, dPick_f, dPick_t]
    exact ⟨_, rfl, by simp [samePartB, h1], hE⟩
  subst h1
  by_cases h2 : x2 = y2
  case neg =>
    simp -implicitDefEqProofs (disch := first | omega | (simp -implicitDefEqProofs only [go_sem, List.size_toArray, List.length_cons, List.length_nil, Nat.reduceAdd]; done)) only [go_sem, Int.reduceLT, Int.reduceLE, Int.reduceEq, reduceIte, true_and, Nat.zero_add, Nat.add_zero, Option.map_some, c55, c1, c2, next_push, ← hH, a0, b0, a1, b1, a2, b2, h2, dPick_f, dPick_t]
    exact ⟨_, rfl, by simp [samePartB, h2], hE⟩
  subst h2
  simp -implicitDefEqProofs (disch := first | omega | (simp -implicitDefEqProofs only [go_sem, List.size_toArray, List.length_cons, List.length_nil, Nat.reduceAdd]; done)) only [go_sem, Int.reduceLT, Int.reduceLE, Int.reduceEq, reduceIte, true_and, Nat.zero_add, Nat.add_zero, Option.map_some, c55, c1, c2, next_push, ← hH, a0, b0, a1, b1, a2, b2, a3, b3, x3, y3, bin_str, dPick_f, dPick_t]
  refine ⟨_, rfl, ?_, hE⟩
  have := strOf_inj (fun x' hx' => inK_u8.1 (hx.ok x' hx')) (fun x' hx' => inK_u8.1 (hy.ok x' hx'))
  congr 2
  unfold samePartB
  rw [Bool.eq_iff_iff, beq_iff_eq, decide_eq_true_iff, ByteArray.toList_eq, ByteArray.toList_eq]
  simp only [true_and]
  rw [← this]
  exact ⟨fun hh => ByteArray.ext (Array.toList_inj.1 hh), fun hh => by rw [hh]⟩
end Go.Proofs.Ytlhgijpdhniddaa

namespace Go.Proofs.Ytlhgijpdhniddaa
open Go.D
set_option maxRecDepth 100000

theorem cells4_at {h : DHeap} {id o : Nat} {a b c d : Value} (e : cellsAt h id o 4 = some (.agg #[a, b, c, d])) : cellAt h id o = some a ∧ cellAt h id (o + 1) = some b ∧ cellAt h id (o + 2) = some c ∧ cellAt h id (o + 3) = some d := by
  unfold cellsAt at e
  unfold cellAt
  split at e
  · rename_i cells _ _ hg
    split at e
    · simp only [Option.some.injEq, Value.agg.injEq] at e
      have e2 : (cells.drop o).take 4 = [a, b, c, d] := by
        have := congrArg Array.toList e
        simpa using this
      have key : ∀ j, j < 4 → cells[o + j]? = [a, b, c, d][j]? := fun j hj => by
        rw [← e2, List.getElem?_take, if_pos hj, List.getElem?_drop]
      exact ⟨key 0 (by decide), key 1 (by decide), key 2 (by decide), key 3 (by decide)⟩
    · cases e
  · cases e
/-- a part of a list that is read: where it lies, and what lies there -/
theorem part_cells {S : Nat → Prop} {h : DHeap} {v : Value} {ps : List Part} {i : Nat} {x : Part} (hb : Sl rPart S h v ps) (hx : ps[i]? = some x) :
    ∃ id o w, dIndexAddr Try.prog 44 v (.int .i64 (i : Nat)) = some (.pointer (some ⟨id, o, none⟩)) ∧ S id ∧ cellAt h id o = some (.int .i64 x.slot) ∧ cellAt h id (o + 1) = some (.int .i64 x.index) ∧ cellAt h id (o + 2) = some (.int .i64 x.many) ∧ cellAt h id (o + 3) = some w ∧
      cellsAt h id o 4 = some (partV x w) ∧ Sl fU8.rep S h w x.data ∧ inK .i64 x.slot ∧ inK .i64 x.index ∧ inK .i64 x.many := by
  obtain ⟨id, o, w, g, hs, l, k⟩ := part_idx hb hx
  obtain ⟨c0, c1, c2, c3⟩ := cells4_at l
  exact ⟨id, o, w, g, hs, c0, c1, c2, c3, l, k⟩
/-- may a part be the j-th of these? -/
def goodP (l : List Part) (j : Nat) (x : Part) : Prop := (∀ y, l[0]? = some y → x.slot = y.slot) ∧ x.many = (l.length : Int) ∧ x.index = (j : Int)
def goodL (l : List Part) (i : Nat) : Prop := ∀ j x, j < i → l[j]? = some x → goodP l j x
def dataOf (l : List Part) : List Int := l.flatMap (·.data)
open Classical in
/-- what is wrong with parts -/
noncomputable def buildE (l : List Part) : Int :=
  if l = [] ∨ ¬ goodL l l.length then 221 else if parseE id (dataOf l) ≠ 0 then parseE id (dataOf l) else if partsS (parseR id (dataOf l)) = l then 0 else 221
open Classical in
/-- the state of parts -/
noncomputable def buildR (l : List Part) : State := if buildE l = 0 then parseR id (dataOf l) else ⟨0, [], []⟩
section
variable {l : List Part}
theorem build_nil : buildE [] = 221 := by unfold buildE; rw [if_pos (.inl rfl)]
theorem build_bad {i : Nat} {x : Part} (hx : l[i]? = some x) (hb : ¬ goodP l i x) : buildE l = 221 := by
  unfold buildE
  refine if_pos (.inr fun h => hb (h i x ?_ hx))
  exact (List.getElem?_eq_some_iff.1 hx).1
theorem build_err (hn : l ≠ []) (hg : goodL l l.length) (he : parseE id (dataOf l) ≠ 0) : buildE l = parseE id (dataOf l) := by
  unfold buildE
  rw [if_neg (by simp [hn, hg]), if_pos he]
theorem build_ok (hn : l ≠ []) (hg : goodL l l.length) (he : parseE id (dataOf l) = 0) (hp : partsS (parseR id (dataOf l)) = l) : buildE l = 0 := by
  unfold buildE
  rw [if_neg (by simp [hn, hg]), if_neg (by simp [he]), if_pos hp]
theorem build_not (hn : l ≠ []) (hg : goodL l l.length) (he : parseE id (dataOf l) = 0) (hp : partsS (parseR id (dataOf l)) ≠ l) : buildE l = 221 := by
  unfold buildE
  rw [if_neg (by simp [hn, hg]), if_neg (by simp [he]), if_neg hp]
theorem buildR_no (h : buildE l ≠ 0) : buildR l = ⟨0, [], []⟩ := by unfold buildR; rw [if_neg h]
theorem buildR_yes (h : buildE l = 0) : buildR l = parseR id (dataOf l) := by unfold buildR; rw [if_pos h]
theorem goodL_0 : goodL l 0 := fun j _ hj => absurd hj (Nat.not_lt_zero j)
theorem goodL_succ {i : Nat} {x : Part} (h : goodL l i) (hx : l[i]? = some x) (hg : goodP l i x) : goodL l (i + 1) := fun j y hj hy => by
  by_cases hji : j = i
  · subst hji
    rw [hx] at hy
    cases hy
    exact hg
  · exact h j y (by omega) hy
theorem dataOf_take {i : Nat} {x : Part} (hx : l[i]? = some x) : dataOf (l.take (i + 1)) = dataOf (l.take i) ++ x.data := by
  unfold dataOf
  rw [List.take_add_one, hx, List.flatMap_append]
  simp
theorem dataOf_take_le {i : Nat} : (dataOf (l.take i)).length ≤ (dataOf l).length := by
  unfold dataOf
  conv => rhs; rw [← List.take_append_drop i l]
  rw [List.flatMap_append, List.length_append]
  exact Nat.le_add_right _ _
end
end Go.Proofs.Ytlhgijpdhniddaa

namespace Go.Proofs.Ytlhgijpdhniddaa
open Go.D
set_option maxRecDepth 100000

theorem build_end0 {h H : DHeap} {l : List Part} {e : Int} (he : buildE l = e) (h0 : e ≠ 0) (hE : Ext h H) :
    ∃ vc vr, (DEnd.ret (.tuple #[stateV 0 (.slice none 0 0) (.slice none 0 0), .int .i64 e])) = .ret (.tuple #[stateV (buildR l).slot vc vr, .int .i64 (buildE l)]) ∧ Ext h H ∧ Arg fCell.rep H vc (buildR l).cells ∧ Arg rRow H vr (buildR l).rows := by
  have hr := buildR_no (l := l) (by rw [he]; exact h0)
  refine ⟨_, _, by rw [hr, he], hE, ?_, ?_⟩
  · rw [hr]; exact Sl.nil _ _ _
  · rw [hr]; exact Sl.nil _ _ _
theorem res_ct {fr : Fr} {K : DHeap} {a b id : Nat} {n e : Int} {vc vr : Value} (f2 : fr a = some (.pointer (some ⟨id, 0, none⟩))) (f3 : fr b = some (.int .i64 e)) (hk : K.get id = some (.row [.int .i64 n, vc, vr] 0 false)) :
    dResults Try.prog [.cell a 26, .tmp b] fr K = some (.tuple #[stateV n vc vr, .int .i64 e]) := by
  rw [dResults_d2, dRes1_cell, dRes1_tmp, f2, f3, dResC_some]
  have : dLoad Try.prog 26 (.pointer (some ⟨id, 0, none⟩)) K = some (stateV n vc vr) := ld_26.trans (by rw [cellsAt_row hk (Nat.le_of_ble_eq_true rfl)]; rfl)
  rw [this, tup2_some]
theorem parse_state {l : List Int} (he : parseE id l = 0) : inK .i64 (parseR id l).slot := by
  have hm := parseE_may he
  have hr : parseR id l = parseS id l := by unfold parseR; rw [if_pos he]
  rw [hr]
  obtain ⟨m1, _⟩ := may_iff.1 hm
  simp only [countB, decide_eq_true_eq, Bool.and_eq_true] at m1
  exact inK_i64.2 (by omega)
theorem samePart_iff {x y : Part} : samePartB x y = true ↔ x = y := by
  obtain ⟨a, b, c, d⟩ := x
  obtain ⟨a', b', c', d'⟩ := y
  simp [samePartB]
/-- what the reference asks of each part -/
theorem refBuild_head {h : DHeap} {v : Value} {l : List Part} {i : Nat} {fr : Fr} {rd : Option Nat} (hv : Arg rPart h v l) (hl : l.length ≤ 1048576) (hj : i < l.length) (hg : goodL l i) (f0 : fr 0 = some v) (f5 : fr 5 = some (.int .i64 (i : Nat))) :
    NC Try.prog 104 r27_0 (DThen (fun s => s.df = [] ∧ s.h = h ∧ s.rd = rd ∧ (s.fr 0 = fr 0 ∧ s.fr 2 = fr 2 ∧ s.fr 4 = fr 4 ∧ s.fr 5 = fr 5) ∧ ∃ b, s.fr 56 = some (.bool b) ∧ (b = false ↔ goodP l i l[i])) (fun _ _ => False)) ⟨fr, [], h, rd⟩ := by
  obtain ⟨id, o, w, g1, _, c0, c1, c2, c3, _, hs, k1, k2, k3⟩ := part_cells hv (get_of_lt hj)
  obtain ⟨id0, o0, w0, g0, _, d0, d1, d2, d3, _, hs0, m1, m2, m3⟩ := part_cells (i := 0) hv (get_of_lt (by omega))
  have g0 : dIndexAddr Try.prog 44 v (.int .i64 0) = some (.pointer (some ⟨id0, o0, none⟩)) := g0
  have el : ∀ K, dLen Try.prog #[44] v K = some (.int .i64 (l.length : Nat)) := hv.lens (P := Try.prog) (ts := #[44]) (t := 44) rfl isl_44
  have hy : l[0]? = some l[0] := get_of_lt (by omega)
  have hgood : goodP l i l[i] ↔ (l[i].slot = l[0].slot ∧ l[i].many = (l.length : Int) ∧ l[i].index = (i : Int)) := by
    unfold goodP
    rw [hy]
    simp
  refine dr_27_0 ?_
  have D2 : dLoad Try.prog 3 (.pointer (some ⟨id, o + 2, none⟩)) h = some (.int .i64 l[i].many) := ld_3.trans c2
  by_cases q0 : l[i].slot = l[0].slot
  case neg =>
    simp -implicitDefEqProofs (disch := first | omega | (simp -implicitDefEqProofs only [go_sem, List.size_toArray, List.length_cons, List.length_nil, Nat.reduceAdd]; done)) only [go_sem, Int.reduceLT, Int.reduceLE, Int.reduceEq, reduceIte, true_and, Nat.zero_add, Nat.add_zero, Option.map_some, l27_0, f0, f5, g1, g0, c0, d0, q0, dPick_t, dPick_f]
    refine ⟨⟨XSt1_at (i := 27) (j := 29) rfl rfl rfl ?_, trivial⟩, ?_⟩
    · rw [if_neg (by decide)]
      exact Ld_offL (by simp -implicitDefEqProofs (disch := first | omega | (simp -implicitDefEqProofs only [go_sem, List.size_toArray, List.length_cons, List.length_nil, Nat.reduceAdd]; done)) only [go_sem, Int.reduceLT, Int.reduceLE, Int.reduceEq, reduceIte, true_and, Nat.zero_add, Nat.add_zero, Option.map_some])
    · exact ⟨_, rfl, by simp [hgood, q0]⟩
  have t0 := eq_true q0
  by_cases q1 : l[i].many = l[0].many
  case neg =>
    have hng : ¬ l[i].many = (l.length : Int) := fun hh => by
      rcases Nat.eq_zero_or_pos i with h0 | h0
      · subst h0
        exact q1 rfl
      · exact q1 (hh.trans (hg 0 _ h0 hy).2.1.symm)
    simp -implicitDefEqProofs (disch := first | omega | (simp -implicitDefEqProofs only [go_sem, List.size_toArray, List.length_cons, List.length_nil, Nat.reduceAdd]; done)) only [go_sem, Int.reduceLT, Int.reduceLE, Int.reduceEq, reduceIte, true_and, Nat.zero_add, Nat.add_zero, Option.map_some, l27_0, f0, f5, g1, g0, c0, d0, t0, c2, d2, q1, dPick_t, dPick_f]
    refine ⟨⟨XSt1_at (i := 27) (j := 29) rfl rfl rfl ?_, trivial⟩, ?_⟩
    · rw [if_neg (by decide)]
      exact Ld_offL (by simp -implicitDefEqProofs (disch := first | omega | (simp -implicitDefEqProofs only [go_sem, List.size_toArray, List.length_cons, List.length_nil, Nat.reduceAdd]; done)) only [go_sem, Int.reduceLT, Int.reduceLE, Int.reduceEq, reduceIte, true_and, Nat.zero_add, Nat.add_zero, Option.map_some])
    · exact ⟨_, rfl, by simp [hgood, hng]⟩
  have t1 := eq_true q1
  by_cases q2 : l[i].many = (l.length : Int)
  case neg =>
    simp -implicitDefEqProofs (disch := first | omega | (simp -implicitDefEqProofs only [go_sem, List.size_toArray, List.length_cons, List.length_nil, Nat.reduceAdd]; done)) only [go_sem, Int.reduceLT, Int.reduceLE, Int.reduceEq, reduceIte, true_and, Nat.zero_add, Nat.add_zero, Option.map_some, l27_0, f0, f5, g1, g0, c0, d0, t0, c2, d2, t1, el, q2, dPick_t, dPick_f]
    refine ⟨⟨XSt1_at (i := 27) (j := 29) rfl rfl rfl ?_, trivial⟩, ?_⟩
    · rw [if_neg (by decide)]
      exact Ld_on (p := .pointer (some ⟨id, o + 2, none⟩)) (by simp -implicitDefEqProofs (disch := first | omega | (simp -implicitDefEqProofs only [go_sem, List.size_toArray, List.length_cons, List.length_nil, Nat.reduceAdd]; done)) only [go_sem, Int.reduceLT, Int.reduceLE, Int.reduceEq, reduceIte, true_and, Nat.zero_add, Nat.add_zero, Option.map_some]) (by simp -implicitDefEqProofs (disch := first | omega | (simp -implicitDefEqProofs only [go_sem, List.size_toArray, List.length_cons, List.length_nil, Nat.reduceAdd]; done)) only [go_sem, Int.reduceLT, Int.reduceLE, Int.reduceEq, reduceIte, true_and, Nat.zero_add, Nat.add_zero, Option.map_some, f0, f5]) D2
    · exact ⟨_, rfl, by simp [hgood, q0, q2]⟩
  have t2 := eq_true q2
  simp -implicitDefEqProofs (disch := first | omega | (simp -implicitDefEqProofs only [go_sem, List.size_toArray, List.length_cons, List.length_nil, Nat.reduceAdd]; done)) only [go_sem, Int.reduceLT, Int.reduceLE, Int.reduceEq, reduceIte, true_and, Nat.zero_add, Nat.add_zero, Option.map_some, l27_0, f0, f5, g1, g0, c0, d0, t0, c2, d2, t1, el, t2, c1, dPick_t, dPick_f]
  refine ⟨⟨XSt1_at (i := 27) (j := 29) rfl rfl rfl ?_, trivial⟩, ?_⟩
  · rw [if_neg (by decide)]
    exact Ld_on (p := .pointer (some ⟨id, o + 2, none⟩)) (by simp -implicitDefEqProofs (disch := first | omega | (simp -implicitDefEqProofs only [go_sem, List.size_toArray, List.length_cons, List.length_nil, Nat.reduceAdd]; done)) only [go_sem, Int.reduceLT, Int.reduceLE, Int.reduceEq, reduceIte, true_and, Nat.zero_add, Nat.add_zero, Option.map_some]) (by simp -implicitDefEqProofs (disch := first | omega | (simp -implicitDefEqProofs only [go_sem, List.size_toArray, List.length_cons, List.length_nil, Nat.reduceAdd]; done)) only [go_sem, Int.reduceLT, Int.reduceLE, Int.reduceEq, reduceIte, true_and, Nat.zero_add, Nat.add_zero, Option.map_some, f0, f5]) D2
  · exact ⟨_, rfl, by simp [hgood, q0, q2]⟩
theorem refBuild_c {h : DHeap} {v : Value} {l : List Part} (hv : Arg rPart h v l) (hl : l.length ≤ 1048576) (hd : (dataOf l).length ≤ 1048576) :
    Ct Try.prog 27 [v] h fun r h1 => ∃ vc vr, r = .ret (.tuple #[stateV (buildR l).slot vc vr, .int .i64 (buildE l)]) ∧ Ext h h1 ∧ Arg fCell.rep h1 vc (buildR l).cells ∧ Arg rRow h1 vr (buildR l).rows := by
  refine go_27 (by simp) ?_
  obtain ⟨H0, hH0⟩ : ∃ H, H = h.push (.row zeroState 0 false) := ⟨_, rfl⟩
  have hE0 : Ext h H0 := by rw [hH0]; exact Ext.push1 _ _
  have hB0 : H0.get h.next = some (.row zeroState 0 false) := by rw [hH0]; exact get_push_same _ _
  have hH0n : H0.next = h.next + 1 := by rw [hH0]; rfl
  have el : ∀ K, dLen Try.prog #[44] v K = some (.int .i64 (l.length : Nat)) := hv.lens (P := Try.prog) (ts := #[44]) (t := 44) rfl isl_44
  -- an end with nothing built
  have hz : ∀ K, K.get h.next = some (.row zeroState 0 false) → dStore Try.prog 26 (.pointer (some ⟨h.next, 0, none⟩)) (stateV 0 (.slice none 0 0) (.slice none 0 0)) K = some (K.set h.next (.row zeroState 0 false)) := fun K hk =>
    (st_26 rfl).trans (storeAt_row hk (Nat.le_of_ble_eq_true rfl) rfl)
  have hend : ∀ K e, Ext H0 K → buildE l = e → e ≠ 0 → ∃ vc vr, (DEnd.ret (.tuple #[stateV 0 (.slice none 0 0) (.slice none 0 0), .int .i64 e])) = .ret (.tuple #[stateV (buildR l).slot vc vr, .int .i64 (buildE l)]) ∧ Ext h (K.set h.next (.row zeroState 0 false)) ∧ Arg fCell.rep (K.set h.next (.row zeroState 0 false)) vc (buildR l).cells ∧ Arg rRow (K.set h.next (.row zeroState 0 false)) vr (buildR l).rows :=
    fun K e hK he h0 => build_end0 he h0 ((hE0.trans hK).set (Nat.le_refl _))
  simp -implicitDefEqProofs (disch := first | omega | (simp -implicitDefEqProofs only [go_sem, List.size_toArray, List.length_cons, List.length_nil, Nat.reduceAdd]; done)) only [go_sem, Int.reduceLT, Int.reduceLE, Int.reduceEq, reduceIte, true_and, Nat.zero_add, Nat.add_zero, Option.map_some, c27, ← hH0]
  refine XLoop_cut (fun s => s.df = [] ∧ s.fr 0 = some v ∧ s.fr 2 = some (.pointer (some ⟨h.next, 0, none⟩)) ∧ goodL l l.length ∧ ∃ vb, s.fr 4 = some vb ∧ Made fU8 H0 s.h vb (dataOf l)) ?_ ?_
  · refine xloop (σ := Nat) (by kernel_rfl) (fun i s => s.df = [] ∧ s.fr 0 = some v ∧ s.fr 2 = some (.pointer (some ⟨h.next, 0, none⟩)) ∧ s.fr 5 = some (.int .i64 (i : Nat)) ∧ i ≤ l.length ∧ goodL l i ∧ ∃ vb, s.fr 4 = some vb ∧ Made fU8 H0 s.h vb (dataOf (l.take i))) (fun i => l.length - i) 0 ?_ ?_
    · simp -implicitDefEqProofs (disch := first | omega | (simp -implicitDefEqProofs only [go_sem, List.size_toArray, List.length_cons, List.length_nil, Nat.reduceAdd]; done)) only [go_sem, Int.reduceLT, Int.reduceLE, Int.reduceEq, reduceIte, true_and, Nat.zero_add, Nat.add_zero, Option.map_some]
      exact ⟨rfl, Nat.zero_le _, goodL_0, _, rfl, .nil _ (.refl _)⟩
    · rintro i ⟨fr, df, hh, rd⟩ K' hK' hX ⟨rfl, f0, f2, f5, hi, hg, vb, f4, hm⟩
      simp only at f0 f2 f5 f4 hm
      have hE := hm.ext
      by_cases hc1 : ((i : Nat) : Int) < (l.length : Nat)
      case neg =>
        have hi2 : i = l.length := by omega
        simp -implicitDefEqProofs (disch := first | omega | (simp -implicitDefEqProofs only [go_sem, List.size_toArray, List.length_cons, List.length_nil, Nat.reduceAdd]; done)) only [go_sem, Int.reduceLT, Int.reduceLE, Int.reduceEq, reduceIte, true_and, Nat.zero_add, Nat.add_zero, Option.map_some, f0, f5, el, hc1]
        refine hX _ _ (by simp) ?_
        rw [hi2, List.take_length] at hm
        exact ⟨rfl, by simp -implicitDefEqProofs (disch := first | omega | (simp -implicitDefEqProofs only [go_sem, List.size_toArray, List.length_cons, List.length_nil, Nat.reduceAdd]; done)) only [go_sem, Int.reduceLT, Int.reduceLE, Int.reduceEq, reduceIte, true_and, Nat.zero_add, Nat.add_zero, Option.map_some, f0], by simp -implicitDefEqProofs (disch := first | omega | (simp -implicitDefEqProofs only [go_sem, List.size_toArray, List.length_cons, List.length_nil, Nat.reduceAdd]; done)) only [go_sem, Int.reduceLT, Int.reduceLE, Int.reduceEq, reduceIte, true_and, Nat.zero_add, Nat.add_zero, Option.map_some, f2], by rw [hi2] at hg; exact hg, vb, by simp -implicitDefEqProofs (disch := first | omega | (simp -implicitDefEqProofs only [go_sem, List.size_toArray, List.length_cons, List.length_nil, Nat.reduceAdd]; done)) only [go_sem, Int.reduceLT, Int.reduceLE, Int.reduceEq, reduceIte, true_and, Nat.zero_add, Nat.add_zero, Option.map_some, f4], hm⟩
      have hj : i < l.length := by omega
      have hEE := hE0.trans hE
      obtain ⟨id, o, w, g1, _, c0, c1, c2, c3, _, hs, k1, k2, k3⟩ := part_cells (hv.ext hEE) (get_of_lt hj)
      obtain ⟨id0, o0, w0, g0, _, d0, d1, d2, d3, _, hs0, m1, m2, m3⟩ := part_cells (i := 0) (hv.ext hEE) (get_of_lt (by omega))
      have g0 : dIndexAddr Try.prog 44 v (.int .i64 0) = some (.pointer (some ⟨id0, o0, none⟩)) := g0
      have hBh : hh.get h.next = some (.row zeroState 0 false) := (hE.get _ (by omega)).trans hB0
      have hw1 := wrap_succ hj (by omega)
      have hwi : IntKind.i64.wrap ((i : Int) + 1) = ((i + 1 : Nat) : Int) := by rw [wrap_i64_in (by omega) (by omega)]; omega
      simp -implicitDefEqProofs (disch := first | omega | (simp -implicitDefEqProofs only [go_sem, List.size_toArray, List.length_cons, List.length_nil, Nat.reduceAdd]; done)) only [go_sem, Int.reduceLT, Int.reduceLE, Int.reduceEq, reduceIte, true_and, Nat.zero_add, Nat.add_zero, Option.map_some, f0, f5, el, hc1]
      refine NC.mono (refBuild_head (i := i) (l := l) (v := v) (hv.ext hEE) hl hj hg (by simp -implicitDefEqProofs (disch := first | omega | (simp -implicitDefEqProofs only [go_sem, List.size_toArray, List.length_cons, List.length_nil, Nat.reduceAdd]; done)) only [go_sem, Int.reduceLT, Int.reduceLE, Int.reduceEq, reduceIte, true_and, Nat.zero_add, Nat.add_zero, Option.map_some, f0]) (by simp -implicitDefEqProofs (disch := first | omega | (simp -implicitDefEqProofs only [go_sem, List.size_toArray, List.length_cons, List.length_nil, Nat.reduceAdd]; done)) only [go_sem, Int.reduceLT, Int.reduceLE, Int.reduceEq, reduceIte, true_and, Nat.zero_add, Nat.add_zero, Option.map_some, f5])) ?_
      rintro e ⟨fr1, df1, hh1, rd1⟩ hM
      cases e <;> try exact hM.elim
      obtain ⟨rfl, rfl, rfl, ⟨r0, r2, r4, r5⟩, b, r56, hb⟩ := hM
      simp only at r0 r2 r4 r5 r56
      have s0 := r0.trans (show _ = some v by simp -implicitDefEqProofs (disch := first | omega | (simp -implicitDefEqProofs only [go_sem, List.size_toArray, List.length_cons, List.length_nil, Nat.reduceAdd]; done)) only [go_sem, Int.reduceLT, Int.reduceLE, Int.reduceEq, reduceIte, true_and, Nat.zero_add, Nat.add_zero, Option.map_some, f0])
      have s2 := r2.trans (show _ = some (.pointer (some ⟨h.next, 0, none⟩)) by simp -implicitDefEqProofs (disch := first | omega | (simp -implicitDefEqProofs only [go_sem, List.size_toArray, List.length_cons, List.length_nil, Nat.reduceAdd]; done)) only [go_sem, Int.reduceLT, Int.reduceLE, Int.reduceEq, reduceIte, true_and, Nat.zero_add, Nat.add_zero, Option.map_some, f2])
      have s4 := r4.trans (show _ = some vb by simp -implicitDefEqProofs (disch := first | omega | (simp -implicitDefEqProofs only [go_sem, List.size_toArray, List.length_cons, List.length_nil, Nat.reduceAdd]; done)) only [go_sem, Int.reduceLT, Int.reduceLE, Int.reduceEq, reduceIte, true_and, Nat.zero_add, Nat.add_zero, Option.map_some, f4])
      have s5 := r5.trans (show _ = some (.int .i64 (i : Nat)) by simp -implicitDefEqProofs (disch := first | omega | (simp -implicitDefEqProofs only [go_sem, List.size_toArray, List.length_cons, List.length_nil, Nat.reduceAdd]; done)) only [go_sem, Int.reduceLT, Int.reduceLE, Int.reduceEq, reduceIte, true_and, Nat.zero_add, Nat.add_zero, Option.map_some, f5])
      have hx : l[i]? = some l[i] := get_of_lt hj
      cases b with
      | true =>
        have hbad : ¬ goodP l i l[i] := fun hh => by cases hb.2 hh
        simp -implicitDefEqProofs (disch := first | omega | (simp -implicitDefEqProofs only [go_sem, List.size_toArray, List.length_cons, List.length_nil, Nat.reduceAdd]; done)) only [go_sem, Int.reduceLT, Int.reduceLE, Int.reduceEq, reduceIte, true_and, Nat.zero_add, Nat.add_zero, Option.map_some, r56, s2, bd_state0, hz _ hBh]
        refine hX _ _ (by simp) ?_
        simp -implicitDefEqProofs (disch := first | omega | (simp -implicitDefEqProofs only [go_sem, List.size_toArray, List.length_cons, List.length_nil, Nat.reduceAdd]; done)) only [go_sem, Int.reduceLT, Int.reduceLE, Int.reduceEq, reduceIte, true_and, Nat.zero_add, Nat.add_zero, Option.map_some]
        exact ret_at (res_ct (by simp -implicitDefEqProofs (disch := first | omega | (simp -implicitDefEqProofs only [go_sem, List.size_toArray, List.length_cons, List.length_nil, Nat.reduceAdd]; done)) only [go_sem, Int.reduceLT, Int.reduceLE, Int.reduceEq, reduceIte, true_and, Nat.zero_add, Nat.add_zero, Option.map_some, s2]) (by simp -implicitDefEqProofs (disch := first | omega | (simp -implicitDefEqProofs only [go_sem, List.size_toArray, List.length_cons, List.length_nil, Nat.reduceAdd]; done)) only [go_sem, Int.reduceLT, Int.reduceLE, Int.reduceEq, reduceIte, true_and, Nat.zero_add, Nat.add_zero, Option.map_some]) (get_set_same _ _)) (hend _ _ hE (build_bad hx hbad) (by decide))
      | false =>
        have hgo := hb.1 rfl
        have hdl : (dataOf (l.take i)).length + l[i].data.length ≤ 1048576 := by
          have h1 := dataOf_take_le (l := l) (i := i + 1)
          rw [dataOf_take hx, List.length_append] at h1
          omega
        obtain ⟨v2, h2, e2, m2, _⟩ := hm.append app_22 hs (by omega) (by decide)
        simp -implicitDefEqProofs (disch := first | omega | (simp -implicitDefEqProofs only [go_sem, List.size_toArray, List.length_cons, List.length_nil, Nat.reduceAdd]; done)) only [go_sem, Int.reduceLT, Int.reduceLE, Int.reduceEq, reduceIte, true_and, Nat.zero_add, Nat.add_zero, Option.map_some, r56, s0, s4, s5, g1, c3, e2, hwi]
        refine hK' (i + 1) _ ?_ (by omega)
        refine ⟨by trivial, by simp -implicitDefEqProofs (disch := first | omega | (simp -implicitDefEqProofs only [go_sem, List.size_toArray, List.length_cons, List.length_nil, Nat.reduceAdd]; done)) only [go_sem, Int.reduceLT, Int.reduceLE, Int.reduceEq, reduceIte, true_and, Nat.zero_add, Nat.add_zero, Option.map_some, s0], by simp -implicitDefEqProofs (disch := first | omega | (simp -implicitDefEqProofs only [go_sem, List.size_toArray, List.length_cons, List.length_nil, Nat.reduceAdd]; done)) only [go_sem, Int.reduceLT, Int.reduceLE, Int.reduceEq, reduceIte, true_and, Nat.zero_add, Nat.add_zero, Option.map_some, s2], by simp -implicitDefEqProofs (disch := first | omega | (simp -implicitDefEqProofs only [go_sem, List.size_toArray, List.length_cons, List.length_nil, Nat.reduceAdd]; done)) only [go_sem, Int.reduceLT, Int.reduceLE, Int.reduceEq, reduceIte, true_and, Nat.zero_add, Nat.add_zero, Option.map_some], by omega, goodL_succ hg hx hgo, v2, by simp -implicitDefEqProofs (disch := first | omega | (simp -implicitDefEqProofs only [go_sem, List.size_toArray, List.length_cons, List.length_nil, Nat.reduceAdd]; done)) only [go_sem, Int.reduceLT, Int.reduceLE, Int.reduceEq, reduceIte, true_and, Nat.zero_add, Nat.add_zero, Option.map_some], ?_⟩
        rw [dataOf_take hx]
        exact m2
  · rintro ⟨fr, df, hh, rd⟩ ⟨rfl, f0, f2, hg, vb, f4, hm⟩
    simp only at f0 f2 f4 hm
    have hE := hm.ext
    have hBh : hh.get h.next = some (.row zeroState 0 false) := (hE.get _ (by omega)).trans hB0
    by_cases hn : l = []
    · have hn1 : (((l.length : Nat) : Int) = 0) = True := eq_true (by rw [hn]; rfl)
      simp -implicitDefEqProofs (disch := first | omega | (simp -implicitDefEqProofs only [go_sem, List.size_toArray, List.length_cons, List.length_nil, Nat.reduceAdd]; done)) only [go_sem, Int.reduceLT, Int.reduceLE, Int.reduceEq, reduceIte, true_and, Nat.zero_add, Nat.add_zero, Option.map_some, f0, f2, el, hn1, bd_state0, hz _ hBh]
      refine ret_at (res_ct ?_ ?_ (get_set_same _ _)) (hend hh 221 hE (by rw [hn]; exact build_nil) (by decide))
      · simp -implicitDefEqProofs (disch := first | omega | (simp -implicitDefEqProofs only [go_sem, List.size_toArray, List.length_cons, List.length_nil, Nat.reduceAdd]; done)) only [go_sem, Int.reduceLT, Int.reduceLE, Int.reduceEq, reduceIte, true_and, Nat.zero_add, Nat.add_zero, Option.map_some, f2]
      · simp -implicitDefEqProofs (disch := first | omega | (simp -implicitDefEqProofs only [go_sem, List.size_toArray, List.length_cons, List.length_nil, Nat.reduceAdd]; done)) only [go_sem, Int.reduceLT, Int.reduceLE, Int.reduceEq, reduceIte, true_and, Nat.zero_add, Nat.add_zero, Option.map_some]
    have hn0 : ((l.length : Nat) : Int) ≠ 0 := by
      cases l with
      | nil => exact absurd rfl hn
      | cons x l => simp; omega
    simp -implicitDefEqProofs (disch := first | omega | (simp -implicitDefEqProofs only [go_sem, List.size_toArray, List.length_cons, List.length_nil, Nat.reduceAdd]; done)) only [go_sem, Int.reduceLT, Int.reduceLE, Int.reduceEq, reduceIte, true_and, Nat.zero_add, Nat.add_zero, Option.map_some, f0, f4, el, hn0]
    refine ncall_ct (refParse_s hm.arg (by omega)) ?_
    rintro r h2 ⟨vc, vr, rfl, hE2, hc', hr'⟩
    rw [(parse_sm _).2, parseR_sm]
    rw [parseR_sm] at hc' hr'
    have hc : Arg fCell.rep h2 vc (parseR id (dataOf l)).cells := hc'.mono fun j hj => ⟨hj.2, rfl⟩
    have hr : Arg rRow h2 vr (parseR id (dataOf l)).rows := hr'.mono fun j hj => ⟨hj.2, rfl⟩
    have hone : [Value.int .i64 (parseR id (dataOf l)).slot, vc, vr].all Value.oneCell' = true := by
      obtain ⟨_, _, rfl⟩ := hc.isSlice
      obtain ⟨_, _, rfl⟩ := hr.isSlice
      rfl
    obtain ⟨H2, hH2⟩ : ∃ H, H = h2.push (.row [.int .i64 (parseR id (dataOf l)).slot, vc, vr] 0 false) := ⟨_, rfl⟩
    have hE3 : Ext h2 H2 := by rw [hH2]; exact Ext.push1 _ _
    have hE4 := hE.trans (hE2.trans hE3)
    have hBh2 : H2.get h.next = some (.row zeroState 0 false) := (hE4.get _ (by omega)).trans hB0
    have g2 : H2.get h2.next = some (.row [.int .i64 (parseR id (dataOf l)).slot, vc, vr] 0 false) := by rw [hH2]; exact get_push_same _ _
    have hH2n : H2.next = h2.next + 1 := by rw [hH2]; rfl
    have l2 : cellsAt H2 h2.next 0 3 = some (stateV (parseR id (dataOf l)).slot vc vr) := by rw [cellsAt_row g2 (Nat.le_of_ble_eq_true rfl)]; rfl
    by_cases he : parseE id (dataOf l) = 0
    case neg =>
      simp -implicitDefEqProofs (disch := first | omega | (simp -implicitDefEqProofs only [go_sem, List.size_toArray, List.length_cons, List.length_nil, Nat.reduceAdd]; done)) only [go_sem, Int.reduceLT, Int.reduceLE, Int.reduceEq, reduceIte, true_and, Nat.zero_add, Nat.add_zero, Option.map_some, XEnd, zero3 (K := h2) hone, ← hH2, he, f2, bd_state0, hz _ hBh2]
      exact ret_at (res_ct (by simp -implicitDefEqProofs (disch := first | omega | (simp -implicitDefEqProofs only [go_sem, List.size_toArray, List.length_cons, List.length_nil, Nat.reduceAdd]; done)) only [go_sem, Int.reduceLT, Int.reduceLE, Int.reduceEq, reduceIte, true_and, Nat.zero_add, Nat.add_zero, Option.map_some, f2]) (by simp -implicitDefEqProofs (disch := first | omega | (simp -implicitDefEqProofs only [go_sem, List.size_toArray, List.length_cons, List.length_nil, Nat.reduceAdd]; done)) only [go_sem, Int.reduceLT, Int.reduceLE, Int.reduceEq, reduceIte, true_and, Nat.zero_add, Nat.add_zero, Option.map_some]) (get_set_same _ _)) (hend _ _ hE4 (build_err hn hg he) he)
    have te := eq_true he
    have hst := parse_state he
    obtain ⟨p1, p2, p3⟩ := parseR_rows (dataOf l)
    obtain ⟨st, hst'⟩ : ∃ st, parseR id (dataOf l) = st := ⟨_, rfl⟩
    rw [hst'] at hc hr hc' hr' hone hH2 g2 l2 p1 p2 p3 hst
    simp -implicitDefEqProofs (disch := first | omega | (simp -implicitDefEqProofs only [go_sem, List.size_toArray, List.length_cons, List.length_nil, Nat.reduceAdd]; done)) only [go_sem, Int.reduceLT, Int.reduceLE, Int.reduceEq, reduceIte, true_and, Nat.zero_add, Nat.add_zero, Option.map_some, XEnd, hst', zero3 (K := h2) hone, ← hH2, te, l2]
    refine ncall_ct (refParts_c (n := st.slot) (cells := st.cells) (rows := st.rows) hst (hc.ext hE3) (hr.ext hE3) (by omega) (by omega)) ?_
    rintro r h3 ⟨vp, rfl, hE5, hp⟩
    have hE6 := hE4.trans hE5
    have hps : partsS ⟨st.slot, st.cells, st.rows⟩ = partsS (parseR id (dataOf l)) := by rw [hst']
    rw [hps] at hp
    obtain ⟨ps, hps2⟩ : ∃ ps, partsS (parseR id (dataOf l)) = ps := ⟨_, rfl⟩
    rw [hps2] at hp
    have ep : ∀ K, dLen Try.prog #[44] vp K = some (.int .i64 (ps.length : Nat)) := hp.lens (P := Try.prog) (ts := #[44]) (t := 44) rfl isl_44
    have hBh3 : h3.get h.next = some (.row zeroState 0 false) := (hE6.get _ (by omega)).trans hB0
    by_cases hpl : ps.length = l.length
    case neg =>
      have hpl' : ¬ (((ps.length : Nat) : Int) = (l.length : Nat)) := by omega
      simp -implicitDefEqProofs (disch := first | omega | (simp -implicitDefEqProofs only [go_sem, List.size_toArray, List.length_cons, List.length_nil, Nat.reduceAdd]; done)) only [go_sem, Int.reduceLT, Int.reduceLE, Int.reduceEq, reduceIte, true_and, Nat.zero_add, Nat.add_zero, Option.map_some, XEnd, f0, f2, el, ep, hpl', bd_state0, hz _ hBh3]
      refine ret_at (res_ct ?_ ?_ (get_set_same _ _)) (hend _ _ hE6 (build_not hn hg he (by rw [hps2]; exact fun h => hpl (by rw [h]))) (by decide))
      · simp -implicitDefEqProofs (disch := first | omega | (simp -implicitDefEqProofs only [go_sem, List.size_toArray, List.length_cons, List.length_nil, Nat.reduceAdd]; done)) only [go_sem, Int.reduceLT, Int.reduceLE, Int.reduceEq, reduceIte, true_and, Nat.zero_add, Nat.add_zero, Option.map_some, f2]
      · simp -implicitDefEqProofs (disch := first | omega | (simp -implicitDefEqProofs only [go_sem, List.size_toArray, List.length_cons, List.length_nil, Nat.reduceAdd]; done)) only [go_sem, Int.reduceLT, Int.reduceLE, Int.reduceEq, reduceIte, true_and, Nat.zero_add, Nat.add_zero, Option.map_some]
    have hpl' : (((ps.length : Nat) : Int) = (l.length : Nat)) = True := eq_true (by omega)
    simp -implicitDefEqProofs (disch := first | omega | (simp -implicitDefEqProofs only [go_sem, List.size_toArray, List.length_cons, List.length_nil, Nat.reduceAdd]; done)) only [go_sem, Int.reduceLT, Int.reduceLE, Int.reduceEq, reduceIte, true_and, Nat.zero_add, Nat.add_zero, Option.map_some, XEnd, f0, f2, el, ep, hpl']
    have hH23 : h2.next < h3.next := by have := hE5.next; omega
    have hvH : Arg rPart h3 v l := hv.ext (hE0.trans hE6)
    have g3 : h3.get h2.next = some (.row [.int .i64 st.slot, vc, vr] 0 false) := (hE5.get _ (by omega)).trans g2
    have l3 : cellsAt h3 h2.next 0 3 = some (stateV st.slot vc vr) := by rw [cellsAt_row g3 (Nat.le_of_ble_eq_true rfl)]; rfl
    have hhn := hE.next
    have hc3 : Sl fCell.rep (fun j => h.next < j ∧ j < h3.next) h3 vc st.cells := hc'.mono fun j hj => ⟨⟨by omega, by omega⟩, (hE3.trans hE5).get j hj.2⟩
    have hr3 : Sl rRow (fun j => h.next < j ∧ j < h3.next) h3 vr st.rows := hr'.mono fun j hj => ⟨⟨by omega, by omega⟩, (hE3.trans hE5).get j hj.2⟩
    refine xloop (σ := Nat) (by kernel_rfl) (fun i s => s.df = [] ∧ s.h = h3 ∧ s.fr 0 = some v ∧ s.fr 2 = some (.pointer (some ⟨h.next, 0, none⟩)) ∧ s.fr 6 = some (.pointer (some ⟨h2.next, 0, none⟩)) ∧ s.fr 8 = some vp ∧ s.fr 9 = some (.int .i64 (i : Nat)) ∧ i ≤ l.length ∧ ∀ j, j < i → ps[j]? = l[j]?) (fun i => l.length - i) 0 ?_ ?_
    · simp -implicitDefEqProofs (disch := first | omega | (simp -implicitDefEqProofs only [go_sem, List.size_toArray, List.length_cons, List.length_nil, Nat.reduceAdd]; done)) only [go_sem, Int.reduceLT, Int.reduceLE, Int.reduceEq, reduceIte, true_and, Nat.zero_add, Nat.add_zero, Option.map_some, f0, f2]
      exact ⟨rfl, Nat.zero_le _, fun j hj => absurd hj (Nat.not_lt_zero j)⟩
    · rintro i ⟨fr, df, hh, rd⟩ K' hK' hX ⟨rfl, rfl, f0, f2, f6, f8, f9, hi, hsame⟩
      simp only at f0 f2 f6 f8 f9
      by_cases hc1 : ((i : Nat) : Int) < (l.length : Nat)
      case neg =>
        have hi2 : i = l.length := by omega
        simp -implicitDefEqProofs (disch := first | omega | (simp -implicitDefEqProofs only [go_sem, List.size_toArray, List.length_cons, List.length_nil, Nat.reduceAdd]; done)) only [go_sem, Int.reduceLT, Int.reduceLE, Int.reduceEq, reduceIte, true_and, Nat.zero_add, Nat.add_zero, Option.map_some, f0, f9, el, hc1]
        refine hX _ _ (by simp) ?_
        have hpe : ps = l := List.ext_getElem? fun j => by
          by_cases hj : j < l.length
          · exact hsame j (by omega)
          · rw [List.getElem?_eq_none (by omega), List.getElem?_eq_none (by omega)]
        have hok := build_ok hn hg he (by rw [hps2]; exact hpe)
        have hst4 := storeAt_row (o := 0) (vs := [.int .i64 st.slot, vc, vr]) hBh3 (Nat.le_of_ble_eq_true rfl) hone
        have hrs : buildR l = st := (buildR_yes hok).trans hst'
        have hEf : Ext h (hh.set h.next (.row [.int .i64 st.slot, vc, vr] 0 false)) := (hE0.trans hE6).set (Nat.le_refl _)
        simp -implicitDefEqProofs (disch := first | omega | (simp -implicitDefEqProofs only [go_sem, List.size_toArray, List.length_cons, List.length_nil, Nat.reduceAdd]; done)) only [go_sem, Int.reduceLT, Int.reduceLE, Int.reduceEq, reduceIte, true_and, Nat.zero_add, Nat.add_zero, Option.map_some, f2, f6, l3, hst4]
        refine ret_at (res_ct (n := st.slot) (vc := vc) (vr := vr) (e := 0) ?_ ?_ (get_set_same _ _)) ⟨vc, vr, by rw [hrs, hok], hEf, ?_, ?_⟩
        · simp -implicitDefEqProofs (disch := first | omega | (simp -implicitDefEqProofs only [go_sem, List.size_toArray, List.length_cons, List.length_nil, Nat.reduceAdd]; done)) only [go_sem, Int.reduceLT, Int.reduceLE, Int.reduceEq, reduceIte, true_and, Nat.zero_add, Nat.add_zero, Option.map_some, f2]
        · simp -implicitDefEqProofs (disch := first | omega | (simp -implicitDefEqProofs only [go_sem, List.size_toArray, List.length_cons, List.length_nil, Nat.reduceAdd]; done)) only [go_sem, Int.reduceLT, Int.reduceLE, Int.reduceEq, reduceIte, true_and, Nat.zero_add, Nat.add_zero, Option.map_some]
        · rw [hrs]
          exact hc3.mono fun j hj => ⟨hj.2, get_set_other _ _ (by omega)⟩
        · rw [hrs]
          exact hr3.mono fun j hj => ⟨hj.2, get_set_other _ _ (by omega)⟩
      have hj : i < l.length := by omega
      obtain ⟨id, o, w, g1, _, _, _, _, _, c4, hs, k1, k2, k3⟩ := part_cells hvH (get_of_lt hj)
      obtain ⟨id0, o0, w0, g0, _, _, _, _, _, d4, hs0, m1, m2, m3⟩ := part_cells hp (get_of_lt (by omega : i < ps.length))
      have hwi : IntKind.i64.wrap ((i : Int) + 1) = ((i + 1 : Nat) : Int) := by rw [wrap_i64_in (by omega) (by omega)]; omega
      simp -implicitDefEqProofs (disch := first | omega | (simp -implicitDefEqProofs only [go_sem, List.size_toArray, List.length_cons, List.length_nil, Nat.reduceAdd]; done)) only [go_sem, Int.reduceLT, Int.reduceLE, Int.reduceEq, reduceIte, true_and, Nat.zero_add, Nat.add_zero, Option.map_some, f0, f9, el, hc1]
      refine dr_27_1 ?_
      simp -implicitDefEqProofs (disch := first | omega | (simp -implicitDefEqProofs only [go_sem, List.size_toArray, List.length_cons, List.length_nil, Nat.reduceAdd]; done)) only [go_sem, Int.reduceLT, Int.reduceLE, Int.reduceEq, reduceIte, true_and, Nat.zero_add, Nat.add_zero, Option.map_some, l27_1, f0, f8, f9, g1, g0, c4, d4]
      refine dcall (samePart_c hs0 hs) ?_
      cases hb : samePartB ps[i] l[i] with
      | false =>
        simp -implicitDefEqProofs (disch := first | omega | (simp -implicitDefEqProofs only [go_sem, List.size_toArray, List.length_cons, List.length_nil, Nat.reduceAdd]; done)) only [go_sem, Int.reduceLT, Int.reduceLE, Int.reduceEq, reduceIte, true_and, Nat.zero_add, Nat.add_zero, Option.map_some, f2, bd_state0, hz _ hBh3]
        refine hX _ _ (by simp) ?_
        simp -implicitDefEqProofs (disch := first | omega | (simp -implicitDefEqProofs only [go_sem, List.size_toArray, List.length_cons, List.length_nil, Nat.reduceAdd]; done)) only [go_sem, Int.reduceLT, Int.reduceLE, Int.reduceEq, reduceIte, true_and, Nat.zero_add, Nat.add_zero, Option.map_some]
        refine ret_at (res_ct ?_ ?_ (get_set_same _ _)) (hend hh 221 hE6 (build_not hn hg he (by
          rw [hps2]
          intro hh2
          subst hh2
          rw [samePart_iff.2 rfl] at hb
          cases hb)) (by decide))
        · simp -implicitDefEqProofs (disch := first | omega | (simp -implicitDefEqProofs only [go_sem, List.size_toArray, List.length_cons, List.length_nil, Nat.reduceAdd]; done)) only [go_sem, Int.reduceLT, Int.reduceLE, Int.reduceEq, reduceIte, true_and, Nat.zero_add, Nat.add_zero, Option.map_some, f2]
        · simp -implicitDefEqProofs (disch := first | omega | (simp -implicitDefEqProofs only [go_sem, List.size_toArray, List.length_cons, List.length_nil, Nat.reduceAdd]; done)) only [go_sem, Int.reduceLT, Int.reduceLE, Int.reduceEq, reduceIte, true_and, Nat.zero_add, Nat.add_zero, Option.map_some]
      | true =>
        simp -implicitDefEqProofs (disch := first | omega | (simp -implicitDefEqProofs only [go_sem, List.size_toArray, List.length_cons, List.length_nil, Nat.reduceAdd]; done)) only [go_sem, Int.reduceLT, Int.reduceLE, Int.reduceEq, reduceIte, true_and, Nat.zero_add, Nat.add_zero, Option.map_some, f9, hwi]
        refine hK' (i + 1) _ ?_ (by omega)
        refine ⟨by trivial, by trivial, by simp -implicitDefEqProofs (disch := first | omega | (simp -implicitDefEqProofs only [go_sem, List.size_toArray, List.length_cons, List.length_nil, Nat.reduceAdd]; done)) only [go_sem, Int.reduceLT, Int.reduceLE, Int.reduceEq, reduceIte, true_and, Nat.zero_add, Nat.add_zero, Option.map_some, f0], by simp -implicitDefEqProofs (disch := first | omega | (simp -implicitDefEqProofs only [go_sem, List.size_toArray, List.length_cons, List.length_nil, Nat.reduceAdd]; done)) only [go_sem, Int.reduceLT, Int.reduceLE, Int.reduceEq, reduceIte, true_and, Nat.zero_add, Nat.add_zero, Option.map_some, f2], by simp -implicitDefEqProofs (disch := first | omega | (simp -implicitDefEqProofs only [go_sem, List.size_toArray, List.length_cons, List.length_nil, Nat.reduceAdd]; done)) only [go_sem, Int.reduceLT, Int.reduceLE, Int.reduceEq, reduceIte, true_and, Nat.zero_add, Nat.add_zero, Option.map_some, f6], by simp -implicitDefEqProofs (disch := first | omega | (simp -implicitDefEqProofs only [go_sem, List.size_toArray, List.length_cons, List.length_nil, Nat.reduceAdd]; done)) only [go_sem, Int.reduceLT, Int.reduceLE, Int.reduceEq, reduceIte, true_and, Nat.zero_add, Nat.add_zero, Option.map_some, f8], by simp -implicitDefEqProofs (disch := first | omega | (simp -implicitDefEqProofs only [go_sem, List.size_toArray, List.length_cons, List.length_nil, Nat.reduceAdd]; done)) only [go_sem, Int.reduceLT, Int.reduceLE, Int.reduceEq, reduceIte, true_and, Nat.zero_add, Nat.add_zero, Option.map_some], by omega, fun j hj2 => ?_⟩
        by_cases hji : j = i
        · subst hji
          rw [get_of_lt hj, get_of_lt (by omega : j < ps.length), samePart_iff.1 hb]
        · exact hsame j (by omega)
end Go.Proofs.Ytlhgijpdhniddaa

namespace Go.Proofs.Ytlhgijpdhniddaa
open Go.D
set_option maxRecDepth 100000
def bulkPart (x : Part) : Nat := 3 + sumB (fun _ => 1) x.data
theorem lay_part : Lays Try.prog 57 rPart bulkPart :=
  (Lays.of (l := [(2, 0), (3, 1), (3, 2), (22, 3)]) (by kernel_rfl) (by kernel_rfl) (.cons lay_i64 (.cons lay_int (.cons lay_int (.one lay_bytes))))).conv (Q := rPart) rfl (fun x => ⟨x.1, x.2.1, x.2.2.1, x.2.2.2⟩) (fun _ _ _ _ h => h)
    (fun x => by simp only [bulkPart]; omega)
theorem lay_parts : Lays Try.prog 44 (rSl rPart) (sumB bulkPart) := .slice (e := 57) (by kernel_rfl) (by kernel_rfl) (by decide) lay_part
theorem par_parts : Par Try.prog 44 false := ⟨_, Try.underlying44, rfl⟩
/-- what parts that have come in are at most -/
theorem bulk_parts (l : List Part) : l.length ≤ sumB bulkPart l ∧ (dataOf l).length ≤ sumB bulkPart l := by
  induction l with
  | nil => exact ⟨Nat.le_refl _, Nat.le_refl _⟩
  | cons x l ih =>
    have h1 := sumB_len (fun _ => 1) x.data
    have h2 : bulkPart x = 3 + sumB (fun _ => 1) x.data := rfl
    have h3 : dataOf (x :: l) = x.data ++ dataOf l := by simp [dataOf]
    simp only [sumB, List.length_cons, h3, List.length_append]
    omega
end Go.Proofs.Ytlhgijpdhniddaa

namespace Go.D
variable {P : Program} {nt : Nat}

/-- the heap in a loop over a function that was begun at hB: what the loop may change is ids, and what was made since -/
structure Rng (hB : DHeap) (D : DLoop) (ids : Nat → Prop) (K : DHeap) : Prop where
  old : ∀ j, j < hB.next → ¬ ids j → K.get j = hB.get j
  nx : hB.next + 2 ≤ K.next
  ng : K.ng = hB.ng
  mrk : K.get hB.next = some (.marks true)
  lp : K.get (hB.next + 1) = some (.loop D)
section
variable {hB K K' : DHeap} {D D' : DLoop} {ids : Nat → Prop} {o : DObj} {id : Nat}
theorem Rng.start (hB : DHeap) (D : DLoop) (ids : Nat → Prop) : Rng hB D ids ((hB.push (.marks true)).push (.loop D)) :=
  ⟨fun j hj _ => by rw [get_push_other _ _ (by rw [next_push]; omega), get_push_other _ _ hj], Nat.le_refl _, rfl, get_p1, get_push_same _ _⟩
theorem Rng.ext (r : Rng hB D ids K) (e : Ext K K') : Rng hB D ids K' :=
  ⟨fun j hj hi => (e.get j (by have := r.nx; omega)).trans (r.old j hj hi), Nat.le_trans r.nx e.next, e.ng.trans r.ng, (e.get _ (by have := r.nx; omega)).trans r.mrk, (e.get _ (by have := r.nx; omega)).trans r.lp⟩
theorem Rng.set (r : Rng hB D ids K) (hi : ids id) (hid : id < hB.next) : Rng hB D ids (K.set id o) :=
  ⟨fun j hj hij => (get_set_other _ _ (by intro hh; subst hh; exact hij hi)).trans (r.old j hj hij), r.nx, r.ng, (get_set_other _ _ (by omega)).trans r.mrk, (get_set_other _ _ (by omega)).trans r.lp⟩
theorem Rng.push (r : Rng hB D ids K) (o : DObj) : Rng hB D ids (K.push o) := r.ext (Ext.push1 _ _)
theorem Rng.loop (r : Rng hB D ids K) (D' : DLoop) : Rng hB D' ids (K.set (hB.next + 1) (.loop D')) :=
  ⟨fun j hj hij => (get_set_other _ _ (by omega)).trans (r.old j hj hij), r.nx, r.ng, (get_set_other _ _ (by omega)).trans r.mrk, get_set_same _ _⟩
/-- what was there at h, under hB, and is not changed -/
theorem Rng.below {h : DHeap} (r : Rng hB D ids K) (e : Ext h hB) (hi : ∀ j, ids j → h.next ≤ j) : Ext h K :=
  ⟨Nat.le_trans e.next (by have := r.nx; omega), r.ng.trans e.ng, fun j hj => (r.old j (Nat.lt_of_lt_of_le hj e.next) (fun hh => by have := hi j hh; omega)).trans (e.get j hj)⟩
end
/-- a round, walked without its places -/
theorem Rt_walk {l size : Nat} {tmps : Fr} {fa fb sa sb : Code} {h : DHeap} {R : DEnd → DHeap → Prop} (ta : Go.D.strip fa = sa) (tb : Go.D.strip fb = sb) (ka : codeOK size sa = true) (kb : codeOK size sb = true)
    (hx : xs P size sa (DThen (fun s => ∃ d, s.h.get l = some (.loop d) ∧ d.state = .ready ∧ xs P size sb (XRoundPost l R) ⟨s.fr, s.df, s.h.set l (.loop { d with state := .busy, pending := d.pending }), s.rd⟩) fun _ _ => False) ⟨tmps, [], h, some l⟩) :
    Rt P l size tmps fa fb h R := by
  refine Rt_of (NC.strip ta ka (xs_mono _ _ (fun e s hq => ?_) hx))
  cases e with
  | normal =>
    obtain ⟨d, e1, e2, e3⟩ := hq
    exact ⟨trivial, d, e1, e2, NC.strip tb kb e3⟩
  | _ => exact hq.elim
/-- an outermost loop over a function that yields -/
theorem NC.range_yields {g : Operand} {ps : Array Tmp} {assign body : Code} {Q : DExit → St → Prop} {s : St} {fv : Value} {f : FuncId} {args : List Value} {A B : DHeap → Prop}
    (hrd : s.rd = none) (hg : evalF s.h.ng s.fr g = some fv)
    (ht : ∀ K, dTarget P fv [.func (.yield (s.h.next + 1)) #[] #[]] K = some (.enter f args))
    (hc : Ct P f args ((s.h.push (.marks true)).push (.loop ⟨nt, s.fr, ps, assign, body, s.h.next, .ready, none⟩)) fun r H => (∃ v, r = .ret v) ∧ (A H ∨ B H))
    (hA : ∀ H, A H → H.get (s.h.next + 1) = some (.loop ⟨nt, s.fr, ps, assign, body, s.h.next, .ready, none⟩) ∧ Q .normal ⟨s.fr, .mark s.h.next :: s.df, H.set (s.h.next + 1) (.loop ⟨nt, s.fr, ps, assign, body, s.h.next, .exhausted, none⟩), s.rd⟩)
    (hB : ∀ H, B H → H.get (s.h.next + 1) = some (.loop ⟨nt, s.fr, ps, assign, body, s.h.next, .done, some .ret⟩) ∧ Q .ret ⟨s.fr, .mark s.h.next :: s.df, H.set (s.h.next + 1) (.loop ⟨nt, s.fr, ps, assign, body, s.h.next, .exhausted, some .ret⟩), s.rd⟩) :
    NC P nt (.rangeFunc g ps assign body) Q s := by
  refine NC.range hrd hg rfl (ht _) hc fun r H hr => ?_
  obtain ⟨⟨v, rfl⟩, hr | hr⟩ := hr
  · obtain ⟨a, b⟩ := hA H hr
    exact ⟨_, a, by simp, b⟩
  · obtain ⟨a, b⟩ := hB H hr
    exact ⟨_, a, by simp, b⟩
theorem dTarget_func {f : FuncId} (hg : goodFn P f = true) (first cap : Array Value) (vs : List Value) (h : DHeap) : dTarget P (.func (.func f) first cap) vs h = some (.enter f (first.toList ++ vs ++ cap.toList)) := by
  simp [dTarget, hg]
end Go.D

namespace Go.Proofs.Ytlhgijpdhniddaa
open Go.D
set_option maxRecDepth 100000

theorem build_head {h : DHeap} {v : Value} {l : List Part} {i b1 p : Nat} {x : Part} {fr : Fr} {rd : Option Nat} (hv : Arg rPart h v l) (hl : l.length ≤ 1048576) (hi : l[i]? = some x) (f1 : fr 1 = some (.pointer (some ⟨b1, 0, none⟩))) (f5 : fr 5 = some (.int .i64 (i : Nat))) (f6 : fr 6 = some (.pointer (some ⟨p, 0, none⟩)))
    (hb : cellAt h b1 0 = some v) (p0 : cellAt h p 0 = some (.int .i64 x.slot)) (p1 : cellAt h p 1 = some (.int .i64 x.index)) (p2 : cellAt h p 2 = some (.int .i64 x.many)) :
    NC Try.prog 94 r26_0 (DThen (fun s => s.df = [] ∧ s.h = h ∧ s.rd = rd ∧ (s.fr 1 = fr 1 ∧ s.fr 2 = fr 2 ∧ s.fr 3 = fr 3 ∧ s.fr 4 = fr 4 ∧ s.fr 6 = fr 6 ∧ s.fr 15 = fr 15 ∧ s.fr 16 = fr 16 ∧ s.fr 17 = fr 17) ∧ ∃ b, s.fr 41 = some (.bool b) ∧ (b = false ↔ goodP l i x)) (fun _ _ => False)) ⟨fr, [], h, rd⟩ := by
  have hj : i < l.length := (List.getElem?_eq_some_iff.1 hi).1
  obtain ⟨id0, o0, w0, g0, _, d0, d1, d2, d3, _, hs0, m1, m2, m3⟩ := part_cells (i := 0) hv (get_of_lt (by omega))
  have g0 : dIndexAddr Try.prog 44 v (.int .i64 0) = some (.pointer (some ⟨id0, o0, none⟩)) := g0
  have el : ∀ K, dLen Try.prog #[44] v K = some (.int .i64 (l.length : Nat)) := hv.lens (P := Try.prog) (ts := #[44]) (t := 44) rfl isl_44
  have hy : l[0]? = some l[0] := get_of_lt (by omega)
  have hgood : goodP l i x ↔ (x.slot = l[0].slot ∧ x.many = (l.length : Int) ∧ x.index = (i : Int)) := by
    unfold goodP
    rw [hy]
    simp
  refine dr_26_0 ?_
  have D2 : dLoad Try.prog 3 (.pointer (some ⟨p, 2, none⟩)) h = some (.int .i64 x.many) := ld_3.trans p2
  by_cases q0 : x.slot = l[0].slot
  case neg =>
    simp -implicitDefEqProofs (disch := first | omega | (simp -implicitDefEqProofs only [go_sem, List.size_toArray, List.length_cons, List.length_nil, Nat.reduceAdd]; done)) only [go_sem, Int.reduceLT, Int.reduceLE, Int.reduceEq, reduceIte, true_and, Nat.zero_add, Nat.add_zero, Option.map_some, l26_0, f1, f5, f6, hb, g0, p0, d0, q0, dPick_t, dPick_f]
    refine ⟨⟨XSt1_at (i := 9) (j := 11) rfl rfl rfl ?_, trivial⟩, ?_⟩
    · rw [if_neg (by decide)]
      exact Ld_offL (by simp -implicitDefEqProofs (disch := first | omega | (simp -implicitDefEqProofs only [go_sem, List.size_toArray, List.length_cons, List.length_nil, Nat.reduceAdd]; done)) only [go_sem, Int.reduceLT, Int.reduceLE, Int.reduceEq, reduceIte, true_and, Nat.zero_add, Nat.add_zero, Option.map_some])
    · exact ⟨_, rfl, by simp [hgood, q0]⟩
  have t0 := eq_true q0
  by_cases q2 : x.many = (l.length : Int)
  case neg =>
    simp -implicitDefEqProofs (disch := first | omega | (simp -implicitDefEqProofs only [go_sem, List.size_toArray, List.length_cons, List.length_nil, Nat.reduceAdd]; done)) only [go_sem, Int.reduceLT, Int.reduceLE, Int.reduceEq, reduceIte, true_and, Nat.zero_add, Nat.add_zero, Option.map_some, l26_0, f1, f5, f6, hb, g0, p0, d0, t0, p2, el, q2, dPick_t, dPick_f]
    refine ⟨⟨XSt1_at (i := 9) (j := 11) rfl rfl rfl ?_, trivial⟩, ?_⟩
    · rw [if_neg (by decide)]
      exact Ld_on (p := .pointer (some ⟨p, 2, none⟩)) (by simp -implicitDefEqProofs (disch := first | omega | (simp -implicitDefEqProofs only [go_sem, List.size_toArray, List.length_cons, List.length_nil, Nat.reduceAdd]; done)) only [go_sem, Int.reduceLT, Int.reduceLE, Int.reduceEq, reduceIte, true_and, Nat.zero_add, Nat.add_zero, Option.map_some]) (by simp -implicitDefEqProofs (disch := first | omega | (simp -implicitDefEqProofs only [go_sem, List.size_toArray, List.length_cons, List.length_nil, Nat.reduceAdd]; done)) only [go_sem, Int.reduceLT, Int.reduceLE, Int.reduceEq, reduceIte, true_and, Nat.zero_add, Nat.add_zero, Option.map_some, f6]) D2
    · exact ⟨_, rfl, by simp [hgood, q0, q2]⟩
  have t2 := eq_true q2
  simp -implicitDefEqProofs (disch := first | omega | (simp -implicitDefEqProofs only [go_sem, List.size_toArray, List.length_cons, List.length_nil, Nat.reduceAdd]; done)) only [go_sem, Int.reduceLT, Int.reduceLE, Int.reduceEq, reduceIte, true_and, Nat.zero_add, Nat.add_zero, Option.map_some, l26_0, f1, f5, f6, hb, g0, p0, d0, t0, p2, el, t2, p1, dPick_t, dPick_f]
  refine ⟨⟨XSt1_at (i := 9) (j := 11) rfl rfl rfl ?_, trivial⟩, ?_⟩
  · rw [if_neg (by decide)]
    exact Ld_on (p := .pointer (some ⟨p, 2, none⟩)) (by simp -implicitDefEqProofs (disch := first | omega | (simp -implicitDefEqProofs only [go_sem, List.size_toArray, List.length_cons, List.length_nil, Nat.reduceAdd]; done)) only [go_sem, Int.reduceLT, Int.reduceLE, Int.reduceEq, reduceIte, true_and, Nat.zero_add, Nat.add_zero, Option.map_some]) (by simp -implicitDefEqProofs (disch := first | omega | (simp -implicitDefEqProofs only [go_sem, List.size_toArray, List.length_cons, List.length_nil, Nat.reduceAdd]; done)) only [go_sem, Int.reduceLT, Int.reduceLE, Int.reduceEq, reduceIte, true_and, Nat.zero_add, Nat.add_zero, Option.map_some, f6]) D2
  · exact ⟨_, rfl, by simp [hgood, q0, q2]⟩
theorem build_same {h : DHeap} {v w : Value} {l : List Part} {n b1 p id9 : Nat} {x : Part} {fr : Fr} {df : List DDef} {rd : Option Nat} (hv : Arg rPart h v l) (hl : l.length ≤ 1048576) (hdl : x.data.length ≤ 4294967296) (f1 : fr 1 = some (.pointer (some ⟨b1, 0, none⟩))) (f9 : fr 9 = some (.pointer (some ⟨id9, 0, none⟩))) (f10 : fr 10 = some (.pointer (some ⟨p, 0, none⟩)))
    (hb : cellAt h b1 0 = some v) (hn : cellAt h id9 0 = some (.int .i64 (n : Nat))) (p0 : cellAt h p 0 = some (.int .i64 x.slot)) (p3 : cellAt h p 3 = some w) (hw : Arg fU8.rep h w x.data) :
    NC Try.prog 94 r26_1 (DThen (fun s => s.df = df ∧ s.h = h ∧ s.rd = rd ∧ (s.fr 2 = fr 2 ∧ s.fr 3 = fr 3 ∧ s.fr 9 = fr 9) ∧ ∃ b, s.fr 84 = some (.bool b) ∧ (b = false ↔ ∃ y, l[n]? = some y ∧ x.slot = y.slot ∧ x.data = y.data)) (fun _ _ => False)) ⟨fr, df, h, rd⟩ := by
  have el : ∀ K, dLen Try.prog #[44] v K = some (.int .i64 (l.length : Nat)) := hv.lens (P := Try.prog) (ts := #[44]) (t := 44) rfl isl_44
  refine dr_26_1 ?_
  have D0 : dLoad Try.prog 3 (.pointer (some ⟨id9, 0, none⟩)) h = some (.int .i64 (n : Nat)) := ld_3.trans hn
  by_cases q : (l.length : Int) ≤ (n : Nat)
  case pos =>
    have q' := eq_true q
    have hnone : l[n]? = none := List.getElem?_eq_none (by omega)
    simp -implicitDefEqProofs (disch := first | omega | (simp -implicitDefEqProofs only [go_sem, List.size_toArray, List.length_cons, List.length_nil, Nat.reduceAdd]; done)) only [go_sem, Int.reduceLT, Int.reduceLE, Int.reduceEq, reduceIte, true_and, Nat.zero_add, Nat.add_zero, Option.map_some, l26_1, f1, f9, f10, hb, hn, el, ge_iff_le, q', dPick_t, dPick_f]
    refine ⟨⟨XSt1_at (i := 0) (j := 2) rfl rfl rfl ?_, trivial⟩, ?_⟩
    · rw [if_neg (by decide)]
      exact Ld_on (p := .pointer (some ⟨id9, 0, none⟩)) (by simp -implicitDefEqProofs (disch := first | omega | (simp -implicitDefEqProofs only [go_sem, List.size_toArray, List.length_cons, List.length_nil, Nat.reduceAdd]; done)) only [go_sem, Int.reduceLT, Int.reduceLE, Int.reduceEq, reduceIte, true_and, Nat.zero_add, Nat.add_zero, Option.map_some]) (by simp -implicitDefEqProofs (disch := first | omega | (simp -implicitDefEqProofs only [go_sem, List.size_toArray, List.length_cons, List.length_nil, Nat.reduceAdd]; done)) only [go_sem, Int.reduceLT, Int.reduceLE, Int.reduceEq, reduceIte, true_and, Nat.zero_add, Nat.add_zero, Option.map_some, f9]) D0
    · exact ⟨_, rfl, by simp [hnone]⟩
  have hj : n < l.length := by omega
  have hx : l[n]? = some l[n] := get_of_lt hj
  obtain ⟨id0, o0, w0, g0, _, d0, d1, d2, d3, _, hs0, m1, m2, m3⟩ := part_cells hv hx
  by_cases q0 : x.slot = l[n].slot
  case neg =>
    simp -implicitDefEqProofs (disch := first | omega | (simp -implicitDefEqProofs only [go_sem, List.size_toArray, List.length_cons, List.length_nil, Nat.reduceAdd]; done)) only [go_sem, Int.reduceLT, Int.reduceLE, Int.reduceEq, reduceIte, true_and, Nat.zero_add, Nat.add_zero, Option.map_some, l26_1, f1, f9, f10, hb, hn, el, ge_iff_le, q, g0, d0, p0, q0, dPick_t, dPick_f]
    refine ⟨⟨XSt1_at (i := 0) (j := 2) rfl rfl rfl ?_, trivial⟩, ?_⟩
    · rw [if_neg (by decide)]
      exact Ld_on (p := .pointer (some ⟨id9, 0, none⟩)) (by simp -implicitDefEqProofs (disch := first | omega | (simp -implicitDefEqProofs only [go_sem, List.size_toArray, List.length_cons, List.length_nil, Nat.reduceAdd]; done)) only [go_sem, Int.reduceLT, Int.reduceLE, Int.reduceEq, reduceIte, true_and, Nat.zero_add, Nat.add_zero, Option.map_some]) (by simp -implicitDefEqProofs (disch := first | omega | (simp -implicitDefEqProofs only [go_sem, List.size_toArray, List.length_cons, List.length_nil, Nat.reduceAdd]; done)) only [go_sem, Int.reduceLT, Int.reduceLE, Int.reduceEq, reduceIte, true_and, Nat.zero_add, Nat.add_zero, Option.map_some, f9]) D0
    · exact ⟨_, rfl, by simp [hx, q0]⟩
  have t0 := eq_true q0
  simp -implicitDefEqProofs (disch := first | omega | (simp -implicitDefEqProofs only [go_sem, List.size_toArray, List.length_cons, List.length_nil, Nat.reduceAdd]; done)) only [go_sem, Int.reduceLT, Int.reduceLE, Int.reduceEq, reduceIte, true_and, Nat.zero_add, Nat.add_zero, Option.map_some, l26_1, f1, f9, f10, hb, hn, el, ge_iff_le, q, g0, d0, p0, t0, d3, p3, dPick_t, dPick_f]
  refine dcall (eqBytes_c hw hs0 hdl) ?_
  simp -implicitDefEqProofs (disch := first | omega | (simp -implicitDefEqProofs only [go_sem, List.size_toArray, List.length_cons, List.length_nil, Nat.reduceAdd]; done)) only [go_sem, Int.reduceLT, Int.reduceLE, Int.reduceEq, reduceIte, true_and, Nat.zero_add, Nat.add_zero, Option.map_some, dPick_t, dPick_f]
  refine ⟨⟨XSt1_at (i := 0) (j := 2) rfl rfl rfl ?_, trivial⟩, ?_⟩
  · rw [if_neg (by decide)]
    exact Ld_on (p := .pointer (some ⟨id9, 0, none⟩)) (by simp -implicitDefEqProofs (disch := first | omega | (simp -implicitDefEqProofs only [go_sem, List.size_toArray, List.length_cons, List.length_nil, Nat.reduceAdd]; done)) only [go_sem, Int.reduceLT, Int.reduceLE, Int.reduceEq, reduceIte, true_and, Nat.zero_add, Nat.add_zero, Option.map_some]) (by simp -implicitDefEqProofs (disch := first | omega | (simp -implicitDefEqProofs only [go_sem, List.size_toArray, List.length_cons, List.length_nil, Nat.reduceAdd]; done)) only [go_sem, Int.reduceLT, Int.reduceLE, Int.reduceEq, reduceIte, true_and, Nat.zero_add, Nat.add_zero, Option.map_some, f9]) D0
  · refine ⟨f9, _, rfl, ?_⟩
    rw [Bool.not_eq_false']
    constructor
    · intro hh
      exact ⟨_, hx, q0, sameL_eq (fun a b h => of_decide_eq_true h) hh⟩
    · rintro ⟨y, h1, h2, h3⟩
      rw [hx] at h1
      cases h1
      rw [h3]
      exact sameL_refl fun a _ => decide_eq_true rfl
end Go.Proofs.Ytlhgijpdhniddaa

namespace Go.Proofs.Ytlhgijpdhniddaa
open Go.D
set_option maxRecDepth 100000

theorem partsL_at {slot : Int} {l : List Int} {j : Nat} {x : Part} (h : (partsL slot l)[j]? = some x) : x.index = (j : Int) ∧ x.many = ((partsL slot l).length : Int) := by
  have hj := (List.getElem?_eq_some_iff.1 h).1
  rw [partsL_len] at hj
  rw [partsL_get hj] at h
  cases h
  rw [partsL_len]
  exact ⟨rfl, rfl⟩
theorem partsS_at {s : State} {j : Nat} {x : Part} (h : (partsS s)[j]? = some x) : x.index = (j : Int) ∧ x.many = ((partsS s).length : Int) := by
  unfold partsS at h ⊢
  split at h
  · rename_i h0
    rw [if_pos h0]
    exact partsL_at h
  · simp at h
theorem partsS_len (s : State) : (partsS s).length ≤ 65 ∧ ∀ x ∈ partsS s, x.data.length ≤ 4294967296 := by
  unfold partsS
  split
  · rename_i h0
    obtain ⟨hm, hlen, hbl⟩ := bytes0_of h0
    rw [partsL_len]
    refine ⟨by unfold manyL; omega, fun x hx => ?_⟩
    obtain ⟨i, hi, rfl⟩ := List.mem_map.1 hx
    simp only [pieceL, List.length_drop, List.length_take]
    omega
  · simp
/-- a loop over a function, as it stands in the heap -/
abbrev bldD (fr : Fr) (k : Nat) : DLoop := ⟨94, fr, #[59], fa26_0, fb26_0, k, .ready, none⟩
/-- what state.Build changes while it goes through the parts -/
def bldIds (a b c : Nat) (j : Nat) : Prop := j = a ∨ j = b ∨ j = c
/-- so far all parts are the same -/
def bldSo (ps l : List Part) (i : Nat) : Prop := ∀ j x, j < i → ps[j]? = some x → ∃ y, l[j]? = some y ∧ x.slot = y.slot ∧ x.data = y.data
structure BldI (hB : DHeap) (fr : Fr) (a b c : Nat) (ps l : List Part) (i : Nat) (K : DHeap) : Prop where
  r : Rng hB (bldD fr hB.next) (bldIds a b c) K
  ga : K.get a = some (.row zeroState 0 false)
  gb : K.get b = some (.row [.int .i64 0] 0 false)
  gc : K.get c = some (.row [.int .i64 (i : Nat)] 0 false)
  so : bldSo ps l i
structure BldS (hB : DHeap) (fr : Fr) (a b c : Nat) (ps l : List Part) (K : DHeap) : Prop where
  r : Rng hB { bldD fr hB.next with state := .done, pending := some .ret } (bldIds a b c) K
  ga : K.get a = some (.row zeroState 0 false)
  gb : K.get b = some (.row [.int .i64 221] 0 false)
  ne : ps ≠ l
theorem BldI.ext {hB : DHeap} {fr : Fr} {a b c : Nat} {ps l : List Part} {i : Nat} {K K' : DHeap} (s : BldI hB fr a b c ps l i K) (ha : a < hB.next) (hb : b < hB.next) (hc : c < hB.next) (e : Ext K K') : BldI hB fr a b c ps l i K' :=
  have hn := s.r.nx
  ⟨s.r.ext e, (e.get _ (by omega)).trans s.ga, (e.get _ (by omega)).trans s.gb, (e.get _ (by omega)).trans s.gc, s.so⟩
theorem build_round {hB K : DHeap} {fr : Fr} {a b c b1 : Nat} {v w : Value} {ps l : List Part} {i : Nat} {x : Part} (hl : l.length ≤ 1048576) (hi : i ≤ 65) (hdl : x.data.length ≤ 4294967296)
    (f1 : fr 1 = some (.pointer (some ⟨b1, 0, none⟩))) (f2 : fr 2 = some (.pointer (some ⟨a, 0, none⟩))) (f3 : fr 3 = some (.pointer (some ⟨b, 0, none⟩))) (f9 : fr 9 = some (.pointer (some ⟨c, 0, none⟩)))
    (hab : b1 < hB.next ∧ a < hB.next ∧ b < hB.next ∧ c < hB.next ∧ b1 ≠ a ∧ b1 ≠ b ∧ b1 ≠ c ∧ a ≠ b ∧ a ≠ c ∧ b ≠ c) (hb1 : hB.get b1 = some (.row [v] 0 false)) (hv : Sl rPart (fun j => j < hB.next ∧ j ≠ a ∧ j ≠ b ∧ j ≠ c) hB v l)
    (s : BldI hB fr a b c ps l i K) (hx : ps[i]? = some x) (hw : Sl fU8.rep (fun j => hB.next + 2 ≤ j ∧ j < K.next) K w x.data) :
    Rt Try.prog (hB.next + 1) 94 (putParams fr [59] [partV x w]) fa26_0 fb26_0 K fun r H => r = .ret (.bool true) ∧ BldI hB fr a b c ps l (i + 1) H ∨ r = .ret (.bool false) ∧ BldS hB fr a b c ps l H := by
  obtain ⟨u0, u1, u2, u3, u4, u5, u6, u7, u8, u9⟩ := hab
  have hcw : w.cells = #[w] := hw.cells1
  have hsw := hw.isSlice
  have hst : [Value.int .i64 x.slot, .int .i64 x.index, .int .i64 x.many, w].all Value.oneCell' = true := by obtain ⟨_, _, rfl⟩ := hsw; rfl
  refine Rt_walk ta26_0 tb26_0 (by kernel_rfl) (by kernel_rfl) ?_
  obtain ⟨K1, hK1⟩ : ∃ K1, K1 = K.push (.row [.int .i64 x.slot, .int .i64 x.index, .int .i64 x.many, w] 0 false) := ⟨_, rfl⟩
  have hE1 : Ext K K1 := by rw [hK1]; exact Ext.push1 _ _
  have s1 := s.ext u1 u2 u3 hE1
  simp -implicitDefEqProofs (disch := first | omega | (simp -implicitDefEqProofs only [go_sem, List.size_toArray, List.length_cons, List.length_nil, Nat.reduceAdd]; done)) only [go_sem, Int.reduceLT, Int.reduceLE, Int.reduceEq, reduceIte, true_and, Nat.zero_add, Nat.add_zero, Option.map_some, sa26_0, putParams, store4_push hst, hcw, ← hK1]
  refine ⟨_, s1.r.lp, rfl, ?_⟩
  have hnx := s.r.nx
  have hK1n : K1.next = K.next + 1 := by rw [hK1]; rfl
  have gp1 : K1.get K.next = some (.row [.int .i64 x.slot, .int .i64 x.index, .int .i64 x.many, w] 0 false) := by rw [hK1]; exact get_push_same _ _
  obtain ⟨D2, hD2⟩ : ∃ D2 : DLoop, D2 = { bldD fr hB.next with state := .busy, pending := (bldD fr hB.next).pending } := ⟨_, rfl⟩
  rw [← hD2]
  obtain ⟨K2, hK2⟩ : ∃ K2, K2 = K1.set (hB.next + 1) (.loop D2) := ⟨_, rfl⟩
  rw [← hK2]
  have r2 : Rng hB D2 (bldIds a b c) K2 := by rw [hK2]; exact s1.r.loop _
  have oth : ∀ j, j ≠ hB.next + 1 → K2.get j = K1.get j := fun j hj => by rw [hK2]; exact get_set_other _ _ hj
  have hK2n : K2.next = K.next + 1 := by rw [hK2]; exact hK1n
  have ga : K2.get a = some (.row zeroState 0 false) := (oth _ (by omega)).trans s1.ga
  have gb : K2.get b = some (.row [.int .i64 0] 0 false) := (oth _ (by omega)).trans s1.gb
  have gc : K2.get c = some (.row [.int .i64 (i : Nat)] 0 false) := (oth _ (by omega)).trans s1.gc
  have gp : K2.get K.next = some (.row [.int .i64 x.slot, .int .i64 x.index, .int .i64 x.many, w] 0 false) := (oth _ (by omega)).trans gp1
  have g1 : K2.get b1 = some (.row [v] 0 false) := (r2.old _ u0 (by unfold bldIds; omega)).trans hb1
  have hv2 : Arg rPart K2 v l := hv.mono fun j hj => ⟨by omega, r2.old j hj.1 (by unfold bldIds; omega)⟩
  have hw2 : Arg fU8.rep K2 w x.data := hw.mono fun j hj => ⟨by omega, (oth _ (by omega)).trans (hE1.get _ hj.2)⟩
  simp -implicitDefEqProofs (disch := first | omega | (simp -implicitDefEqProofs only [go_sem, List.size_toArray, List.length_cons, List.length_nil, Nat.reduceAdd]; done)) only [go_sem, Int.reduceLT, Int.reduceLE, Int.reduceEq, reduceIte, true_and, Nat.zero_add, Nat.add_zero, Option.map_some, sb26_0]
  refine NC.mono (build_same (n := i) (p := K.next) (id9 := c) (b1 := b1) (x := x) hv2 hl hdl (by simp -implicitDefEqProofs (disch := first | omega | (simp -implicitDefEqProofs only [go_sem, List.size_toArray, List.length_cons, List.length_nil, Nat.reduceAdd]; done)) only [go_sem, Int.reduceLT, Int.reduceLE, Int.reduceEq, reduceIte, true_and, Nat.zero_add, Nat.add_zero, Option.map_some, f1]) (by simp -implicitDefEqProofs (disch := first | omega | (simp -implicitDefEqProofs only [go_sem, List.size_toArray, List.length_cons, List.length_nil, Nat.reduceAdd]; done)) only [go_sem, Int.reduceLT, Int.reduceLE, Int.reduceEq, reduceIte, true_and, Nat.zero_add, Nat.add_zero, Option.map_some, f9]) (by simp -implicitDefEqProofs (disch := first | omega | (simp -implicitDefEqProofs only [go_sem, List.size_toArray, List.length_cons, List.length_nil, Nat.reduceAdd]; done)) only [go_sem, Int.reduceLT, Int.reduceLE, Int.reduceEq, reduceIte, true_and, Nat.zero_add, Nat.add_zero, Option.map_some]) (cellAt_row g1) (cellAt_row gc) (cellAt_row gp) (cellAt_row gp) hw2) ?_
  rintro e ⟨fr1, df1, hh1, rd1⟩ hM
  cases e <;> try exact hM.elim
  obtain ⟨rfl, rfl, rfl, ⟨r2', r3', r9'⟩, bb, r84, hb⟩ := hM
  simp only at r2' r3' r9' r84
  have q2 := r2'.trans (show _ = some (.pointer (some ⟨a, 0, none⟩)) by simp -implicitDefEqProofs (disch := first | omega | (simp -implicitDefEqProofs only [go_sem, List.size_toArray, List.length_cons, List.length_nil, Nat.reduceAdd]; done)) only [go_sem, Int.reduceLT, Int.reduceLE, Int.reduceEq, reduceIte, true_and, Nat.zero_add, Nat.add_zero, Option.map_some, f2])
  have q3 := r3'.trans (show _ = some (.pointer (some ⟨b, 0, none⟩)) by simp -implicitDefEqProofs (disch := first | omega | (simp -implicitDefEqProofs only [go_sem, List.size_toArray, List.length_cons, List.length_nil, Nat.reduceAdd]; done)) only [go_sem, Int.reduceLT, Int.reduceLE, Int.reduceEq, reduceIte, true_and, Nat.zero_add, Nat.add_zero, Option.map_some, f3])
  have q9 := r9'.trans (show _ = some (.pointer (some ⟨c, 0, none⟩)) by simp -implicitDefEqProofs (disch := first | omega | (simp -implicitDefEqProofs only [go_sem, List.size_toArray, List.length_cons, List.length_nil, Nat.reduceAdd]; done)) only [go_sem, Int.reduceLT, Int.reduceLE, Int.reduceEq, reduceIte, true_and, Nat.zero_add, Nat.add_zero, Option.map_some, f9])
  cases bb with
  | true =>
    have w1 := storeAt_row (o := 0) (vs := [.int .i64 0, .slice none 0 0, .slice none 0 0]) ga (Nat.le_of_ble_eq_true rfl) rfl
    have ra := r2.set (o := .row zeroState 0 false) (show bldIds a b c a from .inl rfl) u1
    have w2 := storeAt_row (o := 0) (vs := [.int .i64 221]) ((get_set_other _ _ (by omega)).trans gb : (hh1.set a (.row zeroState 0 false)).get b = _) (Nat.le_of_ble_eq_true rfl) rfl
    have rb := ra.set (o := .row [.int .i64 221] 0 false) (show bldIds a b c b from .inr (.inl rfl)) u2
    have e1 : hh1.set a (.row (setAt zeroState 0 [.int .i64 0, .slice none 0 0, .slice none 0 0]) 0 false) = hh1.set a (.row zeroState 0 false) := rfl
    rw [e1] at w1
    simp -implicitDefEqProofs (disch := first | omega | (simp -implicitDefEqProofs only [go_sem, List.size_toArray, List.length_cons, List.length_nil, Nat.reduceAdd]; done)) only [go_sem, Int.reduceLT, Int.reduceLE, Int.reduceEq, reduceIte, true_and, Nat.zero_add, Nat.add_zero, Option.map_some, r84, q2, q3, bd_state0, w1, w2]
    refine ⟨D2, rb.lp, .inr ⟨rfl, ?_⟩⟩
    subst hD2
    refine ⟨rb.loop _, (get_set_other _ _ (by omega)).trans ((get_set_other _ _ (by omega)).trans (get_set_same _ _)), (get_set_other _ _ (by omega)).trans (get_set_same _ _), fun hh => ?_⟩
    subst hh
    cases hb.2 ⟨x, hx, rfl, rfl⟩
  | false =>
    have hwi : IntKind.i64.wrap ((i : Int) + 1) = ((i + 1 : Nat) : Int) := by rw [wrap_i64_in (by omega) (by omega)]; omega
    have gc0 : cellAt hh1 c 0 = some (.int .i64 (i : Nat)) := cellAt_row gc
    have w1 := storeAt_row (o := 0) (vs := [.int .i64 ((i + 1 : Nat) : Int)]) gc (Nat.le_of_ble_eq_true rfl) rfl
    have rc := r2.set (o := .row [.int .i64 ((i + 1 : Nat) : Int)] 0 false) (show bldIds a b c c from .inr (.inr rfl)) u3
    simp -implicitDefEqProofs (disch := first | omega | (simp -implicitDefEqProofs only [go_sem, List.size_toArray, List.length_cons, List.length_nil, Nat.reduceAdd]; done)) only [go_sem, Int.reduceLT, Int.reduceLE, Int.reduceEq, reduceIte, true_and, Nat.zero_add, Nat.add_zero, Option.map_some, r84, q9, gc0, hwi, w1]
    refine ⟨D2, rc.lp, .inl ⟨rfl, ?_⟩⟩
    subst hD2
    refine ⟨rc.loop _, (get_set_other _ _ (by omega)).trans ((get_set_other _ _ (by omega)).trans ga), (get_set_other _ _ (by omega)).trans ((get_set_other _ _ (by omega)).trans gb), (get_set_other _ _ (by omega)).trans (get_set_same _ _), fun j y hj hy => ?_⟩
    by_cases hji : j = i
    · subst hji
      rw [hx] at hy
      cases hy
      exact hb.1 rfl
    · exact s.so j y (by omega) hy
theorem build_loop {hB : DHeap} {fr : Fr} {a b c b1 cc : Nat} {v vp : Value} {ps l : List Part} {Q : DExit → St → Prop} (hl : l.length ≤ 1048576) (hlen : ps.length ≤ 65) (hdl : ∀ x ∈ ps, x.data.length ≤ 4294967296)
    (f1 : fr 1 = some (.pointer (some ⟨b1, 0, none⟩))) (f2 : fr 2 = some (.pointer (some ⟨a, 0, none⟩))) (f3 : fr 3 = some (.pointer (some ⟨b, 0, none⟩))) (f9 : fr 9 = some (.pointer (some ⟨c, 0, none⟩))) (f58 : fr 58 = some (.func (.func 57) #[] #[.pointer (some ⟨cc, 0, none⟩)]))
    (hab : b1 < hB.next ∧ a < hB.next ∧ b < hB.next ∧ c < hB.next ∧ b1 ≠ a ∧ b1 ≠ b ∧ b1 ≠ c ∧ a ≠ b ∧ a ≠ c ∧ b ≠ c) (hb1 : hB.get b1 = some (.row [v] 0 false)) (hv : Sl rPart (fun j => j < hB.next ∧ j ≠ a ∧ j ≠ b ∧ j ≠ c) hB v l)
    (ga : hB.get a = some (.row zeroState 0 false)) (gb : hB.get b = some (.row [.int .i64 0] 0 false)) (gc : hB.get c = some (.row [.int .i64 0] 0 false))
    (hcc : cc < hB.next ∧ cc ≠ a ∧ cc ≠ b ∧ cc ≠ c) (gcc : hB.get cc = some (.row [vp] 0 false)) (hvp : Sl rPart (fun j => j < hB.next ∧ j ≠ a ∧ j ≠ b ∧ j ≠ c) hB vp ps)
    (hA : ∀ H, BldI hB fr a b c ps l ps.length H → Q .normal ⟨fr, [.mark hB.next], H.set (hB.next + 1) (.loop { bldD fr hB.next with state := .exhausted }), none⟩)
    (hS : ∀ H, BldS hB fr a b c ps l H → Q .ret ⟨fr, [.mark hB.next], H.set (hB.next + 1) (.loop { bldD fr hB.next with state := .exhausted, pending := some .ret }), none⟩) :
    NC Try.prog 94 (.rangeFunc (T 58) #[59] fa26_0 fb26_0) Q ⟨fr, [], hB, none⟩ := by
  refine NC.range_yields (fv := .func (.func 57) #[] #[.pointer (some ⟨cc, 0, none⟩)]) (A := BldI hB fr a b c ps l ps.length) (B := BldS hB fr a b c ps l) rfl (by simp -implicitDefEqProofs (disch := first | omega | (simp -implicitDefEqProofs only [go_sem, List.size_toArray, List.length_cons, List.length_nil, Nat.reduceAdd]; done)) only [go_sem, Int.reduceLT, Int.reduceLE, Int.reduceEq, reduceIte, true_and, Nat.zero_add, Nat.add_zero, Option.map_some, f58]) (fun K => dTarget_func (by kernel_rfl) _ _ _ K) ?_ (fun H s => ⟨s.r.lp, hA H s⟩) (fun H s => ⟨s.r.lp, hS H s⟩)
  obtain ⟨u0, u1, u2, u3, u4, u5, u6, u7, u8, u9⟩ := hab
  refine yields_c (D := bldD fr hB.next) (p := 59) (vp := vp) (ps := ps) (BldI hB fr a b c ps l) (BldS hB fr a b c ps l) rfl (Nat.le_of_ble_eq_true rfl) hlen hdl ?_ (fun i K s => ⟨s.r.lp, ?_, ?_⟩) (fun i K K' s e => s.ext u1 u2 u3 e) (fun i K K' x w s e hx hw _ _ _ => ?_)
  · have e : Ext hB ((hB.push (.marks true)).push (.loop (bldD fr hB.next))) := (Ext.push1 _ _).push _
    exact ⟨Rng.start _ _ _, (e.get _ u1).trans ga, (e.get _ u2).trans gb, (e.get _ u3).trans gc, fun j _ hj => absurd hj (Nat.not_lt_zero j)⟩
  · exact (s.r.old _ hcc.1 (by unfold bldIds; omega)).trans gcc
  · exact hvp.mono fun j hj => ⟨by have := s.r.nx; omega, s.r.old _ hj.1 (by unfold bldIds; omega)⟩
  · have hxl := (List.getElem?_eq_some_iff.1 hx).1
    exact build_round hl (by omega) (hdl x (List.mem_of_getElem? hx)) f1 f2 f3 f9 ⟨u0, u1, u2, u3, u4, u5, u6, u7, u8, u9⟩ hb1 hv (s.ext u1 u2 u3 e) hx (hw.mono fun j hj => ⟨⟨Nat.le_trans s.r.nx hj.1, hj.2⟩, rfl⟩)
end Go.Proofs.Ytlhgijpdhniddaa

namespace Go.Proofs.Ytlhgijpdhniddaa
open Go.D
set_option maxRecDepth 100000

theorem res_cc {fr : Fr} {K : DHeap} {a b id id2 : Nat} {n e : Int} {vc vr : Value} (f2 : fr a = some (.pointer (some ⟨id, 0, none⟩))) (f3 : fr b = some (.pointer (some ⟨id2, 0, none⟩))) (hk : K.get id = some (.row [.int .i64 n, vc, vr] 0 false)) (hk2 : K.get id2 = some (.row [.int .i64 e] 0 false)) :
    dResults Try.prog [.cell a 26, .cell b 27] fr K = some (.tuple #[stateV n vc vr, .int .i64 e]) := by
  rw [dResults_d2, dRes1_cell, dRes1_cell, f2, f3, dResC_some, dResC_some]
  have e1 : dLoad Try.prog 26 (.pointer (some ⟨id, 0, none⟩)) K = some (stateV n vc vr) := ld_26.trans (by rw [cellsAt_row hk (Nat.le_of_ble_eq_true rfl)]; rfl)
  have e2 : dLoad Try.prog 27 (.pointer (some ⟨id2, 0, none⟩)) K = some (.int .i64 e) := ld_27.trans (cellAt_row hk2)
  rw [e1, e2, tup2_some]
theorem part_ext {x y : Part} (a : x.slot = y.slot) (b : x.index = y.index) (c : x.many = y.many) (d : x.data = y.data) : x = y := by
  cases x
  cases y
  simp_all
set_option maxHeartbeats 1000000 in
theorem build_c {h : DHeap} {v : Value} {l : List Part} (hv : Arg rPart h v l) (hl : l.length ≤ 1048576) (hd : (dataOf l).length ≤ 1048576) :
    Ct Try.prog 26 [v] h fun r h1 => ∃ vc vr, r = .ret (.tuple #[stateV (buildR l).slot vc vr, .int .i64 (buildE l)]) ∧ Ext h h1 ∧ Arg fCell.rep h1 vc (buildR l).cells ∧ Arg rRow h1 vr (buildR l).rows := by
  refine go_26 (by simp) ?_
  have hvc := hv.cells1
  simp only [Value.cells] at hvc
  obtain ⟨H0, hH0⟩ : ∃ H, H = ((h.push (.row [v] 0 false)).push (.row zeroState 0 false)).push (.row [.int .i64 0] 0 false) := ⟨_, rfl⟩
  have hE0 : Ext h H0 := by rw [hH0]; exact ((Ext.push1 _ _).push _).push _
  have hA0 : H0.get h.next = some (.row [v] 0 false) := by rw [hH0]; exact get_p2
  have hB0 : H0.get (h.next + 1) = some (.row zeroState 0 false) := by rw [hH0]; exact get_p1
  have hC0 : H0.get (h.next + 2) = some (.row [.int .i64 0] 0 false) := by rw [hH0]; exact get_push_same _ _
  have hH0n : H0.next = h.next + 3 := by rw [hH0]; rfl
  have el : ∀ K, dLen Try.prog #[44] v K = some (.int .i64 (l.length : Nat)) := hv.lens (P := Try.prog) (ts := #[44]) (t := 44) rfl isl_44
  have hz : ∀ K, K.get (h.next + 1) = some (.row zeroState 0 false) → storeAt K (h.next + 1) 0 [.int .i64 0, .slice none 0 0, .slice none 0 0] = some (K.set (h.next + 1) (.row zeroState 0 false)) := fun K hk =>
    storeAt_row hk (Nat.le_of_ble_eq_true rfl) rfl
  have hz2 : ∀ (K : DHeap) o (e : Int), K.get (h.next + 2) = some (.row [.int .i64 0] 0 false) → storeAt (K.set (h.next + 1) o) (h.next + 2) 0 [.int .i64 e] = some ((K.set (h.next + 1) o).set (h.next + 2) (.row [.int .i64 e] 0 false)) := fun K o e hk =>
    storeAt_row ((get_set_other _ _ (by omega)).trans hk) (Nat.le_of_ble_eq_true rfl) rfl
  have hend : ∀ (K : DHeap) e, Ext H0 K → buildE l = e → e ≠ 0 → ∃ vc vr, (DEnd.ret (.tuple #[stateV 0 (.slice none 0 0) (.slice none 0 0), .int .i64 e])) = .ret (.tuple #[stateV (buildR l).slot vc vr, .int .i64 (buildE l)]) ∧ Ext h ((K.set (h.next + 1) (.row zeroState 0 false)).set (h.next + 2) (.row [.int .i64 e] 0 false)) ∧
      Arg fCell.rep ((K.set (h.next + 1) (.row zeroState 0 false)).set (h.next + 2) (.row [.int .i64 e] 0 false)) vc (buildR l).cells ∧ Arg rRow ((K.set (h.next + 1) (.row zeroState 0 false)).set (h.next + 2) (.row [.int .i64 e] 0 false)) vr (buildR l).rows :=
    fun K e hK he h0 => build_end0 he h0 (((hE0.trans hK).set (by omega)).set (by omega))
  have L1 : ∀ K, Ext H0 K → cellAt K h.next 0 = some v := fun K e => cellAt_row ((e.get _ (by omega)).trans hA0)
  have c1 := L1 H0 (.refl _)
  by_cases hn : l = []
  · have hn1 : (((l.length : Nat) : Int) = 0) = True := eq_true (by rw [hn]; rfl)
    simp -implicitDefEqProofs (disch := first | omega | (simp -implicitDefEqProofs only [go_sem, List.size_toArray, List.length_cons, List.length_nil, Nat.reduceAdd]; done)) only [go_sem, Int.reduceLT, Int.reduceLE, Int.reduceEq, reduceIte, true_and, Nat.zero_add, Nat.add_zero, Option.map_some, c26, hvc, next_push, ← hH0, c1, el, hn1, bd_state0, hz _ hB0, hz2 _ _ _ hC0]
    refine ret_at (res_cc ?_ ?_ ((get_set_other _ _ (by omega)).trans (get_set_same _ _)) (get_set_same _ _)) (hend H0 221 (.refl _) (by rw [hn]; exact build_nil) (by decide))
    · simp -implicitDefEqProofs (disch := first | omega | (simp -implicitDefEqProofs only [go_sem, List.size_toArray, List.length_cons, List.length_nil, Nat.reduceAdd]; done)) only [go_sem, Int.reduceLT, Int.reduceLE, Int.reduceEq, reduceIte, true_and, Nat.zero_add, Nat.add_zero, Option.map_some]
    · simp -implicitDefEqProofs (disch := first | omega | (simp -implicitDefEqProofs only [go_sem, List.size_toArray, List.length_cons, List.length_nil, Nat.reduceAdd]; done)) only [go_sem, Int.reduceLT, Int.reduceLE, Int.reduceEq, reduceIte, true_and, Nat.zero_add, Nat.add_zero, Option.map_some]
  have hn0 : ((l.length : Nat) : Int) ≠ 0 := by
    cases l with
    | nil => exact absurd rfl hn
    | cons x l => simp; omega
  simp -implicitDefEqProofs (disch := first | omega | (simp -implicitDefEqProofs only [go_sem, List.size_toArray, List.length_cons, List.length_nil, Nat.reduceAdd]; done)) only [go_sem, Int.reduceLT, Int.reduceLE, Int.reduceEq, reduceIte, true_and, Nat.zero_add, Nat.add_zero, Option.map_some, c26, hvc, next_push, ← hH0, c1, el, hn0]
  refine XLoop_cut (fun s => s.df = [] ∧ s.rd = none ∧ s.fr 1 = some (.pointer (some ⟨h.next, 0, none⟩)) ∧ s.fr 2 = some (.pointer (some ⟨h.next + 1, 0, none⟩)) ∧ s.fr 3 = some (.pointer (some ⟨h.next + 2, 0, none⟩)) ∧ goodL l l.length ∧ ∃ vb, s.fr 4 = some vb ∧ Made fU8 H0 s.h vb (dataOf l)) ?_ ?_
  · refine xloop (σ := Nat) (by kernel_rfl) (fun i s => s.df = [] ∧ s.rd = none ∧ s.fr 1 = some (.pointer (some ⟨h.next, 0, none⟩)) ∧ s.fr 2 = some (.pointer (some ⟨h.next + 1, 0, none⟩)) ∧ s.fr 3 = some (.pointer (some ⟨h.next + 2, 0, none⟩)) ∧ s.fr 15 = some v ∧ s.fr 16 = some (.int .i64 (l.length : Nat)) ∧ s.fr 17 = some (.int .i64 (i : Nat)) ∧ i ≤ l.length ∧ goodL l i ∧ ∃ vb, s.fr 4 = some vb ∧ Made fU8 H0 s.h vb (dataOf (l.take i))) (fun i => l.length - i) 0 ?_ ?_
    · simp -implicitDefEqProofs (disch := first | omega | (simp -implicitDefEqProofs only [go_sem, List.size_toArray, List.length_cons, List.length_nil, Nat.reduceAdd]; done)) only [go_sem, Int.reduceLT, Int.reduceLE, Int.reduceEq, reduceIte, true_and, Nat.zero_add, Nat.add_zero, Option.map_some]
      exact ⟨rfl, Nat.zero_le _, goodL_0, _, rfl, .nil _ (.refl _)⟩
    · rintro i ⟨fr, df, hh, rd⟩ K' hK' hX ⟨rfl, hrd, f1, f2, f3, f15, f16, f17, hi, hg, vb, f4, hm⟩
      simp only at hrd f1 f2 f3 f15 f16 f17 f4 hm
      subst hrd
      have hE := hm.ext
      by_cases hc1 : ((i : Nat) : Int) < (l.length : Nat)
      case neg =>
        have hi2 : i = l.length := by omega
        simp -implicitDefEqProofs (disch := first | omega | (simp -implicitDefEqProofs only [go_sem, List.size_toArray, List.length_cons, List.length_nil, Nat.reduceAdd]; done)) only [go_sem, Int.reduceLT, Int.reduceLE, Int.reduceEq, reduceIte, true_and, Nat.zero_add, Nat.add_zero, Option.map_some, f16, f17, hc1]
        refine hX _ _ (by simp) ?_
        rw [hi2, List.take_length] at hm
        exact ⟨rfl, rfl, by simp -implicitDefEqProofs (disch := first | omega | (simp -implicitDefEqProofs only [go_sem, List.size_toArray, List.length_cons, List.length_nil, Nat.reduceAdd]; done)) only [go_sem, Int.reduceLT, Int.reduceLE, Int.reduceEq, reduceIte, true_and, Nat.zero_add, Nat.add_zero, Option.map_some, f1], by simp -implicitDefEqProofs (disch := first | omega | (simp -implicitDefEqProofs only [go_sem, List.size_toArray, List.length_cons, List.length_nil, Nat.reduceAdd]; done)) only [go_sem, Int.reduceLT, Int.reduceLE, Int.reduceEq, reduceIte, true_and, Nat.zero_add, Nat.add_zero, Option.map_some, f2], by simp -implicitDefEqProofs (disch := first | omega | (simp -implicitDefEqProofs only [go_sem, List.size_toArray, List.length_cons, List.length_nil, Nat.reduceAdd]; done)) only [go_sem, Int.reduceLT, Int.reduceLE, Int.reduceEq, reduceIte, true_and, Nat.zero_add, Nat.add_zero, Option.map_some, f3], by rw [hi2] at hg; exact hg, vb, by simp -implicitDefEqProofs (disch := first | omega | (simp -implicitDefEqProofs only [go_sem, List.size_toArray, List.length_cons, List.length_nil, Nat.reduceAdd]; done)) only [go_sem, Int.reduceLT, Int.reduceLE, Int.reduceEq, reduceIte, true_and, Nat.zero_add, Nat.add_zero, Option.map_some, f4], hm⟩
      have hj : i < l.length := by omega
      have hEE := hE0.trans hE
      have hx : l[i]? = some l[i] := get_of_lt hj
      obtain ⟨id, o, w, g1, _, _, _, _, _, c4, hs, k1, k2, k3⟩ := part_cells (hv.ext hEE) hx
      have hsl := hs.isSlice
      have hst : [Value.int .i64 l[i].slot, .int .i64 l[i].index, .int .i64 l[i].many, w].all Value.oneCell' = true := by obtain ⟨_, _, rfl⟩ := hsl; rfl
      have hwc := hs.cells1
      obtain ⟨K1, hK1⟩ : ∃ K1, K1 = hh.push (.row [.int .i64 l[i].slot, .int .i64 l[i].index, .int .i64 l[i].many, w] 0 false) := ⟨_, rfl⟩
      have hE1 : Ext hh K1 := by rw [hK1]; exact Ext.push1 _ _
      have hmK := hm.on hE1
      have hEK := hmK.ext
      have gp : K1.get hh.next = some (.row [.int .i64 l[i].slot, .int .i64 l[i].index, .int .i64 l[i].many, w] 0 false) := by rw [hK1]; exact get_push_same _ _
      have hwi : IntKind.i64.wrap ((i : Int) + 1) = ((i + 1 : Nat) : Int) := by rw [wrap_i64_in (by omega) (by omega)]; omega
      simp -implicitDefEqProofs (disch := first | omega | (simp -implicitDefEqProofs only [go_sem, List.size_toArray, List.length_cons, List.length_nil, Nat.reduceAdd]; done)) only [go_sem, Int.reduceLT, Int.reduceLE, Int.reduceEq, reduceIte, true_and, Nat.zero_add, Nat.add_zero, Option.map_some, f15, f16, f17, hc1, g1, c4, store4_push hst, hwc, ← hK1]
      refine NC.mono (build_head (i := i) (l := l) (v := v) (b1 := h.next) (p := hh.next) (hv.ext (hE0.trans hEK)) hl hx (by simp -implicitDefEqProofs (disch := first | omega | (simp -implicitDefEqProofs only [go_sem, List.size_toArray, List.length_cons, List.length_nil, Nat.reduceAdd]; done)) only [go_sem, Int.reduceLT, Int.reduceLE, Int.reduceEq, reduceIte, true_and, Nat.zero_add, Nat.add_zero, Option.map_some, f1]) (by simp -implicitDefEqProofs (disch := first | omega | (simp -implicitDefEqProofs only [go_sem, List.size_toArray, List.length_cons, List.length_nil, Nat.reduceAdd]; done)) only [go_sem, Int.reduceLT, Int.reduceLE, Int.reduceEq, reduceIte, true_and, Nat.zero_add, Nat.add_zero, Option.map_some]) (by simp -implicitDefEqProofs (disch := first | omega | (simp -implicitDefEqProofs only [go_sem, List.size_toArray, List.length_cons, List.length_nil, Nat.reduceAdd]; done)) only [go_sem, Int.reduceLT, Int.reduceLE, Int.reduceEq, reduceIte, true_and, Nat.zero_add, Nat.add_zero, Option.map_some]) (L1 _ hEK) (cellAt_row gp) (cellAt_row gp) (cellAt_row gp)) ?_
      rintro e ⟨fr1, df1, hh1, rd1⟩ hM
      cases e <;> try exact hM.elim
      obtain ⟨rfl, rfl, rfl, ⟨r1, r2, r3, r4, r6, r15, r16, r17⟩, b, r41, hb⟩ := hM
      simp only at r1 r2 r3 r4 r6 r15 r16 r17 r41
      have s1 := r1.trans (show _ = some (.pointer (some ⟨h.next, 0, none⟩)) by simp -implicitDefEqProofs (disch := first | omega | (simp -implicitDefEqProofs only [go_sem, List.size_toArray, List.length_cons, List.length_nil, Nat.reduceAdd]; done)) only [go_sem, Int.reduceLT, Int.reduceLE, Int.reduceEq, reduceIte, true_and, Nat.zero_add, Nat.add_zero, Option.map_some, f1])
      have s2 := r2.trans (show _ = some (.pointer (some ⟨h.next + 1, 0, none⟩)) by simp -implicitDefEqProofs (disch := first | omega | (simp -implicitDefEqProofs only [go_sem, List.size_toArray, List.length_cons, List.length_nil, Nat.reduceAdd]; done)) only [go_sem, Int.reduceLT, Int.reduceLE, Int.reduceEq, reduceIte, true_and, Nat.zero_add, Nat.add_zero, Option.map_some, f2])
      have s3 := r3.trans (show _ = some (.pointer (some ⟨h.next + 2, 0, none⟩)) by simp -implicitDefEqProofs (disch := first | omega | (simp -implicitDefEqProofs only [go_sem, List.size_toArray, List.length_cons, List.length_nil, Nat.reduceAdd]; done)) only [go_sem, Int.reduceLT, Int.reduceLE, Int.reduceEq, reduceIte, true_and, Nat.zero_add, Nat.add_zero, Option.map_some, f3])
      have s4 := r4.trans (show _ = some vb by simp -implicitDefEqProofs (disch := first | omega | (simp -implicitDefEqProofs only [go_sem, List.size_toArray, List.length_cons, List.length_nil, Nat.reduceAdd]; done)) only [go_sem, Int.reduceLT, Int.reduceLE, Int.reduceEq, reduceIte, true_and, Nat.zero_add, Nat.add_zero, Option.map_some, f4])
      have s6 := r6.trans (show _ = some (.pointer (some ⟨hh.next, 0, none⟩)) by simp -implicitDefEqProofs (disch := first | omega | (simp -implicitDefEqProofs only [go_sem, List.size_toArray, List.length_cons, List.length_nil, Nat.reduceAdd]; done)) only [go_sem, Int.reduceLT, Int.reduceLE, Int.reduceEq, reduceIte, true_and, Nat.zero_add, Nat.add_zero, Option.map_some])
      have s15 := r15.trans (show _ = some v by simp -implicitDefEqProofs (disch := first | omega | (simp -implicitDefEqProofs only [go_sem, List.size_toArray, List.length_cons, List.length_nil, Nat.reduceAdd]; done)) only [go_sem, Int.reduceLT, Int.reduceLE, Int.reduceEq, reduceIte, true_and, Nat.zero_add, Nat.add_zero, Option.map_some, f15])
      have s16 := r16.trans (show _ = some (.int .i64 (l.length : Nat)) by simp -implicitDefEqProofs (disch := first | omega | (simp -implicitDefEqProofs only [go_sem, List.size_toArray, List.length_cons, List.length_nil, Nat.reduceAdd]; done)) only [go_sem, Int.reduceLT, Int.reduceLE, Int.reduceEq, reduceIte, true_and, Nat.zero_add, Nat.add_zero, Option.map_some, f16])
      have s17 := r17.trans (show _ = some (.int .i64 (i : Nat)) by simp -implicitDefEqProofs (disch := first | omega | (simp -implicitDefEqProofs only [go_sem, List.size_toArray, List.length_cons, List.length_nil, Nat.reduceAdd]; done)) only [go_sem, Int.reduceLT, Int.reduceLE, Int.reduceEq, reduceIte, true_and, Nat.zero_add, Nat.add_zero, Option.map_some, f17])
      have hBK : hh1.get (h.next + 1) = some (.row zeroState 0 false) := (hEK.get _ (by omega)).trans hB0
      have hCK : hh1.get (h.next + 2) = some (.row [.int .i64 0] 0 false) := (hEK.get _ (by omega)).trans hC0
      cases b with
      | true =>
        have hbad : ¬ goodP l i l[i] := fun hh => by cases hb.2 hh
        simp -implicitDefEqProofs (disch := first | omega | (simp -implicitDefEqProofs only [go_sem, List.size_toArray, List.length_cons, List.length_nil, Nat.reduceAdd]; done)) only [go_sem, Int.reduceLT, Int.reduceLE, Int.reduceEq, reduceIte, true_and, Nat.zero_add, Nat.add_zero, Option.map_some, r41, s2, s3, bd_state0, hz _ hBK, hz2 _ _ _ hCK]
        refine hX _ _ (by simp) ?_
        simp -implicitDefEqProofs (disch := first | omega | (simp -implicitDefEqProofs only [go_sem, List.size_toArray, List.length_cons, List.length_nil, Nat.reduceAdd]; done)) only [go_sem, Int.reduceLT, Int.reduceLE, Int.reduceEq, reduceIte, true_and, Nat.zero_add, Nat.add_zero, Option.map_some]
        refine ret_at (res_cc ?_ ?_ ((get_set_other _ _ (by omega)).trans (get_set_same _ _)) (get_set_same _ _)) (hend _ 221 hEK (build_bad hx hbad) (by decide))
        · simp -implicitDefEqProofs (disch := first | omega | (simp -implicitDefEqProofs only [go_sem, List.size_toArray, List.length_cons, List.length_nil, Nat.reduceAdd]; done)) only [go_sem, Int.reduceLT, Int.reduceLE, Int.reduceEq, reduceIte, true_and, Nat.zero_add, Nat.add_zero, Option.map_some, s2]
        · simp -implicitDefEqProofs (disch := first | omega | (simp -implicitDefEqProofs only [go_sem, List.size_toArray, List.length_cons, List.length_nil, Nat.reduceAdd]; done)) only [go_sem, Int.reduceLT, Int.reduceLE, Int.reduceEq, reduceIte, true_and, Nat.zero_add, Nat.add_zero, Option.map_some, s3]
      | false =>
        have hgo := hb.1 rfl
        have hdl : (dataOf (l.take i)).length + l[i].data.length ≤ 1048576 := by
          have h1 := dataOf_take_le (l := l) (i := i + 1)
          rw [dataOf_take hx, List.length_append] at h1
          omega
        obtain ⟨v2, h2, e2, m2, _⟩ := hmK.append app_22 (hs.ext hE1) (by omega) (by decide)
        have C3 : cellAt hh1 hh.next 3 = some w := cellAt_row gp
        simp -implicitDefEqProofs (disch := first | omega | (simp -implicitDefEqProofs only [go_sem, List.size_toArray, List.length_cons, List.length_nil, Nat.reduceAdd]; done)) only [go_sem, Int.reduceLT, Int.reduceLE, Int.reduceEq, reduceIte, true_and, Nat.zero_add, Nat.add_zero, Option.map_some, r41, s4, s6, C3, e2, s17, hwi]
        refine hK' (i + 1) _ ?_ (by omega)
        refine ⟨by trivial, by trivial, by simp -implicitDefEqProofs (disch := first | omega | (simp -implicitDefEqProofs only [go_sem, List.size_toArray, List.length_cons, List.length_nil, Nat.reduceAdd]; done)) only [go_sem, Int.reduceLT, Int.reduceLE, Int.reduceEq, reduceIte, true_and, Nat.zero_add, Nat.add_zero, Option.map_some, s1], by simp -implicitDefEqProofs (disch := first | omega | (simp -implicitDefEqProofs only [go_sem, List.size_toArray, List.length_cons, List.length_nil, Nat.reduceAdd]; done)) only [go_sem, Int.reduceLT, Int.reduceLE, Int.reduceEq, reduceIte, true_and, Nat.zero_add, Nat.add_zero, Option.map_some, s2], by simp -implicitDefEqProofs (disch := first | omega | (simp -implicitDefEqProofs only [go_sem, List.size_toArray, List.length_cons, List.length_nil, Nat.reduceAdd]; done)) only [go_sem, Int.reduceLT, Int.reduceLE, Int.reduceEq, reduceIte, true_and, Nat.zero_add, Nat.add_zero, Option.map_some, s3], by simp -implicitDefEqProofs (disch := first | omega | (simp -implicitDefEqProofs only [go_sem, List.size_toArray, List.length_cons, List.length_nil, Nat.reduceAdd]; done)) only [go_sem, Int.reduceLT, Int.reduceLE, Int.reduceEq, reduceIte, true_and, Nat.zero_add, Nat.add_zero, Option.map_some, s15], by simp -implicitDefEqProofs (disch := first | omega | (simp -implicitDefEqProofs only [go_sem, List.size_toArray, List.length_cons, List.length_nil, Nat.reduceAdd]; done)) only [go_sem, Int.reduceLT, Int.reduceLE, Int.reduceEq, reduceIte, true_and, Nat.zero_add, Nat.add_zero, Option.map_some, s16], by simp -implicitDefEqProofs (disch := first | omega | (simp -implicitDefEqProofs only [go_sem, List.size_toArray, List.length_cons, List.length_nil, Nat.reduceAdd]; done)) only [go_sem, Int.reduceLT, Int.reduceLE, Int.reduceEq, reduceIte, true_and, Nat.zero_add, Nat.add_zero, Option.map_some], by omega, goodL_succ hg hx hgo, v2, by simp -implicitDefEqProofs (disch := first | omega | (simp -implicitDefEqProofs only [go_sem, List.size_toArray, List.length_cons, List.length_nil, Nat.reduceAdd]; done)) only [go_sem, Int.reduceLT, Int.reduceLE, Int.reduceEq, reduceIte, true_and, Nat.zero_add, Nat.add_zero, Option.map_some], ?_⟩
        rw [dataOf_take hx]
        exact m2
  · rintro ⟨fr, df, hh, rd⟩ ⟨rfl, hrd, f1, f2, f3, hg, vb, f4, hm⟩
    simp only at hrd f1 f2 f3 f4 hm
    subst hrd
    have hE := hm.ext
    have hEn := hE.next
    simp -implicitDefEqProofs (disch := first | omega | (simp -implicitDefEqProofs only [go_sem, List.size_toArray, List.length_cons, List.length_nil, Nat.reduceAdd]; done)) only [go_sem, Int.reduceLT, Int.reduceLE, Int.reduceEq, reduceIte, true_and, Nat.zero_add, Nat.add_zero, Option.map_some, f4]
    refine ncall_ct (stParse_s hm.arg (by omega)) ?_
    rintro r h2 ⟨vc, vr, rfl, hE2, hc', hr'⟩
    have hst := parse_state (l := dataOf l)
    obtain ⟨p1, p2, p3⟩ := parseR_rows (dataOf l)
    obtain ⟨st, hst'⟩ : ∃ st, parseR id (dataOf l) = st := ⟨_, rfl⟩
    rw [hst'] at hc' hr' p1 p2 p3 hst
    have hone : [Value.int .i64 st.slot, vc, vr].all Value.oneCell' = true := by
      obtain ⟨_, _, rfl⟩ := hc'.isSlice
      obtain ⟨_, _, rfl⟩ := hr'.isSlice
      rfl
    have hE2n := hE2.next
    obtain ⟨H2, hH2⟩ : ∃ H, H = h2.push (.row [.int .i64 st.slot, vc, vr] 0 false) := ⟨_, rfl⟩
    have hE3 : Ext h2 H2 := by rw [hH2]; exact Ext.push1 _ _
    have hE4 := hE.trans (hE2.trans hE3)
    have g2 : H2.get h2.next = some (.row [.int .i64 st.slot, vc, vr] 0 false) := by rw [hH2]; exact get_push_same _ _
    have hH2n : H2.next = h2.next + 1 := by rw [hH2]; rfl
    by_cases he : parseE id (dataOf l) = 0
    case neg =>
      have hBK : H2.get (h.next + 1) = some (.row zeroState 0 false) := (hE4.get _ (by omega)).trans hB0
      have hCK : H2.get (h.next + 2) = some (.row [.int .i64 0] 0 false) := (hE4.get _ (by omega)).trans hC0
      simp -implicitDefEqProofs (disch := first | omega | (simp -implicitDefEqProofs only [go_sem, List.size_toArray, List.length_cons, List.length_nil, Nat.reduceAdd]; done)) only [go_sem, Int.reduceLT, Int.reduceLE, Int.reduceEq, reduceIte, true_and, Nat.zero_add, Nat.add_zero, Option.map_some, XEnd, hst', zero3 (K := h2) hone, ← hH2, he, f2, f3, bd_state0, hz _ hBK, hz2 _ _ _ hCK]
      refine ret_at (res_cc ?_ ?_ ((get_set_other _ _ (by omega)).trans (get_set_same _ _)) (get_set_same _ _)) (hend _ _ hE4 (build_err hn hg he) he)
      · simp -implicitDefEqProofs (disch := first | omega | (simp -implicitDefEqProofs only [go_sem, List.size_toArray, List.length_cons, List.length_nil, Nat.reduceAdd]; done)) only [go_sem, Int.reduceLT, Int.reduceLE, Int.reduceEq, reduceIte, true_and, Nat.zero_add, Nat.add_zero, Option.map_some, f2]
      · simp -implicitDefEqProofs (disch := first | omega | (simp -implicitDefEqProofs only [go_sem, List.size_toArray, List.length_cons, List.length_nil, Nat.reduceAdd]; done)) only [go_sem, Int.reduceLT, Int.reduceLE, Int.reduceEq, reduceIte, true_and, Nat.zero_add, Nat.add_zero, Option.map_some, f3]
    have te := eq_true he
    obtain ⟨H3, hH3⟩ : ∃ H, H = H2.push (.row [.int .i64 0] 0 false) := ⟨_, rfl⟩
    have hE5 : Ext H2 H3 := by rw [hH3]; exact Ext.push1 _ _
    have hH3n : H3.next = h2.next + 2 := by rw [hH3, next_push, hH2n]
    have g3 : H3.get (h2.next + 1) = some (.row [.int .i64 0] 0 false) := by rw [hH3, ← hH2n]; exact get_push_same _ _
    have g2' : H3.get h2.next = some (.row [.int .i64 st.slot, vc, vr] 0 false) := (hE5.get _ (by omega)).trans g2
    have l2 : cellsAt H3 h2.next 0 3 = some (stateV st.slot vc vr) := by rw [cellsAt_row g2' (Nat.le_of_ble_eq_true rfl)]; rfl
    have z3 : storeAt (H2.push (.row [.int .i64 0] 0 false)) H2.next 0 [.int .i64 0] = some H3 := by rw [hH3]; exact storeAll_push rfl rfl
    simp -implicitDefEqProofs (disch := first | omega | (simp -implicitDefEqProofs only [go_sem, List.size_toArray, List.length_cons, List.length_nil, Nat.reduceAdd]; done)) only [go_sem, Int.reduceLT, Int.reduceLE, Int.reduceEq, reduceIte, true_and, Nat.zero_add, Nat.add_zero, Option.map_some, XEnd, hst', zero3 (K := h2) hone, ← hH2, te, z3, l2]
    have hE23 := hE3.trans hE5
    refine ncall_ct (parts_c (n := st.slot) (cells := st.cells) (rows := st.rows) (hst he) (hc'.mono fun j hj => ⟨by omega, hE23.get j hj.2⟩) (hr'.mono fun j hj => ⟨by omega, hE23.get j hj.2⟩) (by omega) (by omega)) ?_
    rintro r h3 ⟨cc, vp, rfl, hE6, hc1, hc2, hcc, hvp⟩
    have hE6n := hE6.next
    have hE7 : Ext H0 h3 := hE4.trans (hE5.trans hE6)
    obtain ⟨ps, hps⟩ : ∃ ps, partsS ⟨st.slot, st.cells, st.rows⟩ = ps := ⟨_, rfl⟩
    have hps2 : partsS (parseR id (dataOf l)) = ps := by rw [hst']; exact hps
    rw [hps] at hvp
    obtain ⟨n1, n2⟩ := partsS_len ⟨st.slot, st.cells, st.rows⟩
    rw [hps] at n1 n2
    have gA : h3.get (h.next + 1) = some (.row zeroState 0 false) := (hE7.get _ (by omega)).trans hB0
    have gB : h3.get (h.next + 2) = some (.row [.int .i64 0] 0 false) := (hE7.get _ (by omega)).trans hC0
    have gV : h3.get h.next = some (.row [v] 0 false) := (hE7.get _ (by omega)).trans hA0
    have gC : h3.get H2.next = some (.row [.int .i64 0] 0 false) := (hE6.get _ (by omega)).trans (by rw [hH2n]; exact g3)
    have g7 : h3.get h2.next = some (.row [.int .i64 st.slot, vc, vr] 0 false) := (hE6.get _ (by omega)).trans g2'
    have hEhh := hE0.trans hE7
    simp -implicitDefEqProofs (disch := first | omega | (simp -implicitDefEqProofs only [go_sem, List.size_toArray, List.length_cons, List.length_nil, Nat.reduceAdd]; done)) only [go_sem, Int.reduceLT, Int.reduceLE, Int.reduceEq, reduceIte, true_and, Nat.zero_add, Nat.add_zero, Option.map_some, XEnd]
    refine build_loop (a := h.next + 1) (b := h.next + 2) (c := H2.next) (b1 := h.next) (cc := cc) (v := v) (vp := vp) (ps := ps) (l := l) hl n1 n2 (by simp -implicitDefEqProofs (disch := first | omega | (simp -implicitDefEqProofs only [go_sem, List.size_toArray, List.length_cons, List.length_nil, Nat.reduceAdd]; done)) only [go_sem, Int.reduceLT, Int.reduceLE, Int.reduceEq, reduceIte, true_and, Nat.zero_add, Nat.add_zero, Option.map_some, f1]) (by simp -implicitDefEqProofs (disch := first | omega | (simp -implicitDefEqProofs only [go_sem, List.size_toArray, List.length_cons, List.length_nil, Nat.reduceAdd]; done)) only [go_sem, Int.reduceLT, Int.reduceLE, Int.reduceEq, reduceIte, true_and, Nat.zero_add, Nat.add_zero, Option.map_some, f2]) (by simp -implicitDefEqProofs (disch := first | omega | (simp -implicitDefEqProofs only [go_sem, List.size_toArray, List.length_cons, List.length_nil, Nat.reduceAdd]; done)) only [go_sem, Int.reduceLT, Int.reduceLE, Int.reduceEq, reduceIte, true_and, Nat.zero_add, Nat.add_zero, Option.map_some, f3]) (by simp -implicitDefEqProofs (disch := first | omega | (simp -implicitDefEqProofs only [go_sem, List.size_toArray, List.length_cons, List.length_nil, Nat.reduceAdd]; done)) only [go_sem, Int.reduceLT, Int.reduceLE, Int.reduceEq, reduceIte, true_and, Nat.zero_add, Nat.add_zero, Option.map_some]) (by simp -implicitDefEqProofs (disch := first | omega | (simp -implicitDefEqProofs only [go_sem, List.size_toArray, List.length_cons, List.length_nil, Nat.reduceAdd]; done)) only [go_sem, Int.reduceLT, Int.reduceLE, Int.reduceEq, reduceIte, true_and, Nat.zero_add, Nat.add_zero, Option.map_some]) (by omega) gV (hv.mono fun j hj => ⟨by omega, hEhh.get j hj⟩) gA gB gC (by omega) hcc (hvp.mono fun j hj => ⟨by omega, rfl⟩) (fun H s => ?_) (fun H s => ?_)
    · generalize hHf : H.set (h3.next + 1) _ = Hf
      have oth : ∀ j, j ≠ h3.next + 1 → Hf.get j = H.get j := fun j hj => by rw [← hHf]; exact get_set_other _ _ hj
      have fA : Hf.get (h.next + 1) = some (.row zeroState 0 false) := (oth _ (by omega)).trans s.ga
      have fB : Hf.get (h.next + 2) = some (.row [.int .i64 0] 0 false) := (oth _ (by omega)).trans s.gb
      have fC : Hf.get H2.next = some (.row [.int .i64 (ps.length : Nat)] 0 false) := (oth _ (by omega)).trans s.gc
      have fV : Hf.get h.next = some (.row [v] 0 false) := (oth _ (by omega)).trans ((s.r.old _ (by omega) (by unfold bldIds; omega)).trans gV)
      have f7 : Hf.get h2.next = some (.row [.int .i64 st.slot, vc, vr] 0 false) := (oth _ (by omega)).trans ((s.r.old _ (by omega) (by unfold bldIds; omega)).trans g7)
      have fM : Hf.get h3.next = some (.marks true) := (oth _ (by omega)).trans s.r.mrk
      have hEf : Ext h Hf := by rw [← hHf]; exact (s.r.below hEhh fun j hj => by unfold bldIds at hj; omega).set (by omega)
      have k1 : cellAt Hf h.next 0 = some v := cellAt_row fV
      have k2 : cellAt Hf H2.next 0 = some (.int .i64 (ps.length : Nat)) := cellAt_row fC
      by_cases hpl : ps.length = l.length
      case neg =>
        have hpl' : ¬ (((ps.length : Nat) : Int) = (l.length : Nat)) := by omega
        simp -implicitDefEqProofs (disch := first | omega | (simp -implicitDefEqProofs only [go_sem, List.size_toArray, List.length_cons, List.length_nil, Nat.reduceAdd]; done)) only [go_sem, Int.reduceLT, Int.reduceLE, Int.reduceEq, reduceIte, true_and, Nat.zero_add, Nat.add_zero, Option.map_some, f1, f2, f3, k1, k2, el, hpl', bd_state0, hz _ fA, hz2 _ _ _ fB]
        refine XLv_mark ((get_set_other _ _ (by omega)).trans ((get_set_other _ _ (by omega)).trans fM)) ?_
        simp -implicitDefEqProofs (disch := first | omega | (simp -implicitDefEqProofs only [go_sem, List.size_toArray, List.length_cons, List.length_nil, Nat.reduceAdd]; done)) only [go_sem, Int.reduceLT, Int.reduceLE, Int.reduceEq, reduceIte, true_and, Nat.zero_add, Nat.add_zero, Option.map_some]
        refine ret_at (res_cc ?_ ?_ ((get_set_other _ _ (by omega)).trans ((get_set_other _ _ (by omega)).trans (get_set_same _ _))) ((get_set_other _ _ (by omega)).trans (get_set_same _ _))) (build_end0 (build_not hn hg he (by rw [hps2]; exact fun h => hpl (by rw [h]))) (by decide) (((hEf.set (by omega)).set (by omega)).set (by omega)))
        · simp -implicitDefEqProofs (disch := first | omega | (simp -implicitDefEqProofs only [go_sem, List.size_toArray, List.length_cons, List.length_nil, Nat.reduceAdd]; done)) only [go_sem, Int.reduceLT, Int.reduceLE, Int.reduceEq, reduceIte, true_and, Nat.zero_add, Nat.add_zero, Option.map_some, f2]
        · simp -implicitDefEqProofs (disch := first | omega | (simp -implicitDefEqProofs only [go_sem, List.size_toArray, List.length_cons, List.length_nil, Nat.reduceAdd]; done)) only [go_sem, Int.reduceLT, Int.reduceLE, Int.reduceEq, reduceIte, true_and, Nat.zero_add, Nat.add_zero, Option.map_some, f3]
      have hpl' : (((ps.length : Nat) : Int) = (l.length : Nat)) = True := eq_true (by omega)
      have hpe : ps = l := List.ext_getElem? fun j => by
        by_cases hj : j < l.length
        · have hx := get_of_lt (l := ps) (i := j) (by omega)
          obtain ⟨y, hy, e1, e2⟩ := s.so j _ (by omega) hx
          obtain ⟨_, e3, e4⟩ := hg j y hj hy
          have e5 := partsS_at (s := parseR id (dataOf l)) (by rw [hps2]; exact hx)
          rw [hps2] at e5
          rw [hx, hy, part_ext e1 (by rw [e5.1, e4]) (by rw [e5.2, e3, hpl]) e2]
        · rw [List.getElem?_eq_none (by omega), List.getElem?_eq_none (by omega)]
      have hok := build_ok hn hg he (by rw [hps2]; exact hpe)
      have hrs : buildR l = st := (buildR_yes hok).trans hst'
      have k7 : cellsAt Hf h2.next 0 3 = some (stateV st.slot vc vr) := by rw [cellsAt_row f7 (Nat.le_of_ble_eq_true rfl)]; rfl
      have w1 := storeAt_row (o := 0) (vs := [.int .i64 st.slot, vc, vr]) fA (Nat.le_of_ble_eq_true rfl) hone
      have e1 : Hf.set (h.next + 1) (.row (setAt zeroState 0 [.int .i64 st.slot, vc, vr]) 0 false) = Hf.set (h.next + 1) (.row [.int .i64 st.slot, vc, vr] 0 false) := rfl
      rw [e1] at w1
      simp -implicitDefEqProofs (disch := first | omega | (simp -implicitDefEqProofs only [go_sem, List.size_toArray, List.length_cons, List.length_nil, Nat.reduceAdd]; done)) only [go_sem, Int.reduceLT, Int.reduceLE, Int.reduceEq, reduceIte, true_and, Nat.zero_add, Nat.add_zero, Option.map_some, f1, f2, f3, k1, k2, el, hpl', k7, w1, hz2 _ _ _ fB]
      refine XLv_mark ((get_set_other _ _ (by omega)).trans ((get_set_other _ _ (by omega)).trans fM)) ?_
      simp -implicitDefEqProofs (disch := first | omega | (simp -implicitDefEqProofs only [go_sem, List.size_toArray, List.length_cons, List.length_nil, Nat.reduceAdd]; done)) only [go_sem, Int.reduceLT, Int.reduceLE, Int.reduceEq, reduceIte, true_and, Nat.zero_add, Nat.add_zero, Option.map_some]
      have fin : ∀ j, hh.next ≤ j → j < h2.next → (((Hf.set (h.next + 1) (.row [.int .i64 st.slot, vc, vr] 0 false)).set (h.next + 2) (.row [.int .i64 0] 0 false)).set h3.next (.marks false)).get j = h2.get j := fun j j1 j2 => by
        rw [get_set_other _ _ (by omega), get_set_other _ _ (by omega), get_set_other _ _ (by omega), oth _ (by omega), s.r.old _ (by omega) (by unfold bldIds; omega), hE6.get _ (by omega), hE23.get _ j2]
      have hfn : h2.next ≤ (((Hf.set (h.next + 1) (.row [.int .i64 st.slot, vc, vr] 0 false)).set (h.next + 2) (.row [.int .i64 0] 0 false)).set h3.next (.marks false)).next := by
        have := s.r.nx
        rw [next_set, next_set, next_set, ← hHf, next_set]
        omega
      refine ret_at (res_cc (n := st.slot) (vc := vc) (vr := vr) (e := 0) ?_ ?_ ((get_set_other _ _ (by omega)).trans ((get_set_other _ _ (by omega)).trans (get_set_same _ _))) ((get_set_other _ _ (by omega)).trans (get_set_same _ _))) ⟨vc, vr, by rw [hrs, hok], (((hEf.set (by omega)).set (by omega)).set (by omega)), ?_, ?_⟩
      · simp -implicitDefEqProofs (disch := first | omega | (simp -implicitDefEqProofs only [go_sem, List.size_toArray, List.length_cons, List.length_nil, Nat.reduceAdd]; done)) only [go_sem, Int.reduceLT, Int.reduceLE, Int.reduceEq, reduceIte, true_and, Nat.zero_add, Nat.add_zero, Option.map_some, f2]
      · simp -implicitDefEqProofs (disch := first | omega | (simp -implicitDefEqProofs only [go_sem, List.size_toArray, List.length_cons, List.length_nil, Nat.reduceAdd]; done)) only [go_sem, Int.reduceLT, Int.reduceLE, Int.reduceEq, reduceIte, true_and, Nat.zero_add, Nat.add_zero, Option.map_some, f3]
      · rw [hrs]
        exact hc'.mono fun j hj => ⟨Nat.lt_of_lt_of_le hj.2 hfn, fin j hj.1 hj.2⟩
      · rw [hrs]
        exact hr'.mono fun j hj => ⟨Nat.lt_of_lt_of_le hj.2 hfn, fin j hj.1 hj.2⟩
    · generalize hHf : H.set (h3.next + 1) _ = Hf
      have oth : ∀ j, j ≠ h3.next + 1 → Hf.get j = H.get j := fun j hj => by rw [← hHf]; exact get_set_other _ _ hj
      have hEf : Ext h Hf := by rw [← hHf]; exact (s.r.below hEhh fun j hj => by unfold bldIds at hj; omega).set (by omega)
      have fA : Hf.get (h.next + 1) = some (.row zeroState 0 false) := (oth _ (by omega)).trans s.ga
      have fB : Hf.get (h.next + 2) = some (.row [.int .i64 221] 0 false) := (oth _ (by omega)).trans s.gb
      have fM : Hf.get h3.next = some (.marks true) := (oth _ (by omega)).trans s.r.mrk
      simp -implicitDefEqProofs (disch := first | omega | (simp -implicitDefEqProofs only [go_sem, List.size_toArray, List.length_cons, List.length_nil, Nat.reduceAdd]; done)) only [go_sem, Int.reduceLT, Int.reduceLE, Int.reduceEq, reduceIte, true_and, Nat.zero_add, Nat.add_zero, Option.map_some]
      refine XLv_mark fM ?_
      simp -implicitDefEqProofs (disch := first | omega | (simp -implicitDefEqProofs only [go_sem, List.size_toArray, List.length_cons, List.length_nil, Nat.reduceAdd]; done)) only [go_sem, Int.reduceLT, Int.reduceLE, Int.reduceEq, reduceIte, true_and, Nat.zero_add, Nat.add_zero, Option.map_some]
      refine ret_at (res_cc ?_ ?_ ((get_set_other _ _ (by omega)).trans fA) ((get_set_other _ _ (by omega)).trans fB)) (build_end0 (build_not hn hg he (by rw [hps2]; exact s.ne)) (by decide) (hEf.set (by omega)))
      · simp -implicitDefEqProofs (disch := first | omega | (simp -implicitDefEqProofs only [go_sem, List.size_toArray, List.length_cons, List.length_nil, Nat.reduceAdd]; done)) only [go_sem, Int.reduceLT, Int.reduceLE, Int.reduceEq, reduceIte, true_and, Nat.zero_add, Nat.add_zero, Option.map_some, f2]
      · simp -implicitDefEqProofs (disch := first | omega | (simp -implicitDefEqProofs only [go_sem, List.size_toArray, List.length_cons, List.length_nil, Nat.reduceAdd]; done)) only [go_sem, Int.reduceLT, Int.reduceLE, Int.reduceEq, reduceIte, true_and, Nat.zero_add, Nat.add_zero, Option.map_some, f3]
end Go.Proofs.Ytlhgijpdhniddaa

namespace Go.Proofs.Ytlhgijpdhniddaa
open Go.D
set_option maxRecDepth 100000

theorem buildR_rows (l : List Part) : (∀ r ∈ (buildR l).rows, r.x.vs.length ≤ 8) ∧ (buildR l).rows.length ≤ 1048576 ∧ (buildR l).cells.length ≤ 1048576 := by
  by_cases h : buildE l = 0
  · rw [buildR_yes h]
    exact parseR_rows _
  · rw [buildR_no h]
    simp
theorem builds_c {h : DHeap} {b : Value} {l : List Part} (hb : Arg rPart h b l) (hlen : l.length ≤ 1048576) (hd : (dataOf l).length ≤ 1048576) : DC Try.prog 8 [b] h (.ret (.bool true)) h := by
  refine Ct.pure (go_8 (by simp) ?_) (vin_bool _)
  simp -implicitDefEqProofs (disch := first | omega | (simp -implicitDefEqProofs only [go_sem, List.size_toArray, List.length_cons, List.length_nil, Nat.reduceAdd]; done)) only [go_sem, Int.reduceLT, Int.reduceLE, Int.reduceEq, reduceIte, true_and, Nat.zero_add, Nat.add_zero, Option.map_some, c8]
  refine ncall_ct (build_c hb hlen hd) ?_
  rintro r h1 ⟨vc, vr, rfl, hE1, hc, hr⟩
  have hone : [Value.int .i64 (buildR l).slot, vc, vr].all Value.oneCell' = true := by
    obtain ⟨_, _, rfl⟩ := hc.isSlice
    obtain ⟨_, _, rfl⟩ := hr.isSlice
    rfl
  obtain ⟨H1, hH1⟩ : ∃ H, H = h1.push (.row [.int .i64 (buildR l).slot, vc, vr] 0 false) := ⟨_, rfl⟩
  have hE2 : Ext h1 H1 := by rw [hH1]; exact Ext.push1 _ _
  simp -implicitDefEqProofs (disch := first | omega | (simp -implicitDefEqProofs only [go_sem, List.size_toArray, List.length_cons, List.length_nil, Nat.reduceAdd]; done)) only [go_sem, Int.reduceLT, Int.reduceLE, Int.reduceEq, reduceIte, true_and, Nat.zero_add, Nat.add_zero, Option.map_some, XEnd, zero3 (K := h1) hone, ← hH1]
  refine ncall_ct (refBuild_c (hb.ext (hE1.trans hE2)) hlen hd) ?_
  rintro r h2 ⟨vc', vr', rfl, hE3, hc', hr'⟩
  have hone' : [Value.int .i64 (buildR l).slot, vc', vr'].all Value.oneCell' = true := by
    obtain ⟨_, _, rfl⟩ := hc'.isSlice
    obtain ⟨_, _, rfl⟩ := hr'.isSlice
    rfl
  obtain ⟨H2, hH2⟩ : ∃ H, H = h2.push (.row [.int .i64 (buildR l).slot, vc', vr'] 0 false) := ⟨_, rfl⟩
  have hE4 : Ext h2 H2 := by rw [hH2]; exact Ext.push1 _ _
  have g1 : H2.get h1.next = some (.row [.int .i64 (buildR l).slot, vc, vr] 0 false) := by rw [(hE3.trans hE4).get _ (by rw [hH1, next_push]; omega), hH1]; exact get_push_same _ _
  have g2 : H2.get h2.next = some (.row [.int .i64 (buildR l).slot, vc', vr'] 0 false) := by rw [hH2]; exact get_push_same _ _
  have l1 : cellsAt H2 h1.next 0 3 = some (stateV (buildR l).slot vc vr) := by rw [cellsAt_row g1 (Nat.le_of_ble_eq_true rfl)]; rfl
  have l2 : cellsAt H2 h2.next 0 3 = some (stateV (buildR l).slot vc' vr') := by rw [cellsAt_row g2 (Nat.le_of_ble_eq_true rfl)]; rfl
  simp -implicitDefEqProofs (disch := first | omega | (simp -implicitDefEqProofs only [go_sem, List.size_toArray, List.length_cons, List.length_nil, Nat.reduceAdd]; done)) only [go_sem, Int.reduceLT, Int.reduceLE, Int.reduceEq, reduceIte, true_and, Nat.zero_add, Nat.add_zero, Option.map_some, XEnd, zero3 (K := h2) hone', ← hH2]
  refine ncall begun_c ?_
  simp -implicitDefEqProofs (disch := first | omega | (simp -implicitDefEqProofs only [go_sem, List.size_toArray, List.length_cons, List.length_nil, Nat.reduceAdd]; done)) only [go_sem, Int.reduceLT, Int.reduceLE, Int.reduceEq, reduceIte, true_and, Nat.zero_add, Nat.add_zero, Option.map_some, dPick_t, l1, l2]
  obtain ⟨p1, p2, p3⟩ := buildR_rows l
  refine ncall (same_c (n := (buildR l).slot) (n' := (buildR l).slot) (cells := (buildR l).cells) (cells' := (buildR l).cells) (rows := (buildR l).rows) (rows' := (buildR l).rows) (((hc.ext hE2).ext hE3).ext hE4) (((hr.ext hE2).ext hE3).ext hE4) (hc'.ext hE4) (hr'.ext hE4) (by omega) (by omega) (fun r hr => by have := p1 r hr; omega)) ?_
  rw [show sameState ⟨(buildR l).slot, (buildR l).cells, (buildR l).rows⟩ ⟨(buildR l).slot, (buildR l).cells, (buildR l).rows⟩ = true from sameState_refl _]
  simp -implicitDefEqProofs (disch := first | omega | (simp -implicitDefEqProofs only [go_sem, List.size_toArray, List.length_cons, List.length_nil, Nat.reduceAdd]; done)) only [go_sem, Int.reduceLT, Int.reduceLE, Int.reduceEq, reduceIte, true_and, Nat.zero_add, Nat.add_zero, Option.map_some, dPick_t]
  exact ⟨_, rfl, rfl, ((hE1.trans hE2).trans hE3).trans hE4⟩
end Go.Proofs.Ytlhgijpdhniddaa

namespace Go.Proofs.Ytlhgijpdhniddaa.lawBuilds
open Go.D
open Go.ChangeShapes Go.WideShapes Go.ChangeAt Go.RowKit
theorem own : ownKnob Try.prog.godebug = none := by kernel_rfl
set_option maxRecDepth 100000 in
theorem lifted (os : Os) (started : os.Started) (H : Type) (enc : TypeId × Value → H) (F : Stop.Interp) :
    ReturnsInHanded {} Try.checked os 8 .any ((Rows.OpenSpec.upto Rows.stateBuildsSpec).pre6 enc Try.prog Try.f8 Rows.stateBuildsUptoRow.domain false) (((Rows.OpenSpec.upto Rows.stateBuildsSpec).at F).post enc Try.prog Try.f8 false true false false) := by
  refine returnsInHanded_of_cond (C := Try.checked) (s := Rows.OpenSpec.upto Rows.stateBuildsSpec) (k := Rows.uptoSmall) rfl own started (by kernel_rfl) Try.func8
    (OpenSpec.witness (enc := enc) (C := Try.checked) (s := Rows.OpenSpec.upto Rows.stateBuildsSpec) (k := Rows.uptoSmall) rfl false ⟨#[], #[.slice none 0 0], []⟩ 8 (by kernel_rfl) (by kernel_rfl) (by kernel_rfl)
      (x := ([.nil], [], [])) (by kernel_rfl) rfl (by kernel_rfl)) ?_
  intro W base args ds gs before hval hW _ hk _
  refine law_kept (by kernel_rfl)
    (.cons (agg := false) par_parts lay_parts .nil) (tb := 4) (by kernel_rfl) (by kernel_rfl) rfl (fun ds hl => ?_) (fun h vs x hng hq hB => ?_) W base args ds gs before hval hW hk
  · match ds, hl with
    | [d0], _ => rfl
  · obtain ⟨cs, vs1, rfl, ⟨v, rfl, hv⟩, rfl⟩ := hq
    obtain ⟨m1, m2⟩ := bulk_parts x.1
    exact (builds_c hv (by omega) (by omega)).ct rfl
theorem p1 : Try.pinned.checked.prog.funcNamed Rows.stateBuildsUptoRow.func = some 8 := by kernel_rfl
theorem p2 : joinedFacts Try.pinned.checked.prog 8 Try.f8 (Rows.OpenSpec.upto Rows.stateBuildsSpec).bare Rows.stateBuildsUptoRow = true := by kernel_rfl
theorem p3 : Try.f8.isInstance Try.pinned.checked.prog Rows.stateBuildsUptoRow.origin Rows.stateBuildsUptoRow.targs := of_decide_eq_true (by kernel_rfl)
theorem p4 : Try.f8.isWrapper Try.pinned.checked.prog Rows.stateBuildsUptoRow.wrapper Rows.stateBuildsUptoRow.mainSum := by unfold Func.isWrapper; first | (rw [if_pos (by decide +kernel)]; kernel_rfl) | (rw [if_neg (by decide +kernel)]; exact ⟨rfl, rfl⟩)
theorem proved : Rows.StateBuildsUptoSaid :=
  OpenClaim.holds_of_cond 8 Try.f8 rfl rfl rfl rfl rfl rfl rfl ⟨rfl, rfl, rfl, rfl, rfl⟩ rfl rfl rfl rfl rfl p1 Try.func8 p2 p3 p4
    (fun os started H enc _ F => lifted os started H enc F)
end Go.Proofs.Ytlhgijpdhniddaa.lawBuilds
