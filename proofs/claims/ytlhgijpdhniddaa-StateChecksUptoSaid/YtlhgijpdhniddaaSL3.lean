/-
StateChecks: for every input of bulk at most 1048576 the law returns true, and the input reads as it did. Conditions: none.
-/
import Derived.Test.YtlhgijpdhniddaaRows
import Derived.WalkKit
import Derived.ProofKit
import Derived.OpenShut
import Derived.JoinedCond
import Derived.Test.YtlhgijpdhniddaaBase1
import Derived.Test.YtlhgijpdhniddaaBase2
import Derived.Test.YtlhgijpdhniddaaSL1
import Derived.Test.YtlhgijpdhniddaaSL2
set_option linter.unusedSimpArgs false
set_option linter.unusedVariables false
namespace Go.Proofs.Ytlhgijpdhniddaa
open Go.D
set_option maxRecDepth 100000

abbrev zeroState : List Value := [.int .i64 0, .slice none 0 0, .slice none 0 0]
/-- how things lie while a state is read -/
structure ParSt (h : DHeap) (o : DObj) (row : List Value) (hh : DHeap) : Prop where
  rA : hh.get h.next = some (.row zeroState 0 false)
  rR : hh.get (h.next + 1) = some o
  rS : hh.get (h.next + 2) = some (.row row 0 false)
  old : ∀ j, j < h.next → hh.get j = h.get j
  nx : h.next + 3 ≤ hh.next
  ng : hh.ng = h.ng
section
variable {h hh h2 : DHeap} {o o' : DObj} {row row' : List Value}
theorem ParSt.num (s : ParSt h o row hh) : ParSt h o' row (hh.set (h.next + 1) o') :=
  ⟨(get_set_other _ _ (by omega)).trans s.rA, get_set_same _ _, (get_set_other _ _ (by omega)).trans s.rS, fun j hj => (get_set_other _ _ (by omega)).trans (s.old j hj), s.nx, s.ng⟩
theorem ParSt.fld (s : ParSt h o row hh) : ParSt h o row' (hh.set (h.next + 2) (.row row' 0 false)) :=
  ⟨(get_set_other _ _ (by omega)).trans s.rA, (get_set_other _ _ (by omega)).trans s.rR, get_set_same _ _, fun j hj => (get_set_other _ _ (by omega)).trans (s.old j hj), s.nx, s.ng⟩
theorem ParSt.grow (s : ParSt h o row hh) (h1 : hh.next ≤ h2.next) (hg : h2.ng = hh.ng) (hk : ∀ i, i < h.next + 3 → h2.get i = hh.get i) : ParSt h o row h2 :=
  ⟨(hk _ (by omega)).trans s.rA, (hk _ (by omega)).trans s.rR, (hk _ (by omega)).trans s.rS, fun j hj => (hk _ (by omega)).trans (s.old j hj), Nat.le_trans s.nx h1, hg.trans s.ng⟩
theorem ParSt.sl {b : Value} {l : List Int} (s : ParSt h o row hh) (hb : Arg fU8.rep h b l) : Sl fU8.rep (fun i => i < h.next + 1) hh b l := hb.mono fun i hi => ⟨by omega, s.old i hi⟩
end
theorem bd_rd {b : Value} (hb : b.cells = #[b]) : dBuild Try.prog 64 [(0, b)] = some (.agg #[b, .int .i64 0, .bool false]) := by
  refine dBuild_at plc_64 ?_
  simp only [fillL, List.getElem?_cons_zero, hb]
  rfl
theorem bd_state {n : Int} : dBuild Try.prog 26 [(0, .int .i64 n)] = some (.agg #[.int .i64 n, .slice none 0 0, .slice none 0 0]) := dBuild_at plc_26 rfl
theorem bd_state0 : dBuild Try.prog 26 [] = some (.agg #[.int .i64 0, .slice none 0 0, .slice none 0 0]) := dBuild_at plc_26 rfl
theorem xs_cut {P : Program} {nt : Nat} {x y : Code} {Q : DExit → St → Prop} {s : St} (M : St → Prop) (h1 : xs P nt x (DThen M Q) s) (h2 : ∀ s', M s' → xs P nt y Q s') : xs P nt (.seq x y) Q s := xs_mono x s (DThen_mono h2 fun _ _ h => h) h1
theorem XLoop_cut {P : Program} {nt id : Nat} {c : Code} {K : St → Prop} {Q : DExit → St → Prop} {s : St} (M : St → Prop) (h1 : XLoop P nt c (DBlock id (DThen M Q)) s) (h3 : ∀ s', M s' → K s') : XLoop P nt c (DBlock id (DThen K Q)) s := xblock_cut (c := .loop c) M h1 h3
/-- a state of the walk's end -/
def ParM (h hh : DHeap) (bb : Value) (odd : Bool) (e : Int) (s : St) : Prop :=
  s.df = [] ∧ s.fr 2 = some (.pointer (some ⟨h.next, 0, none⟩)) ∧ s.fr 4 = some (.pointer (some ⟨h.next + 1, 0, none⟩)) ∧ s.fr 5 = some (.pointer (some ⟨h.next + 2, 0, none⟩)) ∧ s.h = hh.set (h.next + 1) (rdRow bb e odd)
set_option maxHeartbeats 2000000 in
theorem stParse_s {h : DHeap} {b : Value} {l : List Int} (hb : Arg fU8.rep h b l) (hlen : l.length ≤ 4294967296) :
    Ct Try.prog 10 [b] h fun r h1 => ∃ vc vr, r = .ret (.tuple #[stateV (parseR id l).slot vc vr, .int .i64 (parseE id l)]) ∧ Ext h h1 ∧ Sl fCell.rep (fun i => h.next ≤ i ∧ i < h1.next) h1 vc (parseR id l).cells ∧ Sl rRow (fun i => h.next ≤ i ∧ i < h1.next) h1 vr (parseR id l).rows := by
  refine go_10 (by simp) ?_
  obtain ⟨n0, a0, e0, x0⟩ : ∃ p q r, numA l 0 0 = (p, q, r) := ⟨_, _, _, rfl⟩
  obtain ⟨n1, a1, e1, x1⟩ : ∃ p q r, lenA l a0 e0 1048576 = (p, q, r) := ⟨_, _, _, rfl⟩
  obtain ⟨cs, a2, e2, odd, x2⟩ : ∃ p q r s, cellsA l n1.toNat a1 e1 false = (p, q, r, s) := ⟨_, _, _, _, rfl⟩
  obtain ⟨n3, a3, e3, x3⟩ : ∃ p q r, lenA l a2 e2 1048576 = (p, q, r) := ⟨_, _, _, rfl⟩
  obtain ⟨rs, a4, e4, x4⟩ : ∃ p q r, rowsA id l n3.toNat a3 e3 = (p, q, r) := ⟨_, _, _, rfl⟩
  have hS : parseS id l = ⟨n0, cs, rs⟩ := by simp only [parseS, x0, x1, x2, x3, x4]
  have hE : parseE id l = endE l a4 e4 odd ⟨n0, cs, rs⟩ := by simp only [parseE, x0, x1, x2, x3, x4]
  have hbc := hb.cells1
  obtain ⟨p1, p2, p3⟩ := next_numA l 0 0
  rw [x0, List.drop_zero] at p1 p2 p3
  simp only at p1 p2 p3
  obtain ⟨H, hH⟩ : ∃ H, H = (h.push (.row zeroState 0 false)).push (rdRow b 0 false) := ⟨_, rfl⟩
  have hHn : H.next = h.next + 2 := by rw [hH]; rfl
  have hHg : H.ng = h.ng := by rw [hH]; rfl
  have hHA : H.get h.next = some (.row zeroState 0 false) := by rw [hH]; exact get_p1
  have hHR : H.get (h.next + 1) = some (rdRow b 0 false) := by rw [hH]; exact get_push_same _ _
  have hHo : ∀ i, i < h.next → H.get i = h.get i := fun i hi => by rw [hH, get_push_other _ _ (by rw [next_push]; omega), get_push_other _ _ hi]
  have hbH : Sl fU8.rep (fun i => i < h.next + 1) H b l := hb.mono fun i hi => ⟨by omega, hHo i hi⟩
  have c1 := int_c (odd := false) (e := 0) hbH hHR (by omega) hlen
  rw [p1, p2] at c1
  have hb0 := next_sl (e := 0) hbH
  obtain ⟨b0, hb0'⟩ : ∃ b0, nextV b l 0 = b0 := ⟨_, rfl⟩
  rw [hb0'] at c1 hb0
  rw [p3] at hb0
  obtain ⟨K, hK⟩ : ∃ K, K = (H.set (h.next + 1) (rdRow b0 e0 false)).push (.row [.int .i64 n0, .slice none 0 0, .slice none 0 0] 0 false) := ⟨_, rfl⟩
  have S0 : ParSt h (rdRow b0 e0 false) [.int .i64 n0, .slice none 0 0, .slice none 0 0] K := by
    rw [hK]
    refine ⟨?_, ?_, ?_, fun j hj => ?_, ?_, ?_⟩
    · rw [get_push_other _ _ (by rw [next_set]; omega), get_set_other _ _ (by omega), hHA]
    · rw [get_push_other _ _ (by rw [next_set]; omega), get_set_same]
    · rw [get_push_at _ _ (by rw [next_set, hHn])]
    · rw [get_push_other _ _ (by rw [next_set]; omega), get_set_other _ _ (by omega), hHo j hj]
    · rw [next_push, next_set, hHn]; omega
    · rw [ng_push, ng_set, hHg]
  have hst3 : [Value.int .i64 n0, .slice none 0 0, .slice none 0 0].all Value.oneCell' = true := rfl
  -- the bytes lie below
  have hb0K : Sl fU8.rep (fun i => i < h.next + 1) K b0 (l.drop a0) := hb0.mono fun i hi => ⟨hi, by
    rw [hK, get_push_other _ _ (by rw [next_set]; omega), get_set_other _ _ (by omega)]⟩
  obtain ⟨q1, q2, q3⟩ := many_lenA l a0 e0 1048576
  rw [x1] at q1 q2 q3
  simp only at q1 q2 q3
  have c2 := many_c (most := 1048576) hb0K S0.rR (by have := S0.nx; omega) (by rw [List.length_drop]; omega)
  rw [q1, q2] at c2
  have hb1 := next_sl (e := e0) hb0K
  rw [q3] at hb1
  obtain ⟨b1, hb1'⟩ : ∃ b1, nextV b0 (l.drop a0) e0 = b1 := ⟨_, rfl⟩
  rw [hb1'] at c2 hb1
  have S1 := S0.num (o' := rdRow b1 e1 false)
  simp -implicitDefEqProofs (disch := first | omega | (simp -implicitDefEqProofs only [go_sem, List.size_toArray, List.length_cons, List.length_nil, Nat.reduceAdd]; done)) only [go_sem, Int.reduceLT, Int.reduceLE, Int.reduceEq, reduceIte, true_and, Nat.zero_add, Nat.add_zero, Option.map_some, c10, bd_rd hbc, next_push]
  rw [← hH]
  refine ncall c1 ?_
  simp -implicitDefEqProofs (disch := first | omega | (simp -implicitDefEqProofs only [go_sem, List.size_toArray, List.length_cons, List.length_nil, Nat.reduceAdd]; done)) only [go_sem, Int.reduceLT, Int.reduceLE, Int.reduceEq, reduceIte, true_and, Nat.zero_add, Nat.add_zero, Option.map_some, bd_state, store3_push hst3]
  rw [← hK]
  simp -implicitDefEqProofs (disch := first | omega | (simp -implicitDefEqProofs only [go_sem, List.size_toArray, List.length_cons, List.length_nil, Nat.reduceAdd]; done)) only [go_sem, Int.reduceLT, Int.reduceLE, Int.reduceEq, reduceIte, true_and, Nat.zero_add, Nat.add_zero, Option.map_some, next_set, hHn]
  refine ncall c2 ?_
  simp -implicitDefEqProofs (disch := first | omega | (simp -implicitDefEqProofs only [go_sem, List.size_toArray, List.length_cons, List.length_nil, Nat.reduceAdd]; done)) only [go_sem, Int.reduceLT, Int.reduceLE, Int.reduceEq, reduceIte, true_and, Nat.zero_add, Nat.add_zero, Option.map_some]
  have hok : ∀ x ∈ l, 0 ≤ x ∧ x ≤ 255 := fun x hx => inK_u8.1 (hb.ok x hx)
  have hn1 : 0 ≤ n1 ∧ n1 ≤ 1048576 := by have := lenA_in (l := l) (a := a0) (e := e0) (most := 1048576) (by decide); rw [x1] at this; exact this
  refine XLoop_cut (fun s => s.df = [] ∧ s.fr 2 = some (.pointer (some ⟨h.next, 0, none⟩)) ∧ s.fr 4 = some (.pointer (some ⟨h.next + 1, 0, none⟩)) ∧ s.fr 5 = some (.pointer (some ⟨h.next + 2, 0, none⟩)) ∧
    ∃ v w bb, ParSt h (rdRow bb e2 odd) [.int .i64 n0, v, .slice none 0 0] s.h ∧ Owns fCell.rep NoS s.h v cs w ∧ (∀ x, w = some x → h.next + 3 ≤ x) ∧ Sl fU8.rep (fun i => i < h.next + 1) s.h bb (l.drop a2)) ?_ ?_
  · refine xloop (σ := Nat) (by kernel_rfl) (fun k s => s.df = [] ∧ s.fr 2 = some (.pointer (some ⟨h.next, 0, none⟩)) ∧ s.fr 4 = some (.pointer (some ⟨h.next + 1, 0, none⟩)) ∧ s.fr 5 = some (.pointer (some ⟨h.next + 2, 0, none⟩)) ∧ s.fr 6 = some (.int .i64 (k : Nat)) ∧
      ∃ pre a e o v w bb, ParSt h (rdRow bb e o) [.int .i64 n0, v, .slice none 0 0] s.h ∧ Owns fCell.rep NoS s.h v pre w ∧ (∀ x, w = some x → h.next + 3 ≤ x) ∧ Sl fU8.rep (fun i => i < h.next + 1) s.h bb (l.drop a) ∧
        pre ++ (cellsA l k a e o).1 = cs ∧ (cellsA l k a e o).2 = (a2, e2, odd) ∧ pre.length + k ≤ 1048576) (fun k => k) n1.toNat ?_ ?_
    · simp -implicitDefEqProofs (disch := first | omega | (simp -implicitDefEqProofs only [go_sem, List.size_toArray, List.length_cons, List.length_nil, Nat.reduceAdd]; done)) only [go_sem, Int.reduceLT, Int.reduceLE, Int.reduceEq, reduceIte, true_and, Nat.zero_add, Nat.add_zero, Option.map_some]
      exact ⟨by rw [show ((n1.toNat : Nat) : Int) = n1 by omega], [], a1, e1, false, _, none, b1, S1, Owns.nil _ _ _, by simp, hb1.mono fun i hi => ⟨hi, get_set_other _ _ (by omega)⟩, by rw [x2]; rfl, by rw [x2], by simp; omega⟩
    · rintro k ⟨fr, df, hh, rd⟩ K' hK' hX ⟨rfl, f2, f4, f5, f6, pre, a, e, o, v, w, bb, S, ho, hw, hbb, g1, g2, g3⟩
      simp only at f2 f4 f5 f6 S ho hbb
      have C1 : cellAt hh (h.next + 1) 1 = some (.int .i64 e) := cellAt_row S.rR
      have hexit : (k = 0 ∨ e ≠ 0) → ∀ fr', fr' 2 = fr 2 → fr' 4 = fr 4 → fr' 5 = fr 5 → K' (.exit 0) ⟨fr', [], hh, rd⟩ := by
        intro hs fr' q2 q4 q5
        rw [cellsA_stop l k a o hs] at g1 g2
        simp only [List.append_nil, Prod.mk.injEq] at g1 g2
        obtain ⟨rfl, rfl, rfl⟩ := g2
        subst g1
        exact hX _ _ (by simp) ⟨rfl, q2.trans f2, q4.trans f4, q5.trans f5, v, w, bb, S, ho, hw, hbb⟩
      by_cases hk : (0 : Int) < (k : Int)
      case neg =>
        simp -implicitDefEqProofs (disch := first | omega | (simp -implicitDefEqProofs only [go_sem, List.size_toArray, List.length_cons, List.length_nil, Nat.reduceAdd]; done)) only [go_sem, Int.reduceLT, Int.reduceLE, Int.reduceEq, reduceIte, true_and, Nat.zero_add, Nat.add_zero, Option.map_some, f6, hk, dPick_f]
        exact hexit (.inl (by omega)) _ rfl rfl rfl
      by_cases he : e = 0
      case neg =>
        simp -implicitDefEqProofs (disch := first | omega | (simp -implicitDefEqProofs only [go_sem, List.size_toArray, List.length_cons, List.length_nil, Nat.reduceAdd]; done)) only [go_sem, Int.reduceLT, Int.reduceLE, Int.reduceEq, reduceIte, true_and, Nat.zero_add, Nat.add_zero, Option.map_some, f6, hk, f4, C1, he, dPick_t]
        exact hexit (.inr he) _ rfl rfl rfl
      subst he
      obtain ⟨k, rfl⟩ : ∃ m, k = m + 1 := ⟨k - 1, by omega⟩
      obtain ⟨b', hb', tc⟩ := stCell_at (odd := o) hbb S.rR (by have := S.nx; omega) hlen
      have hcok := cellA_ok hok a 0 o
      rw [cellsA, if_pos rfl] at g1 g2
      obtain ⟨c, a', e', o', hx⟩ : ∃ p q r s, cellA l a 0 o = (p, q, r, s) := ⟨_, _, _, _, rfl⟩
      rw [hx] at tc hb' g1 g2 hcok
      simp only at tc hb' g1 g2 hcok
      have S1' := S.num (o' := rdRow b' e' o')
      have ho1 : Owns fCell.rep NoS (hh.set (h.next + 1) (rdRow b' e' o')) v pre w := ho.mono (Nat.le_refl _) (fun x hxw => get_set_other _ _ (by have := hw x hxw; omega)) (fun i hi => hi.elim)
      obtain ⟨v', h2, e3, y1, y2, y3, o3⟩ := ho1.snoc (ts := #[23, 23]) (cs := fCell.enc c) (x := c) (z := 4) (fun i hi => hi.elim) ⟨rfl, hcok⟩ rfl (by decide) app_23 (by omega) (by decide)
      have hnx := S.nx
      have hnx1 : (hh.set (h.next + 1) (rdRow b' e' o')).next = hh.next := rfl
      have S2' := S1'.grow (h2 := h2) (by omega) y2 (fun i hi => y3 i (by omega) (fun hwi => by have := hw i hwi; omega))
      have S3' := S2'.fld (row' := [.int .i64 n0, v', .slice none 0 0])
      have C5 : cellAt hh (h.next + 2) 1 = some v := cellAt_row S.rS
      have hsl := o3.sl.isSlice
      have hcl : v'.cells = #[v'] := o3.sl.cells1
      have hone : [v'].all Value.oneCell' = true := by obtain ⟨_, _, rfl⟩ := hsl; rfl
      have hst : dStore Try.prog 23 (.pointer (some ⟨h.next + 2, 1, none⟩)) v' h2 = some (h2.set (h.next + 2) (.row [.int .i64 n0, v', .slice none 0 0] 0 false)) :=
        (st_23 hcl).trans (storeAt_row S2'.rS (Nat.le_of_ble_eq_true rfl) hone)
      have hw5 : IntKind.i64.wrap (((k + 1 : Nat) : Int) - 1) = (k : Int) := by rw [wrap_i64_in (by omega) (by omega)]; omega
      have hbs : ∀ K : DHeap, dBuildSlice Try.prog 23 1 [(0, cellV c)] K = some (.slice (some ⟨K.next, 0, none⟩) 1 1, K.push (.row (fCell.enc c) 4 false)) := fun K => bs1_23 rfl
      simp -implicitDefEqProofs (disch := first | omega | (simp -implicitDefEqProofs only [go_sem, List.size_toArray, List.length_cons, List.length_nil, Nat.reduceAdd]; done)) only [go_sem, Int.reduceLT, Int.reduceLE, Int.reduceEq, reduceIte, true_and, Nat.zero_add, Nat.add_zero, Option.map_some, f6, hk, f4, C1, dPick_t]
      refine dr_10_0 ?_
      simp -implicitDefEqProofs (disch := first | omega | (simp -implicitDefEqProofs only [go_sem, List.size_toArray, List.length_cons, List.length_nil, Nat.reduceAdd]; done)) only [go_sem, Int.reduceLT, Int.reduceLE, Int.reduceEq, reduceIte, true_and, Nat.zero_add, Nat.add_zero, Option.map_some, l10_0, f5, f4, C5]
      refine dcall tc ?_
      simp -implicitDefEqProofs (disch := first | omega | (simp -implicitDefEqProofs only [go_sem, List.size_toArray, List.length_cons, List.length_nil, Nat.reduceAdd]; done)) only [go_sem, Int.reduceLT, Int.reduceLE, Int.reduceEq, reduceIte, true_and, Nat.zero_add, Nat.add_zero, Option.map_some, hbs, e3, f5, hst]
      have D1 : ∀ K : DHeap, K.get (h.next + 2) = some (.row [.int .i64 n0, v, .slice none 0 0] 0 false) → dLoad Try.prog 23 (.pointer (some ⟨h.next + 2, 1, none⟩)) K = some v := fun K hk => ld_23.trans (cellAt_row hk)
      refine ⟨⟨XSt1_at (i := 1) (j := 3) rfl rfl rfl ?_, XSt1_at (i := 1) (j := 4) rfl rfl rfl ?_, trivial⟩, ?_⟩
      · rw [if_neg (by decide)]
        refine Ld_on (p := .pointer (some ⟨h.next + 2, 1, none⟩)) ?_ ?_ (D1 _ S1'.rS)
        · simp -implicitDefEqProofs (disch := first | omega | (simp -implicitDefEqProofs only [go_sem, List.size_toArray, List.length_cons, List.length_nil, Nat.reduceAdd]; done)) only [go_sem, Int.reduceLT, Int.reduceLE, Int.reduceEq, reduceIte, true_and, Nat.zero_add, Nat.add_zero, Option.map_some]
        · simp -implicitDefEqProofs (disch := first | omega | (simp -implicitDefEqProofs only [go_sem, List.size_toArray, List.length_cons, List.length_nil, Nat.reduceAdd]; done)) only [go_sem, Int.reduceLT, Int.reduceLE, Int.reduceEq, reduceIte, true_and, Nat.zero_add, Nat.add_zero, Option.map_some]
      · rw [if_neg (by decide)]
        refine Ld_on (p := .pointer (some ⟨h.next + 2, 1, none⟩)) ?_ ?_ (D1 _ ((get_push_other _ _ (by omega)).trans S1'.rS))
        · simp -implicitDefEqProofs (disch := first | omega | (simp -implicitDefEqProofs only [go_sem, List.size_toArray, List.length_cons, List.length_nil, Nat.reduceAdd]; done)) only [go_sem, Int.reduceLT, Int.reduceLE, Int.reduceEq, reduceIte, true_and, Nat.zero_add, Nat.add_zero, Option.map_some]
        · simp -implicitDefEqProofs (disch := first | omega | (simp -implicitDefEqProofs only [go_sem, List.size_toArray, List.length_cons, List.length_nil, Nat.reduceAdd]; done)) only [go_sem, Int.reduceLT, Int.reduceLE, Int.reduceEq, reduceIte, true_and, Nat.zero_add, Nat.add_zero, Option.map_some]
      simp -implicitDefEqProofs (disch := first | omega | (simp -implicitDefEqProofs only [go_sem, List.size_toArray, List.length_cons, List.length_nil, Nat.reduceAdd]; done)) only [go_sem, Int.reduceLT, Int.reduceLE, Int.reduceEq, reduceIte, true_and, Nat.zero_add, Nat.add_zero, Option.map_some, f6, hw5]
      refine hK' k _ ?_ (by omega)
      refine ⟨by trivial, by simp -implicitDefEqProofs (disch := first | omega | (simp -implicitDefEqProofs only [go_sem, List.size_toArray, List.length_cons, List.length_nil, Nat.reduceAdd]; done)) only [go_sem, Int.reduceLT, Int.reduceLE, Int.reduceEq, reduceIte, true_and, Nat.zero_add, Nat.add_zero, Option.map_some, f2], by simp -implicitDefEqProofs (disch := first | omega | (simp -implicitDefEqProofs only [go_sem, List.size_toArray, List.length_cons, List.length_nil, Nat.reduceAdd]; done)) only [go_sem, Int.reduceLT, Int.reduceLE, Int.reduceEq, reduceIte, true_and, Nat.zero_add, Nat.add_zero, Option.map_some, f4], by simp -implicitDefEqProofs (disch := first | omega | (simp -implicitDefEqProofs only [go_sem, List.size_toArray, List.length_cons, List.length_nil, Nat.reduceAdd]; done)) only [go_sem, Int.reduceLT, Int.reduceLE, Int.reduceEq, reduceIte, true_and, Nat.zero_add, Nat.add_zero, Option.map_some, f5], by simp -implicitDefEqProofs (disch := first | omega | (simp -implicitDefEqProofs only [go_sem, List.size_toArray, List.length_cons, List.length_nil, Nat.reduceAdd]; done)) only [go_sem, Int.reduceLT, Int.reduceLE, Int.reduceEq, reduceIte, true_and, Nat.zero_add, Nat.add_zero, Option.map_some], pre ++ [c], a', e', o', v', _, b', S3', o3.mono (Nat.le_refl _) (fun x hxw => get_set_other _ _ (by cases hxw; omega)) (fun i hi => hi.elim), ?_, ?_, by rw [List.append_assoc]; exact g1, g2, by simp; omega⟩
      · intro x hxw; cases hxw; omega
      · refine hb'.mono fun i hi => ⟨hi, ?_⟩
        rw [get_set_other _ _ (by omega), y3 i (by omega) (fun hwi => by have := hw i hwi; omega), get_set_other _ _ (by omega)]
  · rintro ⟨fr, df, hh, rd⟩ ⟨rfl, f2, f4, f5, v, w, bb, S, ho, hw, hbb⟩
    simp only at f2 f4 f5 S ho hbb
    have hnx := S.nx
    have hbl : (l.drop a2).length ≤ 4294967296 := by rw [List.length_drop]; omega
    obtain ⟨q1, q2, q3⟩ := many_lenA l a2 e2 1048576
    rw [x3] at q1 q2 q3
    simp only at q1 q2 q3
    have c2 := many_c (most := 1048576) hbb S.rR (by omega) hbl
    rw [q1, q2] at c2
    have hb3 := next_sl (e := e2) hbb
    rw [q3] at hb3
    obtain ⟨b3, hb3'⟩ : ∃ b3, nextV bb (l.drop a2) e2 = b3 := ⟨_, rfl⟩
    rw [hb3'] at c2 hb3
    have S3 := S.num (o' := rdRow b3 e3 odd)
    have hn3 : 0 ≤ n3 ∧ n3 ≤ 1048576 := by have := lenA_in (l := l) (a := a2) (e := e2) (most := 1048576) (by decide); rw [x3] at this; exact this
    have hwl := ho.lt
    have hcs : Sl fCell.rep (fun i => h.next + 3 ≤ i ∧ i < hh.next) (hh.set (h.next + 1) (rdRow b3 e3 odd)) v cs := ho.sl.mono fun i hi => by
      rcases hi with hi | hi
      · exact hi.elim
      · exact ⟨⟨hw i hi, hwl i hi⟩, get_set_other _ _ (by have := hw i hi; omega)⟩
    obtain ⟨B0, hB0⟩ : ∃ B0, hh.next = B0 := ⟨_, rfl⟩
    rw [hB0] at hcs hnx
    simp -implicitDefEqProofs (disch := first | omega | (simp -implicitDefEqProofs only [go_sem, List.size_toArray, List.length_cons, List.length_nil, Nat.reduceAdd]; done)) only [go_sem, Int.reduceLT, Int.reduceLE, Int.reduceEq, reduceIte, true_and, Nat.zero_add, Nat.add_zero, Option.map_some, f4]
    refine ncall c2 ?_
    simp -implicitDefEqProofs (disch := first | omega | (simp -implicitDefEqProofs only [go_sem, List.size_toArray, List.length_cons, List.length_nil, Nat.reduceAdd]; done)) only [go_sem, Int.reduceLT, Int.reduceLE, Int.reduceEq, reduceIte, true_and, Nat.zero_add, Nat.add_zero, Option.map_some]
    refine XLoop_cut (fun s => s.df = [] ∧ s.fr 2 = some (.pointer (some ⟨h.next, 0, none⟩)) ∧ s.fr 4 = some (.pointer (some ⟨h.next + 1, 0, none⟩)) ∧ s.fr 5 = some (.pointer (some ⟨h.next + 2, 0, none⟩)) ∧
      ∃ vr bb, ParSt h (rdRow bb e4 odd) [.int .i64 n0, v, vr] s.h ∧ Sl fCell.rep (fun i => h.next + 3 ≤ i ∧ i < s.h.next) s.h v cs ∧ Sl rRow (fun i => h.next + 3 ≤ i ∧ i < s.h.next) s.h vr rs ∧ Sl fU8.rep (fun i => i < h.next + 1) s.h bb (l.drop a4)) ?_ ?_
    · refine xloop (σ := Nat) (by kernel_rfl) (fun k s => s.df = [] ∧ s.fr 2 = some (.pointer (some ⟨h.next, 0, none⟩)) ∧ s.fr 4 = some (.pointer (some ⟨h.next + 1, 0, none⟩)) ∧ s.fr 5 = some (.pointer (some ⟨h.next + 2, 0, none⟩)) ∧ s.fr 7 = some (.int .i64 (k : Nat)) ∧
        ∃ pre a e vr w bb S, ParSt h (rdRow bb e odd) [.int .i64 n0, v, vr] s.h ∧ Owns rRow S s.h vr pre w ∧ (∀ i, S i → B0 ≤ i ∧ i < s.h.next ∧ w ≠ some i) ∧ (∀ x, w = some x → B0 ≤ x) ∧ B0 ≤ s.h.next ∧ Sl fU8.rep (fun i => i < h.next + 1) s.h bb (l.drop a) ∧
          Sl fCell.rep (fun i => h.next + 3 ≤ i ∧ i < B0) s.h v cs ∧ pre ++ (rowsA id l k a e).1 = rs ∧ (rowsA id l k a e).2 = (a4, e4) ∧ pre.length + k ≤ 1048576) (fun k => k) n3.toNat ?_ ?_
      · simp -implicitDefEqProofs (disch := first | omega | (simp -implicitDefEqProofs only [go_sem, List.size_toArray, List.length_cons, List.length_nil, Nat.reduceAdd]; done)) only [go_sem, Int.reduceLT, Int.reduceLE, Int.reduceEq, reduceIte, true_and, Nat.zero_add, Nat.add_zero, Option.map_some, f2, f4, f5]
        exact ⟨by rw [show ((n3.toNat : Nat) : Int) = n3 by omega], [], a3, e3, _, none, b3, NoS, S3, Owns.nil _ _ _, fun i hi => hi.elim, by simp, by rw [next_set]; omega, hb3.mono fun i hi => ⟨hi, get_set_other _ _ (by omega)⟩, hcs, by rw [x4]; rfl, by rw [x4], by simp; omega⟩
      · rintro k ⟨fr, df, hh, rd⟩ K' hK' hX ⟨rfl, f2, f4, f5, f7, pre, a, e, vr, w, bb, Sx, S, ho, hSx, hw, hB, hbb, hcs, g1, g2, g3⟩
        simp only at f2 f4 f5 f7 S ho hbb hSx hB hcs
        have C1 : cellAt hh (h.next + 1) 1 = some (.int .i64 e) := cellAt_row S.rR
        have hwl := ho.lt
        have hexit : (k = 0 ∨ e ≠ 0) → ∀ fr', fr' 2 = fr 2 → fr' 4 = fr 4 → fr' 5 = fr 5 → K' (.exit 2) ⟨fr', [], hh, rd⟩ := by
          intro hs fr' q2 q4 q5
          rw [rowsA_stop id l k a hs] at g1 g2
          simp only [List.append_nil, Prod.mk.injEq] at g1 g2
          obtain ⟨rfl, rfl⟩ := g2
          subst g1
          exact hX _ _ (by simp) ⟨rfl, q2.trans f2, q4.trans f4, q5.trans f5, vr, bb, S, hcs.mono fun i hi => ⟨⟨hi.1, Nat.lt_of_lt_of_le hi.2 hB⟩, rfl⟩, ho.sl.mono (fun i hi => by
            rcases hi with hi | hi
            · exact ⟨⟨by have := (hSx i hi).1; omega, (hSx i hi).2.1⟩, rfl⟩
            · exact ⟨⟨by have := hw i hi; omega, hwl i hi⟩, rfl⟩), hbb⟩
        by_cases hk : (0 : Int) < (k : Int)
        case neg =>
          simp -implicitDefEqProofs (disch := first | omega | (simp -implicitDefEqProofs only [go_sem, List.size_toArray, List.length_cons, List.length_nil, Nat.reduceAdd]; done)) only [go_sem, Int.reduceLT, Int.reduceLE, Int.reduceEq, reduceIte, true_and, Nat.zero_add, Nat.add_zero, Option.map_some, f7, hk, dPick_f]
          exact hexit (.inl (by omega)) _ rfl rfl rfl
        by_cases he : e = 0
        case neg =>
          simp -implicitDefEqProofs (disch := first | omega | (simp -implicitDefEqProofs only [go_sem, List.size_toArray, List.length_cons, List.length_nil, Nat.reduceAdd]; done)) only [go_sem, Int.reduceLT, Int.reduceLE, Int.reduceEq, reduceIte, true_and, Nat.zero_add, Nat.add_zero, Option.map_some, f7, hk, f4, C1, he, dPick_t]
          exact hexit (.inr he) _ rfl rfl rfl
        subst he
        obtain ⟨k, rfl⟩ : ∃ m, k = m + 1 := ⟨k - 1, by omega⟩
        obtain ⟨b', hb', tc⟩ := stRow_at hbb S.rR (by omega) hlen
        have hrok := rowA_ok (f := id) (fun _ h => h) hok a 0
        have hvin : ∀ x ∈ (rowA id l a 0).1.x.vs, fI64.ok x := by
          intro x hx
          unfold rowA at hx
          exact valsA_in hok _ _ _ x hx
        rw [rowsA, if_pos rfl] at g1 g2
        obtain ⟨c, a', e', hx⟩ : ∃ p q r, rowA id l a 0 = (p, q, r) := ⟨_, _, _, rfl⟩
        rw [hx] at tc hb' g1 g2 hrok hvin
        simp only at tc hb' g1 g2 hrok hvin
        have S1' := S.num (o' := rdRow b' e' odd)
        obtain ⟨h1, hh1⟩ : ∃ h1, h1 = hh.set (h.next + 1) (rdRow b' e' odd) := ⟨_, rfl⟩
        obtain ⟨hL, hhL⟩ : ∃ hL, hL = lh fI64 h1 c.x.vs := ⟨_, rfl⟩
        have hmade := lh_made fI64 h1 hvin
        rw [← hhL] at hmade
        have hn1' : h1.next = hh.next := by rw [hh1]; rfl
        have hlv : lv h1 c.x.vs = lv hh c.x.vs := by unfold lv mkS; rw [hn1']
        have hE := hmade.ext
        have hEn := hE.next
        have gL : ∀ i, i < hh.next → i ≠ h.next + 1 → hL.get i = hh.get i := fun i hi hne => by rw [hE.get i (by omega), hh1, get_set_other _ _ hne]
        rw [← hh1, ← hhL] at tc
        have SL : ParSt h (rdRow b' e' odd) [.int .i64 n0, v, vr] hL := by
          rw [← hh1] at S1'
          exact S1'.grow hEn hE.ng (fun i hi => hE.get i (by omega))
        have hsl := hmade.sl
        rw [hlv] at hsl
        have ho1 : Owns rRow (fun i => Sx i ∨ (hh.next ≤ i ∧ i < hL.next)) hL vr pre w := ho.mono (by omega) (fun x hxw => gL x (hwl x hxw) (by have := hw x hxw; omega)) (fun i hi => ⟨.inl hi, gL i (hSx i hi).2.1 (by have := (hSx i hi).1; omega)⟩)
        have hrd : rRow.rd (fun i => Sx i ∨ (hh.next ≤ i ∧ i < hL.next)) hL [.int .i64 c.ses, .int .i64 c.req, .int .i64 c.x.e, lv hh c.x.vs, .int .i64 c.x.s, .int .i64 c.x.p] c := rd_row (hsl.mono fun i hi => ⟨.inr (by omega), rfl⟩) hrok
        obtain ⟨v', h2, e3, y1, y2, y3, o3⟩ := ho1.snoc (ts := #[24, 24]) (x := c) (z := 6) (fun i hi => by
          rcases hi with hi | hi
          · exact ⟨by have := (hSx i hi).2.1; omega, (hSx i hi).2.2⟩
          · exact ⟨hi.2, fun hwi => by have := hwl i hwi; omega⟩) hrd rfl (by decide) app_24 (by omega) (by decide)
        have S2' := SL.grow (h2 := h2) (by omega) y2 (fun i hi => y3 i (by omega) (fun hwi => by have := hw i hwi; omega))
        have S3' := S2'.fld (row' := [.int .i64 n0, v, v'])
        have C5 : cellAt hh (h.next + 2) 2 = some vr := cellAt_row S.rS
        have hsl2 := o3.sl.isSlice
        have hcl : v'.cells = #[v'] := o3.sl.cells1
        have hcv : v.cells = #[v] := hcs.cells1
        have hone : [v'].all Value.oneCell' = true := by obtain ⟨_, _, rfl⟩ := hsl2; rfl
        have hst : dStore Try.prog 24 (.pointer (some ⟨h.next + 2, 2, none⟩)) v' h2 = some (h2.set (h.next + 2) (.row [.int .i64 n0, v, v'] 0 false)) :=
          (st_24 hcl).trans (storeAt_row S2'.rS (Nat.le_of_ble_eq_true rfl) hone)
        have hw5 : IntKind.i64.wrap (((k + 1 : Nat) : Int) - 1) = (k : Int) := by rw [wrap_i64_in (by omega) (by omega)]; omega
        have hbs : ∀ K : DHeap, dBuildSlice Try.prog 24 1 [(0, rowV c (lv hh c.x.vs))] K = some (.slice (some ⟨K.next, 0, none⟩) 1 1, K.push (.row [.int .i64 c.ses, .int .i64 c.req, .int .i64 c.x.e, lv hh c.x.vs, .int .i64 c.x.s, .int .i64 c.x.p] 6 false)) := fun K => bs1_24 rfl
        simp -implicitDefEqProofs (disch := first | omega | (simp -implicitDefEqProofs only [go_sem, List.size_toArray, List.length_cons, List.length_nil, Nat.reduceAdd]; done)) only [go_sem, Int.reduceLT, Int.reduceLE, Int.reduceEq, reduceIte, true_and, Nat.zero_add, Nat.add_zero, Option.map_some, f7, hk, f4, C1, dPick_t]
        refine dr_10_1 ?_
        simp -implicitDefEqProofs (disch := first | omega | (simp -implicitDefEqProofs only [go_sem, List.size_toArray, List.length_cons, List.length_nil, Nat.reduceAdd]; done)) only [go_sem, Int.reduceLT, Int.reduceLE, Int.reduceEq, reduceIte, true_and, Nat.zero_add, Nat.add_zero, Option.map_some, l10_1, f5, f4, C5]
        refine dcall tc ?_
        simp -implicitDefEqProofs (disch := first | omega | (simp -implicitDefEqProofs only [go_sem, List.size_toArray, List.length_cons, List.length_nil, Nat.reduceAdd]; done)) only [go_sem, Int.reduceLT, Int.reduceLE, Int.reduceEq, reduceIte, true_and, Nat.zero_add, Nat.add_zero, Option.map_some, hbs, e3, f5, hst]
        have D1 : ∀ K : DHeap, K.get (h.next + 2) = some (.row [.int .i64 n0, v, vr] 0 false) → dLoad Try.prog 24 (.pointer (some ⟨h.next + 2, 2, none⟩)) K = some vr := fun K hk => ld_24.trans (cellAt_row hk)
        refine ⟨⟨XSt1_at (i := 1) (j := 3) rfl rfl rfl ?_, XSt1_at (i := 1) (j := 4) rfl rfl rfl ?_, trivial⟩, ?_⟩
        · rw [if_neg (by decide)]
          refine Ld_on (p := .pointer (some ⟨h.next + 2, 2, none⟩)) ?_ ?_ (D1 _ SL.rS)
          · simp -implicitDefEqProofs (disch := first | omega | (simp -implicitDefEqProofs only [go_sem, List.size_toArray, List.length_cons, List.length_nil, Nat.reduceAdd]; done)) only [go_sem, Int.reduceLT, Int.reduceLE, Int.reduceEq, reduceIte, true_and, Nat.zero_add, Nat.add_zero, Option.map_some]
          · simp -implicitDefEqProofs (disch := first | omega | (simp -implicitDefEqProofs only [go_sem, List.size_toArray, List.length_cons, List.length_nil, Nat.reduceAdd]; done)) only [go_sem, Int.reduceLT, Int.reduceLE, Int.reduceEq, reduceIte, true_and, Nat.zero_add, Nat.add_zero, Option.map_some]
        · rw [if_neg (by decide)]
          refine Ld_on (p := .pointer (some ⟨h.next + 2, 2, none⟩)) ?_ ?_ (D1 _ ((get_push_other _ _ (by omega)).trans SL.rS))
          · simp -implicitDefEqProofs (disch := first | omega | (simp -implicitDefEqProofs only [go_sem, List.size_toArray, List.length_cons, List.length_nil, Nat.reduceAdd]; done)) only [go_sem, Int.reduceLT, Int.reduceLE, Int.reduceEq, reduceIte, true_and, Nat.zero_add, Nat.add_zero, Option.map_some]
          · simp -implicitDefEqProofs (disch := first | omega | (simp -implicitDefEqProofs only [go_sem, List.size_toArray, List.length_cons, List.length_nil, Nat.reduceAdd]; done)) only [go_sem, Int.reduceLT, Int.reduceLE, Int.reduceEq, reduceIte, true_and, Nat.zero_add, Nat.add_zero, Option.map_some]
        simp -implicitDefEqProofs (disch := first | omega | (simp -implicitDefEqProofs only [go_sem, List.size_toArray, List.length_cons, List.length_nil, Nat.reduceAdd]; done)) only [go_sem, Int.reduceLT, Int.reduceLE, Int.reduceEq, reduceIte, true_and, Nat.zero_add, Nat.add_zero, Option.map_some, f7, hw5]
        refine hK' k _ ?_ (by omega)
        refine ⟨by trivial, by simp -implicitDefEqProofs (disch := first | omega | (simp -implicitDefEqProofs only [go_sem, List.size_toArray, List.length_cons, List.length_nil, Nat.reduceAdd]; done)) only [go_sem, Int.reduceLT, Int.reduceLE, Int.reduceEq, reduceIte, true_and, Nat.zero_add, Nat.add_zero, Option.map_some, f2], by simp -implicitDefEqProofs (disch := first | omega | (simp -implicitDefEqProofs only [go_sem, List.size_toArray, List.length_cons, List.length_nil, Nat.reduceAdd]; done)) only [go_sem, Int.reduceLT, Int.reduceLE, Int.reduceEq, reduceIte, true_and, Nat.zero_add, Nat.add_zero, Option.map_some, f4], by simp -implicitDefEqProofs (disch := first | omega | (simp -implicitDefEqProofs only [go_sem, List.size_toArray, List.length_cons, List.length_nil, Nat.reduceAdd]; done)) only [go_sem, Int.reduceLT, Int.reduceLE, Int.reduceEq, reduceIte, true_and, Nat.zero_add, Nat.add_zero, Option.map_some, f5], by simp -implicitDefEqProofs (disch := first | omega | (simp -implicitDefEqProofs only [go_sem, List.size_toArray, List.length_cons, List.length_nil, Nat.reduceAdd]; done)) only [go_sem, Int.reduceLT, Int.reduceLE, Int.reduceEq, reduceIte, true_and, Nat.zero_add, Nat.add_zero, Option.map_some], pre ++ [c], a', e', v', _, b', _, S3', o3.mono (Nat.le_refl _) (fun x hxw => get_set_other _ _ (by cases hxw; omega)) (fun i hi => ⟨hi, get_set_other _ _ ?_⟩), ?_, ?_, by rw [next_set]; omega, ?_, ?_, by rw [List.append_assoc]; exact g1, g2, by simp; omega⟩
        · rcases hi with hi | hi
          · have := (hSx i hi).1; omega
          · omega
        · intro i hi
          rw [next_set]
          rcases hi with hi | hi
          · have := hSx i hi
            exact ⟨this.1, by omega, fun hh0 => by cases hh0; omega⟩
          · exact ⟨by omega, by omega, fun hh0 => by cases hh0; omega⟩
        · intro x hxw; cases hxw; omega
        · refine hb'.mono fun i hi => ⟨hi, ?_⟩
          rw [get_set_other _ _ (by omega), y3 i (by omega) (fun hwi => by have := hw i hwi; omega), gL i (by omega) (by omega)]
        · refine hcs.mono fun i hi => ⟨hi, ?_⟩
          rw [get_set_other _ _ (by omega), y3 i (by omega) (fun hwi => by have := hw i hwi; omega), gL i (by omega) (by omega)]
    · rintro ⟨fr, df, hh, rd⟩ ⟨rfl, f2, f4, f5, vr, bb, S, hcs, hrs, hbb⟩
      simp only at f2 f4 f5 S hcs hrs hbb
      have el := hbb.lens (P := Try.prog) (ts := #[22]) (t := 22) rfl isl_22
      have hR1 : h.next + 1 < hh.next := by have := S.nx; omega
      have C0 : cellAt hh (h.next + 1) 0 = some bb := cellAt_row S.rR
      have C1 : cellAt hh (h.next + 1) 1 = some (.int .i64 e4) := cellAt_row S.rR
      have hdl : (l.drop a4).length = l.length - a4 := List.length_drop ..
      have hst : ∀ e x, storeAt (hh.set (h.next + 1) (rdRow bb e odd)) (h.next + 1) 1 [.int .i64 x] = some (hh.set (h.next + 1) (rdRow bb x odd)) := fun e x => (storeAt_row (get_set_same _ _) (Nat.le_of_ble_eq_true rfl) rfl).trans (by rw [set_set]; rfl)
      have hst0 : ∀ x, storeAt hh (h.next + 1) 1 [.int .i64 x] = some (hh.set (h.next + 1) (rdRow bb x odd)) := fun x => storeAt_row S.rR (Nat.le_of_ble_eq_true rfl) rfl
      have hself : hh = hh.set (h.next + 1) (rdRow bb e4 odd) := (set_self S.rR).symm
      have D1 : ∀ e, cellAt (hh.set (h.next + 1) (rdRow bb e odd)) (h.next + 1) 1 = some (.int .i64 e) := fun e => cellAt_row (get_set_same _ _)
      have D2 : ∀ e, cellAt (hh.set (h.next + 1) (rdRow bb e odd)) (h.next + 1) 2 = some (.bool odd) := fun e => cellAt_row (get_set_same _ _)
      -- bytes are left
      refine xs_cut (ParM h hh bb odd (if e4 = 0 ∧ a4 < l.length then 13 else e4)) ?_ ?_
      · by_cases h0 : e4 = 0
        case neg =>
          rw [if_neg (fun hh => h0 hh.1)]
          simp -implicitDefEqProofs (disch := first | omega | (simp -implicitDefEqProofs only [go_sem, List.size_toArray, List.length_cons, List.length_nil, Nat.reduceAdd]; done)) only [go_sem, Int.reduceLT, Int.reduceLE, Int.reduceEq, reduceIte, true_and, Nat.zero_add, Nat.add_zero, Option.map_some, f4, C0, C1, h0, dPick_f]
          exact ⟨rfl, f2, f4, f5, hself⟩
        by_cases h1 : a4 < l.length
        · rw [if_pos ⟨h0, h1⟩]
          have hp : (0 : Int) < ((l.drop a4).length : Int) := by omega
          simp -implicitDefEqProofs (disch := first | omega | (simp -implicitDefEqProofs only [go_sem, List.size_toArray, List.length_cons, List.length_nil, Nat.reduceAdd]; done)) only [go_sem, Int.reduceLT, Int.reduceLE, Int.reduceEq, reduceIte, true_and, Nat.zero_add, Nat.add_zero, Option.map_some, f4, C0, C1, h0, el, gt_iff_lt, hp, dPick_t, hst0]
          exact ⟨rfl, f2, f4, f5, rfl⟩
        · rw [if_neg (fun hh => h1 hh.2)]
          have hp : ¬ (0 : Int) < ((l.drop a4).length : Int) := by omega
          simp -implicitDefEqProofs (disch := first | omega | (simp -implicitDefEqProofs only [go_sem, List.size_toArray, List.length_cons, List.length_nil, Nat.reduceAdd]; done)) only [go_sem, Int.reduceLT, Int.reduceLE, Int.reduceEq, reduceIte, true_and, Nat.zero_add, Nat.add_zero, Option.map_some, f4, C0, C1, h0, el, gt_iff_lt, hp, dPick_t]
          exact ⟨rfl, f2, f4, f5, by rw [← h0]; exact hself⟩
      obtain ⟨eA, hA⟩ : ∃ x, (if e4 = 0 ∧ a4 < l.length then 13 else e4) = x := ⟨_, rfl⟩
      rw [hA]
      rintro ⟨fr, df, h', rd⟩ ⟨rfl, f2, f4, f5, rfl⟩
      simp only at f2 f4 f5
      -- something can't be so
      refine xs_cut (ParM h hh bb odd (if eA = 0 ∧ odd = true then 220 else eA)) ?_ ?_
      · by_cases h0 : eA = 0
        case neg =>
          rw [if_neg (fun hh => h0 hh.1)]
          simp -implicitDefEqProofs (disch := first | omega | (simp -implicitDefEqProofs only [go_sem, List.size_toArray, List.length_cons, List.length_nil, Nat.reduceAdd]; done)) only [go_sem, Int.reduceLT, Int.reduceLE, Int.reduceEq, reduceIte, true_and, Nat.zero_add, Nat.add_zero, Option.map_some, f4, D1, h0, dPick_f]
          exact ⟨rfl, f2, f4, f5, rfl⟩
        cases hodd : odd with
        | true =>
          rw [hodd] at D1 D2 hst
          rw [if_pos ⟨h0, rfl⟩]
          simp -implicitDefEqProofs (disch := first | omega | (simp -implicitDefEqProofs only [go_sem, List.size_toArray, List.length_cons, List.length_nil, Nat.reduceAdd]; done)) only [go_sem, Int.reduceLT, Int.reduceLE, Int.reduceEq, reduceIte, true_and, Nat.zero_add, Nat.add_zero, Option.map_some, f4, D1, D2, h0, dPick_t, hst]
          exact ⟨rfl, f2, f4, f5, rfl⟩
        | false =>
          rw [hodd] at D1 D2 hst
          rw [if_neg (fun hh => by cases hh.2)]
          simp -implicitDefEqProofs (disch := first | omega | (simp -implicitDefEqProofs only [go_sem, List.size_toArray, List.length_cons, List.length_nil, Nat.reduceAdd]; done)) only [go_sem, Int.reduceLT, Int.reduceLE, Int.reduceEq, reduceIte, true_and, Nat.zero_add, Nat.add_zero, Option.map_some, f4, D1, D2, h0, dPick_t]
          exact ⟨rfl, f2, f4, f5, by subst h0; rfl⟩
      obtain ⟨eB, hB⟩ : ∃ x, (if eA = 0 ∧ odd = true then 220 else eA) = x := ⟨_, rfl⟩
      rw [hB]
      rintro ⟨fr, df, h', rd⟩ ⟨rfl, f2, f4, f5, rfl⟩
      simp only at f2 f4 f5
      have hcs' : Sl fCell.rep (fun i => h.next + 3 ≤ i ∧ i < hh.next) (hh.set (h.next + 1) (rdRow bb eB odd)) v cs := hcs.mono fun i hi => ⟨hi, get_set_other _ _ (by omega)⟩
      have hrs' : Sl rRow (fun i => h.next + 3 ≤ i ∧ i < hh.next) (hh.set (h.next + 1) (rdRow bb eB odd)) vr rs := hrs.mono fun i hi => ⟨hi, get_set_other _ _ (by omega)⟩
      have L26 : ∀ e, cellsAt (hh.set (h.next + 1) (rdRow bb e odd)) (h.next + 2) 0 3 = some (stateV n0 v vr) := fun e => by
        rw [cellsAt_row ((S.num (o' := rdRow bb e odd)).rS) (Nat.le_of_ble_eq_true rfl)]; rfl
      -- is it so?
      refine xs_cut (ParM h hh bb odd (if eB = 0 then checkE ⟨n0, cs, rs⟩ else eB)) ?_ ?_
      · by_cases h0 : eB = 0
        case neg =>
          rw [if_neg h0]
          simp -implicitDefEqProofs (disch := first | omega | (simp -implicitDefEqProofs only [go_sem, List.size_toArray, List.length_cons, List.length_nil, Nat.reduceAdd]; done)) only [go_sem, Int.reduceLT, Int.reduceLE, Int.reduceEq, reduceIte, true_and, Nat.zero_add, Nat.add_zero, Option.map_some, f4, D1, h0]
          exact ⟨rfl, f2, f4, f5, rfl⟩
        rw [if_pos h0]
        have hck := check_c (n := n0) (h := hh.set (h.next + 1) (rdRow bb eB odd)) (cv := v) (rv := vr) (cells := cs) (rows := rs) ?_ (hcs'.mono fun i hi => ⟨hi.2, rfl⟩) (hrs'.mono fun i hi => ⟨hi.2, rfl⟩) ?_ ?_
        · simp -implicitDefEqProofs (disch := first | omega | (simp -implicitDefEqProofs only [go_sem, List.size_toArray, List.length_cons, List.length_nil, Nat.reduceAdd]; done)) only [go_sem, Int.reduceLT, Int.reduceLE, Int.reduceEq, reduceIte, true_and, Nat.zero_add, Nat.add_zero, Option.map_some, f4, f5, D1, h0, L26]
          refine ncall (by rw [← h0]; exact hck) ?_
          simp -implicitDefEqProofs (disch := first | omega | (simp -implicitDefEqProofs only [go_sem, List.size_toArray, List.length_cons, List.length_nil, Nat.reduceAdd]; done)) only [go_sem, Int.reduceLT, Int.reduceLE, Int.reduceEq, reduceIte, true_and, Nat.zero_add, Nat.add_zero, Option.map_some, f4, hst]
          exact ⟨rfl, f2, f4, f5, rfl⟩
        · have := numA_in hok 0 0; rw [x0] at this; exact this
        · have := cellsA_len l n1.toNat a1 e1 false; rw [x2] at this; simp only at this; omega
        · have := rowsA_len id l n3.toNat a3 e3; rw [x4] at this; simp only at this; omega
      have hC : (if eB = 0 then checkE ⟨n0, cs, rs⟩ else eB) = parseE id l := by
        rw [hE, ← hB, ← hA]
        unfold endE checkE
        by_cases h0 : e4 = 0
        · by_cases h1 : a4 < l.length
          · simp [h0, h1]
          · cases odd with
            | true => simp [h0, h1]
            | false => cases hm : mayB ⟨n0, cs, rs⟩ <;> simp [h0, h1]
        · simp [h0]
      rw [hC]
      obtain ⟨E, hEE⟩ : ∃ x, parseE id l = x := ⟨_, rfl⟩
      rw [hEE]
      rintro ⟨fr, df, h', rd⟩ ⟨rfl, f2, f4, f5, rfl⟩
      simp only at f2 f4 f5
      have ST := S.num (o' := rdRow bb E odd)
      have hone : [Value.int .i64 n0, v, vr].all Value.oneCell' = true := by
        obtain ⟨_, _, rfl⟩ := hcs.isSlice
        obtain ⟨_, _, rfl⟩ := hrs.isSlice
        rfl
      have hX : ∀ o, Ext h ((hh.set (h.next + 1) (rdRow bb E odd)).set h.next o) := fun o => ⟨by rw [next_set, next_set]; have := S.nx; omega, ST.ng, fun i hi => (get_set_other _ _ (by omega)).trans (ST.old i hi)⟩
      by_cases h0 : E = 0
      · subst h0
        have s1 : storeAt (hh.set (h.next + 1) (rdRow bb 0 odd)) h.next 0 [.int .i64 n0, v, vr] = some ((hh.set (h.next + 1) (rdRow bb 0 odd)).set h.next (.row [.int .i64 n0, v, vr] 0 false)) := storeAll ST.rA rfl hone
        have hR : parseR id l = ⟨n0, cs, rs⟩ := by unfold parseR; rw [hEE, if_pos rfl, hS]
        have hld : cellsAt ((hh.set (h.next + 1) (rdRow bb 0 odd)).set h.next (.row [.int .i64 n0, v, vr] 0 false)) h.next 0 3 = some (stateV n0 v vr) := by
          rw [cellsAt_row (get_set_same _ _) (Nat.le_of_ble_eq_true rfl)]; rfl
        rw [hR]
        simp -implicitDefEqProofs (disch := first | omega | (simp -implicitDefEqProofs only [go_sem, List.size_toArray, List.length_cons, List.length_nil, Nat.reduceAdd]; done)) only [go_sem, Int.reduceLT, Int.reduceLE, Int.reduceEq, reduceIte, true_and, Nat.zero_add, Nat.add_zero, Option.map_some, f2, f4, f5, D1, L26, s1, dResults_d2, dRes1_cell, dRes1_tmp, dResC_some, hld]
        refine ⟨_, rfl, v, vr, rfl, hX _, ?_, ?_⟩
        · exact hcs.mono fun i hi => ⟨⟨by omega, hi.2⟩, by rw [get_set_other _ _ (by omega), get_set_other _ _ (by omega)]⟩
        · exact hrs.mono fun i hi => ⟨⟨by omega, hi.2⟩, by rw [get_set_other _ _ (by omega), get_set_other _ _ (by omega)]⟩
      · have s1 : storeAt (hh.set (h.next + 1) (rdRow bb E odd)) h.next 0 [.int .i64 0, .slice none 0 0, .slice none 0 0] = some ((hh.set (h.next + 1) (rdRow bb E odd)).set h.next (.row [.int .i64 0, .slice none 0 0, .slice none 0 0] 0 false)) := storeAll ST.rA rfl rfl
        have hR : parseR id l = ⟨0, [], []⟩ := by unfold parseR; rw [hEE, if_neg h0]
        rw [hR]
        simp -implicitDefEqProofs (disch := first | omega | (simp -implicitDefEqProofs only [go_sem, List.size_toArray, List.length_cons, List.length_nil, Nat.reduceAdd]; done)) only [go_sem, Int.reduceLT, Int.reduceLE, Int.reduceEq, reduceIte, true_and, Nat.zero_add, Nat.add_zero, Option.map_some, f4, D1, h0]
        refine dr_10_2 ?_
        simp -implicitDefEqProofs (disch := first | omega | (simp -implicitDefEqProofs only [go_sem, List.size_toArray, List.length_cons, List.length_nil, Nat.reduceAdd]; done)) only [go_sem, Int.reduceLT, Int.reduceLE, Int.reduceEq, reduceIte, true_and, Nat.zero_add, Nat.add_zero, Option.map_some, l10_2, f2, f4, D1, bd_state0, s1]
        refine ⟨⟨XSt1_at (i := 4) (j := 5) rfl rfl rfl ?_, trivial⟩, ?_⟩
        · rw [if_neg (by decide)]
          refine Ld_on (p := .pointer (some ⟨h.next + 1, 1, none⟩)) (v := .int .i64 E) ?_ ?_ (ld_27.trans ((cellAt_row ((get_set_other _ _ (by omega)).trans ST.rR)).trans rfl))
          · simp -implicitDefEqProofs (disch := first | omega | (simp -implicitDefEqProofs only [go_sem, List.size_toArray, List.length_cons, List.length_nil, Nat.reduceAdd]; done)) only [go_sem, Int.reduceLT, Int.reduceLE, Int.reduceEq, reduceIte, true_and, Nat.zero_add, Nat.add_zero, Option.map_some]
          · simp -implicitDefEqProofs (disch := first | omega | (simp -implicitDefEqProofs only [go_sem, List.size_toArray, List.length_cons, List.length_nil, Nat.reduceAdd]; done)) only [go_sem, Int.reduceLT, Int.reduceLE, Int.reduceEq, reduceIte, true_and, Nat.zero_add, Nat.add_zero, Option.map_some, f4]
        have hld : cellsAt ((hh.set (h.next + 1) (rdRow bb E odd)).set h.next (.row zeroState 0 false)) h.next 0 3 = some (stateV 0 (.slice none 0 0) (.slice none 0 0)) := by
          rw [cellsAt_row (get_set_same _ _) (Nat.le_of_ble_eq_true rfl)]; rfl
        simp -implicitDefEqProofs (disch := first | omega | (simp -implicitDefEqProofs only [go_sem, List.size_toArray, List.length_cons, List.length_nil, Nat.reduceAdd]; done)) only [go_sem, Int.reduceLT, Int.reduceLE, Int.reduceEq, reduceIte, true_and, Nat.zero_add, Nat.add_zero, Option.map_some, f2, dResults_d2, dRes1_cell, dRes1_tmp, dResC_some, hld]
        exact ⟨_, rfl, _, _, rfl, hX _, Sl.nil _ _ _, Sl.nil _ _ _⟩
theorem stParse_c {h : DHeap} {b : Value} {l : List Int} (hb : Arg fU8.rep h b l) (hlen : l.length ≤ 4294967296) :
    Ct Try.prog 10 [b] h fun r h1 => ∃ vc vr, r = .ret (.tuple #[stateV (parseR id l).slot vc vr, .int .i64 (parseE id l)]) ∧ Ext h h1 ∧ Arg fCell.rep h1 vc (parseR id l).cells ∧ Arg rRow h1 vr (parseR id l).rows :=
  (stParse_s hb hlen).mono fun r h1 ⟨vc, vr, e, x, a, b⟩ => ⟨vc, vr, e, x, a.mono fun i hi => ⟨hi.2, rfl⟩, b.mono fun i hi => ⟨hi.2, rfl⟩⟩
end Go.Proofs.Ytlhgijpdhniddaa

namespace Go.Proofs.Ytlhgijpdhniddaa
open Go.D
set_option maxRecDepth 100000

end Go.Proofs.Ytlhgijpdhniddaa

namespace Go.Proofs.Ytlhgijpdhniddaa
open Go.D
set_option maxRecDepth 100000

theorem sameL_refl {α : Type} {eq : α → α → Bool} : ∀ {l : List α}, (∀ x ∈ l, eq x x = true) → sameL eq l l = true
  | [], _ => rfl
  | a :: l, h => by rw [sameL, h a (by simp), sameL_refl fun x hx => h x (by simp [hx])]; rfl
theorem sameRow_refl (r : Row) : sameRow r r = true := by
  simp only [sameRow, sameRes, decide_true, Bool.true_and]
  exact sameL_refl fun x _ => by simp
theorem sameState_refl (x : State) : sameState x x = true := by
  simp only [sameState, decide_true, Bool.true_and, Bool.and_eq_true]
  exact ⟨sameL_refl fun x _ => by simp, sameL_refl fun x _ => sameRow_refl x⟩
/-! the state that is looked at first -/
abbrev cell0 : Cell := ⟨⟨0, 1⟩, 5, 0⟩
abbrev state0 : State := ⟨1, [cell0], []⟩
abbrev bytes0 : List Int := [2, 1, 2, 1, 0, 2, 1, 2, 5, 0, 0]
theorem num_0 : numB 0 = [0] := by simp [numB, lowN_zero]
theorem num_1 : numB 1 = [2, 1] := by
  have : lowN 1 = [1] := by rw [lowN_pos (by decide), show 1 / 256 = 0 by decide, lowN_zero]; rfl
  simp [numB, this]
theorem num_5 : numB 5 = [2, 5] := by
  have : lowN 5 = [5] := by rw [lowN_pos (by decide), show 5 / 256 = 0 by decide, lowN_zero]; rfl
  simp [numB, this]
theorem may0 : mayB state0 = true := by decide
theorem stateB0 : stateB state0 = bytes0 := by
  simp only [stateB, cellB, numsB, List.flatMap_cons, List.flatMap_nil, List.length_cons, List.length_nil, List.append_nil]
  simp [num_0, num_1, num_5]
theorem bytesE0 : bytesE state0 = 0 := by
  unfold bytesE
  rw [may0, stateB0]
  rfl
theorem bytesL0 : bytesL state0 = bytes0 := by
  unfold bytesL
  rw [may0, stateB0]
  rfl
theorem parseE0 : parseE id bytes0 = 0 := by decide
theorem parseR0 : parseR id bytes0 = state0 := by
  unfold parseR
  rw [parseE0, if_pos rfl]
  rfl
theorem dig0 : digE state0 ≠ 0 := by
  unfold digE
  rw [bytesE0, bytesL0, if_pos rfl]
  decide
end Go.Proofs.Ytlhgijpdhniddaa

namespace Go.Proofs.Ytlhgijpdhniddaa
open Go.D
set_option maxRecDepth 100000

theorem equalFunc0_c {h : DHeap} {a b f : Value} (ha : Arg rRow h a []) (hb : Arg rRow h b []) : DC Try.prog 50 [a, b, f] h (.ret (.bool true)) h := by
  refine Ct.pure (go_50 (by simp) ?_) (vin_bool _)
  have ea : ∀ K, dLen Try.prog #[24] a K = some (.int .i64 0) := ha.lens (P := Try.prog) (ts := #[24]) (t := 24) rfl isl_24
  have eb : ∀ K, dLen Try.prog #[24] b K = some (.int .i64 0) := hb.lens (P := Try.prog) (ts := #[24]) (t := 24) rfl isl_24
  simp -implicitDefEqProofs (disch := first | omega | (simp -implicitDefEqProofs only [go_sem, List.size_toArray, List.length_cons, List.length_nil, Nat.reduceAdd]; done)) only [go_sem, Int.reduceLT, Int.reduceLE, Int.reduceEq, reduceIte, true_and, Nat.zero_add, Nat.add_zero, Option.map_some, c50, ea, eb]
  refine xloop (σ := Nat) (by kernel_rfl) (fun i s => s.df = [] ∧ s.h = h ∧ s.fr 16 = some (.int .i64 0) ∧ s.fr 17 = some (.int .i64 0)) (fun i => i) 0 ?_ ?_
  · simp -implicitDefEqProofs (disch := first | omega | (simp -implicitDefEqProofs only [go_sem, List.size_toArray, List.length_cons, List.length_nil, Nat.reduceAdd]; done)) only [go_sem, Int.reduceLT, Int.reduceLE, Int.reduceEq, reduceIte, true_and, Nat.zero_add, Nat.add_zero, Option.map_some]
    done
  · rintro i ⟨fr, df, hh, rd⟩ K' hK' hX ⟨rfl, rfl, f16, f17⟩
    simp only at f16 f17
    simp -implicitDefEqProofs (disch := first | omega | (simp -implicitDefEqProofs only [go_sem, List.size_toArray, List.length_cons, List.length_nil, Nat.reduceAdd]; done)) only [go_sem, Int.reduceLT, Int.reduceLE, Int.reduceEq, reduceIte, true_and, Nat.zero_add, Nat.add_zero, Option.map_some, f16, f17]
    refine hX _ _ (by simp) ?_
    simp -implicitDefEqProofs (disch := first | omega | (simp -implicitDefEqProofs only [go_sem, List.size_toArray, List.length_cons, List.length_nil, Nat.reduceAdd]; done)) only [go_sem, Int.reduceLT, Int.reduceLE, Int.reduceEq, reduceIte, true_and, Nat.zero_add, Nat.add_zero, Option.map_some]
    exact ⟨_, rfl, rfl, .refl _⟩
theorem same0_c {h : DHeap} {n n' : Int} {cv rv cv' rv' : Value} {cells cells' : List Cell} (hc : Arg fCell.rep h cv cells) (hr : Arg rRow h rv []) (hc' : Arg fCell.rep h cv' cells') (hr' : Arg rRow h rv' []) (hl : cells.length ≤ 4294967296) :
    DC Try.prog 19 [stateV n cv rv, stateV n' cv' rv'] h (.ret (.bool (decide (n = n') && sameL (fun a b : Cell => decide (a = b)) cells cells'))) h := by
  refine Ct.pure (go_19 (by simp) ?_) (vin_bool _)
  have c1 := hc.cells1
  have r1 := hr.cells1
  have c2 := hc'.cells1
  have r2 := hr'.cells1
  have hE : Ext h ((h.push (.row [.int .i64 n, cv, rv] 0 false)).push (.row [.int .i64 n', cv', rv'] 0 false)) := (Ext.push1 _ _).push _
  obtain ⟨H, hH⟩ : ∃ H, H = (h.push (.row [.int .i64 n, cv, rv] 0 false)).push (.row [.int .i64 n', cv', rv'] 0 false) := ⟨_, rfl⟩
  rw [← hH] at hE
  have g1 : H.get h.next = some (.row [.int .i64 n, cv, rv] 0 false) := by rw [hH]; exact get_p1
  have g2 : H.get (h.next + 1) = some (.row [.int .i64 n', cv', rv'] 0 false) := by rw [hH]; exact get_push_same _ _
  have a0 : cellAt H h.next 0 = some (.int .i64 n) := cellAt_row g1
  have a1 : cellAt H h.next 1 = some cv := cellAt_row g1
  have a2 : cellAt H h.next 2 = some rv := cellAt_row g1
  have b0 : cellAt H (h.next + 1) 0 = some (.int .i64 n') := cellAt_row g2
  have b1 : cellAt H (h.next + 1) 1 = some cv' := cellAt_row g2
  have b2 : cellAt H (h.next + 1) 2 = some rv' := cellAt_row g2
  by_cases h0 : n = n'
  case neg =>
    simp -implicitDefEqProofs (disch := first | omega | (simp -implicitDefEqProofs only [go_sem, List.size_toArray, List.length_cons, List.length_nil, Nat.reduceAdd]; done)) only [go_sem, Int.reduceLT, Int.reduceLE, Int.reduceEq, reduceIte, true_and, Nat.zero_add, Nat.add_zero, Option.map_some, c19, next_push, ← hH, a0, b0, h0, dPick_f]
    exact ⟨_, rfl, by simp [h0], hE⟩
  subst h0
  simp -implicitDefEqProofs (disch := first | omega | (simp -implicitDefEqProofs only [go_sem, List.size_toArray, List.length_cons, List.length_nil, Nat.reduceAdd]; done)) only [go_sem, Int.reduceLT, Int.reduceLE, Int.reduceEq, reduceIte, true_and, Nat.zero_add, Nat.add_zero, Option.map_some, c19, next_push, ← hH, a0, b0, a1, b1]
  refine ncall (eqCells_c (hc.ext hE) (hc'.ext hE) hl) ?_
  cases hs : sameL (fun a b : Cell => decide (a = b)) cells cells' with
  | false =>
    simp -implicitDefEqProofs (disch := first | omega | (simp -implicitDefEqProofs only [go_sem, List.size_toArray, List.length_cons, List.length_nil, Nat.reduceAdd]; done)) only [go_sem, Int.reduceLT, Int.reduceLE, Int.reduceEq, reduceIte, true_and, Nat.zero_add, Nat.add_zero, Option.map_some, dPick_t, dPick_f]
    exact ⟨_, rfl, by simp, hE⟩
  | true =>
    simp -implicitDefEqProofs (disch := first | omega | (simp -implicitDefEqProofs only [go_sem, List.size_toArray, List.length_cons, List.length_nil, Nat.reduceAdd]; done)) only [go_sem, Int.reduceLT, Int.reduceLE, Int.reduceEq, reduceIte, true_and, Nat.zero_add, Nat.add_zero, Option.map_some, dPick_t, a2, b2]
    refine ncall (equalFunc0_c (hr.ext hE) (hr'.ext hE)) ?_
    simp -implicitDefEqProofs (disch := first | omega | (simp -implicitDefEqProofs only [go_sem, List.size_toArray, List.length_cons, List.length_nil, Nat.reduceAdd]; done)) only [go_sem, Int.reduceLT, Int.reduceLE, Int.reduceEq, reduceIte, true_and, Nat.zero_add, Nat.add_zero, Option.map_some, dPick_t]
    exact ⟨_, rfl, by simp, hE⟩
end Go.Proofs.Ytlhgijpdhniddaa

namespace Go.Proofs.Ytlhgijpdhniddaa
open Go.D
set_option maxRecDepth 100000

theorem bd_key01 : dBuild Try.prog 48 [(1, .int .i64 1)] = some (keyV ⟨0, 1⟩) := dBuild_at plc_48 rfl
theorem bd_cell0 : dBuild Try.prog 50 [(0, keyV ⟨0, 1⟩), (1, .int .i64 5)] = some (cellV cell0) := dBuild_at plc_50 rfl
theorem bd_state1 {n : Int} {a : Option Addr} {k c : Nat} : dBuild Try.prog 26 [(0, .int .i64 n), (1, .slice a k c)] = some (stateV n (.slice a k c) (.slice none 0 0)) := dBuild_at plc_26 rfl
theorem bs_cell {K : DHeap} {c : Cell} : dBuildSlice Try.prog 23 1 [(0, cellV c)] K = some (.slice (some ⟨K.next, 0, none⟩) 1 1, K.push (.row (fCell.enc c) 4 false)) := bs1_23 rfl
theorem bs_bytes {K : DHeap} : dBuildSlice Try.prog 22 11 [(0, .int .u8 2), (1, .int .u8 1), (2, .int .u8 2), (3, .int .u8 1), (4, .int .u8 0), (5, .int .u8 2), (6, .int .u8 1), (7, .int .u8 2), (8, .int .u8 5), (9, .int .u8 0), (10, .int .u8 0)] K =
    some (.slice (some ⟨K.next, 0, none⟩) 11 11, K.push (.row (bytes0.flatMap fU8.enc) 1 false)) :=
  dBuildSlice_all bsl_22 (vs := bytes0.map (Value.int .u8)) (Nat.succ_pos _) (by
    intro v hv
    obtain ⟨x, _, rfl⟩ := List.mem_map.1 hv
    rfl) (Nat.le_of_ble_eq_true rfl)
theorem zero3 {K : DHeap} {a b c : Value} (hv : [a, b, c].all Value.oneCell' = true) : storeAt (K.push (.row [.int .i64 0, .slice none 0 0, .slice none 0 0] 0 false)) K.next 0 [a, b, c] = some (K.push (.row [a, b, c] 0 false)) := store3_push hv
theorem bytes0_ok : ∀ x ∈ bytes0, fU8.ok x := by
  intro x hx
  refine inK_u8.2 ?_
  simp at hx
  omega
theorem begun_c {h : DHeap} : DC Try.prog 12 [] h (.ret (.bool true)) h := by
  refine Ct.pure (go_12 (by simp) ?_) (vin_bool _)
  obtain ⟨H1, hH1⟩ : ∃ H, H = h.push (.row (fCell.enc cell0) 4 false) := ⟨_, rfl⟩
  obtain ⟨H2, hH2⟩ : ∃ H, H = H1.push (.row [.int .i64 1, .slice (some ⟨h.next, 0, none⟩) 1 1, .slice none 0 0] 0 false) := ⟨_, rfl⟩
  have hn1 : H1.next = h.next + 1 := by rw [hH1]; rfl
  have hE1 : Ext h H1 := by rw [hH1]; exact Ext.push1 _ _
  have hE2 : Ext H1 H2 := by rw [hH2]; exact Ext.push1 _ _
  have hok0 : ∀ x ∈ [cell0], fCell.ok x := by
    intro x hx
    simp at hx
    subst hx
    exact ⟨⟨inK_i32.2 (by decide), inK_i64.2 (by decide)⟩, inK_i64.2 (by decide), inK_i64.2 (by decide)⟩
  have hs1 : Arg fCell.rep H1 (.slice (some ⟨h.next, 0, none⟩) 1 1) [cell0] := by rw [hH1]; exact built fCell h (by simp) rfl rfl hok0
  have hs2 := hs1.ext hE2
  have gS : H2.get (h.next + 1) = some (.row [.int .i64 1, .slice (some ⟨h.next, 0, none⟩) 1 1, .slice none 0 0] 0 false) := by rw [hH2, get_push_at _ _ hn1.symm]
  have hL : ∀ K, Ext H2 K → cellsAt K (h.next + 1) 0 3 = some (stateV 1 (.slice (some ⟨h.next, 0, none⟩) 1 1) (.slice none 0 0)) := fun K e => by
    rw [cellsAt_row ((e.get _ (by rw [hH2, next_push]; omega)).trans gS) (Nat.le_of_ble_eq_true rfl)]; rfl
  have st1 : storeAt (H1.push (.row [.int .i64 0, .slice none 0 0, .slice none 0 0] 0 false)) (h.next + 1) 0 [.int .i64 1, .slice (some ⟨h.next, 0, none⟩) 1 1, .slice none 0 0] = some H2 := by rw [← hn1, hH2]; exact zero3 rfl
  simp -implicitDefEqProofs (disch := first | omega | (simp -implicitDefEqProofs only [go_sem, List.size_toArray, List.length_cons, List.length_nil, Nat.reduceAdd]; done)) only [go_sem, Int.reduceLT, Int.reduceLE, Int.reduceEq, reduceIte, true_and, Nat.zero_add, Nat.add_zero, Option.map_some, c12, bd_key01, bd_cell0, bs_cell, bd_state1, ← hH1, hn1, st1, hL H2 (.refl _)]
  refine ncall_ct (bytes_c (n := 1) (cells := [cell0]) (rows := []) (inK_i64.2 (by decide)) hs2 (Sl.nil _ _ _) (by simp) (by simp)) ?_
  rintro r h1 ⟨v, rfl, hE3, ha⟩
  rw [show (⟨1, [cell0], []⟩ : State) = state0 from rfl] at ha ⊢
  rw [bytesL0] at ha
  rw [bytesE0]
  simp -implicitDefEqProofs (disch := first | omega | (simp -implicitDefEqProofs only [go_sem, List.size_toArray, List.length_cons, List.length_nil, Nat.reduceAdd]; done)) only [go_sem, Int.reduceLT, Int.reduceLE, Int.reduceEq, reduceIte, true_and, Nat.zero_add, Nat.add_zero, Option.map_some, XEnd]
  refine ncall_ct (stParse_c ha (by simp)) ?_
  rintro r h2 ⟨vc, vr, rfl, hE4, hc, hr⟩
  rw [parseR0] at hc hr
  rw [parseE0, parseR0]
  simp only at hc hr
  have hone : [Value.int .i64 1, vc, vr].all Value.oneCell' = true := by
    obtain ⟨_, _, rfl⟩ := hc.isSlice
    obtain ⟨_, _, rfl⟩ := hr.isSlice
    rfl
  obtain ⟨H3, hH3⟩ : ∃ H, H = h2.push (.row [.int .i64 1, vc, vr] 0 false) := ⟨_, rfl⟩
  obtain ⟨H4, hH4⟩ : ∃ H, H = H3.push (.row (bytes0.flatMap fU8.enc) 1 false) := ⟨_, rfl⟩
  have hE5 : Ext h2 H3 := by rw [hH3]; exact Ext.push1 _ _
  have hE6 : Ext H3 H4 := by rw [hH4]; exact Ext.push1 _ _
  have hE14 : Ext h1 H4 := (hE4.trans hE5).trans hE6
  have g3 : H4.get h2.next = some (.row [.int .i64 1, vc, vr] 0 false) := by rw [hE6.get _ (by rw [hH3, next_push]; omega), hH3]; exact get_push_same _ _
  have hL4 : cellsAt H4 h2.next 0 3 = some (stateV 1 vc vr) := by rw [cellsAt_row g3 (Nat.le_of_ble_eq_true rfl)]; rfl
  have hb : Arg fU8.rep H4 (.slice (some ⟨H3.next, 0, none⟩) 11 11) bytes0 := by rw [hH4]; exact built fU8 H3 rfl rfl rfl bytes0_ok
  have hd := dig0
  simp -implicitDefEqProofs (disch := first | omega | (simp -implicitDefEqProofs only [go_sem, List.size_toArray, List.length_cons, List.length_nil, Nat.reduceAdd]; done)) only [go_sem, Int.reduceLT, Int.reduceLE, Int.reduceEq, reduceIte, true_and, Nat.zero_add, Nat.add_zero, Option.map_some, XEnd, zero3 (K := h2) hone, ← hH3, bs_bytes, ← hH4, hL H4 (hE3.trans hE14)]
  refine ncall (bytesEqual_c (ha.ext hE14) hb) ?_
  simp -implicitDefEqProofs (disch := first | omega | (simp -implicitDefEqProofs only [go_sem, List.size_toArray, List.length_cons, List.length_nil, Nat.reduceAdd]; done)) only [go_sem, Int.reduceLT, Int.reduceLE, Int.reduceEq, reduceIte, true_and, Nat.zero_add, Nat.add_zero, Option.map_some, dPick_t, hL H4 (hE3.trans hE14), hL4]
  refine ncall (same0_c (cells := [cell0]) (cells' := [cell0]) (hs2.ext (hE3.trans hE14)) (Sl.nil _ _ _) ((hc.ext hE5).ext hE6) ((hr.ext hE5).ext hE6) (by simp)) ?_
  have hsame : (decide ((1 : Int) = 1) && sameL (fun a b : Cell => decide (a = b)) [cell0] [cell0]) = true := by decide
  rw [hsame]
  simp -implicitDefEqProofs (disch := first | omega | (simp -implicitDefEqProofs only [go_sem, List.size_toArray, List.length_cons, List.length_nil, Nat.reduceAdd]; done)) only [go_sem, Int.reduceLT, Int.reduceLE, Int.reduceEq, reduceIte, true_and, Nat.zero_add, Nat.add_zero, Option.map_some, dPick_t, hL H4 (hE3.trans hE14)]
  refine ncall (digest_c (n := 1) (cells := [cell0]) (rows := []) (inK_i64.2 (by decide)) (hs2.ext (hE3.trans hE14)) (Sl.nil _ _ _) (by simp) (by simp)) ?_
  simp -implicitDefEqProofs (disch := first | omega | (simp -implicitDefEqProofs only [go_sem, List.size_toArray, List.length_cons, List.length_nil, Nat.reduceAdd]; done)) only [go_sem, Int.reduceLT, Int.reduceLE, Int.reduceEq, reduceIte, true_and, Nat.zero_add, Nat.add_zero, Option.map_some, hd, dPick_t]
  exact ⟨_, rfl, rfl, (hE1.trans hE2).trans (hE3.trans hE14)⟩
end Go.Proofs.Ytlhgijpdhniddaa

namespace Go.Proofs.Ytlhgijpdhniddaa
open Go.D
set_option maxRecDepth 100000

end Go.Proofs.Ytlhgijpdhniddaa

namespace Go.Proofs.Ytlhgijpdhniddaa
open Go.D
set_option maxRecDepth 100000

end Go.Proofs.Ytlhgijpdhniddaa

namespace Go.Proofs.Ytlhgijpdhniddaa
open Go.D
set_option maxRecDepth 100000

end Go.Proofs.Ytlhgijpdhniddaa

namespace Go.Proofs.Ytlhgijpdhniddaa
open Go.D
set_option maxRecDepth 100000

theorem quick_bool {t : TypeId} {d : Nat} {a b : Bool} (hu : Try.prog.underlying t = some .bool) : quick Try.prog (Op.equalIn (d + 1) t (.bool a) (.bool b)) = some (.inr (a == b)) := by
  simp only [Op.equalIn]
  rw [quick_bind (quick_underlying hu)]
  rfl
theorem bin_bool {h : DHeap} {ox oy : Operand} {a b : Bool} : dBinOp Try.prog .eql 4 ox oy (.bool a) (.bool b) h = .ok (.value (.bool (a == b))) h := by
  have hf : (flat3 (.bool a) && flat3 (.bool b)) = true := rfl
  simp only [dBinOp, hf, if_true, dval]
  rw [quick_bind (show quick Try.prog (eqGuard .eql 4 ox oy (.bool a) (.bool b)) = some (.inr ()) from rfl)]
  have : quick Try.prog (binOp .eql 4 (.bool a) (.bool b)) = some (.inr (.bool (a == b))) := by
    simp only [binOp, Op.equal, Op.maxDepth]
    rw [quick_bind (quick_bool (d := 9999) (by kernel_rfl))]
    rfl
  rw [this]
  rfl
end Go.Proofs.Ytlhgijpdhniddaa

namespace Go.D
variable {P : Program}

/-- fields by their types and places -/
inductive Fld2 (P : Program) : {α : Type} → Nat → List (TypeId × Nat) → Rep α → (α → Nat) → Prop
  | one {α : Type} {off : Nat} {t : TypeId} {R : Rep α} {B : α → Nat} (hl : Lays P t R B) : Fld2 P off [(t, off)] R B
  | cons {α β : Type} {off : Nat} {t : TypeId} {l : List (TypeId × Nat)} {R : Rep α} {B : α → Nat} {Q : Rep β} {C : β → Nat} (hl : Lays P t R B) (hr : Fld2 P (off + R.z) l Q C) : Fld2 P off ((t, off) :: l) (rP R Q) (fun x => B x.1 + C x.2)
theorem Fld2.flds {α : Type} {off : Nat} {l : List (TypeId × Nat)} {R : Rep α} {B : α → Nat} (a : Fld2 P off l R B) : ∀ fs : List Field, fs.map (fun f => (f.type, f.offset)) = l → Flds P off fs R B := by
  induction a with
  | one hl =>
    intro fs h
    match fs, h with
    | [f], h =>
      simp only [List.map_cons, List.map_nil, List.cons.injEq, Prod.mk.injEq, and_true] at h
      obtain ⟨rfl, rfl⟩ := h
      exact .one rfl hl
  | cons hl hr ih =>
    intro fs h
    cases fs with
    | nil => cases h
    | cons f fs =>
      simp only [List.map_cons, List.cons.injEq, Prod.mk.injEq] at h
      obtain ⟨⟨rfl, rfl⟩, h2⟩ := h
      exact .cons rfl hl (ih fs h2)
theorem Lays.of {α : Type} {t : TypeId} {l : List (TypeId × Nat)} {R : Rep α} {B : α → Nat} (hf : fldsOf P t = some l) (hz : P.cellsOf t = R.z) (a : Fld2 P 0 l R B) : Lays P t R B := by
  unfold fldsOf at hf
  split at hf
  · rename_i fs hu
    split at hf
    · cases hf
      exact .struct hu hz (a.flds _ rfl)
    · cases hf
  · cases hf
theorem par_struct {t : TypeId} {l : List (TypeId × Nat)} (hf : fldsOf P t = some l) : Par P t true := by
  unfold fldsOf at hf
  split at hf
  · rename_i fs hu
    exact ⟨fs, hu⟩
  · cases hf
/-- flat pairs -/
theorem rP_flat {α β : Type} {F : FRep α} {G : FRep β} {S : Nat → Prop} {h : DHeap} {cs : List Value} {x : α × β} (a : (rP F.rep G.rep).rd S h cs x) : (fP F G).rep.rd S h cs x := by
  obtain ⟨c1, c2, rfl, ⟨rfl, h1⟩, rfl, h2⟩ := a
  exact ⟨rfl, h1, h2⟩
theorem Lays.pair {α β : Type} {t : TypeId} {F : FRep α} {G : FRep β} {C : α × β → Nat} (a : Lays P t (rP F.rep G.rep) C) : Lays P t (fP F G).rep C := a.conv (Q := (fP F G).rep) rfl id (fun _ _ _ _ => rP_flat) (fun _ => Nat.le_refl _)
end Go.D

namespace Go.Proofs.Ytlhgijpdhniddaa
open Go.D
set_option maxRecDepth 100000
theorem lay_i32 : Lays Try.prog 21 (fI .i32).rep (fun _ => 1) := .int (by kernel_rfl) (by kernel_rfl)
theorem lay_i64 : Lays Try.prog 2 fI64.rep (fun _ => 1) := .int (by kernel_rfl) (by kernel_rfl)
theorem lay_int : Lays Try.prog 3 fI64.rep (fun _ => 1) := .int (by kernel_rfl) (by kernel_rfl)
theorem lay_ints : Lays Try.prog 51 (rSl fI64.rep) (sumB fun _ => 1) := .slice (e := 2) (by kernel_rfl) (by kernel_rfl) (by decide) lay_i64
theorem lay_key : Lays Try.prog 48 fKey.rep (fun _ => 2) :=
  (Lays.of (l := [(21, 0), (2, 1)]) (by kernel_rfl) (by kernel_rfl) (.cons lay_i32 (.one lay_i64))).pair.conv (Q := fKey.rep) rfl (fun x => ⟨x.1, x.2⟩) (fun _ _ _ _ h => h) (fun _ => Nat.le_refl _)
theorem lay_cell : Lays Try.prog 50 fCell.rep (fun _ => 4) :=
  (Lays.of (l := [(48, 0), (2, 2), (2, 3)]) (by kernel_rfl) (by kernel_rfl) (.cons lay_key (.cons lay_i64 (.one lay_i64)))).conv (Q := fCell.rep) rfl (fun x => ⟨x.1, x.2.1, x.2.2⟩)
    (fun _ _ _ _ h => by
      obtain ⟨c1, c2, rfl, ⟨rfl, k1⟩, c3, c4, rfl, ⟨rfl, k2⟩, rfl, k3⟩ := h
      exact ⟨rfl, k1, k2, k3⟩) (fun _ => Nat.le_refl _)
theorem lay_cells : Lays Try.prog 23 (rSl fCell.rep) (sumB fun _ => 4) := .slice (e := 50) (by kernel_rfl) (by kernel_rfl) (by decide) lay_cell
def bulkRes (x : Res) : Nat := 3 + sumB (fun _ => 1) x.vs
def bulkRow (x : Row) : Nat := 2 + bulkRes x.x
def bulkState (x : State) : Nat := 1 + (sumB (fun _ => 4) x.cells + sumB bulkRow x.rows)
theorem lay_res : Lays Try.prog 53 rRes bulkRes :=
  (Lays.of (l := [(3, 0), (51, 1), (2, 2), (3, 3)]) (by kernel_rfl) (by kernel_rfl) (.cons lay_int (.cons lay_ints (.cons lay_i64 (.one lay_int))))).conv (Q := rRes) rfl (fun x => ⟨x.1, x.2.1, x.2.2.1, x.2.2.2⟩) (fun _ _ _ _ h => h)
    (fun x => by simp only [bulkRes]; omega)
theorem lay_row : Lays Try.prog 55 rRow bulkRow :=
  (Lays.of (l := [(2, 0), (2, 1), (53, 2)]) (by kernel_rfl) (by kernel_rfl) (.cons lay_i64 (.cons lay_i64 (.one lay_res)))).conv (Q := rRow) rfl (fun x => ⟨x.1, x.2.1, x.2.2⟩) (fun _ _ _ _ h => h)
    (fun x => by simp only [bulkRow]; omega)
theorem lay_rows : Lays Try.prog 24 (rSl rRow) (sumB bulkRow) := .slice (e := 55) (by kernel_rfl) (by kernel_rfl) (by decide) lay_row
theorem lay_state : Lays Try.prog 26 rState bulkState :=
  (Lays.of (l := [(2, 0), (23, 1), (24, 2)]) (by kernel_rfl) (by kernel_rfl) (.cons lay_i64 (.cons lay_cells (.one lay_rows)))).conv (Q := rState) rfl (fun x => ⟨x.1, x.2.1, x.2.2⟩) (fun _ _ _ _ h => h)
    (fun x => Nat.le_refl _)
theorem par_state : Par Try.prog 26 true := par_struct (l := [(2, 0), (23, 1), (24, 2)]) (by kernel_rfl)
/-- a state that has come in -/
theorem state_in {S : Nat → Prop} {h : DHeap} {cs : List Value} {x : State} (a : rState.rd S h cs x) : ∃ vc vr, cs = [.int .i64 x.slot, vc, vr] ∧ inK .i64 x.slot ∧ Sl fCell.rep S h vc x.cells ∧ Sl rRow S h vr x.rows := by
  obtain ⟨c1, c2, rfl, ⟨rfl, k1⟩, c3, c4, rfl, ⟨vc, rfl, h1⟩, vr, rfl, h2⟩ := a
  exact ⟨vc, vr, rfl, k1, h1, h2⟩
theorem bulk_rows {l : List Row} : ∀ r ∈ l, r.x.vs.length ≤ sumB bulkRow l := by
  induction l with
  | nil => simp
  | cons x l ih =>
    intro r hr
    simp only [sumB]
    have h1 := sumB_len (fun _ => 1) x.x.vs
    have h2 : bulkRow x = 2 + (3 + sumB (fun _ => 1) x.x.vs) := rfl
    rcases List.mem_cons.1 hr with rfl | hr
    · omega
    · have := ih r hr; omega
/-- what a state that has come in is at most -/
theorem bulk_state (x : State) : x.cells.length ≤ bulkState x ∧ x.rows.length ≤ bulkState x ∧ ∀ r ∈ x.rows, r.x.vs.length ≤ bulkState x := by
  have h1 := sumB_len (fun _ => 4) x.cells
  have h2 := sumB_len bulkRow x.rows
  have hb : bulkState x = 1 + (sumB (fun _ => 4) x.cells + sumB bulkRow x.rows) := rfl
  exact ⟨by omega, by omega, fun r hr => by have := bulk_rows r hr; omega⟩
end Go.Proofs.Ytlhgijpdhniddaa

namespace Go.D
variable {P : Program} {nt : Nat}

theorem NC.range_aux {g : Operand} {ps : Array Tmp} {assign body : Code} {Q : DExit → St → Prop} {s : St} {fv : Value} {l : Nat} {df : List DDef} {h1 : DHeap} {f : FuncId} {args : List Value}
    (hg : evalF s.h.ng s.fr g = some fv) (hh : HStep s.h h1)
    (henter : ∀ (r : Option Nat) (ι : Inj) (a : Act) (w : World) (fn : FuncId), SRel nt ι s r a w → ∃ (ι1 : Inj) (e : Ent) (mark : List Deferred) (w1 : World), (Instr.enterLoop fn a.tmps ps assign body r).run P w = .ok (e.block, mark) w1 ∧
      ι1 l = some e ∧ e.shift = 0 ∧ Sim ι1 h1 w1 ∧ Step ι ι1 s.h h1 w w1 ∧ DefRel ι1 df (mark ++ a.defers))
    (ht : dTarget P fv [.func (.yield l) #[] #[]] h1 = some (.enter f args)) {R : DEnd → DHeap → Prop}
    (hc : Ct P f args h1 R) (hx : ∀ r h2, R r h2 → XRangePost l s.fr df s.rd Q r h2) : NC P nt (.rangeFunc g ps assign body) Q s := by
  intro n rr ι a w hs
  refine wpIn_rangeFunc fun fn _ => ?_
  obtain ⟨ι1, eb, mark, w1, he, hl, hsh, s1, st1, hd1⟩ := henter rr ι a w fn hs
  have hfv : VRel ι fv (a.eval g) := evalF_rel (P := P) hs.sim (a := a) (ops := #[]) (o := ⟨none, .move g, 0, "", #[], none⟩) (fun t _ u hu => hs.fr.2 t u hu) g (by simp [Op.operands]) _ hg
  have hy : LRel ι1 [.func (.yield l) #[] #[]] (#[.func (.yield eb.block) #[] #[]] : Array Value).toList := (LRel.nil ι1).cons (.yield hl hsh)
  obtain ⟨d, x', hd, hinv, hn, hdd⟩ := dTarget_ok ht s1 (hfv.mono st1.le) hy
  cases x' with
  | enter f' args' =>
    obtain ⟨rfl, hargs, _⟩ := hn
    refine ⟨eb.block, mark, w1, d, w1, f', args', w1, he, ?_, fun _ _ => trivial, hinv, fun hh => absurd hh (by simp [FW]), ?_⟩
    · simpa [resolve, rangeCall, Act.eval] using hd
    · refine CallsIn.mono (hc (n - 1) ι1 w1 args' s1 hargs) fun en w2 ⟨ι2, r, h2, hR, hh2, k1, k2, k3⟩ => ?_
      have hp := hx r h2 hR
      have hl2 := k3.le l eb hl
      have hfr := (hs.fr.mono st1.le).mono k3.le
      have hdf := hd1.mono k3.le
      have hrd := (hs.rd.mono st1.le).mono k3.le
      have hst := st1.trans k3
      cases r with
      | pan v =>
        cases en with
        | panicked ch => exact ⟨ι2, .pan v, _, hp, hh.trans hh2, k1, ⟨hfr, hdf, k2, hrd⟩, hst⟩
        | _ => exact k1.elim
      | ret v =>
        cases en with
        | returned v' =>
          obtain ⟨d, hgd, hbusy, hq⟩ := hp
          obtain ⟨_, _, lp, hlp, hlr⟩ := k2.loopAt hl2 hgd
          obtain ⟨q1, q2⟩ := k2.setLoop hl2 hgd hlp hlr .exhausted d.pending
          have hend := run_endLoop (P := P) hlp (by rw [hlr.state]; exact hbusy)
          rw [hlr.pending] at hend
          refine ⟨d.pending, _, hend, ?_⟩
          have fin : ∀ (e : DExit) ex, Q e ⟨s.fr, df, h2.set l (.loop { d with state := .exhausted, pending := d.pending }), s.rd⟩ → ExitRel ι2 e ex →
              ∃ ι' e s', Q e s' ∧ HStep s.h s'.h ∧ ExitRel ι' e ex ∧ SRel nt ι' s' rr { a with defers := mark ++ a.defers } (w2.putObj eb.block (.loop { lp with state := .exhausted, pending := d.pending })) ∧ Step ι ι' s.h s'.h w (w2.putObj eb.block (.loop { lp with state := .exhausted, pending := d.pending })) :=
            fun e ex hq hex => ⟨ι2, e, _, hq, hh.trans (hh2.trans (HStep.set _ _ _)), hex, ⟨hfr, hdf, q1, hrd⟩, hst.trans q2⟩
          cases hpe : d.pending with
          | none =>
            rw [hpe] at hq fin
            exact fin .normal _ hq trivial
          | some c =>
            rw [hpe] at hq fin
            cases c with
            | ret => exact wpIn_ret (fin .ret _ hq trivial)
            | exit id => exact wpIn_exit (fin (.exit id) _ hq rfl)
            | _ => exact hq.elim
        | _ => exact k1.elim
  | _ => exact hn.elim
/-- an outermost loop -/
theorem NC.range {g : Operand} {ps : Array Tmp} {assign body : Code} {Q : DExit → St → Prop} {s : St} {fv : Value} {f : FuncId} {args : List Value} {h1 : DHeap}
    (hrd : s.rd = none) (hg : evalF s.h.ng s.fr g = some fv) (hh1 : h1 = (s.h.push (.marks true)).push (.loop ⟨nt, s.fr, ps, assign, body, s.h.next, .ready, none⟩))
    (ht : dTarget P fv [.func (.yield (s.h.next + 1)) #[] #[]] h1 = some (.enter f args)) {R : DEnd → DHeap → Prop}
    (hc : Ct P f args h1 R) (hx : ∀ r h2, R r h2 → XRangePost (s.h.next + 1) s.fr (.mark s.h.next :: s.df) s.rd Q r h2) : NC P nt (.rangeFunc g ps assign body) Q s := by
  subst hh1
  refine NC.range_aux hg ((HStep.push _ _).trans (HStep.push _ _)) (fun r ι a w fn hs => ?_) ht hc hx
  have hr : r = none := by
    have := hs.rd
    rw [hrd] at this
    cases r with
    | none => rfl
    | some _ => exact this.elim
  subst hr
  obtain ⟨a1, a2⟩ := hs.sim.alloc (.marks true) (.deferred (some [])) ⟨w.heap.size, 0, 0, 0, false⟩ rfl ⟨rfl, rfl, World.alloc_heap_new _ _⟩
  have hsz : (w.alloc (.deferred (some []))).heap.size = w.heap.size + 1 := World.size_alloc _ _
  have hm : (ι.upd s.h.next ⟨w.heap.size, 0, 0, 0, false⟩) s.h.next = some ⟨w.heap.size, 0, 0, 0, false⟩ := Inj.upd_same _ _ _
  obtain ⟨b1, b2⟩ := a1.alloc (.loop ⟨nt, s.fr, ps, assign, body, s.h.next, .ready, none⟩) (.loop { state := .ready, pending := none, fn, tmps := a.tmps, params := ps, assign, body, defers := w.heap.size })
    ⟨w.heap.size + 1, 0, 0, 0, false⟩ hsz.symm ⟨rfl, rfl, _, by rw [← hsz]; exact World.alloc_heap_new _ _,
      ⟨(hs.fr.mono a2.le).mono (Inj.upd_le a1.fresh), rfl, rfl, rfl, rfl, rfl, ⟨w.heap.size, 0, 0, 0, false⟩, Inj.upd_le a1.fresh _ _ hm, rfl, rfl⟩⟩
  refine ⟨_, ⟨w.heap.size + 1, 0, 0, 0, false⟩, _, _, run_enterLoop_outer fn a.tmps ps assign body, ?_, rfl, b1, a2.trans b2, ?_⟩
  · exact Inj.upd_same _ _ _
  · exact ⟨⟨_, b2.le _ _ hm, rfl, rfl⟩, (hs.df.mono a2.le).mono b2.le⟩
/-- code in a loop over a function, walked without its places -/
theorem NC.strip {c c0 : Code} {Q : DExit → St → Prop} {s : St} (hs : Go.D.strip c0 = c) (hk : codeOK nt c = true) (h : xs P nt c Q s) : NC P nt c0 Q s := by
  subst hs
  exact xs_sound c0 Q s (by rw [← codeOK_strip]; exact hk) h
end Go.D

namespace Go.D
variable {P : Program} {α : Type} {R : Rep α} {S : Nat → Prop} {h : DHeap} {v : Value} {l : List α} {t : TypeId}

end Go.D

namespace Go.Proofs.Ytlhgijpdhniddaa
open Go.D
set_option maxRecDepth 100000

end Go.Proofs.Ytlhgijpdhniddaa

namespace Go.Proofs.Ytlhgijpdhniddaa
open Go.D
set_option maxRecDepth 100000

end Go.Proofs.Ytlhgijpdhniddaa

namespace Go.Proofs.Ytlhgijpdhniddaa
open Go.D
set_option maxRecDepth 100000

end Go.Proofs.Ytlhgijpdhniddaa

namespace Go.Proofs.Ytlhgijpdhniddaa
open Go.D
set_option maxRecDepth 100000

end Go.Proofs.Ytlhgijpdhniddaa

namespace Go.Proofs.Ytlhgijpdhniddaa
open Go.D
set_option maxRecDepth 100000

section
variable {l : List Part}
end
end Go.Proofs.Ytlhgijpdhniddaa

namespace Go.Proofs.Ytlhgijpdhniddaa
open Go.D
set_option maxRecDepth 100000

end Go.Proofs.Ytlhgijpdhniddaa

namespace Go.D
variable {P : Program} {nt : Nat}

/-- the heap in a loop over a function that was begun at hB: what the loop may change is ids, and what was made since -/
structure Rng (hB : DHeap) (D : DLoop) (ids : Nat → Prop) (K : DHeap) : Prop where
  old : ∀ j, j < hB.next → ¬ ids j → K.get j = hB.get j
  nx : hB.next + 2 ≤ K.next
  ng : K.ng = hB.ng
  mrk : K.get hB.next = some (.marks true)
  lp : K.get (hB.next + 1) = some (.loop D)
section
variable {hB K K' : DHeap} {D D' : DLoop} {ids : Nat → Prop} {o : DObj} {id : Nat}
theorem Rng.start (hB : DHeap) (D : DLoop) (ids : Nat → Prop) : Rng hB D ids ((hB.push (.marks true)).push (.loop D)) :=
  ⟨fun j hj _ => by rw [get_push_other _ _ (by rw [next_push]; omega), get_push_other _ _ hj], Nat.le_refl _, rfl, get_p1, get_push_same _ _⟩
theorem Rng.ext (r : Rng hB D ids K) (e : Ext K K') : Rng hB D ids K' :=
  ⟨fun j hj hi => (e.get j (by have := r.nx; omega)).trans (r.old j hj hi), Nat.le_trans r.nx e.next, e.ng.trans r.ng, (e.get _ (by have := r.nx; omega)).trans r.mrk, (e.get _ (by have := r.nx; omega)).trans r.lp⟩
theorem Rng.set (r : Rng hB D ids K) (hi : ids id) (hid : id < hB.next) : Rng hB D ids (K.set id o) :=
  ⟨fun j hj hij => (get_set_other _ _ (by intro hh; subst hh; exact hij hi)).trans (r.old j hj hij), r.nx, r.ng, (get_set_other _ _ (by omega)).trans r.mrk, (get_set_other _ _ (by omega)).trans r.lp⟩
theorem Rng.push (r : Rng hB D ids K) (o : DObj) : Rng hB D ids (K.push o) := r.ext (Ext.push1 _ _)
theorem Rng.loop (r : Rng hB D ids K) (D' : DLoop) : Rng hB D' ids (K.set (hB.next + 1) (.loop D')) :=
  ⟨fun j hj hij => (get_set_other _ _ (by omega)).trans (r.old j hj hij), r.nx, r.ng, (get_set_other _ _ (by omega)).trans r.mrk, get_set_same _ _⟩
theorem Rng.keep (r : Rng hB D ids K) (hn : K.next ≤ K'.next) (hg : K'.ng = K.ng) (h : ∀ j, j < hB.next + 2 → K'.get j = K.get j) : Rng hB D ids K' :=
  ⟨fun j hj hi => (h j (by omega)).trans (r.old j hj hi), Nat.le_trans r.nx hn, hg.trans r.ng, (h _ (by omega)).trans r.mrk, (h _ (by omega)).trans r.lp⟩
/-- what was there at h, under hB, and is not changed -/
theorem Rng.below {h : DHeap} (r : Rng hB D ids K) (e : Ext h hB) (hi : ∀ j, ids j → h.next ≤ j) : Ext h K :=
  ⟨Nat.le_trans e.next (by have := r.nx; omega), r.ng.trans e.ng, fun j hj => (r.old j (Nat.lt_of_lt_of_le hj e.next) (fun hh => by have := hi j hh; omega)).trans (e.get j hj)⟩
end
end Go.D

namespace Go.Proofs.Ytlhgijpdhniddaa
open Go.D
set_option maxRecDepth 100000

end Go.Proofs.Ytlhgijpdhniddaa

namespace Go.Proofs.Ytlhgijpdhniddaa
open Go.D
set_option maxRecDepth 100000

/-- a loop over a function, as it stands in the heap -/
abbrev bldD (fr : Fr) (k : Nat) : DLoop := ⟨94, fr, #[59], fa26_0, fb26_0, k, .ready, none⟩
/-- what state.Build changes while it goes through the parts -/
def bldIds (a b c : Nat) (j : Nat) : Prop := j = a ∨ j = b ∨ j = c
/-- so far all parts are the same -/
def bldSo (ps l : List Part) (i : Nat) : Prop := ∀ j x, j < i → ps[j]? = some x → ∃ y, l[j]? = some y ∧ x.slot = y.slot ∧ x.data = y.data
structure BldI (hB : DHeap) (fr : Fr) (a b c : Nat) (ps l : List Part) (i : Nat) (K : DHeap) : Prop where
  r : Rng hB (bldD fr hB.next) (bldIds a b c) K
  ga : K.get a = some (.row zeroState 0 false)
  gb : K.get b = some (.row [.int .i64 0] 0 false)
  gc : K.get c = some (.row [.int .i64 (i : Nat)] 0 false)
  so : bldSo ps l i
theorem BldI.ext {hB : DHeap} {fr : Fr} {a b c : Nat} {ps l : List Part} {i : Nat} {K K' : DHeap} (s : BldI hB fr a b c ps l i K) (ha : a < hB.next) (hb : b < hB.next) (hc : c < hB.next) (e : Ext K K') : BldI hB fr a b c ps l i K' :=
  have hn := s.r.nx
  ⟨s.r.ext e, (e.get _ (by omega)).trans s.ga, (e.get _ (by omega)).trans s.gb, (e.get _ (by omega)).trans s.gc, s.so⟩
end Go.Proofs.Ytlhgijpdhniddaa

namespace Go.Proofs.Ytlhgijpdhniddaa
open Go.D
set_option maxRecDepth 100000

end Go.Proofs.Ytlhgijpdhniddaa

namespace Go.Proofs.Ytlhgijpdhniddaa
open Go.D
set_option maxRecDepth 100000

end Go.Proofs.Ytlhgijpdhniddaa

namespace Go.D
variable {P : Program} {nt : Nat}

/-- one operation -/
def NOne (P : Program) (ops : Array Oper) (o : Oper) (s : St) (K : St → Prop) (Q : DExit → St → Prop) : Prop :=
  match dWanted ops s.fr o with
  | none => False
  | some false => K ⟨s.fr.put o.dst undef, s.df, s.h, s.rd⟩
  | some true => NNext P o s (dOp P (evalF s.h.ng s.fr) o s.h) K Q
theorem NOne_sound {ops : Array Oper} (hd : dstsOK nt ops = true) {k : Nat} {o : Oper} (ho : ops[k]? = some o) {s : St} {K : St → Prop} {Q : DExit → St → Prop} (h : NOne P ops o s K Q)
    {n : Nat} {r : Option Nat} {ι : Inj} {a : Act} {w : World} {Qc : Exit → Act → World → Prop} {Kw : Act → World → Prop} (hs : SRel nt ι s r a w)
    (hK : ∀ ι' s' a' w', K s' → HStep s.h s'.h → SRel nt ι' s' r a' w' → Step ι ι' s.h s'.h w w' → Kw a' w')
    (hQ : ∀ ι' e s' ex a' w', Q e s' → HStep s.h s'.h → ExitRel ι' e ex → SRel nt ι' s' r a' w' → Step ι ι' s.h s'.h w w' → Qc ex a' w') : wpOpIn (FW r) n P ops Qc k Kw a w := by
  have hdo : ∀ d, o.dst = some d → d < nt := fun d h => dstsOK_spec hd k o d ho h
  -- one operation that needs no call
  have one : XOps P ops [o] s (fun e s' => match e with | .normal => K s' | e => Q e s') → wpOpIn (FW r) n P ops Qc k Kw a w := by
    intro hx
    have hw0 := hx
    simp only [XOps] at hx
    have fin : ∀ (v : Value) (h1 : DHeap), Ex P ops o s.fr s.h (.ret v) h1 → isDefer o.op = false → K ⟨s.fr.put o.dst v, s.df, h1, s.rd⟩ → wpOpIn (FW r) n P ops Qc k Kw a w := by
      intro v h1 hex hnd hh
      refine Ex_sound hex ho hnd hs.sim hs.fr.1 (dstsOK_spec hd) (fun t _ u hu => hs.fr.2 t u hu) (fun u hu ι' v' w' hv s1 st => ?_) (fun u hu => by cases hu)
      cases hu
      exact hK ι' _ _ w' hh (Ex_hstep hex) ⟨put_rel (r := r) (w := w) (hs.fr.mono st.le) hdo hv, by rw [put_defers]; exact hs.df.mono st.le, s1, hs.rd.mono st.le⟩ st
    have finp : ∀ (v : Value) (h1 : DHeap), Ex P ops o s.fr s.h (.pan v) h1 → isDefer o.op = false → Q (.pan v) ⟨s.fr, s.df, h1, s.rd⟩ → wpOpIn (FW r) n P ops Qc k Kw a w := by
      intro v h1 hex hnd hh
      refine Ex_sound hex ho hnd hs.sim hs.fr.1 (dstsOK_spec hd) (fun t _ u hu => hs.fr.2 t u hu) (fun u hu => by cases hu) (fun u hu ι' v' w' hv s1 st => ?_)
      cases hu
      exact hQ ι' _ ⟨s.fr, s.df, h1, s.rd⟩ _ a w' hh (Ex_hstep hex) ⟨v', rfl, hv⟩ ⟨hs.fr.mono st.le, hs.df.mono st.le, s1, hs.rd.mono st.le⟩ st
    cases hw : dWanted ops s.fr o with
    | none => rw [hw] at hx; exact hx.elim
    | some b =>
      rw [hw] at hx
      cases b with
      | false =>
        simp only [XOps] at hx
        unfold wpOpIn
        rw [ho]
        have hw' := wanted_rel hs.fr.1 (dstsOK_spec hd) (fun t _ u hu => hs.fr.2 t u hu) hw
        simp only [hw', Bool.false_eq_true, if_false]
        exact ⟨fun _ _ => trivial, hK ι _ _ w hx (.refl _) ⟨put_rel (r := r) (w := w) hs.fr hdo (undef_rel ι), by rw [put_defers]; exact hs.df, hs.sim, hs.rd⟩ (Step.refl ι _ w)⟩
      | true =>
        simp only at hx
        have hexd : ∀ r h1, (match dOp P (evalF s.h.ng s.fr) o s.h with
            | .ok (.value v) h1' => r = .ret v ∧ h1 = h1'
            | .ok .skip h1' => r = .ret undef ∧ h1 = h1'
            | .ok (.enter f args) h1' => DC P f args h1' r h1
            | .ok (.round l size tmps assign body) h1' => DRd P l size tmps assign body h1' r h1
            | .pan v h1' => r = .pan v ∧ h1 = h1'
            | _ => False) → Ex P ops o s.fr s.h r h1 := by
          intro r h1 hh; unfold Ex; rw [hw]; exact hh
        have hnd : ∀ x h1, dOp P (evalF s.h.ng s.fr) o s.h = .ok x h1 → (∀ f gs, x ≠ .defer f gs) → isDefer o.op = false := by
          intro x h1 hop hne
          cases hod : o.op with
          | defer c =>
            exfalso
            unfold dOp at hop
            rw [hod] at hop
            simp only at hop
            repeat' split at hop
            all_goals first
              | (cases hop; done)
              | (cases hop; exact hne _ _ rfl)
          | _ => rfl
        cases hop : dOp P (evalF s.h.ng s.fr) o s.h with
        | bad => rw [hop] at hx; exact hx.elim
        | pan v h1 =>
          rw [hop] at hx
          refine finp v h1 (hexd _ _ (by rw [hop]; exact ⟨rfl, rfl⟩)) ?_ hx
          cases hod : o.op with
          | defer c =>
            exfalso
            unfold dOp at hop
            rw [hod] at hop
            simp only at hop
            repeat' split at hop
            all_goals cases hop
          | _ => rfl
        | ok x h1 =>
          rw [hop] at hx
          cases x with
          | value v => exact fin v h1 (hexd _ _ (by rw [hop]; exact ⟨rfl, rfl⟩)) (hnd _ _ hop (by simp)) hx
          | skip => exact fin undef h1 (hexd _ _ (by rw [hop]; exact ⟨rfl, rfl⟩)) (hnd _ _ hop (by simp)) hx
          | enter f args =>
            obtain ⟨r0, h2, hdc, hx⟩ := hx
            have hex := hexd r0 h2 (by rw [hop]; exact hdc)
            cases r0 with
            | ret v => exact fin v h2 hex (hnd _ _ hop (by simp)) hx
            | pan v => exact finp v h2 hex (hnd _ _ hop (by simp)) hx
          | round l size tmps assign body =>
            obtain ⟨r0, h2, hdc, hx⟩ := hx
            have hex := hexd r0 h2 (by rw [hop]; exact hdc)
            cases r0 with
            | ret v => exact fin v h2 hex (hnd _ _ hop (by simp)) hx
            | pan v => exact finp v h2 hex (hnd _ _ hop (by simp)) hx
          | recover => exact hx.elim
          | defer f args =>
            obtain ⟨hrd, hx⟩ := hx
            have hr : r = none := by
              have := hs.rd
              rw [hrd] at this
              cases r with
              | none => rfl
              | some _ => exact this.elim
            subst hr
            unfold wpOpIn
            rw [ho]
            have hw' := wanted_rel hs.fr.1 (dstsOK_spec hd) (fun t _ u hu => hs.fr.2 t u hu) hw
            simp only [hw', if_true]
            refine ⟨fun _ _ => trivial, ?_⟩
            have hsem : o.semAt (FW none).round a.eval = execOp a.eval o := rfl
            rw [hsem]
            obtain ⟨ι1, w1, x', hrun, hn, s1, st⟩ := dOp_ok hop hs.sim (evalF_rel (P := P) hs.sim (a := a) (ops := ops) (fun t _ u hu => hs.fr.2 t u hu))
            rw [hrun]
            cases x' with
            | defer d =>
              rw [Oper.uponIn_defer]
              obtain ⟨hg, cap, dargs, rfl, hargs⟩ := hn
              refine hK ι1 _ _ w1 hx (dOp_hstep hop) ⟨?_, ?_, s1, hs.rd.mono st.le⟩ st
              · exact put_rel (r := none) (w := w) (a := { a with defers := { target := .fn (.func f) cap, args := dargs } :: a.defers }) (hs.fr.mono st.le) hdo (undef_rel _)
              · rw [put_defers]
                exact ⟨⟨cap, dargs, rfl, hargs⟩, hs.df.mono st.le⟩
            | _ => exact hn.elim
  unfold NOne at h
  cases hw : dWanted ops s.fr o with
  | none => rw [hw] at h; exact h.elim
  | some b =>
    rw [hw] at h
    cases b with
    | false => exact one (by simp only [XOps, hw]; exact h)
    | true =>
      simp only at h
      by_cases hent : ∃ f args h1, dOp P (evalF s.h.ng s.fr) o s.h = .ok (.enter f args) h1
      · obtain ⟨f, args, h1, hop⟩ := hent
        rw [hop] at h
        obtain ⟨R, hct, hall⟩ := h
        have hnd : isDefer o.op = false := by
          cases hod : o.op with
          | defer c =>
            exfalso
            unfold dOp at hop
            rw [hod] at hop
            simp only at hop
            repeat' split at hop
            all_goals cases hop
          | _ => rfl
        unfold wpOpIn
        rw [ho]
        have hw' := wanted_rel hs.fr.1 (dstsOK_spec hd) (fun t _ u hu => hs.fr.2 t u hu) hw
        simp only [hw', if_true]
        refine ⟨fun _ _ => trivial, ?_⟩
        have hsem : o.semAt (FW r).round a.eval = execOp a.eval o := Oper.semAt_eq _ _ _ fun c hc => by rw [hc] at hnd; cases hnd
        rw [hsem]
        obtain ⟨ι1, w1, x', hrun, hn, s1, st⟩ := dOp_ok hop hs.sim (evalF_rel (P := P) hs.sim (a := a) (ops := ops) (fun t _ u hu => hs.fr.2 t u hu))
        rw [hrun]
        cases x' with
        | enter f' args' =>
          obtain ⟨rfl, hargs, _⟩ := hn
          rw [Oper.uponIn_enter]
          refine ⟨fun hh => absurd hh (by simp [FW]), ?_⟩
          have hc : CallsIn (FW r) (n - 1) P f' args' w1 fun e w' => ∃ ι' r h', R r h' ∧ HStep h1 h' ∧ EndRel ι' r e ∧ Sim ι' h' w' ∧ Step ι1 ι' h1 h' w1 w' := hct (n - 1) ι1 w1 args' s1 hargs
          refine CallsIn.mono hc fun e w2 ⟨ι2, r2, h2, hR, hh2, he, s2, st2⟩ => ?_
          have hx := hall r2 h2 hR
          cases r2 with
          | ret v =>
            cases e with
            | returned v' =>
              exact hK ι2 _ _ w2 hx ((dOp_hstep hop).trans hh2) ⟨put_rel (r := r) (w := w) ((hs.fr.mono st.le).mono st2.le) hdo he, by rw [put_defers]; exact (hs.df.mono st.le).mono st2.le, s2, (hs.rd.mono st.le).mono st2.le⟩ (st.trans st2)
            | _ => exact he.elim
          | pan v =>
            cases e with
            | panicked ch =>
              obtain ⟨v', rfl, hv⟩ := he
              exact hQ ι2 _ ⟨s.fr, s.df, h2, s.rd⟩ _ a w2 hx ((dOp_hstep hop).trans hh2) ⟨v', rfl, hv⟩ ⟨(hs.fr.mono st.le).mono st2.le, (hs.df.mono st.le).mono st2.le, s2, (hs.rd.mono st.le).mono st2.le⟩ (st.trans st2)
            | _ => exact he.elim
        | _ => exact hn.elim
      · by_cases hrnd : ∃ l size tmps x y h1, dOp P (evalF s.h.ng s.fr) o s.h = .ok (.round l size tmps x y) h1
        · obtain ⟨lid, size, tmps, cx, cy, h1, hop⟩ := hrnd
          rw [hop] at h
          obtain ⟨R, hct, hall⟩ := h
          have hnd : isDefer o.op = false := by
            cases hod : o.op with
            | defer c =>
              exfalso
              unfold dOp at hop
              rw [hod] at hop
              simp only at hop
              repeat' split at hop
              all_goals cases hop
            | _ => rfl
          unfold wpOpIn
          rw [ho]
          have hw' := wanted_rel hs.fr.1 (dstsOK_spec hd) (fun t _ u hu => hs.fr.2 t u hu) hw
          simp only [hw', if_true]
          refine ⟨fun _ _ => trivial, ?_⟩
          have hsem : o.semAt (FW r).round a.eval = execOp a.eval o := Oper.semAt_eq _ _ _ fun c hc => by rw [hc] at hnd; cases hnd
          rw [hsem]
          obtain ⟨ι1, w1, x', hrun, hn, s1, st⟩ := dOp_ok hop hs.sim (evalF_rel (P := P) hs.sim (a := a) (ops := ops) (fun t _ u hu => hs.fr.2 t u hu))
          rw [hrun]
          cases x' with
          | round l' f' tmps' assign' body' =>
            obtain ⟨⟨e0, he0, hsh, rfl⟩, hargs, rfl, rfl⟩ := hn
            rw [Oper.uponIn_round]
            refine ⟨fun hh => absurd hh (by simp [FW]), ?_⟩
            have hc : RoundIn (FW r) (n - 1) P e0.block f' tmps' assign' body' w1 fun e w' => ∃ ι' r h', R r h' ∧ HStep h1 h' ∧ EndRel ι' r e ∧ Sim ι' h' w' ∧ Step ι1 ι' h1 h' w1 w' := hct (n - 1) ι1 w1 tmps' e0 f' s1 he0 hsh hargs
            refine RoundIn.mono hc fun e w2 ⟨ι2, r2, h2, hR, hh2, he, s2, st2⟩ => ?_
            have hx := hall r2 h2 hR
            cases r2 with
            | ret v =>
              cases e with
              | returned v' =>
                exact hK ι2 _ _ w2 hx ((dOp_hstep hop).trans hh2) ⟨put_rel (r := r) (w := w) ((hs.fr.mono st.le).mono st2.le) hdo he, by rw [put_defers]; exact (hs.df.mono st.le).mono st2.le, s2, (hs.rd.mono st.le).mono st2.le⟩ (st.trans st2)
              | _ => exact he.elim
            | pan v =>
              cases e with
              | panicked ch =>
                obtain ⟨v', rfl, hv⟩ := he
                exact hQ ι2 _ ⟨s.fr, s.df, h2, s.rd⟩ _ a w2 hx ((dOp_hstep hop).trans hh2) ⟨v', rfl, hv⟩ ⟨(hs.fr.mono st.le).mono st2.le, (hs.df.mono st.le).mono st2.le, s2, (hs.rd.mono st.le).mono st2.le⟩ (st.trans st2)
              | _ => exact he.elim
          | _ => exact hn.elim
        · refine one ?_
          simp only [XOps, hw]
          generalize hop : dOp P (evalF s.h.ng s.fr) o s.h = x at h hent hrnd
          cases x with
          | ok y h1 =>
            cases y with
            | enter f args => exact absurd ⟨f, args, h1, rfl⟩ hent
            | value v => exact h
            | skip => exact h
            | defer f gs => exact h
            | round l z t a b => exact absurd ⟨l, z, t, a, b, h1, rfl⟩ hrnd
            | recover => exact h
          | pan v h1 => exact h
          | bad => exact h

/-- a region in any order: what holds when some operations have been done, whichever -/
theorem NC.any {id : Nat} {ops : Array Oper} {Q : DExit → St → Prop} {s : St} (hmix : P.follows .mixedOrders = true) (hd : dstsOK nt ops = true)
    (hlow : ∀ (i : Nat) o, ops[i]? = some o → ∀ p ∈ preds o, p < i)
    (I : (Nat → Bool) → St → Prop) (h0 : I (fun _ => false) s)
    (hstep : ∀ (L : Nat → Bool) (s : St) (i : Nat) (o : Oper), I L s → ops[i]? = some o → L i = false → (∀ p ∈ preds o, L p = true) → NOne P ops o s (I fun j => if j = i then true else L j) Q)
    (hfin : ∀ (L : Nat → Bool) (s : St), I L s → (∀ i, i < ops.size → L i = true) → Q .normal s) : NC P nt (.region id ops true) Q s := by
  intro n r ι0 a0 w0 hs0
  refine wpIn_region_any hmix ?_
  have key : ∀ (fuel : Nat) (L : Array Bool) (s' : St) (ι : Inj) (a : Act) (w : World), unwaited L ops.size ≤ fuel → L.size = ops.size → I (fun j => L.getD j false) s' → HStep s.h s'.h → SRel nt ι s' r a w → Step ι0 ι s.h s'.h w0 w →
      wpAnyIn (FW r) n P .any ops (fun ex a' w' => ∃ ι' e s', Q e s' ∧ HStep s.h s'.h ∧ ExitRel ι' e ex ∧ SRel nt ι' s' r a' w' ∧ Step ι0 ι' s.h s'.h w0 w') fuel L a w := by
    have fin : ∀ (L : Array Bool) (s' : St) (ι : Inj) (a : Act) (w : World), L.size = ops.size → I (fun j => L.getD j false) s' → HStep s.h s'.h → SRel nt ι s' r a w → Step ι0 ι s.h s'.h w0 w → Region.ready .any ops L = [] →
        ∃ ι' e s', Q e s' ∧ HStep s.h s'.h ∧ ExitRel ι' e .normal ∧ SRel nt ι' s' r a w ∧ Step ι0 ι' s.h s'.h w0 w := by
      intro L s' ι a w hL hI hh hs hst hr
      have hfull : ∀ i, i < ops.size → L.getD i false = true := by
        intro i
        induction i using Nat.strongRecOn with
        | _ i ih =>
          intro hi
          cases hLi : L.getD i false with
          | true => rfl
          | false =>
            exfalso
            have : i ∈ Region.ready .any ops L := mem_ready.2 ⟨by rw [getD_ft (by rw [hL]; exact hi)]; exact hLi, ops[i], Array.getElem?_eq_getElem hi, fun e he hb => ?_⟩
            · rw [hr] at this; cases this
            · have hpm : e.on ∈ preds ops[i] := List.mem_filterMap.2 ⟨e, by simpa using he, by rw [if_pos hb]⟩
              have hlt := hlow i _ (Array.getElem?_eq_getElem hi) _ hpm
              exact ih e.on hlt (by omega)
      exact ⟨ι, .normal, s', hfin _ _ hI hfull, hh, trivial, hs, hst⟩
    intro fuel
    induction fuel with
    | zero =>
      intro L s' ι a w hu hL hI hh hs hst
      have hr : Region.ready .any ops L = [] := by
        rw [List.eq_nil_iff_forall_not_mem]
        intro i hi
        obtain ⟨h1, o, h2, _⟩ := mem_ready.1 hi
        have := unwaited_zero (l := L) ops.size (by omega) i (Array.getElem?_eq_some_iff.1 h2).1
        rw [h1] at this; cases this
      exact ⟨hr, fin L s' ι a w hL hI hh hs hst hr⟩
    | succ fuel ih =>
      intro L s' ι a w hu hL hI hh hs hst
      refine ⟨fin L s' ι a w hL hI hh hs hst, fun i hi => ?_⟩
      obtain ⟨h1, o, ho, h2⟩ := mem_ready.1 hi
      have his : i < ops.size := (Array.getElem?_eq_some_iff.1 ho).1
      have hiL : i < L.size := by rw [hL]; exact his
      have hn : L.getD i false = false := by rw [← getD_ft hiL]; exact h1
      have hp : ∀ p ∈ preds o, L.getD p false = true := by
        intro p hp
        obtain ⟨e, he, hh⟩ := List.mem_filterMap.1 hp
        split at hh
        · rename_i hb; cases hh; exact h2 e (by simpa using he) hb
        · cases hh
      have hun := unwaited_set hiL h1 ops.size
      rw [if_pos his] at hun
      refine NOne_sound hd ho (hstep _ s' i o hI ho hn hp) hs (fun ι' s2 a' w' hI2 g1 g2 g3 => ?_) (fun ι' e s2 ex a' w' hq g1 g2 g3 g4 => ⟨ι', e, s2, hq, hh.trans g1, g2, g3, hst.trans g4⟩)
      refine ih _ s2 ι' a' w' (by omega) (by simpa using hL) ?_ (hh.trans g1) g2 (hst.trans g3)
      have : (fun j => (L.setIfInBounds i true).getD j false) = fun j => if j = i then true else L.getD j false := by
        funext j
        exact getD_set_b hiL
      rw [this]
      exact hI2
  have hg : ∀ j, (Array.replicate ops.size false).getD j false = false := by
    intro j; simp only [Array.getD_eq_getD_getElem?, Array.getElem?_replicate]; split <;> rfl
  refine key ops.size _ s ι0 a0 _ ?_ (by simp) ?_ (.refl _) ⟨hs0.fr, hs0.df, hs0.sim.drew _, hs0.rd⟩ (Step.drew ι0 s.h w0 _)
  · have : ∀ k, k ≤ ops.size → unwaited (Array.replicate ops.size false) k ≤ k := by
      intro k; induction k with
      | zero => intro _; exact Nat.le_refl _
      | succ k ih => intro hk; have := ih (Nat.le_of_lt hk); simp only [unwaited]; split <;> omega
    exact this _ (Nat.le_refl _)
  · have : (fun j => (Array.replicate ops.size false).getD j false) = fun _ => false := by funext j; exact hg j
    rw [this]
    exact h0
def lowOK (ops : Array Oper) : Bool := (List.range ops.size).all fun i => match ops[i]? with | some o => (preds o).all (fun p => decide (p < i)) | none => true
theorem lowOK_spec {ops : Array Oper} (h : lowOK ops = true) : ∀ (i : Nat) o, ops[i]? = some o → ∀ p ∈ preds o, p < i := by
  intro i o ho p hp
  have hi := (Array.getElem?_eq_some_iff.1 ho).1
  have := List.all_eq_true.1 h i (List.mem_range.2 hi)
  rw [ho] at this
  simpa using List.all_eq_true.1 this p hp
/-- a region in any order: a fact for each operation that has been done, and what holds always. 'b' is what comes before each operation in every order. -/
theorem NC.anyF {id : Nat} {ops : Array Oper} {b : List Nat} {Q : DExit → St → Prop} {s : St} (hmix : P.follows .mixedOrders = true) (hd : dstsOK nt ops = true) (hlow : lowOK ops = true) (hb : befs ops.toList [] = b)
    (G : St → Prop) (F : Nat → St → Prop) (h0 : G s)
    (hstep : ∀ (i : Nat) (o : Oper) (s : St), ops[i]? = some o → G s → (∀ j, (b.getD i 0).testBit j = true → F j s) →
      NOne P ops o s (fun s' => G s' ∧ F i s' ∧ ∀ j, j < ops.size → j ≠ i → (b.getD j 0).testBit i = false → F j s → F j s') Q)
    (hfin : ∀ s, G s → (∀ i, i < ops.size → F i s) → Q .normal s) : NC P nt (.region id ops true) Q s := by
  subst hb
  refine NC.any hmix hd (lowOK_spec hlow) (fun L s => G s ∧ (∀ i, L i = true → i < ops.size) ∧ (∀ (i : Nat) o, L i = true → ops[i]? = some o → ∀ p ∈ preds o, L p = true) ∧ ∀ i, L i = true → F i s) ⟨h0, by simp, by simp, by simp⟩ ?_ (fun L s hI hall => hfin s hI.1 fun i hi => hI.2.2.2 i (hall i hi))
  rintro L s i o ⟨hG, hsz, hdn, hF⟩ ho hn hp
  have hi := (Array.getElem?_eq_some_iff.1 ho).1
  have hcl : ∀ (k : Nat) o, ops[k]? = some o → (∀ p ∈ preds o, L p = true) → ∀ j, ((befs ops.toList []).getD k 0).testBit j = true → L j = true := fun k o ho hp j hj =>
    bef_closed (D := fun j => L j = true) (fun i o hi ho p hp => hdn i o hi ho p hp) k o ho hp j hj
  have hx := hstep i o s ho hG fun j hj => hF j (hcl i o ho hp j hj)
  have fin : ∀ s', (G s' ∧ F i s' ∧ ∀ j, j < ops.size → j ≠ i → ((befs ops.toList []).getD j 0).testBit i = false → F j s → F j s') →
      (G s' ∧ (∀ j, (if j = i then true else L j) = true → j < ops.size) ∧ (∀ (j : Nat) o, (if j = i then true else L j) = true → ops[j]? = some o → ∀ p ∈ preds o, (if p = i then true else L p) = true) ∧ ∀ j, (if j = i then true else L j) = true → F j s') := by
    rintro s' ⟨g, f, st⟩
    refine ⟨g, fun j hj => ?_, fun j oj hj hoj p hpm => ?_, fun j hj => ?_⟩
    · by_cases hji : j = i
      · rw [hji]; exact hi
      · rw [if_neg hji] at hj; exact hsz j hj
    · by_cases hpi : p = i
      · rw [if_pos hpi]
      · rw [if_neg hpi]
        by_cases hji : j = i
        · subst hji; rw [ho] at hoj; cases hoj; exact hp p hpm
        · rw [if_neg hji] at hj; exact hdn j oj hj hoj p hpm
    · by_cases hji : j = i
      · rw [hji]; exact f
      · rw [if_neg hji] at hj
        refine st j (hsz j hj) hji ?_ (hF j hj)
        cases hbit : ((befs ops.toList []).getD j 0).testBit i with
        | false => rfl
        | true =>
          have hjs := hsz j hj
          have hoj := Array.getElem?_eq_getElem hjs
          have := hcl j _ hoj (hdn j _ hj hoj) i hbit
          rw [hn] at this
          cases this
  unfold NOne at hx ⊢
  cases hw : dWanted ops s.fr o with
  | none => rw [hw] at hx; exact hx.elim
  | some bb =>
    rw [hw] at hx
    cases bb with
    | false => exact fin _ hx
    | true => exact NNext_mono fin (fun _ _ h => h) hx
section
variable {ops : Array Oper} {o : Oper} {s : St} {K : St → Prop} {Q : DExit → St → Prop} {v : Value} {h' : DHeap}
theorem NOne_val (hw : dWanted ops s.fr o = some true) (hop : dOp P (evalF s.h.ng s.fr) o s.h = .ok (.value v) h') (hK : K ⟨s.fr.put o.dst v, s.df, h', s.rd⟩) : NOne P ops o s K Q := by
  unfold NOne
  rw [hw, hop]
  exact hK
theorem NOne_skip (hw : dWanted ops s.fr o = some true) (hop : dOp P (evalF s.h.ng s.fr) o s.h = .ok .skip h') (hK : K ⟨s.fr.put o.dst undef, s.df, h', s.rd⟩) : NOne P ops o s K Q := by
  unfold NOne
  rw [hw, hop]
  exact hK
theorem NOne_call {f : FuncId} {args : List Value} {R : DEnd → DHeap → Prop} (hw : dWanted ops s.fr o = some true) (hop : dOp P (evalF s.h.ng s.fr) o s.h = .ok (.enter f args) h') (hc : Ct P f args h' R) (hK : ∀ r h2, R r h2 → XEnd o s r h2 K Q) : NOne P ops o s K Q := by
  unfold NOne
  rw [hw, hop]
  exact ⟨R, hc, hK⟩
end
theorem NOne_strip (ops : Array Oper) (o : Oper) (s : St) (K : St → Prop) (Q : DExit → St → Prop) : NOne P (ops.map stripO) (stripO o) s K Q = NOne P ops o s K Q := by
  unfold NOne
  rw [dWanted_strip, dOp_strip]
  rfl
/-- the same, without the places -/
theorem NC.anyL {id : Nat} {ops : Array Oper} {l : List Oper} {b : List Nat} {Q : DExit → St → Prop} {s : St} (hmix : P.follows .mixedOrders = true) (hd : dstsOK nt ops = true) (hlow : lowOK ops = true) (hb : befs ops.toList [] = b) (hl : ops.map stripO = l.toArray)
    (G : St → Prop) (F : Nat → St → Prop) (h0 : G s)
    (hstep : ∀ (i : Nat) (o : Oper) (s : St), l[i]? = some o → G s → (∀ j, (b.getD i 0).testBit j = true → F j s) →
      NOne P l.toArray o s (fun s' => G s' ∧ F i s' ∧ ∀ j, j < l.length → j ≠ i → (b.getD j 0).testBit i = false → F j s → F j s') Q)
    (hfin : ∀ s, G s → (∀ i, i < l.length → F i s) → Q .normal s) : NC P nt (.region id ops true) Q s := by
  have hsz : ops.size = l.length := by
    have := congrArg Array.size hl
    simpa using this
  refine NC.anyF hmix hd hlow hb G F h0 (fun i o s ho g hF => ?_) (fun s g hF => hfin s g fun i hi => hF i (by omega))
  have ho' : l[i]? = some (stripO o) := by
    have := congrArg (fun a : Array Oper => a[i]?) hl
    simp only [Array.getElem?_map, ho, Option.map_some] at this
    simpa using this.symm
  have := hstep i (stripO o) s ho' g hF
  rw [← hl, NOne_strip] at this
  rw [hsz]
  exact this
end Go.D

namespace Go.Proofs.Ytlhgijpdhniddaa
open Go.D
set_option maxRecDepth 100000

abbrev resCells (x : Res) (v : Value) : List Value := [.int .i64 x.e, v, .int .i64 x.s, .int .i64 x.p]
abbrev ptrV (id o : Nat) : Value := .pointer (some ⟨id, o, none⟩)
def SrF (h : DHeap) (A B : Nat) (ra rb : Res) (va vb : Value) (i : Nat) (s : St) : Prop :=
  match i with
  | 0 => s.fr 7 = some (ptrV A 2)
  | 1 => s.fr 8 = some (resV ra va)
  | 2 => s.fr 9 = some (ptrV B 2)
  | 3 => s.fr 10 = some (resV rb vb)
  | 4 => ∃ p cs, s.fr 5 = some (ptrV p 0) ∧ h.next ≤ p ∧ s.h.get p = some (.row cs 0 false) ∧ cs.length = 4
  | 5 => ∃ p cs, s.fr 6 = some (ptrV p 0) ∧ h.next ≤ p ∧ s.h.get p = some (.row cs 0 false) ∧ cs.length = 4
  | 6 => ∃ p, s.fr 5 = some (ptrV p 0) ∧ h.next ≤ p ∧ s.h.get p = some (.row (resCells ra va) 0 false)
  | 7 => ∃ p, s.fr 6 = some (ptrV p 0) ∧ h.next ≤ p ∧ s.h.get p = some (.row (resCells rb vb) 0 false)
  | _ => True
structure SrG (h : DHeap) (fr : Fr) (s : St) : Prop where
  df : s.df = []
  rd : s.rd = none
  ext : Ext h s.h
  f2 : s.fr 2 = fr 2
  f3 : s.fr 3 = fr 3
  f4 : s.fr 4 = fr 4
  ne : ∀ p q, s.fr 5 = some (ptrV p 0) → s.fr 6 = some (ptrV q 0) → p ≠ q
  l5 : ∀ p, s.fr 5 = some (ptrV p 0) → p < s.h.next
  l6 : ∀ p, s.fr 6 = some (ptrV p 0) → p < s.h.next
def srDst : Nat → Nat
  | 0 => 7 | 1 => 8 | 2 => 9 | 3 => 10 | 4 => 5 | 5 => 6 | 6 => 5 | 7 => 6 | _ => 0
theorem SrF.keep {h : DHeap} {A B : Nat} {ra rb : Res} {va vb : Value} {fr : Fr} {s s' : St} {d : Nat} (g : SrG h fr s) (e : Ext s.h s'.h) (hd : ∀ t, t ≠ d → s'.fr t = s.fr t) (j : Nat) (hj : srDst j ≠ d) (f : SrF h A B ra rb va vb j s) : SrF h A B ra rb va vb j s' := by
  match j with
  | 0 => exact (hd _ hj).trans f
  | 1 => exact (hd _ hj).trans f
  | 2 => exact (hd _ hj).trans f
  | 3 => exact (hd _ hj).trans f
  | 4 =>
    obtain ⟨p, cs, f1, f2, f3, f4⟩ := f
    exact ⟨p, cs, (hd _ hj).trans f1, f2, (e.get _ (g.l5 p f1)).trans f3, f4⟩
  | 5 =>
    obtain ⟨p, cs, f1, f2, f3, f4⟩ := f
    exact ⟨p, cs, (hd _ hj).trans f1, f2, (e.get _ (g.l6 p f1)).trans f3, f4⟩
  | 6 =>
    obtain ⟨p, f1, f2, f3⟩ := f
    exact ⟨p, (hd _ hj).trans f1, f2, (e.get _ (g.l5 p f1)).trans f3⟩
  | 7 =>
    obtain ⟨p, f1, f2, f3⟩ := f
    exact ⟨p, (hd _ hj).trans f1, f2, (e.get _ (g.l6 p f1)).trans f3⟩
  | _ + 8 => trivial
/-- a name is given a value, and the heap stays -/
theorem SrG.put {h : DHeap} {fr : Fr} {s : St} {d : Nat} {v : Value} (g : SrG h fr s) (hd : d = 7 ∨ d = 8 ∨ d = 9 ∨ d = 10) : SrG h fr ⟨s.fr.put (some d) v, s.df, s.h, s.rd⟩ := by
  have k : ∀ t, t < 7 → s.fr.put (some d) v t = s.fr t := fun t ht => put_other _ _ (by omega)
  exact ⟨g.df, g.rd, g.ext, (k _ (by decide)).trans g.f2, (k _ (by decide)).trans g.f3, (k _ (by decide)).trans g.f4, fun p q h1 h2 => g.ne p q ((k _ (by decide)).symm.trans h1) ((k _ (by decide)).symm.trans h2), fun p h1 => g.l5 p ((k _ (by decide)).symm.trans h1), fun p h1 => g.l6 p ((k _ (by decide)).symm.trans h1)⟩
theorem sameRow_region {h : DHeap} {A B : Nat} {ra rb : Res} {va vb : Value} {fr : Fr} (fA : fr 2 = some (ptrV A 0)) (fB : fr 3 = some (ptrV B 0)) (h5 : ∀ p, fr 5 ≠ some (ptrV p 0)) (h6 : ∀ p, fr 6 ≠ some (ptrV p 0)) (hA : A < h.next) (hB : B < h.next)
    (gA : cellsAt h A 2 4 = some (resV ra va)) (gB : cellsAt h B 2 4 = some (resV rb vb)) (oA : (resCells ra va).all Value.oneCell' = true) (oB : (resCells rb vb).all Value.oneCell' = true) :
    NC Try.prog 51 r51_0 (DThen (fun s => SrG h fr s ∧ SrF h A B ra rb va vb 6 s ∧ SrF h A B ra rb va vb 7 s) (fun _ _ => False)) ⟨fr, [], h, none⟩ := by
  have kA : ∀ K, Ext h K → cellsAt K A 2 4 = some (resV ra va) := fun K e => by
    have := e.get A hA
    unfold cellsAt at gA ⊢
    rw [this]
    exact gA
  have kB : ∀ K, Ext h K → cellsAt K B 2 4 = some (resV rb vb) := fun K e => by
    have := e.get B hB
    unfold cellsAt at gB ⊢
    rw [this]
    exact gB
  refine NC.anyL (l := l51_0) (by kernel_rfl) (by kernel_rfl) (by kernel_rfl) rfl (by kernel_rfl) (SrG h fr) (SrF h A B ra rb va vb) ⟨rfl, rfl, .refl _, rfl, rfl, rfl, fun p q h => absurd h (h5 p), fun p h => absurd h (h5 p), fun p h => absurd h (h6 p)⟩ ?_ (fun s g f => ⟨g, f 6 (by decide), f 7 (by decide)⟩)
  intro i o s ho g hF
  have hi : i < 8 := (List.getElem?_eq_some_iff.1 ho).1
  match i, hi with
  | 0, _ =>
    simp only [l51_0, List.getElem?_cons_zero, List.getElem?_cons_succ, Option.some.injEq] at ho
    subst ho
    refine NOne_val (v := ptrV A 2) (h' := s.h) (by simp -implicitDefEqProofs (disch := first | omega | (simp -implicitDefEqProofs only [go_sem, List.size_toArray, List.length_cons, List.length_nil, Nat.reduceAdd]; done)) only [go_sem, Int.reduceLT, Int.reduceLE, Int.reduceEq, reduceIte, true_and, Nat.zero_add, Nat.add_zero, Option.map_some]) (by simp -implicitDefEqProofs (disch := first | omega | (simp -implicitDefEqProofs only [go_sem, List.size_toArray, List.length_cons, List.length_nil, Nat.reduceAdd]; done)) only [go_sem, Int.reduceLT, Int.reduceLE, Int.reduceEq, reduceIte, true_and, Nat.zero_add, Nat.add_zero, Option.map_some, g.f2, fA]) ?_
    refine ⟨g.put (by decide), (show (s.fr.put (some 7) (ptrV A 2)) 7 = some (ptrV A 2) from put_same _ _ _), fun j hj hji hb f => f.keep (s' := ⟨s.fr.put (some 7) (ptrV A 2), s.df, s.h, s.rd⟩) (d := 7) g (.refl _) (fun t ht => put_other _ _ ht) j ?_⟩
    have : j < 8 := hj
    match j, this with
    | 0, _ => exact absurd rfl hji
    | 1, _ => decide
    | 2, _ => decide
    | 3, _ => decide
    | 4, _ => decide
    | 5, _ => decide
    | 6, _ => decide
    | 7, _ => decide
  | 1, _ =>
    simp only [l51_0, List.getElem?_cons_zero, List.getElem?_cons_succ, Option.some.injEq] at ho
    subst ho
    have f0 : s.fr 7 = some (ptrV A 2) := hF 0 (by decide)
    refine NOne_val (v := resV ra va) (h' := s.h) (by simp -implicitDefEqProofs (disch := first | omega | (simp -implicitDefEqProofs only [go_sem, List.size_toArray, List.length_cons, List.length_nil, Nat.reduceAdd]; done)) only [go_sem, Int.reduceLT, Int.reduceLE, Int.reduceEq, reduceIte, true_and, Nat.zero_add, Nat.add_zero, Option.map_some]) (by simp -implicitDefEqProofs (disch := first | omega | (simp -implicitDefEqProofs only [go_sem, List.size_toArray, List.length_cons, List.length_nil, Nat.reduceAdd]; done)) only [go_sem, Int.reduceLT, Int.reduceLE, Int.reduceEq, reduceIte, true_and, Nat.zero_add, Nat.add_zero, Option.map_some, f0, kA _ g.ext]) ?_
    refine ⟨g.put (by decide), (show (s.fr.put (some 8) (resV ra va)) 8 = some (resV ra va) from put_same _ _ _), fun j hj hji hb f => f.keep (s' := ⟨s.fr.put (some 8) (resV ra va), s.df, s.h, s.rd⟩) (d := 8) g (.refl _) (fun t ht => put_other _ _ ht) j ?_⟩
    have : j < 8 := hj
    match j, this with
    | 0, _ => decide
    | 1, _ => exact absurd rfl hji
    | 2, _ => decide
    | 3, _ => decide
    | 4, _ => decide
    | 5, _ => decide
    | 6, _ => decide
    | 7, _ => decide
  | 2, _ =>
    simp only [l51_0, List.getElem?_cons_zero, List.getElem?_cons_succ, Option.some.injEq] at ho
    subst ho
    refine NOne_val (v := ptrV B 2) (h' := s.h) (by simp -implicitDefEqProofs (disch := first | omega | (simp -implicitDefEqProofs only [go_sem, List.size_toArray, List.length_cons, List.length_nil, Nat.reduceAdd]; done)) only [go_sem, Int.reduceLT, Int.reduceLE, Int.reduceEq, reduceIte, true_and, Nat.zero_add, Nat.add_zero, Option.map_some]) (by simp -implicitDefEqProofs (disch := first | omega | (simp -implicitDefEqProofs only [go_sem, List.size_toArray, List.length_cons, List.length_nil, Nat.reduceAdd]; done)) only [go_sem, Int.reduceLT, Int.reduceLE, Int.reduceEq, reduceIte, true_and, Nat.zero_add, Nat.add_zero, Option.map_some, g.f3, fB]) ?_
    refine ⟨g.put (by decide), (show (s.fr.put (some 9) (ptrV B 2)) 9 = some (ptrV B 2) from put_same _ _ _), fun j hj hji hb f => f.keep (s' := ⟨s.fr.put (some 9) (ptrV B 2), s.df, s.h, s.rd⟩) (d := 9) g (.refl _) (fun t ht => put_other _ _ ht) j ?_⟩
    have : j < 8 := hj
    match j, this with
    | 0, _ => decide
    | 1, _ => decide
    | 2, _ => exact absurd rfl hji
    | 3, _ => decide
    | 4, _ => decide
    | 5, _ => decide
    | 6, _ => decide
    | 7, _ => decide
  | 3, _ =>
    simp only [l51_0, List.getElem?_cons_zero, List.getElem?_cons_succ, Option.some.injEq] at ho
    subst ho
    have f0 : s.fr 9 = some (ptrV B 2) := hF 2 (by decide)
    refine NOne_val (v := resV rb vb) (h' := s.h) (by simp -implicitDefEqProofs (disch := first | omega | (simp -implicitDefEqProofs only [go_sem, List.size_toArray, List.length_cons, List.length_nil, Nat.reduceAdd]; done)) only [go_sem, Int.reduceLT, Int.reduceLE, Int.reduceEq, reduceIte, true_and, Nat.zero_add, Nat.add_zero, Option.map_some]) (by simp -implicitDefEqProofs (disch := first | omega | (simp -implicitDefEqProofs only [go_sem, List.size_toArray, List.length_cons, List.length_nil, Nat.reduceAdd]; done)) only [go_sem, Int.reduceLT, Int.reduceLE, Int.reduceEq, reduceIte, true_and, Nat.zero_add, Nat.add_zero, Option.map_some, f0, kB _ g.ext]) ?_
    refine ⟨g.put (by decide), (show (s.fr.put (some 10) (resV rb vb)) 10 = some (resV rb vb) from put_same _ _ _), fun j hj hji hb f => f.keep (s' := ⟨s.fr.put (some 10) (resV rb vb), s.df, s.h, s.rd⟩) (d := 10) g (.refl _) (fun t ht => put_other _ _ ht) j ?_⟩
    have : j < 8 := hj
    match j, this with
    | 0, _ => decide
    | 1, _ => decide
    | 2, _ => decide
    | 3, _ => exact absurd rfl hji
    | 4, _ => decide
    | 5, _ => decide
    | 6, _ => decide
    | 7, _ => decide
  | 4, _ =>
    simp only [l51_0, List.getElem?_cons_zero, List.getElem?_cons_succ, Option.some.injEq] at ho
    subst ho
    have hbit : ((befs o51_0.toList []).getD 6 0).testBit 4 = true := by kernel_rfl
    refine NOne_val (v := ptrV s.h.next 0) (h' := s.h.push (.row [.int .i64 0, .slice none 0 0, .int .i64 0, .int .i64 0] 0 false)) (by simp -implicitDefEqProofs (disch := first | omega | (simp -implicitDefEqProofs only [go_sem, List.size_toArray, List.length_cons, List.length_nil, Nat.reduceAdd]; done)) only [go_sem, Int.reduceLT, Int.reduceLE, Int.reduceEq, reduceIte, true_and, Nat.zero_add, Nat.add_zero, Option.map_some]) (by simp -implicitDefEqProofs (disch := first | omega | (simp -implicitDefEqProofs only [go_sem, List.size_toArray, List.length_cons, List.length_nil, Nat.reduceAdd]; done)) only [go_sem, Int.reduceLT, Int.reduceLE, Int.reduceEq, reduceIte, true_and, Nat.zero_add, Nat.add_zero, Option.map_some]) ⟨⟨g.df, g.rd, g.ext.push _, (show (s.fr.put (some 5) (ptrV s.h.next 0)) 2 = s.fr 2 from put_other _ _ (by decide)).trans g.f2, (show (s.fr.put (some 5) (ptrV s.h.next 0)) 3 = s.fr 3 from put_other _ _ (by decide)).trans g.f3, (show (s.fr.put (some 5) (ptrV s.h.next 0)) 4 = s.fr 4 from put_other _ _ (by decide)).trans g.f4, fun p q h1 h2 => ?_, fun p h1 => ?_, fun p h1 => ?_⟩, ⟨s.h.next, _, (show (s.fr.put (some 5) (ptrV s.h.next 0)) 5 = some (ptrV s.h.next 0) from put_same _ _ _), g.ext.next, get_push_same _ _, rfl⟩, fun j hj hji hb f => f.keep (s' := ⟨s.fr.put (some 5) (ptrV s.h.next 0), s.df, s.h.push (.row [.int .i64 0, .slice none 0 0, .int .i64 0, .int .i64 0] 0 false), s.rd⟩) (d := 5) g (Ext.push1 _ _) (fun t ht => put_other _ _ ht) j ?_⟩
    · have e1 := (show (s.fr.put (some 5) (ptrV s.h.next 0)) 5 = some (ptrV s.h.next 0) from put_same _ _ _).symm.trans h1
      cases e1
      exact Nat.ne_of_gt (g.l6 q ((show (s.fr.put (some 5) (ptrV s.h.next 0)) 6 = s.fr 6 from put_other _ _ (by decide)).symm.trans h2))
    · have e1 := (show (s.fr.put (some 5) (ptrV s.h.next 0)) 5 = some (ptrV s.h.next 0) from put_same _ _ _).symm.trans h1
      cases e1
      exact Nat.lt_succ_self _
    · exact Nat.lt_succ_of_lt (g.l6 p ((show (s.fr.put (some 5) (ptrV s.h.next 0)) 6 = s.fr 6 from put_other _ _ (by decide)).symm.trans h1))
    · have : j < 8 := hj
      match j, this with
      | 0, _ => decide
      | 1, _ => decide
      | 2, _ => decide
      | 3, _ => decide
      | 4, _ => exact absurd rfl hji
      | 5, _ => decide
      | 6, _ => exact absurd (hb.symm.trans hbit) (by decide)
      | 7, _ => decide
  | 5, _ =>
    simp only [l51_0, List.getElem?_cons_zero, List.getElem?_cons_succ, Option.some.injEq] at ho
    subst ho
    have hbit : ((befs o51_0.toList []).getD 7 0).testBit 5 = true := by kernel_rfl
    refine NOne_val (v := ptrV s.h.next 0) (h' := s.h.push (.row [.int .i64 0, .slice none 0 0, .int .i64 0, .int .i64 0] 0 false)) (by simp -implicitDefEqProofs (disch := first | omega | (simp -implicitDefEqProofs only [go_sem, List.size_toArray, List.length_cons, List.length_nil, Nat.reduceAdd]; done)) only [go_sem, Int.reduceLT, Int.reduceLE, Int.reduceEq, reduceIte, true_and, Nat.zero_add, Nat.add_zero, Option.map_some]) (by simp -implicitDefEqProofs (disch := first | omega | (simp -implicitDefEqProofs only [go_sem, List.size_toArray, List.length_cons, List.length_nil, Nat.reduceAdd]; done)) only [go_sem, Int.reduceLT, Int.reduceLE, Int.reduceEq, reduceIte, true_and, Nat.zero_add, Nat.add_zero, Option.map_some]) ⟨⟨g.df, g.rd, g.ext.push _, (show (s.fr.put (some 6) (ptrV s.h.next 0)) 2 = s.fr 2 from put_other _ _ (by decide)).trans g.f2, (show (s.fr.put (some 6) (ptrV s.h.next 0)) 3 = s.fr 3 from put_other _ _ (by decide)).trans g.f3, (show (s.fr.put (some 6) (ptrV s.h.next 0)) 4 = s.fr 4 from put_other _ _ (by decide)).trans g.f4, fun p q h1 h2 => ?_, fun p h1 => ?_, fun p h1 => ?_⟩, ⟨s.h.next, _, (show (s.fr.put (some 6) (ptrV s.h.next 0)) 6 = some (ptrV s.h.next 0) from put_same _ _ _), g.ext.next, get_push_same _ _, rfl⟩, fun j hj hji hb f => f.keep (s' := ⟨s.fr.put (some 6) (ptrV s.h.next 0), s.df, s.h.push (.row [.int .i64 0, .slice none 0 0, .int .i64 0, .int .i64 0] 0 false), s.rd⟩) (d := 6) g (Ext.push1 _ _) (fun t ht => put_other _ _ ht) j ?_⟩
    · have e1 := (show (s.fr.put (some 6) (ptrV s.h.next 0)) 6 = some (ptrV s.h.next 0) from put_same _ _ _).symm.trans h2
      cases e1
      exact Nat.ne_of_lt (g.l5 p ((show (s.fr.put (some 6) (ptrV s.h.next 0)) 5 = s.fr 5 from put_other _ _ (by decide)).symm.trans h1))
    · exact Nat.lt_succ_of_lt (g.l5 p ((show (s.fr.put (some 6) (ptrV s.h.next 0)) 5 = s.fr 5 from put_other _ _ (by decide)).symm.trans h1))
    · have e1 := (show (s.fr.put (some 6) (ptrV s.h.next 0)) 6 = some (ptrV s.h.next 0) from put_same _ _ _).symm.trans h1
      cases e1
      exact Nat.lt_succ_self _
    · have : j < 8 := hj
      match j, this with
      | 0, _ => decide
      | 1, _ => decide
      | 2, _ => decide
      | 3, _ => decide
      | 4, _ => decide
      | 5, _ => exact absurd rfl hji
      | 6, _ => decide
      | 7, _ => exact absurd (hb.symm.trans hbit) (by decide)
  | 6, _ =>
    simp only [l51_0, List.getElem?_cons_zero, List.getElem?_cons_succ, Option.some.injEq] at ho
    subst ho
    obtain ⟨p, cs, f5, f6, f7, f8⟩ := hF 4 (by decide)
    have f9 := hF 1 (by decide)
    have f9 : s.fr 8 = some (resV ra va) := f9
    have hst : storeAt s.h p 0 (resCells ra va) = some (s.h.set p (.row (resCells ra va) 0 false)) := by
      match cs, f8 with
      | [_, _, _, _], _ => exact storeAt_row f7 (Nat.le_of_ble_eq_true rfl) oA
    refine NOne_skip (h' := s.h.set p (.row (resCells ra va) 0 false)) (by simp -implicitDefEqProofs (disch := first | omega | (simp -implicitDefEqProofs only [go_sem, List.size_toArray, List.length_cons, List.length_nil, Nat.reduceAdd]; done)) only [go_sem, Int.reduceLT, Int.reduceLE, Int.reduceEq, reduceIte, true_and, Nat.zero_add, Nat.add_zero, Option.map_some]) (by simp -implicitDefEqProofs (disch := first | omega | (simp -implicitDefEqProofs only [go_sem, List.size_toArray, List.length_cons, List.length_nil, Nat.reduceAdd]; done)) only [go_sem, Int.reduceLT, Int.reduceLE, Int.reduceEq, reduceIte, true_and, Nat.zero_add, Nat.add_zero, Option.map_some, f5, f9, hst]) ⟨⟨g.df, g.rd, g.ext.set f6, g.f2, g.f3, g.f4, g.ne, g.l5, g.l6⟩, ⟨p, f5, f6, get_set_same _ _⟩, fun j hj hji hb f => ?_⟩
    have : j < 8 := hj
    match j, this with
    | 0, _ => exact f
    | 1, _ => exact f
    | 2, _ => exact f
    | 3, _ => exact f
    | 4, _ =>
      obtain ⟨q, ds, e1, e2, e3, e4⟩ := f
      have e5 := f5.symm.trans e1
      cases e5
      exact ⟨p, _, f5, f6, get_set_same _ _, rfl⟩
    | 5, _ =>
      obtain ⟨q, ds, e1, e2, e3, e4⟩ := f
      exact ⟨q, ds, e1, e2, (get_set_other _ _ (g.ne p q f5 e1).symm).trans e3, e4⟩
    | 6, _ => exact absurd rfl hji
    | 7, _ =>
      obtain ⟨q, e1, e2, e3⟩ := f
      exact ⟨q, e1, e2, (get_set_other _ _ (g.ne p q f5 e1).symm).trans e3⟩
  | 7, _ =>
    simp only [l51_0, List.getElem?_cons_zero, List.getElem?_cons_succ, Option.some.injEq] at ho
    subst ho
    obtain ⟨p, cs, f5, f6, f7, f8⟩ := hF 5 (by decide)
    have f9 := hF 3 (by decide)
    have f9 : s.fr 10 = some (resV rb vb) := f9
    have hst : storeAt s.h p 0 (resCells rb vb) = some (s.h.set p (.row (resCells rb vb) 0 false)) := by
      match cs, f8 with
      | [_, _, _, _], _ => exact storeAt_row f7 (Nat.le_of_ble_eq_true rfl) oB
    refine NOne_skip (h' := s.h.set p (.row (resCells rb vb) 0 false)) (by simp -implicitDefEqProofs (disch := first | omega | (simp -implicitDefEqProofs only [go_sem, List.size_toArray, List.length_cons, List.length_nil, Nat.reduceAdd]; done)) only [go_sem, Int.reduceLT, Int.reduceLE, Int.reduceEq, reduceIte, true_and, Nat.zero_add, Nat.add_zero, Option.map_some]) (by simp -implicitDefEqProofs (disch := first | omega | (simp -implicitDefEqProofs only [go_sem, List.size_toArray, List.length_cons, List.length_nil, Nat.reduceAdd]; done)) only [go_sem, Int.reduceLT, Int.reduceLE, Int.reduceEq, reduceIte, true_and, Nat.zero_add, Nat.add_zero, Option.map_some, f5, f9, hst]) ⟨⟨g.df, g.rd, g.ext.set f6, g.f2, g.f3, g.f4, g.ne, g.l5, g.l6⟩, ⟨p, f5, f6, get_set_same _ _⟩, fun j hj hji hb f => ?_⟩
    have : j < 8 := hj
    match j, this with
    | 0, _ => exact f
    | 1, _ => exact f
    | 2, _ => exact f
    | 3, _ => exact f
    | 4, _ =>
      obtain ⟨q, ds, e1, e2, e3, e4⟩ := f
      exact ⟨q, ds, e1, e2, (get_set_other _ _ (g.ne q p e1 f5)).trans e3, e4⟩
    | 5, _ =>
      obtain ⟨q, ds, e1, e2, e3, e4⟩ := f
      have e5 := f5.symm.trans e1
      cases e5
      exact ⟨p, _, f5, f6, get_set_same _ _, rfl⟩
    | 6, _ =>
      obtain ⟨q, e1, e2, e3⟩ := f
      exact ⟨q, e1, e2, (get_set_other _ _ (g.ne q p e1 f5)).trans e3⟩
    | 7, _ => exact absurd rfl hji
end Go.Proofs.Ytlhgijpdhniddaa

namespace Go.Proofs.Ytlhgijpdhniddaa
open Go.D
set_option maxRecDepth 100000

theorem undef_ptr {p : Nat} {l : List Value} {k n : Nat} (h1 : l.length ≤ k) : argsFr l n k ≠ some (ptrV p 0) := by
  unfold argsFr
  rw [if_neg (by omega)]
  split <;> simp [undef, ptrV]
theorem stSameRow_c {h : DHeap} {x y : Row} {va vb : Value} (ha : Arg fI64.rep h va x.x.vs) (hb : Arg fI64.rep h vb y.x.vs) (hl : x.x.vs.length ≤ 4294967296) :
    DC Try.prog 51 [rowV x va, rowV y vb] h (.ret (.bool (sameRow x y))) h := by
  obtain ⟨x1, x2, ⟨x3, xs, x4, x5⟩⟩ := x
  obtain ⟨y1, y2, ⟨y3, ys, y4, y5⟩⟩ := y
  refine Ct.pure (go_51 (by simp) ?_) (vin_bool _)
  simp only at ha hb hl ⊢
  have c1 := ha.cells1
  have c2 := hb.cells1
  have oA : (resCells ⟨x3, xs, x4, x5⟩ va).all Value.oneCell' = true := by obtain ⟨_, _, rfl⟩ := ha.isSlice; rfl
  have oB : (resCells ⟨y3, ys, y4, y5⟩ vb).all Value.oneCell' = true := by obtain ⟨_, _, rfl⟩ := hb.isSlice; rfl
  obtain ⟨H, hH⟩ : ∃ H, H = (h.push (.row [.int .i64 x1, .int .i64 x2, .int .i64 x3, va, .int .i64 x4, .int .i64 x5] 0 false)).push (.row [.int .i64 y1, .int .i64 y2, .int .i64 y3, vb, .int .i64 y4, .int .i64 y5] 0 false) := ⟨_, rfl⟩
  have hE : Ext h H := by rw [hH]; exact (Ext.push1 _ _).push _
  have hHn : H.next = h.next + 2 := by rw [hH]; rfl
  have g1 : H.get h.next = some (.row [.int .i64 x1, .int .i64 x2, .int .i64 x3, va, .int .i64 x4, .int .i64 x5] 0 false) := by rw [hH]; exact get_p1
  have g2 : H.get (h.next + 1) = some (.row [.int .i64 y1, .int .i64 y2, .int .i64 y3, vb, .int .i64 y4, .int .i64 y5] 0 false) := by rw [hH]; exact get_push_same _ _
  simp -implicitDefEqProofs (disch := first | omega | (simp -implicitDefEqProofs only [go_sem, List.size_toArray, List.length_cons, List.length_nil, Nat.reduceAdd]; done)) only [go_sem, Int.reduceLT, Int.reduceLE, Int.reduceEq, reduceIte, true_and, Nat.zero_add, Nat.add_zero, Option.map_some, c51, c1, c2, next_push, ← hH]
  refine NC.mono (sameRow_region (A := h.next) (B := h.next + 1) (ra := ⟨x3, xs, x4, x5⟩) (rb := ⟨y3, ys, y4, y5⟩) (va := va) (vb := vb) (by simp -implicitDefEqProofs (disch := first | omega | (simp -implicitDefEqProofs only [go_sem, List.size_toArray, List.length_cons, List.length_nil, Nat.reduceAdd]; done)) only [go_sem, Int.reduceLT, Int.reduceLE, Int.reduceEq, reduceIte, true_and, Nat.zero_add, Nat.add_zero, Option.map_some]) (by simp -implicitDefEqProofs (disch := first | omega | (simp -implicitDefEqProofs only [go_sem, List.size_toArray, List.length_cons, List.length_nil, Nat.reduceAdd]; done)) only [go_sem, Int.reduceLT, Int.reduceLE, Int.reduceEq, reduceIte, true_and, Nat.zero_add, Nat.add_zero, Option.map_some]) (fun p => by simp -implicitDefEqProofs (disch := first | omega | (simp -implicitDefEqProofs only [go_sem, List.size_toArray, List.length_cons, List.length_nil, Nat.reduceAdd]; done)) only [go_sem, Int.reduceLT, Int.reduceLE, Int.reduceEq, reduceIte, true_and, Nat.zero_add, Nat.add_zero, Option.map_some]; exact undef_ptr (Nat.le_of_ble_eq_true rfl)) (fun p => by simp -implicitDefEqProofs (disch := first | omega | (simp -implicitDefEqProofs only [go_sem, List.size_toArray, List.length_cons, List.length_nil, Nat.reduceAdd]; done)) only [go_sem, Int.reduceLT, Int.reduceLE, Int.reduceEq, reduceIte, true_and, Nat.zero_add, Nat.add_zero, Option.map_some]; exact undef_ptr (Nat.le_of_ble_eq_true rfl)) (by omega) (by omega) (by rw [cellsAt_row g1 (Nat.le_of_ble_eq_true rfl)]; rfl) (by rw [cellsAt_row g2 (Nat.le_of_ble_eq_true rfl)]; rfl) oA oB) ?_
  rintro e ⟨fr, df, hh, rd⟩ hM
  cases e <;> try exact hM.elim
  obtain ⟨⟨hdf, hrd, hEx, f2, f3, f4, _, _, _⟩, ⟨p, f5, hp, gp⟩, q, f6, hq, gq⟩ := hM
  simp only at hdf hrd hEx f2 f3 f4 f5 f6 gp gq
  subst hdf hrd
  have q2 := f2.trans (show _ = some (ptrV h.next 0) by simp -implicitDefEqProofs (disch := first | omega | (simp -implicitDefEqProofs only [go_sem, List.size_toArray, List.length_cons, List.length_nil, Nat.reduceAdd]; done)) only [go_sem, Int.reduceLT, Int.reduceLE, Int.reduceEq, reduceIte, true_and, Nat.zero_add, Nat.add_zero, Option.map_some])
  have q3 := f3.trans (show _ = some (ptrV (h.next + 1) 0) by simp -implicitDefEqProofs (disch := first | omega | (simp -implicitDefEqProofs only [go_sem, List.size_toArray, List.length_cons, List.length_nil, Nat.reduceAdd]; done)) only [go_sem, Int.reduceLT, Int.reduceLE, Int.reduceEq, reduceIte, true_and, Nat.zero_add, Nat.add_zero, Option.map_some])
  have k1 := (hEx.get _ (by omega)).trans g1
  have k2 := (hEx.get _ (by omega)).trans g2
  have a1 : cellAt hh h.next 0 = some (.int .i64 x1) := cellAt_row k1
  have a2 : cellAt hh h.next 1 = some (.int .i64 x2) := cellAt_row k1
  have b1 : cellAt hh (h.next + 1) 0 = some (.int .i64 y1) := cellAt_row k2
  have b2 : cellAt hh (h.next + 1) 1 = some (.int .i64 y2) := cellAt_row k2
  have a3 : cellAt hh p 0 = some (.int .i64 x3) := cellAt_row gp
  have av : cellAt hh p 1 = some va := cellAt_row gp
  have a4 : cellAt hh p 2 = some (.int .i64 x4) := cellAt_row gp
  have a5 : cellAt hh p 3 = some (.int .i64 x5) := cellAt_row gp
  have b3 : cellAt hh q 0 = some (.int .i64 y3) := cellAt_row gq
  have bv : cellAt hh q 1 = some vb := cellAt_row gq
  have b4 : cellAt hh q 2 = some (.int .i64 y4) := cellAt_row gq
  have b5 : cellAt hh q 3 = some (.int .i64 y5) := cellAt_row gq
  have hEf := hE.trans hEx
  by_cases e1 : x1 = y1
  case neg =>
    simp -implicitDefEqProofs (disch := first | omega | (simp -implicitDefEqProofs only [go_sem, List.size_toArray, List.length_cons, List.length_nil, Nat.reduceAdd]; done)) only [go_sem, Int.reduceLT, Int.reduceLE, Int.reduceEq, reduceIte, true_and, Nat.zero_add, Nat.add_zero, Option.map_some, q2, q3, f5, f6, a1, b1, e1, dPick_t, dPick_f]
    exact ⟨_, rfl, by simp [sameRow, sameRes, e1], hEf⟩
  have t1 := eq_true e1
  by_cases e2 : x2 = y2
  case neg =>
    simp -implicitDefEqProofs (disch := first | omega | (simp -implicitDefEqProofs only [go_sem, List.size_toArray, List.length_cons, List.length_nil, Nat.reduceAdd]; done)) only [go_sem, Int.reduceLT, Int.reduceLE, Int.reduceEq, reduceIte, true_and, Nat.zero_add, Nat.add_zero, Option.map_some, q2, q3, f5, f6, a1, b1, a2, b2, t1, e2, dPick_t, dPick_f]
    exact ⟨_, rfl, by simp [sameRow, sameRes, e2], hEf⟩
  have t2 := eq_true e2
  by_cases e3 : x3 = y3
  case neg =>
    simp -implicitDefEqProofs (disch := first | omega | (simp -implicitDefEqProofs only [go_sem, List.size_toArray, List.length_cons, List.length_nil, Nat.reduceAdd]; done)) only [go_sem, Int.reduceLT, Int.reduceLE, Int.reduceEq, reduceIte, true_and, Nat.zero_add, Nat.add_zero, Option.map_some, q2, q3, f5, f6, a1, b1, a2, b2, a3, b3, t1, t2, e3, dPick_t, dPick_f]
    exact ⟨_, rfl, by simp [sameRow, sameRes, e3], hEf⟩
  have t3 := eq_true e3
  by_cases e4 : x4 = y4
  case neg =>
    simp -implicitDefEqProofs (disch := first | omega | (simp -implicitDefEqProofs only [go_sem, List.size_toArray, List.length_cons, List.length_nil, Nat.reduceAdd]; done)) only [go_sem, Int.reduceLT, Int.reduceLE, Int.reduceEq, reduceIte, true_and, Nat.zero_add, Nat.add_zero, Option.map_some, q2, q3, f5, f6, a1, b1, a2, b2, a3, b3, a4, b4, t1, t2, t3, e4, dPick_t, dPick_f]
    exact ⟨_, rfl, by simp [sameRow, sameRes, e4], hEf⟩
  have t4 := eq_true e4
  by_cases e5 : x5 = y5
  case neg =>
    simp -implicitDefEqProofs (disch := first | omega | (simp -implicitDefEqProofs only [go_sem, List.size_toArray, List.length_cons, List.length_nil, Nat.reduceAdd]; done)) only [go_sem, Int.reduceLT, Int.reduceLE, Int.reduceEq, reduceIte, true_and, Nat.zero_add, Nat.add_zero, Option.map_some, q2, q3, f5, f6, a1, b1, a2, b2, a3, b3, a4, b4, a5, b5, t1, t2, t3, t4, e5, dPick_t, dPick_f]
    exact ⟨_, rfl, by simp [sameRow, sameRes, e5], hEf⟩
  have t5 := eq_true e5
  simp -implicitDefEqProofs (disch := first | omega | (simp -implicitDefEqProofs only [go_sem, List.size_toArray, List.length_cons, List.length_nil, Nat.reduceAdd]; done)) only [go_sem, Int.reduceLT, Int.reduceLE, Int.reduceEq, reduceIte, true_and, Nat.zero_add, Nat.add_zero, Option.map_some, q2, q3, f5, f6, a1, b1, a2, b2, a3, b3, a4, b4, a5, b5, t1, t2, t3, t4, t5, av, bv, dPick_t, dPick_f]
  refine ncall (eqInts_c (ha.ext hEf) (hb.ext hEf) hl) ?_
  simp -implicitDefEqProofs (disch := first | omega | (simp -implicitDefEqProofs only [go_sem, List.size_toArray, List.length_cons, List.length_nil, Nat.reduceAdd]; done)) only [go_sem, Int.reduceLT, Int.reduceLE, Int.reduceEq, reduceIte, true_and, Nat.zero_add, Nat.add_zero, Option.map_some, dPick_t, dPick_f]
  exact ⟨_, rfl, by simp [sameRow, sameRes, e1, e2, e3, e4, e5], hEf⟩
end Go.Proofs.Ytlhgijpdhniddaa

namespace Go.Proofs.Ytlhgijpdhniddaa
open Go.D
set_option maxRecDepth 100000

abbrev rowCells (r : Row) (v : Value) : List Value := [.int .i64 r.ses, .int .i64 r.req, .int .i64 r.x.e, v, .int .i64 r.x.s, .int .i64 r.x.p]
theorem row6_push {H : DHeap} {r : Row} {v : Value} (hv : (rowCells r v).all Value.oneCell' = true) : storeAt (H.push (.row [.int .i64 0, .int .i64 0, .int .i64 0, .slice none 0 0, .int .i64 0, .int .i64 0] 0 false)) H.next 0 (rowCells r v) = some (H.push (.row (rowCells r v) 0 false)) := storeAll_push rfl hv
theorem eqRows_c {h : DHeap} {a b : Value} {l m : List Row} (ha : Arg rRow h a l) (hb : Arg rRow h b m) (hlen : l.length ≤ 4294967296) (hlv : ∀ r ∈ l, r.x.vs.length ≤ 4294967296) :
    DC Try.prog 50 [a, b, .func (.func 51) #[] #[]] h (.ret (.bool (sameL sameRow l m))) h := by
  refine Ct.pure (go_50 (by simp) ?_) (vin_bool _)
  have ea := ha.lens (P := Try.prog) (ts := #[24]) (t := 24) rfl isl_24
  have eb := hb.lens (P := Try.prog) (ts := #[24]) (t := 24) rfl isl_24
  by_cases hl : l.length = m.length
  case neg =>
    have hli : ¬ ((l.length : Nat) : Int) = (m.length : Nat) := by omega
    simp -implicitDefEqProofs (disch := first | omega | (simp -implicitDefEqProofs only [go_sem, List.size_toArray, List.length_cons, List.length_nil, Nat.reduceAdd]; done)) only [go_sem, Int.reduceLT, Int.reduceLE, Int.reduceEq, reduceIte, true_and, Nat.zero_add, Nat.add_zero, Option.map_some, c50, ea, eb, hli]
    exact ⟨_, rfl, by rw [sameL_len hl], .refl h⟩
  have hli : (((l.length : Nat) : Int) = (m.length : Nat)) = True := eq_true (by omega)
  simp -implicitDefEqProofs (disch := first | omega | (simp -implicitDefEqProofs only [go_sem, List.size_toArray, List.length_cons, List.length_nil, Nat.reduceAdd]; done)) only [go_sem, Int.reduceLT, Int.reduceLE, Int.reduceEq, reduceIte, true_and, Nat.zero_add, Nat.add_zero, Option.map_some, c50, ea, eb, hli]
  refine xloop (σ := Nat) (by kernel_rfl) (fun i s => s.df = [] ∧ Ext h s.h ∧ s.fr 1 = some b ∧ s.fr 2 = some (.func (.func 51) #[] #[]) ∧ s.fr 15 = some a ∧ s.fr 16 = some (.int .i64 (l.length : Nat)) ∧ s.fr 17 = some (.int .i64 (i : Nat)) ∧ i ≤ l.length ∧ sameL sameRow (l.drop i) (m.drop i) = sameL sameRow l m) (fun i => l.length - i) 0 ?_ ?_
  · simp -implicitDefEqProofs (disch := first | omega | (simp -implicitDefEqProofs only [go_sem, List.size_toArray, List.length_cons, List.length_nil, Nat.reduceAdd]; done)) only [go_sem, Int.reduceLT, Int.reduceLE, Int.reduceEq, reduceIte, true_and, Nat.zero_add, Nat.add_zero, Option.map_some]
    exact ⟨.refl _, rfl, Nat.zero_le _, by rw [List.drop_zero, List.drop_zero]⟩
  · rintro i ⟨fr, df, hh, rd⟩ K hK hX ⟨rfl, hE, f1, f2, f15, f16, f17, hi, ho⟩
    simp only at hE f1 f2 f15 f16 f17
    simp -implicitDefEqProofs (disch := first | omega | (simp -implicitDefEqProofs only [go_sem, List.size_toArray, List.length_cons, List.length_nil, Nat.reduceAdd]; done)) only [go_sem, Int.reduceLT, Int.reduceLE, Int.reduceEq, reduceIte, true_and, Nat.zero_add, Nat.add_zero, Option.map_some, f15, f16, f17]
    refine XIf_dec (fun hc1 => ?_) (fun hc1 => ?_)
    · have hj : i < l.length := by omega
      have hk : i < m.length := by omega
      have haE : Arg rRow hh a l := ha.ext hE
      obtain ⟨id1, o1, e1, _, hat1⟩ := haE.idx (P := Try.prog) (t := 24) el_24 (k := .i64) (i := i) (x := l[i]) (by simp)
      obtain ⟨v1, l1, s1, k1⟩ := row_at hat1
      have hv1 := rRow.one (rd_row s1 k1)
      have hw := wrap_succ hj (by omega)
      rw [sameL_drop hj hk] at ho
      obtain ⟨H1, hH1⟩ : ∃ H, H = hh.push (.row (rowCells l[i] v1) 0 false) := ⟨_, rfl⟩
      have hE1 : Ext hh H1 := by rw [hH1]; exact Ext.push1 _ _
      have hbE : Arg rRow H1 b m := hb.ext (hE.trans hE1)
      obtain ⟨id2, o2, e2, _, hat2⟩ := hbE.idx (P := Try.prog) (t := 24) el_24 (k := .i64) (i := i) (x := m[i]) (by simp)
      obtain ⟨v2, l2, s2, k2⟩ := row_at hat2
      have hv2 := rRow.one (rd_row s2 k2)
      obtain ⟨H2, hH2⟩ : ∃ H, H = H1.push (.row (rowCells m[i] v2) 0 false) := ⟨_, rfl⟩
      have hE2 : Ext H1 H2 := by rw [hH2]; exact Ext.push1 _ _
      have g1 : H2.get hh.next = some (.row (rowCells l[i] v1) 0 false) := by rw [hE2.get _ (by rw [hH1, next_push]; omega), hH1]; exact get_push_same _ _
      have g2 : H2.get H1.next = some (.row (rowCells m[i] v2) 0 false) := by rw [hH2]; exact get_push_same _ _
      have z1 : cellsAt H2 hh.next 0 6 = some (rowV l[i] v1) := by rw [cellsAt_row g1 (Nat.le_of_ble_eq_true rfl)]; rfl
      have z2 : cellsAt H2 H1.next 0 6 = some (rowV m[i] v2) := by rw [cellsAt_row g2 (Nat.le_of_ble_eq_true rfl)]; rfl
      have hE3 := hE1.trans hE2
      simp -implicitDefEqProofs (disch := first | omega | (simp -implicitDefEqProofs only [go_sem, List.size_toArray, List.length_cons, List.length_nil, Nat.reduceAdd]; done)) only [go_sem, Int.reduceLT, Int.reduceLE, Int.reduceEq, reduceIte, true_and, Nat.zero_add, Nat.add_zero, Option.map_some, f15, f17, e1, l1, row6_push hv1, ← hH1, f1, e2, l2, row6_push hv2, ← hH2, f2, z1, z2]
      refine ncall (stSameRow_c (x := l[i]) (y := m[i]) (s1.ext hE3) (s2.ext hE2) (hlv _ (List.getElem_mem hj))) ?_
      cases hs : sameRow l[i] m[i] with
      | true =>
        rw [hs, Bool.true_and] at ho
        simp -implicitDefEqProofs (disch := first | omega | (simp -implicitDefEqProofs only [go_sem, List.size_toArray, List.length_cons, List.length_nil, Nat.reduceAdd]; done)) only [go_sem, Int.reduceLT, Int.reduceLE, Int.reduceEq, reduceIte, true_and, Nat.zero_add, Nat.add_zero, Option.map_some, f17, hw]
        refine hK (i + 1) _ ?_ (by omega)
        exact ⟨by trivial, hE.trans hE3, by simp -implicitDefEqProofs (disch := first | omega | (simp -implicitDefEqProofs only [go_sem, List.size_toArray, List.length_cons, List.length_nil, Nat.reduceAdd]; done)) only [go_sem, Int.reduceLT, Int.reduceLE, Int.reduceEq, reduceIte, true_and, Nat.zero_add, Nat.add_zero, Option.map_some, f1], by simp -implicitDefEqProofs (disch := first | omega | (simp -implicitDefEqProofs only [go_sem, List.size_toArray, List.length_cons, List.length_nil, Nat.reduceAdd]; done)) only [go_sem, Int.reduceLT, Int.reduceLE, Int.reduceEq, reduceIte, true_and, Nat.zero_add, Nat.add_zero, Option.map_some, f2], by simp -implicitDefEqProofs (disch := first | omega | (simp -implicitDefEqProofs only [go_sem, List.size_toArray, List.length_cons, List.length_nil, Nat.reduceAdd]; done)) only [go_sem, Int.reduceLT, Int.reduceLE, Int.reduceEq, reduceIte, true_and, Nat.zero_add, Nat.add_zero, Option.map_some, f15], by simp -implicitDefEqProofs (disch := first | omega | (simp -implicitDefEqProofs only [go_sem, List.size_toArray, List.length_cons, List.length_nil, Nat.reduceAdd]; done)) only [go_sem, Int.reduceLT, Int.reduceLE, Int.reduceEq, reduceIte, true_and, Nat.zero_add, Nat.add_zero, Option.map_some, f16], by simp -implicitDefEqProofs (disch := first | omega | (simp -implicitDefEqProofs only [go_sem, List.size_toArray, List.length_cons, List.length_nil, Nat.reduceAdd]; done)) only [go_sem, Int.reduceLT, Int.reduceLE, Int.reduceEq, reduceIte, true_and, Nat.zero_add, Nat.add_zero, Option.map_some], by omega, ho⟩
      | false =>
        rw [hs, Bool.false_and] at ho
        simp -implicitDefEqProofs (disch := first | omega | (simp -implicitDefEqProofs only [go_sem, List.size_toArray, List.length_cons, List.length_nil, Nat.reduceAdd]; done)) only [go_sem, Int.reduceLT, Int.reduceLE, Int.reduceEq, reduceIte, true_and, Nat.zero_add, Nat.add_zero, Option.map_some]
        refine hX _ _ (by simp) ?_
        simp -implicitDefEqProofs (disch := first | omega | (simp -implicitDefEqProofs only [go_sem, List.size_toArray, List.length_cons, List.length_nil, Nat.reduceAdd]; done)) only [go_sem, Int.reduceLT, Int.reduceLE, Int.reduceEq, reduceIte, true_and, Nat.zero_add, Nat.add_zero, Option.map_some]
        exact ⟨_, rfl, by rw [← ho], hE.trans hE3⟩
    · obtain rfl : i = l.length := by omega
      refine hX _ _ (by simp) ?_
      simp -implicitDefEqProofs (disch := first | omega | (simp -implicitDefEqProofs only [go_sem, List.size_toArray, List.length_cons, List.length_nil, Nat.reduceAdd]; done)) only [go_sem, Int.reduceLT, Int.reduceLE, Int.reduceEq, reduceIte, true_and, Nat.zero_add, Nat.add_zero, Option.map_some]
      exact ⟨_, rfl, by rw [← ho, sameL_end hl], hE⟩
end Go.Proofs.Ytlhgijpdhniddaa

namespace Go.Proofs.Ytlhgijpdhniddaa
open Go.D
set_option maxRecDepth 100000

theorem stSame_c {h : DHeap} {n n' : Int} {cv rv cv' rv' : Value} {cells cells' : List Cell} {rows rows' : List Row} (hc : Arg fCell.rep h cv cells) (hr : Arg rRow h rv rows) (hc' : Arg fCell.rep h cv' cells') (hr' : Arg rRow h rv' rows') (hl : cells.length ≤ 4294967296)
    (hlr : rows.length ≤ 4294967296) (hlv : ∀ r ∈ rows, r.x.vs.length ≤ 4294967296) :
    DC Try.prog 19 [stateV n cv rv, stateV n' cv' rv'] h (.ret (.bool (decide (n = n') && (sameL (fun a b : Cell => decide (a = b)) cells cells' && sameL sameRow rows rows')))) h := by
  refine Ct.pure (go_19 (by simp) ?_) (vin_bool _)
  have c1 := hc.cells1
  have r1 := hr.cells1
  have c2 := hc'.cells1
  have r2 := hr'.cells1
  have hE : Ext h ((h.push (.row [.int .i64 n, cv, rv] 0 false)).push (.row [.int .i64 n', cv', rv'] 0 false)) := (Ext.push1 _ _).push _
  obtain ⟨H, hH⟩ : ∃ H, H = (h.push (.row [.int .i64 n, cv, rv] 0 false)).push (.row [.int .i64 n', cv', rv'] 0 false) := ⟨_, rfl⟩
  rw [← hH] at hE
  have g1 : H.get h.next = some (.row [.int .i64 n, cv, rv] 0 false) := by rw [hH]; exact get_p1
  have g2 : H.get (h.next + 1) = some (.row [.int .i64 n', cv', rv'] 0 false) := by rw [hH]; exact get_push_same _ _
  have a0 : cellAt H h.next 0 = some (.int .i64 n) := cellAt_row g1
  have a1 : cellAt H h.next 1 = some cv := cellAt_row g1
  have a2 : cellAt H h.next 2 = some rv := cellAt_row g1
  have b0 : cellAt H (h.next + 1) 0 = some (.int .i64 n') := cellAt_row g2
  have b1 : cellAt H (h.next + 1) 1 = some cv' := cellAt_row g2
  have b2 : cellAt H (h.next + 1) 2 = some rv' := cellAt_row g2
  by_cases h0 : n = n'
  case neg =>
    simp -implicitDefEqProofs (disch := first | omega | (simp -implicitDefEqProofs only [go_sem, List.size_toArray, List.length_cons, List.length_nil, Nat.reduceAdd]; done)) only [go_sem, Int.reduceLT, Int.reduceLE, Int.reduceEq, reduceIte, true_and, Nat.zero_add, Nat.add_zero, Option.map_some, c19, next_push, ← hH, a0, b0, h0, dPick_f]
    exact ⟨_, rfl, by simp [h0], hE⟩
  subst h0
  simp -implicitDefEqProofs (disch := first | omega | (simp -implicitDefEqProofs only [go_sem, List.size_toArray, List.length_cons, List.length_nil, Nat.reduceAdd]; done)) only [go_sem, Int.reduceLT, Int.reduceLE, Int.reduceEq, reduceIte, true_and, Nat.zero_add, Nat.add_zero, Option.map_some, c19, next_push, ← hH, a0, b0, a1, b1]
  refine ncall (eqCells_c (hc.ext hE) (hc'.ext hE) hl) ?_
  cases hs : sameL (fun a b : Cell => decide (a = b)) cells cells' with
  | false =>
    simp -implicitDefEqProofs (disch := first | omega | (simp -implicitDefEqProofs only [go_sem, List.size_toArray, List.length_cons, List.length_nil, Nat.reduceAdd]; done)) only [go_sem, Int.reduceLT, Int.reduceLE, Int.reduceEq, reduceIte, true_and, Nat.zero_add, Nat.add_zero, Option.map_some, dPick_t, dPick_f]
    exact ⟨_, rfl, by simp, hE⟩
  | true =>
    simp -implicitDefEqProofs (disch := first | omega | (simp -implicitDefEqProofs only [go_sem, List.size_toArray, List.length_cons, List.length_nil, Nat.reduceAdd]; done)) only [go_sem, Int.reduceLT, Int.reduceLE, Int.reduceEq, reduceIte, true_and, Nat.zero_add, Nat.add_zero, Option.map_some, dPick_t, a2, b2]
    refine ncall (eqRows_c (hr.ext hE) (hr'.ext hE) hlr hlv) ?_
    simp -implicitDefEqProofs (disch := first | omega | (simp -implicitDefEqProofs only [go_sem, List.size_toArray, List.length_cons, List.length_nil, Nat.reduceAdd]; done)) only [go_sem, Int.reduceLT, Int.reduceLE, Int.reduceEq, reduceIte, true_and, Nat.zero_add, Nat.add_zero, Option.map_some, dPick_t]
    exact ⟨_, rfl, by simp, hE⟩
end Go.Proofs.Ytlhgijpdhniddaa

namespace Go.D
variable {P : Program}

/-- what a type of elements is, for a slice that is made: its size, how many bytes -/
def mkT (P : Program) (t : TypeId) : Option (Nat × Nat) :=
  match P.underlying t with
  | some (.slice e) =>
    match P.info? e with
    | some i =>
      match i.zero with
      | some z => if 0 < i.size ∧ z.cells.toList.all flat1 = true ∧ z.cells.size = i.size then some (i.size, i.bytes) else none
      | none => none
    | none => none
  | _ => none
theorem dMakeSlice_at {t : TypeId} {z b : Nat} {k k' : IntKind} {n : Nat} {h : DHeap} (hT : mkT P t = some (z, b)) (hb : b ≤ 32768) (hn : n ≤ 4294967296) :
    ∃ Z : List Value, Z.length = n * z ∧ dMakeSlice P t (.int k (n : Nat)) (.int k' (n : Nat)) h = some (.slice (some ⟨h.next, 0, none⟩) n n, h.push (.row Z z false)) := by
  unfold mkT at hT
  split at hT
  · rename_i e e1
    split at hT
    · rename_i i e2
      split at hT
      · rename_i zv e3
        split at hT
        · rename_i hc
          simp only [Option.some.injEq, Prod.mk.injEq] at hT
          obtain ⟨rfl, rfl⟩ := hT
          refine ⟨(rowZeros zv.cells (n * i.size)).toList, ?_, ?_⟩
          · simp [rowZeros]
          · have hbn : i.bytes * n ≤ 32768 * 4294967296 := Nat.mul_le_mul hb hn
            have hbi : (i.bytes : Int) * (n : Int) ≤ 2 ^ 48 := by
              have : ((i.bytes * n : Nat) : Int) ≤ 2 ^ 48 := by omega
              rw [← Int.natCast_mul]
              exact this
            simp only [dMakeSlice, e1, e2, e3]
            rw [if_pos ⟨by omega, by omega, by omega, hbi, hc.1, hc.2.1, hc.2.2⟩]
            simp
        · cases hT
      · cases hT
    · cases hT
  · cases hT
theorem dCopy_at {α : Type} {R : Rep α} {S : Nat → Prop} {h : DHeap} {ts : Array TypeId} {t : TypeId} {x : Value} {l : List α} {id c esz : Nat} {cells : List Value} (ht : ts[0]? = some t) (hz : slElem P t = some R.z) (hs : Sl R S h x l) (hg : h.get id = some (.row cells esz false)) (hl : cells.length = l.length * R.z) :
    ∃ new, Els R S h new l ∧ dCopy P ts (.slice (some ⟨id, 0, none⟩) l.length c) x h = some (.int .i64 (l.length : Nat), h.set id (.row new esz false)) := by
  obtain ⟨new, e1, e2⟩ := hs.src
  refine ⟨new, e2, ?_⟩
  have hn := e2.len
  have h1 := e2.one
  obtain ⟨xa, xc, hx⟩ := hs.isSlice
  have hlen : D.lenV x = some l.length := by rw [hx]; rfl
  unfold slElem at hz
  split at hz
  · rename_i e e3
    cases e4 : P.info? e with
    | none => rw [e4] at hz; cases hz
    | some inf =>
      rw [e4] at hz
      have hsz : inf.size = R.z := by simpa using hz
      have e1' : srcCells inf.size (Nat.min l.length l.length) x h = some new := by rw [hsz]; simpa using e1
      simp only [dCopy, ht, e3, e4, hlen, e1', hg]
      rw [if_pos ⟨by omega, h1⟩]
      have : setAt cells 0 new = new := by
        refine List.ext_getElem? fun i => ?_
        rw [setAt_get]
        by_cases hi : i < new.length
        · rw [if_pos ⟨Nat.zero_le _, by omega, by omega⟩]; simp
        · rw [if_neg (by omega), List.getElem?_eq_none (by omega), List.getElem?_eq_none (by omega)]
      rw [this]
      simp [goInt_eq]
  · cases hz
end Go.D

namespace Go.D
variable {P : Program} {nt : Nat}

def dstOf (l : List Oper) (i : Nat) : Option Tmp := (l[i]?).bind (·.dst)
def isDst (l : List Oper) (t : Tmp) : Bool := l.any fun o => o.dst == some t
/-- each operation has a name of its own -/
def ownDsts : List Oper → Bool
  | [] => true
  | o :: l => o.dst.isSome && !(l.any fun p => p.dst == o.dst) && ownDsts l
theorem ownDsts_ne : ∀ {l : List Oper}, ownDsts l = true → ∀ {i j : Nat} {a b : Oper}, l[i]? = some a → l[j]? = some b → i ≠ j → a.dst ≠ b.dst
  | [], _, i, _, _, _, h, _, _ => by cases i <;> cases h
  | o :: l, hd, i, j, a, b, ha, hb, hij => by
    simp only [ownDsts, Bool.and_eq_true, Bool.not_eq_true'] at hd
    obtain ⟨⟨h1, h2⟩, h3⟩ := hd
    have hno : ∀ {k : Nat} {c : Oper}, l[k]? = some c → c.dst ≠ o.dst := fun {k c} hc hcd => by
      have := List.any_eq_false.1 h2 c (List.mem_of_getElem? hc)
      simp [hcd] at this
    match i, j with
    | 0, 0 => exact absurd rfl hij
    | 0, j + 1 => cases ha; exact fun e => hno (by simpa using hb) e.symm
    | i + 1, 0 => cases hb; exact hno (by simpa using ha)
    | i + 1, j + 1 => exact ownDsts_ne h3 (i := i) (j := j) (by simpa using ha) (by simpa using hb) (by omega)
theorem ownDsts_some : ∀ {l : List Oper}, ownDsts l = true → ∀ {i : Nat} {a : Oper}, l[i]? = some a → ∃ d, a.dst = some d
  | [], _, i, _, h => by cases i <;> cases h
  | o :: l, hd, i, a, ha => by
    simp only [ownDsts, Bool.and_eq_true, Bool.not_eq_true'] at hd
    match i with
    | 0 => cases ha; exact Option.isSome_iff_exists.1 hd.1.1
    | i + 1 => exact ownDsts_some hd.2 (by simpa using ha)
/-- what holds of an operation's value -/
def ValAt (l : List Oper) (V : Nat → DHeap → Value → Prop) (i : Nat) (s : St) : Prop := ∃ d v, dstOf l i = some d ∧ s.fr d = some v ∧ V i s.h v
/-- what holds always -/
structure ValG (l : List Oper) (s0 s : St) : Prop where
  df : s.df = s0.df
  rd : s.rd = s0.rd
  ext : Ext s0.h s.h
  fr : ∀ t, isDst l t = false → s.fr t = s0.fr t
/-- the end of one operation -/
def ValK (V : Nat → DHeap → Value → Prop) (i : Nat) (o : Oper) (s s' : St) : Prop := ∃ v h', s' = ⟨s.fr.put o.dst v, s.df, h', s.rd⟩ ∧ Ext s.h h' ∧ V i h' v
theorem NC.vals {id : Nat} {ops : Array Oper} {l : List Oper} {b : List Nat} {Q : DExit → St → Prop} {s0 : St} (hmix : P.follows .mixedOrders = true) (hd : dstsOK nt ops = true) (hlow : lowOK ops = true) (hb : befs ops.toList [] = b) (hl : ops.map stripO = l.toArray) (hown : ownDsts l = true)
    (V : Nat → DHeap → Value → Prop) (hmono : ∀ i h h' v, Ext h h' → V i h v → V i h' v)
    (hstep : ∀ (i : Nat) (o : Oper) (s : St), l[i]? = some o → ValG l s0 s → (∀ j, (b.getD i 0).testBit j = true → ValAt l V j s) → NOne P l.toArray o s (ValK V i o s) Q)
    (hfin : ∀ s, ValG l s0 s → (∀ i, i < l.length → ValAt l V i s) → Q .normal s) : NC P nt (.region id ops true) Q s0 := by
  refine NC.anyL hmix hd hlow hb hl (ValG l s0) (ValAt l V) ⟨rfl, rfl, .refl _, fun _ _ => rfl⟩ (fun i o s ho g hF => ?_) hfin
  obtain ⟨d, hod⟩ := ownDsts_some hown ho
  have fin : ∀ s', ValK V i o s s' → ValG l s0 s' ∧ ValAt l V i s' ∧ ∀ j, j < l.length → j ≠ i → (b.getD j 0).testBit i = false → ValAt l V j s → ValAt l V j s' := by
    rintro _ ⟨v, h', rfl, he, hv⟩
    refine ⟨⟨g.df, g.rd, g.ext.trans he, fun t ht => ?_⟩, ⟨d, v, by simp [dstOf, ho, hod], by rw [hod]; exact put_same _ _ _, hv⟩, fun j hj hji _ hf => ?_⟩
    · have : t ≠ d := fun e => by
        have hc : isDst l t = true := List.any_eq_true.2 ⟨o, List.mem_of_getElem? ho, by rw [hod, e]; simp⟩
        rw [ht] at hc; cases hc
      show s.fr.put o.dst v t = _
      rw [hod, put_other _ _ this]
      exact g.fr t ht
    · obtain ⟨dj, u, e1, e2, e3⟩ := hf
      have hoj : l[j]? = some l[j] := List.getElem?_eq_getElem hj
      have e1' : l[j].dst = some dj := by simpa [dstOf, hoj] using e1
      have : dj ≠ d := fun e => ownDsts_ne hown hoj ho hji (by rw [e1', hod, e])
      refine ⟨dj, u, e1, ?_, hmono _ _ _ _ he e3⟩
      show s.fr.put o.dst v dj = _
      rw [hod, put_other _ _ this]
      exact e2
  have hx := hstep i o s ho g hF
  unfold NOne at hx ⊢
  cases hw : dWanted l.toArray s.fr o with
  | none => rw [hw] at hx; exact hx.elim
  | some bb =>
    rw [hw] at hx
    cases bb with
    | false => exact fin _ hx
    | true => exact NNext_mono fin (fun _ _ h => h) hx
/-- what an operation's value is, if it is known -/
theorem ValAt.eq {l : List Oper} {V : Nat → DHeap → Value → Prop} {i : Nat} {s : St} {d : Tmp} {c : Value} (a : ValAt l V i s) (hd : dstOf l i = some d) (hc : ∀ h v, V i h v → v = c) : s.fr d = some c := by
  obtain ⟨d', v, e1, e2, e3⟩ := a
  rw [hd] at e1
  cases e1
  rw [e2, hc _ _ e3]
theorem ValAt.ex {l : List Oper} {V : Nat → DHeap → Value → Prop} {i : Nat} {s : St} {d : Tmp} (a : ValAt l V i s) (hd : dstOf l i = some d) : ∃ v, s.fr d = some v ∧ V i s.h v := by
  obtain ⟨d', v, e1, e2, e3⟩ := a
  rw [hd] at e1
  cases e1
  exact ⟨v, e2, e3⟩
section
variable {ops : Array Oper} {o : Oper} {s : St} {V : Nat → DHeap → Value → Prop} {i : Nat} {Q : DExit → St → Prop} {v : Value} {h' : DHeap}
theorem val_pure (hw : dWanted ops s.fr o = some true) (hop : dOp P (evalF s.h.ng s.fr) o s.h = .ok (.value v) s.h) (hV : V i s.h v) : NOne P ops o s (ValK V i o s) Q :=
  NOne_val hw hop ⟨v, _, rfl, .refl _, hV⟩
theorem val_dc {f : FuncId} {args : List Value} (hw : dWanted ops s.fr o = some true) (hop : dOp P (evalF s.h.ng s.fr) o s.h = .ok (.enter f args) s.h) (hc : DC P f args s.h (.ret v) h') (he : Ext s.h h') (hV : V i h' v) : NOne P ops o s (ValK V i o s) Q :=
  NOne_call hw hop (hc.ct (R := fun r h => r = .ret v ∧ h = h') ⟨rfl, rfl⟩) fun r h2 ⟨e1, e2⟩ => by subst e1; subst e2; exact ⟨v, _, rfl, he, hV⟩
theorem val_ct {f : FuncId} {args : List Value} {R : DEnd → DHeap → Prop} (hw : dWanted ops s.fr o = some true) (hop : dOp P (evalF s.h.ng s.fr) o s.h = .ok (.enter f args) s.h) (hc : Ct P f args s.h R) (hV : ∀ r h2, R r h2 → ∃ v, r = .ret v ∧ Ext s.h h2 ∧ V i h2 v) : NOne P ops o s (ValK V i o s) Q :=
  NOne_call hw hop hc fun r h2 hR => by
    obtain ⟨v, e1, e2, e3⟩ := hV r h2 hR
    subst e1
    exact ⟨v, _, rfl, e2, e3⟩
end
theorem setAt_mid (A : List Value) : ∀ (vs B : List Value) (k : Nat), setAt (A ++ B) (A.length + k) vs = A ++ setAt B k vs
  | [], B, k => rfl
  | v :: vs, B, k => by
    simp only [setAt]
    rw [List.set_append_right _ _ (Nat.le_add_right _ _), Nat.add_sub_cancel_left, Nat.add_assoc]
    exact setAt_mid A vs (B.set k v) (k + 1)
end Go.D

namespace Go.Proofs.Ytlhgijpdhniddaa
open Go.D
set_option maxRecDepth 100000

theorem clone_i64 {h : DHeap} {b : Value} {l : List Int} (hb : Arg fI64.rep h b l) (hl : l.length ≤ 4294967296) : DC Try.prog 52 [b] h (.ret (cloneV h b l)) (cloneH fI64 h b l) := by
  refine Ct.cloned hb (go_52 (by simp) ?_)
  simp -implicitDefEqProofs (disch := first | omega | (simp only [go_sem, List.size_toArray, List.length_cons, List.length_nil, Nat.reduceAdd]; done)) only [go_sem, Int.reduceLT, Int.reduceLE, Int.reduceEq, reduceIte, c52, hb.nilEq isl_51]
  refine XIf_split (fun hn => ?_) (fun hn => ?_)
  · simp -implicitDefEqProofs (disch := first | omega | (simp only [go_sem, List.size_toArray, List.length_cons, List.length_nil, Nat.reduceAdd]; done)) only [go_sem, Int.reduceLT, Int.reduceLE, Int.reduceEq, reduceIte]
    obtain ⟨_, rfl⟩ := isNilV_nil hb hn
    exact ⟨_, rfl, _, rfl, .nil _ (.refl h), hn.symm⟩
  · have m0 : Made fI64 h (h.push (.row [] 1 false)) (.slice (some ⟨h.next, 0, none⟩) 0 0) [] := .none0 fI64 (.refl h) rfl
    obtain ⟨v2, h2, e2, m2, k2⟩ := m0.append app_51 (hb.ext (Ext.push1 _ _)) (by simpa using hl) (by decide)
    simp -implicitDefEqProofs (disch := first | omega | (simp only [go_sem, List.size_toArray, List.length_cons, List.length_nil, Nat.reduceAdd]; done)) only [go_sem, Int.reduceLT, Int.reduceLE, Int.reduceEq, reduceIte, e2]
    exact ⟨_, rfl, _, rfl, m2, (m0.isNil_append rfl m2 fun hk => (k2 hk).1).trans hn.symm⟩
theorem clone_cells {h : DHeap} {b : Value} {l : List Cell} (hb : Arg fCell.rep h b l) (hl : l.length ≤ 4294967296) : DC Try.prog 53 [b] h (.ret (cloneV h b l)) (cloneH fCell h b l) := by
  refine Ct.cloned hb (go_53 (by simp) ?_)
  simp -implicitDefEqProofs (disch := first | omega | (simp only [go_sem, List.size_toArray, List.length_cons, List.length_nil, Nat.reduceAdd]; done)) only [go_sem, Int.reduceLT, Int.reduceLE, Int.reduceEq, reduceIte, c53, hb.nilEq isl_23]
  refine XIf_split (fun hn => ?_) (fun hn => ?_)
  · simp -implicitDefEqProofs (disch := first | omega | (simp only [go_sem, List.size_toArray, List.length_cons, List.length_nil, Nat.reduceAdd]; done)) only [go_sem, Int.reduceLT, Int.reduceLE, Int.reduceEq, reduceIte]
    obtain ⟨_, rfl⟩ := isNilV_nil hb hn
    exact ⟨_, rfl, _, rfl, .nil _ (.refl h), hn.symm⟩
  · have m0 : Made fCell h (h.push (.row [] 4 false)) (.slice (some ⟨h.next, 0, none⟩) 0 0) [] := .none0 fCell (.refl h) rfl
    obtain ⟨v2, h2, e2, m2, k2⟩ := m0.append app_23 (hb.ext (Ext.push1 _ _)) (by simpa using hl) (by decide)
    simp -implicitDefEqProofs (disch := first | omega | (simp only [go_sem, List.size_toArray, List.length_cons, List.length_nil, Nat.reduceAdd]; done)) only [go_sem, Int.reduceLT, Int.reduceLE, Int.reduceEq, reduceIte, e2]
    exact ⟨_, rfl, _, rfl, m2, (m0.isNil_append rfl m2 fun hk => (k2 hk).1).trans hn.symm⟩

/-- the blocks of the values of a clone's rows -/
def ClS (R : Nat) (K : DHeap) (j : Nat) : Prop := R < j ∧ j < K.next ∧ ∃ ds : List Value, K.get j = some (.row ds 1 false) ∧ ∀ v ∈ ds, ∃ m, v = .int .i64 m
theorem ClS.mono {R : Nat} {K K' : DHeap} (hn : K.next ≤ K'.next) (hk : ∀ j, R < j → j < K.next → K'.get j = K.get j) (j : Nat) (h : ClS R K j) : ClS R K' j ∧ K'.get j = K.get j := by
  obtain ⟨a, b, c⟩ := h
  refine ⟨⟨a, by omega, ?_⟩, hk j a b⟩
  rw [hk j a b]
  exact c
theorem ints_all (l : List Int) : ∀ v ∈ l.flatMap fI64.enc, ∃ m, v = .int .i64 m := by
  intro v hv
  obtain ⟨m, _, hm⟩ := List.mem_flatMap.1 hv
  exact ⟨m, by simpa [fI] using hm⟩
/-- a clone's values -/
theorem clone_cl {R : Nat} {K : DHeap} {w : Value} {l : List Int} {S : Nat → Prop} (hw : Sl fI64.rep S K w l) (hR : R < K.next) : Sl fI64.rep (ClS R (cloneH fI64 K w l)) (cloneH fI64 K w l) (cloneV K w l) l := by
  unfold cloneH cloneV
  by_cases hn : isNilV w = true
  · rw [if_pos hn, if_pos hn]
    obtain ⟨_, rfl⟩ := isNilV_nil hw hn
    exact .nil _ _ _
  · rw [if_neg hn, if_neg hn]
    refine .inr ⟨K.next, 0, l.length + 1, _, _, _, rfl, ⟨hR, Nat.lt_succ_self _, _, get_push_same _ _, ints_all l⟩, get_push_same _ _, .inr rfl, ?_, ?_⟩
    · rw [flatMap_len, Nat.zero_add]; exact Nat.le_refl _
    · refine Els.flat.2 ⟨?_, hw.ok⟩
      rw [List.drop_zero, List.take_of_length_le]
      rw [flatMap_len]; exact Nat.le_refl _
theorem setAt_4 {a b c v v' : Value} {A B : List Value} : setAt (A ++ (a :: b :: c :: v :: B)) (A.length + 3) [v'] = A ++ (a :: b :: c :: v' :: B) := by
  rw [setAt_mid]; rfl
theorem get_4 {a b c v : Value} {A B : List Value} : (A ++ (a :: b :: c :: v :: B))[A.length + 3]? = some v := by
  rw [List.getElem?_append_right (Nat.le_add_right _ _), Nat.add_sub_cancel_left]; rfl
/-- what a clone is -/
structure Cloned (h h1 : DHeap) (R : Nat) (vc vr : Value) (cells : List Cell) (rows : List Row) : Prop where
  ext : Ext h h1
  new : h.next ≤ R
  vr : vr = .slice (some ⟨R, 0, none⟩) rows.length rows.length
  row : ∃ cs, h1.get R = some (.row cs 6 false) ∧ Els rRow (ClS R h1) h1 cs rows
  cell : (vc = .slice none 0 0 ∧ cells = []) ∨ ∃ id c, vc = .slice (some ⟨id, 0, none⟩) cells.length c ∧ R < id ∧ h1.get id = some (rowOf fCell cells) ∧ id < h1.next
  ok : ∀ x ∈ cells, fCell.ok x
theorem Cloned.argC {h h1 : DHeap} {R : Nat} {vc vr : Value} {cells : List Cell} {rows : List Row} (c : Cloned h h1 R vc vr cells rows) : Arg fCell.rep h1 vc cells := by
  rcases c.cell with ⟨rfl, rfl⟩ | ⟨id, cp, rfl, h1', h2, h3⟩
  · exact .nil _ _ _
  · refine .inr ⟨id, 0, cp, _, _, _, rfl, h3, h2, .inr rfl, ?_, ?_⟩
    · rw [flatMap_len, Nat.zero_add]; exact Nat.le_refl _
    · refine Els.flat.2 ⟨?_, c.ok⟩
      rw [List.drop_zero, List.take_of_length_le]
      rw [flatMap_len]; exact Nat.le_refl _
theorem Cloned.argR {h h1 : DHeap} {R : Nat} {vc vr : Value} {cells : List Cell} {rows : List Row} (c : Cloned h h1 R vc vr cells rows) (hR : R < h1.next) : Arg rRow h1 vr rows := by
  obtain ⟨cs, e1, e2⟩ := c.row
  have hl := e2.len
  refine .inr ⟨R, 0, rows.length, cs, 6, false, c.vr, hR, e1, .inr rfl, by omega, ?_⟩
  rw [List.drop_zero, List.take_of_length_le (by omega)]
  exact e2.mono fun i hi => ⟨hi.2.1, rfl⟩
theorem mkt_row : mkT Try.prog 24 = some (6, 64) := by kernel_rfl
theorem stClone_c {h : DHeap} {n : Int} {vc vr : Value} {cells : List Cell} {rows : List Row} (hc : Arg fCell.rep h vc cells) (hr : Arg rRow h vr rows) (hlc : cells.length ≤ 4294967296) (hlr : rows.length ≤ 4294967296) (hlv : ∀ x ∈ rows, x.x.vs.length ≤ 4294967296) :
    Ct Try.prog 20 [stateV n vc vr] h fun r h1 => ∃ vc' vr' R, r = .ret (stateV n vc' vr') ∧ R < h1.next ∧ Cloned h h1 R vc' vr' cells rows := by
  refine go_20 (by simp) ?_
  have c1 := hc.cells1
  have c2 := hr.cells1
  obtain ⟨H, hH⟩ : ∃ H, H = (h.push (.row [.int .i64 n, vc, vr] 0 false)).push (.row zeroState 0 false) := ⟨_, rfl⟩
  have hE : Ext h H := by rw [hH]; exact (Ext.push1 _ _).push _
  have hHn : H.next = h.next + 2 := by rw [hH]; rfl
  have g1 : H.get h.next = some (.row [.int .i64 n, vc, vr] 0 false) := by rw [hH]; exact get_p1
  have g2 : H.get (h.next + 1) = some (.row zeroState 0 false) := by rw [hH]; exact get_push_same _ _
  have el : ∀ K, dLen Try.prog #[24] vr K = some (.int .i64 (rows.length : Nat)) := hr.lens (P := Try.prog) (ts := #[24]) (t := 24) rfl isl_24
  have L2 : cellAt H h.next 2 = some vr := cellAt_row g1
  obtain ⟨Z, hZ, hmk⟩ := dMakeSlice_at (P := Try.prog) (k := .i64) (k' := .i64) (n := rows.length) (h := H) mkt_row (by decide) hlr
  rw [hHn] at hmk
  obtain ⟨H1, hH1⟩ : ∃ K, K = H.push (.row Z 6 false) := ⟨_, rfl⟩
  rw [← hH1] at hmk
  have hE1 : Ext H H1 := by rw [hH1]; exact Ext.push1 _ _
  have hH1n : H1.next = h.next + 3 := by rw [hH1, next_push]; omega
  have g1' : H1.get h.next = some (.row [.int .i64 n, vc, vr] 0 false) := (hE1.get _ (by omega)).trans g1
  have L2' : cellAt H1 h.next 2 = some vr := cellAt_row g1'
  have gR : H1.get (h.next + 2) = some (.row Z 6 false) := by rw [hH1, ← hHn]; exact get_push_same _ _
  obtain ⟨new, hnew, hcp⟩ := dCopy_at (P := Try.prog) (ts := #[24, 24]) (t := 24) (c := rows.length) rfl el_24 (hr.keep fun i hi => (hE.trans hE1).get i hi) gR hZ
  obtain ⟨H2, hH2⟩ : ∃ K, K = H1.set (h.next + 2) (.row new 6 false) := ⟨_, rfl⟩
  have hE2 : Ext H H2 := by rw [hH2]; exact hE1.set (by omega)
  have hH2n : H2.next = h.next + 3 := by rw [hH2]; exact hH1n
  have gR2 : H2.get (h.next + 2) = some (.row new 6 false) := by rw [hH2]; exact get_set_same _ _
  rw [← hH2] at hcp
  simp -implicitDefEqProofs (disch := first | omega | (simp -implicitDefEqProofs only [go_sem, List.size_toArray, List.length_cons, List.length_nil, Nat.reduceAdd]; done)) only [go_sem, Int.reduceLT, Int.reduceLE, Int.reduceEq, reduceIte, true_and, Nat.zero_add, Nat.add_zero, Option.map_some, c20, c1, c2, next_push, ← hH, L2, el, hmk, L2', hcp]
  refine XLoop_cut (fun s => s.df = [] ∧ s.rd = none ∧ s.fr 1 = some (.pointer (some ⟨h.next, 0, none⟩)) ∧ s.fr 2 = some (.pointer (some ⟨h.next + 1, 0, none⟩)) ∧ s.fr 3 = some (.slice (some ⟨h.next + 2, 0, none⟩) rows.length rows.length) ∧ Ext H s.h ∧ h.next + 2 < s.h.next ∧ ∃ cs, s.h.get (h.next + 2) = some (.row cs 6 false) ∧ Els rRow (ClS (h.next + 2) s.h) s.h cs rows) ?_ ?_
  · refine xloop (σ := Nat) (by kernel_rfl) (fun i s => s.df = [] ∧ s.rd = none ∧ s.fr 1 = some (.pointer (some ⟨h.next, 0, none⟩)) ∧ s.fr 2 = some (.pointer (some ⟨h.next + 1, 0, none⟩)) ∧ s.fr 3 = some (.slice (some ⟨h.next + 2, 0, none⟩) rows.length rows.length) ∧ s.fr 14 = some (.int .i64 (rows.length : Nat)) ∧ s.fr 15 = some (.int .i64 (i : Nat)) ∧ i ≤ rows.length ∧ Ext H s.h ∧ h.next + 2 < s.h.next ∧
      ∃ A B, s.h.get (h.next + 2) = some (.row (A ++ B) 6 false) ∧ Els rRow (ClS (h.next + 2) s.h) s.h A (rows.take i) ∧ Els rRow (fun j => j < h.next) s.h B (rows.drop i)) (fun i => rows.length - i) 0 ?_ ?_
    · simp -implicitDefEqProofs (disch := first | omega | (simp -implicitDefEqProofs only [go_sem, List.size_toArray, List.length_cons, List.length_nil, Nat.reduceAdd]; done)) only [go_sem, Int.reduceLT, Int.reduceLE, Int.reduceEq, reduceIte, true_and, Nat.zero_add, Nat.add_zero, Option.map_some]
      exact ⟨rfl, Nat.zero_le _, hE2, by omega, [], new, gR2, rfl, hnew.mono fun j hj => ⟨hj, by rw [hH2]; exact get_set_other _ _ (by omega)⟩⟩
    · rintro i ⟨fr, df, K, rd⟩ K' hK' hX ⟨rfl, hrd, f1, f2, f3, f14, f15, hi, hEK, hKn, A, B, gK, hA, hB⟩
      simp only at hrd f1 f2 f3 f14 f15 hEK hKn gK hA hB
      subst hrd
      simp -implicitDefEqProofs (disch := first | omega | (simp -implicitDefEqProofs only [go_sem, List.size_toArray, List.length_cons, List.length_nil, Nat.reduceAdd]; done)) only [go_sem, Int.reduceLT, Int.reduceLE, Int.reduceEq, reduceIte, true_and, Nat.zero_add, Nat.add_zero, Option.map_some, f14, f15]
      refine XIf_dec (fun hc1 => ?_) (fun hc1 => ?_)
      · have hj : i < rows.length := by omega
        rw [List.drop_eq_getElem_cons hj] at hB
        obtain ⟨b1, b2, rfl, hb1, hb2⟩ := hB
        obtain ⟨w, rfl, hw, hok⟩ := row_rd hb1
        have hAl : A.length = i * 6 := by
          have := hA.len
          rw [this, List.length_take, Nat.min_eq_left hi]; rfl
        have hia : dIndexAddr Try.prog 24 (.slice (some ⟨h.next + 2, 0, none⟩) rows.length rows.length) (.int .i64 (i : Nat)) = some (.pointer (some ⟨h.next + 2, i * 6, none⟩)) := by
          rw [ia_24 (by omega) (by omega)]
          simp
        have L3 : cellAt K (h.next + 2) (i * 6 + 2 + 1) = some w := by
          rw [cellAt_row gK, ← hAl]; exact get_4
        have hlw := hlv _ (List.getElem_mem hj)
        have hwK : Arg fI64.rep K w rows[i].x.vs := hw.mono fun j hj => ⟨by omega, rfl⟩
        have tc := clone_i64 hwK hlw
        have hcl := clone_cl hw hKn
        have hEc := cloneH_ext fI64 K w rows[i].x.vs
        obtain ⟨cv, hcv⟩ : ∃ v, cloneV K w rows[i].x.vs = v := ⟨_, rfl⟩
        obtain ⟨K2, hK2⟩ : ∃ v, cloneH fI64 K w rows[i].x.vs = v := ⟨_, rfl⟩
        rw [hcv, hK2] at tc
        rw [hcv, hK2] at hcl
        rw [hK2] at hEc
        have hEcn := hEc.next
        have g2K := (hEc.get _ hKn).trans gK
        have hone : [cv].all Value.oneCell' = true := by obtain ⟨_, _, rfl⟩ := hcl.isSlice; rfl
        have hst : dStore Try.prog 51 (.pointer (some ⟨h.next + 2, i * 6 + 2 + 1, none⟩)) cv K2 = some (K2.set (h.next + 2) (.row (A ++ ([.int .i64 rows[i].ses, .int .i64 rows[i].req, .int .i64 rows[i].x.e, cv, .int .i64 rows[i].x.s, .int .i64 rows[i].x.p] ++ b2)) 6 false)) := by
          rw [st_51 hcl.cells1, storeAt_row g2K (by simp [hAl]; omega) hone, ← hAl]
          congr 3
          exact setAt_4
        have hw1 := wrap_succ hj (by omega)
        simp -implicitDefEqProofs (disch := first | omega | (simp -implicitDefEqProofs only [go_sem, List.size_toArray, List.length_cons, List.length_nil, Nat.reduceAdd]; done)) only [go_sem, Int.reduceLT, Int.reduceLE, Int.reduceEq, reduceIte, true_and, Nat.zero_add, Nat.add_zero, Option.map_some, f3, f15, hia, L3]
        refine ncall tc ?_
        simp -implicitDefEqProofs (disch := first | omega | (simp -implicitDefEqProofs only [go_sem, List.size_toArray, List.length_cons, List.length_nil, Nat.reduceAdd]; done)) only [go_sem, Int.reduceLT, Int.reduceLE, Int.reduceEq, reduceIte, true_and, Nat.zero_add, Nat.add_zero, Option.map_some, hia, hst, f15, hw1]
        refine hK' (i + 1) _ ?_ (by omega)
        have kp : ∀ j, j ≠ h.next + 2 → j < K.next → (K2.set (h.next + 2) (.row (A ++ ([.int .i64 rows[i].ses, .int .i64 rows[i].req, .int .i64 rows[i].x.e, cv, .int .i64 rows[i].x.s, .int .i64 rows[i].x.p] ++ b2)) 6 false)).get j = K.get j := fun j hj hjn => (get_set_other _ _ hj).trans (hEc.get j hjn)
        refine ⟨by trivial, by trivial, by simp -implicitDefEqProofs (disch := first | omega | (simp -implicitDefEqProofs only [go_sem, List.size_toArray, List.length_cons, List.length_nil, Nat.reduceAdd]; done)) only [go_sem, Int.reduceLT, Int.reduceLE, Int.reduceEq, reduceIte, true_and, Nat.zero_add, Nat.add_zero, Option.map_some, f1], by simp -implicitDefEqProofs (disch := first | omega | (simp -implicitDefEqProofs only [go_sem, List.size_toArray, List.length_cons, List.length_nil, Nat.reduceAdd]; done)) only [go_sem, Int.reduceLT, Int.reduceLE, Int.reduceEq, reduceIte, true_and, Nat.zero_add, Nat.add_zero, Option.map_some, f2], by simp -implicitDefEqProofs (disch := first | omega | (simp -implicitDefEqProofs only [go_sem, List.size_toArray, List.length_cons, List.length_nil, Nat.reduceAdd]; done)) only [go_sem, Int.reduceLT, Int.reduceLE, Int.reduceEq, reduceIte, true_and, Nat.zero_add, Nat.add_zero, Option.map_some, f3], by simp -implicitDefEqProofs (disch := first | omega | (simp -implicitDefEqProofs only [go_sem, List.size_toArray, List.length_cons, List.length_nil, Nat.reduceAdd]; done)) only [go_sem, Int.reduceLT, Int.reduceLE, Int.reduceEq, reduceIte, true_and, Nat.zero_add, Nat.add_zero, Option.map_some, f14], by simp -implicitDefEqProofs (disch := first | omega | (simp -implicitDefEqProofs only [go_sem, List.size_toArray, List.length_cons, List.length_nil, Nat.reduceAdd]; done)) only [go_sem, Int.reduceLT, Int.reduceLE, Int.reduceEq, reduceIte, true_and, Nat.zero_add, Nat.add_zero, Option.map_some], by omega, (hEK.trans hEc).set (by omega), Nat.lt_of_lt_of_le hKn hEcn, A ++ [.int .i64 rows[i].ses, .int .i64 rows[i].req, .int .i64 rows[i].x.e, cv, .int .i64 rows[i].x.s, .int .i64 rows[i].x.p], b2, ?_, ?_, ?_⟩
        · rw [List.append_assoc]; exact get_set_same _ _
        · rw [show rows.take (i + 1) = rows.take i ++ [rows[i]] by simp]
          refine (hA.mono (ClS.mono (K' := K2.set (h.next + 2) (.row (A ++ ([.int .i64 rows[i].ses, .int .i64 rows[i].req, .int .i64 rows[i].x.e, cv, .int .i64 rows[i].x.s, .int .i64 rows[i].x.p] ++ b2)) 6 false)) hEcn fun j h1 h2 => kp j (by omega) h2)).append (.single (rd_row (hcl.mono (ClS.mono (K' := K2.set (h.next + 2) (.row (A ++ ([.int .i64 rows[i].ses, .int .i64 rows[i].req, .int .i64 rows[i].x.e, cv, .int .i64 rows[i].x.s, .int .i64 rows[i].x.p] ++ b2)) 6 false)) (Nat.le_refl _) fun j h1 h2 => get_set_other _ _ (by omega))) hok))
        · exact hb2.mono fun j hj => ⟨hj, kp j (by omega) (by omega)⟩
      · obtain rfl : i = rows.length := by omega
        refine hX _ _ (by simp) ?_
        rw [List.drop_length] at hB
        rw [List.take_length] at hA
        obtain rfl : B = [] := hB
        rw [List.append_nil] at gK
        exact ⟨rfl, rfl, f1, f2, f3, hEK, hKn, A, gK, hA⟩
  · rintro ⟨fr, df, K, rd⟩ ⟨hdf, hrd, f1, f2, f3, hEK, hKn, cs, gK, hA⟩
    simp only at hdf hrd f1 f2 f3 hEK hKn gK hA
    subst hdf hrd
    have k1 := (hEK.get _ (by omega)).trans g1
    have k2 := (hEK.get _ (by omega)).trans g2
    have a0 : cellAt K h.next 0 = some (.int .i64 n) := cellAt_row k1
    have a1 : cellAt K h.next 1 = some vc := cellAt_row k1
    simp -implicitDefEqProofs (disch := first | omega | (simp -implicitDefEqProofs only [go_sem, List.size_toArray, List.length_cons, List.length_nil, Nat.reduceAdd]; done)) only [go_sem, Int.reduceLT, Int.reduceLE, Int.reduceEq, reduceIte, true_and, Nat.zero_add, Nat.add_zero, Option.map_some]
    refine dr_20_0 ?_
    simp -implicitDefEqProofs (disch := first | omega | (simp -implicitDefEqProofs only [go_sem, List.size_toArray, List.length_cons, List.length_nil, Nat.reduceAdd]; done)) only [go_sem, Int.reduceLT, Int.reduceLE, Int.reduceEq, reduceIte, true_and, Nat.zero_add, Nat.add_zero, Option.map_some, l20_0, f1, f2, f3, a0, a1]
    have hcK := hc.ext (hE.trans hEK)
    have tc := clone_cells hcK hlc
    have hEc := cloneH_ext fCell K vc cells
    have hcd : (cloneV K vc cells = .slice none 0 0 ∧ cells = []) ∨ ∃ id c, cloneV K vc cells = .slice (some ⟨id, 0, none⟩) cells.length c ∧ h.next + 2 < id ∧ (cloneH fCell K vc cells).get id = some (rowOf fCell cells) ∧ id < (cloneH fCell K vc cells).next := by
      unfold cloneV cloneH
      by_cases hn : isNilV vc = true
      · rw [if_pos hn, if_pos hn]
        exact .inl ⟨rfl, (isNilV_nil hc hn).2⟩
      · rw [if_neg hn, if_neg hn]
        exact .inr ⟨K.next, _, rfl, hKn, get_push_same _ _, Nat.lt_succ_self _⟩
    have hcs := cloneV_len (h := K) hcK
    obtain ⟨cv, hcv⟩ : ∃ v, cloneV K vc cells = v := ⟨_, rfl⟩
    obtain ⟨K2, hK2⟩ : ∃ v, cloneH fCell K vc cells = v := ⟨_, rfl⟩
    rw [hcv, hK2] at tc hcd
    rw [hcv] at hcs
    rw [hK2] at hEc
    have hEcn := hEc.next
    have hcc : cv.cells = #[cv] := by obtain ⟨_, _, rfl⟩ := hcs; rfl
    have hbd : dBuild Try.prog 26 [(0, .int .i64 n), (1, cv), (2, .slice (some ⟨h.next + 2, 0, none⟩) rows.length rows.length)] = some (stateV n cv (.slice (some ⟨h.next + 2, 0, none⟩) rows.length rows.length)) := by
      refine dBuild_at plc_26 ?_
      simp only [fillL, List.getElem?_cons_zero, List.getElem?_cons_succ, hcc]
      rfl
    have hone : [.int .i64 n, cv, .slice (some ⟨h.next + 2, 0, none⟩) rows.length rows.length].all Value.oneCell' = true := by obtain ⟨_, _, rfl⟩ := hcs; rfl
    have hk1 := (hEc.get _ (by omega)).trans k1
    have hk2 := (hEc.get _ (by omega)).trans k2
    have hst : storeAt K2 (h.next + 1) 0 [.int .i64 n, cv, .slice (some ⟨h.next + 2, 0, none⟩) rows.length rows.length] = some (K2.set (h.next + 1) (.row [.int .i64 n, cv, .slice (some ⟨h.next + 2, 0, none⟩) rows.length rows.length] 0 false)) :=
      storeAt_row hk2 (Nat.le_of_ble_eq_true rfl) hone
    have hend : cellsAt (K2.set (h.next + 1) (.row [.int .i64 n, cv, .slice (some ⟨h.next + 2, 0, none⟩) rows.length rows.length] 0 false)) (h.next + 1) 0 3 = some (stateV n cv (.slice (some ⟨h.next + 2, 0, none⟩) rows.length rows.length)) := by
      rw [cellsAt_row (get_set_same _ _) (Nat.le_of_ble_eq_true rfl)]; rfl
    refine dcall tc ?_
    simp -implicitDefEqProofs (disch := first | omega | (simp -implicitDefEqProofs only [go_sem, List.size_toArray, List.length_cons, List.length_nil, Nat.reduceAdd]; done)) only [go_sem, Int.reduceLT, Int.reduceLE, Int.reduceEq, reduceIte, true_and, Nat.zero_add, Nat.add_zero, Option.map_some, f2, f3, hbd, hst]
    refine ⟨⟨XSt1_at (i := 1) (j := 4) rfl rfl rfl ?_, trivial⟩, ?_⟩
    · rw [if_neg (by decide)]
      refine Ld_on (p := .pointer (some ⟨h.next, 0, none⟩)) ?_ ?_ (ld_2.trans (cellAt_row hk1))
      · simp -implicitDefEqProofs (disch := first | omega | (simp -implicitDefEqProofs only [go_sem, List.size_toArray, List.length_cons, List.length_nil, Nat.reduceAdd]; done)) only [go_sem, Int.reduceLT, Int.reduceLE, Int.reduceEq, reduceIte, true_and, Nat.zero_add, Nat.add_zero, Option.map_some]
      · simp -implicitDefEqProofs (disch := first | omega | (simp -implicitDefEqProofs only [go_sem, List.size_toArray, List.length_cons, List.length_nil, Nat.reduceAdd]; done)) only [go_sem, Int.reduceLT, Int.reduceLE, Int.reduceEq, reduceIte, true_and, Nat.zero_add, Nat.add_zero, Option.map_some]
    · refine ret_at (v := stateV n cv (.slice (some ⟨h.next + 2, 0, none⟩) rows.length rows.length)) ?_ ?_
      · rw [dResults_c1]
        simp -implicitDefEqProofs (disch := first | omega | (simp -implicitDefEqProofs only [go_sem, List.size_toArray, List.length_cons, List.length_nil, Nat.reduceAdd]; done)) only [go_sem, Int.reduceLT, Int.reduceLE, Int.reduceEq, reduceIte, true_and, Nat.zero_add, Nat.add_zero, Option.map_some, f2, hend, dResC_some]
      · refine ⟨cv, _, h.next + 2, rfl, by simp only [next_set]; omega, ((hE.trans hEK).trans hEc).set (by omega), by omega, rfl, ⟨cs, (get_set_other _ _ (by omega)).trans ((hEc.get _ hKn).trans gK), hA.mono (ClS.mono (K' := K2.set (h.next + 1) (.row [.int .i64 n, cv, .slice (some ⟨h.next + 2, 0, none⟩) rows.length rows.length] 0 false)) hEcn fun j h1 h2 => (get_set_other _ _ (by omega)).trans (hEc.get j h2))⟩, ?_, hc.ok⟩
        rcases hcd with hcd | ⟨id, c, e1, e2, e3, e4⟩
        · exact .inl hcd
        · exact .inr ⟨id, c, e1, e2, (get_set_other _ _ (by omega)).trans e3, e4⟩
end Go.Proofs.Ytlhgijpdhniddaa

namespace Go.Proofs.Ytlhgijpdhniddaa
open Go.D
set_option maxRecDepth 100000

theorem same_st {n n' : Int} {cells cells' : List Cell} {rows rows' : List Row} : (decide (n = n') && (sameL (fun a b : Cell => decide (a = b)) cells cells' && sameL sameRow rows rows')) = sameState ⟨n, cells, rows⟩ ⟨n', cells', rows'⟩ := by
  unfold sameState
  by_cases hl : rows.length = rows'.length
  · simp [hl]
  · simp [hl, sameL_len hl]
theorem stSame_s {h : DHeap} {n n' : Int} {cv rv cv' rv' : Value} {cells cells' : List Cell} {rows rows' : List Row} (hc : Arg fCell.rep h cv cells) (hr : Arg rRow h rv rows) (hc' : Arg fCell.rep h cv' cells') (hr' : Arg rRow h rv' rows') (hl : cells.length ≤ 4294967296)
    (hlr : rows.length ≤ 4294967296) (hlv : ∀ r ∈ rows, r.x.vs.length ≤ 4294967296) :
    DC Try.prog 19 [stateV n cv rv, stateV n' cv' rv'] h (.ret (.bool (sameState ⟨n, cells, rows⟩ ⟨n', cells', rows'⟩))) h := by
  rw [← same_st]
  exact stSame_c hc hr hc' hr' hl hlr hlv
theorem stSame_r {h : DHeap} {n : Int} {cv rv : Value} {cells : List Cell} {rows : List Row} (hc : Arg fCell.rep h cv cells) (hr : Arg rRow h rv rows) (hl : cells.length ≤ 4294967296) (hlr : rows.length ≤ 4294967296) (hlv : ∀ r ∈ rows, r.x.vs.length ≤ 4294967296) :
    DC Try.prog 19 [stateV n cv rv, stateV n cv rv] h (.ret (.bool true)) h := by
  rw [← sameState_refl ⟨n, cells, rows⟩]
  exact stSame_s hc hr hc hr hl hlr hlv

def ChV (n : Int) (cv rv : Value) (cells : List Cell) (rows : List Row) (n' : Int) (cv' rv' : Value) (cells' : List Cell) (rows' : List Row) (i : Nat) (h : DHeap) (v : Value) : Prop :=
  match i with
  | 0 => v = .bool true
  | 1 => v = .bool true
  | 2 => v = stateV n cv rv
  | 3 => v = .int .i64 (checkE ⟨n, cells, rows⟩)
  | 4 => v = stateV n cv rv
  | 5 => v = .int .i64 (checkE ⟨n, cells, rows⟩)
  | 6 => v = .bool true
  | 7 => v = .bool true
  | 8 => v = .bool true
  | 9 => v = stateV n cv rv
  | 10 => v = stateV n' cv' rv'
  | 11 => v = Value.bool (sameState ⟨n, cells, rows⟩ ⟨n', cells', rows'⟩)
  | 12 => v = stateV n cv rv
  | 13 => v = stateV n' cv' rv'
  | 14 => v = Value.bool (sameState ⟨n, cells, rows⟩ ⟨n', cells', rows'⟩)
  | 15 => v = .bool true
  | 16 => v = .bool true
  | 17 => v = .bool true
  | 18 => v = stateV n cv rv
  | 19 => v = stateV n cv rv
  | 20 => v = .bool true
  | 21 => v = .bool true
  | 22 => v = .bool true
  | 23 => v = stateV n cv rv
  | 24 => ∃ vc vr, v = stateV n vc vr ∧ Arg fCell.rep h vc cells ∧ Arg rRow h vr rows
  | 25 => v = stateV n cv rv
  | 26 => v = .bool true
  | 27 => v = .bool true
  | 28 => v = .bool true
  | _ => True
theorem ChV.mono {n : Int} {cv rv : Value} {cells : List Cell} {rows : List Row} {n' : Int} {cv' rv' : Value} {cells' : List Cell} {rows' : List Row} (i : Nat) (h h' : DHeap) (v : Value) (e : Ext h h') (a : ChV n cv rv cells rows n' cv' rv' cells' rows' i h v) : ChV n cv rv cells rows n' cv' rv' cells' rows' i h' v := by
  match i with
  | 0 => exact a
  | 1 => exact a
  | 2 => exact a
  | 3 => exact a
  | 4 => exact a
  | 5 => exact a
  | 6 => exact a
  | 7 => exact a
  | 8 => exact a
  | 9 => exact a
  | 10 => exact a
  | 11 => exact a
  | 12 => exact a
  | 13 => exact a
  | 14 => exact a
  | 15 => exact a
  | 16 => exact a
  | 17 => exact a
  | 18 => exact a
  | 19 => exact a
  | 20 => exact a
  | 21 => exact a
  | 22 => exact a
  | 23 => exact a
  | 24 =>
    obtain ⟨vc, vr, e1, e2, e3⟩ := a
    exact ⟨vc, vr, e1, e2.ext e, e3.ext e⟩
  | 25 => exact a
  | 26 => exact a
  | 27 => exact a
  | 28 => exact a
  | _ + 29 => trivial
theorem checks_c {h : DHeap} {n n' : Int} {cv rv cv' rv' : Value} {cells cells' : List Cell} {rows rows' : List Row} (hn : inK .i64 n) (hc : Arg fCell.rep h cv cells) (hr : Arg rRow h rv rows) (hc' : Arg fCell.rep h cv' cells') (hr' : Arg rRow h rv' rows')
    (hl1 : cells.length ≤ 4294967296) (hl2 : rows.length ≤ 4294967296) (hl3 : ∀ r ∈ rows, r.x.vs.length ≤ 4294967296) :
    DC Try.prog 5 [stateV n cv rv, stateV n' cv' rv'] h (.ret (.bool true)) h := by
  refine Ct.pure (go_5 (by simp) ?_) (vin_bool _)
  have c1 := hc.cells1
  have r1 := hr.cells1
  have c2 := hc'.cells1
  have r2 := hr'.cells1
  obtain ⟨H, hH⟩ : ∃ H, H = (h.push (.row [.int .i64 n, cv, rv] 0 false)).push (.row [.int .i64 n', cv', rv'] 0 false) := ⟨_, rfl⟩
  have hE : Ext h H := by rw [hH]; exact (Ext.push1 _ _).push _
  have g1 : H.get h.next = some (.row [.int .i64 n, cv, rv] 0 false) := by rw [hH]; exact get_p1
  have g2 : H.get (h.next + 1) = some (.row [.int .i64 n', cv', rv'] 0 false) := by rw [hH]; exact get_push_same _ _
  have hHn : H.next = h.next + 2 := by rw [hH]; rfl
  have L1 : ∀ K, Ext H K → cellsAt K h.next 0 3 = some (stateV n cv rv) := fun K e => by
    rw [cellsAt_row ((e.get _ (by omega)).trans g1) (Nat.le_of_ble_eq_true rfl)]; rfl
  have L2 : ∀ K, Ext H K → cellsAt K (h.next + 1) 0 3 = some (stateV n' cv' rv') := fun K e => by
    rw [cellsAt_row ((e.get _ (by omega)).trans g2) (Nat.le_of_ble_eq_true rfl)]; rfl
  simp -implicitDefEqProofs (disch := first | omega | (simp -implicitDefEqProofs only [go_sem, List.size_toArray, List.length_cons, List.length_nil, Nat.reduceAdd]; done)) only [go_sem, Int.reduceLT, Int.reduceLE, Int.reduceEq, reduceIte, true_and, Nat.zero_add, Nat.add_zero, Option.map_some, c5, next_push, ← hH]
  refine NC.vals (l := l5_0) (by kernel_rfl) (by kernel_rfl) (by kernel_rfl) rfl (by kernel_rfl) (by kernel_rfl) (ChV n cv rv cells rows n' cv' rv' cells' rows') ChV.mono ?_ ?_
  case refine_2 =>
    rintro ⟨fr, df, K, rd⟩ g hF
    have f28 := (hF 28 (by decide)).eq (d := 4) rfl fun _ _ e => e
    simp only at f28
    obtain ⟨rfl, rfl, hEK, _⟩ := g
    simp -implicitDefEqProofs (disch := first | omega | (simp -implicitDefEqProofs only [go_sem, List.size_toArray, List.length_cons, List.length_nil, Nat.reduceAdd]; done)) only [go_sem, Int.reduceLT, Int.reduceLE, Int.reduceEq, reduceIte, true_and, Nat.zero_add, Nat.add_zero, Option.map_some, f28]
    exact ⟨_, rfl, rfl, hE.trans hEK⟩
  intro i o s ho g hF
  have F2 : s.fr 2 = some (.pointer (some ⟨h.next, 0, none⟩)) := (g.fr 2 (by kernel_rfl)).trans (by simp -implicitDefEqProofs (disch := first | omega | (simp -implicitDefEqProofs only [go_sem, List.size_toArray, List.length_cons, List.length_nil, Nat.reduceAdd]; done)) only [go_sem, Int.reduceLT, Int.reduceLE, Int.reduceEq, reduceIte, true_and, Nat.zero_add, Nat.add_zero, Option.map_some])
  have F3 : s.fr 3 = some (.pointer (some ⟨h.next + 1, 0, none⟩)) := (g.fr 3 (by kernel_rfl)).trans (by simp -implicitDefEqProofs (disch := first | omega | (simp -implicitDefEqProofs only [go_sem, List.size_toArray, List.length_cons, List.length_nil, Nat.reduceAdd]; done)) only [go_sem, Int.reduceLT, Int.reduceLE, Int.reduceEq, reduceIte, true_and, Nat.zero_add, Nat.add_zero, Option.map_some])
  have hi : i < 29 := (List.getElem?_eq_some_iff.1 ho).1
  match i, hi with
  | 0, _ =>
    simp only [l5_0, List.getElem?_cons_zero, List.getElem?_cons_succ, Option.some.injEq] at ho
    subst ho
    exact val_dc (v := .bool true) (by simp -implicitDefEqProofs (disch := first | omega | (simp -implicitDefEqProofs only [go_sem, List.size_toArray, List.length_cons, List.length_nil, Nat.reduceAdd]; done)) only [go_sem, Int.reduceLT, Int.reduceLE, Int.reduceEq, reduceIte, true_and, Nat.zero_add, Nat.add_zero, Option.map_some]) (by simp -implicitDefEqProofs (disch := first | omega | (simp -implicitDefEqProofs only [go_sem, List.size_toArray, List.length_cons, List.length_nil, Nat.reduceAdd]; done)) only [go_sem, Int.reduceLT, Int.reduceLE, Int.reduceEq, reduceIte, true_and, Nat.zero_add, Nat.add_zero, Option.map_some]) (begun_c) (.refl _) rfl
  | 1, _ =>
    simp only [l5_0, List.getElem?_cons_zero, List.getElem?_cons_succ, Option.some.injEq] at ho
    subst ho
    have f0 : s.fr 5 = some (.bool true) := (hF 0 (by kernel_rfl)).eq rfl fun _ _ e => e
    exact val_pure (v := .bool true) (by simp -implicitDefEqProofs (disch := first | omega | (simp -implicitDefEqProofs only [go_sem, List.size_toArray, List.length_cons, List.length_nil, Nat.reduceAdd]; done)) only [go_sem, Int.reduceLT, Int.reduceLE, Int.reduceEq, reduceIte, true_and, Nat.zero_add, Nat.add_zero, Option.map_some]) (by simp -implicitDefEqProofs (disch := first | omega | (simp -implicitDefEqProofs only [go_sem, List.size_toArray, List.length_cons, List.length_nil, Nat.reduceAdd]; done)) only [go_sem, Int.reduceLT, Int.reduceLE, Int.reduceEq, reduceIte, true_and, Nat.zero_add, Nat.add_zero, Option.map_some, f0]) (by first | rfl | assumption)
  | 2, _ =>
    simp only [l5_0, List.getElem?_cons_zero, List.getElem?_cons_succ, Option.some.injEq] at ho
    subst ho
    have f1 : s.fr 6 = some (.bool true) := (hF 1 (by kernel_rfl)).eq rfl fun _ _ e => e
    have d1 : (l5_0[1]?.bind fun x => x.dst) = some 6 := rfl
    exact val_pure (v := stateV n cv rv) (by simp -implicitDefEqProofs (disch := first | omega | (simp -implicitDefEqProofs only [go_sem, List.size_toArray, List.length_cons, List.length_nil, Nat.reduceAdd]; done)) only [go_sem, Int.reduceLT, Int.reduceLE, Int.reduceEq, reduceIte, true_and, Nat.zero_add, Nat.add_zero, Option.map_some, f1, d1]) (by simp -implicitDefEqProofs (disch := first | omega | (simp -implicitDefEqProofs only [go_sem, List.size_toArray, List.length_cons, List.length_nil, Nat.reduceAdd]; done)) only [go_sem, Int.reduceLT, Int.reduceLE, Int.reduceEq, reduceIte, true_and, Nat.zero_add, Nat.add_zero, Option.map_some, f1, F2, L1 _ g.ext]) (by first | rfl | assumption)
  | 3, _ =>
    simp only [l5_0, List.getElem?_cons_zero, List.getElem?_cons_succ, Option.some.injEq] at ho
    subst ho
    have f1 : s.fr 6 = some (.bool true) := (hF 1 (by kernel_rfl)).eq rfl fun _ _ e => e
    have f2 : s.fr 7 = some (stateV n cv rv) := (hF 2 (by kernel_rfl)).eq rfl fun _ _ e => e
    have d1 : (l5_0[1]?.bind fun x => x.dst) = some 6 := rfl
    exact val_dc (v := .int .i64 (checkE ⟨n, cells, rows⟩)) (by simp -implicitDefEqProofs (disch := first | omega | (simp -implicitDefEqProofs only [go_sem, List.size_toArray, List.length_cons, List.length_nil, Nat.reduceAdd]; done)) only [go_sem, Int.reduceLT, Int.reduceLE, Int.reduceEq, reduceIte, true_and, Nat.zero_add, Nat.add_zero, Option.map_some, f1, d1]) (by simp -implicitDefEqProofs (disch := first | omega | (simp -implicitDefEqProofs only [go_sem, List.size_toArray, List.length_cons, List.length_nil, Nat.reduceAdd]; done)) only [go_sem, Int.reduceLT, Int.reduceLE, Int.reduceEq, reduceIte, true_and, Nat.zero_add, Nat.add_zero, Option.map_some, f1, f2]) (check_c hn (hc.ext (hE.trans g.ext)) (hr.ext (hE.trans g.ext)) hl1 hl2) (.refl _) rfl
  | 4, _ =>
    simp only [l5_0, List.getElem?_cons_zero, List.getElem?_cons_succ, Option.some.injEq] at ho
    subst ho
    have f1 : s.fr 6 = some (.bool true) := (hF 1 (by kernel_rfl)).eq rfl fun _ _ e => e
    have d1 : (l5_0[1]?.bind fun x => x.dst) = some 6 := rfl
    exact val_pure (v := stateV n cv rv) (by simp -implicitDefEqProofs (disch := first | omega | (simp -implicitDefEqProofs only [go_sem, List.size_toArray, List.length_cons, List.length_nil, Nat.reduceAdd]; done)) only [go_sem, Int.reduceLT, Int.reduceLE, Int.reduceEq, reduceIte, true_and, Nat.zero_add, Nat.add_zero, Option.map_some, f1, d1]) (by simp -implicitDefEqProofs (disch := first | omega | (simp -implicitDefEqProofs only [go_sem, List.size_toArray, List.length_cons, List.length_nil, Nat.reduceAdd]; done)) only [go_sem, Int.reduceLT, Int.reduceLE, Int.reduceEq, reduceIte, true_and, Nat.zero_add, Nat.add_zero, Option.map_some, f1, F2, L1 _ g.ext]) (by first | rfl | assumption)
  | 5, _ =>
    simp only [l5_0, List.getElem?_cons_zero, List.getElem?_cons_succ, Option.some.injEq] at ho
    subst ho
    have f1 : s.fr 6 = some (.bool true) := (hF 1 (by kernel_rfl)).eq rfl fun _ _ e => e
    have f4 : s.fr 9 = some (stateV n cv rv) := (hF 4 (by kernel_rfl)).eq rfl fun _ _ e => e
    have d1 : (l5_0[1]?.bind fun x => x.dst) = some 6 := rfl
    exact val_dc (v := .int .i64 (checkE ⟨n, cells, rows⟩)) (by simp -implicitDefEqProofs (disch := first | omega | (simp -implicitDefEqProofs only [go_sem, List.size_toArray, List.length_cons, List.length_nil, Nat.reduceAdd]; done)) only [go_sem, Int.reduceLT, Int.reduceLE, Int.reduceEq, reduceIte, true_and, Nat.zero_add, Nat.add_zero, Option.map_some, f1, d1]) (by simp -implicitDefEqProofs (disch := first | omega | (simp -implicitDefEqProofs only [go_sem, List.size_toArray, List.length_cons, List.length_nil, Nat.reduceAdd]; done)) only [go_sem, Int.reduceLT, Int.reduceLE, Int.reduceEq, reduceIte, true_and, Nat.zero_add, Nat.add_zero, Option.map_some, f1, f4]) (refCheck_c (hc.ext (hE.trans g.ext)) (hr.ext (hE.trans g.ext)) hl1 hl2) (.refl _) rfl
  | 6, _ =>
    simp only [l5_0, List.getElem?_cons_zero, List.getElem?_cons_succ, Option.some.injEq] at ho
    subst ho
    have f1 : s.fr 6 = some (.bool true) := (hF 1 (by kernel_rfl)).eq rfl fun _ _ e => e
    have f3 : s.fr 8 = some (.int .i64 (checkE ⟨n, cells, rows⟩)) := (hF 3 (by kernel_rfl)).eq rfl fun _ _ e => e
    have f5 : s.fr 10 = some (.int .i64 (checkE ⟨n, cells, rows⟩)) := (hF 5 (by kernel_rfl)).eq rfl fun _ _ e => e
    have d1 : (l5_0[1]?.bind fun x => x.dst) = some 6 := rfl
    exact val_pure (v := .bool true) (by simp -implicitDefEqProofs (disch := first | omega | (simp -implicitDefEqProofs only [go_sem, List.size_toArray, List.length_cons, List.length_nil, Nat.reduceAdd]; done)) only [go_sem, Int.reduceLT, Int.reduceLE, Int.reduceEq, reduceIte, true_and, Nat.zero_add, Nat.add_zero, Option.map_some, f1, d1]) (by simp -implicitDefEqProofs (disch := first | omega | (simp -implicitDefEqProofs only [go_sem, List.size_toArray, List.length_cons, List.length_nil, Nat.reduceAdd]; done)) only [go_sem, Int.reduceLT, Int.reduceLE, Int.reduceEq, reduceIte, true_and, Nat.zero_add, Nat.add_zero, Option.map_some, f1, f3, f5]) (by first | rfl | assumption)
  | 7, _ =>
    simp only [l5_0, List.getElem?_cons_zero, List.getElem?_cons_succ, Option.some.injEq] at ho
    subst ho
    have f1 : s.fr 6 = some (.bool true) := (hF 1 (by kernel_rfl)).eq rfl fun _ _ e => e
    have f6 : s.fr 11 = some (.bool true) := (hF 6 (by kernel_rfl)).eq rfl fun _ _ e => e
    exact val_pure (v := .bool true) (by simp -implicitDefEqProofs (disch := first | omega | (simp -implicitDefEqProofs only [go_sem, List.size_toArray, List.length_cons, List.length_nil, Nat.reduceAdd]; done)) only [go_sem, Int.reduceLT, Int.reduceLE, Int.reduceEq, reduceIte, true_and, Nat.zero_add, Nat.add_zero, Option.map_some]) (by simp -implicitDefEqProofs (disch := first | omega | (simp -implicitDefEqProofs only [go_sem, List.size_toArray, List.length_cons, List.length_nil, Nat.reduceAdd]; done)) only [go_sem, Int.reduceLT, Int.reduceLE, Int.reduceEq, reduceIte, true_and, Nat.zero_add, Nat.add_zero, Option.map_some, f1, f6, dPick_t]) (by first | rfl | assumption)
  | 8, _ =>
    simp only [l5_0, List.getElem?_cons_zero, List.getElem?_cons_succ, Option.some.injEq] at ho
    subst ho
    have f7 : s.fr 12 = some (.bool true) := (hF 7 (by kernel_rfl)).eq rfl fun _ _ e => e
    exact val_pure (v := .bool true) (by simp -implicitDefEqProofs (disch := first | omega | (simp -implicitDefEqProofs only [go_sem, List.size_toArray, List.length_cons, List.length_nil, Nat.reduceAdd]; done)) only [go_sem, Int.reduceLT, Int.reduceLE, Int.reduceEq, reduceIte, true_and, Nat.zero_add, Nat.add_zero, Option.map_some]) (by simp -implicitDefEqProofs (disch := first | omega | (simp -implicitDefEqProofs only [go_sem, List.size_toArray, List.length_cons, List.length_nil, Nat.reduceAdd]; done)) only [go_sem, Int.reduceLT, Int.reduceLE, Int.reduceEq, reduceIte, true_and, Nat.zero_add, Nat.add_zero, Option.map_some, f7]) (by first | rfl | assumption)
  | 9, _ =>
    simp only [l5_0, List.getElem?_cons_zero, List.getElem?_cons_succ, Option.some.injEq] at ho
    subst ho
    have f8 : s.fr 13 = some (.bool true) := (hF 8 (by kernel_rfl)).eq rfl fun _ _ e => e
    have d8 : (l5_0[8]?.bind fun x => x.dst) = some 13 := rfl
    exact val_pure (v := stateV n cv rv) (by simp -implicitDefEqProofs (disch := first | omega | (simp -implicitDefEqProofs only [go_sem, List.size_toArray, List.length_cons, List.length_nil, Nat.reduceAdd]; done)) only [go_sem, Int.reduceLT, Int.reduceLE, Int.reduceEq, reduceIte, true_and, Nat.zero_add, Nat.add_zero, Option.map_some, f8, d8]) (by simp -implicitDefEqProofs (disch := first | omega | (simp -implicitDefEqProofs only [go_sem, List.size_toArray, List.length_cons, List.length_nil, Nat.reduceAdd]; done)) only [go_sem, Int.reduceLT, Int.reduceLE, Int.reduceEq, reduceIte, true_and, Nat.zero_add, Nat.add_zero, Option.map_some, f8, F2, L1 _ g.ext]) (by first | rfl | assumption)
  | 10, _ =>
    simp only [l5_0, List.getElem?_cons_zero, List.getElem?_cons_succ, Option.some.injEq] at ho
    subst ho
    have f8 : s.fr 13 = some (.bool true) := (hF 8 (by kernel_rfl)).eq rfl fun _ _ e => e
    have d8 : (l5_0[8]?.bind fun x => x.dst) = some 13 := rfl
    exact val_pure (v := stateV n' cv' rv') (by simp -implicitDefEqProofs (disch := first | omega | (simp -implicitDefEqProofs only [go_sem, List.size_toArray, List.length_cons, List.length_nil, Nat.reduceAdd]; done)) only [go_sem, Int.reduceLT, Int.reduceLE, Int.reduceEq, reduceIte, true_and, Nat.zero_add, Nat.add_zero, Option.map_some, f8, d8]) (by simp -implicitDefEqProofs (disch := first | omega | (simp -implicitDefEqProofs only [go_sem, List.size_toArray, List.length_cons, List.length_nil, Nat.reduceAdd]; done)) only [go_sem, Int.reduceLT, Int.reduceLE, Int.reduceEq, reduceIte, true_and, Nat.zero_add, Nat.add_zero, Option.map_some, f8, F3, L2 _ g.ext]) (by first | rfl | assumption)
  | 11, _ =>
    simp only [l5_0, List.getElem?_cons_zero, List.getElem?_cons_succ, Option.some.injEq] at ho
    subst ho
    have f8 : s.fr 13 = some (.bool true) := (hF 8 (by kernel_rfl)).eq rfl fun _ _ e => e
    have f9 : s.fr 14 = some (stateV n cv rv) := (hF 9 (by kernel_rfl)).eq rfl fun _ _ e => e
    have f10 : s.fr 15 = some (stateV n' cv' rv') := (hF 10 (by kernel_rfl)).eq rfl fun _ _ e => e
    have d8 : (l5_0[8]?.bind fun x => x.dst) = some 13 := rfl
    exact val_dc (v := Value.bool (sameState ⟨n, cells, rows⟩ ⟨n', cells', rows'⟩)) (by simp -implicitDefEqProofs (disch := first | omega | (simp -implicitDefEqProofs only [go_sem, List.size_toArray, List.length_cons, List.length_nil, Nat.reduceAdd]; done)) only [go_sem, Int.reduceLT, Int.reduceLE, Int.reduceEq, reduceIte, true_and, Nat.zero_add, Nat.add_zero, Option.map_some, f8, d8]) (by simp -implicitDefEqProofs (disch := first | omega | (simp -implicitDefEqProofs only [go_sem, List.size_toArray, List.length_cons, List.length_nil, Nat.reduceAdd]; done)) only [go_sem, Int.reduceLT, Int.reduceLE, Int.reduceEq, reduceIte, true_and, Nat.zero_add, Nat.add_zero, Option.map_some, f8, f9, f10]) (stSame_s (n := n) (n' := n') (hc.ext (hE.trans g.ext)) (hr.ext (hE.trans g.ext)) (hc'.ext (hE.trans g.ext)) (hr'.ext (hE.trans g.ext)) hl1 hl2 hl3) (.refl _) rfl
  | 12, _ =>
    simp only [l5_0, List.getElem?_cons_zero, List.getElem?_cons_succ, Option.some.injEq] at ho
    subst ho
    have f8 : s.fr 13 = some (.bool true) := (hF 8 (by kernel_rfl)).eq rfl fun _ _ e => e
    have d8 : (l5_0[8]?.bind fun x => x.dst) = some 13 := rfl
    exact val_pure (v := stateV n cv rv) (by simp -implicitDefEqProofs (disch := first | omega | (simp -implicitDefEqProofs only [go_sem, List.size_toArray, List.length_cons, List.length_nil, Nat.reduceAdd]; done)) only [go_sem, Int.reduceLT, Int.reduceLE, Int.reduceEq, reduceIte, true_and, Nat.zero_add, Nat.add_zero, Option.map_some, f8, d8]) (by simp -implicitDefEqProofs (disch := first | omega | (simp -implicitDefEqProofs only [go_sem, List.size_toArray, List.length_cons, List.length_nil, Nat.reduceAdd]; done)) only [go_sem, Int.reduceLT, Int.reduceLE, Int.reduceEq, reduceIte, true_and, Nat.zero_add, Nat.add_zero, Option.map_some, f8, F2, L1 _ g.ext]) (by first | rfl | assumption)
  | 13, _ =>
    simp only [l5_0, List.getElem?_cons_zero, List.getElem?_cons_succ, Option.some.injEq] at ho
    subst ho
    have f8 : s.fr 13 = some (.bool true) := (hF 8 (by kernel_rfl)).eq rfl fun _ _ e => e
    have d8 : (l5_0[8]?.bind fun x => x.dst) = some 13 := rfl
    exact val_pure (v := stateV n' cv' rv') (by simp -implicitDefEqProofs (disch := first | omega | (simp -implicitDefEqProofs only [go_sem, List.size_toArray, List.length_cons, List.length_nil, Nat.reduceAdd]; done)) only [go_sem, Int.reduceLT, Int.reduceLE, Int.reduceEq, reduceIte, true_and, Nat.zero_add, Nat.add_zero, Option.map_some, f8, d8]) (by simp -implicitDefEqProofs (disch := first | omega | (simp -implicitDefEqProofs only [go_sem, List.size_toArray, List.length_cons, List.length_nil, Nat.reduceAdd]; done)) only [go_sem, Int.reduceLT, Int.reduceLE, Int.reduceEq, reduceIte, true_and, Nat.zero_add, Nat.add_zero, Option.map_some, f8, F3, L2 _ g.ext]) (by first | rfl | assumption)
  | 14, _ =>
    simp only [l5_0, List.getElem?_cons_zero, List.getElem?_cons_succ, Option.some.injEq] at ho
    subst ho
    have f8 : s.fr 13 = some (.bool true) := (hF 8 (by kernel_rfl)).eq rfl fun _ _ e => e
    have f12 : s.fr 17 = some (stateV n cv rv) := (hF 12 (by kernel_rfl)).eq rfl fun _ _ e => e
    have f13 : s.fr 18 = some (stateV n' cv' rv') := (hF 13 (by kernel_rfl)).eq rfl fun _ _ e => e
    have d8 : (l5_0[8]?.bind fun x => x.dst) = some 13 := rfl
    exact val_dc (v := Value.bool (sameState ⟨n, cells, rows⟩ ⟨n', cells', rows'⟩)) (by simp -implicitDefEqProofs (disch := first | omega | (simp -implicitDefEqProofs only [go_sem, List.size_toArray, List.length_cons, List.length_nil, Nat.reduceAdd]; done)) only [go_sem, Int.reduceLT, Int.reduceLE, Int.reduceEq, reduceIte, true_and, Nat.zero_add, Nat.add_zero, Option.map_some, f8, d8]) (by simp -implicitDefEqProofs (disch := first | omega | (simp -implicitDefEqProofs only [go_sem, List.size_toArray, List.length_cons, List.length_nil, Nat.reduceAdd]; done)) only [go_sem, Int.reduceLT, Int.reduceLE, Int.reduceEq, reduceIte, true_and, Nat.zero_add, Nat.add_zero, Option.map_some, f8, f12, f13]) (same_c (n := n) (n' := n') (hc.ext (hE.trans g.ext)) (hr.ext (hE.trans g.ext)) (hc'.ext (hE.trans g.ext)) (hr'.ext (hE.trans g.ext)) hl1 hl2 hl3) (.refl _) rfl
  | 15, _ =>
    simp only [l5_0, List.getElem?_cons_zero, List.getElem?_cons_succ, Option.some.injEq] at ho
    subst ho
    have f8 : s.fr 13 = some (.bool true) := (hF 8 (by kernel_rfl)).eq rfl fun _ _ e => e
    have f11 : s.fr 16 = some (Value.bool (sameState ⟨n, cells, rows⟩ ⟨n', cells', rows'⟩)) := (hF 11 (by kernel_rfl)).eq rfl fun _ _ e => e
    have f14 : s.fr 19 = some (Value.bool (sameState ⟨n, cells, rows⟩ ⟨n', cells', rows'⟩)) := (hF 14 (by kernel_rfl)).eq rfl fun _ _ e => e
    have d8 : (l5_0[8]?.bind fun x => x.dst) = some 13 := rfl
    exact val_pure (v := .bool true) (by simp -implicitDefEqProofs (disch := first | omega | (simp -implicitDefEqProofs only [go_sem, List.size_toArray, List.length_cons, List.length_nil, Nat.reduceAdd]; done)) only [go_sem, Int.reduceLT, Int.reduceLE, Int.reduceEq, reduceIte, true_and, Nat.zero_add, Nat.add_zero, Option.map_some, f8, d8]) (by simp -implicitDefEqProofs (disch := first | omega | (simp -implicitDefEqProofs only [go_sem, List.size_toArray, List.length_cons, List.length_nil, Nat.reduceAdd]; done)) only [go_sem, Int.reduceLT, Int.reduceLE, Int.reduceEq, reduceIte, true_and, Nat.zero_add, Nat.add_zero, Option.map_some, f8, f11, f14, bin_bool, beq_self_eq_true]) (by first | rfl | assumption)
  | 16, _ =>
    simp only [l5_0, List.getElem?_cons_zero, List.getElem?_cons_succ, Option.some.injEq] at ho
    subst ho
    have f8 : s.fr 13 = some (.bool true) := (hF 8 (by kernel_rfl)).eq rfl fun _ _ e => e
    have f15 : s.fr 20 = some (.bool true) := (hF 15 (by kernel_rfl)).eq rfl fun _ _ e => e
    exact val_pure (v := .bool true) (by simp -implicitDefEqProofs (disch := first | omega | (simp -implicitDefEqProofs only [go_sem, List.size_toArray, List.length_cons, List.length_nil, Nat.reduceAdd]; done)) only [go_sem, Int.reduceLT, Int.reduceLE, Int.reduceEq, reduceIte, true_and, Nat.zero_add, Nat.add_zero, Option.map_some]) (by simp -implicitDefEqProofs (disch := first | omega | (simp -implicitDefEqProofs only [go_sem, List.size_toArray, List.length_cons, List.length_nil, Nat.reduceAdd]; done)) only [go_sem, Int.reduceLT, Int.reduceLE, Int.reduceEq, reduceIte, true_and, Nat.zero_add, Nat.add_zero, Option.map_some, f8, f15, dPick_t]) (by first | rfl | assumption)
  | 17, _ =>
    simp only [l5_0, List.getElem?_cons_zero, List.getElem?_cons_succ, Option.some.injEq] at ho
    subst ho
    have f16 : s.fr 21 = some (.bool true) := (hF 16 (by kernel_rfl)).eq rfl fun _ _ e => e
    exact val_pure (v := .bool true) (by simp -implicitDefEqProofs (disch := first | omega | (simp -implicitDefEqProofs only [go_sem, List.size_toArray, List.length_cons, List.length_nil, Nat.reduceAdd]; done)) only [go_sem, Int.reduceLT, Int.reduceLE, Int.reduceEq, reduceIte, true_and, Nat.zero_add, Nat.add_zero, Option.map_some]) (by simp -implicitDefEqProofs (disch := first | omega | (simp -implicitDefEqProofs only [go_sem, List.size_toArray, List.length_cons, List.length_nil, Nat.reduceAdd]; done)) only [go_sem, Int.reduceLT, Int.reduceLE, Int.reduceEq, reduceIte, true_and, Nat.zero_add, Nat.add_zero, Option.map_some, f16]) (by first | rfl | assumption)
  | 18, _ =>
    simp only [l5_0, List.getElem?_cons_zero, List.getElem?_cons_succ, Option.some.injEq] at ho
    subst ho
    have f17 : s.fr 22 = some (.bool true) := (hF 17 (by kernel_rfl)).eq rfl fun _ _ e => e
    have d17 : (l5_0[17]?.bind fun x => x.dst) = some 22 := rfl
    exact val_pure (v := stateV n cv rv) (by simp -implicitDefEqProofs (disch := first | omega | (simp -implicitDefEqProofs only [go_sem, List.size_toArray, List.length_cons, List.length_nil, Nat.reduceAdd]; done)) only [go_sem, Int.reduceLT, Int.reduceLE, Int.reduceEq, reduceIte, true_and, Nat.zero_add, Nat.add_zero, Option.map_some, f17, d17]) (by simp -implicitDefEqProofs (disch := first | omega | (simp -implicitDefEqProofs only [go_sem, List.size_toArray, List.length_cons, List.length_nil, Nat.reduceAdd]; done)) only [go_sem, Int.reduceLT, Int.reduceLE, Int.reduceEq, reduceIte, true_and, Nat.zero_add, Nat.add_zero, Option.map_some, f17, F2, L1 _ g.ext]) (by first | rfl | assumption)
  | 19, _ =>
    simp only [l5_0, List.getElem?_cons_zero, List.getElem?_cons_succ, Option.some.injEq] at ho
    subst ho
    have f17 : s.fr 22 = some (.bool true) := (hF 17 (by kernel_rfl)).eq rfl fun _ _ e => e
    have d17 : (l5_0[17]?.bind fun x => x.dst) = some 22 := rfl
    exact val_pure (v := stateV n cv rv) (by simp -implicitDefEqProofs (disch := first | omega | (simp -implicitDefEqProofs only [go_sem, List.size_toArray, List.length_cons, List.length_nil, Nat.reduceAdd]; done)) only [go_sem, Int.reduceLT, Int.reduceLE, Int.reduceEq, reduceIte, true_and, Nat.zero_add, Nat.add_zero, Option.map_some, f17, d17]) (by simp -implicitDefEqProofs (disch := first | omega | (simp -implicitDefEqProofs only [go_sem, List.size_toArray, List.length_cons, List.length_nil, Nat.reduceAdd]; done)) only [go_sem, Int.reduceLT, Int.reduceLE, Int.reduceEq, reduceIte, true_and, Nat.zero_add, Nat.add_zero, Option.map_some, f17, F2, L1 _ g.ext]) (by first | rfl | assumption)
  | 20, _ =>
    simp only [l5_0, List.getElem?_cons_zero, List.getElem?_cons_succ, Option.some.injEq] at ho
    subst ho
    have f17 : s.fr 22 = some (.bool true) := (hF 17 (by kernel_rfl)).eq rfl fun _ _ e => e
    have f18 : s.fr 23 = some (stateV n cv rv) := (hF 18 (by kernel_rfl)).eq rfl fun _ _ e => e
    have f19 : s.fr 24 = some (stateV n cv rv) := (hF 19 (by kernel_rfl)).eq rfl fun _ _ e => e
    have d17 : (l5_0[17]?.bind fun x => x.dst) = some 22 := rfl
    exact val_dc (v := .bool true) (by simp -implicitDefEqProofs (disch := first | omega | (simp -implicitDefEqProofs only [go_sem, List.size_toArray, List.length_cons, List.length_nil, Nat.reduceAdd]; done)) only [go_sem, Int.reduceLT, Int.reduceLE, Int.reduceEq, reduceIte, true_and, Nat.zero_add, Nat.add_zero, Option.map_some, f17, d17]) (by simp -implicitDefEqProofs (disch := first | omega | (simp -implicitDefEqProofs only [go_sem, List.size_toArray, List.length_cons, List.length_nil, Nat.reduceAdd]; done)) only [go_sem, Int.reduceLT, Int.reduceLE, Int.reduceEq, reduceIte, true_and, Nat.zero_add, Nat.add_zero, Option.map_some, f17, f18, f19]) (stSame_r (n := n) (hc.ext (hE.trans g.ext)) (hr.ext (hE.trans g.ext)) hl1 hl2 hl3) (.refl _) rfl
  | 21, _ =>
    simp only [l5_0, List.getElem?_cons_zero, List.getElem?_cons_succ, Option.some.injEq] at ho
    subst ho
    have f17 : s.fr 22 = some (.bool true) := (hF 17 (by kernel_rfl)).eq rfl fun _ _ e => e
    have f20 : s.fr 25 = some (.bool true) := (hF 20 (by kernel_rfl)).eq rfl fun _ _ e => e
    exact val_pure (v := .bool true) (by simp -implicitDefEqProofs (disch := first | omega | (simp -implicitDefEqProofs only [go_sem, List.size_toArray, List.length_cons, List.length_nil, Nat.reduceAdd]; done)) only [go_sem, Int.reduceLT, Int.reduceLE, Int.reduceEq, reduceIte, true_and, Nat.zero_add, Nat.add_zero, Option.map_some]) (by simp -implicitDefEqProofs (disch := first | omega | (simp -implicitDefEqProofs only [go_sem, List.size_toArray, List.length_cons, List.length_nil, Nat.reduceAdd]; done)) only [go_sem, Int.reduceLT, Int.reduceLE, Int.reduceEq, reduceIte, true_and, Nat.zero_add, Nat.add_zero, Option.map_some, f17, f20, dPick_t]) (by first | rfl | assumption)
  | 22, _ =>
    simp only [l5_0, List.getElem?_cons_zero, List.getElem?_cons_succ, Option.some.injEq] at ho
    subst ho
    have f21 : s.fr 26 = some (.bool true) := (hF 21 (by kernel_rfl)).eq rfl fun _ _ e => e
    exact val_pure (v := .bool true) (by simp -implicitDefEqProofs (disch := first | omega | (simp -implicitDefEqProofs only [go_sem, List.size_toArray, List.length_cons, List.length_nil, Nat.reduceAdd]; done)) only [go_sem, Int.reduceLT, Int.reduceLE, Int.reduceEq, reduceIte, true_and, Nat.zero_add, Nat.add_zero, Option.map_some]) (by simp -implicitDefEqProofs (disch := first | omega | (simp -implicitDefEqProofs only [go_sem, List.size_toArray, List.length_cons, List.length_nil, Nat.reduceAdd]; done)) only [go_sem, Int.reduceLT, Int.reduceLE, Int.reduceEq, reduceIte, true_and, Nat.zero_add, Nat.add_zero, Option.map_some, f21]) (by first | rfl | assumption)
  | 23, _ =>
    simp only [l5_0, List.getElem?_cons_zero, List.getElem?_cons_succ, Option.some.injEq] at ho
    subst ho
    have f22 : s.fr 27 = some (.bool true) := (hF 22 (by kernel_rfl)).eq rfl fun _ _ e => e
    have d22 : (l5_0[22]?.bind fun x => x.dst) = some 27 := rfl
    exact val_pure (v := stateV n cv rv) (by simp -implicitDefEqProofs (disch := first | omega | (simp -implicitDefEqProofs only [go_sem, List.size_toArray, List.length_cons, List.length_nil, Nat.reduceAdd]; done)) only [go_sem, Int.reduceLT, Int.reduceLE, Int.reduceEq, reduceIte, true_and, Nat.zero_add, Nat.add_zero, Option.map_some, f22, d22]) (by simp -implicitDefEqProofs (disch := first | omega | (simp -implicitDefEqProofs only [go_sem, List.size_toArray, List.length_cons, List.length_nil, Nat.reduceAdd]; done)) only [go_sem, Int.reduceLT, Int.reduceLE, Int.reduceEq, reduceIte, true_and, Nat.zero_add, Nat.add_zero, Option.map_some, f22, F2, L1 _ g.ext]) (by first | rfl | assumption)
  | 24, _ =>
    simp only [l5_0, List.getElem?_cons_zero, List.getElem?_cons_succ, Option.some.injEq] at ho
    subst ho
    have f22 : s.fr 27 = some (.bool true) := (hF 22 (by kernel_rfl)).eq rfl fun _ _ e => e
    have f23 : s.fr 28 = some (stateV n cv rv) := (hF 23 (by kernel_rfl)).eq rfl fun _ _ e => e
    have d22 : (l5_0[22]?.bind fun x => x.dst) = some 27 := rfl
    refine val_ct (by simp -implicitDefEqProofs (disch := first | omega | (simp -implicitDefEqProofs only [go_sem, List.size_toArray, List.length_cons, List.length_nil, Nat.reduceAdd]; done)) only [go_sem, Int.reduceLT, Int.reduceLE, Int.reduceEq, reduceIte, true_and, Nat.zero_add, Nat.add_zero, Option.map_some, f22, d22]) (by simp -implicitDefEqProofs (disch := first | omega | (simp -implicitDefEqProofs only [go_sem, List.size_toArray, List.length_cons, List.length_nil, Nat.reduceAdd]; done)) only [go_sem, Int.reduceLT, Int.reduceLE, Int.reduceEq, reduceIte, true_and, Nat.zero_add, Nat.add_zero, Option.map_some, f22, f23]) (stClone_c (n := n) (hc.ext (hE.trans g.ext)) (hr.ext (hE.trans g.ext)) hl1 hl2 hl3) ?_
    rintro r h2 ⟨vc', vr', R, rfl, hR, hcl⟩
    exact ⟨_, rfl, hcl.ext, vc', vr', rfl, hcl.argC, hcl.argR hR⟩
  | 25, _ =>
    simp only [l5_0, List.getElem?_cons_zero, List.getElem?_cons_succ, Option.some.injEq] at ho
    subst ho
    have f22 : s.fr 27 = some (.bool true) := (hF 22 (by kernel_rfl)).eq rfl fun _ _ e => e
    have d22 : (l5_0[22]?.bind fun x => x.dst) = some 27 := rfl
    exact val_pure (v := stateV n cv rv) (by simp -implicitDefEqProofs (disch := first | omega | (simp -implicitDefEqProofs only [go_sem, List.size_toArray, List.length_cons, List.length_nil, Nat.reduceAdd]; done)) only [go_sem, Int.reduceLT, Int.reduceLE, Int.reduceEq, reduceIte, true_and, Nat.zero_add, Nat.add_zero, Option.map_some, f22, d22]) (by simp -implicitDefEqProofs (disch := first | omega | (simp -implicitDefEqProofs only [go_sem, List.size_toArray, List.length_cons, List.length_nil, Nat.reduceAdd]; done)) only [go_sem, Int.reduceLT, Int.reduceLE, Int.reduceEq, reduceIte, true_and, Nat.zero_add, Nat.add_zero, Option.map_some, f22, F2, L1 _ g.ext]) (by first | rfl | assumption)
  | 26, _ =>
    simp only [l5_0, List.getElem?_cons_zero, List.getElem?_cons_succ, Option.some.injEq] at ho
    subst ho
    have f22 : s.fr 27 = some (.bool true) := (hF 22 (by kernel_rfl)).eq rfl fun _ _ e => e
    obtain ⟨v24, f24, k24⟩ := (hF 24 (by kernel_rfl)).ex (d := 29) rfl
    obtain ⟨wc, wr, rfl, kc, kr⟩ := k24
    have f25 : s.fr 30 = some (stateV n cv rv) := (hF 25 (by kernel_rfl)).eq rfl fun _ _ e => e
    have d22 : (l5_0[22]?.bind fun x => x.dst) = some 27 := rfl
    have hcc := same_c (n := n) (n' := n) kc kr (hc.ext (hE.trans g.ext)) (hr.ext (hE.trans g.ext)) hl1 hl2 hl3
    rw [sameState_refl] at hcc
    exact val_dc (by simp -implicitDefEqProofs (disch := first | omega | (simp -implicitDefEqProofs only [go_sem, List.size_toArray, List.length_cons, List.length_nil, Nat.reduceAdd]; done)) only [go_sem, Int.reduceLT, Int.reduceLE, Int.reduceEq, reduceIte, true_and, Nat.zero_add, Nat.add_zero, Option.map_some, f22, d22]) (by simp -implicitDefEqProofs (disch := first | omega | (simp -implicitDefEqProofs only [go_sem, List.size_toArray, List.length_cons, List.length_nil, Nat.reduceAdd]; done)) only [go_sem, Int.reduceLT, Int.reduceLE, Int.reduceEq, reduceIte, true_and, Nat.zero_add, Nat.add_zero, Option.map_some, f22, f24, f25]) hcc (.refl _) rfl
  | 27, _ =>
    simp only [l5_0, List.getElem?_cons_zero, List.getElem?_cons_succ, Option.some.injEq] at ho
    subst ho
    have f22 : s.fr 27 = some (.bool true) := (hF 22 (by kernel_rfl)).eq rfl fun _ _ e => e
    have f26 : s.fr 31 = some (.bool true) := (hF 26 (by kernel_rfl)).eq rfl fun _ _ e => e
    exact val_pure (v := .bool true) (by simp -implicitDefEqProofs (disch := first | omega | (simp -implicitDefEqProofs only [go_sem, List.size_toArray, List.length_cons, List.length_nil, Nat.reduceAdd]; done)) only [go_sem, Int.reduceLT, Int.reduceLE, Int.reduceEq, reduceIte, true_and, Nat.zero_add, Nat.add_zero, Option.map_some]) (by simp -implicitDefEqProofs (disch := first | omega | (simp -implicitDefEqProofs only [go_sem, List.size_toArray, List.length_cons, List.length_nil, Nat.reduceAdd]; done)) only [go_sem, Int.reduceLT, Int.reduceLE, Int.reduceEq, reduceIte, true_and, Nat.zero_add, Nat.add_zero, Option.map_some, f22, f26, dPick_t]) (by first | rfl | assumption)
  | 28, _ =>
    simp only [l5_0, List.getElem?_cons_zero, List.getElem?_cons_succ, Option.some.injEq] at ho
    subst ho
    have f27 : s.fr 32 = some (.bool true) := (hF 27 (by kernel_rfl)).eq rfl fun _ _ e => e
    exact val_pure (v := .bool true) (by simp -implicitDefEqProofs (disch := first | omega | (simp -implicitDefEqProofs only [go_sem, List.size_toArray, List.length_cons, List.length_nil, Nat.reduceAdd]; done)) only [go_sem, Int.reduceLT, Int.reduceLE, Int.reduceEq, reduceIte, true_and, Nat.zero_add, Nat.add_zero, Option.map_some]) (by simp -implicitDefEqProofs (disch := first | omega | (simp -implicitDefEqProofs only [go_sem, List.size_toArray, List.length_cons, List.length_nil, Nat.reduceAdd]; done)) only [go_sem, Int.reduceLT, Int.reduceLE, Int.reduceEq, reduceIte, true_and, Nat.zero_add, Nat.add_zero, Option.map_some, f27]) (by first | rfl | assumption)
end Go.Proofs.Ytlhgijpdhniddaa

namespace Go.Proofs.Ytlhgijpdhniddaa.lawChecks
open Go.D
open Go.ChangeShapes Go.WideShapes Go.ChangeAt Go.RowKit
theorem own : ownKnob Try.prog.godebug = none := by kernel_rfl
set_option maxRecDepth 100000 in
theorem lifted (os : Os) (started : os.Started) (H : Type) (enc : TypeId × Value → H) (F : Stop.Interp) :
    ReturnsInHanded {} Try.checked os 5 .any ((Rows.OpenSpec.upto Rows.stateChecksSpec).pre6 enc Try.prog Try.f5 Rows.stateChecksUptoRow.domain false) (((Rows.OpenSpec.upto Rows.stateChecksSpec).at F).post enc Try.prog Try.f5 false true false false) := by
  refine returnsInHanded_of_cond (C := Try.checked) (s := Rows.OpenSpec.upto Rows.stateChecksSpec) (k := Rows.uptoSmall) rfl own started (by kernel_rfl) Try.func5
    (OpenSpec.witness (enc := enc) (C := Try.checked) (s := Rows.OpenSpec.upto Rows.stateChecksSpec) (k := Rows.uptoSmall) rfl false ⟨#[], #[.agg #[.int .i64 0, .slice none 0 0, .slice none 0 0], .agg #[.int .i64 0, .slice none 0 0, .slice none 0 0]], []⟩ 8 (by kernel_rfl) (by kernel_rfl) (by kernel_rfl)
      (x := ([.agg [.lit (.int .i64 0), .nil, .nil], .agg [.lit (.int .i64 0), .nil, .nil]], [], [])) (by kernel_rfl) rfl (by kernel_rfl)) ?_
  intro W base args ds gs before hval hW _ hk _
  refine law_kept (by kernel_rfl)
    (.cons (agg := true) par_state lay_state (.cons (agg := true) par_state lay_state .nil)) (tb := 4) (by kernel_rfl) (by kernel_rfl) rfl (fun ds hl => ?_) (fun h vs x hng hq hB => ?_) W base args ds gs before hval hW hk
  · match ds, hl with
    | [d0, d1], _ => rfl
  · obtain ⟨cs, vs1, rfl, h1, cs2, vs2, rfl, h2, rfl⟩ := hq
    obtain ⟨vc, vr, rfl, k1, k2, k3⟩ := state_in h1
    obtain ⟨vc2, vr2, rfl, l1, l2, l3⟩ := state_in h2
    obtain ⟨m1, m2, m3⟩ := bulk_state x.1
    exact (checks_c k1 k2 k3 l2 l3 (by omega) (by omega) (fun r hr => by have := m3 r hr; omega)).ct rfl
theorem p1 : Try.pinned.checked.prog.funcNamed Rows.stateChecksUptoRow.func = some 5 := by kernel_rfl
theorem p2 : joinedFacts Try.pinned.checked.prog 5 Try.f5 (Rows.OpenSpec.upto Rows.stateChecksSpec).bare Rows.stateChecksUptoRow = true := by kernel_rfl
theorem p3 : Try.f5.isInstance Try.pinned.checked.prog Rows.stateChecksUptoRow.origin Rows.stateChecksUptoRow.targs := of_decide_eq_true (by kernel_rfl)
theorem p4 : Try.f5.isWrapper Try.pinned.checked.prog Rows.stateChecksUptoRow.wrapper Rows.stateChecksUptoRow.mainSum := by unfold Func.isWrapper; first | (rw [if_pos (by decide +kernel)]; kernel_rfl) | (rw [if_neg (by decide +kernel)]; exact ⟨rfl, rfl⟩)
theorem proved : Rows.StateChecksUptoSaid :=
  OpenClaim.holds_of_cond 5 Try.f5 rfl rfl rfl rfl rfl rfl rfl ⟨rfl, rfl, rfl, rfl, rfl⟩ rfl rfl rfl rfl rfl p1 Try.func5 p2 p3 p4
    (fun os started H enc _ F => lifted os started H enc F)
end Go.Proofs.Ytlhgijpdhniddaa.lawChecks
