/-
StateOwn: for every input of bulk at most 1048576 the law returns true, and the input reads as it did. Conditions: none.
-/
import Derived.Test.YtlhgijpdhniddaaRows
import Derived.WalkKit
import Derived.ProofKit
import Derived.OpenShut
import Derived.JoinedCond
import Derived.Test.YtlhgijpdhniddaaBase1
import Derived.Test.YtlhgijpdhniddaaBase2
import Derived.Test.YtlhgijpdhniddaaSO1
import Derived.Test.YtlhgijpdhniddaaSO2
set_option linter.unusedSimpArgs false
set_option linter.unusedVariables false
namespace Go.Proofs.Ytlhgijpdhniddaa
open Go.D
set_option maxRecDepth 100000

abbrev zeroState : List Value := [.int .i64 0, .slice none 0 0, .slice none 0 0]
/-- how things lie while a state is read -/
structure ParSt (h : DHeap) (o : DObj) (row : List Value) (hh : DHeap) : Prop where
  rA : hh.get h.next = some (.row zeroState 0 false)
  rR : hh.get (h.next + 1) = some o
  rS : hh.get (h.next + 2) = some (.row row 0 false)
  old : ∀ j, j < h.next → hh.get j = h.get j
  nx : h.next + 3 ≤ hh.next
  ng : hh.ng = h.ng
section
variable {h hh h2 : DHeap} {o o' : DObj} {row row' : List Value}
theorem ParSt.num (s : ParSt h o row hh) : ParSt h o' row (hh.set (h.next + 1) o') :=
  ⟨(get_set_other _ _ (by omega)).trans s.rA, get_set_same _ _, (get_set_other _ _ (by omega)).trans s.rS, fun j hj => (get_set_other _ _ (by omega)).trans (s.old j hj), s.nx, s.ng⟩
theorem ParSt.fld (s : ParSt h o row hh) : ParSt h o row' (hh.set (h.next + 2) (.row row' 0 false)) :=
  ⟨(get_set_other _ _ (by omega)).trans s.rA, (get_set_other _ _ (by omega)).trans s.rR, get_set_same _ _, fun j hj => (get_set_other _ _ (by omega)).trans (s.old j hj), s.nx, s.ng⟩
theorem ParSt.grow (s : ParSt h o row hh) (h1 : hh.next ≤ h2.next) (hg : h2.ng = hh.ng) (hk : ∀ i, i < h.next + 3 → h2.get i = hh.get i) : ParSt h o row h2 :=
  ⟨(hk _ (by omega)).trans s.rA, (hk _ (by omega)).trans s.rR, (hk _ (by omega)).trans s.rS, fun j hj => (hk _ (by omega)).trans (s.old j hj), Nat.le_trans s.nx h1, hg.trans s.ng⟩
theorem ParSt.sl {b : Value} {l : List Int} (s : ParSt h o row hh) (hb : Arg fU8.rep h b l) : Sl fU8.rep (fun i => i < h.next + 1) hh b l := hb.mono fun i hi => ⟨by omega, s.old i hi⟩
end
theorem bd_rd {b : Value} (hb : b.cells = #[b]) : dBuild Try.prog 64 [(0, b)] = some (.agg #[b, .int .i64 0, .bool false]) := by
  refine dBuild_at plc_64 ?_
  simp only [fillL, List.getElem?_cons_zero, hb]
  rfl
theorem bd_state {n : Int} : dBuild Try.prog 26 [(0, .int .i64 n)] = some (.agg #[.int .i64 n, .slice none 0 0, .slice none 0 0]) := dBuild_at plc_26 rfl
theorem bd_state0 : dBuild Try.prog 26 [] = some (.agg #[.int .i64 0, .slice none 0 0, .slice none 0 0]) := dBuild_at plc_26 rfl
theorem xs_cut {P : Program} {nt : Nat} {x y : Code} {Q : DExit → St → Prop} {s : St} (M : St → Prop) (h1 : xs P nt x (DThen M Q) s) (h2 : ∀ s', M s' → xs P nt y Q s') : xs P nt (.seq x y) Q s := xs_mono x s (DThen_mono h2 fun _ _ h => h) h1
theorem XLoop_cut {P : Program} {nt id : Nat} {c : Code} {K : St → Prop} {Q : DExit → St → Prop} {s : St} (M : St → Prop) (h1 : XLoop P nt c (DBlock id (DThen M Q)) s) (h3 : ∀ s', M s' → K s') : XLoop P nt c (DBlock id (DThen K Q)) s := xblock_cut (c := .loop c) M h1 h3
/-- a state of the walk's end -/
def ParM (h hh : DHeap) (bb : Value) (odd : Bool) (e : Int) (s : St) : Prop :=
  s.df = [] ∧ s.fr 2 = some (.pointer (some ⟨h.next, 0, none⟩)) ∧ s.fr 4 = some (.pointer (some ⟨h.next + 1, 0, none⟩)) ∧ s.fr 5 = some (.pointer (some ⟨h.next + 2, 0, none⟩)) ∧ s.h = hh.set (h.next + 1) (rdRow bb e odd)
set_option maxHeartbeats 2000000 in
theorem stParse_s {h : DHeap} {b : Value} {l : List Int} (hb : Arg fU8.rep h b l) (hlen : l.length ≤ 4294967296) :
    Ct Try.prog 10 [b] h fun r h1 => ∃ vc vr, r = .ret (.tuple #[stateV (parseR id l).slot vc vr, .int .i64 (parseE id l)]) ∧ Ext h h1 ∧ Sl fCell.rep (fun i => h.next ≤ i ∧ i < h1.next) h1 vc (parseR id l).cells ∧ Sl rRow (fun i => h.next ≤ i ∧ i < h1.next) h1 vr (parseR id l).rows := by
  refine go_10 (by simp) ?_
  obtain ⟨n0, a0, e0, x0⟩ : ∃ p q r, numA l 0 0 = (p, q, r) := ⟨_, _, _, rfl⟩
  obtain ⟨n1, a1, e1, x1⟩ : ∃ p q r, lenA l a0 e0 1048576 = (p, q, r) := ⟨_, _, _, rfl⟩
  obtain ⟨cs, a2, e2, odd, x2⟩ : ∃ p q r s, cellsA l n1.toNat a1 e1 false = (p, q, r, s) := ⟨_, _, _, _, rfl⟩
  obtain ⟨n3, a3, e3, x3⟩ : ∃ p q r, lenA l a2 e2 1048576 = (p, q, r) := ⟨_, _, _, rfl⟩
  obtain ⟨rs, a4, e4, x4⟩ : ∃ p q r, rowsA id l n3.toNat a3 e3 = (p, q, r) := ⟨_, _, _, rfl⟩
  have hS : parseS id l = ⟨n0, cs, rs⟩ := by simp only [parseS, x0, x1, x2, x3, x4]
  have hE : parseE id l = endE l a4 e4 odd ⟨n0, cs, rs⟩ := by simp only [parseE, x0, x1, x2, x3, x4]
  have hbc := hb.cells1
  obtain ⟨p1, p2, p3⟩ := next_numA l 0 0
  rw [x0, List.drop_zero] at p1 p2 p3
  simp only at p1 p2 p3
  obtain ⟨H, hH⟩ : ∃ H, H = (h.push (.row zeroState 0 false)).push (rdRow b 0 false) := ⟨_, rfl⟩
  have hHn : H.next = h.next + 2 := by rw [hH]; rfl
  have hHg : H.ng = h.ng := by rw [hH]; rfl
  have hHA : H.get h.next = some (.row zeroState 0 false) := by rw [hH]; exact get_p1
  have hHR : H.get (h.next + 1) = some (rdRow b 0 false) := by rw [hH]; exact get_push_same _ _
  have hHo : ∀ i, i < h.next → H.get i = h.get i := fun i hi => by rw [hH, get_push_other _ _ (by rw [next_push]; omega), get_push_other _ _ hi]
  have hbH : Sl fU8.rep (fun i => i < h.next + 1) H b l := hb.mono fun i hi => ⟨by omega, hHo i hi⟩
  have c1 := int_c (odd := false) (e := 0) hbH hHR (by omega) hlen
  rw [p1, p2] at c1
  have hb0 := next_sl (e := 0) hbH
  obtain ⟨b0, hb0'⟩ : ∃ b0, nextV b l 0 = b0 := ⟨_, rfl⟩
  rw [hb0'] at c1 hb0
  rw [p3] at hb0
  obtain ⟨K, hK⟩ : ∃ K, K = (H.set (h.next + 1) (rdRow b0 e0 false)).push (.row [.int .i64 n0, .slice none 0 0, .slice none 0 0] 0 false) := ⟨_, rfl⟩
  have S0 : ParSt h (rdRow b0 e0 false) [.int .i64 n0, .slice none 0 0, .slice none 0 0] K := by
    rw [hK]
    refine ⟨?_, ?_, ?_, fun j hj => ?_, ?_, ?_⟩
    · rw [get_push_other _ _ (by rw [next_set]; omega), get_set_other _ _ (by omega), hHA]
    · rw [get_push_other _ _ (by rw [next_set]; omega), get_set_same]
    · rw [get_push_at _ _ (by rw [next_set, hHn])]
    · rw [get_push_other _ _ (by rw [next_set]; omega), get_set_other _ _ (by omega), hHo j hj]
    · rw [next_push, next_set, hHn]; omega
    · rw [ng_push, ng_set, hHg]
  have hst3 : [Value.int .i64 n0, .slice none 0 0, .slice none 0 0].all Value.oneCell' = true := rfl
  -- the bytes lie below
  have hb0K : Sl fU8.rep (fun i => i < h.next + 1) K b0 (l.drop a0) := hb0.mono fun i hi => ⟨hi, by
    rw [hK, get_push_other _ _ (by rw [next_set]; omega), get_set_other _ _ (by omega)]⟩
  obtain ⟨q1, q2, q3⟩ := many_lenA l a0 e0 1048576
  rw [x1] at q1 q2 q3
  simp only at q1 q2 q3
  have c2 := many_c (most := 1048576) hb0K S0.rR (by have := S0.nx; omega) (by rw [List.length_drop]; omega)
  rw [q1, q2] at c2
  have hb1 := next_sl (e := e0) hb0K
  rw [q3] at hb1
  obtain ⟨b1, hb1'⟩ : ∃ b1, nextV b0 (l.drop a0) e0 = b1 := ⟨_, rfl⟩
  rw [hb1'] at c2 hb1
  have S1 := S0.num (o' := rdRow b1 e1 false)
  simp -implicitDefEqProofs (disch := first | omega | (simp -implicitDefEqProofs only [go_sem, List.size_toArray, List.length_cons, List.length_nil, Nat.reduceAdd]; done)) only [go_sem, Int.reduceLT, Int.reduceLE, Int.reduceEq, reduceIte, true_and, Nat.zero_add, Nat.add_zero, Option.map_some, c10, bd_rd hbc, next_push]
  rw [← hH]
  refine ncall c1 ?_
  simp -implicitDefEqProofs (disch := first | omega | (simp -implicitDefEqProofs only [go_sem, List.size_toArray, List.length_cons, List.length_nil, Nat.reduceAdd]; done)) only [go_sem, Int.reduceLT, Int.reduceLE, Int.reduceEq, reduceIte, true_and, Nat.zero_add, Nat.add_zero, Option.map_some, bd_state, store3_push hst3]
  rw [← hK]
  simp -implicitDefEqProofs (disch := first | omega | (simp -implicitDefEqProofs only [go_sem, List.size_toArray, List.length_cons, List.length_nil, Nat.reduceAdd]; done)) only [go_sem, Int.reduceLT, Int.reduceLE, Int.reduceEq, reduceIte, true_and, Nat.zero_add, Nat.add_zero, Option.map_some, next_set, hHn]
  refine ncall c2 ?_
  simp -implicitDefEqProofs (disch := first | omega | (simp -implicitDefEqProofs only [go_sem, List.size_toArray, List.length_cons, List.length_nil, Nat.reduceAdd]; done)) only [go_sem, Int.reduceLT, Int.reduceLE, Int.reduceEq, reduceIte, true_and, Nat.zero_add, Nat.add_zero, Option.map_some]
  have hok : ∀ x ∈ l, 0 ≤ x ∧ x ≤ 255 := fun x hx => inK_u8.1 (hb.ok x hx)
  have hn1 : 0 ≤ n1 ∧ n1 ≤ 1048576 := by have := lenA_in (l := l) (a := a0) (e := e0) (most := 1048576) (by decide); rw [x1] at this; exact this
  refine XLoop_cut (fun s => s.df = [] ∧ s.fr 2 = some (.pointer (some ⟨h.next, 0, none⟩)) ∧ s.fr 4 = some (.pointer (some ⟨h.next + 1, 0, none⟩)) ∧ s.fr 5 = some (.pointer (some ⟨h.next + 2, 0, none⟩)) ∧
    ∃ v w bb, ParSt h (rdRow bb e2 odd) [.int .i64 n0, v, .slice none 0 0] s.h ∧ Owns fCell.rep NoS s.h v cs w ∧ (∀ x, w = some x → h.next + 3 ≤ x) ∧ Sl fU8.rep (fun i => i < h.next + 1) s.h bb (l.drop a2)) ?_ ?_
  · refine xloop (σ := Nat) (by kernel_rfl) (fun k s => s.df = [] ∧ s.fr 2 = some (.pointer (some ⟨h.next, 0, none⟩)) ∧ s.fr 4 = some (.pointer (some ⟨h.next + 1, 0, none⟩)) ∧ s.fr 5 = some (.pointer (some ⟨h.next + 2, 0, none⟩)) ∧ s.fr 6 = some (.int .i64 (k : Nat)) ∧
      ∃ pre a e o v w bb, ParSt h (rdRow bb e o) [.int .i64 n0, v, .slice none 0 0] s.h ∧ Owns fCell.rep NoS s.h v pre w ∧ (∀ x, w = some x → h.next + 3 ≤ x) ∧ Sl fU8.rep (fun i => i < h.next + 1) s.h bb (l.drop a) ∧
        pre ++ (cellsA l k a e o).1 = cs ∧ (cellsA l k a e o).2 = (a2, e2, odd) ∧ pre.length + k ≤ 1048576) (fun k => k) n1.toNat ?_ ?_
    · simp -implicitDefEqProofs (disch := first | omega | (simp -implicitDefEqProofs only [go_sem, List.size_toArray, List.length_cons, List.length_nil, Nat.reduceAdd]; done)) only [go_sem, Int.reduceLT, Int.reduceLE, Int.reduceEq, reduceIte, true_and, Nat.zero_add, Nat.add_zero, Option.map_some]
      exact ⟨by rw [show ((n1.toNat : Nat) : Int) = n1 by omega], [], a1, e1, false, _, none, b1, S1, Owns.nil _ _ _, by simp, hb1.mono fun i hi => ⟨hi, get_set_other _ _ (by omega)⟩, by rw [x2]; rfl, by rw [x2], by simp; omega⟩
    · rintro k ⟨fr, df, hh, rd⟩ K' hK' hX ⟨rfl, f2, f4, f5, f6, pre, a, e, o, v, w, bb, S, ho, hw, hbb, g1, g2, g3⟩
      simp only at f2 f4 f5 f6 S ho hbb
      have C1 : cellAt hh (h.next + 1) 1 = some (.int .i64 e) := cellAt_row S.rR
      have hexit : (k = 0 ∨ e ≠ 0) → ∀ fr', fr' 2 = fr 2 → fr' 4 = fr 4 → fr' 5 = fr 5 → K' (.exit 0) ⟨fr', [], hh, rd⟩ := by
        intro hs fr' q2 q4 q5
        rw [cellsA_stop l k a o hs] at g1 g2
        simp only [List.append_nil, Prod.mk.injEq] at g1 g2
        obtain ⟨rfl, rfl, rfl⟩ := g2
        subst g1
        exact hX _ _ (by simp) ⟨rfl, q2.trans f2, q4.trans f4, q5.trans f5, v, w, bb, S, ho, hw, hbb⟩
      by_cases hk : (0 : Int) < (k : Int)
      case neg =>
        simp -implicitDefEqProofs (disch := first | omega | (simp -implicitDefEqProofs only [go_sem, List.size_toArray, List.length_cons, List.length_nil, Nat.reduceAdd]; done)) only [go_sem, Int.reduceLT, Int.reduceLE, Int.reduceEq, reduceIte, true_and, Nat.zero_add, Nat.add_zero, Option.map_some, f6, hk, dPick_f]
        exact hexit (.inl (by omega)) _ rfl rfl rfl
      by_cases he : e = 0
      case neg =>
        simp -implicitDefEqProofs (disch := first | omega | (simp -implicitDefEqProofs only [go_sem, List.size_toArray, List.length_cons, List.length_nil, Nat.reduceAdd]; done)) only [go_sem, Int.reduceLT, Int.reduceLE, Int.reduceEq, reduceIte, true_and, Nat.zero_add, Nat.add_zero, Option.map_some, f6, hk, f4, C1, he, dPick_t]
        exact hexit (.inr he) _ rfl rfl rfl
      subst he
      obtain ⟨k, rfl⟩ : ∃ m, k = m + 1 := ⟨k - 1, by omega⟩
      obtain ⟨b', hb', tc⟩ := stCell_at (odd := o) hbb S.rR (by have := S.nx; omega) hlen
      have hcok := cellA_ok hok a 0 o
      rw [cellsA, if_pos rfl] at g1 g2
      obtain ⟨c, a', e', o', hx⟩ : ∃ p q r s, cellA l a 0 o = (p, q, r, s) := ⟨_, _, _, _, rfl⟩
      rw [hx] at tc hb' g1 g2 hcok
      simp only at tc hb' g1 g2 hcok
      have S1' := S.num (o' := rdRow b' e' o')
      have ho1 : Owns fCell.rep NoS (hh.set (h.next + 1) (rdRow b' e' o')) v pre w := ho.mono (Nat.le_refl _) (fun x hxw => get_set_other _ _ (by have := hw x hxw; omega)) (fun i hi => hi.elim)
      obtain ⟨v', h2, e3, y1, y2, y3, o3⟩ := ho1.snoc (ts := #[23, 23]) (cs := fCell.enc c) (x := c) (z := 4) (fun i hi => hi.elim) ⟨rfl, hcok⟩ rfl (by decide) app_23 (by omega) (by decide)
      have hnx := S.nx
      have hnx1 : (hh.set (h.next + 1) (rdRow b' e' o')).next = hh.next := rfl
      have S2' := S1'.grow (h2 := h2) (by omega) y2 (fun i hi => y3 i (by omega) (fun hwi => by have := hw i hwi; omega))
      have S3' := S2'.fld (row' := [.int .i64 n0, v', .slice none 0 0])
      have C5 : cellAt hh (h.next + 2) 1 = some v := cellAt_row S.rS
      have hsl := o3.sl.isSlice
      have hcl : v'.cells = #[v'] := o3.sl.cells1
      have hone : [v'].all Value.oneCell' = true := by obtain ⟨_, _, rfl⟩ := hsl; rfl
      have hst : dStore Try.prog 23 (.pointer (some ⟨h.next + 2, 1, none⟩)) v' h2 = some (h2.set (h.next + 2) (.row [.int .i64 n0, v', .slice none 0 0] 0 false)) :=
        (st_23 hcl).trans (storeAt_row S2'.rS (Nat.le_of_ble_eq_true rfl) hone)
      have hw5 : IntKind.i64.wrap (((k + 1 : Nat) : Int) - 1) = (k : Int) := by rw [wrap_i64_in (by omega) (by omega)]; omega
      have hbs : ∀ K : DHeap, dBuildSlice Try.prog 23 1 [(0, cellV c)] K = some (.slice (some ⟨K.next, 0, none⟩) 1 1, K.push (.row (fCell.enc c) 4 false)) := fun K => bs1_23 rfl
      simp -implicitDefEqProofs (disch := first | omega | (simp -implicitDefEqProofs only [go_sem, List.size_toArray, List.length_cons, List.length_nil, Nat.reduceAdd]; done)) only [go_sem, Int.reduceLT, Int.reduceLE, Int.reduceEq, reduceIte, true_and, Nat.zero_add, Nat.add_zero, Option.map_some, f6, hk, f4, C1, dPick_t]
      refine dr_10_0 ?_
      simp -implicitDefEqProofs (disch := first | omega | (simp -implicitDefEqProofs only [go_sem, List.size_toArray, List.length_cons, List.length_nil, Nat.reduceAdd]; done)) only [go_sem, Int.reduceLT, Int.reduceLE, Int.reduceEq, reduceIte, true_and, Nat.zero_add, Nat.add_zero, Option.map_some, l10_0, f5, f4, C5]
      refine dcall tc ?_
      simp -implicitDefEqProofs (disch := first | omega | (simp -implicitDefEqProofs only [go_sem, List.size_toArray, List.length_cons, List.length_nil, Nat.reduceAdd]; done)) only [go_sem, Int.reduceLT, Int.reduceLE, Int.reduceEq, reduceIte, true_and, Nat.zero_add, Nat.add_zero, Option.map_some, hbs, e3, f5, hst]
      have D1 : ∀ K : DHeap, K.get (h.next + 2) = some (.row [.int .i64 n0, v, .slice none 0 0] 0 false) → dLoad Try.prog 23 (.pointer (some ⟨h.next + 2, 1, none⟩)) K = some v := fun K hk => ld_23.trans (cellAt_row hk)
      refine ⟨⟨XSt1_at (i := 1) (j := 3) rfl rfl rfl ?_, XSt1_at (i := 1) (j := 4) rfl rfl rfl ?_, trivial⟩, ?_⟩
      · rw [if_neg (by decide)]
        refine Ld_on (p := .pointer (some ⟨h.next + 2, 1, none⟩)) ?_ ?_ (D1 _ S1'.rS)
        · simp -implicitDefEqProofs (disch := first | omega | (simp -implicitDefEqProofs only [go_sem, List.size_toArray, List.length_cons, List.length_nil, Nat.reduceAdd]; done)) only [go_sem, Int.reduceLT, Int.reduceLE, Int.reduceEq, reduceIte, true_and, Nat.zero_add, Nat.add_zero, Option.map_some]
        · simp -implicitDefEqProofs (disch := first | omega | (simp -implicitDefEqProofs only [go_sem, List.size_toArray, List.length_cons, List.length_nil, Nat.reduceAdd]; done)) only [go_sem, Int.reduceLT, Int.reduceLE, Int.reduceEq, reduceIte, true_and, Nat.zero_add, Nat.add_zero, Option.map_some]
      · rw [if_neg (by decide)]
        refine Ld_on (p := .pointer (some ⟨h.next + 2, 1, none⟩)) ?_ ?_ (D1 _ ((get_push_other _ _ (by omega)).trans S1'.rS))
        · simp -implicitDefEqProofs (disch := first | omega | (simp -implicitDefEqProofs only [go_sem, List.size_toArray, List.length_cons, List.length_nil, Nat.reduceAdd]; done)) only [go_sem, Int.reduceLT, Int.reduceLE, Int.reduceEq, reduceIte, true_and, Nat.zero_add, Nat.add_zero, Option.map_some]
        · simp -implicitDefEqProofs (disch := first | omega | (simp -implicitDefEqProofs only [go_sem, List.size_toArray, List.length_cons, List.length_nil, Nat.reduceAdd]; done)) only [go_sem, Int.reduceLT, Int.reduceLE, Int.reduceEq, reduceIte, true_and, Nat.zero_add, Nat.add_zero, Option.map_some]
      simp -implicitDefEqProofs (disch := first | omega | (simp -implicitDefEqProofs only [go_sem, List.size_toArray, List.length_cons, List.length_nil, Nat.reduceAdd]; done)) only [go_sem, Int.reduceLT, Int.reduceLE, Int.reduceEq, reduceIte, true_and, Nat.zero_add, Nat.add_zero, Option.map_some, f6, hw5]
      refine hK' k _ ?_ (by omega)
      refine ⟨by trivial, by simp -implicitDefEqProofs (disch := first | omega | (simp -implicitDefEqProofs only [go_sem, List.size_toArray, List.length_cons, List.length_nil, Nat.reduceAdd]; done)) only [go_sem, Int.reduceLT, Int.reduceLE, Int.reduceEq, reduceIte, true_and, Nat.zero_add, Nat.add_zero, Option.map_some, f2], by simp -implicitDefEqProofs (disch := first | omega | (simp -implicitDefEqProofs only [go_sem, List.size_toArray, List.length_cons, List.length_nil, Nat.reduceAdd]; done)) only [go_sem, Int.reduceLT, Int.reduceLE, Int.reduceEq, reduceIte, true_and, Nat.zero_add, Nat.add_zero, Option.map_some, f4], by simp -implicitDefEqProofs (disch := first | omega | (simp -implicitDefEqProofs only [go_sem, List.size_toArray, List.length_cons, List.length_nil, Nat.reduceAdd]; done)) only [go_sem, Int.reduceLT, Int.reduceLE, Int.reduceEq, reduceIte, true_and, Nat.zero_add, Nat.add_zero, Option.map_some, f5], by simp -implicitDefEqProofs (disch := first | omega | (simp -implicitDefEqProofs only [go_sem, List.size_toArray, List.length_cons, List.length_nil, Nat.reduceAdd]; done)) only [go_sem, Int.reduceLT, Int.reduceLE, Int.reduceEq, reduceIte, true_and, Nat.zero_add, Nat.add_zero, Option.map_some], pre ++ [c], a', e', o', v', _, b', S3', o3.mono (Nat.le_refl _) (fun x hxw => get_set_other _ _ (by cases hxw; omega)) (fun i hi => hi.elim), ?_, ?_, by rw [List.append_assoc]; exact g1, g2, by simp; omega⟩
      · intro x hxw; cases hxw; omega
      · refine hb'.mono fun i hi => ⟨hi, ?_⟩
        rw [get_set_other _ _ (by omega), y3 i (by omega) (fun hwi => by have := hw i hwi; omega), get_set_other _ _ (by omega)]
  · rintro ⟨fr, df, hh, rd⟩ ⟨rfl, f2, f4, f5, v, w, bb, S, ho, hw, hbb⟩
    simp only at f2 f4 f5 S ho hbb
    have hnx := S.nx
    have hbl : (l.drop a2).length ≤ 4294967296 := by rw [List.length_drop]; omega
    obtain ⟨q1, q2, q3⟩ := many_lenA l a2 e2 1048576
    rw [x3] at q1 q2 q3
    simp only at q1 q2 q3
    have c2 := many_c (most := 1048576) hbb S.rR (by omega) hbl
    rw [q1, q2] at c2
    have hb3 := next_sl (e := e2) hbb
    rw [q3] at hb3
    obtain ⟨b3, hb3'⟩ : ∃ b3, nextV bb (l.drop a2) e2 = b3 := ⟨_, rfl⟩
    rw [hb3'] at c2 hb3
    have S3 := S.num (o' := rdRow b3 e3 odd)
    have hn3 : 0 ≤ n3 ∧ n3 ≤ 1048576 := by have := lenA_in (l := l) (a := a2) (e := e2) (most := 1048576) (by decide); rw [x3] at this; exact this
    have hwl := ho.lt
    have hcs : Sl fCell.rep (fun i => h.next + 3 ≤ i ∧ i < hh.next) (hh.set (h.next + 1) (rdRow b3 e3 odd)) v cs := ho.sl.mono fun i hi => by
      rcases hi with hi | hi
      · exact hi.elim
      · exact ⟨⟨hw i hi, hwl i hi⟩, get_set_other _ _ (by have := hw i hi; omega)⟩
    obtain ⟨B0, hB0⟩ : ∃ B0, hh.next = B0 := ⟨_, rfl⟩
    rw [hB0] at hcs hnx
    simp -implicitDefEqProofs (disch := first | omega | (simp -implicitDefEqProofs only [go_sem, List.size_toArray, List.length_cons, List.length_nil, Nat.reduceAdd]; done)) only [go_sem, Int.reduceLT, Int.reduceLE, Int.reduceEq, reduceIte, true_and, Nat.zero_add, Nat.add_zero, Option.map_some, f4]
    refine ncall c2 ?_
    simp -implicitDefEqProofs (disch := first | omega | (simp -implicitDefEqProofs only [go_sem, List.size_toArray, List.length_cons, List.length_nil, Nat.reduceAdd]; done)) only [go_sem, Int.reduceLT, Int.reduceLE, Int.reduceEq, reduceIte, true_and, Nat.zero_add, Nat.add_zero, Option.map_some]
    refine XLoop_cut (fun s => s.df = [] ∧ s.fr 2 = some (.pointer (some ⟨h.next, 0, none⟩)) ∧ s.fr 4 = some (.pointer (some ⟨h.next + 1, 0, none⟩)) ∧ s.fr 5 = some (.pointer (some ⟨h.next + 2, 0, none⟩)) ∧
      ∃ vr bb, ParSt h (rdRow bb e4 odd) [.int .i64 n0, v, vr] s.h ∧ Sl fCell.rep (fun i => h.next + 3 ≤ i ∧ i < s.h.next) s.h v cs ∧ Sl rRow (fun i => h.next + 3 ≤ i ∧ i < s.h.next) s.h vr rs ∧ Sl fU8.rep (fun i => i < h.next + 1) s.h bb (l.drop a4)) ?_ ?_
    · refine xloop (σ := Nat) (by kernel_rfl) (fun k s => s.df = [] ∧ s.fr 2 = some (.pointer (some ⟨h.next, 0, none⟩)) ∧ s.fr 4 = some (.pointer (some ⟨h.next + 1, 0, none⟩)) ∧ s.fr 5 = some (.pointer (some ⟨h.next + 2, 0, none⟩)) ∧ s.fr 7 = some (.int .i64 (k : Nat)) ∧
        ∃ pre a e vr w bb S, ParSt h (rdRow bb e odd) [.int .i64 n0, v, vr] s.h ∧ Owns rRow S s.h vr pre w ∧ (∀ i, S i → B0 ≤ i ∧ i < s.h.next ∧ w ≠ some i) ∧ (∀ x, w = some x → B0 ≤ x) ∧ B0 ≤ s.h.next ∧ Sl fU8.rep (fun i => i < h.next + 1) s.h bb (l.drop a) ∧
          Sl fCell.rep (fun i => h.next + 3 ≤ i ∧ i < B0) s.h v cs ∧ pre ++ (rowsA id l k a e).1 = rs ∧ (rowsA id l k a e).2 = (a4, e4) ∧ pre.length + k ≤ 1048576) (fun k => k) n3.toNat ?_ ?_
      · simp -implicitDefEqProofs (disch := first | omega | (simp -implicitDefEqProofs only [go_sem, List.size_toArray, List.length_cons, List.length_nil, Nat.reduceAdd]; done)) only [go_sem, Int.reduceLT, Int.reduceLE, Int.reduceEq, reduceIte, true_and, Nat.zero_add, Nat.add_zero, Option.map_some, f2, f4, f5]
        exact ⟨by rw [show ((n3.toNat : Nat) : Int) = n3 by omega], [], a3, e3, _, none, b3, NoS, S3, Owns.nil _ _ _, fun i hi => hi.elim, by simp, by rw [next_set]; omega, hb3.mono fun i hi => ⟨hi, get_set_other _ _ (by omega)⟩, hcs, by rw [x4]; rfl, by rw [x4], by simp; omega⟩
      · rintro k ⟨fr, df, hh, rd⟩ K' hK' hX ⟨rfl, f2, f4, f5, f7, pre, a, e, vr, w, bb, Sx, S, ho, hSx, hw, hB, hbb, hcs, g1, g2, g3⟩
        simp only at f2 f4 f5 f7 S ho hbb hSx hB hcs
        have C1 : cellAt hh (h.next + 1) 1 = some (.int .i64 e) := cellAt_row S.rR
        have hwl := ho.lt
        have hexit : (k = 0 ∨ e ≠ 0) → ∀ fr', fr' 2 = fr 2 → fr' 4 = fr 4 → fr' 5 = fr 5 → K' (.exit 2) ⟨fr', [], hh, rd⟩ := by
          intro hs fr' q2 q4 q5
          rw [rowsA_stop id l k a hs] at g1 g2
          simp only [List.append_nil, Prod.mk.injEq] at g1 g2
          obtain ⟨rfl, rfl⟩ := g2
          subst g1
          exact hX _ _ (by simp) ⟨rfl, q2.trans f2, q4.trans f4, q5.trans f5, vr, bb, S, hcs.mono fun i hi => ⟨⟨hi.1, Nat.lt_of_lt_of_le hi.2 hB⟩, rfl⟩, ho.sl.mono (fun i hi => by
            rcases hi with hi | hi
            · exact ⟨⟨by have := (hSx i hi).1; omega, (hSx i hi).2.1⟩, rfl⟩
            · exact ⟨⟨by have := hw i hi; omega, hwl i hi⟩, rfl⟩), hbb⟩
        by_cases hk : (0 : Int) < (k : Int)
        case neg =>
          simp -implicitDefEqProofs (disch := first | omega | (simp -implicitDefEqProofs only [go_sem, List.size_toArray, List.length_cons, List.length_nil, Nat.reduceAdd]; done)) only [go_sem, Int.reduceLT, Int.reduceLE, Int.reduceEq, reduceIte, true_and, Nat.zero_add, Nat.add_zero, Option.map_some, f7, hk, dPick_f]
          exact hexit (.inl (by omega)) _ rfl rfl rfl
        by_cases he : e = 0
        case neg =>
          simp -implicitDefEqProofs (disch := first | omega | (simp -implicitDefEqProofs only [go_sem, List.size_toArray, List.length_cons, List.length_nil, Nat.reduceAdd]; done)) only [go_sem, Int.reduceLT, Int.reduceLE, Int.reduceEq, reduceIte, true_and, Nat.zero_add, Nat.add_zero, Option.map_some, f7, hk, f4, C1, he, dPick_t]
          exact hexit (.inr he) _ rfl rfl rfl
        subst he
        obtain ⟨k, rfl⟩ : ∃ m, k = m + 1 := ⟨k - 1, by omega⟩
        obtain ⟨b', hb', tc⟩ := stRow_at hbb S.rR (by omega) hlen
        have hrok := rowA_ok (f := id) (fun _ h => h) hok a 0
        have hvin : ∀ x ∈ (rowA id l a 0).1.x.vs, fI64.ok x := by
          intro x hx
          unfold rowA at hx
          exact valsA_in hok _ _ _ x hx
        rw [rowsA, if_pos rfl] at g1 g2
        obtain ⟨c, a', e', hx⟩ : ∃ p q r, rowA id l a 0 = (p, q, r) := ⟨_, _, _, rfl⟩
        rw [hx] at tc hb' g1 g2 hrok hvin
        simp only at tc hb' g1 g2 hrok hvin
        have S1' := S.num (o' := rdRow b' e' odd)
        obtain ⟨h1, hh1⟩ : ∃ h1, h1 = hh.set (h.next + 1) (rdRow b' e' odd) := ⟨_, rfl⟩
        obtain ⟨hL, hhL⟩ : ∃ hL, hL = lh fI64 h1 c.x.vs := ⟨_, rfl⟩
        have hmade := lh_made fI64 h1 hvin
        rw [← hhL] at hmade
        have hn1' : h1.next = hh.next := by rw [hh1]; rfl
        have hlv : lv h1 c.x.vs = lv hh c.x.vs := by unfold lv mkS; rw [hn1']
        have hE := hmade.ext
        have hEn := hE.next
        have gL : ∀ i, i < hh.next → i ≠ h.next + 1 → hL.get i = hh.get i := fun i hi hne => by rw [hE.get i (by omega), hh1, get_set_other _ _ hne]
        rw [← hh1, ← hhL] at tc
        have SL : ParSt h (rdRow b' e' odd) [.int .i64 n0, v, vr] hL := by
          rw [← hh1] at S1'
          exact S1'.grow hEn hE.ng (fun i hi => hE.get i (by omega))
        have hsl := hmade.sl
        rw [hlv] at hsl
        have ho1 : Owns rRow (fun i => Sx i ∨ (hh.next ≤ i ∧ i < hL.next)) hL vr pre w := ho.mono (by omega) (fun x hxw => gL x (hwl x hxw) (by have := hw x hxw; omega)) (fun i hi => ⟨.inl hi, gL i (hSx i hi).2.1 (by have := (hSx i hi).1; omega)⟩)
        have hrd : rRow.rd (fun i => Sx i ∨ (hh.next ≤ i ∧ i < hL.next)) hL [.int .i64 c.ses, .int .i64 c.req, .int .i64 c.x.e, lv hh c.x.vs, .int .i64 c.x.s, .int .i64 c.x.p] c := rd_row (hsl.mono fun i hi => ⟨.inr (by omega), rfl⟩) hrok
        obtain ⟨v', h2, e3, y1, y2, y3, o3⟩ := ho1.snoc (ts := #[24, 24]) (x := c) (z := 6) (fun i hi => by
          rcases hi with hi | hi
          · exact ⟨by have := (hSx i hi).2.1; omega, (hSx i hi).2.2⟩
          · exact ⟨hi.2, fun hwi => by have := hwl i hwi; omega⟩) hrd rfl (by decide) app_24 (by omega) (by decide)
        have S2' := SL.grow (h2 := h2) (by omega) y2 (fun i hi => y3 i (by omega) (fun hwi => by have := hw i hwi; omega))
        have S3' := S2'.fld (row' := [.int .i64 n0, v, v'])
        have C5 : cellAt hh (h.next + 2) 2 = some vr := cellAt_row S.rS
        have hsl2 := o3.sl.isSlice
        have hcl : v'.cells = #[v'] := o3.sl.cells1
        have hcv : v.cells = #[v] := hcs.cells1
        have hone : [v'].all Value.oneCell' = true := by obtain ⟨_, _, rfl⟩ := hsl2; rfl
        have hst : dStore Try.prog 24 (.pointer (some ⟨h.next + 2, 2, none⟩)) v' h2 = some (h2.set (h.next + 2) (.row [.int .i64 n0, v, v'] 0 false)) :=
          (st_24 hcl).trans (storeAt_row S2'.rS (Nat.le_of_ble_eq_true rfl) hone)
        have hw5 : IntKind.i64.wrap (((k + 1 : Nat) : Int) - 1) = (k : Int) := by rw [wrap_i64_in (by omega) (by omega)]; omega
        have hbs : ∀ K : DHeap, dBuildSlice Try.prog 24 1 [(0, rowV c (lv hh c.x.vs))] K = some (.slice (some ⟨K.next, 0, none⟩) 1 1, K.push (.row [.int .i64 c.ses, .int .i64 c.req, .int .i64 c.x.e, lv hh c.x.vs, .int .i64 c.x.s, .int .i64 c.x.p] 6 false)) := fun K => bs1_24 rfl
        simp -implicitDefEqProofs (disch := first | omega | (simp -implicitDefEqProofs only [go_sem, List.size_toArray, List.length_cons, List.length_nil, Nat.reduceAdd]; done)) only [go_sem, Int.reduceLT, Int.reduceLE, Int.reduceEq, reduceIte, true_and, Nat.zero_add, Nat.add_zero, Option.map_some, f7, hk, f4, C1, dPick_t]
        refine dr_10_1 ?_
        simp -implicitDefEqProofs (disch := first | omega | (simp -implicitDefEqProofs only [go_sem, List.size_toArray, List.length_cons, List.length_nil, Nat.reduceAdd]; done)) only [go_sem, Int.reduceLT, Int.reduceLE, Int.reduceEq, reduceIte, true_and, Nat.zero_add, Nat.add_zero, Option.map_some, l10_1, f5, f4, C5]
        refine dcall tc ?_
        simp -implicitDefEqProofs (disch := first | omega | (simp -implicitDefEqProofs only [go_sem, List.size_toArray, List.length_cons, List.length_nil, Nat.reduceAdd]; done)) only [go_sem, Int.reduceLT, Int.reduceLE, Int.reduceEq, reduceIte, true_and, Nat.zero_add, Nat.add_zero, Option.map_some, hbs, e3, f5, hst]
        have D1 : ∀ K : DHeap, K.get (h.next + 2) = some (.row [.int .i64 n0, v, vr] 0 false) → dLoad Try.prog 24 (.pointer (some ⟨h.next + 2, 2, none⟩)) K = some vr := fun K hk => ld_24.trans (cellAt_row hk)
        refine ⟨⟨XSt1_at (i := 1) (j := 3) rfl rfl rfl ?_, XSt1_at (i := 1) (j := 4) rfl rfl rfl ?_, trivial⟩, ?_⟩
        · rw [if_neg (by decide)]
          refine Ld_on (p := .pointer (some ⟨h.next + 2, 2, none⟩)) ?_ ?_ (D1 _ SL.rS)
          · simp -implicitDefEqProofs (disch := first | omega | (simp -implicitDefEqProofs only [go_sem, List.size_toArray, List.length_cons, List.length_nil, Nat.reduceAdd]; done)) only [go_sem, Int.reduceLT, Int.reduceLE, Int.reduceEq, reduceIte, true_and, Nat.zero_add, Nat.add_zero, Option.map_some]
          · simp -implicitDefEqProofs (disch := first | omega | (simp -implicitDefEqProofs only [go_sem, List.size_toArray, List.length_cons, List.length_nil, Nat.reduceAdd]; done)) only [go_sem, Int.reduceLT, Int.reduceLE, Int.reduceEq, reduceIte, true_and, Nat.zero_add, Nat.add_zero, Option.map_some]
        · rw [if_neg (by decide)]
          refine Ld_on (p := .pointer (some ⟨h.next + 2, 2, none⟩)) ?_ ?_ (D1 _ ((get_push_other _ _ (by omega)).trans SL.rS))
          · simp -implicitDefEqProofs (disch := first | omega | (simp -implicitDefEqProofs only [go_sem, List.size_toArray, List.length_cons, List.length_nil, Nat.reduceAdd]; done)) only [go_sem, Int.reduceLT, Int.reduceLE, Int.reduceEq, reduceIte, true_and, Nat.zero_add, Nat.add_zero, Option.map_some]
          · simp -implicitDefEqProofs (disch := first | omega | (simp -implicitDefEqProofs only [go_sem, List.size_toArray, List.length_cons, List.length_nil, Nat.reduceAdd]; done)) only [go_sem, Int.reduceLT, Int.reduceLE, Int.reduceEq, reduceIte, true_and, Nat.zero_add, Nat.add_zero, Option.map_some]
        simp -implicitDefEqProofs (disch := first | omega | (simp -implicitDefEqProofs only [go_sem, List.size_toArray, List.length_cons, List.length_nil, Nat.reduceAdd]; done)) only [go_sem, Int.reduceLT, Int.reduceLE, Int.reduceEq, reduceIte, true_and, Nat.zero_add, Nat.add_zero, Option.map_some, f7, hw5]
        refine hK' k _ ?_ (by omega)
        refine ⟨by trivial, by simp -implicitDefEqProofs (disch := first | omega | (simp -implicitDefEqProofs only [go_sem, List.size_toArray, List.length_cons, List.length_nil, Nat.reduceAdd]; done)) only [go_sem, Int.reduceLT, Int.reduceLE, Int.reduceEq, reduceIte, true_and, Nat.zero_add, Nat.add_zero, Option.map_some, f2], by simp -implicitDefEqProofs (disch := first | omega | (simp -implicitDefEqProofs only [go_sem, List.size_toArray, List.length_cons, List.length_nil, Nat.reduceAdd]; done)) only [go_sem, Int.reduceLT, Int.reduceLE, Int.reduceEq, reduceIte, true_and, Nat.zero_add, Nat.add_zero, Option.map_some, f4], by simp -implicitDefEqProofs (disch := first | omega | (simp -implicitDefEqProofs only [go_sem, List.size_toArray, List.length_cons, List.length_nil, Nat.reduceAdd]; done)) only [go_sem, Int.reduceLT, Int.reduceLE, Int.reduceEq, reduceIte, true_and, Nat.zero_add, Nat.add_zero, Option.map_some, f5], by simp -implicitDefEqProofs (disch := first | omega | (simp -implicitDefEqProofs only [go_sem, List.size_toArray, List.length_cons, List.length_nil, Nat.reduceAdd]; done)) only [go_sem, Int.reduceLT, Int.reduceLE, Int.reduceEq, reduceIte, true_and, Nat.zero_add, Nat.add_zero, Option.map_some], pre ++ [c], a', e', v', _, b', _, S3', o3.mono (Nat.le_refl _) (fun x hxw => get_set_other _ _ (by cases hxw; omega)) (fun i hi => ⟨hi, get_set_other _ _ ?_⟩), ?_, ?_, by rw [next_set]; omega, ?_, ?_, by rw [List.append_assoc]; exact g1, g2, by simp; omega⟩
        · rcases hi with hi | hi
          · have := (hSx i hi).1; omega
          · omega
        · intro i hi
          rw [next_set]
          rcases hi with hi | hi
          · have := hSx i hi
            exact ⟨this.1, by omega, fun hh0 => by cases hh0; omega⟩
          · exact ⟨by omega, by omega, fun hh0 => by cases hh0; omega⟩
        · intro x hxw; cases hxw; omega
        · refine hb'.mono fun i hi => ⟨hi, ?_⟩
          rw [get_set_other _ _ (by omega), y3 i (by omega) (fun hwi => by have := hw i hwi; omega), gL i (by omega) (by omega)]
        · refine hcs.mono fun i hi => ⟨hi, ?_⟩
          rw [get_set_other _ _ (by omega), y3 i (by omega) (fun hwi => by have := hw i hwi; omega), gL i (by omega) (by omega)]
    · rintro ⟨fr, df, hh, rd⟩ ⟨rfl, f2, f4, f5, vr, bb, S, hcs, hrs, hbb⟩
      simp only at f2 f4 f5 S hcs hrs hbb
      have el := hbb.lens (P := Try.prog) (ts := #[22]) (t := 22) rfl isl_22
      have hR1 : h.next + 1 < hh.next := by have := S.nx; omega
      have C0 : cellAt hh (h.next + 1) 0 = some bb := cellAt_row S.rR
      have C1 : cellAt hh (h.next + 1) 1 = some (.int .i64 e4) := cellAt_row S.rR
      have hdl : (l.drop a4).length = l.length - a4 := List.length_drop ..
      have hst : ∀ e x, storeAt (hh.set (h.next + 1) (rdRow bb e odd)) (h.next + 1) 1 [.int .i64 x] = some (hh.set (h.next + 1) (rdRow bb x odd)) := fun e x => (storeAt_row (get_set_same _ _) (Nat.le_of_ble_eq_true rfl) rfl).trans (by rw [set_set]; rfl)
      have hst0 : ∀ x, storeAt hh (h.next + 1) 1 [.int .i64 x] = some (hh.set (h.next + 1) (rdRow bb x odd)) := fun x => storeAt_row S.rR (Nat.le_of_ble_eq_true rfl) rfl
      have hself : hh = hh.set (h.next + 1) (rdRow bb e4 odd) := (set_self S.rR).symm
      have D1 : ∀ e, cellAt (hh.set (h.next + 1) (rdRow bb e odd)) (h.next + 1) 1 = some (.int .i64 e) := fun e => cellAt_row (get_set_same _ _)
      have D2 : ∀ e, cellAt (hh.set (h.next + 1) (rdRow bb e odd)) (h.next + 1) 2 = some (.bool odd) := fun e => cellAt_row (get_set_same _ _)
      -- bytes are left
      refine xs_cut (ParM h hh bb odd (if e4 = 0 ∧ a4 < l.length then 13 else e4)) ?_ ?_
      · by_cases h0 : e4 = 0
        case neg =>
          rw [if_neg (fun hh => h0 hh.1)]
          simp -implicitDefEqProofs (disch := first | omega | (simp -implicitDefEqProofs only [go_sem, List.size_toArray, List.length_cons, List.length_nil, Nat.reduceAdd]; done)) only [go_sem, Int.reduceLT, Int.reduceLE, Int.reduceEq, reduceIte, true_and, Nat.zero_add, Nat.add_zero, Option.map_some, f4, C0, C1, h0, dPick_f]
          exact ⟨rfl, f2, f4, f5, hself⟩
        by_cases h1 : a4 < l.length
        · rw [if_pos ⟨h0, h1⟩]
          have hp : (0 : Int) < ((l.drop a4).length : Int) := by omega
          simp -implicitDefEqProofs (disch := first | omega | (simp -implicitDefEqProofs only [go_sem, List.size_toArray, List.length_cons, List.length_nil, Nat.reduceAdd]; done)) only [go_sem, Int.reduceLT, Int.reduceLE, Int.reduceEq, reduceIte, true_and, Nat.zero_add, Nat.add_zero, Option.map_some, f4, C0, C1, h0, el, gt_iff_lt, hp, dPick_t, hst0]
          exact ⟨rfl, f2, f4, f5, rfl⟩
        · rw [if_neg (fun hh => h1 hh.2)]
          have hp : ¬ (0 : Int) < ((l.drop a4).length : Int) := by omega
          simp -implicitDefEqProofs (disch := first | omega | (simp -implicitDefEqProofs only [go_sem, List.size_toArray, List.length_cons, List.length_nil, Nat.reduceAdd]; done)) only [go_sem, Int.reduceLT, Int.reduceLE, Int.reduceEq, reduceIte, true_and, Nat.zero_add, Nat.add_zero, Option.map_some, f4, C0, C1, h0, el, gt_iff_lt, hp, dPick_t]
          exact ⟨rfl, f2, f4, f5, by rw [← h0]; exact hself⟩
      obtain ⟨eA, hA⟩ : ∃ x, (if e4 = 0 ∧ a4 < l.length then 13 else e4) = x := ⟨_, rfl⟩
      rw [hA]
      rintro ⟨fr, df, h', rd⟩ ⟨rfl, f2, f4, f5, rfl⟩
      simp only at f2 f4 f5
      -- something can't be so
      refine xs_cut (ParM h hh bb odd (if eA = 0 ∧ odd = true then 220 else eA)) ?_ ?_
      · by_cases h0 : eA = 0
        case neg =>
          rw [if_neg (fun hh => h0 hh.1)]
          simp -implicitDefEqProofs (disch := first | omega | (simp -implicitDefEqProofs only [go_sem, List.size_toArray, List.length_cons, List.length_nil, Nat.reduceAdd]; done)) only [go_sem, Int.reduceLT, Int.reduceLE, Int.reduceEq, reduceIte, true_and, Nat.zero_add, Nat.add_zero, Option.map_some, f4, D1, h0, dPick_f]
          exact ⟨rfl, f2, f4, f5, rfl⟩
        cases hodd : odd with
        | true =>
          rw [hodd] at D1 D2 hst
          rw [if_pos ⟨h0, rfl⟩]
          simp -implicitDefEqProofs (disch := first | omega | (simp -implicitDefEqProofs only [go_sem, List.size_toArray, List.length_cons, List.length_nil, Nat.reduceAdd]; done)) only [go_sem, Int.reduceLT, Int.reduceLE, Int.reduceEq, reduceIte, true_and, Nat.zero_add, Nat.add_zero, Option.map_some, f4, D1, D2, h0, dPick_t, hst]
          exact ⟨rfl, f2, f4, f5, rfl⟩
        | false =>
          rw [hodd] at D1 D2 hst
          rw [if_neg (fun hh => by cases hh.2)]
          simp -implicitDefEqProofs (disch := first | omega | (simp -implicitDefEqProofs only [go_sem, List.size_toArray, List.length_cons, List.length_nil, Nat.reduceAdd]; done)) only [go_sem, Int.reduceLT, Int.reduceLE, Int.reduceEq, reduceIte, true_and, Nat.zero_add, Nat.add_zero, Option.map_some, f4, D1, D2, h0, dPick_t]
          exact ⟨rfl, f2, f4, f5, by subst h0; rfl⟩
      obtain ⟨eB, hB⟩ : ∃ x, (if eA = 0 ∧ odd = true then 220 else eA) = x := ⟨_, rfl⟩
      rw [hB]
      rintro ⟨fr, df, h', rd⟩ ⟨rfl, f2, f4, f5, rfl⟩
      simp only at f2 f4 f5
      have hcs' : Sl fCell.rep (fun i => h.next + 3 ≤ i ∧ i < hh.next) (hh.set (h.next + 1) (rdRow bb eB odd)) v cs := hcs.mono fun i hi => ⟨hi, get_set_other _ _ (by omega)⟩
      have hrs' : Sl rRow (fun i => h.next + 3 ≤ i ∧ i < hh.next) (hh.set (h.next + 1) (rdRow bb eB odd)) vr rs := hrs.mono fun i hi => ⟨hi, get_set_other _ _ (by omega)⟩
      have L26 : ∀ e, cellsAt (hh.set (h.next + 1) (rdRow bb e odd)) (h.next + 2) 0 3 = some (stateV n0 v vr) := fun e => by
        rw [cellsAt_row ((S.num (o' := rdRow bb e odd)).rS) (Nat.le_of_ble_eq_true rfl)]; rfl
      -- is it so?
      refine xs_cut (ParM h hh bb odd (if eB = 0 then checkE ⟨n0, cs, rs⟩ else eB)) ?_ ?_
      · by_cases h0 : eB = 0
        case neg =>
          rw [if_neg h0]
          simp -implicitDefEqProofs (disch := first | omega | (simp -implicitDefEqProofs only [go_sem, List.size_toArray, List.length_cons, List.length_nil, Nat.reduceAdd]; done)) only [go_sem, Int.reduceLT, Int.reduceLE, Int.reduceEq, reduceIte, true_and, Nat.zero_add, Nat.add_zero, Option.map_some, f4, D1, h0]
          exact ⟨rfl, f2, f4, f5, rfl⟩
        rw [if_pos h0]
        have hck := check_c (n := n0) (h := hh.set (h.next + 1) (rdRow bb eB odd)) (cv := v) (rv := vr) (cells := cs) (rows := rs) ?_ (hcs'.mono fun i hi => ⟨hi.2, rfl⟩) (hrs'.mono fun i hi => ⟨hi.2, rfl⟩) ?_ ?_
        · simp -implicitDefEqProofs (disch := first | omega | (simp -implicitDefEqProofs only [go_sem, List.size_toArray, List.length_cons, List.length_nil, Nat.reduceAdd]; done)) only [go_sem, Int.reduceLT, Int.reduceLE, Int.reduceEq, reduceIte, true_and, Nat.zero_add, Nat.add_zero, Option.map_some, f4, f5, D1, h0, L26]
          refine ncall (by rw [← h0]; exact hck) ?_
          simp -implicitDefEqProofs (disch := first | omega | (simp -implicitDefEqProofs only [go_sem, List.size_toArray, List.length_cons, List.length_nil, Nat.reduceAdd]; done)) only [go_sem, Int.reduceLT, Int.reduceLE, Int.reduceEq, reduceIte, true_and, Nat.zero_add, Nat.add_zero, Option.map_some, f4, hst]
          exact ⟨rfl, f2, f4, f5, rfl⟩
        · have := numA_in hok 0 0; rw [x0] at this; exact this
        · have := cellsA_len l n1.toNat a1 e1 false; rw [x2] at this; simp only at this; omega
        · have := rowsA_len id l n3.toNat a3 e3; rw [x4] at this; simp only at this; omega
      have hC : (if eB = 0 then checkE ⟨n0, cs, rs⟩ else eB) = parseE id l := by
        rw [hE, ← hB, ← hA]
        unfold endE checkE
        by_cases h0 : e4 = 0
        · by_cases h1 : a4 < l.length
          · simp [h0, h1]
          · cases odd with
            | true => simp [h0, h1]
            | false => cases hm : mayB ⟨n0, cs, rs⟩ <;> simp [h0, h1]
        · simp [h0]
      rw [hC]
      obtain ⟨E, hEE⟩ : ∃ x, parseE id l = x := ⟨_, rfl⟩
      rw [hEE]
      rintro ⟨fr, df, h', rd⟩ ⟨rfl, f2, f4, f5, rfl⟩
      simp only at f2 f4 f5
      have ST := S.num (o' := rdRow bb E odd)
      have hone : [Value.int .i64 n0, v, vr].all Value.oneCell' = true := by
        obtain ⟨_, _, rfl⟩ := hcs.isSlice
        obtain ⟨_, _, rfl⟩ := hrs.isSlice
        rfl
      have hX : ∀ o, Ext h ((hh.set (h.next + 1) (rdRow bb E odd)).set h.next o) := fun o => ⟨by rw [next_set, next_set]; have := S.nx; omega, ST.ng, fun i hi => (get_set_other _ _ (by omega)).trans (ST.old i hi)⟩
      by_cases h0 : E = 0
      · subst h0
        have s1 : storeAt (hh.set (h.next + 1) (rdRow bb 0 odd)) h.next 0 [.int .i64 n0, v, vr] = some ((hh.set (h.next + 1) (rdRow bb 0 odd)).set h.next (.row [.int .i64 n0, v, vr] 0 false)) := storeAll ST.rA rfl hone
        have hR : parseR id l = ⟨n0, cs, rs⟩ := by unfold parseR; rw [hEE, if_pos rfl, hS]
        have hld : cellsAt ((hh.set (h.next + 1) (rdRow bb 0 odd)).set h.next (.row [.int .i64 n0, v, vr] 0 false)) h.next 0 3 = some (stateV n0 v vr) := by
          rw [cellsAt_row (get_set_same _ _) (Nat.le_of_ble_eq_true rfl)]; rfl
        rw [hR]
        simp -implicitDefEqProofs (disch := first | omega | (simp -implicitDefEqProofs only [go_sem, List.size_toArray, List.length_cons, List.length_nil, Nat.reduceAdd]; done)) only [go_sem, Int.reduceLT, Int.reduceLE, Int.reduceEq, reduceIte, true_and, Nat.zero_add, Nat.add_zero, Option.map_some, f2, f4, f5, D1, L26, s1, dResults_d2, dRes1_cell, dRes1_tmp, dResC_some, hld]
        refine ⟨_, rfl, v, vr, rfl, hX _, ?_, ?_⟩
        · exact hcs.mono fun i hi => ⟨⟨by omega, hi.2⟩, by rw [get_set_other _ _ (by omega), get_set_other _ _ (by omega)]⟩
        · exact hrs.mono fun i hi => ⟨⟨by omega, hi.2⟩, by rw [get_set_other _ _ (by omega), get_set_other _ _ (by omega)]⟩
      · have s1 : storeAt (hh.set (h.next + 1) (rdRow bb E odd)) h.next 0 [.int .i64 0, .slice none 0 0, .slice none 0 0] = some ((hh.set (h.next + 1) (rdRow bb E odd)).set h.next (.row [.int .i64 0, .slice none 0 0, .slice none 0 0] 0 false)) := storeAll ST.rA rfl rfl
        have hR : parseR id l = ⟨0, [], []⟩ := by unfold parseR; rw [hEE, if_neg h0]
        rw [hR]
        simp -implicitDefEqProofs (disch := first | omega | (simp -implicitDefEqProofs only [go_sem, List.size_toArray, List.length_cons, List.length_nil, Nat.reduceAdd]; done)) only [go_sem, Int.reduceLT, Int.reduceLE, Int.reduceEq, reduceIte, true_and, Nat.zero_add, Nat.add_zero, Option.map_some, f4, D1, h0]
        refine dr_10_2 ?_
        simp -implicitDefEqProofs (disch := first | omega | (simp -implicitDefEqProofs only [go_sem, List.size_toArray, List.length_cons, List.length_nil, Nat.reduceAdd]; done)) only [go_sem, Int.reduceLT, Int.reduceLE, Int.reduceEq, reduceIte, true_and, Nat.zero_add, Nat.add_zero, Option.map_some, l10_2, f2, f4, D1, bd_state0, s1]
        refine ⟨⟨XSt1_at (i := 4) (j := 5) rfl rfl rfl ?_, trivial⟩, ?_⟩
        · rw [if_neg (by decide)]
          refine Ld_on (p := .pointer (some ⟨h.next + 1, 1, none⟩)) (v := .int .i64 E) ?_ ?_ (ld_27.trans ((cellAt_row ((get_set_other _ _ (by omega)).trans ST.rR)).trans rfl))
          · simp -implicitDefEqProofs (disch := first | omega | (simp -implicitDefEqProofs only [go_sem, List.size_toArray, List.length_cons, List.length_nil, Nat.reduceAdd]; done)) only [go_sem, Int.reduceLT, Int.reduceLE, Int.reduceEq, reduceIte, true_and, Nat.zero_add, Nat.add_zero, Option.map_some]
          · simp -implicitDefEqProofs (disch := first | omega | (simp -implicitDefEqProofs only [go_sem, List.size_toArray, List.length_cons, List.length_nil, Nat.reduceAdd]; done)) only [go_sem, Int.reduceLT, Int.reduceLE, Int.reduceEq, reduceIte, true_and, Nat.zero_add, Nat.add_zero, Option.map_some, f4]
        have hld : cellsAt ((hh.set (h.next + 1) (rdRow bb E odd)).set h.next (.row zeroState 0 false)) h.next 0 3 = some (stateV 0 (.slice none 0 0) (.slice none 0 0)) := by
          rw [cellsAt_row (get_set_same _ _) (Nat.le_of_ble_eq_true rfl)]; rfl
        simp -implicitDefEqProofs (disch := first | omega | (simp -implicitDefEqProofs only [go_sem, List.size_toArray, List.length_cons, List.length_nil, Nat.reduceAdd]; done)) only [go_sem, Int.reduceLT, Int.reduceLE, Int.reduceEq, reduceIte, true_and, Nat.zero_add, Nat.add_zero, Option.map_some, f2, dResults_d2, dRes1_cell, dRes1_tmp, dResC_some, hld]
        exact ⟨_, rfl, _, _, rfl, hX _, Sl.nil _ _ _, Sl.nil _ _ _⟩
theorem stParse_c {h : DHeap} {b : Value} {l : List Int} (hb : Arg fU8.rep h b l) (hlen : l.length ≤ 4294967296) :
    Ct Try.prog 10 [b] h fun r h1 => ∃ vc vr, r = .ret (.tuple #[stateV (parseR id l).slot vc vr, .int .i64 (parseE id l)]) ∧ Ext h h1 ∧ Arg fCell.rep h1 vc (parseR id l).cells ∧ Arg rRow h1 vr (parseR id l).rows :=
  (stParse_s hb hlen).mono fun r h1 ⟨vc, vr, e, x, a, b⟩ => ⟨vc, vr, e, x, a.mono fun i hi => ⟨hi.2, rfl⟩, b.mono fun i hi => ⟨hi.2, rfl⟩⟩
end Go.Proofs.Ytlhgijpdhniddaa

namespace Go.Proofs.Ytlhgijpdhniddaa
open Go.D
set_option maxRecDepth 100000

end Go.Proofs.Ytlhgijpdhniddaa

namespace Go.Proofs.Ytlhgijpdhniddaa
open Go.D
set_option maxRecDepth 100000

/-! the state that is looked at first -/
abbrev cell0 : Cell := ⟨⟨0, 1⟩, 5, 0⟩
abbrev state0 : State := ⟨1, [cell0], []⟩
abbrev bytes0 : List Int := [2, 1, 2, 1, 0, 2, 1, 2, 5, 0, 0]
theorem num_0 : numB 0 = [0] := by simp [numB, lowN_zero]
theorem num_1 : numB 1 = [2, 1] := by
  have : lowN 1 = [1] := by rw [lowN_pos (by decide), show 1 / 256 = 0 by decide, lowN_zero]; rfl
  simp [numB, this]
theorem num_5 : numB 5 = [2, 5] := by
  have : lowN 5 = [5] := by rw [lowN_pos (by decide), show 5 / 256 = 0 by decide, lowN_zero]; rfl
  simp [numB, this]
theorem may0 : mayB state0 = true := by decide
theorem stateB0 : stateB state0 = bytes0 := by
  simp only [stateB, cellB, numsB, List.flatMap_cons, List.flatMap_nil, List.length_cons, List.length_nil, List.append_nil]
  simp [num_0, num_1, num_5]
theorem bytesE0 : bytesE state0 = 0 := by
  unfold bytesE
  rw [may0, stateB0]
  rfl
theorem bytesL0 : bytesL state0 = bytes0 := by
  unfold bytesL
  rw [may0, stateB0]
  rfl
theorem parseE0 : parseE id bytes0 = 0 := by decide
theorem parseR0 : parseR id bytes0 = state0 := by
  unfold parseR
  rw [parseE0, if_pos rfl]
  rfl
theorem dig0 : digE state0 ≠ 0 := by
  unfold digE
  rw [bytesE0, bytesL0, if_pos rfl]
  decide
end Go.Proofs.Ytlhgijpdhniddaa

namespace Go.Proofs.Ytlhgijpdhniddaa
open Go.D
set_option maxRecDepth 100000

theorem equalFunc0_c {h : DHeap} {a b f : Value} (ha : Arg rRow h a []) (hb : Arg rRow h b []) : DC Try.prog 50 [a, b, f] h (.ret (.bool true)) h := by
  refine Ct.pure (go_50 (by simp) ?_) (vin_bool _)
  have ea : ∀ K, dLen Try.prog #[24] a K = some (.int .i64 0) := ha.lens (P := Try.prog) (ts := #[24]) (t := 24) rfl isl_24
  have eb : ∀ K, dLen Try.prog #[24] b K = some (.int .i64 0) := hb.lens (P := Try.prog) (ts := #[24]) (t := 24) rfl isl_24
  simp -implicitDefEqProofs (disch := first | omega | (simp -implicitDefEqProofs only [go_sem, List.size_toArray, List.length_cons, List.length_nil, Nat.reduceAdd]; done)) only [go_sem, Int.reduceLT, Int.reduceLE, Int.reduceEq, reduceIte, true_and, Nat.zero_add, Nat.add_zero, Option.map_some, c50, ea, eb]
  refine xloop (σ := Nat) (by kernel_rfl) (fun i s => s.df = [] ∧ s.h = h ∧ s.fr 16 = some (.int .i64 0) ∧ s.fr 17 = some (.int .i64 0)) (fun i => i) 0 ?_ ?_
  · simp -implicitDefEqProofs (disch := first | omega | (simp -implicitDefEqProofs only [go_sem, List.size_toArray, List.length_cons, List.length_nil, Nat.reduceAdd]; done)) only [go_sem, Int.reduceLT, Int.reduceLE, Int.reduceEq, reduceIte, true_and, Nat.zero_add, Nat.add_zero, Option.map_some]
    done
  · rintro i ⟨fr, df, hh, rd⟩ K' hK' hX ⟨rfl, rfl, f16, f17⟩
    simp only at f16 f17
    simp -implicitDefEqProofs (disch := first | omega | (simp -implicitDefEqProofs only [go_sem, List.size_toArray, List.length_cons, List.length_nil, Nat.reduceAdd]; done)) only [go_sem, Int.reduceLT, Int.reduceLE, Int.reduceEq, reduceIte, true_and, Nat.zero_add, Nat.add_zero, Option.map_some, f16, f17]
    refine hX _ _ (by simp) ?_
    simp -implicitDefEqProofs (disch := first | omega | (simp -implicitDefEqProofs only [go_sem, List.size_toArray, List.length_cons, List.length_nil, Nat.reduceAdd]; done)) only [go_sem, Int.reduceLT, Int.reduceLE, Int.reduceEq, reduceIte, true_and, Nat.zero_add, Nat.add_zero, Option.map_some]
    exact ⟨_, rfl, rfl, .refl _⟩
theorem same0_c {h : DHeap} {n n' : Int} {cv rv cv' rv' : Value} {cells cells' : List Cell} (hc : Arg fCell.rep h cv cells) (hr : Arg rRow h rv []) (hc' : Arg fCell.rep h cv' cells') (hr' : Arg rRow h rv' []) (hl : cells.length ≤ 4294967296) :
    DC Try.prog 19 [stateV n cv rv, stateV n' cv' rv'] h (.ret (.bool (decide (n = n') && sameL (fun a b : Cell => decide (a = b)) cells cells'))) h := by
  refine Ct.pure (go_19 (by simp) ?_) (vin_bool _)
  have c1 := hc.cells1
  have r1 := hr.cells1
  have c2 := hc'.cells1
  have r2 := hr'.cells1
  have hE : Ext h ((h.push (.row [.int .i64 n, cv, rv] 0 false)).push (.row [.int .i64 n', cv', rv'] 0 false)) := (Ext.push1 _ _).push _
  obtain ⟨H, hH⟩ : ∃ H, H = (h.push (.row [.int .i64 n, cv, rv] 0 false)).push (.row [.int .i64 n', cv', rv'] 0 false) := ⟨_, rfl⟩
  rw [← hH] at hE
  have g1 : H.get h.next = some (.row [.int .i64 n, cv, rv] 0 false) := by rw [hH]; exact get_p1
  have g2 : H.get (h.next + 1) = some (.row [.int .i64 n', cv', rv'] 0 false) := by rw [hH]; exact get_push_same _ _
  have a0 : cellAt H h.next 0 = some (.int .i64 n) := cellAt_row g1
  have a1 : cellAt H h.next 1 = some cv := cellAt_row g1
  have a2 : cellAt H h.next 2 = some rv := cellAt_row g1
  have b0 : cellAt H (h.next + 1) 0 = some (.int .i64 n') := cellAt_row g2
  have b1 : cellAt H (h.next + 1) 1 = some cv' := cellAt_row g2
  have b2 : cellAt H (h.next + 1) 2 = some rv' := cellAt_row g2
  by_cases h0 : n = n'
  case neg =>
    simp -implicitDefEqProofs (disch := first | omega | (simp -implicitDefEqProofs only [go_sem, List.size_toArray, List.length_cons, List.length_nil, Nat.reduceAdd]; done)) only [go_sem, Int.reduceLT, Int.reduceLE, Int.reduceEq, reduceIte, true_and, Nat.zero_add, Nat.add_zero, Option.map_some, c19, next_push, ← hH, a0, b0, h0, dPick_f]
    exact ⟨_, rfl, by simp [h0], hE⟩
  subst h0
  simp -implicitDefEqProofs (disch := first | omega | (simp -implicitDefEqProofs only [go_sem, List.size_toArray, List.length_cons, List.length_nil, Nat.reduceAdd]; done)) only [go_sem, Int.reduceLT, Int.reduceLE, Int.reduceEq, reduceIte, true_and, Nat.zero_add, Nat.add_zero, Option.map_some, c19, next_push, ← hH, a0, b0, a1, b1]
  refine ncall (eqCells_c (hc.ext hE) (hc'.ext hE) hl) ?_
  cases hs : sameL (fun a b : Cell => decide (a = b)) cells cells' with
  | false =>
    simp -implicitDefEqProofs (disch := first | omega | (simp -implicitDefEqProofs only [go_sem, List.size_toArray, List.length_cons, List.length_nil, Nat.reduceAdd]; done)) only [go_sem, Int.reduceLT, Int.reduceLE, Int.reduceEq, reduceIte, true_and, Nat.zero_add, Nat.add_zero, Option.map_some, dPick_t, dPick_f]
    exact ⟨_, rfl, by simp, hE⟩
  | true =>
    simp -implicitDefEqProofs (disch := first | omega | (simp -implicitDefEqProofs only [go_sem, List.size_toArray, List.length_cons, List.length_nil, Nat.reduceAdd]; done)) only [go_sem, Int.reduceLT, Int.reduceLE, Int.reduceEq, reduceIte, true_and, Nat.zero_add, Nat.add_zero, Option.map_some, dPick_t, a2, b2]
    refine ncall (equalFunc0_c (hr.ext hE) (hr'.ext hE)) ?_
    simp -implicitDefEqProofs (disch := first | omega | (simp -implicitDefEqProofs only [go_sem, List.size_toArray, List.length_cons, List.length_nil, Nat.reduceAdd]; done)) only [go_sem, Int.reduceLT, Int.reduceLE, Int.reduceEq, reduceIte, true_and, Nat.zero_add, Nat.add_zero, Option.map_some, dPick_t]
    exact ⟨_, rfl, by simp, hE⟩
end Go.Proofs.Ytlhgijpdhniddaa

namespace Go.Proofs.Ytlhgijpdhniddaa
open Go.D
set_option maxRecDepth 100000

theorem bd_key01 : dBuild Try.prog 48 [(1, .int .i64 1)] = some (keyV ⟨0, 1⟩) := dBuild_at plc_48 rfl
theorem bd_cell0 : dBuild Try.prog 50 [(0, keyV ⟨0, 1⟩), (1, .int .i64 5)] = some (cellV cell0) := dBuild_at plc_50 rfl
theorem bd_state1 {n : Int} {a : Option Addr} {k c : Nat} : dBuild Try.prog 26 [(0, .int .i64 n), (1, .slice a k c)] = some (stateV n (.slice a k c) (.slice none 0 0)) := dBuild_at plc_26 rfl
theorem bs_cell {K : DHeap} {c : Cell} : dBuildSlice Try.prog 23 1 [(0, cellV c)] K = some (.slice (some ⟨K.next, 0, none⟩) 1 1, K.push (.row (fCell.enc c) 4 false)) := bs1_23 rfl
theorem bs_bytes {K : DHeap} : dBuildSlice Try.prog 22 11 [(0, .int .u8 2), (1, .int .u8 1), (2, .int .u8 2), (3, .int .u8 1), (4, .int .u8 0), (5, .int .u8 2), (6, .int .u8 1), (7, .int .u8 2), (8, .int .u8 5), (9, .int .u8 0), (10, .int .u8 0)] K =
    some (.slice (some ⟨K.next, 0, none⟩) 11 11, K.push (.row (bytes0.flatMap fU8.enc) 1 false)) :=
  dBuildSlice_all bsl_22 (vs := bytes0.map (Value.int .u8)) (Nat.succ_pos _) (by
    intro v hv
    obtain ⟨x, _, rfl⟩ := List.mem_map.1 hv
    rfl) (Nat.le_of_ble_eq_true rfl)
theorem zero3 {K : DHeap} {a b c : Value} (hv : [a, b, c].all Value.oneCell' = true) : storeAt (K.push (.row [.int .i64 0, .slice none 0 0, .slice none 0 0] 0 false)) K.next 0 [a, b, c] = some (K.push (.row [a, b, c] 0 false)) := store3_push hv
theorem bytes0_ok : ∀ x ∈ bytes0, fU8.ok x := by
  intro x hx
  refine inK_u8.2 ?_
  simp at hx
  omega
theorem begun_c {h : DHeap} : DC Try.prog 12 [] h (.ret (.bool true)) h := by
  refine Ct.pure (go_12 (by simp) ?_) (vin_bool _)
  obtain ⟨H1, hH1⟩ : ∃ H, H = h.push (.row (fCell.enc cell0) 4 false) := ⟨_, rfl⟩
  obtain ⟨H2, hH2⟩ : ∃ H, H = H1.push (.row [.int .i64 1, .slice (some ⟨h.next, 0, none⟩) 1 1, .slice none 0 0] 0 false) := ⟨_, rfl⟩
  have hn1 : H1.next = h.next + 1 := by rw [hH1]; rfl
  have hE1 : Ext h H1 := by rw [hH1]; exact Ext.push1 _ _
  have hE2 : Ext H1 H2 := by rw [hH2]; exact Ext.push1 _ _
  have hok0 : ∀ x ∈ [cell0], fCell.ok x := by
    intro x hx
    simp at hx
    subst hx
    exact ⟨⟨inK_i32.2 (by decide), inK_i64.2 (by decide)⟩, inK_i64.2 (by decide), inK_i64.2 (by decide)⟩
  have hs1 : Arg fCell.rep H1 (.slice (some ⟨h.next, 0, none⟩) 1 1) [cell0] := by rw [hH1]; exact built fCell h (by simp) rfl rfl hok0
  have hs2 := hs1.ext hE2
  have gS : H2.get (h.next + 1) = some (.row [.int .i64 1, .slice (some ⟨h.next, 0, none⟩) 1 1, .slice none 0 0] 0 false) := by rw [hH2, get_push_at _ _ hn1.symm]
  have hL : ∀ K, Ext H2 K → cellsAt K (h.next + 1) 0 3 = some (stateV 1 (.slice (some ⟨h.next, 0, none⟩) 1 1) (.slice none 0 0)) := fun K e => by
    rw [cellsAt_row ((e.get _ (by rw [hH2, next_push]; omega)).trans gS) (Nat.le_of_ble_eq_true rfl)]; rfl
  have st1 : storeAt (H1.push (.row [.int .i64 0, .slice none 0 0, .slice none 0 0] 0 false)) (h.next + 1) 0 [.int .i64 1, .slice (some ⟨h.next, 0, none⟩) 1 1, .slice none 0 0] = some H2 := by rw [← hn1, hH2]; exact zero3 rfl
  simp -implicitDefEqProofs (disch := first | omega | (simp -implicitDefEqProofs only [go_sem, List.size_toArray, List.length_cons, List.length_nil, Nat.reduceAdd]; done)) only [go_sem, Int.reduceLT, Int.reduceLE, Int.reduceEq, reduceIte, true_and, Nat.zero_add, Nat.add_zero, Option.map_some, c12, bd_key01, bd_cell0, bs_cell, bd_state1, ← hH1, hn1, st1, hL H2 (.refl _)]
  refine ncall_ct (bytes_c (n := 1) (cells := [cell0]) (rows := []) (inK_i64.2 (by decide)) hs2 (Sl.nil _ _ _) (by simp) (by simp)) ?_
  rintro r h1 ⟨v, rfl, hE3, ha⟩
  rw [show (⟨1, [cell0], []⟩ : State) = state0 from rfl] at ha ⊢
  rw [bytesL0] at ha
  rw [bytesE0]
  simp -implicitDefEqProofs (disch := first | omega | (simp -implicitDefEqProofs only [go_sem, List.size_toArray, List.length_cons, List.length_nil, Nat.reduceAdd]; done)) only [go_sem, Int.reduceLT, Int.reduceLE, Int.reduceEq, reduceIte, true_and, Nat.zero_add, Nat.add_zero, Option.map_some, XEnd]
  refine ncall_ct (stParse_c ha (by simp)) ?_
  rintro r h2 ⟨vc, vr, rfl, hE4, hc, hr⟩
  rw [parseR0] at hc hr
  rw [parseE0, parseR0]
  simp only at hc hr
  have hone : [Value.int .i64 1, vc, vr].all Value.oneCell' = true := by
    obtain ⟨_, _, rfl⟩ := hc.isSlice
    obtain ⟨_, _, rfl⟩ := hr.isSlice
    rfl
  obtain ⟨H3, hH3⟩ : ∃ H, H = h2.push (.row [.int .i64 1, vc, vr] 0 false) := ⟨_, rfl⟩
  obtain ⟨H4, hH4⟩ : ∃ H, H = H3.push (.row (bytes0.flatMap fU8.enc) 1 false) := ⟨_, rfl⟩
  have hE5 : Ext h2 H3 := by rw [hH3]; exact Ext.push1 _ _
  have hE6 : Ext H3 H4 := by rw [hH4]; exact Ext.push1 _ _
  have hE14 : Ext h1 H4 := (hE4.trans hE5).trans hE6
  have g3 : H4.get h2.next = some (.row [.int .i64 1, vc, vr] 0 false) := by rw [hE6.get _ (by rw [hH3, next_push]; omega), hH3]; exact get_push_same _ _
  have hL4 : cellsAt H4 h2.next 0 3 = some (stateV 1 vc vr) := by rw [cellsAt_row g3 (Nat.le_of_ble_eq_true rfl)]; rfl
  have hb : Arg fU8.rep H4 (.slice (some ⟨H3.next, 0, none⟩) 11 11) bytes0 := by rw [hH4]; exact built fU8 H3 rfl rfl rfl bytes0_ok
  have hd := dig0
  simp -implicitDefEqProofs (disch := first | omega | (simp -implicitDefEqProofs only [go_sem, List.size_toArray, List.length_cons, List.length_nil, Nat.reduceAdd]; done)) only [go_sem, Int.reduceLT, Int.reduceLE, Int.reduceEq, reduceIte, true_and, Nat.zero_add, Nat.add_zero, Option.map_some, XEnd, zero3 (K := h2) hone, ← hH3, bs_bytes, ← hH4, hL H4 (hE3.trans hE14)]
  refine ncall (bytesEqual_c (ha.ext hE14) hb) ?_
  simp -implicitDefEqProofs (disch := first | omega | (simp -implicitDefEqProofs only [go_sem, List.size_toArray, List.length_cons, List.length_nil, Nat.reduceAdd]; done)) only [go_sem, Int.reduceLT, Int.reduceLE, Int.reduceEq, reduceIte, true_and, Nat.zero_add, Nat.add_zero, Option.map_some, dPick_t, hL H4 (hE3.trans hE14), hL4]
  refine ncall (same0_c (cells := [cell0]) (cells' := [cell0]) (hs2.ext (hE3.trans hE14)) (Sl.nil _ _ _) ((hc.ext hE5).ext hE6) ((hr.ext hE5).ext hE6) (by simp)) ?_
  have hsame : (decide ((1 : Int) = 1) && sameL (fun a b : Cell => decide (a = b)) [cell0] [cell0]) = true := by decide
  rw [hsame]
  simp -implicitDefEqProofs (disch := first | omega | (simp -implicitDefEqProofs only [go_sem, List.size_toArray, List.length_cons, List.length_nil, Nat.reduceAdd]; done)) only [go_sem, Int.reduceLT, Int.reduceLE, Int.reduceEq, reduceIte, true_and, Nat.zero_add, Nat.add_zero, Option.map_some, dPick_t, hL H4 (hE3.trans hE14)]
  refine ncall (digest_c (n := 1) (cells := [cell0]) (rows := []) (inK_i64.2 (by decide)) (hs2.ext (hE3.trans hE14)) (Sl.nil _ _ _) (by simp) (by simp)) ?_
  simp -implicitDefEqProofs (disch := first | omega | (simp -implicitDefEqProofs only [go_sem, List.size_toArray, List.length_cons, List.length_nil, Nat.reduceAdd]; done)) only [go_sem, Int.reduceLT, Int.reduceLE, Int.reduceEq, reduceIte, true_and, Nat.zero_add, Nat.add_zero, Option.map_some, hd, dPick_t]
  exact ⟨_, rfl, rfl, (hE1.trans hE2).trans (hE3.trans hE14)⟩
end Go.Proofs.Ytlhgijpdhniddaa

namespace Go.Proofs.Ytlhgijpdhniddaa
open Go.D
set_option maxRecDepth 100000

end Go.Proofs.Ytlhgijpdhniddaa

namespace Go.Proofs.Ytlhgijpdhniddaa
open Go.D
set_option maxRecDepth 100000

end Go.Proofs.Ytlhgijpdhniddaa

namespace Go.Proofs.Ytlhgijpdhniddaa
open Go.D
set_option maxRecDepth 100000

end Go.Proofs.Ytlhgijpdhniddaa

namespace Go.Proofs.Ytlhgijpdhniddaa
open Go.D
set_option maxRecDepth 100000

end Go.Proofs.Ytlhgijpdhniddaa

namespace Go.D
variable {P : Program}

/-- fields by their types and places -/
inductive Fld2 (P : Program) : {α : Type} → Nat → List (TypeId × Nat) → Rep α → (α → Nat) → Prop
  | one {α : Type} {off : Nat} {t : TypeId} {R : Rep α} {B : α → Nat} (hl : Lays P t R B) : Fld2 P off [(t, off)] R B
  | cons {α β : Type} {off : Nat} {t : TypeId} {l : List (TypeId × Nat)} {R : Rep α} {B : α → Nat} {Q : Rep β} {C : β → Nat} (hl : Lays P t R B) (hr : Fld2 P (off + R.z) l Q C) : Fld2 P off ((t, off) :: l) (rP R Q) (fun x => B x.1 + C x.2)
theorem Fld2.flds {α : Type} {off : Nat} {l : List (TypeId × Nat)} {R : Rep α} {B : α → Nat} (a : Fld2 P off l R B) : ∀ fs : List Field, fs.map (fun f => (f.type, f.offset)) = l → Flds P off fs R B := by
  induction a with
  | one hl =>
    intro fs h
    match fs, h with
    | [f], h =>
      simp only [List.map_cons, List.map_nil, List.cons.injEq, Prod.mk.injEq, and_true] at h
      obtain ⟨rfl, rfl⟩ := h
      exact .one rfl hl
  | cons hl hr ih =>
    intro fs h
    cases fs with
    | nil => cases h
    | cons f fs =>
      simp only [List.map_cons, List.cons.injEq, Prod.mk.injEq] at h
      obtain ⟨⟨rfl, rfl⟩, h2⟩ := h
      exact .cons rfl hl (ih fs h2)
theorem Lays.of {α : Type} {t : TypeId} {l : List (TypeId × Nat)} {R : Rep α} {B : α → Nat} (hf : fldsOf P t = some l) (hz : P.cellsOf t = R.z) (a : Fld2 P 0 l R B) : Lays P t R B := by
  unfold fldsOf at hf
  split at hf
  · rename_i fs hu
    split at hf
    · cases hf
      exact .struct hu hz (a.flds _ rfl)
    · cases hf
  · cases hf
theorem par_struct {t : TypeId} {l : List (TypeId × Nat)} (hf : fldsOf P t = some l) : Par P t true := by
  unfold fldsOf at hf
  split at hf
  · rename_i fs hu
    exact ⟨fs, hu⟩
  · cases hf
/-- flat pairs -/
theorem rP_flat {α β : Type} {F : FRep α} {G : FRep β} {S : Nat → Prop} {h : DHeap} {cs : List Value} {x : α × β} (a : (rP F.rep G.rep).rd S h cs x) : (fP F G).rep.rd S h cs x := by
  obtain ⟨c1, c2, rfl, ⟨rfl, h1⟩, rfl, h2⟩ := a
  exact ⟨rfl, h1, h2⟩
theorem Lays.pair {α β : Type} {t : TypeId} {F : FRep α} {G : FRep β} {C : α × β → Nat} (a : Lays P t (rP F.rep G.rep) C) : Lays P t (fP F G).rep C := a.conv (Q := (fP F G).rep) rfl id (fun _ _ _ _ => rP_flat) (fun _ => Nat.le_refl _)
end Go.D

namespace Go.Proofs.Ytlhgijpdhniddaa
open Go.D
set_option maxRecDepth 100000
theorem lay_i32 : Lays Try.prog 21 (fI .i32).rep (fun _ => 1) := .int (by kernel_rfl) (by kernel_rfl)
theorem lay_i64 : Lays Try.prog 2 fI64.rep (fun _ => 1) := .int (by kernel_rfl) (by kernel_rfl)
theorem lay_int : Lays Try.prog 3 fI64.rep (fun _ => 1) := .int (by kernel_rfl) (by kernel_rfl)
theorem lay_ints : Lays Try.prog 51 (rSl fI64.rep) (sumB fun _ => 1) := .slice (e := 2) (by kernel_rfl) (by kernel_rfl) (by decide) lay_i64
theorem lay_key : Lays Try.prog 48 fKey.rep (fun _ => 2) :=
  (Lays.of (l := [(21, 0), (2, 1)]) (by kernel_rfl) (by kernel_rfl) (.cons lay_i32 (.one lay_i64))).pair.conv (Q := fKey.rep) rfl (fun x => ⟨x.1, x.2⟩) (fun _ _ _ _ h => h) (fun _ => Nat.le_refl _)
theorem lay_cell : Lays Try.prog 50 fCell.rep (fun _ => 4) :=
  (Lays.of (l := [(48, 0), (2, 2), (2, 3)]) (by kernel_rfl) (by kernel_rfl) (.cons lay_key (.cons lay_i64 (.one lay_i64)))).conv (Q := fCell.rep) rfl (fun x => ⟨x.1, x.2.1, x.2.2⟩)
    (fun _ _ _ _ h => by
      obtain ⟨c1, c2, rfl, ⟨rfl, k1⟩, c3, c4, rfl, ⟨rfl, k2⟩, rfl, k3⟩ := h
      exact ⟨rfl, k1, k2, k3⟩) (fun _ => Nat.le_refl _)
theorem lay_cells : Lays Try.prog 23 (rSl fCell.rep) (sumB fun _ => 4) := .slice (e := 50) (by kernel_rfl) (by kernel_rfl) (by decide) lay_cell
def bulkRes (x : Res) : Nat := 3 + sumB (fun _ => 1) x.vs
def bulkRow (x : Row) : Nat := 2 + bulkRes x.x
def bulkState (x : State) : Nat := 1 + (sumB (fun _ => 4) x.cells + sumB bulkRow x.rows)
theorem lay_res : Lays Try.prog 53 rRes bulkRes :=
  (Lays.of (l := [(3, 0), (51, 1), (2, 2), (3, 3)]) (by kernel_rfl) (by kernel_rfl) (.cons lay_int (.cons lay_ints (.cons lay_i64 (.one lay_int))))).conv (Q := rRes) rfl (fun x => ⟨x.1, x.2.1, x.2.2.1, x.2.2.2⟩) (fun _ _ _ _ h => h)
    (fun x => by simp only [bulkRes]; omega)
theorem lay_row : Lays Try.prog 55 rRow bulkRow :=
  (Lays.of (l := [(2, 0), (2, 1), (53, 2)]) (by kernel_rfl) (by kernel_rfl) (.cons lay_i64 (.cons lay_i64 (.one lay_res)))).conv (Q := rRow) rfl (fun x => ⟨x.1, x.2.1, x.2.2⟩) (fun _ _ _ _ h => h)
    (fun x => by simp only [bulkRow]; omega)
theorem lay_rows : Lays Try.prog 24 (rSl rRow) (sumB bulkRow) := .slice (e := 55) (by kernel_rfl) (by kernel_rfl) (by decide) lay_row
theorem lay_state : Lays Try.prog 26 rState bulkState :=
  (Lays.of (l := [(2, 0), (23, 1), (24, 2)]) (by kernel_rfl) (by kernel_rfl) (.cons lay_i64 (.cons lay_cells (.one lay_rows)))).conv (Q := rState) rfl (fun x => ⟨x.1, x.2.1, x.2.2⟩) (fun _ _ _ _ h => h)
    (fun x => Nat.le_refl _)
theorem par_state : Par Try.prog 26 true := par_struct (l := [(2, 0), (23, 1), (24, 2)]) (by kernel_rfl)
/-- a state that has come in -/
theorem state_in {S : Nat → Prop} {h : DHeap} {cs : List Value} {x : State} (a : rState.rd S h cs x) : ∃ vc vr, cs = [.int .i64 x.slot, vc, vr] ∧ inK .i64 x.slot ∧ Sl fCell.rep S h vc x.cells ∧ Sl rRow S h vr x.rows := by
  obtain ⟨c1, c2, rfl, ⟨rfl, k1⟩, c3, c4, rfl, ⟨vc, rfl, h1⟩, vr, rfl, h2⟩ := a
  exact ⟨vc, vr, rfl, k1, h1, h2⟩
theorem bulk_rows {l : List Row} : ∀ r ∈ l, r.x.vs.length ≤ sumB bulkRow l := by
  induction l with
  | nil => simp
  | cons x l ih =>
    intro r hr
    simp only [sumB]
    have h1 := sumB_len (fun _ => 1) x.x.vs
    have h2 : bulkRow x = 2 + (3 + sumB (fun _ => 1) x.x.vs) := rfl
    rcases List.mem_cons.1 hr with rfl | hr
    · omega
    · have := ih r hr; omega
/-- what a state that has come in is at most -/
theorem bulk_state (x : State) : x.cells.length ≤ bulkState x ∧ x.rows.length ≤ bulkState x ∧ ∀ r ∈ x.rows, r.x.vs.length ≤ bulkState x := by
  have h1 := sumB_len (fun _ => 4) x.cells
  have h2 := sumB_len bulkRow x.rows
  have hb : bulkState x = 1 + (sumB (fun _ => 4) x.cells + sumB bulkRow x.rows) := rfl
  exact ⟨by omega, by omega, fun r hr => by have := bulk_rows r hr; omega⟩
end Go.Proofs.Ytlhgijpdhniddaa

namespace Go.D
variable {P : Program} {nt : Nat}

/-- a round, walked -/
theorem Rt_of {l size : Nat} {tmps : Fr} {assign body : Code} {h : DHeap} {R : DEnd → DHeap → Prop}
    (hx : NC P size assign (fun e s => (match e with | .normal => True | _ => False) ∧ ∃ d, s.h.get l = some (.loop d) ∧ d.state = .ready ∧
      NC P size body (XRoundPost l R) ⟨s.fr, s.df, s.h.set l (.loop { d with state := .busy, pending := d.pending }), s.rd⟩) ⟨tmps, [], h, some l⟩) : Rt P l size tmps assign body h R := by
  intro n ι w tmps' e f s he hsh hf
  refine roundIn_of_wpIn trivial ?_
  refine wpIn_mono (hx n (some e.block) ι { tmps := tmps', defers := [] } w ⟨hf, trivial, s, e, he, hsh, rfl⟩) fun ex1 a1 w1 ⟨ι1, e1, s1, ⟨hn1, d1, hg1, hst, hb⟩, h1, g1, g2, g3⟩ => ?_
  cases e1 with
  | normal =>
    cases ex1 with
    | normal =>
      have he1 := g3.le l e he
      obtain ⟨_, _, lp, hlp, hlr⟩ := g2.sim.loopAt he1 hg1
      obtain ⟨k1, k2⟩ := g2.sim.setLoop he1 hg1 hlp hlr .busy d1.pending
      have hbr := run_beginRound (P := P) hlp (hlr.state.trans hst)
      have hpend : lp.pending = d1.pending := hlr.pending
      rw [show ({ lp with state := LoopState.busy } : Loop) = { lp with state := .busy, pending := d1.pending } by rw [← hpend]] at hbr
      refine ⟨_, hbr, ?_⟩
      refine wpIn_mono (hb n (some e.block) ι1 a1 _ ⟨g2.fr, g2.df, k1, g2.rd⟩) fun ex2 a2 w2 ⟨ι2, e2, s2, ⟨d2, hg2, hq⟩, h2, m1, m2, m3⟩ => ?_
      have he2 := m3.le l e he1
      obtain ⟨_, _, lp2, hlp2, hlr2⟩ := m2.sim.loopAt he2 hg2
      have hh : HStep h s2.h := h1.trans ((HStep.set _ _ _).trans h2)
      have fin : ∀ (v : Bool) (st : LoopState) (pe : Option Code), (pe.isNone = v) → ((if v then LoopState.ready else .done) = st) → R (.ret (.bool v)) (s2.h.set l (.loop { d2 with state := st, pending := pe })) →
          ∃ u w', (Instr.endRound e.block pe).run P w2 = .ok u w' ∧ ∃ ι' r h', R r h' ∧ HStep h h' ∧ EndRel ι' r (.returned u) ∧ Sim ι' h' w' ∧ Step ι ι' h h' w w' := by
        intro v st pe hpe hst2 hR
        obtain ⟨q1, q2⟩ := m2.sim.setLoop he2 hg2 hlp2 hlr2 st pe
        refine ⟨.bool v, _, ?_, ι2, _, _, hR, hh.trans (HStep.set _ _ _), .bool v, q1, g3.trans (k2.trans (m3.trans q2))⟩
        have := run_endRound (P := P) pe hlp2
        rw [this, hpe, hst2]
      cases e2 with
      | normal =>
        cases ex2 with
        | normal => exact fin true .ready none rfl rfl hq
        | _ => exact m1.elim
      | ret =>
        cases ex2 with
        | ret => exact fin false .done (some .ret) rfl rfl hq
        | _ => exact m1.elim
      | exit id =>
        cases ex2 with
        | exit id' =>
          have : id' = id := m1
          subst this
          exact fin false .done (some (.exit id')) rfl rfl hq
        | _ => exact m1.elim
      | pan v => exact hq.elim
    | _ => exact g1.elim
  | _ => exact hn1.elim
theorem NC.range_aux {g : Operand} {ps : Array Tmp} {assign body : Code} {Q : DExit → St → Prop} {s : St} {fv : Value} {l : Nat} {df : List DDef} {h1 : DHeap} {f : FuncId} {args : List Value}
    (hg : evalF s.h.ng s.fr g = some fv) (hh : HStep s.h h1)
    (henter : ∀ (r : Option Nat) (ι : Inj) (a : Act) (w : World) (fn : FuncId), SRel nt ι s r a w → ∃ (ι1 : Inj) (e : Ent) (mark : List Deferred) (w1 : World), (Instr.enterLoop fn a.tmps ps assign body r).run P w = .ok (e.block, mark) w1 ∧
      ι1 l = some e ∧ e.shift = 0 ∧ Sim ι1 h1 w1 ∧ Step ι ι1 s.h h1 w w1 ∧ DefRel ι1 df (mark ++ a.defers))
    (ht : dTarget P fv [.func (.yield l) #[] #[]] h1 = some (.enter f args)) {R : DEnd → DHeap → Prop}
    (hc : Ct P f args h1 R) (hx : ∀ r h2, R r h2 → XRangePost l s.fr df s.rd Q r h2) : NC P nt (.rangeFunc g ps assign body) Q s := by
  intro n rr ι a w hs
  refine wpIn_rangeFunc fun fn _ => ?_
  obtain ⟨ι1, eb, mark, w1, he, hl, hsh, s1, st1, hd1⟩ := henter rr ι a w fn hs
  have hfv : VRel ι fv (a.eval g) := evalF_rel (P := P) hs.sim (a := a) (ops := #[]) (o := ⟨none, .move g, 0, "", #[], none⟩) (fun t _ u hu => hs.fr.2 t u hu) g (by simp [Op.operands]) _ hg
  have hy : LRel ι1 [.func (.yield l) #[] #[]] (#[.func (.yield eb.block) #[] #[]] : Array Value).toList := (LRel.nil ι1).cons (.yield hl hsh)
  obtain ⟨d, x', hd, hinv, hn, hdd⟩ := dTarget_ok ht s1 (hfv.mono st1.le) hy
  cases x' with
  | enter f' args' =>
    obtain ⟨rfl, hargs, _⟩ := hn
    refine ⟨eb.block, mark, w1, d, w1, f', args', w1, he, ?_, fun _ _ => trivial, hinv, fun hh => absurd hh (by simp [FW]), ?_⟩
    · simpa [resolve, rangeCall, Act.eval] using hd
    · refine CallsIn.mono (hc (n - 1) ι1 w1 args' s1 hargs) fun en w2 ⟨ι2, r, h2, hR, hh2, k1, k2, k3⟩ => ?_
      have hp := hx r h2 hR
      have hl2 := k3.le l eb hl
      have hfr := (hs.fr.mono st1.le).mono k3.le
      have hdf := hd1.mono k3.le
      have hrd := (hs.rd.mono st1.le).mono k3.le
      have hst := st1.trans k3
      cases r with
      | pan v =>
        cases en with
        | panicked ch => exact ⟨ι2, .pan v, _, hp, hh.trans hh2, k1, ⟨hfr, hdf, k2, hrd⟩, hst⟩
        | _ => exact k1.elim
      | ret v =>
        cases en with
        | returned v' =>
          obtain ⟨d, hgd, hbusy, hq⟩ := hp
          obtain ⟨_, _, lp, hlp, hlr⟩ := k2.loopAt hl2 hgd
          obtain ⟨q1, q2⟩ := k2.setLoop hl2 hgd hlp hlr .exhausted d.pending
          have hend := run_endLoop (P := P) hlp (by rw [hlr.state]; exact hbusy)
          rw [hlr.pending] at hend
          refine ⟨d.pending, _, hend, ?_⟩
          have fin : ∀ (e : DExit) ex, Q e ⟨s.fr, df, h2.set l (.loop { d with state := .exhausted, pending := d.pending }), s.rd⟩ → ExitRel ι2 e ex →
              ∃ ι' e s', Q e s' ∧ HStep s.h s'.h ∧ ExitRel ι' e ex ∧ SRel nt ι' s' rr { a with defers := mark ++ a.defers } (w2.putObj eb.block (.loop { lp with state := .exhausted, pending := d.pending })) ∧ Step ι ι' s.h s'.h w (w2.putObj eb.block (.loop { lp with state := .exhausted, pending := d.pending })) :=
            fun e ex hq hex => ⟨ι2, e, _, hq, hh.trans (hh2.trans (HStep.set _ _ _)), hex, ⟨hfr, hdf, q1, hrd⟩, hst.trans q2⟩
          cases hpe : d.pending with
          | none =>
            rw [hpe] at hq fin
            exact fin .normal _ hq trivial
          | some c =>
            rw [hpe] at hq fin
            cases c with
            | ret => exact wpIn_ret (fin .ret _ hq trivial)
            | exit id => exact wpIn_exit (fin (.exit id) _ hq rfl)
            | _ => exact hq.elim
        | _ => exact k1.elim
  | _ => exact hn.elim
/-- an outermost loop -/
theorem NC.range {g : Operand} {ps : Array Tmp} {assign body : Code} {Q : DExit → St → Prop} {s : St} {fv : Value} {f : FuncId} {args : List Value} {h1 : DHeap}
    (hrd : s.rd = none) (hg : evalF s.h.ng s.fr g = some fv) (hh1 : h1 = (s.h.push (.marks true)).push (.loop ⟨nt, s.fr, ps, assign, body, s.h.next, .ready, none⟩))
    (ht : dTarget P fv [.func (.yield (s.h.next + 1)) #[] #[]] h1 = some (.enter f args)) {R : DEnd → DHeap → Prop}
    (hc : Ct P f args h1 R) (hx : ∀ r h2, R r h2 → XRangePost (s.h.next + 1) s.fr (.mark s.h.next :: s.df) s.rd Q r h2) : NC P nt (.rangeFunc g ps assign body) Q s := by
  subst hh1
  refine NC.range_aux hg ((HStep.push _ _).trans (HStep.push _ _)) (fun r ι a w fn hs => ?_) ht hc hx
  have hr : r = none := by
    have := hs.rd
    rw [hrd] at this
    cases r with
    | none => rfl
    | some _ => exact this.elim
  subst hr
  obtain ⟨a1, a2⟩ := hs.sim.alloc (.marks true) (.deferred (some [])) ⟨w.heap.size, 0, 0, 0, false⟩ rfl ⟨rfl, rfl, World.alloc_heap_new _ _⟩
  have hsz : (w.alloc (.deferred (some []))).heap.size = w.heap.size + 1 := World.size_alloc _ _
  have hm : (ι.upd s.h.next ⟨w.heap.size, 0, 0, 0, false⟩) s.h.next = some ⟨w.heap.size, 0, 0, 0, false⟩ := Inj.upd_same _ _ _
  obtain ⟨b1, b2⟩ := a1.alloc (.loop ⟨nt, s.fr, ps, assign, body, s.h.next, .ready, none⟩) (.loop { state := .ready, pending := none, fn, tmps := a.tmps, params := ps, assign, body, defers := w.heap.size })
    ⟨w.heap.size + 1, 0, 0, 0, false⟩ hsz.symm ⟨rfl, rfl, _, by rw [← hsz]; exact World.alloc_heap_new _ _,
      ⟨(hs.fr.mono a2.le).mono (Inj.upd_le a1.fresh), rfl, rfl, rfl, rfl, rfl, ⟨w.heap.size, 0, 0, 0, false⟩, Inj.upd_le a1.fresh _ _ hm, rfl, rfl⟩⟩
  refine ⟨_, ⟨w.heap.size + 1, 0, 0, 0, false⟩, _, _, run_enterLoop_outer fn a.tmps ps assign body, ?_, rfl, b1, a2.trans b2, ?_⟩
  · exact Inj.upd_same _ _ _
  · exact ⟨⟨_, b2.le _ _ hm, rfl, rfl⟩, (hs.df.mono a2.le).mono b2.le⟩
/-- code in a loop over a function, walked without its places -/
theorem NC.strip {c c0 : Code} {Q : DExit → St → Prop} {s : St} (hs : Go.D.strip c0 = c) (hk : codeOK nt c = true) (h : xs P nt c Q s) : NC P nt c0 Q s := by
  subst hs
  exact xs_sound c0 Q s (by rw [← codeOK_strip]; exact hk) h
/-- the end of a function over whose loop its activation has a mark -/
theorem XLv_mark {rs : List ResultVar} {fr : Fr} {R : DEnd → DHeap → Prop} {id : Nat} {ds : List DDef} {m : DMode} {h : DHeap} (hm : h.get id = some (.marks true)) (hx : XLv P rs fr R ds m (h.set id (.marks false))) : XLv P rs fr R (.mark id :: ds) m h := ⟨hm, hx⟩
end Go.D

namespace Go.D
variable {P : Program} {α : Type} {R : Rep α} {S : Nat → Prop} {h : DHeap} {v : Value} {l : List α} {t : TypeId}

theorem Sl.slice3 (a : Sl R S h v l) (hz : slElem P t = some R.z) (hp : 0 < R.z) {lo : Option Value} {vm vh : Value} {i j : Nat} (hm : boundOf (some vm) l.length l.length = some j) (hh : boundOf (some vh) 0 j = some j) (hi2 : boundOf lo 0 j = some i) (hij : i ≤ j) (hjl : j ≤ l.length) :
    ∃ v', dSlice P t v lo (some vh) (some vm) h = some v' ∧ Sl R S h v' ((l.take j).drop i) := by
  unfold slElem at hz
  split at hz
  · rename_i e e1
    cases e2 : P.info? e with
    | none => rw [e2] at hz; cases hz
    | some inf =>
      rw [e2] at hz
      have hsz : inf.size = R.z := by simpa using hz
      rcases a with ⟨rfl, rfl⟩ | ⟨id, o, cap, cells, esz, ro, rfl, b, c, d, e, f⟩
      · have hj0 : j = 0 := by simpa using hjl
        subst hj0
        have hm' : boundOf (some vm) 0 0 = some 0 := hm
        refine ⟨.slice none 0 0, ?_, ?_⟩
        · simp only [dSlice, e1, e2, hm', hh, hi2]
        · simpa using Sl.nil R S h
      · have hfit : rowFits h id inf.size = true := by
          simp only [rowFits, c, hsz]
          rcases d with d | d <;> simp [d]
        refine ⟨.slice (some ⟨id, o + i * inf.size, none⟩) (j - i) (if j = j then j - i else j - i + 1), ?_, .inr ⟨id, o + i * R.z, (if j = j then j - i else j - i + 1), cells, esz, ro, ?_, b, c, d, ?_, ?_⟩⟩
        · simp only [dSlice, e1, e2]
          rw [if_pos ⟨hfit, by rw [hsz]; exact hp⟩]
          simp only [boundOf] at hm hh hi2 ⊢
          simp only [hm, hh, hi2]
        · rw [hsz]; simp [List.length_take, Nat.min_eq_left hjl]
        · have h1 : ((l.take j).drop i).length = j - i := by simp [Nat.min_eq_left hjl]
          rw [h1]
          have h2 : j * R.z ≤ l.length * R.z := Nat.mul_le_mul_right _ hjl
          have h3 : i * R.z + (j - i) * R.z = j * R.z := by rw [← Nat.add_mul]; congr 1; omega
          omega
        · have h1 : ((l.take j).drop i).length = j - i := by simp [Nat.min_eq_left hjl]
          have g := (f.take j).drop i
          have h2 : j * R.z ≤ l.length * R.z := Nat.mul_le_mul_right _ hjl
          have h3 : i * R.z + (j - i) * R.z = j * R.z := by rw [← Nat.add_mul]; congr 1; omega
          rw [List.take_take, Nat.min_eq_left h2, List.drop_take, List.drop_drop] at g
          rw [h1]
          rw [show j * R.z - i * R.z = (j - i) * R.z by omega] at g
          exact g
  · cases hz
theorem bound_nat {k : IntKind} {n d y : Nat} (h : n ≤ y) : boundOf (some (.int k (n : Int))) d y = some n := by
  simp only [boundOf]
  rw [if_pos (by omega)]
  rfl
theorem min_i64 {ts : Array TypeId} {ty : TypeId} {a b : Int} : dBuiltin P .min ts ty h (some [.int .i64 a, .int .i64 b]) = .ok (.value (.int .i64 (min a b))) h := by
  have hq : quick P (Builtin.min_ ts ty #[.int .i64 a, .int .i64 b]) = some (.inr (.int .i64 (min a b))) := by
    have e : min a b = if b < a then b else a := by
      by_cases h : b < a
      · rw [if_pos h]; omega
      · rw [if_neg h]; omega
    rw [e]
    rfl
  have hf : ([Value.int .i64 a, .int .i64 b].all flat3) = true := rfl
  rw [dBuiltin_min, if_pos hf]
  simp only [dval, hq]
  rfl
end Go.D

namespace Go.Proofs.Ytlhgijpdhniddaa
open Go.D
set_option maxRecDepth 100000

/-- the i-th part of bytes -/
def pieceL (l : List Int) (i : Nat) : List Int := (l.take (min ((i + 1) * 16384) l.length)).drop (i * 16384)
def manyL (l : List Int) : Nat := (l.length + 16383) / 16384
def partsL (slot : Int) (l : List Int) : List Part := (List.range (manyL l)).map fun (i : Nat) => (⟨slot, (i : Int), (manyL l : Int), pieceL l i⟩ : Part)
/-- a state's parts -/
def partsS (x : State) : List Part := if bytesE x = 0 then partsL x.slot (stateB x) else []
abbrev partV (x : Part) (w : Value) : Value := .agg #[.int .i64 x.slot, .int .i64 x.index, .int .i64 x.many, w]
theorem partsL_len (slot : Int) (l : List Int) : (partsL slot l).length = manyL l := by simp [partsL]
theorem partsL_get {slot : Int} {l : List Int} {i : Nat} (h : i < manyL l) : (partsL slot l)[i]? = some ⟨slot, (i : Int), (manyL l : Int), pieceL l i⟩ := by
  unfold partsL
  rw [List.getElem?_map, List.getElem?_range h]
  rfl
theorem piece_le {l : List Int} {i : Nat} (h : i < manyL l) : i * 16384 ≤ min ((i + 1) * 16384) l.length := by
  unfold manyL at h
  omega
theorem cut_c {h : DHeap} {S : Nat → Prop} {b : Value} {l : List Int} {i j : Nat} (hb : Sl fU8.rep S h b l) (hS : ∀ i, S i → i < h.next) (hij : i ≤ j) (hj : j ≤ l.length) :
    ∃ v', DC Try.prog 56 [b, .int .i64 (i : Nat), .int .i64 (j : Nat)] h (.ret v') h ∧ Sl fU8.rep S h v' ((l.take j).drop i) := by
  obtain ⟨v', e, hs⟩ := hb.slice3 (P := Try.prog) (t := 22) (lo := some (.int .i64 (i : Nat))) (vm := .int .i64 (j : Nat)) (vh := .int .i64 (j : Nat)) (i := i) (j := j) el_22 (by decide) (bound_nat hj) (bound_nat (Nat.le_refl _)) (bound_nat hij) hij hj
  refine ⟨v', Ct.pure (go_56 (by simp) ?_) (hs.vin.mono hS), hs⟩
  simp -implicitDefEqProofs (disch := first | omega | (simp -implicitDefEqProofs only [go_sem, List.size_toArray, List.length_cons, List.length_nil, Nat.reduceAdd]; done)) only [go_sem, Int.reduceLT, Int.reduceLE, Int.reduceEq, reduceIte, true_and, Nat.zero_add, Nat.add_zero, Option.map_some, c56, e]
  exact ⟨_, rfl, rfl, .refl _⟩
theorem bytes0_of {x : State} (h : bytesE x = 0) : mayB x = true ∧ (stateB x).length ≤ 1048576 ∧ bytesL x = stateB x := by
  unfold bytesE at h
  unfold bytesL
  split at h
  · rename_i hm
    split at h
    · cases h
    · rename_i hlen
      exact ⟨hm, by omega, by rw [if_pos hm, if_neg hlen]⟩
  · cases h
theorem part_rd {S : Nat → Prop} {h : DHeap} {x : Part} {w : Value} (h1 : inK .i64 x.slot) (h2 : inK .i64 x.index) (h3 : inK .i64 x.many) (hs : Sl fU8.rep S h w x.data) : rPart.rd S h [.int .i64 x.slot, .int .i64 x.index, .int .i64 x.many, w] x :=
  ⟨_, _, rfl, ⟨rfl, h1⟩, _, _, rfl, ⟨rfl, h2⟩, _, _, rfl, ⟨rfl, h3⟩, w, rfl, hs⟩
theorem rd_part {S : Nat → Prop} {h : DHeap} {cs : List Value} {x : Part} (a : rPart.rd S h cs x) : ∃ w, cs = [.int .i64 x.slot, .int .i64 x.index, .int .i64 x.many, w] ∧ Sl fU8.rep S h w x.data ∧ inK .i64 x.slot ∧ inK .i64 x.index ∧ inK .i64 x.many := by
  obtain ⟨c1, c2, rfl, ⟨rfl, k1⟩, c3, c4, rfl, ⟨rfl, k2⟩, c5, c6, rfl, ⟨rfl, k3⟩, w, rfl, hs⟩ := a
  exact ⟨w, rfl, hs, k1, k2, k3⟩
theorem part_at {S : Nat → Prop} {h : DHeap} {id o : Nat} {x : Part} (a : At rPart S h id o x) : ∃ w, cellsAt h id o 4 = some (partV x w) ∧ Sl fU8.rep S h w x.data ∧ inK .i64 x.slot ∧ inK .i64 x.index ∧ inK .i64 x.many := by
  obtain ⟨cs, e1, e2⟩ := a.load_agg
  obtain ⟨w, rfl, h2⟩ := rd_part e2
  exact ⟨w, e1, h2⟩
theorem bd_part {a b c : Int} {x : Option Addr} {n k : Nat} : dBuild Try.prog 57 [(0, .int .i64 a), (1, .int .i64 b), (2, .int .i64 c), (3, .slice x n k)] = some (.agg #[.int .i64 a, .int .i64 b, .int .i64 c, .slice x n k]) := dBuild_at plc_57 rfl
/-- one more part behind a list of parts -/
theorem parts_c {h : DHeap} {n : Int} {cv rv : Value} {cells : List Cell} {rows : List Row} (hn : inK .i64 n) (hc : Arg fCell.rep h cv cells) (hr : Arg rRow h rv rows) (hlc : cells.length ≤ 16777216) (hlr : rows.length ≤ 16777216) :
    Ct Try.prog 23 [stateV n cv rv] h fun r h1 => ∃ c vp, r = .ret (.func (.func 57) #[] #[.pointer (some ⟨c, 0, none⟩)]) ∧ Ext h h1 ∧ h.next ≤ c ∧ c < h1.next ∧ h1.get c = some (.row [vp] 0 false) ∧
      Sl rPart (fun i => h.next ≤ i ∧ i < h1.next ∧ i ≠ c) h1 vp (partsS ⟨n, cells, rows⟩) := by
  refine go_23 (by simp) ?_
  have c1 := hc.cells1
  have r1 := hr.cells1
  obtain ⟨H0, hH0⟩ : ∃ H, H = h.push (.row [.int .i64 n, cv, rv] 0 false) := ⟨_, rfl⟩
  have hE0 : Ext h H0 := by rw [hH0]; exact Ext.push1 _ _
  have hB0 : H0.get h.next = some (.row [.int .i64 n, cv, rv] 0 false) := by rw [hH0]; exact get_push_same _ _
  have hl3 : cellsAt H0 h.next 0 3 = some (stateV n cv rv) := by rw [cellsAt_row hB0 (Nat.le_of_ble_eq_true rfl)]; rfl
  have hH0n : H0.next = h.next + 1 := by rw [hH0]; rfl
  simp -implicitDefEqProofs (disch := first | omega | (simp -implicitDefEqProofs only [go_sem, List.size_toArray, List.length_cons, List.length_nil, Nat.reduceAdd]; done)) only [go_sem, Int.reduceLT, Int.reduceLE, Int.reduceEq, reduceIte, true_and, Nat.zero_add, Nat.add_zero, Option.map_some, c23, ← hH0, hl3]
  refine ncall_ct (bytes_s hn (hc.ext hE0) (hr.ext hE0) hlc hlr) ?_
  rintro r h1 ⟨v, rfl, hE, ha⟩
  have hEn := hE.next
  have hEh := hE0.trans hE
  by_cases h0 : bytesE ⟨n, cells, rows⟩ = 0
  case neg =>
    simp -implicitDefEqProofs (disch := first | omega | (simp -implicitDefEqProofs only [go_sem, List.size_toArray, List.length_cons, List.length_nil, Nat.reduceAdd]; done)) only [go_sem, Int.reduceLT, Int.reduceLE, Int.reduceEq, reduceIte, true_and, Nat.zero_add, Nat.add_zero, Option.map_some, XEnd, h0]
    refine ⟨_, rfl, h1.next, _, rfl, hEh.push _, by omega, Nat.lt_succ_self _, get_push_same _ _, ?_⟩
    unfold partsS
    rw [if_neg h0]
    exact Sl.nil _ _ _
  obtain ⟨hm, hlen, hbl⟩ := bytes0_of h0
  rw [hbl] at ha
  have hps : partsS ⟨n, cells, rows⟩ = partsL n (stateB ⟨n, cells, rows⟩) := by unfold partsS; rw [if_pos h0]
  rw [hps]
  obtain ⟨l, hl⟩ : ∃ l, stateB ⟨n, cells, rows⟩ = l := ⟨_, rfl⟩
  rw [hl] at ha hlen ⊢
  obtain ⟨H1, hH1⟩ : ∃ H, H = h1.push (.row [.slice none 0 0] 0 false) := ⟨_, rfl⟩
  have hH1n : H1.next = h1.next + 1 := by rw [hH1]; rfl
  have el : ∀ K, dLen Try.prog #[22] v K = some (.int .i64 (l.length : Nat)) := ha.lens (P := Try.prog) (ts := #[22]) (t := 22) rfl isl_22
  have hw1 : IntKind.i64.wrap ((l.length : Int) + 16384) = (l.length : Int) + 16384 := wrap_i64_in (by omega) (by omega)
  have hw2 : IntKind.i64.wrap ((l.length : Int) + 16384 - 1) = (l.length : Int) + 16383 := by rw [wrap_i64_in (by omega) (by omega)]; omega
  have hw3 : IntKind.i64.wrap (((l.length : Int) + 16383).tdiv 16384) = ((manyL l : Nat) : Int) := by
    have : ((l.length : Int) + 16383).tdiv 16384 = ((manyL l : Nat) : Int) := by
      rw [Int.tdiv_eq_ediv_of_nonneg (by omega)]
      unfold manyL
      omega
    rw [this, wrap_i64_in (by omega) (by unfold manyL; omega)]
  have hmany : manyL l ≤ 65 := by unfold manyL; omega
  have hq : ∀ {K : DHeap} {ox oy : Operand}, dBinOp Try.prog .quo 3 ox oy (.int .i64 ((l.length : Int) + 16383)) (.int .i64 16384) K = .ok (.value (.int .i64 ((manyL l : Nat) : Int))) K := fun {K ox oy} => by
    rw [bin_quo (by decide), hw3]
  simp -implicitDefEqProofs (disch := first | omega | (simp -implicitDefEqProofs only [go_sem, List.size_toArray, List.length_cons, List.length_nil, Nat.reduceAdd]; done)) only [go_sem, Int.reduceLT, Int.reduceLE, Int.reduceEq, reduceIte, true_and, Nat.zero_add, Nat.add_zero, Option.map_some, XEnd, h0, ← hH1, el, hw1, hw2, hq]
  refine XLoop_cut (fun s => s.df = [] ∧ s.fr 5 = some (.pointer (some ⟨h1.next, 0, none⟩)) ∧ Ext h s.h ∧ h1.next < s.h.next ∧ ∃ vp, s.h.get h1.next = some (.row [vp] 0 false) ∧ Sl rPart (fun i => h.next ≤ i ∧ i < s.h.next ∧ i ≠ h1.next) s.h vp (partsL n l)) ?_ ?_
  · refine xloop (σ := Nat) (by kernel_rfl) (fun i s => s.df = [] ∧ s.fr 1 = some (.pointer (some ⟨h.next, 0, none⟩)) ∧ s.fr 3 = some v ∧ s.fr 5 = some (.pointer (some ⟨h1.next, 0, none⟩)) ∧ s.fr 6 = some (.int .i64 (manyL l : Nat)) ∧ s.fr 20 = some (.int .i64 (manyL l : Nat)) ∧ s.fr 21 = some (.int .i64 (i : Nat)) ∧ i ≤ manyL l ∧
      (∀ j, j < h1.next → s.h.get j = h1.get j) ∧ H1.next ≤ s.h.next ∧ s.h.ng = h1.ng ∧ ∃ vp w, s.h.get h1.next = some (.row [vp] 0 false) ∧ Owns rPart (fun j => h.next ≤ j ∧ j < h1.next) s.h vp ((partsL n l).take i) w ∧ ∀ x, w = some x → h1.next + 1 ≤ x) (fun i => manyL l - i) 0 ?_ ?_
    · simp -implicitDefEqProofs (disch := first | omega | (simp -implicitDefEqProofs only [go_sem, List.size_toArray, List.length_cons, List.length_nil, Nat.reduceAdd]; done)) only [go_sem, Int.reduceLT, Int.reduceLE, Int.reduceEq, reduceIte, true_and, Nat.zero_add, Nat.add_zero, Option.map_some]
      exact ⟨rfl, Nat.zero_le _, fun j hj => by rw [hH1]; exact get_push_other _ _ hj, Nat.le_refl _, by rw [hH1]; rfl, .slice none 0 0, none, by rw [hH1]; exact get_push_same _ _, Owns.nil _ _ _, by simp⟩
    · rintro i ⟨fr, df, hh, rd⟩ K' hK' hX ⟨rfl, f1, f3, f5, f6, f20, f21, hi, hold, hnx, hng, vp, w, hg, ho, hw⟩
      simp only at f1 f3 f5 f6 f20 f21 hold hnx hng hg ho
      have hwl := ho.lt
      have hnx' : h1.next + 1 ≤ hh.next := by rw [← hH1n]; exact hnx
      have hEhn := hEh.next
      by_cases hc1 : ((i : Nat) : Int) < (manyL l : Nat)
      case neg =>
        have hi2 : i = manyL l := by omega
        simp -implicitDefEqProofs (disch := first | omega | (simp -implicitDefEqProofs only [go_sem, List.size_toArray, List.length_cons, List.length_nil, Nat.reduceAdd]; done)) only [go_sem, Int.reduceLT, Int.reduceLE, Int.reduceEq, reduceIte, true_and, Nat.zero_add, Nat.add_zero, Option.map_some, f20, f21, hc1]
        refine hX _ _ (by simp) ⟨rfl, by simp -implicitDefEqProofs (disch := first | omega | (simp -implicitDefEqProofs only [go_sem, List.size_toArray, List.length_cons, List.length_nil, Nat.reduceAdd]; done)) only [go_sem, Int.reduceLT, Int.reduceLE, Int.reduceEq, reduceIte, true_and, Nat.zero_add, Nat.add_zero, Option.map_some, f5], ⟨Nat.le_trans hEh.next (Nat.le_of_succ_le hnx'), hng.trans hEh.ng, fun j hj => (hold j (Nat.lt_of_lt_of_le hj hEh.next)).trans (hEh.get j hj)⟩, hnx', vp, hg, ?_⟩
        rw [hi2, ← partsL_len n l, List.take_length] at ho
        have key : ∀ j, ((h.next ≤ j ∧ j < h1.next) ∨ w = some j) → h.next ≤ j ∧ j < hh.next ∧ j ≠ h1.next := fun j hj => by
          rcases hj with hj | hj
          · exact ⟨hj.1, by omega, by omega⟩
          · have := hw j hj; have := hwl j hj; exact ⟨by omega, by omega, by omega⟩
        exact ho.sl.mono fun j hj => ⟨key j hj, rfl⟩
      have hlt : i < manyL l := by omega
      have hpl := piece_le hlt
      have ha' : Sl fU8.rep (fun j => h.next ≤ j ∧ j < h1.next) hh v l := ha.mono fun j hj => ⟨⟨by have := hE0.next; omega, hj.2⟩, hold j hj.2⟩
      obtain ⟨v', tc, hs'⟩ := cut_c ha' (fun j hj => by omega) hpl (Nat.min_le_right _ _)
      have hgS : hh.get h.next = some (.row [.int .i64 n, cv, rv] 0 false) := by rw [hold _ (by omega), hE.get _ (by omega)]; exact hB0
      have C1 : cellAt hh h.next 0 = some (.int .i64 n) := cellAt_row hgS
      have C5 : cellAt hh h1.next 0 = some vp := cellAt_row hg
      have hx := partsL_get (slot := n) hlt
      have hwA : IntKind.i64.wrap ((i : Int) * 16384) = ((i * 16384 : Nat) : Int) := by rw [wrap_i64_in (by omega) (by omega)]; omega
      have hwB : IntKind.i64.wrap ((i : Int) + 1) = ((i + 1 : Nat) : Int) := by rw [wrap_i64_in (by omega) (by omega)]; omega
      have hwC : IntKind.i64.wrap (((i + 1 : Nat) : Int) * 16384) = (((i + 1) * 16384 : Nat) : Int) := by rw [wrap_i64_in (by omega) (by omega)]; omega
      have hmin : min (l.length : Int) (((i + 1) * 16384 : Nat) : Int) = ((min ((i + 1) * 16384) l.length : Nat) : Int) := by omega
      have hsl := hs'.isSlice
      have hbp : ∀ a b c : Int, dBuild Try.prog 57 [(0, .int .i64 a), (1, .int .i64 b), (2, .int .i64 c), (3, v')] = some (.agg #[.int .i64 a, .int .i64 b, .int .i64 c, v']) := by
        obtain ⟨_, _, rfl⟩ := hsl
        exact fun a b c => bd_part
      simp -implicitDefEqProofs (disch := first | omega | (simp -implicitDefEqProofs only [go_sem, List.size_toArray, List.length_cons, List.length_nil, Nat.reduceAdd]; done)) only [go_sem, Int.reduceLT, Int.reduceLE, Int.reduceEq, reduceIte, true_and, Nat.zero_add, Nat.add_zero, Option.map_some, f20, f21, hc1]
      refine dr_23_0 ?_
      simp -implicitDefEqProofs (disch := first | omega | (simp -implicitDefEqProofs only [go_sem, List.size_toArray, List.length_cons, List.length_nil, Nat.reduceAdd]; done)) only [go_sem, Int.reduceLT, Int.reduceLE, Int.reduceEq, reduceIte, true_and, Nat.zero_add, Nat.add_zero, Option.map_some, l23_0, f1, f3, f5, f6, C1, C5, el, hwA, hwB, hwC, min_i64, hmin]
      refine dcall tc ?_
      obtain ⟨z2, h2, e3, y1, y2, y3, o3⟩ := ho.snoc (ts := #[44, 44]) (z := 4) (fun j hj => ⟨by omega, fun hwj => by have := hw j hwj; omega⟩)
        (part_rd (x := ⟨n, (i : Int), (manyL l : Int), pieceL l i⟩) hn (inK_i64.2 (by show _ ≤ ((i:Nat):Int) ∧ ((i:Nat):Int) ≤ _; omega)) (inK_i64.2 (by show _ ≤ ((manyL l:Nat):Int) ∧ ((manyL l:Nat):Int) ≤ _; omega)) hs') rfl (by decide) app_44 (by rw [List.length_take, partsL_len]; omega) (by decide)
      have hbs : ∀ (K : DHeap) (a b c : Int), dBuildSlice Try.prog 44 1 [(0, .agg #[.int .i64 a, .int .i64 b, .int .i64 c, v'])] K = some (.slice (some ⟨K.next, 0, none⟩) 1 1, K.push (.row [.int .i64 a, .int .i64 b, .int .i64 c, v'] 4 false)) := fun K a b c => bs1_44 rfl
      have g2 : h2.get h1.next = some (.row [vp] 0 false) := (y3 _ (by omega) (fun hwi => by have := hw _ hwi; omega)).trans hg
      have hsl2 := o3.sl.isSlice
      have hcl2 : z2.cells = #[z2] := o3.sl.cells1
      have hone : [z2].all Value.oneCell' = true := by obtain ⟨_, _, rfl⟩ := hsl2; rfl
      have hst : dStore Try.prog 44 (.pointer (some ⟨h1.next, 0, none⟩)) z2 h2 = some (h2.set h1.next (.row [z2] 0 false)) :=
        (st_44 hcl2).trans (storeAt_row g2 (Nat.le_of_ble_eq_true rfl) hone)
      simp -implicitDefEqProofs (disch := first | omega | (simp -implicitDefEqProofs only [go_sem, List.size_toArray, List.length_cons, List.length_nil, Nat.reduceAdd]; done)) only [go_sem, Int.reduceLT, Int.reduceLE, Int.reduceEq, reduceIte, true_and, Nat.zero_add, Nat.add_zero, Option.map_some, hbp, hbs, e3, f5, hst]
      have D0 : ∀ K : DHeap, K.get h1.next = some (.row [vp] 0 false) → dLoad Try.prog 44 (.pointer (some ⟨h1.next, 0, none⟩)) K = some vp := fun K hk => ld_44.trans (cellAt_row hk)
      have D2 : dLoad Try.prog 2 (.pointer (some ⟨h.next, 0, none⟩)) hh = some (.int .i64 n) := ld_2.trans C1
      refine ⟨⟨XSt1_at (i := 0) (j := 9) rfl rfl rfl ?_, XSt1_at (i := 0) (j := 13) rfl rfl rfl ?_, XSt1_at (i := 0) (j := 14) rfl rfl rfl ?_, XSt1_at (i := 0) (j := 16) rfl rfl rfl ?_, XSt1_at (i := 2) (j := 9) rfl rfl rfl ?_, XSt1_at (i := 2) (j := 13) rfl rfl rfl ?_, XSt1_at (i := 2) (j := 14) rfl rfl rfl ?_, trivial⟩, ?_⟩
      · rw [if_neg (by decide)]
        exact Ld_on (p := .pointer (some ⟨h1.next, 0, none⟩)) (by simp -implicitDefEqProofs (disch := first | omega | (simp -implicitDefEqProofs only [go_sem, List.size_toArray, List.length_cons, List.length_nil, Nat.reduceAdd]; done)) only [go_sem, Int.reduceLT, Int.reduceLE, Int.reduceEq, reduceIte, true_and, Nat.zero_add, Nat.add_zero, Option.map_some]) (by simp -implicitDefEqProofs (disch := first | omega | (simp -implicitDefEqProofs only [go_sem, List.size_toArray, List.length_cons, List.length_nil, Nat.reduceAdd]; done)) only [go_sem, Int.reduceLT, Int.reduceLE, Int.reduceEq, reduceIte, true_and, Nat.zero_add, Nat.add_zero, Option.map_some, f5]) (D0 _ hg)
      · rw [if_neg (by decide)]
        exact Ld_on (p := .pointer (some ⟨h1.next, 0, none⟩)) (by simp -implicitDefEqProofs (disch := first | omega | (simp -implicitDefEqProofs only [go_sem, List.size_toArray, List.length_cons, List.length_nil, Nat.reduceAdd]; done)) only [go_sem, Int.reduceLT, Int.reduceLE, Int.reduceEq, reduceIte, true_and, Nat.zero_add, Nat.add_zero, Option.map_some]) (by simp -implicitDefEqProofs (disch := first | omega | (simp -implicitDefEqProofs only [go_sem, List.size_toArray, List.length_cons, List.length_nil, Nat.reduceAdd]; done)) only [go_sem, Int.reduceLT, Int.reduceLE, Int.reduceEq, reduceIte, true_and, Nat.zero_add, Nat.add_zero, Option.map_some, f5]) (D0 _ hg)
      · rw [if_neg (by decide)]
        exact Ld_on (p := .pointer (some ⟨h1.next, 0, none⟩)) (by simp -implicitDefEqProofs (disch := first | omega | (simp -implicitDefEqProofs only [go_sem, List.size_toArray, List.length_cons, List.length_nil, Nat.reduceAdd]; done)) only [go_sem, Int.reduceLT, Int.reduceLE, Int.reduceEq, reduceIte, true_and, Nat.zero_add, Nat.add_zero, Option.map_some]) (by simp -implicitDefEqProofs (disch := first | omega | (simp -implicitDefEqProofs only [go_sem, List.size_toArray, List.length_cons, List.length_nil, Nat.reduceAdd]; done)) only [go_sem, Int.reduceLT, Int.reduceLE, Int.reduceEq, reduceIte, true_and, Nat.zero_add, Nat.add_zero, Option.map_some, f5]) (D0 _ hg)
      · rw [if_neg (by decide)]
        exact Ld_on (p := .pointer (some ⟨h1.next, 0, none⟩)) (by simp -implicitDefEqProofs (disch := first | omega | (simp -implicitDefEqProofs only [go_sem, List.size_toArray, List.length_cons, List.length_nil, Nat.reduceAdd]; done)) only [go_sem, Int.reduceLT, Int.reduceLE, Int.reduceEq, reduceIte, true_and, Nat.zero_add, Nat.add_zero, Option.map_some]) (by simp -implicitDefEqProofs (disch := first | omega | (simp -implicitDefEqProofs only [go_sem, List.size_toArray, List.length_cons, List.length_nil, Nat.reduceAdd]; done)) only [go_sem, Int.reduceLT, Int.reduceLE, Int.reduceEq, reduceIte, true_and, Nat.zero_add, Nat.add_zero, Option.map_some, f5]) (D0 _ ((get_push_other _ _ (by omega)).trans hg))
      · rw [if_neg (by decide)]
        exact Ld_on (p := .pointer (some ⟨h.next, 0, none⟩)) (by simp -implicitDefEqProofs (disch := first | omega | (simp -implicitDefEqProofs only [go_sem, List.size_toArray, List.length_cons, List.length_nil, Nat.reduceAdd]; done)) only [go_sem, Int.reduceLT, Int.reduceLE, Int.reduceEq, reduceIte, true_and, Nat.zero_add, Nat.add_zero, Option.map_some]) (by simp -implicitDefEqProofs (disch := first | omega | (simp -implicitDefEqProofs only [go_sem, List.size_toArray, List.length_cons, List.length_nil, Nat.reduceAdd]; done)) only [go_sem, Int.reduceLT, Int.reduceLE, Int.reduceEq, reduceIte, true_and, Nat.zero_add, Nat.add_zero, Option.map_some, f1]) D2
      · rw [if_neg (by decide)]
        exact Ld_on (p := .pointer (some ⟨h.next, 0, none⟩)) (by simp -implicitDefEqProofs (disch := first | omega | (simp -implicitDefEqProofs only [go_sem, List.size_toArray, List.length_cons, List.length_nil, Nat.reduceAdd]; done)) only [go_sem, Int.reduceLT, Int.reduceLE, Int.reduceEq, reduceIte, true_and, Nat.zero_add, Nat.add_zero, Option.map_some]) (by simp -implicitDefEqProofs (disch := first | omega | (simp -implicitDefEqProofs only [go_sem, List.size_toArray, List.length_cons, List.length_nil, Nat.reduceAdd]; done)) only [go_sem, Int.reduceLT, Int.reduceLE, Int.reduceEq, reduceIte, true_and, Nat.zero_add, Nat.add_zero, Option.map_some, f1]) D2
      · rw [if_neg (by decide)]
        exact Ld_on (p := .pointer (some ⟨h.next, 0, none⟩)) (by simp -implicitDefEqProofs (disch := first | omega | (simp -implicitDefEqProofs only [go_sem, List.size_toArray, List.length_cons, List.length_nil, Nat.reduceAdd]; done)) only [go_sem, Int.reduceLT, Int.reduceLE, Int.reduceEq, reduceIte, true_and, Nat.zero_add, Nat.add_zero, Option.map_some]) (by simp -implicitDefEqProofs (disch := first | omega | (simp -implicitDefEqProofs only [go_sem, List.size_toArray, List.length_cons, List.length_nil, Nat.reduceAdd]; done)) only [go_sem, Int.reduceLT, Int.reduceLE, Int.reduceEq, reduceIte, true_and, Nat.zero_add, Nat.add_zero, Option.map_some, f1]) D2
      simp -implicitDefEqProofs (disch := first | omega | (simp -implicitDefEqProofs only [go_sem, List.size_toArray, List.length_cons, List.length_nil, Nat.reduceAdd]; done)) only [go_sem, Int.reduceLT, Int.reduceLE, Int.reduceEq, reduceIte, true_and, Nat.zero_add, Nat.add_zero, Option.map_some, f21, hwB]
      refine hK' (i + 1) _ ?_ (by omega)
      refine ⟨by trivial, by simp -implicitDefEqProofs (disch := first | omega | (simp -implicitDefEqProofs only [go_sem, List.size_toArray, List.length_cons, List.length_nil, Nat.reduceAdd]; done)) only [go_sem, Int.reduceLT, Int.reduceLE, Int.reduceEq, reduceIte, true_and, Nat.zero_add, Nat.add_zero, Option.map_some, f1], by simp -implicitDefEqProofs (disch := first | omega | (simp -implicitDefEqProofs only [go_sem, List.size_toArray, List.length_cons, List.length_nil, Nat.reduceAdd]; done)) only [go_sem, Int.reduceLT, Int.reduceLE, Int.reduceEq, reduceIte, true_and, Nat.zero_add, Nat.add_zero, Option.map_some, f3], by simp -implicitDefEqProofs (disch := first | omega | (simp -implicitDefEqProofs only [go_sem, List.size_toArray, List.length_cons, List.length_nil, Nat.reduceAdd]; done)) only [go_sem, Int.reduceLT, Int.reduceLE, Int.reduceEq, reduceIte, true_and, Nat.zero_add, Nat.add_zero, Option.map_some, f5], by simp -implicitDefEqProofs (disch := first | omega | (simp -implicitDefEqProofs only [go_sem, List.size_toArray, List.length_cons, List.length_nil, Nat.reduceAdd]; done)) only [go_sem, Int.reduceLT, Int.reduceLE, Int.reduceEq, reduceIte, true_and, Nat.zero_add, Nat.add_zero, Option.map_some, f6], by simp -implicitDefEqProofs (disch := first | omega | (simp -implicitDefEqProofs only [go_sem, List.size_toArray, List.length_cons, List.length_nil, Nat.reduceAdd]; done)) only [go_sem, Int.reduceLT, Int.reduceLE, Int.reduceEq, reduceIte, true_and, Nat.zero_add, Nat.add_zero, Option.map_some, f20], by simp -implicitDefEqProofs (disch := first | omega | (simp -implicitDefEqProofs only [go_sem, List.size_toArray, List.length_cons, List.length_nil, Nat.reduceAdd]; done)) only [go_sem, Int.reduceLT, Int.reduceLE, Int.reduceEq, reduceIte, true_and, Nat.zero_add, Nat.add_zero, Option.map_some], by omega, ?_, ?_, ?_, z2, some (hh.next + 1), get_set_same _ _, ?_, ?_⟩
      · intro j hj
        exact (get_set_other _ _ (by omega)).trans ((y3 _ (by omega) (fun hwi => by have := hw _ hwi; omega)).trans (hold j hj))
      · show H1.next ≤ h2.next
        omega
      · exact y2.trans hng
      · rw [List.take_add_one, hx]
        exact o3.mono (Nat.le_refl _) (fun x hxw => get_set_other _ _ (by cases hxw; omega)) (fun j hj => ⟨hj, get_set_other _ _ (by omega)⟩)
      · intro x hxw
        cases hxw
        omega
  · rintro ⟨fr, df, hh, rd⟩ ⟨rfl, f5, hE2, hc2, vp, hg, hs⟩
    simp only at f5 hE2 hc2 hg hs
    simp -implicitDefEqProofs (disch := first | omega | (simp -implicitDefEqProofs only [go_sem, List.size_toArray, List.length_cons, List.length_nil, Nat.reduceAdd]; done)) only [go_sem, Int.reduceLT, Int.reduceLE, Int.reduceEq, reduceIte, true_and, Nat.zero_add, Nat.add_zero, Option.map_some, f5]
    exact ⟨_, rfl, h1.next, vp, rfl, hE2, by omega, hc2, hg, hs⟩
end Go.Proofs.Ytlhgijpdhniddaa

namespace Go.Proofs.Ytlhgijpdhniddaa
open Go.D
set_option maxRecDepth 100000

theorem part_idx {S : Nat → Prop} {h : DHeap} {v : Value} {ps : List Part} {i : Nat} {x : Part} (hb : Sl rPart S h v ps) (hx : ps[i]? = some x) :
    ∃ id o w, dIndexAddr Try.prog 44 v (.int .i64 (i : Nat)) = some (.pointer (some ⟨id, o, none⟩)) ∧ S id ∧ cellsAt h id o 4 = some (partV x w) ∧ Sl fU8.rep S h w x.data ∧ inK .i64 x.slot ∧ inK .i64 x.index ∧ inK .i64 x.many := by
  obtain ⟨id, o, g, hs, hat⟩ := hb.idx (P := Try.prog) (t := 44) el_44 (k := .i64) hx
  obtain ⟨w, l, k⟩ := part_at hat
  exact ⟨id, o, w, g, hs, l, k⟩
/-- a list that is new, and can be written to -/
def WrB (k : IntKind) (n0 : Nat) (K : DHeap) (w : Value) (n : Nat) : Prop :=
  (w = .slice none 0 0 ∧ n = 0) ∨ ∃ id c ds, w = .slice (some ⟨id, 0, none⟩) n c ∧ n0 < id ∧ id < K.next ∧ K.get id = some (.row ds 1 false) ∧ n ≤ ds.length ∧ ∀ x ∈ ds, ∃ m, x = .int k m
theorem clone_wr {k : IntKind} {h : DHeap} {w : Value} {l : List Int} {n0 : Nat} {S : Nat → Prop} {H : DHeap} (hw : Sl (fI k).rep S H w l) (hn : n0 < h.next) : WrB k n0 (cloneH (fI k) h w l) (cloneV h w l) l.length := by
  unfold cloneH cloneV
  by_cases hv : isNilV w = true
  · rw [if_pos hv, if_pos hv]
    exact .inl ⟨rfl, by rw [(isNilV_nil hw hv).2]; rfl⟩
  · rw [if_neg hv, if_neg hv]
    refine .inr ⟨h.next, _, _, rfl, hn, Nat.lt_succ_self _, get_push_same _ _, ?_, fun x hx => ?_⟩
    · rw [flatMap_len]; exact Nat.le_of_eq (Nat.mul_one _).symm
    · obtain ⟨m, _, hm⟩ := List.mem_flatMap.1 hx
      exact ⟨m, by simpa [fI] using hm⟩
theorem WrB.set {k : IntKind} {n0 : Nat} {K : DHeap} {w : Value} {n : Nat} {o : DObj} (a : WrB k n0 K w n) : WrB k n0 (K.set n0 o) w n := by
  rcases a with a | ⟨id, c, ds, e1, e2, e3, e4, e5⟩
  · exact .inl a
  · exact .inr ⟨id, c, ds, e1, e2, e3, (get_set_other _ _ (by omega)).trans e4, e5⟩
theorem yields_c {h : DHeap} {c l p : Nat} {D : DLoop} {vp : Value} {ps : List Part} (I : Nat → DHeap → Prop) (Stop : DHeap → Prop) (hp : D.params = #[p]) (hps : p < D.size) (hlen : ps.length ≤ 65) (hdl : ∀ x ∈ ps, x.data.length ≤ 4294967296)
    (h0 : I 0 h) (hI : ∀ i K, I i K → K.get l = some (.loop D) ∧ K.get c = some (.row [vp] 0 false) ∧ Arg rPart K vp ps) (hE : ∀ i K K', I i K → Ext K K' → I i K')
    (hR : ∀ i K K' x w, I i K → Ext K K' → ps[i]? = some x → Sl fU8.rep (fun j => K.next ≤ j ∧ j < K'.next) K' w x.data → inK .i64 x.slot → inK .i64 x.index → inK .i64 x.many → WrB .u8 K.next K' w x.data.length → Rt Try.prog l D.size (putParams D.tmps [p] [partV x w]) D.assign D.body K' fun r H => r = .ret (.bool true) ∧ I (i + 1) H ∨ r = .ret (.bool false) ∧ Stop H) :
    Ct Try.prog 57 [.func (.yield l) #[] #[], .pointer (some ⟨c, 0, none⟩)] h fun r H => (∃ v, r = .ret v) ∧ (I ps.length H ∨ Stop H) := by
  refine go_57 (by simp) ?_
  obtain ⟨hl0, hc0, ha0⟩ := hI 0 h h0
  have C0 : cellAt h c 0 = some vp := cellAt_row hc0
  have el : ∀ K, dLen Try.prog #[44] vp K = some (.int .i64 (ps.length : Nat)) := ha0.lens (P := Try.prog) (ts := #[44]) (t := 44) rfl isl_44
  simp -implicitDefEqProofs (disch := first | omega | (simp -implicitDefEqProofs only [go_sem, List.size_toArray, List.length_cons, List.length_nil, Nat.reduceAdd]; done)) only [go_sem, Int.reduceLT, Int.reduceLE, Int.reduceEq, reduceIte, true_and, Nat.zero_add, Nat.add_zero, Option.map_some, c57, C0, el]
  refine xloop (σ := Nat) (by kernel_rfl) (fun i s => s.df = [] ∧ s.fr 0 = some (.func (.yield l) #[] #[]) ∧ s.fr 5 = some vp ∧ s.fr 6 = some (.int .i64 (ps.length : Nat)) ∧ s.fr 7 = some (.int .i64 (i : Nat)) ∧ i ≤ ps.length ∧ I i s.h) (fun i => ps.length - i) 0 ?_ ?_
  · simp -implicitDefEqProofs (disch := first | omega | (simp -implicitDefEqProofs only [go_sem, List.size_toArray, List.length_cons, List.length_nil, Nat.reduceAdd]; done)) only [go_sem, Int.reduceLT, Int.reduceLE, Int.reduceEq, reduceIte, true_and, Nat.zero_add, Nat.add_zero, Option.map_some]
    exact ⟨rfl, Nat.zero_le _, h0⟩
  · rintro i ⟨fr, df, hh, rd⟩ K' hK' hX ⟨rfl, f0, f5, f6, f7, hi, hinv⟩
    simp only at f0 f5 f6 f7 hinv
    simp -implicitDefEqProofs (disch := first | omega | (simp -implicitDefEqProofs only [go_sem, List.size_toArray, List.length_cons, List.length_nil, Nat.reduceAdd]; done)) only [go_sem, Int.reduceLT, Int.reduceLE, Int.reduceEq, reduceIte, true_and, Nat.zero_add, Nat.add_zero, Option.map_some, f5, f6, f7]
    refine XIf_dec (fun hc1 => ?_) (fun hc1 => ?_)
    · have hj : i < ps.length := by omega
      obtain ⟨hl, hc, ha⟩ := hI i hh hinv
      obtain ⟨id, o, w, g1, hid, l1, hs, k1, k2, k3⟩ := part_idx ha (get_of_lt hj)
      have hsl := hs.isSlice
      have hcw : w.cells = #[w] := hs.cells1
      have hst : [Value.int .i64 ps[i].slot, .int .i64 ps[i].index, .int .i64 ps[i].many, w].all Value.oneCell' = true := by obtain ⟨_, _, rfl⟩ := hsl; rfl
      have hw1 := wrap_succ hj (by omega)
      obtain ⟨H1, hH1⟩ : ∃ H, H = hh.push (.row [.int .i64 ps[i].slot, .int .i64 ps[i].index, .int .i64 ps[i].many, w] 0 false) := ⟨_, rfl⟩
      have hE1 : Ext hh H1 := by rw [hH1]; exact Ext.push1 _ _
      have hgB : H1.get hh.next = some (.row [.int .i64 ps[i].slot, .int .i64 ps[i].index, .int .i64 ps[i].many, w] 0 false) := by rw [hH1]; exact get_push_same _ _
      have C3 : cellAt H1 hh.next 3 = some w := cellAt_row hgB
      have hH1n : H1.next = hh.next + 1 := by rw [hH1]; rfl
      have hdi := hdl _ (List.getElem_mem hj)
      have tc := clone_u8 (hs.ext hE1) hdi
      have md := clone_made (h := H1) (hs.ext hE1)
      have hwb := clone_wr (h := H1) (n0 := hh.next) (hs.ext hE1) (by omega)
      obtain ⟨cv, hcv⟩ : ∃ v, cloneV H1 w ps[i].data = v := ⟨_, rfl⟩
      obtain ⟨K2, hK2⟩ : ∃ v, cloneH fU8 H1 w ps[i].data = v := ⟨_, rfl⟩
      rw [hcv, hK2] at tc md hwb
      have hE2 := md.ext
      have hE2n := hE2.next
      have hg2 : K2.get hh.next = some (.row [.int .i64 ps[i].slot, .int .i64 ps[i].index, .int .i64 ps[i].many, w] 0 false) := (hE2.get _ (by omega)).trans hgB
      have hscv := md.sl.isSlice
      have hccv : cv.cells = #[cv] := md.sl.cells1
      have hone : [cv].all Value.oneCell' = true := by obtain ⟨_, _, rfl⟩ := hscv; rfl
      obtain ⟨K3, hK3⟩ : ∃ K, K = K2.set hh.next (.row [.int .i64 ps[i].slot, .int .i64 ps[i].index, .int .i64 ps[i].many, cv] 0 false) := ⟨_, rfl⟩
      have hst2 : dStore Try.prog 22 (.pointer (some ⟨hh.next, 3, none⟩)) cv K2 = some K3 := by
        rw [hK3]
        exact (st_22 hccv).trans (storeAt_row hg2 (Nat.le_of_ble_eq_true rfl) hone)
      have hg3 : K3.get hh.next = some (.row [.int .i64 ps[i].slot, .int .i64 ps[i].index, .int .i64 ps[i].many, cv] 0 false) := by rw [hK3]; exact get_set_same _ _
      have hK3n : K3.next = K2.next := by rw [hK3]; rfl
      have l3 : cellsAt K3 hh.next 0 4 = some (partV ps[i] cv) := by rw [cellsAt_row hg3 (Nat.le_of_ble_eq_true rfl)]; rfl
      have hE3 : Ext hh K3 := ⟨by omega, by rw [hK3]; exact (hE2.ng).trans hE1.ng, fun j hj => by rw [hK3, get_set_other _ _ (by omega)]; exact (hE2.get j (by omega)).trans (hE1.get j hj)⟩
      have hs3 : Sl fU8.rep (fun j => hh.next ≤ j ∧ j < K3.next) K3 cv ps[i].data := md.sl.mono fun j hj => ⟨by omega, by rw [hK3]; exact get_set_other _ _ (by omega)⟩
      have hl3 : K3.get l = some (.loop D) := (hI i K3 (hE i hh K3 hinv hE3)).1
      have hy : dCallO Try.prog K3 (some (.func (.yield l) #[] #[])) (some [partV ps[i] cv]) = .ok (.round l D.size (putParams D.tmps [p] [partV ps[i] cv]) D.assign D.body) K3 := by
        rw [dCallO_yield hl3 _ (by rw [hp]; rfl) (by rw [hp]; simpa using hps), hp]
      simp -implicitDefEqProofs (disch := first | omega | (simp -implicitDefEqProofs only [go_sem, List.size_toArray, List.length_cons, List.length_nil, Nat.reduceAdd]; done)) only [go_sem, Int.reduceLT, Int.reduceLE, Int.reduceEq, reduceIte, true_and, Nat.zero_add, Nat.add_zero, Option.map_some, f5, f6, f7, g1, l1, store4_push hst, hcw, ← hH1, C3]
      refine ncall tc ?_
      simp -implicitDefEqProofs (disch := first | omega | (simp -implicitDefEqProofs only [go_sem, List.size_toArray, List.length_cons, List.length_nil, Nat.reduceAdd]; done)) only [go_sem, Int.reduceLT, Int.reduceLE, Int.reduceEq, reduceIte, true_and, Nat.zero_add, Nat.add_zero, Option.map_some, hst2, l3, f0, hy]
      refine nround_rt (hR i hh K3 _ cv hinv hE3 (get_of_lt hj) hs3 k1 k2 k3 (by rw [hK3]; exact hwb.set)) ?_
      rintro r H (⟨rfl, hI2⟩ | ⟨rfl, hS⟩)
      · simp -implicitDefEqProofs (disch := first | omega | (simp -implicitDefEqProofs only [go_sem, List.size_toArray, List.length_cons, List.length_nil, Nat.reduceAdd]; done)) only [go_sem, Int.reduceLT, Int.reduceLE, Int.reduceEq, reduceIte, true_and, Nat.zero_add, Nat.add_zero, Option.map_some, XEnd, f7, hw1]
        refine hK' (i + 1) _ ?_ (by omega)
        exact ⟨by trivial, by simp -implicitDefEqProofs (disch := first | omega | (simp -implicitDefEqProofs only [go_sem, List.size_toArray, List.length_cons, List.length_nil, Nat.reduceAdd]; done)) only [go_sem, Int.reduceLT, Int.reduceLE, Int.reduceEq, reduceIte, true_and, Nat.zero_add, Nat.add_zero, Option.map_some, f0], by simp -implicitDefEqProofs (disch := first | omega | (simp -implicitDefEqProofs only [go_sem, List.size_toArray, List.length_cons, List.length_nil, Nat.reduceAdd]; done)) only [go_sem, Int.reduceLT, Int.reduceLE, Int.reduceEq, reduceIte, true_and, Nat.zero_add, Nat.add_zero, Option.map_some, f5], by simp -implicitDefEqProofs (disch := first | omega | (simp -implicitDefEqProofs only [go_sem, List.size_toArray, List.length_cons, List.length_nil, Nat.reduceAdd]; done)) only [go_sem, Int.reduceLT, Int.reduceLE, Int.reduceEq, reduceIte, true_and, Nat.zero_add, Nat.add_zero, Option.map_some, f6], by simp -implicitDefEqProofs (disch := first | omega | (simp -implicitDefEqProofs only [go_sem, List.size_toArray, List.length_cons, List.length_nil, Nat.reduceAdd]; done)) only [go_sem, Int.reduceLT, Int.reduceLE, Int.reduceEq, reduceIte, true_and, Nat.zero_add, Nat.add_zero, Option.map_some], by omega, hI2⟩
      · simp -implicitDefEqProofs (disch := first | omega | (simp -implicitDefEqProofs only [go_sem, List.size_toArray, List.length_cons, List.length_nil, Nat.reduceAdd]; done)) only [go_sem, Int.reduceLT, Int.reduceLE, Int.reduceEq, reduceIte, true_and, Nat.zero_add, Nat.add_zero, Option.map_some, XEnd]
        refine hX _ _ (by simp) ?_
        simp -implicitDefEqProofs (disch := first | omega | (simp -implicitDefEqProofs only [go_sem, List.size_toArray, List.length_cons, List.length_nil, Nat.reduceAdd]; done)) only [go_sem, Int.reduceLT, Int.reduceLE, Int.reduceEq, reduceIte, true_and, Nat.zero_add, Nat.add_zero, Option.map_some]
        exact ⟨_, rfl, ⟨_, rfl⟩, .inr hS⟩
    · obtain rfl : i = ps.length := by omega
      refine hX _ _ (by simp) ?_
      simp -implicitDefEqProofs (disch := first | omega | (simp -implicitDefEqProofs only [go_sem, List.size_toArray, List.length_cons, List.length_nil, Nat.reduceAdd]; done)) only [go_sem, Int.reduceLT, Int.reduceLE, Int.reduceEq, reduceIte, true_and, Nat.zero_add, Nat.add_zero, Option.map_some]
      exact ⟨_, rfl, ⟨_, rfl⟩, .inl hinv⟩
end Go.Proofs.Ytlhgijpdhniddaa

namespace Go.Proofs.Ytlhgijpdhniddaa
open Go.D
set_option maxRecDepth 100000

end Go.Proofs.Ytlhgijpdhniddaa

namespace Go.Proofs.Ytlhgijpdhniddaa
open Go.D
set_option maxRecDepth 100000

end Go.Proofs.Ytlhgijpdhniddaa

namespace Go.Proofs.Ytlhgijpdhniddaa
open Go.D
set_option maxRecDepth 100000

section
variable {l : List Part}
end
end Go.Proofs.Ytlhgijpdhniddaa

namespace Go.Proofs.Ytlhgijpdhniddaa
open Go.D
set_option maxRecDepth 100000

end Go.Proofs.Ytlhgijpdhniddaa

namespace Go.D
variable {P : Program} {nt : Nat}

/-- the heap in a loop over a function that was begun at hB: what the loop may change is ids, and what was made since -/
structure Rng (hB : DHeap) (D : DLoop) (ids : Nat → Prop) (K : DHeap) : Prop where
  old : ∀ j, j < hB.next → ¬ ids j → K.get j = hB.get j
  nx : hB.next + 2 ≤ K.next
  ng : K.ng = hB.ng
  mrk : K.get hB.next = some (.marks true)
  lp : K.get (hB.next + 1) = some (.loop D)
section
variable {hB K K' : DHeap} {D D' : DLoop} {ids : Nat → Prop} {o : DObj} {id : Nat}
theorem Rng.start (hB : DHeap) (D : DLoop) (ids : Nat → Prop) : Rng hB D ids ((hB.push (.marks true)).push (.loop D)) :=
  ⟨fun j hj _ => by rw [get_push_other _ _ (by rw [next_push]; omega), get_push_other _ _ hj], Nat.le_refl _, rfl, get_p1, get_push_same _ _⟩
theorem Rng.ext (r : Rng hB D ids K) (e : Ext K K') : Rng hB D ids K' :=
  ⟨fun j hj hi => (e.get j (by have := r.nx; omega)).trans (r.old j hj hi), Nat.le_trans r.nx e.next, e.ng.trans r.ng, (e.get _ (by have := r.nx; omega)).trans r.mrk, (e.get _ (by have := r.nx; omega)).trans r.lp⟩
theorem Rng.set (r : Rng hB D ids K) (hi : ids id) (hid : id < hB.next) : Rng hB D ids (K.set id o) :=
  ⟨fun j hj hij => (get_set_other _ _ (by intro hh; subst hh; exact hij hi)).trans (r.old j hj hij), r.nx, r.ng, (get_set_other _ _ (by omega)).trans r.mrk, (get_set_other _ _ (by omega)).trans r.lp⟩
theorem Rng.setNew (r : Rng hB D ids K) (hid : hB.next + 2 ≤ id) : Rng hB D ids (K.set id o) :=
  ⟨fun j hj hij => (get_set_other _ _ (by omega)).trans (r.old j hj hij), r.nx, r.ng, (get_set_other _ _ (by omega)).trans r.mrk, (get_set_other _ _ (by omega)).trans r.lp⟩
theorem Rng.push (r : Rng hB D ids K) (o : DObj) : Rng hB D ids (K.push o) := r.ext (Ext.push1 _ _)
theorem Rng.loop (r : Rng hB D ids K) (D' : DLoop) : Rng hB D' ids (K.set (hB.next + 1) (.loop D')) :=
  ⟨fun j hj hij => (get_set_other _ _ (by omega)).trans (r.old j hj hij), r.nx, r.ng, (get_set_other _ _ (by omega)).trans r.mrk, get_set_same _ _⟩
theorem Rng.keep (r : Rng hB D ids K) (hn : K.next ≤ K'.next) (hg : K'.ng = K.ng) (h : ∀ j, j < hB.next + 2 → K'.get j = K.get j) : Rng hB D ids K' :=
  ⟨fun j hj hi => (h j (by omega)).trans (r.old j hj hi), Nat.le_trans r.nx hn, hg.trans r.ng, (h _ (by omega)).trans r.mrk, (h _ (by omega)).trans r.lp⟩
/-- what was there at h, under hB, and is not changed -/
theorem Rng.below {h : DHeap} (r : Rng hB D ids K) (e : Ext h hB) (hi : ∀ j, ids j → h.next ≤ j) : Ext h K :=
  ⟨Nat.le_trans e.next (by have := r.nx; omega), r.ng.trans e.ng, fun j hj => (r.old j (Nat.lt_of_lt_of_le hj e.next) (fun hh => by have := hi j hh; omega)).trans (e.get j hj)⟩
end
/-- a round, walked without its places -/
theorem Rt_walk {l size : Nat} {tmps : Fr} {fa fb sa sb : Code} {h : DHeap} {R : DEnd → DHeap → Prop} (ta : Go.D.strip fa = sa) (tb : Go.D.strip fb = sb) (ka : codeOK size sa = true) (kb : codeOK size sb = true)
    (hx : xs P size sa (DThen (fun s => ∃ d, s.h.get l = some (.loop d) ∧ d.state = .ready ∧ xs P size sb (XRoundPost l R) ⟨s.fr, s.df, s.h.set l (.loop { d with state := .busy, pending := d.pending }), s.rd⟩) fun _ _ => False) ⟨tmps, [], h, some l⟩) :
    Rt P l size tmps fa fb h R := by
  refine Rt_of (NC.strip ta ka (xs_mono _ _ (fun e s hq => ?_) hx))
  cases e with
  | normal =>
    obtain ⟨d, e1, e2, e3⟩ := hq
    exact ⟨trivial, d, e1, e2, NC.strip tb kb e3⟩
  | _ => exact hq.elim
/-- an outermost loop over a function that yields -/
theorem NC.range_yields {g : Operand} {ps : Array Tmp} {assign body : Code} {Q : DExit → St → Prop} {s : St} {fv : Value} {f : FuncId} {args : List Value} {A B : DHeap → Prop}
    (hrd : s.rd = none) (hg : evalF s.h.ng s.fr g = some fv)
    (ht : ∀ K, dTarget P fv [.func (.yield (s.h.next + 1)) #[] #[]] K = some (.enter f args))
    (hc : Ct P f args ((s.h.push (.marks true)).push (.loop ⟨nt, s.fr, ps, assign, body, s.h.next, .ready, none⟩)) fun r H => (∃ v, r = .ret v) ∧ (A H ∨ B H))
    (hA : ∀ H, A H → H.get (s.h.next + 1) = some (.loop ⟨nt, s.fr, ps, assign, body, s.h.next, .ready, none⟩) ∧ Q .normal ⟨s.fr, .mark s.h.next :: s.df, H.set (s.h.next + 1) (.loop ⟨nt, s.fr, ps, assign, body, s.h.next, .exhausted, none⟩), s.rd⟩)
    (hB : ∀ H, B H → H.get (s.h.next + 1) = some (.loop ⟨nt, s.fr, ps, assign, body, s.h.next, .done, some .ret⟩) ∧ Q .ret ⟨s.fr, .mark s.h.next :: s.df, H.set (s.h.next + 1) (.loop ⟨nt, s.fr, ps, assign, body, s.h.next, .exhausted, some .ret⟩), s.rd⟩) :
    NC P nt (.rangeFunc g ps assign body) Q s := by
  refine NC.range hrd hg rfl (ht _) hc fun r H hr => ?_
  obtain ⟨⟨v, rfl⟩, hr | hr⟩ := hr
  · obtain ⟨a, b⟩ := hA H hr
    exact ⟨_, a, by simp, b⟩
  · obtain ⟨a, b⟩ := hB H hr
    exact ⟨_, a, by simp, b⟩
theorem dTarget_func {f : FuncId} (hg : goodFn P f = true) (first cap : Array Value) (vs : List Value) (h : DHeap) : dTarget P (.func (.func f) first cap) vs h = some (.enter f (first.toList ++ vs ++ cap.toList)) := by
  simp [dTarget, hg]
end Go.D

namespace Go.Proofs.Ytlhgijpdhniddaa
open Go.D
set_option maxRecDepth 100000

end Go.Proofs.Ytlhgijpdhniddaa

namespace Go.Proofs.Ytlhgijpdhniddaa
open Go.D
set_option maxRecDepth 100000

theorem partsS_len (s : State) : (partsS s).length ≤ 65 ∧ ∀ x ∈ partsS s, x.data.length ≤ 4294967296 := by
  unfold partsS
  split
  · rename_i h0
    obtain ⟨hm, hlen, hbl⟩ := bytes0_of h0
    rw [partsL_len]
    refine ⟨by unfold manyL; omega, fun x hx => ?_⟩
    obtain ⟨i, hi, rfl⟩ := List.mem_map.1 hx
    simp only [pieceL, List.length_drop, List.length_take]
    omega
  · simp
/-- a loop over a function, as it stands in the heap -/
abbrev bldD (fr : Fr) (k : Nat) : DLoop := ⟨94, fr, #[59], fa26_0, fb26_0, k, .ready, none⟩
/-- what state.Build changes while it goes through the parts -/
def bldIds (a b c : Nat) (j : Nat) : Prop := j = a ∨ j = b ∨ j = c
/-- so far all parts are the same -/
def bldSo (ps l : List Part) (i : Nat) : Prop := ∀ j x, j < i → ps[j]? = some x → ∃ y, l[j]? = some y ∧ x.slot = y.slot ∧ x.data = y.data
structure BldI (hB : DHeap) (fr : Fr) (a b c : Nat) (ps l : List Part) (i : Nat) (K : DHeap) : Prop where
  r : Rng hB (bldD fr hB.next) (bldIds a b c) K
  ga : K.get a = some (.row zeroState 0 false)
  gb : K.get b = some (.row [.int .i64 0] 0 false)
  gc : K.get c = some (.row [.int .i64 (i : Nat)] 0 false)
  so : bldSo ps l i
theorem BldI.ext {hB : DHeap} {fr : Fr} {a b c : Nat} {ps l : List Part} {i : Nat} {K K' : DHeap} (s : BldI hB fr a b c ps l i K) (ha : a < hB.next) (hb : b < hB.next) (hc : c < hB.next) (e : Ext K K') : BldI hB fr a b c ps l i K' :=
  have hn := s.r.nx
  ⟨s.r.ext e, (e.get _ (by omega)).trans s.ga, (e.get _ (by omega)).trans s.gb, (e.get _ (by omega)).trans s.gc, s.so⟩
end Go.Proofs.Ytlhgijpdhniddaa

namespace Go.Proofs.Ytlhgijpdhniddaa
open Go.D
set_option maxRecDepth 100000

end Go.Proofs.Ytlhgijpdhniddaa

namespace Go.Proofs.Ytlhgijpdhniddaa
open Go.D
set_option maxRecDepth 100000

end Go.Proofs.Ytlhgijpdhniddaa

namespace Go.D
variable {P : Program} {nt : Nat}

/-- one operation -/
def NOne (P : Program) (ops : Array Oper) (o : Oper) (s : St) (K : St → Prop) (Q : DExit → St → Prop) : Prop :=
  match dWanted ops s.fr o with
  | none => False
  | some false => K ⟨s.fr.put o.dst undef, s.df, s.h, s.rd⟩
  | some true => NNext P o s (dOp P (evalF s.h.ng s.fr) o s.h) K Q
theorem NOne_sound {ops : Array Oper} (hd : dstsOK nt ops = true) {k : Nat} {o : Oper} (ho : ops[k]? = some o) {s : St} {K : St → Prop} {Q : DExit → St → Prop} (h : NOne P ops o s K Q)
    {n : Nat} {r : Option Nat} {ι : Inj} {a : Act} {w : World} {Qc : Exit → Act → World → Prop} {Kw : Act → World → Prop} (hs : SRel nt ι s r a w)
    (hK : ∀ ι' s' a' w', K s' → HStep s.h s'.h → SRel nt ι' s' r a' w' → Step ι ι' s.h s'.h w w' → Kw a' w')
    (hQ : ∀ ι' e s' ex a' w', Q e s' → HStep s.h s'.h → ExitRel ι' e ex → SRel nt ι' s' r a' w' → Step ι ι' s.h s'.h w w' → Qc ex a' w') : wpOpIn (FW r) n P ops Qc k Kw a w := by
  have hdo : ∀ d, o.dst = some d → d < nt := fun d h => dstsOK_spec hd k o d ho h
  -- one operation that needs no call
  have one : XOps P ops [o] s (fun e s' => match e with | .normal => K s' | e => Q e s') → wpOpIn (FW r) n P ops Qc k Kw a w := by
    intro hx
    have hw0 := hx
    simp only [XOps] at hx
    have fin : ∀ (v : Value) (h1 : DHeap), Ex P ops o s.fr s.h (.ret v) h1 → isDefer o.op = false → K ⟨s.fr.put o.dst v, s.df, h1, s.rd⟩ → wpOpIn (FW r) n P ops Qc k Kw a w := by
      intro v h1 hex hnd hh
      refine Ex_sound hex ho hnd hs.sim hs.fr.1 (dstsOK_spec hd) (fun t _ u hu => hs.fr.2 t u hu) (fun u hu ι' v' w' hv s1 st => ?_) (fun u hu => by cases hu)
      cases hu
      exact hK ι' _ _ w' hh (Ex_hstep hex) ⟨put_rel (r := r) (w := w) (hs.fr.mono st.le) hdo hv, by rw [put_defers]; exact hs.df.mono st.le, s1, hs.rd.mono st.le⟩ st
    have finp : ∀ (v : Value) (h1 : DHeap), Ex P ops o s.fr s.h (.pan v) h1 → isDefer o.op = false → Q (.pan v) ⟨s.fr, s.df, h1, s.rd⟩ → wpOpIn (FW r) n P ops Qc k Kw a w := by
      intro v h1 hex hnd hh
      refine Ex_sound hex ho hnd hs.sim hs.fr.1 (dstsOK_spec hd) (fun t _ u hu => hs.fr.2 t u hu) (fun u hu => by cases hu) (fun u hu ι' v' w' hv s1 st => ?_)
      cases hu
      exact hQ ι' _ ⟨s.fr, s.df, h1, s.rd⟩ _ a w' hh (Ex_hstep hex) ⟨v', rfl, hv⟩ ⟨hs.fr.mono st.le, hs.df.mono st.le, s1, hs.rd.mono st.le⟩ st
    cases hw : dWanted ops s.fr o with
    | none => rw [hw] at hx; exact hx.elim
    | some b =>
      rw [hw] at hx
      cases b with
      | false =>
        simp only [XOps] at hx
        unfold wpOpIn
        rw [ho]
        have hw' := wanted_rel hs.fr.1 (dstsOK_spec hd) (fun t _ u hu => hs.fr.2 t u hu) hw
        simp only [hw', Bool.false_eq_true, if_false]
        exact ⟨fun _ _ => trivial, hK ι _ _ w hx (.refl _) ⟨put_rel (r := r) (w := w) hs.fr hdo (undef_rel ι), by rw [put_defers]; exact hs.df, hs.sim, hs.rd⟩ (Step.refl ι _ w)⟩
      | true =>
        simp only at hx
        have hexd : ∀ r h1, (match dOp P (evalF s.h.ng s.fr) o s.h with
            | .ok (.value v) h1' => r = .ret v ∧ h1 = h1'
            | .ok .skip h1' => r = .ret undef ∧ h1 = h1'
            | .ok (.enter f args) h1' => DC P f args h1' r h1
            | .ok (.round l size tmps assign body) h1' => DRd P l size tmps assign body h1' r h1
            | .pan v h1' => r = .pan v ∧ h1 = h1'
            | _ => False) → Ex P ops o s.fr s.h r h1 := by
          intro r h1 hh; unfold Ex; rw [hw]; exact hh
        have hnd : ∀ x h1, dOp P (evalF s.h.ng s.fr) o s.h = .ok x h1 → (∀ f gs, x ≠ .defer f gs) → isDefer o.op = false := by
          intro x h1 hop hne
          cases hod : o.op with
          | defer c =>
            exfalso
            unfold dOp at hop
            rw [hod] at hop
            simp only at hop
            repeat' split at hop
            all_goals first
              | (cases hop; done)
              | (cases hop; exact hne _ _ rfl)
          | _ => rfl
        cases hop : dOp P (evalF s.h.ng s.fr) o s.h with
        | bad => rw [hop] at hx; exact hx.elim
        | pan v h1 =>
          rw [hop] at hx
          refine finp v h1 (hexd _ _ (by rw [hop]; exact ⟨rfl, rfl⟩)) ?_ hx
          cases hod : o.op with
          | defer c =>
            exfalso
            unfold dOp at hop
            rw [hod] at hop
            simp only at hop
            repeat' split at hop
            all_goals cases hop
          | _ => rfl
        | ok x h1 =>
          rw [hop] at hx
          cases x with
          | value v => exact fin v h1 (hexd _ _ (by rw [hop]; exact ⟨rfl, rfl⟩)) (hnd _ _ hop (by simp)) hx
          | skip => exact fin undef h1 (hexd _ _ (by rw [hop]; exact ⟨rfl, rfl⟩)) (hnd _ _ hop (by simp)) hx
          | enter f args =>
            obtain ⟨r0, h2, hdc, hx⟩ := hx
            have hex := hexd r0 h2 (by rw [hop]; exact hdc)
            cases r0 with
            | ret v => exact fin v h2 hex (hnd _ _ hop (by simp)) hx
            | pan v => exact finp v h2 hex (hnd _ _ hop (by simp)) hx
          | round l size tmps assign body =>
            obtain ⟨r0, h2, hdc, hx⟩ := hx
            have hex := hexd r0 h2 (by rw [hop]; exact hdc)
            cases r0 with
            | ret v => exact fin v h2 hex (hnd _ _ hop (by simp)) hx
            | pan v => exact finp v h2 hex (hnd _ _ hop (by simp)) hx
          | recover => exact hx.elim
          | defer f args =>
            obtain ⟨hrd, hx⟩ := hx
            have hr : r = none := by
              have := hs.rd
              rw [hrd] at this
              cases r with
              | none => rfl
              | some _ => exact this.elim
            subst hr
            unfold wpOpIn
            rw [ho]
            have hw' := wanted_rel hs.fr.1 (dstsOK_spec hd) (fun t _ u hu => hs.fr.2 t u hu) hw
            simp only [hw', if_true]
            refine ⟨fun _ _ => trivial, ?_⟩
            have hsem : o.semAt (FW none).round a.eval = execOp a.eval o := rfl
            rw [hsem]
            obtain ⟨ι1, w1, x', hrun, hn, s1, st⟩ := dOp_ok hop hs.sim (evalF_rel (P := P) hs.sim (a := a) (ops := ops) (fun t _ u hu => hs.fr.2 t u hu))
            rw [hrun]
            cases x' with
            | defer d =>
              rw [Oper.uponIn_defer]
              obtain ⟨hg, cap, dargs, rfl, hargs⟩ := hn
              refine hK ι1 _ _ w1 hx (dOp_hstep hop) ⟨?_, ?_, s1, hs.rd.mono st.le⟩ st
              · exact put_rel (r := none) (w := w) (a := { a with defers := { target := .fn (.func f) cap, args := dargs } :: a.defers }) (hs.fr.mono st.le) hdo (undef_rel _)
              · rw [put_defers]
                exact ⟨⟨cap, dargs, rfl, hargs⟩, hs.df.mono st.le⟩
            | _ => exact hn.elim
  unfold NOne at h
  cases hw : dWanted ops s.fr o with
  | none => rw [hw] at h; exact h.elim
  | some b =>
    rw [hw] at h
    cases b with
    | false => exact one (by simp only [XOps, hw]; exact h)
    | true =>
      simp only at h
      by_cases hent : ∃ f args h1, dOp P (evalF s.h.ng s.fr) o s.h = .ok (.enter f args) h1
      · obtain ⟨f, args, h1, hop⟩ := hent
        rw [hop] at h
        obtain ⟨R, hct, hall⟩ := h
        have hnd : isDefer o.op = false := by
          cases hod : o.op with
          | defer c =>
            exfalso
            unfold dOp at hop
            rw [hod] at hop
            simp only at hop
            repeat' split at hop
            all_goals cases hop
          | _ => rfl
        unfold wpOpIn
        rw [ho]
        have hw' := wanted_rel hs.fr.1 (dstsOK_spec hd) (fun t _ u hu => hs.fr.2 t u hu) hw
        simp only [hw', if_true]
        refine ⟨fun _ _ => trivial, ?_⟩
        have hsem : o.semAt (FW r).round a.eval = execOp a.eval o := Oper.semAt_eq _ _ _ fun c hc => by rw [hc] at hnd; cases hnd
        rw [hsem]
        obtain ⟨ι1, w1, x', hrun, hn, s1, st⟩ := dOp_ok hop hs.sim (evalF_rel (P := P) hs.sim (a := a) (ops := ops) (fun t _ u hu => hs.fr.2 t u hu))
        rw [hrun]
        cases x' with
        | enter f' args' =>
          obtain ⟨rfl, hargs, _⟩ := hn
          rw [Oper.uponIn_enter]
          refine ⟨fun hh => absurd hh (by simp [FW]), ?_⟩
          have hc : CallsIn (FW r) (n - 1) P f' args' w1 fun e w' => ∃ ι' r h', R r h' ∧ HStep h1 h' ∧ EndRel ι' r e ∧ Sim ι' h' w' ∧ Step ι1 ι' h1 h' w1 w' := hct (n - 1) ι1 w1 args' s1 hargs
          refine CallsIn.mono hc fun e w2 ⟨ι2, r2, h2, hR, hh2, he, s2, st2⟩ => ?_
          have hx := hall r2 h2 hR
          cases r2 with
          | ret v =>
            cases e with
            | returned v' =>
              exact hK ι2 _ _ w2 hx ((dOp_hstep hop).trans hh2) ⟨put_rel (r := r) (w := w) ((hs.fr.mono st.le).mono st2.le) hdo he, by rw [put_defers]; exact (hs.df.mono st.le).mono st2.le, s2, (hs.rd.mono st.le).mono st2.le⟩ (st.trans st2)
            | _ => exact he.elim
          | pan v =>
            cases e with
            | panicked ch =>
              obtain ⟨v', rfl, hv⟩ := he
              exact hQ ι2 _ ⟨s.fr, s.df, h2, s.rd⟩ _ a w2 hx ((dOp_hstep hop).trans hh2) ⟨v', rfl, hv⟩ ⟨(hs.fr.mono st.le).mono st2.le, (hs.df.mono st.le).mono st2.le, s2, (hs.rd.mono st.le).mono st2.le⟩ (st.trans st2)
            | _ => exact he.elim
        | _ => exact hn.elim
      · by_cases hrnd : ∃ l size tmps x y h1, dOp P (evalF s.h.ng s.fr) o s.h = .ok (.round l size tmps x y) h1
        · obtain ⟨lid, size, tmps, cx, cy, h1, hop⟩ := hrnd
          rw [hop] at h
          obtain ⟨R, hct, hall⟩ := h
          have hnd : isDefer o.op = false := by
            cases hod : o.op with
            | defer c =>
              exfalso
              unfold dOp at hop
              rw [hod] at hop
              simp only at hop
              repeat' split at hop
              all_goals cases hop
            | _ => rfl
          unfold wpOpIn
          rw [ho]
          have hw' := wanted_rel hs.fr.1 (dstsOK_spec hd) (fun t _ u hu => hs.fr.2 t u hu) hw
          simp only [hw', if_true]
          refine ⟨fun _ _ => trivial, ?_⟩
          have hsem : o.semAt (FW r).round a.eval = execOp a.eval o := Oper.semAt_eq _ _ _ fun c hc => by rw [hc] at hnd; cases hnd
          rw [hsem]
          obtain ⟨ι1, w1, x', hrun, hn, s1, st⟩ := dOp_ok hop hs.sim (evalF_rel (P := P) hs.sim (a := a) (ops := ops) (fun t _ u hu => hs.fr.2 t u hu))
          rw [hrun]
          cases x' with
          | round l' f' tmps' assign' body' =>
            obtain ⟨⟨e0, he0, hsh, rfl⟩, hargs, rfl, rfl⟩ := hn
            rw [Oper.uponIn_round]
            refine ⟨fun hh => absurd hh (by simp [FW]), ?_⟩
            have hc : RoundIn (FW r) (n - 1) P e0.block f' tmps' assign' body' w1 fun e w' => ∃ ι' r h', R r h' ∧ HStep h1 h' ∧ EndRel ι' r e ∧ Sim ι' h' w' ∧ Step ι1 ι' h1 h' w1 w' := hct (n - 1) ι1 w1 tmps' e0 f' s1 he0 hsh hargs
            refine RoundIn.mono hc fun e w2 ⟨ι2, r2, h2, hR, hh2, he, s2, st2⟩ => ?_
            have hx := hall r2 h2 hR
            cases r2 with
            | ret v =>
              cases e with
              | returned v' =>
                exact hK ι2 _ _ w2 hx ((dOp_hstep hop).trans hh2) ⟨put_rel (r := r) (w := w) ((hs.fr.mono st.le).mono st2.le) hdo he, by rw [put_defers]; exact (hs.df.mono st.le).mono st2.le, s2, (hs.rd.mono st.le).mono st2.le⟩ (st.trans st2)
              | _ => exact he.elim
            | pan v =>
              cases e with
              | panicked ch =>
                obtain ⟨v', rfl, hv⟩ := he
                exact hQ ι2 _ ⟨s.fr, s.df, h2, s.rd⟩ _ a w2 hx ((dOp_hstep hop).trans hh2) ⟨v', rfl, hv⟩ ⟨(hs.fr.mono st.le).mono st2.le, (hs.df.mono st.le).mono st2.le, s2, (hs.rd.mono st.le).mono st2.le⟩ (st.trans st2)
              | _ => exact he.elim
          | _ => exact hn.elim
        · refine one ?_
          simp only [XOps, hw]
          generalize hop : dOp P (evalF s.h.ng s.fr) o s.h = x at h hent hrnd
          cases x with
          | ok y h1 =>
            cases y with
            | enter f args => exact absurd ⟨f, args, h1, rfl⟩ hent
            | value v => exact h
            | skip => exact h
            | defer f gs => exact h
            | round l z t a b => exact absurd ⟨l, z, t, a, b, h1, rfl⟩ hrnd
            | recover => exact h
          | pan v h1 => exact h
          | bad => exact h

/-- a region in any order: what holds when some operations have been done, whichever -/
theorem NC.any {id : Nat} {ops : Array Oper} {Q : DExit → St → Prop} {s : St} (hmix : P.follows .mixedOrders = true) (hd : dstsOK nt ops = true)
    (hlow : ∀ (i : Nat) o, ops[i]? = some o → ∀ p ∈ preds o, p < i)
    (I : (Nat → Bool) → St → Prop) (h0 : I (fun _ => false) s)
    (hstep : ∀ (L : Nat → Bool) (s : St) (i : Nat) (o : Oper), I L s → ops[i]? = some o → L i = false → (∀ p ∈ preds o, L p = true) → NOne P ops o s (I fun j => if j = i then true else L j) Q)
    (hfin : ∀ (L : Nat → Bool) (s : St), I L s → (∀ i, i < ops.size → L i = true) → Q .normal s) : NC P nt (.region id ops true) Q s := by
  intro n r ι0 a0 w0 hs0
  refine wpIn_region_any hmix ?_
  have key : ∀ (fuel : Nat) (L : Array Bool) (s' : St) (ι : Inj) (a : Act) (w : World), unwaited L ops.size ≤ fuel → L.size = ops.size → I (fun j => L.getD j false) s' → HStep s.h s'.h → SRel nt ι s' r a w → Step ι0 ι s.h s'.h w0 w →
      wpAnyIn (FW r) n P .any ops (fun ex a' w' => ∃ ι' e s', Q e s' ∧ HStep s.h s'.h ∧ ExitRel ι' e ex ∧ SRel nt ι' s' r a' w' ∧ Step ι0 ι' s.h s'.h w0 w') fuel L a w := by
    have fin : ∀ (L : Array Bool) (s' : St) (ι : Inj) (a : Act) (w : World), L.size = ops.size → I (fun j => L.getD j false) s' → HStep s.h s'.h → SRel nt ι s' r a w → Step ι0 ι s.h s'.h w0 w → Region.ready .any ops L = [] →
        ∃ ι' e s', Q e s' ∧ HStep s.h s'.h ∧ ExitRel ι' e .normal ∧ SRel nt ι' s' r a w ∧ Step ι0 ι' s.h s'.h w0 w := by
      intro L s' ι a w hL hI hh hs hst hr
      have hfull : ∀ i, i < ops.size → L.getD i false = true := by
        intro i
        induction i using Nat.strongRecOn with
        | _ i ih =>
          intro hi
          cases hLi : L.getD i false with
          | true => rfl
          | false =>
            exfalso
            have : i ∈ Region.ready .any ops L := mem_ready.2 ⟨by rw [getD_ft (by rw [hL]; exact hi)]; exact hLi, ops[i], Array.getElem?_eq_getElem hi, fun e he hb => ?_⟩
            · rw [hr] at this; cases this
            · have hpm : e.on ∈ preds ops[i] := List.mem_filterMap.2 ⟨e, by simpa using he, by rw [if_pos hb]⟩
              have hlt := hlow i _ (Array.getElem?_eq_getElem hi) _ hpm
              exact ih e.on hlt (by omega)
      exact ⟨ι, .normal, s', hfin _ _ hI hfull, hh, trivial, hs, hst⟩
    intro fuel
    induction fuel with
    | zero =>
      intro L s' ι a w hu hL hI hh hs hst
      have hr : Region.ready .any ops L = [] := by
        rw [List.eq_nil_iff_forall_not_mem]
        intro i hi
        obtain ⟨h1, o, h2, _⟩ := mem_ready.1 hi
        have := unwaited_zero (l := L) ops.size (by omega) i (Array.getElem?_eq_some_iff.1 h2).1
        rw [h1] at this; cases this
      exact ⟨hr, fin L s' ι a w hL hI hh hs hst hr⟩
    | succ fuel ih =>
      intro L s' ι a w hu hL hI hh hs hst
      refine ⟨fin L s' ι a w hL hI hh hs hst, fun i hi => ?_⟩
      obtain ⟨h1, o, ho, h2⟩ := mem_ready.1 hi
      have his : i < ops.size := (Array.getElem?_eq_some_iff.1 ho).1
      have hiL : i < L.size := by rw [hL]; exact his
      have hn : L.getD i false = false := by rw [← getD_ft hiL]; exact h1
      have hp : ∀ p ∈ preds o, L.getD p false = true := by
        intro p hp
        obtain ⟨e, he, hh⟩ := List.mem_filterMap.1 hp
        split at hh
        · rename_i hb; cases hh; exact h2 e (by simpa using he) hb
        · cases hh
      have hun := unwaited_set hiL h1 ops.size
      rw [if_pos his] at hun
      refine NOne_sound hd ho (hstep _ s' i o hI ho hn hp) hs (fun ι' s2 a' w' hI2 g1 g2 g3 => ?_) (fun ι' e s2 ex a' w' hq g1 g2 g3 g4 => ⟨ι', e, s2, hq, hh.trans g1, g2, g3, hst.trans g4⟩)
      refine ih _ s2 ι' a' w' (by omega) (by simpa using hL) ?_ (hh.trans g1) g2 (hst.trans g3)
      have : (fun j => (L.setIfInBounds i true).getD j false) = fun j => if j = i then true else L.getD j false := by
        funext j
        exact getD_set_b hiL
      rw [this]
      exact hI2
  have hg : ∀ j, (Array.replicate ops.size false).getD j false = false := by
    intro j; simp only [Array.getD_eq_getD_getElem?, Array.getElem?_replicate]; split <;> rfl
  refine key ops.size _ s ι0 a0 _ ?_ (by simp) ?_ (.refl _) ⟨hs0.fr, hs0.df, hs0.sim.drew _, hs0.rd⟩ (Step.drew ι0 s.h w0 _)
  · have : ∀ k, k ≤ ops.size → unwaited (Array.replicate ops.size false) k ≤ k := by
      intro k; induction k with
      | zero => intro _; exact Nat.le_refl _
      | succ k ih => intro hk; have := ih (Nat.le_of_lt hk); simp only [unwaited]; split <;> omega
    exact this _ (Nat.le_refl _)
  · have : (fun j => (Array.replicate ops.size false).getD j false) = fun _ => false := by funext j; exact hg j
    rw [this]
    exact h0
def lowOK (ops : Array Oper) : Bool := (List.range ops.size).all fun i => match ops[i]? with | some o => (preds o).all (fun p => decide (p < i)) | none => true
theorem lowOK_spec {ops : Array Oper} (h : lowOK ops = true) : ∀ (i : Nat) o, ops[i]? = some o → ∀ p ∈ preds o, p < i := by
  intro i o ho p hp
  have hi := (Array.getElem?_eq_some_iff.1 ho).1
  have := List.all_eq_true.1 h i (List.mem_range.2 hi)
  rw [ho] at this
  simpa using List.all_eq_true.1 this p hp
/-- a region in any order: a fact for each operation that has been done, and what holds always. 'b' is what comes before each operation in every order. -/
theorem NC.anyF {id : Nat} {ops : Array Oper} {b : List Nat} {Q : DExit → St → Prop} {s : St} (hmix : P.follows .mixedOrders = true) (hd : dstsOK nt ops = true) (hlow : lowOK ops = true) (hb : befs ops.toList [] = b)
    (G : St → Prop) (F : Nat → St → Prop) (h0 : G s)
    (hstep : ∀ (i : Nat) (o : Oper) (s : St), ops[i]? = some o → G s → (∀ j, (b.getD i 0).testBit j = true → F j s) →
      NOne P ops o s (fun s' => G s' ∧ F i s' ∧ ∀ j, j < ops.size → j ≠ i → (b.getD j 0).testBit i = false → F j s → F j s') Q)
    (hfin : ∀ s, G s → (∀ i, i < ops.size → F i s) → Q .normal s) : NC P nt (.region id ops true) Q s := by
  subst hb
  refine NC.any hmix hd (lowOK_spec hlow) (fun L s => G s ∧ (∀ i, L i = true → i < ops.size) ∧ (∀ (i : Nat) o, L i = true → ops[i]? = some o → ∀ p ∈ preds o, L p = true) ∧ ∀ i, L i = true → F i s) ⟨h0, by simp, by simp, by simp⟩ ?_ (fun L s hI hall => hfin s hI.1 fun i hi => hI.2.2.2 i (hall i hi))
  rintro L s i o ⟨hG, hsz, hdn, hF⟩ ho hn hp
  have hi := (Array.getElem?_eq_some_iff.1 ho).1
  have hcl : ∀ (k : Nat) o, ops[k]? = some o → (∀ p ∈ preds o, L p = true) → ∀ j, ((befs ops.toList []).getD k 0).testBit j = true → L j = true := fun k o ho hp j hj =>
    bef_closed (D := fun j => L j = true) (fun i o hi ho p hp => hdn i o hi ho p hp) k o ho hp j hj
  have hx := hstep i o s ho hG fun j hj => hF j (hcl i o ho hp j hj)
  have fin : ∀ s', (G s' ∧ F i s' ∧ ∀ j, j < ops.size → j ≠ i → ((befs ops.toList []).getD j 0).testBit i = false → F j s → F j s') →
      (G s' ∧ (∀ j, (if j = i then true else L j) = true → j < ops.size) ∧ (∀ (j : Nat) o, (if j = i then true else L j) = true → ops[j]? = some o → ∀ p ∈ preds o, (if p = i then true else L p) = true) ∧ ∀ j, (if j = i then true else L j) = true → F j s') := by
    rintro s' ⟨g, f, st⟩
    refine ⟨g, fun j hj => ?_, fun j oj hj hoj p hpm => ?_, fun j hj => ?_⟩
    · by_cases hji : j = i
      · rw [hji]; exact hi
      · rw [if_neg hji] at hj; exact hsz j hj
    · by_cases hpi : p = i
      · rw [if_pos hpi]
      · rw [if_neg hpi]
        by_cases hji : j = i
        · subst hji; rw [ho] at hoj; cases hoj; exact hp p hpm
        · rw [if_neg hji] at hj; exact hdn j oj hj hoj p hpm
    · by_cases hji : j = i
      · rw [hji]; exact f
      · rw [if_neg hji] at hj
        refine st j (hsz j hj) hji ?_ (hF j hj)
        cases hbit : ((befs ops.toList []).getD j 0).testBit i with
        | false => rfl
        | true =>
          have hjs := hsz j hj
          have hoj := Array.getElem?_eq_getElem hjs
          have := hcl j _ hoj (hdn j _ hj hoj) i hbit
          rw [hn] at this
          cases this
  unfold NOne at hx ⊢
  cases hw : dWanted ops s.fr o with
  | none => rw [hw] at hx; exact hx.elim
  | some bb =>
    rw [hw] at hx
    cases bb with
    | false => exact fin _ hx
    | true => exact NNext_mono fin (fun _ _ h => h) hx
section
variable {ops : Array Oper} {o : Oper} {s : St} {K : St → Prop} {Q : DExit → St → Prop} {v : Value} {h' : DHeap}
end
theorem NOne_strip (ops : Array Oper) (o : Oper) (s : St) (K : St → Prop) (Q : DExit → St → Prop) : NOne P (ops.map stripO) (stripO o) s K Q = NOne P ops o s K Q := by
  unfold NOne
  rw [dWanted_strip, dOp_strip]
  rfl
/-- the same, without the places -/
theorem NC.anyL {id : Nat} {ops : Array Oper} {l : List Oper} {b : List Nat} {Q : DExit → St → Prop} {s : St} (hmix : P.follows .mixedOrders = true) (hd : dstsOK nt ops = true) (hlow : lowOK ops = true) (hb : befs ops.toList [] = b) (hl : ops.map stripO = l.toArray)
    (G : St → Prop) (F : Nat → St → Prop) (h0 : G s)
    (hstep : ∀ (i : Nat) (o : Oper) (s : St), l[i]? = some o → G s → (∀ j, (b.getD i 0).testBit j = true → F j s) →
      NOne P l.toArray o s (fun s' => G s' ∧ F i s' ∧ ∀ j, j < l.length → j ≠ i → (b.getD j 0).testBit i = false → F j s → F j s') Q)
    (hfin : ∀ s, G s → (∀ i, i < l.length → F i s) → Q .normal s) : NC P nt (.region id ops true) Q s := by
  have hsz : ops.size = l.length := by
    have := congrArg Array.size hl
    simpa using this
  refine NC.anyF hmix hd hlow hb G F h0 (fun i o s ho g hF => ?_) (fun s g hF => hfin s g fun i hi => hF i (by omega))
  have ho' : l[i]? = some (stripO o) := by
    have := congrArg (fun a : Array Oper => a[i]?) hl
    simp only [Array.getElem?_map, ho, Option.map_some] at this
    simpa using this.symm
  have := hstep i (stripO o) s ho' g hF
  rw [← hl, NOne_strip] at this
  rw [hsz]
  exact this
end Go.D

namespace Go.Proofs.Ytlhgijpdhniddaa
open Go.D
set_option maxRecDepth 100000

abbrev resCells (x : Res) (v : Value) : List Value := [.int .i64 x.e, v, .int .i64 x.s, .int .i64 x.p]
abbrev ptrV (id o : Nat) : Value := .pointer (some ⟨id, o, none⟩)
def SrF (h : DHeap) (A B : Nat) (ra rb : Res) (va vb : Value) (i : Nat) (s : St) : Prop :=
  match i with
  | 0 => s.fr 7 = some (ptrV A 2)
  | 1 => s.fr 8 = some (resV ra va)
  | 2 => s.fr 9 = some (ptrV B 2)
  | 3 => s.fr 10 = some (resV rb vb)
  | 4 => ∃ p cs, s.fr 5 = some (ptrV p 0) ∧ h.next ≤ p ∧ s.h.get p = some (.row cs 0 false) ∧ cs.length = 4
  | 5 => ∃ p cs, s.fr 6 = some (ptrV p 0) ∧ h.next ≤ p ∧ s.h.get p = some (.row cs 0 false) ∧ cs.length = 4
  | 6 => ∃ p, s.fr 5 = some (ptrV p 0) ∧ h.next ≤ p ∧ s.h.get p = some (.row (resCells ra va) 0 false)
  | 7 => ∃ p, s.fr 6 = some (ptrV p 0) ∧ h.next ≤ p ∧ s.h.get p = some (.row (resCells rb vb) 0 false)
  | _ => True
structure SrG (h : DHeap) (fr : Fr) (s : St) : Prop where
  df : s.df = []
  rd : s.rd = none
  ext : Ext h s.h
  f2 : s.fr 2 = fr 2
  f3 : s.fr 3 = fr 3
  f4 : s.fr 4 = fr 4
  ne : ∀ p q, s.fr 5 = some (ptrV p 0) → s.fr 6 = some (ptrV q 0) → p ≠ q
  l5 : ∀ p, s.fr 5 = some (ptrV p 0) → p < s.h.next
  l6 : ∀ p, s.fr 6 = some (ptrV p 0) → p < s.h.next
def srDst : Nat → Nat
  | 0 => 7 | 1 => 8 | 2 => 9 | 3 => 10 | 4 => 5 | 5 => 6 | 6 => 5 | 7 => 6 | _ => 0
theorem SrF.keep {h : DHeap} {A B : Nat} {ra rb : Res} {va vb : Value} {fr : Fr} {s s' : St} {d : Nat} (g : SrG h fr s) (e : Ext s.h s'.h) (hd : ∀ t, t ≠ d → s'.fr t = s.fr t) (j : Nat) (hj : srDst j ≠ d) (f : SrF h A B ra rb va vb j s) : SrF h A B ra rb va vb j s' := by
  match j with
  | 0 => exact (hd _ hj).trans f
  | 1 => exact (hd _ hj).trans f
  | 2 => exact (hd _ hj).trans f
  | 3 => exact (hd _ hj).trans f
  | 4 =>
    obtain ⟨p, cs, f1, f2, f3, f4⟩ := f
    exact ⟨p, cs, (hd _ hj).trans f1, f2, (e.get _ (g.l5 p f1)).trans f3, f4⟩
  | 5 =>
    obtain ⟨p, cs, f1, f2, f3, f4⟩ := f
    exact ⟨p, cs, (hd _ hj).trans f1, f2, (e.get _ (g.l6 p f1)).trans f3, f4⟩
  | 6 =>
    obtain ⟨p, f1, f2, f3⟩ := f
    exact ⟨p, (hd _ hj).trans f1, f2, (e.get _ (g.l5 p f1)).trans f3⟩
  | 7 =>
    obtain ⟨p, f1, f2, f3⟩ := f
    exact ⟨p, (hd _ hj).trans f1, f2, (e.get _ (g.l6 p f1)).trans f3⟩
  | _ + 8 => trivial
/-- a name is given a value, and the heap stays -/
theorem SrG.put {h : DHeap} {fr : Fr} {s : St} {d : Nat} {v : Value} (g : SrG h fr s) (hd : d = 7 ∨ d = 8 ∨ d = 9 ∨ d = 10) : SrG h fr ⟨s.fr.put (some d) v, s.df, s.h, s.rd⟩ := by
  have k : ∀ t, t < 7 → s.fr.put (some d) v t = s.fr t := fun t ht => put_other _ _ (by omega)
  exact ⟨g.df, g.rd, g.ext, (k _ (by decide)).trans g.f2, (k _ (by decide)).trans g.f3, (k _ (by decide)).trans g.f4, fun p q h1 h2 => g.ne p q ((k _ (by decide)).symm.trans h1) ((k _ (by decide)).symm.trans h2), fun p h1 => g.l5 p ((k _ (by decide)).symm.trans h1), fun p h1 => g.l6 p ((k _ (by decide)).symm.trans h1)⟩
end Go.Proofs.Ytlhgijpdhniddaa

namespace Go.Proofs.Ytlhgijpdhniddaa
open Go.D
set_option maxRecDepth 100000

end Go.Proofs.Ytlhgijpdhniddaa

namespace Go.Proofs.Ytlhgijpdhniddaa
open Go.D
set_option maxRecDepth 100000

end Go.Proofs.Ytlhgijpdhniddaa

namespace Go.Proofs.Ytlhgijpdhniddaa
open Go.D
set_option maxRecDepth 100000

end Go.Proofs.Ytlhgijpdhniddaa

namespace Go.D
variable {P : Program}

/-- what a type of elements is, for a slice that is made: its size, how many bytes -/
def mkT (P : Program) (t : TypeId) : Option (Nat × Nat) :=
  match P.underlying t with
  | some (.slice e) =>
    match P.info? e with
    | some i =>
      match i.zero with
      | some z => if 0 < i.size ∧ z.cells.toList.all flat1 = true ∧ z.cells.size = i.size then some (i.size, i.bytes) else none
      | none => none
    | none => none
  | _ => none
theorem dMakeSlice_at {t : TypeId} {z b : Nat} {k k' : IntKind} {n : Nat} {h : DHeap} (hT : mkT P t = some (z, b)) (hb : b ≤ 32768) (hn : n ≤ 4294967296) :
    ∃ Z : List Value, Z.length = n * z ∧ dMakeSlice P t (.int k (n : Nat)) (.int k' (n : Nat)) h = some (.slice (some ⟨h.next, 0, none⟩) n n, h.push (.row Z z false)) := by
  unfold mkT at hT
  split at hT
  · rename_i e e1
    split at hT
    · rename_i i e2
      split at hT
      · rename_i zv e3
        split at hT
        · rename_i hc
          simp only [Option.some.injEq, Prod.mk.injEq] at hT
          obtain ⟨rfl, rfl⟩ := hT
          refine ⟨(rowZeros zv.cells (n * i.size)).toList, ?_, ?_⟩
          · simp [rowZeros]
          · have hbn : i.bytes * n ≤ 32768 * 4294967296 := Nat.mul_le_mul hb hn
            have hbi : (i.bytes : Int) * (n : Int) ≤ 2 ^ 48 := by
              have : ((i.bytes * n : Nat) : Int) ≤ 2 ^ 48 := by omega
              rw [← Int.natCast_mul]
              exact this
            simp only [dMakeSlice, e1, e2, e3]
            rw [if_pos ⟨by omega, by omega, by omega, hbi, hc.1, hc.2.1, hc.2.2⟩]
            simp
        · cases hT
      · cases hT
    · cases hT
  · cases hT
theorem dCopy_at {α : Type} {R : Rep α} {S : Nat → Prop} {h : DHeap} {ts : Array TypeId} {t : TypeId} {x : Value} {l : List α} {id c esz : Nat} {cells : List Value} (ht : ts[0]? = some t) (hz : slElem P t = some R.z) (hs : Sl R S h x l) (hg : h.get id = some (.row cells esz false)) (hl : cells.length = l.length * R.z) :
    ∃ new, Els R S h new l ∧ dCopy P ts (.slice (some ⟨id, 0, none⟩) l.length c) x h = some (.int .i64 (l.length : Nat), h.set id (.row new esz false)) := by
  obtain ⟨new, e1, e2⟩ := hs.src
  refine ⟨new, e2, ?_⟩
  have hn := e2.len
  have h1 := e2.one
  obtain ⟨xa, xc, hx⟩ := hs.isSlice
  have hlen : D.lenV x = some l.length := by rw [hx]; rfl
  unfold slElem at hz
  split at hz
  · rename_i e e3
    cases e4 : P.info? e with
    | none => rw [e4] at hz; cases hz
    | some inf =>
      rw [e4] at hz
      have hsz : inf.size = R.z := by simpa using hz
      have e1' : srcCells inf.size (Nat.min l.length l.length) x h = some new := by rw [hsz]; simpa using e1
      simp only [dCopy, ht, e3, e4, hlen, e1', hg]
      rw [if_pos ⟨by omega, h1⟩]
      have : setAt cells 0 new = new := by
        refine List.ext_getElem? fun i => ?_
        rw [setAt_get]
        by_cases hi : i < new.length
        · rw [if_pos ⟨Nat.zero_le _, by omega, by omega⟩]; simp
        · rw [if_neg (by omega), List.getElem?_eq_none (by omega), List.getElem?_eq_none (by omega)]
      rw [this]
      simp [goInt_eq]
  · cases hz
end Go.D

namespace Go.D
variable {P : Program} {nt : Nat}

def dstOf (l : List Oper) (i : Nat) : Option Tmp := (l[i]?).bind (·.dst)
def isDst (l : List Oper) (t : Tmp) : Bool := l.any fun o => o.dst == some t
/-- each operation has a name of its own -/
def ownDsts : List Oper → Bool
  | [] => true
  | o :: l => o.dst.isSome && !(l.any fun p => p.dst == o.dst) && ownDsts l
theorem ownDsts_ne : ∀ {l : List Oper}, ownDsts l = true → ∀ {i j : Nat} {a b : Oper}, l[i]? = some a → l[j]? = some b → i ≠ j → a.dst ≠ b.dst
  | [], _, i, _, _, _, h, _, _ => by cases i <;> cases h
  | o :: l, hd, i, j, a, b, ha, hb, hij => by
    simp only [ownDsts, Bool.and_eq_true, Bool.not_eq_true'] at hd
    obtain ⟨⟨h1, h2⟩, h3⟩ := hd
    have hno : ∀ {k : Nat} {c : Oper}, l[k]? = some c → c.dst ≠ o.dst := fun {k c} hc hcd => by
      have := List.any_eq_false.1 h2 c (List.mem_of_getElem? hc)
      simp [hcd] at this
    match i, j with
    | 0, 0 => exact absurd rfl hij
    | 0, j + 1 => cases ha; exact fun e => hno (by simpa using hb) e.symm
    | i + 1, 0 => cases hb; exact hno (by simpa using ha)
    | i + 1, j + 1 => exact ownDsts_ne h3 (i := i) (j := j) (by simpa using ha) (by simpa using hb) (by omega)
theorem ownDsts_some : ∀ {l : List Oper}, ownDsts l = true → ∀ {i : Nat} {a : Oper}, l[i]? = some a → ∃ d, a.dst = some d
  | [], _, i, _, h => by cases i <;> cases h
  | o :: l, hd, i, a, ha => by
    simp only [ownDsts, Bool.and_eq_true, Bool.not_eq_true'] at hd
    match i with
    | 0 => cases ha; exact Option.isSome_iff_exists.1 hd.1.1
    | i + 1 => exact ownDsts_some hd.2 (by simpa using ha)
/-- what holds of an operation's value -/
def ValAt (l : List Oper) (V : Nat → DHeap → Value → Prop) (i : Nat) (s : St) : Prop := ∃ d v, dstOf l i = some d ∧ s.fr d = some v ∧ V i s.h v
/-- what holds always -/
structure ValG (l : List Oper) (s0 s : St) : Prop where
  df : s.df = s0.df
  rd : s.rd = s0.rd
  ext : Ext s0.h s.h
  fr : ∀ t, isDst l t = false → s.fr t = s0.fr t
/-- the end of one operation -/
def ValK (V : Nat → DHeap → Value → Prop) (i : Nat) (o : Oper) (s s' : St) : Prop := ∃ v h', s' = ⟨s.fr.put o.dst v, s.df, h', s.rd⟩ ∧ Ext s.h h' ∧ V i h' v
theorem NC.vals {id : Nat} {ops : Array Oper} {l : List Oper} {b : List Nat} {Q : DExit → St → Prop} {s0 : St} (hmix : P.follows .mixedOrders = true) (hd : dstsOK nt ops = true) (hlow : lowOK ops = true) (hb : befs ops.toList [] = b) (hl : ops.map stripO = l.toArray) (hown : ownDsts l = true)
    (V : Nat → DHeap → Value → Prop) (hmono : ∀ i h h' v, Ext h h' → V i h v → V i h' v)
    (hstep : ∀ (i : Nat) (o : Oper) (s : St), l[i]? = some o → ValG l s0 s → (∀ j, (b.getD i 0).testBit j = true → ValAt l V j s) → NOne P l.toArray o s (ValK V i o s) Q)
    (hfin : ∀ s, ValG l s0 s → (∀ i, i < l.length → ValAt l V i s) → Q .normal s) : NC P nt (.region id ops true) Q s0 := by
  refine NC.anyL hmix hd hlow hb hl (ValG l s0) (ValAt l V) ⟨rfl, rfl, .refl _, fun _ _ => rfl⟩ (fun i o s ho g hF => ?_) hfin
  obtain ⟨d, hod⟩ := ownDsts_some hown ho
  have fin : ∀ s', ValK V i o s s' → ValG l s0 s' ∧ ValAt l V i s' ∧ ∀ j, j < l.length → j ≠ i → (b.getD j 0).testBit i = false → ValAt l V j s → ValAt l V j s' := by
    rintro _ ⟨v, h', rfl, he, hv⟩
    refine ⟨⟨g.df, g.rd, g.ext.trans he, fun t ht => ?_⟩, ⟨d, v, by simp [dstOf, ho, hod], by rw [hod]; exact put_same _ _ _, hv⟩, fun j hj hji _ hf => ?_⟩
    · have : t ≠ d := fun e => by
        have hc : isDst l t = true := List.any_eq_true.2 ⟨o, List.mem_of_getElem? ho, by rw [hod, e]; simp⟩
        rw [ht] at hc; cases hc
      show s.fr.put o.dst v t = _
      rw [hod, put_other _ _ this]
      exact g.fr t ht
    · obtain ⟨dj, u, e1, e2, e3⟩ := hf
      have hoj : l[j]? = some l[j] := List.getElem?_eq_getElem hj
      have e1' : l[j].dst = some dj := by simpa [dstOf, hoj] using e1
      have : dj ≠ d := fun e => ownDsts_ne hown hoj ho hji (by rw [e1', hod, e])
      refine ⟨dj, u, e1, ?_, hmono _ _ _ _ he e3⟩
      show s.fr.put o.dst v dj = _
      rw [hod, put_other _ _ this]
      exact e2
  have hx := hstep i o s ho g hF
  unfold NOne at hx ⊢
  cases hw : dWanted l.toArray s.fr o with
  | none => rw [hw] at hx; exact hx.elim
  | some bb =>
    rw [hw] at hx
    cases bb with
    | false => exact fin _ hx
    | true => exact NNext_mono fin (fun _ _ h => h) hx
/-- what an operation's value is, if it is known -/
theorem ValAt.eq {l : List Oper} {V : Nat → DHeap → Value → Prop} {i : Nat} {s : St} {d : Tmp} {c : Value} (a : ValAt l V i s) (hd : dstOf l i = some d) (hc : ∀ h v, V i h v → v = c) : s.fr d = some c := by
  obtain ⟨d', v, e1, e2, e3⟩ := a
  rw [hd] at e1
  cases e1
  rw [e2, hc _ _ e3]
theorem ValAt.ex {l : List Oper} {V : Nat → DHeap → Value → Prop} {i : Nat} {s : St} {d : Tmp} (a : ValAt l V i s) (hd : dstOf l i = some d) : ∃ v, s.fr d = some v ∧ V i s.h v := by
  obtain ⟨d', v, e1, e2, e3⟩ := a
  rw [hd] at e1
  cases e1
  exact ⟨v, e2, e3⟩
section
variable {ops : Array Oper} {o : Oper} {s : St} {V : Nat → DHeap → Value → Prop} {i : Nat} {Q : DExit → St → Prop} {v : Value} {h' : DHeap}
end
/-- a region all of whose values are known -/
theorem NC.known {id : Nat} {ops : Array Oper} {l : List Oper} {b : List Nat} {Q : DExit → St → Prop} {s0 : St} (L : List Value) (hmix : P.follows .mixedOrders = true) (hd : dstsOK nt ops = true) (hlow : lowOK ops = true) (hb : befs ops.toList [] = b) (hl : ops.map stripO = l.toArray) (hown : ownDsts l = true)
    (hstep : ∀ (i : Nat) (o : Oper) (s : St), l[i]? = some o → ValG l s0 s → (∀ j, (b.getD i 0).testBit j = true → ValAt l (fun i _ v => v = L.getD i undef) j s) → NOne P l.toArray o s (ValK (fun i _ v => v = L.getD i undef) i o s) Q)
    (hfin : ∀ s, ValG l s0 s → (∀ i, i < l.length → ValAt l (fun i _ v => v = L.getD i undef) i s) → Q .normal s) : NC P nt (.region id ops true) Q s0 :=
  NC.vals hmix hd hlow hb hl hown _ (fun _ _ _ _ _ h => h) hstep hfin
theorem setAt_mid (A : List Value) : ∀ (vs B : List Value) (k : Nat), setAt (A ++ B) (A.length + k) vs = A ++ setAt B k vs
  | [], B, k => rfl
  | v :: vs, B, k => by
    simp only [setAt]
    rw [List.set_append_right _ _ (Nat.le_add_right _ _), Nat.add_sub_cancel_left, Nat.add_assoc]
    exact setAt_mid A vs (B.set k v) (k + 1)
end Go.D

namespace Go.Proofs.Ytlhgijpdhniddaa
open Go.D
set_option maxRecDepth 100000

theorem clone_i64 {h : DHeap} {b : Value} {l : List Int} (hb : Arg fI64.rep h b l) (hl : l.length ≤ 4294967296) : DC Try.prog 52 [b] h (.ret (cloneV h b l)) (cloneH fI64 h b l) := by
  refine Ct.cloned hb (go_52 (by simp) ?_)
  simp -implicitDefEqProofs (disch := first | omega | (simp only [go_sem, List.size_toArray, List.length_cons, List.length_nil, Nat.reduceAdd]; done)) only [go_sem, Int.reduceLT, Int.reduceLE, Int.reduceEq, reduceIte, c52, hb.nilEq isl_51]
  refine XIf_split (fun hn => ?_) (fun hn => ?_)
  · simp -implicitDefEqProofs (disch := first | omega | (simp only [go_sem, List.size_toArray, List.length_cons, List.length_nil, Nat.reduceAdd]; done)) only [go_sem, Int.reduceLT, Int.reduceLE, Int.reduceEq, reduceIte]
    obtain ⟨_, rfl⟩ := isNilV_nil hb hn
    exact ⟨_, rfl, _, rfl, .nil _ (.refl h), hn.symm⟩
  · have m0 : Made fI64 h (h.push (.row [] 1 false)) (.slice (some ⟨h.next, 0, none⟩) 0 0) [] := .none0 fI64 (.refl h) rfl
    obtain ⟨v2, h2, e2, m2, k2⟩ := m0.append app_51 (hb.ext (Ext.push1 _ _)) (by simpa using hl) (by decide)
    simp -implicitDefEqProofs (disch := first | omega | (simp only [go_sem, List.size_toArray, List.length_cons, List.length_nil, Nat.reduceAdd]; done)) only [go_sem, Int.reduceLT, Int.reduceLE, Int.reduceEq, reduceIte, e2]
    exact ⟨_, rfl, _, rfl, m2, (m0.isNil_append rfl m2 fun hk => (k2 hk).1).trans hn.symm⟩
theorem clone_cells {h : DHeap} {b : Value} {l : List Cell} (hb : Arg fCell.rep h b l) (hl : l.length ≤ 4294967296) : DC Try.prog 53 [b] h (.ret (cloneV h b l)) (cloneH fCell h b l) := by
  refine Ct.cloned hb (go_53 (by simp) ?_)
  simp -implicitDefEqProofs (disch := first | omega | (simp only [go_sem, List.size_toArray, List.length_cons, List.length_nil, Nat.reduceAdd]; done)) only [go_sem, Int.reduceLT, Int.reduceLE, Int.reduceEq, reduceIte, c53, hb.nilEq isl_23]
  refine XIf_split (fun hn => ?_) (fun hn => ?_)
  · simp -implicitDefEqProofs (disch := first | omega | (simp only [go_sem, List.size_toArray, List.length_cons, List.length_nil, Nat.reduceAdd]; done)) only [go_sem, Int.reduceLT, Int.reduceLE, Int.reduceEq, reduceIte]
    obtain ⟨_, rfl⟩ := isNilV_nil hb hn
    exact ⟨_, rfl, _, rfl, .nil _ (.refl h), hn.symm⟩
  · have m0 : Made fCell h (h.push (.row [] 4 false)) (.slice (some ⟨h.next, 0, none⟩) 0 0) [] := .none0 fCell (.refl h) rfl
    obtain ⟨v2, h2, e2, m2, k2⟩ := m0.append app_23 (hb.ext (Ext.push1 _ _)) (by simpa using hl) (by decide)
    simp -implicitDefEqProofs (disch := first | omega | (simp only [go_sem, List.size_toArray, List.length_cons, List.length_nil, Nat.reduceAdd]; done)) only [go_sem, Int.reduceLT, Int.reduceLE, Int.reduceEq, reduceIte, e2]
    exact ⟨_, rfl, _, rfl, m2, (m0.isNil_append rfl m2 fun hk => (k2 hk).1).trans hn.symm⟩

/-- the blocks of the values of a clone's rows -/
def ClS (R : Nat) (K : DHeap) (j : Nat) : Prop := R < j ∧ j < K.next ∧ ∃ ds : List Value, K.get j = some (.row ds 1 false) ∧ ∀ v ∈ ds, ∃ m, v = .int .i64 m
theorem ClS.mono {R : Nat} {K K' : DHeap} (hn : K.next ≤ K'.next) (hk : ∀ j, R < j → j < K.next → K'.get j = K.get j) (j : Nat) (h : ClS R K j) : ClS R K' j ∧ K'.get j = K.get j := by
  obtain ⟨a, b, c⟩ := h
  refine ⟨⟨a, by omega, ?_⟩, hk j a b⟩
  rw [hk j a b]
  exact c
theorem ints_all (l : List Int) : ∀ v ∈ l.flatMap fI64.enc, ∃ m, v = .int .i64 m := by
  intro v hv
  obtain ⟨m, _, hm⟩ := List.mem_flatMap.1 hv
  exact ⟨m, by simpa [fI] using hm⟩
/-- a clone's values -/
theorem clone_cl {R : Nat} {K : DHeap} {w : Value} {l : List Int} {S : Nat → Prop} (hw : Sl fI64.rep S K w l) (hR : R < K.next) : Sl fI64.rep (ClS R (cloneH fI64 K w l)) (cloneH fI64 K w l) (cloneV K w l) l := by
  unfold cloneH cloneV
  by_cases hn : isNilV w = true
  · rw [if_pos hn, if_pos hn]
    obtain ⟨_, rfl⟩ := isNilV_nil hw hn
    exact .nil _ _ _
  · rw [if_neg hn, if_neg hn]
    refine .inr ⟨K.next, 0, l.length + 1, _, _, _, rfl, ⟨hR, Nat.lt_succ_self _, _, get_push_same _ _, ints_all l⟩, get_push_same _ _, .inr rfl, ?_, ?_⟩
    · rw [flatMap_len, Nat.zero_add]; exact Nat.le_refl _
    · refine Els.flat.2 ⟨?_, hw.ok⟩
      rw [List.drop_zero, List.take_of_length_le]
      rw [flatMap_len]; exact Nat.le_refl _
theorem setAt_4 {a b c v v' : Value} {A B : List Value} : setAt (A ++ (a :: b :: c :: v :: B)) (A.length + 3) [v'] = A ++ (a :: b :: c :: v' :: B) := by
  rw [setAt_mid]; rfl
theorem get_4 {a b c v : Value} {A B : List Value} : (A ++ (a :: b :: c :: v :: B))[A.length + 3]? = some v := by
  rw [List.getElem?_append_right (Nat.le_add_right _ _), Nat.add_sub_cancel_left]; rfl
/-- what a clone is -/
structure Cloned (h h1 : DHeap) (R : Nat) (vc vr : Value) (cells : List Cell) (rows : List Row) : Prop where
  ext : Ext h h1
  new : h.next ≤ R
  vr : vr = .slice (some ⟨R, 0, none⟩) rows.length rows.length
  row : ∃ cs, h1.get R = some (.row cs 6 false) ∧ Els rRow (ClS R h1) h1 cs rows
  cell : (vc = .slice none 0 0 ∧ cells = []) ∨ ∃ id c, vc = .slice (some ⟨id, 0, none⟩) cells.length c ∧ R < id ∧ h1.get id = some (rowOf fCell cells) ∧ id < h1.next
  ok : ∀ x ∈ cells, fCell.ok x
theorem Cloned.argC {h h1 : DHeap} {R : Nat} {vc vr : Value} {cells : List Cell} {rows : List Row} (c : Cloned h h1 R vc vr cells rows) : Arg fCell.rep h1 vc cells := by
  rcases c.cell with ⟨rfl, rfl⟩ | ⟨id, cp, rfl, h1', h2, h3⟩
  · exact .nil _ _ _
  · refine .inr ⟨id, 0, cp, _, _, _, rfl, h3, h2, .inr rfl, ?_, ?_⟩
    · rw [flatMap_len, Nat.zero_add]; exact Nat.le_refl _
    · refine Els.flat.2 ⟨?_, c.ok⟩
      rw [List.drop_zero, List.take_of_length_le]
      rw [flatMap_len]; exact Nat.le_refl _
theorem mkt_row : mkT Try.prog 24 = some (6, 64) := by kernel_rfl
theorem stClone_c {h : DHeap} {n : Int} {vc vr : Value} {cells : List Cell} {rows : List Row} (hc : Arg fCell.rep h vc cells) (hr : Arg rRow h vr rows) (hlc : cells.length ≤ 4294967296) (hlr : rows.length ≤ 4294967296) (hlv : ∀ x ∈ rows, x.x.vs.length ≤ 4294967296) :
    Ct Try.prog 20 [stateV n vc vr] h fun r h1 => ∃ vc' vr' R, r = .ret (stateV n vc' vr') ∧ R < h1.next ∧ Cloned h h1 R vc' vr' cells rows := by
  refine go_20 (by simp) ?_
  have c1 := hc.cells1
  have c2 := hr.cells1
  obtain ⟨H, hH⟩ : ∃ H, H = (h.push (.row [.int .i64 n, vc, vr] 0 false)).push (.row zeroState 0 false) := ⟨_, rfl⟩
  have hE : Ext h H := by rw [hH]; exact (Ext.push1 _ _).push _
  have hHn : H.next = h.next + 2 := by rw [hH]; rfl
  have g1 : H.get h.next = some (.row [.int .i64 n, vc, vr] 0 false) := by rw [hH]; exact get_p1
  have g2 : H.get (h.next + 1) = some (.row zeroState 0 false) := by rw [hH]; exact get_push_same _ _
  have el : ∀ K, dLen Try.prog #[24] vr K = some (.int .i64 (rows.length : Nat)) := hr.lens (P := Try.prog) (ts := #[24]) (t := 24) rfl isl_24
  have L2 : cellAt H h.next 2 = some vr := cellAt_row g1
  obtain ⟨Z, hZ, hmk⟩ := dMakeSlice_at (P := Try.prog) (k := .i64) (k' := .i64) (n := rows.length) (h := H) mkt_row (by decide) hlr
  rw [hHn] at hmk
  obtain ⟨H1, hH1⟩ : ∃ K, K = H.push (.row Z 6 false) := ⟨_, rfl⟩
  rw [← hH1] at hmk
  have hE1 : Ext H H1 := by rw [hH1]; exact Ext.push1 _ _
  have hH1n : H1.next = h.next + 3 := by rw [hH1, next_push]; omega
  have g1' : H1.get h.next = some (.row [.int .i64 n, vc, vr] 0 false) := (hE1.get _ (by omega)).trans g1
  have L2' : cellAt H1 h.next 2 = some vr := cellAt_row g1'
  have gR : H1.get (h.next + 2) = some (.row Z 6 false) := by rw [hH1, ← hHn]; exact get_push_same _ _
  obtain ⟨new, hnew, hcp⟩ := dCopy_at (P := Try.prog) (ts := #[24, 24]) (t := 24) (c := rows.length) rfl el_24 (hr.keep fun i hi => (hE.trans hE1).get i hi) gR hZ
  obtain ⟨H2, hH2⟩ : ∃ K, K = H1.set (h.next + 2) (.row new 6 false) := ⟨_, rfl⟩
  have hE2 : Ext H H2 := by rw [hH2]; exact hE1.set (by omega)
  have hH2n : H2.next = h.next + 3 := by rw [hH2]; exact hH1n
  have gR2 : H2.get (h.next + 2) = some (.row new 6 false) := by rw [hH2]; exact get_set_same _ _
  rw [← hH2] at hcp
  simp -implicitDefEqProofs (disch := first | omega | (simp -implicitDefEqProofs only [go_sem, List.size_toArray, List.length_cons, List.length_nil, Nat.reduceAdd]; done)) only [go_sem, Int.reduceLT, Int.reduceLE, Int.reduceEq, reduceIte, true_and, Nat.zero_add, Nat.add_zero, Option.map_some, c20, c1, c2, next_push, ← hH, L2, el, hmk, L2', hcp]
  refine XLoop_cut (fun s => s.df = [] ∧ s.rd = none ∧ s.fr 1 = some (.pointer (some ⟨h.next, 0, none⟩)) ∧ s.fr 2 = some (.pointer (some ⟨h.next + 1, 0, none⟩)) ∧ s.fr 3 = some (.slice (some ⟨h.next + 2, 0, none⟩) rows.length rows.length) ∧ Ext H s.h ∧ h.next + 2 < s.h.next ∧ ∃ cs, s.h.get (h.next + 2) = some (.row cs 6 false) ∧ Els rRow (ClS (h.next + 2) s.h) s.h cs rows) ?_ ?_
  · refine xloop (σ := Nat) (by kernel_rfl) (fun i s => s.df = [] ∧ s.rd = none ∧ s.fr 1 = some (.pointer (some ⟨h.next, 0, none⟩)) ∧ s.fr 2 = some (.pointer (some ⟨h.next + 1, 0, none⟩)) ∧ s.fr 3 = some (.slice (some ⟨h.next + 2, 0, none⟩) rows.length rows.length) ∧ s.fr 14 = some (.int .i64 (rows.length : Nat)) ∧ s.fr 15 = some (.int .i64 (i : Nat)) ∧ i ≤ rows.length ∧ Ext H s.h ∧ h.next + 2 < s.h.next ∧
      ∃ A B, s.h.get (h.next + 2) = some (.row (A ++ B) 6 false) ∧ Els rRow (ClS (h.next + 2) s.h) s.h A (rows.take i) ∧ Els rRow (fun j => j < h.next) s.h B (rows.drop i)) (fun i => rows.length - i) 0 ?_ ?_
    · simp -implicitDefEqProofs (disch := first | omega | (simp -implicitDefEqProofs only [go_sem, List.size_toArray, List.length_cons, List.length_nil, Nat.reduceAdd]; done)) only [go_sem, Int.reduceLT, Int.reduceLE, Int.reduceEq, reduceIte, true_and, Nat.zero_add, Nat.add_zero, Option.map_some]
      exact ⟨rfl, Nat.zero_le _, hE2, by omega, [], new, gR2, rfl, hnew.mono fun j hj => ⟨hj, by rw [hH2]; exact get_set_other _ _ (by omega)⟩⟩
    · rintro i ⟨fr, df, K, rd⟩ K' hK' hX ⟨rfl, hrd, f1, f2, f3, f14, f15, hi, hEK, hKn, A, B, gK, hA, hB⟩
      simp only at hrd f1 f2 f3 f14 f15 hEK hKn gK hA hB
      subst hrd
      simp -implicitDefEqProofs (disch := first | omega | (simp -implicitDefEqProofs only [go_sem, List.size_toArray, List.length_cons, List.length_nil, Nat.reduceAdd]; done)) only [go_sem, Int.reduceLT, Int.reduceLE, Int.reduceEq, reduceIte, true_and, Nat.zero_add, Nat.add_zero, Option.map_some, f14, f15]
      refine XIf_dec (fun hc1 => ?_) (fun hc1 => ?_)
      · have hj : i < rows.length := by omega
        rw [List.drop_eq_getElem_cons hj] at hB
        obtain ⟨b1, b2, rfl, hb1, hb2⟩ := hB
        obtain ⟨w, rfl, hw, hok⟩ := row_rd hb1
        have hAl : A.length = i * 6 := by
          have := hA.len
          rw [this, List.length_take, Nat.min_eq_left hi]; rfl
        have hia : dIndexAddr Try.prog 24 (.slice (some ⟨h.next + 2, 0, none⟩) rows.length rows.length) (.int .i64 (i : Nat)) = some (.pointer (some ⟨h.next + 2, i * 6, none⟩)) := by
          rw [ia_24 (by omega) (by omega)]
          simp
        have L3 : cellAt K (h.next + 2) (i * 6 + 2 + 1) = some w := by
          rw [cellAt_row gK, ← hAl]; exact get_4
        have hlw := hlv _ (List.getElem_mem hj)
        have hwK : Arg fI64.rep K w rows[i].x.vs := hw.mono fun j hj => ⟨by omega, rfl⟩
        have tc := clone_i64 hwK hlw
        have hcl := clone_cl hw hKn
        have hEc := cloneH_ext fI64 K w rows[i].x.vs
        obtain ⟨cv, hcv⟩ : ∃ v, cloneV K w rows[i].x.vs = v := ⟨_, rfl⟩
        obtain ⟨K2, hK2⟩ : ∃ v, cloneH fI64 K w rows[i].x.vs = v := ⟨_, rfl⟩
        rw [hcv, hK2] at tc
        rw [hcv, hK2] at hcl
        rw [hK2] at hEc
        have hEcn := hEc.next
        have g2K := (hEc.get _ hKn).trans gK
        have hone : [cv].all Value.oneCell' = true := by obtain ⟨_, _, rfl⟩ := hcl.isSlice; rfl
        have hst : dStore Try.prog 51 (.pointer (some ⟨h.next + 2, i * 6 + 2 + 1, none⟩)) cv K2 = some (K2.set (h.next + 2) (.row (A ++ ([.int .i64 rows[i].ses, .int .i64 rows[i].req, .int .i64 rows[i].x.e, cv, .int .i64 rows[i].x.s, .int .i64 rows[i].x.p] ++ b2)) 6 false)) := by
          rw [st_51 hcl.cells1, storeAt_row g2K (by simp [hAl]; omega) hone, ← hAl]
          congr 3
          exact setAt_4
        have hw1 := wrap_succ hj (by omega)
        simp -implicitDefEqProofs (disch := first | omega | (simp -implicitDefEqProofs only [go_sem, List.size_toArray, List.length_cons, List.length_nil, Nat.reduceAdd]; done)) only [go_sem, Int.reduceLT, Int.reduceLE, Int.reduceEq, reduceIte, true_and, Nat.zero_add, Nat.add_zero, Option.map_some, f3, f15, hia, L3]
        refine ncall tc ?_
        simp -implicitDefEqProofs (disch := first | omega | (simp -implicitDefEqProofs only [go_sem, List.size_toArray, List.length_cons, List.length_nil, Nat.reduceAdd]; done)) only [go_sem, Int.reduceLT, Int.reduceLE, Int.reduceEq, reduceIte, true_and, Nat.zero_add, Nat.add_zero, Option.map_some, hia, hst, f15, hw1]
        refine hK' (i + 1) _ ?_ (by omega)
        have kp : ∀ j, j ≠ h.next + 2 → j < K.next → (K2.set (h.next + 2) (.row (A ++ ([.int .i64 rows[i].ses, .int .i64 rows[i].req, .int .i64 rows[i].x.e, cv, .int .i64 rows[i].x.s, .int .i64 rows[i].x.p] ++ b2)) 6 false)).get j = K.get j := fun j hj hjn => (get_set_other _ _ hj).trans (hEc.get j hjn)
        refine ⟨by trivial, by trivial, by simp -implicitDefEqProofs (disch := first | omega | (simp -implicitDefEqProofs only [go_sem, List.size_toArray, List.length_cons, List.length_nil, Nat.reduceAdd]; done)) only [go_sem, Int.reduceLT, Int.reduceLE, Int.reduceEq, reduceIte, true_and, Nat.zero_add, Nat.add_zero, Option.map_some, f1], by simp -implicitDefEqProofs (disch := first | omega | (simp -implicitDefEqProofs only [go_sem, List.size_toArray, List.length_cons, List.length_nil, Nat.reduceAdd]; done)) only [go_sem, Int.reduceLT, Int.reduceLE, Int.reduceEq, reduceIte, true_and, Nat.zero_add, Nat.add_zero, Option.map_some, f2], by simp -implicitDefEqProofs (disch := first | omega | (simp -implicitDefEqProofs only [go_sem, List.size_toArray, List.length_cons, List.length_nil, Nat.reduceAdd]; done)) only [go_sem, Int.reduceLT, Int.reduceLE, Int.reduceEq, reduceIte, true_and, Nat.zero_add, Nat.add_zero, Option.map_some, f3], by simp -implicitDefEqProofs (disch := first | omega | (simp -implicitDefEqProofs only [go_sem, List.size_toArray, List.length_cons, List.length_nil, Nat.reduceAdd]; done)) only [go_sem, Int.reduceLT, Int.reduceLE, Int.reduceEq, reduceIte, true_and, Nat.zero_add, Nat.add_zero, Option.map_some, f14], by simp -implicitDefEqProofs (disch := first | omega | (simp -implicitDefEqProofs only [go_sem, List.size_toArray, List.length_cons, List.length_nil, Nat.reduceAdd]; done)) only [go_sem, Int.reduceLT, Int.reduceLE, Int.reduceEq, reduceIte, true_and, Nat.zero_add, Nat.add_zero, Option.map_some], by omega, (hEK.trans hEc).set (by omega), Nat.lt_of_lt_of_le hKn hEcn, A ++ [.int .i64 rows[i].ses, .int .i64 rows[i].req, .int .i64 rows[i].x.e, cv, .int .i64 rows[i].x.s, .int .i64 rows[i].x.p], b2, ?_, ?_, ?_⟩
        · rw [List.append_assoc]; exact get_set_same _ _
        · rw [show rows.take (i + 1) = rows.take i ++ [rows[i]] by simp]
          refine (hA.mono (ClS.mono (K' := K2.set (h.next + 2) (.row (A ++ ([.int .i64 rows[i].ses, .int .i64 rows[i].req, .int .i64 rows[i].x.e, cv, .int .i64 rows[i].x.s, .int .i64 rows[i].x.p] ++ b2)) 6 false)) hEcn fun j h1 h2 => kp j (by omega) h2)).append (.single (rd_row (hcl.mono (ClS.mono (K' := K2.set (h.next + 2) (.row (A ++ ([.int .i64 rows[i].ses, .int .i64 rows[i].req, .int .i64 rows[i].x.e, cv, .int .i64 rows[i].x.s, .int .i64 rows[i].x.p] ++ b2)) 6 false)) (Nat.le_refl _) fun j h1 h2 => get_set_other _ _ (by omega))) hok))
        · exact hb2.mono fun j hj => ⟨hj, kp j (by omega) (by omega)⟩
      · obtain rfl : i = rows.length := by omega
        refine hX _ _ (by simp) ?_
        rw [List.drop_length] at hB
        rw [List.take_length] at hA
        obtain rfl : B = [] := hB
        rw [List.append_nil] at gK
        exact ⟨rfl, rfl, f1, f2, f3, hEK, hKn, A, gK, hA⟩
  · rintro ⟨fr, df, K, rd⟩ ⟨hdf, hrd, f1, f2, f3, hEK, hKn, cs, gK, hA⟩
    simp only at hdf hrd f1 f2 f3 hEK hKn gK hA
    subst hdf hrd
    have k1 := (hEK.get _ (by omega)).trans g1
    have k2 := (hEK.get _ (by omega)).trans g2
    have a0 : cellAt K h.next 0 = some (.int .i64 n) := cellAt_row k1
    have a1 : cellAt K h.next 1 = some vc := cellAt_row k1
    simp -implicitDefEqProofs (disch := first | omega | (simp -implicitDefEqProofs only [go_sem, List.size_toArray, List.length_cons, List.length_nil, Nat.reduceAdd]; done)) only [go_sem, Int.reduceLT, Int.reduceLE, Int.reduceEq, reduceIte, true_and, Nat.zero_add, Nat.add_zero, Option.map_some]
    refine dr_20_0 ?_
    simp -implicitDefEqProofs (disch := first | omega | (simp -implicitDefEqProofs only [go_sem, List.size_toArray, List.length_cons, List.length_nil, Nat.reduceAdd]; done)) only [go_sem, Int.reduceLT, Int.reduceLE, Int.reduceEq, reduceIte, true_and, Nat.zero_add, Nat.add_zero, Option.map_some, l20_0, f1, f2, f3, a0, a1]
    have hcK := hc.ext (hE.trans hEK)
    have tc := clone_cells hcK hlc
    have hEc := cloneH_ext fCell K vc cells
    have hcd : (cloneV K vc cells = .slice none 0 0 ∧ cells = []) ∨ ∃ id c, cloneV K vc cells = .slice (some ⟨id, 0, none⟩) cells.length c ∧ h.next + 2 < id ∧ (cloneH fCell K vc cells).get id = some (rowOf fCell cells) ∧ id < (cloneH fCell K vc cells).next := by
      unfold cloneV cloneH
      by_cases hn : isNilV vc = true
      · rw [if_pos hn, if_pos hn]
        exact .inl ⟨rfl, (isNilV_nil hc hn).2⟩
      · rw [if_neg hn, if_neg hn]
        exact .inr ⟨K.next, _, rfl, hKn, get_push_same _ _, Nat.lt_succ_self _⟩
    have hcs := cloneV_len (h := K) hcK
    obtain ⟨cv, hcv⟩ : ∃ v, cloneV K vc cells = v := ⟨_, rfl⟩
    obtain ⟨K2, hK2⟩ : ∃ v, cloneH fCell K vc cells = v := ⟨_, rfl⟩
    rw [hcv, hK2] at tc hcd
    rw [hcv] at hcs
    rw [hK2] at hEc
    have hEcn := hEc.next
    have hcc : cv.cells = #[cv] := by obtain ⟨_, _, rfl⟩ := hcs; rfl
    have hbd : dBuild Try.prog 26 [(0, .int .i64 n), (1, cv), (2, .slice (some ⟨h.next + 2, 0, none⟩) rows.length rows.length)] = some (stateV n cv (.slice (some ⟨h.next + 2, 0, none⟩) rows.length rows.length)) := by
      refine dBuild_at plc_26 ?_
      simp only [fillL, List.getElem?_cons_zero, List.getElem?_cons_succ, hcc]
      rfl
    have hone : [.int .i64 n, cv, .slice (some ⟨h.next + 2, 0, none⟩) rows.length rows.length].all Value.oneCell' = true := by obtain ⟨_, _, rfl⟩ := hcs; rfl
    have hk1 := (hEc.get _ (by omega)).trans k1
    have hk2 := (hEc.get _ (by omega)).trans k2
    have hst : storeAt K2 (h.next + 1) 0 [.int .i64 n, cv, .slice (some ⟨h.next + 2, 0, none⟩) rows.length rows.length] = some (K2.set (h.next + 1) (.row [.int .i64 n, cv, .slice (some ⟨h.next + 2, 0, none⟩) rows.length rows.length] 0 false)) :=
      storeAt_row hk2 (Nat.le_of_ble_eq_true rfl) hone
    have hend : cellsAt (K2.set (h.next + 1) (.row [.int .i64 n, cv, .slice (some ⟨h.next + 2, 0, none⟩) rows.length rows.length] 0 false)) (h.next + 1) 0 3 = some (stateV n cv (.slice (some ⟨h.next + 2, 0, none⟩) rows.length rows.length)) := by
      rw [cellsAt_row (get_set_same _ _) (Nat.le_of_ble_eq_true rfl)]; rfl
    refine dcall tc ?_
    simp -implicitDefEqProofs (disch := first | omega | (simp -implicitDefEqProofs only [go_sem, List.size_toArray, List.length_cons, List.length_nil, Nat.reduceAdd]; done)) only [go_sem, Int.reduceLT, Int.reduceLE, Int.reduceEq, reduceIte, true_and, Nat.zero_add, Nat.add_zero, Option.map_some, f2, f3, hbd, hst]
    refine ⟨⟨XSt1_at (i := 1) (j := 4) rfl rfl rfl ?_, trivial⟩, ?_⟩
    · rw [if_neg (by decide)]
      refine Ld_on (p := .pointer (some ⟨h.next, 0, none⟩)) ?_ ?_ (ld_2.trans (cellAt_row hk1))
      · simp -implicitDefEqProofs (disch := first | omega | (simp -implicitDefEqProofs only [go_sem, List.size_toArray, List.length_cons, List.length_nil, Nat.reduceAdd]; done)) only [go_sem, Int.reduceLT, Int.reduceLE, Int.reduceEq, reduceIte, true_and, Nat.zero_add, Nat.add_zero, Option.map_some]
      · simp -implicitDefEqProofs (disch := first | omega | (simp -implicitDefEqProofs only [go_sem, List.size_toArray, List.length_cons, List.length_nil, Nat.reduceAdd]; done)) only [go_sem, Int.reduceLT, Int.reduceLE, Int.reduceEq, reduceIte, true_and, Nat.zero_add, Nat.add_zero, Option.map_some]
    · refine ret_at (v := stateV n cv (.slice (some ⟨h.next + 2, 0, none⟩) rows.length rows.length)) ?_ ?_
      · rw [dResults_c1]
        simp -implicitDefEqProofs (disch := first | omega | (simp -implicitDefEqProofs only [go_sem, List.size_toArray, List.length_cons, List.length_nil, Nat.reduceAdd]; done)) only [go_sem, Int.reduceLT, Int.reduceLE, Int.reduceEq, reduceIte, true_and, Nat.zero_add, Nat.add_zero, Option.map_some, f2, hend, dResC_some]
      · refine ⟨cv, _, h.next + 2, rfl, by simp only [next_set]; omega, ((hE.trans hEK).trans hEc).set (by omega), by omega, rfl, ⟨cs, (get_set_other _ _ (by omega)).trans ((hEc.get _ hKn).trans gK), hA.mono (ClS.mono (K' := K2.set (h.next + 1) (.row [.int .i64 n, cv, .slice (some ⟨h.next + 2, 0, none⟩) rows.length rows.length] 0 false)) hEcn fun j h1 h2 => (get_set_other _ _ (by omega)).trans (hEc.get j h2))⟩, ?_, hc.ok⟩
        rcases hcd with hcd | ⟨id, c, e1, e2, e3, e4⟩
        · exact .inl hcd
        · exact .inr ⟨id, c, e1, e2, (get_set_other _ _ (by omega)).trans e3, e4⟩
end Go.Proofs.Ytlhgijpdhniddaa

namespace Go.Proofs.Ytlhgijpdhniddaa
open Go.D
set_option maxRecDepth 100000

theorem set_get {ds : List Value} {p q : Nat} {m : Int} {k : IntKind} {P : Value → Prop} (hp : P (.int k m)) (h : ∃ v, ds[q]? = some v ∧ P v) : ∃ v, (ds.set p (.int k m))[q]? = some v ∧ P v := by
  obtain ⟨v, e, hv⟩ := h
  have hq := (List.getElem?_eq_some_iff.1 e).1
  rw [List.getElem?_set]
  by_cases hpq : p = q
  · subst hpq
    rw [if_pos rfl, if_pos hq]
    exact ⟨_, rfl, hp⟩
  · rw [if_neg hpq]
    exact ⟨v, e, hv⟩
def isI (k : IntKind) (v : Value) : Prop := ∃ m, v = .int k m
theorem isI_set {k : IntKind} {ds : List Value} {p q : Nat} {m : Int} (h : ∃ v, ds[q]? = some v ∧ isI k v) : ∃ v, (ds.set p (.int k m))[q]? = some v ∧ isI k v := set_get ⟨m, rfl⟩ h
theorem all_set {k : IntKind} {ds : List Value} {p : Nat} {m : Int} (h : ∀ x ∈ ds, ∃ m, x = .int k m) : ∀ x ∈ ds.set p (.int k m), ∃ m, x = .int k m := by
  intro x hx
  rcases List.mem_or_eq_of_mem_set hx with hx | hx
  · exact h x hx
  · exact ⟨m, hx⟩
/-- a list of numbers that was made since, and can be written to -/
def ValOk (b : Nat) (K : DHeap) (v : Value) : Prop :=
  v = .slice none 0 0 ∨ ∃ id o m c ds, v = .slice (some ⟨id, o, none⟩) m c ∧ b ≤ id ∧ K.get id = some (.row ds 1 false) ∧ o + m ≤ ds.length ∧ m ≤ 4294967296 ∧ ∀ x ∈ ds, ∃ k, x = .int .i64 k
theorem ValOk.other {b : Nat} {K : DHeap} {v : Value} {id : Nat} {ds ds' : List Value} {z : Nat} (a : ValOk b K v) (hg : K.get id = some (.row ds z false)) (hz : z ≠ 1) : ValOk b (K.set id (.row ds' z false)) v := by
  rcases a with a | ⟨i, o, m, c, es, e1, e2, e3, e4⟩
  · exact .inl a
  · refine .inr ⟨i, o, m, c, es, e1, e2, (get_set_other _ _ fun hh => ?_).trans e3, e4⟩
    rw [hh, hg] at e3
    cases e3
    exact hz rfl
theorem ValOk.num {b : Nat} {K : DHeap} {v : Value} {id p : Nat} {ds : List Value} {k : Int} (a : ValOk b K v) (hg : K.get id = some (.row ds 1 false)) : ValOk b (K.set id (.row (ds.set p (.int .i64 k)) 1 false)) v := by
  rcases a with a | ⟨i, o, m, c, es, e1, e2, e3, e4, e4', e5⟩
  · exact .inl a
  · by_cases hi : i = id
    · subst hi
      rw [hg] at e3
      cases e3
      exact .inr ⟨i, o, m, c, _, e1, e2, get_set_same _ _, by rw [List.length_set]; exact e4, e4', all_set e5⟩
    · exact .inr ⟨i, o, m, c, es, e1, e2, (get_set_other _ _ hi).trans e3, e4, e4', e5⟩
/-- what StateOwn may write to -/
structure OwnI (H0 : DHeap) (C R : Nat) (n : Int) (vc : Value) (nc nr : Nat) (cs : List Value) (K : DHeap) : Prop where
  ext : Ext H0 K
  gC : K.get C = some (.row [.int .i64 n, vc, .slice (some ⟨R, 0, none⟩) nr nr] 0 false)
  hC : H0.next ≤ C
  hR : H0.next ≤ R
  cel : (vc = .slice none 0 0 ∧ nc = 0) ∨ ∃ id c ds, vc = .slice (some ⟨id, 0, none⟩) nc c ∧ H0.next ≤ id ∧ K.get id = some (.row ds 4 false) ∧ ∀ j, j < nc → ∃ v, ds[j * 4 + 2]? = some v ∧ isI .i64 v
  gR : K.get R = some (.row cs 6 false)
  req : ∀ j, j < nr → ∃ v, cs[j * 6 + 1]? = some v ∧ isI .i64 v
  val : ∀ j, j < nr → ∃ v, cs[j * 6 + 3]? = some v ∧ ValOk H0.next K v
section
variable {H0 K : DHeap} {C R : Nat} {n : Int} {vc : Value} {nc nr : Nat} {cs : List Value}
theorem OwnI.cell {id p : Nat} {ds : List Value} {m : Int} (a : OwnI H0 C R n vc nc nr cs K) (hi : H0.next ≤ id) (hg : K.get id = some (.row ds 4 false)) (hv : ∀ i, i < nc → ∃ v, ds[i * 4 + 2]? = some v ∧ isI .i64 v) :
    OwnI H0 C R n vc nc nr cs (K.set id (.row (ds.set p (.int .i64 m)) 4 false)) := by
  have n1 : C ≠ id := fun hh => by have := a.gC; rw [hh, hg] at this; cases this
  have n2 : R ≠ id := fun hh => by have := a.gR; rw [hh, hg] at this; cases this
  refine ⟨a.ext.set hi, (get_set_other _ _ n1).trans a.gC, a.hC, a.hR, ?_, (get_set_other _ _ n2).trans a.gR, a.req, fun j hj => ?_⟩
  · rcases a.cel with h | ⟨i, c, es, e1, e2, e3, e4⟩
    · exact .inl h
    · by_cases hii : i = id
      · subst hii
        rw [hg] at e3
        cases e3
        exact .inr ⟨i, c, _, e1, e2, get_set_same _ _, fun j hj => isI_set (e4 j hj)⟩
      · exact .inr ⟨i, c, es, e1, e2, (get_set_other _ _ hii).trans e3, e4⟩
  · obtain ⟨v, e1, e2⟩ := a.val j hj
    exact ⟨v, e1, e2.other hg (by decide)⟩
theorem OwnI.row {i : Nat} {m : Int} (a : OwnI H0 C R n vc nc nr cs K) : OwnI H0 C R n vc nc nr (cs.set (i * 6 + 1) (.int .i64 m)) (K.set R (.row (cs.set (i * 6 + 1) (.int .i64 m)) 6 false)) := by
  have n1 : C ≠ R := fun hh => by have := a.gC; rw [hh, a.gR] at this; cases this
  refine ⟨a.ext.set a.hR, (get_set_other _ _ n1).trans a.gC, a.hC, a.hR, ?_, get_set_same _ _, fun j hj => isI_set (a.req j hj), fun j hj => ?_⟩
  · rcases a.cel with h | ⟨id, c, es, e1, e2, e3, e4⟩
    · exact .inl h
    · refine .inr ⟨id, c, es, e1, e2, (get_set_other _ _ fun hh => ?_).trans e3, e4⟩
      rw [hh, a.gR] at e3
      cases e3
  · obtain ⟨v, e1, e2⟩ := a.val j hj
    refine ⟨v, ?_, e2.other a.gR (by decide)⟩
    rw [List.getElem?_set_ne (by omega)]
    exact e1
theorem OwnI.num {id p : Nat} {ds : List Value} {m : Int} (a : OwnI H0 C R n vc nc nr cs K) (hi : H0.next ≤ id) (hg : K.get id = some (.row ds 1 false)) :
    OwnI H0 C R n vc nc nr cs (K.set id (.row (ds.set p (.int .i64 m)) 1 false)) := by
  have n1 : C ≠ id := fun hh => by have := a.gC; rw [hh, hg] at this; cases this
  have n2 : R ≠ id := fun hh => by have := a.gR; rw [hh, hg] at this; cases this
  refine ⟨a.ext.set hi, (get_set_other _ _ n1).trans a.gC, a.hC, a.hR, ?_, (get_set_other _ _ n2).trans a.gR, a.req, fun j hj => ?_⟩
  · rcases a.cel with h | ⟨i, c, es, e1, e2, e3, e4⟩
    · exact .inl h
    · refine .inr ⟨i, c, es, e1, e2, (get_set_other _ _ fun hh => ?_).trans e3, e4⟩
      rw [hh, hg] at e3
      cases e3
  · obtain ⟨v, e1, e2⟩ := a.val j hj
    exact ⟨v, e1, e2.num hg⟩
end
theorem row_fields : ∀ {l : List Row} {cs : List Value} {S : Nat → Prop} {K : DHeap}, Els rRow S K cs l → ∀ j x, l[j]? = some x → ∃ w, cs[j * 6 + 1]? = some (.int .i64 x.req) ∧ cs[j * 6 + 3]? = some w ∧ Sl fI64.rep S K w x.x.vs
  | [], _, _, _, _, j, x, hx => by simp at hx
  | y :: l, cs, S, K, h, j, x, hx => by
    obtain ⟨c1, c2, rfl, h1, h2⟩ := h
    obtain ⟨v, rfl, hs, _⟩ := row_rd h1
    match j with
    | 0 =>
      cases hx
      exact ⟨v, rfl, rfl, hs⟩
    | j + 1 =>
      obtain ⟨w, e1, e2, e3⟩ := row_fields h2 j x (by simpa using hx)
      refine ⟨w, ?_, ?_, e3⟩
      · rw [show (j + 1) * 6 + 1 = (j * 6 + 1) + 6 by omega]; exact e1
      · rw [show (j + 1) * 6 + 3 = (j * 6 + 3) + 6 by omega]; exact e2
theorem val_of {h K : DHeap} {R : Nat} {w : Value} {l : List Int} (hs : Sl fI64.rep (ClS R K) K w l) (hR : h.next ≤ R) (hl4 : l.length ≤ 4294967296) : ValOk h.next K w := by
  rcases hs with ⟨rfl, _⟩ | ⟨id, o, c, cells, esz, ro, rfl, ⟨s1, _, ds, s2, s3⟩, g, _, hl, _⟩
  · exact .inl rfl
  · rw [s2] at g
    cases g
    exact .inr ⟨id, o, _, c, _, rfl, by omega, s2, by simpa [fI, FRep.rep] using hl, hl4, s3⟩
theorem cell_fields : ∀ {l : List Cell} (j : Nat), j < l.length → ∃ v, (l.flatMap fCell.enc)[j * 4 + 2]? = some v ∧ isI .i64 v
  | [], j, hj => by simp at hj
  | x :: l, 0, _ => ⟨_, rfl, x.v, rfl⟩
  | x :: l, j + 1, hj => by
    obtain ⟨v, e1, e2⟩ := cell_fields (l := l) j (by simpa using hj)
    refine ⟨v, ?_, e2⟩
    rw [show (j + 1) * 4 + 2 = (j * 4 + 2) + 4 by omega]
    exact e1
/-- a clone, as it is at first -/
theorem OwnI.start {H0 h1 K : DHeap} {R C : Nat} {n : Int} {vc vr : Value} {cells : List Cell} {rows : List Row} (c : Cloned H0 h1 R vc vr cells rows) (hl3 : ∀ r ∈ rows, r.x.vs.length ≤ 4294967296) (hR : R < h1.next) (hC : C = h1.next) (hK : K = h1.push (.row [.int .i64 n, vc, vr] 0 false)) :
    ∃ cs, OwnI H0 C R n vc cells.length rows.length cs K := by
  obtain ⟨cs, g, e⟩ := c.row
  have hE : Ext h1 K := by rw [hK]; exact Ext.push1 _ _
  have hn := c.ext.next
  refine ⟨cs, c.ext.trans hE, ?_, by omega, c.new, ?_, (hE.get _ hR).trans g, fun j hj => ?_, fun j hj => ?_⟩
  · rw [hK, hC, ← c.vr]; exact get_push_same _ _
  · rcases c.cell with ⟨e1, e2⟩ | ⟨id, cp, e1, e2, e3, e4⟩
    · exact .inl ⟨e1, by rw [e2]; rfl⟩
    · have := c.new
      exact .inr ⟨id, cp, _, e1, by omega, (hE.get _ e4).trans e3, fun j hj => cell_fields j hj⟩
  · obtain ⟨w, e1, _, _⟩ := row_fields e j _ (List.getElem?_eq_getElem hj)
    exact ⟨_, e1, _, rfl⟩
  · obtain ⟨w, _, e2, e3⟩ := row_fields e j _ (List.getElem?_eq_getElem hj)
    refine ⟨w, e2, ?_⟩
    have hv := val_of (h := H0) e3 c.new (hl3 _ (List.getElem_mem hj))
    rcases hv with hv | ⟨id, o, m, c', ds, v1, v2, v3, v4⟩
    · exact .inl hv
    · refine .inr ⟨id, o, m, c', ds, v1, v2, ?_, v4⟩
      rcases e3 with ⟨rfl, _⟩ | ⟨id', o', c'', cells', esz, ro, rfl, ⟨s1, s2, _⟩, _⟩
      · cases v1
      · cases v1
        exact (hE.get _ s2).trans v3
end Go.Proofs.Ytlhgijpdhniddaa

namespace Go.Proofs.Ytlhgijpdhniddaa
open Go.D
set_option maxRecDepth 100000

abbrev ownD (fr : Fr) (k : Nat) : DLoop := ⟨99, fr, #[74], fa7_0, fb7_0, k, .ready, none⟩
abbrev OwnR (hB : DHeap) (fr : Fr) (_ : Nat) (K : DHeap) : Prop := Rng hB (ownD fr hB.next) (fun _ => False) K
theorem own_round {hB K0 K : DHeap} {fr : Fr} {w : Value} {x : Part} {i : Nat} (hl : x.data.length ≤ 4294967296) (r0 : OwnR hB fr i K) (hw : WrB .u8 K0.next K w x.data.length) (hn : hB.next + 2 ≤ K0.next) :
    Rt Try.prog (hB.next + 1) 99 (putParams fr [74] [partV x w]) fa7_0 fb7_0 K fun r H => r = .ret (.bool true) ∧ OwnR hB fr (i + 1) H ∨ r = .ret (.bool false) ∧ False := by
  have hsw : ∃ a c, w = .slice a x.data.length c := by
    rcases hw with ⟨e, e0⟩ | ⟨id, c, ds, e, _⟩
    · exact ⟨none, 0, by rw [e, e0]⟩
    · exact ⟨_, _, e⟩
  have hcw : w.cells = #[w] := by obtain ⟨_, _, e⟩ := hsw; rw [e]; rfl
  have hst : [Value.int .i64 x.slot, .int .i64 x.index, .int .i64 x.many, w].all Value.oneCell' = true := by obtain ⟨_, _, rfl⟩ := hsw; rfl
  refine Rt_walk ta7_0 tb7_0 (by kernel_rfl) (by kernel_rfl) ?_
  obtain ⟨K1, hK1⟩ : ∃ K1, K1 = K.push (.row [.int .i64 x.slot, .int .i64 x.index, .int .i64 x.many, w] 0 false) := ⟨_, rfl⟩
  have hE1 : Ext K K1 := by rw [hK1]; exact Ext.push1 _ _
  have r1 := r0.ext hE1
  simp -implicitDefEqProofs (disch := first | omega | (simp -implicitDefEqProofs only [go_sem, List.size_toArray, List.length_cons, List.length_nil, Nat.reduceAdd]; done)) only [go_sem, Int.reduceLT, Int.reduceLE, Int.reduceEq, reduceIte, true_and, Nat.zero_add, Nat.add_zero, Option.map_some, sa7_0, putParams, store4_push hst, hcw, ← hK1]
  refine ⟨_, r1.lp, rfl, ?_⟩
  have hnx := r0.nx
  have hK1n : K1.next = K.next + 1 := by rw [hK1]; rfl
  have gp1 : K1.get K.next = some (.row [.int .i64 x.slot, .int .i64 x.index, .int .i64 x.many, w] 0 false) := by rw [hK1]; exact get_push_same _ _
  obtain ⟨D2, hD2⟩ : ∃ D2 : DLoop, D2 = { ownD fr hB.next with state := .busy, pending := (ownD fr hB.next).pending } := ⟨_, rfl⟩
  rw [← hD2]
  obtain ⟨K2, hK2⟩ : ∃ K2, K2 = K1.set (hB.next + 1) (.loop D2) := ⟨_, rfl⟩
  rw [← hK2]
  have r2 : Rng hB D2 (fun _ => False) K2 := by rw [hK2]; exact r1.loop _
  have oth : ∀ j, j ≠ hB.next + 1 → K2.get j = K1.get j := fun j hj => by rw [hK2]; exact get_set_other _ _ hj
  have gp : K2.get K.next = some (.row [.int .i64 x.slot, .int .i64 x.index, .int .i64 x.many, w] 0 false) := (oth _ (by omega)).trans gp1
  have c3 : cellAt K2 K.next 3 = some w := cellAt_row gp
  have el : ∀ K, dLen Try.prog #[22] w K = some (.int .i64 (x.data.length : Nat)) := fun K => by
    obtain ⟨_, _, e⟩ := hsw
    rw [e]
    exact dLen_slice rfl isl_22
  simp -implicitDefEqProofs (disch := first | omega | (simp -implicitDefEqProofs only [go_sem, List.size_toArray, List.length_cons, List.length_nil, Nat.reduceAdd]; done)) only [go_sem, Int.reduceLT, Int.reduceLE, Int.reduceEq, reduceIte, true_and, Nat.zero_add, Nat.add_zero, Option.map_some, sb7_0, c3, el]
  refine xloop (σ := Nat) (by kernel_rfl) (fun j s => s.df = [] ∧ s.fr 8 = some (.pointer (some ⟨K.next, 0, none⟩)) ∧ s.fr 77 = some (.int .i64 (x.data.length : Nat)) ∧ s.fr 78 = some (.int .i64 (j : Nat)) ∧ j ≤ x.data.length ∧ Rng hB D2 (fun _ => False) s.h ∧
    s.h.get K.next = some (.row [.int .i64 x.slot, .int .i64 x.index, .int .i64 x.many, w] 0 false) ∧ ((w = .slice none 0 0 ∧ x.data.length = 0) ∨ ∃ id c ds, w = .slice (some ⟨id, 0, none⟩) x.data.length c ∧ hB.next + 2 ≤ id ∧ id < K.next ∧ s.h.get id = some (.row ds 1 false) ∧ x.data.length ≤ ds.length ∧ ∀ y ∈ ds, ∃ m, y = .int .u8 m)) (fun j => x.data.length - j) 0 ?_ ?_
  · simp -implicitDefEqProofs (disch := first | omega | (simp -implicitDefEqProofs only [go_sem, List.size_toArray, List.length_cons, List.length_nil, Nat.reduceAdd]; done)) only [go_sem, Int.reduceLT, Int.reduceLE, Int.reduceEq, reduceIte, true_and, Nat.zero_add, Nat.add_zero, Option.map_some]
    refine ⟨rfl, Nat.zero_le _, r2, gp, ?_⟩
    rcases hw with hw | ⟨id, c, ds, e1, e2, e3, e4, e5, e6⟩
    · exact .inl hw
    · exact .inr ⟨id, c, ds, e1, by omega, e3, (oth _ (by omega)).trans ((hE1.get _ e3).trans e4), e5, e6⟩
  · rintro j ⟨fr1, df1, hh, rd1⟩ K' hK' hX ⟨rfl, f8, f77, f78, hj, r3, gp3, hd⟩
    simp only at f8 f77 f78 r3 gp3 hd
    simp -implicitDefEqProofs (disch := first | omega | (simp -implicitDefEqProofs only [go_sem, List.size_toArray, List.length_cons, List.length_nil, Nat.reduceAdd]; done)) only [go_sem, Int.reduceLT, Int.reduceLE, Int.reduceEq, reduceIte, true_and, Nat.zero_add, Nat.add_zero, Option.map_some, f77, f78]
    refine XIf_dec (fun hc1 => ?_) (fun hc1 => ?_)
    · have hj1 : j < x.data.length := by omega
      rcases hd with ⟨_, h0⟩ | ⟨id, c, ds, e1, e2, e3, e4, e5, e6⟩
      · omega
      have c3' : cellAt hh K.next 3 = some (.slice (some ⟨id, 0, none⟩) x.data.length c) := by rw [← e1]; exact cellAt_row gp3
      have hia : dIndexAddr Try.prog 22 (.slice (some ⟨id, 0, none⟩) x.data.length c) (.int .i64 (j : Nat)) = some (.pointer (some ⟨id, j, none⟩)) := by
        rw [ia_22 (by omega) (by omega)]
        simp
      have hjd : j < ds.length := by omega
      obtain ⟨m, hm⟩ := e6 _ (List.getElem_mem hjd)
      have ld : cellAt hh id j = some (.int .u8 m) := by rw [cellAt_row e4, List.getElem?_eq_getElem hjd, hm]
      have hs : ∀ m, storeAt hh id j [.int .u8 m] = some (hh.set id (.row (ds.set j (.int .u8 m)) 1 false)) := fun m => storeAt_row e4 hjd rfl
      have hw1 := wrap_succ hj1 (by omega)
      simp -implicitDefEqProofs (disch := first | omega | (simp -implicitDefEqProofs only [go_sem, List.size_toArray, List.length_cons, List.length_nil, Nat.reduceAdd]; done)) only [go_sem, Int.reduceLT, Int.reduceLE, Int.reduceEq, reduceIte, true_and, Nat.zero_add, Nat.add_zero, Option.map_some, f8, f78, c3', hia, ld, bin_xor, hs, hw1]
      refine hK' (j + 1) _ ?_ (by omega)
      refine ⟨by trivial, by simp -implicitDefEqProofs (disch := first | omega | (simp -implicitDefEqProofs only [go_sem, List.size_toArray, List.length_cons, List.length_nil, Nat.reduceAdd]; done)) only [go_sem, Int.reduceLT, Int.reduceLE, Int.reduceEq, reduceIte, true_and, Nat.zero_add, Nat.add_zero, Option.map_some, f8], by simp -implicitDefEqProofs (disch := first | omega | (simp -implicitDefEqProofs only [go_sem, List.size_toArray, List.length_cons, List.length_nil, Nat.reduceAdd]; done)) only [go_sem, Int.reduceLT, Int.reduceLE, Int.reduceEq, reduceIte, true_and, Nat.zero_add, Nat.add_zero, Option.map_some, f77], by simp -implicitDefEqProofs (disch := first | omega | (simp -implicitDefEqProofs only [go_sem, List.size_toArray, List.length_cons, List.length_nil, Nat.reduceAdd]; done)) only [go_sem, Int.reduceLT, Int.reduceLE, Int.reduceEq, reduceIte, true_and, Nat.zero_add, Nat.add_zero, Option.map_some], by omega, r3.setNew e2, (get_set_other _ _ (by omega)).trans gp3, .inr ⟨id, c, _, e1, e2, e3, get_set_same _ _, by rw [List.length_set]; exact e5, all_set e6⟩⟩
    · refine hX _ _ (by simp) ?_
      simp -implicitDefEqProofs (disch := first | omega | (simp -implicitDefEqProofs only [go_sem, List.size_toArray, List.length_cons, List.length_nil, Nat.reduceAdd]; done)) only [go_sem, Int.reduceLT, Int.reduceLE, Int.reduceEq, reduceIte, true_and, Nat.zero_add, Nat.add_zero, Option.map_some]
      refine ⟨D2, r3.lp, .inl ⟨rfl, ?_⟩⟩
      subst hD2
      exact r3.loop _
theorem own_loop {hB : DHeap} {fr : Fr} {cc : Nat} {vp : Value} {ps : List Part} {Q : DExit → St → Prop} (hlen : ps.length ≤ 65) (hdl : ∀ x ∈ ps, x.data.length ≤ 4294967296)
    (f73 : fr 73 = some (.func (.func 57) #[] #[.pointer (some ⟨cc, 0, none⟩)])) (hcc : cc < hB.next) (gcc : hB.get cc = some (.row [vp] 0 false)) (hvp : Arg rPart hB vp ps)
    (hA : ∀ H, OwnR hB fr ps.length H → Q .normal ⟨fr, [.mark hB.next], H.set (hB.next + 1) (.loop { ownD fr hB.next with state := .exhausted }), none⟩) :
    NC Try.prog 99 (.rangeFunc (T 73) #[74] fa7_0 fb7_0) Q ⟨fr, [], hB, none⟩ := by
  refine NC.range_yields (fv := .func (.func 57) #[] #[.pointer (some ⟨cc, 0, none⟩)]) (A := OwnR hB fr ps.length) (B := fun _ => False) rfl (by simp -implicitDefEqProofs (disch := first | omega | (simp -implicitDefEqProofs only [go_sem, List.size_toArray, List.length_cons, List.length_nil, Nat.reduceAdd]; done)) only [go_sem, Int.reduceLT, Int.reduceLE, Int.reduceEq, reduceIte, true_and, Nat.zero_add, Nat.add_zero, Option.map_some, f73]) (fun K => dTarget_func (by kernel_rfl) _ _ _ K) ?_ (fun H s => ⟨s.lp, hA H s⟩) (fun H s => s.elim)
  refine yields_c (D := ownD fr hB.next) (p := 74) (vp := vp) (ps := ps) (OwnR hB fr) (fun _ => False) rfl (Nat.le_of_ble_eq_true rfl) hlen hdl (Rng.start _ _ _) (fun i K s => ⟨s.lp, (s.old _ hcc (fun h => h)).trans gcc, ?_⟩) (fun i K K' s e => s.ext e) (fun i K K' x w s e hx hw _ _ _ hb => own_round (hdl x (List.mem_of_getElem? hx)) (s.ext e) hb s.nx)
  exact hvp.mono fun j hj => ⟨by have := s.nx; omega, s.old _ hj (fun h => h)⟩
end Go.Proofs.Ytlhgijpdhniddaa

namespace Go.Proofs.Ytlhgijpdhniddaa
open Go.D
set_option maxRecDepth 100000

def ChV (n : Int) (cv rv : Value) (cells : List Cell) (rows : List Row) (n' : Int) (cv' rv' : Value) (cells' : List Cell) (rows' : List Row) (i : Nat) (h : DHeap) (v : Value) : Prop :=
  match i with
  | 0 => v = .bool true
  | 1 => v = .bool true
  | 2 => v = stateV n cv rv
  | 3 => v = .int .i64 (checkE ⟨n, cells, rows⟩)
  | 4 => v = stateV n cv rv
  | 5 => v = .int .i64 (checkE ⟨n, cells, rows⟩)
  | 6 => v = .bool true
  | 7 => v = .bool true
  | 8 => v = .bool true
  | 9 => v = stateV n cv rv
  | 10 => v = stateV n' cv' rv'
  | 11 => v = Value.bool (sameState ⟨n, cells, rows⟩ ⟨n', cells', rows'⟩)
  | 12 => v = stateV n cv rv
  | 13 => v = stateV n' cv' rv'
  | 14 => v = Value.bool (sameState ⟨n, cells, rows⟩ ⟨n', cells', rows'⟩)
  | 15 => v = .bool true
  | 16 => v = .bool true
  | 17 => v = .bool true
  | 18 => v = stateV n cv rv
  | 19 => v = stateV n cv rv
  | 20 => v = .bool true
  | 21 => v = .bool true
  | 22 => v = .bool true
  | 23 => v = stateV n cv rv
  | 24 => ∃ vc vr, v = stateV n vc vr ∧ Arg fCell.rep h vc cells ∧ Arg rRow h vr rows
  | 25 => v = stateV n cv rv
  | 26 => v = .bool true
  | 27 => v = .bool true
  | 28 => v = .bool true
  | _ => True
theorem ChV.mono {n : Int} {cv rv : Value} {cells : List Cell} {rows : List Row} {n' : Int} {cv' rv' : Value} {cells' : List Cell} {rows' : List Row} (i : Nat) (h h' : DHeap) (v : Value) (e : Ext h h') (a : ChV n cv rv cells rows n' cv' rv' cells' rows' i h v) : ChV n cv rv cells rows n' cv' rv' cells' rows' i h' v := by
  match i with
  | 0 => exact a
  | 1 => exact a
  | 2 => exact a
  | 3 => exact a
  | 4 => exact a
  | 5 => exact a
  | 6 => exact a
  | 7 => exact a
  | 8 => exact a
  | 9 => exact a
  | 10 => exact a
  | 11 => exact a
  | 12 => exact a
  | 13 => exact a
  | 14 => exact a
  | 15 => exact a
  | 16 => exact a
  | 17 => exact a
  | 18 => exact a
  | 19 => exact a
  | 20 => exact a
  | 21 => exact a
  | 22 => exact a
  | 23 => exact a
  | 24 =>
    obtain ⟨vc, vr, e1, e2, e3⟩ := a
    exact ⟨vc, vr, e1, e2.ext e, e3.ext e⟩
  | 25 => exact a
  | 26 => exact a
  | 27 => exact a
  | 28 => exact a
  | _ + 29 => trivial
end Go.Proofs.Ytlhgijpdhniddaa

namespace Go.Proofs.Ytlhgijpdhniddaa
open Go.D
set_option maxRecDepth 100000

/-- how things lie while StateOwn writes -/
def OwnM (H0 : DHeap) (B C R : Nat) (d : Int) (n : Int) (vc : Value) (nc nr : Nat) (s : St) : Prop :=
  s.df = [] ∧ s.rd = none ∧ s.fr 1 = some (.pointer (some ⟨B, 0, none⟩)) ∧ s.fr 3 = some (.int .u64 d) ∧ s.fr 4 = some (.pointer (some ⟨C, 0, none⟩)) ∧ ∃ cs, OwnI H0 C R n vc nc nr cs s.h
set_option maxHeartbeats 1000000 in
theorem own_c {h : DHeap} {n : Int} {cv rv : Value} {cells : List Cell} {rows : List Row} (hn : inK .i64 n) (hc : Arg fCell.rep h cv cells) (hr : Arg rRow h rv rows) (hl1 : cells.length ≤ 16777216) (hl2 : rows.length ≤ 16777216) (hl3 : ∀ r ∈ rows, r.x.vs.length ≤ 4294967296) :
    DC Try.prog 7 [stateV n cv rv] h (.ret (.bool true)) h := by
  refine Ct.pure (go_7 (by simp) ?_) (vin_bool _)
  have c1 := hc.cells1
  have r1 := hr.cells1
  obtain ⟨u1, u2⟩ := partsS_len ⟨n, cells, rows⟩
  obtain ⟨H0, hH0⟩ : ∃ H, H = h.push (.row [.int .i64 n, cv, rv] 0 false) := ⟨_, rfl⟩
  have hE0 : Ext h H0 := by rw [hH0]; exact Ext.push1 _ _
  have g1 : H0.get h.next = some (.row [.int .i64 n, cv, rv] 0 false) := by rw [hH0]; exact get_push_same _ _
  have hH0n : H0.next = h.next + 1 := by rw [hH0]; rfl
  have L0 : ∀ K, Ext H0 K → cellsAt K h.next 0 3 = some (stateV n cv rv) := fun K e => by
    rw [cellsAt_row ((e.get _ (by omega)).trans g1) (Nat.le_of_ble_eq_true rfl)]; rfl
  simp -implicitDefEqProofs (disch := first | omega | (simp -implicitDefEqProofs only [go_sem, List.size_toArray, List.length_cons, List.length_nil, Nat.reduceAdd]; done)) only [go_sem, Int.reduceLT, Int.reduceLE, Int.reduceEq, reduceIte, true_and, Nat.zero_add, Nat.add_zero, Option.map_some, c7, next_push, ← hH0]
  refine ncall begun_c ?_
  simp -implicitDefEqProofs (disch := first | omega | (simp -implicitDefEqProofs only [go_sem, List.size_toArray, List.length_cons, List.length_nil, Nat.reduceAdd]; done)) only [go_sem, Int.reduceLT, Int.reduceLE, Int.reduceEq, reduceIte, true_and, Nat.zero_add, Nat.add_zero, Option.map_some, L0 H0 (.refl _)]
  refine ncall (refDigest_c hn (hc.ext hE0) (hr.ext hE0) hl1 hl2) ?_
  simp -implicitDefEqProofs (disch := first | omega | (simp -implicitDefEqProofs only [go_sem, List.size_toArray, List.length_cons, List.length_nil, Nat.reduceAdd]; done)) only [go_sem, Int.reduceLT, Int.reduceLE, Int.reduceEq, reduceIte, true_and, Nat.zero_add, Nat.add_zero, Option.map_some, L0 H0 (.refl _)]
  refine ncall_ct (stClone_c (hc.ext hE0) (hr.ext hE0) (by omega) (by omega) hl3) ?_
  rintro r h1 ⟨vc, vr, R, rfl, hR, hcl⟩
  have hcs := hcl.argC.isSlice
  have hvr := hcl.vr
  have hone : [Value.int .i64 n, vc, vr].all Value.oneCell' = true := by
    obtain ⟨_, _, rfl⟩ := hcs
    rw [hvr]
    rfl
  obtain ⟨C, hC⟩ : ∃ C, C = h1.next := ⟨_, rfl⟩
  obtain ⟨K0, hK0⟩ : ∃ K, K = h1.push (.row [.int .i64 n, vc, vr] 0 false) := ⟨_, rfl⟩
  obtain ⟨cs0, I0⟩ := OwnI.start (n := n) hcl hl3 hR hC hK0
  have el1 : ∀ K, dLen Try.prog #[23] vc K = some (.int .i64 (cells.length : Nat)) := fun K => by
    obtain ⟨_, _, e⟩ := hcs
    rw [e]
    exact dLen_slice rfl isl_23
  have el2 : ∀ K, dLen Try.prog #[24] (.slice (some ⟨R, 0, none⟩) rows.length rows.length) K = some (.int .i64 (rows.length : Nat)) := fun K => dLen_slice rfl isl_24
  have lc : ∀ {cs K}, OwnI H0 C R n vc cells.length rows.length cs K → cellAt K C 1 = some vc := fun a => cellAt_row a.gC
  have lr : ∀ {cs K}, OwnI H0 C R n vc cells.length rows.length cs K → cellAt K C 2 = some (.slice (some ⟨R, 0, none⟩) rows.length rows.length) := fun a => cellAt_row a.gC
  simp -implicitDefEqProofs (disch := first | omega | (simp -implicitDefEqProofs only [go_sem, List.size_toArray, List.length_cons, List.length_nil, Nat.reduceAdd]; done)) only [go_sem, Int.reduceLT, Int.reduceLE, Int.reduceEq, reduceIte, true_and, Nat.zero_add, Nat.add_zero, Option.map_some, XEnd, zero3 (K := h1) hone, ← hK0]
  simp -implicitDefEqProofs (disch := first | omega | (simp -implicitDefEqProofs only [go_sem, List.size_toArray, List.length_cons, List.length_nil, Nat.reduceAdd]; done)) only [go_sem, Int.reduceLT, Int.reduceLE, Int.reduceEq, reduceIte, true_and, Nat.zero_add, Nat.add_zero, Option.map_some, ← hC, lc I0, el1]
  obtain ⟨d, hd⟩ : ∃ d, digE ⟨n, cells, rows⟩ = d := ⟨_, rfl⟩
  rw [hd]
  refine XLoop_cut (OwnM H0 h.next C R d n vc cells.length rows.length) ?_ ?_
  · refine xloop (σ := Nat) (by kernel_rfl) (fun i s => OwnM H0 h.next C R d n vc cells.length rows.length s ∧ s.fr 18 = some (.int .i64 (cells.length : Nat)) ∧ s.fr 19 = some (.int .i64 (i : Nat)) ∧ i ≤ cells.length) (fun i => cells.length - i) 0 ?_ ?_
    · refine ⟨⟨rfl, rfl, by simp -implicitDefEqProofs (disch := first | omega | (simp -implicitDefEqProofs only [go_sem, List.size_toArray, List.length_cons, List.length_nil, Nat.reduceAdd]; done)) only [go_sem, Int.reduceLT, Int.reduceLE, Int.reduceEq, reduceIte, true_and, Nat.zero_add, Nat.add_zero, Option.map_some], by simp -implicitDefEqProofs (disch := first | omega | (simp -implicitDefEqProofs only [go_sem, List.size_toArray, List.length_cons, List.length_nil, Nat.reduceAdd]; done)) only [go_sem, Int.reduceLT, Int.reduceLE, Int.reduceEq, reduceIte, true_and, Nat.zero_add, Nat.add_zero, Option.map_some], by simp -implicitDefEqProofs (disch := first | omega | (simp -implicitDefEqProofs only [go_sem, List.size_toArray, List.length_cons, List.length_nil, Nat.reduceAdd]; done)) only [go_sem, Int.reduceLT, Int.reduceLE, Int.reduceEq, reduceIte, true_and, Nat.zero_add, Nat.add_zero, Option.map_some], cs0, I0⟩, by simp -implicitDefEqProofs (disch := first | omega | (simp -implicitDefEqProofs only [go_sem, List.size_toArray, List.length_cons, List.length_nil, Nat.reduceAdd]; done)) only [go_sem, Int.reduceLT, Int.reduceLE, Int.reduceEq, reduceIte, true_and, Nat.zero_add, Nat.add_zero, Option.map_some], by simp -implicitDefEqProofs (disch := first | omega | (simp -implicitDefEqProofs only [go_sem, List.size_toArray, List.length_cons, List.length_nil, Nat.reduceAdd]; done)) only [go_sem, Int.reduceLT, Int.reduceLE, Int.reduceEq, reduceIte, true_and, Nat.zero_add, Nat.add_zero, Option.map_some]; rfl, Nat.zero_le _⟩
    · rintro i ⟨fr, df, K, rd⟩ K' hK' hX ⟨⟨hdf, hrd, f1, f3, f4, cs, I⟩, f18, f19, hi⟩
      simp only at hdf hrd f1 f3 f4 I f18 f19
      subst hdf hrd
      simp -implicitDefEqProofs (disch := first | omega | (simp -implicitDefEqProofs only [go_sem, List.size_toArray, List.length_cons, List.length_nil, Nat.reduceAdd]; done)) only [go_sem, Int.reduceLT, Int.reduceLE, Int.reduceEq, reduceIte, true_and, Nat.zero_add, Nat.add_zero, Option.map_some, f18, f19]
      refine XIf_dec (fun hc1 => ?_) (fun hc1 => ?_)
      · have hj : i < cells.length := by omega
        rcases I.cel with ⟨_, h0⟩ | ⟨id, cp, ds, e1, e2, e3, e4⟩
        · omega
        have lc' := lc I
        rw [e1] at lc'
        have hia : dIndexAddr Try.prog 23 (.slice (some ⟨id, 0, none⟩) cells.length cp) (.int .i64 (i : Nat)) = some (.pointer (some ⟨id, i * 4, none⟩)) := by
          rw [ia_23 (by omega) (by omega)]
          simp
        obtain ⟨_, em, m, rfl⟩ := e4 i hj
        have ld : cellAt K id (i * 4 + 2) = some (.int .i64 m) := by rw [cellAt_row e3]; exact em
        have hs : ∀ m, storeAt K id (i * 4 + 2) [.int .i64 m] = some (K.set id (.row (ds.set (i * 4 + 2) (.int .i64 m)) 4 false)) := fun m => storeAt_row e3 (List.getElem?_eq_some_iff.1 em).1 rfl
        have hw1 := wrap_succ hj (by omega)
        simp -implicitDefEqProofs (disch := first | omega | (simp -implicitDefEqProofs only [go_sem, List.size_toArray, List.length_cons, List.length_nil, Nat.reduceAdd]; done)) only [go_sem, Int.reduceLT, Int.reduceLE, Int.reduceEq, reduceIte, true_and, Nat.zero_add, Nat.add_zero, Option.map_some, f4, f19, lc', hia, ld, hs, hw1]
        refine hK' (i + 1) _ ?_ (by omega)
        exact ⟨⟨rfl, rfl, by simp -implicitDefEqProofs (disch := first | omega | (simp -implicitDefEqProofs only [go_sem, List.size_toArray, List.length_cons, List.length_nil, Nat.reduceAdd]; done)) only [go_sem, Int.reduceLT, Int.reduceLE, Int.reduceEq, reduceIte, true_and, Nat.zero_add, Nat.add_zero, Option.map_some, f1], by simp -implicitDefEqProofs (disch := first | omega | (simp -implicitDefEqProofs only [go_sem, List.size_toArray, List.length_cons, List.length_nil, Nat.reduceAdd]; done)) only [go_sem, Int.reduceLT, Int.reduceLE, Int.reduceEq, reduceIte, true_and, Nat.zero_add, Nat.add_zero, Option.map_some, f3], by simp -implicitDefEqProofs (disch := first | omega | (simp -implicitDefEqProofs only [go_sem, List.size_toArray, List.length_cons, List.length_nil, Nat.reduceAdd]; done)) only [go_sem, Int.reduceLT, Int.reduceLE, Int.reduceEq, reduceIte, true_and, Nat.zero_add, Nat.add_zero, Option.map_some, f4], cs, I.cell e2 e3 e4⟩, by simp -implicitDefEqProofs (disch := first | omega | (simp -implicitDefEqProofs only [go_sem, List.size_toArray, List.length_cons, List.length_nil, Nat.reduceAdd]; done)) only [go_sem, Int.reduceLT, Int.reduceLE, Int.reduceEq, reduceIte, true_and, Nat.zero_add, Nat.add_zero, Option.map_some, f18], by simp -implicitDefEqProofs (disch := first | omega | (simp -implicitDefEqProofs only [go_sem, List.size_toArray, List.length_cons, List.length_nil, Nat.reduceAdd]; done)) only [go_sem, Int.reduceLT, Int.reduceLE, Int.reduceEq, reduceIte, true_and, Nat.zero_add, Nat.add_zero, Option.map_some], by omega⟩
      · refine hX _ _ (by simp) ?_
        exact ⟨rfl, rfl, f1, f3, f4, cs, I⟩
  rintro ⟨fr, df, K, rd⟩ ⟨hdf, hrd, f1, f3, f4, cs, I⟩
  simp only at hdf hrd f1 f3 f4 I
  subst hdf hrd
  simp -implicitDefEqProofs (disch := first | omega | (simp -implicitDefEqProofs only [go_sem, List.size_toArray, List.length_cons, List.length_nil, Nat.reduceAdd]; done)) only [go_sem, Int.reduceLT, Int.reduceLE, Int.reduceEq, reduceIte, true_and, Nat.zero_add, Nat.add_zero, Option.map_some, f4, lr I, el2]
  refine XLoop_cut (OwnM H0 h.next C R d n vc cells.length rows.length) ?_ ?_
  · refine xloop (σ := Nat) (by kernel_rfl) (fun i s => OwnM H0 h.next C R d n vc cells.length rows.length s ∧ s.fr 34 = some (.int .i64 (rows.length : Nat)) ∧ s.fr 35 = some (.int .i64 (i : Nat)) ∧ i ≤ rows.length) (fun i => rows.length - i) 0 ?_ ?_
    · refine ⟨⟨rfl, rfl, by simp -implicitDefEqProofs (disch := first | omega | (simp -implicitDefEqProofs only [go_sem, List.size_toArray, List.length_cons, List.length_nil, Nat.reduceAdd]; done)) only [go_sem, Int.reduceLT, Int.reduceLE, Int.reduceEq, reduceIte, true_and, Nat.zero_add, Nat.add_zero, Option.map_some, f1], by simp -implicitDefEqProofs (disch := first | omega | (simp -implicitDefEqProofs only [go_sem, List.size_toArray, List.length_cons, List.length_nil, Nat.reduceAdd]; done)) only [go_sem, Int.reduceLT, Int.reduceLE, Int.reduceEq, reduceIte, true_and, Nat.zero_add, Nat.add_zero, Option.map_some, f3], by simp -implicitDefEqProofs (disch := first | omega | (simp -implicitDefEqProofs only [go_sem, List.size_toArray, List.length_cons, List.length_nil, Nat.reduceAdd]; done)) only [go_sem, Int.reduceLT, Int.reduceLE, Int.reduceEq, reduceIte, true_and, Nat.zero_add, Nat.add_zero, Option.map_some, f4], cs, I⟩, by simp -implicitDefEqProofs (disch := first | omega | (simp -implicitDefEqProofs only [go_sem, List.size_toArray, List.length_cons, List.length_nil, Nat.reduceAdd]; done)) only [go_sem, Int.reduceLT, Int.reduceLE, Int.reduceEq, reduceIte, true_and, Nat.zero_add, Nat.add_zero, Option.map_some], by simp -implicitDefEqProofs (disch := first | omega | (simp -implicitDefEqProofs only [go_sem, List.size_toArray, List.length_cons, List.length_nil, Nat.reduceAdd]; done)) only [go_sem, Int.reduceLT, Int.reduceLE, Int.reduceEq, reduceIte, true_and, Nat.zero_add, Nat.add_zero, Option.map_some]; rfl, Nat.zero_le _⟩
    · clear f1 f3 f4 I cs K fr
      rintro i ⟨fr, df, K, rd⟩ K' hK' hX ⟨⟨hdf, hrd, f1, f3, f4, cs, I⟩, f34, f35, hi⟩
      simp only at hdf hrd f1 f3 f4 I f34 f35
      subst hdf hrd
      simp -implicitDefEqProofs (disch := first | omega | (simp -implicitDefEqProofs only [go_sem, List.size_toArray, List.length_cons, List.length_nil, Nat.reduceAdd]; done)) only [go_sem, Int.reduceLT, Int.reduceLE, Int.reduceEq, reduceIte, true_and, Nat.zero_add, Nat.add_zero, Option.map_some, f34, f35]
      refine XIf_dec (fun hc1 => ?_) (fun hc1 => ?_)
      · have hj : i < rows.length := by omega
        have hia : dIndexAddr Try.prog 24 (.slice (some ⟨R, 0, none⟩) rows.length rows.length) (.int .i64 (i : Nat)) = some (.pointer (some ⟨R, i * 6, none⟩)) := by
          rw [ia_24 (by omega) (by omega)]
          simp
        obtain ⟨_, em, m, rfl⟩ := I.req i hj
        have ld : cellAt K R (i * 6 + 1) = some (.int .i64 m) := by rw [cellAt_row I.gR]; exact em
        have hs : ∀ m, storeAt K R (i * 6 + 1) [.int .i64 m] = some (K.set R (.row (cs.set (i * 6 + 1) (.int .i64 m)) 6 false)) := fun m => storeAt_row I.gR (List.getElem?_eq_some_iff.1 em).1 rfl
        have hw1 := wrap_succ hj (by omega)
        obtain ⟨m1, hm1⟩ : ∃ m1, IntKind.i64.wrap (m + 1) = m1 := ⟨_, rfl⟩
        have I1 := I.row (i := i) (m := m1)
        obtain ⟨cs1, hcs1⟩ : ∃ c, c = cs.set (i * 6 + 1) (.int .i64 m1) := ⟨_, rfl⟩
        obtain ⟨K1, hK1⟩ : ∃ c, c = K.set R (.row (cs.set (i * 6 + 1) (.int .i64 m1)) 6 false) := ⟨_, rfl⟩
        rw [← hK1, ← hcs1] at I1
        obtain ⟨v, ev, hv⟩ := I1.val i hj
        have lv : ∀ {K}, OwnI H0 C R n vc cells.length rows.length cs1 K → cellAt K R (i * 6 + 2 + 1) = some v := fun a => by rw [cellAt_row a.gR]; exact ev
        obtain ⟨mm, hmm⟩ : ∃ mm : Nat, ∃ a c, v = .slice a mm c := by
          rcases hv with rfl | ⟨_, _, mm, _, _, rfl, _⟩
          · exact ⟨0, _, _, rfl⟩
          · exact ⟨mm, _, _, rfl⟩
        have el3 : ∀ K, dLen Try.prog #[51] v K = some (.int .i64 (mm : Nat)) := fun K => by
          obtain ⟨_, _, e⟩ := hmm
          rw [e]
          exact dLen_slice rfl isl_51
        simp -implicitDefEqProofs (disch := first | omega | (simp -implicitDefEqProofs only [go_sem, List.size_toArray, List.length_cons, List.length_nil, Nat.reduceAdd]; done)) only [go_sem, Int.reduceLT, Int.reduceLE, Int.reduceEq, reduceIte, true_and, Nat.zero_add, Nat.add_zero, Option.map_some, f4, f35, lr I, hia, ld, hm1, hs, ← hK1, lr I1, lv I1, el3]
        refine xloop (σ := Nat) (by kernel_rfl) (fun k s => s.df = [] ∧ s.rd = none ∧ s.fr 1 = some (.pointer (some ⟨h.next, 0, none⟩)) ∧ s.fr 3 = some (.int .u64 d) ∧ s.fr 4 = some (.pointer (some ⟨C, 0, none⟩)) ∧ s.fr 34 = some (.int .i64 (rows.length : Nat)) ∧ s.fr 35 = some (.int .i64 (i : Nat)) ∧ s.fr 6 = some (.int .i64 (i : Nat)) ∧ s.fr 54 = some (.int .i64 (mm : Nat)) ∧ s.fr 55 = some (.int .i64 (k : Nat)) ∧ k ≤ mm ∧ OwnI H0 C R n vc cells.length rows.length cs1 s.h) (fun k => mm - k) 0 ?_ ?_
        · exact ⟨rfl, rfl, by simp -implicitDefEqProofs (disch := first | omega | (simp -implicitDefEqProofs only [go_sem, List.size_toArray, List.length_cons, List.length_nil, Nat.reduceAdd]; done)) only [go_sem, Int.reduceLT, Int.reduceLE, Int.reduceEq, reduceIte, true_and, Nat.zero_add, Nat.add_zero, Option.map_some, f1], by simp -implicitDefEqProofs (disch := first | omega | (simp -implicitDefEqProofs only [go_sem, List.size_toArray, List.length_cons, List.length_nil, Nat.reduceAdd]; done)) only [go_sem, Int.reduceLT, Int.reduceLE, Int.reduceEq, reduceIte, true_and, Nat.zero_add, Nat.add_zero, Option.map_some, f3], by simp -implicitDefEqProofs (disch := first | omega | (simp -implicitDefEqProofs only [go_sem, List.size_toArray, List.length_cons, List.length_nil, Nat.reduceAdd]; done)) only [go_sem, Int.reduceLT, Int.reduceLE, Int.reduceEq, reduceIte, true_and, Nat.zero_add, Nat.add_zero, Option.map_some, f4], by simp -implicitDefEqProofs (disch := first | omega | (simp -implicitDefEqProofs only [go_sem, List.size_toArray, List.length_cons, List.length_nil, Nat.reduceAdd]; done)) only [go_sem, Int.reduceLT, Int.reduceLE, Int.reduceEq, reduceIte, true_and, Nat.zero_add, Nat.add_zero, Option.map_some, f34], by simp -implicitDefEqProofs (disch := first | omega | (simp -implicitDefEqProofs only [go_sem, List.size_toArray, List.length_cons, List.length_nil, Nat.reduceAdd]; done)) only [go_sem, Int.reduceLT, Int.reduceLE, Int.reduceEq, reduceIte, true_and, Nat.zero_add, Nat.add_zero, Option.map_some, f35], by simp -implicitDefEqProofs (disch := first | omega | (simp -implicitDefEqProofs only [go_sem, List.size_toArray, List.length_cons, List.length_nil, Nat.reduceAdd]; done)) only [go_sem, Int.reduceLT, Int.reduceLE, Int.reduceEq, reduceIte, true_and, Nat.zero_add, Nat.add_zero, Option.map_some], by simp -implicitDefEqProofs (disch := first | omega | (simp -implicitDefEqProofs only [go_sem, List.size_toArray, List.length_cons, List.length_nil, Nat.reduceAdd]; done)) only [go_sem, Int.reduceLT, Int.reduceLE, Int.reduceEq, reduceIte, true_and, Nat.zero_add, Nat.add_zero, Option.map_some], by simp -implicitDefEqProofs (disch := first | omega | (simp -implicitDefEqProofs only [go_sem, List.size_toArray, List.length_cons, List.length_nil, Nat.reduceAdd]; done)) only [go_sem, Int.reduceLT, Int.reduceLE, Int.reduceEq, reduceIte, true_and, Nat.zero_add, Nat.add_zero, Option.map_some]; rfl, Nat.zero_le _, I1⟩
        · clear I ld hs em hK1 I1 f1 f3 f4 f34 f35 hv hm1 hcs1 K1 cs K fr
          rintro k ⟨fr, df, K, rd⟩ Kx hKx hXx ⟨hdf, hrd, f1, f3, f4, f34, f35, f6, f54, f55, hk, I⟩
          simp only at hdf hrd f1 f3 f4 f34 f35 f6 f54 f55 I
          subst hdf hrd
          simp -implicitDefEqProofs (disch := first | omega | (simp -implicitDefEqProofs only [go_sem, List.size_toArray, List.length_cons, List.length_nil, Nat.reduceAdd]; done)) only [go_sem, Int.reduceLT, Int.reduceLE, Int.reduceEq, reduceIte, true_and, Nat.zero_add, Nat.add_zero, Option.map_some, f54, f55]
          refine XIf_dec (fun hc2 => ?_) (fun hc2 => ?_)
          · have hkm : k < mm := by omega
            obtain ⟨v', ev', hv'⟩ := I.val i hj
            have hvv : v' = v := by rw [ev] at ev'; exact (Option.some.inj ev').symm
            subst hvv
            rcases hv' with rfl | ⟨id, o, m', cp, ds, rfl, e2, e3, e4, e4', e5⟩
            · obtain ⟨_, _, e⟩ := hmm
              cases e
              omega
            obtain ⟨_, _, e⟩ := hmm
            cases e
            have hia2 : dIndexAddr Try.prog 51 (.slice (some ⟨id, o, none⟩) mm cp) (.int .i64 (k : Nat)) = some (.pointer (some ⟨id, o + k, none⟩)) := by
              rw [ia_51 (by omega) (by omega)]
              simp
            have hjd : o + k < ds.length := by omega
            obtain ⟨m2, hm2⟩ := e5 _ (List.getElem_mem hjd)
            have ld2 : cellAt K id (o + k) = some (.int .i64 m2) := by rw [cellAt_row e3, List.getElem?_eq_getElem hjd, hm2]
            have hs2 : ∀ m, storeAt K id (o + k) [.int .i64 m] = some (K.set id (.row (ds.set (o + k) (.int .i64 m)) 1 false)) := fun m => storeAt_row e3 hjd rfl
            have hw2 : IntKind.i64.wrap ((k : Int) + 1) = ((k + 1 : Nat) : Int) := wrap_succ hkm (by omega)
            simp -implicitDefEqProofs (disch := first | omega | (simp -implicitDefEqProofs only [go_sem, List.size_toArray, List.length_cons, List.length_nil, Nat.reduceAdd]; done)) only [go_sem, Int.reduceLT, Int.reduceLE, Int.reduceEq, reduceIte, true_and, Nat.zero_add, Nat.add_zero, Option.map_some, f4, f6, f55, lr I, hia, lv I, hia2, ld2, hs2, hw2]
            refine hKx (k + 1) _ ?_ (by omega)
            exact ⟨rfl, rfl, by simp -implicitDefEqProofs (disch := first | omega | (simp -implicitDefEqProofs only [go_sem, List.size_toArray, List.length_cons, List.length_nil, Nat.reduceAdd]; done)) only [go_sem, Int.reduceLT, Int.reduceLE, Int.reduceEq, reduceIte, true_and, Nat.zero_add, Nat.add_zero, Option.map_some, f1], by simp -implicitDefEqProofs (disch := first | omega | (simp -implicitDefEqProofs only [go_sem, List.size_toArray, List.length_cons, List.length_nil, Nat.reduceAdd]; done)) only [go_sem, Int.reduceLT, Int.reduceLE, Int.reduceEq, reduceIte, true_and, Nat.zero_add, Nat.add_zero, Option.map_some, f3], by simp -implicitDefEqProofs (disch := first | omega | (simp -implicitDefEqProofs only [go_sem, List.size_toArray, List.length_cons, List.length_nil, Nat.reduceAdd]; done)) only [go_sem, Int.reduceLT, Int.reduceLE, Int.reduceEq, reduceIte, true_and, Nat.zero_add, Nat.add_zero, Option.map_some, f4], by simp -implicitDefEqProofs (disch := first | omega | (simp -implicitDefEqProofs only [go_sem, List.size_toArray, List.length_cons, List.length_nil, Nat.reduceAdd]; done)) only [go_sem, Int.reduceLT, Int.reduceLE, Int.reduceEq, reduceIte, true_and, Nat.zero_add, Nat.add_zero, Option.map_some, f34], by simp -implicitDefEqProofs (disch := first | omega | (simp -implicitDefEqProofs only [go_sem, List.size_toArray, List.length_cons, List.length_nil, Nat.reduceAdd]; done)) only [go_sem, Int.reduceLT, Int.reduceLE, Int.reduceEq, reduceIte, true_and, Nat.zero_add, Nat.add_zero, Option.map_some, f35], by simp -implicitDefEqProofs (disch := first | omega | (simp -implicitDefEqProofs only [go_sem, List.size_toArray, List.length_cons, List.length_nil, Nat.reduceAdd]; done)) only [go_sem, Int.reduceLT, Int.reduceLE, Int.reduceEq, reduceIte, true_and, Nat.zero_add, Nat.add_zero, Option.map_some, f6], by simp -implicitDefEqProofs (disch := first | omega | (simp -implicitDefEqProofs only [go_sem, List.size_toArray, List.length_cons, List.length_nil, Nat.reduceAdd]; done)) only [go_sem, Int.reduceLT, Int.reduceLE, Int.reduceEq, reduceIte, true_and, Nat.zero_add, Nat.add_zero, Option.map_some, f54], by simp -implicitDefEqProofs (disch := first | omega | (simp -implicitDefEqProofs only [go_sem, List.size_toArray, List.length_cons, List.length_nil, Nat.reduceAdd]; done)) only [go_sem, Int.reduceLT, Int.reduceLE, Int.reduceEq, reduceIte, true_and, Nat.zero_add, Nat.add_zero, Option.map_some], by omega, I.num e2 e3⟩
          · refine hXx _ _ (by simp) ?_
            simp -implicitDefEqProofs (disch := first | omega | (simp -implicitDefEqProofs only [go_sem, List.size_toArray, List.length_cons, List.length_nil, Nat.reduceAdd]; done)) only [go_sem, Int.reduceLT, Int.reduceLE, Int.reduceEq, reduceIte, true_and, Nat.zero_add, Nat.add_zero, Option.map_some, f35, hw1]
            refine hK' (i + 1) _ ?_ (by omega)
            exact ⟨⟨rfl, rfl, by simp -implicitDefEqProofs (disch := first | omega | (simp -implicitDefEqProofs only [go_sem, List.size_toArray, List.length_cons, List.length_nil, Nat.reduceAdd]; done)) only [go_sem, Int.reduceLT, Int.reduceLE, Int.reduceEq, reduceIte, true_and, Nat.zero_add, Nat.add_zero, Option.map_some, f1], by simp -implicitDefEqProofs (disch := first | omega | (simp -implicitDefEqProofs only [go_sem, List.size_toArray, List.length_cons, List.length_nil, Nat.reduceAdd]; done)) only [go_sem, Int.reduceLT, Int.reduceLE, Int.reduceEq, reduceIte, true_and, Nat.zero_add, Nat.add_zero, Option.map_some, f3], by simp -implicitDefEqProofs (disch := first | omega | (simp -implicitDefEqProofs only [go_sem, List.size_toArray, List.length_cons, List.length_nil, Nat.reduceAdd]; done)) only [go_sem, Int.reduceLT, Int.reduceLE, Int.reduceEq, reduceIte, true_and, Nat.zero_add, Nat.add_zero, Option.map_some, f4], cs1, I⟩, by simp -implicitDefEqProofs (disch := first | omega | (simp -implicitDefEqProofs only [go_sem, List.size_toArray, List.length_cons, List.length_nil, Nat.reduceAdd]; done)) only [go_sem, Int.reduceLT, Int.reduceLE, Int.reduceEq, reduceIte, true_and, Nat.zero_add, Nat.add_zero, Option.map_some, f34], by simp -implicitDefEqProofs (disch := first | omega | (simp -implicitDefEqProofs only [go_sem, List.size_toArray, List.length_cons, List.length_nil, Nat.reduceAdd]; done)) only [go_sem, Int.reduceLT, Int.reduceLE, Int.reduceEq, reduceIte, true_and, Nat.zero_add, Nat.add_zero, Option.map_some], by omega⟩
      · refine hX _ _ (by simp) ?_
        exact ⟨rfl, rfl, f1, f3, f4, cs, I⟩
  clear f1 f3 f4 I cs K fr
  rintro ⟨fr, df, K, rd⟩ ⟨hdf, hrd, f1, f3, f4, cs, I⟩
  simp only at hdf hrd f1 f3 f4 I
  subst hdf hrd
  have hEK := hE0.trans I.ext
  simp -implicitDefEqProofs (disch := first | omega | (simp -implicitDefEqProofs only [go_sem, List.size_toArray, List.length_cons, List.length_nil, Nat.reduceAdd]; done)) only [go_sem, Int.reduceLT, Int.reduceLE, Int.reduceEq, reduceIte, true_and, Nat.zero_add, Nat.add_zero, Option.map_some, f1, L0 K I.ext]
  refine ncall_ct (parts_c hn (hc.ext hEK) (hr.ext hEK) hl1 hl2) ?_
  rintro r h2 ⟨cc, vp, rfl, hE2, _, hcc, gcc, hvp⟩
  have hEB := I.ext.trans hE2
  simp -implicitDefEqProofs (disch := first | omega | (simp -implicitDefEqProofs only [go_sem, List.size_toArray, List.length_cons, List.length_nil, Nat.reduceAdd]; done)) only [go_sem, Int.reduceLT, Int.reduceLE, Int.reduceEq, reduceIte, true_and, Nat.zero_add, Nat.add_zero, Option.map_some, XEnd]
  refine own_loop (cc := cc) (vp := vp) u1 u2 (by simp -implicitDefEqProofs (disch := first | omega | (simp -implicitDefEqProofs only [go_sem, List.size_toArray, List.length_cons, List.length_nil, Nat.reduceAdd]; done)) only [go_sem, Int.reduceLT, Int.reduceLE, Int.reduceEq, reduceIte, true_and, Nat.zero_add, Nat.add_zero, Option.map_some]) hcc gcc (hvp.mono fun i hi => ⟨hi.2.1, rfl⟩) (fun H rr => ?_)
  generalize hHf : H.set (h2.next + 1) _ = Hf
  have nr := rr.nx
  have oth : ∀ j, j ≠ h2.next + 1 → Hf.get j = H.get j := fun j hj => by rw [← hHf]; exact get_set_other _ _ hj
  have hBn := hEB.next
  have hEf : Ext H0 Hf := by rw [← hHf]; exact (rr.below hEB fun j hj => hj.elim).set (by omega)
  have hM : Hf.get h2.next = some (.marks true) := (oth _ (by omega)).trans rr.mrk
  have hEg := hE0.trans hEf
  simp -implicitDefEqProofs (disch := first | omega | (simp -implicitDefEqProofs only [go_sem, List.size_toArray, List.length_cons, List.length_nil, Nat.reduceAdd]; done)) only [go_sem, Int.reduceLT, Int.reduceLE, Int.reduceEq, reduceIte, true_and, Nat.zero_add, Nat.add_zero, Option.map_some, f1, L0 Hf hEf]
  refine ncall (refDigest_c hn (hc.ext hEg) (hr.ext hEg) hl1 hl2) ?_
  rw [hd]
  simp -implicitDefEqProofs (disch := first | omega | (simp -implicitDefEqProofs only [go_sem, List.size_toArray, List.length_cons, List.length_nil, Nat.reduceAdd]; done)) only [go_sem, Int.reduceLT, Int.reduceLE, Int.reduceEq, reduceIte, true_and, Nat.zero_add, Nat.add_zero, Option.map_some, f1, f3, L0 Hf hEf]
  refine ncall (digest_c hn (hc.ext hEg) (hr.ext hEg) hl1 hl2) ?_
  rw [hd]
  simp -implicitDefEqProofs (disch := first | omega | (simp -implicitDefEqProofs only [go_sem, List.size_toArray, List.length_cons, List.length_nil, Nat.reduceAdd]; done)) only [go_sem, Int.reduceLT, Int.reduceLE, Int.reduceEq, reduceIte, true_and, Nat.zero_add, Nat.add_zero, Option.map_some, f3, dPick_t]
  refine XLv_mark hM ?_
  simp -implicitDefEqProofs (disch := first | omega | (simp -implicitDefEqProofs only [go_sem, List.size_toArray, List.length_cons, List.length_nil, Nat.reduceAdd]; done)) only [go_sem, Int.reduceLT, Int.reduceLE, Int.reduceEq, reduceIte, true_and, Nat.zero_add, Nat.add_zero, Option.map_some]
  exact ⟨_, rfl, rfl, hEg.set (by omega)⟩
end Go.Proofs.Ytlhgijpdhniddaa

namespace Go.Proofs.Ytlhgijpdhniddaa.lawOwn
open Go.D
open Go.ChangeShapes Go.WideShapes Go.ChangeAt Go.RowKit
theorem own : ownKnob Try.prog.godebug = none := by kernel_rfl
set_option maxRecDepth 100000 in
theorem lifted (os : Os) (started : os.Started) (H : Type) (enc : TypeId × Value → H) (F : Stop.Interp) :
    ReturnsInHanded {} Try.checked os 7 .any ((Rows.OpenSpec.upto Rows.stateOwnSpec).pre6 enc Try.prog Try.f7 Rows.stateOwnUptoRow.domain false) (((Rows.OpenSpec.upto Rows.stateOwnSpec).at F).post enc Try.prog Try.f7 false true false false) := by
  refine returnsInHanded_of_cond (C := Try.checked) (s := Rows.OpenSpec.upto Rows.stateOwnSpec) (k := Rows.uptoSmall) rfl own started (by kernel_rfl) Try.func7
    (OpenSpec.witness (enc := enc) (C := Try.checked) (s := Rows.OpenSpec.upto Rows.stateOwnSpec) (k := Rows.uptoSmall) rfl false ⟨#[], #[.agg #[.int .i64 0, .slice none 0 0, .slice none 0 0]], []⟩ 8 (by kernel_rfl) (by kernel_rfl) (by kernel_rfl)
      (x := ([.agg [.lit (.int .i64 0), .nil, .nil]], [], [])) (by kernel_rfl) rfl (by kernel_rfl)) ?_
  intro W base args ds gs before hval hW _ hk _
  refine law_kept (by kernel_rfl)
    (.cons (agg := true) par_state lay_state .nil) (tb := 4) (by kernel_rfl) (by kernel_rfl) rfl (fun ds hl => ?_) (fun h vs x hng hq hB => ?_) W base args ds gs before hval hW hk
  · match ds, hl with
    | [d0], _ => rfl
  · obtain ⟨cs, vs1, rfl, h1, rfl⟩ := hq
    obtain ⟨vc, vr, rfl, k1, k2, k3⟩ := state_in h1
    obtain ⟨m1, m2, m3⟩ := bulk_state x.1
    exact (own_c k1 k2 k3 (by omega) (by omega) (fun r hr => by have := m3 r hr; omega)).ct rfl
theorem p1 : Try.pinned.checked.prog.funcNamed Rows.stateOwnUptoRow.func = some 7 := by kernel_rfl
theorem p2 : joinedFacts Try.pinned.checked.prog 7 Try.f7 (Rows.OpenSpec.upto Rows.stateOwnSpec).bare Rows.stateOwnUptoRow = true := by kernel_rfl
theorem p3 : Try.f7.isInstance Try.pinned.checked.prog Rows.stateOwnUptoRow.origin Rows.stateOwnUptoRow.targs := of_decide_eq_true (by kernel_rfl)
theorem p4 : Try.f7.isWrapper Try.pinned.checked.prog Rows.stateOwnUptoRow.wrapper Rows.stateOwnUptoRow.mainSum := by unfold Func.isWrapper; first | (rw [if_pos (by decide +kernel)]; kernel_rfl) | (rw [if_neg (by decide +kernel)]; exact ⟨rfl, rfl⟩)
theorem proved : Rows.StateOwnUptoSaid :=
  OpenClaim.holds_of_cond 7 Try.f7 rfl rfl rfl rfl rfl rfl rfl ⟨rfl, rfl, rfl, rfl, rfl⟩ rfl rfl rfl rfl rfl p1 Try.func7 p2 p3 p4
    (fun os started H enc _ F => lifted os started H enc F)
end Go.Proofs.Ytlhgijpdhniddaa.lawOwn
