/-
StateApart: for every input of bulk at most 1048576 the law returns true, and the input reads as it did. Conditions: none.
-/
import Derived.Test.YtlhgijpdhniddaaRows
import Derived.WalkKit
import Derived.ProofKit
import Derived.OpenShut
import Derived.JoinedCond
import Derived.Test.YtlhgijpdhniddaaBase1
import Derived.Test.YtlhgijpdhniddaaBase2
import Derived.Test.YtlhgijpdhniddaaSA1
import Derived.Test.YtlhgijpdhniddaaSA2
import Derived.Test.YtlhgijpdhniddaaSA3
set_option linter.unusedSimpArgs false
set_option linter.unusedVariables false
namespace Go.Proofs.Ytlhgijpdhniddaa
open Go.D
set_option maxRecDepth 100000

theorem drop_le {l r : List Int} {a : Nat} (h : l.drop a = r) (hr : r ≠ []) : a < l.length := by
  cases Nat.lt_or_ge a l.length with
  | inl h1 => exact h1
  | inr h1 => rw [List.drop_eq_nil_of_le h1] at h; exact absurd h.symm hr
theorem numA_rd {l r : List Int} {a : Nat} {n : Int} (hn : inK .i64 n) (h : l.drop a = numB n ++ r) : numA l a 0 = (n, a + (numB n).length, 0) ∧ l.drop (a + (numB n).length) = r := by
  unfold numA
  rw [if_pos rfl, h, take_num hn r]
  refine ⟨by simp, ?_⟩
  rw [← List.drop_drop, h, List.drop_left]
/-- what a state has may lie in memory -/
structure StOk (x : State) : Prop where
  slot : inK .i64 x.slot
  cells : ∀ c ∈ x.cells, fCell.ok c
  rows : ∀ r ∈ x.rows, RowOk r
  vals : ∀ r ∈ x.rows, ∀ v ∈ r.x.vs, inK .i64 v
theorem inK_len {α : Type} {l : List α} (h : l.length ≤ 4294967296) : inK .i64 (l.length : Int) := inK_i64.2 ⟨by omega, by omega⟩
theorem nums_cons (n : Int) (l : List Int) : numsB (n :: l) = numB n ++ numsB l := rfl
theorem nums_nil : numsB [] = [] := rfl
theorem cellA_rd {l r : List Int} {a : Nat} {c : Cell} {o : Bool} (hc : fCell.ok c) (h : l.drop a = cellB c ++ r) : ∃ a', cellA l a 0 o = (c, a', 0, o) ∧ l.drop a' = r := by
  obtain ⟨⟨k1, k2⟩, k3, k4⟩ := hc
  have k1' := inK_i32.1 k1
  simp only [cellB, nums_cons, nums_nil, List.append_nil, List.append_assoc] at h
  obtain ⟨x1, h⟩ := numA_rd (i32_i64 k1) h
  obtain ⟨x2, h⟩ := numA_rd k2 h
  obtain ⟨x3, h⟩ := numA_rd k3 h
  obtain ⟨x4, h⟩ := numA_rd k4 h
  refine ⟨_, ?_, h⟩
  rw [cell_form x1 x2 x3 x4, decide_eq_false (by omega), Bool.or_false, wrap_in k1]
theorem cellsA_rd {l r : List Int} {o : Bool} : ∀ {cs : List Cell} {a : Nat}, (∀ c ∈ cs, fCell.ok c) → l.drop a = cs.flatMap cellB ++ r → ∃ a', cellsA l cs.length a 0 o = (cs, a', 0, o) ∧ l.drop a' = r
  | [], a, _, h => ⟨a, rfl, h⟩
  | c :: cs, a, hc, h => by
    rw [List.flatMap_cons, List.append_assoc] at h
    obtain ⟨a1, x1, h1⟩ := cellA_rd (o := o) (hc c (by simp)) h
    obtain ⟨a2, x2, h2⟩ := cellsA_rd (o := o) (fun x hx => hc x (by simp [hx])) h1
    refine ⟨a2, ?_, h2⟩
    rw [List.length_cons, cellsA, if_pos rfl]
    simp only [x1, x2]
theorem valsA_rd {l r : List Int} : ∀ {vs : List Int} {a : Nat}, (∀ v ∈ vs, inK .i64 v) → l.drop a = numsB vs ++ r → ∃ a', valsA l vs.length a 0 = (vs, a', 0) ∧ l.drop a' = r
  | [], a, _, h => ⟨a, rfl, h⟩
  | v :: vs, a, hv, h => by
    rw [nums_cons, List.append_assoc] at h
    obtain ⟨x1, h1⟩ := numA_rd (hv v (by simp)) h
    obtain ⟨a2, x2, h2⟩ := valsA_rd (fun x hx => hv x (by simp [hx])) h1
    refine ⟨a2, ?_, h2⟩
    rw [List.length_cons, valsA]
    simp only [x1, x2]
theorem lenA_rd {l r : List Int} {a : Nat} {n most : Int} (hn : inK .i64 n) (h0 : 0 ≤ n ∧ n ≤ most) (h : l.drop a = numB n ++ r) : lenA l a 0 most = (n, a + (numB n).length, 0) ∧ l.drop (a + (numB n).length) = r := by
  obtain ⟨x, h⟩ := numA_rd hn h
  refine ⟨?_, h⟩
  unfold lenA
  rw [x]
  simp only
  rw [if_pos trivial, if_neg (by omega)]
theorem rowA_rd {l r : List Int} {a : Nat} {x : Row} (hx : RowOk x) (hv : ∀ v ∈ x.x.vs, inK .i64 v) (h8 : x.x.vs.length ≤ 8) (h : l.drop a = rowB x ++ r) : ∃ a', rowA id l a 0 = (x, a', 0) ∧ l.drop a' = r := by
  obtain ⟨ses, req, ⟨e, vs, s, p⟩⟩ := x
  simp only at hv h8
  have k1 := hx.ses; have k2 := hx.req; have k3 := hx.e; have k4 := hx.s; have k5 := hx.p
  simp only at k1 k2 k3 k4 k5
  simp only [rowB, nums_cons, nums_nil, List.append_nil, List.append_assoc] at h
  obtain ⟨x1, h⟩ := numA_rd k1 h
  obtain ⟨x2, h⟩ := numA_rd k2 h
  obtain ⟨x3, h⟩ := numA_rd k3 h
  obtain ⟨x4, h⟩ := lenA_rd (most := 8) (inK_len (l := vs) (by omega)) (by omega) h
  obtain ⟨a5, x5, h⟩ := valsA_rd hv h
  obtain ⟨x6, h⟩ := numA_rd k4 h
  obtain ⟨x7, h⟩ := numA_rd k5 h
  refine ⟨_, ?_, h⟩
  simp only [rowA, x1, x2, x3, x4, Int.toNat_natCast, x5, x6, x7, id]
theorem rowsA_rd {l r : List Int} : ∀ {rs : List Row} {a : Nat}, (∀ x ∈ rs, RowOk x ∧ (∀ v ∈ x.x.vs, inK .i64 v) ∧ x.x.vs.length ≤ 8) → l.drop a = rs.flatMap rowB ++ r → ∃ a', rowsA id l rs.length a 0 = (rs, a', 0) ∧ l.drop a' = r
  | [], a, _, h => ⟨a, rfl, h⟩
  | x :: rs, a, hc, h => by
    rw [List.flatMap_cons, List.append_assoc] at h
    obtain ⟨k1, k2, k3⟩ := hc x (by simp)
    obtain ⟨a1, x1, h1⟩ := rowA_rd k1 k2 k3 h
    obtain ⟨a2, x2, h2⟩ := rowsA_rd (fun y hy => hc y (by simp [hy])) h1
    refine ⟨a2, ?_, h2⟩
    rw [List.length_cons, rowsA, if_pos rfl]
    simp only [x1, x2]
theorem may_parts {x : State} (h : mayB x = true) : x.rows.length ≤ 64 ∧ ∀ r ∈ x.rows, r.x.vs.length ≤ 8 := by
  simp only [mayB, Bool.and_eq_true, decide_eq_true_eq] at h
  obtain ⟨⟨⟨⟨_, h1⟩, _⟩, _⟩, h2⟩ := h
  rw [List.all_eq_true] at h2
  exact ⟨h1, fun r hr => (mayRow_iff.1 (h2 r hr)).2.2.2.1⟩
theorem cells_many (cs : List Cell) : cs.length ≤ (cs.flatMap cellB).length := by
  induction cs with
  | nil => simp
  | cons c cs ih =>
    have := numB_pos c.k.t
    rw [List.flatMap_cons, List.length_append, List.length_cons, cellB, nums_cons, List.length_append]
    omega
/-- a state that was written is read as it was -/
theorem parse_bytes {x : State} (hx : StOk x) (hm : mayB x = true) (hl : (stateB x).length ≤ 1048576) : parseE id (stateB x) = 0 ∧ parseS id (stateB x) = x := by
  obtain ⟨slot, cells, rows⟩ := x
  obtain ⟨k1, k2, k3, k4⟩ := hx
  obtain ⟨m1, m2⟩ := may_parts hm
  simp only at k1 k2 k3 k4 m1 m2
  have hcl := cells_many cells
  have hs : stateB ⟨slot, cells, rows⟩ = numB slot ++ (numB (cells.length : Int) ++ (cells.flatMap cellB ++ (numB (rows.length : Int) ++ rows.flatMap rowB))) := by
    simp only [stateB, nums_cons, nums_nil, List.append_nil, List.append_assoc]
  have hc1 : cells.length ≤ 1048576 := by
    rw [hs] at hl
    simp only [List.length_append] at hl
    omega
  obtain ⟨l, hll⟩ : ∃ l, stateB ⟨slot, cells, rows⟩ = l := ⟨_, rfl⟩
  rw [hll] at hs ⊢
  have h : l.drop 0 = numB slot ++ (numB (cells.length : Int) ++ (cells.flatMap cellB ++ (numB (rows.length : Int) ++ (rows.flatMap rowB ++ [])))) := by rw [List.drop_zero, List.append_nil]; exact hs
  obtain ⟨x1, h⟩ := numA_rd k1 h
  obtain ⟨x2, h⟩ := lenA_rd (most := 1048576) (inK_len (l := cells) (by omega)) (by omega) h
  obtain ⟨a3, x3, h⟩ := cellsA_rd (o := false) k2 h
  obtain ⟨x4, h⟩ := lenA_rd (most := 1048576) (inK_len (l := rows) (by omega)) (by omega) h
  obtain ⟨a5, x5, h⟩ := rowsA_rd (fun r hr => ⟨k3 r hr, k4 r hr, m2 r hr⟩) h
  have hend : ¬ a5 < l.length := by
    have := congrArg List.length h
    rw [List.length_drop] at this
    simp at this
    omega
  constructor
  · simp only [parseE, x1, x2, Int.toNat_natCast, x3, x4, x5, endE]
    rw [if_pos trivial, if_neg hend, if_neg (by simp [hm])]
  · simp only [parseS, x1, x2, Int.toNat_natCast, x3, x4, x5]
/-- two states that may be have the same bytes just if they are the same -/
theorem stateB_inj {x y : State} (hx : StOk x) (hy : StOk y) (hm : mayB x = true) (hm' : mayB y = true) (hl : (stateB x).length ≤ 1048576) (h : stateB x = stateB y) : x = y := by
  have h1 := (parse_bytes hx hm hl).2
  have h2 := (parse_bytes hy hm' (h ▸ hl)).2
  rw [← h1, ← h2, h]
theorem sameL_eq {α : Type} {eq : α → α → Bool} (he : ∀ x y, eq x y = true → x = y) : ∀ {l m : List α}, sameL eq l m = true → l = m
  | [], [], _ => rfl
  | [], _ :: _, h => by cases h
  | _ :: _, [], h => by cases h
  | a :: l, b :: m, h => by
    rw [sameL, Bool.and_eq_true] at h
    rw [he a b h.1, sameL_eq he h.2]
theorem sameRow_eq {a b : Row} (h : sameRow a b = true) : a = b := by
  obtain ⟨s1, q1, ⟨e1, v1, t1, p1⟩⟩ := a
  obtain ⟨s2, q2, ⟨e2, v2, t2, p2⟩⟩ := b
  simp only [sameRow, sameRes, Bool.and_eq_true, decide_eq_true_eq] at h
  obtain ⟨rfl, rfl, rfl, rfl, rfl, h⟩ := h
  rw [sameL_eq (fun x y h => of_decide_eq_true h) h]
theorem sameState_iff {x y : State} : sameState x y = true ↔ x = y := by
  refine ⟨fun h => ?_, fun h => by rw [h]; exact sameState_refl _⟩
  obtain ⟨s1, c1, r1⟩ := x
  obtain ⟨s2, c2, r2⟩ := y
  simp only [sameState, Bool.and_eq_true, decide_eq_true_eq] at h
  obtain ⟨rfl, _, h1, h2⟩ := h
  rw [sameL_eq (fun x y h => of_decide_eq_true h) h1, sameL_eq (fun x y => sameRow_eq) h2]
end Go.Proofs.Ytlhgijpdhniddaa

namespace Go.Proofs.Ytlhgijpdhniddaa
open Go.D
set_option maxRecDepth 100000

theorem rows_ok {S : Nat → Prop} {h : DHeap} {v : Value} {l : List Row} (a : Sl rRow S h v l) : ∀ r ∈ l, RowOk r ∧ ∀ x ∈ r.x.vs, inK .i64 x := by
  intro r hr
  obtain ⟨i, hi⟩ := List.mem_iff_getElem?.1 hr
  obtain ⟨id, o, cap, _, _, hat⟩ := a.at hi
  obtain ⟨w, _, hs, hok⟩ := row_at hat
  exact ⟨hok, hs.ok⟩
theorem state_ok {h : DHeap} {n : Int} {cv rv : Value} {cells : List Cell} {rows : List Row} (hn : inK .i64 n) (hc : Arg fCell.rep h cv cells) (hr : Arg rRow h rv rows) : StOk ⟨n, cells, rows⟩ :=
  ⟨hn, hc.ok, fun r h => (rows_ok hr r h).1, fun r h => (rows_ok hr r h).2⟩
theorem quick_bool {t : TypeId} {d : Nat} {a b : Bool} (hu : Try.prog.underlying t = some .bool) : quick Try.prog (Op.equalIn (d + 1) t (.bool a) (.bool b)) = some (.inr (a == b)) := by
  simp only [Op.equalIn]
  rw [quick_bind (quick_underlying hu)]
  rfl
theorem bin_bool {h : DHeap} {ox oy : Operand} {a b : Bool} : dBinOp Try.prog .eql 4 ox oy (.bool a) (.bool b) h = .ok (.value (.bool (a == b))) h := by
  have hf : (flat3 (.bool a) && flat3 (.bool b)) = true := rfl
  simp only [dBinOp, hf, if_true, dval]
  rw [quick_bind (show quick Try.prog (eqGuard .eql 4 ox oy (.bool a) (.bool b)) = some (.inr ()) from rfl)]
  have : quick Try.prog (binOp .eql 4 (.bool a) (.bool b)) = some (.inr (.bool (a == b))) := by
    simp only [binOp, Op.equal, Op.maxDepth]
    rw [quick_bind (quick_bool (d := 9999) (by kernel_rfl))]
    rfl
  rw [this]
  rfl
theorem apart_c {h : DHeap} {n n' : Int} {cv rv cv' rv' : Value} {cells cells' : List Cell} {rows rows' : List Row} (hn : inK .i64 n) (hc : Arg fCell.rep h cv cells) (hr : Arg rRow h rv rows) (hn' : inK .i64 n') (hc' : Arg fCell.rep h cv' cells') (hr' : Arg rRow h rv' rows')
    (hl : cells.length ≤ 1048576) (hl2 : rows.length ≤ 1048576) (hl3 : ∀ r ∈ rows, r.x.vs.length ≤ 4294967296) (hl4 : cells'.length ≤ 1048576) (hl5 : rows'.length ≤ 1048576) :
    DC Try.prog 4 [stateV n cv rv, stateV n' cv' rv'] h (.ret (.bool true)) h := by
  refine Ct.pure (go_4 (by simp) ?_) (vin_bool _)
  have c1 := hc.cells1
  have r1 := hr.cells1
  have c2 := hc'.cells1
  have r2 := hr'.cells1
  obtain ⟨H, hH⟩ : ∃ H, H = (h.push (.row [.int .i64 n, cv, rv] 0 false)).push (.row [.int .i64 n', cv', rv'] 0 false) := ⟨_, rfl⟩
  have hE : Ext h H := by rw [hH]; exact (Ext.push1 _ _).push _
  have g1 : H.get h.next = some (.row [.int .i64 n, cv, rv] 0 false) := by rw [hH]; exact get_p1
  have g2 : H.get (h.next + 1) = some (.row [.int .i64 n', cv', rv'] 0 false) := by rw [hH]; exact get_push_same _ _
  have hHn : H.next = h.next + 2 := by rw [hH]; rfl
  have L1 : ∀ K, Ext H K → cellsAt K h.next 0 3 = some (stateV n cv rv) := fun K e => by
    rw [cellsAt_row ((e.get _ (by omega)).trans g1) (Nat.le_of_ble_eq_true rfl)]; rfl
  have L2 : ∀ K, Ext H K → cellsAt K (h.next + 1) 0 3 = some (stateV n' cv' rv') := fun K e => by
    rw [cellsAt_row ((e.get _ (by omega)).trans g2) (Nat.le_of_ble_eq_true rfl)]; rfl
  simp -implicitDefEqProofs (disch := first | omega | (simp -implicitDefEqProofs only [go_sem, List.size_toArray, List.length_cons, List.length_nil, Nat.reduceAdd]; done)) only [go_sem, Int.reduceLT, Int.reduceLE, Int.reduceEq, reduceIte, true_and, Nat.zero_add, Nat.add_zero, Option.map_some, c4, next_push, ← hH, L1 H (.refl _)]
  refine ncall_ct (bytes_c hn (hc.ext hE) (hr.ext hE) (by omega) (by omega)) ?_
  rintro r h1 ⟨v, rfl, hE1, ha⟩
  simp -implicitDefEqProofs (disch := first | omega | (simp -implicitDefEqProofs only [go_sem, List.size_toArray, List.length_cons, List.length_nil, Nat.reduceAdd]; done)) only [go_sem, Int.reduceLT, Int.reduceLE, Int.reduceEq, reduceIte, true_and, Nat.zero_add, Nat.add_zero, Option.map_some, XEnd, L2 h1 hE1]
  refine ncall_ct (bytes_c hn' ((hc'.ext hE).ext hE1) ((hr'.ext hE).ext hE1) (by omega) (by omega)) ?_
  rintro r h2 ⟨w, rfl, hE2, hb⟩
  have hE12 : Ext H h2 := hE1.trans hE2
  have hE02 : Ext h h2 := hE.trans hE12
  simp -implicitDefEqProofs (disch := first | omega | (simp -implicitDefEqProofs only [go_sem, List.size_toArray, List.length_cons, List.length_nil, Nat.reduceAdd]; done)) only [go_sem, Int.reduceLT, Int.reduceLE, Int.reduceEq, reduceIte, true_and, Nat.zero_add, Nat.add_zero, Option.map_some, XEnd]
  refine ncall begun_c ?_
  by_cases h0 : bytesE ⟨n, cells, rows⟩ = 0
  case neg =>
    simp -implicitDefEqProofs (disch := first | omega | (simp -implicitDefEqProofs only [go_sem, List.size_toArray, List.length_cons, List.length_nil, Nat.reduceAdd]; done)) only [go_sem, Int.reduceLT, Int.reduceLE, Int.reduceEq, reduceIte, true_and, Nat.zero_add, Nat.add_zero, Option.map_some, h0, dPick_t]
    exact ⟨_, rfl, rfl, hE02⟩
  by_cases h0' : bytesE ⟨n', cells', rows'⟩ = 0
  case neg =>
    simp -implicitDefEqProofs (disch := first | omega | (simp -implicitDefEqProofs only [go_sem, List.size_toArray, List.length_cons, List.length_nil, Nat.reduceAdd]; done)) only [go_sem, Int.reduceLT, Int.reduceLE, Int.reduceEq, reduceIte, true_and, Nat.zero_add, Nat.add_zero, Option.map_some, h0, h0', dPick_f]
    exact ⟨_, rfl, rfl, hE02⟩
  have hb0 : ∀ x, bytesE x = 0 → mayB x = true ∧ (stateB x).length ≤ 1048576 ∧ bytesL x = stateB x := by
    intro x hx
    unfold bytesE at hx
    unfold bytesL
    split at hx
    · rename_i hm
      split at hx
      · cases hx
      · rename_i hlen
        exact ⟨hm, by omega, by rw [if_pos hm, if_neg hlen]⟩
    · cases hx
  obtain ⟨p1, p2, p3⟩ := hb0 _ h0
  obtain ⟨q1, q2, q3⟩ := hb0 _ h0'
  rw [p3] at ha
  rw [q3] at hb
  simp -implicitDefEqProofs (disch := first | omega | (simp -implicitDefEqProofs only [go_sem, List.size_toArray, List.length_cons, List.length_nil, Nat.reduceAdd]; done)) only [go_sem, Int.reduceLT, Int.reduceLE, Int.reduceEq, reduceIte, true_and, Nat.zero_add, Nat.add_zero, Option.map_some, h0, h0', dPick_f, L1 h2 hE12, L2 h2 hE12]
  refine ncall (same_c (n := n) (n' := n') (hc.ext hE02) (hr.ext hE02) (hc'.ext hE02) (hr'.ext hE02) (by omega) (by omega) hl3) ?_
  have heq : decide (stateB ⟨n, cells, rows⟩ = stateB ⟨n', cells', rows'⟩) = sameState ⟨n, cells, rows⟩ ⟨n', cells', rows'⟩ := by
    rw [Bool.eq_iff_iff, decide_eq_true_iff, sameState_iff]
    exact ⟨fun hh => stateB_inj (state_ok hn hc hr) (state_ok hn' hc' hr') p1 q1 p2 hh, fun hh => by rw [hh]⟩
  simp -implicitDefEqProofs (disch := first | omega | (simp -implicitDefEqProofs only [go_sem, List.size_toArray, List.length_cons, List.length_nil, Nat.reduceAdd]; done)) only [go_sem, Int.reduceLT, Int.reduceLE, Int.reduceEq, reduceIte, true_and, Nat.zero_add, Nat.add_zero, Option.map_some]
  refine dr_4_0 ?_
  simp -implicitDefEqProofs (disch := first | omega | (simp -implicitDefEqProofs only [go_sem, List.size_toArray, List.length_cons, List.length_nil, Nat.reduceAdd]; done)) only [go_sem, Int.reduceLT, Int.reduceLE, Int.reduceEq, reduceIte, true_and, Nat.zero_add, Nat.add_zero, Option.map_some, l4_0]
  refine dcall (bytesEqual_c (ha.ext hE2) hb) ?_
  rw [heq]
  cases hs : sameState ⟨n, cells, rows⟩ ⟨n', cells', rows'⟩ with
  | false =>
    simp -implicitDefEqProofs (disch := first | omega | (simp -implicitDefEqProofs only [go_sem, List.size_toArray, List.length_cons, List.length_nil, Nat.reduceAdd]; done)) only [go_sem, Int.reduceLT, Int.reduceLE, Int.reduceEq, reduceIte, true_and, Nat.zero_add, Nat.add_zero, Option.map_some, bin_bool, beq_self_eq_true, dPick_t]
    refine ⟨⟨XSt1_at (i := 11) (j := 10) rfl rfl rfl ?_, trivial⟩, _, rfl, rfl, hE02⟩
    refine Ld_offL ?_
    simp -implicitDefEqProofs (disch := first | omega | (simp -implicitDefEqProofs only [go_sem, List.size_toArray, List.length_cons, List.length_nil, Nat.reduceAdd]; done)) only [go_sem, Int.reduceLT, Int.reduceLE, Int.reduceEq, reduceIte, true_and, Nat.zero_add, Nat.add_zero, Option.map_some]
  | true =>
    have hxy := sameState_iff.1 hs
    simp -implicitDefEqProofs (disch := first | omega | (simp -implicitDefEqProofs only [go_sem, List.size_toArray, List.length_cons, List.length_nil, Nat.reduceAdd]; done)) only [go_sem, Int.reduceLT, Int.reduceLE, Int.reduceEq, reduceIte, true_and, Nat.zero_add, Nat.add_zero, Option.map_some, bin_bool, beq_self_eq_true, dPick_t, L1 h2 hE12]
    refine dcall (digest_c hn (hc.ext hE02) (hr.ext hE02) (by omega) (by omega)) ?_
    simp -implicitDefEqProofs (disch := first | omega | (simp -implicitDefEqProofs only [go_sem, List.size_toArray, List.length_cons, List.length_nil, Nat.reduceAdd]; done)) only [go_sem, Int.reduceLT, Int.reduceLE, Int.reduceEq, reduceIte, true_and, Nat.zero_add, Nat.add_zero, Option.map_some, L2 h2 hE12]
    refine dcall (digest_c hn' (hc'.ext hE02) (hr'.ext hE02) (by omega) (by omega)) ?_
    rw [← hxy]
    simp -implicitDefEqProofs (disch := first | omega | (simp -implicitDefEqProofs only [go_sem, List.size_toArray, List.length_cons, List.length_nil, Nat.reduceAdd]; done)) only [go_sem, Int.reduceLT, Int.reduceLE, Int.reduceEq, reduceIte, true_and, Nat.zero_add, Nat.add_zero, Option.map_some, dPick_f, dPick_t]
    refine ⟨⟨XSt1_at (i := 11) (j := 10) rfl rfl rfl ?_, trivial⟩, _, rfl, rfl, hE02⟩
    rw [if_pos (by decide)]
    refine Ld_on (p := .pointer (some ⟨h.next + 1, 0, none⟩)) ?_ ?_ (ld_26.trans (L2 h2 hE12))
    · simp -implicitDefEqProofs (disch := first | omega | (simp -implicitDefEqProofs only [go_sem, List.size_toArray, List.length_cons, List.length_nil, Nat.reduceAdd]; done)) only [go_sem, Int.reduceLT, Int.reduceLE, Int.reduceEq, reduceIte, true_and, Nat.zero_add, Nat.add_zero, Option.map_some]
    · simp -implicitDefEqProofs (disch := first | omega | (simp -implicitDefEqProofs only [go_sem, List.size_toArray, List.length_cons, List.length_nil, Nat.reduceAdd]; done)) only [go_sem, Int.reduceLT, Int.reduceLE, Int.reduceEq, reduceIte, true_and, Nat.zero_add, Nat.add_zero, Option.map_some]
end Go.Proofs.Ytlhgijpdhniddaa

namespace Go.D
variable {P : Program}

/-- fields by their types and places -/
inductive Fld2 (P : Program) : {α : Type} → Nat → List (TypeId × Nat) → Rep α → (α → Nat) → Prop
  | one {α : Type} {off : Nat} {t : TypeId} {R : Rep α} {B : α → Nat} (hl : Lays P t R B) : Fld2 P off [(t, off)] R B
  | cons {α β : Type} {off : Nat} {t : TypeId} {l : List (TypeId × Nat)} {R : Rep α} {B : α → Nat} {Q : Rep β} {C : β → Nat} (hl : Lays P t R B) (hr : Fld2 P (off + R.z) l Q C) : Fld2 P off ((t, off) :: l) (rP R Q) (fun x => B x.1 + C x.2)
theorem Fld2.flds {α : Type} {off : Nat} {l : List (TypeId × Nat)} {R : Rep α} {B : α → Nat} (a : Fld2 P off l R B) : ∀ fs : List Field, fs.map (fun f => (f.type, f.offset)) = l → Flds P off fs R B := by
  induction a with
  | one hl =>
    intro fs h
    match fs, h with
    | [f], h =>
      simp only [List.map_cons, List.map_nil, List.cons.injEq, Prod.mk.injEq, and_true] at h
      obtain ⟨rfl, rfl⟩ := h
      exact .one rfl hl
  | cons hl hr ih =>
    intro fs h
    cases fs with
    | nil => cases h
    | cons f fs =>
      simp only [List.map_cons, List.cons.injEq, Prod.mk.injEq] at h
      obtain ⟨⟨rfl, rfl⟩, h2⟩ := h
      exact .cons rfl hl (ih fs h2)
theorem Lays.of {α : Type} {t : TypeId} {l : List (TypeId × Nat)} {R : Rep α} {B : α → Nat} (hf : fldsOf P t = some l) (hz : P.cellsOf t = R.z) (a : Fld2 P 0 l R B) : Lays P t R B := by
  unfold fldsOf at hf
  split at hf
  · rename_i fs hu
    split at hf
    · cases hf
      exact .struct hu hz (a.flds _ rfl)
    · cases hf
  · cases hf
theorem par_struct {t : TypeId} {l : List (TypeId × Nat)} (hf : fldsOf P t = some l) : Par P t true := by
  unfold fldsOf at hf
  split at hf
  · rename_i fs hu
    exact ⟨fs, hu⟩
  · cases hf
/-- flat pairs -/
theorem rP_flat {α β : Type} {F : FRep α} {G : FRep β} {S : Nat → Prop} {h : DHeap} {cs : List Value} {x : α × β} (a : (rP F.rep G.rep).rd S h cs x) : (fP F G).rep.rd S h cs x := by
  obtain ⟨c1, c2, rfl, ⟨rfl, h1⟩, rfl, h2⟩ := a
  exact ⟨rfl, h1, h2⟩
theorem Lays.pair {α β : Type} {t : TypeId} {F : FRep α} {G : FRep β} {C : α × β → Nat} (a : Lays P t (rP F.rep G.rep) C) : Lays P t (fP F G).rep C := a.conv (Q := (fP F G).rep) rfl id (fun _ _ _ _ => rP_flat) (fun _ => Nat.le_refl _)
end Go.D

namespace Go.Proofs.Ytlhgijpdhniddaa
open Go.D
set_option maxRecDepth 100000
theorem lay_u8 : Lays Try.prog 5 fU8.rep (fun _ => 1) := .int (by kernel_rfl) (by kernel_rfl)
theorem lay_i32 : Lays Try.prog 21 (fI .i32).rep (fun _ => 1) := .int (by kernel_rfl) (by kernel_rfl)
theorem lay_i64 : Lays Try.prog 2 fI64.rep (fun _ => 1) := .int (by kernel_rfl) (by kernel_rfl)
theorem lay_int : Lays Try.prog 3 fI64.rep (fun _ => 1) := .int (by kernel_rfl) (by kernel_rfl)
theorem lay_bytes : Lays Try.prog 22 (rSl fU8.rep) (sumB fun _ => 1) := .slice (e := 5) (by kernel_rfl) (by kernel_rfl) (by decide) lay_u8
theorem lay_ints : Lays Try.prog 51 (rSl fI64.rep) (sumB fun _ => 1) := .slice (e := 2) (by kernel_rfl) (by kernel_rfl) (by decide) lay_i64
theorem lay_key : Lays Try.prog 48 fKey.rep (fun _ => 2) :=
  (Lays.of (l := [(21, 0), (2, 1)]) (by kernel_rfl) (by kernel_rfl) (.cons lay_i32 (.one lay_i64))).pair.conv (Q := fKey.rep) rfl (fun x => ⟨x.1, x.2⟩) (fun _ _ _ _ h => h) (fun _ => Nat.le_refl _)
theorem lay_cell : Lays Try.prog 50 fCell.rep (fun _ => 4) :=
  (Lays.of (l := [(48, 0), (2, 2), (2, 3)]) (by kernel_rfl) (by kernel_rfl) (.cons lay_key (.cons lay_i64 (.one lay_i64)))).conv (Q := fCell.rep) rfl (fun x => ⟨x.1, x.2.1, x.2.2⟩)
    (fun _ _ _ _ h => by
      obtain ⟨c1, c2, rfl, ⟨rfl, k1⟩, c3, c4, rfl, ⟨rfl, k2⟩, rfl, k3⟩ := h
      exact ⟨rfl, k1, k2, k3⟩) (fun _ => Nat.le_refl _)
theorem lay_cells : Lays Try.prog 23 (rSl fCell.rep) (sumB fun _ => 4) := .slice (e := 50) (by kernel_rfl) (by kernel_rfl) (by decide) lay_cell
def bulkRes (x : Res) : Nat := 3 + sumB (fun _ => 1) x.vs
def bulkRow (x : Row) : Nat := 2 + bulkRes x.x
def bulkState (x : State) : Nat := 1 + (sumB (fun _ => 4) x.cells + sumB bulkRow x.rows)
theorem lay_res : Lays Try.prog 53 rRes bulkRes :=
  (Lays.of (l := [(3, 0), (51, 1), (2, 2), (3, 3)]) (by kernel_rfl) (by kernel_rfl) (.cons lay_int (.cons lay_ints (.cons lay_i64 (.one lay_int))))).conv (Q := rRes) rfl (fun x => ⟨x.1, x.2.1, x.2.2.1, x.2.2.2⟩) (fun _ _ _ _ h => h)
    (fun x => by simp only [bulkRes]; omega)
theorem lay_row : Lays Try.prog 55 rRow bulkRow :=
  (Lays.of (l := [(2, 0), (2, 1), (53, 2)]) (by kernel_rfl) (by kernel_rfl) (.cons lay_i64 (.cons lay_i64 (.one lay_res)))).conv (Q := rRow) rfl (fun x => ⟨x.1, x.2.1, x.2.2⟩) (fun _ _ _ _ h => h)
    (fun x => by simp only [bulkRow]; omega)
theorem lay_rows : Lays Try.prog 24 (rSl rRow) (sumB bulkRow) := .slice (e := 55) (by kernel_rfl) (by kernel_rfl) (by decide) lay_row
theorem lay_state : Lays Try.prog 26 rState bulkState :=
  (Lays.of (l := [(2, 0), (23, 1), (24, 2)]) (by kernel_rfl) (by kernel_rfl) (.cons lay_i64 (.cons lay_cells (.one lay_rows)))).conv (Q := rState) rfl (fun x => ⟨x.1, x.2.1, x.2.2⟩) (fun _ _ _ _ h => h)
    (fun x => Nat.le_refl _)
theorem par_state : Par Try.prog 26 true := par_struct (l := [(2, 0), (23, 1), (24, 2)]) (by kernel_rfl)
/-- a state that has come in -/
theorem state_in {S : Nat → Prop} {h : DHeap} {cs : List Value} {x : State} (a : rState.rd S h cs x) : ∃ vc vr, cs = [.int .i64 x.slot, vc, vr] ∧ inK .i64 x.slot ∧ Sl fCell.rep S h vc x.cells ∧ Sl rRow S h vr x.rows := by
  obtain ⟨c1, c2, rfl, ⟨rfl, k1⟩, c3, c4, rfl, ⟨vc, rfl, h1⟩, vr, rfl, h2⟩ := a
  exact ⟨vc, vr, rfl, k1, h1, h2⟩
theorem bulk_rows {l : List Row} : ∀ r ∈ l, r.x.vs.length ≤ sumB bulkRow l := by
  induction l with
  | nil => simp
  | cons x l ih =>
    intro r hr
    simp only [sumB]
    have h1 := sumB_len (fun _ => 1) x.x.vs
    have h2 : bulkRow x = 2 + (3 + sumB (fun _ => 1) x.x.vs) := rfl
    rcases List.mem_cons.1 hr with rfl | hr
    · omega
    · have := ih r hr; omega
/-- what a state that has come in is at most -/
theorem bulk_state (x : State) : x.cells.length ≤ bulkState x ∧ x.rows.length ≤ bulkState x ∧ ∀ r ∈ x.rows, r.x.vs.length ≤ bulkState x := by
  have h1 := sumB_len (fun _ => 4) x.cells
  have h2 := sumB_len bulkRow x.rows
  have hb : bulkState x = 1 + (sumB (fun _ => 4) x.cells + sumB bulkRow x.rows) := rfl
  exact ⟨by omega, by omega, fun r hr => by have := bulk_rows r hr; omega⟩
end Go.Proofs.Ytlhgijpdhniddaa

namespace Go.Proofs.Ytlhgijpdhniddaa.lawApart
open Go.D
open Go.ChangeShapes Go.WideShapes Go.ChangeAt Go.RowKit
theorem own : ownKnob Try.prog.godebug = none := by kernel_rfl
set_option maxRecDepth 100000 in
theorem lifted (os : Os) (started : os.Started) (H : Type) (enc : TypeId × Value → H) (F : Stop.Interp) :
    ReturnsInHanded {} Try.checked os 4 .any ((Rows.OpenSpec.upto Rows.stateApartSpec).pre6 enc Try.prog Try.f4 Rows.stateApartUptoRow.domain false) (((Rows.OpenSpec.upto Rows.stateApartSpec).at F).post enc Try.prog Try.f4 false true false false) := by
  refine returnsInHanded_of_cond (C := Try.checked) (s := Rows.OpenSpec.upto Rows.stateApartSpec) (k := Rows.uptoSmall) rfl own started (by kernel_rfl) Try.func4
    (OpenSpec.witness (enc := enc) (C := Try.checked) (s := Rows.OpenSpec.upto Rows.stateApartSpec) (k := Rows.uptoSmall) rfl false ⟨#[], #[.agg #[.int .i64 0, .slice none 0 0, .slice none 0 0], .agg #[.int .i64 0, .slice none 0 0, .slice none 0 0]], []⟩ 8 (by kernel_rfl) (by kernel_rfl) (by kernel_rfl)
      (x := ([.agg [.lit (.int .i64 0), .nil, .nil], .agg [.lit (.int .i64 0), .nil, .nil]], [], [])) (by kernel_rfl) rfl (by kernel_rfl)) ?_
  intro W base args ds gs before hval hW _ hk _
  refine law_kept (by kernel_rfl)
    (.cons (agg := true) par_state lay_state (.cons (agg := true) par_state lay_state .nil)) (tb := 4) (by kernel_rfl) (by kernel_rfl) rfl (fun ds hl => ?_) (fun h vs x hng hq hB => ?_) W base args ds gs before hval hW hk
  · match ds, hl with
    | [d0, d1], _ => rfl
  · obtain ⟨cs, vs1, rfl, h1, cs2, vs2, rfl, h2, rfl⟩ := hq
    obtain ⟨vc, vr, rfl, k1, k2, k3⟩ := state_in h1
    obtain ⟨vc2, vr2, rfl, l1, l2, l3⟩ := state_in h2
    obtain ⟨m1, m2, m3⟩ := bulk_state x.1
    obtain ⟨n1, n2, n3⟩ := bulk_state x.2.1
    exact (apart_c k1 k2 k3 l1 l2 l3 (by omega) (by omega) (fun r hr => by have := m3 r hr; omega) (by omega) (by omega)).ct rfl
theorem p1 : Try.pinned.checked.prog.funcNamed Rows.stateApartUptoRow.func = some 4 := by kernel_rfl
theorem p2 : joinedFacts Try.pinned.checked.prog 4 Try.f4 (Rows.OpenSpec.upto Rows.stateApartSpec).bare Rows.stateApartUptoRow = true := by kernel_rfl
theorem p3 : Try.f4.isInstance Try.pinned.checked.prog Rows.stateApartUptoRow.origin Rows.stateApartUptoRow.targs := of_decide_eq_true (by kernel_rfl)
theorem p4 : Try.f4.isWrapper Try.pinned.checked.prog Rows.stateApartUptoRow.wrapper Rows.stateApartUptoRow.mainSum := by unfold Func.isWrapper; first | (rw [if_pos (by decide +kernel)]; kernel_rfl) | (rw [if_neg (by decide +kernel)]; exact ⟨rfl, rfl⟩)
theorem proved : Rows.StateApartUptoSaid :=
  OpenClaim.holds_of_cond 4 Try.f4 rfl rfl rfl rfl rfl rfl rfl ⟨rfl, rfl, rfl, rfl, rfl⟩ rfl rfl rfl rfl rfl p1 Try.func4 p2 p3 p4
    (fun os started H enc _ F => lifted os started H enc F)
end Go.Proofs.Ytlhgijpdhniddaa.lawApart
