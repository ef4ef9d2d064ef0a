/-
StateBack: for every input of bulk at most 1048576 the law returns true, and the input reads as it did. Conditions: none.
-/
import Derived.Test.YtlhgijpdhniddaaRows
import Derived.WalkKit
import Derived.ProofKit
import Derived.OpenShut
import Derived.JoinedCond
import Derived.Test.YtlhgijpdhniddaaBase1
import Derived.Test.YtlhgijpdhniddaaBase2
import Derived.Test.YtlhgijpdhniddaaSK1
import Derived.Test.YtlhgijpdhniddaaSK2
set_option linter.unusedSimpArgs false
set_option linter.unusedVariables false
namespace Go.Proofs.Ytlhgijpdhniddaa
open Go.D
set_option maxRecDepth 100000

end Go.Proofs.Ytlhgijpdhniddaa

namespace Go.Proofs.Ytlhgijpdhniddaa
open Go.D
set_option maxRecDepth 100000

theorem leI_low : ∀ (n u : Nat), u < n → leI (lowN u) = (u : Int)
  | 0, _, h => by omega
  | n + 1, u, h => by
    by_cases h0 : u = 0
    · subst h0; simp [lowN_zero, leI]
    · rw [lowN_pos h0, leI, leI_low n (u / 256) (by omega)]; omega
theorem low_last : ∀ (n u : Nat), u < n → u ≠ 0 → (lowN u)[(lowN u).length - 1]? ≠ some 0
  | 0, _, h, _ => by omega
  | n + 1, u, h, h0 => by
    rw [lowN_pos h0]
    by_cases h1 : u / 256 = 0
    · rw [h1, lowN_zero]
      have : u % 256 ≠ 0 := by omega
      simp; omega
    · have ih := low_last n (u / 256) (by omega) h1
      have hl : 0 < (lowN (u / 256)).length := by rw [lowN_pos h1]; simp
      rw [List.length_cons, show (lowN (u / 256)).length + 1 - 1 = ((lowN (u / 256)).length - 1) + 1 by omega, List.getElem?_cons_succ]
      exact ih
theorem low_le : ∀ l : List Int, (∀ x ∈ l, 0 ≤ x ∧ x ≤ 255) → (l ≠ [] → l[l.length - 1]? ≠ some 0) → lowN (leI l).toNat = l ∧ 0 ≤ leI l ∧ (l ≠ [] → 0 < leI l)
  | [], _, _ => by simp [leI, lowN_zero]
  | c :: r, hb, hl => by
    have hc := hb c (by simp)
    have hr := low_le r (fun x hx => hb x (by simp [hx])) (fun hne => by
      have := hl (by simp)
      have hp : 0 < r.length := List.length_pos_iff.2 hne
      rw [List.length_cons, show r.length + 1 - 1 = (r.length - 1) + 1 by omega, List.getElem?_cons_succ] at this
      exact this)
    obtain ⟨h1, h2, h3⟩ := hr
    have hpos : 0 < leI (c :: r) := by
      by_cases h0 : r = []
      · subst h0
        have := hl (by simp)
        simp at this
        simp only [leI]; omega
      · have := h3 h0
        simp only [leI]; omega
    refine ⟨?_, by omega, fun _ => hpos⟩
    rw [lowN_pos (by omega)]
    have e1 : (leI (c :: r)).toNat % 256 = c.toNat := by simp only [leI]; omega
    have e2 : (leI (c :: r)).toNat / 256 = (leI r).toNat := by simp only [leI]; omega
    rw [e1, e2, h1]
    congr 1
    omega
/-- a number that was written is read -/
theorem take_num {n : Int} (hn : inK .i64 n) (r : List Int) : takeI (numB n ++ r) = (n, ((numB n).length : Int), 0) := by
  have hn' := inK_i64.1 hn
  have h8 := lowN_8 (u := n.natAbs) (by omega)
  have hle := leI_low (n.natAbs + 1) n.natAbs (Nat.lt_succ_self _)
  obtain ⟨k, hk⟩ : ∃ k, (lowN n.natAbs).length = k := ⟨_, rfl⟩
  have htk : (lowN n.natAbs ++ r).take k = lowN n.natAbs := by rw [← hk]; exact List.take_left ..
  have hk0 : n ≠ 0 → 0 < k := fun h => by rw [← hk, lowN_pos (show n.natAbs ≠ 0 by omega)]; simp
  have hz : n = 0 → k = 0 := fun h => by rw [← hk, h]; simp [lowN_zero]
  have hlast : ¬ (0 < k ∧ (lowN n.natAbs ++ r)[k - 1]? = some 0) := by
    rintro ⟨h0, h1⟩
    have hne : n ≠ 0 := fun h => by have := hz h; omega
    have := low_last (n.natAbs + 1) n.natAbs (Nat.lt_succ_self _) (by omega)
    rw [hk] at this
    rw [List.getElem?_append_left (by omega)] at h1
    exact this h1
  unfold numB
  rw [List.cons_append, hk]
  by_cases h0 : n < 0
  · have hp := hk0 (by omega)
    rw [if_pos h0]
    rw [takeI_ok (k := k) (by omega) (by omega) (by omega) (by rw [List.length_append]; omega) hlast (by rw [htk, hle]; omega), if_pos (by omega), htk, hle, List.length_cons, hk]
    congr 1
    omega
  · rw [if_neg h0]
    rw [takeI_ok (k := k) (by omega) (by omega) (by omega) (by rw [List.length_append]; omega) hlast (by rw [htk, hle]; omega), if_neg (by omega), htk, hle, List.length_cons, hk]
    congr 1
    omega
/-- a number that is read was written -/
theorem num_take {l : List Int} (hb : ∀ x ∈ l, 0 ≤ x ∧ x ≤ 255) (h : (takeI l).2.2 = 0) : numB (takeI l).1 = l.take (takeI l).2.1.toNat ∧ l ≠ [] := by
  cases l with
  | nil => simp [takeI] at h
  | cons c r =>
    refine ⟨?_, by simp⟩
    have hc := hb c (by simp)
    simp only [takeI] at h ⊢
    split at h
    · simp at h
    rename_i h1
    split at h
    · simp at h
    rename_i h2
    split at h
    · simp at h
    rename_i h3
    split at h
    · simp at h
    rename_i h4
    rw [if_neg h1, if_neg h2, if_neg h3, if_neg h4]
    obtain ⟨k, hk⟩ : ∃ k, (c / 2).toNat = k := ⟨_, rfl⟩
    rw [hk] at h2 h3 h4 ⊢
    have hlk : (r.take k).length = k := by rw [List.length_take]; omega
    obtain ⟨g1, g2, g3⟩ := low_le (r.take k) (fun x hx => hb x (by simp [List.mem_of_mem_take hx])) (fun hne hh => by
      rw [hlk] at hh
      have hp : 0 < k := by
        rw [← hlk]
        exact List.length_pos_iff.2 hne
      rw [List.getElem?_take, if_pos (by omega)] at hh
      exact h3 ⟨hp, hh⟩)
    have hk1 : ((k : Int) + 1).toNat = k + 1 := by omega
    simp only [hk1, List.take_succ_cons]
    unfold numB
    split
    · rename_i hodd
      have hne : r.take k ≠ [] := fun h0 => by
        have : k = 0 := by rw [← hlk, h0]; rfl
        omega
      have hp := g3 hne
      have e1 : (-leI (List.take k r)).natAbs = (leI (r.take k)).toNat := by omega
      rw [e1, g1, hlk, if_pos (by omega)]
      congr 1
      omega
    · rename_i hev
      have e1 : (leI (List.take k r)).natAbs = (leI (r.take k)).toNat := by omega
      rw [e1, g1, hlk, if_neg (by omega)]
      congr 1
      omega
end Go.Proofs.Ytlhgijpdhniddaa

namespace Go.Proofs.Ytlhgijpdhniddaa
open Go.D
set_option maxRecDepth 100000

theorem numA_rd {l r : List Int} {a : Nat} {n : Int} (hn : inK .i64 n) (h : l.drop a = numB n ++ r) : numA l a 0 = (n, a + (numB n).length, 0) ∧ l.drop (a + (numB n).length) = r := by
  unfold numA
  rw [if_pos rfl, h, take_num hn r]
  refine ⟨by simp, ?_⟩
  rw [← List.drop_drop, h, List.drop_left]
/-- what a state has may lie in memory -/
structure StOk (x : State) : Prop where
  slot : inK .i64 x.slot
  cells : ∀ c ∈ x.cells, fCell.ok c
  rows : ∀ r ∈ x.rows, RowOk r
  vals : ∀ r ∈ x.rows, ∀ v ∈ r.x.vs, inK .i64 v
theorem inK_len {α : Type} {l : List α} (h : l.length ≤ 4294967296) : inK .i64 (l.length : Int) := inK_i64.2 ⟨by omega, by omega⟩
theorem nums_cons (n : Int) (l : List Int) : numsB (n :: l) = numB n ++ numsB l := rfl
theorem nums_nil : numsB [] = [] := rfl
theorem cellA_rd {l r : List Int} {a : Nat} {c : Cell} {o : Bool} (hc : fCell.ok c) (h : l.drop a = cellB c ++ r) : ∃ a', cellA l a 0 o = (c, a', 0, o) ∧ l.drop a' = r := by
  obtain ⟨⟨k1, k2⟩, k3, k4⟩ := hc
  have k1' := inK_i32.1 k1
  simp only [cellB, nums_cons, nums_nil, List.append_nil, List.append_assoc] at h
  obtain ⟨x1, h⟩ := numA_rd (i32_i64 k1) h
  obtain ⟨x2, h⟩ := numA_rd k2 h
  obtain ⟨x3, h⟩ := numA_rd k3 h
  obtain ⟨x4, h⟩ := numA_rd k4 h
  refine ⟨_, ?_, h⟩
  rw [cell_form x1 x2 x3 x4, decide_eq_false (by omega), Bool.or_false, wrap_in k1]
theorem cellsA_rd {l r : List Int} {o : Bool} : ∀ {cs : List Cell} {a : Nat}, (∀ c ∈ cs, fCell.ok c) → l.drop a = cs.flatMap cellB ++ r → ∃ a', cellsA l cs.length a 0 o = (cs, a', 0, o) ∧ l.drop a' = r
  | [], a, _, h => ⟨a, rfl, h⟩
  | c :: cs, a, hc, h => by
    rw [List.flatMap_cons, List.append_assoc] at h
    obtain ⟨a1, x1, h1⟩ := cellA_rd (o := o) (hc c (by simp)) h
    obtain ⟨a2, x2, h2⟩ := cellsA_rd (o := o) (fun x hx => hc x (by simp [hx])) h1
    refine ⟨a2, ?_, h2⟩
    rw [List.length_cons, cellsA, if_pos rfl]
    simp only [x1, x2]
theorem valsA_rd {l r : List Int} : ∀ {vs : List Int} {a : Nat}, (∀ v ∈ vs, inK .i64 v) → l.drop a = numsB vs ++ r → ∃ a', valsA l vs.length a 0 = (vs, a', 0) ∧ l.drop a' = r
  | [], a, _, h => ⟨a, rfl, h⟩
  | v :: vs, a, hv, h => by
    rw [nums_cons, List.append_assoc] at h
    obtain ⟨x1, h1⟩ := numA_rd (hv v (by simp)) h
    obtain ⟨a2, x2, h2⟩ := valsA_rd (fun x hx => hv x (by simp [hx])) h1
    refine ⟨a2, ?_, h2⟩
    rw [List.length_cons, valsA]
    simp only [x1, x2]
theorem lenA_rd {l r : List Int} {a : Nat} {n most : Int} (hn : inK .i64 n) (h0 : 0 ≤ n ∧ n ≤ most) (h : l.drop a = numB n ++ r) : lenA l a 0 most = (n, a + (numB n).length, 0) ∧ l.drop (a + (numB n).length) = r := by
  obtain ⟨x, h⟩ := numA_rd hn h
  refine ⟨?_, h⟩
  unfold lenA
  rw [x]
  simp only
  rw [if_pos trivial, if_neg (by omega)]
theorem rowA_rd {l r : List Int} {a : Nat} {x : Row} (hx : RowOk x) (hv : ∀ v ∈ x.x.vs, inK .i64 v) (h8 : x.x.vs.length ≤ 8) (h : l.drop a = rowB x ++ r) : ∃ a', rowA id l a 0 = (x, a', 0) ∧ l.drop a' = r := by
  obtain ⟨ses, req, ⟨e, vs, s, p⟩⟩ := x
  simp only at hv h8
  have k1 := hx.ses; have k2 := hx.req; have k3 := hx.e; have k4 := hx.s; have k5 := hx.p
  simp only at k1 k2 k3 k4 k5
  simp only [rowB, nums_cons, nums_nil, List.append_nil, List.append_assoc] at h
  obtain ⟨x1, h⟩ := numA_rd k1 h
  obtain ⟨x2, h⟩ := numA_rd k2 h
  obtain ⟨x3, h⟩ := numA_rd k3 h
  obtain ⟨x4, h⟩ := lenA_rd (most := 8) (inK_len (l := vs) (by omega)) (by omega) h
  obtain ⟨a5, x5, h⟩ := valsA_rd hv h
  obtain ⟨x6, h⟩ := numA_rd k4 h
  obtain ⟨x7, h⟩ := numA_rd k5 h
  refine ⟨_, ?_, h⟩
  simp only [rowA, x1, x2, x3, x4, Int.toNat_natCast, x5, x6, x7, id]
theorem rowsA_rd {l r : List Int} : ∀ {rs : List Row} {a : Nat}, (∀ x ∈ rs, RowOk x ∧ (∀ v ∈ x.x.vs, inK .i64 v) ∧ x.x.vs.length ≤ 8) → l.drop a = rs.flatMap rowB ++ r → ∃ a', rowsA id l rs.length a 0 = (rs, a', 0) ∧ l.drop a' = r
  | [], a, _, h => ⟨a, rfl, h⟩
  | x :: rs, a, hc, h => by
    rw [List.flatMap_cons, List.append_assoc] at h
    obtain ⟨k1, k2, k3⟩ := hc x (by simp)
    obtain ⟨a1, x1, h1⟩ := rowA_rd k1 k2 k3 h
    obtain ⟨a2, x2, h2⟩ := rowsA_rd (fun y hy => hc y (by simp [hy])) h1
    refine ⟨a2, ?_, h2⟩
    rw [List.length_cons, rowsA, if_pos rfl]
    simp only [x1, x2]
theorem may_parts {x : State} (h : mayB x = true) : x.rows.length ≤ 64 ∧ ∀ r ∈ x.rows, r.x.vs.length ≤ 8 := by
  simp only [mayB, Bool.and_eq_true, decide_eq_true_eq] at h
  obtain ⟨⟨⟨⟨_, h1⟩, _⟩, _⟩, h2⟩ := h
  rw [List.all_eq_true] at h2
  exact ⟨h1, fun r hr => (mayRow_iff.1 (h2 r hr)).2.2.2.1⟩
theorem cells_many (cs : List Cell) : cs.length ≤ (cs.flatMap cellB).length := by
  induction cs with
  | nil => simp
  | cons c cs ih =>
    have := numB_pos c.k.t
    rw [List.flatMap_cons, List.length_append, List.length_cons, cellB, nums_cons, List.length_append]
    omega
/-- a state that was written is read as it was -/
theorem parse_bytes {x : State} (hx : StOk x) (hm : mayB x = true) (hl : (stateB x).length ≤ 1048576) : parseE id (stateB x) = 0 ∧ parseS id (stateB x) = x := by
  obtain ⟨slot, cells, rows⟩ := x
  obtain ⟨k1, k2, k3, k4⟩ := hx
  obtain ⟨m1, m2⟩ := may_parts hm
  simp only at k1 k2 k3 k4 m1 m2
  have hcl := cells_many cells
  have hs : stateB ⟨slot, cells, rows⟩ = numB slot ++ (numB (cells.length : Int) ++ (cells.flatMap cellB ++ (numB (rows.length : Int) ++ rows.flatMap rowB))) := by
    simp only [stateB, nums_cons, nums_nil, List.append_nil, List.append_assoc]
  have hc1 : cells.length ≤ 1048576 := by
    rw [hs] at hl
    simp only [List.length_append] at hl
    omega
  obtain ⟨l, hll⟩ : ∃ l, stateB ⟨slot, cells, rows⟩ = l := ⟨_, rfl⟩
  rw [hll] at hs ⊢
  have h : l.drop 0 = numB slot ++ (numB (cells.length : Int) ++ (cells.flatMap cellB ++ (numB (rows.length : Int) ++ (rows.flatMap rowB ++ [])))) := by rw [List.drop_zero, List.append_nil]; exact hs
  obtain ⟨x1, h⟩ := numA_rd k1 h
  obtain ⟨x2, h⟩ := lenA_rd (most := 1048576) (inK_len (l := cells) (by omega)) (by omega) h
  obtain ⟨a3, x3, h⟩ := cellsA_rd (o := false) k2 h
  obtain ⟨x4, h⟩ := lenA_rd (most := 1048576) (inK_len (l := rows) (by omega)) (by omega) h
  obtain ⟨a5, x5, h⟩ := rowsA_rd (fun r hr => ⟨k3 r hr, k4 r hr, m2 r hr⟩) h
  have hend : ¬ a5 < l.length := by
    have := congrArg List.length h
    rw [List.length_drop] at this
    simp at this
    omega
  constructor
  · simp only [parseE, x1, x2, Int.toNat_natCast, x3, x4, x5, endE]
    rw [if_pos trivial, if_neg hend, if_neg (by simp [hm])]
  · simp only [parseS, x1, x2, Int.toNat_natCast, x3, x4, x5]
theorem sameL_eq {α : Type} {eq : α → α → Bool} (he : ∀ x y, eq x y = true → x = y) : ∀ {l m : List α}, sameL eq l m = true → l = m
  | [], [], _ => rfl
  | [], _ :: _, h => by cases h
  | _ :: _, [], h => by cases h
  | a :: l, b :: m, h => by
    rw [sameL, Bool.and_eq_true] at h
    rw [he a b h.1, sameL_eq he h.2]
end Go.Proofs.Ytlhgijpdhniddaa

namespace Go.Proofs.Ytlhgijpdhniddaa
open Go.D
set_option maxRecDepth 100000

theorem rows_ok {S : Nat → Prop} {h : DHeap} {v : Value} {l : List Row} (a : Sl rRow S h v l) : ∀ r ∈ l, RowOk r ∧ ∀ x ∈ r.x.vs, inK .i64 x := by
  intro r hr
  obtain ⟨i, hi⟩ := List.mem_iff_getElem?.1 hr
  obtain ⟨id, o, cap, _, _, hat⟩ := a.at hi
  obtain ⟨w, _, hs, hok⟩ := row_at hat
  exact ⟨hok, hs.ok⟩
theorem state_ok {h : DHeap} {n : Int} {cv rv : Value} {cells : List Cell} {rows : List Row} (hn : inK .i64 n) (hc : Arg fCell.rep h cv cells) (hr : Arg rRow h rv rows) : StOk ⟨n, cells, rows⟩ :=
  ⟨hn, hc.ok, fun r h => (rows_ok hr r h).1, fun r h => (rows_ok hr r h).2⟩
end Go.Proofs.Ytlhgijpdhniddaa

namespace Go.D
variable {P : Program}

/-- fields by their types and places -/
inductive Fld2 (P : Program) : {α : Type} → Nat → List (TypeId × Nat) → Rep α → (α → Nat) → Prop
  | one {α : Type} {off : Nat} {t : TypeId} {R : Rep α} {B : α → Nat} (hl : Lays P t R B) : Fld2 P off [(t, off)] R B
  | cons {α β : Type} {off : Nat} {t : TypeId} {l : List (TypeId × Nat)} {R : Rep α} {B : α → Nat} {Q : Rep β} {C : β → Nat} (hl : Lays P t R B) (hr : Fld2 P (off + R.z) l Q C) : Fld2 P off ((t, off) :: l) (rP R Q) (fun x => B x.1 + C x.2)
theorem Fld2.flds {α : Type} {off : Nat} {l : List (TypeId × Nat)} {R : Rep α} {B : α → Nat} (a : Fld2 P off l R B) : ∀ fs : List Field, fs.map (fun f => (f.type, f.offset)) = l → Flds P off fs R B := by
  induction a with
  | one hl =>
    intro fs h
    match fs, h with
    | [f], h =>
      simp only [List.map_cons, List.map_nil, List.cons.injEq, Prod.mk.injEq, and_true] at h
      obtain ⟨rfl, rfl⟩ := h
      exact .one rfl hl
  | cons hl hr ih =>
    intro fs h
    cases fs with
    | nil => cases h
    | cons f fs =>
      simp only [List.map_cons, List.cons.injEq, Prod.mk.injEq] at h
      obtain ⟨⟨rfl, rfl⟩, h2⟩ := h
      exact .cons rfl hl (ih fs h2)
theorem Lays.of {α : Type} {t : TypeId} {l : List (TypeId × Nat)} {R : Rep α} {B : α → Nat} (hf : fldsOf P t = some l) (hz : P.cellsOf t = R.z) (a : Fld2 P 0 l R B) : Lays P t R B := by
  unfold fldsOf at hf
  split at hf
  · rename_i fs hu
    split at hf
    · cases hf
      exact .struct hu hz (a.flds _ rfl)
    · cases hf
  · cases hf
theorem par_struct {t : TypeId} {l : List (TypeId × Nat)} (hf : fldsOf P t = some l) : Par P t true := by
  unfold fldsOf at hf
  split at hf
  · rename_i fs hu
    exact ⟨fs, hu⟩
  · cases hf
/-- flat pairs -/
theorem rP_flat {α β : Type} {F : FRep α} {G : FRep β} {S : Nat → Prop} {h : DHeap} {cs : List Value} {x : α × β} (a : (rP F.rep G.rep).rd S h cs x) : (fP F G).rep.rd S h cs x := by
  obtain ⟨c1, c2, rfl, ⟨rfl, h1⟩, rfl, h2⟩ := a
  exact ⟨rfl, h1, h2⟩
theorem Lays.pair {α β : Type} {t : TypeId} {F : FRep α} {G : FRep β} {C : α × β → Nat} (a : Lays P t (rP F.rep G.rep) C) : Lays P t (fP F G).rep C := a.conv (Q := (fP F G).rep) rfl id (fun _ _ _ _ => rP_flat) (fun _ => Nat.le_refl _)
end Go.D

namespace Go.Proofs.Ytlhgijpdhniddaa
open Go.D
set_option maxRecDepth 100000
theorem lay_u8 : Lays Try.prog 5 fU8.rep (fun _ => 1) := .int (by kernel_rfl) (by kernel_rfl)
theorem lay_i32 : Lays Try.prog 21 (fI .i32).rep (fun _ => 1) := .int (by kernel_rfl) (by kernel_rfl)
theorem lay_i64 : Lays Try.prog 2 fI64.rep (fun _ => 1) := .int (by kernel_rfl) (by kernel_rfl)
theorem lay_int : Lays Try.prog 3 fI64.rep (fun _ => 1) := .int (by kernel_rfl) (by kernel_rfl)
theorem lay_bytes : Lays Try.prog 22 (rSl fU8.rep) (sumB fun _ => 1) := .slice (e := 5) (by kernel_rfl) (by kernel_rfl) (by decide) lay_u8
theorem lay_ints : Lays Try.prog 51 (rSl fI64.rep) (sumB fun _ => 1) := .slice (e := 2) (by kernel_rfl) (by kernel_rfl) (by decide) lay_i64
theorem lay_key : Lays Try.prog 48 fKey.rep (fun _ => 2) :=
  (Lays.of (l := [(21, 0), (2, 1)]) (by kernel_rfl) (by kernel_rfl) (.cons lay_i32 (.one lay_i64))).pair.conv (Q := fKey.rep) rfl (fun x => ⟨x.1, x.2⟩) (fun _ _ _ _ h => h) (fun _ => Nat.le_refl _)
theorem lay_cell : Lays Try.prog 50 fCell.rep (fun _ => 4) :=
  (Lays.of (l := [(48, 0), (2, 2), (2, 3)]) (by kernel_rfl) (by kernel_rfl) (.cons lay_key (.cons lay_i64 (.one lay_i64)))).conv (Q := fCell.rep) rfl (fun x => ⟨x.1, x.2.1, x.2.2⟩)
    (fun _ _ _ _ h => by
      obtain ⟨c1, c2, rfl, ⟨rfl, k1⟩, c3, c4, rfl, ⟨rfl, k2⟩, rfl, k3⟩ := h
      exact ⟨rfl, k1, k2, k3⟩) (fun _ => Nat.le_refl _)
theorem lay_cells : Lays Try.prog 23 (rSl fCell.rep) (sumB fun _ => 4) := .slice (e := 50) (by kernel_rfl) (by kernel_rfl) (by decide) lay_cell
def bulkRes (x : Res) : Nat := 3 + sumB (fun _ => 1) x.vs
def bulkRow (x : Row) : Nat := 2 + bulkRes x.x
def bulkState (x : State) : Nat := 1 + (sumB (fun _ => 4) x.cells + sumB bulkRow x.rows)
theorem lay_res : Lays Try.prog 53 rRes bulkRes :=
  (Lays.of (l := [(3, 0), (51, 1), (2, 2), (3, 3)]) (by kernel_rfl) (by kernel_rfl) (.cons lay_int (.cons lay_ints (.cons lay_i64 (.one lay_int))))).conv (Q := rRes) rfl (fun x => ⟨x.1, x.2.1, x.2.2.1, x.2.2.2⟩) (fun _ _ _ _ h => h)
    (fun x => by simp only [bulkRes]; omega)
theorem lay_row : Lays Try.prog 55 rRow bulkRow :=
  (Lays.of (l := [(2, 0), (2, 1), (53, 2)]) (by kernel_rfl) (by kernel_rfl) (.cons lay_i64 (.cons lay_i64 (.one lay_res)))).conv (Q := rRow) rfl (fun x => ⟨x.1, x.2.1, x.2.2⟩) (fun _ _ _ _ h => h)
    (fun x => by simp only [bulkRow]; omega)
theorem lay_rows : Lays Try.prog 24 (rSl rRow) (sumB bulkRow) := .slice (e := 55) (by kernel_rfl) (by kernel_rfl) (by decide) lay_row
theorem lay_state : Lays Try.prog 26 rState bulkState :=
  (Lays.of (l := [(2, 0), (23, 1), (24, 2)]) (by kernel_rfl) (by kernel_rfl) (.cons lay_i64 (.cons lay_cells (.one lay_rows)))).conv (Q := rState) rfl (fun x => ⟨x.1, x.2.1, x.2.2⟩) (fun _ _ _ _ h => h)
    (fun x => Nat.le_refl _)
theorem par_state : Par Try.prog 26 true := par_struct (l := [(2, 0), (23, 1), (24, 2)]) (by kernel_rfl)
/-- a state that has come in -/
theorem state_in {S : Nat → Prop} {h : DHeap} {cs : List Value} {x : State} (a : rState.rd S h cs x) : ∃ vc vr, cs = [.int .i64 x.slot, vc, vr] ∧ inK .i64 x.slot ∧ Sl fCell.rep S h vc x.cells ∧ Sl rRow S h vr x.rows := by
  obtain ⟨c1, c2, rfl, ⟨rfl, k1⟩, c3, c4, rfl, ⟨vc, rfl, h1⟩, vr, rfl, h2⟩ := a
  exact ⟨vc, vr, rfl, k1, h1, h2⟩
theorem bulk_rows {l : List Row} : ∀ r ∈ l, r.x.vs.length ≤ sumB bulkRow l := by
  induction l with
  | nil => simp
  | cons x l ih =>
    intro r hr
    simp only [sumB]
    have h1 := sumB_len (fun _ => 1) x.x.vs
    have h2 : bulkRow x = 2 + (3 + sumB (fun _ => 1) x.x.vs) := rfl
    rcases List.mem_cons.1 hr with rfl | hr
    · omega
    · have := ih r hr; omega
/-- what a state that has come in is at most -/
theorem bulk_state (x : State) : x.cells.length ≤ bulkState x ∧ x.rows.length ≤ bulkState x ∧ ∀ r ∈ x.rows, r.x.vs.length ≤ bulkState x := by
  have h1 := sumB_len (fun _ => 4) x.cells
  have h2 := sumB_len bulkRow x.rows
  have hb : bulkState x = 1 + (sumB (fun _ => 4) x.cells + sumB bulkRow x.rows) := rfl
  exact ⟨by omega, by omega, fun r hr => by have := bulk_rows r hr; omega⟩
end Go.Proofs.Ytlhgijpdhniddaa

namespace Go.D
variable {P : Program} {nt : Nat}

/-- a round, walked -/
theorem Rt_of {l size : Nat} {tmps : Fr} {assign body : Code} {h : DHeap} {R : DEnd → DHeap → Prop}
    (hx : NC P size assign (fun e s => (match e with | .normal => True | _ => False) ∧ ∃ d, s.h.get l = some (.loop d) ∧ d.state = .ready ∧
      NC P size body (XRoundPost l R) ⟨s.fr, s.df, s.h.set l (.loop { d with state := .busy, pending := d.pending }), s.rd⟩) ⟨tmps, [], h, some l⟩) : Rt P l size tmps assign body h R := by
  intro n ι w tmps' e f s he hsh hf
  refine roundIn_of_wpIn trivial ?_
  refine wpIn_mono (hx n (some e.block) ι { tmps := tmps', defers := [] } w ⟨hf, trivial, s, e, he, hsh, rfl⟩) fun ex1 a1 w1 ⟨ι1, e1, s1, ⟨hn1, d1, hg1, hst, hb⟩, h1, g1, g2, g3⟩ => ?_
  cases e1 with
  | normal =>
    cases ex1 with
    | normal =>
      have he1 := g3.le l e he
      obtain ⟨_, _, lp, hlp, hlr⟩ := g2.sim.loopAt he1 hg1
      obtain ⟨k1, k2⟩ := g2.sim.setLoop he1 hg1 hlp hlr .busy d1.pending
      have hbr := run_beginRound (P := P) hlp (hlr.state.trans hst)
      have hpend : lp.pending = d1.pending := hlr.pending
      rw [show ({ lp with state := LoopState.busy } : Loop) = { lp with state := .busy, pending := d1.pending } by rw [← hpend]] at hbr
      refine ⟨_, hbr, ?_⟩
      refine wpIn_mono (hb n (some e.block) ι1 a1 _ ⟨g2.fr, g2.df, k1, g2.rd⟩) fun ex2 a2 w2 ⟨ι2, e2, s2, ⟨d2, hg2, hq⟩, h2, m1, m2, m3⟩ => ?_
      have he2 := m3.le l e he1
      obtain ⟨_, _, lp2, hlp2, hlr2⟩ := m2.sim.loopAt he2 hg2
      have hh : HStep h s2.h := h1.trans ((HStep.set _ _ _).trans h2)
      have fin : ∀ (v : Bool) (st : LoopState) (pe : Option Code), (pe.isNone = v) → ((if v then LoopState.ready else .done) = st) → R (.ret (.bool v)) (s2.h.set l (.loop { d2 with state := st, pending := pe })) →
          ∃ u w', (Instr.endRound e.block pe).run P w2 = .ok u w' ∧ ∃ ι' r h', R r h' ∧ HStep h h' ∧ EndRel ι' r (.returned u) ∧ Sim ι' h' w' ∧ Step ι ι' h h' w w' := by
        intro v st pe hpe hst2 hR
        obtain ⟨q1, q2⟩ := m2.sim.setLoop he2 hg2 hlp2 hlr2 st pe
        refine ⟨.bool v, _, ?_, ι2, _, _, hR, hh.trans (HStep.set _ _ _), .bool v, q1, g3.trans (k2.trans (m3.trans q2))⟩
        have := run_endRound (P := P) pe hlp2
        rw [this, hpe, hst2]
      cases e2 with
      | normal =>
        cases ex2 with
        | normal => exact fin true .ready none rfl rfl hq
        | _ => exact m1.elim
      | ret =>
        cases ex2 with
        | ret => exact fin false .done (some .ret) rfl rfl hq
        | _ => exact m1.elim
      | exit id =>
        cases ex2 with
        | exit id' =>
          have : id' = id := m1
          subst this
          exact fin false .done (some (.exit id')) rfl rfl hq
        | _ => exact m1.elim
      | pan v => exact hq.elim
    | _ => exact g1.elim
  | _ => exact hn1.elim
theorem NC.range_aux {g : Operand} {ps : Array Tmp} {assign body : Code} {Q : DExit → St → Prop} {s : St} {fv : Value} {l : Nat} {df : List DDef} {h1 : DHeap} {f : FuncId} {args : List Value}
    (hg : evalF s.h.ng s.fr g = some fv) (hh : HStep s.h h1)
    (henter : ∀ (r : Option Nat) (ι : Inj) (a : Act) (w : World) (fn : FuncId), SRel nt ι s r a w → ∃ (ι1 : Inj) (e : Ent) (mark : List Deferred) (w1 : World), (Instr.enterLoop fn a.tmps ps assign body r).run P w = .ok (e.block, mark) w1 ∧
      ι1 l = some e ∧ e.shift = 0 ∧ Sim ι1 h1 w1 ∧ Step ι ι1 s.h h1 w w1 ∧ DefRel ι1 df (mark ++ a.defers))
    (ht : dTarget P fv [.func (.yield l) #[] #[]] h1 = some (.enter f args)) {R : DEnd → DHeap → Prop}
    (hc : Ct P f args h1 R) (hx : ∀ r h2, R r h2 → XRangePost l s.fr df s.rd Q r h2) : NC P nt (.rangeFunc g ps assign body) Q s := by
  intro n rr ι a w hs
  refine wpIn_rangeFunc fun fn _ => ?_
  obtain ⟨ι1, eb, mark, w1, he, hl, hsh, s1, st1, hd1⟩ := henter rr ι a w fn hs
  have hfv : VRel ι fv (a.eval g) := evalF_rel (P := P) hs.sim (a := a) (ops := #[]) (o := ⟨none, .move g, 0, "", #[], none⟩) (fun t _ u hu => hs.fr.2 t u hu) g (by simp [Op.operands]) _ hg
  have hy : LRel ι1 [.func (.yield l) #[] #[]] (#[.func (.yield eb.block) #[] #[]] : Array Value).toList := (LRel.nil ι1).cons (.yield hl hsh)
  obtain ⟨d, x', hd, hinv, hn, hdd⟩ := dTarget_ok ht s1 (hfv.mono st1.le) hy
  cases x' with
  | enter f' args' =>
    obtain ⟨rfl, hargs, _⟩ := hn
    refine ⟨eb.block, mark, w1, d, w1, f', args', w1, he, ?_, fun _ _ => trivial, hinv, fun hh => absurd hh (by simp [FW]), ?_⟩
    · simpa [resolve, rangeCall, Act.eval] using hd
    · refine CallsIn.mono (hc (n - 1) ι1 w1 args' s1 hargs) fun en w2 ⟨ι2, r, h2, hR, hh2, k1, k2, k3⟩ => ?_
      have hp := hx r h2 hR
      have hl2 := k3.le l eb hl
      have hfr := (hs.fr.mono st1.le).mono k3.le
      have hdf := hd1.mono k3.le
      have hrd := (hs.rd.mono st1.le).mono k3.le
      have hst := st1.trans k3
      cases r with
      | pan v =>
        cases en with
        | panicked ch => exact ⟨ι2, .pan v, _, hp, hh.trans hh2, k1, ⟨hfr, hdf, k2, hrd⟩, hst⟩
        | _ => exact k1.elim
      | ret v =>
        cases en with
        | returned v' =>
          obtain ⟨d, hgd, hbusy, hq⟩ := hp
          obtain ⟨_, _, lp, hlp, hlr⟩ := k2.loopAt hl2 hgd
          obtain ⟨q1, q2⟩ := k2.setLoop hl2 hgd hlp hlr .exhausted d.pending
          have hend := run_endLoop (P := P) hlp (by rw [hlr.state]; exact hbusy)
          rw [hlr.pending] at hend
          refine ⟨d.pending, _, hend, ?_⟩
          have fin : ∀ (e : DExit) ex, Q e ⟨s.fr, df, h2.set l (.loop { d with state := .exhausted, pending := d.pending }), s.rd⟩ → ExitRel ι2 e ex →
              ∃ ι' e s', Q e s' ∧ HStep s.h s'.h ∧ ExitRel ι' e ex ∧ SRel nt ι' s' rr { a with defers := mark ++ a.defers } (w2.putObj eb.block (.loop { lp with state := .exhausted, pending := d.pending })) ∧ Step ι ι' s.h s'.h w (w2.putObj eb.block (.loop { lp with state := .exhausted, pending := d.pending })) :=
            fun e ex hq hex => ⟨ι2, e, _, hq, hh.trans (hh2.trans (HStep.set _ _ _)), hex, ⟨hfr, hdf, q1, hrd⟩, hst.trans q2⟩
          cases hpe : d.pending with
          | none =>
            rw [hpe] at hq fin
            exact fin .normal _ hq trivial
          | some c =>
            rw [hpe] at hq fin
            cases c with
            | ret => exact wpIn_ret (fin .ret _ hq trivial)
            | exit id => exact wpIn_exit (fin (.exit id) _ hq rfl)
            | _ => exact hq.elim
        | _ => exact k1.elim
  | _ => exact hn.elim
/-- an outermost loop -/
theorem NC.range {g : Operand} {ps : Array Tmp} {assign body : Code} {Q : DExit → St → Prop} {s : St} {fv : Value} {f : FuncId} {args : List Value} {h1 : DHeap}
    (hrd : s.rd = none) (hg : evalF s.h.ng s.fr g = some fv) (hh1 : h1 = (s.h.push (.marks true)).push (.loop ⟨nt, s.fr, ps, assign, body, s.h.next, .ready, none⟩))
    (ht : dTarget P fv [.func (.yield (s.h.next + 1)) #[] #[]] h1 = some (.enter f args)) {R : DEnd → DHeap → Prop}
    (hc : Ct P f args h1 R) (hx : ∀ r h2, R r h2 → XRangePost (s.h.next + 1) s.fr (.mark s.h.next :: s.df) s.rd Q r h2) : NC P nt (.rangeFunc g ps assign body) Q s := by
  subst hh1
  refine NC.range_aux hg ((HStep.push _ _).trans (HStep.push _ _)) (fun r ι a w fn hs => ?_) ht hc hx
  have hr : r = none := by
    have := hs.rd
    rw [hrd] at this
    cases r with
    | none => rfl
    | some _ => exact this.elim
  subst hr
  obtain ⟨a1, a2⟩ := hs.sim.alloc (.marks true) (.deferred (some [])) ⟨w.heap.size, 0, 0, 0, false⟩ rfl ⟨rfl, rfl, World.alloc_heap_new _ _⟩
  have hsz : (w.alloc (.deferred (some []))).heap.size = w.heap.size + 1 := World.size_alloc _ _
  have hm : (ι.upd s.h.next ⟨w.heap.size, 0, 0, 0, false⟩) s.h.next = some ⟨w.heap.size, 0, 0, 0, false⟩ := Inj.upd_same _ _ _
  obtain ⟨b1, b2⟩ := a1.alloc (.loop ⟨nt, s.fr, ps, assign, body, s.h.next, .ready, none⟩) (.loop { state := .ready, pending := none, fn, tmps := a.tmps, params := ps, assign, body, defers := w.heap.size })
    ⟨w.heap.size + 1, 0, 0, 0, false⟩ hsz.symm ⟨rfl, rfl, _, by rw [← hsz]; exact World.alloc_heap_new _ _,
      ⟨(hs.fr.mono a2.le).mono (Inj.upd_le a1.fresh), rfl, rfl, rfl, rfl, rfl, ⟨w.heap.size, 0, 0, 0, false⟩, Inj.upd_le a1.fresh _ _ hm, rfl, rfl⟩⟩
  refine ⟨_, ⟨w.heap.size + 1, 0, 0, 0, false⟩, _, _, run_enterLoop_outer fn a.tmps ps assign body, ?_, rfl, b1, a2.trans b2, ?_⟩
  · exact Inj.upd_same _ _ _
  · exact ⟨⟨_, b2.le _ _ hm, rfl, rfl⟩, (hs.df.mono a2.le).mono b2.le⟩
/-- code in a loop over a function, walked without its places -/
theorem NC.strip {c c0 : Code} {Q : DExit → St → Prop} {s : St} (hs : Go.D.strip c0 = c) (hk : codeOK nt c = true) (h : xs P nt c Q s) : NC P nt c0 Q s := by
  subst hs
  exact xs_sound c0 Q s (by rw [← codeOK_strip]; exact hk) h
/-- the end of a function over whose loop its activation has a mark -/
theorem XLv_mark {rs : List ResultVar} {fr : Fr} {R : DEnd → DHeap → Prop} {id : Nat} {ds : List DDef} {m : DMode} {h : DHeap} (hm : h.get id = some (.marks true)) (hx : XLv P rs fr R ds m (h.set id (.marks false))) : XLv P rs fr R (.mark id :: ds) m h := ⟨hm, hx⟩
end Go.D

namespace Go.D
variable {P : Program} {α : Type} {R : Rep α} {S : Nat → Prop} {h : DHeap} {v : Value} {l : List α} {t : TypeId}

theorem Sl.slice3 (a : Sl R S h v l) (hz : slElem P t = some R.z) (hp : 0 < R.z) {lo : Option Value} {vm vh : Value} {i j : Nat} (hm : boundOf (some vm) l.length l.length = some j) (hh : boundOf (some vh) 0 j = some j) (hi2 : boundOf lo 0 j = some i) (hij : i ≤ j) (hjl : j ≤ l.length) :
    ∃ v', dSlice P t v lo (some vh) (some vm) h = some v' ∧ Sl R S h v' ((l.take j).drop i) := by
  unfold slElem at hz
  split at hz
  · rename_i e e1
    cases e2 : P.info? e with
    | none => rw [e2] at hz; cases hz
    | some inf =>
      rw [e2] at hz
      have hsz : inf.size = R.z := by simpa using hz
      rcases a with ⟨rfl, rfl⟩ | ⟨id, o, cap, cells, esz, ro, rfl, b, c, d, e, f⟩
      · have hj0 : j = 0 := by simpa using hjl
        subst hj0
        have hm' : boundOf (some vm) 0 0 = some 0 := hm
        refine ⟨.slice none 0 0, ?_, ?_⟩
        · simp only [dSlice, e1, e2, hm', hh, hi2]
        · simpa using Sl.nil R S h
      · have hfit : rowFits h id inf.size = true := by
          simp only [rowFits, c, hsz]
          rcases d with d | d <;> simp [d]
        refine ⟨.slice (some ⟨id, o + i * inf.size, none⟩) (j - i) (if j = j then j - i else j - i + 1), ?_, .inr ⟨id, o + i * R.z, (if j = j then j - i else j - i + 1), cells, esz, ro, ?_, b, c, d, ?_, ?_⟩⟩
        · simp only [dSlice, e1, e2]
          rw [if_pos ⟨hfit, by rw [hsz]; exact hp⟩]
          simp only [boundOf] at hm hh hi2 ⊢
          simp only [hm, hh, hi2]
        · rw [hsz]; simp [List.length_take, Nat.min_eq_left hjl]
        · have h1 : ((l.take j).drop i).length = j - i := by simp [Nat.min_eq_left hjl]
          rw [h1]
          have h2 : j * R.z ≤ l.length * R.z := Nat.mul_le_mul_right _ hjl
          have h3 : i * R.z + (j - i) * R.z = j * R.z := by rw [← Nat.add_mul]; congr 1; omega
          omega
        · have h1 : ((l.take j).drop i).length = j - i := by simp [Nat.min_eq_left hjl]
          have g := (f.take j).drop i
          have h2 : j * R.z ≤ l.length * R.z := Nat.mul_le_mul_right _ hjl
          have h3 : i * R.z + (j - i) * R.z = j * R.z := by rw [← Nat.add_mul]; congr 1; omega
          rw [List.take_take, Nat.min_eq_left h2, List.drop_take, List.drop_drop] at g
          rw [h1]
          rw [show j * R.z - i * R.z = (j - i) * R.z by omega] at g
          exact g
  · cases hz
theorem bound_nat {k : IntKind} {n d y : Nat} (h : n ≤ y) : boundOf (some (.int k (n : Int))) d y = some n := by
  simp only [boundOf]
  rw [if_pos (by omega)]
  rfl
theorem min_i64 {ts : Array TypeId} {ty : TypeId} {a b : Int} : dBuiltin P .min ts ty h (some [.int .i64 a, .int .i64 b]) = .ok (.value (.int .i64 (min a b))) h := by
  have hq : quick P (Builtin.min_ ts ty #[.int .i64 a, .int .i64 b]) = some (.inr (.int .i64 (min a b))) := by
    have e : min a b = if b < a then b else a := by
      by_cases h : b < a
      · rw [if_pos h]; omega
      · rw [if_neg h]; omega
    rw [e]
    rfl
  have hf : ([Value.int .i64 a, .int .i64 b].all flat3) = true := rfl
  rw [dBuiltin_min, if_pos hf]
  simp only [dval, hq]
  rfl
end Go.D

namespace Go.Proofs.Ytlhgijpdhniddaa
open Go.D
set_option maxRecDepth 100000

/-- the i-th part of bytes -/
def pieceL (l : List Int) (i : Nat) : List Int := (l.take (min ((i + 1) * 16384) l.length)).drop (i * 16384)
def manyL (l : List Int) : Nat := (l.length + 16383) / 16384
def partsL (slot : Int) (l : List Int) : List Part := (List.range (manyL l)).map fun (i : Nat) => (⟨slot, (i : Int), (manyL l : Int), pieceL l i⟩ : Part)
/-- a state's parts -/
def partsS (x : State) : List Part := if bytesE x = 0 then partsL x.slot (stateB x) else []
abbrev partV (x : Part) (w : Value) : Value := .agg #[.int .i64 x.slot, .int .i64 x.index, .int .i64 x.many, w]
theorem partsL_len (slot : Int) (l : List Int) : (partsL slot l).length = manyL l := by simp [partsL]
theorem partsL_get {slot : Int} {l : List Int} {i : Nat} (h : i < manyL l) : (partsL slot l)[i]? = some ⟨slot, (i : Int), (manyL l : Int), pieceL l i⟩ := by
  unfold partsL
  rw [List.getElem?_map, List.getElem?_range h]
  rfl
theorem piece_le {l : List Int} {i : Nat} (h : i < manyL l) : i * 16384 ≤ min ((i + 1) * 16384) l.length := by
  unfold manyL at h
  omega
theorem cut_c {h : DHeap} {S : Nat → Prop} {b : Value} {l : List Int} {i j : Nat} (hb : Sl fU8.rep S h b l) (hS : ∀ i, S i → i < h.next) (hij : i ≤ j) (hj : j ≤ l.length) :
    ∃ v', DC Try.prog 56 [b, .int .i64 (i : Nat), .int .i64 (j : Nat)] h (.ret v') h ∧ Sl fU8.rep S h v' ((l.take j).drop i) := by
  obtain ⟨v', e, hs⟩ := hb.slice3 (P := Try.prog) (t := 22) (lo := some (.int .i64 (i : Nat))) (vm := .int .i64 (j : Nat)) (vh := .int .i64 (j : Nat)) (i := i) (j := j) el_22 (by decide) (bound_nat hj) (bound_nat (Nat.le_refl _)) (bound_nat hij) hij hj
  refine ⟨v', Ct.pure (go_56 (by simp) ?_) (hs.vin.mono hS), hs⟩
  simp -implicitDefEqProofs (disch := first | omega | (simp -implicitDefEqProofs only [go_sem, List.size_toArray, List.length_cons, List.length_nil, Nat.reduceAdd]; done)) only [go_sem, Int.reduceLT, Int.reduceLE, Int.reduceEq, reduceIte, true_and, Nat.zero_add, Nat.add_zero, Option.map_some, c56, e]
  exact ⟨_, rfl, rfl, .refl _⟩
theorem bytes0_of {x : State} (h : bytesE x = 0) : mayB x = true ∧ (stateB x).length ≤ 1048576 ∧ bytesL x = stateB x := by
  unfold bytesE at h
  unfold bytesL
  split at h
  · rename_i hm
    split at h
    · cases h
    · rename_i hlen
      exact ⟨hm, by omega, by rw [if_pos hm, if_neg hlen]⟩
  · cases h
theorem part_rd {S : Nat → Prop} {h : DHeap} {x : Part} {w : Value} (h1 : inK .i64 x.slot) (h2 : inK .i64 x.index) (h3 : inK .i64 x.many) (hs : Sl fU8.rep S h w x.data) : rPart.rd S h [.int .i64 x.slot, .int .i64 x.index, .int .i64 x.many, w] x :=
  ⟨_, _, rfl, ⟨rfl, h1⟩, _, _, rfl, ⟨rfl, h2⟩, _, _, rfl, ⟨rfl, h3⟩, w, rfl, hs⟩
theorem rd_part {S : Nat → Prop} {h : DHeap} {cs : List Value} {x : Part} (a : rPart.rd S h cs x) : ∃ w, cs = [.int .i64 x.slot, .int .i64 x.index, .int .i64 x.many, w] ∧ Sl fU8.rep S h w x.data ∧ inK .i64 x.slot ∧ inK .i64 x.index ∧ inK .i64 x.many := by
  obtain ⟨c1, c2, rfl, ⟨rfl, k1⟩, c3, c4, rfl, ⟨rfl, k2⟩, c5, c6, rfl, ⟨rfl, k3⟩, w, rfl, hs⟩ := a
  exact ⟨w, rfl, hs, k1, k2, k3⟩
theorem part_at {S : Nat → Prop} {h : DHeap} {id o : Nat} {x : Part} (a : At rPart S h id o x) : ∃ w, cellsAt h id o 4 = some (partV x w) ∧ Sl fU8.rep S h w x.data ∧ inK .i64 x.slot ∧ inK .i64 x.index ∧ inK .i64 x.many := by
  obtain ⟨cs, e1, e2⟩ := a.load_agg
  obtain ⟨w, rfl, h2⟩ := rd_part e2
  exact ⟨w, e1, h2⟩
theorem bd_part {a b c : Int} {x : Option Addr} {n k : Nat} : dBuild Try.prog 57 [(0, .int .i64 a), (1, .int .i64 b), (2, .int .i64 c), (3, .slice x n k)] = some (.agg #[.int .i64 a, .int .i64 b, .int .i64 c, .slice x n k]) := dBuild_at plc_57 rfl
/-- one more part behind a list of parts -/
theorem parts_c {h : DHeap} {n : Int} {cv rv : Value} {cells : List Cell} {rows : List Row} (hn : inK .i64 n) (hc : Arg fCell.rep h cv cells) (hr : Arg rRow h rv rows) (hlc : cells.length ≤ 16777216) (hlr : rows.length ≤ 16777216) :
    Ct Try.prog 23 [stateV n cv rv] h fun r h1 => ∃ c vp, r = .ret (.func (.func 57) #[] #[.pointer (some ⟨c, 0, none⟩)]) ∧ Ext h h1 ∧ h.next ≤ c ∧ c < h1.next ∧ h1.get c = some (.row [vp] 0 false) ∧
      Sl rPart (fun i => h.next ≤ i ∧ i < h1.next ∧ i ≠ c) h1 vp (partsS ⟨n, cells, rows⟩) := by
  refine go_23 (by simp) ?_
  have c1 := hc.cells1
  have r1 := hr.cells1
  obtain ⟨H0, hH0⟩ : ∃ H, H = h.push (.row [.int .i64 n, cv, rv] 0 false) := ⟨_, rfl⟩
  have hE0 : Ext h H0 := by rw [hH0]; exact Ext.push1 _ _
  have hB0 : H0.get h.next = some (.row [.int .i64 n, cv, rv] 0 false) := by rw [hH0]; exact get_push_same _ _
  have hl3 : cellsAt H0 h.next 0 3 = some (stateV n cv rv) := by rw [cellsAt_row hB0 (Nat.le_of_ble_eq_true rfl)]; rfl
  have hH0n : H0.next = h.next + 1 := by rw [hH0]; rfl
  simp -implicitDefEqProofs (disch := first | omega | (simp -implicitDefEqProofs only [go_sem, List.size_toArray, List.length_cons, List.length_nil, Nat.reduceAdd]; done)) only [go_sem, Int.reduceLT, Int.reduceLE, Int.reduceEq, reduceIte, true_and, Nat.zero_add, Nat.add_zero, Option.map_some, c23, ← hH0, hl3]
  refine ncall_ct (bytes_s hn (hc.ext hE0) (hr.ext hE0) hlc hlr) ?_
  rintro r h1 ⟨v, rfl, hE, ha⟩
  have hEn := hE.next
  have hEh := hE0.trans hE
  by_cases h0 : bytesE ⟨n, cells, rows⟩ = 0
  case neg =>
    simp -implicitDefEqProofs (disch := first | omega | (simp -implicitDefEqProofs only [go_sem, List.size_toArray, List.length_cons, List.length_nil, Nat.reduceAdd]; done)) only [go_sem, Int.reduceLT, Int.reduceLE, Int.reduceEq, reduceIte, true_and, Nat.zero_add, Nat.add_zero, Option.map_some, XEnd, h0]
    refine ⟨_, rfl, h1.next, _, rfl, hEh.push _, by omega, Nat.lt_succ_self _, get_push_same _ _, ?_⟩
    unfold partsS
    rw [if_neg h0]
    exact Sl.nil _ _ _
  obtain ⟨hm, hlen, hbl⟩ := bytes0_of h0
  rw [hbl] at ha
  have hps : partsS ⟨n, cells, rows⟩ = partsL n (stateB ⟨n, cells, rows⟩) := by unfold partsS; rw [if_pos h0]
  rw [hps]
  obtain ⟨l, hl⟩ : ∃ l, stateB ⟨n, cells, rows⟩ = l := ⟨_, rfl⟩
  rw [hl] at ha hlen ⊢
  obtain ⟨H1, hH1⟩ : ∃ H, H = h1.push (.row [.slice none 0 0] 0 false) := ⟨_, rfl⟩
  have hH1n : H1.next = h1.next + 1 := by rw [hH1]; rfl
  have el : ∀ K, dLen Try.prog #[22] v K = some (.int .i64 (l.length : Nat)) := ha.lens (P := Try.prog) (ts := #[22]) (t := 22) rfl isl_22
  have hw1 : IntKind.i64.wrap ((l.length : Int) + 16384) = (l.length : Int) + 16384 := wrap_i64_in (by omega) (by omega)
  have hw2 : IntKind.i64.wrap ((l.length : Int) + 16384 - 1) = (l.length : Int) + 16383 := by rw [wrap_i64_in (by omega) (by omega)]; omega
  have hw3 : IntKind.i64.wrap (((l.length : Int) + 16383).tdiv 16384) = ((manyL l : Nat) : Int) := by
    have : ((l.length : Int) + 16383).tdiv 16384 = ((manyL l : Nat) : Int) := by
      rw [Int.tdiv_eq_ediv_of_nonneg (by omega)]
      unfold manyL
      omega
    rw [this, wrap_i64_in (by omega) (by unfold manyL; omega)]
  have hmany : manyL l ≤ 65 := by unfold manyL; omega
  have hq : ∀ {K : DHeap} {ox oy : Operand}, dBinOp Try.prog .quo 3 ox oy (.int .i64 ((l.length : Int) + 16383)) (.int .i64 16384) K = .ok (.value (.int .i64 ((manyL l : Nat) : Int))) K := fun {K ox oy} => by
    rw [bin_quo (by decide), hw3]
  simp -implicitDefEqProofs (disch := first | omega | (simp -implicitDefEqProofs only [go_sem, List.size_toArray, List.length_cons, List.length_nil, Nat.reduceAdd]; done)) only [go_sem, Int.reduceLT, Int.reduceLE, Int.reduceEq, reduceIte, true_and, Nat.zero_add, Nat.add_zero, Option.map_some, XEnd, h0, ← hH1, el, hw1, hw2, hq]
  refine XLoop_cut (fun s => s.df = [] ∧ s.fr 5 = some (.pointer (some ⟨h1.next, 0, none⟩)) ∧ Ext h s.h ∧ h1.next < s.h.next ∧ ∃ vp, s.h.get h1.next = some (.row [vp] 0 false) ∧ Sl rPart (fun i => h.next ≤ i ∧ i < s.h.next ∧ i ≠ h1.next) s.h vp (partsL n l)) ?_ ?_
  · refine xloop (σ := Nat) (by kernel_rfl) (fun i s => s.df = [] ∧ s.fr 1 = some (.pointer (some ⟨h.next, 0, none⟩)) ∧ s.fr 3 = some v ∧ s.fr 5 = some (.pointer (some ⟨h1.next, 0, none⟩)) ∧ s.fr 6 = some (.int .i64 (manyL l : Nat)) ∧ s.fr 20 = some (.int .i64 (manyL l : Nat)) ∧ s.fr 21 = some (.int .i64 (i : Nat)) ∧ i ≤ manyL l ∧
      (∀ j, j < h1.next → s.h.get j = h1.get j) ∧ H1.next ≤ s.h.next ∧ s.h.ng = h1.ng ∧ ∃ vp w, s.h.get h1.next = some (.row [vp] 0 false) ∧ Owns rPart (fun j => h.next ≤ j ∧ j < h1.next) s.h vp ((partsL n l).take i) w ∧ ∀ x, w = some x → h1.next + 1 ≤ x) (fun i => manyL l - i) 0 ?_ ?_
    · simp -implicitDefEqProofs (disch := first | omega | (simp -implicitDefEqProofs only [go_sem, List.size_toArray, List.length_cons, List.length_nil, Nat.reduceAdd]; done)) only [go_sem, Int.reduceLT, Int.reduceLE, Int.reduceEq, reduceIte, true_and, Nat.zero_add, Nat.add_zero, Option.map_some]
      exact ⟨rfl, Nat.zero_le _, fun j hj => by rw [hH1]; exact get_push_other _ _ hj, Nat.le_refl _, by rw [hH1]; rfl, .slice none 0 0, none, by rw [hH1]; exact get_push_same _ _, Owns.nil _ _ _, by simp⟩
    · rintro i ⟨fr, df, hh, rd⟩ K' hK' hX ⟨rfl, f1, f3, f5, f6, f20, f21, hi, hold, hnx, hng, vp, w, hg, ho, hw⟩
      simp only at f1 f3 f5 f6 f20 f21 hold hnx hng hg ho
      have hwl := ho.lt
      have hnx' : h1.next + 1 ≤ hh.next := by rw [← hH1n]; exact hnx
      have hEhn := hEh.next
      by_cases hc1 : ((i : Nat) : Int) < (manyL l : Nat)
      case neg =>
        have hi2 : i = manyL l := by omega
        simp -implicitDefEqProofs (disch := first | omega | (simp -implicitDefEqProofs only [go_sem, List.size_toArray, List.length_cons, List.length_nil, Nat.reduceAdd]; done)) only [go_sem, Int.reduceLT, Int.reduceLE, Int.reduceEq, reduceIte, true_and, Nat.zero_add, Nat.add_zero, Option.map_some, f20, f21, hc1]
        refine hX _ _ (by simp) ⟨rfl, by simp -implicitDefEqProofs (disch := first | omega | (simp -implicitDefEqProofs only [go_sem, List.size_toArray, List.length_cons, List.length_nil, Nat.reduceAdd]; done)) only [go_sem, Int.reduceLT, Int.reduceLE, Int.reduceEq, reduceIte, true_and, Nat.zero_add, Nat.add_zero, Option.map_some, f5], ⟨Nat.le_trans hEh.next (Nat.le_of_succ_le hnx'), hng.trans hEh.ng, fun j hj => (hold j (Nat.lt_of_lt_of_le hj hEh.next)).trans (hEh.get j hj)⟩, hnx', vp, hg, ?_⟩
        rw [hi2, ← partsL_len n l, List.take_length] at ho
        have key : ∀ j, ((h.next ≤ j ∧ j < h1.next) ∨ w = some j) → h.next ≤ j ∧ j < hh.next ∧ j ≠ h1.next := fun j hj => by
          rcases hj with hj | hj
          · exact ⟨hj.1, by omega, by omega⟩
          · have := hw j hj; have := hwl j hj; exact ⟨by omega, by omega, by omega⟩
        exact ho.sl.mono fun j hj => ⟨key j hj, rfl⟩
      have hlt : i < manyL l := by omega
      have hpl := piece_le hlt
      have ha' : Sl fU8.rep (fun j => h.next ≤ j ∧ j < h1.next) hh v l := ha.mono fun j hj => ⟨⟨by have := hE0.next; omega, hj.2⟩, hold j hj.2⟩
      obtain ⟨v', tc, hs'⟩ := cut_c ha' (fun j hj => by omega) hpl (Nat.min_le_right _ _)
      have hgS : hh.get h.next = some (.row [.int .i64 n, cv, rv] 0 false) := by rw [hold _ (by omega), hE.get _ (by omega)]; exact hB0
      have C1 : cellAt hh h.next 0 = some (.int .i64 n) := cellAt_row hgS
      have C5 : cellAt hh h1.next 0 = some vp := cellAt_row hg
      have hx := partsL_get (slot := n) hlt
      have hwA : IntKind.i64.wrap ((i : Int) * 16384) = ((i * 16384 : Nat) : Int) := by rw [wrap_i64_in (by omega) (by omega)]; omega
      have hwB : IntKind.i64.wrap ((i : Int) + 1) = ((i + 1 : Nat) : Int) := by rw [wrap_i64_in (by omega) (by omega)]; omega
      have hwC : IntKind.i64.wrap (((i + 1 : Nat) : Int) * 16384) = (((i + 1) * 16384 : Nat) : Int) := by rw [wrap_i64_in (by omega) (by omega)]; omega
      have hmin : min (l.length : Int) (((i + 1) * 16384 : Nat) : Int) = ((min ((i + 1) * 16384) l.length : Nat) : Int) := by omega
      have hsl := hs'.isSlice
      have hbp : ∀ a b c : Int, dBuild Try.prog 57 [(0, .int .i64 a), (1, .int .i64 b), (2, .int .i64 c), (3, v')] = some (.agg #[.int .i64 a, .int .i64 b, .int .i64 c, v']) := by
        obtain ⟨_, _, rfl⟩ := hsl
        exact fun a b c => bd_part
      simp -implicitDefEqProofs (disch := first | omega | (simp -implicitDefEqProofs only [go_sem, List.size_toArray, List.length_cons, List.length_nil, Nat.reduceAdd]; done)) only [go_sem, Int.reduceLT, Int.reduceLE, Int.reduceEq, reduceIte, true_and, Nat.zero_add, Nat.add_zero, Option.map_some, f20, f21, hc1]
      refine dr_23_0 ?_
      simp -implicitDefEqProofs (disch := first | omega | (simp -implicitDefEqProofs only [go_sem, List.size_toArray, List.length_cons, List.length_nil, Nat.reduceAdd]; done)) only [go_sem, Int.reduceLT, Int.reduceLE, Int.reduceEq, reduceIte, true_and, Nat.zero_add, Nat.add_zero, Option.map_some, l23_0, f1, f3, f5, f6, C1, C5, el, hwA, hwB, hwC, min_i64, hmin]
      refine dcall tc ?_
      obtain ⟨z2, h2, e3, y1, y2, y3, o3⟩ := ho.snoc (ts := #[44, 44]) (z := 4) (fun j hj => ⟨by omega, fun hwj => by have := hw j hwj; omega⟩)
        (part_rd (x := ⟨n, (i : Int), (manyL l : Int), pieceL l i⟩) hn (inK_i64.2 (by show _ ≤ ((i:Nat):Int) ∧ ((i:Nat):Int) ≤ _; omega)) (inK_i64.2 (by show _ ≤ ((manyL l:Nat):Int) ∧ ((manyL l:Nat):Int) ≤ _; omega)) hs') rfl (by decide) app_44 (by rw [List.length_take, partsL_len]; omega) (by decide)
      have hbs : ∀ (K : DHeap) (a b c : Int), dBuildSlice Try.prog 44 1 [(0, .agg #[.int .i64 a, .int .i64 b, .int .i64 c, v'])] K = some (.slice (some ⟨K.next, 0, none⟩) 1 1, K.push (.row [.int .i64 a, .int .i64 b, .int .i64 c, v'] 4 false)) := fun K a b c => bs1_44 rfl
      have g2 : h2.get h1.next = some (.row [vp] 0 false) := (y3 _ (by omega) (fun hwi => by have := hw _ hwi; omega)).trans hg
      have hsl2 := o3.sl.isSlice
      have hcl2 : z2.cells = #[z2] := o3.sl.cells1
      have hone : [z2].all Value.oneCell' = true := by obtain ⟨_, _, rfl⟩ := hsl2; rfl
      have hst : dStore Try.prog 44 (.pointer (some ⟨h1.next, 0, none⟩)) z2 h2 = some (h2.set h1.next (.row [z2] 0 false)) :=
        (st_44 hcl2).trans (storeAt_row g2 (Nat.le_of_ble_eq_true rfl) hone)
      simp -implicitDefEqProofs (disch := first | omega | (simp -implicitDefEqProofs only [go_sem, List.size_toArray, List.length_cons, List.length_nil, Nat.reduceAdd]; done)) only [go_sem, Int.reduceLT, Int.reduceLE, Int.reduceEq, reduceIte, true_and, Nat.zero_add, Nat.add_zero, Option.map_some, hbp, hbs, e3, f5, hst]
      have D0 : ∀ K : DHeap, K.get h1.next = some (.row [vp] 0 false) → dLoad Try.prog 44 (.pointer (some ⟨h1.next, 0, none⟩)) K = some vp := fun K hk => ld_44.trans (cellAt_row hk)
      have D2 : dLoad Try.prog 2 (.pointer (some ⟨h.next, 0, none⟩)) hh = some (.int .i64 n) := ld_2.trans C1
      refine ⟨⟨XSt1_at (i := 0) (j := 9) rfl rfl rfl ?_, XSt1_at (i := 0) (j := 13) rfl rfl rfl ?_, XSt1_at (i := 0) (j := 14) rfl rfl rfl ?_, XSt1_at (i := 0) (j := 16) rfl rfl rfl ?_, XSt1_at (i := 2) (j := 9) rfl rfl rfl ?_, XSt1_at (i := 2) (j := 13) rfl rfl rfl ?_, XSt1_at (i := 2) (j := 14) rfl rfl rfl ?_, trivial⟩, ?_⟩
      · rw [if_neg (by decide)]
        exact Ld_on (p := .pointer (some ⟨h1.next, 0, none⟩)) (by simp -implicitDefEqProofs (disch := first | omega | (simp -implicitDefEqProofs only [go_sem, List.size_toArray, List.length_cons, List.length_nil, Nat.reduceAdd]; done)) only [go_sem, Int.reduceLT, Int.reduceLE, Int.reduceEq, reduceIte, true_and, Nat.zero_add, Nat.add_zero, Option.map_some]) (by simp -implicitDefEqProofs (disch := first | omega | (simp -implicitDefEqProofs only [go_sem, List.size_toArray, List.length_cons, List.length_nil, Nat.reduceAdd]; done)) only [go_sem, Int.reduceLT, Int.reduceLE, Int.reduceEq, reduceIte, true_and, Nat.zero_add, Nat.add_zero, Option.map_some, f5]) (D0 _ hg)
      · rw [if_neg (by decide)]
        exact Ld_on (p := .pointer (some ⟨h1.next, 0, none⟩)) (by simp -implicitDefEqProofs (disch := first | omega | (simp -implicitDefEqProofs only [go_sem, List.size_toArray, List.length_cons, List.length_nil, Nat.reduceAdd]; done)) only [go_sem, Int.reduceLT, Int.reduceLE, Int.reduceEq, reduceIte, true_and, Nat.zero_add, Nat.add_zero, Option.map_some]) (by simp -implicitDefEqProofs (disch := first | omega | (simp -implicitDefEqProofs only [go_sem, List.size_toArray, List.length_cons, List.length_nil, Nat.reduceAdd]; done)) only [go_sem, Int.reduceLT, Int.reduceLE, Int.reduceEq, reduceIte, true_and, Nat.zero_add, Nat.add_zero, Option.map_some, f5]) (D0 _ hg)
      · rw [if_neg (by decide)]
        exact Ld_on (p := .pointer (some ⟨h1.next, 0, none⟩)) (by simp -implicitDefEqProofs (disch := first | omega | (simp -implicitDefEqProofs only [go_sem, List.size_toArray, List.length_cons, List.length_nil, Nat.reduceAdd]; done)) only [go_sem, Int.reduceLT, Int.reduceLE, Int.reduceEq, reduceIte, true_and, Nat.zero_add, Nat.add_zero, Option.map_some]) (by simp -implicitDefEqProofs (disch := first | omega | (simp -implicitDefEqProofs only [go_sem, List.size_toArray, List.length_cons, List.length_nil, Nat.reduceAdd]; done)) only [go_sem, Int.reduceLT, Int.reduceLE, Int.reduceEq, reduceIte, true_and, Nat.zero_add, Nat.add_zero, Option.map_some, f5]) (D0 _ hg)
      · rw [if_neg (by decide)]
        exact Ld_on (p := .pointer (some ⟨h1.next, 0, none⟩)) (by simp -implicitDefEqProofs (disch := first | omega | (simp -implicitDefEqProofs only [go_sem, List.size_toArray, List.length_cons, List.length_nil, Nat.reduceAdd]; done)) only [go_sem, Int.reduceLT, Int.reduceLE, Int.reduceEq, reduceIte, true_and, Nat.zero_add, Nat.add_zero, Option.map_some]) (by simp -implicitDefEqProofs (disch := first | omega | (simp -implicitDefEqProofs only [go_sem, List.size_toArray, List.length_cons, List.length_nil, Nat.reduceAdd]; done)) only [go_sem, Int.reduceLT, Int.reduceLE, Int.reduceEq, reduceIte, true_and, Nat.zero_add, Nat.add_zero, Option.map_some, f5]) (D0 _ ((get_push_other _ _ (by omega)).trans hg))
      · rw [if_neg (by decide)]
        exact Ld_on (p := .pointer (some ⟨h.next, 0, none⟩)) (by simp -implicitDefEqProofs (disch := first | omega | (simp -implicitDefEqProofs only [go_sem, List.size_toArray, List.length_cons, List.length_nil, Nat.reduceAdd]; done)) only [go_sem, Int.reduceLT, Int.reduceLE, Int.reduceEq, reduceIte, true_and, Nat.zero_add, Nat.add_zero, Option.map_some]) (by simp -implicitDefEqProofs (disch := first | omega | (simp -implicitDefEqProofs only [go_sem, List.size_toArray, List.length_cons, List.length_nil, Nat.reduceAdd]; done)) only [go_sem, Int.reduceLT, Int.reduceLE, Int.reduceEq, reduceIte, true_and, Nat.zero_add, Nat.add_zero, Option.map_some, f1]) D2
      · rw [if_neg (by decide)]
        exact Ld_on (p := .pointer (some ⟨h.next, 0, none⟩)) (by simp -implicitDefEqProofs (disch := first | omega | (simp -implicitDefEqProofs only [go_sem, List.size_toArray, List.length_cons, List.length_nil, Nat.reduceAdd]; done)) only [go_sem, Int.reduceLT, Int.reduceLE, Int.reduceEq, reduceIte, true_and, Nat.zero_add, Nat.add_zero, Option.map_some]) (by simp -implicitDefEqProofs (disch := first | omega | (simp -implicitDefEqProofs only [go_sem, List.size_toArray, List.length_cons, List.length_nil, Nat.reduceAdd]; done)) only [go_sem, Int.reduceLT, Int.reduceLE, Int.reduceEq, reduceIte, true_and, Nat.zero_add, Nat.add_zero, Option.map_some, f1]) D2
      · rw [if_neg (by decide)]
        exact Ld_on (p := .pointer (some ⟨h.next, 0, none⟩)) (by simp -implicitDefEqProofs (disch := first | omega | (simp -implicitDefEqProofs only [go_sem, List.size_toArray, List.length_cons, List.length_nil, Nat.reduceAdd]; done)) only [go_sem, Int.reduceLT, Int.reduceLE, Int.reduceEq, reduceIte, true_and, Nat.zero_add, Nat.add_zero, Option.map_some]) (by simp -implicitDefEqProofs (disch := first | omega | (simp -implicitDefEqProofs only [go_sem, List.size_toArray, List.length_cons, List.length_nil, Nat.reduceAdd]; done)) only [go_sem, Int.reduceLT, Int.reduceLE, Int.reduceEq, reduceIte, true_and, Nat.zero_add, Nat.add_zero, Option.map_some, f1]) D2
      simp -implicitDefEqProofs (disch := first | omega | (simp -implicitDefEqProofs only [go_sem, List.size_toArray, List.length_cons, List.length_nil, Nat.reduceAdd]; done)) only [go_sem, Int.reduceLT, Int.reduceLE, Int.reduceEq, reduceIte, true_and, Nat.zero_add, Nat.add_zero, Option.map_some, f21, hwB]
      refine hK' (i + 1) _ ?_ (by omega)
      refine ⟨by trivial, by simp -implicitDefEqProofs (disch := first | omega | (simp -implicitDefEqProofs only [go_sem, List.size_toArray, List.length_cons, List.length_nil, Nat.reduceAdd]; done)) only [go_sem, Int.reduceLT, Int.reduceLE, Int.reduceEq, reduceIte, true_and, Nat.zero_add, Nat.add_zero, Option.map_some, f1], by simp -implicitDefEqProofs (disch := first | omega | (simp -implicitDefEqProofs only [go_sem, List.size_toArray, List.length_cons, List.length_nil, Nat.reduceAdd]; done)) only [go_sem, Int.reduceLT, Int.reduceLE, Int.reduceEq, reduceIte, true_and, Nat.zero_add, Nat.add_zero, Option.map_some, f3], by simp -implicitDefEqProofs (disch := first | omega | (simp -implicitDefEqProofs only [go_sem, List.size_toArray, List.length_cons, List.length_nil, Nat.reduceAdd]; done)) only [go_sem, Int.reduceLT, Int.reduceLE, Int.reduceEq, reduceIte, true_and, Nat.zero_add, Nat.add_zero, Option.map_some, f5], by simp -implicitDefEqProofs (disch := first | omega | (simp -implicitDefEqProofs only [go_sem, List.size_toArray, List.length_cons, List.length_nil, Nat.reduceAdd]; done)) only [go_sem, Int.reduceLT, Int.reduceLE, Int.reduceEq, reduceIte, true_and, Nat.zero_add, Nat.add_zero, Option.map_some, f6], by simp -implicitDefEqProofs (disch := first | omega | (simp -implicitDefEqProofs only [go_sem, List.size_toArray, List.length_cons, List.length_nil, Nat.reduceAdd]; done)) only [go_sem, Int.reduceLT, Int.reduceLE, Int.reduceEq, reduceIte, true_and, Nat.zero_add, Nat.add_zero, Option.map_some, f20], by simp -implicitDefEqProofs (disch := first | omega | (simp -implicitDefEqProofs only [go_sem, List.size_toArray, List.length_cons, List.length_nil, Nat.reduceAdd]; done)) only [go_sem, Int.reduceLT, Int.reduceLE, Int.reduceEq, reduceIte, true_and, Nat.zero_add, Nat.add_zero, Option.map_some], by omega, ?_, ?_, ?_, z2, some (hh.next + 1), get_set_same _ _, ?_, ?_⟩
      · intro j hj
        exact (get_set_other _ _ (by omega)).trans ((y3 _ (by omega) (fun hwi => by have := hw _ hwi; omega)).trans (hold j hj))
      · show H1.next ≤ h2.next
        omega
      · exact y2.trans hng
      · rw [List.take_add_one, hx]
        exact o3.mono (Nat.le_refl _) (fun x hxw => get_set_other _ _ (by cases hxw; omega)) (fun j hj => ⟨hj, get_set_other _ _ (by omega)⟩)
      · intro x hxw
        cases hxw
        omega
  · rintro ⟨fr, df, hh, rd⟩ ⟨rfl, f5, hE2, hc2, vp, hg, hs⟩
    simp only at f5 hE2 hc2 hg hs
    simp -implicitDefEqProofs (disch := first | omega | (simp -implicitDefEqProofs only [go_sem, List.size_toArray, List.length_cons, List.length_nil, Nat.reduceAdd]; done)) only [go_sem, Int.reduceLT, Int.reduceLE, Int.reduceEq, reduceIte, true_and, Nat.zero_add, Nat.add_zero, Option.map_some, f5]
    exact ⟨_, rfl, h1.next, vp, rfl, hE2, by omega, hc2, hg, hs⟩
end Go.Proofs.Ytlhgijpdhniddaa

namespace Go.Proofs.Ytlhgijpdhniddaa
open Go.D
set_option maxRecDepth 100000

theorem part_idx {S : Nat → Prop} {h : DHeap} {v : Value} {ps : List Part} {i : Nat} {x : Part} (hb : Sl rPart S h v ps) (hx : ps[i]? = some x) :
    ∃ id o w, dIndexAddr Try.prog 44 v (.int .i64 (i : Nat)) = some (.pointer (some ⟨id, o, none⟩)) ∧ S id ∧ cellsAt h id o 4 = some (partV x w) ∧ Sl fU8.rep S h w x.data ∧ inK .i64 x.slot ∧ inK .i64 x.index ∧ inK .i64 x.many := by
  obtain ⟨id, o, g, hs, hat⟩ := hb.idx (P := Try.prog) (t := 44) el_44 (k := .i64) hx
  obtain ⟨w, l, k⟩ := part_at hat
  exact ⟨id, o, w, g, hs, l, k⟩
theorem yields_c {h : DHeap} {c l p : Nat} {D : DLoop} {vp : Value} {ps : List Part} (I : Nat → DHeap → Prop) (Stop : DHeap → Prop) (hp : D.params = #[p]) (hps : p < D.size) (hlen : ps.length ≤ 65) (hdl : ∀ x ∈ ps, x.data.length ≤ 4294967296)
    (h0 : I 0 h) (hI : ∀ i K, I i K → K.get l = some (.loop D) ∧ K.get c = some (.row [vp] 0 false) ∧ Arg rPart K vp ps) (hE : ∀ i K K', I i K → Ext K K' → I i K')
    (hR : ∀ i K K' x w, I i K → Ext K K' → ps[i]? = some x → Sl fU8.rep (fun j => K.next ≤ j ∧ j < K'.next) K' w x.data → inK .i64 x.slot → inK .i64 x.index → inK .i64 x.many → Rt Try.prog l D.size (putParams D.tmps [p] [partV x w]) D.assign D.body K' fun r H => r = .ret (.bool true) ∧ I (i + 1) H ∨ r = .ret (.bool false) ∧ Stop H) :
    Ct Try.prog 57 [.func (.yield l) #[] #[], .pointer (some ⟨c, 0, none⟩)] h fun r H => (∃ v, r = .ret v) ∧ (I ps.length H ∨ Stop H) := by
  refine go_57 (by simp) ?_
  obtain ⟨hl0, hc0, ha0⟩ := hI 0 h h0
  have C0 : cellAt h c 0 = some vp := cellAt_row hc0
  have el : ∀ K, dLen Try.prog #[44] vp K = some (.int .i64 (ps.length : Nat)) := ha0.lens (P := Try.prog) (ts := #[44]) (t := 44) rfl isl_44
  simp -implicitDefEqProofs (disch := first | omega | (simp -implicitDefEqProofs only [go_sem, List.size_toArray, List.length_cons, List.length_nil, Nat.reduceAdd]; done)) only [go_sem, Int.reduceLT, Int.reduceLE, Int.reduceEq, reduceIte, true_and, Nat.zero_add, Nat.add_zero, Option.map_some, c57, C0, el]
  refine xloop (σ := Nat) (by kernel_rfl) (fun i s => s.df = [] ∧ s.fr 0 = some (.func (.yield l) #[] #[]) ∧ s.fr 5 = some vp ∧ s.fr 6 = some (.int .i64 (ps.length : Nat)) ∧ s.fr 7 = some (.int .i64 (i : Nat)) ∧ i ≤ ps.length ∧ I i s.h) (fun i => ps.length - i) 0 ?_ ?_
  · simp -implicitDefEqProofs (disch := first | omega | (simp -implicitDefEqProofs only [go_sem, List.size_toArray, List.length_cons, List.length_nil, Nat.reduceAdd]; done)) only [go_sem, Int.reduceLT, Int.reduceLE, Int.reduceEq, reduceIte, true_and, Nat.zero_add, Nat.add_zero, Option.map_some]
    exact ⟨rfl, Nat.zero_le _, h0⟩
  · rintro i ⟨fr, df, hh, rd⟩ K' hK' hX ⟨rfl, f0, f5, f6, f7, hi, hinv⟩
    simp only at f0 f5 f6 f7 hinv
    simp -implicitDefEqProofs (disch := first | omega | (simp -implicitDefEqProofs only [go_sem, List.size_toArray, List.length_cons, List.length_nil, Nat.reduceAdd]; done)) only [go_sem, Int.reduceLT, Int.reduceLE, Int.reduceEq, reduceIte, true_and, Nat.zero_add, Nat.add_zero, Option.map_some, f5, f6, f7]
    refine XIf_dec (fun hc1 => ?_) (fun hc1 => ?_)
    · have hj : i < ps.length := by omega
      obtain ⟨hl, hc, ha⟩ := hI i hh hinv
      obtain ⟨id, o, w, g1, hid, l1, hs, k1, k2, k3⟩ := part_idx ha (get_of_lt hj)
      have hsl := hs.isSlice
      have hcw : w.cells = #[w] := hs.cells1
      have hst : [Value.int .i64 ps[i].slot, .int .i64 ps[i].index, .int .i64 ps[i].many, w].all Value.oneCell' = true := by obtain ⟨_, _, rfl⟩ := hsl; rfl
      have hw1 := wrap_succ hj (by omega)
      obtain ⟨H1, hH1⟩ : ∃ H, H = hh.push (.row [.int .i64 ps[i].slot, .int .i64 ps[i].index, .int .i64 ps[i].many, w] 0 false) := ⟨_, rfl⟩
      have hE1 : Ext hh H1 := by rw [hH1]; exact Ext.push1 _ _
      have hgB : H1.get hh.next = some (.row [.int .i64 ps[i].slot, .int .i64 ps[i].index, .int .i64 ps[i].many, w] 0 false) := by rw [hH1]; exact get_push_same _ _
      have C3 : cellAt H1 hh.next 3 = some w := cellAt_row hgB
      have hH1n : H1.next = hh.next + 1 := by rw [hH1]; rfl
      have hdi := hdl _ (List.getElem_mem hj)
      have tc := clone_u8 (hs.ext hE1) hdi
      have md := clone_made (h := H1) (hs.ext hE1)
      obtain ⟨cv, hcv⟩ : ∃ v, cloneV H1 w ps[i].data = v := ⟨_, rfl⟩
      obtain ⟨K2, hK2⟩ : ∃ v, cloneH fU8 H1 w ps[i].data = v := ⟨_, rfl⟩
      rw [hcv, hK2] at tc md
      have hE2 := md.ext
      have hE2n := hE2.next
      have hg2 : K2.get hh.next = some (.row [.int .i64 ps[i].slot, .int .i64 ps[i].index, .int .i64 ps[i].many, w] 0 false) := (hE2.get _ (by omega)).trans hgB
      have hscv := md.sl.isSlice
      have hccv : cv.cells = #[cv] := md.sl.cells1
      have hone : [cv].all Value.oneCell' = true := by obtain ⟨_, _, rfl⟩ := hscv; rfl
      obtain ⟨K3, hK3⟩ : ∃ K, K = K2.set hh.next (.row [.int .i64 ps[i].slot, .int .i64 ps[i].index, .int .i64 ps[i].many, cv] 0 false) := ⟨_, rfl⟩
      have hst2 : dStore Try.prog 22 (.pointer (some ⟨hh.next, 3, none⟩)) cv K2 = some K3 := by
        rw [hK3]
        exact (st_22 hccv).trans (storeAt_row hg2 (Nat.le_of_ble_eq_true rfl) hone)
      have hg3 : K3.get hh.next = some (.row [.int .i64 ps[i].slot, .int .i64 ps[i].index, .int .i64 ps[i].many, cv] 0 false) := by rw [hK3]; exact get_set_same _ _
      have hK3n : K3.next = K2.next := by rw [hK3]; rfl
      have l3 : cellsAt K3 hh.next 0 4 = some (partV ps[i] cv) := by rw [cellsAt_row hg3 (Nat.le_of_ble_eq_true rfl)]; rfl
      have hE3 : Ext hh K3 := ⟨by omega, by rw [hK3]; exact (hE2.ng).trans hE1.ng, fun j hj => by rw [hK3, get_set_other _ _ (by omega)]; exact (hE2.get j (by omega)).trans (hE1.get j hj)⟩
      have hs3 : Sl fU8.rep (fun j => hh.next ≤ j ∧ j < K3.next) K3 cv ps[i].data := md.sl.mono fun j hj => ⟨by omega, by rw [hK3]; exact get_set_other _ _ (by omega)⟩
      have hl3 : K3.get l = some (.loop D) := (hI i K3 (hE i hh K3 hinv hE3)).1
      have hy : dCallO Try.prog K3 (some (.func (.yield l) #[] #[])) (some [partV ps[i] cv]) = .ok (.round l D.size (putParams D.tmps [p] [partV ps[i] cv]) D.assign D.body) K3 := by
        rw [dCallO_yield hl3 _ (by rw [hp]; rfl) (by rw [hp]; simpa using hps), hp]
      simp -implicitDefEqProofs (disch := first | omega | (simp -implicitDefEqProofs only [go_sem, List.size_toArray, List.length_cons, List.length_nil, Nat.reduceAdd]; done)) only [go_sem, Int.reduceLT, Int.reduceLE, Int.reduceEq, reduceIte, true_and, Nat.zero_add, Nat.add_zero, Option.map_some, f5, f6, f7, g1, l1, store4_push hst, hcw, ← hH1, C3]
      refine ncall tc ?_
      simp -implicitDefEqProofs (disch := first | omega | (simp -implicitDefEqProofs only [go_sem, List.size_toArray, List.length_cons, List.length_nil, Nat.reduceAdd]; done)) only [go_sem, Int.reduceLT, Int.reduceLE, Int.reduceEq, reduceIte, true_and, Nat.zero_add, Nat.add_zero, Option.map_some, hst2, l3, f0, hy]
      refine nround_rt (hR i hh K3 _ cv hinv hE3 (get_of_lt hj) hs3 k1 k2 k3) ?_
      rintro r H (⟨rfl, hI2⟩ | ⟨rfl, hS⟩)
      · simp -implicitDefEqProofs (disch := first | omega | (simp -implicitDefEqProofs only [go_sem, List.size_toArray, List.length_cons, List.length_nil, Nat.reduceAdd]; done)) only [go_sem, Int.reduceLT, Int.reduceLE, Int.reduceEq, reduceIte, true_and, Nat.zero_add, Nat.add_zero, Option.map_some, XEnd, f7, hw1]
        refine hK' (i + 1) _ ?_ (by omega)
        exact ⟨by trivial, by simp -implicitDefEqProofs (disch := first | omega | (simp -implicitDefEqProofs only [go_sem, List.size_toArray, List.length_cons, List.length_nil, Nat.reduceAdd]; done)) only [go_sem, Int.reduceLT, Int.reduceLE, Int.reduceEq, reduceIte, true_and, Nat.zero_add, Nat.add_zero, Option.map_some, f0], by simp -implicitDefEqProofs (disch := first | omega | (simp -implicitDefEqProofs only [go_sem, List.size_toArray, List.length_cons, List.length_nil, Nat.reduceAdd]; done)) only [go_sem, Int.reduceLT, Int.reduceLE, Int.reduceEq, reduceIte, true_and, Nat.zero_add, Nat.add_zero, Option.map_some, f5], by simp -implicitDefEqProofs (disch := first | omega | (simp -implicitDefEqProofs only [go_sem, List.size_toArray, List.length_cons, List.length_nil, Nat.reduceAdd]; done)) only [go_sem, Int.reduceLT, Int.reduceLE, Int.reduceEq, reduceIte, true_and, Nat.zero_add, Nat.add_zero, Option.map_some, f6], by simp -implicitDefEqProofs (disch := first | omega | (simp -implicitDefEqProofs only [go_sem, List.size_toArray, List.length_cons, List.length_nil, Nat.reduceAdd]; done)) only [go_sem, Int.reduceLT, Int.reduceLE, Int.reduceEq, reduceIte, true_and, Nat.zero_add, Nat.add_zero, Option.map_some], by omega, hI2⟩
      · simp -implicitDefEqProofs (disch := first | omega | (simp -implicitDefEqProofs only [go_sem, List.size_toArray, List.length_cons, List.length_nil, Nat.reduceAdd]; done)) only [go_sem, Int.reduceLT, Int.reduceLE, Int.reduceEq, reduceIte, true_and, Nat.zero_add, Nat.add_zero, Option.map_some, XEnd]
        refine hX _ _ (by simp) ?_
        simp -implicitDefEqProofs (disch := first | omega | (simp -implicitDefEqProofs only [go_sem, List.size_toArray, List.length_cons, List.length_nil, Nat.reduceAdd]; done)) only [go_sem, Int.reduceLT, Int.reduceLE, Int.reduceEq, reduceIte, true_and, Nat.zero_add, Nat.add_zero, Option.map_some]
        exact ⟨_, rfl, ⟨_, rfl⟩, .inr hS⟩
    · obtain rfl : i = ps.length := by omega
      refine hX _ _ (by simp) ?_
      simp -implicitDefEqProofs (disch := first | omega | (simp -implicitDefEqProofs only [go_sem, List.size_toArray, List.length_cons, List.length_nil, Nat.reduceAdd]; done)) only [go_sem, Int.reduceLT, Int.reduceLE, Int.reduceEq, reduceIte, true_and, Nat.zero_add, Nat.add_zero, Option.map_some]
      exact ⟨_, rfl, ⟨_, rfl⟩, .inl hinv⟩
end Go.Proofs.Ytlhgijpdhniddaa

namespace Go.Proofs.Ytlhgijpdhniddaa
open Go.D
set_option maxRecDepth 100000

end Go.Proofs.Ytlhgijpdhniddaa

namespace Go.Proofs.Ytlhgijpdhniddaa
open Go.D
set_option maxRecDepth 100000

end Go.Proofs.Ytlhgijpdhniddaa

namespace Go.Proofs.Ytlhgijpdhniddaa
open Go.D
set_option maxRecDepth 100000

theorem cells4_at {h : DHeap} {id o : Nat} {a b c d : Value} (e : cellsAt h id o 4 = some (.agg #[a, b, c, d])) : cellAt h id o = some a ∧ cellAt h id (o + 1) = some b ∧ cellAt h id (o + 2) = some c ∧ cellAt h id (o + 3) = some d := by
  unfold cellsAt at e
  unfold cellAt
  split at e
  · rename_i cells _ _ hg
    split at e
    · simp only [Option.some.injEq, Value.agg.injEq] at e
      have e2 : (cells.drop o).take 4 = [a, b, c, d] := by
        have := congrArg Array.toList e
        simpa using this
      have key : ∀ j, j < 4 → cells[o + j]? = [a, b, c, d][j]? := fun j hj => by
        rw [← e2, List.getElem?_take, if_pos hj, List.getElem?_drop]
      exact ⟨key 0 (by decide), key 1 (by decide), key 2 (by decide), key 3 (by decide)⟩
    · cases e
  · cases e
/-- a part of a list that is read: where it lies, and what lies there -/
theorem part_cells {S : Nat → Prop} {h : DHeap} {v : Value} {ps : List Part} {i : Nat} {x : Part} (hb : Sl rPart S h v ps) (hx : ps[i]? = some x) :
    ∃ id o w, dIndexAddr Try.prog 44 v (.int .i64 (i : Nat)) = some (.pointer (some ⟨id, o, none⟩)) ∧ S id ∧ cellAt h id o = some (.int .i64 x.slot) ∧ cellAt h id (o + 1) = some (.int .i64 x.index) ∧ cellAt h id (o + 2) = some (.int .i64 x.many) ∧ cellAt h id (o + 3) = some w ∧
      cellsAt h id o 4 = some (partV x w) ∧ Sl fU8.rep S h w x.data ∧ inK .i64 x.slot ∧ inK .i64 x.index ∧ inK .i64 x.many := by
  obtain ⟨id, o, w, g, hs, l, k⟩ := part_idx hb hx
  obtain ⟨c0, c1, c2, c3⟩ := cells4_at l
  exact ⟨id, o, w, g, hs, c0, c1, c2, c3, l, k⟩
/-- may a part be the j-th of these? -/
def goodP (l : List Part) (j : Nat) (x : Part) : Prop := (∀ y, l[0]? = some y → x.slot = y.slot) ∧ x.many = (l.length : Int) ∧ x.index = (j : Int)
def goodL (l : List Part) (i : Nat) : Prop := ∀ j x, j < i → l[j]? = some x → goodP l j x
def dataOf (l : List Part) : List Int := l.flatMap (·.data)
open Classical in
/-- what is wrong with parts -/
noncomputable def buildE (l : List Part) : Int :=
  if l = [] ∨ ¬ goodL l l.length then 221 else if parseE id (dataOf l) ≠ 0 then parseE id (dataOf l) else if partsS (parseR id (dataOf l)) = l then 0 else 221
open Classical in
/-- the state of parts -/
noncomputable def buildR (l : List Part) : State := if buildE l = 0 then parseR id (dataOf l) else ⟨0, [], []⟩
section
variable {l : List Part}
theorem build_nil : buildE [] = 221 := by unfold buildE; rw [if_pos (.inl rfl)]
theorem build_bad {i : Nat} {x : Part} (hx : l[i]? = some x) (hb : ¬ goodP l i x) : buildE l = 221 := by
  unfold buildE
  refine if_pos (.inr fun h => hb (h i x ?_ hx))
  exact (List.getElem?_eq_some_iff.1 hx).1
theorem build_err (hn : l ≠ []) (hg : goodL l l.length) (he : parseE id (dataOf l) ≠ 0) : buildE l = parseE id (dataOf l) := by
  unfold buildE
  rw [if_neg (by simp [hn, hg]), if_pos he]
theorem build_ok (hn : l ≠ []) (hg : goodL l l.length) (he : parseE id (dataOf l) = 0) (hp : partsS (parseR id (dataOf l)) = l) : buildE l = 0 := by
  unfold buildE
  rw [if_neg (by simp [hn, hg]), if_neg (by simp [he]), if_pos hp]
theorem build_not (hn : l ≠ []) (hg : goodL l l.length) (he : parseE id (dataOf l) = 0) (hp : partsS (parseR id (dataOf l)) ≠ l) : buildE l = 221 := by
  unfold buildE
  rw [if_neg (by simp [hn, hg]), if_neg (by simp [he]), if_neg hp]
theorem buildR_no (h : buildE l ≠ 0) : buildR l = ⟨0, [], []⟩ := by unfold buildR; rw [if_neg h]
theorem buildR_yes (h : buildE l = 0) : buildR l = parseR id (dataOf l) := by unfold buildR; rw [if_pos h]
theorem goodL_0 : goodL l 0 := fun j _ hj => absurd hj (Nat.not_lt_zero j)
theorem goodL_succ {i : Nat} {x : Part} (h : goodL l i) (hx : l[i]? = some x) (hg : goodP l i x) : goodL l (i + 1) := fun j y hj hy => by
  by_cases hji : j = i
  · subst hji
    rw [hx] at hy
    cases hy
    exact hg
  · exact h j y (by omega) hy
theorem dataOf_take {i : Nat} {x : Part} (hx : l[i]? = some x) : dataOf (l.take (i + 1)) = dataOf (l.take i) ++ x.data := by
  unfold dataOf
  rw [List.take_add_one, hx, List.flatMap_append]
  simp
theorem dataOf_take_le {i : Nat} : (dataOf (l.take i)).length ≤ (dataOf l).length := by
  unfold dataOf
  conv => rhs; rw [← List.take_append_drop i l]
  rw [List.flatMap_append, List.length_append]
  exact Nat.le_add_right _ _
end
end Go.Proofs.Ytlhgijpdhniddaa


namespace Go.Proofs.Ytlhgijpdhniddaa
open Go.D
set_option maxRecDepth 100000

section
variable {l : List Int} (hb : ∀ x ∈ l, 0 ≤ x ∧ x ≤ 255)
include hb
theorem numA_wr {a a1 : Nat} {e n : Int} (h : numA l a e = (n, a1, 0)) : e = 0 ∧ l.drop a = numB n ++ l.drop a1 := by
  unfold numA at h
  split at h
  · rename_i he
    split at h
    · rename_i h1
      obtain ⟨g, _⟩ := num_take (fun x hx => hb x (List.mem_of_mem_drop hx)) h1
      simp only [Prod.mk.injEq] at h
      obtain ⟨rfl, rfl, _⟩ := h
      refine ⟨he, ?_⟩
      rw [g, ← List.drop_drop, List.take_append_drop]
    · rename_i h1
      simp only [Prod.mk.injEq] at h
      exact absurd h.2.2 h1
  · rename_i he
    simp only [Prod.mk.injEq] at h
    exact absurd h.2.2 he
theorem lenA_wr {a a1 : Nat} {e n most : Int} (h : lenA l a e most = (n, a1, 0)) : e = 0 ∧ l.drop a = numB n ++ l.drop a1 := by
  obtain ⟨p, q, r, hx⟩ : ∃ p q r, numA l a e = (p, q, r) := ⟨_, _, _, rfl⟩
  unfold lenA at h
  rw [hx] at h
  simp only at h
  split at h
  · rename_i h0
    split at h
    · simp at h
    · cases h
      exact numA_wr hb hx
  · rename_i h0
    simp only [Prod.mk.injEq] at h
    exact absurd h.2.2 h0
theorem cellA_wr {a a1 : Nat} {e : Int} {o : Bool} {c : Cell} (h : cellA l a e o = (c, a1, 0, false)) : e = 0 ∧ o = false ∧ l.drop a = cellB c ++ l.drop a1 := by
  obtain ⟨n1, a1', e1, x1⟩ : ∃ p q r, numA l a e = (p, q, r) := ⟨_, _, _, rfl⟩
  obtain ⟨n2, a2, e2, x2⟩ : ∃ p q r, numA l a1' e1 = (p, q, r) := ⟨_, _, _, rfl⟩
  obtain ⟨n3, a3, e3, x3⟩ : ∃ p q r, numA l a2 e2 = (p, q, r) := ⟨_, _, _, rfl⟩
  obtain ⟨n4, a4, e4, x4⟩ : ∃ p q r, numA l a3 e3 = (p, q, r) := ⟨_, _, _, rfl⟩
  rw [cell_form x1 x2 x3 x4] at h
  simp only [Prod.mk.injEq, Bool.or_eq_false_iff, decide_eq_false_iff_not] at h
  obtain ⟨rfl, rfl, rfl, ho, hr⟩ := h
  obtain ⟨rfl, g4⟩ := numA_wr hb x4
  obtain ⟨rfl, g3⟩ := numA_wr hb x3
  obtain ⟨rfl, g2⟩ := numA_wr hb x2
  obtain ⟨rfl, g1⟩ := numA_wr hb x1
  refine ⟨rfl, ho, ?_⟩
  have hw : IntKind.i32.wrap n1 = n1 := wrap_in (inK_i32.2 (by omega))
  simp only [cellB, nums_cons, nums_nil, List.append_nil, List.append_assoc, hw]
  rw [g1, g2, g3, g4]
theorem cellsA_wr : ∀ (k : Nat) {a a1 : Nat} {e : Int} {o : Bool} {cs : List Cell}, cellsA l k a e o = (cs, a1, 0, false) → e = 0 ∧ o = false ∧ cs.length = k ∧ l.drop a = cs.flatMap cellB ++ l.drop a1
  | 0, a, a1, e, o, cs, h => by
    simp only [cellsA, Prod.mk.injEq] at h
    obtain ⟨rfl, rfl, rfl, rfl⟩ := h
    simp
  | k + 1, a, a1, e, o, cs, h => by
    rw [cellsA] at h
    split at h
    · rename_i he
      obtain ⟨c, a2, e2, o2, hx⟩ : ∃ p q r s, cellA l a e o = (p, q, r, s) := ⟨_, _, _, _, rfl⟩
      obtain ⟨cs2, a3, e3, o3, hy⟩ : ∃ p q r s, cellsA l k a2 e2 o2 = (p, q, r, s) := ⟨_, _, _, _, rfl⟩
      rw [hx] at h
      simp only [hy, Prod.mk.injEq] at h
      obtain ⟨rfl, rfl, rfl, rfl⟩ := h
      obtain ⟨rfl, rfl, g1, g2⟩ := cellsA_wr k hy
      obtain ⟨h1, h2, h3⟩ := cellA_wr hb hx
      refine ⟨h1, h2, by simp [g1], ?_⟩
      rw [h3, g2, List.flatMap_cons, List.append_assoc]
    · rename_i he
      simp only [Prod.mk.injEq] at h
      exact absurd h.2.2.1 he
theorem valsA_wr : ∀ (k : Nat) {a a1 : Nat} {e : Int} {vs : List Int}, valsA l k a e = (vs, a1, 0) → e = 0 ∧ vs.length = k ∧ l.drop a = numsB vs ++ l.drop a1
  | 0, a, a1, e, vs, h => by
    simp only [valsA, Prod.mk.injEq] at h
    obtain ⟨rfl, rfl, rfl⟩ := h
    simp [nums_nil]
  | k + 1, a, a1, e, vs, h => by
    rw [valsA] at h
    obtain ⟨n, a2, e2, hx⟩ : ∃ p q r, numA l a e = (p, q, r) := ⟨_, _, _, rfl⟩
    obtain ⟨vs2, a3, e3, hy⟩ : ∃ p q r, valsA l k a2 e2 = (p, q, r) := ⟨_, _, _, rfl⟩
    rw [hx] at h
    simp only [hy, Prod.mk.injEq] at h
    obtain ⟨rfl, rfl, rfl⟩ := h
    obtain ⟨rfl, g1, g2⟩ := valsA_wr k hy
    obtain ⟨h1, h2⟩ := numA_wr hb hx
    refine ⟨h1, by simp [g1], ?_⟩
    rw [h2, g2, nums_cons, List.append_assoc]
theorem rowA_wr {a a1 : Nat} {e : Int} {x : Row} (h : rowA id l a e = (x, a1, 0)) : e = 0 ∧ l.drop a = rowB x ++ l.drop a1 := by
  obtain ⟨n1, b1, e1, x1⟩ : ∃ p q r, numA l a e = (p, q, r) := ⟨_, _, _, rfl⟩
  obtain ⟨n2, b2, e2, x2⟩ : ∃ p q r, numA l b1 e1 = (p, q, r) := ⟨_, _, _, rfl⟩
  obtain ⟨n3, b3, e3, x3⟩ : ∃ p q r, numA l b2 e2 = (p, q, r) := ⟨_, _, _, rfl⟩
  obtain ⟨n4, b4, e4, x4⟩ : ∃ p q r, lenA l b3 e3 8 = (p, q, r) := ⟨_, _, _, rfl⟩
  obtain ⟨vs, b5, e5, x5⟩ : ∃ p q r, valsA l n4.toNat b4 e4 = (p, q, r) := ⟨_, _, _, rfl⟩
  obtain ⟨n6, b6, e6, x6⟩ : ∃ p q r, numA l b5 e5 = (p, q, r) := ⟨_, _, _, rfl⟩
  obtain ⟨n7, b7, e7, x7⟩ : ∃ p q r, numA l b6 e6 = (p, q, r) := ⟨_, _, _, rfl⟩
  have hn4 := lenA_in (l := l) (a := b3) (e := e3) (most := 8) (by decide)
  rw [x4] at hn4
  simp only [rowA, x1, x2, x3, x4, x5, x6, x7, id, Prod.mk.injEq] at h
  obtain ⟨rfl, rfl, rfl⟩ := h
  obtain ⟨rfl, g7⟩ := numA_wr hb x7
  obtain ⟨rfl, g6⟩ := numA_wr hb x6
  obtain ⟨rfl, g5l, g5⟩ := valsA_wr hb _ x5
  obtain ⟨rfl, g4⟩ := lenA_wr hb x4
  obtain ⟨rfl, g3⟩ := numA_wr hb x3
  obtain ⟨rfl, g2⟩ := numA_wr hb x2
  obtain ⟨rfl, g1⟩ := numA_wr hb x1
  refine ⟨rfl, ?_⟩
  have e4 : (vs.length : Int) = n4 := by have := hn4.1; omega
  simp only [rowB, nums_cons, nums_nil, List.append_nil, List.append_assoc, e4]
  rw [g1, g2, g3, g4, g5, g6, g7]
theorem rowsA_wr : ∀ (k : Nat) {a a1 : Nat} {e : Int} {rs : List Row}, rowsA id l k a e = (rs, a1, 0) → e = 0 ∧ rs.length = k ∧ l.drop a = rs.flatMap rowB ++ l.drop a1
  | 0, a, a1, e, rs, h => by
    simp only [rowsA, Prod.mk.injEq] at h
    obtain ⟨rfl, rfl, rfl⟩ := h
    simp
  | k + 1, a, a1, e, rs, h => by
    rw [rowsA] at h
    split at h
    · rename_i he
      obtain ⟨r, a2, e2, hx⟩ : ∃ p q r, rowA id l a e = (p, q, r) := ⟨_, _, _, rfl⟩
      obtain ⟨rs2, a3, e3, hy⟩ : ∃ p q r, rowsA id l k a2 e2 = (p, q, r) := ⟨_, _, _, rfl⟩
      rw [hx] at h
      simp only [hy, Prod.mk.injEq] at h
      obtain ⟨rfl, rfl, rfl⟩ := h
      obtain ⟨rfl, g1, g2⟩ := rowsA_wr k hy
      obtain ⟨h1, h2⟩ := rowA_wr hb hx
      refine ⟨h1, by simp [g1], ?_⟩
      rw [h2, g2, List.flatMap_cons, List.append_assoc]
    · rename_i he
      simp only [Prod.mk.injEq] at h
      exact absurd h.2.2 he
/-- bytes that are read are those of their state -/
theorem bytes_parse (h : parseE id l = 0) : stateB (parseR id l) = l ∧ mayB (parseR id l) = true := by
  have hm := parseE_may h
  have hR : parseR id l = parseS id l := by unfold parseR; rw [if_pos h]
  rw [hR]
  refine ⟨?_, hm⟩
  obtain ⟨n0, a0, e0, x0⟩ : ∃ p q r, numA l 0 0 = (p, q, r) := ⟨_, _, _, rfl⟩
  obtain ⟨n1, a1, e1, x1⟩ : ∃ p q r, lenA l a0 e0 1048576 = (p, q, r) := ⟨_, _, _, rfl⟩
  obtain ⟨cs, a2, e2, odd, x2⟩ : ∃ p q r s, cellsA l n1.toNat a1 e1 false = (p, q, r, s) := ⟨_, _, _, _, rfl⟩
  obtain ⟨n3, a3, e3, x3⟩ : ∃ p q r, lenA l a2 e2 1048576 = (p, q, r) := ⟨_, _, _, rfl⟩
  obtain ⟨rs, a4, e4, x4⟩ : ∃ p q r, rowsA id l n3.toNat a3 e3 = (p, q, r) := ⟨_, _, _, rfl⟩
  have hn1 := lenA_in (l := l) (a := a0) (e := e0) (most := 1048576) (by decide)
  have hn3 := lenA_in (l := l) (a := a2) (e := e2) (most := 1048576) (by decide)
  rw [x1] at hn1
  rw [x3] at hn3
  simp only at hn1 hn3
  simp only [parseE, x0, x1, x2, x3, x4, endE] at h
  split at h
  case isFalse h0 => exact absurd h h0
  rename_i h0
  subst h0
  split at h
  · cases h
  rename_i h1
  split at h
  · cases h
  rename_i h2
  have ho : odd = false := by cases odd <;> simp_all
  subst ho
  obtain ⟨rfl, g4l, g4⟩ := rowsA_wr hb _ x4
  obtain ⟨rfl, g3⟩ := lenA_wr hb x3
  obtain ⟨rfl, _, g2l, g2⟩ := cellsA_wr hb _ x2
  obtain ⟨rfl, g1⟩ := lenA_wr hb x1
  obtain ⟨_, g0⟩ := numA_wr hb x0
  have hS : parseS id l = ⟨n0, cs, rs⟩ := by simp only [parseS, x0, x1, x2, x3, x4]
  rw [hS]
  have hd : l.drop a4 = [] := List.drop_eq_nil_of_le (by omega)
  have c1 : (cs.length : Int) = n1 := by omega
  have c3 : (rs.length : Int) = n3 := by omega
  rw [List.drop_zero] at g0
  simp only [stateB, nums_cons, nums_nil, List.append_nil, List.append_assoc, c1, c3]
  rw [g0, g1, g2, g3, g4, hd, List.append_nil]
end
end Go.Proofs.Ytlhgijpdhniddaa

namespace Go.Proofs.Ytlhgijpdhniddaa
open Go.D
set_option maxRecDepth 100000

theorem build_end0 {h H : DHeap} {l : List Part} {e : Int} (he : buildE l = e) (h0 : e ≠ 0) (hE : Ext h H) :
    ∃ vc vr, (DEnd.ret (.tuple #[stateV 0 (.slice none 0 0) (.slice none 0 0), .int .i64 e])) = .ret (.tuple #[stateV (buildR l).slot vc vr, .int .i64 (buildE l)]) ∧ Ext h H ∧ Arg fCell.rep H vc (buildR l).cells ∧ Arg rRow H vr (buildR l).rows := by
  have hr := buildR_no (l := l) (by rw [he]; exact h0)
  refine ⟨_, _, by rw [hr, he], hE, ?_, ?_⟩
  · rw [hr]; exact Sl.nil _ _ _
  · rw [hr]; exact Sl.nil _ _ _
theorem parse_state {l : List Int} (he : parseE id l = 0) : inK .i64 (parseR id l).slot := by
  have hm := parseE_may he
  have hr : parseR id l = parseS id l := by unfold parseR; rw [if_pos he]
  rw [hr]
  obtain ⟨m1, _⟩ := may_iff.1 hm
  simp only [countB, decide_eq_true_eq, Bool.and_eq_true] at m1
  exact inK_i64.2 (by omega)
end Go.Proofs.Ytlhgijpdhniddaa

namespace Go.Proofs.Ytlhgijpdhniddaa
open Go.D
set_option maxRecDepth 100000
theorem par_bytes : Par Try.prog 22 false := ⟨_, Try.underlying22, rfl⟩
end Go.Proofs.Ytlhgijpdhniddaa

namespace Go.D
variable {P : Program} {nt : Nat}

/-- the heap in a loop over a function that was begun at hB: what the loop may change is ids, and what was made since -/
structure Rng (hB : DHeap) (D : DLoop) (ids : Nat → Prop) (K : DHeap) : Prop where
  old : ∀ j, j < hB.next → ¬ ids j → K.get j = hB.get j
  nx : hB.next + 2 ≤ K.next
  ng : K.ng = hB.ng
  mrk : K.get hB.next = some (.marks true)
  lp : K.get (hB.next + 1) = some (.loop D)
section
variable {hB K K' : DHeap} {D D' : DLoop} {ids : Nat → Prop} {o : DObj} {id : Nat}
theorem Rng.start (hB : DHeap) (D : DLoop) (ids : Nat → Prop) : Rng hB D ids ((hB.push (.marks true)).push (.loop D)) :=
  ⟨fun j hj _ => by rw [get_push_other _ _ (by rw [next_push]; omega), get_push_other _ _ hj], Nat.le_refl _, rfl, get_p1, get_push_same _ _⟩
theorem Rng.ext (r : Rng hB D ids K) (e : Ext K K') : Rng hB D ids K' :=
  ⟨fun j hj hi => (e.get j (by have := r.nx; omega)).trans (r.old j hj hi), Nat.le_trans r.nx e.next, e.ng.trans r.ng, (e.get _ (by have := r.nx; omega)).trans r.mrk, (e.get _ (by have := r.nx; omega)).trans r.lp⟩
theorem Rng.set (r : Rng hB D ids K) (hi : ids id) (hid : id < hB.next) : Rng hB D ids (K.set id o) :=
  ⟨fun j hj hij => (get_set_other _ _ (by intro hh; subst hh; exact hij hi)).trans (r.old j hj hij), r.nx, r.ng, (get_set_other _ _ (by omega)).trans r.mrk, (get_set_other _ _ (by omega)).trans r.lp⟩
theorem Rng.push (r : Rng hB D ids K) (o : DObj) : Rng hB D ids (K.push o) := r.ext (Ext.push1 _ _)
theorem Rng.loop (r : Rng hB D ids K) (D' : DLoop) : Rng hB D' ids (K.set (hB.next + 1) (.loop D')) :=
  ⟨fun j hj hij => (get_set_other _ _ (by omega)).trans (r.old j hj hij), r.nx, r.ng, (get_set_other _ _ (by omega)).trans r.mrk, get_set_same _ _⟩
theorem Rng.keep (r : Rng hB D ids K) (hn : K.next ≤ K'.next) (hg : K'.ng = K.ng) (h : ∀ j, j < hB.next + 2 → K'.get j = K.get j) : Rng hB D ids K' :=
  ⟨fun j hj hi => (h j (by omega)).trans (r.old j hj hi), Nat.le_trans r.nx hn, hg.trans r.ng, (h _ (by omega)).trans r.mrk, (h _ (by omega)).trans r.lp⟩
/-- what was there at h, under hB, and is not changed -/
theorem Rng.below {h : DHeap} (r : Rng hB D ids K) (e : Ext h hB) (hi : ∀ j, ids j → h.next ≤ j) : Ext h K :=
  ⟨Nat.le_trans e.next (by have := r.nx; omega), r.ng.trans e.ng, fun j hj => (r.old j (Nat.lt_of_lt_of_le hj e.next) (fun hh => by have := hi j hh; omega)).trans (e.get j hj)⟩
end
/-- a round, walked without its places -/
theorem Rt_walk {l size : Nat} {tmps : Fr} {fa fb sa sb : Code} {h : DHeap} {R : DEnd → DHeap → Prop} (ta : Go.D.strip fa = sa) (tb : Go.D.strip fb = sb) (ka : codeOK size sa = true) (kb : codeOK size sb = true)
    (hx : xs P size sa (DThen (fun s => ∃ d, s.h.get l = some (.loop d) ∧ d.state = .ready ∧ xs P size sb (XRoundPost l R) ⟨s.fr, s.df, s.h.set l (.loop { d with state := .busy, pending := d.pending }), s.rd⟩) fun _ _ => False) ⟨tmps, [], h, some l⟩) :
    Rt P l size tmps fa fb h R := by
  refine Rt_of (NC.strip ta ka (xs_mono _ _ (fun e s hq => ?_) hx))
  cases e with
  | normal =>
    obtain ⟨d, e1, e2, e3⟩ := hq
    exact ⟨trivial, d, e1, e2, NC.strip tb kb e3⟩
  | _ => exact hq.elim
/-- an outermost loop over a function that yields -/
theorem NC.range_yields {g : Operand} {ps : Array Tmp} {assign body : Code} {Q : DExit → St → Prop} {s : St} {fv : Value} {f : FuncId} {args : List Value} {A B : DHeap → Prop}
    (hrd : s.rd = none) (hg : evalF s.h.ng s.fr g = some fv)
    (ht : ∀ K, dTarget P fv [.func (.yield (s.h.next + 1)) #[] #[]] K = some (.enter f args))
    (hc : Ct P f args ((s.h.push (.marks true)).push (.loop ⟨nt, s.fr, ps, assign, body, s.h.next, .ready, none⟩)) fun r H => (∃ v, r = .ret v) ∧ (A H ∨ B H))
    (hA : ∀ H, A H → H.get (s.h.next + 1) = some (.loop ⟨nt, s.fr, ps, assign, body, s.h.next, .ready, none⟩) ∧ Q .normal ⟨s.fr, .mark s.h.next :: s.df, H.set (s.h.next + 1) (.loop ⟨nt, s.fr, ps, assign, body, s.h.next, .exhausted, none⟩), s.rd⟩)
    (hB : ∀ H, B H → H.get (s.h.next + 1) = some (.loop ⟨nt, s.fr, ps, assign, body, s.h.next, .done, some .ret⟩) ∧ Q .ret ⟨s.fr, .mark s.h.next :: s.df, H.set (s.h.next + 1) (.loop ⟨nt, s.fr, ps, assign, body, s.h.next, .exhausted, some .ret⟩), s.rd⟩) :
    NC P nt (.rangeFunc g ps assign body) Q s := by
  refine NC.range hrd hg rfl (ht _) hc fun r H hr => ?_
  obtain ⟨⟨v, rfl⟩, hr | hr⟩ := hr
  · obtain ⟨a, b⟩ := hA H hr
    exact ⟨_, a, by simp, b⟩
  · obtain ⟨a, b⟩ := hB H hr
    exact ⟨_, a, by simp, b⟩
theorem dTarget_func {f : FuncId} (hg : goodFn P f = true) (first cap : Array Value) (vs : List Value) (h : DHeap) : dTarget P (.func (.func f) first cap) vs h = some (.enter f (first.toList ++ vs ++ cap.toList)) := by
  simp [dTarget, hg]
end Go.D

namespace Go.Proofs.Ytlhgijpdhniddaa
open Go.D
set_option maxRecDepth 100000

abbrev backD (nt : Nat) (fr : Fr) (k : Nat) : DLoop := ⟨nt, fr, #[33], fa9_0, fb9_0, k, .ready, none⟩
structure BackI (nt : Nat) (hB : DHeap) (fr : Fr) (c : Nat) (ps : List Part) (i : Nat) (K : DHeap) : Prop where
  r : Rng hB (backD nt fr hB.next) (fun j => j = c) K
  g : ∃ v S w, K.get c = some (.row [v] 0 false) ∧ Owns rPart S K v (ps.take i) w ∧ (∀ j, S j → hB.next + 2 ≤ j ∧ j < K.next ∧ w ≠ some j) ∧ ∀ x, w = some x → hB.next + 2 ≤ x
theorem BackI.ext {nt : Nat} {hB : DHeap} {fr : Fr} {c : Nat} {ps : List Part} {i : Nat} {K K' : DHeap} (s : BackI nt hB fr c ps i K) (hc : c < hB.next) (e : Ext K K') : BackI nt hB fr c ps i K' := by
  obtain ⟨r, v, S, w, g, o, hS, hw⟩ := s
  have hn := r.nx
  have hwl := o.lt
  refine ⟨r.ext e, v, S, w, (e.get _ (by omega)).trans g, o.mono e.next (fun x hx => e.get _ (hwl x hx)) (fun j hj => ⟨hj, e.get _ (hS j hj).2.1⟩), fun j hj => ?_, hw⟩
  obtain ⟨h1, h2, h3⟩ := hS j hj
  exact ⟨h1, Nat.lt_of_lt_of_le h2 e.next, h3⟩
theorem back_round {hB K0 K : DHeap} {fr : Fr} {c : Nat} {w : Value} {ps : List Part} {i : Nat} {x : Part} (hi : ps.length ≤ 65) (hx : ps[i]? = some x)
    (f9 : fr 9 = some (.pointer (some ⟨c, 0, none⟩))) (hc : c < hB.next) (s0 : BackI 96 hB fr c ps i K0) (he : Ext K0 K) (hw : Sl fU8.rep (fun j => K0.next ≤ j ∧ j < K.next) K w x.data) (k1 : inK .i64 x.slot) (k2 : inK .i64 x.index) (k3 : inK .i64 x.many) :
    Rt Try.prog (hB.next + 1) 96 (putParams fr [33] [partV x w]) fa9_0 fb9_0 K fun r H => r = .ret (.bool true) ∧ BackI 96 hB fr c ps (i + 1) H ∨ r = .ret (.bool false) ∧ False := by
  obtain ⟨r0, v, S, u, g0, o0, hS0, hu⟩ := s0
  have hn0 := r0.nx
  have hnn := he.next
  have hcw : w.cells = #[w] := hw.cells1
  have hsw := hw.isSlice
  have hst : [Value.int .i64 x.slot, .int .i64 x.index, .int .i64 x.many, w].all Value.oneCell' = true := by obtain ⟨_, _, rfl⟩ := hsw; rfl
  refine Rt_walk ta9_0 tb9_0 (by kernel_rfl) (by kernel_rfl) ?_
  obtain ⟨K1, hK1⟩ : ∃ K1, K1 = K.push (.row [.int .i64 x.slot, .int .i64 x.index, .int .i64 x.many, w] 0 false) := ⟨_, rfl⟩
  have hE1 : Ext K K1 := by rw [hK1]; exact Ext.push1 _ _
  have r1 := r0.ext (he.trans hE1)
  simp -implicitDefEqProofs (disch := first | omega | (simp -implicitDefEqProofs only [go_sem, List.size_toArray, List.length_cons, List.length_nil, Nat.reduceAdd]; done)) only [go_sem, Int.reduceLT, Int.reduceLE, Int.reduceEq, reduceIte, true_and, Nat.zero_add, Nat.add_zero, Option.map_some, sa9_0, putParams, store4_push hst, hcw, ← hK1]
  refine ⟨_, r1.lp, rfl, ?_⟩
  have hK1n : K1.next = K.next + 1 := by rw [hK1]; rfl
  have gp1 : K1.get K.next = some (.row [.int .i64 x.slot, .int .i64 x.index, .int .i64 x.many, w] 0 false) := by rw [hK1]; exact get_push_same _ _
  obtain ⟨D2, hD2⟩ : ∃ D2 : DLoop, D2 = { backD 96 fr hB.next with state := .busy, pending := (backD 96 fr hB.next).pending } := ⟨_, rfl⟩
  rw [← hD2]
  obtain ⟨K2, hK2⟩ : ∃ K2, K2 = K1.set (hB.next + 1) (.loop D2) := ⟨_, rfl⟩
  rw [← hK2]
  have r2 : Rng hB D2 (fun j => j = c) K2 := by rw [hK2]; exact r1.loop _
  have oth : ∀ j, j ≠ hB.next + 1 → j < K.next → K2.get j = K.get j := fun j hj hl => by rw [hK2, get_set_other _ _ hj]; exact hE1.get _ hl
  have hK2n : K2.next = K.next + 1 := by rw [hK2]; exact hK1n
  have hwl := o0.lt
  have gc : K2.get c = some (.row [v] 0 false) := (oth _ (by omega) (by omega)).trans ((he.get _ (by omega)).trans g0)
  have gp : K2.get K.next = some (.row [.int .i64 x.slot, .int .i64 x.index, .int .i64 x.many, w] 0 false) := by rw [hK2, get_set_other _ _ (by omega)]; exact gp1
  have l1 : cellAt K2 c 0 = some v := cellAt_row gc
  have l2 : cellsAt K2 K.next 0 4 = some (partV x w) := by rw [cellsAt_row gp (Nat.le_of_ble_eq_true rfl)]; rfl
  -- what is had so far, and the part that comes
  have o2 : Owns rPart (fun j => S j ∨ K0.next ≤ j ∧ j < K.next) K2 v (ps.take i) u := o0.mono (by omega) (fun y hy => (oth _ (by have := hu y hy; omega) (by have := hwl y hy; omega)).trans (he.get _ (hwl y hy))) (fun j hj => ⟨.inl hj, by
    obtain ⟨h1, h2, h3⟩ := hS0 j hj
    exact (oth _ (by omega) (by omega)).trans (he.get _ h2)⟩)
  have hS2 : ∀ j, (S j ∨ K0.next ≤ j ∧ j < K.next) → hB.next + 2 ≤ j ∧ j < K2.next ∧ u ≠ some j := fun j hj => by
    rcases hj with hj | hj
    · obtain ⟨h1, h2, h3⟩ := hS0 j hj
      exact ⟨h1, by omega, h3⟩
    · exact ⟨by omega, by omega, fun hh => by have := hwl j hh; omega⟩
  have hw2 : Sl fU8.rep (fun j => S j ∨ K0.next ≤ j ∧ j < K.next) K2 w x.data := hw.mono fun j hj => ⟨.inr hj, oth _ (by omega) hj.2⟩
  obtain ⟨z2, h2, e3, y1, y2, y3, o3⟩ := o2.snoc (ts := #[44, 44]) (z := 4) (fun j hj => (hS2 j hj).2) (part_rd k1 k2 k3 hw2) rfl (by decide) app_44 (by rw [List.length_take]; omega) (by decide)
  have hbs : ∀ K : DHeap, dBuildSlice Try.prog 44 1 [(0, partV x w)] K = some (.slice (some ⟨K.next, 0, none⟩) 1 1, K.push (.row [.int .i64 x.slot, .int .i64 x.index, .int .i64 x.many, w] 4 false)) := fun K => bs1_44 rfl
  have kk : ∀ j, j < hB.next + 2 → h2.get j = K2.get j := fun j hj => y3 j (by omega) (fun hh => by have := hu j hh; omega)
  have r3 : Rng hB D2 (fun j => j = c) h2 := r2.keep (by omega) y2 kk
  have gc3 : h2.get c = some (.row [v] 0 false) := (kk _ (by omega)).trans gc
  have hsl2 := o3.sl.isSlice
  have hcl2 : z2.cells = #[z2] := o3.sl.cells1
  have hone : [z2].all Value.oneCell' = true := by obtain ⟨_, _, rfl⟩ := hsl2; rfl
  have hst2 : dStore Try.prog 44 (.pointer (some ⟨c, 0, none⟩)) z2 h2 = some (h2.set c (.row [z2] 0 false)) := (st_44 hcl2).trans (storeAt_row gc3 (Nat.le_of_ble_eq_true rfl) hone)
  have rc := r3.set (o := .row [z2] 0 false) rfl hc
  simp -implicitDefEqProofs (disch := first | omega | (simp -implicitDefEqProofs only [go_sem, List.size_toArray, List.length_cons, List.length_nil, Nat.reduceAdd]; done)) only [go_sem, Int.reduceLT, Int.reduceLE, Int.reduceEq, reduceIte, true_and, Nat.zero_add, Nat.add_zero, Option.map_some, sb9_0, f9, l1, l2, hbs, e3, hst2]
  refine ⟨D2, rc.lp, .inl ⟨rfl, ?_⟩⟩
  subst hD2
  have fin : ∀ j, hB.next + 2 ≤ j → ((h2.set c (.row [z2] 0 false)).set (hB.next + 1) (.loop (backD 96 fr hB.next))).get j = h2.get j := fun j hj => (get_set_other _ _ (by omega)).trans (get_set_other _ _ (by omega))
  refine ⟨rc.loop _, z2, (fun j => S j ∨ K0.next ≤ j ∧ j < K.next), some (K2.next + 1), (get_set_other _ _ (by omega)).trans (get_set_same _ _), ?_, fun j hj => ?_, fun y hy => ?_⟩
  · rw [List.take_add_one, hx]
    exact o3.mono (Nat.le_refl _) (fun y hy => fin _ (by cases hy; omega)) (fun j hj => ⟨hj, fin _ (hS2 j hj).1⟩)
  · obtain ⟨h1, h2', h3⟩ := hS2 j hj
    exact ⟨h1, by show j < h2.next; omega, fun hh => by cases hh; omega⟩
  · cases hy
    omega
theorem back_loop {hB : DHeap} {fr : Fr} {c cc : Nat} {vp : Value} {ps : List Part} {Q : DExit → St → Prop} (hlen : ps.length ≤ 65) (hdl : ∀ x ∈ ps, x.data.length ≤ 4294967296)
    (f9 : fr 9 = some (.pointer (some ⟨c, 0, none⟩))) (f32 : fr 32 = some (.func (.func 57) #[] #[.pointer (some ⟨cc, 0, none⟩)]))
    (hc : c < hB.next) (gc : hB.get c = some (.row [.slice none 0 0] 0 false)) (hcc : cc < hB.next ∧ cc ≠ c) (gcc : hB.get cc = some (.row [vp] 0 false)) (hvp : Sl rPart (fun j => j < hB.next ∧ j ≠ c) hB vp ps)
    (hA : ∀ H, BackI 96 hB fr c ps ps.length H → Q .normal ⟨fr, [.mark hB.next], H.set (hB.next + 1) (.loop { backD 96 fr hB.next with state := .exhausted }), none⟩) :
    NC Try.prog 96 (.rangeFunc (T 32) #[33] fa9_0 fb9_0) Q ⟨fr, [], hB, none⟩ := by
  refine NC.range_yields (fv := .func (.func 57) #[] #[.pointer (some ⟨cc, 0, none⟩)]) (A := BackI 96 hB fr c ps ps.length) (B := fun _ => False) rfl (by simp -implicitDefEqProofs (disch := first | omega | (simp -implicitDefEqProofs only [go_sem, List.size_toArray, List.length_cons, List.length_nil, Nat.reduceAdd]; done)) only [go_sem, Int.reduceLT, Int.reduceLE, Int.reduceEq, reduceIte, true_and, Nat.zero_add, Nat.add_zero, Option.map_some, f32]) (fun K => dTarget_func (by kernel_rfl) _ _ _ K) ?_ (fun H s => ⟨s.r.lp, hA H s⟩) (fun H s => s.elim)
  refine yields_c (D := backD 96 fr hB.next) (p := 33) (vp := vp) (ps := ps) (BackI 96 hB fr c ps) (fun _ => False) rfl (Nat.le_of_ble_eq_true rfl) hlen hdl ?_ (fun i K s => ⟨s.r.lp, ?_, ?_⟩) (fun i K K' s e => s.ext hc e) (fun i K K' x w s e hx hw k1 k2 k3 => back_round hlen hx f9 hc s e hw k1 k2 k3)
  · have e : Ext hB ((hB.push (.marks true)).push (.loop (backD 96 fr hB.next))) := (Ext.push1 _ _).push _
    exact ⟨Rng.start _ _ _, .slice none 0 0, fun _ => False, none, (e.get _ hc).trans gc, Owns.nil _ _ _, fun j hj => hj.elim, by simp⟩
  · exact (s.r.old _ hcc.1 hcc.2).trans gcc
  · exact hvp.mono fun j hj => ⟨by have := s.r.nx; omega, s.r.old _ hj.1 hj.2⟩
end Go.Proofs.Ytlhgijpdhniddaa

namespace Go.Proofs.Ytlhgijpdhniddaa
open Go.D
set_option maxRecDepth 100000

theorem build_head {h : DHeap} {v : Value} {l : List Part} {i b1 p : Nat} {x : Part} {fr : Fr} {rd : Option Nat} (hv : Arg rPart h v l) (hl : l.length ≤ 1048576) (hi : l[i]? = some x) (f1 : fr 1 = some (.pointer (some ⟨b1, 0, none⟩))) (f5 : fr 5 = some (.int .i64 (i : Nat))) (f6 : fr 6 = some (.pointer (some ⟨p, 0, none⟩)))
    (hb : cellAt h b1 0 = some v) (p0 : cellAt h p 0 = some (.int .i64 x.slot)) (p1 : cellAt h p 1 = some (.int .i64 x.index)) (p2 : cellAt h p 2 = some (.int .i64 x.many)) :
    NC Try.prog 94 r26_0 (DThen (fun s => s.df = [] ∧ s.h = h ∧ s.rd = rd ∧ (s.fr 1 = fr 1 ∧ s.fr 2 = fr 2 ∧ s.fr 3 = fr 3 ∧ s.fr 4 = fr 4 ∧ s.fr 6 = fr 6 ∧ s.fr 15 = fr 15 ∧ s.fr 16 = fr 16 ∧ s.fr 17 = fr 17) ∧ ∃ b, s.fr 41 = some (.bool b) ∧ (b = false ↔ goodP l i x)) (fun _ _ => False)) ⟨fr, [], h, rd⟩ := by
  have hj : i < l.length := (List.getElem?_eq_some_iff.1 hi).1
  obtain ⟨id0, o0, w0, g0, _, d0, d1, d2, d3, _, hs0, m1, m2, m3⟩ := part_cells (i := 0) hv (get_of_lt (by omega))
  have g0 : dIndexAddr Try.prog 44 v (.int .i64 0) = some (.pointer (some ⟨id0, o0, none⟩)) := g0
  have el : ∀ K, dLen Try.prog #[44] v K = some (.int .i64 (l.length : Nat)) := hv.lens (P := Try.prog) (ts := #[44]) (t := 44) rfl isl_44
  have hy : l[0]? = some l[0] := get_of_lt (by omega)
  have hgood : goodP l i x ↔ (x.slot = l[0].slot ∧ x.many = (l.length : Int) ∧ x.index = (i : Int)) := by
    unfold goodP
    rw [hy]
    simp
  refine dr_26_0 ?_
  have D2 : dLoad Try.prog 3 (.pointer (some ⟨p, 2, none⟩)) h = some (.int .i64 x.many) := ld_3.trans p2
  by_cases q0 : x.slot = l[0].slot
  case neg =>
    simp -implicitDefEqProofs (disch := first | omega | (simp -implicitDefEqProofs only [go_sem, List.size_toArray, List.length_cons, List.length_nil, Nat.reduceAdd]; done)) only [go_sem, Int.reduceLT, Int.reduceLE, Int.reduceEq, reduceIte, true_and, Nat.zero_add, Nat.add_zero, Option.map_some, l26_0, f1, f5, f6, hb, g0, p0, d0, q0, dPick_t, dPick_f]
    refine ⟨⟨XSt1_at (i := 9) (j := 11) rfl rfl rfl ?_, trivial⟩, ?_⟩
    · rw [if_neg (by decide)]
      exact Ld_offL (by simp -implicitDefEqProofs (disch := first | omega | (simp -implicitDefEqProofs only [go_sem, List.size_toArray, List.length_cons, List.length_nil, Nat.reduceAdd]; done)) only [go_sem, Int.reduceLT, Int.reduceLE, Int.reduceEq, reduceIte, true_and, Nat.zero_add, Nat.add_zero, Option.map_some])
    · exact ⟨_, rfl, by simp [hgood, q0]⟩
  have t0 := eq_true q0
  by_cases q2 : x.many = (l.length : Int)
  case neg =>
    simp -implicitDefEqProofs (disch := first | omega | (simp -implicitDefEqProofs only [go_sem, List.size_toArray, List.length_cons, List.length_nil, Nat.reduceAdd]; done)) only [go_sem, Int.reduceLT, Int.reduceLE, Int.reduceEq, reduceIte, true_and, Nat.zero_add, Nat.add_zero, Option.map_some, l26_0, f1, f5, f6, hb, g0, p0, d0, t0, p2, el, q2, dPick_t, dPick_f]
    refine ⟨⟨XSt1_at (i := 9) (j := 11) rfl rfl rfl ?_, trivial⟩, ?_⟩
    · rw [if_neg (by decide)]
      exact Ld_on (p := .pointer (some ⟨p, 2, none⟩)) (by simp -implicitDefEqProofs (disch := first | omega | (simp -implicitDefEqProofs only [go_sem, List.size_toArray, List.length_cons, List.length_nil, Nat.reduceAdd]; done)) only [go_sem, Int.reduceLT, Int.reduceLE, Int.reduceEq, reduceIte, true_and, Nat.zero_add, Nat.add_zero, Option.map_some]) (by simp -implicitDefEqProofs (disch := first | omega | (simp -implicitDefEqProofs only [go_sem, List.size_toArray, List.length_cons, List.length_nil, Nat.reduceAdd]; done)) only [go_sem, Int.reduceLT, Int.reduceLE, Int.reduceEq, reduceIte, true_and, Nat.zero_add, Nat.add_zero, Option.map_some, f6]) D2
    · exact ⟨_, rfl, by simp [hgood, q0, q2]⟩
  have t2 := eq_true q2
  simp -implicitDefEqProofs (disch := first | omega | (simp -implicitDefEqProofs only [go_sem, List.size_toArray, List.length_cons, List.length_nil, Nat.reduceAdd]; done)) only [go_sem, Int.reduceLT, Int.reduceLE, Int.reduceEq, reduceIte, true_and, Nat.zero_add, Nat.add_zero, Option.map_some, l26_0, f1, f5, f6, hb, g0, p0, d0, t0, p2, el, t2, p1, dPick_t, dPick_f]
  refine ⟨⟨XSt1_at (i := 9) (j := 11) rfl rfl rfl ?_, trivial⟩, ?_⟩
  · rw [if_neg (by decide)]
    exact Ld_on (p := .pointer (some ⟨p, 2, none⟩)) (by simp -implicitDefEqProofs (disch := first | omega | (simp -implicitDefEqProofs only [go_sem, List.size_toArray, List.length_cons, List.length_nil, Nat.reduceAdd]; done)) only [go_sem, Int.reduceLT, Int.reduceLE, Int.reduceEq, reduceIte, true_and, Nat.zero_add, Nat.add_zero, Option.map_some]) (by simp -implicitDefEqProofs (disch := first | omega | (simp -implicitDefEqProofs only [go_sem, List.size_toArray, List.length_cons, List.length_nil, Nat.reduceAdd]; done)) only [go_sem, Int.reduceLT, Int.reduceLE, Int.reduceEq, reduceIte, true_and, Nat.zero_add, Nat.add_zero, Option.map_some, f6]) D2
  · exact ⟨_, rfl, by simp [hgood, q0, q2]⟩
theorem build_same {h : DHeap} {v w : Value} {l : List Part} {n b1 p id9 : Nat} {x : Part} {fr : Fr} {df : List DDef} {rd : Option Nat} (hv : Arg rPart h v l) (hl : l.length ≤ 1048576) (hdl : x.data.length ≤ 4294967296) (f1 : fr 1 = some (.pointer (some ⟨b1, 0, none⟩))) (f9 : fr 9 = some (.pointer (some ⟨id9, 0, none⟩))) (f10 : fr 10 = some (.pointer (some ⟨p, 0, none⟩)))
    (hb : cellAt h b1 0 = some v) (hn : cellAt h id9 0 = some (.int .i64 (n : Nat))) (p0 : cellAt h p 0 = some (.int .i64 x.slot)) (p3 : cellAt h p 3 = some w) (hw : Arg fU8.rep h w x.data) :
    NC Try.prog 94 r26_1 (DThen (fun s => s.df = df ∧ s.h = h ∧ s.rd = rd ∧ (s.fr 2 = fr 2 ∧ s.fr 3 = fr 3 ∧ s.fr 9 = fr 9) ∧ ∃ b, s.fr 84 = some (.bool b) ∧ (b = false ↔ ∃ y, l[n]? = some y ∧ x.slot = y.slot ∧ x.data = y.data)) (fun _ _ => False)) ⟨fr, df, h, rd⟩ := by
  have el : ∀ K, dLen Try.prog #[44] v K = some (.int .i64 (l.length : Nat)) := hv.lens (P := Try.prog) (ts := #[44]) (t := 44) rfl isl_44
  refine dr_26_1 ?_
  have D0 : dLoad Try.prog 3 (.pointer (some ⟨id9, 0, none⟩)) h = some (.int .i64 (n : Nat)) := ld_3.trans hn
  by_cases q : (l.length : Int) ≤ (n : Nat)
  case pos =>
    have q' := eq_true q
    have hnone : l[n]? = none := List.getElem?_eq_none (by omega)
    simp -implicitDefEqProofs (disch := first | omega | (simp -implicitDefEqProofs only [go_sem, List.size_toArray, List.length_cons, List.length_nil, Nat.reduceAdd]; done)) only [go_sem, Int.reduceLT, Int.reduceLE, Int.reduceEq, reduceIte, true_and, Nat.zero_add, Nat.add_zero, Option.map_some, l26_1, f1, f9, f10, hb, hn, el, ge_iff_le, q', dPick_t, dPick_f]
    refine ⟨⟨XSt1_at (i := 0) (j := 2) rfl rfl rfl ?_, trivial⟩, ?_⟩
    · rw [if_neg (by decide)]
      exact Ld_on (p := .pointer (some ⟨id9, 0, none⟩)) (by simp -implicitDefEqProofs (disch := first | omega | (simp -implicitDefEqProofs only [go_sem, List.size_toArray, List.length_cons, List.length_nil, Nat.reduceAdd]; done)) only [go_sem, Int.reduceLT, Int.reduceLE, Int.reduceEq, reduceIte, true_and, Nat.zero_add, Nat.add_zero, Option.map_some]) (by simp -implicitDefEqProofs (disch := first | omega | (simp -implicitDefEqProofs only [go_sem, List.size_toArray, List.length_cons, List.length_nil, Nat.reduceAdd]; done)) only [go_sem, Int.reduceLT, Int.reduceLE, Int.reduceEq, reduceIte, true_and, Nat.zero_add, Nat.add_zero, Option.map_some, f9]) D0
    · exact ⟨_, rfl, by simp [hnone]⟩
  have hj : n < l.length := by omega
  have hx : l[n]? = some l[n] := get_of_lt hj
  obtain ⟨id0, o0, w0, g0, _, d0, d1, d2, d3, _, hs0, m1, m2, m3⟩ := part_cells hv hx
  by_cases q0 : x.slot = l[n].slot
  case neg =>
    simp -implicitDefEqProofs (disch := first | omega | (simp -implicitDefEqProofs only [go_sem, List.size_toArray, List.length_cons, List.length_nil, Nat.reduceAdd]; done)) only [go_sem, Int.reduceLT, Int.reduceLE, Int.reduceEq, reduceIte, true_and, Nat.zero_add, Nat.add_zero, Option.map_some, l26_1, f1, f9, f10, hb, hn, el, ge_iff_le, q, g0, d0, p0, q0, dPick_t, dPick_f]
    refine ⟨⟨XSt1_at (i := 0) (j := 2) rfl rfl rfl ?_, trivial⟩, ?_⟩
    · rw [if_neg (by decide)]
      exact Ld_on (p := .pointer (some ⟨id9, 0, none⟩)) (by simp -implicitDefEqProofs (disch := first | omega | (simp -implicitDefEqProofs only [go_sem, List.size_toArray, List.length_cons, List.length_nil, Nat.reduceAdd]; done)) only [go_sem, Int.reduceLT, Int.reduceLE, Int.reduceEq, reduceIte, true_and, Nat.zero_add, Nat.add_zero, Option.map_some]) (by simp -implicitDefEqProofs (disch := first | omega | (simp -implicitDefEqProofs only [go_sem, List.size_toArray, List.length_cons, List.length_nil, Nat.reduceAdd]; done)) only [go_sem, Int.reduceLT, Int.reduceLE, Int.reduceEq, reduceIte, true_and, Nat.zero_add, Nat.add_zero, Option.map_some, f9]) D0
    · exact ⟨_, rfl, by simp [hx, q0]⟩
  have t0 := eq_true q0
  simp -implicitDefEqProofs (disch := first | omega | (simp -implicitDefEqProofs only [go_sem, List.size_toArray, List.length_cons, List.length_nil, Nat.reduceAdd]; done)) only [go_sem, Int.reduceLT, Int.reduceLE, Int.reduceEq, reduceIte, true_and, Nat.zero_add, Nat.add_zero, Option.map_some, l26_1, f1, f9, f10, hb, hn, el, ge_iff_le, q, g0, d0, p0, t0, d3, p3, dPick_t, dPick_f]
  refine dcall (eqBytes_c hw hs0 hdl) ?_
  simp -implicitDefEqProofs (disch := first | omega | (simp -implicitDefEqProofs only [go_sem, List.size_toArray, List.length_cons, List.length_nil, Nat.reduceAdd]; done)) only [go_sem, Int.reduceLT, Int.reduceLE, Int.reduceEq, reduceIte, true_and, Nat.zero_add, Nat.add_zero, Option.map_some, dPick_t, dPick_f]
  refine ⟨⟨XSt1_at (i := 0) (j := 2) rfl rfl rfl ?_, trivial⟩, ?_⟩
  · rw [if_neg (by decide)]
    exact Ld_on (p := .pointer (some ⟨id9, 0, none⟩)) (by simp -implicitDefEqProofs (disch := first | omega | (simp -implicitDefEqProofs only [go_sem, List.size_toArray, List.length_cons, List.length_nil, Nat.reduceAdd]; done)) only [go_sem, Int.reduceLT, Int.reduceLE, Int.reduceEq, reduceIte, true_and, Nat.zero_add, Nat.add_zero, Option.map_some]) (by simp -implicitDefEqProofs (disch := first | omega | (simp -implicitDefEqProofs only [go_sem, List.size_toArray, List.length_cons, List.length_nil, Nat.reduceAdd]; done)) only [go_sem, Int.reduceLT, Int.reduceLE, Int.reduceEq, reduceIte, true_and, Nat.zero_add, Nat.add_zero, Option.map_some, f9]) D0
  · refine ⟨f9, _, rfl, ?_⟩
    rw [Bool.not_eq_false']
    constructor
    · intro hh
      exact ⟨_, hx, q0, sameL_eq (fun a b h => of_decide_eq_true h) hh⟩
    · rintro ⟨y, h1, h2, h3⟩
      rw [hx] at h1
      cases h1
      rw [h3]
      exact sameL_refl fun a _ => decide_eq_true rfl
end Go.Proofs.Ytlhgijpdhniddaa

namespace Go.Proofs.Ytlhgijpdhniddaa
open Go.D
set_option maxRecDepth 100000

theorem partsL_at {slot : Int} {l : List Int} {j : Nat} {x : Part} (h : (partsL slot l)[j]? = some x) : x.index = (j : Int) ∧ x.many = ((partsL slot l).length : Int) := by
  have hj := (List.getElem?_eq_some_iff.1 h).1
  rw [partsL_len] at hj
  rw [partsL_get hj] at h
  cases h
  rw [partsL_len]
  exact ⟨rfl, rfl⟩
theorem partsS_at {s : State} {j : Nat} {x : Part} (h : (partsS s)[j]? = some x) : x.index = (j : Int) ∧ x.many = ((partsS s).length : Int) := by
  unfold partsS at h ⊢
  split at h
  · rename_i h0
    rw [if_pos h0]
    exact partsL_at h
  · simp at h
theorem partsS_len (s : State) : (partsS s).length ≤ 65 ∧ ∀ x ∈ partsS s, x.data.length ≤ 4294967296 := by
  unfold partsS
  split
  · rename_i h0
    obtain ⟨hm, hlen, hbl⟩ := bytes0_of h0
    rw [partsL_len]
    refine ⟨by unfold manyL; omega, fun x hx => ?_⟩
    obtain ⟨i, hi, rfl⟩ := List.mem_map.1 hx
    simp only [pieceL, List.length_drop, List.length_take]
    omega
  · simp
/-- a loop over a function, as it stands in the heap -/
abbrev bldD (fr : Fr) (k : Nat) : DLoop := ⟨94, fr, #[59], fa26_0, fb26_0, k, .ready, none⟩
/-- what state.Build changes while it goes through the parts -/
def bldIds (a b c : Nat) (j : Nat) : Prop := j = a ∨ j = b ∨ j = c
/-- so far all parts are the same -/
def bldSo (ps l : List Part) (i : Nat) : Prop := ∀ j x, j < i → ps[j]? = some x → ∃ y, l[j]? = some y ∧ x.slot = y.slot ∧ x.data = y.data
structure BldI (hB : DHeap) (fr : Fr) (a b c : Nat) (ps l : List Part) (i : Nat) (K : DHeap) : Prop where
  r : Rng hB (bldD fr hB.next) (bldIds a b c) K
  ga : K.get a = some (.row zeroState 0 false)
  gb : K.get b = some (.row [.int .i64 0] 0 false)
  gc : K.get c = some (.row [.int .i64 (i : Nat)] 0 false)
  so : bldSo ps l i
structure BldS (hB : DHeap) (fr : Fr) (a b c : Nat) (ps l : List Part) (K : DHeap) : Prop where
  r : Rng hB { bldD fr hB.next with state := .done, pending := some .ret } (bldIds a b c) K
  ga : K.get a = some (.row zeroState 0 false)
  gb : K.get b = some (.row [.int .i64 221] 0 false)
  ne : ps ≠ l
theorem BldI.ext {hB : DHeap} {fr : Fr} {a b c : Nat} {ps l : List Part} {i : Nat} {K K' : DHeap} (s : BldI hB fr a b c ps l i K) (ha : a < hB.next) (hb : b < hB.next) (hc : c < hB.next) (e : Ext K K') : BldI hB fr a b c ps l i K' :=
  have hn := s.r.nx
  ⟨s.r.ext e, (e.get _ (by omega)).trans s.ga, (e.get _ (by omega)).trans s.gb, (e.get _ (by omega)).trans s.gc, s.so⟩
theorem build_round {hB K : DHeap} {fr : Fr} {a b c b1 : Nat} {v w : Value} {ps l : List Part} {i : Nat} {x : Part} (hl : l.length ≤ 1048576) (hi : i ≤ 65) (hdl : x.data.length ≤ 4294967296)
    (f1 : fr 1 = some (.pointer (some ⟨b1, 0, none⟩))) (f2 : fr 2 = some (.pointer (some ⟨a, 0, none⟩))) (f3 : fr 3 = some (.pointer (some ⟨b, 0, none⟩))) (f9 : fr 9 = some (.pointer (some ⟨c, 0, none⟩)))
    (hab : b1 < hB.next ∧ a < hB.next ∧ b < hB.next ∧ c < hB.next ∧ b1 ≠ a ∧ b1 ≠ b ∧ b1 ≠ c ∧ a ≠ b ∧ a ≠ c ∧ b ≠ c) (hb1 : hB.get b1 = some (.row [v] 0 false)) (hv : Sl rPart (fun j => j < hB.next ∧ j ≠ a ∧ j ≠ b ∧ j ≠ c) hB v l)
    (s : BldI hB fr a b c ps l i K) (hx : ps[i]? = some x) (hw : Sl fU8.rep (fun j => hB.next + 2 ≤ j ∧ j < K.next) K w x.data) :
    Rt Try.prog (hB.next + 1) 94 (putParams fr [59] [partV x w]) fa26_0 fb26_0 K fun r H => r = .ret (.bool true) ∧ BldI hB fr a b c ps l (i + 1) H ∨ r = .ret (.bool false) ∧ BldS hB fr a b c ps l H := by
  obtain ⟨u0, u1, u2, u3, u4, u5, u6, u7, u8, u9⟩ := hab
  have hcw : w.cells = #[w] := hw.cells1
  have hsw := hw.isSlice
  have hst : [Value.int .i64 x.slot, .int .i64 x.index, .int .i64 x.many, w].all Value.oneCell' = true := by obtain ⟨_, _, rfl⟩ := hsw; rfl
  refine Rt_walk ta26_0 tb26_0 (by kernel_rfl) (by kernel_rfl) ?_
  obtain ⟨K1, hK1⟩ : ∃ K1, K1 = K.push (.row [.int .i64 x.slot, .int .i64 x.index, .int .i64 x.many, w] 0 false) := ⟨_, rfl⟩
  have hE1 : Ext K K1 := by rw [hK1]; exact Ext.push1 _ _
  have s1 := s.ext u1 u2 u3 hE1
  simp -implicitDefEqProofs (disch := first | omega | (simp -implicitDefEqProofs only [go_sem, List.size_toArray, List.length_cons, List.length_nil, Nat.reduceAdd]; done)) only [go_sem, Int.reduceLT, Int.reduceLE, Int.reduceEq, reduceIte, true_and, Nat.zero_add, Nat.add_zero, Option.map_some, sa26_0, putParams, store4_push hst, hcw, ← hK1]
  refine ⟨_, s1.r.lp, rfl, ?_⟩
  have hnx := s.r.nx
  have hK1n : K1.next = K.next + 1 := by rw [hK1]; rfl
  have gp1 : K1.get K.next = some (.row [.int .i64 x.slot, .int .i64 x.index, .int .i64 x.many, w] 0 false) := by rw [hK1]; exact get_push_same _ _
  obtain ⟨D2, hD2⟩ : ∃ D2 : DLoop, D2 = { bldD fr hB.next with state := .busy, pending := (bldD fr hB.next).pending } := ⟨_, rfl⟩
  rw [← hD2]
  obtain ⟨K2, hK2⟩ : ∃ K2, K2 = K1.set (hB.next + 1) (.loop D2) := ⟨_, rfl⟩
  rw [← hK2]
  have r2 : Rng hB D2 (bldIds a b c) K2 := by rw [hK2]; exact s1.r.loop _
  have oth : ∀ j, j ≠ hB.next + 1 → K2.get j = K1.get j := fun j hj => by rw [hK2]; exact get_set_other _ _ hj
  have hK2n : K2.next = K.next + 1 := by rw [hK2]; exact hK1n
  have ga : K2.get a = some (.row zeroState 0 false) := (oth _ (by omega)).trans s1.ga
  have gb : K2.get b = some (.row [.int .i64 0] 0 false) := (oth _ (by omega)).trans s1.gb
  have gc : K2.get c = some (.row [.int .i64 (i : Nat)] 0 false) := (oth _ (by omega)).trans s1.gc
  have gp : K2.get K.next = some (.row [.int .i64 x.slot, .int .i64 x.index, .int .i64 x.many, w] 0 false) := (oth _ (by omega)).trans gp1
  have g1 : K2.get b1 = some (.row [v] 0 false) := (r2.old _ u0 (by unfold bldIds; omega)).trans hb1
  have hv2 : Arg rPart K2 v l := hv.mono fun j hj => ⟨by omega, r2.old j hj.1 (by unfold bldIds; omega)⟩
  have hw2 : Arg fU8.rep K2 w x.data := hw.mono fun j hj => ⟨by omega, (oth _ (by omega)).trans (hE1.get _ hj.2)⟩
  simp -implicitDefEqProofs (disch := first | omega | (simp -implicitDefEqProofs only [go_sem, List.size_toArray, List.length_cons, List.length_nil, Nat.reduceAdd]; done)) only [go_sem, Int.reduceLT, Int.reduceLE, Int.reduceEq, reduceIte, true_and, Nat.zero_add, Nat.add_zero, Option.map_some, sb26_0]
  refine NC.mono (build_same (n := i) (p := K.next) (id9 := c) (b1 := b1) (x := x) hv2 hl hdl (by simp -implicitDefEqProofs (disch := first | omega | (simp -implicitDefEqProofs only [go_sem, List.size_toArray, List.length_cons, List.length_nil, Nat.reduceAdd]; done)) only [go_sem, Int.reduceLT, Int.reduceLE, Int.reduceEq, reduceIte, true_and, Nat.zero_add, Nat.add_zero, Option.map_some, f1]) (by simp -implicitDefEqProofs (disch := first | omega | (simp -implicitDefEqProofs only [go_sem, List.size_toArray, List.length_cons, List.length_nil, Nat.reduceAdd]; done)) only [go_sem, Int.reduceLT, Int.reduceLE, Int.reduceEq, reduceIte, true_and, Nat.zero_add, Nat.add_zero, Option.map_some, f9]) (by simp -implicitDefEqProofs (disch := first | omega | (simp -implicitDefEqProofs only [go_sem, List.size_toArray, List.length_cons, List.length_nil, Nat.reduceAdd]; done)) only [go_sem, Int.reduceLT, Int.reduceLE, Int.reduceEq, reduceIte, true_and, Nat.zero_add, Nat.add_zero, Option.map_some]) (cellAt_row g1) (cellAt_row gc) (cellAt_row gp) (cellAt_row gp) hw2) ?_
  rintro e ⟨fr1, df1, hh1, rd1⟩ hM
  cases e <;> try exact hM.elim
  obtain ⟨rfl, rfl, rfl, ⟨r2', r3', r9'⟩, bb, r84, hb⟩ := hM
  simp only at r2' r3' r9' r84
  have q2 := r2'.trans (show _ = some (.pointer (some ⟨a, 0, none⟩)) by simp -implicitDefEqProofs (disch := first | omega | (simp -implicitDefEqProofs only [go_sem, List.size_toArray, List.length_cons, List.length_nil, Nat.reduceAdd]; done)) only [go_sem, Int.reduceLT, Int.reduceLE, Int.reduceEq, reduceIte, true_and, Nat.zero_add, Nat.add_zero, Option.map_some, f2])
  have q3 := r3'.trans (show _ = some (.pointer (some ⟨b, 0, none⟩)) by simp -implicitDefEqProofs (disch := first | omega | (simp -implicitDefEqProofs only [go_sem, List.size_toArray, List.length_cons, List.length_nil, Nat.reduceAdd]; done)) only [go_sem, Int.reduceLT, Int.reduceLE, Int.reduceEq, reduceIte, true_and, Nat.zero_add, Nat.add_zero, Option.map_some, f3])
  have q9 := r9'.trans (show _ = some (.pointer (some ⟨c, 0, none⟩)) by simp -implicitDefEqProofs (disch := first | omega | (simp -implicitDefEqProofs only [go_sem, List.size_toArray, List.length_cons, List.length_nil, Nat.reduceAdd]; done)) only [go_sem, Int.reduceLT, Int.reduceLE, Int.reduceEq, reduceIte, true_and, Nat.zero_add, Nat.add_zero, Option.map_some, f9])
  cases bb with
  | true =>
    have w1 := storeAt_row (o := 0) (vs := [.int .i64 0, .slice none 0 0, .slice none 0 0]) ga (Nat.le_of_ble_eq_true rfl) rfl
    have ra := r2.set (o := .row zeroState 0 false) (show bldIds a b c a from .inl rfl) u1
    have w2 := storeAt_row (o := 0) (vs := [.int .i64 221]) ((get_set_other _ _ (by omega)).trans gb : (hh1.set a (.row zeroState 0 false)).get b = _) (Nat.le_of_ble_eq_true rfl) rfl
    have rb := ra.set (o := .row [.int .i64 221] 0 false) (show bldIds a b c b from .inr (.inl rfl)) u2
    have e1 : hh1.set a (.row (setAt zeroState 0 [.int .i64 0, .slice none 0 0, .slice none 0 0]) 0 false) = hh1.set a (.row zeroState 0 false) := rfl
    rw [e1] at w1
    simp -implicitDefEqProofs (disch := first | omega | (simp -implicitDefEqProofs only [go_sem, List.size_toArray, List.length_cons, List.length_nil, Nat.reduceAdd]; done)) only [go_sem, Int.reduceLT, Int.reduceLE, Int.reduceEq, reduceIte, true_and, Nat.zero_add, Nat.add_zero, Option.map_some, r84, q2, q3, bd_state0, w1, w2]
    refine ⟨D2, rb.lp, .inr ⟨rfl, ?_⟩⟩
    subst hD2
    refine ⟨rb.loop _, (get_set_other _ _ (by omega)).trans ((get_set_other _ _ (by omega)).trans (get_set_same _ _)), (get_set_other _ _ (by omega)).trans (get_set_same _ _), fun hh => ?_⟩
    subst hh
    cases hb.2 ⟨x, hx, rfl, rfl⟩
  | false =>
    have hwi : IntKind.i64.wrap ((i : Int) + 1) = ((i + 1 : Nat) : Int) := by rw [wrap_i64_in (by omega) (by omega)]; omega
    have gc0 : cellAt hh1 c 0 = some (.int .i64 (i : Nat)) := cellAt_row gc
    have w1 := storeAt_row (o := 0) (vs := [.int .i64 ((i + 1 : Nat) : Int)]) gc (Nat.le_of_ble_eq_true rfl) rfl
    have rc := r2.set (o := .row [.int .i64 ((i + 1 : Nat) : Int)] 0 false) (show bldIds a b c c from .inr (.inr rfl)) u3
    simp -implicitDefEqProofs (disch := first | omega | (simp -implicitDefEqProofs only [go_sem, List.size_toArray, List.length_cons, List.length_nil, Nat.reduceAdd]; done)) only [go_sem, Int.reduceLT, Int.reduceLE, Int.reduceEq, reduceIte, true_and, Nat.zero_add, Nat.add_zero, Option.map_some, r84, q9, gc0, hwi, w1]
    refine ⟨D2, rc.lp, .inl ⟨rfl, ?_⟩⟩
    subst hD2
    refine ⟨rc.loop _, (get_set_other _ _ (by omega)).trans ((get_set_other _ _ (by omega)).trans ga), (get_set_other _ _ (by omega)).trans ((get_set_other _ _ (by omega)).trans gb), (get_set_other _ _ (by omega)).trans (get_set_same _ _), fun j y hj hy => ?_⟩
    by_cases hji : j = i
    · subst hji
      rw [hx] at hy
      cases hy
      exact hb.1 rfl
    · exact s.so j y (by omega) hy
theorem build_loop {hB : DHeap} {fr : Fr} {a b c b1 cc : Nat} {v vp : Value} {ps l : List Part} {Q : DExit → St → Prop} (hl : l.length ≤ 1048576) (hlen : ps.length ≤ 65) (hdl : ∀ x ∈ ps, x.data.length ≤ 4294967296)
    (f1 : fr 1 = some (.pointer (some ⟨b1, 0, none⟩))) (f2 : fr 2 = some (.pointer (some ⟨a, 0, none⟩))) (f3 : fr 3 = some (.pointer (some ⟨b, 0, none⟩))) (f9 : fr 9 = some (.pointer (some ⟨c, 0, none⟩))) (f58 : fr 58 = some (.func (.func 57) #[] #[.pointer (some ⟨cc, 0, none⟩)]))
    (hab : b1 < hB.next ∧ a < hB.next ∧ b < hB.next ∧ c < hB.next ∧ b1 ≠ a ∧ b1 ≠ b ∧ b1 ≠ c ∧ a ≠ b ∧ a ≠ c ∧ b ≠ c) (hb1 : hB.get b1 = some (.row [v] 0 false)) (hv : Sl rPart (fun j => j < hB.next ∧ j ≠ a ∧ j ≠ b ∧ j ≠ c) hB v l)
    (ga : hB.get a = some (.row zeroState 0 false)) (gb : hB.get b = some (.row [.int .i64 0] 0 false)) (gc : hB.get c = some (.row [.int .i64 0] 0 false))
    (hcc : cc < hB.next ∧ cc ≠ a ∧ cc ≠ b ∧ cc ≠ c) (gcc : hB.get cc = some (.row [vp] 0 false)) (hvp : Sl rPart (fun j => j < hB.next ∧ j ≠ a ∧ j ≠ b ∧ j ≠ c) hB vp ps)
    (hA : ∀ H, BldI hB fr a b c ps l ps.length H → Q .normal ⟨fr, [.mark hB.next], H.set (hB.next + 1) (.loop { bldD fr hB.next with state := .exhausted }), none⟩)
    (hS : ∀ H, BldS hB fr a b c ps l H → Q .ret ⟨fr, [.mark hB.next], H.set (hB.next + 1) (.loop { bldD fr hB.next with state := .exhausted, pending := some .ret }), none⟩) :
    NC Try.prog 94 (.rangeFunc (T 58) #[59] fa26_0 fb26_0) Q ⟨fr, [], hB, none⟩ := by
  refine NC.range_yields (fv := .func (.func 57) #[] #[.pointer (some ⟨cc, 0, none⟩)]) (A := BldI hB fr a b c ps l ps.length) (B := BldS hB fr a b c ps l) rfl (by simp -implicitDefEqProofs (disch := first | omega | (simp -implicitDefEqProofs only [go_sem, List.size_toArray, List.length_cons, List.length_nil, Nat.reduceAdd]; done)) only [go_sem, Int.reduceLT, Int.reduceLE, Int.reduceEq, reduceIte, true_and, Nat.zero_add, Nat.add_zero, Option.map_some, f58]) (fun K => dTarget_func (by kernel_rfl) _ _ _ K) ?_ (fun H s => ⟨s.r.lp, hA H s⟩) (fun H s => ⟨s.r.lp, hS H s⟩)
  obtain ⟨u0, u1, u2, u3, u4, u5, u6, u7, u8, u9⟩ := hab
  refine yields_c (D := bldD fr hB.next) (p := 59) (vp := vp) (ps := ps) (BldI hB fr a b c ps l) (BldS hB fr a b c ps l) rfl (Nat.le_of_ble_eq_true rfl) hlen hdl ?_ (fun i K s => ⟨s.r.lp, ?_, ?_⟩) (fun i K K' s e => s.ext u1 u2 u3 e) (fun i K K' x w s e hx hw _ _ _ => ?_)
  · have e : Ext hB ((hB.push (.marks true)).push (.loop (bldD fr hB.next))) := (Ext.push1 _ _).push _
    exact ⟨Rng.start _ _ _, (e.get _ u1).trans ga, (e.get _ u2).trans gb, (e.get _ u3).trans gc, fun j _ hj => absurd hj (Nat.not_lt_zero j)⟩
  · exact (s.r.old _ hcc.1 (by unfold bldIds; omega)).trans gcc
  · exact hvp.mono fun j hj => ⟨by have := s.r.nx; omega, s.r.old _ hj.1 (by unfold bldIds; omega)⟩
  · have hxl := (List.getElem?_eq_some_iff.1 hx).1
    exact build_round hl (by omega) (hdl x (List.mem_of_getElem? hx)) f1 f2 f3 f9 ⟨u0, u1, u2, u3, u4, u5, u6, u7, u8, u9⟩ hb1 hv (s.ext u1 u2 u3 e) hx (hw.mono fun j hj => ⟨⟨Nat.le_trans s.r.nx hj.1, hj.2⟩, rfl⟩)
end Go.Proofs.Ytlhgijpdhniddaa

namespace Go.Proofs.Ytlhgijpdhniddaa
open Go.D
set_option maxRecDepth 100000

theorem piece_eq (l : List Int) (i : Nat) : pieceL l i = (l.take ((i + 1) * 16384)).drop (i * 16384) := by
  unfold pieceL
  congr 1
  rcases Nat.le_total ((i + 1) * 16384) l.length with h | h
  · rw [Nat.min_eq_left h]
  · rw [Nat.min_eq_right h, List.take_length, List.take_of_length_le h]
theorem pieces (l : List Int) : ∀ n : Nat, (List.range n).flatMap (pieceL l) = l.take (n * 16384)
  | 0 => by simp
  | n + 1 => by
    rw [List.range_succ, List.flatMap_append, pieces l n]
    simp only [List.flatMap_cons, List.flatMap_nil, List.append_nil]
    rw [piece_eq]
    have h : l.take (n * 16384) = (l.take ((n + 1) * 16384)).take (n * 16384) := by
      rw [List.take_take, Nat.min_eq_left (by omega)]
    rw [h, List.take_append_drop]
theorem dataOf_parts (slot : Int) (l : List Int) : dataOf (partsL slot l) = l := by
  unfold dataOf partsL
  rw [List.flatMap_map]
  have h := pieces l (manyL l)
  rw [List.take_of_length_le (by unfold manyL; omega)] at h
  exact h
theorem good_parts (slot : Int) (l : List Int) (k : Nat) : goodL (partsL slot l) k := fun j x _ hx => by
  have h1 := partsL_at hx
  have hs : ∀ {i : Nat} {y : Part}, (partsL slot l)[i]? = some y → y.slot = slot := fun {i y} hy => by
    have hj := (List.getElem?_eq_some_iff.1 hy).1
    rw [partsL_len] at hj
    rw [partsL_get hj] at hy
    cases hy
    rfl
  exact ⟨fun y hy => (hs hx).trans (hs hy).symm, h1.2, h1.1⟩
/-- a state that may be is built of its parts -/
theorem build_parts {x : State} (hx : StOk x) (h0 : bytesE x = 0) : buildE (partsS x) = 0 ∧ buildR (partsS x) = x ∧ parseE id (stateB x) = 0 ∧ parseR id (stateB x) = x := by
  obtain ⟨hm, hlen, _⟩ := bytes0_of h0
  obtain ⟨p1, p2⟩ := parse_bytes hx hm hlen
  have hR : parseR id (stateB x) = x := by unfold parseR; rw [if_pos p1, p2]
  have hps : partsS x = partsL x.slot (stateB x) := by unfold partsS; rw [if_pos h0]
  have hd : dataOf (partsS x) = stateB x := by rw [hps]; exact dataOf_parts _ _
  have hne : partsS x ≠ [] := by
    intro h
    have h1 := congrArg List.length h
    rw [hps, partsL_len] at h1
    have h2 : 0 < (stateB x).length := by
      have := numB_pos x.slot
      simp only [stateB, nums_cons, List.length_append]
      omega
    simp only [List.length_nil] at h1
    unfold manyL at h1
    omega
  have hg : goodL (partsS x) (partsS x).length := by rw [hps]; exact good_parts _ _ _
  have hb : buildE (partsS x) = 0 := build_ok hne hg (by rw [hd]; exact p1) (by rw [hd, hR])
  exact ⟨hb, by rw [buildR_yes hb, hd, hR], p1, hR⟩
/-- bytes that are read, written again -/
theorem bytes_again {l : List Int} (hb : ∀ x ∈ l, 0 ≤ x ∧ x ≤ 255) (hl : l.length ≤ 1048576) (h : parseE id l = 0) : bytesE (parseR id l) = 0 ∧ bytesL (parseR id l) = l := by
  obtain ⟨h1, h2⟩ := bytes_parse hb h
  have h3 : bytesE (parseR id l) = 0 := by
    unfold bytesE
    rw [if_pos h2, if_neg (by rw [h1]; omega)]
  exact ⟨h3, (bytes0_of h3).2.2.trans h1⟩
/-- where there are no bytes -/
theorem bytesE_not {x : State} (h : bytesE x ≠ 0) : mayB x = false ∨ bytesE x = 3 := by
  cases hm : mayB x with
  | false => exact .inl rfl
  | true =>
    right
    unfold bytesE at h ⊢
    rw [if_pos hm] at h ⊢
    split
    · rfl
    · rename_i h1
      rw [if_neg h1] at h
      exact absurd rfl h
end Go.Proofs.Ytlhgijpdhniddaa

namespace Go.Proofs.Ytlhgijpdhniddaa
open Go.D
set_option maxRecDepth 100000

theorem res_cc {fr : Fr} {K : DHeap} {a b id id2 : Nat} {n e : Int} {vc vr : Value} (f2 : fr a = some (.pointer (some ⟨id, 0, none⟩))) (f3 : fr b = some (.pointer (some ⟨id2, 0, none⟩))) (hk : K.get id = some (.row [.int .i64 n, vc, vr] 0 false)) (hk2 : K.get id2 = some (.row [.int .i64 e] 0 false)) :
    dResults Try.prog [.cell a 26, .cell b 27] fr K = some (.tuple #[stateV n vc vr, .int .i64 e]) := by
  rw [dResults_d2, dRes1_cell, dRes1_cell, f2, f3, dResC_some, dResC_some]
  have e1 : dLoad Try.prog 26 (.pointer (some ⟨id, 0, none⟩)) K = some (stateV n vc vr) := ld_26.trans (by rw [cellsAt_row hk (Nat.le_of_ble_eq_true rfl)]; rfl)
  have e2 : dLoad Try.prog 27 (.pointer (some ⟨id2, 0, none⟩)) K = some (.int .i64 e) := ld_27.trans (cellAt_row hk2)
  rw [e1, e2, tup2_some]
theorem part_ext {x y : Part} (a : x.slot = y.slot) (b : x.index = y.index) (c : x.many = y.many) (d : x.data = y.data) : x = y := by
  cases x
  cases y
  simp_all
set_option maxHeartbeats 1000000 in
theorem build_c {h : DHeap} {v : Value} {l : List Part} (hv : Arg rPart h v l) (hl : l.length ≤ 1048576) (hd : (dataOf l).length ≤ 1048576) :
    Ct Try.prog 26 [v] h fun r h1 => ∃ vc vr, r = .ret (.tuple #[stateV (buildR l).slot vc vr, .int .i64 (buildE l)]) ∧ Ext h h1 ∧ Arg fCell.rep h1 vc (buildR l).cells ∧ Arg rRow h1 vr (buildR l).rows := by
  refine go_26 (by simp) ?_
  have hvc := hv.cells1
  simp only [Value.cells] at hvc
  obtain ⟨H0, hH0⟩ : ∃ H, H = ((h.push (.row [v] 0 false)).push (.row zeroState 0 false)).push (.row [.int .i64 0] 0 false) := ⟨_, rfl⟩
  have hE0 : Ext h H0 := by rw [hH0]; exact ((Ext.push1 _ _).push _).push _
  have hA0 : H0.get h.next = some (.row [v] 0 false) := by rw [hH0]; exact get_p2
  have hB0 : H0.get (h.next + 1) = some (.row zeroState 0 false) := by rw [hH0]; exact get_p1
  have hC0 : H0.get (h.next + 2) = some (.row [.int .i64 0] 0 false) := by rw [hH0]; exact get_push_same _ _
  have hH0n : H0.next = h.next + 3 := by rw [hH0]; rfl
  have el : ∀ K, dLen Try.prog #[44] v K = some (.int .i64 (l.length : Nat)) := hv.lens (P := Try.prog) (ts := #[44]) (t := 44) rfl isl_44
  have hz : ∀ K, K.get (h.next + 1) = some (.row zeroState 0 false) → storeAt K (h.next + 1) 0 [.int .i64 0, .slice none 0 0, .slice none 0 0] = some (K.set (h.next + 1) (.row zeroState 0 false)) := fun K hk =>
    storeAt_row hk (Nat.le_of_ble_eq_true rfl) rfl
  have hz2 : ∀ (K : DHeap) o (e : Int), K.get (h.next + 2) = some (.row [.int .i64 0] 0 false) → storeAt (K.set (h.next + 1) o) (h.next + 2) 0 [.int .i64 e] = some ((K.set (h.next + 1) o).set (h.next + 2) (.row [.int .i64 e] 0 false)) := fun K o e hk =>
    storeAt_row ((get_set_other _ _ (by omega)).trans hk) (Nat.le_of_ble_eq_true rfl) rfl
  have hend : ∀ (K : DHeap) e, Ext H0 K → buildE l = e → e ≠ 0 → ∃ vc vr, (DEnd.ret (.tuple #[stateV 0 (.slice none 0 0) (.slice none 0 0), .int .i64 e])) = .ret (.tuple #[stateV (buildR l).slot vc vr, .int .i64 (buildE l)]) ∧ Ext h ((K.set (h.next + 1) (.row zeroState 0 false)).set (h.next + 2) (.row [.int .i64 e] 0 false)) ∧
      Arg fCell.rep ((K.set (h.next + 1) (.row zeroState 0 false)).set (h.next + 2) (.row [.int .i64 e] 0 false)) vc (buildR l).cells ∧ Arg rRow ((K.set (h.next + 1) (.row zeroState 0 false)).set (h.next + 2) (.row [.int .i64 e] 0 false)) vr (buildR l).rows :=
    fun K e hK he h0 => build_end0 he h0 (((hE0.trans hK).set (by omega)).set (by omega))
  have L1 : ∀ K, Ext H0 K → cellAt K h.next 0 = some v := fun K e => cellAt_row ((e.get _ (by omega)).trans hA0)
  have c1 := L1 H0 (.refl _)
  by_cases hn : l = []
  · have hn1 : (((l.length : Nat) : Int) = 0) = True := eq_true (by rw [hn]; rfl)
    simp -implicitDefEqProofs (disch := first | omega | (simp -implicitDefEqProofs only [go_sem, List.size_toArray, List.length_cons, List.length_nil, Nat.reduceAdd]; done)) only [go_sem, Int.reduceLT, Int.reduceLE, Int.reduceEq, reduceIte, true_and, Nat.zero_add, Nat.add_zero, Option.map_some, c26, hvc, next_push, ← hH0, c1, el, hn1, bd_state0, hz _ hB0, hz2 _ _ _ hC0]
    refine ret_at (res_cc ?_ ?_ ((get_set_other _ _ (by omega)).trans (get_set_same _ _)) (get_set_same _ _)) (hend H0 221 (.refl _) (by rw [hn]; exact build_nil) (by decide))
    · simp -implicitDefEqProofs (disch := first | omega | (simp -implicitDefEqProofs only [go_sem, List.size_toArray, List.length_cons, List.length_nil, Nat.reduceAdd]; done)) only [go_sem, Int.reduceLT, Int.reduceLE, Int.reduceEq, reduceIte, true_and, Nat.zero_add, Nat.add_zero, Option.map_some]
    · simp -implicitDefEqProofs (disch := first | omega | (simp -implicitDefEqProofs only [go_sem, List.size_toArray, List.length_cons, List.length_nil, Nat.reduceAdd]; done)) only [go_sem, Int.reduceLT, Int.reduceLE, Int.reduceEq, reduceIte, true_and, Nat.zero_add, Nat.add_zero, Option.map_some]
  have hn0 : ((l.length : Nat) : Int) ≠ 0 := by
    cases l with
    | nil => exact absurd rfl hn
    | cons x l => simp; omega
  simp -implicitDefEqProofs (disch := first | omega | (simp -implicitDefEqProofs only [go_sem, List.size_toArray, List.length_cons, List.length_nil, Nat.reduceAdd]; done)) only [go_sem, Int.reduceLT, Int.reduceLE, Int.reduceEq, reduceIte, true_and, Nat.zero_add, Nat.add_zero, Option.map_some, c26, hvc, next_push, ← hH0, c1, el, hn0]
  refine XLoop_cut (fun s => s.df = [] ∧ s.rd = none ∧ s.fr 1 = some (.pointer (some ⟨h.next, 0, none⟩)) ∧ s.fr 2 = some (.pointer (some ⟨h.next + 1, 0, none⟩)) ∧ s.fr 3 = some (.pointer (some ⟨h.next + 2, 0, none⟩)) ∧ goodL l l.length ∧ ∃ vb, s.fr 4 = some vb ∧ Made fU8 H0 s.h vb (dataOf l)) ?_ ?_
  · refine xloop (σ := Nat) (by kernel_rfl) (fun i s => s.df = [] ∧ s.rd = none ∧ s.fr 1 = some (.pointer (some ⟨h.next, 0, none⟩)) ∧ s.fr 2 = some (.pointer (some ⟨h.next + 1, 0, none⟩)) ∧ s.fr 3 = some (.pointer (some ⟨h.next + 2, 0, none⟩)) ∧ s.fr 15 = some v ∧ s.fr 16 = some (.int .i64 (l.length : Nat)) ∧ s.fr 17 = some (.int .i64 (i : Nat)) ∧ i ≤ l.length ∧ goodL l i ∧ ∃ vb, s.fr 4 = some vb ∧ Made fU8 H0 s.h vb (dataOf (l.take i))) (fun i => l.length - i) 0 ?_ ?_
    · simp -implicitDefEqProofs (disch := first | omega | (simp -implicitDefEqProofs only [go_sem, List.size_toArray, List.length_cons, List.length_nil, Nat.reduceAdd]; done)) only [go_sem, Int.reduceLT, Int.reduceLE, Int.reduceEq, reduceIte, true_and, Nat.zero_add, Nat.add_zero, Option.map_some]
      exact ⟨rfl, Nat.zero_le _, goodL_0, _, rfl, .nil _ (.refl _)⟩
    · rintro i ⟨fr, df, hh, rd⟩ K' hK' hX ⟨rfl, hrd, f1, f2, f3, f15, f16, f17, hi, hg, vb, f4, hm⟩
      simp only at hrd f1 f2 f3 f15 f16 f17 f4 hm
      subst hrd
      have hE := hm.ext
      by_cases hc1 : ((i : Nat) : Int) < (l.length : Nat)
      case neg =>
        have hi2 : i = l.length := by omega
        simp -implicitDefEqProofs (disch := first | omega | (simp -implicitDefEqProofs only [go_sem, List.size_toArray, List.length_cons, List.length_nil, Nat.reduceAdd]; done)) only [go_sem, Int.reduceLT, Int.reduceLE, Int.reduceEq, reduceIte, true_and, Nat.zero_add, Nat.add_zero, Option.map_some, f16, f17, hc1]
        refine hX _ _ (by simp) ?_
        rw [hi2, List.take_length] at hm
        exact ⟨rfl, rfl, by simp -implicitDefEqProofs (disch := first | omega | (simp -implicitDefEqProofs only [go_sem, List.size_toArray, List.length_cons, List.length_nil, Nat.reduceAdd]; done)) only [go_sem, Int.reduceLT, Int.reduceLE, Int.reduceEq, reduceIte, true_and, Nat.zero_add, Nat.add_zero, Option.map_some, f1], by simp -implicitDefEqProofs (disch := first | omega | (simp -implicitDefEqProofs only [go_sem, List.size_toArray, List.length_cons, List.length_nil, Nat.reduceAdd]; done)) only [go_sem, Int.reduceLT, Int.reduceLE, Int.reduceEq, reduceIte, true_and, Nat.zero_add, Nat.add_zero, Option.map_some, f2], by simp -implicitDefEqProofs (disch := first | omega | (simp -implicitDefEqProofs only [go_sem, List.size_toArray, List.length_cons, List.length_nil, Nat.reduceAdd]; done)) only [go_sem, Int.reduceLT, Int.reduceLE, Int.reduceEq, reduceIte, true_and, Nat.zero_add, Nat.add_zero, Option.map_some, f3], by rw [hi2] at hg; exact hg, vb, by simp -implicitDefEqProofs (disch := first | omega | (simp -implicitDefEqProofs only [go_sem, List.size_toArray, List.length_cons, List.length_nil, Nat.reduceAdd]; done)) only [go_sem, Int.reduceLT, Int.reduceLE, Int.reduceEq, reduceIte, true_and, Nat.zero_add, Nat.add_zero, Option.map_some, f4], hm⟩
      have hj : i < l.length := by omega
      have hEE := hE0.trans hE
      have hx : l[i]? = some l[i] := get_of_lt hj
      obtain ⟨id, o, w, g1, _, _, _, _, _, c4, hs, k1, k2, k3⟩ := part_cells (hv.ext hEE) hx
      have hsl := hs.isSlice
      have hst : [Value.int .i64 l[i].slot, .int .i64 l[i].index, .int .i64 l[i].many, w].all Value.oneCell' = true := by obtain ⟨_, _, rfl⟩ := hsl; rfl
      have hwc := hs.cells1
      obtain ⟨K1, hK1⟩ : ∃ K1, K1 = hh.push (.row [.int .i64 l[i].slot, .int .i64 l[i].index, .int .i64 l[i].many, w] 0 false) := ⟨_, rfl⟩
      have hE1 : Ext hh K1 := by rw [hK1]; exact Ext.push1 _ _
      have hmK := hm.on hE1
      have hEK := hmK.ext
      have gp : K1.get hh.next = some (.row [.int .i64 l[i].slot, .int .i64 l[i].index, .int .i64 l[i].many, w] 0 false) := by rw [hK1]; exact get_push_same _ _
      have hwi : IntKind.i64.wrap ((i : Int) + 1) = ((i + 1 : Nat) : Int) := by rw [wrap_i64_in (by omega) (by omega)]; omega
      simp -implicitDefEqProofs (disch := first | omega | (simp -implicitDefEqProofs only [go_sem, List.size_toArray, List.length_cons, List.length_nil, Nat.reduceAdd]; done)) only [go_sem, Int.reduceLT, Int.reduceLE, Int.reduceEq, reduceIte, true_and, Nat.zero_add, Nat.add_zero, Option.map_some, f15, f16, f17, hc1, g1, c4, store4_push hst, hwc, ← hK1]
      refine NC.mono (build_head (i := i) (l := l) (v := v) (b1 := h.next) (p := hh.next) (hv.ext (hE0.trans hEK)) hl hx (by simp -implicitDefEqProofs (disch := first | omega | (simp -implicitDefEqProofs only [go_sem, List.size_toArray, List.length_cons, List.length_nil, Nat.reduceAdd]; done)) only [go_sem, Int.reduceLT, Int.reduceLE, Int.reduceEq, reduceIte, true_and, Nat.zero_add, Nat.add_zero, Option.map_some, f1]) (by simp -implicitDefEqProofs (disch := first | omega | (simp -implicitDefEqProofs only [go_sem, List.size_toArray, List.length_cons, List.length_nil, Nat.reduceAdd]; done)) only [go_sem, Int.reduceLT, Int.reduceLE, Int.reduceEq, reduceIte, true_and, Nat.zero_add, Nat.add_zero, Option.map_some]) (by simp -implicitDefEqProofs (disch := first | omega | (simp -implicitDefEqProofs only [go_sem, List.size_toArray, List.length_cons, List.length_nil, Nat.reduceAdd]; done)) only [go_sem, Int.reduceLT, Int.reduceLE, Int.reduceEq, reduceIte, true_and, Nat.zero_add, Nat.add_zero, Option.map_some]) (L1 _ hEK) (cellAt_row gp) (cellAt_row gp) (cellAt_row gp)) ?_
      rintro e ⟨fr1, df1, hh1, rd1⟩ hM
      cases e <;> try exact hM.elim
      obtain ⟨rfl, rfl, rfl, ⟨r1, r2, r3, r4, r6, r15, r16, r17⟩, b, r41, hb⟩ := hM
      simp only at r1 r2 r3 r4 r6 r15 r16 r17 r41
      have s1 := r1.trans (show _ = some (.pointer (some ⟨h.next, 0, none⟩)) by simp -implicitDefEqProofs (disch := first | omega | (simp -implicitDefEqProofs only [go_sem, List.size_toArray, List.length_cons, List.length_nil, Nat.reduceAdd]; done)) only [go_sem, Int.reduceLT, Int.reduceLE, Int.reduceEq, reduceIte, true_and, Nat.zero_add, Nat.add_zero, Option.map_some, f1])
      have s2 := r2.trans (show _ = some (.pointer (some ⟨h.next + 1, 0, none⟩)) by simp -implicitDefEqProofs (disch := first | omega | (simp -implicitDefEqProofs only [go_sem, List.size_toArray, List.length_cons, List.length_nil, Nat.reduceAdd]; done)) only [go_sem, Int.reduceLT, Int.reduceLE, Int.reduceEq, reduceIte, true_and, Nat.zero_add, Nat.add_zero, Option.map_some, f2])
      have s3 := r3.trans (show _ = some (.pointer (some ⟨h.next + 2, 0, none⟩)) by simp -implicitDefEqProofs (disch := first | omega | (simp -implicitDefEqProofs only [go_sem, List.size_toArray, List.length_cons, List.length_nil, Nat.reduceAdd]; done)) only [go_sem, Int.reduceLT, Int.reduceLE, Int.reduceEq, reduceIte, true_and, Nat.zero_add, Nat.add_zero, Option.map_some, f3])
      have s4 := r4.trans (show _ = some vb by simp -implicitDefEqProofs (disch := first | omega | (simp -implicitDefEqProofs only [go_sem, List.size_toArray, List.length_cons, List.length_nil, Nat.reduceAdd]; done)) only [go_sem, Int.reduceLT, Int.reduceLE, Int.reduceEq, reduceIte, true_and, Nat.zero_add, Nat.add_zero, Option.map_some, f4])
      have s6 := r6.trans (show _ = some (.pointer (some ⟨hh.next, 0, none⟩)) by simp -implicitDefEqProofs (disch := first | omega | (simp -implicitDefEqProofs only [go_sem, List.size_toArray, List.length_cons, List.length_nil, Nat.reduceAdd]; done)) only [go_sem, Int.reduceLT, Int.reduceLE, Int.reduceEq, reduceIte, true_and, Nat.zero_add, Nat.add_zero, Option.map_some])
      have s15 := r15.trans (show _ = some v by simp -implicitDefEqProofs (disch := first | omega | (simp -implicitDefEqProofs only [go_sem, List.size_toArray, List.length_cons, List.length_nil, Nat.reduceAdd]; done)) only [go_sem, Int.reduceLT, Int.reduceLE, Int.reduceEq, reduceIte, true_and, Nat.zero_add, Nat.add_zero, Option.map_some, f15])
      have s16 := r16.trans (show _ = some (.int .i64 (l.length : Nat)) by simp -implicitDefEqProofs (disch := first | omega | (simp -implicitDefEqProofs only [go_sem, List.size_toArray, List.length_cons, List.length_nil, Nat.reduceAdd]; done)) only [go_sem, Int.reduceLT, Int.reduceLE, Int.reduceEq, reduceIte, true_and, Nat.zero_add, Nat.add_zero, Option.map_some, f16])
      have s17 := r17.trans (show _ = some (.int .i64 (i : Nat)) by simp -implicitDefEqProofs (disch := first | omega | (simp -implicitDefEqProofs only [go_sem, List.size_toArray, List.length_cons, List.length_nil, Nat.reduceAdd]; done)) only [go_sem, Int.reduceLT, Int.reduceLE, Int.reduceEq, reduceIte, true_and, Nat.zero_add, Nat.add_zero, Option.map_some, f17])
      have hBK : hh1.get (h.next + 1) = some (.row zeroState 0 false) := (hEK.get _ (by omega)).trans hB0
      have hCK : hh1.get (h.next + 2) = some (.row [.int .i64 0] 0 false) := (hEK.get _ (by omega)).trans hC0
      cases b with
      | true =>
        have hbad : ¬ goodP l i l[i] := fun hh => by cases hb.2 hh
        simp -implicitDefEqProofs (disch := first | omega | (simp -implicitDefEqProofs only [go_sem, List.size_toArray, List.length_cons, List.length_nil, Nat.reduceAdd]; done)) only [go_sem, Int.reduceLT, Int.reduceLE, Int.reduceEq, reduceIte, true_and, Nat.zero_add, Nat.add_zero, Option.map_some, r41, s2, s3, bd_state0, hz _ hBK, hz2 _ _ _ hCK]
        refine hX _ _ (by simp) ?_
        simp -implicitDefEqProofs (disch := first | omega | (simp -implicitDefEqProofs only [go_sem, List.size_toArray, List.length_cons, List.length_nil, Nat.reduceAdd]; done)) only [go_sem, Int.reduceLT, Int.reduceLE, Int.reduceEq, reduceIte, true_and, Nat.zero_add, Nat.add_zero, Option.map_some]
        refine ret_at (res_cc ?_ ?_ ((get_set_other _ _ (by omega)).trans (get_set_same _ _)) (get_set_same _ _)) (hend _ 221 hEK (build_bad hx hbad) (by decide))
        · simp -implicitDefEqProofs (disch := first | omega | (simp -implicitDefEqProofs only [go_sem, List.size_toArray, List.length_cons, List.length_nil, Nat.reduceAdd]; done)) only [go_sem, Int.reduceLT, Int.reduceLE, Int.reduceEq, reduceIte, true_and, Nat.zero_add, Nat.add_zero, Option.map_some, s2]
        · simp -implicitDefEqProofs (disch := first | omega | (simp -implicitDefEqProofs only [go_sem, List.size_toArray, List.length_cons, List.length_nil, Nat.reduceAdd]; done)) only [go_sem, Int.reduceLT, Int.reduceLE, Int.reduceEq, reduceIte, true_and, Nat.zero_add, Nat.add_zero, Option.map_some, s3]
      | false =>
        have hgo := hb.1 rfl
        have hdl : (dataOf (l.take i)).length + l[i].data.length ≤ 1048576 := by
          have h1 := dataOf_take_le (l := l) (i := i + 1)
          rw [dataOf_take hx, List.length_append] at h1
          omega
        obtain ⟨v2, h2, e2, m2, _⟩ := hmK.append app_22 (hs.ext hE1) (by omega) (by decide)
        have C3 : cellAt hh1 hh.next 3 = some w := cellAt_row gp
        simp -implicitDefEqProofs (disch := first | omega | (simp -implicitDefEqProofs only [go_sem, List.size_toArray, List.length_cons, List.length_nil, Nat.reduceAdd]; done)) only [go_sem, Int.reduceLT, Int.reduceLE, Int.reduceEq, reduceIte, true_and, Nat.zero_add, Nat.add_zero, Option.map_some, r41, s4, s6, C3, e2, s17, hwi]
        refine hK' (i + 1) _ ?_ (by omega)
        refine ⟨by trivial, by trivial, by simp -implicitDefEqProofs (disch := first | omega | (simp -implicitDefEqProofs only [go_sem, List.size_toArray, List.length_cons, List.length_nil, Nat.reduceAdd]; done)) only [go_sem, Int.reduceLT, Int.reduceLE, Int.reduceEq, reduceIte, true_and, Nat.zero_add, Nat.add_zero, Option.map_some, s1], by simp -implicitDefEqProofs (disch := first | omega | (simp -implicitDefEqProofs only [go_sem, List.size_toArray, List.length_cons, List.length_nil, Nat.reduceAdd]; done)) only [go_sem, Int.reduceLT, Int.reduceLE, Int.reduceEq, reduceIte, true_and, Nat.zero_add, Nat.add_zero, Option.map_some, s2], by simp -implicitDefEqProofs (disch := first | omega | (simp -implicitDefEqProofs only [go_sem, List.size_toArray, List.length_cons, List.length_nil, Nat.reduceAdd]; done)) only [go_sem, Int.reduceLT, Int.reduceLE, Int.reduceEq, reduceIte, true_and, Nat.zero_add, Nat.add_zero, Option.map_some, s3], by simp -implicitDefEqProofs (disch := first | omega | (simp -implicitDefEqProofs only [go_sem, List.size_toArray, List.length_cons, List.length_nil, Nat.reduceAdd]; done)) only [go_sem, Int.reduceLT, Int.reduceLE, Int.reduceEq, reduceIte, true_and, Nat.zero_add, Nat.add_zero, Option.map_some, s15], by simp -implicitDefEqProofs (disch := first | omega | (simp -implicitDefEqProofs only [go_sem, List.size_toArray, List.length_cons, List.length_nil, Nat.reduceAdd]; done)) only [go_sem, Int.reduceLT, Int.reduceLE, Int.reduceEq, reduceIte, true_and, Nat.zero_add, Nat.add_zero, Option.map_some, s16], by simp -implicitDefEqProofs (disch := first | omega | (simp -implicitDefEqProofs only [go_sem, List.size_toArray, List.length_cons, List.length_nil, Nat.reduceAdd]; done)) only [go_sem, Int.reduceLT, Int.reduceLE, Int.reduceEq, reduceIte, true_and, Nat.zero_add, Nat.add_zero, Option.map_some], by omega, goodL_succ hg hx hgo, v2, by simp -implicitDefEqProofs (disch := first | omega | (simp -implicitDefEqProofs only [go_sem, List.size_toArray, List.length_cons, List.length_nil, Nat.reduceAdd]; done)) only [go_sem, Int.reduceLT, Int.reduceLE, Int.reduceEq, reduceIte, true_and, Nat.zero_add, Nat.add_zero, Option.map_some], ?_⟩
        rw [dataOf_take hx]
        exact m2
  · rintro ⟨fr, df, hh, rd⟩ ⟨rfl, hrd, f1, f2, f3, hg, vb, f4, hm⟩
    simp only at hrd f1 f2 f3 f4 hm
    subst hrd
    have hE := hm.ext
    have hEn := hE.next
    simp -implicitDefEqProofs (disch := first | omega | (simp -implicitDefEqProofs only [go_sem, List.size_toArray, List.length_cons, List.length_nil, Nat.reduceAdd]; done)) only [go_sem, Int.reduceLT, Int.reduceLE, Int.reduceEq, reduceIte, true_and, Nat.zero_add, Nat.add_zero, Option.map_some, f4]
    refine ncall_ct (stParse_s hm.arg (by omega)) ?_
    rintro r h2 ⟨vc, vr, rfl, hE2, hc', hr'⟩
    have hst := parse_state (l := dataOf l)
    obtain ⟨p1, p2, p3⟩ := parseR_rows (dataOf l)
    obtain ⟨st, hst'⟩ : ∃ st, parseR id (dataOf l) = st := ⟨_, rfl⟩
    rw [hst'] at hc' hr' p1 p2 p3 hst
    have hone : [Value.int .i64 st.slot, vc, vr].all Value.oneCell' = true := by
      obtain ⟨_, _, rfl⟩ := hc'.isSlice
      obtain ⟨_, _, rfl⟩ := hr'.isSlice
      rfl
    have hE2n := hE2.next
    obtain ⟨H2, hH2⟩ : ∃ H, H = h2.push (.row [.int .i64 st.slot, vc, vr] 0 false) := ⟨_, rfl⟩
    have hE3 : Ext h2 H2 := by rw [hH2]; exact Ext.push1 _ _
    have hE4 := hE.trans (hE2.trans hE3)
    have g2 : H2.get h2.next = some (.row [.int .i64 st.slot, vc, vr] 0 false) := by rw [hH2]; exact get_push_same _ _
    have hH2n : H2.next = h2.next + 1 := by rw [hH2]; rfl
    by_cases he : parseE id (dataOf l) = 0
    case neg =>
      have hBK : H2.get (h.next + 1) = some (.row zeroState 0 false) := (hE4.get _ (by omega)).trans hB0
      have hCK : H2.get (h.next + 2) = some (.row [.int .i64 0] 0 false) := (hE4.get _ (by omega)).trans hC0
      simp -implicitDefEqProofs (disch := first | omega | (simp -implicitDefEqProofs only [go_sem, List.size_toArray, List.length_cons, List.length_nil, Nat.reduceAdd]; done)) only [go_sem, Int.reduceLT, Int.reduceLE, Int.reduceEq, reduceIte, true_and, Nat.zero_add, Nat.add_zero, Option.map_some, XEnd, hst', zero3 (K := h2) hone, ← hH2, he, f2, f3, bd_state0, hz _ hBK, hz2 _ _ _ hCK]
      refine ret_at (res_cc ?_ ?_ ((get_set_other _ _ (by omega)).trans (get_set_same _ _)) (get_set_same _ _)) (hend _ _ hE4 (build_err hn hg he) he)
      · simp -implicitDefEqProofs (disch := first | omega | (simp -implicitDefEqProofs only [go_sem, List.size_toArray, List.length_cons, List.length_nil, Nat.reduceAdd]; done)) only [go_sem, Int.reduceLT, Int.reduceLE, Int.reduceEq, reduceIte, true_and, Nat.zero_add, Nat.add_zero, Option.map_some, f2]
      · simp -implicitDefEqProofs (disch := first | omega | (simp -implicitDefEqProofs only [go_sem, List.size_toArray, List.length_cons, List.length_nil, Nat.reduceAdd]; done)) only [go_sem, Int.reduceLT, Int.reduceLE, Int.reduceEq, reduceIte, true_and, Nat.zero_add, Nat.add_zero, Option.map_some, f3]
    have te := eq_true he
    obtain ⟨H3, hH3⟩ : ∃ H, H = H2.push (.row [.int .i64 0] 0 false) := ⟨_, rfl⟩
    have hE5 : Ext H2 H3 := by rw [hH3]; exact Ext.push1 _ _
    have hH3n : H3.next = h2.next + 2 := by rw [hH3, next_push, hH2n]
    have g3 : H3.get (h2.next + 1) = some (.row [.int .i64 0] 0 false) := by rw [hH3, ← hH2n]; exact get_push_same _ _
    have g2' : H3.get h2.next = some (.row [.int .i64 st.slot, vc, vr] 0 false) := (hE5.get _ (by omega)).trans g2
    have l2 : cellsAt H3 h2.next 0 3 = some (stateV st.slot vc vr) := by rw [cellsAt_row g2' (Nat.le_of_ble_eq_true rfl)]; rfl
    have z3 : storeAt (H2.push (.row [.int .i64 0] 0 false)) H2.next 0 [.int .i64 0] = some H3 := by rw [hH3]; exact storeAll_push rfl rfl
    simp -implicitDefEqProofs (disch := first | omega | (simp -implicitDefEqProofs only [go_sem, List.size_toArray, List.length_cons, List.length_nil, Nat.reduceAdd]; done)) only [go_sem, Int.reduceLT, Int.reduceLE, Int.reduceEq, reduceIte, true_and, Nat.zero_add, Nat.add_zero, Option.map_some, XEnd, hst', zero3 (K := h2) hone, ← hH2, te, z3, l2]
    have hE23 := hE3.trans hE5
    refine ncall_ct (parts_c (n := st.slot) (cells := st.cells) (rows := st.rows) (hst he) (hc'.mono fun j hj => ⟨by omega, hE23.get j hj.2⟩) (hr'.mono fun j hj => ⟨by omega, hE23.get j hj.2⟩) (by omega) (by omega)) ?_
    rintro r h3 ⟨cc, vp, rfl, hE6, hc1, hc2, hcc, hvp⟩
    have hE6n := hE6.next
    have hE7 : Ext H0 h3 := hE4.trans (hE5.trans hE6)
    obtain ⟨ps, hps⟩ : ∃ ps, partsS ⟨st.slot, st.cells, st.rows⟩ = ps := ⟨_, rfl⟩
    have hps2 : partsS (parseR id (dataOf l)) = ps := by rw [hst']; exact hps
    rw [hps] at hvp
    obtain ⟨n1, n2⟩ := partsS_len ⟨st.slot, st.cells, st.rows⟩
    rw [hps] at n1 n2
    have gA : h3.get (h.next + 1) = some (.row zeroState 0 false) := (hE7.get _ (by omega)).trans hB0
    have gB : h3.get (h.next + 2) = some (.row [.int .i64 0] 0 false) := (hE7.get _ (by omega)).trans hC0
    have gV : h3.get h.next = some (.row [v] 0 false) := (hE7.get _ (by omega)).trans hA0
    have gC : h3.get H2.next = some (.row [.int .i64 0] 0 false) := (hE6.get _ (by omega)).trans (by rw [hH2n]; exact g3)
    have g7 : h3.get h2.next = some (.row [.int .i64 st.slot, vc, vr] 0 false) := (hE6.get _ (by omega)).trans g2'
    have hEhh := hE0.trans hE7
    simp -implicitDefEqProofs (disch := first | omega | (simp -implicitDefEqProofs only [go_sem, List.size_toArray, List.length_cons, List.length_nil, Nat.reduceAdd]; done)) only [go_sem, Int.reduceLT, Int.reduceLE, Int.reduceEq, reduceIte, true_and, Nat.zero_add, Nat.add_zero, Option.map_some, XEnd]
    refine build_loop (a := h.next + 1) (b := h.next + 2) (c := H2.next) (b1 := h.next) (cc := cc) (v := v) (vp := vp) (ps := ps) (l := l) hl n1 n2 (by simp -implicitDefEqProofs (disch := first | omega | (simp -implicitDefEqProofs only [go_sem, List.size_toArray, List.length_cons, List.length_nil, Nat.reduceAdd]; done)) only [go_sem, Int.reduceLT, Int.reduceLE, Int.reduceEq, reduceIte, true_and, Nat.zero_add, Nat.add_zero, Option.map_some, f1]) (by simp -implicitDefEqProofs (disch := first | omega | (simp -implicitDefEqProofs only [go_sem, List.size_toArray, List.length_cons, List.length_nil, Nat.reduceAdd]; done)) only [go_sem, Int.reduceLT, Int.reduceLE, Int.reduceEq, reduceIte, true_and, Nat.zero_add, Nat.add_zero, Option.map_some, f2]) (by simp -implicitDefEqProofs (disch := first | omega | (simp -implicitDefEqProofs only [go_sem, List.size_toArray, List.length_cons, List.length_nil, Nat.reduceAdd]; done)) only [go_sem, Int.reduceLT, Int.reduceLE, Int.reduceEq, reduceIte, true_and, Nat.zero_add, Nat.add_zero, Option.map_some, f3]) (by simp -implicitDefEqProofs (disch := first | omega | (simp -implicitDefEqProofs only [go_sem, List.size_toArray, List.length_cons, List.length_nil, Nat.reduceAdd]; done)) only [go_sem, Int.reduceLT, Int.reduceLE, Int.reduceEq, reduceIte, true_and, Nat.zero_add, Nat.add_zero, Option.map_some]) (by simp -implicitDefEqProofs (disch := first | omega | (simp -implicitDefEqProofs only [go_sem, List.size_toArray, List.length_cons, List.length_nil, Nat.reduceAdd]; done)) only [go_sem, Int.reduceLT, Int.reduceLE, Int.reduceEq, reduceIte, true_and, Nat.zero_add, Nat.add_zero, Option.map_some]) (by omega) gV (hv.mono fun j hj => ⟨by omega, hEhh.get j hj⟩) gA gB gC (by omega) hcc (hvp.mono fun j hj => ⟨by omega, rfl⟩) (fun H s => ?_) (fun H s => ?_)
    · generalize hHf : H.set (h3.next + 1) _ = Hf
      have oth : ∀ j, j ≠ h3.next + 1 → Hf.get j = H.get j := fun j hj => by rw [← hHf]; exact get_set_other _ _ hj
      have fA : Hf.get (h.next + 1) = some (.row zeroState 0 false) := (oth _ (by omega)).trans s.ga
      have fB : Hf.get (h.next + 2) = some (.row [.int .i64 0] 0 false) := (oth _ (by omega)).trans s.gb
      have fC : Hf.get H2.next = some (.row [.int .i64 (ps.length : Nat)] 0 false) := (oth _ (by omega)).trans s.gc
      have fV : Hf.get h.next = some (.row [v] 0 false) := (oth _ (by omega)).trans ((s.r.old _ (by omega) (by unfold bldIds; omega)).trans gV)
      have f7 : Hf.get h2.next = some (.row [.int .i64 st.slot, vc, vr] 0 false) := (oth _ (by omega)).trans ((s.r.old _ (by omega) (by unfold bldIds; omega)).trans g7)
      have fM : Hf.get h3.next = some (.marks true) := (oth _ (by omega)).trans s.r.mrk
      have hEf : Ext h Hf := by rw [← hHf]; exact (s.r.below hEhh fun j hj => by unfold bldIds at hj; omega).set (by omega)
      have k1 : cellAt Hf h.next 0 = some v := cellAt_row fV
      have k2 : cellAt Hf H2.next 0 = some (.int .i64 (ps.length : Nat)) := cellAt_row fC
      by_cases hpl : ps.length = l.length
      case neg =>
        have hpl' : ¬ (((ps.length : Nat) : Int) = (l.length : Nat)) := by omega
        simp -implicitDefEqProofs (disch := first | omega | (simp -implicitDefEqProofs only [go_sem, List.size_toArray, List.length_cons, List.length_nil, Nat.reduceAdd]; done)) only [go_sem, Int.reduceLT, Int.reduceLE, Int.reduceEq, reduceIte, true_and, Nat.zero_add, Nat.add_zero, Option.map_some, f1, f2, f3, k1, k2, el, hpl', bd_state0, hz _ fA, hz2 _ _ _ fB]
        refine XLv_mark ((get_set_other _ _ (by omega)).trans ((get_set_other _ _ (by omega)).trans fM)) ?_
        simp -implicitDefEqProofs (disch := first | omega | (simp -implicitDefEqProofs only [go_sem, List.size_toArray, List.length_cons, List.length_nil, Nat.reduceAdd]; done)) only [go_sem, Int.reduceLT, Int.reduceLE, Int.reduceEq, reduceIte, true_and, Nat.zero_add, Nat.add_zero, Option.map_some]
        refine ret_at (res_cc ?_ ?_ ((get_set_other _ _ (by omega)).trans ((get_set_other _ _ (by omega)).trans (get_set_same _ _))) ((get_set_other _ _ (by omega)).trans (get_set_same _ _))) (build_end0 (build_not hn hg he (by rw [hps2]; exact fun h => hpl (by rw [h]))) (by decide) (((hEf.set (by omega)).set (by omega)).set (by omega)))
        · simp -implicitDefEqProofs (disch := first | omega | (simp -implicitDefEqProofs only [go_sem, List.size_toArray, List.length_cons, List.length_nil, Nat.reduceAdd]; done)) only [go_sem, Int.reduceLT, Int.reduceLE, Int.reduceEq, reduceIte, true_and, Nat.zero_add, Nat.add_zero, Option.map_some, f2]
        · simp -implicitDefEqProofs (disch := first | omega | (simp -implicitDefEqProofs only [go_sem, List.size_toArray, List.length_cons, List.length_nil, Nat.reduceAdd]; done)) only [go_sem, Int.reduceLT, Int.reduceLE, Int.reduceEq, reduceIte, true_and, Nat.zero_add, Nat.add_zero, Option.map_some, f3]
      have hpl' : (((ps.length : Nat) : Int) = (l.length : Nat)) = True := eq_true (by omega)
      have hpe : ps = l := List.ext_getElem? fun j => by
        by_cases hj : j < l.length
        · have hx := get_of_lt (l := ps) (i := j) (by omega)
          obtain ⟨y, hy, e1, e2⟩ := s.so j _ (by omega) hx
          obtain ⟨_, e3, e4⟩ := hg j y hj hy
          have e5 := partsS_at (s := parseR id (dataOf l)) (by rw [hps2]; exact hx)
          rw [hps2] at e5
          rw [hx, hy, part_ext e1 (by rw [e5.1, e4]) (by rw [e5.2, e3, hpl]) e2]
        · rw [List.getElem?_eq_none (by omega), List.getElem?_eq_none (by omega)]
      have hok := build_ok hn hg he (by rw [hps2]; exact hpe)
      have hrs : buildR l = st := (buildR_yes hok).trans hst'
      have k7 : cellsAt Hf h2.next 0 3 = some (stateV st.slot vc vr) := by rw [cellsAt_row f7 (Nat.le_of_ble_eq_true rfl)]; rfl
      have w1 := storeAt_row (o := 0) (vs := [.int .i64 st.slot, vc, vr]) fA (Nat.le_of_ble_eq_true rfl) hone
      have e1 : Hf.set (h.next + 1) (.row (setAt zeroState 0 [.int .i64 st.slot, vc, vr]) 0 false) = Hf.set (h.next + 1) (.row [.int .i64 st.slot, vc, vr] 0 false) := rfl
      rw [e1] at w1
      simp -implicitDefEqProofs (disch := first | omega | (simp -implicitDefEqProofs only [go_sem, List.size_toArray, List.length_cons, List.length_nil, Nat.reduceAdd]; done)) only [go_sem, Int.reduceLT, Int.reduceLE, Int.reduceEq, reduceIte, true_and, Nat.zero_add, Nat.add_zero, Option.map_some, f1, f2, f3, k1, k2, el, hpl', k7, w1, hz2 _ _ _ fB]
      refine XLv_mark ((get_set_other _ _ (by omega)).trans ((get_set_other _ _ (by omega)).trans fM)) ?_
      simp -implicitDefEqProofs (disch := first | omega | (simp -implicitDefEqProofs only [go_sem, List.size_toArray, List.length_cons, List.length_nil, Nat.reduceAdd]; done)) only [go_sem, Int.reduceLT, Int.reduceLE, Int.reduceEq, reduceIte, true_and, Nat.zero_add, Nat.add_zero, Option.map_some]
      have fin : ∀ j, hh.next ≤ j → j < h2.next → (((Hf.set (h.next + 1) (.row [.int .i64 st.slot, vc, vr] 0 false)).set (h.next + 2) (.row [.int .i64 0] 0 false)).set h3.next (.marks false)).get j = h2.get j := fun j j1 j2 => by
        rw [get_set_other _ _ (by omega), get_set_other _ _ (by omega), get_set_other _ _ (by omega), oth _ (by omega), s.r.old _ (by omega) (by unfold bldIds; omega), hE6.get _ (by omega), hE23.get _ j2]
      have hfn : h2.next ≤ (((Hf.set (h.next + 1) (.row [.int .i64 st.slot, vc, vr] 0 false)).set (h.next + 2) (.row [.int .i64 0] 0 false)).set h3.next (.marks false)).next := by
        have := s.r.nx
        rw [next_set, next_set, next_set, ← hHf, next_set]
        omega
      refine ret_at (res_cc (n := st.slot) (vc := vc) (vr := vr) (e := 0) ?_ ?_ ((get_set_other _ _ (by omega)).trans ((get_set_other _ _ (by omega)).trans (get_set_same _ _))) ((get_set_other _ _ (by omega)).trans (get_set_same _ _))) ⟨vc, vr, by rw [hrs, hok], (((hEf.set (by omega)).set (by omega)).set (by omega)), ?_, ?_⟩
      · simp -implicitDefEqProofs (disch := first | omega | (simp -implicitDefEqProofs only [go_sem, List.size_toArray, List.length_cons, List.length_nil, Nat.reduceAdd]; done)) only [go_sem, Int.reduceLT, Int.reduceLE, Int.reduceEq, reduceIte, true_and, Nat.zero_add, Nat.add_zero, Option.map_some, f2]
      · simp -implicitDefEqProofs (disch := first | omega | (simp -implicitDefEqProofs only [go_sem, List.size_toArray, List.length_cons, List.length_nil, Nat.reduceAdd]; done)) only [go_sem, Int.reduceLT, Int.reduceLE, Int.reduceEq, reduceIte, true_and, Nat.zero_add, Nat.add_zero, Option.map_some, f3]
      · rw [hrs]
        exact hc'.mono fun j hj => ⟨Nat.lt_of_lt_of_le hj.2 hfn, fin j hj.1 hj.2⟩
      · rw [hrs]
        exact hr'.mono fun j hj => ⟨Nat.lt_of_lt_of_le hj.2 hfn, fin j hj.1 hj.2⟩
    · generalize hHf : H.set (h3.next + 1) _ = Hf
      have oth : ∀ j, j ≠ h3.next + 1 → Hf.get j = H.get j := fun j hj => by rw [← hHf]; exact get_set_other _ _ hj
      have hEf : Ext h Hf := by rw [← hHf]; exact (s.r.below hEhh fun j hj => by unfold bldIds at hj; omega).set (by omega)
      have fA : Hf.get (h.next + 1) = some (.row zeroState 0 false) := (oth _ (by omega)).trans s.ga
      have fB : Hf.get (h.next + 2) = some (.row [.int .i64 221] 0 false) := (oth _ (by omega)).trans s.gb
      have fM : Hf.get h3.next = some (.marks true) := (oth _ (by omega)).trans s.r.mrk
      simp -implicitDefEqProofs (disch := first | omega | (simp -implicitDefEqProofs only [go_sem, List.size_toArray, List.length_cons, List.length_nil, Nat.reduceAdd]; done)) only [go_sem, Int.reduceLT, Int.reduceLE, Int.reduceEq, reduceIte, true_and, Nat.zero_add, Nat.add_zero, Option.map_some]
      refine XLv_mark fM ?_
      simp -implicitDefEqProofs (disch := first | omega | (simp -implicitDefEqProofs only [go_sem, List.size_toArray, List.length_cons, List.length_nil, Nat.reduceAdd]; done)) only [go_sem, Int.reduceLT, Int.reduceLE, Int.reduceEq, reduceIte, true_and, Nat.zero_add, Nat.add_zero, Option.map_some]
      refine ret_at (res_cc ?_ ?_ ((get_set_other _ _ (by omega)).trans fA) ((get_set_other _ _ (by omega)).trans fB)) (build_end0 (build_not hn hg he (by rw [hps2]; exact s.ne)) (by decide) (hEf.set (by omega)))
      · simp -implicitDefEqProofs (disch := first | omega | (simp -implicitDefEqProofs only [go_sem, List.size_toArray, List.length_cons, List.length_nil, Nat.reduceAdd]; done)) only [go_sem, Int.reduceLT, Int.reduceLE, Int.reduceEq, reduceIte, true_and, Nat.zero_add, Nat.add_zero, Option.map_some, f2]
      · simp -implicitDefEqProofs (disch := first | omega | (simp -implicitDefEqProofs only [go_sem, List.size_toArray, List.length_cons, List.length_nil, Nat.reduceAdd]; done)) only [go_sem, Int.reduceLT, Int.reduceLE, Int.reduceEq, reduceIte, true_and, Nat.zero_add, Nat.add_zero, Option.map_some, f3]
end Go.Proofs.Ytlhgijpdhniddaa

namespace Go.Proofs.Ytlhgijpdhniddaa
open Go.D
set_option maxRecDepth 100000

end Go.Proofs.Ytlhgijpdhniddaa

namespace Go.Proofs.Ytlhgijpdhniddaa
open Go.D
set_option maxRecDepth 100000

/-- marks that are left at a function's end -/
def MarkDf (h : DHeap) (df : List DDef) (H : DHeap) : Prop := df = [] ∨ ∃ id, df = [.mark id] ∧ H.get id = some (.marks true) ∧ h.next ≤ id ∧ id < H.next
theorem MarkDf.ext {h H H' : DHeap} {df : List DDef} (m : MarkDf h df H) (e : Ext H H') : MarkDf h df H' := by
  rcases m with m | ⟨id, m, g, hi, hl⟩
  · exact .inl m
  · exact .inr ⟨id, m, (e.get _ hl).trans g, hi, Nat.lt_of_lt_of_le hl e.next⟩
theorem back_end {h H : DHeap} {df : List DDef} {fr : Fr} (m : MarkDf h df H) (e : Ext h H) (f4 : fr 4 = some (.bool true)) :
    XLv Try.prog [.tmp 4] fr (fun r h1 => r = .ret (.bool true) ∧ Ext h h1) df .ret H := by
  rcases m with rfl | ⟨id, rfl, g, hi, hl⟩
  · simp -implicitDefEqProofs (disch := first | omega | (simp -implicitDefEqProofs only [go_sem, List.size_toArray, List.length_cons, List.length_nil, Nat.reduceAdd]; done)) only [go_sem, Int.reduceLT, Int.reduceLE, Int.reduceEq, reduceIte, true_and, Nat.zero_add, Nat.add_zero, Option.map_some, f4]
    exact ⟨_, rfl, rfl, e⟩
  · refine XLv_mark g ?_
    simp -implicitDefEqProofs (disch := first | omega | (simp -implicitDefEqProofs only [go_sem, List.size_toArray, List.length_cons, List.length_nil, Nat.reduceAdd]; done)) only [go_sem, Int.reduceLT, Int.reduceLE, Int.reduceEq, reduceIte, true_and, Nat.zero_add, Nat.add_zero, Option.map_some, f4]
    exact ⟨_, rfl, rfl, e.set hi⟩
set_option maxHeartbeats 1000000 in
theorem back_c {h : DHeap} {n : Int} {cv rv b : Value} {cells : List Cell} {rows : List Row} {l : List Int} (hn : inK .i64 n) (hc : Arg fCell.rep h cv cells) (hr : Arg rRow h rv rows) (hb : Arg fU8.rep h b l) (hlc : cells.length ≤ 1048576) (hlr : rows.length ≤ 1048576) (hv : ∀ r ∈ rows, r.x.vs.length ≤ 1048576) (hl : l.length ≤ 1048576) :
    DC Try.prog 9 [stateV n cv rv, b] h (.ret (.bool true)) h := by
  refine Ct.pure (go_9 (by simp) ?_) (vin_bool _)
  have c1 := hc.cells1
  have r1 := hr.cells1
  have hok := state_ok hn hc hr
  obtain ⟨H0, hH0⟩ : ∃ H, H = h.push (.row [.int .i64 n, cv, rv] 0 false) := ⟨_, rfl⟩
  have hE0 : Ext h H0 := by rw [hH0]; exact Ext.push1 _ _
  have hB0 : H0.get h.next = some (.row [.int .i64 n, cv, rv] 0 false) := by rw [hH0]; exact get_push_same _ _
  have hH0n : H0.next = h.next + 1 := by rw [hH0]; rfl
  have L0 : ∀ K, Ext H0 K → cellsAt K h.next 0 3 = some (stateV n cv rv) := fun K e => by rw [cellsAt_row ((e.get _ (by omega)).trans hB0) (Nat.le_of_ble_eq_true rfl)]; rfl
  have l0 := L0 H0 (.refl _)
  unfold c9
  refine xs_cut (fun s => s.df = [] ∧ s.rd = none ∧ s.fr 1 = some b ∧ s.fr 2 = some (.pointer (some ⟨h.next, 0, none⟩)) ∧ s.h = H0) ?_ ?_
  · simp -implicitDefEqProofs (disch := first | omega | (simp -implicitDefEqProofs only [go_sem, List.size_toArray, List.length_cons, List.length_nil, Nat.reduceAdd]; done)) only [go_sem, Int.reduceLT, Int.reduceLE, Int.reduceEq, reduceIte, true_and, Nat.zero_add, Nat.add_zero, Option.map_some, ← hH0]
  rintro ⟨fr, df, hh, rd⟩ ⟨rfl, hrd, f1, f2, rfl⟩
  simp only at hrd f1 f2
  subst hrd
  refine xs_cut (fun s => s.df = [] ∧ s.rd = none ∧ s.fr 1 = some b ∧ s.fr 2 = some (.pointer (some ⟨h.next, 0, none⟩)) ∧ s.h = hh) ?_ ?_
  · simp -implicitDefEqProofs (disch := first | omega | (simp -implicitDefEqProofs only [go_sem, List.size_toArray, List.length_cons, List.length_nil, Nat.reduceAdd]; done)) only [go_sem, Int.reduceLT, Int.reduceLE, Int.reduceEq, reduceIte, true_and, Nat.zero_add, Nat.add_zero, Option.map_some]
    refine ncall begun_c ?_
    simp -implicitDefEqProofs (disch := first | omega | (simp -implicitDefEqProofs only [go_sem, List.size_toArray, List.length_cons, List.length_nil, Nat.reduceAdd]; done)) only [go_sem, Int.reduceLT, Int.reduceLE, Int.reduceEq, reduceIte, true_and, Nat.zero_add, Nat.add_zero, Option.map_some]
    exact ⟨f1, f2, trivial⟩
  clear f1 f2
  rintro ⟨fr, df, hh2, rd⟩ ⟨rfl, hrd, f1, f2, rfl⟩
  simp only at hrd f1 f2
  subst hrd
  refine xs_cut (fun s => s.rd = none ∧ s.fr 1 = some b ∧ Ext h s.h ∧ MarkDf h s.df s.h) ?_ ?_
  · have l0 := L0 hh2 (.refl _)
    simp -implicitDefEqProofs (disch := first | omega | (simp -implicitDefEqProofs only [go_sem, List.size_toArray, List.length_cons, List.length_nil, Nat.reduceAdd]; done)) only [go_sem, Int.reduceLT, Int.reduceLE, Int.reduceEq, reduceIte, true_and, Nat.zero_add, Nat.add_zero, Option.map_some, f2, l0]
    refine ncall_ct (bytes_c hn (hc.ext hE0) (hr.ext hE0) (by omega) (by omega)) ?_
    rintro r h1 ⟨v1, rfl, hE1, ha⟩
    have l1 := L0 h1 hE1
    by_cases h0 : bytesE ⟨n, cells, rows⟩ = 0
    case neg =>
      have hEE := hE0.trans hE1
      simp -implicitDefEqProofs (disch := first | omega | (simp -implicitDefEqProofs only [go_sem, List.size_toArray, List.length_cons, List.length_nil, Nat.reduceAdd]; done)) only [go_sem, Int.reduceLT, Int.reduceLE, Int.reduceEq, reduceIte, true_and, Nat.zero_add, Nat.add_zero, Option.map_some, XEnd, h0, f2, l1]
      refine ncall (check_c hn (hc.ext hEE) (hr.ext hEE) (by omega) (by omega)) ?_
      unfold checkE
      rcases bytesE_not h0 with hm | h3
      · simp -implicitDefEqProofs (disch := first | omega | (simp -implicitDefEqProofs only [go_sem, List.size_toArray, List.length_cons, List.length_nil, Nat.reduceAdd]; done)) only [go_sem, Int.reduceLT, Int.reduceLE, Int.reduceEq, reduceIte, true_and, Nat.zero_add, Nat.add_zero, Option.map_some, hm, dPick_f]
        exact ⟨f1, hEE, .inl rfl⟩
      · cases hm : mayB ⟨n, cells, rows⟩ with
        | false =>
          simp -implicitDefEqProofs (disch := first | omega | (simp -implicitDefEqProofs only [go_sem, List.size_toArray, List.length_cons, List.length_nil, Nat.reduceAdd]; done)) only [go_sem, Int.reduceLT, Int.reduceLE, Int.reduceEq, reduceIte, true_and, Nat.zero_add, Nat.add_zero, Option.map_some, dPick_f]
          exact ⟨f1, hEE, .inl rfl⟩
        | true =>
          simp -implicitDefEqProofs (disch := first | omega | (simp -implicitDefEqProofs only [go_sem, List.size_toArray, List.length_cons, List.length_nil, Nat.reduceAdd]; done)) only [go_sem, Int.reduceLT, Int.reduceLE, Int.reduceEq, reduceIte, true_and, Nat.zero_add, Nat.add_zero, Option.map_some, h3, dPick_t]
          exact ⟨f1, hEE, .inl rfl⟩
    obtain ⟨hm, hlen, hbl⟩ := bytes0_of h0
    rw [hbl] at ha
    obtain ⟨b1, b2, b3, b4⟩ := build_parts hok h0
    simp -implicitDefEqProofs (disch := first | omega | (simp -implicitDefEqProofs only [go_sem, List.size_toArray, List.length_cons, List.length_nil, Nat.reduceAdd]; done)) only [go_sem, Int.reduceLT, Int.reduceLE, Int.reduceEq, reduceIte, true_and, Nat.zero_add, Nat.add_zero, Option.map_some, XEnd, h0]
    refine ncall_ct (stParse_c ha (by omega)) ?_
    rintro r h2 ⟨vc, vr, rfl, hE2, hcp, hrp⟩
    rw [b3, b4]
    rw [b4] at hcp hrp
    simp only at hcp hrp
    have hone : [Value.int .i64 n, vc, vr].all Value.oneCell' = true := by
      obtain ⟨_, _, rfl⟩ := hcp.isSlice
      obtain ⟨_, _, rfl⟩ := hrp.isSlice
      rfl
    obtain ⟨H2, hH2⟩ : ∃ H, H = h2.push (.row [.int .i64 n, vc, vr] 0 false) := ⟨_, rfl⟩
    have hE3 : Ext h2 H2 := by rw [hH2]; exact Ext.push1 _ _
    obtain ⟨H3, hH3⟩ : ∃ H, H = H2.push (.row [.slice none 0 0] 0 false) := ⟨_, rfl⟩
    have hE4 : Ext H2 H3 := by rw [hH3]; exact Ext.push1 _ _
    have hEa := hE1.trans (hE2.trans (hE3.trans hE4))
    have l3 := L0 H3 hEa
    have hH2n : H2.next = h2.next + 1 := by rw [hH2]; rfl
    have hH3n : H3.next = h2.next + 2 := by rw [hH3, next_push, hH2n]
    have n1 := hE1.next
    have n2 := hE2.next
    have g2 : H2.get h2.next = some (.row [.int .i64 n, vc, vr] 0 false) := by rw [hH2]; exact get_push_same _ _
    have g3 : H3.get H2.next = some (.row [.slice none 0 0] 0 false) := by rw [hH3]; exact get_push_same _ _
    have hE0a := hE0.trans hEa
    simp -implicitDefEqProofs (disch := first | omega | (simp -implicitDefEqProofs only [go_sem, List.size_toArray, List.length_cons, List.length_nil, Nat.reduceAdd]; done)) only [go_sem, Int.reduceLT, Int.reduceLE, Int.reduceEq, reduceIte, true_and, Nat.zero_add, Nat.add_zero, Option.map_some, XEnd, zero3 (K := h2) hone, ← hH2, ← hH3, f2, l3]
    refine ncall_ct (parts_c hn (hc.ext hE0a) (hr.ext hE0a) (by omega) (by omega)) ?_
    rintro r h3 ⟨cc, vp, rfl, hE5, hc1, hc2, hcc, hvp⟩
    have n5 := hE5.next
    obtain ⟨ps, hps⟩ : ∃ ps, partsS ⟨n, cells, rows⟩ = ps := ⟨_, rfl⟩
    obtain ⟨u1, u2⟩ := partsS_len ⟨n, cells, rows⟩
    have hdl : (dataOf ps).length ≤ 1048576 := by
      have : partsS ⟨n, cells, rows⟩ = partsL n (stateB ⟨n, cells, rows⟩) := by unfold partsS; rw [if_pos h0]
      rw [← hps, this, dataOf_parts]
      exact hlen
    rw [hps] at hvp b1 b2 u1 u2
    simp -implicitDefEqProofs (disch := first | omega | (simp -implicitDefEqProofs only [go_sem, List.size_toArray, List.length_cons, List.length_nil, Nat.reduceAdd]; done)) only [go_sem, Int.reduceLT, Int.reduceLE, Int.reduceEq, reduceIte, true_and, Nat.zero_add, Nat.add_zero, Option.map_some, XEnd]
    refine back_loop (c := H2.next) (cc := cc) (vp := vp) (ps := ps) u1 u2 (by simp -implicitDefEqProofs (disch := first | omega | (simp -implicitDefEqProofs only [go_sem, List.size_toArray, List.length_cons, List.length_nil, Nat.reduceAdd]; done)) only [go_sem, Int.reduceLT, Int.reduceLE, Int.reduceEq, reduceIte, true_and, Nat.zero_add, Nat.add_zero, Option.map_some]) (by simp -implicitDefEqProofs (disch := first | omega | (simp -implicitDefEqProofs only [go_sem, List.size_toArray, List.length_cons, List.length_nil, Nat.reduceAdd]; done)) only [go_sem, Int.reduceLT, Int.reduceLE, Int.reduceEq, reduceIte, true_and, Nat.zero_add, Nat.add_zero, Option.map_some]) (by omega) ((hE5.get _ (by omega)).trans g3) (by omega) hcc (hvp.mono fun j hj => ⟨by omega, rfl⟩) (fun H s => ?_)
    generalize hHf : H.set (h3.next + 1) _ = Hf
    obtain ⟨rr, vl, S, u, gl, ol, hS, hu⟩ := s
    have nr := rr.nx
    have oth : ∀ j, j ≠ h3.next + 1 → Hf.get j = H.get j := fun j hj => by rw [← hHf]; exact get_set_other _ _ hj
    have nf : Hf.next = H.next := by rw [← hHf]; rfl
    have hEf : Ext H2 Hf := by rw [← hHf]; exact (rr.below (hE4.trans hE5) fun j hj => by rw [hj]; exact Nat.le_refl _).set (by omega)
    have hM : Hf.get h3.next = some (.marks true) := (oth _ (by omega)).trans rr.mrk
    have hla : Arg rPart Hf vl ps := by
      have o2 := ol.arg fun j hj => (hS j hj).2.1
      have hol := ol.lt
      rw [List.take_length] at ol
      refine ol.sl.mono fun j hj => ?_
      have : h3.next + 2 ≤ j ∧ j < H.next := by
        rcases hj with hj | hj
        · exact ⟨(hS j hj).1, (hS j hj).2.1⟩
        · exact ⟨hu j hj, hol j hj⟩
      exact ⟨by omega, oth _ (by omega)⟩
    have k9 : cellAt Hf H2.next 0 = some vl := cellAt_row ((oth _ (by omega)).trans gl)
    have hEx : Ext hh2 Hf := (hE1.trans (hE2.trans hE3)).trans hEf
    simp -implicitDefEqProofs (disch := first | omega | (simp -implicitDefEqProofs only [go_sem, List.size_toArray, List.length_cons, List.length_nil, Nat.reduceAdd]; done)) only [go_sem, Int.reduceLT, Int.reduceLE, Int.reduceEq, reduceIte, true_and, Nat.zero_add, Nat.add_zero, Option.map_some, k9]
    refine ncall_ct (build_c hla (by omega) hdl) ?_
    rintro r h4 ⟨vc', vr', rfl, hE6, hcb, hrb⟩
    rw [b1, b2]
    rw [b2] at hcb hrb
    simp only at hcb hrb
    have hone' : [Value.int .i64 n, vc', vr'].all Value.oneCell' = true := by
      obtain ⟨_, _, rfl⟩ := hcb.isSlice
      obtain ⟨_, _, rfl⟩ := hrb.isSlice
      rfl
    obtain ⟨H5, hH5⟩ : ∃ H, H = h4.push (.row [.int .i64 n, vc', vr'] 0 false) := ⟨_, rfl⟩
    have hE7 : Ext h4 H5 := by rw [hH5]; exact Ext.push1 _ _
    have hE67 := hE6.trans hE7
    have g5 : H5.get h4.next = some (.row [.int .i64 n, vc', vr'] 0 false) := by rw [hH5]; exact get_push_same _ _
    have m2 : cellsAt H5 h.next 0 3 = some (stateV n cv rv) := L0 H5 (hEx.trans hE67)
    have m7 : cellsAt H5 h2.next 0 3 = some (stateV n vc vr) := by rw [cellsAt_row (((hEf.trans hE67).get _ (by omega)).trans g2) (Nat.le_of_ble_eq_true rfl)]; rfl
    have m11 : cellsAt H5 h4.next 0 3 = some (stateV n vc' vr') := by rw [cellsAt_row g5 (Nat.le_of_ble_eq_true rfl)]; rfl
    have hE8 := hE0.trans (hEx.trans hE67)
    have hE9 := hE3.trans (hEf.trans hE67)
    have ss : sameState ⟨n, cells, rows⟩ ⟨n, cells, rows⟩ = true := sameState_refl _
    simp -implicitDefEqProofs (disch := first | omega | (simp -implicitDefEqProofs only [go_sem, List.size_toArray, List.length_cons, List.length_nil, Nat.reduceAdd]; done)) only [go_sem, Int.reduceLT, Int.reduceLE, Int.reduceEq, reduceIte, true_and, Nat.zero_add, Nat.add_zero, Option.map_some, XEnd, zero3 (K := h4) hone', ← hH5, f2, dPick_f, m2, m7]
    refine ncall (same_c (hc.ext hE8) (hr.ext hE8) (hcp.ext hE9) (hrp.ext hE9) (by omega) (by omega) (fun r hr => by have := hv r hr; omega)) ?_
    rw [ss]
    simp -implicitDefEqProofs (disch := first | omega | (simp -implicitDefEqProofs only [go_sem, List.size_toArray, List.length_cons, List.length_nil, Nat.reduceAdd]; done)) only [go_sem, Int.reduceLT, Int.reduceLE, Int.reduceEq, reduceIte, true_and, Nat.zero_add, Nat.add_zero, Option.map_some, dPick_f, f2, m2, m11]
    refine ncall (same_c (hc.ext hE8) (hr.ext hE8) (hcb.ext hE7) (hrb.ext hE7) (by omega) (by omega) (fun r hr => by have := hv r hr; omega)) ?_
    rw [ss]
    simp -implicitDefEqProofs (disch := first | omega | (simp -implicitDefEqProofs only [go_sem, List.size_toArray, List.length_cons, List.length_nil, Nat.reduceAdd]; done)) only [go_sem, Int.reduceLT, Int.reduceLE, Int.reduceEq, reduceIte, true_and, Nat.zero_add, Nat.add_zero, Option.map_some, dPick_f]
    refine ⟨f1, hE8, .inr ⟨_, rfl, (hE67.get _ (by omega)).trans hM, Nat.le_trans hE0a.next n5, Nat.lt_of_lt_of_le (Nat.lt_of_lt_of_le (Nat.lt_add_of_pos_right (Nat.succ_pos 1)) (Nat.le_trans nr (Nat.le_of_eq nf.symm))) hE67.next⟩⟩
  -- the bytes
  rintro ⟨fr, df, hh3, rd⟩ ⟨hrd, f1, hE, hm⟩
  simp only at hrd f1 hE hm
  subst hrd
  simp -implicitDefEqProofs (disch := first | omega | (simp -implicitDefEqProofs only [go_sem, List.size_toArray, List.length_cons, List.length_nil, Nat.reduceAdd]; done)) only [go_sem, Int.reduceLT, Int.reduceLE, Int.reduceEq, reduceIte, true_and, Nat.zero_add, Nat.add_zero, Option.map_some, f1]
  refine ncall_ct (stParse_c (hb.ext hE) (by omega)) ?_
  rintro r h1 ⟨vc, vr, rfl, hE1, hcp, hrp⟩
  have hone : [Value.int .i64 (parseR id l).slot, vc, vr].all Value.oneCell' = true := by
    obtain ⟨_, _, rfl⟩ := hcp.isSlice
    obtain ⟨_, _, rfl⟩ := hrp.isSlice
    rfl
  obtain ⟨H1, hH1⟩ : ∃ H, H = h1.push (.row [.int .i64 (parseR id l).slot, vc, vr] 0 false) := ⟨_, rfl⟩
  have hE2 : Ext h1 H1 := by rw [hH1]; exact Ext.push1 _ _
  have g1 : H1.get h1.next = some (.row [.int .i64 (parseR id l).slot, vc, vr] 0 false) := by rw [hH1]; exact get_push_same _ _
  have l1 : cellsAt H1 h1.next 0 3 = some (stateV (parseR id l).slot vc vr) := by rw [cellsAt_row g1 (Nat.le_of_ble_eq_true rfl)]; rfl
  by_cases he : parseE id l = 0
  case neg =>
    simp -implicitDefEqProofs (disch := first | omega | (simp -implicitDefEqProofs only [go_sem, List.size_toArray, List.length_cons, List.length_nil, Nat.reduceAdd]; done)) only [go_sem, Int.reduceLT, Int.reduceLE, Int.reduceEq, reduceIte, true_and, Nat.zero_add, Nat.add_zero, Option.map_some, XEnd, zero3 (K := h1) hone, ← hH1, he]
    exact back_end (hm.ext (hE1.trans hE2)) (hE.trans (hE1.trans hE2)) (by simp -implicitDefEqProofs (disch := first | omega | (simp -implicitDefEqProofs only [go_sem, List.size_toArray, List.length_cons, List.length_nil, Nat.reduceAdd]; done)) only [go_sem, Int.reduceLT, Int.reduceLE, Int.reduceEq, reduceIte, true_and, Nat.zero_add, Nat.add_zero, Option.map_some])
  have te := eq_true he
  obtain ⟨p1, p2, p3⟩ := parseR_rows l
  obtain ⟨q1, q2⟩ := bytes_again (fun x hx => inK_u8.1 (hb.ok x hx)) hl he
  simp -implicitDefEqProofs (disch := first | omega | (simp -implicitDefEqProofs only [go_sem, List.size_toArray, List.length_cons, List.length_nil, Nat.reduceAdd]; done)) only [go_sem, Int.reduceLT, Int.reduceLE, Int.reduceEq, reduceIte, true_and, Nat.zero_add, Nat.add_zero, Option.map_some, XEnd, zero3 (K := h1) hone, ← hH1, te, l1]
  refine ncall_ct (bytes_c (n := (parseR id l).slot) (cells := (parseR id l).cells) (rows := (parseR id l).rows) (parse_state he) (hcp.ext hE2) (hrp.ext hE2) (by omega) (by omega)) ?_
  rintro r h2 ⟨vb, rfl, hE3, hvb⟩
  have q1' : bytesE ⟨(parseR id l).slot, (parseR id l).cells, (parseR id l).rows⟩ = 0 := q1
  have q2' : bytesL ⟨(parseR id l).slot, (parseR id l).cells, (parseR id l).rows⟩ = l := q2
  rw [q1']
  rw [q2'] at hvb
  have hE4 := hE1.trans (hE2.trans hE3)
  simp -implicitDefEqProofs (disch := first | omega | (simp -implicitDefEqProofs only [go_sem, List.size_toArray, List.length_cons, List.length_nil, Nat.reduceAdd]; done)) only [go_sem, Int.reduceLT, Int.reduceLE, Int.reduceEq, reduceIte, true_and, Nat.zero_add, Nat.add_zero, Option.map_some, XEnd, f1, dPick_t]
  refine ncall (bytesEqual_c hvb (hb.ext (hE.trans hE4))) ?_
  simp -implicitDefEqProofs (disch := first | omega | (simp -implicitDefEqProofs only [go_sem, List.size_toArray, List.length_cons, List.length_nil, Nat.reduceAdd]; done)) only [go_sem, Int.reduceLT, Int.reduceLE, Int.reduceEq, reduceIte, true_and, Nat.zero_add, Nat.add_zero, Option.map_some, dPick_t, dPick_f, f1]
  exact back_end (hm.ext hE4) (hE.trans hE4) (by simp -implicitDefEqProofs (disch := first | omega | (simp -implicitDefEqProofs only [go_sem, List.size_toArray, List.length_cons, List.length_nil, Nat.reduceAdd]; done)) only [go_sem, Int.reduceLT, Int.reduceLE, Int.reduceEq, reduceIte, true_and, Nat.zero_add, Nat.add_zero, Option.map_some])
end Go.Proofs.Ytlhgijpdhniddaa

namespace Go.Proofs.Ytlhgijpdhniddaa.lawBack
open Go.D
open Go.ChangeShapes Go.WideShapes Go.ChangeAt Go.RowKit
theorem own : ownKnob Try.prog.godebug = none := by kernel_rfl
set_option maxRecDepth 100000 in
theorem lifted (os : Os) (started : os.Started) (H : Type) (enc : TypeId × Value → H) (F : Stop.Interp) :
    ReturnsInHanded {} Try.checked os 9 .any ((Rows.OpenSpec.upto Rows.stateBackSpec).pre6 enc Try.prog Try.f9 Rows.stateBackUptoRow.domain false) (((Rows.OpenSpec.upto Rows.stateBackSpec).at F).post enc Try.prog Try.f9 false true false false) := by
  refine returnsInHanded_of_cond (C := Try.checked) (s := Rows.OpenSpec.upto Rows.stateBackSpec) (k := Rows.uptoSmall) rfl own started (by kernel_rfl) Try.func9
    (OpenSpec.witness (enc := enc) (C := Try.checked) (s := Rows.OpenSpec.upto Rows.stateBackSpec) (k := Rows.uptoSmall) rfl false ⟨#[], #[.agg #[.int .i64 0, .slice none 0 0, .slice none 0 0], .slice none 0 0], []⟩ 8 (by kernel_rfl) (by kernel_rfl) (by kernel_rfl)
      (x := ([.agg [.lit (.int .i64 0), .nil, .nil], .nil], [], [])) (by kernel_rfl) rfl (by kernel_rfl)) ?_
  intro W base args ds gs before hval hW _ hk _
  refine law_kept (by kernel_rfl)
    (.cons (agg := true) par_state lay_state (.cons (agg := false) par_bytes lay_bytes .nil)) (tb := 4) (by kernel_rfl) (by kernel_rfl) rfl (fun ds hl => ?_) (fun h vs x hng hq hB => ?_) W base args ds gs before hval hW hk
  · match ds, hl with
    | [d0, d1], _ => rfl
  · obtain ⟨cs, vs1, rfl, h1, cs2, vs2, rfl, ⟨v, rfl, hv⟩, rfl⟩ := hq
    obtain ⟨vc, vr, rfl, k1, k2, k3⟩ := state_in h1
    obtain ⟨m1, m2, m3⟩ := bulk_state x.1
    have m4 := sumB_len (fun _ => 1) x.2.1
    exact (back_c k1 k2 k3 hv (by omega) (by omega) (fun r hr => by have := m3 r hr; omega) (by omega)).ct rfl
theorem p1 : Try.pinned.checked.prog.funcNamed Rows.stateBackUptoRow.func = some 9 := by kernel_rfl
theorem p2 : joinedFacts Try.pinned.checked.prog 9 Try.f9 (Rows.OpenSpec.upto Rows.stateBackSpec).bare Rows.stateBackUptoRow = true := by kernel_rfl
theorem p3 : Try.f9.isInstance Try.pinned.checked.prog Rows.stateBackUptoRow.origin Rows.stateBackUptoRow.targs := of_decide_eq_true (by kernel_rfl)
theorem p4 : Try.f9.isWrapper Try.pinned.checked.prog Rows.stateBackUptoRow.wrapper Rows.stateBackUptoRow.mainSum := by unfold Func.isWrapper; first | (rw [if_pos (by decide +kernel)]; kernel_rfl) | (rw [if_neg (by decide +kernel)]; exact ⟨rfl, rfl⟩)
theorem proved : Rows.StateBackUptoSaid :=
  OpenClaim.holds_of_cond 9 Try.f9 rfl rfl rfl rfl rfl rfl rfl ⟨rfl, rfl, rfl, rfl, rfl⟩ rfl rfl rfl rfl rfl p1 Try.func9 p2 p3 p4
    (fun os started H enc _ F => lifted os started H enc F)
end Go.Proofs.Ytlhgijpdhniddaa.lawBack
