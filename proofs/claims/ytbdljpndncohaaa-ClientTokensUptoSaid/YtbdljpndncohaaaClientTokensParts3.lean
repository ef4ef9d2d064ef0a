/-
ClientTokens: for every input of bulk at most 1048576 the law returns true, and the input reads as it did. Conditions: none.
-/
import Derived.Sort.Statements
import Derived.Test.YtbdljpndncohaaaRows
import Derived.WalkKit
import Derived.ProofKit
import Derived.OpenShut
import Derived.JoinedCond
import Derived.Test.YtbdljpndncohaaaBase1
import Derived.Test.YtbdljpndncohaaaBase2
import Derived.Test.YtbdljpndncohaaaClientTokensParts1
import Derived.Test.YtbdljpndncohaaaClientTokensParts2
set_option linter.unusedSimpArgs false
set_option linter.unusedVariables false
namespace Go.Proofs.Ytbdljpndncohaaa
open Go.D
open Go.Sort
set_option maxRecDepth 100000

theorem keyLt_iff {a b : Key} : keyLt a b = true ↔ a.t < b.t ∨ (a.t = b.t ∧ a.r < b.r) := by simp [keyLt]
theorem keyLt_irr (a : Key) : keyLt a a = false := by
  cases h : keyLt a a with
  | false => rfl
  | true => have := keyLt_iff.1 h; omega
theorem keyLt_trans {a b c : Key} (h : keyLt a b = true) (g : keyLt b c = true) : keyLt a c = true := by
  rw [keyLt_iff] at *; omega
theorem keyLt_asym {a b : Key} (h : keyLt a b = true) : keyLt b a = false := by
  cases g : keyLt b a with
  | false => rfl
  | true => rw [keyLt_iff] at h g; omega
theorem key_ext {a b : Key} (h : a.t = b.t) (g : a.r = b.r) : a = b := by cases a; cases b; simp at h g; simp [h, g]
theorem keyLt_total {a b : Key} (h : keyLt a b = false) (hn : a ≠ b) : keyLt b a = true := by
  rw [keyLt_iff]
  have h' : ¬ (a.t < b.t ∨ (a.t = b.t ∧ a.r < b.r)) := fun hh => by rw [keyLt_iff.2 hh] at h; cases h
  by_cases ht : a.t = b.t
  · have : a.r ≠ b.r := fun hr => hn (key_ext ht hr)
    omega
  · omega
theorem keyLt_swo : SWO keyLt where
  irrefl := keyLt_irr
  trans := fun _ _ _ h g => keyLt_trans h g
  ntrans := fun x y z h g => by
    cases k : keyLt x z with
    | false => rfl
    | true =>
      have h' : ¬ (x.t < y.t ∨ (x.t = y.t ∧ x.r < y.r)) := fun hh => by rw [keyLt_iff.2 hh] at h; cases h
      have g' : ¬ (y.t < z.t ∨ (y.t = z.t ∧ y.r < z.r)) := fun hh => by rw [keyLt_iff.2 hh] at g; cases g
      have := keyLt_iff.1 k
      omega
/-- the keys rise, each once -/
abbrev UpK (l : List Key) : Prop := l.Pairwise fun a b => keyLt a b = true
theorem up_eq : ∀ {l m : List Key}, UpK l → UpK m → (∀ x, x ∈ l ↔ x ∈ m) → l = m
  | [], [], _, _, _ => rfl
  | [], y :: m, _, _, h => absurd ((h y).2 List.mem_cons_self) (by simp)
  | x :: l, [], _, _, h => absurd ((h x).1 List.mem_cons_self) (by simp)
  | x :: l, y :: m, hl, hm, h => by
    obtain ⟨hx, hl'⟩ := List.pairwise_cons.1 hl
    obtain ⟨hy, hm'⟩ := List.pairwise_cons.1 hm
    have e : x = y := by
      rcases List.mem_cons.1 ((h x).1 List.mem_cons_self) with e | e
      · exact e
      · rcases List.mem_cons.1 ((h y).2 List.mem_cons_self) with e' | e'
        · exact e'.symm
        · have a := hx y e'
          rw [keyLt_asym (hy x e)] at a
          cases a
    subst e
    refine congrArg (x :: ·) (up_eq hl' hm' fun z => ⟨fun hz => ?_, fun hz => ?_⟩)
    · rcases List.mem_cons.1 ((h z).1 (List.mem_cons_of_mem _ hz)) with e | e
      · subst e; have := hx z hz; rw [keyLt_irr] at this; cases this
      · exact e
    · rcases List.mem_cons.1 ((h z).2 (List.mem_cons_of_mem _ hz)) with e | e
      · subst e; have := hy z hz; rw [keyLt_irr] at this; cases this
      · exact e
def insK (x : Key) : List Key → List Key
  | [] => [x]
  | y :: l => if keyLt y x = true then y :: insK x l else if y = x then y :: l else x :: y :: l
def keysN (l : List Key) : List Key := l.foldl (fun r x => insK x r) []
theorem mem_insK {x z : Key} : ∀ {l : List Key}, z ∈ insK x l ↔ z = x ∨ z ∈ l
  | [] => by simp [insK]
  | y :: l => by
    unfold insK
    split
    · rw [List.mem_cons, mem_insK, List.mem_cons]
      constructor
      · rintro (h | h | h) <;> simp [h]
      · rintro (h | h | h) <;> simp [h]
    · split
      · rename_i e; subst e
        simp
      · simp
theorem insK_up {x : Key} : ∀ {l : List Key}, UpK l → UpK (insK x l)
  | [], _ => by simp [insK]
  | y :: l, h => by
    obtain ⟨hy, hl⟩ := List.pairwise_cons.1 h
    unfold insK
    split
    · rename_i e
      refine List.pairwise_cons.2 ⟨fun z hz => ?_, insK_up hl⟩
      rcases mem_insK.1 hz with rfl | hz
      · exact e
      · exact hy z hz
    · rename_i e
      split
      · exact h
      · rename_i hn
        have hxy := keyLt_total (by simpa using e) hn
        refine List.pairwise_cons.2 ⟨fun z hz => ?_, h⟩
        rcases List.mem_cons.1 hz with rfl | hz
        · exact hxy
        · exact keyLt_trans hxy (hy z hz)
theorem insK_len {x : Key} : ∀ {l : List Key}, (insK x l).length ≤ l.length + 1
  | [] => by simp [insK]
  | y :: l => by
    unfold insK
    have := insK_len (x := x) (l := l)
    split
    · simp; omega
    · split <;> simp
theorem fold_ins : ∀ (l r : List Key), UpK r → UpK (l.foldl (fun r x => insK x r) r) ∧ ∀ z, z ∈ l.foldl (fun r x => insK x r) r ↔ z ∈ l ∨ z ∈ r
  | [], r, h => by simp [h]
  | x :: l, r, h => by
    obtain ⟨a, b⟩ := fold_ins l (insK x r) (insK_up h)
    refine ⟨a, fun z => ?_⟩
    rw [List.foldl_cons, b z, mem_insK, List.mem_cons]
    constructor
    · rintro (h | h | h) <;> simp [h]
    · rintro ((h | h) | h) <;> simp [h]
theorem keysN_up (l : List Key) : UpK (keysN l) := (fold_ins l [] .nil).1
theorem mem_keysN {l : List Key} {z : Key} : z ∈ keysN l ↔ z ∈ l := by
  have := (fold_ins l [] .nil).2 z
  simpa [keysN] using this
theorem fold_len : ∀ (l r : List Key), (l.foldl (fun r x => insK x r) r).length ≤ l.length + r.length
  | [], r => by simp
  | x :: l, r => by
    have h1 := fold_len l (insK x r)
    have h2 := insK_len (x := x) (l := r)
    simp only [List.foldl_cons, List.length_cons]
    omega
theorem keysN_len (l : List Key) : (keysN l).length ≤ l.length := by simpa [keysN] using fold_len l []
/-- each once, of keys in order -/
def compK : List Key → List Key
  | [] => []
  | [x] => [x]
  | x :: y :: l => if x = y then compK (y :: l) else x :: compK (y :: l)
theorem mem_compK {z : Key} : ∀ {l : List Key}, z ∈ compK l ↔ z ∈ l
  | [] => by simp [compK]
  | [x] => by simp [compK]
  | x :: y :: l => by
    unfold compK
    have := mem_compK (z := z) (l := y :: l)
    split
    · rename_i e; subst e
      rw [this]; simp
    · rw [List.mem_cons, this]; simp
theorem compK_up : ∀ {l : List Key}, l.Pairwise (fun a b => keyLt b a = false) → UpK (compK l)
  | [], _ => by simp [compK]
  | [x], _ => by simp [compK]
  | x :: y :: l, h => by
    obtain ⟨hx, hl⟩ := List.pairwise_cons.1 h
    unfold compK
    split
    · exact compK_up hl
    · rename_i hn
      have hxy := keyLt_total (hx y List.mem_cons_self) (fun e => hn e.symm)
      refine List.pairwise_cons.2 ⟨fun z hz => ?_, compK_up hl⟩
      rcases List.mem_cons.1 (mem_compK.1 hz) with rfl | hz
      · exact hxy
      · have hyz := (List.pairwise_cons.1 hl).1 z hz
        by_cases e : z = y
        · rw [e]; exact hxy
        · exact keyLt_trans hxy (keyLt_total hyz e)
theorem keys_same {l l' : List Key} (hp : l'.Perm l) (hs : l'.Pairwise (fun a b => keyLt b a = false)) : compK l' = keysN l :=
  up_eq (compK_up hs) (keysN_up l) fun z => by rw [mem_compK, mem_keysN, hp.mem_iff]
instance : Inhabited Key := ⟨⟨0, 0⟩⟩
theorem sorted_list {l : List Key} {n : Nat} (hn : n = l.length) (h : SortedIn keyLt 0 n l.toArray) : l.Pairwise (fun a b => keyLt b a = false) := by
  subst hn
  refine List.pairwise_iff_getElem.2 fun i j hi hj hij => ?_
  have := h i j (Nat.zero_le _) hij hj
  simpa [hi, hj] using this
end Go.Proofs.Ytbdljpndncohaaa

namespace Go.Proofs.Ytbdljpndncohaaa
open Go.D
set_option maxRecDepth 100000

theorem _root_.Go.D.Made.base {α : Type} {F : FRep α} {h0 h1 h2 : DHeap} {v : Value} {l : List α} (m : Made F h1 h2 v l) (e : Ext h0 h1) : Made F h0 h2 v l := by
  obtain ⟨w, a, b⟩ := m.own
  exact ⟨e.trans m.ext, w, a, fun i hi => Nat.le_trans e.next (b i hi)⟩
end Go.Proofs.Ytbdljpndncohaaa

namespace Go.D
variable {P : Program} {α : Type}

/-- a row that is a list of flat data -/
def RowIs (F : FRep α) (h : DHeap) (id : Nat) (A : List α) : Prop := h.get id = some (.row (A.flatMap F.enc) F.z false)
theorem setAt_over (vs : List Value) : ∀ (x B : List Value), vs.length = x.length → setAt (x ++ B) 0 vs = vs ++ B := fun x B hl => by
  refine List.ext_getElem? fun i => ?_
  rw [setAt_get]
  by_cases h1 : i < vs.length
  · rw [if_pos ⟨Nat.zero_le _, by omega, by simp; omega⟩, Nat.sub_zero, List.getElem?_append_left h1]
  · rw [if_neg (by omega), List.getElem?_append_right (by omega), List.getElem?_append_right (by omega), hl]
theorem flatMap_set (F : FRep α) {A : List α} {k : Nat} (hk : k < A.length) (x : α) : setAt (A.flatMap F.enc) (k * F.z) (F.enc x) = (A.set k x).flatMap F.enc := by
  have h1 : A.flatMap F.enc = (A.take k).flatMap F.enc ++ (F.enc A[k] ++ (A.drop (k + 1)).flatMap F.enc) := by
    conv => lhs; rw [← List.take_append_drop k A, List.drop_eq_getElem_cons hk]
    rw [List.flatMap_append, List.flatMap_cons]
  have h2 : (A.set k x).flatMap F.enc = (A.take k).flatMap F.enc ++ (F.enc x ++ (A.drop (k + 1)).flatMap F.enc) := by
    rw [List.set_eq_take_append_cons_drop, if_pos hk, List.flatMap_append, List.flatMap_cons]
  have h3 : k * F.z = ((A.take k).flatMap F.enc).length + 0 := by rw [flatMap_len]; simp [Nat.min_eq_left (Nat.le_of_lt hk)]
  rw [h1, h2, h3, setAt_mid, setAt_over _ _ _ (by rw [F.len, F.len])]
theorem RowIs.store {F : FRep α} {h : DHeap} {id k : Nat} {A : List α} (r : RowIs F h id A) (hk : k < A.length) (x : α) : storeAt h id (k * F.z) (F.enc x) = some (h.set id (.row ((A.set k x).flatMap F.enc) F.z false)) := by
  have hm : (k + 1) * F.z ≤ A.length * F.z := Nat.mul_le_mul_right _ hk
  rw [Nat.succ_mul] at hm
  rw [storeAt_row r (by rw [F.len, flatMap_len]; exact hm) ?_, flatMap_set F hk]
  refine List.all_eq_true.2 fun v hv => ?_
  have := List.all_eq_true.1 (F.flat x) v hv
  unfold flat1 at this
  cases v <;> first | rfl | cases this
theorem RowIs.set {F : FRep α} {h : DHeap} {id : Nat} {A : List α} {z : Nat} (hz : z = F.z) : RowIs F (h.set id (.row (A.flatMap F.enc) z false)) id A := by
  subst hz; exact get_set_same _ _
theorem RowIs.sl {F : FRep α} {h : DHeap} {id o n c : Nat} {A : List α} (r : RowIs F h id A) (hn : o + n ≤ A.length) (hok : ∀ x ∈ A, F.ok x) : Sl F.rep (fun i => i = id) h (.slice (some ⟨id, o * F.z, none⟩) n c) ((A.drop o).take n) := by
  have hl : ((A.drop o).take n).length = n := by simp; omega
  have hm : (o + n) * F.z ≤ A.length * F.z := Nat.mul_le_mul_right _ hn
  rw [Nat.add_mul] at hm
  refine .inr ⟨id, o * F.z, c, A.flatMap F.enc, F.z, false, by rw [hl], rfl, r, .inr rfl, ?_, ?_⟩
  · rw [hl, flatMap_len]; exact hm
  · refine Els.flat.2 ⟨?_, fun x hx => hok x (List.mem_of_mem_drop (List.mem_of_mem_take hx))⟩
    rw [hl]
    have h1 : A.flatMap F.enc = (A.take o).flatMap F.enc ++ (((A.drop o).take n).flatMap F.enc ++ (A.drop (o + n)).flatMap F.enc) := by
      rw [← List.flatMap_append, ← List.flatMap_append]
      congr 1
      rw [← List.drop_drop, List.take_append_drop, List.take_append_drop]
    have h2 : o * F.z = ((A.take o).flatMap F.enc).length := by rw [flatMap_len]; simp [Nat.min_eq_left (show o ≤ A.length by omega)]
    have h3 : n * F.rep.z = (((A.drop o).take n).flatMap F.enc).length := by rw [flatMap_len, hl]; rfl
    rw [h1, h2, List.drop_left, h3, List.take_left]
/-- a part of a row -/
theorem dSlice_row {t : TypeId} {z id o n c : Nat} {h : DHeap} {cs : List Value} {lo hi : Option Value} {i j : Nat} (hz : slElem P t = some z) (hp : 0 < z) (hg : h.get id = some (.row cs z false)) (hj : boundOf hi n n = some j) (hi2 : boundOf lo 0 j = some i) :
    dSlice P t (.slice (some ⟨id, o, none⟩) n c) lo hi none h = some (.slice (some ⟨id, o + i * z, none⟩) (j - i) (if j = n ∧ c = n then j - i else j - i + 1)) := by
  unfold slElem at hz
  split at hz
  · rename_i e e1
    cases e2 : P.info? e with
    | none => rw [e2] at hz; cases hz
    | some inf =>
      rw [e2] at hz
      have hsz : inf.size = z := by simpa using hz
      have hfit : rowFits h id inf.size = true := by simp [rowFits, hg, hsz]
      simp only [dSlice, e1, e2]
      rw [if_pos ⟨hfit, by rw [hsz]; exact hp⟩]
      simp only [boundOf] at hj hi2 ⊢
      simp only [hj, hi2, hsz]
  · cases hz
def clElem (P : Program) (t : TypeId) : Option (Nat × Value) :=
  match P.underlying t with
  | some (.slice e) => (P.info? e).bind fun i => i.zero.map fun z => (z.cells.size, z)
  | _ => none
/-- a part that is cleared -/
theorem dClear_row {t : TypeId} {zc id o n c esz : Nat} {zv : Value} {h : DHeap} {cs : List Value} (hz : clElem P t = some (zc, zv)) (hall : zv.cells.toList.all flat1 = true) (hg : h.get id = some (.row cs esz false)) (hl : o + n * zc ≤ cs.length) :
    ∃ zs : List Value, zs.length = n * zc ∧ dClear P #[t] (.slice (some ⟨id, o, none⟩) n c) h = some (.tuple #[], h.set id (.row (setAt cs o zs) esz false)) := by
  unfold clElem at hz
  split at hz
  · rename_i e e1
    cases e2 : P.info? e with
    | none => rw [e2] at hz; cases hz
    | some inf =>
      rw [e2] at hz
      rw [Option.bind_some] at hz
      cases e3 : inf.zero with
      | none => rw [e3] at hz; simp at hz
      | some z =>
        rw [e3] at hz
        simp only [Option.map_some, Option.some.injEq, Prod.mk.injEq] at hz
        obtain ⟨h1, rfl⟩ := hz
        by_cases h0 : n = 0
        · subst h0
          refine ⟨[], by simp, ?_⟩
          simp only [dClear, List.getElem?_toArray, List.getElem?_cons_zero, e1, if_true, setAt, set_self hg]
        · refine ⟨(rowZeros z.cells (n * z.cells.size)).toList, by simp [rowZeros, h1], ?_⟩
          simp only [dClear, List.getElem?_toArray, List.getElem?_cons_zero, e1, if_neg h0, e2, e3, hg]
          rw [if_pos ⟨hall, by rw [h1]; exact hl⟩]
  · cases hz
/-- the head of a row whose rest was cleared -/
theorem sl_head {F : FRep α} {h : DHeap} {id k c : Nat} {B : List α} {cs zs : List Value} (hg : h.get id = some (.row (setAt cs (k * F.z) zs) F.z false)) (hk : k = B.length) (hl : k * F.z ≤ cs.length) (hB : cs.take (k * F.z) = B.flatMap F.enc) (hok : ∀ x ∈ B, F.ok x) : Sl F.rep (fun i => i = id) h (.slice (some ⟨id, 0, none⟩) k c) B := by
  subst hk
  refine .inr ⟨id, 0, c, _, F.z, false, rfl, rfl, hg, .inr rfl, ?_, Els.flat.2 ⟨?_, hok⟩⟩
  · rw [setAt_length]; show 0 + B.length * F.z ≤ _; omega
  · rw [← hB, List.drop_zero]
    refine List.ext_getElem? fun i => ?_
    show (List.take (B.length * F.z) _)[i]? = _
    rw [List.getElem?_take, List.getElem?_take, setAt_get]
    split
    · rw [if_neg (by omega)]
    · rfl
end Go.D

namespace Go.Proofs.Ytbdljpndncohaaa
open Go.D
set_option maxRecDepth 100000

theorem compK_snoc {x y : Key} : ∀ {L : List Key}, compK (L ++ [y, x]) = if y = x then compK (L ++ [y]) else compK (L ++ [y]) ++ [x]
  | [] => by
    simp only [List.nil_append, compK]
    split
    · rename_i e; rw [e]
    · rfl
  | [z] => by
    simp only [List.cons_append, List.nil_append, compK]
    by_cases h1 : z = y <;> by_cases h2 : y = x <;> simp [h1, h2]
  | z :: w :: L => by
    have ih := compK_snoc (x := x) (y := y) (L := w :: L)
    simp only [List.cons_append, compK] at ih ⊢
    by_cases h1 : z = w
    · rw [if_pos h1, if_pos h1]; exact ih
    · rw [if_neg h1, if_neg h1, ih]
      split <;> simp
theorem compK_take {l : List Key} {m : Nat} (hm : m + 1 < l.length) : compK (l.take (m + 1 + 1)) = if l[m] = l[m + 1] then compK (l.take (m + 1)) else compK (l.take (m + 1)) ++ [l[m + 1]] := by
  rw [List.take_succ_eq_append_getElem hm, List.take_succ_eq_append_getElem (show m < l.length by omega), List.append_assoc]
  exact compK_snoc
theorem row_key {K : DHeap} {id i : Nat} {A : List Key} (r : RowIs fKey K id A) (hi : i < A.length) : cellsAt K id (i * 2) 2 = some (keyV A[i]) := by
  have hm : (i + 1) * 2 ≤ A.length * 2 := Nat.mul_le_mul_right _ hi
  have h1 : A.flatMap fKey.enc = (A.take i).flatMap fKey.enc ++ (fKey.enc A[i] ++ (A.drop (i + 1)).flatMap fKey.enc) := by
    conv => lhs; rw [← List.take_append_drop i A, List.drop_eq_getElem_cons hi]
    rw [List.flatMap_append, List.flatMap_cons]
  have h2 : i * 2 = ((A.take i).flatMap fKey.enc).length := by rw [flatMap_len]; simp [Nat.min_eq_left (Nat.le_of_lt hi)]; rfl
  rw [cellsAt_row r (by rw [flatMap_len]; show _ ≤ A.length * 2; omega), h1, h2, List.drop_left]
  rfl
/-- how things lie in the second loop -/
structure CmpI (l : List Key) (n0 k2 k : Nat) (A : List Key) : Prop where
  len : A.length = l.length
  le : n0 + k2 ≤ l.length
  one : 1 ≤ n0 ∧ 1 ≤ k2
  kk : k = (compK (l.take (n0 + k2))).length
  hd : A.take k = compK (l.take (n0 + k2))
  lt : k < n0 + k2
  tl : ∀ p, k ≤ p → A[p]? = l[p]?
theorem CmpI.first {l : List Key} {n0 : Nat} (h0 : n0 + 1 < l.length) (he : l[n0] = l[n0 + 1]) (hc : compK (l.take (n0 + 1)) = l.take (n0 + 1)) : CmpI l (n0 + 1) 1 (n0 + 1) l where
  len := rfl
  le := by omega
  one := by omega
  kk := by rw [compK_take h0, if_pos he, hc]; simp; omega
  hd := by rw [compK_take h0, if_pos he, hc]
  lt := by omega
  tl := fun _ _ => rfl
theorem CmpI.at {l A : List Key} {n0 k2 k : Nat} (x : CmpI l n0 k2 k A) (h : n0 + k2 < l.length) : ∃ (h1 : n0 + k2 < A.length) (h2 : n0 + k2 - 1 < A.length), A[n0 + k2] = l[n0 + k2] ∧ A[n0 + k2 - 1] = l[n0 + k2 - 1] := by
  have e := x.len
  have := x.one
  refine ⟨by omega, by omega, ?_, ?_⟩
  · have h1 := x.tl (n0 + k2) (by have := x.lt; omega)
    rw [List.getElem?_eq_getElem (by omega), List.getElem?_eq_getElem h] at h1
    exact Option.some.inj h1
  · have h1 := x.tl (n0 + k2 - 1) (by have := x.lt; omega)
    rw [List.getElem?_eq_getElem (by omega), List.getElem?_eq_getElem (by omega)] at h1
    exact Option.some.inj h1
theorem CmpI.same {l A : List Key} {n0 k2 k : Nat} (x : CmpI l n0 k2 k A) (h : n0 + k2 < l.length) (he : l[n0 + k2] = l[n0 + k2 - 1]) : CmpI l n0 (k2 + 1) k A := by
  obtain ⟨m, hm⟩ : ∃ m, n0 + k2 = m + 1 := ⟨n0 + k2 - 1, by have := x.one; omega⟩
  obtain ⟨a, b, c, d, e, f, g⟩ := x
  have hs := compK_take (l := l) (m := m) (by omega)
  simp only [hm, Nat.add_sub_cancel] at he
  rw [if_pos he.symm] at hs
  refine ⟨a, by omega, by omega, ?_, ?_, by omega, g⟩
  · rw [← Nat.add_assoc, hm, hs, ← hm]; exact d
  · rw [← Nat.add_assoc, hm, hs, ← hm]; exact e
theorem CmpI.other {l A : List Key} {n0 k2 k : Nat} (x : CmpI l n0 k2 k A) (h : n0 + k2 < l.length) (he : ¬ l[n0 + k2] = l[n0 + k2 - 1]) : CmpI l n0 (k2 + 1) (k + 1) (A.set k l[n0 + k2]) := by
  obtain ⟨m, hm⟩ : ∃ m, n0 + k2 = m + 1 := ⟨n0 + k2 - 1, by have := x.one; omega⟩
  obtain ⟨a, b, c, d, e, f, g⟩ := x
  have hs := compK_take (l := l) (m := m) (by omega)
  have he' : ¬ l[m] = l[m + 1] := fun hh => he (by simp only [hm, Nat.add_sub_cancel]; exact hh.symm)
  rw [if_neg he'] at hs
  refine ⟨by simp [a], by omega, by omega, ?_, ?_, by omega, fun p hp => ?_⟩
  · rw [← Nat.add_assoc]
    simp only [hm] at d ⊢
    rw [hs, List.length_append, ← d]
    rfl
  · rw [← Nat.add_assoc]
    simp only [hm] at e ⊢
    rw [hs, ← e, List.take_succ_eq_append_getElem (by simp; omega), List.take_set_of_le (Nat.le_refl _)]
    simp
  · rw [List.getElem?_set_ne (by omega)]
    exact g p (by omega)
theorem cl_key : clElem Try.prog 24 = some (2, .agg #[.int .i32 0, .int .i64 0]) := by kernel_rfl
set_option maxHeartbeats 1000000 in
theorem compact_c {h : DHeap} {id c : Nat} {l : List Key} (hr : RowIs fKey h id l) (hok : ∀ x ∈ l, fKey.ok x) (hl : l.length ≤ 1048576) :
    Ct Try.prog 54 [.slice (some ⟨id, 0, none⟩) l.length c] h fun r h1 => ∃ c' cs, r = .ret (.slice (some ⟨id, 0, none⟩) (compK l).length c') ∧ h1 = h.set id (.row cs 2 false) ∧ Sl fKey.rep (fun i => i = id) h1 (.slice (some ⟨id, 0, none⟩) (compK l).length c') (compK l) := by
  refine go_54 (by simp) ?_
  obtain ⟨v, hv⟩ : ∃ v, Value.slice (some ⟨id, 0, none⟩) l.length c = v := ⟨_, rfl⟩
  have el : ∀ K, dLen Try.prog #[24] v K = some (.int .i64 (l.length : Nat)) := fun K => by rw [← hv]; rfl
  have hself : h = h.set id (.row (l.flatMap fKey.enc) 2 false) := (set_self hr).symm
  have done1 : compK l = l → ∃ u, some v = some u ∧ ∃ c' cs, DEnd.ret u = .ret (.slice (some ⟨id, 0, none⟩) (compK l).length c') ∧ h = h.set id (.row cs 2 false) ∧ Sl fKey.rep (fun i => i = id) h (.slice (some ⟨id, 0, none⟩) (compK l).length c') (compK l) := fun e => by
    refine ⟨v, rfl, c, _, by rw [← hv, e], hself, ?_⟩
    have := hr.sl (o := 0) (n := l.length) (c := c) (by omega) hok
    rw [e]
    simpa using this
  by_cases h2 : (l.length : Int) < 2
  · have h2' := eq_true h2
    simp -implicitDefEqProofs (disch := first | omega | (simp -implicitDefEqProofs only [go_sem, List.size_toArray, List.length_cons, List.length_nil, Nat.reduceAdd]; done)) only [go_sem, Int.reduceLT, Int.reduceLE, Int.reduceEq, reduceIte, true_and, Nat.zero_add, Nat.add_zero, Option.map_some, c54, hv, el, h2']
    refine done1 ?_
    match l, h2 with
    | [], _ => rfl
    | [_], _ => rfl
    | _ :: _ :: _, h => simp at h; omega
  have hz2 : 2 ≤ l.length := by omega
  have ia : ∀ i : Nat, i < l.length → dIndexAddr Try.prog 24 v (.int .i64 (i : Nat)) = some (.pointer (some ⟨id, i * 2, none⟩)) := fun i hi => by
    rw [← hv]
    refine (dIndexAddr_at el_24 (by omega) (by omega)).trans ?_
    rw [Nat.zero_add, Int.toNat_natCast]
  have slo : ∀ K (A : List Key) (k : Nat), RowIs fKey K id A → k ≤ l.length → ∃ c', dSlice Try.prog 24 v (some (.int .i64 (k : Nat))) none none K = some (.slice (some ⟨id, k * 2, none⟩) (l.length - k) c') := fun K A k r hk => by
    rw [← hv]
    have := dSlice_row (c := c) (o := 0) (n := l.length) el_24 (by decide) r (lo := some (.int .i64 (k : Nat))) (hi := none) (j := l.length) (i := k) rfl (bound_nat (k := .i64) hk)
    rw [Nat.zero_add] at this
    exact ⟨_, this⟩
  have shi : ∀ K cs (k : Nat), K.get id = some (.row cs 2 false) → k ≤ l.length → ∃ c', dSlice Try.prog 24 v none (some (.int .i64 (k : Nat))) none K = some (.slice (some ⟨id, 0, none⟩) k c') := fun K cs k r hk => by
    rw [← hv]
    exact ⟨_, (dSlice_row el_24 (by decide) r (j := k) (i := 0) (bound_nat (k := .i64) hk) rfl)⟩
  have hrr : ∀ A : List Key, RowIs fKey (h.set id (.row (A.flatMap fKey.enc) 2 false)) id A := fun A => RowIs.set rfl
  simp -implicitDefEqProofs (disch := first | omega | (simp -implicitDefEqProofs only [go_sem, List.size_toArray, List.length_cons, List.length_nil, Nat.reduceAdd]; done)) only [go_sem, Int.reduceLT, Int.reduceLE, Int.reduceEq, reduceIte, true_and, Nat.zero_add, Nat.add_zero, Option.map_some, c54, hv, el, h2]
  refine xloop (σ := Nat) (by kernel_rfl) (fun j s => s.df = [] ∧ s.rd = none ∧ s.h = h ∧ s.fr 0 = some v ∧ s.fr 3 = some (.int .i64 ((j + 1 : Nat) : Int)) ∧ j + 1 ≤ l.length ∧ compK (l.take (j + 1)) = l.take (j + 1)) (fun j => l.length - j) 0 ?_ ?_
  · simp -implicitDefEqProofs (disch := first | omega | (simp -implicitDefEqProofs only [go_sem, List.size_toArray, List.length_cons, List.length_nil, Nat.reduceAdd]; done)) only [go_sem, Int.reduceLT, Int.reduceLE, Int.reduceEq, reduceIte, true_and, Nat.zero_add, Nat.add_zero, Option.map_some]
    refine ⟨rfl, by omega, ?_⟩
    match l, hz2 with
    | x :: y :: _, _ => rfl
  rintro j ⟨fr, df, K, rd⟩ K' hK' hX ⟨rfl, rfl, rfl, f0, f3, hj, hc⟩
  simp only at f0 f3
  simp -implicitDefEqProofs (disch := first | omega | (simp -implicitDefEqProofs only [go_sem, List.size_toArray, List.length_cons, List.length_nil, Nat.reduceAdd]; done)) only [go_sem, Int.reduceLT, Int.reduceLE, Int.reduceEq, reduceIte, true_and, Nat.zero_add, Nat.add_zero, Option.map_some, f0, f3, el]
  refine XIf_dec (fun hc1 => ?_) (fun hc1 => ?_)
  · have hjl : j + 1 < l.length := by omega
    have hwm : IntKind.i64.wrap (((j + 1 : Nat) : Int) - 1) = (j : Nat) := by rw [wrap_i64_in (by omega) (by omega)]; omega
    have hw1 := wrap_succ hjl (by omega)
    have k1 := row_key hr hjl
    have k0 := row_key hr (show j < l.length by omega)
    simp -implicitDefEqProofs (disch := first | omega | (simp -implicitDefEqProofs only [go_sem, List.size_toArray, List.length_cons, List.length_nil, Nat.reduceAdd]; done)) only [go_sem, Int.reduceLT, Int.reduceLE, Int.reduceEq, reduceIte, true_and, Nat.zero_add, Nat.add_zero, Option.map_some]
    refine dr_54_0 ?_
    by_cases heq : l[j + 1] = l[j]
    case neg =>
      have heqd : decide (l[j + 1] = l[j]) = false := decide_eq_false heq
      simp -implicitDefEqProofs (disch := first | omega | (simp -implicitDefEqProofs only [go_sem, List.size_toArray, List.length_cons, List.length_nil, Nat.reduceAdd]; done)) only [go_sem, Int.reduceLT, Int.reduceLE, Int.reduceEq, reduceIte, true_and, Nat.zero_add, Nat.add_zero, Option.map_some, l54_0, f0, f3, hwm, ia _ hjl, ia j (show j < l.length by omega), k0, k1, bin_key', heqd, XStab_nil, hw1]
      refine hK' (j + 1) _ ?_ (by omega)
      refine ⟨by trivial, by trivial, by trivial, by simp -implicitDefEqProofs (disch := first | omega | (simp -implicitDefEqProofs only [go_sem, List.size_toArray, List.length_cons, List.length_nil, Nat.reduceAdd]; done)) only [go_sem, Int.reduceLT, Int.reduceLE, Int.reduceEq, reduceIte, true_and, Nat.zero_add, Nat.add_zero, Option.map_some, f0], by simp -implicitDefEqProofs (disch := first | omega | (simp -implicitDefEqProofs only [go_sem, List.size_toArray, List.length_cons, List.length_nil, Nat.reduceAdd]; done)) only [go_sem, Int.reduceLT, Int.reduceLE, Int.reduceEq, reduceIte, true_and, Nat.zero_add, Nat.add_zero, Option.map_some], by omega, ?_⟩
      rw [compK_take hjl, if_neg (fun e => heq e.symm), hc, List.take_succ_eq_append_getElem hjl]
    have heqd : decide (l[j + 1] = l[j]) = true := decide_eq_true heq
    obtain ⟨c2, hs2⟩ := slo K l (j + 1) hr (by omega)
    simp -implicitDefEqProofs (disch := first | omega | (simp -implicitDefEqProofs only [go_sem, List.size_toArray, List.length_cons, List.length_nil, Nat.reduceAdd]; done)) only [go_sem, Int.reduceLT, Int.reduceLE, Int.reduceEq, reduceIte, true_and, Nat.zero_add, Nat.add_zero, Option.map_some, l54_0, f0, f3, hwm, ia _ hjl, ia j (show j < l.length by omega), k0, k1, bin_key', heqd, XStab_nil, hs2]
    obtain ⟨s2, hs2v⟩ : ∃ s2, Value.slice (some ⟨id, (j + 1) * 2, none⟩) (l.length - (j + 1)) c2 = s2 := ⟨_, rfl⟩
    have el2 : ∀ K, dLen Try.prog #[24] s2 K = some (.int .i64 ((l.length - (j + 1) : Nat) : Int)) := fun K => by rw [← hs2v]; rfl
    have ia2 : ∀ i : Nat, j + 1 + i < l.length → dIndexAddr Try.prog 24 s2 (.int .i64 (i : Nat)) = some (.pointer (some ⟨id, (j + 1 + i) * 2, none⟩)) := fun i hi => by
      rw [← hs2v]
      refine (dIndexAddr_at el_24 (by omega) (by omega)).trans ?_
      rw [Nat.add_mul (j + 1), Int.toNat_natCast]
    rw [hs2v]
    refine xloop (σ := Nat) (by kernel_rfl) (fun i s => s.df = [] ∧ s.rd = none ∧ s.fr 0 = some v ∧ s.fr 4 = some s2 ∧ s.fr 5 = some (.int .i64 (i : Nat)) ∧ ∃ k A, s.fr 3 = some (.int .i64 (k : Nat)) ∧ s.h = K.set id (.row (A.flatMap fKey.enc) 2 false) ∧ CmpI l (j + 1) i k A) (fun i => l.length - i) 1 ?_ ?_
    · simp -implicitDefEqProofs (disch := first | omega | (simp -implicitDefEqProofs only [go_sem, List.size_toArray, List.length_cons, List.length_nil, Nat.reduceAdd]; done)) only [go_sem, Int.reduceLT, Int.reduceLE, Int.reduceEq, reduceIte, true_and, Nat.zero_add, Nat.add_zero, Option.map_some, f0, f3]
      exact ⟨rfl, _, l, rfl, hself, .first hjl heq.symm hc⟩
    clear f0 f3
    rintro i ⟨fr, df, M, rd⟩ K2' hK2 hX2 ⟨rfl, rfl, f0, f4, f5, k, A, f3, hM, x⟩
    simp only at f0 f4 f5 f3 hM
    subst hM
    have hrA := hrr A
    have xle := x.le
    have xone := x.one
    simp -implicitDefEqProofs (disch := first | omega | (simp -implicitDefEqProofs only [go_sem, List.size_toArray, List.length_cons, List.length_nil, Nat.reduceAdd]; done)) only [go_sem, Int.reduceLT, Int.reduceLE, Int.reduceEq, reduceIte, true_and, Nat.zero_add, Nat.add_zero, Option.map_some, f4, f5, el2]
    refine XIf_dec (fun hc2 => ?_) (fun hc2 => ?_)
    · have hil : j + 1 + i < l.length := by omega
      obtain ⟨hA1, hA0, eA1, eA0⟩ := x.at hil
      have k1 := row_key hrA hA1
      have k0 := row_key hrA hA0
      rw [eA1] at k1
      rw [eA0] at k0
      have hwm2 : IntKind.i64.wrap (((i : Nat) : Int) - 1) = ((i - 1 : Nat) : Int) := by rw [wrap_i64_in (by omega) (by omega)]; omega
      have hw2 := wrap_succ (i := i) (show i < l.length by omega) (by omega)
      have hia1 := ia2 i hil
      have hia0 := ia2 (i - 1) (by omega)
      rw [show j + 1 + (i - 1) = j + 1 + i - 1 by omega] at hia0
      simp -implicitDefEqProofs (disch := first | omega | (simp -implicitDefEqProofs only [go_sem, List.size_toArray, List.length_cons, List.length_nil, Nat.reduceAdd]; done)) only [go_sem, Int.reduceLT, Int.reduceLE, Int.reduceEq, reduceIte, true_and, Nat.zero_add, Nat.add_zero, Option.map_some]
      refine dr_54_1 ?_
      by_cases he2 : l[j + 1 + i] = l[j + 1 + i - 1]
      · have heqd2 : decide (l[j + 1 + i] = l[j + 1 + i - 1]) = true := decide_eq_true he2
        simp -implicitDefEqProofs (disch := first | omega | (simp -implicitDefEqProofs only [go_sem, List.size_toArray, List.length_cons, List.length_nil, Nat.reduceAdd]; done)) only [go_sem, Int.reduceLT, Int.reduceLE, Int.reduceEq, reduceIte, true_and, Nat.zero_add, Nat.add_zero, Option.map_some, l54_1, f4, f5, hwm2, hia1, hia0, k0, k1, bin_key, heqd2, Bool.not_true, XStab_nil, hw2]
        refine hK2 (i + 1) _ ?_ (by omega)
        exact ⟨by trivial, by trivial, by simp -implicitDefEqProofs (disch := first | omega | (simp -implicitDefEqProofs only [go_sem, List.size_toArray, List.length_cons, List.length_nil, Nat.reduceAdd]; done)) only [go_sem, Int.reduceLT, Int.reduceLE, Int.reduceEq, reduceIte, true_and, Nat.zero_add, Nat.add_zero, Option.map_some, f0], by simp -implicitDefEqProofs (disch := first | omega | (simp -implicitDefEqProofs only [go_sem, List.size_toArray, List.length_cons, List.length_nil, Nat.reduceAdd]; done)) only [go_sem, Int.reduceLT, Int.reduceLE, Int.reduceEq, reduceIte, true_and, Nat.zero_add, Nat.add_zero, Option.map_some, f4], by simp -implicitDefEqProofs (disch := first | omega | (simp -implicitDefEqProofs only [go_sem, List.size_toArray, List.length_cons, List.length_nil, Nat.reduceAdd]; done)) only [go_sem, Int.reduceLT, Int.reduceLE, Int.reduceEq, reduceIte, true_and, Nat.zero_add, Nat.add_zero, Option.map_some], k, A, by simp -implicitDefEqProofs (disch := first | omega | (simp -implicitDefEqProofs only [go_sem, List.size_toArray, List.length_cons, List.length_nil, Nat.reduceAdd]; done)) only [go_sem, Int.reduceLT, Int.reduceLE, Int.reduceEq, reduceIte, true_and, Nat.zero_add, Nat.add_zero, Option.map_some, f3], by trivial, x.same hil he2⟩
      · have heqd2 : decide (l[j + 1 + i] = l[j + 1 + i - 1]) = false := decide_eq_false he2
        have xlt := x.lt
        have xlen := x.len
        have hst : storeAt (K.set id (.row (A.flatMap fKey.enc) 2 false)) id (k * 2) [.int .i32 l[j + 1 + i].t, .int .i64 l[j + 1 + i].r] = some (K.set id (.row ((A.set k l[j + 1 + i]).flatMap fKey.enc) 2 false)) :=
          (hrA.store (show k < A.length by omega) l[j + 1 + i]).trans (congrArg some (set_set _ _ _ _))
        have hw3 := wrap_succ (i := k) (show k < l.length by omega) (by omega)
        simp -implicitDefEqProofs (disch := first | omega | (simp -implicitDefEqProofs only [go_sem, List.size_toArray, List.length_cons, List.length_nil, Nat.reduceAdd]; done)) only [go_sem, Int.reduceLT, Int.reduceLE, Int.reduceEq, reduceIte, true_and, Nat.zero_add, Nat.add_zero, Option.map_some, l54_1, f0, f3, f4, f5, hwm2, hia1, hia0, ia k (show k < l.length by omega), k0, k1, bin_key, heqd2, Bool.not_false, XStab_nil, hw2, hst, hw3]
        refine hK2 (i + 1) _ ?_ (by omega)
        exact ⟨by trivial, by trivial, by simp -implicitDefEqProofs (disch := first | omega | (simp -implicitDefEqProofs only [go_sem, List.size_toArray, List.length_cons, List.length_nil, Nat.reduceAdd]; done)) only [go_sem, Int.reduceLT, Int.reduceLE, Int.reduceEq, reduceIte, true_and, Nat.zero_add, Nat.add_zero, Option.map_some, f0], by simp -implicitDefEqProofs (disch := first | omega | (simp -implicitDefEqProofs only [go_sem, List.size_toArray, List.length_cons, List.length_nil, Nat.reduceAdd]; done)) only [go_sem, Int.reduceLT, Int.reduceLE, Int.reduceEq, reduceIte, true_and, Nat.zero_add, Nat.add_zero, Option.map_some, f4], by simp -implicitDefEqProofs (disch := first | omega | (simp -implicitDefEqProofs only [go_sem, List.size_toArray, List.length_cons, List.length_nil, Nat.reduceAdd]; done)) only [go_sem, Int.reduceLT, Int.reduceLE, Int.reduceEq, reduceIte, true_and, Nat.zero_add, Nat.add_zero, Option.map_some], k + 1, A.set k l[j + 1 + i], by simp -implicitDefEqProofs (disch := first | omega | (simp -implicitDefEqProofs only [go_sem, List.size_toArray, List.length_cons, List.length_nil, Nat.reduceAdd]; done)) only [go_sem, Int.reduceLT, Int.reduceLE, Int.reduceEq, reduceIte, true_and, Nat.zero_add, Nat.add_zero, Option.map_some], by trivial, x.other hil he2⟩
    · have hil : j + 1 + i = l.length := by omega
      have xlt := x.lt
      have xlen := x.len
      have xk := x.kk
      have xhd := x.hd
      rw [hil, List.take_length] at xk xhd
      obtain ⟨c3, hs3⟩ := slo _ A k hrA (by omega)
      obtain ⟨zs, hzs, hcl⟩ := dClear_row (esz := 2) (n := l.length - k) (c := c3) (o := k * 2) cl_key rfl hrA (by rw [flatMap_len]; show _ ≤ A.length * 2; omega)
      rw [set_set] at hcl
      obtain ⟨c4, hs4⟩ := shi (K.set id (.row (setAt (A.flatMap fKey.enc) (k * 2) zs) 2 false)) _ k (get_set_same _ _) (by omega)
      refine hX2 _ _ (by simp) ?_
      simp -implicitDefEqProofs (disch := first | omega | (simp -implicitDefEqProofs only [go_sem, List.size_toArray, List.length_cons, List.length_nil, Nat.reduceAdd]; done)) only [go_sem, Int.reduceLT, Int.reduceLE, Int.reduceEq, reduceIte, true_and, Nat.zero_add, Nat.add_zero, Option.map_some, f0, f3, hs3, hcl, hs4]
      refine hX _ _ (by simp) ?_
      simp -implicitDefEqProofs (disch := first | omega | (simp -implicitDefEqProofs only [go_sem, List.size_toArray, List.length_cons, List.length_nil, Nat.reduceAdd]; done)) only [go_sem, Int.reduceLT, Int.reduceLE, Int.reduceEq, reduceIte, true_and, Nat.zero_add, Nat.add_zero, Option.map_some]
      refine ⟨_, rfl, c4, _, by rw [← xk], rfl, ?_⟩
      rw [← xk]
      refine sl_head (cs := A.flatMap fKey.enc) (zs := zs) (get_set_same _ _) xk (by rw [flatMap_len]; show k * 2 ≤ A.length * 2; omega) ?_ fun y hy => hok y (mem_compK.1 hy)
      have hAk : A.flatMap fKey.enc = (A.take k).flatMap fKey.enc ++ (A.drop k).flatMap fKey.enc := by rw [← List.flatMap_append, List.take_append_drop]
      have hlk : k * fKey.z = ((A.take k).flatMap fKey.enc).length := by rw [flatMap_len]; simp [Nat.min_eq_left (show k ≤ A.length by omega)]
      rw [hAk, hlk, List.take_left, xhd]
  · have : j + 1 = l.length := by omega
    rw [this, List.take_length] at hc
    refine hX _ _ (by simp) ?_
    simp -implicitDefEqProofs (disch := first | omega | (simp -implicitDefEqProofs only [go_sem, List.size_toArray, List.length_cons, List.length_nil, Nat.reduceAdd]; done)) only [go_sem, Int.reduceLT, Int.reduceLE, Int.reduceEq, reduceIte, true_and, Nat.zero_add, Nat.add_zero, Option.map_some, f0]
    exact done1 hc
end Go.Proofs.Ytbdljpndncohaaa

namespace Go.Proofs.Ytbdljpndncohaaa
open Go.D
open Go.Sort
set_option maxRecDepth 100000

theorem compact_0 {h : DHeap} {v : Value} (hb : Arg fKey.rep h v []) : Ct Try.prog 54 [v] h fun r h1 => r = .ret v ∧ h1 = h := by
  refine go_54 (by simp) ?_
  have el : ∀ K, dLen Try.prog #[24] v K = some (.int .i64 ((([] : List Key).length : Nat) : Int)) := hb.lens (P := Try.prog) (ts := #[24]) (t := 24) rfl isl_24
  have h0 : (((0 : Nat) : Int) < 2) = True := eq_true (by decide)
  simp -implicitDefEqProofs (disch := first | omega | (simp -implicitDefEqProofs only [go_sem, List.size_toArray, List.length_cons, List.length_nil, Nat.reduceAdd]; done)) only [go_sem, Int.reduceLT, Int.reduceLE, Int.reduceEq, reduceIte, true_and, Nat.zero_add, Nat.add_zero, Option.map_some, c54, el, List.length_nil, h0]
  exact ⟨_, rfl, rfl, trivial⟩
theorem ltOf_key : ltOf keyCmp = keyLt := by
  funext a b
  exact keyCmp_neg a b
theorem enters_cmp : ∀ args w, (callFunc 53 args).run Try.prog w = .ok (.enter 53 args) w := enters_of Try.func53 (by kernel_rfl) rfl
theorem keys_c {h : DHeap} {v : Value} {l : List Key} (hb : Arg fKey.rep h v l) (hl : l.length ≤ 1048576) :
    Ct Try.prog 38 [v] h fun r h1 => ∃ w, r = .ret w ∧ Ext h h1 ∧ Sl fKey.rep (Fresh h h1) h1 w (keysN l) := by
  refine go_38 (by simp) ?_
  have m := clone_made (h := h) hb
  simp -implicitDefEqProofs (disch := first | omega | (simp -implicitDefEqProofs only [go_sem, List.size_toArray, List.length_cons, List.length_nil, Nat.reduceAdd]; done)) only [go_sem, Int.reduceLT, Int.reduceLE, Int.reduceEq, reduceIte, true_and, Nat.zero_add, Nat.add_zero, Option.map_some, c38]
  refine ncall (clone_keys hb (by omega)) ?_
  by_cases h0 : l = []
  · subst h0
    simp -implicitDefEqProofs (disch := first | omega | (simp -implicitDefEqProofs only [go_sem, List.size_toArray, List.length_cons, List.length_nil, Nat.reduceAdd]; done)) only [go_sem, Int.reduceLT, Int.reduceLE, Int.reduceEq, reduceIte, true_and, Nat.zero_add, Nat.add_zero, Option.map_some]
    refine ncall_ct (sort_0 m.arg) ?_
    rintro r h1 ⟨rfl, rfl⟩
    simp -implicitDefEqProofs (disch := first | omega | (simp -implicitDefEqProofs only [go_sem, List.size_toArray, List.length_cons, List.length_nil, Nat.reduceAdd]; done)) only [go_sem, Int.reduceLT, Int.reduceLE, Int.reduceEq, reduceIte, true_and, Nat.zero_add, Nat.add_zero, Option.map_some]
    refine ncall_ct (compact_0 m.arg) ?_
    rintro r h1 ⟨rfl, rfl⟩
    simp -implicitDefEqProofs (disch := first | omega | (simp -implicitDefEqProofs only [go_sem, List.size_toArray, List.length_cons, List.length_nil, Nat.reduceAdd]; done)) only [go_sem, Int.reduceLT, Int.reduceLE, Int.reduceEq, reduceIte, true_and, Nat.zero_add, Nat.add_zero, Option.map_some, XEnd]
    exact ⟨_, rfl, _, rfl, m.ext, m.sl⟩
  · have hnn : isNilV v = false := by
      cases hn : isNilV v with
      | false => rfl
      | true => exact absurd (isNilV_nil hb hn).2 h0
    have e1 : cloneV h v l = .slice (some ⟨h.next, 0, none⟩) l.length (l.length + 1) := by rw [cloneV, hnn]; rfl
    have e2 : cloneH fKey h v l = h.push (.row (l.flatMap fKey.enc) 2 false) := by rw [cloneH, hnn]; rfl
    have hok := hb.ok
    obtain ⟨K, hK⟩ : ∃ K, h.push (.row (l.flatMap fKey.enc) 2 false) = K := ⟨_, rfl⟩
    have hg : K.get h.next = some (.row (l.flatMap fKey.enc) 2 false) := by rw [← hK]; exact get_push_same _ _
    have hE : Ext h K := by rw [← hK]; exact Ext.push1 _ _
    have hKn : K.next = h.next + 1 := by rw [← hK]; rfl
    have hlen : 0 < l.length := List.length_pos_iff.2 h0
    have ht : (l.flatMap fKey.enc).take (l.length * 2) = l.flatMap fKey.enc := List.take_of_length_le (by rw [flatMap_len]; exact Nat.le_refl _)
    rw [e1, e2, hK]
    simp -implicitDefEqProofs (disch := first | omega | (simp -implicitDefEqProofs only [go_sem, List.size_toArray, List.length_cons, List.length_nil, Nat.reduceAdd]; done)) only [go_sem, Int.reduceLT, Int.reduceLE, Int.reduceEq, reduceIte, true_and, Nat.zero_add, Nat.add_zero, Option.map_some]
    refine ncall_ct (sort_ct (F := fKey) (k := 2) rfl sortKey Try.isAgg54 Try.sizeOf54 (cf := keyCmp) (ltOf_key ▸ keyLt_swo) enters_cmp (fun x y => compare_c) (o := 0) (esz := 2) hg hlen (by rw [flatMap_len, Nat.zero_add]; exact Nat.le_refl _) ht (by omega)) ?_
    rintro r h1 ⟨rfl, l', hp, hs, rfl⟩
    have hl' : l'.length = l.length := hp.length_eq
    have e3 : setAt (l.flatMap fKey.enc) 0 (l'.flatMap fKey.enc) = l'.flatMap fKey.enc := by
      have := setAt_over (l'.flatMap fKey.enc) (l.flatMap fKey.enc) [] (by rw [flatMap_len, flatMap_len, hl'])
      simpa using this
    rw [e3]
    simp -implicitDefEqProofs (disch := first | omega | (simp -implicitDefEqProofs only [go_sem, List.size_toArray, List.length_cons, List.length_nil, Nat.reduceAdd]; done)) only [go_sem, Int.reduceLT, Int.reduceLE, Int.reduceEq, reduceIte, true_and, Nat.zero_add, Nat.add_zero, Option.map_some]
    have hr : RowIs fKey (K.set h.next (.row (l'.flatMap fKey.enc) 2 false)) h.next l' := RowIs.set rfl
    have cc := compact_c (c := l.length + 1) hr (fun x hx => hok x (hp.mem_iff.1 hx)) (by omega)
    rw [hl'] at cc
    refine ncall_ct cc ?_
    rintro r h1 ⟨c', cs, rfl, rfl, hsl⟩
    simp -implicitDefEqProofs (disch := first | omega | (simp -implicitDefEqProofs only [go_sem, List.size_toArray, List.length_cons, List.length_nil, Nat.reduceAdd]; done)) only [go_sem, Int.reduceLT, Int.reduceLE, Int.reduceEq, reduceIte, true_and, Nat.zero_add, Nat.add_zero, Option.map_some, XEnd]
    rw [ltOf_key] at hs
    rw [keys_same hp (sorted_list hl'.symm hs)] at hsl
    rw [keys_same hp (sorted_list hl'.symm hs)]
    refine ⟨_, rfl, _, rfl, (hE.set (by omega)).set (by omega), hsl.mono fun i hi => ⟨⟨by omega, ?_⟩, rfl⟩⟩
    subst hi
    show h.next < K.next
    omega
end Go.Proofs.Ytbdljpndncohaaa

namespace Go.D
variable {P : Program} {nt : Nat}

def RegU (U : Nat → DHeap → Prop) (E : DHeap → DHeap → Prop) (V : Nat → DHeap → Value → Prop) (cons : Nat → Option Nat) (b : List Nat) (i : Nat) (o : Oper) (s s' : St) : Prop :=
  ∃ v h', s' = ⟨s.fr.put o.dst v, s.df, h', s.rd⟩ ∧ E s.h h' ∧ V i h' v ∧ (∀ j u, j ≠ i → (b.getD j 0).testBit i = false → (∀ c, cons j = some c → c ≠ i ∧ (b.getD i 0).testBit c = false) → V j s.h u → V j h' u) ∧ ∀ j, j ≠ i → (b.getD i 0).testBit j = false → U j s.h → U j h'
theorem NC.regsU {id : Nat} {ops : Array Oper} {l : List Oper} {b : List Nat} {Q : DExit → St → Prop} {s0 : St} (hmix : P.follows .mixedOrders = true) (hd : dstsOK nt ops = true) (hlow : lowOK ops = true) (hb : befs ops.toList [] = b) (hl : ops.map stripO = l.toArray) (hown : onceDsts l = true)
    (E : DHeap → DHeap → Prop) (hrefl : ∀ h, E h h) (htrans : ∀ a b c, E a b → E b c → E a c) (V : Nat → DHeap → Value → Prop) (cons : Nat → Option Nat) (U : Nat → DHeap → Prop) (hU0 : ∀ j, U j s0.h)
    (hstep : ∀ (i : Nat) (o : Oper) (s : St), l[i]? = some o → RegG l E s0 s → (∀ j t, dstOf l j = some t → (b.getD j 0).testBit i = true → s.fr t = s0.fr t) → (∀ t, dstOf l i = some t → s.fr t = s0.fr t) → (∀ j, (b.getD i 0).testBit j = true → (cons j = none ∨ cons j = some i) → RegAt l V j s) → (∀ j, (j = i ∨ (b.getD j 0).testBit i = true) → U j s.h) → NOne P l.toArray o s (RegU U E V cons b i o s) Q)
    (hfin : ∀ s, RegG l E s0 s → (∀ i, i < l.length → cons i = none → RegAt l V i s) → Q .normal s) : NC P nt (.region id ops true) Q s0 := by
  subst hb
  have hsz : ops.size = l.length := by
    have := congrArg Array.size hl
    simpa using this
  have hat : ∀ {i : Nat} {o : Oper}, ops[i]? = some o → l[i]? = some (stripO o) := fun {i o} ho => by
    have := congrArg (fun a : Array Oper => a[i]?) hl
    simp only [Array.getElem?_map, ho, Option.map_some] at this
    simpa using this.symm
  refine NC.any hmix hd (lowOK_spec hlow) (fun L s => RegG l E s0 s ∧ (∀ i, L i = true → i < ops.size) ∧ (∀ (i : Nat) o, L i = true → ops[i]? = some o → ∀ p ∈ preds o, L p = true) ∧ (∀ i, L i = true → (∀ c, cons i = some c → L c = false) → RegAt l V i s) ∧ (∀ j t, dstOf l j = some t → L j = false → s.fr t = s0.fr t) ∧ ∀ j, L j = false → U j s.h)
    ⟨⟨rfl, rfl, hrefl _, fun _ _ => rfl⟩, by simp, by simp, by simp, fun _ _ _ _ => rfl, fun j _ => hU0 j⟩ ?_ (fun L s hI hall => hfin s hI.1 fun i hi hc => hI.2.2.2.1 i (hall i (by omega)) fun c hc2 => by rw [hc] at hc2; cases hc2)
  rintro L s i o ⟨hG, hsz', hdn, hF, hpre, hUn⟩ ho hn hp
  have hi := (Array.getElem?_eq_some_iff.1 ho).1
  have hcl : ∀ (k : Nat) o, ops[k]? = some o → (∀ p ∈ preds o, L p = true) → ∀ j, ((befs ops.toList []).getD k 0).testBit j = true → L j = true := fun k o ho hp j hj =>
    bef_closed (D := fun j => L j = true) (fun i o hi ho p hp => hdn i o hi ho p hp) k o ho hp j hj
  have hlate : ∀ j, ((befs ops.toList []).getD j 0).testBit i = true → L j = false := fun j hbit => by
    cases hL : L j with
    | false => rfl
    | true =>
      have hjs := hsz' j hL
      have hoj := Array.getElem?_eq_getElem hjs
      have := hcl j _ hoj (hdn j _ hL hoj) i hbit
      rw [hn] at this
      cases this
  have hx := hstep i (stripO o) s (hat ho) hG (fun j t hj hbit => hpre j t hj (hlate j hbit)) (fun t ht => hpre i t ht hn) (fun j hj hc => hF j (hcl i o ho hp j hj) fun c hc2 => by
      rcases hc with hc | hc <;> rw [hc] at hc2 <;> cases hc2
      exact hn) (fun j hj => hUn j (by
      rcases hj with rfl | hj
      · exact hn
      · exact hlate j hj))
  have fin : ∀ s', RegU U E V cons (befs ops.toList []) i (stripO o) s s' →
      (RegG l E s0 s' ∧ (∀ j, (if j = i then true else L j) = true → j < ops.size) ∧ (∀ (j : Nat) o, (if j = i then true else L j) = true → ops[j]? = some o → ∀ p ∈ preds o, (if p = i then true else L p) = true) ∧ (∀ j, (if j = i then true else L j) = true → (∀ c, cons j = some c → (if c = i then true else L c) = false) → RegAt l V j s') ∧ (∀ j t, dstOf l j = some t → (if j = i then true else L j) = false → s'.fr t = s0.fr t) ∧ ∀ j, (if j = i then true else L j) = false → U j s'.h) := by
    rintro _ ⟨v, h', rfl, he, hv, hst, hUs⟩
    have hdst : dstOf l i = o.dst := by simp [dstOf, hat ho, stripO]
    have hput : ∀ t, o.dst ≠ some t → s.fr.put o.dst v t = s.fr t := fun t ht => by
      cases hod : o.dst with
      | none => rfl
      | some d => exact put_other _ _ (fun e => ht (by rw [hod, e]))
    refine ⟨⟨hG.df, hG.rd, htrans _ _ _ hG.ext he, fun t ht => ?_⟩, fun j hj => ?_, fun j oj hj hoj p hpm => ?_, fun j hj hcj => ?_, fun j t hj hLj => ?_, fun j hLj => ?_⟩
    · have : o.dst ≠ some t := fun e => by
        have hc : isDst l t = true := List.any_eq_true.2 ⟨stripO o, List.mem_of_getElem? (hat ho), by show (o.dst == some t) = true; rw [e]; simp⟩
        rw [ht] at hc; cases hc
      exact (hput t this).trans (hG.fr t ht)
    · by_cases hji : j = i
      · rw [hji]; exact hi
      · rw [if_neg hji] at hj; exact hsz' j hj
    · by_cases hpi : p = i
      · rw [if_pos hpi]
      · rw [if_neg hpi]
        by_cases hji : j = i
        · subst hji; rw [ho] at hoj; cases hoj; exact hp p hpm
        · rw [if_neg hji] at hj; exact hdn j oj hj hoj p hpm
    · by_cases hji : j = i
      · subst hji
        refine ⟨v, fun d hd => ?_, hv⟩
        rw [hdst] at hd
        show s.fr.put o.dst v d = _
        rw [hd]
        exact put_same _ _ _
      · rw [if_neg hji] at hj
        obtain ⟨u, h1, h2⟩ := hF j hj fun c hc => by
          have := hcj c hc
          by_cases hci : c = i
          · rw [if_pos hci] at this; cases this
          · rwa [if_neg hci] at this
        have hbj : ((befs ops.toList []).getD j 0).testBit i = false := by
          cases hbit : ((befs ops.toList []).getD j 0).testBit i with
          | false => rfl
          | true =>
            have hoj := Array.getElem?_eq_getElem (hsz' j hj)
            have := hcl j _ hoj (hdn j _ hj hoj) i hbit
            rw [hn] at this
            cases this
        refine ⟨u, fun d hd => ?_, hst j u hji hbj (fun c hc => by
          have h3 := hcj c hc
          by_cases hci : c = i
          · rw [if_pos hci] at h3; cases h3
          · rw [if_neg hci] at h3
            refine ⟨hci, ?_⟩
            cases hbit : ((befs ops.toList []).getD i 0).testBit c with
            | false => rfl
            | true => rw [hcl i o ho hp c hbit] at h3; cases h3) h2⟩
        have hne : o.dst ≠ some d := fun e => by
          have hjs := hsz' j hj
          have hoj := hat (Array.getElem?_eq_getElem hjs)
          have hd2 : (stripO ops[j]).dst = some d := by simpa [dstOf, hoj] using hd
          exact hji (onceDsts_ne hown hoj (hat ho) hd2 e)
        exact (hput d hne).trans (h1 d hd)
    · by_cases hji : j = i
      · rw [if_pos hji] at hLj; cases hLj
      · rw [if_neg hji] at hLj
        have hne : o.dst ≠ some t := fun e => by
          unfold dstOf at hj
          cases hlj : l[j]? with
          | none => rw [hlj] at hj; cases hj
          | some oj =>
            rw [hlj] at hj
            exact hji (onceDsts_ne hown hlj (hat ho) (by simpa using hj) e)
        exact (hput t hne).trans (hpre j t hj hLj)
    · by_cases hji : j = i
      · rw [if_pos hji] at hLj; cases hLj
      · rw [if_neg hji] at hLj
        refine hUs j hji ?_ (hUn j hLj)
        cases hbit : ((befs ops.toList []).getD i 0).testBit j with
        | false => rfl
        | true => rw [hcl i o ho hp j hbit] at hLj; cases hLj
  rw [← hl, NOne_strip] at hx
  unfold NOne at hx ⊢
  cases hw : dWanted ops s.fr o with
  | none => rw [hw] at hx; exact hx.elim
  | some bb =>
    rw [hw] at hx
    cases bb with
    | false => exact fin _ hx
    | true => exact NNext_mono fin (fun _ _ h => h) hx
section
variable {ops : Array Oper} {o : Oper} {s : St} {E : DHeap → DHeap → Prop} {V : Nat → DHeap → Value → Prop} {cons : Nat → Option Nat} {U : Nat → DHeap → Prop} {b : List Nat} {i : Nat} {Q : DExit → St → Prop} {v : Value} {h' : DHeap}
theorem regu_pure (hE : ∀ h, E h h) (hw : dWanted ops s.fr o = some true) (hop : dOp P (evalF s.h.ng s.fr) o s.h = .ok (.value v) s.h) (hV : V i s.h v) : NOne P ops o s (RegU U E V cons b i o s) Q :=
  NOne_val hw hop ⟨v, _, rfl, hE _, hV, fun _ _ _ _ _ h => h, fun _ _ _ h => h⟩
theorem regu_store (hw : dWanted ops s.fr o = some true) (hop : dOp P (evalF s.h.ng s.fr) o s.h = .ok .skip h') (he : E s.h h') (hV : V i h' undef) (hst : ∀ j u, j ≠ i → (b.getD j 0).testBit i = false → (∀ c, cons j = some c → c ≠ i ∧ (b.getD i 0).testBit c = false) → V j s.h u → V j h' u) (hUs : ∀ j, j ≠ i → (b.getD i 0).testBit j = false → U j s.h → U j h') : NOne P ops o s (RegU U E V cons b i o s) Q :=
  NOne_skip hw hop ⟨undef, _, rfl, he, hV, hst, hUs⟩
theorem regu_ct {f : FuncId} {args : List Value} {R : DEnd → DHeap → Prop} (hw : dWanted ops s.fr o = some true) (hop : dOp P (evalF s.h.ng s.fr) o s.h = .ok (.enter f args) s.h) (hc : Ct P f args s.h R) (hV : ∀ r h2, R r h2 → ∃ v, r = .ret v ∧ E s.h h2 ∧ V i h2 v ∧ (∀ j u, j ≠ i → (b.getD j 0).testBit i = false → (∀ c, cons j = some c → c ≠ i ∧ (b.getD i 0).testBit c = false) → V j s.h u → V j h2 u) ∧ ∀ j, j ≠ i → (b.getD i 0).testBit j = false → U j s.h → U j h2) : NOne P ops o s (RegU U E V cons b i o s) Q :=
  NOne_call hw hop hc fun r h2 hR => by
    obtain ⟨v, e1, e2, e3, e4⟩ := hV r h2 hR
    subst e1
    exact ⟨v, _, rfl, e2, e3, e4⟩
end
end Go.D

namespace Go.Proofs.Ytbdljpndncohaaa
open Go.D
set_option maxRecDepth 100000

/-- all but one box is as it was -/
structure Keep (B : Nat) (K0 K : DHeap) : Prop where
  next : K0.next ≤ K.next
  ng : K.ng = K0.ng
  get : ∀ i, i < K0.next → i ≠ B → K.get i = K0.get i
theorem Keep.ext {B : Nat} {K0 K K1 : DHeap} (k : Keep B K0 K) (e : Ext K K1) : Keep B K0 K1 :=
  ⟨Nat.le_trans k.next e.next, e.ng.trans k.ng, fun i hi hb => (e.get i (Nat.lt_of_lt_of_le hi k.next)).trans (k.get i hi hb)⟩
theorem Keep.set {B : Nat} {K0 K : DHeap} (k : Keep B K0 K) (o : DObj) : Keep B K0 (K.set B o) :=
  ⟨k.next, k.ng, fun i hi hb => (get_set_other _ _ hb).trans (k.get i hi hb)⟩
theorem Keep.toExt {B : Nat} {h K0 K : DHeap} (k : Keep B K0 K) (e : Ext h K0) (hB : h.next ≤ B) : Ext h K :=
  ⟨Nat.le_trans e.next k.next, k.ng.trans e.ng, fun i hi => (k.get i (Nat.lt_of_lt_of_le hi e.next) (by omega)).trans (e.get i hi)⟩
/-- the row of a transaction's box -/
abbrev TxRow (K : DHeap) (B : Nat) (a b : Int) (vc va x y : Value) : Prop := K.get B = some (.row [.int .i64 a, .int .i64 b, vc, va, x, y] 0 false)
structure NrmG (B : Nat) (a b : Int) (vc va : Value) (K0 K : DHeap) : Prop where
  keep : Keep B K0 K
  row : ∃ x y, TxRow K B a b vc va x y
def NrmV (B : Nat) (vr vw : Value) (lr lw : List Key) (K0 : DHeap) (k : Nat) (h : DHeap) (v : Value) : Prop :=
  match k with
  | 0 => v = .pointer (some ⟨B, 4, none⟩)
  | 1 => v = vr
  | 2 => Sl fKey.rep (fun i => K0.next ≤ i ∧ i < h.next) h v lr
  | 3 => v = .pointer (some ⟨B, 5, none⟩)
  | 4 => v = vw
  | 5 => Sl fKey.rep (fun i => K0.next ≤ i ∧ i < h.next) h v lw
  | 6 => v = .pointer (some ⟨B, 4, none⟩)
  | 7 => ∃ w, cellAt h B 4 = some w ∧ Sl fKey.rep (fun i => K0.next ≤ i ∧ i < h.next) h w lr
  | 8 => v = .pointer (some ⟨B, 5, none⟩)
  | 9 => ∃ w, cellAt h B 5 = some w ∧ Sl fKey.rep (fun i => K0.next ≤ i ∧ i < h.next) h w lw
  | _ => True
def NrmU (B : Nat) (vr vw : Value) (k : Nat) (h : DHeap) : Prop :=
  match k with
  | 7 => cellAt h B 4 = some vr
  | 9 => cellAt h B 5 = some vw
  | _ => True
theorem cellAt_ext {h h1 : DHeap} {B o : Nat} (e : Ext h h1) (hB : B < h.next) : cellAt h1 B o = cellAt h B o := by
  unfold cellAt
  rw [e.get _ hB]
theorem slf_ext {h h1 : DHeap} {n : Nat} {v : Value} {l : List Key} (e : Ext h h1) (x : Sl fKey.rep (fun i => n ≤ i ∧ i < h.next) h v l) : Sl fKey.rep (fun i => n ≤ i ∧ i < h1.next) h1 v l :=
  x.mono fun i hi => ⟨⟨hi.1, Nat.lt_of_lt_of_le hi.2 e.next⟩, e.get i hi.2⟩
theorem NrmV.ext {B : Nat} {vr vw : Value} {lr lw : List Key} {K0 h h1 : DHeap} {k : Nat} {v : Value} (e : Ext h h1) (hB : B < h.next) (x : NrmV B vr vw lr lw K0 k h v) : NrmV B vr vw lr lw K0 k h1 v := by
  unfold NrmV at *
  split at x
  · exact x
  · exact x
  · exact slf_ext e x
  · exact x
  · exact x
  · exact slf_ext e x
  · exact x
  · obtain ⟨w, a, b⟩ := x
    exact ⟨w, (cellAt_ext e hB).trans a, slf_ext e b⟩
  · exact x
  · obtain ⟨w, a, b⟩ := x
    exact ⟨w, (cellAt_ext e hB).trans a, slf_ext e b⟩
  · trivial
theorem NrmU.ext {B : Nat} {vr vw : Value} {h h1 : DHeap} {k : Nat} (e : Ext h h1) (hB : B < h.next) (x : NrmU B vr vw k h) : NrmU B vr vw k h1 := by
  unfold NrmU at *
  split at x
  · exact (cellAt_ext e hB).trans x
  · exact (cellAt_ext e hB).trans x
  · trivial
theorem slf_set {h : DHeap} {n B : Nat} {o : DObj} {v : Value} {l : List Key} (hB : B < n) (x : Sl fKey.rep (fun i => n ≤ i ∧ i < h.next) h v l) : Sl fKey.rep (fun i => n ≤ i ∧ i < (h.set B o).next) (h.set B o) v l :=
  x.mono fun i hi => ⟨hi, get_set_other _ _ (by omega)⟩
theorem NrmV.set {B p : Nat} {vr vw : Value} {lr lw : List Key} {K0 h : DHeap} {k : Nat} {v : Value} {R : List Value} (hB : B < K0.next) (hp : k = 7 → R[4]? = cellAt h B 4) (hq : k = 9 → R[5]? = cellAt h B 5) (x : NrmV B vr vw lr lw K0 k h v) : NrmV B vr vw lr lw K0 k (h.set B (.row R 0 false)) v := by
  unfold NrmV at *
  split at x
  · exact x
  · exact x
  · exact slf_set hB x
  · exact x
  · exact x
  · exact slf_set hB x
  · exact x
  · obtain ⟨w, a, b⟩ := x
    exact ⟨w, by rw [cellAt_row (get_set_same _ _), hp rfl]; exact a, slf_set hB b⟩
  · exact x
  · obtain ⟨w, a, b⟩ := x
    exact ⟨w, by rw [cellAt_row (get_set_same _ _), hq rfl]; exact a, slf_set hB b⟩
  · trivial
theorem NrmU.set {B : Nat} {vr vw : Value} {h : DHeap} {k : Nat} {R : List Value} (hp : k = 7 → R[4]? = cellAt h B 4) (hq : k = 9 → R[5]? = cellAt h B 5) (x : NrmU B vr vw k h) : NrmU B vr vw k (h.set B (.row R 0 false)) := by
  unfold NrmU at *
  split at x
  · rw [cellAt_row (get_set_same _ _), hp rfl]; exact x
  · rw [cellAt_row (get_set_same _ _), hq rfl]; exact x
  · trivial
set_option maxHeartbeats 1000000 in
theorem nrm_region {K0 : DHeap} {B : Nat} {a b : Int} {vc va vr vw : Value} {lr lw : List Key} {fr : Fr} {rd : Option Nat} (hB : B < K0.next) (f1 : fr 1 = some (.pointer (some ⟨B, 0, none⟩))) (hrow : TxRow K0 B a b vc va vr vw)
    (hr : Sl fKey.rep (fun i => i < K0.next ∧ i ≠ B) K0 vr lr) (hw : Sl fKey.rep (fun i => i < K0.next ∧ i ≠ B) K0 vw lw) (hlr : lr.length ≤ 1048576) (hlw : lw.length ≤ 1048576) :
    NC Try.prog 14 r20_0 (DThen (fun s => s.df = [] ∧ s.rd = rd ∧ s.fr 1 = fr 1 ∧ s.fr 2 = fr 2 ∧ Keep B K0 s.h ∧ ∃ x y, TxRow s.h B a b vc va x y ∧ Sl fKey.rep (fun i => K0.next ≤ i ∧ i < s.h.next) s.h x (keysN lr) ∧ Sl fKey.rep (fun i => K0.next ≤ i ∧ i < s.h.next) s.h y (keysN lw)) (fun _ _ => False)) ⟨fr, [], K0, rd⟩ := by
  refine NC.regsU (l := l20_0) (by kernel_rfl) (by kernel_rfl) (by kernel_rfl) rfl (by kernel_rfl) (by kernel_rfl) (fun p q => NrmG B a b vc va K0 p → NrmG B a b vc va K0 q) (fun _ h => h) (fun _ _ _ f g h => g (f h)) (NrmV B vr vw (keysN lr) (keysN lw) K0) (fun _ => none) (NrmU B vr vw) ?_ ?_ ?_
  · intro j
    unfold NrmU
    split
    · exact cellAt_row hrow
    · exact cellAt_row hrow
    · trivial
  case refine_3 =>
    rintro ⟨fr1, df1, K, rd1⟩ g hF
    have gg := g.ext ⟨⟨Nat.le_refl _, rfl, fun _ _ _ => rfl⟩, _, _, hrow⟩
    obtain ⟨_, x, x1, x2⟩ := (hF 7 (by decide) rfl).fact
    obtain ⟨_, y, y1, y2⟩ := (hF 9 (by decide) rfl).fact
    obtain ⟨p, q, hpq⟩ := gg.row
    rw [cellAt_row hpq] at x1 y1
    cases x1
    cases y1
    exact ⟨g.df, g.rd, g.fr 1 (by kernel_rfl), g.fr 2 (by kernel_rfl), gg.keep, _, _, hpq, x2, y2⟩
  intro k oo s ho g hpre hown hF hU
  have gg := g.ext ⟨⟨Nat.le_refl _, rfl, fun _ _ _ => rfl⟩, _, _, hrow⟩
  have hBs : B < s.h.next := Nat.lt_of_lt_of_le hB gg.keep.next
  have F1 : s.fr 1 = some (.pointer (some ⟨B, 0, none⟩)) := (g.fr 1 (by kernel_rfl)).trans f1
  have onCall : ∀ {r h1} {l : List Key}, (∃ w, r = DEnd.ret w ∧ Ext s.h h1 ∧ Sl fKey.rep (Fresh s.h h1) h1 w l) → ∃ v, r = .ret v ∧ (NrmG B a b vc va K0 s.h → NrmG B a b vc va K0 h1) ∧ Sl fKey.rep (fun i => K0.next ≤ i ∧ i < h1.next) h1 v l ∧ Ext s.h h1 := fun {r h1 l} hx => by
    obtain ⟨w, e1, e2, e3⟩ := hx
    refine ⟨w, e1, fun gx => ⟨gx.keep.ext e2, ?_⟩, e3.mono fun i hi => ⟨⟨Nat.le_trans gg.keep.next hi.1, hi.2⟩, rfl⟩, e2⟩
    obtain ⟨x, y, hxy⟩ := gx.row
    exact ⟨x, y, (e2.get _ hBs).trans hxy⟩
  have hk' : k < 10 := (List.getElem?_eq_some_iff.1 ho).1
  match k, hk' with
  | 0, _ =>
    simp only [l20_0, List.getElem?_cons_zero, List.getElem?_cons_succ, Option.some.injEq] at ho
    subst ho
    exact regu_pure (v := .pointer (some ⟨B, 4, none⟩)) (fun _ h => h) (by simp -implicitDefEqProofs (disch := first | omega | (simp -implicitDefEqProofs only [go_sem, List.size_toArray, List.length_cons, List.length_nil, Nat.reduceAdd]; done)) only [go_sem, Int.reduceLT, Int.reduceLE, Int.reduceEq, reduceIte, true_and, Nat.zero_add, Nat.add_zero, Option.map_some]) (by simp -implicitDefEqProofs (disch := first | omega | (simp -implicitDefEqProofs only [go_sem, List.size_toArray, List.length_cons, List.length_nil, Nat.reduceAdd]; done)) only [go_sem, Int.reduceLT, Int.reduceLE, Int.reduceEq, reduceIte, true_and, Nat.zero_add, Nat.add_zero, Option.map_some, F1]) rfl
  | 1, _ =>
    simp only [l20_0, List.getElem?_cons_zero, List.getElem?_cons_succ, Option.some.injEq] at ho
    subst ho
    have q0 : s.fr 5 = some (.pointer (some ⟨B, 4, none⟩)) := (hF 0 (by kernel_rfl) (.inl rfl)).eq rfl fun _ _ e => e
    have hu : cellAt s.h B 4 = some vr := hU 7 (.inr (by kernel_rfl))
    exact regu_pure (v := vr) (fun _ h => h) (by simp -implicitDefEqProofs (disch := first | omega | (simp -implicitDefEqProofs only [go_sem, List.size_toArray, List.length_cons, List.length_nil, Nat.reduceAdd]; done)) only [go_sem, Int.reduceLT, Int.reduceLE, Int.reduceEq, reduceIte, true_and, Nat.zero_add, Nat.add_zero, Option.map_some]) (by simp -implicitDefEqProofs (disch := first | omega | (simp -implicitDefEqProofs only [go_sem, List.size_toArray, List.length_cons, List.length_nil, Nat.reduceAdd]; done)) only [go_sem, Int.reduceLT, Int.reduceLE, Int.reduceEq, reduceIte, true_and, Nat.zero_add, Nat.add_zero, Option.map_some, q0, hu]) rfl
  | 2, _ =>
    simp only [l20_0, List.getElem?_cons_zero, List.getElem?_cons_succ, Option.some.injEq] at ho
    subst ho
    have q1 : s.fr 6 = some (vr) := (hF 1 (by kernel_rfl) (.inl rfl)).eq rfl fun _ _ e => e
    have hA : Arg fKey.rep s.h vr _ := hr.mono fun i hi => ⟨Nat.lt_of_lt_of_le hi.1 gg.keep.next, gg.keep.get i hi.1 hi.2⟩
    refine regu_ct (by simp -implicitDefEqProofs (disch := first | omega | (simp -implicitDefEqProofs only [go_sem, List.size_toArray, List.length_cons, List.length_nil, Nat.reduceAdd]; done)) only [go_sem, Int.reduceLT, Int.reduceLE, Int.reduceEq, reduceIte, true_and, Nat.zero_add, Nat.add_zero, Option.map_some]) (by simp -implicitDefEqProofs (disch := first | omega | (simp -implicitDefEqProofs only [go_sem, List.size_toArray, List.length_cons, List.length_nil, Nat.reduceAdd]; done)) only [go_sem, Int.reduceLT, Int.reduceLE, Int.reduceEq, reduceIte, true_and, Nat.zero_add, Nat.add_zero, Option.map_some, q1]) (keys_c hA hlr) fun r h2 hR => ?_
    obtain ⟨w, e1, e2, e3, e4⟩ := onCall hR
    exact ⟨w, e1, e2, e3, fun j u _ _ _ hV => hV.ext e4 hBs, fun j _ _ hV => hV.ext e4 hBs⟩
  | 3, _ =>
    simp only [l20_0, List.getElem?_cons_zero, List.getElem?_cons_succ, Option.some.injEq] at ho
    subst ho
    exact regu_pure (v := .pointer (some ⟨B, 5, none⟩)) (fun _ h => h) (by simp -implicitDefEqProofs (disch := first | omega | (simp -implicitDefEqProofs only [go_sem, List.size_toArray, List.length_cons, List.length_nil, Nat.reduceAdd]; done)) only [go_sem, Int.reduceLT, Int.reduceLE, Int.reduceEq, reduceIte, true_and, Nat.zero_add, Nat.add_zero, Option.map_some]) (by simp -implicitDefEqProofs (disch := first | omega | (simp -implicitDefEqProofs only [go_sem, List.size_toArray, List.length_cons, List.length_nil, Nat.reduceAdd]; done)) only [go_sem, Int.reduceLT, Int.reduceLE, Int.reduceEq, reduceIte, true_and, Nat.zero_add, Nat.add_zero, Option.map_some, F1]) rfl
  | 4, _ =>
    simp only [l20_0, List.getElem?_cons_zero, List.getElem?_cons_succ, Option.some.injEq] at ho
    subst ho
    have q3 : s.fr 8 = some (.pointer (some ⟨B, 5, none⟩)) := (hF 3 (by kernel_rfl) (.inl rfl)).eq rfl fun _ _ e => e
    have hu : cellAt s.h B 5 = some vw := hU 9 (.inr (by kernel_rfl))
    exact regu_pure (v := vw) (fun _ h => h) (by simp -implicitDefEqProofs (disch := first | omega | (simp -implicitDefEqProofs only [go_sem, List.size_toArray, List.length_cons, List.length_nil, Nat.reduceAdd]; done)) only [go_sem, Int.reduceLT, Int.reduceLE, Int.reduceEq, reduceIte, true_and, Nat.zero_add, Nat.add_zero, Option.map_some]) (by simp -implicitDefEqProofs (disch := first | omega | (simp -implicitDefEqProofs only [go_sem, List.size_toArray, List.length_cons, List.length_nil, Nat.reduceAdd]; done)) only [go_sem, Int.reduceLT, Int.reduceLE, Int.reduceEq, reduceIte, true_and, Nat.zero_add, Nat.add_zero, Option.map_some, q3, hu]) rfl
  | 5, _ =>
    simp only [l20_0, List.getElem?_cons_zero, List.getElem?_cons_succ, Option.some.injEq] at ho
    subst ho
    have q4 : s.fr 9 = some (vw) := (hF 4 (by kernel_rfl) (.inl rfl)).eq rfl fun _ _ e => e
    have hA : Arg fKey.rep s.h vw _ := hw.mono fun i hi => ⟨Nat.lt_of_lt_of_le hi.1 gg.keep.next, gg.keep.get i hi.1 hi.2⟩
    refine regu_ct (by simp -implicitDefEqProofs (disch := first | omega | (simp -implicitDefEqProofs only [go_sem, List.size_toArray, List.length_cons, List.length_nil, Nat.reduceAdd]; done)) only [go_sem, Int.reduceLT, Int.reduceLE, Int.reduceEq, reduceIte, true_and, Nat.zero_add, Nat.add_zero, Option.map_some]) (by simp -implicitDefEqProofs (disch := first | omega | (simp -implicitDefEqProofs only [go_sem, List.size_toArray, List.length_cons, List.length_nil, Nat.reduceAdd]; done)) only [go_sem, Int.reduceLT, Int.reduceLE, Int.reduceEq, reduceIte, true_and, Nat.zero_add, Nat.add_zero, Option.map_some, q4]) (keys_c hA hlw) fun r h2 hR => ?_
    obtain ⟨w, e1, e2, e3, e4⟩ := onCall hR
    exact ⟨w, e1, e2, e3, fun j u _ _ _ hV => hV.ext e4 hBs, fun j _ _ hV => hV.ext e4 hBs⟩
  | 6, _ =>
    simp only [l20_0, List.getElem?_cons_zero, List.getElem?_cons_succ, Option.some.injEq] at ho
    subst ho
    exact regu_pure (v := .pointer (some ⟨B, 4, none⟩)) (fun _ h => h) (by simp -implicitDefEqProofs (disch := first | omega | (simp -implicitDefEqProofs only [go_sem, List.size_toArray, List.length_cons, List.length_nil, Nat.reduceAdd]; done)) only [go_sem, Int.reduceLT, Int.reduceLE, Int.reduceEq, reduceIte, true_and, Nat.zero_add, Nat.add_zero, Option.map_some]) (by simp -implicitDefEqProofs (disch := first | omega | (simp -implicitDefEqProofs only [go_sem, List.size_toArray, List.length_cons, List.length_nil, Nat.reduceAdd]; done)) only [go_sem, Int.reduceLT, Int.reduceLE, Int.reduceEq, reduceIte, true_and, Nat.zero_add, Nat.add_zero, Option.map_some, F1]) rfl
  | 7, _ =>
    simp only [l20_0, List.getElem?_cons_zero, List.getElem?_cons_succ, Option.some.injEq] at ho
    subst ho
    have q6 : s.fr 11 = some (.pointer (some ⟨B, 4, none⟩)) := (hF 6 (by kernel_rfl) (.inl rfl)).eq rfl fun _ _ e => e
    obtain ⟨w, qw, vw'⟩ := (hF 2 (by kernel_rfl) (.inl rfl)).ex (d := 7) rfl
    have vw2 : Sl fKey.rep (fun i => K0.next ≤ i ∧ i < s.h.next) s.h w _ := vw'
    obtain ⟨x, y, hxy⟩ := gg.row
    have hst : dStore Try.prog 24 (.pointer (some ⟨B, 4, none⟩)) w s.h = some (s.h.set B (.row [.int .i64 a, .int .i64 b, vc, va, w, y] 0 false)) := (st_24 vw2.cells1).trans (store_cell vw2.cells1 (one_sl vw2) (by simp) rfl hxy)
    have c4 : cellAt s.h B 4 = some x := cellAt_row hxy
    have c5 : cellAt s.h B 5 = some y := cellAt_row hxy
    refine regu_store (h' := s.h.set B (.row [.int .i64 a, .int .i64 b, vc, va, w, y] 0 false)) (by simp -implicitDefEqProofs (disch := first | omega | (simp -implicitDefEqProofs only [go_sem, List.size_toArray, List.length_cons, List.length_nil, Nat.reduceAdd]; done)) only [go_sem, Int.reduceLT, Int.reduceLE, Int.reduceEq, reduceIte, true_and, Nat.zero_add, Nat.add_zero, Option.map_some]) (by simp -implicitDefEqProofs (disch := first | omega | (simp -implicitDefEqProofs only [go_sem, List.size_toArray, List.length_cons, List.length_nil, Nat.reduceAdd]; done)) only [go_sem, Int.reduceLT, Int.reduceLE, Int.reduceEq, reduceIte, true_and, Nat.zero_add, Nat.add_zero, Option.map_some, q6, qw, hst]) (fun gx => ⟨gx.keep.set _, _, _, get_set_same _ _⟩) ⟨w, cellAt_row (get_set_same _ _), slf_set hB vw2⟩ (fun j u h1 _ _ hV => hV.set (p := 0) hB (fun e => by first | exact absurd e h1 | exact c4.symm) (fun e => by first | exact absurd e h1 | exact c5.symm)) (fun j h1 _ hV => hV.set (fun e => by first | exact absurd e h1 | exact c4.symm) (fun e => by first | exact absurd e h1 | exact c5.symm))
  | 8, _ =>
    simp only [l20_0, List.getElem?_cons_zero, List.getElem?_cons_succ, Option.some.injEq] at ho
    subst ho
    exact regu_pure (v := .pointer (some ⟨B, 5, none⟩)) (fun _ h => h) (by simp -implicitDefEqProofs (disch := first | omega | (simp -implicitDefEqProofs only [go_sem, List.size_toArray, List.length_cons, List.length_nil, Nat.reduceAdd]; done)) only [go_sem, Int.reduceLT, Int.reduceLE, Int.reduceEq, reduceIte, true_and, Nat.zero_add, Nat.add_zero, Option.map_some]) (by simp -implicitDefEqProofs (disch := first | omega | (simp -implicitDefEqProofs only [go_sem, List.size_toArray, List.length_cons, List.length_nil, Nat.reduceAdd]; done)) only [go_sem, Int.reduceLT, Int.reduceLE, Int.reduceEq, reduceIte, true_and, Nat.zero_add, Nat.add_zero, Option.map_some, F1]) rfl
  | 9, _ =>
    simp only [l20_0, List.getElem?_cons_zero, List.getElem?_cons_succ, Option.some.injEq] at ho
    subst ho
    have q8 : s.fr 12 = some (.pointer (some ⟨B, 5, none⟩)) := (hF 8 (by kernel_rfl) (.inl rfl)).eq rfl fun _ _ e => e
    obtain ⟨w, qw, vw'⟩ := (hF 5 (by kernel_rfl) (.inl rfl)).ex (d := 10) rfl
    have vw2 : Sl fKey.rep (fun i => K0.next ≤ i ∧ i < s.h.next) s.h w _ := vw'
    obtain ⟨x, y, hxy⟩ := gg.row
    have hst : dStore Try.prog 24 (.pointer (some ⟨B, 5, none⟩)) w s.h = some (s.h.set B (.row [.int .i64 a, .int .i64 b, vc, va, x, w] 0 false)) := (st_24 vw2.cells1).trans (store_cell vw2.cells1 (one_sl vw2) (by simp) rfl hxy)
    have c4 : cellAt s.h B 4 = some x := cellAt_row hxy
    have c5 : cellAt s.h B 5 = some y := cellAt_row hxy
    refine regu_store (h' := s.h.set B (.row [.int .i64 a, .int .i64 b, vc, va, x, w] 0 false)) (by simp -implicitDefEqProofs (disch := first | omega | (simp -implicitDefEqProofs only [go_sem, List.size_toArray, List.length_cons, List.length_nil, Nat.reduceAdd]; done)) only [go_sem, Int.reduceLT, Int.reduceLE, Int.reduceEq, reduceIte, true_and, Nat.zero_add, Nat.add_zero, Option.map_some]) (by simp -implicitDefEqProofs (disch := first | omega | (simp -implicitDefEqProofs only [go_sem, List.size_toArray, List.length_cons, List.length_nil, Nat.reduceAdd]; done)) only [go_sem, Int.reduceLT, Int.reduceLE, Int.reduceEq, reduceIte, true_and, Nat.zero_add, Nat.add_zero, Option.map_some, q8, qw, hst]) (fun gx => ⟨gx.keep.set _, _, _, get_set_same _ _⟩) ⟨w, cellAt_row (get_set_same _ _), slf_set hB vw2⟩ (fun j u h1 _ _ hV => hV.set (p := 0) hB (fun e => by first | exact absurd e h1 | exact c4.symm) (fun e => by first | exact absurd e h1 | exact c5.symm)) (fun j h1 _ hV => hV.set (fun e => by first | exact absurd e h1 | exact c4.symm) (fun e => by first | exact absurd e h1 | exact c5.symm))
/-- a transaction with its keys in order -/
def normT (t : Txn) : Txn := { t with reads := keysN t.reads, writes := keysN t.writes }
theorem normal_c {h : DHeap} {t : Txn} {vc va vr vw : Value} (x : TxV (InH h) h t vc va vr vw) (hl : TxLen t) :
    Ct Try.prog 20 [txnV t.ses t.req vc va vr vw] h fun r h1 => ∃ vc' va' vr' vw', r = .ret (txnV t.ses t.req vc' va' vr' vw') ∧ Ext h h1 ∧ TxV (Fresh h h1) h1 (normT t) vc' va' vr' vw' := by
  refine go_20 (by simp) ?_
  have hvc := x.c.cells1
  have hva := x.a.cells1
  have hvr := x.r.cells1
  have hvw := x.w.cells1
  obtain ⟨H, hH⟩ : ∃ H, H = (h.push (.row [.int .i64 t.ses, .int .i64 t.req, vc, va, vr, vw] 0 false)).push (.row [.int .i64 0, .int .i64 0, .slice none 0 0, .slice none 0 0, .slice none 0 0, .slice none 0 0] 0 false) := ⟨_, rfl⟩
  have hE : Ext h H := by rw [hH]; exact (Ext.push1 _ _).push _
  have hHn : H.next = h.next + 2 := by rw [hH]; rfl
  have ga : TxRow H h.next t.ses t.req vc va vr vw := by rw [hH]; exact get_p1
  have gb : H.get (h.next + 1) = some (.row [.int .i64 0, .int .i64 0, .slice none 0 0, .slice none 0 0, .slice none 0 0, .slice none 0 0] 0 false) := by rw [hH]; exact get_push_same _ _
  have hca0 : cellsAt H h.next 0 6 = some (txnV t.ses t.req vc va vr vw) := by rw [cellsAt_row ga (Nat.le_of_ble_eq_true rfl)]; rfl
  simp -implicitDefEqProofs (disch := first | omega | (simp -implicitDefEqProofs only [go_sem, List.size_toArray, List.length_cons, List.length_nil, Nat.reduceAdd]; done)) only [go_sem, Int.reduceLT, Int.reduceLE, Int.reduceEq, reduceIte, true_and, Nat.zero_add, Nat.add_zero, Option.map_some, c20, next_push, ← hH, hca0]
  refine ncall_ct (cloneT_c (x.ext hE) hl) ?_
  rintro r H1 ⟨vc, va, vr, vw, rfl, hE1, y⟩
  have hE1n := hE1.next
  have ga1 := (hE1.get _ (by omega)).trans ga
  have gb1 := (hE1.get _ (by omega)).trans gb
  have hvc := y.c.cells1
  have hva := y.a.cells1
  have hvr := y.r.cells1
  have hvw := y.w.cells1
  have sa1 := storeAll (vs := [.int .i64 t.ses, .int .i64 t.req, vc, va, vr, vw]) ga1 rfl (y.one _ _)
  obtain ⟨K0, hK0⟩ : ∃ K0, K0 = H1.set h.next (.row [.int .i64 t.ses, .int .i64 t.req, vc, va, vr, vw] 0 false) := ⟨_, rfl⟩
  rw [← hK0] at sa1
  have hEK : Ext h K0 := by rw [hK0]; exact (hE.trans hE1).set (by omega)
  have hKn : K0.next = H1.next := by rw [hK0]; rfl
  have gaK : TxRow K0 h.next t.ses t.req vc va vr vw := by rw [hK0]; exact get_set_same _ _
  have gbK : K0.get (h.next + 1) = _ := (by rw [hK0, get_set_other _ _ (by omega)] : K0.get (h.next + 1) = H1.get (h.next + 1)).trans gb1
  have yK : TxV (fun i => H.next ≤ i ∧ i < K0.next) K0 t vc va vr vw := y.mono fun i hi => ⟨⟨hi.1, by rw [hKn]; exact hi.2⟩, by rw [hK0, get_set_other _ _ (by have := hi.1; omega)]⟩
  simp -implicitDefEqProofs (disch := first | omega | (simp -implicitDefEqProofs only [go_sem, List.size_toArray, List.length_cons, List.length_nil, Nat.reduceAdd]; done)) only [go_sem, Int.reduceLT, Int.reduceLE, Int.reduceEq, reduceIte, true_and, Nat.zero_add, Nat.add_zero, Option.map_some, XEnd, sa1]
  refine NC.mono (nrm_region (B := h.next) (by omega) (by simp -implicitDefEqProofs (disch := first | omega | (simp -implicitDefEqProofs only [go_sem, List.size_toArray, List.length_cons, List.length_nil, Nat.reduceAdd]; done)) only [go_sem, Int.reduceLT, Int.reduceLE, Int.reduceEq, reduceIte, true_and, Nat.zero_add, Nat.add_zero, Option.map_some]) gaK (yK.r.mono fun i hi => ⟨⟨hi.2, by omega⟩, rfl⟩) (yK.w.mono fun i hi => ⟨⟨hi.2, by omega⟩, rfl⟩) hl.r hl.w) ?_
  rintro e ⟨fr1, df1, M, rd1⟩ hM
  cases e <;> try exact hM.elim
  obtain ⟨rfl, rfl, q1, q2, hk, vr', vw', hrow, hr', hw'⟩ := hM
  have Q1 : fr1 1 = some (.pointer (some ⟨h.next, 0, none⟩)) := q1.trans (by simp -implicitDefEqProofs (disch := first | omega | (simp -implicitDefEqProofs only [go_sem, List.size_toArray, List.length_cons, List.length_nil, Nat.reduceAdd]; done)) only [go_sem, Int.reduceLT, Int.reduceLE, Int.reduceEq, reduceIte, true_and, Nat.zero_add, Nat.add_zero, Option.map_some])
  have Q2 : fr1 2 = some (.pointer (some ⟨h.next + 1, 0, none⟩)) := q2.trans (by simp -implicitDefEqProofs (disch := first | omega | (simp -implicitDefEqProofs only [go_sem, List.size_toArray, List.length_cons, List.length_nil, Nat.reduceAdd]; done)) only [go_sem, Int.reduceLT, Int.reduceLE, Int.reduceEq, reduceIte, true_and, Nat.zero_add, Nat.add_zero, Option.map_some])
  have hMn : _ ≤ M.next := hk.next
  have hca : cellsAt M h.next 0 6 = some (txnV t.ses t.req vc va vr' vw') := by rw [cellsAt_row hrow (Nat.le_of_ble_eq_true rfl)]; rfl
  have hone : [.int .i64 t.ses, .int .i64 t.req, vc, va, vr', vw'].all Value.oneCell' = true := by
    obtain ⟨_, _, rfl⟩ := y.c.isSlice
    obtain ⟨_, _, rfl⟩ := y.a.isSlice
    obtain ⟨_, _, rfl⟩ := hr'.isSlice
    obtain ⟨_, _, rfl⟩ := hw'.isSlice
    rfl
  have hvr' := hr'.cells1
  have hvw' := hw'.cells1
  have gbM := (hk.get (h.next + 1) (by omega) (by omega)).trans gbK
  have sa := storeAll (vs := [.int .i64 t.ses, .int .i64 t.req, vc, va, vr', vw']) gbM rfl hone
  obtain ⟨M2, hM2⟩ : ∃ M2, M2 = M.set (h.next + 1) (.row [.int .i64 t.ses, .int .i64 t.req, vc, va, vr', vw'] 0 false) := ⟨_, rfl⟩
  have cM : cellsAt M2 (h.next + 1) 0 6 = some (txnV t.ses t.req vc va vr' vw') := by
    rw [hM2, cellsAt_row (get_set_same _ _) (Nat.le_of_ble_eq_true rfl)]; rfl
  rw [← hM2] at sa
  simp -implicitDefEqProofs (disch := first | omega | (simp -implicitDefEqProofs only [go_sem, List.size_toArray, List.length_cons, List.length_nil, Nat.reduceAdd]; done)) only [go_sem, Int.reduceLT, Int.reduceLE, Int.reduceEq, reduceIte, true_and, Nat.zero_add, Nat.add_zero, Option.map_some, Q1, Q2, hca, sa]
  refine ret_at (v := txnV t.ses t.req vc va vr' vw') ?_ ?_
  · rw [dResults_c1]
    simp -implicitDefEqProofs (disch := first | omega | (simp -implicitDefEqProofs only [go_sem, List.size_toArray, List.length_cons, List.length_nil, Nat.reduceAdd]; done)) only [go_sem, Int.reduceLT, Int.reduceLE, Int.reduceEq, reduceIte, true_and, Nat.zero_add, Nat.add_zero, Option.map_some, Q2, cM, dResC_some]
  · refine ⟨vc, va, vr', vw', rfl, by rw [hM2]; exact (hk.toExt hEK (Nat.le_refl _)).set (by omega), ?_, ?_, ?_, ?_⟩
    · refine yK.c.mono fun i hi => ⟨⟨by omega, by rw [hM2]; show i < M.next; omega⟩, ?_⟩
      rw [hM2, get_set_other _ _ (by omega)]
      exact hk.get i hi.2 (by omega)
    · refine yK.a.mono fun i hi => ⟨⟨by omega, by rw [hM2]; show i < M.next; omega⟩, ?_⟩
      rw [hM2, get_set_other _ _ (by omega)]
      exact hk.get i hi.2 (by omega)
    · refine hr'.mono fun i hi => ⟨⟨by omega, by rw [hM2]; exact hi.2⟩, ?_⟩
      rw [hM2, get_set_other _ _ (by omega)]
    · refine hw'.mono fun i hi => ⟨⟨by omega, by rw [hM2]; exact hi.2⟩, ?_⟩
      rw [hM2, get_set_other _ _ (by omega)]
end Go.Proofs.Ytbdljpndncohaaa

namespace Go.Proofs.Ytbdljpndncohaaa
open Go.D
set_option maxRecDepth 100000

/-- a session that no call made: nil, or all zero -/
def NoCl (h : DHeap) (p : Value) : Prop := p = .pointer none ∨ ∃ B, p = .pointer (some ⟨B, 0, none⟩) ∧ B < h.next ∧ cellAt h B 1 = some (.int .i64 0)
theorem NoCl.ext {h h1 : DHeap} {p : Value} (x : NoCl h p) (e : Ext h h1) : NoCl h1 p := by
  rcases x with x | ⟨B, x, z, y⟩
  · exact .inl x
  · exact .inr ⟨B, x, Nat.lt_of_lt_of_le z e.next, (cellAt_ext e z).trans y⟩
theorem ptr_some {h : DHeap} {ox oy : Operand} {B : Nat} : dBinOp Try.prog .eql 30 ox oy (.pointer (some ⟨B, 0, none⟩)) (.pointer none) h = .ok (.value (.bool false)) h := by
  rfl
theorem none_at {h : DHeap} {B : Nat} {n : Int} (hc : cellAt h B 1 = some (.int .i64 n)) : DC Try.prog 31 [.pointer (some ⟨B, 0, none⟩)] h (.ret (.bool (decide (n = 0)))) h := by
  refine Ct.pure (go_31 (by simp) ?_) (vin_bool _)
  simp -implicitDefEqProofs (disch := first | omega | (simp -implicitDefEqProofs only [go_sem, List.size_toArray, List.length_cons, List.length_nil, Nat.reduceAdd]; done)) only [go_sem, Int.reduceLT, Int.reduceLE, Int.reduceEq, reduceIte, true_and, Nat.zero_add, Nat.add_zero, Option.map_some, c31, ptr_some, hc, dPick_t, dPick_f]
  exact ⟨_, rfl, rfl, .refl _⟩
abbrev nilV : Value := .slice none 0 0
abbrev askL0 : List Value := [.int .i64 0, .int .i64 0, .int .i64 0, nilV, nilV, nilV, nilV, .bool false, nilV, .int .i64 0]
abbrev askV0 : Value := .agg askL0.toArray
theorem bd_ask0 : dBuild Try.prog 36 [] = some askV0 := dBuild_at plc_36 rfl
abbrev txL0 : List Value := [.int .i64 0, .int .i64 0, nilV, nilV, nilV, nilV]
theorem bd_txn0 : dBuild Try.prog 26 [] = some (.agg txL0.toArray) := dBuild_at plc_26 rfl
theorem res_ct {P : Program} {fr : Fr} {K : DHeap} {a b id n : Nat} {t : TypeId} {v w : Value} (fa : fr a = some (.pointer (some ⟨id, 0, none⟩))) (fb : fr b = some w) (ld : ∀ K, dLoad P t (.pointer (some ⟨id, 0, none⟩)) K = cellsAt K id 0 n) (hk : cellsAt K id 0 n = some v) :
    dResults P [.cell a t, .tmp b] fr K = some (.tuple #[v, w]) := by
  rw [dResults_d2, dRes1_cell, dRes1_tmp, fa, fb, dResC_some, ld, hk, tup2_some]
theorem store_self {h : DHeap} {id z : Nat} {cs : List Value} (g : h.get id = some (.row cs z false)) (ho : cs.all Value.oneCell' = true) : storeAt h id 0 cs = some h := (storeAll g rfl ho).trans (congrArg some (set_self g))
theorem row_cells {h : DHeap} {id z n : Nat} {cs : List Value} {ro : Bool} (g : h.get id = some (.row cs z ro)) (hn : n = cs.length) : cellsAt h id 0 n = some (.agg cs.toArray) := by
  subst hn
  rw [cellsAt_row g (by simp)]
  simp
end Go.Proofs.Ytbdljpndncohaaa

namespace Go.Proofs.Ytbdljpndncohaaa
open Go.D
set_option maxRecDepth 100000

/-- a session -/
structure Cl where
  ses : Int
  reps : Int
  req : Int
  pend : Bool
  t : Txn
  wait : Int
  turn : Int
  tok : Int
  any : Bool
  last : Res
abbrev clL (c : Cl) (vc va vr vw vv : Value) : List Value := [.int .i64 c.ses, .int .i64 c.reps, .int .i64 c.req, .bool c.pend, .int .i64 c.t.ses, .int .i64 c.t.req, vc, va, vr, vw, .int .i64 c.wait, .int .i64 c.turn, .int .i64 c.tok, .bool c.any, .int .i64 c.last.e, vv, .int .i64 c.last.s, .int .i64 c.last.p]
def tx0 : Txn := ⟨0, 0, [], [], [], []⟩
def cl0 (s r : Int) : Cl := ⟨s, r, 0, false, tx0, 0, 0, 0, false, ⟨0, [], 0, 0⟩⟩
/-- a session's box -/
structure ClAt (S : Nat → Prop) (h : DHeap) (B : Nat) (c : Cl) (vc va vr vw vv : Value) : Prop where
  row : h.get B = some (.row (clL c vc va vr vw vv) 0 false)
  tx : TxV S h c.t vc va vr vw
  lv : Sl fI64.rep S h vv c.last.vs
  lt : B < h.next
  inS : ∀ i, S i → i < h.next ∧ i ≠ B
theorem ClAt.ext {S : Nat → Prop} {h h1 : DHeap} {B : Nat} {c : Cl} {vc va vr vw vv : Value} (x : ClAt S h B c vc va vr vw vv) (e : Ext h h1) : ClAt S h1 B c vc va vr vw vv :=
  ⟨(e.get _ x.lt).trans x.row, x.tx.mono fun i hi => ⟨hi, e.get i (x.inS i hi).1⟩, x.lv.mono fun i hi => ⟨hi, e.get i (x.inS i hi).1⟩, Nat.lt_of_lt_of_le x.lt e.next, fun i hi => ⟨Nat.lt_of_lt_of_le (x.inS i hi).1 e.next, (x.inS i hi).2⟩⟩
theorem ClAt.cell {S : Nat → Prop} {h : DHeap} {B : Nat} {c : Cl} {vc va vr vw vv : Value} (x : ClAt S h B c vc va vr vw vv) (o : Nat) : cellAt h B o = (clL c vc va vr vw vv)[o]? := cellAt_row x.row
theorem ClAt.txn {S : Nat → Prop} {h : DHeap} {B : Nat} {c : Cl} {vc va vr vw vv : Value} (x : ClAt S h B c vc va vr vw vv) : cellsAt h B 4 6 = some (txnV c.t.ses c.t.req vc va vr vw) := by
  rw [cellsAt_row x.row (Nat.le_of_ble_eq_true rfl)]; rfl
theorem ClAt.res {S : Nat → Prop} {h : DHeap} {B : Nat} {c : Cl} {vc va vr vw vv : Value} (x : ClAt S h B c vc va vr vw vv) : cellsAt h B 14 4 = some (.agg #[.int .i64 c.last.e, vv, .int .i64 c.last.s, .int .i64 c.last.p]) := by
  rw [cellsAt_row x.row (Nat.le_of_ble_eq_true rfl)]; rfl
theorem bd_cl0 {s r : Int} : dBuild Try.prog 76 [(0, .int .i64 s), (1, .int .i64 r)] = some (.agg (clL (cl0 s r) nilV nilV nilV nilV nilV).toArray) := dBuild_at plc_76 rfl
def newE (s r : Int) : Int := if s < 1 ∨ 1099511627776 < s ∨ r < 1 ∨ 5 < r then 1 else 0
theorem new_ok {h : DHeap} {s r : Int} (hb : newE s r = 0) : Ct Try.prog 9 [.int .i64 s, .int .i64 r] h fun rr h1 => rr = .ret (.tuple #[.pointer (some ⟨h.next, 0, none⟩), .int .i64 0]) ∧ h1 = h.push (.row (clL (cl0 s r) nilV nilV nilV nilV nilV) 0 false) := by
  refine go_9 (by simp) ?_
  have hb' : ¬ (s < 1 ∨ 1099511627776 < s ∨ r < 1 ∨ 5 < r) := by
    unfold newE at hb
    split at hb
    · cases hb
    · assumption
  have q1 : ¬ s < 1 := fun h => hb' (.inl h)
  have q2 : ¬ 1099511627776 < s := fun h => hb' (.inr (.inl h))
  have q3 : ¬ r < 1 := fun h => hb' (.inr (.inr (.inl h)))
  have q4 : ¬ 5 < r := fun h => hb' (.inr (.inr (.inr h)))
  simp -implicitDefEqProofs (disch := first | omega | (simp -implicitDefEqProofs only [go_sem, List.size_toArray, List.length_cons, List.length_nil, Nat.reduceAdd]; done)) only [go_sem, Int.reduceLT, Int.reduceLE, Int.reduceEq, reduceIte, true_and, Nat.zero_add, Nat.add_zero, Option.map_some, c9, q1, q2, q3, q4, dPick_t, dPick_f, bd_cl0]
  exact ⟨_, rfl, rfl, trivial⟩
theorem cl0_at {h : DHeap} {s r : Int} : ClAt NoS (h.push (.row (clL (cl0 s r) nilV nilV nilV nilV nilV) 0 false)) h.next (cl0 s r) nilV nilV nilV nilV nilV :=
  ⟨get_push_same _ _, ⟨.nil _ _ _, .nil _ _ _, .nil _ _ _, .nil _ _ _⟩, .nil _ _ _, Nat.lt_succ_self _, fun _ hi => hi.elim⟩
abbrev askL (k a b : Int) (vc va vr vw : Value) (q : Bool) (vk : Value) (m : Int) : List Value := [.int .i64 k, .int .i64 a, .int .i64 b, vc, va, vr, vw, .bool q, vk, .int .i64 m]
theorem bd_ask {k a b : Int} {vc va vr vw : Value} (hc : vc.cells = #[vc]) (ha : va.cells = #[va]) (hr : vr.cells = #[vr]) (hw : vw.cells = #[vw]) : dBuild Try.prog 36 [(0, .int .i64 k), (1, txnV a b vc va vr vw)] = some (.agg (askL k a b vc va vr vw false nilV 0).toArray) := by
  refine dBuild_at plc_36 ?_
  have e : (txnV a b vc va vr vw).cells = #[.int .i64 a, .int .i64 b, vc, va, vr, vw] := rfl
  simp only [fillL, List.getElem?_cons_zero, List.getElem?_cons_succ, e]
  rfl
theorem ask_one {S S' : Nat → Prop} {h h' : DHeap} {t : Txn} {vc va vr vw vk : Value} {l : List Key} (x : TxV S h t vc va vr vw) (y : Sl fKey.rep S' h' vk l) {k a b m : Int} {q : Bool} : (askL k a b vc va vr vw q vk m).all Value.oneCell' = true := by
  obtain ⟨_, _, rfl⟩ := x.c.isSlice
  obtain ⟨_, _, rfl⟩ := x.a.isSlice
  obtain ⟨_, _, rfl⟩ := x.r.isSlice
  obtain ⟨_, _, rfl⟩ := x.w.isSlice
  obtain ⟨_, _, rfl⟩ := y.isSlice
  rfl
structure AskG (B2 : Nat) (K0 K : DHeap) : Prop where
  keep : Keep B2 K0 K
  row : ∃ R, K.get B2 = some (.row R 0 false) ∧ R.length = 10
def AskV (B B2 : Nat) (c : Cl) (vc va vr vw : Value) (n : Nat) (k : Nat) (h : DHeap) (v : Value) : Prop :=
  match k with
  | 0 => v = .pointer (some ⟨B, 0, none⟩)
  | 1 => v = .pointer (some ⟨B, 0, none⟩)
  | 2 => v = .pointer (some ⟨B, 11, none⟩)
  | 3 => v = .int .i64 c.turn
  | 4 => v = .pointer (some ⟨B, 0, none⟩)
  | 5 => v = .pointer (some ⟨B, 0, none⟩)
  | 6 => v = .pointer (some ⟨B, 4, none⟩)
  | 7 => v = txnV c.t.ses c.t.req vc va vr vw
  | 8 => ∃ vc' va' vr' vw', v = txnV c.t.ses c.t.req vc' va' vr' vw' ∧ TxV (fun i => n ≤ i ∧ i < h.next) h c.t vc' va' vr' vw'
  | 9 => ∃ vc' va' vr' vw', v = .agg (askL c.turn c.t.ses c.t.req vc' va' vr' vw' false nilV 0).toArray ∧ TxV (fun i => n ≤ i ∧ i < h.next) h c.t vc' va' vr' vw'
  | 10 => ∃ vc' va' vr' vw', h.get B2 = some (.row (askL c.turn c.t.ses c.t.req vc' va' vr' vw' false nilV 0) 0 false) ∧ TxV (fun i => n ≤ i ∧ i < h.next) h c.t vc' va' vr' vw'
  | _ => True
theorem txf_ext {h h1 : DHeap} {n : Nat} {t : Txn} {vc va vr vw : Value} (e : Ext h h1) (x : TxV (fun i => n ≤ i ∧ i < h.next) h t vc va vr vw) : TxV (fun i => n ≤ i ∧ i < h1.next) h1 t vc va vr vw :=
  x.mono fun i hi => ⟨⟨hi.1, Nat.lt_of_lt_of_le hi.2 e.next⟩, e.get i hi.2⟩
theorem AskV.ext {B B2 n k : Nat} {c : Cl} {vc va vr vw v : Value} {h h1 : DHeap} (e : Ext h h1) (hB : B2 < h.next) (x : AskV B B2 c vc va vr vw n k h v) : AskV B B2 c vc va vr vw n k h1 v := by
  unfold AskV at *
  split at x <;> try exact x
  · obtain ⟨a, b, c, d, f, g⟩ := x
    exact ⟨a, b, c, d, f, txf_ext e g⟩
  · obtain ⟨a, b, c, d, f, g⟩ := x
    exact ⟨a, b, c, d, f, txf_ext e g⟩
  · obtain ⟨a, b, c, d, f, g⟩ := x
    exact ⟨a, b, c, d, (e.get _ hB).trans f, txf_ext e g⟩
theorem AskV.set {B B2 n k : Nat} {c : Cl} {vc va vr vw v : Value} {h : DHeap} {o : DObj} (x : AskV B B2 c vc va vr vw n k h v) (hk : k ≠ 10) (hB : B2 < n) : AskV B B2 c vc va vr vw n k (h.set B2 o) v := by
  unfold AskV at *
  split at x <;> try exact x
  · obtain ⟨a, b, c, d, f, g⟩ := x
    exact ⟨a, b, c, d, f, g.mono fun i hi => ⟨hi, get_set_other _ _ (by omega)⟩⟩
  · obtain ⟨a, b, c, d, f, g⟩ := x
    exact ⟨a, b, c, d, f, g.mono fun i hi => ⟨hi, get_set_other _ _ (by omega)⟩⟩
  · exact absurd rfl hk
set_option maxHeartbeats 1000000 in
theorem ask_region {S : Nat → Prop} {K0 : DHeap} {B B2 : Nat} {c : Cl} {vc va vr vw vv : Value} {fr : Fr} {rd : Option Nat} (x : ClAt S K0 B c vc va vr vw vv) (hl : TxLen c.t) (hB2 : B2 < K0.next) (hBB : B ≠ B2) (hSB : ∀ i, S i → i ≠ B2) (hrow : ∃ R, K0.get B2 = some (.row R 0 false) ∧ R.length = 10)
    (f0 : fr 0 = some (.pointer (some ⟨B, 0, none⟩))) (f2 : fr 2 = some (.pointer (some ⟨B2, 0, none⟩))) :
    NC Try.prog 13 r33_0 (DThen (fun s => s.df = [] ∧ s.rd = rd ∧ s.fr 2 = fr 2 ∧ Keep B2 K0 s.h ∧ ∃ vc' va' vr' vw', s.h.get B2 = some (.row (askL c.turn c.t.ses c.t.req vc' va' vr' vw' false nilV 0) 0 false) ∧ TxV (fun i => K0.next ≤ i ∧ i < s.h.next) s.h c.t vc' va' vr' vw') (fun _ _ => False)) ⟨fr, [], K0, rd⟩ := by
  refine NC.regsU (l := l33_0) (by kernel_rfl) (by kernel_rfl) (by kernel_rfl) rfl (by kernel_rfl) (by kernel_rfl) (fun p q => AskG B2 K0 p → AskG B2 K0 q) (fun _ h => h) (fun _ _ _ f g h => g (f h)) (AskV B B2 c vc va vr vw K0.next) (fun _ => none) (fun _ _ => True) (fun _ => trivial) ?_ ?_
  case refine_2 =>
    rintro ⟨fr1, df1, K, rd1⟩ g hF
    have gg := g.ext ⟨⟨Nat.le_refl _, rfl, fun _ _ _ => rfl⟩, hrow⟩
    obtain ⟨_, hx⟩ := (hF 10 (by decide) rfl).fact
    exact ⟨g.df, g.rd, g.fr 2 (by kernel_rfl), gg.keep, hx⟩
  intro k oo s ho g hpre hown hF hU
  have gg := g.ext ⟨⟨Nat.le_refl _, rfl, fun _ _ _ => rfl⟩, hrow⟩
  have hBs : B2 < s.h.next := Nat.lt_of_lt_of_le hB2 gg.keep.next
  have hx : ClAt S s.h B c vc va vr vw vv := ⟨(gg.keep.get _ x.lt hBB).trans x.row, x.tx.mono fun i hi => ⟨hi, gg.keep.get i (x.inS i hi).1 (hSB i hi)⟩, x.lv.mono fun i hi => ⟨hi, gg.keep.get i (x.inS i hi).1 (hSB i hi)⟩, Nat.lt_of_lt_of_le x.lt gg.keep.next, fun i hi => ⟨Nat.lt_of_lt_of_le (x.inS i hi).1 gg.keep.next, (x.inS i hi).2⟩⟩
  have F0 : s.fr 0 = some (.pointer (some ⟨B, 0, none⟩)) := (g.fr 0 (by kernel_rfl)).trans f0
  have F2 : s.fr 2 = some (.pointer (some ⟨B2, 0, none⟩)) := (g.fr 2 (by kernel_rfl)).trans f2
  have hvc := x.tx.c.cells1
  have hva := x.tx.a.cells1
  have hvr := x.tx.r.cells1
  have hvw := x.tx.w.cells1
  have hk' : k < 11 := (List.getElem?_eq_some_iff.1 ho).1
  match k, hk' with
  | 0, _ =>
    simp only [l33_0, List.getElem?_cons_zero, List.getElem?_cons_succ, Option.some.injEq] at ho
    subst ho
    exact regu_pure (v := .pointer (some ⟨B, 0, none⟩)) (fun _ h => h) (by simp -implicitDefEqProofs (disch := first | omega | (simp -implicitDefEqProofs only [go_sem, List.size_toArray, List.length_cons, List.length_nil, Nat.reduceAdd]; done)) only [go_sem, Int.reduceLT, Int.reduceLE, Int.reduceEq, reduceIte, true_and, Nat.zero_add, Nat.add_zero, Option.map_some]) (by simp -implicitDefEqProofs (disch := first | omega | (simp -implicitDefEqProofs only [go_sem, List.size_toArray, List.length_cons, List.length_nil, Nat.reduceAdd]; done)) only [go_sem, Int.reduceLT, Int.reduceLE, Int.reduceEq, reduceIte, true_and, Nat.zero_add, Nat.add_zero, Option.map_some, F0]) rfl
  | 1, _ =>
    simp only [l33_0, List.getElem?_cons_zero, List.getElem?_cons_succ, Option.some.injEq] at ho
    subst ho
    have q0 : s.fr 3 = some (.pointer (some ⟨B, 0, none⟩)) := (hF 0 (by kernel_rfl) (.inl rfl)).eq rfl fun _ _ e => e
    exact regu_pure (v := .pointer (some ⟨B, 0, none⟩)) (fun _ h => h) (by simp -implicitDefEqProofs (disch := first | omega | (simp -implicitDefEqProofs only [go_sem, List.size_toArray, List.length_cons, List.length_nil, Nat.reduceAdd]; done)) only [go_sem, Int.reduceLT, Int.reduceLE, Int.reduceEq, reduceIte, true_and, Nat.zero_add, Nat.add_zero, Option.map_some]) (by simp -implicitDefEqProofs (disch := first | omega | (simp -implicitDefEqProofs only [go_sem, List.size_toArray, List.length_cons, List.length_nil, Nat.reduceAdd]; done)) only [go_sem, Int.reduceLT, Int.reduceLE, Int.reduceEq, reduceIte, true_and, Nat.zero_add, Nat.add_zero, Option.map_some, q0]) rfl
  | 2, _ =>
    simp only [l33_0, List.getElem?_cons_zero, List.getElem?_cons_succ, Option.some.injEq] at ho
    subst ho
    have q1 : s.fr 4 = some (.pointer (some ⟨B, 0, none⟩)) := (hF 1 (by kernel_rfl) (.inl rfl)).eq rfl fun _ _ e => e
    exact regu_pure (v := .pointer (some ⟨B, 11, none⟩)) (fun _ h => h) (by simp -implicitDefEqProofs (disch := first | omega | (simp -implicitDefEqProofs only [go_sem, List.size_toArray, List.length_cons, List.length_nil, Nat.reduceAdd]; done)) only [go_sem, Int.reduceLT, Int.reduceLE, Int.reduceEq, reduceIte, true_and, Nat.zero_add, Nat.add_zero, Option.map_some]) (by simp -implicitDefEqProofs (disch := first | omega | (simp -implicitDefEqProofs only [go_sem, List.size_toArray, List.length_cons, List.length_nil, Nat.reduceAdd]; done)) only [go_sem, Int.reduceLT, Int.reduceLE, Int.reduceEq, reduceIte, true_and, Nat.zero_add, Nat.add_zero, Option.map_some, q1]) rfl
  | 3, _ =>
    simp only [l33_0, List.getElem?_cons_zero, List.getElem?_cons_succ, Option.some.injEq] at ho
    subst ho
    have q2 : s.fr 5 = some (.pointer (some ⟨B, 11, none⟩)) := (hF 2 (by kernel_rfl) (.inl rfl)).eq rfl fun _ _ e => e
    exact regu_pure (v := .int .i64 c.turn) (fun _ h => h) (by simp -implicitDefEqProofs (disch := first | omega | (simp -implicitDefEqProofs only [go_sem, List.size_toArray, List.length_cons, List.length_nil, Nat.reduceAdd]; done)) only [go_sem, Int.reduceLT, Int.reduceLE, Int.reduceEq, reduceIte, true_and, Nat.zero_add, Nat.add_zero, Option.map_some]) (by simp -implicitDefEqProofs (disch := first | omega | (simp -implicitDefEqProofs only [go_sem, List.size_toArray, List.length_cons, List.length_nil, Nat.reduceAdd]; done)) only [go_sem, Int.reduceLT, Int.reduceLE, Int.reduceEq, reduceIte, true_and, Nat.zero_add, Nat.add_zero, Option.map_some, q2, hx.cell]) rfl
  | 4, _ =>
    simp only [l33_0, List.getElem?_cons_zero, List.getElem?_cons_succ, Option.some.injEq] at ho
    subst ho
    exact regu_pure (v := .pointer (some ⟨B, 0, none⟩)) (fun _ h => h) (by simp -implicitDefEqProofs (disch := first | omega | (simp -implicitDefEqProofs only [go_sem, List.size_toArray, List.length_cons, List.length_nil, Nat.reduceAdd]; done)) only [go_sem, Int.reduceLT, Int.reduceLE, Int.reduceEq, reduceIte, true_and, Nat.zero_add, Nat.add_zero, Option.map_some]) (by simp -implicitDefEqProofs (disch := first | omega | (simp -implicitDefEqProofs only [go_sem, List.size_toArray, List.length_cons, List.length_nil, Nat.reduceAdd]; done)) only [go_sem, Int.reduceLT, Int.reduceLE, Int.reduceEq, reduceIte, true_and, Nat.zero_add, Nat.add_zero, Option.map_some, F0]) rfl
  | 5, _ =>
    simp only [l33_0, List.getElem?_cons_zero, List.getElem?_cons_succ, Option.some.injEq] at ho
    subst ho
    have q4 : s.fr 7 = some (.pointer (some ⟨B, 0, none⟩)) := (hF 4 (by kernel_rfl) (.inl rfl)).eq rfl fun _ _ e => e
    exact regu_pure (v := .pointer (some ⟨B, 0, none⟩)) (fun _ h => h) (by simp -implicitDefEqProofs (disch := first | omega | (simp -implicitDefEqProofs only [go_sem, List.size_toArray, List.length_cons, List.length_nil, Nat.reduceAdd]; done)) only [go_sem, Int.reduceLT, Int.reduceLE, Int.reduceEq, reduceIte, true_and, Nat.zero_add, Nat.add_zero, Option.map_some]) (by simp -implicitDefEqProofs (disch := first | omega | (simp -implicitDefEqProofs only [go_sem, List.size_toArray, List.length_cons, List.length_nil, Nat.reduceAdd]; done)) only [go_sem, Int.reduceLT, Int.reduceLE, Int.reduceEq, reduceIte, true_and, Nat.zero_add, Nat.add_zero, Option.map_some, q4]) rfl
  | 6, _ =>
    simp only [l33_0, List.getElem?_cons_zero, List.getElem?_cons_succ, Option.some.injEq] at ho
    subst ho
    have q5 : s.fr 8 = some (.pointer (some ⟨B, 0, none⟩)) := (hF 5 (by kernel_rfl) (.inl rfl)).eq rfl fun _ _ e => e
    exact regu_pure (v := .pointer (some ⟨B, 4, none⟩)) (fun _ h => h) (by simp -implicitDefEqProofs (disch := first | omega | (simp -implicitDefEqProofs only [go_sem, List.size_toArray, List.length_cons, List.length_nil, Nat.reduceAdd]; done)) only [go_sem, Int.reduceLT, Int.reduceLE, Int.reduceEq, reduceIte, true_and, Nat.zero_add, Nat.add_zero, Option.map_some]) (by simp -implicitDefEqProofs (disch := first | omega | (simp -implicitDefEqProofs only [go_sem, List.size_toArray, List.length_cons, List.length_nil, Nat.reduceAdd]; done)) only [go_sem, Int.reduceLT, Int.reduceLE, Int.reduceEq, reduceIte, true_and, Nat.zero_add, Nat.add_zero, Option.map_some, q5]) rfl
  | 7, _ =>
    simp only [l33_0, List.getElem?_cons_zero, List.getElem?_cons_succ, Option.some.injEq] at ho
    subst ho
    have q6 : s.fr 9 = some (.pointer (some ⟨B, 4, none⟩)) := (hF 6 (by kernel_rfl) (.inl rfl)).eq rfl fun _ _ e => e
    exact regu_pure (v := txnV c.t.ses c.t.req vc va vr vw) (fun _ h => h) (by simp -implicitDefEqProofs (disch := first | omega | (simp -implicitDefEqProofs only [go_sem, List.size_toArray, List.length_cons, List.length_nil, Nat.reduceAdd]; done)) only [go_sem, Int.reduceLT, Int.reduceLE, Int.reduceEq, reduceIte, true_and, Nat.zero_add, Nat.add_zero, Option.map_some]) (by simp -implicitDefEqProofs (disch := first | omega | (simp -implicitDefEqProofs only [go_sem, List.size_toArray, List.length_cons, List.length_nil, Nat.reduceAdd]; done)) only [go_sem, Int.reduceLT, Int.reduceLE, Int.reduceEq, reduceIte, true_and, Nat.zero_add, Nat.add_zero, Option.map_some, q6, hx.txn]) rfl
  | 8, _ =>
    simp only [l33_0, List.getElem?_cons_zero, List.getElem?_cons_succ, Option.some.injEq] at ho
    subst ho
    have q7 : s.fr 10 = some (txnV c.t.ses c.t.req vc va vr vw) := (hF 7 (by kernel_rfl) (.inl rfl)).eq rfl fun _ _ e => e
    refine regu_ct (by simp -implicitDefEqProofs (disch := first | omega | (simp -implicitDefEqProofs only [go_sem, List.size_toArray, List.length_cons, List.length_nil, Nat.reduceAdd]; done)) only [go_sem, Int.reduceLT, Int.reduceLE, Int.reduceEq, reduceIte, true_and, Nat.zero_add, Nat.add_zero, Option.map_some]) (by simp -implicitDefEqProofs (disch := first | omega | (simp -implicitDefEqProofs only [go_sem, List.size_toArray, List.length_cons, List.length_nil, Nat.reduceAdd]; done)) only [go_sem, Int.reduceLT, Int.reduceLE, Int.reduceEq, reduceIte, true_and, Nat.zero_add, Nat.add_zero, Option.map_some, q7]) (cloneT_c (hx.tx.mono fun i hi => ⟨(hx.inS i hi).1, rfl⟩) hl) fun r h2 hR => ?_
    obtain ⟨c', a', r', w', e1, e2, e3⟩ := hR
    refine ⟨_, e1, fun gx => ⟨gx.keep.ext e2, ?_⟩, ⟨c', a', r', w', rfl, e3.mono fun i hi => ⟨⟨Nat.le_trans gg.keep.next hi.1, hi.2⟩, rfl⟩⟩, fun j u _ _ _ hV => hV.ext e2 hBs, fun _ _ _ _ => trivial⟩
    obtain ⟨R, hR⟩ := gx.row
    exact ⟨R, (e2.get _ hBs).trans hR.1, hR.2⟩
  | 9, _ =>
    simp only [l33_0, List.getElem?_cons_zero, List.getElem?_cons_succ, Option.some.injEq] at ho
    subst ho
    have q3 : s.fr 6 = some (.int .i64 c.turn) := (hF 3 (by kernel_rfl) (.inl rfl)).eq rfl fun _ _ e => e
    obtain ⟨u, q8, c', a', r', w', e1, e2⟩ := (hF 8 (by kernel_rfl) (.inl rfl)).ex (d := 11) rfl
    subst e1
    have hbd := bd_ask (k := c.turn) (a := c.t.ses) (b := c.t.req) e2.c.cells1 e2.a.cells1 e2.r.cells1 e2.w.cells1
    exact regu_pure (v := .agg (askL c.turn c.t.ses c.t.req c' a' r' w' false nilV 0).toArray) (fun _ h => h) (by simp -implicitDefEqProofs (disch := first | omega | (simp -implicitDefEqProofs only [go_sem, List.size_toArray, List.length_cons, List.length_nil, Nat.reduceAdd]; done)) only [go_sem, Int.reduceLT, Int.reduceLE, Int.reduceEq, reduceIte, true_and, Nat.zero_add, Nat.add_zero, Option.map_some]) (by simp -implicitDefEqProofs (disch := first | omega | (simp -implicitDefEqProofs only [go_sem, List.size_toArray, List.length_cons, List.length_nil, Nat.reduceAdd]; done)) only [go_sem, Int.reduceLT, Int.reduceLE, Int.reduceEq, reduceIte, true_and, Nat.zero_add, Nat.add_zero, Option.map_some, q3, q8, hbd]) ⟨c', a', r', w', rfl, e2⟩
  | 10, _ =>
    simp only [l33_0, List.getElem?_cons_zero, List.getElem?_cons_succ, Option.some.injEq] at ho
    subst ho
    obtain ⟨u, q9, c', a', r', w', e1, e2⟩ := (hF 9 (by kernel_rfl) (.inl rfl)).ex (d := 12) rfl
    subst e1
    obtain ⟨R, hR, hRl⟩ := gg.row
    have hst := storeAll (vs := askL c.turn c.t.ses c.t.req c' a' r' w' false nilV 0) hR hRl.symm (ask_one e2 (.nil fKey.rep NoS s.h))
    have hc := e2.c.cells1
    have ha := e2.a.cells1
    have hr := e2.r.cells1
    have hw := e2.w.cells1
    exact regu_store (h' := s.h.set B2 (.row (askL c.turn c.t.ses c.t.req c' a' r' w' false nilV 0) 0 false)) (by simp -implicitDefEqProofs (disch := first | omega | (simp -implicitDefEqProofs only [go_sem, List.size_toArray, List.length_cons, List.length_nil, Nat.reduceAdd]; done)) only [go_sem, Int.reduceLT, Int.reduceLE, Int.reduceEq, reduceIte, true_and, Nat.zero_add, Nat.add_zero, Option.map_some]) (by simp -implicitDefEqProofs (disch := first | omega | (simp -implicitDefEqProofs only [go_sem, List.size_toArray, List.length_cons, List.length_nil, Nat.reduceAdd]; done)) only [go_sem, Int.reduceLT, Int.reduceLE, Int.reduceEq, reduceIte, true_and, Nat.zero_add, Nat.add_zero, Option.map_some, F2, q9, hst]) (fun gx => ⟨gx.keep.set _, _, get_set_same _ _, rfl⟩) ⟨c', a', r', w', get_set_same _ _, e2.mono fun i hi => ⟨hi, get_set_other _ _ (by omega)⟩⟩ (fun j u h1 _ _ hV => hV.set h1 hB2) (fun _ _ _ _ => trivial)
theorem ask_c {S : Nat → Prop} {h : DHeap} {B : Nat} {c : Cl} {vc va vr vw vv : Value} (x : ClAt S h B c vc va vr vw vv) (hl : TxLen c.t) :
    Ct Try.prog 33 [.pointer (some ⟨B, 0, none⟩)] h fun r h1 => ∃ vc' va' vr' vw', r = .ret (.agg (askL c.turn c.t.ses c.t.req vc' va' vr' vw' false nilV 0).toArray) ∧ Ext h h1 ∧ TxV (Fresh h h1) h1 c.t vc' va' vr' vw' := by
  refine go_33 (by simp) ?_
  obtain ⟨H, hH⟩ : ∃ H, H = h.push (.row askL0 0 false) := ⟨_, rfl⟩
  have hE : Ext h H := by rw [hH]; exact Ext.push1 _ _
  have hHn : H.next = h.next + 1 := by rw [hH]; rfl
  have gb : H.get h.next = some (.row askL0 0 false) := by rw [hH]; exact get_push_same _ _
  have xlt := x.lt
  simp -implicitDefEqProofs (disch := first | omega | (simp -implicitDefEqProofs only [go_sem, List.size_toArray, List.length_cons, List.length_nil, Nat.reduceAdd]; done)) only [go_sem, Int.reduceLT, Int.reduceLE, Int.reduceEq, reduceIte, true_and, Nat.zero_add, Nat.add_zero, Option.map_some, c33, next_push, ← hH]
  refine NC.mono (ask_region (B2 := h.next) (x.ext hE) hl (by omega) (by omega) (fun i hi => by have := (x.inS i hi).1; omega) ⟨_, gb, rfl⟩ (by simp -implicitDefEqProofs (disch := first | omega | (simp -implicitDefEqProofs only [go_sem, List.size_toArray, List.length_cons, List.length_nil, Nat.reduceAdd]; done)) only [go_sem, Int.reduceLT, Int.reduceLE, Int.reduceEq, reduceIte, true_and, Nat.zero_add, Nat.add_zero, Option.map_some]) (by simp -implicitDefEqProofs (disch := first | omega | (simp -implicitDefEqProofs only [go_sem, List.size_toArray, List.length_cons, List.length_nil, Nat.reduceAdd]; done)) only [go_sem, Int.reduceLT, Int.reduceLE, Int.reduceEq, reduceIte, true_and, Nat.zero_add, Nat.add_zero, Option.map_some])) ?_
  rintro e ⟨fr1, df1, M, rd1⟩ hM
  cases e <;> try exact hM.elim
  obtain ⟨rfl, rfl, q2, hk, vc', va', vr', vw', hrow, ht⟩ := hM
  have Q2 : fr1 2 = some (.pointer (some ⟨h.next, 0, none⟩)) := q2.trans (by simp -implicitDefEqProofs (disch := first | omega | (simp -implicitDefEqProofs only [go_sem, List.size_toArray, List.length_cons, List.length_nil, Nat.reduceAdd]; done)) only [go_sem, Int.reduceLT, Int.reduceLE, Int.reduceEq, reduceIte, true_and, Nat.zero_add, Nat.add_zero, Option.map_some])
  have hMn : _ ≤ M.next := hk.next
  have hca : cellsAt M h.next 0 10 = _ := row_cells hrow rfl
  simp -implicitDefEqProofs (disch := first | omega | (simp -implicitDefEqProofs only [go_sem, List.size_toArray, List.length_cons, List.length_nil, Nat.reduceAdd]; done)) only [go_sem, Int.reduceLT, Int.reduceLE, Int.reduceEq, reduceIte, true_and, Nat.zero_add, Nat.add_zero, Option.map_some]
  refine ret_at (v := .agg (askL c.turn c.t.ses c.t.req vc' va' vr' vw' false nilV 0).toArray) ?_ ⟨vc', va', vr', vw', rfl, hk.toExt hE (Nat.le_refl _), ht.mono fun i hi => ⟨⟨by omega, hi.2⟩, rfl⟩⟩
  rw [dResults_c1]
  simp -implicitDefEqProofs (disch := first | omega | (simp -implicitDefEqProofs only [go_sem, List.size_toArray, List.length_cons, List.length_nil, Nat.reduceAdd]; done)) only [go_sem, Int.reduceLT, Int.reduceLE, Int.reduceEq, reduceIte, true_and, Nat.zero_add, Nat.add_zero, Option.map_some, Q2, hca, dResC_some]
end Go.Proofs.Ytbdljpndncohaaa

namespace Go.Proofs.Ytbdljpndncohaaa
open Go.D
set_option maxRecDepth 100000

def subT (c : Cl) (t : Txn) : Txn := { normT t with ses := c.ses, req := c.req + 1 }
def submitE (c : Cl) (t : Txn) (k : Int) : Int := if c.pend then 251 else if k < 0 ∨ c.reps ≤ k then 1 else if 1099511627776 ≤ c.req then 6 else txnE (subT c t)
def submitC (c : Cl) (t : Txn) (k : Int) : Cl := { c with t := subT c t, req := c.req + 1, pend := true, wait := 0, turn := k }
theorem bytes_in {S : Nat → Prop} {h : DHeap} {v : Value} {l : List Int} (x : Sl fU8.rep S h v l) : ∀ j, 0 ≤ l.getD j 0 ∧ l.getD j 0 ≤ 255 := fun j => by
  by_cases hj : j < l.length
  · have := x.ok _ (List.getElem_mem hj)
    rw [List.getD_eq_getElem?_getD, List.getElem?_eq_getElem hj]
    exact this
  · rw [List.getD_eq_getElem?_getD, List.getElem?_eq_none (by omega)]
    exact ⟨by decide, by decide⟩
theorem TxLen.sub {c : Cl} {t : Txn} (h : TxLen t) : TxLen (subT c t) := ⟨h.c, h.a, Nat.le_trans (keysN_len _) h.r, Nat.le_trans (keysN_len _) h.w⟩
theorem none_no {S : Nat → Prop} {h : DHeap} {B : Nat} {c : Cl} {vc va vr vw vv : Value} (x : ClAt S h B c vc va vr vw vv) (hr : c.reps ≠ 0) : DC Try.prog 31 [.pointer (some ⟨B, 0, none⟩)] h (.ret (.bool false)) h := by
  have := none_at (h := h) (B := B) (n := c.reps) (x.cell 1)
  rwa [decide_eq_false hr] at this
theorem ClAt.setO {S : Nat → Prop} {h : DHeap} {B id : Nat} {c : Cl} {vc va vr vw vv : Value} {o : DObj} (x : ClAt S h B c vc va vr vw vv) (hb : B ≠ id) (hs : ∀ i, S i → i ≠ id) : ClAt S (h.set id o) B c vc va vr vw vv :=
  ⟨(get_set_other _ _ hb).trans x.row, x.tx.mono fun i hi => ⟨hi, get_set_other _ _ (hs i hi)⟩, x.lv.mono fun i hi => ⟨hi, get_set_other _ _ (hs i hi)⟩, x.lt, x.inS⟩
theorem ClAt.weak {S S' : Nat → Prop} {h : DHeap} {B : Nat} {c : Cl} {vc va vr vw vv : Value} (x : ClAt S h B c vc va vr vw vv) (m : ∀ i, S i → S' i) (hin : ∀ i, S' i → i < h.next ∧ i ≠ B) : ClAt S' h B c vc va vr vw vv :=
  ⟨x.row, x.tx.mono fun i hi => ⟨m i hi, rfl⟩, x.lv.mono fun i hi => ⟨m i hi, rfl⟩, x.lt, hin⟩
set_option maxHeartbeats 2000000 in
theorem submit_c {S : Nat → Prop} {h : DHeap} {B : Nat} {c : Cl} {uc ua ur uw uv vc va vr vw : Value} {t : Txn} {k : Int} (x : ClAt S h B c uc ua ur uw uv) (hr : c.reps ≠ 0) (hreq : 0 ≤ c.req) (y : TxV (InH h) h t vc va vr vw) (hl : TxLen t) :
    Ct Try.prog 11 [.pointer (some ⟨B, 0, none⟩), txnV t.ses t.req vc va vr vw, .int .i64 k] h fun r h1 =>
      (submitE c t k ≠ 0 ∧ r = .ret (.tuple #[askV0, .int .i64 (submitE c t k)]) ∧ Ext h h1) ∨
      (submitE c t k = 0 ∧ Keep B h h1 ∧ ∃ n1 vc' va' vr' vw' wc wa wr ww, h.next ≤ n1 ∧ n1 ≤ h1.next ∧ r = .ret (.tuple #[.agg (askL k (subT c t).ses (subT c t).req wc wa wr ww false nilV 0).toArray, .int .i64 0]) ∧ ClAt (fun i => S i ∨ (h.next ≤ i ∧ i < n1)) h1 B (submitC c t k) vc' va' vr' vw' uv ∧ TxV (fun i => n1 ≤ i ∧ i < h1.next) h1 (subT c t) wc wa wr ww) := by
  refine go_11 (by simp) ?_
  have hvc := y.c.cells1
  have hva := y.a.cells1
  have hvr := y.r.cells1
  have hvw := y.w.cells1
  obtain ⟨H, hH⟩ : ∃ H, H = (h.push (.row [.int .i64 t.ses, .int .i64 t.req, vc, va, vr, vw] 0 false)).push (.row askL0 0 false) := ⟨_, rfl⟩
  have hE : Ext h H := by rw [hH]; exact (Ext.push1 _ _).push _
  have hHn : H.next = h.next + 2 := by rw [hH]; rfl
  have ga : H.get h.next = some (.row [.int .i64 t.ses, .int .i64 t.req, vc, va, vr, vw] 0 false) := by rw [hH]; exact get_p1
  have gb : H.get (h.next + 1) = some (.row askL0 0 false) := by rw [hH]; exact get_push_same _ _
  have ss := store_self gb rfl
  have xH := x.ext hE
  have xlt := x.lt
  have fail : ∀ {e : Int} {fr : Fr}, submitE c t k = e → e ≠ 0 → fr 6 = some (.pointer (some ⟨h.next + 1, 0, none⟩)) → fr 7 = some (.int .i64 e) → ∀ M, Ext h M → M.get (h.next + 1) = some (.row askL0 0 false) → ∃ v, dResults Try.prog [.cell 6 36, .tmp 7] fr M = some v ∧
      ((submitE c t k ≠ 0 ∧ DEnd.ret v = .ret (.tuple #[askV0, .int .i64 (submitE c t k)]) ∧ Ext h M) ∨
      (submitE c t k = 0 ∧ Keep B h M ∧ ∃ n1 vc' va' vr' vw' wc wa wr ww, h.next ≤ n1 ∧ n1 ≤ M.next ∧ DEnd.ret v = .ret (.tuple #[.agg (askL k (subT c t).ses (subT c t).req wc wa wr ww false nilV 0).toArray, .int .i64 0]) ∧ ClAt (fun i => S i ∨ (h.next ≤ i ∧ i < n1)) M B (submitC c t k) vc' va' vr' vw' uv ∧ TxV (fun i => n1 ≤ i ∧ i < M.next) M (subT c t) wc wa wr ww)) := fun {e fr} he h0 f6 f7 M hM gM =>
    ret_at (res_ct (n := 10) f6 f7 (fun _ => ld_36) (row_cells gM rfl)) (.inl ⟨he ▸ h0, by rw [he], hM⟩)
  simp -implicitDefEqProofs (disch := first | omega | (simp -implicitDefEqProofs only [go_sem, List.size_toArray, List.length_cons, List.length_nil, Nat.reduceAdd]; done)) only [go_sem, Int.reduceLT, Int.reduceLE, Int.reduceEq, reduceIte, true_and, Nat.zero_add, Nat.add_zero, Option.map_some, c11, next_push, ← hH]
  refine ncall (none_no xH hr) ?_
  cases hp : c.pend with
  | true =>
    simp -implicitDefEqProofs (disch := first | omega | (simp -implicitDefEqProofs only [go_sem, List.size_toArray, List.length_cons, List.length_nil, Nat.reduceAdd]; done)) only [go_sem, Int.reduceLT, Int.reduceLE, Int.reduceEq, reduceIte, true_and, Nat.zero_add, Nat.add_zero, Option.map_some, xH.cell, hp, bd_ask0, ss]
    exact fail (by rw [submitE, hp, if_pos rfl]) (by decide) (by simp -implicitDefEqProofs (disch := first | omega | (simp -implicitDefEqProofs only [go_sem, List.size_toArray, List.length_cons, List.length_nil, Nat.reduceAdd]; done)) only [go_sem, Int.reduceLT, Int.reduceLE, Int.reduceEq, reduceIte, true_and, Nat.zero_add, Nat.add_zero, Option.map_some]) (by simp -implicitDefEqProofs (disch := first | omega | (simp -implicitDefEqProofs only [go_sem, List.size_toArray, List.length_cons, List.length_nil, Nat.reduceAdd]; done)) only [go_sem, Int.reduceLT, Int.reduceLE, Int.reduceEq, reduceIte, true_and, Nat.zero_add, Nat.add_zero, Option.map_some]) H hE gb
  | false =>
  have hS0 : submitE c t k = if k < 0 ∨ c.reps ≤ k then 1 else if 1099511627776 ≤ c.req then 6 else txnE (subT c t) := by rw [submitE, hp]; rfl
  simp -implicitDefEqProofs (disch := first | omega | (simp -implicitDefEqProofs only [go_sem, List.size_toArray, List.length_cons, List.length_nil, Nat.reduceAdd]; done)) only [go_sem, Int.reduceLT, Int.reduceLE, Int.reduceEq, reduceIte, true_and, Nat.zero_add, Nat.add_zero, Option.map_some, xH.cell, hp]
  by_cases k1 : k < 0
  · have k1' := eq_true k1
    simp -implicitDefEqProofs (disch := first | omega | (simp -implicitDefEqProofs only [go_sem, List.size_toArray, List.length_cons, List.length_nil, Nat.reduceAdd]; done)) only [go_sem, Int.reduceLT, Int.reduceLE, Int.reduceEq, reduceIte, true_and, Nat.zero_add, Nat.add_zero, Option.map_some, k1', dPick_t, dPick_f, bd_ask0, ss]
    exact fail (by rw [hS0, if_pos (.inl k1)]) (by decide) (by simp -implicitDefEqProofs (disch := first | omega | (simp -implicitDefEqProofs only [go_sem, List.size_toArray, List.length_cons, List.length_nil, Nat.reduceAdd]; done)) only [go_sem, Int.reduceLT, Int.reduceLE, Int.reduceEq, reduceIte, true_and, Nat.zero_add, Nat.add_zero, Option.map_some]) (by simp -implicitDefEqProofs (disch := first | omega | (simp -implicitDefEqProofs only [go_sem, List.size_toArray, List.length_cons, List.length_nil, Nat.reduceAdd]; done)) only [go_sem, Int.reduceLT, Int.reduceLE, Int.reduceEq, reduceIte, true_and, Nat.zero_add, Nat.add_zero, Option.map_some]) H hE gb
  by_cases k2 : c.reps ≤ k
  · have k2' := eq_true k2
    simp -implicitDefEqProofs (disch := first | omega | (simp -implicitDefEqProofs only [go_sem, List.size_toArray, List.length_cons, List.length_nil, Nat.reduceAdd]; done)) only [go_sem, Int.reduceLT, Int.reduceLE, Int.reduceEq, reduceIte, true_and, Nat.zero_add, Nat.add_zero, Option.map_some, k1, xH.cell, k2', dPick_t, dPick_f, bd_ask0, ss]
    exact fail (by rw [hS0, if_pos (.inr k2)]) (by decide) (by simp -implicitDefEqProofs (disch := first | omega | (simp -implicitDefEqProofs only [go_sem, List.size_toArray, List.length_cons, List.length_nil, Nat.reduceAdd]; done)) only [go_sem, Int.reduceLT, Int.reduceLE, Int.reduceEq, reduceIte, true_and, Nat.zero_add, Nat.add_zero, Option.map_some]) (by simp -implicitDefEqProofs (disch := first | omega | (simp -implicitDefEqProofs only [go_sem, List.size_toArray, List.length_cons, List.length_nil, Nat.reduceAdd]; done)) only [go_sem, Int.reduceLT, Int.reduceLE, Int.reduceEq, reduceIte, true_and, Nat.zero_add, Nat.add_zero, Option.map_some]) H hE gb
  rw [if_neg (by omega)] at hS0
  by_cases k3 : 1099511627776 ≤ c.req
  · have k3' := eq_true k3
    simp -implicitDefEqProofs (disch := first | omega | (simp -implicitDefEqProofs only [go_sem, List.size_toArray, List.length_cons, List.length_nil, Nat.reduceAdd]; done)) only [go_sem, Int.reduceLT, Int.reduceLE, Int.reduceEq, reduceIte, true_and, Nat.zero_add, Nat.add_zero, Option.map_some, k1, xH.cell, k2, k3', dPick_t, dPick_f, bd_ask0, ss]
    exact fail (by rw [hS0, if_pos k3]) (by decide) (by simp -implicitDefEqProofs (disch := first | omega | (simp -implicitDefEqProofs only [go_sem, List.size_toArray, List.length_cons, List.length_nil, Nat.reduceAdd]; done)) only [go_sem, Int.reduceLT, Int.reduceLE, Int.reduceEq, reduceIte, true_and, Nat.zero_add, Nat.add_zero, Option.map_some]) (by simp -implicitDefEqProofs (disch := first | omega | (simp -implicitDefEqProofs only [go_sem, List.size_toArray, List.length_cons, List.length_nil, Nat.reduceAdd]; done)) only [go_sem, Int.reduceLT, Int.reduceLE, Int.reduceEq, reduceIte, true_and, Nat.zero_add, Nat.add_zero, Option.map_some]) H hE gb
  rw [if_neg k3] at hS0
  have hca0 : cellsAt H h.next 0 6 = some (txnV t.ses t.req vc va vr vw) := row_cells ga rfl
  simp -implicitDefEqProofs (disch := first | omega | (simp -implicitDefEqProofs only [go_sem, List.size_toArray, List.length_cons, List.length_nil, Nat.reduceAdd]; done)) only [go_sem, Int.reduceLT, Int.reduceLE, Int.reduceEq, reduceIte, true_and, Nat.zero_add, Nat.add_zero, Option.map_some, k1, xH.cell, k2, k3, dPick_t, dPick_f, hca0]
  refine ncall_ct (normal_c (y.ext hE) hl) ?_
  rintro r H1 ⟨vc', va', vr', vw', rfl, hE1, z⟩
  have hE1n := hE1.next
  have ga1 := (hE1.get _ (by omega)).trans ga
  have gb1 := (hE1.get _ (by omega)).trans gb
  have x1 := xH.ext hE1
  have hvc' := z.c.cells1
  have hva' := z.a.cells1
  have hvr' := z.r.cells1
  have hvw' := z.w.cells1
  have sa1 := storeAll (vs := [.int .i64 t.ses, .int .i64 t.req, vc', va', vr', vw']) ga1 rfl (z.one _ _)
  simp -implicitDefEqProofs (disch := first | omega | (simp -implicitDefEqProofs only [go_sem, List.size_toArray, List.length_cons, List.length_nil, Nat.reduceAdd]; done)) only [go_sem, Int.reduceLT, Int.reduceLE, Int.reduceEq, reduceIte, true_and, Nat.zero_add, Nat.add_zero, Option.map_some, XEnd, sa1]
  have hwq : IntKind.i64.wrap (c.req + 1) = c.req + 1 := wrap_i64_in (by omega) (by omega)
  have y1 : ∀ o, ClAt S (H1.set h.next o) B c uc ua ur uw uv := fun o => x1.setO (by omega) fun i hi => by have := (x.inS i hi).1; omega
  have hs1 : storeAt (H1.set h.next (.row [.int .i64 t.ses, .int .i64 t.req, vc', va', vr', vw'] 0 false)) h.next 0 [.int .i64 c.ses] = some (H1.set h.next (.row [.int .i64 c.ses, .int .i64 t.req, vc', va', vr', vw'] 0 false)) := by
    rw [store_cell rfl rfl (by simp) rfl (get_set_same _ _), set_set]
    rfl
  have hs2 : storeAt (H1.set h.next (.row [.int .i64 c.ses, .int .i64 t.req, vc', va', vr', vw'] 0 false)) h.next 1 [.int .i64 (c.req + 1)] = some (H1.set h.next (.row [.int .i64 c.ses, .int .i64 (c.req + 1), vc', va', vr', vw'] 0 false)) := by
    rw [store_cell rfl rfl (by simp) rfl (get_set_same _ _), set_set]
    rfl
  refine dr_11_0 ?_
  simp -implicitDefEqProofs (disch := first | omega | (simp -implicitDefEqProofs only [go_sem, List.size_toArray, List.length_cons, List.length_nil, Nat.reduceAdd]; done)) only [go_sem, Int.reduceLT, Int.reduceLE, Int.reduceEq, reduceIte, true_and, Nat.zero_add, Nat.add_zero, Option.map_some, l11_0, (y1 _).cell, hwq, hs1, hs2]
  refine ⟨⟨XSt1_at (i := 7) (j := 10) rfl rfl rfl ?_, trivial⟩, ?_⟩
  · rw [if_neg (by decide)]
    exact Ld_on (p := .pointer (some ⟨B, 2, none⟩)) (by simp -implicitDefEqProofs (disch := first | omega | (simp -implicitDefEqProofs only [go_sem, List.size_toArray, List.length_cons, List.length_nil, Nat.reduceAdd]; done)) only [go_sem, Int.reduceLT, Int.reduceLE, Int.reduceEq, reduceIte, true_and, Nat.zero_add, Nat.add_zero, Option.map_some]) (by simp -implicitDefEqProofs (disch := first | omega | (simp -implicitDefEqProofs only [go_sem, List.size_toArray, List.length_cons, List.length_nil, Nat.reduceAdd]; done)) only [go_sem, Int.reduceLT, Int.reduceLE, Int.reduceEq, reduceIte, true_and, Nat.zero_add, Nat.add_zero, Option.map_some]) (ld_2.trans ((y1 _).cell 2))
  obtain ⟨K2, hK2⟩ : ∃ K2, K2 = H1.set h.next (.row [.int .i64 c.ses, .int .i64 (c.req + 1), vc', va', vr', vw'] 0 false) := ⟨_, rfl⟩
  rw [← hK2]
  have x2 : ClAt S K2 B c uc ua ur uw uv := by rw [hK2]; exact y1 _
  have gaK : K2.get h.next = some (.row [.int .i64 (subT c t).ses, .int .i64 (subT c t).req, vc', va', vr', vw'] 0 false) := by rw [hK2]; exact get_set_same _ _
  have gbK : K2.get (h.next + 1) = some (.row askL0 0 false) := by rw [hK2, get_set_other _ _ (by omega)]; exact gb1
  have hEK : Ext h K2 := by rw [hK2]; exact (hE.trans hE1).set (by omega)
  have hKn : K2.next = H1.next := by rw [hK2]; rfl
  have z2 : TxV (fun i => H.next ≤ i ∧ i < K2.next) K2 (subT c t) vc' va' vr' vw' := by
    have : TxV (fun i => H.next ≤ i ∧ i < K2.next) K2 (normT t) vc' va' vr' vw' := z.mono fun i hi => ⟨⟨hi.1, by rw [hKn]; exact hi.2⟩, by rw [hK2, get_set_other _ _ (by have := hi.1; omega)]⟩
    exact ⟨this.c, this.a, this.r, this.w⟩
  have z2a : TxV (InH K2) K2 (subT c t) vc' va' vr' vw' := z2.mono fun i hi => ⟨hi.2, rfl⟩
  have hlS : TxLen (subT c t) := hl.sub
  have hca2 : cellsAt K2 h.next 0 6 = some (txnV (subT c t).ses (subT c t).req vc' va' vr' vw') := row_cells gaK rfl
  have ss2 := store_self gbK rfl
  simp -implicitDefEqProofs (disch := first | omega | (simp -implicitDefEqProofs only [go_sem, List.size_toArray, List.length_cons, List.length_nil, Nat.reduceAdd]; done)) only [go_sem, Int.reduceLT, Int.reduceLE, Int.reduceEq, reduceIte, true_and, Nat.zero_add, Nat.add_zero, Option.map_some, hca2]
  refine ncall (checkT_c z2a.c z2a.a z2a.r z2a.w hlS.c (bytes_in z2a.c)) ?_
  by_cases he : txnE (subT c t) = 0
  case neg =>
    simp -implicitDefEqProofs (disch := first | omega | (simp -implicitDefEqProofs only [go_sem, List.size_toArray, List.length_cons, List.length_nil, Nat.reduceAdd]; done)) only [go_sem, Int.reduceLT, Int.reduceLE, Int.reduceEq, reduceIte, true_and, Nat.zero_add, Nat.add_zero, Option.map_some, he, bd_ask0, ss2]
    exact fail hS0 he (by simp -implicitDefEqProofs (disch := first | omega | (simp -implicitDefEqProofs only [go_sem, List.size_toArray, List.length_cons, List.length_nil, Nat.reduceAdd]; done)) only [go_sem, Int.reduceLT, Int.reduceLE, Int.reduceEq, reduceIte, true_and, Nat.zero_add, Nat.add_zero, Option.map_some]) (by simp -implicitDefEqProofs (disch := first | omega | (simp -implicitDefEqProofs only [go_sem, List.size_toArray, List.length_cons, List.length_nil, Nat.reduceAdd]; done)) only [go_sem, Int.reduceLT, Int.reduceLE, Int.reduceEq, reduceIte, true_and, Nat.zero_add, Nat.add_zero, Option.map_some]) K2 hEK gbK
  have he' := eq_true he
  simp -implicitDefEqProofs (disch := first | omega | (simp -implicitDefEqProofs only [go_sem, List.size_toArray, List.length_cons, List.length_nil, Nat.reduceAdd]; done)) only [go_sem, Int.reduceLT, Int.reduceLE, Int.reduceEq, reduceIte, true_and, Nat.zero_add, Nat.add_zero, Option.map_some, he']
  have hone : [.int .i64 (subT c t).ses, .int .i64 (subT c t).req, vc', va', vr', vw'].all Value.oneCell' = true := z2.one _ _
  obtain ⟨cA, hcA⟩ : ∃ cA : Cl, cA = { c with t := subT c t } := ⟨_, rfl⟩
  obtain ⟨cB, hcB⟩ : ∃ cB : Cl, cB = { cA with req := (subT c t).req } := ⟨_, rfl⟩
  obtain ⟨cC, hcC⟩ : ∃ cC : Cl, cC = { cB with pend := true } := ⟨_, rfl⟩
  obtain ⟨cD, hcD⟩ : ∃ cD : Cl, cD = { cC with wait := 0 } := ⟨_, rfl⟩
  have hb1 : storeAt K2 B 4 [.int .i64 (subT c t).ses, .int .i64 (subT c t).req, vc', va', vr', vw'] = some (K2.set B (.row (clL cA vc' va' vr' vw' uv) 0 false)) := by
    rw [storeAt_row x2.row (Nat.le_of_ble_eq_true rfl) hone, hcA]
    rfl
  have hb2 : storeAt (K2.set B (.row (clL cA vc' va' vr' vw' uv) 0 false)) B 2 [.int .i64 (subT c t).req] = some (K2.set B (.row (clL cB vc' va' vr' vw' uv) 0 false)) := by
    rw [store_cell rfl rfl (Nat.le_of_ble_eq_true rfl) rfl (get_set_same _ _), set_set, hcB]
    rfl
  have hb3 : storeAt (K2.set B (.row (clL cB vc' va' vr' vw' uv) 0 false)) B 3 [.bool true] = some (K2.set B (.row (clL cC vc' va' vr' vw' uv) 0 false)) := by
    rw [store_cell rfl rfl (Nat.le_of_ble_eq_true rfl) rfl (get_set_same _ _), set_set, hcC]
    rfl
  have hb4 : storeAt (K2.set B (.row (clL cC vc' va' vr' vw' uv) 0 false)) B 10 [.int .i64 0] = some (K2.set B (.row (clL cD vc' va' vr' vw' uv) 0 false)) := by
    rw [store_cell rfl rfl (Nat.le_of_ble_eq_true rfl) rfl (get_set_same _ _), set_set, hcD]
    rfl
  have hb5 : storeAt (K2.set B (.row (clL cD vc' va' vr' vw' uv) 0 false)) B 11 [.int .i64 k] = some (K2.set B (.row (clL (submitC c t k) vc' va' vr' vw' uv) 0 false)) := by
    rw [store_cell rfl rfl (Nat.le_of_ble_eq_true rfl) rfl (get_set_same _ _), set_set, hcD, hcC, hcB, hcA]
    rfl
  refine dr_11_1 ?_
  simp -implicitDefEqProofs (disch := first | omega | (simp -implicitDefEqProofs only [go_sem, List.size_toArray, List.length_cons, List.length_nil, Nat.reduceAdd]; done)) only [go_sem, Int.reduceLT, Int.reduceLE, Int.reduceEq, reduceIte, true_and, Nat.zero_add, Nat.add_zero, Option.map_some, l11_1, hca2, cellAt_row gaK, hb1, hb2, hb3, hb4, hb5]
  refine ⟨⟨XSt1_at (i := 7) (j := 11) rfl rfl rfl ?_, trivial⟩, ?_⟩
  · rw [if_neg (by decide)]
    exact Ld_on (p := .pointer (some ⟨h.next, 1, none⟩)) (by simp -implicitDefEqProofs (disch := first | omega | (simp -implicitDefEqProofs only [go_sem, List.size_toArray, List.length_cons, List.length_nil, Nat.reduceAdd]; done)) only [go_sem, Int.reduceLT, Int.reduceLE, Int.reduceEq, reduceIte, true_and, Nat.zero_add, Nat.add_zero, Option.map_some]) (by simp -implicitDefEqProofs (disch := first | omega | (simp -implicitDefEqProofs only [go_sem, List.size_toArray, List.length_cons, List.length_nil, Nat.reduceAdd]; done)) only [go_sem, Int.reduceLT, Int.reduceLE, Int.reduceEq, reduceIte, true_and, Nat.zero_add, Nat.add_zero, Option.map_some]) (ld_2.trans (cellAt_row ((get_set_other _ _ (by omega)).trans gaK)))
  obtain ⟨M, hM⟩ : ∃ M, M = K2.set B (.row (clL (submitC c t k) vc' va' vr' vw' uv) 0 false) := ⟨_, rfl⟩
  rw [← hM]
  have hMn : M.next = K2.next := by rw [hM]; rfl
  have xM : ClAt (fun i => S i ∨ (H.next ≤ i ∧ i < M.next)) M B (submitC c t k) vc' va' vr' vw' uv := by
    refine ⟨by rw [hM]; exact get_set_same _ _, z2.mono fun i hi => ⟨.inr ⟨hi.1, by omega⟩, ?_⟩, x2.lv.mono fun i hi => ⟨.inl hi, ?_⟩, by rw [hMn]; exact x2.lt, fun i hi => ?_⟩
    · rw [hM, get_set_other _ _ (by omega)]
    · rw [hM, get_set_other _ _ (x.inS i hi).2]
    · rcases hi with hi | hi
      · have := x.inS i hi
        exact ⟨by omega, this.2⟩
      · exact ⟨hi.2, by omega⟩
  refine ncall_ct (ask_c xM hlS) ?_
  rintro r F ⟨wc, wa, wr, ww, rfl, hEF, q⟩
  have hFn := hEF.next
  have gbF : F.get (h.next + 1) = some (.row askL0 0 false) := (hEF.get _ (by omega)).trans (by rw [hM, get_set_other _ _ (by omega)]; exact gbK)
  have saF := storeAll (vs := askL k (subT c t).ses (subT c t).req wc wa wr ww false nilV 0) gbF rfl (ask_one q (.nil fKey.rep NoS F))
  have hwc := q.c.cells1
  have hwa := q.a.cells1
  have hwr := q.r.cells1
  have hww := q.w.cells1
  have hr2 : (Value.agg (askL (submitC c t k).turn (submitC c t k).t.ses (submitC c t k).t.req wc wa wr ww false nilV 0).toArray) = .agg (askL k (subT c t).ses (subT c t).req wc wa wr ww false nilV 0).toArray := rfl
  rw [hr2]
  simp -implicitDefEqProofs (disch := first | omega | (simp -implicitDefEqProofs only [go_sem, List.size_toArray, List.length_cons, List.length_nil, Nat.reduceAdd]; done)) only [go_sem, Int.reduceLT, Int.reduceLE, Int.reduceEq, reduceIte, true_and, Nat.zero_add, Nat.add_zero, Option.map_some, XEnd, saF]
  refine ret_at (res_ct (n := 10) (by simp -implicitDefEqProofs (disch := first | omega | (simp -implicitDefEqProofs only [go_sem, List.size_toArray, List.length_cons, List.length_nil, Nat.reduceAdd]; done)) only [go_sem, Int.reduceLT, Int.reduceLE, Int.reduceEq, reduceIte, true_and, Nat.zero_add, Nat.add_zero, Option.map_some]) (by simp -implicitDefEqProofs (disch := first | omega | (simp -implicitDefEqProofs only [go_sem, List.size_toArray, List.length_cons, List.length_nil, Nat.reduceAdd]; done)) only [go_sem, Int.reduceLT, Int.reduceLE, Int.reduceEq, reduceIte, true_and, Nat.zero_add, Nat.add_zero, Option.map_some]) (fun _ => ld_36) (row_cells (get_set_same _ _) rfl)) (.inr ⟨hS0.trans he, ?_, M.next, vc', va', vr', vw', wc, wa, wr, ww, by omega, hFn, rfl, ?_, ?_⟩)
  · refine ⟨by show h.next ≤ F.next; omega, ?_, fun i hi hb => ?_⟩
    · exact hEF.ng.trans (by rw [hM]; exact hEK.ng)
    · rw [get_set_other _ _ (by omega), hEF.get i (by omega), hM, get_set_other _ _ hb]
      exact hEK.get i hi
  · refine ((xM.ext hEF).setO (by omega) fun i hi => ?_).weak (fun i hi => ?_) fun i hi => ?_
    · rcases hi with hi | hi
      · have := (x.inS i hi).1; omega
      · omega
    · rcases hi with hi | hi
      · exact .inl hi
      · exact .inr ⟨by omega, hi.2⟩
    · rcases hi with hi | hi
      · have := x.inS i hi; exact ⟨by show i < F.next; omega, this.2⟩
      · exact ⟨by show i < F.next; omega, by omega⟩
  · exact q.mono fun i hi => ⟨hi, get_set_other _ _ (by have := hi.1; omega)⟩
end Go.Proofs.Ytbdljpndncohaaa

namespace Go.Proofs.Ytbdljpndncohaaa
open Go.D
set_option maxRecDepth 100000

theorem Keep.ofExt {B : Nat} {h K : DHeap} (e : Ext h K) : Keep B h K := ⟨e.next, e.ng, fun i hi _ => e.get i hi⟩
theorem Keep.trans {B : Nat} {h K M : DHeap} (a : Keep B h K) (b : Keep B K M) : Keep B h M := ⟨Nat.le_trans a.next b.next, b.ng.trans a.ng, fun i hi hb => (b.get i (Nat.lt_of_lt_of_le hi a.next) hb).trans (a.get i hi hb)⟩
def tickC (c : Cl) : Cl := if c.pend = false then c else if c.wait + 1 < 12 then { c with wait := c.wait + 1 } else { c with wait := 0, turn := Int.tmod (c.turn + 1) c.reps }
def tickB (c : Cl) : Bool := c.pend && !decide (c.wait + 1 < 12)
/-- one cell of a session's box is written -/
theorem ClAt.put {S : Nat → Prop} {h : DHeap} {B : Nat} {c c' : Cl} {vc va vr vw vv : Value} (x : ClAt S h B c vc va vr vw vv) {o : Nat} {v : Value} (hv : v.cells = #[v]) (hone : [v].all Value.oneCell' = true) (ho : o + 1 ≤ 18) (hR : (clL c vc va vr vw vv).set o v = clL c' vc va vr vw vv) (ht : c'.t = c.t) (hl : c'.last = c.last) :
    storeAt h B o [v] = some (h.set B (.row (clL c' vc va vr vw vv) 0 false)) ∧ ClAt S (h.set B (.row (clL c' vc va vr vw vv) 0 false)) B c' vc va vr vw vv :=
  ⟨store_cell hv hone (show o + 1 ≤ (clL c vc va vr vw vv).length from ho) hR x.row, get_set_same _ _, by rw [ht]; exact x.tx.mono fun i hi => ⟨hi, get_set_other _ _ (x.inS i hi).2⟩, by rw [hl]; exact x.lv.mono fun i hi => ⟨hi, get_set_other _ _ (x.inS i hi).2⟩, x.lt, x.inS⟩
set_option maxHeartbeats 1000000 in
theorem tick_c {S : Nat → Prop} {h : DHeap} {B : Nat} {c : Cl} {vc va vr vw vv : Value} (x : ClAt S h B c vc va vr vw vv) (hr : c.reps ≠ 0) (hw : 0 ≤ c.wait ∧ c.wait ≤ 1000000) (ht : 0 ≤ c.turn ∧ c.turn ≤ 1000000) (hl : TxLen c.t) :
    Ct Try.prog 12 [.pointer (some ⟨B, 0, none⟩)] h fun r h1 => Keep B h h1 ∧ ClAt S h1 B (tickC c) vc va vr vw vv ∧
      ((tickB c = false ∧ r = .ret (.tuple #[askV0, .bool false])) ∨ (tickB c = true ∧ ∃ wc wa wr ww, r = .ret (.tuple #[.agg (askL (tickC c).turn c.t.ses c.t.req wc wa wr ww false nilV 0).toArray, .bool true]) ∧ TxV (Fresh h h1) h1 c.t wc wa wr ww)) := by
  refine go_12 (by simp) ?_
  obtain ⟨H, hH⟩ : ∃ H, H = h.push (.row askL0 0 false) := ⟨_, rfl⟩
  have hE : Ext h H := by rw [hH]; exact Ext.push1 _ _
  have hHn : H.next = h.next + 1 := by rw [hH]; rfl
  have gb : H.get h.next = some (.row askL0 0 false) := by rw [hH]; exact get_push_same _ _
  have ss := store_self gb rfl
  have xH := x.ext hE
  have xlt := x.lt
  simp -implicitDefEqProofs (disch := first | omega | (simp -implicitDefEqProofs only [go_sem, List.size_toArray, List.length_cons, List.length_nil, Nat.reduceAdd]; done)) only [go_sem, Int.reduceLT, Int.reduceLE, Int.reduceEq, reduceIte, true_and, Nat.zero_add, Nat.add_zero, Option.map_some, c12, next_push, ← hH]
  refine ncall (none_no xH hr) ?_
  cases hp : c.pend with
  | false =>
    have hC : tickC c = c := by rw [tickC, hp, if_pos rfl]
    have hB : tickB c = false := by rw [tickB, hp]; rfl
    simp -implicitDefEqProofs (disch := first | omega | (simp -implicitDefEqProofs only [go_sem, List.size_toArray, List.length_cons, List.length_nil, Nat.reduceAdd]; done)) only [go_sem, Int.reduceLT, Int.reduceLE, Int.reduceEq, reduceIte, true_and, Nat.zero_add, Nat.add_zero, Option.map_some, xH.cell, hp, Bool.not_false, dPick_t, dPick_f, bd_ask0, ss]
    exact ret_at (res_ct (n := 10) (by simp -implicitDefEqProofs (disch := first | omega | (simp -implicitDefEqProofs only [go_sem, List.size_toArray, List.length_cons, List.length_nil, Nat.reduceAdd]; done)) only [go_sem, Int.reduceLT, Int.reduceLE, Int.reduceEq, reduceIte, true_and, Nat.zero_add, Nat.add_zero, Option.map_some]) (by simp -implicitDefEqProofs (disch := first | omega | (simp -implicitDefEqProofs only [go_sem, List.size_toArray, List.length_cons, List.length_nil, Nat.reduceAdd]; done)) only [go_sem, Int.reduceLT, Int.reduceLE, Int.reduceEq, reduceIte, true_and, Nat.zero_add, Nat.add_zero, Option.map_some]) (fun _ => ld_36) (row_cells gb rfl)) ⟨.ofExt hE, by rw [hC]; exact xH, .inl ⟨hB, rfl⟩⟩
  | true =>
  have hw1 : IntKind.i64.wrap (c.wait + 1) = c.wait + 1 := wrap_i64_in (by omega) (by omega)
  obtain ⟨c1, hc1⟩ : ∃ c1 : Cl, c1 = { c with wait := c.wait + 1 } := ⟨_, rfl⟩
  obtain ⟨st1, y1⟩ := xH.put (c' := c1) (o := 10) (v := .int .i64 (c.wait + 1)) rfl rfl (by decide) (by rw [hc1]; rfl) (by rw [hc1]) (by rw [hc1])
  obtain ⟨K, hK⟩ : ∃ K, K = H.set B (.row (clL c1 vc va vr vw vv) 0 false) := ⟨_, rfl⟩
  rw [← hK] at st1 y1
  have kK : Keep B h K := by rw [hK]; exact (Keep.ofExt hE).set _
  have hKn : K.next = H.next := by rw [hK]; rfl
  have gbK : K.get h.next = some (.row askL0 0 false) := by rw [hK, get_set_other _ _ (by omega)]; exact gb
  have ssK := store_self gbK rfl
  have cw1 : cellAt K B 10 = some (.int .i64 (c.wait + 1)) := (y1.cell 10).trans (by rw [hc1]; rfl)
  simp -implicitDefEqProofs (disch := first | omega | (simp -implicitDefEqProofs only [go_sem, List.size_toArray, List.length_cons, List.length_nil, Nat.reduceAdd]; done)) only [go_sem, Int.reduceLT, Int.reduceLE, Int.reduceEq, reduceIte, true_and, Nat.zero_add, Nat.add_zero, Option.map_some, xH.cell, hp, Bool.not_true, dPick_t, dPick_f, hw1, st1, cw1]
  by_cases h12 : c.wait + 1 < 12
  · have h12' := eq_true h12
    have hC : tickC c = c1 := by rw [tickC, hp, if_neg (by decide), if_pos h12, hc1, hp]
    have hB : tickB c = false := by rw [tickB, hp, decide_eq_true h12]; rfl
    simp -implicitDefEqProofs (disch := first | omega | (simp -implicitDefEqProofs only [go_sem, List.size_toArray, List.length_cons, List.length_nil, Nat.reduceAdd]; done)) only [go_sem, Int.reduceLT, Int.reduceLE, Int.reduceEq, reduceIte, true_and, Nat.zero_add, Nat.add_zero, Option.map_some, h12', bd_ask0, ssK]
    exact ret_at (res_ct (n := 10) (by simp -implicitDefEqProofs (disch := first | omega | (simp -implicitDefEqProofs only [go_sem, List.size_toArray, List.length_cons, List.length_nil, Nat.reduceAdd]; done)) only [go_sem, Int.reduceLT, Int.reduceLE, Int.reduceEq, reduceIte, true_and, Nat.zero_add, Nat.add_zero, Option.map_some]) (by simp -implicitDefEqProofs (disch := first | omega | (simp -implicitDefEqProofs only [go_sem, List.size_toArray, List.length_cons, List.length_nil, Nat.reduceAdd]; done)) only [go_sem, Int.reduceLT, Int.reduceLE, Int.reduceEq, reduceIte, true_and, Nat.zero_add, Nat.add_zero, Option.map_some]) (fun _ => ld_36) (row_cells gbK rfl)) ⟨kK, by rw [hC]; exact y1, .inl ⟨hB, rfl⟩⟩
  · have hC : tickC c = { c with wait := 0, turn := Int.tmod (c.turn + 1) c.reps } := by rw [tickC, hp, if_neg (by decide), if_neg h12]
    have hB : tickB c = true := by rw [tickB, hp, decide_eq_false h12]; rfl
    have hw2 : IntKind.i64.wrap (c.turn + 1) = c.turn + 1 := wrap_i64_in (by omega) (by omega)
    obtain ⟨c2, hc2⟩ : ∃ c2 : Cl, c2 = { c1 with wait := 0 } := ⟨_, rfl⟩
    have hcc : tickC c = { c2 with turn := Int.tmod (c.turn + 1) c.reps } := by rw [hC, hc2, hc1]
    obtain ⟨st2, y2⟩ := y1.put (c' := c2) (o := 10) (v := .int .i64 0) rfl rfl (by decide) (by rw [hc2]; rfl) (by rw [hc2]) (by rw [hc2])
    obtain ⟨st3, y3⟩ := y2.put (c' := tickC c) (o := 11) (v := .int .i64 (Int.tmod (c.turn + 1) c.reps)) rfl rfl (by decide) (by rw [hcc]; rfl) (by rw [hcc]) (by rw [hcc])
    rw [set_set] at st3 y3
    obtain ⟨M, hM⟩ : ∃ M, M = K.set B (.row (clL (tickC c) vc va vr vw vv) 0 false) := ⟨_, rfl⟩
    rw [← hM] at st3 y3
    have kM : Keep B h M := by rw [hM]; exact kK.set _
    have hMn : M.next = H.next := by rw [hM]; exact hKn
    have gbM : M.get h.next = some (.row askL0 0 false) := by rw [hM, get_set_other _ _ (by omega)]; exact gbK
    have ct1 : cellAt K B 11 = some (.int .i64 c.turn) := (y1.cell 11).trans (by rw [hc1]; rfl)
    have cr1 : cellAt K B 1 = some (.int .i64 c.reps) := (y1.cell 1).trans (by rw [hc1]; rfl)
    have htt : (tickC c).t = c.t := by rw [hC]
    simp -implicitDefEqProofs (disch := first | omega | (simp -implicitDefEqProofs only [go_sem, List.size_toArray, List.length_cons, List.length_nil, Nat.reduceAdd]; done)) only [go_sem, Int.reduceLT, Int.reduceLE, Int.reduceEq, reduceIte, true_and, Nat.zero_add, Nat.add_zero, Option.map_some, h12]
    refine dr_12_0 ?_
    simp -implicitDefEqProofs (disch := first | omega | (simp -implicitDefEqProofs only [go_sem, List.size_toArray, List.length_cons, List.length_nil, Nat.reduceAdd]; done)) only [go_sem, Int.reduceLT, Int.reduceLE, Int.reduceEq, reduceIte, true_and, Nat.zero_add, Nat.add_zero, Option.map_some, l12_0, ct1, cr1, hw2, bin_rem hr, st2, st3, XStab_nil]
    refine ncall_ct (ask_c y3 (htt ▸ hl)) ?_
    rintro r F ⟨wc, wa, wr, ww, rfl, hEF, q⟩
    rw [htt] at q
    rw [htt]
    have hFn := hEF.next
    have gbF : F.get h.next = some (.row askL0 0 false) := (hEF.get _ (by omega)).trans gbM
    have saF := storeAll (vs := askL (tickC c).turn c.t.ses c.t.req wc wa wr ww false nilV 0) gbF rfl (ask_one q (.nil fKey.rep NoS F))
    have hwc := q.c.cells1
    have hwa := q.a.cells1
    have hwr := q.r.cells1
    have hww := q.w.cells1
    simp -implicitDefEqProofs (disch := first | omega | (simp -implicitDefEqProofs only [go_sem, List.size_toArray, List.length_cons, List.length_nil, Nat.reduceAdd]; done)) only [go_sem, Int.reduceLT, Int.reduceLE, Int.reduceEq, reduceIte, true_and, Nat.zero_add, Nat.add_zero, Option.map_some, XEnd, saF]
    refine ret_at (res_ct (n := 10) (by simp -implicitDefEqProofs (disch := first | omega | (simp -implicitDefEqProofs only [go_sem, List.size_toArray, List.length_cons, List.length_nil, Nat.reduceAdd]; done)) only [go_sem, Int.reduceLT, Int.reduceLE, Int.reduceEq, reduceIte, true_and, Nat.zero_add, Nat.add_zero, Option.map_some]) (by simp -implicitDefEqProofs (disch := first | omega | (simp -implicitDefEqProofs only [go_sem, List.size_toArray, List.length_cons, List.length_nil, Nat.reduceAdd]; done)) only [go_sem, Int.reduceLT, Int.reduceLE, Int.reduceEq, reduceIte, true_and, Nat.zero_add, Nat.add_zero, Option.map_some]) (fun _ => ld_36) (row_cells (get_set_same _ _) rfl)) ⟨?_, ?_, .inr ⟨hB, wc, wa, wr, ww, rfl, ?_⟩⟩
    · have k := kM.trans (Keep.ofExt hEF)
      exact ⟨k.next, k.ng, fun i hi hb => (get_set_other _ _ (by omega)).trans (k.get i hi hb)⟩
    · exact (y3.ext hEF).setO (by omega) fun i hi => by have := (x.inS i hi).1; omega
    · exact q.mono fun i hi => ⟨⟨by omega, hi.2⟩, get_set_other _ _ (by have := hi.1; omega)⟩
theorem max_i64 {P : Program} {h : DHeap} {ts : Array TypeId} {ty : TypeId} {a b : Int} : dBuiltin P .max ts ty h (some [.int .i64 a, .int .i64 b]) = .ok (.value (.int .i64 (max a b))) h := by
  have hq : quick P (Builtin.max_ ts ty #[.int .i64 a, .int .i64 b]) = some (.inr (.int .i64 (max a b))) := by
    have e : max a b = if a < b then b else a := by
      by_cases h : a < b
      · rw [if_pos h]; omega
      · rw [if_neg h]; omega
    rw [e]
    rfl
  have hf : ([Value.int .i64 a, .int .i64 b].all flat3) = true := rfl
  show (if [Value.int .i64 a, .int .i64 b].all flat3 then dval P (Builtin.max_ ts ty #[.int .i64 a, .int .i64 b]) h else .bad) = _
  rw [if_pos hf]
  simp only [dval, hq]
  rfl
/-- flat lists do not lie in boxes -/
theorem sl_box {α : Type} {F : FRep α} {S : Nat → Prop} {h : DHeap} {B : Nat} {R : List Value} {v : Value} {l : List α} (x : Sl F.rep S h v l) (hz : F.z ≠ 0) (g : h.get B = some (.row R 0 false)) : Sl F.rep (fun i => S i ∧ i ≠ B) h v l := by
  rcases x with x | ⟨id, o, cap, cells, esz, ro, h1, h2, h3, h4, h5, h6⟩
  · exact .inl x
  · refine .inr ⟨id, o, cap, cells, esz, ro, h1, ⟨h2, fun e => ?_⟩, h3, h4, h5, Els.flat.2 (Els.flat.1 h6)⟩
    subst e
    rw [g] at h3
    cases h3
    rcases h4 with h4 | h4
    · cases h4
    · exact hz h4.symm
def ansN (c : Cl) (a b : Int) : Bool := !c.pend || !decide (a = c.ses) || !decide (b = c.req)
def ansB (c : Cl) (a b s : Int) : Bool := !ansN c a b && decide (0 ≤ s ∧ s ≤ 1099511627776)
def ansE (c : Cl) (a b s : Int) : Int := if ansN c a b then 0 else if 0 ≤ s ∧ s ≤ 1099511627776 then 0 else 1
def ansC (c : Cl) (a b : Int) (x : Res) : Cl := if ansB c a b x.s then { c with pend := false, any := true, last := x, tok := max c.tok (x.s + 1) } else c
set_option maxHeartbeats 1000000 in
theorem answer_c {S : Nat → Prop} {h : DHeap} {B : Nat} {c : Cl} {vc va vr vw vv uv : Value} {a b : Int} {x : Res} (y : ClAt S h B c vc va vr vw vv) (hr : c.reps ≠ 0) (htk : 0 ≤ c.tok) (hx : Arg fI64.rep h uv x.vs) (hl : x.vs.length ≤ 1048576) :
    Ct Try.prog 14 [.pointer (some ⟨B, 0, none⟩), .agg #[.int .i64 a, .int .i64 b, .int .i64 x.e, uv, .int .i64 x.s, .int .i64 x.p]] h fun r h1 => Keep B h h1 ∧ r = .ret (.tuple #[.bool (ansB c a b x.s), .int .i64 (ansE c a b x.s)]) ∧ ∃ vv', ClAt (fun i => S i ∨ Fresh h h1 i) h1 B (ansC c a b x) vc va vr vw vv' := by
  refine go_14 (by simp) ?_
  have huv := hx.cells1
  obtain ⟨H, hH⟩ : ∃ H, H = h.push (.row [.int .i64 a, .int .i64 b, .int .i64 x.e, uv, .int .i64 x.s, .int .i64 x.p] 0 false) := ⟨_, rfl⟩
  have hE : Ext h H := by rw [hH]; exact Ext.push1 _ _
  have hHn : H.next = h.next + 1 := by rw [hH]; rfl
  have ga : H.get h.next = some (.row [.int .i64 a, .int .i64 b, .int .i64 x.e, uv, .int .i64 x.s, .int .i64 x.p] 0 false) := by rw [hH]; exact get_push_same _ _
  have yH := y.ext hE
  have ylt := y.lt
  have same : ansB c a b x.s = false → ∃ vv', ClAt (fun i => S i ∨ Fresh h H i) H B (ansC c a b x) vc va vr vw vv' := fun hb => by
    refine ⟨vv, ?_⟩
    rw [ansC, hb, if_neg (by decide)]
    refine yH.weak (fun i hi => .inl hi) fun i hi => ?_
    rcases hi with hi | hi
    · exact yH.inS i hi
    · exact ⟨hi.2, by have := hi.1; omega⟩
  have notyet : ansN c a b = true → ∃ v, some (Value.tuple #[.bool false, .int .i64 0]) = some v ∧ Keep B h H ∧ DEnd.ret v = .ret (.tuple #[.bool (ansB c a b x.s), .int .i64 (ansE c a b x.s)]) ∧ ∃ vv', ClAt (fun i => S i ∨ Fresh h H i) H B (ansC c a b x) vc va vr vw vv' := fun hn => by
    have h1 : ansB c a b x.s = false := by rw [ansB, hn]; rfl
    have h2 : ansE c a b x.s = 0 := by rw [ansE, hn, if_pos rfl]
    exact ⟨_, rfl, .ofExt hE, by rw [h1, h2], same h1⟩
  simp -implicitDefEqProofs (disch := first | omega | (simp -implicitDefEqProofs only [go_sem, List.size_toArray, List.length_cons, List.length_nil, Nat.reduceAdd]; done)) only [go_sem, Int.reduceLT, Int.reduceLE, Int.reduceEq, reduceIte, true_and, Nat.zero_add, Nat.add_zero, Option.map_some, c14, next_push, ← hH]
  refine ncall (none_no yH hr) ?_
  simp -implicitDefEqProofs (disch := first | omega | (simp -implicitDefEqProofs only [go_sem, List.size_toArray, List.length_cons, List.length_nil, Nat.reduceAdd]; done)) only [go_sem, Int.reduceLT, Int.reduceLE, Int.reduceEq, reduceIte, true_and, Nat.zero_add, Nat.add_zero, Option.map_some]
  refine dr_14_0 ?_
  cases hp : c.pend with
  | false =>
    have hn : ansN c a b = true := by rw [ansN, hp]; rfl
    simp -implicitDefEqProofs (disch := first | omega | (simp -implicitDefEqProofs only [go_sem, List.size_toArray, List.length_cons, List.length_nil, Nat.reduceAdd]; done)) only [go_sem, Int.reduceLT, Int.reduceLE, Int.reduceEq, reduceIte, true_and, Nat.zero_add, Nat.add_zero, Option.map_some, l14_0, yH.cell, hp, Bool.not_false, dPick_t, dPick_f, XStab_nil]
    exact notyet hn
  | true =>
  by_cases ha : a = c.ses
  case neg =>
    have hn : ansN c a b = true := by rw [ansN, decide_eq_false ha]; simp
    simp -implicitDefEqProofs (disch := first | omega | (simp -implicitDefEqProofs only [go_sem, List.size_toArray, List.length_cons, List.length_nil, Nat.reduceAdd]; done)) only [go_sem, Int.reduceLT, Int.reduceLE, Int.reduceEq, reduceIte, true_and, Nat.zero_add, Nat.add_zero, Option.map_some, l14_0, yH.cell, hp, Bool.not_true, cellAt_row ga, ha, decide_false, Bool.not_false, dPick_t, dPick_f, XStab_nil]
    exact notyet hn
  by_cases hb : b = c.req
  case neg =>
    have hn : ansN c a b = true := by rw [ansN, decide_eq_false hb]; simp
    have ha' := eq_true ha
    simp -implicitDefEqProofs (disch := first | omega | (simp -implicitDefEqProofs only [go_sem, List.size_toArray, List.length_cons, List.length_nil, Nat.reduceAdd]; done)) only [go_sem, Int.reduceLT, Int.reduceLE, Int.reduceEq, reduceIte, true_and, Nat.zero_add, Nat.add_zero, Option.map_some, l14_0, yH.cell, hp, Bool.not_true, cellAt_row ga, ha', hb, decide_true, decide_false, Bool.not_false, dPick_t, dPick_f, XStab_nil]
    exact notyet hn
  have hn : ansN c a b = false := by rw [ansN, hp, decide_eq_true ha, decide_eq_true hb]; rfl
  have ha' := eq_true ha
  have hb' := eq_true hb
  simp -implicitDefEqProofs (disch := first | omega | (simp -implicitDefEqProofs only [go_sem, List.size_toArray, List.length_cons, List.length_nil, Nat.reduceAdd]; done)) only [go_sem, Int.reduceLT, Int.reduceLE, Int.reduceEq, reduceIte, true_and, Nat.zero_add, Nat.add_zero, Option.map_some, l14_0, yH.cell, hp, Bool.not_true, cellAt_row ga, ha', hb', decide_true, Bool.not_false, dPick_t, dPick_f, XStab_nil]
  have bad : ¬ (0 ≤ x.s ∧ x.s ≤ 1099511627776) → ∃ v, some (Value.tuple #[.bool false, .int .i64 1]) = some v ∧ Keep B h H ∧ DEnd.ret v = .ret (.tuple #[.bool (ansB c a b x.s), .int .i64 (ansE c a b x.s)]) ∧ ∃ vv', ClAt (fun i => S i ∨ Fresh h H i) H B (ansC c a b x) vc va vr vw vv' := fun hs => by
    have h1 : ansB c a b x.s = false := by rw [ansB, decide_eq_false hs, Bool.and_false]
    have h2 : ansE c a b x.s = 1 := by rw [ansE, hn, if_neg (by decide), if_neg hs]
    exact ⟨_, rfl, .ofExt hE, by rw [h1, h2], same h1⟩
  by_cases s1 : x.s < 0
  · have s1' := eq_true s1
    simp -implicitDefEqProofs (disch := first | omega | (simp -implicitDefEqProofs only [go_sem, List.size_toArray, List.length_cons, List.length_nil, Nat.reduceAdd]; done)) only [go_sem, Int.reduceLT, Int.reduceLE, Int.reduceEq, reduceIte, true_and, Nat.zero_add, Nat.add_zero, Option.map_some, s1', dPick_t, dPick_f]
    exact bad (by omega)
  by_cases s2 : 1099511627776 < x.s
  · have s2' := eq_true s2
    simp -implicitDefEqProofs (disch := first | omega | (simp -implicitDefEqProofs only [go_sem, List.size_toArray, List.length_cons, List.length_nil, Nat.reduceAdd]; done)) only [go_sem, Int.reduceLT, Int.reduceLE, Int.reduceEq, reduceIte, true_and, Nat.zero_add, Nat.add_zero, Option.map_some, s1, cellAt_row ga, s2', dPick_t, dPick_f]
    exact bad (by omega)
  have hB1 : ansB c a b x.s = true := by rw [ansB, hn, decide_eq_true (by omega)]; rfl
  have hE1 : ansE c a b x.s = 0 := by rw [ansE, hn, if_neg (by decide), if_pos (by omega)]
  have hC1 : ansC c a b x = { c with pend := false, any := true, last := x, tok := max c.tok (x.s + 1) } := by rw [ansC, hB1, if_pos rfl]
  have hres : cellsAt H h.next 2 4 = some (.agg #[.int .i64 x.e, uv, .int .i64 x.s, .int .i64 x.p]) := by rw [cellsAt_row ga (Nat.le_of_ble_eq_true rfl)]; rfl
  obtain ⟨cA, hcA⟩ : ∃ cA : Cl, cA = { c with pend := false } := ⟨_, rfl⟩
  obtain ⟨cB, hcB⟩ : ∃ cB : Cl, cB = { cA with any := true } := ⟨_, rfl⟩
  obtain ⟨cC, hcC⟩ : ∃ cC : Cl, cC = { cB with last := x } := ⟨_, rfl⟩
  have hb1 : storeAt H B 3 [.bool false] = some (H.set B (.row (clL cA vc va vr vw vv) 0 false)) := by
    rw [store_cell rfl rfl (Nat.le_of_ble_eq_true rfl) rfl yH.row, hcA]
    rfl
  have hb2 : storeAt (H.set B (.row (clL cA vc va vr vw vv) 0 false)) B 13 [.bool true] = some (H.set B (.row (clL cB vc va vr vw vv) 0 false)) := by
    rw [store_cell rfl rfl (Nat.le_of_ble_eq_true rfl) rfl (get_set_same _ _), set_set, hcB]
    rfl
  have hone : [.int .i64 x.e, uv, .int .i64 x.s, .int .i64 x.p].all Value.oneCell' = true := by obtain ⟨_, _, rfl⟩ := hx.isSlice; rfl
  have hb3 : storeAt (H.set B (.row (clL cB vc va vr vw vv) 0 false)) B 14 [.int .i64 x.e, uv, .int .i64 x.s, .int .i64 x.p] = some (H.set B (.row (clL cC vc va vr vw uv) 0 false)) := by
    rw [storeAt_row (get_set_same _ _) (Nat.le_of_ble_eq_true rfl) hone, set_set, hcC]
    rfl
  simp -implicitDefEqProofs (disch := first | omega | (simp -implicitDefEqProofs only [go_sem, List.size_toArray, List.length_cons, List.length_nil, Nat.reduceAdd]; done)) only [go_sem, Int.reduceLT, Int.reduceLE, Int.reduceEq, reduceIte, true_and, Nat.zero_add, Nat.add_zero, Option.map_some, s1, cellAt_row ga, s2, dPick_t, dPick_f]
  refine dr_14_1 ?_
  simp -implicitDefEqProofs (disch := first | omega | (simp -implicitDefEqProofs only [go_sem, List.size_toArray, List.length_cons, List.length_nil, Nat.reduceAdd]; done)) only [go_sem, Int.reduceLT, Int.reduceLE, Int.reduceEq, reduceIte, true_and, Nat.zero_add, Nat.add_zero, Option.map_some, l14_1, hres, hb1, hb2, hb3]
  refine ⟨⟨XSt1_at (i := 4) (j := 7) rfl rfl rfl ?_, XSt1_at (i := 4) (j := 10) rfl rfl rfl ?_, trivial⟩, ?_⟩
  · rw [if_neg (by decide)]
    refine Ld_on (p := .pointer (some ⟨h.next, 2, none⟩)) (by simp -implicitDefEqProofs (disch := first | omega | (simp -implicitDefEqProofs only [go_sem, List.size_toArray, List.length_cons, List.length_nil, Nat.reduceAdd]; done)) only [go_sem, Int.reduceLT, Int.reduceLE, Int.reduceEq, reduceIte, true_and, Nat.zero_add, Nat.add_zero, Option.map_some]) (by simp -implicitDefEqProofs (disch := first | omega | (simp -implicitDefEqProofs only [go_sem, List.size_toArray, List.length_cons, List.length_nil, Nat.reduceAdd]; done)) only [go_sem, Int.reduceLT, Int.reduceLE, Int.reduceEq, reduceIte, true_and, Nat.zero_add, Nat.add_zero, Option.map_some]) (ld_45.trans ?_)
    rw [cellsAt_row ((get_set_other _ _ (by omega)).trans ga) (Nat.le_of_ble_eq_true rfl)]; rfl
  · rw [if_neg (by decide)]
    refine Ld_on (p := .pointer (some ⟨h.next, 2, none⟩)) (by simp -implicitDefEqProofs (disch := first | omega | (simp -implicitDefEqProofs only [go_sem, List.size_toArray, List.length_cons, List.length_nil, Nat.reduceAdd]; done)) only [go_sem, Int.reduceLT, Int.reduceLE, Int.reduceEq, reduceIte, true_and, Nat.zero_add, Nat.add_zero, Option.map_some]) (by simp -implicitDefEqProofs (disch := first | omega | (simp -implicitDefEqProofs only [go_sem, List.size_toArray, List.length_cons, List.length_nil, Nat.reduceAdd]; done)) only [go_sem, Int.reduceLT, Int.reduceLE, Int.reduceEq, reduceIte, true_and, Nat.zero_add, Nat.add_zero, Option.map_some]) (ld_45.trans ?_)
    rw [cellsAt_row ((get_set_other _ _ (by omega)).trans ga) (Nat.le_of_ble_eq_true rfl)]; rfl
  obtain ⟨K, hK⟩ : ∃ K, K = H.set B (.row (clL cC vc va vr vw uv) 0 false) := ⟨_, rfl⟩
  rw [← hK]
  have gK : K.get B = some (.row (clL cC vc va vr vw uv) 0 false) := by rw [hK]; exact get_set_same _ _
  have gaK : K.get h.next = some (.row [.int .i64 a, .int .i64 b, .int .i64 x.e, uv, .int .i64 x.s, .int .i64 x.p] 0 false) := by rw [hK, get_set_other _ _ (by omega)]; exact ga
  have hKn : K.next = H.next := by rw [hK]; rfl
  have kK : Keep B h K := by rw [hK]; exact (Keep.ofExt hE).set _
  have hxK : Arg fI64.rep K uv x.vs := (sl_box hx (by decide) y.row).mono fun i hi => ⟨by have := hi.1; omega, kK.get i hi.1 hi.2⟩
  simp -implicitDefEqProofs (disch := first | omega | (simp -implicitDefEqProofs only [go_sem, List.size_toArray, List.length_cons, List.length_nil, Nat.reduceAdd]; done)) only [go_sem, Int.reduceLT, Int.reduceLE, Int.reduceEq, reduceIte, true_and, Nat.zero_add, Nat.add_zero, Option.map_some, cellAt_row gaK]
  refine ncall (clone_ints hxK (by omega)) ?_
  obtain ⟨K2, hK2⟩ : ∃ K2, cloneH fI64 K uv x.vs = K2 := ⟨_, rfl⟩
  obtain ⟨vv', hvv'⟩ : ∃ v, cloneV K uv x.vs = v := ⟨_, rfl⟩
  have e2 : Ext K K2 := hK2 ▸ cloneH_ext _ _ _ _
  have m2 := clone_made (F := fI64) (h := K) hxK
  rw [hK2, hvv'] at m2
  rw [hK2, hvv']
  have ms := m2.sl
  have hcv := ms.cells1
  have hK2n := e2.next
  have gK2 := (e2.get _ (by omega : B < K.next)).trans gK
  have gaK2 := (e2.get _ (by omega : h.next < K.next)).trans gaK
  have sv : dStore Try.prog 23 (.pointer (some ⟨B, 15, none⟩)) vv' K2 = some (K2.set B (.row (clL cC vc va vr vw vv') 0 false)) := (st_23 hcv).trans (store_cell hcv (one_sl ms) (Nat.le_of_ble_eq_true rfl) rfl gK2)
  simp -implicitDefEqProofs (disch := first | omega | (simp -implicitDefEqProofs only [go_sem, List.size_toArray, List.length_cons, List.length_nil, Nat.reduceAdd]; done)) only [go_sem, Int.reduceLT, Int.reduceLE, Int.reduceEq, reduceIte, true_and, Nat.zero_add, Nat.add_zero, Option.map_some, sv]
  have ct : cellAt (K2.set B (.row (clL cC vc va vr vw vv') 0 false)) B 12 = some (.int .i64 c.tok) := (cellAt_row (get_set_same _ _)).trans (by rw [hcC, hcB, hcA]; rfl)
  have cs : cellAt (K2.set B (.row (clL cC vc va vr vw vv') 0 false)) h.next 4 = some (.int .i64 x.s) := cellAt_row ((get_set_other _ _ (by omega)).trans gaK2)
  have hw1 : IntKind.i64.wrap (x.s + 1) = x.s + 1 := wrap_i64_in (by omega) (by omega)
  have hb4 : storeAt (K2.set B (.row (clL cC vc va vr vw vv') 0 false)) B 12 [.int .i64 (max c.tok (x.s + 1))] = some (K2.set B (.row (clL (ansC c a b x) vc va vr vw vv') 0 false)) := by
    rw [store_cell rfl rfl (Nat.le_of_ble_eq_true rfl) rfl (get_set_same _ _), set_set, hC1, hcC, hcB, hcA]
    rfl
  refine dr_14_2 ?_
  simp -implicitDefEqProofs (disch := first | omega | (simp -implicitDefEqProofs only [go_sem, List.size_toArray, List.length_cons, List.length_nil, Nat.reduceAdd]; done)) only [go_sem, Int.reduceLT, Int.reduceLE, Int.reduceEq, reduceIte, true_and, Nat.zero_add, Nat.add_zero, Option.map_some, l14_2, ct, cs, hw1, max_i64, hb4, XStab_nil]
  refine ⟨_, rfl, ?_, by rw [hB1, hE1], vv', ?_⟩
  · exact (kK.trans (Keep.ofExt e2)).set _
  · refine ⟨get_set_same _ _, ?_, ?_, by show B < K2.next; omega, fun i hi => ?_⟩
    · rw [show (ansC c a b x).t = c.t by rw [hC1]]
      refine y.tx.mono fun i hi => ⟨.inl hi, ?_⟩
      rw [get_set_other _ _ (y.inS i hi).2, e2.get i (by have := (y.inS i hi).1; omega)]
      exact kK.get i (y.inS i hi).1 (y.inS i hi).2
    · rw [show (ansC c a b x).last = x by rw [hC1]]
      exact ms.mono fun i hi => ⟨.inr ⟨by omega, hi.2⟩, get_set_other _ _ (by omega)⟩
    · rcases hi with hi | hi
      · have := y.inS i hi
        exact ⟨by show i < K2.next; omega, this.2⟩
      · exact ⟨hi.2, by have := hi.1; omega⟩
end Go.Proofs.Ytbdljpndncohaaa

namespace Go.Proofs.Ytbdljpndncohaaa
open Go.D
set_option maxRecDepth 100000

theorem token_c {S : Nat → Prop} {h : DHeap} {B : Nat} {c : Cl} {vc va vr vw vv : Value} (x : ClAt S h B c vc va vr vw vv) (hr : c.reps ≠ 0) : DC Try.prog 15 [.pointer (some ⟨B, 0, none⟩)] h (.ret (.int .i64 c.tok)) h := by
  refine Ct.pure (go_15 (by simp) ?_) (vin_int _ _)
  simp -implicitDefEqProofs (disch := first | omega | (simp -implicitDefEqProofs only [go_sem, List.size_toArray, List.length_cons, List.length_nil, Nat.reduceAdd]; done)) only [go_sem, Int.reduceLT, Int.reduceLE, Int.reduceEq, reduceIte, true_and, Nat.zero_add, Nat.add_zero, Option.map_some, c15]
  refine ncall (none_no x hr) ?_
  simp -implicitDefEqProofs (disch := first | omega | (simp -implicitDefEqProofs only [go_sem, List.size_toArray, List.length_cons, List.length_nil, Nat.reduceAdd]; done)) only [go_sem, Int.reduceLT, Int.reduceLE, Int.reduceEq, reduceIte, true_and, Nat.zero_add, Nat.add_zero, Option.map_some, x.cell]
  exact ⟨_, rfl, rfl, .refl _⟩
theorem request_c {S : Nat → Prop} {h : DHeap} {B : Nat} {c : Cl} {vc va vr vw vv : Value} (x : ClAt S h B c vc va vr vw vv) (hr : c.reps ≠ 0) : DC Try.prog 22 [.pointer (some ⟨B, 0, none⟩)] h (.ret (.int .i64 c.req)) h := by
  refine Ct.pure (go_22 (by simp) ?_) (vin_int _ _)
  simp -implicitDefEqProofs (disch := first | omega | (simp -implicitDefEqProofs only [go_sem, List.size_toArray, List.length_cons, List.length_nil, Nat.reduceAdd]; done)) only [go_sem, Int.reduceLT, Int.reduceLE, Int.reduceEq, reduceIte, true_and, Nat.zero_add, Nat.add_zero, Option.map_some, c22]
  refine ncall (none_no x hr) ?_
  simp -implicitDefEqProofs (disch := first | omega | (simp -implicitDefEqProofs only [go_sem, List.size_toArray, List.length_cons, List.length_nil, Nat.reduceAdd]; done)) only [go_sem, Int.reduceLT, Int.reduceLE, Int.reduceEq, reduceIte, true_and, Nat.zero_add, Nat.add_zero, Option.map_some, x.cell]
  exact ⟨_, rfl, rfl, .refl _⟩
theorem live_sub : submitE (cl0 3 3) tx0 1 = 0 := by kernel_rfl
theorem bd_res4 : dBuild Try.prog 45 [(2, .int .i64 4)] = some (.agg #[.int .i64 0, nilV, .int .i64 4, .int .i64 0]) := dBuild_at plc_45 rfl
theorem bd_ans : dBuild Try.prog 47 [(0, .int .i64 3), (1, .int .i64 1), (2, .agg #[.int .i64 0, nilV, .int .i64 4, .int .i64 0])] = some (.agg #[.int .i64 3, .int .i64 1, .int .i64 0, nilV, .int .i64 4, .int .i64 0]) := dBuild_at plc_47 rfl
theorem tx0_v {S : Nat → Prop} {h : DHeap} : TxV S h tx0 nilV nilV nilV nilV := ⟨.nil _ _ _, .nil _ _ _, .nil _ _ _, .nil _ _ _⟩
theorem tx0_len : TxLen tx0 := ⟨by decide, by decide, by decide, by decide⟩
theorem ask_push {S S' : Nat → Prop} {h h' : DHeap} {t : Txn} {vc va vr vw vk : Value} {l : List Key} (x : TxV S h t vc va vr vw) (y : Sl fKey.rep S' h' vk l) {k a b m : Int} {q : Bool} (K : DHeap) : storeAt (K.push (.row askL0 0 false)) K.next 0 (askL k a b vc va vr vw q vk m) = some (K.push (.row (askL k a b vc va vr vw q vk m) 0 false)) :=
  storeAll_push rfl (ask_one x y)
def clS : Cl := submitC (cl0 3 3) tx0 1
def clW (i : Nat) : Cl := { clS with wait := (i : Int) }
theorem tick_w {i : Nat} (hi : i < 11) : tickC (clW i) = clW (i + 1) ∧ tickB (clW i) = false := by
  have h1 : (clW i).pend = true := rfl
  have h2 : (clW i).wait + 1 < 12 := by show (i : Int) + 1 < 12; omega
  refine ⟨?_, ?_⟩
  · rw [tickC, if_neg (by rw [h1]; decide), if_pos h2]; rfl
  · rw [tickB, h1, decide_eq_true h2]; rfl
set_option maxHeartbeats 1000000 in
theorem live_c {h : DHeap} : DC Try.prog 10 [] h (.ret (.bool true)) h := by
  refine Ct.pure (go_10 (by simp) ?_) (vin_bool _)
  simp -implicitDefEqProofs (disch := first | omega | (simp -implicitDefEqProofs only [go_sem, List.size_toArray, List.length_cons, List.length_nil, Nat.reduceAdd]; done)) only [go_sem, Int.reduceLT, Int.reduceLE, Int.reduceEq, reduceIte, true_and, Nat.zero_add, Nat.add_zero, Option.map_some, c10]
  refine ncall_ct (new_ok (s := 3) (r := 3) rfl) ?_
  rintro r H ⟨rfl, hH⟩
  have x0 : ClAt NoS H h.next (cl0 3 3) nilV nilV nilV nilV nilV := by rw [hH]; exact cl0_at
  have hE : Ext h H := by rw [hH]; exact Ext.push1 _ _
  simp -implicitDefEqProofs (disch := first | omega | (simp -implicitDefEqProofs only [go_sem, List.size_toArray, List.length_cons, List.length_nil, Nat.reduceAdd]; done)) only [go_sem, Int.reduceLT, Int.reduceLE, Int.reduceEq, reduceIte, true_and, Nat.zero_add, Nat.add_zero, Option.map_some, XEnd, ptr_some, dPick_t, dPick_f, bd_txn0]
  refine ncall_ct (submit_c x0 (by decide) (by decide) (t := tx0) (k := 1) tx0_v tx0_len) ?_
  rintro r M (⟨hbad, _⟩ | ⟨_, kM, n1, vc, va, vr, vw, wc, wa, wr, ww, hn1, hn2, rfl, x1, q⟩)
  · exact absurd live_sub hbad
  have hwc := q.c.cells1
  have hwa := q.a.cells1
  have hwr := q.r.cells1
  have hww := q.w.cells1
  have sp := ask_push (k := 1) (a := (subT (cl0 3 3) tx0).ses) (b := (subT (cl0 3 3) tx0).req) (m := 0) (q := false) q (.nil fKey.rep NoS M)
  obtain ⟨J, hJ⟩ : ∃ J, J = M.push (.row (askL 1 (subT (cl0 3 3) tx0).ses (subT (cl0 3 3) tx0).req wc wa wr ww false nilV 0) 0 false) := ⟨_, rfl⟩
  have gJ : J.get M.next = some (.row (askL 1 (subT (cl0 3 3) tx0).ses (subT (cl0 3 3) tx0).req wc wa wr ww false nilV 0) 0 false) := by rw [hJ]; exact get_push_same _ _
  have eJ : Ext M J := by rw [hJ]; exact Ext.push1 _ _
  have d3 : decide (3 = (3 : Int)) = true := rfl
  have d1 : decide (1 = (1 : Int)) = true := rfl
  have es : (subT (cl0 3 3) tx0).ses = 3 := rfl
  have er : (subT (cl0 3 3) tx0).req = 1 := rfl
  simp -implicitDefEqProofs (disch := first | omega | (simp -implicitDefEqProofs only [go_sem, List.size_toArray, List.length_cons, List.length_nil, Nat.reduceAdd]; done)) only [go_sem, Int.reduceLT, Int.reduceLE, Int.reduceEq, reduceIte, true_and, Nat.zero_add, Nat.add_zero, Option.map_some, XEnd, sp, ← hJ, dPick_t, dPick_f]
  simp -implicitDefEqProofs (disch := first | omega | (simp -implicitDefEqProofs only [go_sem, List.size_toArray, List.length_cons, List.length_nil, Nat.reduceAdd]; done)) only [go_sem, Int.reduceLT, Int.reduceLE, Int.reduceEq, reduceIte, true_and, Nat.zero_add, Nat.add_zero, Option.map_some, cellAt_row gJ, es, er, dPick_t, dPick_f]
  have kJ : Keep h.next h J := ((Keep.ofExt hE).trans kM).trans (Keep.ofExt eJ)
  refine xloop (σ := Nat) (by kernel_rfl) (fun i s => s.df = [] ∧ s.rd = none ∧ s.fr 1 = some (.pointer (some ⟨h.next, 0, none⟩)) ∧ s.fr 44 = some (.int .i64 (i : Nat)) ∧ i ≤ 11 ∧ Keep h.next h s.h ∧ ClAt (fun i => NoS i ∨ (H.next ≤ i ∧ i < n1)) s.h h.next (clW i) vc va vr vw nilV) (fun i => 11 - i) 0 ?_ ?_
  · simp -implicitDefEqProofs (disch := first | omega | (simp -implicitDefEqProofs only [go_sem, List.size_toArray, List.length_cons, List.length_nil, Nat.reduceAdd]; done)) only [go_sem, Int.reduceLT, Int.reduceLE, Int.reduceEq, reduceIte, true_and, Nat.zero_add, Nat.add_zero, Option.map_some]
    exact ⟨rfl, Nat.zero_le _, kJ, x1.ext eJ⟩
  rintro i ⟨fr, df, K, rd⟩ K' hK' hX ⟨hdf, hrd, f1, f44, hi, kK, xK⟩
  simp only at hdf hrd f1 f44 kK xK
  subst hdf hrd
  simp -implicitDefEqProofs (disch := first | omega | (simp -implicitDefEqProofs only [go_sem, List.size_toArray, List.length_cons, List.length_nil, Nat.reduceAdd]; done)) only [go_sem, Int.reduceLT, Int.reduceLE, Int.reduceEq, reduceIte, true_and, Nat.zero_add, Nat.add_zero, Option.map_some, f1, f44]
  refine XIf_dec (fun hc1 => ?_) (fun hc1 => ?_)
  · have hil : i < 11 := by omega
    obtain ⟨hC, hB⟩ := tick_w hil
    have hw1 := wrap_succ hil (by decide)
    simp -implicitDefEqProofs (disch := first | omega | (simp -implicitDefEqProofs only [go_sem, List.size_toArray, List.length_cons, List.length_nil, Nat.reduceAdd]; done)) only [go_sem, Int.reduceLT, Int.reduceLE, Int.reduceEq, reduceIte, true_and, Nat.zero_add, Nat.add_zero, Option.map_some, f1]
    refine ncall_ct (tick_c xK (by show (3 : Int) ≠ 0; decide) ⟨by show (0 : Int) ≤ (i : Int); omega, by show (i : Int) ≤ 1000000; omega⟩ (by show (0 : Int) ≤ 1 ∧ (1 : Int) ≤ 1000000; decide) (tx0_len.sub)) ?_
    rintro r F ⟨kF, yF, hh⟩
    rcases hh with ⟨_, rfl⟩ | ⟨hb, _⟩
    case inr => rw [hB] at hb; cases hb
    rw [hC] at yF
    have sp0 : storeAt (F.push (.row askL0 0 false)) F.next 0 askL0 = some (F.push (.row askL0 0 false)) := storeAll_push rfl rfl
    simp -implicitDefEqProofs (disch := first | omega | (simp -implicitDefEqProofs only [go_sem, List.size_toArray, List.length_cons, List.length_nil, Nat.reduceAdd]; done)) only [go_sem, Int.reduceLT, Int.reduceLE, Int.reduceEq, reduceIte, true_and, Nat.zero_add, Nat.add_zero, Option.map_some, XEnd, sp0, f44, hw1]
    refine hK' (i + 1) _ ?_ (by omega)
    exact ⟨by trivial, by trivial, by simp -implicitDefEqProofs (disch := first | omega | (simp -implicitDefEqProofs only [go_sem, List.size_toArray, List.length_cons, List.length_nil, Nat.reduceAdd]; done)) only [go_sem, Int.reduceLT, Int.reduceLE, Int.reduceEq, reduceIte, true_and, Nat.zero_add, Nat.add_zero, Option.map_some, f1], by simp -implicitDefEqProofs (disch := first | omega | (simp -implicitDefEqProofs only [go_sem, List.size_toArray, List.length_cons, List.length_nil, Nat.reduceAdd]; done)) only [go_sem, Int.reduceLT, Int.reduceLE, Int.reduceEq, reduceIte, true_and, Nat.zero_add, Nat.add_zero, Option.map_some], by omega, (kK.trans kF).trans (Keep.ofExt (Ext.push1 _ _)), yF.ext (Ext.push1 _ _)⟩
  · obtain rfl : i = 11 := by omega
    refine hX _ _ (by simp) ?_
    simp -implicitDefEqProofs (disch := first | omega | (simp -implicitDefEqProofs only [go_sem, List.size_toArray, List.length_cons, List.length_nil, Nat.reduceAdd]; done)) only [go_sem, Int.reduceLT, Int.reduceLE, Int.reduceEq, reduceIte, true_and, Nat.zero_add, Nat.add_zero, Option.map_some, f1]
    refine ncall_ct (tick_c xK (by decide) (by decide) (by decide) (tx0_len.sub)) ?_
    rintro r F ⟨kF, yF, hh⟩
    rcases hh with ⟨hb, _⟩ | ⟨_, uc, ua, ur, uw, rfl, q2⟩
    · exact absurd hb (by decide)
    have huc := q2.c.cells1
    have hua := q2.a.cells1
    have hur := q2.r.cells1
    have huw := q2.w.cells1
    have sp2 := ask_push (k := (tickC (clW 11)).turn) (a := (clW 11).t.ses) (b := (clW 11).t.req) (m := 0) (q := false) q2 (.nil fKey.rep NoS F)
    obtain ⟨G, hG⟩ : ∃ G, G = F.push (.row (askL (tickC (clW 11)).turn (clW 11).t.ses (clW 11).t.req uc ua ur uw false nilV 0) 0 false) := ⟨_, rfl⟩
    have gG : G.get F.next = some (.row (askL (tickC (clW 11)).turn (clW 11).t.ses (clW 11).t.req uc ua ur uw false nilV 0) 0 false) := by rw [hG]; exact get_push_same _ _
    have eG : Ext F G := by rw [hG]; exact Ext.push1 _ _
    have et : (tickC (clW 11)).turn = 2 := by decide
    simp -implicitDefEqProofs (disch := first | omega | (simp -implicitDefEqProofs only [go_sem, List.size_toArray, List.length_cons, List.length_nil, Nat.reduceAdd]; done)) only [go_sem, Int.reduceLT, Int.reduceLE, Int.reduceEq, reduceIte, true_and, Nat.zero_add, Nat.add_zero, Option.map_some, XEnd, sp2, ← hG, bd_res4, bd_ans, f1]
    refine ncall_ct (answer_c (x := ⟨0, [], 4, 0⟩) (yF.ext eG) (by decide) (by decide) (.nil _ _ _) (by decide)) ?_
    rintro r A ⟨kA, rfl, vv', yA⟩
    have gA : A.get F.next = some (.row (askL (tickC (clW 11)).turn (clW 11).t.ses (clW 11).t.req uc ua ur uw false nilV 0) 0 false) := (kA.get _ (by rw [hG]; exact Nat.lt_succ_self _) (by have := yF.lt; omega)).trans gG
    have a1 : ansB (tickC (clW 11)) 3 1 4 = true := by decide
    have a2 : ansE (tickC (clW 11)) 3 1 4 = 0 := by decide
    have a3 : (ansC (tickC (clW 11)) 3 1 ⟨0, [], 4, 0⟩).tok = 5 := by decide
    simp -implicitDefEqProofs (disch := first | omega | (simp -implicitDefEqProofs only [go_sem, List.size_toArray, List.length_cons, List.length_nil, Nat.reduceAdd]; done)) only [go_sem, Int.reduceLT, Int.reduceLE, Int.reduceEq, reduceIte, true_and, Nat.zero_add, Nat.add_zero, Option.map_some, XEnd, a1, a2, cellAt_row gA, et, dPick_t, dPick_f, f1]
    refine ncall (token_c yA (by decide)) ?_
    simp -implicitDefEqProofs (disch := first | omega | (simp -implicitDefEqProofs only [go_sem, List.size_toArray, List.length_cons, List.length_nil, Nat.reduceAdd]; done)) only [go_sem, Int.reduceLT, Int.reduceLE, Int.reduceEq, reduceIte, true_and, Nat.zero_add, Nat.add_zero, Option.map_some, a3, dPick_t, dPick_f]
    exact ⟨_, rfl, rfl, ((((kK.trans kF).trans (Keep.ofExt eG)).trans kA).toExt (.refl _) (Nat.le_refl _))⟩
end Go.Proofs.Ytbdljpndncohaaa

namespace Go.Proofs.Ytbdljpndncohaaa
open Go.D
set_option maxRecDepth 100000

/-- a call's box -/
structure OpAt (h : DHeap) (id : Nat) (x : OpC) (vc va vr vw vv vk vp : Value) : Prop where
  row : h.get id = some (.row (opL x vc va vr vw vv vk vp) 0 false)
  lt : id < h.next
  c : vc.cells = #[vc]
  a : va.cells = #[va]
  r : vr.cells = #[vr]
  w : vw.cells = #[vw]
  v : vv.cells = #[vv]
  p : vp.cells = #[vp]
theorem OpAt.ext {h h1 : DHeap} {id : Nat} {x : OpC} {vc va vr vw vv vk vp : Value} (o : OpAt h id x vc va vr vw vv vk vp) (e : Ext h h1) : OpAt h1 id x vc va vr vw vv vk vp :=
  ⟨(e.get _ o.lt).trans o.row, Nat.lt_of_lt_of_le o.lt e.next, o.c, o.a, o.r, o.w, o.v, o.p⟩
theorem OpAt.txn {h : DHeap} {id : Nat} {x : OpC} {vc va vr vw vv vk vp : Value} (o : OpAt h id x vc va vr vw vv vk vp) : cellsAt h id 1 6 = some (txnV x.t.ses x.t.req vc va vr vw) := by
  rw [cellsAt_row o.row (Nat.le_of_ble_eq_true rfl)]; rfl
theorem OpAt.ans {h : DHeap} {id : Nat} {x : OpC} {vc va vr vw vv vk vp : Value} (o : OpAt h id x vc va vr vw vv vk vp) : cellsAt h id 8 6 = some (.agg #[.int .i64 x.a.ses, .int .i64 x.a.req, .int .i64 x.a.x.e, vv, .int .i64 x.a.x.s, .int .i64 x.a.x.p]) := by
  rw [cellsAt_row o.row (Nat.le_of_ble_eq_true rfl)]; rfl
theorem OpAt.fnd {h : DHeap} {id : Nat} {x : OpC} {vc va vr vw vv vk vp : Value} (o : OpAt h id x vc va vr vw vv vk vp) : cellsAt h id 16 3 = some (.agg #[.int .i64 x.f.err, .int .i64 x.f.index, vp]) := by
  rw [cellsAt_row o.row (Nat.le_of_ble_eq_true rfl)]; rfl
theorem OpAt.cell {h : DHeap} {id : Nat} {x : OpC} {vc va vr vw vv vk vp : Value} (o : OpAt h id x vc va vr vw vv vk vp) (i : Nat) : cellAt h id i = (opL x vc va vr vw vv vk vp)[i]? := cellAt_row o.row
end Go.Proofs.Ytbdljpndncohaaa

namespace Go.Proofs.Ytbdljpndncohaaa
open Go.D
set_option maxRecDepth 100000

end Go.Proofs.Ytbdljpndncohaaa

namespace Go.Proofs.Ytbdljpndncohaaa
open Go.D
set_option maxRecDepth 100000

/-- what the operations of the law's comparison give -/
def NlV (t : Txn) (vc va vr vw nc na nr nw : Value) (k : Nat) (h : DHeap) (v : Value) : Prop :=
  match k with
  | 0 => v = txnV t.ses t.req nc na nr nw
  | 1 => v = txnV t.ses t.req vc va vr vw
  | 2 => ∃ ur uw, v = txnV t.ses t.req vc va ur uw ∧ Arg fKey.rep h ur (keysN t.reads) ∧ Arg fKey.rep h uw (keysN t.writes)
  | 3 => v = .bool true
  | 4 => v = .bool false
  | _ => True
theorem NlV.mono {t : Txn} {vc va vr vw nc na nr nw : Value} : ∀ k h h' v, Ext h h' → NlV t vc va vr vw nc na nr nw k h v → NlV t vc va vr vw nc na nr nw k h' v := fun k h h' v e x => by
  unfold NlV at *
  split at x <;> try exact x
  obtain ⟨ur, uw, a, b, c⟩ := x
  exact ⟨ur, uw, a, b.ext e, c.ext e⟩
end Go.Proofs.Ytbdljpndncohaaa

namespace Go.Proofs.Ytbdljpndncohaaa
open Go.D
set_option maxRecDepth 100000

theorem XIf_cutBd {P : Program} {nt id : Nat} {x y : Code} {K : St → Prop} {Q : DExit → St → Prop} {s : St} {p : Prop} [Decidable p] (M : St → Prop) (h1 : p → xs P nt x (DBlock id (DThen M Q)) s) (h2 : ¬ p → xs P nt y (DBlock id (DThen M Q)) s) (h3 : ∀ s', M s' → K s') :
    XIf P nt x y (DBlock id (DThen K Q)) s (some (.bool (decide p))) :=
  ⟨fun ht => xs_mono x s (DBlock_cut h3) (h1 (of_decide_eq_true ht)), fun hf => xs_mono y s (DBlock_cut h3) (h2 (of_decide_eq_false hf))⟩
def foundE (c : Cl) (e i : Int) : Int := if e ≠ 0 then e else if i < 0 ∨ 1099511627776 < i then 1 else if i < c.tok then 250 else 0
def foundC (c : Cl) (e i : Int) : Cl := if foundE c e i = 0 then { c with tok := i } else c
theorem found_c {S : Nat → Prop} {h : DHeap} {B : Nat} {c : Cl} {vc va vr vw vv vp : Value} {e i : Int} (y : ClAt S h B c vc va vr vw vv) (hr : c.reps ≠ 0) (hp : vp.cells = #[vp]) :
    Ct Try.prog 25 [.pointer (some ⟨B, 0, none⟩), .agg #[.int .i64 e, .int .i64 i, vp]] h fun r h1 => Keep B h h1 ∧ r = .ret (.int .i64 (foundE c e i)) ∧ ClAt S h1 B (foundC c e i) vc va vr vw vv := by
  refine go_25 (by simp) ?_
  obtain ⟨H, hH⟩ : ∃ H, H = h.push (.row [.int .i64 e, .int .i64 i, vp] 0 false) := ⟨_, rfl⟩
  have hE : Ext h H := by rw [hH]; exact Ext.push1 _ _
  have ga : H.get h.next = some (.row [.int .i64 e, .int .i64 i, vp] 0 false) := by rw [hH]; exact get_push_same _ _
  have yH := y.ext hE
  have ylt := y.lt
  have no : ∀ n, foundE c e i = n → n ≠ 0 → ∃ v, some (Value.int .i64 n) = some v ∧ Keep B h H ∧ DEnd.ret v = .ret (.int .i64 (foundE c e i)) ∧ ClAt S H B (foundC c e i) vc va vr vw vv := fun n h1 h2 =>
    ⟨_, rfl, .ofExt hE, by rw [h1], by rw [foundC, if_neg (by rw [h1]; exact h2)]; exact yH⟩
  simp -implicitDefEqProofs (disch := first | omega | (simp -implicitDefEqProofs only [go_sem, List.size_toArray, List.length_cons, List.length_nil, Nat.reduceAdd]; done)) only [go_sem, Int.reduceLT, Int.reduceLE, Int.reduceEq, reduceIte, true_and, Nat.zero_add, Nat.add_zero, Option.map_some, c25, next_push, ← hH]
  refine ncall (none_no yH hr) ?_
  by_cases p1 : e = 0
  case neg =>
    have hF : foundE c e i = e := by rw [foundE, if_pos p1]
    simp -implicitDefEqProofs (disch := first | omega | (simp -implicitDefEqProofs only [go_sem, List.size_toArray, List.length_cons, List.length_nil, Nat.reduceAdd]; done)) only [go_sem, Int.reduceLT, Int.reduceLE, Int.reduceEq, reduceIte, true_and, Nat.zero_add, Nat.add_zero, Option.map_some, cellAt_row ga, p1]
    exact no _ hF p1
  have p1' := eq_true p1
  have h0 : foundE c e i = if i < 0 ∨ 1099511627776 < i then 1 else if i < c.tok then 250 else 0 := by rw [foundE, if_neg (fun h => h p1)]
  by_cases p2 : i < 0
  · have p2' := eq_true p2
    simp -implicitDefEqProofs (disch := first | omega | (simp -implicitDefEqProofs only [go_sem, List.size_toArray, List.length_cons, List.length_nil, Nat.reduceAdd]; done)) only [go_sem, Int.reduceLT, Int.reduceLE, Int.reduceEq, reduceIte, true_and, Nat.zero_add, Nat.add_zero, Option.map_some, cellAt_row ga, p1', p2', dPick_t, dPick_f]
    exact no _ (by rw [h0, if_pos (.inl p2)]) (by decide)
  by_cases p3 : 1099511627776 < i
  · have p3' := eq_true p3
    simp -implicitDefEqProofs (disch := first | omega | (simp -implicitDefEqProofs only [go_sem, List.size_toArray, List.length_cons, List.length_nil, Nat.reduceAdd]; done)) only [go_sem, Int.reduceLT, Int.reduceLE, Int.reduceEq, reduceIte, true_and, Nat.zero_add, Nat.add_zero, Option.map_some, cellAt_row ga, p1', p2, p3', dPick_t, dPick_f]
    exact no _ (by rw [h0, if_pos (.inr p3)]) (by decide)
  rw [if_neg (by omega)] at h0
  simp -implicitDefEqProofs (disch := first | omega | (simp -implicitDefEqProofs only [go_sem, List.size_toArray, List.length_cons, List.length_nil, Nat.reduceAdd]; done)) only [go_sem, Int.reduceLT, Int.reduceLE, Int.reduceEq, reduceIte, true_and, Nat.zero_add, Nat.add_zero, Option.map_some, cellAt_row ga, p1', p2, p3, dPick_t, dPick_f]
  refine dr_25_0 ?_
  by_cases p4 : i < c.tok
  · have p4' := eq_true p4
    simp -implicitDefEqProofs (disch := first | omega | (simp -implicitDefEqProofs only [go_sem, List.size_toArray, List.length_cons, List.length_nil, Nat.reduceAdd]; done)) only [go_sem, Int.reduceLT, Int.reduceLE, Int.reduceEq, reduceIte, true_and, Nat.zero_add, Nat.add_zero, Option.map_some, l25_0, cellAt_row ga, yH.cell, p4', XStab_nil]
    exact no _ (by rw [h0, if_pos p4]) (by decide)
  rw [if_neg p4] at h0
  have hC : foundC c e i = { c with tok := i } := by rw [foundC, if_pos h0]
  obtain ⟨st, y1⟩ := yH.put (c' := foundC c e i) (o := 12) (v := .int .i64 i) rfl rfl (by decide) (by rw [hC]; rfl) (by rw [hC]) (by rw [hC])
  simp -implicitDefEqProofs (disch := first | omega | (simp -implicitDefEqProofs only [go_sem, List.size_toArray, List.length_cons, List.length_nil, Nat.reduceAdd]; done)) only [go_sem, Int.reduceLT, Int.reduceLE, Int.reduceEq, reduceIte, true_and, Nat.zero_add, Nat.add_zero, Option.map_some, l25_0, cellAt_row ga, yH.cell, p4, XStab_nil, st]
  exact ⟨_, rfl, (Keep.ofExt hE).set _, by rw [h0], y1⟩
/-- a session that is as it should be -/
structure ClOk (c : Cl) : Prop where
  reps : 1 ≤ c.reps ∧ c.reps ≤ 5
  req : 0 ≤ c.req
  wait : 0 ≤ c.wait ∧ c.wait ≤ 11
  turn : 0 ≤ c.turn ∧ c.turn < c.reps
  tok : 0 ≤ c.tok
  len : TxLen c.t
theorem ok_cl0 {s r : Int} (h : newE s r = 0) : ClOk (cl0 s r) := by
  unfold newE at h
  split at h
  · cases h
  · rename_i hh
    exact ⟨⟨by show 1 ≤ r; omega, by show r ≤ 5; omega⟩, by show (0 : Int) ≤ 0; decide, ⟨by show (0 : Int) ≤ 0; decide, by show (0 : Int) ≤ 11; decide⟩, ⟨by show (0 : Int) ≤ 0; decide, by show (0 : Int) < r; omega⟩, by show (0 : Int) ≤ 0; decide, tx0_len⟩
theorem ok_submit {c : Cl} {t : Txn} {k : Int} (o : ClOk c) (hl : TxLen t) (he : submitE c t k = 0) : ClOk (submitC c t k) := by
  have hk : 0 ≤ k ∧ k < c.reps := by
    unfold submitE at he
    split at he
    · cases he
    · split at he
      · cases he
      · omega
  have h1 := o.req
  exact ⟨o.reps, by show 0 ≤ c.req + 1; omega, ⟨by show (0 : Int) ≤ 0; decide, by show (0 : Int) ≤ 11; decide⟩, hk, o.tok, hl.sub⟩
theorem ok_tick {c : Cl} (o : ClOk c) : ClOk (tickC c) := by
  unfold tickC
  have h1 := o.reps
  have h2 := o.wait
  have h3 := o.turn
  split
  · exact o
  · split
    · exact ⟨o.reps, o.req, ⟨by show 0 ≤ c.wait + 1; omega, by show c.wait + 1 ≤ 11; omega⟩, o.turn, o.tok, o.len⟩
    · exact ⟨o.reps, o.req, ⟨by show (0 : Int) ≤ 0; decide, by show (0 : Int) ≤ 11; decide⟩, ⟨Int.tmod_nonneg _ (by omega), Int.tmod_lt_of_pos _ (by omega)⟩, o.tok, o.len⟩
theorem ok_ans {c : Cl} {a b : Int} {x : Res} (o : ClOk c) : ClOk (ansC c a b x) := by
  unfold ansC
  split
  · exact ⟨o.reps, o.req, o.wait, o.turn, by have := o.tok; show 0 ≤ max c.tok (x.s + 1); omega, o.len⟩
  · exact o
theorem ok_found {c : Cl} {e i : Int} (o : ClOk c) : ClOk (foundC c e i) := by
  unfold foundC
  split
  · rename_i h
    refine ⟨o.reps, o.req, o.wait, o.turn, ?_, o.len⟩
    unfold foundE at h
    split at h
    · exact absurd h (by assumption)
    · split at h
      · cases h
      · show 0 ≤ i; omega
  · exact o
end Go.Proofs.Ytbdljpndncohaaa

namespace Go.Proofs.Ytbdljpndncohaaa
open Go.D
set_option maxRecDepth 100000

structure OpLen (x : OpC) : Prop where
  t : TxLen x.t
  v : x.a.x.vs.length ≤ 1048576
  k : x.keys.length ≤ 1048576
abbrev opL0 : List Value := [.int .i64 0, .int .i64 0, .int .i64 0, nilV, nilV, nilV, nilV, .int .i64 0, .int .i64 0, .int .i64 0, .int .i64 0, nilV, .int .i64 0, .int .i64 0, .bool false, nilV, .int .i64 0, .int .i64 0, nilV]
/-- a call of a script -/
theorem op_idx {h : DHeap} {v : Value} {l : List OpC} {i : Nat} (hb : Arg rOpC h v l) (hi : i < l.length) :
    ∃ id o vc va vr vw vv vk vp, dIndexAddr Try.prog 62 v (.int .i64 (i : Nat)) = some (.pointer (some ⟨id, o, none⟩)) ∧ cellsAt h id o 19 = some (.agg (opL l[i] vc va vr vw vv vk vp).toArray) ∧ TxV (InH h) h l[i].t vc va vr vw ∧ Arg fI64.rep h vv l[i].a.x.vs ∧ Arg fKey.rep h vk l[i].keys ∧ Arg fPair.rep h vp l[i].f.pairs := by
  obtain ⟨id, o, g, hs, hat⟩ := hb.idx (P := Try.prog) (t := 62) el_62 (k := .i64) (List.getElem?_eq_getElem hi)
  obtain ⟨cs, e1, e2⟩ := hat.load_agg
  obtain ⟨vc, va, vr, vw, vv, vk, vp, rfl, t, k1, k2, k3⟩ := op_in e2
  exact ⟨id, o, vc, va, vr, vw, vv, vk, vp, g, e1, t, k1, k2, k3⟩
theorem op_one {S : Nat → Prop} {h : DHeap} {x : OpC} {vc va vr vw vv vk vp : Value} (t : TxV S h x.t vc va vr vw) (k1 : Sl fI64.rep S h vv x.a.x.vs) (k2 : Sl fKey.rep S h vk x.keys) (k3 : Sl fPair.rep S h vp x.f.pairs) : (opL x vc va vr vw vv vk vp).all Value.oneCell' = true := by
  obtain ⟨_, _, rfl⟩ := t.c.isSlice
  obtain ⟨_, _, rfl⟩ := t.a.isSlice
  obtain ⟨_, _, rfl⟩ := t.r.isSlice
  obtain ⟨_, _, rfl⟩ := t.w.isSlice
  obtain ⟨_, _, rfl⟩ := k1.isSlice
  obtain ⟨_, _, rfl⟩ := k2.isSlice
  obtain ⟨_, _, rfl⟩ := k3.isSlice
  rfl
set_option maxHeartbeats 4000000 in
theorem tokens_c {h : DHeap} {v : Value} {l : List OpC} (hb : Arg rOpC h v l) (hl : ∀ x ∈ l, OpLen x) (hln : l.length ≤ 1048576) :
    DC Try.prog 6 [v] h (.ret (.bool true)) h := by
  refine Ct.pure (go_6 (by simp) ?_) (vin_bool _)
  have el : ∀ K, dLen Try.prog #[62] v K = some (.int .i64 (l.length : Nat)) := hb.lens (P := Try.prog) (ts := #[62]) (t := 62) rfl isl_62
  simp -implicitDefEqProofs (disch := first | omega | (simp -implicitDefEqProofs only [go_sem, List.size_toArray, List.length_cons, List.length_nil, Nat.reduceAdd]; done)) only [go_sem, Int.reduceLT, Int.reduceLE, Int.reduceEq, reduceIte, true_and, Nat.zero_add, Nat.add_zero, Option.map_some, c6]
  refine ncall_ct (new_ok (s := 1) (r := 3) rfl) ?_
  rintro r G ⟨rfl, hG⟩
  have eG : Ext h G := by rw [hG]; exact Ext.push1 _ _
  have x0 : ClAt NoS G h.next (cl0 1 3) nilV nilV nilV nilV nilV := by rw [hG]; exact cl0_at
  simp -implicitDefEqProofs (disch := first | omega | (simp -implicitDefEqProofs only [go_sem, List.size_toArray, List.length_cons, List.length_nil, Nat.reduceAdd]; done)) only [go_sem, Int.reduceLT, Int.reduceLE, Int.reduceEq, reduceIte, true_and, Nat.zero_add, Nat.add_zero, Option.map_some, XEnd, ptr_some, dPick_t, dPick_f]
  refine ncall live_c ?_
  simp -implicitDefEqProofs (disch := first | omega | (simp -implicitDefEqProofs only [go_sem, List.size_toArray, List.length_cons, List.length_nil, Nat.reduceAdd]; done)) only [go_sem, Int.reduceLT, Int.reduceLE, Int.reduceEq, reduceIte, true_and, Nat.zero_add, Nat.add_zero, Option.map_some, Bool.not_true, dPick_t, dPick_f, el]
  refine xloop (σ := Nat) (by kernel_rfl) (fun i s => s.df = [] ∧ s.rd = none ∧ s.fr 3 = some (.pointer (some ⟨h.next, 0, none⟩)) ∧ s.fr 25 = some v ∧ s.fr 26 = some (.int .i64 (l.length : Nat)) ∧ s.fr 27 = some (.int .i64 (i : Nat)) ∧ i ≤ l.length ∧ Keep h.next G s.h ∧ ∃ (S : Nat → Prop) (c : Cl) (vc va vr vw vv : Value), ClAt S s.h h.next c vc va vr vw vv ∧ ClOk c ∧ c.ses = 1) (fun i => l.length - i) 0 ?_ ?_
  · simp -implicitDefEqProofs (disch := first | omega | (simp -implicitDefEqProofs only [go_sem, List.size_toArray, List.length_cons, List.length_nil, Nat.reduceAdd]; done)) only [go_sem, Int.reduceLT, Int.reduceLE, Int.reduceEq, reduceIte, true_and, Nat.zero_add, Nat.add_zero, Option.map_some]
    exact ⟨rfl, Nat.zero_le _, ⟨Nat.le_refl _, rfl, fun _ _ _ => rfl⟩, NoS, cl0 1 3, _, _, _, _, _, x0, ok_cl0 rfl, rfl⟩
  rintro i ⟨fr, df, K, rd⟩ K' hK' hX ⟨hdf, hrd, f3, f25, f26, f27, hi, kK, S, c, uc, ua, ur, uw, uv, xK, ok, hs1⟩
  simp only at hdf hrd f3 f25 f26 f27 kK xK
  subst hdf hrd
  simp -implicitDefEqProofs (disch := first | omega | (simp -implicitDefEqProofs only [go_sem, List.size_toArray, List.length_cons, List.length_nil, Nat.reduceAdd]; done)) only [go_sem, Int.reduceLT, Int.reduceLE, Int.reduceEq, reduceIte, true_and, Nat.zero_add, Nat.add_zero, Option.map_some, f26, f27]
  refine XIf_dec (fun hc1 => ?_) (fun hc1 => ?_)
  · have hil : i < l.length := by omega
    have hw1 := wrap_succ hil (by omega)
    have hEK : Ext h K := ((Keep.ofExt eG).trans kK).toExt (.refl _) (Nat.le_refl _)
    obtain ⟨id, o, vc, va, vr, vw, vv, vk, vp, hia, c19, tx, k1, k2, k3⟩ := op_idx (hb.ext hEK) hil
    have hol := hl _ (List.getElem_mem hil)
    obtain ⟨x, hx⟩ : ∃ x, l[i] = x := ⟨_, rfl⟩
    rw [hx] at c19 tx k1 k2 k3 hol
    have hc := tx.c.cells1
    have ha := tx.a.cells1
    have hr := tx.r.cells1
    have hw := tx.w.cells1
    have hv := k1.cells1
    have hk := k2.cells1
    have hp := k3.cells1
    obtain ⟨K1, hK1⟩ : ∃ K1, K1 = K.push (.row (opL x vc va vr vw vv vk vp) 0 false) := ⟨_, rfl⟩
    have sp : storeAt (K.push (.row opL0 0 false)) K.next 0 (opL x vc va vr vw vv vk vp) = some K1 := by rw [hK1]; exact storeAll_push rfl (op_one tx k1 k2 k3)
    have e1 : Ext K K1 := by rw [hK1]; exact Ext.push1 _ _
    have o1 : OpAt K1 K.next x vc va vr vw vv vk vp := ⟨by rw [hK1]; exact get_push_same _ _, by rw [hK1]; exact Nat.lt_succ_self _, hc, ha, hr, hw, hv, hp⟩
    have x1 := xK.ext e1
    have hrn : c.reps ≠ 0 := by have := ok.reps; omega
    simp -implicitDefEqProofs (disch := first | omega | (simp -implicitDefEqProofs only [go_sem, List.size_toArray, List.length_cons, List.length_nil, Nat.reduceAdd]; done)) only [go_sem, Int.reduceLT, Int.reduceLE, Int.reduceEq, reduceIte, true_and, Nat.zero_add, Nat.add_zero, Option.map_some, f25, f27, hia, c19, sp, f3]
    refine ncall (token_c x1 hrn) ?_
    simp -implicitDefEqProofs (disch := first | omega | (simp -implicitDefEqProofs only [go_sem, List.size_toArray, List.length_cons, List.length_nil, Nat.reduceAdd]; done)) only [go_sem, Int.reduceLT, Int.reduceLE, Int.reduceEq, reduceIte, true_and, Nat.zero_add, Nat.add_zero, Option.map_some, o1.cell]
    have kK1 : Keep h.next G K1 := kK.trans (Keep.ofExt e1)
    have hGn : G.next = h.next + 1 := by rw [hG]; rfl
    have hKn := kK.next
    obtain ⟨MM, hMM⟩ : ∃ MM : St → Prop, MM = fun s => s.df = [] ∧ s.rd = none ∧ s.fr 3 = some (.pointer (some ⟨h.next, 0, none⟩)) ∧ s.fr 7 = some (.int .i64 c.tok) ∧ s.fr 25 = some v ∧ s.fr 26 = some (.int .i64 (l.length : Nat)) ∧ s.fr 27 = some (.int .i64 (i : Nat)) ∧ Keep h.next G s.h ∧ ∃ (S : Nat → Prop) (c' : Cl) (vc va vr vw vv : Value), ClAt S s.h h.next c' vc va vr vw vv ∧ ClOk c' ∧ c'.ses = 1 ∧ c.tok ≤ c'.tok := ⟨_, rfl⟩
    refine XIf_cutBd MM (fun h0 => ?_) (fun h0 => ?_) ?_
    · simp -implicitDefEqProofs (disch := first | omega | (simp -implicitDefEqProofs only [go_sem, List.size_toArray, List.length_cons, List.length_nil, Nat.reduceAdd]; done)) only [go_sem, Int.reduceLT, Int.reduceLE, Int.reduceEq, reduceIte, true_and, Nat.zero_add, Nat.add_zero, Option.map_some, f3, o1.txn, o1.cell]
      refine ncall_ct (submit_c x1 hrn ok.req (tx.ext e1) hol.t) ?_
      rintro r M (⟨_, rfl, eM⟩ | ⟨hgood, kM, n1, vc', va', vr', vw', wc, wa, wr, ww, hn1, hn2, rfl, x2, _⟩)
      · simp -implicitDefEqProofs (disch := first | omega | (simp -implicitDefEqProofs only [go_sem, List.size_toArray, List.length_cons, List.length_nil, Nat.reduceAdd]; done)) only [go_sem, Int.reduceLT, Int.reduceLE, Int.reduceEq, reduceIte, true_and, Nat.zero_add, Nat.add_zero, Option.map_some, XEnd]
        rw [hMM]
        exact ⟨by trivial, by trivial, by simp -implicitDefEqProofs (disch := first | omega | (simp -implicitDefEqProofs only [go_sem, List.size_toArray, List.length_cons, List.length_nil, Nat.reduceAdd]; done)) only [go_sem, Int.reduceLT, Int.reduceLE, Int.reduceEq, reduceIte, true_and, Nat.zero_add, Nat.add_zero, Option.map_some, f3], by simp -implicitDefEqProofs (disch := first | omega | (simp -implicitDefEqProofs only [go_sem, List.size_toArray, List.length_cons, List.length_nil, Nat.reduceAdd]; done)) only [go_sem, Int.reduceLT, Int.reduceLE, Int.reduceEq, reduceIte, true_and, Nat.zero_add, Nat.add_zero, Option.map_some], by simp -implicitDefEqProofs (disch := first | omega | (simp -implicitDefEqProofs only [go_sem, List.size_toArray, List.length_cons, List.length_nil, Nat.reduceAdd]; done)) only [go_sem, Int.reduceLT, Int.reduceLE, Int.reduceEq, reduceIte, true_and, Nat.zero_add, Nat.add_zero, Option.map_some, f25], by simp -implicitDefEqProofs (disch := first | omega | (simp -implicitDefEqProofs only [go_sem, List.size_toArray, List.length_cons, List.length_nil, Nat.reduceAdd]; done)) only [go_sem, Int.reduceLT, Int.reduceLE, Int.reduceEq, reduceIte, true_and, Nat.zero_add, Nat.add_zero, Option.map_some, f26], by simp -implicitDefEqProofs (disch := first | omega | (simp -implicitDefEqProofs only [go_sem, List.size_toArray, List.length_cons, List.length_nil, Nat.reduceAdd]; done)) only [go_sem, Int.reduceLT, Int.reduceLE, Int.reduceEq, reduceIte, true_and, Nat.zero_add, Nat.add_zero, Option.map_some, f27], kK1.trans (Keep.ofExt eM), S, c, _, _, _, _, _, x1.ext eM, ok, hs1, Int.le_refl _⟩
      · simp -implicitDefEqProofs (disch := first | omega | (simp -implicitDefEqProofs only [go_sem, List.size_toArray, List.length_cons, List.length_nil, Nat.reduceAdd]; done)) only [go_sem, Int.reduceLT, Int.reduceLE, Int.reduceEq, reduceIte, true_and, Nat.zero_add, Nat.add_zero, Option.map_some, XEnd]
        rw [hMM]
        exact ⟨by trivial, by trivial, by simp -implicitDefEqProofs (disch := first | omega | (simp -implicitDefEqProofs only [go_sem, List.size_toArray, List.length_cons, List.length_nil, Nat.reduceAdd]; done)) only [go_sem, Int.reduceLT, Int.reduceLE, Int.reduceEq, reduceIte, true_and, Nat.zero_add, Nat.add_zero, Option.map_some, f3], by simp -implicitDefEqProofs (disch := first | omega | (simp -implicitDefEqProofs only [go_sem, List.size_toArray, List.length_cons, List.length_nil, Nat.reduceAdd]; done)) only [go_sem, Int.reduceLT, Int.reduceLE, Int.reduceEq, reduceIte, true_and, Nat.zero_add, Nat.add_zero, Option.map_some], by simp -implicitDefEqProofs (disch := first | omega | (simp -implicitDefEqProofs only [go_sem, List.size_toArray, List.length_cons, List.length_nil, Nat.reduceAdd]; done)) only [go_sem, Int.reduceLT, Int.reduceLE, Int.reduceEq, reduceIte, true_and, Nat.zero_add, Nat.add_zero, Option.map_some, f25], by simp -implicitDefEqProofs (disch := first | omega | (simp -implicitDefEqProofs only [go_sem, List.size_toArray, List.length_cons, List.length_nil, Nat.reduceAdd]; done)) only [go_sem, Int.reduceLT, Int.reduceLE, Int.reduceEq, reduceIte, true_and, Nat.zero_add, Nat.add_zero, Option.map_some, f26], by simp -implicitDefEqProofs (disch := first | omega | (simp -implicitDefEqProofs only [go_sem, List.size_toArray, List.length_cons, List.length_nil, Nat.reduceAdd]; done)) only [go_sem, Int.reduceLT, Int.reduceLE, Int.reduceEq, reduceIte, true_and, Nat.zero_add, Nat.add_zero, Option.map_some, f27], kK1.trans kM, _, submitC c x.t x.rep, _, _, _, _, _, x2, ok_submit ok hol.t hgood, hs1, Int.le_refl _⟩
    · by_cases h1 : x.kind = 1
      · have h1' := eq_true h1
        simp -implicitDefEqProofs (disch := first | omega | (simp -implicitDefEqProofs only [go_sem, List.size_toArray, List.length_cons, List.length_nil, Nat.reduceAdd]; done)) only [go_sem, Int.reduceLT, Int.reduceLE, Int.reduceEq, reduceIte, true_and, Nat.zero_add, Nat.add_zero, Option.map_some, h1', f3]
        have hw := ok.wait
        have ht := ok.turn
        have hr5 := ok.reps
        refine ncall_ct (tick_c x1 hrn ⟨hw.1, by omega⟩ ⟨ht.1, by omega⟩ ok.len) ?_
        rintro r M ⟨kM, x2, hh⟩
        have h3 : (tickC c).ses = 1 ∧ (tickC c).tok = c.tok := by
          unfold tickC
          split
          · exact ⟨hs1, rfl⟩
          · split <;> exact ⟨hs1, rfl⟩
        have fin : ∀ fr1 : Fr, fr1 3 = some (.pointer (some ⟨h.next, 0, none⟩)) → fr1 7 = some (.int .i64 c.tok) → fr1 25 = some v → fr1 26 = some (.int .i64 (l.length : Nat)) → fr1 27 = some (.int .i64 (i : Nat)) → fr1 3 = some (.pointer (some ⟨h.next, 0, none⟩)) ∧ fr1 7 = some (.int .i64 c.tok) ∧ fr1 25 = some v ∧ fr1 26 = some (.int .i64 (l.length : Nat)) ∧ fr1 27 = some (.int .i64 (i : Nat)) ∧ Keep h.next G M ∧ ∃ (S : Nat → Prop) (c' : Cl) (vc va vr vw vv : Value), ClAt S M h.next c' vc va vr vw vv ∧ ClOk c' ∧ c'.ses = 1 ∧ c.tok ≤ c'.tok := fun fr1 a b d e f =>
          ⟨a, b, d, e, f, kK1.trans kM, S, tickC c, _, _, _, _, _, x2, ok_tick ok, h3.1, by rw [h3.2]; exact Int.le_refl _⟩
        rcases hh with ⟨_, rfl⟩ | ⟨_, wc, wa, wr, ww, rfl, _⟩
        · simp -implicitDefEqProofs (disch := first | omega | (simp -implicitDefEqProofs only [go_sem, List.size_toArray, List.length_cons, List.length_nil, Nat.reduceAdd]; done)) only [go_sem, Int.reduceLT, Int.reduceLE, Int.reduceEq, reduceIte, true_and, Nat.zero_add, Nat.add_zero, Option.map_some, XEnd]
          rw [hMM]
          exact ⟨by trivial, by trivial, fin _ (by simp -implicitDefEqProofs (disch := first | omega | (simp -implicitDefEqProofs only [go_sem, List.size_toArray, List.length_cons, List.length_nil, Nat.reduceAdd]; done)) only [go_sem, Int.reduceLT, Int.reduceLE, Int.reduceEq, reduceIte, true_and, Nat.zero_add, Nat.add_zero, Option.map_some, f3]) (by simp -implicitDefEqProofs (disch := first | omega | (simp -implicitDefEqProofs only [go_sem, List.size_toArray, List.length_cons, List.length_nil, Nat.reduceAdd]; done)) only [go_sem, Int.reduceLT, Int.reduceLE, Int.reduceEq, reduceIte, true_and, Nat.zero_add, Nat.add_zero, Option.map_some]) (by simp -implicitDefEqProofs (disch := first | omega | (simp -implicitDefEqProofs only [go_sem, List.size_toArray, List.length_cons, List.length_nil, Nat.reduceAdd]; done)) only [go_sem, Int.reduceLT, Int.reduceLE, Int.reduceEq, reduceIte, true_and, Nat.zero_add, Nat.add_zero, Option.map_some, f25]) (by simp -implicitDefEqProofs (disch := first | omega | (simp -implicitDefEqProofs only [go_sem, List.size_toArray, List.length_cons, List.length_nil, Nat.reduceAdd]; done)) only [go_sem, Int.reduceLT, Int.reduceLE, Int.reduceEq, reduceIte, true_and, Nat.zero_add, Nat.add_zero, Option.map_some, f26]) (by simp -implicitDefEqProofs (disch := first | omega | (simp -implicitDefEqProofs only [go_sem, List.size_toArray, List.length_cons, List.length_nil, Nat.reduceAdd]; done)) only [go_sem, Int.reduceLT, Int.reduceLE, Int.reduceEq, reduceIte, true_and, Nat.zero_add, Nat.add_zero, Option.map_some, f27])⟩
        · simp -implicitDefEqProofs (disch := first | omega | (simp -implicitDefEqProofs only [go_sem, List.size_toArray, List.length_cons, List.length_nil, Nat.reduceAdd]; done)) only [go_sem, Int.reduceLT, Int.reduceLE, Int.reduceEq, reduceIte, true_and, Nat.zero_add, Nat.add_zero, Option.map_some, XEnd]
          rw [hMM]
          exact ⟨by trivial, by trivial, fin _ (by simp -implicitDefEqProofs (disch := first | omega | (simp -implicitDefEqProofs only [go_sem, List.size_toArray, List.length_cons, List.length_nil, Nat.reduceAdd]; done)) only [go_sem, Int.reduceLT, Int.reduceLE, Int.reduceEq, reduceIte, true_and, Nat.zero_add, Nat.add_zero, Option.map_some, f3]) (by simp -implicitDefEqProofs (disch := first | omega | (simp -implicitDefEqProofs only [go_sem, List.size_toArray, List.length_cons, List.length_nil, Nat.reduceAdd]; done)) only [go_sem, Int.reduceLT, Int.reduceLE, Int.reduceEq, reduceIte, true_and, Nat.zero_add, Nat.add_zero, Option.map_some]) (by simp -implicitDefEqProofs (disch := first | omega | (simp -implicitDefEqProofs only [go_sem, List.size_toArray, List.length_cons, List.length_nil, Nat.reduceAdd]; done)) only [go_sem, Int.reduceLT, Int.reduceLE, Int.reduceEq, reduceIte, true_and, Nat.zero_add, Nat.add_zero, Option.map_some, f25]) (by simp -implicitDefEqProofs (disch := first | omega | (simp -implicitDefEqProofs only [go_sem, List.size_toArray, List.length_cons, List.length_nil, Nat.reduceAdd]; done)) only [go_sem, Int.reduceLT, Int.reduceLE, Int.reduceEq, reduceIte, true_and, Nat.zero_add, Nat.add_zero, Option.map_some, f26]) (by simp -implicitDefEqProofs (disch := first | omega | (simp -implicitDefEqProofs only [go_sem, List.size_toArray, List.length_cons, List.length_nil, Nat.reduceAdd]; done)) only [go_sem, Int.reduceLT, Int.reduceLE, Int.reduceEq, reduceIte, true_and, Nat.zero_add, Nat.add_zero, Option.map_some, f27])⟩
      by_cases h2 : x.kind = 2
      · have h2' := eq_true h2
        simp -implicitDefEqProofs (disch := first | omega | (simp -implicitDefEqProofs only [go_sem, List.size_toArray, List.length_cons, List.length_nil, Nat.reduceAdd]; done)) only [go_sem, Int.reduceLT, Int.reduceLE, Int.reduceEq, reduceIte, true_and, Nat.zero_add, Nat.add_zero, Option.map_some, h1, h2', f3]
        refine ncall (request_c x1 hrn) ?_
        obtain ⟨xa, hxa⟩ : ∃ xa : OpC, xa = { x with a := { x.a with ses := 1 } } := ⟨_, rfl⟩
        obtain ⟨xb, hxb⟩ : ∃ xb : OpC, xb = { xa with a := { xa.a with req := c.req } } := ⟨_, rfl⟩
        have hs8 : storeAt K1 K.next 8 [.int .i64 1] = some (K1.set K.next (.row (opL xa vc va vr vw vv vk vp) 0 false)) := by
          rw [store_cell rfl rfl (Nat.le_of_ble_eq_true rfl) rfl o1.row, hxa]
          rfl
        obtain ⟨K2, hK2⟩ : ∃ K2, K2 = K1.set K.next (.row (opL xb vc va vr vw vv vk vp) 0 false) := ⟨_, rfl⟩
        have hs9 : storeAt (K1.set K.next (.row (opL xa vc va vr vw vv vk vp) 0 false)) K.next 9 [.int .i64 c.req] = some K2 := by
          rw [store_cell rfl rfl (Nat.le_of_ble_eq_true rfl) rfl (get_set_same _ _), set_set, hK2, hxb]
          rfl
        have g2 : K2.get K.next = some (.row (opL xb vc va vr vw vv vk vp) 0 false) := by rw [hK2]; exact get_set_same _ _
        have o2 : OpAt K2 K.next xb vc va vr vw vv vk vp := ⟨g2, by rw [hK2]; exact o1.lt, hc, ha, hr, hw, hv, hp⟩
        have x2 : ClAt S K2 h.next c uc ua ur uw uv := by rw [hK2]; exact x1.setO (by omega) fun i hi => by have := (xK.inS i hi).1; omega
        have k12 : Arg fI64.rep K2 vv x.a.x.vs := k1.mono fun i hi => ⟨by rw [hK2]; exact Nat.lt_of_lt_of_le hi e1.next, by rw [hK2, get_set_other _ _ (by omega)]; exact e1.get i hi⟩
        have kK2 : Keep h.next G K2 := ⟨by rw [hK2]; exact kK1.next, by rw [hK2]; exact kK1.ng, fun i hi hb => by rw [hK2, get_set_other _ _ (by omega)]; exact kK1.get i hi hb⟩
        have hans : cellsAt K2 K.next 8 6 = some (.agg #[.int .i64 1, .int .i64 c.req, .int .i64 x.a.x.e, vv, .int .i64 x.a.x.s, .int .i64 x.a.x.p]) := by
          rw [o2.ans, hxb, hxa]
        simp -implicitDefEqProofs (disch := first | omega | (simp -implicitDefEqProofs only [go_sem, List.size_toArray, List.length_cons, List.length_nil, Nat.reduceAdd]; done)) only [go_sem, Int.reduceLT, Int.reduceLE, Int.reduceEq, reduceIte, true_and, Nat.zero_add, Nat.add_zero, Option.map_some, XEnd, hs8, hs9, f3, hans]
        refine ncall_ct (answer_c (x := x.a.x) (a := 1) (b := c.req) x2 hrn ok.tok k12 hol.v) ?_
        rintro r M ⟨kM, rfl, vv', x3⟩
        have hcs : cellAt M K.next 12 = some (.int .i64 x.a.x.s) := by
          rw [cellAt_row ((kM.get _ o2.lt (by omega)).trans g2), hxb, hxa]
          rfl
        have hr3 : (ansC c 1 c.req x.a.x).reps ≠ 0 := by
          unfold ansC
          split <;> exact hrn
        have hs3 : (ansC c 1 c.req x.a.x).ses = 1 := by
          unfold ansC
          split <;> exact hs1
        simp -implicitDefEqProofs (disch := first | omega | (simp -implicitDefEqProofs only [go_sem, List.size_toArray, List.length_cons, List.length_nil, Nat.reduceAdd]; done)) only [go_sem, Int.reduceLT, Int.reduceLE, Int.reduceEq, reduceIte, true_and, Nat.zero_add, Nat.add_zero, Option.map_some, XEnd]
        refine dr_6_0 ?_
        have fin : ∀ fr1 : Fr, fr1 3 = some (.pointer (some ⟨h.next, 0, none⟩)) → fr1 7 = some (.int .i64 c.tok) → fr1 25 = some v → fr1 26 = some (.int .i64 (l.length : Nat)) → fr1 27 = some (.int .i64 (i : Nat)) → MM ⟨fr1, [], M, none⟩ := fun fr1 a b d e f => by
          rw [hMM]
          refine ⟨by trivial, by trivial, a, b, d, e, f, kK2.trans kM, _, ansC c 1 c.req x.a.x, _, _, _, _, _, x3, ok_ans ok, hs3, ?_⟩
          unfold ansC
          split
          · show c.tok ≤ max c.tok (x.a.x.s + 1); omega
          · exact Int.le_refl _
        cases hb : ansB c 1 c.req x.a.x.s with
        | false =>
          simp -implicitDefEqProofs (disch := first | omega | (simp -implicitDefEqProofs only [go_sem, List.size_toArray, List.length_cons, List.length_nil, Nat.reduceAdd]; done)) only [go_sem, Int.reduceLT, Int.reduceLE, Int.reduceEq, reduceIte, true_and, Nat.zero_add, Nat.add_zero, Option.map_some, l6_0, dPick_t, dPick_f]
          refine ⟨⟨XSt1_at (i := 7) (j := 3) rfl rfl rfl (Ld_offL (by simp -implicitDefEqProofs (disch := first | omega | (simp -implicitDefEqProofs only [go_sem, List.size_toArray, List.length_cons, List.length_nil, Nat.reduceAdd]; done)) only [go_sem, Int.reduceLT, Int.reduceLE, Int.reduceEq, reduceIte, true_and, Nat.zero_add, Nat.add_zero, Option.map_some])), trivial⟩, ?_⟩
          exact fin _ (by simp -implicitDefEqProofs (disch := first | omega | (simp -implicitDefEqProofs only [go_sem, List.size_toArray, List.length_cons, List.length_nil, Nat.reduceAdd]; done)) only [go_sem, Int.reduceLT, Int.reduceLE, Int.reduceEq, reduceIte, true_and, Nat.zero_add, Nat.add_zero, Option.map_some, f3]) (by simp -implicitDefEqProofs (disch := first | omega | (simp -implicitDefEqProofs only [go_sem, List.size_toArray, List.length_cons, List.length_nil, Nat.reduceAdd]; done)) only [go_sem, Int.reduceLT, Int.reduceLE, Int.reduceEq, reduceIte, true_and, Nat.zero_add, Nat.add_zero, Option.map_some]) (by simp -implicitDefEqProofs (disch := first | omega | (simp -implicitDefEqProofs only [go_sem, List.size_toArray, List.length_cons, List.length_nil, Nat.reduceAdd]; done)) only [go_sem, Int.reduceLT, Int.reduceLE, Int.reduceEq, reduceIte, true_and, Nat.zero_add, Nat.add_zero, Option.map_some, f25]) (by simp -implicitDefEqProofs (disch := first | omega | (simp -implicitDefEqProofs only [go_sem, List.size_toArray, List.length_cons, List.length_nil, Nat.reduceAdd]; done)) only [go_sem, Int.reduceLT, Int.reduceLE, Int.reduceEq, reduceIte, true_and, Nat.zero_add, Nat.add_zero, Option.map_some, f26]) (by simp -implicitDefEqProofs (disch := first | omega | (simp -implicitDefEqProofs only [go_sem, List.size_toArray, List.length_cons, List.length_nil, Nat.reduceAdd]; done)) only [go_sem, Int.reduceLT, Int.reduceLE, Int.reduceEq, reduceIte, true_and, Nat.zero_add, Nat.add_zero, Option.map_some, f27])
        | true =>
          have hnle : ¬ (ansC c 1 c.req x.a.x).tok ≤ x.a.x.s := by
            rw [ansC, if_pos hb]
            show ¬ max c.tok (x.a.x.s + 1) ≤ x.a.x.s
            omega
          simp -implicitDefEqProofs (disch := first | omega | (simp -implicitDefEqProofs only [go_sem, List.size_toArray, List.length_cons, List.length_nil, Nat.reduceAdd]; done)) only [go_sem, Int.reduceLT, Int.reduceLE, Int.reduceEq, reduceIte, true_and, Nat.zero_add, Nat.add_zero, Option.map_some, l6_0, f3, dPick_t, dPick_f]
          refine dcall (token_c x3 hr3) ?_
          simp -implicitDefEqProofs (disch := first | omega | (simp -implicitDefEqProofs only [go_sem, List.size_toArray, List.length_cons, List.length_nil, Nat.reduceAdd]; done)) only [go_sem, Int.reduceLT, Int.reduceLE, Int.reduceEq, reduceIte, true_and, Nat.zero_add, Nat.add_zero, Option.map_some, hcs, hnle, dPick_t, dPick_f]
          refine ⟨⟨XSt1_at (i := 7) (j := 3) rfl rfl rfl ?_, trivial⟩, ?_⟩
          · rw [if_pos (by decide)]
            exact Ld_on (p := .pointer (some ⟨K.next, 12, none⟩)) (by simp -implicitDefEqProofs (disch := first | omega | (simp -implicitDefEqProofs only [go_sem, List.size_toArray, List.length_cons, List.length_nil, Nat.reduceAdd]; done)) only [go_sem, Int.reduceLT, Int.reduceLE, Int.reduceEq, reduceIte, true_and, Nat.zero_add, Nat.add_zero, Option.map_some]) (by simp -implicitDefEqProofs (disch := first | omega | (simp -implicitDefEqProofs only [go_sem, List.size_toArray, List.length_cons, List.length_nil, Nat.reduceAdd]; done)) only [go_sem, Int.reduceLT, Int.reduceLE, Int.reduceEq, reduceIte, true_and, Nat.zero_add, Nat.add_zero, Option.map_some]) (ld_2.trans hcs)
          exact fin _ (by simp -implicitDefEqProofs (disch := first | omega | (simp -implicitDefEqProofs only [go_sem, List.size_toArray, List.length_cons, List.length_nil, Nat.reduceAdd]; done)) only [go_sem, Int.reduceLT, Int.reduceLE, Int.reduceEq, reduceIte, true_and, Nat.zero_add, Nat.add_zero, Option.map_some, f3]) (by simp -implicitDefEqProofs (disch := first | omega | (simp -implicitDefEqProofs only [go_sem, List.size_toArray, List.length_cons, List.length_nil, Nat.reduceAdd]; done)) only [go_sem, Int.reduceLT, Int.reduceLE, Int.reduceEq, reduceIte, true_and, Nat.zero_add, Nat.add_zero, Option.map_some]) (by simp -implicitDefEqProofs (disch := first | omega | (simp -implicitDefEqProofs only [go_sem, List.size_toArray, List.length_cons, List.length_nil, Nat.reduceAdd]; done)) only [go_sem, Int.reduceLT, Int.reduceLE, Int.reduceEq, reduceIte, true_and, Nat.zero_add, Nat.add_zero, Option.map_some, f25]) (by simp -implicitDefEqProofs (disch := first | omega | (simp -implicitDefEqProofs only [go_sem, List.size_toArray, List.length_cons, List.length_nil, Nat.reduceAdd]; done)) only [go_sem, Int.reduceLT, Int.reduceLE, Int.reduceEq, reduceIte, true_and, Nat.zero_add, Nat.add_zero, Option.map_some, f26]) (by simp -implicitDefEqProofs (disch := first | omega | (simp -implicitDefEqProofs only [go_sem, List.size_toArray, List.length_cons, List.length_nil, Nat.reduceAdd]; done)) only [go_sem, Int.reduceLT, Int.reduceLE, Int.reduceEq, reduceIte, true_and, Nat.zero_add, Nat.add_zero, Option.map_some, f27])
      by_cases h4 : x.kind = 4
      · have h4' := eq_true h4
        simp -implicitDefEqProofs (disch := first | omega | (simp -implicitDefEqProofs only [go_sem, List.size_toArray, List.length_cons, List.length_nil, Nat.reduceAdd]; done)) only [go_sem, Int.reduceLT, Int.reduceLE, Int.reduceEq, reduceIte, true_and, Nat.zero_add, Nat.add_zero, Option.map_some, h1, h2, h4', f3, o1.fnd]
        refine ncall_ct (found_c x1 hrn hp) ?_
        rintro r M ⟨kM, rfl, x2⟩
        have hci : cellAt M K.next 17 = some (.int .i64 x.f.index) := by
          rw [cellAt_row ((kM.get _ o1.lt (by omega)).trans o1.row)]
          rfl
        have hr3 : (foundC c x.f.err x.f.index).reps ≠ 0 := by
          unfold foundC
          split <;> exact hrn
        have hs3 : (foundC c x.f.err x.f.index).ses = 1 := by
          unfold foundC
          split <;> exact hs1
        have fin : ∀ fr1 : Fr, c.tok ≤ (foundC c x.f.err x.f.index).tok → fr1 3 = some (.pointer (some ⟨h.next, 0, none⟩)) → fr1 7 = some (.int .i64 c.tok) → fr1 25 = some v → fr1 26 = some (.int .i64 (l.length : Nat)) → fr1 27 = some (.int .i64 (i : Nat)) → MM ⟨fr1, [], M, none⟩ := fun fr1 hle a b d e f => by
          rw [hMM]
          exact ⟨by trivial, by trivial, a, b, d, e, f, kK1.trans kM, _, foundC c x.f.err x.f.index, _, _, _, _, _, x2, ok_found ok, hs3, hle⟩
        simp -implicitDefEqProofs (disch := first | omega | (simp -implicitDefEqProofs only [go_sem, List.size_toArray, List.length_cons, List.length_nil, Nat.reduceAdd]; done)) only [go_sem, Int.reduceLT, Int.reduceLE, Int.reduceEq, reduceIte, true_and, Nat.zero_add, Nat.add_zero, Option.map_some, XEnd]
        refine dr_6_1 ?_
        by_cases he : foundE c x.f.err x.f.index = 0
        · have he' := eq_true he
          have hC : foundC c x.f.err x.f.index = { c with tok := x.f.index } := by rw [foundC, if_pos he]
          have hle : ¬ x.f.index < c.tok := by
            unfold foundE at he
            split at he
            · exact absurd he (by assumption)
            · split at he
              · cases he
              · split at he
                · cases he
                · assumption
          have htk : (foundC c x.f.err x.f.index).tok = x.f.index := by rw [hC]
          simp -implicitDefEqProofs (disch := first | omega | (simp -implicitDefEqProofs only [go_sem, List.size_toArray, List.length_cons, List.length_nil, Nat.reduceAdd]; done)) only [go_sem, Int.reduceLT, Int.reduceLE, Int.reduceEq, reduceIte, true_and, Nat.zero_add, Nat.add_zero, Option.map_some, l6_1, f3, he', hci, hle, dPick_t, dPick_f]
          refine dcall (token_c x2 hr3) ?_
          rw [htk]
          simp -implicitDefEqProofs (disch := first | omega | (simp -implicitDefEqProofs only [go_sem, List.size_toArray, List.length_cons, List.length_nil, Nat.reduceAdd]; done)) only [go_sem, Int.reduceLT, Int.reduceLE, Int.reduceEq, reduceIte, true_and, Nat.zero_add, Nat.add_zero, Option.map_some, he', hci, hle, eq_self, decide_true, Bool.not_true, dPick_t, dPick_f]
          refine ⟨⟨XSt1_at (i := 13) (j := 10) rfl rfl rfl ?_, trivial⟩, ?_⟩
          · rw [if_pos (by decide)]
            exact Ld_on (p := .pointer (some ⟨K.next, 17, none⟩)) (by simp -implicitDefEqProofs (disch := first | omega | (simp -implicitDefEqProofs only [go_sem, List.size_toArray, List.length_cons, List.length_nil, Nat.reduceAdd]; done)) only [go_sem, Int.reduceLT, Int.reduceLE, Int.reduceEq, reduceIte, true_and, Nat.zero_add, Nat.add_zero, Option.map_some]) (by simp -implicitDefEqProofs (disch := first | omega | (simp -implicitDefEqProofs only [go_sem, List.size_toArray, List.length_cons, List.length_nil, Nat.reduceAdd]; done)) only [go_sem, Int.reduceLT, Int.reduceLE, Int.reduceEq, reduceIte, true_and, Nat.zero_add, Nat.add_zero, Option.map_some]) (ld_2.trans hci)
          exact fin _ (by rw [htk]; omega) (by simp -implicitDefEqProofs (disch := first | omega | (simp -implicitDefEqProofs only [go_sem, List.size_toArray, List.length_cons, List.length_nil, Nat.reduceAdd]; done)) only [go_sem, Int.reduceLT, Int.reduceLE, Int.reduceEq, reduceIte, true_and, Nat.zero_add, Nat.add_zero, Option.map_some, f3]) (by simp -implicitDefEqProofs (disch := first | omega | (simp -implicitDefEqProofs only [go_sem, List.size_toArray, List.length_cons, List.length_nil, Nat.reduceAdd]; done)) only [go_sem, Int.reduceLT, Int.reduceLE, Int.reduceEq, reduceIte, true_and, Nat.zero_add, Nat.add_zero, Option.map_some]) (by simp -implicitDefEqProofs (disch := first | omega | (simp -implicitDefEqProofs only [go_sem, List.size_toArray, List.length_cons, List.length_nil, Nat.reduceAdd]; done)) only [go_sem, Int.reduceLT, Int.reduceLE, Int.reduceEq, reduceIte, true_and, Nat.zero_add, Nat.add_zero, Option.map_some, f25]) (by simp -implicitDefEqProofs (disch := first | omega | (simp -implicitDefEqProofs only [go_sem, List.size_toArray, List.length_cons, List.length_nil, Nat.reduceAdd]; done)) only [go_sem, Int.reduceLT, Int.reduceLE, Int.reduceEq, reduceIte, true_and, Nat.zero_add, Nat.add_zero, Option.map_some, f26]) (by simp -implicitDefEqProofs (disch := first | omega | (simp -implicitDefEqProofs only [go_sem, List.size_toArray, List.length_cons, List.length_nil, Nat.reduceAdd]; done)) only [go_sem, Int.reduceLT, Int.reduceLE, Int.reduceEq, reduceIte, true_and, Nat.zero_add, Nat.add_zero, Option.map_some, f27])
        · have hC : foundC c x.f.err x.f.index = c := by rw [foundC, if_neg he]
          have htk : (foundC c x.f.err x.f.index).tok = c.tok := by rw [hC]
          simp -implicitDefEqProofs (disch := first | omega | (simp -implicitDefEqProofs only [go_sem, List.size_toArray, List.length_cons, List.length_nil, Nat.reduceAdd]; done)) only [go_sem, Int.reduceLT, Int.reduceLE, Int.reduceEq, reduceIte, true_and, Nat.zero_add, Nat.add_zero, Option.map_some, l6_1, f3, he, dPick_t, dPick_f, Bool.not_false]
          refine dcall (token_c x2 hr3) ?_
          rw [htk]
          simp -implicitDefEqProofs (disch := first | omega | (simp -implicitDefEqProofs only [go_sem, List.size_toArray, List.length_cons, List.length_nil, Nat.reduceAdd]; done)) only [go_sem, Int.reduceLT, Int.reduceLE, Int.reduceEq, reduceIte, true_and, Nat.zero_add, Nat.add_zero, Option.map_some, eq_self, decide_true, Bool.not_true, dPick_t, dPick_f]
          refine ⟨⟨XSt1_at (i := 13) (j := 10) rfl rfl rfl (Ld_offL (by simp -implicitDefEqProofs (disch := first | omega | (simp -implicitDefEqProofs only [go_sem, List.size_toArray, List.length_cons, List.length_nil, Nat.reduceAdd]; done)) only [go_sem, Int.reduceLT, Int.reduceLE, Int.reduceEq, reduceIte, true_and, Nat.zero_add, Nat.add_zero, Option.map_some])), trivial⟩, ?_⟩
          exact fin _ (by rw [htk]; exact Int.le_refl _) (by simp -implicitDefEqProofs (disch := first | omega | (simp -implicitDefEqProofs only [go_sem, List.size_toArray, List.length_cons, List.length_nil, Nat.reduceAdd]; done)) only [go_sem, Int.reduceLT, Int.reduceLE, Int.reduceEq, reduceIte, true_and, Nat.zero_add, Nat.add_zero, Option.map_some, f3]) (by simp -implicitDefEqProofs (disch := first | omega | (simp -implicitDefEqProofs only [go_sem, List.size_toArray, List.length_cons, List.length_nil, Nat.reduceAdd]; done)) only [go_sem, Int.reduceLT, Int.reduceLE, Int.reduceEq, reduceIte, true_and, Nat.zero_add, Nat.add_zero, Option.map_some]) (by simp -implicitDefEqProofs (disch := first | omega | (simp -implicitDefEqProofs only [go_sem, List.size_toArray, List.length_cons, List.length_nil, Nat.reduceAdd]; done)) only [go_sem, Int.reduceLT, Int.reduceLE, Int.reduceEq, reduceIte, true_and, Nat.zero_add, Nat.add_zero, Option.map_some, f25]) (by simp -implicitDefEqProofs (disch := first | omega | (simp -implicitDefEqProofs only [go_sem, List.size_toArray, List.length_cons, List.length_nil, Nat.reduceAdd]; done)) only [go_sem, Int.reduceLT, Int.reduceLE, Int.reduceEq, reduceIte, true_and, Nat.zero_add, Nat.add_zero, Option.map_some, f26]) (by simp -implicitDefEqProofs (disch := first | omega | (simp -implicitDefEqProofs only [go_sem, List.size_toArray, List.length_cons, List.length_nil, Nat.reduceAdd]; done)) only [go_sem, Int.reduceLT, Int.reduceLE, Int.reduceEq, reduceIte, true_and, Nat.zero_add, Nat.add_zero, Option.map_some, f27])
      simp -implicitDefEqProofs (disch := first | omega | (simp -implicitDefEqProofs only [go_sem, List.size_toArray, List.length_cons, List.length_nil, Nat.reduceAdd]; done)) only [go_sem, Int.reduceLT, Int.reduceLE, Int.reduceEq, reduceIte, true_and, Nat.zero_add, Nat.add_zero, Option.map_some, h1, h2, h4]
      rw [hMM]
      exact ⟨by trivial, by trivial, by simp -implicitDefEqProofs (disch := first | omega | (simp -implicitDefEqProofs only [go_sem, List.size_toArray, List.length_cons, List.length_nil, Nat.reduceAdd]; done)) only [go_sem, Int.reduceLT, Int.reduceLE, Int.reduceEq, reduceIte, true_and, Nat.zero_add, Nat.add_zero, Option.map_some, f3], by simp -implicitDefEqProofs (disch := first | omega | (simp -implicitDefEqProofs only [go_sem, List.size_toArray, List.length_cons, List.length_nil, Nat.reduceAdd]; done)) only [go_sem, Int.reduceLT, Int.reduceLE, Int.reduceEq, reduceIte, true_and, Nat.zero_add, Nat.add_zero, Option.map_some], by simp -implicitDefEqProofs (disch := first | omega | (simp -implicitDefEqProofs only [go_sem, List.size_toArray, List.length_cons, List.length_nil, Nat.reduceAdd]; done)) only [go_sem, Int.reduceLT, Int.reduceLE, Int.reduceEq, reduceIte, true_and, Nat.zero_add, Nat.add_zero, Option.map_some, f25], by simp -implicitDefEqProofs (disch := first | omega | (simp -implicitDefEqProofs only [go_sem, List.size_toArray, List.length_cons, List.length_nil, Nat.reduceAdd]; done)) only [go_sem, Int.reduceLT, Int.reduceLE, Int.reduceEq, reduceIte, true_and, Nat.zero_add, Nat.add_zero, Option.map_some, f26], by simp -implicitDefEqProofs (disch := first | omega | (simp -implicitDefEqProofs only [go_sem, List.size_toArray, List.length_cons, List.length_nil, Nat.reduceAdd]; done)) only [go_sem, Int.reduceLT, Int.reduceLE, Int.reduceEq, reduceIte, true_and, Nat.zero_add, Nat.add_zero, Option.map_some, f27], kK1, S, c, _, _, _, _, _, x1, ok, hs1, Int.le_refl _⟩
    · rintro ⟨fr1, df1, M, rd1⟩ hM
      rw [hMM] at hM
      obtain ⟨hdf, hrd, f3, f7, f25, f26, f27, kM, S', c', vc', va', vr', vw', vv', xM, ok', hs', htk⟩ := hM
      simp only at hdf hrd f3 f7 f25 f26 f27 kM xM
      subst hdf hrd
      simp -implicitDefEqProofs (disch := first | omega | (simp -implicitDefEqProofs only [go_sem, List.size_toArray, List.length_cons, List.length_nil, Nat.reduceAdd]; done)) only [go_sem, Int.reduceLT, Int.reduceLE, Int.reduceEq, reduceIte, true_and, Nat.zero_add, Nat.add_zero, Option.map_some, f3]
      refine ncall (token_c xM (by have := ok'.reps; omega)) ?_
      have hlt : ¬ c'.tok < c.tok := by omega
      simp -implicitDefEqProofs (disch := first | omega | (simp -implicitDefEqProofs only [go_sem, List.size_toArray, List.length_cons, List.length_nil, Nat.reduceAdd]; done)) only [go_sem, Int.reduceLT, Int.reduceLE, Int.reduceEq, reduceIte, true_and, Nat.zero_add, Nat.add_zero, Option.map_some, f7, hlt, f27, hw1]
      refine hK' (i + 1) _ ?_ (by omega)
      exact ⟨by trivial, by trivial, by simp -implicitDefEqProofs (disch := first | omega | (simp -implicitDefEqProofs only [go_sem, List.size_toArray, List.length_cons, List.length_nil, Nat.reduceAdd]; done)) only [go_sem, Int.reduceLT, Int.reduceLE, Int.reduceEq, reduceIte, true_and, Nat.zero_add, Nat.add_zero, Option.map_some, f3], by simp -implicitDefEqProofs (disch := first | omega | (simp -implicitDefEqProofs only [go_sem, List.size_toArray, List.length_cons, List.length_nil, Nat.reduceAdd]; done)) only [go_sem, Int.reduceLT, Int.reduceLE, Int.reduceEq, reduceIte, true_and, Nat.zero_add, Nat.add_zero, Option.map_some, f25], by simp -implicitDefEqProofs (disch := first | omega | (simp -implicitDefEqProofs only [go_sem, List.size_toArray, List.length_cons, List.length_nil, Nat.reduceAdd]; done)) only [go_sem, Int.reduceLT, Int.reduceLE, Int.reduceEq, reduceIte, true_and, Nat.zero_add, Nat.add_zero, Option.map_some, f26], by simp -implicitDefEqProofs (disch := first | omega | (simp -implicitDefEqProofs only [go_sem, List.size_toArray, List.length_cons, List.length_nil, Nat.reduceAdd]; done)) only [go_sem, Int.reduceLT, Int.reduceLE, Int.reduceEq, reduceIte, true_and, Nat.zero_add, Nat.add_zero, Option.map_some], by omega, kM, S', c', _, _, _, _, _, xM, ok', hs'⟩
  · refine hX _ _ (by simp) ?_
    simp -implicitDefEqProofs (disch := first | omega | (simp -implicitDefEqProofs only [go_sem, List.size_toArray, List.length_cons, List.length_nil, Nat.reduceAdd]; done)) only [go_sem, Int.reduceLT, Int.reduceLE, Int.reduceEq, reduceIte, true_and, Nat.zero_add, Nat.add_zero, Option.map_some]
    exact ⟨_, rfl, rfl, ((Keep.ofExt eG).trans kK).toExt (.refl _) (Nat.le_refl _)⟩
end Go.Proofs.Ytbdljpndncohaaa

namespace Go.Proofs.Ytbdljpndncohaaa
open Go.D
set_option maxRecDepth 100000
theorem lay_ops : Lays Try.prog 62 (rSl rOpC) (sumB bulkOp) := .slice (e := 67) (by kernel_rfl) (by kernel_rfl) (by decide) lay_op
theorem par_ops : Par Try.prog 62 false := ⟨_, Try.underlying62, rfl⟩
theorem bulk_op {x : OpC} (h : bulkOp x ≤ 1048576) : OpLen x := by
  have h1 := bulk_txn x.t
  have h2 := sumB_len (fun _ => 1) x.a.x.vs
  have h3 := sumB_len (fun _ => 2) x.keys
  have e1 : bulkOp x = 3 + (bulkTxn x.t + (bulkAns x.a + (sumB (fun _ => 2) x.keys + bulkFnd x.f))) := rfl
  have e2 : bulkAns x.a = 2 + (3 + sumB (fun _ => 1) x.a.x.vs) := rfl
  exact ⟨txn_len (by omega), by omega, by omega⟩
theorem bulk_ops : ∀ {l : List OpC}, sumB bulkOp l ≤ 1048576 → ∀ x ∈ l, OpLen x
  | [], _, x, hx => by simp at hx
  | y :: l, h, x, hx => by
    have e : sumB bulkOp (y :: l) = max 1 (bulkOp y) + sumB bulkOp l := rfl
    rcases List.mem_cons.1 hx with rfl | hx
    · exact bulk_op (by omega)
    · exact bulk_ops (by omega) x hx
end Go.Proofs.Ytbdljpndncohaaa

namespace Go.Proofs.Ytbdljpndncohaaa.lawTokens
open Go.D
open Go.ChangeShapes Go.WideShapes Go.ChangeAt Go.RowKit
theorem own : ownKnob Try.prog.godebug = none := by kernel_rfl
set_option maxRecDepth 100000 in
theorem lifted (os : Os) (started : os.Started) (H : Type) (enc : TypeId × Value → H) (F : Stop.Interp) :
    ReturnsInHanded {} Try.checked os 6 .any ((Rows.OpenSpec.upto Rows.clientTokensSpec).pre6 enc Try.prog Try.f6 Rows.clientTokensUptoRow.domain false) (((Rows.OpenSpec.upto Rows.clientTokensSpec).at F).post enc Try.prog Try.f6 false true false false) := by
  refine returnsInHanded_of_cond (C := Try.checked) (s := Rows.OpenSpec.upto Rows.clientTokensSpec) (k := Rows.uptoSmall) rfl own started (by kernel_rfl) Try.func6
    (OpenSpec.witness (enc := enc) (C := Try.checked) (s := Rows.OpenSpec.upto Rows.clientTokensSpec) (k := Rows.uptoSmall) rfl false ⟨#[], #[.slice none 0 0], []⟩ 8 (by kernel_rfl) (by kernel_rfl) (by kernel_rfl)
      (x := ([.nil], [], [])) (by kernel_rfl) rfl (by kernel_rfl)) ?_
  intro W base args ds gs before hval hW _ hk _
  refine law_kept (by kernel_rfl)
    (.cons (agg := false) par_ops lay_ops .nil) (tb := 4) (by kernel_rfl) (by kernel_rfl) rfl (fun ds hl => ?_) (fun h vs x hng hq hB => ?_) W base args ds gs before hval hW hk
  · match ds, hl with
    | [d0], _ => rfl
  · obtain ⟨cs, vs1, rfl, ⟨v, rfl, hv⟩, rfl⟩ := hq
    have := sumB_len bulkOp x.1
    exact (tokens_c hv (bulk_ops (by omega)) (by omega)).ct rfl
theorem p1 : Try.pinned.checked.prog.funcNamed Rows.clientTokensUptoRow.func = some 6 := by kernel_rfl
theorem p2 : joinedFacts Try.pinned.checked.prog 6 Try.f6 (Rows.OpenSpec.upto Rows.clientTokensSpec).bare Rows.clientTokensUptoRow = true := by kernel_rfl
theorem p3 : Try.f6.isInstance Try.pinned.checked.prog Rows.clientTokensUptoRow.origin Rows.clientTokensUptoRow.targs := of_decide_eq_true (by kernel_rfl)
theorem p4 : Try.f6.isWrapper Try.pinned.checked.prog Rows.clientTokensUptoRow.wrapper Rows.clientTokensUptoRow.mainSum := by unfold Func.isWrapper; first | (rw [if_pos (by decide +kernel)]; kernel_rfl) | (rw [if_neg (by decide +kernel)]; exact ⟨rfl, rfl⟩)
theorem proved : Rows.ClientTokensUptoSaid :=
  OpenClaim.holds_of_cond 6 Try.f6 rfl rfl rfl rfl rfl rfl rfl ⟨rfl, rfl, rfl, rfl, rfl⟩ rfl rfl rfl rfl rfl p1 Try.func6 p2 p3 p4
    (fun os started H enc _ F => lifted os started H enc F)
end Go.Proofs.Ytbdljpndncohaaa.lawTokens
