/-
EvalBinary: what each instruction makes of any two numbers, and any number cut to fewer bits, is what the reference says, for every input of bulk at most 1048576. Conditions: none.
-/
import Derived.Test.YthjmkmoiopmfcaaChecked
import Derived.KernelRfl
import Derived.Shelf.SlSortCmp.WholeK
import Derived.Test.YthjmkmoiopmfcaaProg
import Derived.Test.YthjmkmoiopmfcaaRows
import Derived.ChangeArms
import Derived.ChangeOld
import Derived.ChangeReads
import Derived.ChangeSame
import Derived.WalkKit
import Derived.ProofKit
import Derived.OpenShut
import Derived.JoinedCond
import Derived.Sort.Statements
import Derived.Test.YthjmkmoiopmfcaaBase1
import Derived.Test.YthjmkmoiopmfcaaBase2
set_option linter.unusedSimpArgs false
set_option linter.unusedVariables false
namespace Go.Proofs.Ythjmkmoiopmfcaa
open Go.D
end Go.Proofs.Ythjmkmoiopmfcaa

namespace Go.Proofs.Ythjmkmoiopmfcaa
open Go.D

end Go.Proofs.Ythjmkmoiopmfcaa

namespace Go.D
attribute [go_sem] List.size_toArray List.length_cons List.length_nil Nat.zero_add Nat.add_zero Option.map_some
/-- what the walk's simp shows -/
theorem vz {p : Prop} (h : p := by
  simp -implicitDefEqProofs (disch:=first|omega|simp only [go_sem,Nat.reduceAdd]) only [go_sem,Int.reduceLT,Int.reduceLE,Int.reduceEq,reduceIte,true_and]) : p := h
theorem vy {p a : Prop} (x : a) (h : a → p := by
  intro x
  simp -implicitDefEqProofs (disch:=first|omega|simp only [go_sem,Nat.reduceAdd]) only [go_sem,Int.reduceLT,Int.reduceLE,Int.reduceEq,reduceIte,true_and, x]) : p := h x
structure Key where
  t : Int
  r : Int
  deriving DecidableEq
structure Cell where
  k : Key
  v : Int
  s : Int
  deriving DecidableEq
structure Pair where
  k : Key
  v : Int
  deriving DecidableEq
structure Change where
  k : Key
  v : Int
  e : Bool
  deriving DecidableEq

abbrev fI64 := fI .i64
abbrev fU8 := fI .u8
def fKey : FRep Key := fM (fP (fI .i32) (fI .i64)) (fun k => (k.t, k.r)) fun x y h => by
  cases x; cases y; simp at h; simp [h]
def fPair : FRep Pair := fM (fP fKey (fI .i64)) (fun c => (c.k, c.v)) fun x y h => by
  cases x; cases y; simp at h; simp [h]
def fChange : FRep Change := fM (fP fKey (fP (fI .i64) fB)) (fun c => (c.k, c.v, c.e)) fun x y h => by
  cases x; cases y; simp at h; simp [h]
/-- a result: how it ended, what it answered, at which place -/
structure Res where
  e : Int
  vs : List Int
  s : Int
  p : Int
structure Row where
  ses : Int
  req : Int
  x : Res
/-! ### Numbers -/
end Go.D

namespace Go.Proofs.Ythjmkmoiopmfcaa
open Go.D
set_option maxRecDepth 100000

end Go.Proofs.Ythjmkmoiopmfcaa

namespace Go.Proofs.Ythjmkmoiopmfcaa
open Go.D
set_option maxRecDepth 100000

end Go.Proofs.Ythjmkmoiopmfcaa

namespace Go.Proofs.Ythjmkmoiopmfcaa
open Go.D
set_option maxRecDepth 100000

end Go.Proofs.Ythjmkmoiopmfcaa

namespace Go.Proofs.Ythjmkmoiopmfcaa
open Go.Proofs
end Go.Proofs.Ythjmkmoiopmfcaa

namespace Go.D
open Go.Proofs.Ythjmkmoiopmfcaa (Rows.uptoBulk Rows.uptoBulkAll)
variable {P : Program}

/-- a picture of which nothing may be written -/
structure Rds (ι : Inj) (h : DHeap) (W : World) : Prop where
  sim : Sim ι h W
  ro : ∀ id e, ι id = some e → e.ro = true
/-- there are cells -/
def Blk (W : World) : Prop := ∃ (b : Nat) (c : Array Value) (t : TypeId) (fz : Nat × Nat), W.heap[b]? = some (Obj.cells c t fz)
/-- there are, if a slice names some -/
def BlkOf (W : World) (cs : List Value) : Prop := ∀ a len cap, Value.slice (some a) len cap ∈ cs → Blk W
theorem BlkOf.of {W : World} (b : Blk W) (cs : List Value) : BlkOf W cs := fun _ _ _ _ => b
theorem BlkOf.sub {W : World} {cs ds : List Value} (b : BlkOf W cs) (h : ∀ v ∈ ds, v ∈ cs) : BlkOf W ds := fun a l c hm => b a l c (h _ hm)
theorem Rds.none (W : World) : Rds (fun _ => none) ⟨fun _ => none, 0, 0⟩ W :=
  ⟨⟨fun _ _ h => (by cases h), fun _ _ h => (by cases h), fun _ _ h => (by cases h), fun _ _ _ _ h => (by cases h), fun g hg => absurd hg (Nat.not_lt_zero _)⟩, fun _ _ h => by cases h⟩
theorem Rds.push {ι : Inj} {h : DHeap} {W : World} (s : Rds ι h W) {b : Nat} {cur : Array Value} {ty : TypeId} {fz : Nat × Nat} (hb : W.heap[b]? = some (.cells cur ty fz)) (shift z : Nat) {cells : List Value}
    (hc : ∀ (i : Nat) v, cells[i]? = some v → ∃ v', cur[shift + i]? = some v' ∧ VRel ι v v') :
    Rds (ι.upd h.next ⟨b, shift, z, 0, true⟩) (h.push (.row cells z true)) W ∧ ι.le (ι.upd h.next ⟨b, shift, z, 0, true⟩) ∧ Ext h (h.push (.row cells z true)) := by
  have hle : ι.le (ι.upd h.next ⟨b, shift, z, 0, true⟩) := Inj.upd_le s.sim.fresh
  have hbl : b < W.heap.size := by
    cases hx : W.heap[b]? with
    | none => rw [hx] at hb; cases hb
    | some _ => exact (Array.getElem?_eq_some_iff.1 hx).1
  have hcase : ∀ id e, (ι.upd h.next ⟨b, shift, z, 0, true⟩) id = some e → (id = h.next ∧ e = ⟨b, shift, z, 0, true⟩) ∨ (id ≠ h.next ∧ ι id = some e) := by
    intro id e he
    unfold Inj.upd at he
    split at he
    · cases he; exact .inl ⟨‹_›, rfl⟩
    · exact .inr ⟨‹_›, he⟩
  have hro : ∀ id e, (ι.upd h.next ⟨b, shift, z, 0, true⟩) id = some e → e.ro = true := by
    intro id e he
    rcases hcase id e he with ⟨_, rfl⟩ | ⟨_, he⟩
    · rfl
    · exact s.ro id e he
  refine ⟨⟨⟨?_, ?_, ?_, ?_, ?_⟩, hro⟩, hle, Ext.push1 _ _⟩
  · intro id e he
    rcases hcase id e he with ⟨rfl, _⟩ | ⟨_, he⟩
    · exact Nat.lt_succ_self _
    · exact Nat.lt_succ_of_lt (s.sim.lt id e he)
  · intro id e he
    rcases hcase id e he with ⟨_, rfl⟩ | ⟨_, he⟩
    · exact hbl
    · exact s.sim.blk id e he
  · intro id e he
    rcases hcase id e he with ⟨rfl, rfl⟩ | ⟨_, he⟩
    · refine ⟨_, get_push_same _ _, rfl, rfl, cur, ty, fz, hb, fun i v hv => ?_, fun hh => by cases hh⟩
      obtain ⟨v', a, r⟩ := hc i v hv
      exact ⟨v', a, r.mono hle⟩
    · obtain ⟨o, a, r⟩ := s.sim.obj id e he
      exact ⟨o, (get_push_other _ _ (s.sim.lt id e he)).trans a, r.mono hle rfl⟩
  · intro id id' e e' he he' _ _
    exact .inr (.inr ⟨hro _ _ he, hro _ _ he'⟩)
  · intro g hg
    obtain ⟨e, a, r⟩ := s.sim.glob g hg
    exact ⟨e, hle _ _ a, r⟩

/-- the cells of a type's data lie as 'R' reads them; the bulk of what is read is at most that of the datum; and they stay as they are read -/
structure Lays {α : Type} (P : Program) (t : TypeId) (R : Rep α) (B : α → Nat) : Prop where
  size : P.cellsOf t = R.z
  lay : ∀ {H : Type} (enc : TypeId × Value → H) (W : World) (n : Nat) (cs : List Value) (x : DataW H × List MemPlace), DataW.trod enc P W 0 (fun _ => true) true n t cs = some x → BlkOf W cs → ∀ (ι : Inj) (h : DHeap), Rds ι h W →
    ∃ ι' h' cs0 y, Rds ι' h' W ∧ ι.le ι' ∧ Ext h h' ∧ LRel ι' cs0 cs ∧ R.rd (fun i => i < h'.next) h' cs0 y ∧ B y ≤ Rows.uptoBulk x.1
  stay : ∀ {H : Type} (enc : TypeId × Value → H) (W W' : World) (n : Nat) (cs : List Value) (x : DataW H × List MemPlace) (sp : Nat → Bool), DataW.trod enc P W 0 (fun _ => true) true n t cs = some x → (∀ p ∈ x.2, W.sameAt W' p) → (∀ p ∈ x.2, sp p.block = true) →
    DataW.trod enc P W' 0 sp true n t cs = some x

theorem Rows.one_le {H : Type} (d : DataW H) : 1 ≤ Rows.uptoBulk d := by
  cases d with
  | lit l => cases l <;> simp [Rows.uptoBulk]
  | nil => simp [Rows.uptoBulk]
  | ptr d => simp [Rows.uptoBulk]
  | slice elems spare => simp [Rows.uptoBulk]
  | agg parts => simp [Rows.uptoBulk]
  | iface t d => simp [Rows.uptoBulk]
  | map entries => simp [Rows.uptoBulk]
  | held h => simp [Rows.uptoBulk]
theorem wf_in {k : IntKind} {n : Int} (h : (Lit.int k n).wf = true) : inK k n := by
  simpa [Lit.wf, inK] using h
theorem trod_pos {H : Type} {enc : TypeId × Value → H} {W : World} {base : Nat} {sp : Nat → Bool} {hd : Bool} {n : Nat} {t : TypeId} {cs : List Value} {x : DataW H × List MemPlace} (h : DataW.trod enc P W base sp hd n t cs = some x) : ∃ m, n = m + 1 := by
  cases n with
  | zero => simp [DataW.trod] at h
  | succ m => exact ⟨m, rfl⟩
theorem Lays.int {t : TypeId} {k : IntKind} (hu : P.underlying t = some (.int k)) (hz : P.cellsOf t = 1) : Lays P t (fI k).rep (fun _ => 1) where
  size := hz
  lay enc W n cs x h _ ι hh s := by
    obtain ⟨m, rfl, rfl, hw⟩ := DataW.trod_int hu h
    exact ⟨ι, hh, [.int k m], m, s, Inj.le_refl _, .refl _, (LRel.nil ι).cons (.int _ _), ⟨rfl, wf_in hw⟩, Rows.one_le _⟩
  stay enc W W' n cs x sp h _ _ := by
    obtain ⟨m, rfl⟩ := trod_pos h
    obtain ⟨i, rfl, rfl, hw⟩ := DataW.trod_int hu h
    simp only [DataW.trod, hu]
    rw [if_pos (by simpa using hw)]
theorem Lays.bool {t : TypeId} (hu : P.underlying t = some .bool) (hz : P.cellsOf t = 1) : Lays P t fB.rep (fun _ => 1) where
  size := hz
  lay enc W n cs x h _ ι hh s := by
    obtain ⟨m, rfl, rfl⟩ := DataW.trod_bool hu h
    exact ⟨ι, hh, [.bool m], m, s, Inj.le_refl _, .refl _, (LRel.nil ι).cons (.bool _), ⟨rfl, trivial⟩, Rows.one_le _⟩
  stay enc W W' n cs x sp h _ _ := by
    obtain ⟨m, rfl⟩ := trod_pos h
    obtain ⟨i, rfl, rfl⟩ := DataW.trod_bool hu h
    simp only [DataW.trod, hu]
/-- read in another way -/
theorem Lays.conv {α β : Type} {t : TypeId} {R : Rep α} {B : α → Nat} {Q : Rep β} {C : β → Nat} (a : Lays P t R B) (hz : R.z = Q.z) (f : α → β) (hf : ∀ S h cs x, R.rd S h cs x → Q.rd S h cs (f x)) (hC : ∀ x, C (f x) ≤ B x) : Lays P t Q C where
  size := a.size.trans hz
  lay enc W n cs x h b ι hh s := by
    obtain ⟨ι', h', cs0, y, g1, g2, g3, g4, g5, g6⟩ := a.lay enc W n cs x h b ι hh s
    exact ⟨ι', h', cs0, f y, g1, g2, g3, g4, hf _ _ _ _ g5, Nat.le_trans (hC y) g6⟩
  stay := a.stay

/-! ### Structs -/
/-- fields that lie one behind the other -/
inductive Flds (P : Program) : {α : Type} → Nat → List Field → Rep α → (α → Nat) → Prop
  | one {α : Type} {off : Nat} {f : Field} {R : Rep α} {B : α → Nat} (ho : f.offset = off) (hl : Lays P f.type R B) : Flds P off [f] R B
  | cons {α β : Type} {off : Nat} {f : Field} {fs : List Field} {R : Rep α} {B : α → Nat} {Q : Rep β} {C : β → Nat} (ho : f.offset = off) (hl : Lays P f.type R B) (hr : Flds P (off + R.z) fs Q C) : Flds P off (f :: fs) (rP R Q) (fun x => B x.1 + C x.2)
theorem rd_ext {α : Type} (R : Rep α) {h h' : DHeap} {cs : List Value} {x : α} (a : R.rd (fun i => i < h.next) h cs x) (e : Ext h h') : R.rd (fun i => i < h'.next) h' cs x := R.mono a fun i hi => ⟨Nat.lt_of_lt_of_le hi e.next, e.get i hi⟩
theorem Flds.lay {α : Type} {off : Nat} {fs : List Field} {R : Rep α} {B : α → Nat} (a : Flds P off fs R B) : ∀ {H : Type} (enc : TypeId × Value → H) (W : World) (n : Nat) (cs : List Value) (xs : List (DataW H × List MemPlace)), xs.length = fs.length →
    (∀ (i : Nat) (f : Field), fs[i]? = some f → DataW.trod enc P W 0 (fun _ => true) true n f.type ((cs.drop f.offset).take (P.cellsOf f.type)) = xs[i]?) → BlkOf W cs → ∀ (ι : Inj) (h : DHeap), Rds ι h W →
    ∃ ι' h' cs0 y, Rds ι' h' W ∧ ι.le ι' ∧ Ext h h' ∧ LRel ι' cs0 ((cs.drop off).take R.z) ∧ R.rd (fun i => i < h'.next) h' cs0 y ∧ B y ≤ Rows.uptoBulkAll (xs.map (·.1)) := by
  induction a with
  | @one α off f R B ho hl =>
    intro H enc W n cs xs hlen hx b ι h s
    match xs, hlen with
    | [x], _ =>
      have := hx 0 f rfl
      obtain ⟨ι', h', cs0, y, g1, g2, g3, g4, g5, g6⟩ := hl.lay enc W n _ x this (b.sub fun v hv => List.mem_of_mem_drop (List.mem_of_mem_take hv)) ι h s
      rw [hl.size, ho] at g4
      exact ⟨ι', h', cs0, y, g1, g2, g3, g4, g5, by simp [Rows.uptoBulkAll]; exact g6⟩
  | @cons α β off f fs R B Q C ho hl hr ih =>
    intro H enc W n cs xs hlen hx b ι h s
    match xs, hlen with
    | x :: xs, hlen =>
      have h0 := hx 0 f rfl
      obtain ⟨ι1, h1, c1, y1, g1, g2, g3, g4, g5, g6⟩ := hl.lay enc W n _ x h0 (b.sub fun v hv => List.mem_of_mem_drop (List.mem_of_mem_take hv)) ι h s
      rw [hl.size, ho] at g4
      obtain ⟨ι2, h2, c2, y2, k1, k2, k3, k4, k5, k6⟩ := ih enc W n cs xs (by simpa using hlen) (fun i f hf => by simpa using hx (i + 1) f (by simpa using hf)) b ι1 h1 g1
      refine ⟨ι2, h2, c1 ++ c2, (y1, y2), k1, Inj.le_trans g2 k2, g3.trans k3, ?_, ⟨c1, c2, rfl, rd_ext R g5 k3, k5⟩, ?_⟩
      · have := (g4.mono k2).append k4
        have e : (cs.drop off).take (rP R Q).z = (cs.drop off).take R.z ++ (cs.drop (off + R.z)).take Q.z := by
          show (cs.drop off).take (R.z + Q.z) = _
          rw [List.take_add, List.drop_drop]
        rw [e]; exact this
      · simp only [List.map_cons, Rows.uptoBulkAll]; omega
theorem Flds.stay {α : Type} {off : Nat} {fs : List Field} {R : Rep α} {B : α → Nat} (a : Flds P off fs R B) : ∀ {H : Type} (enc : TypeId × Value → H) (W W' : World) (n : Nat) (cs : List Value) (sp : Nat → Bool) (f : Field) (x : DataW H × List MemPlace), f ∈ fs →
    DataW.trod enc P W 0 (fun _ => true) true n f.type ((cs.drop f.offset).take (P.cellsOf f.type)) = some x → (∀ p ∈ x.2, W.sameAt W' p) → (∀ p ∈ x.2, sp p.block = true) → DataW.trod enc P W' 0 sp true n f.type ((cs.drop f.offset).take (P.cellsOf f.type)) = some x := by
  induction a with
  | one ho hl =>
    intro H enc W W' n cs sp f x hf h1 h2 h3
    simp only [List.mem_singleton] at hf
    subst hf
    exact hl.stay enc W W' n _ x sp h1 h2 h3
  | cons ho hl hr ih =>
    intro H enc W W' n cs sp f x hf h1 h2 h3
    rcases List.mem_cons.1 hf with rfl | hf
    · exact hl.stay enc W W' n _ x sp h1 h2 h3
    · exact ih enc W W' n cs sp f x hf h1 h2 h3
theorem Lays.struct {α : Type} {t : TypeId} {fs : Array Field} {R : Rep α} {B : α → Nat} (hu : P.underlying t = some (.struct fs)) (hz : P.cellsOf t = R.z) (a : Flds P 0 fs.toList R B) : Lays P t R B where
  size := hz
  lay enc W n cs x h b ι hh s := by
    obtain ⟨xs, m, rfl, rfl, hl, hxl, hx⟩ := DataW.trod_struct hu h
    obtain ⟨ι', h', cs0, y, g1, g2, g3, g4, g5, g6⟩ := a.lay enc W m cs xs (by simpa using hxl) (fun i f hf => hx i f (by simpa using hf)) b ι hh s
    refine ⟨ι', h', cs0, y, g1, g2, g3, ?_, g5, ?_⟩
    · rw [List.drop_zero, List.take_of_length_le (by omega)] at g4; exact g4
    · simp only [Rows.uptoBulk]; omega
  stay enc W W' n cs x sp h h2 h3 := by
    obtain ⟨m, rfl⟩ := trod_pos h
    simp only [DataW.trod, hu] at h ⊢
    split at h
    · rename_i hl
      rw [if_pos hl]
      simp only [Option.map_eq_some_iff] at h ⊢
      obtain ⟨xs, hm, rfl⟩ := h
      exact ⟨xs, mapM_carry hm (fun f y hf hy hv => a.stay enc W W' m cs sp f y hf hv (fun p hp => h2 p (List.mem_flatMap.2 ⟨y, hy, hp⟩)) (fun p hp => h3 p (List.mem_flatMap.2 ⟨y, hy, hp⟩))), rfl⟩
    · cases h

/-! ### Slices -/
theorem add_add (a : Addr) (i j : Nat) : ((a.add i).add j).block = a.block ∧ ((a.add i).add j).off = a.off + (i + j) := by
  unfold Addr.add
  split <;> split <;> simp_all [Nat.add_assoc]
theorem cell_at {W : World} {a : Addr} {v : Value} (h : W.cell? a = some v) : a.spot = none ∧ ∃ cur ty fz, W.heap[a.block]? = some (.cells cur ty fz) ∧ cur[a.off]? = some v := by
  unfold World.cell? at h
  split at h
  · rename_i c ty fz e
    split at h
    · cases h
    · rename_i hs
      exact ⟨by simpa using hs, c, ty, fz, e, h⟩
  · cases h
theorem cells_get {W : World} {base : Nat} {a : Addr} {n : Nat} {cs : List Value} (h : W.cells? base a n = some cs) : cs.length = n ∧ ∀ j, j < n → W.cell? (a.add j) = cs[j]? := by
  unfold World.cells? at h
  split at h
  · refine ⟨by simpa using mapM_some_length h, fun j hj => ?_⟩
    exact mapM_some_get h j j (by simp [hj])
  · cases h
def sumB {α : Type} (B : α → Nat) : List α → Nat
  | [] => 0
  | x :: l => max 1 (B x) + sumB B l
theorem sumB_append {α : Type} (B : α → Nat) (l k : List α) : sumB B (l ++ k) = sumB B l + sumB B k := by
  induction l with
  | nil => simp [sumB]
  | cons x l ih => simp only [List.cons_append, sumB, ih]; omega
theorem bulk_append {H : Type} (l r : List (DataW H)) : Rows.uptoBulkAll (l ++ r) = Rows.uptoBulkAll l + Rows.uptoBulkAll r := by
  induction l with
  | nil => simp [Rows.uptoBulkAll]
  | cons x l ih => simp only [List.cons_append, Rows.uptoBulkAll, ih]; omega
theorem Lays.elems {α : Type} {e : TypeId} {R : Rep α} {B : α → Nat} (a : Lays P e R B) {H : Type} (enc : TypeId × Value → H) (W : World) (m : Nat) (ad : Addr) (elems : List (DataW H × List MemPlace))
    (he : ∀ i, i < elems.length → (W.cells? 0 (ad.add (i * P.cellsOf e)) (P.cellsOf e)).bind (DataW.trod enc P W 0 (fun _ => true) true m e) = elems[i]?) (b : Blk W) (ι : Inj) (h : DHeap) (s : Rds ι h W) : ∀ k, k ≤ elems.length →
    ∃ ι' h' cells ys, Rds ι' h' W ∧ ι.le ι' ∧ Ext h h' ∧ ys.length = k ∧ Els R (fun i => i < h'.next) h' cells ys ∧ (∀ (i : Nat) v, cells[i]? = some v → ∃ v' cur ty fz, W.heap[ad.block]? = some (.cells cur ty fz) ∧ cur[ad.off + i]? = some v' ∧ VRel ι' v v') ∧
      sumB B ys ≤ Rows.uptoBulkAll ((elems.take k).map (·.1)) := by
  intro k
  induction k with
  | zero => exact fun _ => ⟨ι, h, [], [], s, Inj.le_refl _, .refl _, rfl, rfl, fun i v hv => by simp at hv, by simp [sumB]⟩
  | succ k ih =>
    intro hk
    obtain ⟨ι1, h1, c1, ys, g1, g2, g3, g4, g5, g6, g7⟩ := ih (by omega)
    have hlt : k < elems.length := by omega
    have h0 := he k hlt
    rw [List.getElem?_eq_getElem hlt, Option.bind_eq_some_iff] at h0
    obtain ⟨cs, hc, ht⟩ := h0
    obtain ⟨hcl, hcg⟩ := cells_get hc
    obtain ⟨ι2, h2, c2, y, k1, k2, k3, k4, k5, k6⟩ := a.lay enc W m cs _ ht (.of b _) ι1 h1 g1
    have hl1 : c1.length = k * R.z := by rw [g5.len, g4]
    have hl2 : c2.length = R.z := R.len k5
    refine ⟨ι2, h2, c1 ++ c2, ys ++ [y], k1, Inj.le_trans g2 k2, g3.trans k3, by simp [g4], Els.append (g5.mono fun i hi => ⟨Nat.lt_of_lt_of_le hi k3.next, k3.get i hi⟩) (.single k5), fun i v hv => ?_, ?_⟩
    · rw [List.getElem?_append] at hv
      split at hv
      · obtain ⟨v', cur, ty, fz, x1, x2, x3⟩ := g6 i v hv
        exact ⟨v', cur, ty, fz, x1, x2, x3.mono k2⟩
      · rename_i hi
        have hj : i - c1.length < c2.length := (List.getElem?_eq_some_iff.1 hv).1
        obtain ⟨v', hv', hr⟩ := k4.get hv
        have hj' : i - c1.length < P.cellsOf e := by rw [a.size]; omega
        have hcell := hcg (i - c1.length) hj'
        rw [hv'] at hcell
        obtain ⟨_, cur, ty, fz, x1, x2⟩ := cell_at hcell
        obtain ⟨y1, y2⟩ := add_add ad (k * P.cellsOf e) (i - c1.length)
        rw [y1] at x1
        rw [y2, a.size, hl1] at x2
        exact ⟨v', cur, ty, fz, x1, by rw [show ad.off + (k * R.z + (i - k * R.z)) = ad.off + i by omega] at x2; exact x2, hr⟩
    · rw [sumB_append, List.take_add_one, List.getElem?_eq_getElem hlt]
      simp only [List.map_append, bulk_append, Option.toList_some, List.map_cons, List.map_nil, Rows.uptoBulkAll, sumB]
      have := Rows.one_le elems[k].1
      omega
theorem Lays.slice {α : Type} {t e : TypeId} {R : Rep α} {B : α → Nat} (hu : P.underlying t = some (.slice e)) (hz : P.cellsOf t = 1) (hp : 0 < R.z) (a : Lays P e R B) : Lays P t (rSl R) (sumB B) where
  size := hz
  lay enc W n cs x h b ι hh s := by
    rcases DataW.trod_slice hu h with ⟨rfl, rfl⟩ | ⟨ad, len, cap, elems, rest, m, rfl, rfl, rfl, hb0, hlc, hcm, hel, he, hs, _⟩
    · exact ⟨ι, hh, [.slice none 0 0], [], s, Inj.le_refl _, .refl _, (LRel.nil ι).cons .snil, ⟨_, rfl, Sl.nil _ _ _⟩, Nat.zero_le _⟩
    · replace b : Blk W := b ad len cap (by simp)
      obtain ⟨hrl, hr⟩ := hs rfl
      obtain ⟨ι1, h1, cells, ys, g1, g2, g3, g4, g5, g6, g7⟩ := a.elems enc W m ad elems (fun i hi => he i (by omega)) b ι hh s elems.length (Nat.le_refl _)
      have hcl : cells.length = len * R.z := by rw [g5.len, g4, hel]
      rw [List.take_length] at g7
      -- the block
      have hblk : ∃ bb sh cur ty fz, W.heap[bb]? = some (.cells cur ty fz) ∧ (0 < cap → ad = ⟨bb, sh, none⟩) ∧ ∀ (i : Nat) v, cells[i]? = some v → ∃ v', cur[sh + i]? = some v' ∧ VRel ι1 v v' := by
        by_cases hc0 : cap = 0
        · obtain ⟨bb, cur, ty, fz, e1⟩ := b
          refine ⟨bb, 0, cur, ty, fz, e1, fun hh => by omega, fun i v hv => ?_⟩
          have := (List.getElem?_eq_some_iff.1 hv).1
          rw [hcl, show len = 0 by omega] at this
          omega
        · have h0 : ∃ v, W.cell? ((ad.add 0).add 0) = some v := by
            by_cases hl0 : len = 0
            · have hx := hr 0 (by omega)
              rw [List.getElem?_eq_getElem (by omega), Option.bind_eq_some_iff] at hx
              obtain ⟨cs', hc', _⟩ := hx
              obtain ⟨q1, q2⟩ := cells_get hc'
              have := q2 0 (by rw [a.size]; exact hp)
              rw [hl0, Nat.zero_add, Nat.zero_mul, List.getElem?_eq_getElem (by rw [q1, a.size]; exact hp)] at this
              exact ⟨_, this⟩
            · have hx := he 0 (by omega)
              rw [List.getElem?_eq_getElem (by omega), Option.bind_eq_some_iff] at hx
              obtain ⟨cs', hc', _⟩ := hx
              obtain ⟨q1, q2⟩ := cells_get hc'
              have := q2 0 (by rw [a.size]; exact hp)
              rw [Nat.zero_mul, List.getElem?_eq_getElem (by rw [q1, a.size]; exact hp)] at this
              exact ⟨_, this⟩
          obtain ⟨v0, hv0⟩ := h0
          have hadd : (ad.add 0).add 0 = ad := by simp [Addr.add]
          rw [hadd] at hv0
          obtain ⟨hsp, cur, ty, fz, e1, _⟩ := cell_at hv0
          refine ⟨ad.block, ad.off, cur, ty, fz, e1, fun _ => by cases ad; simp_all, fun i v hv => ?_⟩
          obtain ⟨v', cur', ty', fz', x1, x2, x3⟩ := g6 i v hv
          rw [e1] at x1
          cases x1
          exact ⟨v', x2, x3⟩
      obtain ⟨bb, sh, cur, ty, fz, e1, e2, e3⟩ := hblk
      obtain ⟨k1, k2, k3⟩ := g1.push e1 sh R.z e3
      refine ⟨_, _, [.slice (some ⟨h1.next, 0, none⟩) ys.length cap], ys, k1, Inj.le_trans g2 k2, g3.trans k3, (LRel.nil _).cons ?_, ⟨_, rfl, .inr ⟨h1.next, 0, cap, cells, R.z, true, rfl, Nat.lt_succ_self _, get_push_same _ _, .inl rfl, ?_, ?_⟩⟩, ?_⟩
      · rw [show len = ys.length by omega]
        exact .slice (Inj.upd_same _ _ _) (by omega) (fun h => h) (fun hc => e2 hc) (fun hh => by cases hh)
      · rw [hcl, g4, hel]; omega
      · rw [List.drop_zero, List.take_of_length_le (by rw [hcl, g4, hel]; exact Nat.le_refl _)]
        exact g5.mono fun i hi => ⟨Nat.lt_of_lt_of_le hi k3.next, k3.get i hi⟩
      · simp only [Rows.uptoBulk]; omega
  stay enc W W' n cs x sp h h2 h3 := by
    obtain ⟨m, rfl⟩ := trod_pos h
    rcases DataW.trod_slice hu h with ⟨rfl, rfl⟩ | ⟨ad, len, cap, _, _, _, _, rfl, _⟩
    · simp only [DataW.trod, hu]
    · simp only [DataW.trod, hu, if_true] at h ⊢
      split at h
      · rename_i hc
        rw [if_pos hc]
        simp only [Option.map_eq_some_iff, Option.bind_eq_some_iff] at h ⊢
        obtain ⟨elems, he, rest, hrest, rfl⟩ := h
        have hlen : elems.length = len := by simpa using mapM_some_length he
        have hrl : rest.length = cap - len := by simpa using mapM_some_length hrest
        have one : ∀ (i : Nat) (y : DataW _ × List MemPlace), i < elems.length + rest.length → y ∈ elems ++ rest →
            (W.cells? 0 (ad.add (i * P.cellsOf e)) (P.cellsOf e)).bind (DataW.trod enc P W 0 (fun _ => true) true m e) = some y → (W'.cells? 0 (ad.add (i * P.cellsOf e)) (P.cellsOf e)).bind (DataW.trod enc P W' 0 sp true m e) = some y := by
          intro i y hi hy hv
          simp only [Option.bind_eq_some_iff] at hv ⊢
          obtain ⟨cs', hc', hy'⟩ := hv
          have hm : ∀ p ∈ y.2, p ∈ (elems ++ rest).flatMap (·.2) := fun p hp => List.mem_flatMap.2 ⟨y, hy, hp⟩
          refine ⟨cs', World.cells?_carry hc' (fun p hp => h2 p ?_), a.stay enc W W' m cs' y sp hy' (fun p hp => h2 p (List.mem_append_right _ (hm p hp))) (fun p hp => h3 p (List.mem_append_right _ (hm p hp)))⟩
          obtain ⟨j, hj, rfl⟩ := MemPlace.mem_row.1 hp
          refine List.mem_append_left _ (MemPlace.mem_row.2 ⟨i * P.cellsOf e + j, ?_, ?_⟩)
          · calc i * P.cellsOf e + j < i * P.cellsOf e + P.cellsOf e := by omega
              _ = (i + 1) * P.cellsOf e := by rw [Nat.add_mul, Nat.one_mul]
              _ ≤ (elems.length + rest.length) * P.cellsOf e := Nat.mul_le_mul_right _ hi
          · unfold Addr.add
            split
            · rename_i h0
              simp [h0]
            · simp [Nat.add_assoc]
        refine ⟨elems, mapM_carry he (fun i y hi hy => one i y (by have : i < len := (by simpa using hi); omega) (by simp [hy])), rest, ?_, rfl⟩
        by_cases hc0 : cap - len = 0
        · have hr0 : rest = [] := List.eq_nil_of_length_eq_zero (by omega)
          rw [hr0, hc0]
          split <;> rfl
        · have hsp : sp ad.block = true := by
            have : MemPlace.cell ad.block (ad.off + 0) ∈ MemPlace.row ad ((elems.length + rest.length) * P.cellsOf e) := MemPlace.mem_row.2 ⟨0, by
              rw [a.size]
              exact Nat.mul_pos (by omega) hp, rfl⟩
            exact h3 _ (List.mem_append_left _ this)
          rw [if_pos hsp]
          exact mapM_carry hrest (fun j y hj hy => one (len + j) y (by have : j < cap - len := (by simpa using hj); omega) (by simp [hy]))
      · cases h
end Go.D

namespace Go.D
open Go.Proofs.Ythjmkmoiopmfcaa (Rows.uptoBulk Rows.uptoBulkAll Rows.uptoSmall)
open Go.ChangeShapes Go.RowKit
variable {P : Program}

/-- a parameter's value: one cell, or a struct's cells -/
def argV (agg : Bool) (cs : List Value) : Value := if agg then .agg cs.toArray else cs.headD undef
def oneDesc : TypeDesc → Bool
  | .int _ | .bool | .slice _ => true
  | _ => false
/-- a parameter's type: a struct, or one cell that is read -/
def Par (P : Program) (t : TypeId) (agg : Bool) : Prop := if agg then ∃ fs, P.underlying t = some (.struct fs) else ∃ d, P.underlying t = some d ∧ oneDesc d = true
theorem has_blk {W : World} {base : Nat} {a : Addr} {e : TypeId} {n : Nat} (h : W.has P .any base a e n) : Blk W := by
  obtain ⟨_, _, row, cells, hs, _⟩ := h
  unfold World.shape? at hs
  split at hs
  · rename_i c elem fz e
    exact ⟨_, _, _, _, e⟩
  · cases hs
theorem okCell_blk {W : World} {base : Nat} {t : TypeId} {a : Addr} {len cap : Nat} (h : Cell.okWide P W .any base t (.slice (some a) len cap)) : Blk W := by
  unfold Cell.okWide at h
  split at h <;> try simp_all
  unfold Cell.ok at h
  split at h <;> try simp_all
  exact has_blk h.2.2
theorem ok_blk {W : World} {base : Nat} {t : TypeId} {v : Value} (h : Value.okWide P W .any base t v) : BlkOf W v.cells.toList := by
  intro a len cap hm
  unfold Value.okWide at h
  have one : Cell.okWide P W .any base t v → Blk W := fun hc => by
    have hv : v.cells = #[v] ∨ (∃ cs, v = .agg cs) ∨ (∃ cs, v = .tuple cs) := by
      cases v <;> first | exact .inl rfl | exact .inr (.inl ⟨_, rfl⟩) | exact .inr (.inr ⟨_, rfl⟩)
    rcases hv with hv | ⟨cs, rfl⟩ | ⟨cs, rfl⟩
    · rw [hv] at hm
      simp only [List.mem_singleton] at hm
      subst hm
      exact okCell_blk hc
    · exfalso
      unfold Cell.okWide at hc
      split at hc <;> simp_all
      unfold Cell.ok at hc
      split at hc <;> simp_all
    · exfalso
      unfold Cell.okWide at hc
      split at hc <;> simp_all
      unfold Cell.ok at hc
      split at hc <;> simp_all
  have agg : (∃ cs, v = .agg cs ∧ cs.size = P.cellsOf t ∧ Row.okWide P W .any base t cs) → Blk W := fun ⟨cs, e, _, ts, _, _, hr⟩ => by
    subst e
    obtain ⟨i, hi⟩ := List.mem_iff_getElem?.1 hm
    obtain ⟨u, _, hu⟩ := hr i _ (by simpa [Value.cells] using hi)
    exact okCell_blk hu
  split at h
  · exact agg h
  · exact agg h
  · exact one h
theorem Lays.arg {α : Type} {t : TypeId} {R : Rep α} {B : α → Nat} {agg : Bool} (hp : Par P t agg) (a : Lays P t R B) {H : Type} {enc : TypeId × Value → H} {W : World} {base : Nat} {v : Value} {d : DataW H} {ps : List MemPlace}
    (ht : DataW.Trod enc P W 0 (fun _ => true) true t v d ps) (hv : Value.okWide P W .any base t v) {ι : Inj} {h : DHeap} (s : Rds ι h W) :
    ∃ ι' h' cs0 y, Rds ι' h' W ∧ ι.le ι' ∧ Ext h h' ∧ VRel ι' (argV agg cs0) v ∧ R.rd (fun i => i < h'.next) h' cs0 y ∧ B y ≤ Rows.uptoBulk d := by
  obtain ⟨n, hn⟩ := ht
  obtain ⟨ι', h', cs0, y, g1, g2, g3, g4, g5, g6⟩ := a.lay enc W n _ _ hn (ok_blk hv) ι h s
  refine ⟨ι', h', cs0, y, g1, g2, g3, ?_, g5, g6⟩
  unfold Par at hp
  unfold Value.okWide at hv
  cases agg with
  | true =>
    obtain ⟨fs, hu⟩ := hp
    rw [hu] at hv
    obtain ⟨cs, rfl, _⟩ := hv
    obtain ⟨x1, x2⟩ := g4
    exact .agg (by simpa [Value.cells] using x1) (fun i v v' a b => x2 i v v' (by simpa using a) (by simpa [Value.cells] using b))
  | false =>
    obtain ⟨de, hu, ho⟩ := hp
    have hc : Cell.okWide P W .any base t v := by
      rw [hu] at hv
      cases de <;> first | exact hv | simp [oneDesc] at ho
    have h1 : v.cells = #[v] := by
      cases v <;> first | rfl | (exfalso; unfold Cell.okWide at hc; rw [hu] at hc; cases de <;> simp [oneDesc, Cell.ok, hu] at ho hc)
    rw [h1] at g4
    obtain ⟨x1, x2⟩ := g4
    match cs0, x1 with
    | [c], _ => exact x2 0 c v rfl rfl

/-- parameters, one behind the other -/
inductive Pars (P : Program) : {α : Type} → List TypeId → ((Nat → Prop) → DHeap → List Value → α → Prop) → (α → Nat) → Prop
  | nil : Pars P [] (fun _ _ vs (_ : Unit) => vs = []) (fun _ => 0)
  | cons {α β : Type} {t : TypeId} {ts : List TypeId} {agg : Bool} {R : Rep α} {B : α → Nat} {Q : (Nat → Prop) → DHeap → List Value → β → Prop} {C : β → Nat} (hp : Par P t agg) (hl : Lays P t R B) (hr : Pars P ts Q C) :
      Pars P (t :: ts) (fun S h vs (x : α × β) => ∃ cs vs', vs = argV agg cs :: vs' ∧ R.rd S h cs x.1 ∧ Q S h vs' x.2) (fun x => B x.1 + C x.2)
theorem Pars.lay {α : Type} {ts : List TypeId} {Q : (Nat → Prop) → DHeap → List Value → α → Prop} {B : α → Nat} (a : Pars P ts Q B) : ∀ {H : Type} {enc : TypeId × Value → H} {W : World} {base : Nat} {vs : List Value} {ds : List (DataW H)} {ps : List MemPlace},
    DataW.TrodAll enc P W 0 (fun _ => true) true ts vs ds ps → (∀ (j : Nat) t v, ts[j]? = some t → vs[j]? = some v → Value.okWide P W .any base t v) → ∀ {ι : Inj} {h : DHeap}, Rds ι h W →
    ∃ ι' h' vs0 y, Rds ι' h' W ∧ ι.le ι' ∧ Ext h h' ∧ LRel ι' vs0 vs ∧ (∀ h1, Ext h' h1 → Q (fun i => i < h1.next) h1 vs0 y) ∧ B y ≤ Rows.uptoBulkAll ds := by
  induction a with
  | nil =>
    intro H enc W base vs ds ps ht hv ι h s
    obtain ⟨rfl, rfl, rfl⟩ := trodAll_nil ht
    exact ⟨ι, h, [], (), s, Inj.le_refl _, .refl _, LRel.nil _, fun _ _ => rfl, Nat.le_refl _⟩
  | cons hp hl hr ih =>
    intro H enc W base vs ds ps ht hv ι h s
    obtain ⟨v, vs, d, ds, p, q, rfl, rfl, rfl, t1, t2⟩ := trodAll_cons ht
    obtain ⟨ι1, h1, cs, y, g1, g2, g3, g4, g5, g6⟩ := hl.arg hp t1 (hv 0 _ _ rfl rfl) s
    obtain ⟨ι2, h2, vs0, z, k1, k2, k3, k4, k5, k6⟩ := ih t2 (fun j t v a b => hv (j + 1) t v a b) g1
    exact ⟨ι2, h2, argV _ cs :: vs0, (y, z), k1, Inj.le_trans g2 k2, g3.trans k3, LRel.cons (g4.mono k2) k4, fun h3 e => ⟨cs, vs0, rfl, rd_ext _ g5 (k3.trans e), k5 h3 e⟩, by simp only [Rows.uptoBulkAll]; omega⟩
theorem Pars.stay {α : Type} {ts : List TypeId} {Q : (Nat → Prop) → DHeap → List Value → α → Prop} {B : α → Nat} (a : Pars P ts Q B) : ∀ {H : Type} {enc : TypeId × Value → H} {W W' : World} {sp : Nat → Bool} {vs : List Value} {ds : List (DataW H)} {ps : List MemPlace},
    DataW.TrodAll enc P W 0 (fun _ => true) true ts vs ds ps → (∀ p ∈ ps, W.sameAt W' p) → (∀ p ∈ ps, sp p.block = true) → DataW.TrodAll enc P W' 0 sp true ts vs ds ps := by
  induction a with
  | nil =>
    intro H enc W W' sp vs ds ps ht _ _
    obtain ⟨rfl, rfl, rfl⟩ := trodAll_nil ht
    rfl
  | cons hp hl hr ih =>
    intro H enc W W' sp vs ds ps ht h2 h3
    obtain ⟨v, vs, d, ds, p, q, rfl, rfl, rfl, ⟨n, t1⟩, t2⟩ := trodAll_cons ht
    exact ⟨p, q, ⟨n, hl.stay enc W W' n _ _ sp t1 (fun x hx => h2 x (List.mem_append_left _ hx)) (fun x hx => h3 x (List.mem_append_left _ hx))⟩, ih t2 (fun x hx => h2 x (List.mem_append_right _ hx)) (fun x hx => h3 x (List.mem_append_right _ hx)), rfl⟩

section
variable {H : Type} {enc : TypeId × Value → H}
end
end Go.D

namespace Go.D
variable {P : Program} {α : Type} {R : Rep α} {S S' : Nat → Prop} {K h : DHeap} {v : Value} {l : List α}

/-- a list of one's own is read by whoever -/
theorem Owns.arg {w : Option Nat} (a : Owns R S h v l w) (hS : ∀ i, S i → i < h.next) : Arg R h v l := by
  have hlt := a.lt
  exact a.sl.mono fun i hi => ⟨by
    rcases hi with hi | hi
    · exact hS i hi
    · exact hlt i hi, rfl⟩
end Go.D

namespace Go.D
variable {P : Program}

/-- fields by their types and places -/
inductive Fld2 (P : Program) : {α : Type} → Nat → List (TypeId × Nat) → Rep α → (α → Nat) → Prop
  | one {α : Type} {off : Nat} {t : TypeId} {R : Rep α} {B : α → Nat} (hl : Lays P t R B) : Fld2 P off [(t, off)] R B
  | cons {α β : Type} {off : Nat} {t : TypeId} {l : List (TypeId × Nat)} {R : Rep α} {B : α → Nat} {Q : Rep β} {C : β → Nat} (hl : Lays P t R B) (hr : Fld2 P (off + R.z) l Q C) : Fld2 P off ((t, off) :: l) (rP R Q) (fun x => B x.1 + C x.2)
theorem Fld2.flds {α : Type} {off : Nat} {l : List (TypeId × Nat)} {R : Rep α} {B : α → Nat} (a : Fld2 P off l R B) : ∀ fs : List Field, fs.map (fun f => (f.type, f.offset)) = l → Flds P off fs R B := by
  induction a with
  | one hl =>
    intro fs h
    match fs, h with
    | [f], h =>
      simp only [List.map_cons, List.map_nil, List.cons.injEq, Prod.mk.injEq, and_true] at h
      obtain ⟨rfl, rfl⟩ := h
      exact .one rfl hl
  | cons hl hr ih =>
    intro fs h
    cases fs with
    | nil => cases h
    | cons f fs =>
      simp only [List.map_cons, List.cons.injEq, Prod.mk.injEq] at h
      obtain ⟨⟨rfl, rfl⟩, h2⟩ := h
      exact .cons rfl hl (ih fs h2)
theorem Lays.of {α : Type} {t : TypeId} {l : List (TypeId × Nat)} {R : Rep α} {B : α → Nat} (hf : fldsOf P t = some l) (hz : P.cellsOf t = R.z) (a : Fld2 P 0 l R B) : Lays P t R B := by
  unfold fldsOf at hf
  split at hf
  · rename_i fs hu
    split at hf
    · cases hf
      exact .struct hu hz (a.flds _ rfl)
    · cases hf
  · cases hf
end Go.D

namespace Go.Proofs.Ythjmkmoiopmfcaa
open Go.D
set_option maxRecDepth 100000
end Go.Proofs.Ythjmkmoiopmfcaa

namespace Go.D
variable {P : Program} {nt : Nat}

theorem NC.range_aux {g : Operand} {ps : Array Tmp} {assign body : Code} {Q : DExit → St → Prop} {s : St} {fv : Value} {l : Nat} {df : List DDef} {h1 : DHeap} {f : FuncId} {args : List Value}
    (hg : evalF s.h.ng s.fr g = some fv) (hh : HStep s.h h1)
    (henter : ∀ (r : Option Nat) (ι : Inj) (a : Act) (w : World) (fn : FuncId), SRel nt ι s r a w → ∃ (ι1 : Inj) (e : Ent) (mark : List Deferred) (w1 : World), (Instr.enterLoop fn a.tmps ps assign body r).run P w = .ok (e.block, mark) w1 ∧
      ι1 l = some e ∧ e.shift = 0 ∧ Sim ι1 h1 w1 ∧ Step ι ι1 s.h h1 w w1 ∧ DefRel ι1 df (mark ++ a.defers))
    (ht : dTarget P fv [.func (.yield l) #[] #[]] h1 = some (.enter f args)) {R : DEnd → DHeap → Prop}
    (hc : Ct P f args h1 R) (hx : ∀ r h2, R r h2 → XRangePost l s.fr df s.rd Q r h2) : NC P nt (.rangeFunc g ps assign body) Q s := by
  intro n rr ι a w hs
  refine wpIn_rangeFunc fun fn _ => ?_
  obtain ⟨ι1, eb, mark, w1, he, hl, hsh, s1, st1, hd1⟩ := henter rr ι a w fn hs
  have hfv : VRel ι fv (a.eval g) := evalF_rel (P := P) hs.sim (a := a) (ops := #[]) (o := ⟨none, .move g, 0, "", #[], none⟩) (fun t _ u hu => hs.fr.2 t u hu) g (by simp [Op.operands]) _ hg
  have hy : LRel ι1 [.func (.yield l) #[] #[]] (#[.func (.yield eb.block) #[] #[]] : Array Value).toList := (LRel.nil ι1).cons (.yield hl hsh)
  obtain ⟨d, x', hd, hinv, hn, hdd⟩ := dTarget_ok ht s1 (hfv.mono st1.le) hy
  cases x' with
  | enter f' args' =>
    obtain ⟨rfl, hargs, _⟩ := hn
    refine ⟨eb.block, mark, w1, d, w1, f', args', w1, he, ?_, fun _ _ => trivial, hinv, fun hh => absurd hh (by simp [FW]), ?_⟩
    · simpa [resolve, rangeCall, Act.eval] using hd
    · refine CallsIn.mono (hc (n - 1) ι1 w1 args' s1 hargs) fun en w2 ⟨ι2, r, h2, hR, hh2, k1, k2, k3⟩ => ?_
      have hp := hx r h2 hR
      have hl2 := k3.le l eb hl
      have hfr := (hs.fr.mono st1.le).mono k3.le
      have hdf := hd1.mono k3.le
      have hrd := (hs.rd.mono st1.le).mono k3.le
      have hst := st1.trans k3
      cases r with
      | pan v =>
        cases en with
        | panicked ch => exact ⟨ι2, .pan v, _, hp, hh.trans hh2, k1, ⟨hfr, hdf, k2, hrd⟩, hst⟩
        | _ => exact k1.elim
      | ret v =>
        cases en with
        | returned v' =>
          obtain ⟨d, hgd, hbusy, hq⟩ := hp
          obtain ⟨_, _, lp, hlp, hlr⟩ := k2.loopAt hl2 hgd
          obtain ⟨q1, q2⟩ := k2.setLoop hl2 hgd hlp hlr .exhausted d.pending
          have hend := run_endLoop (P := P) hlp (by rw [hlr.state]; exact hbusy)
          rw [hlr.pending] at hend
          refine ⟨d.pending, _, hend, ?_⟩
          have fin : ∀ (e : DExit) ex, Q e ⟨s.fr, df, h2.set l (.loop { d with state := .exhausted, pending := d.pending }), s.rd⟩ → ExitRel ι2 e ex →
              ∃ ι' e s', Q e s' ∧ HStep s.h s'.h ∧ ExitRel ι' e ex ∧ SRel nt ι' s' rr { a with defers := mark ++ a.defers } (w2.putObj eb.block (.loop { lp with state := .exhausted, pending := d.pending })) ∧ Step ι ι' s.h s'.h w (w2.putObj eb.block (.loop { lp with state := .exhausted, pending := d.pending })) :=
            fun e ex hq hex => ⟨ι2, e, _, hq, hh.trans (hh2.trans (HStep.set _ _ _)), hex, ⟨hfr, hdf, q1, hrd⟩, hst.trans q2⟩
          cases hpe : d.pending with
          | none =>
            rw [hpe] at hq fin
            exact fin .normal _ hq trivial
          | some c =>
            rw [hpe] at hq fin
            cases c with
            | ret => exact wpIn_ret (fin .ret _ hq trivial)
            | exit id => exact wpIn_exit (fin (.exit id) _ hq rfl)
            | _ => exact hq.elim
        | _ => exact k1.elim
  | _ => exact hn.elim
/-- an outermost loop -/
theorem NC.range {g : Operand} {ps : Array Tmp} {assign body : Code} {Q : DExit → St → Prop} {s : St} {fv : Value} {f : FuncId} {args : List Value} {h1 : DHeap}
    (hrd : s.rd = none) (hg : evalF s.h.ng s.fr g = some fv) (hh1 : h1 = (s.h.push (.marks true)).push (.loop ⟨nt, s.fr, ps, assign, body, s.h.next, .ready, none⟩))
    (ht : dTarget P fv [.func (.yield (s.h.next + 1)) #[] #[]] h1 = some (.enter f args)) {R : DEnd → DHeap → Prop}
    (hc : Ct P f args h1 R) (hx : ∀ r h2, R r h2 → XRangePost (s.h.next + 1) s.fr (.mark s.h.next :: s.df) s.rd Q r h2) : NC P nt (.rangeFunc g ps assign body) Q s := by
  subst hh1
  refine NC.range_aux hg ((HStep.push _ _).trans (HStep.push _ _)) (fun r ι a w fn hs => ?_) ht hc hx
  have hr : r = none := by
    have := hs.rd
    rw [hrd] at this
    cases r with
    | none => rfl
    | some _ => exact this.elim
  subst hr
  obtain ⟨a1, a2⟩ := hs.sim.alloc (.marks true) (.deferred (some [])) ⟨w.heap.size, 0, 0, 0, false⟩ rfl ⟨rfl, rfl, World.alloc_heap_new _ _⟩
  have hsz : (w.alloc (.deferred (some []))).heap.size = w.heap.size + 1 := World.size_alloc _ _
  have hm : (ι.upd s.h.next ⟨w.heap.size, 0, 0, 0, false⟩) s.h.next = some ⟨w.heap.size, 0, 0, 0, false⟩ := Inj.upd_same _ _ _
  obtain ⟨b1, b2⟩ := a1.alloc (.loop ⟨nt, s.fr, ps, assign, body, s.h.next, .ready, none⟩) (.loop { state := .ready, pending := none, fn, tmps := a.tmps, params := ps, assign, body, defers := w.heap.size })
    ⟨w.heap.size + 1, 0, 0, 0, false⟩ hsz.symm ⟨rfl, rfl, _, by rw [← hsz]; exact World.alloc_heap_new _ _,
      ⟨(hs.fr.mono a2.le).mono (Inj.upd_le a1.fresh), rfl, rfl, rfl, rfl, rfl, ⟨w.heap.size, 0, 0, 0, false⟩, Inj.upd_le a1.fresh _ _ hm, rfl, rfl⟩⟩
  refine ⟨_, ⟨w.heap.size + 1, 0, 0, 0, false⟩, _, _, run_enterLoop_outer fn a.tmps ps assign body, ?_, rfl, b1, a2.trans b2, ?_⟩
  · exact Inj.upd_same _ _ _
  · exact ⟨⟨_, b2.le _ _ hm, rfl, rfl⟩, (hs.df.mono a2.le).mono b2.le⟩
/-- code in a loop over a function, walked without its places -/
theorem NC.strip {c c0 : Code} {Q : DExit → St → Prop} {s : St} (hs : Go.D.strip c0 = c) (hk : codeOK nt c = true) (h : xs P nt c Q s) : NC P nt c0 Q s := by
  subst hs
  exact xs_sound c0 Q s (by rw [← codeOK_strip]; exact hk) h
end Go.D

namespace Go.D
variable {P : Program} {α : Type} {R : Rep α} {S : Nat → Prop} {h : DHeap} {v : Value} {l : List α} {t : TypeId}

end Go.D

namespace Go.D
variable {P : Program} {nt : Nat}

/-- the heap in a loop over a function that was begun at hB: what the loop may change is ids, and what was made since -/
structure Rng (hB : DHeap) (D : DLoop) (ids : Nat → Prop) (K : DHeap) : Prop where
  old : ∀ j, j < hB.next → ¬ ids j → K.get j = hB.get j
  nx : hB.next + 2 ≤ K.next
  ng : K.ng = hB.ng
  mrk : K.get hB.next = some (.marks true)
  lp : K.get (hB.next + 1) = some (.loop D)
section
variable {hB K K' : DHeap} {D D' : DLoop} {ids : Nat → Prop} {o : DObj} {id : Nat}
theorem Rng.start (hB : DHeap) (D : DLoop) (ids : Nat → Prop) : Rng hB D ids ((hB.push (.marks true)).push (.loop D)) :=
  ⟨fun j hj _ => by rw [get_push_other _ _ (by rw [next_push]; omega), get_push_other _ _ hj], Nat.le_refl _, rfl, get_p1, get_push_same _ _⟩
theorem Rng.ext (r : Rng hB D ids K) (e : Ext K K') : Rng hB D ids K' :=
  ⟨fun j hj hi => (e.get j (by have := r.nx; omega)).trans (r.old j hj hi), Nat.le_trans r.nx e.next, e.ng.trans r.ng, (e.get _ (by have := r.nx; omega)).trans r.mrk, (e.get _ (by have := r.nx; omega)).trans r.lp⟩
theorem Rng.set (r : Rng hB D ids K) (hi : ids id) (hid : id < hB.next) : Rng hB D ids (K.set id o) :=
  ⟨fun j hj hij => (get_set_other _ _ (by intro hh; subst hh; exact hij hi)).trans (r.old j hj hij), r.nx, r.ng, (get_set_other _ _ (by omega)).trans r.mrk, (get_set_other _ _ (by omega)).trans r.lp⟩
theorem Rng.push (r : Rng hB D ids K) (o : DObj) : Rng hB D ids (K.push o) := r.ext (Ext.push1 _ _)
theorem Rng.loop (r : Rng hB D ids K) (D' : DLoop) : Rng hB D' ids (K.set (hB.next + 1) (.loop D')) :=
  ⟨fun j hj hij => (get_set_other _ _ (by omega)).trans (r.old j hj hij), r.nx, r.ng, (get_set_other _ _ (by omega)).trans r.mrk, get_set_same _ _⟩
theorem Rng.keep (r : Rng hB D ids K) (hn : K.next ≤ K'.next) (hg : K'.ng = K.ng) (h : ∀ j, j < hB.next + 2 → K'.get j = K.get j) : Rng hB D ids K' :=
  ⟨fun j hj hi => (h j (by omega)).trans (r.old j hj hi), Nat.le_trans r.nx hn, hg.trans r.ng, (h _ (by omega)).trans r.mrk, (h _ (by omega)).trans r.lp⟩
end
end Go.D

namespace Go.D
variable {P : Program} {nt : Nat}

/-- one operation -/
def NOne (P : Program) (ops : Array Oper) (o : Oper) (s : St) (K : St → Prop) (Q : DExit → St → Prop) : Prop :=
  match dWanted ops s.fr o with
  | none => False
  | some false => K ⟨s.fr.put o.dst undef, s.df, s.h, s.rd⟩
  | some true => NNext P o s (dOp P (evalF s.h.ng s.fr) o s.h) K Q
theorem NOne_sound {ops : Array Oper} (hd : dstsOK nt ops = true) {k : Nat} {o : Oper} (ho : ops[k]? = some o) {s : St} {K : St → Prop} {Q : DExit → St → Prop} (h : NOne P ops o s K Q)
    {n : Nat} {r : Option Nat} {ι : Inj} {a : Act} {w : World} {Qc : Exit → Act → World → Prop} {Kw : Act → World → Prop} (hs : SRel nt ι s r a w)
    (hK : ∀ ι' s' a' w', K s' → HStep s.h s'.h → SRel nt ι' s' r a' w' → Step ι ι' s.h s'.h w w' → Kw a' w')
    (hQ : ∀ ι' e s' ex a' w', Q e s' → HStep s.h s'.h → ExitRel ι' e ex → SRel nt ι' s' r a' w' → Step ι ι' s.h s'.h w w' → Qc ex a' w') : wpOpIn (FW r) n P ops Qc k Kw a w := by
  have hdo : ∀ d, o.dst = some d → d < nt := fun d h => dstsOK_spec hd k o d ho h
  -- one operation that needs no call
  have one : XOps P ops [o] s (fun e s' => match e with | .normal => K s' | e => Q e s') → wpOpIn (FW r) n P ops Qc k Kw a w := by
    intro hx
    have hw0 := hx
    simp only [XOps] at hx
    have fin : ∀ (v : Value) (h1 : DHeap), Ex P ops o s.fr s.h (.ret v) h1 → isDefer o.op = false → K ⟨s.fr.put o.dst v, s.df, h1, s.rd⟩ → wpOpIn (FW r) n P ops Qc k Kw a w := by
      intro v h1 hex hnd hh
      refine Ex_sound hex ho hnd hs.sim hs.fr.1 (dstsOK_spec hd) (fun t _ u hu => hs.fr.2 t u hu) (fun u hu ι' v' w' hv s1 st => ?_) (fun u hu => by cases hu)
      cases hu
      exact hK ι' _ _ w' hh (Ex_hstep hex) ⟨put_rel (r := r) (w := w) (hs.fr.mono st.le) hdo hv, by rw [put_defers]; exact hs.df.mono st.le, s1, hs.rd.mono st.le⟩ st
    have finp : ∀ (v : Value) (h1 : DHeap), Ex P ops o s.fr s.h (.pan v) h1 → isDefer o.op = false → Q (.pan v) ⟨s.fr, s.df, h1, s.rd⟩ → wpOpIn (FW r) n P ops Qc k Kw a w := by
      intro v h1 hex hnd hh
      refine Ex_sound hex ho hnd hs.sim hs.fr.1 (dstsOK_spec hd) (fun t _ u hu => hs.fr.2 t u hu) (fun u hu => by cases hu) (fun u hu ι' v' w' hv s1 st => ?_)
      cases hu
      exact hQ ι' _ ⟨s.fr, s.df, h1, s.rd⟩ _ a w' hh (Ex_hstep hex) ⟨v', rfl, hv⟩ ⟨hs.fr.mono st.le, hs.df.mono st.le, s1, hs.rd.mono st.le⟩ st
    cases hw : dWanted ops s.fr o with
    | none => rw [hw] at hx; exact hx.elim
    | some b =>
      rw [hw] at hx
      cases b with
      | false =>
        simp only [XOps] at hx
        unfold wpOpIn
        rw [ho]
        have hw' := wanted_rel hs.fr.1 (dstsOK_spec hd) (fun t _ u hu => hs.fr.2 t u hu) hw
        simp only [hw', Bool.false_eq_true, if_false]
        exact ⟨fun _ _ => trivial, hK ι _ _ w hx (.refl _) ⟨put_rel (r := r) (w := w) hs.fr hdo (undef_rel ι), by rw [put_defers]; exact hs.df, hs.sim, hs.rd⟩ (Step.refl ι _ w)⟩
      | true =>
        simp only at hx
        have hexd : ∀ r h1, (match dOp P (evalF s.h.ng s.fr) o s.h with
            | .ok (.value v) h1' => r = .ret v ∧ h1 = h1'
            | .ok .skip h1' => r = .ret undef ∧ h1 = h1'
            | .ok (.enter f args) h1' => DC P f args h1' r h1
            | .ok (.round l size tmps assign body) h1' => DRd P l size tmps assign body h1' r h1
            | .pan v h1' => r = .pan v ∧ h1 = h1'
            | _ => False) → Ex P ops o s.fr s.h r h1 := by
          intro r h1 hh; unfold Ex; rw [hw]; exact hh
        have hnd : ∀ x h1, dOp P (evalF s.h.ng s.fr) o s.h = .ok x h1 → (∀ f gs, x ≠ .defer f gs) → isDefer o.op = false := by
          intro x h1 hop hne
          cases hod : o.op with
          | defer c =>
            exfalso
            unfold dOp at hop
            rw [hod] at hop
            simp only at hop
            repeat' split at hop
            all_goals first
              | (cases hop; done)
              | (cases hop; exact hne _ _ rfl)
          | _ => rfl
        cases hop : dOp P (evalF s.h.ng s.fr) o s.h with
        | bad => rw [hop] at hx; exact hx.elim
        | pan v h1 =>
          rw [hop] at hx
          refine finp v h1 (hexd _ _ (by rw [hop]; exact ⟨rfl, rfl⟩)) ?_ hx
          cases hod : o.op with
          | defer c =>
            exfalso
            unfold dOp at hop
            rw [hod] at hop
            simp only at hop
            repeat' split at hop
            all_goals cases hop
          | _ => rfl
        | ok x h1 =>
          rw [hop] at hx
          cases x with
          | value v => exact fin v h1 (hexd _ _ (by rw [hop]; exact ⟨rfl, rfl⟩)) (hnd _ _ hop (by simp)) hx
          | skip => exact fin undef h1 (hexd _ _ (by rw [hop]; exact ⟨rfl, rfl⟩)) (hnd _ _ hop (by simp)) hx
          | enter f args =>
            obtain ⟨r0, h2, hdc, hx⟩ := hx
            have hex := hexd r0 h2 (by rw [hop]; exact hdc)
            cases r0 with
            | ret v => exact fin v h2 hex (hnd _ _ hop (by simp)) hx
            | pan v => exact finp v h2 hex (hnd _ _ hop (by simp)) hx
          | round l size tmps assign body =>
            obtain ⟨r0, h2, hdc, hx⟩ := hx
            have hex := hexd r0 h2 (by rw [hop]; exact hdc)
            cases r0 with
            | ret v => exact fin v h2 hex (hnd _ _ hop (by simp)) hx
            | pan v => exact finp v h2 hex (hnd _ _ hop (by simp)) hx
          | recover => exact hx.elim
          | pick l => exact hx.elim
          | defer f args =>
            obtain ⟨hrd, hx⟩ := hx
            have hr : r = none := by
              have := hs.rd
              rw [hrd] at this
              cases r with
              | none => rfl
              | some _ => exact this.elim
            subst hr
            unfold wpOpIn
            rw [ho]
            have hw' := wanted_rel hs.fr.1 (dstsOK_spec hd) (fun t _ u hu => hs.fr.2 t u hu) hw
            simp only [hw', if_true]
            refine ⟨fun _ _ => trivial, ?_⟩
            have hsem : o.semAt (FW none).round a.eval = execOp a.eval o := rfl
            rw [hsem]
            obtain ⟨ι1, w1, x', hrun, hn, s1, st⟩ := dOp_ok hop hs.sim (evalF_rel (P := P) hs.sim (a := a) (ops := ops) (fun t _ u hu => hs.fr.2 t u hu))
            rw [hrun]
            cases x' with
            | defer d =>
              rw [Oper.uponIn_defer]
              obtain ⟨hg, cap, dargs, rfl, hargs⟩ := hn
              refine hK ι1 _ _ w1 hx (dOp_hstep hop) ⟨?_, ?_, s1, hs.rd.mono st.le⟩ st
              · exact put_rel (r := none) (w := w) (a := { a with defers := { target := .fn (.func f) cap, args := dargs } :: a.defers }) (hs.fr.mono st.le) hdo (undef_rel _)
              · rw [put_defers]
                exact ⟨⟨cap, dargs, rfl, hargs⟩, hs.df.mono st.le⟩
            | _ => exact hn.elim
  unfold NOne at h
  cases hw : dWanted ops s.fr o with
  | none => rw [hw] at h; exact h.elim
  | some b =>
    rw [hw] at h
    cases b with
    | false => exact one (by simp only [XOps, hw]; exact h)
    | true =>
      simp only at h
      by_cases hpk : ∃ l h1, dOp P (evalF s.h.ng s.fr) o s.h = .ok (.pick l) h1
      · obtain ⟨l, h1, hop⟩ := hpk
        rw [hop] at h
        obtain ⟨y, v, _, _, hnx⟩ := dOp_isPick hop
        refine pick_sound hw hop ho hs.sim hs.fr.1 (dstsOK_spec hd) (fun t _ u hu => hs.fr.2 t u hu) fun p hp v' w' hv s1 st => ?_
        exact hK ι _ _ w' (h p hp) ((dNext_h hnx).2 p hp) ⟨put_rel (r := r) (w := w) hs.fr hdo hv, by rw [put_defers]; exact hs.df, s1, hs.rd⟩ st
      by_cases hent : ∃ f args h1, dOp P (evalF s.h.ng s.fr) o s.h = .ok (.enter f args) h1
      · obtain ⟨f, args, h1, hop⟩ := hent
        rw [hop] at h
        obtain ⟨R, hct, hall⟩ := h
        have hnd : isDefer o.op = false := by
          cases hod : o.op with
          | defer c =>
            exfalso
            unfold dOp at hop
            rw [hod] at hop
            simp only at hop
            repeat' split at hop
            all_goals cases hop
          | _ => rfl
        unfold wpOpIn
        rw [ho]
        have hw' := wanted_rel hs.fr.1 (dstsOK_spec hd) (fun t _ u hu => hs.fr.2 t u hu) hw
        simp only [hw', if_true]
        refine ⟨fun _ _ => trivial, ?_⟩
        have hsem : o.semAt (FW r).round a.eval = execOp a.eval o := Oper.semAt_eq _ _ _ fun c hc => by rw [hc] at hnd; cases hnd
        rw [hsem]
        obtain ⟨ι1, w1, x', hrun, hn, s1, st⟩ := dOp_ok hop hs.sim (evalF_rel (P := P) hs.sim (a := a) (ops := ops) (fun t _ u hu => hs.fr.2 t u hu))
        rw [hrun]
        cases x' with
        | enter f' args' =>
          obtain ⟨rfl, hargs, _⟩ := hn
          rw [Oper.uponIn_enter]
          refine ⟨fun hh => absurd hh (by simp [FW]), ?_⟩
          have hc : CallsIn (FW r) (n - 1) P f' args' w1 fun e w' => ∃ ι' r h', R r h' ∧ HStep h1 h' ∧ EndRel ι' r e ∧ Sim ι' h' w' ∧ Step ι1 ι' h1 h' w1 w' := hct (n - 1) ι1 w1 args' s1 hargs
          refine CallsIn.mono hc fun e w2 ⟨ι2, r2, h2, hR, hh2, he, s2, st2⟩ => ?_
          have hx := hall r2 h2 hR
          cases r2 with
          | ret v =>
            cases e with
            | returned v' =>
              exact hK ι2 _ _ w2 hx ((dOp_hstep hop).trans hh2) ⟨put_rel (r := r) (w := w) ((hs.fr.mono st.le).mono st2.le) hdo he, by rw [put_defers]; exact (hs.df.mono st.le).mono st2.le, s2, (hs.rd.mono st.le).mono st2.le⟩ (st.trans st2)
            | _ => exact he.elim
          | pan v =>
            cases e with
            | panicked ch =>
              obtain ⟨v', rfl, hv⟩ := he
              exact hQ ι2 _ ⟨s.fr, s.df, h2, s.rd⟩ _ a w2 hx ((dOp_hstep hop).trans hh2) ⟨v', rfl, hv⟩ ⟨(hs.fr.mono st.le).mono st2.le, (hs.df.mono st.le).mono st2.le, s2, (hs.rd.mono st.le).mono st2.le⟩ (st.trans st2)
            | _ => exact he.elim
        | _ => exact hn.elim
      · by_cases hrnd : ∃ l size tmps x y h1, dOp P (evalF s.h.ng s.fr) o s.h = .ok (.round l size tmps x y) h1
        · obtain ⟨lid, size, tmps, cx, cy, h1, hop⟩ := hrnd
          rw [hop] at h
          obtain ⟨R, hct, hall⟩ := h
          have hnd : isDefer o.op = false := by
            cases hod : o.op with
            | defer c =>
              exfalso
              unfold dOp at hop
              rw [hod] at hop
              simp only at hop
              repeat' split at hop
              all_goals cases hop
            | _ => rfl
          unfold wpOpIn
          rw [ho]
          have hw' := wanted_rel hs.fr.1 (dstsOK_spec hd) (fun t _ u hu => hs.fr.2 t u hu) hw
          simp only [hw', if_true]
          refine ⟨fun _ _ => trivial, ?_⟩
          have hsem : o.semAt (FW r).round a.eval = execOp a.eval o := Oper.semAt_eq _ _ _ fun c hc => by rw [hc] at hnd; cases hnd
          rw [hsem]
          obtain ⟨ι1, w1, x', hrun, hn, s1, st⟩ := dOp_ok hop hs.sim (evalF_rel (P := P) hs.sim (a := a) (ops := ops) (fun t _ u hu => hs.fr.2 t u hu))
          rw [hrun]
          cases x' with
          | round l' f' tmps' assign' body' =>
            obtain ⟨⟨e0, he0, hsh, rfl⟩, hargs, rfl, rfl⟩ := hn
            rw [Oper.uponIn_round]
            refine ⟨fun hh => absurd hh (by simp [FW]), ?_⟩
            have hc : RoundIn (FW r) (n - 1) P e0.block f' tmps' assign' body' w1 fun e w' => ∃ ι' r h', R r h' ∧ HStep h1 h' ∧ EndRel ι' r e ∧ Sim ι' h' w' ∧ Step ι1 ι' h1 h' w1 w' := hct (n - 1) ι1 w1 tmps' e0 f' s1 he0 hsh hargs
            refine RoundIn.mono hc fun e w2 ⟨ι2, r2, h2, hR, hh2, he, s2, st2⟩ => ?_
            have hx := hall r2 h2 hR
            cases r2 with
            | ret v =>
              cases e with
              | returned v' =>
                exact hK ι2 _ _ w2 hx ((dOp_hstep hop).trans hh2) ⟨put_rel (r := r) (w := w) ((hs.fr.mono st.le).mono st2.le) hdo he, by rw [put_defers]; exact (hs.df.mono st.le).mono st2.le, s2, (hs.rd.mono st.le).mono st2.le⟩ (st.trans st2)
              | _ => exact he.elim
            | pan v =>
              cases e with
              | panicked ch =>
                obtain ⟨v', rfl, hv⟩ := he
                exact hQ ι2 _ ⟨s.fr, s.df, h2, s.rd⟩ _ a w2 hx ((dOp_hstep hop).trans hh2) ⟨v', rfl, hv⟩ ⟨(hs.fr.mono st.le).mono st2.le, (hs.df.mono st.le).mono st2.le, s2, (hs.rd.mono st.le).mono st2.le⟩ (st.trans st2)
              | _ => exact he.elim
          | _ => exact hn.elim
        · refine one ?_
          simp only [XOps, hw]
          generalize hop : dOp P (evalF s.h.ng s.fr) o s.h = x at h hent hrnd hpk
          cases x with
          | ok y h1 =>
            cases y with
            | enter f args => exact absurd ⟨f, args, h1, rfl⟩ hent
            | value v => exact h
            | skip => exact h
            | defer f gs => exact h
            | round l z t a b => exact absurd ⟨l, z, t, a, b, h1, rfl⟩ hrnd
            | recover => exact h
            | pick l => exact absurd ⟨l, h1, rfl⟩ hpk
          | pan v h1 => exact h
          | bad => exact h

/-- a region in any order: what holds when some operations have been done, whichever -/
theorem NC.any {id : Nat} {ops : Array Oper} {Q : DExit → St → Prop} {s : St} (hmix : P.follows .mixedOrders = true) (hd : dstsOK nt ops = true)
    (hlow : ∀ (i : Nat) o, ops[i]? = some o → ∀ p ∈ preds o, p < i)
    (I : (Nat → Bool) → St → Prop) (h0 : I (fun _ => false) s)
    (hstep : ∀ (L : Nat → Bool) (s : St) (i : Nat) (o : Oper), I L s → ops[i]? = some o → L i = false → (∀ p ∈ preds o, L p = true) → NOne P ops o s (I fun j => if j = i then true else L j) Q)
    (hfin : ∀ (L : Nat → Bool) (s : St), I L s → (∀ i, i < ops.size → L i = true) → Q .normal s) : NC P nt (.region id ops true) Q s := by
  intro n r ι0 a0 w0 hs0
  refine wpIn_region_any hmix ?_
  have key : ∀ (fuel : Nat) (L : Array Bool) (s' : St) (ι : Inj) (a : Act) (w : World), unwaited L ops.size ≤ fuel → L.size = ops.size → I (fun j => L.getD j false) s' → HStep s.h s'.h → SRel nt ι s' r a w → Step ι0 ι s.h s'.h w0 w →
      wpAnyIn (FW r) n P .any ops (fun ex a' w' => ∃ ι' e s', Q e s' ∧ HStep s.h s'.h ∧ ExitRel ι' e ex ∧ SRel nt ι' s' r a' w' ∧ Step ι0 ι' s.h s'.h w0 w') fuel L a w := by
    have fin : ∀ (L : Array Bool) (s' : St) (ι : Inj) (a : Act) (w : World), L.size = ops.size → I (fun j => L.getD j false) s' → HStep s.h s'.h → SRel nt ι s' r a w → Step ι0 ι s.h s'.h w0 w → Region.ready .any ops L = [] →
        ∃ ι' e s', Q e s' ∧ HStep s.h s'.h ∧ ExitRel ι' e .normal ∧ SRel nt ι' s' r a w ∧ Step ι0 ι' s.h s'.h w0 w := by
      intro L s' ι a w hL hI hh hs hst hr
      have hfull : ∀ i, i < ops.size → L.getD i false = true := by
        intro i
        induction i using Nat.strongRecOn with
        | _ i ih =>
          intro hi
          cases hLi : L.getD i false with
          | true => rfl
          | false =>
            exfalso
            have : i ∈ Region.ready .any ops L := mem_ready.2 ⟨by rw [getD_ft (by rw [hL]; exact hi)]; exact hLi, ops[i], Array.getElem?_eq_getElem hi, fun e he hb => ?_⟩
            · rw [hr] at this; cases this
            · have hpm : e.on ∈ preds ops[i] := List.mem_filterMap.2 ⟨e, by simpa using he, by rw [if_pos hb]⟩
              have hlt := hlow i _ (Array.getElem?_eq_getElem hi) _ hpm
              exact ih e.on hlt (by omega)
      exact ⟨ι, .normal, s', hfin _ _ hI hfull, hh, trivial, hs, hst⟩
    intro fuel
    induction fuel with
    | zero =>
      intro L s' ι a w hu hL hI hh hs hst
      have hr : Region.ready .any ops L = [] := by
        rw [List.eq_nil_iff_forall_not_mem]
        intro i hi
        obtain ⟨h1, o, h2, _⟩ := mem_ready.1 hi
        have := unwaited_zero (l := L) ops.size (by omega) i (Array.getElem?_eq_some_iff.1 h2).1
        rw [h1] at this; cases this
      exact ⟨hr, fin L s' ι a w hL hI hh hs hst hr⟩
    | succ fuel ih =>
      intro L s' ι a w hu hL hI hh hs hst
      refine ⟨fin L s' ι a w hL hI hh hs hst, fun i hi => ?_⟩
      obtain ⟨h1, o, ho, h2⟩ := mem_ready.1 hi
      have his : i < ops.size := (Array.getElem?_eq_some_iff.1 ho).1
      have hiL : i < L.size := by rw [hL]; exact his
      have hn : L.getD i false = false := by rw [← getD_ft hiL]; exact h1
      have hp : ∀ p ∈ preds o, L.getD p false = true := by
        intro p hp
        obtain ⟨e, he, hh⟩ := List.mem_filterMap.1 hp
        split at hh
        · rename_i hb; cases hh; exact h2 e (by simpa using he) hb
        · cases hh
      have hun := unwaited_set hiL h1 ops.size
      rw [if_pos his] at hun
      refine NOne_sound hd ho (hstep _ s' i o hI ho hn hp) hs (fun ι' s2 a' w' hI2 g1 g2 g3 => ?_) (fun ι' e s2 ex a' w' hq g1 g2 g3 g4 => ⟨ι', e, s2, hq, hh.trans g1, g2, g3, hst.trans g4⟩)
      refine ih _ s2 ι' a' w' (by omega) (by simpa using hL) ?_ (hh.trans g1) g2 (hst.trans g3)
      have : (fun j => (L.setIfInBounds i true).getD j false) = fun j => if j = i then true else L.getD j false := by
        funext j
        exact getD_set_b hiL
      rw [this]
      exact hI2
  have hg : ∀ j, (Array.replicate ops.size false).getD j false = false := by
    intro j; simp only [Array.getD_eq_getD_getElem?, Array.getElem?_replicate]; split <;> rfl
  refine key ops.size _ s ι0 a0 _ ?_ (by simp) ?_ (.refl _) ⟨hs0.fr, hs0.df, hs0.sim.drew _, hs0.rd⟩ (Step.drew ι0 s.h w0 _ (Nat.le_succ _))
  · have : ∀ k, k ≤ ops.size → unwaited (Array.replicate ops.size false) k ≤ k := by
      intro k; induction k with
      | zero => intro _; exact Nat.le_refl _
      | succ k ih => intro hk; have := ih (Nat.le_of_lt hk); simp only [unwaited]; split <;> omega
    exact this _ (Nat.le_refl _)
  · have : (fun j => (Array.replicate ops.size false).getD j false) = fun _ => false := by funext j; exact hg j
    rw [this]
    exact h0
def lowOK (ops : Array Oper) : Bool := (List.range ops.size).all fun i => match ops[i]? with | some o => (preds o).all (fun p => decide (p < i)) | none => true
theorem lowOK_spec {ops : Array Oper} (h : lowOK ops = true) : ∀ (i : Nat) o, ops[i]? = some o → ∀ p ∈ preds o, p < i := by
  intro i o ho p hp
  have hi := (Array.getElem?_eq_some_iff.1 ho).1
  have := List.all_eq_true.1 h i (List.mem_range.2 hi)
  rw [ho] at this
  simpa using List.all_eq_true.1 this p hp
/-- a region in any order: a fact for each operation that has been done, and what holds always. 'b' is what comes before each operation in every order. -/
theorem NC.anyF {id : Nat} {ops : Array Oper} {b : List Nat} {Q : DExit → St → Prop} {s : St} (hmix : P.follows .mixedOrders = true) (hd : dstsOK nt ops = true) (hlow : lowOK ops = true) (hb : befs ops.toList [] = b)
    (G : St → Prop) (F : Nat → St → Prop) (h0 : G s)
    (hstep : ∀ (i : Nat) (o : Oper) (s : St), ops[i]? = some o → G s → (∀ j, (b.getD i 0).testBit j = true → F j s) →
      NOne P ops o s (fun s' => G s' ∧ F i s' ∧ ∀ j, j < ops.size → j ≠ i → (b.getD j 0).testBit i = false → F j s → F j s') Q)
    (hfin : ∀ s, G s → (∀ i, i < ops.size → F i s) → Q .normal s) : NC P nt (.region id ops true) Q s := by
  subst hb
  refine NC.any hmix hd (lowOK_spec hlow) (fun L s => G s ∧ (∀ i, L i = true → i < ops.size) ∧ (∀ (i : Nat) o, L i = true → ops[i]? = some o → ∀ p ∈ preds o, L p = true) ∧ ∀ i, L i = true → F i s) ⟨h0, by simp, by simp, by simp⟩ ?_ (fun L s hI hall => hfin s hI.1 fun i hi => hI.2.2.2 i (hall i hi))
  rintro L s i o ⟨hG, hsz, hdn, hF⟩ ho hn hp
  have hi := (Array.getElem?_eq_some_iff.1 ho).1
  have hcl : ∀ (k : Nat) o, ops[k]? = some o → (∀ p ∈ preds o, L p = true) → ∀ j, ((befs ops.toList []).getD k 0).testBit j = true → L j = true := fun k o ho hp j hj =>
    bef_closed (D := fun j => L j = true) (fun i o hi ho p hp => hdn i o hi ho p hp) k o ho hp j hj
  have hx := hstep i o s ho hG fun j hj => hF j (hcl i o ho hp j hj)
  have fin : ∀ s', (G s' ∧ F i s' ∧ ∀ j, j < ops.size → j ≠ i → ((befs ops.toList []).getD j 0).testBit i = false → F j s → F j s') →
      (G s' ∧ (∀ j, (if j = i then true else L j) = true → j < ops.size) ∧ (∀ (j : Nat) o, (if j = i then true else L j) = true → ops[j]? = some o → ∀ p ∈ preds o, (if p = i then true else L p) = true) ∧ ∀ j, (if j = i then true else L j) = true → F j s') := by
    rintro s' ⟨g, f, st⟩
    refine ⟨g, fun j hj => ?_, fun j oj hj hoj p hpm => ?_, fun j hj => ?_⟩
    · by_cases hji : j = i
      · rw [hji]; exact hi
      · rw [if_neg hji] at hj; exact hsz j hj
    · by_cases hpi : p = i
      · rw [if_pos hpi]
      · rw [if_neg hpi]
        by_cases hji : j = i
        · subst hji; rw [ho] at hoj; cases hoj; exact hp p hpm
        · rw [if_neg hji] at hj; exact hdn j oj hj hoj p hpm
    · by_cases hji : j = i
      · rw [hji]; exact f
      · rw [if_neg hji] at hj
        refine st j (hsz j hj) hji ?_ (hF j hj)
        cases hbit : ((befs ops.toList []).getD j 0).testBit i with
        | false => rfl
        | true =>
          have hjs := hsz j hj
          have hoj := Array.getElem?_eq_getElem hjs
          have := hcl j _ hoj (hdn j _ hj hoj) i hbit
          rw [hn] at this
          cases this
  unfold NOne at hx ⊢
  cases hw : dWanted ops s.fr o with
  | none => rw [hw] at hx; exact hx.elim
  | some bb =>
    rw [hw] at hx
    cases bb with
    | false => exact fin _ hx
    | true => exact NNext_mono fin (fun _ _ h => h) hx
section
variable {ops : Array Oper} {o : Oper} {s : St} {K : St → Prop} {Q : DExit → St → Prop} {v : Value} {h' : DHeap}
end
theorem NOne_strip (ops : Array Oper) (o : Oper) (s : St) (K : St → Prop) (Q : DExit → St → Prop) : NOne P (ops.map stripO) (stripO o) s K Q = NOne P ops o s K Q := by
  unfold NOne
  rw [dWanted_strip, dOp_strip]
  rfl
/-- the same, without the places -/
theorem NC.anyL {id : Nat} {ops : Array Oper} {l : List Oper} {b : List Nat} {Q : DExit → St → Prop} {s : St} (hmix : P.follows .mixedOrders = true) (hd : dstsOK nt ops = true) (hlow : lowOK ops = true) (hb : befs ops.toList [] = b) (hl : ops.map stripO = l.toArray)
    (G : St → Prop) (F : Nat → St → Prop) (h0 : G s)
    (hstep : ∀ (i : Nat) (o : Oper) (s : St), l[i]? = some o → G s → (∀ j, (b.getD i 0).testBit j = true → F j s) →
      NOne P l.toArray o s (fun s' => G s' ∧ F i s' ∧ ∀ j, j < l.length → j ≠ i → (b.getD j 0).testBit i = false → F j s → F j s') Q)
    (hfin : ∀ s, G s → (∀ i, i < l.length → F i s) → Q .normal s) : NC P nt (.region id ops true) Q s := by
  have hsz : ops.size = l.length := by
    have := congrArg Array.size hl
    simpa using this
  refine NC.anyF hmix hd hlow hb G F h0 (fun i o s ho g hF => ?_) (fun s g hF => hfin s g fun i hi => hF i (by omega))
  have ho' : l[i]? = some (stripO o) := by
    have := congrArg (fun a : Array Oper => a[i]?) hl
    simp only [Array.getElem?_map, ho, Option.map_some] at this
    simpa using this.symm
  have := hstep i (stripO o) s ho' g hF
  rw [← hl, NOne_strip] at this
  rw [hsz]
  exact this
end Go.D

namespace Go.D
variable {P : Program}

end Go.D

namespace Go.D
variable {P : Program} {nt : Nat}

def dstOf (l : List Oper) (i : Nat) : Option Tmp := (l[i]?).bind (·.dst)
def isDst (l : List Oper) (t : Tmp) : Bool := l.any fun o => o.dst == some t
/-- each operation has a name of its own -/
def ownDsts : List Oper → Bool
  | [] => true
  | o :: l => o.dst.isSome && !(l.any fun p => p.dst == o.dst) && ownDsts l
theorem ownDsts_ne : ∀ {l : List Oper}, ownDsts l = true → ∀ {i j : Nat} {a b : Oper}, l[i]? = some a → l[j]? = some b → i ≠ j → a.dst ≠ b.dst
  | [], _, i, _, _, _, h, _, _ => by cases i <;> cases h
  | o :: l, hd, i, j, a, b, ha, hb, hij => by
    simp only [ownDsts, Bool.and_eq_true, Bool.not_eq_true'] at hd
    obtain ⟨⟨h1, h2⟩, h3⟩ := hd
    have hno : ∀ {k : Nat} {c : Oper}, l[k]? = some c → c.dst ≠ o.dst := fun {k c} hc hcd => by
      have := List.any_eq_false.1 h2 c (List.mem_of_getElem? hc)
      simp [hcd] at this
    match i, j with
    | 0, 0 => exact absurd rfl hij
    | 0, j + 1 => cases ha; exact fun e => hno (by simpa using hb) e.symm
    | i + 1, 0 => cases hb; exact hno (by simpa using ha)
    | i + 1, j + 1 => exact ownDsts_ne h3 (i := i) (j := j) (by simpa using ha) (by simpa using hb) (by omega)
theorem ownDsts_some : ∀ {l : List Oper}, ownDsts l = true → ∀ {i : Nat} {a : Oper}, l[i]? = some a → ∃ d, a.dst = some d
  | [], _, i, _, h => by cases i <;> cases h
  | o :: l, hd, i, a, ha => by
    simp only [ownDsts, Bool.and_eq_true, Bool.not_eq_true'] at hd
    match i with
    | 0 => cases ha; exact Option.isSome_iff_exists.1 hd.1.1
    | i + 1 => exact ownDsts_some hd.2 (by simpa using ha)
/-- what holds of an operation's value -/
def ValAt (l : List Oper) (V : Nat → DHeap → Value → Prop) (i : Nat) (s : St) : Prop := ∃ d v, dstOf l i = some d ∧ s.fr d = some v ∧ V i s.h v
/-- what holds always -/
structure ValG (l : List Oper) (s0 s : St) : Prop where
  df : s.df = s0.df
  rd : s.rd = s0.rd
  ext : Ext s0.h s.h
  fr : ∀ t, isDst l t = false → s.fr t = s0.fr t
/-- the end of one operation -/
def ValK (V : Nat → DHeap → Value → Prop) (i : Nat) (o : Oper) (s s' : St) : Prop := ∃ v h', s' = ⟨s.fr.put o.dst v, s.df, h', s.rd⟩ ∧ Ext s.h h' ∧ V i h' v
theorem NC.vals {id : Nat} {ops : Array Oper} {l : List Oper} {b : List Nat} {Q : DExit → St → Prop} {s0 : St} (hmix : P.follows .mixedOrders = true) (hd : dstsOK nt ops = true) (hlow : lowOK ops = true) (hb : befs ops.toList [] = b) (hl : ops.map stripO = l.toArray) (hown : ownDsts l = true)
    (V : Nat → DHeap → Value → Prop) (hmono : ∀ i h h' v, Ext h h' → V i h v → V i h' v)
    (hstep : ∀ (i : Nat) (o : Oper) (s : St), l[i]? = some o → ValG l s0 s → (∀ j, (b.getD i 0).testBit j = true → ValAt l V j s) → NOne P l.toArray o s (ValK V i o s) Q)
    (hfin : ∀ s, ValG l s0 s → (∀ i, i < l.length → ValAt l V i s) → Q .normal s) : NC P nt (.region id ops true) Q s0 := by
  refine NC.anyL hmix hd hlow hb hl (ValG l s0) (ValAt l V) ⟨rfl, rfl, .refl _, fun _ _ => rfl⟩ (fun i o s ho g hF => ?_) hfin
  obtain ⟨d, hod⟩ := ownDsts_some hown ho
  have fin : ∀ s', ValK V i o s s' → ValG l s0 s' ∧ ValAt l V i s' ∧ ∀ j, j < l.length → j ≠ i → (b.getD j 0).testBit i = false → ValAt l V j s → ValAt l V j s' := by
    rintro _ ⟨v, h', rfl, he, hv⟩
    refine ⟨⟨g.df, g.rd, g.ext.trans he, fun t ht => ?_⟩, ⟨d, v, by simp [dstOf, ho, hod], by rw [hod]; exact put_same _ _ _, hv⟩, fun j hj hji _ hf => ?_⟩
    · have : t ≠ d := fun e => by
        have hc : isDst l t = true := List.any_eq_true.2 ⟨o, List.mem_of_getElem? ho, by rw [hod, e]; simp⟩
        rw [ht] at hc; cases hc
      show s.fr.put o.dst v t = _
      rw [hod, put_other _ _ this]
      exact g.fr t ht
    · obtain ⟨dj, u, e1, e2, e3⟩ := hf
      have hoj : l[j]? = some l[j] := List.getElem?_eq_getElem hj
      have e1' : l[j].dst = some dj := by simpa [dstOf, hoj] using e1
      have : dj ≠ d := fun e => ownDsts_ne hown hoj ho hji (by rw [e1', hod, e])
      refine ⟨dj, u, e1, ?_, hmono _ _ _ _ he e3⟩
      show s.fr.put o.dst v dj = _
      rw [hod, put_other _ _ this]
      exact e2
  have hx := hstep i o s ho g hF
  unfold NOne at hx ⊢
  cases hw : dWanted l.toArray s.fr o with
  | none => rw [hw] at hx; exact hx.elim
  | some bb =>
    rw [hw] at hx
    cases bb with
    | false => exact fin _ hx
    | true => exact NNext_mono fin (fun _ _ h => h) hx
theorem ValAt.ex {l : List Oper} {V : Nat → DHeap → Value → Prop} {i : Nat} {s : St} {d : Tmp} (a : ValAt l V i s) (hd : dstOf l i = some d) : ∃ v, s.fr d = some v ∧ V i s.h v := by
  obtain ⟨d', v, e1, e2, e3⟩ := a
  rw [hd] at e1
  cases e1
  exact ⟨v, e2, e3⟩
section
variable {ops : Array Oper} {o : Oper} {s : St} {V : Nat → DHeap → Value → Prop} {i : Nat} {Q : DExit → St → Prop} {v : Value} {h' : DHeap}
end
/-- a region all of whose values are known -/
theorem NC.known {id : Nat} {ops : Array Oper} {l : List Oper} {b : List Nat} {Q : DExit → St → Prop} {s0 : St} (L : List Value) (hmix : P.follows .mixedOrders = true) (hd : dstsOK nt ops = true) (hlow : lowOK ops = true) (hb : befs ops.toList [] = b) (hl : ops.map stripO = l.toArray) (hown : ownDsts l = true)
    (hstep : ∀ (i : Nat) (o : Oper) (s : St), l[i]? = some o → ValG l s0 s → (∀ j, (b.getD i 0).testBit j = true → ValAt l (fun i _ v => v = L.getD i undef) j s) → NOne P l.toArray o s (ValK (fun i _ v => v = L.getD i undef) i o s) Q)
    (hfin : ∀ s, ValG l s0 s → (∀ i, i < l.length → ValAt l (fun i _ v => v = L.getD i undef) i s) → Q .normal s) : NC P nt (.region id ops true) Q s0 :=
  NC.vals hmix hd hlow hb hl hown _ (fun _ _ _ _ _ h => h) hstep hfin
theorem setAt_mid (A : List Value) : ∀ (vs B : List Value) (k : Nat), setAt (A ++ B) (A.length + k) vs = A ++ setAt B k vs
  | [], B, k => rfl
  | v :: vs, B, k => by
    simp only [setAt]
    rw [List.set_append_right _ _ (Nat.le_add_right _ _), Nat.add_sub_cancel_left, Nat.add_assoc]
    exact setAt_mid A vs (B.set k v) (k + 1)
end Go.D

namespace Go.D
variable {P : Program} {nt : Nat}

/-- each name is given once -/
def onceDsts : List Oper → Bool
  | [] => true
  | o :: l => (o.dst.isNone || !(l.any fun p => p.dst == o.dst)) && onceDsts l
theorem onceDsts_ne : ∀ {l : List Oper}, onceDsts l = true → ∀ {i j : Nat} {a b : Oper} {t : Tmp}, l[i]? = some a → l[j]? = some b → a.dst = some t → b.dst = some t → i = j
  | [], _, i, _, _, _, _, h, _, _, _ => by cases i <;> cases h
  | o :: l, hd, i, j, a, b, t, ha, hb, h1, h2 => by
    simp only [onceDsts, Bool.and_eq_true, Bool.or_eq_true, Bool.not_eq_true'] at hd
    obtain ⟨h3, h4⟩ := hd
    have hno : ∀ {k : Nat} {c : Oper}, l[k]? = some c → o.dst = some t → c.dst = some t → False := fun {k c} hc ho hct => by
      rcases h3 with h3 | h3
      · rw [ho] at h3; cases h3
      · have := List.any_eq_false.1 h3 c (List.mem_of_getElem? hc)
        simp [hct, ho] at this
    match i, j with
    | 0, 0 => rfl
    | 0, j + 1 => cases ha; exact (hno (by simpa using hb) h1 h2).elim
    | i + 1, 0 => cases hb; exact (hno (by simpa using ha) h2 h1).elim
    | i + 1, j + 1 => exact congrArg (· + 1) (onceDsts_ne h4 (i := i) (j := j) (by simpa using ha) (by simpa using hb) h1 h2)
/-- what holds of an operation that has been done -/
def RegAt (l : List Oper) (V : Nat → DHeap → Value → Prop) (i : Nat) (s : St) : Prop := ∃ v, (∀ d, dstOf l i = some d → s.fr d = some v) ∧ V i s.h v
theorem RegAt.ex {l : List Oper} {V : Nat → DHeap → Value → Prop} {i : Nat} {s : St} {d : Tmp} (a : RegAt l V i s) (hd : dstOf l i = some d) : ∃ v, s.fr d = some v ∧ V i s.h v := by
  obtain ⟨v, e2, e3⟩ := a
  exact ⟨v, e2 d hd, e3⟩
theorem RegAt.fact {l : List Oper} {V : Nat → DHeap → Value → Prop} {i : Nat} {s : St} (a : RegAt l V i s) : ∃ v, V i s.h v := by
  obtain ⟨v, _, e3⟩ := a
  exact ⟨v, e3⟩
section
variable {ops : Array Oper} {o : Oper} {s : St} {E : DHeap → DHeap → Prop} {V : Nat → DHeap → Value → Prop} {i : Nat} {Q : DExit → St → Prop} {v : Value} {h' : DHeap}
end
end Go.D

namespace Go.D

structure Instr where
  pos : Int
  op : Int
  a : Int
  b : Int
  imm : Int
  deriving DecidableEq, Inhabited
def fInstr : FRep Instr := fM (fP (fI .i64) (fP (fI .i64) (fP (fI .i64) (fP (fI .i64) (fI .i64))))) (fun x => (x.pos, x.op, x.a, x.b, x.imm)) fun x y h => by
  cases x; cases y; simp at h; simp [h]
/-- a transaction -/
structure Txn where
  ses : Int
  req : Int
  code : List Int
  args : List Int
  reads : List Key
  writes : List Key
end Go.D

namespace Go.D

end Go.D

namespace Go.D
variable {P : Program} {nt : Nat}

/-! an operation looks at its operands alone -/
theorem evalAll_congr {ρ ρ' : Operand → Option Value} : ∀ {l : List Operand}, (∀ y ∈ l, ρ y = ρ' y) → evalAll ρ l = evalAll ρ' l
  | [], _ => rfl
  | x :: l, h => by
    have ih := evalAll_congr (l := l) fun y hy => h y (List.mem_cons_of_mem _ hy)
    simp only [evalAll, h x List.mem_cons_self, ih]
theorem evalParts_congr {ρ ρ' : Operand → Option Value} : ∀ {l : List (Nat × Operand)}, (∀ y ∈ l.map (·.2), ρ y = ρ' y) → evalParts ρ l = evalParts ρ' l
  | [], _ => rfl
  | (i, x) :: l, h => by
    have ih := evalParts_congr (l := l) fun y hy => h y (List.mem_cons_of_mem _ hy)
    have hx : ρ x = ρ' x := h x List.mem_cons_self
    simp only [evalParts, hx, ih]
theorem evalOpt_congr {ρ ρ' : Operand → Option Value} {x : Option Operand} (h : ∀ y, x = some y → ρ y = ρ' y) : evalOpt ρ x = evalOpt ρ' x := by
  cases x with
  | none => rfl
  | some y => simp only [evalOpt, h y rfl]
theorem dOp_congr {ρ ρ' : Operand → Option Value} {o : Oper} {h : DHeap} (hr : ∀ y ∈ o.op.operands, ρ y = ρ' y) : dOp P ρ o h = dOp P ρ' o h := by
  obtain ⟨dst, op, ty, pos, aft, gd⟩ := o
  simp only at hr
  cases op with
  | makeFunc fn first cap =>
    have h1 : evalAll ρ first.toList = evalAll ρ' first.toList := evalAll_congr fun y hy => hr y (by simp only [Op.operands, Array.mem_append]; exact .inl (by simpa using hy))
    have h2 : evalAll ρ cap.toList = evalAll ρ' cap.toList := evalAll_congr fun y hy => hr y (by simp only [Op.operands, Array.mem_append]; exact .inr (by simpa using hy))
    simp only [dOp, h1, h2]
  | build t ps =>
    have h1 : evalParts ρ ps.toList = evalParts ρ' ps.toList := evalParts_congr fun y hy => hr y (by simpa [Op.operands] using hy)
    simp only [dOp, h1]
  | buildSlice t n ps =>
    have h1 : evalParts ρ ps.toList = evalParts ρ' ps.toList := evalParts_congr fun y hy => hr y (by simpa [Op.operands] using hy)
    simp only [dOp, h1]
  | slice t x lo hi mx =>
    have h0 : ρ x = ρ' x := hr x (by simp [Op.operands])
    have h1 : evalOpt ρ lo = evalOpt ρ' lo := evalOpt_congr fun y hy => hr y (by simp [Op.operands, hy])
    have h2 : evalOpt ρ hi = evalOpt ρ' hi := evalOpt_congr fun y hy => hr y (by simp [Op.operands, hy])
    have h3 : evalOpt ρ mx = evalOpt ρ' mx := evalOpt_congr fun y hy => hr y (by simp [Op.operands, hy])
    simp only [dOp, h0, h1, h2, h3]
  | call c =>
    obtain ⟨cal, args, ts⟩ := c
    have h1 : evalAll ρ args.toList = evalAll ρ' args.toList := evalAll_congr fun y hy => hr y (by simp only [Op.operands, Call.operands, Array.mem_append]; exact .inr (by simpa using hy))
    cases cal with
    | value f =>
      have h2 : ρ f = ρ' f := hr f (by simp [Op.operands, Call.operands])
      simp only [dOp, h1]
      generalize evalAll ρ' args.toList = x
      cases x with
      | none => rfl
      | some vs => simp only [h2]
    | builtin b =>
      simp only [dOp, h1]
      generalize evalAll ρ' args.toList = x
      rcases x with _ | _ | ⟨_, _ | ⟨_, _ | _⟩⟩ <;> cases b <;> rfl
    | _ =>
      simp only [dOp, h1]
  | defer c =>
    obtain ⟨cal, args, ts⟩ := c
    have h1 : evalAll ρ args.toList = evalAll ρ' args.toList := evalAll_congr fun y hy => hr y (by simp only [Op.operands, Call.operands, Array.mem_append]; exact .inr (by simpa using hy))
    cases cal with
    | value f =>
      have h2 : ρ f = ρ' f := hr f (by simp [Op.operands, Call.operands])
      simp only [dOp, h1]
      generalize evalAll ρ' args.toList = x
      cases x with
      | none => rfl
      | some vs => simp only [h2]
    | _ => simp only [dOp, h1]
  | makeMap t r => cases r <;> rfl
  | _ => first | rfl | (simp [Op.operands] at hr; simp only [dOp, hr])
theorem evalF_looks {ops : Array Oper} {o : Oper} {fr fr' : Fr} {n : Nat} (hl : ∀ t ∈ looks ops o, fr' t = fr t) : ∀ y ∈ o.op.operands, evalF n fr' y = evalF n fr y := by
  intro y hy
  cases y with
  | tmp t => exact hl t (List.mem_append_left _ (List.mem_filterMap.2 ⟨.tmp t, by simpa using hy, rfl⟩))
  | _ => rfl
theorem dOp_looks {ops : Array Oper} {o : Oper} {fr fr' : Fr} {n : Nat} {h : DHeap} (hl : ∀ t ∈ looks ops o, fr' t = fr t) : dOp P (evalF n fr') o h = dOp P (evalF n fr) o h := dOp_congr (evalF_looks hl)
theorem dWanted_looks {ops : Array Oper} {o : Oper} {fr fr' : Fr} (hl : ∀ t ∈ looks ops o, fr' t = fr t) : dWanted ops fr' o = dWanted ops fr o := by
  unfold dWanted
  cases hg : o.guard with
  | none => rfl
  | some g =>
    obtain ⟨j, want⟩ := g
    simp only
    cases hd : (ops[j]?).bind (·.dst) with
    | none => rfl
    | some d =>
      have : d ∈ looks ops o := List.mem_append_right _ (by rw [hg]; simp [hd])
      simp only [hl d this]

/-! a box that is made later than it is told -/
def lateπ (id0 n : Nat) : Nat → Option Nat := fun j => if j = id0 then some n else if j < n then some j else none
theorem late_sound {ops : Array Oper} (hd : dstsOK nt ops = true) {k : Nat} {o : Oper} (ho : ops[k]? = some o) {s : St} {zs : List Value} {z id0 : Nat} (hw : dWanted ops s.fr o = some true)
    (hop : dOp P (evalF s.h.ng s.fr) o s.h = .ok (.value (.pointer (some ⟨s.h.next, 0, none⟩))) (s.h.push (.row zs z false))) (hz : zs.all flat1 = true) (hg : s.h.get id0 = some (.row zs z false)) (h0 : id0 < s.h.next) (hdf : s.df = [])
    {n : Nat} {r : Option Nat} {ι : Inj} {a : Act} {w : World} {Qc : Exit → Act → World → Prop} {Kw : Act → World → Prop} (hs : SRel nt ι s r a w) (hu : ι id0 = none)
    (hK : ∀ ι1 a' w', SRel nt (ι1.via (lateπ id0 s.h.next)) ⟨s.fr.put o.dst (.pointer (some ⟨id0, 0, none⟩)), s.df, s.h, s.rd⟩ r a' w' → ι.le (ι1.via (lateπ id0 s.h.next)) → ι1 id0 = none → Step ι ι1 s.h (s.h.push (.row zs z false)) w w' → Kw a' w') : wpOpIn (FW r) n P ops Qc k Kw a w := by
  refine NOne_sound hd ho (K := fun s' => s' = ⟨s.fr.put o.dst (.pointer (some ⟨s.h.next, 0, none⟩)), s.df, s.h.push (.row zs z false), s.rd⟩) (Q := fun _ _ => False) ?_ hs (fun ι1 s' a' w' hs' _ sr st => ?_) (fun _ _ _ _ _ _ hq => hq.elim)
  · unfold NOne
    rw [hw, hop]
    rfl
  subst hs'
  have hπι : ∀ i e, ι i = some e → lateπ id0 s.h.next i = some i := fun i e he => by
    have h1 : i ≠ id0 := fun e2 => by rw [e2, hu] at he; cases he
    have h2 := hs.sim.lt i e he
    unfold lateπ
    rw [if_neg h1, if_pos h2]
  have hnone : ι1 id0 = none := by
    cases he : ι1 id0 with
    | none => rfl
    | some e =>
      have := (st.new id0 e he hu).1
      omega
  have hle : ι.le (ι1.via (lateπ id0 s.h.next)) := fun i e he => Inj.via_of (hπι i e he) (st.le i e he)
  have hself : VRen (lateπ id0 s.h.next) (.pointer (some ⟨id0, 0, none⟩)) (.pointer (some ⟨s.h.next, 0, none⟩)) := .ptr (by unfold lateπ; rw [if_pos rfl])
  refine hK ι1 a' w' ⟨⟨sr.fr.1, fun t u hu' => ?_⟩, ?_, ?_, hs.rd.mono hle⟩ hle hnone st
  · by_cases ht : o.dst = some t
    · have e1 : s.fr.put o.dst (.pointer (some ⟨id0, 0, none⟩)) t = some (.pointer (some ⟨id0, 0, none⟩)) := by rw [ht]; exact put_same _ _ _
      have hu3 := e1.symm.trans hu'
      cases hu3
      exact hself.rel (sr.fr.2 t _ (by show s.fr.put o.dst _ t = _; rw [ht]; exact put_same _ _ _))
    · have e1 : ∀ v, s.fr.put o.dst v t = s.fr t := fun v => by
        cases hod : o.dst with
        | none => rfl
        | some d => exact put_other _ _ (fun e => ht (by rw [hod, e]))
      have hu2 : s.fr t = some u := (e1 _).symm.trans hu'
      exact (VRel.ren_self hπι (hs.fr.2 t u hu2)).rel (sr.fr.2 t u ((e1 _).trans hu2))
  · have := sr.df
    simp only at this
    rw [hdf] at this
    show DefRel _ s.df _
    rw [hdf]
    cases hq : a'.defers with
    | nil => trivial
    | cons x xs => rw [hq] at this; exact this.elim
  · refine Sim.ren (h1 := s.h.push (.row zs z false)) ⟨fun j j' i h1 h2 => ?_, fun j i h1 => ?_, rfl, fun g hg' => ?_, fun j i o1 h1 h2 h3 => ?_⟩ sr.sim
    · unfold lateπ at h1 h2
      split at h1 <;> split at h2
      · rename_i a b; rw [a, b]
      · cases h1
        split at h2
        · cases h2; omega
        · cases h2
      · cases h2
        split at h1
        · cases h1; omega
        · cases h1
      · split at h1 <;> split at h2 <;> first | (cases h1; cases h2; rfl) | (cases h1; done) | (cases h2; done)
    · unfold lateπ at h1
      show j < s.h.next
      split at h1
      · omega
      · split at h1
        · assumption
        · cases h1
    · obtain ⟨e, he, _⟩ := hs.sim.glob g hg'
      exact hπι g e he
    · unfold lateπ at h1
      split at h1
      · rename_i hj
        cases h1
        rw [get_push_same] at h3
        cases h3
        refine ⟨.row zs z false, by rw [hj]; exact hg, rfl, rfl, Nat.le_refl _, fun i v u hv hu' => ?_⟩
        rw [hv] at hu'
        cases hu'
        exact flat1_ren _ (List.all_eq_true.1 hz v (List.mem_of_getElem? hv))
      · split at h1
        · rename_i hj hlt
          cases h1
          have h3' : s.h.get j = some o1 := (get_push_other _ _ (by omega)).symm.trans h3
          obtain ⟨e, he⟩ := h2
          cases hιj : ι j with
          | none =>
            have := (st.new j e he hιj).1
            omega
          | some e2 =>
            obtain ⟨o2, g2, r2⟩ := hs.sim.obj j e2 hιj
            rw [h3'] at g2
            cases g2
            exact ⟨o1, h3', r2.self hπι⟩
        · cases h1
/-- a region in any order; the boxes 'g' are there from the beginning, and made when their turn comes -/
theorem NC.any2 {id : Nat} {ops : Array Oper} {Q : DExit → St → Prop} {s : St} (hmix : P.follows .mixedOrders = true) (hd : dstsOK nt ops = true)
    (hlow : ∀ (i : Nat) o, ops[i]? = some o → ∀ p ∈ preds o, p < i) (g : Nat → Option Nat) (h1 : DHeap) (e1 : Ext s.h h1) (hg : ∀ i x, g i = some x → s.h.next ≤ x ∧ x < h1.next) (ginj : ∀ i j x, g i = some x → g j = some x → i = j)
    (I : (Nat → Bool) → St → Prop) (h0 : I (fun _ => false) ⟨s.fr, s.df, h1, s.rd⟩)
    (hstep : ∀ (L : Nat → Bool) (s' : St) (i : Nat) (o : Oper), I L s' → ops[i]? = some o → L i = false → (∀ p ∈ preds o, L p = true) →
      (g i = none ∧ NOne P ops o s' (fun s2 => HStep s'.h s2.h → I (fun j => if j = i then true else L j) s2) Q) ∨
      ∃ id0 zs z, g i = some id0 ∧ dWanted ops s'.fr o = some true ∧ dOp P (evalF s'.h.ng s'.fr) o s'.h = .ok (.value (.pointer (some ⟨s'.h.next, 0, none⟩))) (s'.h.push (.row zs z false)) ∧ zs.all flat1 = true ∧ s'.h.get id0 = some (.row zs z false) ∧ s'.df = [] ∧
        I (fun j => if j = i then true else L j) ⟨s'.fr.put o.dst (.pointer (some ⟨id0, 0, none⟩)), s'.df, s'.h, s'.rd⟩)
    (hfin : ∀ (L : Nat → Bool) (s : St), I L s → (∀ i, i < ops.size → L i = true) → Q .normal s) : NC P nt (.region id ops true) Q s := by
  intro n r ι0 a0 w0 hs0
  refine wpIn_region_any hmix ?_
  have key : ∀ (fuel : Nat) (L : Array Bool) (s' : St) (ι : Inj) (a : Act) (w : World), unwaited L ops.size ≤ fuel → L.size = ops.size → I (fun j => L.getD j false) s' → HStep h1 s'.h → (∀ i x, g i = some x → L.getD i false = false → ι x = none) → SRel nt ι s' r a w → Step ι0 ι s.h s'.h w0 w →
      wpAnyIn (FW r) n P .any ops (fun ex a' w' => ∃ ι' e s', Q e s' ∧ HStep s.h s'.h ∧ ExitRel ι' e ex ∧ SRel nt ι' s' r a' w' ∧ Step ι0 ι' s.h s'.h w0 w') fuel L a w := by
    have hh1 : HStep s.h h1 := ⟨e1.next, e1.ng⟩
    have fin : ∀ (L : Array Bool) (s' : St) (ι : Inj) (a : Act) (w : World), L.size = ops.size → I (fun j => L.getD j false) s' → HStep h1 s'.h → SRel nt ι s' r a w → Step ι0 ι s.h s'.h w0 w → Region.ready .any ops L = [] →
        ∃ ι' e s', Q e s' ∧ HStep s.h s'.h ∧ ExitRel ι' e .normal ∧ SRel nt ι' s' r a w ∧ Step ι0 ι' s.h s'.h w0 w := by
      intro L s' ι a w hL hI hh hs hst hr
      have hfull : ∀ i, i < ops.size → L.getD i false = true := by
        intro i
        induction i using Nat.strongRecOn with
        | _ i ih =>
          intro hi
          cases hLi : L.getD i false with
          | true => rfl
          | false =>
            exfalso
            have : i ∈ Region.ready .any ops L := mem_ready.2 ⟨by rw [getD_ft (by rw [hL]; exact hi)]; exact hLi, ops[i], Array.getElem?_eq_getElem hi, fun e he hb => ?_⟩
            · rw [hr] at this; cases this
            · have hpm : e.on ∈ preds ops[i] := List.mem_filterMap.2 ⟨e, by simpa using he, by rw [if_pos hb]⟩
              have hlt := hlow i _ (Array.getElem?_eq_getElem hi) _ hpm
              exact ih e.on hlt (by omega)
      exact ⟨ι, .normal, s', hfin _ _ hI hfull, hh1.trans hh, trivial, hs, hst⟩
    intro fuel
    induction fuel with
    | zero =>
      intro L s' ι a w hu hL hI hh hU hs hst
      have hr : Region.ready .any ops L = [] := by
        rw [List.eq_nil_iff_forall_not_mem]
        intro i hi
        obtain ⟨h1, o, h2, _⟩ := mem_ready.1 hi
        have := unwaited_zero (l := L) ops.size (by omega) i (Array.getElem?_eq_some_iff.1 h2).1
        rw [h1] at this; cases this
      exact ⟨hr, fin L s' ι a w hL hI hh hs hst hr⟩
    | succ fuel ih =>
      intro L s' ι a w hu hL hI hh hU hs hst
      refine ⟨fin L s' ι a w hL hI hh hs hst, fun i hi => ?_⟩
      obtain ⟨h1', o, ho, h2⟩ := mem_ready.1 hi
      have his : i < ops.size := (Array.getElem?_eq_some_iff.1 ho).1
      have hiL : i < L.size := by rw [hL]; exact his
      have hn : L.getD i false = false := by rw [← getD_ft hiL]; exact h1'
      have hp : ∀ p ∈ preds o, L.getD p false = true := by
        intro p hp
        obtain ⟨e, he, hh⟩ := List.mem_filterMap.1 hp
        split at hh
        · rename_i hb; cases hh; exact h2 e (by simpa using he) hb
        · cases hh
      have hun := unwaited_set hiL h1' ops.size
      rw [if_pos his] at hun
      have hset : (fun j => (L.setIfInBounds i true).getD j false) = fun j => if j = i then true else L.getD j false := by
        funext j
        exact getD_set_b hiL
      have hsj : ∀ j, (L.setIfInBounds i true).getD j false = if j = i then true else L.getD j false := fun j => getD_set_b hiL
      rcases hstep _ s' i o hI ho hn hp with ⟨hgi, hone⟩ | ⟨id0, zs, z, hgi, hw, hop, hz, hget, hdf, hI2⟩
      · refine NOne_sound hd ho hone hs (fun ι' s2 a' w' hI2 g1 g2 g3 => ?_) (fun ι' e s2 ex a' w' hq g1 g2 g3 g4 => ⟨ι', e, s2, hq, (hh1.trans hh).trans g1, g2, g3, hst.trans g4⟩)
        refine ih _ s2 ι' a' w' (by omega) (by simpa using hL) (by rw [hset]; exact hI2 g1) (hh.trans g1) (fun j x hj hLj => ?_) g2 (hst.trans g3)
        rw [hsj] at hLj
        by_cases hji : j = i
        · rw [if_pos hji] at hLj; cases hLj
        · rw [if_neg hji] at hLj
          have h4 := hU j x hj hLj
          cases h5 : ι' x with
          | none => rfl
          | some e =>
            have := (g3.new x e h5 h4).1
            have := (hg j x hj).2
            have := hh.next
            omega
      · have hlt : id0 < s'.h.next := Nat.lt_of_lt_of_le (hg i id0 hgi).2 hh.next
        refine late_sound hd ho hw hop hz hget hlt hdf hs (hU i id0 hgi hn) fun ι1 a' w' sr hle hnone st => ?_
        have st2 := hst.trans st
        have h0n : ι0 s'.h.next = none := by
          cases h5 : ι0 s'.h.next with
          | none => rfl
          | some e =>
            have := hs0.sim.lt _ e h5
            have := hst.next
            omega
        refine ih _ ⟨s'.fr.put o.dst (.pointer (some ⟨id0, 0, none⟩)), s'.df, s'.h, s'.rd⟩ _ a' w' (by omega) (by simpa using hL) (by rw [hset]; exact hI2) hh (fun j x hj hLj => ?_) sr ⟨Inj.le_trans hst.le hle, fun x e hx1 hx2 => ?_, hst.next, hst.ng, st2.os, st2.tape, st2.output, st2.size, st2.frame, st2.drawn⟩
        · rw [hsj] at hLj
          by_cases hji : j = i
          · rw [if_pos hji] at hLj; cases hLj
          · rw [if_neg hji] at hLj
            have h4 := hU j x hj hLj
            have hx0 : x ≠ id0 := fun e => hji (ginj j i id0 (by rw [← e]; exact hj) hgi)
            have hxl : x < s'.h.next := Nat.lt_of_lt_of_le (hg j x hj).2 hh.next
            have h6 : lateπ id0 s'.h.next x = some x := by
              unfold lateπ
              rw [if_neg hx0, if_pos hxl]
            show (lateπ id0 s'.h.next x).bind ι1 = none
            rw [h6]
            show ι1 x = none
            cases h5 : ι1 x with
            | none => rfl
            | some e =>
              have := (st.new x e h5 h4).1
              omega
        · obtain ⟨y, hy1, hy2⟩ := Inj.via_some hx1
          unfold lateπ at hy1
          split at hy1
          · rename_i hxe
            cases hy1
            have := st2.new _ e hy2 h0n
            exact ⟨by rw [hxe]; exact (hg i id0 hgi).1, this.2⟩
          · split at hy1
            · cases hy1
              exact st2.new _ e hy2 hx2
            · cases hy1
  have hgf : ∀ j, (Array.replicate ops.size false).getD j false = false := by
    intro j; simp only [Array.getD_eq_getD_getElem?, Array.getElem?_replicate]; split <;> rfl
  have hsim : Sim ι0 h1 w0 := ⟨fun x e he => Nat.lt_of_lt_of_le (hs0.sim.lt x e he) e1.next, hs0.sim.blk, fun x e he => by
      obtain ⟨o, g1, g2⟩ := hs0.sim.obj x e he
      exact ⟨o, (e1.get x (hs0.sim.lt x e he)).trans g1, g2⟩, fun x y e e' hx hy hne hb => by
      rw [e1.get x (hs0.sim.lt x e hx), e1.get y (hs0.sim.lt y e' hy)]
      exact hs0.sim.sep x y e e' hx hy hne hb, fun x hx => hs0.sim.glob x (by rw [e1.ng] at hx; exact hx)⟩
  have hst0 : Step ι0 ι0 s.h h1 w0 w0 := ⟨Inj.le_refl _, fun x e h2 h3 => (by rw [h2] at h3; cases h3), e1.next, e1.ng, rfl, rfl, rfl, Nat.le_refl _, fun _ _ _ => rfl, Nat.le_refl _⟩
  refine key ops.size _ ⟨s.fr, s.df, h1, s.rd⟩ ι0 a0 _ ?_ (by simp) ?_ (.refl _) (fun i x hx _ => ?_) ⟨hs0.fr, hs0.df, hsim.drew _, hs0.rd⟩ (hst0.trans (Step.drew ι0 h1 w0 _ (Nat.le_succ _)))
  · have : ∀ k, k ≤ ops.size → unwaited (Array.replicate ops.size false) k ≤ k := by
      intro k; induction k with
      | zero => intro _; exact Nat.le_refl _
      | succ k ih => intro hk; have := ih (Nat.le_of_lt hk); simp only [unwaited]; split <;> omega
    exact this _ (Nat.le_refl _)
  · have : (fun j => (Array.replicate ops.size false).getD j false) = fun _ => false := by funext j; exact hgf j
    rw [this]
    exact h0
  · cases h5 : ι0 x with
    | none => rfl
    | some e =>
      have := hs0.sim.lt x e h5
      have := (hg i x hx).1
      omega
end Go.D

namespace Go.D
variable {P : Program} {nt : Nat}

/-- the same as NC.any2, without the places -/
theorem NC.any2L {id : Nat} {ops : Array Oper} {l : List Oper} {b : List Nat} {Q : DExit → St → Prop} {s : St} (hmix : P.follows .mixedOrders = true) (hd : dstsOK nt ops = true) (hlow : lowOK ops = true) (hb : befs ops.toList [] = b) (hl : ops.map stripO = l.toArray)
    (g : Nat → Option Nat) (h1 : DHeap) (e1 : Ext s.h h1) (hg : ∀ i x, g i = some x → s.h.next ≤ x ∧ x < h1.next) (ginj : ∀ i j x, g i = some x → g j = some x → i = j)
    (I : (Nat → Bool) → St → Prop) (h0 : I (fun _ => false) ⟨s.fr, s.df, h1, s.rd⟩)
    (hstep : ∀ (L : Nat → Bool) (s' : St) (i : Nat) (o : Oper), I L s' → l[i]? = some o → L i = false → (∀ j, (b.getD i 0).testBit j = true → L j = true) → (∀ j, (b.getD j 0).testBit i = true → L j = false) →
      (g i = none ∧ NOne P l.toArray o s' (fun s2 => HStep s'.h s2.h → I (fun j => if j = i then true else L j) s2) Q) ∨
      ∃ id0 zs z, g i = some id0 ∧ dWanted l.toArray s'.fr o = some true ∧ dOp P (evalF s'.h.ng s'.fr) o s'.h = .ok (.value (.pointer (some ⟨s'.h.next, 0, none⟩))) (s'.h.push (.row zs z false)) ∧ zs.all flat1 = true ∧ s'.h.get id0 = some (.row zs z false) ∧ s'.df = [] ∧
        I (fun j => if j = i then true else L j) ⟨s'.fr.put o.dst (.pointer (some ⟨id0, 0, none⟩)), s'.df, s'.h, s'.rd⟩)
    (hfin : ∀ (L : Nat → Bool) (s : St), I L s → (∀ i, i < l.length → L i = true) → Q .normal s) : NC P nt (.region id ops true) Q s := by
  subst hb
  have hsz : ops.size = l.length := by
    have := congrArg Array.size hl
    simpa using this
  have hat : ∀ {i : Nat} {o : Oper}, ops[i]? = some o → l[i]? = some (stripO o) := fun {i o} ho => by
    have := congrArg (fun a : Array Oper => a[i]?) hl
    simp only [Array.getElem?_map, ho, Option.map_some] at this
    simpa using this.symm
  refine NC.any2 hmix hd (lowOK_spec hlow) g h1 e1 hg ginj (fun L s => I L s ∧ (∀ i, L i = true → i < ops.size) ∧ ∀ (i : Nat) o, L i = true → ops[i]? = some o → ∀ p ∈ preds o, L p = true) ⟨h0, by simp, by simp⟩ ?_ (fun L s hI hall => hfin L s hI.1 fun i hi => hall i (by omega))
  rintro L s' i o ⟨hI, hsz', hdn⟩ ho hn hp
  have hi := (Array.getElem?_eq_some_iff.1 ho).1
  have hcl : ∀ (k : Nat) o, ops[k]? = some o → (∀ p ∈ preds o, L p = true) → ∀ j, ((befs ops.toList []).getD k 0).testBit j = true → L j = true := fun k o ho hp j hj =>
    bef_closed (D := fun j => L j = true) (fun i o hi ho p hp => hdn i o hi ho p hp) k o ho hp j hj
  have hlate : ∀ j, ((befs ops.toList []).getD j 0).testBit i = true → L j = false := fun j hbit => by
    cases hL : L j with
    | false => rfl
    | true =>
      have hoj := Array.getElem?_eq_getElem (hsz' j hL)
      have := hcl j _ hoj (hdn j _ hL hoj) i hbit
      rw [hn] at this
      cases this
  have hx := hstep L s' i (stripO o) hI (hat ho) hn (hcl i o ho hp) hlate
  have h2 : ∀ j, (if j = i then true else L j) = true → j < ops.size := fun j hj => by
    by_cases hji : j = i
    · rw [hji]; exact hi
    · rw [if_neg hji] at hj; exact hsz' j hj
  have h3 : ∀ (j : Nat) o, (if j = i then true else L j) = true → ops[j]? = some o → ∀ p ∈ preds o, (if p = i then true else L p) = true := fun j oj hj hoj p hpm => by
    by_cases hpi : p = i
    · rw [if_pos hpi]
    · rw [if_neg hpi]
      by_cases hji : j = i
      · subst hji; rw [ho] at hoj; cases hoj; exact hp p hpm
      · rw [if_neg hji] at hj; exact hdn j oj hj hoj p hpm
  rcases hx with ⟨g0, hx⟩ | ⟨id0, zs, z, g0, w, op, hz, hget, hdf, hI2⟩
  · refine .inl ⟨g0, ?_⟩
    rw [← hl, NOne_strip] at hx
    unfold NOne at hx ⊢
    cases hw : dWanted ops s'.fr o with
    | none => rw [hw] at hx; exact hx.elim
    | some bb =>
      rw [hw] at hx
      cases bb with
      | false => exact fun hh => ⟨hx hh, h2, h3⟩
      | true => exact NNext_mono (fun s hs hh => ⟨hs hh, h2, h3⟩) (fun _ _ h => h) hx
  · rw [← hl, dWanted_strip] at w
    rw [dOp_strip] at op
    exact .inr ⟨id0, zs, z, g0, w, op, hz, hget, hdf, hI2, h2, h3⟩

/-! the walk -/
inductive YO
  | s (i : Nat) (o : Oper)
  | l (i : Nat) (o : Oper)
  | b (i : Nat) (o : Oper) (st : List Nat)
def YO.i : YO → Nat
  | .s i _ | .l i _ | .b i _ _ => i
def YO.o : YO → Oper
  | .s _ o | .l _ o | .b _ o _ => o
def YO.big : YO → Bool
  | .b .. => true
  | _ => false
inductive YT
  | no
  | ld (t : TypeId) (p v : Value)
  | gh (id : Nat) (x : Option DObj)
def YS1 (P : Program) (h : DHeap) : Option YT → Prop
  | some .no => True
  | some (.ld t p v) => dLoad P t p h = some v
  | some (.gh id x) => h.get id = x
  | none => False
def YSt (P : Program) (tr : List YT) (h : DHeap) : List Nat → Prop
  | [] => True
  | k :: ks => YS1 P h tr[k]? ∧ YSt P tr h ks
theorem YSt_mem {tr : List YT} {h : DHeap} : ∀ {ks : List Nat} {k : Nat}, YSt P tr h ks → k ∈ ks → YS1 P h tr[k]?
  | k' :: ks, k, ⟨h1, h2⟩, hm => by
    rcases List.mem_cons.1 hm with e | e
    · rw [e]; exact h1
    · exact YSt_mem h2 e
def YD (P : Program) (ops : Array Oper) (Q : DExit → St → Prop) : List YO → St → List YT → Prop
  | [], s, _ => Q .normal s
  | .s _ o :: r, s, tr =>
    match dWanted ops s.fr o with
    | none => False
    | some false => YD P ops Q r ⟨s.fr.put o.dst undef, s.df, s.h, s.rd⟩ tr
    | some true =>
      match dOp P (evalF s.h.ng s.fr) o s.h with
      | .ok (.value v) _ => YD P ops Q r ⟨s.fr.put o.dst v, s.df, s.h, s.rd⟩ tr
      | _ => False
  | .l _ o :: r, s, tr =>
    match dWanted ops s.fr o with
    | none => False
    | some false => YD P ops Q r ⟨s.fr.put o.dst undef, s.df, s.h, s.rd⟩ (tr ++ [.no])
    | some true =>
      match o.op with
      | .load t a =>
        match evalF s.h.ng s.fr a with
        | some p =>
          match dLoad P t p s.h with
          | some v => YD P ops Q r ⟨s.fr.put o.dst v, s.df, s.h, s.rd⟩ (tr ++ [.ld t p v])
          | none => False
        | none => False
      | _ => False
  | .b _ o st :: r, s, tr =>
    match dWanted ops s.fr o with
    | none => False
    | some false => YD P ops Q r ⟨s.fr.put o.dst undef, s.df, s.h, s.rd⟩ tr
    | some true =>
      match dOp P (evalF s.h.ng s.fr) o s.h with
      | .ok (.value v) h => YSt P tr h st ∧ YD P ops Q r ⟨s.fr.put o.dst v, s.df, h, s.rd⟩ tr
      | .ok .skip h => YSt P tr h st ∧ YD P ops Q r ⟨s.fr.put o.dst undef, s.df, h, s.rd⟩ tr
      | .ok (.enter f args) h => ∃ R, Ct P f args h R ∧ ∀ rr h', R rr h' → match rr with
        | .ret v => YSt P tr h' st ∧ YD P ops Q r ⟨s.fr.put o.dst v, s.df, h', s.rd⟩ tr
        | .pan _ => False
      | _ => False
def YG (P : Program) (K : St → List YT → Prop) : List (Nat × Tmp × TypeId) → St → List YT → Prop
  | [], s, tr => K s tr
  | (_, d, t) :: r, s, tr =>
    match dAlloc P t s.h with
    | some (v, h) => YG P K r ⟨s.fr.put (some d) v, s.df, h, s.rd⟩ (tr ++ [.gh s.h.next (h.get s.h.next)])
    | none => False

/-! what is looked at once -/
def recsOf (gs : List (Nat × Tmp × TypeId)) (pre : List YO) : List Nat := gs.map (·.1) ++ pre.filterMap fun | .l i _ => some i | _ => none
def yckOne (P : Program) (b : List Nat) (gs : List (Nat × Tmp × TypeId)) (pre : List YO) (y : YO) : Bool :=
  (!(b.getD y.i 0).testBit y.i) && pre.all (fun x => !(b.getD x.i 0).testBit y.i) && pre.all (fun x => !x.big || (b.getD y.i 0).testBit x.i) &&
  match y with
  | .s _ o => pureOp P o.op || loadOp o.op
  | .l _ o => loadOp o.op
  | .b i _ st => pre.all (fun x => match x with | .s j o' => !loadOp o'.op || (b.getD i 0).testBit j | _ => true) && (recsOf gs pre).zipIdx.all fun x => (b.getD i 0).testBit x.1 || st.contains x.2
def yck (P : Program) (b : List Nat) (gs : List (Nat × Tmp × TypeId)) : List YO → List YO → Bool
  | _, [] => true
  | pre, y :: r => yckOne P b gs pre y && yck P b gs (pre ++ [y]) r
theorem yck_split {b : List Nat} {gs : List (Nat × Tmp × TypeId)} : ∀ {a pre : List YO} {y : YO} {r : List YO}, yck P b gs pre (a ++ y :: r) = true → yckOne P b gs (pre ++ a) y = true
  | [], pre, y, r, h => by
    simp only [List.nil_append, yck, Bool.and_eq_true] at h
    simpa using h.1
  | x :: a, pre, y, r, h => by
    simp only [List.cons_append, yck, Bool.and_eq_true] at h
    have := yck_split h.2
    simpa using this
def nodupB : List Nat → Bool
  | [] => true
  | x :: l => !l.contains x && nodupB l
theorem nodupB_spec : ∀ {l : List Nat}, nodupB l = true → l.Nodup
  | [], _ => List.nodup_nil
  | x :: l, h => by
    simp only [nodupB, Bool.and_eq_true, Bool.not_eq_true'] at h
    refine List.nodup_cons.2 ⟨fun hm => ?_, nodupB_spec h.2⟩
    have := List.contains_iff_mem.2 hm
    rw [this] at h
    exact absurd h.1 (by simp)
def yOK (P : Program) (l : List Oper) (b : List Nat) (gs : List (Nat × Tmp × TypeId)) (ys : List YO) : Bool :=
  nodupB (gs.map (·.1) ++ ys.map YO.i) && (List.range l.length).all (fun i => (gs.map (·.1) ++ ys.map YO.i).contains i) && onceDsts l &&
  (List.range l.length).all (fun i => (List.range l.length).all fun j => i == j || match dstOf l j with
    | none => true
    | some d => !((l[i]?.map (looks l.toArray)).getD []).contains d || ordd b i j) &&
  gs.all (fun x => b.getD x.1 0 == 0) && yck P b gs [] ys

/-! what holds on the way -/
theorem put_at {fr : Fr} {v : Value} {d : Option Tmp} {t : Tmp} (h : d = some t) : fr.put d v t = some v := by rw [h]; exact put_same _ _ _
theorem put_off {fr : Fr} {v : Value} {d : Option Tmp} {t : Tmp} (h : d ≠ some t) : fr.put d v t = fr t := by
  cases d with
  | none => rfl
  | some d => exact put_other _ _ (fun e => h (by rw [e]))
def FrV (l : List Oper) (b : List Nat) (fr0 sc : Fr) (i : Nat) (t : Tmp) (u : Option Value) : Prop :=
  (∃ j, dstOf l j = some t ∧ (b.getD i 0).testBit j = true ∧ u = sc t) ∨ ((∀ j, dstOf l j = some t → (b.getD i 0).testBit j = false) ∧ u = fr0 t)
def PendK (P : Program) (l : List Oper) (recs : List Nat) (fr : Fr) (v : Value) (ng : Nat) (tr : List YT) : YO → Prop
  | .s _ o => pureOp P o.op = true ∨ loadOp o.op = true
  | .l i o => ∃ (k : Nat) (e : YT), recs[k]? = some i ∧ tr[k]? = some e ∧ ∀ h' : DHeap, h'.ng = ng → YS1 P h' (some e) → Ex P l.toArray o fr h' (.ret v) h'
  | .b .. => False
def PendS (P : Program) (l : List Oper) (b : List Nat) (gs : List (Nat × Tmp × TypeId)) (fr0 : Fr) (pre : List YO) (sc : St) (tr : List YT) (y : YO) : Prop :=
  ∃ fr v, (∀ t ∈ looks l.toArray y.o, FrV l b fr0 sc.fr y.i t (fr t)) ∧ (∀ t, y.o.dst = some t → sc.fr t = some v) ∧ Ex P l.toArray y.o fr sc.h (.ret v) sc.h ∧ PendK P l (recsOf gs pre) fr v sc.h.ng tr y
structure YI (P : Program) (l : List Oper) (b : List Nat) (gs : List (Nat × Tmp × TypeId)) (ys : List YO) (Q : DExit → St → Prop) (fr0 : Fr) (n0 : Nat) (L : Nat → Bool) (s : St) (pre rest : List YO) (sc : St) (tr : List YT) : Prop where
  ys : ys = pre ++ rest
  yd : YD P l.toArray Q rest sc tr
  h : s.h = sc.h
  rd : s.rd = sc.rd
  df : s.df = []
  dfc : sc.df = []
  bigs : ∀ y ∈ pre, y.big = true → L y.i = true
  undone : ∀ y ∈ rest, L y.i = false
  f0 : ∀ t, (∀ j, dstOf l j ≠ some t) → s.fr t = fr0 t ∧ sc.fr t = fr0 t
  f1 : ∀ j t, dstOf l j = some t → (L j = true → s.fr t = sc.fr t) ∧ (L j = false → s.fr t = fr0 t)
  f2 : ∀ y ∈ rest, ∀ t, dstOf l y.i = some t → sc.fr t = fr0 t
  len : tr.length = (recsOf gs pre).length
  pend : ∀ y ∈ pre, L y.i = false → PendS P l b gs fr0 pre sc tr y
  gh : ∀ (k : Nat) i d t, gs[k]? = some (i, d, t) → sc.fr d = some (.pointer (some ⟨n0 + k, 0, none⟩)) ∧ ∃ zs z, (∀ h, dAlloc P t h = some (.pointer (some ⟨h.next, 0, none⟩), h.push (.row zs z false))) ∧ zs.all flat1 = true ∧ tr[k]? = some (.gh (n0 + k) (some (.row zs z false))) ∧ (L i = false → sc.h.get (n0 + k) = some (.row zs z false))
/-- what the one look has found -/
structure YF (P : Program) (l : List Oper) (b : List Nat) (gs : List (Nat × Tmp × TypeId)) (ys : List YO) : Prop where
  nodup : (gs.map (·.1) ++ ys.map YO.i).Nodup
  cover : ∀ i, i < l.length → i ∈ gs.map (·.1) ∨ ∃ y ∈ ys, y.i = i
  uniq : ∀ i j t, dstOf l i = some t → dstOf l j = some t → i = j
  names : ∀ i j o d, l[i]? = some o → i ≠ j → dstOf l j = some d → d ∈ looks l.toArray o → ordd b i j = true
  gb : ∀ x ∈ gs, b.getD x.1 0 = 0
  ck : yck P b gs [] ys = true
  op : ∀ y ∈ ys, l[y.i]? = some y.o
  gop : ∀ i d t, (i, d, t) ∈ gs → l[i]? = some (mo d (.alloc t))
theorem YF.of {l : List Oper} {b : List Nat} {gs : List (Nat × Tmp × TypeId)} {ys : List YO} (h : yOK P l b gs ys = true) (hy : ys.map (fun y => l[y.i]?) = ys.map fun y => some y.o) (hg : gs.map (fun x => l[x.1]?) = gs.map fun x => some (mo x.2.1 (.alloc x.2.2))) : YF P l b gs ys := by
  simp only [yOK, Bool.and_eq_true] at h
  obtain ⟨⟨⟨⟨⟨h1, h2⟩, h3⟩, h4⟩, h5⟩, h6⟩ := h
  have hd : ∀ {i : Nat} {t : Tmp}, dstOf l i = some t → ∃ o, l[i]? = some o ∧ o.dst = some t := fun {i t} hi => by
    unfold dstOf at hi
    cases ho : l[i]? with
    | none => rw [ho] at hi; cases hi
    | some o => rw [ho] at hi; exact ⟨o, rfl, by simpa using hi⟩
  refine ⟨nodupB_spec h1, fun i hi => ?_, fun i j t hi hj => ?_, fun i j o d ho hij hj hd2 => ?_, fun x hx => ?_, h6, fun y hy2 => ?_, fun i d t hm => ?_⟩
  · have := List.all_eq_true.1 h2 i (List.mem_range.2 hi)
    have := List.contains_iff_mem.1 this
    rcases List.mem_append.1 this with h | h
    · exact .inl h
    · obtain ⟨y, a, b⟩ := List.mem_map.1 h
      exact .inr ⟨y, a, b⟩
  · obtain ⟨o, a1, a2⟩ := hd hi
    obtain ⟨o', b1, b2⟩ := hd hj
    exact onceDsts_ne h3 a1 b1 a2 b2
  · obtain ⟨o', b1, b2⟩ := hd hj
    have hi' := (List.getElem?_eq_some_iff.1 ho).1
    have hj' := (List.getElem?_eq_some_iff.1 b1).1
    have := List.all_eq_true.1 (List.all_eq_true.1 h4 i (List.mem_range.2 hi')) j (List.mem_range.2 hj')
    simp only [Bool.or_eq_true, beq_iff_eq, hij, false_or, hj, ho, Option.map_some, Option.getD_some, Bool.not_eq_true'] at this
    rcases this with h | h
    · rw [List.contains_iff_mem.2 hd2] at h; cases h
    · exact h
  · exact beq_iff_eq.1 (List.all_eq_true.1 h5 x hx)
  · have := List.map_inj_left.1 hy y hy2
    exact this
  · have := List.map_inj_left.1 hg (i, d, t) hm
    exact this
section
variable {l : List Oper} {b : List Nat} {gs : List (Nat × Tmp × TypeId)} {ys : List YO} {Q : DExit → St → Prop} {fr0 : Fr} {n0 : Nat}
theorem dst_of {y : YO} {t : Tmp} (h : l[y.i]? = some y.o) : dstOf l y.i = y.o.dst := by
  unfold dstOf
  rw [h]
  rfl
theorem recsOf_snoc (pre : List YO) (y : YO) : ∃ r, recsOf gs (pre ++ [y]) = recsOf gs pre ++ r ∧ ((∃ i o, y = .l i o ∧ r = [i]) ∨ ((∀ i o, y ≠ .l i o) ∧ r = [])) := by
  unfold recsOf
  rw [List.filterMap_append, ← List.append_assoc]
  cases y with
  | l i o => exact ⟨[i], rfl, .inl ⟨i, o, rfl, rfl⟩⟩
  | s i o => exact ⟨[], rfl, .inr ⟨fun _ _ h => (by cases h), rfl⟩⟩
  | b i o st => exact ⟨[], rfl, .inr ⟨fun _ _ h => (by cases h), rfl⟩⟩
theorem get_pre {α : Type} {a c : List α} {k : Nat} {x : α} (h : a[k]? = some x) : (a ++ c)[k]? = some x := by
  rw [List.getElem?_append_left (List.getElem?_eq_some_iff.1 h).1]
  exact h
/-- the head of what is left has an index of its own -/
theorem YF.head (F : YF P l b gs ys) {pre r : List YO} {y : YO} (h : ys = pre ++ y :: r) : (∀ x ∈ pre, x.i ≠ y.i) ∧ (∀ x ∈ r, x.i ≠ y.i) ∧ (∀ x ∈ gs, x.1 ≠ y.i) := by
  have := F.nodup
  rw [h] at this
  simp only [List.map_append, List.map_cons, List.nodup_append, List.nodup_cons, List.mem_append, List.mem_cons, List.mem_map] at this
  obtain ⟨_, ⟨_, ⟨h1, _⟩, h2⟩, h3⟩ := this
  exact ⟨fun x hx => h2 _ ⟨x, hx, rfl⟩ _ (.inl rfl), fun x hx e => h1 ⟨x, hx, e⟩, fun x hx => h3 _ ⟨x, hx, rfl⟩ _ (.inr (.inl rfl))⟩
theorem YF.ck1 (F : YF P l b gs ys) {pre r : List YO} {y : YO} (h : ys = pre ++ y :: r) : yckOne P b gs pre y = true := by
  have := F.ck
  rw [h] at this
  simpa using yck_split this
/-- what an operation looks at, canonically -/
theorem YI.look (F : YF P l b gs ys) {L : Nat → Bool} {s sc : St} {pre r : List YO} {y : YO} {tr : List YT} (I : YI P l b gs ys Q fr0 n0 L s pre (y :: r) sc tr) : ∀ t ∈ looks l.toArray y.o, FrV l b fr0 sc.fr y.i t (sc.fr t) := by
  intro t ht
  have ho := F.op y (by rw [I.ys]; simp)
  have hck := F.ck1 I.ys
  simp only [yckOne, Bool.and_eq_true, Bool.not_eq_true', List.all_eq_true] at hck
  obtain ⟨⟨⟨c1, c2⟩, c3⟩, _⟩ := hck
  by_cases hj : ∃ j, dstOf l j = some t ∧ (b.getD y.i 0).testBit j = true
  · obtain ⟨j, h1, h2⟩ := hj
    exact .inl ⟨j, h1, h2, rfl⟩
  · have hj' : ∀ j, dstOf l j = some t → (b.getD y.i 0).testBit j = false := fun j h1 => by
      cases h2 : (b.getD y.i 0).testBit j with
      | false => rfl
      | true => exact absurd ⟨j, h1, h2⟩ hj
    refine .inr ⟨hj', ?_⟩
    by_cases hd : ∃ j, dstOf l j = some t
    · obtain ⟨j, hd⟩ := hd
      by_cases hji : j = y.i
      · exact I.f2 y (by simp) t (by rw [← hji]; exact hd)
      · have hord := F.names y.i j y.o t ho (Ne.symm hji) hd ht
        have hb : (b.getD j 0).testBit y.i = true := by
          have := hj' j hd
          unfold ordd at hord
          split at hord
          · exact hord
          · rw [this] at hord; cases hord
        have hjl : j < l.length := by
          unfold dstOf at hd
          cases h5 : l[j]? with
          | none => rw [h5] at hd; cases hd
          | some _ => exact (List.getElem?_eq_some_iff.1 h5).1
        rcases F.cover j hjl with hg | ⟨x, hx, hxj⟩
        · obtain ⟨z, hz, hzj⟩ := List.mem_map.1 hg
          have := F.gb z hz
          rw [hzj] at this
          rw [this] at hb
          simp at hb
        · rw [I.ys] at hx
          rcases List.mem_append.1 hx with hx | hx
          · have := c2 x hx
            rw [hxj, hb] at this
            cases this
          · exact I.f2 x hx t (by rw [hxj]; exact hd)
    · exact (I.f0 t fun j hj => hd ⟨j, hj⟩).2
/-- the frame as it is agrees, where it is looked at -/
theorem YI.agree (F : YF P l b gs ys) {L : Nat → Bool} {s sc : St} {pre rest : List YO} {tr : List YT} (I : YI P l b gs ys Q fr0 n0 L s pre rest sc tr) {i : Nat} {o : Oper} (ho : l[i]? = some o) (hn : L i = false) (hcl : ∀ j, (b.getD i 0).testBit j = true → L j = true) (hlate : ∀ j, (b.getD j 0).testBit i = true → L j = false)
    {fr : Fr} (hfr : ∀ t ∈ looks l.toArray o, FrV l b fr0 sc.fr i t (fr t)) : ∀ t ∈ looks l.toArray o, fr t = s.fr t := by
  intro t ht
  rcases hfr t ht with ⟨j, h1, h2, h3⟩ | ⟨h1, h2⟩
  · rw [h3, (I.f1 j t h1).1 (hcl j h2)]
  · rw [h2]
    by_cases hd : ∃ j, dstOf l j = some t
    · obtain ⟨j, hd⟩ := hd
      have hLj : L j = false := by
        by_cases hji : j = i
        · rw [hji]; exact hn
        · have hord := F.names i j o t ho (Ne.symm hji) hd ht
          refine hlate j ?_
          have := h1 j hd
          unfold ordd at hord
          split at hord
          · exact hord
          · rw [this] at hord; cases hord
      exact ((I.f1 j t hd).2 hLj).symm
    · exact (I.f0 t fun j hj => hd ⟨j, hj⟩).1.symm
/-- one that waits is taken -/
theorem YI.take (F : YF P l b gs ys) {L : Nat → Bool} {s sc : St} {pre rest : List YO} {tr : List YT} (I : YI P l b gs ys Q fr0 n0 L s pre rest sc tr) {i : Nat} {o : Oper} (ho : l[i]? = some o) (hrest : ∀ y ∈ rest, y.i ≠ i) {v : Value} (hv : ∀ t, o.dst = some t → sc.fr t = some v) :
    YI P l b gs ys Q fr0 n0 (fun j => if j = i then true else L j) ⟨s.fr.put o.dst v, s.df, s.h, s.rd⟩ pre rest sc tr := by
  have hd : dstOf l i = o.dst := by unfold dstOf; rw [ho]; rfl
  refine ⟨I.ys, I.yd, I.h, I.rd, I.df, I.dfc, fun y hy hb => ?_, fun y hy => ?_, fun t ht => ?_, fun j t hj => ⟨fun hL => ?_, fun hL => ?_⟩, I.f2, I.len, fun y hy hL => I.pend y hy ?_, fun k j d t hk => ?_⟩
  · show (if y.i = i then true else L y.i) = true
    split
    · rfl
    · exact I.bigs y hy hb
  · show (if y.i = i then true else L y.i) = false
    rw [if_neg (hrest y hy)]
    exact I.undone y hy
  · refine ⟨?_, (I.f0 t ht).2⟩
    show s.fr.put o.dst v t = _
    rw [put_off (by rw [← hd]; exact ht i)]
    exact (I.f0 t ht).1
  · by_cases hji : j = i
    · subst hji
      rw [hd] at hj
      show s.fr.put o.dst v t = _
      rw [put_at hj, hv t hj]
    · show s.fr.put o.dst v t = _
      simp only [if_neg hji] at hL
      rw [put_off fun e => hji (F.uniq j i t hj (hd.trans e))]
      exact (I.f1 j t hj).1 hL
  · by_cases hji : j = i
    · simp only [if_pos hji] at hL; cases hL
    · show s.fr.put o.dst v t = _
      simp only [if_neg hji] at hL
      rw [put_off fun e => hji (F.uniq j i t hj (hd.trans e))]
      exact (I.f1 j t hj).2 hL
  · by_cases hji : y.i = i
    · simp only [if_pos hji] at hL; cases hL
    · simpa only [if_neg hji] using hL
  · obtain ⟨g1, zs, z, g2, g3, g4, g5⟩ := I.gh k j d t hk
    refine ⟨g1, zs, z, g2, g3, g4, fun hL => g5 ?_⟩
    by_cases hji : j = i
    · simp only [if_pos hji] at hL; cases hL
    · simpa only [if_neg hji] using hL
/-- what waits, still waits -/
theorem PendS.keep (F : YF P l b gs ys) {pre r : List YO} {y0 y : YO} {sc : St} {tr tr' : List YT} {v : Value} {h' : DHeap} (hys : ys = pre ++ y0 :: r) (hy : y ∈ pre) (p : PendS P l b gs fr0 pre sc tr y) (hng : h'.ng = sc.h.ng)
    (hh : h' = sc.h ∨ ((b.getD y0.i 0).testBit y.i = false ∧ ∃ i o st, y0 = .b i o st ∧ YSt P tr h' st)) :
    PendS P l b gs fr0 (pre ++ [y0]) ⟨sc.fr.put y0.o.dst v, sc.df, h', sc.rd⟩ (tr ++ tr') y := by
  obtain ⟨fr, u, h1, h2, h3, h4⟩ := p
  have hne := (F.head hys).1 y hy
  have hoy := F.op y (by rw [hys]; simp [hy])
  have ho0 := F.op y0 (by rw [hys]; simp)
  have hck := F.ck1 hys
  simp only [yckOne, Bool.and_eq_true, Bool.not_eq_true', List.all_eq_true] at hck
  obtain ⟨⟨⟨c1, c2⟩, c3⟩, c4⟩ := hck
  have hoff : ∀ j t, dstOf l j = some t → j ≠ y0.i → sc.fr.put y0.o.dst v t = sc.fr t := fun j t hj hji => put_off fun e => hji (F.uniq j y0.i t hj ((dst_of (t := t) ho0).trans e))
  have hex : Ex P l.toArray y.o fr h' (.ret u) h' ∧ PendK P l (recsOf gs (pre ++ [y0])) fr u h'.ng (tr ++ tr') y := by
    obtain ⟨rr, hrr, _⟩ := recsOf_snoc (gs := gs) pre y0
    cases y with
    | b i o st => exact h4.elim
    | s i o =>
      refine ⟨?_, h4⟩
      rcases hh with rfl | ⟨hb, i0, o0, st, rfl, hst⟩
      · exact h3
      · rcases h4 with h4 | h4
        · exact (Ex_pure h4 h3).2 h' hng
        · simp only [Bool.and_eq_true, List.all_eq_true] at c4
          have := c4.1 _ hy
          simp only [h4, Bool.not_true, Bool.false_or] at this
          exact absurd (hb.symm.trans this) (by simp)
    | l i o =>
      obtain ⟨k, e, k1, k2, k3⟩ := h4
      refine ⟨?_, k, e, by rw [hrr]; exact get_pre k1, get_pre k2, fun h2 hn hy2 => k3 h2 (hn.trans hng) hy2⟩
      rcases hh with rfl | ⟨hb, i0, o0, st, rfl, hst⟩
      · exact h3
      · simp only [Bool.and_eq_true, List.all_eq_true] at c4
        have := c4.2 (i, k) (List.mem_zipIdx_iff_getElem?.2 k1)
        simp only [Bool.or_eq_true] at this
        rcases this with this | this
        · exact absurd (hb.symm.trans this) (by simp)
        · have hs1 := YSt_mem hst (List.contains_iff_mem.1 this)
          rw [k2] at hs1
          exact k3 h' hng hs1
  refine ⟨fr, u, fun t ht => ?_, fun t ht => ?_, hex.1, hex.2⟩
  · rcases h1 t ht with ⟨j, a1, a2, a3⟩ | h
    · refine .inl ⟨j, a1, a2, a3.trans (hoff j t a1 fun e => ?_).symm⟩
      have := c2 y hy
      rw [e] at a2
      rw [a2] at this
      cases this
    · exact .inr h
  · show sc.fr.put y0.o.dst v t = _
    rw [hoff y.i t ((dst_of (t := t) hoy).trans ht) hne]
    exact h2 t ht
theorem recs_gs {pre : List YO} {k i : Nat} {d : Tmp} {t : TypeId} (h : gs[k]? = some (i, d, t)) : (recsOf gs pre)[k]? = some i := by
  unfold recsOf
  refine get_pre ?_
  rw [List.getElem?_map, h]
  rfl
/-- canonically, one more that may wait -/
theorem YI.small (F : YF P l b gs ys) {L : Nat → Bool} {s sc : St} {pre r : List YO} {y : YO} {tr tr' : List YT} {v : Value} (I : YI P l b gs ys Q fr0 n0 L s pre (y :: r) sc tr) (hb : y.big = false)
    (hex : Ex P l.toArray y.o sc.fr sc.h (.ret v) sc.h) (hlen : tr'.length = (recsOf gs (pre ++ [y])).length - (recsOf gs pre).length) (hk : PendK P l (recsOf gs (pre ++ [y])) sc.fr v sc.h.ng (tr ++ tr') y)
    (hyd : YD P l.toArray Q r ⟨sc.fr.put y.o.dst v, sc.df, sc.h, sc.rd⟩ (tr ++ tr')) :
    YI P l b gs ys Q fr0 n0 L s (pre ++ [y]) r ⟨sc.fr.put y.o.dst v, sc.df, sc.h, sc.rd⟩ (tr ++ tr') := by
  obtain ⟨n1, n2, n3⟩ := F.head I.ys
  have ho := F.op y (by rw [I.ys]; simp)
  have hd : ∀ t, dstOf l y.i = y.o.dst := fun t => dst_of (t := t) ho
  have hdd : dstOf l y.i = y.o.dst := hd 0
  have hoff : ∀ j t, dstOf l j = some t → j ≠ y.i → sc.fr.put y.o.dst v t = sc.fr t := fun j t hj hji => put_off fun e => hji (F.uniq j y.i t hj (hdd.trans e))
  have hLy := I.undone y (by simp)
  have hck := F.ck1 I.ys
  simp only [yckOne, Bool.and_eq_true, Bool.not_eq_true', List.all_eq_true] at hck
  obtain ⟨⟨⟨c1, c2⟩, c3⟩, c4⟩ := hck
  obtain ⟨rr, hrr, _⟩ := recsOf_snoc (gs := gs) pre y
  refine ⟨by rw [I.ys]; simp, hyd, I.h, I.rd, I.df, I.dfc, fun x hx hxb => ?_, fun x hx => I.undone x (by simp [hx]), fun t ht => ⟨(I.f0 t ht).1, ?_⟩, fun j t hj => ⟨fun hL => ?_, (I.f1 j t hj).2⟩, fun x hx t hxt => ?_, ?_, fun x hx hL => ?_, fun k i d t hk2 => ?_⟩
  · rcases List.mem_append.1 hx with hx | hx
    · exact I.bigs x hx hxb
    · simp only [List.mem_singleton] at hx
      rw [hx, hb] at hxb; cases hxb
  · show sc.fr.put y.o.dst v t = _
    rw [put_off (by rw [← hdd]; exact ht y.i)]
    exact (I.f0 t ht).2
  · show s.fr t = sc.fr.put y.o.dst v t
    rw [hoff j t hj fun e => by rw [e, hLy] at hL; cases hL]
    exact (I.f1 j t hj).1 hL
  · show sc.fr.put y.o.dst v t = _
    rw [hoff x.i t hxt (n2 x hx)]
    exact I.f2 x (by simp [hx]) t hxt
  · rw [List.length_append, hlen, I.len, hrr, List.length_append]
    omega
  · rcases List.mem_append.1 hx with hx | hx
    · exact (I.pend x hx hL).keep F I.ys hx rfl (.inl rfl)
    · simp only [List.mem_singleton] at hx
      subst hx
      refine ⟨sc.fr, v, fun t ht => ?_, fun t ht => put_at ht, hex, hk⟩
      rcases I.look F t ht with ⟨j, a1, a2, a3⟩ | h
      · refine .inl ⟨j, a1, a2, (hoff j t a1 fun e => ?_).symm⟩
        rw [e, c1] at a2
        cases a2
      · exact .inr h
  · obtain ⟨g1, zs, z, g2, g3, g4, g5⟩ := I.gh k i d t hk2
    have hm := List.mem_of_getElem? hk2
    have hgd : dstOf l i = some d := by unfold dstOf; rw [F.gop i d t hm]; rfl
    exact ⟨(hoff i d hgd (n3 _ hm)).trans g1, zs, z, g2, g3, get_pre g4, g5⟩
/-- one that may not wait is taken -/
theorem YI.bigStep (F : YF P l b gs ys) {L : Nat → Bool} {s sc : St} {pre r : List YO} {i : Nat} {o : Oper} {st : List Nat} {tr : List YT} {v : Value} {h' : DHeap} (I : YI P l b gs ys Q fr0 n0 L s pre (.b i o st :: r) sc tr) (hcl : ∀ j, (b.getD i 0).testBit j = true → L j = true)
    (hng : h'.ng = sc.h.ng) (hh : h' = sc.h ∨ YSt P tr h' st) (hyd : YD P l.toArray Q r ⟨sc.fr.put o.dst v, sc.df, h', sc.rd⟩ tr) :
    YI P l b gs ys Q fr0 n0 (fun j => if j = i then true else L j) ⟨s.fr.put o.dst v, s.df, h', s.rd⟩ (pre ++ [.b i o st]) r ⟨sc.fr.put o.dst v, sc.df, h', sc.rd⟩ tr := by
  obtain ⟨n1, n2, n3⟩ := F.head I.ys
  have n2 : ∀ x ∈ r, x.i ≠ i := n2
  have ho : l[i]? = some o := F.op (.b i o st) (by rw [I.ys]; simp)
  have hdd : dstOf l i = o.dst := by unfold dstOf; rw [ho]; rfl
  have hoff : ∀ (fr : Fr) j t, dstOf l j = some t → j ≠ i → fr.put o.dst v t = fr t := fun fr j t hj hji => put_off fun e => hji (F.uniq j i t hj (hdd.trans e))
  have hck := F.ck1 I.ys
  simp only [yckOne, Bool.and_eq_true, Bool.not_eq_true', List.all_eq_true] at hck
  obtain ⟨_, c4⟩ := hck
  have hbit : ∀ j, L j = false → (b.getD i 0).testBit j = false := fun j hL => by
    cases h : (b.getD i 0).testBit j with
    | false => rfl
    | true => rw [hcl j h] at hL; cases hL
  refine ⟨by rw [I.ys]; simp, hyd, rfl, I.rd, I.df, I.dfc, fun x hx hxb => ?_, fun x hx => ?_, fun t ht => ?_, fun j t hj => ?_, fun x hx t hxt => ?_, ?_, fun x hx hL => ?_, fun k j d t hk2 => ?_⟩
  · show (if x.i = i then true else L x.i) = true
    split
    · rfl
    · rename_i hxi
      rcases List.mem_append.1 hx with hx | hx
      · exact I.bigs x hx hxb
      · simp only [List.mem_singleton] at hx
        rw [hx] at hxi
        exact absurd rfl hxi
  · show (if x.i = i then true else L x.i) = false
    rw [if_neg (n2 x hx)]
    exact I.undone x (by simp [hx])
  · have : o.dst ≠ some t := by rw [← hdd]; exact ht i
    show s.fr.put o.dst v t = _ ∧ sc.fr.put o.dst v t = _
    rw [put_off this, put_off this]
    exact I.f0 t ht
  · show ((if j = i then true else L j) = true → s.fr.put o.dst v t = sc.fr.put o.dst v t) ∧ ((if j = i then true else L j) = false → s.fr.put o.dst v t = fr0 t)
    by_cases hji : j = i
    · rw [if_pos hji]
      rw [hji, hdd] at hj
      exact ⟨fun _ => (put_at hj).trans (put_at hj).symm, fun h => by cases h⟩
    · rw [if_neg hji, hoff _ j t hj hji, hoff _ j t hj hji]
      exact I.f1 j t hj
  · show sc.fr.put o.dst v t = _
    rw [hoff _ x.i t hxt (n2 x hx)]
    exact I.f2 x (by simp [hx]) t hxt
  · obtain ⟨rr, hrr, h⟩ := recsOf_snoc (gs := gs) pre (.b i o st)
    rcases h with ⟨_, _, h, _⟩ | ⟨_, h⟩
    · cases h
    · rw [hrr, h, List.append_nil]
      exact I.len
  · have hL2 : x.i ≠ i ∧ L x.i = false := by
      by_cases hxi : x.i = i
      · simp only [if_pos hxi] at hL; cases hL
      · exact ⟨hxi, by simpa only [if_neg hxi] using hL⟩
    rcases List.mem_append.1 hx with hx | hx
    · have := (I.pend x hx hL2.2).keep F I.ys hx (tr' := []) (v := v) hng (hh.imp id fun h => ⟨hbit _ hL2.2, i, o, st, rfl, h⟩)
      rwa [List.append_nil] at this
    · simp only [List.mem_singleton] at hx
      rw [hx] at hL2
      exact absurd rfl hL2.1
  · obtain ⟨g1, zs, z, g2, g3, g4, g5⟩ := I.gh k j d t hk2
    have hm := List.mem_of_getElem? hk2
    have hgd : dstOf l j = some d := by unfold dstOf; rw [F.gop j d t hm]; rfl
    refine ⟨(hoff _ j d hgd (n3 _ hm)).trans g1, zs, z, g2, g3, g4, fun hL => ?_⟩
    have hL2 : L j = false := by
      by_cases hji : j = i
      · simp only [if_pos hji] at hL; cases hL
      · simpa only [if_neg hji] using hL
    rcases hh with rfl | hst
    · exact g5 hL2
    · have := c4.2 (j, k) (List.mem_zipIdx_iff_getElem?.2 (recs_gs hk2))
      simp only [Bool.or_eq_true] at this
      rcases this with this | this
      · exact absurd ((hbit j hL2).symm.trans this) (by simp)
      · have hs1 := YSt_mem hst (List.contains_iff_mem.1 this)
        rw [g4] at hs1
        exact hs1
theorem YI.adv (F : YF P l b gs ys) {L : Nat → Bool} {s : St} : ∀ (rest : List YO) {pre : List YO} {sc : St} {tr : List YT}, YI P l b gs ys Q fr0 n0 L s pre rest sc tr →
    ∃ pre' rest' sc' tr', YI P l b gs ys Q fr0 n0 L s pre' rest' sc' tr' ∧ (rest' = [] ∨ ∃ i o st r, rest' = .b i o st :: r)
  | [], pre, sc, tr, I => ⟨pre, [], sc, tr, I, .inl rfl⟩
  | .b i o st :: r, pre, sc, tr, I => ⟨pre, _, sc, tr, I, .inr ⟨i, o, st, r, rfl⟩⟩
  | .s i o :: r, pre, sc, tr, I => by
    have hck := F.ck1 I.ys
    simp only [yckOne, Bool.and_eq_true] at hck
    have hk : pureOp P o.op = true ∨ loadOp o.op = true := by simpa using hck.2
    have hl : (recsOf gs (pre ++ [.s i o])).length = (recsOf gs pre).length := by
      obtain ⟨rr, hrr, h⟩ := recsOf_snoc (gs := gs) pre (.s i o)
      rcases h with ⟨_, _, h, _⟩ | ⟨_, h⟩
      · cases h
      · rw [hrr, h, List.append_nil]
    have go : ∀ v, Ex P l.toArray o sc.fr sc.h (.ret v) sc.h → YD P l.toArray Q r ⟨sc.fr.put o.dst v, sc.df, sc.h, sc.rd⟩ tr → _ := fun v h1 h2 =>
      YI.adv F r (I.small F (tr' := []) rfl h1 (by rw [hl]; simp) hk (by rw [List.append_nil]; exact h2))
    have hyd := I.yd
    simp only [YD] at hyd
    split at hyd
    · exact hyd.elim
    · rename_i hw
      exact go undef (by unfold Ex; rw [hw]; exact ⟨rfl, rfl⟩) hyd
    · rename_i hw
      split at hyd
      · rename_i v h1 hop
        have hh : h1 = sc.h := by
          have hex : Ex P l.toArray o sc.fr sc.h (.ret v) h1 := by unfold Ex; rw [hw, hop]; exact ⟨rfl, rfl⟩
          rcases hk with hk | hk
          · exact (Ex_pure hk hex).1
          · exact Ex_load hk hex
        subst hh
        exact go v (by unfold Ex; rw [hw, hop]; exact ⟨rfl, rfl⟩) hyd
      · exact hyd.elim
  | .l i o :: r, pre, sc, tr, I => by
    have hck := F.ck1 I.ys
    simp only [yckOne, Bool.and_eq_true] at hck
    have hk : loadOp o.op = true := hck.2
    obtain ⟨hl, hlast⟩ : (recsOf gs (pre ++ [.l i o])).length = (recsOf gs pre).length + 1 ∧ (recsOf gs (pre ++ [.l i o]))[tr.length]? = some i := by
      obtain ⟨rr, hrr, h⟩ := recsOf_snoc (gs := gs) pre (.l i o)
      rcases h with ⟨_, _, h, h2⟩ | ⟨h, _⟩
      · cases h
        rw [hrr, h2, I.len]
        simp
      · exact absurd rfl (h i o)
    have go : ∀ v e, Ex P l.toArray o sc.fr sc.h (.ret v) sc.h → (∀ h' : DHeap, h'.ng = sc.h.ng → YS1 P h' (some e) → Ex P l.toArray o sc.fr h' (.ret v) h') → YD P l.toArray Q r ⟨sc.fr.put o.dst v, sc.df, sc.h, sc.rd⟩ (tr ++ [e]) → _ := fun v e h1 h3 h2 =>
      YI.adv F r (I.small F (tr' := [e]) rfl h1 (by rw [hl]; simp) ⟨tr.length, e, hlast, by simp, h3⟩ h2)
    have hyd := I.yd
    simp only [YD] at hyd
    split at hyd
    · exact hyd.elim
    · rename_i hw
      exact go undef .no (by unfold Ex; rw [hw]; exact ⟨rfl, rfl⟩) (fun h' _ _ => by unfold Ex; rw [hw]; exact ⟨rfl, rfl⟩) hyd
    · rename_i hw
      split at hyd
      · rename_i t a hop
        split at hyd
        · rename_i p hp
          split at hyd
          · rename_i v hv
            have hex : ∀ h' : DHeap, h'.ng = sc.h.ng → dLoad P t p h' = some v → Ex P l.toArray o sc.fr h' (.ret v) h' := fun h' hn hv => by
              unfold Ex dOp
              rw [hw, hop, hn]
              simp [hp, hv, DR.ofv]
            exact go v (.ld t p v) (hex sc.h rfl hv) (fun h' hn h => hex h' hn h) hyd
          · exact hyd.elim
        · exact hyd.elim
      · exact hyd.elim
end
theorem dAlloc_spec {t : TypeId} {h h' : DHeap} {v : Value} (e : dAlloc P t h = some (v, h')) :
    ∃ zs z, v = .pointer (some ⟨h.next, 0, none⟩) ∧ h' = h.push (.row zs z false) ∧ zs.all flat1 = true ∧ ∀ h2, dAlloc P t h2 = some (.pointer (some ⟨h2.next, 0, none⟩), h2.push (.row zs z false)) := by
  unfold dAlloc at e ⊢
  cases hi : P.info? t with
  | none => rw [hi] at e; cases e
  | some i =>
    rw [hi] at e
    simp only at e ⊢
    cases hz : i.zero with
    | none => rw [hz] at e; cases e
    | some z =>
      rw [hz] at e
      simp only at e ⊢
      split at e
      · rename_i hf
        cases e
        exact ⟨_, _, rfl, rfl, hf, fun h2 => by rw [if_pos hf]⟩
      · cases e
theorem YG_out {K : St → List YT → Prop} : ∀ (gs : List (Nat × Tmp × TypeId)) (s : St) (tr : List YT), YG P K gs s tr → (gs.map (·.2.1)).Nodup →
    ∃ h1 fr1 tr1, K ⟨fr1, s.df, h1, s.rd⟩ (tr ++ tr1) ∧ Ext s.h h1 ∧ h1.next = s.h.next + gs.length ∧ tr1.length = gs.length ∧ (∀ t, (∀ x ∈ gs, x.2.1 ≠ t) → fr1 t = s.fr t) ∧
      ∀ (k : Nat) i d t, gs[k]? = some (i, d, t) → fr1 d = some (.pointer (some ⟨s.h.next + k, 0, none⟩)) ∧ ∃ zs z, (∀ h, dAlloc P t h = some (.pointer (some ⟨h.next, 0, none⟩), h.push (.row zs z false))) ∧ zs.all flat1 = true ∧ tr1[k]? = some (.gh (s.h.next + k) (some (.row zs z false))) ∧ h1.get (s.h.next + k) = some (.row zs z false)
  | [], s, tr, h, _ => ⟨s.h, s.fr, [], by rw [List.append_nil]; exact h, .refl _, rfl, rfl, fun _ _ => rfl, fun k i d t hk => by cases hk⟩
  | (i0, d0, t0) :: gs, s, tr, h, hn => by
    unfold YG at h
    split at h
    · rename_i v h2 ha
      obtain ⟨zs, z, rfl, rfl, hz, hall⟩ := dAlloc_spec ha
      simp only [List.map_cons, List.nodup_cons, List.mem_map] at hn
      obtain ⟨h1, fr1, tr1, a1, a2, a3, a4, a5, a6⟩ := YG_out gs _ _ h hn.2
      have e1 : Ext s.h (s.h.push (.row zs z false)) := Ext.push1 _ _
      have hnx : (s.h.push (.row zs z false)).next = s.h.next + 1 := rfl
      refine ⟨h1, fr1, _ :: tr1, by rw [List.append_cons]; exact a1, e1.trans a2, by rw [a3]; show s.h.next + 1 + gs.length = s.h.next + (gs.length + 1); omega, by rw [List.length_cons, List.length_cons, a4], fun t ht => ?_, fun k i d t hk => ?_⟩
      · rw [a5 t fun x hx => ht x (List.mem_cons_of_mem _ hx)]
        exact put_off (d := some d0) fun e => ht (i0, d0, t0) List.mem_cons_self (Option.some.inj e)
      · cases k with
        | zero =>
          cases hk
          refine ⟨?_, zs, z, hall, hz, ?_, ?_⟩
          · rw [a5 d0 fun x hx e => hn.1 ⟨x, hx, e⟩]
            exact put_at rfl
          · show some (YT.gh s.h.next ((s.h.push (.row zs z false)).get s.h.next)) = _
            rw [get_push_same]
            rfl
          · exact (a2.get s.h.next (by rw [hnx]; omega)).trans (get_push_same _ _)
        | succ k =>
          have hk' : gs[k]? = some (i, d, t) := by simpa using hk
          obtain ⟨b1, zs', z', b2, b3, b4, b5⟩ := a6 k i d t hk'
          have e : (s.h.push (.row zs z false)).next + k = s.h.next + (k + 1) := by rw [hnx]; omega
          rw [e] at b1 b4 b5
          exact ⟨b1, zs', z', b2, b3, by simpa using b4, b5⟩
    · exact h.elim
def gIdx : List (Nat × Tmp × TypeId) → Nat → Nat → Option Nat
  | [], _, _ => none
  | x :: r, i, k => if x.1 = i then some k else gIdx r i (k + 1)
theorem gIdx_some : ∀ {gs : List (Nat × Tmp × TypeId)} {i k x : Nat}, gIdx gs i k = some x → ∃ (m : Nat) (d : Tmp) (t : TypeId), gs[m]? = some (i, d, t) ∧ x = k + m
  | [], i, k, x, h => by cases h
  | (j, d, t) :: r, i, k, x, h => by
    unfold gIdx at h
    split at h
    · rename_i hj
      cases h
      exact ⟨0, d, t, by rw [← hj]; rfl, rfl⟩
    · obtain ⟨m, d', t', a, b⟩ := gIdx_some h
      exact ⟨m + 1, d', t', by simpa using a, by omega⟩
theorem gIdx_none : ∀ {gs : List (Nat × Tmp × TypeId)} {i k : Nat}, gIdx gs i k = none → ∀ x ∈ gs, x.1 ≠ i
  | [], _, _, _, x, hx => by cases hx
  | y :: r, i, k, h, x, hx => by
    unfold gIdx at h
    split at h
    · cases h
    · rename_i hj
      rcases List.mem_cons.1 hx with rfl | hx
      · exact hj
      · exact gIdx_none h x hx
theorem NOne_of_Ex {ops : Array Oper} {o : Oper} {s : St} {K : St → Prop} {Q : DExit → St → Prop} {v : Value} {h' : DHeap} (hx : Ex P ops o s.fr s.h (.ret v) h') (hK : K ⟨s.fr.put o.dst v, s.df, h', s.rd⟩) : NOne P ops o s K Q := by
  unfold Ex at hx
  unfold NOne
  cases hw : dWanted ops s.fr o with
  | none => rw [hw] at hx; exact hx.elim
  | some bb =>
    rw [hw] at hx
    cases bb with
    | false =>
      obtain ⟨a, b⟩ := hx
      cases a
      rw [b] at hK
      exact hK
    | true =>
      simp only at hx ⊢
      split at hx
      · rename_i heq
        obtain ⟨a, b⟩ := hx
        cases a
        rw [b] at hK
        rw [heq]
        exact hK
      · rename_i heq
        obtain ⟨a, b⟩ := hx
        cases a
        rw [b] at hK
        rw [heq]
        exact hK
      · rename_i heq
        rw [heq]
        exact ⟨_, hx.ct (R := fun r h => r = .ret v ∧ h = h') ⟨rfl, rfl⟩, fun r h2 ⟨e1, e2⟩ => by subst e1; subst e2; exact hK⟩
      · rename_i heq
        rw [heq]
        exact ⟨_, hx.rt (R := fun r h => r = .ret v ∧ h = h') ⟨rfl, rfl⟩, fun r h2 ⟨e1, e2⟩ => by subst e1; subst e2; exact hK⟩
      · rename_i heq
        cases hx.1
      · exact hx.elim
theorem Ex_looks {ops : Array Oper} {o : Oper} {fr fr' : Fr} {h h' : DHeap} {r : DEnd} (hl : ∀ t ∈ looks ops o, fr' t = fr t) (hx : Ex P ops o fr' h r h') : Ex P ops o fr h r h' := by
  unfold Ex at hx ⊢
  rwa [dWanted_looks hl, dOp_looks hl] at hx

/-- a region in any order, walked once -/
theorem NC.yd {id : Nat} {ops : Array Oper} {l : List Oper} {b : List Nat} {gs : List (Nat × Tmp × TypeId)} {ys : List YO} {Q : DExit → St → Prop} {s : St} (hmix : P.follows .mixedOrders = true) (hd : dstsOK nt ops = true) (hlow : lowOK ops = true) (hb : befs ops.toList [] = b) (hl : ops.map stripO = l.toArray)
    (hok : yOK P l b gs ys = true) (hy : ys.map (fun y => l[y.i]?) = ys.map fun y => some y.o) (hgm : gs.map (fun x => l[x.1]?) = gs.map fun x => some (mo x.2.1 (.alloc x.2.2))) (hdf : s.df = [])
    (h : YG P (YD P l.toArray Q ys) gs s []) : NC P nt (.region id ops true) Q s := by
  have F := YF.of hok hy hgm
  have hgn := (List.nodup_append.1 F.nodup)
  have hgd : ∀ x ∈ gs, dstOf l x.1 = some x.2.1 := fun x hx => by unfold dstOf; rw [F.gop x.1 x.2.1 x.2.2 hx]; rfl
  have hdn : (gs.map (·.2.1)).Nodup := by
    refine List.pairwise_map.2 ((List.pairwise_map.1 hgn.1).imp_of_mem fun {x y} hx hy hne e => hne ?_)
    exact F.uniq x.1 y.1 x.2.1 (hgd x hx) (by rw [e]; exact hgd y hy)
  obtain ⟨h1, fr1, tr1, a1, a2, a3, a4, a5, a6⟩ := YG_out gs s [] h hdn
  rw [List.nil_append] at a1
  have gk : ∀ {i x : Nat}, gIdx gs i s.h.next = some x → ∃ (m : Nat) (d : Tmp) (t : TypeId), gs[m]? = some (i, d, t) ∧ x = s.h.next + m := gIdx_some
  have guniq : ∀ {m m' : Nat} {x y : Nat × Tmp × TypeId}, gs[m]? = some x → gs[m']? = some y → x.1 = y.1 → m = m' := fun {m m' x y} hx hy e => by
    have hm := (List.getElem?_eq_some_iff.1 hx).1
    have h1 : (gs.map (·.1))[m]? = some x.1 := by rw [List.getElem?_map, hx]; rfl
    have h2 : (gs.map (·.1))[m']? = some x.1 := by rw [List.getElem?_map, hy, e]; rfl
    exact (List.getElem?_inj (by simpa using hm) hgn.1).1 (h1.trans h2.symm)
  refine NC.any2L hmix hd hlow hb hl (fun i => gIdx gs i s.h.next) h1 a2 (fun i x hx => ?_) (fun i j x hi hj => ?_)
    (fun L s' => ∃ pre rest sc tr, YI P l b gs ys Q s.fr s.h.next L s' pre rest sc tr ∧ (rest = [] ∨ ∃ i o st r, rest = .b i o st :: r)) ?_ ?_ ?_
  · obtain ⟨m, d, t, b1, rfl⟩ := gk hx
    have := (List.getElem?_eq_some_iff.1 b1).1
    omega
  · obtain ⟨m, d, t, b1, rfl⟩ := gk hi
    obtain ⟨m', d', t', b2, e⟩ := gk hj
    have : m = m' := by omega
    subst this
    rw [b1] at b2
    cases b2
    rfl
  · refine YI.adv F ys (pre := []) (sc := ⟨fr1, s.df, h1, s.rd⟩) (tr := tr1) ⟨rfl, a1, rfl, rfl, hdf, hdf, fun y hy => (by cases hy), fun _ _ => rfl, fun t ht => ⟨rfl, a5 t fun x hx e => ht x.1 (by rw [← e]; exact hgd x hx)⟩, fun j t _ => ⟨fun h => (by cases h), fun _ => rfl⟩, fun y hy t hyt => a5 t fun x hx e => ?_, (by rw [a4]; simp [recsOf]), fun y hy => (by cases hy), fun k i d t hk => ?_⟩
    · have hxy := F.uniq x.1 y.i t (by rw [← e]; exact hgd x hx) hyt
      exact hgn.2.2 _ (List.mem_map.2 ⟨x, hx, rfl⟩) _ (List.mem_map.2 ⟨y, hy, rfl⟩) hxy
    · obtain ⟨c1, zs, z, c2, c3, c4, c5⟩ := a6 k i d t hk
      exact ⟨c1, zs, z, c2, c3, c4, fun _ => c5⟩
  · rintro L s' i o ⟨pre, rest, sc, tr, I, hr⟩ ho hn hcl hlate
    have hil := (List.getElem?_eq_some_iff.1 ho).1
    rcases F.cover i hil with hg | ⟨y, hym, hyi⟩
    · obtain ⟨⟨i', d, t⟩, hx, hxi⟩ := List.mem_map.1 hg
      simp only at hxi
      subst hxi
      obtain ⟨k, hk⟩ := List.getElem?_of_mem hx
      have hop := F.gop i' d t hx
      rw [ho] at hop
      cases hop
      have hgi : gIdx gs i' s.h.next = some (s.h.next + k) := by
        cases hq : gIdx gs i' s.h.next with
        | none => exact absurd rfl (gIdx_none hq _ hx)
        | some x =>
          obtain ⟨m, d', t', b1, rfl⟩ := gk hq
          rw [guniq b1 hk rfl]
      obtain ⟨g1, zs, z, g2, g3, g4, g5⟩ := I.gh k i' d t hk
      refine .inr ⟨_, zs, z, hgi, rfl, ?_, g3, ?_, I.df, pre, rest, sc, tr, I.take F ho (fun y hy e => ?_) (fun t' ht => ?_), hr⟩
      · simp only [dOp, g2, DR.ofp]
      · rw [I.h]; exact g5 hn
      · exact hgn.2.2 _ (List.mem_map.2 ⟨_, hx, rfl⟩) _ (List.mem_map.2 ⟨y, by rw [I.ys]; simp [hy], rfl⟩) e.symm
      · cases ht
        exact g1
    · subst hyi
      have hoy := F.op y hym
      rw [ho] at hoy
      cases hoy
      refine .inl ⟨?_, ?_⟩
      · cases hq : gIdx gs y.i s.h.next with
        | none => rfl
        | some x =>
          obtain ⟨m, d', t', b1, _⟩ := gk hq
          exact absurd rfl (hgn.2.2 _ (List.mem_map.2 ⟨_, List.mem_of_getElem? b1, rfl⟩) _ (List.mem_map.2 ⟨y, hym, rfl⟩))
      rw [I.ys] at hym
      rcases List.mem_append.1 hym with hyp | hyr
      · obtain ⟨fr, v, p1, p2, p3, _⟩ := I.pend y hyp hn
        have hag := I.agree F ho hn hcl hlate p1
        rw [← I.h] at p3
        refine NOne_of_Ex (Ex_looks hag p3) fun _ => ⟨pre, rest, sc, tr, I.take F ho (fun x hx e => ?_) p2, hr⟩
        obtain ⟨r1, r2, hsp⟩ := List.append_of_mem hx
        have := (F.head (pre := pre ++ r1) (y := x) (r := r2) (by rw [I.ys, hsp]; simp)).1 y (by simp [hyp])
        exact this e.symm
      · rcases hr with rfl | ⟨i0, o0, st, r, rfl⟩
        · cases hyr
        rcases List.mem_cons.1 hyr with rfl | hyr
        · have hag := I.agree F ho hn hcl hlate (I.look F)
          have hwq : dWanted l.toArray s'.fr o0 = dWanted l.toArray sc.fr o0 := (dWanted_looks hag).symm
          have hoq : ∀ n (hh : DHeap), dOp P (evalF n s'.fr) o0 hh = dOp P (evalF n sc.fr) o0 hh := fun n hh => (dOp_looks hag).symm
          have hyd := I.yd
          simp only [YD] at hyd
          unfold NOne
          show match dWanted l.toArray s'.fr o0 with
            | none => False
            | some false => HStep s'.h s'.h → _
            | some true => NNext P o0 s' (dOp P (evalF s'.h.ng s'.fr) o0 s'.h) _ Q
          rw [hwq]
          split at hyd
          · exact hyd.elim
          · rename_i hw
            have hb := I.bigStep F hcl rfl (.inl rfl) hyd
            rw [I.h]
            exact fun _ => hb.adv F r
          · rename_i hw
            rw [hoq, I.h]
            split at hyd
            · rename_i v h2 hop
              rw [hop]
              exact fun hh => (I.bigStep F hcl hh.ng (.inr hyd.1) hyd.2).adv F r
            · rename_i h2 hop
              rw [hop]
              exact fun hh => (I.bigStep F hcl hh.ng (.inr hyd.1) hyd.2).adv F r
            · rename_i f args h2 hop
              rw [hop]
              obtain ⟨R, hct, hall⟩ := hyd
              refine ⟨R, hct, fun rr h3 hR => ?_⟩
              have := hall rr h3 hR
              cases rr with
              | ret v => exact fun hh => (I.bigStep F hcl hh.ng (.inr this.1) this.2).adv F r
              | pan v => exact this.elim
            · exact hyd.elim
        · exfalso
          obtain ⟨r1, r2, hsp⟩ := List.append_of_mem hyr
          have hck := F.ck1 (pre := pre ++ .b i0 o0 st :: r1) (y := y) (r := r2) (by rw [I.ys, hsp]; simp)
          simp only [yckOne, Bool.and_eq_true, Bool.not_eq_true', List.all_eq_true] at hck
          have := hck.1.2 (.b i0 o0 st) (by simp)
          simp only [YO.big, Bool.not_true, Bool.false_or] at this
          have h2 := hcl _ this
          rw [I.undone (.b i0 o0 st) (by simp)] at h2
          cases h2
  · rintro L s' ⟨pre, rest, sc, tr, I, hr⟩ hall
    rcases hr with rfl | ⟨i0, o0, st, r, rfl⟩
    · have hyd := I.yd
      simp only [YD] at hyd
      have : s' = sc := by
        obtain ⟨fr', df', h', rd'⟩ := s'
        obtain ⟨fr2, df2, h2, rd2⟩ := sc
        have e1 : fr' = fr2 := by
          funext t
          by_cases hd : ∃ j, dstOf l j = some t
          · obtain ⟨j, hj⟩ := hd
            refine (I.f1 j t hj).1 (hall j ?_)
            unfold dstOf at hj
            cases h5 : l[j]? with
            | none => rw [h5] at hj; cases hj
            | some _ => exact (List.getElem?_eq_some_iff.1 h5).1
          · have := I.f0 t fun j hj => hd ⟨j, hj⟩
            exact this.1.trans this.2.symm
        have e2 := I.df
        have e3 := I.dfc
        have e4 := I.h
        have e5 := I.rd
        simp only at e2 e3 e4 e5
        subst e1 e2 e3 e4 e5
        rfl
      rw [this]
      exact hyd
    · have : L i0 = false := I.undone (.b i0 o0 st) (by simp)
      rw [hall i0 (List.getElem?_eq_some_iff.1 (F.op (.b i0 o0 st) (by rw [I.ys]; simp))).1] at this
      cases this

/-! the regions of a function whose order is drawn, in the order in which they stand -/
def drawnOf : Code → List (Array Oper)
  | .seq a b => drawnOf a ++ drawnOf b
  | .cond _ a b => drawnOf a ++ drawnOf b
  | .block _ c => drawnOf c
  | .loop c => drawnOf c
  | .region _ ops true => [ops]
  | .rangeFunc _ _ a b => drawnOf a ++ drawnOf b
  | _ => []
def drawn (f : Func) (k : Nat) : Array Oper := match f.body with
  | some c => (drawnOf c).getD k #[]
  | none => #[]
/-- what is to be shown of a function -/
abbrev GoC (P : Program) (f nt : Nat) (c : Code) (rs : List ResultVar) : Prop := ∀ {args : List Value} {h : DHeap} {R : DEnd → DHeap → Prop}, args.length ≤ nt → xs P nt c (XPost P rs R) ⟨argsFr args nt, [], h, none⟩ → Ct P f args h R
theorem GoC.of {P : Program} {f nt : Nat} {c : Code} {rs : List ResultVar} {fn : Func} (hf : P.funcs[f]? = some fn) (hb : fn.body.map strip = some c) (hn : fn.ntmps = nt) (hr : fn.results.toList = rs) (hk : codeOK nt c = true) : GoC P f nt c rs :=
  fun ha hx => Ct_xs hf hb hn hr ha hk hx
/-! on the walk -/
section
variable (P) (ops : Array Oper) (Q : DExit → St → Prop) (o : Oper) (st : List Nat) (r : List YO) (s : St) (tr : List YT)
end
section
variable {ops : Array Oper} {Q : DExit → St → Prop} {o : Oper} {st : List Nat} {r : List YO} {s : St} {tr : List YT}
end
end Go.D

namespace Go.Proofs.Ythjmkmoiopmfcaa
open Go.D
set_option maxRecDepth 100000
/-! trivet/trivetlaw14.small -/
/-! slices.Equal[[]int64,int64] -/
/-! trivet/code.Decode -/
/-! (*trivet/eval.run).step -/
/-! trivet/trivetref13.Check -/
/-! trivet/trivetref13.One -/
end Go.Proofs.Ythjmkmoiopmfcaa

namespace Go.Proofs.Ythjmkmoiopmfcaa
open Go.D
set_option maxRecDepth 100000
/-! trivet/eval.Run -/
end Go.Proofs.Ythjmkmoiopmfcaa

namespace Go.Proofs.Ythjmkmoiopmfcaa
open Go.D
set_option maxRecDepth 100000
/-! (*trivet/eval.run).value -/
/-! (*trivet/eval.run).goes -/
/-! trivet/trivetref13.rises -/
/-! trivet/trivetref13.Decode -/
/-! trivet/trivetref13.Size -/
/-! trivet/trivetref13.first -/
/-! trivet/trivetref13.two -/
/-! trivet/trivetref13.wide -/
/-! trivet/trivetref13.index -/
/-! slices.IndexFunc[[]trivet/api.Pair,trivet/api.Pair] -/
/-! slices.SortedFunc[trivet/api.Key] -/
/-! maps.Keys[map[trivet/api.Key]int64,trivet/api.Key,int64] -/
/-! trivet/shard.Compare -/
/-! slices.Clone[[]trivet/api.Key,trivet/api.Key] -/
/-! slices.SortFunc[[]trivet/api.Key,trivet/api.Key] -/
/-! slices.Compact[[]trivet/api.Key,trivet/api.Key] -/
/-! trivet/trivetref11.Compare -/
end Go.Proofs.Ythjmkmoiopmfcaa

namespace Go.Proofs.Ythjmkmoiopmfcaa
open Go.D
set_option maxRecDepth 100000
/-! trivet/eval.Binary -/
/-! trivet/trivetref14.Binary -/
/-! trivet/eval.Narrow -/
/-! trivet/trivetref14.Narrow -/
/-! slices.Contains[[]trivet/api.Key,trivet/api.Key] -/
/-! trivet/eval.Needs -/
/-! trivet/trivetref04.Less -/
/-! trivet/code.Check -/
/-! trivet/eval.Changes -/
/-! trivet/trivetref14.Changes -/
/-! trivet/trivetref14.Needs -/
end Go.Proofs.Ythjmkmoiopmfcaa

namespace Go.Proofs.Ythjmkmoiopmfcaa
open Go.D
set_option maxRecDepth 100000
/-! trivet/eval.divide -/
/-! trivet/eval.truth -/
/-! trivet/trivetref14.truth -/
/-! slices.Index[[]trivet/api.Key,trivet/api.Key] -/
/-! slices.DeleteFunc[[]trivet/api.Pair,trivet/api.Pair] -/
/-! trivet/shard.Pairs -/
/-! trivet/eval.Needs$1 -/
/-! trivet/shard.Has -/
/-! trivet/code.rises -/
/-! trivet/shard.Keys -/
/-! trivet/trivetref11.Pairs -/
/-! trivet/trivetref14.has -/
/-! trivet/code.Decode$1 -/
/-! trivet/code.caught -/
/-! trivet/code.all -/
/-! trivet/code.jumps -/
/-! trivet/code.must -/
end Go.Proofs.Ythjmkmoiopmfcaa

namespace Go.Proofs.Ythjmkmoiopmfcaa
open Go.D
set_option maxRecDepth 100000
/-! trivet/code.One -/
/-! trivet/trivetref13.Walk -/
/-! trivet/trivetref13.jumps -/
/-! trivet/trivetref13.begins -/
/-! slices.Collect[trivet/api.Key] -/
/-! maps.Keys[map[trivet/api.Key]int64,trivet/api.Key,int64]$1 -/
/-! cmp.Or[int] -/
/-! cmp.Compare[int32] -/
/-! cmp.Compare[int64] -/
/-! slices.pdqsortCmpFunc[trivet/api.Key] -/
/-! math/bits.Len -/
/-! trivet/code.Size -/
/-! trivet/code.form -/
/-! trivet/code.index -/
/-! slices.AppendSeq[[]trivet/api.Key,trivet/api.Key] -/
def fa96_0 : Code :=
 .region 2 #[⟨(some 5), (.alloc 44), 0, "iter.go:51", #[], none⟩,
  ⟨none, (.store 44 (T 5) (T 7)), 0, "iter.go:51", #[⟨0, .data⟩, ⟨0, .phase⟩], none⟩] false
def fb96_0 : Code :=
 .block 1 (.region 3 #[⟨(some 8), (.load 24 (T 2)), 24, "iter.go:52", #[], none⟩,
   ⟨(some 9), (.load 44 (T 5)), 44, "iter.go:52", #[], none⟩,
   ⟨(some 10), (.buildSlice 24 1 #[(0, (T 9))]), 24, "iter.go:52", #[⟨1, .data⟩], none⟩,
   ⟨(some 11), (.call ⟨(.builtin .append), #[(T 8), (T 10)], #[24, 24]⟩), 24, "iter.go:52", #[⟨0, .data⟩, ⟨2, .data⟩], none⟩,
   ⟨none, (.store 24 (T 2) (T 11)), 0, "iter.go:52", #[⟨3, .data⟩, ⟨3, .chain⟩, ⟨0, .phase⟩, ⟨1, .phase⟩, ⟨2, .phase⟩, ⟨3, .phase⟩], none⟩] false)
/-! cmp.isNaN[int32] -/
/-! cmp.isNaN[int64] -/
/-! slices.insertionSortCmpFunc[trivet/api.Key] -/
end Go.Proofs.Ythjmkmoiopmfcaa

namespace Go.Proofs.Ythjmkmoiopmfcaa
open Go.D
set_option maxRecDepth 100000
/-! math/bits.Len64 -/
end Go.Proofs.Ythjmkmoiopmfcaa

namespace Go.Proofs.Ythjmkmoiopmfcaa
open Go.D
set_option maxRecDepth 100000

/-- a number cut to its lowest bits -/
def narrow (a n : Int) : Int := if n = 8 then IntKind.i8.wrap a else if n = 16 then IntKind.i16.wrap a else if n = 32 then IntKind.i32.wrap a else a
end Go.Proofs.Ythjmkmoiopmfcaa

namespace Go.Proofs.Ythjmkmoiopmfcaa
open Go.D
set_option maxRecDepth 100000

/-- the count of a shift -/
def cnt (b : Int) : Nat := (BitVec.ofInt 64 b &&& BitVec.ofInt 64 63).toNat
/-- what an instruction makes of two numbers -/
def bin2 (op a b : Int) : Int × Int :=
  let w := IntKind.i64.wrap
  if op = 8 then (w (a + b), 0) else if op = 9 then (w (a - b), 0) else if op = 10 then (w (a * b), 0)
  else if op = 11 then (if b = 0 then (0, 3) else (w (a.tdiv b), 0))
  else if op = 12 then (if b = 0 then (0, 3) else (a.tmod b, 0))
  else if op = 13 then (w (BitVec.ofInt 64 a &&& BitVec.ofInt 64 b).toNat, 0)
  else if op = 14 then (w (BitVec.ofInt 64 a ||| BitVec.ofInt 64 b).toNat, 0)
  else if op = 15 then (w (BitVec.ofInt 64 a ^^^ BitVec.ofInt 64 b).toNat, 0)
  else if op = 16 then (w (a * 2 ^ cnt b), 0)
  else if op = 17 then (a.fdiv (2 ^ cnt b), 0)
  else if op = 18 then (w ((IntKind.u64.wrap a).fdiv (2 ^ cnt b)), 0)
  else if op = 20 then (if a < b then 1 else 0, 0)
  else if op = 21 then (if a = b then 1 else 0, 0)
  else (0, 1)
end Go.Proofs.Ythjmkmoiopmfcaa

namespace Go.Proofs.Ythjmkmoiopmfcaa
open Go.D
set_option maxRecDepth 100000

end Go.Proofs.Ythjmkmoiopmfcaa

namespace Go.Proofs.Ythjmkmoiopmfcaa
open Go.D
set_option maxRecDepth 100000

abbrev keyV (k : Key) : Value := .agg #[.int .i32 k.t, .int .i64 k.r]
end Go.Proofs.Ythjmkmoiopmfcaa

namespace Go.Proofs.Ythjmkmoiopmfcaa
open Go.D
set_option maxRecDepth 100000

end Go.Proofs.Ythjmkmoiopmfcaa

namespace Go.Proofs.Ythjmkmoiopmfcaa
open Go.D
set_option maxRecDepth 100000

end Go.Proofs.Ythjmkmoiopmfcaa

namespace Go.Proofs.Ythjmkmoiopmfcaa
open Go.D
set_option maxRecDepth 100000

end Go.Proofs.Ythjmkmoiopmfcaa

namespace Go.Proofs.Ythjmkmoiopmfcaa
open Go.D
set_option maxRecDepth 100000

end Go.Proofs.Ythjmkmoiopmfcaa

namespace Go.Proofs.Ythjmkmoiopmfcaa
open Go.D
set_option maxRecDepth 100000

end Go.Proofs.Ythjmkmoiopmfcaa

namespace Go.Proofs.Ythjmkmoiopmfcaa
open Go.D
set_option maxRecDepth 100000

end Go.Proofs.Ythjmkmoiopmfcaa

namespace Go.Proofs.Ythjmkmoiopmfcaa
open Go.D
set_option maxRecDepth 100000

end Go.Proofs.Ythjmkmoiopmfcaa

namespace Go.Proofs.Ythjmkmoiopmfcaa
open Go.D
set_option maxRecDepth 100000

theorem Sl.upto {S : Nat → Prop} {h h1 : DHeap} {b : Value} {l : List Int} (hb : Sl fU8.rep S h b l) (e : ∀ i, S i → h1.get i = h.get i) : Sl fU8.rep S h1 b l := hb.keep e
end Go.Proofs.Ythjmkmoiopmfcaa

namespace Go.Proofs.Ythjmkmoiopmfcaa
open Go.D
set_option maxRecDepth 100000

end Go.Proofs.Ythjmkmoiopmfcaa

namespace Go.Proofs.Ythjmkmoiopmfcaa
open Go.D
set_option maxRecDepth 100000

end Go.Proofs.Ythjmkmoiopmfcaa

namespace Go.Proofs.Ythjmkmoiopmfcaa
open Go.D
set_option maxRecDepth 100000

end Go.Proofs.Ythjmkmoiopmfcaa

namespace Go.Proofs.Ythjmkmoiopmfcaa
open Go.D
set_option maxRecDepth 100000

end Go.Proofs.Ythjmkmoiopmfcaa

namespace Go.Proofs.Ythjmkmoiopmfcaa
open Go.D
set_option maxRecDepth 100000

end Go.Proofs.Ythjmkmoiopmfcaa

namespace Go.Proofs.Ythjmkmoiopmfcaa
open Go.D
set_option maxRecDepth 100000

end Go.Proofs.Ythjmkmoiopmfcaa

namespace Go.Proofs.Ythjmkmoiopmfcaa
open Go.D
set_option maxRecDepth 100000

end Go.Proofs.Ythjmkmoiopmfcaa

namespace Go.Proofs.Ythjmkmoiopmfcaa
open Go.D
set_option maxRecDepth 100000

end Go.Proofs.Ythjmkmoiopmfcaa

namespace Go.Proofs.Ythjmkmoiopmfcaa
open Go.D
set_option maxRecDepth 100000

end Go.Proofs.Ythjmkmoiopmfcaa

namespace Go.D
variable {P : Program}

/-- a map's type, of a set of numbers -/
structure SetT (P : Program) (t : TypeId) (k : IntKind) : Prop where
  map : ∃ kt et, P.underlying t = some (.map kt et) ∧ P.underlying kt = some (.int k) ∧ zeroOf P et = some (.bool false)
/-- what lies in it -/
def SetAt (k : IntKind) (h : DHeap) (id : Nat) (ks : List Int) : Prop :=
  ∃ es c, h.get id = some (.map es c) ∧ (∀ e ∈ es, ∃ n, e.key = .int k n ∧ e.val = .bool true) ∧ ∀ n, n ∈ ks ↔ ∃ e ∈ es, e.key = .int k n
theorem findNow_int {k : IntKind} {n : Int} : ∀ {es : List MapEntry} {i : Nat}, (∀ e ∈ es, ∃ m, e.key = .int k m ∧ e.val = .bool true) →
    (∃ j, Instr.findNow (.int k) (.int k n) es i = some (some (j, .bool true)) ∧ i ≤ j ∧ ∃ e, es[j - i]? = some e ∧ e.key = .int k n) ∨ (Instr.findNow (.int k) (.int k n) es i = some none ∧ ∀ e ∈ es, e.key ≠ .int k n)
  | [], i, _ => .inr ⟨rfl, fun e he => by simp at he⟩
  | e :: es, i, h => by
    obtain ⟨m, h1, h2⟩ := h e (by simp)
    have ih := findNow_int (k := k) (n := n) (es := es) (i := i + 1) fun e he => h e (by simp [he])
    simp only [Instr.findNow, h1, Instr.sameNow, if_true]
    by_cases hm : n = m
    · subst hm
      refine .inl ⟨i, by simp [h2], Nat.le_refl _, e, by simp, h1⟩
    · have : (n == m) = false := by simpa using hm
      rw [this]
      rcases ih with ⟨j, a, b, e', c, d⟩ | ⟨a, b⟩
      · exact .inl ⟨j, a, by omega, e', by rw [show j - i = (j - (i + 1)) + 1 by omega]; exact c, d⟩
      · refine .inr ⟨a, fun e' he => ?_⟩
        rcases List.mem_cons.1 he with rfl | he
        · rw [h1]
          intro hh
          cases hh
          exact hm rfl
        · exact b e' he
theorem quick_und {t : TypeId} {d : TypeDesc} (hu : P.underlying t = some d) : quick P (underlying t) = some (.inr d) := by
  simp only [underlying, program, Bind.bind, Sem.bind, quick, hu]
  rfl
theorem checkKey_intN {kt : TypeId} {k : IntKind} (hu : P.underlying kt = some (.int k)) (b : Bool) (n : Int) (m : Nat) : quick P (Instr.checkKey b (m + 1) kt (.int k n)) = some (.inr ()) := by
  unfold Instr.checkKey
  rw [quick_bind (quick_und hu)]
  rfl
theorem checkKey_int {kt : TypeId} {k : IntKind} (hu : P.underlying kt = some (.int k)) (b : Bool) (n : Int) : ∃ u, quick P (Instr.checkKey b 10000 kt (.int k n)) = some (.inr u) := ⟨(), checkKey_intN hu b n 9999⟩
theorem sameBits_int {k : IntKind} {n : Int} (m : Nat) : Instr.sameBits (m + 1) (.int k n) (.int k n) = true := by simp [Instr.sameBits]
theorem SetAt.lookup {t : TypeId} {k : IntKind} {h : DHeap} {id : Nat} {ks : List Int} (T : SetT P t k) (a : SetAt k h id ks) (n : Int) : dLookup P t (.map (some id)) (.int k n) false h = some (.bool (decide (n ∈ ks))) := by
  obtain ⟨kt, et, u1, u2, u3⟩ := T.map
  obtain ⟨es, c, g, e1, e2⟩ := a
  obtain ⟨u, hck⟩ := checkKey_int (P := P) u2 es.isEmpty n
  have hm : dMapEs (.map (some id)) h = some es := by simp only [dMapEs, g]
  have hf3 : flat3 (.int k n) = true := rfl
  simp only [dLookup, u1, hm, hf3, if_true, hck]
  rcases findNow_int (k := k) (n := n) (es := es) (i := 0) e1 with ⟨j, a, _, e, c, d⟩ | ⟨a, b⟩
  · have hfd : dFind P kt (.int k n) es = some (some j) := by simp only [dFind, u2, a]; rfl
    rw [Nat.sub_zero] at c
    obtain ⟨m, h1, h2⟩ := e1 e (List.mem_of_getElem? c)
    rw [decide_eq_true ((e2 n).2 ⟨e, List.mem_of_getElem? c, d⟩)]
    simp only [hfd, c, h2]
    rfl
  · have hfd : dFind P kt (.int k n) es = some none := by simp only [dFind, u2, a]; rfl
    rw [decide_eq_false (fun hh => by
      obtain ⟨e, he, hk⟩ := (e2 n).1 hh
      exact b e he hk)]
    simp only [hfd, u3]
    rfl
theorem SetAt.keep {k : IntKind} {h h' : DHeap} {id : Nat} {ks : List Int} (a : SetAt k h id ks) (hg : h'.get id = h.get id) : SetAt k h' id ks := by
  obtain ⟨es, c, g, e⟩ := a
  exact ⟨es, c, hg.trans g, e⟩
theorem SetAt.new {k : IntKind} {h : DHeap} : SetAt k (h.push (.map [] 0)) h.next [] := ⟨[], 0, get_push_same _ _, by simp, by simp⟩
end Go.D

namespace Go.Proofs.Ythjmkmoiopmfcaa
open Go.D
set_option maxRecDepth 100000

end Go.Proofs.Ythjmkmoiopmfcaa

namespace Go.Proofs.Ythjmkmoiopmfcaa
open Go.D
set_option maxRecDepth 100000

end Go.Proofs.Ythjmkmoiopmfcaa

namespace Go.Proofs.Ythjmkmoiopmfcaa
open Go.D
set_option maxRecDepth 100000

/-- how things lie while it goes through the instructions -/
structure DecI (h : DHeap) (a b mp n0 : Nat) (w : Value) (xs : List Instr) (ks : List Int) (K : DHeap) : Prop where
  ext : Ext h K
  ga : K.get a = some (.row [w] 0 false)
  gb : K.get b = some (.row [.int .i64 0] 0 false)
  sm : SetAt .i64 K mp ks
  sl : Sl fInstr.rep (fun j => n0 ≤ j ∧ j < mp) K w xs
  lt : mp < K.next
  ab : h.next ≤ a ∧ h.next ≤ b ∧ a < n0 ∧ b < n0 ∧ a ≠ b ∧ n0 ≤ mp
theorem DecI.push {h : DHeap} {a b mp n0 : Nat} {w : Value} {xs : List Instr} {ks : List Int} {K K' : DHeap} (s : DecI h a b mp n0 w xs ks K) (e : Ext K K') : DecI h a b mp n0 w xs ks K' := by
  have hl := s.lt
  have ha := s.ab
  exact ⟨s.ext.trans e, (e.get _ (by omega)).trans s.ga, (e.get _ (by omega)).trans s.gb, s.sm.keep (e.get _ hl), s.sl.mono fun j hj => ⟨hj, e.get _ (by omega)⟩, Nat.lt_of_lt_of_le hl e.next, ha⟩
theorem DecI.upd {h : DHeap} {a b mp n0 : Nat} {w : Value} {xs : List Instr} {ks ks' : List Int} {K : DHeap} {o : DObj} (s : DecI h a b mp n0 w xs ks K) (hs : SetAt .i64 (K.set mp o) mp ks') : DecI h a b mp n0 w xs ks' (K.set mp o) := by
  have ha := s.ab
  exact ⟨s.ext.set (by omega), (get_set_other _ _ (by omega)).trans s.ga, (get_set_other _ _ (by omega)).trans s.gb, hs, s.sl.mono fun j hj => ⟨hj, get_set_other _ _ (by omega)⟩, s.lt, ha⟩
end Go.Proofs.Ythjmkmoiopmfcaa

namespace Go.Proofs.Ythjmkmoiopmfcaa
open Go.D
set_option maxRecDepth 100000

end Go.Proofs.Ythjmkmoiopmfcaa

namespace Go.Proofs.Ythjmkmoiopmfcaa
open Go.D
set_option maxRecDepth 100000

end Go.Proofs.Ythjmkmoiopmfcaa

namespace Go.Proofs.Ythjmkmoiopmfcaa
open Go.D
set_option maxRecDepth 100000

/-- a transaction's box -/
structure TxnAt (h : DHeap) (id : Nat) (t : Txn) (vc va vr vw : Value) : Prop where
  c0 : cellAt h id 0 = some (.int .i64 t.ses)
  c1 : cellAt h id 1 = some (.int .i64 t.req)
  c2 : cellAt h id 2 = some vc
  c3 : cellAt h id 3 = some va
  c4 : cellAt h id 4 = some vr
  c5 : cellAt h id 5 = some vw
theorem TxnAt.of {h : DHeap} {id z : Nat} {ro : Bool} {t : Txn} {vc va vr vw : Value} (g : h.get id = some (.row [.int .i64 t.ses, .int .i64 t.req, vc, va, vr, vw] z ro)) : TxnAt h id t vc va vr vw :=
  ⟨cellAt_row g, cellAt_row g, cellAt_row g, cellAt_row g, cellAt_row g, cellAt_row g⟩
end Go.Proofs.Ythjmkmoiopmfcaa

namespace Go.Proofs.Ythjmkmoiopmfcaa
open Go.D
set_option maxRecDepth 100000

end Go.Proofs.Ythjmkmoiopmfcaa

namespace Go.Proofs.Ythjmkmoiopmfcaa
open Go.D
set_option maxRecDepth 100000

/-- the lists of a transaction, as they lie -/
structure TxV (S : Nat → Prop) (h : DHeap) (t : Txn) (vc va vr vw : Value) : Prop where
  c : Sl fU8.rep S h vc t.code
  a : Sl fI64.rep S h va t.args
  r : Sl fKey.rep S h vr t.reads
  w : Sl fKey.rep S h vw t.writes
theorem TxV.mono {S S' : Nat → Prop} {h h' : DHeap} {t : Txn} {vc va vr vw : Value} (x : TxV S h t vc va vr vw) (m : ∀ i, S i → S' i ∧ h'.get i = h.get i) : TxV S' h' t vc va vr vw :=
  ⟨x.c.mono m, x.a.mono m, x.r.mono m, x.w.mono m⟩
/-- the lengths that a transaction may have here -/
structure TxLen (t : Txn) : Prop where
  c : t.code.length ≤ 1048576
  a : t.args.length ≤ 1048576
  r : t.reads.length ≤ 1048576
  w : t.writes.length ≤ 1048576
abbrev InH (h : DHeap) : Nat → Prop := fun i => i < h.next
theorem TxV.ext {h h1 : DHeap} {t : Txn} {vc va vr vw : Value} (x : TxV (InH h) h t vc va vr vw) (e : Ext h h1) : TxV (InH h1) h1 t vc va vr vw :=
  x.mono fun i hi => ⟨Nat.lt_of_lt_of_le hi e.next, e.get i hi⟩
theorem TxV.one {S : Nat → Prop} {h : DHeap} {t : Txn} {vc va vr vw : Value} (x : TxV S h t vc va vr vw) (a b : Int) : [.int .i64 a, .int .i64 b, vc, va, vr, vw].all Value.oneCell' = true := by
  obtain ⟨_, _, rfl⟩ := x.c.isSlice
  obtain ⟨_, _, rfl⟩ := x.a.isSlice
  obtain ⟨_, _, rfl⟩ := x.r.isSlice
  obtain ⟨_, _, rfl⟩ := x.w.isSlice
  rfl
/-- a row that may be written -/
def Wrt (h : DHeap) (i : Nat) : Prop := ∃ cs z, h.get i = some (.row cs z false)
theorem slW_mono {α : Type} {R : Rep α} {S S' : Nat → Prop} {h h' : DHeap} {v : Value} {l : List α} (x : Sl R (fun i => S i ∧ Wrt h i) h v l) (m : ∀ i, S i → S' i ∧ h'.get i = h.get i) : Sl R (fun i => S' i ∧ Wrt h' i) h' v l :=
  x.mono fun i hi => by
    obtain ⟨a, b⟩ := m i hi.1
    obtain ⟨cs, z, g⟩ := hi.2
    exact ⟨⟨a, cs, z, b.trans g⟩, b⟩
/-- the lists of a transaction, as they lie, in rows that may be written -/
def TxW (S : Nat → Prop) (h : DHeap) (t : Txn) (vc va vr vw : Value) : Prop := TxV (fun i => S i ∧ Wrt h i) h t vc va vr vw
theorem TxW.v {S : Nat → Prop} {h : DHeap} {t : Txn} {vc va vr vw : Value} (x : TxW S h t vc va vr vw) : TxV S h t vc va vr vw := TxV.mono x fun _ hi => ⟨hi.1, rfl⟩
theorem TxW.mono {S S' : Nat → Prop} {h h' : DHeap} {t : Txn} {vc va vr vw : Value} (x : TxW S h t vc va vr vw) (m : ∀ i, S i → S' i ∧ h'.get i = h.get i) : TxW S' h' t vc va vr vw :=
  ⟨slW_mono x.c m, slW_mono x.a m, slW_mono x.r m, slW_mono x.w m⟩
end Go.Proofs.Ythjmkmoiopmfcaa

namespace Go.Proofs.Ythjmkmoiopmfcaa
open Go.D
set_option maxRecDepth 100000

end Go.Proofs.Ythjmkmoiopmfcaa

namespace Go.Proofs.Ythjmkmoiopmfcaa
open Go.D
set_option maxRecDepth 100000
end Go.Proofs.Ythjmkmoiopmfcaa

namespace Go.D
variable {P : Program} {nt : Nat}

/-- keys that a map takes, and how they lie -/
structure KeyOf (P : Program) (kt : TypeId) {κ : Type} (enc : κ → Value) : Prop where
  flat : ∀ k, flat3 (enc k) = true
  inj : ∀ a b, enc a = enc b → a = b
  chk : ∀ (b : Bool) k, ∃ u, quick P (Instr.checkKey b 10000 kt (enc k)) = some (.inr u)
  bits : ∀ k, Instr.sameBits 10000 (enc k) (enc k) = true
  find : ∀ k (es : List MapEntry), (∀ e ∈ es, ∃ a, e.key = enc a) → ∃ r, dFind P kt (enc k) es = some r ∧ (∀ i, r = some i → ∃ e, es[i]? = some e ∧ e.key = enc k) ∧ (r = none → ∀ e ∈ es, e.key ≠ enc k)
theorem findNow_intK {k : IntKind} {n : Int} : ∀ {es : List MapEntry} {i : Nat}, (∀ e ∈ es, ∃ m, e.key = .int k m) →
    (∃ j v, Instr.findNow (.int k) (.int k n) es i = some (some (j, v)) ∧ i ≤ j ∧ ∃ e, es[j - i]? = some e ∧ e.key = .int k n) ∨ (Instr.findNow (.int k) (.int k n) es i = some none ∧ ∀ e ∈ es, e.key ≠ .int k n)
  | [], i, _ => .inr ⟨rfl, fun e he => by simp at he⟩
  | e :: es, i, h => by
    obtain ⟨m, h1⟩ := h e (by simp)
    have ih := findNow_intK (k := k) (n := n) (es := es) (i := i + 1) fun e he => h e (by simp [he])
    simp only [Instr.findNow, h1, Instr.sameNow, if_true]
    by_cases hm : n = m
    · subst hm
      refine .inl ⟨i, e.val, by simp, Nat.le_refl _, e, by simp, h1⟩
    · have : (n == m) = false := by simpa using hm
      rw [this]
      rcases ih with ⟨j, v, a, b, e', c, d⟩ | ⟨a, b⟩
      · exact .inl ⟨j, v, a, by omega, e', by rw [show j - i = (j - (i + 1)) + 1 by omega]; exact c, d⟩
      · refine .inr ⟨a, fun e' he => ?_⟩
        rcases List.mem_cons.1 he with rfl | he
        · rw [h1]
          intro hh
          cases hh
          exact hm rfl
        · exact b e' he
theorem KeyOf.int {kt : TypeId} {k : IntKind} (hu : P.underlying kt = some (.int k)) : KeyOf P kt (fun n : Int => Value.int k n) where
  flat _ := rfl
  inj a b h := by cases h; rfl
  chk b n := checkKey_int hu b n
  bits n := sameBits_int 9999
  find n es h := by
    unfold dFind
    rw [hu]
    rcases findNow_intK (n := n) (i := 0) h with ⟨j, v, a, _, e, c, d⟩ | ⟨a, b⟩
    · exact ⟨some j, by simp only [a]; rfl, fun i hi => (by cases hi; exact ⟨e, c, d⟩), fun h => by cases h⟩
    · exact ⟨none, by simp only [a]; rfl, fun i hi => (by cases hi), fun _ => b⟩
/-! maps as lists of keys and values -/
section
variable {κ : Type} [DecidableEq κ]
def mget (m : List (κ × Value)) (k : κ) : Option Value := (m.find? fun p => p.1 = k).map (·.2)
def mput (m : List (κ × Value)) (k : κ) (v : Value) : List (κ × Value) := if k ∈ m.map (·.1) then m.map (fun p => if p.1 = k then (k, v) else p) else m ++ [(k, v)]
theorem mget_none {m : List (κ × Value)} {k : κ} : mget m k = none ↔ k ∉ m.map (·.1) := by
  unfold mget
  rw [Option.map_eq_none_iff, List.find?_eq_none]
  constructor
  · intro h hm
    obtain ⟨p, hp, e⟩ := List.mem_map.1 hm
    exact h p hp (by simpa using e)
  · intro h p hp e
    exact h (List.mem_map.2 ⟨p, hp, by simpa using e⟩)
theorem mget_mem {m : List (κ × Value)} (hn : (m.map (·.1)).Nodup) {k : κ} {v : Value} : mget m k = some v ↔ (k, v) ∈ m := by
  induction m with
  | nil => simp [mget]
  | cons p m ih =>
    obtain ⟨k0, v0⟩ := p
    simp only [List.map_cons, List.nodup_cons] at hn
    unfold mget at ih ⊢
    by_cases h : k0 = k
    · subst h
      rw [List.find?_cons_of_pos (by simp)]
      simp only [Option.map_some, Option.some.injEq, List.mem_cons, Prod.mk.injEq, true_and]
      constructor
      · rintro rfl; exact .inl rfl
      · rintro (rfl | hm)
        · rfl
        · exact absurd (List.mem_map.2 ⟨_, hm, rfl⟩) hn.1
    · rw [List.find?_cons_of_neg (by simpa using h), ih hn.2]
      simp only [List.mem_cons, Prod.mk.injEq]
      constructor
      · exact .inr
      · rintro (⟨rfl, _⟩ | hm)
        · exact absurd rfl h
        · exact hm
end
/-- a map in memory -/
def MapAt {κ : Type} (enc : κ → Value) (h : DHeap) (id : Nat) (m : List (κ × Value)) : Prop :=
  ∃ es c, h.get id = some (.map es c) ∧ es.map (fun e => (e.key, e.val)) = m.map (fun p => (enc p.1, p.2)) ∧ (m.map (·.1)).Nodup ∧ (es.map (·.born)).Nodup ∧ ∀ e ∈ es, e.born < c
theorem MapAt.keep {κ : Type} {enc : κ → Value} {h h' : DHeap} {id : Nat} {m : List (κ × Value)} (a : MapAt enc h id m) (hg : h'.get id = h.get id) : MapAt enc h' id m := by
  obtain ⟨es, c, g, r⟩ := a
  exact ⟨es, c, hg.trans g, r⟩
theorem MapAt.new {κ : Type} {enc : κ → Value} {h : DHeap} : MapAt enc (h.push (.map [] 0)) h.next [] :=
  ⟨[], 0, get_push_same _ _, rfl, by simp, by simp, fun e he => by cases he⟩
structure MapT (P : Program) (t : TypeId) {κ : Type} (enc : κ → Value) (z : Value) : Prop where
  map : ∃ kt et, P.underlying t = some (.map kt et) ∧ KeyOf P kt enc ∧ zeroOf P et = some z
theorem MapAt.es_key {κ : Type} {enc : κ → Value} {m : List (κ × Value)} {es : List MapEntry} (hm : es.map (fun e => (e.key, e.val)) = m.map (fun p => (enc p.1, p.2))) {i : Nat} {e : MapEntry} (he : es[i]? = some e) : ∃ p, m[i]? = some p ∧ e.key = enc p.1 ∧ e.val = p.2 := by
  have := congrArg (fun l => l[i]?) hm
  simp only [List.getElem?_map, he, Option.map_some] at this
  cases hp : m[i]? with
  | none => rw [hp] at this; cases this
  | some p =>
    rw [hp] at this
    simp only [Option.map_some, Option.some.injEq, Prod.mk.injEq] at this
    exact ⟨p, rfl, this.1, this.2⟩
theorem MapAt.found {κ : Type} [DecidableEq κ] {enc : κ → Value} {kt : TypeId} {m : List (κ × Value)} {es : List MapEntry} (K : KeyOf P kt enc) (hm : es.map (fun e => (e.key, e.val)) = m.map (fun p => (enc p.1, p.2))) (hn : (m.map (·.1)).Nodup) (k : κ) :
    (∃ i e v, dFind P kt (enc k) es = some (some i) ∧ es[i]? = some e ∧ m[i]? = some (k, v) ∧ e.key = enc k ∧ e.val = v ∧ mget m k = some v) ∨ (dFind P kt (enc k) es = some none ∧ k ∉ m.map (·.1)) := by
  have hk : ∀ e ∈ es, ∃ a, e.key = enc a := fun e he => by
    obtain ⟨i, hi⟩ := List.getElem?_of_mem he
    obtain ⟨p, _, h2, _⟩ := MapAt.es_key hm hi
    exact ⟨_, h2⟩
  obtain ⟨r, h1, h2, h3⟩ := K.find k es hk
  cases r with
  | some i =>
    obtain ⟨e, a, b⟩ := h2 i rfl
    obtain ⟨p, c, d, e'⟩ := MapAt.es_key hm a
    have : p.1 = k := K.inj _ _ (d.symm.trans b)
    refine .inl ⟨i, e, p.2, h1, a, by rw [← this]; exact c, b, e', (mget_mem hn).2 ?_⟩
    rw [← this]
    exact List.mem_of_getElem? c
  | none =>
    refine .inr ⟨h1, fun hm2 => ?_⟩
    obtain ⟨p, hp, hpk⟩ := List.mem_map.1 hm2
    obtain ⟨i, hi⟩ := List.getElem?_of_mem hp
    have := congrArg (fun l => l[i]?) hm
    simp only [List.getElem?_map, hi, Option.map_some] at this
    cases he : es[i]? with
    | none => rw [he] at this; cases this
    | some e =>
      rw [he] at this
      simp only [Option.map_some, Option.some.injEq, Prod.mk.injEq] at this
      exact h3 rfl e (List.mem_of_getElem? he) (by rw [this.1, hpk])
theorem MapAt.lookup {κ : Type} [DecidableEq κ] {enc : κ → Value} {z : Value} {t : TypeId} {h : DHeap} {id : Nat} {m : List (κ × Value)} (T : MapT P t enc z) (a : MapAt enc h id m) (k : κ) (ok : Bool) :
    dLookup P t (.map (some id)) (enc k) ok h = some (if ok then .tuple #[(mget m k).getD z, .bool (mget m k).isSome] else (mget m k).getD z) := by
  obtain ⟨kt, et, hu, K, hz⟩ := T.map
  obtain ⟨es, c, g, hm, hn, _, _⟩ := a
  obtain ⟨u, hc⟩ := K.chk es.isEmpty k
  unfold dLookup
  simp only [hu, dMapEs, g, K.flat k, if_true, hc]
  rcases MapAt.found K hm hn k with ⟨i, e, v, h1, h2, h3, h4, h5, h6⟩ | ⟨h1, h2⟩
  · simp only [h1, h2, h6, h5, Option.getD_some, Option.isSome_some]
  · simp only [h1, hz, mget_none.2 h2, Option.getD_none, Option.isSome_none]
/-! a map that is gone through -/
/-- the iterator at r goes through the map at id; what is in dn has been met -/
def RngAt {κ : Type} (enc : κ → Value) (h : DHeap) (r id : Nat) (m : List (κ × Value)) (dn : List κ) : Prop :=
  ∃ es c seen, h.get id = some (.map es c) ∧ h.get r = some (.iter (some id) c seen c) ∧ es.map (fun e => (e.key, e.val)) = m.map (fun p => (enc p.1, p.2)) ∧ (m.map (·.1)).Nodup ∧ (es.map (·.born)).Nodup ∧ (∀ e ∈ es, e.born < c) ∧
    ∀ (i : Nat) e p, es[i]? = some e → m[i]? = some p → (e.born ∈ seen ↔ p.1 ∈ dn)
theorem RngAt.keep {κ : Type} {enc : κ → Value} {h h' : DHeap} {r id : Nat} {m : List (κ × Value)} {dn : List κ} (a : RngAt enc h r id m dn) (h1 : h'.get id = h.get id) (h2 : h'.get r = h.get r) : RngAt enc h' r id m dn := by
  obtain ⟨es, c, seen, g1, g2, q⟩ := a
  exact ⟨es, c, seen, h1.trans g1, h2.trans g2, q⟩
theorem RngAt.map {κ : Type} {enc : κ → Value} {h : DHeap} {r id : Nat} {m : List (κ × Value)} {dn : List κ} (a : RngAt enc h r id m dn) : MapAt enc h id m := by
  obtain ⟨es, c, seen, g1, g2, q1, q2, q3, q4, _⟩ := a
  exact ⟨es, c, g1, q1, q2, q3, q4⟩
theorem MapAt.range {κ : Type} {enc : κ → Value} {t : TypeId} {h : DHeap} {id : Nat} {m : List (κ × Value)} {kt et : TypeId} (hu : P.underlying t = some (.map kt et)) (a : MapAt enc h id m) (hid : id < h.next) :
    ∃ o, dRange P t (.map (some id)) h = some (.pointer (some ⟨h.next, 0, none⟩), h.push o) ∧ RngAt enc (h.push o) h.next id m [] := by
  obtain ⟨es, c, g, q1, q2, q3, q4⟩ := a
  refine ⟨.iter (some id) c [] c, ?_, es, c, [], (get_push_other _ _ hid).trans g, get_push_same _ _, q1, q2, q3, q4, fun i e p _ _ => by simp⟩
  unfold dRange
  simp only [hu, g]
theorem find_bornD {e : MapEntry} : ∀ {es : List MapEntry}, (es.map (·.born)).Nodup → e ∈ es → es.find? (fun x => x.born == e.born) = some e
  | [], _, h => by cases h
  | a :: es, hn, h => by
    rw [List.find?_cons]
    rw [List.map_cons, List.nodup_cons] at hn
    rcases List.mem_cons.1 h with rfl | h
    · simp
    · have : (a.born == e.born) = false := by
        simp only [beq_eq_false_iff_ne, ne_eq]
        exact fun hh => hn.1 (hh ▸ List.mem_map.2 ⟨e, h, rfl⟩)
      rw [this]
      exact find_bornD hn.2 h
theorem RngAt.next {κ : Type} {enc : κ → Value} {h : DHeap} {r id : Nat} {m : List (κ × Value)} {dn : List κ} (hf : ∀ k, flat3 (enc k) = true) (hne : id ≠ r) (a : RngAt enc h r id m dn) :
    ∃ l, dNext (.pointer (some ⟨r, 0, none⟩)) h = some (l, h.set r .dead) ∧ ∀ p ∈ l, (p = (.tuple #[.bool false], h) ∧ ∀ k ∈ m.map (·.1), k ∈ dn) ∨
      ∃ k v o, (k, v) ∈ m ∧ k ∉ dn ∧ p = (.tuple #[.bool true, enc k, v], h.set r o) ∧ dEntry (.pointer (some ⟨r, 0, none⟩)) (h.set r o) = some (.tuple #[enc k, v]) ∧ RngAt enc (h.set r o) r id m (k :: dn) := by
  obtain ⟨es, c, seen, g1, g2, q1, q2, q3, q4, q5⟩ := a
  have hc1 : (!seen.isEmpty && !es.isEmpty && es.all fun e => decide (e.born ≥ c)) = false := by
    cases es with
    | nil => simp
    | cons e es =>
      have := q4 e (by simp)
      have h1 : decide (e.born ≥ c) = false := decide_eq_false (by omega)
      simp [h1]
  have hc2 : (es.all fun e => flat3 e.key) = true := List.all_eq_true.2 fun e he => by
    obtain ⟨i, hi⟩ := List.getElem?_of_mem he
    obtain ⟨p, _, h2, _⟩ := MapAt.es_key q1 hi
    rw [h2]
    exact hf _
  unfold dNext
  simp only [g2, g1, hc1, hc2, Bool.not_true, Bool.or_false, Bool.false_eq_true, if_false]
  refine ⟨_, rfl, fun p hp => ?_⟩
  rcases List.mem_append.1 hp with hp | hp
  · split at hp
    · rename_i hemp
      simp only [List.mem_singleton] at hp
      refine .inl ⟨hp, fun k hk => ?_⟩
      obtain ⟨pr, hpm, rfl⟩ := List.mem_map.1 hk
      obtain ⟨i, hi⟩ := List.getElem?_of_mem hpm
      have := congrArg (fun l => l[i]?) q1
      simp only [List.getElem?_map, hi, Option.map_some] at this
      cases he : es[i]? with
      | none => rw [he] at this; cases this
      | some e =>
        refine (q5 i e pr he hi).1 ?_
        cases hs : seen.contains e.born with
        | true => exact List.contains_iff_mem.1 hs
        | false =>
          exfalso
          have hm := List.mem_of_getElem? he
          have : e ∈ (es.filter fun e => !seen.contains e.born).filter fun e => decide (e.born < c) := by
            simp only [List.mem_filter, hs, Bool.not_false, decide_eq_true_eq, and_true]
            exact ⟨hm, q4 e hm⟩
          rw [List.isEmpty_iff.1 hemp] at this
          cases this
    · cases hp
  · obtain ⟨e, hem, rfl⟩ := List.mem_map.1 hp
    have he : e ∈ es ∧ seen.contains e.born = false := by
      rcases List.mem_append.1 hem with h | h
      · simp only [List.mem_filter, Bool.not_eq_true'] at h
        exact h.1
      · simp only [List.mem_filter, Bool.not_eq_true'] at h
        exact h.1
    obtain ⟨i, hi⟩ := List.getElem?_of_mem he.1
    obtain ⟨pr, hpi, hk, hv⟩ := MapAt.es_key q1 hi
    have hns : e.born ∉ seen := fun hh => by rw [List.contains_iff_mem.2 hh] at he; cases he.2
    refine .inr ⟨pr.1, pr.2, .iter (some id) c (seen ++ [e.born]) c, List.mem_of_getElem? hpi, fun hd => hns ((q5 i e pr hi hpi).2 hd), by rw [hk, hv], ?_, es, c, seen ++ [e.born], (get_set_other _ _ hne).trans g1, get_set_same _ _, q1, q2, q3, q4, fun j e' p' hj hpj => ?_⟩
    · have h1 : (h.set r (.iter (some id) c (seen ++ [e.born]) c)).get r = some (.iter (some id) c (seen ++ [e.born]) c) := get_set_same _ _
      have h2 : (h.set r (.iter (some id) c (seen ++ [e.born]) c)).get id = some (.map es c) := (get_set_other _ _ hne).trans g1
      have h3 : (seen ++ [e.born]).getLast? = some e.born := by simp
      unfold dEntry
      simp only [h1, h2, h3, if_true, find_bornD q3 he.1, hk, hf, hv]
    rw [List.mem_append, List.mem_singleton, List.mem_cons, q5 j e' p' hj hpj]
    have hij : e'.born = e.born ↔ j = i := by
      have a1 : (es.map (·.born))[j]? = some e'.born := by rw [List.getElem?_map, hj]; rfl
      have a2 : (es.map (·.born))[i]? = some e.born := by rw [List.getElem?_map, hi]; rfl
      constructor
      · intro hh
        exact (List.getElem?_inj (List.getElem?_eq_some_iff.1 a1).1 q3).1 (by rw [a1, a2, hh])
      · intro hh
        subst hh
        rw [hj] at hi
        cases hi
        rfl
    have hij2 : p'.1 = pr.1 ↔ j = i := by
      have a1 : (m.map (·.1))[j]? = some p'.1 := by rw [List.getElem?_map, hpj]; rfl
      have a2 : (m.map (·.1))[i]? = some pr.1 := by rw [List.getElem?_map, hpi]; rfl
      constructor
      · intro hh
        exact (List.getElem?_inj (List.getElem?_eq_some_iff.1 a1).1 q2).1 (by rw [a1, a2, hh])
      · intro hh
        subst hh
        rw [hpj] at hpi
        cases hpi
        rfl
    rw [hij, hij2]
    exact Or.comm
/-! on the walk -/
end Go.D

namespace Go.Proofs.Ythjmkmoiopmfcaa
open Go.D
set_option maxRecDepth 100000

end Go.Proofs.Ythjmkmoiopmfcaa

namespace Go.Proofs.Ythjmkmoiopmfcaa
open Go.D
set_option maxRecDepth 100000

/-- a heap that has changed at one place alone, or grown -/
structure But (r : Nat) (K K' : DHeap) : Prop where
  next : K.next ≤ K'.next
  ng : K'.ng = K.ng
  get : ∀ j, j < K.next → j ≠ r → K'.get j = K.get j
end Go.Proofs.Ythjmkmoiopmfcaa

namespace Go.Proofs.Ythjmkmoiopmfcaa
open Go.D
set_option maxRecDepth 100000

/-- the loop over the keys, as it stands in the heap -/
abbrev appD (fr : Fr) (k : Nat) : DLoop := ⟨13, fr, #[7], fa96_0, fb96_0, k, .ready, none⟩
/-- so far these keys were appended -/
structure AppI (hB : DHeap) (fr : Fr) (b : Nat) (dn : List Key) (K : DHeap) : Prop where
  r : Rng hB (appD fr hB.next) (fun j => j = b) K
  box : ∃ v w, K.get b = some (.row [v] 0 false) ∧ Owns fKey.rep NoS K v dn.reverse w ∧ ∀ i, w = some i → hB.next + 2 < i
theorem AppI.but {hB K K' : DHeap} {fr : Fr} {b : Nat} {dn : List Key} (s : AppI hB fr b dn K) (hb : b < hB.next) (e : But (hB.next + 2) K K') : AppI hB fr b dn K' := by
  have hn := s.r.nx
  obtain ⟨v, w, g, o, hw⟩ := s.box
  exact ⟨s.r.keep e.next e.ng fun j hj => e.get j (by omega) (by omega), v, w, (e.get _ (by omega) (by omega)).trans g, o.mono e.next (fun i hi => e.get i (o.lt i hi) (by have := hw i hi; omega)) (fun i hi => hi.elim), hw⟩
end Go.Proofs.Ythjmkmoiopmfcaa

namespace Go.Proofs.Ythjmkmoiopmfcaa
open Go.D
set_option maxRecDepth 100000

end Go.Proofs.Ythjmkmoiopmfcaa

namespace Go.D
variable {P : Program} {nt : Nat}

section
variable {ops : Array Oper} {o : Oper} {s : St} {E : DHeap → DHeap → Prop} {V : Nat → DHeap → Value → Prop} {cons : Nat → Option Nat} {b : List Nat} {i : Nat} {Q : DExit → St → Prop} {v : Value} {h' : DHeap}
end
end Go.D

namespace Go.Proofs.Ythjmkmoiopmfcaa
open Go.D
open Go.Sort
set_option maxRecDepth 100000

/-- each once, of keys in order -/
def compK : List Key → List Key
  | [] => []
  | [x] => [x]
  | x :: y :: l => if x = y then compK (y :: l) else x :: compK (y :: l)
instance : Inhabited Key := ⟨⟨0, 0⟩⟩
end Go.Proofs.Ythjmkmoiopmfcaa

namespace Go.Proofs.Ythjmkmoiopmfcaa
open Go.D
set_option maxRecDepth 100000

theorem _root_.Go.D.Made.base {α : Type} {F : FRep α} {h0 h1 h2 : DHeap} {v : Value} {l : List α} (m : Made F h1 h2 v l) (e : Ext h0 h1) : Made F h0 h2 v l := by
  obtain ⟨w, a, b⟩ := m.own
  exact ⟨e.trans m.ext, w, a, fun i hi => Nat.le_trans e.next (b i hi)⟩
end Go.Proofs.Ythjmkmoiopmfcaa

namespace Go.D
variable {P : Program} {α : Type}

/-- a row that is a list of flat data -/
def RowIs (F : FRep α) (h : DHeap) (id : Nat) (A : List α) : Prop := h.get id = some (.row (A.flatMap F.enc) F.z false)
theorem setAt_over (vs : List Value) : ∀ (x B : List Value), vs.length = x.length → setAt (x ++ B) 0 vs = vs ++ B := fun x B hl => by
  refine List.ext_getElem? fun i => ?_
  rw [setAt_get]
  by_cases h1 : i < vs.length
  · rw [if_pos ⟨Nat.zero_le _, by omega, by simp; omega⟩, Nat.sub_zero, List.getElem?_append_left h1]
  · rw [if_neg (by omega), List.getElem?_append_right (by omega), List.getElem?_append_right (by omega), hl]
theorem flatMap_set (F : FRep α) {A : List α} {k : Nat} (hk : k < A.length) (x : α) : setAt (A.flatMap F.enc) (k * F.z) (F.enc x) = (A.set k x).flatMap F.enc := by
  have h1 : A.flatMap F.enc = (A.take k).flatMap F.enc ++ (F.enc A[k] ++ (A.drop (k + 1)).flatMap F.enc) := by
    conv => lhs; rw [← List.take_append_drop k A, List.drop_eq_getElem_cons hk]
    rw [List.flatMap_append, List.flatMap_cons]
  have h2 : (A.set k x).flatMap F.enc = (A.take k).flatMap F.enc ++ (F.enc x ++ (A.drop (k + 1)).flatMap F.enc) := by
    rw [List.set_eq_take_append_cons_drop, if_pos hk, List.flatMap_append, List.flatMap_cons]
  have h3 : k * F.z = ((A.take k).flatMap F.enc).length + 0 := by rw [flatMap_len]; simp [Nat.min_eq_left (Nat.le_of_lt hk)]
  rw [h1, h2, h3, setAt_mid, setAt_over _ _ _ (by rw [F.len, F.len])]
theorem RowIs.store {F : FRep α} {h : DHeap} {id k : Nat} {A : List α} (r : RowIs F h id A) (hk : k < A.length) (x : α) : storeAt h id (k * F.z) (F.enc x) = some (h.set id (.row ((A.set k x).flatMap F.enc) F.z false)) := by
  have hm : (k + 1) * F.z ≤ A.length * F.z := Nat.mul_le_mul_right _ hk
  rw [Nat.succ_mul] at hm
  rw [storeAt_row r (by rw [F.len, flatMap_len]; exact hm) ?_, flatMap_set F hk]
  refine List.all_eq_true.2 fun v hv => ?_
  have := List.all_eq_true.1 (F.flat x) v hv
  unfold flat1 at this
  cases v <;> first | rfl | cases this
theorem RowIs.set {F : FRep α} {h : DHeap} {id : Nat} {A : List α} {z : Nat} (hz : z = F.z) : RowIs F (h.set id (.row (A.flatMap F.enc) z false)) id A := by
  subst hz; exact get_set_same _ _
theorem RowIs.sl {F : FRep α} {h : DHeap} {id o n c : Nat} {A : List α} (r : RowIs F h id A) (hn : o + n ≤ A.length) (hok : ∀ x ∈ A, F.ok x) : Sl F.rep (fun i => i = id) h (.slice (some ⟨id, o * F.z, none⟩) n c) ((A.drop o).take n) := by
  have hl : ((A.drop o).take n).length = n := by simp; omega
  have hm : (o + n) * F.z ≤ A.length * F.z := Nat.mul_le_mul_right _ hn
  rw [Nat.add_mul] at hm
  refine .inr ⟨id, o * F.z, c, A.flatMap F.enc, F.z, false, by rw [hl], rfl, r, .inr rfl, ?_, ?_⟩
  · rw [hl, flatMap_len]; exact hm
  · refine Els.flat.2 ⟨?_, fun x hx => hok x (List.mem_of_mem_drop (List.mem_of_mem_take hx))⟩
    rw [hl]
    have h1 : A.flatMap F.enc = (A.take o).flatMap F.enc ++ (((A.drop o).take n).flatMap F.enc ++ (A.drop (o + n)).flatMap F.enc) := by
      rw [← List.flatMap_append, ← List.flatMap_append]
      congr 1
      rw [← List.drop_drop, List.take_append_drop, List.take_append_drop]
    have h2 : o * F.z = ((A.take o).flatMap F.enc).length := by rw [flatMap_len]; simp [Nat.min_eq_left (show o ≤ A.length by omega)]
    have h3 : n * F.rep.z = (((A.drop o).take n).flatMap F.enc).length := by rw [flatMap_len, hl]; rfl
    rw [h1, h2, List.drop_left, h3, List.take_left]
end Go.D

namespace Go.Proofs.Ythjmkmoiopmfcaa
open Go.D
set_option maxRecDepth 100000

theorem compK_snoc {x y : Key} : ∀ {L : List Key}, compK (L ++ [y, x]) = if y = x then compK (L ++ [y]) else compK (L ++ [y]) ++ [x]
  | [] => by
    simp only [List.nil_append, compK]
    split
    · rename_i e; rw [e]
    · rfl
  | [z] => by
    simp only [List.cons_append, List.nil_append, compK]
    by_cases h1 : z = y <;> by_cases h2 : y = x <;> simp [h1, h2]
  | z :: w :: L => by
    have ih := compK_snoc (x := x) (y := y) (L := w :: L)
    simp only [List.cons_append, compK] at ih ⊢
    by_cases h1 : z = w
    · rw [if_pos h1, if_pos h1]; exact ih
    · rw [if_neg h1, if_neg h1, ih]
      split <;> simp
theorem compK_take {l : List Key} {m : Nat} (hm : m + 1 < l.length) : compK (l.take (m + 1 + 1)) = if l[m] = l[m + 1] then compK (l.take (m + 1)) else compK (l.take (m + 1)) ++ [l[m + 1]] := by
  rw [List.take_succ_eq_append_getElem hm, List.take_succ_eq_append_getElem (show m < l.length by omega), List.append_assoc]
  exact compK_snoc
/-- how things lie in the second loop -/
structure CmpI (l : List Key) (n0 k2 k : Nat) (A : List Key) : Prop where
  len : A.length = l.length
  le : n0 + k2 ≤ l.length
  one : 1 ≤ n0 ∧ 1 ≤ k2
  kk : k = (compK (l.take (n0 + k2))).length
  hd : A.take k = compK (l.take (n0 + k2))
  lt : k < n0 + k2
  tl : ∀ p, k ≤ p → A[p]? = l[p]?
theorem CmpI.first {l : List Key} {n0 : Nat} (h0 : n0 + 1 < l.length) (he : l[n0] = l[n0 + 1]) (hc : compK (l.take (n0 + 1)) = l.take (n0 + 1)) : CmpI l (n0 + 1) 1 (n0 + 1) l where
  len := rfl
  le := by omega
  one := by omega
  kk := by rw [compK_take h0, if_pos he, hc]; simp; omega
  hd := by rw [compK_take h0, if_pos he, hc]
  lt := by omega
  tl := fun _ _ => rfl
theorem CmpI.at {l A : List Key} {n0 k2 k : Nat} (x : CmpI l n0 k2 k A) (h : n0 + k2 < l.length) : ∃ (h1 : n0 + k2 < A.length) (h2 : n0 + k2 - 1 < A.length), A[n0 + k2] = l[n0 + k2] ∧ A[n0 + k2 - 1] = l[n0 + k2 - 1] := by
  have e := x.len
  have := x.one
  refine ⟨by omega, by omega, ?_, ?_⟩
  · have h1 := x.tl (n0 + k2) (by have := x.lt; omega)
    rw [List.getElem?_eq_getElem (by omega), List.getElem?_eq_getElem h] at h1
    exact Option.some.inj h1
  · have h1 := x.tl (n0 + k2 - 1) (by have := x.lt; omega)
    rw [List.getElem?_eq_getElem (by omega), List.getElem?_eq_getElem (by omega)] at h1
    exact Option.some.inj h1
theorem CmpI.same {l A : List Key} {n0 k2 k : Nat} (x : CmpI l n0 k2 k A) (h : n0 + k2 < l.length) (he : l[n0 + k2] = l[n0 + k2 - 1]) : CmpI l n0 (k2 + 1) k A := by
  obtain ⟨m, hm⟩ : ∃ m, n0 + k2 = m + 1 := ⟨n0 + k2 - 1, by have := x.one; omega⟩
  obtain ⟨a, b, c, d, e, f, g⟩ := x
  have hs := compK_take (l := l) (m := m) (by omega)
  simp only [hm, Nat.add_sub_cancel] at he
  rw [if_pos he.symm] at hs
  refine ⟨a, by omega, by omega, ?_, ?_, by omega, g⟩
  · rw [← Nat.add_assoc, hm, hs, ← hm]; exact d
  · rw [← Nat.add_assoc, hm, hs, ← hm]; exact e
theorem CmpI.other {l A : List Key} {n0 k2 k : Nat} (x : CmpI l n0 k2 k A) (h : n0 + k2 < l.length) (he : ¬ l[n0 + k2] = l[n0 + k2 - 1]) : CmpI l n0 (k2 + 1) (k + 1) (A.set k l[n0 + k2]) := by
  obtain ⟨m, hm⟩ : ∃ m, n0 + k2 = m + 1 := ⟨n0 + k2 - 1, by have := x.one; omega⟩
  obtain ⟨a, b, c, d, e, f, g⟩ := x
  have hs := compK_take (l := l) (m := m) (by omega)
  have he' : ¬ l[m] = l[m + 1] := fun hh => he (by simp only [hm, Nat.add_sub_cancel]; exact hh.symm)
  rw [if_neg he'] at hs
  refine ⟨by simp [a], by omega, by omega, ?_, ?_, by omega, fun p hp => ?_⟩
  · rw [← Nat.add_assoc]
    simp only [hm] at d ⊢
    rw [hs, List.length_append, ← d]
    rfl
  · rw [← Nat.add_assoc]
    simp only [hm] at e ⊢
    rw [hs, ← e, List.take_succ_eq_append_getElem (by simp; omega), List.take_set_of_le (Nat.le_refl _)]
    simp
  · rw [List.getElem?_set_ne (by omega)]
    exact g p (by omega)
end Go.Proofs.Ythjmkmoiopmfcaa

namespace Go.Proofs.Ythjmkmoiopmfcaa
open Go.D
set_option maxRecDepth 100000

section
variable {α : Type} (key : α → Key)
/-- the last element of a key -/
def lastB (l : List α) (k : Key) : Option α := l.reverse.find? fun p => key p = k
variable {key}
end
end Go.Proofs.Ythjmkmoiopmfcaa

namespace Go.Proofs.Ythjmkmoiopmfcaa
open Go.D
set_option maxRecDepth 100000

/-- what a run came to -/
structure Outc where
  e : Int
  vs : List Int
  ch : List Change
  s : Int
/-- how a run stands: its registers, what was written, what was answered -/
structure RS where
  reg : List Int
  w : List Change
  out : List Int
/-- a key's value, and whether it has one -/
def valE (m : List Pair) (w : List Change) (k : Key) : Int × Bool :=
  match lastB Change.k w k with
  | some c => (c.v, !c.e)
  | none => match lastB Pair.k m k with
    | some p => (p.v, true)
    | none => (0, false)
def key0 : Key := ⟨0, 0⟩
abbrev RS.r (s : RS) (i : Int) : Int := s.reg.getD i.toNat 0
abbrev RS.set (s : RS) (i : Int) (v : Int) : RS := { s with reg := s.reg.set i.toNat v }
abbrev RS.put (s : RS) (c : Change) : RS := { s with w := s.w ++ [c] }
def farK (x : Instr) (s : RS) : Key := ⟨IntKind.i32.wrap x.imm, s.r x.b⟩
/-- an instruction: -1 if the run goes on, else its end; how it stands then; where it jumps -/
def stepE (t : Txn) (m : List Pair) (x : Instr) (s : RS) : Int × RS × Option Int :=
  if x.op = 0 then (0, s, none)
  else if x.op = 1 then (-1, s.set x.a x.imm, none)
  else if x.op = 2 then (-1, s.set x.a (t.args.getD x.imm.toNat 0), none)
  else if x.op = 7 then (-1, s.set x.a (s.r x.b), none)
  else if x.op = 3 then (-1, s.set x.a (valE m s.w (t.reads.getD x.imm.toNat key0)).1, none)
  else if x.op = 4 then (-1, s.set x.a (if (valE m s.w (t.reads.getD x.imm.toNat key0)).2 then 1 else 0), none)
  else if x.op = 5 then (-1, s.put ⟨t.writes.getD x.imm.toNat key0, s.r x.a, false⟩, none)
  else if x.op = 6 then (-1, s.put ⟨t.writes.getD x.imm.toNat key0, 0, true⟩, none)
  else if x.op = 19 then (-1, s.set x.a (narrow (s.r x.a) x.imm), none)
  else if x.op = 22 then (-1, s, some x.imm)
  else if x.op = 23 then (-1, s, if s.r x.a = 0 then none else some x.imm)
  else if x.op = 24 then (if 8 ≤ s.out.length then (5, s, none) else (-1, { s with out := s.out ++ [s.r x.a] }, none))
  else if x.op = 25 then (100 + x.imm, s, none)
  else if x.op = 26 then (if farK x s ∈ t.reads then (-1, s.set x.a (valE m s.w (farK x s)).1, none) else (4, s, none))
  else if x.op = 27 then (if farK x s ∈ t.writes then (-1, s.put ⟨farK x s, s.r x.a, false⟩, none) else (4, s, none))
  else if (bin2 x.op (s.r x.a) (s.r x.b)).2 = 0 then (-1, s.set x.a (bin2 x.op (s.r x.a) (s.r x.b)).1, none)
  else ((bin2 x.op (s.r x.a) (s.r x.b)).2, s, none)
/-! ### Instructions and their addresses -/
end Go.Proofs.Ythjmkmoiopmfcaa

namespace Go.Proofs.Ythjmkmoiopmfcaa
open Go.D
set_option maxRecDepth 100000

end Go.Proofs.Ythjmkmoiopmfcaa

namespace Go.Proofs.Ythjmkmoiopmfcaa
open Go.D
set_option maxRecDepth 100000
end Go.Proofs.Ythjmkmoiopmfcaa

namespace Go.D
open Go.Sort Go.Proofs
variable {P : Program} {α : Type}

end Go.D

namespace Go.Proofs.Ythjmkmoiopmfcaa
open Go.D
open Go.Sort
set_option maxRecDepth 100000

end Go.Proofs.Ythjmkmoiopmfcaa

namespace Go.Proofs.Ythjmkmoiopmfcaa
open Go.D
open Go.Sort
set_option maxRecDepth 100000

end Go.Proofs.Ythjmkmoiopmfcaa

namespace Go.Proofs.Ythjmkmoiopmfcaa
open Go.D
set_option maxRecDepth 100000

end Go.Proofs.Ythjmkmoiopmfcaa

namespace Go.Proofs.Ythjmkmoiopmfcaa
open Go.D
set_option maxRecDepth 100000

end Go.Proofs.Ythjmkmoiopmfcaa

namespace Go.Proofs.Ythjmkmoiopmfcaa
open Go.D
set_option maxRecDepth 100000

end Go.Proofs.Ythjmkmoiopmfcaa

namespace Go.Proofs.Ythjmkmoiopmfcaa
open Go.D
set_option maxRecDepth 100000

end Go.Proofs.Ythjmkmoiopmfcaa

namespace Go.Proofs.Ythjmkmoiopmfcaa
open Go.D
set_option maxRecDepth 100000

/-- how things lie while the pairs are shifted -/
structure DelI (l : List Pair) (pd : Pair → Bool) (j k : Nat) (A : List Pair) : Prop where
  len : A.length = l.length
  le : j ≤ l.length
  kk : k = ((l.take j).filter fun x => !pd x).length
  hd : A.take k = (l.take j).filter fun x => !pd x
  lt : k < j
  tl : ∀ p, k < p → j ≤ p → A[p]? = l[p]?
theorem DelI.first {l : List Pair} {pd : Pair → Bool} {i : Nat} (hi : i < l.length) (hp : pd l[i] = true) (hn : ∀ x ∈ l.take i, pd x = false) : DelI l pd (i + 1) i l := by
  have e : (l.take (i + 1)).filter (fun x => !pd x) = l.take i := by
    rw [List.take_succ_eq_append_getElem hi, List.filter_append, List.filter_cons_of_neg (by simp [hp]), List.filter_nil, List.append_nil]
    exact List.filter_eq_self.2 fun x hx => by simp [hn x hx]
  refine ⟨rfl, hi, ?_, ?_, Nat.lt_succ_self _, fun _ _ _ => rfl⟩
  · rw [e, List.length_take]; omega
  · rw [e]
theorem DelI.at {l A : List Pair} {pd : Pair → Bool} {j k : Nat} (x : DelI l pd j k A) (h : j < l.length) : ∃ h1 : j < A.length, A[j] = l[j] := by
  have e := x.len
  refine ⟨by omega, ?_⟩
  have h1 := x.tl j x.lt (Nat.le_refl _)
  rw [List.getElem?_eq_getElem (by omega), List.getElem?_eq_getElem h] at h1
  exact Option.some.inj h1
theorem DelI.skip {l A : List Pair} {pd : Pair → Bool} {j k : Nat} (x : DelI l pd j k A) (h : j < l.length) (hp : pd l[j] = true) : DelI l pd (j + 1) k A := by
  have e : (l.take (j + 1)).filter (fun x => !pd x) = (l.take j).filter fun x => !pd x := by
    rw [List.take_succ_eq_append_getElem h, List.filter_append, List.filter_cons_of_neg (by simp [hp]), List.filter_nil, List.append_nil]
  exact ⟨x.len, h, by rw [e]; exact x.kk, by rw [e]; exact x.hd, Nat.lt_succ_of_lt x.lt, fun p h1 h2 => x.tl p h1 (by omega)⟩
theorem DelI.keep {l A : List Pair} {pd : Pair → Bool} {j k : Nat} (x : DelI l pd j k A) (h : j < l.length) (hp : pd l[j] = false) : DelI l pd (j + 1) (k + 1) (A.set k l[j]) := by
  have e : (l.take (j + 1)).filter (fun x => !pd x) = ((l.take j).filter fun x => !pd x) ++ [l[j]] := by
    rw [List.take_succ_eq_append_getElem h, List.filter_append, List.filter_cons_of_pos (by simp [hp]), List.filter_nil]
  have hlt := x.lt
  have hlen := x.len
  refine ⟨by rw [List.length_set]; exact x.len, h, by rw [e, List.length_append, ← x.kk]; rfl, ?_, by omega, fun p h1 h2 => ?_⟩
  · rw [e, ← x.hd, List.take_set, List.take_succ_eq_append_getElem (by omega), List.set_append_right _ _ (by simp; omega)]
    congr 1
    have : k - (List.take k A).length = 0 := by simp; omega
    rw [this]
    rfl
  · rw [List.getElem?_set_ne (by omega)]
    exact x.tl p (by omega) (by omega)
end Go.Proofs.Ythjmkmoiopmfcaa

namespace Go.Proofs.Ythjmkmoiopmfcaa
open Go.D
set_option maxRecDepth 100000

end Go.Proofs.Ythjmkmoiopmfcaa

namespace Go.Proofs.Ythjmkmoiopmfcaa
open Go.D
set_option maxRecDepth 100000

end Go.Proofs.Ythjmkmoiopmfcaa

namespace Go.D
variable {P : Program} {α : Type} {F : FRep α} {h h1 K : DHeap} {v : Value} {l : List α} {z b id : Nat} {ts : Array TypeId}

/-- what is no row of this width that may be written -/
def NoRow (h : DHeap) (i z : Nat) : Prop := ∀ cs, h.get i ≠ some (.row cs z false)
theorem NoRow.map {es : List MapEntry} {c : Nat} (g : h.get id = some (.map es c)) : NoRow h id z := fun cs e => by rw [g] at e; cases e
theorem NoRow.row {cs : List Value} {y : Nat} (g : h.get id = some (.row cs y false)) (hy : y ≠ z) : NoRow h id z := fun cs' e => by rw [g] at e; cases e; exact hy rfl
theorem NoRow.keep (n : NoRow h id z) (e : K.get id = h.get id) : NoRow K id z := fun cs g => n cs (e ▸ g)
end Go.D

namespace Go.Proofs.Ythjmkmoiopmfcaa
open Go.D
set_option maxRecDepth 100000

abbrev chgV (c : Change) : Value := .agg #[.int .i32 c.k.t, .int .i64 c.k.r, .int .i64 c.v, .bool c.e]
/-- a map of elements by their keys -/
def putB {α : Type} (key : α → Key) (enc : α → Value) (l : List α) : List (Key × Value) := l.foldl (fun m p => mput m (key p) (enc p)) []
section
variable {α : Type} {key : α → Key} {enc : α → Value}
theorem putB_snoc {l : List α} {x : α} : putB key enc (l ++ [x]) = mput (putB key enc l) (key x) (enc x) := by
  unfold putB
  rw [List.foldl_append]
  rfl
end
end Go.Proofs.Ythjmkmoiopmfcaa

namespace Go.Proofs.Ythjmkmoiopmfcaa
open Go.D
set_option maxRecDepth 100000

end Go.Proofs.Ythjmkmoiopmfcaa

namespace Go.D
variable {α : Type} {R : Rep α} {S D : Nat → Prop} {h h' K K' : DHeap} {v : Value} {l : List α} {id : Nat} {o : DObj}

/-- all but the blocks of D is as it was -/
structure KpD (D : Nat → Prop) (h K : DHeap) : Prop where
  next : h.next ≤ K.next
  ng : K.ng = h.ng
  get : ∀ i, i < h.next → ¬ D i → K.get i = h.get i
theorem KpD.refl (D : Nat → Prop) (h : DHeap) : KpD D h h := ⟨Nat.le_refl _, rfl, fun _ _ _ => rfl⟩
theorem KpD.set (k : KpD D h K) (hD : D id ∨ h.next ≤ id) : KpD D h (K.set id o) :=
  ⟨k.next, k.ng, fun i hi hn => (get_set_other _ _ (fun e : i = id => by
    subst e
    rcases hD with hD | hD
    · exact hn hD
    · omega)).trans (k.get i hi hn)⟩
theorem KpD.ext (k : KpD D h K) (e : Ext K K') : KpD D h K' :=
  ⟨Nat.le_trans k.next e.next, e.ng.trans k.ng, fun i hi hn => (e.get i (Nat.lt_of_lt_of_le hi k.next)).trans (k.get i hi hn)⟩
theorem KpD.of (e : Ext h K) : KpD D h K := (KpD.refl D h).ext e
theorem Sl.kp (a : Sl R S h v l) (k : KpD D h K) (hS : ∀ i, S i → i < h.next ∧ ¬ D i) : Sl R S K v l := a.mono fun i hi => ⟨hi, k.get i (hS i hi).1 (hS i hi).2⟩
theorem MapAt.kp {κ : Type} {enc : κ → Value} {m : List (κ × Value)} (a : MapAt enc h id m) (k : KpD D h K) (hi : id < h.next) (hn : ¬ D id) : MapAt enc K id m := a.keep (k.get id hi hn)
end Go.D

namespace Go.Proofs.Ythjmkmoiopmfcaa
open Go.D
set_option maxRecDepth 100000

/-- the cells of a run -/
def runL (t : Txn) (vc va vr vw : Value) (g : List Int) (hm mm am : Nat) (vo : Value) (pc : Int) : List Value :=
  .int .i64 t.ses :: .int .i64 t.req :: vc :: va :: vr :: vw :: (g.map (fun n => Value.int .i64 n) ++ [.map (some hm), .map (some mm), vo, .int .i64 pc, .map (some am)])
theorem len8 {g : List Int} (h : g.length = 8) : ∃ a b c d e f i j, g = [a, b, c, d, e, f, i, j] := by
  match g, h with
  | [a, b, c, d, e, f, i, j], _ => exact ⟨a, b, c, d, e, f, i, j, rfl⟩
section
variable {t : Txn} {vc va vr vw vo : Value} {g : List Int} {hm mm am : Nat} {pc : Int}
theorem runL_tail (hg : g.length = 8) : (runL t vc va vr vw g hm mm am vo pc)[14]? = some (.map (some hm)) ∧ (runL t vc va vr vw g hm mm am vo pc)[15]? = some (.map (some mm)) ∧ (runL t vc va vr vw g hm mm am vo pc)[16]? = some vo ∧ (runL t vc va vr vw g hm mm am vo pc)[17]? = some (.int .i64 pc) ∧ (runL t vc va vr vw g hm mm am vo pc)[18]? = some (.map (some am)) := by
  obtain ⟨r0, r1, r2, r3, r4, r5, r6, r7, rfl⟩ := len8 hg
  exact ⟨rfl, rfl, rfl, rfl, rfl⟩
end
/-- what stays in a run -/
structure RunC (h0 : DHeap) (b hm mm am : Nat) (t : Txn) (vc va vr vw : Value) (m : List Pair) (L : List Instr) : Prop where
  lb : b < h0.next
  lh : hm < h0.next
  lm : mm < h0.next
  la : am < h0.next
  bm : b ≠ mm
  hb : hm ≠ b
  hmm : hm ≠ mm
  ab : am ≠ b
  amm : am ≠ mm
  tx : TxV (fun i => i < h0.next ∧ ¬ (i = b ∨ i = mm)) h0 t vc va vr vw
  len : TxLen t
  has : MapAt keyV h0 hm (putB Pair.k (fun p => .int .i64 p.v) m)
  at_ : ∃ ms : List (Int × Value), MapAt (fun n : Int => Value.int .i64 n) h0 am ms ∧ ∀ (i : Nat) x, L[i]? = some x → mget ms x.pos = some (.int .i64 (i : Nat))
  okm : ∀ p ∈ m, fPair.ok p
/-- how it stands -/
structure RunI (h0 K : DHeap) (b hm mm am : Nat) (t : Txn) (vc va vr vw : Value) (s : RS) (pc : Int) : Prop where
  kp : KpD (fun i => i = b ∨ i = mm) h0 K
  row : ∃ vo w, K.get b = some (.row (runL t vc va vr vw s.reg hm mm am vo pc) 0 false) ∧ Owns fI64.rep NoS K vo s.out w ∧ ∀ i, w = some i → h0.next ≤ i
  mine : MapAt keyV K mm (putB Change.k chgV s.w)
  len : s.reg.length = 8
  ok : ∀ n ∈ s.reg, inK .i64 n
  outn : s.out.length ≤ 8
  wok : ∀ c ∈ s.w, fChange.ok c
section
variable {h0 K K' : DHeap} {b hm mm am : Nat} {t : Txn} {vc va vr vw : Value} {m : List Pair} {L : List Instr} {s : RS} {pc : Int}
theorem RunI.ext (C : RunC h0 b hm mm am t vc va vr vw m L) (I : RunI h0 K b hm mm am t vc va vr vw s pc) (e : Ext K K') : RunI h0 K' b hm mm am t vc va vr vw s pc := by
  obtain ⟨vo, w, g, o, hw⟩ := I.row
  have hn := I.kp.next
  have hlb := C.lb
  have hlm := C.lm
  exact ⟨I.kp.ext e, ⟨vo, w, (e.get _ (by omega)).trans g, o.mono e.next (fun i hi => e.get i (o.lt i hi)) (fun i hi => hi.elim), hw⟩, I.mine.keep (e.get _ (by omega)), I.len, I.ok, I.outn, I.wok⟩
theorem RunI.tx (C : RunC h0 b hm mm am t vc va vr vw m L) (I : RunI h0 K b hm mm am t vc va vr vw s pc) : TxV (InH K) K t vc va vr vw :=
  C.tx.mono fun i hi => ⟨Nat.lt_of_lt_of_le hi.1 I.kp.next, I.kp.get i hi.1 hi.2⟩
/-- its box is written -/
theorem RunI.box (C : RunC h0 b hm mm am t vc va vr vw m L) (I : RunI h0 K b hm mm am t vc va vr vw s pc) {s' : RS} {pc' : Int} {vo : Value} {w : Option Nat} (ho : Owns fI64.rep NoS K vo s'.out w) (hw : ∀ i, w = some i → h0.next ≤ i) (hwm : s'.w = s.w) (hl : s'.reg.length = 8) (hok : ∀ n ∈ s'.reg, inK .i64 n) (hn : s'.out.length ≤ 8) :
    RunI h0 (K.set b (.row (runL t vc va vr vw s'.reg hm mm am vo pc') 0 false)) b hm mm am t vc va vr vw s' pc' := by
  have hlb := C.lb
  refine ⟨I.kp.set (.inl (.inl rfl)), ⟨vo, w, get_set_same _ _, ho.mono (Nat.le_refl _) (fun i hi => get_set_other _ _ (by have := hw i hi; omega)) (fun i hi => hi.elim), hw⟩, ?_, hl, hok, hn, by rw [hwm]; exact I.wok⟩
  rw [hwm]
  exact I.mine.keep (get_set_other _ _ (fun e => C.bm e.symm))
theorem RunI.reg (C : RunC h0 b hm mm am t vc va vr vw m L) (I : RunI h0 K b hm mm am t vc va vr vw s pc) {vo : Value} (g : K.get b = some (.row (runL t vc va vr vw s.reg hm mm am vo pc) 0 false)) {a v : Int} (hv : inK .i64 v) : RunI h0 (K.set b (.row (runL t vc va vr vw (s.reg.set a.toNat v) hm mm am vo pc) 0 false)) b hm mm am t vc va vr vw (s.set a v) pc := by
  obtain ⟨vo', w, g', o, hw⟩ := I.row
  have : vo' = vo := by
    rw [g] at g'
    injection g' with g'
    injection g' with g'
    have h1 := (runL_tail (t := t) (vc := vc) (va := va) (vr := vr) (vw := vw) (vo := vo) (hm := hm) (mm := mm) (am := am) (pc := pc) I.len).2.2.1
    have h2 := (runL_tail (t := t) (vc := vc) (va := va) (vr := vr) (vw := vw) (vo := vo') (hm := hm) (mm := mm) (am := am) (pc := pc) I.len).2.2.1
    rw [g', h2] at h1
    exact Option.some.inj h1
  subst this
  refine I.box C (s' := s.set a v) o hw rfl (by simp [I.len]) (fun n hn => ?_) I.outn
  rcases List.mem_or_eq_of_mem_set hn with hn | rfl
  · exact I.ok n hn
  · exact hv
theorem RunI.pc' (C : RunC h0 b hm mm am t vc va vr vw m L) (I : RunI h0 K b hm mm am t vc va vr vw s pc) {vo : Value} (g : K.get b = some (.row (runL t vc va vr vw s.reg hm mm am vo pc) 0 false)) (n : Int) : RunI h0 (K.set b (.row (runL t vc va vr vw s.reg hm mm am vo n) 0 false)) b hm mm am t vc va vr vw s n := by
  obtain ⟨vo', w, g', o, hw⟩ := I.row
  have : vo' = vo := by
    rw [g] at g'
    injection g' with g'
    injection g' with g'
    have h1 := (runL_tail (t := t) (vc := vc) (va := va) (vr := vr) (vw := vw) (vo := vo) (hm := hm) (mm := mm) (am := am) (pc := pc) I.len).2.2.1
    have h2 := (runL_tail (t := t) (vc := vc) (va := va) (vr := vr) (vw := vw) (vo := vo') (hm := hm) (mm := mm) (am := am) (pc := pc) I.len).2.2.1
    rw [g', h2] at h1
    exact Option.some.inj h1
  subst this
  exact I.box C o hw rfl I.len I.ok I.outn
/-- a change is noted -/
theorem RunI.put (C : RunC h0 b hm mm am t vc va vr vw m L) (I : RunI h0 K b hm mm am t vc va vr vw s pc) {c : Change} {o : DObj} (hm2 : MapAt keyV (K.set mm o) mm (mput (putB Change.k chgV s.w) c.k (chgV c))) (hc : fChange.ok c) : RunI h0 (K.set mm o) b hm mm am t vc va vr vw (s.put c) pc := by
  obtain ⟨vo, w, g, ow, hw⟩ := I.row
  have hlm := C.lm
  refine ⟨I.kp.set (.inl (.inr rfl)), ⟨vo, w, (get_set_other _ _ C.bm).trans g, ow.mono (Nat.le_refl _) (fun i hi => get_set_other _ _ (by have := hw i hi; omega)) (fun i hi => hi.elim), hw⟩, ?_, I.len, I.ok, I.outn, fun x hx => ?_⟩
  · rw [show (s.put c).w = s.w ++ [c] from rfl, putB_snoc]
    exact hm2
  · rcases List.mem_append.1 hx with hx | hx
    · exact I.wok x hx
    · rw [List.mem_singleton.1 hx]
      exact hc
end
end Go.Proofs.Ythjmkmoiopmfcaa

namespace Go.Proofs.Ythjmkmoiopmfcaa
open Go.D
set_option maxRecDepth 100000

end Go.Proofs.Ythjmkmoiopmfcaa

namespace Go.Proofs.Ythjmkmoiopmfcaa
open Go.D
set_option maxRecDepth 100000

/-! what an instruction does, one by one -/
section
variable {t : Txn} {m : List Pair} {x : Instr} {s : RS}
end
/-- how a step ends -/
def StepP (h0 : DHeap) (b hm mm am : Nat) (t : Txn) (vc va vr vw : Value) (m : List Pair) (L : List Instr) (x : Instr) (s : RS) (pc : Int) (r : DEnd) (h1 : DHeap) : Prop :=
  r = .ret (.int .i64 (stepE t m x s).1) ∧ ∃ pc', RunI h0 h1 b hm mm am t vc va vr vw (stepE t m x s).2.1 pc' ∧ ((stepE t m x s).2.2 = none → pc' = pc) ∧ ∀ a, (stepE t m x s).2.2 = some a → ∃ (i : Nat) (y : Instr), L[i]? = some y ∧ y.pos = a ∧ pc' = (i : Nat)
section
variable {h0 h1 : DHeap} {b hm mm am : Nat} {t : Txn} {vc va vr vw : Value} {m : List Pair} {L : List Instr} {x : Instr} {s s' : RS} {pc e : Int}
theorem StepP.of (E : stepE t m x s = (e, s', none)) (I : RunI h0 h1 b hm mm am t vc va vr vw s' pc) : StepP h0 b hm mm am t vc va vr vw m L x s pc (.ret (.int .i64 e)) h1 := by
  unfold StepP
  rw [E]
  exact ⟨rfl, pc, I, fun _ => rfl, fun a ha => by cases ha⟩
end
end Go.Proofs.Ythjmkmoiopmfcaa

namespace Go.Proofs.Ythjmkmoiopmfcaa
open Go.D
set_option maxRecDepth 100000

end Go.Proofs.Ythjmkmoiopmfcaa

namespace Go.Proofs.Ythjmkmoiopmfcaa
open Go.D
set_option maxRecDepth 100000

abbrev nilV0 : Value := .slice none 0 0
/-- what a run answers -/
def RunR (h : DHeap) (o : Outc) (r : DEnd) (h1 : DHeap) : Prop := ∃ vv cv, r = .ret (.agg #[.int .i64 o.e, vv, cv, .int .i64 o.s]) ∧ Made fI64 h h1 vv o.vs ∧ Made fChange h h1 cv o.ch
theorem RunR.none {h h1 : DHeap} {e k : Int} (hE : Ext h h1) {o : Outc} (ho : o = ⟨e, [], [], k⟩) : RunR h o (.ret (.agg #[.int .i64 e, nilV0, nilV0, .int .i64 k])) h1 := by
  subst ho
  exact ⟨_, _, rfl, .nil _ hE, .nil _ hE⟩
end Go.Proofs.Ythjmkmoiopmfcaa

namespace Go.Proofs.Ythjmkmoiopmfcaa
open Go.D
set_option maxRecDepth 100000

end Go.Proofs.Ythjmkmoiopmfcaa

namespace Go.Proofs.Ythjmkmoiopmfcaa
open Go.D
set_option maxRecDepth 100000

end Go.Proofs.Ythjmkmoiopmfcaa

namespace Go.Proofs.Ythjmkmoiopmfcaa.lawBinary
open Go.D
open Go.ChangeShapes Go.WideShapes Go.ChangeAt Go.RowKit
theorem own : ownKnob Try.prog.godebug = none := by kernel_rfl
theorem p1 : Try.pinned.checked.prog.funcNamed Rows.evalBinaryUptoRow.func = some 4 := by kernel_rfl
theorem p2 : joinedFacts Try.pinned.checked.prog 4 Try.f4 (Rows.OpenSpec.upto Rows.evalBinarySpec).bare Rows.evalBinaryUptoRow = true := by kernel_rfl
theorem p3 : Try.f4.isInstance Try.pinned.checked.prog Rows.evalBinaryUptoRow.origin Rows.evalBinaryUptoRow.targs := of_decide_eq_true (by kernel_rfl)
end Go.Proofs.Ythjmkmoiopmfcaa.lawBinary
