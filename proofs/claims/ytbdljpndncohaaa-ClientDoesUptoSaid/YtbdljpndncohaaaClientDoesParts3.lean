/-
A part of the proof of a law: contracts of functions over plain heaps, and what they lean on. Conditions: none.
-/
import Derived.Sort.Statements
import Derived.Test.YtbdljpndncohaaaBase1
import Derived.Test.YtbdljpndncohaaaBase2
import Derived.Test.YtbdljpndncohaaaClientDoesParts1
import Derived.Test.YtbdljpndncohaaaClientDoesParts2
set_option linter.unusedSimpArgs false
set_option linter.unusedVariables false
namespace Go.D
variable {P : Program}

/-- a map's type, of a set of numbers -/
structure SetT (P : Program) (t : TypeId) (k : IntKind) : Prop where
  map : ∃ kt et, P.underlying t = some (.map kt et) ∧ P.underlying kt = some (.int k) ∧ zeroOf P et = some (.bool false)
/-- what lies in it -/
def SetAt (k : IntKind) (h : DHeap) (id : Nat) (ks : List Int) : Prop :=
  ∃ es c, h.get id = some (.map es c) ∧ (∀ e ∈ es, ∃ n, e.key = .int k n ∧ e.val = .bool true) ∧ ∀ n, n ∈ ks ↔ ∃ e ∈ es, e.key = .int k n
theorem findNow_int {k : IntKind} {n : Int} : ∀ {es : List MapEntry} {i : Nat}, (∀ e ∈ es, ∃ m, e.key = .int k m ∧ e.val = .bool true) →
    (∃ j, Instr.findNow (.int k) (.int k n) es i = some (some (j, .bool true)) ∧ i ≤ j ∧ ∃ e, es[j - i]? = some e ∧ e.key = .int k n) ∨ (Instr.findNow (.int k) (.int k n) es i = some none ∧ ∀ e ∈ es, e.key ≠ .int k n)
  | [], i, _ => .inr ⟨rfl, fun e he => by simp at he⟩
  | e :: es, i, h => by
    obtain ⟨m, h1, h2⟩ := h e (by simp)
    have ih := findNow_int (k := k) (n := n) (es := es) (i := i + 1) fun e he => h e (by simp [he])
    simp only [Instr.findNow, h1, Instr.sameNow, if_true]
    by_cases hm : n = m
    · subst hm
      refine .inl ⟨i, by simp [h2], Nat.le_refl _, e, by simp, h1⟩
    · have : (n == m) = false := by simpa using hm
      rw [this]
      rcases ih with ⟨j, a, b, e', c, d⟩ | ⟨a, b⟩
      · exact .inl ⟨j, a, by omega, e', by rw [show j - i = (j - (i + 1)) + 1 by omega]; exact c, d⟩
      · refine .inr ⟨a, fun e' he => ?_⟩
        rcases List.mem_cons.1 he with rfl | he
        · rw [h1]
          intro hh
          cases hh
          exact hm rfl
        · exact b e' he
theorem quick_und {t : TypeId} {d : TypeDesc} (hu : P.underlying t = some d) : quick P (underlying t) = some (.inr d) := by
  simp only [underlying, program, Bind.bind, Sem.bind, quick, hu]
  rfl
theorem checkKey_intN {kt : TypeId} {k : IntKind} (hu : P.underlying kt = some (.int k)) (b : Bool) (n : Int) (m : Nat) : quick P (Instr.checkKey b (m + 1) kt (.int k n)) = some (.inr ()) := by
  unfold Instr.checkKey
  rw [quick_bind (quick_und hu)]
  rfl
theorem checkKey_int {kt : TypeId} {k : IntKind} (hu : P.underlying kt = some (.int k)) (b : Bool) (n : Int) : ∃ u, quick P (Instr.checkKey b 10000 kt (.int k n)) = some (.inr u) := ⟨(), checkKey_intN hu b n 9999⟩
theorem sameBits_int {k : IntKind} {n : Int} (m : Nat) : Instr.sameBits (m + 1) (.int k n) (.int k n) = true := by simp [Instr.sameBits]
theorem SetAt.lookup {t : TypeId} {k : IntKind} {h : DHeap} {id : Nat} {ks : List Int} (T : SetT P t k) (a : SetAt k h id ks) (n : Int) : dLookup P t (.map (some id)) (.int k n) false h = some (.bool (decide (n ∈ ks))) := by
  obtain ⟨kt, et, u1, u2, u3⟩ := T.map
  obtain ⟨es, c, g, e1, e2⟩ := a
  obtain ⟨u, hck⟩ := checkKey_int (P := P) u2 es.isEmpty n
  have hm : dMapEs (.map (some id)) h = some es := by simp only [dMapEs, g]
  have hf3 : flat3 (.int k n) = true := rfl
  simp only [dLookup, u1, hm, hf3, if_true, hck]
  rcases findNow_int (k := k) (n := n) (es := es) (i := 0) e1 with ⟨j, a, _, e, c, d⟩ | ⟨a, b⟩
  · have hfd : dFind P kt (.int k n) es = some (some j) := by simp only [dFind, u2, a]; rfl
    rw [Nat.sub_zero] at c
    obtain ⟨m, h1, h2⟩ := e1 e (List.mem_of_getElem? c)
    rw [decide_eq_true ((e2 n).2 ⟨e, List.mem_of_getElem? c, d⟩)]
    simp only [hfd, c, h2]
    rfl
  · have hfd : dFind P kt (.int k n) es = some none := by simp only [dFind, u2, a]; rfl
    rw [decide_eq_false (fun hh => by
      obtain ⟨e, he, hk⟩ := (e2 n).1 hh
      exact b e he hk)]
    simp only [hfd, u3]
    rfl
theorem SetAt.update {t : TypeId} {k : IntKind} {h : DHeap} {id : Nat} {ks : List Int} (T : SetT P t k) (a : SetAt k h id ks) (n : Int) : ∃ o, dMapUpdate P t (.map (some id)) (.int k n) (.bool true) h = some (h.set id o) ∧ SetAt k (h.set id o) id (ks ++ [n]) := by
  obtain ⟨kt, et, u1, u2, u3⟩ := T.map
  obtain ⟨es, c, g, e1, e2⟩ := a
  obtain ⟨u, hck⟩ := checkKey_int (P := P) u2 false n
  have hf3 : flat3 (.int k n) = true := rfl
  simp only [dMapUpdate, u1, g, hf3, if_true, hck]
  rcases findNow_int (k := k) (n := n) (es := es) (i := 0) e1 with ⟨j, a, _, e, c', d⟩ | ⟨a, b⟩
  · have hfd : dFind P kt (.int k n) es = some (some j) := by simp only [dFind, u2, a]; rfl
    rw [Nat.sub_zero] at c'
    have hsb : Instr.sameBits 10000 e.key (.int k n) = true := by
      rw [d]
      exact sameBits_int 9999
    simp only [hfd, c', hsb, if_true]
    refine ⟨_, rfl, _, _, get_set_same _ _, fun e' he => ?_, fun m => ?_⟩
    · rcases List.mem_or_eq_of_mem_set he with he | he
      · exact e1 e' he
      · exact ⟨n, by rw [he], by rw [he]⟩
    · rw [List.mem_append, e2 m]
      constructor
      · rintro (⟨e', he, hk⟩ | hm)
        · obtain ⟨i, hi⟩ := List.mem_iff_getElem?.1 he
          by_cases hij : j = i
          · subst hij
            rw [c'] at hi
            cases hi
            rw [d] at hk
            cases hk
            exact ⟨{ e with key := .int k n, val := .bool true }, List.mem_iff_getElem?.2 ⟨j, by rw [List.getElem?_set, if_pos rfl, if_pos (List.getElem?_eq_some_iff.1 c').1]⟩, rfl⟩
          · exact ⟨e', List.mem_iff_getElem?.2 ⟨i, by rw [List.getElem?_set, if_neg hij]; exact hi⟩, hk⟩
        · simp only [List.mem_singleton] at hm
          subst hm
          exact ⟨{ e with key := .int k m, val := .bool true }, List.mem_iff_getElem?.2 ⟨j, by rw [List.getElem?_set, if_pos rfl, if_pos (List.getElem?_eq_some_iff.1 c').1]⟩, rfl⟩
      · rintro ⟨e', he, hk⟩
        rcases List.mem_or_eq_of_mem_set he with he | he
        · exact .inl ⟨e', he, hk⟩
        · rw [he] at hk
          cases hk
          exact .inr (by simp)
  · have hfd : dFind P kt (.int k n) es = some none := by simp only [dFind, u2, a]; rfl
    simp only [hfd]
    refine ⟨_, rfl, _, _, get_set_same _ _, fun e' he => ?_, fun m => ?_⟩
    · rcases List.mem_append.1 he with he | he
      · exact e1 e' he
      · simp only [List.mem_singleton] at he
        exact ⟨n, by rw [he], by rw [he]⟩
    · rw [List.mem_append, e2 m]
      constructor
      · rintro (⟨e', he, hk⟩ | hm)
        · exact ⟨e', by simp [he], hk⟩
        · simp only [List.mem_singleton] at hm
          subst hm
          exact ⟨_, List.mem_append.2 (.inr (List.mem_singleton.2 rfl)), rfl⟩
      · rintro ⟨e', he, hk⟩
        rcases List.mem_append.1 he with he | he
        · exact .inl ⟨e', he, hk⟩
        · simp only [List.mem_singleton] at he
          rw [he] at hk
          cases hk
          exact .inr (by simp)
theorem SetAt.keep {k : IntKind} {h h' : DHeap} {id : Nat} {ks : List Int} (a : SetAt k h id ks) (hg : h'.get id = h.get id) : SetAt k h' id ks := by
  obtain ⟨es, c, g, e⟩ := a
  exact ⟨es, c, hg.trans g, e⟩
theorem SetAt.new {k : IntKind} {h : DHeap} : SetAt k (h.push (.map [] 0)) h.next [] := ⟨[], 0, get_push_same _ _, by simp, by simp⟩
theorem XLoop_cut {nt id : Nat} {c : Code} {K : St → Prop} {Q : DExit → St → Prop} {s : St} (M : St → Prop) (h1 : XLoop P nt c (DBlock id (DThen M Q)) s) (h3 : ∀ s', M s' → K s') : XLoop P nt c (DBlock id (DThen K Q)) s := xblock_cut (c := .loop c) M h1 h3
end Go.D

namespace Go.Proofs.Ytbdljpndncohaaa
open Go.D
set_option maxRecDepth 100000

/-- what gives up with an error -/
def failV (e : Int) : Value := .iface 117 (.agg #[.int .i64 e])
theorem failV_vin {S : Nat → Prop} (e : Int) : VIn S (failV e) := .iface (.agg fun v hv => by simp at hv; subst hv; exact .int _ _)
theorem bd_fail (e : Int) : dBuild Try.prog 117 [(0, .int .i64 e)] = some (.agg #[.int .i64 e]) := dBuild_at plc_117 rfl
theorem must_no {h : DHeap} : DC Try.prog 63 [.int .i64 0] h (.ret (.tuple #[])) h := by
  refine Ct.pure (go_63 (by simp) ?_) (.tuple fun v hv => by simp at hv)
  simp -implicitDefEqProofs (disch:=first|omega|simp only [go_sem,Nat.reduceAdd]) only [go_sem,Int.reduceLT,Int.reduceLE,Int.reduceEq,reduceIte,true_and, c63]
  exact ⟨_, rfl, rfl, .refl h⟩
theorem must_yes {h : DHeap} {e : Int} (he : e ≠ 0) : DC Try.prog 63 [.int .i64 e] h (.pan (failV e)) h := by
  refine Ct.purePan (go_63 (by simp) ?_) (failV_vin e)
  simp -implicitDefEqProofs (disch:=first|omega|simp only [go_sem,Nat.reduceAdd]) only [go_sem,Int.reduceLT,Int.reduceLE,Int.reduceEq,reduceIte,true_and, c63, bd_fail, he]
  exact ⟨rfl, .refl h⟩
theorem all_c {h : DHeap} {v : Value} {l : List Int} (hb : Arg fU8.rep h v l) (hl : l.length ≤ 1048576) :
    Ct Try.prog 61 [v] h fun r h1 => ((walkAt l 0).2 = 0 ∧ ∃ w, r = .ret w ∧ Made fInstr h h1 w (walkAt l 0).1) ∨ ((walkAt l 0).2 ≠ 0 ∧ r = .pan (failV (walkAt l 0).2) ∧ Ext h h1) := by
  refine go_61 (by simp) ?_
  have el : ∀ K, dLen Try.prog #[22] v K = some (.int .i64 (l.length : Nat)) := hb.lens (P := Try.prog) (ts := #[22]) (t := 22) rfl isl_22
  have hbl := bytes_le hb
  simp -implicitDefEqProofs (disch:=first|omega|simp only [go_sem,Nat.reduceAdd]) only [go_sem,Int.reduceLT,Int.reduceLE,Int.reduceEq,reduceIte,true_and, c61]
  refine xloop (σ := Nat × List Instr) (by kernel_rfl) (fun a s => s.df = [] ∧ s.rd = none ∧ s.fr 0 = some v ∧ s.fr 4 = some (.int .i64 (a.1 : Nat)) ∧ (∃ w, s.fr 3 = some w ∧ Made fInstr h s.h w a.2) ∧ a.1 ≤ l.length ∧ a.2.length ≤ a.1 ∧ walkAt l 0 = (a.2 ++ (walkAt l a.1).1, (walkAt l a.1).2)) (fun a => l.length - a.1) (0, []) ?_ ?_
  · simp -implicitDefEqProofs (disch:=first|omega|simp only [go_sem,Nat.reduceAdd]) only [go_sem,Int.reduceLT,Int.reduceLE,Int.reduceEq,reduceIte,true_and]
    exact ⟨rfl, ⟨_, rfl, .nil _ (.refl h)⟩, Nat.zero_le _, Nat.le_refl _, trivial⟩
  · rintro ⟨i, acc⟩ ⟨fr, df, K, rd⟩ K' hK' hX ⟨rfl, hrd, f0, f4, ⟨w, f3, hm⟩, hi, hal, hw⟩
    simp only at hrd f0 f4 f3 hm hi hal hw
    subst hrd
    have hE := hm.ext
    simp -implicitDefEqProofs (disch:=first|omega|simp only [go_sem,Nat.reduceAdd]) only [go_sem,Int.reduceLT,Int.reduceLE,Int.reduceEq,reduceIte,true_and, f0, f4, el]
    refine XIf_dec (fun hc1 => ?_) (fun hc1 => ?_)
    · have hil : i < l.length := by omega
      have hst := walkAt_step hil
      simp -implicitDefEqProofs (disch:=first|omega|simp only [go_sem,Nat.reduceAdd]) only [go_sem,Int.reduceLT,Int.reduceLE,Int.reduceEq,reduceIte,true_and, f0, f4]
      refine ncall (one_c (hb.ext hE) (by omega) (by omega)) ?_
      obtain ⟨x, hx⟩ : ∃ x, (oneT l i).1 = x := ⟨_, rfl⟩
      obtain ⟨K1, hK1⟩ : ∃ K1, K1 = K.push (.row (fInstr.enc x) 0 false) := ⟨_, rfl⟩
      have g : K1.get K.next = some (.row (fInstr.enc x) 0 false) := by rw [hK1]; exact get_push_same _ _
      have lc : cellsAt K1 K.next 0 5 = some (instrV x) := by rw [cellsAt_row g (Nat.le_of_ble_eq_true rfl)]; rfl
      have hm1 : Made fInstr h K1 w acc := hm.on (by rw [hK1]; exact Ext.push1 _ _)
      rw [hx]
      have s5 := store5 (h := K) (x := x)
      rw [← hK1] at s5
      by_cases he : (oneT l i).2.2 = 0
      · obtain ⟨e1, e2, _, e4, e5⟩ := oneT_next he
        have hok := oneT_ok (by omega) hbl he
        rw [hx] at hok
        rw [if_pos he, hx] at hst
        obtain ⟨nx, hnx⟩ : ∃ nx : Nat, (oneT l i).2.1 = nx := ⟨(oneT l i).2.1.toNat, by omega⟩
        rw [hnx] at hst ⊢
        rw [he]
        have hbs : ∀ K : DHeap, dBuildSlice Try.prog 91 1 [(0, instrV x)] K = some (.slice (some ⟨K.next, 0, none⟩) 1 1, K.push (.row (fInstr.enc x) 5 false)) := fun K => bs1_91 rfl
        obtain ⟨w2, h2, e6, m2⟩ := hm1.snoc app_91 (y := x) (cs := fInstr.enc x) (z := 5) rfl rfl hok (by omega) (by decide)
        simp -implicitDefEqProofs (disch:=first|omega|simp only [go_sem,Nat.reduceAdd]) only [go_sem,Int.reduceLT,Int.reduceLE,Int.reduceEq,reduceIte,true_and, s5]
        refine ncall must_no ?_
        simp -implicitDefEqProofs (disch:=first|omega|simp only [go_sem,Nat.reduceAdd]) only [go_sem,Int.reduceLT,Int.reduceLE,Int.reduceEq,reduceIte,true_and, f3, lc, hbs, e6]
        refine hK' (nx, acc ++ [x]) _ ?_ (by simp only; omega)
        refine ⟨by trivial, by trivial, (vy f0), vz, ⟨w2, vz, m2⟩, by simp only; omega, by simp; omega, ?_⟩
        rw [hw, hst]
        simp
      · rw [if_neg he] at hst
        simp -implicitDefEqProofs (disch:=first|omega|simp only [go_sem,Nat.reduceAdd]) only [go_sem,Int.reduceLT,Int.reduceLE,Int.reduceEq,reduceIte,true_and, s5]
        refine ncall_pan (must_yes he) ?_
        refine hX _ _ (by simp) ?_
        simp -implicitDefEqProofs (disch:=first|omega|simp only [go_sem,Nat.reduceAdd]) only [go_sem,Int.reduceLT,Int.reduceLE,Int.reduceEq,reduceIte,true_and]
        refine .inr ⟨?_, ?_, hm1.ext⟩
        · rw [hw, hst]; exact he
        · rw [hw, hst]
    · refine hX _ _ (by simp) ?_
      simp -implicitDefEqProofs (disch:=first|omega|simp only [go_sem,Nat.reduceAdd]) only [go_sem,Int.reduceLT,Int.reduceLE,Int.reduceEq,reduceIte,true_and, f3]
      have := walkAt_end (l := l) (i := i) (by omega)
      refine ⟨_, rfl, .inl ⟨?_, w, rfl, ?_⟩⟩
      · rw [hw, this]
      · rw [hw, this, List.append_nil]; exact hm
theorem caught_c {h : DHeap} {e : Int} : DC Try.prog 60 [failV e] h (.ret (.int .i64 e)) h := by
  refine Ct.pure (go_60 (by simp) ?_) (vin_int _ _)
  simp -implicitDefEqProofs (disch:=first|omega|simp only [go_sem,Nat.reduceAdd]) only [go_sem,Int.reduceLT,Int.reduceLE,Int.reduceEq,reduceIte,true_and, c60, failV, store1_push (v := .int .i64 e) rfl, cell1_push]
  exact ⟨_, rfl, rfl, Ext.push1 _ _⟩
theorem neq_fail {e : Int} {ox oy : Operand} {h : DHeap} : dBinOp Try.prog .neq 20 ox oy (failV e) .nilIface h = .ok (.value (.bool true)) h := by
  kernel_rfl
theorem neq_none {i : Nat} {h : DHeap} : dBinOp Try.prog .neq 20 (T i) (.const .nilIface) .nilIface .nilIface h = .ok (.value (.bool false)) h := by
  kernel_rfl
/-- where nothing was given up -/
theorem dec_ret {h : DHeap} {x y : Value} : DCD Try.prog 59 [x, y] .ret h .ret h := by
  refine DCD_recN (fn := Try.f59) (rs := []) (by kernel_rfl) body_59 (by kernel_rfl) (by kernel_rfl) (n := 8) (Nat.le_of_ble_eq_true rfl) (by kernel_rfl) (.refl h) ?_
  simp only [XOpsR]
  simp -implicitDefEqProofs (disch:=first|omega|simp only [go_sem,Nat.reduceAdd]) only [go_sem,Int.reduceLT,Int.reduceLE,Int.reduceEq,reduceIte,true_and, dBuiltin_recover, neq_none]
  exact ⟨rfl, trivial⟩
/-- where it was -/
theorem dec_pan {h : DHeap} {a b : Nat} {e : Int} {c d : Value} {z y : Nat} (ha : h.get a = some (.row [c] z false)) (hb : h.get b = some (.row [d] y false)) (hab : b ≠ a) :
    DCD Try.prog 59 [.pointer (some ⟨a, 0, none⟩), .pointer (some ⟨b, 0, none⟩)] (.pan (failV e)) h (.recd (failV e)) ((h.set a (.row [.slice none 0 0] z false)).set b (.row [.int .i64 e] y false)) := by
  refine DCD_recN (fn := Try.f59) (rs := []) (by kernel_rfl) body_59 (by kernel_rfl) (by kernel_rfl) (n := 8) (Nat.le_of_ble_eq_true rfl) (by kernel_rfl) ((HStep.set _ _ _).trans (HStep.set _ _ _)) ?_
  simp only [XOpsR]
  have w1 := storeAt_row (o := 0) (vs := [.slice none 0 0]) ha (Nat.le_of_ble_eq_true rfl) rfl
  have w2 := storeAt_row (o := 0) (vs := [.int .i64 e]) ((get_set_other _ _ hab).trans hb : (h.set a (.row (setAt [c] 0 [.slice none 0 0]) z false)).get b = _) (Nat.le_of_ble_eq_true rfl) rfl
  have tc := caught_c (h := h) (e := e)
  simp -implicitDefEqProofs (disch:=first|omega|simp only [go_sem,Nat.reduceAdd]) only [go_sem,Int.reduceLT,Int.reduceLE,Int.reduceEq,reduceIte,true_and, dBuiltin_recover, neq_fail]
  refine ncall tc ?_
  simp -implicitDefEqProofs (disch:=first|omega|simp only [go_sem,Nat.reduceAdd]) only [go_sem,Int.reduceLT,Int.reduceLE,Int.reduceEq,reduceIte,true_and, w1, w2]
  exact ⟨rfl, rfl⟩
end Go.Proofs.Ytbdljpndncohaaa

namespace Go.Proofs.Ytbdljpndncohaaa
open Go.D
set_option maxRecDepth 100000

def targetsOk (xs : List Instr) : Bool := xs.all fun x => !jumpsB x.op || decide (x.imm ∈ xs.map (·.pos))
def decE (l : List Int) : Int := if 512 < l.length then 3 else if (walkAt l 0).2 ≠ 0 then (walkAt l 0).2 else if targetsOk (walkAt l 0).1 then 0 else 131
def decL (l : List Int) : List Instr := if decE l = 0 then (walkAt l 0).1 else []
theorem instr_idx {S : Nat → Prop} {h : DHeap} {v : Value} {l : List Instr} {i : Nat} (hb : Sl fInstr.rep S h v l) (hi : i < l.length) :
    ∃ id o, dIndexAddr Try.prog 91 v (.int .i64 (i : Nat)) = some (.pointer (some ⟨id, o, none⟩)) ∧ cellsAt h id o 5 = some (instrV l[i]) ∧ cellAt h id (o + 0) = some (.int .i64 l[i].pos) ∧ cellAt h id (o + 1) = some (.int .i64 l[i].op) ∧ cellAt h id (o + 4) = some (.int .i64 l[i].imm) := by
  obtain ⟨id, o, g, hs, hat⟩ := hb.idx (P := Try.prog) (t := 91) el_91 (k := .i64) (List.getElem?_eq_getElem hi)
  obtain ⟨a, b, _⟩ := hat.flat
  exact ⟨id, o, g, b, a 0 (by decide), a 1 (by decide), a 4 (by decide)⟩
theorem refBegins_c {h : DHeap} {v : Value} {l : List Instr} {n : Int} (hb : Arg fInstr.rep h v l) (hl : l.length ≤ 1048576) :
    DC Try.prog 58 [v, .int .i64 n] h (.ret (.bool (decide (n ∈ l.map (·.pos))))) h := by
  refine Ct.pure (go_58 (by simp) ?_) (vin_bool _)
  have el : ∀ K, dLen Try.prog #[91] v K = some (.int .i64 (l.length : Nat)) := hb.lens (P := Try.prog) (ts := #[91]) (t := 91) rfl isl_91
  simp -implicitDefEqProofs (disch:=first|omega|simp only [go_sem,Nat.reduceAdd]) only [go_sem,Int.reduceLT,Int.reduceLE,Int.reduceEq,reduceIte,true_and, c58]
  refine xloop (σ := Nat) (by kernel_rfl) (fun i s => s.df = [] ∧ s.h = h ∧ s.fr 0 = some v ∧ s.fr 1 = some (.int .i64 n) ∧ s.fr 5 = some (.int .i64 (i : Nat)) ∧ i ≤ l.length ∧ ∀ j, j < i → ∀ x, l[j]? = some x → x.pos ≠ n) (fun i => l.length - i) 0 ?_ ?_
  · simp -implicitDefEqProofs (disch:=first|omega|simp only [go_sem,Nat.reduceAdd]) only [go_sem,Int.reduceLT,Int.reduceLE,Int.reduceEq,reduceIte,true_and]
    exact ⟨rfl, Nat.zero_le _, fun j hj => absurd hj (Nat.not_lt_zero j)⟩
  · rintro i ⟨fr, df, K, rd⟩ K' hK' hX ⟨rfl, rfl, f0, f1, f5, hi, hn⟩
    simp only at f0 f1 f5
    simp -implicitDefEqProofs (disch:=first|omega|simp only [go_sem,Nat.reduceAdd]) only [go_sem,Int.reduceLT,Int.reduceLE,Int.reduceEq,reduceIte,true_and, f0, f5, el]
    refine XIf_dec (fun hc1 => ?_) (fun hc1 => ?_)
    · have hj : i < l.length := by omega
      obtain ⟨id, o, g, _, c0, _, _⟩ := instr_idx hb hj
      rw [Nat.add_zero] at c0
      have hw1 := wrap_succ hj (by omega)
      simp -implicitDefEqProofs (disch:=first|omega|simp only [go_sem,Nat.reduceAdd]) only [go_sem,Int.reduceLT,Int.reduceLE,Int.reduceEq,reduceIte,true_and, f0, f1, f5, g, c0]
      by_cases he : l[i].pos = n
      · have he' := eq_true he
        simp -implicitDefEqProofs (disch:=first|omega|simp only [go_sem,Nat.reduceAdd]) only [go_sem,Int.reduceLT,Int.reduceLE,Int.reduceEq,reduceIte,true_and, he']
        refine hX _ _ (by simp) ?_
        simp -implicitDefEqProofs (disch:=first|omega|simp only [go_sem,Nat.reduceAdd]) only [go_sem,Int.reduceLT,Int.reduceLE,Int.reduceEq,reduceIte,true_and]
        refine ⟨_, rfl, ?_, .refl _⟩
        rw [decide_eq_true (List.mem_map.2 ⟨l[i], List.getElem_mem hj, he⟩)]
      · simp -implicitDefEqProofs (disch:=first|omega|simp only [go_sem,Nat.reduceAdd]) only [go_sem,Int.reduceLT,Int.reduceLE,Int.reduceEq,reduceIte,true_and, he, f5, hw1]
        refine hK' (i + 1) _ ?_ (by omega)
        refine ⟨by trivial, by trivial, (vy f0), (vy f1), vz, by omega, fun j hj2 x hx => ?_⟩
        by_cases hji : j = i
        · subst hji
          rw [List.getElem?_eq_getElem hj] at hx
          cases hx
          exact he
        · exact hn j (by omega) x hx
    · refine hX _ _ (by simp) ?_
      simp -implicitDefEqProofs (disch:=first|omega|simp only [go_sem,Nat.reduceAdd]) only [go_sem,Int.reduceLT,Int.reduceLE,Int.reduceEq,reduceIte,true_and]
      refine ⟨_, rfl, ?_, .refl _⟩
      rw [decide_eq_false (fun hh => by
        obtain ⟨x, hx, hp⟩ := List.mem_map.1 hh
        obtain ⟨j, hj⟩ := List.mem_iff_getElem?.1 hx
        exact hn j (by have := (List.getElem?_eq_some_iff.1 hj).1; omega) x hj hp)]
/-- so far all jumps go to where an instruction begins -/
def jumpsSo (l : List Instr) (i : Nat) : Prop := ∀ j x, j < i → l[j]? = some x → jumpsB x.op = true → x.imm ∈ l.map (·.pos)
theorem targets_all {l : List Instr} (h : jumpsSo l l.length) : targetsOk l = true := by
  unfold targetsOk
  rw [List.all_eq_true]
  intro x hx
  obtain ⟨j, hj⟩ := List.mem_iff_getElem?.1 hx
  cases hb : jumpsB x.op with
  | false => rfl
  | true => simpa using h j x (List.getElem?_eq_some_iff.1 hj).1 hj hb
theorem targets_bad {l : List Instr} {x : Instr} (hx : x ∈ l) (hb : jumpsB x.op = true) (hm : x.imm ∉ l.map (·.pos)) : targetsOk l = false := by
  unfold targetsOk
  rw [List.all_eq_false]
  exact ⟨x, hx, by simp [hb]; simpa using hm⟩
theorem jumpsSo_succ {l : List Instr} {i : Nat} (hi : i < l.length) (h : jumpsSo l i) (hx : jumpsB l[i].op = true → l[i].imm ∈ l.map (·.pos)) : jumpsSo l (i + 1) := by
  intro j x hj hjx hb
  by_cases hji : j = i
  · subst hji
    rw [List.getElem?_eq_getElem hi] at hjx
    cases hjx
    exact hx hb
  · exact h j x (by omega) hjx hb
theorem refDecode_c {h : DHeap} {v : Value} {l : List Int} (hb : Arg fU8.rep h v l) (hl : l.length ≤ 1048576) :
    Ct Try.prog 41 [v] h fun r h1 => ∃ w, r = .ret (.tuple #[w, .int .i64 (decE l)]) ∧ Ext h h1 ∧ Arg fInstr.rep h1 w (decL l) := by
  refine go_41 (by simp) ?_
  have el : ∀ K, dLen Try.prog #[22] v K = some (.int .i64 (l.length : Nat)) := hb.lens (P := Try.prog) (ts := #[22]) (t := 22) rfl isl_22
  by_cases h0 : (512 : Int) < (l.length : Nat)
  · have h0' := eq_true h0
    have hE : decE l = 3 := by rw [decE, if_pos (by omega)]
    simp -implicitDefEqProofs (disch:=first|omega|simp only [go_sem,Nat.reduceAdd]) only [go_sem,Int.reduceLT,Int.reduceLE,Int.reduceEq,reduceIte,true_and, c41, el, h0']
    refine ⟨_, rfl, _, by rw [hE], .refl _, ?_⟩
    rw [decL, hE]
    exact .nil _ _ _
  have hE0 : decE l = if (walkAt l 0).2 ≠ 0 then (walkAt l 0).2 else if targetsOk (walkAt l 0).1 then 0 else 131 := by rw [decE, if_neg (by omega)]
  simp -implicitDefEqProofs (disch:=first|omega|simp only [go_sem,Nat.reduceAdd]) only [go_sem,Int.reduceLT,Int.reduceLE,Int.reduceEq,reduceIte,true_and, c41, el, h0]
  refine ncall_ct (refWalk_c hb hl) ?_
  rintro r h1 ⟨w, rfl, hm⟩
  have hlen := walkAt_len (l := l) (n := l.length) (i := 0) (by omega)
  obtain ⟨xs, hxs⟩ : ∃ xs, (walkAt l 0).1 = xs := ⟨_, rfl⟩
  obtain ⟨e, he⟩ : ∃ e, (walkAt l 0).2 = e := ⟨_, rfl⟩
  rw [hxs] at hm hlen
  rw [hxs, he] at hE0
  rw [he]
  have hEx := hm.ext
  by_cases h1e : e = 0
  case neg =>
    rw [if_pos h1e] at hE0
    simp -implicitDefEqProofs (disch:=first|omega|simp only [go_sem,Nat.reduceAdd]) only [go_sem,Int.reduceLT,Int.reduceLE,Int.reduceEq,reduceIte,true_and, XEnd, h1e]
    refine ⟨_, rfl, _, by rw [hE0], hEx, ?_⟩
    rw [decL, hE0, if_neg h1e]
    exact .nil _ _ _
  rw [if_neg (fun hh => hh h1e)] at hE0
  have h1e' := eq_true h1e
  have elw : ∀ K, dLen Try.prog #[91] w K = some (.int .i64 (xs.length : Nat)) := hm.arg.lens (P := Try.prog) (ts := #[91]) (t := 91) rfl isl_91
  simp -implicitDefEqProofs (disch:=first|omega|simp only [go_sem,Nat.reduceAdd]) only [go_sem,Int.reduceLT,Int.reduceLE,Int.reduceEq,reduceIte,true_and, XEnd, h1e']
  refine xloop (σ := Nat) (by kernel_rfl) (fun i s => s.df = [] ∧ s.h = h1 ∧ s.fr 4 = some w ∧ s.fr 6 = some (.int .i64 (i : Nat)) ∧ i ≤ xs.length ∧ jumpsSo xs i) (fun i => xs.length - i) 0 ?_ ?_
  · simp -implicitDefEqProofs (disch:=first|omega|simp only [go_sem,Nat.reduceAdd]) only [go_sem,Int.reduceLT,Int.reduceLE,Int.reduceEq,reduceIte,true_and]
    exact ⟨rfl, Nat.zero_le _, fun j x hj => absurd hj (Nat.not_lt_zero j)⟩
  · rintro i ⟨fr, df, K, rd⟩ K' hK' hX ⟨rfl, rfl, f4, f6, hi, hso⟩
    simp only at f4 f6
    simp -implicitDefEqProofs (disch:=first|omega|simp only [go_sem,Nat.reduceAdd]) only [go_sem,Int.reduceLT,Int.reduceLE,Int.reduceEq,reduceIte,true_and, f4, f6, elw]
    refine XIf_dec (fun hc1 => ?_) (fun hc1 => ?_)
    · have hj : i < xs.length := by omega
      obtain ⟨id, o, g, _, _, c1, c4⟩ := instr_idx hm.arg hj
      have hw1 := wrap_succ hj (by omega)
      simp -implicitDefEqProofs (disch:=first|omega|simp only [go_sem,Nat.reduceAdd]) only [go_sem,Int.reduceLT,Int.reduceLE,Int.reduceEq,reduceIte,true_and, f4, f6, g, c1]
      refine ncall refJumps_c ?_
      by_cases hjb : jumpsB xs[i].op = true
      case neg =>
        have hjb' : jumpsB xs[i].op = false := by simpa using hjb
        simp -implicitDefEqProofs (disch:=first|omega|simp only [go_sem,Nat.reduceAdd]) only [go_sem,Int.reduceLT,Int.reduceLE,Int.reduceEq,reduceIte,true_and, hjb', dPick_t, dPick_f, f6, hw1]
        refine hK' (i + 1) _ ?_ (by omega)
        exact ⟨by trivial, by trivial, (vy f4), vz, by omega, jumpsSo_succ hj hso fun hh => absurd hh hjb⟩
      simp -implicitDefEqProofs (disch:=first|omega|simp only [go_sem,Nat.reduceAdd]) only [go_sem,Int.reduceLT,Int.reduceLE,Int.reduceEq,reduceIte,true_and, hjb, f4, f6, g, c4]
      refine ncall (refBegins_c hm.arg (by omega)) ?_
      by_cases hin : xs[i].imm ∈ xs.map (·.pos)
      · rw [decide_eq_true hin]
        simp -implicitDefEqProofs (disch:=first|omega|simp only [go_sem,Nat.reduceAdd]) only [go_sem,Int.reduceLT,Int.reduceLE,Int.reduceEq,reduceIte,true_and, dPick_t, dPick_f, f6, hw1]
        refine hK' (i + 1) _ ?_ (by omega)
        exact ⟨by trivial, by trivial, (vy f4), vz, by omega, jumpsSo_succ hj hso fun _ => hin⟩
      · rw [decide_eq_false hin]
        simp -implicitDefEqProofs (disch:=first|omega|simp only [go_sem,Nat.reduceAdd]) only [go_sem,Int.reduceLT,Int.reduceLE,Int.reduceEq,reduceIte,true_and, dPick_t, dPick_f]
        rw [targets_bad (List.getElem_mem hj) hjb hin] at hE0
        simp only [Bool.false_eq_true, if_false] at hE0
        refine hX _ _ (by simp) ?_
        simp -implicitDefEqProofs (disch:=first|omega|simp only [go_sem,Nat.reduceAdd]) only [go_sem,Int.reduceLT,Int.reduceLE,Int.reduceEq,reduceIte,true_and]
        refine ⟨_, rfl, _, by rw [hE0], hEx, ?_⟩
        rw [decL, hE0]
        exact .nil _ _ _
    · obtain rfl : i = xs.length := by omega
      rw [targets_all hso] at hE0
      simp only [if_true] at hE0
      refine hX _ _ (by simp) ?_
      simp -implicitDefEqProofs (disch:=first|omega|simp only [go_sem,Nat.reduceAdd]) only [go_sem,Int.reduceLT,Int.reduceLE,Int.reduceEq,reduceIte,true_and, f4]
      refine ⟨_, rfl, _, by rw [hE0], hEx, ?_⟩
      rw [decL, hE0, if_pos rfl, hxs]
      exact hm.arg
theorem jumps_c {h : DHeap} {x : Instr} : DC Try.prog 62 [instrV x] h (.ret (.bool (jumpsB x.op))) h := by
  obtain ⟨x1, x2, x3, x4, x5⟩ := x
  refine Ct.pure (go_62 (by simp) ?_) (vin_bool _)
  obtain ⟨H, hH⟩ : ∃ H, H = h.push (.row [.int .i64 x1, .int .i64 x2, .int .i64 x3, .int .i64 x4, .int .i64 x5] 0 false) := ⟨_, rfl⟩
  have hE : Ext h H := by rw [hH]; exact Ext.push1 _ _
  have g : H.get h.next = some (.row [.int .i64 x1, .int .i64 x2, .int .i64 x3, .int .i64 x4, .int .i64 x5] 0 false) := by rw [hH]; exact get_push_same _ _
  have a1 : cellAt H h.next 1 = some (.int .i64 x2) := cellAt_row g
  simp -implicitDefEqProofs (disch:=first|omega|simp only [go_sem,Nat.reduceAdd]) only [go_sem,Int.reduceLT,Int.reduceLE,Int.reduceEq,reduceIte,true_and, c62, ← hH, a1]
  clear hH
  (repeat' first | (refine NStp_split (fun hb => ?_) (fun hb => ?_) <;> (try simp only [Bool.not_eq_true', Bool.not_eq_false'] at hb) <;> simp -implicitDefEqProofs (disch:=first|omega|simp only [go_sem,Nat.reduceAdd]) only [go_sem,Int.reduceLT,Int.reduceLE,Int.reduceEq,reduceIte,true_and, dPick_t, dPick_f, hb, a1]) | (refine XIf_split (fun hb => ?_) (fun hb => ?_) <;> (try simp only [Bool.not_eq_true', Bool.not_eq_false'] at hb) <;> simp -implicitDefEqProofs (disch:=first|omega|simp only [go_sem,Nat.reduceAdd]) only [go_sem,Int.reduceLT,Int.reduceLE,Int.reduceEq,reduceIte,true_and, dPick_t, dPick_f, hb, a1]))
  all_goals exact ⟨_, rfl, by simp_all [jumpsB], hE⟩
end Go.Proofs.Ytbdljpndncohaaa

namespace Go.Proofs.Ytbdljpndncohaaa
open Go.D
set_option maxRecDepth 100000

theorem good_dec : goodFn Try.prog 59 = true := by kernel_rfl
theorem set_begins : SetT Try.prog 105 .i64 := ⟨2, 4, by kernel_rfl, by kernel_rfl, by kernel_rfl⟩
theorem res_d {fr : Fr} {K : DHeap} {a b id id2 : Nat} {w : Value} {e : Int} {z y : Nat} (f2 : fr a = some (.pointer (some ⟨id, 0, none⟩))) (f3 : fr b = some (.pointer (some ⟨id2, 0, none⟩))) (hk : K.get id = some (.row [w] z false)) (hk2 : K.get id2 = some (.row [.int .i64 e] y false)) :
    dResults Try.prog [.cell a 91, .cell b 31] fr K = some (.tuple #[w, .int .i64 e]) := by
  rw [dResults_d2, dRes1_cell, dRes1_cell, f2, f3, dResC_some, dResC_some]
  have e1 : dLoad Try.prog 91 (.pointer (some ⟨id, 0, none⟩)) K = some w := ld_91.trans (cellAt_row hk)
  have e2 : dLoad Try.prog 31 (.pointer (some ⟨id2, 0, none⟩)) K = some (.int .i64 e) := ld_31.trans (cellAt_row hk2)
  rw [e1, e2, tup2_some]
/-- how things lie while it goes through the instructions -/
structure DecI (h : DHeap) (a b mp n0 : Nat) (w : Value) (xs : List Instr) (ks : List Int) (K : DHeap) : Prop where
  ext : Ext h K
  ga : K.get a = some (.row [w] 0 false)
  gb : K.get b = some (.row [.int .i64 0] 0 false)
  sm : SetAt .i64 K mp ks
  sl : Sl fInstr.rep (fun j => n0 ≤ j ∧ j < mp) K w xs
  lt : mp < K.next
  ab : h.next ≤ a ∧ h.next ≤ b ∧ a < n0 ∧ b < n0 ∧ a ≠ b ∧ n0 ≤ mp
theorem DecI.push {h : DHeap} {a b mp n0 : Nat} {w : Value} {xs : List Instr} {ks : List Int} {K K' : DHeap} (s : DecI h a b mp n0 w xs ks K) (e : Ext K K') : DecI h a b mp n0 w xs ks K' := by
  have hl := s.lt
  have ha := s.ab
  exact ⟨s.ext.trans e, (e.get _ (by omega)).trans s.ga, (e.get _ (by omega)).trans s.gb, s.sm.keep (e.get _ hl), s.sl.mono fun j hj => ⟨hj, e.get _ (by omega)⟩, Nat.lt_of_lt_of_le hl e.next, ha⟩
theorem DecI.upd {h : DHeap} {a b mp n0 : Nat} {w : Value} {xs : List Instr} {ks ks' : List Int} {K : DHeap} {o : DObj} (s : DecI h a b mp n0 w xs ks K) (hs : SetAt .i64 (K.set mp o) mp ks') : DecI h a b mp n0 w xs ks' (K.set mp o) := by
  have ha := s.ab
  exact ⟨s.ext.set (by omega), (get_set_other _ _ (by omega)).trans s.ga, (get_set_other _ _ (by omega)).trans s.gb, hs, s.sl.mono fun j hj => ⟨hj, get_set_other _ _ (by omega)⟩, s.lt, ha⟩
theorem decode_c {h : DHeap} {v : Value} {l : List Int} (hb : Arg fU8.rep h v l) (hl : l.length ≤ 1048576) :
    Ct Try.prog 49 [v] h fun r h1 => ∃ w, r = .ret (.tuple #[w, .int .i64 (decE l)]) ∧ Ext h h1 ∧ Arg fInstr.rep h1 w (decL l) := by
  refine go_49 (by simp) ?_
  have el : ∀ K, dLen Try.prog #[22] v K = some (.int .i64 (l.length : Nat)) := hb.lens (P := Try.prog) (ts := #[22]) (t := 22) rfl isl_22
  obtain ⟨H, hH⟩ : ∃ H, H = (h.push (.row [.slice none 0 0] 0 false)).push (.row [.int .i64 0] 0 false) := ⟨_, rfl⟩
  have hE : Ext h H := by rw [hH]; exact (Ext.push1 _ _).push _
  have hHn : H.next = h.next + 2 := by rw [hH]; rfl
  have ga : H.get h.next = some (.row [.slice none 0 0] 0 false) := by rw [hH]; exact get_p1
  have gb : H.get (h.next + 1) = some (.row [.int .i64 0] 0 false) := by rw [hH]; exact get_push_same _ _
  by_cases h0 : (512 : Int) < (l.length : Nat)
  · have h0' := eq_true h0
    have hD : decE l = 3 := by rw [decE, if_pos (by omega)]
    have w1 : storeAt H h.next 0 [.slice none 0 0] = some H := by
      rw [storeAt_row ga (Nat.le_of_ble_eq_true rfl) rfl]
      exact congrArg some (set_self ga)
    have w2 := storeAt_row (o := 0) (vs := [.int .i64 3]) gb (Nat.le_of_ble_eq_true rfl) rfl
    simp -implicitDefEqProofs (disch:=first|omega|simp only [go_sem,Nat.reduceAdd]) only [go_sem,Int.reduceLT,Int.reduceLE,Int.reduceEq,reduceIte,true_and, c49, next_push, ← hH, el, h0', w1, w2]
    refine ret_at (res_d vz vz ((get_set_other _ _ (by omega)).trans ga) (get_set_same _ _)) ⟨_, by rw [hD], hE.set (by omega), ?_⟩
    rw [decL, hD]
    exact .nil _ _ _
  have hE0 : decE l = if (walkAt l 0).2 ≠ 0 then (walkAt l 0).2 else if targetsOk (walkAt l 0).1 then 0 else 131 := by rw [decE, if_neg (by omega)]
  simp -implicitDefEqProofs (disch:=first|omega|simp only [go_sem,Nat.reduceAdd]) only [go_sem,Int.reduceLT,Int.reduceLE,Int.reduceEq,reduceIte,true_and, c49, next_push, ← hH, el, h0]
  refine ncall_ct (all_c (hb.ext hE) hl) ?_
  have hlen := walkAt_len (l := l) (n := l.length) (i := 0) (by omega)
  obtain ⟨xs, hxs⟩ : ∃ xs, (walkAt l 0).1 = xs := ⟨_, rfl⟩
  obtain ⟨e, he⟩ : ∃ e, (walkAt l 0).2 = e := ⟨_, rfl⟩
  rw [hxs, he]
  rw [hxs] at hlen
  rw [hxs, he] at hE0
  rintro r h1 (⟨he0, w, rfl, hm⟩ | ⟨he0, rfl, hE1⟩)
  case inr =>
    rw [if_pos he0] at hE0
    have ga1 := (hE1.get _ (by omega)).trans ga
    have gb1 := (hE1.get _ (by omega)).trans gb
    simp -implicitDefEqProofs (disch:=first|omega|simp only [go_sem,Nat.reduceAdd]) only [go_sem,Int.reduceLT,Int.reduceLE,Int.reduceEq,reduceIte,true_and, XEnd]
    refine XLv_fn good_dec (dec_pan ga1 gb1 (by omega)) ?_
    simp -implicitDefEqProofs (disch:=first|omega|simp only [go_sem,Nat.reduceAdd]) only [go_sem,Int.reduceLT,Int.reduceLE,Int.reduceEq,reduceIte,true_and, settleD, XLv_ret]
    refine ret_at (res_d vz vz ((get_set_other _ _ (by omega)).trans (get_set_same _ _)) (get_set_same _ _)) ⟨_, by rw [hE0], ((hE.trans hE1).set (by omega)).set (by omega), ?_⟩
    rw [decL, hE0, if_neg he0]
    exact .nil _ _ _
  rw [if_neg (fun hh => hh he0)] at hE0
  have hE1 := hm.ext
  have hE1n := hE1.next
  have ga1 := (hE1.get _ (by omega)).trans ga
  have gb1 := (hE1.get _ (by omega)).trans gb
  have hone : [w].all Value.oneCell' = true := by obtain ⟨_, _, rfl⟩ := hm.sl.isSlice; rfl
  have w1 := storeAt_row (o := 0) (vs := [w]) ga1 (Nat.le_of_ble_eq_true rfl) hone
  have sst : ∀ K, dStore Try.prog 91 (.pointer (some ⟨h.next, 0, none⟩)) w K = storeAt K h.next 0 [w] := fun K => st_91 hm.sl.cells1
  obtain ⟨K0, hK0⟩ : ∃ K0, K0 = (h1.set h.next (.row [w] 0 false)).push (.map [] 0) := ⟨_, rfl⟩
  have elw : ∀ K, dLen Try.prog #[91] w K = some (.int .i64 (xs.length : Nat)) := hm.arg.lens (P := Try.prog) (ts := #[91]) (t := 91) rfl isl_91
  have I0 : DecI h h.next (h.next + 1) h1.next H.next w xs [] K0 := by
    have hEs : Ext h (h1.set h.next (.row [w] 0 false)) := (hE.trans hE1).set (by omega)
    refine ⟨by rw [hK0]; exact hEs.push _, ?_, ?_, ?_, ?_, ?_, by omega⟩
    · rw [hK0, get_push_other _ _ (by simp only [next_set]; omega)]; exact get_set_same _ _
    · rw [hK0, get_push_other _ _ (by simp only [next_set]; omega), get_set_other _ _ (by omega)]; exact gb1
    · rw [hK0]; exact SetAt.new
    · refine hm.sl.mono fun j hj => ⟨hj, ?_⟩
      rw [hK0, get_push_other _ _ (by simp only [next_set]; omega), get_set_other _ _ (by omega)]
    · rw [hK0]; exact Nat.lt_succ_self _
  have lw : ∀ {ks K}, DecI h h.next (h.next + 1) h1.next H.next w xs ks K → cellAt K h.next 0 = some w := fun s => cellAt_row s.ga
  simp -implicitDefEqProofs (disch:=first|omega|simp only [go_sem,Nat.reduceAdd]) only [go_sem,Int.reduceLT,Int.reduceLE,Int.reduceEq,reduceIte,true_and, XEnd, sst, w1, setAt]
  have hK0' : ∀ x, x = [w] → (h1.set h.next (.row x 0 false)).push (.map [] 0) = K0 := fun x hx => by rw [hx, hK0]
  simp only [List.set_cons_zero, next_set, ← hK0]
  simp -implicitDefEqProofs (disch:=first|omega|simp only [go_sem,Nat.reduceAdd]) only [go_sem,Int.reduceLT,Int.reduceLE,Int.reduceEq,reduceIte,true_and, lw I0, elw]
  refine XLoop_cut (fun s => s.df = [.fn 59 [.pointer (some ⟨h.next, 0, none⟩), .pointer (some ⟨h.next + 1, 0, none⟩)]] ∧ s.rd = none ∧ s.fr 2 = some (.pointer (some ⟨h.next, 0, none⟩)) ∧ s.fr 3 = some (.pointer (some ⟨h.next + 1, 0, none⟩)) ∧ s.fr 4 = some (.map (some h1.next)) ∧ DecI h h.next (h.next + 1) h1.next H.next w xs (xs.map (·.pos)) s.h) ?_ ?_
  · refine xloop (σ := Nat) (by kernel_rfl) (fun i s => s.df = [.fn 59 [.pointer (some ⟨h.next, 0, none⟩), .pointer (some ⟨h.next + 1, 0, none⟩)]] ∧ s.rd = none ∧ s.fr 2 = some (.pointer (some ⟨h.next, 0, none⟩)) ∧ s.fr 3 = some (.pointer (some ⟨h.next + 1, 0, none⟩)) ∧ s.fr 4 = some (.map (some h1.next)) ∧ s.fr 16 = some w ∧ s.fr 17 = some (.int .i64 (xs.length : Nat)) ∧ s.fr 18 = some (.int .i64 (i : Nat)) ∧ i ≤ xs.length ∧ DecI h h.next (h.next + 1) h1.next H.next w xs ((xs.take i).map (·.pos)) s.h) (fun i => xs.length - i) 0 ?_ ?_
    · simp -implicitDefEqProofs (disch:=first|omega|simp only [go_sem,Nat.reduceAdd]) only [go_sem,Int.reduceLT,Int.reduceLE,Int.reduceEq,reduceIte,true_and]
      exact ⟨rfl, Nat.zero_le _, I0⟩
    · rintro i ⟨fr, df, K, rd⟩ K' hK' hX ⟨hdf, hrd, f2, f3, f4, f16, f17, f18, hi, I⟩
      simp only at hdf hrd f2 f3 f4 f16 f17 f18 I
      subst hdf hrd
      simp -implicitDefEqProofs (disch:=first|omega|simp only [go_sem,Nat.reduceAdd]) only [go_sem,Int.reduceLT,Int.reduceLE,Int.reduceEq,reduceIte,true_and, f17, f18]
      refine XIf_dec (fun hc1 => ?_) (fun hc1 => ?_)
      · have hj : i < xs.length := by omega
        obtain ⟨id, o, g, c5, _, _, _⟩ := instr_idx I.sl hj
        have hw1 := wrap_succ hj (by omega)
        obtain ⟨x, hx⟩ : ∃ x, xs[i] = x := ⟨_, rfl⟩
        rw [hx] at c5
        obtain ⟨K1, hK1⟩ : ∃ K1, K1 = K.push (.row (fInstr.enc x) 0 false) := ⟨_, rfl⟩
        have g1 : K1.get K.next = some (.row (fInstr.enc x) 0 false) := by rw [hK1]; exact get_push_same _ _
        have p0 : cellAt K1 K.next 0 = some (.int .i64 x.pos) := cellAt_row g1
        have s5 := store5 (h := K) (x := x)
        rw [← hK1] at s5
        have I1 : DecI h h.next (h.next + 1) h1.next H.next w xs ((xs.take i).map (·.pos)) K1 := I.push (by rw [hK1]; exact Ext.push1 _ _)
        obtain ⟨ob, hu, hs⟩ := I1.sm.update set_begins x.pos
        simp -implicitDefEqProofs (disch:=first|omega|simp only [go_sem,Nat.reduceAdd]) only [go_sem,Int.reduceLT,Int.reduceLE,Int.reduceEq,reduceIte,true_and, f16, f18, g, c5, s5, f4, p0, hu, hw1]
        refine hK' (i + 1) _ ?_ (by omega)
        refine ⟨by trivial, by trivial, (vy f2), (vy f3), (vy f4), (vy f16), (vy f17), vz, by omega, ?_⟩
        have := I1.upd hs
        rw [show xs.take (i + 1) = xs.take i ++ [x] by rw [← hx]; simp]
        simpa using this
      · obtain rfl : i = xs.length := by omega
        refine hX _ _ (by simp) ?_
        rw [List.take_length] at I
        exact ⟨rfl, rfl, f2, f3, f4, I⟩
  rintro ⟨fr, df, K, rd⟩ ⟨hdf, hrd, f2, f3, f4, I⟩
  simp only at hdf hrd f2 f3 f4 I
  subst hdf hrd
  simp -implicitDefEqProofs (disch:=first|omega|simp only [go_sem,Nat.reduceAdd]) only [go_sem,Int.reduceLT,Int.reduceLE,Int.reduceEq,reduceIte,true_and, f2, lw I, elw]
  refine xloop (σ := Nat) (by kernel_rfl) (fun i s => s.df = [.fn 59 [.pointer (some ⟨h.next, 0, none⟩), .pointer (some ⟨h.next + 1, 0, none⟩)]] ∧ s.rd = none ∧ s.fr 2 = some (.pointer (some ⟨h.next, 0, none⟩)) ∧ s.fr 3 = some (.pointer (some ⟨h.next + 1, 0, none⟩)) ∧ s.fr 4 = some (.map (some h1.next)) ∧ s.fr 26 = some w ∧ s.fr 27 = some (.int .i64 (xs.length : Nat)) ∧ s.fr 28 = some (.int .i64 (i : Nat)) ∧ i ≤ xs.length ∧ jumpsSo xs i ∧ DecI h h.next (h.next + 1) h1.next H.next w xs (xs.map (·.pos)) s.h) (fun i => xs.length - i) 0 ?_ ?_
  · simp -implicitDefEqProofs (disch:=first|omega|simp only [go_sem,Nat.reduceAdd]) only [go_sem,Int.reduceLT,Int.reduceLE,Int.reduceEq,reduceIte,true_and, f2, f3, f4]
    exact ⟨rfl, Nat.zero_le _, fun j x hj => absurd hj (Nat.not_lt_zero j), I⟩
  clear f2 f3 f4 I K fr
  rintro i ⟨fr, df, K, rd⟩ K' hK' hX ⟨hdf, hrd, f2, f3, f4, f26, f27, f28, hi, hso, I⟩
  simp only at hdf hrd f2 f3 f4 f26 f27 f28 I
  subst hdf hrd
  simp -implicitDefEqProofs (disch:=first|omega|simp only [go_sem,Nat.reduceAdd]) only [go_sem,Int.reduceLT,Int.reduceLE,Int.reduceEq,reduceIte,true_and, f27, f28]
  refine XIf_dec (fun hc1 => ?_) (fun hc1 => ?_)
  · have hj : i < xs.length := by omega
    obtain ⟨id, o, g, c5, _, _, _⟩ := instr_idx I.sl hj
    have hw1 := wrap_succ hj (by omega)
    have hmem := List.getElem_mem hj
    have hsucc := fun hx => jumpsSo_succ hj hso hx
    have hbad := fun (a : jumpsB xs[i].op = true) (b : xs[i].imm ∉ xs.map (·.pos)) => targets_bad hmem a b
    obtain ⟨x, hx⟩ : ∃ x, xs[i] = x := ⟨_, rfl⟩
    rw [hx] at c5
    rw [hx] at hsucc hbad
    obtain ⟨K1, hK1⟩ : ∃ K1, K1 = K.push (.row (fInstr.enc x) 0 false) := ⟨_, rfl⟩
    have g1 : K1.get K.next = some (.row (fInstr.enc x) 0 false) := by rw [hK1]; exact get_push_same _ _
    have p4 : cellAt K1 K.next 4 = some (.int .i64 x.imm) := cellAt_row g1
    have pc : cellsAt K1 K.next 0 5 = some (instrV x) := by rw [cellsAt_row g1 (Nat.le_of_ble_eq_true rfl)]; rfl
    have s5 := store5 (h := K) (x := x)
    rw [← hK1] at s5
    have I1 : DecI h h.next (h.next + 1) h1.next H.next w xs (xs.map (·.pos)) K1 := I.push (by rw [hK1]; exact Ext.push1 _ _)
    simp -implicitDefEqProofs (disch:=first|omega|simp only [go_sem,Nat.reduceAdd]) only [go_sem,Int.reduceLT,Int.reduceLE,Int.reduceEq,reduceIte,true_and, f26, f28, g, c5, s5, pc]
    refine ncall jumps_c ?_
    by_cases hjb : jumpsB x.op = true
    case neg =>
      have hjb' : jumpsB x.op = false := by simpa using hjb
      simp -implicitDefEqProofs (disch:=first|omega|simp only [go_sem,Nat.reduceAdd]) only [go_sem,Int.reduceLT,Int.reduceLE,Int.reduceEq,reduceIte,true_and, hjb', dPick_t, dPick_f, f28, hw1]
      refine hK' (i + 1) _ ?_ (by omega)
      exact ⟨by trivial, by trivial, (vy f2), (vy f3), (vy f4), (vy f26), (vy f27), vz, by omega, hsucc fun hh => absurd hh hjb, I1⟩
    have hlk := I1.sm.lookup set_begins x.imm
    by_cases hin : x.imm ∈ xs.map (·.pos)
    · rw [decide_eq_true hin] at hlk
      simp -implicitDefEqProofs (disch:=first|omega|simp only [go_sem,Nat.reduceAdd]) only [go_sem,Int.reduceLT,Int.reduceLE,Int.reduceEq,reduceIte,true_and, hjb, f4, p4, hlk, dPick_t, dPick_f, f28, hw1]
      refine hK' (i + 1) _ ?_ (by omega)
      exact ⟨by trivial, by trivial, (vy f2), (vy f3), (vy f4), (vy f26), (vy f27), vz, by omega, hsucc fun _ => hin, I1⟩
    · rw [decide_eq_false hin] at hlk
      rw [hbad hjb hin] at hE0
      simp only [Bool.false_eq_true, if_false] at hE0
      simp -implicitDefEqProofs (disch:=first|omega|simp only [go_sem,Nat.reduceAdd]) only [go_sem,Int.reduceLT,Int.reduceLE,Int.reduceEq,reduceIte,true_and, hjb, f4, p4, hlk, dPick_t, dPick_f]
      refine ncall_pan (must_yes (by decide)) ?_
      refine hX _ _ (by simp) ?_
      simp -implicitDefEqProofs (disch:=first|omega|simp only [go_sem,Nat.reduceAdd]) only [go_sem,Int.reduceLT,Int.reduceLE,Int.reduceEq,reduceIte,true_and]
      refine XLv_fn good_dec (dec_pan I1.ga I1.gb (by omega)) ?_
      simp -implicitDefEqProofs (disch:=first|omega|simp only [go_sem,Nat.reduceAdd]) only [go_sem,Int.reduceLT,Int.reduceLE,Int.reduceEq,reduceIte,true_and, settleD, XLv_ret]
      refine ret_at (res_d (vy f2) (vy f3) ((get_set_other _ _ (by omega)).trans (get_set_same _ _)) (get_set_same _ _)) ⟨_, by rw [hE0], (I1.ext.set (by omega)).set (by omega), ?_⟩
      rw [decL, hE0]
      exact .nil _ _ _
  · obtain rfl : i = xs.length := by omega
    rw [targets_all hso] at hE0
    simp only [if_true] at hE0
    refine hX _ _ (by simp) ?_
    have w2 : storeAt K h.next 0 [w] = some K := by
      rw [storeAt_row I.ga (Nat.le_of_ble_eq_true rfl) hone]
      exact congrArg some (set_self I.ga)
    have w3 : storeAt K (h.next + 1) 0 [.int .i64 0] = some K := by
      rw [storeAt_row I.gb (Nat.le_of_ble_eq_true rfl) rfl]
      exact congrArg some (set_self I.gb)
    simp -implicitDefEqProofs (disch:=first|omega|simp only [go_sem,Nat.reduceAdd]) only [go_sem,Int.reduceLT,Int.reduceLE,Int.reduceEq,reduceIte,true_and, f2, f3, lw I, sst, w2, w3]
    refine XLv_fn good_dec dec_ret ?_
    simp -implicitDefEqProofs (disch:=first|omega|simp only [go_sem,Nat.reduceAdd]) only [go_sem,Int.reduceLT,Int.reduceLE,Int.reduceEq,reduceIte,true_and, settleD, XLv_ret]
    refine ret_at (res_d (vy f2) (vy f3) I.ga I.gb) ⟨_, by rw [hE0], I.ext, ?_⟩
    rw [decL, hE0, if_pos rfl, hxs]
    have hlt := I.lt
    exact I.sl.mono fun j hj => ⟨by omega, rfl⟩
end Go.Proofs.Ytbdljpndncohaaa

namespace Go.Proofs.Ytbdljpndncohaaa
open Go.D
set_option maxRecDepth 100000

theorem key_idx {S : Nat → Prop} {h : DHeap} {v : Value} {l : List Key} {i : Nat} (hb : Sl fKey.rep S h v l) (hi : i < l.length) :
    ∃ id o, dIndexAddr Try.prog 24 v (.int .i64 (i : Nat)) = some (.pointer (some ⟨id, o, none⟩)) ∧ cellsAt h id o 2 = some (keyV l[i]) ∧ cellAt h id (o + 0) = some (.int .i32 l[i].t) ∧ cellAt h id (o + 1) = some (.int .i64 l[i].r) := by
  obtain ⟨id, o, g, hs, hat⟩ := hb.idx (P := Try.prog) (t := 24) el_24 (k := .i64) (List.getElem?_eq_getElem hi)
  obtain ⟨a, b, _⟩ := hat.flat
  exact ⟨id, o, g, b, a 0 (by decide), a 1 (by decide)⟩
theorem keyLt_neg {a b : Key} : keyLt a b = !(decide (b.t < a.t) || (decide (b.t = a.t) && decide (b.r ≤ a.r))) := by
  unfold keyLt
  by_cases h1 : b.t < a.t
  · simp [h1]; omega
  · by_cases h2 : b.t = a.t
    · by_cases h3 : b.r ≤ a.r
      · simp [h1, h2, h3, Int.not_lt.2]
      · simp [h1, h2, h3, Int.not_le.1]
    · simp [h1, h2]; omega
theorem rises_c {h : DHeap} {v : Value} {l : List Key} (hb : Arg fKey.rep h v l) (hl : l.length ≤ 4294967296) : DC Try.prog 48 [v] h (.ret (.bool (risesB keyLt l))) h := by
  refine Ct.pure (go_48 (by simp) ?_) (vin_bool _)
  have el : ∀ K, dLen Try.prog #[24] v K = some (.int .i64 (l.length : Nat)) := hb.lens (P := Try.prog) (ts := #[24]) (t := 24) rfl isl_24
  simp -implicitDefEqProofs (disch:=first|omega|simp only [go_sem,Nat.reduceAdd]) only [go_sem,Int.reduceLT,Int.reduceLE,Int.reduceEq,reduceIte,true_and, c48, el]
  refine xloop (σ := Nat) (by kernel_rfl) (fun i s => s.df = [] ∧ s.h = h ∧ s.fr 0 = some v ∧ s.fr 5 = some (.int .i64 (l.length : Nat)) ∧ s.fr 6 = some (.int .i64 (i : Nat)) ∧ i ≤ l.length ∧ risesB keyLt (l.drop (i - 1)) = risesB keyLt l) (fun i => l.length - i) 0 ?_ ?_
  · simp -implicitDefEqProofs (disch:=first|omega|simp only [go_sem,Nat.reduceAdd]) only [go_sem,Int.reduceLT,Int.reduceLE,Int.reduceEq,reduceIte,true_and]
    exact ⟨rfl, Nat.zero_le _, rfl⟩
  · rintro i ⟨fr, df, K, rd⟩ K' hK' hX ⟨rfl, rfl, f0, f5, f6, hi, ho⟩
    simp only at f0 f5 f6
    simp -implicitDefEqProofs (disch:=first|omega|simp only [go_sem,Nat.reduceAdd]) only [go_sem,Int.reduceLT,Int.reduceLE,Int.reduceEq,reduceIte,true_and, f5, f6]
    refine XIf_dec (fun hc1 => ?_) (fun hc1 => ?_)
    · have hj : i < l.length := by omega
      have hw1 := wrap_succ hj (by omega)
      simp -implicitDefEqProofs (disch:=first|omega|simp only [go_sem,Nat.reduceAdd]) only [go_sem,Int.reduceLT,Int.reduceLE,Int.reduceEq,reduceIte,true_and, f6]
      refine dr_48_0 ?_
      by_cases h0 : (0 : Int) < (i : Nat)
      case neg =>
        obtain rfl : i = 0 := by omega
        simp -implicitDefEqProofs (disch:=first|omega|simp only [go_sem,Nat.reduceAdd]) only [go_sem,Int.reduceLT,Int.reduceLE,Int.reduceEq,reduceIte,true_and, l48_0, h0, dPick_t, dPick_f, f6, hw1, XStab_nil]
        refine hK' (0 + 1) _ ?_ (by omega)
        exact ⟨by trivial, by trivial, (vy f0), (vy f5), vz, by omega, ho⟩
      obtain ⟨j, rfl⟩ : ∃ j, i = j + 1 := ⟨i - 1, by omega⟩
      have h0' := eq_true h0
      have hwm : IntKind.i64.wrap (((j + 1 : Nat) : Int) - 1) = (j : Nat) := by rw [wrap_i64_in (by omega) (by omega)]; omega
      obtain ⟨id1, o1, g1, _, a0, a1⟩ := key_idx hb (i := j + 1) hj
      obtain ⟨id2, o2, g2, _, b0, b1⟩ := key_idx hb (i := j) (by omega)
      rw [Nat.add_zero] at a0 b0
      rw [Nat.add_sub_cancel, risesB_two hj, keyLt_neg] at ho
      have good : ∀ {s : St}, s.df = [] → s.h = K → s.fr 0 = some v → s.fr 5 = some (.int .i64 (l.length : Nat)) → s.fr 6 = some (.int .i64 ((j + 1 + 1 : Nat) : Int)) → (decide (l[j + 1].t < l[j].t) || (decide (l[j + 1].t = l[j].t) && decide (l[j + 1].r ≤ l[j].r))) = false → K' .normal s := fun a b c d e f => by
        refine hK' (j + 1 + 1) _ ⟨a, b, c, d, e, by omega, ?_⟩ (by omega)
        rw [f, Bool.not_false, Bool.true_and] at ho
        exact ho
      by_cases h1 : l[j + 1].t < l[j].t
      · have h1' := eq_true h1
        simp -implicitDefEqProofs (disch:=first|omega|simp only [go_sem,Nat.reduceAdd]) only [go_sem,Int.reduceLT,Int.reduceLE,Int.reduceEq,reduceIte,true_and, l48_0, f0, f6, h0', h1', g1, g2, hwm, a0, a1, b0, b1, dPick_t, dPick_f, XStab_nil]
        refine hX _ _ (by simp) ?_
        simp -implicitDefEqProofs (disch:=first|omega|simp only [go_sem,Nat.reduceAdd]) only [go_sem,Int.reduceLT,Int.reduceLE,Int.reduceEq,reduceIte,true_and]
        refine ⟨_, rfl, ?_, .refl _⟩
        rw [← ho]
        simp [h1]
      by_cases h2 : l[j + 1].t = l[j].t
      case neg =>
        simp -implicitDefEqProofs (disch:=first|omega|simp only [go_sem,Nat.reduceAdd]) only [go_sem,Int.reduceLT,Int.reduceLE,Int.reduceEq,reduceIte,true_and, l48_0, f0, f6, h0', h1, h2, g1, g2, hwm, a0, a1, b0, b1, dPick_t, dPick_f, XStab_nil, hw1]
        exact good rfl rfl (vy f0) (vy f5) vz (by simp [h1, h2])
      have h2' := eq_true h2
      by_cases h3 : l[j + 1].r ≤ l[j].r
      · have h3' := eq_true h3
        simp -implicitDefEqProofs (disch:=first|omega|simp only [go_sem,Nat.reduceAdd]) only [go_sem,Int.reduceLT,Int.reduceLE,Int.reduceEq,reduceIte,true_and, l48_0, f0, f6, h0', h1, h2', h3', g1, g2, hwm, a0, a1, b0, b1, dPick_t, dPick_f, XStab_nil]
        refine hX _ _ (by simp) ?_
        simp -implicitDefEqProofs (disch:=first|omega|simp only [go_sem,Nat.reduceAdd]) only [go_sem,Int.reduceLT,Int.reduceLE,Int.reduceEq,reduceIte,true_and]
        refine ⟨_, rfl, ?_, .refl _⟩
        rw [← ho]
        simp [h1, h2, h3]
      · simp -implicitDefEqProofs (disch:=first|omega|simp only [go_sem,Nat.reduceAdd]) only [go_sem,Int.reduceLT,Int.reduceLE,Int.reduceEq,reduceIte,true_and, l48_0, f0, f6, h0', h1, h2', h3, g1, g2, hwm, a0, a1, b0, b1, dPick_t, dPick_f, XStab_nil, hw1]
        exact good rfl rfl (vy f0) (vy f5) vz (by simp [h1, h2, h3])
    · refine hX _ _ (by simp) ?_
      simp -implicitDefEqProofs (disch:=first|omega|simp only [go_sem,Nat.reduceAdd]) only [go_sem,Int.reduceLT,Int.reduceLE,Int.reduceEq,reduceIte,true_and]
      refine ⟨_, rfl, ?_, .refl _⟩
      rw [← ho, risesB_short (by simp; omega)]
def cmpR (a b : Key) : Int := if keyLt a b then -1 else if a = b then 0 else 1
theorem refCompare_c {h : DHeap} {a b : Key} : DC Try.prog 55 [keyV a, keyV b] h (.ret (.int .i64 (cmpR a b))) h := by
  refine Ct.pure (go_55 (by simp) ?_) (vin_int _ _)
  obtain ⟨H, hH⟩ : ∃ H, H = (h.push (.row [.int .i32 a.t, .int .i64 a.r] 0 false)).push (.row [.int .i32 b.t, .int .i64 b.r] 0 false) := ⟨_, rfl⟩
  have hE : Ext h H := by rw [hH]; exact (Ext.push1 _ _).push _
  have g1 : H.get h.next = some (.row [.int .i32 a.t, .int .i64 a.r] 0 false) := by rw [hH]; exact get_p1
  have g2 : H.get (h.next + 1) = some (.row [.int .i32 b.t, .int .i64 b.r] 0 false) := by rw [hH]; exact get_push_same _ _
  have a0 : cellAt H h.next 0 = some (.int .i32 a.t) := cellAt_row g1
  have a1 : cellAt H h.next 1 = some (.int .i64 a.r) := cellAt_row g1
  have b0 : cellAt H (h.next + 1) 0 = some (.int .i32 b.t) := cellAt_row g2
  have b1 : cellAt H (h.next + 1) 1 = some (.int .i64 b.r) := cellAt_row g2
  have c0 : cellsAt H h.next 0 2 = some (keyV a) := by rw [cellsAt_row g1 (Nat.le_of_ble_eq_true rfl)]; rfl
  have c1 : cellsAt H (h.next + 1) 0 2 = some (keyV b) := by rw [cellsAt_row g2 (Nat.le_of_ble_eq_true rfl)]; rfl
  simp -implicitDefEqProofs (disch:=first|omega|simp only [go_sem,Nat.reduceAdd]) only [go_sem,Int.reduceLT,Int.reduceLE,Int.reduceEq,reduceIte,true_and, c55, next_push, ← hH, a0, b0]
  clear hH
  (repeat' first | (refine NStp_split (fun hb => ?_) (fun hb => ?_) <;> (try simp only [Bool.not_eq_true', Bool.not_eq_false'] at hb) <;> simp -implicitDefEqProofs (disch:=first|omega|simp only [go_sem,Nat.reduceAdd]) only [go_sem,Int.reduceLT,Int.reduceLE,Int.reduceEq,reduceIte,true_and, dPick_t, dPick_f, hb, a0, a1, b0, b1, c0, c1, bin_key']) | (refine XIf_split (fun hb => ?_) (fun hb => ?_) <;> (try simp only [Bool.not_eq_true', Bool.not_eq_false'] at hb) <;> simp -implicitDefEqProofs (disch:=first|omega|simp only [go_sem,Nat.reduceAdd]) only [go_sem,Int.reduceLT,Int.reduceLE,Int.reduceEq,reduceIte,true_and, dPick_t, dPick_f, hb, a0, a1, b0, b1, c0, c1, bin_key']))
  all_goals
    refine ⟨_, rfl, ?_, hE⟩
    congr 2
    unfold cmpR keyLt
    simp_all <;> omega
end Go.Proofs.Ytbdljpndncohaaa

namespace Go.Proofs.Ytbdljpndncohaaa
open Go.D
set_option maxRecDepth 100000

theorem cmpR_neg {a b : Key} : cmpR a b < 0 ↔ keyLt a b = true := by
  unfold cmpR
  cases keyLt a b with
  | true => simp
  | false =>
    simp only [Bool.false_eq_true, if_false]
    split <;> simp
theorem refRises_c {h : DHeap} {v : Value} {l : List Key} (hb : Arg fKey.rep h v l) (hl : l.length ≤ 4294967296) : DC Try.prog 40 [v] h (.ret (.bool (risesB keyLt l))) h := by
  refine Ct.pure (go_40 (by simp) ?_) (vin_bool _)
  have el : ∀ K, dLen Try.prog #[24] v K = some (.int .i64 (l.length : Nat)) := hb.lens (P := Try.prog) (ts := #[24]) (t := 24) rfl isl_24
  simp -implicitDefEqProofs (disch:=first|omega|simp only [go_sem,Nat.reduceAdd]) only [go_sem,Int.reduceLT,Int.reduceLE,Int.reduceEq,reduceIte,true_and, c40]
  refine xloop (σ := Nat) (by kernel_rfl) (fun j s => s.df = [] ∧ s.h = h ∧ s.fr 0 = some v ∧ s.fr 3 = some (.int .i64 ((j + 1 : Nat) : Int)) ∧ (j = 0 ∨ j < l.length) ∧ risesB keyLt (l.drop j) = risesB keyLt l) (fun j => l.length - j) 0 ?_ ?_
  · simp -implicitDefEqProofs (disch:=first|omega|simp only [go_sem,Nat.reduceAdd]) only [go_sem,Int.reduceLT,Int.reduceLE,Int.reduceEq,reduceIte,true_and]
    exact ⟨rfl, .inl trivial, rfl⟩
  · rintro j ⟨fr, df, K, rd⟩ K' hK' hX ⟨rfl, rfl, f0, f3, hi, ho⟩
    simp only at f0 f3
    simp -implicitDefEqProofs (disch:=first|omega|simp only [go_sem,Nat.reduceAdd]) only [go_sem,Int.reduceLT,Int.reduceLE,Int.reduceEq,reduceIte,true_and, f0, f3, el]
    refine XIf_dec (fun hc1 => ?_) (fun hc1 => ?_)
    · have hj : j + 1 < l.length := by omega
      have hw1 := wrap_succ hj (by omega)
      have hwm : IntKind.i64.wrap (((j + 1 : Nat) : Int) - 1) = (j : Nat) := by rw [wrap_i64_in (by omega) (by omega)]; omega
      obtain ⟨id1, o1, g1, a2, _, _⟩ := key_idx hb (i := j + 1) hj
      obtain ⟨id2, o2, g2, b2, _, _⟩ := key_idx hb (i := j) (by omega)
      rw [risesB_two hj] at ho
      simp -implicitDefEqProofs (disch:=first|omega|simp only [go_sem,Nat.reduceAdd]) only [go_sem,Int.reduceLT,Int.reduceLE,Int.reduceEq,reduceIte,true_and]
      refine dr_40_0 ?_
      simp -implicitDefEqProofs (disch:=first|omega|simp only [go_sem,Nat.reduceAdd]) only [go_sem,Int.reduceLT,Int.reduceLE,Int.reduceEq,reduceIte,true_and, l40_0, f0, f3, hwm, g1, g2, a2, b2]
      refine dcall refCompare_c ?_
      by_cases hlt : keyLt l[j] l[j + 1] = true
      · have hneg : ¬ 0 ≤ cmpR l[j] l[j + 1] := by have := cmpR_neg.2 hlt; omega
        rw [hlt, Bool.true_and] at ho
        simp -implicitDefEqProofs (disch:=first|omega|simp only [go_sem,Nat.reduceAdd]) only [go_sem,Int.reduceLT,Int.reduceLE,Int.reduceEq,reduceIte,true_and, hneg, XStab_nil, f3, hw1]
        refine hK' (j + 1) _ ?_ (by omega)
        exact ⟨by trivial, by trivial, (vy f0), vz, .inr hj, ho⟩
      · have hneg : 0 ≤ cmpR l[j] l[j + 1] := by
          cases Int.decLt (cmpR l[j] l[j + 1]) 0 with
          | isTrue e => exact absurd (cmpR_neg.1 e) hlt
          | isFalse e => omega
        have hneg' := eq_true hneg
        have hlt' : keyLt l[j] l[j + 1] = false := by simpa using hlt
        rw [hlt', Bool.false_and] at ho
        simp -implicitDefEqProofs (disch:=first|omega|simp only [go_sem,Nat.reduceAdd]) only [go_sem,Int.reduceLT,Int.reduceLE,Int.reduceEq,reduceIte,true_and, hneg', XStab_nil]
        refine hX _ _ (by simp) ?_
        simp -implicitDefEqProofs (disch:=first|omega|simp only [go_sem,Nat.reduceAdd]) only [go_sem,Int.reduceLT,Int.reduceLE,Int.reduceEq,reduceIte,true_and]
        exact ⟨_, rfl, by rw [← ho], .refl _⟩
    · refine hX _ _ (by simp) ?_
      simp -implicitDefEqProofs (disch:=first|omega|simp only [go_sem,Nat.reduceAdd]) only [go_sem,Int.reduceLT,Int.reduceLE,Int.reduceEq,reduceIte,true_and]
      refine ⟨_, rfl, ?_, .refl _⟩
      rw [← ho, risesB_short (by simp; omega)]
theorem sameKeys_c {h : DHeap} {a b : Value} {l m : List Key} (ha : Arg fKey.rep h a l) (hb : Arg fKey.rep h b m) (hl : l.length ≤ 4294967296) : DC Try.prog 24 [a, b] h (.ret (.bool (sameL (fun a b : Key => decide (a = b)) l m))) h := by
  refine Ct.pure (go_24 (by simp) ?_) (vin_bool _)
  have ea : ∀ K, dLen Try.prog #[24] a K = some (.int .i64 (l.length : Nat)) := ha.lens (P := Try.prog) (ts := #[24]) (t := 24) rfl isl_24
  have eb : ∀ K, dLen Try.prog #[24] b K = some (.int .i64 (m.length : Nat)) := hb.lens (P := Try.prog) (ts := #[24]) (t := 24) rfl isl_24
  by_cases hlen : l.length = m.length
  case neg =>
    have hli : ¬ ((l.length : Nat) : Int) = (m.length : Nat) := by omega
    simp -implicitDefEqProofs (disch:=first|omega|simp only [go_sem,Nat.reduceAdd]) only [go_sem,Int.reduceLT,Int.reduceLE,Int.reduceEq,reduceIte,true_and, c24, ea, eb, hli]
    exact ⟨_, rfl, by rw [sameL_len hlen], .refl h⟩
  have hli := eq_true (show ((l.length : Nat) : Int) = (m.length : Nat) by omega)
  simp -implicitDefEqProofs (disch:=first|omega|simp only [go_sem,Nat.reduceAdd]) only [go_sem,Int.reduceLT,Int.reduceLE,Int.reduceEq,reduceIte,true_and, c24, ea, eb, hli]
  refine xloop (σ := Nat) (by kernel_rfl) (fun i s => s.df = [] ∧ s.h = h ∧ s.fr 0 = some a ∧ s.fr 1 = some b ∧ s.fr 5 = some (.int .i64 (i : Nat)) ∧ i ≤ l.length ∧ sameL (fun a b : Key => decide (a = b)) (l.drop i) (m.drop i) = sameL (fun a b : Key => decide (a = b)) l m) (fun i => l.length - i) 0 ?_ ?_
  · simp -implicitDefEqProofs (disch:=first|omega|simp only [go_sem,Nat.reduceAdd]) only [go_sem,Int.reduceLT,Int.reduceLE,Int.reduceEq,reduceIte,true_and]
    exact ⟨rfl, Nat.zero_le _, rfl⟩
  · rintro i ⟨fr, df, K, rd⟩ K' hK' hX ⟨rfl, rfl, f0, f1, f5, hi, ho⟩
    simp only at f0 f1 f5
    simp -implicitDefEqProofs (disch:=first|omega|simp only [go_sem,Nat.reduceAdd]) only [go_sem,Int.reduceLT,Int.reduceLE,Int.reduceEq,reduceIte,true_and, f0, f5, ea]
    refine XIf_dec (fun hc1 => ?_) (fun hc1 => ?_)
    · have hj : i < l.length := by omega
      have hjm : i < m.length := by omega
      have hw1 := wrap_succ hj (by omega)
      obtain ⟨id1, o1, g1, a2, _, _⟩ := key_idx ha (i := i) hj
      obtain ⟨id2, o2, g2, b2, _, _⟩ := key_idx hb (i := i) hjm
      rw [List.drop_eq_getElem_cons hj, List.drop_eq_getElem_cons hjm, sameL] at ho
      simp -implicitDefEqProofs (disch:=first|omega|simp only [go_sem,Nat.reduceAdd]) only [go_sem,Int.reduceLT,Int.reduceLE,Int.reduceEq,reduceIte,true_and]
      refine dr_24_0 ?_
      by_cases he : l[i] = m[i]
      · have he' := eq_true he
        rw [decide_eq_true he, Bool.true_and] at ho
        simp -implicitDefEqProofs (disch:=first|omega|simp only [go_sem,Nat.reduceAdd]) only [go_sem,Int.reduceLT,Int.reduceLE,Int.reduceEq,reduceIte,true_and, l24_0, f0, f1, f5, g1, g2, a2, b2, bin_key, he', XStab_nil, hw1]
        refine hK' (i + 1) _ ?_ (by omega)
        exact ⟨by trivial, by trivial, (vy f0), (vy f1), vz, by omega, ho⟩
      · rw [decide_eq_false he, Bool.false_and] at ho
        simp -implicitDefEqProofs (disch:=first|omega|simp only [go_sem,Nat.reduceAdd]) only [go_sem,Int.reduceLT,Int.reduceLE,Int.reduceEq,reduceIte,true_and, l24_0, f0, f1, f5, g1, g2, a2, b2, bin_key, he, XStab_nil]
        refine hX _ _ (by simp) ?_
        simp -implicitDefEqProofs (disch:=first|omega|simp only [go_sem,Nat.reduceAdd]) only [go_sem,Int.reduceLT,Int.reduceLE,Int.reduceEq,reduceIte,true_and]
        exact ⟨_, rfl, by rw [← ho], .refl _⟩
    · refine hX _ _ (by simp) ?_
      simp -implicitDefEqProofs (disch:=first|omega|simp only [go_sem,Nat.reduceAdd]) only [go_sem,Int.reduceLT,Int.reduceLE,Int.reduceEq,reduceIte,true_and]
      refine ⟨_, rfl, ?_, .refl _⟩
      rw [← ho, List.drop_eq_nil_of_le (by omega), List.drop_eq_nil_of_le (by omega)]
      rfl
end Go.Proofs.Ytbdljpndncohaaa

namespace Go.Proofs.Ytbdljpndncohaaa
open Go.D
set_option maxRecDepth 100000

/-- an instruction's index is of something that is not there -/
def badI (t : Txn) (x : Instr) : Bool :=
  if x.op = 3 ∨ x.op = 4 then decide ((t.reads.length : Int) ≤ x.imm) else if x.op = 5 ∨ x.op = 6 then decide ((t.writes.length : Int) ≤ x.imm) else if x.op = 2 then decide ((t.args.length : Int) ≤ x.imm) else false
def txnE (t : Txn) : Int :=
  if t.ses < 1 ∨ 1099511627776 < t.ses ∨ t.req < 1 ∨ 1099511627776 < t.req then 1
  else if 8 < t.args.length ∨ 16 < t.reads.length ∨ 16 < t.writes.length then 3
  else if risesB keyLt t.reads = false ∨ risesB keyLt t.writes = false then 1
  else if decE t.code ≠ 0 then decE t.code
  else if (decL t.code).any (badI t) then 132 else 0
theorem walk_imm {l : List Int} (hb : ∀ j, 0 ≤ l.getD j 0 ∧ l.getD j 0 ≤ 255) : ∀ (n i : Nat), ∀ x ∈ (walkF l n i).1, x.imm ≤ 65535
  | 0, i, x, hx => by simp [walkF] at hx
  | n + 1, i, x, hx => by
    simp only [walkF] at hx
    split at hx
    · simp at hx
    · split at hx
      · rename_i he
        rcases List.mem_cons.1 hx with rfl | hx
        · obtain ⟨e, _⟩ := oneT_next he
          rw [e]
          have b3 := hb (i + 1 + (if firstB (l.getD i 0) then 1 else 0) + if twoB (l.getD i 0) then 1 else 0)
          have b4 := hb (i + 1 + (if firstB (l.getD i 0) then 1 else 0) + (if twoB (l.getD i 0) then 1 else 0) + 1)
          simp only [oneI, immW]
          generalize l.getD (i + 1 + (if firstB (l.getD i 0) then 1 else 0) + if twoB (l.getD i 0) then 1 else 0) 0 = y3 at b3 ⊢
          generalize l.getD (i + 1 + (if firstB (l.getD i 0) then 1 else 0) + (if twoB (l.getD i 0) then 1 else 0) + 1) 0 = y4 at b4 ⊢
          repeat' split
          all_goals omega
        · exact walk_imm hb n _ x hx
      · simp at hx
theorem decL_imm {l : List Int} (hb : ∀ j, 0 ≤ l.getD j 0 ∧ l.getD j 0 ≤ 255) : ∀ x ∈ decL l, x.imm ≤ 65535 := by
  intro x hx
  unfold decL at hx
  split at hx
  · exact walk_imm hb _ _ x hx
  · simp at hx
/-- a transaction's box -/
structure TxnAt (h : DHeap) (id : Nat) (t : Txn) (vc va vr vw : Value) : Prop where
  c0 : cellAt h id 0 = some (.int .i64 t.ses)
  c1 : cellAt h id 1 = some (.int .i64 t.req)
  c2 : cellAt h id 2 = some vc
  c3 : cellAt h id 3 = some va
  c4 : cellAt h id 4 = some vr
  c5 : cellAt h id 5 = some vw
theorem TxnAt.of {h : DHeap} {id z : Nat} {ro : Bool} {t : Txn} {vc va vr vw : Value} (g : h.get id = some (.row [.int .i64 t.ses, .int .i64 t.req, vc, va, vr, vw] z ro)) : TxnAt h id t vc va vr vw :=
  ⟨cellAt_row g, cellAt_row g, cellAt_row g, cellAt_row g, cellAt_row g, cellAt_row g⟩
theorem any_take {t : Txn} {l : List Instr} {i : Nat} (hi : i < l.length) (h : (l.take i).any (badI t) = false) (hx : badI t l[i] = false) : (l.take (i + 1)).any (badI t) = false := by
  rw [List.take_succ_eq_append_getElem hi, List.any_append, h, Bool.false_or]
  simp [hx]
set_option maxHeartbeats 1000000 in
theorem refCheckT_c {h : DHeap} {t : Txn} {vc va vr vw : Value} (hc : Arg fU8.rep h vc t.code) (ha : Arg fI64.rep h va t.args) (hr : Arg fKey.rep h vr t.reads) (hw : Arg fKey.rep h vw t.writes) (hl : t.code.length ≤ 1048576) :
    DC Try.prog 23 [txnV t.ses t.req vc va vr vw] h (.ret (.int .i64 (txnE t))) h := by
  refine Ct.pure (go_23 (by simp) ?_) (vin_int _ _)
  have hvc := hc.cells1
  have hva := ha.cells1
  have hvr := hr.cells1
  have hvw := hw.cells1
  obtain ⟨H, hH⟩ : ∃ H, H = h.push (.row [.int .i64 t.ses, .int .i64 t.req, vc, va, vr, vw] 0 false) := ⟨_, rfl⟩
  have hE : Ext h H := by rw [hH]; exact Ext.push1 _ _
  have g : H.get h.next = some (.row [.int .i64 t.ses, .int .i64 t.req, vc, va, vr, vw] 0 false) := by rw [hH]; exact get_push_same _ _
  have hHn : H.next = h.next + 1 := by rw [hH]; rfl
  have LT : ∀ K, Ext H K → TxnAt K h.next t vc va vr vw := fun K e => TxnAt.of ((e.get _ (by omega)).trans g)
  have L0 := LT H (.refl _)
  have ea : ∀ K, dLen Try.prog #[23] va K = some (.int .i64 (t.args.length : Nat)) := ha.lens (P := Try.prog) (ts := #[23]) (t := 23) rfl isl_23
  have er : ∀ K, dLen Try.prog #[24] vr K = some (.int .i64 (t.reads.length : Nat)) := hr.lens (P := Try.prog) (ts := #[24]) (t := 24) rfl isl_24
  have ew : ∀ K, dLen Try.prog #[24] vw K = some (.int .i64 (t.writes.length : Nat)) := hw.lens (P := Try.prog) (ts := #[24]) (t := 24) rfl isl_24
  by_cases p1 : t.ses < 1 ∨ 1099511627776 < t.ses ∨ t.req < 1 ∨ 1099511627776 < t.req
  · have hT : txnE t = 1 := by rw [txnE, if_pos p1]
    by_cases q1 : t.ses < 1
    · have q1' := eq_true q1
      simp -implicitDefEqProofs (disch:=first|omega|simp only [go_sem,Nat.reduceAdd]) only [go_sem,Int.reduceLT,Int.reduceLE,Int.reduceEq,reduceIte,true_and, c23, ← hH, L0.c0, L0.c1, q1', dPick_t, dPick_f]
      exact ⟨_, rfl, by rw [hT], hE⟩
    by_cases q2 : 1099511627776 < t.ses
    · have q2' := eq_true q2
      simp -implicitDefEqProofs (disch:=first|omega|simp only [go_sem,Nat.reduceAdd]) only [go_sem,Int.reduceLT,Int.reduceLE,Int.reduceEq,reduceIte,true_and, c23, ← hH, L0.c0, L0.c1, q1, q2', dPick_t, dPick_f]
      exact ⟨_, rfl, by rw [hT], hE⟩
    by_cases q3 : t.req < 1
    · have q3' := eq_true q3
      simp -implicitDefEqProofs (disch:=first|omega|simp only [go_sem,Nat.reduceAdd]) only [go_sem,Int.reduceLT,Int.reduceLE,Int.reduceEq,reduceIte,true_and, c23, ← hH, L0.c0, L0.c1, q1, q2, q3', dPick_t, dPick_f]
      exact ⟨_, rfl, by rw [hT], hE⟩
    have q4 : 1099511627776 < t.req := by omega
    have q4' := eq_true q4
    simp -implicitDefEqProofs (disch:=first|omega|simp only [go_sem,Nat.reduceAdd]) only [go_sem,Int.reduceLT,Int.reduceLE,Int.reduceEq,reduceIte,true_and, c23, ← hH, L0.c0, L0.c1, q1, q2, q3, q4', dPick_t, dPick_f]
    exact ⟨_, rfl, by rw [hT], hE⟩
  have q1 : ¬ t.ses < 1 := fun hh => p1 (.inl hh)
  have q2 : ¬ 1099511627776 < t.ses := fun hh => p1 (.inr (.inl hh))
  have q3 : ¬ t.req < 1 := fun hh => p1 (.inr (.inr (.inl hh)))
  have q4 : ¬ 1099511627776 < t.req := fun hh => p1 (.inr (.inr (.inr hh)))
  by_cases p2 : 8 < t.args.length ∨ 16 < t.reads.length ∨ 16 < t.writes.length
  · have hT : txnE t = 3 := by rw [txnE, if_neg p1, if_pos p2]
    by_cases r1 : (8 : Int) < (t.args.length : Nat)
    · have r1' := eq_true r1
      simp -implicitDefEqProofs (disch:=first|omega|simp only [go_sem,Nat.reduceAdd]) only [go_sem,Int.reduceLT,Int.reduceLE,Int.reduceEq,reduceIte,true_and, c23, ← hH, L0.c0, L0.c1, L0.c3, L0.c4, L0.c5, ea, er, ew, q1, q2, q3, q4, r1', dPick_t, dPick_f]
      exact ⟨_, rfl, by rw [hT], hE⟩
    by_cases r2 : (16 : Int) < (t.reads.length : Nat)
    · have r2' := eq_true r2
      simp -implicitDefEqProofs (disch:=first|omega|simp only [go_sem,Nat.reduceAdd]) only [go_sem,Int.reduceLT,Int.reduceLE,Int.reduceEq,reduceIte,true_and, c23, ← hH, L0.c0, L0.c1, L0.c3, L0.c4, L0.c5, ea, er, ew, q1, q2, q3, q4, r1, r2', dPick_t, dPick_f]
      exact ⟨_, rfl, by rw [hT], hE⟩
    have r3 : (16 : Int) < (t.writes.length : Nat) := by omega
    have r3' := eq_true r3
    simp -implicitDefEqProofs (disch:=first|omega|simp only [go_sem,Nat.reduceAdd]) only [go_sem,Int.reduceLT,Int.reduceLE,Int.reduceEq,reduceIte,true_and, c23, ← hH, L0.c0, L0.c1, L0.c3, L0.c4, L0.c5, ea, er, ew, q1, q2, q3, q4, r1, r2, r3', dPick_t, dPick_f]
    exact ⟨_, rfl, by rw [hT], hE⟩
  have r1 : ¬ (8 : Int) < (t.args.length : Nat) := by omega
  have r2 : ¬ (16 : Int) < (t.reads.length : Nat) := by omega
  have r3 : ¬ (16 : Int) < (t.writes.length : Nat) := by omega
  simp -implicitDefEqProofs (disch:=first|omega|simp only [go_sem,Nat.reduceAdd]) only [go_sem,Int.reduceLT,Int.reduceLE,Int.reduceEq,reduceIte,true_and, c23, ← hH, L0.c0, L0.c1, L0.c3, L0.c4, L0.c5, ea, er, ew, q1, q2, q3, q4, r1, r2, r3, dPick_t, dPick_f]
  refine ncall (refRises_c (hr.ext hE) (by omega)) ?_
  cases u1 : risesB keyLt t.reads with
  | false =>
    have hT : txnE t = 1 := by rw [txnE, if_neg p1, if_neg p2, if_pos (.inl u1)]
    simp -implicitDefEqProofs (disch:=first|omega|simp only [go_sem,Nat.reduceAdd]) only [go_sem,Int.reduceLT,Int.reduceLE,Int.reduceEq,reduceIte,true_and, dPick_t, dPick_f]
    exact ⟨_, rfl, by rw [hT], hE⟩
  | true =>
  simp -implicitDefEqProofs (disch:=first|omega|simp only [go_sem,Nat.reduceAdd]) only [go_sem,Int.reduceLT,Int.reduceLE,Int.reduceEq,reduceIte,true_and, L0.c5]
  refine ncall (refRises_c (hw.ext hE) (by omega)) ?_
  cases u2 : risesB keyLt t.writes with
  | false =>
    have hT : txnE t = 1 := by rw [txnE, if_neg p1, if_neg p2, if_pos (.inr u2)]
    simp -implicitDefEqProofs (disch:=first|omega|simp only [go_sem,Nat.reduceAdd]) only [go_sem,Int.reduceLT,Int.reduceLE,Int.reduceEq,reduceIte,true_and, dPick_t, dPick_f]
    exact ⟨_, rfl, by rw [hT], hE⟩
  | true =>
  have hT : txnE t = if decE t.code ≠ 0 then decE t.code else if (decL t.code).any (badI t) then 132 else 0 := by rw [txnE, if_neg p1, if_neg p2, if_neg (by simp [u1, u2])]
  simp -implicitDefEqProofs (disch:=first|omega|simp only [go_sem,Nat.reduceAdd]) only [go_sem,Int.reduceLT,Int.reduceLE,Int.reduceEq,reduceIte,true_and, dPick_t, dPick_f, L0.c2]
  refine ncall_ct (refDecode_c (hc.ext hE) hl) ?_
  rintro r h1 ⟨w, rfl, hE1, hxs⟩
  have L1 := LT h1 hE1
  by_cases he : decE t.code = 0
  case neg =>
    rw [if_pos he] at hT
    simp -implicitDefEqProofs (disch:=first|omega|simp only [go_sem,Nat.reduceAdd]) only [go_sem,Int.reduceLT,Int.reduceLE,Int.reduceEq,reduceIte,true_and, XEnd, he]
    exact ⟨_, rfl, by rw [hT], hE.trans hE1⟩
  have he' := eq_true he
  rw [if_neg (fun hh => hh he)] at hT
  obtain ⟨xs, hx⟩ : ∃ xs, decL t.code = xs := ⟨_, rfl⟩
  rw [hx] at hxs hT
  have elw : ∀ K, dLen Try.prog #[91] w K = some (.int .i64 (xs.length : Nat)) := hxs.lens (P := Try.prog) (ts := #[91]) (t := 91) rfl isl_91
  have hxl : xs.length ≤ 1048576 := by
    rw [← hx]
    rw [decL, if_pos he]
    have := walkAt_len (l := t.code) (n := t.code.length) (i := 0) (by omega)
    omega
  simp -implicitDefEqProofs (disch:=first|omega|simp only [go_sem,Nat.reduceAdd]) only [go_sem,Int.reduceLT,Int.reduceLE,Int.reduceEq,reduceIte,true_and, XEnd, he']
  refine xloop (σ := Nat) (by kernel_rfl) (fun i s => s.df = [] ∧ s.h = h1 ∧ s.fr 1 = some (.pointer (some ⟨h.next, 0, none⟩)) ∧ s.fr 3 = some w ∧ s.fr 5 = some (.int .i64 (i : Nat)) ∧ i ≤ xs.length ∧ (xs.take i).any (badI t) = false) (fun i => xs.length - i) 0 ?_ ?_
  · simp -implicitDefEqProofs (disch:=first|omega|simp only [go_sem,Nat.reduceAdd]) only [go_sem,Int.reduceLT,Int.reduceLE,Int.reduceEq,reduceIte,true_and]
    exact ⟨rfl, Nat.zero_le _, rfl⟩
  · rintro i ⟨fr, df, K, rd⟩ K' hK' hX ⟨rfl, rfl, f1, f3, f5, hi, hn⟩
    simp only at f1 f3 f5
    simp -implicitDefEqProofs (disch:=first|omega|simp only [go_sem,Nat.reduceAdd]) only [go_sem,Int.reduceLT,Int.reduceLE,Int.reduceEq,reduceIte,true_and, f3, f5, elw]
    refine XIf_dec (fun hc1 => ?_) (fun hc1 => ?_)
    · have hj : i < xs.length := by omega
      obtain ⟨id, o, g', _, _, d1, d4⟩ := instr_idx hxs hj
      have hw1 := wrap_succ hj (by omega)
      have hmem := List.getElem_mem hj
      have hsucc := fun hx => any_take (t := t) hj hn hx
      have hbad : ∀ hb : badI t xs[i] = true, xs.any (badI t) = true := fun hb => List.any_eq_true.2 ⟨_, hmem, hb⟩
      obtain ⟨x, hxi⟩ : ∃ x, xs[i] = x := ⟨_, rfl⟩
      rw [hxi] at d1 d4 hsucc hbad
      have good : ∀ {s : St}, s.df = [] → s.h = K → s.fr 1 = some (.pointer (some ⟨h.next, 0, none⟩)) → s.fr 3 = some w → s.fr 5 = some (.int .i64 ((i + 1 : Nat) : Int)) → badI t x = false → K' .normal s := fun a b c d e f =>
        hK' (i + 1) _ ⟨a, b, c, d, e, by omega, hsucc f⟩ (by omega)
      have bad : badI t x = true → ∃ v, some (Value.int .i64 132) = some v ∧ DEnd.ret v = .ret (.int .i64 (txnE t)) ∧ Ext h K := fun hb => by
        rw [hbad hb, if_pos rfl] at hT
        exact ⟨_, rfl, by rw [hT], hE.trans hE1⟩
      by_cases n3 : x.op = 3
      · have o' := eq_true n3
        have hb : badI t x = decide ((t.reads.length : Int) ≤ x.imm) := by simp [badI, n3]
        by_cases hm : (t.reads.length : Int) ≤ x.imm
        · have hm' := eq_true hm
          simp -implicitDefEqProofs (disch:=first|omega|simp only [go_sem,Nat.reduceAdd]) only [go_sem,Int.reduceLT,Int.reduceLE,Int.reduceEq,reduceIte,true_and, f1, f3, f5, g', d1, d4, L1.c4, er, o', hm']
          refine hX _ _ (by simp) ?_
          simp -implicitDefEqProofs (disch:=first|omega|simp only [go_sem,Nat.reduceAdd]) only [go_sem,Int.reduceLT,Int.reduceLE,Int.reduceEq,reduceIte,true_and]
          exact bad (by rw [hb, decide_eq_true hm])
        · simp -implicitDefEqProofs (disch:=first|omega|simp only [go_sem,Nat.reduceAdd]) only [go_sem,Int.reduceLT,Int.reduceLE,Int.reduceEq,reduceIte,true_and, f1, f3, f5, g', d1, d4, L1.c4, er, o', hm, hw1]
          exact good rfl rfl (vy f1) (vy f3) vz (by rw [hb, decide_eq_false hm])
      by_cases n4 : x.op = 4
      · have o' := eq_true n4
        have hb : badI t x = decide ((t.reads.length : Int) ≤ x.imm) := by simp [badI, n3, n4]
        by_cases hm : (t.reads.length : Int) ≤ x.imm
        · have hm' := eq_true hm
          simp -implicitDefEqProofs (disch:=first|omega|simp only [go_sem,Nat.reduceAdd]) only [go_sem,Int.reduceLT,Int.reduceLE,Int.reduceEq,reduceIte,true_and, f1, f3, f5, g', d1, d4, L1.c4, er, n3, o', hm']
          refine hX _ _ (by simp) ?_
          simp -implicitDefEqProofs (disch:=first|omega|simp only [go_sem,Nat.reduceAdd]) only [go_sem,Int.reduceLT,Int.reduceLE,Int.reduceEq,reduceIte,true_and]
          exact bad (by rw [hb, decide_eq_true hm])
        · simp -implicitDefEqProofs (disch:=first|omega|simp only [go_sem,Nat.reduceAdd]) only [go_sem,Int.reduceLT,Int.reduceLE,Int.reduceEq,reduceIte,true_and, f1, f3, f5, g', d1, d4, L1.c4, er, n3, o', hm, hw1]
          exact good rfl rfl (vy f1) (vy f3) vz (by rw [hb, decide_eq_false hm])
      by_cases n5 : x.op = 5
      · have o' := eq_true n5
        have hb : badI t x = decide ((t.writes.length : Int) ≤ x.imm) := by simp [badI, n3, n4, n5]
        by_cases hm : (t.writes.length : Int) ≤ x.imm
        · have hm' := eq_true hm
          simp -implicitDefEqProofs (disch:=first|omega|simp only [go_sem,Nat.reduceAdd]) only [go_sem,Int.reduceLT,Int.reduceLE,Int.reduceEq,reduceIte,true_and, f1, f3, f5, g', d1, d4, L1.c5, ew, n3, n4, o', hm']
          refine hX _ _ (by simp) ?_
          simp -implicitDefEqProofs (disch:=first|omega|simp only [go_sem,Nat.reduceAdd]) only [go_sem,Int.reduceLT,Int.reduceLE,Int.reduceEq,reduceIte,true_and]
          exact bad (by rw [hb, decide_eq_true hm])
        · simp -implicitDefEqProofs (disch:=first|omega|simp only [go_sem,Nat.reduceAdd]) only [go_sem,Int.reduceLT,Int.reduceLE,Int.reduceEq,reduceIte,true_and, f1, f3, f5, g', d1, d4, L1.c5, ew, n3, n4, o', hm, hw1]
          exact good rfl rfl (vy f1) (vy f3) vz (by rw [hb, decide_eq_false hm])
      by_cases n6 : x.op = 6
      · have o' := eq_true n6
        have hb : badI t x = decide ((t.writes.length : Int) ≤ x.imm) := by simp [badI, n3, n4, n5, n6]
        by_cases hm : (t.writes.length : Int) ≤ x.imm
        · have hm' := eq_true hm
          simp -implicitDefEqProofs (disch:=first|omega|simp only [go_sem,Nat.reduceAdd]) only [go_sem,Int.reduceLT,Int.reduceLE,Int.reduceEq,reduceIte,true_and, f1, f3, f5, g', d1, d4, L1.c5, ew, n3, n4, n5, o', hm']
          refine hX _ _ (by simp) ?_
          simp -implicitDefEqProofs (disch:=first|omega|simp only [go_sem,Nat.reduceAdd]) only [go_sem,Int.reduceLT,Int.reduceLE,Int.reduceEq,reduceIte,true_and]
          exact bad (by rw [hb, decide_eq_true hm])
        · simp -implicitDefEqProofs (disch:=first|omega|simp only [go_sem,Nat.reduceAdd]) only [go_sem,Int.reduceLT,Int.reduceLE,Int.reduceEq,reduceIte,true_and, f1, f3, f5, g', d1, d4, L1.c5, ew, n3, n4, n5, o', hm, hw1]
          exact good rfl rfl (vy f1) (vy f3) vz (by rw [hb, decide_eq_false hm])
      by_cases n2 : x.op = 2
      · have o' := eq_true n2
        have hb : badI t x = decide ((t.args.length : Int) ≤ x.imm) := by simp [badI, n3, n4, n5, n6, n2]
        by_cases hm : (t.args.length : Int) ≤ x.imm
        · have hm' := eq_true hm
          simp -implicitDefEqProofs (disch:=first|omega|simp only [go_sem,Nat.reduceAdd]) only [go_sem,Int.reduceLT,Int.reduceLE,Int.reduceEq,reduceIte,true_and, f1, f3, f5, g', d1, d4, L1.c3, ea, n3, n4, n5, n6, o', hm']
          refine hX _ _ (by simp) ?_
          simp -implicitDefEqProofs (disch:=first|omega|simp only [go_sem,Nat.reduceAdd]) only [go_sem,Int.reduceLT,Int.reduceLE,Int.reduceEq,reduceIte,true_and]
          exact bad (by rw [hb, decide_eq_true hm])
        · simp -implicitDefEqProofs (disch:=first|omega|simp only [go_sem,Nat.reduceAdd]) only [go_sem,Int.reduceLT,Int.reduceLE,Int.reduceEq,reduceIte,true_and, f1, f3, f5, g', d1, d4, L1.c3, ea, n3, n4, n5, n6, o', hm, hw1]
          exact good rfl rfl (vy f1) (vy f3) vz (by rw [hb, decide_eq_false hm])
      have hb : badI t x = false := by simp [badI, n3, n4, n5, n6, n2]
      simp -implicitDefEqProofs (disch:=first|omega|simp only [go_sem,Nat.reduceAdd]) only [go_sem,Int.reduceLT,Int.reduceLE,Int.reduceEq,reduceIte,true_and, f1, f3, f5, g', d1, d4, n3, n4, n5, n6, n2, hw1]
      exact good rfl rfl (vy f1) (vy f3) vz hb
    · obtain rfl : i = xs.length := by omega
      rw [List.take_length] at hn
      rw [hn] at hT
      refine hX _ _ (by simp) ?_
      simp -implicitDefEqProofs (disch:=first|omega|simp only [go_sem,Nat.reduceAdd]) only [go_sem,Int.reduceLT,Int.reduceLE,Int.reduceEq,reduceIte,true_and]
      exact ⟨_, rfl, by rw [hT]; rfl, hE.trans hE1⟩
end Go.Proofs.Ytbdljpndncohaaa

namespace Go.Proofs.Ytbdljpndncohaaa
open Go.D
set_option maxRecDepth 100000

set_option maxHeartbeats 1000000 in
theorem checkT_c {h : DHeap} {t : Txn} {vc va vr vw : Value} (hc : Arg fU8.rep h vc t.code) (ha : Arg fI64.rep h va t.args) (hr : Arg fKey.rep h vr t.reads) (hw : Arg fKey.rep h vw t.writes) (hl : t.code.length ≤ 1048576) (hby : ∀ j, 0 ≤ t.code.getD j 0 ∧ t.code.getD j 0 ≤ 255) :
    DC Try.prog 32 [txnV t.ses t.req vc va vr vw] h (.ret (.int .i64 (txnE t))) h := by
  refine Ct.pure (go_32 (by simp) ?_) (vin_int _ _)
  have hvc := hc.cells1
  have hva := ha.cells1
  have hvr := hr.cells1
  have hvw := hw.cells1
  obtain ⟨H, hH⟩ : ∃ H, H = h.push (.row [.int .i64 t.ses, .int .i64 t.req, vc, va, vr, vw] 0 false) := ⟨_, rfl⟩
  have hE : Ext h H := by rw [hH]; exact Ext.push1 _ _
  have g : H.get h.next = some (.row [.int .i64 t.ses, .int .i64 t.req, vc, va, vr, vw] 0 false) := by rw [hH]; exact get_push_same _ _
  have hHn : H.next = h.next + 1 := by rw [hH]; rfl
  have LT : ∀ K, Ext H K → TxnAt K h.next t vc va vr vw := fun K e => TxnAt.of ((e.get _ (by omega)).trans g)
  have L0 := LT H (.refl _)
  have ea : ∀ K, dLen Try.prog #[23] va K = some (.int .i64 (t.args.length : Nat)) := ha.lens (P := Try.prog) (ts := #[23]) (t := 23) rfl isl_23
  have er : ∀ K, dLen Try.prog #[24] vr K = some (.int .i64 (t.reads.length : Nat)) := hr.lens (P := Try.prog) (ts := #[24]) (t := 24) rfl isl_24
  have ew : ∀ K, dLen Try.prog #[24] vw K = some (.int .i64 (t.writes.length : Nat)) := hw.lens (P := Try.prog) (ts := #[24]) (t := 24) rfl isl_24
  by_cases p1 : t.ses < 1 ∨ 1099511627776 < t.ses ∨ t.req < 1 ∨ 1099511627776 < t.req
  · have hT : txnE t = 1 := by rw [txnE, if_pos p1]
    by_cases q1 : t.ses < 1
    · have q1' := eq_true q1
      simp -implicitDefEqProofs (disch:=first|omega|simp only [go_sem,Nat.reduceAdd]) only [go_sem,Int.reduceLT,Int.reduceLE,Int.reduceEq,reduceIte,true_and, c32, ← hH, L0.c0, L0.c1, q1', dPick_t, dPick_f]
      exact ⟨_, rfl, by rw [hT], hE⟩
    by_cases q2 : 1099511627776 < t.ses
    · have q2' := eq_true q2
      simp -implicitDefEqProofs (disch:=first|omega|simp only [go_sem,Nat.reduceAdd]) only [go_sem,Int.reduceLT,Int.reduceLE,Int.reduceEq,reduceIte,true_and, c32, ← hH, L0.c0, L0.c1, q1, q2', dPick_t, dPick_f]
      exact ⟨_, rfl, by rw [hT], hE⟩
    by_cases q3 : t.req < 1
    · have q3' := eq_true q3
      simp -implicitDefEqProofs (disch:=first|omega|simp only [go_sem,Nat.reduceAdd]) only [go_sem,Int.reduceLT,Int.reduceLE,Int.reduceEq,reduceIte,true_and, c32, ← hH, L0.c0, L0.c1, q1, q2, q3', dPick_t, dPick_f]
      exact ⟨_, rfl, by rw [hT], hE⟩
    have q4 : 1099511627776 < t.req := by omega
    have q4' := eq_true q4
    simp -implicitDefEqProofs (disch:=first|omega|simp only [go_sem,Nat.reduceAdd]) only [go_sem,Int.reduceLT,Int.reduceLE,Int.reduceEq,reduceIte,true_and, c32, ← hH, L0.c0, L0.c1, q1, q2, q3, q4', dPick_t, dPick_f]
    exact ⟨_, rfl, by rw [hT], hE⟩
  have q1 : ¬ t.ses < 1 := fun hh => p1 (.inl hh)
  have q2 : ¬ 1099511627776 < t.ses := fun hh => p1 (.inr (.inl hh))
  have q3 : ¬ t.req < 1 := fun hh => p1 (.inr (.inr (.inl hh)))
  have q4 : ¬ 1099511627776 < t.req := fun hh => p1 (.inr (.inr (.inr hh)))
  by_cases p2 : 8 < t.args.length ∨ 16 < t.reads.length ∨ 16 < t.writes.length
  · have hT : txnE t = 3 := by rw [txnE, if_neg p1, if_pos p2]
    by_cases r1 : (8 : Int) < (t.args.length : Nat)
    · have r1' := eq_true r1
      simp -implicitDefEqProofs (disch:=first|omega|simp only [go_sem,Nat.reduceAdd]) only [go_sem,Int.reduceLT,Int.reduceLE,Int.reduceEq,reduceIte,true_and, c32, ← hH, L0.c0, L0.c1, L0.c3, L0.c4, L0.c5, ea, er, ew, q1, q2, q3, q4, r1', dPick_t, dPick_f]
      exact ⟨_, rfl, by rw [hT], hE⟩
    by_cases r2 : (16 : Int) < (t.reads.length : Nat)
    · have r2' := eq_true r2
      simp -implicitDefEqProofs (disch:=first|omega|simp only [go_sem,Nat.reduceAdd]) only [go_sem,Int.reduceLT,Int.reduceLE,Int.reduceEq,reduceIte,true_and, c32, ← hH, L0.c0, L0.c1, L0.c3, L0.c4, L0.c5, ea, er, ew, q1, q2, q3, q4, r1, r2', dPick_t, dPick_f]
      exact ⟨_, rfl, by rw [hT], hE⟩
    have r3 : (16 : Int) < (t.writes.length : Nat) := by omega
    have r3' := eq_true r3
    simp -implicitDefEqProofs (disch:=first|omega|simp only [go_sem,Nat.reduceAdd]) only [go_sem,Int.reduceLT,Int.reduceLE,Int.reduceEq,reduceIte,true_and, c32, ← hH, L0.c0, L0.c1, L0.c3, L0.c4, L0.c5, ea, er, ew, q1, q2, q3, q4, r1, r2, r3', dPick_t, dPick_f]
    exact ⟨_, rfl, by rw [hT], hE⟩
  have r1 : ¬ (8 : Int) < (t.args.length : Nat) := by omega
  have r2 : ¬ (16 : Int) < (t.reads.length : Nat) := by omega
  have r3 : ¬ (16 : Int) < (t.writes.length : Nat) := by omega
  simp -implicitDefEqProofs (disch:=first|omega|simp only [go_sem,Nat.reduceAdd]) only [go_sem,Int.reduceLT,Int.reduceLE,Int.reduceEq,reduceIte,true_and, c32, ← hH, L0.c0, L0.c1, L0.c3, L0.c4, L0.c5, ea, er, ew, q1, q2, q3, q4, r1, r2, r3, dPick_t, dPick_f]
  refine ncall (rises_c (hr.ext hE) (by omega)) ?_
  cases u1 : risesB keyLt t.reads with
  | false =>
    have hT : txnE t = 1 := by rw [txnE, if_neg p1, if_neg p2, if_pos (.inl u1)]
    simp -implicitDefEqProofs (disch:=first|omega|simp only [go_sem,Nat.reduceAdd]) only [go_sem,Int.reduceLT,Int.reduceLE,Int.reduceEq,reduceIte,true_and, dPick_t, dPick_f]
    exact ⟨_, rfl, by rw [hT], hE⟩
  | true =>
  simp -implicitDefEqProofs (disch:=first|omega|simp only [go_sem,Nat.reduceAdd]) only [go_sem,Int.reduceLT,Int.reduceLE,Int.reduceEq,reduceIte,true_and, L0.c5]
  refine ncall (rises_c (hw.ext hE) (by omega)) ?_
  cases u2 : risesB keyLt t.writes with
  | false =>
    have hT : txnE t = 1 := by rw [txnE, if_neg p1, if_neg p2, if_pos (.inr u2)]
    simp -implicitDefEqProofs (disch:=first|omega|simp only [go_sem,Nat.reduceAdd]) only [go_sem,Int.reduceLT,Int.reduceLE,Int.reduceEq,reduceIte,true_and, dPick_t, dPick_f]
    exact ⟨_, rfl, by rw [hT], hE⟩
  | true =>
  have hT : txnE t = if decE t.code ≠ 0 then decE t.code else if (decL t.code).any (badI t) then 132 else 0 := by rw [txnE, if_neg p1, if_neg p2, if_neg (by simp [u1, u2])]
  simp -implicitDefEqProofs (disch:=first|omega|simp only [go_sem,Nat.reduceAdd]) only [go_sem,Int.reduceLT,Int.reduceLE,Int.reduceEq,reduceIte,true_and, dPick_t, dPick_f, L0.c2]
  refine ncall_ct (decode_c (hc.ext hE) hl) ?_
  rintro r h1 ⟨w, rfl, hE1, hxs⟩
  have L1 := LT h1 hE1
  by_cases he : decE t.code = 0
  case neg =>
    rw [if_pos he] at hT
    simp -implicitDefEqProofs (disch:=first|omega|simp only [go_sem,Nat.reduceAdd]) only [go_sem,Int.reduceLT,Int.reduceLE,Int.reduceEq,reduceIte,true_and, XEnd, he]
    exact ⟨_, rfl, by rw [hT], hE.trans hE1⟩
  have he' := eq_true he
  rw [if_neg (fun hh => hh he)] at hT
  obtain ⟨xs, hx⟩ : ∃ xs, decL t.code = xs := ⟨_, rfl⟩
  rw [hx] at hxs hT
  have elw : ∀ K, dLen Try.prog #[91] w K = some (.int .i64 (xs.length : Nat)) := hxs.lens (P := Try.prog) (ts := #[91]) (t := 91) rfl isl_91
  have hxl : xs.length ≤ 1048576 := by
    rw [← hx]
    rw [decL, if_pos he]
    have := walkAt_len (l := t.code) (n := t.code.length) (i := 0) (by omega)
    omega
  simp -implicitDefEqProofs (disch:=first|omega|simp only [go_sem,Nat.reduceAdd]) only [go_sem,Int.reduceLT,Int.reduceLE,Int.reduceEq,reduceIte,true_and, XEnd, he', elw]
  have himm := decL_imm hby
  rw [hx] at himm
  refine xloop (σ := Nat) (by kernel_rfl) (fun i s => s.df = [] ∧ s.rd = none ∧ Ext h1 s.h ∧ s.fr 1 = some (.pointer (some ⟨h.next, 0, none⟩)) ∧ s.fr 64 = some w ∧ s.fr 65 = some (.int .i64 (xs.length : Nat)) ∧ s.fr 66 = some (.int .i64 (i : Nat)) ∧ i ≤ xs.length ∧ (xs.take i).any (badI t) = false) (fun i => xs.length - i) 0 ?_ ?_
  · simp -implicitDefEqProofs (disch:=first|omega|simp only [go_sem,Nat.reduceAdd]) only [go_sem,Int.reduceLT,Int.reduceLE,Int.reduceEq,reduceIte,true_and]
    exact ⟨.refl _, rfl, Nat.zero_le _, rfl⟩
  · rintro i ⟨fr, df, K, rd⟩ K' hK' hX ⟨hdf, hrd, hEK, f1, f64, f65, f66, hi, hn⟩
    simp only at hdf hrd hEK f1 f64 f65 f66
    subst hdf hrd
    simp -implicitDefEqProofs (disch:=first|omega|simp only [go_sem,Nat.reduceAdd]) only [go_sem,Int.reduceLT,Int.reduceLE,Int.reduceEq,reduceIte,true_and, f65, f66]
    refine XIf_dec (fun hc1 => ?_) (fun hc1 => ?_)
    · have hj : i < xs.length := by omega
      obtain ⟨id, o, g', c5, _, _, _⟩ := instr_idx (hxs.ext hEK) hj
      have hw1 := wrap_succ hj (by omega)
      have hmem := List.getElem_mem hj
      have him := himm _ hmem
      have hsucc := fun hx => any_take (t := t) hj hn hx
      have hbad : ∀ hb : badI t xs[i] = true, xs.any (badI t) = true := fun hb => List.any_eq_true.2 ⟨_, hmem, hb⟩
      obtain ⟨x, hxi⟩ : ∃ x, xs[i] = x := ⟨_, rfl⟩
      rw [hxi] at c5 hsucc hbad him
      obtain ⟨K1, hK1⟩ : ∃ K1, K1 = K.push (.row (fInstr.enc x) 0 false) := ⟨_, rfl⟩
      have g1 : K1.get K.next = some (.row (fInstr.enc x) 0 false) := by rw [hK1]; exact get_push_same _ _
      have p1' : cellAt K1 K.next 1 = some (.int .i64 x.op) := cellAt_row g1
      have p4 : cellAt K1 K.next 4 = some (.int .i64 x.imm) := cellAt_row g1
      have s5 := store5 (h := K) (x := x)
      rw [← hK1] at s5
      have hEK1 : Ext h1 K1 := hEK.trans (by rw [hK1]; exact Ext.push1 _ _)
      have L2 := LT K1 (hE1.trans hEK1)
      have good : ∀ {s : St}, s.df = [] → s.rd = none → s.h = K1 → s.fr 1 = some (.pointer (some ⟨h.next, 0, none⟩)) → s.fr 64 = some w → s.fr 65 = some (.int .i64 (xs.length : Nat)) → s.fr 66 = some (.int .i64 ((i + 1 : Nat) : Int)) → badI t x = false → K' .normal s := fun a r b c d e g f =>
        hK' (i + 1) _ ⟨a, r, b ▸ hEK1, c, d, e, g, by omega, hsucc f⟩ (by omega)
      have bad : badI t x = true → ∃ v, some (Value.int .i64 132) = some v ∧ DEnd.ret v = .ret (.int .i64 (txnE t)) ∧ Ext h K1 := fun hb => by
        rw [hbad hb, if_pos rfl] at hT
        exact ⟨_, rfl, by rw [hT], (hE.trans hE1).trans hEK1⟩
      by_cases n3 : x.op = 3
      · have o' := eq_true n3
        have hb : badI t x = decide ((t.reads.length : Int) ≤ x.imm) := by simp [badI, n3]
        by_cases hm : (t.reads.length : Int) ≤ x.imm
        · have hm' := eq_true hm
          simp -implicitDefEqProofs (disch:=first|omega|simp only [go_sem,Nat.reduceAdd]) only [go_sem,Int.reduceLT,Int.reduceLE,Int.reduceEq,reduceIte,true_and, f1, f64, f66, g', c5, s5, p1', p4, L2.c4, er, o', hm']
          refine hX _ _ (by simp) ?_
          simp -implicitDefEqProofs (disch:=first|omega|simp only [go_sem,Nat.reduceAdd]) only [go_sem,Int.reduceLT,Int.reduceLE,Int.reduceEq,reduceIte,true_and]
          exact bad (by rw [hb, decide_eq_true hm])
        · simp -implicitDefEqProofs (disch:=first|omega|simp only [go_sem,Nat.reduceAdd]) only [go_sem,Int.reduceLT,Int.reduceLE,Int.reduceEq,reduceIte,true_and, f1, f64, f66, g', c5, s5, p1', p4, L2.c4, er, o', hm, hw1]
          exact good rfl rfl rfl (vy f1) (vy f64) (vy f65) vz (by rw [hb, decide_eq_false hm])
      by_cases n4 : x.op = 4
      · have o' := eq_true n4
        have hb : badI t x = decide ((t.reads.length : Int) ≤ x.imm) := by simp [badI, n3, n4]
        by_cases hm : (t.reads.length : Int) ≤ x.imm
        · have hm' := eq_true hm
          simp -implicitDefEqProofs (disch:=first|omega|simp only [go_sem,Nat.reduceAdd]) only [go_sem,Int.reduceLT,Int.reduceLE,Int.reduceEq,reduceIte,true_and, f1, f64, f66, g', c5, s5, p1', p4, L2.c4, er, n3, o', hm']
          refine hX _ _ (by simp) ?_
          simp -implicitDefEqProofs (disch:=first|omega|simp only [go_sem,Nat.reduceAdd]) only [go_sem,Int.reduceLT,Int.reduceLE,Int.reduceEq,reduceIte,true_and]
          exact bad (by rw [hb, decide_eq_true hm])
        · simp -implicitDefEqProofs (disch:=first|omega|simp only [go_sem,Nat.reduceAdd]) only [go_sem,Int.reduceLT,Int.reduceLE,Int.reduceEq,reduceIte,true_and, f1, f64, f66, g', c5, s5, p1', p4, L2.c4, er, n3, o', hm, hw1]
          exact good rfl rfl rfl (vy f1) (vy f64) (vy f65) vz (by rw [hb, decide_eq_false hm])
      by_cases n5 : x.op = 5
      · have o' := eq_true n5
        have hb : badI t x = decide ((t.writes.length : Int) ≤ x.imm) := by simp [badI, n3, n4, n5]
        by_cases hm : (t.writes.length : Int) ≤ x.imm
        · have hm' := eq_true hm
          simp -implicitDefEqProofs (disch:=first|omega|simp only [go_sem,Nat.reduceAdd]) only [go_sem,Int.reduceLT,Int.reduceLE,Int.reduceEq,reduceIte,true_and, f1, f64, f66, g', c5, s5, p1', p4, L2.c5, ew, n3, n4, o', hm']
          refine hX _ _ (by simp) ?_
          simp -implicitDefEqProofs (disch:=first|omega|simp only [go_sem,Nat.reduceAdd]) only [go_sem,Int.reduceLT,Int.reduceLE,Int.reduceEq,reduceIte,true_and]
          exact bad (by rw [hb, decide_eq_true hm])
        · simp -implicitDefEqProofs (disch:=first|omega|simp only [go_sem,Nat.reduceAdd]) only [go_sem,Int.reduceLT,Int.reduceLE,Int.reduceEq,reduceIte,true_and, f1, f64, f66, g', c5, s5, p1', p4, L2.c5, ew, n3, n4, o', hm, hw1]
          exact good rfl rfl rfl (vy f1) (vy f64) (vy f65) vz (by rw [hb, decide_eq_false hm])
      by_cases n6 : x.op = 6
      · have o' := eq_true n6
        have hb : badI t x = decide ((t.writes.length : Int) ≤ x.imm) := by simp [badI, n3, n4, n5, n6]
        by_cases hm : (t.writes.length : Int) ≤ x.imm
        · have hm' := eq_true hm
          simp -implicitDefEqProofs (disch:=first|omega|simp only [go_sem,Nat.reduceAdd]) only [go_sem,Int.reduceLT,Int.reduceLE,Int.reduceEq,reduceIte,true_and, f1, f64, f66, g', c5, s5, p1', p4, L2.c5, ew, n3, n4, n5, o', hm']
          refine hX _ _ (by simp) ?_
          simp -implicitDefEqProofs (disch:=first|omega|simp only [go_sem,Nat.reduceAdd]) only [go_sem,Int.reduceLT,Int.reduceLE,Int.reduceEq,reduceIte,true_and]
          exact bad (by rw [hb, decide_eq_true hm])
        · simp -implicitDefEqProofs (disch:=first|omega|simp only [go_sem,Nat.reduceAdd]) only [go_sem,Int.reduceLT,Int.reduceLE,Int.reduceEq,reduceIte,true_and, f1, f64, f66, g', c5, s5, p1', p4, L2.c5, ew, n3, n4, n5, o', hm, hw1]
          exact good rfl rfl rfl (vy f1) (vy f64) (vy f65) vz (by rw [hb, decide_eq_false hm])
      by_cases n2 : x.op = 2
      · have o' := eq_true n2
        have hb : badI t x = decide ((t.args.length : Int) ≤ x.imm) := by simp [badI, n3, n4, n5, n6, n2]
        by_cases hm : (t.args.length : Int) ≤ x.imm
        · have hm' := eq_true hm
          simp -implicitDefEqProofs (disch:=first|omega|simp only [go_sem,Nat.reduceAdd]) only [go_sem,Int.reduceLT,Int.reduceLE,Int.reduceEq,reduceIte,true_and, f1, f64, f66, g', c5, s5, p1', p4, L2.c3, ea, n3, n4, n5, n6, o', hm']
          refine hX _ _ (by simp) ?_
          simp -implicitDefEqProofs (disch:=first|omega|simp only [go_sem,Nat.reduceAdd]) only [go_sem,Int.reduceLT,Int.reduceLE,Int.reduceEq,reduceIte,true_and]
          exact bad (by rw [hb, decide_eq_true hm])
        · simp -implicitDefEqProofs (disch:=first|omega|simp only [go_sem,Nat.reduceAdd]) only [go_sem,Int.reduceLT,Int.reduceLE,Int.reduceEq,reduceIte,true_and, f1, f64, f66, g', c5, s5, p1', p4, L2.c3, ea, n3, n4, n5, n6, o', hm, hw1]
          exact good rfl rfl rfl (vy f1) (vy f64) (vy f65) vz (by rw [hb, decide_eq_false hm])
      have hb : badI t x = false := by simp [badI, n3, n4, n5, n6, n2]
      have hm : ¬ 1048576 ≤ x.imm := by omega
      simp -implicitDefEqProofs (disch:=first|omega|simp only [go_sem,Nat.reduceAdd]) only [go_sem,Int.reduceLT,Int.reduceLE,Int.reduceEq,reduceIte,true_and, f1, f64, f66, g', c5, s5, p1', p4, n3, n4, n5, n6, n2, hm, hw1]
      exact good rfl rfl rfl (vy f1) (vy f64) (vy f65) vz hb
    · obtain rfl : i = xs.length := by omega
      rw [List.take_length] at hn
      rw [hn] at hT
      refine hX _ _ (by simp) ?_
      simp -implicitDefEqProofs (disch:=first|omega|simp only [go_sem,Nat.reduceAdd]) only [go_sem,Int.reduceLT,Int.reduceLE,Int.reduceEq,reduceIte,true_and]
      exact ⟨_, rfl, by rw [hT]; rfl, (hE.trans hE1).trans hEK⟩
end Go.Proofs.Ytbdljpndncohaaa

namespace Go.Proofs.Ytbdljpndncohaaa
open Go.D
set_option maxRecDepth 100000

theorem clone_ints {h : DHeap} {b : Value} {l : List Int} (hb : Arg fI64.rep h b l) (hl : l.length ≤ 4294967296) : DC Try.prog 35 [b] h (.ret (cloneV h b l)) (cloneH fI64 h b l) := by
  refine Ct.cloned hb (go_35 (by simp) ?_)
  simp -implicitDefEqProofs (disch:=first|omega|simp only [go_sem,Nat.reduceAdd]) only [go_sem,Int.reduceLT,Int.reduceLE,Int.reduceEq,reduceIte, c35, hb.nilEq isl_23]
  refine XIf_split (fun hn => ?_) (fun hn => ?_)
  · simp -implicitDefEqProofs (disch:=first|omega|simp only [go_sem,Nat.reduceAdd]) only [go_sem,Int.reduceLT,Int.reduceLE,Int.reduceEq,reduceIte]
    obtain ⟨_, rfl⟩ := isNilV_nil hb hn
    exact ⟨_, rfl, _, rfl, .nil _ (.refl h), hn.symm⟩
  · have m0 : Made fI64 h (h.push (.row [] 1 false)) (.slice (some ⟨h.next, 0, none⟩) 0 0) [] := .none0 fI64 (.refl h) rfl
    obtain ⟨v2, h2, e2, m2, k2⟩ := m0.append app_23 (hb.ext (Ext.push1 _ _)) (by simpa using hl) (by decide)
    simp -implicitDefEqProofs (disch:=first|omega|simp only [go_sem,Nat.reduceAdd]) only [go_sem,Int.reduceLT,Int.reduceLE,Int.reduceEq,reduceIte, e2]
    exact ⟨_, rfl, _, rfl, m2, (m0.isNil_append rfl m2 fun hk => (k2 hk).1).trans hn.symm⟩
theorem clone_keys {h : DHeap} {b : Value} {l : List Key} (hb : Arg fKey.rep h b l) (hl : l.length ≤ 4294967296) : DC Try.prog 51 [b] h (.ret (cloneV h b l)) (cloneH fKey h b l) := by
  refine Ct.cloned hb (go_51 (by simp) ?_)
  simp -implicitDefEqProofs (disch:=first|omega|simp only [go_sem,Nat.reduceAdd]) only [go_sem,Int.reduceLT,Int.reduceLE,Int.reduceEq,reduceIte, c51, hb.nilEq isl_24]
  refine XIf_split (fun hn => ?_) (fun hn => ?_)
  · simp -implicitDefEqProofs (disch:=first|omega|simp only [go_sem,Nat.reduceAdd]) only [go_sem,Int.reduceLT,Int.reduceLE,Int.reduceEq,reduceIte]
    obtain ⟨_, rfl⟩ := isNilV_nil hb hn
    exact ⟨_, rfl, _, rfl, .nil _ (.refl h), hn.symm⟩
  · have m0 : Made fKey h (h.push (.row [] 2 false)) (.slice (some ⟨h.next, 0, none⟩) 0 0) [] := .none0 fKey (.refl h) rfl
    obtain ⟨v2, h2, e2, m2, k2⟩ := m0.append app_24 (hb.ext (Ext.push1 _ _)) (by simpa using hl) (by decide)
    simp -implicitDefEqProofs (disch:=first|omega|simp only [go_sem,Nat.reduceAdd]) only [go_sem,Int.reduceLT,Int.reduceLE,Int.reduceEq,reduceIte, e2]
    exact ⟨_, rfl, _, rfl, m2, (m0.isNil_append rfl m2 fun hk => (k2 hk).1).trans hn.symm⟩

/-- the lists of a transaction, as they lie -/
structure TxV (S : Nat → Prop) (h : DHeap) (t : Txn) (vc va vr vw : Value) : Prop where
  c : Sl fU8.rep S h vc t.code
  a : Sl fI64.rep S h va t.args
  r : Sl fKey.rep S h vr t.reads
  w : Sl fKey.rep S h vw t.writes
theorem TxV.mono {S S' : Nat → Prop} {h h' : DHeap} {t : Txn} {vc va vr vw : Value} (x : TxV S h t vc va vr vw) (m : ∀ i, S i → S' i ∧ h'.get i = h.get i) : TxV S' h' t vc va vr vw :=
  ⟨x.c.mono m, x.a.mono m, x.r.mono m, x.w.mono m⟩
/-- the lengths that a transaction may have here -/
structure TxLen (t : Txn) : Prop where
  c : t.code.length ≤ 1048576
  a : t.args.length ≤ 1048576
  r : t.reads.length ≤ 1048576
  w : t.writes.length ≤ 1048576
abbrev InH (h : DHeap) : Nat → Prop := fun i => i < h.next
abbrev Fresh (h h1 : DHeap) : Nat → Prop := fun i => h.next ≤ i ∧ i < h1.next
theorem TxV.ext {h h1 : DHeap} {t : Txn} {vc va vr vw : Value} (x : TxV (InH h) h t vc va vr vw) (e : Ext h h1) : TxV (InH h1) h1 t vc va vr vw :=
  x.mono fun i hi => ⟨Nat.lt_of_lt_of_le hi e.next, e.get i hi⟩
theorem TxV.one {S : Nat → Prop} {h : DHeap} {t : Txn} {vc va vr vw : Value} (x : TxV S h t vc va vr vw) (a b : Int) : [.int .i64 a, .int .i64 b, vc, va, vr, vw].all Value.oneCell' = true := by
  obtain ⟨_, _, rfl⟩ := x.c.isSlice
  obtain ⟨_, _, rfl⟩ := x.a.isSlice
  obtain ⟨_, _, rfl⟩ := x.r.isSlice
  obtain ⟨_, _, rfl⟩ := x.w.isSlice
  rfl
/-- one cell of a box is written again -/
theorem store_cell {K : DHeap} {id o z : Nat} {R R' : List Value} {v : Value} (hv : v.cells = #[v]) (hone : [v].all Value.oneCell' = true) (ho : o + 1 ≤ R.length) (hR : R.set o v = R') (g : K.get id = some (.row R z false)) : storeAt K id o [v] = some (K.set id (.row R' z false)) := by
  subst hR
  exact storeAt_row g ho hone
theorem one_sl {α : Type} {R : Rep α} {S : Nat → Prop} {h : DHeap} {v : Value} {l : List α} (x : Sl R S h v l) : [v].all Value.oneCell' = true := by obtain ⟨_, _, rfl⟩ := x.isSlice; rfl

/-- a row that may be written -/
def Wrt (h : DHeap) (i : Nat) : Prop := ∃ cs z, h.get i = some (.row cs z false)
theorem Made.slW {α : Type} {F : FRep α} {h h1 : DHeap} {v : Value} {l : List α} (m : Made F h h1 v l) : Sl F.rep (fun i => Fresh h h1 i ∧ Wrt h1 i) h1 v l := by
  obtain ⟨w, a, b⟩ := m.own
  rcases a with ⟨rfl, rfl, _⟩ | ⟨_, _, a⟩ | ⟨id, cap, cells, rfl, rfl, lt, g, hl, els⟩
  · exact .nil _ _ _
  · rcases a with ⟨rfl, rfl⟩ | ⟨id, o, cap, cells, esz, ro, h1, h2, _⟩
    · exact .nil _ _ _
    · exact h2.elim
  · exact .inr ⟨id, 0, cap, cells, _, false, rfl, ⟨⟨b id rfl, lt⟩, cells, _, g⟩, g, .inr rfl, by omega, Els.flat.2 (Els.flat.1 els)⟩
theorem slW_mono {α : Type} {R : Rep α} {S S' : Nat → Prop} {h h' : DHeap} {v : Value} {l : List α} (x : Sl R (fun i => S i ∧ Wrt h i) h v l) (m : ∀ i, S i → S' i ∧ h'.get i = h.get i) : Sl R (fun i => S' i ∧ Wrt h' i) h' v l :=
  x.mono fun i hi => by
    obtain ⟨a, b⟩ := m i hi.1
    obtain ⟨cs, z, g⟩ := hi.2
    exact ⟨⟨a, cs, z, b.trans g⟩, b⟩
/-- the lists of a transaction, as they lie, in rows that may be written -/
def TxW (S : Nat → Prop) (h : DHeap) (t : Txn) (vc va vr vw : Value) : Prop := TxV (fun i => S i ∧ Wrt h i) h t vc va vr vw
theorem TxW.v {S : Nat → Prop} {h : DHeap} {t : Txn} {vc va vr vw : Value} (x : TxW S h t vc va vr vw) : TxV S h t vc va vr vw := TxV.mono x fun _ hi => ⟨hi.1, rfl⟩
theorem TxW.mono {S S' : Nat → Prop} {h h' : DHeap} {t : Txn} {vc va vr vw : Value} (x : TxW S h t vc va vr vw) (m : ∀ i, S i → S' i ∧ h'.get i = h.get i) : TxW S' h' t vc va vr vw :=
  ⟨slW_mono x.c m, slW_mono x.a m, slW_mono x.r m, slW_mono x.w m⟩
theorem cloneT_w {h : DHeap} {t : Txn} {vc va vr vw : Value} (x : TxV (InH h) h t vc va vr vw) (hl : TxLen t) :
    Ct Try.prog 37 [txnV t.ses t.req vc va vr vw] h fun r h1 => ∃ vc' va' vr' vw', r = .ret (txnV t.ses t.req vc' va' vr' vw') ∧ Ext h h1 ∧ TxW (Fresh h h1) h1 t vc' va' vr' vw' := by
  refine go_37 (by simp) ?_
  have hvc := x.c.cells1
  have hva := x.a.cells1
  have hvr := x.r.cells1
  have hvw := x.w.cells1
  obtain ⟨H, hH⟩ : ∃ H, H = (h.push (.row [.int .i64 t.ses, .int .i64 t.req, vc, va, vr, vw] 0 false)).push (.row [.int .i64 0, .int .i64 0, .slice none 0 0, .slice none 0 0, .slice none 0 0, .slice none 0 0] 0 false) := ⟨_, rfl⟩
  have hE : Ext h H := by rw [hH]; exact (Ext.push1 _ _).push _
  have hHn : H.next = h.next + 2 := by rw [hH]; rfl
  have ga : H.get h.next = some (.row [.int .i64 t.ses, .int .i64 t.req, vc, va, vr, vw] 0 false) := by rw [hH]; exact get_p1
  have gb : H.get (h.next + 1) = some (.row [.int .i64 0, .int .i64 0, .slice none 0 0, .slice none 0 0, .slice none 0 0, .slice none 0 0] 0 false) := by rw [hH]; exact get_push_same _ _
  obtain ⟨K1, hK1⟩ : ∃ K, cloneH fU8 H vc t.code = K := ⟨_, rfl⟩
  obtain ⟨c', hc'⟩ : ∃ v, cloneV H vc t.code = v := ⟨_, rfl⟩
  have e1 : Ext H K1 := hK1 ▸ cloneH_ext _ _ _ _
  have t1 := clone_u8 (x.c.ext hE) (by have := hl.c; omega)
  rw [hK1, hc'] at t1
  have x1 := x.ext (hE.trans e1)
  obtain ⟨K2, hK2⟩ : ∃ K, cloneH fI64 K1 va t.args = K := ⟨_, rfl⟩
  obtain ⟨a', ha'⟩ : ∃ v, cloneV K1 va t.args = v := ⟨_, rfl⟩
  have e2 : Ext K1 K2 := hK2 ▸ cloneH_ext _ _ _ _
  have t2 := clone_ints x1.a (by have := hl.a; omega)
  rw [hK2, ha'] at t2
  have x2 := x1.ext e2
  obtain ⟨K3, hK3⟩ : ∃ K, cloneH fKey K2 vr t.reads = K := ⟨_, rfl⟩
  obtain ⟨r', hr'⟩ : ∃ v, cloneV K2 vr t.reads = v := ⟨_, rfl⟩
  have e3 : Ext K2 K3 := hK3 ▸ cloneH_ext _ _ _ _
  have t3 := clone_keys x2.r (by have := hl.r; omega)
  rw [hK3, hr'] at t3
  have x3 := x2.ext e3
  obtain ⟨K4, hK4⟩ : ∃ K, cloneH fKey K3 vw t.writes = K := ⟨_, rfl⟩
  obtain ⟨w', hw'⟩ : ∃ v, cloneV K3 vw t.writes = v := ⟨_, rfl⟩
  have e4 : Ext K3 K4 := hK4 ▸ cloneH_ext _ _ _ _
  have t4 := clone_keys x3.w (by have := hl.w; omega)
  rw [hK4, hw'] at t4
  have E4 : Ext H K4 := ((e1.trans e2).trans e3).trans e4
  have gK : ∀ K, Ext H K → K.get h.next = some (.row [.int .i64 t.ses, .int .i64 t.req, vc, va, vr, vw] 0 false) := fun K e => (e.get _ (by omega)).trans ga
  have g1 := gK K1 e1
  have g2 := gK K2 (e1.trans e2)
  have g3 := gK K3 ((e1.trans e2).trans e3)
  have g4 := gK K4 E4
  have hn4 := E4.next
  -- the copies, where all is done
  have fin : ∀ M, K4.next ≤ M.next → (∀ i, i ≠ h.next → i ≠ h.next + 1 → M.get i = K4.get i) → TxW (Fresh h M) M t c' a' r' w' := fun M hn hg => by
    have n1 := e1.next
    have n2 := e2.next
    have n3 := e3.next
    have n4 := e4.next
    have m1 := clone_made (F := fU8) (h := H) (x.c.ext hE)
    have m2 := clone_made (F := fI64) (h := K1) x1.a
    have m3 := clone_made (F := fKey) (h := K2) x2.r
    have m4 := clone_made (F := fKey) (h := K3) x3.w
    rw [hK1, hc'] at m1
    rw [hK2, ha'] at m2
    rw [hK3, hr'] at m3
    rw [hK4, hw'] at m4
    refine ⟨slW_mono (Made.slW m1) fun i hi => ⟨⟨by omega, by omega⟩, ?_⟩, slW_mono (Made.slW m2) fun i hi => ⟨⟨by omega, by omega⟩, ?_⟩, slW_mono (Made.slW m3) fun i hi => ⟨⟨by omega, by omega⟩, ?_⟩, slW_mono (Made.slW m4) fun i hi => ⟨⟨by omega, by omega⟩, ?_⟩⟩
    · exact (hg i (by omega) (by omega)).trans (((e2.trans e3).trans e4).get i hi.2)
    · exact (hg i (by omega) (by omega)).trans ((e3.trans e4).get i hi.2)
    · exact (hg i (by omega) (by omega)).trans (e4.get i hi.2)
    · exact hg i (by omega) (by omega)
  have y := (fin K4 (Nat.le_refl _) fun _ _ _ => rfl).v
  have s1 : dStore Try.prog 22 (.pointer (some ⟨h.next, 2, none⟩)) c' K4 = some (K4.set h.next (.row [.int .i64 t.ses, .int .i64 t.req, c', va, vr, vw] 0 false)) := (st_22 y.c.cells1).trans (store_cell y.c.cells1 (one_sl y.c) (by simp) rfl g4)
  have s2 : dStore Try.prog 23 (.pointer (some ⟨h.next, 3, none⟩)) a' (K4.set h.next (.row [.int .i64 t.ses, .int .i64 t.req, c', va, vr, vw] 0 false)) = some (K4.set h.next (.row [.int .i64 t.ses, .int .i64 t.req, c', a', vr, vw] 0 false)) := by
    rw [st_23 y.a.cells1, store_cell y.a.cells1 (one_sl y.a) (by simp) rfl (get_set_same _ _), set_set]
    rfl
  have s3 : dStore Try.prog 24 (.pointer (some ⟨h.next, 4, none⟩)) r' (K4.set h.next (.row [.int .i64 t.ses, .int .i64 t.req, c', a', vr, vw] 0 false)) = some (K4.set h.next (.row [.int .i64 t.ses, .int .i64 t.req, c', a', r', vw] 0 false)) := by
    rw [st_24 y.r.cells1, store_cell y.r.cells1 (one_sl y.r) (by simp) rfl (get_set_same _ _), set_set]
    rfl
  have s4 : dStore Try.prog 24 (.pointer (some ⟨h.next, 5, none⟩)) w' (K4.set h.next (.row [.int .i64 t.ses, .int .i64 t.req, c', a', r', vw] 0 false)) = some (K4.set h.next (.row [.int .i64 t.ses, .int .i64 t.req, c', a', r', w'] 0 false)) := by
    rw [st_24 y.w.cells1, store_cell y.w.cells1 (one_sl y.w) (by simp) rfl (get_set_same _ _), set_set]
    rfl
  have gb4 : (K4.set h.next (.row [.int .i64 t.ses, .int .i64 t.req, c', a', r', w'] 0 false)).get (h.next + 1) = _ := (get_set_other _ _ (by omega)).trans ((E4.get _ (by omega)).trans gb)
  have sa := storeAll (vs := [.int .i64 t.ses, .int .i64 t.req, c', a', r', w']) gb4 rfl (y.one _ _)
  have ca : cellsAt (K4.set h.next (.row [.int .i64 t.ses, .int .i64 t.req, c', a', r', w'] 0 false)) h.next 0 6 = some (txnV t.ses t.req c' a' r' w') := by
    rw [cellsAt_row (get_set_same _ _) (Nat.le_of_ble_eq_true rfl)]; rfl
  obtain ⟨M, hM⟩ : ∃ M, M = (K4.set h.next (.row [.int .i64 t.ses, .int .i64 t.req, c', a', r', w'] 0 false)).set (h.next + 1) (.row [.int .i64 t.ses, .int .i64 t.req, c', a', r', w'] 0 false) := ⟨_, rfl⟩
  have cM : cellsAt M (h.next + 1) 0 6 = some (txnV t.ses t.req c' a' r' w') := by
    rw [hM, cellsAt_row (get_set_same _ _) (Nat.le_of_ble_eq_true rfl)]; rfl
  rw [← hM] at sa
  simp -implicitDefEqProofs (disch:=first|omega|simp only [go_sem,Nat.reduceAdd]) only [go_sem,Int.reduceLT,Int.reduceLE,Int.reduceEq,reduceIte,true_and, c37, next_push, ← hH]
  refine dr_37_0 ?_
  simp -implicitDefEqProofs (disch:=first|omega|simp only [go_sem,Nat.reduceAdd]) only [go_sem,Int.reduceLT,Int.reduceLE,Int.reduceEq,reduceIte,true_and, l37_0, cellAt_row ga]
  refine dcall t1 ?_
  simp -implicitDefEqProofs (disch:=first|omega|simp only [go_sem,Nat.reduceAdd]) only [go_sem,Int.reduceLT,Int.reduceLE,Int.reduceEq,reduceIte,true_and, cellAt_row g1]
  refine dcall t2 ?_
  simp -implicitDefEqProofs (disch:=first|omega|simp only [go_sem,Nat.reduceAdd]) only [go_sem,Int.reduceLT,Int.reduceLE,Int.reduceEq,reduceIte,true_and, cellAt_row g2]
  refine dcall t3 ?_
  simp -implicitDefEqProofs (disch:=first|omega|simp only [go_sem,Nat.reduceAdd]) only [go_sem,Int.reduceLT,Int.reduceLE,Int.reduceEq,reduceIte,true_and, cellAt_row g3]
  refine dcall t4 ?_
  simp -implicitDefEqProofs (disch:=first|omega|simp only [go_sem,Nat.reduceAdd]) only [go_sem,Int.reduceLT,Int.reduceLE,Int.reduceEq,reduceIte,true_and, s1, s2, s3, s4]
  refine ⟨⟨?_, ?_, ?_, ?_, ?_, ?_, trivial⟩, ?_⟩
  · refine XSt1_at (i := 4) (j := 2) rfl rfl rfl ?_
    rw [if_pos (by decide)]
    exact Ld_on (p := .pointer (some ⟨h.next, 3, none⟩)) vz vz (ld_23.trans (cellAt_row ga))
  · refine XSt1_at (i := 7) (j := 2) rfl rfl rfl ?_
    rw [if_pos (by decide)]
    exact Ld_on (p := .pointer (some ⟨h.next, 4, none⟩)) vz vz (ld_24.trans (cellAt_row ga))
  · refine XSt1_at (i := 7) (j := 5) rfl rfl rfl ?_
    rw [if_pos (by decide)]
    exact Ld_on (p := .pointer (some ⟨h.next, 4, none⟩)) vz vz (ld_24.trans (cellAt_row g1))
  · refine XSt1_at (i := 10) (j := 2) rfl rfl rfl ?_
    rw [if_pos (by decide)]
    exact Ld_on (p := .pointer (some ⟨h.next, 5, none⟩)) vz vz (ld_24.trans (cellAt_row ga))
  · refine XSt1_at (i := 10) (j := 5) rfl rfl rfl ?_
    rw [if_pos (by decide)]
    exact Ld_on (p := .pointer (some ⟨h.next, 5, none⟩)) vz vz (ld_24.trans (cellAt_row g1))
  · refine XSt1_at (i := 10) (j := 8) rfl rfl rfl ?_
    rw [if_pos (by decide)]
    exact Ld_on (p := .pointer (some ⟨h.next, 5, none⟩)) vz vz (ld_24.trans (cellAt_row g2))
  · simp -implicitDefEqProofs (disch:=first|omega|simp only [go_sem,Nat.reduceAdd]) only [go_sem,Int.reduceLT,Int.reduceLE,Int.reduceEq,reduceIte,true_and, ca, sa]
    refine ret_at (v := txnV t.ses t.req c' a' r' w') ?_ ?_
    · rw [dResults_c1]
      simp -implicitDefEqProofs (disch:=first|omega|simp only [go_sem,Nat.reduceAdd]) only [go_sem,Int.reduceLT,Int.reduceLE,Int.reduceEq,reduceIte,true_and, cM, dResC_some]
    · exact ⟨_, _, _, _, rfl, by rw [hM]; exact (((hE.trans E4).set (by omega)).set (by omega)), fin M (by rw [hM]; exact Nat.le_refl _) fun i h1 h2 => by rw [hM, get_set_other _ _ h2, get_set_other _ _ h1]⟩
theorem cloneT_c {h : DHeap} {t : Txn} {vc va vr vw : Value} (x : TxV (InH h) h t vc va vr vw) (hl : TxLen t) :
    Ct Try.prog 37 [txnV t.ses t.req vc va vr vw] h fun r h1 => ∃ vc' va' vr' vw', r = .ret (txnV t.ses t.req vc' va' vr' vw') ∧ Ext h h1 ∧ TxV (Fresh h h1) h1 t vc' va' vr' vw' :=
  (cloneT_w x hl).mono fun r h1 => by
    rintro ⟨a, b, c, d, e, f, g⟩
    exact ⟨a, b, c, d, e, f, g.v⟩
end Go.Proofs.Ytbdljpndncohaaa

namespace Go.Proofs.Ytbdljpndncohaaa
open Go.D
set_option maxRecDepth 100000

theorem idx_first {P : Program} {t : TypeId} {s : ByteArray} (ht : P.underlying t = some .string) (hs : s[0]? = some 0) : dIndex P t (.string s) (.int .u8 (IntKind.u8.wrap 0)) = some (.int .u8 0) := by
  rw [show IntKind.u8.wrap 0 = 0 by decide]
  unfold dIndex
  rw [ht]
  simp only [Int.le_refl, if_true, Int.toNat_zero, hs]
  rfl
theorem len64_0 {h : DHeap} : DC Try.prog 80 [.int .u64 0] h (.ret (.int .i64 0)) h := by
  refine Ct.pure (go_80 (by simp) ?_) (vin_int _ _)
  simp -implicitDefEqProofs (disch:=first|omega|simp only [go_sem,Nat.reduceAdd]) only [go_sem,Int.reduceLT,Int.reduceLE,Int.reduceEq,reduceIte,true_and, c80]
  rw [idx_first (by kernel_rfl) (by kernel_rfl)]
  simp -implicitDefEqProofs (disch:=first|omega|simp only [go_sem,Nat.reduceAdd]) only [go_sem,Int.reduceLT,Int.reduceLE,Int.reduceEq,reduceIte,true_and]
  exact ⟨_, rfl, congrArg (fun z => DEnd.ret (Value.int IntKind.i64 z)) (by decide), .refl _⟩
theorem len_0 {h : DHeap} : DC Try.prog 65 [.int .u64 0] h (.ret (.int .i64 0)) h := by
  refine Ct.pure (go_65 (by simp) ?_) (vin_int _ _)
  simp -implicitDefEqProofs (disch:=first|omega|simp only [go_sem,Nat.reduceAdd]) only [go_sem,Int.reduceLT,Int.reduceLE,Int.reduceEq,reduceIte,true_and, c65]
  refine ncall len64_0 ?_
  simp -implicitDefEqProofs (disch:=first|omega|simp only [go_sem,Nat.reduceAdd]) only [go_sem,Int.reduceLT,Int.reduceLE,Int.reduceEq,reduceIte,true_and]
  exact ⟨_, rfl, rfl, .refl _⟩
theorem insertion_0 {h : DHeap} {v : Value} {g : Value} : Ct Try.prog 71 [v, .int .i64 0, .int .i64 0, g] h fun r h1 => r = .ret (.tuple #[]) ∧ h1 = h := by
  refine go_71 (by simp) ?_
  simp -implicitDefEqProofs (disch:=first|omega|simp only [go_sem,Nat.reduceAdd]) only [go_sem,Int.reduceLT,Int.reduceLE,Int.reduceEq,reduceIte,true_and, c71]
  refine xloop (σ := Nat) (by kernel_rfl) (fun j s => s.df = [] ∧ s.h = h ∧ s.fr 2 = some (.int .i64 0) ∧ s.fr 8 = some (.int .i64 1)) (fun j => 0) 0 ?_ ?_
  · simp -implicitDefEqProofs (disch:=first|omega|simp only [go_sem,Nat.reduceAdd]) only [go_sem,Int.reduceLT,Int.reduceLE,Int.reduceEq,reduceIte,true_and]
    exact congrArg some (congrArg (Value.int IntKind.i64) (by decide))
  · rintro i ⟨fr, df, K, rd⟩ K' hK' hX ⟨rfl, rfl, f2, f8⟩
    simp only at f2 f8
    simp -implicitDefEqProofs (disch:=first|omega|simp only [go_sem,Nat.reduceAdd]) only [go_sem,Int.reduceLT,Int.reduceLE,Int.reduceEq,reduceIte,true_and, f2, f8]
    refine hX _ _ (by simp) ?_
    simp -implicitDefEqProofs (disch:=first|omega|simp only [go_sem,Nat.reduceAdd]) only [go_sem,Int.reduceLT,Int.reduceLE,Int.reduceEq,reduceIte,true_and]
    exact ⟨_, rfl, rfl, trivial⟩
theorem pdq_0 {h : DHeap} {v g x : Value} : Ct Try.prog 64 [v, .int .i64 0, .int .i64 0, x, g] h fun r h1 => r = .ret (.tuple #[]) ∧ h1 = h := by
  refine go_64 (by simp) ?_
  have e0 : IntKind.i64.wrap (0 - 0) = 0 := by decide
  simp -implicitDefEqProofs (disch:=first|omega|simp only [go_sem,Nat.reduceAdd]) only [go_sem,Int.reduceLT,Int.reduceLE,Int.reduceEq,reduceIte,true_and, c64]
  refine xloop (σ := Nat) (by kernel_rfl) (fun j s => s.df = [] ∧ s.rd = none ∧ s.h = h ∧ s.fr 0 = some v ∧ s.fr 1 = some (.int .i64 0) ∧ s.fr 2 = some (.int .i64 0) ∧ s.fr 4 = some g) (fun j => 0) 0 ?_ ?_
  · simp -implicitDefEqProofs (disch:=first|omega|simp only [go_sem,Nat.reduceAdd]) only [go_sem,Int.reduceLT,Int.reduceLE,Int.reduceEq,reduceIte,true_and]
  · rintro i ⟨fr, df, K, rd⟩ K' hK' hX ⟨rfl, rfl, rfl, f0, f1, f2, f4⟩
    simp only at f0 f1 f2 f4
    simp -implicitDefEqProofs (disch:=first|omega|simp only [go_sem,Nat.reduceAdd]) only [go_sem,Int.reduceLT,Int.reduceLE,Int.reduceEq,reduceIte,true_and, f0, f1, f2, f4, e0]
    refine ncall_ct insertion_0 ?_
    rintro r h1 ⟨rfl, rfl⟩
    simp -implicitDefEqProofs (disch:=first|omega|simp only [go_sem,Nat.reduceAdd]) only [go_sem,Int.reduceLT,Int.reduceLE,Int.reduceEq,reduceIte,true_and, XEnd]
    refine hX _ _ (by simp) ?_
    simp -implicitDefEqProofs (disch:=first|omega|simp only [go_sem,Nat.reduceAdd]) only [go_sem,Int.reduceLT,Int.reduceLE,Int.reduceEq,reduceIte,true_and]
    exact ⟨_, rfl, rfl, trivial⟩
theorem sort_0 {h : DHeap} {v : Value} {g : Value} (hb : Arg fKey.rep h v []) : Ct Try.prog 52 [v, g] h fun r h1 => r = .ret (.tuple #[]) ∧ h1 = h := by
  refine go_52 (by simp) ?_
  have el : ∀ K, dLen Try.prog #[24] v K = some (.int .i64 ((([] : List Key).length : Nat) : Int)) := hb.lens (P := Try.prog) (ts := #[24]) (t := 24) rfl isl_24
  have e0 : IntKind.u64.wrap ((0 : Nat) : Int) = 0 := by decide
  simp -implicitDefEqProofs (disch:=first|omega|simp only [go_sem,Nat.reduceAdd]) only [go_sem,Int.reduceLT,Int.reduceLE,Int.reduceEq,reduceIte,true_and, c52, el, List.length_nil, e0]
  refine ncall len_0 ?_
  simp -implicitDefEqProofs (disch:=first|omega|simp only [go_sem,Nat.reduceAdd]) only [go_sem,Int.reduceLT,Int.reduceLE,Int.reduceEq,reduceIte,true_and]
  refine ncall_ct pdq_0 ?_
  rintro r h1 ⟨rfl, rfl⟩
  simp -implicitDefEqProofs (disch:=first|omega|simp only [go_sem,Nat.reduceAdd]) only [go_sem,Int.reduceLT,Int.reduceLE,Int.reduceEq,reduceIte,true_and, XEnd]
  exact ⟨_, rfl, rfl, trivial⟩
end Go.Proofs.Ytbdljpndncohaaa

namespace Go.Proofs.Ytbdljpndncohaaa
open Go.D
set_option maxRecDepth 100000

theorem sameL_dec {α : Type} [DecidableEq α] : ∀ {l m : List α}, sameL (fun a b : α => decide (a = b)) l m = decide (l = m)
  | [], [] => rfl
  | [], _ :: _ => rfl
  | _ :: _, [] => rfl
  | a :: l, b :: m => by
    rw [sameL, sameL_dec (l := l) (m := m)]
    by_cases h1 : a = b <;> by_cases h2 : l = m <;> simp [h1, h2]
theorem int_idx {S : Nat → Prop} {h : DHeap} {v : Value} {l : List Int} {i : Nat} (hb : Sl fI64.rep S h v l) (hi : i < l.length) :
    ∃ id o, dIndexAddr Try.prog 23 v (.int .i64 (i : Nat)) = some (.pointer (some ⟨id, o, none⟩)) ∧ cellAt h id o = some (.int .i64 l[i]) := by
  obtain ⟨id, o, g, hs, hat⟩ := hb.idx (P := Try.prog) (t := 23) el_23 (k := .i64) (List.getElem?_eq_getElem hi)
  obtain ⟨a, b, _⟩ := hat.flat
  exact ⟨id, o, g, a 0 (by decide)⟩
theorem byte_idx {S : Nat → Prop} {h : DHeap} {v : Value} {l : List Int} {i : Nat} (hb : Sl fU8.rep S h v l) (hi : i < l.length) :
    ∃ id o, dIndexAddr Try.prog 22 v (.int .i64 (i : Nat)) = some (.pointer (some ⟨id, o, none⟩)) ∧ cellAt h id o = some (.int .u8 l[i]) := by
  obtain ⟨id, o, g, hs, hat⟩ := hb.idx (P := Try.prog) (t := 22) el_22 (k := .i64) (List.getElem?_eq_getElem hi)
  obtain ⟨a, b, _⟩ := hat.flat
  exact ⟨id, o, g, a 0 (by decide)⟩
theorem sameVals_c {h : DHeap} {a b : Value} {l m : List Int} (ha : Arg fI64.rep h a l) (hb : Arg fI64.rep h b m) (hl : l.length ≤ 4294967296) : DC Try.prog 34 [a, b] h (.ret (.bool (decide (l = m)))) h := by
  rw [← sameL_dec]
  refine Ct.pure (go_34 (by simp) ?_) (vin_bool _)
  have ea : ∀ K, dLen Try.prog #[23] a K = some (.int .i64 (l.length : Nat)) := ha.lens (P := Try.prog) (ts := #[23]) (t := 23) rfl isl_23
  have eb : ∀ K, dLen Try.prog #[23] b K = some (.int .i64 (m.length : Nat)) := hb.lens (P := Try.prog) (ts := #[23]) (t := 23) rfl isl_23
  by_cases hlen : l.length = m.length
  case neg =>
    have hli : ¬ ((l.length : Nat) : Int) = (m.length : Nat) := by omega
    simp -implicitDefEqProofs (disch:=first|omega|simp only [go_sem,Nat.reduceAdd]) only [go_sem,Int.reduceLT,Int.reduceLE,Int.reduceEq,reduceIte,true_and, c34, ea, eb, hli]
    exact ⟨_, rfl, by rw [sameL_len hlen], .refl h⟩
  have hli := eq_true (show ((l.length : Nat) : Int) = (m.length : Nat) by omega)
  simp -implicitDefEqProofs (disch:=first|omega|simp only [go_sem,Nat.reduceAdd]) only [go_sem,Int.reduceLT,Int.reduceLE,Int.reduceEq,reduceIte,true_and, c34, ea, eb, hli]
  refine xloop (σ := Nat) (by kernel_rfl) (fun i s => s.df = [] ∧ s.h = h ∧ s.fr 0 = some a ∧ s.fr 1 = some b ∧ s.fr 5 = some (.int .i64 (i : Nat)) ∧ i ≤ l.length ∧ sameL (fun a b : Int => decide (a = b)) (l.drop i) (m.drop i) = sameL (fun a b : Int => decide (a = b)) l m) (fun i => l.length - i) 0 ?_ ?_
  · simp -implicitDefEqProofs (disch:=first|omega|simp only [go_sem,Nat.reduceAdd]) only [go_sem,Int.reduceLT,Int.reduceLE,Int.reduceEq,reduceIte,true_and]
    exact ⟨rfl, Nat.zero_le _, rfl⟩
  · rintro i ⟨fr, df, K, rd⟩ K' hK' hX ⟨rfl, rfl, f0, f1, f5, hi, ho⟩
    simp only at f0 f1 f5
    simp -implicitDefEqProofs (disch:=first|omega|simp only [go_sem,Nat.reduceAdd]) only [go_sem,Int.reduceLT,Int.reduceLE,Int.reduceEq,reduceIte,true_and, f0, f5, ea]
    refine XIf_dec (fun hc1 => ?_) (fun hc1 => ?_)
    · have hj : i < l.length := by omega
      have hjm : i < m.length := by omega
      have hw1 := wrap_succ hj (by omega)
      obtain ⟨id1, o1, g1, a2⟩ := int_idx ha (i := i) hj
      obtain ⟨id2, o2, g2, b2⟩ := int_idx hb (i := i) hjm
      rw [List.drop_eq_getElem_cons hj, List.drop_eq_getElem_cons hjm, sameL] at ho
      simp -implicitDefEqProofs (disch:=first|omega|simp only [go_sem,Nat.reduceAdd]) only [go_sem,Int.reduceLT,Int.reduceLE,Int.reduceEq,reduceIte,true_and]
      refine dr_34_0 ?_
      by_cases he : l[i] = m[i]
      · have he' := eq_true he
        rw [decide_eq_true he, Bool.true_and] at ho
        simp -implicitDefEqProofs (disch:=first|omega|simp only [go_sem,Nat.reduceAdd]) only [go_sem,Int.reduceLT,Int.reduceLE,Int.reduceEq,reduceIte,true_and, l34_0, f0, f1, f5, g1, g2, a2, b2, he', XStab_nil, hw1]
        refine hK' (i + 1) _ ?_ (by omega)
        exact ⟨by trivial, by trivial, (vy f0), (vy f1), vz, by omega, ho⟩
      · rw [decide_eq_false he, Bool.false_and] at ho
        simp -implicitDefEqProofs (disch:=first|omega|simp only [go_sem,Nat.reduceAdd]) only [go_sem,Int.reduceLT,Int.reduceLE,Int.reduceEq,reduceIte,true_and, l34_0, f0, f1, f5, g1, g2, a2, b2, he, XStab_nil]
        refine hX _ _ (by simp) ?_
        simp -implicitDefEqProofs (disch:=first|omega|simp only [go_sem,Nat.reduceAdd]) only [go_sem,Int.reduceLT,Int.reduceLE,Int.reduceEq,reduceIte,true_and]
        exact ⟨_, rfl, by rw [← ho], .refl _⟩
    · refine hX _ _ (by simp) ?_
      simp -implicitDefEqProofs (disch:=first|omega|simp only [go_sem,Nat.reduceAdd]) only [go_sem,Int.reduceLT,Int.reduceLE,Int.reduceEq,reduceIte,true_and]
      refine ⟨_, rfl, ?_, .refl _⟩
      rw [← ho, List.drop_eq_nil_of_le (by omega), List.drop_eq_nil_of_le (by omega)]
      rfl
/-- the same transaction -/
def sameT (a b : Txn) : Bool := decide (a.ses = b.ses) && (decide (a.req = b.req) && (decide (a.args = b.args) && (decide (a.code = b.code) && (decide (a.reads = b.reads) && decide (a.writes = b.writes)))))
theorem sameT_refl (a : Txn) : sameT a a = true := by simp [sameT]
theorem vin_b {S : Nat → Prop} {b : Bool} : VIn S (.bool b) := vin_bool _
set_option maxHeartbeats 2000000 in
theorem sameTxn_c {h : DHeap} {a b : Txn} {vc va vr vw uc ua ur uw : Value} (x : TxV (InH h) h a vc va vr vw) (y : TxV (InH h) h b uc ua ur uw) (hl : TxLen a) : DC Try.prog 13 [txnV a.ses a.req vc va vr vw, txnV b.ses b.req uc ua ur uw] h (.ret (.bool (sameT a b))) h := by
  refine Ct.pure (go_13 (by simp) ?_) vin_b
  have hvc := x.c.cells1
  have hva := x.a.cells1
  have hvr := x.r.cells1
  have hvw := x.w.cells1
  have huc := y.c.cells1
  have hua := y.a.cells1
  have hur := y.r.cells1
  have huw := y.w.cells1
  have hlc := hl.c
  obtain ⟨H, hH⟩ : ∃ H, H = (h.push (.row [.int .i64 a.ses, .int .i64 a.req, vc, va, vr, vw] 0 false)).push (.row [.int .i64 b.ses, .int .i64 b.req, uc, ua, ur, uw] 0 false) := ⟨_, rfl⟩
  have hE : Ext h H := by rw [hH]; exact (Ext.push1 _ _).push _
  have ga : H.get h.next = some (.row [.int .i64 a.ses, .int .i64 a.req, vc, va, vr, vw] 0 false) := by rw [hH]; exact get_p1
  have gb : H.get (h.next + 1) = some (.row [.int .i64 b.ses, .int .i64 b.req, uc, ua, ur, uw] 0 false) := by rw [hH]; exact get_push_same _ _
  have xH := x.ext hE
  have yH := y.ext hE
  have ea : ∀ K, dLen Try.prog #[22] vc K = some (.int .i64 (a.code.length : Nat)) := x.c.lens (P := Try.prog) (ts := #[22]) (t := 22) rfl isl_22
  have eb : ∀ K, dLen Try.prog #[22] uc K = some (.int .i64 (b.code.length : Nat)) := y.c.lens (P := Try.prog) (ts := #[22]) (t := 22) rfl isl_22
  have no : sameT a b = false → ∃ v, some (Value.bool false) = some v ∧ DEnd.ret v = .ret (.bool (sameT a b)) ∧ Ext h H := fun hs => ⟨_, rfl, by rw [hs], hE⟩
  simp -implicitDefEqProofs (disch:=first|omega|simp only [go_sem,Nat.reduceAdd]) only [go_sem,Int.reduceLT,Int.reduceLE,Int.reduceEq,reduceIte,true_and, c13, next_push, ← hH]
  by_cases p1 : a.ses = b.ses
  case neg =>
    simp -implicitDefEqProofs (disch:=first|omega|simp only [go_sem,Nat.reduceAdd]) only [go_sem,Int.reduceLT,Int.reduceLE,Int.reduceEq,reduceIte,true_and, cellAt_row ga, cellAt_row gb, p1, dPick_t, dPick_f, Bool.not_false]
    exact no (by simp [sameT, p1])
  have p1' := eq_true p1
  by_cases p2 : a.req = b.req
  case neg =>
    simp -implicitDefEqProofs (disch:=first|omega|simp only [go_sem,Nat.reduceAdd]) only [go_sem,Int.reduceLT,Int.reduceLE,Int.reduceEq,reduceIte,true_and, cellAt_row ga, cellAt_row gb, p1', p2, dPick_t, dPick_f, Bool.not_false, Bool.not_true]
    exact no (by simp [sameT, p2])
  have p2' := eq_true p2
  by_cases p3 : ((a.code.length : Nat) : Int) = (b.code.length : Nat)
  case neg =>
    simp -implicitDefEqProofs (disch:=first|omega|simp only [go_sem,Nat.reduceAdd]) only [go_sem,Int.reduceLT,Int.reduceLE,Int.reduceEq,reduceIte,true_and, cellAt_row ga, cellAt_row gb, p1', p2', ea, eb, p3, dPick_t, dPick_f, Bool.not_false, Bool.not_true]
    refine no ?_
    have : a.code ≠ b.code := fun e => p3 (by rw [e])
    simp [sameT, this]
  have p3' := eq_true p3
  simp -implicitDefEqProofs (disch:=first|omega|simp only [go_sem,Nat.reduceAdd]) only [go_sem,Int.reduceLT,Int.reduceLE,Int.reduceEq,reduceIte,true_and, cellAt_row ga, cellAt_row gb, p1', p2', ea, eb, p3', dPick_t, dPick_f, Bool.not_false, Bool.not_true]
  refine ncall (sameVals_c xH.a yH.a (by have := hl.a; omega)) ?_
  by_cases p4 : a.args = b.args
  case neg =>
    have p4' := decide_eq_false p4
    simp -implicitDefEqProofs (disch:=first|omega|simp only [go_sem,Nat.reduceAdd]) only [go_sem,Int.reduceLT,Int.reduceLE,Int.reduceEq,reduceIte,true_and, p4', dPick_t, dPick_f, Bool.not_false]
    exact no (by simp [sameT, p4])
  have p4' := decide_eq_true p4
  simp -implicitDefEqProofs (disch:=first|omega|simp only [go_sem,Nat.reduceAdd]) only [go_sem,Int.reduceLT,Int.reduceLE,Int.reduceEq,reduceIte,true_and, p4', dPick_t, dPick_f, Bool.not_true]
  have hsT : sameT a b = (decide (a.code = b.code) && (decide (a.reads = b.reads) && decide (a.writes = b.writes))) := by
    rw [sameT, decide_eq_true p1, decide_eq_true p2, p4', Bool.true_and, Bool.true_and, Bool.true_and]
  have la : cellAt H h.next 2 = some vc := cellAt_row ga
  have lb : cellAt H (h.next + 1) 2 = some uc := cellAt_row gb
  refine xloop (σ := Nat) (by kernel_rfl) (fun i s => s.df = [] ∧ s.rd = none ∧ s.h = H ∧ s.fr 2 = some (.pointer (some ⟨h.next, 0, none⟩)) ∧ s.fr 3 = some (.pointer (some ⟨h.next + 1, 0, none⟩)) ∧ s.fr 5 = some (.int .i64 (i : Nat)) ∧ i ≤ a.code.length ∧ decide (a.code.drop i = b.code.drop i) = decide (a.code = b.code)) (fun i => a.code.length - i) 0 ?_ ?_
  · simp -implicitDefEqProofs (disch:=first|omega|simp only [go_sem,Nat.reduceAdd]) only [go_sem,Int.reduceLT,Int.reduceLE,Int.reduceEq,reduceIte,true_and]
    exact ⟨rfl, Nat.zero_le _, rfl⟩
  rintro i ⟨fr, df, K, rd⟩ K' hK' hX ⟨hdf, hrd, hK, f2, f3, f5, hi, ho⟩
  simp only at hdf hrd hK f2 f3 f5
  subst hdf hrd hK
  simp -implicitDefEqProofs (disch:=first|omega|simp only [go_sem,Nat.reduceAdd]) only [go_sem,Int.reduceLT,Int.reduceLE,Int.reduceEq,reduceIte,true_and, f2, f5, la, ea]
  refine XIf_dec (fun hc1 => ?_) (fun hc1 => ?_)
  · have hj : i < a.code.length := by omega
    have hjm : i < b.code.length := by omega
    have hw1 := wrap_succ hj (by omega)
    obtain ⟨id1, o1, g1, a2⟩ := byte_idx xH.c (i := i) hj
    obtain ⟨id2, o2, g2, b2⟩ := byte_idx yH.c (i := i) hjm
    rw [List.drop_eq_getElem_cons hj, List.drop_eq_getElem_cons hjm] at ho
    simp -implicitDefEqProofs (disch:=first|omega|simp only [go_sem,Nat.reduceAdd]) only [go_sem,Int.reduceLT,Int.reduceLE,Int.reduceEq,reduceIte,true_and]
    refine dr_13_0 ?_
    by_cases he : a.code[i] = b.code[i]
    · have he' := eq_true he
      simp -implicitDefEqProofs (disch:=first|omega|simp only [go_sem,Nat.reduceAdd]) only [go_sem,Int.reduceLT,Int.reduceLE,Int.reduceEq,reduceIte,true_and, l13_0, f2, f3, f5, la, lb, g1, g2, a2, b2, he', XStab_nil, hw1]
      refine hK' (i + 1) _ ?_ (by omega)
      refine ⟨by trivial, by trivial, by trivial, (vy f2), (vy f3), vz, by omega, ?_⟩
      rw [← ho, he]
      exact decide_eq_decide.2 ⟨fun e => by rw [e], fun e => (List.cons.inj e).2⟩
    · simp -implicitDefEqProofs (disch:=first|omega|simp only [go_sem,Nat.reduceAdd]) only [go_sem,Int.reduceLT,Int.reduceLE,Int.reduceEq,reduceIte,true_and, l13_0, f2, f3, f5, la, lb, g1, g2, a2, b2, he, XStab_nil]
      refine hX _ _ (by simp) ?_
      simp -implicitDefEqProofs (disch:=first|omega|simp only [go_sem,Nat.reduceAdd]) only [go_sem,Int.reduceLT,Int.reduceLE,Int.reduceEq,reduceIte,true_and]
      refine no ?_
      rw [hsT, ← ho, decide_eq_false (fun e => he (List.cons.inj e).1)]
      rfl
  · obtain rfl : i = a.code.length := by omega
    rw [List.drop_length, List.drop_eq_nil_of_le (by omega)] at ho
    have hcc : decide (a.code = b.code) = true := by rw [← ho]; rfl
    rw [hcc, Bool.true_and] at hsT
    have la4 : cellAt K h.next 4 = some vr := cellAt_row ga
    have lb4 : cellAt K (h.next + 1) 4 = some ur := cellAt_row gb
    have la5 : cellAt K h.next 5 = some vw := cellAt_row ga
    have lb5 : cellAt K (h.next + 1) 5 = some uw := cellAt_row gb
    refine hX _ _ (by simp) ?_
    simp -implicitDefEqProofs (disch:=first|omega|simp only [go_sem,Nat.reduceAdd]) only [go_sem,Int.reduceLT,Int.reduceLE,Int.reduceEq,reduceIte,true_and, f2, f3, la4, lb4]
    refine ncall (sameKeys_c xH.r yH.r (by have := hl.r; omega)) ?_
    rw [sameL_dec]
    by_cases p5 : a.reads = b.reads
    case neg =>
      have p5' := decide_eq_false p5
      simp -implicitDefEqProofs (disch:=first|omega|simp only [go_sem,Nat.reduceAdd]) only [go_sem,Int.reduceLT,Int.reduceLE,Int.reduceEq,reduceIte,true_and, p5', dPick_t, dPick_f]
      exact no (by rw [hsT, p5', Bool.false_and])
    have p5' := decide_eq_true p5
    simp -implicitDefEqProofs (disch:=first|omega|simp only [go_sem,Nat.reduceAdd]) only [go_sem,Int.reduceLT,Int.reduceLE,Int.reduceEq,reduceIte,true_and, p5', f2, f3, la5, lb5, dPick_t, dPick_f]
    refine ncall (sameKeys_c xH.w yH.w (by have := hl.w; omega)) ?_
    rw [sameL_dec]
    simp -implicitDefEqProofs (disch:=first|omega|simp only [go_sem,Nat.reduceAdd]) only [go_sem,Int.reduceLT,Int.reduceLE,Int.reduceEq,reduceIte,true_and, dPick_t, dPick_f]
    exact ⟨_, rfl, by rw [hsT, p5', Bool.true_and], hE⟩
end Go.Proofs.Ytbdljpndncohaaa

namespace Go.Proofs.Ytbdljpndncohaaa
open Go.D
set_option maxRecDepth 100000
theorem lay_bool : Lays Try.prog 4 fB.rep (fun _ => 1) := .bool (by kernel_rfl) (by kernel_rfl)
theorem lay_errno : Lays Try.prog 31 fI64.rep (fun _ => 1) := .int (by kernel_rfl) (by kernel_rfl)
theorem lay_keys : Lays Try.prog 24 (rSl fKey.rep) (sumB fun _ => 2) := .slice (e := 54) (by kernel_rfl) (by kernel_rfl) (by decide) lay_key
theorem lay_pair : Lays Try.prog 166 fPair.rep (fun _ => 3) :=
  (Lays.of (l := [(54, 0), (2, 2)]) (by kernel_rfl) (by kernel_rfl) (.cons lay_key (.one lay_i64))).conv (Q := fPair.rep) rfl (fun x => ⟨x.1, x.2⟩)
    (fun _ _ _ _ h => by
      obtain ⟨c1, c2, rfl, ⟨rfl, k1⟩, rfl, k2⟩ := h
      exact ⟨rfl, k1, k2⟩) (fun _ => Nat.le_refl _)
theorem lay_pairs : Lays Try.prog 63 (rSl fPair.rep) (sumB fun _ => 3) := .slice (e := 166) (by kernel_rfl) (by kernel_rfl) (by decide) lay_pair
def bulkTxn (x : Txn) : Nat := 2 + (sumB (fun _ => 1) x.code + (sumB (fun _ => 1) x.args + (sumB (fun _ => 2) x.reads + sumB (fun _ => 2) x.writes)))
def bulkAns (x : Ans) : Nat := 2 + bulkRes x.x
def bulkFnd (x : Fnd) : Nat := 2 + sumB (fun _ => 3) x.pairs
def bulkOp (x : OpC) : Nat := 3 + (bulkTxn x.t + (bulkAns x.a + (sumB (fun _ => 2) x.keys + bulkFnd x.f)))
abbrev txnF : List (Nat × Nat) := [(2, 0), (2, 1), (22, 2), (23, 3), (24, 4), (24, 5)]
theorem lay_txn : Lays Try.prog 26 rTxn bulkTxn :=
  (Lays.of (l := txnF) (by kernel_rfl) (by kernel_rfl) (.cons lay_i64 (.cons lay_i64 (.cons lay_bytes (.cons lay_ints (.cons lay_keys (.one lay_keys))))))).conv (Q := rTxn) rfl (fun x => ⟨x.1, x.2.1, x.2.2.1, x.2.2.2.1, x.2.2.2.2.1, x.2.2.2.2.2⟩) (fun _ _ _ _ h => h)
    (fun x => by simp only [bulkTxn]; omega)
theorem lay_ans : Lays Try.prog 47 rAns bulkAns :=
  (Lays.of (l := [(2, 0), (2, 1), (45, 2)]) (by kernel_rfl) (by kernel_rfl) (.cons lay_i64 (.cons lay_i64 (.one lay_res)))).conv (Q := rAns) rfl (fun x => ⟨x.1, x.2.1, x.2.2⟩) (fun _ _ _ _ h => h)
    (fun x => by simp only [bulkAns]; omega)
theorem lay_fnd : Lays Try.prog 65 rFnd bulkFnd :=
  (Lays.of (l := [(31, 0), (2, 1), (63, 2)]) (by kernel_rfl) (by kernel_rfl) (.cons lay_errno (.cons lay_i64 (.one lay_pairs)))).conv (Q := rFnd) rfl (fun x => ⟨x.1, x.2.1, x.2.2⟩) (fun _ _ _ _ h => h)
    (fun x => by simp only [bulkFnd]; omega)
abbrev opF : List (Nat × Nat) := [(3, 0), (26, 1), (3, 7), (47, 8), (4, 14), (24, 15), (65, 16)]
theorem lay_op : Lays Try.prog 67 rOpC bulkOp :=
  (Lays.of (l := opF) (by kernel_rfl) (by kernel_rfl) (.cons lay_int (.cons lay_txn (.cons lay_int (.cons lay_ans (.cons lay_bool (.cons lay_keys (.one lay_fnd)))))))).conv (Q := rOpC) rfl (fun x => ⟨x.1, x.2.1, x.2.2.1, x.2.2.2.1, x.2.2.2.2.1, x.2.2.2.2.2.1, x.2.2.2.2.2.2⟩) (fun _ _ _ _ h => h)
    (fun x => by simp only [bulkOp]; omega)
/-- a transaction that has come in -/
theorem txn_in {S : Nat → Prop} {h : DHeap} {cs : List Value} {x : Txn} (a : rTxn.rd S h cs x) : ∃ vc va vr vw, cs = [.int .i64 x.ses, .int .i64 x.req, vc, va, vr, vw] ∧ inK .i64 x.ses ∧ inK .i64 x.req ∧ TxV S h x vc va vr vw := by
  obtain ⟨_, _, rfl, ⟨rfl, k1⟩, _, _, rfl, ⟨rfl, k2⟩, _, _, rfl, ⟨vc, rfl, h1⟩, _, _, rfl, ⟨va, rfl, h2⟩, _, _, rfl, ⟨vr, rfl, h3⟩, vw, rfl, h4⟩ := a
  exact ⟨vc, va, vr, vw, rfl, k1, k2, h1, h2, h3, h4⟩
theorem bulk_txn (x : Txn) : x.code.length ≤ bulkTxn x ∧ x.args.length ≤ bulkTxn x ∧ x.reads.length ≤ bulkTxn x ∧ x.writes.length ≤ bulkTxn x := by
  have h1 := sumB_len (fun _ => 1) x.code
  have h2 := sumB_len (fun _ => 1) x.args
  have h3 := sumB_len (fun _ => 2) x.reads
  have h4 := sumB_len (fun _ => 2) x.writes
  have hb : bulkTxn x = 2 + (sumB (fun _ => 1) x.code + (sumB (fun _ => 1) x.args + (sumB (fun _ => 2) x.reads + sumB (fun _ => 2) x.writes))) := rfl
  omega
theorem txn_len {x : Txn} (h : bulkTxn x ≤ 1048576) : TxLen x := by
  have := bulk_txn x
  exact ⟨by omega, by omega, by omega, by omega⟩
/-- a call that has come in -/
theorem op_in {S : Nat → Prop} {h : DHeap} {cs : List Value} {x : OpC} (a : rOpC.rd S h cs x) : ∃ vc va vr vw vv vk vp, cs = opL x vc va vr vw vv vk vp ∧ TxV S h x.t vc va vr vw ∧ Sl fI64.rep S h vv x.a.x.vs ∧ Sl fKey.rep S h vk x.keys ∧ Sl fPair.rep S h vp x.f.pairs := by
  obtain ⟨_, _, rfl, ⟨rfl, k1⟩, _, _, rfl, ht, _, _, rfl, ⟨rfl, k2⟩, _, _, rfl, ⟨_, _, rfl, ⟨rfl, k3⟩, _, _, rfl, ⟨rfl, k4⟩, _, _, rfl, ⟨rfl, k5⟩, _, _, rfl, ⟨vv, rfl, hv⟩, _, _, rfl, ⟨rfl, k6⟩, rfl, k7⟩, _, _, rfl, ⟨rfl, _⟩, _, _, rfl, ⟨vk, rfl, hk⟩, _, _, rfl, ⟨rfl, k8⟩, _, _, rfl, ⟨rfl, k9⟩, vp, rfl, hp⟩ := a
  obtain ⟨vc, va, vr, vw, rfl, _, _, t⟩ := txn_in ht
  exact ⟨vc, va, vr, vw, vv, vk, vp, rfl, t, hv, hk, hp⟩
end Go.Proofs.Ytbdljpndncohaaa

namespace Go.Proofs.Ytbdljpndncohaaa
open Go.D
set_option maxRecDepth 100000
theorem par_int : Par Try.prog 3 false := ⟨_, Try.underlying3, rfl⟩
theorem par_i64 : Par Try.prog 2 false := ⟨_, Try.underlying2, rfl⟩
end Go.Proofs.Ytbdljpndncohaaa

namespace Go.D
variable {P : Program} {nt : Nat}

def RegC (E : DHeap → DHeap → Prop) (V : Nat → DHeap → Value → Prop) (cons : Nat → Option Nat) (b : List Nat) (i : Nat) (o : Oper) (s s' : St) : Prop :=
  ∃ v h', s' = ⟨s.fr.put o.dst v, s.df, h', s.rd⟩ ∧ E s.h h' ∧ V i h' v ∧ ∀ j u, j ≠ i → (b.getD j 0).testBit i = false → (∀ c, cons j = some c → c ≠ i ∧ (b.getD i 0).testBit c = false) → V j s.h u → V j h' u
theorem NC.regsC {id : Nat} {ops : Array Oper} {l : List Oper} {b : List Nat} {Q : DExit → St → Prop} {s0 : St} (hmix : P.follows .mixedOrders = true) (hd : dstsOK nt ops = true) (hlow : lowOK ops = true) (hb : befs ops.toList [] = b) (hl : ops.map stripO = l.toArray) (hown : onceDsts l = true)
    (E : DHeap → DHeap → Prop) (hrefl : ∀ h, E h h) (htrans : ∀ a b c, E a b → E b c → E a c) (V : Nat → DHeap → Value → Prop) (cons : Nat → Option Nat)
    (hstep : ∀ (i : Nat) (o : Oper) (s : St), l[i]? = some o → RegG l E s0 s → (∀ j t, dstOf l j = some t → (b.getD j 0).testBit i = true → s.fr t = s0.fr t) → (∀ t, dstOf l i = some t → s.fr t = s0.fr t) → (∀ j, (b.getD i 0).testBit j = true → (cons j = none ∨ cons j = some i) → RegAt l V j s) → NOne P l.toArray o s (RegC E V cons b i o s) Q)
    (hfin : ∀ s, RegG l E s0 s → (∀ i, i < l.length → cons i = none → RegAt l V i s) → Q .normal s) : NC P nt (.region id ops true) Q s0 := by
  subst hb
  have hsz : ops.size = l.length := by
    have := congrArg Array.size hl
    simpa using this
  have hat : ∀ {i : Nat} {o : Oper}, ops[i]? = some o → l[i]? = some (stripO o) := fun {i o} ho => by
    have := congrArg (fun a : Array Oper => a[i]?) hl
    simp only [Array.getElem?_map, ho, Option.map_some] at this
    simpa using this.symm
  refine NC.any hmix hd (lowOK_spec hlow) (fun L s => RegG l E s0 s ∧ (∀ i, L i = true → i < ops.size) ∧ (∀ (i : Nat) o, L i = true → ops[i]? = some o → ∀ p ∈ preds o, L p = true) ∧ (∀ i, L i = true → (∀ c, cons i = some c → L c = false) → RegAt l V i s) ∧ ∀ j t, dstOf l j = some t → L j = false → s.fr t = s0.fr t)
    ⟨⟨rfl, rfl, hrefl _, fun _ _ => rfl⟩, by simp, by simp, by simp, fun _ _ _ _ => rfl⟩ ?_ (fun L s hI hall => hfin s hI.1 fun i hi hc => hI.2.2.2.1 i (hall i (by omega)) fun c hc2 => by rw [hc] at hc2; cases hc2)
  rintro L s i o ⟨hG, hsz', hdn, hF, hpre⟩ ho hn hp
  have hi := (Array.getElem?_eq_some_iff.1 ho).1
  have hcl : ∀ (k : Nat) o, ops[k]? = some o → (∀ p ∈ preds o, L p = true) → ∀ j, ((befs ops.toList []).getD k 0).testBit j = true → L j = true := fun k o ho hp j hj =>
    bef_closed (D := fun j => L j = true) (fun i o hi ho p hp => hdn i o hi ho p hp) k o ho hp j hj
  have hx := hstep i (stripO o) s (hat ho) hG (fun j t hj hbit => hpre j t hj (by
    cases hL : L j with
    | false => rfl
    | true =>
      have hjs := hsz' j hL
      have hoj := Array.getElem?_eq_getElem hjs
      have := hcl j _ hoj (hdn j _ hL hoj) i hbit
      rw [hn] at this
      cases this)) (fun t ht => hpre i t ht hn) fun j hj hc => hF j (hcl i o ho hp j hj) fun c hc2 => by
      rcases hc with hc | hc <;> rw [hc] at hc2 <;> cases hc2
      exact hn
  have fin : ∀ s', RegC E V cons (befs ops.toList []) i (stripO o) s s' →
      (RegG l E s0 s' ∧ (∀ j, (if j = i then true else L j) = true → j < ops.size) ∧ (∀ (j : Nat) o, (if j = i then true else L j) = true → ops[j]? = some o → ∀ p ∈ preds o, (if p = i then true else L p) = true) ∧ (∀ j, (if j = i then true else L j) = true → (∀ c, cons j = some c → (if c = i then true else L c) = false) → RegAt l V j s') ∧ ∀ j t, dstOf l j = some t → (if j = i then true else L j) = false → s'.fr t = s0.fr t) := by
    rintro _ ⟨v, h', rfl, he, hv, hst⟩
    have hdst : dstOf l i = o.dst := by simp [dstOf, hat ho, stripO]
    have hput : ∀ t, o.dst ≠ some t → s.fr.put o.dst v t = s.fr t := fun t ht => by
      cases hod : o.dst with
      | none => rfl
      | some d => exact put_other _ _ (fun e => ht (by rw [hod, e]))
    refine ⟨⟨hG.df, hG.rd, htrans _ _ _ hG.ext he, fun t ht => ?_⟩, fun j hj => ?_, fun j oj hj hoj p hpm => ?_, fun j hj hcj => ?_, fun j t hj hLj => ?_⟩
    · have : o.dst ≠ some t := fun e => by
        have hc : isDst l t = true := List.any_eq_true.2 ⟨stripO o, List.mem_of_getElem? (hat ho), by show (o.dst == some t) = true; rw [e]; simp⟩
        rw [ht] at hc; cases hc
      exact (hput t this).trans (hG.fr t ht)
    · by_cases hji : j = i
      · rw [hji]; exact hi
      · rw [if_neg hji] at hj; exact hsz' j hj
    · by_cases hpi : p = i
      · rw [if_pos hpi]
      · rw [if_neg hpi]
        by_cases hji : j = i
        · subst hji; rw [ho] at hoj; cases hoj; exact hp p hpm
        · rw [if_neg hji] at hj; exact hdn j oj hj hoj p hpm
    · by_cases hji : j = i
      · subst hji
        refine ⟨v, fun d hd => ?_, hv⟩
        rw [hdst] at hd
        show s.fr.put o.dst v d = _
        rw [hd]
        exact put_same _ _ _
      · rw [if_neg hji] at hj
        obtain ⟨u, h1, h2⟩ := hF j hj fun c hc => by
          have := hcj c hc
          by_cases hci : c = i
          · rw [if_pos hci] at this; cases this
          · rwa [if_neg hci] at this
        have hbj : ((befs ops.toList []).getD j 0).testBit i = false := by
          cases hbit : ((befs ops.toList []).getD j 0).testBit i with
          | false => rfl
          | true =>
            have hoj := Array.getElem?_eq_getElem (hsz' j hj)
            have := hcl j _ hoj (hdn j _ hj hoj) i hbit
            rw [hn] at this
            cases this
        refine ⟨u, fun d hd => ?_, hst j u hji hbj (fun c hc => by
          have h3 := hcj c hc
          by_cases hci : c = i
          · rw [if_pos hci] at h3; cases h3
          · rw [if_neg hci] at h3
            refine ⟨hci, ?_⟩
            cases hbit : ((befs ops.toList []).getD i 0).testBit c with
            | false => rfl
            | true => rw [hcl i o ho hp c hbit] at h3; cases h3) h2⟩
        have hne : o.dst ≠ some d := fun e => by
          have hjs := hsz' j hj
          have hoj := hat (Array.getElem?_eq_getElem hjs)
          have hd2 : (stripO ops[j]).dst = some d := by simpa [dstOf, hoj] using hd
          exact hji (onceDsts_ne hown hoj (hat ho) hd2 e)
        exact (hput d hne).trans (h1 d hd)
    · by_cases hji : j = i
      · rw [if_pos hji] at hLj; cases hLj
      · rw [if_neg hji] at hLj
        have hne : o.dst ≠ some t := fun e => by
          unfold dstOf at hj
          cases hlj : l[j]? with
          | none => rw [hlj] at hj; cases hj
          | some oj =>
            rw [hlj] at hj
            exact hji (onceDsts_ne hown hlj (hat ho) (by simpa using hj) e)
        exact (hput t hne).trans (hpre j t hj hLj)
  rw [← hl, NOne_strip] at hx
  unfold NOne at hx ⊢
  cases hw : dWanted ops s.fr o with
  | none => rw [hw] at hx; exact hx.elim
  | some bb =>
    rw [hw] at hx
    cases bb with
    | false => exact fin _ hx
    | true => exact NNext_mono fin (fun _ _ h => h) hx
section
variable {ops : Array Oper} {o : Oper} {s : St} {E : DHeap → DHeap → Prop} {V : Nat → DHeap → Value → Prop} {cons : Nat → Option Nat} {b : List Nat} {i : Nat} {Q : DExit → St → Prop} {v : Value} {h' : DHeap}
theorem regc_pure (hE : ∀ h, E h h) (hw : dWanted ops s.fr o = some true) (hop : dOp P (evalF s.h.ng s.fr) o s.h = .ok (.value v) s.h) (hV : V i s.h v) : NOne P ops o s (RegC E V cons b i o s) Q :=
  NOne_val hw hop ⟨v, _, rfl, hE _, hV, fun _ _ _ _ _ h => h⟩
theorem regc_val (hw : dWanted ops s.fr o = some true) (hop : dOp P (evalF s.h.ng s.fr) o s.h = .ok (.value v) h') (he : E s.h h') (hV : V i h' v) (hst : ∀ j u, j ≠ i → (b.getD j 0).testBit i = false → (∀ c, cons j = some c → c ≠ i ∧ (b.getD i 0).testBit c = false) → V j s.h u → V j h' u) : NOne P ops o s (RegC E V cons b i o s) Q :=
  NOne_val hw hop ⟨v, _, rfl, he, hV, hst⟩
end
end Go.D

namespace Go.Proofs.Ytbdljpndncohaaa
open Go.D
open Go.Sort
set_option maxRecDepth 100000

theorem keyLt_iff {a b : Key} : keyLt a b = true ↔ a.t < b.t ∨ (a.t = b.t ∧ a.r < b.r) := by simp [keyLt]
theorem keyLt_irr (a : Key) : keyLt a a = false := by
  cases h : keyLt a a with
  | false => rfl
  | true => have := keyLt_iff.1 h; omega
theorem keyLt_trans {a b c : Key} (h : keyLt a b = true) (g : keyLt b c = true) : keyLt a c = true := by
  rw [keyLt_iff] at *; omega
theorem keyLt_asym {a b : Key} (h : keyLt a b = true) : keyLt b a = false := by
  cases g : keyLt b a with
  | false => rfl
  | true => rw [keyLt_iff] at h g; omega
theorem key_ext {a b : Key} (h : a.t = b.t) (g : a.r = b.r) : a = b := by cases a; cases b; simp at h g; simp [h, g]
theorem keyLt_total {a b : Key} (h : keyLt a b = false) (hn : a ≠ b) : keyLt b a = true := by
  rw [keyLt_iff]
  have h' : ¬ (a.t < b.t ∨ (a.t = b.t ∧ a.r < b.r)) := fun hh => by rw [keyLt_iff.2 hh] at h; cases h
  by_cases ht : a.t = b.t
  · have : a.r ≠ b.r := fun hr => hn (key_ext ht hr)
    omega
  · omega
theorem keyLt_swo : SWO keyLt where
  irrefl := keyLt_irr
  trans := fun _ _ _ h g => keyLt_trans h g
  ntrans := fun x y z h g => by
    cases k : keyLt x z with
    | false => rfl
    | true =>
      have h' : ¬ (x.t < y.t ∨ (x.t = y.t ∧ x.r < y.r)) := fun hh => by rw [keyLt_iff.2 hh] at h; cases h
      have g' : ¬ (y.t < z.t ∨ (y.t = z.t ∧ y.r < z.r)) := fun hh => by rw [keyLt_iff.2 hh] at g; cases g
      have := keyLt_iff.1 k
      omega
/-- the keys rise, each once -/
abbrev UpK (l : List Key) : Prop := l.Pairwise fun a b => keyLt a b = true
theorem up_eq : ∀ {l m : List Key}, UpK l → UpK m → (∀ x, x ∈ l ↔ x ∈ m) → l = m
  | [], [], _, _, _ => rfl
  | [], y :: m, _, _, h => absurd ((h y).2 List.mem_cons_self) (by simp)
  | x :: l, [], _, _, h => absurd ((h x).1 List.mem_cons_self) (by simp)
  | x :: l, y :: m, hl, hm, h => by
    obtain ⟨hx, hl'⟩ := List.pairwise_cons.1 hl
    obtain ⟨hy, hm'⟩ := List.pairwise_cons.1 hm
    have e : x = y := by
      rcases List.mem_cons.1 ((h x).1 List.mem_cons_self) with e | e
      · exact e
      · rcases List.mem_cons.1 ((h y).2 List.mem_cons_self) with e' | e'
        · exact e'.symm
        · have a := hx y e'
          rw [keyLt_asym (hy x e)] at a
          cases a
    subst e
    refine congrArg (x :: ·) (up_eq hl' hm' fun z => ⟨fun hz => ?_, fun hz => ?_⟩)
    · rcases List.mem_cons.1 ((h z).1 (List.mem_cons_of_mem _ hz)) with e | e
      · subst e; have := hx z hz; rw [keyLt_irr] at this; cases this
      · exact e
    · rcases List.mem_cons.1 ((h z).2 (List.mem_cons_of_mem _ hz)) with e | e
      · subst e; have := hy z hz; rw [keyLt_irr] at this; cases this
      · exact e
def insK (x : Key) : List Key → List Key
  | [] => [x]
  | y :: l => if keyLt y x = true then y :: insK x l else if y = x then y :: l else x :: y :: l
def keysN (l : List Key) : List Key := l.foldl (fun r x => insK x r) []
theorem mem_insK {x z : Key} : ∀ {l : List Key}, z ∈ insK x l ↔ z = x ∨ z ∈ l
  | [] => by simp [insK]
  | y :: l => by
    unfold insK
    split
    · rw [List.mem_cons, mem_insK, List.mem_cons]
      constructor
      · rintro (h | h | h) <;> simp [h]
      · rintro (h | h | h) <;> simp [h]
    · split
      · rename_i e; subst e
        simp
      · simp
theorem insK_up {x : Key} : ∀ {l : List Key}, UpK l → UpK (insK x l)
  | [], _ => by simp [insK]
  | y :: l, h => by
    obtain ⟨hy, hl⟩ := List.pairwise_cons.1 h
    unfold insK
    split
    · rename_i e
      refine List.pairwise_cons.2 ⟨fun z hz => ?_, insK_up hl⟩
      rcases mem_insK.1 hz with rfl | hz
      · exact e
      · exact hy z hz
    · rename_i e
      split
      · exact h
      · rename_i hn
        have hxy := keyLt_total (by simpa using e) hn
        refine List.pairwise_cons.2 ⟨fun z hz => ?_, h⟩
        rcases List.mem_cons.1 hz with rfl | hz
        · exact hxy
        · exact keyLt_trans hxy (hy z hz)
theorem insK_len {x : Key} : ∀ {l : List Key}, (insK x l).length ≤ l.length + 1
  | [] => by simp [insK]
  | y :: l => by
    unfold insK
    have := insK_len (x := x) (l := l)
    split
    · simp; omega
    · split <;> simp
theorem fold_ins : ∀ (l r : List Key), UpK r → UpK (l.foldl (fun r x => insK x r) r) ∧ ∀ z, z ∈ l.foldl (fun r x => insK x r) r ↔ z ∈ l ∨ z ∈ r
  | [], r, h => by simp [h]
  | x :: l, r, h => by
    obtain ⟨a, b⟩ := fold_ins l (insK x r) (insK_up h)
    refine ⟨a, fun z => ?_⟩
    rw [List.foldl_cons, b z, mem_insK, List.mem_cons]
    constructor
    · rintro (h | h | h) <;> simp [h]
    · rintro ((h | h) | h) <;> simp [h]
theorem keysN_up (l : List Key) : UpK (keysN l) := (fold_ins l [] .nil).1
theorem mem_keysN {l : List Key} {z : Key} : z ∈ keysN l ↔ z ∈ l := by
  have := (fold_ins l [] .nil).2 z
  simpa [keysN] using this
theorem fold_len : ∀ (l r : List Key), (l.foldl (fun r x => insK x r) r).length ≤ l.length + r.length
  | [], r => by simp
  | x :: l, r => by
    have h1 := fold_len l (insK x r)
    have h2 := insK_len (x := x) (l := r)
    simp only [List.foldl_cons, List.length_cons]
    omega
theorem keysN_len (l : List Key) : (keysN l).length ≤ l.length := by simpa [keysN] using fold_len l []
theorem keysN_take {l : List Key} {i : Nat} (hi : i < l.length) : keysN (l.take (i + 1)) = insK l[i] (keysN (l.take i)) := by
  rw [List.take_succ_eq_append_getElem hi, keysN, List.foldl_append]
  rfl
/-- each once, of keys in order -/
def compK : List Key → List Key
  | [] => []
  | [x] => [x]
  | x :: y :: l => if x = y then compK (y :: l) else x :: compK (y :: l)
theorem mem_compK {z : Key} : ∀ {l : List Key}, z ∈ compK l ↔ z ∈ l
  | [] => by simp [compK]
  | [x] => by simp [compK]
  | x :: y :: l => by
    unfold compK
    have := mem_compK (z := z) (l := y :: l)
    split
    · rename_i e; subst e
      rw [this]; simp
    · rw [List.mem_cons, this]; simp
theorem compK_up : ∀ {l : List Key}, l.Pairwise (fun a b => keyLt b a = false) → UpK (compK l)
  | [], _ => by simp [compK]
  | [x], _ => by simp [compK]
  | x :: y :: l, h => by
    obtain ⟨hx, hl⟩ := List.pairwise_cons.1 h
    unfold compK
    split
    · exact compK_up hl
    · rename_i hn
      have hxy := keyLt_total (hx y List.mem_cons_self) (fun e => hn e.symm)
      refine List.pairwise_cons.2 ⟨fun z hz => ?_, compK_up hl⟩
      rcases List.mem_cons.1 (mem_compK.1 hz) with rfl | hz
      · exact hxy
      · have hyz := (List.pairwise_cons.1 hl).1 z hz
        by_cases e : z = y
        · rw [e]; exact hxy
        · exact keyLt_trans hxy (keyLt_total hyz e)
theorem keys_same {l l' : List Key} (hp : l'.Perm l) (hs : l'.Pairwise (fun a b => keyLt b a = false)) : compK l' = keysN l :=
  up_eq (compK_up hs) (keysN_up l) fun z => by rw [mem_compK, mem_keysN, hp.mem_iff]
instance : Inhabited Key := ⟨⟨0, 0⟩⟩
theorem sorted_list {l : List Key} {n : Nat} (hn : n = l.length) (h : SortedIn keyLt 0 n l.toArray) : l.Pairwise (fun a b => keyLt b a = false) := by
  subst hn
  refine List.pairwise_iff_getElem.2 fun i j hi hj hij => ?_
  have := h i j (Nat.zero_le _) hij hj
  simpa [hi, hj] using this
end Go.Proofs.Ytbdljpndncohaaa

namespace Go.Proofs.Ytbdljpndncohaaa
open Go.D
set_option maxRecDepth 100000

theorem _root_.Go.D.Made.base {α : Type} {F : FRep α} {h0 h1 h2 : DHeap} {v : Value} {l : List α} (m : Made F h1 h2 v l) (e : Ext h0 h1) : Made F h0 h2 v l := by
  obtain ⟨w, a, b⟩ := m.own
  exact ⟨e.trans m.ext, w, a, fun i hi => Nat.le_trans e.next (b i hi)⟩
/-- what the operations give -/
def InsV (L : List Value) (K0 : DHeap) (a b c : List Key) (k : Nat) (h : DHeap) (v : Value) : Prop :=
  ((k ≠ 4 ∧ k ≠ 9 ∧ k ≠ 10 ∧ k ≠ 14 ∧ k ≠ 15) → v = L.getD k undef) ∧ (k = 4 → Made fKey K0 h v a) ∧ (k = 9 → Arg fKey.rep h v b) ∧ (k = 10 → Made fKey K0 h v (a ++ b)) ∧ (k = 14 ∨ k = 15 → Made fKey K0 h v (a ++ b ++ c))
theorem InsV.stab {L : List Value} {K0 h h' : DHeap} {a b c : List Key} {k : Nat} {v : Value} (e : Ext h h') (x : InsV L K0 a b c k h v) : InsV L K0 a b c k h' v :=
  ⟨x.1, fun hk => (x.2.1 hk).on e, fun hk => (x.2.2.1 hk).ext e, fun hk => (x.2.2.2.1 hk).on e, fun hk => (x.2.2.2.2 hk).on e⟩
def insCons : Nat → Option Nat
  | 4 => some 10
  | 9 => some 10
  | 10 => some 14
  | _ => none
theorem ins_stab {L : List Value} {K0 h h' : DHeap} {a b c : List Key} {B : List Nat} {k i : Nat} {v : Value} (b1 : (B.getD 14 0).testBit 10 = true) (b2 : (B.getD 15 0).testBit 10 = true ∧ (B.getD 15 0).testBit 14 = true) (b3 : (B.getD 14 0).testBit 10 = true) (hi : i = 10 ∨ i = 14) (h1 : k ≠ i) (h2 : (B.getD k 0).testBit i = false) (h3 : ∀ c, insCons k = some c → c ≠ i ∧ (B.getD i 0).testBit c = false) (x : InsV L K0 a b c k h v) : InsV L K0 a b c k h' v := by
  have n4 : k ≠ 4 := fun e => by
    subst e
    have := h3 10 rfl
    rcases hi with rfl | rfl
    · exact this.1 rfl
    · rw [b3] at this; exact Bool.noConfusion this.2
  have n9 : k ≠ 9 := fun e => by
    subst e
    have := h3 10 rfl
    rcases hi with rfl | rfl
    · exact this.1 rfl
    · rw [b3] at this; exact Bool.noConfusion this.2
  have n10 : k ≠ 10 := fun e => by
    subst e
    have := h3 14 rfl
    rcases hi with rfl | rfl
    · exact h1 rfl
    · exact this.1 rfl
  have n14 : ¬ (k = 14 ∨ k = 15) := fun e => by
    rcases hi with rfl | rfl
    · rcases e with rfl | rfl
      · rw [b1] at h2; cases h2
      · rw [b2.1] at h2; cases h2
    · rcases e with rfl | rfl
      · exact h1 rfl
      · rw [b2.2] at h2; cases h2
  exact ⟨x.1, fun e => absurd e n4, fun e => absurd e n9, fun e => absurd e n10, fun e => absurd e n14⟩
set_option maxHeartbeats 1000000 in
theorem ins_region {K0 : DHeap} {v rv : Value} {l r : List Key} {i j : Nat} {fr : Fr} {rd : Option Nat} (hv : Arg fKey.rep K0 v l) (hr : Arg fKey.rep K0 rv r) (hi : i < l.length) (hj : j ≤ r.length) (hlr : r.length ≤ 4000000000)
    (f0 : fr 0 = some v) (f3 : fr 3 = some rv) (f4 : fr 4 = some (.int .i64 (i : Nat))) (f5 : fr 5 = some (.int .i64 (j : Nat))) (f6 : fr 6 = some (.slice none 0 0)) :
    NC Try.prog 62 r39_2 (DThen (fun s => s.df = [] ∧ s.rd = rd ∧ (∃ w, s.fr 3 = some w ∧ Made fKey K0 s.h w (r.take j ++ [l[i]] ++ r.drop j)) ∧ s.fr 0 = fr 0 ∧ s.fr 4 = fr 4) (fun _ _ => False)) ⟨fr, [], K0, rd⟩ := by
  obtain ⟨u3, a1, a2⟩ := hr.slice (P := Try.prog) (t := 24) el_24 (by decide) (lo := none) (hi := some (.int .i64 (j : Nat))) (i := 0) (j := j) (bound_nat (k := .i64) hj) rfl (Nat.zero_le _) hj
  obtain ⟨u13, b1, b2⟩ := hr.slice (P := Try.prog) (t := 24) el_24 (by decide) (lo := some (.int .i64 (j : Nat))) (hi := none) (i := j) (j := r.length) rfl (bound_nat (k := .i64) hj) hj (Nat.le_refl _)
  rw [List.drop_zero] at a2
  rw [List.take_length] at b2
  have sl3 : ∀ K, Ext K0 K → dSlice Try.prog 24 rv none (some (.int .i64 (j : Nat))) none K = some u3 := fun K e => (dSlice_ext hr e).trans a1
  have sl13 : ∀ K, Ext K0 K → dSlice Try.prog 24 rv (some (.int .i64 (j : Nat))) none none K = some u13 := fun K e => (dSlice_ext hr e).trans b1
  have sl3' : ∀ K, Ext K0 K → Arg fKey.rep K u3 (r.take j) := fun K e => a2.ext e
  have sl13' : ∀ K, Ext K0 K → Arg fKey.rep K u13 (r.drop j) := fun K e => b2.ext e
  obtain ⟨id, o, hia, hc0, _, _⟩ := key_idx hv hi
  have hcl : ∀ K, Ext K0 K → cellsAt K id o 2 = some (keyV l[i]) := fun K e => by
    obtain ⟨id', o', g', c', _, _⟩ := key_idx (hv.ext e) hi
    have := hia.symm.trans g'
    injection this with this
    injection this with this
    injection this with this
    injection this with h1 h2 h3
    rw [h1, h2]
    exact c'
  have V0 : ∀ (k : Nat), (k ≠ 4 ∧ k ≠ 9 ∧ k ≠ 10 ∧ k ≠ 14 ∧ k ≠ 15) → ∀ h, InsV [.slice none 0 0, rv, .int .i64 (j : Nat), u3, undef, v, .int .i64 (i : Nat), .pointer (some ⟨id, o, none⟩), keyV l[i], undef, undef, rv, .int .i64 (j : Nat), u13, undef, undef] K0 (r.take j) [l[i]] (r.drop j) k h (([.slice none 0 0, rv, .int .i64 (j : Nat), u3, undef, v, .int .i64 (i : Nat), .pointer (some ⟨id, o, none⟩), keyV l[i], undef, undef, rv, .int .i64 (j : Nat), u13, undef, undef] : List Value).getD k undef) := fun k hk h =>
    ⟨fun _ => rfl, fun e => absurd e hk.1, fun e => absurd e hk.2.1, fun e => absurd e hk.2.2.1, fun e => by rcases e with e | e; exact absurd e hk.2.2.2.1; exact absurd e hk.2.2.2.2⟩
  refine NC.regsC (l := l39_2) (by kernel_rfl) (by kernel_rfl) (by kernel_rfl) rfl (by kernel_rfl) (by kernel_rfl) (fun a b => Ext K0 a → Ext K0 b) (fun _ h => h) (fun _ _ _ f g h => g (f h)) (InsV [.slice none 0 0, rv, .int .i64 (j : Nat), u3, undef, v, .int .i64 (i : Nat), .pointer (some ⟨id, o, none⟩), keyV l[i], undef, undef, rv, .int .i64 (j : Nat), u13, undef, undef] K0 (r.take j) [l[i]] (r.drop j)) insCons ?_ ?_
  case refine_2 =>
    rintro ⟨fr1, df1, K, rd1⟩ g hF
    obtain ⟨w, e1, e2⟩ := (hF 15 (by decide) rfl).ex (d := 3) rfl
    exact ⟨g.df, g.rd, ⟨w, e1, e2.2.2.2.2 (.inr rfl)⟩, g.fr 0 (by kernel_rfl), g.fr 4 (by kernel_rfl)⟩
  intro k oo s ho g hpre hown hF
  have gx : Ext K0 s.h := g.ext (.refl _)
  have F0 : s.fr 0 = some v := (g.fr 0 (by kernel_rfl)).trans f0
  have F4 : s.fr 4 = some (.int .i64 (i : Nat)) := (g.fr 4 (by kernel_rfl)).trans f4
  have F5 : s.fr 5 = some (.int .i64 (j : Nat)) := (g.fr 5 (by kernel_rfl)).trans f5
  have F6 : s.fr 6 = some (.slice none 0 0) := (g.fr 6 (by kernel_rfl)).trans f6
  have hk' : k < 16 := (List.getElem?_eq_some_iff.1 ho).1
  match k, hk' with
  | 0, _ =>
    simp only [l39_2, List.getElem?_cons_zero, List.getElem?_cons_succ, Option.some.injEq] at ho
    subst ho
    exact regc_pure (v := .slice none 0 0) (fun _ e => e) vz (vy F6) (V0 0 (by decide) _)
  | 1, _ =>
    simp only [l39_2, List.getElem?_cons_zero, List.getElem?_cons_succ, Option.some.injEq] at ho
    subst ho
    have F3 : s.fr 3 = some rv := (hpre 15 3 (by kernel_rfl) (by kernel_rfl)).trans f3
    exact regc_pure (v := rv) (fun _ e => e) vz (vy F3) (V0 1 (by decide) _)
  | 2, _ =>
    simp only [l39_2, List.getElem?_cons_zero, List.getElem?_cons_succ, Option.some.injEq] at ho
    subst ho
    exact regc_pure (v := .int .i64 (j : Nat)) (fun _ e => e) vz (vy F5) (V0 2 (by decide) _)
  | 3, _ =>
    simp only [l39_2, List.getElem?_cons_zero, List.getElem?_cons_succ, Option.some.injEq] at ho
    subst ho
    have q1 : s.fr 47 = some (rv) := (hF 1 (by kernel_rfl) (.inl rfl)).eq rfl fun _ _ e => e.1 (by decide)
    have q2 : s.fr 48 = some (.int .i64 (j : Nat)) := (hF 2 (by kernel_rfl) (.inl rfl)).eq rfl fun _ _ e => e.1 (by decide)
    exact regc_pure (v := u3) (fun _ e => e) vz (by simp -implicitDefEqProofs (disch:=first|omega|simp only [go_sem,Nat.reduceAdd]) only [go_sem,Int.reduceLT,Int.reduceLE,Int.reduceEq,reduceIte,true_and, q1, q2, sl3 s.h gx]) (V0 3 (by decide) _)
  | 4, _ =>
    simp only [l39_2, List.getElem?_cons_zero, List.getElem?_cons_succ, Option.some.injEq] at ho
    subst ho
    have q0 : s.fr 46 = some (.slice none 0 0) := (hF 0 (by kernel_rfl) (.inl rfl)).eq rfl fun _ _ e => e.1 (by decide)
    have q3 : s.fr 49 = some (u3) := (hF 3 (by kernel_rfl) (.inl rfl)).eq rfl fun _ _ e => e.1 (by decide)
    obtain ⟨w, h2, e2, m2, _⟩ := (Made.nil fKey (Ext.refl s.h)).append app_24 (x := u3) ((sl3' s.h gx)) (by simp; omega) (by decide)
    refine regc_val (h' := h2) (v := w) vz (by simp -implicitDefEqProofs (disch:=first|omega|simp only [go_sem,Nat.reduceAdd]) only [go_sem,Int.reduceLT,Int.reduceLE,Int.reduceEq,reduceIte,true_and, q0, q3, e2]) (fun e => e.trans m2.ext) ⟨fun h => absurd rfl h.1, fun _ => by simpa using m2.base gx, fun h => absurd h (by decide), fun h => absurd h (by decide), fun h => absurd h (by decide)⟩ (fun j u _ _ _ hV => hV.stab m2.ext)
  | 5, _ =>
    simp only [l39_2, List.getElem?_cons_zero, List.getElem?_cons_succ, Option.some.injEq] at ho
    subst ho
    exact regc_pure (v := v) (fun _ e => e) vz (vy F0) (V0 5 (by decide) _)
  | 6, _ =>
    simp only [l39_2, List.getElem?_cons_zero, List.getElem?_cons_succ, Option.some.injEq] at ho
    subst ho
    exact regc_pure (v := .int .i64 (i : Nat)) (fun _ e => e) vz (vy F4) (V0 6 (by decide) _)
  | 7, _ =>
    simp only [l39_2, List.getElem?_cons_zero, List.getElem?_cons_succ, Option.some.injEq] at ho
    subst ho
    have q5 : s.fr 51 = some (v) := (hF 5 (by kernel_rfl) (.inl rfl)).eq rfl fun _ _ e => e.1 (by decide)
    have q6 : s.fr 52 = some (.int .i64 (i : Nat)) := (hF 6 (by kernel_rfl) (.inl rfl)).eq rfl fun _ _ e => e.1 (by decide)
    exact regc_pure (v := .pointer (some ⟨id, o, none⟩)) (fun _ e => e) vz (by simp -implicitDefEqProofs (disch:=first|omega|simp only [go_sem,Nat.reduceAdd]) only [go_sem,Int.reduceLT,Int.reduceLE,Int.reduceEq,reduceIte,true_and, q5, q6, hia]) (V0 7 (by decide) _)
  | 8, _ =>
    simp only [l39_2, List.getElem?_cons_zero, List.getElem?_cons_succ, Option.some.injEq] at ho
    subst ho
    have q7 : s.fr 53 = some (.pointer (some ⟨id, o, none⟩)) := (hF 7 (by kernel_rfl) (.inl rfl)).eq rfl fun _ _ e => e.1 (by decide)
    have hc := hcl s.h gx
    exact regc_pure (v := keyV l[i]) (fun _ e => e) vz (by simp -implicitDefEqProofs (disch:=first|omega|simp only [go_sem,Nat.reduceAdd]) only [go_sem,Int.reduceLT,Int.reduceLE,Int.reduceEq,reduceIte,true_and, q7, hc]) (V0 8 (by decide) _)
  | 9, _ =>
    simp only [l39_2, List.getElem?_cons_zero, List.getElem?_cons_succ, Option.some.injEq] at ho
    subst ho
    have q8 : s.fr 54 = some (keyV l[i]) := (hF 8 (by kernel_rfl) (.inl rfl)).eq rfl fun _ _ e => e.1 (by decide)
    have m2 := built fKey s.h (cs := [.int .i32 l[i].t, .int .i64 l[i].r]) (zz := 2) (l := [l[i]]) (n := 1) (m := 1) (by simp; rfl) rfl rfl (by simpa using hv.ok _ (List.getElem_mem hi))
    refine regc_val (h' := s.h.push (.row [.int .i32 l[i].t, .int .i64 l[i].r] 2 false)) (v := .slice (some ⟨s.h.next, 0, none⟩) 1 1) vz (vy q8) (fun e => e.push _) ⟨fun h => absurd rfl h.2.1, fun h => absurd h (by decide), fun _ => m2, fun h => absurd h (by decide), fun h => absurd h (by decide)⟩ (fun j u _ _ _ hV => hV.stab (Ext.push1 _ _))
  | 10, _ =>
    simp only [l39_2, List.getElem?_cons_zero, List.getElem?_cons_succ, Option.some.injEq] at ho
    subst ho
    obtain ⟨w4, q4, v4⟩ := (hF 4 (by kernel_rfl) (.inr rfl)).ex (d := 50) rfl
    obtain ⟨w9, q9, v9⟩ := (hF 9 (by kernel_rfl) (.inr rfl)).ex (d := 55) rfl
    obtain ⟨w, h2, e2, m2, _⟩ := (v4.2.1 rfl).append app_24 (v9.2.2.1 rfl) (by simp; omega) (by decide)
    refine regc_val (h' := h2) (v := w) vz (by simp -implicitDefEqProofs (disch:=first|omega|simp only [go_sem,Nat.reduceAdd]) only [go_sem,Int.reduceLT,Int.reduceLE,Int.reduceEq,reduceIte,true_and, q4, q9, e2]) (fun _ => m2.ext) ⟨fun h => absurd rfl h.2.2.1, fun h => absurd h (by decide), fun h => absurd h (by decide), fun _ => m2, fun h => absurd h (by decide)⟩ (fun j u h1 h2 h3 hV => ins_stab (by kernel_rfl) ⟨by kernel_rfl, by kernel_rfl⟩ (by kernel_rfl) (.inl rfl) h1 h2 h3 hV)
  | 11, _ =>
    simp only [l39_2, List.getElem?_cons_zero, List.getElem?_cons_succ, Option.some.injEq] at ho
    subst ho
    have F3 : s.fr 3 = some rv := (hpre 15 3 (by kernel_rfl) (by kernel_rfl)).trans f3
    exact regc_pure (v := rv) (fun _ e => e) vz (vy F3) (V0 11 (by decide) _)
  | 12, _ =>
    simp only [l39_2, List.getElem?_cons_zero, List.getElem?_cons_succ, Option.some.injEq] at ho
    subst ho
    exact regc_pure (v := .int .i64 (j : Nat)) (fun _ e => e) vz (vy F5) (V0 12 (by decide) _)
  | 13, _ =>
    simp only [l39_2, List.getElem?_cons_zero, List.getElem?_cons_succ, Option.some.injEq] at ho
    subst ho
    have q11 : s.fr 57 = some (rv) := (hF 11 (by kernel_rfl) (.inl rfl)).eq rfl fun _ _ e => e.1 (by decide)
    have q12 : s.fr 58 = some (.int .i64 (j : Nat)) := (hF 12 (by kernel_rfl) (.inl rfl)).eq rfl fun _ _ e => e.1 (by decide)
    exact regc_pure (v := u13) (fun _ e => e) vz (by simp -implicitDefEqProofs (disch:=first|omega|simp only [go_sem,Nat.reduceAdd]) only [go_sem,Int.reduceLT,Int.reduceLE,Int.reduceEq,reduceIte,true_and, q11, q12, sl13 s.h gx]) (V0 13 (by decide) _)
  | 14, _ =>
    simp only [l39_2, List.getElem?_cons_zero, List.getElem?_cons_succ, Option.some.injEq] at ho
    subst ho
    have q13 : s.fr 59 = some (u13) := (hF 13 (by kernel_rfl) (.inl rfl)).eq rfl fun _ _ e => e.1 (by decide)
    obtain ⟨w10, q10, v10⟩ := (hF 10 (by kernel_rfl) (.inr rfl)).ex (d := 56) rfl
    obtain ⟨w, h2, e2, m2, _⟩ := (v10.2.2.2.1 rfl).append app_24 (sl13' s.h gx) (by simp; omega) (by decide)
    refine regc_val (h' := h2) (v := w) vz (by simp -implicitDefEqProofs (disch:=first|omega|simp only [go_sem,Nat.reduceAdd]) only [go_sem,Int.reduceLT,Int.reduceLE,Int.reduceEq,reduceIte,true_and, q10, q13, e2]) (fun _ => m2.ext) ⟨fun h => absurd rfl h.2.2.2.1, fun h => absurd h (by decide), fun h => absurd h (by decide), fun h => absurd h (by decide), fun _ => by simpa using m2⟩ (fun j u h1 h2 h3 hV => ins_stab (by kernel_rfl) ⟨by kernel_rfl, by kernel_rfl⟩ (by kernel_rfl) (.inr rfl) h1 h2 h3 hV)
  | 15, _ =>
    simp only [l39_2, List.getElem?_cons_zero, List.getElem?_cons_succ, Option.some.injEq] at ho
    subst ho
    obtain ⟨w14, q14, v14⟩ := (hF 14 (by kernel_rfl) (.inl rfl)).ex (d := 60) rfl
    exact regc_pure (v := w14) (fun _ e => e) vz (vy q14) ⟨fun h => absurd rfl h.2.2.2.2, fun h => absurd h (by decide), fun h => absurd h (by decide), fun h => absurd h (by decide), fun _ => v14.2.2.2.2 (.inl rfl)⟩
theorem insK_cut {x : Key} : ∀ {r : List Key} {j : Nat} (_ : j < r.length), insK x r = r.take j ++ insK x (r.drop j) → keyLt r[j] x = true → insK x r = r.take (j + 1) ++ insK x (r.drop (j + 1)) := fun {r j} hj h hl => by
  rw [h, List.drop_eq_getElem_cons hj]
  conv => lhs; rw [insK]
  rw [if_pos hl, List.take_succ_eq_append_getElem hj, List.append_assoc]
  rfl
theorem insK_end {x : Key} {r : List Key} {j : Nat} (hj : j < r.length) (h : insK x r = r.take j ++ insK x (r.drop j)) (hl : ¬ keyLt r[j] x = true) : insK x r = if r[j] = x then r else r.take j ++ [x] ++ r.drop j := by
  rw [h, List.drop_eq_getElem_cons hj, insK, if_neg hl]
  split
  · rw [← List.drop_eq_getElem_cons hj, List.take_append_drop]
  · simp
set_option maxHeartbeats 1000000 in
theorem refKeys_c {h : DHeap} {v : Value} {l : List Key} (hb : Arg fKey.rep h v l) (hl : l.length ≤ 1048576) :
    Ct Try.prog 39 [v] h fun r h1 => ∃ w, r = .ret w ∧ Made fKey h h1 w (keysN l) := by
  refine go_39 (by simp) ?_
  have el : ∀ K, dLen Try.prog #[24] v K = some (.int .i64 (l.length : Nat)) := hb.lens (P := Try.prog) (ts := #[24]) (t := 24) rfl isl_24
  simp -implicitDefEqProofs (disch:=first|omega|simp only [go_sem,Nat.reduceAdd]) only [go_sem,Int.reduceLT,Int.reduceLE,Int.reduceEq,reduceIte,true_and, c39]
  refine xloop (σ := Nat) (by kernel_rfl) (fun i s => s.df = [] ∧ s.rd = none ∧ s.fr 0 = some v ∧ s.fr 4 = some (.int .i64 (i : Nat)) ∧ i ≤ l.length ∧ ∃ rv, s.fr 3 = some rv ∧ Made fKey h s.h rv (keysN (l.take i))) (fun i => l.length - i) 0 ?_ ?_
  · simp -implicitDefEqProofs (disch:=first|omega|simp only [go_sem,Nat.reduceAdd]) only [go_sem,Int.reduceLT,Int.reduceLE,Int.reduceEq,reduceIte,true_and]
    exact ⟨rfl, Nat.zero_le _, _, rfl, .nil fKey (.refl h)⟩
  rintro i ⟨fr, df, K, rd⟩ K' hK' hX ⟨rfl, rfl, f0, f4, hi, rv, f3, m⟩
  simp only at f0 f4 f3 m
  simp -implicitDefEqProofs (disch:=first|omega|simp only [go_sem,Nat.reduceAdd]) only [go_sem,Int.reduceLT,Int.reduceLE,Int.reduceEq,reduceIte,true_and, f0, f4, el]
  refine XIf_dec (fun hc1 => ?_) (fun hc1 => ?_)
  · have hj0 : i < l.length := by omega
    have hbK : Arg fKey.rep K v l := hb.ext m.ext
    have hr := m.arg
    have hrl := keysN_len (l.take i)
    have htl : (l.take i).length ≤ l.length := by simp; omega
    have hnext := keysN_take hj0
    have hw1 := wrap_succ hj0 (by omega)
    obtain ⟨rl, hrr⟩ : ∃ rl, keysN (l.take i) = rl := ⟨_, rfl⟩
    rw [hrr] at hr hrl hnext
    have er : ∀ K, dLen Try.prog #[24] rv K = some (.int .i64 (rl.length : Nat)) := hr.lens (P := Try.prog) (ts := #[24]) (t := 24) rfl isl_24
    obtain ⟨id1, o1, g1, a1, _, _⟩ := key_idx hbK hj0
    obtain ⟨x, hx⟩ : ∃ x, l[i] = x := ⟨_, rfl⟩
    rw [hx] at a1 hnext
    simp -implicitDefEqProofs (disch:=first|omega|simp only [go_sem,Nat.reduceAdd]) only [go_sem,Int.reduceLT,Int.reduceLE,Int.reduceEq,reduceIte,true_and]
    refine XLoop_cut (fun s => s.df = [] ∧ s.rd = none ∧ s.h = K ∧ s.fr 0 = some v ∧ s.fr 4 = some (.int .i64 (i : Nat)) ∧ s.fr 3 = some rv ∧ ∃ j, s.fr 5 = some (.int .i64 (j : Nat)) ∧ j ≤ rl.length ∧ insK x rl = rl.take j ++ insK x (rl.drop j) ∧ ∀ hj : j < rl.length, ¬ keyLt rl[j] x = true) ?_ ?_
    · refine xloop (σ := Nat) (by kernel_rfl) (fun j s => s.df = [] ∧ s.rd = none ∧ s.h = K ∧ s.fr 0 = some v ∧ s.fr 4 = some (.int .i64 (i : Nat)) ∧ s.fr 3 = some rv ∧ s.fr 5 = some (.int .i64 (j : Nat)) ∧ j ≤ rl.length ∧ insK x rl = rl.take j ++ insK x (rl.drop j)) (fun j => rl.length - j) 0 ?_ ?_
      · simp -implicitDefEqProofs (disch:=first|omega|simp only [go_sem,Nat.reduceAdd]) only [go_sem,Int.reduceLT,Int.reduceLE,Int.reduceEq,reduceIte,true_and, f0, f3, f4]
        exact ⟨rfl, Nat.zero_le _, by simp⟩
      · rintro j ⟨fr, df, K2, rd⟩ K2' hK2 hX2 ⟨rfl, rfl, rfl, f0, f4, f3, f5, hj, hin⟩
        simp only at f0 f4 f3 f5
        simp -implicitDefEqProofs (disch:=first|omega|simp only [go_sem,Nat.reduceAdd]) only [go_sem,Int.reduceLT,Int.reduceLE,Int.reduceEq,reduceIte,true_and]
        refine dr_39_0 ?_
        by_cases hjl : j < rl.length
        · obtain ⟨id2, o2, g2, a2, _, _⟩ := key_idx hr hjl
          have hjl' : ((j : Nat) : Int) < (rl.length : Nat) := by omega
          have hjl2 := eq_true hjl'
          simp -implicitDefEqProofs (disch:=first|omega|simp only [go_sem,Nat.reduceAdd]) only [go_sem,Int.reduceLT,Int.reduceLE,Int.reduceEq,reduceIte,true_and, l39_0, f0, f3, f4, f5, er, hjl2, g1, a1, g2, a2, dPick_t, dPick_f]
          refine dcall refCompare_c ?_
          have hw2 := wrap_succ hjl (by omega)
          by_cases hlt : keyLt rl[j] x = true
          · have hneg' := eq_true (cmpR_neg.2 hlt)
            simp -implicitDefEqProofs (disch:=first|omega|simp only [go_sem,Nat.reduceAdd]) only [go_sem,Int.reduceLT,Int.reduceLE,Int.reduceEq,reduceIte,true_and, hneg', XStab_nil, dPick_t, dPick_f, f5, hw2]
            refine hK2 (j + 1) _ ?_ (by omega)
            exact ⟨by trivial, by trivial, by trivial, (vy f0), (vy f4), (vy f3), vz, by omega, insK_cut hjl hin hlt⟩
          · have hneg : ¬ cmpR rl[j] x < 0 := fun hh => hlt (cmpR_neg.1 hh)
            simp -implicitDefEqProofs (disch:=first|omega|simp only [go_sem,Nat.reduceAdd]) only [go_sem,Int.reduceLT,Int.reduceLE,Int.reduceEq,reduceIte,true_and, hneg, XStab_nil, dPick_t, dPick_f]
            refine hX2 _ _ (by simp) ?_
            exact ⟨by trivial, by trivial, by trivial, (vy f0), (vy f4), (vy f3), j, (vy f5), hj, hin, fun _ => hlt⟩
        · have hjl' : ¬ ((j : Nat) : Int) < (rl.length : Nat) := by omega
          simp -implicitDefEqProofs (disch:=first|omega|simp only [go_sem,Nat.reduceAdd]) only [go_sem,Int.reduceLT,Int.reduceLE,Int.reduceEq,reduceIte,true_and, l39_0, f0, f3, f4, f5, er, hjl', dPick_t, dPick_f, XStab_nil]
          refine hX2 _ _ (by simp) ?_
          exact ⟨by trivial, by trivial, by trivial, (vy f0), (vy f4), (vy f3), j, (vy f5), hj, hin, fun h => absurd h hjl⟩
    rintro ⟨fr, df, K2, rd⟩ ⟨hdf, hrd, hK2, f0, f4, f3, j, f5, hj, hin, hnl⟩
    simp only at hdf hrd hK2 f0 f4 f3 f5
    subst hdf hrd hK2
    simp -implicitDefEqProofs (disch:=first|omega|simp only [go_sem,Nat.reduceAdd]) only [go_sem,Int.reduceLT,Int.reduceLE,Int.reduceEq,reduceIte,true_and]
    refine dr_39_1 ?_
    have put_in : ∀ M w, Made fKey K2 M w (rl.take j ++ [x] ++ rl.drop j) → (∀ hj : j < rl.length, ¬ rl[j] = x) → Made fKey h M w (keysN (l.take (i + 1))) := fun M w mw hne => by
      rw [hnext]
      by_cases hjl : j < rl.length
      · rw [insK_end hjl hin (hnl hjl), if_neg (hne hjl)]
        exact mw.base m.ext
      · have : j = rl.length := by omega
        subst this
        rw [hin]
        simp only [List.take_length, List.drop_length, List.append_nil] at mw ⊢
        exact mw.base m.ext
    by_cases hjl : j < rl.length
    · obtain ⟨id2, o2, g2, a2, _, _⟩ := key_idx hr hjl
      have hjl' : ((j : Nat) : Int) < (rl.length : Nat) := by omega
      have hjl2 := eq_true hjl'
      by_cases heq : rl[j] = x
      · have heqd : decide (rl[j] = x) = true := decide_eq_true heq
        simp -implicitDefEqProofs (disch:=first|omega|simp only [go_sem,Nat.reduceAdd]) only [go_sem,Int.reduceLT,Int.reduceLE,Int.reduceEq,reduceIte,true_and, l39_1, f0, f3, f4, f5, er, hjl2, g1, a1, g2, a2, dPick_t, dPick_f, bin_key', heqd, XStab_nil, hw1]
        refine hK' (i + 1) _ ?_ (by omega)
        refine ⟨by trivial, by trivial, (vy f0), vz, by omega, rv, (vy f3), ?_⟩
        have e : keysN (l.take (i + 1)) = keysN (l.take i) := by rw [hnext, insK_end hjl hin (hnl hjl), if_pos heq, hrr]
        exact e ▸ m
      · have heqd : decide (rl[j] = x) = false := decide_eq_false heq
        simp -implicitDefEqProofs (disch:=first|omega|simp only [go_sem,Nat.reduceAdd]) only [go_sem,Int.reduceLT,Int.reduceLE,Int.reduceEq,reduceIte,true_and, l39_1, f0, f3, f4, f5, er, hjl2, g1, a1, g2, a2, dPick_t, dPick_f, bin_key', heqd, XStab_nil]
        refine NC.mono (ins_region hbK hr hj0 hj (by omega) (vy f0) (vy f3) (vy f4) (vy f5) vz) ?_
        rintro e ⟨fr1, df1, hh1, rd1⟩ hM
        cases e <;> try exact hM.elim
        obtain ⟨rfl, rfl, ⟨w, q3, mw⟩, q0, q4⟩ := hM
        have Q0 : fr1 0 = some v := q0.trans (vy f0)
        have Q4 : fr1 4 = some (.int .i64 (i : Nat)) := q4.trans (vy f4)
        rw [hx] at mw
        simp -implicitDefEqProofs (disch:=first|omega|simp only [go_sem,Nat.reduceAdd]) only [go_sem,Int.reduceLT,Int.reduceLE,Int.reduceEq,reduceIte,true_and, Q0, Q4, hw1]
        refine hK' (i + 1) _ ?_ (by omega)
        exact ⟨by trivial, by trivial, by simp -implicitDefEqProofs (disch:=first|omega|simp only [go_sem,Nat.reduceAdd]) only [go_sem,Int.reduceLT,Int.reduceLE,Int.reduceEq,reduceIte,true_and, Q0], vz, by omega, w, (by simp -implicitDefEqProofs (disch:=first|omega|simp only [go_sem,Nat.reduceAdd]) only [go_sem,Int.reduceLT,Int.reduceLE,Int.reduceEq,reduceIte,true_and]; exact q3), put_in _ _ mw (fun _ => heq)⟩
    · have hjl' : ¬ ((j : Nat) : Int) < (rl.length : Nat) := by omega
      simp -implicitDefEqProofs (disch:=first|omega|simp only [go_sem,Nat.reduceAdd]) only [go_sem,Int.reduceLT,Int.reduceLE,Int.reduceEq,reduceIte,true_and, l39_1, f0, f3, f4, f5, er, hjl', dPick_t, dPick_f, XStab_nil]
      refine NC.mono (ins_region hbK hr hj0 hj (by omega) (vy f0) (vy f3) (vy f4) (vy f5) vz) ?_
      rintro e ⟨fr1, df1, hh1, rd1⟩ hM
      cases e <;> try exact hM.elim
      obtain ⟨rfl, rfl, ⟨w, q3, mw⟩, q0, q4⟩ := hM
      have Q0 : fr1 0 = some v := q0.trans (vy f0)
      have Q4 : fr1 4 = some (.int .i64 (i : Nat)) := q4.trans (vy f4)
      rw [hx] at mw
      simp -implicitDefEqProofs (disch:=first|omega|simp only [go_sem,Nat.reduceAdd]) only [go_sem,Int.reduceLT,Int.reduceLE,Int.reduceEq,reduceIte,true_and, Q0, Q4, hw1]
      refine hK' (i + 1) _ ?_ (by omega)
      exact ⟨by trivial, by trivial, by simp -implicitDefEqProofs (disch:=first|omega|simp only [go_sem,Nat.reduceAdd]) only [go_sem,Int.reduceLT,Int.reduceLE,Int.reduceEq,reduceIte,true_and, Q0], vz, by omega, w, (by simp -implicitDefEqProofs (disch:=first|omega|simp only [go_sem,Nat.reduceAdd]) only [go_sem,Int.reduceLT,Int.reduceLE,Int.reduceEq,reduceIte,true_and]; exact q3), put_in _ _ mw (fun h => absurd h hjl)⟩
  · obtain rfl : i = l.length := by omega
    rw [List.take_length] at m
    simp -implicitDefEqProofs (disch:=first|omega|simp only [go_sem,Nat.reduceAdd]) only [go_sem,Int.reduceLT,Int.reduceLE,Int.reduceEq,reduceIte,true_and]
    refine hX _ _ (by simp) ?_
    simp -implicitDefEqProofs (disch:=first|omega|simp only [go_sem,Nat.reduceAdd]) only [go_sem,Int.reduceLT,Int.reduceLE,Int.reduceEq,reduceIte,true_and, f3]
    exact ⟨_, rfl, _, rfl, m⟩
end Go.Proofs.Ytbdljpndncohaaa

namespace Go.D
variable {P : Program} {α : Type}

/-- a row that is a list of flat data -/
def RowIs (F : FRep α) (h : DHeap) (id : Nat) (A : List α) : Prop := h.get id = some (.row (A.flatMap F.enc) F.z false)
theorem setAt_over (vs : List Value) : ∀ (x B : List Value), vs.length = x.length → setAt (x ++ B) 0 vs = vs ++ B := fun x B hl => by
  refine List.ext_getElem? fun i => ?_
  rw [setAt_get]
  by_cases h1 : i < vs.length
  · rw [if_pos ⟨Nat.zero_le _, by omega, by simp; omega⟩, Nat.sub_zero, List.getElem?_append_left h1]
  · rw [if_neg (by omega), List.getElem?_append_right (by omega), List.getElem?_append_right (by omega), hl]
theorem flatMap_set (F : FRep α) {A : List α} {k : Nat} (hk : k < A.length) (x : α) : setAt (A.flatMap F.enc) (k * F.z) (F.enc x) = (A.set k x).flatMap F.enc := by
  have h1 : A.flatMap F.enc = (A.take k).flatMap F.enc ++ (F.enc A[k] ++ (A.drop (k + 1)).flatMap F.enc) := by
    conv => lhs; rw [← List.take_append_drop k A, List.drop_eq_getElem_cons hk]
    rw [List.flatMap_append, List.flatMap_cons]
  have h2 : (A.set k x).flatMap F.enc = (A.take k).flatMap F.enc ++ (F.enc x ++ (A.drop (k + 1)).flatMap F.enc) := by
    rw [List.set_eq_take_append_cons_drop, if_pos hk, List.flatMap_append, List.flatMap_cons]
  have h3 : k * F.z = ((A.take k).flatMap F.enc).length + 0 := by rw [flatMap_len]; simp [Nat.min_eq_left (Nat.le_of_lt hk)]
  rw [h1, h2, h3, setAt_mid, setAt_over _ _ _ (by rw [F.len, F.len])]
theorem RowIs.store {F : FRep α} {h : DHeap} {id k : Nat} {A : List α} (r : RowIs F h id A) (hk : k < A.length) (x : α) : storeAt h id (k * F.z) (F.enc x) = some (h.set id (.row ((A.set k x).flatMap F.enc) F.z false)) := by
  have hm : (k + 1) * F.z ≤ A.length * F.z := Nat.mul_le_mul_right _ hk
  rw [Nat.succ_mul] at hm
  rw [storeAt_row r (by rw [F.len, flatMap_len]; exact hm) ?_, flatMap_set F hk]
  refine List.all_eq_true.2 fun v hv => ?_
  have := List.all_eq_true.1 (F.flat x) v hv
  unfold flat1 at this
  cases v <;> first | rfl | cases this
theorem RowIs.set {F : FRep α} {h : DHeap} {id : Nat} {A : List α} {z : Nat} (hz : z = F.z) : RowIs F (h.set id (.row (A.flatMap F.enc) z false)) id A := by
  subst hz; exact get_set_same _ _
theorem RowIs.sl {F : FRep α} {h : DHeap} {id o n c : Nat} {A : List α} (r : RowIs F h id A) (hn : o + n ≤ A.length) (hok : ∀ x ∈ A, F.ok x) : Sl F.rep (fun i => i = id) h (.slice (some ⟨id, o * F.z, none⟩) n c) ((A.drop o).take n) := by
  have hl : ((A.drop o).take n).length = n := by simp; omega
  have hm : (o + n) * F.z ≤ A.length * F.z := Nat.mul_le_mul_right _ hn
  rw [Nat.add_mul] at hm
  refine .inr ⟨id, o * F.z, c, A.flatMap F.enc, F.z, false, by rw [hl], rfl, r, .inr rfl, ?_, ?_⟩
  · rw [hl, flatMap_len]; exact hm
  · refine Els.flat.2 ⟨?_, fun x hx => hok x (List.mem_of_mem_drop (List.mem_of_mem_take hx))⟩
    rw [hl]
    have h1 : A.flatMap F.enc = (A.take o).flatMap F.enc ++ (((A.drop o).take n).flatMap F.enc ++ (A.drop (o + n)).flatMap F.enc) := by
      rw [← List.flatMap_append, ← List.flatMap_append]
      congr 1
      rw [← List.drop_drop, List.take_append_drop, List.take_append_drop]
    have h2 : o * F.z = ((A.take o).flatMap F.enc).length := by rw [flatMap_len]; simp [Nat.min_eq_left (show o ≤ A.length by omega)]
    have h3 : n * F.rep.z = (((A.drop o).take n).flatMap F.enc).length := by rw [flatMap_len, hl]; rfl
    rw [h1, h2, List.drop_left, h3, List.take_left]
/-- a part of a row -/
theorem dSlice_row {t : TypeId} {z id o n c : Nat} {h : DHeap} {cs : List Value} {lo hi : Option Value} {i j : Nat} (hz : slElem P t = some z) (hp : 0 < z) (hg : h.get id = some (.row cs z false)) (hj : boundOf hi n n = some j) (hi2 : boundOf lo 0 j = some i) :
    dSlice P t (.slice (some ⟨id, o, none⟩) n c) lo hi none h = some (.slice (some ⟨id, o + i * z, none⟩) (j - i) (if j = n ∧ c = n then j - i else j - i + 1)) := by
  unfold slElem at hz
  split at hz
  · rename_i e e1
    cases e2 : P.info? e with
    | none => rw [e2] at hz; cases hz
    | some inf =>
      rw [e2] at hz
      have hsz : inf.size = z := by simpa using hz
      have hfit : rowFits h id inf.size = true := by simp [rowFits, hg, hsz]
      simp only [dSlice, e1, e2]
      rw [if_pos ⟨hfit, by rw [hsz]; exact hp⟩]
      simp only [boundOf] at hj hi2 ⊢
      simp only [hj, hi2, hsz]
  · cases hz
def clElem (P : Program) (t : TypeId) : Option (Nat × Value) :=
  match P.underlying t with
  | some (.slice e) => (P.info? e).bind fun i => i.zero.map fun z => (z.cells.size, z)
  | _ => none
/-- a part that is cleared -/
theorem dClear_row {t : TypeId} {zc id o n c esz : Nat} {zv : Value} {h : DHeap} {cs : List Value} (hz : clElem P t = some (zc, zv)) (hall : zv.cells.toList.all flat1 = true) (hg : h.get id = some (.row cs esz false)) (hl : o + n * zc ≤ cs.length) :
    ∃ zs : List Value, zs.length = n * zc ∧ dClear P #[t] (.slice (some ⟨id, o, none⟩) n c) h = some (.tuple #[], h.set id (.row (setAt cs o zs) esz false)) := by
  unfold clElem at hz
  split at hz
  · rename_i e e1
    cases e2 : P.info? e with
    | none => rw [e2] at hz; cases hz
    | some inf =>
      rw [e2] at hz
      rw [Option.bind_some] at hz
      cases e3 : inf.zero with
      | none => rw [e3] at hz; simp at hz
      | some z =>
        rw [e3] at hz
        simp only [Option.map_some, Option.some.injEq, Prod.mk.injEq] at hz
        obtain ⟨h1, rfl⟩ := hz
        by_cases h0 : n = 0
        · subst h0
          refine ⟨[], by simp, ?_⟩
          simp only [dClear, List.getElem?_toArray, List.getElem?_cons_zero, e1, if_true, setAt, set_self hg]
        · refine ⟨(rowZeros z.cells (n * z.cells.size)).toList, by simp [rowZeros, h1], ?_⟩
          simp only [dClear, List.getElem?_toArray, List.getElem?_cons_zero, e1, if_neg h0, e2, e3, hg]
          rw [if_pos ⟨hall, by rw [h1]; exact hl⟩]
  · cases hz
/-- the head of a row whose rest was cleared -/
theorem sl_head {F : FRep α} {h : DHeap} {id k c : Nat} {B : List α} {cs zs : List Value} (hg : h.get id = some (.row (setAt cs (k * F.z) zs) F.z false)) (hk : k = B.length) (hl : k * F.z ≤ cs.length) (hB : cs.take (k * F.z) = B.flatMap F.enc) (hok : ∀ x ∈ B, F.ok x) : Sl F.rep (fun i => i = id) h (.slice (some ⟨id, 0, none⟩) k c) B := by
  subst hk
  refine .inr ⟨id, 0, c, _, F.z, false, rfl, rfl, hg, .inr rfl, ?_, Els.flat.2 ⟨?_, hok⟩⟩
  · rw [setAt_length]; show 0 + B.length * F.z ≤ _; omega
  · rw [← hB, List.drop_zero]
    refine List.ext_getElem? fun i => ?_
    show (List.take (B.length * F.z) _)[i]? = _
    rw [List.getElem?_take, List.getElem?_take, setAt_get]
    split
    · rw [if_neg (by omega)]
    · rfl
end Go.D

namespace Go.Proofs.Ytbdljpndncohaaa
open Go.D
set_option maxRecDepth 100000

theorem compK_snoc {x y : Key} : ∀ {L : List Key}, compK (L ++ [y, x]) = if y = x then compK (L ++ [y]) else compK (L ++ [y]) ++ [x]
  | [] => by
    simp only [List.nil_append, compK]
    split
    · rename_i e; rw [e]
    · rfl
  | [z] => by
    simp only [List.cons_append, List.nil_append, compK]
    by_cases h1 : z = y <;> by_cases h2 : y = x <;> simp [h1, h2]
  | z :: w :: L => by
    have ih := compK_snoc (x := x) (y := y) (L := w :: L)
    simp only [List.cons_append, compK] at ih ⊢
    by_cases h1 : z = w
    · rw [if_pos h1, if_pos h1]; exact ih
    · rw [if_neg h1, if_neg h1, ih]
      split <;> simp
theorem compK_take {l : List Key} {m : Nat} (hm : m + 1 < l.length) : compK (l.take (m + 1 + 1)) = if l[m] = l[m + 1] then compK (l.take (m + 1)) else compK (l.take (m + 1)) ++ [l[m + 1]] := by
  rw [List.take_succ_eq_append_getElem hm, List.take_succ_eq_append_getElem (show m < l.length by omega), List.append_assoc]
  exact compK_snoc
theorem row_key {K : DHeap} {id i : Nat} {A : List Key} (r : RowIs fKey K id A) (hi : i < A.length) : cellsAt K id (i * 2) 2 = some (keyV A[i]) := by
  have hm : (i + 1) * 2 ≤ A.length * 2 := Nat.mul_le_mul_right _ hi
  have h1 : A.flatMap fKey.enc = (A.take i).flatMap fKey.enc ++ (fKey.enc A[i] ++ (A.drop (i + 1)).flatMap fKey.enc) := by
    conv => lhs; rw [← List.take_append_drop i A, List.drop_eq_getElem_cons hi]
    rw [List.flatMap_append, List.flatMap_cons]
  have h2 : i * 2 = ((A.take i).flatMap fKey.enc).length := by rw [flatMap_len]; simp [Nat.min_eq_left (Nat.le_of_lt hi)]; rfl
  rw [cellsAt_row r (by rw [flatMap_len]; show _ ≤ A.length * 2; omega), h1, h2, List.drop_left]
  rfl
/-- how things lie in the second loop -/
structure CmpI (l : List Key) (n0 k2 k : Nat) (A : List Key) : Prop where
  len : A.length = l.length
  le : n0 + k2 ≤ l.length
  one : 1 ≤ n0 ∧ 1 ≤ k2
  kk : k = (compK (l.take (n0 + k2))).length
  hd : A.take k = compK (l.take (n0 + k2))
  lt : k < n0 + k2
  tl : ∀ p, k ≤ p → A[p]? = l[p]?
theorem CmpI.first {l : List Key} {n0 : Nat} (h0 : n0 + 1 < l.length) (he : l[n0] = l[n0 + 1]) (hc : compK (l.take (n0 + 1)) = l.take (n0 + 1)) : CmpI l (n0 + 1) 1 (n0 + 1) l where
  len := rfl
  le := by omega
  one := by omega
  kk := by rw [compK_take h0, if_pos he, hc]; simp; omega
  hd := by rw [compK_take h0, if_pos he, hc]
  lt := by omega
  tl := fun _ _ => rfl
theorem CmpI.at {l A : List Key} {n0 k2 k : Nat} (x : CmpI l n0 k2 k A) (h : n0 + k2 < l.length) : ∃ (h1 : n0 + k2 < A.length) (h2 : n0 + k2 - 1 < A.length), A[n0 + k2] = l[n0 + k2] ∧ A[n0 + k2 - 1] = l[n0 + k2 - 1] := by
  have e := x.len
  have := x.one
  refine ⟨by omega, by omega, ?_, ?_⟩
  · have h1 := x.tl (n0 + k2) (by have := x.lt; omega)
    rw [List.getElem?_eq_getElem (by omega), List.getElem?_eq_getElem h] at h1
    exact Option.some.inj h1
  · have h1 := x.tl (n0 + k2 - 1) (by have := x.lt; omega)
    rw [List.getElem?_eq_getElem (by omega), List.getElem?_eq_getElem (by omega)] at h1
    exact Option.some.inj h1
theorem CmpI.same {l A : List Key} {n0 k2 k : Nat} (x : CmpI l n0 k2 k A) (h : n0 + k2 < l.length) (he : l[n0 + k2] = l[n0 + k2 - 1]) : CmpI l n0 (k2 + 1) k A := by
  obtain ⟨m, hm⟩ : ∃ m, n0 + k2 = m + 1 := ⟨n0 + k2 - 1, by have := x.one; omega⟩
  obtain ⟨a, b, c, d, e, f, g⟩ := x
  have hs := compK_take (l := l) (m := m) (by omega)
  simp only [hm, Nat.add_sub_cancel] at he
  rw [if_pos he.symm] at hs
  refine ⟨a, by omega, by omega, ?_, ?_, by omega, g⟩
  · rw [← Nat.add_assoc, hm, hs, ← hm]; exact d
  · rw [← Nat.add_assoc, hm, hs, ← hm]; exact e
theorem CmpI.other {l A : List Key} {n0 k2 k : Nat} (x : CmpI l n0 k2 k A) (h : n0 + k2 < l.length) (he : ¬ l[n0 + k2] = l[n0 + k2 - 1]) : CmpI l n0 (k2 + 1) (k + 1) (A.set k l[n0 + k2]) := by
  obtain ⟨m, hm⟩ : ∃ m, n0 + k2 = m + 1 := ⟨n0 + k2 - 1, by have := x.one; omega⟩
  obtain ⟨a, b, c, d, e, f, g⟩ := x
  have hs := compK_take (l := l) (m := m) (by omega)
  have he' : ¬ l[m] = l[m + 1] := fun hh => he (by simp only [hm, Nat.add_sub_cancel]; exact hh.symm)
  rw [if_neg he'] at hs
  refine ⟨by simp [a], by omega, by omega, ?_, ?_, by omega, fun p hp => ?_⟩
  · rw [← Nat.add_assoc]
    simp only [hm] at d ⊢
    rw [hs, List.length_append, ← d]
    rfl
  · rw [← Nat.add_assoc]
    simp only [hm] at e ⊢
    rw [hs, ← e, List.take_succ_eq_append_getElem (by simp; omega), List.take_set_of_le (Nat.le_refl _)]
    simp
  · rw [List.getElem?_set_ne (by omega)]
    exact g p (by omega)
theorem cl_key : clElem Try.prog 24 = some (2, .agg #[.int .i32 0, .int .i64 0]) := by kernel_rfl
set_option maxHeartbeats 1000000 in
theorem compact_c {h : DHeap} {id c : Nat} {l : List Key} (hr : RowIs fKey h id l) (hok : ∀ x ∈ l, fKey.ok x) (hl : l.length ≤ 1048576) :
    Ct Try.prog 54 [.slice (some ⟨id, 0, none⟩) l.length c] h fun r h1 => ∃ c' cs, r = .ret (.slice (some ⟨id, 0, none⟩) (compK l).length c') ∧ h1 = h.set id (.row cs 2 false) ∧ Sl fKey.rep (fun i => i = id) h1 (.slice (some ⟨id, 0, none⟩) (compK l).length c') (compK l) := by
  refine go_54 (by simp) ?_
  obtain ⟨v, hv⟩ : ∃ v, Value.slice (some ⟨id, 0, none⟩) l.length c = v := ⟨_, rfl⟩
  have el : ∀ K, dLen Try.prog #[24] v K = some (.int .i64 (l.length : Nat)) := fun K => by rw [← hv]; rfl
  have hself : h = h.set id (.row (l.flatMap fKey.enc) 2 false) := (set_self hr).symm
  have done1 : compK l = l → ∃ u, some v = some u ∧ ∃ c' cs, DEnd.ret u = .ret (.slice (some ⟨id, 0, none⟩) (compK l).length c') ∧ h = h.set id (.row cs 2 false) ∧ Sl fKey.rep (fun i => i = id) h (.slice (some ⟨id, 0, none⟩) (compK l).length c') (compK l) := fun e => by
    refine ⟨v, rfl, c, _, by rw [← hv, e], hself, ?_⟩
    have := hr.sl (o := 0) (n := l.length) (c := c) (by omega) hok
    rw [e]
    simpa using this
  by_cases h2 : (l.length : Int) < 2
  · have h2' := eq_true h2
    simp -implicitDefEqProofs (disch:=first|omega|simp only [go_sem,Nat.reduceAdd]) only [go_sem,Int.reduceLT,Int.reduceLE,Int.reduceEq,reduceIte,true_and, c54, hv, el, h2']
    refine done1 ?_
    match l, h2 with
    | [], _ => rfl
    | [_], _ => rfl
    | _ :: _ :: _, h => simp at h; omega
  have hz2 : 2 ≤ l.length := by omega
  have ia : ∀ i : Nat, i < l.length → dIndexAddr Try.prog 24 v (.int .i64 (i : Nat)) = some (.pointer (some ⟨id, i * 2, none⟩)) := fun i hi => by
    rw [← hv]
    refine (dIndexAddr_at el_24 (by omega) (by omega)).trans ?_
    rw [Nat.zero_add, Int.toNat_natCast]
  have slo : ∀ K (A : List Key) (k : Nat), RowIs fKey K id A → k ≤ l.length → ∃ c', dSlice Try.prog 24 v (some (.int .i64 (k : Nat))) none none K = some (.slice (some ⟨id, k * 2, none⟩) (l.length - k) c') := fun K A k r hk => by
    rw [← hv]
    have := dSlice_row (c := c) (o := 0) (n := l.length) el_24 (by decide) r (lo := some (.int .i64 (k : Nat))) (hi := none) (j := l.length) (i := k) rfl (bound_nat (k := .i64) hk)
    rw [Nat.zero_add] at this
    exact ⟨_, this⟩
  have shi : ∀ K cs (k : Nat), K.get id = some (.row cs 2 false) → k ≤ l.length → ∃ c', dSlice Try.prog 24 v none (some (.int .i64 (k : Nat))) none K = some (.slice (some ⟨id, 0, none⟩) k c') := fun K cs k r hk => by
    rw [← hv]
    exact ⟨_, (dSlice_row el_24 (by decide) r (j := k) (i := 0) (bound_nat (k := .i64) hk) rfl)⟩
  have hrr : ∀ A : List Key, RowIs fKey (h.set id (.row (A.flatMap fKey.enc) 2 false)) id A := fun A => RowIs.set rfl
  simp -implicitDefEqProofs (disch:=first|omega|simp only [go_sem,Nat.reduceAdd]) only [go_sem,Int.reduceLT,Int.reduceLE,Int.reduceEq,reduceIte,true_and, c54, hv, el, h2]
  refine xloop (σ := Nat) (by kernel_rfl) (fun j s => s.df = [] ∧ s.rd = none ∧ s.h = h ∧ s.fr 0 = some v ∧ s.fr 3 = some (.int .i64 ((j + 1 : Nat) : Int)) ∧ j + 1 ≤ l.length ∧ compK (l.take (j + 1)) = l.take (j + 1)) (fun j => l.length - j) 0 ?_ ?_
  · simp -implicitDefEqProofs (disch:=first|omega|simp only [go_sem,Nat.reduceAdd]) only [go_sem,Int.reduceLT,Int.reduceLE,Int.reduceEq,reduceIte,true_and]
    refine ⟨rfl, by omega, ?_⟩
    match l, hz2 with
    | x :: y :: _, _ => rfl
  rintro j ⟨fr, df, K, rd⟩ K' hK' hX ⟨rfl, rfl, rfl, f0, f3, hj, hc⟩
  simp only at f0 f3
  simp -implicitDefEqProofs (disch:=first|omega|simp only [go_sem,Nat.reduceAdd]) only [go_sem,Int.reduceLT,Int.reduceLE,Int.reduceEq,reduceIte,true_and, f0, f3, el]
  refine XIf_dec (fun hc1 => ?_) (fun hc1 => ?_)
  · have hjl : j + 1 < l.length := by omega
    have hwm : IntKind.i64.wrap (((j + 1 : Nat) : Int) - 1) = (j : Nat) := by rw [wrap_i64_in (by omega) (by omega)]; omega
    have hw1 := wrap_succ hjl (by omega)
    have k1 := row_key hr hjl
    have k0 := row_key hr (show j < l.length by omega)
    simp -implicitDefEqProofs (disch:=first|omega|simp only [go_sem,Nat.reduceAdd]) only [go_sem,Int.reduceLT,Int.reduceLE,Int.reduceEq,reduceIte,true_and]
    refine dr_54_0 ?_
    by_cases heq : l[j + 1] = l[j]
    case neg =>
      have heqd : decide (l[j + 1] = l[j]) = false := decide_eq_false heq
      simp -implicitDefEqProofs (disch:=first|omega|simp only [go_sem,Nat.reduceAdd]) only [go_sem,Int.reduceLT,Int.reduceLE,Int.reduceEq,reduceIte,true_and, l54_0, f0, f3, hwm, ia _ hjl, ia j (show j < l.length by omega), k0, k1, bin_key', heqd, XStab_nil, hw1]
      refine hK' (j + 1) _ ?_ (by omega)
      refine ⟨by trivial, by trivial, by trivial, (vy f0), vz, by omega, ?_⟩
      rw [compK_take hjl, if_neg (fun e => heq e.symm), hc, List.take_succ_eq_append_getElem hjl]
    have heqd : decide (l[j + 1] = l[j]) = true := decide_eq_true heq
    obtain ⟨c2, hs2⟩ := slo K l (j + 1) hr (by omega)
    simp -implicitDefEqProofs (disch:=first|omega|simp only [go_sem,Nat.reduceAdd]) only [go_sem,Int.reduceLT,Int.reduceLE,Int.reduceEq,reduceIte,true_and, l54_0, f0, f3, hwm, ia _ hjl, ia j (show j < l.length by omega), k0, k1, bin_key', heqd, XStab_nil, hs2]
    obtain ⟨s2, hs2v⟩ : ∃ s2, Value.slice (some ⟨id, (j + 1) * 2, none⟩) (l.length - (j + 1)) c2 = s2 := ⟨_, rfl⟩
    have el2 : ∀ K, dLen Try.prog #[24] s2 K = some (.int .i64 ((l.length - (j + 1) : Nat) : Int)) := fun K => by rw [← hs2v]; rfl
    have ia2 : ∀ i : Nat, j + 1 + i < l.length → dIndexAddr Try.prog 24 s2 (.int .i64 (i : Nat)) = some (.pointer (some ⟨id, (j + 1 + i) * 2, none⟩)) := fun i hi => by
      rw [← hs2v]
      refine (dIndexAddr_at el_24 (by omega) (by omega)).trans ?_
      rw [Nat.add_mul (j + 1), Int.toNat_natCast]
    rw [hs2v]
    refine xloop (σ := Nat) (by kernel_rfl) (fun i s => s.df = [] ∧ s.rd = none ∧ s.fr 0 = some v ∧ s.fr 4 = some s2 ∧ s.fr 5 = some (.int .i64 (i : Nat)) ∧ ∃ k A, s.fr 3 = some (.int .i64 (k : Nat)) ∧ s.h = K.set id (.row (A.flatMap fKey.enc) 2 false) ∧ CmpI l (j + 1) i k A) (fun i => l.length - i) 1 ?_ ?_
    · simp -implicitDefEqProofs (disch:=first|omega|simp only [go_sem,Nat.reduceAdd]) only [go_sem,Int.reduceLT,Int.reduceLE,Int.reduceEq,reduceIte,true_and, f0, f3]
      exact ⟨rfl, _, l, rfl, hself, .first hjl heq.symm hc⟩
    clear f0 f3
    rintro i ⟨fr, df, M, rd⟩ K2' hK2 hX2 ⟨rfl, rfl, f0, f4, f5, k, A, f3, hM, x⟩
    simp only at f0 f4 f5 f3 hM
    subst hM
    have hrA := hrr A
    have xle := x.le
    have xone := x.one
    simp -implicitDefEqProofs (disch:=first|omega|simp only [go_sem,Nat.reduceAdd]) only [go_sem,Int.reduceLT,Int.reduceLE,Int.reduceEq,reduceIte,true_and, f4, f5, el2]
    refine XIf_dec (fun hc2 => ?_) (fun hc2 => ?_)
    · have hil : j + 1 + i < l.length := by omega
      obtain ⟨hA1, hA0, eA1, eA0⟩ := x.at hil
      have k1 := row_key hrA hA1
      have k0 := row_key hrA hA0
      rw [eA1] at k1
      rw [eA0] at k0
      have hwm2 : IntKind.i64.wrap (((i : Nat) : Int) - 1) = ((i - 1 : Nat) : Int) := by rw [wrap_i64_in (by omega) (by omega)]; omega
      have hw2 := wrap_succ (i := i) (show i < l.length by omega) (by omega)
      have hia1 := ia2 i hil
      have hia0 := ia2 (i - 1) (by omega)
      rw [show j + 1 + (i - 1) = j + 1 + i - 1 by omega] at hia0
      simp -implicitDefEqProofs (disch:=first|omega|simp only [go_sem,Nat.reduceAdd]) only [go_sem,Int.reduceLT,Int.reduceLE,Int.reduceEq,reduceIte,true_and]
      refine dr_54_1 ?_
      by_cases he2 : l[j + 1 + i] = l[j + 1 + i - 1]
      · have heqd2 : decide (l[j + 1 + i] = l[j + 1 + i - 1]) = true := decide_eq_true he2
        simp -implicitDefEqProofs (disch:=first|omega|simp only [go_sem,Nat.reduceAdd]) only [go_sem,Int.reduceLT,Int.reduceLE,Int.reduceEq,reduceIte,true_and, l54_1, f4, f5, hwm2, hia1, hia0, k0, k1, bin_key, heqd2, Bool.not_true, XStab_nil, hw2]
        refine hK2 (i + 1) _ ?_ (by omega)
        exact ⟨by trivial, by trivial, (vy f0), (vy f4), vz, k, A, (vy f3), by trivial, x.same hil he2⟩
      · have heqd2 : decide (l[j + 1 + i] = l[j + 1 + i - 1]) = false := decide_eq_false he2
        have xlt := x.lt
        have xlen := x.len
        have hst : storeAt (K.set id (.row (A.flatMap fKey.enc) 2 false)) id (k * 2) [.int .i32 l[j + 1 + i].t, .int .i64 l[j + 1 + i].r] = some (K.set id (.row ((A.set k l[j + 1 + i]).flatMap fKey.enc) 2 false)) :=
          (hrA.store (show k < A.length by omega) l[j + 1 + i]).trans (congrArg some (set_set _ _ _ _))
        have hw3 := wrap_succ (i := k) (show k < l.length by omega) (by omega)
        simp -implicitDefEqProofs (disch:=first|omega|simp only [go_sem,Nat.reduceAdd]) only [go_sem,Int.reduceLT,Int.reduceLE,Int.reduceEq,reduceIte,true_and, l54_1, f0, f3, f4, f5, hwm2, hia1, hia0, ia k (show k < l.length by omega), k0, k1, bin_key, heqd2, Bool.not_false, XStab_nil, hw2, hst, hw3]
        refine hK2 (i + 1) _ ?_ (by omega)
        exact ⟨by trivial, by trivial, (vy f0), (vy f4), vz, k + 1, A.set k l[j + 1 + i], vz, by trivial, x.other hil he2⟩
    · have hil : j + 1 + i = l.length := by omega
      have xlt := x.lt
      have xlen := x.len
      have xk := x.kk
      have xhd := x.hd
      rw [hil, List.take_length] at xk xhd
      obtain ⟨c3, hs3⟩ := slo _ A k hrA (by omega)
      obtain ⟨zs, hzs, hcl⟩ := dClear_row (esz := 2) (n := l.length - k) (c := c3) (o := k * 2) cl_key rfl hrA (by rw [flatMap_len]; show _ ≤ A.length * 2; omega)
      rw [set_set] at hcl
      obtain ⟨c4, hs4⟩ := shi (K.set id (.row (setAt (A.flatMap fKey.enc) (k * 2) zs) 2 false)) _ k (get_set_same _ _) (by omega)
      refine hX2 _ _ (by simp) ?_
      simp -implicitDefEqProofs (disch:=first|omega|simp only [go_sem,Nat.reduceAdd]) only [go_sem,Int.reduceLT,Int.reduceLE,Int.reduceEq,reduceIte,true_and, f0, f3, hs3, hcl, hs4]
      refine hX _ _ (by simp) ?_
      simp -implicitDefEqProofs (disch:=first|omega|simp only [go_sem,Nat.reduceAdd]) only [go_sem,Int.reduceLT,Int.reduceLE,Int.reduceEq,reduceIte,true_and]
      refine ⟨_, rfl, c4, _, by rw [← xk], rfl, ?_⟩
      rw [← xk]
      refine sl_head (cs := A.flatMap fKey.enc) (zs := zs) (get_set_same _ _) xk (by rw [flatMap_len]; show k * 2 ≤ A.length * 2; omega) ?_ fun y hy => hok y (mem_compK.1 hy)
      have hAk : A.flatMap fKey.enc = (A.take k).flatMap fKey.enc ++ (A.drop k).flatMap fKey.enc := by rw [← List.flatMap_append, List.take_append_drop]
      have hlk : k * fKey.z = ((A.take k).flatMap fKey.enc).length := by rw [flatMap_len]; simp [Nat.min_eq_left (show k ≤ A.length by omega)]
      rw [hAk, hlk, List.take_left, xhd]
  · have : j + 1 = l.length := by omega
    rw [this, List.take_length] at hc
    refine hX _ _ (by simp) ?_
    simp -implicitDefEqProofs (disch:=first|omega|simp only [go_sem,Nat.reduceAdd]) only [go_sem,Int.reduceLT,Int.reduceLE,Int.reduceEq,reduceIte,true_and, f0]
    exact done1 hc
end Go.Proofs.Ytbdljpndncohaaa

namespace Go.Proofs.Ytbdljpndncohaaa
open Go.D
open Go.Sort
set_option maxRecDepth 100000

theorem compact_0 {h : DHeap} {v : Value} (hb : Arg fKey.rep h v []) : Ct Try.prog 54 [v] h fun r h1 => r = .ret v ∧ h1 = h := by
  refine go_54 (by simp) ?_
  have el : ∀ K, dLen Try.prog #[24] v K = some (.int .i64 ((([] : List Key).length : Nat) : Int)) := hb.lens (P := Try.prog) (ts := #[24]) (t := 24) rfl isl_24
  have h0 : (((0 : Nat) : Int) < 2) = True := eq_true (by decide)
  simp -implicitDefEqProofs (disch:=first|omega|simp only [go_sem,Nat.reduceAdd]) only [go_sem,Int.reduceLT,Int.reduceLE,Int.reduceEq,reduceIte,true_and, c54, el, List.length_nil, h0]
  exact ⟨_, rfl, rfl, trivial⟩
theorem ltOf_key : ltOf keyCmp = keyLt := by
  funext a b
  exact keyCmp_neg a b
theorem enters_cmp : ∀ args w, (callFunc 53 args).run Try.prog w = .ok (.enter 53 args) w := enters_of Try.func53 (by kernel_rfl) rfl
theorem keys_c {h : DHeap} {v : Value} {l : List Key} (hb : Arg fKey.rep h v l) (hl : l.length ≤ 1048576) :
    Ct Try.prog 38 [v] h fun r h1 => ∃ w, r = .ret w ∧ Ext h h1 ∧ Sl fKey.rep (Fresh h h1) h1 w (keysN l) := by
  refine go_38 (by simp) ?_
  have m := clone_made (h := h) hb
  simp -implicitDefEqProofs (disch:=first|omega|simp only [go_sem,Nat.reduceAdd]) only [go_sem,Int.reduceLT,Int.reduceLE,Int.reduceEq,reduceIte,true_and, c38]
  refine ncall (clone_keys hb (by omega)) ?_
  by_cases h0 : l = []
  · subst h0
    simp -implicitDefEqProofs (disch:=first|omega|simp only [go_sem,Nat.reduceAdd]) only [go_sem,Int.reduceLT,Int.reduceLE,Int.reduceEq,reduceIte,true_and]
    refine ncall_ct (sort_0 m.arg) ?_
    rintro r h1 ⟨rfl, rfl⟩
    simp -implicitDefEqProofs (disch:=first|omega|simp only [go_sem,Nat.reduceAdd]) only [go_sem,Int.reduceLT,Int.reduceLE,Int.reduceEq,reduceIte,true_and]
    refine ncall_ct (compact_0 m.arg) ?_
    rintro r h1 ⟨rfl, rfl⟩
    simp -implicitDefEqProofs (disch:=first|omega|simp only [go_sem,Nat.reduceAdd]) only [go_sem,Int.reduceLT,Int.reduceLE,Int.reduceEq,reduceIte,true_and, XEnd]
    exact ⟨_, rfl, _, rfl, m.ext, m.sl⟩
  · have hnn : isNilV v = false := by
      cases hn : isNilV v with
      | false => rfl
      | true => exact absurd (isNilV_nil hb hn).2 h0
    have e1 : cloneV h v l = .slice (some ⟨h.next, 0, none⟩) l.length (l.length + 1) := by rw [cloneV, hnn]; rfl
    have e2 : cloneH fKey h v l = h.push (.row (l.flatMap fKey.enc) 2 false) := by rw [cloneH, hnn]; rfl
    have hok := hb.ok
    obtain ⟨K, hK⟩ : ∃ K, h.push (.row (l.flatMap fKey.enc) 2 false) = K := ⟨_, rfl⟩
    have hg : K.get h.next = some (.row (l.flatMap fKey.enc) 2 false) := by rw [← hK]; exact get_push_same _ _
    have hE : Ext h K := by rw [← hK]; exact Ext.push1 _ _
    have hKn : K.next = h.next + 1 := by rw [← hK]; rfl
    have hlen : 0 < l.length := List.length_pos_iff.2 h0
    have ht : (l.flatMap fKey.enc).take (l.length * 2) = l.flatMap fKey.enc := List.take_of_length_le (by rw [flatMap_len]; exact Nat.le_refl _)
    rw [e1, e2, hK]
    simp -implicitDefEqProofs (disch:=first|omega|simp only [go_sem,Nat.reduceAdd]) only [go_sem,Int.reduceLT,Int.reduceLE,Int.reduceEq,reduceIte,true_and]
    refine ncall_ct (sort_ct (F := fKey) (k := 2) rfl sortKey Try.isAgg54 Try.sizeOf54 (cf := keyCmp) (ltOf_key ▸ keyLt_swo) enters_cmp (fun x y => compare_c) (o := 0) (esz := 2) hg hlen (by rw [flatMap_len, Nat.zero_add]; exact Nat.le_refl _) ht (by omega)) ?_
    rintro r h1 ⟨rfl, l', hp, hs, rfl⟩
    have hl' : l'.length = l.length := hp.length_eq
    have e3 : setAt (l.flatMap fKey.enc) 0 (l'.flatMap fKey.enc) = l'.flatMap fKey.enc := by
      have := setAt_over (l'.flatMap fKey.enc) (l.flatMap fKey.enc) [] (by rw [flatMap_len, flatMap_len, hl'])
      simpa using this
    rw [e3]
    simp -implicitDefEqProofs (disch:=first|omega|simp only [go_sem,Nat.reduceAdd]) only [go_sem,Int.reduceLT,Int.reduceLE,Int.reduceEq,reduceIte,true_and]
    have hr : RowIs fKey (K.set h.next (.row (l'.flatMap fKey.enc) 2 false)) h.next l' := RowIs.set rfl
    have cc := compact_c (c := l.length + 1) hr (fun x hx => hok x (hp.mem_iff.1 hx)) (by omega)
    rw [hl'] at cc
    refine ncall_ct cc ?_
    rintro r h1 ⟨c', cs, rfl, rfl, hsl⟩
    simp -implicitDefEqProofs (disch:=first|omega|simp only [go_sem,Nat.reduceAdd]) only [go_sem,Int.reduceLT,Int.reduceLE,Int.reduceEq,reduceIte,true_and, XEnd]
    rw [ltOf_key] at hs
    rw [keys_same hp (sorted_list hl'.symm hs)] at hsl
    rw [keys_same hp (sorted_list hl'.symm hs)]
    refine ⟨_, rfl, _, rfl, (hE.set (by omega)).set (by omega), hsl.mono fun i hi => ⟨⟨by omega, ?_⟩, rfl⟩⟩
    subst hi
    show h.next < K.next
    omega
end Go.Proofs.Ytbdljpndncohaaa

namespace Go.D
variable {P : Program} {nt : Nat}

def RegU (U : Nat → DHeap → Prop) (E : DHeap → DHeap → Prop) (V : Nat → DHeap → Value → Prop) (cons : Nat → Option Nat) (b : List Nat) (i : Nat) (o : Oper) (s s' : St) : Prop :=
  ∃ v h', s' = ⟨s.fr.put o.dst v, s.df, h', s.rd⟩ ∧ E s.h h' ∧ V i h' v ∧ (∀ j u, j ≠ i → (b.getD j 0).testBit i = false → (∀ c, cons j = some c → c ≠ i ∧ (b.getD i 0).testBit c = false) → V j s.h u → V j h' u) ∧ ∀ j, j ≠ i → (b.getD i 0).testBit j = false → U j s.h → U j h'
theorem NC.regsU {id : Nat} {ops : Array Oper} {l : List Oper} {b : List Nat} {Q : DExit → St → Prop} {s0 : St} (hmix : P.follows .mixedOrders = true) (hd : dstsOK nt ops = true) (hlow : lowOK ops = true) (hb : befs ops.toList [] = b) (hl : ops.map stripO = l.toArray) (hown : onceDsts l = true)
    (E : DHeap → DHeap → Prop) (hrefl : ∀ h, E h h) (htrans : ∀ a b c, E a b → E b c → E a c) (V : Nat → DHeap → Value → Prop) (cons : Nat → Option Nat) (U : Nat → DHeap → Prop) (hU0 : ∀ j, U j s0.h)
    (hstep : ∀ (i : Nat) (o : Oper) (s : St), l[i]? = some o → RegG l E s0 s → (∀ j t, dstOf l j = some t → (b.getD j 0).testBit i = true → s.fr t = s0.fr t) → (∀ t, dstOf l i = some t → s.fr t = s0.fr t) → (∀ j, (b.getD i 0).testBit j = true → (cons j = none ∨ cons j = some i) → RegAt l V j s) → (∀ j, (j = i ∨ (b.getD j 0).testBit i = true) → U j s.h) → NOne P l.toArray o s (RegU U E V cons b i o s) Q)
    (hfin : ∀ s, RegG l E s0 s → (∀ i, i < l.length → cons i = none → RegAt l V i s) → Q .normal s) : NC P nt (.region id ops true) Q s0 := by
  subst hb
  have hsz : ops.size = l.length := by
    have := congrArg Array.size hl
    simpa using this
  have hat : ∀ {i : Nat} {o : Oper}, ops[i]? = some o → l[i]? = some (stripO o) := fun {i o} ho => by
    have := congrArg (fun a : Array Oper => a[i]?) hl
    simp only [Array.getElem?_map, ho, Option.map_some] at this
    simpa using this.symm
  refine NC.any hmix hd (lowOK_spec hlow) (fun L s => RegG l E s0 s ∧ (∀ i, L i = true → i < ops.size) ∧ (∀ (i : Nat) o, L i = true → ops[i]? = some o → ∀ p ∈ preds o, L p = true) ∧ (∀ i, L i = true → (∀ c, cons i = some c → L c = false) → RegAt l V i s) ∧ (∀ j t, dstOf l j = some t → L j = false → s.fr t = s0.fr t) ∧ ∀ j, L j = false → U j s.h)
    ⟨⟨rfl, rfl, hrefl _, fun _ _ => rfl⟩, by simp, by simp, by simp, fun _ _ _ _ => rfl, fun j _ => hU0 j⟩ ?_ (fun L s hI hall => hfin s hI.1 fun i hi hc => hI.2.2.2.1 i (hall i (by omega)) fun c hc2 => by rw [hc] at hc2; cases hc2)
  rintro L s i o ⟨hG, hsz', hdn, hF, hpre, hUn⟩ ho hn hp
  have hi := (Array.getElem?_eq_some_iff.1 ho).1
  have hcl : ∀ (k : Nat) o, ops[k]? = some o → (∀ p ∈ preds o, L p = true) → ∀ j, ((befs ops.toList []).getD k 0).testBit j = true → L j = true := fun k o ho hp j hj =>
    bef_closed (D := fun j => L j = true) (fun i o hi ho p hp => hdn i o hi ho p hp) k o ho hp j hj
  have hlate : ∀ j, ((befs ops.toList []).getD j 0).testBit i = true → L j = false := fun j hbit => by
    cases hL : L j with
    | false => rfl
    | true =>
      have hjs := hsz' j hL
      have hoj := Array.getElem?_eq_getElem hjs
      have := hcl j _ hoj (hdn j _ hL hoj) i hbit
      rw [hn] at this
      cases this
  have hx := hstep i (stripO o) s (hat ho) hG (fun j t hj hbit => hpre j t hj (hlate j hbit)) (fun t ht => hpre i t ht hn) (fun j hj hc => hF j (hcl i o ho hp j hj) fun c hc2 => by
      rcases hc with hc | hc <;> rw [hc] at hc2 <;> cases hc2
      exact hn) (fun j hj => hUn j (by
      rcases hj with rfl | hj
      · exact hn
      · exact hlate j hj))
  have fin : ∀ s', RegU U E V cons (befs ops.toList []) i (stripO o) s s' →
      (RegG l E s0 s' ∧ (∀ j, (if j = i then true else L j) = true → j < ops.size) ∧ (∀ (j : Nat) o, (if j = i then true else L j) = true → ops[j]? = some o → ∀ p ∈ preds o, (if p = i then true else L p) = true) ∧ (∀ j, (if j = i then true else L j) = true → (∀ c, cons j = some c → (if c = i then true else L c) = false) → RegAt l V j s') ∧ (∀ j t, dstOf l j = some t → (if j = i then true else L j) = false → s'.fr t = s0.fr t) ∧ ∀ j, (if j = i then true else L j) = false → U j s'.h) := by
    rintro _ ⟨v, h', rfl, he, hv, hst, hUs⟩
    have hdst : dstOf l i = o.dst := by simp [dstOf, hat ho, stripO]
    have hput : ∀ t, o.dst ≠ some t → s.fr.put o.dst v t = s.fr t := fun t ht => by
      cases hod : o.dst with
      | none => rfl
      | some d => exact put_other _ _ (fun e => ht (by rw [hod, e]))
    refine ⟨⟨hG.df, hG.rd, htrans _ _ _ hG.ext he, fun t ht => ?_⟩, fun j hj => ?_, fun j oj hj hoj p hpm => ?_, fun j hj hcj => ?_, fun j t hj hLj => ?_, fun j hLj => ?_⟩
    · have : o.dst ≠ some t := fun e => by
        have hc : isDst l t = true := List.any_eq_true.2 ⟨stripO o, List.mem_of_getElem? (hat ho), by show (o.dst == some t) = true; rw [e]; simp⟩
        rw [ht] at hc; cases hc
      exact (hput t this).trans (hG.fr t ht)
    · by_cases hji : j = i
      · rw [hji]; exact hi
      · rw [if_neg hji] at hj; exact hsz' j hj
    · by_cases hpi : p = i
      · rw [if_pos hpi]
      · rw [if_neg hpi]
        by_cases hji : j = i
        · subst hji; rw [ho] at hoj; cases hoj; exact hp p hpm
        · rw [if_neg hji] at hj; exact hdn j oj hj hoj p hpm
    · by_cases hji : j = i
      · subst hji
        refine ⟨v, fun d hd => ?_, hv⟩
        rw [hdst] at hd
        show s.fr.put o.dst v d = _
        rw [hd]
        exact put_same _ _ _
      · rw [if_neg hji] at hj
        obtain ⟨u, h1, h2⟩ := hF j hj fun c hc => by
          have := hcj c hc
          by_cases hci : c = i
          · rw [if_pos hci] at this; cases this
          · rwa [if_neg hci] at this
        have hbj : ((befs ops.toList []).getD j 0).testBit i = false := by
          cases hbit : ((befs ops.toList []).getD j 0).testBit i with
          | false => rfl
          | true =>
            have hoj := Array.getElem?_eq_getElem (hsz' j hj)
            have := hcl j _ hoj (hdn j _ hj hoj) i hbit
            rw [hn] at this
            cases this
        refine ⟨u, fun d hd => ?_, hst j u hji hbj (fun c hc => by
          have h3 := hcj c hc
          by_cases hci : c = i
          · rw [if_pos hci] at h3; cases h3
          · rw [if_neg hci] at h3
            refine ⟨hci, ?_⟩
            cases hbit : ((befs ops.toList []).getD i 0).testBit c with
            | false => rfl
            | true => rw [hcl i o ho hp c hbit] at h3; cases h3) h2⟩
        have hne : o.dst ≠ some d := fun e => by
          have hjs := hsz' j hj
          have hoj := hat (Array.getElem?_eq_getElem hjs)
          have hd2 : (stripO ops[j]).dst = some d := by simpa [dstOf, hoj] using hd
          exact hji (onceDsts_ne hown hoj (hat ho) hd2 e)
        exact (hput d hne).trans (h1 d hd)
    · by_cases hji : j = i
      · rw [if_pos hji] at hLj; cases hLj
      · rw [if_neg hji] at hLj
        have hne : o.dst ≠ some t := fun e => by
          unfold dstOf at hj
          cases hlj : l[j]? with
          | none => rw [hlj] at hj; cases hj
          | some oj =>
            rw [hlj] at hj
            exact hji (onceDsts_ne hown hlj (hat ho) (by simpa using hj) e)
        exact (hput t hne).trans (hpre j t hj hLj)
    · by_cases hji : j = i
      · rw [if_pos hji] at hLj; cases hLj
      · rw [if_neg hji] at hLj
        refine hUs j hji ?_ (hUn j hLj)
        cases hbit : ((befs ops.toList []).getD i 0).testBit j with
        | false => rfl
        | true => rw [hcl i o ho hp j hbit] at hLj; cases hLj
  rw [← hl, NOne_strip] at hx
  unfold NOne at hx ⊢
  cases hw : dWanted ops s.fr o with
  | none => rw [hw] at hx; exact hx.elim
  | some bb =>
    rw [hw] at hx
    cases bb with
    | false => exact fin _ hx
    | true => exact NNext_mono fin (fun _ _ h => h) hx
section
variable {ops : Array Oper} {o : Oper} {s : St} {E : DHeap → DHeap → Prop} {V : Nat → DHeap → Value → Prop} {cons : Nat → Option Nat} {U : Nat → DHeap → Prop} {b : List Nat} {i : Nat} {Q : DExit → St → Prop} {v : Value} {h' : DHeap}
theorem regu_pure (hE : ∀ h, E h h) (hw : dWanted ops s.fr o = some true) (hop : dOp P (evalF s.h.ng s.fr) o s.h = .ok (.value v) s.h) (hV : V i s.h v) : NOne P ops o s (RegU U E V cons b i o s) Q :=
  NOne_val hw hop ⟨v, _, rfl, hE _, hV, fun _ _ _ _ _ h => h, fun _ _ _ h => h⟩
theorem regu_store (hw : dWanted ops s.fr o = some true) (hop : dOp P (evalF s.h.ng s.fr) o s.h = .ok .skip h') (he : E s.h h') (hV : V i h' undef) (hst : ∀ j u, j ≠ i → (b.getD j 0).testBit i = false → (∀ c, cons j = some c → c ≠ i ∧ (b.getD i 0).testBit c = false) → V j s.h u → V j h' u) (hUs : ∀ j, j ≠ i → (b.getD i 0).testBit j = false → U j s.h → U j h') : NOne P ops o s (RegU U E V cons b i o s) Q :=
  NOne_skip hw hop ⟨undef, _, rfl, he, hV, hst, hUs⟩
theorem regu_ct {f : FuncId} {args : List Value} {R : DEnd → DHeap → Prop} (hw : dWanted ops s.fr o = some true) (hop : dOp P (evalF s.h.ng s.fr) o s.h = .ok (.enter f args) s.h) (hc : Ct P f args s.h R) (hV : ∀ r h2, R r h2 → ∃ v, r = .ret v ∧ E s.h h2 ∧ V i h2 v ∧ (∀ j u, j ≠ i → (b.getD j 0).testBit i = false → (∀ c, cons j = some c → c ≠ i ∧ (b.getD i 0).testBit c = false) → V j s.h u → V j h2 u) ∧ ∀ j, j ≠ i → (b.getD i 0).testBit j = false → U j s.h → U j h2) : NOne P ops o s (RegU U E V cons b i o s) Q :=
  NOne_call hw hop hc fun r h2 hR => by
    obtain ⟨v, e1, e2, e3, e4⟩ := hV r h2 hR
    subst e1
    exact ⟨v, _, rfl, e2, e3, e4⟩
end
end Go.D

namespace Go.Proofs.Ytbdljpndncohaaa
open Go.D
set_option maxRecDepth 100000

/-- all but one box is as it was -/
structure Keep (B : Nat) (K0 K : DHeap) : Prop where
  next : K0.next ≤ K.next
  ng : K.ng = K0.ng
  get : ∀ i, i < K0.next → i ≠ B → K.get i = K0.get i
theorem Keep.ext {B : Nat} {K0 K K1 : DHeap} (k : Keep B K0 K) (e : Ext K K1) : Keep B K0 K1 :=
  ⟨Nat.le_trans k.next e.next, e.ng.trans k.ng, fun i hi hb => (e.get i (Nat.lt_of_lt_of_le hi k.next)).trans (k.get i hi hb)⟩
theorem Keep.set {B : Nat} {K0 K : DHeap} (k : Keep B K0 K) (o : DObj) : Keep B K0 (K.set B o) :=
  ⟨k.next, k.ng, fun i hi hb => (get_set_other _ _ hb).trans (k.get i hi hb)⟩
theorem Keep.toExt {B : Nat} {h K0 K : DHeap} (k : Keep B K0 K) (e : Ext h K0) (hB : h.next ≤ B) : Ext h K :=
  ⟨Nat.le_trans e.next k.next, k.ng.trans e.ng, fun i hi => (k.get i (Nat.lt_of_lt_of_le hi e.next) (by omega)).trans (e.get i hi)⟩
theorem refKeys_c' {h : DHeap} {v : Value} {l : List Key} (hb : Arg fKey.rep h v l) (hl : l.length ≤ 1048576) :
    Ct Try.prog 39 [v] h fun r h1 => ∃ w, r = .ret w ∧ Ext h h1 ∧ Sl fKey.rep (Fresh h h1) h1 w (keysN l) :=
  (refKeys_c hb hl).mono fun r h1 => by
    rintro ⟨w, e, m⟩
    exact ⟨w, e, m.ext, m.sl⟩
/-- the row of a transaction's box -/
abbrev TxRow (K : DHeap) (B : Nat) (a b : Int) (vc va x y : Value) : Prop := K.get B = some (.row [.int .i64 a, .int .i64 b, vc, va, x, y] 0 false)
structure NrmG (B : Nat) (a b : Int) (vc va : Value) (K0 K : DHeap) : Prop where
  keep : Keep B K0 K
  row : ∃ x y, TxRow K B a b vc va x y
def NrmV (B : Nat) (vr vw : Value) (lr lw : List Key) (K0 : DHeap) (k : Nat) (h : DHeap) (v : Value) : Prop :=
  match k with
  | 0 => v = .pointer (some ⟨B, 4, none⟩)
  | 1 => v = vr
  | 2 => Sl fKey.rep (fun i => K0.next ≤ i ∧ i < h.next) h v lr
  | 3 => v = .pointer (some ⟨B, 5, none⟩)
  | 4 => v = vw
  | 5 => Sl fKey.rep (fun i => K0.next ≤ i ∧ i < h.next) h v lw
  | 6 => v = .pointer (some ⟨B, 4, none⟩)
  | 7 => ∃ w, cellAt h B 4 = some w ∧ Sl fKey.rep (fun i => K0.next ≤ i ∧ i < h.next) h w lr
  | 8 => v = .pointer (some ⟨B, 5, none⟩)
  | 9 => ∃ w, cellAt h B 5 = some w ∧ Sl fKey.rep (fun i => K0.next ≤ i ∧ i < h.next) h w lw
  | _ => True
def NrmU (B : Nat) (vr vw : Value) (k : Nat) (h : DHeap) : Prop :=
  match k with
  | 7 => cellAt h B 4 = some vr
  | 9 => cellAt h B 5 = some vw
  | _ => True
theorem cellAt_ext {h h1 : DHeap} {B o : Nat} (e : Ext h h1) (hB : B < h.next) : cellAt h1 B o = cellAt h B o := by
  unfold cellAt
  rw [e.get _ hB]
theorem slf_ext {h h1 : DHeap} {n : Nat} {v : Value} {l : List Key} (e : Ext h h1) (x : Sl fKey.rep (fun i => n ≤ i ∧ i < h.next) h v l) : Sl fKey.rep (fun i => n ≤ i ∧ i < h1.next) h1 v l :=
  x.mono fun i hi => ⟨⟨hi.1, Nat.lt_of_lt_of_le hi.2 e.next⟩, e.get i hi.2⟩
theorem NrmV.ext {B : Nat} {vr vw : Value} {lr lw : List Key} {K0 h h1 : DHeap} {k : Nat} {v : Value} (e : Ext h h1) (hB : B < h.next) (x : NrmV B vr vw lr lw K0 k h v) : NrmV B vr vw lr lw K0 k h1 v := by
  unfold NrmV at *
  split at x
  · exact x
  · exact x
  · exact slf_ext e x
  · exact x
  · exact x
  · exact slf_ext e x
  · exact x
  · obtain ⟨w, a, b⟩ := x
    exact ⟨w, (cellAt_ext e hB).trans a, slf_ext e b⟩
  · exact x
  · obtain ⟨w, a, b⟩ := x
    exact ⟨w, (cellAt_ext e hB).trans a, slf_ext e b⟩
  · trivial
theorem NrmU.ext {B : Nat} {vr vw : Value} {h h1 : DHeap} {k : Nat} (e : Ext h h1) (hB : B < h.next) (x : NrmU B vr vw k h) : NrmU B vr vw k h1 := by
  unfold NrmU at *
  split at x
  · exact (cellAt_ext e hB).trans x
  · exact (cellAt_ext e hB).trans x
  · trivial
theorem slf_set {h : DHeap} {n B : Nat} {o : DObj} {v : Value} {l : List Key} (hB : B < n) (x : Sl fKey.rep (fun i => n ≤ i ∧ i < h.next) h v l) : Sl fKey.rep (fun i => n ≤ i ∧ i < (h.set B o).next) (h.set B o) v l :=
  x.mono fun i hi => ⟨hi, get_set_other _ _ (by omega)⟩
theorem NrmV.set {B p : Nat} {vr vw : Value} {lr lw : List Key} {K0 h : DHeap} {k : Nat} {v : Value} {R : List Value} (hB : B < K0.next) (hp : k = 7 → R[4]? = cellAt h B 4) (hq : k = 9 → R[5]? = cellAt h B 5) (x : NrmV B vr vw lr lw K0 k h v) : NrmV B vr vw lr lw K0 k (h.set B (.row R 0 false)) v := by
  unfold NrmV at *
  split at x
  · exact x
  · exact x
  · exact slf_set hB x
  · exact x
  · exact x
  · exact slf_set hB x
  · exact x
  · obtain ⟨w, a, b⟩ := x
    exact ⟨w, by rw [cellAt_row (get_set_same _ _), hp rfl]; exact a, slf_set hB b⟩
  · exact x
  · obtain ⟨w, a, b⟩ := x
    exact ⟨w, by rw [cellAt_row (get_set_same _ _), hq rfl]; exact a, slf_set hB b⟩
  · trivial
theorem NrmU.set {B : Nat} {vr vw : Value} {h : DHeap} {k : Nat} {R : List Value} (hp : k = 7 → R[4]? = cellAt h B 4) (hq : k = 9 → R[5]? = cellAt h B 5) (x : NrmU B vr vw k h) : NrmU B vr vw k (h.set B (.row R 0 false)) := by
  unfold NrmU at *
  split at x
  · rw [cellAt_row (get_set_same _ _), hp rfl]; exact x
  · rw [cellAt_row (get_set_same _ _), hq rfl]; exact x
  · trivial
set_option maxHeartbeats 1000000 in
theorem nrm_region {K0 : DHeap} {B : Nat} {a b : Int} {vc va vr vw : Value} {lr lw : List Key} {fr : Fr} {rd : Option Nat} (hB : B < K0.next) (f1 : fr 1 = some (.pointer (some ⟨B, 0, none⟩))) (hrow : TxRow K0 B a b vc va vr vw)
    (hr : Sl fKey.rep (fun i => i < K0.next ∧ i ≠ B) K0 vr lr) (hw : Sl fKey.rep (fun i => i < K0.next ∧ i ≠ B) K0 vw lw) (hlr : lr.length ≤ 1048576) (hlw : lw.length ≤ 1048576) :
    NC Try.prog 14 r20_0 (DThen (fun s => s.df = [] ∧ s.rd = rd ∧ s.fr 1 = fr 1 ∧ s.fr 2 = fr 2 ∧ Keep B K0 s.h ∧ ∃ x y, TxRow s.h B a b vc va x y ∧ Sl fKey.rep (fun i => K0.next ≤ i ∧ i < s.h.next) s.h x (keysN lr) ∧ Sl fKey.rep (fun i => K0.next ≤ i ∧ i < s.h.next) s.h y (keysN lw)) (fun _ _ => False)) ⟨fr, [], K0, rd⟩ := by
  refine NC.regsU (l := l20_0) (by kernel_rfl) (by kernel_rfl) (by kernel_rfl) rfl (by kernel_rfl) (by kernel_rfl) (fun p q => NrmG B a b vc va K0 p → NrmG B a b vc va K0 q) (fun _ h => h) (fun _ _ _ f g h => g (f h)) (NrmV B vr vw (keysN lr) (keysN lw) K0) (fun _ => none) (NrmU B vr vw) ?_ ?_ ?_
  · intro j
    unfold NrmU
    split
    · exact cellAt_row hrow
    · exact cellAt_row hrow
    · trivial
  case refine_3 =>
    rintro ⟨fr1, df1, K, rd1⟩ g hF
    have gg := g.ext ⟨⟨Nat.le_refl _, rfl, fun _ _ _ => rfl⟩, _, _, hrow⟩
    obtain ⟨_, x, x1, x2⟩ := (hF 7 (by decide) rfl).fact
    obtain ⟨_, y, y1, y2⟩ := (hF 9 (by decide) rfl).fact
    obtain ⟨p, q, hpq⟩ := gg.row
    rw [cellAt_row hpq] at x1 y1
    cases x1
    cases y1
    exact ⟨g.df, g.rd, g.fr 1 (by kernel_rfl), g.fr 2 (by kernel_rfl), gg.keep, _, _, hpq, x2, y2⟩
  intro k oo s ho g hpre hown hF hU
  have gg := g.ext ⟨⟨Nat.le_refl _, rfl, fun _ _ _ => rfl⟩, _, _, hrow⟩
  have hBs : B < s.h.next := Nat.lt_of_lt_of_le hB gg.keep.next
  have F1 : s.fr 1 = some (.pointer (some ⟨B, 0, none⟩)) := (g.fr 1 (by kernel_rfl)).trans f1
  have onCall : ∀ {r h1} {l : List Key}, (∃ w, r = DEnd.ret w ∧ Ext s.h h1 ∧ Sl fKey.rep (Fresh s.h h1) h1 w l) → ∃ v, r = .ret v ∧ (NrmG B a b vc va K0 s.h → NrmG B a b vc va K0 h1) ∧ Sl fKey.rep (fun i => K0.next ≤ i ∧ i < h1.next) h1 v l ∧ Ext s.h h1 := fun {r h1 l} hx => by
    obtain ⟨w, e1, e2, e3⟩ := hx
    refine ⟨w, e1, fun gx => ⟨gx.keep.ext e2, ?_⟩, e3.mono fun i hi => ⟨⟨Nat.le_trans gg.keep.next hi.1, hi.2⟩, rfl⟩, e2⟩
    obtain ⟨x, y, hxy⟩ := gx.row
    exact ⟨x, y, (e2.get _ hBs).trans hxy⟩
  have hk' : k < 10 := (List.getElem?_eq_some_iff.1 ho).1
  match k, hk' with
  | 0, _ =>
    simp only [l20_0, List.getElem?_cons_zero, List.getElem?_cons_succ, Option.some.injEq] at ho
    subst ho
    exact regu_pure (v := .pointer (some ⟨B, 4, none⟩)) (fun _ h => h) vz (vy F1) rfl
  | 1, _ =>
    simp only [l20_0, List.getElem?_cons_zero, List.getElem?_cons_succ, Option.some.injEq] at ho
    subst ho
    have q0 : s.fr 5 = some (.pointer (some ⟨B, 4, none⟩)) := (hF 0 (by kernel_rfl) (.inl rfl)).eq rfl fun _ _ e => e
    have hu : cellAt s.h B 4 = some vr := hU 7 (.inr (by kernel_rfl))
    exact regu_pure (v := vr) (fun _ h => h) vz (by simp -implicitDefEqProofs (disch:=first|omega|simp only [go_sem,Nat.reduceAdd]) only [go_sem,Int.reduceLT,Int.reduceLE,Int.reduceEq,reduceIte,true_and, q0, hu]) rfl
  | 2, _ =>
    simp only [l20_0, List.getElem?_cons_zero, List.getElem?_cons_succ, Option.some.injEq] at ho
    subst ho
    have q1 : s.fr 6 = some (vr) := (hF 1 (by kernel_rfl) (.inl rfl)).eq rfl fun _ _ e => e
    have hA : Arg fKey.rep s.h vr _ := hr.mono fun i hi => ⟨Nat.lt_of_lt_of_le hi.1 gg.keep.next, gg.keep.get i hi.1 hi.2⟩
    refine regu_ct vz (vy q1) (keys_c hA hlr) fun r h2 hR => ?_
    obtain ⟨w, e1, e2, e3, e4⟩ := onCall hR
    exact ⟨w, e1, e2, e3, fun j u _ _ _ hV => hV.ext e4 hBs, fun j _ _ hV => hV.ext e4 hBs⟩
  | 3, _ =>
    simp only [l20_0, List.getElem?_cons_zero, List.getElem?_cons_succ, Option.some.injEq] at ho
    subst ho
    exact regu_pure (v := .pointer (some ⟨B, 5, none⟩)) (fun _ h => h) vz (vy F1) rfl
  | 4, _ =>
    simp only [l20_0, List.getElem?_cons_zero, List.getElem?_cons_succ, Option.some.injEq] at ho
    subst ho
    have q3 : s.fr 8 = some (.pointer (some ⟨B, 5, none⟩)) := (hF 3 (by kernel_rfl) (.inl rfl)).eq rfl fun _ _ e => e
    have hu : cellAt s.h B 5 = some vw := hU 9 (.inr (by kernel_rfl))
    exact regu_pure (v := vw) (fun _ h => h) vz (by simp -implicitDefEqProofs (disch:=first|omega|simp only [go_sem,Nat.reduceAdd]) only [go_sem,Int.reduceLT,Int.reduceLE,Int.reduceEq,reduceIte,true_and, q3, hu]) rfl
  | 5, _ =>
    simp only [l20_0, List.getElem?_cons_zero, List.getElem?_cons_succ, Option.some.injEq] at ho
    subst ho
    have q4 : s.fr 9 = some (vw) := (hF 4 (by kernel_rfl) (.inl rfl)).eq rfl fun _ _ e => e
    have hA : Arg fKey.rep s.h vw _ := hw.mono fun i hi => ⟨Nat.lt_of_lt_of_le hi.1 gg.keep.next, gg.keep.get i hi.1 hi.2⟩
    refine regu_ct vz (vy q4) (keys_c hA hlw) fun r h2 hR => ?_
    obtain ⟨w, e1, e2, e3, e4⟩ := onCall hR
    exact ⟨w, e1, e2, e3, fun j u _ _ _ hV => hV.ext e4 hBs, fun j _ _ hV => hV.ext e4 hBs⟩
  | 6, _ =>
    simp only [l20_0, List.getElem?_cons_zero, List.getElem?_cons_succ, Option.some.injEq] at ho
    subst ho
    exact regu_pure (v := .pointer (some ⟨B, 4, none⟩)) (fun _ h => h) vz (vy F1) rfl
  | 7, _ =>
    simp only [l20_0, List.getElem?_cons_zero, List.getElem?_cons_succ, Option.some.injEq] at ho
    subst ho
    have q6 : s.fr 11 = some (.pointer (some ⟨B, 4, none⟩)) := (hF 6 (by kernel_rfl) (.inl rfl)).eq rfl fun _ _ e => e
    obtain ⟨w, qw, vw'⟩ := (hF 2 (by kernel_rfl) (.inl rfl)).ex (d := 7) rfl
    have vw2 : Sl fKey.rep (fun i => K0.next ≤ i ∧ i < s.h.next) s.h w _ := vw'
    obtain ⟨x, y, hxy⟩ := gg.row
    have hst : dStore Try.prog 24 (.pointer (some ⟨B, 4, none⟩)) w s.h = some (s.h.set B (.row [.int .i64 a, .int .i64 b, vc, va, w, y] 0 false)) := (st_24 vw2.cells1).trans (store_cell vw2.cells1 (one_sl vw2) (by simp) rfl hxy)
    have c4 : cellAt s.h B 4 = some x := cellAt_row hxy
    have c5 : cellAt s.h B 5 = some y := cellAt_row hxy
    refine regu_store (h' := s.h.set B (.row [.int .i64 a, .int .i64 b, vc, va, w, y] 0 false)) vz (by simp -implicitDefEqProofs (disch:=first|omega|simp only [go_sem,Nat.reduceAdd]) only [go_sem,Int.reduceLT,Int.reduceLE,Int.reduceEq,reduceIte,true_and, q6, qw, hst]) (fun gx => ⟨gx.keep.set _, _, _, get_set_same _ _⟩) ⟨w, cellAt_row (get_set_same _ _), slf_set hB vw2⟩ (fun j u h1 _ _ hV => hV.set (p := 0) hB (fun e => by first | exact absurd e h1 | exact c4.symm) (fun e => by first | exact absurd e h1 | exact c5.symm)) (fun j h1 _ hV => hV.set (fun e => by first | exact absurd e h1 | exact c4.symm) (fun e => by first | exact absurd e h1 | exact c5.symm))
  | 8, _ =>
    simp only [l20_0, List.getElem?_cons_zero, List.getElem?_cons_succ, Option.some.injEq] at ho
    subst ho
    exact regu_pure (v := .pointer (some ⟨B, 5, none⟩)) (fun _ h => h) vz (vy F1) rfl
  | 9, _ =>
    simp only [l20_0, List.getElem?_cons_zero, List.getElem?_cons_succ, Option.some.injEq] at ho
    subst ho
    have q8 : s.fr 12 = some (.pointer (some ⟨B, 5, none⟩)) := (hF 8 (by kernel_rfl) (.inl rfl)).eq rfl fun _ _ e => e
    obtain ⟨w, qw, vw'⟩ := (hF 5 (by kernel_rfl) (.inl rfl)).ex (d := 10) rfl
    have vw2 : Sl fKey.rep (fun i => K0.next ≤ i ∧ i < s.h.next) s.h w _ := vw'
    obtain ⟨x, y, hxy⟩ := gg.row
    have hst : dStore Try.prog 24 (.pointer (some ⟨B, 5, none⟩)) w s.h = some (s.h.set B (.row [.int .i64 a, .int .i64 b, vc, va, x, w] 0 false)) := (st_24 vw2.cells1).trans (store_cell vw2.cells1 (one_sl vw2) (by simp) rfl hxy)
    have c4 : cellAt s.h B 4 = some x := cellAt_row hxy
    have c5 : cellAt s.h B 5 = some y := cellAt_row hxy
    refine regu_store (h' := s.h.set B (.row [.int .i64 a, .int .i64 b, vc, va, x, w] 0 false)) vz (by simp -implicitDefEqProofs (disch:=first|omega|simp only [go_sem,Nat.reduceAdd]) only [go_sem,Int.reduceLT,Int.reduceLE,Int.reduceEq,reduceIte,true_and, q8, qw, hst]) (fun gx => ⟨gx.keep.set _, _, _, get_set_same _ _⟩) ⟨w, cellAt_row (get_set_same _ _), slf_set hB vw2⟩ (fun j u h1 _ _ hV => hV.set (p := 0) hB (fun e => by first | exact absurd e h1 | exact c4.symm) (fun e => by first | exact absurd e h1 | exact c5.symm)) (fun j h1 _ hV => hV.set (fun e => by first | exact absurd e h1 | exact c4.symm) (fun e => by first | exact absurd e h1 | exact c5.symm))
set_option maxHeartbeats 1000000 in
theorem refNrm_region {K0 : DHeap} {B : Nat} {a b : Int} {vc va vr vw : Value} {lr lw : List Key} {fr : Fr} {rd : Option Nat} (hB : B < K0.next) (f1 : fr 1 = some (.pointer (some ⟨B, 0, none⟩))) (hrow : TxRow K0 B a b vc va vr vw)
    (hr : Sl fKey.rep (fun i => i < K0.next ∧ i ≠ B) K0 vr lr) (hw : Sl fKey.rep (fun i => i < K0.next ∧ i ≠ B) K0 vw lw) (hlr : lr.length ≤ 1048576) (hlw : lw.length ≤ 1048576) :
    NC Try.prog 12 r21_0 (DThen (fun s => s.df = [] ∧ s.rd = rd ∧ s.fr 1 = fr 1 ∧ s.fr 2 = fr 2 ∧ Keep B K0 s.h ∧ ∃ x y, TxRow s.h B a b vc va x y ∧ Sl fKey.rep (fun i => K0.next ≤ i ∧ i < s.h.next) s.h x (keysN lr) ∧ Sl fKey.rep (fun i => K0.next ≤ i ∧ i < s.h.next) s.h y (keysN lw)) (fun _ _ => False)) ⟨fr, [], K0, rd⟩ := by
  refine NC.regsU (l := l21_0) (by kernel_rfl) (by kernel_rfl) (by kernel_rfl) rfl (by kernel_rfl) (by kernel_rfl) (fun p q => NrmG B a b vc va K0 p → NrmG B a b vc va K0 q) (fun _ h => h) (fun _ _ _ f g h => g (f h)) (NrmV B vr vw (keysN lr) (keysN lw) K0) (fun _ => none) (NrmU B vr vw) ?_ ?_ ?_
  · intro j
    unfold NrmU
    split
    · exact cellAt_row hrow
    · exact cellAt_row hrow
    · trivial
  case refine_3 =>
    rintro ⟨fr1, df1, K, rd1⟩ g hF
    have gg := g.ext ⟨⟨Nat.le_refl _, rfl, fun _ _ _ => rfl⟩, _, _, hrow⟩
    obtain ⟨_, x, x1, x2⟩ := (hF 7 (by decide) rfl).fact
    obtain ⟨_, y, y1, y2⟩ := (hF 9 (by decide) rfl).fact
    obtain ⟨p, q, hpq⟩ := gg.row
    rw [cellAt_row hpq] at x1 y1
    cases x1
    cases y1
    exact ⟨g.df, g.rd, g.fr 1 (by kernel_rfl), g.fr 2 (by kernel_rfl), gg.keep, _, _, hpq, x2, y2⟩
  intro k oo s ho g hpre hown hF hU
  have gg := g.ext ⟨⟨Nat.le_refl _, rfl, fun _ _ _ => rfl⟩, _, _, hrow⟩
  have hBs : B < s.h.next := Nat.lt_of_lt_of_le hB gg.keep.next
  have F1 : s.fr 1 = some (.pointer (some ⟨B, 0, none⟩)) := (g.fr 1 (by kernel_rfl)).trans f1
  have onCall : ∀ {r h1} {l : List Key}, (∃ w, r = DEnd.ret w ∧ Ext s.h h1 ∧ Sl fKey.rep (Fresh s.h h1) h1 w l) → ∃ v, r = .ret v ∧ (NrmG B a b vc va K0 s.h → NrmG B a b vc va K0 h1) ∧ Sl fKey.rep (fun i => K0.next ≤ i ∧ i < h1.next) h1 v l ∧ Ext s.h h1 := fun {r h1 l} hx => by
    obtain ⟨w, e1, e2, e3⟩ := hx
    refine ⟨w, e1, fun gx => ⟨gx.keep.ext e2, ?_⟩, e3.mono fun i hi => ⟨⟨Nat.le_trans gg.keep.next hi.1, hi.2⟩, rfl⟩, e2⟩
    obtain ⟨x, y, hxy⟩ := gx.row
    exact ⟨x, y, (e2.get _ hBs).trans hxy⟩
  have hk' : k < 10 := (List.getElem?_eq_some_iff.1 ho).1
  match k, hk' with
  | 0, _ =>
    simp only [l21_0, List.getElem?_cons_zero, List.getElem?_cons_succ, Option.some.injEq] at ho
    subst ho
    exact regu_pure (v := .pointer (some ⟨B, 4, none⟩)) (fun _ h => h) vz (vy F1) rfl
  | 1, _ =>
    simp only [l21_0, List.getElem?_cons_zero, List.getElem?_cons_succ, Option.some.injEq] at ho
    subst ho
    have q0 : s.fr 3 = some (.pointer (some ⟨B, 4, none⟩)) := (hF 0 (by kernel_rfl) (.inl rfl)).eq rfl fun _ _ e => e
    have hu : cellAt s.h B 4 = some vr := hU 7 (.inr (by kernel_rfl))
    exact regu_pure (v := vr) (fun _ h => h) vz (by simp -implicitDefEqProofs (disch:=first|omega|simp only [go_sem,Nat.reduceAdd]) only [go_sem,Int.reduceLT,Int.reduceLE,Int.reduceEq,reduceIte,true_and, q0, hu]) rfl
  | 2, _ =>
    simp only [l21_0, List.getElem?_cons_zero, List.getElem?_cons_succ, Option.some.injEq] at ho
    subst ho
    have q1 : s.fr 4 = some (vr) := (hF 1 (by kernel_rfl) (.inl rfl)).eq rfl fun _ _ e => e
    have hA : Arg fKey.rep s.h vr _ := hr.mono fun i hi => ⟨Nat.lt_of_lt_of_le hi.1 gg.keep.next, gg.keep.get i hi.1 hi.2⟩
    refine regu_ct vz (vy q1) (refKeys_c' hA hlr) fun r h2 hR => ?_
    obtain ⟨w, e1, e2, e3, e4⟩ := onCall hR
    exact ⟨w, e1, e2, e3, fun j u _ _ _ hV => hV.ext e4 hBs, fun j _ _ hV => hV.ext e4 hBs⟩
  | 3, _ =>
    simp only [l21_0, List.getElem?_cons_zero, List.getElem?_cons_succ, Option.some.injEq] at ho
    subst ho
    exact regu_pure (v := .pointer (some ⟨B, 5, none⟩)) (fun _ h => h) vz (vy F1) rfl
  | 4, _ =>
    simp only [l21_0, List.getElem?_cons_zero, List.getElem?_cons_succ, Option.some.injEq] at ho
    subst ho
    have q3 : s.fr 6 = some (.pointer (some ⟨B, 5, none⟩)) := (hF 3 (by kernel_rfl) (.inl rfl)).eq rfl fun _ _ e => e
    have hu : cellAt s.h B 5 = some vw := hU 9 (.inr (by kernel_rfl))
    exact regu_pure (v := vw) (fun _ h => h) vz (by simp -implicitDefEqProofs (disch:=first|omega|simp only [go_sem,Nat.reduceAdd]) only [go_sem,Int.reduceLT,Int.reduceLE,Int.reduceEq,reduceIte,true_and, q3, hu]) rfl
  | 5, _ =>
    simp only [l21_0, List.getElem?_cons_zero, List.getElem?_cons_succ, Option.some.injEq] at ho
    subst ho
    have q4 : s.fr 7 = some (vw) := (hF 4 (by kernel_rfl) (.inl rfl)).eq rfl fun _ _ e => e
    have hA : Arg fKey.rep s.h vw _ := hw.mono fun i hi => ⟨Nat.lt_of_lt_of_le hi.1 gg.keep.next, gg.keep.get i hi.1 hi.2⟩
    refine regu_ct vz (vy q4) (refKeys_c' hA hlw) fun r h2 hR => ?_
    obtain ⟨w, e1, e2, e3, e4⟩ := onCall hR
    exact ⟨w, e1, e2, e3, fun j u _ _ _ hV => hV.ext e4 hBs, fun j _ _ hV => hV.ext e4 hBs⟩
  | 6, _ =>
    simp only [l21_0, List.getElem?_cons_zero, List.getElem?_cons_succ, Option.some.injEq] at ho
    subst ho
    exact regu_pure (v := .pointer (some ⟨B, 4, none⟩)) (fun _ h => h) vz (vy F1) rfl
  | 7, _ =>
    simp only [l21_0, List.getElem?_cons_zero, List.getElem?_cons_succ, Option.some.injEq] at ho
    subst ho
    have q6 : s.fr 9 = some (.pointer (some ⟨B, 4, none⟩)) := (hF 6 (by kernel_rfl) (.inl rfl)).eq rfl fun _ _ e => e
    obtain ⟨w, qw, vw'⟩ := (hF 2 (by kernel_rfl) (.inl rfl)).ex (d := 5) rfl
    have vw2 : Sl fKey.rep (fun i => K0.next ≤ i ∧ i < s.h.next) s.h w _ := vw'
    obtain ⟨x, y, hxy⟩ := gg.row
    have hst : dStore Try.prog 24 (.pointer (some ⟨B, 4, none⟩)) w s.h = some (s.h.set B (.row [.int .i64 a, .int .i64 b, vc, va, w, y] 0 false)) := (st_24 vw2.cells1).trans (store_cell vw2.cells1 (one_sl vw2) (by simp) rfl hxy)
    have c4 : cellAt s.h B 4 = some x := cellAt_row hxy
    have c5 : cellAt s.h B 5 = some y := cellAt_row hxy
    refine regu_store (h' := s.h.set B (.row [.int .i64 a, .int .i64 b, vc, va, w, y] 0 false)) vz (by simp -implicitDefEqProofs (disch:=first|omega|simp only [go_sem,Nat.reduceAdd]) only [go_sem,Int.reduceLT,Int.reduceLE,Int.reduceEq,reduceIte,true_and, q6, qw, hst]) (fun gx => ⟨gx.keep.set _, _, _, get_set_same _ _⟩) ⟨w, cellAt_row (get_set_same _ _), slf_set hB vw2⟩ (fun j u h1 _ _ hV => hV.set (p := 0) hB (fun e => by first | exact absurd e h1 | exact c4.symm) (fun e => by first | exact absurd e h1 | exact c5.symm)) (fun j h1 _ hV => hV.set (fun e => by first | exact absurd e h1 | exact c4.symm) (fun e => by first | exact absurd e h1 | exact c5.symm))
  | 8, _ =>
    simp only [l21_0, List.getElem?_cons_zero, List.getElem?_cons_succ, Option.some.injEq] at ho
    subst ho
    exact regu_pure (v := .pointer (some ⟨B, 5, none⟩)) (fun _ h => h) vz (vy F1) rfl
  | 9, _ =>
    simp only [l21_0, List.getElem?_cons_zero, List.getElem?_cons_succ, Option.some.injEq] at ho
    subst ho
    have q8 : s.fr 10 = some (.pointer (some ⟨B, 5, none⟩)) := (hF 8 (by kernel_rfl) (.inl rfl)).eq rfl fun _ _ e => e
    obtain ⟨w, qw, vw'⟩ := (hF 5 (by kernel_rfl) (.inl rfl)).ex (d := 8) rfl
    have vw2 : Sl fKey.rep (fun i => K0.next ≤ i ∧ i < s.h.next) s.h w _ := vw'
    obtain ⟨x, y, hxy⟩ := gg.row
    have hst : dStore Try.prog 24 (.pointer (some ⟨B, 5, none⟩)) w s.h = some (s.h.set B (.row [.int .i64 a, .int .i64 b, vc, va, x, w] 0 false)) := (st_24 vw2.cells1).trans (store_cell vw2.cells1 (one_sl vw2) (by simp) rfl hxy)
    have c4 : cellAt s.h B 4 = some x := cellAt_row hxy
    have c5 : cellAt s.h B 5 = some y := cellAt_row hxy
    refine regu_store (h' := s.h.set B (.row [.int .i64 a, .int .i64 b, vc, va, x, w] 0 false)) vz (by simp -implicitDefEqProofs (disch:=first|omega|simp only [go_sem,Nat.reduceAdd]) only [go_sem,Int.reduceLT,Int.reduceLE,Int.reduceEq,reduceIte,true_and, q8, qw, hst]) (fun gx => ⟨gx.keep.set _, _, _, get_set_same _ _⟩) ⟨w, cellAt_row (get_set_same _ _), slf_set hB vw2⟩ (fun j u h1 _ _ hV => hV.set (p := 0) hB (fun e => by first | exact absurd e h1 | exact c4.symm) (fun e => by first | exact absurd e h1 | exact c5.symm)) (fun j h1 _ hV => hV.set (fun e => by first | exact absurd e h1 | exact c4.symm) (fun e => by first | exact absurd e h1 | exact c5.symm))
/-- a transaction with its keys in order -/
def normT (t : Txn) : Txn := { t with reads := keysN t.reads, writes := keysN t.writes }
theorem sl_ne {α : Type} {R : Rep α} {h K : DHeap} {B : Nat} {v : Value} {l : List α} (x : Sl R (InH h) h v l) (e : Ext h K) (hB : h.next ≤ B) : Sl R (fun i => i < K.next ∧ i ≠ B) K v l :=
  x.mono fun i hi => ⟨⟨Nat.lt_of_lt_of_le hi e.next, by have : i < h.next := hi; omega⟩, e.get i hi⟩
theorem refNormal_c {h : DHeap} {t : Txn} {vc va vr vw : Value} (x : TxV (InH h) h t vc va vr vw) (hl : TxLen t) :
    Ct Try.prog 21 [txnV t.ses t.req vc va vr vw] h fun r h1 => ∃ vr' vw', r = .ret (txnV t.ses t.req vc va vr' vw') ∧ Ext h h1 ∧ Sl fKey.rep (Fresh h h1) h1 vr' (keysN t.reads) ∧ Sl fKey.rep (Fresh h h1) h1 vw' (keysN t.writes) := by
  refine go_21 (by simp) ?_
  have hvc := x.c.cells1
  have hva := x.a.cells1
  have hvr := x.r.cells1
  have hvw := x.w.cells1
  obtain ⟨H, hH⟩ : ∃ H, H = (h.push (.row [.int .i64 t.ses, .int .i64 t.req, vc, va, vr, vw] 0 false)).push (.row [.int .i64 0, .int .i64 0, .slice none 0 0, .slice none 0 0, .slice none 0 0, .slice none 0 0] 0 false) := ⟨_, rfl⟩
  have hE : Ext h H := by rw [hH]; exact (Ext.push1 _ _).push _
  have hHn : H.next = h.next + 2 := by rw [hH]; rfl
  have ga : TxRow H h.next t.ses t.req vc va vr vw := by rw [hH]; exact get_p1
  have gb : H.get (h.next + 1) = some (.row [.int .i64 0, .int .i64 0, .slice none 0 0, .slice none 0 0, .slice none 0 0, .slice none 0 0] 0 false) := by rw [hH]; exact get_push_same _ _
  simp -implicitDefEqProofs (disch:=first|omega|simp only [go_sem,Nat.reduceAdd]) only [go_sem,Int.reduceLT,Int.reduceLE,Int.reduceEq,reduceIte,true_and, c21, next_push, ← hH]
  refine NC.mono (refNrm_region (B := h.next) (by omega) vz ga (sl_ne x.r hE (Nat.le_refl _)) (sl_ne x.w hE (Nat.le_refl _)) hl.r hl.w) ?_
  rintro e ⟨fr1, df1, M, rd1⟩ hM
  cases e <;> try exact hM.elim
  obtain ⟨rfl, rfl, q1, q2, hk, vr', vw', hrow, hr', hw'⟩ := hM
  have Q1 : fr1 1 = some (.pointer (some ⟨h.next, 0, none⟩)) := q1.trans vz
  have Q2 : fr1 2 = some (.pointer (some ⟨h.next + 1, 0, none⟩)) := q2.trans vz
  have hMn : _ ≤ M.next := hk.next
  have hca : cellsAt M h.next 0 6 = some (txnV t.ses t.req vc va vr' vw') := by rw [cellsAt_row hrow (Nat.le_of_ble_eq_true rfl)]; rfl
  have hone : [.int .i64 t.ses, .int .i64 t.req, vc, va, vr', vw'].all Value.oneCell' = true := by
    obtain ⟨_, _, rfl⟩ := x.c.isSlice
    obtain ⟨_, _, rfl⟩ := x.a.isSlice
    obtain ⟨_, _, rfl⟩ := hr'.isSlice
    obtain ⟨_, _, rfl⟩ := hw'.isSlice
    rfl
  have hvr' := hr'.cells1
  have hvw' := hw'.cells1
  have gbM := (hk.get (h.next + 1) (by omega) (by omega)).trans gb
  have sa := storeAll (vs := [.int .i64 t.ses, .int .i64 t.req, vc, va, vr', vw']) gbM rfl hone
  obtain ⟨M2, hM2⟩ : ∃ M2, M2 = M.set (h.next + 1) (.row [.int .i64 t.ses, .int .i64 t.req, vc, va, vr', vw'] 0 false) := ⟨_, rfl⟩
  have cM : cellsAt M2 (h.next + 1) 0 6 = some (txnV t.ses t.req vc va vr' vw') := by
    rw [hM2, cellsAt_row (get_set_same _ _) (Nat.le_of_ble_eq_true rfl)]; rfl
  rw [← hM2] at sa
  simp -implicitDefEqProofs (disch:=first|omega|simp only [go_sem,Nat.reduceAdd]) only [go_sem,Int.reduceLT,Int.reduceLE,Int.reduceEq,reduceIte,true_and, Q1, Q2, hca, sa]
  refine ret_at (v := txnV t.ses t.req vc va vr' vw') ?_ ?_
  · rw [dResults_c1]
    simp -implicitDefEqProofs (disch:=first|omega|simp only [go_sem,Nat.reduceAdd]) only [go_sem,Int.reduceLT,Int.reduceLE,Int.reduceEq,reduceIte,true_and, Q2, cM, dResC_some]
  · refine ⟨vr', vw', rfl, by rw [hM2]; exact (hk.toExt hE (Nat.le_refl _)).set (by omega), ?_, ?_⟩
    · refine hr'.mono fun i hi => ⟨⟨by omega, by rw [hM2]; exact hi.2⟩, ?_⟩
      rw [hM2, get_set_other _ _ (by omega)]
    · refine hw'.mono fun i hi => ⟨⟨by omega, by rw [hM2]; exact hi.2⟩, ?_⟩
      rw [hM2, get_set_other _ _ (by omega)]
theorem normal_c {h : DHeap} {t : Txn} {vc va vr vw : Value} (x : TxV (InH h) h t vc va vr vw) (hl : TxLen t) :
    Ct Try.prog 20 [txnV t.ses t.req vc va vr vw] h fun r h1 => ∃ vc' va' vr' vw', r = .ret (txnV t.ses t.req vc' va' vr' vw') ∧ Ext h h1 ∧ TxV (Fresh h h1) h1 (normT t) vc' va' vr' vw' := by
  refine go_20 (by simp) ?_
  have hvc := x.c.cells1
  have hva := x.a.cells1
  have hvr := x.r.cells1
  have hvw := x.w.cells1
  obtain ⟨H, hH⟩ : ∃ H, H = (h.push (.row [.int .i64 t.ses, .int .i64 t.req, vc, va, vr, vw] 0 false)).push (.row [.int .i64 0, .int .i64 0, .slice none 0 0, .slice none 0 0, .slice none 0 0, .slice none 0 0] 0 false) := ⟨_, rfl⟩
  have hE : Ext h H := by rw [hH]; exact (Ext.push1 _ _).push _
  have hHn : H.next = h.next + 2 := by rw [hH]; rfl
  have ga : TxRow H h.next t.ses t.req vc va vr vw := by rw [hH]; exact get_p1
  have gb : H.get (h.next + 1) = some (.row [.int .i64 0, .int .i64 0, .slice none 0 0, .slice none 0 0, .slice none 0 0, .slice none 0 0] 0 false) := by rw [hH]; exact get_push_same _ _
  have hca0 : cellsAt H h.next 0 6 = some (txnV t.ses t.req vc va vr vw) := by rw [cellsAt_row ga (Nat.le_of_ble_eq_true rfl)]; rfl
  simp -implicitDefEqProofs (disch:=first|omega|simp only [go_sem,Nat.reduceAdd]) only [go_sem,Int.reduceLT,Int.reduceLE,Int.reduceEq,reduceIte,true_and, c20, next_push, ← hH, hca0]
  refine ncall_ct (cloneT_c (x.ext hE) hl) ?_
  rintro r H1 ⟨vc, va, vr, vw, rfl, hE1, y⟩
  have hE1n := hE1.next
  have ga1 := (hE1.get _ (by omega)).trans ga
  have gb1 := (hE1.get _ (by omega)).trans gb
  have hvc := y.c.cells1
  have hva := y.a.cells1
  have hvr := y.r.cells1
  have hvw := y.w.cells1
  have sa1 := storeAll (vs := [.int .i64 t.ses, .int .i64 t.req, vc, va, vr, vw]) ga1 rfl (y.one _ _)
  obtain ⟨K0, hK0⟩ : ∃ K0, K0 = H1.set h.next (.row [.int .i64 t.ses, .int .i64 t.req, vc, va, vr, vw] 0 false) := ⟨_, rfl⟩
  rw [← hK0] at sa1
  have hEK : Ext h K0 := by rw [hK0]; exact (hE.trans hE1).set (by omega)
  have hKn : K0.next = H1.next := by rw [hK0]; rfl
  have gaK : TxRow K0 h.next t.ses t.req vc va vr vw := by rw [hK0]; exact get_set_same _ _
  have gbK : K0.get (h.next + 1) = _ := (by rw [hK0, get_set_other _ _ (by omega)] : K0.get (h.next + 1) = H1.get (h.next + 1)).trans gb1
  have yK : TxV (fun i => H.next ≤ i ∧ i < K0.next) K0 t vc va vr vw := y.mono fun i hi => ⟨⟨hi.1, by rw [hKn]; exact hi.2⟩, by rw [hK0, get_set_other _ _ (by have := hi.1; omega)]⟩
  simp -implicitDefEqProofs (disch:=first|omega|simp only [go_sem,Nat.reduceAdd]) only [go_sem,Int.reduceLT,Int.reduceLE,Int.reduceEq,reduceIte,true_and, XEnd, sa1]
  refine NC.mono (nrm_region (B := h.next) (by omega) vz gaK (yK.r.mono fun i hi => ⟨⟨hi.2, by omega⟩, rfl⟩) (yK.w.mono fun i hi => ⟨⟨hi.2, by omega⟩, rfl⟩) hl.r hl.w) ?_
  rintro e ⟨fr1, df1, M, rd1⟩ hM
  cases e <;> try exact hM.elim
  obtain ⟨rfl, rfl, q1, q2, hk, vr', vw', hrow, hr', hw'⟩ := hM
  have Q1 : fr1 1 = some (.pointer (some ⟨h.next, 0, none⟩)) := q1.trans vz
  have Q2 : fr1 2 = some (.pointer (some ⟨h.next + 1, 0, none⟩)) := q2.trans vz
  have hMn : _ ≤ M.next := hk.next
  have hca : cellsAt M h.next 0 6 = some (txnV t.ses t.req vc va vr' vw') := by rw [cellsAt_row hrow (Nat.le_of_ble_eq_true rfl)]; rfl
  have hone : [.int .i64 t.ses, .int .i64 t.req, vc, va, vr', vw'].all Value.oneCell' = true := by
    obtain ⟨_, _, rfl⟩ := y.c.isSlice
    obtain ⟨_, _, rfl⟩ := y.a.isSlice
    obtain ⟨_, _, rfl⟩ := hr'.isSlice
    obtain ⟨_, _, rfl⟩ := hw'.isSlice
    rfl
  have hvr' := hr'.cells1
  have hvw' := hw'.cells1
  have gbM := (hk.get (h.next + 1) (by omega) (by omega)).trans gbK
  have sa := storeAll (vs := [.int .i64 t.ses, .int .i64 t.req, vc, va, vr', vw']) gbM rfl hone
  obtain ⟨M2, hM2⟩ : ∃ M2, M2 = M.set (h.next + 1) (.row [.int .i64 t.ses, .int .i64 t.req, vc, va, vr', vw'] 0 false) := ⟨_, rfl⟩
  have cM : cellsAt M2 (h.next + 1) 0 6 = some (txnV t.ses t.req vc va vr' vw') := by
    rw [hM2, cellsAt_row (get_set_same _ _) (Nat.le_of_ble_eq_true rfl)]; rfl
  rw [← hM2] at sa
  simp -implicitDefEqProofs (disch:=first|omega|simp only [go_sem,Nat.reduceAdd]) only [go_sem,Int.reduceLT,Int.reduceLE,Int.reduceEq,reduceIte,true_and, Q1, Q2, hca, sa]
  refine ret_at (v := txnV t.ses t.req vc va vr' vw') ?_ ?_
  · rw [dResults_c1]
    simp -implicitDefEqProofs (disch:=first|omega|simp only [go_sem,Nat.reduceAdd]) only [go_sem,Int.reduceLT,Int.reduceLE,Int.reduceEq,reduceIte,true_and, Q2, cM, dResC_some]
  · refine ⟨vc, va, vr', vw', rfl, by rw [hM2]; exact (hk.toExt hEK (Nat.le_refl _)).set (by omega), ?_, ?_, ?_, ?_⟩
    · refine yK.c.mono fun i hi => ⟨⟨by omega, by rw [hM2]; show i < M.next; omega⟩, ?_⟩
      rw [hM2, get_set_other _ _ (by omega)]
      exact hk.get i hi.2 (by omega)
    · refine yK.a.mono fun i hi => ⟨⟨by omega, by rw [hM2]; show i < M.next; omega⟩, ?_⟩
      rw [hM2, get_set_other _ _ (by omega)]
      exact hk.get i hi.2 (by omega)
    · refine hr'.mono fun i hi => ⟨⟨by omega, by rw [hM2]; exact hi.2⟩, ?_⟩
      rw [hM2, get_set_other _ _ (by omega)]
    · refine hw'.mono fun i hi => ⟨⟨by omega, by rw [hM2]; exact hi.2⟩, ?_⟩
      rw [hM2, get_set_other _ _ (by omega)]
end Go.Proofs.Ytbdljpndncohaaa

namespace Go.Proofs.Ytbdljpndncohaaa
open Go.D
set_option maxRecDepth 100000

/-- a session that no call made: nil, or all zero -/
def NoCl (h : DHeap) (p : Value) : Prop := p = .pointer none ∨ ∃ B, p = .pointer (some ⟨B, 0, none⟩) ∧ B < h.next ∧ cellAt h B 1 = some (.int .i64 0)
theorem NoCl.ext {h h1 : DHeap} {p : Value} (x : NoCl h p) (e : Ext h h1) : NoCl h1 p := by
  rcases x with x | ⟨B, x, z, y⟩
  · exact .inl x
  · exact .inr ⟨B, x, Nat.lt_of_lt_of_le z e.next, (cellAt_ext e z).trans y⟩
theorem ptr_some {h : DHeap} {ox oy : Operand} {B : Nat} : dBinOp Try.prog .eql 30 ox oy (.pointer (some ⟨B, 0, none⟩)) (.pointer none) h = .ok (.value (.bool false)) h := by
  rfl
theorem none_at {h : DHeap} {B : Nat} {n : Int} (hc : cellAt h B 1 = some (.int .i64 n)) : DC Try.prog 31 [.pointer (some ⟨B, 0, none⟩)] h (.ret (.bool (decide (n = 0)))) h := by
  refine Ct.pure (go_31 (by simp) ?_) (vin_bool _)
  simp -implicitDefEqProofs (disch:=first|omega|simp only [go_sem,Nat.reduceAdd]) only [go_sem,Int.reduceLT,Int.reduceLE,Int.reduceEq,reduceIte,true_and, c31, ptr_some, hc, dPick_t, dPick_f]
  exact ⟨_, rfl, rfl, .refl _⟩
abbrev nilV : Value := .slice none 0 0
abbrev askL0 : List Value := [.int .i64 0, .int .i64 0, .int .i64 0, nilV, nilV, nilV, nilV, .bool false, nilV, .int .i64 0]
abbrev askV0 : Value := .agg askL0.toArray
theorem bd_ask0 : dBuild Try.prog 36 [] = some askV0 := dBuild_at plc_36 rfl
abbrev txL0 : List Value := [.int .i64 0, .int .i64 0, nilV, nilV, nilV, nilV]
theorem bd_txn0 : dBuild Try.prog 26 [] = some (.agg txL0.toArray) := dBuild_at plc_26 rfl
abbrev resL0 : List Value := [.int .i64 0, nilV, .int .i64 0, .int .i64 0]
theorem bd_res0 : dBuild Try.prog 45 [] = some (.agg resL0.toArray) := dBuild_at plc_45 rfl
theorem res_ct {P : Program} {fr : Fr} {K : DHeap} {a b id n : Nat} {t : TypeId} {v w : Value} (fa : fr a = some (.pointer (some ⟨id, 0, none⟩))) (fb : fr b = some w) (ld : ∀ K, dLoad P t (.pointer (some ⟨id, 0, none⟩)) K = cellsAt K id 0 n) (hk : cellsAt K id 0 n = some v) :
    dResults P [.cell a t, .tmp b] fr K = some (.tuple #[v, w]) := by
  rw [dResults_d2, dRes1_cell, dRes1_tmp, fa, fb, dResC_some, ld, hk, tup2_some]
theorem store_self {h : DHeap} {id z : Nat} {cs : List Value} (g : h.get id = some (.row cs z false)) (ho : cs.all Value.oneCell' = true) : storeAt h id 0 cs = some h := (storeAll g rfl ho).trans (congrArg some (set_self g))
theorem row_cells {h : DHeap} {id z n : Nat} {cs : List Value} {ro : Bool} (g : h.get id = some (.row cs z ro)) (hn : n = cs.length) : cellsAt h id 0 n = some (.agg cs.toArray) := by
  subst hn
  rw [cellsAt_row g (by simp)]
  simp
theorem vin_txn0b {S : Nat → Prop} {b : Bool} : VIn S (.tuple #[.agg txL0.toArray, .bool b]) := flat3_vin S rfl
end Go.Proofs.Ytbdljpndncohaaa

namespace Go.Proofs.Ytbdljpndncohaaa
open Go.D
set_option maxRecDepth 100000

/-- a session -/
structure Cl where
  ses : Int
  reps : Int
  req : Int
  pend : Bool
  t : Txn
  wait : Int
  turn : Int
  tok : Int
  any : Bool
  last : Res
abbrev clL (c : Cl) (vc va vr vw vv : Value) : List Value := [.int .i64 c.ses, .int .i64 c.reps, .int .i64 c.req, .bool c.pend, .int .i64 c.t.ses, .int .i64 c.t.req, vc, va, vr, vw, .int .i64 c.wait, .int .i64 c.turn, .int .i64 c.tok, .bool c.any, .int .i64 c.last.e, vv, .int .i64 c.last.s, .int .i64 c.last.p]
def tx0 : Txn := ⟨0, 0, [], [], [], []⟩
def cl0 (s r : Int) : Cl := ⟨s, r, 0, false, tx0, 0, 0, 0, false, ⟨0, [], 0, 0⟩⟩
/-- a session's box -/
structure ClAt (S : Nat → Prop) (h : DHeap) (B : Nat) (c : Cl) (vc va vr vw vv : Value) : Prop where
  row : h.get B = some (.row (clL c vc va vr vw vv) 0 false)
  tx : TxV S h c.t vc va vr vw
  lv : Sl fI64.rep S h vv c.last.vs
  lt : B < h.next
  inS : ∀ i, S i → i < h.next ∧ i ≠ B
theorem ClAt.ext {S : Nat → Prop} {h h1 : DHeap} {B : Nat} {c : Cl} {vc va vr vw vv : Value} (x : ClAt S h B c vc va vr vw vv) (e : Ext h h1) : ClAt S h1 B c vc va vr vw vv :=
  ⟨(e.get _ x.lt).trans x.row, x.tx.mono fun i hi => ⟨hi, e.get i (x.inS i hi).1⟩, x.lv.mono fun i hi => ⟨hi, e.get i (x.inS i hi).1⟩, Nat.lt_of_lt_of_le x.lt e.next, fun i hi => ⟨Nat.lt_of_lt_of_le (x.inS i hi).1 e.next, (x.inS i hi).2⟩⟩
theorem ClAt.cell {S : Nat → Prop} {h : DHeap} {B : Nat} {c : Cl} {vc va vr vw vv : Value} (x : ClAt S h B c vc va vr vw vv) (o : Nat) : cellAt h B o = (clL c vc va vr vw vv)[o]? := cellAt_row x.row
theorem ClAt.txn {S : Nat → Prop} {h : DHeap} {B : Nat} {c : Cl} {vc va vr vw vv : Value} (x : ClAt S h B c vc va vr vw vv) : cellsAt h B 4 6 = some (txnV c.t.ses c.t.req vc va vr vw) := by
  rw [cellsAt_row x.row (Nat.le_of_ble_eq_true rfl)]; rfl
theorem ClAt.res {S : Nat → Prop} {h : DHeap} {B : Nat} {c : Cl} {vc va vr vw vv : Value} (x : ClAt S h B c vc va vr vw vv) : cellsAt h B 14 4 = some (.agg #[.int .i64 c.last.e, vv, .int .i64 c.last.s, .int .i64 c.last.p]) := by
  rw [cellsAt_row x.row (Nat.le_of_ble_eq_true rfl)]; rfl
theorem bd_cl0 {s r : Int} : dBuild Try.prog 76 [(0, .int .i64 s), (1, .int .i64 r)] = some (.agg (clL (cl0 s r) nilV nilV nilV nilV nilV).toArray) := dBuild_at plc_76 rfl
def newE (s r : Int) : Int := if s < 1 ∨ 1099511627776 < s ∨ r < 1 ∨ 5 < r then 1 else 0
theorem new_bad {h : DHeap} {s r : Int} (hb : newE s r ≠ 0) : DC Try.prog 9 [.int .i64 s, .int .i64 r] h (.ret (.tuple #[.pointer none, .int .i64 1])) h := by
  refine Ct.pure (go_9 (by simp) ?_) (flat3_vin _ rfl)
  have hb' : s < 1 ∨ 1099511627776 < s ∨ r < 1 ∨ 5 < r := by
    unfold newE at hb
    split at hb
    · assumption
    · exact absurd rfl hb
  simp -implicitDefEqProofs (disch:=first|omega|simp only [go_sem,Nat.reduceAdd]) only [go_sem,Int.reduceLT,Int.reduceLE,Int.reduceEq,reduceIte,true_and, c9]
  by_cases q1 : s < 1
  · have q1' := eq_true q1
    simp -implicitDefEqProofs (disch:=first|omega|simp only [go_sem,Nat.reduceAdd]) only [go_sem,Int.reduceLT,Int.reduceLE,Int.reduceEq,reduceIte,true_and, q1', dPick_t, dPick_f]
    exact ⟨_, rfl, rfl, .refl _⟩
  by_cases q2 : 1099511627776 < s
  · have q2' := eq_true q2
    simp -implicitDefEqProofs (disch:=first|omega|simp only [go_sem,Nat.reduceAdd]) only [go_sem,Int.reduceLT,Int.reduceLE,Int.reduceEq,reduceIte,true_and, q1, q2', dPick_t, dPick_f]
    exact ⟨_, rfl, rfl, .refl _⟩
  by_cases q3 : r < 1
  · have q3' := eq_true q3
    simp -implicitDefEqProofs (disch:=first|omega|simp only [go_sem,Nat.reduceAdd]) only [go_sem,Int.reduceLT,Int.reduceLE,Int.reduceEq,reduceIte,true_and, q1, q2, q3', dPick_t, dPick_f]
    exact ⟨_, rfl, rfl, .refl _⟩
  have q4' : (5 < r) = True := eq_true (by omega)
  simp -implicitDefEqProofs (disch:=first|omega|simp only [go_sem,Nat.reduceAdd]) only [go_sem,Int.reduceLT,Int.reduceLE,Int.reduceEq,reduceIte,true_and, q1, q2, q3, q4', dPick_t, dPick_f]
  exact ⟨_, rfl, rfl, .refl _⟩
theorem new_ok {h : DHeap} {s r : Int} (hb : newE s r = 0) : Ct Try.prog 9 [.int .i64 s, .int .i64 r] h fun rr h1 => rr = .ret (.tuple #[.pointer (some ⟨h.next, 0, none⟩), .int .i64 0]) ∧ h1 = h.push (.row (clL (cl0 s r) nilV nilV nilV nilV nilV) 0 false) := by
  refine go_9 (by simp) ?_
  have hb' : ¬ (s < 1 ∨ 1099511627776 < s ∨ r < 1 ∨ 5 < r) := by
    unfold newE at hb
    split at hb
    · cases hb
    · assumption
  have q1 : ¬ s < 1 := fun h => hb' (.inl h)
  have q2 : ¬ 1099511627776 < s := fun h => hb' (.inr (.inl h))
  have q3 : ¬ r < 1 := fun h => hb' (.inr (.inr (.inl h)))
  have q4 : ¬ 5 < r := fun h => hb' (.inr (.inr (.inr h)))
  simp -implicitDefEqProofs (disch:=first|omega|simp only [go_sem,Nat.reduceAdd]) only [go_sem,Int.reduceLT,Int.reduceLE,Int.reduceEq,reduceIte,true_and, c9, q1, q2, q3, q4, dPick_t, dPick_f, bd_cl0]
  exact ⟨_, rfl, rfl, trivial⟩
theorem cl0_at {h : DHeap} {s r : Int} : ClAt NoS (h.push (.row (clL (cl0 s r) nilV nilV nilV nilV nilV) 0 false)) h.next (cl0 s r) nilV nilV nilV nilV nilV :=
  ⟨get_push_same _ _, ⟨.nil _ _ _, .nil _ _ _, .nil _ _ _, .nil _ _ _⟩, .nil _ _ _, Nat.lt_succ_self _, fun _ hi => hi.elim⟩
abbrev askL (k a b : Int) (vc va vr vw : Value) (q : Bool) (vk : Value) (m : Int) : List Value := [.int .i64 k, .int .i64 a, .int .i64 b, vc, va, vr, vw, .bool q, vk, .int .i64 m]
theorem bd_ask {k a b : Int} {vc va vr vw : Value} (hc : vc.cells = #[vc]) (ha : va.cells = #[va]) (hr : vr.cells = #[vr]) (hw : vw.cells = #[vw]) : dBuild Try.prog 36 [(0, .int .i64 k), (1, txnV a b vc va vr vw)] = some (.agg (askL k a b vc va vr vw false nilV 0).toArray) := by
  refine dBuild_at plc_36 ?_
  have e : (txnV a b vc va vr vw).cells = #[.int .i64 a, .int .i64 b, vc, va, vr, vw] := rfl
  simp only [fillL, List.getElem?_cons_zero, List.getElem?_cons_succ, e]
  rfl
theorem ask_one {S S' : Nat → Prop} {h h' : DHeap} {t : Txn} {vc va vr vw vk : Value} {l : List Key} (x : TxV S h t vc va vr vw) (y : Sl fKey.rep S' h' vk l) {k a b m : Int} {q : Bool} : (askL k a b vc va vr vw q vk m).all Value.oneCell' = true := by
  obtain ⟨_, _, rfl⟩ := x.c.isSlice
  obtain ⟨_, _, rfl⟩ := x.a.isSlice
  obtain ⟨_, _, rfl⟩ := x.r.isSlice
  obtain ⟨_, _, rfl⟩ := x.w.isSlice
  obtain ⟨_, _, rfl⟩ := y.isSlice
  rfl
structure AskG (B2 : Nat) (K0 K : DHeap) : Prop where
  keep : Keep B2 K0 K
  row : ∃ R, K.get B2 = some (.row R 0 false) ∧ R.length = 10
def AskV (B B2 : Nat) (c : Cl) (vc va vr vw : Value) (n : Nat) (k : Nat) (h : DHeap) (v : Value) : Prop :=
  match k with
  | 0 => v = .pointer (some ⟨B, 0, none⟩)
  | 1 => v = .pointer (some ⟨B, 0, none⟩)
  | 2 => v = .pointer (some ⟨B, 11, none⟩)
  | 3 => v = .int .i64 c.turn
  | 4 => v = .pointer (some ⟨B, 0, none⟩)
  | 5 => v = .pointer (some ⟨B, 0, none⟩)
  | 6 => v = .pointer (some ⟨B, 4, none⟩)
  | 7 => v = txnV c.t.ses c.t.req vc va vr vw
  | 8 => ∃ vc' va' vr' vw', v = txnV c.t.ses c.t.req vc' va' vr' vw' ∧ TxW (fun i => n ≤ i ∧ i < h.next) h c.t vc' va' vr' vw'
  | 9 => ∃ vc' va' vr' vw', v = .agg (askL c.turn c.t.ses c.t.req vc' va' vr' vw' false nilV 0).toArray ∧ TxW (fun i => n ≤ i ∧ i < h.next) h c.t vc' va' vr' vw'
  | 10 => ∃ vc' va' vr' vw', h.get B2 = some (.row (askL c.turn c.t.ses c.t.req vc' va' vr' vw' false nilV 0) 0 false) ∧ TxW (fun i => n ≤ i ∧ i < h.next) h c.t vc' va' vr' vw'
  | _ => True
theorem txw_ext {h h1 : DHeap} {n : Nat} {t : Txn} {vc va vr vw : Value} (e : Ext h h1) (x : TxW (fun i => n ≤ i ∧ i < h.next) h t vc va vr vw) : TxW (fun i => n ≤ i ∧ i < h1.next) h1 t vc va vr vw :=
  x.mono fun i hi => ⟨⟨hi.1, Nat.lt_of_lt_of_le hi.2 e.next⟩, e.get i hi.2⟩
theorem AskV.ext {B B2 n k : Nat} {c : Cl} {vc va vr vw v : Value} {h h1 : DHeap} (e : Ext h h1) (hB : B2 < h.next) (x : AskV B B2 c vc va vr vw n k h v) : AskV B B2 c vc va vr vw n k h1 v := by
  unfold AskV at *
  split at x <;> try exact x
  · obtain ⟨a, b, c, d, f, g⟩ := x
    exact ⟨a, b, c, d, f, txw_ext e g⟩
  · obtain ⟨a, b, c, d, f, g⟩ := x
    exact ⟨a, b, c, d, f, txw_ext e g⟩
  · obtain ⟨a, b, c, d, f, g⟩ := x
    exact ⟨a, b, c, d, (e.get _ hB).trans f, txw_ext e g⟩
theorem AskV.set {B B2 n k : Nat} {c : Cl} {vc va vr vw v : Value} {h : DHeap} {o : DObj} (x : AskV B B2 c vc va vr vw n k h v) (hk : k ≠ 10) (hB : B2 < n) : AskV B B2 c vc va vr vw n k (h.set B2 o) v := by
  unfold AskV at *
  split at x <;> try exact x
  · obtain ⟨a, b, c, d, f, g⟩ := x
    exact ⟨a, b, c, d, f, g.mono fun i hi => ⟨hi, get_set_other _ _ (by omega)⟩⟩
  · obtain ⟨a, b, c, d, f, g⟩ := x
    exact ⟨a, b, c, d, f, g.mono fun i hi => ⟨hi, get_set_other _ _ (by omega)⟩⟩
  · exact absurd rfl hk
set_option maxHeartbeats 1000000 in
theorem ask_region {S : Nat → Prop} {K0 : DHeap} {B B2 : Nat} {c : Cl} {vc va vr vw vv : Value} {fr : Fr} {rd : Option Nat} (x : ClAt S K0 B c vc va vr vw vv) (hl : TxLen c.t) (hB2 : B2 < K0.next) (hBB : B ≠ B2) (hSB : ∀ i, S i → i ≠ B2) (hrow : ∃ R, K0.get B2 = some (.row R 0 false) ∧ R.length = 10)
    (f0 : fr 0 = some (.pointer (some ⟨B, 0, none⟩))) (f2 : fr 2 = some (.pointer (some ⟨B2, 0, none⟩))) :
    NC Try.prog 13 r33_0 (DThen (fun s => s.df = [] ∧ s.rd = rd ∧ s.fr 2 = fr 2 ∧ Keep B2 K0 s.h ∧ ∃ vc' va' vr' vw', s.h.get B2 = some (.row (askL c.turn c.t.ses c.t.req vc' va' vr' vw' false nilV 0) 0 false) ∧ TxW (fun i => K0.next ≤ i ∧ i < s.h.next) s.h c.t vc' va' vr' vw') (fun _ _ => False)) ⟨fr, [], K0, rd⟩ := by
  refine NC.regsU (l := l33_0) (by kernel_rfl) (by kernel_rfl) (by kernel_rfl) rfl (by kernel_rfl) (by kernel_rfl) (fun p q => AskG B2 K0 p → AskG B2 K0 q) (fun _ h => h) (fun _ _ _ f g h => g (f h)) (AskV B B2 c vc va vr vw K0.next) (fun _ => none) (fun _ _ => True) (fun _ => trivial) ?_ ?_
  case refine_2 =>
    rintro ⟨fr1, df1, K, rd1⟩ g hF
    have gg := g.ext ⟨⟨Nat.le_refl _, rfl, fun _ _ _ => rfl⟩, hrow⟩
    obtain ⟨_, hx⟩ := (hF 10 (by decide) rfl).fact
    exact ⟨g.df, g.rd, g.fr 2 (by kernel_rfl), gg.keep, hx⟩
  intro k oo s ho g hpre hown hF hU
  have gg := g.ext ⟨⟨Nat.le_refl _, rfl, fun _ _ _ => rfl⟩, hrow⟩
  have hBs : B2 < s.h.next := Nat.lt_of_lt_of_le hB2 gg.keep.next
  have hx : ClAt S s.h B c vc va vr vw vv := ⟨(gg.keep.get _ x.lt hBB).trans x.row, x.tx.mono fun i hi => ⟨hi, gg.keep.get i (x.inS i hi).1 (hSB i hi)⟩, x.lv.mono fun i hi => ⟨hi, gg.keep.get i (x.inS i hi).1 (hSB i hi)⟩, Nat.lt_of_lt_of_le x.lt gg.keep.next, fun i hi => ⟨Nat.lt_of_lt_of_le (x.inS i hi).1 gg.keep.next, (x.inS i hi).2⟩⟩
  have F0 : s.fr 0 = some (.pointer (some ⟨B, 0, none⟩)) := (g.fr 0 (by kernel_rfl)).trans f0
  have F2 : s.fr 2 = some (.pointer (some ⟨B2, 0, none⟩)) := (g.fr 2 (by kernel_rfl)).trans f2
  have hvc := x.tx.c.cells1
  have hva := x.tx.a.cells1
  have hvr := x.tx.r.cells1
  have hvw := x.tx.w.cells1
  have hk' : k < 11 := (List.getElem?_eq_some_iff.1 ho).1
  match k, hk' with
  | 0, _ =>
    simp only [l33_0, List.getElem?_cons_zero, List.getElem?_cons_succ, Option.some.injEq] at ho
    subst ho
    exact regu_pure (v := .pointer (some ⟨B, 0, none⟩)) (fun _ h => h) vz (vy F0) rfl
  | 1, _ =>
    simp only [l33_0, List.getElem?_cons_zero, List.getElem?_cons_succ, Option.some.injEq] at ho
    subst ho
    have q0 : s.fr 3 = some (.pointer (some ⟨B, 0, none⟩)) := (hF 0 (by kernel_rfl) (.inl rfl)).eq rfl fun _ _ e => e
    exact regu_pure (v := .pointer (some ⟨B, 0, none⟩)) (fun _ h => h) vz (vy q0) rfl
  | 2, _ =>
    simp only [l33_0, List.getElem?_cons_zero, List.getElem?_cons_succ, Option.some.injEq] at ho
    subst ho
    have q1 : s.fr 4 = some (.pointer (some ⟨B, 0, none⟩)) := (hF 1 (by kernel_rfl) (.inl rfl)).eq rfl fun _ _ e => e
    exact regu_pure (v := .pointer (some ⟨B, 11, none⟩)) (fun _ h => h) vz (vy q1) rfl
  | 3, _ =>
    simp only [l33_0, List.getElem?_cons_zero, List.getElem?_cons_succ, Option.some.injEq] at ho
    subst ho
    have q2 : s.fr 5 = some (.pointer (some ⟨B, 11, none⟩)) := (hF 2 (by kernel_rfl) (.inl rfl)).eq rfl fun _ _ e => e
    exact regu_pure (v := .int .i64 c.turn) (fun _ h => h) vz (by simp -implicitDefEqProofs (disch:=first|omega|simp only [go_sem,Nat.reduceAdd]) only [go_sem,Int.reduceLT,Int.reduceLE,Int.reduceEq,reduceIte,true_and, q2, hx.cell]) rfl
  | 4, _ =>
    simp only [l33_0, List.getElem?_cons_zero, List.getElem?_cons_succ, Option.some.injEq] at ho
    subst ho
    exact regu_pure (v := .pointer (some ⟨B, 0, none⟩)) (fun _ h => h) vz (vy F0) rfl
  | 5, _ =>
    simp only [l33_0, List.getElem?_cons_zero, List.getElem?_cons_succ, Option.some.injEq] at ho
    subst ho
    have q4 : s.fr 7 = some (.pointer (some ⟨B, 0, none⟩)) := (hF 4 (by kernel_rfl) (.inl rfl)).eq rfl fun _ _ e => e
    exact regu_pure (v := .pointer (some ⟨B, 0, none⟩)) (fun _ h => h) vz (vy q4) rfl
  | 6, _ =>
    simp only [l33_0, List.getElem?_cons_zero, List.getElem?_cons_succ, Option.some.injEq] at ho
    subst ho
    have q5 : s.fr 8 = some (.pointer (some ⟨B, 0, none⟩)) := (hF 5 (by kernel_rfl) (.inl rfl)).eq rfl fun _ _ e => e
    exact regu_pure (v := .pointer (some ⟨B, 4, none⟩)) (fun _ h => h) vz (vy q5) rfl
  | 7, _ =>
    simp only [l33_0, List.getElem?_cons_zero, List.getElem?_cons_succ, Option.some.injEq] at ho
    subst ho
    have q6 : s.fr 9 = some (.pointer (some ⟨B, 4, none⟩)) := (hF 6 (by kernel_rfl) (.inl rfl)).eq rfl fun _ _ e => e
    exact regu_pure (v := txnV c.t.ses c.t.req vc va vr vw) (fun _ h => h) vz (by simp -implicitDefEqProofs (disch:=first|omega|simp only [go_sem,Nat.reduceAdd]) only [go_sem,Int.reduceLT,Int.reduceLE,Int.reduceEq,reduceIte,true_and, q6, hx.txn]) rfl
  | 8, _ =>
    simp only [l33_0, List.getElem?_cons_zero, List.getElem?_cons_succ, Option.some.injEq] at ho
    subst ho
    have q7 : s.fr 10 = some (txnV c.t.ses c.t.req vc va vr vw) := (hF 7 (by kernel_rfl) (.inl rfl)).eq rfl fun _ _ e => e
    refine regu_ct vz (vy q7) (cloneT_w (hx.tx.mono fun i hi => ⟨(hx.inS i hi).1, rfl⟩) hl) fun r h2 hR => ?_
    obtain ⟨c', a', r', w', e1, e2, e3⟩ := hR
    refine ⟨_, e1, fun gx => ⟨gx.keep.ext e2, ?_⟩, ⟨c', a', r', w', rfl, e3.mono fun i hi => ⟨⟨Nat.le_trans gg.keep.next hi.1, hi.2⟩, rfl⟩⟩, fun j u _ _ _ hV => hV.ext e2 hBs, fun _ _ _ _ => trivial⟩
    obtain ⟨R, hR⟩ := gx.row
    exact ⟨R, (e2.get _ hBs).trans hR.1, hR.2⟩
  | 9, _ =>
    simp only [l33_0, List.getElem?_cons_zero, List.getElem?_cons_succ, Option.some.injEq] at ho
    subst ho
    have q3 : s.fr 6 = some (.int .i64 c.turn) := (hF 3 (by kernel_rfl) (.inl rfl)).eq rfl fun _ _ e => e
    obtain ⟨u, q8, c', a', r', w', e1, e2⟩ := (hF 8 (by kernel_rfl) (.inl rfl)).ex (d := 11) rfl
    subst e1
    have hbd := bd_ask (k := c.turn) (a := c.t.ses) (b := c.t.req) e2.v.c.cells1 e2.v.a.cells1 e2.v.r.cells1 e2.v.w.cells1
    exact regu_pure (v := .agg (askL c.turn c.t.ses c.t.req c' a' r' w' false nilV 0).toArray) (fun _ h => h) vz (by simp -implicitDefEqProofs (disch:=first|omega|simp only [go_sem,Nat.reduceAdd]) only [go_sem,Int.reduceLT,Int.reduceLE,Int.reduceEq,reduceIte,true_and, q3, q8, hbd]) ⟨c', a', r', w', rfl, e2⟩
  | 10, _ =>
    simp only [l33_0, List.getElem?_cons_zero, List.getElem?_cons_succ, Option.some.injEq] at ho
    subst ho
    obtain ⟨u, q9, c', a', r', w', e1, e2⟩ := (hF 9 (by kernel_rfl) (.inl rfl)).ex (d := 12) rfl
    subst e1
    obtain ⟨R, hR, hRl⟩ := gg.row
    have hst := storeAll (vs := askL c.turn c.t.ses c.t.req c' a' r' w' false nilV 0) hR hRl.symm (ask_one e2.v (.nil fKey.rep NoS s.h))
    have hc := e2.v.c.cells1
    have ha := e2.v.a.cells1
    have hr := e2.v.r.cells1
    have hw := e2.v.w.cells1
    exact regu_store (h' := s.h.set B2 (.row (askL c.turn c.t.ses c.t.req c' a' r' w' false nilV 0) 0 false)) vz (by simp -implicitDefEqProofs (disch:=first|omega|simp only [go_sem,Nat.reduceAdd]) only [go_sem,Int.reduceLT,Int.reduceLE,Int.reduceEq,reduceIte,true_and, F2, q9, hst]) (fun gx => ⟨gx.keep.set _, _, get_set_same _ _, rfl⟩) ⟨c', a', r', w', get_set_same _ _, e2.mono fun i hi => ⟨hi, get_set_other _ _ (by omega)⟩⟩ (fun j u h1 _ _ hV => hV.set h1 hB2) (fun _ _ _ _ => trivial)
theorem ask_w {S : Nat → Prop} {h : DHeap} {B : Nat} {c : Cl} {vc va vr vw vv : Value} (x : ClAt S h B c vc va vr vw vv) (hl : TxLen c.t) :
    Ct Try.prog 33 [.pointer (some ⟨B, 0, none⟩)] h fun r h1 => ∃ vc' va' vr' vw', r = .ret (.agg (askL c.turn c.t.ses c.t.req vc' va' vr' vw' false nilV 0).toArray) ∧ Ext h h1 ∧ TxW (Fresh h h1) h1 c.t vc' va' vr' vw' := by
  refine go_33 (by simp) ?_
  obtain ⟨H, hH⟩ : ∃ H, H = h.push (.row askL0 0 false) := ⟨_, rfl⟩
  have hE : Ext h H := by rw [hH]; exact Ext.push1 _ _
  have hHn : H.next = h.next + 1 := by rw [hH]; rfl
  have gb : H.get h.next = some (.row askL0 0 false) := by rw [hH]; exact get_push_same _ _
  have xlt := x.lt
  simp -implicitDefEqProofs (disch:=first|omega|simp only [go_sem,Nat.reduceAdd]) only [go_sem,Int.reduceLT,Int.reduceLE,Int.reduceEq,reduceIte,true_and, c33, next_push, ← hH]
  refine NC.mono (ask_region (B2 := h.next) (x.ext hE) hl (by omega) (by omega) (fun i hi => by have := (x.inS i hi).1; omega) ⟨_, gb, rfl⟩ vz vz) ?_
  rintro e ⟨fr1, df1, M, rd1⟩ hM
  cases e <;> try exact hM.elim
  obtain ⟨rfl, rfl, q2, hk, vc', va', vr', vw', hrow, ht⟩ := hM
  have Q2 : fr1 2 = some (.pointer (some ⟨h.next, 0, none⟩)) := q2.trans vz
  have hMn : _ ≤ M.next := hk.next
  have hca : cellsAt M h.next 0 10 = _ := row_cells hrow rfl
  simp -implicitDefEqProofs (disch:=first|omega|simp only [go_sem,Nat.reduceAdd]) only [go_sem,Int.reduceLT,Int.reduceLE,Int.reduceEq,reduceIte,true_and]
  refine ret_at (v := .agg (askL c.turn c.t.ses c.t.req vc' va' vr' vw' false nilV 0).toArray) ?_ ⟨vc', va', vr', vw', rfl, hk.toExt hE (Nat.le_refl _), ht.mono fun i hi => ⟨⟨by omega, hi.2⟩, rfl⟩⟩
  rw [dResults_c1]
  simp -implicitDefEqProofs (disch:=first|omega|simp only [go_sem,Nat.reduceAdd]) only [go_sem,Int.reduceLT,Int.reduceLE,Int.reduceEq,reduceIte,true_and, Q2, hca, dResC_some]
theorem ask_c {S : Nat → Prop} {h : DHeap} {B : Nat} {c : Cl} {vc va vr vw vv : Value} (x : ClAt S h B c vc va vr vw vv) (hl : TxLen c.t) :
    Ct Try.prog 33 [.pointer (some ⟨B, 0, none⟩)] h fun r h1 => ∃ vc' va' vr' vw', r = .ret (.agg (askL c.turn c.t.ses c.t.req vc' va' vr' vw' false nilV 0).toArray) ∧ Ext h h1 ∧ TxV (Fresh h h1) h1 c.t vc' va' vr' vw' :=
  (ask_w x hl).mono fun r h1 => by
    rintro ⟨a, b, c, d, e, f, g⟩
    exact ⟨a, b, c, d, e, f, g.v⟩
end Go.Proofs.Ytbdljpndncohaaa
