/-
A part of the proof of a law: contracts of functions over plain heaps, and what they lean on. Conditions: none.
-/
import Derived.Shelf.SlSortCmp.WholeK
import Derived.Test.YtbdljpndncohaaaProg
import Derived.Test.YtbdljpndncohaaaRows
import Derived.ChangeArms
import Derived.ChangeOld
import Derived.ChangeReads
import Derived.ChangeSame
import Derived.WalkKit
import Derived.ProofKit
import Derived.OpenShut
import Derived.JoinedCond
import Derived.Test.YtbdljpndncohaaaBase1
import Derived.Test.YtbdljpndncohaaaBase2
import Derived.Test.YtbdljpndncohaaaClientOwnParts1
set_option linter.unusedSimpArgs false
set_option linter.unusedVariables false
namespace Go.Proofs.Ytbdljpndncohaaa
open Go.D
set_option maxRecDepth 100000

theorem clone_u8 {h : DHeap} {b : Value} {l : List Int} (hb : Arg fU8.rep h b l) (hl : l.length ≤ 4294967296) : DC Try.prog 50 [b] h (.ret (cloneV h b l)) (cloneH fU8 h b l) := by
  refine Ct.cloned hb (go_50 (by simp) ?_)
  simp -implicitDefEqProofs (disch:=first|omega|simp only [go_sem,Nat.reduceAdd]) only [go_sem,Int.reduceLT,Int.reduceLE,Int.reduceEq,reduceIte, c50, hb.nilEq isl_22]
  refine XIf_split (fun hn => ?_) (fun hn => ?_)
  · simp -implicitDefEqProofs (disch:=first|omega|simp only [go_sem,Nat.reduceAdd]) only [go_sem,Int.reduceLT,Int.reduceLE,Int.reduceEq,reduceIte]
    obtain ⟨_, rfl⟩ := isNilV_nil hb hn
    exact ⟨_, rfl, _, rfl, .nil _ (.refl h), hn.symm⟩
  · have m0 : Made fU8 h (h.push (.row [] 1 false)) (.slice (some ⟨h.next, 0, none⟩) 0 0) [] := .none0 fU8 (.refl h) rfl
    obtain ⟨v2, h2, e2, m2, k2⟩ := m0.append app_22 (hb.ext (Ext.push1 _ _)) (by simpa using hl) (by decide)
    simp -implicitDefEqProofs (disch:=first|omega|simp only [go_sem,Nat.reduceAdd]) only [go_sem,Int.reduceLT,Int.reduceLE,Int.reduceEq,reduceIte, e2]
    exact ⟨_, rfl, _, rfl, m2, (m0.isNil_append rfl m2 fun hk => (k2 hk).1).trans hn.symm⟩

end Go.Proofs.Ytbdljpndncohaaa

namespace Go.Proofs.Ytbdljpndncohaaa
open Go.D
set_option maxRecDepth 100000

end Go.Proofs.Ytbdljpndncohaaa

namespace Go.Proofs.Ytbdljpndncohaaa
open Go.D
set_option maxRecDepth 100000

end Go.Proofs.Ytbdljpndncohaaa

namespace Go.Proofs.Ytbdljpndncohaaa
open Go.D
set_option maxRecDepth 100000

theorem nan32_c {h : DHeap} {n : Int} : DC Try.prog 81 [.int .i32 n] h (.ret (.bool false)) h := by
  refine Ct.pure (go_81 (by simp) ?_) (vin_bool _)
  simp -implicitDefEqProofs (disch:=first|omega|simp only [go_sem,Nat.reduceAdd]) only [go_sem,Int.reduceLT,Int.reduceLE,Int.reduceEq,reduceIte, c81]
  exact ⟨_, rfl, rfl, .refl h⟩
theorem nan64_c {h : DHeap} {n : Int} : DC Try.prog 82 [.int .i64 n] h (.ret (.bool false)) h := by
  refine Ct.pure (go_82 (by simp) ?_) (vin_bool _)
  simp -implicitDefEqProofs (disch:=first|omega|simp only [go_sem,Nat.reduceAdd]) only [go_sem,Int.reduceLT,Int.reduceLE,Int.reduceEq,reduceIte, c82]
  exact ⟨_, rfl, rfl, .refl h⟩
def cmpI (a b : Int) : Int := if a < b then -1 else if b < a then 1 else 0
theorem cmp32_c {h : DHeap} {a b : Int} : DC Try.prog 67 [.int .i32 a, .int .i32 b] h (.ret (.int .i64 (cmpI a b))) h := by
  refine Ct.pure (go_67 (by simp) ?_) (vin_int _ _)
  unfold cmpI
  simp -implicitDefEqProofs (disch:=first|omega|simp only [go_sem,Nat.reduceAdd]) only [go_sem,Int.reduceLT,Int.reduceLE,Int.reduceEq,reduceIte, c67]
  refine ncall nan32_c ?_
  simp -implicitDefEqProofs (disch:=first|omega|simp only [go_sem,Nat.reduceAdd]) only [go_sem,Int.reduceLT,Int.reduceLE,Int.reduceEq,reduceIte]
  refine ncall nan32_c ?_
  by_cases h0 : a < b
  · simp -implicitDefEqProofs (disch:=first|omega|simp only [go_sem,Nat.reduceAdd]) only [go_sem,Int.reduceLT,Int.reduceLE,Int.reduceEq,reduceIte, h0]
    exact ⟨_, rfl, rfl, .refl h⟩
  by_cases h1 : b < a
  · simp -implicitDefEqProofs (disch:=first|omega|simp only [go_sem,Nat.reduceAdd]) only [go_sem,Int.reduceLT,Int.reduceLE,Int.reduceEq,reduceIte, h0, gt_iff_lt, h1]
    exact ⟨_, rfl, rfl, .refl h⟩
  · simp -implicitDefEqProofs (disch:=first|omega|simp only [go_sem,Nat.reduceAdd]) only [go_sem,Int.reduceLT,Int.reduceLE,Int.reduceEq,reduceIte, h0, gt_iff_lt, h1]
    exact ⟨_, rfl, rfl, .refl h⟩
theorem cmp64_c {h : DHeap} {a b : Int} : DC Try.prog 68 [.int .i64 a, .int .i64 b] h (.ret (.int .i64 (cmpI a b))) h := by
  refine Ct.pure (go_68 (by simp) ?_) (vin_int _ _)
  unfold cmpI
  simp -implicitDefEqProofs (disch:=first|omega|simp only [go_sem,Nat.reduceAdd]) only [go_sem,Int.reduceLT,Int.reduceLE,Int.reduceEq,reduceIte, c68]
  refine ncall nan64_c ?_
  simp -implicitDefEqProofs (disch:=first|omega|simp only [go_sem,Nat.reduceAdd]) only [go_sem,Int.reduceLT,Int.reduceLE,Int.reduceEq,reduceIte]
  refine ncall nan64_c ?_
  by_cases h0 : a < b
  · simp -implicitDefEqProofs (disch:=first|omega|simp only [go_sem,Nat.reduceAdd]) only [go_sem,Int.reduceLT,Int.reduceLE,Int.reduceEq,reduceIte, h0]
    exact ⟨_, rfl, rfl, .refl h⟩
  by_cases h1 : b < a
  · simp -implicitDefEqProofs (disch:=first|omega|simp only [go_sem,Nat.reduceAdd]) only [go_sem,Int.reduceLT,Int.reduceLE,Int.reduceEq,reduceIte, h0, gt_iff_lt, h1]
    exact ⟨_, rfl, rfl, .refl h⟩
  · simp -implicitDefEqProofs (disch:=first|omega|simp only [go_sem,Nat.reduceAdd]) only [go_sem,Int.reduceLT,Int.reduceLE,Int.reduceEq,reduceIte, h0, gt_iff_lt, h1]
    exact ⟨_, rfl, rfl, .refl h⟩
def orI : List Int → Int
  | [] => 0
  | a :: l => if a = 0 then orI l else a
theorem or_c {h : DHeap} {b : Value} {l : List Int} (hb : Arg fI64.rep h b l) (hlen : l.length ≤ 4294967296) : DC Try.prog 66 [b] h (.ret (.int .i64 (orI l))) h := by
  refine Ct.pure (go_66 (by simp) ?_) (vin_int _ _)
  have el := hb.dLen (P := Try.prog) (ts := #[131]) (t := 131) rfl isl_131
  simp -implicitDefEqProofs (disch:=first|omega|simp only [go_sem,Nat.reduceAdd]) only [go_sem,Int.reduceLT,Int.reduceLE,Int.reduceEq,reduceIte, c66, el]
  refine xloop (σ := Nat) (by kernel_rfl) (fun i s => s.df = [] ∧ s.h = h ∧ s.fr 3 = some (.int .i64 0) ∧ s.fr 6 = some b ∧ s.fr 7 = some (.int .i64 l.length) ∧ s.fr 8 = some (.int .i64 (i : Nat)) ∧ i ≤ l.length ∧ orI (l.drop i) = orI l) (fun i => l.length - i) 0 ?_ ?_
  · simp -implicitDefEqProofs (disch:=first|omega|simp only [go_sem,Nat.reduceAdd]) only [go_sem,Int.reduceLT,Int.reduceLE,Int.reduceEq,reduceIte]
    exact ⟨by trivial, by trivial, by trivial, by trivial, by trivial, by trivial, Nat.zero_le _, by rw [List.drop_zero]⟩
  · rintro i ⟨fr, df, hh, rd⟩ K hK hX ⟨rfl, rfl, h3, h6, h7, h8, hi, ho⟩
    simp only at h3 h6 h7 h8
    simp -implicitDefEqProofs (disch:=first|omega|simp only [go_sem,Nat.reduceAdd]) only [go_sem,Int.reduceLT,Int.reduceLE,Int.reduceEq,reduceIte, h3, h6, h7, h8]
    refine XIf_dec (fun hc1 => ?_) (fun hc1 => ?_)
    · have hj : i < l.length := by omega
      obtain ⟨id2, o2, e2, _, hat2⟩ := hb.idx (P := Try.prog) (t := 131) el_131 (k := .i64) (i := i) (x := l[i]) (by simp)
      have hw := wrap_succ hj (by omega)
      rw [List.drop_eq_getElem_cons hj] at ho
      by_cases hx : l[i] = 0
      · simp -implicitDefEqProofs (disch:=first|omega|simp only [go_sem,Nat.reduceAdd]) only [go_sem,Int.reduceLT,Int.reduceLE,Int.reduceEq,reduceIte, h3, h6, h7, h8, e2, hat2.int, hx, hw]
        refine hK (i + 1) _ ?_ (by omega)
        exact ⟨by trivial, by trivial, by simp -implicitDefEqProofs (disch:=first|omega|simp only [go_sem,Nat.reduceAdd]) only [go_sem,Int.reduceLT,Int.reduceLE,Int.reduceEq,reduceIte, h3], by simp -implicitDefEqProofs (disch:=first|omega|simp only [go_sem,Nat.reduceAdd]) only [go_sem,Int.reduceLT,Int.reduceLE,Int.reduceEq,reduceIte, h6], by simp -implicitDefEqProofs (disch:=first|omega|simp only [go_sem,Nat.reduceAdd]) only [go_sem,Int.reduceLT,Int.reduceLE,Int.reduceEq,reduceIte, h7], by simp -implicitDefEqProofs (disch:=first|omega|simp only [go_sem,Nat.reduceAdd]) only [go_sem,Int.reduceLT,Int.reduceLE,Int.reduceEq,reduceIte], by omega, by rw [← ho, orI, if_pos hx]⟩
      · simp -implicitDefEqProofs (disch:=first|omega|simp only [go_sem,Nat.reduceAdd]) only [go_sem,Int.reduceLT,Int.reduceLE,Int.reduceEq,reduceIte, h3, h6, h7, h8, e2, hat2.int, hx, hw]
        refine hX _ _ (by simp) ?_
        simp -implicitDefEqProofs (disch:=first|omega|simp only [go_sem,Nat.reduceAdd]) only [go_sem,Int.reduceLT,Int.reduceLE,Int.reduceEq,reduceIte]
        refine ⟨_, rfl, ?_, .refl hh⟩
        rw [← ho, orI, if_neg hx]
    · obtain rfl : i = l.length := by omega
      refine hX _ _ (by simp) ?_
      simp -implicitDefEqProofs (disch:=first|omega|simp only [go_sem,Nat.reduceAdd]) only [go_sem,Int.reduceLT,Int.reduceLE,Int.reduceEq,reduceIte, h3]
      refine ⟨_, rfl, ?_, .refl hh⟩
      rw [← ho, List.drop_length]; rfl
end Go.Proofs.Ytbdljpndncohaaa

namespace Go.Proofs.Ytbdljpndncohaaa
open Go.D
set_option maxRecDepth 100000

abbrev keyV (k : Key) : Value := .agg #[.int .i32 k.t, .int .i64 k.r]
def keyLt (a b : Key) : Bool := decide (a.t < b.t) || (decide (a.t = b.t) && decide (a.r < b.r))
def keyCmp (a b : Key) : Int := if cmpI a.t b.t = 0 then cmpI a.r b.r else cmpI a.t b.t
theorem cmpI_zero {a b : Int} : cmpI a b = 0 ↔ a = b := by
  unfold cmpI; split
  · constructor <;> intro h <;> omega
  · split
    · constructor <;> intro h <;> omega
    · constructor <;> intro h <;> omega
theorem cmpI_neg {a b : Int} : cmpI a b < 0 ↔ a < b := by
  unfold cmpI; split
  · constructor <;> intro h <;> omega
  · split
    · constructor <;> intro h <;> omega
    · constructor <;> intro h <;> omega
theorem keyCmp_neg (a b : Key) : decide (keyCmp a b < 0) = keyLt a b := by
  unfold keyCmp keyLt
  by_cases h : a.t = b.t
  · rw [if_pos (cmpI_zero.2 h)]
    rw [show decide (a.t < b.t) = false by simp; omega, show decide (a.t = b.t) = true by simp [h]]
    simp [cmpI_neg]
  · rw [if_neg (fun hh => h (cmpI_zero.1 hh)), show decide (a.t = b.t) = false by simp [h]]
    simp [cmpI_neg]
theorem keyCmp_or (a b : Key) : orI [cmpI a.t b.t, cmpI a.r b.r] = keyCmp a b := by
  unfold keyCmp orI orI orI
  split
  · split
    · rename_i h; exact h.symm
    · rfl
  · rfl
theorem cmpI_ok (a b : Int) : inK .i64 (cmpI a b) := by
  unfold cmpI; split
  · exact inK_i64.2 ⟨by decide, by decide⟩
  · split <;> exact inK_i64.2 ⟨by decide, by decide⟩
theorem compare_c {h : DHeap} {a b : Key} : DC Try.prog 53 [keyV a, keyV b] h (.ret (.int .i64 (keyCmp a b))) h := by
  refine Ct.pure (go_53 (by simp) ?_) (vin_int _ _)
  simp -implicitDefEqProofs (disch:=first|omega|simp only [go_sem,Nat.reduceAdd]) only [go_sem,Int.reduceLT,Int.reduceLE,Int.reduceEq,reduceIte, c53]
  refine dr_53_0 ?_
  simp -implicitDefEqProofs (disch:=first|omega|simp only [go_sem,Nat.reduceAdd]) only [go_sem,Int.reduceLT,Int.reduceLE,Int.reduceEq,reduceIte, l53_0, cellAt_p1, cellAt_p0, Nat.add_zero, Nat.zero_add]
  refine dcall cmp32_c ?_
  simp -implicitDefEqProofs (disch:=first|omega|simp only [go_sem,Nat.reduceAdd]) only [go_sem,Int.reduceLT,Int.reduceLE,Int.reduceEq,reduceIte, l53_0, cellAt_p1, cellAt_p0, Nat.add_zero, Nat.zero_add]
  refine dcall cmp64_c ?_
  simp -implicitDefEqProofs (disch:=first|omega|simp only [go_sem,Nat.reduceAdd]) only [go_sem,Int.reduceLT,Int.reduceLE,Int.reduceEq,reduceIte]
  have ha : ∀ K : DHeap, Arg fI64.rep (K.push (.row [.int .i64 (cmpI a.t b.t), .int .i64 (cmpI a.r b.r)] 1 false)) (.slice (some ⟨K.next, 0, none⟩) 2 2) [cmpI a.t b.t, cmpI a.r b.r] := fun K =>
    built fI64 K rfl rfl rfl (fun x hx => by
      rcases List.mem_cons.1 hx with rfl | hx
      · exact cmpI_ok _ _
      · rw [List.mem_singleton.1 hx]; exact cmpI_ok _ _)
  refine dcall (or_c (ha _) (Nat.le_of_ble_eq_true rfl)) ?_
  rw [keyCmp_or]
  simp -implicitDefEqProofs (disch:=first|omega|simp only [go_sem,Nat.reduceAdd]) only [go_sem,Int.reduceLT,Int.reduceLE,Int.reduceEq,reduceIte, Nat.reduceAdd]
  refine ⟨⟨XSt1_at (i := 6) (j := 4) rfl rfl rfl ?_, XSt1_at (i := 8) (j := 4) rfl rfl rfl ?_, trivial⟩, _, rfl, rfl, ((Ext.push1 _ _).push _).push _⟩
  · rw [if_pos (by decide)]
    refine Ld_on (p := .pointer (some ⟨h.next, 1, none⟩)) ?_ ?_ (ld_2.trans cellAt_p1)
    · simp -implicitDefEqProofs (disch:=first|omega|simp only [go_sem,Nat.reduceAdd]) only [go_sem,Int.reduceLT,Int.reduceLE,Int.reduceEq,reduceIte]
    · simp -implicitDefEqProofs (disch:=first|omega|simp only [go_sem,Nat.reduceAdd]) only [go_sem,Int.reduceLT,Int.reduceLE,Int.reduceEq,reduceIte]
  · rw [if_pos (by decide)]
    refine Ld_on (p := .pointer (some ⟨_, 1, none⟩)) ?_ ?_ (ld_2.trans cellAt_p0)
    · simp -implicitDefEqProofs (disch:=first|omega|simp only [go_sem,Nat.reduceAdd]) only [go_sem,Int.reduceLT,Int.reduceLE,Int.reduceEq,reduceIte]
    · simp -implicitDefEqProofs (disch:=first|omega|simp only [go_sem,Nat.reduceAdd]) only [go_sem,Int.reduceLT,Int.reduceLE,Int.reduceEq,reduceIte]
/-- each below the next -/
def risesB {α : Type} (lt : α → α → Bool) : List α → Bool
  | a :: b :: l => lt a b && risesB lt (b :: l)
  | _ => true
theorem risesB_short {α : Type} {lt : α → α → Bool} : ∀ {l : List α}, l.length ≤ 1 → risesB lt l = true
  | [], _ => rfl
  | [_], _ => rfl
  | _ :: _ :: _, h => by simp at h
theorem risesB_two {α : Type} {lt : α → α → Bool} {l : List α} {j : Nat} (h : j + 1 < l.length) : risesB lt (l.drop j) = (lt l[j] l[j + 1] && risesB lt (l.drop (j + 1))) := by
  rw [List.drop_eq_getElem_cons (show j < l.length by omega), List.drop_eq_getElem_cons h, risesB]
end Go.Proofs.Ytbdljpndncohaaa

namespace Go.Proofs.Ytbdljpndncohaaa
open Go.D
set_option maxRecDepth 100000

end Go.Proofs.Ytbdljpndncohaaa

namespace Go.Proofs.Ytbdljpndncohaaa
open Go.D
set_option maxRecDepth 100000

end Go.Proofs.Ytbdljpndncohaaa

namespace Go.Proofs.Ytbdljpndncohaaa
open Go.D
set_option maxRecDepth 100000

end Go.Proofs.Ytbdljpndncohaaa

namespace Go.Proofs.Ytbdljpndncohaaa
open Go.D
set_option maxRecDepth 100000

theorem fld_key : fldsOf Try.prog 54 = some [(21, 0), (2, 1)] := by kernel_rfl
theorem und_i32 : Try.prog.underlying 21 = some (.int .i32) := by kernel_rfl
theorem und_i64 : Try.prog.underlying 2 = some (.int .i64) := by kernel_rfl
theorem grd_key : Try.prog.eqGuardType Try.prog.depth 54 = false := by kernel_rfl
theorem Key.ext_iff' {a b : Key} : a = b ↔ a.t = b.t ∧ a.r = b.r := by cases a; cases b; simp
theorem Cell.ext_iff' {a b : Cell} : a = b ↔ a.k = b.k ∧ a.v = b.v ∧ a.s = b.s := by cases a; cases b; simp
theorem key_eq (d : Nat) (a b : Key) : quick Try.prog (Op.equalIn (d + 1 + 1) 54 (keyV a) (keyV b)) = some (.inr (decide (a = b))) := by
  refine quick_struct fld_key ⟨_, _, _, _, quick_part_one one_21 rfl, quick_part_one one_21 rfl, quick_int und_i32, ⟨_, _, _, _, quick_part_one one_2 rfl, quick_part_one one_2 rfl, quick_int und_i64, rfl, rfl⟩, ?_⟩
  rw [decide_eq_decide.2 Key.ext_iff', Bool.decide_and, Bool.and_true]
  rfl
theorem bin_key {a b : Key} {h : DHeap} {ox oy : Operand} : dBinOp Try.prog .neq 54 ox oy (keyV a) (keyV b) h = .ok (.value (.bool (!decide (a = b)))) h := (bin_agg rfl rfl grd_key (key_eq 9998 a b)).2
theorem bin_key' {a b : Key} {h : DHeap} {ox oy : Operand} : dBinOp Try.prog .eql 54 ox oy (keyV a) (keyV b) h = .ok (.value (.bool (decide (a = b)))) h := (bin_agg rfl rfl grd_key (key_eq 9998 a b)).1

/-- two lists, one by one -/
def sameL {α : Type} (eq : α → α → Bool) : List α → List α → Bool
  | [], [] => true
  | a :: l, b :: m => eq a b && sameL eq l m
  | _, _ => false
theorem sameL_len {α : Type} {eq : α → α → Bool} : ∀ {l m : List α}, l.length ≠ m.length → sameL eq l m = false
  | [], [], h => by simp at h
  | [], _ :: _, _ => rfl
  | _ :: _, [], _ => rfl
  | a :: l, b :: m, h => by
    simp only [sameL]
    rw [sameL_len (l := l) (m := m) (by simpa using h), Bool.and_false]
end Go.Proofs.Ytbdljpndncohaaa

namespace Go.Proofs.Ytbdljpndncohaaa
open Go.D
set_option maxRecDepth 100000

end Go.Proofs.Ytbdljpndncohaaa

namespace Go.Proofs.Ytbdljpndncohaaa
open Go.D
set_option maxRecDepth 100000

end Go.Proofs.Ytbdljpndncohaaa

namespace Go.Proofs.Ytbdljpndncohaaa
open Go.D
set_option maxRecDepth 100000

end Go.Proofs.Ytbdljpndncohaaa

namespace Go.Proofs.Ytbdljpndncohaaa
open Go.D
set_option maxRecDepth 100000

theorem Sl.upto {S : Nat → Prop} {h h1 : DHeap} {b : Value} {l : List Int} (hb : Sl fU8.rep S h b l) (e : ∀ i, S i → h1.get i = h.get i) : Sl fU8.rep S h1 b l := hb.keep e
end Go.Proofs.Ytbdljpndncohaaa

namespace Go.Proofs.Ytbdljpndncohaaa
open Go.D
set_option maxRecDepth 100000

end Go.Proofs.Ytbdljpndncohaaa

namespace Go.Proofs.Ytbdljpndncohaaa
open Go.D
set_option maxRecDepth 100000

end Go.Proofs.Ytbdljpndncohaaa

namespace Go.Proofs.Ytbdljpndncohaaa
open Go.D
set_option maxRecDepth 100000

end Go.Proofs.Ytbdljpndncohaaa

namespace Go.Proofs.Ytbdljpndncohaaa
open Go.Proofs
def sortKey_ren : Go.Shelf.Ren := ⟨fun | 6 => 52 | 15 => 65 | 14 => 64 | 28 => 79 | 29 => 80 | 20 => 71 | 21 => 72 | 22 => 73 | 23 => 74 | 24 => 75 | 25 => 76 | 26 => 77 | 27 => 78 | 46 => 91 | 47 => 92 | 48 => 93 | 49 => 94 | 50 => 95 | 57 => 96 | n => n, fun | 22 => 24 | 24 => 54 | 25 => 101 | 3 => 3 | 39 => 110 | 0 => 0 | 53 => 128 | 55 => 130 | 4 => 4 | 46 => 121 | 45 => 120 | 50 => 125 | 5 => 5 | 9 => 9 | 66 => 138 | 70 => 142 | 76 => 147 | 77 => 148 | n => n, fun | n => n⟩
theorem sortKey : SlLaysF0.n6 Try.prog sortKey_ren where
  mixed := by kernel_rfl
  f6 := ⟨ "slices.SortFunc[[]trivet/api.Key,trivet/api.Key]", by decide, Try.func52.trans (congrArg some (by kernel_rfl))⟩
  f14 := ⟨ "slices.pdqsortCmpFunc[trivet/api.Key]", by decide, Try.func64.trans (congrArg some (by kernel_rfl))⟩
  f15 := Try.func65.trans (congrArg some (by kernel_rfl))
  f20 := ⟨ "slices.insertionSortCmpFunc[trivet/api.Key]", by decide, Try.func71.trans (congrArg some (by kernel_rfl))⟩
  f21 := ⟨ "slices.heapSortCmpFunc[trivet/api.Key]", by decide, Try.func72.trans (congrArg some (by kernel_rfl))⟩
  f22 := ⟨ "slices.breakPatternsCmpFunc[trivet/api.Key]", by decide, Try.func73.trans (congrArg some (by kernel_rfl))⟩
  f23 := ⟨ "slices.choosePivotCmpFunc[trivet/api.Key]", by decide, Try.func74.trans (congrArg some (by kernel_rfl))⟩
  f24 := ⟨ "slices.reverseRangeCmpFunc[trivet/api.Key]", by decide, Try.func75.trans (congrArg some (by kernel_rfl))⟩
  f25 := ⟨ "slices.partialInsertionSortCmpFunc[trivet/api.Key]", by decide, Try.func76.trans (congrArg some (by kernel_rfl))⟩
  f26 := ⟨ "slices.partitionEqualCmpFunc[trivet/api.Key]", by decide, Try.func77.trans (congrArg some (by kernel_rfl))⟩
  f27 := ⟨ "slices.partitionCmpFunc[trivet/api.Key]", by decide, Try.func78.trans (congrArg some (by kernel_rfl))⟩
  f28 := Try.func79.trans (congrArg some (by kernel_rfl))
  f29 := Try.func80.trans (congrArg some (by kernel_rfl))
  f46 := ⟨ "slices.siftDownCmpFunc[trivet/api.Key]", by decide, Try.func91.trans (congrArg some (by kernel_rfl))⟩
  f47 := Try.func92.trans (congrArg some (by kernel_rfl))
  f48 := Try.func93.trans (congrArg some (by kernel_rfl))
  f49 := ⟨ "slices.medianAdjacentCmpFunc[trivet/api.Key]", by decide, Try.func94.trans (congrArg some (by kernel_rfl))⟩
  f50 := ⟨ "slices.medianCmpFunc[trivet/api.Key]", by decide, Try.func95.trans (congrArg some (by kernel_rfl))⟩
  f57 := ⟨ "slices.order2CmpFunc[trivet/api.Key]", by decide, Try.func96.trans (congrArg some (by kernel_rfl))⟩
  t0 := Try.underlying0
  a0 := Try.isAgg0
  z0 := Try.sizeOf0
  v0 := Try.zeroValue0
  t3 := Try.underlying3
  a3 := Try.isAgg3
  z3 := Try.sizeOf3
  v3 := Try.zeroValue3
  t4 := Try.underlying4
  a4 := Try.isAgg4
  z4 := Try.sizeOf4
  v4 := Try.zeroValue4
  t5 := Try.underlying5
  a5 := Try.isAgg5
  z5 := Try.sizeOf5
  v5 := Try.zeroValue5
  t9 := Try.underlying9
  a9 := Try.isAgg9
  z9 := Try.sizeOf9
  v9 := Try.zeroValue9
  t22 := Try.underlying24
  a22 := Try.isAgg24
  z22 := Try.sizeOf24
  v22 := Try.zeroValue24
  t25 := Try.underlying101
  a25 := Try.isAgg101
  z25 := Try.sizeOf101
  v25 := Try.zeroValue101
  t39 := Try.underlying110
  a39 := Try.isAgg110
  z39 := Try.sizeOf110
  v39 := Try.zeroValue110
  t45 := Try.underlying120
  a45 := Try.isAgg120
  z45 := Try.sizeOf120
  v45 := Try.zeroValue120
  t46 := Try.underlying121
  a46 := Try.isAgg121
  z46 := Try.sizeOf121
  v46 := Try.zeroValue121
  t50 := Try.underlying125
  a50 := Try.isAgg125
  z50 := Try.sizeOf125
  v50 := Try.zeroValue125
  t53 := Try.underlying128
  a53 := Try.isAgg128
  z53 := Try.sizeOf128
  v53 := Try.zeroValue128
  t55 := Try.underlying130
  a55 := Try.isAgg130
  z55 := Try.sizeOf130
  v55 := Try.zeroValue130
  t66 := Try.underlying138
  a66 := Try.isAgg138
  z66 := Try.sizeOf138
  v66 := Try.zeroValue138
  t70 := Try.underlying142
  a70 := Try.isAgg142
  z70 := Try.sizeOf142
  v70 := Try.zeroValue142
  t76 := Try.underlying147
  a76 := Try.isAgg147
  z76 := Try.sizeOf147
  v76 := Try.zeroValue147
  t77 := Try.underlying148
  a77 := Try.isAgg148
  z77 := Try.sizeOf148
  v77 := Try.zeroValue148
end Go.Proofs.Ytbdljpndncohaaa

namespace Go.D
open Go.Proofs.Ytbdljpndncohaaa (Rows.uptoBulk Rows.uptoBulkAll)
variable {P : Program}

/-- a picture of which nothing may be written -/
structure Rds (ι : Inj) (h : DHeap) (W : World) : Prop where
  sim : Sim ι h W
  ro : ∀ id e, ι id = some e → e.ro = true
/-- there are cells -/
def Blk (W : World) : Prop := ∃ (b : Nat) (c : Array Value) (t : TypeId) (fz : Nat × Nat), W.heap[b]? = some (Obj.cells c t fz)
/-- there are, if a slice names some -/
def BlkOf (W : World) (cs : List Value) : Prop := ∀ a len cap, Value.slice (some a) len cap ∈ cs → Blk W
theorem BlkOf.of {W : World} (b : Blk W) (cs : List Value) : BlkOf W cs := fun _ _ _ _ => b
theorem BlkOf.sub {W : World} {cs ds : List Value} (b : BlkOf W cs) (h : ∀ v ∈ ds, v ∈ cs) : BlkOf W ds := fun a l c hm => b a l c (h _ hm)
theorem Rds.none (W : World) : Rds (fun _ => none) ⟨fun _ => none, 0, 0⟩ W :=
  ⟨⟨fun _ _ h => (by cases h), fun _ _ h => (by cases h), fun _ _ h => (by cases h), fun _ _ _ _ h => (by cases h), fun g hg => absurd hg (Nat.not_lt_zero _)⟩, fun _ _ h => by cases h⟩
theorem Rds.push {ι : Inj} {h : DHeap} {W : World} (s : Rds ι h W) {b : Nat} {cur : Array Value} {ty : TypeId} {fz : Nat × Nat} (hb : W.heap[b]? = some (.cells cur ty fz)) (shift z : Nat) {cells : List Value}
    (hc : ∀ (i : Nat) v, cells[i]? = some v → ∃ v', cur[shift + i]? = some v' ∧ VRel ι v v') :
    Rds (ι.upd h.next ⟨b, shift, z, 0, true⟩) (h.push (.row cells z true)) W ∧ ι.le (ι.upd h.next ⟨b, shift, z, 0, true⟩) ∧ Ext h (h.push (.row cells z true)) := by
  have hle : ι.le (ι.upd h.next ⟨b, shift, z, 0, true⟩) := Inj.upd_le s.sim.fresh
  have hbl : b < W.heap.size := by
    cases hx : W.heap[b]? with
    | none => rw [hx] at hb; cases hb
    | some _ => exact (Array.getElem?_eq_some_iff.1 hx).1
  have hcase : ∀ id e, (ι.upd h.next ⟨b, shift, z, 0, true⟩) id = some e → (id = h.next ∧ e = ⟨b, shift, z, 0, true⟩) ∨ (id ≠ h.next ∧ ι id = some e) := by
    intro id e he
    unfold Inj.upd at he
    split at he
    · cases he; exact .inl ⟨‹_›, rfl⟩
    · exact .inr ⟨‹_›, he⟩
  have hro : ∀ id e, (ι.upd h.next ⟨b, shift, z, 0, true⟩) id = some e → e.ro = true := by
    intro id e he
    rcases hcase id e he with ⟨_, rfl⟩ | ⟨_, he⟩
    · rfl
    · exact s.ro id e he
  refine ⟨⟨⟨?_, ?_, ?_, ?_, ?_⟩, hro⟩, hle, Ext.push1 _ _⟩
  · intro id e he
    rcases hcase id e he with ⟨rfl, _⟩ | ⟨_, he⟩
    · exact Nat.lt_succ_self _
    · exact Nat.lt_succ_of_lt (s.sim.lt id e he)
  · intro id e he
    rcases hcase id e he with ⟨_, rfl⟩ | ⟨_, he⟩
    · exact hbl
    · exact s.sim.blk id e he
  · intro id e he
    rcases hcase id e he with ⟨rfl, rfl⟩ | ⟨_, he⟩
    · refine ⟨_, get_push_same _ _, rfl, rfl, cur, ty, fz, hb, fun i v hv => ?_, fun hh => by cases hh⟩
      obtain ⟨v', a, r⟩ := hc i v hv
      exact ⟨v', a, r.mono hle⟩
    · obtain ⟨o, a, r⟩ := s.sim.obj id e he
      exact ⟨o, (get_push_other _ _ (s.sim.lt id e he)).trans a, r.mono hle rfl⟩
  · intro id id' e e' he he' _ _
    exact .inr (.inr ⟨hro _ _ he, hro _ _ he'⟩)
  · intro g hg
    obtain ⟨e, a, r⟩ := s.sim.glob g hg
    exact ⟨e, hle _ _ a, r⟩

/-- the cells of a type's data lie as 'R' reads them; the bulk of what is read is at most that of the datum; and they stay as they are read -/
structure Lays {α : Type} (P : Program) (t : TypeId) (R : Rep α) (B : α → Nat) : Prop where
  size : P.cellsOf t = R.z
  lay : ∀ {H : Type} (enc : TypeId × Value → H) (W : World) (n : Nat) (cs : List Value) (x : DataW H × List MemPlace), DataW.trod enc P W 0 (fun _ => true) true n t cs = some x → BlkOf W cs → ∀ (ι : Inj) (h : DHeap), Rds ι h W →
    ∃ ι' h' cs0 y, Rds ι' h' W ∧ ι.le ι' ∧ Ext h h' ∧ LRel ι' cs0 cs ∧ R.rd (fun i => i < h'.next) h' cs0 y ∧ B y ≤ Rows.uptoBulk x.1
  stay : ∀ {H : Type} (enc : TypeId × Value → H) (W W' : World) (n : Nat) (cs : List Value) (x : DataW H × List MemPlace) (sp : Nat → Bool), DataW.trod enc P W 0 (fun _ => true) true n t cs = some x → (∀ p ∈ x.2, W.sameAt W' p) → (∀ p ∈ x.2, sp p.block = true) →
    DataW.trod enc P W' 0 sp true n t cs = some x

theorem Rows.one_le {H : Type} (d : DataW H) : 1 ≤ Rows.uptoBulk d := by
  cases d with
  | lit l => cases l <;> simp [Rows.uptoBulk]
  | nil => simp [Rows.uptoBulk]
  | ptr d => simp [Rows.uptoBulk]
  | slice elems spare => simp [Rows.uptoBulk]
  | agg parts => simp [Rows.uptoBulk]
  | iface t d => simp [Rows.uptoBulk]
  | map entries => simp [Rows.uptoBulk]
  | held h => simp [Rows.uptoBulk]
theorem wf_in {k : IntKind} {n : Int} (h : (Lit.int k n).wf = true) : inK k n := by
  simpa [Lit.wf, inK] using h
theorem trod_pos {H : Type} {enc : TypeId × Value → H} {W : World} {base : Nat} {sp : Nat → Bool} {hd : Bool} {n : Nat} {t : TypeId} {cs : List Value} {x : DataW H × List MemPlace} (h : DataW.trod enc P W base sp hd n t cs = some x) : ∃ m, n = m + 1 := by
  cases n with
  | zero => simp [DataW.trod] at h
  | succ m => exact ⟨m, rfl⟩
theorem Lays.int {t : TypeId} {k : IntKind} (hu : P.underlying t = some (.int k)) (hz : P.cellsOf t = 1) : Lays P t (fI k).rep (fun _ => 1) where
  size := hz
  lay enc W n cs x h _ ι hh s := by
    obtain ⟨m, rfl, rfl, hw⟩ := DataW.trod_int hu h
    exact ⟨ι, hh, [.int k m], m, s, Inj.le_refl _, .refl _, (LRel.nil ι).cons (.int _ _), ⟨rfl, wf_in hw⟩, Rows.one_le _⟩
  stay enc W W' n cs x sp h _ _ := by
    obtain ⟨m, rfl⟩ := trod_pos h
    obtain ⟨i, rfl, rfl, hw⟩ := DataW.trod_int hu h
    simp only [DataW.trod, hu]
    rw [if_pos (by simpa using hw)]
theorem Lays.bool {t : TypeId} (hu : P.underlying t = some .bool) (hz : P.cellsOf t = 1) : Lays P t fB.rep (fun _ => 1) where
  size := hz
  lay enc W n cs x h _ ι hh s := by
    obtain ⟨m, rfl, rfl⟩ := DataW.trod_bool hu h
    exact ⟨ι, hh, [.bool m], m, s, Inj.le_refl _, .refl _, (LRel.nil ι).cons (.bool _), ⟨rfl, trivial⟩, Rows.one_le _⟩
  stay enc W W' n cs x sp h _ _ := by
    obtain ⟨m, rfl⟩ := trod_pos h
    obtain ⟨i, rfl, rfl⟩ := DataW.trod_bool hu h
    simp only [DataW.trod, hu]
/-- read in another way -/
theorem Lays.conv {α β : Type} {t : TypeId} {R : Rep α} {B : α → Nat} {Q : Rep β} {C : β → Nat} (a : Lays P t R B) (hz : R.z = Q.z) (f : α → β) (hf : ∀ S h cs x, R.rd S h cs x → Q.rd S h cs (f x)) (hC : ∀ x, C (f x) ≤ B x) : Lays P t Q C where
  size := a.size.trans hz
  lay enc W n cs x h b ι hh s := by
    obtain ⟨ι', h', cs0, y, g1, g2, g3, g4, g5, g6⟩ := a.lay enc W n cs x h b ι hh s
    exact ⟨ι', h', cs0, f y, g1, g2, g3, g4, hf _ _ _ _ g5, Nat.le_trans (hC y) g6⟩
  stay := a.stay

/-! ### Structs -/
/-- fields that lie one behind the other -/
inductive Flds (P : Program) : {α : Type} → Nat → List Field → Rep α → (α → Nat) → Prop
  | one {α : Type} {off : Nat} {f : Field} {R : Rep α} {B : α → Nat} (ho : f.offset = off) (hl : Lays P f.type R B) : Flds P off [f] R B
  | cons {α β : Type} {off : Nat} {f : Field} {fs : List Field} {R : Rep α} {B : α → Nat} {Q : Rep β} {C : β → Nat} (ho : f.offset = off) (hl : Lays P f.type R B) (hr : Flds P (off + R.z) fs Q C) : Flds P off (f :: fs) (rP R Q) (fun x => B x.1 + C x.2)
theorem rd_ext {α : Type} (R : Rep α) {h h' : DHeap} {cs : List Value} {x : α} (a : R.rd (fun i => i < h.next) h cs x) (e : Ext h h') : R.rd (fun i => i < h'.next) h' cs x := R.mono a fun i hi => ⟨Nat.lt_of_lt_of_le hi e.next, e.get i hi⟩
theorem Flds.lay {α : Type} {off : Nat} {fs : List Field} {R : Rep α} {B : α → Nat} (a : Flds P off fs R B) : ∀ {H : Type} (enc : TypeId × Value → H) (W : World) (n : Nat) (cs : List Value) (xs : List (DataW H × List MemPlace)), xs.length = fs.length →
    (∀ (i : Nat) (f : Field), fs[i]? = some f → DataW.trod enc P W 0 (fun _ => true) true n f.type ((cs.drop f.offset).take (P.cellsOf f.type)) = xs[i]?) → BlkOf W cs → ∀ (ι : Inj) (h : DHeap), Rds ι h W →
    ∃ ι' h' cs0 y, Rds ι' h' W ∧ ι.le ι' ∧ Ext h h' ∧ LRel ι' cs0 ((cs.drop off).take R.z) ∧ R.rd (fun i => i < h'.next) h' cs0 y ∧ B y ≤ Rows.uptoBulkAll (xs.map (·.1)) := by
  induction a with
  | @one α off f R B ho hl =>
    intro H enc W n cs xs hlen hx b ι h s
    match xs, hlen with
    | [x], _ =>
      have := hx 0 f rfl
      obtain ⟨ι', h', cs0, y, g1, g2, g3, g4, g5, g6⟩ := hl.lay enc W n _ x this (b.sub fun v hv => List.mem_of_mem_drop (List.mem_of_mem_take hv)) ι h s
      rw [hl.size, ho] at g4
      exact ⟨ι', h', cs0, y, g1, g2, g3, g4, g5, by simp [Rows.uptoBulkAll]; exact g6⟩
  | @cons α β off f fs R B Q C ho hl hr ih =>
    intro H enc W n cs xs hlen hx b ι h s
    match xs, hlen with
    | x :: xs, hlen =>
      have h0 := hx 0 f rfl
      obtain ⟨ι1, h1, c1, y1, g1, g2, g3, g4, g5, g6⟩ := hl.lay enc W n _ x h0 (b.sub fun v hv => List.mem_of_mem_drop (List.mem_of_mem_take hv)) ι h s
      rw [hl.size, ho] at g4
      obtain ⟨ι2, h2, c2, y2, k1, k2, k3, k4, k5, k6⟩ := ih enc W n cs xs (by simpa using hlen) (fun i f hf => by simpa using hx (i + 1) f (by simpa using hf)) b ι1 h1 g1
      refine ⟨ι2, h2, c1 ++ c2, (y1, y2), k1, Inj.le_trans g2 k2, g3.trans k3, ?_, ⟨c1, c2, rfl, rd_ext R g5 k3, k5⟩, ?_⟩
      · have := (g4.mono k2).append k4
        have e : (cs.drop off).take (rP R Q).z = (cs.drop off).take R.z ++ (cs.drop (off + R.z)).take Q.z := by
          show (cs.drop off).take (R.z + Q.z) = _
          rw [List.take_add, List.drop_drop]
        rw [e]; exact this
      · simp only [List.map_cons, Rows.uptoBulkAll]; omega
theorem Flds.stay {α : Type} {off : Nat} {fs : List Field} {R : Rep α} {B : α → Nat} (a : Flds P off fs R B) : ∀ {H : Type} (enc : TypeId × Value → H) (W W' : World) (n : Nat) (cs : List Value) (sp : Nat → Bool) (f : Field) (x : DataW H × List MemPlace), f ∈ fs →
    DataW.trod enc P W 0 (fun _ => true) true n f.type ((cs.drop f.offset).take (P.cellsOf f.type)) = some x → (∀ p ∈ x.2, W.sameAt W' p) → (∀ p ∈ x.2, sp p.block = true) → DataW.trod enc P W' 0 sp true n f.type ((cs.drop f.offset).take (P.cellsOf f.type)) = some x := by
  induction a with
  | one ho hl =>
    intro H enc W W' n cs sp f x hf h1 h2 h3
    simp only [List.mem_singleton] at hf
    subst hf
    exact hl.stay enc W W' n _ x sp h1 h2 h3
  | cons ho hl hr ih =>
    intro H enc W W' n cs sp f x hf h1 h2 h3
    rcases List.mem_cons.1 hf with rfl | hf
    · exact hl.stay enc W W' n _ x sp h1 h2 h3
    · exact ih enc W W' n cs sp f x hf h1 h2 h3
theorem Lays.struct {α : Type} {t : TypeId} {fs : Array Field} {R : Rep α} {B : α → Nat} (hu : P.underlying t = some (.struct fs)) (hz : P.cellsOf t = R.z) (a : Flds P 0 fs.toList R B) : Lays P t R B where
  size := hz
  lay enc W n cs x h b ι hh s := by
    obtain ⟨xs, m, rfl, rfl, hl, hxl, hx⟩ := DataW.trod_struct hu h
    obtain ⟨ι', h', cs0, y, g1, g2, g3, g4, g5, g6⟩ := a.lay enc W m cs xs (by simpa using hxl) (fun i f hf => hx i f (by simpa using hf)) b ι hh s
    refine ⟨ι', h', cs0, y, g1, g2, g3, ?_, g5, ?_⟩
    · rw [List.drop_zero, List.take_of_length_le (by omega)] at g4; exact g4
    · simp only [Rows.uptoBulk]; omega
  stay enc W W' n cs x sp h h2 h3 := by
    obtain ⟨m, rfl⟩ := trod_pos h
    simp only [DataW.trod, hu] at h ⊢
    split at h
    · rename_i hl
      rw [if_pos hl]
      simp only [Option.map_eq_some_iff] at h ⊢
      obtain ⟨xs, hm, rfl⟩ := h
      exact ⟨xs, mapM_carry hm (fun f y hf hy hv => a.stay enc W W' m cs sp f y hf hv (fun p hp => h2 p (List.mem_flatMap.2 ⟨y, hy, hp⟩)) (fun p hp => h3 p (List.mem_flatMap.2 ⟨y, hy, hp⟩))), rfl⟩
    · cases h

/-! ### Slices -/
theorem add_add (a : Addr) (i j : Nat) : ((a.add i).add j).block = a.block ∧ ((a.add i).add j).off = a.off + (i + j) := by
  unfold Addr.add
  split <;> split <;> simp_all [Nat.add_assoc]
theorem cell_at {W : World} {a : Addr} {v : Value} (h : W.cell? a = some v) : a.spot = none ∧ ∃ cur ty fz, W.heap[a.block]? = some (.cells cur ty fz) ∧ cur[a.off]? = some v := by
  unfold World.cell? at h
  split at h
  · rename_i c ty fz e
    split at h
    · cases h
    · rename_i hs
      exact ⟨by simpa using hs, c, ty, fz, e, h⟩
  · cases h
theorem cells_get {W : World} {base : Nat} {a : Addr} {n : Nat} {cs : List Value} (h : W.cells? base a n = some cs) : cs.length = n ∧ ∀ j, j < n → W.cell? (a.add j) = cs[j]? := by
  unfold World.cells? at h
  split at h
  · refine ⟨by simpa using mapM_some_length h, fun j hj => ?_⟩
    exact mapM_some_get h j j (by simp [hj])
  · cases h
def sumB {α : Type} (B : α → Nat) : List α → Nat
  | [] => 0
  | x :: l => max 1 (B x) + sumB B l
theorem sumB_append {α : Type} (B : α → Nat) (l k : List α) : sumB B (l ++ k) = sumB B l + sumB B k := by
  induction l with
  | nil => simp [sumB]
  | cons x l ih => simp only [List.cons_append, sumB, ih]; omega
theorem sumB_len {α : Type} (B : α → Nat) (l : List α) : l.length ≤ sumB B l := by
  induction l with
  | nil => simp
  | cons x l ih => simp only [List.length_cons, sumB]; omega
theorem bulk_append {H : Type} (l r : List (DataW H)) : Rows.uptoBulkAll (l ++ r) = Rows.uptoBulkAll l + Rows.uptoBulkAll r := by
  induction l with
  | nil => simp [Rows.uptoBulkAll]
  | cons x l ih => simp only [List.cons_append, Rows.uptoBulkAll, ih]; omega
theorem Lays.elems {α : Type} {e : TypeId} {R : Rep α} {B : α → Nat} (a : Lays P e R B) {H : Type} (enc : TypeId × Value → H) (W : World) (m : Nat) (ad : Addr) (elems : List (DataW H × List MemPlace))
    (he : ∀ i, i < elems.length → (W.cells? 0 (ad.add (i * P.cellsOf e)) (P.cellsOf e)).bind (DataW.trod enc P W 0 (fun _ => true) true m e) = elems[i]?) (b : Blk W) (ι : Inj) (h : DHeap) (s : Rds ι h W) : ∀ k, k ≤ elems.length →
    ∃ ι' h' cells ys, Rds ι' h' W ∧ ι.le ι' ∧ Ext h h' ∧ ys.length = k ∧ Els R (fun i => i < h'.next) h' cells ys ∧ (∀ (i : Nat) v, cells[i]? = some v → ∃ v' cur ty fz, W.heap[ad.block]? = some (.cells cur ty fz) ∧ cur[ad.off + i]? = some v' ∧ VRel ι' v v') ∧
      sumB B ys ≤ Rows.uptoBulkAll ((elems.take k).map (·.1)) := by
  intro k
  induction k with
  | zero => exact fun _ => ⟨ι, h, [], [], s, Inj.le_refl _, .refl _, rfl, rfl, fun i v hv => by simp at hv, by simp [sumB]⟩
  | succ k ih =>
    intro hk
    obtain ⟨ι1, h1, c1, ys, g1, g2, g3, g4, g5, g6, g7⟩ := ih (by omega)
    have hlt : k < elems.length := by omega
    have h0 := he k hlt
    rw [List.getElem?_eq_getElem hlt, Option.bind_eq_some_iff] at h0
    obtain ⟨cs, hc, ht⟩ := h0
    obtain ⟨hcl, hcg⟩ := cells_get hc
    obtain ⟨ι2, h2, c2, y, k1, k2, k3, k4, k5, k6⟩ := a.lay enc W m cs _ ht (.of b _) ι1 h1 g1
    have hl1 : c1.length = k * R.z := by rw [g5.len, g4]
    have hl2 : c2.length = R.z := R.len k5
    refine ⟨ι2, h2, c1 ++ c2, ys ++ [y], k1, Inj.le_trans g2 k2, g3.trans k3, by simp [g4], Els.append (g5.mono fun i hi => ⟨Nat.lt_of_lt_of_le hi k3.next, k3.get i hi⟩) (.single k5), fun i v hv => ?_, ?_⟩
    · rw [List.getElem?_append] at hv
      split at hv
      · obtain ⟨v', cur, ty, fz, x1, x2, x3⟩ := g6 i v hv
        exact ⟨v', cur, ty, fz, x1, x2, x3.mono k2⟩
      · rename_i hi
        have hj : i - c1.length < c2.length := (List.getElem?_eq_some_iff.1 hv).1
        obtain ⟨v', hv', hr⟩ := k4.get hv
        have hj' : i - c1.length < P.cellsOf e := by rw [a.size]; omega
        have hcell := hcg (i - c1.length) hj'
        rw [hv'] at hcell
        obtain ⟨_, cur, ty, fz, x1, x2⟩ := cell_at hcell
        obtain ⟨y1, y2⟩ := add_add ad (k * P.cellsOf e) (i - c1.length)
        rw [y1] at x1
        rw [y2, a.size, hl1] at x2
        exact ⟨v', cur, ty, fz, x1, by rw [show ad.off + (k * R.z + (i - k * R.z)) = ad.off + i by omega] at x2; exact x2, hr⟩
    · rw [sumB_append, List.take_add_one, List.getElem?_eq_getElem hlt]
      simp only [List.map_append, bulk_append, Option.toList_some, List.map_cons, List.map_nil, Rows.uptoBulkAll, sumB]
      have := Rows.one_le elems[k].1
      omega
theorem Lays.slice {α : Type} {t e : TypeId} {R : Rep α} {B : α → Nat} (hu : P.underlying t = some (.slice e)) (hz : P.cellsOf t = 1) (hp : 0 < R.z) (a : Lays P e R B) : Lays P t (rSl R) (sumB B) where
  size := hz
  lay enc W n cs x h b ι hh s := by
    rcases DataW.trod_slice hu h with ⟨rfl, rfl⟩ | ⟨ad, len, cap, elems, rest, m, rfl, rfl, rfl, hb0, hlc, hcm, hel, he, hs, _⟩
    · exact ⟨ι, hh, [.slice none 0 0], [], s, Inj.le_refl _, .refl _, (LRel.nil ι).cons .snil, ⟨_, rfl, Sl.nil _ _ _⟩, Nat.zero_le _⟩
    · replace b : Blk W := b ad len cap (by simp)
      obtain ⟨hrl, hr⟩ := hs rfl
      obtain ⟨ι1, h1, cells, ys, g1, g2, g3, g4, g5, g6, g7⟩ := a.elems enc W m ad elems (fun i hi => he i (by omega)) b ι hh s elems.length (Nat.le_refl _)
      have hcl : cells.length = len * R.z := by rw [g5.len, g4, hel]
      rw [List.take_length] at g7
      -- the block
      have hblk : ∃ bb sh cur ty fz, W.heap[bb]? = some (.cells cur ty fz) ∧ (0 < cap → ad = ⟨bb, sh, none⟩) ∧ ∀ (i : Nat) v, cells[i]? = some v → ∃ v', cur[sh + i]? = some v' ∧ VRel ι1 v v' := by
        by_cases hc0 : cap = 0
        · obtain ⟨bb, cur, ty, fz, e1⟩ := b
          refine ⟨bb, 0, cur, ty, fz, e1, fun hh => by omega, fun i v hv => ?_⟩
          have := (List.getElem?_eq_some_iff.1 hv).1
          rw [hcl, show len = 0 by omega] at this
          omega
        · have h0 : ∃ v, W.cell? ((ad.add 0).add 0) = some v := by
            by_cases hl0 : len = 0
            · have hx := hr 0 (by omega)
              rw [List.getElem?_eq_getElem (by omega), Option.bind_eq_some_iff] at hx
              obtain ⟨cs', hc', _⟩ := hx
              obtain ⟨q1, q2⟩ := cells_get hc'
              have := q2 0 (by rw [a.size]; exact hp)
              rw [hl0, Nat.zero_add, Nat.zero_mul, List.getElem?_eq_getElem (by rw [q1, a.size]; exact hp)] at this
              exact ⟨_, this⟩
            · have hx := he 0 (by omega)
              rw [List.getElem?_eq_getElem (by omega), Option.bind_eq_some_iff] at hx
              obtain ⟨cs', hc', _⟩ := hx
              obtain ⟨q1, q2⟩ := cells_get hc'
              have := q2 0 (by rw [a.size]; exact hp)
              rw [Nat.zero_mul, List.getElem?_eq_getElem (by rw [q1, a.size]; exact hp)] at this
              exact ⟨_, this⟩
          obtain ⟨v0, hv0⟩ := h0
          have hadd : (ad.add 0).add 0 = ad := by simp [Addr.add]
          rw [hadd] at hv0
          obtain ⟨hsp, cur, ty, fz, e1, _⟩ := cell_at hv0
          refine ⟨ad.block, ad.off, cur, ty, fz, e1, fun _ => by cases ad; simp_all, fun i v hv => ?_⟩
          obtain ⟨v', cur', ty', fz', x1, x2, x3⟩ := g6 i v hv
          rw [e1] at x1
          cases x1
          exact ⟨v', x2, x3⟩
      obtain ⟨bb, sh, cur, ty, fz, e1, e2, e3⟩ := hblk
      obtain ⟨k1, k2, k3⟩ := g1.push e1 sh R.z e3
      refine ⟨_, _, [.slice (some ⟨h1.next, 0, none⟩) ys.length cap], ys, k1, Inj.le_trans g2 k2, g3.trans k3, (LRel.nil _).cons ?_, ⟨_, rfl, .inr ⟨h1.next, 0, cap, cells, R.z, true, rfl, Nat.lt_succ_self _, get_push_same _ _, .inl rfl, ?_, ?_⟩⟩, ?_⟩
      · rw [show len = ys.length by omega]
        exact .slice (Inj.upd_same _ _ _) (by omega) (fun h => h) (fun hc => e2 hc) (fun hh => by cases hh)
      · rw [hcl, g4, hel]; omega
      · rw [List.drop_zero, List.take_of_length_le (by rw [hcl, g4, hel]; exact Nat.le_refl _)]
        exact g5.mono fun i hi => ⟨Nat.lt_of_lt_of_le hi k3.next, k3.get i hi⟩
      · simp only [Rows.uptoBulk]; omega
  stay enc W W' n cs x sp h h2 h3 := by
    obtain ⟨m, rfl⟩ := trod_pos h
    rcases DataW.trod_slice hu h with ⟨rfl, rfl⟩ | ⟨ad, len, cap, _, _, _, _, rfl, _⟩
    · simp only [DataW.trod, hu]
    · simp only [DataW.trod, hu, if_true] at h ⊢
      split at h
      · rename_i hc
        rw [if_pos hc]
        simp only [Option.map_eq_some_iff, Option.bind_eq_some_iff] at h ⊢
        obtain ⟨elems, he, rest, hrest, rfl⟩ := h
        have hlen : elems.length = len := by simpa using mapM_some_length he
        have hrl : rest.length = cap - len := by simpa using mapM_some_length hrest
        have one : ∀ (i : Nat) (y : DataW _ × List MemPlace), i < elems.length + rest.length → y ∈ elems ++ rest →
            (W.cells? 0 (ad.add (i * P.cellsOf e)) (P.cellsOf e)).bind (DataW.trod enc P W 0 (fun _ => true) true m e) = some y → (W'.cells? 0 (ad.add (i * P.cellsOf e)) (P.cellsOf e)).bind (DataW.trod enc P W' 0 sp true m e) = some y := by
          intro i y hi hy hv
          simp only [Option.bind_eq_some_iff] at hv ⊢
          obtain ⟨cs', hc', hy'⟩ := hv
          have hm : ∀ p ∈ y.2, p ∈ (elems ++ rest).flatMap (·.2) := fun p hp => List.mem_flatMap.2 ⟨y, hy, hp⟩
          refine ⟨cs', World.cells?_carry hc' (fun p hp => h2 p ?_), a.stay enc W W' m cs' y sp hy' (fun p hp => h2 p (List.mem_append_right _ (hm p hp))) (fun p hp => h3 p (List.mem_append_right _ (hm p hp)))⟩
          obtain ⟨j, hj, rfl⟩ := MemPlace.mem_row.1 hp
          refine List.mem_append_left _ (MemPlace.mem_row.2 ⟨i * P.cellsOf e + j, ?_, ?_⟩)
          · calc i * P.cellsOf e + j < i * P.cellsOf e + P.cellsOf e := by omega
              _ = (i + 1) * P.cellsOf e := by rw [Nat.add_mul, Nat.one_mul]
              _ ≤ (elems.length + rest.length) * P.cellsOf e := Nat.mul_le_mul_right _ hi
          · unfold Addr.add
            split
            · rename_i h0
              simp [h0]
            · simp [Nat.add_assoc]
        refine ⟨elems, mapM_carry he (fun i y hi hy => one i y (by have : i < len := (by simpa using hi); omega) (by simp [hy])), rest, ?_, rfl⟩
        by_cases hc0 : cap - len = 0
        · have hr0 : rest = [] := List.eq_nil_of_length_eq_zero (by omega)
          rw [hr0, hc0]
          split <;> rfl
        · have hsp : sp ad.block = true := by
            have : MemPlace.cell ad.block (ad.off + 0) ∈ MemPlace.row ad ((elems.length + rest.length) * P.cellsOf e) := MemPlace.mem_row.2 ⟨0, by
              rw [a.size]
              exact Nat.mul_pos (by omega) hp, rfl⟩
            exact h3 _ (List.mem_append_left _ this)
          rw [if_pos hsp]
          exact mapM_carry hrest (fun j y hj hy => one (len + j) y (by have : j < cap - len := (by simpa using hj); omega) (by simp [hy]))
      · cases h
end Go.D

namespace Go.D
open Go.Proofs.Ytbdljpndncohaaa (Rows.uptoBulk Rows.uptoBulkAll Rows.uptoSmall)
open Go.ChangeShapes Go.RowKit
variable {P : Program}

/-- a parameter's value: one cell, or a struct's cells -/
def argV (agg : Bool) (cs : List Value) : Value := if agg then .agg cs.toArray else cs.headD undef
def oneDesc : TypeDesc → Bool
  | .int _ | .bool | .slice _ => true
  | _ => false
/-- a parameter's type: a struct, or one cell that is read -/
def Par (P : Program) (t : TypeId) (agg : Bool) : Prop := if agg then ∃ fs, P.underlying t = some (.struct fs) else ∃ d, P.underlying t = some d ∧ oneDesc d = true
theorem has_blk {W : World} {base : Nat} {a : Addr} {e : TypeId} {n : Nat} (h : W.has P .any base a e n) : Blk W := by
  obtain ⟨_, _, row, cells, hs, _⟩ := h
  unfold World.shape? at hs
  split at hs
  · rename_i c elem fz e
    exact ⟨_, _, _, _, e⟩
  · cases hs
theorem okCell_blk {W : World} {base : Nat} {t : TypeId} {a : Addr} {len cap : Nat} (h : Cell.okWide P W .any base t (.slice (some a) len cap)) : Blk W := by
  unfold Cell.okWide at h
  split at h <;> try simp_all
  unfold Cell.ok at h
  split at h <;> try simp_all
  exact has_blk h.2.2
theorem ok_blk {W : World} {base : Nat} {t : TypeId} {v : Value} (h : Value.okWide P W .any base t v) : BlkOf W v.cells.toList := by
  intro a len cap hm
  unfold Value.okWide at h
  have one : Cell.okWide P W .any base t v → Blk W := fun hc => by
    have hv : v.cells = #[v] ∨ (∃ cs, v = .agg cs) ∨ (∃ cs, v = .tuple cs) := by
      cases v <;> first | exact .inl rfl | exact .inr (.inl ⟨_, rfl⟩) | exact .inr (.inr ⟨_, rfl⟩)
    rcases hv with hv | ⟨cs, rfl⟩ | ⟨cs, rfl⟩
    · rw [hv] at hm
      simp only [List.mem_singleton] at hm
      subst hm
      exact okCell_blk hc
    · exfalso
      unfold Cell.okWide at hc
      split at hc <;> simp_all
      unfold Cell.ok at hc
      split at hc <;> simp_all
    · exfalso
      unfold Cell.okWide at hc
      split at hc <;> simp_all
      unfold Cell.ok at hc
      split at hc <;> simp_all
  have agg : (∃ cs, v = .agg cs ∧ cs.size = P.cellsOf t ∧ Row.okWide P W .any base t cs) → Blk W := fun ⟨cs, e, _, ts, _, _, hr⟩ => by
    subst e
    obtain ⟨i, hi⟩ := List.mem_iff_getElem?.1 hm
    obtain ⟨u, _, hu⟩ := hr i _ (by simpa [Value.cells] using hi)
    exact okCell_blk hu
  split at h
  · exact agg h
  · exact agg h
  · exact one h
theorem Lays.arg {α : Type} {t : TypeId} {R : Rep α} {B : α → Nat} {agg : Bool} (hp : Par P t agg) (a : Lays P t R B) {H : Type} {enc : TypeId × Value → H} {W : World} {base : Nat} {v : Value} {d : DataW H} {ps : List MemPlace}
    (ht : DataW.Trod enc P W 0 (fun _ => true) true t v d ps) (hv : Value.okWide P W .any base t v) {ι : Inj} {h : DHeap} (s : Rds ι h W) :
    ∃ ι' h' cs0 y, Rds ι' h' W ∧ ι.le ι' ∧ Ext h h' ∧ VRel ι' (argV agg cs0) v ∧ R.rd (fun i => i < h'.next) h' cs0 y ∧ B y ≤ Rows.uptoBulk d := by
  obtain ⟨n, hn⟩ := ht
  obtain ⟨ι', h', cs0, y, g1, g2, g3, g4, g5, g6⟩ := a.lay enc W n _ _ hn (ok_blk hv) ι h s
  refine ⟨ι', h', cs0, y, g1, g2, g3, ?_, g5, g6⟩
  unfold Par at hp
  unfold Value.okWide at hv
  cases agg with
  | true =>
    obtain ⟨fs, hu⟩ := hp
    rw [hu] at hv
    obtain ⟨cs, rfl, _⟩ := hv
    obtain ⟨x1, x2⟩ := g4
    exact .agg (by simpa [Value.cells] using x1) (fun i v v' a b => x2 i v v' (by simpa using a) (by simpa [Value.cells] using b))
  | false =>
    obtain ⟨de, hu, ho⟩ := hp
    have hc : Cell.okWide P W .any base t v := by
      rw [hu] at hv
      cases de <;> first | exact hv | simp [oneDesc] at ho
    have h1 : v.cells = #[v] := by
      cases v <;> first | rfl | (exfalso; unfold Cell.okWide at hc; rw [hu] at hc; cases de <;> simp [oneDesc, Cell.ok, hu] at ho hc)
    rw [h1] at g4
    obtain ⟨x1, x2⟩ := g4
    match cs0, x1 with
    | [c], _ => exact x2 0 c v rfl rfl

/-- parameters, one behind the other -/
inductive Pars (P : Program) : {α : Type} → List TypeId → ((Nat → Prop) → DHeap → List Value → α → Prop) → (α → Nat) → Prop
  | nil : Pars P [] (fun _ _ vs (_ : Unit) => vs = []) (fun _ => 0)
  | cons {α β : Type} {t : TypeId} {ts : List TypeId} {agg : Bool} {R : Rep α} {B : α → Nat} {Q : (Nat → Prop) → DHeap → List Value → β → Prop} {C : β → Nat} (hp : Par P t agg) (hl : Lays P t R B) (hr : Pars P ts Q C) :
      Pars P (t :: ts) (fun S h vs (x : α × β) => ∃ cs vs', vs = argV agg cs :: vs' ∧ R.rd S h cs x.1 ∧ Q S h vs' x.2) (fun x => B x.1 + C x.2)
theorem Pars.lay {α : Type} {ts : List TypeId} {Q : (Nat → Prop) → DHeap → List Value → α → Prop} {B : α → Nat} (a : Pars P ts Q B) : ∀ {H : Type} {enc : TypeId × Value → H} {W : World} {base : Nat} {vs : List Value} {ds : List (DataW H)} {ps : List MemPlace},
    DataW.TrodAll enc P W 0 (fun _ => true) true ts vs ds ps → (∀ (j : Nat) t v, ts[j]? = some t → vs[j]? = some v → Value.okWide P W .any base t v) → ∀ {ι : Inj} {h : DHeap}, Rds ι h W →
    ∃ ι' h' vs0 y, Rds ι' h' W ∧ ι.le ι' ∧ Ext h h' ∧ LRel ι' vs0 vs ∧ (∀ h1, Ext h' h1 → Q (fun i => i < h1.next) h1 vs0 y) ∧ B y ≤ Rows.uptoBulkAll ds := by
  induction a with
  | nil =>
    intro H enc W base vs ds ps ht hv ι h s
    obtain ⟨rfl, rfl, rfl⟩ := trodAll_nil ht
    exact ⟨ι, h, [], (), s, Inj.le_refl _, .refl _, LRel.nil _, fun _ _ => rfl, Nat.le_refl _⟩
  | cons hp hl hr ih =>
    intro H enc W base vs ds ps ht hv ι h s
    obtain ⟨v, vs, d, ds, p, q, rfl, rfl, rfl, t1, t2⟩ := trodAll_cons ht
    obtain ⟨ι1, h1, cs, y, g1, g2, g3, g4, g5, g6⟩ := hl.arg hp t1 (hv 0 _ _ rfl rfl) s
    obtain ⟨ι2, h2, vs0, z, k1, k2, k3, k4, k5, k6⟩ := ih t2 (fun j t v a b => hv (j + 1) t v a b) g1
    exact ⟨ι2, h2, argV _ cs :: vs0, (y, z), k1, Inj.le_trans g2 k2, g3.trans k3, LRel.cons (g4.mono k2) k4, fun h3 e => ⟨cs, vs0, rfl, rd_ext _ g5 (k3.trans e), k5 h3 e⟩, by simp only [Rows.uptoBulkAll]; omega⟩
theorem Pars.stay {α : Type} {ts : List TypeId} {Q : (Nat → Prop) → DHeap → List Value → α → Prop} {B : α → Nat} (a : Pars P ts Q B) : ∀ {H : Type} {enc : TypeId × Value → H} {W W' : World} {sp : Nat → Bool} {vs : List Value} {ds : List (DataW H)} {ps : List MemPlace},
    DataW.TrodAll enc P W 0 (fun _ => true) true ts vs ds ps → (∀ p ∈ ps, W.sameAt W' p) → (∀ p ∈ ps, sp p.block = true) → DataW.TrodAll enc P W' 0 sp true ts vs ds ps := by
  induction a with
  | nil =>
    intro H enc W W' sp vs ds ps ht _ _
    obtain ⟨rfl, rfl, rfl⟩ := trodAll_nil ht
    rfl
  | cons hp hl hr ih =>
    intro H enc W W' sp vs ds ps ht h2 h3
    obtain ⟨v, vs, d, ds, p, q, rfl, rfl, rfl, ⟨n, t1⟩, t2⟩ := trodAll_cons ht
    exact ⟨p, q, ⟨n, hl.stay enc W W' n _ _ sp t1 (fun x hx => h2 x (List.mem_append_left _ hx)) (fun x hx => h3 x (List.mem_append_left _ hx))⟩, ih t2 (fun x hx => h2 x (List.mem_append_right _ hx)) (fun x hx => h3 x (List.mem_append_right _ hx)), rfl⟩

section
variable {H : Type} {enc : TypeId × Value → H}
/-- what was there is as it was -/
theorem post_of_kept {f : Func} {s : ChangeSpec} {apart fresh handsOn again : Bool} {W W' : World} {args : Array Value} {v : Value} {ds gs : List (DataW H)} {before pa pv : List MemPlace}
    (hW : DataW.Whole enc P f.params.toList s.vars apart W args.toList ds gs before)
    (hres : ∀ (b : Nat) (sp : Nat → Bool) (hd : Bool), DataW.TrodAll enc P W' b sp hd f.resultTypes.toList (v.resultList f.resultTypes.size) (s.fn H (ds ++ gs)).results [])
    (hargs : ∀ sp : Nat → Bool, (∀ p ∈ before, sp p.block = true) → DataW.TrodAll enc P W' 0 sp true f.params.toList args.toList (s.fn H (ds ++ gs)).args pa)
    (hvars : ∀ sp : Nat → Bool, (∀ p ∈ before, sp p.block = true) → DataW.TrodVars enc P W' sp s.vars (s.fn H (ds ++ gs)).vars pv)
    (hps : before = pa ++ pv) (hos : W'.os = W.os) (hout : W'.output = W.output) (hk : ∀ b, b < W.heap.size → W'.heap[b]? = W.heap[b]?)
    (hok : ∀ (j : Nat) (t : TypeId) (r : Value), f.resultTypes[j]? = some t → (v.resultList f.resultTypes.size)[j]? = some r → Value.okWide P W' .any 0 t r) :
    s.post enc P f apart fresh handsOn again W args v W' := by
  have hlt := hW.lt
  have hold : ∀ p ∈ before, (fun b => decide (b < W.heap.size)) p.block = true := fun p hp => by simpa using hlt p hp
  have hkept : ∀ may, W.keptBut W' may := fun may => ⟨hos, hout, fun i hi => by
    rw [hk i hi]
    exact (World.keptBut_refl W may).2.2 i hi⟩
  refine ⟨ds, gs, before, [], pa, pv, hW, hres _ _ _, hargs _ hold, hvars _ hold, hkept _, fun _ => ?_⟩
  · obtain ⟨_, _, _, _, _, hz, hn⟩ := hW
    refine ⟨hok, _, _, ([] ++ pa) ++ pv, ⟨[] ++ pa, pv, trodAll_append (hargs _ (fun _ _ => rfl)) (hres _ _ _), hvars _ (fun _ _ => rfl), rfl, ?_, ?_⟩, ?_⟩
    · intro b off hp
      have hp' : MemPlace.cell b off ∈ before := by rw [hps]; simpa using hp
      have : W'.frozen? ⟨b, off, none⟩ = W.frozen? ⟨b, off, none⟩ := by
        simp only [World.frozen?]
        rw [hk b (hlt _ hp')]
      rw [this]
      exact hz b off hp'
    · intro ha
      have := hn ha
      rw [hps] at this
      simpa using this
    · intro p hp _
      rw [hps]
      simpa using hp
theorem trodVars_nil {W : World} {sp : Nat → Bool} {gs : List (DataW H)} {q : List MemPlace} (h : DataW.TrodVars enc P W sp [] gs q) : gs = [] ∧ q = [] := by
  cases gs with
  | nil => exact ⟨rfl, h⟩
  | cons => exact h.elim

/-- a law: its contract over plain heaps gives its statement -/
theorem law_kept {α : Type} {f : FuncId} {fn : Func} {ts : List TypeId} {Q : (Nat → Prop) → DHeap → List Value → α → Prop} {B : α → Nat} {tb : TypeId} {s : ChangeSpec} {apart fresh handsOn again : Bool} (hts : fn.params.toList = ts) (pars : Pars P ts Q B)
    (hrt : fn.resultTypes = #[tb]) (hb : P.underlying tb = some .bool) (hs : s.vars = []) (hfn : ∀ ds : List (DataW H), ds.length = ts.length → s.fn H ds = { results := [.lit (.bool true)], args := ds })
    (ct : ∀ h vs x, h.ng = 0 → Q (fun i => i < h.next) h vs x → B x ≤ 1048576 → Ct P f vs h (fun r _ => r = .ret (.bool true)))
    (W : World) (base : Nat) (args : Array Value) (ds gs : List (DataW H)) (before : List MemPlace)
    (hval : ∀ (j : Nat) t v, fn.params[j]? = some t → args[j]? = some v → Value.okWide P W .any base t v)
    (hW : DataW.Whole enc P fn.params.toList s.vars apart W args.toList ds gs before) (hk : Rows.uptoSmall H (ds ++ gs) = true) :
    Calls P f args W fun e W' => ∃ v, e = .returned v ∧ s.post enc P fn apart fresh handsOn again W args v W' := by
  have hW' := hW
  obtain ⟨p, q, hA, hV, rfl, hfz, hnd⟩ := hW
  rw [hs] at hV
  obtain ⟨rfl, rfl⟩ := trodVars_nil hV
  rw [hts] at hA
  have hk' : Rows.uptoBulkAll ds ≤ 1048576 := by
    have := of_decide_eq_true hk
    simpa using this
  obtain ⟨ι, h, vs, y, s1, _, he, hr, hq, hB⟩ := pars.lay hA (fun j t v a b => hval j t v (by simpa [← hts] using a) (by simpa using b)) (Rds.none W)
  have hng : h.ng = 0 := he.ng
  have c := ct h vs y hng (hq h (.refl _)) (by omega) 0 ι W args s1.sim hr
  refine callsIn_wide.1 (CallsIn.mono c fun e W' ⟨ι', r, h', hR, _, hE, sim', st⟩ => ?_)
  subst hR
  cases e with
  | returned v =>
    have hv : v = .bool true := by
      have : VRel ι' (.bool true) v := hE
      cases this; rfl
    subst hv
    have hheap : ∀ b, b < W.heap.size → W'.heap[b]? = W.heap[b]? := fun b hb => st.frame b hb fun id e he _ => s1.ro id e he
    have hlen : ds.length = ts.length := by
      have : ∀ {ts : List TypeId} {vs : List Value} {ds : List (DataW H)} {ps : List MemPlace}, DataW.TrodAll enc P W 0 (fun _ => true) true ts vs ds ps → ds.length = ts.length := by
        intro ts
        induction ts with
        | nil => intro vs ds ps h; obtain ⟨_, rfl, _⟩ := trodAll_nil h; rfl
        | cons t ts ih =>
          intro vs ds ps h
          obtain ⟨_, _, _, _, _, _, _, rfl, _, _, h2⟩ := trodAll_cons h
          simp [ih h2]
      exact this hA
    have hlt : ∀ x ∈ p, x.block < W.heap.size := DataW.TrodAll.lt hA
    have hsame : ∀ x ∈ p, W.sameAt W' x := fun x hx => by
      have hb := hheap _ (hlt x hx)
      cases x with
      | cell b off => simp only [World.sameAt, World.cell?]; rw [show W'.heap[b]? = W.heap[b]? from hb]
      | map b => exact hb
    refine ⟨_, rfl, post_of_kept (pa := p) (pv := []) hW' ?_ ?_ ?_ rfl st.os st.output hheap ?_⟩
    · intro b sp hd
      rw [List.append_nil, hfn ds hlen, hrt]
      exact trodAll_cons_mk (shut_bool hb _) trodAll_mk0
    · intro sp hsp
      rw [List.append_nil, hfn ds hlen, hts]
      exact pars.stay hA hsame (fun x hx => hsp x (by simpa using hx))
    · intro sp hsp
      rw [List.append_nil, hfn ds hlen, hs]
      rfl
    · intro j t r h1 h2
      rw [hrt] at h1 h2
      cases j with
      | zero =>
        simp at h1
        simp [Value.resultList] at h2
        subst h1; subst h2
        simp [Value.okWide, hb, Cell.okWide, Cell.ok]
      | succ j => simp at h1
  | _ => exact hE.elim
end
end Go.D

namespace Go.D
variable {P : Program} {α : Type} {R : Rep α} {S S' : Nat → Prop} {K h : DHeap} {v : Value} {l : List α}

theorem laid_src {cs : List Value} {x : α} {z n : Nat} (hx : R.rd S K cs x) (hz : z = R.z) (hp : 0 < R.z) : srcCells R.z 1 (.slice (some ⟨K.next, 0, none⟩) 1 n) (K.push (.row cs z false)) = some cs := by
  subst hz
  have hl := R.len hx
  simp only [srcCells, get_push_same]
  simp [hl]
  exact List.take_of_length_le (by omega)
/-- one element more -/
theorem Owns.snoc {w : Option Nat} {ts : Array TypeId} {cs : List Value} {x : α} {z b : Nat} (ho : Owns R S K v l w) (hS : ∀ i, S i → i < K.next ∧ w ≠ some i) (hx : R.rd S K cs x) (hz : z = R.z) (hp : 0 < R.z) (hT : appT P ts = some (R.z, b)) (hlen : l.length + 1 ≤ 4294967296) (hb : b ≤ 32768) :
    ∃ v' h2, dAppend P ts v (.slice (some ⟨K.next, 0, none⟩) 1 1) (K.push (.row cs z false)) = some (v', h2) ∧ h2.next = K.next + 2 ∧ h2.ng = K.ng ∧ (∀ i, i < K.next → w ≠ some i → h2.get i = K.get i) ∧
      Owns R S h2 v' (l ++ [x]) (some (K.next + 1)) := by
  have hw := ho.lt
  have hg : ∀ i, S i → (K.push (.row cs z false)).get i = K.get i := fun i hi => get_push_other _ _ (hS i hi).1
  have ho2 : Owns R S (K.push (.row cs z false)) v l w := ho.mono (Nat.le_succ _) (fun i hi => get_push_other _ _ (hw i hi)) (fun i hi => ⟨hi, hg i hi⟩)
  have hm : (l.length + 1) * b ≤ 4294967296 * 32768 := Nat.mul_le_mul hlen hb
  obtain ⟨v', h2, w', e3, g, o, hw'⟩ := ho2.append (k := [x]) (x := .slice (some ⟨K.next, 0, none⟩) 1 1) hT (fun i hi => ⟨Nat.lt_succ_of_lt (hS i hi).1, (hS i hi).2⟩) rfl (laid_src hx hz hp) (.single (R.mono hx fun i hi => ⟨hi, hg i hi⟩)) (by simp only [List.length_singleton]; omega) (by simp only [List.length_singleton]; omega)
  rcases hw' with ⟨h0, _⟩ | ⟨h0, h1⟩
  · cases h0
  · subst h0
    exact ⟨v', h2, e3, h1, g.ng, fun i hi hwi => (g.get i (Nat.lt_succ_of_lt hi) hwi).trans (get_push_other _ _ hi), o⟩
/-- a list of one's own is read by whoever -/
theorem Owns.arg {w : Option Nat} (a : Owns R S h v l w) (hS : ∀ i, S i → i < h.next) : Arg R h v l := by
  have hlt := a.lt
  exact a.sl.mono fun i hi => ⟨by
    rcases hi with hi | hi
    · exact hS i hi
    · exact hlt i hi, rfl⟩
end Go.D

namespace Go.D
variable {P : Program}

/-- fields by their types and places -/
inductive Fld2 (P : Program) : {α : Type} → Nat → List (TypeId × Nat) → Rep α → (α → Nat) → Prop
  | one {α : Type} {off : Nat} {t : TypeId} {R : Rep α} {B : α → Nat} (hl : Lays P t R B) : Fld2 P off [(t, off)] R B
  | cons {α β : Type} {off : Nat} {t : TypeId} {l : List (TypeId × Nat)} {R : Rep α} {B : α → Nat} {Q : Rep β} {C : β → Nat} (hl : Lays P t R B) (hr : Fld2 P (off + R.z) l Q C) : Fld2 P off ((t, off) :: l) (rP R Q) (fun x => B x.1 + C x.2)
theorem Fld2.flds {α : Type} {off : Nat} {l : List (TypeId × Nat)} {R : Rep α} {B : α → Nat} (a : Fld2 P off l R B) : ∀ fs : List Field, fs.map (fun f => (f.type, f.offset)) = l → Flds P off fs R B := by
  induction a with
  | one hl =>
    intro fs h
    match fs, h with
    | [f], h =>
      simp only [List.map_cons, List.map_nil, List.cons.injEq, Prod.mk.injEq, and_true] at h
      obtain ⟨rfl, rfl⟩ := h
      exact .one rfl hl
  | cons hl hr ih =>
    intro fs h
    cases fs with
    | nil => cases h
    | cons f fs =>
      simp only [List.map_cons, List.cons.injEq, Prod.mk.injEq] at h
      obtain ⟨⟨rfl, rfl⟩, h2⟩ := h
      exact .cons rfl hl (ih fs h2)
theorem Lays.of {α : Type} {t : TypeId} {l : List (TypeId × Nat)} {R : Rep α} {B : α → Nat} (hf : fldsOf P t = some l) (hz : P.cellsOf t = R.z) (a : Fld2 P 0 l R B) : Lays P t R B := by
  unfold fldsOf at hf
  split at hf
  · rename_i fs hu
    split at hf
    · cases hf
      exact .struct hu hz (a.flds _ rfl)
    · cases hf
  · cases hf
theorem par_struct {t : TypeId} {l : List (TypeId × Nat)} (hf : fldsOf P t = some l) : Par P t true := by
  unfold fldsOf at hf
  split at hf
  · rename_i fs hu
    exact ⟨fs, hu⟩
  · cases hf
/-- flat pairs -/
theorem rP_flat {α β : Type} {F : FRep α} {G : FRep β} {S : Nat → Prop} {h : DHeap} {cs : List Value} {x : α × β} (a : (rP F.rep G.rep).rd S h cs x) : (fP F G).rep.rd S h cs x := by
  obtain ⟨c1, c2, rfl, ⟨rfl, h1⟩, rfl, h2⟩ := a
  exact ⟨rfl, h1, h2⟩
theorem Lays.pair {α β : Type} {t : TypeId} {F : FRep α} {G : FRep β} {C : α × β → Nat} (a : Lays P t (rP F.rep G.rep) C) : Lays P t (fP F G).rep C := a.conv (Q := (fP F G).rep) rfl id (fun _ _ _ _ => rP_flat) (fun _ => Nat.le_refl _)
end Go.D

namespace Go.Proofs.Ytbdljpndncohaaa
open Go.D
set_option maxRecDepth 100000
theorem lay_u8 : Lays Try.prog 5 fU8.rep (fun _ => 1) := .int (by kernel_rfl) (by kernel_rfl)
theorem lay_i32 : Lays Try.prog 21 (fI .i32).rep (fun _ => 1) := .int (by kernel_rfl) (by kernel_rfl)
theorem lay_i64 : Lays Try.prog 2 fI64.rep (fun _ => 1) := .int (by kernel_rfl) (by kernel_rfl)
theorem lay_bytes : Lays Try.prog 22 (rSl fU8.rep) (sumB fun _ => 1) := .slice (e := 5) (by kernel_rfl) (by kernel_rfl) (by decide) lay_u8
theorem lay_ints : Lays Try.prog 23 (rSl fI64.rep) (sumB fun _ => 1) := .slice (e := 2) (by kernel_rfl) (by kernel_rfl) (by decide) lay_i64
theorem lay_key : Lays Try.prog 54 fKey.rep (fun _ => 2) :=
  (Lays.of (l := [(21, 0), (2, 1)]) (by kernel_rfl) (by kernel_rfl) (.cons lay_i32 (.one lay_i64))).pair.conv (Q := fKey.rep) rfl (fun x => ⟨x.1, x.2⟩) (fun _ _ _ _ h => h) (fun _ => Nat.le_refl _)
end Go.Proofs.Ytbdljpndncohaaa

namespace Go.D
variable {P : Program} {nt : Nat}

theorem NC.range_aux {g : Operand} {ps : Array Tmp} {assign body : Code} {Q : DExit → St → Prop} {s : St} {fv : Value} {l : Nat} {df : List DDef} {h1 : DHeap} {f : FuncId} {args : List Value}
    (hg : evalF s.h.ng s.fr g = some fv) (hh : HStep s.h h1)
    (henter : ∀ (r : Option Nat) (ι : Inj) (a : Act) (w : World) (fn : FuncId), SRel nt ι s r a w → ∃ (ι1 : Inj) (e : Ent) (mark : List Deferred) (w1 : World), (Instr.enterLoop fn a.tmps ps assign body r).run P w = .ok (e.block, mark) w1 ∧
      ι1 l = some e ∧ e.shift = 0 ∧ Sim ι1 h1 w1 ∧ Step ι ι1 s.h h1 w w1 ∧ DefRel ι1 df (mark ++ a.defers))
    (ht : dTarget P fv [.func (.yield l) #[] #[]] h1 = some (.enter f args)) {R : DEnd → DHeap → Prop}
    (hc : Ct P f args h1 R) (hx : ∀ r h2, R r h2 → XRangePost l s.fr df s.rd Q r h2) : NC P nt (.rangeFunc g ps assign body) Q s := by
  intro n rr ι a w hs
  refine wpIn_rangeFunc fun fn _ => ?_
  obtain ⟨ι1, eb, mark, w1, he, hl, hsh, s1, st1, hd1⟩ := henter rr ι a w fn hs
  have hfv : VRel ι fv (a.eval g) := evalF_rel (P := P) hs.sim (a := a) (ops := #[]) (o := ⟨none, .move g, 0, "", #[], none⟩) (fun t _ u hu => hs.fr.2 t u hu) g (by simp [Op.operands]) _ hg
  have hy : LRel ι1 [.func (.yield l) #[] #[]] (#[.func (.yield eb.block) #[] #[]] : Array Value).toList := (LRel.nil ι1).cons (.yield hl hsh)
  obtain ⟨d, x', hd, hinv, hn, hdd⟩ := dTarget_ok ht s1 (hfv.mono st1.le) hy
  cases x' with
  | enter f' args' =>
    obtain ⟨rfl, hargs, _⟩ := hn
    refine ⟨eb.block, mark, w1, d, w1, f', args', w1, he, ?_, fun _ _ => trivial, hinv, fun hh => absurd hh (by simp [FW]), ?_⟩
    · simpa [resolve, rangeCall, Act.eval] using hd
    · refine CallsIn.mono (hc (n - 1) ι1 w1 args' s1 hargs) fun en w2 ⟨ι2, r, h2, hR, hh2, k1, k2, k3⟩ => ?_
      have hp := hx r h2 hR
      have hl2 := k3.le l eb hl
      have hfr := (hs.fr.mono st1.le).mono k3.le
      have hdf := hd1.mono k3.le
      have hrd := (hs.rd.mono st1.le).mono k3.le
      have hst := st1.trans k3
      cases r with
      | pan v =>
        cases en with
        | panicked ch => exact ⟨ι2, .pan v, _, hp, hh.trans hh2, k1, ⟨hfr, hdf, k2, hrd⟩, hst⟩
        | _ => exact k1.elim
      | ret v =>
        cases en with
        | returned v' =>
          obtain ⟨d, hgd, hbusy, hq⟩ := hp
          obtain ⟨_, _, lp, hlp, hlr⟩ := k2.loopAt hl2 hgd
          obtain ⟨q1, q2⟩ := k2.setLoop hl2 hgd hlp hlr .exhausted d.pending
          have hend := run_endLoop (P := P) hlp (by rw [hlr.state]; exact hbusy)
          rw [hlr.pending] at hend
          refine ⟨d.pending, _, hend, ?_⟩
          have fin : ∀ (e : DExit) ex, Q e ⟨s.fr, df, h2.set l (.loop { d with state := .exhausted, pending := d.pending }), s.rd⟩ → ExitRel ι2 e ex →
              ∃ ι' e s', Q e s' ∧ HStep s.h s'.h ∧ ExitRel ι' e ex ∧ SRel nt ι' s' rr { a with defers := mark ++ a.defers } (w2.putObj eb.block (.loop { lp with state := .exhausted, pending := d.pending })) ∧ Step ι ι' s.h s'.h w (w2.putObj eb.block (.loop { lp with state := .exhausted, pending := d.pending })) :=
            fun e ex hq hex => ⟨ι2, e, _, hq, hh.trans (hh2.trans (HStep.set _ _ _)), hex, ⟨hfr, hdf, q1, hrd⟩, hst.trans q2⟩
          cases hpe : d.pending with
          | none =>
            rw [hpe] at hq fin
            exact fin .normal _ hq trivial
          | some c =>
            rw [hpe] at hq fin
            cases c with
            | ret => exact wpIn_ret (fin .ret _ hq trivial)
            | exit id => exact wpIn_exit (fin (.exit id) _ hq rfl)
            | _ => exact hq.elim
        | _ => exact k1.elim
  | _ => exact hn.elim
/-- an outermost loop -/
theorem NC.range {g : Operand} {ps : Array Tmp} {assign body : Code} {Q : DExit → St → Prop} {s : St} {fv : Value} {f : FuncId} {args : List Value} {h1 : DHeap}
    (hrd : s.rd = none) (hg : evalF s.h.ng s.fr g = some fv) (hh1 : h1 = (s.h.push (.marks true)).push (.loop ⟨nt, s.fr, ps, assign, body, s.h.next, .ready, none⟩))
    (ht : dTarget P fv [.func (.yield (s.h.next + 1)) #[] #[]] h1 = some (.enter f args)) {R : DEnd → DHeap → Prop}
    (hc : Ct P f args h1 R) (hx : ∀ r h2, R r h2 → XRangePost (s.h.next + 1) s.fr (.mark s.h.next :: s.df) s.rd Q r h2) : NC P nt (.rangeFunc g ps assign body) Q s := by
  subst hh1
  refine NC.range_aux hg ((HStep.push _ _).trans (HStep.push _ _)) (fun r ι a w fn hs => ?_) ht hc hx
  have hr : r = none := by
    have := hs.rd
    rw [hrd] at this
    cases r with
    | none => rfl
    | some _ => exact this.elim
  subst hr
  obtain ⟨a1, a2⟩ := hs.sim.alloc (.marks true) (.deferred (some [])) ⟨w.heap.size, 0, 0, 0, false⟩ rfl ⟨rfl, rfl, World.alloc_heap_new _ _⟩
  have hsz : (w.alloc (.deferred (some []))).heap.size = w.heap.size + 1 := World.size_alloc _ _
  have hm : (ι.upd s.h.next ⟨w.heap.size, 0, 0, 0, false⟩) s.h.next = some ⟨w.heap.size, 0, 0, 0, false⟩ := Inj.upd_same _ _ _
  obtain ⟨b1, b2⟩ := a1.alloc (.loop ⟨nt, s.fr, ps, assign, body, s.h.next, .ready, none⟩) (.loop { state := .ready, pending := none, fn, tmps := a.tmps, params := ps, assign, body, defers := w.heap.size })
    ⟨w.heap.size + 1, 0, 0, 0, false⟩ hsz.symm ⟨rfl, rfl, _, by rw [← hsz]; exact World.alloc_heap_new _ _,
      ⟨(hs.fr.mono a2.le).mono (Inj.upd_le a1.fresh), rfl, rfl, rfl, rfl, rfl, ⟨w.heap.size, 0, 0, 0, false⟩, Inj.upd_le a1.fresh _ _ hm, rfl, rfl⟩⟩
  refine ⟨_, ⟨w.heap.size + 1, 0, 0, 0, false⟩, _, _, run_enterLoop_outer fn a.tmps ps assign body, ?_, rfl, b1, a2.trans b2, ?_⟩
  · exact Inj.upd_same _ _ _
  · exact ⟨⟨_, b2.le _ _ hm, rfl, rfl⟩, (hs.df.mono a2.le).mono b2.le⟩
/-- code in a loop over a function, walked without its places -/
theorem NC.strip {c c0 : Code} {Q : DExit → St → Prop} {s : St} (hs : Go.D.strip c0 = c) (hk : codeOK nt c = true) (h : xs P nt c Q s) : NC P nt c0 Q s := by
  subst hs
  exact xs_sound c0 Q s (by rw [← codeOK_strip]; exact hk) h
end Go.D

namespace Go.D
variable {P : Program} {α : Type} {R : Rep α} {S : Nat → Prop} {h : DHeap} {v : Value} {l : List α} {t : TypeId}

theorem bound_nat {k : IntKind} {n d y : Nat} (h : n ≤ y) : boundOf (some (.int k (n : Int))) d y = some n := by
  simp only [boundOf]
  rw [if_pos (by omega)]
  rfl
end Go.D

namespace Go.D
variable {P : Program} {nt : Nat}

/-- the heap in a loop over a function that was begun at hB: what the loop may change is ids, and what was made since -/
structure Rng (hB : DHeap) (D : DLoop) (ids : Nat → Prop) (K : DHeap) : Prop where
  old : ∀ j, j < hB.next → ¬ ids j → K.get j = hB.get j
  nx : hB.next + 2 ≤ K.next
  ng : K.ng = hB.ng
  mrk : K.get hB.next = some (.marks true)
  lp : K.get (hB.next + 1) = some (.loop D)
section
variable {hB K K' : DHeap} {D D' : DLoop} {ids : Nat → Prop} {o : DObj} {id : Nat}
theorem Rng.start (hB : DHeap) (D : DLoop) (ids : Nat → Prop) : Rng hB D ids ((hB.push (.marks true)).push (.loop D)) :=
  ⟨fun j hj _ => by rw [get_push_other _ _ (by rw [next_push]; omega), get_push_other _ _ hj], Nat.le_refl _, rfl, get_p1, get_push_same _ _⟩
theorem Rng.ext (r : Rng hB D ids K) (e : Ext K K') : Rng hB D ids K' :=
  ⟨fun j hj hi => (e.get j (by have := r.nx; omega)).trans (r.old j hj hi), Nat.le_trans r.nx e.next, e.ng.trans r.ng, (e.get _ (by have := r.nx; omega)).trans r.mrk, (e.get _ (by have := r.nx; omega)).trans r.lp⟩
theorem Rng.set (r : Rng hB D ids K) (hi : ids id) (hid : id < hB.next) : Rng hB D ids (K.set id o) :=
  ⟨fun j hj hij => (get_set_other _ _ (by intro hh; subst hh; exact hij hi)).trans (r.old j hj hij), r.nx, r.ng, (get_set_other _ _ (by omega)).trans r.mrk, (get_set_other _ _ (by omega)).trans r.lp⟩
theorem Rng.push (r : Rng hB D ids K) (o : DObj) : Rng hB D ids (K.push o) := r.ext (Ext.push1 _ _)
theorem Rng.loop (r : Rng hB D ids K) (D' : DLoop) : Rng hB D' ids (K.set (hB.next + 1) (.loop D')) :=
  ⟨fun j hj hij => (get_set_other _ _ (by omega)).trans (r.old j hj hij), r.nx, r.ng, (get_set_other _ _ (by omega)).trans r.mrk, get_set_same _ _⟩
theorem Rng.keep (r : Rng hB D ids K) (hn : K.next ≤ K'.next) (hg : K'.ng = K.ng) (h : ∀ j, j < hB.next + 2 → K'.get j = K.get j) : Rng hB D ids K' :=
  ⟨fun j hj hi => (h j (by omega)).trans (r.old j hj hi), Nat.le_trans r.nx hn, hg.trans r.ng, (h _ (by omega)).trans r.mrk, (h _ (by omega)).trans r.lp⟩
/-- what was there at h, under hB, and is not changed -/
theorem Rng.below {h : DHeap} (r : Rng hB D ids K) (e : Ext h hB) (hi : ∀ j, ids j → h.next ≤ j) : Ext h K :=
  ⟨Nat.le_trans e.next (by have := r.nx; omega), r.ng.trans e.ng, fun j hj => (r.old j (Nat.lt_of_lt_of_le hj e.next) (fun hh => by have := hi j hh; omega)).trans (e.get j hj)⟩
end
end Go.D

namespace Go.D
variable {P : Program} {nt : Nat}

/-- one operation -/
def NOne (P : Program) (ops : Array Oper) (o : Oper) (s : St) (K : St → Prop) (Q : DExit → St → Prop) : Prop :=
  match dWanted ops s.fr o with
  | none => False
  | some false => K ⟨s.fr.put o.dst undef, s.df, s.h, s.rd⟩
  | some true => NNext P o s (dOp P (evalF s.h.ng s.fr) o s.h) K Q
theorem NOne_sound {ops : Array Oper} (hd : dstsOK nt ops = true) {k : Nat} {o : Oper} (ho : ops[k]? = some o) {s : St} {K : St → Prop} {Q : DExit → St → Prop} (h : NOne P ops o s K Q)
    {n : Nat} {r : Option Nat} {ι : Inj} {a : Act} {w : World} {Qc : Exit → Act → World → Prop} {Kw : Act → World → Prop} (hs : SRel nt ι s r a w)
    (hK : ∀ ι' s' a' w', K s' → HStep s.h s'.h → SRel nt ι' s' r a' w' → Step ι ι' s.h s'.h w w' → Kw a' w')
    (hQ : ∀ ι' e s' ex a' w', Q e s' → HStep s.h s'.h → ExitRel ι' e ex → SRel nt ι' s' r a' w' → Step ι ι' s.h s'.h w w' → Qc ex a' w') : wpOpIn (FW r) n P ops Qc k Kw a w := by
  have hdo : ∀ d, o.dst = some d → d < nt := fun d h => dstsOK_spec hd k o d ho h
  -- one operation that needs no call
  have one : XOps P ops [o] s (fun e s' => match e with | .normal => K s' | e => Q e s') → wpOpIn (FW r) n P ops Qc k Kw a w := by
    intro hx
    have hw0 := hx
    simp only [XOps] at hx
    have fin : ∀ (v : Value) (h1 : DHeap), Ex P ops o s.fr s.h (.ret v) h1 → isDefer o.op = false → K ⟨s.fr.put o.dst v, s.df, h1, s.rd⟩ → wpOpIn (FW r) n P ops Qc k Kw a w := by
      intro v h1 hex hnd hh
      refine Ex_sound hex ho hnd hs.sim hs.fr.1 (dstsOK_spec hd) (fun t _ u hu => hs.fr.2 t u hu) (fun u hu ι' v' w' hv s1 st => ?_) (fun u hu => by cases hu)
      cases hu
      exact hK ι' _ _ w' hh (Ex_hstep hex) ⟨put_rel (r := r) (w := w) (hs.fr.mono st.le) hdo hv, by rw [put_defers]; exact hs.df.mono st.le, s1, hs.rd.mono st.le⟩ st
    have finp : ∀ (v : Value) (h1 : DHeap), Ex P ops o s.fr s.h (.pan v) h1 → isDefer o.op = false → Q (.pan v) ⟨s.fr, s.df, h1, s.rd⟩ → wpOpIn (FW r) n P ops Qc k Kw a w := by
      intro v h1 hex hnd hh
      refine Ex_sound hex ho hnd hs.sim hs.fr.1 (dstsOK_spec hd) (fun t _ u hu => hs.fr.2 t u hu) (fun u hu => by cases hu) (fun u hu ι' v' w' hv s1 st => ?_)
      cases hu
      exact hQ ι' _ ⟨s.fr, s.df, h1, s.rd⟩ _ a w' hh (Ex_hstep hex) ⟨v', rfl, hv⟩ ⟨hs.fr.mono st.le, hs.df.mono st.le, s1, hs.rd.mono st.le⟩ st
    cases hw : dWanted ops s.fr o with
    | none => rw [hw] at hx; exact hx.elim
    | some b =>
      rw [hw] at hx
      cases b with
      | false =>
        simp only [XOps] at hx
        unfold wpOpIn
        rw [ho]
        have hw' := wanted_rel hs.fr.1 (dstsOK_spec hd) (fun t _ u hu => hs.fr.2 t u hu) hw
        simp only [hw', Bool.false_eq_true, if_false]
        exact ⟨fun _ _ => trivial, hK ι _ _ w hx (.refl _) ⟨put_rel (r := r) (w := w) hs.fr hdo (undef_rel ι), by rw [put_defers]; exact hs.df, hs.sim, hs.rd⟩ (Step.refl ι _ w)⟩
      | true =>
        simp only at hx
        have hexd : ∀ r h1, (match dOp P (evalF s.h.ng s.fr) o s.h with
            | .ok (.value v) h1' => r = .ret v ∧ h1 = h1'
            | .ok .skip h1' => r = .ret undef ∧ h1 = h1'
            | .ok (.enter f args) h1' => DC P f args h1' r h1
            | .ok (.round l size tmps assign body) h1' => DRd P l size tmps assign body h1' r h1
            | .pan v h1' => r = .pan v ∧ h1 = h1'
            | _ => False) → Ex P ops o s.fr s.h r h1 := by
          intro r h1 hh; unfold Ex; rw [hw]; exact hh
        have hnd : ∀ x h1, dOp P (evalF s.h.ng s.fr) o s.h = .ok x h1 → (∀ f gs, x ≠ .defer f gs) → isDefer o.op = false := by
          intro x h1 hop hne
          cases hod : o.op with
          | defer c =>
            exfalso
            unfold dOp at hop
            rw [hod] at hop
            simp only at hop
            repeat' split at hop
            all_goals first
              | (cases hop; done)
              | (cases hop; exact hne _ _ rfl)
          | _ => rfl
        cases hop : dOp P (evalF s.h.ng s.fr) o s.h with
        | bad => rw [hop] at hx; exact hx.elim
        | pan v h1 =>
          rw [hop] at hx
          refine finp v h1 (hexd _ _ (by rw [hop]; exact ⟨rfl, rfl⟩)) ?_ hx
          cases hod : o.op with
          | defer c =>
            exfalso
            unfold dOp at hop
            rw [hod] at hop
            simp only at hop
            repeat' split at hop
            all_goals cases hop
          | _ => rfl
        | ok x h1 =>
          rw [hop] at hx
          cases x with
          | value v => exact fin v h1 (hexd _ _ (by rw [hop]; exact ⟨rfl, rfl⟩)) (hnd _ _ hop (by simp)) hx
          | skip => exact fin undef h1 (hexd _ _ (by rw [hop]; exact ⟨rfl, rfl⟩)) (hnd _ _ hop (by simp)) hx
          | enter f args =>
            obtain ⟨r0, h2, hdc, hx⟩ := hx
            have hex := hexd r0 h2 (by rw [hop]; exact hdc)
            cases r0 with
            | ret v => exact fin v h2 hex (hnd _ _ hop (by simp)) hx
            | pan v => exact finp v h2 hex (hnd _ _ hop (by simp)) hx
          | round l size tmps assign body =>
            obtain ⟨r0, h2, hdc, hx⟩ := hx
            have hex := hexd r0 h2 (by rw [hop]; exact hdc)
            cases r0 with
            | ret v => exact fin v h2 hex (hnd _ _ hop (by simp)) hx
            | pan v => exact finp v h2 hex (hnd _ _ hop (by simp)) hx
          | recover => exact hx.elim
          | defer f args =>
            obtain ⟨hrd, hx⟩ := hx
            have hr : r = none := by
              have := hs.rd
              rw [hrd] at this
              cases r with
              | none => rfl
              | some _ => exact this.elim
            subst hr
            unfold wpOpIn
            rw [ho]
            have hw' := wanted_rel hs.fr.1 (dstsOK_spec hd) (fun t _ u hu => hs.fr.2 t u hu) hw
            simp only [hw', if_true]
            refine ⟨fun _ _ => trivial, ?_⟩
            have hsem : o.semAt (FW none).round a.eval = execOp a.eval o := rfl
            rw [hsem]
            obtain ⟨ι1, w1, x', hrun, hn, s1, st⟩ := dOp_ok hop hs.sim (evalF_rel (P := P) hs.sim (a := a) (ops := ops) (fun t _ u hu => hs.fr.2 t u hu))
            rw [hrun]
            cases x' with
            | defer d =>
              rw [Oper.uponIn_defer]
              obtain ⟨hg, cap, dargs, rfl, hargs⟩ := hn
              refine hK ι1 _ _ w1 hx (dOp_hstep hop) ⟨?_, ?_, s1, hs.rd.mono st.le⟩ st
              · exact put_rel (r := none) (w := w) (a := { a with defers := { target := .fn (.func f) cap, args := dargs } :: a.defers }) (hs.fr.mono st.le) hdo (undef_rel _)
              · rw [put_defers]
                exact ⟨⟨cap, dargs, rfl, hargs⟩, hs.df.mono st.le⟩
            | _ => exact hn.elim
  unfold NOne at h
  cases hw : dWanted ops s.fr o with
  | none => rw [hw] at h; exact h.elim
  | some b =>
    rw [hw] at h
    cases b with
    | false => exact one (by simp only [XOps, hw]; exact h)
    | true =>
      simp only at h
      by_cases hent : ∃ f args h1, dOp P (evalF s.h.ng s.fr) o s.h = .ok (.enter f args) h1
      · obtain ⟨f, args, h1, hop⟩ := hent
        rw [hop] at h
        obtain ⟨R, hct, hall⟩ := h
        have hnd : isDefer o.op = false := by
          cases hod : o.op with
          | defer c =>
            exfalso
            unfold dOp at hop
            rw [hod] at hop
            simp only at hop
            repeat' split at hop
            all_goals cases hop
          | _ => rfl
        unfold wpOpIn
        rw [ho]
        have hw' := wanted_rel hs.fr.1 (dstsOK_spec hd) (fun t _ u hu => hs.fr.2 t u hu) hw
        simp only [hw', if_true]
        refine ⟨fun _ _ => trivial, ?_⟩
        have hsem : o.semAt (FW r).round a.eval = execOp a.eval o := Oper.semAt_eq _ _ _ fun c hc => by rw [hc] at hnd; cases hnd
        rw [hsem]
        obtain ⟨ι1, w1, x', hrun, hn, s1, st⟩ := dOp_ok hop hs.sim (evalF_rel (P := P) hs.sim (a := a) (ops := ops) (fun t _ u hu => hs.fr.2 t u hu))
        rw [hrun]
        cases x' with
        | enter f' args' =>
          obtain ⟨rfl, hargs, _⟩ := hn
          rw [Oper.uponIn_enter]
          refine ⟨fun hh => absurd hh (by simp [FW]), ?_⟩
          have hc : CallsIn (FW r) (n - 1) P f' args' w1 fun e w' => ∃ ι' r h', R r h' ∧ HStep h1 h' ∧ EndRel ι' r e ∧ Sim ι' h' w' ∧ Step ι1 ι' h1 h' w1 w' := hct (n - 1) ι1 w1 args' s1 hargs
          refine CallsIn.mono hc fun e w2 ⟨ι2, r2, h2, hR, hh2, he, s2, st2⟩ => ?_
          have hx := hall r2 h2 hR
          cases r2 with
          | ret v =>
            cases e with
            | returned v' =>
              exact hK ι2 _ _ w2 hx ((dOp_hstep hop).trans hh2) ⟨put_rel (r := r) (w := w) ((hs.fr.mono st.le).mono st2.le) hdo he, by rw [put_defers]; exact (hs.df.mono st.le).mono st2.le, s2, (hs.rd.mono st.le).mono st2.le⟩ (st.trans st2)
            | _ => exact he.elim
          | pan v =>
            cases e with
            | panicked ch =>
              obtain ⟨v', rfl, hv⟩ := he
              exact hQ ι2 _ ⟨s.fr, s.df, h2, s.rd⟩ _ a w2 hx ((dOp_hstep hop).trans hh2) ⟨v', rfl, hv⟩ ⟨(hs.fr.mono st.le).mono st2.le, (hs.df.mono st.le).mono st2.le, s2, (hs.rd.mono st.le).mono st2.le⟩ (st.trans st2)
            | _ => exact he.elim
        | _ => exact hn.elim
      · by_cases hrnd : ∃ l size tmps x y h1, dOp P (evalF s.h.ng s.fr) o s.h = .ok (.round l size tmps x y) h1
        · obtain ⟨lid, size, tmps, cx, cy, h1, hop⟩ := hrnd
          rw [hop] at h
          obtain ⟨R, hct, hall⟩ := h
          have hnd : isDefer o.op = false := by
            cases hod : o.op with
            | defer c =>
              exfalso
              unfold dOp at hop
              rw [hod] at hop
              simp only at hop
              repeat' split at hop
              all_goals cases hop
            | _ => rfl
          unfold wpOpIn
          rw [ho]
          have hw' := wanted_rel hs.fr.1 (dstsOK_spec hd) (fun t _ u hu => hs.fr.2 t u hu) hw
          simp only [hw', if_true]
          refine ⟨fun _ _ => trivial, ?_⟩
          have hsem : o.semAt (FW r).round a.eval = execOp a.eval o := Oper.semAt_eq _ _ _ fun c hc => by rw [hc] at hnd; cases hnd
          rw [hsem]
          obtain ⟨ι1, w1, x', hrun, hn, s1, st⟩ := dOp_ok hop hs.sim (evalF_rel (P := P) hs.sim (a := a) (ops := ops) (fun t _ u hu => hs.fr.2 t u hu))
          rw [hrun]
          cases x' with
          | round l' f' tmps' assign' body' =>
            obtain ⟨⟨e0, he0, hsh, rfl⟩, hargs, rfl, rfl⟩ := hn
            rw [Oper.uponIn_round]
            refine ⟨fun hh => absurd hh (by simp [FW]), ?_⟩
            have hc : RoundIn (FW r) (n - 1) P e0.block f' tmps' assign' body' w1 fun e w' => ∃ ι' r h', R r h' ∧ HStep h1 h' ∧ EndRel ι' r e ∧ Sim ι' h' w' ∧ Step ι1 ι' h1 h' w1 w' := hct (n - 1) ι1 w1 tmps' e0 f' s1 he0 hsh hargs
            refine RoundIn.mono hc fun e w2 ⟨ι2, r2, h2, hR, hh2, he, s2, st2⟩ => ?_
            have hx := hall r2 h2 hR
            cases r2 with
            | ret v =>
              cases e with
              | returned v' =>
                exact hK ι2 _ _ w2 hx ((dOp_hstep hop).trans hh2) ⟨put_rel (r := r) (w := w) ((hs.fr.mono st.le).mono st2.le) hdo he, by rw [put_defers]; exact (hs.df.mono st.le).mono st2.le, s2, (hs.rd.mono st.le).mono st2.le⟩ (st.trans st2)
              | _ => exact he.elim
            | pan v =>
              cases e with
              | panicked ch =>
                obtain ⟨v', rfl, hv⟩ := he
                exact hQ ι2 _ ⟨s.fr, s.df, h2, s.rd⟩ _ a w2 hx ((dOp_hstep hop).trans hh2) ⟨v', rfl, hv⟩ ⟨(hs.fr.mono st.le).mono st2.le, (hs.df.mono st.le).mono st2.le, s2, (hs.rd.mono st.le).mono st2.le⟩ (st.trans st2)
              | _ => exact he.elim
          | _ => exact hn.elim
        · refine one ?_
          simp only [XOps, hw]
          generalize hop : dOp P (evalF s.h.ng s.fr) o s.h = x at h hent hrnd
          cases x with
          | ok y h1 =>
            cases y with
            | enter f args => exact absurd ⟨f, args, h1, rfl⟩ hent
            | value v => exact h
            | skip => exact h
            | defer f gs => exact h
            | round l z t a b => exact absurd ⟨l, z, t, a, b, h1, rfl⟩ hrnd
            | recover => exact h
          | pan v h1 => exact h
          | bad => exact h

/-- a region in any order: what holds when some operations have been done, whichever -/
theorem NC.any {id : Nat} {ops : Array Oper} {Q : DExit → St → Prop} {s : St} (hmix : P.follows .mixedOrders = true) (hd : dstsOK nt ops = true)
    (hlow : ∀ (i : Nat) o, ops[i]? = some o → ∀ p ∈ preds o, p < i)
    (I : (Nat → Bool) → St → Prop) (h0 : I (fun _ => false) s)
    (hstep : ∀ (L : Nat → Bool) (s : St) (i : Nat) (o : Oper), I L s → ops[i]? = some o → L i = false → (∀ p ∈ preds o, L p = true) → NOne P ops o s (I fun j => if j = i then true else L j) Q)
    (hfin : ∀ (L : Nat → Bool) (s : St), I L s → (∀ i, i < ops.size → L i = true) → Q .normal s) : NC P nt (.region id ops true) Q s := by
  intro n r ι0 a0 w0 hs0
  refine wpIn_region_any hmix ?_
  have key : ∀ (fuel : Nat) (L : Array Bool) (s' : St) (ι : Inj) (a : Act) (w : World), unwaited L ops.size ≤ fuel → L.size = ops.size → I (fun j => L.getD j false) s' → HStep s.h s'.h → SRel nt ι s' r a w → Step ι0 ι s.h s'.h w0 w →
      wpAnyIn (FW r) n P .any ops (fun ex a' w' => ∃ ι' e s', Q e s' ∧ HStep s.h s'.h ∧ ExitRel ι' e ex ∧ SRel nt ι' s' r a' w' ∧ Step ι0 ι' s.h s'.h w0 w') fuel L a w := by
    have fin : ∀ (L : Array Bool) (s' : St) (ι : Inj) (a : Act) (w : World), L.size = ops.size → I (fun j => L.getD j false) s' → HStep s.h s'.h → SRel nt ι s' r a w → Step ι0 ι s.h s'.h w0 w → Region.ready .any ops L = [] →
        ∃ ι' e s', Q e s' ∧ HStep s.h s'.h ∧ ExitRel ι' e .normal ∧ SRel nt ι' s' r a w ∧ Step ι0 ι' s.h s'.h w0 w := by
      intro L s' ι a w hL hI hh hs hst hr
      have hfull : ∀ i, i < ops.size → L.getD i false = true := by
        intro i
        induction i using Nat.strongRecOn with
        | _ i ih =>
          intro hi
          cases hLi : L.getD i false with
          | true => rfl
          | false =>
            exfalso
            have : i ∈ Region.ready .any ops L := mem_ready.2 ⟨by rw [getD_ft (by rw [hL]; exact hi)]; exact hLi, ops[i], Array.getElem?_eq_getElem hi, fun e he hb => ?_⟩
            · rw [hr] at this; cases this
            · have hpm : e.on ∈ preds ops[i] := List.mem_filterMap.2 ⟨e, by simpa using he, by rw [if_pos hb]⟩
              have hlt := hlow i _ (Array.getElem?_eq_getElem hi) _ hpm
              exact ih e.on hlt (by omega)
      exact ⟨ι, .normal, s', hfin _ _ hI hfull, hh, trivial, hs, hst⟩
    intro fuel
    induction fuel with
    | zero =>
      intro L s' ι a w hu hL hI hh hs hst
      have hr : Region.ready .any ops L = [] := by
        rw [List.eq_nil_iff_forall_not_mem]
        intro i hi
        obtain ⟨h1, o, h2, _⟩ := mem_ready.1 hi
        have := unwaited_zero (l := L) ops.size (by omega) i (Array.getElem?_eq_some_iff.1 h2).1
        rw [h1] at this; cases this
      exact ⟨hr, fin L s' ι a w hL hI hh hs hst hr⟩
    | succ fuel ih =>
      intro L s' ι a w hu hL hI hh hs hst
      refine ⟨fin L s' ι a w hL hI hh hs hst, fun i hi => ?_⟩
      obtain ⟨h1, o, ho, h2⟩ := mem_ready.1 hi
      have his : i < ops.size := (Array.getElem?_eq_some_iff.1 ho).1
      have hiL : i < L.size := by rw [hL]; exact his
      have hn : L.getD i false = false := by rw [← getD_ft hiL]; exact h1
      have hp : ∀ p ∈ preds o, L.getD p false = true := by
        intro p hp
        obtain ⟨e, he, hh⟩ := List.mem_filterMap.1 hp
        split at hh
        · rename_i hb; cases hh; exact h2 e (by simpa using he) hb
        · cases hh
      have hun := unwaited_set hiL h1 ops.size
      rw [if_pos his] at hun
      refine NOne_sound hd ho (hstep _ s' i o hI ho hn hp) hs (fun ι' s2 a' w' hI2 g1 g2 g3 => ?_) (fun ι' e s2 ex a' w' hq g1 g2 g3 g4 => ⟨ι', e, s2, hq, hh.trans g1, g2, g3, hst.trans g4⟩)
      refine ih _ s2 ι' a' w' (by omega) (by simpa using hL) ?_ (hh.trans g1) g2 (hst.trans g3)
      have : (fun j => (L.setIfInBounds i true).getD j false) = fun j => if j = i then true else L.getD j false := by
        funext j
        exact getD_set_b hiL
      rw [this]
      exact hI2
  have hg : ∀ j, (Array.replicate ops.size false).getD j false = false := by
    intro j; simp only [Array.getD_eq_getD_getElem?, Array.getElem?_replicate]; split <;> rfl
  refine key ops.size _ s ι0 a0 _ ?_ (by simp) ?_ (.refl _) ⟨hs0.fr, hs0.df, hs0.sim.drew _, hs0.rd⟩ (Step.drew ι0 s.h w0 _ (Nat.le_succ _))
  · have : ∀ k, k ≤ ops.size → unwaited (Array.replicate ops.size false) k ≤ k := by
      intro k; induction k with
      | zero => intro _; exact Nat.le_refl _
      | succ k ih => intro hk; have := ih (Nat.le_of_lt hk); simp only [unwaited]; split <;> omega
    exact this _ (Nat.le_refl _)
  · have : (fun j => (Array.replicate ops.size false).getD j false) = fun _ => false := by funext j; exact hg j
    rw [this]
    exact h0
def lowOK (ops : Array Oper) : Bool := (List.range ops.size).all fun i => match ops[i]? with | some o => (preds o).all (fun p => decide (p < i)) | none => true
theorem lowOK_spec {ops : Array Oper} (h : lowOK ops = true) : ∀ (i : Nat) o, ops[i]? = some o → ∀ p ∈ preds o, p < i := by
  intro i o ho p hp
  have hi := (Array.getElem?_eq_some_iff.1 ho).1
  have := List.all_eq_true.1 h i (List.mem_range.2 hi)
  rw [ho] at this
  simpa using List.all_eq_true.1 this p hp
/-- a region in any order: a fact for each operation that has been done, and what holds always. 'b' is what comes before each operation in every order. -/
theorem NC.anyF {id : Nat} {ops : Array Oper} {b : List Nat} {Q : DExit → St → Prop} {s : St} (hmix : P.follows .mixedOrders = true) (hd : dstsOK nt ops = true) (hlow : lowOK ops = true) (hb : befs ops.toList [] = b)
    (G : St → Prop) (F : Nat → St → Prop) (h0 : G s)
    (hstep : ∀ (i : Nat) (o : Oper) (s : St), ops[i]? = some o → G s → (∀ j, (b.getD i 0).testBit j = true → F j s) →
      NOne P ops o s (fun s' => G s' ∧ F i s' ∧ ∀ j, j < ops.size → j ≠ i → (b.getD j 0).testBit i = false → F j s → F j s') Q)
    (hfin : ∀ s, G s → (∀ i, i < ops.size → F i s) → Q .normal s) : NC P nt (.region id ops true) Q s := by
  subst hb
  refine NC.any hmix hd (lowOK_spec hlow) (fun L s => G s ∧ (∀ i, L i = true → i < ops.size) ∧ (∀ (i : Nat) o, L i = true → ops[i]? = some o → ∀ p ∈ preds o, L p = true) ∧ ∀ i, L i = true → F i s) ⟨h0, by simp, by simp, by simp⟩ ?_ (fun L s hI hall => hfin s hI.1 fun i hi => hI.2.2.2 i (hall i hi))
  rintro L s i o ⟨hG, hsz, hdn, hF⟩ ho hn hp
  have hi := (Array.getElem?_eq_some_iff.1 ho).1
  have hcl : ∀ (k : Nat) o, ops[k]? = some o → (∀ p ∈ preds o, L p = true) → ∀ j, ((befs ops.toList []).getD k 0).testBit j = true → L j = true := fun k o ho hp j hj =>
    bef_closed (D := fun j => L j = true) (fun i o hi ho p hp => hdn i o hi ho p hp) k o ho hp j hj
  have hx := hstep i o s ho hG fun j hj => hF j (hcl i o ho hp j hj)
  have fin : ∀ s', (G s' ∧ F i s' ∧ ∀ j, j < ops.size → j ≠ i → ((befs ops.toList []).getD j 0).testBit i = false → F j s → F j s') →
      (G s' ∧ (∀ j, (if j = i then true else L j) = true → j < ops.size) ∧ (∀ (j : Nat) o, (if j = i then true else L j) = true → ops[j]? = some o → ∀ p ∈ preds o, (if p = i then true else L p) = true) ∧ ∀ j, (if j = i then true else L j) = true → F j s') := by
    rintro s' ⟨g, f, st⟩
    refine ⟨g, fun j hj => ?_, fun j oj hj hoj p hpm => ?_, fun j hj => ?_⟩
    · by_cases hji : j = i
      · rw [hji]; exact hi
      · rw [if_neg hji] at hj; exact hsz j hj
    · by_cases hpi : p = i
      · rw [if_pos hpi]
      · rw [if_neg hpi]
        by_cases hji : j = i
        · subst hji; rw [ho] at hoj; cases hoj; exact hp p hpm
        · rw [if_neg hji] at hj; exact hdn j oj hj hoj p hpm
    · by_cases hji : j = i
      · rw [hji]; exact f
      · rw [if_neg hji] at hj
        refine st j (hsz j hj) hji ?_ (hF j hj)
        cases hbit : ((befs ops.toList []).getD j 0).testBit i with
        | false => rfl
        | true =>
          have hjs := hsz j hj
          have hoj := Array.getElem?_eq_getElem hjs
          have := hcl j _ hoj (hdn j _ hj hoj) i hbit
          rw [hn] at this
          cases this
  unfold NOne at hx ⊢
  cases hw : dWanted ops s.fr o with
  | none => rw [hw] at hx; exact hx.elim
  | some bb =>
    rw [hw] at hx
    cases bb with
    | false => exact fin _ hx
    | true => exact NNext_mono fin (fun _ _ h => h) hx
section
variable {ops : Array Oper} {o : Oper} {s : St} {K : St → Prop} {Q : DExit → St → Prop} {v : Value} {h' : DHeap}
theorem NOne_val (hw : dWanted ops s.fr o = some true) (hop : dOp P (evalF s.h.ng s.fr) o s.h = .ok (.value v) h') (hK : K ⟨s.fr.put o.dst v, s.df, h', s.rd⟩) : NOne P ops o s K Q := by
  unfold NOne
  rw [hw, hop]
  exact hK
theorem NOne_skip (hw : dWanted ops s.fr o = some true) (hop : dOp P (evalF s.h.ng s.fr) o s.h = .ok .skip h') (hK : K ⟨s.fr.put o.dst undef, s.df, h', s.rd⟩) : NOne P ops o s K Q := by
  unfold NOne
  rw [hw, hop]
  exact hK
theorem NOne_call {f : FuncId} {args : List Value} {R : DEnd → DHeap → Prop} (hw : dWanted ops s.fr o = some true) (hop : dOp P (evalF s.h.ng s.fr) o s.h = .ok (.enter f args) h') (hc : Ct P f args h' R) (hK : ∀ r h2, R r h2 → XEnd o s r h2 K Q) : NOne P ops o s K Q := by
  unfold NOne
  rw [hw, hop]
  exact ⟨R, hc, hK⟩
end
theorem NOne_strip (ops : Array Oper) (o : Oper) (s : St) (K : St → Prop) (Q : DExit → St → Prop) : NOne P (ops.map stripO) (stripO o) s K Q = NOne P ops o s K Q := by
  unfold NOne
  rw [dWanted_strip, dOp_strip]
  rfl
/-- the same, without the places -/
theorem NC.anyL {id : Nat} {ops : Array Oper} {l : List Oper} {b : List Nat} {Q : DExit → St → Prop} {s : St} (hmix : P.follows .mixedOrders = true) (hd : dstsOK nt ops = true) (hlow : lowOK ops = true) (hb : befs ops.toList [] = b) (hl : ops.map stripO = l.toArray)
    (G : St → Prop) (F : Nat → St → Prop) (h0 : G s)
    (hstep : ∀ (i : Nat) (o : Oper) (s : St), l[i]? = some o → G s → (∀ j, (b.getD i 0).testBit j = true → F j s) →
      NOne P l.toArray o s (fun s' => G s' ∧ F i s' ∧ ∀ j, j < l.length → j ≠ i → (b.getD j 0).testBit i = false → F j s → F j s') Q)
    (hfin : ∀ s, G s → (∀ i, i < l.length → F i s) → Q .normal s) : NC P nt (.region id ops true) Q s := by
  have hsz : ops.size = l.length := by
    have := congrArg Array.size hl
    simpa using this
  refine NC.anyF hmix hd hlow hb G F h0 (fun i o s ho g hF => ?_) (fun s g hF => hfin s g fun i hi => hF i (by omega))
  have ho' : l[i]? = some (stripO o) := by
    have := congrArg (fun a : Array Oper => a[i]?) hl
    simp only [Array.getElem?_map, ho, Option.map_some] at this
    simpa using this.symm
  have := hstep i (stripO o) s ho' g hF
  rw [← hl, NOne_strip] at this
  rw [hsz]
  exact this
end Go.D

namespace Go.D
variable {P : Program}

end Go.D

namespace Go.D
variable {P : Program} {nt : Nat}

def dstOf (l : List Oper) (i : Nat) : Option Tmp := (l[i]?).bind (·.dst)
def isDst (l : List Oper) (t : Tmp) : Bool := l.any fun o => o.dst == some t
/-- each operation has a name of its own -/
def ownDsts : List Oper → Bool
  | [] => true
  | o :: l => o.dst.isSome && !(l.any fun p => p.dst == o.dst) && ownDsts l
theorem ownDsts_ne : ∀ {l : List Oper}, ownDsts l = true → ∀ {i j : Nat} {a b : Oper}, l[i]? = some a → l[j]? = some b → i ≠ j → a.dst ≠ b.dst
  | [], _, i, _, _, _, h, _, _ => by cases i <;> cases h
  | o :: l, hd, i, j, a, b, ha, hb, hij => by
    simp only [ownDsts, Bool.and_eq_true, Bool.not_eq_true'] at hd
    obtain ⟨⟨h1, h2⟩, h3⟩ := hd
    have hno : ∀ {k : Nat} {c : Oper}, l[k]? = some c → c.dst ≠ o.dst := fun {k c} hc hcd => by
      have := List.any_eq_false.1 h2 c (List.mem_of_getElem? hc)
      simp [hcd] at this
    match i, j with
    | 0, 0 => exact absurd rfl hij
    | 0, j + 1 => cases ha; exact fun e => hno (by simpa using hb) e.symm
    | i + 1, 0 => cases hb; exact hno (by simpa using ha)
    | i + 1, j + 1 => exact ownDsts_ne h3 (i := i) (j := j) (by simpa using ha) (by simpa using hb) (by omega)
theorem ownDsts_some : ∀ {l : List Oper}, ownDsts l = true → ∀ {i : Nat} {a : Oper}, l[i]? = some a → ∃ d, a.dst = some d
  | [], _, i, _, h => by cases i <;> cases h
  | o :: l, hd, i, a, ha => by
    simp only [ownDsts, Bool.and_eq_true, Bool.not_eq_true'] at hd
    match i with
    | 0 => cases ha; exact Option.isSome_iff_exists.1 hd.1.1
    | i + 1 => exact ownDsts_some hd.2 (by simpa using ha)
/-- what holds of an operation's value -/
def ValAt (l : List Oper) (V : Nat → DHeap → Value → Prop) (i : Nat) (s : St) : Prop := ∃ d v, dstOf l i = some d ∧ s.fr d = some v ∧ V i s.h v
/-- what holds always -/
structure ValG (l : List Oper) (s0 s : St) : Prop where
  df : s.df = s0.df
  rd : s.rd = s0.rd
  ext : Ext s0.h s.h
  fr : ∀ t, isDst l t = false → s.fr t = s0.fr t
/-- the end of one operation -/
def ValK (V : Nat → DHeap → Value → Prop) (i : Nat) (o : Oper) (s s' : St) : Prop := ∃ v h', s' = ⟨s.fr.put o.dst v, s.df, h', s.rd⟩ ∧ Ext s.h h' ∧ V i h' v
theorem NC.vals {id : Nat} {ops : Array Oper} {l : List Oper} {b : List Nat} {Q : DExit → St → Prop} {s0 : St} (hmix : P.follows .mixedOrders = true) (hd : dstsOK nt ops = true) (hlow : lowOK ops = true) (hb : befs ops.toList [] = b) (hl : ops.map stripO = l.toArray) (hown : ownDsts l = true)
    (V : Nat → DHeap → Value → Prop) (hmono : ∀ i h h' v, Ext h h' → V i h v → V i h' v)
    (hstep : ∀ (i : Nat) (o : Oper) (s : St), l[i]? = some o → ValG l s0 s → (∀ j, (b.getD i 0).testBit j = true → ValAt l V j s) → NOne P l.toArray o s (ValK V i o s) Q)
    (hfin : ∀ s, ValG l s0 s → (∀ i, i < l.length → ValAt l V i s) → Q .normal s) : NC P nt (.region id ops true) Q s0 := by
  refine NC.anyL hmix hd hlow hb hl (ValG l s0) (ValAt l V) ⟨rfl, rfl, .refl _, fun _ _ => rfl⟩ (fun i o s ho g hF => ?_) hfin
  obtain ⟨d, hod⟩ := ownDsts_some hown ho
  have fin : ∀ s', ValK V i o s s' → ValG l s0 s' ∧ ValAt l V i s' ∧ ∀ j, j < l.length → j ≠ i → (b.getD j 0).testBit i = false → ValAt l V j s → ValAt l V j s' := by
    rintro _ ⟨v, h', rfl, he, hv⟩
    refine ⟨⟨g.df, g.rd, g.ext.trans he, fun t ht => ?_⟩, ⟨d, v, by simp [dstOf, ho, hod], by rw [hod]; exact put_same _ _ _, hv⟩, fun j hj hji _ hf => ?_⟩
    · have : t ≠ d := fun e => by
        have hc : isDst l t = true := List.any_eq_true.2 ⟨o, List.mem_of_getElem? ho, by rw [hod, e]; simp⟩
        rw [ht] at hc; cases hc
      show s.fr.put o.dst v t = _
      rw [hod, put_other _ _ this]
      exact g.fr t ht
    · obtain ⟨dj, u, e1, e2, e3⟩ := hf
      have hoj : l[j]? = some l[j] := List.getElem?_eq_getElem hj
      have e1' : l[j].dst = some dj := by simpa [dstOf, hoj] using e1
      have : dj ≠ d := fun e => ownDsts_ne hown hoj ho hji (by rw [e1', hod, e])
      refine ⟨dj, u, e1, ?_, hmono _ _ _ _ he e3⟩
      show s.fr.put o.dst v dj = _
      rw [hod, put_other _ _ this]
      exact e2
  have hx := hstep i o s ho g hF
  unfold NOne at hx ⊢
  cases hw : dWanted l.toArray s.fr o with
  | none => rw [hw] at hx; exact hx.elim
  | some bb =>
    rw [hw] at hx
    cases bb with
    | false => exact fin _ hx
    | true => exact NNext_mono fin (fun _ _ h => h) hx
/-- what an operation's value is, if it is known -/
theorem ValAt.eq {l : List Oper} {V : Nat → DHeap → Value → Prop} {i : Nat} {s : St} {d : Tmp} {c : Value} (a : ValAt l V i s) (hd : dstOf l i = some d) (hc : ∀ h v, V i h v → v = c) : s.fr d = some c := by
  obtain ⟨d', v, e1, e2, e3⟩ := a
  rw [hd] at e1
  cases e1
  rw [e2, hc _ _ e3]
theorem ValAt.ex {l : List Oper} {V : Nat → DHeap → Value → Prop} {i : Nat} {s : St} {d : Tmp} (a : ValAt l V i s) (hd : dstOf l i = some d) : ∃ v, s.fr d = some v ∧ V i s.h v := by
  obtain ⟨d', v, e1, e2, e3⟩ := a
  rw [hd] at e1
  cases e1
  exact ⟨v, e2, e3⟩
section
variable {ops : Array Oper} {o : Oper} {s : St} {V : Nat → DHeap → Value → Prop} {i : Nat} {Q : DExit → St → Prop} {v : Value} {h' : DHeap}
end
/-- a region all of whose values are known -/
theorem NC.known {id : Nat} {ops : Array Oper} {l : List Oper} {b : List Nat} {Q : DExit → St → Prop} {s0 : St} (L : List Value) (hmix : P.follows .mixedOrders = true) (hd : dstsOK nt ops = true) (hlow : lowOK ops = true) (hb : befs ops.toList [] = b) (hl : ops.map stripO = l.toArray) (hown : ownDsts l = true)
    (hstep : ∀ (i : Nat) (o : Oper) (s : St), l[i]? = some o → ValG l s0 s → (∀ j, (b.getD i 0).testBit j = true → ValAt l (fun i _ v => v = L.getD i undef) j s) → NOne P l.toArray o s (ValK (fun i _ v => v = L.getD i undef) i o s) Q)
    (hfin : ∀ s, ValG l s0 s → (∀ i, i < l.length → ValAt l (fun i _ v => v = L.getD i undef) i s) → Q .normal s) : NC P nt (.region id ops true) Q s0 :=
  NC.vals hmix hd hlow hb hl hown _ (fun _ _ _ _ _ h => h) hstep hfin
theorem setAt_mid (A : List Value) : ∀ (vs B : List Value) (k : Nat), setAt (A ++ B) (A.length + k) vs = A ++ setAt B k vs
  | [], B, k => rfl
  | v :: vs, B, k => by
    simp only [setAt]
    rw [List.set_append_right _ _ (Nat.le_add_right _ _), Nat.add_sub_cancel_left, Nat.add_assoc]
    exact setAt_mid A vs (B.set k v) (k + 1)
end Go.D

namespace Go.D
open Go.Sort Go.Proofs
variable {P : Program} {α : Type}

/-- the empty heap -/
def h00 : DHeap := ⟨fun _ => none, 0, 0⟩
theorem sim00 (w : World) : Sim (fun _ => none) h00 w where
  lt := fun _ _ h => (by cases h)
  blk := fun _ _ h => (by cases h)
  obj := fun _ _ h => (by cases h)
  sep := fun _ _ _ _ h => (by cases h)
  glob := fun g hg => absurd hg (Nat.not_lt_zero g)
/-- what is done without any block of one's own changes none -/
theorem grown_of {ι' : Inj} {h' : DHeap} {w w' : World} (st : Step (fun _ => none) ι' h00 h' w w') : ∃ q os', w' = grow (w.drewN q) os' := by
  refine ⟨w'.drawn - w.drawn, w'.heap.extract w.heap.size w'.heap.size, ?_⟩
  have hh : w'.heap = w.heap ++ w'.heap.extract w.heap.size w'.heap.size := by
    refine Array.ext_getElem? fun b => ?_
    rw [Array.getElem?_append]
    by_cases hb : b < w.heap.size
    · rw [if_pos hb]
      exact st.frame b hb fun id e he => by cases he
    · rw [if_neg hb, Array.getElem?_extract]
      have := st.size
      by_cases hb2 : b < w'.heap.size
      · rw [if_pos (by omega)]
        congr 1; omega
      · rw [Array.getElem?_eq_none (by omega), if_neg (by omega)]
  have h1 := st.os
  have h2 := st.tape
  have h3 := st.output
  have h4 := st.drawn
  obtain ⟨hp, tp, dr, o, out⟩ := w'
  simp only at hh h1 h2 h3 h4 ⊢
  subst h1 h2 h3
  rw [World.mk.injEq]
  refine ⟨hh, rfl, ?_, rfl, rfl⟩
  show dr = w.drawn + (dr - w.drawn)
  omega
theorem VRel.aggFlat {ι : Inj} {l : List Value} (h : l.all flat1 = true) : VRel ι (.agg l.toArray) (.agg l.toArray) :=
  .agg rfl fun i v v' a b => by
    rw [a] at b; cases b
    exact flat1_rel ι (list_all_get h (by simpa using a))
/-- a function of two values that have no blocks, as the library asks of what it sorts by -/
theorem cmpLays_of {g : Nat} {enc : α → List Value} {k : Nat} {cf : α → α → Int} [Inhabited α] (hflat : ∀ x, (enc x).all flat1 = true) (hdc : ∀ x y, DC P g [.agg (enc x).toArray, .agg (enc y).toArray] h00 (.ret (.int .i64 (cf x y))) h00) (blk off size : Nat) (w : World) :
    CmpLays P g #[] enc k cf blk off size w := by
  intro m os dk _ x y
  have := (hdc x y).2 0 (fun _ => none) (sortWorldK enc k w blk off m dk os) (#[.agg (enc x).toArray, .agg (enc y).toArray] ++ #[]) (sim00 _) (by
    simp only [Array.append_empty]
    exact ((LRel.nil _).cons (.aggFlat (hflat y))).cons (.aggFlat (hflat x)))
  refine Calls.mono (callsIn_wide.1 this) ?_
  rintro e w' ⟨ι', he, _, st⟩
  cases e with
  | returned v => cases he; exact ⟨rfl, grown_of st⟩
  | _ => exact he.elim
theorem flatMap_get {F : FRep α} [Inhabited α] : ∀ (l : List α) (i r : Nat), i < l.length → r < F.z → (l.flatMap F.enc)[i * F.z + r]? = (F.enc (l.toArray[i]!))[r]?
  | [], i, r, hi, _ => by simp at hi
  | x :: l, 0, r, _, hr => by
    rw [List.flatMap_cons, Nat.zero_mul, Nat.zero_add, List.getElem?_append_left (by rw [F.len]; exact hr)]
    rfl
  | x :: l, i + 1, r, hi, hr => by
    rw [List.flatMap_cons, Nat.succ_mul, List.getElem?_append_right (by rw [F.len]; omega), F.len, show i * F.z + F.z + r - F.z = i * F.z + r by omega]
    have := flatMap_get l i r (by simpa using hi) hr
    rw [this]
    simp
theorem flatK_list {F : FRep α} [Inhabited α] (l : List α) : flatK F.enc F.z l.toArray = (l.flatMap F.enc).toArray := by
  have hs : (flatK F.enc F.z l.toArray).size = (l.flatMap F.enc).toArray.size := by rw [size_flatK, List.size_toArray, List.size_toArray, flatMap_len]
  refine ext_get! hs fun t ht => ?_
  rw [size_flatK, List.size_toArray] at ht
  rw [get_flatK _ _ _ _ (by simpa using ht)]
  have hz : 0 < F.z := by
    rcases Nat.eq_zero_or_pos F.z with h | h
    · rw [h] at ht; simp at ht
    · exact h
  have h1 : t / F.z < l.length := (Nat.div_lt_iff_lt_mul hz).2 ht
  have h2 : t % F.z < F.z := Nat.mod_lt _ hz
  have := flatMap_get (F := F) l (t / F.z) (t % F.z) h1 h2
  rw [Nat.div_add_mod' t F.z] at this
  have h3 : t < (l.flatMap F.enc).length := by rw [flatMap_len]; exact ht
  obtain ⟨x, hx⟩ : ∃ x, l.toArray[t / F.z]! = x := ⟨_, rfl⟩
  rw [hx] at this ⊢
  have h4 : t % F.z < (F.enc x).length := by rw [F.len]; exact h2
  rw [List.getElem?_eq_getElem h3, List.getElem?_eq_getElem h4] at this
  rw [getElem!_pos (F.enc x) (t % F.z) h4, getElem!_pos (l.flatMap F.enc).toArray t (by simpa using h3)]
  simpa using (Option.some.inj this).symm
/-- a row of flat data, as the library has it -/
theorem holds_of {F : FRep α} [Inhabited α] {ι : Inj} {h : DHeap} {w : World} {id o : Nat} {e : Ent} {cells : List Value} {esz : Nat} {l : List α} (s : Sim ι h w) (he : ι id = some e) (hg : h.get id = some (.row cells esz false)) (hl : o + l.length * F.z ≤ cells.length)
    (hc : (cells.drop o).take (l.length * F.z) = l.flatMap F.enc) : HoldsK F.enc F.z w e.block (e.shift + o) l.toArray := by
  obtain ⟨_, _, cur, ty, fz, h3, h4, h5⟩ := s.row he hg
  obtain ⟨hsz, hlen, hfz⟩ := h5 rfl
  unfold HoldsK
  rw [flatK_list]
  intro j hj
  have hj2 : j < l.length * F.z := by rw [← flatMap_len]; simpa using hj
  have h6 : cells[o + j]? = (l.flatMap F.enc)[j]? := by
    rw [← hc, List.getElem?_take, if_pos hj2, List.getElem?_drop]
  have h7 : j < (l.flatMap F.enc).length := by simpa using hj
  rw [List.getElem?_eq_getElem h7] at h6
  obtain ⟨v', h8, h9⟩ := h4 _ _ h6
  have hfl := List.all_eq_true.1 (flatMap_flat F l) _ (List.getElem_mem h7)
  have h10 : v' = (l.flatMap F.enc)[j] := by
    unfold flat1 at hfl
    generalize (l.flatMap F.enc)[j] = x at hfl h9
    cases h9 <;> first | rfl | cases hfl
  constructor
  · simp only [World.cell?, h3]
    rw [getElem!_pos (l.flatMap F.enc).toArray j (by simpa using h7)]
    simp only [id_eq, List.getElem_toArray]
    rw [show e.shift + o + j = e.shift + (o + j) by omega, h8, h10]
    rfl
  · simp only [World.frozen?, h3]
    rw [Bool.and_eq_false_iff]
    simp only [decide_eq_false_iff_not]
    have := hfz (e.shift + o + j) (by omega)
    omega
/-- a row is written anew, and the world grows -/
theorem Sim.rewrite {ι : Inj} {h : DHeap} {w w' : World} {id : Nat} {e : Ent} {cells cells' : List Value} {esz : Nat} {cur cur' : Array Value} {ty : TypeId} {fz : Nat × Nat} (s : Sim ι h w) (he : ι id = some e) (hg : h.get id = some (.row cells esz false)) (hcur : w.heap[e.block]? = some (.cells cur ty fz)) (hcur' : w'.heap[e.block]? = some (.cells cur' ty fz)) (hsz : cur'.size = cur.size)
    (hrel : ∀ (i : Nat) v, cells'[i]? = some v → ∃ v', cur'[e.shift + i]? = some v' ∧ VRel ι v v') (hlen : cells'.length = cells.length) (hoth : ∀ b, b < w.heap.size → b ≠ e.block → w'.heap[b]? = w.heap[b]?) (hsize : w.heap.size ≤ w'.heap.size) (h1 : w'.os = w.os) (h2 : w'.tape = w.tape) (h3 : w'.output = w.output) (h4 : w.drawn ≤ w'.drawn) :
    Sim ι (h.set id (.row cells' esz false)) w' ∧ Step ι ι h (h.set id (.row cells' esz false)) w w' := by
  obtain ⟨hro, hez, cur0, ty0, fz0, k3, k4, k5⟩ := s.row he hg
  rw [hcur] at k3
  cases k3
  obtain ⟨l1, l2, l3⟩ := k5 rfl
  refine ⟨⟨s.lt, fun i x hx => Nat.lt_of_lt_of_le (s.blk i x hx) hsize, ?_, ?_, s.glob⟩, ⟨Inj.le_refl _, fun i x a b => (by rw [a] at b; cases b), Nat.le_refl _, rfl, h1, h2, h3, hsize, ?_, h4⟩⟩
  · intro id' e' h'
    simp only [DHeap.set]
    by_cases hid : id' = id
    · subst hid
      rw [he] at h'
      cases h'
      exact ⟨.row cells' esz false, by rw [if_pos rfl], hro, hez, cur', ty, fz, hcur', hrel, fun _ => ⟨by rw [hsz]; exact l1, by rw [hlen]; exact l2, l3⟩⟩
    · rw [if_neg hid]
      obtain ⟨o, a, b⟩ := s.obj _ _ h'
      by_cases hbl : e'.block = e.block
      · rcases s.sep id' id e' e h' he hid hbl with hd | hd | hd
        · rw [a] at hd; cases hd; exact ⟨_, a, b⟩
        · rw [hg] at hd; cases hd
        · rw [hro] at hd; cases hd.2
      · exact ⟨o, a, b.mono (Inj.le_refl _) (hoth _ (s.blk _ _ h') hbl)⟩
  · intro id1 id2 e1 e2 a b c d
    simp only [DHeap.set]
    rcases s.sep id1 id2 e1 e2 a b c d with hd | hd | hd
    · left
      rw [if_neg (fun hx => by subst hx; rw [hg] at hd; cases hd)]
      exact hd
    · right; left
      rw [if_neg (fun hx => by subst hx; rw [hg] at hd; cases hd)]
      exact hd
    · exact .inr (.inr hd)
  · intro b hb hx
    refine hoth b hb fun hbe => ?_
    have hy := hx id e he hbe.symm
    rw [hro] at hy; cases hy
theorem world_sorted {F : FRep α} [Inhabited α] {ι : Inj} {h : DHeap} {w : World} {id o : Nat} {e : Ent} {cells : List Value} {esz : Nat} (l' : List α) (m : Nat) (os : Array Obj) (s : Sim ι h w) (he : ι id = some e) (hg : h.get id = some (.row cells esz false)) (hl : o + l'.length * F.z ≤ cells.length) :
    Sim ι (h.set id (.row (setAt cells o (l'.flatMap F.enc)) esz false)) (sortWorldK F.enc F.z w e.block (e.shift + o) m l'.toArray os) ∧ Step ι ι h (h.set id (.row (setAt cells o (l'.flatMap F.enc)) esz false)) w (sortWorldK F.enc F.z w e.block (e.shift + o) m l'.toArray os) := by
  obtain ⟨_, _, cur, ty, fz, h3, h4, h5⟩ := s.row he hg
  obtain ⟨hsz, hlen, hfz⟩ := h5 rfl
  have hb := s.blk _ _ he
  have hlk : ∀ b, b < w.heap.size → (sortWorldK F.enc F.z w e.block (e.shift + o) m l'.toArray os).heap[b]? = (w.heap.modify e.block (onCells (putCells _root_.id (e.shift + o) (l'.flatMap F.enc).toArray)))[b]? := fun b hb => by
    show ((w.heap.modify e.block (onCells (putCells _root_.id (e.shift + o) (flatK F.enc F.z l'.toArray)))) ++ os)[b]? = _
    rw [Array.getElem?_append_left (by simpa using hb), flatK_list]
  refine s.rewrite (cur := cur) (cur' := putCells _root_.id (e.shift + o) (l'.flatMap F.enc).toArray cur) (ty := ty) (fz := fz) he hg h3 ?_ (by simp [putCells]) (fun i v hv => ?_) (setAt_length _ _ _) (fun b hb hne => ?_) ?_ rfl rfl rfl (Nat.le_add_right _ _)
  · rw [hlk _ hb, Array.getElem?_modify, if_pos rfl, h3]
    rfl
  · rw [setAt_get, flatMap_len] at hv
    simp only [putCells, Array.getElem?_mapIdx]
    by_cases hi : o ≤ i ∧ i < o + l'.length * F.z ∧ i < cells.length
    · rw [if_pos hi] at hv
      obtain ⟨u, hu, _⟩ := h4 i cells[i] (List.getElem?_eq_getElem hi.2.2)
      rw [hu]
      have h7 : i - o < (l'.flatMap F.enc).length := by rw [flatMap_len]; omega
      have hv2 := hv
      rw [List.getElem?_eq_getElem h7] at hv2
      refine ⟨v, ?_, flat1_rel ι (list_all_get (flatMap_flat F l') hv)⟩
      simp only [Option.map_some, id_eq]
      rw [if_pos ⟨by omega, by simp only [List.size_toArray, flatMap_len]; omega⟩, show e.shift + i - (e.shift + o) = i - o by omega, getElem!_pos (l'.flatMap F.enc).toArray (i - o) (by simpa using h7)]
      simpa using hv2
    · rw [if_neg hi] at hv
      obtain ⟨u, hu, hr⟩ := h4 i v hv
      have := (List.getElem?_eq_some_iff.1 hv).1
      rw [hu]
      refine ⟨u, ?_, hr⟩
      simp only [Option.map_some]
      rw [if_neg]
      simp only [List.size_toArray, flatMap_len]
      omega
  · rw [hlk b hb, Array.getElem?_modify, if_neg (fun hh => hne hh.symm)]
  · show _ ≤ ((w.heap.modify e.block (onCells (putCells _root_.id (e.shift + o) (flatK F.enc F.z l'.toArray)))) ++ os).size
    simp
/-- slices.SortFunc: a row of flat data, sorted -/
theorem sort_ct {F : FRep α} [Inhabited α] {ρ : Go.Shelf.Ren} {k : Nat} (hk : F.z = k) (L : SlLaysF0.n6 P ρ) (aE : ∀ w, (isAgg (ρ.t 24)).run P w = .ok true w) (zE : ∀ w, (Go.sizeOf (ρ.t 24)).run P w = .ok k w) {cf : α → α → Int} (hO : SWO (ltOf cf)) {g : Nat} (eg : ∀ args w, (callFunc g args).run P w = .ok (.enter g args) w)
    (hdc : ∀ x y, DC P g [.agg (F.enc x).toArray, .agg (F.enc y).toArray] h00 (.ret (.int .i64 (cf x y))) h00) {h : DHeap} {id o c : Nat} {cells : List Value} {l : List α} {esz : Nat} (hg : h.get id = some (.row cells esz false)) (h0 : 0 < l.length) (hl : o + l.length * F.z ≤ cells.length) (hc : (cells.drop o).take (l.length * F.z) = l.flatMap F.enc) (hsz : l.length < 4611686018427387904) :
    Ct P (ρ.f 6) [.slice (some ⟨id, o, none⟩) l.length c, .func (.func g) #[] #[]] h fun r h1 => r = .ret (.tuple #[]) ∧ ∃ l' : List α, l'.Perm l ∧ SortedIn (ltOf cf) 0 l.length l'.toArray ∧ h1 = h.set id (.row (setAt cells o (l'.flatMap F.enc)) esz false) := by
  subst hk
  intro n ι w args' s ha
  obtain ⟨a0, e0, r0⟩ := ha.get (i := 0) rfl
  obtain ⟨a1, e1, r1⟩ := ha.get (i := 1) rfl
  have hsz2 : args'.toList.length = 2 := ha.1.symm
  have hargs : args' = #[a0, a1] := by
    obtain ⟨L⟩ := args'
    match L, hsz2 with
    | [x, y], _ => simp at e0 e1; rw [e0, e1]
  cases r0 with
  | @slice _ _ _ _ cap' e a' he hl' hx ha' hb =>
  cases r1 with
  | func hf q1 q2 q3 q4 =>
  rename_i first' cap2
  obtain rfl : first' = #[] := by simpa using q1.symm
  obtain rfl : cap2 = #[] := by simpa using q3.symm
  obtain rfl := ha' (by omega)
  have hm := holds_of s he hg hl hc
  have hcalls := AnyQ.slices_SortFunc L F.z aE zE F.enc F.len (fun x v hv => flat1_one (List.all_eq_true.1 (F.flat x) v hv)) cf hO g #[] e.block (e.shift + o) cap' l.toArray w eg (cmpLays_of F.flat hdc _ _ _ _) hm (s.blk _ _ he) (by simpa using hsz)
  rw [hargs]
  refine callsIn_wide.2 (Calls.mono hcalls ?_)
  rintro en w' ⟨rfl, d', m, os, hp, hs, rfl⟩
  obtain ⟨p1, _, p3⟩ := hp
  have hd : d' = d'.toList.toArray := by simp
  have hlen : d'.toList.length = l.length := by simpa using p1
  have hperm : d'.toList.Perm l := by
    have e1 : (d'.extract 0 l.toArray.size).toList = d'.toList := by rw [← p1]; simp
    have e2 : (l.toArray.extract 0 l.toArray.size).toList = l := by simp
    rw [e1, e2] at p3
    exact p3
  obtain ⟨q5, q6⟩ := world_sorted (F := F) d'.toList m os s he hg (by rw [hlen]; exact hl)
  rw [hd]
  refine ⟨ι, .ret (.tuple #[]), _, ⟨rfl, d'.toList, hperm, ?_, rfl⟩, ⟨q6.next, q6.ng⟩, .tuple rfl (fun i v v' h1 => by simp at h1), q5, q6⟩
  simpa using hs
end Go.D

namespace Go.D
variable {P : Program} {nt : Nat}

/-- each name is given once -/
def onceDsts : List Oper → Bool
  | [] => true
  | o :: l => (o.dst.isNone || !(l.any fun p => p.dst == o.dst)) && onceDsts l
theorem onceDsts_ne : ∀ {l : List Oper}, onceDsts l = true → ∀ {i j : Nat} {a b : Oper} {t : Tmp}, l[i]? = some a → l[j]? = some b → a.dst = some t → b.dst = some t → i = j
  | [], _, i, _, _, _, _, h, _, _, _ => by cases i <;> cases h
  | o :: l, hd, i, j, a, b, t, ha, hb, h1, h2 => by
    simp only [onceDsts, Bool.and_eq_true, Bool.or_eq_true, Bool.not_eq_true'] at hd
    obtain ⟨h3, h4⟩ := hd
    have hno : ∀ {k : Nat} {c : Oper}, l[k]? = some c → o.dst = some t → c.dst = some t → False := fun {k c} hc ho hct => by
      rcases h3 with h3 | h3
      · rw [ho] at h3; cases h3
      · have := List.any_eq_false.1 h3 c (List.mem_of_getElem? hc)
        simp [hct, ho] at this
    match i, j with
    | 0, 0 => rfl
    | 0, j + 1 => cases ha; exact (hno (by simpa using hb) h1 h2).elim
    | i + 1, 0 => cases hb; exact (hno (by simpa using ha) h2 h1).elim
    | i + 1, j + 1 => exact congrArg (· + 1) (onceDsts_ne h4 (i := i) (j := j) (by simpa using ha) (by simpa using hb) h1 h2)
/-- what holds of an operation that has been done -/
def RegAt (l : List Oper) (V : Nat → DHeap → Value → Prop) (i : Nat) (s : St) : Prop := ∃ v, (∀ d, dstOf l i = some d → s.fr d = some v) ∧ V i s.h v
structure RegG (l : List Oper) (E : DHeap → DHeap → Prop) (s0 s : St) : Prop where
  df : s.df = s0.df
  rd : s.rd = s0.rd
  ext : E s0.h s.h
  fr : ∀ t, isDst l t = false → s.fr t = s0.fr t
def RegK (E : DHeap → DHeap → Prop) (V : Nat → DHeap → Value → Prop) (i : Nat) (o : Oper) (s s' : St) : Prop :=
  ∃ v h', s' = ⟨s.fr.put o.dst v, s.df, h', s.rd⟩ ∧ E s.h h' ∧ V i h' v ∧ ∀ j u, j ≠ i → V j s.h u → V j h' u
theorem NC.regs {id : Nat} {ops : Array Oper} {l : List Oper} {b : List Nat} {Q : DExit → St → Prop} {s0 : St} (hmix : P.follows .mixedOrders = true) (hd : dstsOK nt ops = true) (hlow : lowOK ops = true) (hb : befs ops.toList [] = b) (hl : ops.map stripO = l.toArray) (hown : onceDsts l = true)
    (E : DHeap → DHeap → Prop) (hrefl : ∀ h, E h h) (htrans : ∀ a b c, E a b → E b c → E a c) (V : Nat → DHeap → Value → Prop)
    (hstep : ∀ (i : Nat) (o : Oper) (s : St), l[i]? = some o → RegG l E s0 s → (∀ j t, dstOf l j = some t → (b.getD j 0).testBit i = true → s.fr t = s0.fr t) → (∀ t, dstOf l i = some t → s.fr t = s0.fr t) → (∀ j, (b.getD i 0).testBit j = true → RegAt l V j s) → NOne P l.toArray o s (RegK E V i o s) Q)
    (hfin : ∀ s, RegG l E s0 s → (∀ i, i < l.length → RegAt l V i s) → Q .normal s) : NC P nt (.region id ops true) Q s0 := by
  subst hb
  have hsz : ops.size = l.length := by
    have := congrArg Array.size hl
    simpa using this
  have hat : ∀ {i : Nat} {o : Oper}, ops[i]? = some o → l[i]? = some (stripO o) := fun {i o} ho => by
    have := congrArg (fun a : Array Oper => a[i]?) hl
    simp only [Array.getElem?_map, ho, Option.map_some] at this
    simpa using this.symm
  refine NC.any hmix hd (lowOK_spec hlow) (fun L s => RegG l E s0 s ∧ (∀ i, L i = true → i < ops.size) ∧ (∀ (i : Nat) o, L i = true → ops[i]? = some o → ∀ p ∈ preds o, L p = true) ∧ (∀ i, L i = true → RegAt l V i s) ∧ ∀ j t, dstOf l j = some t → L j = false → s.fr t = s0.fr t)
    ⟨⟨rfl, rfl, hrefl _, fun _ _ => rfl⟩, by simp, by simp, by simp, fun _ _ _ _ => rfl⟩ ?_ (fun L s hI hall => hfin s hI.1 fun i hi => hI.2.2.2.1 i (hall i (by omega)))
  rintro L s i o ⟨hG, hsz', hdn, hF, hpre⟩ ho hn hp
  have hi := (Array.getElem?_eq_some_iff.1 ho).1
  have hcl : ∀ (k : Nat) o, ops[k]? = some o → (∀ p ∈ preds o, L p = true) → ∀ j, ((befs ops.toList []).getD k 0).testBit j = true → L j = true := fun k o ho hp j hj =>
    bef_closed (D := fun j => L j = true) (fun i o hi ho p hp => hdn i o hi ho p hp) k o ho hp j hj
  have hx := hstep i (stripO o) s (hat ho) hG (fun j t hj hbit => hpre j t hj (by
    cases hL : L j with
    | false => rfl
    | true =>
      have hjs := hsz' j hL
      have hoj := Array.getElem?_eq_getElem hjs
      have := hcl j _ hoj (hdn j _ hL hoj) i hbit
      rw [hn] at this
      cases this)) (fun t ht => hpre i t ht hn) fun j hj => hF j (hcl i o ho hp j hj)
  have fin : ∀ s', RegK E V i (stripO o) s s' →
      (RegG l E s0 s' ∧ (∀ j, (if j = i then true else L j) = true → j < ops.size) ∧ (∀ (j : Nat) o, (if j = i then true else L j) = true → ops[j]? = some o → ∀ p ∈ preds o, (if p = i then true else L p) = true) ∧ (∀ j, (if j = i then true else L j) = true → RegAt l V j s') ∧ ∀ j t, dstOf l j = some t → (if j = i then true else L j) = false → s'.fr t = s0.fr t) := by
    rintro _ ⟨v, h', rfl, he, hv, hst⟩
    have hdst : dstOf l i = o.dst := by simp [dstOf, hat ho, stripO]
    have hput : ∀ t, o.dst ≠ some t → s.fr.put o.dst v t = s.fr t := fun t ht => by
      cases hod : o.dst with
      | none => rfl
      | some d => exact put_other _ _ (fun e => ht (by rw [hod, e]))
    refine ⟨⟨hG.df, hG.rd, htrans _ _ _ hG.ext he, fun t ht => ?_⟩, fun j hj => ?_, fun j oj hj hoj p hpm => ?_, fun j hj => ?_, fun j t hj hLj => ?_⟩
    · have : o.dst ≠ some t := fun e => by
        have hc : isDst l t = true := List.any_eq_true.2 ⟨stripO o, List.mem_of_getElem? (hat ho), by show (o.dst == some t) = true; rw [e]; simp⟩
        rw [ht] at hc; cases hc
      exact (hput t this).trans (hG.fr t ht)
    · by_cases hji : j = i
      · rw [hji]; exact hi
      · rw [if_neg hji] at hj; exact hsz' j hj
    · by_cases hpi : p = i
      · rw [if_pos hpi]
      · rw [if_neg hpi]
        by_cases hji : j = i
        · subst hji; rw [ho] at hoj; cases hoj; exact hp p hpm
        · rw [if_neg hji] at hj; exact hdn j oj hj hoj p hpm
    · by_cases hji : j = i
      · subst hji
        refine ⟨v, fun d hd => ?_, hv⟩
        rw [hdst] at hd
        show s.fr.put o.dst v d = _
        rw [hd]
        exact put_same _ _ _
      · rw [if_neg hji] at hj
        obtain ⟨u, h1, h2⟩ := hF j hj
        refine ⟨u, fun d hd => ?_, hst j u hji h2⟩
        have hne : o.dst ≠ some d := fun e => by
          have hjs := hsz' j hj
          have hoj := hat (Array.getElem?_eq_getElem hjs)
          have hd2 : (stripO ops[j]).dst = some d := by simpa [dstOf, hoj] using hd
          exact hji (onceDsts_ne hown hoj (hat ho) hd2 e)
        exact (hput d hne).trans (h1 d hd)
    · by_cases hji : j = i
      · rw [if_pos hji] at hLj; cases hLj
      · rw [if_neg hji] at hLj
        have hne : o.dst ≠ some t := fun e => by
          unfold dstOf at hj
          cases hlj : l[j]? with
          | none => rw [hlj] at hj; cases hj
          | some oj =>
            rw [hlj] at hj
            exact hji (onceDsts_ne hown hlj (hat ho) (by simpa using hj) e)
        exact (hput t hne).trans (hpre j t hj hLj)
  rw [← hl, NOne_strip] at hx
  unfold NOne at hx ⊢
  cases hw : dWanted ops s.fr o with
  | none => rw [hw] at hx; exact hx.elim
  | some bb =>
    rw [hw] at hx
    cases bb with
    | false => exact fin _ hx
    | true => exact NNext_mono fin (fun _ _ h => h) hx
theorem RegAt.eq {l : List Oper} {V : Nat → DHeap → Value → Prop} {i : Nat} {s : St} {d : Tmp} {c : Value} (a : RegAt l V i s) (hd : dstOf l i = some d) (hc : ∀ h v, V i h v → v = c) : s.fr d = some c := by
  obtain ⟨v, e2, e3⟩ := a
  rw [e2 d hd, hc _ _ e3]
theorem RegAt.ex {l : List Oper} {V : Nat → DHeap → Value → Prop} {i : Nat} {s : St} {d : Tmp} (a : RegAt l V i s) (hd : dstOf l i = some d) : ∃ v, s.fr d = some v ∧ V i s.h v := by
  obtain ⟨v, e2, e3⟩ := a
  exact ⟨v, e2 d hd, e3⟩
theorem RegAt.fact {l : List Oper} {V : Nat → DHeap → Value → Prop} {i : Nat} {s : St} (a : RegAt l V i s) : ∃ v, V i s.h v := by
  obtain ⟨v, _, e3⟩ := a
  exact ⟨v, e3⟩
section
variable {ops : Array Oper} {o : Oper} {s : St} {E : DHeap → DHeap → Prop} {V : Nat → DHeap → Value → Prop} {i : Nat} {Q : DExit → St → Prop} {v : Value} {h' : DHeap}
theorem reg_pure (hE : ∀ h, E h h) (hw : dWanted ops s.fr o = some true) (hop : dOp P (evalF s.h.ng s.fr) o s.h = .ok (.value v) s.h) (hV : V i s.h v) : NOne P ops o s (RegK E V i o s) Q :=
  NOne_val hw hop ⟨v, _, rfl, hE _, hV, fun _ _ _ h => h⟩
theorem reg_store (hw : dWanted ops s.fr o = some true) (hop : dOp P (evalF s.h.ng s.fr) o s.h = .ok .skip h') (he : E s.h h') (hV : V i h' undef) (hst : ∀ j u, j ≠ i → V j s.h u → V j h' u) : NOne P ops o s (RegK E V i o s) Q :=
  NOne_skip hw hop ⟨undef, _, rfl, he, hV, hst⟩
end
/-- arrays -/
def arrElem (P : Program) (t : TypeId) : Option (Nat × Nat) :=
  match P.underlying t with
  | some (.array len e) => (P.info? e).map fun i => (len, i.size)
  | _ => none
theorem dIndexAddr_arr {t : TypeId} {len z id o : Nat} {k : IntKind} {i : Int} (h1 : arrElem P t = some (len, z)) (h2 : 0 ≤ i) (h3 : i < (len : Int)) : dIndexAddr P t (.pointer (some ⟨id, o, none⟩)) (.int k i) = some (.pointer (some ⟨id, o + i.toNat * z, none⟩)) := by
  unfold arrElem at h1
  split at h1
  · rename_i e e1
    cases e2 : P.info? e with
    | none => rw [e2] at h1; cases h1
    | some inf =>
      rw [e2] at h1
      simp only [Option.map_some, Option.some.injEq, Prod.mk.injEq] at h1
      obtain ⟨rfl, rfl⟩ := h1
      simp only [dIndexAddr, e1, e2]
      rw [if_pos ⟨h2, h3⟩]
  · cases h1
end Go.D

namespace Go.D

structure Instr where
  pos : Int
  op : Int
  a : Int
  b : Int
  imm : Int
  deriving DecidableEq, Inhabited
def fInstr : FRep Instr := fM (fP (fI .i64) (fP (fI .i64) (fP (fI .i64) (fP (fI .i64) (fI .i64))))) (fun x => (x.pos, x.op, x.a, x.b, x.imm)) fun x y h => by
  cases x; cases y; simp at h; simp [h]
abbrev instrV (x : Instr) : Value := .agg #[.int .i64 x.pos, .int .i64 x.op, .int .i64 x.a, .int .i64 x.b, .int .i64 x.imm]
/-- a transaction -/
structure Txn where
  ses : Int
  req : Int
  code : List Int
  args : List Int
  reads : List Key
  writes : List Key
def rTxn : Rep Txn := rM (rP fI64.rep (rP fI64.rep (rP (rSl fU8.rep) (rP (rSl fI64.rep) (rP (rSl fKey.rep) (rSl fKey.rep)))))) fun x => (x.ses, x.req, x.code, x.args, x.reads, x.writes)
abbrev txnV (ses req : Int) (vc va vr vw : Value) : Value := .agg #[.int .i64 ses, .int .i64 req, vc, va, vr, vw]
end Go.D

namespace Go.D

/-- an answer -/
structure Ans where
  ses : Int
  req : Int
  x : Res
/-- what a query found -/
structure Fnd where
  err : Int
  index : Int
  pairs : List Pair
/-- a call of a session -/
structure OpC where
  kind : Int
  t : Txn
  rep : Int
  a : Ans
  own : Bool
  keys : List Key
  f : Fnd
abbrev opL (x : OpC) (vc va vr vw vv vk vp : Value) : List Value :=
  [.int .i64 x.kind, .int .i64 x.t.ses, .int .i64 x.t.req, vc, va, vr, vw, .int .i64 x.rep, .int .i64 x.a.ses, .int .i64 x.a.req, .int .i64 x.a.x.e, vv, .int .i64 x.a.x.s, .int .i64 x.a.x.p, .bool x.own, vk, .int .i64 x.f.err, .int .i64 x.f.index, vp]
end Go.D

namespace Go.Proofs.Ytbdljpndncohaaa
open Go.D
set_option maxRecDepth 100000

def firstB (n : Int) : Bool := !decide (n = 0) && (!decide (n = 6) && (!decide (n = 22) && !decide (n = 25)))
theorem first_c {h : DHeap} {n : Int} : DC Try.prog 84 [.int .i64 n] h (.ret (.bool (firstB n))) h := by
  refine Ct.pure (go_84 (by simp) ?_) (vin_bool _)
  simp -implicitDefEqProofs (disch:=first|omega|simp only [go_sem,Nat.reduceAdd]) only [go_sem,Int.reduceLT,Int.reduceLE,Int.reduceEq,reduceIte,true_and, c84]
  (repeat' first | (refine NStp_split (fun hb => ?_) (fun hb => ?_) <;> (try simp only [Bool.not_eq_true', Bool.not_eq_false'] at hb) <;> simp -implicitDefEqProofs (disch:=first|omega|simp only [go_sem,Nat.reduceAdd]) only [go_sem,Int.reduceLT,Int.reduceLE,Int.reduceEq,reduceIte,true_and, dPick_t, dPick_f, hb]) | (refine XIf_split (fun hb => ?_) (fun hb => ?_) <;> (try simp only [Bool.not_eq_true', Bool.not_eq_false'] at hb) <;> simp -implicitDefEqProofs (disch:=first|omega|simp only [go_sem,Nat.reduceAdd]) only [go_sem,Int.reduceLT,Int.reduceLE,Int.reduceEq,reduceIte,true_and, dPick_t, dPick_f, hb]))
  all_goals exact ⟨_, rfl, by simp_all [firstB], .refl _⟩
def twoB (n : Int) : Bool := decide (7 ≤ n) && decide (n ≤ 18) || (decide (n = 20) || (decide (n = 21) || (decide (n = 26) || decide (n = 27))))
theorem two_c {h : DHeap} {n : Int} : DC Try.prog 85 [.int .i64 n] h (.ret (.bool (twoB n))) h := by
  refine Ct.pure (go_85 (by simp) ?_) (vin_bool _)
  simp -implicitDefEqProofs (disch:=first|omega|simp only [go_sem,Nat.reduceAdd]) only [go_sem,Int.reduceLT,Int.reduceLE,Int.reduceEq,reduceIte,true_and, c85]
  (repeat' first | (refine NStp_split (fun hb => ?_) (fun hb => ?_) <;> (try simp only [Bool.not_eq_true', Bool.not_eq_false'] at hb) <;> simp -implicitDefEqProofs (disch:=first|omega|simp only [go_sem,Nat.reduceAdd]) only [go_sem,Int.reduceLT,Int.reduceLE,Int.reduceEq,reduceIte,true_and, dPick_t, dPick_f, hb]) | (refine XIf_split (fun hb => ?_) (fun hb => ?_) <;> (try simp only [Bool.not_eq_true', Bool.not_eq_false'] at hb) <;> simp -implicitDefEqProofs (disch:=first|omega|simp only [go_sem,Nat.reduceAdd]) only [go_sem,Int.reduceLT,Int.reduceLE,Int.reduceEq,reduceIte,true_and, dPick_t, dPick_f, hb]))
  all_goals exact ⟨_, rfl, by simp_all [twoB] <;> omega, .refl _⟩
def jumpsB (n : Int) : Bool := decide (n = 22) || decide (n = 23)
theorem refJumps_c {h : DHeap} {n : Int} : DC Try.prog 57 [.int .i64 n] h (.ret (.bool (jumpsB n))) h := by
  refine Ct.pure (go_57 (by simp) ?_) (vin_bool _)
  simp -implicitDefEqProofs (disch:=first|omega|simp only [go_sem,Nat.reduceAdd]) only [go_sem,Int.reduceLT,Int.reduceLE,Int.reduceEq,reduceIte,true_and, c57]
  (repeat' first | (refine NStp_split (fun hb => ?_) (fun hb => ?_) <;> (try simp only [Bool.not_eq_true', Bool.not_eq_false'] at hb) <;> simp -implicitDefEqProofs (disch:=first|omega|simp only [go_sem,Nat.reduceAdd]) only [go_sem,Int.reduceLT,Int.reduceLE,Int.reduceEq,reduceIte,true_and, dPick_t, dPick_f, hb]) | (refine XIf_split (fun hb => ?_) (fun hb => ?_) <;> (try simp only [Bool.not_eq_true', Bool.not_eq_false'] at hb) <;> simp -implicitDefEqProofs (disch:=first|omega|simp only [go_sem,Nat.reduceAdd]) only [go_sem,Int.reduceLT,Int.reduceLE,Int.reduceEq,reduceIte,true_and, dPick_t, dPick_f, hb]))
  all_goals exact ⟨_, rfl, by simp_all [jumpsB], .refl _⟩
def sizeI (n : Int) : Int := if n = 0 then 1 else if n = 6 ∨ n = 24 ∨ n = 25 then 2 else if n = 2 ∨ n = 3 ∨ n = 4 ∨ n = 5 ∨ n = 19 ∨ n = 22 then 3 else if n = 1 ∨ n = 23 ∨ n = 26 ∨ n = 27 then 4 else if 7 ≤ n ∧ n ≤ 21 then 3 else 0
theorem refSize_c {h : DHeap} {n : Int} : DC Try.prog 83 [.int .i64 n] h (.ret (.int .i64 (sizeI n))) h := by
  refine Ct.pure (go_83 (by simp) ?_) (vin_int _ _)
  simp -implicitDefEqProofs (disch:=first|omega|simp only [go_sem,Nat.reduceAdd]) only [go_sem,Int.reduceLT,Int.reduceLE,Int.reduceEq,reduceIte,true_and, c83]
  (repeat' first | (refine NStp_split (fun hb => ?_) (fun hb => ?_) <;> (try simp only [Bool.not_eq_true', Bool.not_eq_false'] at hb) <;> simp -implicitDefEqProofs (disch:=first|omega|simp only [go_sem,Nat.reduceAdd]) only [go_sem,Int.reduceLT,Int.reduceLE,Int.reduceEq,reduceIte,true_and, dPick_t, dPick_f, hb]) | (refine XIf_split (fun hb => ?_) (fun hb => ?_) <;> (try simp only [Bool.not_eq_true', Bool.not_eq_false'] at hb) <;> simp -implicitDefEqProofs (disch:=first|omega|simp only [go_sem,Nat.reduceAdd]) only [go_sem,Int.reduceLT,Int.reduceLE,Int.reduceEq,reduceIte,true_and, dPick_t, dPick_f, hb]))
  all_goals exact ⟨_, rfl, by simp_all [sizeI] <;> omega, .refl _⟩

def wideI (n : Int) : Int := sizeI n - 1 - (if firstB n then 1 else 0) - (if twoB n then 1 else 0)
theorem sizeI_le (n : Int) : 0 ≤ sizeI n ∧ sizeI n ≤ 4 := by
  unfold sizeI
  repeat' split
  all_goals omega
theorem refWide_c {h : DHeap} {n : Int} : DC Try.prog 86 [.int .i64 n] h (.ret (.int .i64 (wideI n))) h := by
  refine Ct.pure (go_86 (by simp) ?_) (vin_int _ _)
  have hs := sizeI_le n
  simp -implicitDefEqProofs (disch:=first|omega|simp only [go_sem,Nat.reduceAdd]) only [go_sem,Int.reduceLT,Int.reduceLE,Int.reduceEq,reduceIte,true_and, c86]
  refine ncall refSize_c ?_
  simp -implicitDefEqProofs (disch:=first|omega|simp only [go_sem,Nat.reduceAdd]) only [go_sem,Int.reduceLT,Int.reduceLE,Int.reduceEq,reduceIte,true_and]
  refine ncall first_c ?_
  simp -implicitDefEqProofs (disch:=first|omega|simp only [go_sem,Nat.reduceAdd]) only [go_sem,Int.reduceLT,Int.reduceLE,Int.reduceEq,reduceIte,true_and]
  refine XIf_split (fun h1 => ?_) (fun h1 => ?_)
  all_goals simp -implicitDefEqProofs (disch:=first|omega|simp only [go_sem,Nat.reduceAdd]) only [go_sem,Int.reduceLT,Int.reduceLE,Int.reduceEq,reduceIte,true_and, h1]
  all_goals refine ncall two_c ?_
  all_goals simp -implicitDefEqProofs (disch:=first|omega|simp only [go_sem,Nat.reduceAdd]) only [go_sem,Int.reduceLT,Int.reduceLE,Int.reduceEq,reduceIte,true_and]
  all_goals refine XIf_split (fun h2 => ?_) (fun h2 => ?_)
  all_goals simp -implicitDefEqProofs (disch:=first|omega|simp only [go_sem,Nat.reduceAdd]) only [go_sem,Int.reduceLT,Int.reduceLE,Int.reduceEq,reduceIte,true_and, h2]
  all_goals refine ⟨_, rfl, ?_, .refl _⟩
  all_goals simp only [wideI, h1, h2, if_true, if_false, Bool.false_eq_true]
  all_goals congr 2
  · rw [wrap_i64_in (n := sizeI n - 1) (by omega) (by omega), wrap_i64_in (n := sizeI n - 1 - 1) (by omega) (by omega), wrap_i64_in (by omega) (by omega)]
  · rw [wrap_i64_in (n := sizeI n - 1) (by omega) (by omega), wrap_i64_in (by omega) (by omega)]; omega
  · rw [wrap_i64_in (n := sizeI n - 1) (by omega) (by omega), wrap_i64_in (by omega) (by omega)]; omega
  · rw [wrap_i64_in (n := sizeI n - 1) (by omega) (by omega)]; omega
def indexE (x : Instr) : Int :=
  if firstB x.op && (decide (x.a < 0) || decide (8 ≤ x.a)) || twoB x.op && (decide (x.b < 0) || decide (8 ≤ x.b)) then 132
  else if decide (x.op = 19) && (!decide (x.imm = 8) && (!decide (x.imm = 16) && !decide (x.imm = 32))) then 132 else 0
theorem refIndex_c {h : DHeap} {x : Instr} : DC Try.prog 87 [instrV x] h (.ret (.int .i64 (indexE x))) h := by
  obtain ⟨x1, x2, x3, x4, x5⟩ := x
  refine Ct.pure (go_87 (by simp) ?_) (vin_int _ _)
  obtain ⟨H, hH⟩ : ∃ H, H = h.push (.row [.int .i64 x1, .int .i64 x2, .int .i64 x3, .int .i64 x4, .int .i64 x5] 0 false) := ⟨_, rfl⟩
  have hE : Ext h H := by rw [hH]; exact Ext.push1 _ _
  have g : H.get h.next = some (.row [.int .i64 x1, .int .i64 x2, .int .i64 x3, .int .i64 x4, .int .i64 x5] 0 false) := by rw [hH]; exact get_push_same _ _
  have a1 : cellAt H h.next 1 = some (.int .i64 x2) := cellAt_row g
  have a2 : cellAt H h.next 2 = some (.int .i64 x3) := cellAt_row g
  have a3 : cellAt H h.next 3 = some (.int .i64 x4) := cellAt_row g
  have a4 : cellAt H h.next 4 = some (.int .i64 x5) := cellAt_row g
  simp -implicitDefEqProofs (disch:=first|omega|simp only [go_sem,Nat.reduceAdd]) only [go_sem,Int.reduceLT,Int.reduceLE,Int.reduceEq,reduceIte,true_and, c87, ← hH, a1]
  clear hH
  refine ncall first_c ?_
  simp -implicitDefEqProofs (disch:=first|omega|simp only [go_sem,Nat.reduceAdd]) only [go_sem,Int.reduceLT,Int.reduceLE,Int.reduceEq,reduceIte,true_and, a1, a2]
  (repeat' first | (refine NStp_split (fun hb => ?_) (fun hb => ?_) <;> (try simp only [Bool.not_eq_true', Bool.not_eq_false'] at hb) <;> simp -implicitDefEqProofs (disch:=first|omega|simp only [go_sem,Nat.reduceAdd]) only [go_sem,Int.reduceLT,Int.reduceLE,Int.reduceEq,reduceIte,true_and, dPick_t, dPick_f, hb, a1, a2, a3, a4]) | (refine XIf_split (fun hb => ?_) (fun hb => ?_) <;> (try simp only [Bool.not_eq_true', Bool.not_eq_false'] at hb) <;> simp -implicitDefEqProofs (disch:=first|omega|simp only [go_sem,Nat.reduceAdd]) only [go_sem,Int.reduceLT,Int.reduceLE,Int.reduceEq,reduceIte,true_and, dPick_t, dPick_f, hb, a1, a2, a3, a4]))
  all_goals first
    | (refine ncall two_c ?_
       simp -implicitDefEqProofs (disch:=first|omega|simp only [go_sem,Nat.reduceAdd]) only [go_sem,Int.reduceLT,Int.reduceLE,Int.reduceEq,reduceIte,true_and, a1, a2, a3, a4, dPick_t, dPick_f, *])
    | skip
  (repeat' first | (refine NStp_split (fun hb => ?_) (fun hb => ?_) <;> (try simp only [Bool.not_eq_true', Bool.not_eq_false'] at hb) <;> simp -implicitDefEqProofs (disch:=first|omega|simp only [go_sem,Nat.reduceAdd]) only [go_sem,Int.reduceLT,Int.reduceLE,Int.reduceEq,reduceIte,true_and, dPick_t, dPick_f, hb, a1, a2, a3, a4]) | (refine XIf_split (fun hb => ?_) (fun hb => ?_) <;> (try simp only [Bool.not_eq_true', Bool.not_eq_false'] at hb) <;> simp -implicitDefEqProofs (disch:=first|omega|simp only [go_sem,Nat.reduceAdd]) only [go_sem,Int.reduceLT,Int.reduceLE,Int.reduceEq,reduceIte,true_and, dPick_t, dPick_f, hb, a1, a2, a3, a4]))
  all_goals exact ⟨_, rfl, by simp_all [indexE] <;> omega, hE⟩
end Go.Proofs.Ytbdljpndncohaaa

namespace Go.Proofs.Ytbdljpndncohaaa
open Go.D
set_option maxRecDepth 100000

abbrev zeroInstr : Instr := ⟨0, 0, 0, 0, 0⟩
/-- an instruction's number: of two bytes, with a sign, if it is a constant's -/
def immW (op w x y : Int) : Int := if w = 2 then (if op = 1 ∧ 32768 ≤ x + 256 * y then x + 256 * y - 65536 else x + 256 * y) else if 1 ≤ w then x else 0
def oneI (l : List Int) (i : Nat) : Instr :=
  let op := l.getD i 0
  let k2 := i + 1 + if firstB op then 1 else 0
  let k3 := k2 + if twoB op then 1 else 0
  ⟨i, op, if firstB op then l.getD (i + 1) 0 else 0, if twoB op then l.getD k2 0 else 0, immW op (wideI op) (l.getD k3 0) (l.getD (k3 + 1) 0)⟩
/-- the instruction at an address, where the next one is, what is wrong -/
def oneT (l : List Int) (i : Nat) : Instr × Int × Int :=
  if l.length ≤ i then (zeroInstr, 0, 130)
  else if sizeI (l.getD i 0) = 0 ∨ (l.length : Int) - i < sizeI (l.getD i 0) then (zeroInstr, 0, 130)
  else if indexE (oneI l i) = 0 then (oneI l i, i + sizeI (l.getD i 0), 0) else (zeroInstr, 0, indexE (oneI l i))
theorem byte_at {h : DHeap} {v : Value} {l : List Int} (hb : Arg fU8.rep h v l) {i : Nat} (hi : i < l.length) :
    ∃ id o, dIndexAddr Try.prog 22 v (.int .i64 (i : Nat)) = some (.pointer (some ⟨id, o, none⟩)) ∧ (∀ K, Ext h K → cellAt K id o = some (.int .u8 (l.getD i 0))) ∧ 0 ≤ l.getD i 0 ∧ l.getD i 0 ≤ 255 := by
  have hx : l[i]? = some l[i] := List.getElem?_eq_getElem hi
  have hgd : l.getD i 0 = l[i] := by rw [List.getD_eq_getElem?_getD, hx]; rfl
  obtain ⟨id, o, e1, hid, hat⟩ := hb.idx (P := Try.prog) (t := 22) el_22 (k := .i64) hx
  have hok := inK_u8.1 (hb.ok _ (List.getElem_mem hi))
  refine ⟨id, o, e1, fun K e => ?_, by rw [hgd]; exact hok.1, by rw [hgd]; exact hok.2⟩
  have := (hat.flat).1 0 (by decide)
  rw [Nat.add_zero] at this
  unfold cellAt at this ⊢
  rw [e.get _ hid, hgd]
  exact this
theorem size_split {n : Int} (h : sizeI n ≠ 0) : 0 ≤ wideI n ∧ wideI n ≤ 2 ∧ 0 ≤ n ∧ n < 28 := by
  have h1 : 0 ≤ n ∧ n < 28 := by
    unfold sizeI at h
    repeat' split at h
    all_goals omega
  obtain ⟨k, rfl⟩ : ∃ k : Nat, n = k := ⟨n.toNat, by omega⟩
  have : ∀ k : Nat, k < 28 → 0 ≤ wideI k ∧ wideI k ≤ 2 := by decide
  have := this k (by omega)
  omega
theorem res_i {fr : Fr} {K : DHeap} {a b c id : Nat} {x : Instr} {n e : Int} (f2 : fr a = some (.pointer (some ⟨id, 0, none⟩))) (f3 : fr b = some (.int .i64 n)) (f4 : fr c = some (.int .i64 e)) (hk : K.get id = some (.row (fInstr.enc x) 0 false)) :
    dResults Try.prog [.cell a 95, .tmp b, .tmp c] fr K = some (.tuple #[instrV x, .int .i64 n, .int .i64 e]) := by
  rw [dResults_d3, dRes1_cell, f2, dResC_some, dRes1_tmp, dRes1_tmp, f3, f4]
  have e1 : dLoad Try.prog 95 (.pointer (some ⟨id, 0, none⟩)) K = some (instrV x) := ld_95.trans (by rw [cellsAt_row hk (Nat.le_of_ble_eq_true rfl)]; rfl)
  rw [e1]
  rfl
theorem bd_instr0 : dBuild Try.prog 95 [] = some (instrV zeroInstr) := dBuild_at plc_95 rfl
theorem bd_instr2 {p o : Int} : dBuild Try.prog 95 [(0, .int .i64 p), (1, .int .i64 o)] = some (instrV ⟨p, o, 0, 0, 0⟩) := dBuild_at plc_95 rfl
theorem vin_one {S : Nat → Prop} {x : Instr} {n e : Int} : VIn S (.tuple #[instrV x, .int .i64 n, .int .i64 e]) := by
  refine .tuple fun v hv => ?_
  simp only [List.mem_toArray, List.mem_cons, List.not_mem_nil, or_false] at hv
  rcases hv with rfl | rfl | rfl
  · exact .agg fun v hv => by
      simp only [List.mem_toArray, List.mem_cons, List.not_mem_nil, or_false] at hv
      rcases hv with rfl | rfl | rfl | rfl | rfl <;> exact .int _ _
  · exact .int _ _
  · exact .int _ _
theorem store5_push {h : DHeap} {z : Nat} {a b c d e a' b' c' d' e' : Value} (hv : [a, b, c, d, e].all Value.oneCell' = true) : storeAt (h.push (.row [a', b', c', d', e'] z false)) h.next 0 [a, b, c, d, e] = some (h.push (.row [a, b, c, d, e] z false)) := storeAll_push rfl hv
/-- how things lie on the way -/
def OneM (B : Nat) (H : DHeap) (v : Value) (i : Nat) (op a b imm k : Int) (s : St) : Prop :=
  s.df = [] ∧ s.rd = none ∧ s.fr 0 = some v ∧ s.fr 1 = some (.int .i64 (i : Nat)) ∧ s.fr 4 = some (.pointer (some ⟨B, 0, none⟩)) ∧ s.fr 7 = some (.int .i64 (sizeI op)) ∧ s.fr 8 = some (.pointer (some ⟨H.next, 0, none⟩)) ∧ s.fr 9 = some (.int .i64 k) ∧ s.h = H.push (.row (fInstr.enc ⟨(i : Nat), op, a, b, imm⟩) 0 false)
set_option maxHeartbeats 2000000 in
theorem refOne_c {h : DHeap} {v : Value} {l : List Int} {i : Nat} (hb : Arg fU8.rep h v l) (hl : l.length ≤ 4294967296) (hi : i ≤ 4294967296) :
    DC Try.prog 69 [v, .int .i64 (i : Nat)] h (.ret (.tuple #[instrV (oneT l i).1, .int .i64 (oneT l i).2.1, .int .i64 (oneT l i).2.2])) h := by
  refine Ct.pure (go_69 (by simp) ?_) vin_one
  obtain ⟨H, hH⟩ : ∃ H, H = h.push (.row [.int .i64 0, .int .i64 0, .int .i64 0, .int .i64 0, .int .i64 0] 0 false) := ⟨_, rfl⟩
  have hE : Ext h H := by rw [hH]; exact Ext.push1 _ _
  have g : H.get h.next = some (.row (fInstr.enc zeroInstr) 0 false) := by rw [hH]; exact get_push_same _ _
  have hHn : H.next = h.next + 1 := by rw [hH]; rfl
  have el : ∀ K, dLen Try.prog #[22] v K = some (.int .i64 (l.length : Nat)) := hb.lens (P := Try.prog) (ts := #[22]) (t := 22) rfl isl_22
  have hz : storeAt H h.next 0 [.int .i64 0, .int .i64 0, .int .i64 0, .int .i64 0, .int .i64 0] = some H := by
    rw [storeAt_row g (Nat.le_of_ble_eq_true rfl) rfl]
    exact congrArg some (set_self g)
  have hneg : ¬ ((i : Nat) : Int) < 0 := by omega
  by_cases h0 : ((l.length : Nat) : Int) ≤ (i : Nat)
  · have h0' := eq_true h0
    simp -implicitDefEqProofs (disch:=first|omega|simp only [go_sem,Nat.reduceAdd]) only [go_sem,Int.reduceLT,Int.reduceLE,Int.reduceEq,reduceIte,true_and, c69, ← hH, hneg, h0', el, dPick_t, dPick_f, bd_instr0, hz]
    refine ret_at (res_i (n := 0) (e := 130) (by simp -implicitDefEqProofs (disch:=first|omega|simp only [go_sem,Nat.reduceAdd]) only [go_sem,Int.reduceLT,Int.reduceLE,Int.reduceEq,reduceIte,true_and]) (by simp -implicitDefEqProofs (disch:=first|omega|simp only [go_sem,Nat.reduceAdd]) only [go_sem,Int.reduceLT,Int.reduceLE,Int.reduceEq,reduceIte,true_and]) (by simp -implicitDefEqProofs (disch:=first|omega|simp only [go_sem,Nat.reduceAdd]) only [go_sem,Int.reduceLT,Int.reduceLE,Int.reduceEq,reduceIte,true_and]) g) ⟨?_, hE⟩
    rw [oneT, if_pos (by omega)]
  have hil : i < l.length := by omega
  obtain ⟨id0, o0, ia0, lb0, r0, r1⟩ := byte_at hb hil
  obtain ⟨op, hop⟩ : ∃ op, l.getD i 0 = op := ⟨_, rfl⟩
  rw [hop] at lb0 r0 r1
  have hw0 : IntKind.i64.wrap op = op := wrap_i64_in (by omega) (by omega)
  simp -implicitDefEqProofs (disch:=first|omega|simp only [go_sem,Nat.reduceAdd]) only [go_sem,Int.reduceLT,Int.reduceLE,Int.reduceEq,reduceIte,true_and, c69, ← hH, hneg, h0, el, dPick_t, dPick_f, ia0, lb0 H hE, hw0]
  refine ncall refSize_c ?_
  have hs := sizeI_le op
  have hwl : IntKind.i64.wrap ((l.length : Int) - (i : Nat)) = (l.length : Int) - (i : Nat) := wrap_i64_in (by omega) (by omega)
  by_cases h1 : sizeI op = 0
  · have h1' := eq_true h1
    simp -implicitDefEqProofs (disch:=first|omega|simp only [go_sem,Nat.reduceAdd]) only [go_sem,Int.reduceLT,Int.reduceLE,Int.reduceEq,reduceIte,true_and, h1', dPick_t, dPick_f, bd_instr0, hz]
    refine ret_at (res_i (n := 0) (e := 130) (by simp -implicitDefEqProofs (disch:=first|omega|simp only [go_sem,Nat.reduceAdd]) only [go_sem,Int.reduceLT,Int.reduceLE,Int.reduceEq,reduceIte,true_and]) (by simp -implicitDefEqProofs (disch:=first|omega|simp only [go_sem,Nat.reduceAdd]) only [go_sem,Int.reduceLT,Int.reduceLE,Int.reduceEq,reduceIte,true_and]) (by simp -implicitDefEqProofs (disch:=first|omega|simp only [go_sem,Nat.reduceAdd]) only [go_sem,Int.reduceLT,Int.reduceLE,Int.reduceEq,reduceIte,true_and]) g) ⟨?_, hE⟩
    rw [oneT, if_neg (by omega), hop, if_pos (.inl h1)]
  by_cases h2 : (l.length : Int) - (i : Nat) < sizeI op
  · have h2' := eq_true h2
    simp -implicitDefEqProofs (disch:=first|omega|simp only [go_sem,Nat.reduceAdd]) only [go_sem,Int.reduceLT,Int.reduceLE,Int.reduceEq,reduceIte,true_and, h1, hwl, h2', el, dPick_t, dPick_f, bd_instr0, hz]
    refine ret_at (res_i (n := 0) (e := 130) (by simp -implicitDefEqProofs (disch:=first|omega|simp only [go_sem,Nat.reduceAdd]) only [go_sem,Int.reduceLT,Int.reduceLE,Int.reduceEq,reduceIte,true_and]) (by simp -implicitDefEqProofs (disch:=first|omega|simp only [go_sem,Nat.reduceAdd]) only [go_sem,Int.reduceLT,Int.reduceLE,Int.reduceEq,reduceIte,true_and]) (by simp -implicitDefEqProofs (disch:=first|omega|simp only [go_sem,Nat.reduceAdd]) only [go_sem,Int.reduceLT,Int.reduceLE,Int.reduceEq,reduceIte,true_and]) g) ⟨?_, hE⟩
    rw [oneT, if_neg (by omega), hop, if_pos (.inr h2)]
  obtain ⟨w1, w2, w3, w4⟩ := size_split h1
  have hT : oneT l i = if indexE (oneI l i) = 0 then (oneI l i, i + sizeI op, 0) else (zeroInstr, 0, indexE (oneI l i)) := by
    rw [oneT, if_neg (by omega), hop, if_neg (by omega)]
  have hsz : sizeI op = 1 + (if firstB op then 1 else 0) + (if twoB op then 1 else 0) + wideI op := by unfold wideI; omega
  have cI : ∀ x, cellAt (H.push (.row (fInstr.enc x) 0 false)) H.next 1 = some (.int .i64 x.op) := fun x => cellAt_row (get_push_same _ _)
  have cI4 : ∀ x, cellAt (H.push (.row (fInstr.enc x) 0 false)) H.next 4 = some (.int .i64 x.imm) := fun x => cellAt_row (get_push_same _ _)
  have hEP : ∀ o, Ext h (H.push o) := fun o => hE.push o
  have sI : ∀ (x : Instr) (j : Nat) (n : Int), j < 5 → storeAt (H.push (.row (fInstr.enc x) 0 false)) H.next j [.int .i64 n] = some ((H.push (.row (fInstr.enc x) 0 false)).set H.next (.row (setAt (fInstr.enc x) j [.int .i64 n]) 0 false)) := fun x j n hj => storeAt_row (get_push_same _ _) (by rw [fInstr.len]; exact hj) rfl
  have lc : ∀ x, cellsAt (H.push (.row (fInstr.enc x) 0 false)) H.next 0 5 = some (instrV x) := fun x => by rw [cellsAt_row (get_push_same _ _) (Nat.le_of_ble_eq_true rfl)]; rfl
  have hw1 : IntKind.i64.wrap ((i : Int) + 1) = ((i + 1 : Nat) : Int) := by rw [wrap_i64_in (by omega) (by omega)]; omega
  have hst5 : ∀ a b c d e : Int, storeAt (H.push (.row [.int .i64 0, .int .i64 0, .int .i64 0, .int .i64 0, .int .i64 0] 0 false)) H.next 0 [.int .i64 a, .int .i64 b, .int .i64 c, .int .i64 d, .int .i64 e] = some (H.push (.row (fInstr.enc ⟨a, b, c, d, e⟩) 0 false)) := fun a b c d e => store5_push rfl
  simp -implicitDefEqProofs (disch:=first|omega|simp only [go_sem,Nat.reduceAdd]) only [go_sem,Int.reduceLT,Int.reduceLE,Int.reduceEq,reduceIte,true_and, h1, hwl, h2, el, dPick_t, dPick_f, ia0, lb0 H hE, hw0, bd_instr2, hst5, hw1, cI]
  refine ncall first_c ?_
  simp -implicitDefEqProofs (disch:=first|omega|simp only [go_sem,Nat.reduceAdd]) only [go_sem,Int.reduceLT,Int.reduceLE,Int.reduceEq,reduceIte,true_and]
  obtain ⟨k2, hk2⟩ : ∃ k2, k2 = i + 1 + if firstB op then 1 else 0 := ⟨_, rfl⟩
  obtain ⟨xa, hxa⟩ : ∃ xa, xa = if firstB op then l.getD (i + 1) 0 else 0 := ⟨_, rfl⟩
  refine XIf_cut (OneM h.next H v i op xa 0 0 (k2 : Nat)) (fun hf => ?_) (fun hf => ?_) ?_
  · rw [hf] at hk2 hxa hsz
    simp only [if_true] at hk2 hxa hsz
    obtain ⟨id1, o1, ia1, lb1, q0, q1⟩ := byte_at hb (i := i + 1) (by omega)
    rw [← hxa] at lb1 q0 q1
    have hwa : IntKind.i64.wrap xa = xa := wrap_i64_in (by omega) (by omega)
    have hw2 : IntKind.i64.wrap (((i + 1 : Nat) : Int) + 1) = ((k2 : Nat) : Int) := by rw [wrap_i64_in (by omega) (by omega)]; omega
    simp -implicitDefEqProofs (disch:=first|omega|simp only [go_sem,Nat.reduceAdd]) only [go_sem,Int.reduceLT,Int.reduceLE,Int.reduceEq,reduceIte,true_and, ia1, lb1 _ (hEP _), hwa, sI, hw2]
    exact ⟨rfl, rfl, by simp -implicitDefEqProofs (disch:=first|omega|simp only [go_sem,Nat.reduceAdd]) only [go_sem,Int.reduceLT,Int.reduceLE,Int.reduceEq,reduceIte,true_and], by simp -implicitDefEqProofs (disch:=first|omega|simp only [go_sem,Nat.reduceAdd]) only [go_sem,Int.reduceLT,Int.reduceLE,Int.reduceEq,reduceIte,true_and], by simp -implicitDefEqProofs (disch:=first|omega|simp only [go_sem,Nat.reduceAdd]) only [go_sem,Int.reduceLT,Int.reduceLE,Int.reduceEq,reduceIte,true_and], by simp -implicitDefEqProofs (disch:=first|omega|simp only [go_sem,Nat.reduceAdd]) only [go_sem,Int.reduceLT,Int.reduceLE,Int.reduceEq,reduceIte,true_and], by simp -implicitDefEqProofs (disch:=first|omega|simp only [go_sem,Nat.reduceAdd]) only [go_sem,Int.reduceLT,Int.reduceLE,Int.reduceEq,reduceIte,true_and], by simp -implicitDefEqProofs (disch:=first|omega|simp only [go_sem,Nat.reduceAdd]) only [go_sem,Int.reduceLT,Int.reduceLE,Int.reduceEq,reduceIte,true_and], set_push_same _ _ _⟩
  · rw [hf] at hk2 hxa hsz
    simp only [Bool.false_eq_true, if_false] at hk2 hxa hsz
    simp -implicitDefEqProofs (disch:=first|omega|simp only [go_sem,Nat.reduceAdd]) only [go_sem,Int.reduceLT,Int.reduceLE,Int.reduceEq,reduceIte,true_and]
    exact ⟨rfl, rfl, by simp -implicitDefEqProofs (disch:=first|omega|simp only [go_sem,Nat.reduceAdd]) only [go_sem,Int.reduceLT,Int.reduceLE,Int.reduceEq,reduceIte,true_and], by simp -implicitDefEqProofs (disch:=first|omega|simp only [go_sem,Nat.reduceAdd]) only [go_sem,Int.reduceLT,Int.reduceLE,Int.reduceEq,reduceIte,true_and], by simp -implicitDefEqProofs (disch:=first|omega|simp only [go_sem,Nat.reduceAdd]) only [go_sem,Int.reduceLT,Int.reduceLE,Int.reduceEq,reduceIte,true_and], by simp -implicitDefEqProofs (disch:=first|omega|simp only [go_sem,Nat.reduceAdd]) only [go_sem,Int.reduceLT,Int.reduceLE,Int.reduceEq,reduceIte,true_and], by simp -implicitDefEqProofs (disch:=first|omega|simp only [go_sem,Nat.reduceAdd]) only [go_sem,Int.reduceLT,Int.reduceLE,Int.reduceEq,reduceIte,true_and], by rw [hk2]; simp -implicitDefEqProofs (disch:=first|omega|simp only [go_sem,Nat.reduceAdd]) only [go_sem,Int.reduceLT,Int.reduceLE,Int.reduceEq,reduceIte,true_and], by rw [hxa]⟩
  rintro ⟨fr, df, K, rd⟩ ⟨rfl, rfl, f0, f1, f4, f7, f8, f9, hK⟩
  simp only at f0 f1 f4 f7 f8 f9 hK
  subst hK
  simp -implicitDefEqProofs (disch:=first|omega|simp only [go_sem,Nat.reduceAdd]) only [go_sem,Int.reduceLT,Int.reduceLE,Int.reduceEq,reduceIte,true_and, f8, cI]
  refine ncall two_c ?_
  simp -implicitDefEqProofs (disch:=first|omega|simp only [go_sem,Nat.reduceAdd]) only [go_sem,Int.reduceLT,Int.reduceLE,Int.reduceEq,reduceIte,true_and]
  obtain ⟨k3, hk3⟩ : ∃ k3, k3 = k2 + if twoB op then 1 else 0 := ⟨_, rfl⟩
  obtain ⟨xb, hxb⟩ : ∃ xb, xb = if twoB op then l.getD k2 0 else 0 := ⟨_, rfl⟩
  have hk2l : (k2 : Int) + (if twoB op then 1 else 0) + wideI op = i + sizeI op := by
    rw [hk2, hsz]
    split <;> simp <;> omega
  refine XIf_cut (OneM h.next H v i op xa xb 0 (k3 : Nat)) (fun hf => ?_) (fun hf => ?_) ?_
  · rw [hf] at hk3 hxb hk2l
    simp only [if_true] at hk3 hxb hk2l
    obtain ⟨id1, o1, ia1, lb1, q0, q1⟩ := byte_at hb (i := k2) (by omega)
    rw [← hxb] at lb1 q0 q1
    have hwa : IntKind.i64.wrap xb = xb := wrap_i64_in (by omega) (by omega)
    have hw2 : IntKind.i64.wrap ((k2 : Int) + 1) = ((k3 : Nat) : Int) := by rw [wrap_i64_in (by omega) (by omega)]; omega
    simp -implicitDefEqProofs (disch:=first|omega|simp only [go_sem,Nat.reduceAdd]) only [go_sem,Int.reduceLT,Int.reduceLE,Int.reduceEq,reduceIte,true_and, f0, f8, f9, ia1, lb1 _ (hEP _), hwa, sI, hw2]
    exact ⟨rfl, rfl, by simp -implicitDefEqProofs (disch:=first|omega|simp only [go_sem,Nat.reduceAdd]) only [go_sem,Int.reduceLT,Int.reduceLE,Int.reduceEq,reduceIte,true_and, f0], by simp -implicitDefEqProofs (disch:=first|omega|simp only [go_sem,Nat.reduceAdd]) only [go_sem,Int.reduceLT,Int.reduceLE,Int.reduceEq,reduceIte,true_and, f1], by simp -implicitDefEqProofs (disch:=first|omega|simp only [go_sem,Nat.reduceAdd]) only [go_sem,Int.reduceLT,Int.reduceLE,Int.reduceEq,reduceIte,true_and, f4], by simp -implicitDefEqProofs (disch:=first|omega|simp only [go_sem,Nat.reduceAdd]) only [go_sem,Int.reduceLT,Int.reduceLE,Int.reduceEq,reduceIte,true_and, f7], by simp -implicitDefEqProofs (disch:=first|omega|simp only [go_sem,Nat.reduceAdd]) only [go_sem,Int.reduceLT,Int.reduceLE,Int.reduceEq,reduceIte,true_and, f8], by simp -implicitDefEqProofs (disch:=first|omega|simp only [go_sem,Nat.reduceAdd]) only [go_sem,Int.reduceLT,Int.reduceLE,Int.reduceEq,reduceIte,true_and], set_push_same _ _ _⟩
  · rw [hf] at hk3 hxb
    simp only [Bool.false_eq_true, if_false] at hk3 hxb
    simp -implicitDefEqProofs (disch:=first|omega|simp only [go_sem,Nat.reduceAdd]) only [go_sem,Int.reduceLT,Int.reduceLE,Int.reduceEq,reduceIte,true_and]
    exact ⟨rfl, rfl, by simp -implicitDefEqProofs (disch:=first|omega|simp only [go_sem,Nat.reduceAdd]) only [go_sem,Int.reduceLT,Int.reduceLE,Int.reduceEq,reduceIte,true_and, f0], by simp -implicitDefEqProofs (disch:=first|omega|simp only [go_sem,Nat.reduceAdd]) only [go_sem,Int.reduceLT,Int.reduceLE,Int.reduceEq,reduceIte,true_and, f1], by simp -implicitDefEqProofs (disch:=first|omega|simp only [go_sem,Nat.reduceAdd]) only [go_sem,Int.reduceLT,Int.reduceLE,Int.reduceEq,reduceIte,true_and, f4], by simp -implicitDefEqProofs (disch:=first|omega|simp only [go_sem,Nat.reduceAdd]) only [go_sem,Int.reduceLT,Int.reduceLE,Int.reduceEq,reduceIte,true_and, f7], by simp -implicitDefEqProofs (disch:=first|omega|simp only [go_sem,Nat.reduceAdd]) only [go_sem,Int.reduceLT,Int.reduceLE,Int.reduceEq,reduceIte,true_and, f8], by rw [hk3]; simp -implicitDefEqProofs (disch:=first|omega|simp only [go_sem,Nat.reduceAdd]) only [go_sem,Int.reduceLT,Int.reduceLE,Int.reduceEq,reduceIte,true_and, f9], by rw [hxb]⟩
  clear f0 f1 f4 f7 f8 f9 fr
  rintro ⟨fr, df, K, rd⟩ ⟨rfl, rfl, f0, f1, f4, f7, f8, f9, hK⟩
  simp only at f0 f1 f4 f7 f8 f9 hK
  subst hK
  simp -implicitDefEqProofs (disch:=first|omega|simp only [go_sem,Nat.reduceAdd]) only [go_sem,Int.reduceLT,Int.reduceLE,Int.reduceEq,reduceIte,true_and, f8, cI]
  refine ncall refWide_c ?_
  have hk3l : (k3 : Int) + wideI op = i + sizeI op := by
    rw [← hk2l, hk3]
    split <;> simp
  obtain ⟨w, hw⟩ : ∃ w, wideI op = w := ⟨_, rfl⟩
  rw [hw] at w1 w2 hk3l
  rw [hw]
  have hone : oneI l i = ⟨(i : Nat), op, xa, xb, immW op w (l.getD k3 0) (l.getD (k3 + 1) 0)⟩ := by
    unfold oneI
    simp only [hop, ← hxa, ← hk2, ← hxb, ← hk3, hw]
  obtain ⟨x, hx⟩ : ∃ x, l.getD k3 0 = x := ⟨_, rfl⟩
  obtain ⟨y, hy⟩ : ∃ y, l.getD (k3 + 1) 0 = y := ⟨_, rfl⟩
  rw [hx, hy] at hone
  simp -implicitDefEqProofs (disch:=first|omega|simp only [go_sem,Nat.reduceAdd]) only [go_sem,Int.reduceLT,Int.reduceLE,Int.reduceEq,reduceIte,true_and]
  refine XIf_cutd (fun s => OneM h.next H v i op xa xb (if 1 ≤ w then x else 0) (k3 : Nat) s ∧ s.fr 10 = some (.int .i64 w)) (fun hf => ?_) (fun hf => ?_) ?_
  · rw [if_pos hf]
    obtain ⟨id1, o1, ia1, lb1, q0, q1⟩ := byte_at hb (i := k3) (by omega)
    rw [hx] at lb1 q0 q1
    have hwa : IntKind.i64.wrap x = x := wrap_i64_in (by omega) (by omega)
    simp -implicitDefEqProofs (disch:=first|omega|simp only [go_sem,Nat.reduceAdd]) only [go_sem,Int.reduceLT,Int.reduceLE,Int.reduceEq,reduceIte,true_and, f0, f8, f9, ia1, lb1 _ (hEP _), hwa, sI]
    exact ⟨⟨rfl, rfl, by simp -implicitDefEqProofs (disch:=first|omega|simp only [go_sem,Nat.reduceAdd]) only [go_sem,Int.reduceLT,Int.reduceLE,Int.reduceEq,reduceIte,true_and, f0], by simp -implicitDefEqProofs (disch:=first|omega|simp only [go_sem,Nat.reduceAdd]) only [go_sem,Int.reduceLT,Int.reduceLE,Int.reduceEq,reduceIte,true_and, f1], by simp -implicitDefEqProofs (disch:=first|omega|simp only [go_sem,Nat.reduceAdd]) only [go_sem,Int.reduceLT,Int.reduceLE,Int.reduceEq,reduceIte,true_and, f4], by simp -implicitDefEqProofs (disch:=first|omega|simp only [go_sem,Nat.reduceAdd]) only [go_sem,Int.reduceLT,Int.reduceLE,Int.reduceEq,reduceIte,true_and, f7], by simp -implicitDefEqProofs (disch:=first|omega|simp only [go_sem,Nat.reduceAdd]) only [go_sem,Int.reduceLT,Int.reduceLE,Int.reduceEq,reduceIte,true_and, f8], by simp -implicitDefEqProofs (disch:=first|omega|simp only [go_sem,Nat.reduceAdd]) only [go_sem,Int.reduceLT,Int.reduceLE,Int.reduceEq,reduceIte,true_and, f9], set_push_same _ _ _⟩, by simp -implicitDefEqProofs (disch:=first|omega|simp only [go_sem,Nat.reduceAdd]) only [go_sem,Int.reduceLT,Int.reduceLE,Int.reduceEq,reduceIte,true_and]⟩
  · rw [if_neg hf]
    simp -implicitDefEqProofs (disch:=first|omega|simp only [go_sem,Nat.reduceAdd]) only [go_sem,Int.reduceLT,Int.reduceLE,Int.reduceEq,reduceIte,true_and]
    exact ⟨⟨rfl, rfl, by simp -implicitDefEqProofs (disch:=first|omega|simp only [go_sem,Nat.reduceAdd]) only [go_sem,Int.reduceLT,Int.reduceLE,Int.reduceEq,reduceIte,true_and, f0], by simp -implicitDefEqProofs (disch:=first|omega|simp only [go_sem,Nat.reduceAdd]) only [go_sem,Int.reduceLT,Int.reduceLE,Int.reduceEq,reduceIte,true_and, f1], by simp -implicitDefEqProofs (disch:=first|omega|simp only [go_sem,Nat.reduceAdd]) only [go_sem,Int.reduceLT,Int.reduceLE,Int.reduceEq,reduceIte,true_and, f4], by simp -implicitDefEqProofs (disch:=first|omega|simp only [go_sem,Nat.reduceAdd]) only [go_sem,Int.reduceLT,Int.reduceLE,Int.reduceEq,reduceIte,true_and, f7], by simp -implicitDefEqProofs (disch:=first|omega|simp only [go_sem,Nat.reduceAdd]) only [go_sem,Int.reduceLT,Int.reduceLE,Int.reduceEq,reduceIte,true_and, f8], by simp -implicitDefEqProofs (disch:=first|omega|simp only [go_sem,Nat.reduceAdd]) only [go_sem,Int.reduceLT,Int.reduceLE,Int.reduceEq,reduceIte,true_and, f9], rfl⟩, by simp -implicitDefEqProofs (disch:=first|omega|simp only [go_sem,Nat.reduceAdd]) only [go_sem,Int.reduceLT,Int.reduceLE,Int.reduceEq,reduceIte,true_and]⟩
  clear f0 f1 f4 f7 f8 f9 fr
  rintro ⟨fr, df, K, rd⟩ ⟨⟨rfl, rfl, f0, f1, f4, f7, f8, f9, hK⟩, f10⟩
  simp only at f0 f1 f4 f7 f8 f9 hK f10
  subst hK
  simp -implicitDefEqProofs (disch:=first|omega|simp only [go_sem,Nat.reduceAdd]) only [go_sem,Int.reduceLT,Int.reduceLE,Int.reduceEq,reduceIte,true_and, f10]
  refine XIf_cutd (OneM h.next H v i op xa xb (immW op w x y) (k3 : Nat)) (fun hf => ?_) (fun hf => ?_) ?_
  · have h1w : 1 ≤ w := by omega
    rw [if_pos h1w]
    obtain ⟨id1, o1, ia1, lb1, q0, q1⟩ := byte_at hb (i := k3 + 1) (by omega)
    rw [hy] at lb1 q0 q1
    obtain ⟨_, _, _, _, p0, p1⟩ := byte_at hb (i := k3) (by omega)
    rw [hx] at p0 p1
    have hwa : IntKind.i64.wrap y = y := wrap_i64_in (by omega) (by omega)
    have hwb : IntKind.i64.wrap (256 * y) = 256 * y := wrap_i64_in (by omega) (by omega)
    have hwc : IntKind.i64.wrap (x + 256 * y) = x + 256 * y := wrap_i64_in (by omega) (by omega)
    have hwd : IntKind.i64.wrap (x + 256 * y - 65536) = x + 256 * y - 65536 := wrap_i64_in (by omega) (by omega)
    have hwk : IntKind.i64.wrap ((k3 : Int) + 1) = ((k3 + 1 : Nat) : Int) := by rw [wrap_i64_in (by omega) (by omega)]; omega
    have hsp : ∀ a b, (H.push (.row (fInstr.enc a) 0 false)).set H.next (.row (fInstr.enc b) 0 false) = H.push (.row (fInstr.enc b) 0 false) := fun a b => set_push_same _ _ _
    have s4 : ∀ n m, storeAt (H.push (.row (fInstr.enc ⟨(i : Nat), op, xa, xb, n⟩) 0 false)) H.next 4 [.int .i64 m] = some (H.push (.row (fInstr.enc ⟨(i : Nat), op, xa, xb, m⟩) 0 false)) := fun n m => by
      rw [sI _ 4 m (by decide)]
      exact congrArg some (set_push_same _ _ _)
    simp -implicitDefEqProofs (disch:=first|omega|simp only [go_sem,Nat.reduceAdd]) only [go_sem,Int.reduceLT,Int.reduceLE,Int.reduceEq,reduceIte,true_and]
    refine dr_69_0 ?_
    simp -implicitDefEqProofs (disch:=first|omega|simp only [go_sem,Nat.reduceAdd]) only [go_sem,Int.reduceLT,Int.reduceLE,Int.reduceEq,reduceIte,true_and, l69_0, f0, f8, f9, cI4, hwk, ia1, lb1 _ (hEP _), hwa, hwb, hwc, s4]
    by_cases h1c : op = 1
    · by_cases h2c : 32768 ≤ x + 256 * y
      · have e1 := eq_true h1c
        have e2 := eq_true h2c
        simp -implicitDefEqProofs (disch:=first|omega|simp only [go_sem,Nat.reduceAdd]) only [go_sem,Int.reduceLT,Int.reduceLE,Int.reduceEq,reduceIte,true_and, f8, cI, cI4, e1, e2, dPick_t, dPick_f, hwd, s4]
        refine ⟨rfl, rfl, by simp -implicitDefEqProofs (disch:=first|omega|simp only [go_sem,Nat.reduceAdd]) only [go_sem,Int.reduceLT,Int.reduceLE,Int.reduceEq,reduceIte,true_and, f0], by simp -implicitDefEqProofs (disch:=first|omega|simp only [go_sem,Nat.reduceAdd]) only [go_sem,Int.reduceLT,Int.reduceLE,Int.reduceEq,reduceIte,true_and, f1], by simp -implicitDefEqProofs (disch:=first|omega|simp only [go_sem,Nat.reduceAdd]) only [go_sem,Int.reduceLT,Int.reduceLE,Int.reduceEq,reduceIte,true_and, f4], by simp -implicitDefEqProofs (disch:=first|omega|simp only [go_sem,Nat.reduceAdd]) only [go_sem,Int.reduceLT,Int.reduceLE,Int.reduceEq,reduceIte,true_and, f7], by simp -implicitDefEqProofs (disch:=first|omega|simp only [go_sem,Nat.reduceAdd]) only [go_sem,Int.reduceLT,Int.reduceLE,Int.reduceEq,reduceIte,true_and, f8], by simp -implicitDefEqProofs (disch:=first|omega|simp only [go_sem,Nat.reduceAdd]) only [go_sem,Int.reduceLT,Int.reduceLE,Int.reduceEq,reduceIte,true_and, f9], ?_⟩
        rw [immW, if_pos hf, if_pos ⟨h1c, h2c⟩]
      · have e1 := eq_true h1c
        simp -implicitDefEqProofs (disch:=first|omega|simp only [go_sem,Nat.reduceAdd]) only [go_sem,Int.reduceLT,Int.reduceLE,Int.reduceEq,reduceIte,true_and, f8, cI, cI4, e1, h2c, dPick_t, dPick_f]
        refine ⟨rfl, rfl, by simp -implicitDefEqProofs (disch:=first|omega|simp only [go_sem,Nat.reduceAdd]) only [go_sem,Int.reduceLT,Int.reduceLE,Int.reduceEq,reduceIte,true_and, f0], by simp -implicitDefEqProofs (disch:=first|omega|simp only [go_sem,Nat.reduceAdd]) only [go_sem,Int.reduceLT,Int.reduceLE,Int.reduceEq,reduceIte,true_and, f1], by simp -implicitDefEqProofs (disch:=first|omega|simp only [go_sem,Nat.reduceAdd]) only [go_sem,Int.reduceLT,Int.reduceLE,Int.reduceEq,reduceIte,true_and, f4], by simp -implicitDefEqProofs (disch:=first|omega|simp only [go_sem,Nat.reduceAdd]) only [go_sem,Int.reduceLT,Int.reduceLE,Int.reduceEq,reduceIte,true_and, f7], by simp -implicitDefEqProofs (disch:=first|omega|simp only [go_sem,Nat.reduceAdd]) only [go_sem,Int.reduceLT,Int.reduceLE,Int.reduceEq,reduceIte,true_and, f8], by simp -implicitDefEqProofs (disch:=first|omega|simp only [go_sem,Nat.reduceAdd]) only [go_sem,Int.reduceLT,Int.reduceLE,Int.reduceEq,reduceIte,true_and, f9], ?_⟩
        rw [immW, if_pos hf, if_neg (fun hh => h2c hh.2)]
    · simp -implicitDefEqProofs (disch:=first|omega|simp only [go_sem,Nat.reduceAdd]) only [go_sem,Int.reduceLT,Int.reduceLE,Int.reduceEq,reduceIte,true_and, f8, cI, cI4, h1c, dPick_t, dPick_f]
      refine ⟨rfl, rfl, by simp -implicitDefEqProofs (disch:=first|omega|simp only [go_sem,Nat.reduceAdd]) only [go_sem,Int.reduceLT,Int.reduceLE,Int.reduceEq,reduceIte,true_and, f0], by simp -implicitDefEqProofs (disch:=first|omega|simp only [go_sem,Nat.reduceAdd]) only [go_sem,Int.reduceLT,Int.reduceLE,Int.reduceEq,reduceIte,true_and, f1], by simp -implicitDefEqProofs (disch:=first|omega|simp only [go_sem,Nat.reduceAdd]) only [go_sem,Int.reduceLT,Int.reduceLE,Int.reduceEq,reduceIte,true_and, f4], by simp -implicitDefEqProofs (disch:=first|omega|simp only [go_sem,Nat.reduceAdd]) only [go_sem,Int.reduceLT,Int.reduceLE,Int.reduceEq,reduceIte,true_and, f7], by simp -implicitDefEqProofs (disch:=first|omega|simp only [go_sem,Nat.reduceAdd]) only [go_sem,Int.reduceLT,Int.reduceLE,Int.reduceEq,reduceIte,true_and, f8], by simp -implicitDefEqProofs (disch:=first|omega|simp only [go_sem,Nat.reduceAdd]) only [go_sem,Int.reduceLT,Int.reduceLE,Int.reduceEq,reduceIte,true_and, f9], ?_⟩
      rw [immW, if_pos hf, if_neg (fun hh => h1c hh.1)]
  · simp -implicitDefEqProofs (disch:=first|omega|simp only [go_sem,Nat.reduceAdd]) only [go_sem,Int.reduceLT,Int.reduceLE,Int.reduceEq,reduceIte,true_and]
    refine ⟨rfl, rfl, by simp -implicitDefEqProofs (disch:=first|omega|simp only [go_sem,Nat.reduceAdd]) only [go_sem,Int.reduceLT,Int.reduceLE,Int.reduceEq,reduceIte,true_and, f0], by simp -implicitDefEqProofs (disch:=first|omega|simp only [go_sem,Nat.reduceAdd]) only [go_sem,Int.reduceLT,Int.reduceLE,Int.reduceEq,reduceIte,true_and, f1], by simp -implicitDefEqProofs (disch:=first|omega|simp only [go_sem,Nat.reduceAdd]) only [go_sem,Int.reduceLT,Int.reduceLE,Int.reduceEq,reduceIte,true_and, f4], by simp -implicitDefEqProofs (disch:=first|omega|simp only [go_sem,Nat.reduceAdd]) only [go_sem,Int.reduceLT,Int.reduceLE,Int.reduceEq,reduceIte,true_and, f7], by simp -implicitDefEqProofs (disch:=first|omega|simp only [go_sem,Nat.reduceAdd]) only [go_sem,Int.reduceLT,Int.reduceLE,Int.reduceEq,reduceIte,true_and, f8], by simp -implicitDefEqProofs (disch:=first|omega|simp only [go_sem,Nat.reduceAdd]) only [go_sem,Int.reduceLT,Int.reduceLE,Int.reduceEq,reduceIte,true_and, f9], ?_⟩
    rw [immW, if_neg hf]
  clear f0 f1 f4 f7 f8 f9 f10 fr
  rintro ⟨fr, df, K, rd⟩ ⟨rfl, rfl, f0, f1, f4, f7, f8, f9, hK⟩
  simp only at f0 f1 f4 f7 f8 f9 hK
  subst hK
  rw [← hone] at *
  simp -implicitDefEqProofs (disch:=first|omega|simp only [go_sem,Nat.reduceAdd]) only [go_sem,Int.reduceLT,Int.reduceLE,Int.reduceEq,reduceIte,true_and, f8, lc]
  refine ncall refIndex_c ?_
  simp -implicitDefEqProofs (disch:=first|omega|simp only [go_sem,Nat.reduceAdd]) only [go_sem,Int.reduceLT,Int.reduceLE,Int.reduceEq,reduceIte,true_and]
  have g' : (H.push (.row (fInstr.enc (oneI l i)) 0 false)).get h.next = some (.row (fInstr.enc zeroInstr) 0 false) := (get_push_other _ _ (by omega)).trans g
  have hst : ∀ x : Instr, storeAt (H.push (.row (fInstr.enc (oneI l i)) 0 false)) h.next 0 [.int .i64 x.pos, .int .i64 x.op, .int .i64 x.a, .int .i64 x.b, .int .i64 x.imm] = some ((H.push (.row (fInstr.enc (oneI l i)) 0 false)).set h.next (.row (fInstr.enc x) 0 false)) := fun x => storeAll g' rfl rfl
  by_cases he : indexE (oneI l i) = 0
  · have he' := eq_true he
    have hwe : IntKind.i64.wrap ((i : Int) + sizeI op) = i + sizeI op := wrap_i64_in (by omega) (by omega)
    simp -implicitDefEqProofs (disch:=first|omega|simp only [go_sem,Nat.reduceAdd]) only [go_sem,Int.reduceLT,Int.reduceLE,Int.reduceEq,reduceIte,true_and, he', f8, f1, f7, lc, hwe, f4, hst]
    refine ret_at (res_i (x := oneI l i) (n := i + sizeI op) (e := 0) (by simp -implicitDefEqProofs (disch:=first|omega|simp only [go_sem,Nat.reduceAdd]) only [go_sem,Int.reduceLT,Int.reduceLE,Int.reduceEq,reduceIte,true_and, f4]) (by simp -implicitDefEqProofs (disch:=first|omega|simp only [go_sem,Nat.reduceAdd]) only [go_sem,Int.reduceLT,Int.reduceLE,Int.reduceEq,reduceIte,true_and]) (by simp -implicitDefEqProofs (disch:=first|omega|simp only [go_sem,Nat.reduceAdd]) only [go_sem,Int.reduceLT,Int.reduceLE,Int.reduceEq,reduceIte,true_and]) (get_set_same _ _)) ⟨?_, (hEP _).set (by omega)⟩
    rw [hT, if_pos he]
  · simp -implicitDefEqProofs (disch:=first|omega|simp only [go_sem,Nat.reduceAdd]) only [go_sem,Int.reduceLT,Int.reduceLE,Int.reduceEq,reduceIte,true_and, he, bd_instr0, f4, hst zeroInstr]
    refine ret_at (res_i (x := zeroInstr) (n := 0) (e := indexE (oneI l i)) (by simp -implicitDefEqProofs (disch:=first|omega|simp only [go_sem,Nat.reduceAdd]) only [go_sem,Int.reduceLT,Int.reduceLE,Int.reduceEq,reduceIte,true_and, f4]) (by simp -implicitDefEqProofs (disch:=first|omega|simp only [go_sem,Nat.reduceAdd]) only [go_sem,Int.reduceLT,Int.reduceLE,Int.reduceEq,reduceIte,true_and]) (by simp -implicitDefEqProofs (disch:=first|omega|simp only [go_sem,Nat.reduceAdd]) only [go_sem,Int.reduceLT,Int.reduceLE,Int.reduceEq,reduceIte,true_and]) (get_set_same _ _)) ⟨?_, (hEP _).set (by omega)⟩
    rw [hT, if_neg he]
end Go.Proofs.Ytbdljpndncohaaa

namespace Go.Proofs.Ytbdljpndncohaaa
open Go.D
set_option maxRecDepth 100000

def formL : List Int := [0, 9, 5, 5, 5, 5, 4, 3, 3, 3, 3, 3, 3, 3, 3, 3, 3, 3, 3, 5, 3, 3, 16, 17, 1, 4, 7, 7]
def andI (a b : Int) : Int := IntKind.i64.wrap (BitVec.ofInt IntKind.i64.bits a &&& BitVec.ofInt IntKind.i64.bits b).toNat
theorem bin_andI {P : Program} {t : TypeId} {ox oy : Operand} {a b : Int} {h : DHeap} : dBinOp P .and t ox oy (.int .i64 a) (.int .i64 b) h = .ok (.value (.int .i64 (andI a b))) h := bin_and
theorem ar_form : arrElem Try.prog 146 = some (28, 1) := by kernel_rfl
theorem ar_pair : arrElem Try.prog 144 = some (2, 1) := by kernel_rfl
theorem vin_nb {S : Nat → Prop} {n : Int} {b : Bool} : VIn S (.tuple #[.int .i64 n, .bool b]) := by
  refine .tuple fun v hv => ?_
  simp only [List.mem_toArray, List.mem_cons, List.not_mem_nil, or_false] at hv
  rcases hv with rfl | rfl
  · exact .int _ _
  · exact .bool _
abbrev formV : List Value := formL.map (.int .i64 ·)
theorem bd_form : dBuild Try.prog 146 [(0, .int .i64 0), (1, .int .i64 9), (2, .int .i64 5), (3, .int .i64 5), (4, .int .i64 5), (5, .int .i64 5), (6, .int .i64 4), (7, .int .i64 3), (8, .int .i64 3), (9, .int .i64 3), (10, .int .i64 3), (11, .int .i64 3), (12, .int .i64 3), (13, .int .i64 3), (14, .int .i64 3), (15, .int .i64 3), (16, .int .i64 3), (17, .int .i64 3), (18, .int .i64 3), (19, .int .i64 5), (20, .int .i64 3), (21, .int .i64 3), (22, .int .i64 16), (23, .int .i64 17), (24, .int .i64 1), (25, .int .i64 4), (26, .int .i64 7), (27, .int .i64 7)] = some (.agg formV.toArray) := by kernel_rfl
theorem form_c {h : DHeap} {n : Nat} : DC Try.prog 89 [.int .i64 (n : Nat)] h (.ret (.tuple #[.int .i64 (formL.getD n 0), .bool (decide (n < 28))])) h := by
  refine Ct.pure (go_89 (by simp) ?_) vin_nb
  have hst : ∀ cs : List Value, cs.length = 28 → storeAt (h.push (.row cs 1 false)) h.next 0 formV = some (h.push (.row formV 1 false)) := fun cs hl => storeAll_push (by rw [hl]; rfl) rfl
  have hs : ∀ K, dStore Try.prog 146 (.pointer (some ⟨h.next, 0, none⟩)) (.agg formV.toArray) K = storeAt K h.next 0 formV := fun K => st_146 rfl
  have hc : ∀ o, cellAt (h.push (.row formV 1 false)) h.next o = formV[o]? := fun o => cellAt_row (get_push_same _ _)
  have hneg : ¬ ((n : Nat) : Int) < 0 := by omega
  by_cases hn : (28 : Int) ≤ (n : Nat)
  · have hn' := eq_true hn
    simp -implicitDefEqProofs (disch:=first|omega|simp only [go_sem,Nat.reduceAdd]) only [go_sem,Int.reduceLT,Int.reduceLE,Int.reduceEq,reduceIte,true_and, c89, bd_form, hs, hst, hneg, hn', dPick_t, dPick_f]
    refine ⟨_, rfl, ?_, Ext.push1 _ _⟩
    rw [decide_eq_false (by omega), List.getD_eq_getElem?_getD, List.getElem?_eq_none (by simp [formL]; omega)]
    rfl
  · have hia : dIndexAddr Try.prog 146 (.pointer (some ⟨h.next, 0, none⟩)) (.int .i64 (n : Nat)) = some (.pointer (some ⟨h.next, n, none⟩)) := by
      rw [dIndexAddr_arr ar_form (by omega) (by omega)]
      simp
    have hl : formV[n]? = some (.int .i64 (formL.getD n 0)) := by
      have h28 : n < formL.length := by simp [formL]; omega
      rw [List.getElem?_map, List.getElem?_eq_getElem h28, List.getD_eq_getElem?_getD, List.getElem?_eq_getElem h28]
      rfl
    simp -implicitDefEqProofs (disch:=first|omega|simp only [go_sem,Nat.reduceAdd]) only [go_sem,Int.reduceLT,Int.reduceLE,Int.reduceEq,reduceIte,true_and, c89, bd_form, hs, hst, hneg, hn, dPick_t, dPick_f, hia, hc, hl]
    refine ⟨_, rfl, ?_, Ext.push1 _ _⟩
    rw [decide_eq_true (by omega)]
def masks : List (Int × Int) := [(1, 1), (2, 1), (4, 1), (8, 2), (16, 2)]
def sizeUp (f : Int) (l : List (Int × Int)) : Int := l.foldl (fun n x => if andI f x.1 = 0 then n else n + x.2) 1
theorem pairAt : ∀ i : Nat, i < 5 → dIndex Try.prog 145 (.agg #[.int .i64 1, .int .i64 1, .int .i64 2, .int .i64 1, .int .i64 4, .int .i64 1, .int .i64 8, .int .i64 2, .int .i64 16, .int .i64 2]) (.int .i64 (i : Nat)) = some (.agg #[.int .i64 (masks.getD i (0, 0)).1, .int .i64 (masks.getD i (0, 0)).2])
  | 0, _ => by kernel_rfl
  | 1, _ => by kernel_rfl
  | 2, _ => by kernel_rfl
  | 3, _ => by kernel_rfl
  | 4, _ => by kernel_rfl
theorem bd_pair {a b : Int} : dBuild Try.prog 144 [(0, .int .i64 a), (1, .int .i64 b)] = some (.agg #[.int .i64 a, .int .i64 b]) := by kernel_rfl
theorem bd_pairs : dBuild Try.prog 145 [(0, .agg #[.int .i64 1, .int .i64 1]), (1, .agg #[.int .i64 2, .int .i64 1]), (2, .agg #[.int .i64 4, .int .i64 1]), (3, .agg #[.int .i64 8, .int .i64 2]), (4, .agg #[.int .i64 16, .int .i64 2])] = some (.agg #[.int .i64 1, .int .i64 1, .int .i64 2, .int .i64 1, .int .i64 4, .int .i64 1, .int .i64 8, .int .i64 2, .int .i64 16, .int .i64 2]) := by kernel_rfl
theorem ia_pair {id k : Nat} (hk : k < 2) : dIndexAddr Try.prog 144 (.pointer (some ⟨id, 0, none⟩)) (.int .i64 (k : Nat)) = some (.pointer (some ⟨id, k, none⟩)) := by
  rw [dIndexAddr_arr ar_pair (by omega) (by omega)]
  simp
theorem sizeUp_succ {f : Int} {i : Nat} (hi : i < 5) : sizeUp f (masks.take (i + 1)) = if andI f (masks.getD i (0, 0)).1 = 0 then sizeUp f (masks.take i) else sizeUp f (masks.take i) + (masks.getD i (0, 0)).2 := by
  unfold sizeUp
  have hl : i < masks.length := hi
  rw [List.take_succ_eq_append_getElem hl, List.foldl_append, List.getD_eq_getElem?_getD, List.getElem?_eq_getElem hl]
  rfl
theorem sizeUp_le (f : Int) (i : Nat) : 1 ≤ sizeUp f (masks.take i) ∧ sizeUp f (masks.take i) ≤ 8 := by
  match i with
  | 0 => simp [sizeUp]
  | 1 => simp [sizeUp, masks]; split <;> omega
  | 2 => simp [sizeUp, masks]; repeat' split
         all_goals omega
  | 3 => simp [sizeUp, masks]; repeat' split
         all_goals omega
  | 4 => simp [sizeUp, masks]; repeat' split
         all_goals omega
  | i + 5 => simp [sizeUp, masks]; repeat' split
             all_goals omega
/-- an instruction's size, and whether there is one -/
def sizeC (n : Nat) : Int := if n < 28 then sizeUp (formL.getD n 0) masks else 0
theorem size_c {h : DHeap} {n : Nat} : DC Try.prog 88 [.int .i64 (n : Nat)] h (.ret (.tuple #[.int .i64 (sizeC n), .bool (decide (n < 28))])) h := by
  refine Ct.pure (go_88 (by simp) ?_) vin_nb
  simp -implicitDefEqProofs (disch:=first|omega|simp only [go_sem,Nat.reduceAdd]) only [go_sem,Int.reduceLT,Int.reduceLE,Int.reduceEq,reduceIte,true_and, c88]
  refine ncall form_c ?_
  by_cases hn : n < 28
  case neg =>
    have hd := decide_eq_false hn
    simp -implicitDefEqProofs (disch:=first|omega|simp only [go_sem,Nat.reduceAdd]) only [go_sem,Int.reduceLT,Int.reduceLE,Int.reduceEq,reduceIte,true_and, hd]
    exact ⟨_, rfl, by simp [sizeC, hn], .refl _⟩
  have hd := decide_eq_true hn
  obtain ⟨f, hf⟩ : ∃ f, formL.getD n 0 = f := ⟨_, rfl⟩
  rw [hf]
  simp -implicitDefEqProofs (disch:=first|omega|simp only [go_sem,Nat.reduceAdd]) only [go_sem,Int.reduceLT,Int.reduceLE,Int.reduceEq,reduceIte,true_and, hd, bd_pair, bd_pairs]
  refine xloop (σ := Nat) (by kernel_rfl) (fun i s => s.df = [] ∧ s.fr 4 = some (.int .i64 f) ∧ s.fr 6 = some (.int .i64 (sizeUp f (masks.take i))) ∧ s.fr 21 = some (.agg #[.int .i64 1, .int .i64 1, .int .i64 2, .int .i64 1, .int .i64 4, .int .i64 1, .int .i64 8, .int .i64 2, .int .i64 16, .int .i64 2]) ∧ s.fr 22 = some (.int .i64 (i : Nat)) ∧ i ≤ 5 ∧ Ext h s.h) (fun i => 5 - i) 0 ?_ ?_
  · simp -implicitDefEqProofs (disch:=first|omega|simp only [go_sem,Nat.reduceAdd]) only [go_sem,Int.reduceLT,Int.reduceLE,Int.reduceEq,reduceIte,true_and]
    exact ⟨rfl, rfl, Nat.zero_le _, .refl _⟩
  · rintro i ⟨fr, df, K, rd⟩ K' hK' hX ⟨rfl, f4, f6, f21, f22, hi, hE⟩
    simp only at f4 f6 f21 f22 hE
    simp -implicitDefEqProofs (disch:=first|omega|simp only [go_sem,Nat.reduceAdd]) only [go_sem,Int.reduceLT,Int.reduceLE,Int.reduceEq,reduceIte,true_and, f22]
    refine XIf_dec (fun hc1 => ?_) (fun hc1 => ?_)
    · have hi5 : i < 5 := by omega
      have hx := pairAt i hi5
      have hsu := sizeUp_succ (f := f) hi5
      have hle := sizeUp_le f i
      have hle2 := sizeUp_le f (i + 1)
      obtain ⟨a, ha⟩ : ∃ a, (masks.getD i (0, 0)).1 = a := ⟨_, rfl⟩
      obtain ⟨b, hb⟩ : ∃ b, (masks.getD i (0, 0)).2 = b := ⟨_, rfl⟩
      rw [ha, hb] at hx hsu
      obtain ⟨K1, hK1⟩ : ∃ K1, K1 = K.push (.row [.int .i64 a, .int .i64 b] 1 false) := ⟨_, rfl⟩
      have g : K1.get K.next = some (.row [.int .i64 a, .int .i64 b] 1 false) := by rw [hK1]; exact get_push_same _ _
      have c0 : cellAt K1 K.next 0 = some (.int .i64 a) := cellAt_row g
      have c1 : cellAt K1 K.next 1 = some (.int .i64 b) := cellAt_row g
      have hst : storeAt (K.push (.row [.int .i64 0, .int .i64 0] 1 false)) K.next 0 [.int .i64 a, .int .i64 b] = some K1 := by rw [hK1]; exact storeAll_push rfl rfl
      have i0 : dIndexAddr Try.prog 144 (.pointer (some ⟨K.next, 0, none⟩)) (.int .i64 0) = some (.pointer (some ⟨K.next, 0, none⟩)) := ia_pair (id := K.next) (k := 0) (by decide)
      have i1 : dIndexAddr Try.prog 144 (.pointer (some ⟨K.next, 0, none⟩)) (.int .i64 1) = some (.pointer (some ⟨K.next, 1, none⟩)) := ia_pair (id := K.next) (k := 1) (by decide)
      have hE1 : Ext h K1 := by rw [hK1]; exact hE.push _
      have hw1 := wrap_succ hi5 (by omega)
      simp -implicitDefEqProofs (disch:=first|omega|simp only [go_sem,Nat.reduceAdd]) only [go_sem,Int.reduceLT,Int.reduceLE,Int.reduceEq,reduceIte,true_and, f21, f22, hx, hst, f4, i0, c0, ↓bin_andI]
      by_cases hz : andI f a = 0
      · have hz' := eq_true hz
        rw [if_pos hz] at hsu
        simp -implicitDefEqProofs (disch:=first|omega|simp only [go_sem,Nat.reduceAdd]) only [go_sem,Int.reduceLT,Int.reduceLE,Int.reduceEq,reduceIte,true_and, hz', f22, hw1]
        refine hK' (i + 1) _ ?_ (by omega)
        exact ⟨by trivial, by simp -implicitDefEqProofs (disch:=first|omega|simp only [go_sem,Nat.reduceAdd]) only [go_sem,Int.reduceLT,Int.reduceLE,Int.reduceEq,reduceIte,true_and, f4], by rw [hsu]; simp -implicitDefEqProofs (disch:=first|omega|simp only [go_sem,Nat.reduceAdd]) only [go_sem,Int.reduceLT,Int.reduceLE,Int.reduceEq,reduceIte,true_and, f6], by simp -implicitDefEqProofs (disch:=first|omega|simp only [go_sem,Nat.reduceAdd]) only [go_sem,Int.reduceLT,Int.reduceLE,Int.reduceEq,reduceIte,true_and, f21], by simp -implicitDefEqProofs (disch:=first|omega|simp only [go_sem,Nat.reduceAdd]) only [go_sem,Int.reduceLT,Int.reduceLE,Int.reduceEq,reduceIte,true_and], by omega, hE1⟩
      · rw [if_neg hz] at hsu
        have hwz : IntKind.i64.wrap (sizeUp f (masks.take i) + b) = sizeUp f (masks.take (i + 1)) := by rw [← hsu]; exact wrap_i64_in (by omega) (by omega)
        simp -implicitDefEqProofs (disch:=first|omega|simp only [go_sem,Nat.reduceAdd]) only [go_sem,Int.reduceLT,Int.reduceLE,Int.reduceEq,reduceIte,true_and, hz, f22, f6, hw1, i1, c1, hwz]
        refine hK' (i + 1) _ ?_ (by omega)
        exact ⟨by trivial, by simp -implicitDefEqProofs (disch:=first|omega|simp only [go_sem,Nat.reduceAdd]) only [go_sem,Int.reduceLT,Int.reduceLE,Int.reduceEq,reduceIte,true_and, f4], by simp -implicitDefEqProofs (disch:=first|omega|simp only [go_sem,Nat.reduceAdd]) only [go_sem,Int.reduceLT,Int.reduceLE,Int.reduceEq,reduceIte,true_and], by simp -implicitDefEqProofs (disch:=first|omega|simp only [go_sem,Nat.reduceAdd]) only [go_sem,Int.reduceLT,Int.reduceLE,Int.reduceEq,reduceIte,true_and, f21], by simp -implicitDefEqProofs (disch:=first|omega|simp only [go_sem,Nat.reduceAdd]) only [go_sem,Int.reduceLT,Int.reduceLE,Int.reduceEq,reduceIte,true_and], by omega, hE1⟩
    · obtain rfl : i = 5 := by omega
      refine hX _ _ (by simp) ?_
      simp -implicitDefEqProofs (disch:=first|omega|simp only [go_sem,Nat.reduceAdd]) only [go_sem,Int.reduceLT,Int.reduceLE,Int.reduceEq,reduceIte,true_and, f6]
      refine ⟨_, rfl, ?_, hE⟩
      rw [sizeC, if_pos hn, hf]
      rfl
end Go.Proofs.Ytbdljpndncohaaa

namespace Go.Proofs.Ytbdljpndncohaaa
open Go.D
set_option maxRecDepth 100000

def indexB (x : Instr) : Bool := decide (0 ≤ x.a) && (decide (x.a < 8) && (decide (0 ≤ x.b) && (decide (x.b < 8) && (!decide (x.op = 19) || (decide (x.imm = 8) || (decide (x.imm = 16) || decide (x.imm = 32)))))))
theorem index_c {h : DHeap} {x : Instr} : DC Try.prog 90 [instrV x] h (.ret (.bool (indexB x))) h := by
  obtain ⟨x1, x2, x3, x4, x5⟩ := x
  refine Ct.pure (go_90 (by simp) ?_) (vin_bool _)
  obtain ⟨H, hH⟩ : ∃ H, H = h.push (.row [.int .i64 x1, .int .i64 x2, .int .i64 x3, .int .i64 x4, .int .i64 x5] 0 false) := ⟨_, rfl⟩
  have hE : Ext h H := by rw [hH]; exact Ext.push1 _ _
  have g : H.get h.next = some (.row [.int .i64 x1, .int .i64 x2, .int .i64 x3, .int .i64 x4, .int .i64 x5] 0 false) := by rw [hH]; exact get_push_same _ _
  have a1 : cellAt H h.next 1 = some (.int .i64 x2) := cellAt_row g
  have a2 : cellAt H h.next 2 = some (.int .i64 x3) := cellAt_row g
  have a3 : cellAt H h.next 3 = some (.int .i64 x4) := cellAt_row g
  have a4 : cellAt H h.next 4 = some (.int .i64 x5) := cellAt_row g
  simp -implicitDefEqProofs (disch:=first|omega|simp only [go_sem,Nat.reduceAdd]) only [go_sem,Int.reduceLT,Int.reduceLE,Int.reduceEq,reduceIte,true_and, c90, ← hH, a2]
  clear hH
  (repeat' first | (refine NStp_split (fun hb => ?_) (fun hb => ?_) <;> (try simp only [Bool.not_eq_true', Bool.not_eq_false'] at hb) <;> simp -implicitDefEqProofs (disch:=first|omega|simp only [go_sem,Nat.reduceAdd]) only [go_sem,Int.reduceLT,Int.reduceLE,Int.reduceEq,reduceIte,true_and, dPick_t, dPick_f, hb, a1, a2, a3, a4]) | (refine XIf_split (fun hb => ?_) (fun hb => ?_) <;> (try simp only [Bool.not_eq_true', Bool.not_eq_false'] at hb) <;> simp -implicitDefEqProofs (disch:=first|omega|simp only [go_sem,Nat.reduceAdd]) only [go_sem,Int.reduceLT,Int.reduceLE,Int.reduceEq,reduceIte,true_and, dPick_t, dPick_f, hb, a1, a2, a3, a4]))
  all_goals exact ⟨_, rfl, by simp_all [indexB] <;> omega, hE⟩
theorem dSlice_ext {P : Program} {t : TypeId} {α : Type} {R : Rep α} {h K : DHeap} {u : Value} {l : List α} {lo hi mx : Option Value} (hu : Arg R h u l) (e : Ext h K) : dSlice P t u lo hi mx K = dSlice P t u lo hi mx h := by
  rcases hu with ⟨rfl, rfl⟩ | ⟨id, o, c, cells, esz, ro, rfl, hid, _⟩
  · cases hd : P.underlying t with
    | none => simp only [dSlice, hd]
    | some d => cases d <;> simp only [dSlice, hd]
  · have hf : ∀ z, rowFits K id z = rowFits h id z := fun z => by unfold rowFits; rw [e.get _ hid]
    cases hd : P.underlying t with
    | none => simp only [dSlice, hd]
    | some d => cases d <;> simp only [dSlice, hd, hf]
/-- the rest of some bytes, behind the first -/
theorem rest_of {h : DHeap} {u : Value} {l : List Int} {k : Nat} (hu : Arg fU8.rep h u l) (hk : k ≤ l.length) : ∃ u', (∀ K, Ext h K → dSlice Try.prog 22 u (some (.int .i64 (k : Nat))) none none K = some u') ∧ Arg fU8.rep h u' (l.drop k) := by
  have hj : boundOf (none : Option Value) l.length l.length = some l.length := rfl
  obtain ⟨u', e1, e2⟩ := hu.slice (P := Try.prog) (t := 22) el_22 (by decide) hj (bound_nat (k := .i64) hk) hk (Nat.le_refl _)
  rw [List.take_length] at e2
  exact ⟨u', fun K e => (dSlice_ext hu e).trans e1, e2⟩
theorem part_of {h : DHeap} {u : Value} {l : List Int} {i j : Nat} (hu : Arg fU8.rep h u l) (hi : i ≤ j) (hj : j ≤ l.length) : ∃ u', (∀ K, Ext h K → dSlice Try.prog 22 u (some (.int .i64 (i : Nat))) (some (.int .i64 (j : Nat))) none K = some u') ∧ Arg fU8.rep h u' ((l.take j).drop i) := by
  obtain ⟨u', e1, e2⟩ := hu.slice (P := Try.prog) (t := 22) el_22 (by decide) (bound_nat (k := .i64) hj) (bound_nat (k := .i64) hi) hi hj
  exact ⟨u', fun K e => (dSlice_ext hu e).trans e1, e2⟩
theorem one_region0 {K0 K1 : DHeap} {u u' : Value} {id o B : Nat} {x : Int} {fr : Fr} {rd : Option Nat} (f9 : fr 9 = some (.pointer (some ⟨B, 0, none⟩))) (f12 : fr 12 = some u)
    (h1 : dIndexAddr Try.prog 22 u (.int .i64 0) = some (.pointer (some ⟨id, o, none⟩))) (c0 : cellAt K0 id o = some (.int .u8 x)) (c1 : cellAt K1 id o = some (.int .u8 x)) (hx : IntKind.i64.wrap x = x)
    (hs0 : dSlice Try.prog 22 u (some (.int .i64 1)) none none K0 = some u') (hs1 : dSlice Try.prog 22 u (some (.int .i64 1)) none none K1 = some u') (s0 : storeAt K0 B 2 [.int .i64 x] = some K1) (s1 : storeAt K1 B 2 [.int .i64 x] = some K1) :
    NC Try.prog 132 r70_0 (DThen (fun s => s.df = [] ∧ s.rd = rd ∧ s.h = K1 ∧ s.fr 12 = some u' ∧ s.fr 0 = fr 0 ∧ s.fr 1 = fr 1 ∧ s.fr 4 = fr 4 ∧ s.fr 7 = fr 7 ∧ s.fr 9 = fr 9 ∧ s.fr 10 = fr 10) (fun _ _ => False)) ⟨fr, [], K0, rd⟩ := by
  refine NC.regs (l := l70_0) (by kernel_rfl) (by kernel_rfl) (by kernel_rfl) rfl (by kernel_rfl) (by kernel_rfl) (fun a b => b = a ∨ b = K1) (fun _ => .inl rfl) (fun a b c h g => ?_) (fun i h v => (i = 7 → h = K1) ∧ (i ≠ 7 → v = ([u, .pointer (some ⟨id, o, none⟩), .int .u8 x, .int .i64 x, u, u', .pointer (some ⟨B, 2, none⟩), undef, u'] : List Value).getD i undef)) ?_ ?_
  · rcases g with rfl | rfl
    · exact h
    · exact .inr rfl
  case refine_3 =>
    rintro ⟨fr1, df1, K, rd1⟩ g hF
    obtain ⟨_, q7, _⟩ := (hF 7 (by decide)).fact
    have f8 := (hF 8 (by decide)).eq (d := 12) (c := u') rfl fun _ _ e => e.2 (by decide)
    exact ⟨g.df, g.rd, q7 rfl, f8, g.fr 0 (by kernel_rfl), g.fr 1 (by kernel_rfl), g.fr 4 (by kernel_rfl), g.fr 7 (by kernel_rfl), g.fr 9 (by kernel_rfl), g.fr 10 (by kernel_rfl)⟩
  intro i oo s ho g hpre hown hF
  have F9 : s.fr 9 = some (.pointer (some ⟨B, 0, none⟩)) := (g.fr 9 (by kernel_rfl)).trans f9
  have hi' : i < 9 := (List.getElem?_eq_some_iff.1 ho).1
  have hh : s.h = K0 ∨ s.h = K1 := g.ext
  have hc : cellAt s.h id o = some (.int .u8 x) := by rcases hh with e | e <;> rw [e] <;> assumption
  have hs : dSlice Try.prog 22 u (some (.int .i64 1)) none none s.h = some u' := by rcases hh with e | e <;> rw [e] <;> assumption
  match i, hi' with
  | 0, _ =>
    simp only [l70_0, List.getElem?_cons_zero, List.getElem?_cons_succ, Option.some.injEq] at ho
    subst ho
    have F12 : s.fr 12 = some u := (hpre 8 12 (by kernel_rfl) (by kernel_rfl)).trans f12
    exact reg_pure (v := u) (fun _ => .inl rfl) (by simp -implicitDefEqProofs (disch:=first|omega|simp only [go_sem,Nat.reduceAdd]) only [go_sem,Int.reduceLT,Int.reduceLE,Int.reduceEq,reduceIte,true_and]) (by simp -implicitDefEqProofs (disch:=first|omega|simp only [go_sem,Nat.reduceAdd]) only [go_sem,Int.reduceLT,Int.reduceLE,Int.reduceEq,reduceIte,true_and, F12]) ⟨fun e => absurd e (by decide), fun _ => rfl⟩
  | 1, _ =>
    simp only [l70_0, List.getElem?_cons_zero, List.getElem?_cons_succ, Option.some.injEq] at ho
    subst ho
    have f0 : s.fr 65 = some (u) := (hF 0 (by kernel_rfl)).eq rfl fun _ _ e => e.2 (by decide)
    exact reg_pure (v := .pointer (some ⟨id, o, none⟩)) (fun _ => .inl rfl) (by simp -implicitDefEqProofs (disch:=first|omega|simp only [go_sem,Nat.reduceAdd]) only [go_sem,Int.reduceLT,Int.reduceLE,Int.reduceEq,reduceIte,true_and]) (by simp -implicitDefEqProofs (disch:=first|omega|simp only [go_sem,Nat.reduceAdd]) only [go_sem,Int.reduceLT,Int.reduceLE,Int.reduceEq,reduceIte,true_and, f0, h1]) ⟨fun e => absurd e (by decide), fun _ => rfl⟩
  | 2, _ =>
    simp only [l70_0, List.getElem?_cons_zero, List.getElem?_cons_succ, Option.some.injEq] at ho
    subst ho
    have f1 : s.fr 66 = some (.pointer (some ⟨id, o, none⟩)) := (hF 1 (by kernel_rfl)).eq rfl fun _ _ e => e.2 (by decide)
    exact reg_pure (v := .int .u8 x) (fun _ => .inl rfl) (by simp -implicitDefEqProofs (disch:=first|omega|simp only [go_sem,Nat.reduceAdd]) only [go_sem,Int.reduceLT,Int.reduceLE,Int.reduceEq,reduceIte,true_and]) (by simp -implicitDefEqProofs (disch:=first|omega|simp only [go_sem,Nat.reduceAdd]) only [go_sem,Int.reduceLT,Int.reduceLE,Int.reduceEq,reduceIte,true_and, f1, hc]) ⟨fun e => absurd e (by decide), fun _ => rfl⟩
  | 3, _ =>
    simp only [l70_0, List.getElem?_cons_zero, List.getElem?_cons_succ, Option.some.injEq] at ho
    subst ho
    have f2 : s.fr 67 = some (.int .u8 x) := (hF 2 (by kernel_rfl)).eq rfl fun _ _ e => e.2 (by decide)
    exact reg_pure (v := .int .i64 x) (fun _ => .inl rfl) (by simp -implicitDefEqProofs (disch:=first|omega|simp only [go_sem,Nat.reduceAdd]) only [go_sem,Int.reduceLT,Int.reduceLE,Int.reduceEq,reduceIte,true_and]) (by simp -implicitDefEqProofs (disch:=first|omega|simp only [go_sem,Nat.reduceAdd]) only [go_sem,Int.reduceLT,Int.reduceLE,Int.reduceEq,reduceIte,true_and, f2, hx]) ⟨fun e => absurd e (by decide), fun _ => rfl⟩
  | 4, _ =>
    simp only [l70_0, List.getElem?_cons_zero, List.getElem?_cons_succ, Option.some.injEq] at ho
    subst ho
    have F12 : s.fr 12 = some u := (hpre 8 12 (by kernel_rfl) (by kernel_rfl)).trans f12
    exact reg_pure (v := u) (fun _ => .inl rfl) (by simp -implicitDefEqProofs (disch:=first|omega|simp only [go_sem,Nat.reduceAdd]) only [go_sem,Int.reduceLT,Int.reduceLE,Int.reduceEq,reduceIte,true_and]) (by simp -implicitDefEqProofs (disch:=first|omega|simp only [go_sem,Nat.reduceAdd]) only [go_sem,Int.reduceLT,Int.reduceLE,Int.reduceEq,reduceIte,true_and, F12]) ⟨fun e => absurd e (by decide), fun _ => rfl⟩
  | 5, _ =>
    simp only [l70_0, List.getElem?_cons_zero, List.getElem?_cons_succ, Option.some.injEq] at ho
    subst ho
    have f4 : s.fr 69 = some (u) := (hF 4 (by kernel_rfl)).eq rfl fun _ _ e => e.2 (by decide)
    exact reg_pure (v := u') (fun _ => .inl rfl) (by simp -implicitDefEqProofs (disch:=first|omega|simp only [go_sem,Nat.reduceAdd]) only [go_sem,Int.reduceLT,Int.reduceLE,Int.reduceEq,reduceIte,true_and]) (by simp -implicitDefEqProofs (disch:=first|omega|simp only [go_sem,Nat.reduceAdd]) only [go_sem,Int.reduceLT,Int.reduceLE,Int.reduceEq,reduceIte,true_and, f4, hs]) ⟨fun e => absurd e (by decide), fun _ => rfl⟩
  | 6, _ =>
    simp only [l70_0, List.getElem?_cons_zero, List.getElem?_cons_succ, Option.some.injEq] at ho
    subst ho
    exact reg_pure (v := .pointer (some ⟨B, 2, none⟩)) (fun _ => .inl rfl) (by simp -implicitDefEqProofs (disch:=first|omega|simp only [go_sem,Nat.reduceAdd]) only [go_sem,Int.reduceLT,Int.reduceLE,Int.reduceEq,reduceIte,true_and]) (by simp -implicitDefEqProofs (disch:=first|omega|simp only [go_sem,Nat.reduceAdd]) only [go_sem,Int.reduceLT,Int.reduceLE,Int.reduceEq,reduceIte,true_and, F9]) ⟨fun e => absurd e (by decide), fun _ => rfl⟩
  | 7, _ =>
    simp only [l70_0, List.getElem?_cons_zero, List.getElem?_cons_succ, Option.some.injEq] at ho
    subst ho
    have f3 : s.fr 68 = some (.int .i64 x) := (hF 3 (by kernel_rfl)).eq rfl fun _ _ e => e.2 (by decide)
    have f6 : s.fr 71 = some (.pointer (some ⟨B, 2, none⟩)) := (hF 6 (by kernel_rfl)).eq rfl fun _ _ e => e.2 (by decide)
    have hst : storeAt s.h B 2 [.int .i64 x] = some K1 := by rcases hh with e | e <;> rw [e] <;> assumption
    exact reg_store (h' := K1) (by simp -implicitDefEqProofs (disch:=first|omega|simp only [go_sem,Nat.reduceAdd]) only [go_sem,Int.reduceLT,Int.reduceLE,Int.reduceEq,reduceIte,true_and]) (by simp -implicitDefEqProofs (disch:=first|omega|simp only [go_sem,Nat.reduceAdd]) only [go_sem,Int.reduceLT,Int.reduceLE,Int.reduceEq,reduceIte,true_and, f3, f6, hst]) (.inr rfl) ⟨fun _ => rfl, fun e => absurd rfl e⟩ fun j u hj hv => ⟨fun _ => rfl, hv.2⟩
  | 8, _ =>
    simp only [l70_0, List.getElem?_cons_zero, List.getElem?_cons_succ, Option.some.injEq] at ho
    subst ho
    have f5 : s.fr 70 = some (u') := (hF 5 (by kernel_rfl)).eq rfl fun _ _ e => e.2 (by decide)
    exact reg_pure (v := u') (fun _ => .inl rfl) (by simp -implicitDefEqProofs (disch:=first|omega|simp only [go_sem,Nat.reduceAdd]) only [go_sem,Int.reduceLT,Int.reduceLE,Int.reduceEq,reduceIte,true_and]) (by simp -implicitDefEqProofs (disch:=first|omega|simp only [go_sem,Nat.reduceAdd]) only [go_sem,Int.reduceLT,Int.reduceLE,Int.reduceEq,reduceIte,true_and, f5]) ⟨fun e => absurd e (by decide), fun _ => rfl⟩
theorem one_region1 {K0 K1 : DHeap} {u u' : Value} {id o B : Nat} {x : Int} {fr : Fr} {rd : Option Nat} (f9 : fr 9 = some (.pointer (some ⟨B, 0, none⟩))) (f12 : fr 12 = some u)
    (h1 : dIndexAddr Try.prog 22 u (.int .i64 0) = some (.pointer (some ⟨id, o, none⟩))) (c0 : cellAt K0 id o = some (.int .u8 x)) (c1 : cellAt K1 id o = some (.int .u8 x)) (hx : IntKind.i64.wrap x = x)
    (hs0 : dSlice Try.prog 22 u (some (.int .i64 1)) none none K0 = some u') (hs1 : dSlice Try.prog 22 u (some (.int .i64 1)) none none K1 = some u') (s0 : storeAt K0 B 3 [.int .i64 x] = some K1) (s1 : storeAt K1 B 3 [.int .i64 x] = some K1) :
    NC Try.prog 132 r70_1 (DThen (fun s => s.df = [] ∧ s.rd = rd ∧ s.h = K1 ∧ s.fr 12 = some u' ∧ s.fr 0 = fr 0 ∧ s.fr 1 = fr 1 ∧ s.fr 4 = fr 4 ∧ s.fr 7 = fr 7 ∧ s.fr 9 = fr 9 ∧ s.fr 10 = fr 10) (fun _ _ => False)) ⟨fr, [], K0, rd⟩ := by
  refine NC.regs (l := l70_1) (by kernel_rfl) (by kernel_rfl) (by kernel_rfl) rfl (by kernel_rfl) (by kernel_rfl) (fun a b => b = a ∨ b = K1) (fun _ => .inl rfl) (fun a b c h g => ?_) (fun i h v => (i = 7 → h = K1) ∧ (i ≠ 7 → v = ([u, .pointer (some ⟨id, o, none⟩), .int .u8 x, .int .i64 x, u, u', .pointer (some ⟨B, 3, none⟩), undef, u'] : List Value).getD i undef)) ?_ ?_
  · rcases g with rfl | rfl
    · exact h
    · exact .inr rfl
  case refine_3 =>
    rintro ⟨fr1, df1, K, rd1⟩ g hF
    obtain ⟨_, q7, _⟩ := (hF 7 (by decide)).fact
    have f8 := (hF 8 (by decide)).eq (d := 12) (c := u') rfl fun _ _ e => e.2 (by decide)
    exact ⟨g.df, g.rd, q7 rfl, f8, g.fr 0 (by kernel_rfl), g.fr 1 (by kernel_rfl), g.fr 4 (by kernel_rfl), g.fr 7 (by kernel_rfl), g.fr 9 (by kernel_rfl), g.fr 10 (by kernel_rfl)⟩
  intro i oo s ho g hpre hown hF
  have F9 : s.fr 9 = some (.pointer (some ⟨B, 0, none⟩)) := (g.fr 9 (by kernel_rfl)).trans f9
  have hi' : i < 9 := (List.getElem?_eq_some_iff.1 ho).1
  have hh : s.h = K0 ∨ s.h = K1 := g.ext
  have hc : cellAt s.h id o = some (.int .u8 x) := by rcases hh with e | e <;> rw [e] <;> assumption
  have hs : dSlice Try.prog 22 u (some (.int .i64 1)) none none s.h = some u' := by rcases hh with e | e <;> rw [e] <;> assumption
  match i, hi' with
  | 0, _ =>
    simp only [l70_1, List.getElem?_cons_zero, List.getElem?_cons_succ, Option.some.injEq] at ho
    subst ho
    have F12 : s.fr 12 = some u := (hpre 8 12 (by kernel_rfl) (by kernel_rfl)).trans f12
    exact reg_pure (v := u) (fun _ => .inl rfl) (by simp -implicitDefEqProofs (disch:=first|omega|simp only [go_sem,Nat.reduceAdd]) only [go_sem,Int.reduceLT,Int.reduceLE,Int.reduceEq,reduceIte,true_and]) (by simp -implicitDefEqProofs (disch:=first|omega|simp only [go_sem,Nat.reduceAdd]) only [go_sem,Int.reduceLT,Int.reduceLE,Int.reduceEq,reduceIte,true_and, F12]) ⟨fun e => absurd e (by decide), fun _ => rfl⟩
  | 1, _ =>
    simp only [l70_1, List.getElem?_cons_zero, List.getElem?_cons_succ, Option.some.injEq] at ho
    subst ho
    have f0 : s.fr 75 = some (u) := (hF 0 (by kernel_rfl)).eq rfl fun _ _ e => e.2 (by decide)
    exact reg_pure (v := .pointer (some ⟨id, o, none⟩)) (fun _ => .inl rfl) (by simp -implicitDefEqProofs (disch:=first|omega|simp only [go_sem,Nat.reduceAdd]) only [go_sem,Int.reduceLT,Int.reduceLE,Int.reduceEq,reduceIte,true_and]) (by simp -implicitDefEqProofs (disch:=first|omega|simp only [go_sem,Nat.reduceAdd]) only [go_sem,Int.reduceLT,Int.reduceLE,Int.reduceEq,reduceIte,true_and, f0, h1]) ⟨fun e => absurd e (by decide), fun _ => rfl⟩
  | 2, _ =>
    simp only [l70_1, List.getElem?_cons_zero, List.getElem?_cons_succ, Option.some.injEq] at ho
    subst ho
    have f1 : s.fr 76 = some (.pointer (some ⟨id, o, none⟩)) := (hF 1 (by kernel_rfl)).eq rfl fun _ _ e => e.2 (by decide)
    exact reg_pure (v := .int .u8 x) (fun _ => .inl rfl) (by simp -implicitDefEqProofs (disch:=first|omega|simp only [go_sem,Nat.reduceAdd]) only [go_sem,Int.reduceLT,Int.reduceLE,Int.reduceEq,reduceIte,true_and]) (by simp -implicitDefEqProofs (disch:=first|omega|simp only [go_sem,Nat.reduceAdd]) only [go_sem,Int.reduceLT,Int.reduceLE,Int.reduceEq,reduceIte,true_and, f1, hc]) ⟨fun e => absurd e (by decide), fun _ => rfl⟩
  | 3, _ =>
    simp only [l70_1, List.getElem?_cons_zero, List.getElem?_cons_succ, Option.some.injEq] at ho
    subst ho
    have f2 : s.fr 77 = some (.int .u8 x) := (hF 2 (by kernel_rfl)).eq rfl fun _ _ e => e.2 (by decide)
    exact reg_pure (v := .int .i64 x) (fun _ => .inl rfl) (by simp -implicitDefEqProofs (disch:=first|omega|simp only [go_sem,Nat.reduceAdd]) only [go_sem,Int.reduceLT,Int.reduceLE,Int.reduceEq,reduceIte,true_and]) (by simp -implicitDefEqProofs (disch:=first|omega|simp only [go_sem,Nat.reduceAdd]) only [go_sem,Int.reduceLT,Int.reduceLE,Int.reduceEq,reduceIte,true_and, f2, hx]) ⟨fun e => absurd e (by decide), fun _ => rfl⟩
  | 4, _ =>
    simp only [l70_1, List.getElem?_cons_zero, List.getElem?_cons_succ, Option.some.injEq] at ho
    subst ho
    have F12 : s.fr 12 = some u := (hpre 8 12 (by kernel_rfl) (by kernel_rfl)).trans f12
    exact reg_pure (v := u) (fun _ => .inl rfl) (by simp -implicitDefEqProofs (disch:=first|omega|simp only [go_sem,Nat.reduceAdd]) only [go_sem,Int.reduceLT,Int.reduceLE,Int.reduceEq,reduceIte,true_and]) (by simp -implicitDefEqProofs (disch:=first|omega|simp only [go_sem,Nat.reduceAdd]) only [go_sem,Int.reduceLT,Int.reduceLE,Int.reduceEq,reduceIte,true_and, F12]) ⟨fun e => absurd e (by decide), fun _ => rfl⟩
  | 5, _ =>
    simp only [l70_1, List.getElem?_cons_zero, List.getElem?_cons_succ, Option.some.injEq] at ho
    subst ho
    have f4 : s.fr 79 = some (u) := (hF 4 (by kernel_rfl)).eq rfl fun _ _ e => e.2 (by decide)
    exact reg_pure (v := u') (fun _ => .inl rfl) (by simp -implicitDefEqProofs (disch:=first|omega|simp only [go_sem,Nat.reduceAdd]) only [go_sem,Int.reduceLT,Int.reduceLE,Int.reduceEq,reduceIte,true_and]) (by simp -implicitDefEqProofs (disch:=first|omega|simp only [go_sem,Nat.reduceAdd]) only [go_sem,Int.reduceLT,Int.reduceLE,Int.reduceEq,reduceIte,true_and, f4, hs]) ⟨fun e => absurd e (by decide), fun _ => rfl⟩
  | 6, _ =>
    simp only [l70_1, List.getElem?_cons_zero, List.getElem?_cons_succ, Option.some.injEq] at ho
    subst ho
    exact reg_pure (v := .pointer (some ⟨B, 3, none⟩)) (fun _ => .inl rfl) (by simp -implicitDefEqProofs (disch:=first|omega|simp only [go_sem,Nat.reduceAdd]) only [go_sem,Int.reduceLT,Int.reduceLE,Int.reduceEq,reduceIte,true_and]) (by simp -implicitDefEqProofs (disch:=first|omega|simp only [go_sem,Nat.reduceAdd]) only [go_sem,Int.reduceLT,Int.reduceLE,Int.reduceEq,reduceIte,true_and, F9]) ⟨fun e => absurd e (by decide), fun _ => rfl⟩
  | 7, _ =>
    simp only [l70_1, List.getElem?_cons_zero, List.getElem?_cons_succ, Option.some.injEq] at ho
    subst ho
    have f3 : s.fr 78 = some (.int .i64 x) := (hF 3 (by kernel_rfl)).eq rfl fun _ _ e => e.2 (by decide)
    have f6 : s.fr 81 = some (.pointer (some ⟨B, 3, none⟩)) := (hF 6 (by kernel_rfl)).eq rfl fun _ _ e => e.2 (by decide)
    have hst : storeAt s.h B 3 [.int .i64 x] = some K1 := by rcases hh with e | e <;> rw [e] <;> assumption
    exact reg_store (h' := K1) (by simp -implicitDefEqProofs (disch:=first|omega|simp only [go_sem,Nat.reduceAdd]) only [go_sem,Int.reduceLT,Int.reduceLE,Int.reduceEq,reduceIte,true_and]) (by simp -implicitDefEqProofs (disch:=first|omega|simp only [go_sem,Nat.reduceAdd]) only [go_sem,Int.reduceLT,Int.reduceLE,Int.reduceEq,reduceIte,true_and, f3, f6, hst]) (.inr rfl) ⟨fun _ => rfl, fun e => absurd rfl e⟩ fun j u hj hv => ⟨fun _ => rfl, hv.2⟩
  | 8, _ =>
    simp only [l70_1, List.getElem?_cons_zero, List.getElem?_cons_succ, Option.some.injEq] at ho
    subst ho
    have f5 : s.fr 80 = some (u') := (hF 5 (by kernel_rfl)).eq rfl fun _ _ e => e.2 (by decide)
    exact reg_pure (v := u') (fun _ => .inl rfl) (by simp -implicitDefEqProofs (disch:=first|omega|simp only [go_sem,Nat.reduceAdd]) only [go_sem,Int.reduceLT,Int.reduceLE,Int.reduceEq,reduceIte,true_and]) (by simp -implicitDefEqProofs (disch:=first|omega|simp only [go_sem,Nat.reduceAdd]) only [go_sem,Int.reduceLT,Int.reduceLE,Int.reduceEq,reduceIte,true_and, f5]) ⟨fun e => absurd e (by decide), fun _ => rfl⟩
end Go.Proofs.Ytbdljpndncohaaa

namespace Go.Proofs.Ytbdljpndncohaaa
open Go.D
set_option maxRecDepth 100000

/-- the program's tables are the reference's -/
theorem tables {n : Nat} (hn : n < 28) : sizeC n = sizeI n ∧ (andI (formL.getD n 0) 1 = 0 ↔ firstB n = false) ∧ (andI (formL.getD n 0) 2 = 0 ↔ twoB n = false) ∧ (andI (formL.getD n 0) 4 = 0 ↔ wideI n ≠ 1) ∧ (andI (formL.getD n 0) 8 = 0 ↔ n ≠ 1) ∧ (andI (formL.getD n 0) 16 = 0 ↔ ¬ (wideI n = 2 ∧ n ≠ 1)) ∧ (n = 1 → wideI n = 2) ∧ sizeI n ≠ 0 := by
  have : ∀ n : Nat, n < 28 → sizeC n = sizeI n ∧ (andI (formL.getD n 0) 1 = 0 ↔ firstB n = false) ∧ (andI (formL.getD n 0) 2 = 0 ↔ twoB n = false) ∧ (andI (formL.getD n 0) 4 = 0 ↔ wideI n ≠ 1) ∧ (andI (formL.getD n 0) 8 = 0 ↔ n ≠ 1) ∧ (andI (formL.getD n 0) 16 = 0 ↔ ¬ (wideI n = 2 ∧ n ≠ 1)) ∧ (n = 1 → wideI n = 2) ∧ sizeI n ≠ 0 := by decide
  exact this n hn
theorem size_none {n : Int} (hn : 28 ≤ n) : sizeI n = 0 := by
  unfold sizeI
  repeat' split
  all_goals omega
theorem indexB_eq {l : List Int} {i : Nat} (hb : ∀ j, 0 ≤ l.getD j 0) : indexB (oneI l i) = decide (indexE (oneI l i) = 0) ∧ (indexE (oneI l i) ≠ 0 → indexE (oneI l i) = 132) := by
  have h1 := hb (i + 1)
  have h2 := hb (i + 1 + if firstB (l.getD i 0) then 1 else 0)
  have e1 : (oneI l i).a = if firstB (l.getD i 0) then l.getD (i + 1) 0 else 0 := rfl
  have e2 : (oneI l i).b = if twoB (l.getD i 0) then l.getD (i + 1 + if firstB (l.getD i 0) then 1 else 0) 0 else 0 := rfl
  have e3 : (oneI l i).op = l.getD i 0 := rfl
  generalize oneI l i = x at e1 e2 e3 ⊢
  generalize l.getD (i + 1 + if firstB (l.getD i 0) then 1 else 0) 0 = yb at h2 e2
  generalize l.getD (i + 1) 0 = ya at h1 e1
  rw [← e3] at e1 e2
  unfold indexB indexE
  cases hf : firstB x.op <;> cases ht : twoB x.op <;> rw [hf] at e1 <;> rw [ht] at e2 <;> simp only [Bool.false_eq_true, if_true, if_false] at e1 e2
  all_goals
    rw [e1, e2]
    constructor
    · by_cases p19 : x.op = 19 <;> by_cases p8 : x.imm = 8 <;> by_cases p16 : x.imm = 16 <;> by_cases p32 : x.imm = 32 <;> by_cases q1 : ya < 8 <;> by_cases q2 : yb < 8 <;> simp [p19, p8, p16, p32, q1, q2, h1, h2, Int.not_lt.1, Int.not_le.2, Int.not_lt.2] <;> omega
    · intro h
      split at h
      · rw [if_pos (by assumption)]
      · rw [if_neg (by assumption)]
        split at h
        · rw [if_pos (by assumption)]
        · exact absurd rfl h
theorem or16 {x y : Int} (hx : 0 ≤ x) (hx2 : x ≤ 255) (hy : 0 ≤ y) (hy2 : y ≤ 255) :
    IntKind.u16.wrap (((BitVec.ofInt 16 x ||| BitVec.ofInt 16 (IntKind.u16.wrap (y * 256))).toNat : Nat) : Int) = x + 256 * y := by
  obtain ⟨m, rfl⟩ : ∃ m : Nat, y = m := ⟨y.toNat, by omega⟩
  obtain ⟨n, rfl⟩ : ∃ n : Nat, x = n := ⟨x.toNat, by omega⟩
  have h1 : IntKind.u16.wrap ((m : Int) * 256) = ((m * 256 : Nat) : Int) := by rw [wrap_in (inK_u16.2 ⟨by omega, by omega⟩)]; omega
  rw [h1]
  have h3 : (BitVec.ofInt 16 ((m * 256 : Nat) : Int)).toNat = m * 256 := by simp; omega
  have h4 : (BitVec.ofInt 16 (n : Int)).toNat = n := by simp; omega
  rw [BitVec.toNat_or, h3, h4]
  have h5 : n ||| m * 256 = m * 256 + n := by
    rw [Nat.or_comm, show m * 256 = m <<< 8 by rw [Nat.shiftLeft_eq]]
    exact (Nat.shiftLeft_add_eq_or_of_lt (by omega) m).symm
  rw [h5, wrap_in (inK_u16.2 ⟨by omega, by omega⟩)]
  omega
theorem wrap_i16 {n : Int} (h0 : 0 ≤ n) (h1 : n ≤ 65535) : IntKind.i16.wrap n = if 32768 ≤ n then n - 65536 else n := by
  have e : n % 2 ^ 16 = n := by omega
  simp only [IntKind.wrap, IntKind.signed, IntKind.bits, e]
  by_cases h2 : 32768 ≤ n
  · rw [if_pos h2, if_pos (by simpa using h2)]
    rfl
  · rw [if_neg h2, if_neg (by simpa using h2)]
def orH (a b : Int) : Int := IntKind.u16.wrap (BitVec.ofInt IntKind.u16.bits a ||| BitVec.ofInt IntKind.u16.bits b).toNat
theorem bin_orH {P : Program} {t : TypeId} {ox oy : Operand} {a b : Int} {h : DHeap} : dBinOp P .or t ox oy (.int .u16 a) (.int .u16 b) h = .ok (.value (.int .u16 (orH a b))) h := bin_or
theorem bin_shl8 {P : Program} {t : TypeId} {ox oy : Operand} {a : Int} {h : DHeap} : dBinOp P .shl t ox oy (.int .u16 a) (.int .u64 8) h = .ok (.value (.int .u16 (IntKind.u16.wrap (a * 256)))) h := bin_shl (by decide)
theorem orH_eq {x y : Int} (hx : 0 ≤ x) (hx2 : x ≤ 255) (hy : 0 ≤ y) (hy2 : y ≤ 255) : orH x (IntKind.u16.wrap (y * 256)) = x + 256 * y := or16 hx hx2 hy hy2
theorem XIf_cutB {P : Program} {nt id : Nat} {x y : Code} {K : St → Prop} {Q : DExit → St → Prop} {s : St} {t : Bool} (M : St → Prop) (h1 : t = true → xs P nt x (DBlock id (DThen M Q)) s) (h2 : t = false → xs P nt y (DBlock id (DThen M Q)) s) (h3 : ∀ s', M s' → K s') :
    XIf P nt x y (DBlock id (DThen K Q)) s (some (.bool t)) := ⟨fun ht => xblock_cut M (h1 ht) h3, fun ht => xblock_cut M (h2 ht) h3⟩
/-- how things lie on the way -/
def OnE (B : Nat) (H : DHeap) (i : Nat) (op : Int) (x : Instr) (s : St) : Prop :=
  s.df = [] ∧ s.rd = none ∧ s.fr 1 = some (.int .i64 (i : Nat)) ∧ s.fr 4 = some (.pointer (some ⟨B, 0, none⟩)) ∧ s.fr 7 = some (.int .i64 (sizeI op)) ∧ s.fr 9 = some (.pointer (some ⟨H.next, 0, none⟩)) ∧ s.h = H.push (.row (fInstr.enc x) 0 false)
def OnM (B : Nat) (H : DHeap) (v : Value) (i : Nat) (op f a b imm : Int) (u : Value) (s : St) : Prop :=
  s.df = [] ∧ s.rd = none ∧ s.fr 0 = some v ∧ s.fr 1 = some (.int .i64 (i : Nat)) ∧ s.fr 4 = some (.pointer (some ⟨B, 0, none⟩)) ∧ s.fr 7 = some (.int .i64 (sizeI op)) ∧ s.fr 9 = some (.pointer (some ⟨H.next, 0, none⟩)) ∧ s.fr 10 = some (.int .i64 f) ∧ s.fr 12 = some u ∧ s.h = H.push (.row (fInstr.enc ⟨(i : Nat), op, a, b, imm⟩) 0 false)
theorem getD_part {l : List Int} {j k m : Nat} (hm : k + j < m) : ((l.take m).drop k).getD j 0 = l.getD (k + j) 0 := by
  simp [List.getD_eq_getElem?_getD, List.getElem?_take, hm]
set_option maxHeartbeats 2000000 in
theorem one_c {h : DHeap} {v : Value} {l : List Int} {i : Nat} (hb : Arg fU8.rep h v l) (hl : l.length ≤ 4294967296) (hi : i ≤ 4294967296) :
    DC Try.prog 70 [v, .int .i64 (i : Nat)] h (.ret (.tuple #[instrV (oneT l i).1, .int .i64 (oneT l i).2.1, .int .i64 (oneT l i).2.2])) h := by
  refine Ct.pure (go_70 (by simp) ?_) vin_one
  obtain ⟨H, hH⟩ : ∃ H, H = h.push (.row [.int .i64 0, .int .i64 0, .int .i64 0, .int .i64 0, .int .i64 0] 0 false) := ⟨_, rfl⟩
  have hE : Ext h H := by rw [hH]; exact Ext.push1 _ _
  have g : H.get h.next = some (.row (fInstr.enc zeroInstr) 0 false) := by rw [hH]; exact get_push_same _ _
  have hHn : H.next = h.next + 1 := by rw [hH]; rfl
  have el : ∀ K, dLen Try.prog #[22] v K = some (.int .i64 (l.length : Nat)) := hb.lens (P := Try.prog) (ts := #[22]) (t := 22) rfl isl_22
  have hz : storeAt H h.next 0 [.int .i64 0, .int .i64 0, .int .i64 0, .int .i64 0, .int .i64 0] = some H := by
    rw [storeAt_row g (Nat.le_of_ble_eq_true rfl) rfl]
    exact congrArg some (set_self g)
  have hneg : ¬ ((i : Nat) : Int) < 0 := by omega
  by_cases h0 : ((l.length : Nat) : Int) ≤ (i : Nat)
  · have h0' := eq_true h0
    simp -implicitDefEqProofs (disch:=first|omega|simp only [go_sem,Nat.reduceAdd]) only [go_sem,Int.reduceLT,Int.reduceLE,Int.reduceEq,reduceIte,true_and, c70, ← hH, hneg, h0', el, dPick_t, dPick_f, bd_instr0, hz]
    refine ret_at (res_i (n := 0) (e := 130) (by simp -implicitDefEqProofs (disch:=first|omega|simp only [go_sem,Nat.reduceAdd]) only [go_sem,Int.reduceLT,Int.reduceLE,Int.reduceEq,reduceIte,true_and]) (by simp -implicitDefEqProofs (disch:=first|omega|simp only [go_sem,Nat.reduceAdd]) only [go_sem,Int.reduceLT,Int.reduceLE,Int.reduceEq,reduceIte,true_and]) (by simp -implicitDefEqProofs (disch:=first|omega|simp only [go_sem,Nat.reduceAdd]) only [go_sem,Int.reduceLT,Int.reduceLE,Int.reduceEq,reduceIte,true_and]) g) ⟨?_, hE⟩
    rw [oneT, if_pos (by omega)]
  have hil : i < l.length := by omega
  have hbyte : ∀ j, 0 ≤ l.getD j 0 ∧ l.getD j 0 ≤ 255 := fun j => by
    by_cases hj : j < l.length
    · obtain ⟨_, _, _, _, a, b⟩ := byte_at hb hj
      exact ⟨a, b⟩
    · rw [List.getD_eq_getElem?_getD, List.getElem?_eq_none (by omega)]
      exact ⟨Int.le_refl _, by decide⟩
  obtain ⟨id0, o0, ia0, lb0, r0, r1⟩ := byte_at hb hil
  obtain ⟨opn, hopn⟩ : ∃ n : Nat, l.getD i 0 = (n : Int) := ⟨(l.getD i 0).toNat, by omega⟩
  rw [hopn] at lb0 r0 r1
  have hw0 : IntKind.i64.wrap (opn : Int) = opn := wrap_i64_in (by omega) (by omega)
  simp -implicitDefEqProofs (disch:=first|omega|simp only [go_sem,Nat.reduceAdd]) only [go_sem,Int.reduceLT,Int.reduceLE,Int.reduceEq,reduceIte,true_and, c70, ← hH, hneg, h0, el, dPick_t, dPick_f, ia0, lb0 H hE, hw0]
  refine ncall size_c ?_
  have hwl : IntKind.i64.wrap ((l.length : Int) - (i : Nat)) = (l.length : Int) - (i : Nat) := wrap_i64_in (by omega) (by omega)
  by_cases h1 : opn < 28
  case neg =>
    have h1' := decide_eq_false h1
    simp -implicitDefEqProofs (disch:=first|omega|simp only [go_sem,Nat.reduceAdd]) only [go_sem,Int.reduceLT,Int.reduceLE,Int.reduceEq,reduceIte,true_and, h1', dPick_t, dPick_f, bd_instr0, hz]
    refine ret_at (res_i (n := 0) (e := 130) (by simp -implicitDefEqProofs (disch:=first|omega|simp only [go_sem,Nat.reduceAdd]) only [go_sem,Int.reduceLT,Int.reduceLE,Int.reduceEq,reduceIte,true_and]) (by simp -implicitDefEqProofs (disch:=first|omega|simp only [go_sem,Nat.reduceAdd]) only [go_sem,Int.reduceLT,Int.reduceLE,Int.reduceEq,reduceIte,true_and]) (by simp -implicitDefEqProofs (disch:=first|omega|simp only [go_sem,Nat.reduceAdd]) only [go_sem,Int.reduceLT,Int.reduceLE,Int.reduceEq,reduceIte,true_and]) g) ⟨?_, hE⟩
    rw [oneT, if_neg (by omega), hopn, if_pos (.inl (size_none (by omega)))]
  have h1' := decide_eq_true h1
  obtain ⟨t1, t2, t3, t4, t5, t6, t7, t8⟩ := tables h1
  rw [t1]
  by_cases h2 : (l.length : Int) - (i : Nat) < sizeI opn
  · have h2' := eq_true h2
    simp -implicitDefEqProofs (disch:=first|omega|simp only [go_sem,Nat.reduceAdd]) only [go_sem,Int.reduceLT,Int.reduceLE,Int.reduceEq,reduceIte,true_and, h1', hwl, h2', el, dPick_t, dPick_f, bd_instr0, hz]
    refine ret_at (res_i (n := 0) (e := 130) (by simp -implicitDefEqProofs (disch:=first|omega|simp only [go_sem,Nat.reduceAdd]) only [go_sem,Int.reduceLT,Int.reduceLE,Int.reduceEq,reduceIte,true_and]) (by simp -implicitDefEqProofs (disch:=first|omega|simp only [go_sem,Nat.reduceAdd]) only [go_sem,Int.reduceLT,Int.reduceLE,Int.reduceEq,reduceIte,true_and]) (by simp -implicitDefEqProofs (disch:=first|omega|simp only [go_sem,Nat.reduceAdd]) only [go_sem,Int.reduceLT,Int.reduceLE,Int.reduceEq,reduceIte,true_and]) g) ⟨?_, hE⟩
    rw [oneT, if_neg (by omega), hopn, if_pos (.inr h2)]
  obtain ⟨f, hf⟩ : ∃ f, formL.getD opn 0 = f := ⟨_, rfl⟩
  rw [hf] at t2 t3 t4 t5 t6
  have hs := sizeI_le opn
  obtain ⟨w1, w2, w3, w4⟩ := size_split t8
  have hT : oneT l i = if indexE (oneI l i) = 0 then (oneI l i, i + sizeI opn, 0) else (zeroInstr, 0, indexE (oneI l i)) := by
    rw [oneT, if_neg (by omega), hopn, if_neg (by omega)]
  have hsz : sizeI opn = 1 + (if firstB opn then 1 else 0) + (if twoB opn then 1 else 0) + wideI opn := by unfold wideI; omega
  have hst5 : ∀ a b c d e : Int, storeAt (H.push (.row [.int .i64 0, .int .i64 0, .int .i64 0, .int .i64 0, .int .i64 0] 0 false)) H.next 0 [.int .i64 a, .int .i64 b, .int .i64 c, .int .i64 d, .int .i64 e] = some (H.push (.row (fInstr.enc ⟨a, b, c, d, e⟩) 0 false)) := fun a b c d e => store5_push rfl
  have cI : ∀ x, cellAt (H.push (.row (fInstr.enc x) 0 false)) H.next 1 = some (.int .i64 x.op) := fun x => cellAt_row (get_push_same _ _)
  have lc : ∀ x, cellsAt (H.push (.row (fInstr.enc x) 0 false)) H.next 0 5 = some (instrV x) := fun x => by rw [cellsAt_row (get_push_same _ _) (Nat.le_of_ble_eq_true rfl)]; rfl
  have hEP : ∀ o, Ext h (H.push o) := fun o => hE.push o
  have hw1 : IntKind.i64.wrap ((i : Int) + 1) = ((i + 1 : Nat) : Int) := by rw [wrap_i64_in (by omega) (by omega)]; omega
  obtain ⟨m, hm⟩ : ∃ m : Nat, (m : Int) = i + sizeI opn := ⟨(i + sizeI opn).toNat, by omega⟩
  have hw2 : IntKind.i64.wrap ((i : Int) + sizeI opn) = (m : Nat) := by rw [wrap_i64_in (by omega) (by omega)]; omega
  obtain ⟨u0, hu0, hr0⟩ := part_of hb (i := i + 1) (j := m) (by omega) (by omega)
  simp -implicitDefEqProofs (disch:=first|omega|simp only [go_sem,Nat.reduceAdd]) only [go_sem,Int.reduceLT,Int.reduceLE,Int.reduceEq,reduceIte,true_and, h1', hwl, h2, el, dPick_t, dPick_f, ia0, lb0 H hE, hw0, bd_instr2, hst5, cI]
  refine ncall form_c ?_
  rw [hf]
  simp -implicitDefEqProofs (disch:=first|omega|simp only [go_sem,Nat.reduceAdd]) only [go_sem,Int.reduceLT,Int.reduceLE,Int.reduceEq,reduceIte,true_and, hw1, hw2, hu0 _ (hEP _), ↓bin_andI]
  -- what the rest begins with
  have hd : ∀ (u : Value) (k : Nat), Arg fU8.rep h u ((l.take m).drop k) → k < m → ∃ id o u', dIndexAddr Try.prog 22 u (.int .i64 0) = some (.pointer (some ⟨id, o, none⟩)) ∧ (∀ K, Ext h K → cellAt K id o = some (.int .u8 (l.getD k 0))) ∧ (∀ K, Ext h K → dSlice Try.prog 22 u (some (.int .i64 1)) none none K = some u') ∧ Arg fU8.rep h u' ((l.take m).drop (k + 1)) := by
    intro u k hu hk
    have hlen : ((l.take m).drop k).length = m - k := by rw [List.length_drop, List.length_take, Nat.min_eq_left (by omega)]
    obtain ⟨id, o, e1, e2, _, _⟩ := byte_at hu (i := 0) (by omega)
    obtain ⟨u', e3, e4⟩ := rest_of hu (k := 1) (by omega)
    rw [getD_part (by omega)] at e2
    rw [List.drop_drop] at e4
    exact ⟨id, o, u', e1, e2, e3, e4⟩
  have hwx : ∀ j, IntKind.i64.wrap (l.getD j 0) = l.getD j 0 := fun j => by
    have := hbyte j
    exact wrap_i64_in (by omega) (by omega)
  have hsp : ∀ a b, (H.push (.row (fInstr.enc a) 0 false)).set H.next (.row (fInstr.enc b) 0 false) = H.push (.row (fInstr.enc b) 0 false) := fun a b => set_push_same _ _ _
  have sA : ∀ a b n c d e, storeAt (H.push (.row (fInstr.enc ⟨a, b, n, c, d⟩) 0 false)) H.next 2 [.int .i64 e] = some (H.push (.row (fInstr.enc ⟨a, b, e, c, d⟩) 0 false)) := fun a b n c d e => by
    rw [storeAt_row (get_push_same _ _) (Nat.le_of_ble_eq_true rfl) rfl]
    exact congrArg some (set_push_same _ _ _)
  have sB : ∀ a b n c d e, storeAt (H.push (.row (fInstr.enc ⟨a, b, n, c, d⟩) 0 false)) H.next 3 [.int .i64 e] = some (H.push (.row (fInstr.enc ⟨a, b, n, e, d⟩) 0 false)) := fun a b n c d e => by
    rw [storeAt_row (get_push_same _ _) (Nat.le_of_ble_eq_true rfl) rfl]
    exact congrArg some (set_push_same _ _ _)
  have sC : ∀ a b n c d e, storeAt (H.push (.row (fInstr.enc ⟨a, b, n, c, d⟩) 0 false)) H.next 4 [.int .i64 e] = some (H.push (.row (fInstr.enc ⟨a, b, n, c, e⟩) 0 false)) := fun a b n c d e => by
    rw [storeAt_row (get_push_same _ _) (Nat.le_of_ble_eq_true rfl) rfl]
    exact congrArg some (set_push_same _ _ _)
  obtain ⟨k2, hk2⟩ : ∃ k2, k2 = i + 1 + if firstB opn then 1 else 0 := ⟨_, rfl⟩
  obtain ⟨xa, hxa⟩ : ∃ xa, xa = if firstB opn then l.getD (i + 1) 0 else 0 := ⟨_, rfl⟩
  have hk2l : (k2 : Int) + (if twoB opn then 1 else 0) + wideI opn = m := by
    rw [hm, hk2, hsz]
    split <;> simp <;> omega
  refine XIf_cut (fun s => ∃ u, OnM h.next H v i opn f xa 0 0 u s ∧ Arg fU8.rep h u ((l.take m).drop k2)) (fun ht => ?_) (fun ht => ?_) ?_
  · have hf1 : firstB opn = true := by
      cases hh : firstB opn with
      | true => rfl
      | false => rw [decide_eq_true (t2.2 hh)] at ht; cases ht
    rw [hf1] at hk2 hxa
    simp only [if_true] at hk2 hxa
    obtain ⟨id1, o1, u1, e1, e2, e3, e4⟩ := hd u0 (i + 1) hr0 (by
      rw [hf1] at hsz
      simp only [if_true] at hsz
      have : 0 ≤ (if twoB opn then (1 : Int) else 0) := by split <;> omega
      omega)
    rw [← hxa] at e2
    refine NC.mono (one_region0 (K1 := H.push (.row (fInstr.enc ⟨(i : Nat), opn, xa, 0, 0⟩) 0 false)) (x := xa) (B := H.next) (by simp -implicitDefEqProofs (disch:=first|omega|simp only [go_sem,Nat.reduceAdd]) only [go_sem,Int.reduceLT,Int.reduceLE,Int.reduceEq,reduceIte,true_and]) (by simp -implicitDefEqProofs (disch:=first|omega|simp only [go_sem,Nat.reduceAdd]) only [go_sem,Int.reduceLT,Int.reduceLE,Int.reduceEq,reduceIte,true_and]) e1 (e2 _ (hEP _)) (e2 _ (hEP _)) (by rw [hxa]; exact hwx _) (e3 _ (hEP _)) (e3 _ (hEP _)) (sA _ _ _ _ _ _) (sA _ _ _ _ _ _)) ?_
    rintro e ⟨fr1, df1, hh1, rd1⟩ hM
    cases e <;> try exact hM.elim
    obtain ⟨rfl, rfl, rfl, q12, q0, q1, q4, q7, q9, q10⟩ := hM
    refine ⟨u1, ⟨rfl, rfl, q0.trans (by simp -implicitDefEqProofs (disch:=first|omega|simp only [go_sem,Nat.reduceAdd]) only [go_sem,Int.reduceLT,Int.reduceLE,Int.reduceEq,reduceIte,true_and]), q1.trans (by simp -implicitDefEqProofs (disch:=first|omega|simp only [go_sem,Nat.reduceAdd]) only [go_sem,Int.reduceLT,Int.reduceLE,Int.reduceEq,reduceIte,true_and]), q4.trans (by simp -implicitDefEqProofs (disch:=first|omega|simp only [go_sem,Nat.reduceAdd]) only [go_sem,Int.reduceLT,Int.reduceLE,Int.reduceEq,reduceIte,true_and]), q7.trans (by simp -implicitDefEqProofs (disch:=first|omega|simp only [go_sem,Nat.reduceAdd]) only [go_sem,Int.reduceLT,Int.reduceLE,Int.reduceEq,reduceIte,true_and]), q9.trans (by simp -implicitDefEqProofs (disch:=first|omega|simp only [go_sem,Nat.reduceAdd]) only [go_sem,Int.reduceLT,Int.reduceLE,Int.reduceEq,reduceIte,true_and]), q10.trans (by simp -implicitDefEqProofs (disch:=first|omega|simp only [go_sem,Nat.reduceAdd]) only [go_sem,Int.reduceLT,Int.reduceLE,Int.reduceEq,reduceIte,true_and]), q12, rfl⟩, ?_⟩
    rw [hk2]
    exact e4
  · have hf1 : firstB opn = false := by
      cases hh : firstB opn with
      | false => rfl
      | true => rw [decide_eq_false (fun h => by rw [t2.1 h] at hh; cases hh)] at ht; cases ht
    rw [hf1] at hk2 hxa
    simp only [Bool.false_eq_true, if_false, Nat.add_zero] at hk2 hxa
    simp -implicitDefEqProofs (disch:=first|omega|simp only [go_sem,Nat.reduceAdd]) only [go_sem,Int.reduceLT,Int.reduceLE,Int.reduceEq,reduceIte,true_and]
    refine ⟨u0, ⟨rfl, rfl, by simp -implicitDefEqProofs (disch:=first|omega|simp only [go_sem,Nat.reduceAdd]) only [go_sem,Int.reduceLT,Int.reduceLE,Int.reduceEq,reduceIte,true_and], by simp -implicitDefEqProofs (disch:=first|omega|simp only [go_sem,Nat.reduceAdd]) only [go_sem,Int.reduceLT,Int.reduceLE,Int.reduceEq,reduceIte,true_and], by simp -implicitDefEqProofs (disch:=first|omega|simp only [go_sem,Nat.reduceAdd]) only [go_sem,Int.reduceLT,Int.reduceLE,Int.reduceEq,reduceIte,true_and], by simp -implicitDefEqProofs (disch:=first|omega|simp only [go_sem,Nat.reduceAdd]) only [go_sem,Int.reduceLT,Int.reduceLE,Int.reduceEq,reduceIte,true_and], by simp -implicitDefEqProofs (disch:=first|omega|simp only [go_sem,Nat.reduceAdd]) only [go_sem,Int.reduceLT,Int.reduceLE,Int.reduceEq,reduceIte,true_and], by simp -implicitDefEqProofs (disch:=first|omega|simp only [go_sem,Nat.reduceAdd]) only [go_sem,Int.reduceLT,Int.reduceLE,Int.reduceEq,reduceIte,true_and], by simp -implicitDefEqProofs (disch:=first|omega|simp only [go_sem,Nat.reduceAdd]) only [go_sem,Int.reduceLT,Int.reduceLE,Int.reduceEq,reduceIte,true_and], by rw [hxa]⟩, ?_⟩
    rw [hk2]
    exact hr0
  rintro ⟨fr, df, K, rd⟩ ⟨u1, ⟨rfl, rfl, f0, f1, f4, f7, f9, f10, f12, hK⟩, hr1⟩
  simp only at f0 f1 f4 f7 f9 f10 f12 hK
  subst hK
  obtain ⟨k3, hk3⟩ : ∃ k3, k3 = k2 + if twoB opn then 1 else 0 := ⟨_, rfl⟩
  obtain ⟨xb, hxb⟩ : ∃ xb, xb = if twoB opn then l.getD k2 0 else 0 := ⟨_, rfl⟩
  have hk3l : (k3 : Int) + wideI opn = m := by
    rw [← hk2l, hk3]
    split <;> simp
  simp -implicitDefEqProofs (disch:=first|omega|simp only [go_sem,Nat.reduceAdd]) only [go_sem,Int.reduceLT,Int.reduceLE,Int.reduceEq,reduceIte,true_and, f10, ↓bin_andI]
  refine XIf_cut (fun s => ∃ u, OnM h.next H v i opn f xa xb 0 u s ∧ Arg fU8.rep h u ((l.take m).drop k3)) (fun ht => ?_) (fun ht => ?_) ?_
  · have hf1 : twoB opn = true := by
      cases hh : twoB opn with
      | true => rfl
      | false => rw [decide_eq_true (t3.2 hh)] at ht; cases ht
    rw [hf1] at hk3 hxb hk2l
    simp only [if_true] at hk3 hxb hk2l
    obtain ⟨id1, o1, u2, e1, e2, e3, e4⟩ := hd u1 k2 hr1 (by omega)
    rw [← hxb] at e2
    refine NC.mono (one_region1 (K1 := H.push (.row (fInstr.enc ⟨(i : Nat), opn, xa, xb, 0⟩) 0 false)) (x := xb) (B := H.next) (by simp -implicitDefEqProofs (disch:=first|omega|simp only [go_sem,Nat.reduceAdd]) only [go_sem,Int.reduceLT,Int.reduceLE,Int.reduceEq,reduceIte,true_and, f9]) (by simp -implicitDefEqProofs (disch:=first|omega|simp only [go_sem,Nat.reduceAdd]) only [go_sem,Int.reduceLT,Int.reduceLE,Int.reduceEq,reduceIte,true_and, f12]) e1 (e2 _ (hEP _)) (e2 _ (hEP _)) (by rw [hxb]; exact hwx _) (e3 _ (hEP _)) (e3 _ (hEP _)) (sB _ _ _ _ _ _) (sB _ _ _ _ _ _)) ?_
    rintro e ⟨fr1, df1, hh1, rd1⟩ hM
    cases e <;> try exact hM.elim
    obtain ⟨rfl, rfl, rfl, q12, q0, q1, q4, q7, q9, q10⟩ := hM
    refine ⟨u2, ⟨rfl, rfl, q0.trans (by simp -implicitDefEqProofs (disch:=first|omega|simp only [go_sem,Nat.reduceAdd]) only [go_sem,Int.reduceLT,Int.reduceLE,Int.reduceEq,reduceIte,true_and, f0]), q1.trans (by simp -implicitDefEqProofs (disch:=first|omega|simp only [go_sem,Nat.reduceAdd]) only [go_sem,Int.reduceLT,Int.reduceLE,Int.reduceEq,reduceIte,true_and, f1]), q4.trans (by simp -implicitDefEqProofs (disch:=first|omega|simp only [go_sem,Nat.reduceAdd]) only [go_sem,Int.reduceLT,Int.reduceLE,Int.reduceEq,reduceIte,true_and, f4]), q7.trans (by simp -implicitDefEqProofs (disch:=first|omega|simp only [go_sem,Nat.reduceAdd]) only [go_sem,Int.reduceLT,Int.reduceLE,Int.reduceEq,reduceIte,true_and, f7]), q9.trans (by simp -implicitDefEqProofs (disch:=first|omega|simp only [go_sem,Nat.reduceAdd]) only [go_sem,Int.reduceLT,Int.reduceLE,Int.reduceEq,reduceIte,true_and, f9]), q10.trans (by simp -implicitDefEqProofs (disch:=first|omega|simp only [go_sem,Nat.reduceAdd]) only [go_sem,Int.reduceLT,Int.reduceLE,Int.reduceEq,reduceIte,true_and, f10]), q12, rfl⟩, ?_⟩
    rw [hk3]
    exact e4
  · have hf1 : twoB opn = false := by
      cases hh : twoB opn with
      | false => rfl
      | true => rw [decide_eq_false (fun h => by rw [t3.1 h] at hh; cases hh)] at ht; cases ht
    rw [hf1] at hk3 hxb
    simp only [Bool.false_eq_true, if_false, Nat.add_zero] at hk3 hxb
    simp -implicitDefEqProofs (disch:=first|omega|simp only [go_sem,Nat.reduceAdd]) only [go_sem,Int.reduceLT,Int.reduceLE,Int.reduceEq,reduceIte,true_and]
    refine ⟨u1, ⟨rfl, rfl, by simp -implicitDefEqProofs (disch:=first|omega|simp only [go_sem,Nat.reduceAdd]) only [go_sem,Int.reduceLT,Int.reduceLE,Int.reduceEq,reduceIte,true_and, f0], by simp -implicitDefEqProofs (disch:=first|omega|simp only [go_sem,Nat.reduceAdd]) only [go_sem,Int.reduceLT,Int.reduceLE,Int.reduceEq,reduceIte,true_and, f1], by simp -implicitDefEqProofs (disch:=first|omega|simp only [go_sem,Nat.reduceAdd]) only [go_sem,Int.reduceLT,Int.reduceLE,Int.reduceEq,reduceIte,true_and, f4], by simp -implicitDefEqProofs (disch:=first|omega|simp only [go_sem,Nat.reduceAdd]) only [go_sem,Int.reduceLT,Int.reduceLE,Int.reduceEq,reduceIte,true_and, f7], by simp -implicitDefEqProofs (disch:=first|omega|simp only [go_sem,Nat.reduceAdd]) only [go_sem,Int.reduceLT,Int.reduceLE,Int.reduceEq,reduceIte,true_and, f9], by simp -implicitDefEqProofs (disch:=first|omega|simp only [go_sem,Nat.reduceAdd]) only [go_sem,Int.reduceLT,Int.reduceLE,Int.reduceEq,reduceIte,true_and, f10], by simp -implicitDefEqProofs (disch:=first|omega|simp only [go_sem,Nat.reduceAdd]) only [go_sem,Int.reduceLT,Int.reduceLE,Int.reduceEq,reduceIte,true_and, f12], by rw [hxb]⟩, ?_⟩
    rw [hk3]
    exact hr1
  clear f0 f1 f4 f7 f9 f10 f12 fr
  rintro ⟨fr, df, K, rd⟩ ⟨u2, ⟨rfl, rfl, f0, f1, f4, f7, f9, f10, f12, hK⟩, hr2⟩
  simp only at f0 f1 f4 f7 f9 f10 f12 hK
  subst hK
  simp -implicitDefEqProofs (disch:=first|omega|simp only [go_sem,Nat.reduceAdd]) only [go_sem,Int.reduceLT,Int.reduceLE,Int.reduceEq,reduceIte,true_and, f10, ↓bin_andI]
  obtain ⟨w, hw⟩ : ∃ w, wideI opn = w := ⟨_, rfl⟩
  rw [hw] at w1 w2 hk3l t4 t6 t7
  obtain ⟨x, hx⟩ : ∃ x, l.getD k3 0 = x := ⟨_, rfl⟩
  obtain ⟨y, hy⟩ : ∃ y, l.getD (k3 + 1) 0 = y := ⟨_, rfl⟩
  have hone : oneI l i = ⟨(i : Nat), opn, xa, xb, immW opn w x y⟩ := by
    unfold oneI
    simp only [hopn, ← hxa, ← hk2, ← hxb, ← hk3, hw, hx, hy]
  have bx := hbyte k3
  have b_y := hbyte (k3 + 1)
  rw [hx] at bx
  rw [hy] at b_y
  have hwx1 : IntKind.i64.wrap x = x := wrap_i64_in (by omega) (by omega)
  have hux : IntKind.u16.wrap x = x := wrap_in (inK_u16.2 ⟨by omega, by omega⟩)
  have huy : IntKind.u16.wrap y = y := wrap_in (inK_u16.2 ⟨by omega, by omega⟩)
  have hor := orH_eq bx.1 bx.2 b_y.1 b_y.2
  have two : w = 2 → ∃ id0 o0 id1 o1, dIndexAddr Try.prog 22 u2 (.int .i64 0) = some (.pointer (some ⟨id0, o0, none⟩)) ∧ dIndexAddr Try.prog 22 u2 (.int .i64 1) = some (.pointer (some ⟨id1, o1, none⟩)) ∧ (∀ K, Ext h K → cellAt K id0 o0 = some (.int .u8 x)) ∧ ∀ K, Ext h K → cellAt K id1 o1 = some (.int .u8 y) := fun hw2 => by
    have hlen : ((l.take m).drop k3).length = m - k3 := by rw [List.length_drop, List.length_take, Nat.min_eq_left (by omega)]
    obtain ⟨id0, o0, e1, e2, _, _⟩ := byte_at hr2 (i := 0) (by omega)
    obtain ⟨id1, o1, e3, e4, _, _⟩ := byte_at hr2 (i := 1) (by omega)
    rw [getD_part (by omega)] at e2 e4
    rw [Nat.add_zero, hx] at e2
    rw [hy] at e4
    exact ⟨id0, o0, id1, o1, e1, e3, e2, e4⟩
  refine XIf_cutB (OnE h.next H i opn (oneI l i)) (fun ht => ?_) (fun ht => ?_) ?_
  · have hw1' : w = 1 := by
      cases Int.decEq w 1 with
      | isTrue e => exact e
      | isFalse e => rw [decide_eq_true (t4.2 e)] at ht; cases ht
    obtain ⟨id1, o1, u3, e1, e2, _, _⟩ := hd u2 k3 hr2 (by omega)
    rw [hx] at e2
    simp -implicitDefEqProofs (disch:=first|omega|simp only [go_sem,Nat.reduceAdd]) only [go_sem,Int.reduceLT,Int.reduceLE,Int.reduceEq,reduceIte,true_and, f9, f12, e1, e2 _ (hEP _), hwx1, sC]
    refine ⟨rfl, rfl, by simp -implicitDefEqProofs (disch:=first|omega|simp only [go_sem,Nat.reduceAdd]) only [go_sem,Int.reduceLT,Int.reduceLE,Int.reduceEq,reduceIte,true_and, f1], by simp -implicitDefEqProofs (disch:=first|omega|simp only [go_sem,Nat.reduceAdd]) only [go_sem,Int.reduceLT,Int.reduceLE,Int.reduceEq,reduceIte,true_and, f4], by simp -implicitDefEqProofs (disch:=first|omega|simp only [go_sem,Nat.reduceAdd]) only [go_sem,Int.reduceLT,Int.reduceLE,Int.reduceEq,reduceIte,true_and, f7], by simp -implicitDefEqProofs (disch:=first|omega|simp only [go_sem,Nat.reduceAdd]) only [go_sem,Int.reduceLT,Int.reduceLE,Int.reduceEq,reduceIte,true_and, f9], ?_⟩
    rw [hone]
    rw [immW, if_neg (by omega), if_pos (by omega)]
  · have hw1' : w ≠ 1 := fun e => by
      rw [decide_eq_false (fun h => t4.1 h e)] at ht
      cases ht
    simp -implicitDefEqProofs (disch:=first|omega|simp only [go_sem,Nat.reduceAdd]) only [go_sem,Int.reduceLT,Int.reduceLE,Int.reduceEq,reduceIte,true_and, f10, ↓bin_andI]
    refine XIf_split (fun ht => ?_) (fun ht => ?_)
    · have ho1 : opn = 1 := by
        cases Nat.decEq opn 1 with
        | isTrue e => exact e
        | isFalse e => rw [decide_eq_true (t5.2 e)] at ht; cases ht
      have hw2' := t7 ho1
      obtain ⟨id0', o0', id1, o1, e1, e2, e3, e4⟩ := two hw2'
      have hsg := wrap_i16 (n := x + 256 * y) (by omega) (by omega)
      obtain ⟨z, hz⟩ : ∃ z, IntKind.i16.wrap (x + 256 * y) = z := ⟨_, rfl⟩
      have hzz : IntKind.i64.wrap z = z := by
        rw [hz] at hsg
        split at hsg <;> exact wrap_i64_in (by omega) (by omega)
      have himm : immW opn w x y = z := by
        rw [← hz, hsg]
        unfold immW
        rw [if_pos hw2', ho1]
        by_cases hb : 32768 ≤ x + 256 * y
        · simp [hb]
        · simp [hb]
      refine dr_70_2 ?_
      simp -implicitDefEqProofs (disch:=first|omega|simp only [go_sem,Nat.reduceAdd]) only [go_sem,Int.reduceLT,Int.reduceLE,Int.reduceEq,reduceIte,true_and, l70_2, f9, f12, e1, e2, e3 _ (hEP _), e4 _ (hEP _), hux, huy, bin_shl8, ↓bin_orH, hor, hz, hzz, sC]
      refine ⟨rfl, rfl, by simp -implicitDefEqProofs (disch:=first|omega|simp only [go_sem,Nat.reduceAdd]) only [go_sem,Int.reduceLT,Int.reduceLE,Int.reduceEq,reduceIte,true_and, f1], by simp -implicitDefEqProofs (disch:=first|omega|simp only [go_sem,Nat.reduceAdd]) only [go_sem,Int.reduceLT,Int.reduceLE,Int.reduceEq,reduceIte,true_and, f4], by simp -implicitDefEqProofs (disch:=first|omega|simp only [go_sem,Nat.reduceAdd]) only [go_sem,Int.reduceLT,Int.reduceLE,Int.reduceEq,reduceIte,true_and, f7], by simp -implicitDefEqProofs (disch:=first|omega|simp only [go_sem,Nat.reduceAdd]) only [go_sem,Int.reduceLT,Int.reduceLE,Int.reduceEq,reduceIte,true_and, f9], ?_⟩
      rw [hone, himm]
    · have ho1 : opn ≠ 1 := fun e => by
        rw [decide_eq_false (fun h => t5.1 h e)] at ht
        cases ht
      simp -implicitDefEqProofs (disch:=first|omega|simp only [go_sem,Nat.reduceAdd]) only [go_sem,Int.reduceLT,Int.reduceLE,Int.reduceEq,reduceIte,true_and, f10, ↓bin_andI]
      refine XIf_split (fun ht => ?_) (fun ht => ?_)
      · have hw2' : w = 2 := by
          cases Int.decEq w 2 with
          | isTrue e => exact e
          | isFalse e => rw [decide_eq_true (t6.2 fun hh => e hh.1)] at ht; cases ht
        obtain ⟨id0', o0', id1, o1, e1, e2, e3, e4⟩ := two hw2'
        have hzz : IntKind.i64.wrap (x + 256 * y) = x + 256 * y := wrap_i64_in (by omega) (by omega)
        refine dr_70_3 ?_
        simp -implicitDefEqProofs (disch:=first|omega|simp only [go_sem,Nat.reduceAdd]) only [go_sem,Int.reduceLT,Int.reduceLE,Int.reduceEq,reduceIte,true_and, l70_3, f9, f12, e1, e2, e3 _ (hEP _), e4 _ (hEP _), hux, huy, bin_shl8, ↓bin_orH, hor, hzz, sC]
        refine ⟨rfl, rfl, by simp -implicitDefEqProofs (disch:=first|omega|simp only [go_sem,Nat.reduceAdd]) only [go_sem,Int.reduceLT,Int.reduceLE,Int.reduceEq,reduceIte,true_and, f1], by simp -implicitDefEqProofs (disch:=first|omega|simp only [go_sem,Nat.reduceAdd]) only [go_sem,Int.reduceLT,Int.reduceLE,Int.reduceEq,reduceIte,true_and, f4], by simp -implicitDefEqProofs (disch:=first|omega|simp only [go_sem,Nat.reduceAdd]) only [go_sem,Int.reduceLT,Int.reduceLE,Int.reduceEq,reduceIte,true_and, f7], by simp -implicitDefEqProofs (disch:=first|omega|simp only [go_sem,Nat.reduceAdd]) only [go_sem,Int.reduceLT,Int.reduceLE,Int.reduceEq,reduceIte,true_and, f9], ?_⟩
        rw [hone]
        rw [immW, if_pos hw2', if_neg (fun hh => ho1 (by have := hh.1; omega))]
      · have hw2' : w ≠ 2 := fun e => by
          rw [decide_eq_false (fun h => t6.1 h ⟨e, ho1⟩)] at ht
          cases ht
        simp -implicitDefEqProofs (disch:=first|omega|simp only [go_sem,Nat.reduceAdd]) only [go_sem,Int.reduceLT,Int.reduceLE,Int.reduceEq,reduceIte,true_and]
        refine ⟨rfl, rfl, by simp -implicitDefEqProofs (disch:=first|omega|simp only [go_sem,Nat.reduceAdd]) only [go_sem,Int.reduceLT,Int.reduceLE,Int.reduceEq,reduceIte,true_and, f1], by simp -implicitDefEqProofs (disch:=first|omega|simp only [go_sem,Nat.reduceAdd]) only [go_sem,Int.reduceLT,Int.reduceLE,Int.reduceEq,reduceIte,true_and, f4], by simp -implicitDefEqProofs (disch:=first|omega|simp only [go_sem,Nat.reduceAdd]) only [go_sem,Int.reduceLT,Int.reduceLE,Int.reduceEq,reduceIte,true_and, f7], by simp -implicitDefEqProofs (disch:=first|omega|simp only [go_sem,Nat.reduceAdd]) only [go_sem,Int.reduceLT,Int.reduceLE,Int.reduceEq,reduceIte,true_and, f9], ?_⟩
        rw [hone]
        rw [immW, if_neg hw2', if_neg (by omega)]
  clear f0 f1 f4 f7 f9 f10 f12 fr
  rintro ⟨fr, df, K, rd⟩ ⟨rfl, rfl, f1, f4, f7, f9, hK⟩
  simp only at f1 f4 f7 f9 hK
  subst hK
  obtain ⟨hix, h132⟩ := indexB_eq (l := l) (i := i) fun j => (hbyte j).1
  simp -implicitDefEqProofs (disch:=first|omega|simp only [go_sem,Nat.reduceAdd]) only [go_sem,Int.reduceLT,Int.reduceLE,Int.reduceEq,reduceIte,true_and, f9, lc]
  refine ncall index_c ?_
  rw [hix]
  have g' : (H.push (.row (fInstr.enc (oneI l i)) 0 false)).get h.next = some (.row (fInstr.enc zeroInstr) 0 false) := (get_push_other _ _ (by omega)).trans g
  have hst : ∀ x : Instr, storeAt (H.push (.row (fInstr.enc (oneI l i)) 0 false)) h.next 0 [.int .i64 x.pos, .int .i64 x.op, .int .i64 x.a, .int .i64 x.b, .int .i64 x.imm] = some ((H.push (.row (fInstr.enc (oneI l i)) 0 false)).set h.next (.row (fInstr.enc x) 0 false)) := fun x => storeAll g' rfl rfl
  by_cases he : indexE (oneI l i) = 0
  · have he' := eq_true he
    simp -implicitDefEqProofs (disch:=first|omega|simp only [go_sem,Nat.reduceAdd]) only [go_sem,Int.reduceLT,Int.reduceLE,Int.reduceEq,reduceIte,true_and, he', f9, f1, f7, lc, hw2, f4, hst]
    refine ret_at (res_i (x := oneI l i) (n := i + sizeI opn) (e := 0) (by simp -implicitDefEqProofs (disch:=first|omega|simp only [go_sem,Nat.reduceAdd]) only [go_sem,Int.reduceLT,Int.reduceLE,Int.reduceEq,reduceIte,true_and, f4]) (by rw [← hm]; simp -implicitDefEqProofs (disch:=first|omega|simp only [go_sem,Nat.reduceAdd]) only [go_sem,Int.reduceLT,Int.reduceLE,Int.reduceEq,reduceIte,true_and]) (by simp -implicitDefEqProofs (disch:=first|omega|simp only [go_sem,Nat.reduceAdd]) only [go_sem,Int.reduceLT,Int.reduceLE,Int.reduceEq,reduceIte,true_and]) (get_set_same _ _)) ⟨?_, (hEP _).set (by omega)⟩
    rw [hT, if_pos he]
  · simp -implicitDefEqProofs (disch:=first|omega|simp only [go_sem,Nat.reduceAdd]) only [go_sem,Int.reduceLT,Int.reduceLE,Int.reduceEq,reduceIte,true_and, he, bd_instr0, f4, hst zeroInstr]
    refine ret_at (res_i (x := zeroInstr) (n := 0) (e := 132) (by simp -implicitDefEqProofs (disch:=first|omega|simp only [go_sem,Nat.reduceAdd]) only [go_sem,Int.reduceLT,Int.reduceLE,Int.reduceEq,reduceIte,true_and, f4]) (by simp -implicitDefEqProofs (disch:=first|omega|simp only [go_sem,Nat.reduceAdd]) only [go_sem,Int.reduceLT,Int.reduceLE,Int.reduceEq,reduceIte,true_and]) (by simp -implicitDefEqProofs (disch:=first|omega|simp only [go_sem,Nat.reduceAdd]) only [go_sem,Int.reduceLT,Int.reduceLE,Int.reduceEq,reduceIte,true_and]) (get_set_same _ _)) ⟨?_, (hEP _).set (by omega)⟩
    rw [hT, if_neg he, h132 he]
end Go.Proofs.Ytbdljpndncohaaa

namespace Go.Proofs.Ytbdljpndncohaaa
open Go.D
set_option maxRecDepth 100000

/-- the instructions from an address on, and what is wrong with the first that may not be -/
def walkF (l : List Int) : Nat → Nat → List Instr × Int
  | 0, _ => ([], 0)
  | n + 1, i => if l.length ≤ i then ([], 0) else if (oneT l i).2.2 = 0 then ((oneT l i).1 :: (walkF l n (oneT l i).2.1.toNat).1, (walkF l n (oneT l i).2.1.toNat).2) else ([], (oneT l i).2.2)
theorem oneT_next {l : List Int} {i : Nat} (h : (oneT l i).2.2 = 0) : (oneT l i).1 = oneI l i ∧ (oneT l i).2.1 = i + sizeI (l.getD i 0) ∧ i < l.length ∧ 1 ≤ sizeI (l.getD i 0) ∧ (i : Int) + sizeI (l.getD i 0) ≤ l.length ∧ indexE (oneI l i) = 0 := by
  unfold oneT at h ⊢
  split at h
  · exact absurd h (by decide)
  · rename_i h1
    rw [if_neg h1]
    split at h
    · exact absurd h (by decide)
    · rename_i h2
      rw [if_neg h2]
      have := sizeI_le (l.getD i 0)
      split at h
      · rename_i h3
        rw [if_pos h3]
        refine ⟨rfl, rfl, by omega, by omega, by omega, h3⟩
      · rename_i h3
        exact absurd h h3
theorem walkF_any {l : List Int} : ∀ {n m i : Nat}, l.length - i ≤ n → l.length - i ≤ m → walkF l n i = walkF l m i
  | 0, 0, i, _, _ => rfl
  | 0, m + 1, i, h, _ => by simp only [walkF]; rw [if_pos (by omega)]
  | n + 1, 0, i, _, h => by simp only [walkF]; rw [if_pos (by omega)]
  | n + 1, m + 1, i, h1, h2 => by
    simp only [walkF]
    by_cases h : l.length ≤ i
    · rw [if_pos h, if_pos h]
    · rw [if_neg h, if_neg h]
      by_cases he : (oneT l i).2.2 = 0
      · obtain ⟨_, a, b, c, _⟩ := oneT_next he
        rw [if_pos he, if_pos he, walkF_any (n := n) (m := m) (by omega) (by omega)]
      · rw [if_neg he, if_neg he]
def walkAt (l : List Int) (i : Nat) : List Instr × Int := walkF l l.length i
theorem walkAt_end {l : List Int} {i : Nat} (h : l.length ≤ i) : walkAt l i = ([], 0) := by
  unfold walkAt
  rw [walkF_any (m := 0) (by omega) (by omega)]
  rfl
theorem walkAt_step {l : List Int} {i : Nat} (h : i < l.length) : walkAt l i = if (oneT l i).2.2 = 0 then ((oneT l i).1 :: (walkAt l (oneT l i).2.1.toNat).1, (walkAt l (oneT l i).2.1.toNat).2) else ([], (oneT l i).2.2) := by
  unfold walkAt
  rw [walkF_any (m := l.length + 1) (by omega) (by omega)]
  conv => lhs; rw [walkF]
  rw [if_neg (by omega)]
theorem walkAt_len {l : List Int} : ∀ {n i : Nat}, l.length - i ≤ n → (walkAt l i).1.length ≤ l.length - i
  | 0, i, h => by rw [walkAt_end (by omega)]; simp
  | n + 1, i, h => by
    by_cases hi : i < l.length
    · rw [walkAt_step hi]
      split
      · rename_i he
        obtain ⟨_, a, b, c, d⟩ := oneT_next he
        have := walkAt_len (l := l) (n := n) (i := (oneT l i).2.1.toNat) (by omega)
        simp only [List.length_cons]
        omega
      · simp
    · rw [walkAt_end (by omega)]; simp
theorem oneT_ok {l : List Int} {i : Nat} (hl : l.length ≤ 4294967296) (hb : ∀ j, 0 ≤ l.getD j 0 ∧ l.getD j 0 ≤ 255) (h : (oneT l i).2.2 = 0) : fInstr.ok (oneT l i).1 := by
  obtain ⟨e, a, b, c, d⟩ := oneT_next h
  rw [e]
  have b0 := hb i
  have b1 := hb (i + 1)
  have b2 := hb (i + 1 + if firstB (l.getD i 0) then 1 else 0)
  have b3 := hb (i + 1 + (if firstB (l.getD i 0) then 1 else 0) + if twoB (l.getD i 0) then 1 else 0)
  have b4 := hb (i + 1 + (if firstB (l.getD i 0) then 1 else 0) + (if twoB (l.getD i 0) then 1 else 0) + 1)
  have k1 : ∀ n : Int, -65536 ≤ n → n ≤ 4294967296 → inK .i64 n := fun n h1 h2 => inK_i64.2 ⟨by omega, by omega⟩
  refine ⟨k1 _ ?_ ?_, k1 _ ?_ ?_, k1 _ ?_ ?_, k1 _ ?_ ?_, k1 _ ?_ ?_⟩
  all_goals simp only [oneI, immW]
  all_goals first
    | omega
    | (repeat' split
       all_goals omega)
theorem store5 {h : DHeap} {x : Instr} : storeAt (h.push (.row [.int .i64 0, .int .i64 0, .int .i64 0, .int .i64 0, .int .i64 0] 0 false)) h.next 0 [.int .i64 x.pos, .int .i64 x.op, .int .i64 x.a, .int .i64 x.b, .int .i64 x.imm] = some (h.push (.row (fInstr.enc x) 0 false)) := store5_push rfl
theorem bytes_le {h : DHeap} {v : Value} {l : List Int} (hb : Arg fU8.rep h v l) : ∀ j, 0 ≤ l.getD j 0 ∧ l.getD j 0 ≤ 255 := fun j => by
  by_cases hj : j < l.length
  · obtain ⟨_, _, _, _, a, b⟩ := byte_at hb hj
    exact ⟨a, b⟩
  · rw [List.getD_eq_getElem?_getD, List.getElem?_eq_none (by omega)]
    exact ⟨Int.le_refl _, by decide⟩
theorem refWalk_c {h : DHeap} {v : Value} {l : List Int} (hb : Arg fU8.rep h v l) (hl : l.length ≤ 1048576) :
    Ct Try.prog 56 [v] h fun r h1 => ∃ w, r = .ret (.tuple #[w, .int .i64 (walkAt l 0).2]) ∧ Made fInstr h h1 w (walkAt l 0).1 := by
  refine go_56 (by simp) ?_
  have el : ∀ K, dLen Try.prog #[22] v K = some (.int .i64 (l.length : Nat)) := hb.lens (P := Try.prog) (ts := #[22]) (t := 22) rfl isl_22
  have hbl := bytes_le hb
  simp -implicitDefEqProofs (disch:=first|omega|simp only [go_sem,Nat.reduceAdd]) only [go_sem,Int.reduceLT,Int.reduceLE,Int.reduceEq,reduceIte,true_and, c56]
  refine xloop (σ := Nat × List Instr) (by kernel_rfl) (fun a s => s.df = [] ∧ s.fr 0 = some v ∧ s.fr 5 = some (.int .i64 (a.1 : Nat)) ∧ (∃ w, s.fr 4 = some w ∧ Made fInstr h s.h w a.2) ∧ a.1 ≤ l.length ∧ a.2.length ≤ a.1 ∧ walkAt l 0 = (a.2 ++ (walkAt l a.1).1, (walkAt l a.1).2)) (fun a => l.length - a.1) (0, []) ?_ ?_
  · simp -implicitDefEqProofs (disch:=first|omega|simp only [go_sem,Nat.reduceAdd]) only [go_sem,Int.reduceLT,Int.reduceLE,Int.reduceEq,reduceIte,true_and]
    exact ⟨rfl, ⟨_, rfl, .nil _ (.refl h)⟩, Nat.zero_le _, Nat.le_refl _, trivial⟩
  · rintro ⟨i, acc⟩ ⟨fr, df, K, rd⟩ K' hK' hX ⟨rfl, f0, f5, ⟨w, f4, hm⟩, hi, hal, hw⟩
    simp only at f0 f5 f4 hm hi hal hw
    have hE := hm.ext
    simp -implicitDefEqProofs (disch:=first|omega|simp only [go_sem,Nat.reduceAdd]) only [go_sem,Int.reduceLT,Int.reduceLE,Int.reduceEq,reduceIte,true_and, f0, f5, el]
    refine XIf_dec (fun hc1 => ?_) (fun hc1 => ?_)
    · have hil : i < l.length := by omega
      have hst := walkAt_step hil
      simp -implicitDefEqProofs (disch:=first|omega|simp only [go_sem,Nat.reduceAdd]) only [go_sem,Int.reduceLT,Int.reduceLE,Int.reduceEq,reduceIte,true_and, f0, f5]
      refine ncall (refOne_c (hb.ext hE) (by omega) (by omega)) ?_
      obtain ⟨x, hx⟩ : ∃ x, (oneT l i).1 = x := ⟨_, rfl⟩
      obtain ⟨K1, hK1⟩ : ∃ K1, K1 = K.push (.row (fInstr.enc x) 0 false) := ⟨_, rfl⟩
      have g : K1.get K.next = some (.row (fInstr.enc x) 0 false) := by rw [hK1]; exact get_push_same _ _
      have lc : cellsAt K1 K.next 0 5 = some (instrV x) := by rw [cellsAt_row g (Nat.le_of_ble_eq_true rfl)]; rfl
      have hm1 : Made fInstr h K1 w acc := hm.on (by rw [hK1]; exact Ext.push1 _ _)
      rw [hx]
      have s5 := store5 (h := K) (x := x)
      rw [← hK1] at s5
      by_cases he : (oneT l i).2.2 = 0
      · have he' := eq_true he
        obtain ⟨e1, e2, _, e4, e5⟩ := oneT_next he
        have hok := oneT_ok (by omega) hbl he
        rw [hx] at hok
        rw [if_pos he, hx] at hst
        obtain ⟨nx, hnx⟩ : ∃ nx : Nat, (oneT l i).2.1 = nx := ⟨(oneT l i).2.1.toNat, by omega⟩
        rw [hnx] at hst ⊢
        have hbs : ∀ K : DHeap, dBuildSlice Try.prog 91 1 [(0, instrV x)] K = some (.slice (some ⟨K.next, 0, none⟩) 1 1, K.push (.row (fInstr.enc x) 5 false)) := fun K => bs1_91 rfl
        obtain ⟨w2, h2, e6, m2⟩ := hm1.snoc app_91 (y := x) (cs := fInstr.enc x) (z := 5) rfl rfl hok (by omega) (by decide)
        simp -implicitDefEqProofs (disch:=first|omega|simp only [go_sem,Nat.reduceAdd]) only [go_sem,Int.reduceLT,Int.reduceLE,Int.reduceEq,reduceIte,true_and, he', s5, f4, lc, hbs, e6]
        refine hK' (nx, acc ++ [x]) _ ?_ (by simp only; omega)
        refine ⟨by trivial, by simp -implicitDefEqProofs (disch:=first|omega|simp only [go_sem,Nat.reduceAdd]) only [go_sem,Int.reduceLT,Int.reduceLE,Int.reduceEq,reduceIte,true_and, f0], by simp -implicitDefEqProofs (disch:=first|omega|simp only [go_sem,Nat.reduceAdd]) only [go_sem,Int.reduceLT,Int.reduceLE,Int.reduceEq,reduceIte,true_and], ⟨w2, by simp -implicitDefEqProofs (disch:=first|omega|simp only [go_sem,Nat.reduceAdd]) only [go_sem,Int.reduceLT,Int.reduceLE,Int.reduceEq,reduceIte,true_and], m2⟩, by simp only; omega, by simp; omega, ?_⟩
        rw [hw, hst]
        simp
      · rw [if_neg he] at hst
        simp -implicitDefEqProofs (disch:=first|omega|simp only [go_sem,Nat.reduceAdd]) only [go_sem,Int.reduceLT,Int.reduceLE,Int.reduceEq,reduceIte,true_and, he, s5, f4]
        refine hX _ _ (by simp) ?_
        simp -implicitDefEqProofs (disch:=first|omega|simp only [go_sem,Nat.reduceAdd]) only [go_sem,Int.reduceLT,Int.reduceLE,Int.reduceEq,reduceIte,true_and]
        refine ⟨_, rfl, w, ?_, ?_⟩
        · rw [hw, hst]
        · rw [hw, hst, List.append_nil]; exact hm1
    · refine hX _ _ (by simp) ?_
      simp -implicitDefEqProofs (disch:=first|omega|simp only [go_sem,Nat.reduceAdd]) only [go_sem,Int.reduceLT,Int.reduceLE,Int.reduceEq,reduceIte,true_and, f4]
      have := walkAt_end (l := l) (i := i) (by omega)
      refine ⟨_, rfl, w, ?_, ?_⟩
      · rw [hw, this]
      · rw [hw, this, List.append_nil]; exact hm
end Go.Proofs.Ytbdljpndncohaaa

namespace Go.D
variable {P : Program}

/-- a map's type, of a set of numbers -/
structure SetT (P : Program) (t : TypeId) (k : IntKind) : Prop where
  map : ∃ kt et, P.underlying t = some (.map kt et) ∧ P.underlying kt = some (.int k) ∧ zeroOf P et = some (.bool false)
/-- what lies in it -/
def SetAt (k : IntKind) (h : DHeap) (id : Nat) (ks : List Int) : Prop :=
  ∃ es c, h.get id = some (.map es c) ∧ (∀ e ∈ es, ∃ n, e.key = .int k n ∧ e.val = .bool true) ∧ ∀ n, n ∈ ks ↔ ∃ e ∈ es, e.key = .int k n
theorem findNow_int {k : IntKind} {n : Int} : ∀ {es : List MapEntry} {i : Nat}, (∀ e ∈ es, ∃ m, e.key = .int k m ∧ e.val = .bool true) →
    (∃ j, Instr.findNow (.int k) (.int k n) es i = some (some (j, .bool true)) ∧ i ≤ j ∧ ∃ e, es[j - i]? = some e ∧ e.key = .int k n) ∨ (Instr.findNow (.int k) (.int k n) es i = some none ∧ ∀ e ∈ es, e.key ≠ .int k n)
  | [], i, _ => .inr ⟨rfl, fun e he => by simp at he⟩
  | e :: es, i, h => by
    obtain ⟨m, h1, h2⟩ := h e (by simp)
    have ih := findNow_int (k := k) (n := n) (es := es) (i := i + 1) fun e he => h e (by simp [he])
    simp only [Instr.findNow, h1, Instr.sameNow, if_true]
    by_cases hm : n = m
    · subst hm
      refine .inl ⟨i, by simp [h2], Nat.le_refl _, e, by simp, h1⟩
    · have : (n == m) = false := by simpa using hm
      rw [this]
      rcases ih with ⟨j, a, b, e', c, d⟩ | ⟨a, b⟩
      · exact .inl ⟨j, a, by omega, e', by rw [show j - i = (j - (i + 1)) + 1 by omega]; exact c, d⟩
      · refine .inr ⟨a, fun e' he => ?_⟩
        rcases List.mem_cons.1 he with rfl | he
        · rw [h1]
          intro hh
          cases hh
          exact hm rfl
        · exact b e' he
theorem quick_und {t : TypeId} {d : TypeDesc} (hu : P.underlying t = some d) : quick P (underlying t) = some (.inr d) := by
  simp only [underlying, program, Bind.bind, Sem.bind, quick, hu]
  rfl
theorem checkKey_intN {kt : TypeId} {k : IntKind} (hu : P.underlying kt = some (.int k)) (b : Bool) (n : Int) (m : Nat) : quick P (Instr.checkKey b (m + 1) kt (.int k n)) = some (.inr ()) := by
  unfold Instr.checkKey
  rw [quick_bind (quick_und hu)]
  rfl
theorem checkKey_int {kt : TypeId} {k : IntKind} (hu : P.underlying kt = some (.int k)) (b : Bool) (n : Int) : ∃ u, quick P (Instr.checkKey b 10000 kt (.int k n)) = some (.inr u) := ⟨(), checkKey_intN hu b n 9999⟩
theorem sameBits_int {k : IntKind} {n : Int} (m : Nat) : Instr.sameBits (m + 1) (.int k n) (.int k n) = true := by simp [Instr.sameBits]
theorem SetAt.lookup {t : TypeId} {k : IntKind} {h : DHeap} {id : Nat} {ks : List Int} (T : SetT P t k) (a : SetAt k h id ks) (n : Int) : dLookup P t (.map (some id)) (.int k n) false h = some (.bool (decide (n ∈ ks))) := by
  obtain ⟨kt, et, u1, u2, u3⟩ := T.map
  obtain ⟨es, c, g, e1, e2⟩ := a
  obtain ⟨u, hck⟩ := checkKey_int (P := P) u2 es.isEmpty n
  have hm : dMapEs (.map (some id)) h = some es := by simp only [dMapEs, g]
  have hf3 : flat3 (.int k n) = true := rfl
  simp only [dLookup, u1, hm, hf3, if_true, hck]
  rcases findNow_int (k := k) (n := n) (es := es) (i := 0) e1 with ⟨j, a, _, e, c, d⟩ | ⟨a, b⟩
  · have hfd : dFind P kt (.int k n) es = some (some j) := by simp only [dFind, u2, a]; rfl
    rw [Nat.sub_zero] at c
    obtain ⟨m, h1, h2⟩ := e1 e (List.mem_of_getElem? c)
    rw [decide_eq_true ((e2 n).2 ⟨e, List.mem_of_getElem? c, d⟩)]
    simp only [hfd, c, h2]
    rfl
  · have hfd : dFind P kt (.int k n) es = some none := by simp only [dFind, u2, a]; rfl
    rw [decide_eq_false (fun hh => by
      obtain ⟨e, he, hk⟩ := (e2 n).1 hh
      exact b e he hk)]
    simp only [hfd, u3]
    rfl
theorem SetAt.update {t : TypeId} {k : IntKind} {h : DHeap} {id : Nat} {ks : List Int} (T : SetT P t k) (a : SetAt k h id ks) (n : Int) : ∃ o, dMapUpdate P t (.map (some id)) (.int k n) (.bool true) h = some (h.set id o) ∧ SetAt k (h.set id o) id (ks ++ [n]) := by
  obtain ⟨kt, et, u1, u2, u3⟩ := T.map
  obtain ⟨es, c, g, e1, e2⟩ := a
  obtain ⟨u, hck⟩ := checkKey_int (P := P) u2 false n
  have hf3 : flat3 (.int k n) = true := rfl
  simp only [dMapUpdate, u1, g, hf3, if_true, hck]
  rcases findNow_int (k := k) (n := n) (es := es) (i := 0) e1 with ⟨j, a, _, e, c', d⟩ | ⟨a, b⟩
  · have hfd : dFind P kt (.int k n) es = some (some j) := by simp only [dFind, u2, a]; rfl
    rw [Nat.sub_zero] at c'
    have hsb : Instr.sameBits 10000 e.key (.int k n) = true := by
      rw [d]
      exact sameBits_int 9999
    simp only [hfd, c', hsb, if_true]
    refine ⟨_, rfl, _, _, get_set_same _ _, fun e' he => ?_, fun m => ?_⟩
    · rcases List.mem_or_eq_of_mem_set he with he | he
      · exact e1 e' he
      · exact ⟨n, by rw [he], by rw [he]⟩
    · rw [List.mem_append, e2 m]
      constructor
      · rintro (⟨e', he, hk⟩ | hm)
        · obtain ⟨i, hi⟩ := List.mem_iff_getElem?.1 he
          by_cases hij : j = i
          · subst hij
            rw [c'] at hi
            cases hi
            rw [d] at hk
            cases hk
            exact ⟨{ e with key := .int k n, val := .bool true }, List.mem_iff_getElem?.2 ⟨j, by rw [List.getElem?_set, if_pos rfl, if_pos (List.getElem?_eq_some_iff.1 c').1]⟩, rfl⟩
          · exact ⟨e', List.mem_iff_getElem?.2 ⟨i, by rw [List.getElem?_set, if_neg hij]; exact hi⟩, hk⟩
        · simp only [List.mem_singleton] at hm
          subst hm
          exact ⟨{ e with key := .int k m, val := .bool true }, List.mem_iff_getElem?.2 ⟨j, by rw [List.getElem?_set, if_pos rfl, if_pos (List.getElem?_eq_some_iff.1 c').1]⟩, rfl⟩
      · rintro ⟨e', he, hk⟩
        rcases List.mem_or_eq_of_mem_set he with he | he
        · exact .inl ⟨e', he, hk⟩
        · rw [he] at hk
          cases hk
          exact .inr (by simp)
  · have hfd : dFind P kt (.int k n) es = some none := by simp only [dFind, u2, a]; rfl
    simp only [hfd]
    refine ⟨_, rfl, _, _, get_set_same _ _, fun e' he => ?_, fun m => ?_⟩
    · rcases List.mem_append.1 he with he | he
      · exact e1 e' he
      · simp only [List.mem_singleton] at he
        exact ⟨n, by rw [he], by rw [he]⟩
    · rw [List.mem_append, e2 m]
      constructor
      · rintro (⟨e', he, hk⟩ | hm)
        · exact ⟨e', by simp [he], hk⟩
        · simp only [List.mem_singleton] at hm
          subst hm
          exact ⟨_, List.mem_append.2 (.inr (List.mem_singleton.2 rfl)), rfl⟩
      · rintro ⟨e', he, hk⟩
        rcases List.mem_append.1 he with he | he
        · exact .inl ⟨e', he, hk⟩
        · simp only [List.mem_singleton] at he
          rw [he] at hk
          cases hk
          exact .inr (by simp)
theorem SetAt.keep {k : IntKind} {h h' : DHeap} {id : Nat} {ks : List Int} (a : SetAt k h id ks) (hg : h'.get id = h.get id) : SetAt k h' id ks := by
  obtain ⟨es, c, g, e⟩ := a
  exact ⟨es, c, hg.trans g, e⟩
theorem SetAt.new {k : IntKind} {h : DHeap} : SetAt k (h.push (.map [] 0)) h.next [] := ⟨[], 0, get_push_same _ _, by simp, by simp⟩
theorem XLoop_cut {nt id : Nat} {c : Code} {K : St → Prop} {Q : DExit → St → Prop} {s : St} (M : St → Prop) (h1 : XLoop P nt c (DBlock id (DThen M Q)) s) (h3 : ∀ s', M s' → K s') : XLoop P nt c (DBlock id (DThen K Q)) s := xblock_cut (c := .loop c) M h1 h3
end Go.D

namespace Go.Proofs.Ytbdljpndncohaaa
open Go.D
set_option maxRecDepth 100000

/-- what gives up with an error -/
def failV (e : Int) : Value := .iface 117 (.agg #[.int .i64 e])
theorem failV_vin {S : Nat → Prop} (e : Int) : VIn S (failV e) := .iface (.agg fun v hv => by simp at hv; subst hv; exact .int _ _)
theorem bd_fail (e : Int) : dBuild Try.prog 117 [(0, .int .i64 e)] = some (.agg #[.int .i64 e]) := dBuild_at plc_117 rfl
theorem must_no {h : DHeap} : DC Try.prog 63 [.int .i64 0] h (.ret (.tuple #[])) h := by
  refine Ct.pure (go_63 (by simp) ?_) (.tuple fun v hv => by simp at hv)
  simp -implicitDefEqProofs (disch:=first|omega|simp only [go_sem,Nat.reduceAdd]) only [go_sem,Int.reduceLT,Int.reduceLE,Int.reduceEq,reduceIte,true_and, c63]
  exact ⟨_, rfl, rfl, .refl h⟩
theorem must_yes {h : DHeap} {e : Int} (he : e ≠ 0) : DC Try.prog 63 [.int .i64 e] h (.pan (failV e)) h := by
  refine Ct.purePan (go_63 (by simp) ?_) (failV_vin e)
  simp -implicitDefEqProofs (disch:=first|omega|simp only [go_sem,Nat.reduceAdd]) only [go_sem,Int.reduceLT,Int.reduceLE,Int.reduceEq,reduceIte,true_and, c63, bd_fail, he]
  exact ⟨rfl, .refl h⟩
theorem all_c {h : DHeap} {v : Value} {l : List Int} (hb : Arg fU8.rep h v l) (hl : l.length ≤ 1048576) :
    Ct Try.prog 61 [v] h fun r h1 => ((walkAt l 0).2 = 0 ∧ ∃ w, r = .ret w ∧ Made fInstr h h1 w (walkAt l 0).1) ∨ ((walkAt l 0).2 ≠ 0 ∧ r = .pan (failV (walkAt l 0).2) ∧ Ext h h1) := by
  refine go_61 (by simp) ?_
  have el : ∀ K, dLen Try.prog #[22] v K = some (.int .i64 (l.length : Nat)) := hb.lens (P := Try.prog) (ts := #[22]) (t := 22) rfl isl_22
  have hbl := bytes_le hb
  simp -implicitDefEqProofs (disch:=first|omega|simp only [go_sem,Nat.reduceAdd]) only [go_sem,Int.reduceLT,Int.reduceLE,Int.reduceEq,reduceIte,true_and, c61]
  refine xloop (σ := Nat × List Instr) (by kernel_rfl) (fun a s => s.df = [] ∧ s.rd = none ∧ s.fr 0 = some v ∧ s.fr 4 = some (.int .i64 (a.1 : Nat)) ∧ (∃ w, s.fr 3 = some w ∧ Made fInstr h s.h w a.2) ∧ a.1 ≤ l.length ∧ a.2.length ≤ a.1 ∧ walkAt l 0 = (a.2 ++ (walkAt l a.1).1, (walkAt l a.1).2)) (fun a => l.length - a.1) (0, []) ?_ ?_
  · simp -implicitDefEqProofs (disch:=first|omega|simp only [go_sem,Nat.reduceAdd]) only [go_sem,Int.reduceLT,Int.reduceLE,Int.reduceEq,reduceIte,true_and]
    exact ⟨rfl, ⟨_, rfl, .nil _ (.refl h)⟩, Nat.zero_le _, Nat.le_refl _, trivial⟩
  · rintro ⟨i, acc⟩ ⟨fr, df, K, rd⟩ K' hK' hX ⟨rfl, hrd, f0, f4, ⟨w, f3, hm⟩, hi, hal, hw⟩
    simp only at hrd f0 f4 f3 hm hi hal hw
    subst hrd
    have hE := hm.ext
    simp -implicitDefEqProofs (disch:=first|omega|simp only [go_sem,Nat.reduceAdd]) only [go_sem,Int.reduceLT,Int.reduceLE,Int.reduceEq,reduceIte,true_and, f0, f4, el]
    refine XIf_dec (fun hc1 => ?_) (fun hc1 => ?_)
    · have hil : i < l.length := by omega
      have hst := walkAt_step hil
      simp -implicitDefEqProofs (disch:=first|omega|simp only [go_sem,Nat.reduceAdd]) only [go_sem,Int.reduceLT,Int.reduceLE,Int.reduceEq,reduceIte,true_and, f0, f4]
      refine ncall (one_c (hb.ext hE) (by omega) (by omega)) ?_
      obtain ⟨x, hx⟩ : ∃ x, (oneT l i).1 = x := ⟨_, rfl⟩
      obtain ⟨K1, hK1⟩ : ∃ K1, K1 = K.push (.row (fInstr.enc x) 0 false) := ⟨_, rfl⟩
      have g : K1.get K.next = some (.row (fInstr.enc x) 0 false) := by rw [hK1]; exact get_push_same _ _
      have lc : cellsAt K1 K.next 0 5 = some (instrV x) := by rw [cellsAt_row g (Nat.le_of_ble_eq_true rfl)]; rfl
      have hm1 : Made fInstr h K1 w acc := hm.on (by rw [hK1]; exact Ext.push1 _ _)
      rw [hx]
      have s5 := store5 (h := K) (x := x)
      rw [← hK1] at s5
      by_cases he : (oneT l i).2.2 = 0
      · obtain ⟨e1, e2, _, e4, e5⟩ := oneT_next he
        have hok := oneT_ok (by omega) hbl he
        rw [hx] at hok
        rw [if_pos he, hx] at hst
        obtain ⟨nx, hnx⟩ : ∃ nx : Nat, (oneT l i).2.1 = nx := ⟨(oneT l i).2.1.toNat, by omega⟩
        rw [hnx] at hst ⊢
        rw [he]
        have hbs : ∀ K : DHeap, dBuildSlice Try.prog 91 1 [(0, instrV x)] K = some (.slice (some ⟨K.next, 0, none⟩) 1 1, K.push (.row (fInstr.enc x) 5 false)) := fun K => bs1_91 rfl
        obtain ⟨w2, h2, e6, m2⟩ := hm1.snoc app_91 (y := x) (cs := fInstr.enc x) (z := 5) rfl rfl hok (by omega) (by decide)
        simp -implicitDefEqProofs (disch:=first|omega|simp only [go_sem,Nat.reduceAdd]) only [go_sem,Int.reduceLT,Int.reduceLE,Int.reduceEq,reduceIte,true_and, s5]
        refine ncall must_no ?_
        simp -implicitDefEqProofs (disch:=first|omega|simp only [go_sem,Nat.reduceAdd]) only [go_sem,Int.reduceLT,Int.reduceLE,Int.reduceEq,reduceIte,true_and, f3, lc, hbs, e6]
        refine hK' (nx, acc ++ [x]) _ ?_ (by simp only; omega)
        refine ⟨by trivial, by trivial, by simp -implicitDefEqProofs (disch:=first|omega|simp only [go_sem,Nat.reduceAdd]) only [go_sem,Int.reduceLT,Int.reduceLE,Int.reduceEq,reduceIte,true_and, f0], by simp -implicitDefEqProofs (disch:=first|omega|simp only [go_sem,Nat.reduceAdd]) only [go_sem,Int.reduceLT,Int.reduceLE,Int.reduceEq,reduceIte,true_and], ⟨w2, by simp -implicitDefEqProofs (disch:=first|omega|simp only [go_sem,Nat.reduceAdd]) only [go_sem,Int.reduceLT,Int.reduceLE,Int.reduceEq,reduceIte,true_and], m2⟩, by simp only; omega, by simp; omega, ?_⟩
        rw [hw, hst]
        simp
      · rw [if_neg he] at hst
        simp -implicitDefEqProofs (disch:=first|omega|simp only [go_sem,Nat.reduceAdd]) only [go_sem,Int.reduceLT,Int.reduceLE,Int.reduceEq,reduceIte,true_and, s5]
        refine ncall_pan (must_yes he) ?_
        refine hX _ _ (by simp) ?_
        simp -implicitDefEqProofs (disch:=first|omega|simp only [go_sem,Nat.reduceAdd]) only [go_sem,Int.reduceLT,Int.reduceLE,Int.reduceEq,reduceIte,true_and]
        refine .inr ⟨?_, ?_, hm1.ext⟩
        · rw [hw, hst]; exact he
        · rw [hw, hst]
    · refine hX _ _ (by simp) ?_
      simp -implicitDefEqProofs (disch:=first|omega|simp only [go_sem,Nat.reduceAdd]) only [go_sem,Int.reduceLT,Int.reduceLE,Int.reduceEq,reduceIte,true_and, f3]
      have := walkAt_end (l := l) (i := i) (by omega)
      refine ⟨_, rfl, .inl ⟨?_, w, rfl, ?_⟩⟩
      · rw [hw, this]
      · rw [hw, this, List.append_nil]; exact hm
theorem caught_c {h : DHeap} {e : Int} : DC Try.prog 60 [failV e] h (.ret (.int .i64 e)) h := by
  refine Ct.pure (go_60 (by simp) ?_) (vin_int _ _)
  simp -implicitDefEqProofs (disch:=first|omega|simp only [go_sem,Nat.reduceAdd]) only [go_sem,Int.reduceLT,Int.reduceLE,Int.reduceEq,reduceIte,true_and, c60, failV, store1_push (v := .int .i64 e) rfl, cell1_push]
  exact ⟨_, rfl, rfl, Ext.push1 _ _⟩
theorem neq_fail {e : Int} {ox oy : Operand} {h : DHeap} : dBinOp Try.prog .neq 20 ox oy (failV e) .nilIface h = .ok (.value (.bool true)) h := by
  kernel_rfl
theorem neq_none {i : Nat} {h : DHeap} : dBinOp Try.prog .neq 20 (T i) (.const .nilIface) .nilIface .nilIface h = .ok (.value (.bool false)) h := by
  kernel_rfl
/-- where nothing was given up -/
theorem dec_ret {h : DHeap} {x y : Value} : DCD Try.prog 59 [x, y] .ret h .ret h := by
  refine DCD_recN (fn := Try.f59) (rs := []) (by kernel_rfl) body_59 (by kernel_rfl) (by kernel_rfl) (n := 8) (Nat.le_of_ble_eq_true rfl) (by kernel_rfl) (.refl h) ?_
  simp only [XOpsR]
  simp -implicitDefEqProofs (disch:=first|omega|simp only [go_sem,Nat.reduceAdd]) only [go_sem,Int.reduceLT,Int.reduceLE,Int.reduceEq,reduceIte,true_and, dBuiltin_recover, neq_none]
  exact ⟨rfl, trivial⟩
/-- where it was -/
theorem dec_pan {h : DHeap} {a b : Nat} {e : Int} {c d : Value} {z y : Nat} (ha : h.get a = some (.row [c] z false)) (hb : h.get b = some (.row [d] y false)) (hab : b ≠ a) :
    DCD Try.prog 59 [.pointer (some ⟨a, 0, none⟩), .pointer (some ⟨b, 0, none⟩)] (.pan (failV e)) h (.recd (failV e)) ((h.set a (.row [.slice none 0 0] z false)).set b (.row [.int .i64 e] y false)) := by
  refine DCD_recN (fn := Try.f59) (rs := []) (by kernel_rfl) body_59 (by kernel_rfl) (by kernel_rfl) (n := 8) (Nat.le_of_ble_eq_true rfl) (by kernel_rfl) ((HStep.set _ _ _).trans (HStep.set _ _ _)) ?_
  simp only [XOpsR]
  have w1 := storeAt_row (o := 0) (vs := [.slice none 0 0]) ha (Nat.le_of_ble_eq_true rfl) rfl
  have w2 := storeAt_row (o := 0) (vs := [.int .i64 e]) ((get_set_other _ _ hab).trans hb : (h.set a (.row (setAt [c] 0 [.slice none 0 0]) z false)).get b = _) (Nat.le_of_ble_eq_true rfl) rfl
  have tc := caught_c (h := h) (e := e)
  simp -implicitDefEqProofs (disch:=first|omega|simp only [go_sem,Nat.reduceAdd]) only [go_sem,Int.reduceLT,Int.reduceLE,Int.reduceEq,reduceIte,true_and, dBuiltin_recover, neq_fail]
  refine ncall tc ?_
  simp -implicitDefEqProofs (disch:=first|omega|simp only [go_sem,Nat.reduceAdd]) only [go_sem,Int.reduceLT,Int.reduceLE,Int.reduceEq,reduceIte,true_and, w1, w2]
  exact ⟨rfl, rfl⟩
end Go.Proofs.Ytbdljpndncohaaa

namespace Go.Proofs.Ytbdljpndncohaaa
open Go.D
set_option maxRecDepth 100000

def targetsOk (xs : List Instr) : Bool := xs.all fun x => !jumpsB x.op || decide (x.imm ∈ xs.map (·.pos))
def decE (l : List Int) : Int := if 512 < l.length then 3 else if (walkAt l 0).2 ≠ 0 then (walkAt l 0).2 else if targetsOk (walkAt l 0).1 then 0 else 131
def decL (l : List Int) : List Instr := if decE l = 0 then (walkAt l 0).1 else []
theorem instr_idx {S : Nat → Prop} {h : DHeap} {v : Value} {l : List Instr} {i : Nat} (hb : Sl fInstr.rep S h v l) (hi : i < l.length) :
    ∃ id o, dIndexAddr Try.prog 91 v (.int .i64 (i : Nat)) = some (.pointer (some ⟨id, o, none⟩)) ∧ cellsAt h id o 5 = some (instrV l[i]) ∧ cellAt h id (o + 0) = some (.int .i64 l[i].pos) ∧ cellAt h id (o + 1) = some (.int .i64 l[i].op) ∧ cellAt h id (o + 4) = some (.int .i64 l[i].imm) := by
  obtain ⟨id, o, g, hs, hat⟩ := hb.idx (P := Try.prog) (t := 91) el_91 (k := .i64) (List.getElem?_eq_getElem hi)
  obtain ⟨a, b, _⟩ := hat.flat
  exact ⟨id, o, g, b, a 0 (by decide), a 1 (by decide), a 4 (by decide)⟩
theorem refBegins_c {h : DHeap} {v : Value} {l : List Instr} {n : Int} (hb : Arg fInstr.rep h v l) (hl : l.length ≤ 1048576) :
    DC Try.prog 58 [v, .int .i64 n] h (.ret (.bool (decide (n ∈ l.map (·.pos))))) h := by
  refine Ct.pure (go_58 (by simp) ?_) (vin_bool _)
  have el : ∀ K, dLen Try.prog #[91] v K = some (.int .i64 (l.length : Nat)) := hb.lens (P := Try.prog) (ts := #[91]) (t := 91) rfl isl_91
  simp -implicitDefEqProofs (disch:=first|omega|simp only [go_sem,Nat.reduceAdd]) only [go_sem,Int.reduceLT,Int.reduceLE,Int.reduceEq,reduceIte,true_and, c58]
  refine xloop (σ := Nat) (by kernel_rfl) (fun i s => s.df = [] ∧ s.h = h ∧ s.fr 0 = some v ∧ s.fr 1 = some (.int .i64 n) ∧ s.fr 5 = some (.int .i64 (i : Nat)) ∧ i ≤ l.length ∧ ∀ j, j < i → ∀ x, l[j]? = some x → x.pos ≠ n) (fun i => l.length - i) 0 ?_ ?_
  · simp -implicitDefEqProofs (disch:=first|omega|simp only [go_sem,Nat.reduceAdd]) only [go_sem,Int.reduceLT,Int.reduceLE,Int.reduceEq,reduceIte,true_and]
    exact ⟨rfl, Nat.zero_le _, fun j hj => absurd hj (Nat.not_lt_zero j)⟩
  · rintro i ⟨fr, df, K, rd⟩ K' hK' hX ⟨rfl, rfl, f0, f1, f5, hi, hn⟩
    simp only at f0 f1 f5
    simp -implicitDefEqProofs (disch:=first|omega|simp only [go_sem,Nat.reduceAdd]) only [go_sem,Int.reduceLT,Int.reduceLE,Int.reduceEq,reduceIte,true_and, f0, f5, el]
    refine XIf_dec (fun hc1 => ?_) (fun hc1 => ?_)
    · have hj : i < l.length := by omega
      obtain ⟨id, o, g, _, c0, _, _⟩ := instr_idx hb hj
      rw [Nat.add_zero] at c0
      have hw1 := wrap_succ hj (by omega)
      simp -implicitDefEqProofs (disch:=first|omega|simp only [go_sem,Nat.reduceAdd]) only [go_sem,Int.reduceLT,Int.reduceLE,Int.reduceEq,reduceIte,true_and, f0, f1, f5, g, c0]
      by_cases he : l[i].pos = n
      · have he' := eq_true he
        simp -implicitDefEqProofs (disch:=first|omega|simp only [go_sem,Nat.reduceAdd]) only [go_sem,Int.reduceLT,Int.reduceLE,Int.reduceEq,reduceIte,true_and, he']
        refine hX _ _ (by simp) ?_
        simp -implicitDefEqProofs (disch:=first|omega|simp only [go_sem,Nat.reduceAdd]) only [go_sem,Int.reduceLT,Int.reduceLE,Int.reduceEq,reduceIte,true_and]
        refine ⟨_, rfl, ?_, .refl _⟩
        rw [decide_eq_true (List.mem_map.2 ⟨l[i], List.getElem_mem hj, he⟩)]
      · simp -implicitDefEqProofs (disch:=first|omega|simp only [go_sem,Nat.reduceAdd]) only [go_sem,Int.reduceLT,Int.reduceLE,Int.reduceEq,reduceIte,true_and, he, f5, hw1]
        refine hK' (i + 1) _ ?_ (by omega)
        refine ⟨by trivial, by trivial, by simp -implicitDefEqProofs (disch:=first|omega|simp only [go_sem,Nat.reduceAdd]) only [go_sem,Int.reduceLT,Int.reduceLE,Int.reduceEq,reduceIte,true_and, f0], by simp -implicitDefEqProofs (disch:=first|omega|simp only [go_sem,Nat.reduceAdd]) only [go_sem,Int.reduceLT,Int.reduceLE,Int.reduceEq,reduceIte,true_and, f1], by simp -implicitDefEqProofs (disch:=first|omega|simp only [go_sem,Nat.reduceAdd]) only [go_sem,Int.reduceLT,Int.reduceLE,Int.reduceEq,reduceIte,true_and], by omega, fun j hj2 x hx => ?_⟩
        by_cases hji : j = i
        · subst hji
          rw [List.getElem?_eq_getElem hj] at hx
          cases hx
          exact he
        · exact hn j (by omega) x hx
    · refine hX _ _ (by simp) ?_
      simp -implicitDefEqProofs (disch:=first|omega|simp only [go_sem,Nat.reduceAdd]) only [go_sem,Int.reduceLT,Int.reduceLE,Int.reduceEq,reduceIte,true_and]
      refine ⟨_, rfl, ?_, .refl _⟩
      rw [decide_eq_false (fun hh => by
        obtain ⟨x, hx, hp⟩ := List.mem_map.1 hh
        obtain ⟨j, hj⟩ := List.mem_iff_getElem?.1 hx
        exact hn j (by have := (List.getElem?_eq_some_iff.1 hj).1; omega) x hj hp)]
/-- so far all jumps go to where an instruction begins -/
def jumpsSo (l : List Instr) (i : Nat) : Prop := ∀ j x, j < i → l[j]? = some x → jumpsB x.op = true → x.imm ∈ l.map (·.pos)
theorem targets_all {l : List Instr} (h : jumpsSo l l.length) : targetsOk l = true := by
  unfold targetsOk
  rw [List.all_eq_true]
  intro x hx
  obtain ⟨j, hj⟩ := List.mem_iff_getElem?.1 hx
  cases hb : jumpsB x.op with
  | false => rfl
  | true => simpa using h j x (List.getElem?_eq_some_iff.1 hj).1 hj hb
theorem targets_bad {l : List Instr} {x : Instr} (hx : x ∈ l) (hb : jumpsB x.op = true) (hm : x.imm ∉ l.map (·.pos)) : targetsOk l = false := by
  unfold targetsOk
  rw [List.all_eq_false]
  exact ⟨x, hx, by simp [hb]; simpa using hm⟩
theorem jumpsSo_succ {l : List Instr} {i : Nat} (hi : i < l.length) (h : jumpsSo l i) (hx : jumpsB l[i].op = true → l[i].imm ∈ l.map (·.pos)) : jumpsSo l (i + 1) := by
  intro j x hj hjx hb
  by_cases hji : j = i
  · subst hji
    rw [List.getElem?_eq_getElem hi] at hjx
    cases hjx
    exact hx hb
  · exact h j x (by omega) hjx hb
theorem refDecode_c {h : DHeap} {v : Value} {l : List Int} (hb : Arg fU8.rep h v l) (hl : l.length ≤ 1048576) :
    Ct Try.prog 41 [v] h fun r h1 => ∃ w, r = .ret (.tuple #[w, .int .i64 (decE l)]) ∧ Ext h h1 ∧ Arg fInstr.rep h1 w (decL l) := by
  refine go_41 (by simp) ?_
  have el : ∀ K, dLen Try.prog #[22] v K = some (.int .i64 (l.length : Nat)) := hb.lens (P := Try.prog) (ts := #[22]) (t := 22) rfl isl_22
  by_cases h0 : (512 : Int) < (l.length : Nat)
  · have h0' := eq_true h0
    have hE : decE l = 3 := by rw [decE, if_pos (by omega)]
    simp -implicitDefEqProofs (disch:=first|omega|simp only [go_sem,Nat.reduceAdd]) only [go_sem,Int.reduceLT,Int.reduceLE,Int.reduceEq,reduceIte,true_and, c41, el, h0']
    refine ⟨_, rfl, _, by rw [hE], .refl _, ?_⟩
    rw [decL, hE]
    exact .nil _ _ _
  have hE0 : decE l = if (walkAt l 0).2 ≠ 0 then (walkAt l 0).2 else if targetsOk (walkAt l 0).1 then 0 else 131 := by rw [decE, if_neg (by omega)]
  simp -implicitDefEqProofs (disch:=first|omega|simp only [go_sem,Nat.reduceAdd]) only [go_sem,Int.reduceLT,Int.reduceLE,Int.reduceEq,reduceIte,true_and, c41, el, h0]
  refine ncall_ct (refWalk_c hb hl) ?_
  rintro r h1 ⟨w, rfl, hm⟩
  have hlen := walkAt_len (l := l) (n := l.length) (i := 0) (by omega)
  obtain ⟨xs, hxs⟩ : ∃ xs, (walkAt l 0).1 = xs := ⟨_, rfl⟩
  obtain ⟨e, he⟩ : ∃ e, (walkAt l 0).2 = e := ⟨_, rfl⟩
  rw [hxs] at hm hlen
  rw [hxs, he] at hE0
  rw [he]
  have hEx := hm.ext
  by_cases h1e : e = 0
  case neg =>
    rw [if_pos h1e] at hE0
    simp -implicitDefEqProofs (disch:=first|omega|simp only [go_sem,Nat.reduceAdd]) only [go_sem,Int.reduceLT,Int.reduceLE,Int.reduceEq,reduceIte,true_and, XEnd, h1e]
    refine ⟨_, rfl, _, by rw [hE0], hEx, ?_⟩
    rw [decL, hE0, if_neg h1e]
    exact .nil _ _ _
  rw [if_neg (fun hh => hh h1e)] at hE0
  have h1e' := eq_true h1e
  have elw : ∀ K, dLen Try.prog #[91] w K = some (.int .i64 (xs.length : Nat)) := hm.arg.lens (P := Try.prog) (ts := #[91]) (t := 91) rfl isl_91
  simp -implicitDefEqProofs (disch:=first|omega|simp only [go_sem,Nat.reduceAdd]) only [go_sem,Int.reduceLT,Int.reduceLE,Int.reduceEq,reduceIte,true_and, XEnd, h1e']
  refine xloop (σ := Nat) (by kernel_rfl) (fun i s => s.df = [] ∧ s.h = h1 ∧ s.fr 4 = some w ∧ s.fr 6 = some (.int .i64 (i : Nat)) ∧ i ≤ xs.length ∧ jumpsSo xs i) (fun i => xs.length - i) 0 ?_ ?_
  · simp -implicitDefEqProofs (disch:=first|omega|simp only [go_sem,Nat.reduceAdd]) only [go_sem,Int.reduceLT,Int.reduceLE,Int.reduceEq,reduceIte,true_and]
    exact ⟨rfl, Nat.zero_le _, fun j x hj => absurd hj (Nat.not_lt_zero j)⟩
  · rintro i ⟨fr, df, K, rd⟩ K' hK' hX ⟨rfl, rfl, f4, f6, hi, hso⟩
    simp only at f4 f6
    simp -implicitDefEqProofs (disch:=first|omega|simp only [go_sem,Nat.reduceAdd]) only [go_sem,Int.reduceLT,Int.reduceLE,Int.reduceEq,reduceIte,true_and, f4, f6, elw]
    refine XIf_dec (fun hc1 => ?_) (fun hc1 => ?_)
    · have hj : i < xs.length := by omega
      obtain ⟨id, o, g, _, _, c1, c4⟩ := instr_idx hm.arg hj
      have hw1 := wrap_succ hj (by omega)
      simp -implicitDefEqProofs (disch:=first|omega|simp only [go_sem,Nat.reduceAdd]) only [go_sem,Int.reduceLT,Int.reduceLE,Int.reduceEq,reduceIte,true_and, f4, f6, g, c1]
      refine ncall refJumps_c ?_
      by_cases hjb : jumpsB xs[i].op = true
      case neg =>
        have hjb' : jumpsB xs[i].op = false := by simpa using hjb
        simp -implicitDefEqProofs (disch:=first|omega|simp only [go_sem,Nat.reduceAdd]) only [go_sem,Int.reduceLT,Int.reduceLE,Int.reduceEq,reduceIte,true_and, hjb', dPick_t, dPick_f, f6, hw1]
        refine hK' (i + 1) _ ?_ (by omega)
        exact ⟨by trivial, by trivial, by simp -implicitDefEqProofs (disch:=first|omega|simp only [go_sem,Nat.reduceAdd]) only [go_sem,Int.reduceLT,Int.reduceLE,Int.reduceEq,reduceIte,true_and, f4], by simp -implicitDefEqProofs (disch:=first|omega|simp only [go_sem,Nat.reduceAdd]) only [go_sem,Int.reduceLT,Int.reduceLE,Int.reduceEq,reduceIte,true_and], by omega, jumpsSo_succ hj hso fun hh => absurd hh hjb⟩
      simp -implicitDefEqProofs (disch:=first|omega|simp only [go_sem,Nat.reduceAdd]) only [go_sem,Int.reduceLT,Int.reduceLE,Int.reduceEq,reduceIte,true_and, hjb, f4, f6, g, c4]
      refine ncall (refBegins_c hm.arg (by omega)) ?_
      by_cases hin : xs[i].imm ∈ xs.map (·.pos)
      · rw [decide_eq_true hin]
        simp -implicitDefEqProofs (disch:=first|omega|simp only [go_sem,Nat.reduceAdd]) only [go_sem,Int.reduceLT,Int.reduceLE,Int.reduceEq,reduceIte,true_and, dPick_t, dPick_f, f6, hw1]
        refine hK' (i + 1) _ ?_ (by omega)
        exact ⟨by trivial, by trivial, by simp -implicitDefEqProofs (disch:=first|omega|simp only [go_sem,Nat.reduceAdd]) only [go_sem,Int.reduceLT,Int.reduceLE,Int.reduceEq,reduceIte,true_and, f4], by simp -implicitDefEqProofs (disch:=first|omega|simp only [go_sem,Nat.reduceAdd]) only [go_sem,Int.reduceLT,Int.reduceLE,Int.reduceEq,reduceIte,true_and], by omega, jumpsSo_succ hj hso fun _ => hin⟩
      · rw [decide_eq_false hin]
        simp -implicitDefEqProofs (disch:=first|omega|simp only [go_sem,Nat.reduceAdd]) only [go_sem,Int.reduceLT,Int.reduceLE,Int.reduceEq,reduceIte,true_and, dPick_t, dPick_f]
        rw [targets_bad (List.getElem_mem hj) hjb hin] at hE0
        simp only [Bool.false_eq_true, if_false] at hE0
        refine hX _ _ (by simp) ?_
        simp -implicitDefEqProofs (disch:=first|omega|simp only [go_sem,Nat.reduceAdd]) only [go_sem,Int.reduceLT,Int.reduceLE,Int.reduceEq,reduceIte,true_and]
        refine ⟨_, rfl, _, by rw [hE0], hEx, ?_⟩
        rw [decL, hE0]
        exact .nil _ _ _
    · obtain rfl : i = xs.length := by omega
      rw [targets_all hso] at hE0
      simp only [if_true] at hE0
      refine hX _ _ (by simp) ?_
      simp -implicitDefEqProofs (disch:=first|omega|simp only [go_sem,Nat.reduceAdd]) only [go_sem,Int.reduceLT,Int.reduceLE,Int.reduceEq,reduceIte,true_and, f4]
      refine ⟨_, rfl, _, by rw [hE0], hEx, ?_⟩
      rw [decL, hE0, if_pos rfl, hxs]
      exact hm.arg
theorem jumps_c {h : DHeap} {x : Instr} : DC Try.prog 62 [instrV x] h (.ret (.bool (jumpsB x.op))) h := by
  obtain ⟨x1, x2, x3, x4, x5⟩ := x
  refine Ct.pure (go_62 (by simp) ?_) (vin_bool _)
  obtain ⟨H, hH⟩ : ∃ H, H = h.push (.row [.int .i64 x1, .int .i64 x2, .int .i64 x3, .int .i64 x4, .int .i64 x5] 0 false) := ⟨_, rfl⟩
  have hE : Ext h H := by rw [hH]; exact Ext.push1 _ _
  have g : H.get h.next = some (.row [.int .i64 x1, .int .i64 x2, .int .i64 x3, .int .i64 x4, .int .i64 x5] 0 false) := by rw [hH]; exact get_push_same _ _
  have a1 : cellAt H h.next 1 = some (.int .i64 x2) := cellAt_row g
  simp -implicitDefEqProofs (disch:=first|omega|simp only [go_sem,Nat.reduceAdd]) only [go_sem,Int.reduceLT,Int.reduceLE,Int.reduceEq,reduceIte,true_and, c62, ← hH, a1]
  clear hH
  (repeat' first | (refine NStp_split (fun hb => ?_) (fun hb => ?_) <;> (try simp only [Bool.not_eq_true', Bool.not_eq_false'] at hb) <;> simp -implicitDefEqProofs (disch:=first|omega|simp only [go_sem,Nat.reduceAdd]) only [go_sem,Int.reduceLT,Int.reduceLE,Int.reduceEq,reduceIte,true_and, dPick_t, dPick_f, hb, a1]) | (refine XIf_split (fun hb => ?_) (fun hb => ?_) <;> (try simp only [Bool.not_eq_true', Bool.not_eq_false'] at hb) <;> simp -implicitDefEqProofs (disch:=first|omega|simp only [go_sem,Nat.reduceAdd]) only [go_sem,Int.reduceLT,Int.reduceLE,Int.reduceEq,reduceIte,true_and, dPick_t, dPick_f, hb, a1]))
  all_goals exact ⟨_, rfl, by simp_all [jumpsB], hE⟩
end Go.Proofs.Ytbdljpndncohaaa
