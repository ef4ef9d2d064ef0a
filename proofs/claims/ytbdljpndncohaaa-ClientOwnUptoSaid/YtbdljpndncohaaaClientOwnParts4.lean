/-
ClientOwn: for every input of bulk at most 1048576 the law returns true, and the input reads as it did. Conditions: none.
-/
import Derived.Test.YtbdljpndncohaaaRows
import Derived.WalkKit
import Derived.ProofKit
import Derived.OpenShut
import Derived.JoinedCond
import Derived.Test.YtbdljpndncohaaaBase1
import Derived.Test.YtbdljpndncohaaaBase2
import Derived.Test.YtbdljpndncohaaaClientOwnParts1
import Derived.Test.YtbdljpndncohaaaClientOwnParts2
import Derived.Test.YtbdljpndncohaaaClientOwnParts3
set_option linter.unusedSimpArgs false
set_option linter.unusedVariables false
namespace Go.Proofs.Ytbdljpndncohaaa
open Go.D
set_option maxRecDepth 100000

def subT (c : Cl) (t : Txn) : Txn := { normT t with ses := c.ses, req := c.req + 1 }
def submitE (c : Cl) (t : Txn) (k : Int) : Int := if c.pend then 251 else if k < 0 ∨ c.reps ≤ k then 1 else if 1099511627776 ≤ c.req then 6 else txnE (subT c t)
def submitC (c : Cl) (t : Txn) (k : Int) : Cl := { c with t := subT c t, req := c.req + 1, pend := true, wait := 0, turn := k }
theorem bytes_in {S : Nat → Prop} {h : DHeap} {v : Value} {l : List Int} (x : Sl fU8.rep S h v l) : ∀ j, 0 ≤ l.getD j 0 ∧ l.getD j 0 ≤ 255 := fun j => by
  by_cases hj : j < l.length
  · have := x.ok _ (List.getElem_mem hj)
    rw [List.getD_eq_getElem?_getD, List.getElem?_eq_getElem hj]
    exact this
  · rw [List.getD_eq_getElem?_getD, List.getElem?_eq_none (by omega)]
    exact ⟨by decide, by decide⟩
theorem TxLen.sub {c : Cl} {t : Txn} (h : TxLen t) : TxLen (subT c t) := ⟨h.c, h.a, Nat.le_trans (keysN_len _) h.r, Nat.le_trans (keysN_len _) h.w⟩
theorem none_no {S : Nat → Prop} {h : DHeap} {B : Nat} {c : Cl} {vc va vr vw vv : Value} (x : ClAt S h B c vc va vr vw vv) (hr : c.reps ≠ 0) : DC Try.prog 31 [.pointer (some ⟨B, 0, none⟩)] h (.ret (.bool false)) h := by
  have := none_at (h := h) (B := B) (n := c.reps) (x.cell 1)
  rwa [decide_eq_false hr] at this
theorem ClAt.setO {S : Nat → Prop} {h : DHeap} {B id : Nat} {c : Cl} {vc va vr vw vv : Value} {o : DObj} (x : ClAt S h B c vc va vr vw vv) (hb : B ≠ id) (hs : ∀ i, S i → i ≠ id) : ClAt S (h.set id o) B c vc va vr vw vv :=
  ⟨(get_set_other _ _ hb).trans x.row, x.tx.mono fun i hi => ⟨hi, get_set_other _ _ (hs i hi)⟩, x.lv.mono fun i hi => ⟨hi, get_set_other _ _ (hs i hi)⟩, x.lt, x.inS⟩
theorem ClAt.weak {S S' : Nat → Prop} {h : DHeap} {B : Nat} {c : Cl} {vc va vr vw vv : Value} (x : ClAt S h B c vc va vr vw vv) (m : ∀ i, S i → S' i) (hin : ∀ i, S' i → i < h.next ∧ i ≠ B) : ClAt S' h B c vc va vr vw vv :=
  ⟨x.row, x.tx.mono fun i hi => ⟨m i hi, rfl⟩, x.lv.mono fun i hi => ⟨m i hi, rfl⟩, x.lt, hin⟩
set_option maxHeartbeats 2000000 in
theorem submit_w {S : Nat → Prop} {h : DHeap} {B : Nat} {c : Cl} {uc ua ur uw uv vc va vr vw : Value} {t : Txn} {k : Int} (x : ClAt S h B c uc ua ur uw uv) (hr : c.reps ≠ 0) (hreq : 0 ≤ c.req) (y : TxV (InH h) h t vc va vr vw) (hl : TxLen t) :
    Ct Try.prog 11 [.pointer (some ⟨B, 0, none⟩), txnV t.ses t.req vc va vr vw, .int .i64 k] h fun r h1 =>
      (submitE c t k ≠ 0 ∧ r = .ret (.tuple #[askV0, .int .i64 (submitE c t k)]) ∧ Ext h h1) ∨
      (submitE c t k = 0 ∧ Keep B h h1 ∧ ∃ n1 vc' va' vr' vw' wc wa wr ww, h.next ≤ n1 ∧ n1 ≤ h1.next ∧ r = .ret (.tuple #[.agg (askL k (subT c t).ses (subT c t).req wc wa wr ww false nilV 0).toArray, .int .i64 0]) ∧ ClAt (fun i => S i ∨ (h.next ≤ i ∧ i < n1)) h1 B (submitC c t k) vc' va' vr' vw' uv ∧ TxW (fun i => n1 ≤ i ∧ i < h1.next) h1 (subT c t) wc wa wr ww) := by
  refine go_11 (by simp) ?_
  have hvc := y.c.cells1
  have hva := y.a.cells1
  have hvr := y.r.cells1
  have hvw := y.w.cells1
  obtain ⟨H, hH⟩ : ∃ H, H = (h.push (.row [.int .i64 t.ses, .int .i64 t.req, vc, va, vr, vw] 0 false)).push (.row askL0 0 false) := ⟨_, rfl⟩
  have hE : Ext h H := by rw [hH]; exact (Ext.push1 _ _).push _
  have hHn : H.next = h.next + 2 := by rw [hH]; rfl
  have ga : H.get h.next = some (.row [.int .i64 t.ses, .int .i64 t.req, vc, va, vr, vw] 0 false) := by rw [hH]; exact get_p1
  have gb : H.get (h.next + 1) = some (.row askL0 0 false) := by rw [hH]; exact get_push_same _ _
  have ss := store_self gb rfl
  have xH := x.ext hE
  have xlt := x.lt
  have fail : ∀ {e : Int} {fr : Fr}, submitE c t k = e → e ≠ 0 → fr 6 = some (.pointer (some ⟨h.next + 1, 0, none⟩)) → fr 7 = some (.int .i64 e) → ∀ M, Ext h M → M.get (h.next + 1) = some (.row askL0 0 false) → ∃ v, dResults Try.prog [.cell 6 36, .tmp 7] fr M = some v ∧
      ((submitE c t k ≠ 0 ∧ DEnd.ret v = .ret (.tuple #[askV0, .int .i64 (submitE c t k)]) ∧ Ext h M) ∨
      (submitE c t k = 0 ∧ Keep B h M ∧ ∃ n1 vc' va' vr' vw' wc wa wr ww, h.next ≤ n1 ∧ n1 ≤ M.next ∧ DEnd.ret v = .ret (.tuple #[.agg (askL k (subT c t).ses (subT c t).req wc wa wr ww false nilV 0).toArray, .int .i64 0]) ∧ ClAt (fun i => S i ∨ (h.next ≤ i ∧ i < n1)) M B (submitC c t k) vc' va' vr' vw' uv ∧ TxW (fun i => n1 ≤ i ∧ i < M.next) M (subT c t) wc wa wr ww)) := fun {e fr} he h0 f6 f7 M hM gM =>
    ret_at (res_ct (n := 10) f6 f7 (fun _ => ld_36) (row_cells gM rfl)) (.inl ⟨he ▸ h0, by rw [he], hM⟩)
  simp -implicitDefEqProofs (disch:=first|omega|simp only [go_sem,Nat.reduceAdd]) only [go_sem,Int.reduceLT,Int.reduceLE,Int.reduceEq,reduceIte,true_and, c11, next_push, ← hH]
  refine ncall (none_no xH hr) ?_
  cases hp : c.pend with
  | true =>
    simp -implicitDefEqProofs (disch:=first|omega|simp only [go_sem,Nat.reduceAdd]) only [go_sem,Int.reduceLT,Int.reduceLE,Int.reduceEq,reduceIte,true_and, xH.cell, hp, bd_ask0, ss]
    exact fail (by rw [submitE, hp, if_pos rfl]) (by decide) (by simp -implicitDefEqProofs (disch:=first|omega|simp only [go_sem,Nat.reduceAdd]) only [go_sem,Int.reduceLT,Int.reduceLE,Int.reduceEq,reduceIte,true_and]) (by simp -implicitDefEqProofs (disch:=first|omega|simp only [go_sem,Nat.reduceAdd]) only [go_sem,Int.reduceLT,Int.reduceLE,Int.reduceEq,reduceIte,true_and]) H hE gb
  | false =>
  have hS0 : submitE c t k = if k < 0 ∨ c.reps ≤ k then 1 else if 1099511627776 ≤ c.req then 6 else txnE (subT c t) := by rw [submitE, hp]; rfl
  simp -implicitDefEqProofs (disch:=first|omega|simp only [go_sem,Nat.reduceAdd]) only [go_sem,Int.reduceLT,Int.reduceLE,Int.reduceEq,reduceIte,true_and, xH.cell, hp]
  by_cases k1 : k < 0
  · have k1' := eq_true k1
    simp -implicitDefEqProofs (disch:=first|omega|simp only [go_sem,Nat.reduceAdd]) only [go_sem,Int.reduceLT,Int.reduceLE,Int.reduceEq,reduceIte,true_and, k1', dPick_t, dPick_f, bd_ask0, ss]
    exact fail (by rw [hS0, if_pos (.inl k1)]) (by decide) (by simp -implicitDefEqProofs (disch:=first|omega|simp only [go_sem,Nat.reduceAdd]) only [go_sem,Int.reduceLT,Int.reduceLE,Int.reduceEq,reduceIte,true_and]) (by simp -implicitDefEqProofs (disch:=first|omega|simp only [go_sem,Nat.reduceAdd]) only [go_sem,Int.reduceLT,Int.reduceLE,Int.reduceEq,reduceIte,true_and]) H hE gb
  by_cases k2 : c.reps ≤ k
  · have k2' := eq_true k2
    simp -implicitDefEqProofs (disch:=first|omega|simp only [go_sem,Nat.reduceAdd]) only [go_sem,Int.reduceLT,Int.reduceLE,Int.reduceEq,reduceIte,true_and, k1, xH.cell, k2', dPick_t, dPick_f, bd_ask0, ss]
    exact fail (by rw [hS0, if_pos (.inr k2)]) (by decide) (by simp -implicitDefEqProofs (disch:=first|omega|simp only [go_sem,Nat.reduceAdd]) only [go_sem,Int.reduceLT,Int.reduceLE,Int.reduceEq,reduceIte,true_and]) (by simp -implicitDefEqProofs (disch:=first|omega|simp only [go_sem,Nat.reduceAdd]) only [go_sem,Int.reduceLT,Int.reduceLE,Int.reduceEq,reduceIte,true_and]) H hE gb
  rw [if_neg (by omega)] at hS0
  by_cases k3 : 1099511627776 ≤ c.req
  · have k3' := eq_true k3
    simp -implicitDefEqProofs (disch:=first|omega|simp only [go_sem,Nat.reduceAdd]) only [go_sem,Int.reduceLT,Int.reduceLE,Int.reduceEq,reduceIte,true_and, k1, xH.cell, k2, k3', dPick_t, dPick_f, bd_ask0, ss]
    exact fail (by rw [hS0, if_pos k3]) (by decide) (by simp -implicitDefEqProofs (disch:=first|omega|simp only [go_sem,Nat.reduceAdd]) only [go_sem,Int.reduceLT,Int.reduceLE,Int.reduceEq,reduceIte,true_and]) (by simp -implicitDefEqProofs (disch:=first|omega|simp only [go_sem,Nat.reduceAdd]) only [go_sem,Int.reduceLT,Int.reduceLE,Int.reduceEq,reduceIte,true_and]) H hE gb
  rw [if_neg k3] at hS0
  have hca0 : cellsAt H h.next 0 6 = some (txnV t.ses t.req vc va vr vw) := row_cells ga rfl
  simp -implicitDefEqProofs (disch:=first|omega|simp only [go_sem,Nat.reduceAdd]) only [go_sem,Int.reduceLT,Int.reduceLE,Int.reduceEq,reduceIte,true_and, k1, xH.cell, k2, k3, dPick_t, dPick_f, hca0]
  refine ncall_ct (normal_c (y.ext hE) hl) ?_
  rintro r H1 ⟨vc', va', vr', vw', rfl, hE1, z⟩
  have hE1n := hE1.next
  have ga1 := (hE1.get _ (by omega)).trans ga
  have gb1 := (hE1.get _ (by omega)).trans gb
  have x1 := xH.ext hE1
  have hvc' := z.c.cells1
  have hva' := z.a.cells1
  have hvr' := z.r.cells1
  have hvw' := z.w.cells1
  have sa1 := storeAll (vs := [.int .i64 t.ses, .int .i64 t.req, vc', va', vr', vw']) ga1 rfl (z.one _ _)
  simp -implicitDefEqProofs (disch:=first|omega|simp only [go_sem,Nat.reduceAdd]) only [go_sem,Int.reduceLT,Int.reduceLE,Int.reduceEq,reduceIte,true_and, XEnd, sa1]
  have hwq : IntKind.i64.wrap (c.req + 1) = c.req + 1 := wrap_i64_in (by omega) (by omega)
  have y1 : ∀ o, ClAt S (H1.set h.next o) B c uc ua ur uw uv := fun o => x1.setO (by omega) fun i hi => by have := (x.inS i hi).1; omega
  have hs1 : storeAt (H1.set h.next (.row [.int .i64 t.ses, .int .i64 t.req, vc', va', vr', vw'] 0 false)) h.next 0 [.int .i64 c.ses] = some (H1.set h.next (.row [.int .i64 c.ses, .int .i64 t.req, vc', va', vr', vw'] 0 false)) := by
    rw [store_cell rfl rfl (by simp) rfl (get_set_same _ _), set_set]
    rfl
  have hs2 : storeAt (H1.set h.next (.row [.int .i64 c.ses, .int .i64 t.req, vc', va', vr', vw'] 0 false)) h.next 1 [.int .i64 (c.req + 1)] = some (H1.set h.next (.row [.int .i64 c.ses, .int .i64 (c.req + 1), vc', va', vr', vw'] 0 false)) := by
    rw [store_cell rfl rfl (by simp) rfl (get_set_same _ _), set_set]
    rfl
  refine dr_11_0 ?_
  simp -implicitDefEqProofs (disch:=first|omega|simp only [go_sem,Nat.reduceAdd]) only [go_sem,Int.reduceLT,Int.reduceLE,Int.reduceEq,reduceIte,true_and, l11_0, (y1 _).cell, hwq, hs1, hs2]
  refine ⟨⟨XSt1_at (i := 7) (j := 10) rfl rfl rfl ?_, trivial⟩, ?_⟩
  · rw [if_neg (by decide)]
    exact Ld_on (p := .pointer (some ⟨B, 2, none⟩)) (by simp -implicitDefEqProofs (disch:=first|omega|simp only [go_sem,Nat.reduceAdd]) only [go_sem,Int.reduceLT,Int.reduceLE,Int.reduceEq,reduceIte,true_and]) (by simp -implicitDefEqProofs (disch:=first|omega|simp only [go_sem,Nat.reduceAdd]) only [go_sem,Int.reduceLT,Int.reduceLE,Int.reduceEq,reduceIte,true_and]) (ld_2.trans ((y1 _).cell 2))
  obtain ⟨K2, hK2⟩ : ∃ K2, K2 = H1.set h.next (.row [.int .i64 c.ses, .int .i64 (c.req + 1), vc', va', vr', vw'] 0 false) := ⟨_, rfl⟩
  rw [← hK2]
  have x2 : ClAt S K2 B c uc ua ur uw uv := by rw [hK2]; exact y1 _
  have gaK : K2.get h.next = some (.row [.int .i64 (subT c t).ses, .int .i64 (subT c t).req, vc', va', vr', vw'] 0 false) := by rw [hK2]; exact get_set_same _ _
  have gbK : K2.get (h.next + 1) = some (.row askL0 0 false) := by rw [hK2, get_set_other _ _ (by omega)]; exact gb1
  have hEK : Ext h K2 := by rw [hK2]; exact (hE.trans hE1).set (by omega)
  have hKn : K2.next = H1.next := by rw [hK2]; rfl
  have z2 : TxV (fun i => H.next ≤ i ∧ i < K2.next) K2 (subT c t) vc' va' vr' vw' := by
    have : TxV (fun i => H.next ≤ i ∧ i < K2.next) K2 (normT t) vc' va' vr' vw' := z.mono fun i hi => ⟨⟨hi.1, by rw [hKn]; exact hi.2⟩, by rw [hK2, get_set_other _ _ (by have := hi.1; omega)]⟩
    exact ⟨this.c, this.a, this.r, this.w⟩
  have z2a : TxV (InH K2) K2 (subT c t) vc' va' vr' vw' := z2.mono fun i hi => ⟨hi.2, rfl⟩
  have hlS : TxLen (subT c t) := hl.sub
  have hca2 : cellsAt K2 h.next 0 6 = some (txnV (subT c t).ses (subT c t).req vc' va' vr' vw') := row_cells gaK rfl
  have ss2 := store_self gbK rfl
  simp -implicitDefEqProofs (disch:=first|omega|simp only [go_sem,Nat.reduceAdd]) only [go_sem,Int.reduceLT,Int.reduceLE,Int.reduceEq,reduceIte,true_and, hca2]
  refine ncall (checkT_c z2a.c z2a.a z2a.r z2a.w hlS.c (bytes_in z2a.c)) ?_
  by_cases he : txnE (subT c t) = 0
  case neg =>
    simp -implicitDefEqProofs (disch:=first|omega|simp only [go_sem,Nat.reduceAdd]) only [go_sem,Int.reduceLT,Int.reduceLE,Int.reduceEq,reduceIte,true_and, he, bd_ask0, ss2]
    exact fail hS0 he (by simp -implicitDefEqProofs (disch:=first|omega|simp only [go_sem,Nat.reduceAdd]) only [go_sem,Int.reduceLT,Int.reduceLE,Int.reduceEq,reduceIte,true_and]) (by simp -implicitDefEqProofs (disch:=first|omega|simp only [go_sem,Nat.reduceAdd]) only [go_sem,Int.reduceLT,Int.reduceLE,Int.reduceEq,reduceIte,true_and]) K2 hEK gbK
  have he' := eq_true he
  simp -implicitDefEqProofs (disch:=first|omega|simp only [go_sem,Nat.reduceAdd]) only [go_sem,Int.reduceLT,Int.reduceLE,Int.reduceEq,reduceIte,true_and, he']
  have hone : [.int .i64 (subT c t).ses, .int .i64 (subT c t).req, vc', va', vr', vw'].all Value.oneCell' = true := z2.one _ _
  obtain ⟨cA, hcA⟩ : ∃ cA : Cl, cA = { c with t := subT c t } := ⟨_, rfl⟩
  obtain ⟨cB, hcB⟩ : ∃ cB : Cl, cB = { cA with req := (subT c t).req } := ⟨_, rfl⟩
  obtain ⟨cC, hcC⟩ : ∃ cC : Cl, cC = { cB with pend := true } := ⟨_, rfl⟩
  obtain ⟨cD, hcD⟩ : ∃ cD : Cl, cD = { cC with wait := 0 } := ⟨_, rfl⟩
  have hb1 : storeAt K2 B 4 [.int .i64 (subT c t).ses, .int .i64 (subT c t).req, vc', va', vr', vw'] = some (K2.set B (.row (clL cA vc' va' vr' vw' uv) 0 false)) := by
    rw [storeAt_row x2.row (Nat.le_of_ble_eq_true rfl) hone, hcA]
    rfl
  have hb2 : storeAt (K2.set B (.row (clL cA vc' va' vr' vw' uv) 0 false)) B 2 [.int .i64 (subT c t).req] = some (K2.set B (.row (clL cB vc' va' vr' vw' uv) 0 false)) := by
    rw [store_cell rfl rfl (Nat.le_of_ble_eq_true rfl) rfl (get_set_same _ _), set_set, hcB]
    rfl
  have hb3 : storeAt (K2.set B (.row (clL cB vc' va' vr' vw' uv) 0 false)) B 3 [.bool true] = some (K2.set B (.row (clL cC vc' va' vr' vw' uv) 0 false)) := by
    rw [store_cell rfl rfl (Nat.le_of_ble_eq_true rfl) rfl (get_set_same _ _), set_set, hcC]
    rfl
  have hb4 : storeAt (K2.set B (.row (clL cC vc' va' vr' vw' uv) 0 false)) B 10 [.int .i64 0] = some (K2.set B (.row (clL cD vc' va' vr' vw' uv) 0 false)) := by
    rw [store_cell rfl rfl (Nat.le_of_ble_eq_true rfl) rfl (get_set_same _ _), set_set, hcD]
    rfl
  have hb5 : storeAt (K2.set B (.row (clL cD vc' va' vr' vw' uv) 0 false)) B 11 [.int .i64 k] = some (K2.set B (.row (clL (submitC c t k) vc' va' vr' vw' uv) 0 false)) := by
    rw [store_cell rfl rfl (Nat.le_of_ble_eq_true rfl) rfl (get_set_same _ _), set_set, hcD, hcC, hcB, hcA]
    rfl
  refine dr_11_1 ?_
  simp -implicitDefEqProofs (disch:=first|omega|simp only [go_sem,Nat.reduceAdd]) only [go_sem,Int.reduceLT,Int.reduceLE,Int.reduceEq,reduceIte,true_and, l11_1, hca2, cellAt_row gaK, hb1, hb2, hb3, hb4, hb5]
  refine ⟨⟨XSt1_at (i := 7) (j := 11) rfl rfl rfl ?_, trivial⟩, ?_⟩
  · rw [if_neg (by decide)]
    exact Ld_on (p := .pointer (some ⟨h.next, 1, none⟩)) (by simp -implicitDefEqProofs (disch:=first|omega|simp only [go_sem,Nat.reduceAdd]) only [go_sem,Int.reduceLT,Int.reduceLE,Int.reduceEq,reduceIte,true_and]) (by simp -implicitDefEqProofs (disch:=first|omega|simp only [go_sem,Nat.reduceAdd]) only [go_sem,Int.reduceLT,Int.reduceLE,Int.reduceEq,reduceIte,true_and]) (ld_2.trans (cellAt_row ((get_set_other _ _ (by omega)).trans gaK)))
  obtain ⟨M, hM⟩ : ∃ M, M = K2.set B (.row (clL (submitC c t k) vc' va' vr' vw' uv) 0 false) := ⟨_, rfl⟩
  rw [← hM]
  have hMn : M.next = K2.next := by rw [hM]; rfl
  have xM : ClAt (fun i => S i ∨ (H.next ≤ i ∧ i < M.next)) M B (submitC c t k) vc' va' vr' vw' uv := by
    refine ⟨by rw [hM]; exact get_set_same _ _, z2.mono fun i hi => ⟨.inr ⟨hi.1, by omega⟩, ?_⟩, x2.lv.mono fun i hi => ⟨.inl hi, ?_⟩, by rw [hMn]; exact x2.lt, fun i hi => ?_⟩
    · rw [hM, get_set_other _ _ (by omega)]
    · rw [hM, get_set_other _ _ (x.inS i hi).2]
    · rcases hi with hi | hi
      · have := x.inS i hi
        exact ⟨by omega, this.2⟩
      · exact ⟨hi.2, by omega⟩
  refine ncall_ct (ask_w xM hlS) ?_
  rintro r F ⟨wc, wa, wr, ww, rfl, hEF, q⟩
  have hFn := hEF.next
  have gbF : F.get (h.next + 1) = some (.row askL0 0 false) := (hEF.get _ (by omega)).trans (by rw [hM, get_set_other _ _ (by omega)]; exact gbK)
  have saF := storeAll (vs := askL k (subT c t).ses (subT c t).req wc wa wr ww false nilV 0) gbF rfl (ask_one q.v (.nil fKey.rep NoS F))
  have hwc := q.v.c.cells1
  have hwa := q.v.a.cells1
  have hwr := q.v.r.cells1
  have hww := q.v.w.cells1
  have hr2 : (Value.agg (askL (submitC c t k).turn (submitC c t k).t.ses (submitC c t k).t.req wc wa wr ww false nilV 0).toArray) = .agg (askL k (subT c t).ses (subT c t).req wc wa wr ww false nilV 0).toArray := rfl
  rw [hr2]
  simp -implicitDefEqProofs (disch:=first|omega|simp only [go_sem,Nat.reduceAdd]) only [go_sem,Int.reduceLT,Int.reduceLE,Int.reduceEq,reduceIte,true_and, XEnd, saF]
  refine ret_at (res_ct (n := 10) (by simp -implicitDefEqProofs (disch:=first|omega|simp only [go_sem,Nat.reduceAdd]) only [go_sem,Int.reduceLT,Int.reduceLE,Int.reduceEq,reduceIte,true_and]) (by simp -implicitDefEqProofs (disch:=first|omega|simp only [go_sem,Nat.reduceAdd]) only [go_sem,Int.reduceLT,Int.reduceLE,Int.reduceEq,reduceIte,true_and]) (fun _ => ld_36) (row_cells (get_set_same _ _) rfl)) (.inr ⟨hS0.trans he, ?_, M.next, vc', va', vr', vw', wc, wa, wr, ww, by omega, hFn, rfl, ?_, ?_⟩)
  · refine ⟨by show h.next ≤ F.next; omega, ?_, fun i hi hb => ?_⟩
    · exact hEF.ng.trans (by rw [hM]; exact hEK.ng)
    · rw [get_set_other _ _ (by omega), hEF.get i (by omega), hM, get_set_other _ _ hb]
      exact hEK.get i hi
  · refine ((xM.ext hEF).setO (by omega) fun i hi => ?_).weak (fun i hi => ?_) fun i hi => ?_
    · rcases hi with hi | hi
      · have := (x.inS i hi).1; omega
      · omega
    · rcases hi with hi | hi
      · exact .inl hi
      · exact .inr ⟨by omega, hi.2⟩
    · rcases hi with hi | hi
      · have := x.inS i hi; exact ⟨by show i < F.next; omega, this.2⟩
      · exact ⟨by show i < F.next; omega, by omega⟩
  · exact q.mono fun i hi => ⟨hi, get_set_other _ _ (by have := hi.1; omega)⟩
theorem submit_c {S : Nat → Prop} {h : DHeap} {B : Nat} {c : Cl} {uc ua ur uw uv vc va vr vw : Value} {t : Txn} {k : Int} (x : ClAt S h B c uc ua ur uw uv) (hr : c.reps ≠ 0) (hreq : 0 ≤ c.req) (y : TxV (InH h) h t vc va vr vw) (hl : TxLen t) :
    Ct Try.prog 11 [.pointer (some ⟨B, 0, none⟩), txnV t.ses t.req vc va vr vw, .int .i64 k] h fun r h1 =>
      (submitE c t k ≠ 0 ∧ r = .ret (.tuple #[askV0, .int .i64 (submitE c t k)]) ∧ Ext h h1) ∨
      (submitE c t k = 0 ∧ Keep B h h1 ∧ ∃ n1 vc' va' vr' vw' wc wa wr ww, h.next ≤ n1 ∧ n1 ≤ h1.next ∧ r = .ret (.tuple #[.agg (askL k (subT c t).ses (subT c t).req wc wa wr ww false nilV 0).toArray, .int .i64 0]) ∧ ClAt (fun i => S i ∨ (h.next ≤ i ∧ i < n1)) h1 B (submitC c t k) vc' va' vr' vw' uv ∧ TxV (fun i => n1 ≤ i ∧ i < h1.next) h1 (subT c t) wc wa wr ww) :=
  (submit_w x hr hreq y hl).mono fun r h1 => by
    rintro (hx | ⟨a, b, n1, c1, c2, c3, c4, d1, d2, d3, d4, e1, e2, e3, e4, e5⟩)
    · exact .inl hx
    · exact .inr ⟨a, b, n1, c1, c2, c3, c4, d1, d2, d3, d4, e1, e2, e3, e4, e5.v⟩
end Go.Proofs.Ytbdljpndncohaaa

namespace Go.Proofs.Ytbdljpndncohaaa
open Go.D
set_option maxRecDepth 100000

theorem Keep.ofExt {B : Nat} {h K : DHeap} (e : Ext h K) : Keep B h K := ⟨e.next, e.ng, fun i hi _ => e.get i hi⟩
theorem Keep.trans {B : Nat} {h K M : DHeap} (a : Keep B h K) (b : Keep B K M) : Keep B h M := ⟨Nat.le_trans a.next b.next, b.ng.trans a.ng, fun i hi hb => (b.get i (Nat.lt_of_lt_of_le hi a.next) hb).trans (a.get i hi hb)⟩
def tickC (c : Cl) : Cl := if c.pend = false then c else if c.wait + 1 < 12 then { c with wait := c.wait + 1 } else { c with wait := 0, turn := Int.tmod (c.turn + 1) c.reps }
def tickB (c : Cl) : Bool := c.pend && !decide (c.wait + 1 < 12)
/-- one cell of a session's box is written -/
theorem ClAt.put {S : Nat → Prop} {h : DHeap} {B : Nat} {c c' : Cl} {vc va vr vw vv : Value} (x : ClAt S h B c vc va vr vw vv) {o : Nat} {v : Value} (hv : v.cells = #[v]) (hone : [v].all Value.oneCell' = true) (ho : o + 1 ≤ 18) (hR : (clL c vc va vr vw vv).set o v = clL c' vc va vr vw vv) (ht : c'.t = c.t) (hl : c'.last = c.last) :
    storeAt h B o [v] = some (h.set B (.row (clL c' vc va vr vw vv) 0 false)) ∧ ClAt S (h.set B (.row (clL c' vc va vr vw vv) 0 false)) B c' vc va vr vw vv :=
  ⟨store_cell hv hone (show o + 1 ≤ (clL c vc va vr vw vv).length from ho) hR x.row, get_set_same _ _, by rw [ht]; exact x.tx.mono fun i hi => ⟨hi, get_set_other _ _ (x.inS i hi).2⟩, by rw [hl]; exact x.lv.mono fun i hi => ⟨hi, get_set_other _ _ (x.inS i hi).2⟩, x.lt, x.inS⟩
set_option maxHeartbeats 1000000 in
theorem tick_c {S : Nat → Prop} {h : DHeap} {B : Nat} {c : Cl} {vc va vr vw vv : Value} (x : ClAt S h B c vc va vr vw vv) (hr : c.reps ≠ 0) (hw : 0 ≤ c.wait ∧ c.wait ≤ 1000000) (ht : 0 ≤ c.turn ∧ c.turn ≤ 1000000) (hl : TxLen c.t) :
    Ct Try.prog 12 [.pointer (some ⟨B, 0, none⟩)] h fun r h1 => Keep B h h1 ∧ ClAt S h1 B (tickC c) vc va vr vw vv ∧
      ((tickB c = false ∧ r = .ret (.tuple #[askV0, .bool false])) ∨ (tickB c = true ∧ ∃ wc wa wr ww, r = .ret (.tuple #[.agg (askL (tickC c).turn c.t.ses c.t.req wc wa wr ww false nilV 0).toArray, .bool true]) ∧ TxV (Fresh h h1) h1 c.t wc wa wr ww)) := by
  refine go_12 (by simp) ?_
  obtain ⟨H, hH⟩ : ∃ H, H = h.push (.row askL0 0 false) := ⟨_, rfl⟩
  have hE : Ext h H := by rw [hH]; exact Ext.push1 _ _
  have hHn : H.next = h.next + 1 := by rw [hH]; rfl
  have gb : H.get h.next = some (.row askL0 0 false) := by rw [hH]; exact get_push_same _ _
  have ss := store_self gb rfl
  have xH := x.ext hE
  have xlt := x.lt
  simp -implicitDefEqProofs (disch:=first|omega|simp only [go_sem,Nat.reduceAdd]) only [go_sem,Int.reduceLT,Int.reduceLE,Int.reduceEq,reduceIte,true_and, c12, next_push, ← hH]
  refine ncall (none_no xH hr) ?_
  cases hp : c.pend with
  | false =>
    have hC : tickC c = c := by rw [tickC, hp, if_pos rfl]
    have hB : tickB c = false := by rw [tickB, hp]; rfl
    simp -implicitDefEqProofs (disch:=first|omega|simp only [go_sem,Nat.reduceAdd]) only [go_sem,Int.reduceLT,Int.reduceLE,Int.reduceEq,reduceIte,true_and, xH.cell, hp, Bool.not_false, dPick_t, dPick_f, bd_ask0, ss]
    exact ret_at (res_ct (n := 10) (by simp -implicitDefEqProofs (disch:=first|omega|simp only [go_sem,Nat.reduceAdd]) only [go_sem,Int.reduceLT,Int.reduceLE,Int.reduceEq,reduceIte,true_and]) (by simp -implicitDefEqProofs (disch:=first|omega|simp only [go_sem,Nat.reduceAdd]) only [go_sem,Int.reduceLT,Int.reduceLE,Int.reduceEq,reduceIte,true_and]) (fun _ => ld_36) (row_cells gb rfl)) ⟨.ofExt hE, by rw [hC]; exact xH, .inl ⟨hB, rfl⟩⟩
  | true =>
  have hw1 : IntKind.i64.wrap (c.wait + 1) = c.wait + 1 := wrap_i64_in (by omega) (by omega)
  obtain ⟨c1, hc1⟩ : ∃ c1 : Cl, c1 = { c with wait := c.wait + 1 } := ⟨_, rfl⟩
  obtain ⟨st1, y1⟩ := xH.put (c' := c1) (o := 10) (v := .int .i64 (c.wait + 1)) rfl rfl (by decide) (by rw [hc1]; rfl) (by rw [hc1]) (by rw [hc1])
  obtain ⟨K, hK⟩ : ∃ K, K = H.set B (.row (clL c1 vc va vr vw vv) 0 false) := ⟨_, rfl⟩
  rw [← hK] at st1 y1
  have kK : Keep B h K := by rw [hK]; exact (Keep.ofExt hE).set _
  have hKn : K.next = H.next := by rw [hK]; rfl
  have gbK : K.get h.next = some (.row askL0 0 false) := by rw [hK, get_set_other _ _ (by omega)]; exact gb
  have ssK := store_self gbK rfl
  have cw1 : cellAt K B 10 = some (.int .i64 (c.wait + 1)) := (y1.cell 10).trans (by rw [hc1]; rfl)
  simp -implicitDefEqProofs (disch:=first|omega|simp only [go_sem,Nat.reduceAdd]) only [go_sem,Int.reduceLT,Int.reduceLE,Int.reduceEq,reduceIte,true_and, xH.cell, hp, Bool.not_true, dPick_t, dPick_f, hw1, st1, cw1]
  by_cases h12 : c.wait + 1 < 12
  · have h12' := eq_true h12
    have hC : tickC c = c1 := by rw [tickC, hp, if_neg (by decide), if_pos h12, hc1, hp]
    have hB : tickB c = false := by rw [tickB, hp, decide_eq_true h12]; rfl
    simp -implicitDefEqProofs (disch:=first|omega|simp only [go_sem,Nat.reduceAdd]) only [go_sem,Int.reduceLT,Int.reduceLE,Int.reduceEq,reduceIte,true_and, h12', bd_ask0, ssK]
    exact ret_at (res_ct (n := 10) (by simp -implicitDefEqProofs (disch:=first|omega|simp only [go_sem,Nat.reduceAdd]) only [go_sem,Int.reduceLT,Int.reduceLE,Int.reduceEq,reduceIte,true_and]) (by simp -implicitDefEqProofs (disch:=first|omega|simp only [go_sem,Nat.reduceAdd]) only [go_sem,Int.reduceLT,Int.reduceLE,Int.reduceEq,reduceIte,true_and]) (fun _ => ld_36) (row_cells gbK rfl)) ⟨kK, by rw [hC]; exact y1, .inl ⟨hB, rfl⟩⟩
  · have hC : tickC c = { c with wait := 0, turn := Int.tmod (c.turn + 1) c.reps } := by rw [tickC, hp, if_neg (by decide), if_neg h12]
    have hB : tickB c = true := by rw [tickB, hp, decide_eq_false h12]; rfl
    have hw2 : IntKind.i64.wrap (c.turn + 1) = c.turn + 1 := wrap_i64_in (by omega) (by omega)
    obtain ⟨c2, hc2⟩ : ∃ c2 : Cl, c2 = { c1 with wait := 0 } := ⟨_, rfl⟩
    have hcc : tickC c = { c2 with turn := Int.tmod (c.turn + 1) c.reps } := by rw [hC, hc2, hc1]
    obtain ⟨st2, y2⟩ := y1.put (c' := c2) (o := 10) (v := .int .i64 0) rfl rfl (by decide) (by rw [hc2]; rfl) (by rw [hc2]) (by rw [hc2])
    obtain ⟨st3, y3⟩ := y2.put (c' := tickC c) (o := 11) (v := .int .i64 (Int.tmod (c.turn + 1) c.reps)) rfl rfl (by decide) (by rw [hcc]; rfl) (by rw [hcc]) (by rw [hcc])
    rw [set_set] at st3 y3
    obtain ⟨M, hM⟩ : ∃ M, M = K.set B (.row (clL (tickC c) vc va vr vw vv) 0 false) := ⟨_, rfl⟩
    rw [← hM] at st3 y3
    have kM : Keep B h M := by rw [hM]; exact kK.set _
    have hMn : M.next = H.next := by rw [hM]; exact hKn
    have gbM : M.get h.next = some (.row askL0 0 false) := by rw [hM, get_set_other _ _ (by omega)]; exact gbK
    have ct1 : cellAt K B 11 = some (.int .i64 c.turn) := (y1.cell 11).trans (by rw [hc1]; rfl)
    have cr1 : cellAt K B 1 = some (.int .i64 c.reps) := (y1.cell 1).trans (by rw [hc1]; rfl)
    have htt : (tickC c).t = c.t := by rw [hC]
    simp -implicitDefEqProofs (disch:=first|omega|simp only [go_sem,Nat.reduceAdd]) only [go_sem,Int.reduceLT,Int.reduceLE,Int.reduceEq,reduceIte,true_and, h12]
    refine dr_12_0 ?_
    simp -implicitDefEqProofs (disch:=first|omega|simp only [go_sem,Nat.reduceAdd]) only [go_sem,Int.reduceLT,Int.reduceLE,Int.reduceEq,reduceIte,true_and, l12_0, ct1, cr1, hw2, bin_rem hr, st2, st3, XStab_nil]
    refine ncall_ct (ask_c y3 (htt ▸ hl)) ?_
    rintro r F ⟨wc, wa, wr, ww, rfl, hEF, q⟩
    rw [htt] at q
    rw [htt]
    have hFn := hEF.next
    have gbF : F.get h.next = some (.row askL0 0 false) := (hEF.get _ (by omega)).trans gbM
    have saF := storeAll (vs := askL (tickC c).turn c.t.ses c.t.req wc wa wr ww false nilV 0) gbF rfl (ask_one q (.nil fKey.rep NoS F))
    have hwc := q.c.cells1
    have hwa := q.a.cells1
    have hwr := q.r.cells1
    have hww := q.w.cells1
    simp -implicitDefEqProofs (disch:=first|omega|simp only [go_sem,Nat.reduceAdd]) only [go_sem,Int.reduceLT,Int.reduceLE,Int.reduceEq,reduceIte,true_and, XEnd, saF]
    refine ret_at (res_ct (n := 10) (by simp -implicitDefEqProofs (disch:=first|omega|simp only [go_sem,Nat.reduceAdd]) only [go_sem,Int.reduceLT,Int.reduceLE,Int.reduceEq,reduceIte,true_and]) (by simp -implicitDefEqProofs (disch:=first|omega|simp only [go_sem,Nat.reduceAdd]) only [go_sem,Int.reduceLT,Int.reduceLE,Int.reduceEq,reduceIte,true_and]) (fun _ => ld_36) (row_cells (get_set_same _ _) rfl)) ⟨?_, ?_, .inr ⟨hB, wc, wa, wr, ww, rfl, ?_⟩⟩
    · have k := kM.trans (Keep.ofExt hEF)
      exact ⟨k.next, k.ng, fun i hi hb => (get_set_other _ _ (by omega)).trans (k.get i hi hb)⟩
    · exact (y3.ext hEF).setO (by omega) fun i hi => by have := (x.inS i hi).1; omega
    · exact q.mono fun i hi => ⟨⟨by omega, hi.2⟩, get_set_other _ _ (by have := hi.1; omega)⟩
theorem max_i64 {P : Program} {h : DHeap} {ts : Array TypeId} {ty : TypeId} {a b : Int} : dBuiltin P .max ts ty h (some [.int .i64 a, .int .i64 b]) = .ok (.value (.int .i64 (max a b))) h := by
  have hq : quick P (Builtin.max_ ts ty #[.int .i64 a, .int .i64 b]) = some (.inr (.int .i64 (max a b))) := by
    have e : max a b = if a < b then b else a := by
      by_cases h : a < b
      · rw [if_pos h]; omega
      · rw [if_neg h]; omega
    rw [e]
    rfl
  have hf : ([Value.int .i64 a, .int .i64 b].all flat3) = true := rfl
  show (if [Value.int .i64 a, .int .i64 b].all flat3 then dval P (Builtin.max_ ts ty #[.int .i64 a, .int .i64 b]) h else .bad) = _
  rw [if_pos hf]
  simp only [dval, hq]
  rfl
/-- flat lists do not lie in boxes -/
theorem sl_box {α : Type} {F : FRep α} {S : Nat → Prop} {h : DHeap} {B : Nat} {R : List Value} {v : Value} {l : List α} (x : Sl F.rep S h v l) (hz : F.z ≠ 0) (g : h.get B = some (.row R 0 false)) : Sl F.rep (fun i => S i ∧ i ≠ B) h v l := by
  rcases x with x | ⟨id, o, cap, cells, esz, ro, h1, h2, h3, h4, h5, h6⟩
  · exact .inl x
  · refine .inr ⟨id, o, cap, cells, esz, ro, h1, ⟨h2, fun e => ?_⟩, h3, h4, h5, Els.flat.2 (Els.flat.1 h6)⟩
    subst e
    rw [g] at h3
    cases h3
    rcases h4 with h4 | h4
    · cases h4
    · exact hz h4.symm
def ansN (c : Cl) (a b : Int) : Bool := !c.pend || !decide (a = c.ses) || !decide (b = c.req)
def ansB (c : Cl) (a b s : Int) : Bool := !ansN c a b && decide (0 ≤ s ∧ s ≤ 1099511627776)
def ansE (c : Cl) (a b s : Int) : Int := if ansN c a b then 0 else if 0 ≤ s ∧ s ≤ 1099511627776 then 0 else 1
def ansC (c : Cl) (a b : Int) (x : Res) : Cl := if ansB c a b x.s then { c with pend := false, any := true, last := x, tok := max c.tok (x.s + 1) } else c
set_option maxHeartbeats 1000000 in
theorem answer_c {S : Nat → Prop} {h : DHeap} {B : Nat} {c : Cl} {vc va vr vw vv uv : Value} {a b : Int} {x : Res} (y : ClAt S h B c vc va vr vw vv) (hr : c.reps ≠ 0) (htk : 0 ≤ c.tok) (hx : Arg fI64.rep h uv x.vs) (hl : x.vs.length ≤ 1048576) :
    Ct Try.prog 14 [.pointer (some ⟨B, 0, none⟩), .agg #[.int .i64 a, .int .i64 b, .int .i64 x.e, uv, .int .i64 x.s, .int .i64 x.p]] h fun r h1 => Keep B h h1 ∧ r = .ret (.tuple #[.bool (ansB c a b x.s), .int .i64 (ansE c a b x.s)]) ∧ ∃ vv', ClAt (fun i => S i ∨ Fresh h h1 i) h1 B (ansC c a b x) vc va vr vw vv' := by
  refine go_14 (by simp) ?_
  have huv := hx.cells1
  obtain ⟨H, hH⟩ : ∃ H, H = h.push (.row [.int .i64 a, .int .i64 b, .int .i64 x.e, uv, .int .i64 x.s, .int .i64 x.p] 0 false) := ⟨_, rfl⟩
  have hE : Ext h H := by rw [hH]; exact Ext.push1 _ _
  have hHn : H.next = h.next + 1 := by rw [hH]; rfl
  have ga : H.get h.next = some (.row [.int .i64 a, .int .i64 b, .int .i64 x.e, uv, .int .i64 x.s, .int .i64 x.p] 0 false) := by rw [hH]; exact get_push_same _ _
  have yH := y.ext hE
  have ylt := y.lt
  have same : ansB c a b x.s = false → ∃ vv', ClAt (fun i => S i ∨ Fresh h H i) H B (ansC c a b x) vc va vr vw vv' := fun hb => by
    refine ⟨vv, ?_⟩
    rw [ansC, hb, if_neg (by decide)]
    refine yH.weak (fun i hi => .inl hi) fun i hi => ?_
    rcases hi with hi | hi
    · exact yH.inS i hi
    · exact ⟨hi.2, by have := hi.1; omega⟩
  have notyet : ansN c a b = true → ∃ v, some (Value.tuple #[.bool false, .int .i64 0]) = some v ∧ Keep B h H ∧ DEnd.ret v = .ret (.tuple #[.bool (ansB c a b x.s), .int .i64 (ansE c a b x.s)]) ∧ ∃ vv', ClAt (fun i => S i ∨ Fresh h H i) H B (ansC c a b x) vc va vr vw vv' := fun hn => by
    have h1 : ansB c a b x.s = false := by rw [ansB, hn]; rfl
    have h2 : ansE c a b x.s = 0 := by rw [ansE, hn, if_pos rfl]
    exact ⟨_, rfl, .ofExt hE, by rw [h1, h2], same h1⟩
  simp -implicitDefEqProofs (disch:=first|omega|simp only [go_sem,Nat.reduceAdd]) only [go_sem,Int.reduceLT,Int.reduceLE,Int.reduceEq,reduceIte,true_and, c14, next_push, ← hH]
  refine ncall (none_no yH hr) ?_
  simp -implicitDefEqProofs (disch:=first|omega|simp only [go_sem,Nat.reduceAdd]) only [go_sem,Int.reduceLT,Int.reduceLE,Int.reduceEq,reduceIte,true_and]
  refine dr_14_0 ?_
  cases hp : c.pend with
  | false =>
    have hn : ansN c a b = true := by rw [ansN, hp]; rfl
    simp -implicitDefEqProofs (disch:=first|omega|simp only [go_sem,Nat.reduceAdd]) only [go_sem,Int.reduceLT,Int.reduceLE,Int.reduceEq,reduceIte,true_and, l14_0, yH.cell, hp, Bool.not_false, dPick_t, dPick_f, XStab_nil]
    exact notyet hn
  | true =>
  by_cases ha : a = c.ses
  case neg =>
    have hn : ansN c a b = true := by rw [ansN, decide_eq_false ha]; simp
    simp -implicitDefEqProofs (disch:=first|omega|simp only [go_sem,Nat.reduceAdd]) only [go_sem,Int.reduceLT,Int.reduceLE,Int.reduceEq,reduceIte,true_and, l14_0, yH.cell, hp, Bool.not_true, cellAt_row ga, ha, decide_false, Bool.not_false, dPick_t, dPick_f, XStab_nil]
    exact notyet hn
  by_cases hb : b = c.req
  case neg =>
    have hn : ansN c a b = true := by rw [ansN, decide_eq_false hb]; simp
    have ha' := eq_true ha
    simp -implicitDefEqProofs (disch:=first|omega|simp only [go_sem,Nat.reduceAdd]) only [go_sem,Int.reduceLT,Int.reduceLE,Int.reduceEq,reduceIte,true_and, l14_0, yH.cell, hp, Bool.not_true, cellAt_row ga, ha', hb, decide_true, decide_false, Bool.not_false, dPick_t, dPick_f, XStab_nil]
    exact notyet hn
  have hn : ansN c a b = false := by rw [ansN, hp, decide_eq_true ha, decide_eq_true hb]; rfl
  have ha' := eq_true ha
  have hb' := eq_true hb
  simp -implicitDefEqProofs (disch:=first|omega|simp only [go_sem,Nat.reduceAdd]) only [go_sem,Int.reduceLT,Int.reduceLE,Int.reduceEq,reduceIte,true_and, l14_0, yH.cell, hp, Bool.not_true, cellAt_row ga, ha', hb', decide_true, Bool.not_false, dPick_t, dPick_f, XStab_nil]
  have bad : ¬ (0 ≤ x.s ∧ x.s ≤ 1099511627776) → ∃ v, some (Value.tuple #[.bool false, .int .i64 1]) = some v ∧ Keep B h H ∧ DEnd.ret v = .ret (.tuple #[.bool (ansB c a b x.s), .int .i64 (ansE c a b x.s)]) ∧ ∃ vv', ClAt (fun i => S i ∨ Fresh h H i) H B (ansC c a b x) vc va vr vw vv' := fun hs => by
    have h1 : ansB c a b x.s = false := by rw [ansB, decide_eq_false hs, Bool.and_false]
    have h2 : ansE c a b x.s = 1 := by rw [ansE, hn, if_neg (by decide), if_neg hs]
    exact ⟨_, rfl, .ofExt hE, by rw [h1, h2], same h1⟩
  by_cases s1 : x.s < 0
  · have s1' := eq_true s1
    simp -implicitDefEqProofs (disch:=first|omega|simp only [go_sem,Nat.reduceAdd]) only [go_sem,Int.reduceLT,Int.reduceLE,Int.reduceEq,reduceIte,true_and, s1', dPick_t, dPick_f]
    exact bad (by omega)
  by_cases s2 : 1099511627776 < x.s
  · have s2' := eq_true s2
    simp -implicitDefEqProofs (disch:=first|omega|simp only [go_sem,Nat.reduceAdd]) only [go_sem,Int.reduceLT,Int.reduceLE,Int.reduceEq,reduceIte,true_and, s1, cellAt_row ga, s2', dPick_t, dPick_f]
    exact bad (by omega)
  have hB1 : ansB c a b x.s = true := by rw [ansB, hn, decide_eq_true (by omega)]; rfl
  have hE1 : ansE c a b x.s = 0 := by rw [ansE, hn, if_neg (by decide), if_pos (by omega)]
  have hC1 : ansC c a b x = { c with pend := false, any := true, last := x, tok := max c.tok (x.s + 1) } := by rw [ansC, hB1, if_pos rfl]
  have hres : cellsAt H h.next 2 4 = some (.agg #[.int .i64 x.e, uv, .int .i64 x.s, .int .i64 x.p]) := by rw [cellsAt_row ga (Nat.le_of_ble_eq_true rfl)]; rfl
  obtain ⟨cA, hcA⟩ : ∃ cA : Cl, cA = { c with pend := false } := ⟨_, rfl⟩
  obtain ⟨cB, hcB⟩ : ∃ cB : Cl, cB = { cA with any := true } := ⟨_, rfl⟩
  obtain ⟨cC, hcC⟩ : ∃ cC : Cl, cC = { cB with last := x } := ⟨_, rfl⟩
  have hb1 : storeAt H B 3 [.bool false] = some (H.set B (.row (clL cA vc va vr vw vv) 0 false)) := by
    rw [store_cell rfl rfl (Nat.le_of_ble_eq_true rfl) rfl yH.row, hcA]
    rfl
  have hb2 : storeAt (H.set B (.row (clL cA vc va vr vw vv) 0 false)) B 13 [.bool true] = some (H.set B (.row (clL cB vc va vr vw vv) 0 false)) := by
    rw [store_cell rfl rfl (Nat.le_of_ble_eq_true rfl) rfl (get_set_same _ _), set_set, hcB]
    rfl
  have hone : [.int .i64 x.e, uv, .int .i64 x.s, .int .i64 x.p].all Value.oneCell' = true := by obtain ⟨_, _, rfl⟩ := hx.isSlice; rfl
  have hb3 : storeAt (H.set B (.row (clL cB vc va vr vw vv) 0 false)) B 14 [.int .i64 x.e, uv, .int .i64 x.s, .int .i64 x.p] = some (H.set B (.row (clL cC vc va vr vw uv) 0 false)) := by
    rw [storeAt_row (get_set_same _ _) (Nat.le_of_ble_eq_true rfl) hone, set_set, hcC]
    rfl
  simp -implicitDefEqProofs (disch:=first|omega|simp only [go_sem,Nat.reduceAdd]) only [go_sem,Int.reduceLT,Int.reduceLE,Int.reduceEq,reduceIte,true_and, s1, cellAt_row ga, s2, dPick_t, dPick_f]
  refine dr_14_1 ?_
  simp -implicitDefEqProofs (disch:=first|omega|simp only [go_sem,Nat.reduceAdd]) only [go_sem,Int.reduceLT,Int.reduceLE,Int.reduceEq,reduceIte,true_and, l14_1, hres, hb1, hb2, hb3]
  refine ⟨⟨XSt1_at (i := 4) (j := 7) rfl rfl rfl ?_, XSt1_at (i := 4) (j := 10) rfl rfl rfl ?_, trivial⟩, ?_⟩
  · rw [if_neg (by decide)]
    refine Ld_on (p := .pointer (some ⟨h.next, 2, none⟩)) (by simp -implicitDefEqProofs (disch:=first|omega|simp only [go_sem,Nat.reduceAdd]) only [go_sem,Int.reduceLT,Int.reduceLE,Int.reduceEq,reduceIte,true_and]) (by simp -implicitDefEqProofs (disch:=first|omega|simp only [go_sem,Nat.reduceAdd]) only [go_sem,Int.reduceLT,Int.reduceLE,Int.reduceEq,reduceIte,true_and]) (ld_45.trans ?_)
    rw [cellsAt_row ((get_set_other _ _ (by omega)).trans ga) (Nat.le_of_ble_eq_true rfl)]; rfl
  · rw [if_neg (by decide)]
    refine Ld_on (p := .pointer (some ⟨h.next, 2, none⟩)) (by simp -implicitDefEqProofs (disch:=first|omega|simp only [go_sem,Nat.reduceAdd]) only [go_sem,Int.reduceLT,Int.reduceLE,Int.reduceEq,reduceIte,true_and]) (by simp -implicitDefEqProofs (disch:=first|omega|simp only [go_sem,Nat.reduceAdd]) only [go_sem,Int.reduceLT,Int.reduceLE,Int.reduceEq,reduceIte,true_and]) (ld_45.trans ?_)
    rw [cellsAt_row ((get_set_other _ _ (by omega)).trans ga) (Nat.le_of_ble_eq_true rfl)]; rfl
  obtain ⟨K, hK⟩ : ∃ K, K = H.set B (.row (clL cC vc va vr vw uv) 0 false) := ⟨_, rfl⟩
  rw [← hK]
  have gK : K.get B = some (.row (clL cC vc va vr vw uv) 0 false) := by rw [hK]; exact get_set_same _ _
  have gaK : K.get h.next = some (.row [.int .i64 a, .int .i64 b, .int .i64 x.e, uv, .int .i64 x.s, .int .i64 x.p] 0 false) := by rw [hK, get_set_other _ _ (by omega)]; exact ga
  have hKn : K.next = H.next := by rw [hK]; rfl
  have kK : Keep B h K := by rw [hK]; exact (Keep.ofExt hE).set _
  have hxK : Arg fI64.rep K uv x.vs := (sl_box hx (by decide) y.row).mono fun i hi => ⟨by have := hi.1; omega, kK.get i hi.1 hi.2⟩
  simp -implicitDefEqProofs (disch:=first|omega|simp only [go_sem,Nat.reduceAdd]) only [go_sem,Int.reduceLT,Int.reduceLE,Int.reduceEq,reduceIte,true_and, cellAt_row gaK]
  refine ncall (clone_ints hxK (by omega)) ?_
  obtain ⟨K2, hK2⟩ : ∃ K2, cloneH fI64 K uv x.vs = K2 := ⟨_, rfl⟩
  obtain ⟨vv', hvv'⟩ : ∃ v, cloneV K uv x.vs = v := ⟨_, rfl⟩
  have e2 : Ext K K2 := hK2 ▸ cloneH_ext _ _ _ _
  have m2 := clone_made (F := fI64) (h := K) hxK
  rw [hK2, hvv'] at m2
  rw [hK2, hvv']
  have ms := m2.sl
  have hcv := ms.cells1
  have hK2n := e2.next
  have gK2 := (e2.get _ (by omega : B < K.next)).trans gK
  have gaK2 := (e2.get _ (by omega : h.next < K.next)).trans gaK
  have sv : dStore Try.prog 23 (.pointer (some ⟨B, 15, none⟩)) vv' K2 = some (K2.set B (.row (clL cC vc va vr vw vv') 0 false)) := (st_23 hcv).trans (store_cell hcv (one_sl ms) (Nat.le_of_ble_eq_true rfl) rfl gK2)
  simp -implicitDefEqProofs (disch:=first|omega|simp only [go_sem,Nat.reduceAdd]) only [go_sem,Int.reduceLT,Int.reduceLE,Int.reduceEq,reduceIte,true_and, sv]
  have ct : cellAt (K2.set B (.row (clL cC vc va vr vw vv') 0 false)) B 12 = some (.int .i64 c.tok) := (cellAt_row (get_set_same _ _)).trans (by rw [hcC, hcB, hcA]; rfl)
  have cs : cellAt (K2.set B (.row (clL cC vc va vr vw vv') 0 false)) h.next 4 = some (.int .i64 x.s) := cellAt_row ((get_set_other _ _ (by omega)).trans gaK2)
  have hw1 : IntKind.i64.wrap (x.s + 1) = x.s + 1 := wrap_i64_in (by omega) (by omega)
  have hb4 : storeAt (K2.set B (.row (clL cC vc va vr vw vv') 0 false)) B 12 [.int .i64 (max c.tok (x.s + 1))] = some (K2.set B (.row (clL (ansC c a b x) vc va vr vw vv') 0 false)) := by
    rw [store_cell rfl rfl (Nat.le_of_ble_eq_true rfl) rfl (get_set_same _ _), set_set, hC1, hcC, hcB, hcA]
    rfl
  refine dr_14_2 ?_
  simp -implicitDefEqProofs (disch:=first|omega|simp only [go_sem,Nat.reduceAdd]) only [go_sem,Int.reduceLT,Int.reduceLE,Int.reduceEq,reduceIte,true_and, l14_2, ct, cs, hw1, max_i64, hb4, XStab_nil]
  refine ⟨_, rfl, ?_, by rw [hB1, hE1], vv', ?_⟩
  · exact (kK.trans (Keep.ofExt e2)).set _
  · refine ⟨get_set_same _ _, ?_, ?_, by show B < K2.next; omega, fun i hi => ?_⟩
    · rw [show (ansC c a b x).t = c.t by rw [hC1]]
      refine y.tx.mono fun i hi => ⟨.inl hi, ?_⟩
      rw [get_set_other _ _ (y.inS i hi).2, e2.get i (by have := (y.inS i hi).1; omega)]
      exact kK.get i (y.inS i hi).1 (y.inS i hi).2
    · rw [show (ansC c a b x).last = x by rw [hC1]]
      exact ms.mono fun i hi => ⟨.inr ⟨by omega, hi.2⟩, get_set_other _ _ (by omega)⟩
    · rcases hi with hi | hi
      · have := y.inS i hi
        exact ⟨by show i < K2.next; omega, this.2⟩
      · exact ⟨hi.2, by have := hi.1; omega⟩
end Go.Proofs.Ytbdljpndncohaaa

namespace Go.Proofs.Ytbdljpndncohaaa
open Go.D
set_option maxRecDepth 100000

theorem token_c {S : Nat → Prop} {h : DHeap} {B : Nat} {c : Cl} {vc va vr vw vv : Value} (x : ClAt S h B c vc va vr vw vv) (hr : c.reps ≠ 0) : DC Try.prog 15 [.pointer (some ⟨B, 0, none⟩)] h (.ret (.int .i64 c.tok)) h := by
  refine Ct.pure (go_15 (by simp) ?_) (vin_int _ _)
  simp -implicitDefEqProofs (disch:=first|omega|simp only [go_sem,Nat.reduceAdd]) only [go_sem,Int.reduceLT,Int.reduceLE,Int.reduceEq,reduceIte,true_and, c15]
  refine ncall (none_no x hr) ?_
  simp -implicitDefEqProofs (disch:=first|omega|simp only [go_sem,Nat.reduceAdd]) only [go_sem,Int.reduceLT,Int.reduceLE,Int.reduceEq,reduceIte,true_and, x.cell]
  exact ⟨_, rfl, rfl, .refl _⟩
theorem live_sub : submitE (cl0 3 3) tx0 1 = 0 := by kernel_rfl
theorem bd_res4 : dBuild Try.prog 45 [(2, .int .i64 4)] = some (.agg #[.int .i64 0, nilV, .int .i64 4, .int .i64 0]) := dBuild_at plc_45 rfl
theorem bd_ans : dBuild Try.prog 47 [(0, .int .i64 3), (1, .int .i64 1), (2, .agg #[.int .i64 0, nilV, .int .i64 4, .int .i64 0])] = some (.agg #[.int .i64 3, .int .i64 1, .int .i64 0, nilV, .int .i64 4, .int .i64 0]) := dBuild_at plc_47 rfl
theorem tx0_v {S : Nat → Prop} {h : DHeap} : TxV S h tx0 nilV nilV nilV nilV := ⟨.nil _ _ _, .nil _ _ _, .nil _ _ _, .nil _ _ _⟩
theorem tx0_len : TxLen tx0 := ⟨by decide, by decide, by decide, by decide⟩
theorem ask_push {S S' : Nat → Prop} {h h' : DHeap} {t : Txn} {vc va vr vw vk : Value} {l : List Key} (x : TxV S h t vc va vr vw) (y : Sl fKey.rep S' h' vk l) {k a b m : Int} {q : Bool} (K : DHeap) : storeAt (K.push (.row askL0 0 false)) K.next 0 (askL k a b vc va vr vw q vk m) = some (K.push (.row (askL k a b vc va vr vw q vk m) 0 false)) :=
  storeAll_push rfl (ask_one x y)
def clS : Cl := submitC (cl0 3 3) tx0 1
def clW (i : Nat) : Cl := { clS with wait := (i : Int) }
theorem tick_w {i : Nat} (hi : i < 11) : tickC (clW i) = clW (i + 1) ∧ tickB (clW i) = false := by
  have h1 : (clW i).pend = true := rfl
  have h2 : (clW i).wait + 1 < 12 := by show (i : Int) + 1 < 12; omega
  refine ⟨?_, ?_⟩
  · rw [tickC, if_neg (by rw [h1]; decide), if_pos h2]; rfl
  · rw [tickB, h1, decide_eq_true h2]; rfl
set_option maxHeartbeats 1000000 in
theorem live_c {h : DHeap} : DC Try.prog 10 [] h (.ret (.bool true)) h := by
  refine Ct.pure (go_10 (by simp) ?_) (vin_bool _)
  simp -implicitDefEqProofs (disch:=first|omega|simp only [go_sem,Nat.reduceAdd]) only [go_sem,Int.reduceLT,Int.reduceLE,Int.reduceEq,reduceIte,true_and, c10]
  refine ncall_ct (new_ok (s := 3) (r := 3) rfl) ?_
  rintro r H ⟨rfl, hH⟩
  have x0 : ClAt NoS H h.next (cl0 3 3) nilV nilV nilV nilV nilV := by rw [hH]; exact cl0_at
  have hE : Ext h H := by rw [hH]; exact Ext.push1 _ _
  simp -implicitDefEqProofs (disch:=first|omega|simp only [go_sem,Nat.reduceAdd]) only [go_sem,Int.reduceLT,Int.reduceLE,Int.reduceEq,reduceIte,true_and, XEnd, ptr_some, dPick_t, dPick_f, bd_txn0]
  refine ncall_ct (submit_c x0 (by decide) (by decide) (t := tx0) (k := 1) tx0_v tx0_len) ?_
  rintro r M (⟨hbad, _⟩ | ⟨_, kM, n1, vc, va, vr, vw, wc, wa, wr, ww, hn1, hn2, rfl, x1, q⟩)
  · exact absurd live_sub hbad
  have hwc := q.c.cells1
  have hwa := q.a.cells1
  have hwr := q.r.cells1
  have hww := q.w.cells1
  have sp := ask_push (k := 1) (a := (subT (cl0 3 3) tx0).ses) (b := (subT (cl0 3 3) tx0).req) (m := 0) (q := false) q (.nil fKey.rep NoS M)
  obtain ⟨J, hJ⟩ : ∃ J, J = M.push (.row (askL 1 (subT (cl0 3 3) tx0).ses (subT (cl0 3 3) tx0).req wc wa wr ww false nilV 0) 0 false) := ⟨_, rfl⟩
  have gJ : J.get M.next = some (.row (askL 1 (subT (cl0 3 3) tx0).ses (subT (cl0 3 3) tx0).req wc wa wr ww false nilV 0) 0 false) := by rw [hJ]; exact get_push_same _ _
  have eJ : Ext M J := by rw [hJ]; exact Ext.push1 _ _
  have d3 : decide (3 = (3 : Int)) = true := rfl
  have d1 : decide (1 = (1 : Int)) = true := rfl
  have es : (subT (cl0 3 3) tx0).ses = 3 := rfl
  have er : (subT (cl0 3 3) tx0).req = 1 := rfl
  simp -implicitDefEqProofs (disch:=first|omega|simp only [go_sem,Nat.reduceAdd]) only [go_sem,Int.reduceLT,Int.reduceLE,Int.reduceEq,reduceIte,true_and, XEnd, sp, ← hJ, dPick_t, dPick_f]
  simp -implicitDefEqProofs (disch:=first|omega|simp only [go_sem,Nat.reduceAdd]) only [go_sem,Int.reduceLT,Int.reduceLE,Int.reduceEq,reduceIte,true_and, cellAt_row gJ, es, er, dPick_t, dPick_f]
  have kJ : Keep h.next h J := ((Keep.ofExt hE).trans kM).trans (Keep.ofExt eJ)
  refine xloop (σ := Nat) (by kernel_rfl) (fun i s => s.df = [] ∧ s.rd = none ∧ s.fr 1 = some (.pointer (some ⟨h.next, 0, none⟩)) ∧ s.fr 44 = some (.int .i64 (i : Nat)) ∧ i ≤ 11 ∧ Keep h.next h s.h ∧ ClAt (fun i => NoS i ∨ (H.next ≤ i ∧ i < n1)) s.h h.next (clW i) vc va vr vw nilV) (fun i => 11 - i) 0 ?_ ?_
  · simp -implicitDefEqProofs (disch:=first|omega|simp only [go_sem,Nat.reduceAdd]) only [go_sem,Int.reduceLT,Int.reduceLE,Int.reduceEq,reduceIte,true_and]
    exact ⟨rfl, Nat.zero_le _, kJ, x1.ext eJ⟩
  rintro i ⟨fr, df, K, rd⟩ K' hK' hX ⟨hdf, hrd, f1, f44, hi, kK, xK⟩
  simp only at hdf hrd f1 f44 kK xK
  subst hdf hrd
  simp -implicitDefEqProofs (disch:=first|omega|simp only [go_sem,Nat.reduceAdd]) only [go_sem,Int.reduceLT,Int.reduceLE,Int.reduceEq,reduceIte,true_and, f1, f44]
  refine XIf_dec (fun hc1 => ?_) (fun hc1 => ?_)
  · have hil : i < 11 := by omega
    obtain ⟨hC, hB⟩ := tick_w hil
    have hw1 := wrap_succ hil (by decide)
    simp -implicitDefEqProofs (disch:=first|omega|simp only [go_sem,Nat.reduceAdd]) only [go_sem,Int.reduceLT,Int.reduceLE,Int.reduceEq,reduceIte,true_and, f1]
    refine ncall_ct (tick_c xK (by show (3 : Int) ≠ 0; decide) ⟨by show (0 : Int) ≤ (i : Int); omega, by show (i : Int) ≤ 1000000; omega⟩ (by show (0 : Int) ≤ 1 ∧ (1 : Int) ≤ 1000000; decide) (tx0_len.sub)) ?_
    rintro r F ⟨kF, yF, hh⟩
    rcases hh with ⟨_, rfl⟩ | ⟨hb, _⟩
    case inr => rw [hB] at hb; cases hb
    rw [hC] at yF
    have sp0 : storeAt (F.push (.row askL0 0 false)) F.next 0 askL0 = some (F.push (.row askL0 0 false)) := storeAll_push rfl rfl
    simp -implicitDefEqProofs (disch:=first|omega|simp only [go_sem,Nat.reduceAdd]) only [go_sem,Int.reduceLT,Int.reduceLE,Int.reduceEq,reduceIte,true_and, XEnd, sp0, f44, hw1]
    refine hK' (i + 1) _ ?_ (by omega)
    exact ⟨by trivial, by trivial, by simp -implicitDefEqProofs (disch:=first|omega|simp only [go_sem,Nat.reduceAdd]) only [go_sem,Int.reduceLT,Int.reduceLE,Int.reduceEq,reduceIte,true_and, f1], by simp -implicitDefEqProofs (disch:=first|omega|simp only [go_sem,Nat.reduceAdd]) only [go_sem,Int.reduceLT,Int.reduceLE,Int.reduceEq,reduceIte,true_and], by omega, (kK.trans kF).trans (Keep.ofExt (Ext.push1 _ _)), yF.ext (Ext.push1 _ _)⟩
  · obtain rfl : i = 11 := by omega
    refine hX _ _ (by simp) ?_
    simp -implicitDefEqProofs (disch:=first|omega|simp only [go_sem,Nat.reduceAdd]) only [go_sem,Int.reduceLT,Int.reduceLE,Int.reduceEq,reduceIte,true_and, f1]
    refine ncall_ct (tick_c xK (by decide) (by decide) (by decide) (tx0_len.sub)) ?_
    rintro r F ⟨kF, yF, hh⟩
    rcases hh with ⟨hb, _⟩ | ⟨_, uc, ua, ur, uw, rfl, q2⟩
    · exact absurd hb (by decide)
    have huc := q2.c.cells1
    have hua := q2.a.cells1
    have hur := q2.r.cells1
    have huw := q2.w.cells1
    have sp2 := ask_push (k := (tickC (clW 11)).turn) (a := (clW 11).t.ses) (b := (clW 11).t.req) (m := 0) (q := false) q2 (.nil fKey.rep NoS F)
    obtain ⟨G, hG⟩ : ∃ G, G = F.push (.row (askL (tickC (clW 11)).turn (clW 11).t.ses (clW 11).t.req uc ua ur uw false nilV 0) 0 false) := ⟨_, rfl⟩
    have gG : G.get F.next = some (.row (askL (tickC (clW 11)).turn (clW 11).t.ses (clW 11).t.req uc ua ur uw false nilV 0) 0 false) := by rw [hG]; exact get_push_same _ _
    have eG : Ext F G := by rw [hG]; exact Ext.push1 _ _
    have et : (tickC (clW 11)).turn = 2 := by decide
    simp -implicitDefEqProofs (disch:=first|omega|simp only [go_sem,Nat.reduceAdd]) only [go_sem,Int.reduceLT,Int.reduceLE,Int.reduceEq,reduceIte,true_and, XEnd, sp2, ← hG, bd_res4, bd_ans, f1]
    refine ncall_ct (answer_c (x := ⟨0, [], 4, 0⟩) (yF.ext eG) (by decide) (by decide) (.nil _ _ _) (by decide)) ?_
    rintro r A ⟨kA, rfl, vv', yA⟩
    have gA : A.get F.next = some (.row (askL (tickC (clW 11)).turn (clW 11).t.ses (clW 11).t.req uc ua ur uw false nilV 0) 0 false) := (kA.get _ (by rw [hG]; exact Nat.lt_succ_self _) (by have := yF.lt; omega)).trans gG
    have a1 : ansB (tickC (clW 11)) 3 1 4 = true := by decide
    have a2 : ansE (tickC (clW 11)) 3 1 4 = 0 := by decide
    have a3 : (ansC (tickC (clW 11)) 3 1 ⟨0, [], 4, 0⟩).tok = 5 := by decide
    simp -implicitDefEqProofs (disch:=first|omega|simp only [go_sem,Nat.reduceAdd]) only [go_sem,Int.reduceLT,Int.reduceLE,Int.reduceEq,reduceIte,true_and, XEnd, a1, a2, cellAt_row gA, et, dPick_t, dPick_f, f1]
    refine ncall (token_c yA (by decide)) ?_
    simp -implicitDefEqProofs (disch:=first|omega|simp only [go_sem,Nat.reduceAdd]) only [go_sem,Int.reduceLT,Int.reduceLE,Int.reduceEq,reduceIte,true_and, a3, dPick_t, dPick_f]
    exact ⟨_, rfl, rfl, ((((kK.trans kF).trans (Keep.ofExt eG)).trans kA).toExt (.refl _) (Nat.le_refl _))⟩
end Go.Proofs.Ytbdljpndncohaaa

namespace Go.Proofs.Ytbdljpndncohaaa
open Go.D
set_option maxRecDepth 100000

/-- a call's box -/
structure OpAt (h : DHeap) (id : Nat) (x : OpC) (vc va vr vw vv vk vp : Value) : Prop where
  row : h.get id = some (.row (opL x vc va vr vw vv vk vp) 0 false)
  lt : id < h.next
  c : vc.cells = #[vc]
  a : va.cells = #[va]
  r : vr.cells = #[vr]
  w : vw.cells = #[vw]
  v : vv.cells = #[vv]
  p : vp.cells = #[vp]
theorem OpAt.ext {h h1 : DHeap} {id : Nat} {x : OpC} {vc va vr vw vv vk vp : Value} (o : OpAt h id x vc va vr vw vv vk vp) (e : Ext h h1) : OpAt h1 id x vc va vr vw vv vk vp :=
  ⟨(e.get _ o.lt).trans o.row, Nat.lt_of_lt_of_le o.lt e.next, o.c, o.a, o.r, o.w, o.v, o.p⟩
theorem OpAt.txn {h : DHeap} {id : Nat} {x : OpC} {vc va vr vw vv vk vp : Value} (o : OpAt h id x vc va vr vw vv vk vp) : cellsAt h id 1 6 = some (txnV x.t.ses x.t.req vc va vr vw) := by
  rw [cellsAt_row o.row (Nat.le_of_ble_eq_true rfl)]; rfl
theorem OpAt.cell {h : DHeap} {id : Nat} {x : OpC} {vc va vr vw vv vk vp : Value} (o : OpAt h id x vc va vr vw vv vk vp) (i : Nat) : cellAt h id i = (opL x vc va vr vw vv vk vp)[i]? := cellAt_row o.row
end Go.Proofs.Ytbdljpndncohaaa

namespace Go.Proofs.Ytbdljpndncohaaa
open Go.D
set_option maxRecDepth 100000

end Go.Proofs.Ytbdljpndncohaaa

namespace Go.Proofs.Ytbdljpndncohaaa
open Go.D
set_option maxRecDepth 100000

theorem pending_no {S : Nat → Prop} {h : DHeap} {B : Nat} {c : Cl} {vc va vr vw vv : Value} (x : ClAt S h B c vc va vr vw vv) (hr : c.reps ≠ 0) (hp : c.pend = false) : DC Try.prog 18 [.pointer (some ⟨B, 0, none⟩)] h (.ret (.tuple #[.agg txL0.toArray, .bool false])) h := by
  refine Ct.pure (go_18 (by simp) ?_) vin_txn0b
  obtain ⟨H, hH⟩ : ∃ H, H = h.push (.row txL0 0 false) := ⟨_, rfl⟩
  have hE : Ext h H := by rw [hH]; exact Ext.push1 _ _
  have gb : H.get h.next = some (.row txL0 0 false) := by rw [hH]; exact get_push_same _ _
  have ss := store_self gb rfl
  have xH := x.ext hE
  simp -implicitDefEqProofs (disch:=first|omega|simp only [go_sem,Nat.reduceAdd]) only [go_sem,Int.reduceLT,Int.reduceLE,Int.reduceEq,reduceIte,true_and, c18, next_push, ← hH]
  refine ncall (none_no xH hr) ?_
  simp -implicitDefEqProofs (disch:=first|omega|simp only [go_sem,Nat.reduceAdd]) only [go_sem,Int.reduceLT,Int.reduceLE,Int.reduceEq,reduceIte,true_and, xH.cell, hp, Bool.not_false, bd_txn0, ss, dPick_t, dPick_f]
  exact ret_at (res_ct (n := 6) (by simp -implicitDefEqProofs (disch:=first|omega|simp only [go_sem,Nat.reduceAdd]) only [go_sem,Int.reduceLT,Int.reduceLE,Int.reduceEq,reduceIte,true_and]) (by simp -implicitDefEqProofs (disch:=first|omega|simp only [go_sem,Nat.reduceAdd]) only [go_sem,Int.reduceLT,Int.reduceLE,Int.reduceEq,reduceIte,true_and]) (fun _ => ld_26) (row_cells gb rfl)) ⟨rfl, hE⟩
/-- what the operations of the law's comparison give -/
def NlV (t : Txn) (vc va vr vw nc na nr nw : Value) (k : Nat) (h : DHeap) (v : Value) : Prop :=
  match k with
  | 0 => v = txnV t.ses t.req nc na nr nw
  | 1 => v = txnV t.ses t.req vc va vr vw
  | 2 => ∃ ur uw, v = txnV t.ses t.req vc va ur uw ∧ Arg fKey.rep h ur (keysN t.reads) ∧ Arg fKey.rep h uw (keysN t.writes)
  | 3 => v = .bool true
  | 4 => v = .bool false
  | _ => True
theorem NlV.mono {t : Txn} {vc va vr vw nc na nr nw : Value} : ∀ k h h' v, Ext h h' → NlV t vc va vr vw nc na nr nw k h v → NlV t vc va vr vw nc na nr nw k h' v := fun k h h' v e x => by
  unfold NlV at *
  split at x <;> try exact x
  obtain ⟨ur, uw, a, b, c⟩ := x
  exact ⟨ur, uw, a, b.ext e, c.ext e⟩
end Go.Proofs.Ytbdljpndncohaaa

namespace Go.Proofs.Ytbdljpndncohaaa
open Go.D
set_option maxRecDepth 100000

end Go.Proofs.Ytbdljpndncohaaa

namespace Go.Proofs.Ytbdljpndncohaaa
open Go.D
set_option maxRecDepth 100000

theorem bd_rcl0 {s r : Int} : dBuild Try.prog 86 [(0, .int .i64 s), (1, .int .i64 r)] = some (.agg (clL (cl0 s r) nilV nilV nilV nilV nilV).toArray) := dBuild_at plc_86 rfl
theorem refNew_ok {h : DHeap} {s r : Int} (hb : newE s r = 0) : Ct Try.prog 16 [.int .i64 s, .int .i64 r] h fun rr h1 => rr = .ret (.tuple #[.pointer (some ⟨h.next, 0, none⟩), .int .i64 0]) ∧ h1 = h.push (.row (clL (cl0 s r) nilV nilV nilV nilV nilV) 0 false) := by
  refine go_16 (by simp) ?_
  have hb' : ¬ (s < 1 ∨ 1099511627776 < s ∨ r < 1 ∨ 5 < r) := by
    unfold newE at hb
    split at hb
    · cases hb
    · assumption
  have q1 : ¬ s < 1 := fun h => hb' (.inl h)
  have q2 : ¬ 1099511627776 < s := fun h => hb' (.inr (.inl h))
  have q3 : ¬ r < 1 := fun h => hb' (.inr (.inr (.inl h)))
  have q4 : ¬ 5 < r := fun h => hb' (.inr (.inr (.inr h)))
  simp -implicitDefEqProofs (disch:=first|omega|simp only [go_sem,Nat.reduceAdd]) only [go_sem,Int.reduceLT,Int.reduceLE,Int.reduceEq,reduceIte,true_and, c16, q1, q2, q3, q4, dPick_t, dPick_f, bd_rcl0]
  exact ⟨_, rfl, rfl, trivial⟩
theorem refMay_c {S : Nat → Prop} {h : DHeap} {B : Nat} {c : Cl} {vc va vr vw vv : Value} {k : Int} (x : ClAt S h B c vc va vr vw vv) : DC Try.prog 36 [.pointer (some ⟨B, 0, none⟩), .int .i64 k] h (.ret (.bool (decide (0 ≤ k ∧ k < c.reps)))) h := by
  refine Ct.pure (go_36 (by simp) ?_) (vin_bool _)
  by_cases k1 : 0 ≤ k
  · have k1' := eq_true k1
    simp -implicitDefEqProofs (disch:=first|omega|simp only [go_sem,Nat.reduceAdd]) only [go_sem,Int.reduceLT,Int.reduceLE,Int.reduceEq,reduceIte,true_and, c36, k1', x.cell, dPick_t, dPick_f]
    refine ⟨_, rfl, ?_, .refl _⟩
    simp [k1]
  · simp -implicitDefEqProofs (disch:=first|omega|simp only [go_sem,Nat.reduceAdd]) only [go_sem,Int.reduceLT,Int.reduceLE,Int.reduceEq,reduceIte,true_and, c36, k1, dPick_t, dPick_f]
    refine ⟨_, rfl, ?_, .refl _⟩
    simp [k1]
theorem refPending_c {S : Nat → Prop} {h : DHeap} {B : Nat} {c : Cl} {vc va vr vw vv : Value} (x : ClAt S h B c vc va vr vw vv) :
    Ct Try.prog 19 [.pointer (some ⟨B, 0, none⟩)] h fun r h1 => Ext h h1 ∧ ((c.pend = false ∧ r = .ret (.tuple #[.agg txL0.toArray, .bool false])) ∨ (c.pend = true ∧ r = .ret (.tuple #[txnV c.t.ses c.t.req vc va vr vw, .bool true]))) := by
  obtain ⟨R, hR⟩ : ∃ R : DEnd → DHeap → Prop, (fun r h1 => Ext h h1 ∧ ((c.pend = false ∧ r = .ret (.tuple #[.agg txL0.toArray, .bool false])) ∨ (c.pend = true ∧ r = .ret (.tuple #[txnV c.t.ses c.t.req vc va vr vw, .bool true])))) = R := ⟨_, rfl⟩
  rw [hR]
  refine go_19 (by simp) ?_
  obtain ⟨H, hH⟩ : ∃ H, H = h.push (.row txL0 0 false) := ⟨_, rfl⟩
  have hE : Ext h H := by rw [hH]; exact Ext.push1 _ _
  have gb : H.get h.next = some (.row txL0 0 false) := by rw [hH]; exact get_push_same _ _
  have ss := store_self gb rfl
  have xH := x.ext hE
  have xlt := x.lt
  cases hp : c.pend with
  | false =>
    simp -implicitDefEqProofs (disch:=first|omega|simp only [go_sem,Nat.reduceAdd]) only [go_sem,Int.reduceLT,Int.reduceLE,Int.reduceEq,reduceIte,true_and, c19, next_push, ← hH, xH.cell, hp, Bool.not_false, bd_txn0, ss]
    exact ret_at (res_ct (n := 6) (w := .bool false) (by simp -implicitDefEqProofs (disch:=first|omega|simp only [go_sem,Nat.reduceAdd]) only [go_sem,Int.reduceLT,Int.reduceLE,Int.reduceEq,reduceIte,true_and]) (by simp -implicitDefEqProofs (disch:=first|omega|simp only [go_sem,Nat.reduceAdd]) only [go_sem,Int.reduceLT,Int.reduceLE,Int.reduceEq,reduceIte,true_and]) (fun _ => ld_26) (row_cells gb rfl)) (by rw [← hR]; exact ⟨hE, .inl ⟨hp, rfl⟩⟩)
  | true =>
    have sa := storeAll (vs := [.int .i64 c.t.ses, .int .i64 c.t.req, vc, va, vr, vw]) gb rfl (x.tx.one _ _)
    have hvc := x.tx.c.cells1
    have hva := x.tx.a.cells1
    have hvr := x.tx.r.cells1
    have hvw := x.tx.w.cells1
    simp -implicitDefEqProofs (disch:=first|omega|simp only [go_sem,Nat.reduceAdd]) only [go_sem,Int.reduceLT,Int.reduceLE,Int.reduceEq,reduceIte,true_and, c19, next_push, ← hH, xH.cell, hp, Bool.not_true, xH.txn, sa]
    exact ret_at (res_ct (n := 6) (w := .bool true) (by simp -implicitDefEqProofs (disch:=first|omega|simp only [go_sem,Nat.reduceAdd]) only [go_sem,Int.reduceLT,Int.reduceLE,Int.reduceEq,reduceIte,true_and]) (by simp -implicitDefEqProofs (disch:=first|omega|simp only [go_sem,Nat.reduceAdd]) only [go_sem,Int.reduceLT,Int.reduceLE,Int.reduceEq,reduceIte,true_and]) (fun _ => ld_26) (row_cells (get_set_same _ _) rfl)) (by rw [← hR]; exact ⟨hE.set (by omega), .inr ⟨hp, rfl⟩⟩)
theorem pending_c {S : Nat → Prop} {h : DHeap} {B : Nat} {c : Cl} {vc va vr vw vv : Value} (x : ClAt S h B c vc va vr vw vv) (hr : c.reps ≠ 0) (hl : TxLen c.t) :
    Ct Try.prog 18 [.pointer (some ⟨B, 0, none⟩)] h fun r h1 => Ext h h1 ∧ ((c.pend = false ∧ r = .ret (.tuple #[.agg txL0.toArray, .bool false])) ∨ (c.pend = true ∧ ∃ wc wa wr ww, r = .ret (.tuple #[txnV c.t.ses c.t.req wc wa wr ww, .bool true]) ∧ TxV (Fresh h h1) h1 c.t wc wa wr ww)) := by
  obtain ⟨R, hR⟩ : ∃ R : DEnd → DHeap → Prop, (fun r h1 => Ext h h1 ∧ ((c.pend = false ∧ r = .ret (.tuple #[.agg txL0.toArray, .bool false])) ∨ (c.pend = true ∧ ∃ wc wa wr ww, r = .ret (.tuple #[txnV c.t.ses c.t.req wc wa wr ww, .bool true]) ∧ TxV (Fresh h h1) h1 c.t wc wa wr ww))) = R := ⟨_, rfl⟩
  rw [hR]
  cases hp : c.pend with
  | false =>
    exact (pending_no x hr hp).ct (by rw [← hR]; exact ⟨.refl _, .inl ⟨hp, rfl⟩⟩)
  | true =>
    refine go_18 (by simp) ?_
    obtain ⟨H, hH⟩ : ∃ H, H = h.push (.row txL0 0 false) := ⟨_, rfl⟩
    have hE : Ext h H := by rw [hH]; exact Ext.push1 _ _
    have hHn : H.next = h.next + 1 := by rw [hH]; rfl
    have gb : H.get h.next = some (.row txL0 0 false) := by rw [hH]; exact get_push_same _ _
    have xH := x.ext hE
    have xlt := x.lt
    have hvc := x.tx.c.cells1
    have hva := x.tx.a.cells1
    have hvr := x.tx.r.cells1
    have hvw := x.tx.w.cells1
    simp -implicitDefEqProofs (disch:=first|omega|simp only [go_sem,Nat.reduceAdd]) only [go_sem,Int.reduceLT,Int.reduceLE,Int.reduceEq,reduceIte,true_and, c18, next_push, ← hH]
    refine ncall (none_no xH hr) ?_
    simp -implicitDefEqProofs (disch:=first|omega|simp only [go_sem,Nat.reduceAdd]) only [go_sem,Int.reduceLT,Int.reduceLE,Int.reduceEq,reduceIte,true_and, xH.cell, hp, Bool.not_true, dPick_t, dPick_f, xH.txn]
    refine ncall_ct (cloneT_c (xH.tx.mono fun i hi => ⟨(xH.inS i hi).1, rfl⟩) hl) ?_
    rintro r M ⟨wc, wa, wr, ww, rfl, eM, q⟩
    have hMn := eM.next
    have gM := (eM.get _ (by omega : h.next < H.next)).trans gb
    have sa := storeAll (vs := [.int .i64 c.t.ses, .int .i64 c.t.req, wc, wa, wr, ww]) gM rfl (q.one _ _)
    have hwc := q.c.cells1
    have hwa := q.a.cells1
    have hwr := q.r.cells1
    have hww := q.w.cells1
    simp -implicitDefEqProofs (disch:=first|omega|simp only [go_sem,Nat.reduceAdd]) only [go_sem,Int.reduceLT,Int.reduceLE,Int.reduceEq,reduceIte,true_and, XEnd, sa]
    exact ret_at (res_ct (n := 6) (w := .bool true) (by simp -implicitDefEqProofs (disch:=first|omega|simp only [go_sem,Nat.reduceAdd]) only [go_sem,Int.reduceLT,Int.reduceLE,Int.reduceEq,reduceIte,true_and]) (by simp -implicitDefEqProofs (disch:=first|omega|simp only [go_sem,Nat.reduceAdd]) only [go_sem,Int.reduceLT,Int.reduceLE,Int.reduceEq,reduceIte,true_and]) (fun _ => ld_26) (row_cells (get_set_same _ _) rfl)) (by rw [← hR]; exact ⟨(hE.trans eM).set (by omega), .inr ⟨hp, wc, wa, wr, ww, rfl, q.mono fun i hi => ⟨⟨by omega, hi.2⟩, get_set_other _ _ (by have := hi.1; omega)⟩⟩⟩)
end Go.Proofs.Ytbdljpndncohaaa

namespace Go.Proofs.Ytbdljpndncohaaa
open Go.D
set_option maxRecDepth 100000

/-- lists do not lie in boxes -/
theorem TxV.box {S : Nat → Prop} {h : DHeap} {B : Nat} {R : List Value} {t : Txn} {vc va vr vw : Value} (x : TxV S h t vc va vr vw) (g : h.get B = some (.row R 0 false)) : TxV (fun i => S i ∧ i ≠ B) h t vc va vr vw :=
  ⟨sl_box x.c (by decide) g, sl_box x.a (by decide) g, sl_box x.r (by decide) g, sl_box x.w (by decide) g⟩
set_option maxHeartbeats 2000000 in
theorem refSubmit_c {S S0 : Nat → Prop} {h : DHeap} {B : Nat} {c : Cl} {uc ua ur uw uv vc va vr vw : Value} {t : Txn} {k : Int} (x : ClAt S h B c uc ua ur uw uv) (hr : c.reps ≠ 0) (hreq : 0 ≤ c.req) (y : TxV S0 h t vc va vr vw) (hSin : ∀ i, S0 i → i < h.next) (hl : TxLen t) :
    Ct Try.prog 17 [.pointer (some ⟨B, 0, none⟩), txnV t.ses t.req vc va vr vw, .int .i64 k] h fun r h1 =>
      (submitE c t k ≠ 0 ∧ r = .ret (.tuple #[askV0, .int .i64 (submitE c t k)]) ∧ Ext h h1) ∨
      (submitE c t k = 0 ∧ Keep B h h1 ∧ ∃ vr' vw', r = .ret (.tuple #[.agg (askL k (subT c t).ses (subT c t).req vc va vr' vw' false nilV 0).toArray, .int .i64 0]) ∧ ClAt (fun i => (S i ∨ S0 i ∨ (h.next ≤ i ∧ i < h1.next)) ∧ i < h1.next ∧ i ≠ B) h1 B (submitC c t k) vc va vr' vw' uv) := by
  refine go_17 (by simp) ?_
  have hvc := y.c.cells1
  have hva := y.a.cells1
  have hvr := y.r.cells1
  have hvw := y.w.cells1
  obtain ⟨H, hH⟩ : ∃ H, H = (h.push (.row [.int .i64 t.ses, .int .i64 t.req, vc, va, vr, vw] 0 false)).push (.row askL0 0 false) := ⟨_, rfl⟩
  have hE : Ext h H := by rw [hH]; exact (Ext.push1 _ _).push _
  have hHn : H.next = h.next + 2 := by rw [hH]; rfl
  have ga : H.get h.next = some (.row [.int .i64 t.ses, .int .i64 t.req, vc, va, vr, vw] 0 false) := by rw [hH]; exact get_p1
  have gb : H.get (h.next + 1) = some (.row askL0 0 false) := by rw [hH]; exact get_push_same _ _
  have ss := store_self gb rfl
  have xH := x.ext hE
  have xlt := x.lt
  obtain ⟨R, hR⟩ : ∃ R : DEnd → DHeap → Prop, (fun r h1 => (submitE c t k ≠ 0 ∧ r = .ret (.tuple #[askV0, .int .i64 (submitE c t k)]) ∧ Ext h h1) ∨ (submitE c t k = 0 ∧ Keep B h h1 ∧ ∃ vr' vw', r = .ret (.tuple #[.agg (askL k (subT c t).ses (subT c t).req vc va vr' vw' false nilV 0).toArray, .int .i64 0]) ∧ ClAt (fun i => (S i ∨ S0 i ∨ (h.next ≤ i ∧ i < h1.next)) ∧ i < h1.next ∧ i ≠ B) h1 B (submitC c t k) vc va vr' vw' uv)) = R := ⟨_, rfl⟩
  rw [hR]
  have fail : ∀ {e : Int} {fr : Fr}, submitE c t k = e → e ≠ 0 → fr 6 = some (.pointer (some ⟨h.next + 1, 0, none⟩)) → fr 7 = some (.int .i64 e) → ∀ M, Ext h M → M.get (h.next + 1) = some (.row askL0 0 false) → ∃ v, dResults Try.prog [.cell 6 36, .tmp 7] fr M = some v ∧ R (.ret v) M := fun {e fr} he h0 f6 f7 M hM gM =>
    ret_at (res_ct (n := 10) f6 f7 (fun _ => ld_36) (row_cells gM rfl)) (by rw [← hR]; exact .inl ⟨he ▸ h0, by rw [he], hM⟩)
  simp -implicitDefEqProofs (disch:=first|omega|simp only [go_sem,Nat.reduceAdd]) only [go_sem,Int.reduceLT,Int.reduceLE,Int.reduceEq,reduceIte,true_and, c17, next_push, ← hH]
  cases hp : c.pend with
  | true =>
    simp -implicitDefEqProofs (disch:=first|omega|simp only [go_sem,Nat.reduceAdd]) only [go_sem,Int.reduceLT,Int.reduceLE,Int.reduceEq,reduceIte,true_and, xH.cell, hp, bd_ask0, ss]
    exact fail (by rw [submitE, hp, if_pos rfl]) (by decide) (by simp -implicitDefEqProofs (disch:=first|omega|simp only [go_sem,Nat.reduceAdd]) only [go_sem,Int.reduceLT,Int.reduceLE,Int.reduceEq,reduceIte,true_and]) (by simp -implicitDefEqProofs (disch:=first|omega|simp only [go_sem,Nat.reduceAdd]) only [go_sem,Int.reduceLT,Int.reduceLE,Int.reduceEq,reduceIte,true_and]) H hE gb
  | false =>
  have hS0 : submitE c t k = if k < 0 ∨ c.reps ≤ k then 1 else if 1099511627776 ≤ c.req then 6 else txnE (subT c t) := by rw [submitE, hp]; rfl
  simp -implicitDefEqProofs (disch:=first|omega|simp only [go_sem,Nat.reduceAdd]) only [go_sem,Int.reduceLT,Int.reduceLE,Int.reduceEq,reduceIte,true_and, xH.cell, hp]
  refine ncall (refMay_c xH) ?_
  by_cases k1 : 0 ≤ k ∧ k < c.reps
  case neg =>
    have k1' := decide_eq_false k1
    simp -implicitDefEqProofs (disch:=first|omega|simp only [go_sem,Nat.reduceAdd]) only [go_sem,Int.reduceLT,Int.reduceLE,Int.reduceEq,reduceIte,true_and, k1', Bool.not_false, bd_ask0, ss]
    exact fail (by rw [hS0, if_pos (by omega)]) (by decide) (by simp -implicitDefEqProofs (disch:=first|omega|simp only [go_sem,Nat.reduceAdd]) only [go_sem,Int.reduceLT,Int.reduceLE,Int.reduceEq,reduceIte,true_and]) (by simp -implicitDefEqProofs (disch:=first|omega|simp only [go_sem,Nat.reduceAdd]) only [go_sem,Int.reduceLT,Int.reduceLE,Int.reduceEq,reduceIte,true_and]) H hE gb
  have k1' := decide_eq_true k1
  rw [if_neg (by omega)] at hS0
  by_cases k3 : 1099511627776 ≤ c.req
  · have k3' := eq_true k3
    simp -implicitDefEqProofs (disch:=first|omega|simp only [go_sem,Nat.reduceAdd]) only [go_sem,Int.reduceLT,Int.reduceLE,Int.reduceEq,reduceIte,true_and, k1', Bool.not_true, xH.cell, k3', bd_ask0, ss]
    exact fail (by rw [hS0, if_pos k3]) (by decide) (by simp -implicitDefEqProofs (disch:=first|omega|simp only [go_sem,Nat.reduceAdd]) only [go_sem,Int.reduceLT,Int.reduceLE,Int.reduceEq,reduceIte,true_and]) (by simp -implicitDefEqProofs (disch:=first|omega|simp only [go_sem,Nat.reduceAdd]) only [go_sem,Int.reduceLT,Int.reduceLE,Int.reduceEq,reduceIte,true_and]) H hE gb
  rw [if_neg k3] at hS0
  have hca0 : cellsAt H h.next 0 6 = some (txnV t.ses t.req vc va vr vw) := row_cells ga rfl
  simp -implicitDefEqProofs (disch:=first|omega|simp only [go_sem,Nat.reduceAdd]) only [go_sem,Int.reduceLT,Int.reduceLE,Int.reduceEq,reduceIte,true_and, k1', Bool.not_true, xH.cell, k3, hca0]
  refine ncall_ct (refNormal_c (TxV.ext (y.mono fun i hi => ⟨hSin i hi, rfl⟩) hE) hl) ?_
  rintro r H1 ⟨vr', vw', rfl, hE1, zr, zw⟩
  have hE1n' := hE1.next
  have eHH := hE.trans hE1
  have z : TxV (fun i => S0 i ∨ (h.next ≤ i ∧ i < H1.next)) H1 (normT t) vc va vr' vw' := ⟨y.c.mono fun i hi => ⟨.inl hi, eHH.get i (hSin i hi)⟩, y.a.mono fun i hi => ⟨.inl hi, eHH.get i (hSin i hi)⟩, zr.mono fun i hi => ⟨.inr ⟨by have := hi.1; omega, hi.2⟩, rfl⟩, zw.mono fun i hi => ⟨.inr ⟨by have := hi.1; omega, hi.2⟩, rfl⟩⟩
  have hE1n := hE1.next
  have ga1 := (hE1.get _ (by omega)).trans ga
  have gb1 := (hE1.get _ (by omega)).trans gb
  have x1 := xH.ext hE1
  have hvr' := z.r.cells1
  have hvw' := z.w.cells1
  have sa1 := storeAll (vs := [.int .i64 t.ses, .int .i64 t.req, vc, va, vr', vw']) ga1 rfl (z.one _ _)
  simp -implicitDefEqProofs (disch:=first|omega|simp only [go_sem,Nat.reduceAdd]) only [go_sem,Int.reduceLT,Int.reduceLE,Int.reduceEq,reduceIte,true_and, XEnd, sa1]
  have hwq : IntKind.i64.wrap (c.req + 1) = c.req + 1 := wrap_i64_in (by omega) (by omega)
  have y1 : ∀ o, ClAt S (H1.set h.next o) B c uc ua ur uw uv := fun o => x1.setO (by omega) fun i hi => by have := (x.inS i hi).1; omega
  have hs1 : storeAt (H1.set h.next (.row [.int .i64 t.ses, .int .i64 t.req, vc, va, vr', vw'] 0 false)) h.next 0 [.int .i64 c.ses] = some (H1.set h.next (.row [.int .i64 c.ses, .int .i64 t.req, vc, va, vr', vw'] 0 false)) := by
    rw [store_cell rfl rfl (by simp) rfl (get_set_same _ _), set_set]
    rfl
  have hs2 : storeAt (H1.set h.next (.row [.int .i64 c.ses, .int .i64 t.req, vc, va, vr', vw'] 0 false)) h.next 1 [.int .i64 (c.req + 1)] = some (H1.set h.next (.row [.int .i64 c.ses, .int .i64 (c.req + 1), vc, va, vr', vw'] 0 false)) := by
    rw [store_cell rfl rfl (by simp) rfl (get_set_same _ _), set_set]
    rfl
  refine dr_17_0 ?_
  simp -implicitDefEqProofs (disch:=first|omega|simp only [go_sem,Nat.reduceAdd]) only [go_sem,Int.reduceLT,Int.reduceLE,Int.reduceEq,reduceIte,true_and, l17_0, (y1 _).cell, hwq, hs1, hs2]
  refine ⟨⟨XSt1_at (i := 7) (j := 10) rfl rfl rfl ?_, trivial⟩, ?_⟩
  · rw [if_neg (by decide)]
    exact Ld_on (p := .pointer (some ⟨B, 2, none⟩)) (by simp -implicitDefEqProofs (disch:=first|omega|simp only [go_sem,Nat.reduceAdd]) only [go_sem,Int.reduceLT,Int.reduceLE,Int.reduceEq,reduceIte,true_and]) (by simp -implicitDefEqProofs (disch:=first|omega|simp only [go_sem,Nat.reduceAdd]) only [go_sem,Int.reduceLT,Int.reduceLE,Int.reduceEq,reduceIte,true_and]) (ld_2.trans ((y1 _).cell 2))
  obtain ⟨K2, hK2⟩ : ∃ K2, K2 = H1.set h.next (.row [.int .i64 c.ses, .int .i64 (c.req + 1), vc, va, vr', vw'] 0 false) := ⟨_, rfl⟩
  rw [← hK2]
  have x2 : ClAt S K2 B c uc ua ur uw uv := by rw [hK2]; exact y1 _
  have gaK : K2.get h.next = some (.row [.int .i64 (subT c t).ses, .int .i64 (subT c t).req, vc, va, vr', vw'] 0 false) := by rw [hK2]; exact get_set_same _ _
  have gbK : K2.get (h.next + 1) = some (.row askL0 0 false) := by rw [hK2, get_set_other _ _ (by omega)]; exact gb1
  have hEK : Ext h K2 := by rw [hK2]; exact (hE.trans hE1).set (by omega)
  have hKn : K2.next = H1.next := by rw [hK2]; rfl
  have z2 : TxV (fun i => S0 i ∨ (h.next ≤ i ∧ i < K2.next)) K2 (subT c t) vc va vr' vw' := by
    have : TxV (fun i => S0 i ∨ (h.next ≤ i ∧ i < K2.next)) K2 (normT t) vc va vr' vw' := (z.box ga1).mono fun i hi => ⟨by rw [hKn]; exact hi.1, by rw [hK2, get_set_other _ _ hi.2]⟩
    exact ⟨this.c, this.a, this.r, this.w⟩
  have z2a : TxV (InH K2) K2 (subT c t) vc va vr' vw' := z2.mono fun i hi => ⟨by
    rcases hi with hi | hi
    · have := hSin i hi; have := hEK.next; omega
    · exact hi.2, rfl⟩
  have hlS : TxLen (subT c t) := hl.sub
  have hca2 : cellsAt K2 h.next 0 6 = some (txnV (subT c t).ses (subT c t).req vc va vr' vw') := row_cells gaK rfl
  have ss2 := store_self gbK rfl
  simp -implicitDefEqProofs (disch:=first|omega|simp only [go_sem,Nat.reduceAdd]) only [go_sem,Int.reduceLT,Int.reduceLE,Int.reduceEq,reduceIte,true_and, hca2]
  refine ncall (refCheckT_c z2a.c z2a.a z2a.r z2a.w hlS.c) ?_
  by_cases he : txnE (subT c t) = 0
  case neg =>
    simp -implicitDefEqProofs (disch:=first|omega|simp only [go_sem,Nat.reduceAdd]) only [go_sem,Int.reduceLT,Int.reduceLE,Int.reduceEq,reduceIte,true_and, he, bd_ask0, ss2]
    exact fail hS0 he (by simp -implicitDefEqProofs (disch:=first|omega|simp only [go_sem,Nat.reduceAdd]) only [go_sem,Int.reduceLT,Int.reduceLE,Int.reduceEq,reduceIte,true_and]) (by simp -implicitDefEqProofs (disch:=first|omega|simp only [go_sem,Nat.reduceAdd]) only [go_sem,Int.reduceLT,Int.reduceLE,Int.reduceEq,reduceIte,true_and]) K2 hEK gbK
  have he' := eq_true he
  simp -implicitDefEqProofs (disch:=first|omega|simp only [go_sem,Nat.reduceAdd]) only [go_sem,Int.reduceLT,Int.reduceLE,Int.reduceEq,reduceIte,true_and, he']
  have hone : [.int .i64 (subT c t).ses, .int .i64 (subT c t).req, vc, va, vr', vw'].all Value.oneCell' = true := z2.one _ _
  obtain ⟨cA, hcA⟩ : ∃ cA : Cl, cA = { c with pend := true } := ⟨_, rfl⟩
  obtain ⟨cB, hcB⟩ : ∃ cB : Cl, cB = { cA with t := subT c t } := ⟨_, rfl⟩
  obtain ⟨cC, hcC⟩ : ∃ cC : Cl, cC = { cB with req := (subT c t).req } := ⟨_, rfl⟩
  obtain ⟨cD, hcD⟩ : ∃ cD : Cl, cD = { cC with wait := 0 } := ⟨_, rfl⟩
  have hb1 : storeAt K2 B 3 [.bool true] = some (K2.set B (.row (clL cA uc ua ur uw uv) 0 false)) := by
    rw [store_cell rfl rfl (Nat.le_of_ble_eq_true rfl) rfl x2.row, hcA]
    rfl
  have hb2 : storeAt (K2.set B (.row (clL cA uc ua ur uw uv) 0 false)) B 4 [.int .i64 (subT c t).ses, .int .i64 (subT c t).req, vc, va, vr', vw'] = some (K2.set B (.row (clL cB vc va vr' vw' uv) 0 false)) := by
    rw [storeAt_row (get_set_same _ _) (Nat.le_of_ble_eq_true rfl) hone, set_set, hcB]
    rfl
  have hb3 : storeAt (K2.set B (.row (clL cB vc va vr' vw' uv) 0 false)) B 2 [.int .i64 (subT c t).req] = some (K2.set B (.row (clL cC vc va vr' vw' uv) 0 false)) := by
    rw [store_cell rfl rfl (Nat.le_of_ble_eq_true rfl) rfl (get_set_same _ _), set_set, hcC]
    rfl
  have hb4 : storeAt (K2.set B (.row (clL cC vc va vr' vw' uv) 0 false)) B 10 [.int .i64 0] = some (K2.set B (.row (clL cD vc va vr' vw' uv) 0 false)) := by
    rw [store_cell rfl rfl (Nat.le_of_ble_eq_true rfl) rfl (get_set_same _ _), set_set, hcD]
    rfl
  have hb5 : storeAt (K2.set B (.row (clL cD vc va vr' vw' uv) 0 false)) B 11 [.int .i64 k] = some (K2.set B (.row (clL (submitC c t k) vc va vr' vw' uv) 0 false)) := by
    rw [store_cell rfl rfl (Nat.le_of_ble_eq_true rfl) rfl (get_set_same _ _), set_set, hcD, hcC, hcB, hcA]
    rfl
  refine dr_17_1 ?_
  simp -implicitDefEqProofs (disch:=first|omega|simp only [go_sem,Nat.reduceAdd]) only [go_sem,Int.reduceLT,Int.reduceLE,Int.reduceEq,reduceIte,true_and, l17_1, hca2, cellAt_row gaK, hb1, hb2, hb3, hb4, hb5]
  have gaX : ∀ o, (K2.set B o).get h.next = some (.row [.int .i64 (subT c t).ses, .int .i64 (subT c t).req, vc, va, vr', vw'] 0 false) := fun o => (get_set_other _ _ (by omega)).trans gaK
  refine ⟨⟨XSt1_at (i := 5) (j := 11) rfl rfl rfl ?_, XSt1_at (i := 7) (j := 11) rfl rfl rfl ?_, XSt1_at (i := 7) (j := 14) rfl rfl rfl ?_, trivial⟩, ?_⟩
  · rw [if_neg (by decide)]
    exact Ld_on (p := .pointer (some ⟨h.next, 0, none⟩)) (by simp -implicitDefEqProofs (disch:=first|omega|simp only [go_sem,Nat.reduceAdd]) only [go_sem,Int.reduceLT,Int.reduceLE,Int.reduceEq,reduceIte,true_and]) (by simp -implicitDefEqProofs (disch:=first|omega|simp only [go_sem,Nat.reduceAdd]) only [go_sem,Int.reduceLT,Int.reduceLE,Int.reduceEq,reduceIte,true_and]) (ld_26.trans (row_cells (gaX _) rfl))
  · rw [if_neg (by decide)]
    exact Ld_on (p := .pointer (some ⟨h.next, 1, none⟩)) (by simp -implicitDefEqProofs (disch:=first|omega|simp only [go_sem,Nat.reduceAdd]) only [go_sem,Int.reduceLT,Int.reduceLE,Int.reduceEq,reduceIte,true_and]) (by simp -implicitDefEqProofs (disch:=first|omega|simp only [go_sem,Nat.reduceAdd]) only [go_sem,Int.reduceLT,Int.reduceLE,Int.reduceEq,reduceIte,true_and]) (ld_2.trans (cellAt_row (gaX _)))
  · rw [if_neg (by decide)]
    exact Ld_on (p := .pointer (some ⟨h.next, 1, none⟩)) (by simp -implicitDefEqProofs (disch:=first|omega|simp only [go_sem,Nat.reduceAdd]) only [go_sem,Int.reduceLT,Int.reduceLE,Int.reduceEq,reduceIte,true_and]) (by simp -implicitDefEqProofs (disch:=first|omega|simp only [go_sem,Nat.reduceAdd]) only [go_sem,Int.reduceLT,Int.reduceLE,Int.reduceEq,reduceIte,true_and]) (ld_2.trans (cellAt_row (gaX _)))
  obtain ⟨M, hM⟩ : ∃ M, M = K2.set B (.row (clL (submitC c t k) vc va vr' vw' uv) 0 false) := ⟨_, rfl⟩
  rw [← hM]
  have hMn : M.next = K2.next := by rw [hM]; rfl
  have hKh := hEK.next
  have xM : ClAt (fun i => (S i ∨ S0 i ∨ (h.next ≤ i ∧ i < M.next)) ∧ i < M.next ∧ i ≠ B) M B (submitC c t k) vc va vr' vw' uv := by
    refine ⟨by rw [hM]; exact get_set_same _ _, (z2.box x2.row).mono fun i hi => ⟨⟨.inr (by rw [hMn]; exact hi.1), ?_, hi.2⟩, ?_⟩, x2.lv.mono fun i hi => ⟨⟨.inl hi, by have := (x.inS i hi).1; omega, (x.inS i hi).2⟩, ?_⟩, by rw [hMn]; exact x2.lt, fun i hi => hi.2⟩
    · rcases hi.1 with hh | hh
      · have := hSin i hh; omega
      · omega
    · rw [hM, get_set_other _ _ hi.2]
    · rw [hM, get_set_other _ _ (x.inS i hi).2]
  have gaM : M.get h.next = some (.row [.int .i64 (subT c t).ses, .int .i64 (subT c t).req, vc, va, vr', vw'] 0 false) := by rw [hM]; exact gaX _
  have gbM : M.get (h.next + 1) = some (.row askL0 0 false) := by rw [hM, get_set_other _ _ (by omega)]; exact gbK
  have hcaM : cellsAt M h.next 0 6 = some (txnV (subT c t).ses (subT c t).req vc va vr' vw') := row_cells gaM rfl
  have saM := storeAll (vs := askL k (subT c t).ses (subT c t).req vc va vr' vw' false nilV 0) gbM rfl (ask_one z2 (.nil fKey.rep NoS M))
  have hbd := bd_ask (k := k) (a := (subT c t).ses) (b := (subT c t).req) hvc hva hvr' hvw'
  simp -implicitDefEqProofs (disch:=first|omega|simp only [go_sem,Nat.reduceAdd]) only [go_sem,Int.reduceLT,Int.reduceLE,Int.reduceEq,reduceIte,true_and, hcaM, hbd, saM]
  refine ret_at (res_ct (n := 10) (w := .int .i64 0) (by simp -implicitDefEqProofs (disch:=first|omega|simp only [go_sem,Nat.reduceAdd]) only [go_sem,Int.reduceLT,Int.reduceLE,Int.reduceEq,reduceIte,true_and]) (by simp -implicitDefEqProofs (disch:=first|omega|simp only [go_sem,Nat.reduceAdd]) only [go_sem,Int.reduceLT,Int.reduceLE,Int.reduceEq,reduceIte,true_and]) (fun _ => ld_36) (row_cells (get_set_same _ _) rfl)) ?_
  rw [← hR]
  refine .inr ⟨hS0.trans he, ?_, vr', vw', rfl, ?_⟩
  · refine ⟨by show h.next ≤ M.next; have := hEK.next; omega, ?_, fun i hi hb => ?_⟩
    · show M.ng = h.ng
      rw [hM]; exact hEK.ng
    · rw [get_set_other _ _ (by omega), hM, get_set_other _ _ hb]
      exact hEK.get i hi
  · have gq : M.get (h.next + 1) = _ := gbM
    exact ⟨(get_set_other _ _ (by omega)).trans xM.row, (xM.tx.box gbM).mono fun i hi => ⟨hi.1, get_set_other _ _ hi.2⟩, (sl_box xM.lv (by decide) gbM).mono fun i hi => ⟨hi.1, get_set_other _ _ hi.2⟩, xM.lt, fun i hi => hi.2⟩
end Go.Proofs.Ytbdljpndncohaaa

namespace Go.Proofs.Ytbdljpndncohaaa
open Go.D
set_option maxRecDepth 100000

theorem append_fresh {P : Program} {α : Type} {F : FRep α} {S : Nat → Prop} {ts : Array TypeId} {b id0 : Nat} {h : DHeap} {x : Value} {k : List α} (g : h.get id0 = some (.row [] F.z false)) (hid : id0 < h.next) (hT : appT P ts = some (F.z, b)) (hs : Sl F.rep S h x k) (hlen : k.length ≤ 4294967296) (hb : b ≤ 32768) :
    ∃ v' h2, dAppend P ts (.slice (some ⟨id0, 0, none⟩) 0 0) x h = some (v', h2) ∧ Ext h h2 ∧ Sl F.rep (fun i => (i = id0 ∨ (h.next ≤ i ∧ i < h2.next)) ∧ Wrt h2 i) h2 v' k := by
  obtain ⟨new, e1, e2⟩ := hs.src
  have e2' : Els F.rep (fun i => i = id0) h new k := Els.flat.2 (Els.flat.1 e2)
  have hp : k.length * b ≤ 4294967296 * 32768 := Nat.mul_le_mul hlen hb
  have own : Owns F.rep (fun i => i = id0) h (.slice (some ⟨id0, 0, none⟩) 0 0) [] none := .inr (.inl ⟨rfl, ⟨_, rfl⟩, .inr ⟨id0, 0, 0, [], F.z, false, rfl, rfl, g, .inr rfl, by simp, by simp [Els]⟩⟩)
  obtain ⟨v', h2, w', a1, a2, a3, a4⟩ := own.append (k := k) hT (fun i hi => ⟨by omega, by simp⟩) hs.lenV e1 e2' (by simpa using Nat.le_trans hp (by decide)) (by simp; omega)
  have hE : Ext h h2 := ⟨a2.next, a2.ng, fun i hi => a2.get i hi (by simp)⟩
  refine ⟨v', h2, a1, hE, ?_⟩
  rcases a4 with ⟨rfl, _, rfl, rfl⟩ | ⟨hw, hn⟩
  · exact .inr ⟨id0, 0, 0, [], F.z, false, rfl, ⟨.inl rfl, [], _, g⟩, g, .inr rfl, by simp, by simp [Els]⟩
  · rcases a3 with ⟨_, _, hw2⟩ | ⟨hw2, _⟩ | ⟨id, cap, cells, rfl, hw2, lt, g2, hl, els⟩
    · rw [hw] at hw2; cases hw2
    · rw [hw] at hw2; cases hw2
    · rw [hw] at hw2
      cases hw2
      exact .inr ⟨h.next, 0, cap, cells, F.z, false, rfl, ⟨.inr ⟨Nat.le_refl _, by omega⟩, cells, _, g2⟩, g2, .inr rfl, by simpa using hl, by simpa using Els.flat.2 (Els.flat.1 els)⟩
end Go.Proofs.Ytbdljpndncohaaa

namespace Go.Proofs.Ytbdljpndncohaaa
open Go.D
set_option maxRecDepth 100000

/-- a list that was just made, empty -/
def MtS (z n : Nat) (h : DHeap) (v : Value) : Prop := ∃ id0, v = .slice (some ⟨id0, 0, none⟩) 0 0 ∧ n ≤ id0 ∧ id0 < h.next ∧ h.get id0 = some (.row [] z false)
/-- a list of one's own -/
abbrev SlN {α : Type} (F : FRep α) (n : Nat) (h : DHeap) (v : Value) (l : List α) : Prop := Sl F.rep (fun i => (n ≤ i ∧ i < h.next) ∧ Wrt h i) h v l
theorem MtS.ext {z n : Nat} {h h1 : DHeap} {v : Value} (e : Ext h h1) (x : MtS z n h v) : MtS z n h1 v := by
  obtain ⟨a, b, c, d, f⟩ := x
  exact ⟨a, b, c, Nat.lt_of_lt_of_le d e.next, (e.get _ d).trans f⟩
theorem MtS.set {z n B : Nat} {h : DHeap} {v : Value} {o : DObj} (hB : B < n) (x : MtS z n h v) : MtS z n (h.set B o) v := by
  obtain ⟨a, b, c, d, f⟩ := x
  exact ⟨a, b, c, d, (get_set_other _ _ (by omega)).trans f⟩
theorem SlN.ext {α : Type} {F : FRep α} {n : Nat} {h h1 : DHeap} {v : Value} {l : List α} (e : Ext h h1) (x : SlN F n h v l) : SlN F n h1 v l :=
  slW_mono x fun i hi => ⟨⟨hi.1, Nat.lt_of_lt_of_le hi.2 e.next⟩, e.get i hi.2⟩
theorem SlN.set {α : Type} {F : FRep α} {n B : Nat} {h : DHeap} {v : Value} {l : List α} {o : DObj} (hB : B < n) (x : SlN F n h v l) : SlN F n (h.set B o) v l :=
  slW_mono x fun i hi => ⟨hi, get_set_other _ _ (by omega)⟩
def CpV {α β : Type} (FA : FRep α) (FB : FRep β) (b1 b7 oA oB : Nat) (vA vB : Value) (lA : List α) (lB : List β) (n : Nat) (k : Nat) (h : DHeap) (v : Value) : Prop :=
  match k with
  | 0 => MtS FA.z n h v
  | 1 => v = .pointer (some ⟨b1, oA, none⟩)
  | 2 => v = vA
  | 3 => SlN FA n h v lA
  | 4 => MtS FB.z n h v
  | 5 => v = .pointer (some ⟨b1, oB, none⟩)
  | 6 => v = vB
  | 7 => SlN FB n h v lB
  | 8 => v = .pointer (some ⟨b7, oA, none⟩)
  | 9 => ∃ w, cellAt h b7 oA = some w ∧ SlN FA n h w lA
  | 10 => v = .pointer (some ⟨b7, oB, none⟩)
  | 11 => ∃ w, cellAt h b7 oB = some w ∧ SlN FB n h w lB
  | _ => True
section
variable {α β : Type} {FA : FRep α} {FB : FRep β} {b1 b7 oA oB : Nat} {vA vB : Value} {lA : List α} {lB : List β} {n : Nat} {k : Nat} {h h1 : DHeap} {v : Value}
theorem CpV.ext (e : Ext h h1) (hB : b7 < h.next) (x : CpV FA FB b1 b7 oA oB vA vB lA lB n k h v) : CpV FA FB b1 b7 oA oB vA vB lA lB n k h1 v := by
  unfold CpV at *
  split at x
  · exact x.ext e
  · exact x
  · exact x
  · exact SlN.ext e x
  · exact x.ext e
  · exact x
  · exact x
  · exact SlN.ext e x
  · exact x
  · obtain ⟨w, a, b⟩ := x
    exact ⟨w, (cellAt_ext e hB).trans a, SlN.ext e b⟩
  · exact x
  · obtain ⟨w, a, b⟩ := x
    exact ⟨w, (cellAt_ext e hB).trans a, SlN.ext e b⟩
  · trivial
theorem CpV.set {R : List Value} (hB : b7 < n) (hp : k = 9 → R[oA]? = cellAt h b7 oA) (hq : k = 11 → R[oB]? = cellAt h b7 oB) (x : CpV FA FB b1 b7 oA oB vA vB lA lB n k h v) : CpV FA FB b1 b7 oA oB vA vB lA lB n k (h.set b7 (.row R 0 false)) v := by
  unfold CpV at *
  split at x
  · exact x.set hB
  · exact x
  · exact x
  · exact SlN.set hB x
  · exact x.set hB
  · exact x
  · exact x
  · exact SlN.set hB x
  · exact x
  · obtain ⟨w, a, b⟩ := x
    exact ⟨w, by rw [cellAt_row (get_set_same _ _), hp rfl]; exact a, SlN.set hB b⟩
  · exact x
  · obtain ⟨w, a, b⟩ := x
    exact ⟨w, by rw [cellAt_row (get_set_same _ _), hq rfl]; exact a, SlN.set hB b⟩
  · trivial
end
structure OwnG0 (b7 : Nat) (a b : Int) (uc ua ur uw : Value) (K0 K : DHeap) : Prop where
  keep : Keep b7 K0 K
  row : ∃ x y, TxRow K b7 a b x y ur uw
set_option maxHeartbeats 2000000 in
theorem own_region0 {K0 : DHeap} {b1 b7 : Nat} {t : Txn} {a b : Int} {vc va vr vw uc ua ur uw : Value} {fr : Fr} {rd : Option Nat} (x : TxV (fun i => i < K0.next ∧ i ≠ b7) K0 t vc va vr vw) (hl : TxLen t) (h1 : b1 < K0.next) (h7 : b7 < K0.next) (h17 : b1 ≠ b7)
    (g1 : TxRow K0 b1 t.ses t.req vc va vr vw) (g7 : TxRow K0 b7 a b uc ua ur uw) (f1 : fr 1 = some (.pointer (some ⟨b1, 0, none⟩))) (f7 : fr 7 = some (.pointer (some ⟨b7, 0, none⟩))) :
    NC Try.prog 137 r4_0 (DThen (fun s => s.df = [] ∧ s.rd = rd ∧ s.fr 1 = fr 1 ∧ s.fr 3 = fr 3 ∧ s.fr 5 = fr 5 ∧ s.fr 7 = fr 7 ∧ Keep b7 K0 s.h ∧ ∃ p q, TxRow s.h b7 a b p q ur uw ∧ SlN fU8 K0.next s.h p t.code ∧ SlN fI64 K0.next s.h q t.args) (fun _ _ => False)) ⟨fr, [], K0, rd⟩ := by
  refine NC.regsU (l := l4_0) (by kernel_rfl) (by kernel_rfl) (by kernel_rfl) rfl (by kernel_rfl) (by kernel_rfl) (fun p q => OwnG0 b7 a b uc ua ur uw K0 p → OwnG0 b7 a b uc ua ur uw K0 q) (fun _ h => h) (fun _ _ _ f g h => g (f h)) (CpV fU8 fI64 b1 b7 2 3 vc va t.code t.args K0.next) (fun _ => none) (fun _ _ => True) (fun _ => trivial) ?_ ?_
  case refine_2 =>
    rintro ⟨fr1, df1, K, rd1⟩ g hF
    have gg := g.ext ⟨⟨Nat.le_refl _, rfl, fun _ _ _ => rfl⟩, _, _, g7⟩
    obtain ⟨_, w, w1, w2⟩ := (hF 9 (by decide) rfl).fact
    obtain ⟨_, y, y1, y2⟩ := (hF 11 (by decide) rfl).fact
    obtain ⟨p, q, hpq⟩ := gg.row
    rw [cellAt_row hpq] at w1 y1
    cases w1
    cases y1
    exact ⟨g.df, g.rd, g.fr 1 (by kernel_rfl), g.fr 3 (by kernel_rfl), g.fr 5 (by kernel_rfl), g.fr 7 (by kernel_rfl), gg.keep, _, _, hpq, w2, y2⟩
  intro k oo s ho g hpre hown hF hU
  have gg := g.ext ⟨⟨Nat.le_refl _, rfl, fun _ _ _ => rfl⟩, _, _, g7⟩
  have hKs := gg.keep.next
  have hBs : b7 < s.h.next := Nat.lt_of_lt_of_le h7 hKs
  have F1 : s.fr 1 = some (.pointer (some ⟨b1, 0, none⟩)) := (g.fr 1 (by kernel_rfl)).trans f1
  have F7 : s.fr 7 = some (.pointer (some ⟨b7, 0, none⟩)) := (g.fr 7 (by kernel_rfl)).trans f7
  have gs := (gg.keep.get _ h1 h17).trans g1
  have xs : TxV (InH s.h) s.h t vc va vr vw := x.mono fun i hi => ⟨Nat.lt_of_lt_of_le hi.1 hKs, gg.keep.get i hi.1 hi.2⟩
  have hk' : k < 12 := (List.getElem?_eq_some_iff.1 ho).1
  match k, hk' with
  | 0, _ =>
    simp only [l4_0, List.getElem?_cons_zero, List.getElem?_cons_succ, Option.some.injEq] at ho
    subst ho
    refine regu_val (h' := s.h.push (.row [] 1 false)) (v := .slice (some ⟨s.h.next, 0, none⟩) 0 0) (by simp -implicitDefEqProofs (disch:=first|omega|simp only [go_sem,Nat.reduceAdd]) only [go_sem,Int.reduceLT,Int.reduceLE,Int.reduceEq,reduceIte,true_and]) (by simp -implicitDefEqProofs (disch:=first|omega|simp only [go_sem,Nat.reduceAdd]) only [go_sem,Int.reduceLT,Int.reduceLE,Int.reduceEq,reduceIte,true_and]) (fun gx => ⟨gx.keep.ext (Ext.push1 _ _), ?_⟩) ⟨s.h.next, rfl, hKs, Nat.lt_succ_self _, get_push_same _ _⟩ (fun j u _ _ _ hV => hV.ext (Ext.push1 _ _) hBs) (fun _ _ _ _ => trivial)
    obtain ⟨p, q, hpq⟩ := gx.row
    exact ⟨p, q, ((Ext.push1 _ _).get _ hBs).trans hpq⟩
  | 1, _ =>
    simp only [l4_0, List.getElem?_cons_zero, List.getElem?_cons_succ, Option.some.injEq] at ho
    subst ho
    exact regu_pure (v := .pointer (some ⟨b1, 2, none⟩)) (fun _ h => h) (by simp -implicitDefEqProofs (disch:=first|omega|simp only [go_sem,Nat.reduceAdd]) only [go_sem,Int.reduceLT,Int.reduceLE,Int.reduceEq,reduceIte,true_and]) (by simp -implicitDefEqProofs (disch:=first|omega|simp only [go_sem,Nat.reduceAdd]) only [go_sem,Int.reduceLT,Int.reduceLE,Int.reduceEq,reduceIte,true_and, F1]) rfl
  | 2, _ =>
    simp only [l4_0, List.getElem?_cons_zero, List.getElem?_cons_succ, Option.some.injEq] at ho
    subst ho
    have q1 : s.fr 35 = some (.pointer (some ⟨b1, 2, none⟩)) := (hF 1 (by kernel_rfl) (.inl rfl)).eq rfl fun _ _ e => e
    exact regu_pure (v := vc) (fun _ h => h) (by simp -implicitDefEqProofs (disch:=first|omega|simp only [go_sem,Nat.reduceAdd]) only [go_sem,Int.reduceLT,Int.reduceLE,Int.reduceEq,reduceIte,true_and]) (by simp -implicitDefEqProofs (disch:=first|omega|simp only [go_sem,Nat.reduceAdd]) only [go_sem,Int.reduceLT,Int.reduceLE,Int.reduceEq,reduceIte,true_and, q1, cellAt_row gs]) rfl
  | 3, _ =>
    simp only [l4_0, List.getElem?_cons_zero, List.getElem?_cons_succ, Option.some.injEq] at ho
    subst ho
    have q2 : s.fr 36 = some (vc) := (hF 2 (by kernel_rfl) (.inl rfl)).eq rfl fun _ _ e => e
    obtain ⟨u, q0, id0, e1, i1, i2, i3⟩ := (hF 0 (by kernel_rfl) (.inl rfl)).ex (d := 34) rfl
    subst e1
    obtain ⟨w, h2, a1, a2, a3⟩ := append_fresh (F := fU8) i3 i2 app_22 xs.c (by have := hl.c; omega) (by decide)
    refine regu_val (h' := h2) (v := w) (by simp -implicitDefEqProofs (disch:=first|omega|simp only [go_sem,Nat.reduceAdd]) only [go_sem,Int.reduceLT,Int.reduceLE,Int.reduceEq,reduceIte,true_and]) (by simp -implicitDefEqProofs (disch:=first|omega|simp only [go_sem,Nat.reduceAdd]) only [go_sem,Int.reduceLT,Int.reduceLE,Int.reduceEq,reduceIte,true_and, q0, q2, a1]) (fun gx => ⟨gx.keep.ext a2, ?_⟩) (slW_mono a3 fun i hi => ⟨?_, rfl⟩) (fun j u _ _ _ hV => hV.ext a2 hBs) (fun _ _ _ _ => trivial)
    · obtain ⟨p, q, hpq⟩ := gx.row
      exact ⟨p, q, (a2.get _ hBs).trans hpq⟩
    · have := a2.next
      rcases hi with hi | hi
      · omega
      · omega
  | 4, _ =>
    simp only [l4_0, List.getElem?_cons_zero, List.getElem?_cons_succ, Option.some.injEq] at ho
    subst ho
    refine regu_val (h' := s.h.push (.row [] 1 false)) (v := .slice (some ⟨s.h.next, 0, none⟩) 0 0) (by simp -implicitDefEqProofs (disch:=first|omega|simp only [go_sem,Nat.reduceAdd]) only [go_sem,Int.reduceLT,Int.reduceLE,Int.reduceEq,reduceIte,true_and]) (by simp -implicitDefEqProofs (disch:=first|omega|simp only [go_sem,Nat.reduceAdd]) only [go_sem,Int.reduceLT,Int.reduceLE,Int.reduceEq,reduceIte,true_and]) (fun gx => ⟨gx.keep.ext (Ext.push1 _ _), ?_⟩) ⟨s.h.next, rfl, hKs, Nat.lt_succ_self _, get_push_same _ _⟩ (fun j u _ _ _ hV => hV.ext (Ext.push1 _ _) hBs) (fun _ _ _ _ => trivial)
    obtain ⟨p, q, hpq⟩ := gx.row
    exact ⟨p, q, ((Ext.push1 _ _).get _ hBs).trans hpq⟩
  | 5, _ =>
    simp only [l4_0, List.getElem?_cons_zero, List.getElem?_cons_succ, Option.some.injEq] at ho
    subst ho
    exact regu_pure (v := .pointer (some ⟨b1, 3, none⟩)) (fun _ h => h) (by simp -implicitDefEqProofs (disch:=first|omega|simp only [go_sem,Nat.reduceAdd]) only [go_sem,Int.reduceLT,Int.reduceLE,Int.reduceEq,reduceIte,true_and]) (by simp -implicitDefEqProofs (disch:=first|omega|simp only [go_sem,Nat.reduceAdd]) only [go_sem,Int.reduceLT,Int.reduceLE,Int.reduceEq,reduceIte,true_and, F1]) rfl
  | 6, _ =>
    simp only [l4_0, List.getElem?_cons_zero, List.getElem?_cons_succ, Option.some.injEq] at ho
    subst ho
    have q5 : s.fr 39 = some (.pointer (some ⟨b1, 3, none⟩)) := (hF 5 (by kernel_rfl) (.inl rfl)).eq rfl fun _ _ e => e
    exact regu_pure (v := va) (fun _ h => h) (by simp -implicitDefEqProofs (disch:=first|omega|simp only [go_sem,Nat.reduceAdd]) only [go_sem,Int.reduceLT,Int.reduceLE,Int.reduceEq,reduceIte,true_and]) (by simp -implicitDefEqProofs (disch:=first|omega|simp only [go_sem,Nat.reduceAdd]) only [go_sem,Int.reduceLT,Int.reduceLE,Int.reduceEq,reduceIte,true_and, q5, cellAt_row gs]) rfl
  | 7, _ =>
    simp only [l4_0, List.getElem?_cons_zero, List.getElem?_cons_succ, Option.some.injEq] at ho
    subst ho
    have q6 : s.fr 40 = some (va) := (hF 6 (by kernel_rfl) (.inl rfl)).eq rfl fun _ _ e => e
    obtain ⟨u, q4, id0, e1, i1, i2, i3⟩ := (hF 4 (by kernel_rfl) (.inl rfl)).ex (d := 38) rfl
    subst e1
    obtain ⟨w, h2, a1, a2, a3⟩ := append_fresh (F := fI64) i3 i2 app_23 xs.a (by have := hl.a; omega) (by decide)
    refine regu_val (h' := h2) (v := w) (by simp -implicitDefEqProofs (disch:=first|omega|simp only [go_sem,Nat.reduceAdd]) only [go_sem,Int.reduceLT,Int.reduceLE,Int.reduceEq,reduceIte,true_and]) (by simp -implicitDefEqProofs (disch:=first|omega|simp only [go_sem,Nat.reduceAdd]) only [go_sem,Int.reduceLT,Int.reduceLE,Int.reduceEq,reduceIte,true_and, q4, q6, a1]) (fun gx => ⟨gx.keep.ext a2, ?_⟩) (slW_mono a3 fun i hi => ⟨?_, rfl⟩) (fun j u _ _ _ hV => hV.ext a2 hBs) (fun _ _ _ _ => trivial)
    · obtain ⟨p, q, hpq⟩ := gx.row
      exact ⟨p, q, (a2.get _ hBs).trans hpq⟩
    · have := a2.next
      rcases hi with hi | hi
      · omega
      · omega
  | 8, _ =>
    simp only [l4_0, List.getElem?_cons_zero, List.getElem?_cons_succ, Option.some.injEq] at ho
    subst ho
    exact regu_pure (v := .pointer (some ⟨b7, 2, none⟩)) (fun _ h => h) (by simp -implicitDefEqProofs (disch:=first|omega|simp only [go_sem,Nat.reduceAdd]) only [go_sem,Int.reduceLT,Int.reduceLE,Int.reduceEq,reduceIte,true_and]) (by simp -implicitDefEqProofs (disch:=first|omega|simp only [go_sem,Nat.reduceAdd]) only [go_sem,Int.reduceLT,Int.reduceLE,Int.reduceEq,reduceIte,true_and, F7]) rfl
  | 9, _ =>
    simp only [l4_0, List.getElem?_cons_zero, List.getElem?_cons_succ, Option.some.injEq] at ho
    subst ho
    have q8 : s.fr 42 = some (.pointer (some ⟨b7, 2, none⟩)) := (hF 8 (by kernel_rfl) (.inl rfl)).eq rfl fun _ _ e => e
    obtain ⟨w, qw, vw'⟩ := (hF 3 (by kernel_rfl) (.inl rfl)).ex (d := 37) rfl
    have vw2 : SlN fU8 K0.next s.h w _ := vw'
    obtain ⟨p, q, hpq⟩ := gg.row
    have hst : dStore Try.prog 22 (.pointer (some ⟨b7, 2, none⟩)) w s.h = some (s.h.set b7 (.row [.int .i64 a, .int .i64 b, w, q, ur, uw] 0 false)) := (st_22 vw2.cells1).trans (store_cell vw2.cells1 (one_sl vw2) (by simp) rfl hpq)
    have cA : cellAt s.h b7 2 = some p := cellAt_row hpq
    have cB : cellAt s.h b7 3 = some q := cellAt_row hpq
    refine regu_store (h' := s.h.set b7 (.row [.int .i64 a, .int .i64 b, w, q, ur, uw] 0 false)) (by simp -implicitDefEqProofs (disch:=first|omega|simp only [go_sem,Nat.reduceAdd]) only [go_sem,Int.reduceLT,Int.reduceLE,Int.reduceEq,reduceIte,true_and]) (by simp -implicitDefEqProofs (disch:=first|omega|simp only [go_sem,Nat.reduceAdd]) only [go_sem,Int.reduceLT,Int.reduceLE,Int.reduceEq,reduceIte,true_and, q8, qw, hst]) (fun gx => ⟨gx.keep.set _, _, _, get_set_same _ _⟩) ⟨w, cellAt_row (get_set_same _ _), SlN.set h7 vw2⟩ (fun j u h1 _ _ hV => hV.set h7 (fun e => by first | exact absurd e h1 | exact cA.symm) (fun e => by first | exact absurd e h1 | exact cB.symm)) (fun _ _ _ _ => trivial)
  | 10, _ =>
    simp only [l4_0, List.getElem?_cons_zero, List.getElem?_cons_succ, Option.some.injEq] at ho
    subst ho
    exact regu_pure (v := .pointer (some ⟨b7, 3, none⟩)) (fun _ h => h) (by simp -implicitDefEqProofs (disch:=first|omega|simp only [go_sem,Nat.reduceAdd]) only [go_sem,Int.reduceLT,Int.reduceLE,Int.reduceEq,reduceIte,true_and]) (by simp -implicitDefEqProofs (disch:=first|omega|simp only [go_sem,Nat.reduceAdd]) only [go_sem,Int.reduceLT,Int.reduceLE,Int.reduceEq,reduceIte,true_and, F7]) rfl
  | 11, _ =>
    simp only [l4_0, List.getElem?_cons_zero, List.getElem?_cons_succ, Option.some.injEq] at ho
    subst ho
    have q10 : s.fr 43 = some (.pointer (some ⟨b7, 3, none⟩)) := (hF 10 (by kernel_rfl) (.inl rfl)).eq rfl fun _ _ e => e
    obtain ⟨w, qw, vw'⟩ := (hF 7 (by kernel_rfl) (.inl rfl)).ex (d := 41) rfl
    have vw2 : SlN fI64 K0.next s.h w _ := vw'
    obtain ⟨p, q, hpq⟩ := gg.row
    have hst : dStore Try.prog 23 (.pointer (some ⟨b7, 3, none⟩)) w s.h = some (s.h.set b7 (.row [.int .i64 a, .int .i64 b, p, w, ur, uw] 0 false)) := (st_23 vw2.cells1).trans (store_cell vw2.cells1 (one_sl vw2) (by simp) rfl hpq)
    have cA : cellAt s.h b7 2 = some p := cellAt_row hpq
    have cB : cellAt s.h b7 3 = some q := cellAt_row hpq
    refine regu_store (h' := s.h.set b7 (.row [.int .i64 a, .int .i64 b, p, w, ur, uw] 0 false)) (by simp -implicitDefEqProofs (disch:=first|omega|simp only [go_sem,Nat.reduceAdd]) only [go_sem,Int.reduceLT,Int.reduceLE,Int.reduceEq,reduceIte,true_and]) (by simp -implicitDefEqProofs (disch:=first|omega|simp only [go_sem,Nat.reduceAdd]) only [go_sem,Int.reduceLT,Int.reduceLE,Int.reduceEq,reduceIte,true_and, q10, qw, hst]) (fun gx => ⟨gx.keep.set _, _, _, get_set_same _ _⟩) ⟨w, cellAt_row (get_set_same _ _), SlN.set h7 vw2⟩ (fun j u h1 _ _ hV => hV.set h7 (fun e => by first | exact absurd e h1 | exact cA.symm) (fun e => by first | exact absurd e h1 | exact cB.symm)) (fun _ _ _ _ => trivial)
structure OwnG1 (b7 : Nat) (a b : Int) (uc ua ur uw : Value) (K0 K : DHeap) : Prop where
  keep : Keep b7 K0 K
  row : ∃ x y, TxRow K b7 a b uc ua x y
set_option maxHeartbeats 2000000 in
theorem own_region1 {K0 : DHeap} {b1 b7 : Nat} {t : Txn} {a b : Int} {vc va vr vw uc ua ur uw : Value} {fr : Fr} {rd : Option Nat} (x : TxV (fun i => i < K0.next ∧ i ≠ b7) K0 t vc va vr vw) (hl : TxLen t) (h1 : b1 < K0.next) (h7 : b7 < K0.next) (h17 : b1 ≠ b7)
    (g1 : TxRow K0 b1 t.ses t.req vc va vr vw) (g7 : TxRow K0 b7 a b uc ua ur uw) (f1 : fr 1 = some (.pointer (some ⟨b1, 0, none⟩))) (f7 : fr 7 = some (.pointer (some ⟨b7, 0, none⟩))) :
    NC Try.prog 137 r4_1 (DThen (fun s => s.df = [] ∧ s.rd = rd ∧ s.fr 1 = fr 1 ∧ s.fr 3 = fr 3 ∧ s.fr 5 = fr 5 ∧ s.fr 7 = fr 7 ∧ Keep b7 K0 s.h ∧ ∃ p q, TxRow s.h b7 a b uc ua p q ∧ SlN fKey K0.next s.h p t.reads ∧ SlN fKey K0.next s.h q t.writes) (fun _ _ => False)) ⟨fr, [], K0, rd⟩ := by
  refine NC.regsU (l := l4_1) (by kernel_rfl) (by kernel_rfl) (by kernel_rfl) rfl (by kernel_rfl) (by kernel_rfl) (fun p q => OwnG1 b7 a b uc ua ur uw K0 p → OwnG1 b7 a b uc ua ur uw K0 q) (fun _ h => h) (fun _ _ _ f g h => g (f h)) (CpV fKey fKey b1 b7 4 5 vr vw t.reads t.writes K0.next) (fun _ => none) (fun _ _ => True) (fun _ => trivial) ?_ ?_
  case refine_2 =>
    rintro ⟨fr1, df1, K, rd1⟩ g hF
    have gg := g.ext ⟨⟨Nat.le_refl _, rfl, fun _ _ _ => rfl⟩, _, _, g7⟩
    obtain ⟨_, w, w1, w2⟩ := (hF 9 (by decide) rfl).fact
    obtain ⟨_, y, y1, y2⟩ := (hF 11 (by decide) rfl).fact
    obtain ⟨p, q, hpq⟩ := gg.row
    rw [cellAt_row hpq] at w1 y1
    cases w1
    cases y1
    exact ⟨g.df, g.rd, g.fr 1 (by kernel_rfl), g.fr 3 (by kernel_rfl), g.fr 5 (by kernel_rfl), g.fr 7 (by kernel_rfl), gg.keep, _, _, hpq, w2, y2⟩
  intro k oo s ho g hpre hown hF hU
  have gg := g.ext ⟨⟨Nat.le_refl _, rfl, fun _ _ _ => rfl⟩, _, _, g7⟩
  have hKs := gg.keep.next
  have hBs : b7 < s.h.next := Nat.lt_of_lt_of_le h7 hKs
  have F1 : s.fr 1 = some (.pointer (some ⟨b1, 0, none⟩)) := (g.fr 1 (by kernel_rfl)).trans f1
  have F7 : s.fr 7 = some (.pointer (some ⟨b7, 0, none⟩)) := (g.fr 7 (by kernel_rfl)).trans f7
  have gs := (gg.keep.get _ h1 h17).trans g1
  have xs : TxV (InH s.h) s.h t vc va vr vw := x.mono fun i hi => ⟨Nat.lt_of_lt_of_le hi.1 hKs, gg.keep.get i hi.1 hi.2⟩
  have hk' : k < 12 := (List.getElem?_eq_some_iff.1 ho).1
  match k, hk' with
  | 0, _ =>
    simp only [l4_1, List.getElem?_cons_zero, List.getElem?_cons_succ, Option.some.injEq] at ho
    subst ho
    refine regu_val (h' := s.h.push (.row [] 2 false)) (v := .slice (some ⟨s.h.next, 0, none⟩) 0 0) (by simp -implicitDefEqProofs (disch:=first|omega|simp only [go_sem,Nat.reduceAdd]) only [go_sem,Int.reduceLT,Int.reduceLE,Int.reduceEq,reduceIte,true_and]) (by simp -implicitDefEqProofs (disch:=first|omega|simp only [go_sem,Nat.reduceAdd]) only [go_sem,Int.reduceLT,Int.reduceLE,Int.reduceEq,reduceIte,true_and]) (fun gx => ⟨gx.keep.ext (Ext.push1 _ _), ?_⟩) ⟨s.h.next, rfl, hKs, Nat.lt_succ_self _, get_push_same _ _⟩ (fun j u _ _ _ hV => hV.ext (Ext.push1 _ _) hBs) (fun _ _ _ _ => trivial)
    obtain ⟨p, q, hpq⟩ := gx.row
    exact ⟨p, q, ((Ext.push1 _ _).get _ hBs).trans hpq⟩
  | 1, _ =>
    simp only [l4_1, List.getElem?_cons_zero, List.getElem?_cons_succ, Option.some.injEq] at ho
    subst ho
    exact regu_pure (v := .pointer (some ⟨b1, 4, none⟩)) (fun _ h => h) (by simp -implicitDefEqProofs (disch:=first|omega|simp only [go_sem,Nat.reduceAdd]) only [go_sem,Int.reduceLT,Int.reduceLE,Int.reduceEq,reduceIte,true_and]) (by simp -implicitDefEqProofs (disch:=first|omega|simp only [go_sem,Nat.reduceAdd]) only [go_sem,Int.reduceLT,Int.reduceLE,Int.reduceEq,reduceIte,true_and, F1]) rfl
  | 2, _ =>
    simp only [l4_1, List.getElem?_cons_zero, List.getElem?_cons_succ, Option.some.injEq] at ho
    subst ho
    have q1 : s.fr 45 = some (.pointer (some ⟨b1, 4, none⟩)) := (hF 1 (by kernel_rfl) (.inl rfl)).eq rfl fun _ _ e => e
    exact regu_pure (v := vr) (fun _ h => h) (by simp -implicitDefEqProofs (disch:=first|omega|simp only [go_sem,Nat.reduceAdd]) only [go_sem,Int.reduceLT,Int.reduceLE,Int.reduceEq,reduceIte,true_and]) (by simp -implicitDefEqProofs (disch:=first|omega|simp only [go_sem,Nat.reduceAdd]) only [go_sem,Int.reduceLT,Int.reduceLE,Int.reduceEq,reduceIte,true_and, q1, cellAt_row gs]) rfl
  | 3, _ =>
    simp only [l4_1, List.getElem?_cons_zero, List.getElem?_cons_succ, Option.some.injEq] at ho
    subst ho
    have q2 : s.fr 46 = some (vr) := (hF 2 (by kernel_rfl) (.inl rfl)).eq rfl fun _ _ e => e
    obtain ⟨u, q0, id0, e1, i1, i2, i3⟩ := (hF 0 (by kernel_rfl) (.inl rfl)).ex (d := 44) rfl
    subst e1
    obtain ⟨w, h2, a1, a2, a3⟩ := append_fresh (F := fKey) i3 i2 app_24 xs.r (by have := hl.r; omega) (by decide)
    refine regu_val (h' := h2) (v := w) (by simp -implicitDefEqProofs (disch:=first|omega|simp only [go_sem,Nat.reduceAdd]) only [go_sem,Int.reduceLT,Int.reduceLE,Int.reduceEq,reduceIte,true_and]) (by simp -implicitDefEqProofs (disch:=first|omega|simp only [go_sem,Nat.reduceAdd]) only [go_sem,Int.reduceLT,Int.reduceLE,Int.reduceEq,reduceIte,true_and, q0, q2, a1]) (fun gx => ⟨gx.keep.ext a2, ?_⟩) (slW_mono a3 fun i hi => ⟨?_, rfl⟩) (fun j u _ _ _ hV => hV.ext a2 hBs) (fun _ _ _ _ => trivial)
    · obtain ⟨p, q, hpq⟩ := gx.row
      exact ⟨p, q, (a2.get _ hBs).trans hpq⟩
    · have := a2.next
      rcases hi with hi | hi
      · omega
      · omega
  | 4, _ =>
    simp only [l4_1, List.getElem?_cons_zero, List.getElem?_cons_succ, Option.some.injEq] at ho
    subst ho
    refine regu_val (h' := s.h.push (.row [] 2 false)) (v := .slice (some ⟨s.h.next, 0, none⟩) 0 0) (by simp -implicitDefEqProofs (disch:=first|omega|simp only [go_sem,Nat.reduceAdd]) only [go_sem,Int.reduceLT,Int.reduceLE,Int.reduceEq,reduceIte,true_and]) (by simp -implicitDefEqProofs (disch:=first|omega|simp only [go_sem,Nat.reduceAdd]) only [go_sem,Int.reduceLT,Int.reduceLE,Int.reduceEq,reduceIte,true_and]) (fun gx => ⟨gx.keep.ext (Ext.push1 _ _), ?_⟩) ⟨s.h.next, rfl, hKs, Nat.lt_succ_self _, get_push_same _ _⟩ (fun j u _ _ _ hV => hV.ext (Ext.push1 _ _) hBs) (fun _ _ _ _ => trivial)
    obtain ⟨p, q, hpq⟩ := gx.row
    exact ⟨p, q, ((Ext.push1 _ _).get _ hBs).trans hpq⟩
  | 5, _ =>
    simp only [l4_1, List.getElem?_cons_zero, List.getElem?_cons_succ, Option.some.injEq] at ho
    subst ho
    exact regu_pure (v := .pointer (some ⟨b1, 5, none⟩)) (fun _ h => h) (by simp -implicitDefEqProofs (disch:=first|omega|simp only [go_sem,Nat.reduceAdd]) only [go_sem,Int.reduceLT,Int.reduceLE,Int.reduceEq,reduceIte,true_and]) (by simp -implicitDefEqProofs (disch:=first|omega|simp only [go_sem,Nat.reduceAdd]) only [go_sem,Int.reduceLT,Int.reduceLE,Int.reduceEq,reduceIte,true_and, F1]) rfl
  | 6, _ =>
    simp only [l4_1, List.getElem?_cons_zero, List.getElem?_cons_succ, Option.some.injEq] at ho
    subst ho
    have q5 : s.fr 49 = some (.pointer (some ⟨b1, 5, none⟩)) := (hF 5 (by kernel_rfl) (.inl rfl)).eq rfl fun _ _ e => e
    exact regu_pure (v := vw) (fun _ h => h) (by simp -implicitDefEqProofs (disch:=first|omega|simp only [go_sem,Nat.reduceAdd]) only [go_sem,Int.reduceLT,Int.reduceLE,Int.reduceEq,reduceIte,true_and]) (by simp -implicitDefEqProofs (disch:=first|omega|simp only [go_sem,Nat.reduceAdd]) only [go_sem,Int.reduceLT,Int.reduceLE,Int.reduceEq,reduceIte,true_and, q5, cellAt_row gs]) rfl
  | 7, _ =>
    simp only [l4_1, List.getElem?_cons_zero, List.getElem?_cons_succ, Option.some.injEq] at ho
    subst ho
    have q6 : s.fr 50 = some (vw) := (hF 6 (by kernel_rfl) (.inl rfl)).eq rfl fun _ _ e => e
    obtain ⟨u, q4, id0, e1, i1, i2, i3⟩ := (hF 4 (by kernel_rfl) (.inl rfl)).ex (d := 48) rfl
    subst e1
    obtain ⟨w, h2, a1, a2, a3⟩ := append_fresh (F := fKey) i3 i2 app_24 xs.w (by have := hl.w; omega) (by decide)
    refine regu_val (h' := h2) (v := w) (by simp -implicitDefEqProofs (disch:=first|omega|simp only [go_sem,Nat.reduceAdd]) only [go_sem,Int.reduceLT,Int.reduceLE,Int.reduceEq,reduceIte,true_and]) (by simp -implicitDefEqProofs (disch:=first|omega|simp only [go_sem,Nat.reduceAdd]) only [go_sem,Int.reduceLT,Int.reduceLE,Int.reduceEq,reduceIte,true_and, q4, q6, a1]) (fun gx => ⟨gx.keep.ext a2, ?_⟩) (slW_mono a3 fun i hi => ⟨?_, rfl⟩) (fun j u _ _ _ hV => hV.ext a2 hBs) (fun _ _ _ _ => trivial)
    · obtain ⟨p, q, hpq⟩ := gx.row
      exact ⟨p, q, (a2.get _ hBs).trans hpq⟩
    · have := a2.next
      rcases hi with hi | hi
      · omega
      · omega
  | 8, _ =>
    simp only [l4_1, List.getElem?_cons_zero, List.getElem?_cons_succ, Option.some.injEq] at ho
    subst ho
    exact regu_pure (v := .pointer (some ⟨b7, 4, none⟩)) (fun _ h => h) (by simp -implicitDefEqProofs (disch:=first|omega|simp only [go_sem,Nat.reduceAdd]) only [go_sem,Int.reduceLT,Int.reduceLE,Int.reduceEq,reduceIte,true_and]) (by simp -implicitDefEqProofs (disch:=first|omega|simp only [go_sem,Nat.reduceAdd]) only [go_sem,Int.reduceLT,Int.reduceLE,Int.reduceEq,reduceIte,true_and, F7]) rfl
  | 9, _ =>
    simp only [l4_1, List.getElem?_cons_zero, List.getElem?_cons_succ, Option.some.injEq] at ho
    subst ho
    have q8 : s.fr 52 = some (.pointer (some ⟨b7, 4, none⟩)) := (hF 8 (by kernel_rfl) (.inl rfl)).eq rfl fun _ _ e => e
    obtain ⟨w, qw, vw'⟩ := (hF 3 (by kernel_rfl) (.inl rfl)).ex (d := 47) rfl
    have vw2 : SlN fKey K0.next s.h w _ := vw'
    obtain ⟨p, q, hpq⟩ := gg.row
    have hst : dStore Try.prog 24 (.pointer (some ⟨b7, 4, none⟩)) w s.h = some (s.h.set b7 (.row [.int .i64 a, .int .i64 b, uc, ua, w, q] 0 false)) := (st_24 vw2.cells1).trans (store_cell vw2.cells1 (one_sl vw2) (by simp) rfl hpq)
    have cA : cellAt s.h b7 4 = some p := cellAt_row hpq
    have cB : cellAt s.h b7 5 = some q := cellAt_row hpq
    refine regu_store (h' := s.h.set b7 (.row [.int .i64 a, .int .i64 b, uc, ua, w, q] 0 false)) (by simp -implicitDefEqProofs (disch:=first|omega|simp only [go_sem,Nat.reduceAdd]) only [go_sem,Int.reduceLT,Int.reduceLE,Int.reduceEq,reduceIte,true_and]) (by simp -implicitDefEqProofs (disch:=first|omega|simp only [go_sem,Nat.reduceAdd]) only [go_sem,Int.reduceLT,Int.reduceLE,Int.reduceEq,reduceIte,true_and, q8, qw, hst]) (fun gx => ⟨gx.keep.set _, _, _, get_set_same _ _⟩) ⟨w, cellAt_row (get_set_same _ _), SlN.set h7 vw2⟩ (fun j u h1 _ _ hV => hV.set h7 (fun e => by first | exact absurd e h1 | exact cA.symm) (fun e => by first | exact absurd e h1 | exact cB.symm)) (fun _ _ _ _ => trivial)
  | 10, _ =>
    simp only [l4_1, List.getElem?_cons_zero, List.getElem?_cons_succ, Option.some.injEq] at ho
    subst ho
    exact regu_pure (v := .pointer (some ⟨b7, 5, none⟩)) (fun _ h => h) (by simp -implicitDefEqProofs (disch:=first|omega|simp only [go_sem,Nat.reduceAdd]) only [go_sem,Int.reduceLT,Int.reduceLE,Int.reduceEq,reduceIte,true_and]) (by simp -implicitDefEqProofs (disch:=first|omega|simp only [go_sem,Nat.reduceAdd]) only [go_sem,Int.reduceLT,Int.reduceLE,Int.reduceEq,reduceIte,true_and, F7]) rfl
  | 11, _ =>
    simp only [l4_1, List.getElem?_cons_zero, List.getElem?_cons_succ, Option.some.injEq] at ho
    subst ho
    have q10 : s.fr 53 = some (.pointer (some ⟨b7, 5, none⟩)) := (hF 10 (by kernel_rfl) (.inl rfl)).eq rfl fun _ _ e => e
    obtain ⟨w, qw, vw'⟩ := (hF 7 (by kernel_rfl) (.inl rfl)).ex (d := 51) rfl
    have vw2 : SlN fKey K0.next s.h w _ := vw'
    obtain ⟨p, q, hpq⟩ := gg.row
    have hst : dStore Try.prog 24 (.pointer (some ⟨b7, 5, none⟩)) w s.h = some (s.h.set b7 (.row [.int .i64 a, .int .i64 b, uc, ua, p, w] 0 false)) := (st_24 vw2.cells1).trans (store_cell vw2.cells1 (one_sl vw2) (by simp) rfl hpq)
    have cA : cellAt s.h b7 4 = some p := cellAt_row hpq
    have cB : cellAt s.h b7 5 = some q := cellAt_row hpq
    refine regu_store (h' := s.h.set b7 (.row [.int .i64 a, .int .i64 b, uc, ua, p, w] 0 false)) (by simp -implicitDefEqProofs (disch:=first|omega|simp only [go_sem,Nat.reduceAdd]) only [go_sem,Int.reduceLT,Int.reduceLE,Int.reduceEq,reduceIte,true_and]) (by simp -implicitDefEqProofs (disch:=first|omega|simp only [go_sem,Nat.reduceAdd]) only [go_sem,Int.reduceLT,Int.reduceLE,Int.reduceEq,reduceIte,true_and, q10, qw, hst]) (fun gx => ⟨gx.keep.set _, _, _, get_set_same _ _⟩) ⟨w, cellAt_row (get_set_same _ _), SlN.set h7 vw2⟩ (fun j u h1 _ _ hV => hV.set h7 (fun e => by first | exact absurd e h1 | exact cA.symm) (fun e => by first | exact absurd e h1 | exact cB.symm)) (fun _ _ _ _ => trivial)
end Go.Proofs.Ytbdljpndncohaaa

namespace Go.Proofs.Ytbdljpndncohaaa
open Go.D
set_option maxRecDepth 100000

/-- all but the blocks of D is as it was -/
structure KeepD (D : Nat → Prop) (h K : DHeap) : Prop where
  next : h.next ≤ K.next
  ng : K.ng = h.ng
  get : ∀ i, i < h.next → ¬ D i → K.get i = h.get i
theorem KeepD.refl (D : Nat → Prop) (h : DHeap) : KeepD D h h := ⟨Nat.le_refl _, rfl, fun _ _ _ => rfl⟩
theorem KeepD.set {D : Nat → Prop} {h K : DHeap} {id : Nat} {o : DObj} (k : KeepD D h K) (hD : D id) : KeepD D h (K.set id o) :=
  ⟨k.next, k.ng, fun i hi hn => (get_set_other _ _ (fun e : i = id => hn (by rw [e]; exact hD))).trans (k.get i hi hn)⟩
/-- n elements of z cells that may be written, in blocks of D -/
def WrL (z n : Nat) (w : Value) (D : Nat → Prop) (K : DHeap) : Prop := n = 0 ∨ ∃ id o cap cells, w = .slice (some ⟨id, o, none⟩) n cap ∧ D id ∧ K.get id = some (.row cells z false) ∧ o + n * z ≤ cells.length
theorem WrL.of {α : Type} {F : FRep α} {S D : Nat → Prop} {h : DHeap} {v : Value} {l : List α} (x : Sl F.rep (fun i => S i ∧ Wrt h i) h v l) (hD : ∀ i, S i → D i) : WrL F.z l.length v D h := by
  rcases x with ⟨rfl, rfl⟩ | ⟨id, o, cap, cells, esz, ro, rfl, ⟨hS, cs, z, g'⟩, g, hro, hl, _⟩
  · exact .inl rfl
  · rw [g] at g'
    cases g'
    rcases hro with hro | hro
    · cases hro
    · subst hro
      exact .inr ⟨id, o, cap, _, rfl, hD id hS, g, hl⟩
theorem WrL.set {z z' n id' : Nat} {w : Value} {D : Nat → Prop} {K : DHeap} {cells cells' : List Value} (x : WrL z n w D K) (g : K.get id' = some (.row cells z' false)) (hl : cells'.length = cells.length) : WrL z n w D (K.set id' (.row cells' z' false)) := by
  rcases x with x | ⟨id, o, cap, cs, rfl, hd, gg, hlen⟩
  · exact .inl x
  · by_cases h : id = id'
    · subst h
      rw [g] at gg
      cases gg
      exact .inr ⟨id, o, cap, cells', rfl, hd, get_set_same _ _, by rw [hl]; exact hlen⟩
    · exact .inr ⟨id, o, cap, cs, rfl, hd, (get_set_other _ _ h).trans gg, hlen⟩
theorem WrL.step {P : Program} {t : TypeId} {z n i j : Nat} {w v : Value} {D : Nat → Prop} {K : DHeap} (x : WrL z n w D K) (hi : i < n) (hj : j < z) (hel : slElem P t = some z) (hv : [v].all Value.oneCell' = true) :
    ∃ id o cells cells', dIndexAddr P t w (.int .i64 (i : Nat)) = some (.pointer (some ⟨id, o, none⟩)) ∧ D id ∧ K.get id = some (.row cells z false) ∧ cells'.length = cells.length ∧ storeAt K id (o + j) [v] = some (K.set id (.row cells' z false)) := by
  rcases x with x | ⟨id, o, cap, cs, rfl, hd, gg, hlen⟩
  · omega
  · refine ⟨id, o + i * z, cs, setAt cs (o + i * z + j) [v], ?_, hd, gg, setAt_length _ _ _, storeAt_row gg ?_ hv⟩
    · refine (dIndexAddr_at hel (by omega) (by omega)).trans ?_
      rw [Int.toNat_natCast]
    · have hm : (i + 1) * z ≤ n * z := Nat.mul_le_mul_right _ hi
      rw [Nat.succ_mul] at hm
      show o + i * z + j + 1 ≤ cs.length
      omega
/-- what the loops keep -/
structure OwnI (D : Nat → Prop) (h : DHeap) (n1 n2 n3 n4 : Nat) (w1 w2 w3 w4 : Value) (K : DHeap) : Prop where
  keep : KeepD D h K
  a1 : WrL 1 n1 w1 D K
  a2 : WrL 2 n2 w2 D K
  a3 : WrL 1 n3 w3 D K
  a4 : WrL 2 n4 w4 D K
theorem OwnI.set {D : Nat → Prop} {h K : DHeap} {n1 n2 n3 n4 id z : Nat} {w1 w2 w3 w4 : Value} {cells cells' : List Value} (x : OwnI D h n1 n2 n3 n4 w1 w2 w3 w4 K) (hD : D id) (g : K.get id = some (.row cells z false)) (hl : cells'.length = cells.length) : OwnI D h n1 n2 n3 n4 w1 w2 w3 w4 (K.set id (.row cells' z false)) :=
  ⟨x.keep.set hD, x.a1.set g hl, x.a2.set g hl, x.a3.set g hl, x.a4.set g hl⟩
theorem ClAt.keepD {S D : Nat → Prop} {h K : DHeap} {B : Nat} {c : Cl} {vc va vr vw vv : Value} (x : ClAt S h B c vc va vr vw vv) (k : KeepD D h K) (hB : ¬ D B) (hS : ∀ i, S i → ¬ D i) : ClAt S K B c vc va vr vw vv :=
  ⟨(k.get _ x.lt hB).trans x.row, x.tx.mono fun i hi => ⟨hi, k.get i (x.inS i hi).1 (hS i hi)⟩, x.lv.mono fun i hi => ⟨hi, k.get i (x.inS i hi).1 (hS i hi)⟩, Nat.lt_of_lt_of_le x.lt k.next, fun i hi => ⟨Nat.lt_of_lt_of_le (x.inS i hi).1 k.next, (x.inS i hi).2⟩⟩
end Go.Proofs.Ytbdljpndncohaaa

namespace Go.Proofs.Ytbdljpndncohaaa
open Go.D
set_option maxRecDepth 100000

theorem bin_booleql {a b : Bool} {h : DHeap} {ox oy : Operand} : dBinOp Try.prog .eql 4 ox oy (.bool a) (.bool b) h = .ok (.value (.bool (a == b))) h := by
  have hf : (flat3 (.bool a) && flat3 (.bool b)) = true := rfl
  simp only [dBinOp, hf, if_true, dval]
  cases a <;> cases b <;> rfl
theorem WrL.mono {z n : Nat} {w : Value} {D D' : Nat → Prop} {K K' : DHeap} (x : WrL z n w D K) (m : ∀ i, D i → D' i ∧ K'.get i = K.get i) : WrL z n w D' K' := by
  rcases x with x | ⟨id, o, cap, cs, e, hd, gg, hlen⟩
  · exact .inl x
  · exact .inr ⟨id, o, cap, cs, e, (m id hd).1, (m id hd).2.trans gg, hlen⟩
set_option maxHeartbeats 4000000 in
theorem own_c {h : DHeap} {t : Txn} {vc va vr vw : Value} (x : TxV (InH h) h t vc va vr vw) (hl : TxLen t) :
    DC Try.prog 4 [txnV t.ses t.req vc va vr vw] h (.ret (.bool true)) h := by
  refine Ct.pure (go_4 (by simp) ?_) (vin_bool _)
  have hvc := x.c.cells1
  have hva := x.a.cells1
  have hvr := x.r.cells1
  have hvw := x.w.cells1
  obtain ⟨H, hH⟩ : ∃ H, H = h.push (.row [.int .i64 t.ses, .int .i64 t.req, vc, va, vr, vw] 0 false) := ⟨_, rfl⟩
  have hE : Ext h H := by rw [hH]; exact Ext.push1 _ _
  have hHn : H.next = h.next + 1 := by rw [hH]; rfl
  have ga : TxRow H h.next t.ses t.req vc va vr vw := by rw [hH]; exact get_push_same _ _
  simp -implicitDefEqProofs (disch:=first|omega|simp only [go_sem,Nat.reduceAdd]) only [go_sem,Int.reduceLT,Int.reduceLE,Int.reduceEq,reduceIte,true_and, c4, ← hH]
  refine ncall_ct (new_ok (s := 2) (r := 2) rfl) ?_
  rintro r G ⟨rfl, hG⟩
  have eG : Ext H G := by rw [hG]; exact Ext.push1 _ _
  have hGn : G.next = H.next + 1 := by rw [hG]; rfl
  have x0 : ClAt NoS G H.next (cl0 2 2) nilV nilV nilV nilV nilV := by rw [hG]; exact cl0_at
  simp -implicitDefEqProofs (disch:=first|omega|simp only [go_sem,Nat.reduceAdd]) only [go_sem,Int.reduceLT,Int.reduceLE,Int.reduceEq,reduceIte,true_and, XEnd]
  refine ncall_ct (refNew_ok (s := 2) (r := 2) rfl) ?_
  rintro r G2 ⟨rfl, hG2⟩
  have eG2 : Ext G G2 := by rw [hG2]; exact Ext.push1 _ _
  have hG2n : G2.next = G.next + 1 := by rw [hG2]; rfl
  have y0 : ClAt NoS G2 G.next (cl0 2 2) nilV nilV nilV nilV nilV := by rw [hG2]; exact cl0_at
  simp -implicitDefEqProofs (disch:=first|omega|simp only [go_sem,Nat.reduceAdd]) only [go_sem,Int.reduceLT,Int.reduceLE,Int.reduceEq,reduceIte,true_and, XEnd, dPick_t, dPick_f]
  refine ncall live_c ?_
  have g1 : TxRow G2 h.next t.ses t.req vc va vr vw := (eG2.get _ (by omega)).trans ((eG.get _ (by omega)).trans ga)
  obtain ⟨P0, hP0⟩ : ∃ P0, P0 = G2.push (.row [.int .i64 t.ses, .int .i64 t.req, vc, va, vr, vw] 0 false) := ⟨_, rfl⟩
  have sp0 : storeAt (G2.push (.row txL0 0 false)) G2.next 0 [.int .i64 t.ses, .int .i64 t.req, vc, va, vr, vw] = some P0 := by rw [hP0]; exact storeAll_push rfl (x.one _ _)
  have eP0 : Ext G2 P0 := by rw [hP0]; exact Ext.push1 _ _
  have hP0n : P0.next = G2.next + 1 := by rw [hP0]; rfl
  have g7 : TxRow P0 G2.next t.ses t.req vc va vr vw := by rw [hP0]; exact get_push_same _ _
  have eHP : Ext h P0 := ((hE.trans eG).trans eG2).trans eP0
  have hca : cellsAt G2 h.next 0 6 = some (txnV t.ses t.req vc va vr vw) := row_cells g1 rfl
  have xP : TxV (fun i => i < P0.next ∧ i ≠ G2.next) P0 t vc va vr vw := x.mono fun i hi => ⟨⟨by have : i < h.next := hi; omega, by have : i < h.next := hi; omega⟩, eHP.get i hi⟩
  simp -implicitDefEqProofs (disch:=first|omega|simp only [go_sem,Nat.reduceAdd]) only [go_sem,Int.reduceLT,Int.reduceLE,Int.reduceEq,reduceIte,true_and, Bool.not_true, dPick_t, dPick_f, hca, sp0]
  refine NC.mono (own_region0 xP hl (by omega) (by omega) (by omega) ((eP0.get _ (by omega)).trans g1) g7 (by simp -implicitDefEqProofs (disch:=first|omega|simp only [go_sem,Nat.reduceAdd]) only [go_sem,Int.reduceLT,Int.reduceLE,Int.reduceEq,reduceIte,true_and]) (by simp -implicitDefEqProofs (disch:=first|omega|simp only [go_sem,Nat.reduceAdd]) only [go_sem,Int.reduceLT,Int.reduceLE,Int.reduceEq,reduceIte,true_and])) ?_
  rintro e ⟨fr1, df1, K1, rd1⟩ hM
  cases e <;> try exact hM.elim
  obtain ⟨rfl, rfl, q1, q3, q5, q7, kK1, p0, p1, hr1, s0, s1⟩ := hM
  simp only at q1 q3 q5 q7 kK1 hr1 s0 s1
  have f1 : fr1 1 = some (.pointer (some ⟨h.next, 0, none⟩)) := q1.trans (by simp -implicitDefEqProofs (disch:=first|omega|simp only [go_sem,Nat.reduceAdd]) only [go_sem,Int.reduceLT,Int.reduceLE,Int.reduceEq,reduceIte,true_and])
  have f3 : fr1 3 = some (.pointer (some ⟨H.next, 0, none⟩)) := q3.trans (by simp -implicitDefEqProofs (disch:=first|omega|simp only [go_sem,Nat.reduceAdd]) only [go_sem,Int.reduceLT,Int.reduceLE,Int.reduceEq,reduceIte,true_and])
  have f5 : fr1 5 = some (.pointer (some ⟨G.next, 0, none⟩)) := q5.trans (by simp -implicitDefEqProofs (disch:=first|omega|simp only [go_sem,Nat.reduceAdd]) only [go_sem,Int.reduceLT,Int.reduceLE,Int.reduceEq,reduceIte,true_and])
  have f7 : fr1 7 = some (.pointer (some ⟨G2.next, 0, none⟩)) := q7.trans (by simp -implicitDefEqProofs (disch:=first|omega|simp only [go_sem,Nat.reduceAdd]) only [go_sem,Int.reduceLT,Int.reduceLE,Int.reduceEq,reduceIte,true_and])
  have hK1n := kK1.next
  have xK1 : TxV (fun i => i < K1.next ∧ i ≠ G2.next) K1 t vc va vr vw := xP.mono fun i hi => ⟨⟨by omega, hi.2⟩, kK1.get i hi.1 hi.2⟩
  clear q1 q3 q5 q7
  simp -implicitDefEqProofs (disch:=first|omega|simp only [go_sem,Nat.reduceAdd]) only [go_sem,Int.reduceLT,Int.reduceLE,Int.reduceEq,reduceIte,true_and]
  refine NC.mono (own_region1 xK1 hl (by omega) (by omega) (by omega) ((kK1.get _ (by omega) (by omega)).trans ((eP0.get _ (by omega)).trans g1)) hr1 f1 f7) ?_
  rintro e ⟨fr2, df2, K2, rd2⟩ hM
  cases e <;> try exact hM.elim
  obtain ⟨rfl, rfl, q1, q3, q5, q7, kK2, p2, p3, hr2, s2, s3⟩ := hM
  simp only at q1 q3 q5 q7 kK2 hr2 s2 s3
  rw [f1] at q1
  rw [f3] at q3
  rw [f5] at q5
  rw [f7] at q7
  have hK2n := kK2.next
  have s0' : SlN fU8 P0.next K2 p0 t.code := slW_mono s0 fun i hi => ⟨⟨hi.1, by omega⟩, kK2.get i hi.2 (by omega)⟩
  have s1' : SlN fI64 P0.next K2 p1 t.args := slW_mono s1 fun i hi => ⟨⟨hi.1, by omega⟩, kK2.get i hi.2 (by omega)⟩
  have mine : TxV (InH K2) K2 t p0 p1 p2 p3 := ⟨s0'.mono fun i hi => ⟨hi.1.2, rfl⟩, s1'.mono fun i hi => ⟨hi.1.2, rfl⟩, s2.mono fun i hi => ⟨hi.1.2, rfl⟩, s3.mono fun i hi => ⟨hi.1.2, rfl⟩⟩
  have kP2 : Keep G2.next P0 K2 := kK1.trans kK2
  have x2 : ClAt NoS K2 H.next (cl0 2 2) nilV nilV nilV nilV nilV := by
    have := (x0.ext eG2).ext eP0
    exact ⟨(kP2.get _ (by omega) (by omega)).trans this.row, tx0_v, .nil _ _ _, by omega, fun _ hi => hi.elim⟩
  have y2 : ClAt NoS K2 G.next (cl0 2 2) nilV nilV nilV nilV nilV := by
    have := y0.ext eP0
    exact ⟨(kP2.get _ (by omega) (by omega)).trans this.row, tx0_v, .nil _ _ _, by omega, fun _ hi => hi.elim⟩
  have hca7 : cellsAt K2 G2.next 0 6 = some (txnV t.ses t.req p0 p1 p2 p3) := row_cells hr2 rfl
  have hp0 := mine.c.cells1
  have hp1 := mine.a.cells1
  have hp2 := mine.r.cells1
  have hp3 := mine.w.cells1
  obtain ⟨e, he⟩ : ∃ e, submitE (cl0 2 2) t 0 = e := ⟨_, rfl⟩
  obtain ⟨c1, hc1⟩ : ∃ c1, c1 = (if e = 0 then submitC (cl0 2 2) t 0 else cl0 2 2) := ⟨_, rfl⟩
  simp -implicitDefEqProofs (disch:=first|omega|simp only [go_sem,Nat.reduceAdd]) only [go_sem,Int.reduceLT,Int.reduceLE,Int.reduceEq,reduceIte,true_and, q3, q7, hca7]
  have hc1r : c1.reps ≠ 0 := by rw [hc1]; split <;> exact (by decide : (2 : Int) ≠ 0)
  have hc1l : TxLen c1.t := by
    rw [hc1]
    split
    · exact hl.sub
    · exact tx0_len
  refine NCl_cut (fun s => s.df = [] ∧ s.rd = none ∧ s.fr 1 = some (.pointer (some ⟨h.next, 0, none⟩)) ∧ s.fr 3 = some (.pointer (some ⟨H.next, 0, none⟩)) ∧ s.fr 5 = some (.pointer (some ⟨G.next, 0, none⟩)) ∧ s.fr 7 = some (.pointer (some ⟨G2.next, 0, none⟩)) ∧ s.fr 4 = some (.int .i64 e) ∧ Keep H.next K2 s.h ∧
    ∃ (S1 : Nat → Prop) (n1 n2 A n3 n4 : Nat) (uc ua ur uw wc wa wr ww : Value) (a b : Int), s.fr 8 = some (.pointer (some ⟨A, 0, none⟩)) ∧ (K2.next ≤ n1 ∧ n1 ≤ n2 ∧ n2 ≤ A ∧ A < s.h.next) ∧ ClAt S1 s.h H.next c1 uc ua ur uw nilV ∧ (∀ i, S1 i → K2.next ≤ i ∧ i < n1) ∧ s.h.get A = some (.row (askL 0 a b wc wa wr ww false nilV 0) 0 false) ∧ (∀ K, dLen Try.prog #[22] wc K = some (.int .i64 (n3 : Nat))) ∧ (∀ K, dLen Try.prog #[24] ww K = some (.int .i64 (n4 : Nat))) ∧ WrL 1 n3 wc (fun i => n1 ≤ i ∧ i < n2) s.h ∧ WrL 2 n4 ww (fun i => n1 ≤ i ∧ i < n2) s.h ∧ wc.cells = #[wc] ∧ ww.cells = #[ww] ∧ n3 ≤ 1048576 ∧ n4 ≤ 1048576) ?_ ?_
  · refine ncall_ct (submit_w (k := 0) x2 (by decide) (by decide) mine hl) ?_
    rintro r M (⟨hbad, rfl, eM⟩ | ⟨hgood, kM, n1, vc', va', vr', vw', wc, wa, wr, ww, hn1, hn2, rfl, x3, q⟩)
    · rw [he] at hbad
      obtain ⟨J, hJ⟩ : ∃ J, J = M.push (.row askL0 0 false) := ⟨_, rfl⟩
      have sp : storeAt J M.next 0 askL0 = some J := store_self (by rw [hJ]; exact get_push_same _ _) rfl
      have eJ : Ext M J := by rw [hJ]; exact Ext.push1 _ _
      rw [he]
      simp -implicitDefEqProofs (disch:=first|omega|simp only [go_sem,Nat.reduceAdd]) only [go_sem,Int.reduceLT,Int.reduceLE,Int.reduceEq,reduceIte,true_and, XEnd, sp, ← hJ, q1, q3, q5, q7]
      refine ⟨(Keep.ofExt eM).trans (Keep.ofExt eJ), NoS, K2.next, K2.next, M.next, 0, 0, nilV, nilV, nilV, nilV, nilV, nilV, nilV, nilV, 0, 0, rfl, ⟨Nat.le_refl _, Nat.le_refl _, eM.next, by rw [hJ]; exact Nat.lt_succ_self _⟩, ?_, fun _ hi => hi.elim, by rw [hJ]; exact get_push_same _ _, fun K => by kernel_rfl, fun K => by kernel_rfl, .inl rfl, .inl rfl, rfl, rfl, by omega, by omega⟩
      rw [hc1, if_neg hbad]
      exact (x2.ext eM).ext eJ
    · rw [he] at hgood
      have sp := ask_push (k := 0) (a := (subT (cl0 2 2) t).ses) (b := (subT (cl0 2 2) t).req) (m := 0) (q := false) q.v (.nil fKey.rep NoS M) M
      obtain ⟨J, hJ⟩ : ∃ J, J = M.push (.row (askL 0 (subT (cl0 2 2) t).ses (subT (cl0 2 2) t).req wc wa wr ww false nilV 0) 0 false) := ⟨_, rfl⟩
      have eJ : Ext M J := by rw [hJ]; exact Ext.push1 _ _
      have hwc := q.c.cells1
      have hwa := q.a.cells1
      have hwr := q.r.cells1
      have hww := q.w.cells1
      have lc : ∀ K, dLen Try.prog #[22] wc K = some (.int .i64 ((subT (cl0 2 2) t).code.length : Nat)) := q.c.lens (P := Try.prog) (ts := #[22]) (t := 22) rfl isl_22
      have lw : ∀ K, dLen Try.prog #[24] ww K = some (.int .i64 ((subT (cl0 2 2) t).writes.length : Nat)) := q.w.lens (P := Try.prog) (ts := #[24]) (t := 24) rfl isl_24
      have qJ := q.mono (S' := fun i => n1 ≤ i ∧ i < M.next) (h' := J) fun i hi => ⟨hi, eJ.get i hi.2⟩
      subst hgood
      simp -implicitDefEqProofs (disch:=first|omega|simp only [go_sem,Nat.reduceAdd]) only [go_sem,Int.reduceLT,Int.reduceLE,Int.reduceEq,reduceIte,true_and, XEnd, sp, ← hJ, q1, q3, q5, q7]
      refine ⟨kM.trans (Keep.ofExt eJ), fun i => NoS i ∨ (K2.next ≤ i ∧ i < n1), n1, M.next, M.next, _, _, vc', va', vr', vw', wc, wa, wr, ww, _, _, rfl, ⟨hn1, hn2, Nat.le_refl _, by rw [hJ]; exact Nat.lt_succ_self _⟩, ?_, ?_, by rw [hJ]; exact get_push_same _ _, lc, lw, WrL.of qJ.c fun i hi => hi, WrL.of qJ.w fun i hi => hi, hwc, hww, hl.sub.c, hl.sub.w⟩
      · rw [hc1, if_pos rfl]
        exact x3.ext eJ
      · rintro i (hi | hi)
        · exact hi.elim
        · exact hi
  rintro ⟨fr3, df3, K3, rd3⟩ ⟨hdf, hrd, f1, f3, f5, f7, f4, kK3, S1, n1, n2, A, n3, n4, uc, ua, ur, uw, wc, wa, wr, ww, a, b, f8, hn, x3, hS1, gA, lc, lw, wl3, wl4, hwc, hww, b3, b4⟩
  simp only at hdf hrd f1 f3 f5 f7 f4 f8 kK3 x3 gA wl3 wl4 hn
  subst hdf hrd
  have hHG : H.next ≠ G.next := by omega
  have kh : ∀ i, i < h.next → K3.get i = h.get i := fun i hi => (kK3.get i (by omega) (by omega)).trans ((kP2.get i (by omega) (by omega)).trans (eHP.get i hi))
  have g1' : TxRow K3 h.next t.ses t.req vc va vr vw := (kK3.get _ (by omega) (by omega)).trans ((kP2.get _ (by omega) (by omega)).trans ((eP0.get _ (by omega)).trans g1))
  have hca1 : cellsAt K3 h.next 0 6 = some (txnV t.ses t.req vc va vr vw) := row_cells g1' rfl
  have y3 : ClAt NoS K3 G.next (cl0 2 2) nilV nilV nilV nilV nilV := ⟨(kK3.get _ (by omega) (by omega)).trans y2.row, tx0_v, .nil _ _ _, by have := kK3.next; omega, fun _ hi => hi.elim⟩
  have hK3n := kK3.next
  simp -implicitDefEqProofs (disch:=first|omega|simp only [go_sem,Nat.reduceAdd]) only [go_sem,Int.reduceLT,Int.reduceLE,Int.reduceEq,reduceIte,true_and, f1, f5, hca1]
  refine NCl_cut (fun s => s.df = [] ∧ s.rd = none ∧ s.fr 3 = some (.pointer (some ⟨H.next, 0, none⟩)) ∧ s.fr 5 = some (.pointer (some ⟨G.next, 0, none⟩)) ∧ s.fr 7 = some (.pointer (some ⟨G2.next, 0, none⟩)) ∧ s.fr 4 = some (.int .i64 e) ∧ s.fr 10 = some (.int .i64 e) ∧ s.fr 8 = some (.pointer (some ⟨A, 0, none⟩)) ∧ Keep G.next K3 s.h ∧
    ∃ (S2 : Nat → Prop) (yc ya yr yw : Value), ClAt S2 s.h G.next c1 yc ya yr yw nilV ∧ (∀ i, S2 i → i < h.next ∨ K3.next ≤ i)) ?_ ?_
  · refine ncall_ct (refSubmit_c (k := 0) y3 (by decide) (by decide) (x.mono (S' := InH h) fun i hi => ⟨hi, kh i hi⟩) (fun i hi => by have : i < h.next := hi; omega) hl) ?_
    rintro r M (⟨hbad, rfl, eM⟩ | ⟨hgood, kM, yr, yw, rfl, x4⟩)
    · rw [he] at hbad
      obtain ⟨J, hJ⟩ : ∃ J, J = M.push (.row askL0 0 false) := ⟨_, rfl⟩
      have sp : storeAt J M.next 0 askL0 = some J := store_self (by rw [hJ]; exact get_push_same _ _) rfl
      have eJ : Ext M J := by rw [hJ]; exact Ext.push1 _ _
      rw [he]
      simp -implicitDefEqProofs (disch:=first|omega|simp only [go_sem,Nat.reduceAdd]) only [go_sem,Int.reduceLT,Int.reduceLE,Int.reduceEq,reduceIte,true_and, XEnd, sp, ← hJ, f3, f4, f5, f7, f8]
      refine ⟨(Keep.ofExt eM).trans (Keep.ofExt eJ), NoS, nilV, nilV, nilV, nilV, ?_, fun _ hi => hi.elim⟩
      rw [hc1, if_neg hbad]
      exact (y3.ext eM).ext eJ
    · rw [he] at hgood
      have hyr := x4.tx.r.cells1
      have hyw := x4.tx.w.cells1
      have sp := ask_push (k := 0) (a := (subT (cl0 2 2) t).ses) (b := (subT (cl0 2 2) t).req) (m := 0) (q := false) x4.tx (.nil fKey.rep NoS M) M
      obtain ⟨J, hJ⟩ : ∃ J, J = M.push (.row (askL 0 (subT (cl0 2 2) t).ses (subT (cl0 2 2) t).req vc va yr yw false nilV 0) 0 false) := ⟨_, rfl⟩
      have eJ : Ext M J := by rw [hJ]; exact Ext.push1 _ _
      subst hgood
      simp -implicitDefEqProofs (disch:=first|omega|simp only [go_sem,Nat.reduceAdd]) only [go_sem,Int.reduceLT,Int.reduceLE,Int.reduceEq,reduceIte,true_and, XEnd, sp, ← hJ, f3, f4, f5, f7, f8]
      refine ⟨kM.trans (Keep.ofExt eJ), fun i => (NoS i ∨ InH h i ∨ (K3.next ≤ i ∧ i < M.next)) ∧ i < M.next ∧ i ≠ G.next, vc, va, yr, yw, ?_, ?_⟩
      · rw [hc1, if_pos rfl]
        exact x4.ext eJ
      · rintro i ⟨(hi | hi | hi), _⟩
        · exact hi.elim
        · exact .inl hi
        · exact .inr hi.1
  rintro ⟨fr4, df4, K4, rd4⟩ ⟨hdf, hrd, f3, f5, f7, f4, f10, f8, kK4, S2, yc, ya, yr, yw, y4, hS2⟩
  simp only at hdf hrd f3 f5 f7 f4 f10 f8 kK4 y4
  subst hdf hrd
  have hK4n := kK4.next
  obtain ⟨D, hD⟩ : ∃ D : Nat → Prop, D = fun i => (P0.next ≤ i ∧ i < K2.next) ∨ (n1 ≤ i ∧ i < n2) := ⟨_, rfl⟩
  have k24 : ∀ i, i < K2.next → i ≠ H.next → i ≠ G.next → K4.get i = K2.get i := fun i hi h1 h2 => (kK4.get i (by omega) h2).trans (kK3.get i hi h1)
  have v0 : WrL 1 t.code.length p0 D K4 := WrL.of (slW_mono s0' (S' := fun i => P0.next ≤ i ∧ i < K2.next) (h' := K4) fun i hi => ⟨hi, k24 i hi.2 (by have := hi.1; omega) (by have := hi.1; omega)⟩) fun i hi => by rw [hD]; exact .inl hi
  have v2 : WrL 2 t.reads.length p2 D K4 := WrL.of (slW_mono s2 (S' := fun i => P0.next ≤ i ∧ i < K2.next) (h' := K4) fun i hi => ⟨⟨by have := hi.1; omega, hi.2⟩, k24 i hi.2 (by have := hi.1; omega) (by have := hi.1; omega)⟩) fun i hi => by rw [hD]; exact .inl hi
  have v3 : WrL 1 n3 wc D K4 := wl3.mono fun i hi => ⟨by rw [hD]; exact .inr hi, kK4.get i (by omega) (by omega)⟩
  have v4 : WrL 2 n4 ww D K4 := wl4.mono fun i hi => ⟨by rw [hD]; exact .inr hi, kK4.get i (by omega) (by omega)⟩
  have gm : TxRow K4 G2.next t.ses t.req p0 p1 p2 p3 := (k24 _ (by omega) (by omega) (by omega)).trans hr2
  have gA4 : K4.get A = some (.row (askL 0 a b wc wa wr ww false nilV 0) 0 false) := (kK4.get _ (by omega) (by omega)).trans gA
  have nD : ∀ i, i < P0.next → ¬ D i := fun i hi => by rw [hD]; intro hh; rcases hh with hh | hh <;> omega
  have nA : ¬ D A := by rw [hD]; intro hh; rcases hh with hh | hh <;> omega
  have cm : ∀ K, KeepD D K4 K → cellAt K G2.next 2 = some p0 ∧ cellAt K G2.next 4 = some p2 ∧ cellAt K A 3 = some wc ∧ cellAt K A 6 = some ww := fun K k =>
    ⟨cellAt_row ((k.get _ (by omega) (nD _ (by omega))).trans gm), cellAt_row ((k.get _ (by omega) (nD _ (by omega))).trans gm), cellAt_row ((k.get _ (by omega) nA).trans gA4), cellAt_row ((k.get _ (by omega) nA).trans gA4)⟩
  have l0 : ∀ K, dLen Try.prog #[22] p0 K = some (.int .i64 (t.code.length : Nat)) := mine.c.lens (P := Try.prog) (ts := #[22]) (t := 22) rfl isl_22
  have l2 : ∀ K, dLen Try.prog #[24] p2 K = some (.int .i64 (t.reads.length : Nat)) := mine.r.lens (P := Try.prog) (ts := #[24]) (t := 24) rfl isl_24
  have I0 : OwnI D K4 t.code.length t.reads.length n3 n4 p0 p2 wc ww K4 := ⟨.refl _ _, v0, v2, v3, v4⟩
  have hlc := hl.c
  have hlr := hl.r
  simp -implicitDefEqProofs (disch:=first|omega|simp only [go_sem,Nat.reduceAdd]) only [go_sem,Int.reduceLT,Int.reduceLE,Int.reduceEq,reduceIte,true_and, f4, f10, f7, f8, (cm _ I0.keep).1, l0]
  refine xloop (σ := Nat) (by kernel_rfl) (fun i s => s.df = [] ∧ s.rd = none ∧ s.fr 3 = some (.pointer (some ⟨H.next, 0, none⟩)) ∧ s.fr 5 = some (.pointer (some ⟨G.next, 0, none⟩)) ∧ s.fr 7 = some (.pointer (some ⟨G2.next, 0, none⟩)) ∧ s.fr 8 = some (.pointer (some ⟨A, 0, none⟩)) ∧ s.fr 71 = some (.int .i64 (t.code.length : Nat)) ∧ s.fr 72 = some (.int .i64 (i : Nat)) ∧ i ≤ t.code.length ∧ OwnI D K4 t.code.length t.reads.length n3 n4 p0 p2 wc ww s.h) (fun i => t.code.length - i) 0 ?_ ?_
  · simp -implicitDefEqProofs (disch:=first|omega|simp only [go_sem,Nat.reduceAdd]) only [go_sem,Int.reduceLT,Int.reduceLE,Int.reduceEq,reduceIte,true_and, f3, f5, f7, f8]
    exact ⟨rfl, Nat.zero_le _, I0⟩
  clear f3 f5 f7 f8
  rintro i1 ⟨fr51, df, M1, rd⟩ KK hK' hX ⟨hdf, hrd, f3, f5, f7, f8, fl, fi, hi, I1⟩
  simp only at hdf hrd f3 f5 f7 f8 fl fi I1
  subst hdf hrd
  simp -implicitDefEqProofs (disch:=first|omega|simp only [go_sem,Nat.reduceAdd]) only [go_sem,Int.reduceLT,Int.reduceLE,Int.reduceEq,reduceIte,true_and, fl, fi]
  refine XIf_dec (fun hc1 => ?_) (fun hc1 => ?_)
  · have hil : i1 < t.code.length := by omega
    have hw1 := wrap_succ hil (by omega)
    obtain ⟨id, o, cells, cells', ia, hd, g, hl', st⟩ := I1.a1.step (P := Try.prog) (t := 22) (j := 0) (v := .int .u8 99) hil (by decide) el_22 rfl
    rw [Nat.add_zero] at st
    simp -implicitDefEqProofs (disch:=first|omega|simp only [go_sem,Nat.reduceAdd]) only [go_sem,Int.reduceLT,Int.reduceLE,Int.reduceEq,reduceIte,true_and, f7, f8, fi, (cm _ I1.keep).1, ia, st, hw1]
    refine hK' (i1 + 1) _ ?_ (by omega)
    exact ⟨by trivial, by trivial, by simp -implicitDefEqProofs (disch:=first|omega|simp only [go_sem,Nat.reduceAdd]) only [go_sem,Int.reduceLT,Int.reduceLE,Int.reduceEq,reduceIte,true_and, f3], by simp -implicitDefEqProofs (disch:=first|omega|simp only [go_sem,Nat.reduceAdd]) only [go_sem,Int.reduceLT,Int.reduceLE,Int.reduceEq,reduceIte,true_and, f5], by simp -implicitDefEqProofs (disch:=first|omega|simp only [go_sem,Nat.reduceAdd]) only [go_sem,Int.reduceLT,Int.reduceLE,Int.reduceEq,reduceIte,true_and, f7], by simp -implicitDefEqProofs (disch:=first|omega|simp only [go_sem,Nat.reduceAdd]) only [go_sem,Int.reduceLT,Int.reduceLE,Int.reduceEq,reduceIte,true_and, f8], by simp -implicitDefEqProofs (disch:=first|omega|simp only [go_sem,Nat.reduceAdd]) only [go_sem,Int.reduceLT,Int.reduceLE,Int.reduceEq,reduceIte,true_and, fl], by simp -implicitDefEqProofs (disch:=first|omega|simp only [go_sem,Nat.reduceAdd]) only [go_sem,Int.reduceLT,Int.reduceLE,Int.reduceEq,reduceIte,true_and], by omega, I1.set hd g hl'⟩
  refine hX _ _ (by simp) ?_
  clear hK' hX
  simp -implicitDefEqProofs (disch:=first|omega|simp only [go_sem,Nat.reduceAdd]) only [go_sem,Int.reduceLT,Int.reduceLE,Int.reduceEq,reduceIte,true_and, f4, f10, f7, f8, (cm _ I1.keep).2.1, l2]
  refine xloop (σ := Nat) (by kernel_rfl) (fun i s => s.df = [] ∧ s.rd = none ∧ s.fr 3 = some (.pointer (some ⟨H.next, 0, none⟩)) ∧ s.fr 5 = some (.pointer (some ⟨G.next, 0, none⟩)) ∧ s.fr 7 = some (.pointer (some ⟨G2.next, 0, none⟩)) ∧ s.fr 8 = some (.pointer (some ⟨A, 0, none⟩)) ∧ s.fr 82 = some (.int .i64 (t.reads.length : Nat)) ∧ s.fr 83 = some (.int .i64 (i : Nat)) ∧ i ≤ t.reads.length ∧ OwnI D K4 t.code.length t.reads.length n3 n4 p0 p2 wc ww s.h) (fun i => t.reads.length - i) 0 ?_ ?_
  · simp -implicitDefEqProofs (disch:=first|omega|simp only [go_sem,Nat.reduceAdd]) only [go_sem,Int.reduceLT,Int.reduceLE,Int.reduceEq,reduceIte,true_and, f3, f5, f7, f8]
    exact ⟨rfl, Nat.zero_le _, I1⟩
  clear f3 f5 f7 f8
  rintro i2 ⟨fr52, df, M2, rd⟩ KK hK' hX ⟨hdf, hrd, f3, f5, f7, f8, fl, fi, hi, I2⟩
  simp only at hdf hrd f3 f5 f7 f8 fl fi I2
  subst hdf hrd
  simp -implicitDefEqProofs (disch:=first|omega|simp only [go_sem,Nat.reduceAdd]) only [go_sem,Int.reduceLT,Int.reduceLE,Int.reduceEq,reduceIte,true_and, fl, fi]
  refine XIf_dec (fun hc1 => ?_) (fun hc1 => ?_)
  · have hil : i2 < t.reads.length := by omega
    have hw1 := wrap_succ hil (by omega)
    obtain ⟨id, o, cells, cells', ia, hd, g, hl', st⟩ := I2.a2.step (P := Try.prog) (t := 24) (j := 1) (v := .int .i64 (-9)) hil (by decide) el_24 rfl
    skip
    simp -implicitDefEqProofs (disch:=first|omega|simp only [go_sem,Nat.reduceAdd]) only [go_sem,Int.reduceLT,Int.reduceLE,Int.reduceEq,reduceIte,true_and, f7, f8, fi, (cm _ I2.keep).2.1, ia, st, hw1]
    refine hK' (i2 + 1) _ ?_ (by omega)
    exact ⟨by trivial, by trivial, by simp -implicitDefEqProofs (disch:=first|omega|simp only [go_sem,Nat.reduceAdd]) only [go_sem,Int.reduceLT,Int.reduceLE,Int.reduceEq,reduceIte,true_and, f3], by simp -implicitDefEqProofs (disch:=first|omega|simp only [go_sem,Nat.reduceAdd]) only [go_sem,Int.reduceLT,Int.reduceLE,Int.reduceEq,reduceIte,true_and, f5], by simp -implicitDefEqProofs (disch:=first|omega|simp only [go_sem,Nat.reduceAdd]) only [go_sem,Int.reduceLT,Int.reduceLE,Int.reduceEq,reduceIte,true_and, f7], by simp -implicitDefEqProofs (disch:=first|omega|simp only [go_sem,Nat.reduceAdd]) only [go_sem,Int.reduceLT,Int.reduceLE,Int.reduceEq,reduceIte,true_and, f8], by simp -implicitDefEqProofs (disch:=first|omega|simp only [go_sem,Nat.reduceAdd]) only [go_sem,Int.reduceLT,Int.reduceLE,Int.reduceEq,reduceIte,true_and, fl], by simp -implicitDefEqProofs (disch:=first|omega|simp only [go_sem,Nat.reduceAdd]) only [go_sem,Int.reduceLT,Int.reduceLE,Int.reduceEq,reduceIte,true_and], by omega, I2.set hd g hl'⟩
  refine hX _ _ (by simp) ?_
  clear hK' hX
  simp -implicitDefEqProofs (disch:=first|omega|simp only [go_sem,Nat.reduceAdd]) only [go_sem,Int.reduceLT,Int.reduceLE,Int.reduceEq,reduceIte,true_and, f4, f10, f7, f8, (cm _ I2.keep).2.2.1, lc]
  refine xloop (σ := Nat) (by kernel_rfl) (fun i s => s.df = [] ∧ s.rd = none ∧ s.fr 3 = some (.pointer (some ⟨H.next, 0, none⟩)) ∧ s.fr 5 = some (.pointer (some ⟨G.next, 0, none⟩)) ∧ s.fr 7 = some (.pointer (some ⟨G2.next, 0, none⟩)) ∧ s.fr 8 = some (.pointer (some ⟨A, 0, none⟩)) ∧ s.fr 95 = some (.int .i64 (n3 : Nat)) ∧ s.fr 96 = some (.int .i64 (i : Nat)) ∧ i ≤ n3 ∧ OwnI D K4 t.code.length t.reads.length n3 n4 p0 p2 wc ww s.h) (fun i => n3 - i) 0 ?_ ?_
  · simp -implicitDefEqProofs (disch:=first|omega|simp only [go_sem,Nat.reduceAdd]) only [go_sem,Int.reduceLT,Int.reduceLE,Int.reduceEq,reduceIte,true_and, f3, f5, f7, f8]
    exact ⟨rfl, Nat.zero_le _, I2⟩
  clear f3 f5 f7 f8
  rintro i3 ⟨fr53, df, M3, rd⟩ KK hK' hX ⟨hdf, hrd, f3, f5, f7, f8, fl, fi, hi, I3⟩
  simp only at hdf hrd f3 f5 f7 f8 fl fi I3
  subst hdf hrd
  simp -implicitDefEqProofs (disch:=first|omega|simp only [go_sem,Nat.reduceAdd]) only [go_sem,Int.reduceLT,Int.reduceLE,Int.reduceEq,reduceIte,true_and, fl, fi]
  refine XIf_dec (fun hc1 => ?_) (fun hc1 => ?_)
  · have hil : i3 < n3 := by omega
    have hw1 := wrap_succ hil (by omega)
    obtain ⟨id, o, cells, cells', ia, hd, g, hl', st⟩ := I3.a3.step (P := Try.prog) (t := 22) (j := 0) (v := .int .u8 98) hil (by decide) el_22 rfl
    rw [Nat.add_zero] at st
    simp -implicitDefEqProofs (disch:=first|omega|simp only [go_sem,Nat.reduceAdd]) only [go_sem,Int.reduceLT,Int.reduceLE,Int.reduceEq,reduceIte,true_and, f7, f8, fi, (cm _ I3.keep).2.2.1, ia, st, hw1]
    refine hK' (i3 + 1) _ ?_ (by omega)
    exact ⟨by trivial, by trivial, by simp -implicitDefEqProofs (disch:=first|omega|simp only [go_sem,Nat.reduceAdd]) only [go_sem,Int.reduceLT,Int.reduceLE,Int.reduceEq,reduceIte,true_and, f3], by simp -implicitDefEqProofs (disch:=first|omega|simp only [go_sem,Nat.reduceAdd]) only [go_sem,Int.reduceLT,Int.reduceLE,Int.reduceEq,reduceIte,true_and, f5], by simp -implicitDefEqProofs (disch:=first|omega|simp only [go_sem,Nat.reduceAdd]) only [go_sem,Int.reduceLT,Int.reduceLE,Int.reduceEq,reduceIte,true_and, f7], by simp -implicitDefEqProofs (disch:=first|omega|simp only [go_sem,Nat.reduceAdd]) only [go_sem,Int.reduceLT,Int.reduceLE,Int.reduceEq,reduceIte,true_and, f8], by simp -implicitDefEqProofs (disch:=first|omega|simp only [go_sem,Nat.reduceAdd]) only [go_sem,Int.reduceLT,Int.reduceLE,Int.reduceEq,reduceIte,true_and, fl], by simp -implicitDefEqProofs (disch:=first|omega|simp only [go_sem,Nat.reduceAdd]) only [go_sem,Int.reduceLT,Int.reduceLE,Int.reduceEq,reduceIte,true_and], by omega, I3.set hd g hl'⟩
  refine hX _ _ (by simp) ?_
  clear hK' hX
  simp -implicitDefEqProofs (disch:=first|omega|simp only [go_sem,Nat.reduceAdd]) only [go_sem,Int.reduceLT,Int.reduceLE,Int.reduceEq,reduceIte,true_and, f4, f10, f7, f8, (cm _ I3.keep).2.2.2, lw]
  refine xloop (σ := Nat) (by kernel_rfl) (fun i s => s.df = [] ∧ s.rd = none ∧ s.fr 3 = some (.pointer (some ⟨H.next, 0, none⟩)) ∧ s.fr 5 = some (.pointer (some ⟨G.next, 0, none⟩)) ∧ s.fr 7 = some (.pointer (some ⟨G2.next, 0, none⟩)) ∧ s.fr 8 = some (.pointer (some ⟨A, 0, none⟩)) ∧ s.fr 108 = some (.int .i64 (n4 : Nat)) ∧ s.fr 109 = some (.int .i64 (i : Nat)) ∧ i ≤ n4 ∧ OwnI D K4 t.code.length t.reads.length n3 n4 p0 p2 wc ww s.h) (fun i => n4 - i) 0 ?_ ?_
  · simp -implicitDefEqProofs (disch:=first|omega|simp only [go_sem,Nat.reduceAdd]) only [go_sem,Int.reduceLT,Int.reduceLE,Int.reduceEq,reduceIte,true_and, f3, f5, f7, f8]
    exact ⟨rfl, Nat.zero_le _, I3⟩
  clear f3 f5 f7 f8
  rintro i4 ⟨fr54, df, M4, rd⟩ KK hK' hX ⟨hdf, hrd, f3, f5, f7, f8, fl, fi, hi, I4⟩
  simp only at hdf hrd f3 f5 f7 f8 fl fi I4
  subst hdf hrd
  simp -implicitDefEqProofs (disch:=first|omega|simp only [go_sem,Nat.reduceAdd]) only [go_sem,Int.reduceLT,Int.reduceLE,Int.reduceEq,reduceIte,true_and, fl, fi]
  refine XIf_dec (fun hc1 => ?_) (fun hc1 => ?_)
  · have hil : i4 < n4 := by omega
    have hw1 := wrap_succ hil (by omega)
    obtain ⟨id, o, cells, cells', ia, hd, g, hl', st⟩ := I4.a4.step (P := Try.prog) (t := 24) (j := 1) (v := .int .i64 (-9)) hil (by decide) el_24 rfl
    skip
    simp -implicitDefEqProofs (disch:=first|omega|simp only [go_sem,Nat.reduceAdd]) only [go_sem,Int.reduceLT,Int.reduceLE,Int.reduceEq,reduceIte,true_and, f7, f8, fi, (cm _ I4.keep).2.2.2, ia, st, hw1]
    refine hK' (i4 + 1) _ ?_ (by omega)
    exact ⟨by trivial, by trivial, by simp -implicitDefEqProofs (disch:=first|omega|simp only [go_sem,Nat.reduceAdd]) only [go_sem,Int.reduceLT,Int.reduceLE,Int.reduceEq,reduceIte,true_and, f3], by simp -implicitDefEqProofs (disch:=first|omega|simp only [go_sem,Nat.reduceAdd]) only [go_sem,Int.reduceLT,Int.reduceLE,Int.reduceEq,reduceIte,true_and, f5], by simp -implicitDefEqProofs (disch:=first|omega|simp only [go_sem,Nat.reduceAdd]) only [go_sem,Int.reduceLT,Int.reduceLE,Int.reduceEq,reduceIte,true_and, f7], by simp -implicitDefEqProofs (disch:=first|omega|simp only [go_sem,Nat.reduceAdd]) only [go_sem,Int.reduceLT,Int.reduceLE,Int.reduceEq,reduceIte,true_and, f8], by simp -implicitDefEqProofs (disch:=first|omega|simp only [go_sem,Nat.reduceAdd]) only [go_sem,Int.reduceLT,Int.reduceLE,Int.reduceEq,reduceIte,true_and, fl], by simp -implicitDefEqProofs (disch:=first|omega|simp only [go_sem,Nat.reduceAdd]) only [go_sem,Int.reduceLT,Int.reduceLE,Int.reduceEq,reduceIte,true_and], by omega, I4.set hd g hl'⟩
  refine hX _ _ (by simp) ?_
  clear hK' hX
  have x4 : ClAt S1 K4 H.next c1 uc ua ur uw nilV := by
    have kk : ∀ i, S1 i → K4.get i = K3.get i := fun i hi => kK4.get i (x3.inS i hi).1 (by have := hS1 i hi; omega)
    exact ⟨(kK4.get _ x3.lt hHG).trans x3.row, x3.tx.mono fun i hi => ⟨hi, kk i hi⟩, x3.lv.mono fun i hi => ⟨hi, kk i hi⟩, by have := x3.lt; omega, fun i hi => ⟨by have := (x3.inS i hi).1; omega, (x3.inS i hi).2⟩⟩
  have x5 := x4.keepD I4.keep (nD _ (by omega)) fun i hi => by rw [hD]; have := hS1 i hi; intro hh; rcases hh with hh | hh <;> omega
  have y5 := y4.keepD I4.keep (nD _ (by omega)) fun i hi => by rw [hD]; have := hS2 i hi; intro hh; rcases hh with hh | hh <;> omega
  have eh4 : Ext h M4 := ⟨by have := I4.keep.next; have := eHP.next; omega, I4.keep.ng.trans (kK4.ng.trans (kK3.ng.trans (kP2.ng.trans eHP.ng))), fun i hi => (I4.keep.get i (by omega) (nD i (by omega))).trans ((kK4.get i (by omega) (by omega)).trans (kh i hi))⟩
  clear x3 y3 x4 y4 I1 I2 I3 wl3 wl4 v0 v2 v3 v4 s0 s1 s2 s3 s0' s1' mine x2 y2 x xP xK1
  simp -implicitDefEqProofs (disch:=first|omega|simp only [go_sem,Nat.reduceAdd]) only [go_sem,Int.reduceLT,Int.reduceLE,Int.reduceEq,reduceIte,true_and, f3]
  refine ncall_ct (pending_c x5 hc1r hc1l) ?_
  rintro r N1 ⟨eN1, hh⟩
  have y6 := y5.ext eN1
  rcases hh with ⟨hp, rfl⟩ | ⟨hp, zc, za, zr, zw, rfl, q⟩
  · obtain ⟨N2, hN2⟩ : ∃ N2, N2 = N1.push (.row txL0 0 false) := ⟨_, rfl⟩
    have e2 : Ext N1 N2 := by rw [hN2]; exact Ext.push1 _ _
    have gN2 : N2.get N1.next = some (.row txL0 0 false) := by rw [hN2]; exact get_push_same _ _
    have sp : storeAt N2 N1.next 0 txL0 = some N2 := store_self gN2 rfl
    have y7 := y6.ext e2
    simp -implicitDefEqProofs (disch:=first|omega|simp only [go_sem,Nat.reduceAdd]) only [go_sem,Int.reduceLT,Int.reduceLE,Int.reduceEq,reduceIte,true_and, XEnd, ← hN2, sp, f5]
    refine ncall_ct (refPending_c y7) ?_
    rintro r N3 ⟨e3, hh⟩
    rcases hh with ⟨_, rfl⟩ | ⟨hp', _⟩
    case inr => rw [hp] at hp'; cases hp'
    obtain ⟨N4, hN4⟩ : ∃ N4, N4 = N3.push (.row txL0 0 false) := ⟨_, rfl⟩
    have e4 : Ext N3 N4 := by rw [hN4]; exact Ext.push1 _ _
    have gN4 : N4.get N3.next = some (.row txL0 0 false) := by rw [hN4]; exact get_push_same _ _
    have sp4 : storeAt N4 N3.next 0 txL0 = some N4 := store_self gN4 rfl
    have hb : N1.next < N2.next := by rw [hN2]; exact Nat.lt_succ_self _
    have g1 : cellsAt N4 N1.next 0 6 = some (txnV tx0.ses tx0.req nilV nilV nilV nilV) := row_cells ((e4.get _ (by have := e3.next; omega)).trans ((e3.get _ hb).trans gN2)) rfl
    have g2 : cellsAt N4 N3.next 0 6 = some (txnV tx0.ses tx0.req nilV nilV nilV nilV) := row_cells gN4 rfl
    have bf : (false == false) = true := rfl
    simp -implicitDefEqProofs (disch:=first|omega|simp only [go_sem,Nat.reduceAdd]) only [go_sem,Int.reduceLT,Int.reduceLE,Int.reduceEq,reduceIte,true_and, XEnd, ← hN4, sp4, bin_booleql, bf, dPick_t, dPick_f, g1, g2]
    refine ncall (sameTxn_c tx0_v tx0_v tx0_len) ?_
    simp -implicitDefEqProofs (disch:=first|omega|simp only [go_sem,Nat.reduceAdd]) only [go_sem,Int.reduceLT,Int.reduceLE,Int.reduceEq,reduceIte,true_and, XEnd, sameT_refl, dPick_t, dPick_f]
    exact ⟨_, rfl, rfl, (((eh4.trans eN1).trans e2).trans e3).trans e4⟩
  · have hzc := q.c.cells1
    have hza := q.a.cells1
    have hzr := q.r.cells1
    have hzw := q.w.cells1
    obtain ⟨N2, hN2⟩ : ∃ N2, N2 = N1.push (.row [.int .i64 c1.t.ses, .int .i64 c1.t.req, zc, za, zr, zw] 0 false) := ⟨_, rfl⟩
    have e2 : Ext N1 N2 := by rw [hN2]; exact Ext.push1 _ _
    have gN2 : N2.get N1.next = some (.row [.int .i64 c1.t.ses, .int .i64 c1.t.req, zc, za, zr, zw] 0 false) := by rw [hN2]; exact get_push_same _ _
    have sp : storeAt (N1.push (.row txL0 0 false)) N1.next 0 [.int .i64 c1.t.ses, .int .i64 c1.t.req, zc, za, zr, zw] = some N2 := by rw [hN2]; exact storeAll_push rfl (q.one _ _)
    have y7 := y6.ext e2
    simp -implicitDefEqProofs (disch:=first|omega|simp only [go_sem,Nat.reduceAdd]) only [go_sem,Int.reduceLT,Int.reduceLE,Int.reduceEq,reduceIte,true_and, XEnd, sp, f5]
    refine ncall_ct (refPending_c y7) ?_
    rintro r N3 ⟨e3, hh⟩
    rcases hh with ⟨hp', _⟩ | ⟨_, rfl⟩
    case inl => rw [hp] at hp'; cases hp'
    have y8 := y7.ext e3
    have hyc := y8.tx.c.cells1
    have hya := y8.tx.a.cells1
    have hyr := y8.tx.r.cells1
    have hyw := y8.tx.w.cells1
    obtain ⟨N4, hN4⟩ : ∃ N4, N4 = N3.push (.row [.int .i64 c1.t.ses, .int .i64 c1.t.req, yc, ya, yr, yw] 0 false) := ⟨_, rfl⟩
    have e4 : Ext N3 N4 := by rw [hN4]; exact Ext.push1 _ _
    have gN4 : N4.get N3.next = some (.row [.int .i64 c1.t.ses, .int .i64 c1.t.req, yc, ya, yr, yw] 0 false) := by rw [hN4]; exact get_push_same _ _
    have sp4 : storeAt (N3.push (.row txL0 0 false)) N3.next 0 [.int .i64 c1.t.ses, .int .i64 c1.t.req, yc, ya, yr, yw] = some N4 := by rw [hN4]; exact storeAll_push rfl (y8.tx.one _ _)
    have hb : N1.next < N2.next := by rw [hN2]; exact Nat.lt_succ_self _
    have e24 := e3.trans e4
    have g1 : cellsAt N4 N1.next 0 6 = some (txnV c1.t.ses c1.t.req zc za zr zw) := row_cells ((e24.get _ hb).trans gN2) rfl
    have g2 : cellsAt N4 N3.next 0 6 = some (txnV c1.t.ses c1.t.req yc ya yr yw) := row_cells gN4 rfl
    have qq : TxV (InH N4) N4 c1.t zc za zr zw := (TxV.ext (q.mono (S' := InH N1) fun i hi => ⟨hi.2, rfl⟩) e2).ext e24
    have yy : TxV (InH N4) N4 c1.t yc ya yr yw := TxV.ext (y8.tx.mono (S' := InH N3) fun i hi => ⟨(y8.inS i hi).1, rfl⟩) e4
    have bf : (true == true) = true := rfl
    simp -implicitDefEqProofs (disch:=first|omega|simp only [go_sem,Nat.reduceAdd]) only [go_sem,Int.reduceLT,Int.reduceLE,Int.reduceEq,reduceIte,true_and, XEnd, sp4, bin_booleql, bf, dPick_t, dPick_f, g1, g2]
    refine ncall (sameTxn_c qq yy hc1l) ?_
    simp -implicitDefEqProofs (disch:=first|omega|simp only [go_sem,Nat.reduceAdd]) only [go_sem,Int.reduceLT,Int.reduceLE,Int.reduceEq,reduceIte,true_and, XEnd, sameT_refl, dPick_t, dPick_f]
    exact ⟨_, rfl, rfl, ((eh4.trans eN1).trans e2).trans e24⟩
end Go.Proofs.Ytbdljpndncohaaa

namespace Go.Proofs.Ytbdljpndncohaaa.lawOwn
open Go.D
open Go.ChangeShapes Go.WideShapes Go.ChangeAt Go.RowKit
theorem own : ownKnob Try.prog.godebug = none := by kernel_rfl
set_option maxRecDepth 100000 in
theorem lifted (os : Os) (started : os.Started) (H : Type) (enc : TypeId × Value → H) (F : Stop.Interp) :
    ReturnsInHanded {} Try.checked os 4 .any ((Rows.OpenSpec.upto Rows.clientOwnSpec).pre6 enc Try.prog Try.f4 Rows.clientOwnUptoRow.domain false) (((Rows.OpenSpec.upto Rows.clientOwnSpec).at F).post enc Try.prog Try.f4 false true false false) := by
  refine returnsInHanded_of_cond (C := Try.checked) (s := Rows.OpenSpec.upto Rows.clientOwnSpec) (k := Rows.uptoSmall) rfl own started (by kernel_rfl) Try.func4
    (OpenSpec.witness (enc := enc) (C := Try.checked) (s := Rows.OpenSpec.upto Rows.clientOwnSpec) (k := Rows.uptoSmall) rfl false ⟨#[], #[.agg #[.int .i64 0, .int .i64 0, .slice none 0 0, .slice none 0 0, .slice none 0 0, .slice none 0 0]], []⟩ 8 (by kernel_rfl) (by kernel_rfl) (by kernel_rfl)
      (x := ([.agg [.lit (.int .i64 0), .lit (.int .i64 0), .nil, .nil, .nil, .nil]], [], [])) (by kernel_rfl) rfl (by kernel_rfl)) ?_
  intro W base args ds gs before hval hW _ hk _
  refine law_kept (by kernel_rfl)
    (.cons (agg := true) par_txn lay_txn .nil) (tb := 4) (by kernel_rfl) (by kernel_rfl) rfl (fun ds hl => ?_) (fun h vs x hng hq hB => ?_) W base args ds gs before hval hW hk
  · match ds, hl with
    | [d0], _ => rfl
  · obtain ⟨cs, vs1, rfl, h1, rfl⟩ := hq
    obtain ⟨vc, va, vr, vw, rfl, _, _, t⟩ := txn_in h1
    exact (own_c t (txn_len (by omega))).ct rfl
theorem p1 : Try.pinned.checked.prog.funcNamed Rows.clientOwnUptoRow.func = some 4 := by kernel_rfl
theorem p2 : joinedFacts Try.pinned.checked.prog 4 Try.f4 (Rows.OpenSpec.upto Rows.clientOwnSpec).bare Rows.clientOwnUptoRow = true := by kernel_rfl
theorem p3 : Try.f4.isInstance Try.pinned.checked.prog Rows.clientOwnUptoRow.origin Rows.clientOwnUptoRow.targs := of_decide_eq_true (by kernel_rfl)
theorem p4 : Try.f4.isWrapper Try.pinned.checked.prog Rows.clientOwnUptoRow.wrapper Rows.clientOwnUptoRow.mainSum := by unfold Func.isWrapper; first | (rw [if_pos (by decide +kernel)]; kernel_rfl) | (rw [if_neg (by decide +kernel)]; exact ⟨rfl, rfl⟩)
theorem proved : Rows.ClientOwnUptoSaid :=
  OpenClaim.holds_of_cond 4 Try.f4 rfl rfl rfl rfl rfl rfl rfl ⟨rfl, rfl, rfl, rfl, rfl⟩ rfl rfl rfl rfl rfl p1 Try.func4 p2 p3 p4
    (fun os started H enc _ F => lifted os started H enc F)
end Go.Proofs.Ytbdljpndncohaaa.lawOwn
