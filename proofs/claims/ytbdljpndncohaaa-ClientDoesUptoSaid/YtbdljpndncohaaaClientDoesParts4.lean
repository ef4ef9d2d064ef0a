/-
ClientDoes: for every input of bulk at most 1048576 the law returns true, and the input reads as it did. Conditions: none.
-/
import Derived.Test.YtbdljpndncohaaaRows
import Derived.WalkKit
import Derived.ProofKit
import Derived.OpenShut
import Derived.JoinedCond
import Derived.Test.YtbdljpndncohaaaBase1
import Derived.Test.YtbdljpndncohaaaBase2
import Derived.Test.YtbdljpndncohaaaClientDoesParts1
import Derived.Test.YtbdljpndncohaaaClientDoesParts2
import Derived.Test.YtbdljpndncohaaaClientDoesParts3
set_option linter.unusedSimpArgs false
set_option linter.unusedVariables false
namespace Go.Proofs.Ytbdljpndncohaaa
open Go.D
set_option maxRecDepth 100000

def subT (c : Cl) (t : Txn) : Txn := { normT t with ses := c.ses, req := c.req + 1 }
def submitE (c : Cl) (t : Txn) (k : Int) : Int := if c.pend then 251 else if k < 0 ∨ c.reps ≤ k then 1 else if 1099511627776 ≤ c.req then 6 else txnE (subT c t)
def submitC (c : Cl) (t : Txn) (k : Int) : Cl := { c with t := subT c t, req := c.req + 1, pend := true, wait := 0, turn := k }
theorem bytes_in {S : Nat → Prop} {h : DHeap} {v : Value} {l : List Int} (x : Sl fU8.rep S h v l) : ∀ j, 0 ≤ l.getD j 0 ∧ l.getD j 0 ≤ 255 := fun j => by
  by_cases hj : j < l.length
  · have := x.ok _ (List.getElem_mem hj)
    rw [List.getD_eq_getElem?_getD, List.getElem?_eq_getElem hj]
    exact this
  · rw [List.getD_eq_getElem?_getD, List.getElem?_eq_none (by omega)]
    exact ⟨by decide, by decide⟩
theorem TxLen.sub {c : Cl} {t : Txn} (h : TxLen t) : TxLen (subT c t) := ⟨h.c, h.a, Nat.le_trans (keysN_len _) h.r, Nat.le_trans (keysN_len _) h.w⟩
theorem none_no {S : Nat → Prop} {h : DHeap} {B : Nat} {c : Cl} {vc va vr vw vv : Value} (x : ClAt S h B c vc va vr vw vv) (hr : c.reps ≠ 0) : DC Try.prog 31 [.pointer (some ⟨B, 0, none⟩)] h (.ret (.bool false)) h := by
  have := none_at (h := h) (B := B) (n := c.reps) (x.cell 1)
  rwa [decide_eq_false hr] at this
theorem ClAt.setO {S : Nat → Prop} {h : DHeap} {B id : Nat} {c : Cl} {vc va vr vw vv : Value} {o : DObj} (x : ClAt S h B c vc va vr vw vv) (hb : B ≠ id) (hs : ∀ i, S i → i ≠ id) : ClAt S (h.set id o) B c vc va vr vw vv :=
  ⟨(get_set_other _ _ hb).trans x.row, x.tx.mono fun i hi => ⟨hi, get_set_other _ _ (hs i hi)⟩, x.lv.mono fun i hi => ⟨hi, get_set_other _ _ (hs i hi)⟩, x.lt, x.inS⟩
theorem ClAt.weak {S S' : Nat → Prop} {h : DHeap} {B : Nat} {c : Cl} {vc va vr vw vv : Value} (x : ClAt S h B c vc va vr vw vv) (m : ∀ i, S i → S' i) (hin : ∀ i, S' i → i < h.next ∧ i ≠ B) : ClAt S' h B c vc va vr vw vv :=
  ⟨x.row, x.tx.mono fun i hi => ⟨m i hi, rfl⟩, x.lv.mono fun i hi => ⟨m i hi, rfl⟩, x.lt, hin⟩
set_option maxHeartbeats 2000000 in
theorem submit_w {S : Nat → Prop} {h : DHeap} {B : Nat} {c : Cl} {uc ua ur uw uv vc va vr vw : Value} {t : Txn} {k : Int} (x : ClAt S h B c uc ua ur uw uv) (hr : c.reps ≠ 0) (hreq : 0 ≤ c.req) (y : TxV (InH h) h t vc va vr vw) (hl : TxLen t) :
    Ct Try.prog 11 [.pointer (some ⟨B, 0, none⟩), txnV t.ses t.req vc va vr vw, .int .i64 k] h fun r h1 =>
      (submitE c t k ≠ 0 ∧ r = .ret (.tuple #[askV0, .int .i64 (submitE c t k)]) ∧ Ext h h1) ∨
      (submitE c t k = 0 ∧ Keep B h h1 ∧ ∃ n1 vc' va' vr' vw' wc wa wr ww, h.next ≤ n1 ∧ n1 ≤ h1.next ∧ r = .ret (.tuple #[.agg (askL k (subT c t).ses (subT c t).req wc wa wr ww false nilV 0).toArray, .int .i64 0]) ∧ ClAt (fun i => S i ∨ (h.next ≤ i ∧ i < n1)) h1 B (submitC c t k) vc' va' vr' vw' uv ∧ TxW (fun i => n1 ≤ i ∧ i < h1.next) h1 (subT c t) wc wa wr ww) := by
  refine go_11 (by simp) ?_
  have hvc := y.c.cells1
  have hva := y.a.cells1
  have hvr := y.r.cells1
  have hvw := y.w.cells1
  obtain ⟨H, hH⟩ : ∃ H, H = (h.push (.row [.int .i64 t.ses, .int .i64 t.req, vc, va, vr, vw] 0 false)).push (.row askL0 0 false) := ⟨_, rfl⟩
  have hE : Ext h H := by rw [hH]; exact (Ext.push1 _ _).push _
  have hHn : H.next = h.next + 2 := by rw [hH]; rfl
  have ga : H.get h.next = some (.row [.int .i64 t.ses, .int .i64 t.req, vc, va, vr, vw] 0 false) := by rw [hH]; exact get_p1
  have gb : H.get (h.next + 1) = some (.row askL0 0 false) := by rw [hH]; exact get_push_same _ _
  have ss := store_self gb rfl
  have xH := x.ext hE
  have xlt := x.lt
  have fail : ∀ {e : Int} {fr : Fr}, submitE c t k = e → e ≠ 0 → fr 6 = some (.pointer (some ⟨h.next + 1, 0, none⟩)) → fr 7 = some (.int .i64 e) → ∀ M, Ext h M → M.get (h.next + 1) = some (.row askL0 0 false) → ∃ v, dResults Try.prog [.cell 6 36, .tmp 7] fr M = some v ∧
      ((submitE c t k ≠ 0 ∧ DEnd.ret v = .ret (.tuple #[askV0, .int .i64 (submitE c t k)]) ∧ Ext h M) ∨
      (submitE c t k = 0 ∧ Keep B h M ∧ ∃ n1 vc' va' vr' vw' wc wa wr ww, h.next ≤ n1 ∧ n1 ≤ M.next ∧ DEnd.ret v = .ret (.tuple #[.agg (askL k (subT c t).ses (subT c t).req wc wa wr ww false nilV 0).toArray, .int .i64 0]) ∧ ClAt (fun i => S i ∨ (h.next ≤ i ∧ i < n1)) M B (submitC c t k) vc' va' vr' vw' uv ∧ TxW (fun i => n1 ≤ i ∧ i < M.next) M (subT c t) wc wa wr ww)) := fun {e fr} he h0 f6 f7 M hM gM =>
    ret_at (res_ct (n := 10) f6 f7 (fun _ => ld_36) (row_cells gM rfl)) (.inl ⟨he ▸ h0, by rw [he], hM⟩)
  simp -implicitDefEqProofs (disch:=first|omega|simp only [go_sem,Nat.reduceAdd]) only [go_sem,Int.reduceLT,Int.reduceLE,Int.reduceEq,reduceIte,true_and, c11, next_push, ← hH]
  refine ncall (none_no xH hr) ?_
  cases hp : c.pend with
  | true =>
    simp -implicitDefEqProofs (disch:=first|omega|simp only [go_sem,Nat.reduceAdd]) only [go_sem,Int.reduceLT,Int.reduceLE,Int.reduceEq,reduceIte,true_and, xH.cell, hp, bd_ask0, ss]
    exact fail (by rw [submitE, hp, if_pos rfl]) (by decide) vz vz H hE gb
  | false =>
  have hS0 : submitE c t k = if k < 0 ∨ c.reps ≤ k then 1 else if 1099511627776 ≤ c.req then 6 else txnE (subT c t) := by rw [submitE, hp]; rfl
  simp -implicitDefEqProofs (disch:=first|omega|simp only [go_sem,Nat.reduceAdd]) only [go_sem,Int.reduceLT,Int.reduceLE,Int.reduceEq,reduceIte,true_and, xH.cell, hp]
  by_cases k1 : k < 0
  · have k1' := eq_true k1
    simp -implicitDefEqProofs (disch:=first|omega|simp only [go_sem,Nat.reduceAdd]) only [go_sem,Int.reduceLT,Int.reduceLE,Int.reduceEq,reduceIte,true_and, k1', dPick_t, dPick_f, bd_ask0, ss]
    exact fail (by rw [hS0, if_pos (.inl k1)]) (by decide) vz vz H hE gb
  by_cases k2 : c.reps ≤ k
  · have k2' := eq_true k2
    simp -implicitDefEqProofs (disch:=first|omega|simp only [go_sem,Nat.reduceAdd]) only [go_sem,Int.reduceLT,Int.reduceLE,Int.reduceEq,reduceIte,true_and, k1, xH.cell, k2', dPick_t, dPick_f, bd_ask0, ss]
    exact fail (by rw [hS0, if_pos (.inr k2)]) (by decide) vz vz H hE gb
  rw [if_neg (by omega)] at hS0
  by_cases k3 : 1099511627776 ≤ c.req
  · have k3' := eq_true k3
    simp -implicitDefEqProofs (disch:=first|omega|simp only [go_sem,Nat.reduceAdd]) only [go_sem,Int.reduceLT,Int.reduceLE,Int.reduceEq,reduceIte,true_and, k1, xH.cell, k2, k3', dPick_t, dPick_f, bd_ask0, ss]
    exact fail (by rw [hS0, if_pos k3]) (by decide) vz vz H hE gb
  rw [if_neg k3] at hS0
  have hca0 : cellsAt H h.next 0 6 = some (txnV t.ses t.req vc va vr vw) := row_cells ga rfl
  simp -implicitDefEqProofs (disch:=first|omega|simp only [go_sem,Nat.reduceAdd]) only [go_sem,Int.reduceLT,Int.reduceLE,Int.reduceEq,reduceIte,true_and, k1, xH.cell, k2, k3, dPick_t, dPick_f, hca0]
  refine ncall_ct (normal_c (y.ext hE) hl) ?_
  rintro r H1 ⟨vc', va', vr', vw', rfl, hE1, z⟩
  have hE1n := hE1.next
  have ga1 := (hE1.get _ (by omega)).trans ga
  have gb1 := (hE1.get _ (by omega)).trans gb
  have x1 := xH.ext hE1
  have hvc' := z.c.cells1
  have hva' := z.a.cells1
  have hvr' := z.r.cells1
  have hvw' := z.w.cells1
  have sa1 := storeAll (vs := [.int .i64 t.ses, .int .i64 t.req, vc', va', vr', vw']) ga1 rfl (z.one _ _)
  simp -implicitDefEqProofs (disch:=first|omega|simp only [go_sem,Nat.reduceAdd]) only [go_sem,Int.reduceLT,Int.reduceLE,Int.reduceEq,reduceIte,true_and, XEnd, sa1]
  have hwq : IntKind.i64.wrap (c.req + 1) = c.req + 1 := wrap_i64_in (by omega) (by omega)
  have y1 : ∀ o, ClAt S (H1.set h.next o) B c uc ua ur uw uv := fun o => x1.setO (by omega) fun i hi => by have := (x.inS i hi).1; omega
  have hs1 : storeAt (H1.set h.next (.row [.int .i64 t.ses, .int .i64 t.req, vc', va', vr', vw'] 0 false)) h.next 0 [.int .i64 c.ses] = some (H1.set h.next (.row [.int .i64 c.ses, .int .i64 t.req, vc', va', vr', vw'] 0 false)) := by
    rw [store_cell rfl rfl (by simp) rfl (get_set_same _ _), set_set]
    rfl
  have hs2 : storeAt (H1.set h.next (.row [.int .i64 c.ses, .int .i64 t.req, vc', va', vr', vw'] 0 false)) h.next 1 [.int .i64 (c.req + 1)] = some (H1.set h.next (.row [.int .i64 c.ses, .int .i64 (c.req + 1), vc', va', vr', vw'] 0 false)) := by
    rw [store_cell rfl rfl (by simp) rfl (get_set_same _ _), set_set]
    rfl
  refine dr_11_0 ?_
  simp -implicitDefEqProofs (disch:=first|omega|simp only [go_sem,Nat.reduceAdd]) only [go_sem,Int.reduceLT,Int.reduceLE,Int.reduceEq,reduceIte,true_and, l11_0, (y1 _).cell, hwq, hs1, hs2]
  refine ⟨⟨XSt1_at (i := 7) (j := 10) rfl rfl rfl ?_, trivial⟩, ?_⟩
  · rw [if_neg (by decide)]
    exact Ld_on (p := .pointer (some ⟨B, 2, none⟩)) vz vz (ld_2.trans ((y1 _).cell 2))
  obtain ⟨K2, hK2⟩ : ∃ K2, K2 = H1.set h.next (.row [.int .i64 c.ses, .int .i64 (c.req + 1), vc', va', vr', vw'] 0 false) := ⟨_, rfl⟩
  rw [← hK2]
  have x2 : ClAt S K2 B c uc ua ur uw uv := by rw [hK2]; exact y1 _
  have gaK : K2.get h.next = some (.row [.int .i64 (subT c t).ses, .int .i64 (subT c t).req, vc', va', vr', vw'] 0 false) := by rw [hK2]; exact get_set_same _ _
  have gbK : K2.get (h.next + 1) = some (.row askL0 0 false) := by rw [hK2, get_set_other _ _ (by omega)]; exact gb1
  have hEK : Ext h K2 := by rw [hK2]; exact (hE.trans hE1).set (by omega)
  have hKn : K2.next = H1.next := by rw [hK2]; rfl
  have z2 : TxV (fun i => H.next ≤ i ∧ i < K2.next) K2 (subT c t) vc' va' vr' vw' := by
    have : TxV (fun i => H.next ≤ i ∧ i < K2.next) K2 (normT t) vc' va' vr' vw' := z.mono fun i hi => ⟨⟨hi.1, by rw [hKn]; exact hi.2⟩, by rw [hK2, get_set_other _ _ (by have := hi.1; omega)]⟩
    exact ⟨this.c, this.a, this.r, this.w⟩
  have z2a : TxV (InH K2) K2 (subT c t) vc' va' vr' vw' := z2.mono fun i hi => ⟨hi.2, rfl⟩
  have hlS : TxLen (subT c t) := hl.sub
  have hca2 : cellsAt K2 h.next 0 6 = some (txnV (subT c t).ses (subT c t).req vc' va' vr' vw') := row_cells gaK rfl
  have ss2 := store_self gbK rfl
  simp -implicitDefEqProofs (disch:=first|omega|simp only [go_sem,Nat.reduceAdd]) only [go_sem,Int.reduceLT,Int.reduceLE,Int.reduceEq,reduceIte,true_and, hca2]
  refine ncall (checkT_c z2a.c z2a.a z2a.r z2a.w hlS.c (bytes_in z2a.c)) ?_
  by_cases he : txnE (subT c t) = 0
  case neg =>
    simp -implicitDefEqProofs (disch:=first|omega|simp only [go_sem,Nat.reduceAdd]) only [go_sem,Int.reduceLT,Int.reduceLE,Int.reduceEq,reduceIte,true_and, he, bd_ask0, ss2]
    exact fail hS0 he vz vz K2 hEK gbK
  have he' := eq_true he
  simp -implicitDefEqProofs (disch:=first|omega|simp only [go_sem,Nat.reduceAdd]) only [go_sem,Int.reduceLT,Int.reduceLE,Int.reduceEq,reduceIte,true_and, he']
  have hone : [.int .i64 (subT c t).ses, .int .i64 (subT c t).req, vc', va', vr', vw'].all Value.oneCell' = true := z2.one _ _
  obtain ⟨cA, hcA⟩ : ∃ cA : Cl, cA = { c with t := subT c t } := ⟨_, rfl⟩
  obtain ⟨cB, hcB⟩ : ∃ cB : Cl, cB = { cA with req := (subT c t).req } := ⟨_, rfl⟩
  obtain ⟨cC, hcC⟩ : ∃ cC : Cl, cC = { cB with pend := true } := ⟨_, rfl⟩
  obtain ⟨cD, hcD⟩ : ∃ cD : Cl, cD = { cC with wait := 0 } := ⟨_, rfl⟩
  have hb1 : storeAt K2 B 4 [.int .i64 (subT c t).ses, .int .i64 (subT c t).req, vc', va', vr', vw'] = some (K2.set B (.row (clL cA vc' va' vr' vw' uv) 0 false)) := by
    rw [storeAt_row x2.row (Nat.le_of_ble_eq_true rfl) hone, hcA]
    rfl
  have hb2 : storeAt (K2.set B (.row (clL cA vc' va' vr' vw' uv) 0 false)) B 2 [.int .i64 (subT c t).req] = some (K2.set B (.row (clL cB vc' va' vr' vw' uv) 0 false)) := by
    rw [store_cell rfl rfl (Nat.le_of_ble_eq_true rfl) rfl (get_set_same _ _), set_set, hcB]
    rfl
  have hb3 : storeAt (K2.set B (.row (clL cB vc' va' vr' vw' uv) 0 false)) B 3 [.bool true] = some (K2.set B (.row (clL cC vc' va' vr' vw' uv) 0 false)) := by
    rw [store_cell rfl rfl (Nat.le_of_ble_eq_true rfl) rfl (get_set_same _ _), set_set, hcC]
    rfl
  have hb4 : storeAt (K2.set B (.row (clL cC vc' va' vr' vw' uv) 0 false)) B 10 [.int .i64 0] = some (K2.set B (.row (clL cD vc' va' vr' vw' uv) 0 false)) := by
    rw [store_cell rfl rfl (Nat.le_of_ble_eq_true rfl) rfl (get_set_same _ _), set_set, hcD]
    rfl
  have hb5 : storeAt (K2.set B (.row (clL cD vc' va' vr' vw' uv) 0 false)) B 11 [.int .i64 k] = some (K2.set B (.row (clL (submitC c t k) vc' va' vr' vw' uv) 0 false)) := by
    rw [store_cell rfl rfl (Nat.le_of_ble_eq_true rfl) rfl (get_set_same _ _), set_set, hcD, hcC, hcB, hcA]
    rfl
  refine dr_11_1 ?_
  simp -implicitDefEqProofs (disch:=first|omega|simp only [go_sem,Nat.reduceAdd]) only [go_sem,Int.reduceLT,Int.reduceLE,Int.reduceEq,reduceIte,true_and, l11_1, hca2, cellAt_row gaK, hb1, hb2, hb3, hb4, hb5]
  refine ⟨⟨XSt1_at (i := 7) (j := 11) rfl rfl rfl ?_, trivial⟩, ?_⟩
  · rw [if_neg (by decide)]
    exact Ld_on (p := .pointer (some ⟨h.next, 1, none⟩)) vz vz (ld_2.trans (cellAt_row ((get_set_other _ _ (by omega)).trans gaK)))
  obtain ⟨M, hM⟩ : ∃ M, M = K2.set B (.row (clL (submitC c t k) vc' va' vr' vw' uv) 0 false) := ⟨_, rfl⟩
  rw [← hM]
  have hMn : M.next = K2.next := by rw [hM]; rfl
  have xM : ClAt (fun i => S i ∨ (H.next ≤ i ∧ i < M.next)) M B (submitC c t k) vc' va' vr' vw' uv := by
    refine ⟨by rw [hM]; exact get_set_same _ _, z2.mono fun i hi => ⟨.inr ⟨hi.1, by omega⟩, ?_⟩, x2.lv.mono fun i hi => ⟨.inl hi, ?_⟩, by rw [hMn]; exact x2.lt, fun i hi => ?_⟩
    · rw [hM, get_set_other _ _ (by omega)]
    · rw [hM, get_set_other _ _ (x.inS i hi).2]
    · rcases hi with hi | hi
      · have := x.inS i hi
        exact ⟨by omega, this.2⟩
      · exact ⟨hi.2, by omega⟩
  refine ncall_ct (ask_w xM hlS) ?_
  rintro r F ⟨wc, wa, wr, ww, rfl, hEF, q⟩
  have hFn := hEF.next
  have gbF : F.get (h.next + 1) = some (.row askL0 0 false) := (hEF.get _ (by omega)).trans (by rw [hM, get_set_other _ _ (by omega)]; exact gbK)
  have saF := storeAll (vs := askL k (subT c t).ses (subT c t).req wc wa wr ww false nilV 0) gbF rfl (ask_one q.v (.nil fKey.rep NoS F))
  have hwc := q.v.c.cells1
  have hwa := q.v.a.cells1
  have hwr := q.v.r.cells1
  have hww := q.v.w.cells1
  have hr2 : (Value.agg (askL (submitC c t k).turn (submitC c t k).t.ses (submitC c t k).t.req wc wa wr ww false nilV 0).toArray) = .agg (askL k (subT c t).ses (subT c t).req wc wa wr ww false nilV 0).toArray := rfl
  rw [hr2]
  simp -implicitDefEqProofs (disch:=first|omega|simp only [go_sem,Nat.reduceAdd]) only [go_sem,Int.reduceLT,Int.reduceLE,Int.reduceEq,reduceIte,true_and, XEnd, saF]
  refine ret_at (res_ct (n := 10) vz vz (fun _ => ld_36) (row_cells (get_set_same _ _) rfl)) (.inr ⟨hS0.trans he, ?_, M.next, vc', va', vr', vw', wc, wa, wr, ww, by omega, hFn, rfl, ?_, ?_⟩)
  · refine ⟨by show h.next ≤ F.next; omega, ?_, fun i hi hb => ?_⟩
    · exact hEF.ng.trans (by rw [hM]; exact hEK.ng)
    · rw [get_set_other _ _ (by omega), hEF.get i (by omega), hM, get_set_other _ _ hb]
      exact hEK.get i hi
  · refine ((xM.ext hEF).setO (by omega) fun i hi => ?_).weak (fun i hi => ?_) fun i hi => ?_
    · rcases hi with hi | hi
      · have := (x.inS i hi).1; omega
      · omega
    · rcases hi with hi | hi
      · exact .inl hi
      · exact .inr ⟨by omega, hi.2⟩
    · rcases hi with hi | hi
      · have := x.inS i hi; exact ⟨by show i < F.next; omega, this.2⟩
      · exact ⟨by show i < F.next; omega, by omega⟩
  · exact q.mono fun i hi => ⟨hi, get_set_other _ _ (by have := hi.1; omega)⟩
theorem submit_c {S : Nat → Prop} {h : DHeap} {B : Nat} {c : Cl} {uc ua ur uw uv vc va vr vw : Value} {t : Txn} {k : Int} (x : ClAt S h B c uc ua ur uw uv) (hr : c.reps ≠ 0) (hreq : 0 ≤ c.req) (y : TxV (InH h) h t vc va vr vw) (hl : TxLen t) :
    Ct Try.prog 11 [.pointer (some ⟨B, 0, none⟩), txnV t.ses t.req vc va vr vw, .int .i64 k] h fun r h1 =>
      (submitE c t k ≠ 0 ∧ r = .ret (.tuple #[askV0, .int .i64 (submitE c t k)]) ∧ Ext h h1) ∨
      (submitE c t k = 0 ∧ Keep B h h1 ∧ ∃ n1 vc' va' vr' vw' wc wa wr ww, h.next ≤ n1 ∧ n1 ≤ h1.next ∧ r = .ret (.tuple #[.agg (askL k (subT c t).ses (subT c t).req wc wa wr ww false nilV 0).toArray, .int .i64 0]) ∧ ClAt (fun i => S i ∨ (h.next ≤ i ∧ i < n1)) h1 B (submitC c t k) vc' va' vr' vw' uv ∧ TxV (fun i => n1 ≤ i ∧ i < h1.next) h1 (subT c t) wc wa wr ww) :=
  (submit_w x hr hreq y hl).mono fun r h1 => by
    rintro (hx | ⟨a, b, n1, c1, c2, c3, c4, d1, d2, d3, d4, e1, e2, e3, e4, e5⟩)
    · exact .inl hx
    · exact .inr ⟨a, b, n1, c1, c2, c3, c4, d1, d2, d3, d4, e1, e2, e3, e4, e5.v⟩
end Go.Proofs.Ytbdljpndncohaaa

namespace Go.Proofs.Ytbdljpndncohaaa
open Go.D
set_option maxRecDepth 100000

theorem Keep.ofExt {B : Nat} {h K : DHeap} (e : Ext h K) : Keep B h K := ⟨e.next, e.ng, fun i hi _ => e.get i hi⟩
theorem Keep.trans {B : Nat} {h K M : DHeap} (a : Keep B h K) (b : Keep B K M) : Keep B h M := ⟨Nat.le_trans a.next b.next, b.ng.trans a.ng, fun i hi hb => (b.get i (Nat.lt_of_lt_of_le hi a.next) hb).trans (a.get i hi hb)⟩
def tickC (c : Cl) : Cl := if c.pend = false then c else if c.wait + 1 < 12 then { c with wait := c.wait + 1 } else { c with wait := 0, turn := Int.tmod (c.turn + 1) c.reps }
def tickB (c : Cl) : Bool := c.pend && !decide (c.wait + 1 < 12)
/-- one cell of a session's box is written -/
theorem ClAt.put {S : Nat → Prop} {h : DHeap} {B : Nat} {c c' : Cl} {vc va vr vw vv : Value} (x : ClAt S h B c vc va vr vw vv) {o : Nat} {v : Value} (hv : v.cells = #[v]) (hone : [v].all Value.oneCell' = true) (ho : o + 1 ≤ 18) (hR : (clL c vc va vr vw vv).set o v = clL c' vc va vr vw vv) (ht : c'.t = c.t) (hl : c'.last = c.last) :
    storeAt h B o [v] = some (h.set B (.row (clL c' vc va vr vw vv) 0 false)) ∧ ClAt S (h.set B (.row (clL c' vc va vr vw vv) 0 false)) B c' vc va vr vw vv :=
  ⟨store_cell hv hone (show o + 1 ≤ (clL c vc va vr vw vv).length from ho) hR x.row, get_set_same _ _, by rw [ht]; exact x.tx.mono fun i hi => ⟨hi, get_set_other _ _ (x.inS i hi).2⟩, by rw [hl]; exact x.lv.mono fun i hi => ⟨hi, get_set_other _ _ (x.inS i hi).2⟩, x.lt, x.inS⟩
set_option maxHeartbeats 1000000 in
theorem tick_c {S : Nat → Prop} {h : DHeap} {B : Nat} {c : Cl} {vc va vr vw vv : Value} (x : ClAt S h B c vc va vr vw vv) (hr : c.reps ≠ 0) (hw : 0 ≤ c.wait ∧ c.wait ≤ 1000000) (ht : 0 ≤ c.turn ∧ c.turn ≤ 1000000) (hl : TxLen c.t) :
    Ct Try.prog 12 [.pointer (some ⟨B, 0, none⟩)] h fun r h1 => Keep B h h1 ∧ ClAt S h1 B (tickC c) vc va vr vw vv ∧
      ((tickB c = false ∧ r = .ret (.tuple #[askV0, .bool false])) ∨ (tickB c = true ∧ ∃ wc wa wr ww, r = .ret (.tuple #[.agg (askL (tickC c).turn c.t.ses c.t.req wc wa wr ww false nilV 0).toArray, .bool true]) ∧ TxV (Fresh h h1) h1 c.t wc wa wr ww)) := by
  refine go_12 (by simp) ?_
  obtain ⟨H, hH⟩ : ∃ H, H = h.push (.row askL0 0 false) := ⟨_, rfl⟩
  have hE : Ext h H := by rw [hH]; exact Ext.push1 _ _
  have hHn : H.next = h.next + 1 := by rw [hH]; rfl
  have gb : H.get h.next = some (.row askL0 0 false) := by rw [hH]; exact get_push_same _ _
  have ss := store_self gb rfl
  have xH := x.ext hE
  have xlt := x.lt
  simp -implicitDefEqProofs (disch:=first|omega|simp only [go_sem,Nat.reduceAdd]) only [go_sem,Int.reduceLT,Int.reduceLE,Int.reduceEq,reduceIte,true_and, c12, next_push, ← hH]
  refine ncall (none_no xH hr) ?_
  cases hp : c.pend with
  | false =>
    have hC : tickC c = c := by rw [tickC, hp, if_pos rfl]
    have hB : tickB c = false := by rw [tickB, hp]; rfl
    simp -implicitDefEqProofs (disch:=first|omega|simp only [go_sem,Nat.reduceAdd]) only [go_sem,Int.reduceLT,Int.reduceLE,Int.reduceEq,reduceIte,true_and, xH.cell, hp, Bool.not_false, dPick_t, dPick_f, bd_ask0, ss]
    exact ret_at (res_ct (n := 10) vz vz (fun _ => ld_36) (row_cells gb rfl)) ⟨.ofExt hE, by rw [hC]; exact xH, .inl ⟨hB, rfl⟩⟩
  | true =>
  have hw1 : IntKind.i64.wrap (c.wait + 1) = c.wait + 1 := wrap_i64_in (by omega) (by omega)
  obtain ⟨c1, hc1⟩ : ∃ c1 : Cl, c1 = { c with wait := c.wait + 1 } := ⟨_, rfl⟩
  obtain ⟨st1, y1⟩ := xH.put (c' := c1) (o := 10) (v := .int .i64 (c.wait + 1)) rfl rfl (by decide) (by rw [hc1]; rfl) (by rw [hc1]) (by rw [hc1])
  obtain ⟨K, hK⟩ : ∃ K, K = H.set B (.row (clL c1 vc va vr vw vv) 0 false) := ⟨_, rfl⟩
  rw [← hK] at st1 y1
  have kK : Keep B h K := by rw [hK]; exact (Keep.ofExt hE).set _
  have hKn : K.next = H.next := by rw [hK]; rfl
  have gbK : K.get h.next = some (.row askL0 0 false) := by rw [hK, get_set_other _ _ (by omega)]; exact gb
  have ssK := store_self gbK rfl
  have cw1 : cellAt K B 10 = some (.int .i64 (c.wait + 1)) := (y1.cell 10).trans (by rw [hc1]; rfl)
  simp -implicitDefEqProofs (disch:=first|omega|simp only [go_sem,Nat.reduceAdd]) only [go_sem,Int.reduceLT,Int.reduceLE,Int.reduceEq,reduceIte,true_and, xH.cell, hp, Bool.not_true, dPick_t, dPick_f, hw1, st1, cw1]
  by_cases h12 : c.wait + 1 < 12
  · have h12' := eq_true h12
    have hC : tickC c = c1 := by rw [tickC, hp, if_neg (by decide), if_pos h12, hc1, hp]
    have hB : tickB c = false := by rw [tickB, hp, decide_eq_true h12]; rfl
    simp -implicitDefEqProofs (disch:=first|omega|simp only [go_sem,Nat.reduceAdd]) only [go_sem,Int.reduceLT,Int.reduceLE,Int.reduceEq,reduceIte,true_and, h12', bd_ask0, ssK]
    exact ret_at (res_ct (n := 10) vz vz (fun _ => ld_36) (row_cells gbK rfl)) ⟨kK, by rw [hC]; exact y1, .inl ⟨hB, rfl⟩⟩
  · have hC : tickC c = { c with wait := 0, turn := Int.tmod (c.turn + 1) c.reps } := by rw [tickC, hp, if_neg (by decide), if_neg h12]
    have hB : tickB c = true := by rw [tickB, hp, decide_eq_false h12]; rfl
    have hw2 : IntKind.i64.wrap (c.turn + 1) = c.turn + 1 := wrap_i64_in (by omega) (by omega)
    obtain ⟨c2, hc2⟩ : ∃ c2 : Cl, c2 = { c1 with wait := 0 } := ⟨_, rfl⟩
    have hcc : tickC c = { c2 with turn := Int.tmod (c.turn + 1) c.reps } := by rw [hC, hc2, hc1]
    obtain ⟨st2, y2⟩ := y1.put (c' := c2) (o := 10) (v := .int .i64 0) rfl rfl (by decide) (by rw [hc2]; rfl) (by rw [hc2]) (by rw [hc2])
    obtain ⟨st3, y3⟩ := y2.put (c' := tickC c) (o := 11) (v := .int .i64 (Int.tmod (c.turn + 1) c.reps)) rfl rfl (by decide) (by rw [hcc]; rfl) (by rw [hcc]) (by rw [hcc])
    rw [set_set] at st3 y3
    obtain ⟨M, hM⟩ : ∃ M, M = K.set B (.row (clL (tickC c) vc va vr vw vv) 0 false) := ⟨_, rfl⟩
    rw [← hM] at st3 y3
    have kM : Keep B h M := by rw [hM]; exact kK.set _
    have hMn : M.next = H.next := by rw [hM]; exact hKn
    have gbM : M.get h.next = some (.row askL0 0 false) := by rw [hM, get_set_other _ _ (by omega)]; exact gbK
    have ct1 : cellAt K B 11 = some (.int .i64 c.turn) := (y1.cell 11).trans (by rw [hc1]; rfl)
    have cr1 : cellAt K B 1 = some (.int .i64 c.reps) := (y1.cell 1).trans (by rw [hc1]; rfl)
    have htt : (tickC c).t = c.t := by rw [hC]
    simp -implicitDefEqProofs (disch:=first|omega|simp only [go_sem,Nat.reduceAdd]) only [go_sem,Int.reduceLT,Int.reduceLE,Int.reduceEq,reduceIte,true_and, h12]
    refine dr_12_0 ?_
    simp -implicitDefEqProofs (disch:=first|omega|simp only [go_sem,Nat.reduceAdd]) only [go_sem,Int.reduceLT,Int.reduceLE,Int.reduceEq,reduceIte,true_and, l12_0, ct1, cr1, hw2, bin_rem hr, st2, st3, XStab_nil]
    refine ncall_ct (ask_c y3 (htt ▸ hl)) ?_
    rintro r F ⟨wc, wa, wr, ww, rfl, hEF, q⟩
    rw [htt] at q
    rw [htt]
    have hFn := hEF.next
    have gbF : F.get h.next = some (.row askL0 0 false) := (hEF.get _ (by omega)).trans gbM
    have saF := storeAll (vs := askL (tickC c).turn c.t.ses c.t.req wc wa wr ww false nilV 0) gbF rfl (ask_one q (.nil fKey.rep NoS F))
    have hwc := q.c.cells1
    have hwa := q.a.cells1
    have hwr := q.r.cells1
    have hww := q.w.cells1
    simp -implicitDefEqProofs (disch:=first|omega|simp only [go_sem,Nat.reduceAdd]) only [go_sem,Int.reduceLT,Int.reduceLE,Int.reduceEq,reduceIte,true_and, XEnd, saF]
    refine ret_at (res_ct (n := 10) vz vz (fun _ => ld_36) (row_cells (get_set_same _ _) rfl)) ⟨?_, ?_, .inr ⟨hB, wc, wa, wr, ww, rfl, ?_⟩⟩
    · have k := kM.trans (Keep.ofExt hEF)
      exact ⟨k.next, k.ng, fun i hi hb => (get_set_other _ _ (by omega)).trans (k.get i hi hb)⟩
    · exact (y3.ext hEF).setO (by omega) fun i hi => by have := (x.inS i hi).1; omega
    · exact q.mono fun i hi => ⟨⟨by omega, hi.2⟩, get_set_other _ _ (by have := hi.1; omega)⟩
theorem max_i64 {P : Program} {h : DHeap} {ts : Array TypeId} {ty : TypeId} {a b : Int} : dBuiltin P .max ts ty h (some [.int .i64 a, .int .i64 b]) = .ok (.value (.int .i64 (max a b))) h := by
  have hq : quick P (Builtin.max_ ts ty #[.int .i64 a, .int .i64 b]) = some (.inr (.int .i64 (max a b))) := by
    have e : max a b = if a < b then b else a := by
      by_cases h : a < b
      · rw [if_pos h]; omega
      · rw [if_neg h]; omega
    rw [e]
    rfl
  have hf : ([Value.int .i64 a, .int .i64 b].all flat3) = true := rfl
  show (if [Value.int .i64 a, .int .i64 b].all flat3 then dval P (Builtin.max_ ts ty #[.int .i64 a, .int .i64 b]) h else .bad) = _
  rw [if_pos hf]
  simp only [dval, hq]
  rfl
/-- flat lists do not lie in boxes -/
theorem sl_box {α : Type} {F : FRep α} {S : Nat → Prop} {h : DHeap} {B : Nat} {R : List Value} {v : Value} {l : List α} (x : Sl F.rep S h v l) (hz : F.z ≠ 0) (g : h.get B = some (.row R 0 false)) : Sl F.rep (fun i => S i ∧ i ≠ B) h v l := by
  rcases x with x | ⟨id, o, cap, cells, esz, ro, h1, h2, h3, h4, h5, h6⟩
  · exact .inl x
  · refine .inr ⟨id, o, cap, cells, esz, ro, h1, ⟨h2, fun e => ?_⟩, h3, h4, h5, Els.flat.2 (Els.flat.1 h6)⟩
    subst e
    rw [g] at h3
    cases h3
    rcases h4 with h4 | h4
    · cases h4
    · exact hz h4.symm
def ansN (c : Cl) (a b : Int) : Bool := !c.pend || !decide (a = c.ses) || !decide (b = c.req)
def ansB (c : Cl) (a b s : Int) : Bool := !ansN c a b && decide (0 ≤ s ∧ s ≤ 1099511627776)
def ansE (c : Cl) (a b s : Int) : Int := if ansN c a b then 0 else if 0 ≤ s ∧ s ≤ 1099511627776 then 0 else 1
def ansC (c : Cl) (a b : Int) (x : Res) : Cl := if ansB c a b x.s then { c with pend := false, any := true, last := x, tok := max c.tok (x.s + 1) } else c
set_option maxHeartbeats 1000000 in
theorem answer_c {S : Nat → Prop} {h : DHeap} {B : Nat} {c : Cl} {vc va vr vw vv uv : Value} {a b : Int} {x : Res} (y : ClAt S h B c vc va vr vw vv) (hr : c.reps ≠ 0) (htk : 0 ≤ c.tok) (hx : Arg fI64.rep h uv x.vs) (hl : x.vs.length ≤ 1048576) :
    Ct Try.prog 14 [.pointer (some ⟨B, 0, none⟩), .agg #[.int .i64 a, .int .i64 b, .int .i64 x.e, uv, .int .i64 x.s, .int .i64 x.p]] h fun r h1 => Keep B h h1 ∧ r = .ret (.tuple #[.bool (ansB c a b x.s), .int .i64 (ansE c a b x.s)]) ∧ ∃ vv', ClAt (fun i => S i ∨ Fresh h h1 i) h1 B (ansC c a b x) vc va vr vw vv' := by
  refine go_14 (by simp) ?_
  have huv := hx.cells1
  obtain ⟨H, hH⟩ : ∃ H, H = h.push (.row [.int .i64 a, .int .i64 b, .int .i64 x.e, uv, .int .i64 x.s, .int .i64 x.p] 0 false) := ⟨_, rfl⟩
  have hE : Ext h H := by rw [hH]; exact Ext.push1 _ _
  have hHn : H.next = h.next + 1 := by rw [hH]; rfl
  have ga : H.get h.next = some (.row [.int .i64 a, .int .i64 b, .int .i64 x.e, uv, .int .i64 x.s, .int .i64 x.p] 0 false) := by rw [hH]; exact get_push_same _ _
  have yH := y.ext hE
  have ylt := y.lt
  have same : ansB c a b x.s = false → ∃ vv', ClAt (fun i => S i ∨ Fresh h H i) H B (ansC c a b x) vc va vr vw vv' := fun hb => by
    refine ⟨vv, ?_⟩
    rw [ansC, hb, if_neg (by decide)]
    refine yH.weak (fun i hi => .inl hi) fun i hi => ?_
    rcases hi with hi | hi
    · exact yH.inS i hi
    · exact ⟨hi.2, by have := hi.1; omega⟩
  have notyet : ansN c a b = true → ∃ v, some (Value.tuple #[.bool false, .int .i64 0]) = some v ∧ Keep B h H ∧ DEnd.ret v = .ret (.tuple #[.bool (ansB c a b x.s), .int .i64 (ansE c a b x.s)]) ∧ ∃ vv', ClAt (fun i => S i ∨ Fresh h H i) H B (ansC c a b x) vc va vr vw vv' := fun hn => by
    have h1 : ansB c a b x.s = false := by rw [ansB, hn]; rfl
    have h2 : ansE c a b x.s = 0 := by rw [ansE, hn, if_pos rfl]
    exact ⟨_, rfl, .ofExt hE, by rw [h1, h2], same h1⟩
  simp -implicitDefEqProofs (disch:=first|omega|simp only [go_sem,Nat.reduceAdd]) only [go_sem,Int.reduceLT,Int.reduceLE,Int.reduceEq,reduceIte,true_and, c14, next_push, ← hH]
  refine ncall (none_no yH hr) ?_
  simp -implicitDefEqProofs (disch:=first|omega|simp only [go_sem,Nat.reduceAdd]) only [go_sem,Int.reduceLT,Int.reduceLE,Int.reduceEq,reduceIte,true_and]
  refine dr_14_0 ?_
  cases hp : c.pend with
  | false =>
    have hn : ansN c a b = true := by rw [ansN, hp]; rfl
    simp -implicitDefEqProofs (disch:=first|omega|simp only [go_sem,Nat.reduceAdd]) only [go_sem,Int.reduceLT,Int.reduceLE,Int.reduceEq,reduceIte,true_and, l14_0, yH.cell, hp, Bool.not_false, dPick_t, dPick_f, XStab_nil]
    exact notyet hn
  | true =>
  by_cases ha : a = c.ses
  case neg =>
    have hn : ansN c a b = true := by rw [ansN, decide_eq_false ha]; simp
    simp -implicitDefEqProofs (disch:=first|omega|simp only [go_sem,Nat.reduceAdd]) only [go_sem,Int.reduceLT,Int.reduceLE,Int.reduceEq,reduceIte,true_and, l14_0, yH.cell, hp, Bool.not_true, cellAt_row ga, ha, decide_false, Bool.not_false, dPick_t, dPick_f, XStab_nil]
    exact notyet hn
  by_cases hb : b = c.req
  case neg =>
    have hn : ansN c a b = true := by rw [ansN, decide_eq_false hb]; simp
    have ha' := eq_true ha
    simp -implicitDefEqProofs (disch:=first|omega|simp only [go_sem,Nat.reduceAdd]) only [go_sem,Int.reduceLT,Int.reduceLE,Int.reduceEq,reduceIte,true_and, l14_0, yH.cell, hp, Bool.not_true, cellAt_row ga, ha', hb, decide_true, decide_false, Bool.not_false, dPick_t, dPick_f, XStab_nil]
    exact notyet hn
  have hn : ansN c a b = false := by rw [ansN, hp, decide_eq_true ha, decide_eq_true hb]; rfl
  have ha' := eq_true ha
  have hb' := eq_true hb
  simp -implicitDefEqProofs (disch:=first|omega|simp only [go_sem,Nat.reduceAdd]) only [go_sem,Int.reduceLT,Int.reduceLE,Int.reduceEq,reduceIte,true_and, l14_0, yH.cell, hp, Bool.not_true, cellAt_row ga, ha', hb', decide_true, Bool.not_false, dPick_t, dPick_f, XStab_nil]
  have bad : ¬ (0 ≤ x.s ∧ x.s ≤ 1099511627776) → ∃ v, some (Value.tuple #[.bool false, .int .i64 1]) = some v ∧ Keep B h H ∧ DEnd.ret v = .ret (.tuple #[.bool (ansB c a b x.s), .int .i64 (ansE c a b x.s)]) ∧ ∃ vv', ClAt (fun i => S i ∨ Fresh h H i) H B (ansC c a b x) vc va vr vw vv' := fun hs => by
    have h1 : ansB c a b x.s = false := by rw [ansB, decide_eq_false hs, Bool.and_false]
    have h2 : ansE c a b x.s = 1 := by rw [ansE, hn, if_neg (by decide), if_neg hs]
    exact ⟨_, rfl, .ofExt hE, by rw [h1, h2], same h1⟩
  by_cases s1 : x.s < 0
  · have s1' := eq_true s1
    simp -implicitDefEqProofs (disch:=first|omega|simp only [go_sem,Nat.reduceAdd]) only [go_sem,Int.reduceLT,Int.reduceLE,Int.reduceEq,reduceIte,true_and, s1', dPick_t, dPick_f]
    exact bad (by omega)
  by_cases s2 : 1099511627776 < x.s
  · have s2' := eq_true s2
    simp -implicitDefEqProofs (disch:=first|omega|simp only [go_sem,Nat.reduceAdd]) only [go_sem,Int.reduceLT,Int.reduceLE,Int.reduceEq,reduceIte,true_and, s1, cellAt_row ga, s2', dPick_t, dPick_f]
    exact bad (by omega)
  have hB1 : ansB c a b x.s = true := by rw [ansB, hn, decide_eq_true (by omega)]; rfl
  have hE1 : ansE c a b x.s = 0 := by rw [ansE, hn, if_neg (by decide), if_pos (by omega)]
  have hC1 : ansC c a b x = { c with pend := false, any := true, last := x, tok := max c.tok (x.s + 1) } := by rw [ansC, hB1, if_pos rfl]
  have hres : cellsAt H h.next 2 4 = some (.agg #[.int .i64 x.e, uv, .int .i64 x.s, .int .i64 x.p]) := by rw [cellsAt_row ga (Nat.le_of_ble_eq_true rfl)]; rfl
  obtain ⟨cA, hcA⟩ : ∃ cA : Cl, cA = { c with pend := false } := ⟨_, rfl⟩
  obtain ⟨cB, hcB⟩ : ∃ cB : Cl, cB = { cA with any := true } := ⟨_, rfl⟩
  obtain ⟨cC, hcC⟩ : ∃ cC : Cl, cC = { cB with last := x } := ⟨_, rfl⟩
  have hb1 : storeAt H B 3 [.bool false] = some (H.set B (.row (clL cA vc va vr vw vv) 0 false)) := by
    rw [store_cell rfl rfl (Nat.le_of_ble_eq_true rfl) rfl yH.row, hcA]
    rfl
  have hb2 : storeAt (H.set B (.row (clL cA vc va vr vw vv) 0 false)) B 13 [.bool true] = some (H.set B (.row (clL cB vc va vr vw vv) 0 false)) := by
    rw [store_cell rfl rfl (Nat.le_of_ble_eq_true rfl) rfl (get_set_same _ _), set_set, hcB]
    rfl
  have hone : [.int .i64 x.e, uv, .int .i64 x.s, .int .i64 x.p].all Value.oneCell' = true := by obtain ⟨_, _, rfl⟩ := hx.isSlice; rfl
  have hb3 : storeAt (H.set B (.row (clL cB vc va vr vw vv) 0 false)) B 14 [.int .i64 x.e, uv, .int .i64 x.s, .int .i64 x.p] = some (H.set B (.row (clL cC vc va vr vw uv) 0 false)) := by
    rw [storeAt_row (get_set_same _ _) (Nat.le_of_ble_eq_true rfl) hone, set_set, hcC]
    rfl
  simp -implicitDefEqProofs (disch:=first|omega|simp only [go_sem,Nat.reduceAdd]) only [go_sem,Int.reduceLT,Int.reduceLE,Int.reduceEq,reduceIte,true_and, s1, cellAt_row ga, s2, dPick_t, dPick_f]
  refine dr_14_1 ?_
  simp -implicitDefEqProofs (disch:=first|omega|simp only [go_sem,Nat.reduceAdd]) only [go_sem,Int.reduceLT,Int.reduceLE,Int.reduceEq,reduceIte,true_and, l14_1, hres, hb1, hb2, hb3]
  refine ⟨⟨XSt1_at (i := 4) (j := 7) rfl rfl rfl ?_, XSt1_at (i := 4) (j := 10) rfl rfl rfl ?_, trivial⟩, ?_⟩
  · rw [if_neg (by decide)]
    refine Ld_on (p := .pointer (some ⟨h.next, 2, none⟩)) vz vz (ld_45.trans ?_)
    rw [cellsAt_row ((get_set_other _ _ (by omega)).trans ga) (Nat.le_of_ble_eq_true rfl)]; rfl
  · rw [if_neg (by decide)]
    refine Ld_on (p := .pointer (some ⟨h.next, 2, none⟩)) vz vz (ld_45.trans ?_)
    rw [cellsAt_row ((get_set_other _ _ (by omega)).trans ga) (Nat.le_of_ble_eq_true rfl)]; rfl
  obtain ⟨K, hK⟩ : ∃ K, K = H.set B (.row (clL cC vc va vr vw uv) 0 false) := ⟨_, rfl⟩
  rw [← hK]
  have gK : K.get B = some (.row (clL cC vc va vr vw uv) 0 false) := by rw [hK]; exact get_set_same _ _
  have gaK : K.get h.next = some (.row [.int .i64 a, .int .i64 b, .int .i64 x.e, uv, .int .i64 x.s, .int .i64 x.p] 0 false) := by rw [hK, get_set_other _ _ (by omega)]; exact ga
  have hKn : K.next = H.next := by rw [hK]; rfl
  have kK : Keep B h K := by rw [hK]; exact (Keep.ofExt hE).set _
  have hxK : Arg fI64.rep K uv x.vs := (sl_box hx (by decide) y.row).mono fun i hi => ⟨by have := hi.1; omega, kK.get i hi.1 hi.2⟩
  simp -implicitDefEqProofs (disch:=first|omega|simp only [go_sem,Nat.reduceAdd]) only [go_sem,Int.reduceLT,Int.reduceLE,Int.reduceEq,reduceIte,true_and, cellAt_row gaK]
  refine ncall (clone_ints hxK (by omega)) ?_
  obtain ⟨K2, hK2⟩ : ∃ K2, cloneH fI64 K uv x.vs = K2 := ⟨_, rfl⟩
  obtain ⟨vv', hvv'⟩ : ∃ v, cloneV K uv x.vs = v := ⟨_, rfl⟩
  have e2 : Ext K K2 := hK2 ▸ cloneH_ext _ _ _ _
  have m2 := clone_made (F := fI64) (h := K) hxK
  rw [hK2, hvv'] at m2
  rw [hK2, hvv']
  have ms := m2.sl
  have hcv := ms.cells1
  have hK2n := e2.next
  have gK2 := (e2.get _ (by omega : B < K.next)).trans gK
  have gaK2 := (e2.get _ (by omega : h.next < K.next)).trans gaK
  have sv : dStore Try.prog 23 (.pointer (some ⟨B, 15, none⟩)) vv' K2 = some (K2.set B (.row (clL cC vc va vr vw vv') 0 false)) := (st_23 hcv).trans (store_cell hcv (one_sl ms) (Nat.le_of_ble_eq_true rfl) rfl gK2)
  simp -implicitDefEqProofs (disch:=first|omega|simp only [go_sem,Nat.reduceAdd]) only [go_sem,Int.reduceLT,Int.reduceLE,Int.reduceEq,reduceIte,true_and, sv]
  have ct : cellAt (K2.set B (.row (clL cC vc va vr vw vv') 0 false)) B 12 = some (.int .i64 c.tok) := (cellAt_row (get_set_same _ _)).trans (by rw [hcC, hcB, hcA]; rfl)
  have cs : cellAt (K2.set B (.row (clL cC vc va vr vw vv') 0 false)) h.next 4 = some (.int .i64 x.s) := cellAt_row ((get_set_other _ _ (by omega)).trans gaK2)
  have hw1 : IntKind.i64.wrap (x.s + 1) = x.s + 1 := wrap_i64_in (by omega) (by omega)
  have hb4 : storeAt (K2.set B (.row (clL cC vc va vr vw vv') 0 false)) B 12 [.int .i64 (max c.tok (x.s + 1))] = some (K2.set B (.row (clL (ansC c a b x) vc va vr vw vv') 0 false)) := by
    rw [store_cell rfl rfl (Nat.le_of_ble_eq_true rfl) rfl (get_set_same _ _), set_set, hC1, hcC, hcB, hcA]
    rfl
  refine dr_14_2 ?_
  simp -implicitDefEqProofs (disch:=first|omega|simp only [go_sem,Nat.reduceAdd]) only [go_sem,Int.reduceLT,Int.reduceLE,Int.reduceEq,reduceIte,true_and, l14_2, ct, cs, hw1, max_i64, hb4, XStab_nil]
  refine ⟨_, rfl, ?_, by rw [hB1, hE1], vv', ?_⟩
  · exact (kK.trans (Keep.ofExt e2)).set _
  · refine ⟨get_set_same _ _, ?_, ?_, by show B < K2.next; omega, fun i hi => ?_⟩
    · rw [show (ansC c a b x).t = c.t by rw [hC1]]
      refine y.tx.mono fun i hi => ⟨.inl hi, ?_⟩
      rw [get_set_other _ _ (y.inS i hi).2, e2.get i (by have := (y.inS i hi).1; omega)]
      exact kK.get i (y.inS i hi).1 (y.inS i hi).2
    · rw [show (ansC c a b x).last = x by rw [hC1]]
      exact ms.mono fun i hi => ⟨.inr ⟨by omega, hi.2⟩, get_set_other _ _ (by omega)⟩
    · rcases hi with hi | hi
      · have := y.inS i hi
        exact ⟨by show i < K2.next; omega, this.2⟩
      · exact ⟨hi.2, by have := hi.1; omega⟩
end Go.Proofs.Ytbdljpndncohaaa

namespace Go.Proofs.Ytbdljpndncohaaa
open Go.D
set_option maxRecDepth 100000

theorem token_c {S : Nat → Prop} {h : DHeap} {B : Nat} {c : Cl} {vc va vr vw vv : Value} (x : ClAt S h B c vc va vr vw vv) (hr : c.reps ≠ 0) : DC Try.prog 15 [.pointer (some ⟨B, 0, none⟩)] h (.ret (.int .i64 c.tok)) h := by
  refine Ct.pure (go_15 (by simp) ?_) (vin_int _ _)
  simp -implicitDefEqProofs (disch:=first|omega|simp only [go_sem,Nat.reduceAdd]) only [go_sem,Int.reduceLT,Int.reduceLE,Int.reduceEq,reduceIte,true_and, c15]
  refine ncall (none_no x hr) ?_
  simp -implicitDefEqProofs (disch:=first|omega|simp only [go_sem,Nat.reduceAdd]) only [go_sem,Int.reduceLT,Int.reduceLE,Int.reduceEq,reduceIte,true_and, x.cell]
  exact ⟨_, rfl, rfl, .refl _⟩
theorem request_c {S : Nat → Prop} {h : DHeap} {B : Nat} {c : Cl} {vc va vr vw vv : Value} (x : ClAt S h B c vc va vr vw vv) (hr : c.reps ≠ 0) : DC Try.prog 22 [.pointer (some ⟨B, 0, none⟩)] h (.ret (.int .i64 c.req)) h := by
  refine Ct.pure (go_22 (by simp) ?_) (vin_int _ _)
  simp -implicitDefEqProofs (disch:=first|omega|simp only [go_sem,Nat.reduceAdd]) only [go_sem,Int.reduceLT,Int.reduceLE,Int.reduceEq,reduceIte,true_and, c22]
  refine ncall (none_no x hr) ?_
  simp -implicitDefEqProofs (disch:=first|omega|simp only [go_sem,Nat.reduceAdd]) only [go_sem,Int.reduceLT,Int.reduceLE,Int.reduceEq,reduceIte,true_and, x.cell]
  exact ⟨_, rfl, rfl, .refl _⟩
theorem live_sub : submitE (cl0 3 3) tx0 1 = 0 := by kernel_rfl
theorem bd_res4 : dBuild Try.prog 45 [(2, .int .i64 4)] = some (.agg #[.int .i64 0, nilV, .int .i64 4, .int .i64 0]) := dBuild_at plc_45 rfl
theorem bd_ans : dBuild Try.prog 47 [(0, .int .i64 3), (1, .int .i64 1), (2, .agg #[.int .i64 0, nilV, .int .i64 4, .int .i64 0])] = some (.agg #[.int .i64 3, .int .i64 1, .int .i64 0, nilV, .int .i64 4, .int .i64 0]) := dBuild_at plc_47 rfl
theorem tx0_v {S : Nat → Prop} {h : DHeap} : TxV S h tx0 nilV nilV nilV nilV := ⟨.nil _ _ _, .nil _ _ _, .nil _ _ _, .nil _ _ _⟩
theorem tx0_len : TxLen tx0 := ⟨by decide, by decide, by decide, by decide⟩
theorem ask_push {S S' : Nat → Prop} {h h' : DHeap} {t : Txn} {vc va vr vw vk : Value} {l : List Key} (x : TxV S h t vc va vr vw) (y : Sl fKey.rep S' h' vk l) {k a b m : Int} {q : Bool} (K : DHeap) : storeAt (K.push (.row askL0 0 false)) K.next 0 (askL k a b vc va vr vw q vk m) = some (K.push (.row (askL k a b vc va vr vw q vk m) 0 false)) :=
  storeAll_push rfl (ask_one x y)
def clS : Cl := submitC (cl0 3 3) tx0 1
def clW (i : Nat) : Cl := { clS with wait := (i : Int) }
theorem tick_w {i : Nat} (hi : i < 11) : tickC (clW i) = clW (i + 1) ∧ tickB (clW i) = false := by
  have h1 : (clW i).pend = true := rfl
  have h2 : (clW i).wait + 1 < 12 := by show (i : Int) + 1 < 12; omega
  refine ⟨?_, ?_⟩
  · rw [tickC, if_neg (by rw [h1]; decide), if_pos h2]; rfl
  · rw [tickB, h1, decide_eq_true h2]; rfl
set_option maxHeartbeats 1000000 in
theorem live_c {h : DHeap} : DC Try.prog 10 [] h (.ret (.bool true)) h := by
  refine Ct.pure (go_10 (by simp) ?_) (vin_bool _)
  simp -implicitDefEqProofs (disch:=first|omega|simp only [go_sem,Nat.reduceAdd]) only [go_sem,Int.reduceLT,Int.reduceLE,Int.reduceEq,reduceIte,true_and, c10]
  refine ncall_ct (new_ok (s := 3) (r := 3) rfl) ?_
  rintro r H ⟨rfl, hH⟩
  have x0 : ClAt NoS H h.next (cl0 3 3) nilV nilV nilV nilV nilV := by rw [hH]; exact cl0_at
  have hE : Ext h H := by rw [hH]; exact Ext.push1 _ _
  simp -implicitDefEqProofs (disch:=first|omega|simp only [go_sem,Nat.reduceAdd]) only [go_sem,Int.reduceLT,Int.reduceLE,Int.reduceEq,reduceIte,true_and, XEnd, ptr_some, dPick_t, dPick_f, bd_txn0]
  refine ncall_ct (submit_c x0 (by decide) (by decide) (t := tx0) (k := 1) tx0_v tx0_len) ?_
  rintro r M (⟨hbad, _⟩ | ⟨_, kM, n1, vc, va, vr, vw, wc, wa, wr, ww, hn1, hn2, rfl, x1, q⟩)
  · exact absurd live_sub hbad
  have hwc := q.c.cells1
  have hwa := q.a.cells1
  have hwr := q.r.cells1
  have hww := q.w.cells1
  have sp := ask_push (k := 1) (a := (subT (cl0 3 3) tx0).ses) (b := (subT (cl0 3 3) tx0).req) (m := 0) (q := false) q (.nil fKey.rep NoS M)
  obtain ⟨J, hJ⟩ : ∃ J, J = M.push (.row (askL 1 (subT (cl0 3 3) tx0).ses (subT (cl0 3 3) tx0).req wc wa wr ww false nilV 0) 0 false) := ⟨_, rfl⟩
  have gJ : J.get M.next = some (.row (askL 1 (subT (cl0 3 3) tx0).ses (subT (cl0 3 3) tx0).req wc wa wr ww false nilV 0) 0 false) := by rw [hJ]; exact get_push_same _ _
  have eJ : Ext M J := by rw [hJ]; exact Ext.push1 _ _
  have d3 : decide (3 = (3 : Int)) = true := rfl
  have d1 : decide (1 = (1 : Int)) = true := rfl
  have es : (subT (cl0 3 3) tx0).ses = 3 := rfl
  have er : (subT (cl0 3 3) tx0).req = 1 := rfl
  simp -implicitDefEqProofs (disch:=first|omega|simp only [go_sem,Nat.reduceAdd]) only [go_sem,Int.reduceLT,Int.reduceLE,Int.reduceEq,reduceIte,true_and, XEnd, sp, ← hJ, dPick_t, dPick_f]
  simp -implicitDefEqProofs (disch:=first|omega|simp only [go_sem,Nat.reduceAdd]) only [go_sem,Int.reduceLT,Int.reduceLE,Int.reduceEq,reduceIte,true_and, cellAt_row gJ, es, er, dPick_t, dPick_f]
  have kJ : Keep h.next h J := ((Keep.ofExt hE).trans kM).trans (Keep.ofExt eJ)
  refine xloop (σ := Nat) (by kernel_rfl) (fun i s => s.df = [] ∧ s.rd = none ∧ s.fr 1 = some (.pointer (some ⟨h.next, 0, none⟩)) ∧ s.fr 44 = some (.int .i64 (i : Nat)) ∧ i ≤ 11 ∧ Keep h.next h s.h ∧ ClAt (fun i => NoS i ∨ (H.next ≤ i ∧ i < n1)) s.h h.next (clW i) vc va vr vw nilV) (fun i => 11 - i) 0 ?_ ?_
  · simp -implicitDefEqProofs (disch:=first|omega|simp only [go_sem,Nat.reduceAdd]) only [go_sem,Int.reduceLT,Int.reduceLE,Int.reduceEq,reduceIte,true_and]
    exact ⟨rfl, Nat.zero_le _, kJ, x1.ext eJ⟩
  rintro i ⟨fr, df, K, rd⟩ K' hK' hX ⟨hdf, hrd, f1, f44, hi, kK, xK⟩
  simp only at hdf hrd f1 f44 kK xK
  subst hdf hrd
  simp -implicitDefEqProofs (disch:=first|omega|simp only [go_sem,Nat.reduceAdd]) only [go_sem,Int.reduceLT,Int.reduceLE,Int.reduceEq,reduceIte,true_and, f1, f44]
  refine XIf_dec (fun hc1 => ?_) (fun hc1 => ?_)
  · have hil : i < 11 := by omega
    obtain ⟨hC, hB⟩ := tick_w hil
    have hw1 := wrap_succ hil (by decide)
    simp -implicitDefEqProofs (disch:=first|omega|simp only [go_sem,Nat.reduceAdd]) only [go_sem,Int.reduceLT,Int.reduceLE,Int.reduceEq,reduceIte,true_and, f1]
    refine ncall_ct (tick_c xK (by show (3 : Int) ≠ 0; decide) ⟨by show (0 : Int) ≤ (i : Int); omega, by show (i : Int) ≤ 1000000; omega⟩ (by show (0 : Int) ≤ 1 ∧ (1 : Int) ≤ 1000000; decide) (tx0_len.sub)) ?_
    rintro r F ⟨kF, yF, hh⟩
    rcases hh with ⟨_, rfl⟩ | ⟨hb, _⟩
    case inr => rw [hB] at hb; cases hb
    rw [hC] at yF
    have sp0 : storeAt (F.push (.row askL0 0 false)) F.next 0 askL0 = some (F.push (.row askL0 0 false)) := storeAll_push rfl rfl
    simp -implicitDefEqProofs (disch:=first|omega|simp only [go_sem,Nat.reduceAdd]) only [go_sem,Int.reduceLT,Int.reduceLE,Int.reduceEq,reduceIte,true_and, XEnd, sp0, f44, hw1]
    refine hK' (i + 1) _ ?_ (by omega)
    exact ⟨by trivial, by trivial, (vy f1), vz, by omega, (kK.trans kF).trans (Keep.ofExt (Ext.push1 _ _)), yF.ext (Ext.push1 _ _)⟩
  · obtain rfl : i = 11 := by omega
    refine hX _ _ (by simp) ?_
    simp -implicitDefEqProofs (disch:=first|omega|simp only [go_sem,Nat.reduceAdd]) only [go_sem,Int.reduceLT,Int.reduceLE,Int.reduceEq,reduceIte,true_and, f1]
    refine ncall_ct (tick_c xK (by decide) (by decide) (by decide) (tx0_len.sub)) ?_
    rintro r F ⟨kF, yF, hh⟩
    rcases hh with ⟨hb, _⟩ | ⟨_, uc, ua, ur, uw, rfl, q2⟩
    · exact absurd hb (by decide)
    have huc := q2.c.cells1
    have hua := q2.a.cells1
    have hur := q2.r.cells1
    have huw := q2.w.cells1
    have sp2 := ask_push (k := (tickC (clW 11)).turn) (a := (clW 11).t.ses) (b := (clW 11).t.req) (m := 0) (q := false) q2 (.nil fKey.rep NoS F)
    obtain ⟨G, hG⟩ : ∃ G, G = F.push (.row (askL (tickC (clW 11)).turn (clW 11).t.ses (clW 11).t.req uc ua ur uw false nilV 0) 0 false) := ⟨_, rfl⟩
    have gG : G.get F.next = some (.row (askL (tickC (clW 11)).turn (clW 11).t.ses (clW 11).t.req uc ua ur uw false nilV 0) 0 false) := by rw [hG]; exact get_push_same _ _
    have eG : Ext F G := by rw [hG]; exact Ext.push1 _ _
    have et : (tickC (clW 11)).turn = 2 := by decide
    simp -implicitDefEqProofs (disch:=first|omega|simp only [go_sem,Nat.reduceAdd]) only [go_sem,Int.reduceLT,Int.reduceLE,Int.reduceEq,reduceIte,true_and, XEnd, sp2, ← hG, bd_res4, bd_ans, f1]
    refine ncall_ct (answer_c (x := ⟨0, [], 4, 0⟩) (yF.ext eG) (by decide) (by decide) (.nil _ _ _) (by decide)) ?_
    rintro r A ⟨kA, rfl, vv', yA⟩
    have gA : A.get F.next = some (.row (askL (tickC (clW 11)).turn (clW 11).t.ses (clW 11).t.req uc ua ur uw false nilV 0) 0 false) := (kA.get _ (by rw [hG]; exact Nat.lt_succ_self _) (by have := yF.lt; omega)).trans gG
    have a1 : ansB (tickC (clW 11)) 3 1 4 = true := by decide
    have a2 : ansE (tickC (clW 11)) 3 1 4 = 0 := by decide
    have a3 : (ansC (tickC (clW 11)) 3 1 ⟨0, [], 4, 0⟩).tok = 5 := by decide
    simp -implicitDefEqProofs (disch:=first|omega|simp only [go_sem,Nat.reduceAdd]) only [go_sem,Int.reduceLT,Int.reduceLE,Int.reduceEq,reduceIte,true_and, XEnd, a1, a2, cellAt_row gA, et, dPick_t, dPick_f, f1]
    refine ncall (token_c yA (by decide)) ?_
    simp -implicitDefEqProofs (disch:=first|omega|simp only [go_sem,Nat.reduceAdd]) only [go_sem,Int.reduceLT,Int.reduceLE,Int.reduceEq,reduceIte,true_and, a3, dPick_t, dPick_f]
    exact ⟨_, rfl, rfl, ((((kK.trans kF).trans (Keep.ofExt eG)).trans kA).toExt (.refl _) (Nat.le_refl _))⟩
end Go.Proofs.Ytbdljpndncohaaa

namespace Go.Proofs.Ytbdljpndncohaaa
open Go.D
set_option maxRecDepth 100000

theorem ptr_nil' {h : DHeap} {ox oy : Operand} : dBinOp Try.prog .neq 30 ox oy (.pointer none) (.pointer none) h = .ok (.value (.bool false)) h := by
  rfl
/-- a call's box -/
structure OpAt (h : DHeap) (id : Nat) (x : OpC) (vc va vr vw vv vk vp : Value) : Prop where
  row : h.get id = some (.row (opL x vc va vr vw vv vk vp) 0 false)
  lt : id < h.next
  c : vc.cells = #[vc]
  a : va.cells = #[va]
  r : vr.cells = #[vr]
  w : vw.cells = #[vw]
  v : vv.cells = #[vv]
  p : vp.cells = #[vp]
theorem OpAt.ext {h h1 : DHeap} {id : Nat} {x : OpC} {vc va vr vw vv vk vp : Value} (o : OpAt h id x vc va vr vw vv vk vp) (e : Ext h h1) : OpAt h1 id x vc va vr vw vv vk vp :=
  ⟨(e.get _ o.lt).trans o.row, Nat.lt_of_lt_of_le o.lt e.next, o.c, o.a, o.r, o.w, o.v, o.p⟩
theorem OpAt.txn {h : DHeap} {id : Nat} {x : OpC} {vc va vr vw vv vk vp : Value} (o : OpAt h id x vc va vr vw vv vk vp) : cellsAt h id 1 6 = some (txnV x.t.ses x.t.req vc va vr vw) := by
  rw [cellsAt_row o.row (Nat.le_of_ble_eq_true rfl)]; rfl
theorem OpAt.ans {h : DHeap} {id : Nat} {x : OpC} {vc va vr vw vv vk vp : Value} (o : OpAt h id x vc va vr vw vv vk vp) : cellsAt h id 8 6 = some (.agg #[.int .i64 x.a.ses, .int .i64 x.a.req, .int .i64 x.a.x.e, vv, .int .i64 x.a.x.s, .int .i64 x.a.x.p]) := by
  rw [cellsAt_row o.row (Nat.le_of_ble_eq_true rfl)]; rfl
theorem OpAt.fnd {h : DHeap} {id : Nat} {x : OpC} {vc va vr vw vv vk vp : Value} (o : OpAt h id x vc va vr vw vv vk vp) : cellsAt h id 16 3 = some (.agg #[.int .i64 x.f.err, .int .i64 x.f.index, vp]) := by
  rw [cellsAt_row o.row (Nat.le_of_ble_eq_true rfl)]; rfl
theorem OpAt.cell {h : DHeap} {id : Nat} {x : OpC} {vc va vr vw vv vk vp : Value} (o : OpAt h id x vc va vr vw vv vk vp) (i : Nat) : cellAt h id i = (opL x vc va vr vw vv vk vp)[i]? := cellAt_row o.row
end Go.Proofs.Ytbdljpndncohaaa

namespace Go.Proofs.Ytbdljpndncohaaa
open Go.D
set_option maxRecDepth 100000

theorem bin_boolneq {a b : Bool} {h : DHeap} {ox oy : Operand} : dBinOp Try.prog .neq 4 ox oy (.bool a) (.bool b) h = .ok (.value (.bool (a != b))) h := by
  cases a <;> cases b <;> rfl
end Go.Proofs.Ytbdljpndncohaaa

namespace Go.Proofs.Ytbdljpndncohaaa
open Go.D
set_option maxRecDepth 100000

theorem pending_no {S : Nat → Prop} {h : DHeap} {B : Nat} {c : Cl} {vc va vr vw vv : Value} (x : ClAt S h B c vc va vr vw vv) (hr : c.reps ≠ 0) (hp : c.pend = false) : DC Try.prog 18 [.pointer (some ⟨B, 0, none⟩)] h (.ret (.tuple #[.agg txL0.toArray, .bool false])) h := by
  refine Ct.pure (go_18 (by simp) ?_) vin_txn0b
  obtain ⟨H, hH⟩ : ∃ H, H = h.push (.row txL0 0 false) := ⟨_, rfl⟩
  have hE : Ext h H := by rw [hH]; exact Ext.push1 _ _
  have gb : H.get h.next = some (.row txL0 0 false) := by rw [hH]; exact get_push_same _ _
  have ss := store_self gb rfl
  have xH := x.ext hE
  simp -implicitDefEqProofs (disch:=first|omega|simp only [go_sem,Nat.reduceAdd]) only [go_sem,Int.reduceLT,Int.reduceLE,Int.reduceEq,reduceIte,true_and, c18, next_push, ← hH]
  refine ncall (none_no xH hr) ?_
  simp -implicitDefEqProofs (disch:=first|omega|simp only [go_sem,Nat.reduceAdd]) only [go_sem,Int.reduceLT,Int.reduceLE,Int.reduceEq,reduceIte,true_and, xH.cell, hp, Bool.not_false, bd_txn0, ss, dPick_t, dPick_f]
  exact ret_at (res_ct (n := 6) vz vz (fun _ => ld_26) (row_cells gb rfl)) ⟨rfl, hE⟩
/-- what the operations of the law's comparison give -/
def NlV (t : Txn) (vc va vr vw nc na nr nw : Value) (k : Nat) (h : DHeap) (v : Value) : Prop :=
  match k with
  | 0 => v = txnV t.ses t.req nc na nr nw
  | 1 => v = txnV t.ses t.req vc va vr vw
  | 2 => ∃ ur uw, v = txnV t.ses t.req vc va ur uw ∧ Arg fKey.rep h ur (keysN t.reads) ∧ Arg fKey.rep h uw (keysN t.writes)
  | 3 => v = .bool true
  | 4 => v = .bool false
  | _ => True
theorem NlV.mono {t : Txn} {vc va vr vw nc na nr nw : Value} : ∀ k h h' v, Ext h h' → NlV t vc va vr vw nc na nr nw k h v → NlV t vc va vr vw nc na nr nw k h' v := fun k h h' v e x => by
  unfold NlV at *
  split at x <;> try exact x
  obtain ⟨ur, uw, a, b, c⟩ := x
  exact ⟨ur, uw, a, b.ext e, c.ext e⟩
end Go.Proofs.Ytbdljpndncohaaa

namespace Go.Proofs.Ytbdljpndncohaaa
open Go.D
set_option maxRecDepth 100000

def foundE (c : Cl) (e i : Int) : Int := if e ≠ 0 then e else if i < 0 ∨ 1099511627776 < i then 1 else if i < c.tok then 250 else 0
def foundC (c : Cl) (e i : Int) : Cl := if foundE c e i = 0 then { c with tok := i } else c
theorem found_c {S : Nat → Prop} {h : DHeap} {B : Nat} {c : Cl} {vc va vr vw vv vp : Value} {e i : Int} (y : ClAt S h B c vc va vr vw vv) (hr : c.reps ≠ 0) (hp : vp.cells = #[vp]) :
    Ct Try.prog 25 [.pointer (some ⟨B, 0, none⟩), .agg #[.int .i64 e, .int .i64 i, vp]] h fun r h1 => Keep B h h1 ∧ r = .ret (.int .i64 (foundE c e i)) ∧ ClAt S h1 B (foundC c e i) vc va vr vw vv := by
  refine go_25 (by simp) ?_
  obtain ⟨H, hH⟩ : ∃ H, H = h.push (.row [.int .i64 e, .int .i64 i, vp] 0 false) := ⟨_, rfl⟩
  have hE : Ext h H := by rw [hH]; exact Ext.push1 _ _
  have ga : H.get h.next = some (.row [.int .i64 e, .int .i64 i, vp] 0 false) := by rw [hH]; exact get_push_same _ _
  have yH := y.ext hE
  have ylt := y.lt
  have no : ∀ n, foundE c e i = n → n ≠ 0 → ∃ v, some (Value.int .i64 n) = some v ∧ Keep B h H ∧ DEnd.ret v = .ret (.int .i64 (foundE c e i)) ∧ ClAt S H B (foundC c e i) vc va vr vw vv := fun n h1 h2 =>
    ⟨_, rfl, .ofExt hE, by rw [h1], by rw [foundC, if_neg (by rw [h1]; exact h2)]; exact yH⟩
  simp -implicitDefEqProofs (disch:=first|omega|simp only [go_sem,Nat.reduceAdd]) only [go_sem,Int.reduceLT,Int.reduceLE,Int.reduceEq,reduceIte,true_and, c25, next_push, ← hH]
  refine ncall (none_no yH hr) ?_
  by_cases p1 : e = 0
  case neg =>
    have hF : foundE c e i = e := by rw [foundE, if_pos p1]
    simp -implicitDefEqProofs (disch:=first|omega|simp only [go_sem,Nat.reduceAdd]) only [go_sem,Int.reduceLT,Int.reduceLE,Int.reduceEq,reduceIte,true_and, cellAt_row ga, p1]
    exact no _ hF p1
  have p1' := eq_true p1
  have h0 : foundE c e i = if i < 0 ∨ 1099511627776 < i then 1 else if i < c.tok then 250 else 0 := by rw [foundE, if_neg (fun h => h p1)]
  by_cases p2 : i < 0
  · have p2' := eq_true p2
    simp -implicitDefEqProofs (disch:=first|omega|simp only [go_sem,Nat.reduceAdd]) only [go_sem,Int.reduceLT,Int.reduceLE,Int.reduceEq,reduceIte,true_and, cellAt_row ga, p1', p2', dPick_t, dPick_f]
    exact no _ (by rw [h0, if_pos (.inl p2)]) (by decide)
  by_cases p3 : 1099511627776 < i
  · have p3' := eq_true p3
    simp -implicitDefEqProofs (disch:=first|omega|simp only [go_sem,Nat.reduceAdd]) only [go_sem,Int.reduceLT,Int.reduceLE,Int.reduceEq,reduceIte,true_and, cellAt_row ga, p1', p2, p3', dPick_t, dPick_f]
    exact no _ (by rw [h0, if_pos (.inr p3)]) (by decide)
  rw [if_neg (by omega)] at h0
  simp -implicitDefEqProofs (disch:=first|omega|simp only [go_sem,Nat.reduceAdd]) only [go_sem,Int.reduceLT,Int.reduceLE,Int.reduceEq,reduceIte,true_and, cellAt_row ga, p1', p2, p3, dPick_t, dPick_f]
  refine dr_25_0 ?_
  by_cases p4 : i < c.tok
  · have p4' := eq_true p4
    simp -implicitDefEqProofs (disch:=first|omega|simp only [go_sem,Nat.reduceAdd]) only [go_sem,Int.reduceLT,Int.reduceLE,Int.reduceEq,reduceIte,true_and, l25_0, cellAt_row ga, yH.cell, p4', XStab_nil]
    exact no _ (by rw [h0, if_pos p4]) (by decide)
  rw [if_neg p4] at h0
  have hC : foundC c e i = { c with tok := i } := by rw [foundC, if_pos h0]
  obtain ⟨st, y1⟩ := yH.put (c' := foundC c e i) (o := 12) (v := .int .i64 i) rfl rfl (by decide) (by rw [hC]; rfl) (by rw [hC]) (by rw [hC])
  simp -implicitDefEqProofs (disch:=first|omega|simp only [go_sem,Nat.reduceAdd]) only [go_sem,Int.reduceLT,Int.reduceLE,Int.reduceEq,reduceIte,true_and, l25_0, cellAt_row ga, yH.cell, p4, XStab_nil, st]
  exact ⟨_, rfl, (Keep.ofExt hE).set _, by rw [h0], y1⟩
/-- a session that is as it should be -/
structure ClOk (c : Cl) : Prop where
  reps : 1 ≤ c.reps ∧ c.reps ≤ 5
  req : 0 ≤ c.req
  wait : 0 ≤ c.wait ∧ c.wait ≤ 11
  turn : 0 ≤ c.turn ∧ c.turn < c.reps
  tok : 0 ≤ c.tok
  len : TxLen c.t
theorem ok_cl0 {s r : Int} (h : newE s r = 0) : ClOk (cl0 s r) := by
  unfold newE at h
  split at h
  · cases h
  · rename_i hh
    exact ⟨⟨by show 1 ≤ r; omega, by show r ≤ 5; omega⟩, by show (0 : Int) ≤ 0; decide, ⟨by show (0 : Int) ≤ 0; decide, by show (0 : Int) ≤ 11; decide⟩, ⟨by show (0 : Int) ≤ 0; decide, by show (0 : Int) < r; omega⟩, by show (0 : Int) ≤ 0; decide, tx0_len⟩
theorem ok_submit {c : Cl} {t : Txn} {k : Int} (o : ClOk c) (hl : TxLen t) (he : submitE c t k = 0) : ClOk (submitC c t k) := by
  have hk : 0 ≤ k ∧ k < c.reps := by
    unfold submitE at he
    split at he
    · cases he
    · split at he
      · cases he
      · omega
  have h1 := o.req
  exact ⟨o.reps, by show 0 ≤ c.req + 1; omega, ⟨by show (0 : Int) ≤ 0; decide, by show (0 : Int) ≤ 11; decide⟩, hk, o.tok, hl.sub⟩
theorem ok_tick {c : Cl} (o : ClOk c) : ClOk (tickC c) := by
  unfold tickC
  have h1 := o.reps
  have h2 := o.wait
  have h3 := o.turn
  split
  · exact o
  · split
    · exact ⟨o.reps, o.req, ⟨by show 0 ≤ c.wait + 1; omega, by show c.wait + 1 ≤ 11; omega⟩, o.turn, o.tok, o.len⟩
    · exact ⟨o.reps, o.req, ⟨by show (0 : Int) ≤ 0; decide, by show (0 : Int) ≤ 11; decide⟩, ⟨Int.tmod_nonneg _ (by omega), Int.tmod_lt_of_pos _ (by omega)⟩, o.tok, o.len⟩
theorem ok_ans {c : Cl} {a b : Int} {x : Res} (o : ClOk c) : ClOk (ansC c a b x) := by
  unfold ansC
  split
  · exact ⟨o.reps, o.req, o.wait, o.turn, by have := o.tok; show 0 ≤ max c.tok (x.s + 1); omega, o.len⟩
  · exact o
theorem ok_found {c : Cl} {e i : Int} (o : ClOk c) : ClOk (foundC c e i) := by
  unfold foundC
  split
  · rename_i h
    refine ⟨o.reps, o.req, o.wait, o.turn, ?_, o.len⟩
    unfold foundE at h
    split at h
    · exact absurd h (by assumption)
    · split at h
      · cases h
      · show 0 ≤ i; omega
  · exact o
end Go.Proofs.Ytbdljpndncohaaa

namespace Go.Proofs.Ytbdljpndncohaaa
open Go.D
set_option maxRecDepth 100000

theorem bd_rcl0 {s r : Int} : dBuild Try.prog 86 [(0, .int .i64 s), (1, .int .i64 r)] = some (.agg (clL (cl0 s r) nilV nilV nilV nilV nilV).toArray) := dBuild_at plc_86 rfl
theorem refNew_bad {h : DHeap} {s r : Int} (hb : newE s r ≠ 0) : DC Try.prog 16 [.int .i64 s, .int .i64 r] h (.ret (.tuple #[.pointer none, .int .i64 1])) h := by
  refine Ct.pure (go_16 (by simp) ?_) (flat3_vin _ rfl)
  have hb' : s < 1 ∨ 1099511627776 < s ∨ r < 1 ∨ 5 < r := by
    unfold newE at hb
    split at hb
    · assumption
    · exact absurd rfl hb
  simp -implicitDefEqProofs (disch:=first|omega|simp only [go_sem,Nat.reduceAdd]) only [go_sem,Int.reduceLT,Int.reduceLE,Int.reduceEq,reduceIte,true_and, c16]
  by_cases q1 : s < 1
  · have q1' := eq_true q1
    simp -implicitDefEqProofs (disch:=first|omega|simp only [go_sem,Nat.reduceAdd]) only [go_sem,Int.reduceLT,Int.reduceLE,Int.reduceEq,reduceIte,true_and, q1', dPick_t, dPick_f]
    exact ⟨_, rfl, rfl, .refl _⟩
  by_cases q2 : 1099511627776 < s
  · have q2' := eq_true q2
    simp -implicitDefEqProofs (disch:=first|omega|simp only [go_sem,Nat.reduceAdd]) only [go_sem,Int.reduceLT,Int.reduceLE,Int.reduceEq,reduceIte,true_and, q1, q2', dPick_t, dPick_f]
    exact ⟨_, rfl, rfl, .refl _⟩
  by_cases q3 : r < 1
  · have q3' := eq_true q3
    simp -implicitDefEqProofs (disch:=first|omega|simp only [go_sem,Nat.reduceAdd]) only [go_sem,Int.reduceLT,Int.reduceLE,Int.reduceEq,reduceIte,true_and, q1, q2, q3', dPick_t, dPick_f]
    exact ⟨_, rfl, rfl, .refl _⟩
  have q4' : (5 < r) = True := eq_true (by omega)
  simp -implicitDefEqProofs (disch:=first|omega|simp only [go_sem,Nat.reduceAdd]) only [go_sem,Int.reduceLT,Int.reduceLE,Int.reduceEq,reduceIte,true_and, q1, q2, q3, q4', dPick_t, dPick_f]
  exact ⟨_, rfl, rfl, .refl _⟩
theorem refNew_ok {h : DHeap} {s r : Int} (hb : newE s r = 0) : Ct Try.prog 16 [.int .i64 s, .int .i64 r] h fun rr h1 => rr = .ret (.tuple #[.pointer (some ⟨h.next, 0, none⟩), .int .i64 0]) ∧ h1 = h.push (.row (clL (cl0 s r) nilV nilV nilV nilV nilV) 0 false) := by
  refine go_16 (by simp) ?_
  have hb' : ¬ (s < 1 ∨ 1099511627776 < s ∨ r < 1 ∨ 5 < r) := by
    unfold newE at hb
    split at hb
    · cases hb
    · assumption
  have q1 : ¬ s < 1 := fun h => hb' (.inl h)
  have q2 : ¬ 1099511627776 < s := fun h => hb' (.inr (.inl h))
  have q3 : ¬ r < 1 := fun h => hb' (.inr (.inr (.inl h)))
  have q4 : ¬ 5 < r := fun h => hb' (.inr (.inr (.inr h)))
  simp -implicitDefEqProofs (disch:=first|omega|simp only [go_sem,Nat.reduceAdd]) only [go_sem,Int.reduceLT,Int.reduceLE,Int.reduceEq,reduceIte,true_and, c16, q1, q2, q3, q4, dPick_t, dPick_f, bd_rcl0]
  exact ⟨_, rfl, rfl, trivial⟩
theorem refMay_c {S : Nat → Prop} {h : DHeap} {B : Nat} {c : Cl} {vc va vr vw vv : Value} {k : Int} (x : ClAt S h B c vc va vr vw vv) : DC Try.prog 36 [.pointer (some ⟨B, 0, none⟩), .int .i64 k] h (.ret (.bool (decide (0 ≤ k ∧ k < c.reps)))) h := by
  refine Ct.pure (go_36 (by simp) ?_) (vin_bool _)
  by_cases k1 : 0 ≤ k
  · have k1' := eq_true k1
    simp -implicitDefEqProofs (disch:=first|omega|simp only [go_sem,Nat.reduceAdd]) only [go_sem,Int.reduceLT,Int.reduceLE,Int.reduceEq,reduceIte,true_and, c36, k1', x.cell, dPick_t, dPick_f]
    refine ⟨_, rfl, ?_, .refl _⟩
    simp [k1]
  · simp -implicitDefEqProofs (disch:=first|omega|simp only [go_sem,Nat.reduceAdd]) only [go_sem,Int.reduceLT,Int.reduceLE,Int.reduceEq,reduceIte,true_and, c36, k1, dPick_t, dPick_f]
    refine ⟨_, rfl, ?_, .refl _⟩
    simp [k1]
theorem refPending_c {S : Nat → Prop} {h : DHeap} {B : Nat} {c : Cl} {vc va vr vw vv : Value} (x : ClAt S h B c vc va vr vw vv) :
    Ct Try.prog 19 [.pointer (some ⟨B, 0, none⟩)] h fun r h1 => Ext h h1 ∧ ((c.pend = false ∧ r = .ret (.tuple #[.agg txL0.toArray, .bool false])) ∨ (c.pend = true ∧ r = .ret (.tuple #[txnV c.t.ses c.t.req vc va vr vw, .bool true]))) := by
  obtain ⟨R, hR⟩ : ∃ R : DEnd → DHeap → Prop, (fun r h1 => Ext h h1 ∧ ((c.pend = false ∧ r = .ret (.tuple #[.agg txL0.toArray, .bool false])) ∨ (c.pend = true ∧ r = .ret (.tuple #[txnV c.t.ses c.t.req vc va vr vw, .bool true])))) = R := ⟨_, rfl⟩
  rw [hR]
  refine go_19 (by simp) ?_
  obtain ⟨H, hH⟩ : ∃ H, H = h.push (.row txL0 0 false) := ⟨_, rfl⟩
  have hE : Ext h H := by rw [hH]; exact Ext.push1 _ _
  have gb : H.get h.next = some (.row txL0 0 false) := by rw [hH]; exact get_push_same _ _
  have ss := store_self gb rfl
  have xH := x.ext hE
  have xlt := x.lt
  cases hp : c.pend with
  | false =>
    simp -implicitDefEqProofs (disch:=first|omega|simp only [go_sem,Nat.reduceAdd]) only [go_sem,Int.reduceLT,Int.reduceLE,Int.reduceEq,reduceIte,true_and, c19, next_push, ← hH, xH.cell, hp, Bool.not_false, bd_txn0, ss]
    exact ret_at (res_ct (n := 6) (w := .bool false) vz vz (fun _ => ld_26) (row_cells gb rfl)) (by rw [← hR]; exact ⟨hE, .inl ⟨hp, rfl⟩⟩)
  | true =>
    have sa := storeAll (vs := [.int .i64 c.t.ses, .int .i64 c.t.req, vc, va, vr, vw]) gb rfl (x.tx.one _ _)
    have hvc := x.tx.c.cells1
    have hva := x.tx.a.cells1
    have hvr := x.tx.r.cells1
    have hvw := x.tx.w.cells1
    simp -implicitDefEqProofs (disch:=first|omega|simp only [go_sem,Nat.reduceAdd]) only [go_sem,Int.reduceLT,Int.reduceLE,Int.reduceEq,reduceIte,true_and, c19, next_push, ← hH, xH.cell, hp, Bool.not_true, xH.txn, sa]
    exact ret_at (res_ct (n := 6) (w := .bool true) vz vz (fun _ => ld_26) (row_cells (get_set_same _ _) rfl)) (by rw [← hR]; exact ⟨hE.set (by omega), .inr ⟨hp, rfl⟩⟩)
theorem pending_c {S : Nat → Prop} {h : DHeap} {B : Nat} {c : Cl} {vc va vr vw vv : Value} (x : ClAt S h B c vc va vr vw vv) (hr : c.reps ≠ 0) (hl : TxLen c.t) :
    Ct Try.prog 18 [.pointer (some ⟨B, 0, none⟩)] h fun r h1 => Ext h h1 ∧ ((c.pend = false ∧ r = .ret (.tuple #[.agg txL0.toArray, .bool false])) ∨ (c.pend = true ∧ ∃ wc wa wr ww, r = .ret (.tuple #[txnV c.t.ses c.t.req wc wa wr ww, .bool true]) ∧ TxV (Fresh h h1) h1 c.t wc wa wr ww)) := by
  obtain ⟨R, hR⟩ : ∃ R : DEnd → DHeap → Prop, (fun r h1 => Ext h h1 ∧ ((c.pend = false ∧ r = .ret (.tuple #[.agg txL0.toArray, .bool false])) ∨ (c.pend = true ∧ ∃ wc wa wr ww, r = .ret (.tuple #[txnV c.t.ses c.t.req wc wa wr ww, .bool true]) ∧ TxV (Fresh h h1) h1 c.t wc wa wr ww))) = R := ⟨_, rfl⟩
  rw [hR]
  cases hp : c.pend with
  | false =>
    exact (pending_no x hr hp).ct (by rw [← hR]; exact ⟨.refl _, .inl ⟨hp, rfl⟩⟩)
  | true =>
    refine go_18 (by simp) ?_
    obtain ⟨H, hH⟩ : ∃ H, H = h.push (.row txL0 0 false) := ⟨_, rfl⟩
    have hE : Ext h H := by rw [hH]; exact Ext.push1 _ _
    have hHn : H.next = h.next + 1 := by rw [hH]; rfl
    have gb : H.get h.next = some (.row txL0 0 false) := by rw [hH]; exact get_push_same _ _
    have xH := x.ext hE
    have xlt := x.lt
    have hvc := x.tx.c.cells1
    have hva := x.tx.a.cells1
    have hvr := x.tx.r.cells1
    have hvw := x.tx.w.cells1
    simp -implicitDefEqProofs (disch:=first|omega|simp only [go_sem,Nat.reduceAdd]) only [go_sem,Int.reduceLT,Int.reduceLE,Int.reduceEq,reduceIte,true_and, c18, next_push, ← hH]
    refine ncall (none_no xH hr) ?_
    simp -implicitDefEqProofs (disch:=first|omega|simp only [go_sem,Nat.reduceAdd]) only [go_sem,Int.reduceLT,Int.reduceLE,Int.reduceEq,reduceIte,true_and, xH.cell, hp, Bool.not_true, dPick_t, dPick_f, xH.txn]
    refine ncall_ct (cloneT_c (xH.tx.mono fun i hi => ⟨(xH.inS i hi).1, rfl⟩) hl) ?_
    rintro r M ⟨wc, wa, wr, ww, rfl, eM, q⟩
    have hMn := eM.next
    have gM := (eM.get _ (by omega : h.next < H.next)).trans gb
    have sa := storeAll (vs := [.int .i64 c.t.ses, .int .i64 c.t.req, wc, wa, wr, ww]) gM rfl (q.one _ _)
    have hwc := q.c.cells1
    have hwa := q.a.cells1
    have hwr := q.r.cells1
    have hww := q.w.cells1
    simp -implicitDefEqProofs (disch:=first|omega|simp only [go_sem,Nat.reduceAdd]) only [go_sem,Int.reduceLT,Int.reduceLE,Int.reduceEq,reduceIte,true_and, XEnd, sa]
    exact ret_at (res_ct (n := 6) (w := .bool true) vz vz (fun _ => ld_26) (row_cells (get_set_same _ _) rfl)) (by rw [← hR]; exact ⟨(hE.trans eM).set (by omega), .inr ⟨hp, wc, wa, wr, ww, rfl, q.mono fun i hi => ⟨⟨by omega, hi.2⟩, get_set_other _ _ (by have := hi.1; omega)⟩⟩⟩)
end Go.Proofs.Ytbdljpndncohaaa

namespace Go.Proofs.Ytbdljpndncohaaa
open Go.D
set_option maxRecDepth 100000

/-- lists do not lie in boxes -/
theorem TxV.box {S : Nat → Prop} {h : DHeap} {B : Nat} {R : List Value} {t : Txn} {vc va vr vw : Value} (x : TxV S h t vc va vr vw) (g : h.get B = some (.row R 0 false)) : TxV (fun i => S i ∧ i ≠ B) h t vc va vr vw :=
  ⟨sl_box x.c (by decide) g, sl_box x.a (by decide) g, sl_box x.r (by decide) g, sl_box x.w (by decide) g⟩
set_option maxHeartbeats 2000000 in
theorem refSubmit_c {S S0 : Nat → Prop} {h : DHeap} {B : Nat} {c : Cl} {uc ua ur uw uv vc va vr vw : Value} {t : Txn} {k : Int} (x : ClAt S h B c uc ua ur uw uv) (hr : c.reps ≠ 0) (hreq : 0 ≤ c.req) (y : TxV S0 h t vc va vr vw) (hSin : ∀ i, S0 i → i < h.next) (hl : TxLen t) :
    Ct Try.prog 17 [.pointer (some ⟨B, 0, none⟩), txnV t.ses t.req vc va vr vw, .int .i64 k] h fun r h1 =>
      (submitE c t k ≠ 0 ∧ r = .ret (.tuple #[askV0, .int .i64 (submitE c t k)]) ∧ Ext h h1) ∨
      (submitE c t k = 0 ∧ Keep B h h1 ∧ ∃ vr' vw', r = .ret (.tuple #[.agg (askL k (subT c t).ses (subT c t).req vc va vr' vw' false nilV 0).toArray, .int .i64 0]) ∧ ClAt (fun i => (S i ∨ S0 i ∨ (h.next ≤ i ∧ i < h1.next)) ∧ i < h1.next ∧ i ≠ B) h1 B (submitC c t k) vc va vr' vw' uv) := by
  refine go_17 (by simp) ?_
  have hvc := y.c.cells1
  have hva := y.a.cells1
  have hvr := y.r.cells1
  have hvw := y.w.cells1
  obtain ⟨H, hH⟩ : ∃ H, H = (h.push (.row [.int .i64 t.ses, .int .i64 t.req, vc, va, vr, vw] 0 false)).push (.row askL0 0 false) := ⟨_, rfl⟩
  have hE : Ext h H := by rw [hH]; exact (Ext.push1 _ _).push _
  have hHn : H.next = h.next + 2 := by rw [hH]; rfl
  have ga : H.get h.next = some (.row [.int .i64 t.ses, .int .i64 t.req, vc, va, vr, vw] 0 false) := by rw [hH]; exact get_p1
  have gb : H.get (h.next + 1) = some (.row askL0 0 false) := by rw [hH]; exact get_push_same _ _
  have ss := store_self gb rfl
  have xH := x.ext hE
  have xlt := x.lt
  obtain ⟨R, hR⟩ : ∃ R : DEnd → DHeap → Prop, (fun r h1 => (submitE c t k ≠ 0 ∧ r = .ret (.tuple #[askV0, .int .i64 (submitE c t k)]) ∧ Ext h h1) ∨ (submitE c t k = 0 ∧ Keep B h h1 ∧ ∃ vr' vw', r = .ret (.tuple #[.agg (askL k (subT c t).ses (subT c t).req vc va vr' vw' false nilV 0).toArray, .int .i64 0]) ∧ ClAt (fun i => (S i ∨ S0 i ∨ (h.next ≤ i ∧ i < h1.next)) ∧ i < h1.next ∧ i ≠ B) h1 B (submitC c t k) vc va vr' vw' uv)) = R := ⟨_, rfl⟩
  rw [hR]
  have fail : ∀ {e : Int} {fr : Fr}, submitE c t k = e → e ≠ 0 → fr 6 = some (.pointer (some ⟨h.next + 1, 0, none⟩)) → fr 7 = some (.int .i64 e) → ∀ M, Ext h M → M.get (h.next + 1) = some (.row askL0 0 false) → ∃ v, dResults Try.prog [.cell 6 36, .tmp 7] fr M = some v ∧ R (.ret v) M := fun {e fr} he h0 f6 f7 M hM gM =>
    ret_at (res_ct (n := 10) f6 f7 (fun _ => ld_36) (row_cells gM rfl)) (by rw [← hR]; exact .inl ⟨he ▸ h0, by rw [he], hM⟩)
  simp -implicitDefEqProofs (disch:=first|omega|simp only [go_sem,Nat.reduceAdd]) only [go_sem,Int.reduceLT,Int.reduceLE,Int.reduceEq,reduceIte,true_and, c17, next_push, ← hH]
  cases hp : c.pend with
  | true =>
    simp -implicitDefEqProofs (disch:=first|omega|simp only [go_sem,Nat.reduceAdd]) only [go_sem,Int.reduceLT,Int.reduceLE,Int.reduceEq,reduceIte,true_and, xH.cell, hp, bd_ask0, ss]
    exact fail (by rw [submitE, hp, if_pos rfl]) (by decide) vz vz H hE gb
  | false =>
  have hS0 : submitE c t k = if k < 0 ∨ c.reps ≤ k then 1 else if 1099511627776 ≤ c.req then 6 else txnE (subT c t) := by rw [submitE, hp]; rfl
  simp -implicitDefEqProofs (disch:=first|omega|simp only [go_sem,Nat.reduceAdd]) only [go_sem,Int.reduceLT,Int.reduceLE,Int.reduceEq,reduceIte,true_and, xH.cell, hp]
  refine ncall (refMay_c xH) ?_
  by_cases k1 : 0 ≤ k ∧ k < c.reps
  case neg =>
    have k1' := decide_eq_false k1
    simp -implicitDefEqProofs (disch:=first|omega|simp only [go_sem,Nat.reduceAdd]) only [go_sem,Int.reduceLT,Int.reduceLE,Int.reduceEq,reduceIte,true_and, k1', Bool.not_false, bd_ask0, ss]
    exact fail (by rw [hS0, if_pos (by omega)]) (by decide) vz vz H hE gb
  have k1' := decide_eq_true k1
  rw [if_neg (by omega)] at hS0
  by_cases k3 : 1099511627776 ≤ c.req
  · have k3' := eq_true k3
    simp -implicitDefEqProofs (disch:=first|omega|simp only [go_sem,Nat.reduceAdd]) only [go_sem,Int.reduceLT,Int.reduceLE,Int.reduceEq,reduceIte,true_and, k1', Bool.not_true, xH.cell, k3', bd_ask0, ss]
    exact fail (by rw [hS0, if_pos k3]) (by decide) vz vz H hE gb
  rw [if_neg k3] at hS0
  have hca0 : cellsAt H h.next 0 6 = some (txnV t.ses t.req vc va vr vw) := row_cells ga rfl
  simp -implicitDefEqProofs (disch:=first|omega|simp only [go_sem,Nat.reduceAdd]) only [go_sem,Int.reduceLT,Int.reduceLE,Int.reduceEq,reduceIte,true_and, k1', Bool.not_true, xH.cell, k3, hca0]
  refine ncall_ct (refNormal_c (TxV.ext (y.mono fun i hi => ⟨hSin i hi, rfl⟩) hE) hl) ?_
  rintro r H1 ⟨vr', vw', rfl, hE1, zr, zw⟩
  have hE1n' := hE1.next
  have eHH := hE.trans hE1
  have z : TxV (fun i => S0 i ∨ (h.next ≤ i ∧ i < H1.next)) H1 (normT t) vc va vr' vw' := ⟨y.c.mono fun i hi => ⟨.inl hi, eHH.get i (hSin i hi)⟩, y.a.mono fun i hi => ⟨.inl hi, eHH.get i (hSin i hi)⟩, zr.mono fun i hi => ⟨.inr ⟨by have := hi.1; omega, hi.2⟩, rfl⟩, zw.mono fun i hi => ⟨.inr ⟨by have := hi.1; omega, hi.2⟩, rfl⟩⟩
  have hE1n := hE1.next
  have ga1 := (hE1.get _ (by omega)).trans ga
  have gb1 := (hE1.get _ (by omega)).trans gb
  have x1 := xH.ext hE1
  have hvr' := z.r.cells1
  have hvw' := z.w.cells1
  have sa1 := storeAll (vs := [.int .i64 t.ses, .int .i64 t.req, vc, va, vr', vw']) ga1 rfl (z.one _ _)
  simp -implicitDefEqProofs (disch:=first|omega|simp only [go_sem,Nat.reduceAdd]) only [go_sem,Int.reduceLT,Int.reduceLE,Int.reduceEq,reduceIte,true_and, XEnd, sa1]
  have hwq : IntKind.i64.wrap (c.req + 1) = c.req + 1 := wrap_i64_in (by omega) (by omega)
  have y1 : ∀ o, ClAt S (H1.set h.next o) B c uc ua ur uw uv := fun o => x1.setO (by omega) fun i hi => by have := (x.inS i hi).1; omega
  have hs1 : storeAt (H1.set h.next (.row [.int .i64 t.ses, .int .i64 t.req, vc, va, vr', vw'] 0 false)) h.next 0 [.int .i64 c.ses] = some (H1.set h.next (.row [.int .i64 c.ses, .int .i64 t.req, vc, va, vr', vw'] 0 false)) := by
    rw [store_cell rfl rfl (by simp) rfl (get_set_same _ _), set_set]
    rfl
  have hs2 : storeAt (H1.set h.next (.row [.int .i64 c.ses, .int .i64 t.req, vc, va, vr', vw'] 0 false)) h.next 1 [.int .i64 (c.req + 1)] = some (H1.set h.next (.row [.int .i64 c.ses, .int .i64 (c.req + 1), vc, va, vr', vw'] 0 false)) := by
    rw [store_cell rfl rfl (by simp) rfl (get_set_same _ _), set_set]
    rfl
  refine dr_17_0 ?_
  simp -implicitDefEqProofs (disch:=first|omega|simp only [go_sem,Nat.reduceAdd]) only [go_sem,Int.reduceLT,Int.reduceLE,Int.reduceEq,reduceIte,true_and, l17_0, (y1 _).cell, hwq, hs1, hs2]
  refine ⟨⟨XSt1_at (i := 7) (j := 10) rfl rfl rfl ?_, trivial⟩, ?_⟩
  · rw [if_neg (by decide)]
    exact Ld_on (p := .pointer (some ⟨B, 2, none⟩)) vz vz (ld_2.trans ((y1 _).cell 2))
  obtain ⟨K2, hK2⟩ : ∃ K2, K2 = H1.set h.next (.row [.int .i64 c.ses, .int .i64 (c.req + 1), vc, va, vr', vw'] 0 false) := ⟨_, rfl⟩
  rw [← hK2]
  have x2 : ClAt S K2 B c uc ua ur uw uv := by rw [hK2]; exact y1 _
  have gaK : K2.get h.next = some (.row [.int .i64 (subT c t).ses, .int .i64 (subT c t).req, vc, va, vr', vw'] 0 false) := by rw [hK2]; exact get_set_same _ _
  have gbK : K2.get (h.next + 1) = some (.row askL0 0 false) := by rw [hK2, get_set_other _ _ (by omega)]; exact gb1
  have hEK : Ext h K2 := by rw [hK2]; exact (hE.trans hE1).set (by omega)
  have hKn : K2.next = H1.next := by rw [hK2]; rfl
  have z2 : TxV (fun i => S0 i ∨ (h.next ≤ i ∧ i < K2.next)) K2 (subT c t) vc va vr' vw' := by
    have : TxV (fun i => S0 i ∨ (h.next ≤ i ∧ i < K2.next)) K2 (normT t) vc va vr' vw' := (z.box ga1).mono fun i hi => ⟨by rw [hKn]; exact hi.1, by rw [hK2, get_set_other _ _ hi.2]⟩
    exact ⟨this.c, this.a, this.r, this.w⟩
  have z2a : TxV (InH K2) K2 (subT c t) vc va vr' vw' := z2.mono fun i hi => ⟨by
    rcases hi with hi | hi
    · have := hSin i hi; have := hEK.next; omega
    · exact hi.2, rfl⟩
  have hlS : TxLen (subT c t) := hl.sub
  have hca2 : cellsAt K2 h.next 0 6 = some (txnV (subT c t).ses (subT c t).req vc va vr' vw') := row_cells gaK rfl
  have ss2 := store_self gbK rfl
  simp -implicitDefEqProofs (disch:=first|omega|simp only [go_sem,Nat.reduceAdd]) only [go_sem,Int.reduceLT,Int.reduceLE,Int.reduceEq,reduceIte,true_and, hca2]
  refine ncall (refCheckT_c z2a.c z2a.a z2a.r z2a.w hlS.c) ?_
  by_cases he : txnE (subT c t) = 0
  case neg =>
    simp -implicitDefEqProofs (disch:=first|omega|simp only [go_sem,Nat.reduceAdd]) only [go_sem,Int.reduceLT,Int.reduceLE,Int.reduceEq,reduceIte,true_and, he, bd_ask0, ss2]
    exact fail hS0 he vz vz K2 hEK gbK
  have he' := eq_true he
  simp -implicitDefEqProofs (disch:=first|omega|simp only [go_sem,Nat.reduceAdd]) only [go_sem,Int.reduceLT,Int.reduceLE,Int.reduceEq,reduceIte,true_and, he']
  have hone : [.int .i64 (subT c t).ses, .int .i64 (subT c t).req, vc, va, vr', vw'].all Value.oneCell' = true := z2.one _ _
  obtain ⟨cA, hcA⟩ : ∃ cA : Cl, cA = { c with pend := true } := ⟨_, rfl⟩
  obtain ⟨cB, hcB⟩ : ∃ cB : Cl, cB = { cA with t := subT c t } := ⟨_, rfl⟩
  obtain ⟨cC, hcC⟩ : ∃ cC : Cl, cC = { cB with req := (subT c t).req } := ⟨_, rfl⟩
  obtain ⟨cD, hcD⟩ : ∃ cD : Cl, cD = { cC with wait := 0 } := ⟨_, rfl⟩
  have hb1 : storeAt K2 B 3 [.bool true] = some (K2.set B (.row (clL cA uc ua ur uw uv) 0 false)) := by
    rw [store_cell rfl rfl (Nat.le_of_ble_eq_true rfl) rfl x2.row, hcA]
    rfl
  have hb2 : storeAt (K2.set B (.row (clL cA uc ua ur uw uv) 0 false)) B 4 [.int .i64 (subT c t).ses, .int .i64 (subT c t).req, vc, va, vr', vw'] = some (K2.set B (.row (clL cB vc va vr' vw' uv) 0 false)) := by
    rw [storeAt_row (get_set_same _ _) (Nat.le_of_ble_eq_true rfl) hone, set_set, hcB]
    rfl
  have hb3 : storeAt (K2.set B (.row (clL cB vc va vr' vw' uv) 0 false)) B 2 [.int .i64 (subT c t).req] = some (K2.set B (.row (clL cC vc va vr' vw' uv) 0 false)) := by
    rw [store_cell rfl rfl (Nat.le_of_ble_eq_true rfl) rfl (get_set_same _ _), set_set, hcC]
    rfl
  have hb4 : storeAt (K2.set B (.row (clL cC vc va vr' vw' uv) 0 false)) B 10 [.int .i64 0] = some (K2.set B (.row (clL cD vc va vr' vw' uv) 0 false)) := by
    rw [store_cell rfl rfl (Nat.le_of_ble_eq_true rfl) rfl (get_set_same _ _), set_set, hcD]
    rfl
  have hb5 : storeAt (K2.set B (.row (clL cD vc va vr' vw' uv) 0 false)) B 11 [.int .i64 k] = some (K2.set B (.row (clL (submitC c t k) vc va vr' vw' uv) 0 false)) := by
    rw [store_cell rfl rfl (Nat.le_of_ble_eq_true rfl) rfl (get_set_same _ _), set_set, hcD, hcC, hcB, hcA]
    rfl
  refine dr_17_1 ?_
  simp -implicitDefEqProofs (disch:=first|omega|simp only [go_sem,Nat.reduceAdd]) only [go_sem,Int.reduceLT,Int.reduceLE,Int.reduceEq,reduceIte,true_and, l17_1, hca2, cellAt_row gaK, hb1, hb2, hb3, hb4, hb5]
  have gaX : ∀ o, (K2.set B o).get h.next = some (.row [.int .i64 (subT c t).ses, .int .i64 (subT c t).req, vc, va, vr', vw'] 0 false) := fun o => (get_set_other _ _ (by omega)).trans gaK
  refine ⟨⟨XSt1_at (i := 5) (j := 11) rfl rfl rfl ?_, XSt1_at (i := 7) (j := 11) rfl rfl rfl ?_, XSt1_at (i := 7) (j := 14) rfl rfl rfl ?_, trivial⟩, ?_⟩
  · rw [if_neg (by decide)]
    exact Ld_on (p := .pointer (some ⟨h.next, 0, none⟩)) vz vz (ld_26.trans (row_cells (gaX _) rfl))
  · rw [if_neg (by decide)]
    exact Ld_on (p := .pointer (some ⟨h.next, 1, none⟩)) vz vz (ld_2.trans (cellAt_row (gaX _)))
  · rw [if_neg (by decide)]
    exact Ld_on (p := .pointer (some ⟨h.next, 1, none⟩)) vz vz (ld_2.trans (cellAt_row (gaX _)))
  obtain ⟨M, hM⟩ : ∃ M, M = K2.set B (.row (clL (submitC c t k) vc va vr' vw' uv) 0 false) := ⟨_, rfl⟩
  rw [← hM]
  have hMn : M.next = K2.next := by rw [hM]; rfl
  have hKh := hEK.next
  have xM : ClAt (fun i => (S i ∨ S0 i ∨ (h.next ≤ i ∧ i < M.next)) ∧ i < M.next ∧ i ≠ B) M B (submitC c t k) vc va vr' vw' uv := by
    refine ⟨by rw [hM]; exact get_set_same _ _, (z2.box x2.row).mono fun i hi => ⟨⟨.inr (by rw [hMn]; exact hi.1), ?_, hi.2⟩, ?_⟩, x2.lv.mono fun i hi => ⟨⟨.inl hi, by have := (x.inS i hi).1; omega, (x.inS i hi).2⟩, ?_⟩, by rw [hMn]; exact x2.lt, fun i hi => hi.2⟩
    · rcases hi.1 with hh | hh
      · have := hSin i hh; omega
      · omega
    · rw [hM, get_set_other _ _ hi.2]
    · rw [hM, get_set_other _ _ (x.inS i hi).2]
  have gaM : M.get h.next = some (.row [.int .i64 (subT c t).ses, .int .i64 (subT c t).req, vc, va, vr', vw'] 0 false) := by rw [hM]; exact gaX _
  have gbM : M.get (h.next + 1) = some (.row askL0 0 false) := by rw [hM, get_set_other _ _ (by omega)]; exact gbK
  have hcaM : cellsAt M h.next 0 6 = some (txnV (subT c t).ses (subT c t).req vc va vr' vw') := row_cells gaM rfl
  have saM := storeAll (vs := askL k (subT c t).ses (subT c t).req vc va vr' vw' false nilV 0) gbM rfl (ask_one z2 (.nil fKey.rep NoS M))
  have hbd := bd_ask (k := k) (a := (subT c t).ses) (b := (subT c t).req) hvc hva hvr' hvw'
  simp -implicitDefEqProofs (disch:=first|omega|simp only [go_sem,Nat.reduceAdd]) only [go_sem,Int.reduceLT,Int.reduceLE,Int.reduceEq,reduceIte,true_and, hcaM, hbd, saM]
  refine ret_at (res_ct (n := 10) (w := .int .i64 0) vz vz (fun _ => ld_36) (row_cells (get_set_same _ _) rfl)) ?_
  rw [← hR]
  refine .inr ⟨hS0.trans he, ?_, vr', vw', rfl, ?_⟩
  · refine ⟨by show h.next ≤ M.next; have := hEK.next; omega, ?_, fun i hi hb => ?_⟩
    · show M.ng = h.ng
      rw [hM]; exact hEK.ng
    · rw [get_set_other _ _ (by omega), hM, get_set_other _ _ hb]
      exact hEK.get i hi
  · have gq : M.get (h.next + 1) = _ := gbM
    exact ⟨(get_set_other _ _ (by omega)).trans xM.row, (xM.tx.box gbM).mono fun i hi => ⟨hi.1, get_set_other _ _ hi.2⟩, (sl_box xM.lv (by decide) gbM).mono fun i hi => ⟨hi.1, get_set_other _ _ hi.2⟩, xM.lt, fun i hi => hi.2⟩
end Go.Proofs.Ytbdljpndncohaaa

namespace Go.Proofs.Ytbdljpndncohaaa
open Go.D
set_option maxRecDepth 100000

set_option maxHeartbeats 1000000 in
theorem refTick_c {S : Nat → Prop} {h : DHeap} {B : Nat} {c : Cl} {vc va vr vw vv : Value} (x : ClAt S h B c vc va vr vw vv) (hr : c.reps ≠ 0) (hw : 0 ≤ c.wait ∧ c.wait ≤ 1000000) (ht : 0 ≤ c.turn ∧ c.turn ≤ 1000000) :
    Ct Try.prog 43 [.pointer (some ⟨B, 0, none⟩)] h fun r h1 => Keep B h h1 ∧ ClAt S h1 B (tickC c) vc va vr vw vv ∧
      ((tickB c = false ∧ r = .ret (.tuple #[askV0, .bool false])) ∨ (tickB c = true ∧ r = .ret (.tuple #[.agg (askL (tickC c).turn c.t.ses c.t.req vc va vr vw false nilV 0).toArray, .bool true]))) := by
  refine go_43 (by simp) ?_
  obtain ⟨H, hH⟩ : ∃ H, H = h.push (.row askL0 0 false) := ⟨_, rfl⟩
  have hE : Ext h H := by rw [hH]; exact Ext.push1 _ _
  have hHn : H.next = h.next + 1 := by rw [hH]; rfl
  have gb : H.get h.next = some (.row askL0 0 false) := by rw [hH]; exact get_push_same _ _
  have ss := store_self gb rfl
  have xH := x.ext hE
  have xlt := x.lt
  simp -implicitDefEqProofs (disch:=first|omega|simp only [go_sem,Nat.reduceAdd]) only [go_sem,Int.reduceLT,Int.reduceLE,Int.reduceEq,reduceIte,true_and, c43, next_push, ← hH]
  cases hp : c.pend with
  | false =>
    have hC : tickC c = c := by rw [tickC, hp, if_pos rfl]
    have hB : tickB c = false := by rw [tickB, hp]; rfl
    simp -implicitDefEqProofs (disch:=first|omega|simp only [go_sem,Nat.reduceAdd]) only [go_sem,Int.reduceLT,Int.reduceLE,Int.reduceEq,reduceIte,true_and, xH.cell, hp, Bool.not_false, dPick_t, dPick_f, bd_ask0, ss]
    exact ret_at (res_ct (n := 10) vz vz (fun _ => ld_36) (row_cells gb rfl)) ⟨.ofExt hE, by rw [hC]; exact xH, .inl ⟨hB, rfl⟩⟩
  | true =>
  have hw1 : IntKind.i64.wrap (c.wait + 1) = c.wait + 1 := wrap_i64_in (by omega) (by omega)
  obtain ⟨c1, hc1⟩ : ∃ c1 : Cl, c1 = { c with wait := c.wait + 1 } := ⟨_, rfl⟩
  obtain ⟨st1, y1⟩ := xH.put (c' := c1) (o := 10) (v := .int .i64 (c.wait + 1)) rfl rfl (by decide) (by rw [hc1]; rfl) (by rw [hc1]) (by rw [hc1])
  obtain ⟨K, hK⟩ : ∃ K, K = H.set B (.row (clL c1 vc va vr vw vv) 0 false) := ⟨_, rfl⟩
  rw [← hK] at st1 y1
  have kK : Keep B h K := by rw [hK]; exact (Keep.ofExt hE).set _
  have hKn : K.next = H.next := by rw [hK]; rfl
  have gbK : K.get h.next = some (.row askL0 0 false) := by rw [hK, get_set_other _ _ (by omega)]; exact gb
  have ssK := store_self gbK rfl
  have cw1 : cellAt K B 10 = some (.int .i64 (c.wait + 1)) := (y1.cell 10).trans (by rw [hc1]; rfl)
  simp -implicitDefEqProofs (disch:=first|omega|simp only [go_sem,Nat.reduceAdd]) only [go_sem,Int.reduceLT,Int.reduceLE,Int.reduceEq,reduceIte,true_and, xH.cell, hp, Bool.not_true, dPick_t, dPick_f, hw1, st1, cw1]
  by_cases h12 : c.wait + 1 < 12
  · have h12' := eq_true h12
    have hC : tickC c = c1 := by rw [tickC, hp, if_neg (by decide), if_pos h12, hc1, hp]
    have hB : tickB c = false := by rw [tickB, hp, decide_eq_true h12]; rfl
    simp -implicitDefEqProofs (disch:=first|omega|simp only [go_sem,Nat.reduceAdd]) only [go_sem,Int.reduceLT,Int.reduceLE,Int.reduceEq,reduceIte,true_and, h12', bd_ask0, ssK]
    exact ret_at (res_ct (n := 10) vz vz (fun _ => ld_36) (row_cells gbK rfl)) ⟨kK, by rw [hC]; exact y1, .inl ⟨hB, rfl⟩⟩
  · have hC : tickC c = { c with wait := 0, turn := Int.tmod (c.turn + 1) c.reps } := by rw [tickC, hp, if_neg (by decide), if_neg h12]
    have hB : tickB c = true := by rw [tickB, hp, decide_eq_false h12]; rfl
    have hw2 : IntKind.i64.wrap (c.turn + 1) = c.turn + 1 := wrap_i64_in (by omega) (by omega)
    obtain ⟨c2, hc2⟩ : ∃ c2 : Cl, c2 = { c1 with wait := 0 } := ⟨_, rfl⟩
    have hcc : tickC c = { c2 with turn := Int.tmod (c.turn + 1) c.reps } := by rw [hC, hc2, hc1]
    obtain ⟨st2, y2⟩ := y1.put (c' := c2) (o := 10) (v := .int .i64 0) rfl rfl (by decide) (by rw [hc2]; rfl) (by rw [hc2]) (by rw [hc2])
    obtain ⟨st3, y3⟩ := y2.put (c' := tickC c) (o := 11) (v := .int .i64 (Int.tmod (c.turn + 1) c.reps)) rfl rfl (by decide) (by rw [hcc]; rfl) (by rw [hcc]) (by rw [hcc])
    rw [set_set] at st3 y3
    obtain ⟨M, hM⟩ : ∃ M, M = K.set B (.row (clL (tickC c) vc va vr vw vv) 0 false) := ⟨_, rfl⟩
    rw [← hM] at st3 y3
    have kM : Keep B h M := by rw [hM]; exact kK.set _
    have hMn : M.next = H.next := by rw [hM]; exact hKn
    have gbM : M.get h.next = some (.row askL0 0 false) := by rw [hM, get_set_other _ _ (by omega)]; exact gbK
    have ct1 := (y2.cell 11).trans (show _ = some (Value.int .i64 c.turn) by rw [hc2, hc1]; rfl)
    have cr1 := (y2.cell 1).trans (show _ = some (Value.int .i64 c.reps) by rw [hc2, hc1]; rfl)
    have htt : (tickC c).t = c.t := by rw [hC]
    simp -implicitDefEqProofs (disch:=first|omega|simp only [go_sem,Nat.reduceAdd]) only [go_sem,Int.reduceLT,Int.reduceLE,Int.reduceEq,reduceIte,true_and, h12, st2]
    refine dr_43_0 ?_
    simp -implicitDefEqProofs (disch:=first|omega|simp only [go_sem,Nat.reduceAdd]) only [go_sem,Int.reduceLT,Int.reduceLE,Int.reduceEq,reduceIte,true_and, l43_0, ct1, cr1, hw2, bin_rem hr, st3, XStab_nil]
    have hvc := y3.tx.c.cells1
    have hva := y3.tx.a.cells1
    have hvr := y3.tx.r.cells1
    have hvw := y3.tx.w.cells1
    have cx : cellsAt M B 4 6 = some (txnV c.t.ses c.t.req vc va vr vw) := by rw [y3.txn, htt]
    have cu : cellAt M B 11 = some (.int .i64 (tickC c).turn) := y3.cell 11
    have saF := storeAll (vs := askL (tickC c).turn c.t.ses c.t.req vc va vr vw false nilV 0) gbM rfl (ask_one y3.tx (.nil fKey.rep NoS M))
    have hbd := bd_ask (k := (tickC c).turn) (a := c.t.ses) (b := c.t.req) hvc hva hvr hvw
    refine dr_43_1 ?_
    simp -implicitDefEqProofs (disch:=first|omega|simp only [go_sem,Nat.reduceAdd]) only [go_sem,Int.reduceLT,Int.reduceLE,Int.reduceEq,reduceIte,true_and, l43_1, cx, cu, hbd, saF, XStab_nil]
    refine ret_at (res_ct (n := 10) vz vz (fun _ => ld_36) (row_cells (get_set_same _ _) rfl)) ⟨?_, ?_, .inr ⟨hB, rfl⟩⟩
    · exact ⟨kM.next, kM.ng, fun i hi hb => (get_set_other _ _ (by omega)).trans (kM.get i hi hb)⟩
    · exact y3.setO (by omega) fun i hi => by have := (x.inS i hi).1; omega
theorem refFound_c {S : Nat → Prop} {h : DHeap} {B : Nat} {c : Cl} {vc va vr vw vv vp : Value} {e i : Int} (y : ClAt S h B c vc va vr vw vv) (hp : vp.cells = #[vp]) :
    Ct Try.prog 46 [.pointer (some ⟨B, 0, none⟩), .agg #[.int .i64 e, .int .i64 i, vp]] h fun r h1 => Keep B h h1 ∧ r = .ret (.int .i64 (foundE c e i)) ∧ ClAt S h1 B (foundC c e i) vc va vr vw vv := by
  refine go_46 (by simp) ?_
  obtain ⟨H, hH⟩ : ∃ H, H = h.push (.row [.int .i64 e, .int .i64 i, vp] 0 false) := ⟨_, rfl⟩
  have hE : Ext h H := by rw [hH]; exact Ext.push1 _ _
  have ga : H.get h.next = some (.row [.int .i64 e, .int .i64 i, vp] 0 false) := by rw [hH]; exact get_push_same _ _
  have yH := y.ext hE
  have ylt := y.lt
  have no : ∀ n, foundE c e i = n → n ≠ 0 → ∃ v, some (Value.int .i64 n) = some v ∧ Keep B h H ∧ DEnd.ret v = .ret (.int .i64 (foundE c e i)) ∧ ClAt S H B (foundC c e i) vc va vr vw vv := fun n h1 h2 =>
    ⟨_, rfl, .ofExt hE, by rw [h1], by rw [foundC, if_neg (by rw [h1]; exact h2)]; exact yH⟩
  simp -implicitDefEqProofs (disch:=first|omega|simp only [go_sem,Nat.reduceAdd]) only [go_sem,Int.reduceLT,Int.reduceLE,Int.reduceEq,reduceIte,true_and, c46, next_push, ← hH]
  by_cases p1 : e = 0
  case neg =>
    have hF : foundE c e i = e := by rw [foundE, if_pos p1]
    simp -implicitDefEqProofs (disch:=first|omega|simp only [go_sem,Nat.reduceAdd]) only [go_sem,Int.reduceLT,Int.reduceLE,Int.reduceEq,reduceIte,true_and, cellAt_row ga, p1]
    exact no _ hF p1
  have p1' := eq_true p1
  have h0 : foundE c e i = if i < 0 ∨ 1099511627776 < i then 1 else if i < c.tok then 250 else 0 := by rw [foundE, if_neg (fun h => h p1)]
  by_cases p2 : i < 0
  · have p2' := eq_true p2
    simp -implicitDefEqProofs (disch:=first|omega|simp only [go_sem,Nat.reduceAdd]) only [go_sem,Int.reduceLT,Int.reduceLE,Int.reduceEq,reduceIte,true_and, cellAt_row ga, p1', p2', dPick_t, dPick_f]
    exact no _ (by rw [h0, if_pos (.inl p2)]) (by decide)
  by_cases p3 : 1099511627776 < i
  · have p3' := eq_true p3
    simp -implicitDefEqProofs (disch:=first|omega|simp only [go_sem,Nat.reduceAdd]) only [go_sem,Int.reduceLT,Int.reduceLE,Int.reduceEq,reduceIte,true_and, cellAt_row ga, p1', p2, p3', dPick_t, dPick_f]
    exact no _ (by rw [h0, if_pos (.inr p3)]) (by decide)
  rw [if_neg (by omega)] at h0
  simp -implicitDefEqProofs (disch:=first|omega|simp only [go_sem,Nat.reduceAdd]) only [go_sem,Int.reduceLT,Int.reduceLE,Int.reduceEq,reduceIte,true_and, cellAt_row ga, p1', p2, p3, dPick_t, dPick_f]
  refine dr_46_0 ?_
  by_cases p4 : i < c.tok
  · have p4' := eq_true p4
    simp -implicitDefEqProofs (disch:=first|omega|simp only [go_sem,Nat.reduceAdd]) only [go_sem,Int.reduceLT,Int.reduceLE,Int.reduceEq,reduceIte,true_and, l46_0, cellAt_row ga, yH.cell, p4', XStab_nil]
    exact no _ (by rw [h0, if_pos p4]) (by decide)
  rw [if_neg p4] at h0
  have hC : foundC c e i = { c with tok := i } := by rw [foundC, if_pos h0]
  obtain ⟨st, y1⟩ := yH.put (c' := foundC c e i) (o := 12) (v := .int .i64 i) rfl rfl (by decide) (by rw [hC]; rfl) (by rw [hC]) (by rw [hC])
  simp -implicitDefEqProofs (disch:=first|omega|simp only [go_sem,Nat.reduceAdd]) only [go_sem,Int.reduceLT,Int.reduceLE,Int.reduceEq,reduceIte,true_and, l46_0, cellAt_row ga, yH.cell, p4, XStab_nil, st]
  exact ⟨_, rfl, (Keep.ofExt hE).set _, by rw [h0], y1⟩
set_option maxHeartbeats 1000000 in
theorem refAnswer_c {S S0 : Nat → Prop} {h : DHeap} {B : Nat} {c : Cl} {vc va vr vw vv uv : Value} {a b : Int} {x : Res} (y : ClAt S h B c vc va vr vw vv) (htk : 0 ≤ c.tok) (hx : Sl fI64.rep S0 h uv x.vs) (hS0 : ∀ i, S0 i → i < h.next) :
    Ct Try.prog 44 [.pointer (some ⟨B, 0, none⟩), .agg #[.int .i64 a, .int .i64 b, .int .i64 x.e, uv, .int .i64 x.s, .int .i64 x.p]] h fun r h1 => Keep B h h1 ∧ r = .ret (.tuple #[.bool (ansB c a b x.s), .int .i64 (ansE c a b x.s)]) ∧ ∃ vv', ClAt (fun i => S i ∨ (S0 i ∧ i ≠ B)) h1 B (ansC c a b x) vc va vr vw vv' := by
  refine go_44 (by simp) ?_
  have huv := hx.cells1
  obtain ⟨H, hH⟩ : ∃ H, H = h.push (.row [.int .i64 a, .int .i64 b, .int .i64 x.e, uv, .int .i64 x.s, .int .i64 x.p] 0 false) := ⟨_, rfl⟩
  have hE : Ext h H := by rw [hH]; exact Ext.push1 _ _
  have hHn : H.next = h.next + 1 := by rw [hH]; rfl
  have ga : H.get h.next = some (.row [.int .i64 a, .int .i64 b, .int .i64 x.e, uv, .int .i64 x.s, .int .i64 x.p] 0 false) := by rw [hH]; exact get_push_same _ _
  have yH := y.ext hE
  have ylt := y.lt
  have same : ansB c a b x.s = false → ∃ vv', ClAt (fun i => S i ∨ (S0 i ∧ i ≠ B)) H B (ansC c a b x) vc va vr vw vv' := fun hb => by
    refine ⟨vv, ?_⟩
    rw [ansC, hb, if_neg (by decide)]
    refine yH.weak (fun i hi => .inl hi) fun i hi => ?_
    rcases hi with hi | hi
    · exact yH.inS i hi
    · exact ⟨Nat.lt_of_lt_of_le (hS0 i hi.1) hE.next, hi.2⟩
  have notyet : ansN c a b = true → ∃ v, some (Value.tuple #[.bool false, .int .i64 0]) = some v ∧ Keep B h H ∧ DEnd.ret v = .ret (.tuple #[.bool (ansB c a b x.s), .int .i64 (ansE c a b x.s)]) ∧ ∃ vv', ClAt (fun i => S i ∨ (S0 i ∧ i ≠ B)) H B (ansC c a b x) vc va vr vw vv' := fun hn => by
    have h1 : ansB c a b x.s = false := by rw [ansB, hn]; rfl
    have h2 : ansE c a b x.s = 0 := by rw [ansE, hn, if_pos rfl]
    exact ⟨_, rfl, .ofExt hE, by rw [h1, h2], same h1⟩
  simp -implicitDefEqProofs (disch:=first|omega|simp only [go_sem,Nat.reduceAdd]) only [go_sem,Int.reduceLT,Int.reduceLE,Int.reduceEq,reduceIte,true_and, c44, next_push, ← hH]
  refine dr_44_0 ?_
  cases hp : c.pend with
  | false =>
    have hn : ansN c a b = true := by rw [ansN, hp]; rfl
    simp -implicitDefEqProofs (disch:=first|omega|simp only [go_sem,Nat.reduceAdd]) only [go_sem,Int.reduceLT,Int.reduceLE,Int.reduceEq,reduceIte,true_and, l44_0, yH.cell, hp, Bool.not_false, dPick_t, dPick_f, XStab_nil]
    exact notyet hn
  | true =>
  by_cases ha : a = c.ses
  case neg =>
    have hn : ansN c a b = true := by rw [ansN, decide_eq_false ha]; simp
    simp -implicitDefEqProofs (disch:=first|omega|simp only [go_sem,Nat.reduceAdd]) only [go_sem,Int.reduceLT,Int.reduceLE,Int.reduceEq,reduceIte,true_and, l44_0, yH.cell, hp, Bool.not_true, cellAt_row ga, ha, decide_false, Bool.not_false, dPick_t, dPick_f, XStab_nil]
    exact notyet hn
  by_cases hb : b = c.req
  case neg =>
    have hn : ansN c a b = true := by rw [ansN, decide_eq_false hb]; simp
    have ha' := eq_true ha
    simp -implicitDefEqProofs (disch:=first|omega|simp only [go_sem,Nat.reduceAdd]) only [go_sem,Int.reduceLT,Int.reduceLE,Int.reduceEq,reduceIte,true_and, l44_0, yH.cell, hp, Bool.not_true, cellAt_row ga, ha', hb, decide_true, decide_false, Bool.not_false, dPick_t, dPick_f, XStab_nil]
    exact notyet hn
  have hn : ansN c a b = false := by rw [ansN, hp, decide_eq_true ha, decide_eq_true hb]; rfl
  have ha' := eq_true ha
  have hb' := eq_true hb
  simp -implicitDefEqProofs (disch:=first|omega|simp only [go_sem,Nat.reduceAdd]) only [go_sem,Int.reduceLT,Int.reduceLE,Int.reduceEq,reduceIte,true_and, l44_0, yH.cell, hp, Bool.not_true, cellAt_row ga, ha', hb', decide_true, Bool.not_false, dPick_t, dPick_f, XStab_nil]
  have bad : ¬ (0 ≤ x.s ∧ x.s ≤ 1099511627776) → ∃ v, some (Value.tuple #[.bool false, .int .i64 1]) = some v ∧ Keep B h H ∧ DEnd.ret v = .ret (.tuple #[.bool (ansB c a b x.s), .int .i64 (ansE c a b x.s)]) ∧ ∃ vv', ClAt (fun i => S i ∨ (S0 i ∧ i ≠ B)) H B (ansC c a b x) vc va vr vw vv' := fun hs => by
    have h1 : ansB c a b x.s = false := by rw [ansB, decide_eq_false hs, Bool.and_false]
    have h2 : ansE c a b x.s = 1 := by rw [ansE, hn, if_neg (by decide), if_neg hs]
    exact ⟨_, rfl, .ofExt hE, by rw [h1, h2], same h1⟩
  by_cases s1 : x.s < 0
  · have s1' := eq_true s1
    simp -implicitDefEqProofs (disch:=first|omega|simp only [go_sem,Nat.reduceAdd]) only [go_sem,Int.reduceLT,Int.reduceLE,Int.reduceEq,reduceIte,true_and, s1', dPick_t, dPick_f]
    exact bad (by omega)
  by_cases s2 : 1099511627776 < x.s
  · have s2' := eq_true s2
    simp -implicitDefEqProofs (disch:=first|omega|simp only [go_sem,Nat.reduceAdd]) only [go_sem,Int.reduceLT,Int.reduceLE,Int.reduceEq,reduceIte,true_and, s1, cellAt_row ga, s2', dPick_t, dPick_f]
    exact bad (by omega)
  have hB1 : ansB c a b x.s = true := by rw [ansB, hn, decide_eq_true (by omega)]; rfl
  have hE1 : ansE c a b x.s = 0 := by rw [ansE, hn, if_neg (by decide), if_pos (by omega)]
  have hC1 : ansC c a b x = { c with pend := false, any := true, last := x, tok := max c.tok (x.s + 1) } := by rw [ansC, hB1, if_pos rfl]
  have hres : cellsAt H h.next 2 4 = some (.agg #[.int .i64 x.e, uv, .int .i64 x.s, .int .i64 x.p]) := by rw [cellsAt_row ga (Nat.le_of_ble_eq_true rfl)]; rfl
  obtain ⟨cA, hcA⟩ : ∃ cA : Cl, cA = { c with pend := false } := ⟨_, rfl⟩
  obtain ⟨cB, hcB⟩ : ∃ cB : Cl, cB = { cA with any := true } := ⟨_, rfl⟩
  obtain ⟨cC, hcC⟩ : ∃ cC : Cl, cC = { cB with last := x } := ⟨_, rfl⟩
  have hb1 : storeAt H B 3 [.bool false] = some (H.set B (.row (clL cA vc va vr vw vv) 0 false)) := by
    rw [store_cell rfl rfl (Nat.le_of_ble_eq_true rfl) rfl yH.row, hcA]
    rfl
  have hb2 : storeAt (H.set B (.row (clL cA vc va vr vw vv) 0 false)) B 13 [.bool true] = some (H.set B (.row (clL cB vc va vr vw vv) 0 false)) := by
    rw [store_cell rfl rfl (Nat.le_of_ble_eq_true rfl) rfl (get_set_same _ _), set_set, hcB]
    rfl
  have hone : [.int .i64 x.e, uv, .int .i64 x.s, .int .i64 x.p].all Value.oneCell' = true := by obtain ⟨_, _, rfl⟩ := hx.isSlice; rfl
  have hb3 : storeAt (H.set B (.row (clL cB vc va vr vw vv) 0 false)) B 14 [.int .i64 x.e, uv, .int .i64 x.s, .int .i64 x.p] = some (H.set B (.row (clL cC vc va vr vw uv) 0 false)) := by
    rw [storeAt_row (get_set_same _ _) (Nat.le_of_ble_eq_true rfl) hone, set_set, hcC]
    rfl
  simp -implicitDefEqProofs (disch:=first|omega|simp only [go_sem,Nat.reduceAdd]) only [go_sem,Int.reduceLT,Int.reduceLE,Int.reduceEq,reduceIte,true_and, s1, cellAt_row ga, s2, dPick_t, dPick_f]
  refine dr_44_1 ?_
  simp -implicitDefEqProofs (disch:=first|omega|simp only [go_sem,Nat.reduceAdd]) only [go_sem,Int.reduceLT,Int.reduceLE,Int.reduceEq,reduceIte,true_and, l44_1, hres, hb1, hb2, hb3]
  refine ⟨⟨XSt1_at (i := 4) (j := 7) rfl rfl rfl ?_, XSt1_at (i := 4) (j := 10) rfl rfl rfl ?_, trivial⟩, ?_⟩
  · rw [if_neg (by decide)]
    refine Ld_on (p := .pointer (some ⟨h.next, 2, none⟩)) vz vz (ld_45.trans ?_)
    rw [cellsAt_row ((get_set_other _ _ (by omega)).trans ga) (Nat.le_of_ble_eq_true rfl)]; rfl
  · rw [if_neg (by decide)]
    refine Ld_on (p := .pointer (some ⟨h.next, 2, none⟩)) vz vz (ld_45.trans ?_)
    rw [cellsAt_row ((get_set_other _ _ (by omega)).trans ga) (Nat.le_of_ble_eq_true rfl)]; rfl
  obtain ⟨K, hK⟩ : ∃ K, K = H.set B (.row (clL cC vc va vr vw uv) 0 false) := ⟨_, rfl⟩
  rw [← hK]
  have gK : K.get B = some (.row (clL cC vc va vr vw uv) 0 false) := by rw [hK]; exact get_set_same _ _
  have gaK : K.get h.next = some (.row [.int .i64 a, .int .i64 b, .int .i64 x.e, uv, .int .i64 x.s, .int .i64 x.p] 0 false) := by rw [hK, get_set_other _ _ (by omega)]; exact ga
  have hKn : K.next = H.next := by rw [hK]; rfl
  have kK : Keep B h K := by rw [hK]; exact (Keep.ofExt hE).set _
  have ct : cellAt K B 12 = some (.int .i64 c.tok) := (cellAt_row gK).trans (by rw [hcC, hcB, hcA]; rfl)
  have cs : cellAt K h.next 4 = some (.int .i64 x.s) := cellAt_row gaK
  have hw1 : IntKind.i64.wrap (x.s + 1) = x.s + 1 := wrap_i64_in (by omega) (by omega)
  have hb4 : storeAt K B 12 [.int .i64 (max c.tok (x.s + 1))] = some (K.set B (.row (clL (ansC c a b x) vc va vr vw uv) 0 false)) := by
    rw [store_cell rfl rfl (Nat.le_of_ble_eq_true rfl) rfl gK, hC1, hcC, hcB, hcA]
    rfl
  refine dr_44_2 ?_
  simp -implicitDefEqProofs (disch:=first|omega|simp only [go_sem,Nat.reduceAdd]) only [go_sem,Int.reduceLT,Int.reduceLE,Int.reduceEq,reduceIte,true_and, l44_2, ct, cs, hw1, max_i64, hb4, XStab_nil]
  refine ⟨_, rfl, kK.set _, by rw [hB1, hE1], uv, ?_⟩
  have hkk : ∀ i, i < h.next → i ≠ B → (K.set B (.row (clL (ansC c a b x) vc va vr vw uv) 0 false)).get i = h.get i := fun i hi hb => (get_set_other _ _ hb).trans (kK.get i hi hb)
  refine ⟨get_set_same _ _, ?_, ?_, by show B < K.next; omega, fun i hi => ?_⟩
  · rw [show (ansC c a b x).t = c.t by rw [hC1]]
    exact y.tx.mono fun i hi => ⟨.inl hi, hkk i (y.inS i hi).1 (y.inS i hi).2⟩
  · rw [show (ansC c a b x).last = x by rw [hC1]]
    exact (sl_box hx (by decide) y.row).mono fun i hi => ⟨.inr hi, hkk i (hS0 i hi.1) hi.2⟩
  · rcases hi with hi | hi
    · have := y.inS i hi
      exact ⟨by show i < K.next; omega, this.2⟩
    · exact ⟨by show i < K.next; have := hS0 i hi.1; omega, hi.2⟩
end Go.Proofs.Ytbdljpndncohaaa

namespace Go.Proofs.Ytbdljpndncohaaa
open Go.D
set_option maxRecDepth 100000

end Go.Proofs.Ytbdljpndncohaaa

namespace Go.Proofs.Ytbdljpndncohaaa
open Go.D
set_option maxRecDepth 100000

/-- a list that was just made, empty -/
def MtS (z n : Nat) (h : DHeap) (v : Value) : Prop := ∃ id0, v = .slice (some ⟨id0, 0, none⟩) 0 0 ∧ n ≤ id0 ∧ id0 < h.next ∧ h.get id0 = some (.row [] z false)
/-- a list of one's own -/
abbrev SlN {α : Type} (F : FRep α) (n : Nat) (h : DHeap) (v : Value) (l : List α) : Prop := Sl F.rep (fun i => (n ≤ i ∧ i < h.next) ∧ Wrt h i) h v l
theorem MtS.ext {z n : Nat} {h h1 : DHeap} {v : Value} (e : Ext h h1) (x : MtS z n h v) : MtS z n h1 v := by
  obtain ⟨a, b, c, d, f⟩ := x
  exact ⟨a, b, c, Nat.lt_of_lt_of_le d e.next, (e.get _ d).trans f⟩
theorem MtS.set {z n B : Nat} {h : DHeap} {v : Value} {o : DObj} (hB : B < n) (x : MtS z n h v) : MtS z n (h.set B o) v := by
  obtain ⟨a, b, c, d, f⟩ := x
  exact ⟨a, b, c, d, (get_set_other _ _ (by omega)).trans f⟩
theorem SlN.ext {α : Type} {F : FRep α} {n : Nat} {h h1 : DHeap} {v : Value} {l : List α} (e : Ext h h1) (x : SlN F n h v l) : SlN F n h1 v l :=
  slW_mono x fun i hi => ⟨⟨hi.1, Nat.lt_of_lt_of_le hi.2 e.next⟩, e.get i hi.2⟩
theorem SlN.set {α : Type} {F : FRep α} {n B : Nat} {h : DHeap} {v : Value} {l : List α} {o : DObj} (hB : B < n) (x : SlN F n h v l) : SlN F n (h.set B o) v l :=
  slW_mono x fun i hi => ⟨hi, get_set_other _ _ (by omega)⟩
def CpV {α β : Type} (FA : FRep α) (FB : FRep β) (b1 b7 oA oB : Nat) (vA vB : Value) (lA : List α) (lB : List β) (n : Nat) (k : Nat) (h : DHeap) (v : Value) : Prop :=
  match k with
  | 0 => MtS FA.z n h v
  | 1 => v = .pointer (some ⟨b1, oA, none⟩)
  | 2 => v = vA
  | 3 => SlN FA n h v lA
  | 4 => MtS FB.z n h v
  | 5 => v = .pointer (some ⟨b1, oB, none⟩)
  | 6 => v = vB
  | 7 => SlN FB n h v lB
  | 8 => v = .pointer (some ⟨b7, oA, none⟩)
  | 9 => ∃ w, cellAt h b7 oA = some w ∧ SlN FA n h w lA
  | 10 => v = .pointer (some ⟨b7, oB, none⟩)
  | 11 => ∃ w, cellAt h b7 oB = some w ∧ SlN FB n h w lB
  | _ => True
section
variable {α β : Type} {FA : FRep α} {FB : FRep β} {b1 b7 oA oB : Nat} {vA vB : Value} {lA : List α} {lB : List β} {n : Nat} {k : Nat} {h h1 : DHeap} {v : Value}
theorem CpV.ext (e : Ext h h1) (hB : b7 < h.next) (x : CpV FA FB b1 b7 oA oB vA vB lA lB n k h v) : CpV FA FB b1 b7 oA oB vA vB lA lB n k h1 v := by
  unfold CpV at *
  split at x
  · exact x.ext e
  · exact x
  · exact x
  · exact SlN.ext e x
  · exact x.ext e
  · exact x
  · exact x
  · exact SlN.ext e x
  · exact x
  · obtain ⟨w, a, b⟩ := x
    exact ⟨w, (cellAt_ext e hB).trans a, SlN.ext e b⟩
  · exact x
  · obtain ⟨w, a, b⟩ := x
    exact ⟨w, (cellAt_ext e hB).trans a, SlN.ext e b⟩
  · trivial
theorem CpV.set {R : List Value} (hB : b7 < n) (hp : k = 9 → R[oA]? = cellAt h b7 oA) (hq : k = 11 → R[oB]? = cellAt h b7 oB) (x : CpV FA FB b1 b7 oA oB vA vB lA lB n k h v) : CpV FA FB b1 b7 oA oB vA vB lA lB n k (h.set b7 (.row R 0 false)) v := by
  unfold CpV at *
  split at x
  · exact x.set hB
  · exact x
  · exact x
  · exact SlN.set hB x
  · exact x.set hB
  · exact x
  · exact x
  · exact SlN.set hB x
  · exact x
  · obtain ⟨w, a, b⟩ := x
    exact ⟨w, by rw [cellAt_row (get_set_same _ _), hp rfl]; exact a, SlN.set hB b⟩
  · exact x
  · obtain ⟨w, a, b⟩ := x
    exact ⟨w, by rw [cellAt_row (get_set_same _ _), hq rfl]; exact a, SlN.set hB b⟩
  · trivial
end
end Go.Proofs.Ytbdljpndncohaaa

namespace Go.Proofs.Ytbdljpndncohaaa
open Go.D
set_option maxRecDepth 100000

/-- all but the blocks of D is as it was -/
structure KeepD (D : Nat → Prop) (h K : DHeap) : Prop where
  next : h.next ≤ K.next
  ng : K.ng = h.ng
  get : ∀ i, i < h.next → ¬ D i → K.get i = h.get i
theorem KeepD.refl (D : Nat → Prop) (h : DHeap) : KeepD D h h := ⟨Nat.le_refl _, rfl, fun _ _ _ => rfl⟩
theorem KeepD.set {D : Nat → Prop} {h K : DHeap} {id : Nat} {o : DObj} (k : KeepD D h K) (hD : D id) : KeepD D h (K.set id o) :=
  ⟨k.next, k.ng, fun i hi hn => (get_set_other _ _ (fun e : i = id => hn (by rw [e]; exact hD))).trans (k.get i hi hn)⟩
/-- n elements of z cells that may be written, in blocks of D -/
def WrL (z n : Nat) (w : Value) (D : Nat → Prop) (K : DHeap) : Prop := n = 0 ∨ ∃ id o cap cells, w = .slice (some ⟨id, o, none⟩) n cap ∧ D id ∧ K.get id = some (.row cells z false) ∧ o + n * z ≤ cells.length
theorem WrL.of {α : Type} {F : FRep α} {S D : Nat → Prop} {h : DHeap} {v : Value} {l : List α} (x : Sl F.rep (fun i => S i ∧ Wrt h i) h v l) (hD : ∀ i, S i → D i) : WrL F.z l.length v D h := by
  rcases x with ⟨rfl, rfl⟩ | ⟨id, o, cap, cells, esz, ro, rfl, ⟨hS, cs, z, g'⟩, g, hro, hl, _⟩
  · exact .inl rfl
  · rw [g] at g'
    cases g'
    rcases hro with hro | hro
    · cases hro
    · subst hro
      exact .inr ⟨id, o, cap, _, rfl, hD id hS, g, hl⟩
theorem WrL.set {z z' n id' : Nat} {w : Value} {D : Nat → Prop} {K : DHeap} {cells cells' : List Value} (x : WrL z n w D K) (g : K.get id' = some (.row cells z' false)) (hl : cells'.length = cells.length) : WrL z n w D (K.set id' (.row cells' z' false)) := by
  rcases x with x | ⟨id, o, cap, cs, rfl, hd, gg, hlen⟩
  · exact .inl x
  · by_cases h : id = id'
    · subst h
      rw [g] at gg
      cases gg
      exact .inr ⟨id, o, cap, cells', rfl, hd, get_set_same _ _, by rw [hl]; exact hlen⟩
    · exact .inr ⟨id, o, cap, cs, rfl, hd, (get_set_other _ _ h).trans gg, hlen⟩
theorem WrL.step {P : Program} {t : TypeId} {z n i j : Nat} {w v : Value} {D : Nat → Prop} {K : DHeap} (x : WrL z n w D K) (hi : i < n) (hj : j < z) (hel : slElem P t = some z) (hv : [v].all Value.oneCell' = true) :
    ∃ id o cells cells', dIndexAddr P t w (.int .i64 (i : Nat)) = some (.pointer (some ⟨id, o, none⟩)) ∧ D id ∧ K.get id = some (.row cells z false) ∧ cells'.length = cells.length ∧ storeAt K id (o + j) [v] = some (K.set id (.row cells' z false)) := by
  rcases x with x | ⟨id, o, cap, cs, rfl, hd, gg, hlen⟩
  · omega
  · refine ⟨id, o + i * z, cs, setAt cs (o + i * z + j) [v], ?_, hd, gg, setAt_length _ _ _, storeAt_row gg ?_ hv⟩
    · refine (dIndexAddr_at hel (by omega) (by omega)).trans ?_
      rw [Int.toNat_natCast]
    · have hm : (i + 1) * z ≤ n * z := Nat.mul_le_mul_right _ hi
      rw [Nat.succ_mul] at hm
      show o + i * z + j + 1 ≤ cs.length
      omega
/-- what the loops keep -/
structure OwnI (D : Nat → Prop) (h : DHeap) (n1 n2 n3 n4 : Nat) (w1 w2 w3 w4 : Value) (K : DHeap) : Prop where
  keep : KeepD D h K
  a1 : WrL 1 n1 w1 D K
  a2 : WrL 2 n2 w2 D K
  a3 : WrL 1 n3 w3 D K
  a4 : WrL 2 n4 w4 D K
theorem OwnI.set {D : Nat → Prop} {h K : DHeap} {n1 n2 n3 n4 id z : Nat} {w1 w2 w3 w4 : Value} {cells cells' : List Value} (x : OwnI D h n1 n2 n3 n4 w1 w2 w3 w4 K) (hD : D id) (g : K.get id = some (.row cells z false)) (hl : cells'.length = cells.length) : OwnI D h n1 n2 n3 n4 w1 w2 w3 w4 (K.set id (.row cells' z false)) :=
  ⟨x.keep.set hD, x.a1.set g hl, x.a2.set g hl, x.a3.set g hl, x.a4.set g hl⟩
end Go.Proofs.Ytbdljpndncohaaa

namespace Go.Proofs.Ytbdljpndncohaaa
open Go.D
set_option maxRecDepth 100000

theorem bin_booleql {a b : Bool} {h : DHeap} {ox oy : Operand} : dBinOp Try.prog .eql 4 ox oy (.bool a) (.bool b) h = .ok (.value (.bool (a == b))) h := by
  have hf : (flat3 (.bool a) && flat3 (.bool b)) = true := rfl
  simp only [dBinOp, hf, if_true, dval]
  cases a <;> cases b <;> rfl
theorem WrL.mono {z n : Nat} {w : Value} {D D' : Nat → Prop} {K K' : DHeap} (x : WrL z n w D K) (m : ∀ i, D i → D' i ∧ K'.get i = K.get i) : WrL z n w D' K' := by
  rcases x with x | ⟨id, o, cap, cs, e, hd, gg, hlen⟩
  · exact .inl x
  · exact .inr ⟨id, o, cap, cs, e, (m id hd).1, (m id hd).2.trans gg, hlen⟩
end Go.Proofs.Ytbdljpndncohaaa

namespace Go.Proofs.Ytbdljpndncohaaa
open Go.D
set_option maxRecDepth 100000

def queryE (c : Cl) (k : Int) (n : Nat) : Int := if k < 0 ∨ c.reps ≤ k then 1 else if 4096 < n then 3 else 0
theorem bd_askq {k m : Int} {w : Value} (hw : w.cells = #[w]) : dBuild Try.prog 36 [(0, .int .i64 k), (2, .bool true), (3, w), (4, .int .i64 m)] = some (.agg (askL k 0 0 nilV nilV nilV nilV true w m).toArray) := by
  refine dBuild_at plc_36 ?_
  simp only [fillL, List.getElem?_cons_zero, List.getElem?_cons_succ, hw]
  rfl
/-- what a query answers -/
def QryR (h : DHeap) (c : Cl) (k : Int) (l : List Key) (r : DEnd) (h1 : DHeap) : Prop :=
  Ext h h1 ∧ ((queryE c k l.length ≠ 0 ∧ r = .ret (.tuple #[askV0, .int .i64 (queryE c k l.length)])) ∨ (queryE c k l.length = 0 ∧ ∃ w, r = .ret (.tuple #[.agg (askL k 0 0 nilV nilV nilV nilV true w c.tok).toArray, .int .i64 0]) ∧ Sl fKey.rep (Fresh h h1) h1 w (keysN l)))
theorem query_c {S : Nat → Prop} {h : DHeap} {B : Nat} {c : Cl} {vc va vr vw vv vk : Value} {k : Int} {l : List Key} (x : ClAt S h B c vc va vr vw vv) (hr : c.reps ≠ 0) (hk : Arg fKey.rep h vk l) (hl : l.length ≤ 1048576) :
    Ct Try.prog 28 [.pointer (some ⟨B, 0, none⟩), .int .i64 k, vk] h (QryR h c k l) := by
  refine go_28 (by simp) ?_
  obtain ⟨R, hR⟩ : ∃ R, R = QryR h c k l := ⟨_, rfl⟩
  rw [← hR]
  obtain ⟨H, hH⟩ : ∃ H, H = h.push (.row askL0 0 false) := ⟨_, rfl⟩
  have hE : Ext h H := by rw [hH]; exact Ext.push1 _ _
  have hHn : H.next = h.next + 1 := by rw [hH]; rfl
  have gb : H.get h.next = some (.row askL0 0 false) := by rw [hH]; exact get_push_same _ _
  have ss := store_self gb rfl
  have xH := x.ext hE
  have el : ∀ K, dLen Try.prog #[24] vk K = some (.int .i64 (l.length : Nat)) := hk.lens (P := Try.prog) (ts := #[24]) (t := 24) rfl isl_24
  have fail : ∀ {e : Int} {fr : Fr}, queryE c k l.length = e → e ≠ 0 → fr 6 = some (.pointer (some ⟨h.next, 0, none⟩)) → fr 7 = some (.int .i64 e) → ∃ v, dResults Try.prog [.cell 6 36, .tmp 7] fr H = some v ∧ R (.ret v) H := fun {e fr} he h0 f6 f7 =>
    ret_at (res_ct (n := 10) f6 f7 (fun _ => ld_36) (row_cells gb rfl)) (by rw [hR]; exact ⟨hE, .inl ⟨he ▸ h0, by rw [he]⟩⟩)
  simp -implicitDefEqProofs (disch:=first|omega|simp only [go_sem,Nat.reduceAdd]) only [go_sem,Int.reduceLT,Int.reduceLE,Int.reduceEq,reduceIte,true_and, c28, next_push, ← hH]
  refine ncall (none_no xH hr) ?_
  by_cases p1 : k < 0
  · have p1' := eq_true p1
    simp -implicitDefEqProofs (disch:=first|omega|simp only [go_sem,Nat.reduceAdd]) only [go_sem,Int.reduceLT,Int.reduceLE,Int.reduceEq,reduceIte,true_and, p1', dPick_t, dPick_f, bd_ask0, ss]
    exact fail (by rw [queryE, if_pos (.inl p1)]) (by decide) vz vz
  by_cases p2 : c.reps ≤ k
  · have p2' := eq_true p2
    simp -implicitDefEqProofs (disch:=first|omega|simp only [go_sem,Nat.reduceAdd]) only [go_sem,Int.reduceLT,Int.reduceLE,Int.reduceEq,reduceIte,true_and, p1, xH.cell, p2', dPick_t, dPick_f, bd_ask0, ss]
    exact fail (by rw [queryE, if_pos (.inr p2)]) (by decide) vz vz
  have h0 : queryE c k l.length = if 4096 < l.length then 3 else 0 := by rw [queryE, if_neg (by omega)]
  by_cases p3 : 4096 < (l.length : Int)
  · have p3' := eq_true p3
    simp -implicitDefEqProofs (disch:=first|omega|simp only [go_sem,Nat.reduceAdd]) only [go_sem,Int.reduceLT,Int.reduceLE,Int.reduceEq,reduceIte,true_and, p1, xH.cell, p2, el, p3', dPick_t, dPick_f, bd_ask0, ss]
    exact fail (by rw [h0, if_pos (by omega)]) (by decide) vz vz
  rw [if_neg (by omega)] at h0
  simp -implicitDefEqProofs (disch:=first|omega|simp only [go_sem,Nat.reduceAdd]) only [go_sem,Int.reduceLT,Int.reduceLE,Int.reduceEq,reduceIte,true_and, p1, xH.cell, p2, el, p3, dPick_t, dPick_f]
  refine yr_28_0 rfl ?_
  simp -implicitDefEqProofs (disch:=first|omega|simp only [go_sem,Nat.reduceAdd]) only [go_sem,Int.reduceLT,Int.reduceLE,Int.reduceEq,reduceIte,true_and, g28_0, q28_0, xH.cell]
  refine ycall_ct (keys_c (hk.ext hE) hl) ?_
  rintro r M ⟨w, rfl, eM, hw⟩
  have hwc := hw.cells1
  have gM := (eM.get _ (by omega : h.next < H.next)).trans gb
  have sa := storeAll (vs := askL k 0 0 nilV nilV nilV nilV true w c.tok) gM rfl (ask_one (tx0_v (S := NoS) (h := M)) hw)
  simp -implicitDefEqProofs (disch:=first|omega|simp only [go_sem,Nat.reduceAdd]) only [go_sem,Int.reduceLT,Int.reduceLE,Int.reduceEq,reduceIte,true_and, (xH.ext eM).cell, bd_askq hwc, sa]
  have hMn := eM.next
  exact ret_at (res_ct (n := 10) (w := .int .i64 0) vz vz (fun _ => ld_36) (row_cells (get_set_same _ _) rfl)) (by rw [hR]; exact ⟨(hE.trans eM).set (Nat.le_refl _), .inr ⟨h0, w, rfl, hw.mono fun i hi => ⟨⟨by omega, hi.2⟩, get_set_other _ _ (by have := hi.1; omega)⟩⟩⟩)
theorem refQuery_c {S : Nat → Prop} {h : DHeap} {B : Nat} {c : Cl} {vc va vr vw vv vk : Value} {k : Int} {l : List Key} (x : ClAt S h B c vc va vr vw vv) (hk : Arg fKey.rep h vk l) (hl : l.length ≤ 1048576) :
    Ct Try.prog 45 [.pointer (some ⟨B, 0, none⟩), .int .i64 k, vk] h (QryR h c k l) := by
  refine go_45 (by simp) ?_
  obtain ⟨R, hR⟩ : ∃ R, R = QryR h c k l := ⟨_, rfl⟩
  rw [← hR]
  obtain ⟨H, hH⟩ : ∃ H, H = h.push (.row askL0 0 false) := ⟨_, rfl⟩
  have hE : Ext h H := by rw [hH]; exact Ext.push1 _ _
  have hHn : H.next = h.next + 1 := by rw [hH]; rfl
  have gb : H.get h.next = some (.row askL0 0 false) := by rw [hH]; exact get_push_same _ _
  have ss := store_self gb rfl
  have xH := x.ext hE
  have el : ∀ K, dLen Try.prog #[24] vk K = some (.int .i64 (l.length : Nat)) := hk.lens (P := Try.prog) (ts := #[24]) (t := 24) rfl isl_24
  have fail : ∀ {e : Int} {fr : Fr}, queryE c k l.length = e → e ≠ 0 → fr 6 = some (.pointer (some ⟨h.next, 0, none⟩)) → fr 7 = some (.int .i64 e) → ∃ v, dResults Try.prog [.cell 6 36, .tmp 7] fr H = some v ∧ R (.ret v) H := fun {e fr} he h0 f6 f7 =>
    ret_at (res_ct (n := 10) f6 f7 (fun _ => ld_36) (row_cells gb rfl)) (by rw [hR]; exact ⟨hE, .inl ⟨he ▸ h0, by rw [he]⟩⟩)
  simp -implicitDefEqProofs (disch:=first|omega|simp only [go_sem,Nat.reduceAdd]) only [go_sem,Int.reduceLT,Int.reduceLE,Int.reduceEq,reduceIte,true_and, c45, next_push, ← hH]
  refine ncall (refMay_c xH) ?_
  by_cases p1 : 0 ≤ k ∧ k < c.reps
  case neg =>
    have p1' := decide_eq_false p1
    simp -implicitDefEqProofs (disch:=first|omega|simp only [go_sem,Nat.reduceAdd]) only [go_sem,Int.reduceLT,Int.reduceLE,Int.reduceEq,reduceIte,true_and, p1', Bool.not_false, dPick_t, dPick_f, bd_ask0, ss]
    exact fail (by rw [queryE, if_pos (by omega)]) (by decide) vz vz
  have p1' := decide_eq_true p1
  have h0 : queryE c k l.length = if 4096 < l.length then 3 else 0 := by rw [queryE, if_neg (by omega)]
  by_cases p3 : 4096 < (l.length : Int)
  · have p3' := eq_true p3
    simp -implicitDefEqProofs (disch:=first|omega|simp only [go_sem,Nat.reduceAdd]) only [go_sem,Int.reduceLT,Int.reduceLE,Int.reduceEq,reduceIte,true_and, p1', Bool.not_true, el, p3', dPick_t, dPick_f, bd_ask0, ss]
    exact fail (by rw [h0, if_pos (by omega)]) (by decide) vz vz
  rw [if_neg (by omega)] at h0
  simp -implicitDefEqProofs (disch:=first|omega|simp only [go_sem,Nat.reduceAdd]) only [go_sem,Int.reduceLT,Int.reduceLE,Int.reduceEq,reduceIte,true_and, p1', Bool.not_true, el, p3, dPick_t, dPick_f]
  refine yr_45_0 rfl ?_
  simp -implicitDefEqProofs (disch:=first|omega|simp only [go_sem,Nat.reduceAdd]) only [go_sem,Int.reduceLT,Int.reduceLE,Int.reduceEq,reduceIte,true_and, g45_0, q45_0, xH.cell]
  refine ycall_ct (refKeys_c (hk.ext hE) hl) ?_
  rintro r M ⟨w, rfl, hm⟩
  have hw := hm.sl
  have eM := hm.ext
  have hwc := hw.cells1
  have gM := (eM.get _ (by omega : h.next < H.next)).trans gb
  have sa := storeAll (vs := askL k 0 0 nilV nilV nilV nilV true w c.tok) gM rfl (ask_one (tx0_v (S := NoS) (h := M)) hw)
  simp -implicitDefEqProofs (disch:=first|omega|simp only [go_sem,Nat.reduceAdd]) only [go_sem,Int.reduceLT,Int.reduceLE,Int.reduceEq,reduceIte,true_and, (xH.ext eM).cell, bd_askq hwc, sa]
  have hMn := eM.next
  exact ret_at (res_ct (n := 10) (w := .int .i64 0) vz vz (fun _ => ld_36) (row_cells (get_set_same _ _) rfl)) (by rw [hR]; exact ⟨(hE.trans eM).set (Nat.le_refl _), .inr ⟨h0, w, rfl, hw.mono fun i hi => ⟨⟨by omega, hi.2⟩, get_set_other _ _ (by have := hi.1; omega)⟩⟩⟩)
theorem last_c {S : Nat → Prop} {h : DHeap} {B : Nat} {c : Cl} {vc va vr vw vv : Value} (x : ClAt S h B c vc va vr vw vv) (hr : c.reps ≠ 0) (hl : c.last.vs.length ≤ 1048576) :
    Ct Try.prog 29 [.pointer (some ⟨B, 0, none⟩)] h fun r h1 => Ext h h1 ∧ ((c.any = false ∧ r = .ret (.tuple #[.agg resL0.toArray, .bool false])) ∨ (c.any = true ∧ ∃ w, r = .ret (.tuple #[.agg #[.int .i64 c.last.e, w, .int .i64 c.last.s, .int .i64 c.last.p], .bool true]) ∧ Sl fI64.rep (Fresh h h1) h1 w c.last.vs)) := by
  obtain ⟨R, hR⟩ : ∃ R : DEnd → DHeap → Prop, (fun r h1 => Ext h h1 ∧ ((c.any = false ∧ r = .ret (.tuple #[.agg resL0.toArray, .bool false])) ∨ (c.any = true ∧ ∃ w, r = .ret (.tuple #[.agg #[.int .i64 c.last.e, w, .int .i64 c.last.s, .int .i64 c.last.p], .bool true]) ∧ Sl fI64.rep (Fresh h h1) h1 w c.last.vs))) = R := ⟨_, rfl⟩
  rw [hR]
  refine go_29 (by simp) ?_
  obtain ⟨H, hH⟩ : ∃ H, H = h.push (.row resL0 0 false) := ⟨_, rfl⟩
  have hE : Ext h H := by rw [hH]; exact Ext.push1 _ _
  have hHn : H.next = h.next + 1 := by rw [hH]; rfl
  have gb : H.get h.next = some (.row resL0 0 false) := by rw [hH]; exact get_push_same _ _
  have ss := store_self gb rfl
  have xH := x.ext hE
  have xlt := x.lt
  simp -implicitDefEqProofs (disch:=first|omega|simp only [go_sem,Nat.reduceAdd]) only [go_sem,Int.reduceLT,Int.reduceLE,Int.reduceEq,reduceIte,true_and, c29, next_push, ← hH]
  refine ncall (none_no xH hr) ?_
  cases hp : c.any with
  | false =>
    simp -implicitDefEqProofs (disch:=first|omega|simp only [go_sem,Nat.reduceAdd]) only [go_sem,Int.reduceLT,Int.reduceLE,Int.reduceEq,reduceIte,true_and, xH.cell, hp, Bool.not_false, dPick_t, dPick_f, bd_res0, ss]
    exact ret_at (res_ct (n := 4) (w := .bool false) vz vz (fun _ => ld_45) (row_cells gb rfl)) (by rw [← hR]; exact ⟨hE, .inl ⟨hp, rfl⟩⟩)
  | true =>
    have hvv := x.lv.cells1
    have hone : [.int .i64 c.last.e, vv, .int .i64 c.last.s, .int .i64 c.last.p].all Value.oneCell' = true := by obtain ⟨_, _, rfl⟩ := x.lv.isSlice; rfl
    obtain ⟨J, hJ⟩ : ∃ J, J = H.push (.row [.int .i64 c.last.e, vv, .int .i64 c.last.s, .int .i64 c.last.p] 0 false) := ⟨_, rfl⟩
    have eJ : Ext H J := by rw [hJ]; exact Ext.push1 _ _
    have hJn : J.next = H.next + 1 := by rw [hJ]; rfl
    have gJ : J.get H.next = some (.row [.int .i64 c.last.e, vv, .int .i64 c.last.s, .int .i64 c.last.p] 0 false) := by rw [hJ]; exact get_push_same _ _
    have sp : storeAt (H.push (.row resL0 0 false)) H.next 0 [.int .i64 c.last.e, vv, .int .i64 c.last.s, .int .i64 c.last.p] = some J := by rw [hJ]; exact storeAll_push rfl hone
    have xJ := xH.ext eJ
    simp -implicitDefEqProofs (disch:=first|omega|simp only [go_sem,Nat.reduceAdd]) only [go_sem,Int.reduceLT,Int.reduceLE,Int.reduceEq,reduceIte,true_and, xH.cell, hp, Bool.not_true, dPick_t, dPick_f, xH.res, sp, cellAt_row gJ]
    have hv : Arg fI64.rep J vv c.last.vs := xJ.lv.mono fun i hi => ⟨(xJ.inS i hi).1, rfl⟩
    refine ncall (clone_ints hv (by omega)) ?_
    obtain ⟨K, hK⟩ : ∃ K, cloneH fI64 J vv c.last.vs = K := ⟨_, rfl⟩
    obtain ⟨w, hw⟩ : ∃ v, cloneV J vv c.last.vs = v := ⟨_, rfl⟩
    have eK : Ext J K := hK ▸ cloneH_ext _ _ _ _
    have m := clone_made (F := fI64) (h := J) hv
    rw [hK, hw] at m
    rw [hK, hw]
    have ms := m.sl
    have hwc := ms.cells1
    have hKn := eK.next
    have gK := (eK.get _ (by omega : H.next < J.next)).trans gJ
    have gbK := (eK.get _ (by omega : h.next < J.next)).trans ((eJ.get _ (by omega)).trans gb)
    have sv : dStore Try.prog 23 (.pointer (some ⟨H.next, 1, none⟩)) w K = some (K.set H.next (.row [.int .i64 c.last.e, w, .int .i64 c.last.s, .int .i64 c.last.p] 0 false)) := (st_23 hwc).trans (store_cell hwc (one_sl ms) (Nat.le_of_ble_eq_true rfl) rfl gK)
    have cr : cellsAt (K.set H.next (.row [.int .i64 c.last.e, w, .int .i64 c.last.s, .int .i64 c.last.p] 0 false)) H.next 0 4 = some (.agg #[.int .i64 c.last.e, w, .int .i64 c.last.s, .int .i64 c.last.p]) := row_cells (get_set_same _ _) rfl
    have hone2 : [.int .i64 c.last.e, w, .int .i64 c.last.s, .int .i64 c.last.p].all Value.oneCell' = true := by obtain ⟨_, _, rfl⟩ := ms.isSlice; rfl
    have s2 := storeAll (vs := [.int .i64 c.last.e, w, .int .i64 c.last.s, .int .i64 c.last.p]) ((get_set_other K (.row [.int .i64 c.last.e, w, .int .i64 c.last.s, .int .i64 c.last.p] 0 false) (by omega : h.next ≠ H.next)).trans gbK) rfl hone2
    simp -implicitDefEqProofs (disch:=first|omega|simp only [go_sem,Nat.reduceAdd]) only [go_sem,Int.reduceLT,Int.reduceLE,Int.reduceEq,reduceIte,true_and, sv, cr, s2]
    refine ret_at (res_ct (n := 4) (w := .bool true) vz vz (fun _ => ld_45) (row_cells (get_set_same _ _) rfl)) (by rw [← hR]; exact ⟨(((hE.trans eJ).trans eK).set (by omega)).set (by omega), .inr ⟨hp, w, rfl, ms.mono fun i hi => ⟨⟨by omega, hi.2⟩, (get_set_other _ _ (by have := hi.1; omega)).trans (get_set_other _ _ (by have := hi.1; omega))⟩⟩⟩)
theorem cloneC_c {S : Nat → Prop} {h : DHeap} {B : Nat} {c : Cl} {vc va vr vw vv : Value} (x : ClAt S h B c vc va vr vw vv) (hr : c.reps ≠ 0) :
    Ct Try.prog 30 [.pointer (some ⟨B, 0, none⟩)] h fun r h1 => r = .ret (.pointer (some ⟨h.next, 0, none⟩)) ∧ h1 = h.push (.row (clL c vc va vr vw vv) 0 false) := by
  refine go_30 (by simp) ?_
  have hone : (clL c vc va vr vw vv).all Value.oneCell' = true := by
    obtain ⟨_, _, rfl⟩ := x.tx.c.isSlice
    obtain ⟨_, _, rfl⟩ := x.tx.a.isSlice
    obtain ⟨_, _, rfl⟩ := x.tx.r.isSlice
    obtain ⟨_, _, rfl⟩ := x.tx.w.isSlice
    obtain ⟨_, _, rfl⟩ := x.lv.isSlice
    rfl
  have hall : cellsAt h B 0 18 = some (.agg (clL c vc va vr vw vv).toArray) := row_cells x.row rfl
  have sp : storeAt (h.push (.row [.int .i64 0, .int .i64 0, .int .i64 0, .bool false, .int .i64 0, .int .i64 0, nilV, nilV, nilV, nilV, .int .i64 0, .int .i64 0, .int .i64 0, .bool false, .int .i64 0, nilV, .int .i64 0, .int .i64 0] 0 false)) h.next 0 (clL c vc va vr vw vv) = some (h.push (.row (clL c vc va vr vw vv) 0 false)) := storeAll_push rfl hone
  simp -implicitDefEqProofs (disch:=first|omega|simp only [go_sem,Nat.reduceAdd]) only [go_sem,Int.reduceLT,Int.reduceLE,Int.reduceEq,reduceIte,true_and, c30]
  refine ncall (none_no x hr) ?_
  simp -implicitDefEqProofs (disch:=first|omega|simp only [go_sem,Nat.reduceAdd]) only [go_sem,Int.reduceLT,Int.reduceLE,Int.reduceEq,reduceIte,true_and, hall, sp]
  exact ⟨_, rfl, rfl, trivial⟩
theorem sameResult_c {h : DHeap} {a : Res} {va vb : Value} (x : Arg fI64.rep h va a.vs) (y : Arg fI64.rep h vb a.vs) (hl : a.vs.length ≤ 1048576) : DC Try.prog 47 [.agg #[.int .i64 a.e, va, .int .i64 a.s, .int .i64 a.p], .agg #[.int .i64 a.e, vb, .int .i64 a.s, .int .i64 a.p]] h (.ret (.bool true)) h := by
  refine Ct.pure (go_47 (by simp) ?_) vin_b
  have hva := x.cells1
  have hvb := y.cells1
  obtain ⟨H, hH⟩ : ∃ H, H = (h.push (.row [.int .i64 a.e, va, .int .i64 a.s, .int .i64 a.p] 0 false)).push (.row [.int .i64 a.e, vb, .int .i64 a.s, .int .i64 a.p] 0 false) := ⟨_, rfl⟩
  have hE : Ext h H := by rw [hH]; exact (Ext.push1 _ _).push _
  have ga : H.get h.next = some (.row [.int .i64 a.e, va, .int .i64 a.s, .int .i64 a.p] 0 false) := by rw [hH]; exact get_p1
  have gb : H.get (h.next + 1) = some (.row [.int .i64 a.e, vb, .int .i64 a.s, .int .i64 a.p] 0 false) := by rw [hH]; exact get_push_same _ _
  simp -implicitDefEqProofs (disch:=first|omega|simp only [go_sem,Nat.reduceAdd]) only [go_sem,Int.reduceLT,Int.reduceLE,Int.reduceEq,reduceIte,true_and, c47, next_push, ← hH, cellAt_row ga, cellAt_row gb, eq_self, decide_true, dPick_t, dPick_f]
  refine ncall (sameVals_c (x.ext hE) (y.ext hE) (by omega)) ?_
  simp -implicitDefEqProofs (disch:=first|omega|simp only [go_sem,Nat.reduceAdd]) only [go_sem,Int.reduceLT,Int.reduceLE,Int.reduceEq,reduceIte,true_and, eq_self, decide_true, dPick_t, dPick_f]
  exact ⟨_, rfl, rfl, hE⟩
theorem sameAsk_c {h : DHeap} {t : Txn} {vc va vr vw uc ua ur uw vk uk : Value} {l : List Key} {k m : Int} {q : Bool} (x : TxV (InH h) h t vc va vr vw) (y : TxV (InH h) h t uc ua ur uw) (hl : TxLen t) (hk : Arg fKey.rep h vk l) (hk2 : Arg fKey.rep h uk l) (hkl : l.length ≤ 1048576) :
    DC Try.prog 42 [.agg (askL k t.ses t.req vc va vr vw q vk m).toArray, .agg (askL k t.ses t.req uc ua ur uw q uk m).toArray] h (.ret (.bool true)) h := by
  refine Ct.pure (go_42 (by simp) ?_) vin_b
  have hvc := x.c.cells1
  have hva := x.a.cells1
  have hvr := x.r.cells1
  have hvw := x.w.cells1
  have huc := y.c.cells1
  have hua := y.a.cells1
  have hur := y.r.cells1
  have huw := y.w.cells1
  have hvk := hk.cells1
  have huk := hk2.cells1
  obtain ⟨H, hH⟩ : ∃ H, H = (h.push (.row (askL k t.ses t.req vc va vr vw q vk m) 0 false)).push (.row (askL k t.ses t.req uc ua ur uw q uk m) 0 false) := ⟨_, rfl⟩
  have hE : Ext h H := by rw [hH]; exact (Ext.push1 _ _).push _
  have ga : H.get h.next = some (.row (askL k t.ses t.req vc va vr vw q vk m) 0 false) := by rw [hH]; exact get_p1
  have gb : H.get (h.next + 1) = some (.row (askL k t.ses t.req uc ua ur uw q uk m) 0 false) := by rw [hH]; exact get_push_same _ _
  have ta : cellsAt H h.next 1 6 = some (txnV t.ses t.req vc va vr vw) := by rw [cellsAt_row ga (Nat.le_of_ble_eq_true rfl)]; rfl
  have tb : cellsAt H (h.next + 1) 1 6 = some (txnV t.ses t.req uc ua ur uw) := by rw [cellsAt_row gb (Nat.le_of_ble_eq_true rfl)]; rfl
  have qq : (q == q) = true := by cases q <;> rfl
  simp -implicitDefEqProofs (disch:=first|omega|simp only [go_sem,Nat.reduceAdd]) only [go_sem,Int.reduceLT,Int.reduceLE,Int.reduceEq,reduceIte,true_and, c42, next_push, ← hH, cellAt_row ga, cellAt_row gb, ta, tb, bin_booleql, qq, eq_self, decide_true, dPick_t, dPick_f]
  refine ncall (sameTxn_c (x.ext hE) (y.ext hE) hl) ?_
  simp -implicitDefEqProofs (disch:=first|omega|simp only [go_sem,Nat.reduceAdd]) only [go_sem,Int.reduceLT,Int.reduceLE,Int.reduceEq,reduceIte,true_and, sameT_refl, dPick_t, dPick_f, cellAt_row ga, cellAt_row gb]
  refine ncall (sameKeys_c (hk.ext hE) (hk2.ext hE) (by omega)) ?_
  have sk : sameL (fun a b : Key => decide (a = b)) l l = true := by rw [sameL_dec]; simp
  simp -implicitDefEqProofs (disch:=first|omega|simp only [go_sem,Nat.reduceAdd]) only [go_sem,Int.reduceLT,Int.reduceLE,Int.reduceEq,reduceIte,true_and, sk, dPick_t, dPick_f]
  exact ⟨_, rfl, rfl, hE⟩
end Go.Proofs.Ytbdljpndncohaaa

namespace Go.Proofs.Ytbdljpndncohaaa
open Go.D
set_option maxRecDepth 100000

/-- all but the boxes of G -/
abbrev InG (G : Nat → Prop) (h : DHeap) : Nat → Prop := fun i => i < h.next ∧ ¬ G i
/-- an ask is answered, and something beside it; the session goes on as c' -/
def AskRes (G : Nat → Prop) (B : Nat) (h : DHeap) (c' : Cl) (k : Int) (t : Txn) (q : Bool) (l : List Key) (m : Int) (e : Value) (r : DEnd) (h1 : DHeap) : Prop :=
  Keep B h h1 ∧ ∃ wc wa wr ww wk, r = .ret (.tuple #[.agg (askL k t.ses t.req wc wa wr ww q wk m).toArray, e]) ∧ TxV (InG G h1) h1 t wc wa wr ww ∧ Sl fKey.rep (InG G h1) h1 wk l ∧ ∃ vc va vr vw vv, ClAt (InG G h1) h1 B c' vc va vr vw vv
section
variable {G : Nat → Prop} {h h1 : DHeap} {B : Nat} {c : Cl} {uc ua ur uw uv vc va vr vw vk : Value} {t : Txn} {k : Int}
theorem ClAt.inG {S : Nat → Prop} {c' : Cl} (hB : G B) (x : ClAt S h1 B c' uc ua ur uw uv) (m : ∀ i, S i → ¬ G i) : ClAt (InG G h1) h1 B c' uc ua ur uw uv :=
  x.weak (fun i hi => ⟨(x.inS i hi).1, m i hi⟩) fun i hi => ⟨hi.1, fun e => hi.2 (e ▸ hB)⟩
theorem freshG (hG : ∀ i, G i → i < h.next) {i : Nat} (hi : h.next ≤ i) : ¬ G i := fun g => by have := hG i g; omega
def subK (c : Cl) (t : Txn) (k : Int) : Int := if submitE c t k = 0 then k else 0
def subTx (c : Cl) (t : Txn) (k : Int) : Txn := if submitE c t k = 0 then subT c t else tx0
def subCl (c : Cl) (t : Txn) (k : Int) : Cl := if submitE c t k = 0 then submitC c t k else c
theorem submit_u (x : ClAt (InG G h) h B c uc ua ur uw uv) (hG : ∀ i, G i → i < h.next) (hB : G B) (ok : ClOk c) (y : TxV (InG G h) h t vc va vr vw) (hl : TxLen t) :
    Ct Try.prog 11 [.pointer (some ⟨B, 0, none⟩), txnV t.ses t.req vc va vr vw, .int .i64 k] h (AskRes G B h (subCl c t k) (subK c t k) (subTx c t k) false [] 0 (.int .i64 (submitE c t k))) := by
  refine (submit_c (k := k) x (by have := ok.reps; omega) ok.req (y.mono fun i hi => ⟨hi.1, rfl⟩) hl).mono ?_
  rintro r h1 (⟨hbad, rfl, eM⟩ | ⟨hgood, kM, n1, vc', va', vr', vw', wc, wa, wr, ww, hn1, hn2, rfl, x3, q⟩)
  · have e1 : subK c t k = 0 := if_neg hbad
    have e2 : subTx c t k = tx0 := if_neg hbad
    have e3 : subCl c t k = c := if_neg hbad
    rw [e1, e2, e3]
    exact ⟨.ofExt eM, nilV, nilV, nilV, nilV, nilV, rfl, tx0_v, .nil _ _ _, _, _, _, _, _, (x.ext eM).inG hB fun i hi => hi.2⟩
  · have e1 : subK c t k = k := if_pos hgood
    have e2 : subTx c t k = subT c t := if_pos hgood
    have e3 : subCl c t k = submitC c t k := if_pos hgood
    rw [e1, e2, e3, hgood]
    exact ⟨kM, wc, wa, wr, ww, nilV, rfl, q.mono fun i hi => ⟨⟨hi.2, freshG hG (by omega)⟩, rfl⟩, .nil _ _ _, _, _, _, _, _, x3.inG hB fun i hi => by
      rcases hi with hi | hi
      · exact hi.2
      · exact freshG hG hi.1⟩
theorem refSubmit_u (x : ClAt (InG G h) h B c uc ua ur uw uv) (hG : ∀ i, G i → i < h.next) (hB : G B) (ok : ClOk c) (y : TxV (InG G h) h t vc va vr vw) (hl : TxLen t) :
    Ct Try.prog 17 [.pointer (some ⟨B, 0, none⟩), txnV t.ses t.req vc va vr vw, .int .i64 k] h (AskRes G B h (subCl c t k) (subK c t k) (subTx c t k) false [] 0 (.int .i64 (submitE c t k))) := by
  refine (refSubmit_c (k := k) x (by have := ok.reps; omega) ok.req y (fun i hi => hi.1) hl).mono ?_
  rintro r h1 (⟨hbad, rfl, eM⟩ | ⟨hgood, kM, vr', vw', rfl, x3⟩)
  · have e1 : subK c t k = 0 := if_neg hbad
    have e2 : subTx c t k = tx0 := if_neg hbad
    have e3 : subCl c t k = c := if_neg hbad
    rw [e1, e2, e3]
    exact ⟨.ofExt eM, nilV, nilV, nilV, nilV, nilV, rfl, tx0_v, .nil _ _ _, _, _, _, _, _, (x.ext eM).inG hB fun i hi => hi.2⟩
  · have e1 : subK c t k = k := if_pos hgood
    have e2 : subTx c t k = subT c t := if_pos hgood
    have e3 : subCl c t k = submitC c t k := if_pos hgood
    rw [e1, e2, e3, hgood]
    have x4 := x3.inG hB fun i hi => by
      rcases hi.1 with hi | hi | hi
      · exact hi.2
      · exact hi.2
      · exact freshG hG hi.1
    exact ⟨kM, vc, va, vr', vw', nilV, rfl, x4.tx, .nil _ _ _, _, _, _, _, _, x4⟩
def tickK (c : Cl) : Int := if tickB c then (tickC c).turn else 0
def tickT (c : Cl) : Txn := if tickB c then c.t else tx0
theorem tick_u (x : ClAt (InG G h) h B c uc ua ur uw uv) (hG : ∀ i, G i → i < h.next) (hB : G B) (ok : ClOk c) :
    Ct Try.prog 12 [.pointer (some ⟨B, 0, none⟩)] h (AskRes G B h (tickC c) (tickK c) (tickT c) false [] 0 (.bool (tickB c))) := by
  have hr := ok.reps
  have hw := ok.wait
  have ht := ok.turn
  refine (tick_c x (by omega) ⟨hw.1, by omega⟩ ⟨ht.1, by omega⟩ ok.len).mono ?_
  rintro r h1 ⟨kM, x2, (⟨hb, rfl⟩ | ⟨hb, wc, wa, wr, ww, rfl, q⟩)⟩
  · have e1 : tickK c = 0 := by rw [tickK, hb]; rfl
    have e2 : tickT c = tx0 := by rw [tickT, hb]; rfl
    rw [e1, e2, hb]
    exact ⟨kM, nilV, nilV, nilV, nilV, nilV, rfl, tx0_v, .nil _ _ _, _, _, _, _, _, x2.inG hB fun i hi => hi.2⟩
  · have e1 : tickK c = (tickC c).turn := by rw [tickK, hb]; rfl
    have e2 : tickT c = c.t := by rw [tickT, hb]; rfl
    rw [e1, e2, hb]
    exact ⟨kM, wc, wa, wr, ww, nilV, rfl, q.mono fun i hi => ⟨⟨hi.2, freshG hG hi.1⟩, rfl⟩, .nil _ _ _, _, _, _, _, _, x2.inG hB fun i hi => hi.2⟩
theorem tickC_t (c : Cl) : (tickC c).t = c.t := by
  unfold tickC
  split
  · rfl
  · split <;> rfl
theorem refTick_u (x : ClAt (InG G h) h B c uc ua ur uw uv) (hB : G B) (ok : ClOk c) :
    Ct Try.prog 43 [.pointer (some ⟨B, 0, none⟩)] h (AskRes G B h (tickC c) (tickK c) (tickT c) false [] 0 (.bool (tickB c))) := by
  have hr := ok.reps
  have hw := ok.wait
  have ht := ok.turn
  refine (refTick_c x (by omega) ⟨hw.1, by omega⟩ ⟨ht.1, by omega⟩).mono ?_
  rintro r h1 ⟨kM, x2, (⟨hb, rfl⟩ | ⟨hb, rfl⟩)⟩
  · have e1 : tickK c = 0 := by rw [tickK, hb]; rfl
    have e2 : tickT c = tx0 := by rw [tickT, hb]; rfl
    rw [e1, e2, hb]
    exact ⟨kM, nilV, nilV, nilV, nilV, nilV, rfl, tx0_v, .nil _ _ _, _, _, _, _, _, x2.inG hB fun i hi => hi.2⟩
  · have e1 : tickK c = (tickC c).turn := by rw [tickK, hb]; rfl
    have e2 : tickT c = c.t := by rw [tickT, hb]; rfl
    rw [e1, e2, hb]
    have x4 := x2.inG hB fun i hi => hi.2
    refine ⟨kM, uc, ua, ur, uw, nilV, rfl, ?_, .nil _ _ _, _, _, _, _, _, x4⟩
    rw [← tickC_t c]
    exact x4.tx
def qryK (c : Cl) (k : Int) (n : Nat) : Int := if queryE c k n = 0 then k else 0
def qryL (c : Cl) (k : Int) (l : List Key) : List Key := if queryE c k l.length = 0 then keysN l else []
def qryM (c : Cl) (k : Int) (n : Nat) : Int := if queryE c k n = 0 then c.tok else 0
theorem qry_u {l : List Key} {r : DEnd} (x : ClAt (InG G h) h B c uc ua ur uw uv) (hG : ∀ i, G i → i < h.next) (hB : G B) (q : QryR h c k l r h1) :
    AskRes G B h c (qryK c k l.length) tx0 (decide (queryE c k l.length = 0)) (qryL c k l) (qryM c k l.length) (.int .i64 (queryE c k l.length)) r h1 := by
  obtain ⟨eM, (⟨hb, rfl⟩ | ⟨hb, w, rfl, hw⟩)⟩ := q
  · have e1 : qryK c k l.length = 0 := if_neg hb
    have e2 : qryL c k l = [] := if_neg hb
    have e3 : qryM c k l.length = 0 := if_neg hb
    rw [e1, e2, e3, decide_eq_false hb]
    exact ⟨.ofExt eM, nilV, nilV, nilV, nilV, nilV, rfl, tx0_v, .nil _ _ _, _, _, _, _, _, (x.ext eM).inG hB fun i hi => hi.2⟩
  · have e1 : qryK c k l.length = k := if_pos hb
    have e2 : qryL c k l = keysN l := if_pos hb
    have e3 : qryM c k l.length = c.tok := if_pos hb
    rw [e1, e2, e3, decide_eq_true hb, hb]
    exact ⟨.ofExt eM, nilV, nilV, nilV, nilV, w, rfl, tx0_v, hw.mono fun i hi => ⟨⟨hi.2, freshG hG hi.1⟩, rfl⟩, _, _, _, _, _, (x.ext eM).inG hB fun i hi => hi.2⟩
/-- what is pending, or nothing -/
def pendT (c : Cl) : Txn := if c.pend then c.t else tx0
def PendR (h : DHeap) (c : Cl) (r : DEnd) (h1 : DHeap) : Prop := Ext h h1 ∧ ∃ wc wa wr ww, r = .ret (.tuple #[txnV (pendT c).ses (pendT c).req wc wa wr ww, .bool c.pend]) ∧ TxV (InH h1) h1 (pendT c) wc wa wr ww
theorem pending_u {S : Nat → Prop} (x : ClAt S h B c uc ua ur uw uv) (ok : ClOk c) : Ct Try.prog 18 [.pointer (some ⟨B, 0, none⟩)] h (PendR h c) := by
  refine (pending_c x (by have := ok.reps; omega) ok.len).mono ?_
  rintro r h1 ⟨e, (⟨hp, rfl⟩ | ⟨hp, wc, wa, wr, ww, rfl, q⟩)⟩
  · have e1 : pendT c = tx0 := by rw [pendT, hp]; rfl
    refine ⟨e, nilV, nilV, nilV, nilV, ?_, ?_⟩
    · rw [e1, hp]; rfl
    · rw [e1]; exact tx0_v
  · have e1 : pendT c = c.t := by rw [pendT, hp]; rfl
    refine ⟨e, wc, wa, wr, ww, ?_, ?_⟩
    · rw [e1, hp]
    · rw [e1]; exact q.mono fun i hi => ⟨hi.2, rfl⟩
theorem refPending_u {S : Nat → Prop} (x : ClAt S h B c uc ua ur uw uv) : Ct Try.prog 19 [.pointer (some ⟨B, 0, none⟩)] h (PendR h c) := by
  refine (refPending_c x).mono ?_
  rintro r h1 ⟨e, (⟨hp, rfl⟩ | ⟨hp, rfl⟩)⟩
  · have e1 : pendT c = tx0 := by rw [pendT, hp]; rfl
    refine ⟨e, nilV, nilV, nilV, nilV, ?_, ?_⟩
    · rw [e1, hp]; rfl
    · rw [e1]; exact tx0_v
  · have e1 : pendT c = c.t := by rw [pendT, hp]; rfl
    have xe := x.ext e
    refine ⟨e, uc, ua, ur, uw, ?_, ?_⟩
    · rw [e1, hp]
    · rw [e1]; exact xe.tx.mono fun i hi => ⟨(xe.inS i hi).1, rfl⟩
end
/-- the last answer is as it should be -/
structure LastOk (c : Cl) : Prop where
  none : c.any = false → c.last = ⟨0, [], 0, 0⟩
  len : c.last.vs.length ≤ 1048576
/-- the session, and what it must be -/
structure PrAt (h0 h : DHeap) (p C W : Nat) (c d : Cl) (uc ua ur uw uv vc va vr vw vv : Value) : Prop where
  e0 : Ext h0 h
  row : h.get p = some (.row [.pointer (some ⟨C, 0, none⟩), .pointer (some ⟨W, 0, none⟩)] 0 false)
  x : ClAt (InG (fun i => i = p ∨ i = C ∨ i = W) h) h C c uc ua ur uw uv
  y : ClAt (InG (fun i => i = p ∨ i = C ∨ i = W) h) h W d vc va vr vw vv
  lt : h0.next ≤ p ∧ p < h.next ∧ h0.next ≤ C ∧ h0.next ≤ W ∧ p ≠ C ∧ p ≠ W ∧ C ≠ W
theorem PrAt.g {h0 h : DHeap} {p C W : Nat} {c d : Cl} {uc ua ur uw uv vc va vr vw vv : Value} (x : PrAt h0 h p C W c d uc ua ur uw uv vc va vr vw vv) : ∀ i, (i = p ∨ i = C ∨ i = W) → i < h.next := by
  have := x.x.lt
  have := x.y.lt
  have := x.lt
  rintro i (rfl | rfl | rfl) <;> omega
theorem PrAt.ext {h0 h h1 : DHeap} {p C W : Nat} {c d : Cl} {uc ua ur uw uv vc va vr vw vv : Value} (x : PrAt h0 h p C W c d uc ua ur uw uv vc va vr vw vv) (e : Ext h h1) : PrAt h0 h1 p C W c d uc ua ur uw uv vc va vr vw vv :=
  ⟨x.e0.trans e, (e.get _ x.lt.2.1).trans x.row, (x.x.ext e).inG (.inr (.inl rfl)) fun i hi => hi.2, (x.y.ext e).inG (.inr (.inr rfl)) fun i hi => hi.2, by have := x.lt; have := e.next; omega⟩
theorem PrAt.left {h0 h h1 : DHeap} {p C W : Nat} {c d c' : Cl} {uc ua ur uw uv vc va vr vw vv uc' ua' ur' uw' uv' : Value} (x : PrAt h0 h p C W c d uc ua ur uw uv vc va vr vw vv) (k : Keep C h h1) (y : ClAt (InG (fun i => i = p ∨ i = C ∨ i = W) h1) h1 C c' uc' ua' ur' uw' uv') : PrAt h0 h1 p C W c' d uc' ua' ur' uw' uv' vc va vr vw vv := by
  have hl := x.lt
  have hn := k.next
  have h1' := x.y.lt
  refine ⟨⟨Nat.le_trans x.e0.next hn, k.ng.trans x.e0.ng, fun i hi => (k.get i (by have := x.e0.next; omega) (by omega)).trans (x.e0.get i hi)⟩, (k.get p hl.2.1 hl.2.2.2.2.1).trans x.row, y, ?_, by omega⟩
  have kk : ∀ i, InG (fun i => i = p ∨ i = C ∨ i = W) h i → InG (fun i => i = p ∨ i = C ∨ i = W) h1 i ∧ h1.get i = h.get i := fun i hi => ⟨⟨by have := hi.1; omega, hi.2⟩, k.get i hi.1 fun e => hi.2 (.inr (.inl e))⟩
  exact ⟨(k.get W h1' (by omega)).trans x.y.row, x.y.tx.mono kk, x.y.lv.mono kk, by omega, fun i hi => ⟨hi.1, fun e => hi.2 (.inr (.inr e))⟩⟩
theorem PrAt.right {h0 h h1 : DHeap} {p C W : Nat} {c d d' : Cl} {uc ua ur uw uv vc va vr vw vv vc' va' vr' vw' vv' : Value} (x : PrAt h0 h p C W c d uc ua ur uw uv vc va vr vw vv) (k : Keep W h h1) (y : ClAt (InG (fun i => i = p ∨ i = C ∨ i = W) h1) h1 W d' vc' va' vr' vw' vv') : PrAt h0 h1 p C W c d' uc ua ur uw uv vc' va' vr' vw' vv' := by
  have hl := x.lt
  have hn := k.next
  have h1' := x.x.lt
  refine ⟨⟨Nat.le_trans x.e0.next hn, k.ng.trans x.e0.ng, fun i hi => (k.get i (by have := x.e0.next; omega) (by omega)).trans (x.e0.get i hi)⟩, (k.get p hl.2.1 (by omega)).trans x.row, ?_, y, by omega⟩
  have kk : ∀ i, InG (fun i => i = p ∨ i = C ∨ i = W) h i → InG (fun i => i = p ∨ i = C ∨ i = W) h1 i ∧ h1.get i = h.get i := fun i hi => ⟨⟨by have := hi.1; omega, hi.2⟩, k.get i hi.1 fun e => hi.2 (.inr (.inr e))⟩
  exact ⟨(k.get C h1' (by omega)).trans x.x.row, x.x.tx.mono kk, x.x.lv.mono kk, by omega, fun i hi => ⟨hi.1, fun e => hi.2 (.inr (.inl e))⟩⟩
theorem PrAt.cell {h0 h : DHeap} {p C W : Nat} {c d : Cl} {uc ua ur uw uv vc va vr vw vv : Value} (x : PrAt h0 h p C W c d uc ua ur uw uv vc va vr vw vv) (o : Nat) : cellAt h p o = [Value.pointer (some ⟨C, 0, none⟩), .pointer (some ⟨W, 0, none⟩)][o]? := cellAt_row x.row
set_option maxHeartbeats 1000000 in
theorem is_c {h0 h : DHeap} {p C W : Nat} {c : Cl} {uc ua ur uw uv vc va vr vw vv : Value} (x : PrAt h0 h p C W c c uc ua ur uw uv vc va vr vw vv) (ok : ClOk c) (lk : LastOk c) :
    DC Try.prog 27 [.pointer (some ⟨p, 0, none⟩)] h (.ret (.bool true)) h := by
  refine Ct.pure (go_27 (by simp) ?_) (vin_bool _)
  have hr : c.reps ≠ 0 := by have := ok.reps; omega
  simp -implicitDefEqProofs (disch:=first|omega|simp only [go_sem,Nat.reduceAdd]) only [go_sem,Int.reduceLT,Int.reduceLE,Int.reduceEq,reduceIte,true_and, c27, x.cell]
  refine ncall_ct (pending_u x.x ok) ?_
  rintro r M1 ⟨e1, wc, wa, wr, ww, rfl, q⟩
  have hwc := q.c.cells1
  have hwa := q.a.cells1
  have hwr := q.r.cells1
  have hww := q.w.cells1
  obtain ⟨K1, hK1⟩ : ∃ K1, K1 = M1.push (.row [.int .i64 (pendT c).ses, .int .i64 (pendT c).req, wc, wa, wr, ww] 0 false) := ⟨_, rfl⟩
  have sp1 : storeAt (M1.push (.row txL0 0 false)) M1.next 0 [.int .i64 (pendT c).ses, .int .i64 (pendT c).req, wc, wa, wr, ww] = some K1 := by rw [hK1]; exact storeAll_push rfl (q.one _ _)
  have eK1 : Ext M1 K1 := by rw [hK1]; exact Ext.push1 _ _
  have g1 : K1.get M1.next = some (.row [.int .i64 (pendT c).ses, .int .i64 (pendT c).req, wc, wa, wr, ww] 0 false) := by rw [hK1]; exact get_push_same _ _
  have b1 : M1.next < K1.next := by rw [hK1]; exact Nat.lt_succ_self _
  have x1 := (x.ext e1).ext eK1
  simp -implicitDefEqProofs (disch:=first|omega|simp only [go_sem,Nat.reduceAdd]) only [go_sem,Int.reduceLT,Int.reduceLE,Int.reduceEq,reduceIte,true_and, XEnd, sp1, x1.cell]
  refine ncall_ct (refPending_u x1.y) ?_
  rintro r M2 ⟨e2, zc, za, zr, zw, rfl, q2⟩
  have hzc := q2.c.cells1
  have hza := q2.a.cells1
  have hzr := q2.r.cells1
  have hzw := q2.w.cells1
  obtain ⟨K2, hK2⟩ : ∃ K2, K2 = M2.push (.row [.int .i64 (pendT c).ses, .int .i64 (pendT c).req, zc, za, zr, zw] 0 false) := ⟨_, rfl⟩
  have sp2 : storeAt (M2.push (.row txL0 0 false)) M2.next 0 [.int .i64 (pendT c).ses, .int .i64 (pendT c).req, zc, za, zr, zw] = some K2 := by rw [hK2]; exact storeAll_push rfl (q2.one _ _)
  have eK2 : Ext M2 K2 := by rw [hK2]; exact Ext.push1 _ _
  have g2 : K2.get M2.next = some (.row [.int .i64 (pendT c).ses, .int .i64 (pendT c).req, zc, za, zr, zw] 0 false) := by rw [hK2]; exact get_push_same _ _
  have b2 : M2.next < K2.next := by rw [hK2]; exact Nat.lt_succ_self _
  have x2 := (x1.ext e2).ext eK2
  simp -implicitDefEqProofs (disch:=first|omega|simp only [go_sem,Nat.reduceAdd]) only [go_sem,Int.reduceLT,Int.reduceLE,Int.reduceEq,reduceIte,true_and, XEnd, sp2, x2.cell]
  obtain ⟨RR, hRR⟩ : ∃ RR : DEnd → DHeap → Prop, RR = fun r h1 => Ext K2 h1 ∧ ∃ w, r = .ret (.tuple #[.agg #[.int .i64 c.last.e, w, .int .i64 c.last.s, .int .i64 c.last.p], .bool c.any]) ∧ Arg fI64.rep h1 w c.last.vs := ⟨_, rfl⟩
  have hlast : Ct Try.prog 29 [.pointer (some ⟨C, 0, none⟩)] K2 RR := by
    refine (last_c x2.x hr lk.len).mono ?_
    rw [hRR]
    rintro r h1 ⟨e, (⟨ha, rfl⟩ | ⟨ha, w, rfl, hw⟩)⟩
    · refine ⟨e, nilV, ?_, ?_⟩
      · rw [lk.none ha, ha]
      · rw [lk.none ha]; exact .nil _ _ _
    · exact ⟨e, w, by rw [ha], hw.mono fun i hi => ⟨hi.2, rfl⟩⟩
  refine ncall_ct hlast ?_
  rw [hRR]
  rintro r M3 ⟨e3, w, rfl, hw⟩
  have hwl := hw.cells1
  have hone : [.int .i64 c.last.e, w, .int .i64 c.last.s, .int .i64 c.last.p].all Value.oneCell' = true := by obtain ⟨_, _, rfl⟩ := hw.isSlice; rfl
  obtain ⟨K3, hK3⟩ : ∃ K3, K3 = M3.push (.row [.int .i64 c.last.e, w, .int .i64 c.last.s, .int .i64 c.last.p] 0 false) := ⟨_, rfl⟩
  have sp3 : storeAt (M3.push (.row resL0 0 false)) M3.next 0 [.int .i64 c.last.e, w, .int .i64 c.last.s, .int .i64 c.last.p] = some K3 := by rw [hK3]; exact storeAll_push rfl hone
  have eK3 : Ext M3 K3 := by rw [hK3]; exact Ext.push1 _ _
  have g3 : K3.get M3.next = some (.row [.int .i64 c.last.e, w, .int .i64 c.last.s, .int .i64 c.last.p] 0 false) := by rw [hK3]; exact get_push_same _ _
  have x3 := (x2.ext e3).ext eK3
  have e13 := (e2.trans eK2).trans (e3.trans eK3)
  have e23 := e3.trans eK3
  have c1 : cellsAt K3 M1.next 0 6 = some (txnV (pendT c).ses (pendT c).req wc wa wr ww) := row_cells ((e13.get _ b1).trans g1) rfl
  have c2 : cellsAt K3 M2.next 0 6 = some (txnV (pendT c).ses (pendT c).req zc za zr zw) := row_cells ((e23.get _ b2).trans g2) rfl
  have c3 : cellsAt K3 M3.next 0 4 = some (.agg #[.int .i64 c.last.e, w, .int .i64 c.last.s, .int .i64 c.last.p]) := row_cells g3 rfl
  have qa := (q.ext eK1).ext e13
  have qb := (q2.ext eK2).ext e23
  have pl : TxLen (pendT c) := by
    unfold pendT
    split
    · exact ok.len
    · exact tx0_len
  have b2' : ∀ b : Bool, (b == b) = true := fun b => by cases b <;> rfl
  simp -implicitDefEqProofs (disch:=first|omega|simp only [go_sem,Nat.reduceAdd]) only [go_sem,Int.reduceLT,Int.reduceLE,Int.reduceEq,reduceIte,true_and, XEnd, sp3]
  refine yr_27_0 rfl ?_
  simp -implicitDefEqProofs (disch:=first|omega|simp only [go_sem,Nat.reduceAdd]) only [go_sem,Int.reduceLT,Int.reduceLE,Int.reduceEq,reduceIte,true_and, g27_0, q27_0, l27_0, bin_booleql, b2', dPick_t, dPick_f, c1, c2, x3.cell, x3.y.cell]
  refine ycall (sameTxn_c qa qb pl) ?_
  simp -implicitDefEqProofs (disch:=first|omega|simp only [go_sem,Nat.reduceAdd]) only [go_sem,Int.reduceLT,Int.reduceLE,Int.reduceEq,reduceIte,true_and, sameT_refl, dPick_t, dPick_f, x3.cell, x3.y.cell]
  refine ycall (token_c x3.x hr) ?_
  simp -implicitDefEqProofs (disch:=first|omega|simp only [go_sem,Nat.reduceAdd]) only [go_sem,Int.reduceLT,Int.reduceLE,Int.reduceEq,reduceIte,true_and, eq_self, decide_true, dPick_t, dPick_f, x3.cell, x3.y.cell]
  refine ycall (request_c x3.x hr) ?_
  simp -implicitDefEqProofs (disch:=first|omega|simp only [go_sem,Nat.reduceAdd]) only [go_sem,Int.reduceLT,Int.reduceLE,Int.reduceEq,reduceIte,true_and, eq_self, decide_true, dPick_t, dPick_f, x3.cell, x3.y.cell, bin_booleql, b2', c3, x3.y.res]
  refine ycall (sameResult_c (hw.ext eK3) (x3.y.lv.mono fun i hi => ⟨hi.1, rfl⟩) lk.len) ?_
  simp -implicitDefEqProofs (disch:=first|omega|simp only [go_sem,Nat.reduceAdd]) only [go_sem,Int.reduceLT,Int.reduceLE,Int.reduceEq,reduceIte,true_and, eq_self, decide_true, dPick_t, dPick_f]
  exact ⟨_, rfl, rfl, (e1.trans eK1).trans e13⟩
end Go.Proofs.Ytbdljpndncohaaa

namespace Go.Proofs.Ytbdljpndncohaaa
open Go.D
set_option maxRecDepth 100000

structure OpLen (x : OpC) : Prop where
  t : TxLen x.t
  v : x.a.x.vs.length ≤ 1048576
  k : x.keys.length ≤ 1048576
abbrev opL0 : List Value := [.int .i64 0, .int .i64 0, .int .i64 0, nilV, nilV, nilV, nilV, .int .i64 0, .int .i64 0, .int .i64 0, .int .i64 0, nilV, .int .i64 0, .int .i64 0, .bool false, nilV, .int .i64 0, .int .i64 0, nilV]
theorem op_one {S : Nat → Prop} {h : DHeap} {x : OpC} {vc va vr vw vv vk vp : Value} (t : TxV S h x.t vc va vr vw) (k1 : Sl fI64.rep S h vv x.a.x.vs) (k2 : Sl fKey.rep S h vk x.keys) (k3 : Sl fPair.rep S h vp x.f.pairs) : (opL x vc va vr vw vv vk vp).all Value.oneCell' = true := by
  obtain ⟨_, _, rfl⟩ := t.c.isSlice
  obtain ⟨_, _, rfl⟩ := t.a.isSlice
  obtain ⟨_, _, rfl⟩ := t.r.isSlice
  obtain ⟨_, _, rfl⟩ := t.w.isSlice
  obtain ⟨_, _, rfl⟩ := k1.isSlice
  obtain ⟨_, _, rfl⟩ := k2.isSlice
  obtain ⟨_, _, rfl⟩ := k3.isSlice
  rfl
end Go.Proofs.Ytbdljpndncohaaa

namespace Go.Proofs.Ytbdljpndncohaaa
open Go.D
set_option maxRecDepth 100000

/-- an ask in a box -/
def AkAt (K : DHeap) (b : Nat) (k : Int) (t : Txn) (q : Bool) (l : List Key) (m : Int) : Prop :=
  b < K.next ∧ ∃ wc wa wr ww wk, K.get b = some (.row (askL k t.ses t.req wc wa wr ww q wk m) 0 false) ∧ TxV (InH K) K t wc wa wr ww ∧ Arg fKey.rep K wk l
section
variable {K K' : DHeap} {b B : Nat} {k m : Int} {t : Txn} {q : Bool} {l : List Key} {R : List Value}
theorem AkAt.keep (x : AkAt K b k t q l m) (e : Keep B K K') (gB : K.get B = some (.row R 0 false)) (hb : b ≠ B) : AkAt K' b k t q l m := by
  obtain ⟨hl, wc, wa, wr, ww, wk, g, h1, h2⟩ := x
  have mm : ∀ i, (InH K i ∧ i ≠ B) → InH K' i ∧ K'.get i = K.get i := fun i hi => ⟨Nat.lt_of_lt_of_le hi.1 e.next, e.get i hi.1 hi.2⟩
  exact ⟨Nat.lt_of_lt_of_le hl e.next, wc, wa, wr, ww, wk, (e.get b hl hb).trans g, (h1.box gB).mono mm, (sl_box h2 (by decide) gB).mono mm⟩
theorem AkAt.ext (x : AkAt K b k t q l m) (e : Ext K K') : AkAt K' b k t q l m := by
  obtain ⟨hl, wc, wa, wr, ww, wk, g, h1, h2⟩ := x
  exact ⟨Nat.lt_of_lt_of_le hl e.next, wc, wa, wr, ww, wk, (e.get b hl).trans g, h1.ext e, h2.ext e⟩
/-- an ask is stored in a box that was made -/
theorem ask_stored {G : Nat → Prop} {wc wa wr ww wk : Value} {R0 : List Value} (gM : K.get b = some (.row R0 0 false)) (hR : R0.length = 10) (hb : b < K.next) (h1 : TxV (InG G K) K t wc wa wr ww) (h2 : Sl fKey.rep (InG G K) K wk l) :
    storeAt K b 0 (askL k t.ses t.req wc wa wr ww q wk m) = some (K.set b (.row (askL k t.ses t.req wc wa wr ww q wk m) 0 false)) ∧ AkAt (K.set b (.row (askL k t.ses t.req wc wa wr ww q wk m) 0 false)) b k t q l m := by
  have mm : ∀ i, (InG G K i ∧ i ≠ b) → InH (K.set b (.row (askL k t.ses t.req wc wa wr ww q wk m) 0 false)) i ∧ (K.set b (.row (askL k t.ses t.req wc wa wr ww q wk m) 0 false)).get i = K.get i := fun i hi => ⟨hi.1.1, get_set_other _ _ hi.2⟩
  exact ⟨storeAll gM hR.symm (ask_one h1 h2), hb, wc, wa, wr, ww, wk, get_set_same _ _, (h1.box gM).mono mm, (sl_box h2 (by decide) gM).mono mm⟩
end
/-- an ask is stored in a box that was just made -/
theorem ask_made {G : Nat → Prop} {K : DHeap} {k m : Int} {t : Txn} {q : Bool} {l : List Key} {wc wa wr ww wk : Value} (h1 : TxV (InG G K) K t wc wa wr ww) (h2 : Sl fKey.rep (InG G K) K wk l) :
    ∃ K1, storeAt (K.push (.row askL0 0 false)) K.next 0 (askL k t.ses t.req wc wa wr ww q wk m) = some K1 ∧ Ext K K1 ∧ AkAt K1 K.next k t q l m := by
  refine ⟨_, storeAll_push rfl (ask_one h1 h2), Ext.push1 _ _, Nat.lt_succ_self _, wc, wa, wr, ww, wk, get_push_same _ _, ?_, ?_⟩
  · exact h1.mono fun i hi => ⟨by have := hi.1; show i < K.next + 1; omega, get_push_other _ _ hi.1⟩
  · exact h2.mono fun i hi => ⟨by have := hi.1; show i < K.next + 1; omega, get_push_other _ _ hi.1⟩
/-- two asks that are the same -/
theorem ak_same {K : DHeap} {b b' : Nat} {k m : Int} {t : Txn} {q : Bool} {l : List Key} (x : AkAt K b k t q l m) (y : AkAt K b' k t q l m) (hl : TxLen t) (hk : l.length ≤ 1048576) :
    ∃ u v, cellsAt K b 0 10 = some u ∧ cellsAt K b' 0 10 = some v ∧ DC Try.prog 42 [u, v] K (.ret (.bool true)) K := by
  obtain ⟨_, wc, wa, wr, ww, wk, g, h1, h2⟩ := x
  obtain ⟨_, zc, za, zr, zw, zk, g', h1', h2'⟩ := y
  exact ⟨_, _, row_cells g rfl, row_cells g' rfl, sameAsk_c h1 h1' hl h2 h2' hk⟩
theorem AkAt.setB {K : DHeap} {b B : Nat} {k m : Int} {t : Txn} {q : Bool} {l : List Key} {R : List Value} {o : DObj} (x : AkAt K b k t q l m) (gB : K.get B = some (.row R 0 false)) (hb : b ≠ B) : AkAt (K.set B o) b k t q l m :=
  x.keep (B := B) ⟨Nat.le_refl _, rfl, fun i _ hi => get_set_other _ _ hi⟩ gB hb
/-- what lies in a box of its own may change -/
theorem PrAt.setBox {h0 h : DHeap} {p C W b : Nat} {c d : Cl} {uc ua ur uw uv vc va vr vw vv : Value} {R R' : List Value} (x : PrAt h0 h p C W c d uc ua ur uw uv vc va vr vw vv) (g : h.get b = some (.row R 0 false)) (hb : h0.next ≤ b ∧ b ≠ p ∧ b ≠ C ∧ b ≠ W) : PrAt h0 (h.set b (.row R' 0 false)) p C W c d uc ua ur uw uv vc va vr vw vv := by
  have mm : ∀ i, (InG (fun i => i = p ∨ i = C ∨ i = W) h i ∧ i ≠ b) → InG (fun i => i = p ∨ i = C ∨ i = W) (h.set b (.row R' 0 false)) i ∧ (h.set b (.row R' 0 false)).get i = h.get i := fun i hi => ⟨hi.1, get_set_other _ _ hi.2⟩
  refine ⟨x.e0.set hb.1, (get_set_other _ _ (Ne.symm hb.2.1)).trans x.row, ?_, ?_, x.lt⟩
  · exact ⟨(get_set_other _ _ (Ne.symm hb.2.2.1)).trans x.x.row, (x.x.tx.box g).mono mm, (sl_box x.x.lv (by decide) g).mono mm, x.x.lt, fun i hi => x.x.inS i hi⟩
  · exact ⟨(get_set_other _ _ (Ne.symm hb.2.2.2)).trans x.y.row, (x.y.tx.box g).mono mm, (sl_box x.y.lv (by decide) g).mono mm, x.y.lt, fun i hi => x.y.inS i hi⟩
/-- both go on alike -/
def DoesR (h0 : DHeap) (p W : Nat) (r : DEnd) (h1 : DHeap) : Prop :=
  r = .ret (.bool true) ∧ ∃ C c uc ua ur uw uv vc va vr vw vv, PrAt h0 h1 p C W c c uc ua ur uw uv vc va vr vw vv ∧ ClOk c ∧ LastOk c
theorem ok_subCl {c : Cl} {t : Txn} {k : Int} (o : ClOk c) (hl : TxLen t) : ClOk (subCl c t k) := by
  unfold subCl
  split
  · exact ok_submit o hl (by assumption)
  · exact o
theorem last_subCl {c : Cl} {t : Txn} {k : Int} (o : LastOk c) : LastOk (subCl c t k) := by
  unfold subCl
  split
  · exact ⟨o.none, o.len⟩
  · exact o
theorem last_tick {c : Cl} (o : LastOk c) : LastOk (tickC c) := by
  unfold tickC
  split
  · exact o
  · split <;> exact ⟨o.none, o.len⟩
theorem last_ans {c : Cl} {a b : Int} {x : Res} (o : LastOk c) (hl : x.vs.length ≤ 1048576) : LastOk (ansC c a b x) := by
  unfold ansC
  split
  · exact ⟨fun h => (by cases h), hl⟩
  · exact o
theorem last_found {c : Cl} {e i : Int} (o : LastOk c) : LastOk (foundC c e i) := by
  unfold foundC
  split
  · exact ⟨o.none, o.len⟩
  · exact o
theorem len_tickT {c : Cl} (o : ClOk c) : TxLen (tickT c) := by
  unfold tickT
  split
  · exact o.len
  · exact tx0_len
theorem len_subTx {c : Cl} {t : Txn} {k : Int} (hl : TxLen t) : TxLen (subTx c t k) := by
  unfold subTx
  split
  · exact hl.sub
  · exact tx0_len
theorem len_qryL {c : Cl} {k : Int} {l : List Key} (hl : l.length ≤ 1048576) : (qryL c k l).length ≤ 1048576 := by
  unfold qryL
  split
  · exact Nat.le_trans (keysN_len l) hl
  · exact Nat.zero_le _
theorem bd_res99 : dBuild Try.prog 45 [(2, .int .i64 99)] = some (.agg #[.int .i64 0, nilV, .int .i64 99, .int .i64 0]) := dBuild_at plc_45 rfl
theorem bd_ans99 {a b : Int} : dBuild Try.prog 47 [(0, .int .i64 a), (1, .int .i64 b), (2, .agg #[.int .i64 0, nilV, .int .i64 99, .int .i64 0])] = some (.agg #[.int .i64 a, .int .i64 b, .int .i64 0, nilV, .int .i64 99, .int .i64 0]) := dBuild_at plc_47 rfl
set_option maxHeartbeats 4000000 in
theorem does_c {h0 h : DHeap} {p C W : Nat} {c : Cl} {uc ua ur uw uv vc va vr vw vv : Value} {x : OpC} {oc oa or' ow ov ok' op : Value} (P : PrAt h0 h p C W c c uc ua ur uw uv vc va vr vw vv) (ok : ClOk c) (lk : LastOk c)
    (tx : TxV (InH h0) h0 x.t oc oa or' ow) (k1 : Arg fI64.rep h0 ov x.a.x.vs) (k2 : Arg fKey.rep h0 ok' x.keys) (k3 : op.cells = #[op]) (hol : OpLen x) :
    Ct Try.prog 26 [.pointer (some ⟨p, 0, none⟩), .agg (opL x oc oa or' ow ov ok' op).toArray] h (DoesR h0 p W) := by
  refine go_26 (by simp) ?_
  obtain ⟨R, hR⟩ : ∃ R, R = DoesR h0 p W := ⟨_, rfl⟩
  rw [← hR]
  have hr : c.reps ≠ 0 := by have := ok.reps; omega
  obtain ⟨K0, hK0⟩ : ∃ K0, K0 = h.push (.row (opL x oc oa or' ow ov ok' op) 0 false) := ⟨_, rfl⟩
  have e0 : Ext h K0 := by rw [hK0]; exact Ext.push1 _ _
  have hK0n : K0.next = h.next + 1 := by rw [hK0]; rfl
  have o0 : OpAt K0 h.next x oc oa or' ow ov ok' op := ⟨by rw [hK0]; exact get_push_same _ _, by omega, tx.c.cells1, tx.a.cells1, tx.r.cells1, tx.w.cells1, k1.cells1, k3⟩
  have P0 := P.ext e0
  have hlt := P.lt
  have hxl := P.x.lt
  have hyl := P.y.lt
  have hh0 := P.e0.next
  have hc := tx.c.cells1
  have ha := tx.a.cells1
  have hrr := tx.r.cells1
  have hw := tx.w.cells1
  have hv := k1.cells1
  have hk := k2.cells1
  have inG : ∀ {K : DHeap}, Ext h0 K → ∀ i, InH h0 i → InG (fun i => i = p ∨ i = C ∨ i = W) K i ∧ K.get i = h0.get i := fun {K} e i hi =>
    have hi' : i < h0.next := hi
    ⟨⟨Nat.lt_of_lt_of_le hi e.next, by rintro (rfl | rfl | rfl) <;> omega⟩, e.get i hi⟩
  have b2 : ∀ b : Bool, (b == b) = true := fun b => by cases b <;> rfl
  simp -implicitDefEqProofs (disch:=first|omega|simp only [go_sem,Nat.reduceAdd]) only [go_sem,Int.reduceLT,Int.reduceLE,Int.reduceEq,reduceIte,true_and, c26, ← hK0, o0.cell]
  by_cases q0 : x.kind = 0
  · have q0' := eq_true q0
    simp -implicitDefEqProofs (disch:=first|omega|simp only [go_sem,Nat.reduceAdd]) only [go_sem,Int.reduceLT,Int.reduceLE,Int.reduceEq,reduceIte,true_and, q0']
    obtain ⟨K1, hK1⟩ : ∃ K1, K1 = K0.push (.row askL0 0 false) := ⟨_, rfl⟩
    have e1 : Ext K0 K1 := by rw [hK1]; exact Ext.push1 _ _
    have hK1n : K1.next = K0.next + 1 := by rw [hK1]; rfl
    have g1 : K1.get K0.next = some (.row askL0 0 false) := by rw [hK1]; exact get_push_same _ _
    have P1 := P0.ext e1
    have o1 := o0.ext e1
    refine yr_26_0 rfl ?_
    simp -implicitDefEqProofs (disch:=first|omega|simp only [go_sem,Nat.reduceAdd]) only [go_sem,Int.reduceLT,Int.reduceLE,Int.reduceEq,reduceIte,true_and, g26_0, q26_0]
    simp -implicitDefEqProofs (disch:=first|omega|simp only [go_sem,Nat.reduceAdd]) only [go_sem,Int.reduceLT,Int.reduceLE,Int.reduceEq,reduceIte,true_and, ← hK1, P1.cell, o1.txn, o1.cell]
    refine ycall_ct (submit_u (k := x.rep) P1.x P1.g (.inr (.inl rfl)) ok (tx.mono (inG P1.e0)) hol.t) ?_
    rintro r M ⟨kM, wc, wa, wr, ww, wk, rfl, t1, t2, vc1, va1, vr1, vw1, vv1, xM⟩
    have P2 := P1.left kM xM
    have hMn := kM.next
    have gM := (kM.get K0.next (by omega) (by omega)).trans g1
    obtain ⟨sa, ak⟩ := ask_stored (k := subK c x.t x.rep) (q := false) (m := 0) gM rfl (by omega) t1 t2
    have hwc := t1.c.cells1
    have hwa := t1.a.cells1
    have hwr := t1.r.cells1
    have hww := t1.w.cells1
    have hwk := t2.cells1
    simp -implicitDefEqProofs (disch:=first|omega|simp only [go_sem,Nat.reduceAdd]) only [go_sem,Int.reduceLT,Int.reduceLE,Int.reduceEq,reduceIte,true_and, gM, sa]
    obtain ⟨M2, hM2⟩ : ∃ M2, M2 = M.set K0.next (.row (askL (subK c x.t x.rep) (subTx c x.t x.rep).ses (subTx c x.t x.rep).req wc wa wr ww false wk 0) 0 false) := ⟨_, rfl⟩
    rw [← hM2] at ak ⊢
    have P3 := P2.setBox (R' := askL (subK c x.t x.rep) (subTx c x.t x.rep).ses (subTx c x.t x.rep).req wc wa wr ww false wk 0) gM (by omega)
    rw [← hM2] at P3
    have hM2n : M2.next = M.next := by rw [hM2]; rfl
    have o2 : OpAt M2 h.next x oc oa or' ow ov ok' op := ⟨by rw [hM2, get_set_other _ _ (by omega)]; exact (kM.get _ (by omega) (by omega)).trans o1.row, by omega, hc, ha, hrr, hw, hv, k3⟩
    obtain ⟨K2, hK2⟩ : ∃ K2, K2 = M2.push (.row askL0 0 false) := ⟨_, rfl⟩
    have e2 : Ext M2 K2 := by rw [hK2]; exact Ext.push1 _ _
    have hK2n : K2.next = M2.next + 1 := by rw [hK2]; rfl
    have g2 : K2.get M2.next = some (.row askL0 0 false) := by rw [hK2]; exact get_push_same _ _
    have P4 := P3.ext e2
    have o3 := o2.ext e2
    refine yr_26_1 rfl ?_
    simp -implicitDefEqProofs (disch:=first|omega|simp only [go_sem,Nat.reduceAdd]) only [go_sem,Int.reduceLT,Int.reduceLE,Int.reduceEq,reduceIte,true_and, g26_1, q26_1]
    simp -implicitDefEqProofs (disch:=first|omega|simp only [go_sem,Nat.reduceAdd]) only [go_sem,Int.reduceLT,Int.reduceLE,Int.reduceEq,reduceIte,true_and, ← hK2, P4.cell, o3.txn, o3.cell]
    refine ycall_ct (refSubmit_u (k := x.rep) P4.y P4.g (.inr (.inr rfl)) ok (tx.mono (inG P4.e0)) hol.t) ?_
    rintro r N ⟨kN, zc, za, zr, zw, zk, rfl, s1, s2, vc2, va2, vr2, vw2, vv2, yN⟩
    have P5 := P4.right kN yN
    have hNn := kN.next
    have gN := (kN.get M2.next (by omega) (by omega)).trans g2
    obtain ⟨sb, bk⟩ := ask_stored (k := subK c x.t x.rep) (q := false) (m := 0) gN rfl (by omega) s1 s2
    have hzc := s1.c.cells1
    have hza := s1.a.cells1
    have hzr := s1.r.cells1
    have hzw := s1.w.cells1
    have hzk := s2.cells1
    have ak2 := (ak.ext e2).keep kN P4.y.row (by have := ak.1; omega)
    simp -implicitDefEqProofs (disch:=first|omega|simp only [go_sem,Nat.reduceAdd]) only [go_sem,Int.reduceLT,Int.reduceLE,Int.reduceEq,reduceIte,true_and, gN, sb]
    have ak3 := ak2.setB (o := .row (askL (subK c x.t x.rep) (subTx c x.t x.rep).ses (subTx c x.t x.rep).req zc za zr zw false zk 0) 0 false) gN (by have := ak.1; omega)
    have P6 := P5.setBox (R' := askL (subK c x.t x.rep) (subTx c x.t x.rep).ses (subTx c x.t x.rep).req zc za zr zw false zk 0) gN (by omega)
    obtain ⟨u, v, c1, c2, hs⟩ := ak_same ak3 bk (len_subTx hol.t) (Nat.zero_le _)
    simp -implicitDefEqProofs (disch:=first|omega|simp only [go_sem,Nat.reduceAdd]) only [go_sem,Int.reduceLT,Int.reduceLE,Int.reduceEq,reduceIte,true_and, eq_self, decide_true, dPick_t, dPick_f, c1, c2]
    refine ncall hs ?_
    simp -implicitDefEqProofs (disch:=first|omega|simp only [go_sem,Nat.reduceAdd]) only [go_sem,Int.reduceLT,Int.reduceLE,Int.reduceEq,reduceIte,true_and, dPick_t, dPick_f]
    exact ⟨_, rfl, by rw [hR]; exact ⟨rfl, C, _, _, _, _, _, _, _, _, _, _, _, P6, ok_subCl ok hol.t, last_subCl lk⟩⟩
  by_cases q1 : x.kind = 1
  · have q1' := eq_true q1
    simp -implicitDefEqProofs (disch:=first|omega|simp only [go_sem,Nat.reduceAdd]) only [go_sem,Int.reduceLT,Int.reduceLE,Int.reduceEq,reduceIte,true_and, q0, q1', P0.cell]
    refine ncall_ct (tick_u P0.x P0.g (.inr (.inl rfl)) ok) ?_
    rintro r M ⟨kM, wc, wa, wr, ww, wk, rfl, t1, t2, vc1, va1, vr1, vw1, vv1, xM⟩
    have P1 := P0.left kM xM
    obtain ⟨K1, sa, e1, ak⟩ := ask_made (k := tickK c) (q := false) (m := 0) t1 t2
    have hwc := t1.c.cells1
    have hwa := t1.a.cells1
    have hwr := t1.r.cells1
    have hww := t1.w.cells1
    have hwk := t2.cells1
    have P2 := P1.ext e1
    simp -implicitDefEqProofs (disch:=first|omega|simp only [go_sem,Nat.reduceAdd]) only [go_sem,Int.reduceLT,Int.reduceLE,Int.reduceEq,reduceIte,true_and, XEnd, sa, P2.cell]
    refine ncall_ct (refTick_u P2.y (.inr (.inr rfl)) ok) ?_
    rintro r N ⟨kN, zc, za, zr, zw, zk, rfl, s1, s2, vc2, va2, vr2, vw2, vv2, yN⟩
    have P3 := P2.right kN yN
    obtain ⟨K2, sb, e2, bk⟩ := ask_made (k := tickK c) (q := false) (m := 0) s1 s2
    have hzc := s1.c.cells1
    have hza := s1.a.cells1
    have hzr := s1.r.cells1
    have hzw := s1.w.cells1
    have hzk := s2.cells1
    have hMn := kM.next
    have ak2 := (ak.keep kN P2.y.row (by omega)).ext e2
    have P4 := P3.ext e2
    obtain ⟨u, v, c1, c2, hs⟩ := ak_same ak2 bk (len_tickT ok) (Nat.zero_le _)
    simp -implicitDefEqProofs (disch:=first|omega|simp only [go_sem,Nat.reduceAdd]) only [go_sem,Int.reduceLT,Int.reduceLE,Int.reduceEq,reduceIte,true_and, XEnd, sb, bin_booleql, b2, dPick_t, dPick_f, c1, c2]
    refine ncall hs ?_
    simp -implicitDefEqProofs (disch:=first|omega|simp only [go_sem,Nat.reduceAdd]) only [go_sem,Int.reduceLT,Int.reduceLE,Int.reduceEq,reduceIte,true_and, dPick_t, dPick_f]
    exact ⟨_, rfl, by rw [hR]; exact ⟨rfl, C, _, _, _, _, _, _, _, _, _, _, _, P4, ok_tick ok, last_tick lk⟩⟩
  by_cases q3 : x.kind = 3
  · have q3' := eq_true q3
    have q2' : ¬ x.kind = 2 := by omega
    simp -implicitDefEqProofs (disch:=first|omega|simp only [go_sem,Nat.reduceAdd]) only [go_sem,Int.reduceLT,Int.reduceLE,Int.reduceEq,reduceIte,true_and, q0, q1, q2', q3']
    obtain ⟨K1, hK1⟩ : ∃ K1, K1 = K0.push (.row askL0 0 false) := ⟨_, rfl⟩
    have e1 : Ext K0 K1 := by rw [hK1]; exact Ext.push1 _ _
    have hK1n : K1.next = K0.next + 1 := by rw [hK1]; rfl
    have g1 : K1.get K0.next = some (.row askL0 0 false) := by rw [hK1]; exact get_push_same _ _
    have P1 := P0.ext e1
    have o1 := o0.ext e1
    refine yr_26_5 rfl ?_
    simp -implicitDefEqProofs (disch:=first|omega|simp only [go_sem,Nat.reduceAdd]) only [go_sem,Int.reduceLT,Int.reduceLE,Int.reduceEq,reduceIte,true_and, g26_5, q26_5]
    simp -implicitDefEqProofs (disch:=first|omega|simp only [go_sem,Nat.reduceAdd]) only [go_sem,Int.reduceLT,Int.reduceLE,Int.reduceEq,reduceIte,true_and, ← hK1, P1.cell, o1.cell]
    refine ycall_ct (query_c (k := x.rep) P1.x hr (k2.ext P1.e0) hol.k) ?_
    rintro r M hq
    obtain ⟨kM, wc, wa, wr, ww, wk, rfl, t1, t2, vc1, va1, vr1, vw1, vv1, xM⟩ := qry_u P1.x P1.g (.inr (.inl rfl)) hq
    have P2 := P1.left kM xM
    have hMn := kM.next
    have gM := (kM.get K0.next (by omega) (by omega)).trans g1
    obtain ⟨sa, ak⟩ := ask_stored (k := qryK c x.rep x.keys.length) (q := decide (queryE c x.rep x.keys.length = 0)) (m := qryM c x.rep x.keys.length) gM rfl (by omega) t1 t2
    have hwc := t1.c.cells1
    have hwa := t1.a.cells1
    have hwr := t1.r.cells1
    have hww := t1.w.cells1
    have hwk := t2.cells1
    simp -implicitDefEqProofs (disch:=first|omega|simp only [go_sem,Nat.reduceAdd]) only [go_sem,Int.reduceLT,Int.reduceLE,Int.reduceEq,reduceIte,true_and, gM, sa]
    obtain ⟨M2, hM2⟩ : ∃ M2, M2 = M.set K0.next (.row (askL (qryK c x.rep x.keys.length) tx0.ses tx0.req wc wa wr ww (decide (queryE c x.rep x.keys.length = 0)) wk (qryM c x.rep x.keys.length)) 0 false) := ⟨_, rfl⟩
    rw [← hM2] at ak ⊢
    have P3 := P2.setBox (R' := askL (qryK c x.rep x.keys.length) tx0.ses tx0.req wc wa wr ww (decide (queryE c x.rep x.keys.length = 0)) wk (qryM c x.rep x.keys.length)) gM (by omega)
    rw [← hM2] at P3
    have hM2n : M2.next = M.next := by rw [hM2]; rfl
    have o2 : OpAt M2 h.next x oc oa or' ow ov ok' op := ⟨by rw [hM2, get_set_other _ _ (by omega)]; exact (kM.get _ (by omega) (by omega)).trans o1.row, by omega, hc, ha, hrr, hw, hv, k3⟩
    obtain ⟨K2, hK2⟩ : ∃ K2, K2 = M2.push (.row askL0 0 false) := ⟨_, rfl⟩
    have e2 : Ext M2 K2 := by rw [hK2]; exact Ext.push1 _ _
    have hK2n : K2.next = M2.next + 1 := by rw [hK2]; rfl
    have g2 : K2.get M2.next = some (.row askL0 0 false) := by rw [hK2]; exact get_push_same _ _
    have P4 := P3.ext e2
    have o3 := o2.ext e2
    refine yr_26_6 rfl ?_
    simp -implicitDefEqProofs (disch:=first|omega|simp only [go_sem,Nat.reduceAdd]) only [go_sem,Int.reduceLT,Int.reduceLE,Int.reduceEq,reduceIte,true_and, g26_6, q26_6]
    simp -implicitDefEqProofs (disch:=first|omega|simp only [go_sem,Nat.reduceAdd]) only [go_sem,Int.reduceLT,Int.reduceLE,Int.reduceEq,reduceIte,true_and, ← hK2, P4.cell, o3.cell]
    refine ycall_ct (refQuery_c (k := x.rep) P4.y (k2.ext P4.e0) hol.k) ?_
    rintro r N hq2
    obtain ⟨kN, zc, za, zr, zw, zk, rfl, s1, s2, vc2, va2, vr2, vw2, vv2, yN⟩ := qry_u P4.y P4.g (.inr (.inr rfl)) hq2
    have P5 := P4.right kN yN
    have hNn := kN.next
    have gN := (kN.get M2.next (by omega) (by omega)).trans g2
    obtain ⟨sb, bk⟩ := ask_stored (k := qryK c x.rep x.keys.length) (q := decide (queryE c x.rep x.keys.length = 0)) (m := qryM c x.rep x.keys.length) gN rfl (by omega) s1 s2
    have hzc := s1.c.cells1
    have hza := s1.a.cells1
    have hzr := s1.r.cells1
    have hzw := s1.w.cells1
    have hzk := s2.cells1
    have ak2 := (ak.ext e2).keep kN P4.y.row (by have := ak.1; omega)
    simp -implicitDefEqProofs (disch:=first|omega|simp only [go_sem,Nat.reduceAdd]) only [go_sem,Int.reduceLT,Int.reduceLE,Int.reduceEq,reduceIte,true_and, gN, sb]
    have ak3 := ak2.setB (o := .row (askL (qryK c x.rep x.keys.length) tx0.ses tx0.req zc za zr zw (decide (queryE c x.rep x.keys.length = 0)) zk (qryM c x.rep x.keys.length)) 0 false) gN (by have := ak.1; omega)
    have P6 := P5.setBox (R' := askL (qryK c x.rep x.keys.length) tx0.ses tx0.req zc za zr zw (decide (queryE c x.rep x.keys.length = 0)) zk (qryM c x.rep x.keys.length)) gN (by omega)
    obtain ⟨u, v, c1, c2, hs⟩ := ak_same ak3 bk tx0_len (len_qryL hol.k)
    simp -implicitDefEqProofs (disch:=first|omega|simp only [go_sem,Nat.reduceAdd]) only [go_sem,Int.reduceLT,Int.reduceLE,Int.reduceEq,reduceIte,true_and, eq_self, decide_true, dPick_t, dPick_f, c1, c2]
    refine ncall hs ?_
    simp -implicitDefEqProofs (disch:=first|omega|simp only [go_sem,Nat.reduceAdd]) only [go_sem,Int.reduceLT,Int.reduceLE,Int.reduceEq,reduceIte,true_and, dPick_t, dPick_f]
    exact ⟨_, rfl, by rw [hR]; exact ⟨rfl, C, _, _, _, _, _, _, _, _, _, _, _, P6, ok, lk⟩⟩
  by_cases q2 : x.kind = 2
  · have q2' := eq_true q2
    simp -implicitDefEqProofs (disch:=first|omega|simp only [go_sem,Nat.reduceAdd]) only [go_sem,Int.reduceLT,Int.reduceLE,Int.reduceEq,reduceIte,true_and, q0, q1, q2', o0.cell]
    refine XIf_cut (fun s => s.df = [] ∧ s.rd = none ∧ s.fr 0 = some (.pointer (some ⟨p, 0, none⟩)) ∧ s.fr 3 = some (.pointer (some ⟨h.next, 0, none⟩)) ∧ (∃ xb : OpC, xb.a.x = x.a.x ∧ OpAt s.h h.next xb oc oa or' ow ov ok' op) ∧ PrAt h0 s.h p C W c c uc ua ur uw uv vc va vr vw vv) (fun hb => ?_) (fun hb => ?_) ?_
    · refine yr_26_2 rfl ?_
      obtain ⟨xa, hxa⟩ : ∃ xa : OpC, xa = { x with a := { x.a with ses := c.ses } } := ⟨_, rfl⟩
      obtain ⟨xb, hxb⟩ : ∃ xb : OpC, xb = { xa with a := { xa.a with req := c.req } } := ⟨_, rfl⟩
      have hs8 : storeAt K0 h.next 8 [.int .i64 c.ses] = some (K0.set h.next (.row (opL xa oc oa or' ow ov ok' op) 0 false)) := by
        rw [store_cell rfl rfl (Nat.le_of_ble_eq_true rfl) rfl o0.row, hxa]
        rfl
      have g8 : (K0.set h.next (.row (opL xa oc oa or' ow ov ok' op) 0 false)).get h.next = some (.row (opL xa oc oa or' ow ov ok' op) 0 false) := get_set_same _ _
      have hs9 : storeAt (K0.set h.next (.row (opL xa oc oa or' ow ov ok' op) 0 false)) h.next 9 [.int .i64 c.req] = some (K0.set h.next (.row (opL xb oc oa or' ow ov ok' op) 0 false)) := by
        rw [store_cell rfl rfl (Nat.le_of_ble_eq_true rfl) rfl g8, set_set, hxb]
        rfl
      have P8 := P0.setBox (R' := opL xa oc oa or' ow ov ok' op) o0.row (by omega)
      simp -implicitDefEqProofs (disch:=first|omega|simp only [go_sem,Nat.reduceAdd]) only [go_sem,Int.reduceLT,Int.reduceLE,Int.reduceEq,reduceIte,true_and, g26_2, q26_2, P0.cell, P0.y.cell, hs8, hs9, P8.cell, P8.y.cell]
      exact ⟨⟨xb, by rw [hxb, hxa], get_set_same _ _, o0.lt, hc, ha, hrr, hw, hv, k3⟩, P0.setBox o0.row (by omega)⟩
    · simp -implicitDefEqProofs (disch:=first|omega|simp only [go_sem,Nat.reduceAdd]) only [go_sem,Int.reduceLT,Int.reduceLE,Int.reduceEq,reduceIte,true_and]
      exact ⟨⟨x, rfl, o0⟩, P0⟩
    rintro ⟨fr1, df1, K, rd1⟩ ⟨hdf, hrd, f0, f3, ⟨xb, hx, o1⟩, P1⟩
    simp only at hdf hrd f0 f3 o1 P1
    subst hdf hrd
    have hans : cellsAt K h.next 8 6 = some (.agg #[.int .i64 xb.a.ses, .int .i64 xb.a.req, .int .i64 x.a.x.e, ov, .int .i64 x.a.x.s, .int .i64 x.a.x.p]) := by rw [o1.ans, hx]
    simp -implicitDefEqProofs (disch:=first|omega|simp only [go_sem,Nat.reduceAdd]) only [go_sem,Int.reduceLT,Int.reduceLE,Int.reduceEq,reduceIte,true_and]
    refine yr_26_3 rfl ?_
    simp -implicitDefEqProofs (disch:=first|omega|simp only [go_sem,Nat.reduceAdd]) only [go_sem,Int.reduceLT,Int.reduceLE,Int.reduceEq,reduceIte,true_and, g26_3, q26_3, f0, f3, P1.cell, hans]
    refine ycall_ct (answer_c (x := x.a.x) (a := xb.a.ses) (b := xb.a.req) P1.x hr ok.tok (k1.ext P1.e0) hol.v) ?_
    rintro r M ⟨kM, rfl, vv1, xM⟩
    have hol1 := o1.lt
    have P2 := P1.left kM (xM.inG (.inr (.inl rfl)) fun i hi => by
      rcases hi with hi | hi
      · exact hi.2
      · exact freshG P1.g hi.1)
    have hansM : cellsAt M h.next 8 6 = some (.agg #[.int .i64 xb.a.ses, .int .i64 xb.a.req, .int .i64 x.a.x.e, ov, .int .i64 x.a.x.s, .int .i64 x.a.x.p]) := by
      rw [cellsAt_row ((kM.get _ o1.lt (by omega)).trans o1.row) (Nat.le_of_ble_eq_true rfl), ← hx]; rfl
    simp -implicitDefEqProofs (disch:=first|omega|simp only [go_sem,Nat.reduceAdd]) only [go_sem,Int.reduceLT,Int.reduceLE,Int.reduceEq,reduceIte,true_and]
    refine yr_26_4 rfl ?_
    simp -implicitDefEqProofs (disch:=first|omega|simp only [go_sem,Nat.reduceAdd]) only [go_sem,Int.reduceLT,Int.reduceLE,Int.reduceEq,reduceIte,true_and, g26_4, q26_4, f0, f3, P2.cell, hansM]
    refine ycall_ct (refAnswer_c (x := x.a.x) (a := xb.a.ses) (b := xb.a.req) (S0 := InH h0) P2.y ok.tok (k1.mono fun i hi => ⟨hi, P2.e0.get i hi⟩) (fun i hi => Nat.lt_of_lt_of_le hi P2.e0.next)) ?_
    rintro r N ⟨kN, rfl, vv2, yN⟩
    have P3 := P2.right kN (yN.inG (.inr (.inr rfl)) fun i hi => by
      rcases hi with hi | hi
      · exact hi.2
      · have : i < h0.next := hi.1
        rintro (rfl | rfl | rfl) <;> omega)
    simp -implicitDefEqProofs (disch:=first|omega|simp only [go_sem,Nat.reduceAdd]) only [go_sem,Int.reduceLT,Int.reduceLE,Int.reduceEq,reduceIte,true_and, bin_booleql, b2, eq_self, decide_true, dPick_t, dPick_f]
    exact ⟨_, rfl, by rw [hR]; exact ⟨rfl, C, _, _, _, _, _, _, _, _, _, _, _, P3, ok_ans ok, last_ans lk hol.v⟩⟩
  by_cases q4 : x.kind = 4
  · have q4' := eq_true q4
    simp -implicitDefEqProofs (disch:=first|omega|simp only [go_sem,Nat.reduceAdd]) only [go_sem,Int.reduceLT,Int.reduceLE,Int.reduceEq,reduceIte,true_and, q0, q1, q2, q3, q4']
    refine yr_26_7 rfl ?_
    simp -implicitDefEqProofs (disch:=first|omega|simp only [go_sem,Nat.reduceAdd]) only [go_sem,Int.reduceLT,Int.reduceLE,Int.reduceEq,reduceIte,true_and, g26_7, q26_7, P0.cell, o0.fnd]
    refine ycall_ct (found_c P0.x hr k3) ?_
    rintro r M ⟨kM, rfl, xM⟩
    have P1 := P0.left kM (xM.inG (.inr (.inl rfl)) fun i hi => hi.2)
    have hfM : cellsAt M h.next 16 3 = some (.agg #[.int .i64 x.f.err, .int .i64 x.f.index, op]) := by
      rw [cellsAt_row ((kM.get _ o0.lt (by omega)).trans o0.row) (Nat.le_of_ble_eq_true rfl)]; rfl
    simp -implicitDefEqProofs (disch:=first|omega|simp only [go_sem,Nat.reduceAdd]) only [go_sem,Int.reduceLT,Int.reduceLE,Int.reduceEq,reduceIte,true_and, P1.cell, hfM]
    refine ycall_ct (refFound_c P1.y k3) ?_
    rintro r N ⟨kN, rfl, yN⟩
    have P2 := P1.right kN (yN.inG (.inr (.inr rfl)) fun i hi => hi.2)
    simp -implicitDefEqProofs (disch:=first|omega|simp only [go_sem,Nat.reduceAdd]) only [go_sem,Int.reduceLT,Int.reduceLE,Int.reduceEq,reduceIte,true_and, eq_self, decide_true]
    exact ⟨_, rfl, by rw [hR]; exact ⟨rfl, C, _, _, _, _, _, _, _, _, _, _, _, P2, ok_found ok, last_found lk⟩⟩
  by_cases q5 : x.kind = 5
  · have q5' := eq_true q5
    simp -implicitDefEqProofs (disch:=first|omega|simp only [go_sem,Nat.reduceAdd]) only [go_sem,Int.reduceLT,Int.reduceLE,Int.reduceEq,reduceIte,true_and, q0, q1, q2, q3, q4, q5', P0.cell]
    refine ncall_ct (cloneC_c P0.x hr) ?_
    rintro r K1 ⟨rfl, hK1⟩
    have e1 : Ext K0 K1 := by rw [hK1]; exact Ext.push1 _ _
    have hK1n : K1.next = K0.next + 1 := by rw [hK1]; rfl
    have gC : K1.get K0.next = some (.row (clL c uc ua ur uw uv) 0 false) := by rw [hK1]; exact get_push_same _ _
    have P1 := P0.ext e1
    simp -implicitDefEqProofs (disch:=first|omega|simp only [go_sem,Nat.reduceAdd]) only [go_sem,Int.reduceLT,Int.reduceLE,Int.reduceEq,reduceIte,true_and, XEnd, ptr_some]
    refine yr_26_8 rfl ?_
    simp -implicitDefEqProofs (disch:=first|omega|simp only [go_sem,Nat.reduceAdd]) only [go_sem,Int.reduceLT,Int.reduceLE,Int.reduceEq,reduceIte,true_and, g26_8, q26_8, P1.cell, P1.y.cell, bd_res99, bd_ans99]
    refine ycall_ct (answer_c (x := ⟨0, [], 99, 0⟩) (a := c.ses) (b := c.req) P1.x hr ok.tok (.nil _ _ _) (by decide)) ?_
    rintro r M ⟨kM, rfl, vv1, xM⟩
    have P2 := P1.left kM (xM.inG (.inr (.inl rfl)) fun i hi => by
      rcases hi with hi | hi
      · exact hi.2
      · exact freshG P1.g hi.1)
    have hMn := kM.next
    have st : storeAt M p 0 [.pointer (some ⟨K0.next, 0, none⟩)] = some (M.set p (.row [.pointer (some ⟨K0.next, 0, none⟩), .pointer (some ⟨W, 0, none⟩)] 0 false)) := by
      rw [store_cell rfl rfl (Nat.le_of_ble_eq_true rfl) rfl P2.row]
      rfl
    have stp : dStore Try.prog 30 (.pointer (some ⟨p, 0, none⟩)) (.pointer (some ⟨K0.next, 0, none⟩)) M = some (M.set p (.row [.pointer (some ⟨K0.next, 0, none⟩), .pointer (some ⟨W, 0, none⟩)] 0 false)) := (st_30 rfl).trans st
    simp -implicitDefEqProofs (disch:=first|omega|simp only [go_sem,Nat.reduceAdd]) only [go_sem,Int.reduceLT,Int.reduceLE,Int.reduceEq,reduceIte,true_and, stp]
    have kk : ∀ i, InG (fun i => i = p ∨ i = C ∨ i = W) K0 i → InG (fun i => i = p ∨ i = K0.next ∨ i = W) (M.set p (.row [.pointer (some ⟨K0.next, 0, none⟩), .pointer (some ⟨W, 0, none⟩)] 0 false)) i ∧ (M.set p (.row [.pointer (some ⟨K0.next, 0, none⟩), .pointer (some ⟨W, 0, none⟩)] 0 false)).get i = K0.get i := fun i hi => by
      have h1 := hi.1
      refine ⟨⟨by show i < M.next; omega, ?_⟩, ?_⟩
      · rintro (rfl | rfl | rfl)
        · exact hi.2 (.inl rfl)
        · omega
        · exact hi.2 (.inr (.inr rfl))
      · rw [get_set_other _ _ (fun e => hi.2 (.inl e)), kM.get i (by omega) (fun e => hi.2 (.inr (.inl e)))]
        exact e1.get i h1
    refine ⟨_, rfl, ?_⟩
    rw [hR]
    refine ⟨rfl, K0.next, c, uc, ua, ur, uw, uv, vc, va, vr, vw, vv, ⟨P2.e0.set (by omega), get_set_same _ _, ?_, ?_, by show h0.next ≤ p ∧ p < M.next ∧ _; omega⟩, ok, lk⟩
    · exact ⟨(get_set_other _ _ (by omega)).trans ((kM.get _ (by omega) (by omega)).trans gC), P0.x.tx.mono kk, P0.x.lv.mono kk, by show K0.next < M.next; omega, fun i hi => ⟨hi.1, fun e => hi.2 (.inr (.inl e))⟩⟩
    · exact ⟨(get_set_other _ _ (by omega)).trans ((kM.get _ (by omega) (by omega)).trans ((e1.get _ (by omega)).trans P0.y.row)), P0.y.tx.mono kk, P0.y.lv.mono kk, by show W < M.next; omega, fun i hi => ⟨hi.1, fun e => hi.2 (.inr (.inr e))⟩⟩
  simp -implicitDefEqProofs (disch:=first|omega|simp only [go_sem,Nat.reduceAdd]) only [go_sem,Int.reduceLT,Int.reduceLE,Int.reduceEq,reduceIte,true_and, q0, q1, q2, q3, q4, q5]
  exact ⟨_, rfl, by rw [hR]; exact ⟨rfl, C, c, _, _, _, _, _, _, _, _, _, _, P0, ok, lk⟩⟩
end Go.Proofs.Ytbdljpndncohaaa

namespace Go.Proofs.Ytbdljpndncohaaa
open Go.D
set_option maxRecDepth 100000

theorem ptr_some' {h : DHeap} {ox oy : Operand} {B : Nat} : dBinOp Try.prog .neq 30 ox oy (.pointer (some ⟨B, 0, none⟩)) (.pointer none) h = .ok (.value (.bool true)) h := by
  rfl
theorem bd_pairC {a b : Option Addr} : dBuild Try.prog 72 [(0, .pointer a), (1, .pointer b)] = some (.agg #[.pointer a, .pointer b]) := dBuild_at plc_72 rfl
/-- a call of a script, and where it lies -/
theorem op_idx2 {h : DHeap} {v : Value} {l : List OpC} {i : Nat} (hb : Arg rOpC h v l) (hi : i < l.length) :
    ∃ id o vc va vr vw vv vk vp, id < h.next ∧ dIndexAddr Try.prog 62 v (.int .i64 (i : Nat)) = some (.pointer (some ⟨id, o, none⟩)) ∧ cellsAt h id o 19 = some (.agg (opL l[i] vc va vr vw vv vk vp).toArray) ∧ TxV (InH h) h l[i].t vc va vr vw ∧ Arg fI64.rep h vv l[i].a.x.vs ∧ Arg fKey.rep h vk l[i].keys ∧ Arg fPair.rep h vp l[i].f.pairs := by
  obtain ⟨id, o, g, hs, hat⟩ := hb.idx (P := Try.prog) (t := 62) el_62 (k := .i64) (List.getElem?_eq_getElem hi)
  obtain ⟨cs, e1, e2⟩ := hat.load_agg
  obtain ⟨vc, va, vr, vw, vv, vk, vp, rfl, t, k1, k2, k3⟩ := op_in e2
  exact ⟨id, o, vc, va, vr, vw, vv, vk, vp, hs, g, e1, t, k1, k2, k3⟩
theorem last_cl0 {s r : Int} : LastOk (cl0 s r) := ⟨fun _ => rfl, by show (0 : Nat) ≤ 1048576; decide⟩
set_option maxHeartbeats 4000000 in
theorem doesLaw_c {h : DHeap} {v : Value} {l : List OpC} {s r : Int} (hb : Arg rOpC h v l) (hl : ∀ x ∈ l, OpLen x) (hln : l.length ≤ 1048576) :
    DC Try.prog 7 [.int .i64 s, .int .i64 r, v] h (.ret (.bool true)) h := by
  refine Ct.pure (go_7 (by simp) ?_) (vin_bool _)
  have el : ∀ K, dLen Try.prog #[62] v K = some (.int .i64 (l.length : Nat)) := hb.lens (P := Try.prog) (ts := #[62]) (t := 62) rfl isl_62
  have bf : (false != false) = false := rfl
  have bt : (true != true) = false := rfl
  simp -implicitDefEqProofs (disch:=first|omega|simp only [go_sem,Nat.reduceAdd]) only [go_sem,Int.reduceLT,Int.reduceLE,Int.reduceEq,reduceIte,true_and, c7]
  by_cases hn : newE s r = 0
  case neg =>
    refine ncall (new_bad hn) ?_
    simp -implicitDefEqProofs (disch:=first|omega|simp only [go_sem,Nat.reduceAdd]) only [go_sem,Int.reduceLT,Int.reduceLE,Int.reduceEq,reduceIte,true_and, XEnd]
    refine ncall (refNew_bad hn) ?_
    simp -implicitDefEqProofs (disch:=first|omega|simp only [go_sem,Nat.reduceAdd]) only [go_sem,Int.reduceLT,Int.reduceLE,Int.reduceEq,reduceIte,true_and, XEnd, ptr_nil', bin_boolneq, bf, dPick_t, dPick_f]
    refine ncall live_c ?_
    simp -implicitDefEqProofs (disch:=first|omega|simp only [go_sem,Nat.reduceAdd]) only [go_sem,Int.reduceLT,Int.reduceLE,Int.reduceEq,reduceIte,true_and, Bool.not_true, dPick_t, dPick_f]
    exact ⟨_, rfl, rfl, .refl _⟩
  refine ncall_ct (new_ok hn) ?_
  rintro rr G ⟨rfl, hG⟩
  have eG : Ext h G := by rw [hG]; exact Ext.push1 _ _
  have hGn : G.next = h.next + 1 := by rw [hG]; rfl
  have x0 : ClAt NoS G h.next (cl0 s r) nilV nilV nilV nilV nilV := by rw [hG]; exact cl0_at
  simp -implicitDefEqProofs (disch:=first|omega|simp only [go_sem,Nat.reduceAdd]) only [go_sem,Int.reduceLT,Int.reduceLE,Int.reduceEq,reduceIte,true_and, XEnd]
  refine ncall_ct (refNew_ok hn) ?_
  rintro rr G2 ⟨rfl, hG2⟩
  have eG2 : Ext G G2 := by rw [hG2]; exact Ext.push1 _ _
  have hG2n : G2.next = G.next + 1 := by rw [hG2]; rfl
  have y0 : ClAt NoS G2 G.next (cl0 s r) nilV nilV nilV nilV nilV := by rw [hG2]; exact cl0_at
  simp -implicitDefEqProofs (disch:=first|omega|simp only [go_sem,Nat.reduceAdd]) only [go_sem,Int.reduceLT,Int.reduceLE,Int.reduceEq,reduceIte,true_and, XEnd, ptr_some', bin_boolneq, bt, dPick_t, dPick_f]
  refine ncall live_c ?_
  obtain ⟨G3, hG3⟩ : ∃ G3, G3 = G2.push (.row [.pointer (some ⟨h.next, 0, none⟩), .pointer (some ⟨G.next, 0, none⟩)] 0 false) := ⟨_, rfl⟩
  have eG3 : Ext G2 G3 := by rw [hG3]; exact Ext.push1 _ _
  have hG3n : G3.next = G2.next + 1 := by rw [hG3]; rfl
  have gp : G3.get G2.next = some (.row [.pointer (some ⟨h.next, 0, none⟩), .pointer (some ⟨G.next, 0, none⟩)] 0 false) := by rw [hG3]; exact get_push_same _ _
  have P0 : PrAt h G3 G2.next h.next G.next (cl0 s r) (cl0 s r) nilV nilV nilV nilV nilV nilV nilV nilV nilV nilV :=
    ⟨(eG.trans eG2).trans eG3, gp, ((x0.ext eG2).ext eG3).inG (.inr (.inl rfl)) fun _ hi => hi.elim, (y0.ext eG3).inG (.inr (.inr rfl)) fun _ hi => hi.elim, by omega⟩
  simp -implicitDefEqProofs (disch:=first|omega|simp only [go_sem,Nat.reduceAdd]) only [go_sem,Int.reduceLT,Int.reduceLE,Int.reduceEq,reduceIte,true_and, Bool.not_true, dPick_t, dPick_f, bd_pairC, ← hG3, el]
  refine xloop (σ := Nat) (by kernel_rfl) (fun i s => s.df = [] ∧ s.rd = none ∧ s.fr 11 = some (.pointer (some ⟨G2.next, 0, none⟩)) ∧ s.fr 46 = some v ∧ s.fr 47 = some (.int .i64 (l.length : Nat)) ∧ s.fr 48 = some (.int .i64 (i : Nat)) ∧ i ≤ l.length ∧ ∃ C c uc ua ur uw uv vc va vr vw vv, PrAt h s.h G2.next C G.next c c uc ua ur uw uv vc va vr vw vv ∧ ClOk c ∧ LastOk c) (fun i => l.length - i) 0 ?_ ?_
  · simp -implicitDefEqProofs (disch:=first|omega|simp only [go_sem,Nat.reduceAdd]) only [go_sem,Int.reduceLT,Int.reduceLE,Int.reduceEq,reduceIte,true_and]
    exact ⟨rfl, Nat.zero_le _, _, _, _, _, _, _, _, _, _, _, _, _, P0, ok_cl0 hn, last_cl0⟩
  rintro i ⟨fr, df, K, rd⟩ K' hK' hX ⟨hdf, hrd, f11, f46, f47, f48, hi, C, c, uc, ua, ur, uw, uv, vc, va, vr, vw, vv, P, ok, lk⟩
  simp only at hdf hrd f11 f46 f47 f48 P
  subst hdf hrd
  simp -implicitDefEqProofs (disch:=first|omega|simp only [go_sem,Nat.reduceAdd]) only [go_sem,Int.reduceLT,Int.reduceLE,Int.reduceEq,reduceIte,true_and, f47, f48]
  refine XIf_dec (fun hc1 => ?_) (fun hc1 => ?_)
  · have hil : i < l.length := by omega
    have hw1 := wrap_succ hil (by omega)
    obtain ⟨id, o, oc, oa, or', ow, ov, ok', op, hid, hia, c19, tx, k1, k2, k3⟩ := op_idx2 hb hil
    have hol := hl _ (List.getElem_mem hil)
    obtain ⟨x, hx⟩ : ∃ x, l[i] = x := ⟨_, rfl⟩
    rw [hx] at c19 tx k1 k2 k3 hol
    have c19K : cellsAt K id o 19 = some (.agg (opL x oc oa or' ow ov ok' op).toArray) := by
      rw [← c19]
      unfold cellsAt
      rw [P.e0.get id hid]
    obtain ⟨K1, hK1⟩ : ∃ K1, K1 = K.push (.row (opL x oc oa or' ow ov ok' op) 0 false) := ⟨_, rfl⟩
    have sp : storeAt (K.push (.row opL0 0 false)) K.next 0 (opL x oc oa or' ow ov ok' op) = some K1 := by rw [hK1]; exact storeAll_push rfl (op_one tx k1 k2 k3)
    have e1 : Ext K K1 := by rw [hK1]; exact Ext.push1 _ _
    have cK : cellsAt K1 K.next 0 19 = some (.agg (opL x oc oa or' ow ov ok' op).toArray) := row_cells (by rw [hK1]; exact get_push_same _ _) rfl
    simp -implicitDefEqProofs (disch:=first|omega|simp only [go_sem,Nat.reduceAdd]) only [go_sem,Int.reduceLT,Int.reduceLE,Int.reduceEq,reduceIte,true_and, f11, f46, f48, hia, c19K, sp, cK]
    refine ncall_ct (does_c (P.ext e1) ok lk tx k1 k2 k3.cells1 hol) ?_
    rintro rr M ⟨rfl, C', c', uc', ua', ur', uw', uv', vc', va', vr', vw', vv', P', ok2, lk2⟩
    simp -implicitDefEqProofs (disch:=first|omega|simp only [go_sem,Nat.reduceAdd]) only [go_sem,Int.reduceLT,Int.reduceLE,Int.reduceEq,reduceIte,true_and, XEnd, Bool.not_true, dPick_t, dPick_f, f11]
    refine ncall (is_c P' ok2 lk2) ?_
    simp -implicitDefEqProofs (disch:=first|omega|simp only [go_sem,Nat.reduceAdd]) only [go_sem,Int.reduceLT,Int.reduceLE,Int.reduceEq,reduceIte,true_and, Bool.not_true, dPick_t, dPick_f, f48, hw1]
    refine hK' (i + 1) _ ?_ (by omega)
    exact ⟨by trivial, by trivial, (vy f11), (vy f46), (vy f47), vz, by omega, C', c', _, _, _, _, _, _, _, _, _, _, P', ok2, lk2⟩
  · refine hX _ _ (by simp) ?_
    simp -implicitDefEqProofs (disch:=first|omega|simp only [go_sem,Nat.reduceAdd]) only [go_sem,Int.reduceLT,Int.reduceLE,Int.reduceEq,reduceIte,true_and]
    exact ⟨_, rfl, rfl, P.e0⟩
end Go.Proofs.Ytbdljpndncohaaa

namespace Go.Proofs.Ytbdljpndncohaaa
open Go.D
set_option maxRecDepth 100000
theorem lay_ops : Lays Try.prog 62 (rSl rOpC) (sumB bulkOp) := .slice (e := 67) (by kernel_rfl) (by kernel_rfl) (by decide) lay_op
theorem par_ops : Par Try.prog 62 false := ⟨_, Try.underlying62, rfl⟩
theorem bulk_op {x : OpC} (h : bulkOp x ≤ 1048576) : OpLen x := by
  have h1 := bulk_txn x.t
  have h2 := sumB_len (fun _ => 1) x.a.x.vs
  have h3 := sumB_len (fun _ => 2) x.keys
  have e1 : bulkOp x = 3 + (bulkTxn x.t + (bulkAns x.a + (sumB (fun _ => 2) x.keys + bulkFnd x.f))) := rfl
  have e2 : bulkAns x.a = 2 + (3 + sumB (fun _ => 1) x.a.x.vs) := rfl
  exact ⟨txn_len (by omega), by omega, by omega⟩
theorem bulk_ops : ∀ {l : List OpC}, sumB bulkOp l ≤ 1048576 → ∀ x ∈ l, OpLen x
  | [], _, x, hx => by simp at hx
  | y :: l, h, x, hx => by
    have e : sumB bulkOp (y :: l) = max 1 (bulkOp y) + sumB bulkOp l := rfl
    rcases List.mem_cons.1 hx with rfl | hx
    · exact bulk_op (by omega)
    · exact bulk_ops (by omega) x hx
end Go.Proofs.Ytbdljpndncohaaa

namespace Go.Proofs.Ytbdljpndncohaaa.lawDoes
open Go.D
open Go.ChangeShapes Go.WideShapes Go.ChangeAt Go.RowKit
theorem own : ownKnob Try.prog.godebug = none := by kernel_rfl
set_option maxRecDepth 100000 in
theorem lifted (os : Os) (started : os.Started) (H : Type) (enc : TypeId × Value → H) (F : Stop.Interp) :
    ReturnsInHanded {} Try.checked os 7 .any ((Rows.OpenSpec.upto Rows.clientDoesSpec).pre6 enc Try.prog Try.f7 Rows.clientDoesUptoRow.domain false) (((Rows.OpenSpec.upto Rows.clientDoesSpec).at F).post enc Try.prog Try.f7 false true false false) := by
  refine returnsInHanded_of_cond (C := Try.checked) (s := Rows.OpenSpec.upto Rows.clientDoesSpec) (k := Rows.uptoSmall) rfl own started (by kernel_rfl) Try.func7
    (OpenSpec.witness (enc := enc) (C := Try.checked) (s := Rows.OpenSpec.upto Rows.clientDoesSpec) (k := Rows.uptoSmall) rfl false ⟨#[], #[.int .i64 0, .int .i64 0, .slice none 0 0], []⟩ 8 (by kernel_rfl) (by kernel_rfl) (by kernel_rfl)
      (x := ([.lit (.int .i64 0), .lit (.int .i64 0), .nil], [], [])) (by kernel_rfl) rfl (by kernel_rfl)) ?_
  intro W base args ds gs before hval hW _ hk _
  refine law_kept (by kernel_rfl)
    (.cons (agg := false) par_i64 lay_i64 (.cons (agg := false) par_int lay_int (.cons (agg := false) par_ops lay_ops .nil))) (tb := 4) (by kernel_rfl) (by kernel_rfl) rfl (fun ds hl => ?_) (fun h vs x hng hq hB => ?_) W base args ds gs before hval hW hk
  · match ds, hl with
    | [d0, d1, d2], _ => rfl
  · obtain ⟨cs, vs1, rfl, ⟨rfl, h1⟩, cs2, vs2, rfl, ⟨rfl, h2⟩, cs3, vs3, rfl, ⟨v, rfl, hv⟩, rfl⟩ := hq
    have := sumB_len bulkOp x.2.2.1
    exact (doesLaw_c hv (bulk_ops (by omega)) (by omega)).ct rfl
theorem p1 : Try.pinned.checked.prog.funcNamed Rows.clientDoesUptoRow.func = some 7 := by kernel_rfl
theorem p2 : joinedFacts Try.pinned.checked.prog 7 Try.f7 (Rows.OpenSpec.upto Rows.clientDoesSpec).bare Rows.clientDoesUptoRow = true := by kernel_rfl
theorem p3 : Try.f7.isInstance Try.pinned.checked.prog Rows.clientDoesUptoRow.origin Rows.clientDoesUptoRow.targs := of_decide_eq_true (by kernel_rfl)
theorem p4 : Try.f7.isWrapper Try.pinned.checked.prog Rows.clientDoesUptoRow.wrapper Rows.clientDoesUptoRow.mainSum := by unfold Func.isWrapper; first | (rw [if_pos (by decide +kernel)]; kernel_rfl) | (rw [if_neg (by decide +kernel)]; exact ⟨rfl, rfl⟩)
theorem proved : Rows.ClientDoesUptoSaid :=
  OpenClaim.holds_of_cond 7 Try.f7 rfl rfl rfl rfl rfl rfl rfl ⟨rfl, rfl, rfl, rfl, rfl⟩ rfl rfl rfl rfl rfl p1 Try.func7 p2 p3 p4
    (fun os started H enc _ F => lifted os started H enc F)
end Go.Proofs.Ytbdljpndncohaaa.lawDoes
