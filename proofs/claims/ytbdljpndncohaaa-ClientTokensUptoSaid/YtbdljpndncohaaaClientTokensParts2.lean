/-
A part of the proof of a law: contracts of functions over plain heaps, and what they lean on. Conditions: none.
-/
import Derived.Shelf.SlSortCmp.WholeK
import Derived.Test.YtbdljpndncohaaaBase1
import Derived.Test.YtbdljpndncohaaaBase2
import Derived.Test.YtbdljpndncohaaaClientTokensParts1
set_option linter.unusedSimpArgs false
set_option linter.unusedVariables false
namespace Go.D
variable {P : Program} {nt : Nat}

/-- one operation -/
def NOne (P : Program) (ops : Array Oper) (o : Oper) (s : St) (K : St → Prop) (Q : DExit → St → Prop) : Prop :=
  match dWanted ops s.fr o with
  | none => False
  | some false => K ⟨s.fr.put o.dst undef, s.df, s.h, s.rd⟩
  | some true => NNext P o s (dOp P (evalF s.h.ng s.fr) o s.h) K Q
theorem NOne_sound {ops : Array Oper} (hd : dstsOK nt ops = true) {k : Nat} {o : Oper} (ho : ops[k]? = some o) {s : St} {K : St → Prop} {Q : DExit → St → Prop} (h : NOne P ops o s K Q)
    {n : Nat} {r : Option Nat} {ι : Inj} {a : Act} {w : World} {Qc : Exit → Act → World → Prop} {Kw : Act → World → Prop} (hs : SRel nt ι s r a w)
    (hK : ∀ ι' s' a' w', K s' → HStep s.h s'.h → SRel nt ι' s' r a' w' → Step ι ι' s.h s'.h w w' → Kw a' w')
    (hQ : ∀ ι' e s' ex a' w', Q e s' → HStep s.h s'.h → ExitRel ι' e ex → SRel nt ι' s' r a' w' → Step ι ι' s.h s'.h w w' → Qc ex a' w') : wpOpIn (FW r) n P ops Qc k Kw a w := by
  have hdo : ∀ d, o.dst = some d → d < nt := fun d h => dstsOK_spec hd k o d ho h
  -- one operation that needs no call
  have one : XOps P ops [o] s (fun e s' => match e with | .normal => K s' | e => Q e s') → wpOpIn (FW r) n P ops Qc k Kw a w := by
    intro hx
    have hw0 := hx
    simp only [XOps] at hx
    have fin : ∀ (v : Value) (h1 : DHeap), Ex P ops o s.fr s.h (.ret v) h1 → isDefer o.op = false → K ⟨s.fr.put o.dst v, s.df, h1, s.rd⟩ → wpOpIn (FW r) n P ops Qc k Kw a w := by
      intro v h1 hex hnd hh
      refine Ex_sound hex ho hnd hs.sim hs.fr.1 (dstsOK_spec hd) (fun t _ u hu => hs.fr.2 t u hu) (fun u hu ι' v' w' hv s1 st => ?_) (fun u hu => by cases hu)
      cases hu
      exact hK ι' _ _ w' hh (Ex_hstep hex) ⟨put_rel (r := r) (w := w) (hs.fr.mono st.le) hdo hv, by rw [put_defers]; exact hs.df.mono st.le, s1, hs.rd.mono st.le⟩ st
    have finp : ∀ (v : Value) (h1 : DHeap), Ex P ops o s.fr s.h (.pan v) h1 → isDefer o.op = false → Q (.pan v) ⟨s.fr, s.df, h1, s.rd⟩ → wpOpIn (FW r) n P ops Qc k Kw a w := by
      intro v h1 hex hnd hh
      refine Ex_sound hex ho hnd hs.sim hs.fr.1 (dstsOK_spec hd) (fun t _ u hu => hs.fr.2 t u hu) (fun u hu => by cases hu) (fun u hu ι' v' w' hv s1 st => ?_)
      cases hu
      exact hQ ι' _ ⟨s.fr, s.df, h1, s.rd⟩ _ a w' hh (Ex_hstep hex) ⟨v', rfl, hv⟩ ⟨hs.fr.mono st.le, hs.df.mono st.le, s1, hs.rd.mono st.le⟩ st
    cases hw : dWanted ops s.fr o with
    | none => rw [hw] at hx; exact hx.elim
    | some b =>
      rw [hw] at hx
      cases b with
      | false =>
        simp only [XOps] at hx
        unfold wpOpIn
        rw [ho]
        have hw' := wanted_rel hs.fr.1 (dstsOK_spec hd) (fun t _ u hu => hs.fr.2 t u hu) hw
        simp only [hw', Bool.false_eq_true, if_false]
        exact ⟨fun _ _ => trivial, hK ι _ _ w hx (.refl _) ⟨put_rel (r := r) (w := w) hs.fr hdo (undef_rel ι), by rw [put_defers]; exact hs.df, hs.sim, hs.rd⟩ (Step.refl ι _ w)⟩
      | true =>
        simp only at hx
        have hexd : ∀ r h1, (match dOp P (evalF s.h.ng s.fr) o s.h with
            | .ok (.value v) h1' => r = .ret v ∧ h1 = h1'
            | .ok .skip h1' => r = .ret undef ∧ h1 = h1'
            | .ok (.enter f args) h1' => DC P f args h1' r h1
            | .ok (.round l size tmps assign body) h1' => DRd P l size tmps assign body h1' r h1
            | .pan v h1' => r = .pan v ∧ h1 = h1'
            | _ => False) → Ex P ops o s.fr s.h r h1 := by
          intro r h1 hh; unfold Ex; rw [hw]; exact hh
        have hnd : ∀ x h1, dOp P (evalF s.h.ng s.fr) o s.h = .ok x h1 → (∀ f gs, x ≠ .defer f gs) → isDefer o.op = false := by
          intro x h1 hop hne
          cases hod : o.op with
          | defer c =>
            exfalso
            unfold dOp at hop
            rw [hod] at hop
            simp only at hop
            repeat' split at hop
            all_goals first
              | (cases hop; done)
              | (cases hop; exact hne _ _ rfl)
          | _ => rfl
        cases hop : dOp P (evalF s.h.ng s.fr) o s.h with
        | bad => rw [hop] at hx; exact hx.elim
        | pan v h1 =>
          rw [hop] at hx
          refine finp v h1 (hexd _ _ (by rw [hop]; exact ⟨rfl, rfl⟩)) ?_ hx
          cases hod : o.op with
          | defer c =>
            exfalso
            unfold dOp at hop
            rw [hod] at hop
            simp only at hop
            repeat' split at hop
            all_goals cases hop
          | _ => rfl
        | ok x h1 =>
          rw [hop] at hx
          cases x with
          | value v => exact fin v h1 (hexd _ _ (by rw [hop]; exact ⟨rfl, rfl⟩)) (hnd _ _ hop (by simp)) hx
          | skip => exact fin undef h1 (hexd _ _ (by rw [hop]; exact ⟨rfl, rfl⟩)) (hnd _ _ hop (by simp)) hx
          | enter f args =>
            obtain ⟨r0, h2, hdc, hx⟩ := hx
            have hex := hexd r0 h2 (by rw [hop]; exact hdc)
            cases r0 with
            | ret v => exact fin v h2 hex (hnd _ _ hop (by simp)) hx
            | pan v => exact finp v h2 hex (hnd _ _ hop (by simp)) hx
          | round l size tmps assign body =>
            obtain ⟨r0, h2, hdc, hx⟩ := hx
            have hex := hexd r0 h2 (by rw [hop]; exact hdc)
            cases r0 with
            | ret v => exact fin v h2 hex (hnd _ _ hop (by simp)) hx
            | pan v => exact finp v h2 hex (hnd _ _ hop (by simp)) hx
          | recover => exact hx.elim
          | defer f args =>
            obtain ⟨hrd, hx⟩ := hx
            have hr : r = none := by
              have := hs.rd
              rw [hrd] at this
              cases r with
              | none => rfl
              | some _ => exact this.elim
            subst hr
            unfold wpOpIn
            rw [ho]
            have hw' := wanted_rel hs.fr.1 (dstsOK_spec hd) (fun t _ u hu => hs.fr.2 t u hu) hw
            simp only [hw', if_true]
            refine ⟨fun _ _ => trivial, ?_⟩
            have hsem : o.semAt (FW none).round a.eval = execOp a.eval o := rfl
            rw [hsem]
            obtain ⟨ι1, w1, x', hrun, hn, s1, st⟩ := dOp_ok hop hs.sim (evalF_rel (P := P) hs.sim (a := a) (ops := ops) (fun t _ u hu => hs.fr.2 t u hu))
            rw [hrun]
            cases x' with
            | defer d =>
              rw [Oper.uponIn_defer]
              obtain ⟨hg, cap, dargs, rfl, hargs⟩ := hn
              refine hK ι1 _ _ w1 hx (dOp_hstep hop) ⟨?_, ?_, s1, hs.rd.mono st.le⟩ st
              · exact put_rel (r := none) (w := w) (a := { a with defers := { target := .fn (.func f) cap, args := dargs } :: a.defers }) (hs.fr.mono st.le) hdo (undef_rel _)
              · rw [put_defers]
                exact ⟨⟨cap, dargs, rfl, hargs⟩, hs.df.mono st.le⟩
            | _ => exact hn.elim
  unfold NOne at h
  cases hw : dWanted ops s.fr o with
  | none => rw [hw] at h; exact h.elim
  | some b =>
    rw [hw] at h
    cases b with
    | false => exact one (by simp only [XOps, hw]; exact h)
    | true =>
      simp only at h
      by_cases hent : ∃ f args h1, dOp P (evalF s.h.ng s.fr) o s.h = .ok (.enter f args) h1
      · obtain ⟨f, args, h1, hop⟩ := hent
        rw [hop] at h
        obtain ⟨R, hct, hall⟩ := h
        have hnd : isDefer o.op = false := by
          cases hod : o.op with
          | defer c =>
            exfalso
            unfold dOp at hop
            rw [hod] at hop
            simp only at hop
            repeat' split at hop
            all_goals cases hop
          | _ => rfl
        unfold wpOpIn
        rw [ho]
        have hw' := wanted_rel hs.fr.1 (dstsOK_spec hd) (fun t _ u hu => hs.fr.2 t u hu) hw
        simp only [hw', if_true]
        refine ⟨fun _ _ => trivial, ?_⟩
        have hsem : o.semAt (FW r).round a.eval = execOp a.eval o := Oper.semAt_eq _ _ _ fun c hc => by rw [hc] at hnd; cases hnd
        rw [hsem]
        obtain ⟨ι1, w1, x', hrun, hn, s1, st⟩ := dOp_ok hop hs.sim (evalF_rel (P := P) hs.sim (a := a) (ops := ops) (fun t _ u hu => hs.fr.2 t u hu))
        rw [hrun]
        cases x' with
        | enter f' args' =>
          obtain ⟨rfl, hargs, _⟩ := hn
          rw [Oper.uponIn_enter]
          refine ⟨fun hh => absurd hh (by simp [FW]), ?_⟩
          have hc : CallsIn (FW r) (n - 1) P f' args' w1 fun e w' => ∃ ι' r h', R r h' ∧ HStep h1 h' ∧ EndRel ι' r e ∧ Sim ι' h' w' ∧ Step ι1 ι' h1 h' w1 w' := hct (n - 1) ι1 w1 args' s1 hargs
          refine CallsIn.mono hc fun e w2 ⟨ι2, r2, h2, hR, hh2, he, s2, st2⟩ => ?_
          have hx := hall r2 h2 hR
          cases r2 with
          | ret v =>
            cases e with
            | returned v' =>
              exact hK ι2 _ _ w2 hx ((dOp_hstep hop).trans hh2) ⟨put_rel (r := r) (w := w) ((hs.fr.mono st.le).mono st2.le) hdo he, by rw [put_defers]; exact (hs.df.mono st.le).mono st2.le, s2, (hs.rd.mono st.le).mono st2.le⟩ (st.trans st2)
            | _ => exact he.elim
          | pan v =>
            cases e with
            | panicked ch =>
              obtain ⟨v', rfl, hv⟩ := he
              exact hQ ι2 _ ⟨s.fr, s.df, h2, s.rd⟩ _ a w2 hx ((dOp_hstep hop).trans hh2) ⟨v', rfl, hv⟩ ⟨(hs.fr.mono st.le).mono st2.le, (hs.df.mono st.le).mono st2.le, s2, (hs.rd.mono st.le).mono st2.le⟩ (st.trans st2)
            | _ => exact he.elim
        | _ => exact hn.elim
      · by_cases hrnd : ∃ l size tmps x y h1, dOp P (evalF s.h.ng s.fr) o s.h = .ok (.round l size tmps x y) h1
        · obtain ⟨lid, size, tmps, cx, cy, h1, hop⟩ := hrnd
          rw [hop] at h
          obtain ⟨R, hct, hall⟩ := h
          have hnd : isDefer o.op = false := by
            cases hod : o.op with
            | defer c =>
              exfalso
              unfold dOp at hop
              rw [hod] at hop
              simp only at hop
              repeat' split at hop
              all_goals cases hop
            | _ => rfl
          unfold wpOpIn
          rw [ho]
          have hw' := wanted_rel hs.fr.1 (dstsOK_spec hd) (fun t _ u hu => hs.fr.2 t u hu) hw
          simp only [hw', if_true]
          refine ⟨fun _ _ => trivial, ?_⟩
          have hsem : o.semAt (FW r).round a.eval = execOp a.eval o := Oper.semAt_eq _ _ _ fun c hc => by rw [hc] at hnd; cases hnd
          rw [hsem]
          obtain ⟨ι1, w1, x', hrun, hn, s1, st⟩ := dOp_ok hop hs.sim (evalF_rel (P := P) hs.sim (a := a) (ops := ops) (fun t _ u hu => hs.fr.2 t u hu))
          rw [hrun]
          cases x' with
          | round l' f' tmps' assign' body' =>
            obtain ⟨⟨e0, he0, hsh, rfl⟩, hargs, rfl, rfl⟩ := hn
            rw [Oper.uponIn_round]
            refine ⟨fun hh => absurd hh (by simp [FW]), ?_⟩
            have hc : RoundIn (FW r) (n - 1) P e0.block f' tmps' assign' body' w1 fun e w' => ∃ ι' r h', R r h' ∧ HStep h1 h' ∧ EndRel ι' r e ∧ Sim ι' h' w' ∧ Step ι1 ι' h1 h' w1 w' := hct (n - 1) ι1 w1 tmps' e0 f' s1 he0 hsh hargs
            refine RoundIn.mono hc fun e w2 ⟨ι2, r2, h2, hR, hh2, he, s2, st2⟩ => ?_
            have hx := hall r2 h2 hR
            cases r2 with
            | ret v =>
              cases e with
              | returned v' =>
                exact hK ι2 _ _ w2 hx ((dOp_hstep hop).trans hh2) ⟨put_rel (r := r) (w := w) ((hs.fr.mono st.le).mono st2.le) hdo he, by rw [put_defers]; exact (hs.df.mono st.le).mono st2.le, s2, (hs.rd.mono st.le).mono st2.le⟩ (st.trans st2)
              | _ => exact he.elim
            | pan v =>
              cases e with
              | panicked ch =>
                obtain ⟨v', rfl, hv⟩ := he
                exact hQ ι2 _ ⟨s.fr, s.df, h2, s.rd⟩ _ a w2 hx ((dOp_hstep hop).trans hh2) ⟨v', rfl, hv⟩ ⟨(hs.fr.mono st.le).mono st2.le, (hs.df.mono st.le).mono st2.le, s2, (hs.rd.mono st.le).mono st2.le⟩ (st.trans st2)
              | _ => exact he.elim
          | _ => exact hn.elim
        · refine one ?_
          simp only [XOps, hw]
          generalize hop : dOp P (evalF s.h.ng s.fr) o s.h = x at h hent hrnd
          cases x with
          | ok y h1 =>
            cases y with
            | enter f args => exact absurd ⟨f, args, h1, rfl⟩ hent
            | value v => exact h
            | skip => exact h
            | defer f gs => exact h
            | round l z t a b => exact absurd ⟨l, z, t, a, b, h1, rfl⟩ hrnd
            | recover => exact h
          | pan v h1 => exact h
          | bad => exact h

/-- a region in any order: what holds when some operations have been done, whichever -/
theorem NC.any {id : Nat} {ops : Array Oper} {Q : DExit → St → Prop} {s : St} (hmix : P.follows .mixedOrders = true) (hd : dstsOK nt ops = true)
    (hlow : ∀ (i : Nat) o, ops[i]? = some o → ∀ p ∈ preds o, p < i)
    (I : (Nat → Bool) → St → Prop) (h0 : I (fun _ => false) s)
    (hstep : ∀ (L : Nat → Bool) (s : St) (i : Nat) (o : Oper), I L s → ops[i]? = some o → L i = false → (∀ p ∈ preds o, L p = true) → NOne P ops o s (I fun j => if j = i then true else L j) Q)
    (hfin : ∀ (L : Nat → Bool) (s : St), I L s → (∀ i, i < ops.size → L i = true) → Q .normal s) : NC P nt (.region id ops true) Q s := by
  intro n r ι0 a0 w0 hs0
  refine wpIn_region_any hmix ?_
  have key : ∀ (fuel : Nat) (L : Array Bool) (s' : St) (ι : Inj) (a : Act) (w : World), unwaited L ops.size ≤ fuel → L.size = ops.size → I (fun j => L.getD j false) s' → HStep s.h s'.h → SRel nt ι s' r a w → Step ι0 ι s.h s'.h w0 w →
      wpAnyIn (FW r) n P .any ops (fun ex a' w' => ∃ ι' e s', Q e s' ∧ HStep s.h s'.h ∧ ExitRel ι' e ex ∧ SRel nt ι' s' r a' w' ∧ Step ι0 ι' s.h s'.h w0 w') fuel L a w := by
    have fin : ∀ (L : Array Bool) (s' : St) (ι : Inj) (a : Act) (w : World), L.size = ops.size → I (fun j => L.getD j false) s' → HStep s.h s'.h → SRel nt ι s' r a w → Step ι0 ι s.h s'.h w0 w → Region.ready .any ops L = [] →
        ∃ ι' e s', Q e s' ∧ HStep s.h s'.h ∧ ExitRel ι' e .normal ∧ SRel nt ι' s' r a w ∧ Step ι0 ι' s.h s'.h w0 w := by
      intro L s' ι a w hL hI hh hs hst hr
      have hfull : ∀ i, i < ops.size → L.getD i false = true := by
        intro i
        induction i using Nat.strongRecOn with
        | _ i ih =>
          intro hi
          cases hLi : L.getD i false with
          | true => rfl
          | false =>
            exfalso
            have : i ∈ Region.ready .any ops L := mem_ready.2 ⟨by rw [getD_ft (by rw [hL]; exact hi)]; exact hLi, ops[i], Array.getElem?_eq_getElem hi, fun e he hb => ?_⟩
            · rw [hr] at this; cases this
            · have hpm : e.on ∈ preds ops[i] := List.mem_filterMap.2 ⟨e, by simpa using he, by rw [if_pos hb]⟩
              have hlt := hlow i _ (Array.getElem?_eq_getElem hi) _ hpm
              exact ih e.on hlt (by omega)
      exact ⟨ι, .normal, s', hfin _ _ hI hfull, hh, trivial, hs, hst⟩
    intro fuel
    induction fuel with
    | zero =>
      intro L s' ι a w hu hL hI hh hs hst
      have hr : Region.ready .any ops L = [] := by
        rw [List.eq_nil_iff_forall_not_mem]
        intro i hi
        obtain ⟨h1, o, h2, _⟩ := mem_ready.1 hi
        have := unwaited_zero (l := L) ops.size (by omega) i (Array.getElem?_eq_some_iff.1 h2).1
        rw [h1] at this; cases this
      exact ⟨hr, fin L s' ι a w hL hI hh hs hst hr⟩
    | succ fuel ih =>
      intro L s' ι a w hu hL hI hh hs hst
      refine ⟨fin L s' ι a w hL hI hh hs hst, fun i hi => ?_⟩
      obtain ⟨h1, o, ho, h2⟩ := mem_ready.1 hi
      have his : i < ops.size := (Array.getElem?_eq_some_iff.1 ho).1
      have hiL : i < L.size := by rw [hL]; exact his
      have hn : L.getD i false = false := by rw [← getD_ft hiL]; exact h1
      have hp : ∀ p ∈ preds o, L.getD p false = true := by
        intro p hp
        obtain ⟨e, he, hh⟩ := List.mem_filterMap.1 hp
        split at hh
        · rename_i hb; cases hh; exact h2 e (by simpa using he) hb
        · cases hh
      have hun := unwaited_set hiL h1 ops.size
      rw [if_pos his] at hun
      refine NOne_sound hd ho (hstep _ s' i o hI ho hn hp) hs (fun ι' s2 a' w' hI2 g1 g2 g3 => ?_) (fun ι' e s2 ex a' w' hq g1 g2 g3 g4 => ⟨ι', e, s2, hq, hh.trans g1, g2, g3, hst.trans g4⟩)
      refine ih _ s2 ι' a' w' (by omega) (by simpa using hL) ?_ (hh.trans g1) g2 (hst.trans g3)
      have : (fun j => (L.setIfInBounds i true).getD j false) = fun j => if j = i then true else L.getD j false := by
        funext j
        exact getD_set_b hiL
      rw [this]
      exact hI2
  have hg : ∀ j, (Array.replicate ops.size false).getD j false = false := by
    intro j; simp only [Array.getD_eq_getD_getElem?, Array.getElem?_replicate]; split <;> rfl
  refine key ops.size _ s ι0 a0 _ ?_ (by simp) ?_ (.refl _) ⟨hs0.fr, hs0.df, hs0.sim.drew _, hs0.rd⟩ (Step.drew ι0 s.h w0 _ (Nat.le_succ _))
  · have : ∀ k, k ≤ ops.size → unwaited (Array.replicate ops.size false) k ≤ k := by
      intro k; induction k with
      | zero => intro _; exact Nat.le_refl _
      | succ k ih => intro hk; have := ih (Nat.le_of_lt hk); simp only [unwaited]; split <;> omega
    exact this _ (Nat.le_refl _)
  · have : (fun j => (Array.replicate ops.size false).getD j false) = fun _ => false := by funext j; exact hg j
    rw [this]
    exact h0
def lowOK (ops : Array Oper) : Bool := (List.range ops.size).all fun i => match ops[i]? with | some o => (preds o).all (fun p => decide (p < i)) | none => true
theorem lowOK_spec {ops : Array Oper} (h : lowOK ops = true) : ∀ (i : Nat) o, ops[i]? = some o → ∀ p ∈ preds o, p < i := by
  intro i o ho p hp
  have hi := (Array.getElem?_eq_some_iff.1 ho).1
  have := List.all_eq_true.1 h i (List.mem_range.2 hi)
  rw [ho] at this
  simpa using List.all_eq_true.1 this p hp
/-- a region in any order: a fact for each operation that has been done, and what holds always. 'b' is what comes before each operation in every order. -/
theorem NC.anyF {id : Nat} {ops : Array Oper} {b : List Nat} {Q : DExit → St → Prop} {s : St} (hmix : P.follows .mixedOrders = true) (hd : dstsOK nt ops = true) (hlow : lowOK ops = true) (hb : befs ops.toList [] = b)
    (G : St → Prop) (F : Nat → St → Prop) (h0 : G s)
    (hstep : ∀ (i : Nat) (o : Oper) (s : St), ops[i]? = some o → G s → (∀ j, (b.getD i 0).testBit j = true → F j s) →
      NOne P ops o s (fun s' => G s' ∧ F i s' ∧ ∀ j, j < ops.size → j ≠ i → (b.getD j 0).testBit i = false → F j s → F j s') Q)
    (hfin : ∀ s, G s → (∀ i, i < ops.size → F i s) → Q .normal s) : NC P nt (.region id ops true) Q s := by
  subst hb
  refine NC.any hmix hd (lowOK_spec hlow) (fun L s => G s ∧ (∀ i, L i = true → i < ops.size) ∧ (∀ (i : Nat) o, L i = true → ops[i]? = some o → ∀ p ∈ preds o, L p = true) ∧ ∀ i, L i = true → F i s) ⟨h0, by simp, by simp, by simp⟩ ?_ (fun L s hI hall => hfin s hI.1 fun i hi => hI.2.2.2 i (hall i hi))
  rintro L s i o ⟨hG, hsz, hdn, hF⟩ ho hn hp
  have hi := (Array.getElem?_eq_some_iff.1 ho).1
  have hcl : ∀ (k : Nat) o, ops[k]? = some o → (∀ p ∈ preds o, L p = true) → ∀ j, ((befs ops.toList []).getD k 0).testBit j = true → L j = true := fun k o ho hp j hj =>
    bef_closed (D := fun j => L j = true) (fun i o hi ho p hp => hdn i o hi ho p hp) k o ho hp j hj
  have hx := hstep i o s ho hG fun j hj => hF j (hcl i o ho hp j hj)
  have fin : ∀ s', (G s' ∧ F i s' ∧ ∀ j, j < ops.size → j ≠ i → ((befs ops.toList []).getD j 0).testBit i = false → F j s → F j s') →
      (G s' ∧ (∀ j, (if j = i then true else L j) = true → j < ops.size) ∧ (∀ (j : Nat) o, (if j = i then true else L j) = true → ops[j]? = some o → ∀ p ∈ preds o, (if p = i then true else L p) = true) ∧ ∀ j, (if j = i then true else L j) = true → F j s') := by
    rintro s' ⟨g, f, st⟩
    refine ⟨g, fun j hj => ?_, fun j oj hj hoj p hpm => ?_, fun j hj => ?_⟩
    · by_cases hji : j = i
      · rw [hji]; exact hi
      · rw [if_neg hji] at hj; exact hsz j hj
    · by_cases hpi : p = i
      · rw [if_pos hpi]
      · rw [if_neg hpi]
        by_cases hji : j = i
        · subst hji; rw [ho] at hoj; cases hoj; exact hp p hpm
        · rw [if_neg hji] at hj; exact hdn j oj hj hoj p hpm
    · by_cases hji : j = i
      · rw [hji]; exact f
      · rw [if_neg hji] at hj
        refine st j (hsz j hj) hji ?_ (hF j hj)
        cases hbit : ((befs ops.toList []).getD j 0).testBit i with
        | false => rfl
        | true =>
          have hjs := hsz j hj
          have hoj := Array.getElem?_eq_getElem hjs
          have := hcl j _ hoj (hdn j _ hj hoj) i hbit
          rw [hn] at this
          cases this
  unfold NOne at hx ⊢
  cases hw : dWanted ops s.fr o with
  | none => rw [hw] at hx; exact hx.elim
  | some bb =>
    rw [hw] at hx
    cases bb with
    | false => exact fin _ hx
    | true => exact NNext_mono fin (fun _ _ h => h) hx
section
variable {ops : Array Oper} {o : Oper} {s : St} {K : St → Prop} {Q : DExit → St → Prop} {v : Value} {h' : DHeap}
theorem NOne_val (hw : dWanted ops s.fr o = some true) (hop : dOp P (evalF s.h.ng s.fr) o s.h = .ok (.value v) h') (hK : K ⟨s.fr.put o.dst v, s.df, h', s.rd⟩) : NOne P ops o s K Q := by
  unfold NOne
  rw [hw, hop]
  exact hK
theorem NOne_skip (hw : dWanted ops s.fr o = some true) (hop : dOp P (evalF s.h.ng s.fr) o s.h = .ok .skip h') (hK : K ⟨s.fr.put o.dst undef, s.df, h', s.rd⟩) : NOne P ops o s K Q := by
  unfold NOne
  rw [hw, hop]
  exact hK
theorem NOne_call {f : FuncId} {args : List Value} {R : DEnd → DHeap → Prop} (hw : dWanted ops s.fr o = some true) (hop : dOp P (evalF s.h.ng s.fr) o s.h = .ok (.enter f args) h') (hc : Ct P f args h' R) (hK : ∀ r h2, R r h2 → XEnd o s r h2 K Q) : NOne P ops o s K Q := by
  unfold NOne
  rw [hw, hop]
  exact ⟨R, hc, hK⟩
end
theorem NOne_strip (ops : Array Oper) (o : Oper) (s : St) (K : St → Prop) (Q : DExit → St → Prop) : NOne P (ops.map stripO) (stripO o) s K Q = NOne P ops o s K Q := by
  unfold NOne
  rw [dWanted_strip, dOp_strip]
  rfl
/-- the same, without the places -/
theorem NC.anyL {id : Nat} {ops : Array Oper} {l : List Oper} {b : List Nat} {Q : DExit → St → Prop} {s : St} (hmix : P.follows .mixedOrders = true) (hd : dstsOK nt ops = true) (hlow : lowOK ops = true) (hb : befs ops.toList [] = b) (hl : ops.map stripO = l.toArray)
    (G : St → Prop) (F : Nat → St → Prop) (h0 : G s)
    (hstep : ∀ (i : Nat) (o : Oper) (s : St), l[i]? = some o → G s → (∀ j, (b.getD i 0).testBit j = true → F j s) →
      NOne P l.toArray o s (fun s' => G s' ∧ F i s' ∧ ∀ j, j < l.length → j ≠ i → (b.getD j 0).testBit i = false → F j s → F j s') Q)
    (hfin : ∀ s, G s → (∀ i, i < l.length → F i s) → Q .normal s) : NC P nt (.region id ops true) Q s := by
  have hsz : ops.size = l.length := by
    have := congrArg Array.size hl
    simpa using this
  refine NC.anyF hmix hd hlow hb G F h0 (fun i o s ho g hF => ?_) (fun s g hF => hfin s g fun i hi => hF i (by omega))
  have ho' : l[i]? = some (stripO o) := by
    have := congrArg (fun a : Array Oper => a[i]?) hl
    simp only [Array.getElem?_map, ho, Option.map_some] at this
    simpa using this.symm
  have := hstep i (stripO o) s ho' g hF
  rw [← hl, NOne_strip] at this
  rw [hsz]
  exact this
end Go.D

namespace Go.D
variable {P : Program}

end Go.D

namespace Go.D
variable {P : Program} {nt : Nat}

def dstOf (l : List Oper) (i : Nat) : Option Tmp := (l[i]?).bind (·.dst)
def isDst (l : List Oper) (t : Tmp) : Bool := l.any fun o => o.dst == some t
/-- each operation has a name of its own -/
def ownDsts : List Oper → Bool
  | [] => true
  | o :: l => o.dst.isSome && !(l.any fun p => p.dst == o.dst) && ownDsts l
theorem ownDsts_ne : ∀ {l : List Oper}, ownDsts l = true → ∀ {i j : Nat} {a b : Oper}, l[i]? = some a → l[j]? = some b → i ≠ j → a.dst ≠ b.dst
  | [], _, i, _, _, _, h, _, _ => by cases i <;> cases h
  | o :: l, hd, i, j, a, b, ha, hb, hij => by
    simp only [ownDsts, Bool.and_eq_true, Bool.not_eq_true'] at hd
    obtain ⟨⟨h1, h2⟩, h3⟩ := hd
    have hno : ∀ {k : Nat} {c : Oper}, l[k]? = some c → c.dst ≠ o.dst := fun {k c} hc hcd => by
      have := List.any_eq_false.1 h2 c (List.mem_of_getElem? hc)
      simp [hcd] at this
    match i, j with
    | 0, 0 => exact absurd rfl hij
    | 0, j + 1 => cases ha; exact fun e => hno (by simpa using hb) e.symm
    | i + 1, 0 => cases hb; exact hno (by simpa using ha)
    | i + 1, j + 1 => exact ownDsts_ne h3 (i := i) (j := j) (by simpa using ha) (by simpa using hb) (by omega)
theorem ownDsts_some : ∀ {l : List Oper}, ownDsts l = true → ∀ {i : Nat} {a : Oper}, l[i]? = some a → ∃ d, a.dst = some d
  | [], _, i, _, h => by cases i <;> cases h
  | o :: l, hd, i, a, ha => by
    simp only [ownDsts, Bool.and_eq_true, Bool.not_eq_true'] at hd
    match i with
    | 0 => cases ha; exact Option.isSome_iff_exists.1 hd.1.1
    | i + 1 => exact ownDsts_some hd.2 (by simpa using ha)
/-- what holds of an operation's value -/
def ValAt (l : List Oper) (V : Nat → DHeap → Value → Prop) (i : Nat) (s : St) : Prop := ∃ d v, dstOf l i = some d ∧ s.fr d = some v ∧ V i s.h v
/-- what holds always -/
structure ValG (l : List Oper) (s0 s : St) : Prop where
  df : s.df = s0.df
  rd : s.rd = s0.rd
  ext : Ext s0.h s.h
  fr : ∀ t, isDst l t = false → s.fr t = s0.fr t
/-- the end of one operation -/
def ValK (V : Nat → DHeap → Value → Prop) (i : Nat) (o : Oper) (s s' : St) : Prop := ∃ v h', s' = ⟨s.fr.put o.dst v, s.df, h', s.rd⟩ ∧ Ext s.h h' ∧ V i h' v
theorem NC.vals {id : Nat} {ops : Array Oper} {l : List Oper} {b : List Nat} {Q : DExit → St → Prop} {s0 : St} (hmix : P.follows .mixedOrders = true) (hd : dstsOK nt ops = true) (hlow : lowOK ops = true) (hb : befs ops.toList [] = b) (hl : ops.map stripO = l.toArray) (hown : ownDsts l = true)
    (V : Nat → DHeap → Value → Prop) (hmono : ∀ i h h' v, Ext h h' → V i h v → V i h' v)
    (hstep : ∀ (i : Nat) (o : Oper) (s : St), l[i]? = some o → ValG l s0 s → (∀ j, (b.getD i 0).testBit j = true → ValAt l V j s) → NOne P l.toArray o s (ValK V i o s) Q)
    (hfin : ∀ s, ValG l s0 s → (∀ i, i < l.length → ValAt l V i s) → Q .normal s) : NC P nt (.region id ops true) Q s0 := by
  refine NC.anyL hmix hd hlow hb hl (ValG l s0) (ValAt l V) ⟨rfl, rfl, .refl _, fun _ _ => rfl⟩ (fun i o s ho g hF => ?_) hfin
  obtain ⟨d, hod⟩ := ownDsts_some hown ho
  have fin : ∀ s', ValK V i o s s' → ValG l s0 s' ∧ ValAt l V i s' ∧ ∀ j, j < l.length → j ≠ i → (b.getD j 0).testBit i = false → ValAt l V j s → ValAt l V j s' := by
    rintro _ ⟨v, h', rfl, he, hv⟩
    refine ⟨⟨g.df, g.rd, g.ext.trans he, fun t ht => ?_⟩, ⟨d, v, by simp [dstOf, ho, hod], by rw [hod]; exact put_same _ _ _, hv⟩, fun j hj hji _ hf => ?_⟩
    · have : t ≠ d := fun e => by
        have hc : isDst l t = true := List.any_eq_true.2 ⟨o, List.mem_of_getElem? ho, by rw [hod, e]; simp⟩
        rw [ht] at hc; cases hc
      show s.fr.put o.dst v t = _
      rw [hod, put_other _ _ this]
      exact g.fr t ht
    · obtain ⟨dj, u, e1, e2, e3⟩ := hf
      have hoj : l[j]? = some l[j] := List.getElem?_eq_getElem hj
      have e1' : l[j].dst = some dj := by simpa [dstOf, hoj] using e1
      have : dj ≠ d := fun e => ownDsts_ne hown hoj ho hji (by rw [e1', hod, e])
      refine ⟨dj, u, e1, ?_, hmono _ _ _ _ he e3⟩
      show s.fr.put o.dst v dj = _
      rw [hod, put_other _ _ this]
      exact e2
  have hx := hstep i o s ho g hF
  unfold NOne at hx ⊢
  cases hw : dWanted l.toArray s.fr o with
  | none => rw [hw] at hx; exact hx.elim
  | some bb =>
    rw [hw] at hx
    cases bb with
    | false => exact fin _ hx
    | true => exact NNext_mono fin (fun _ _ h => h) hx
/-- what an operation's value is, if it is known -/
theorem ValAt.eq {l : List Oper} {V : Nat → DHeap → Value → Prop} {i : Nat} {s : St} {d : Tmp} {c : Value} (a : ValAt l V i s) (hd : dstOf l i = some d) (hc : ∀ h v, V i h v → v = c) : s.fr d = some c := by
  obtain ⟨d', v, e1, e2, e3⟩ := a
  rw [hd] at e1
  cases e1
  rw [e2, hc _ _ e3]
theorem ValAt.ex {l : List Oper} {V : Nat → DHeap → Value → Prop} {i : Nat} {s : St} {d : Tmp} (a : ValAt l V i s) (hd : dstOf l i = some d) : ∃ v, s.fr d = some v ∧ V i s.h v := by
  obtain ⟨d', v, e1, e2, e3⟩ := a
  rw [hd] at e1
  cases e1
  exact ⟨v, e2, e3⟩
section
variable {ops : Array Oper} {o : Oper} {s : St} {V : Nat → DHeap → Value → Prop} {i : Nat} {Q : DExit → St → Prop} {v : Value} {h' : DHeap}
end
/-- a region all of whose values are known -/
theorem NC.known {id : Nat} {ops : Array Oper} {l : List Oper} {b : List Nat} {Q : DExit → St → Prop} {s0 : St} (L : List Value) (hmix : P.follows .mixedOrders = true) (hd : dstsOK nt ops = true) (hlow : lowOK ops = true) (hb : befs ops.toList [] = b) (hl : ops.map stripO = l.toArray) (hown : ownDsts l = true)
    (hstep : ∀ (i : Nat) (o : Oper) (s : St), l[i]? = some o → ValG l s0 s → (∀ j, (b.getD i 0).testBit j = true → ValAt l (fun i _ v => v = L.getD i undef) j s) → NOne P l.toArray o s (ValK (fun i _ v => v = L.getD i undef) i o s) Q)
    (hfin : ∀ s, ValG l s0 s → (∀ i, i < l.length → ValAt l (fun i _ v => v = L.getD i undef) i s) → Q .normal s) : NC P nt (.region id ops true) Q s0 :=
  NC.vals hmix hd hlow hb hl hown _ (fun _ _ _ _ _ h => h) hstep hfin
theorem setAt_mid (A : List Value) : ∀ (vs B : List Value) (k : Nat), setAt (A ++ B) (A.length + k) vs = A ++ setAt B k vs
  | [], B, k => rfl
  | v :: vs, B, k => by
    simp only [setAt]
    rw [List.set_append_right _ _ (Nat.le_add_right _ _), Nat.add_sub_cancel_left, Nat.add_assoc]
    exact setAt_mid A vs (B.set k v) (k + 1)
end Go.D

namespace Go.D
open Go.Sort Go.Proofs
variable {P : Program} {α : Type}

/-- the empty heap -/
def h00 : DHeap := ⟨fun _ => none, 0, 0⟩
theorem sim00 (w : World) : Sim (fun _ => none) h00 w where
  lt := fun _ _ h => (by cases h)
  blk := fun _ _ h => (by cases h)
  obj := fun _ _ h => (by cases h)
  sep := fun _ _ _ _ h => (by cases h)
  glob := fun g hg => absurd hg (Nat.not_lt_zero g)
/-- what is done without any block of one's own changes none -/
theorem grown_of {ι' : Inj} {h' : DHeap} {w w' : World} (st : Step (fun _ => none) ι' h00 h' w w') : ∃ q os', w' = grow (w.drewN q) os' := by
  refine ⟨w'.drawn - w.drawn, w'.heap.extract w.heap.size w'.heap.size, ?_⟩
  have hh : w'.heap = w.heap ++ w'.heap.extract w.heap.size w'.heap.size := by
    refine Array.ext_getElem? fun b => ?_
    rw [Array.getElem?_append]
    by_cases hb : b < w.heap.size
    · rw [if_pos hb]
      exact st.frame b hb fun id e he => by cases he
    · rw [if_neg hb, Array.getElem?_extract]
      have := st.size
      by_cases hb2 : b < w'.heap.size
      · rw [if_pos (by omega)]
        congr 1; omega
      · rw [Array.getElem?_eq_none (by omega), if_neg (by omega)]
  have h1 := st.os
  have h2 := st.tape
  have h3 := st.output
  have h4 := st.drawn
  obtain ⟨hp, tp, dr, o, out⟩ := w'
  simp only at hh h1 h2 h3 h4 ⊢
  subst h1 h2 h3
  rw [World.mk.injEq]
  refine ⟨hh, rfl, ?_, rfl, rfl⟩
  show dr = w.drawn + (dr - w.drawn)
  omega
theorem VRel.aggFlat {ι : Inj} {l : List Value} (h : l.all flat1 = true) : VRel ι (.agg l.toArray) (.agg l.toArray) :=
  .agg rfl fun i v v' a b => by
    rw [a] at b; cases b
    exact flat1_rel ι (list_all_get h (by simpa using a))
/-- a function of two values that have no blocks, as the library asks of what it sorts by -/
theorem cmpLays_of {g : Nat} {enc : α → List Value} {k : Nat} {cf : α → α → Int} [Inhabited α] (hflat : ∀ x, (enc x).all flat1 = true) (hdc : ∀ x y, DC P g [.agg (enc x).toArray, .agg (enc y).toArray] h00 (.ret (.int .i64 (cf x y))) h00) (blk off size : Nat) (w : World) :
    CmpLays P g #[] enc k cf blk off size w := by
  intro m os dk _ x y
  have := (hdc x y).2 0 (fun _ => none) (sortWorldK enc k w blk off m dk os) (#[.agg (enc x).toArray, .agg (enc y).toArray] ++ #[]) (sim00 _) (by
    simp only [Array.append_empty]
    exact ((LRel.nil _).cons (.aggFlat (hflat y))).cons (.aggFlat (hflat x)))
  refine Calls.mono (callsIn_wide.1 this) ?_
  rintro e w' ⟨ι', he, _, st⟩
  cases e with
  | returned v => cases he; exact ⟨rfl, grown_of st⟩
  | _ => exact he.elim
theorem flatMap_get {F : FRep α} [Inhabited α] : ∀ (l : List α) (i r : Nat), i < l.length → r < F.z → (l.flatMap F.enc)[i * F.z + r]? = (F.enc (l.toArray[i]!))[r]?
  | [], i, r, hi, _ => by simp at hi
  | x :: l, 0, r, _, hr => by
    rw [List.flatMap_cons, Nat.zero_mul, Nat.zero_add, List.getElem?_append_left (by rw [F.len]; exact hr)]
    rfl
  | x :: l, i + 1, r, hi, hr => by
    rw [List.flatMap_cons, Nat.succ_mul, List.getElem?_append_right (by rw [F.len]; omega), F.len, show i * F.z + F.z + r - F.z = i * F.z + r by omega]
    have := flatMap_get l i r (by simpa using hi) hr
    rw [this]
    simp
theorem flatK_list {F : FRep α} [Inhabited α] (l : List α) : flatK F.enc F.z l.toArray = (l.flatMap F.enc).toArray := by
  have hs : (flatK F.enc F.z l.toArray).size = (l.flatMap F.enc).toArray.size := by rw [size_flatK, List.size_toArray, List.size_toArray, flatMap_len]
  refine ext_get! hs fun t ht => ?_
  rw [size_flatK, List.size_toArray] at ht
  rw [get_flatK _ _ _ _ (by simpa using ht)]
  have hz : 0 < F.z := by
    rcases Nat.eq_zero_or_pos F.z with h | h
    · rw [h] at ht; simp at ht
    · exact h
  have h1 : t / F.z < l.length := (Nat.div_lt_iff_lt_mul hz).2 ht
  have h2 : t % F.z < F.z := Nat.mod_lt _ hz
  have := flatMap_get (F := F) l (t / F.z) (t % F.z) h1 h2
  rw [Nat.div_add_mod' t F.z] at this
  have h3 : t < (l.flatMap F.enc).length := by rw [flatMap_len]; exact ht
  obtain ⟨x, hx⟩ : ∃ x, l.toArray[t / F.z]! = x := ⟨_, rfl⟩
  rw [hx] at this ⊢
  have h4 : t % F.z < (F.enc x).length := by rw [F.len]; exact h2
  rw [List.getElem?_eq_getElem h3, List.getElem?_eq_getElem h4] at this
  rw [getElem!_pos (F.enc x) (t % F.z) h4, getElem!_pos (l.flatMap F.enc).toArray t (by simpa using h3)]
  simpa using (Option.some.inj this).symm
/-- a row of flat data, as the library has it -/
theorem holds_of {F : FRep α} [Inhabited α] {ι : Inj} {h : DHeap} {w : World} {id o : Nat} {e : Ent} {cells : List Value} {esz : Nat} {l : List α} (s : Sim ι h w) (he : ι id = some e) (hg : h.get id = some (.row cells esz false)) (hl : o + l.length * F.z ≤ cells.length)
    (hc : (cells.drop o).take (l.length * F.z) = l.flatMap F.enc) : HoldsK F.enc F.z w e.block (e.shift + o) l.toArray := by
  obtain ⟨_, _, cur, ty, fz, h3, h4, h5⟩ := s.row he hg
  obtain ⟨hsz, hlen, hfz⟩ := h5 rfl
  unfold HoldsK
  rw [flatK_list]
  intro j hj
  have hj2 : j < l.length * F.z := by rw [← flatMap_len]; simpa using hj
  have h6 : cells[o + j]? = (l.flatMap F.enc)[j]? := by
    rw [← hc, List.getElem?_take, if_pos hj2, List.getElem?_drop]
  have h7 : j < (l.flatMap F.enc).length := by simpa using hj
  rw [List.getElem?_eq_getElem h7] at h6
  obtain ⟨v', h8, h9⟩ := h4 _ _ h6
  have hfl := List.all_eq_true.1 (flatMap_flat F l) _ (List.getElem_mem h7)
  have h10 : v' = (l.flatMap F.enc)[j] := by
    unfold flat1 at hfl
    generalize (l.flatMap F.enc)[j] = x at hfl h9
    cases h9 <;> first | rfl | cases hfl
  constructor
  · simp only [World.cell?, h3]
    rw [getElem!_pos (l.flatMap F.enc).toArray j (by simpa using h7)]
    simp only [id_eq, List.getElem_toArray]
    rw [show e.shift + o + j = e.shift + (o + j) by omega, h8, h10]
    rfl
  · simp only [World.frozen?, h3]
    rw [Bool.and_eq_false_iff]
    simp only [decide_eq_false_iff_not]
    have := hfz (e.shift + o + j) (by omega)
    omega
/-- a row is written anew, and the world grows -/
theorem Sim.rewrite {ι : Inj} {h : DHeap} {w w' : World} {id : Nat} {e : Ent} {cells cells' : List Value} {esz : Nat} {cur cur' : Array Value} {ty : TypeId} {fz : Nat × Nat} (s : Sim ι h w) (he : ι id = some e) (hg : h.get id = some (.row cells esz false)) (hcur : w.heap[e.block]? = some (.cells cur ty fz)) (hcur' : w'.heap[e.block]? = some (.cells cur' ty fz)) (hsz : cur'.size = cur.size)
    (hrel : ∀ (i : Nat) v, cells'[i]? = some v → ∃ v', cur'[e.shift + i]? = some v' ∧ VRel ι v v') (hlen : cells'.length = cells.length) (hoth : ∀ b, b < w.heap.size → b ≠ e.block → w'.heap[b]? = w.heap[b]?) (hsize : w.heap.size ≤ w'.heap.size) (h1 : w'.os = w.os) (h2 : w'.tape = w.tape) (h3 : w'.output = w.output) (h4 : w.drawn ≤ w'.drawn) :
    Sim ι (h.set id (.row cells' esz false)) w' ∧ Step ι ι h (h.set id (.row cells' esz false)) w w' := by
  obtain ⟨hro, hez, cur0, ty0, fz0, k3, k4, k5⟩ := s.row he hg
  rw [hcur] at k3
  cases k3
  obtain ⟨l1, l2, l3⟩ := k5 rfl
  refine ⟨⟨s.lt, fun i x hx => Nat.lt_of_lt_of_le (s.blk i x hx) hsize, ?_, ?_, s.glob⟩, ⟨Inj.le_refl _, fun i x a b => (by rw [a] at b; cases b), Nat.le_refl _, rfl, h1, h2, h3, hsize, ?_, h4⟩⟩
  · intro id' e' h'
    simp only [DHeap.set]
    by_cases hid : id' = id
    · subst hid
      rw [he] at h'
      cases h'
      exact ⟨.row cells' esz false, by rw [if_pos rfl], hro, hez, cur', ty, fz, hcur', hrel, fun _ => ⟨by rw [hsz]; exact l1, by rw [hlen]; exact l2, l3⟩⟩
    · rw [if_neg hid]
      obtain ⟨o, a, b⟩ := s.obj _ _ h'
      by_cases hbl : e'.block = e.block
      · rcases s.sep id' id e' e h' he hid hbl with hd | hd | hd
        · rw [a] at hd; cases hd; exact ⟨_, a, b⟩
        · rw [hg] at hd; cases hd
        · rw [hro] at hd; cases hd.2
      · exact ⟨o, a, b.mono (Inj.le_refl _) (hoth _ (s.blk _ _ h') hbl)⟩
  · intro id1 id2 e1 e2 a b c d
    simp only [DHeap.set]
    rcases s.sep id1 id2 e1 e2 a b c d with hd | hd | hd
    · left
      rw [if_neg (fun hx => by subst hx; rw [hg] at hd; cases hd)]
      exact hd
    · right; left
      rw [if_neg (fun hx => by subst hx; rw [hg] at hd; cases hd)]
      exact hd
    · exact .inr (.inr hd)
  · intro b hb hx
    refine hoth b hb fun hbe => ?_
    have hy := hx id e he hbe.symm
    rw [hro] at hy; cases hy
theorem world_sorted {F : FRep α} [Inhabited α] {ι : Inj} {h : DHeap} {w : World} {id o : Nat} {e : Ent} {cells : List Value} {esz : Nat} (l' : List α) (m : Nat) (os : Array Obj) (s : Sim ι h w) (he : ι id = some e) (hg : h.get id = some (.row cells esz false)) (hl : o + l'.length * F.z ≤ cells.length) :
    Sim ι (h.set id (.row (setAt cells o (l'.flatMap F.enc)) esz false)) (sortWorldK F.enc F.z w e.block (e.shift + o) m l'.toArray os) ∧ Step ι ι h (h.set id (.row (setAt cells o (l'.flatMap F.enc)) esz false)) w (sortWorldK F.enc F.z w e.block (e.shift + o) m l'.toArray os) := by
  obtain ⟨_, _, cur, ty, fz, h3, h4, h5⟩ := s.row he hg
  obtain ⟨hsz, hlen, hfz⟩ := h5 rfl
  have hb := s.blk _ _ he
  have hlk : ∀ b, b < w.heap.size → (sortWorldK F.enc F.z w e.block (e.shift + o) m l'.toArray os).heap[b]? = (w.heap.modify e.block (onCells (putCells _root_.id (e.shift + o) (l'.flatMap F.enc).toArray)))[b]? := fun b hb => by
    show ((w.heap.modify e.block (onCells (putCells _root_.id (e.shift + o) (flatK F.enc F.z l'.toArray)))) ++ os)[b]? = _
    rw [Array.getElem?_append_left (by simpa using hb), flatK_list]
  refine s.rewrite (cur := cur) (cur' := putCells _root_.id (e.shift + o) (l'.flatMap F.enc).toArray cur) (ty := ty) (fz := fz) he hg h3 ?_ (by simp [putCells]) (fun i v hv => ?_) (setAt_length _ _ _) (fun b hb hne => ?_) ?_ rfl rfl rfl (Nat.le_add_right _ _)
  · rw [hlk _ hb, Array.getElem?_modify, if_pos rfl, h3]
    rfl
  · rw [setAt_get, flatMap_len] at hv
    simp only [putCells, Array.getElem?_mapIdx]
    by_cases hi : o ≤ i ∧ i < o + l'.length * F.z ∧ i < cells.length
    · rw [if_pos hi] at hv
      obtain ⟨u, hu, _⟩ := h4 i cells[i] (List.getElem?_eq_getElem hi.2.2)
      rw [hu]
      have h7 : i - o < (l'.flatMap F.enc).length := by rw [flatMap_len]; omega
      have hv2 := hv
      rw [List.getElem?_eq_getElem h7] at hv2
      refine ⟨v, ?_, flat1_rel ι (list_all_get (flatMap_flat F l') hv)⟩
      simp only [Option.map_some, id_eq]
      rw [if_pos ⟨by omega, by simp only [List.size_toArray, flatMap_len]; omega⟩, show e.shift + i - (e.shift + o) = i - o by omega, getElem!_pos (l'.flatMap F.enc).toArray (i - o) (by simpa using h7)]
      simpa using hv2
    · rw [if_neg hi] at hv
      obtain ⟨u, hu, hr⟩ := h4 i v hv
      have := (List.getElem?_eq_some_iff.1 hv).1
      rw [hu]
      refine ⟨u, ?_, hr⟩
      simp only [Option.map_some]
      rw [if_neg]
      simp only [List.size_toArray, flatMap_len]
      omega
  · rw [hlk b hb, Array.getElem?_modify, if_neg (fun hh => hne hh.symm)]
  · show _ ≤ ((w.heap.modify e.block (onCells (putCells _root_.id (e.shift + o) (flatK F.enc F.z l'.toArray)))) ++ os).size
    simp
/-- slices.SortFunc: a row of flat data, sorted -/
theorem sort_ct {F : FRep α} [Inhabited α] {ρ : Go.Shelf.Ren} {k : Nat} (hk : F.z = k) (L : SlLaysF0.n6 P ρ) (aE : ∀ w, (isAgg (ρ.t 24)).run P w = .ok true w) (zE : ∀ w, (Go.sizeOf (ρ.t 24)).run P w = .ok k w) {cf : α → α → Int} (hO : SWO (ltOf cf)) {g : Nat} (eg : ∀ args w, (callFunc g args).run P w = .ok (.enter g args) w)
    (hdc : ∀ x y, DC P g [.agg (F.enc x).toArray, .agg (F.enc y).toArray] h00 (.ret (.int .i64 (cf x y))) h00) {h : DHeap} {id o c : Nat} {cells : List Value} {l : List α} {esz : Nat} (hg : h.get id = some (.row cells esz false)) (h0 : 0 < l.length) (hl : o + l.length * F.z ≤ cells.length) (hc : (cells.drop o).take (l.length * F.z) = l.flatMap F.enc) (hsz : l.length < 4611686018427387904) :
    Ct P (ρ.f 6) [.slice (some ⟨id, o, none⟩) l.length c, .func (.func g) #[] #[]] h fun r h1 => r = .ret (.tuple #[]) ∧ ∃ l' : List α, l'.Perm l ∧ SortedIn (ltOf cf) 0 l.length l'.toArray ∧ h1 = h.set id (.row (setAt cells o (l'.flatMap F.enc)) esz false) := by
  subst hk
  intro n ι w args' s ha
  obtain ⟨a0, e0, r0⟩ := ha.get (i := 0) rfl
  obtain ⟨a1, e1, r1⟩ := ha.get (i := 1) rfl
  have hsz2 : args'.toList.length = 2 := ha.1.symm
  have hargs : args' = #[a0, a1] := by
    obtain ⟨L⟩ := args'
    match L, hsz2 with
    | [x, y], _ => simp at e0 e1; rw [e0, e1]
  cases r0 with
  | @slice _ _ _ _ cap' e a' he hl' hx ha' hb =>
  cases r1 with
  | func hf q1 q2 q3 q4 =>
  rename_i first' cap2
  obtain rfl : first' = #[] := by simpa using q1.symm
  obtain rfl : cap2 = #[] := by simpa using q3.symm
  obtain rfl := ha' (by omega)
  have hm := holds_of s he hg hl hc
  have hcalls := AnyQ.slices_SortFunc L F.z aE zE F.enc F.len (fun x v hv => flat1_one (List.all_eq_true.1 (F.flat x) v hv)) cf hO g #[] e.block (e.shift + o) cap' l.toArray w eg (cmpLays_of F.flat hdc _ _ _ _) hm (s.blk _ _ he) (by simpa using hsz)
  rw [hargs]
  refine callsIn_wide.2 (Calls.mono hcalls ?_)
  rintro en w' ⟨rfl, d', m, os, hp, hs, rfl⟩
  obtain ⟨p1, _, p3⟩ := hp
  have hd : d' = d'.toList.toArray := by simp
  have hlen : d'.toList.length = l.length := by simpa using p1
  have hperm : d'.toList.Perm l := by
    have e1 : (d'.extract 0 l.toArray.size).toList = d'.toList := by rw [← p1]; simp
    have e2 : (l.toArray.extract 0 l.toArray.size).toList = l := by simp
    rw [e1, e2] at p3
    exact p3
  obtain ⟨q5, q6⟩ := world_sorted (F := F) d'.toList m os s he hg (by rw [hlen]; exact hl)
  rw [hd]
  refine ⟨ι, .ret (.tuple #[]), _, ⟨rfl, d'.toList, hperm, ?_, rfl⟩, ⟨q6.next, q6.ng⟩, .tuple rfl (fun i v v' h1 => by simp at h1), q5, q6⟩
  simpa using hs
end Go.D

namespace Go.D
variable {P : Program} {nt : Nat}

/-- each name is given once -/
def onceDsts : List Oper → Bool
  | [] => true
  | o :: l => (o.dst.isNone || !(l.any fun p => p.dst == o.dst)) && onceDsts l
theorem onceDsts_ne : ∀ {l : List Oper}, onceDsts l = true → ∀ {i j : Nat} {a b : Oper} {t : Tmp}, l[i]? = some a → l[j]? = some b → a.dst = some t → b.dst = some t → i = j
  | [], _, i, _, _, _, _, h, _, _, _ => by cases i <;> cases h
  | o :: l, hd, i, j, a, b, t, ha, hb, h1, h2 => by
    simp only [onceDsts, Bool.and_eq_true, Bool.or_eq_true, Bool.not_eq_true'] at hd
    obtain ⟨h3, h4⟩ := hd
    have hno : ∀ {k : Nat} {c : Oper}, l[k]? = some c → o.dst = some t → c.dst = some t → False := fun {k c} hc ho hct => by
      rcases h3 with h3 | h3
      · rw [ho] at h3; cases h3
      · have := List.any_eq_false.1 h3 c (List.mem_of_getElem? hc)
        simp [hct, ho] at this
    match i, j with
    | 0, 0 => rfl
    | 0, j + 1 => cases ha; exact (hno (by simpa using hb) h1 h2).elim
    | i + 1, 0 => cases hb; exact (hno (by simpa using ha) h2 h1).elim
    | i + 1, j + 1 => exact congrArg (· + 1) (onceDsts_ne h4 (i := i) (j := j) (by simpa using ha) (by simpa using hb) h1 h2)
/-- what holds of an operation that has been done -/
def RegAt (l : List Oper) (V : Nat → DHeap → Value → Prop) (i : Nat) (s : St) : Prop := ∃ v, (∀ d, dstOf l i = some d → s.fr d = some v) ∧ V i s.h v
structure RegG (l : List Oper) (E : DHeap → DHeap → Prop) (s0 s : St) : Prop where
  df : s.df = s0.df
  rd : s.rd = s0.rd
  ext : E s0.h s.h
  fr : ∀ t, isDst l t = false → s.fr t = s0.fr t
def RegK (E : DHeap → DHeap → Prop) (V : Nat → DHeap → Value → Prop) (i : Nat) (o : Oper) (s s' : St) : Prop :=
  ∃ v h', s' = ⟨s.fr.put o.dst v, s.df, h', s.rd⟩ ∧ E s.h h' ∧ V i h' v ∧ ∀ j u, j ≠ i → V j s.h u → V j h' u
theorem NC.regs {id : Nat} {ops : Array Oper} {l : List Oper} {b : List Nat} {Q : DExit → St → Prop} {s0 : St} (hmix : P.follows .mixedOrders = true) (hd : dstsOK nt ops = true) (hlow : lowOK ops = true) (hb : befs ops.toList [] = b) (hl : ops.map stripO = l.toArray) (hown : onceDsts l = true)
    (E : DHeap → DHeap → Prop) (hrefl : ∀ h, E h h) (htrans : ∀ a b c, E a b → E b c → E a c) (V : Nat → DHeap → Value → Prop)
    (hstep : ∀ (i : Nat) (o : Oper) (s : St), l[i]? = some o → RegG l E s0 s → (∀ j t, dstOf l j = some t → (b.getD j 0).testBit i = true → s.fr t = s0.fr t) → (∀ t, dstOf l i = some t → s.fr t = s0.fr t) → (∀ j, (b.getD i 0).testBit j = true → RegAt l V j s) → NOne P l.toArray o s (RegK E V i o s) Q)
    (hfin : ∀ s, RegG l E s0 s → (∀ i, i < l.length → RegAt l V i s) → Q .normal s) : NC P nt (.region id ops true) Q s0 := by
  subst hb
  have hsz : ops.size = l.length := by
    have := congrArg Array.size hl
    simpa using this
  have hat : ∀ {i : Nat} {o : Oper}, ops[i]? = some o → l[i]? = some (stripO o) := fun {i o} ho => by
    have := congrArg (fun a : Array Oper => a[i]?) hl
    simp only [Array.getElem?_map, ho, Option.map_some] at this
    simpa using this.symm
  refine NC.any hmix hd (lowOK_spec hlow) (fun L s => RegG l E s0 s ∧ (∀ i, L i = true → i < ops.size) ∧ (∀ (i : Nat) o, L i = true → ops[i]? = some o → ∀ p ∈ preds o, L p = true) ∧ (∀ i, L i = true → RegAt l V i s) ∧ ∀ j t, dstOf l j = some t → L j = false → s.fr t = s0.fr t)
    ⟨⟨rfl, rfl, hrefl _, fun _ _ => rfl⟩, by simp, by simp, by simp, fun _ _ _ _ => rfl⟩ ?_ (fun L s hI hall => hfin s hI.1 fun i hi => hI.2.2.2.1 i (hall i (by omega)))
  rintro L s i o ⟨hG, hsz', hdn, hF, hpre⟩ ho hn hp
  have hi := (Array.getElem?_eq_some_iff.1 ho).1
  have hcl : ∀ (k : Nat) o, ops[k]? = some o → (∀ p ∈ preds o, L p = true) → ∀ j, ((befs ops.toList []).getD k 0).testBit j = true → L j = true := fun k o ho hp j hj =>
    bef_closed (D := fun j => L j = true) (fun i o hi ho p hp => hdn i o hi ho p hp) k o ho hp j hj
  have hx := hstep i (stripO o) s (hat ho) hG (fun j t hj hbit => hpre j t hj (by
    cases hL : L j with
    | false => rfl
    | true =>
      have hjs := hsz' j hL
      have hoj := Array.getElem?_eq_getElem hjs
      have := hcl j _ hoj (hdn j _ hL hoj) i hbit
      rw [hn] at this
      cases this)) (fun t ht => hpre i t ht hn) fun j hj => hF j (hcl i o ho hp j hj)
  have fin : ∀ s', RegK E V i (stripO o) s s' →
      (RegG l E s0 s' ∧ (∀ j, (if j = i then true else L j) = true → j < ops.size) ∧ (∀ (j : Nat) o, (if j = i then true else L j) = true → ops[j]? = some o → ∀ p ∈ preds o, (if p = i then true else L p) = true) ∧ (∀ j, (if j = i then true else L j) = true → RegAt l V j s') ∧ ∀ j t, dstOf l j = some t → (if j = i then true else L j) = false → s'.fr t = s0.fr t) := by
    rintro _ ⟨v, h', rfl, he, hv, hst⟩
    have hdst : dstOf l i = o.dst := by simp [dstOf, hat ho, stripO]
    have hput : ∀ t, o.dst ≠ some t → s.fr.put o.dst v t = s.fr t := fun t ht => by
      cases hod : o.dst with
      | none => rfl
      | some d => exact put_other _ _ (fun e => ht (by rw [hod, e]))
    refine ⟨⟨hG.df, hG.rd, htrans _ _ _ hG.ext he, fun t ht => ?_⟩, fun j hj => ?_, fun j oj hj hoj p hpm => ?_, fun j hj => ?_, fun j t hj hLj => ?_⟩
    · have : o.dst ≠ some t := fun e => by
        have hc : isDst l t = true := List.any_eq_true.2 ⟨stripO o, List.mem_of_getElem? (hat ho), by show (o.dst == some t) = true; rw [e]; simp⟩
        rw [ht] at hc; cases hc
      exact (hput t this).trans (hG.fr t ht)
    · by_cases hji : j = i
      · rw [hji]; exact hi
      · rw [if_neg hji] at hj; exact hsz' j hj
    · by_cases hpi : p = i
      · rw [if_pos hpi]
      · rw [if_neg hpi]
        by_cases hji : j = i
        · subst hji; rw [ho] at hoj; cases hoj; exact hp p hpm
        · rw [if_neg hji] at hj; exact hdn j oj hj hoj p hpm
    · by_cases hji : j = i
      · subst hji
        refine ⟨v, fun d hd => ?_, hv⟩
        rw [hdst] at hd
        show s.fr.put o.dst v d = _
        rw [hd]
        exact put_same _ _ _
      · rw [if_neg hji] at hj
        obtain ⟨u, h1, h2⟩ := hF j hj
        refine ⟨u, fun d hd => ?_, hst j u hji h2⟩
        have hne : o.dst ≠ some d := fun e => by
          have hjs := hsz' j hj
          have hoj := hat (Array.getElem?_eq_getElem hjs)
          have hd2 : (stripO ops[j]).dst = some d := by simpa [dstOf, hoj] using hd
          exact hji (onceDsts_ne hown hoj (hat ho) hd2 e)
        exact (hput d hne).trans (h1 d hd)
    · by_cases hji : j = i
      · rw [if_pos hji] at hLj; cases hLj
      · rw [if_neg hji] at hLj
        have hne : o.dst ≠ some t := fun e => by
          unfold dstOf at hj
          cases hlj : l[j]? with
          | none => rw [hlj] at hj; cases hj
          | some oj =>
            rw [hlj] at hj
            exact hji (onceDsts_ne hown hlj (hat ho) (by simpa using hj) e)
        exact (hput t hne).trans (hpre j t hj hLj)
  rw [← hl, NOne_strip] at hx
  unfold NOne at hx ⊢
  cases hw : dWanted ops s.fr o with
  | none => rw [hw] at hx; exact hx.elim
  | some bb =>
    rw [hw] at hx
    cases bb with
    | false => exact fin _ hx
    | true => exact NNext_mono fin (fun _ _ h => h) hx
theorem RegAt.eq {l : List Oper} {V : Nat → DHeap → Value → Prop} {i : Nat} {s : St} {d : Tmp} {c : Value} (a : RegAt l V i s) (hd : dstOf l i = some d) (hc : ∀ h v, V i h v → v = c) : s.fr d = some c := by
  obtain ⟨v, e2, e3⟩ := a
  rw [e2 d hd, hc _ _ e3]
theorem RegAt.ex {l : List Oper} {V : Nat → DHeap → Value → Prop} {i : Nat} {s : St} {d : Tmp} (a : RegAt l V i s) (hd : dstOf l i = some d) : ∃ v, s.fr d = some v ∧ V i s.h v := by
  obtain ⟨v, e2, e3⟩ := a
  exact ⟨v, e2 d hd, e3⟩
theorem RegAt.fact {l : List Oper} {V : Nat → DHeap → Value → Prop} {i : Nat} {s : St} (a : RegAt l V i s) : ∃ v, V i s.h v := by
  obtain ⟨v, _, e3⟩ := a
  exact ⟨v, e3⟩
section
variable {ops : Array Oper} {o : Oper} {s : St} {E : DHeap → DHeap → Prop} {V : Nat → DHeap → Value → Prop} {i : Nat} {Q : DExit → St → Prop} {v : Value} {h' : DHeap}
theorem reg_pure (hE : ∀ h, E h h) (hw : dWanted ops s.fr o = some true) (hop : dOp P (evalF s.h.ng s.fr) o s.h = .ok (.value v) s.h) (hV : V i s.h v) : NOne P ops o s (RegK E V i o s) Q :=
  NOne_val hw hop ⟨v, _, rfl, hE _, hV, fun _ _ _ h => h⟩
theorem reg_store (hw : dWanted ops s.fr o = some true) (hop : dOp P (evalF s.h.ng s.fr) o s.h = .ok .skip h') (he : E s.h h') (hV : V i h' undef) (hst : ∀ j u, j ≠ i → V j s.h u → V j h' u) : NOne P ops o s (RegK E V i o s) Q :=
  NOne_skip hw hop ⟨undef, _, rfl, he, hV, hst⟩
end
/-- arrays -/
def arrElem (P : Program) (t : TypeId) : Option (Nat × Nat) :=
  match P.underlying t with
  | some (.array len e) => (P.info? e).map fun i => (len, i.size)
  | _ => none
theorem dIndexAddr_arr {t : TypeId} {len z id o : Nat} {k : IntKind} {i : Int} (h1 : arrElem P t = some (len, z)) (h2 : 0 ≤ i) (h3 : i < (len : Int)) : dIndexAddr P t (.pointer (some ⟨id, o, none⟩)) (.int k i) = some (.pointer (some ⟨id, o + i.toNat * z, none⟩)) := by
  unfold arrElem at h1
  split at h1
  · rename_i e e1
    cases e2 : P.info? e with
    | none => rw [e2] at h1; cases h1
    | some inf =>
      rw [e2] at h1
      simp only [Option.map_some, Option.some.injEq, Prod.mk.injEq] at h1
      obtain ⟨rfl, rfl⟩ := h1
      simp only [dIndexAddr, e1, e2]
      rw [if_pos ⟨h2, h3⟩]
  · cases h1
end Go.D

namespace Go.D

structure Instr where
  pos : Int
  op : Int
  a : Int
  b : Int
  imm : Int
  deriving DecidableEq, Inhabited
def fInstr : FRep Instr := fM (fP (fI .i64) (fP (fI .i64) (fP (fI .i64) (fP (fI .i64) (fI .i64))))) (fun x => (x.pos, x.op, x.a, x.b, x.imm)) fun x y h => by
  cases x; cases y; simp at h; simp [h]
abbrev instrV (x : Instr) : Value := .agg #[.int .i64 x.pos, .int .i64 x.op, .int .i64 x.a, .int .i64 x.b, .int .i64 x.imm]
/-- a transaction -/
structure Txn where
  ses : Int
  req : Int
  code : List Int
  args : List Int
  reads : List Key
  writes : List Key
def rTxn : Rep Txn := rM (rP fI64.rep (rP fI64.rep (rP (rSl fU8.rep) (rP (rSl fI64.rep) (rP (rSl fKey.rep) (rSl fKey.rep)))))) fun x => (x.ses, x.req, x.code, x.args, x.reads, x.writes)
abbrev txnV (ses req : Int) (vc va vr vw : Value) : Value := .agg #[.int .i64 ses, .int .i64 req, vc, va, vr, vw]
end Go.D

namespace Go.D

/-- an answer -/
structure Ans where
  ses : Int
  req : Int
  x : Res
/-- what a query found -/
structure Fnd where
  err : Int
  index : Int
  pairs : List Pair
/-- a call of a session -/
structure OpC where
  kind : Int
  t : Txn
  rep : Int
  a : Ans
  own : Bool
  keys : List Key
  f : Fnd
def rAns : Rep Ans := rM (rP fI64.rep (rP fI64.rep rRes)) fun x => (x.ses, x.req, x.x)
def rFnd : Rep Fnd := rM (rP fI64.rep (rP fI64.rep (rSl fPair.rep))) fun x => (x.err, x.index, x.pairs)
def rOpC : Rep OpC := rM (rP fI64.rep (rP rTxn (rP fI64.rep (rP rAns (rP fB.rep (rP (rSl fKey.rep) rFnd)))))) fun x => (x.kind, x.t, x.rep, x.a, x.own, x.keys, x.f)
abbrev opL (x : OpC) (vc va vr vw vv vk vp : Value) : List Value :=
  [.int .i64 x.kind, .int .i64 x.t.ses, .int .i64 x.t.req, vc, va, vr, vw, .int .i64 x.rep, .int .i64 x.a.ses, .int .i64 x.a.req, .int .i64 x.a.x.e, vv, .int .i64 x.a.x.s, .int .i64 x.a.x.p, .bool x.own, vk, .int .i64 x.f.err, .int .i64 x.f.index, vp]
end Go.D

namespace Go.Proofs.Ytbdljpndncohaaa
open Go.D
set_option maxRecDepth 100000

def firstB (n : Int) : Bool := !decide (n = 0) && (!decide (n = 6) && (!decide (n = 22) && !decide (n = 25)))
def twoB (n : Int) : Bool := decide (7 ≤ n) && decide (n ≤ 18) || (decide (n = 20) || (decide (n = 21) || (decide (n = 26) || decide (n = 27))))
def jumpsB (n : Int) : Bool := decide (n = 22) || decide (n = 23)
def sizeI (n : Int) : Int := if n = 0 then 1 else if n = 6 ∨ n = 24 ∨ n = 25 then 2 else if n = 2 ∨ n = 3 ∨ n = 4 ∨ n = 5 ∨ n = 19 ∨ n = 22 then 3 else if n = 1 ∨ n = 23 ∨ n = 26 ∨ n = 27 then 4 else if 7 ≤ n ∧ n ≤ 21 then 3 else 0
def wideI (n : Int) : Int := sizeI n - 1 - (if firstB n then 1 else 0) - (if twoB n then 1 else 0)
theorem sizeI_le (n : Int) : 0 ≤ sizeI n ∧ sizeI n ≤ 4 := by
  unfold sizeI
  repeat' split
  all_goals omega
def indexE (x : Instr) : Int :=
  if firstB x.op && (decide (x.a < 0) || decide (8 ≤ x.a)) || twoB x.op && (decide (x.b < 0) || decide (8 ≤ x.b)) then 132
  else if decide (x.op = 19) && (!decide (x.imm = 8) && (!decide (x.imm = 16) && !decide (x.imm = 32))) then 132 else 0
end Go.Proofs.Ytbdljpndncohaaa

namespace Go.Proofs.Ytbdljpndncohaaa
open Go.D
set_option maxRecDepth 100000

abbrev zeroInstr : Instr := ⟨0, 0, 0, 0, 0⟩
/-- an instruction's number: of two bytes, with a sign, if it is a constant's -/
def immW (op w x y : Int) : Int := if w = 2 then (if op = 1 ∧ 32768 ≤ x + 256 * y then x + 256 * y - 65536 else x + 256 * y) else if 1 ≤ w then x else 0
def oneI (l : List Int) (i : Nat) : Instr :=
  let op := l.getD i 0
  let k2 := i + 1 + if firstB op then 1 else 0
  let k3 := k2 + if twoB op then 1 else 0
  ⟨i, op, if firstB op then l.getD (i + 1) 0 else 0, if twoB op then l.getD k2 0 else 0, immW op (wideI op) (l.getD k3 0) (l.getD (k3 + 1) 0)⟩
/-- the instruction at an address, where the next one is, what is wrong -/
def oneT (l : List Int) (i : Nat) : Instr × Int × Int :=
  if l.length ≤ i then (zeroInstr, 0, 130)
  else if sizeI (l.getD i 0) = 0 ∨ (l.length : Int) - i < sizeI (l.getD i 0) then (zeroInstr, 0, 130)
  else if indexE (oneI l i) = 0 then (oneI l i, i + sizeI (l.getD i 0), 0) else (zeroInstr, 0, indexE (oneI l i))
theorem byte_at {h : DHeap} {v : Value} {l : List Int} (hb : Arg fU8.rep h v l) {i : Nat} (hi : i < l.length) :
    ∃ id o, dIndexAddr Try.prog 22 v (.int .i64 (i : Nat)) = some (.pointer (some ⟨id, o, none⟩)) ∧ (∀ K, Ext h K → cellAt K id o = some (.int .u8 (l.getD i 0))) ∧ 0 ≤ l.getD i 0 ∧ l.getD i 0 ≤ 255 := by
  have hx : l[i]? = some l[i] := List.getElem?_eq_getElem hi
  have hgd : l.getD i 0 = l[i] := by rw [List.getD_eq_getElem?_getD, hx]; rfl
  obtain ⟨id, o, e1, hid, hat⟩ := hb.idx (P := Try.prog) (t := 22) el_22 (k := .i64) hx
  have hok := inK_u8.1 (hb.ok _ (List.getElem_mem hi))
  refine ⟨id, o, e1, fun K e => ?_, by rw [hgd]; exact hok.1, by rw [hgd]; exact hok.2⟩
  have := (hat.flat).1 0 (by decide)
  rw [Nat.add_zero] at this
  unfold cellAt at this ⊢
  rw [e.get _ hid, hgd]
  exact this
theorem size_split {n : Int} (h : sizeI n ≠ 0) : 0 ≤ wideI n ∧ wideI n ≤ 2 ∧ 0 ≤ n ∧ n < 28 := by
  have h1 : 0 ≤ n ∧ n < 28 := by
    unfold sizeI at h
    repeat' split at h
    all_goals omega
  obtain ⟨k, rfl⟩ : ∃ k : Nat, n = k := ⟨n.toNat, by omega⟩
  have : ∀ k : Nat, k < 28 → 0 ≤ wideI k ∧ wideI k ≤ 2 := by decide
  have := this k (by omega)
  omega
theorem res_i {fr : Fr} {K : DHeap} {a b c id : Nat} {x : Instr} {n e : Int} (f2 : fr a = some (.pointer (some ⟨id, 0, none⟩))) (f3 : fr b = some (.int .i64 n)) (f4 : fr c = some (.int .i64 e)) (hk : K.get id = some (.row (fInstr.enc x) 0 false)) :
    dResults Try.prog [.cell a 95, .tmp b, .tmp c] fr K = some (.tuple #[instrV x, .int .i64 n, .int .i64 e]) := by
  rw [dResults_d3, dRes1_cell, f2, dResC_some, dRes1_tmp, dRes1_tmp, f3, f4]
  have e1 : dLoad Try.prog 95 (.pointer (some ⟨id, 0, none⟩)) K = some (instrV x) := ld_95.trans (by rw [cellsAt_row hk (Nat.le_of_ble_eq_true rfl)]; rfl)
  rw [e1]
  rfl
theorem bd_instr0 : dBuild Try.prog 95 [] = some (instrV zeroInstr) := dBuild_at plc_95 rfl
theorem bd_instr2 {p o : Int} : dBuild Try.prog 95 [(0, .int .i64 p), (1, .int .i64 o)] = some (instrV ⟨p, o, 0, 0, 0⟩) := dBuild_at plc_95 rfl
theorem vin_one {S : Nat → Prop} {x : Instr} {n e : Int} : VIn S (.tuple #[instrV x, .int .i64 n, .int .i64 e]) := by
  refine .tuple fun v hv => ?_
  simp only [List.mem_toArray, List.mem_cons, List.not_mem_nil, or_false] at hv
  rcases hv with rfl | rfl | rfl
  · exact .agg fun v hv => by
      simp only [List.mem_toArray, List.mem_cons, List.not_mem_nil, or_false] at hv
      rcases hv with rfl | rfl | rfl | rfl | rfl <;> exact .int _ _
  · exact .int _ _
  · exact .int _ _
theorem store5_push {h : DHeap} {z : Nat} {a b c d e a' b' c' d' e' : Value} (hv : [a, b, c, d, e].all Value.oneCell' = true) : storeAt (h.push (.row [a', b', c', d', e'] z false)) h.next 0 [a, b, c, d, e] = some (h.push (.row [a, b, c, d, e] z false)) := storeAll_push rfl hv
end Go.Proofs.Ytbdljpndncohaaa

namespace Go.Proofs.Ytbdljpndncohaaa
open Go.D
set_option maxRecDepth 100000

def formL : List Int := [0, 9, 5, 5, 5, 5, 4, 3, 3, 3, 3, 3, 3, 3, 3, 3, 3, 3, 3, 5, 3, 3, 16, 17, 1, 4, 7, 7]
def andI (a b : Int) : Int := IntKind.i64.wrap (BitVec.ofInt IntKind.i64.bits a &&& BitVec.ofInt IntKind.i64.bits b).toNat
theorem bin_andI {P : Program} {t : TypeId} {ox oy : Operand} {a b : Int} {h : DHeap} : dBinOp P .and t ox oy (.int .i64 a) (.int .i64 b) h = .ok (.value (.int .i64 (andI a b))) h := bin_and
theorem ar_form : arrElem Try.prog 146 = some (28, 1) := by kernel_rfl
theorem ar_pair : arrElem Try.prog 144 = some (2, 1) := by kernel_rfl
theorem vin_nb {S : Nat → Prop} {n : Int} {b : Bool} : VIn S (.tuple #[.int .i64 n, .bool b]) := by
  refine .tuple fun v hv => ?_
  simp only [List.mem_toArray, List.mem_cons, List.not_mem_nil, or_false] at hv
  rcases hv with rfl | rfl
  · exact .int _ _
  · exact .bool _
abbrev formV : List Value := formL.map (.int .i64 ·)
theorem bd_form : dBuild Try.prog 146 [(0, .int .i64 0), (1, .int .i64 9), (2, .int .i64 5), (3, .int .i64 5), (4, .int .i64 5), (5, .int .i64 5), (6, .int .i64 4), (7, .int .i64 3), (8, .int .i64 3), (9, .int .i64 3), (10, .int .i64 3), (11, .int .i64 3), (12, .int .i64 3), (13, .int .i64 3), (14, .int .i64 3), (15, .int .i64 3), (16, .int .i64 3), (17, .int .i64 3), (18, .int .i64 3), (19, .int .i64 5), (20, .int .i64 3), (21, .int .i64 3), (22, .int .i64 16), (23, .int .i64 17), (24, .int .i64 1), (25, .int .i64 4), (26, .int .i64 7), (27, .int .i64 7)] = some (.agg formV.toArray) := by kernel_rfl
theorem form_c {h : DHeap} {n : Nat} : DC Try.prog 89 [.int .i64 (n : Nat)] h (.ret (.tuple #[.int .i64 (formL.getD n 0), .bool (decide (n < 28))])) h := by
  refine Ct.pure (go_89 (by simp) ?_) vin_nb
  have hst : ∀ cs : List Value, cs.length = 28 → storeAt (h.push (.row cs 1 false)) h.next 0 formV = some (h.push (.row formV 1 false)) := fun cs hl => storeAll_push (by rw [hl]; rfl) rfl
  have hs : ∀ K, dStore Try.prog 146 (.pointer (some ⟨h.next, 0, none⟩)) (.agg formV.toArray) K = storeAt K h.next 0 formV := fun K => st_146 rfl
  have hc : ∀ o, cellAt (h.push (.row formV 1 false)) h.next o = formV[o]? := fun o => cellAt_row (get_push_same _ _)
  have hneg : ¬ ((n : Nat) : Int) < 0 := by omega
  by_cases hn : (28 : Int) ≤ (n : Nat)
  · have hn' := eq_true hn
    simp -implicitDefEqProofs (disch := first | omega | (simp -implicitDefEqProofs only [go_sem, List.size_toArray, List.length_cons, List.length_nil, Nat.reduceAdd]; done)) only [go_sem, Int.reduceLT, Int.reduceLE, Int.reduceEq, reduceIte, true_and, Nat.zero_add, Nat.add_zero, Option.map_some, c89, bd_form, hs, hst, hneg, hn', dPick_t, dPick_f]
    refine ⟨_, rfl, ?_, Ext.push1 _ _⟩
    rw [decide_eq_false (by omega), List.getD_eq_getElem?_getD, List.getElem?_eq_none (by simp [formL]; omega)]
    rfl
  · have hia : dIndexAddr Try.prog 146 (.pointer (some ⟨h.next, 0, none⟩)) (.int .i64 (n : Nat)) = some (.pointer (some ⟨h.next, n, none⟩)) := by
      rw [dIndexAddr_arr ar_form (by omega) (by omega)]
      simp
    have hl : formV[n]? = some (.int .i64 (formL.getD n 0)) := by
      have h28 : n < formL.length := by simp [formL]; omega
      rw [List.getElem?_map, List.getElem?_eq_getElem h28, List.getD_eq_getElem?_getD, List.getElem?_eq_getElem h28]
      rfl
    simp -implicitDefEqProofs (disch := first | omega | (simp -implicitDefEqProofs only [go_sem, List.size_toArray, List.length_cons, List.length_nil, Nat.reduceAdd]; done)) only [go_sem, Int.reduceLT, Int.reduceLE, Int.reduceEq, reduceIte, true_and, Nat.zero_add, Nat.add_zero, Option.map_some, c89, bd_form, hs, hst, hneg, hn, dPick_t, dPick_f, hia, hc, hl]
    refine ⟨_, rfl, ?_, Ext.push1 _ _⟩
    rw [decide_eq_true (by omega)]
def masks : List (Int × Int) := [(1, 1), (2, 1), (4, 1), (8, 2), (16, 2)]
def sizeUp (f : Int) (l : List (Int × Int)) : Int := l.foldl (fun n x => if andI f x.1 = 0 then n else n + x.2) 1
theorem pairAt : ∀ i : Nat, i < 5 → dIndex Try.prog 145 (.agg #[.int .i64 1, .int .i64 1, .int .i64 2, .int .i64 1, .int .i64 4, .int .i64 1, .int .i64 8, .int .i64 2, .int .i64 16, .int .i64 2]) (.int .i64 (i : Nat)) = some (.agg #[.int .i64 (masks.getD i (0, 0)).1, .int .i64 (masks.getD i (0, 0)).2])
  | 0, _ => by kernel_rfl
  | 1, _ => by kernel_rfl
  | 2, _ => by kernel_rfl
  | 3, _ => by kernel_rfl
  | 4, _ => by kernel_rfl
theorem bd_pair {a b : Int} : dBuild Try.prog 144 [(0, .int .i64 a), (1, .int .i64 b)] = some (.agg #[.int .i64 a, .int .i64 b]) := by kernel_rfl
theorem bd_pairs : dBuild Try.prog 145 [(0, .agg #[.int .i64 1, .int .i64 1]), (1, .agg #[.int .i64 2, .int .i64 1]), (2, .agg #[.int .i64 4, .int .i64 1]), (3, .agg #[.int .i64 8, .int .i64 2]), (4, .agg #[.int .i64 16, .int .i64 2])] = some (.agg #[.int .i64 1, .int .i64 1, .int .i64 2, .int .i64 1, .int .i64 4, .int .i64 1, .int .i64 8, .int .i64 2, .int .i64 16, .int .i64 2]) := by kernel_rfl
theorem ia_pair {id k : Nat} (hk : k < 2) : dIndexAddr Try.prog 144 (.pointer (some ⟨id, 0, none⟩)) (.int .i64 (k : Nat)) = some (.pointer (some ⟨id, k, none⟩)) := by
  rw [dIndexAddr_arr ar_pair (by omega) (by omega)]
  simp
theorem sizeUp_succ {f : Int} {i : Nat} (hi : i < 5) : sizeUp f (masks.take (i + 1)) = if andI f (masks.getD i (0, 0)).1 = 0 then sizeUp f (masks.take i) else sizeUp f (masks.take i) + (masks.getD i (0, 0)).2 := by
  unfold sizeUp
  have hl : i < masks.length := hi
  rw [List.take_succ_eq_append_getElem hl, List.foldl_append, List.getD_eq_getElem?_getD, List.getElem?_eq_getElem hl]
  rfl
theorem sizeUp_le (f : Int) (i : Nat) : 1 ≤ sizeUp f (masks.take i) ∧ sizeUp f (masks.take i) ≤ 8 := by
  match i with
  | 0 => simp [sizeUp]
  | 1 => simp [sizeUp, masks]; split <;> omega
  | 2 => simp [sizeUp, masks]; repeat' split
         all_goals omega
  | 3 => simp [sizeUp, masks]; repeat' split
         all_goals omega
  | 4 => simp [sizeUp, masks]; repeat' split
         all_goals omega
  | i + 5 => simp [sizeUp, masks]; repeat' split
             all_goals omega
/-- an instruction's size, and whether there is one -/
def sizeC (n : Nat) : Int := if n < 28 then sizeUp (formL.getD n 0) masks else 0
theorem size_c {h : DHeap} {n : Nat} : DC Try.prog 88 [.int .i64 (n : Nat)] h (.ret (.tuple #[.int .i64 (sizeC n), .bool (decide (n < 28))])) h := by
  refine Ct.pure (go_88 (by simp) ?_) vin_nb
  simp -implicitDefEqProofs (disch := first | omega | (simp -implicitDefEqProofs only [go_sem, List.size_toArray, List.length_cons, List.length_nil, Nat.reduceAdd]; done)) only [go_sem, Int.reduceLT, Int.reduceLE, Int.reduceEq, reduceIte, true_and, Nat.zero_add, Nat.add_zero, Option.map_some, c88]
  refine ncall form_c ?_
  by_cases hn : n < 28
  case neg =>
    have hd := decide_eq_false hn
    simp -implicitDefEqProofs (disch := first | omega | (simp -implicitDefEqProofs only [go_sem, List.size_toArray, List.length_cons, List.length_nil, Nat.reduceAdd]; done)) only [go_sem, Int.reduceLT, Int.reduceLE, Int.reduceEq, reduceIte, true_and, Nat.zero_add, Nat.add_zero, Option.map_some, hd]
    exact ⟨_, rfl, by simp [sizeC, hn], .refl _⟩
  have hd := decide_eq_true hn
  obtain ⟨f, hf⟩ : ∃ f, formL.getD n 0 = f := ⟨_, rfl⟩
  rw [hf]
  simp -implicitDefEqProofs (disch := first | omega | (simp -implicitDefEqProofs only [go_sem, List.size_toArray, List.length_cons, List.length_nil, Nat.reduceAdd]; done)) only [go_sem, Int.reduceLT, Int.reduceLE, Int.reduceEq, reduceIte, true_and, Nat.zero_add, Nat.add_zero, Option.map_some, hd, bd_pair, bd_pairs]
  refine xloop (σ := Nat) (by kernel_rfl) (fun i s => s.df = [] ∧ s.fr 4 = some (.int .i64 f) ∧ s.fr 6 = some (.int .i64 (sizeUp f (masks.take i))) ∧ s.fr 21 = some (.agg #[.int .i64 1, .int .i64 1, .int .i64 2, .int .i64 1, .int .i64 4, .int .i64 1, .int .i64 8, .int .i64 2, .int .i64 16, .int .i64 2]) ∧ s.fr 22 = some (.int .i64 (i : Nat)) ∧ i ≤ 5 ∧ Ext h s.h) (fun i => 5 - i) 0 ?_ ?_
  · simp -implicitDefEqProofs (disch := first | omega | (simp -implicitDefEqProofs only [go_sem, List.size_toArray, List.length_cons, List.length_nil, Nat.reduceAdd]; done)) only [go_sem, Int.reduceLT, Int.reduceLE, Int.reduceEq, reduceIte, true_and, Nat.zero_add, Nat.add_zero, Option.map_some]
    exact ⟨rfl, rfl, Nat.zero_le _, .refl _⟩
  · rintro i ⟨fr, df, K, rd⟩ K' hK' hX ⟨rfl, f4, f6, f21, f22, hi, hE⟩
    simp only at f4 f6 f21 f22 hE
    simp -implicitDefEqProofs (disch := first | omega | (simp -implicitDefEqProofs only [go_sem, List.size_toArray, List.length_cons, List.length_nil, Nat.reduceAdd]; done)) only [go_sem, Int.reduceLT, Int.reduceLE, Int.reduceEq, reduceIte, true_and, Nat.zero_add, Nat.add_zero, Option.map_some, f22]
    refine XIf_dec (fun hc1 => ?_) (fun hc1 => ?_)
    · have hi5 : i < 5 := by omega
      have hx := pairAt i hi5
      have hsu := sizeUp_succ (f := f) hi5
      have hle := sizeUp_le f i
      have hle2 := sizeUp_le f (i + 1)
      obtain ⟨a, ha⟩ : ∃ a, (masks.getD i (0, 0)).1 = a := ⟨_, rfl⟩
      obtain ⟨b, hb⟩ : ∃ b, (masks.getD i (0, 0)).2 = b := ⟨_, rfl⟩
      rw [ha, hb] at hx hsu
      obtain ⟨K1, hK1⟩ : ∃ K1, K1 = K.push (.row [.int .i64 a, .int .i64 b] 1 false) := ⟨_, rfl⟩
      have g : K1.get K.next = some (.row [.int .i64 a, .int .i64 b] 1 false) := by rw [hK1]; exact get_push_same _ _
      have c0 : cellAt K1 K.next 0 = some (.int .i64 a) := cellAt_row g
      have c1 : cellAt K1 K.next 1 = some (.int .i64 b) := cellAt_row g
      have hst : storeAt (K.push (.row [.int .i64 0, .int .i64 0] 1 false)) K.next 0 [.int .i64 a, .int .i64 b] = some K1 := by rw [hK1]; exact storeAll_push rfl rfl
      have i0 : dIndexAddr Try.prog 144 (.pointer (some ⟨K.next, 0, none⟩)) (.int .i64 0) = some (.pointer (some ⟨K.next, 0, none⟩)) := ia_pair (id := K.next) (k := 0) (by decide)
      have i1 : dIndexAddr Try.prog 144 (.pointer (some ⟨K.next, 0, none⟩)) (.int .i64 1) = some (.pointer (some ⟨K.next, 1, none⟩)) := ia_pair (id := K.next) (k := 1) (by decide)
      have hE1 : Ext h K1 := by rw [hK1]; exact hE.push _
      have hw1 := wrap_succ hi5 (by omega)
      simp -implicitDefEqProofs (disch := first | omega | (simp -implicitDefEqProofs only [go_sem, List.size_toArray, List.length_cons, List.length_nil, Nat.reduceAdd]; done)) only [go_sem, Int.reduceLT, Int.reduceLE, Int.reduceEq, reduceIte, true_and, Nat.zero_add, Nat.add_zero, Option.map_some, f21, f22, hx, hst, f4, i0, c0, ↓bin_andI]
      by_cases hz : andI f a = 0
      · have hz' := eq_true hz
        rw [if_pos hz] at hsu
        simp -implicitDefEqProofs (disch := first | omega | (simp -implicitDefEqProofs only [go_sem, List.size_toArray, List.length_cons, List.length_nil, Nat.reduceAdd]; done)) only [go_sem, Int.reduceLT, Int.reduceLE, Int.reduceEq, reduceIte, true_and, Nat.zero_add, Nat.add_zero, Option.map_some, hz', f22, hw1]
        refine hK' (i + 1) _ ?_ (by omega)
        exact ⟨by trivial, by simp -implicitDefEqProofs (disch := first | omega | (simp -implicitDefEqProofs only [go_sem, List.size_toArray, List.length_cons, List.length_nil, Nat.reduceAdd]; done)) only [go_sem, Int.reduceLT, Int.reduceLE, Int.reduceEq, reduceIte, true_and, Nat.zero_add, Nat.add_zero, Option.map_some, f4], by rw [hsu]; simp -implicitDefEqProofs (disch := first | omega | (simp -implicitDefEqProofs only [go_sem, List.size_toArray, List.length_cons, List.length_nil, Nat.reduceAdd]; done)) only [go_sem, Int.reduceLT, Int.reduceLE, Int.reduceEq, reduceIte, true_and, Nat.zero_add, Nat.add_zero, Option.map_some, f6], by simp -implicitDefEqProofs (disch := first | omega | (simp -implicitDefEqProofs only [go_sem, List.size_toArray, List.length_cons, List.length_nil, Nat.reduceAdd]; done)) only [go_sem, Int.reduceLT, Int.reduceLE, Int.reduceEq, reduceIte, true_and, Nat.zero_add, Nat.add_zero, Option.map_some, f21], by simp -implicitDefEqProofs (disch := first | omega | (simp -implicitDefEqProofs only [go_sem, List.size_toArray, List.length_cons, List.length_nil, Nat.reduceAdd]; done)) only [go_sem, Int.reduceLT, Int.reduceLE, Int.reduceEq, reduceIte, true_and, Nat.zero_add, Nat.add_zero, Option.map_some], by omega, hE1⟩
      · rw [if_neg hz] at hsu
        have hwz : IntKind.i64.wrap (sizeUp f (masks.take i) + b) = sizeUp f (masks.take (i + 1)) := by rw [← hsu]; exact wrap_i64_in (by omega) (by omega)
        simp -implicitDefEqProofs (disch := first | omega | (simp -implicitDefEqProofs only [go_sem, List.size_toArray, List.length_cons, List.length_nil, Nat.reduceAdd]; done)) only [go_sem, Int.reduceLT, Int.reduceLE, Int.reduceEq, reduceIte, true_and, Nat.zero_add, Nat.add_zero, Option.map_some, hz, f22, f6, hw1, i1, c1, hwz]
        refine hK' (i + 1) _ ?_ (by omega)
        exact ⟨by trivial, by simp -implicitDefEqProofs (disch := first | omega | (simp -implicitDefEqProofs only [go_sem, List.size_toArray, List.length_cons, List.length_nil, Nat.reduceAdd]; done)) only [go_sem, Int.reduceLT, Int.reduceLE, Int.reduceEq, reduceIte, true_and, Nat.zero_add, Nat.add_zero, Option.map_some, f4], by simp -implicitDefEqProofs (disch := first | omega | (simp -implicitDefEqProofs only [go_sem, List.size_toArray, List.length_cons, List.length_nil, Nat.reduceAdd]; done)) only [go_sem, Int.reduceLT, Int.reduceLE, Int.reduceEq, reduceIte, true_and, Nat.zero_add, Nat.add_zero, Option.map_some], by simp -implicitDefEqProofs (disch := first | omega | (simp -implicitDefEqProofs only [go_sem, List.size_toArray, List.length_cons, List.length_nil, Nat.reduceAdd]; done)) only [go_sem, Int.reduceLT, Int.reduceLE, Int.reduceEq, reduceIte, true_and, Nat.zero_add, Nat.add_zero, Option.map_some, f21], by simp -implicitDefEqProofs (disch := first | omega | (simp -implicitDefEqProofs only [go_sem, List.size_toArray, List.length_cons, List.length_nil, Nat.reduceAdd]; done)) only [go_sem, Int.reduceLT, Int.reduceLE, Int.reduceEq, reduceIte, true_and, Nat.zero_add, Nat.add_zero, Option.map_some], by omega, hE1⟩
    · obtain rfl : i = 5 := by omega
      refine hX _ _ (by simp) ?_
      simp -implicitDefEqProofs (disch := first | omega | (simp -implicitDefEqProofs only [go_sem, List.size_toArray, List.length_cons, List.length_nil, Nat.reduceAdd]; done)) only [go_sem, Int.reduceLT, Int.reduceLE, Int.reduceEq, reduceIte, true_and, Nat.zero_add, Nat.add_zero, Option.map_some, f6]
      refine ⟨_, rfl, ?_, hE⟩
      rw [sizeC, if_pos hn, hf]
      rfl
end Go.Proofs.Ytbdljpndncohaaa

namespace Go.Proofs.Ytbdljpndncohaaa
open Go.D
set_option maxRecDepth 100000

def indexB (x : Instr) : Bool := decide (0 ≤ x.a) && (decide (x.a < 8) && (decide (0 ≤ x.b) && (decide (x.b < 8) && (!decide (x.op = 19) || (decide (x.imm = 8) || (decide (x.imm = 16) || decide (x.imm = 32)))))))
theorem index_c {h : DHeap} {x : Instr} : DC Try.prog 90 [instrV x] h (.ret (.bool (indexB x))) h := by
  obtain ⟨x1, x2, x3, x4, x5⟩ := x
  refine Ct.pure (go_90 (by simp) ?_) (vin_bool _)
  obtain ⟨H, hH⟩ : ∃ H, H = h.push (.row [.int .i64 x1, .int .i64 x2, .int .i64 x3, .int .i64 x4, .int .i64 x5] 0 false) := ⟨_, rfl⟩
  have hE : Ext h H := by rw [hH]; exact Ext.push1 _ _
  have g : H.get h.next = some (.row [.int .i64 x1, .int .i64 x2, .int .i64 x3, .int .i64 x4, .int .i64 x5] 0 false) := by rw [hH]; exact get_push_same _ _
  have a1 : cellAt H h.next 1 = some (.int .i64 x2) := cellAt_row g
  have a2 : cellAt H h.next 2 = some (.int .i64 x3) := cellAt_row g
  have a3 : cellAt H h.next 3 = some (.int .i64 x4) := cellAt_row g
  have a4 : cellAt H h.next 4 = some (.int .i64 x5) := cellAt_row g
  simp -implicitDefEqProofs (disch := first | omega | (simp -implicitDefEqProofs only [go_sem, List.size_toArray, List.length_cons, List.length_nil, Nat.reduceAdd]; done)) only [go_sem, Int.reduceLT, Int.reduceLE, Int.reduceEq, reduceIte, true_and, Nat.zero_add, Nat.add_zero, Option.map_some, c90, ← hH, a2]
  clear hH
  (repeat' first | (refine NStp_split (fun hb => ?_) (fun hb => ?_) <;> (try simp only [Bool.not_eq_true', Bool.not_eq_false'] at hb) <;> simp -implicitDefEqProofs (disch := first | omega | (simp -implicitDefEqProofs only [go_sem, List.size_toArray, List.length_cons, List.length_nil, Nat.reduceAdd]; done)) only [go_sem, Int.reduceLT, Int.reduceLE, Int.reduceEq, reduceIte, true_and, Nat.zero_add, Nat.add_zero, Option.map_some, dPick_t, dPick_f, hb, a1, a2, a3, a4]) | (refine XIf_split (fun hb => ?_) (fun hb => ?_) <;> (try simp only [Bool.not_eq_true', Bool.not_eq_false'] at hb) <;> simp -implicitDefEqProofs (disch := first | omega | (simp -implicitDefEqProofs only [go_sem, List.size_toArray, List.length_cons, List.length_nil, Nat.reduceAdd]; done)) only [go_sem, Int.reduceLT, Int.reduceLE, Int.reduceEq, reduceIte, true_and, Nat.zero_add, Nat.add_zero, Option.map_some, dPick_t, dPick_f, hb, a1, a2, a3, a4]))
  all_goals exact ⟨_, rfl, by simp_all [indexB] <;> omega, hE⟩
theorem dSlice_ext {P : Program} {t : TypeId} {α : Type} {R : Rep α} {h K : DHeap} {u : Value} {l : List α} {lo hi mx : Option Value} (hu : Arg R h u l) (e : Ext h K) : dSlice P t u lo hi mx K = dSlice P t u lo hi mx h := by
  rcases hu with ⟨rfl, rfl⟩ | ⟨id, o, c, cells, esz, ro, rfl, hid, _⟩
  · cases hd : P.underlying t with
    | none => simp only [dSlice, hd]
    | some d => cases d <;> simp only [dSlice, hd]
  · have hf : ∀ z, rowFits K id z = rowFits h id z := fun z => by unfold rowFits; rw [e.get _ hid]
    cases hd : P.underlying t with
    | none => simp only [dSlice, hd]
    | some d => cases d <;> simp only [dSlice, hd, hf]
/-- the rest of some bytes, behind the first -/
theorem rest_of {h : DHeap} {u : Value} {l : List Int} {k : Nat} (hu : Arg fU8.rep h u l) (hk : k ≤ l.length) : ∃ u', (∀ K, Ext h K → dSlice Try.prog 22 u (some (.int .i64 (k : Nat))) none none K = some u') ∧ Arg fU8.rep h u' (l.drop k) := by
  have hj : boundOf (none : Option Value) l.length l.length = some l.length := rfl
  obtain ⟨u', e1, e2⟩ := hu.slice (P := Try.prog) (t := 22) el_22 (by decide) hj (bound_nat (k := .i64) hk) hk (Nat.le_refl _)
  rw [List.take_length] at e2
  exact ⟨u', fun K e => (dSlice_ext hu e).trans e1, e2⟩
theorem part_of {h : DHeap} {u : Value} {l : List Int} {i j : Nat} (hu : Arg fU8.rep h u l) (hi : i ≤ j) (hj : j ≤ l.length) : ∃ u', (∀ K, Ext h K → dSlice Try.prog 22 u (some (.int .i64 (i : Nat))) (some (.int .i64 (j : Nat))) none K = some u') ∧ Arg fU8.rep h u' ((l.take j).drop i) := by
  obtain ⟨u', e1, e2⟩ := hu.slice (P := Try.prog) (t := 22) el_22 (by decide) (bound_nat (k := .i64) hj) (bound_nat (k := .i64) hi) hi hj
  exact ⟨u', fun K e => (dSlice_ext hu e).trans e1, e2⟩
theorem one_region0 {K0 K1 : DHeap} {u u' : Value} {id o B : Nat} {x : Int} {fr : Fr} {rd : Option Nat} (f9 : fr 9 = some (.pointer (some ⟨B, 0, none⟩))) (f12 : fr 12 = some u)
    (h1 : dIndexAddr Try.prog 22 u (.int .i64 0) = some (.pointer (some ⟨id, o, none⟩))) (c0 : cellAt K0 id o = some (.int .u8 x)) (c1 : cellAt K1 id o = some (.int .u8 x)) (hx : IntKind.i64.wrap x = x)
    (hs0 : dSlice Try.prog 22 u (some (.int .i64 1)) none none K0 = some u') (hs1 : dSlice Try.prog 22 u (some (.int .i64 1)) none none K1 = some u') (s0 : storeAt K0 B 2 [.int .i64 x] = some K1) (s1 : storeAt K1 B 2 [.int .i64 x] = some K1) :
    NC Try.prog 132 r70_0 (DThen (fun s => s.df = [] ∧ s.rd = rd ∧ s.h = K1 ∧ s.fr 12 = some u' ∧ s.fr 0 = fr 0 ∧ s.fr 1 = fr 1 ∧ s.fr 4 = fr 4 ∧ s.fr 7 = fr 7 ∧ s.fr 9 = fr 9 ∧ s.fr 10 = fr 10) (fun _ _ => False)) ⟨fr, [], K0, rd⟩ := by
  refine NC.regs (l := l70_0) (by kernel_rfl) (by kernel_rfl) (by kernel_rfl) rfl (by kernel_rfl) (by kernel_rfl) (fun a b => b = a ∨ b = K1) (fun _ => .inl rfl) (fun a b c h g => ?_) (fun i h v => (i = 7 → h = K1) ∧ (i ≠ 7 → v = ([u, .pointer (some ⟨id, o, none⟩), .int .u8 x, .int .i64 x, u, u', .pointer (some ⟨B, 2, none⟩), undef, u'] : List Value).getD i undef)) ?_ ?_
  · rcases g with rfl | rfl
    · exact h
    · exact .inr rfl
  case refine_3 =>
    rintro ⟨fr1, df1, K, rd1⟩ g hF
    obtain ⟨_, q7, _⟩ := (hF 7 (by decide)).fact
    have f8 := (hF 8 (by decide)).eq (d := 12) (c := u') rfl fun _ _ e => e.2 (by decide)
    exact ⟨g.df, g.rd, q7 rfl, f8, g.fr 0 (by kernel_rfl), g.fr 1 (by kernel_rfl), g.fr 4 (by kernel_rfl), g.fr 7 (by kernel_rfl), g.fr 9 (by kernel_rfl), g.fr 10 (by kernel_rfl)⟩
  intro i oo s ho g hpre hown hF
  have F9 : s.fr 9 = some (.pointer (some ⟨B, 0, none⟩)) := (g.fr 9 (by kernel_rfl)).trans f9
  have hi' : i < 9 := (List.getElem?_eq_some_iff.1 ho).1
  have hh : s.h = K0 ∨ s.h = K1 := g.ext
  have hc : cellAt s.h id o = some (.int .u8 x) := by rcases hh with e | e <;> rw [e] <;> assumption
  have hs : dSlice Try.prog 22 u (some (.int .i64 1)) none none s.h = some u' := by rcases hh with e | e <;> rw [e] <;> assumption
  match i, hi' with
  | 0, _ =>
    simp only [l70_0, List.getElem?_cons_zero, List.getElem?_cons_succ, Option.some.injEq] at ho
    subst ho
    have F12 : s.fr 12 = some u := (hpre 8 12 (by kernel_rfl) (by kernel_rfl)).trans f12
    exact reg_pure (v := u) (fun _ => .inl rfl) (by simp -implicitDefEqProofs (disch := first | omega | (simp -implicitDefEqProofs only [go_sem, List.size_toArray, List.length_cons, List.length_nil, Nat.reduceAdd]; done)) only [go_sem, Int.reduceLT, Int.reduceLE, Int.reduceEq, reduceIte, true_and, Nat.zero_add, Nat.add_zero, Option.map_some]) (by simp -implicitDefEqProofs (disch := first | omega | (simp -implicitDefEqProofs only [go_sem, List.size_toArray, List.length_cons, List.length_nil, Nat.reduceAdd]; done)) only [go_sem, Int.reduceLT, Int.reduceLE, Int.reduceEq, reduceIte, true_and, Nat.zero_add, Nat.add_zero, Option.map_some, F12]) ⟨fun e => absurd e (by decide), fun _ => rfl⟩
  | 1, _ =>
    simp only [l70_0, List.getElem?_cons_zero, List.getElem?_cons_succ, Option.some.injEq] at ho
    subst ho
    have f0 : s.fr 65 = some (u) := (hF 0 (by kernel_rfl)).eq rfl fun _ _ e => e.2 (by decide)
    exact reg_pure (v := .pointer (some ⟨id, o, none⟩)) (fun _ => .inl rfl) (by simp -implicitDefEqProofs (disch := first | omega | (simp -implicitDefEqProofs only [go_sem, List.size_toArray, List.length_cons, List.length_nil, Nat.reduceAdd]; done)) only [go_sem, Int.reduceLT, Int.reduceLE, Int.reduceEq, reduceIte, true_and, Nat.zero_add, Nat.add_zero, Option.map_some]) (by simp -implicitDefEqProofs (disch := first | omega | (simp -implicitDefEqProofs only [go_sem, List.size_toArray, List.length_cons, List.length_nil, Nat.reduceAdd]; done)) only [go_sem, Int.reduceLT, Int.reduceLE, Int.reduceEq, reduceIte, true_and, Nat.zero_add, Nat.add_zero, Option.map_some, f0, h1]) ⟨fun e => absurd e (by decide), fun _ => rfl⟩
  | 2, _ =>
    simp only [l70_0, List.getElem?_cons_zero, List.getElem?_cons_succ, Option.some.injEq] at ho
    subst ho
    have f1 : s.fr 66 = some (.pointer (some ⟨id, o, none⟩)) := (hF 1 (by kernel_rfl)).eq rfl fun _ _ e => e.2 (by decide)
    exact reg_pure (v := .int .u8 x) (fun _ => .inl rfl) (by simp -implicitDefEqProofs (disch := first | omega | (simp -implicitDefEqProofs only [go_sem, List.size_toArray, List.length_cons, List.length_nil, Nat.reduceAdd]; done)) only [go_sem, Int.reduceLT, Int.reduceLE, Int.reduceEq, reduceIte, true_and, Nat.zero_add, Nat.add_zero, Option.map_some]) (by simp -implicitDefEqProofs (disch := first | omega | (simp -implicitDefEqProofs only [go_sem, List.size_toArray, List.length_cons, List.length_nil, Nat.reduceAdd]; done)) only [go_sem, Int.reduceLT, Int.reduceLE, Int.reduceEq, reduceIte, true_and, Nat.zero_add, Nat.add_zero, Option.map_some, f1, hc]) ⟨fun e => absurd e (by decide), fun _ => rfl⟩
  | 3, _ =>
    simp only [l70_0, List.getElem?_cons_zero, List.getElem?_cons_succ, Option.some.injEq] at ho
    subst ho
    have f2 : s.fr 67 = some (.int .u8 x) := (hF 2 (by kernel_rfl)).eq rfl fun _ _ e => e.2 (by decide)
    exact reg_pure (v := .int .i64 x) (fun _ => .inl rfl) (by simp -implicitDefEqProofs (disch := first | omega | (simp -implicitDefEqProofs only [go_sem, List.size_toArray, List.length_cons, List.length_nil, Nat.reduceAdd]; done)) only [go_sem, Int.reduceLT, Int.reduceLE, Int.reduceEq, reduceIte, true_and, Nat.zero_add, Nat.add_zero, Option.map_some]) (by simp -implicitDefEqProofs (disch := first | omega | (simp -implicitDefEqProofs only [go_sem, List.size_toArray, List.length_cons, List.length_nil, Nat.reduceAdd]; done)) only [go_sem, Int.reduceLT, Int.reduceLE, Int.reduceEq, reduceIte, true_and, Nat.zero_add, Nat.add_zero, Option.map_some, f2, hx]) ⟨fun e => absurd e (by decide), fun _ => rfl⟩
  | 4, _ =>
    simp only [l70_0, List.getElem?_cons_zero, List.getElem?_cons_succ, Option.some.injEq] at ho
    subst ho
    have F12 : s.fr 12 = some u := (hpre 8 12 (by kernel_rfl) (by kernel_rfl)).trans f12
    exact reg_pure (v := u) (fun _ => .inl rfl) (by simp -implicitDefEqProofs (disch := first | omega | (simp -implicitDefEqProofs only [go_sem, List.size_toArray, List.length_cons, List.length_nil, Nat.reduceAdd]; done)) only [go_sem, Int.reduceLT, Int.reduceLE, Int.reduceEq, reduceIte, true_and, Nat.zero_add, Nat.add_zero, Option.map_some]) (by simp -implicitDefEqProofs (disch := first | omega | (simp -implicitDefEqProofs only [go_sem, List.size_toArray, List.length_cons, List.length_nil, Nat.reduceAdd]; done)) only [go_sem, Int.reduceLT, Int.reduceLE, Int.reduceEq, reduceIte, true_and, Nat.zero_add, Nat.add_zero, Option.map_some, F12]) ⟨fun e => absurd e (by decide), fun _ => rfl⟩
  | 5, _ =>
    simp only [l70_0, List.getElem?_cons_zero, List.getElem?_cons_succ, Option.some.injEq] at ho
    subst ho
    have f4 : s.fr 69 = some (u) := (hF 4 (by kernel_rfl)).eq rfl fun _ _ e => e.2 (by decide)
    exact reg_pure (v := u') (fun _ => .inl rfl) (by simp -implicitDefEqProofs (disch := first | omega | (simp -implicitDefEqProofs only [go_sem, List.size_toArray, List.length_cons, List.length_nil, Nat.reduceAdd]; done)) only [go_sem, Int.reduceLT, Int.reduceLE, Int.reduceEq, reduceIte, true_and, Nat.zero_add, Nat.add_zero, Option.map_some]) (by simp -implicitDefEqProofs (disch := first | omega | (simp -implicitDefEqProofs only [go_sem, List.size_toArray, List.length_cons, List.length_nil, Nat.reduceAdd]; done)) only [go_sem, Int.reduceLT, Int.reduceLE, Int.reduceEq, reduceIte, true_and, Nat.zero_add, Nat.add_zero, Option.map_some, f4, hs]) ⟨fun e => absurd e (by decide), fun _ => rfl⟩
  | 6, _ =>
    simp only [l70_0, List.getElem?_cons_zero, List.getElem?_cons_succ, Option.some.injEq] at ho
    subst ho
    exact reg_pure (v := .pointer (some ⟨B, 2, none⟩)) (fun _ => .inl rfl) (by simp -implicitDefEqProofs (disch := first | omega | (simp -implicitDefEqProofs only [go_sem, List.size_toArray, List.length_cons, List.length_nil, Nat.reduceAdd]; done)) only [go_sem, Int.reduceLT, Int.reduceLE, Int.reduceEq, reduceIte, true_and, Nat.zero_add, Nat.add_zero, Option.map_some]) (by simp -implicitDefEqProofs (disch := first | omega | (simp -implicitDefEqProofs only [go_sem, List.size_toArray, List.length_cons, List.length_nil, Nat.reduceAdd]; done)) only [go_sem, Int.reduceLT, Int.reduceLE, Int.reduceEq, reduceIte, true_and, Nat.zero_add, Nat.add_zero, Option.map_some, F9]) ⟨fun e => absurd e (by decide), fun _ => rfl⟩
  | 7, _ =>
    simp only [l70_0, List.getElem?_cons_zero, List.getElem?_cons_succ, Option.some.injEq] at ho
    subst ho
    have f3 : s.fr 68 = some (.int .i64 x) := (hF 3 (by kernel_rfl)).eq rfl fun _ _ e => e.2 (by decide)
    have f6 : s.fr 71 = some (.pointer (some ⟨B, 2, none⟩)) := (hF 6 (by kernel_rfl)).eq rfl fun _ _ e => e.2 (by decide)
    have hst : storeAt s.h B 2 [.int .i64 x] = some K1 := by rcases hh with e | e <;> rw [e] <;> assumption
    exact reg_store (h' := K1) (by simp -implicitDefEqProofs (disch := first | omega | (simp -implicitDefEqProofs only [go_sem, List.size_toArray, List.length_cons, List.length_nil, Nat.reduceAdd]; done)) only [go_sem, Int.reduceLT, Int.reduceLE, Int.reduceEq, reduceIte, true_and, Nat.zero_add, Nat.add_zero, Option.map_some]) (by simp -implicitDefEqProofs (disch := first | omega | (simp -implicitDefEqProofs only [go_sem, List.size_toArray, List.length_cons, List.length_nil, Nat.reduceAdd]; done)) only [go_sem, Int.reduceLT, Int.reduceLE, Int.reduceEq, reduceIte, true_and, Nat.zero_add, Nat.add_zero, Option.map_some, f3, f6, hst]) (.inr rfl) ⟨fun _ => rfl, fun e => absurd rfl e⟩ fun j u hj hv => ⟨fun _ => rfl, hv.2⟩
  | 8, _ =>
    simp only [l70_0, List.getElem?_cons_zero, List.getElem?_cons_succ, Option.some.injEq] at ho
    subst ho
    have f5 : s.fr 70 = some (u') := (hF 5 (by kernel_rfl)).eq rfl fun _ _ e => e.2 (by decide)
    exact reg_pure (v := u') (fun _ => .inl rfl) (by simp -implicitDefEqProofs (disch := first | omega | (simp -implicitDefEqProofs only [go_sem, List.size_toArray, List.length_cons, List.length_nil, Nat.reduceAdd]; done)) only [go_sem, Int.reduceLT, Int.reduceLE, Int.reduceEq, reduceIte, true_and, Nat.zero_add, Nat.add_zero, Option.map_some]) (by simp -implicitDefEqProofs (disch := first | omega | (simp -implicitDefEqProofs only [go_sem, List.size_toArray, List.length_cons, List.length_nil, Nat.reduceAdd]; done)) only [go_sem, Int.reduceLT, Int.reduceLE, Int.reduceEq, reduceIte, true_and, Nat.zero_add, Nat.add_zero, Option.map_some, f5]) ⟨fun e => absurd e (by decide), fun _ => rfl⟩
theorem one_region1 {K0 K1 : DHeap} {u u' : Value} {id o B : Nat} {x : Int} {fr : Fr} {rd : Option Nat} (f9 : fr 9 = some (.pointer (some ⟨B, 0, none⟩))) (f12 : fr 12 = some u)
    (h1 : dIndexAddr Try.prog 22 u (.int .i64 0) = some (.pointer (some ⟨id, o, none⟩))) (c0 : cellAt K0 id o = some (.int .u8 x)) (c1 : cellAt K1 id o = some (.int .u8 x)) (hx : IntKind.i64.wrap x = x)
    (hs0 : dSlice Try.prog 22 u (some (.int .i64 1)) none none K0 = some u') (hs1 : dSlice Try.prog 22 u (some (.int .i64 1)) none none K1 = some u') (s0 : storeAt K0 B 3 [.int .i64 x] = some K1) (s1 : storeAt K1 B 3 [.int .i64 x] = some K1) :
    NC Try.prog 132 r70_1 (DThen (fun s => s.df = [] ∧ s.rd = rd ∧ s.h = K1 ∧ s.fr 12 = some u' ∧ s.fr 0 = fr 0 ∧ s.fr 1 = fr 1 ∧ s.fr 4 = fr 4 ∧ s.fr 7 = fr 7 ∧ s.fr 9 = fr 9 ∧ s.fr 10 = fr 10) (fun _ _ => False)) ⟨fr, [], K0, rd⟩ := by
  refine NC.regs (l := l70_1) (by kernel_rfl) (by kernel_rfl) (by kernel_rfl) rfl (by kernel_rfl) (by kernel_rfl) (fun a b => b = a ∨ b = K1) (fun _ => .inl rfl) (fun a b c h g => ?_) (fun i h v => (i = 7 → h = K1) ∧ (i ≠ 7 → v = ([u, .pointer (some ⟨id, o, none⟩), .int .u8 x, .int .i64 x, u, u', .pointer (some ⟨B, 3, none⟩), undef, u'] : List Value).getD i undef)) ?_ ?_
  · rcases g with rfl | rfl
    · exact h
    · exact .inr rfl
  case refine_3 =>
    rintro ⟨fr1, df1, K, rd1⟩ g hF
    obtain ⟨_, q7, _⟩ := (hF 7 (by decide)).fact
    have f8 := (hF 8 (by decide)).eq (d := 12) (c := u') rfl fun _ _ e => e.2 (by decide)
    exact ⟨g.df, g.rd, q7 rfl, f8, g.fr 0 (by kernel_rfl), g.fr 1 (by kernel_rfl), g.fr 4 (by kernel_rfl), g.fr 7 (by kernel_rfl), g.fr 9 (by kernel_rfl), g.fr 10 (by kernel_rfl)⟩
  intro i oo s ho g hpre hown hF
  have F9 : s.fr 9 = some (.pointer (some ⟨B, 0, none⟩)) := (g.fr 9 (by kernel_rfl)).trans f9
  have hi' : i < 9 := (List.getElem?_eq_some_iff.1 ho).1
  have hh : s.h = K0 ∨ s.h = K1 := g.ext
  have hc : cellAt s.h id o = some (.int .u8 x) := by rcases hh with e | e <;> rw [e] <;> assumption
  have hs : dSlice Try.prog 22 u (some (.int .i64 1)) none none s.h = some u' := by rcases hh with e | e <;> rw [e] <;> assumption
  match i, hi' with
  | 0, _ =>
    simp only [l70_1, List.getElem?_cons_zero, List.getElem?_cons_succ, Option.some.injEq] at ho
    subst ho
    have F12 : s.fr 12 = some u := (hpre 8 12 (by kernel_rfl) (by kernel_rfl)).trans f12
    exact reg_pure (v := u) (fun _ => .inl rfl) (by simp -implicitDefEqProofs (disch := first | omega | (simp -implicitDefEqProofs only [go_sem, List.size_toArray, List.length_cons, List.length_nil, Nat.reduceAdd]; done)) only [go_sem, Int.reduceLT, Int.reduceLE, Int.reduceEq, reduceIte, true_and, Nat.zero_add, Nat.add_zero, Option.map_some]) (by simp -implicitDefEqProofs (disch := first | omega | (simp -implicitDefEqProofs only [go_sem, List.size_toArray, List.length_cons, List.length_nil, Nat.reduceAdd]; done)) only [go_sem, Int.reduceLT, Int.reduceLE, Int.reduceEq, reduceIte, true_and, Nat.zero_add, Nat.add_zero, Option.map_some, F12]) ⟨fun e => absurd e (by decide), fun _ => rfl⟩
  | 1, _ =>
    simp only [l70_1, List.getElem?_cons_zero, List.getElem?_cons_succ, Option.some.injEq] at ho
    subst ho
    have f0 : s.fr 75 = some (u) := (hF 0 (by kernel_rfl)).eq rfl fun _ _ e => e.2 (by decide)
    exact reg_pure (v := .pointer (some ⟨id, o, none⟩)) (fun _ => .inl rfl) (by simp -implicitDefEqProofs (disch := first | omega | (simp -implicitDefEqProofs only [go_sem, List.size_toArray, List.length_cons, List.length_nil, Nat.reduceAdd]; done)) only [go_sem, Int.reduceLT, Int.reduceLE, Int.reduceEq, reduceIte, true_and, Nat.zero_add, Nat.add_zero, Option.map_some]) (by simp -implicitDefEqProofs (disch := first | omega | (simp -implicitDefEqProofs only [go_sem, List.size_toArray, List.length_cons, List.length_nil, Nat.reduceAdd]; done)) only [go_sem, Int.reduceLT, Int.reduceLE, Int.reduceEq, reduceIte, true_and, Nat.zero_add, Nat.add_zero, Option.map_some, f0, h1]) ⟨fun e => absurd e (by decide), fun _ => rfl⟩
  | 2, _ =>
    simp only [l70_1, List.getElem?_cons_zero, List.getElem?_cons_succ, Option.some.injEq] at ho
    subst ho
    have f1 : s.fr 76 = some (.pointer (some ⟨id, o, none⟩)) := (hF 1 (by kernel_rfl)).eq rfl fun _ _ e => e.2 (by decide)
    exact reg_pure (v := .int .u8 x) (fun _ => .inl rfl) (by simp -implicitDefEqProofs (disch := first | omega | (simp -implicitDefEqProofs only [go_sem, List.size_toArray, List.length_cons, List.length_nil, Nat.reduceAdd]; done)) only [go_sem, Int.reduceLT, Int.reduceLE, Int.reduceEq, reduceIte, true_and, Nat.zero_add, Nat.add_zero, Option.map_some]) (by simp -implicitDefEqProofs (disch := first | omega | (simp -implicitDefEqProofs only [go_sem, List.size_toArray, List.length_cons, List.length_nil, Nat.reduceAdd]; done)) only [go_sem, Int.reduceLT, Int.reduceLE, Int.reduceEq, reduceIte, true_and, Nat.zero_add, Nat.add_zero, Option.map_some, f1, hc]) ⟨fun e => absurd e (by decide), fun _ => rfl⟩
  | 3, _ =>
    simp only [l70_1, List.getElem?_cons_zero, List.getElem?_cons_succ, Option.some.injEq] at ho
    subst ho
    have f2 : s.fr 77 = some (.int .u8 x) := (hF 2 (by kernel_rfl)).eq rfl fun _ _ e => e.2 (by decide)
    exact reg_pure (v := .int .i64 x) (fun _ => .inl rfl) (by simp -implicitDefEqProofs (disch := first | omega | (simp -implicitDefEqProofs only [go_sem, List.size_toArray, List.length_cons, List.length_nil, Nat.reduceAdd]; done)) only [go_sem, Int.reduceLT, Int.reduceLE, Int.reduceEq, reduceIte, true_and, Nat.zero_add, Nat.add_zero, Option.map_some]) (by simp -implicitDefEqProofs (disch := first | omega | (simp -implicitDefEqProofs only [go_sem, List.size_toArray, List.length_cons, List.length_nil, Nat.reduceAdd]; done)) only [go_sem, Int.reduceLT, Int.reduceLE, Int.reduceEq, reduceIte, true_and, Nat.zero_add, Nat.add_zero, Option.map_some, f2, hx]) ⟨fun e => absurd e (by decide), fun _ => rfl⟩
  | 4, _ =>
    simp only [l70_1, List.getElem?_cons_zero, List.getElem?_cons_succ, Option.some.injEq] at ho
    subst ho
    have F12 : s.fr 12 = some u := (hpre 8 12 (by kernel_rfl) (by kernel_rfl)).trans f12
    exact reg_pure (v := u) (fun _ => .inl rfl) (by simp -implicitDefEqProofs (disch := first | omega | (simp -implicitDefEqProofs only [go_sem, List.size_toArray, List.length_cons, List.length_nil, Nat.reduceAdd]; done)) only [go_sem, Int.reduceLT, Int.reduceLE, Int.reduceEq, reduceIte, true_and, Nat.zero_add, Nat.add_zero, Option.map_some]) (by simp -implicitDefEqProofs (disch := first | omega | (simp -implicitDefEqProofs only [go_sem, List.size_toArray, List.length_cons, List.length_nil, Nat.reduceAdd]; done)) only [go_sem, Int.reduceLT, Int.reduceLE, Int.reduceEq, reduceIte, true_and, Nat.zero_add, Nat.add_zero, Option.map_some, F12]) ⟨fun e => absurd e (by decide), fun _ => rfl⟩
  | 5, _ =>
    simp only [l70_1, List.getElem?_cons_zero, List.getElem?_cons_succ, Option.some.injEq] at ho
    subst ho
    have f4 : s.fr 79 = some (u) := (hF 4 (by kernel_rfl)).eq rfl fun _ _ e => e.2 (by decide)
    exact reg_pure (v := u') (fun _ => .inl rfl) (by simp -implicitDefEqProofs (disch := first | omega | (simp -implicitDefEqProofs only [go_sem, List.size_toArray, List.length_cons, List.length_nil, Nat.reduceAdd]; done)) only [go_sem, Int.reduceLT, Int.reduceLE, Int.reduceEq, reduceIte, true_and, Nat.zero_add, Nat.add_zero, Option.map_some]) (by simp -implicitDefEqProofs (disch := first | omega | (simp -implicitDefEqProofs only [go_sem, List.size_toArray, List.length_cons, List.length_nil, Nat.reduceAdd]; done)) only [go_sem, Int.reduceLT, Int.reduceLE, Int.reduceEq, reduceIte, true_and, Nat.zero_add, Nat.add_zero, Option.map_some, f4, hs]) ⟨fun e => absurd e (by decide), fun _ => rfl⟩
  | 6, _ =>
    simp only [l70_1, List.getElem?_cons_zero, List.getElem?_cons_succ, Option.some.injEq] at ho
    subst ho
    exact reg_pure (v := .pointer (some ⟨B, 3, none⟩)) (fun _ => .inl rfl) (by simp -implicitDefEqProofs (disch := first | omega | (simp -implicitDefEqProofs only [go_sem, List.size_toArray, List.length_cons, List.length_nil, Nat.reduceAdd]; done)) only [go_sem, Int.reduceLT, Int.reduceLE, Int.reduceEq, reduceIte, true_and, Nat.zero_add, Nat.add_zero, Option.map_some]) (by simp -implicitDefEqProofs (disch := first | omega | (simp -implicitDefEqProofs only [go_sem, List.size_toArray, List.length_cons, List.length_nil, Nat.reduceAdd]; done)) only [go_sem, Int.reduceLT, Int.reduceLE, Int.reduceEq, reduceIte, true_and, Nat.zero_add, Nat.add_zero, Option.map_some, F9]) ⟨fun e => absurd e (by decide), fun _ => rfl⟩
  | 7, _ =>
    simp only [l70_1, List.getElem?_cons_zero, List.getElem?_cons_succ, Option.some.injEq] at ho
    subst ho
    have f3 : s.fr 78 = some (.int .i64 x) := (hF 3 (by kernel_rfl)).eq rfl fun _ _ e => e.2 (by decide)
    have f6 : s.fr 81 = some (.pointer (some ⟨B, 3, none⟩)) := (hF 6 (by kernel_rfl)).eq rfl fun _ _ e => e.2 (by decide)
    have hst : storeAt s.h B 3 [.int .i64 x] = some K1 := by rcases hh with e | e <;> rw [e] <;> assumption
    exact reg_store (h' := K1) (by simp -implicitDefEqProofs (disch := first | omega | (simp -implicitDefEqProofs only [go_sem, List.size_toArray, List.length_cons, List.length_nil, Nat.reduceAdd]; done)) only [go_sem, Int.reduceLT, Int.reduceLE, Int.reduceEq, reduceIte, true_and, Nat.zero_add, Nat.add_zero, Option.map_some]) (by simp -implicitDefEqProofs (disch := first | omega | (simp -implicitDefEqProofs only [go_sem, List.size_toArray, List.length_cons, List.length_nil, Nat.reduceAdd]; done)) only [go_sem, Int.reduceLT, Int.reduceLE, Int.reduceEq, reduceIte, true_and, Nat.zero_add, Nat.add_zero, Option.map_some, f3, f6, hst]) (.inr rfl) ⟨fun _ => rfl, fun e => absurd rfl e⟩ fun j u hj hv => ⟨fun _ => rfl, hv.2⟩
  | 8, _ =>
    simp only [l70_1, List.getElem?_cons_zero, List.getElem?_cons_succ, Option.some.injEq] at ho
    subst ho
    have f5 : s.fr 80 = some (u') := (hF 5 (by kernel_rfl)).eq rfl fun _ _ e => e.2 (by decide)
    exact reg_pure (v := u') (fun _ => .inl rfl) (by simp -implicitDefEqProofs (disch := first | omega | (simp -implicitDefEqProofs only [go_sem, List.size_toArray, List.length_cons, List.length_nil, Nat.reduceAdd]; done)) only [go_sem, Int.reduceLT, Int.reduceLE, Int.reduceEq, reduceIte, true_and, Nat.zero_add, Nat.add_zero, Option.map_some]) (by simp -implicitDefEqProofs (disch := first | omega | (simp -implicitDefEqProofs only [go_sem, List.size_toArray, List.length_cons, List.length_nil, Nat.reduceAdd]; done)) only [go_sem, Int.reduceLT, Int.reduceLE, Int.reduceEq, reduceIte, true_and, Nat.zero_add, Nat.add_zero, Option.map_some, f5]) ⟨fun e => absurd e (by decide), fun _ => rfl⟩
end Go.Proofs.Ytbdljpndncohaaa

namespace Go.Proofs.Ytbdljpndncohaaa
open Go.D
set_option maxRecDepth 100000

/-- the program's tables are the reference's -/
theorem tables {n : Nat} (hn : n < 28) : sizeC n = sizeI n ∧ (andI (formL.getD n 0) 1 = 0 ↔ firstB n = false) ∧ (andI (formL.getD n 0) 2 = 0 ↔ twoB n = false) ∧ (andI (formL.getD n 0) 4 = 0 ↔ wideI n ≠ 1) ∧ (andI (formL.getD n 0) 8 = 0 ↔ n ≠ 1) ∧ (andI (formL.getD n 0) 16 = 0 ↔ ¬ (wideI n = 2 ∧ n ≠ 1)) ∧ (n = 1 → wideI n = 2) ∧ sizeI n ≠ 0 := by
  have : ∀ n : Nat, n < 28 → sizeC n = sizeI n ∧ (andI (formL.getD n 0) 1 = 0 ↔ firstB n = false) ∧ (andI (formL.getD n 0) 2 = 0 ↔ twoB n = false) ∧ (andI (formL.getD n 0) 4 = 0 ↔ wideI n ≠ 1) ∧ (andI (formL.getD n 0) 8 = 0 ↔ n ≠ 1) ∧ (andI (formL.getD n 0) 16 = 0 ↔ ¬ (wideI n = 2 ∧ n ≠ 1)) ∧ (n = 1 → wideI n = 2) ∧ sizeI n ≠ 0 := by decide
  exact this n hn
theorem size_none {n : Int} (hn : 28 ≤ n) : sizeI n = 0 := by
  unfold sizeI
  repeat' split
  all_goals omega
theorem indexB_eq {l : List Int} {i : Nat} (hb : ∀ j, 0 ≤ l.getD j 0) : indexB (oneI l i) = decide (indexE (oneI l i) = 0) ∧ (indexE (oneI l i) ≠ 0 → indexE (oneI l i) = 132) := by
  have h1 := hb (i + 1)
  have h2 := hb (i + 1 + if firstB (l.getD i 0) then 1 else 0)
  have e1 : (oneI l i).a = if firstB (l.getD i 0) then l.getD (i + 1) 0 else 0 := rfl
  have e2 : (oneI l i).b = if twoB (l.getD i 0) then l.getD (i + 1 + if firstB (l.getD i 0) then 1 else 0) 0 else 0 := rfl
  have e3 : (oneI l i).op = l.getD i 0 := rfl
  generalize oneI l i = x at e1 e2 e3 ⊢
  generalize l.getD (i + 1 + if firstB (l.getD i 0) then 1 else 0) 0 = yb at h2 e2
  generalize l.getD (i + 1) 0 = ya at h1 e1
  rw [← e3] at e1 e2
  unfold indexB indexE
  cases hf : firstB x.op <;> cases ht : twoB x.op <;> rw [hf] at e1 <;> rw [ht] at e2 <;> simp only [Bool.false_eq_true, if_true, if_false] at e1 e2
  all_goals
    rw [e1, e2]
    constructor
    · by_cases p19 : x.op = 19 <;> by_cases p8 : x.imm = 8 <;> by_cases p16 : x.imm = 16 <;> by_cases p32 : x.imm = 32 <;> by_cases q1 : ya < 8 <;> by_cases q2 : yb < 8 <;> simp [p19, p8, p16, p32, q1, q2, h1, h2, Int.not_lt.1, Int.not_le.2, Int.not_lt.2] <;> omega
    · intro h
      split at h
      · rw [if_pos (by assumption)]
      · rw [if_neg (by assumption)]
        split at h
        · rw [if_pos (by assumption)]
        · exact absurd rfl h
theorem or16 {x y : Int} (hx : 0 ≤ x) (hx2 : x ≤ 255) (hy : 0 ≤ y) (hy2 : y ≤ 255) :
    IntKind.u16.wrap (((BitVec.ofInt 16 x ||| BitVec.ofInt 16 (IntKind.u16.wrap (y * 256))).toNat : Nat) : Int) = x + 256 * y := by
  obtain ⟨m, rfl⟩ : ∃ m : Nat, y = m := ⟨y.toNat, by omega⟩
  obtain ⟨n, rfl⟩ : ∃ n : Nat, x = n := ⟨x.toNat, by omega⟩
  have h1 : IntKind.u16.wrap ((m : Int) * 256) = ((m * 256 : Nat) : Int) := by rw [wrap_in (inK_u16.2 ⟨by omega, by omega⟩)]; omega
  rw [h1]
  have h3 : (BitVec.ofInt 16 ((m * 256 : Nat) : Int)).toNat = m * 256 := by simp; omega
  have h4 : (BitVec.ofInt 16 (n : Int)).toNat = n := by simp; omega
  rw [BitVec.toNat_or, h3, h4]
  have h5 : n ||| m * 256 = m * 256 + n := by
    rw [Nat.or_comm, show m * 256 = m <<< 8 by rw [Nat.shiftLeft_eq]]
    exact (Nat.shiftLeft_add_eq_or_of_lt (by omega) m).symm
  rw [h5, wrap_in (inK_u16.2 ⟨by omega, by omega⟩)]
  omega
theorem wrap_i16 {n : Int} (h0 : 0 ≤ n) (h1 : n ≤ 65535) : IntKind.i16.wrap n = if 32768 ≤ n then n - 65536 else n := by
  have e : n % 2 ^ 16 = n := by omega
  simp only [IntKind.wrap, IntKind.signed, IntKind.bits, e]
  by_cases h2 : 32768 ≤ n
  · rw [if_pos h2, if_pos (by simpa using h2)]
    rfl
  · rw [if_neg h2, if_neg (by simpa using h2)]
def orH (a b : Int) : Int := IntKind.u16.wrap (BitVec.ofInt IntKind.u16.bits a ||| BitVec.ofInt IntKind.u16.bits b).toNat
theorem bin_orH {P : Program} {t : TypeId} {ox oy : Operand} {a b : Int} {h : DHeap} : dBinOp P .or t ox oy (.int .u16 a) (.int .u16 b) h = .ok (.value (.int .u16 (orH a b))) h := bin_or
theorem bin_shl8 {P : Program} {t : TypeId} {ox oy : Operand} {a : Int} {h : DHeap} : dBinOp P .shl t ox oy (.int .u16 a) (.int .u64 8) h = .ok (.value (.int .u16 (IntKind.u16.wrap (a * 256)))) h := bin_shl (by decide)
theorem orH_eq {x y : Int} (hx : 0 ≤ x) (hx2 : x ≤ 255) (hy : 0 ≤ y) (hy2 : y ≤ 255) : orH x (IntKind.u16.wrap (y * 256)) = x + 256 * y := or16 hx hx2 hy hy2
theorem XIf_cutB {P : Program} {nt id : Nat} {x y : Code} {K : St → Prop} {Q : DExit → St → Prop} {s : St} {t : Bool} (M : St → Prop) (h1 : t = true → xs P nt x (DBlock id (DThen M Q)) s) (h2 : t = false → xs P nt y (DBlock id (DThen M Q)) s) (h3 : ∀ s', M s' → K s') :
    XIf P nt x y (DBlock id (DThen K Q)) s (some (.bool t)) := ⟨fun ht => xblock_cut M (h1 ht) h3, fun ht => xblock_cut M (h2 ht) h3⟩
/-- how things lie on the way -/
def OnE (B : Nat) (H : DHeap) (i : Nat) (op : Int) (x : Instr) (s : St) : Prop :=
  s.df = [] ∧ s.rd = none ∧ s.fr 1 = some (.int .i64 (i : Nat)) ∧ s.fr 4 = some (.pointer (some ⟨B, 0, none⟩)) ∧ s.fr 7 = some (.int .i64 (sizeI op)) ∧ s.fr 9 = some (.pointer (some ⟨H.next, 0, none⟩)) ∧ s.h = H.push (.row (fInstr.enc x) 0 false)
def OnM (B : Nat) (H : DHeap) (v : Value) (i : Nat) (op f a b imm : Int) (u : Value) (s : St) : Prop :=
  s.df = [] ∧ s.rd = none ∧ s.fr 0 = some v ∧ s.fr 1 = some (.int .i64 (i : Nat)) ∧ s.fr 4 = some (.pointer (some ⟨B, 0, none⟩)) ∧ s.fr 7 = some (.int .i64 (sizeI op)) ∧ s.fr 9 = some (.pointer (some ⟨H.next, 0, none⟩)) ∧ s.fr 10 = some (.int .i64 f) ∧ s.fr 12 = some u ∧ s.h = H.push (.row (fInstr.enc ⟨(i : Nat), op, a, b, imm⟩) 0 false)
theorem getD_part {l : List Int} {j k m : Nat} (hm : k + j < m) : ((l.take m).drop k).getD j 0 = l.getD (k + j) 0 := by
  simp [List.getD_eq_getElem?_getD, List.getElem?_take, hm]
set_option maxHeartbeats 2000000 in
theorem one_c {h : DHeap} {v : Value} {l : List Int} {i : Nat} (hb : Arg fU8.rep h v l) (hl : l.length ≤ 4294967296) (hi : i ≤ 4294967296) :
    DC Try.prog 70 [v, .int .i64 (i : Nat)] h (.ret (.tuple #[instrV (oneT l i).1, .int .i64 (oneT l i).2.1, .int .i64 (oneT l i).2.2])) h := by
  refine Ct.pure (go_70 (by simp) ?_) vin_one
  obtain ⟨H, hH⟩ : ∃ H, H = h.push (.row [.int .i64 0, .int .i64 0, .int .i64 0, .int .i64 0, .int .i64 0] 0 false) := ⟨_, rfl⟩
  have hE : Ext h H := by rw [hH]; exact Ext.push1 _ _
  have g : H.get h.next = some (.row (fInstr.enc zeroInstr) 0 false) := by rw [hH]; exact get_push_same _ _
  have hHn : H.next = h.next + 1 := by rw [hH]; rfl
  have el : ∀ K, dLen Try.prog #[22] v K = some (.int .i64 (l.length : Nat)) := hb.lens (P := Try.prog) (ts := #[22]) (t := 22) rfl isl_22
  have hz : storeAt H h.next 0 [.int .i64 0, .int .i64 0, .int .i64 0, .int .i64 0, .int .i64 0] = some H := by
    rw [storeAt_row g (Nat.le_of_ble_eq_true rfl) rfl]
    exact congrArg some (set_self g)
  have hneg : ¬ ((i : Nat) : Int) < 0 := by omega
  by_cases h0 : ((l.length : Nat) : Int) ≤ (i : Nat)
  · have h0' := eq_true h0
    simp -implicitDefEqProofs (disch := first | omega | (simp -implicitDefEqProofs only [go_sem, List.size_toArray, List.length_cons, List.length_nil, Nat.reduceAdd]; done)) only [go_sem, Int.reduceLT, Int.reduceLE, Int.reduceEq, reduceIte, true_and, Nat.zero_add, Nat.add_zero, Option.map_some, c70, ← hH, hneg, h0', el, dPick_t, dPick_f, bd_instr0, hz]
    refine ret_at (res_i (n := 0) (e := 130) (by simp -implicitDefEqProofs (disch := first | omega | (simp -implicitDefEqProofs only [go_sem, List.size_toArray, List.length_cons, List.length_nil, Nat.reduceAdd]; done)) only [go_sem, Int.reduceLT, Int.reduceLE, Int.reduceEq, reduceIte, true_and, Nat.zero_add, Nat.add_zero, Option.map_some]) (by simp -implicitDefEqProofs (disch := first | omega | (simp -implicitDefEqProofs only [go_sem, List.size_toArray, List.length_cons, List.length_nil, Nat.reduceAdd]; done)) only [go_sem, Int.reduceLT, Int.reduceLE, Int.reduceEq, reduceIte, true_and, Nat.zero_add, Nat.add_zero, Option.map_some]) (by simp -implicitDefEqProofs (disch := first | omega | (simp -implicitDefEqProofs only [go_sem, List.size_toArray, List.length_cons, List.length_nil, Nat.reduceAdd]; done)) only [go_sem, Int.reduceLT, Int.reduceLE, Int.reduceEq, reduceIte, true_and, Nat.zero_add, Nat.add_zero, Option.map_some]) g) ⟨?_, hE⟩
    rw [oneT, if_pos (by omega)]
  have hil : i < l.length := by omega
  have hbyte : ∀ j, 0 ≤ l.getD j 0 ∧ l.getD j 0 ≤ 255 := fun j => by
    by_cases hj : j < l.length
    · obtain ⟨_, _, _, _, a, b⟩ := byte_at hb hj
      exact ⟨a, b⟩
    · rw [List.getD_eq_getElem?_getD, List.getElem?_eq_none (by omega)]
      exact ⟨Int.le_refl _, by decide⟩
  obtain ⟨id0, o0, ia0, lb0, r0, r1⟩ := byte_at hb hil
  obtain ⟨opn, hopn⟩ : ∃ n : Nat, l.getD i 0 = (n : Int) := ⟨(l.getD i 0).toNat, by omega⟩
  rw [hopn] at lb0 r0 r1
  have hw0 : IntKind.i64.wrap (opn : Int) = opn := wrap_i64_in (by omega) (by omega)
  simp -implicitDefEqProofs (disch := first | omega | (simp -implicitDefEqProofs only [go_sem, List.size_toArray, List.length_cons, List.length_nil, Nat.reduceAdd]; done)) only [go_sem, Int.reduceLT, Int.reduceLE, Int.reduceEq, reduceIte, true_and, Nat.zero_add, Nat.add_zero, Option.map_some, c70, ← hH, hneg, h0, el, dPick_t, dPick_f, ia0, lb0 H hE, hw0]
  refine ncall size_c ?_
  have hwl : IntKind.i64.wrap ((l.length : Int) - (i : Nat)) = (l.length : Int) - (i : Nat) := wrap_i64_in (by omega) (by omega)
  by_cases h1 : opn < 28
  case neg =>
    have h1' := decide_eq_false h1
    simp -implicitDefEqProofs (disch := first | omega | (simp -implicitDefEqProofs only [go_sem, List.size_toArray, List.length_cons, List.length_nil, Nat.reduceAdd]; done)) only [go_sem, Int.reduceLT, Int.reduceLE, Int.reduceEq, reduceIte, true_and, Nat.zero_add, Nat.add_zero, Option.map_some, h1', dPick_t, dPick_f, bd_instr0, hz]
    refine ret_at (res_i (n := 0) (e := 130) (by simp -implicitDefEqProofs (disch := first | omega | (simp -implicitDefEqProofs only [go_sem, List.size_toArray, List.length_cons, List.length_nil, Nat.reduceAdd]; done)) only [go_sem, Int.reduceLT, Int.reduceLE, Int.reduceEq, reduceIte, true_and, Nat.zero_add, Nat.add_zero, Option.map_some]) (by simp -implicitDefEqProofs (disch := first | omega | (simp -implicitDefEqProofs only [go_sem, List.size_toArray, List.length_cons, List.length_nil, Nat.reduceAdd]; done)) only [go_sem, Int.reduceLT, Int.reduceLE, Int.reduceEq, reduceIte, true_and, Nat.zero_add, Nat.add_zero, Option.map_some]) (by simp -implicitDefEqProofs (disch := first | omega | (simp -implicitDefEqProofs only [go_sem, List.size_toArray, List.length_cons, List.length_nil, Nat.reduceAdd]; done)) only [go_sem, Int.reduceLT, Int.reduceLE, Int.reduceEq, reduceIte, true_and, Nat.zero_add, Nat.add_zero, Option.map_some]) g) ⟨?_, hE⟩
    rw [oneT, if_neg (by omega), hopn, if_pos (.inl (size_none (by omega)))]
  have h1' := decide_eq_true h1
  obtain ⟨t1, t2, t3, t4, t5, t6, t7, t8⟩ := tables h1
  rw [t1]
  by_cases h2 : (l.length : Int) - (i : Nat) < sizeI opn
  · have h2' := eq_true h2
    simp -implicitDefEqProofs (disch := first | omega | (simp -implicitDefEqProofs only [go_sem, List.size_toArray, List.length_cons, List.length_nil, Nat.reduceAdd]; done)) only [go_sem, Int.reduceLT, Int.reduceLE, Int.reduceEq, reduceIte, true_and, Nat.zero_add, Nat.add_zero, Option.map_some, h1', hwl, h2', el, dPick_t, dPick_f, bd_instr0, hz]
    refine ret_at (res_i (n := 0) (e := 130) (by simp -implicitDefEqProofs (disch := first | omega | (simp -implicitDefEqProofs only [go_sem, List.size_toArray, List.length_cons, List.length_nil, Nat.reduceAdd]; done)) only [go_sem, Int.reduceLT, Int.reduceLE, Int.reduceEq, reduceIte, true_and, Nat.zero_add, Nat.add_zero, Option.map_some]) (by simp -implicitDefEqProofs (disch := first | omega | (simp -implicitDefEqProofs only [go_sem, List.size_toArray, List.length_cons, List.length_nil, Nat.reduceAdd]; done)) only [go_sem, Int.reduceLT, Int.reduceLE, Int.reduceEq, reduceIte, true_and, Nat.zero_add, Nat.add_zero, Option.map_some]) (by simp -implicitDefEqProofs (disch := first | omega | (simp -implicitDefEqProofs only [go_sem, List.size_toArray, List.length_cons, List.length_nil, Nat.reduceAdd]; done)) only [go_sem, Int.reduceLT, Int.reduceLE, Int.reduceEq, reduceIte, true_and, Nat.zero_add, Nat.add_zero, Option.map_some]) g) ⟨?_, hE⟩
    rw [oneT, if_neg (by omega), hopn, if_pos (.inr h2)]
  obtain ⟨f, hf⟩ : ∃ f, formL.getD opn 0 = f := ⟨_, rfl⟩
  rw [hf] at t2 t3 t4 t5 t6
  have hs := sizeI_le opn
  obtain ⟨w1, w2, w3, w4⟩ := size_split t8
  have hT : oneT l i = if indexE (oneI l i) = 0 then (oneI l i, i + sizeI opn, 0) else (zeroInstr, 0, indexE (oneI l i)) := by
    rw [oneT, if_neg (by omega), hopn, if_neg (by omega)]
  have hsz : sizeI opn = 1 + (if firstB opn then 1 else 0) + (if twoB opn then 1 else 0) + wideI opn := by unfold wideI; omega
  have hst5 : ∀ a b c d e : Int, storeAt (H.push (.row [.int .i64 0, .int .i64 0, .int .i64 0, .int .i64 0, .int .i64 0] 0 false)) H.next 0 [.int .i64 a, .int .i64 b, .int .i64 c, .int .i64 d, .int .i64 e] = some (H.push (.row (fInstr.enc ⟨a, b, c, d, e⟩) 0 false)) := fun a b c d e => store5_push rfl
  have cI : ∀ x, cellAt (H.push (.row (fInstr.enc x) 0 false)) H.next 1 = some (.int .i64 x.op) := fun x => cellAt_row (get_push_same _ _)
  have lc : ∀ x, cellsAt (H.push (.row (fInstr.enc x) 0 false)) H.next 0 5 = some (instrV x) := fun x => by rw [cellsAt_row (get_push_same _ _) (Nat.le_of_ble_eq_true rfl)]; rfl
  have hEP : ∀ o, Ext h (H.push o) := fun o => hE.push o
  have hw1 : IntKind.i64.wrap ((i : Int) + 1) = ((i + 1 : Nat) : Int) := by rw [wrap_i64_in (by omega) (by omega)]; omega
  obtain ⟨m, hm⟩ : ∃ m : Nat, (m : Int) = i + sizeI opn := ⟨(i + sizeI opn).toNat, by omega⟩
  have hw2 : IntKind.i64.wrap ((i : Int) + sizeI opn) = (m : Nat) := by rw [wrap_i64_in (by omega) (by omega)]; omega
  obtain ⟨u0, hu0, hr0⟩ := part_of hb (i := i + 1) (j := m) (by omega) (by omega)
  simp -implicitDefEqProofs (disch := first | omega | (simp -implicitDefEqProofs only [go_sem, List.size_toArray, List.length_cons, List.length_nil, Nat.reduceAdd]; done)) only [go_sem, Int.reduceLT, Int.reduceLE, Int.reduceEq, reduceIte, true_and, Nat.zero_add, Nat.add_zero, Option.map_some, h1', hwl, h2, el, dPick_t, dPick_f, ia0, lb0 H hE, hw0, bd_instr2, hst5, cI]
  refine ncall form_c ?_
  rw [hf]
  simp -implicitDefEqProofs (disch := first | omega | (simp -implicitDefEqProofs only [go_sem, List.size_toArray, List.length_cons, List.length_nil, Nat.reduceAdd]; done)) only [go_sem, Int.reduceLT, Int.reduceLE, Int.reduceEq, reduceIte, true_and, Nat.zero_add, Nat.add_zero, Option.map_some, hw1, hw2, hu0 _ (hEP _), ↓bin_andI]
  -- what the rest begins with
  have hd : ∀ (u : Value) (k : Nat), Arg fU8.rep h u ((l.take m).drop k) → k < m → ∃ id o u', dIndexAddr Try.prog 22 u (.int .i64 0) = some (.pointer (some ⟨id, o, none⟩)) ∧ (∀ K, Ext h K → cellAt K id o = some (.int .u8 (l.getD k 0))) ∧ (∀ K, Ext h K → dSlice Try.prog 22 u (some (.int .i64 1)) none none K = some u') ∧ Arg fU8.rep h u' ((l.take m).drop (k + 1)) := by
    intro u k hu hk
    have hlen : ((l.take m).drop k).length = m - k := by rw [List.length_drop, List.length_take, Nat.min_eq_left (by omega)]
    obtain ⟨id, o, e1, e2, _, _⟩ := byte_at hu (i := 0) (by omega)
    obtain ⟨u', e3, e4⟩ := rest_of hu (k := 1) (by omega)
    rw [getD_part (by omega)] at e2
    rw [List.drop_drop] at e4
    exact ⟨id, o, u', e1, e2, e3, e4⟩
  have hwx : ∀ j, IntKind.i64.wrap (l.getD j 0) = l.getD j 0 := fun j => by
    have := hbyte j
    exact wrap_i64_in (by omega) (by omega)
  have hsp : ∀ a b, (H.push (.row (fInstr.enc a) 0 false)).set H.next (.row (fInstr.enc b) 0 false) = H.push (.row (fInstr.enc b) 0 false) := fun a b => set_push_same _ _ _
  have sA : ∀ a b n c d e, storeAt (H.push (.row (fInstr.enc ⟨a, b, n, c, d⟩) 0 false)) H.next 2 [.int .i64 e] = some (H.push (.row (fInstr.enc ⟨a, b, e, c, d⟩) 0 false)) := fun a b n c d e => by
    rw [storeAt_row (get_push_same _ _) (Nat.le_of_ble_eq_true rfl) rfl]
    exact congrArg some (set_push_same _ _ _)
  have sB : ∀ a b n c d e, storeAt (H.push (.row (fInstr.enc ⟨a, b, n, c, d⟩) 0 false)) H.next 3 [.int .i64 e] = some (H.push (.row (fInstr.enc ⟨a, b, n, e, d⟩) 0 false)) := fun a b n c d e => by
    rw [storeAt_row (get_push_same _ _) (Nat.le_of_ble_eq_true rfl) rfl]
    exact congrArg some (set_push_same _ _ _)
  have sC : ∀ a b n c d e, storeAt (H.push (.row (fInstr.enc ⟨a, b, n, c, d⟩) 0 false)) H.next 4 [.int .i64 e] = some (H.push (.row (fInstr.enc ⟨a, b, n, c, e⟩) 0 false)) := fun a b n c d e => by
    rw [storeAt_row (get_push_same _ _) (Nat.le_of_ble_eq_true rfl) rfl]
    exact congrArg some (set_push_same _ _ _)
  obtain ⟨k2, hk2⟩ : ∃ k2, k2 = i + 1 + if firstB opn then 1 else 0 := ⟨_, rfl⟩
  obtain ⟨xa, hxa⟩ : ∃ xa, xa = if firstB opn then l.getD (i + 1) 0 else 0 := ⟨_, rfl⟩
  have hk2l : (k2 : Int) + (if twoB opn then 1 else 0) + wideI opn = m := by
    rw [hm, hk2, hsz]
    split <;> simp <;> omega
  refine XIf_cut (fun s => ∃ u, OnM h.next H v i opn f xa 0 0 u s ∧ Arg fU8.rep h u ((l.take m).drop k2)) (fun ht => ?_) (fun ht => ?_) ?_
  · have hf1 : firstB opn = true := by
      cases hh : firstB opn with
      | true => rfl
      | false => rw [decide_eq_true (t2.2 hh)] at ht; cases ht
    rw [hf1] at hk2 hxa
    simp only [if_true] at hk2 hxa
    obtain ⟨id1, o1, u1, e1, e2, e3, e4⟩ := hd u0 (i + 1) hr0 (by
      rw [hf1] at hsz
      simp only [if_true] at hsz
      have : 0 ≤ (if twoB opn then (1 : Int) else 0) := by split <;> omega
      omega)
    rw [← hxa] at e2
    refine NC.mono (one_region0 (K1 := H.push (.row (fInstr.enc ⟨(i : Nat), opn, xa, 0, 0⟩) 0 false)) (x := xa) (B := H.next) (by simp -implicitDefEqProofs (disch := first | omega | (simp -implicitDefEqProofs only [go_sem, List.size_toArray, List.length_cons, List.length_nil, Nat.reduceAdd]; done)) only [go_sem, Int.reduceLT, Int.reduceLE, Int.reduceEq, reduceIte, true_and, Nat.zero_add, Nat.add_zero, Option.map_some]) (by simp -implicitDefEqProofs (disch := first | omega | (simp -implicitDefEqProofs only [go_sem, List.size_toArray, List.length_cons, List.length_nil, Nat.reduceAdd]; done)) only [go_sem, Int.reduceLT, Int.reduceLE, Int.reduceEq, reduceIte, true_and, Nat.zero_add, Nat.add_zero, Option.map_some]) e1 (e2 _ (hEP _)) (e2 _ (hEP _)) (by rw [hxa]; exact hwx _) (e3 _ (hEP _)) (e3 _ (hEP _)) (sA _ _ _ _ _ _) (sA _ _ _ _ _ _)) ?_
    rintro e ⟨fr1, df1, hh1, rd1⟩ hM
    cases e <;> try exact hM.elim
    obtain ⟨rfl, rfl, rfl, q12, q0, q1, q4, q7, q9, q10⟩ := hM
    refine ⟨u1, ⟨rfl, rfl, q0.trans (by simp -implicitDefEqProofs (disch := first | omega | (simp -implicitDefEqProofs only [go_sem, List.size_toArray, List.length_cons, List.length_nil, Nat.reduceAdd]; done)) only [go_sem, Int.reduceLT, Int.reduceLE, Int.reduceEq, reduceIte, true_and, Nat.zero_add, Nat.add_zero, Option.map_some]), q1.trans (by simp -implicitDefEqProofs (disch := first | omega | (simp -implicitDefEqProofs only [go_sem, List.size_toArray, List.length_cons, List.length_nil, Nat.reduceAdd]; done)) only [go_sem, Int.reduceLT, Int.reduceLE, Int.reduceEq, reduceIte, true_and, Nat.zero_add, Nat.add_zero, Option.map_some]), q4.trans (by simp -implicitDefEqProofs (disch := first | omega | (simp -implicitDefEqProofs only [go_sem, List.size_toArray, List.length_cons, List.length_nil, Nat.reduceAdd]; done)) only [go_sem, Int.reduceLT, Int.reduceLE, Int.reduceEq, reduceIte, true_and, Nat.zero_add, Nat.add_zero, Option.map_some]), q7.trans (by simp -implicitDefEqProofs (disch := first | omega | (simp -implicitDefEqProofs only [go_sem, List.size_toArray, List.length_cons, List.length_nil, Nat.reduceAdd]; done)) only [go_sem, Int.reduceLT, Int.reduceLE, Int.reduceEq, reduceIte, true_and, Nat.zero_add, Nat.add_zero, Option.map_some]), q9.trans (by simp -implicitDefEqProofs (disch := first | omega | (simp -implicitDefEqProofs only [go_sem, List.size_toArray, List.length_cons, List.length_nil, Nat.reduceAdd]; done)) only [go_sem, Int.reduceLT, Int.reduceLE, Int.reduceEq, reduceIte, true_and, Nat.zero_add, Nat.add_zero, Option.map_some]), q10.trans (by simp -implicitDefEqProofs (disch := first | omega | (simp -implicitDefEqProofs only [go_sem, List.size_toArray, List.length_cons, List.length_nil, Nat.reduceAdd]; done)) only [go_sem, Int.reduceLT, Int.reduceLE, Int.reduceEq, reduceIte, true_and, Nat.zero_add, Nat.add_zero, Option.map_some]), q12, rfl⟩, ?_⟩
    rw [hk2]
    exact e4
  · have hf1 : firstB opn = false := by
      cases hh : firstB opn with
      | false => rfl
      | true => rw [decide_eq_false (fun h => by rw [t2.1 h] at hh; cases hh)] at ht; cases ht
    rw [hf1] at hk2 hxa
    simp only [Bool.false_eq_true, if_false, Nat.add_zero] at hk2 hxa
    simp -implicitDefEqProofs (disch := first | omega | (simp -implicitDefEqProofs only [go_sem, List.size_toArray, List.length_cons, List.length_nil, Nat.reduceAdd]; done)) only [go_sem, Int.reduceLT, Int.reduceLE, Int.reduceEq, reduceIte, true_and, Nat.zero_add, Nat.add_zero, Option.map_some]
    refine ⟨u0, ⟨rfl, rfl, by simp -implicitDefEqProofs (disch := first | omega | (simp -implicitDefEqProofs only [go_sem, List.size_toArray, List.length_cons, List.length_nil, Nat.reduceAdd]; done)) only [go_sem, Int.reduceLT, Int.reduceLE, Int.reduceEq, reduceIte, true_and, Nat.zero_add, Nat.add_zero, Option.map_some], by simp -implicitDefEqProofs (disch := first | omega | (simp -implicitDefEqProofs only [go_sem, List.size_toArray, List.length_cons, List.length_nil, Nat.reduceAdd]; done)) only [go_sem, Int.reduceLT, Int.reduceLE, Int.reduceEq, reduceIte, true_and, Nat.zero_add, Nat.add_zero, Option.map_some], by simp -implicitDefEqProofs (disch := first | omega | (simp -implicitDefEqProofs only [go_sem, List.size_toArray, List.length_cons, List.length_nil, Nat.reduceAdd]; done)) only [go_sem, Int.reduceLT, Int.reduceLE, Int.reduceEq, reduceIte, true_and, Nat.zero_add, Nat.add_zero, Option.map_some], by simp -implicitDefEqProofs (disch := first | omega | (simp -implicitDefEqProofs only [go_sem, List.size_toArray, List.length_cons, List.length_nil, Nat.reduceAdd]; done)) only [go_sem, Int.reduceLT, Int.reduceLE, Int.reduceEq, reduceIte, true_and, Nat.zero_add, Nat.add_zero, Option.map_some], by simp -implicitDefEqProofs (disch := first | omega | (simp -implicitDefEqProofs only [go_sem, List.size_toArray, List.length_cons, List.length_nil, Nat.reduceAdd]; done)) only [go_sem, Int.reduceLT, Int.reduceLE, Int.reduceEq, reduceIte, true_and, Nat.zero_add, Nat.add_zero, Option.map_some], by simp -implicitDefEqProofs (disch := first | omega | (simp -implicitDefEqProofs only [go_sem, List.size_toArray, List.length_cons, List.length_nil, Nat.reduceAdd]; done)) only [go_sem, Int.reduceLT, Int.reduceLE, Int.reduceEq, reduceIte, true_and, Nat.zero_add, Nat.add_zero, Option.map_some], by simp -implicitDefEqProofs (disch := first | omega | (simp -implicitDefEqProofs only [go_sem, List.size_toArray, List.length_cons, List.length_nil, Nat.reduceAdd]; done)) only [go_sem, Int.reduceLT, Int.reduceLE, Int.reduceEq, reduceIte, true_and, Nat.zero_add, Nat.add_zero, Option.map_some], by rw [hxa]⟩, ?_⟩
    rw [hk2]
    exact hr0
  rintro ⟨fr, df, K, rd⟩ ⟨u1, ⟨rfl, rfl, f0, f1, f4, f7, f9, f10, f12, hK⟩, hr1⟩
  simp only at f0 f1 f4 f7 f9 f10 f12 hK
  subst hK
  obtain ⟨k3, hk3⟩ : ∃ k3, k3 = k2 + if twoB opn then 1 else 0 := ⟨_, rfl⟩
  obtain ⟨xb, hxb⟩ : ∃ xb, xb = if twoB opn then l.getD k2 0 else 0 := ⟨_, rfl⟩
  have hk3l : (k3 : Int) + wideI opn = m := by
    rw [← hk2l, hk3]
    split <;> simp
  simp -implicitDefEqProofs (disch := first | omega | (simp -implicitDefEqProofs only [go_sem, List.size_toArray, List.length_cons, List.length_nil, Nat.reduceAdd]; done)) only [go_sem, Int.reduceLT, Int.reduceLE, Int.reduceEq, reduceIte, true_and, Nat.zero_add, Nat.add_zero, Option.map_some, f10, ↓bin_andI]
  refine XIf_cut (fun s => ∃ u, OnM h.next H v i opn f xa xb 0 u s ∧ Arg fU8.rep h u ((l.take m).drop k3)) (fun ht => ?_) (fun ht => ?_) ?_
  · have hf1 : twoB opn = true := by
      cases hh : twoB opn with
      | true => rfl
      | false => rw [decide_eq_true (t3.2 hh)] at ht; cases ht
    rw [hf1] at hk3 hxb hk2l
    simp only [if_true] at hk3 hxb hk2l
    obtain ⟨id1, o1, u2, e1, e2, e3, e4⟩ := hd u1 k2 hr1 (by omega)
    rw [← hxb] at e2
    refine NC.mono (one_region1 (K1 := H.push (.row (fInstr.enc ⟨(i : Nat), opn, xa, xb, 0⟩) 0 false)) (x := xb) (B := H.next) (by simp -implicitDefEqProofs (disch := first | omega | (simp -implicitDefEqProofs only [go_sem, List.size_toArray, List.length_cons, List.length_nil, Nat.reduceAdd]; done)) only [go_sem, Int.reduceLT, Int.reduceLE, Int.reduceEq, reduceIte, true_and, Nat.zero_add, Nat.add_zero, Option.map_some, f9]) (by simp -implicitDefEqProofs (disch := first | omega | (simp -implicitDefEqProofs only [go_sem, List.size_toArray, List.length_cons, List.length_nil, Nat.reduceAdd]; done)) only [go_sem, Int.reduceLT, Int.reduceLE, Int.reduceEq, reduceIte, true_and, Nat.zero_add, Nat.add_zero, Option.map_some, f12]) e1 (e2 _ (hEP _)) (e2 _ (hEP _)) (by rw [hxb]; exact hwx _) (e3 _ (hEP _)) (e3 _ (hEP _)) (sB _ _ _ _ _ _) (sB _ _ _ _ _ _)) ?_
    rintro e ⟨fr1, df1, hh1, rd1⟩ hM
    cases e <;> try exact hM.elim
    obtain ⟨rfl, rfl, rfl, q12, q0, q1, q4, q7, q9, q10⟩ := hM
    refine ⟨u2, ⟨rfl, rfl, q0.trans (by simp -implicitDefEqProofs (disch := first | omega | (simp -implicitDefEqProofs only [go_sem, List.size_toArray, List.length_cons, List.length_nil, Nat.reduceAdd]; done)) only [go_sem, Int.reduceLT, Int.reduceLE, Int.reduceEq, reduceIte, true_and, Nat.zero_add, Nat.add_zero, Option.map_some, f0]), q1.trans (by simp -implicitDefEqProofs (disch := first | omega | (simp -implicitDefEqProofs only [go_sem, List.size_toArray, List.length_cons, List.length_nil, Nat.reduceAdd]; done)) only [go_sem, Int.reduceLT, Int.reduceLE, Int.reduceEq, reduceIte, true_and, Nat.zero_add, Nat.add_zero, Option.map_some, f1]), q4.trans (by simp -implicitDefEqProofs (disch := first | omega | (simp -implicitDefEqProofs only [go_sem, List.size_toArray, List.length_cons, List.length_nil, Nat.reduceAdd]; done)) only [go_sem, Int.reduceLT, Int.reduceLE, Int.reduceEq, reduceIte, true_and, Nat.zero_add, Nat.add_zero, Option.map_some, f4]), q7.trans (by simp -implicitDefEqProofs (disch := first | omega | (simp -implicitDefEqProofs only [go_sem, List.size_toArray, List.length_cons, List.length_nil, Nat.reduceAdd]; done)) only [go_sem, Int.reduceLT, Int.reduceLE, Int.reduceEq, reduceIte, true_and, Nat.zero_add, Nat.add_zero, Option.map_some, f7]), q9.trans (by simp -implicitDefEqProofs (disch := first | omega | (simp -implicitDefEqProofs only [go_sem, List.size_toArray, List.length_cons, List.length_nil, Nat.reduceAdd]; done)) only [go_sem, Int.reduceLT, Int.reduceLE, Int.reduceEq, reduceIte, true_and, Nat.zero_add, Nat.add_zero, Option.map_some, f9]), q10.trans (by simp -implicitDefEqProofs (disch := first | omega | (simp -implicitDefEqProofs only [go_sem, List.size_toArray, List.length_cons, List.length_nil, Nat.reduceAdd]; done)) only [go_sem, Int.reduceLT, Int.reduceLE, Int.reduceEq, reduceIte, true_and, Nat.zero_add, Nat.add_zero, Option.map_some, f10]), q12, rfl⟩, ?_⟩
    rw [hk3]
    exact e4
  · have hf1 : twoB opn = false := by
      cases hh : twoB opn with
      | false => rfl
      | true => rw [decide_eq_false (fun h => by rw [t3.1 h] at hh; cases hh)] at ht; cases ht
    rw [hf1] at hk3 hxb
    simp only [Bool.false_eq_true, if_false, Nat.add_zero] at hk3 hxb
    simp -implicitDefEqProofs (disch := first | omega | (simp -implicitDefEqProofs only [go_sem, List.size_toArray, List.length_cons, List.length_nil, Nat.reduceAdd]; done)) only [go_sem, Int.reduceLT, Int.reduceLE, Int.reduceEq, reduceIte, true_and, Nat.zero_add, Nat.add_zero, Option.map_some]
    refine ⟨u1, ⟨rfl, rfl, by simp -implicitDefEqProofs (disch := first | omega | (simp -implicitDefEqProofs only [go_sem, List.size_toArray, List.length_cons, List.length_nil, Nat.reduceAdd]; done)) only [go_sem, Int.reduceLT, Int.reduceLE, Int.reduceEq, reduceIte, true_and, Nat.zero_add, Nat.add_zero, Option.map_some, f0], by simp -implicitDefEqProofs (disch := first | omega | (simp -implicitDefEqProofs only [go_sem, List.size_toArray, List.length_cons, List.length_nil, Nat.reduceAdd]; done)) only [go_sem, Int.reduceLT, Int.reduceLE, Int.reduceEq, reduceIte, true_and, Nat.zero_add, Nat.add_zero, Option.map_some, f1], by simp -implicitDefEqProofs (disch := first | omega | (simp -implicitDefEqProofs only [go_sem, List.size_toArray, List.length_cons, List.length_nil, Nat.reduceAdd]; done)) only [go_sem, Int.reduceLT, Int.reduceLE, Int.reduceEq, reduceIte, true_and, Nat.zero_add, Nat.add_zero, Option.map_some, f4], by simp -implicitDefEqProofs (disch := first | omega | (simp -implicitDefEqProofs only [go_sem, List.size_toArray, List.length_cons, List.length_nil, Nat.reduceAdd]; done)) only [go_sem, Int.reduceLT, Int.reduceLE, Int.reduceEq, reduceIte, true_and, Nat.zero_add, Nat.add_zero, Option.map_some, f7], by simp -implicitDefEqProofs (disch := first | omega | (simp -implicitDefEqProofs only [go_sem, List.size_toArray, List.length_cons, List.length_nil, Nat.reduceAdd]; done)) only [go_sem, Int.reduceLT, Int.reduceLE, Int.reduceEq, reduceIte, true_and, Nat.zero_add, Nat.add_zero, Option.map_some, f9], by simp -implicitDefEqProofs (disch := first | omega | (simp -implicitDefEqProofs only [go_sem, List.size_toArray, List.length_cons, List.length_nil, Nat.reduceAdd]; done)) only [go_sem, Int.reduceLT, Int.reduceLE, Int.reduceEq, reduceIte, true_and, Nat.zero_add, Nat.add_zero, Option.map_some, f10], by simp -implicitDefEqProofs (disch := first | omega | (simp -implicitDefEqProofs only [go_sem, List.size_toArray, List.length_cons, List.length_nil, Nat.reduceAdd]; done)) only [go_sem, Int.reduceLT, Int.reduceLE, Int.reduceEq, reduceIte, true_and, Nat.zero_add, Nat.add_zero, Option.map_some, f12], by rw [hxb]⟩, ?_⟩
    rw [hk3]
    exact hr1
  clear f0 f1 f4 f7 f9 f10 f12 fr
  rintro ⟨fr, df, K, rd⟩ ⟨u2, ⟨rfl, rfl, f0, f1, f4, f7, f9, f10, f12, hK⟩, hr2⟩
  simp only at f0 f1 f4 f7 f9 f10 f12 hK
  subst hK
  simp -implicitDefEqProofs (disch := first | omega | (simp -implicitDefEqProofs only [go_sem, List.size_toArray, List.length_cons, List.length_nil, Nat.reduceAdd]; done)) only [go_sem, Int.reduceLT, Int.reduceLE, Int.reduceEq, reduceIte, true_and, Nat.zero_add, Nat.add_zero, Option.map_some, f10, ↓bin_andI]
  obtain ⟨w, hw⟩ : ∃ w, wideI opn = w := ⟨_, rfl⟩
  rw [hw] at w1 w2 hk3l t4 t6 t7
  obtain ⟨x, hx⟩ : ∃ x, l.getD k3 0 = x := ⟨_, rfl⟩
  obtain ⟨y, hy⟩ : ∃ y, l.getD (k3 + 1) 0 = y := ⟨_, rfl⟩
  have hone : oneI l i = ⟨(i : Nat), opn, xa, xb, immW opn w x y⟩ := by
    unfold oneI
    simp only [hopn, ← hxa, ← hk2, ← hxb, ← hk3, hw, hx, hy]
  have bx := hbyte k3
  have b_y := hbyte (k3 + 1)
  rw [hx] at bx
  rw [hy] at b_y
  have hwx1 : IntKind.i64.wrap x = x := wrap_i64_in (by omega) (by omega)
  have hux : IntKind.u16.wrap x = x := wrap_in (inK_u16.2 ⟨by omega, by omega⟩)
  have huy : IntKind.u16.wrap y = y := wrap_in (inK_u16.2 ⟨by omega, by omega⟩)
  have hor := orH_eq bx.1 bx.2 b_y.1 b_y.2
  have two : w = 2 → ∃ id0 o0 id1 o1, dIndexAddr Try.prog 22 u2 (.int .i64 0) = some (.pointer (some ⟨id0, o0, none⟩)) ∧ dIndexAddr Try.prog 22 u2 (.int .i64 1) = some (.pointer (some ⟨id1, o1, none⟩)) ∧ (∀ K, Ext h K → cellAt K id0 o0 = some (.int .u8 x)) ∧ ∀ K, Ext h K → cellAt K id1 o1 = some (.int .u8 y) := fun hw2 => by
    have hlen : ((l.take m).drop k3).length = m - k3 := by rw [List.length_drop, List.length_take, Nat.min_eq_left (by omega)]
    obtain ⟨id0, o0, e1, e2, _, _⟩ := byte_at hr2 (i := 0) (by omega)
    obtain ⟨id1, o1, e3, e4, _, _⟩ := byte_at hr2 (i := 1) (by omega)
    rw [getD_part (by omega)] at e2 e4
    rw [Nat.add_zero, hx] at e2
    rw [hy] at e4
    exact ⟨id0, o0, id1, o1, e1, e3, e2, e4⟩
  refine XIf_cutB (OnE h.next H i opn (oneI l i)) (fun ht => ?_) (fun ht => ?_) ?_
  · have hw1' : w = 1 := by
      cases Int.decEq w 1 with
      | isTrue e => exact e
      | isFalse e => rw [decide_eq_true (t4.2 e)] at ht; cases ht
    obtain ⟨id1, o1, u3, e1, e2, _, _⟩ := hd u2 k3 hr2 (by omega)
    rw [hx] at e2
    simp -implicitDefEqProofs (disch := first | omega | (simp -implicitDefEqProofs only [go_sem, List.size_toArray, List.length_cons, List.length_nil, Nat.reduceAdd]; done)) only [go_sem, Int.reduceLT, Int.reduceLE, Int.reduceEq, reduceIte, true_and, Nat.zero_add, Nat.add_zero, Option.map_some, f9, f12, e1, e2 _ (hEP _), hwx1, sC]
    refine ⟨rfl, rfl, by simp -implicitDefEqProofs (disch := first | omega | (simp -implicitDefEqProofs only [go_sem, List.size_toArray, List.length_cons, List.length_nil, Nat.reduceAdd]; done)) only [go_sem, Int.reduceLT, Int.reduceLE, Int.reduceEq, reduceIte, true_and, Nat.zero_add, Nat.add_zero, Option.map_some, f1], by simp -implicitDefEqProofs (disch := first | omega | (simp -implicitDefEqProofs only [go_sem, List.size_toArray, List.length_cons, List.length_nil, Nat.reduceAdd]; done)) only [go_sem, Int.reduceLT, Int.reduceLE, Int.reduceEq, reduceIte, true_and, Nat.zero_add, Nat.add_zero, Option.map_some, f4], by simp -implicitDefEqProofs (disch := first | omega | (simp -implicitDefEqProofs only [go_sem, List.size_toArray, List.length_cons, List.length_nil, Nat.reduceAdd]; done)) only [go_sem, Int.reduceLT, Int.reduceLE, Int.reduceEq, reduceIte, true_and, Nat.zero_add, Nat.add_zero, Option.map_some, f7], by simp -implicitDefEqProofs (disch := first | omega | (simp -implicitDefEqProofs only [go_sem, List.size_toArray, List.length_cons, List.length_nil, Nat.reduceAdd]; done)) only [go_sem, Int.reduceLT, Int.reduceLE, Int.reduceEq, reduceIte, true_and, Nat.zero_add, Nat.add_zero, Option.map_some, f9], ?_⟩
    rw [hone]
    rw [immW, if_neg (by omega), if_pos (by omega)]
  · have hw1' : w ≠ 1 := fun e => by
      rw [decide_eq_false (fun h => t4.1 h e)] at ht
      cases ht
    simp -implicitDefEqProofs (disch := first | omega | (simp -implicitDefEqProofs only [go_sem, List.size_toArray, List.length_cons, List.length_nil, Nat.reduceAdd]; done)) only [go_sem, Int.reduceLT, Int.reduceLE, Int.reduceEq, reduceIte, true_and, Nat.zero_add, Nat.add_zero, Option.map_some, f10, ↓bin_andI]
    refine XIf_split (fun ht => ?_) (fun ht => ?_)
    · have ho1 : opn = 1 := by
        cases Nat.decEq opn 1 with
        | isTrue e => exact e
        | isFalse e => rw [decide_eq_true (t5.2 e)] at ht; cases ht
      have hw2' := t7 ho1
      obtain ⟨id0', o0', id1, o1, e1, e2, e3, e4⟩ := two hw2'
      have hsg := wrap_i16 (n := x + 256 * y) (by omega) (by omega)
      obtain ⟨z, hz⟩ : ∃ z, IntKind.i16.wrap (x + 256 * y) = z := ⟨_, rfl⟩
      have hzz : IntKind.i64.wrap z = z := by
        rw [hz] at hsg
        split at hsg <;> exact wrap_i64_in (by omega) (by omega)
      have himm : immW opn w x y = z := by
        rw [← hz, hsg]
        unfold immW
        rw [if_pos hw2', ho1]
        by_cases hb : 32768 ≤ x + 256 * y
        · simp [hb]
        · simp [hb]
      refine dr_70_2 ?_
      simp -implicitDefEqProofs (disch := first | omega | (simp -implicitDefEqProofs only [go_sem, List.size_toArray, List.length_cons, List.length_nil, Nat.reduceAdd]; done)) only [go_sem, Int.reduceLT, Int.reduceLE, Int.reduceEq, reduceIte, true_and, Nat.zero_add, Nat.add_zero, Option.map_some, l70_2, f9, f12, e1, e2, e3 _ (hEP _), e4 _ (hEP _), hux, huy, bin_shl8, ↓bin_orH, hor, hz, hzz, sC]
      refine ⟨rfl, rfl, by simp -implicitDefEqProofs (disch := first | omega | (simp -implicitDefEqProofs only [go_sem, List.size_toArray, List.length_cons, List.length_nil, Nat.reduceAdd]; done)) only [go_sem, Int.reduceLT, Int.reduceLE, Int.reduceEq, reduceIte, true_and, Nat.zero_add, Nat.add_zero, Option.map_some, f1], by simp -implicitDefEqProofs (disch := first | omega | (simp -implicitDefEqProofs only [go_sem, List.size_toArray, List.length_cons, List.length_nil, Nat.reduceAdd]; done)) only [go_sem, Int.reduceLT, Int.reduceLE, Int.reduceEq, reduceIte, true_and, Nat.zero_add, Nat.add_zero, Option.map_some, f4], by simp -implicitDefEqProofs (disch := first | omega | (simp -implicitDefEqProofs only [go_sem, List.size_toArray, List.length_cons, List.length_nil, Nat.reduceAdd]; done)) only [go_sem, Int.reduceLT, Int.reduceLE, Int.reduceEq, reduceIte, true_and, Nat.zero_add, Nat.add_zero, Option.map_some, f7], by simp -implicitDefEqProofs (disch := first | omega | (simp -implicitDefEqProofs only [go_sem, List.size_toArray, List.length_cons, List.length_nil, Nat.reduceAdd]; done)) only [go_sem, Int.reduceLT, Int.reduceLE, Int.reduceEq, reduceIte, true_and, Nat.zero_add, Nat.add_zero, Option.map_some, f9], ?_⟩
      rw [hone, himm]
    · have ho1 : opn ≠ 1 := fun e => by
        rw [decide_eq_false (fun h => t5.1 h e)] at ht
        cases ht
      simp -implicitDefEqProofs (disch := first | omega | (simp -implicitDefEqProofs only [go_sem, List.size_toArray, List.length_cons, List.length_nil, Nat.reduceAdd]; done)) only [go_sem, Int.reduceLT, Int.reduceLE, Int.reduceEq, reduceIte, true_and, Nat.zero_add, Nat.add_zero, Option.map_some, f10, ↓bin_andI]
      refine XIf_split (fun ht => ?_) (fun ht => ?_)
      · have hw2' : w = 2 := by
          cases Int.decEq w 2 with
          | isTrue e => exact e
          | isFalse e => rw [decide_eq_true (t6.2 fun hh => e hh.1)] at ht; cases ht
        obtain ⟨id0', o0', id1, o1, e1, e2, e3, e4⟩ := two hw2'
        have hzz : IntKind.i64.wrap (x + 256 * y) = x + 256 * y := wrap_i64_in (by omega) (by omega)
        refine dr_70_3 ?_
        simp -implicitDefEqProofs (disch := first | omega | (simp -implicitDefEqProofs only [go_sem, List.size_toArray, List.length_cons, List.length_nil, Nat.reduceAdd]; done)) only [go_sem, Int.reduceLT, Int.reduceLE, Int.reduceEq, reduceIte, true_and, Nat.zero_add, Nat.add_zero, Option.map_some, l70_3, f9, f12, e1, e2, e3 _ (hEP _), e4 _ (hEP _), hux, huy, bin_shl8, ↓bin_orH, hor, hzz, sC]
        refine ⟨rfl, rfl, by simp -implicitDefEqProofs (disch := first | omega | (simp -implicitDefEqProofs only [go_sem, List.size_toArray, List.length_cons, List.length_nil, Nat.reduceAdd]; done)) only [go_sem, Int.reduceLT, Int.reduceLE, Int.reduceEq, reduceIte, true_and, Nat.zero_add, Nat.add_zero, Option.map_some, f1], by simp -implicitDefEqProofs (disch := first | omega | (simp -implicitDefEqProofs only [go_sem, List.size_toArray, List.length_cons, List.length_nil, Nat.reduceAdd]; done)) only [go_sem, Int.reduceLT, Int.reduceLE, Int.reduceEq, reduceIte, true_and, Nat.zero_add, Nat.add_zero, Option.map_some, f4], by simp -implicitDefEqProofs (disch := first | omega | (simp -implicitDefEqProofs only [go_sem, List.size_toArray, List.length_cons, List.length_nil, Nat.reduceAdd]; done)) only [go_sem, Int.reduceLT, Int.reduceLE, Int.reduceEq, reduceIte, true_and, Nat.zero_add, Nat.add_zero, Option.map_some, f7], by simp -implicitDefEqProofs (disch := first | omega | (simp -implicitDefEqProofs only [go_sem, List.size_toArray, List.length_cons, List.length_nil, Nat.reduceAdd]; done)) only [go_sem, Int.reduceLT, Int.reduceLE, Int.reduceEq, reduceIte, true_and, Nat.zero_add, Nat.add_zero, Option.map_some, f9], ?_⟩
        rw [hone]
        rw [immW, if_pos hw2', if_neg (fun hh => ho1 (by have := hh.1; omega))]
      · have hw2' : w ≠ 2 := fun e => by
          rw [decide_eq_false (fun h => t6.1 h ⟨e, ho1⟩)] at ht
          cases ht
        simp -implicitDefEqProofs (disch := first | omega | (simp -implicitDefEqProofs only [go_sem, List.size_toArray, List.length_cons, List.length_nil, Nat.reduceAdd]; done)) only [go_sem, Int.reduceLT, Int.reduceLE, Int.reduceEq, reduceIte, true_and, Nat.zero_add, Nat.add_zero, Option.map_some]
        refine ⟨rfl, rfl, by simp -implicitDefEqProofs (disch := first | omega | (simp -implicitDefEqProofs only [go_sem, List.size_toArray, List.length_cons, List.length_nil, Nat.reduceAdd]; done)) only [go_sem, Int.reduceLT, Int.reduceLE, Int.reduceEq, reduceIte, true_and, Nat.zero_add, Nat.add_zero, Option.map_some, f1], by simp -implicitDefEqProofs (disch := first | omega | (simp -implicitDefEqProofs only [go_sem, List.size_toArray, List.length_cons, List.length_nil, Nat.reduceAdd]; done)) only [go_sem, Int.reduceLT, Int.reduceLE, Int.reduceEq, reduceIte, true_and, Nat.zero_add, Nat.add_zero, Option.map_some, f4], by simp -implicitDefEqProofs (disch := first | omega | (simp -implicitDefEqProofs only [go_sem, List.size_toArray, List.length_cons, List.length_nil, Nat.reduceAdd]; done)) only [go_sem, Int.reduceLT, Int.reduceLE, Int.reduceEq, reduceIte, true_and, Nat.zero_add, Nat.add_zero, Option.map_some, f7], by simp -implicitDefEqProofs (disch := first | omega | (simp -implicitDefEqProofs only [go_sem, List.size_toArray, List.length_cons, List.length_nil, Nat.reduceAdd]; done)) only [go_sem, Int.reduceLT, Int.reduceLE, Int.reduceEq, reduceIte, true_and, Nat.zero_add, Nat.add_zero, Option.map_some, f9], ?_⟩
        rw [hone]
        rw [immW, if_neg hw2', if_neg (by omega)]
  clear f0 f1 f4 f7 f9 f10 f12 fr
  rintro ⟨fr, df, K, rd⟩ ⟨rfl, rfl, f1, f4, f7, f9, hK⟩
  simp only at f1 f4 f7 f9 hK
  subst hK
  obtain ⟨hix, h132⟩ := indexB_eq (l := l) (i := i) fun j => (hbyte j).1
  simp -implicitDefEqProofs (disch := first | omega | (simp -implicitDefEqProofs only [go_sem, List.size_toArray, List.length_cons, List.length_nil, Nat.reduceAdd]; done)) only [go_sem, Int.reduceLT, Int.reduceLE, Int.reduceEq, reduceIte, true_and, Nat.zero_add, Nat.add_zero, Option.map_some, f9, lc]
  refine ncall index_c ?_
  rw [hix]
  have g' : (H.push (.row (fInstr.enc (oneI l i)) 0 false)).get h.next = some (.row (fInstr.enc zeroInstr) 0 false) := (get_push_other _ _ (by omega)).trans g
  have hst : ∀ x : Instr, storeAt (H.push (.row (fInstr.enc (oneI l i)) 0 false)) h.next 0 [.int .i64 x.pos, .int .i64 x.op, .int .i64 x.a, .int .i64 x.b, .int .i64 x.imm] = some ((H.push (.row (fInstr.enc (oneI l i)) 0 false)).set h.next (.row (fInstr.enc x) 0 false)) := fun x => storeAll g' rfl rfl
  by_cases he : indexE (oneI l i) = 0
  · have he' := eq_true he
    simp -implicitDefEqProofs (disch := first | omega | (simp -implicitDefEqProofs only [go_sem, List.size_toArray, List.length_cons, List.length_nil, Nat.reduceAdd]; done)) only [go_sem, Int.reduceLT, Int.reduceLE, Int.reduceEq, reduceIte, true_and, Nat.zero_add, Nat.add_zero, Option.map_some, he', f9, f1, f7, lc, hw2, f4, hst]
    refine ret_at (res_i (x := oneI l i) (n := i + sizeI opn) (e := 0) (by simp -implicitDefEqProofs (disch := first | omega | (simp -implicitDefEqProofs only [go_sem, List.size_toArray, List.length_cons, List.length_nil, Nat.reduceAdd]; done)) only [go_sem, Int.reduceLT, Int.reduceLE, Int.reduceEq, reduceIte, true_and, Nat.zero_add, Nat.add_zero, Option.map_some, f4]) (by rw [← hm]; simp -implicitDefEqProofs (disch := first | omega | (simp -implicitDefEqProofs only [go_sem, List.size_toArray, List.length_cons, List.length_nil, Nat.reduceAdd]; done)) only [go_sem, Int.reduceLT, Int.reduceLE, Int.reduceEq, reduceIte, true_and, Nat.zero_add, Nat.add_zero, Option.map_some]) (by simp -implicitDefEqProofs (disch := first | omega | (simp -implicitDefEqProofs only [go_sem, List.size_toArray, List.length_cons, List.length_nil, Nat.reduceAdd]; done)) only [go_sem, Int.reduceLT, Int.reduceLE, Int.reduceEq, reduceIte, true_and, Nat.zero_add, Nat.add_zero, Option.map_some]) (get_set_same _ _)) ⟨?_, (hEP _).set (by omega)⟩
    rw [hT, if_pos he]
  · simp -implicitDefEqProofs (disch := first | omega | (simp -implicitDefEqProofs only [go_sem, List.size_toArray, List.length_cons, List.length_nil, Nat.reduceAdd]; done)) only [go_sem, Int.reduceLT, Int.reduceLE, Int.reduceEq, reduceIte, true_and, Nat.zero_add, Nat.add_zero, Option.map_some, he, bd_instr0, f4, hst zeroInstr]
    refine ret_at (res_i (x := zeroInstr) (n := 0) (e := 132) (by simp -implicitDefEqProofs (disch := first | omega | (simp -implicitDefEqProofs only [go_sem, List.size_toArray, List.length_cons, List.length_nil, Nat.reduceAdd]; done)) only [go_sem, Int.reduceLT, Int.reduceLE, Int.reduceEq, reduceIte, true_and, Nat.zero_add, Nat.add_zero, Option.map_some, f4]) (by simp -implicitDefEqProofs (disch := first | omega | (simp -implicitDefEqProofs only [go_sem, List.size_toArray, List.length_cons, List.length_nil, Nat.reduceAdd]; done)) only [go_sem, Int.reduceLT, Int.reduceLE, Int.reduceEq, reduceIte, true_and, Nat.zero_add, Nat.add_zero, Option.map_some]) (by simp -implicitDefEqProofs (disch := first | omega | (simp -implicitDefEqProofs only [go_sem, List.size_toArray, List.length_cons, List.length_nil, Nat.reduceAdd]; done)) only [go_sem, Int.reduceLT, Int.reduceLE, Int.reduceEq, reduceIte, true_and, Nat.zero_add, Nat.add_zero, Option.map_some]) (get_set_same _ _)) ⟨?_, (hEP _).set (by omega)⟩
    rw [hT, if_neg he, h132 he]
end Go.Proofs.Ytbdljpndncohaaa

namespace Go.Proofs.Ytbdljpndncohaaa
open Go.D
set_option maxRecDepth 100000

/-- the instructions from an address on, and what is wrong with the first that may not be -/
def walkF (l : List Int) : Nat → Nat → List Instr × Int
  | 0, _ => ([], 0)
  | n + 1, i => if l.length ≤ i then ([], 0) else if (oneT l i).2.2 = 0 then ((oneT l i).1 :: (walkF l n (oneT l i).2.1.toNat).1, (walkF l n (oneT l i).2.1.toNat).2) else ([], (oneT l i).2.2)
theorem oneT_next {l : List Int} {i : Nat} (h : (oneT l i).2.2 = 0) : (oneT l i).1 = oneI l i ∧ (oneT l i).2.1 = i + sizeI (l.getD i 0) ∧ i < l.length ∧ 1 ≤ sizeI (l.getD i 0) ∧ (i : Int) + sizeI (l.getD i 0) ≤ l.length ∧ indexE (oneI l i) = 0 := by
  unfold oneT at h ⊢
  split at h
  · exact absurd h (by decide)
  · rename_i h1
    rw [if_neg h1]
    split at h
    · exact absurd h (by decide)
    · rename_i h2
      rw [if_neg h2]
      have := sizeI_le (l.getD i 0)
      split at h
      · rename_i h3
        rw [if_pos h3]
        refine ⟨rfl, rfl, by omega, by omega, by omega, h3⟩
      · rename_i h3
        exact absurd h h3
theorem walkF_any {l : List Int} : ∀ {n m i : Nat}, l.length - i ≤ n → l.length - i ≤ m → walkF l n i = walkF l m i
  | 0, 0, i, _, _ => rfl
  | 0, m + 1, i, h, _ => by simp only [walkF]; rw [if_pos (by omega)]
  | n + 1, 0, i, _, h => by simp only [walkF]; rw [if_pos (by omega)]
  | n + 1, m + 1, i, h1, h2 => by
    simp only [walkF]
    by_cases h : l.length ≤ i
    · rw [if_pos h, if_pos h]
    · rw [if_neg h, if_neg h]
      by_cases he : (oneT l i).2.2 = 0
      · obtain ⟨_, a, b, c, _⟩ := oneT_next he
        rw [if_pos he, if_pos he, walkF_any (n := n) (m := m) (by omega) (by omega)]
      · rw [if_neg he, if_neg he]
def walkAt (l : List Int) (i : Nat) : List Instr × Int := walkF l l.length i
theorem walkAt_end {l : List Int} {i : Nat} (h : l.length ≤ i) : walkAt l i = ([], 0) := by
  unfold walkAt
  rw [walkF_any (m := 0) (by omega) (by omega)]
  rfl
theorem walkAt_step {l : List Int} {i : Nat} (h : i < l.length) : walkAt l i = if (oneT l i).2.2 = 0 then ((oneT l i).1 :: (walkAt l (oneT l i).2.1.toNat).1, (walkAt l (oneT l i).2.1.toNat).2) else ([], (oneT l i).2.2) := by
  unfold walkAt
  rw [walkF_any (m := l.length + 1) (by omega) (by omega)]
  conv => lhs; rw [walkF]
  rw [if_neg (by omega)]
theorem walkAt_len {l : List Int} : ∀ {n i : Nat}, l.length - i ≤ n → (walkAt l i).1.length ≤ l.length - i
  | 0, i, h => by rw [walkAt_end (by omega)]; simp
  | n + 1, i, h => by
    by_cases hi : i < l.length
    · rw [walkAt_step hi]
      split
      · rename_i he
        obtain ⟨_, a, b, c, d⟩ := oneT_next he
        have := walkAt_len (l := l) (n := n) (i := (oneT l i).2.1.toNat) (by omega)
        simp only [List.length_cons]
        omega
      · simp
    · rw [walkAt_end (by omega)]; simp
theorem oneT_ok {l : List Int} {i : Nat} (hl : l.length ≤ 4294967296) (hb : ∀ j, 0 ≤ l.getD j 0 ∧ l.getD j 0 ≤ 255) (h : (oneT l i).2.2 = 0) : fInstr.ok (oneT l i).1 := by
  obtain ⟨e, a, b, c, d⟩ := oneT_next h
  rw [e]
  have b0 := hb i
  have b1 := hb (i + 1)
  have b2 := hb (i + 1 + if firstB (l.getD i 0) then 1 else 0)
  have b3 := hb (i + 1 + (if firstB (l.getD i 0) then 1 else 0) + if twoB (l.getD i 0) then 1 else 0)
  have b4 := hb (i + 1 + (if firstB (l.getD i 0) then 1 else 0) + (if twoB (l.getD i 0) then 1 else 0) + 1)
  have k1 : ∀ n : Int, -65536 ≤ n → n ≤ 4294967296 → inK .i64 n := fun n h1 h2 => inK_i64.2 ⟨by omega, by omega⟩
  refine ⟨k1 _ ?_ ?_, k1 _ ?_ ?_, k1 _ ?_ ?_, k1 _ ?_ ?_, k1 _ ?_ ?_⟩
  all_goals simp only [oneI, immW]
  all_goals first
    | omega
    | (repeat' split
       all_goals omega)
theorem store5 {h : DHeap} {x : Instr} : storeAt (h.push (.row [.int .i64 0, .int .i64 0, .int .i64 0, .int .i64 0, .int .i64 0] 0 false)) h.next 0 [.int .i64 x.pos, .int .i64 x.op, .int .i64 x.a, .int .i64 x.b, .int .i64 x.imm] = some (h.push (.row (fInstr.enc x) 0 false)) := store5_push rfl
theorem bytes_le {h : DHeap} {v : Value} {l : List Int} (hb : Arg fU8.rep h v l) : ∀ j, 0 ≤ l.getD j 0 ∧ l.getD j 0 ≤ 255 := fun j => by
  by_cases hj : j < l.length
  · obtain ⟨_, _, _, _, a, b⟩ := byte_at hb hj
    exact ⟨a, b⟩
  · rw [List.getD_eq_getElem?_getD, List.getElem?_eq_none (by omega)]
    exact ⟨Int.le_refl _, by decide⟩
end Go.Proofs.Ytbdljpndncohaaa

namespace Go.D
variable {P : Program}

/-- a map's type, of a set of numbers -/
structure SetT (P : Program) (t : TypeId) (k : IntKind) : Prop where
  map : ∃ kt et, P.underlying t = some (.map kt et) ∧ P.underlying kt = some (.int k) ∧ zeroOf P et = some (.bool false)
/-- what lies in it -/
def SetAt (k : IntKind) (h : DHeap) (id : Nat) (ks : List Int) : Prop :=
  ∃ es c, h.get id = some (.map es c) ∧ (∀ e ∈ es, ∃ n, e.key = .int k n ∧ e.val = .bool true) ∧ ∀ n, n ∈ ks ↔ ∃ e ∈ es, e.key = .int k n
theorem findNow_int {k : IntKind} {n : Int} : ∀ {es : List MapEntry} {i : Nat}, (∀ e ∈ es, ∃ m, e.key = .int k m ∧ e.val = .bool true) →
    (∃ j, Instr.findNow (.int k) (.int k n) es i = some (some (j, .bool true)) ∧ i ≤ j ∧ ∃ e, es[j - i]? = some e ∧ e.key = .int k n) ∨ (Instr.findNow (.int k) (.int k n) es i = some none ∧ ∀ e ∈ es, e.key ≠ .int k n)
  | [], i, _ => .inr ⟨rfl, fun e he => by simp at he⟩
  | e :: es, i, h => by
    obtain ⟨m, h1, h2⟩ := h e (by simp)
    have ih := findNow_int (k := k) (n := n) (es := es) (i := i + 1) fun e he => h e (by simp [he])
    simp only [Instr.findNow, h1, Instr.sameNow, if_true]
    by_cases hm : n = m
    · subst hm
      refine .inl ⟨i, by simp [h2], Nat.le_refl _, e, by simp, h1⟩
    · have : (n == m) = false := by simpa using hm
      rw [this]
      rcases ih with ⟨j, a, b, e', c, d⟩ | ⟨a, b⟩
      · exact .inl ⟨j, a, by omega, e', by rw [show j - i = (j - (i + 1)) + 1 by omega]; exact c, d⟩
      · refine .inr ⟨a, fun e' he => ?_⟩
        rcases List.mem_cons.1 he with rfl | he
        · rw [h1]
          intro hh
          cases hh
          exact hm rfl
        · exact b e' he
theorem quick_und {t : TypeId} {d : TypeDesc} (hu : P.underlying t = some d) : quick P (underlying t) = some (.inr d) := by
  simp only [underlying, program, Bind.bind, Sem.bind, quick, hu]
  rfl
theorem checkKey_intN {kt : TypeId} {k : IntKind} (hu : P.underlying kt = some (.int k)) (b : Bool) (n : Int) (m : Nat) : quick P (Instr.checkKey b (m + 1) kt (.int k n)) = some (.inr ()) := by
  unfold Instr.checkKey
  rw [quick_bind (quick_und hu)]
  rfl
theorem checkKey_int {kt : TypeId} {k : IntKind} (hu : P.underlying kt = some (.int k)) (b : Bool) (n : Int) : ∃ u, quick P (Instr.checkKey b 10000 kt (.int k n)) = some (.inr u) := ⟨(), checkKey_intN hu b n 9999⟩
theorem sameBits_int {k : IntKind} {n : Int} (m : Nat) : Instr.sameBits (m + 1) (.int k n) (.int k n) = true := by simp [Instr.sameBits]
theorem SetAt.lookup {t : TypeId} {k : IntKind} {h : DHeap} {id : Nat} {ks : List Int} (T : SetT P t k) (a : SetAt k h id ks) (n : Int) : dLookup P t (.map (some id)) (.int k n) false h = some (.bool (decide (n ∈ ks))) := by
  obtain ⟨kt, et, u1, u2, u3⟩ := T.map
  obtain ⟨es, c, g, e1, e2⟩ := a
  obtain ⟨u, hck⟩ := checkKey_int (P := P) u2 es.isEmpty n
  have hm : dMapEs (.map (some id)) h = some es := by simp only [dMapEs, g]
  have hf3 : flat3 (.int k n) = true := rfl
  simp only [dLookup, u1, hm, hf3, if_true, hck]
  rcases findNow_int (k := k) (n := n) (es := es) (i := 0) e1 with ⟨j, a, _, e, c, d⟩ | ⟨a, b⟩
  · have hfd : dFind P kt (.int k n) es = some (some j) := by simp only [dFind, u2, a]; rfl
    rw [Nat.sub_zero] at c
    obtain ⟨m, h1, h2⟩ := e1 e (List.mem_of_getElem? c)
    rw [decide_eq_true ((e2 n).2 ⟨e, List.mem_of_getElem? c, d⟩)]
    simp only [hfd, c, h2]
    rfl
  · have hfd : dFind P kt (.int k n) es = some none := by simp only [dFind, u2, a]; rfl
    rw [decide_eq_false (fun hh => by
      obtain ⟨e, he, hk⟩ := (e2 n).1 hh
      exact b e he hk)]
    simp only [hfd, u3]
    rfl
theorem SetAt.update {t : TypeId} {k : IntKind} {h : DHeap} {id : Nat} {ks : List Int} (T : SetT P t k) (a : SetAt k h id ks) (n : Int) : ∃ o, dMapUpdate P t (.map (some id)) (.int k n) (.bool true) h = some (h.set id o) ∧ SetAt k (h.set id o) id (ks ++ [n]) := by
  obtain ⟨kt, et, u1, u2, u3⟩ := T.map
  obtain ⟨es, c, g, e1, e2⟩ := a
  obtain ⟨u, hck⟩ := checkKey_int (P := P) u2 false n
  have hf3 : flat3 (.int k n) = true := rfl
  simp only [dMapUpdate, u1, g, hf3, if_true, hck]
  rcases findNow_int (k := k) (n := n) (es := es) (i := 0) e1 with ⟨j, a, _, e, c', d⟩ | ⟨a, b⟩
  · have hfd : dFind P kt (.int k n) es = some (some j) := by simp only [dFind, u2, a]; rfl
    rw [Nat.sub_zero] at c'
    have hsb : Instr.sameBits 10000 e.key (.int k n) = true := by
      rw [d]
      exact sameBits_int 9999
    simp only [hfd, c', hsb, if_true]
    refine ⟨_, rfl, _, _, get_set_same _ _, fun e' he => ?_, fun m => ?_⟩
    · rcases List.mem_or_eq_of_mem_set he with he | he
      · exact e1 e' he
      · exact ⟨n, by rw [he], by rw [he]⟩
    · rw [List.mem_append, e2 m]
      constructor
      · rintro (⟨e', he, hk⟩ | hm)
        · obtain ⟨i, hi⟩ := List.mem_iff_getElem?.1 he
          by_cases hij : j = i
          · subst hij
            rw [c'] at hi
            cases hi
            rw [d] at hk
            cases hk
            exact ⟨{ e with key := .int k n, val := .bool true }, List.mem_iff_getElem?.2 ⟨j, by rw [List.getElem?_set, if_pos rfl, if_pos (List.getElem?_eq_some_iff.1 c').1]⟩, rfl⟩
          · exact ⟨e', List.mem_iff_getElem?.2 ⟨i, by rw [List.getElem?_set, if_neg hij]; exact hi⟩, hk⟩
        · simp only [List.mem_singleton] at hm
          subst hm
          exact ⟨{ e with key := .int k m, val := .bool true }, List.mem_iff_getElem?.2 ⟨j, by rw [List.getElem?_set, if_pos rfl, if_pos (List.getElem?_eq_some_iff.1 c').1]⟩, rfl⟩
      · rintro ⟨e', he, hk⟩
        rcases List.mem_or_eq_of_mem_set he with he | he
        · exact .inl ⟨e', he, hk⟩
        · rw [he] at hk
          cases hk
          exact .inr (by simp)
  · have hfd : dFind P kt (.int k n) es = some none := by simp only [dFind, u2, a]; rfl
    simp only [hfd]
    refine ⟨_, rfl, _, _, get_set_same _ _, fun e' he => ?_, fun m => ?_⟩
    · rcases List.mem_append.1 he with he | he
      · exact e1 e' he
      · simp only [List.mem_singleton] at he
        exact ⟨n, by rw [he], by rw [he]⟩
    · rw [List.mem_append, e2 m]
      constructor
      · rintro (⟨e', he, hk⟩ | hm)
        · exact ⟨e', by simp [he], hk⟩
        · simp only [List.mem_singleton] at hm
          subst hm
          exact ⟨_, List.mem_append.2 (.inr (List.mem_singleton.2 rfl)), rfl⟩
      · rintro ⟨e', he, hk⟩
        rcases List.mem_append.1 he with he | he
        · exact .inl ⟨e', he, hk⟩
        · simp only [List.mem_singleton] at he
          rw [he] at hk
          cases hk
          exact .inr (by simp)
theorem SetAt.keep {k : IntKind} {h h' : DHeap} {id : Nat} {ks : List Int} (a : SetAt k h id ks) (hg : h'.get id = h.get id) : SetAt k h' id ks := by
  obtain ⟨es, c, g, e⟩ := a
  exact ⟨es, c, hg.trans g, e⟩
theorem SetAt.new {k : IntKind} {h : DHeap} : SetAt k (h.push (.map [] 0)) h.next [] := ⟨[], 0, get_push_same _ _, by simp, by simp⟩
theorem XLoop_cut {nt id : Nat} {c : Code} {K : St → Prop} {Q : DExit → St → Prop} {s : St} (M : St → Prop) (h1 : XLoop P nt c (DBlock id (DThen M Q)) s) (h3 : ∀ s', M s' → K s') : XLoop P nt c (DBlock id (DThen K Q)) s := xblock_cut (c := .loop c) M h1 h3
end Go.D

namespace Go.Proofs.Ytbdljpndncohaaa
open Go.D
set_option maxRecDepth 100000

/-- what gives up with an error -/
def failV (e : Int) : Value := .iface 117 (.agg #[.int .i64 e])
theorem failV_vin {S : Nat → Prop} (e : Int) : VIn S (failV e) := .iface (.agg fun v hv => by simp at hv; subst hv; exact .int _ _)
theorem bd_fail (e : Int) : dBuild Try.prog 117 [(0, .int .i64 e)] = some (.agg #[.int .i64 e]) := dBuild_at plc_117 rfl
theorem must_no {h : DHeap} : DC Try.prog 63 [.int .i64 0] h (.ret (.tuple #[])) h := by
  refine Ct.pure (go_63 (by simp) ?_) (.tuple fun v hv => by simp at hv)
  simp -implicitDefEqProofs (disch := first | omega | (simp -implicitDefEqProofs only [go_sem, List.size_toArray, List.length_cons, List.length_nil, Nat.reduceAdd]; done)) only [go_sem, Int.reduceLT, Int.reduceLE, Int.reduceEq, reduceIte, true_and, Nat.zero_add, Nat.add_zero, Option.map_some, c63]
  exact ⟨_, rfl, rfl, .refl h⟩
theorem must_yes {h : DHeap} {e : Int} (he : e ≠ 0) : DC Try.prog 63 [.int .i64 e] h (.pan (failV e)) h := by
  refine Ct.purePan (go_63 (by simp) ?_) (failV_vin e)
  simp -implicitDefEqProofs (disch := first | omega | (simp -implicitDefEqProofs only [go_sem, List.size_toArray, List.length_cons, List.length_nil, Nat.reduceAdd]; done)) only [go_sem, Int.reduceLT, Int.reduceLE, Int.reduceEq, reduceIte, true_and, Nat.zero_add, Nat.add_zero, Option.map_some, c63, bd_fail, he]
  exact ⟨rfl, .refl h⟩
theorem all_c {h : DHeap} {v : Value} {l : List Int} (hb : Arg fU8.rep h v l) (hl : l.length ≤ 1048576) :
    Ct Try.prog 61 [v] h fun r h1 => ((walkAt l 0).2 = 0 ∧ ∃ w, r = .ret w ∧ Made fInstr h h1 w (walkAt l 0).1) ∨ ((walkAt l 0).2 ≠ 0 ∧ r = .pan (failV (walkAt l 0).2) ∧ Ext h h1) := by
  refine go_61 (by simp) ?_
  have el : ∀ K, dLen Try.prog #[22] v K = some (.int .i64 (l.length : Nat)) := hb.lens (P := Try.prog) (ts := #[22]) (t := 22) rfl isl_22
  have hbl := bytes_le hb
  simp -implicitDefEqProofs (disch := first | omega | (simp -implicitDefEqProofs only [go_sem, List.size_toArray, List.length_cons, List.length_nil, Nat.reduceAdd]; done)) only [go_sem, Int.reduceLT, Int.reduceLE, Int.reduceEq, reduceIte, true_and, Nat.zero_add, Nat.add_zero, Option.map_some, c61]
  refine xloop (σ := Nat × List Instr) (by kernel_rfl) (fun a s => s.df = [] ∧ s.rd = none ∧ s.fr 0 = some v ∧ s.fr 4 = some (.int .i64 (a.1 : Nat)) ∧ (∃ w, s.fr 3 = some w ∧ Made fInstr h s.h w a.2) ∧ a.1 ≤ l.length ∧ a.2.length ≤ a.1 ∧ walkAt l 0 = (a.2 ++ (walkAt l a.1).1, (walkAt l a.1).2)) (fun a => l.length - a.1) (0, []) ?_ ?_
  · simp -implicitDefEqProofs (disch := first | omega | (simp -implicitDefEqProofs only [go_sem, List.size_toArray, List.length_cons, List.length_nil, Nat.reduceAdd]; done)) only [go_sem, Int.reduceLT, Int.reduceLE, Int.reduceEq, reduceIte, true_and, Nat.zero_add, Nat.add_zero, Option.map_some]
    exact ⟨rfl, ⟨_, rfl, .nil _ (.refl h)⟩, Nat.zero_le _, Nat.le_refl _, trivial⟩
  · rintro ⟨i, acc⟩ ⟨fr, df, K, rd⟩ K' hK' hX ⟨rfl, hrd, f0, f4, ⟨w, f3, hm⟩, hi, hal, hw⟩
    simp only at hrd f0 f4 f3 hm hi hal hw
    subst hrd
    have hE := hm.ext
    simp -implicitDefEqProofs (disch := first | omega | (simp -implicitDefEqProofs only [go_sem, List.size_toArray, List.length_cons, List.length_nil, Nat.reduceAdd]; done)) only [go_sem, Int.reduceLT, Int.reduceLE, Int.reduceEq, reduceIte, true_and, Nat.zero_add, Nat.add_zero, Option.map_some, f0, f4, el]
    refine XIf_dec (fun hc1 => ?_) (fun hc1 => ?_)
    · have hil : i < l.length := by omega
      have hst := walkAt_step hil
      simp -implicitDefEqProofs (disch := first | omega | (simp -implicitDefEqProofs only [go_sem, List.size_toArray, List.length_cons, List.length_nil, Nat.reduceAdd]; done)) only [go_sem, Int.reduceLT, Int.reduceLE, Int.reduceEq, reduceIte, true_and, Nat.zero_add, Nat.add_zero, Option.map_some, f0, f4]
      refine ncall (one_c (hb.ext hE) (by omega) (by omega)) ?_
      obtain ⟨x, hx⟩ : ∃ x, (oneT l i).1 = x := ⟨_, rfl⟩
      obtain ⟨K1, hK1⟩ : ∃ K1, K1 = K.push (.row (fInstr.enc x) 0 false) := ⟨_, rfl⟩
      have g : K1.get K.next = some (.row (fInstr.enc x) 0 false) := by rw [hK1]; exact get_push_same _ _
      have lc : cellsAt K1 K.next 0 5 = some (instrV x) := by rw [cellsAt_row g (Nat.le_of_ble_eq_true rfl)]; rfl
      have hm1 : Made fInstr h K1 w acc := hm.on (by rw [hK1]; exact Ext.push1 _ _)
      rw [hx]
      have s5 := store5 (h := K) (x := x)
      rw [← hK1] at s5
      by_cases he : (oneT l i).2.2 = 0
      · obtain ⟨e1, e2, _, e4, e5⟩ := oneT_next he
        have hok := oneT_ok (by omega) hbl he
        rw [hx] at hok
        rw [if_pos he, hx] at hst
        obtain ⟨nx, hnx⟩ : ∃ nx : Nat, (oneT l i).2.1 = nx := ⟨(oneT l i).2.1.toNat, by omega⟩
        rw [hnx] at hst ⊢
        rw [he]
        have hbs : ∀ K : DHeap, dBuildSlice Try.prog 91 1 [(0, instrV x)] K = some (.slice (some ⟨K.next, 0, none⟩) 1 1, K.push (.row (fInstr.enc x) 5 false)) := fun K => bs1_91 rfl
        obtain ⟨w2, h2, e6, m2⟩ := hm1.snoc app_91 (y := x) (cs := fInstr.enc x) (z := 5) rfl rfl hok (by omega) (by decide)
        simp -implicitDefEqProofs (disch := first | omega | (simp -implicitDefEqProofs only [go_sem, List.size_toArray, List.length_cons, List.length_nil, Nat.reduceAdd]; done)) only [go_sem, Int.reduceLT, Int.reduceLE, Int.reduceEq, reduceIte, true_and, Nat.zero_add, Nat.add_zero, Option.map_some, s5]
        refine ncall must_no ?_
        simp -implicitDefEqProofs (disch := first | omega | (simp -implicitDefEqProofs only [go_sem, List.size_toArray, List.length_cons, List.length_nil, Nat.reduceAdd]; done)) only [go_sem, Int.reduceLT, Int.reduceLE, Int.reduceEq, reduceIte, true_and, Nat.zero_add, Nat.add_zero, Option.map_some, f3, lc, hbs, e6]
        refine hK' (nx, acc ++ [x]) _ ?_ (by simp only; omega)
        refine ⟨by trivial, by trivial, by simp -implicitDefEqProofs (disch := first | omega | (simp -implicitDefEqProofs only [go_sem, List.size_toArray, List.length_cons, List.length_nil, Nat.reduceAdd]; done)) only [go_sem, Int.reduceLT, Int.reduceLE, Int.reduceEq, reduceIte, true_and, Nat.zero_add, Nat.add_zero, Option.map_some, f0], by simp -implicitDefEqProofs (disch := first | omega | (simp -implicitDefEqProofs only [go_sem, List.size_toArray, List.length_cons, List.length_nil, Nat.reduceAdd]; done)) only [go_sem, Int.reduceLT, Int.reduceLE, Int.reduceEq, reduceIte, true_and, Nat.zero_add, Nat.add_zero, Option.map_some], ⟨w2, by simp -implicitDefEqProofs (disch := first | omega | (simp -implicitDefEqProofs only [go_sem, List.size_toArray, List.length_cons, List.length_nil, Nat.reduceAdd]; done)) only [go_sem, Int.reduceLT, Int.reduceLE, Int.reduceEq, reduceIte, true_and, Nat.zero_add, Nat.add_zero, Option.map_some], m2⟩, by simp only; omega, by simp; omega, ?_⟩
        rw [hw, hst]
        simp
      · rw [if_neg he] at hst
        simp -implicitDefEqProofs (disch := first | omega | (simp -implicitDefEqProofs only [go_sem, List.size_toArray, List.length_cons, List.length_nil, Nat.reduceAdd]; done)) only [go_sem, Int.reduceLT, Int.reduceLE, Int.reduceEq, reduceIte, true_and, Nat.zero_add, Nat.add_zero, Option.map_some, s5]
        refine ncall_pan (must_yes he) ?_
        refine hX _ _ (by simp) ?_
        simp -implicitDefEqProofs (disch := first | omega | (simp -implicitDefEqProofs only [go_sem, List.size_toArray, List.length_cons, List.length_nil, Nat.reduceAdd]; done)) only [go_sem, Int.reduceLT, Int.reduceLE, Int.reduceEq, reduceIte, true_and, Nat.zero_add, Nat.add_zero, Option.map_some]
        refine .inr ⟨?_, ?_, hm1.ext⟩
        · rw [hw, hst]; exact he
        · rw [hw, hst]
    · refine hX _ _ (by simp) ?_
      simp -implicitDefEqProofs (disch := first | omega | (simp -implicitDefEqProofs only [go_sem, List.size_toArray, List.length_cons, List.length_nil, Nat.reduceAdd]; done)) only [go_sem, Int.reduceLT, Int.reduceLE, Int.reduceEq, reduceIte, true_and, Nat.zero_add, Nat.add_zero, Option.map_some, f3]
      have := walkAt_end (l := l) (i := i) (by omega)
      refine ⟨_, rfl, .inl ⟨?_, w, rfl, ?_⟩⟩
      · rw [hw, this]
      · rw [hw, this, List.append_nil]; exact hm
theorem caught_c {h : DHeap} {e : Int} : DC Try.prog 60 [failV e] h (.ret (.int .i64 e)) h := by
  refine Ct.pure (go_60 (by simp) ?_) (vin_int _ _)
  simp -implicitDefEqProofs (disch := first | omega | (simp -implicitDefEqProofs only [go_sem, List.size_toArray, List.length_cons, List.length_nil, Nat.reduceAdd]; done)) only [go_sem, Int.reduceLT, Int.reduceLE, Int.reduceEq, reduceIte, true_and, Nat.zero_add, Nat.add_zero, Option.map_some, c60, failV, store1_push (v := .int .i64 e) rfl, cell1_push]
  exact ⟨_, rfl, rfl, Ext.push1 _ _⟩
theorem neq_fail {e : Int} {ox oy : Operand} {h : DHeap} : dBinOp Try.prog .neq 20 ox oy (failV e) .nilIface h = .ok (.value (.bool true)) h := by
  kernel_rfl
theorem neq_none {i : Nat} {h : DHeap} : dBinOp Try.prog .neq 20 (T i) (.const .nilIface) .nilIface .nilIface h = .ok (.value (.bool false)) h := by
  kernel_rfl
/-- where nothing was given up -/
theorem dec_ret {h : DHeap} {x y : Value} : DCD Try.prog 59 [x, y] .ret h .ret h := by
  refine DCD_recN (fn := Try.f59) (rs := []) (by kernel_rfl) body_59 (by kernel_rfl) (by kernel_rfl) (n := 8) (Nat.le_of_ble_eq_true rfl) (by kernel_rfl) (.refl h) ?_
  simp only [XOpsR]
  simp -implicitDefEqProofs (disch := first | omega | (simp -implicitDefEqProofs only [go_sem, List.size_toArray, List.length_cons, List.length_nil, Nat.reduceAdd]; done)) only [go_sem, Int.reduceLT, Int.reduceLE, Int.reduceEq, reduceIte, true_and, Nat.zero_add, Nat.add_zero, Option.map_some, dBuiltin_recover, neq_none]
  exact ⟨rfl, trivial⟩
/-- where it was -/
theorem dec_pan {h : DHeap} {a b : Nat} {e : Int} {c d : Value} {z y : Nat} (ha : h.get a = some (.row [c] z false)) (hb : h.get b = some (.row [d] y false)) (hab : b ≠ a) :
    DCD Try.prog 59 [.pointer (some ⟨a, 0, none⟩), .pointer (some ⟨b, 0, none⟩)] (.pan (failV e)) h (.recd (failV e)) ((h.set a (.row [.slice none 0 0] z false)).set b (.row [.int .i64 e] y false)) := by
  refine DCD_recN (fn := Try.f59) (rs := []) (by kernel_rfl) body_59 (by kernel_rfl) (by kernel_rfl) (n := 8) (Nat.le_of_ble_eq_true rfl) (by kernel_rfl) ((HStep.set _ _ _).trans (HStep.set _ _ _)) ?_
  simp only [XOpsR]
  have w1 := storeAt_row (o := 0) (vs := [.slice none 0 0]) ha (Nat.le_of_ble_eq_true rfl) rfl
  have w2 := storeAt_row (o := 0) (vs := [.int .i64 e]) ((get_set_other _ _ hab).trans hb : (h.set a (.row (setAt [c] 0 [.slice none 0 0]) z false)).get b = _) (Nat.le_of_ble_eq_true rfl) rfl
  have tc := caught_c (h := h) (e := e)
  simp -implicitDefEqProofs (disch := first | omega | (simp -implicitDefEqProofs only [go_sem, List.size_toArray, List.length_cons, List.length_nil, Nat.reduceAdd]; done)) only [go_sem, Int.reduceLT, Int.reduceLE, Int.reduceEq, reduceIte, true_and, Nat.zero_add, Nat.add_zero, Option.map_some, dBuiltin_recover, neq_fail]
  refine ncall tc ?_
  simp -implicitDefEqProofs (disch := first | omega | (simp -implicitDefEqProofs only [go_sem, List.size_toArray, List.length_cons, List.length_nil, Nat.reduceAdd]; done)) only [go_sem, Int.reduceLT, Int.reduceLE, Int.reduceEq, reduceIte, true_and, Nat.zero_add, Nat.add_zero, Option.map_some, w1, w2]
  exact ⟨rfl, rfl⟩
end Go.Proofs.Ytbdljpndncohaaa

namespace Go.Proofs.Ytbdljpndncohaaa
open Go.D
set_option maxRecDepth 100000

def targetsOk (xs : List Instr) : Bool := xs.all fun x => !jumpsB x.op || decide (x.imm ∈ xs.map (·.pos))
def decE (l : List Int) : Int := if 512 < l.length then 3 else if (walkAt l 0).2 ≠ 0 then (walkAt l 0).2 else if targetsOk (walkAt l 0).1 then 0 else 131
def decL (l : List Int) : List Instr := if decE l = 0 then (walkAt l 0).1 else []
theorem instr_idx {S : Nat → Prop} {h : DHeap} {v : Value} {l : List Instr} {i : Nat} (hb : Sl fInstr.rep S h v l) (hi : i < l.length) :
    ∃ id o, dIndexAddr Try.prog 91 v (.int .i64 (i : Nat)) = some (.pointer (some ⟨id, o, none⟩)) ∧ cellsAt h id o 5 = some (instrV l[i]) ∧ cellAt h id (o + 0) = some (.int .i64 l[i].pos) ∧ cellAt h id (o + 1) = some (.int .i64 l[i].op) ∧ cellAt h id (o + 4) = some (.int .i64 l[i].imm) := by
  obtain ⟨id, o, g, hs, hat⟩ := hb.idx (P := Try.prog) (t := 91) el_91 (k := .i64) (List.getElem?_eq_getElem hi)
  obtain ⟨a, b, _⟩ := hat.flat
  exact ⟨id, o, g, b, a 0 (by decide), a 1 (by decide), a 4 (by decide)⟩
/-- so far all jumps go to where an instruction begins -/
def jumpsSo (l : List Instr) (i : Nat) : Prop := ∀ j x, j < i → l[j]? = some x → jumpsB x.op = true → x.imm ∈ l.map (·.pos)
theorem targets_all {l : List Instr} (h : jumpsSo l l.length) : targetsOk l = true := by
  unfold targetsOk
  rw [List.all_eq_true]
  intro x hx
  obtain ⟨j, hj⟩ := List.mem_iff_getElem?.1 hx
  cases hb : jumpsB x.op with
  | false => rfl
  | true => simpa using h j x (List.getElem?_eq_some_iff.1 hj).1 hj hb
theorem targets_bad {l : List Instr} {x : Instr} (hx : x ∈ l) (hb : jumpsB x.op = true) (hm : x.imm ∉ l.map (·.pos)) : targetsOk l = false := by
  unfold targetsOk
  rw [List.all_eq_false]
  exact ⟨x, hx, by simp [hb]; simpa using hm⟩
theorem jumpsSo_succ {l : List Instr} {i : Nat} (hi : i < l.length) (h : jumpsSo l i) (hx : jumpsB l[i].op = true → l[i].imm ∈ l.map (·.pos)) : jumpsSo l (i + 1) := by
  intro j x hj hjx hb
  by_cases hji : j = i
  · subst hji
    rw [List.getElem?_eq_getElem hi] at hjx
    cases hjx
    exact hx hb
  · exact h j x (by omega) hjx hb
theorem jumps_c {h : DHeap} {x : Instr} : DC Try.prog 62 [instrV x] h (.ret (.bool (jumpsB x.op))) h := by
  obtain ⟨x1, x2, x3, x4, x5⟩ := x
  refine Ct.pure (go_62 (by simp) ?_) (vin_bool _)
  obtain ⟨H, hH⟩ : ∃ H, H = h.push (.row [.int .i64 x1, .int .i64 x2, .int .i64 x3, .int .i64 x4, .int .i64 x5] 0 false) := ⟨_, rfl⟩
  have hE : Ext h H := by rw [hH]; exact Ext.push1 _ _
  have g : H.get h.next = some (.row [.int .i64 x1, .int .i64 x2, .int .i64 x3, .int .i64 x4, .int .i64 x5] 0 false) := by rw [hH]; exact get_push_same _ _
  have a1 : cellAt H h.next 1 = some (.int .i64 x2) := cellAt_row g
  simp -implicitDefEqProofs (disch := first | omega | (simp -implicitDefEqProofs only [go_sem, List.size_toArray, List.length_cons, List.length_nil, Nat.reduceAdd]; done)) only [go_sem, Int.reduceLT, Int.reduceLE, Int.reduceEq, reduceIte, true_and, Nat.zero_add, Nat.add_zero, Option.map_some, c62, ← hH, a1]
  clear hH
  (repeat' first | (refine NStp_split (fun hb => ?_) (fun hb => ?_) <;> (try simp only [Bool.not_eq_true', Bool.not_eq_false'] at hb) <;> simp -implicitDefEqProofs (disch := first | omega | (simp -implicitDefEqProofs only [go_sem, List.size_toArray, List.length_cons, List.length_nil, Nat.reduceAdd]; done)) only [go_sem, Int.reduceLT, Int.reduceLE, Int.reduceEq, reduceIte, true_and, Nat.zero_add, Nat.add_zero, Option.map_some, dPick_t, dPick_f, hb, a1]) | (refine XIf_split (fun hb => ?_) (fun hb => ?_) <;> (try simp only [Bool.not_eq_true', Bool.not_eq_false'] at hb) <;> simp -implicitDefEqProofs (disch := first | omega | (simp -implicitDefEqProofs only [go_sem, List.size_toArray, List.length_cons, List.length_nil, Nat.reduceAdd]; done)) only [go_sem, Int.reduceLT, Int.reduceLE, Int.reduceEq, reduceIte, true_and, Nat.zero_add, Nat.add_zero, Option.map_some, dPick_t, dPick_f, hb, a1]))
  all_goals exact ⟨_, rfl, by simp_all [jumpsB], hE⟩
end Go.Proofs.Ytbdljpndncohaaa

namespace Go.Proofs.Ytbdljpndncohaaa
open Go.D
set_option maxRecDepth 100000

theorem good_dec : goodFn Try.prog 59 = true := by kernel_rfl
theorem set_begins : SetT Try.prog 105 .i64 := ⟨2, 4, by kernel_rfl, by kernel_rfl, by kernel_rfl⟩
theorem res_d {fr : Fr} {K : DHeap} {a b id id2 : Nat} {w : Value} {e : Int} {z y : Nat} (f2 : fr a = some (.pointer (some ⟨id, 0, none⟩))) (f3 : fr b = some (.pointer (some ⟨id2, 0, none⟩))) (hk : K.get id = some (.row [w] z false)) (hk2 : K.get id2 = some (.row [.int .i64 e] y false)) :
    dResults Try.prog [.cell a 91, .cell b 31] fr K = some (.tuple #[w, .int .i64 e]) := by
  rw [dResults_d2, dRes1_cell, dRes1_cell, f2, f3, dResC_some, dResC_some]
  have e1 : dLoad Try.prog 91 (.pointer (some ⟨id, 0, none⟩)) K = some w := ld_91.trans (cellAt_row hk)
  have e2 : dLoad Try.prog 31 (.pointer (some ⟨id2, 0, none⟩)) K = some (.int .i64 e) := ld_31.trans (cellAt_row hk2)
  rw [e1, e2, tup2_some]
/-- how things lie while it goes through the instructions -/
structure DecI (h : DHeap) (a b mp n0 : Nat) (w : Value) (xs : List Instr) (ks : List Int) (K : DHeap) : Prop where
  ext : Ext h K
  ga : K.get a = some (.row [w] 0 false)
  gb : K.get b = some (.row [.int .i64 0] 0 false)
  sm : SetAt .i64 K mp ks
  sl : Sl fInstr.rep (fun j => n0 ≤ j ∧ j < mp) K w xs
  lt : mp < K.next
  ab : h.next ≤ a ∧ h.next ≤ b ∧ a < n0 ∧ b < n0 ∧ a ≠ b ∧ n0 ≤ mp
theorem DecI.push {h : DHeap} {a b mp n0 : Nat} {w : Value} {xs : List Instr} {ks : List Int} {K K' : DHeap} (s : DecI h a b mp n0 w xs ks K) (e : Ext K K') : DecI h a b mp n0 w xs ks K' := by
  have hl := s.lt
  have ha := s.ab
  exact ⟨s.ext.trans e, (e.get _ (by omega)).trans s.ga, (e.get _ (by omega)).trans s.gb, s.sm.keep (e.get _ hl), s.sl.mono fun j hj => ⟨hj, e.get _ (by omega)⟩, Nat.lt_of_lt_of_le hl e.next, ha⟩
theorem DecI.upd {h : DHeap} {a b mp n0 : Nat} {w : Value} {xs : List Instr} {ks ks' : List Int} {K : DHeap} {o : DObj} (s : DecI h a b mp n0 w xs ks K) (hs : SetAt .i64 (K.set mp o) mp ks') : DecI h a b mp n0 w xs ks' (K.set mp o) := by
  have ha := s.ab
  exact ⟨s.ext.set (by omega), (get_set_other _ _ (by omega)).trans s.ga, (get_set_other _ _ (by omega)).trans s.gb, hs, s.sl.mono fun j hj => ⟨hj, get_set_other _ _ (by omega)⟩, s.lt, ha⟩
theorem decode_c {h : DHeap} {v : Value} {l : List Int} (hb : Arg fU8.rep h v l) (hl : l.length ≤ 1048576) :
    Ct Try.prog 49 [v] h fun r h1 => ∃ w, r = .ret (.tuple #[w, .int .i64 (decE l)]) ∧ Ext h h1 ∧ Arg fInstr.rep h1 w (decL l) := by
  refine go_49 (by simp) ?_
  have el : ∀ K, dLen Try.prog #[22] v K = some (.int .i64 (l.length : Nat)) := hb.lens (P := Try.prog) (ts := #[22]) (t := 22) rfl isl_22
  obtain ⟨H, hH⟩ : ∃ H, H = (h.push (.row [.slice none 0 0] 0 false)).push (.row [.int .i64 0] 0 false) := ⟨_, rfl⟩
  have hE : Ext h H := by rw [hH]; exact (Ext.push1 _ _).push _
  have hHn : H.next = h.next + 2 := by rw [hH]; rfl
  have ga : H.get h.next = some (.row [.slice none 0 0] 0 false) := by rw [hH]; exact get_p1
  have gb : H.get (h.next + 1) = some (.row [.int .i64 0] 0 false) := by rw [hH]; exact get_push_same _ _
  by_cases h0 : (512 : Int) < (l.length : Nat)
  · have h0' := eq_true h0
    have hD : decE l = 3 := by rw [decE, if_pos (by omega)]
    have w1 : storeAt H h.next 0 [.slice none 0 0] = some H := by
      rw [storeAt_row ga (Nat.le_of_ble_eq_true rfl) rfl]
      exact congrArg some (set_self ga)
    have w2 := storeAt_row (o := 0) (vs := [.int .i64 3]) gb (Nat.le_of_ble_eq_true rfl) rfl
    simp -implicitDefEqProofs (disch := first | omega | (simp -implicitDefEqProofs only [go_sem, List.size_toArray, List.length_cons, List.length_nil, Nat.reduceAdd]; done)) only [go_sem, Int.reduceLT, Int.reduceLE, Int.reduceEq, reduceIte, true_and, Nat.zero_add, Nat.add_zero, Option.map_some, c49, next_push, ← hH, el, h0', w1, w2]
    refine ret_at (res_d (by simp -implicitDefEqProofs (disch := first | omega | (simp -implicitDefEqProofs only [go_sem, List.size_toArray, List.length_cons, List.length_nil, Nat.reduceAdd]; done)) only [go_sem, Int.reduceLT, Int.reduceLE, Int.reduceEq, reduceIte, true_and, Nat.zero_add, Nat.add_zero, Option.map_some]) (by simp -implicitDefEqProofs (disch := first | omega | (simp -implicitDefEqProofs only [go_sem, List.size_toArray, List.length_cons, List.length_nil, Nat.reduceAdd]; done)) only [go_sem, Int.reduceLT, Int.reduceLE, Int.reduceEq, reduceIte, true_and, Nat.zero_add, Nat.add_zero, Option.map_some]) ((get_set_other _ _ (by omega)).trans ga) (get_set_same _ _)) ⟨_, by rw [hD], hE.set (by omega), ?_⟩
    rw [decL, hD]
    exact .nil _ _ _
  have hE0 : decE l = if (walkAt l 0).2 ≠ 0 then (walkAt l 0).2 else if targetsOk (walkAt l 0).1 then 0 else 131 := by rw [decE, if_neg (by omega)]
  simp -implicitDefEqProofs (disch := first | omega | (simp -implicitDefEqProofs only [go_sem, List.size_toArray, List.length_cons, List.length_nil, Nat.reduceAdd]; done)) only [go_sem, Int.reduceLT, Int.reduceLE, Int.reduceEq, reduceIte, true_and, Nat.zero_add, Nat.add_zero, Option.map_some, c49, next_push, ← hH, el, h0]
  refine ncall_ct (all_c (hb.ext hE) hl) ?_
  have hlen := walkAt_len (l := l) (n := l.length) (i := 0) (by omega)
  obtain ⟨xs, hxs⟩ : ∃ xs, (walkAt l 0).1 = xs := ⟨_, rfl⟩
  obtain ⟨e, he⟩ : ∃ e, (walkAt l 0).2 = e := ⟨_, rfl⟩
  rw [hxs, he]
  rw [hxs] at hlen
  rw [hxs, he] at hE0
  rintro r h1 (⟨he0, w, rfl, hm⟩ | ⟨he0, rfl, hE1⟩)
  case inr =>
    rw [if_pos he0] at hE0
    have ga1 := (hE1.get _ (by omega)).trans ga
    have gb1 := (hE1.get _ (by omega)).trans gb
    simp -implicitDefEqProofs (disch := first | omega | (simp -implicitDefEqProofs only [go_sem, List.size_toArray, List.length_cons, List.length_nil, Nat.reduceAdd]; done)) only [go_sem, Int.reduceLT, Int.reduceLE, Int.reduceEq, reduceIte, true_and, Nat.zero_add, Nat.add_zero, Option.map_some, XEnd]
    refine XLv_fn good_dec (dec_pan ga1 gb1 (by omega)) ?_
    simp -implicitDefEqProofs (disch := first | omega | (simp -implicitDefEqProofs only [go_sem, List.size_toArray, List.length_cons, List.length_nil, Nat.reduceAdd]; done)) only [go_sem, Int.reduceLT, Int.reduceLE, Int.reduceEq, reduceIte, true_and, Nat.zero_add, Nat.add_zero, Option.map_some, settleD, XLv_ret]
    refine ret_at (res_d (by simp -implicitDefEqProofs (disch := first | omega | (simp -implicitDefEqProofs only [go_sem, List.size_toArray, List.length_cons, List.length_nil, Nat.reduceAdd]; done)) only [go_sem, Int.reduceLT, Int.reduceLE, Int.reduceEq, reduceIte, true_and, Nat.zero_add, Nat.add_zero, Option.map_some]) (by simp -implicitDefEqProofs (disch := first | omega | (simp -implicitDefEqProofs only [go_sem, List.size_toArray, List.length_cons, List.length_nil, Nat.reduceAdd]; done)) only [go_sem, Int.reduceLT, Int.reduceLE, Int.reduceEq, reduceIte, true_and, Nat.zero_add, Nat.add_zero, Option.map_some]) ((get_set_other _ _ (by omega)).trans (get_set_same _ _)) (get_set_same _ _)) ⟨_, by rw [hE0], ((hE.trans hE1).set (by omega)).set (by omega), ?_⟩
    rw [decL, hE0, if_neg he0]
    exact .nil _ _ _
  rw [if_neg (fun hh => hh he0)] at hE0
  have hE1 := hm.ext
  have hE1n := hE1.next
  have ga1 := (hE1.get _ (by omega)).trans ga
  have gb1 := (hE1.get _ (by omega)).trans gb
  have hone : [w].all Value.oneCell' = true := by obtain ⟨_, _, rfl⟩ := hm.sl.isSlice; rfl
  have w1 := storeAt_row (o := 0) (vs := [w]) ga1 (Nat.le_of_ble_eq_true rfl) hone
  have sst : ∀ K, dStore Try.prog 91 (.pointer (some ⟨h.next, 0, none⟩)) w K = storeAt K h.next 0 [w] := fun K => st_91 hm.sl.cells1
  obtain ⟨K0, hK0⟩ : ∃ K0, K0 = (h1.set h.next (.row [w] 0 false)).push (.map [] 0) := ⟨_, rfl⟩
  have elw : ∀ K, dLen Try.prog #[91] w K = some (.int .i64 (xs.length : Nat)) := hm.arg.lens (P := Try.prog) (ts := #[91]) (t := 91) rfl isl_91
  have I0 : DecI h h.next (h.next + 1) h1.next H.next w xs [] K0 := by
    have hEs : Ext h (h1.set h.next (.row [w] 0 false)) := (hE.trans hE1).set (by omega)
    refine ⟨by rw [hK0]; exact hEs.push _, ?_, ?_, ?_, ?_, ?_, by omega⟩
    · rw [hK0, get_push_other _ _ (by simp only [next_set]; omega)]; exact get_set_same _ _
    · rw [hK0, get_push_other _ _ (by simp only [next_set]; omega), get_set_other _ _ (by omega)]; exact gb1
    · rw [hK0]; exact SetAt.new
    · refine hm.sl.mono fun j hj => ⟨hj, ?_⟩
      rw [hK0, get_push_other _ _ (by simp only [next_set]; omega), get_set_other _ _ (by omega)]
    · rw [hK0]; exact Nat.lt_succ_self _
  have lw : ∀ {ks K}, DecI h h.next (h.next + 1) h1.next H.next w xs ks K → cellAt K h.next 0 = some w := fun s => cellAt_row s.ga
  simp -implicitDefEqProofs (disch := first | omega | (simp -implicitDefEqProofs only [go_sem, List.size_toArray, List.length_cons, List.length_nil, Nat.reduceAdd]; done)) only [go_sem, Int.reduceLT, Int.reduceLE, Int.reduceEq, reduceIte, true_and, Nat.zero_add, Nat.add_zero, Option.map_some, XEnd, sst, w1, setAt]
  have hK0' : ∀ x, x = [w] → (h1.set h.next (.row x 0 false)).push (.map [] 0) = K0 := fun x hx => by rw [hx, hK0]
  simp only [List.set_cons_zero, next_set, ← hK0]
  simp -implicitDefEqProofs (disch := first | omega | (simp -implicitDefEqProofs only [go_sem, List.size_toArray, List.length_cons, List.length_nil, Nat.reduceAdd]; done)) only [go_sem, Int.reduceLT, Int.reduceLE, Int.reduceEq, reduceIte, true_and, Nat.zero_add, Nat.add_zero, Option.map_some, lw I0, elw]
  refine XLoop_cut (fun s => s.df = [.fn 59 [.pointer (some ⟨h.next, 0, none⟩), .pointer (some ⟨h.next + 1, 0, none⟩)]] ∧ s.rd = none ∧ s.fr 2 = some (.pointer (some ⟨h.next, 0, none⟩)) ∧ s.fr 3 = some (.pointer (some ⟨h.next + 1, 0, none⟩)) ∧ s.fr 4 = some (.map (some h1.next)) ∧ DecI h h.next (h.next + 1) h1.next H.next w xs (xs.map (·.pos)) s.h) ?_ ?_
  · refine xloop (σ := Nat) (by kernel_rfl) (fun i s => s.df = [.fn 59 [.pointer (some ⟨h.next, 0, none⟩), .pointer (some ⟨h.next + 1, 0, none⟩)]] ∧ s.rd = none ∧ s.fr 2 = some (.pointer (some ⟨h.next, 0, none⟩)) ∧ s.fr 3 = some (.pointer (some ⟨h.next + 1, 0, none⟩)) ∧ s.fr 4 = some (.map (some h1.next)) ∧ s.fr 16 = some w ∧ s.fr 17 = some (.int .i64 (xs.length : Nat)) ∧ s.fr 18 = some (.int .i64 (i : Nat)) ∧ i ≤ xs.length ∧ DecI h h.next (h.next + 1) h1.next H.next w xs ((xs.take i).map (·.pos)) s.h) (fun i => xs.length - i) 0 ?_ ?_
    · simp -implicitDefEqProofs (disch := first | omega | (simp -implicitDefEqProofs only [go_sem, List.size_toArray, List.length_cons, List.length_nil, Nat.reduceAdd]; done)) only [go_sem, Int.reduceLT, Int.reduceLE, Int.reduceEq, reduceIte, true_and, Nat.zero_add, Nat.add_zero, Option.map_some]
      exact ⟨rfl, Nat.zero_le _, I0⟩
    · rintro i ⟨fr, df, K, rd⟩ K' hK' hX ⟨hdf, hrd, f2, f3, f4, f16, f17, f18, hi, I⟩
      simp only at hdf hrd f2 f3 f4 f16 f17 f18 I
      subst hdf hrd
      simp -implicitDefEqProofs (disch := first | omega | (simp -implicitDefEqProofs only [go_sem, List.size_toArray, List.length_cons, List.length_nil, Nat.reduceAdd]; done)) only [go_sem, Int.reduceLT, Int.reduceLE, Int.reduceEq, reduceIte, true_and, Nat.zero_add, Nat.add_zero, Option.map_some, f17, f18]
      refine XIf_dec (fun hc1 => ?_) (fun hc1 => ?_)
      · have hj : i < xs.length := by omega
        obtain ⟨id, o, g, c5, _, _, _⟩ := instr_idx I.sl hj
        have hw1 := wrap_succ hj (by omega)
        obtain ⟨x, hx⟩ : ∃ x, xs[i] = x := ⟨_, rfl⟩
        rw [hx] at c5
        obtain ⟨K1, hK1⟩ : ∃ K1, K1 = K.push (.row (fInstr.enc x) 0 false) := ⟨_, rfl⟩
        have g1 : K1.get K.next = some (.row (fInstr.enc x) 0 false) := by rw [hK1]; exact get_push_same _ _
        have p0 : cellAt K1 K.next 0 = some (.int .i64 x.pos) := cellAt_row g1
        have s5 := store5 (h := K) (x := x)
        rw [← hK1] at s5
        have I1 : DecI h h.next (h.next + 1) h1.next H.next w xs ((xs.take i).map (·.pos)) K1 := I.push (by rw [hK1]; exact Ext.push1 _ _)
        obtain ⟨ob, hu, hs⟩ := I1.sm.update set_begins x.pos
        simp -implicitDefEqProofs (disch := first | omega | (simp -implicitDefEqProofs only [go_sem, List.size_toArray, List.length_cons, List.length_nil, Nat.reduceAdd]; done)) only [go_sem, Int.reduceLT, Int.reduceLE, Int.reduceEq, reduceIte, true_and, Nat.zero_add, Nat.add_zero, Option.map_some, f16, f18, g, c5, s5, f4, p0, hu, hw1]
        refine hK' (i + 1) _ ?_ (by omega)
        refine ⟨by trivial, by trivial, by simp -implicitDefEqProofs (disch := first | omega | (simp -implicitDefEqProofs only [go_sem, List.size_toArray, List.length_cons, List.length_nil, Nat.reduceAdd]; done)) only [go_sem, Int.reduceLT, Int.reduceLE, Int.reduceEq, reduceIte, true_and, Nat.zero_add, Nat.add_zero, Option.map_some, f2], by simp -implicitDefEqProofs (disch := first | omega | (simp -implicitDefEqProofs only [go_sem, List.size_toArray, List.length_cons, List.length_nil, Nat.reduceAdd]; done)) only [go_sem, Int.reduceLT, Int.reduceLE, Int.reduceEq, reduceIte, true_and, Nat.zero_add, Nat.add_zero, Option.map_some, f3], by simp -implicitDefEqProofs (disch := first | omega | (simp -implicitDefEqProofs only [go_sem, List.size_toArray, List.length_cons, List.length_nil, Nat.reduceAdd]; done)) only [go_sem, Int.reduceLT, Int.reduceLE, Int.reduceEq, reduceIte, true_and, Nat.zero_add, Nat.add_zero, Option.map_some, f4], by simp -implicitDefEqProofs (disch := first | omega | (simp -implicitDefEqProofs only [go_sem, List.size_toArray, List.length_cons, List.length_nil, Nat.reduceAdd]; done)) only [go_sem, Int.reduceLT, Int.reduceLE, Int.reduceEq, reduceIte, true_and, Nat.zero_add, Nat.add_zero, Option.map_some, f16], by simp -implicitDefEqProofs (disch := first | omega | (simp -implicitDefEqProofs only [go_sem, List.size_toArray, List.length_cons, List.length_nil, Nat.reduceAdd]; done)) only [go_sem, Int.reduceLT, Int.reduceLE, Int.reduceEq, reduceIte, true_and, Nat.zero_add, Nat.add_zero, Option.map_some, f17], by simp -implicitDefEqProofs (disch := first | omega | (simp -implicitDefEqProofs only [go_sem, List.size_toArray, List.length_cons, List.length_nil, Nat.reduceAdd]; done)) only [go_sem, Int.reduceLT, Int.reduceLE, Int.reduceEq, reduceIte, true_and, Nat.zero_add, Nat.add_zero, Option.map_some], by omega, ?_⟩
        have := I1.upd hs
        rw [show xs.take (i + 1) = xs.take i ++ [x] by rw [← hx]; simp]
        simpa using this
      · obtain rfl : i = xs.length := by omega
        refine hX _ _ (by simp) ?_
        rw [List.take_length] at I
        exact ⟨rfl, rfl, f2, f3, f4, I⟩
  rintro ⟨fr, df, K, rd⟩ ⟨hdf, hrd, f2, f3, f4, I⟩
  simp only at hdf hrd f2 f3 f4 I
  subst hdf hrd
  simp -implicitDefEqProofs (disch := first | omega | (simp -implicitDefEqProofs only [go_sem, List.size_toArray, List.length_cons, List.length_nil, Nat.reduceAdd]; done)) only [go_sem, Int.reduceLT, Int.reduceLE, Int.reduceEq, reduceIte, true_and, Nat.zero_add, Nat.add_zero, Option.map_some, f2, lw I, elw]
  refine xloop (σ := Nat) (by kernel_rfl) (fun i s => s.df = [.fn 59 [.pointer (some ⟨h.next, 0, none⟩), .pointer (some ⟨h.next + 1, 0, none⟩)]] ∧ s.rd = none ∧ s.fr 2 = some (.pointer (some ⟨h.next, 0, none⟩)) ∧ s.fr 3 = some (.pointer (some ⟨h.next + 1, 0, none⟩)) ∧ s.fr 4 = some (.map (some h1.next)) ∧ s.fr 26 = some w ∧ s.fr 27 = some (.int .i64 (xs.length : Nat)) ∧ s.fr 28 = some (.int .i64 (i : Nat)) ∧ i ≤ xs.length ∧ jumpsSo xs i ∧ DecI h h.next (h.next + 1) h1.next H.next w xs (xs.map (·.pos)) s.h) (fun i => xs.length - i) 0 ?_ ?_
  · simp -implicitDefEqProofs (disch := first | omega | (simp -implicitDefEqProofs only [go_sem, List.size_toArray, List.length_cons, List.length_nil, Nat.reduceAdd]; done)) only [go_sem, Int.reduceLT, Int.reduceLE, Int.reduceEq, reduceIte, true_and, Nat.zero_add, Nat.add_zero, Option.map_some, f2, f3, f4]
    exact ⟨rfl, Nat.zero_le _, fun j x hj => absurd hj (Nat.not_lt_zero j), I⟩
  clear f2 f3 f4 I K fr
  rintro i ⟨fr, df, K, rd⟩ K' hK' hX ⟨hdf, hrd, f2, f3, f4, f26, f27, f28, hi, hso, I⟩
  simp only at hdf hrd f2 f3 f4 f26 f27 f28 I
  subst hdf hrd
  simp -implicitDefEqProofs (disch := first | omega | (simp -implicitDefEqProofs only [go_sem, List.size_toArray, List.length_cons, List.length_nil, Nat.reduceAdd]; done)) only [go_sem, Int.reduceLT, Int.reduceLE, Int.reduceEq, reduceIte, true_and, Nat.zero_add, Nat.add_zero, Option.map_some, f27, f28]
  refine XIf_dec (fun hc1 => ?_) (fun hc1 => ?_)
  · have hj : i < xs.length := by omega
    obtain ⟨id, o, g, c5, _, _, _⟩ := instr_idx I.sl hj
    have hw1 := wrap_succ hj (by omega)
    have hmem := List.getElem_mem hj
    have hsucc := fun hx => jumpsSo_succ hj hso hx
    have hbad := fun (a : jumpsB xs[i].op = true) (b : xs[i].imm ∉ xs.map (·.pos)) => targets_bad hmem a b
    obtain ⟨x, hx⟩ : ∃ x, xs[i] = x := ⟨_, rfl⟩
    rw [hx] at c5
    rw [hx] at hsucc hbad
    obtain ⟨K1, hK1⟩ : ∃ K1, K1 = K.push (.row (fInstr.enc x) 0 false) := ⟨_, rfl⟩
    have g1 : K1.get K.next = some (.row (fInstr.enc x) 0 false) := by rw [hK1]; exact get_push_same _ _
    have p4 : cellAt K1 K.next 4 = some (.int .i64 x.imm) := cellAt_row g1
    have pc : cellsAt K1 K.next 0 5 = some (instrV x) := by rw [cellsAt_row g1 (Nat.le_of_ble_eq_true rfl)]; rfl
    have s5 := store5 (h := K) (x := x)
    rw [← hK1] at s5
    have I1 : DecI h h.next (h.next + 1) h1.next H.next w xs (xs.map (·.pos)) K1 := I.push (by rw [hK1]; exact Ext.push1 _ _)
    simp -implicitDefEqProofs (disch := first | omega | (simp -implicitDefEqProofs only [go_sem, List.size_toArray, List.length_cons, List.length_nil, Nat.reduceAdd]; done)) only [go_sem, Int.reduceLT, Int.reduceLE, Int.reduceEq, reduceIte, true_and, Nat.zero_add, Nat.add_zero, Option.map_some, f26, f28, g, c5, s5, pc]
    refine ncall jumps_c ?_
    by_cases hjb : jumpsB x.op = true
    case neg =>
      have hjb' : jumpsB x.op = false := by simpa using hjb
      simp -implicitDefEqProofs (disch := first | omega | (simp -implicitDefEqProofs only [go_sem, List.size_toArray, List.length_cons, List.length_nil, Nat.reduceAdd]; done)) only [go_sem, Int.reduceLT, Int.reduceLE, Int.reduceEq, reduceIte, true_and, Nat.zero_add, Nat.add_zero, Option.map_some, hjb', dPick_t, dPick_f, f28, hw1]
      refine hK' (i + 1) _ ?_ (by omega)
      exact ⟨by trivial, by trivial, by simp -implicitDefEqProofs (disch := first | omega | (simp -implicitDefEqProofs only [go_sem, List.size_toArray, List.length_cons, List.length_nil, Nat.reduceAdd]; done)) only [go_sem, Int.reduceLT, Int.reduceLE, Int.reduceEq, reduceIte, true_and, Nat.zero_add, Nat.add_zero, Option.map_some, f2], by simp -implicitDefEqProofs (disch := first | omega | (simp -implicitDefEqProofs only [go_sem, List.size_toArray, List.length_cons, List.length_nil, Nat.reduceAdd]; done)) only [go_sem, Int.reduceLT, Int.reduceLE, Int.reduceEq, reduceIte, true_and, Nat.zero_add, Nat.add_zero, Option.map_some, f3], by simp -implicitDefEqProofs (disch := first | omega | (simp -implicitDefEqProofs only [go_sem, List.size_toArray, List.length_cons, List.length_nil, Nat.reduceAdd]; done)) only [go_sem, Int.reduceLT, Int.reduceLE, Int.reduceEq, reduceIte, true_and, Nat.zero_add, Nat.add_zero, Option.map_some, f4], by simp -implicitDefEqProofs (disch := first | omega | (simp -implicitDefEqProofs only [go_sem, List.size_toArray, List.length_cons, List.length_nil, Nat.reduceAdd]; done)) only [go_sem, Int.reduceLT, Int.reduceLE, Int.reduceEq, reduceIte, true_and, Nat.zero_add, Nat.add_zero, Option.map_some, f26], by simp -implicitDefEqProofs (disch := first | omega | (simp -implicitDefEqProofs only [go_sem, List.size_toArray, List.length_cons, List.length_nil, Nat.reduceAdd]; done)) only [go_sem, Int.reduceLT, Int.reduceLE, Int.reduceEq, reduceIte, true_and, Nat.zero_add, Nat.add_zero, Option.map_some, f27], by simp -implicitDefEqProofs (disch := first | omega | (simp -implicitDefEqProofs only [go_sem, List.size_toArray, List.length_cons, List.length_nil, Nat.reduceAdd]; done)) only [go_sem, Int.reduceLT, Int.reduceLE, Int.reduceEq, reduceIte, true_and, Nat.zero_add, Nat.add_zero, Option.map_some], by omega, hsucc fun hh => absurd hh hjb, I1⟩
    have hlk := I1.sm.lookup set_begins x.imm
    by_cases hin : x.imm ∈ xs.map (·.pos)
    · rw [decide_eq_true hin] at hlk
      simp -implicitDefEqProofs (disch := first | omega | (simp -implicitDefEqProofs only [go_sem, List.size_toArray, List.length_cons, List.length_nil, Nat.reduceAdd]; done)) only [go_sem, Int.reduceLT, Int.reduceLE, Int.reduceEq, reduceIte, true_and, Nat.zero_add, Nat.add_zero, Option.map_some, hjb, f4, p4, hlk, dPick_t, dPick_f, f28, hw1]
      refine hK' (i + 1) _ ?_ (by omega)
      exact ⟨by trivial, by trivial, by simp -implicitDefEqProofs (disch := first | omega | (simp -implicitDefEqProofs only [go_sem, List.size_toArray, List.length_cons, List.length_nil, Nat.reduceAdd]; done)) only [go_sem, Int.reduceLT, Int.reduceLE, Int.reduceEq, reduceIte, true_and, Nat.zero_add, Nat.add_zero, Option.map_some, f2], by simp -implicitDefEqProofs (disch := first | omega | (simp -implicitDefEqProofs only [go_sem, List.size_toArray, List.length_cons, List.length_nil, Nat.reduceAdd]; done)) only [go_sem, Int.reduceLT, Int.reduceLE, Int.reduceEq, reduceIte, true_and, Nat.zero_add, Nat.add_zero, Option.map_some, f3], by simp -implicitDefEqProofs (disch := first | omega | (simp -implicitDefEqProofs only [go_sem, List.size_toArray, List.length_cons, List.length_nil, Nat.reduceAdd]; done)) only [go_sem, Int.reduceLT, Int.reduceLE, Int.reduceEq, reduceIte, true_and, Nat.zero_add, Nat.add_zero, Option.map_some, f4], by simp -implicitDefEqProofs (disch := first | omega | (simp -implicitDefEqProofs only [go_sem, List.size_toArray, List.length_cons, List.length_nil, Nat.reduceAdd]; done)) only [go_sem, Int.reduceLT, Int.reduceLE, Int.reduceEq, reduceIte, true_and, Nat.zero_add, Nat.add_zero, Option.map_some, f26], by simp -implicitDefEqProofs (disch := first | omega | (simp -implicitDefEqProofs only [go_sem, List.size_toArray, List.length_cons, List.length_nil, Nat.reduceAdd]; done)) only [go_sem, Int.reduceLT, Int.reduceLE, Int.reduceEq, reduceIte, true_and, Nat.zero_add, Nat.add_zero, Option.map_some, f27], by simp -implicitDefEqProofs (disch := first | omega | (simp -implicitDefEqProofs only [go_sem, List.size_toArray, List.length_cons, List.length_nil, Nat.reduceAdd]; done)) only [go_sem, Int.reduceLT, Int.reduceLE, Int.reduceEq, reduceIte, true_and, Nat.zero_add, Nat.add_zero, Option.map_some], by omega, hsucc fun _ => hin, I1⟩
    · rw [decide_eq_false hin] at hlk
      rw [hbad hjb hin] at hE0
      simp only [Bool.false_eq_true, if_false] at hE0
      simp -implicitDefEqProofs (disch := first | omega | (simp -implicitDefEqProofs only [go_sem, List.size_toArray, List.length_cons, List.length_nil, Nat.reduceAdd]; done)) only [go_sem, Int.reduceLT, Int.reduceLE, Int.reduceEq, reduceIte, true_and, Nat.zero_add, Nat.add_zero, Option.map_some, hjb, f4, p4, hlk, dPick_t, dPick_f]
      refine ncall_pan (must_yes (by decide)) ?_
      refine hX _ _ (by simp) ?_
      simp -implicitDefEqProofs (disch := first | omega | (simp -implicitDefEqProofs only [go_sem, List.size_toArray, List.length_cons, List.length_nil, Nat.reduceAdd]; done)) only [go_sem, Int.reduceLT, Int.reduceLE, Int.reduceEq, reduceIte, true_and, Nat.zero_add, Nat.add_zero, Option.map_some]
      refine XLv_fn good_dec (dec_pan I1.ga I1.gb (by omega)) ?_
      simp -implicitDefEqProofs (disch := first | omega | (simp -implicitDefEqProofs only [go_sem, List.size_toArray, List.length_cons, List.length_nil, Nat.reduceAdd]; done)) only [go_sem, Int.reduceLT, Int.reduceLE, Int.reduceEq, reduceIte, true_and, Nat.zero_add, Nat.add_zero, Option.map_some, settleD, XLv_ret]
      refine ret_at (res_d (by simp -implicitDefEqProofs (disch := first | omega | (simp -implicitDefEqProofs only [go_sem, List.size_toArray, List.length_cons, List.length_nil, Nat.reduceAdd]; done)) only [go_sem, Int.reduceLT, Int.reduceLE, Int.reduceEq, reduceIte, true_and, Nat.zero_add, Nat.add_zero, Option.map_some, f2]) (by simp -implicitDefEqProofs (disch := first | omega | (simp -implicitDefEqProofs only [go_sem, List.size_toArray, List.length_cons, List.length_nil, Nat.reduceAdd]; done)) only [go_sem, Int.reduceLT, Int.reduceLE, Int.reduceEq, reduceIte, true_and, Nat.zero_add, Nat.add_zero, Option.map_some, f3]) ((get_set_other _ _ (by omega)).trans (get_set_same _ _)) (get_set_same _ _)) ⟨_, by rw [hE0], (I1.ext.set (by omega)).set (by omega), ?_⟩
      rw [decL, hE0]
      exact .nil _ _ _
  · obtain rfl : i = xs.length := by omega
    rw [targets_all hso] at hE0
    simp only [if_true] at hE0
    refine hX _ _ (by simp) ?_
    have w2 : storeAt K h.next 0 [w] = some K := by
      rw [storeAt_row I.ga (Nat.le_of_ble_eq_true rfl) hone]
      exact congrArg some (set_self I.ga)
    have w3 : storeAt K (h.next + 1) 0 [.int .i64 0] = some K := by
      rw [storeAt_row I.gb (Nat.le_of_ble_eq_true rfl) rfl]
      exact congrArg some (set_self I.gb)
    simp -implicitDefEqProofs (disch := first | omega | (simp -implicitDefEqProofs only [go_sem, List.size_toArray, List.length_cons, List.length_nil, Nat.reduceAdd]; done)) only [go_sem, Int.reduceLT, Int.reduceLE, Int.reduceEq, reduceIte, true_and, Nat.zero_add, Nat.add_zero, Option.map_some, f2, f3, lw I, sst, w2, w3]
    refine XLv_fn good_dec dec_ret ?_
    simp -implicitDefEqProofs (disch := first | omega | (simp -implicitDefEqProofs only [go_sem, List.size_toArray, List.length_cons, List.length_nil, Nat.reduceAdd]; done)) only [go_sem, Int.reduceLT, Int.reduceLE, Int.reduceEq, reduceIte, true_and, Nat.zero_add, Nat.add_zero, Option.map_some, settleD, XLv_ret]
    refine ret_at (res_d (by simp -implicitDefEqProofs (disch := first | omega | (simp -implicitDefEqProofs only [go_sem, List.size_toArray, List.length_cons, List.length_nil, Nat.reduceAdd]; done)) only [go_sem, Int.reduceLT, Int.reduceLE, Int.reduceEq, reduceIte, true_and, Nat.zero_add, Nat.add_zero, Option.map_some, f2]) (by simp -implicitDefEqProofs (disch := first | omega | (simp -implicitDefEqProofs only [go_sem, List.size_toArray, List.length_cons, List.length_nil, Nat.reduceAdd]; done)) only [go_sem, Int.reduceLT, Int.reduceLE, Int.reduceEq, reduceIte, true_and, Nat.zero_add, Nat.add_zero, Option.map_some, f3]) I.ga I.gb) ⟨_, by rw [hE0], I.ext, ?_⟩
    rw [decL, hE0, if_pos rfl, hxs]
    have hlt := I.lt
    exact I.sl.mono fun j hj => ⟨by omega, rfl⟩
end Go.Proofs.Ytbdljpndncohaaa

namespace Go.Proofs.Ytbdljpndncohaaa
open Go.D
set_option maxRecDepth 100000

theorem key_idx {S : Nat → Prop} {h : DHeap} {v : Value} {l : List Key} {i : Nat} (hb : Sl fKey.rep S h v l) (hi : i < l.length) :
    ∃ id o, dIndexAddr Try.prog 24 v (.int .i64 (i : Nat)) = some (.pointer (some ⟨id, o, none⟩)) ∧ cellsAt h id o 2 = some (keyV l[i]) ∧ cellAt h id (o + 0) = some (.int .i32 l[i].t) ∧ cellAt h id (o + 1) = some (.int .i64 l[i].r) := by
  obtain ⟨id, o, g, hs, hat⟩ := hb.idx (P := Try.prog) (t := 24) el_24 (k := .i64) (List.getElem?_eq_getElem hi)
  obtain ⟨a, b, _⟩ := hat.flat
  exact ⟨id, o, g, b, a 0 (by decide), a 1 (by decide)⟩
theorem keyLt_neg {a b : Key} : keyLt a b = !(decide (b.t < a.t) || (decide (b.t = a.t) && decide (b.r ≤ a.r))) := by
  unfold keyLt
  by_cases h1 : b.t < a.t
  · simp [h1]; omega
  · by_cases h2 : b.t = a.t
    · by_cases h3 : b.r ≤ a.r
      · simp [h1, h2, h3, Int.not_lt.2]
      · simp [h1, h2, h3, Int.not_le.1]
    · simp [h1, h2]; omega
theorem rises_c {h : DHeap} {v : Value} {l : List Key} (hb : Arg fKey.rep h v l) (hl : l.length ≤ 4294967296) : DC Try.prog 48 [v] h (.ret (.bool (risesB keyLt l))) h := by
  refine Ct.pure (go_48 (by simp) ?_) (vin_bool _)
  have el : ∀ K, dLen Try.prog #[24] v K = some (.int .i64 (l.length : Nat)) := hb.lens (P := Try.prog) (ts := #[24]) (t := 24) rfl isl_24
  simp -implicitDefEqProofs (disch := first | omega | (simp -implicitDefEqProofs only [go_sem, List.size_toArray, List.length_cons, List.length_nil, Nat.reduceAdd]; done)) only [go_sem, Int.reduceLT, Int.reduceLE, Int.reduceEq, reduceIte, true_and, Nat.zero_add, Nat.add_zero, Option.map_some, c48, el]
  refine xloop (σ := Nat) (by kernel_rfl) (fun i s => s.df = [] ∧ s.h = h ∧ s.fr 0 = some v ∧ s.fr 5 = some (.int .i64 (l.length : Nat)) ∧ s.fr 6 = some (.int .i64 (i : Nat)) ∧ i ≤ l.length ∧ risesB keyLt (l.drop (i - 1)) = risesB keyLt l) (fun i => l.length - i) 0 ?_ ?_
  · simp -implicitDefEqProofs (disch := first | omega | (simp -implicitDefEqProofs only [go_sem, List.size_toArray, List.length_cons, List.length_nil, Nat.reduceAdd]; done)) only [go_sem, Int.reduceLT, Int.reduceLE, Int.reduceEq, reduceIte, true_and, Nat.zero_add, Nat.add_zero, Option.map_some]
    exact ⟨rfl, Nat.zero_le _, rfl⟩
  · rintro i ⟨fr, df, K, rd⟩ K' hK' hX ⟨rfl, rfl, f0, f5, f6, hi, ho⟩
    simp only at f0 f5 f6
    simp -implicitDefEqProofs (disch := first | omega | (simp -implicitDefEqProofs only [go_sem, List.size_toArray, List.length_cons, List.length_nil, Nat.reduceAdd]; done)) only [go_sem, Int.reduceLT, Int.reduceLE, Int.reduceEq, reduceIte, true_and, Nat.zero_add, Nat.add_zero, Option.map_some, f5, f6]
    refine XIf_dec (fun hc1 => ?_) (fun hc1 => ?_)
    · have hj : i < l.length := by omega
      have hw1 := wrap_succ hj (by omega)
      simp -implicitDefEqProofs (disch := first | omega | (simp -implicitDefEqProofs only [go_sem, List.size_toArray, List.length_cons, List.length_nil, Nat.reduceAdd]; done)) only [go_sem, Int.reduceLT, Int.reduceLE, Int.reduceEq, reduceIte, true_and, Nat.zero_add, Nat.add_zero, Option.map_some, f6]
      refine dr_48_0 ?_
      by_cases h0 : (0 : Int) < (i : Nat)
      case neg =>
        obtain rfl : i = 0 := by omega
        simp -implicitDefEqProofs (disch := first | omega | (simp -implicitDefEqProofs only [go_sem, List.size_toArray, List.length_cons, List.length_nil, Nat.reduceAdd]; done)) only [go_sem, Int.reduceLT, Int.reduceLE, Int.reduceEq, reduceIte, true_and, Nat.zero_add, Nat.add_zero, Option.map_some, l48_0, h0, dPick_t, dPick_f, f6, hw1, XStab_nil]
        refine hK' (0 + 1) _ ?_ (by omega)
        exact ⟨by trivial, by trivial, by simp -implicitDefEqProofs (disch := first | omega | (simp -implicitDefEqProofs only [go_sem, List.size_toArray, List.length_cons, List.length_nil, Nat.reduceAdd]; done)) only [go_sem, Int.reduceLT, Int.reduceLE, Int.reduceEq, reduceIte, true_and, Nat.zero_add, Nat.add_zero, Option.map_some, f0], by simp -implicitDefEqProofs (disch := first | omega | (simp -implicitDefEqProofs only [go_sem, List.size_toArray, List.length_cons, List.length_nil, Nat.reduceAdd]; done)) only [go_sem, Int.reduceLT, Int.reduceLE, Int.reduceEq, reduceIte, true_and, Nat.zero_add, Nat.add_zero, Option.map_some, f5], by simp -implicitDefEqProofs (disch := first | omega | (simp -implicitDefEqProofs only [go_sem, List.size_toArray, List.length_cons, List.length_nil, Nat.reduceAdd]; done)) only [go_sem, Int.reduceLT, Int.reduceLE, Int.reduceEq, reduceIte, true_and, Nat.zero_add, Nat.add_zero, Option.map_some], by omega, ho⟩
      obtain ⟨j, rfl⟩ : ∃ j, i = j + 1 := ⟨i - 1, by omega⟩
      have h0' := eq_true h0
      have hwm : IntKind.i64.wrap (((j + 1 : Nat) : Int) - 1) = (j : Nat) := by rw [wrap_i64_in (by omega) (by omega)]; omega
      obtain ⟨id1, o1, g1, _, a0, a1⟩ := key_idx hb (i := j + 1) hj
      obtain ⟨id2, o2, g2, _, b0, b1⟩ := key_idx hb (i := j) (by omega)
      rw [Nat.add_zero] at a0 b0
      rw [Nat.add_sub_cancel, risesB_two hj, keyLt_neg] at ho
      have good : ∀ {s : St}, s.df = [] → s.h = K → s.fr 0 = some v → s.fr 5 = some (.int .i64 (l.length : Nat)) → s.fr 6 = some (.int .i64 ((j + 1 + 1 : Nat) : Int)) → (decide (l[j + 1].t < l[j].t) || (decide (l[j + 1].t = l[j].t) && decide (l[j + 1].r ≤ l[j].r))) = false → K' .normal s := fun a b c d e f => by
        refine hK' (j + 1 + 1) _ ⟨a, b, c, d, e, by omega, ?_⟩ (by omega)
        rw [f, Bool.not_false, Bool.true_and] at ho
        exact ho
      by_cases h1 : l[j + 1].t < l[j].t
      · have h1' := eq_true h1
        simp -implicitDefEqProofs (disch := first | omega | (simp -implicitDefEqProofs only [go_sem, List.size_toArray, List.length_cons, List.length_nil, Nat.reduceAdd]; done)) only [go_sem, Int.reduceLT, Int.reduceLE, Int.reduceEq, reduceIte, true_and, Nat.zero_add, Nat.add_zero, Option.map_some, l48_0, f0, f6, h0', h1', g1, g2, hwm, a0, a1, b0, b1, dPick_t, dPick_f, XStab_nil]
        refine hX _ _ (by simp) ?_
        simp -implicitDefEqProofs (disch := first | omega | (simp -implicitDefEqProofs only [go_sem, List.size_toArray, List.length_cons, List.length_nil, Nat.reduceAdd]; done)) only [go_sem, Int.reduceLT, Int.reduceLE, Int.reduceEq, reduceIte, true_and, Nat.zero_add, Nat.add_zero, Option.map_some]
        refine ⟨_, rfl, ?_, .refl _⟩
        rw [← ho]
        simp [h1]
      by_cases h2 : l[j + 1].t = l[j].t
      case neg =>
        simp -implicitDefEqProofs (disch := first | omega | (simp -implicitDefEqProofs only [go_sem, List.size_toArray, List.length_cons, List.length_nil, Nat.reduceAdd]; done)) only [go_sem, Int.reduceLT, Int.reduceLE, Int.reduceEq, reduceIte, true_and, Nat.zero_add, Nat.add_zero, Option.map_some, l48_0, f0, f6, h0', h1, h2, g1, g2, hwm, a0, a1, b0, b1, dPick_t, dPick_f, XStab_nil, hw1]
        exact good rfl rfl (by simp -implicitDefEqProofs (disch := first | omega | (simp -implicitDefEqProofs only [go_sem, List.size_toArray, List.length_cons, List.length_nil, Nat.reduceAdd]; done)) only [go_sem, Int.reduceLT, Int.reduceLE, Int.reduceEq, reduceIte, true_and, Nat.zero_add, Nat.add_zero, Option.map_some, f0]) (by simp -implicitDefEqProofs (disch := first | omega | (simp -implicitDefEqProofs only [go_sem, List.size_toArray, List.length_cons, List.length_nil, Nat.reduceAdd]; done)) only [go_sem, Int.reduceLT, Int.reduceLE, Int.reduceEq, reduceIte, true_and, Nat.zero_add, Nat.add_zero, Option.map_some, f5]) (by simp -implicitDefEqProofs (disch := first | omega | (simp -implicitDefEqProofs only [go_sem, List.size_toArray, List.length_cons, List.length_nil, Nat.reduceAdd]; done)) only [go_sem, Int.reduceLT, Int.reduceLE, Int.reduceEq, reduceIte, true_and, Nat.zero_add, Nat.add_zero, Option.map_some]) (by simp [h1, h2])
      have h2' := eq_true h2
      by_cases h3 : l[j + 1].r ≤ l[j].r
      · have h3' := eq_true h3
        simp -implicitDefEqProofs (disch := first | omega | (simp -implicitDefEqProofs only [go_sem, List.size_toArray, List.length_cons, List.length_nil, Nat.reduceAdd]; done)) only [go_sem, Int.reduceLT, Int.reduceLE, Int.reduceEq, reduceIte, true_and, Nat.zero_add, Nat.add_zero, Option.map_some, l48_0, f0, f6, h0', h1, h2', h3', g1, g2, hwm, a0, a1, b0, b1, dPick_t, dPick_f, XStab_nil]
        refine hX _ _ (by simp) ?_
        simp -implicitDefEqProofs (disch := first | omega | (simp -implicitDefEqProofs only [go_sem, List.size_toArray, List.length_cons, List.length_nil, Nat.reduceAdd]; done)) only [go_sem, Int.reduceLT, Int.reduceLE, Int.reduceEq, reduceIte, true_and, Nat.zero_add, Nat.add_zero, Option.map_some]
        refine ⟨_, rfl, ?_, .refl _⟩
        rw [← ho]
        simp [h1, h2, h3]
      · simp -implicitDefEqProofs (disch := first | omega | (simp -implicitDefEqProofs only [go_sem, List.size_toArray, List.length_cons, List.length_nil, Nat.reduceAdd]; done)) only [go_sem, Int.reduceLT, Int.reduceLE, Int.reduceEq, reduceIte, true_and, Nat.zero_add, Nat.add_zero, Option.map_some, l48_0, f0, f6, h0', h1, h2', h3, g1, g2, hwm, a0, a1, b0, b1, dPick_t, dPick_f, XStab_nil, hw1]
        exact good rfl rfl (by simp -implicitDefEqProofs (disch := first | omega | (simp -implicitDefEqProofs only [go_sem, List.size_toArray, List.length_cons, List.length_nil, Nat.reduceAdd]; done)) only [go_sem, Int.reduceLT, Int.reduceLE, Int.reduceEq, reduceIte, true_and, Nat.zero_add, Nat.add_zero, Option.map_some, f0]) (by simp -implicitDefEqProofs (disch := first | omega | (simp -implicitDefEqProofs only [go_sem, List.size_toArray, List.length_cons, List.length_nil, Nat.reduceAdd]; done)) only [go_sem, Int.reduceLT, Int.reduceLE, Int.reduceEq, reduceIte, true_and, Nat.zero_add, Nat.add_zero, Option.map_some, f5]) (by simp -implicitDefEqProofs (disch := first | omega | (simp -implicitDefEqProofs only [go_sem, List.size_toArray, List.length_cons, List.length_nil, Nat.reduceAdd]; done)) only [go_sem, Int.reduceLT, Int.reduceLE, Int.reduceEq, reduceIte, true_and, Nat.zero_add, Nat.add_zero, Option.map_some]) (by simp [h1, h2, h3])
    · refine hX _ _ (by simp) ?_
      simp -implicitDefEqProofs (disch := first | omega | (simp -implicitDefEqProofs only [go_sem, List.size_toArray, List.length_cons, List.length_nil, Nat.reduceAdd]; done)) only [go_sem, Int.reduceLT, Int.reduceLE, Int.reduceEq, reduceIte, true_and, Nat.zero_add, Nat.add_zero, Option.map_some]
      refine ⟨_, rfl, ?_, .refl _⟩
      rw [← ho, risesB_short (by simp; omega)]
end Go.Proofs.Ytbdljpndncohaaa

namespace Go.Proofs.Ytbdljpndncohaaa
open Go.D
set_option maxRecDepth 100000

end Go.Proofs.Ytbdljpndncohaaa

namespace Go.Proofs.Ytbdljpndncohaaa
open Go.D
set_option maxRecDepth 100000

/-- an instruction's index is of something that is not there -/
def badI (t : Txn) (x : Instr) : Bool :=
  if x.op = 3 ∨ x.op = 4 then decide ((t.reads.length : Int) ≤ x.imm) else if x.op = 5 ∨ x.op = 6 then decide ((t.writes.length : Int) ≤ x.imm) else if x.op = 2 then decide ((t.args.length : Int) ≤ x.imm) else false
def txnE (t : Txn) : Int :=
  if t.ses < 1 ∨ 1099511627776 < t.ses ∨ t.req < 1 ∨ 1099511627776 < t.req then 1
  else if 8 < t.args.length ∨ 16 < t.reads.length ∨ 16 < t.writes.length then 3
  else if risesB keyLt t.reads = false ∨ risesB keyLt t.writes = false then 1
  else if decE t.code ≠ 0 then decE t.code
  else if (decL t.code).any (badI t) then 132 else 0
theorem walk_imm {l : List Int} (hb : ∀ j, 0 ≤ l.getD j 0 ∧ l.getD j 0 ≤ 255) : ∀ (n i : Nat), ∀ x ∈ (walkF l n i).1, x.imm ≤ 65535
  | 0, i, x, hx => by simp [walkF] at hx
  | n + 1, i, x, hx => by
    simp only [walkF] at hx
    split at hx
    · simp at hx
    · split at hx
      · rename_i he
        rcases List.mem_cons.1 hx with rfl | hx
        · obtain ⟨e, _⟩ := oneT_next he
          rw [e]
          have b3 := hb (i + 1 + (if firstB (l.getD i 0) then 1 else 0) + if twoB (l.getD i 0) then 1 else 0)
          have b4 := hb (i + 1 + (if firstB (l.getD i 0) then 1 else 0) + (if twoB (l.getD i 0) then 1 else 0) + 1)
          simp only [oneI, immW]
          generalize l.getD (i + 1 + (if firstB (l.getD i 0) then 1 else 0) + if twoB (l.getD i 0) then 1 else 0) 0 = y3 at b3 ⊢
          generalize l.getD (i + 1 + (if firstB (l.getD i 0) then 1 else 0) + (if twoB (l.getD i 0) then 1 else 0) + 1) 0 = y4 at b4 ⊢
          repeat' split
          all_goals omega
        · exact walk_imm hb n _ x hx
      · simp at hx
theorem decL_imm {l : List Int} (hb : ∀ j, 0 ≤ l.getD j 0 ∧ l.getD j 0 ≤ 255) : ∀ x ∈ decL l, x.imm ≤ 65535 := by
  intro x hx
  unfold decL at hx
  split at hx
  · exact walk_imm hb _ _ x hx
  · simp at hx
/-- a transaction's box -/
structure TxnAt (h : DHeap) (id : Nat) (t : Txn) (vc va vr vw : Value) : Prop where
  c0 : cellAt h id 0 = some (.int .i64 t.ses)
  c1 : cellAt h id 1 = some (.int .i64 t.req)
  c2 : cellAt h id 2 = some vc
  c3 : cellAt h id 3 = some va
  c4 : cellAt h id 4 = some vr
  c5 : cellAt h id 5 = some vw
theorem TxnAt.of {h : DHeap} {id z : Nat} {ro : Bool} {t : Txn} {vc va vr vw : Value} (g : h.get id = some (.row [.int .i64 t.ses, .int .i64 t.req, vc, va, vr, vw] z ro)) : TxnAt h id t vc va vr vw :=
  ⟨cellAt_row g, cellAt_row g, cellAt_row g, cellAt_row g, cellAt_row g, cellAt_row g⟩
theorem any_take {t : Txn} {l : List Instr} {i : Nat} (hi : i < l.length) (h : (l.take i).any (badI t) = false) (hx : badI t l[i] = false) : (l.take (i + 1)).any (badI t) = false := by
  rw [List.take_succ_eq_append_getElem hi, List.any_append, h, Bool.false_or]
  simp [hx]
end Go.Proofs.Ytbdljpndncohaaa

namespace Go.Proofs.Ytbdljpndncohaaa
open Go.D
set_option maxRecDepth 100000

set_option maxHeartbeats 1000000 in
theorem checkT_c {h : DHeap} {t : Txn} {vc va vr vw : Value} (hc : Arg fU8.rep h vc t.code) (ha : Arg fI64.rep h va t.args) (hr : Arg fKey.rep h vr t.reads) (hw : Arg fKey.rep h vw t.writes) (hl : t.code.length ≤ 1048576) (hby : ∀ j, 0 ≤ t.code.getD j 0 ∧ t.code.getD j 0 ≤ 255) :
    DC Try.prog 32 [txnV t.ses t.req vc va vr vw] h (.ret (.int .i64 (txnE t))) h := by
  refine Ct.pure (go_32 (by simp) ?_) (vin_int _ _)
  have hvc := hc.cells1
  have hva := ha.cells1
  have hvr := hr.cells1
  have hvw := hw.cells1
  obtain ⟨H, hH⟩ : ∃ H, H = h.push (.row [.int .i64 t.ses, .int .i64 t.req, vc, va, vr, vw] 0 false) := ⟨_, rfl⟩
  have hE : Ext h H := by rw [hH]; exact Ext.push1 _ _
  have g : H.get h.next = some (.row [.int .i64 t.ses, .int .i64 t.req, vc, va, vr, vw] 0 false) := by rw [hH]; exact get_push_same _ _
  have hHn : H.next = h.next + 1 := by rw [hH]; rfl
  have LT : ∀ K, Ext H K → TxnAt K h.next t vc va vr vw := fun K e => TxnAt.of ((e.get _ (by omega)).trans g)
  have L0 := LT H (.refl _)
  have ea : ∀ K, dLen Try.prog #[23] va K = some (.int .i64 (t.args.length : Nat)) := ha.lens (P := Try.prog) (ts := #[23]) (t := 23) rfl isl_23
  have er : ∀ K, dLen Try.prog #[24] vr K = some (.int .i64 (t.reads.length : Nat)) := hr.lens (P := Try.prog) (ts := #[24]) (t := 24) rfl isl_24
  have ew : ∀ K, dLen Try.prog #[24] vw K = some (.int .i64 (t.writes.length : Nat)) := hw.lens (P := Try.prog) (ts := #[24]) (t := 24) rfl isl_24
  by_cases p1 : t.ses < 1 ∨ 1099511627776 < t.ses ∨ t.req < 1 ∨ 1099511627776 < t.req
  · have hT : txnE t = 1 := by rw [txnE, if_pos p1]
    by_cases q1 : t.ses < 1
    · have q1' := eq_true q1
      simp -implicitDefEqProofs (disch := first | omega | (simp -implicitDefEqProofs only [go_sem, List.size_toArray, List.length_cons, List.length_nil, Nat.reduceAdd]; done)) only [go_sem, Int.reduceLT, Int.reduceLE, Int.reduceEq, reduceIte, true_and, Nat.zero_add, Nat.add_zero, Option.map_some, c32, ← hH, L0.c0, L0.c1, q1', dPick_t, dPick_f]
      exact ⟨_, rfl, by rw [hT], hE⟩
    by_cases q2 : 1099511627776 < t.ses
    · have q2' := eq_true q2
      simp -implicitDefEqProofs (disch := first | omega | (simp -implicitDefEqProofs only [go_sem, List.size_toArray, List.length_cons, List.length_nil, Nat.reduceAdd]; done)) only [go_sem, Int.reduceLT, Int.reduceLE, Int.reduceEq, reduceIte, true_and, Nat.zero_add, Nat.add_zero, Option.map_some, c32, ← hH, L0.c0, L0.c1, q1, q2', dPick_t, dPick_f]
      exact ⟨_, rfl, by rw [hT], hE⟩
    by_cases q3 : t.req < 1
    · have q3' := eq_true q3
      simp -implicitDefEqProofs (disch := first | omega | (simp -implicitDefEqProofs only [go_sem, List.size_toArray, List.length_cons, List.length_nil, Nat.reduceAdd]; done)) only [go_sem, Int.reduceLT, Int.reduceLE, Int.reduceEq, reduceIte, true_and, Nat.zero_add, Nat.add_zero, Option.map_some, c32, ← hH, L0.c0, L0.c1, q1, q2, q3', dPick_t, dPick_f]
      exact ⟨_, rfl, by rw [hT], hE⟩
    have q4 : 1099511627776 < t.req := by omega
    have q4' := eq_true q4
    simp -implicitDefEqProofs (disch := first | omega | (simp -implicitDefEqProofs only [go_sem, List.size_toArray, List.length_cons, List.length_nil, Nat.reduceAdd]; done)) only [go_sem, Int.reduceLT, Int.reduceLE, Int.reduceEq, reduceIte, true_and, Nat.zero_add, Nat.add_zero, Option.map_some, c32, ← hH, L0.c0, L0.c1, q1, q2, q3, q4', dPick_t, dPick_f]
    exact ⟨_, rfl, by rw [hT], hE⟩
  have q1 : ¬ t.ses < 1 := fun hh => p1 (.inl hh)
  have q2 : ¬ 1099511627776 < t.ses := fun hh => p1 (.inr (.inl hh))
  have q3 : ¬ t.req < 1 := fun hh => p1 (.inr (.inr (.inl hh)))
  have q4 : ¬ 1099511627776 < t.req := fun hh => p1 (.inr (.inr (.inr hh)))
  by_cases p2 : 8 < t.args.length ∨ 16 < t.reads.length ∨ 16 < t.writes.length
  · have hT : txnE t = 3 := by rw [txnE, if_neg p1, if_pos p2]
    by_cases r1 : (8 : Int) < (t.args.length : Nat)
    · have r1' := eq_true r1
      simp -implicitDefEqProofs (disch := first | omega | (simp -implicitDefEqProofs only [go_sem, List.size_toArray, List.length_cons, List.length_nil, Nat.reduceAdd]; done)) only [go_sem, Int.reduceLT, Int.reduceLE, Int.reduceEq, reduceIte, true_and, Nat.zero_add, Nat.add_zero, Option.map_some, c32, ← hH, L0.c0, L0.c1, L0.c3, L0.c4, L0.c5, ea, er, ew, q1, q2, q3, q4, r1', dPick_t, dPick_f]
      exact ⟨_, rfl, by rw [hT], hE⟩
    by_cases r2 : (16 : Int) < (t.reads.length : Nat)
    · have r2' := eq_true r2
      simp -implicitDefEqProofs (disch := first | omega | (simp -implicitDefEqProofs only [go_sem, List.size_toArray, List.length_cons, List.length_nil, Nat.reduceAdd]; done)) only [go_sem, Int.reduceLT, Int.reduceLE, Int.reduceEq, reduceIte, true_and, Nat.zero_add, Nat.add_zero, Option.map_some, c32, ← hH, L0.c0, L0.c1, L0.c3, L0.c4, L0.c5, ea, er, ew, q1, q2, q3, q4, r1, r2', dPick_t, dPick_f]
      exact ⟨_, rfl, by rw [hT], hE⟩
    have r3 : (16 : Int) < (t.writes.length : Nat) := by omega
    have r3' := eq_true r3
    simp -implicitDefEqProofs (disch := first | omega | (simp -implicitDefEqProofs only [go_sem, List.size_toArray, List.length_cons, List.length_nil, Nat.reduceAdd]; done)) only [go_sem, Int.reduceLT, Int.reduceLE, Int.reduceEq, reduceIte, true_and, Nat.zero_add, Nat.add_zero, Option.map_some, c32, ← hH, L0.c0, L0.c1, L0.c3, L0.c4, L0.c5, ea, er, ew, q1, q2, q3, q4, r1, r2, r3', dPick_t, dPick_f]
    exact ⟨_, rfl, by rw [hT], hE⟩
  have r1 : ¬ (8 : Int) < (t.args.length : Nat) := by omega
  have r2 : ¬ (16 : Int) < (t.reads.length : Nat) := by omega
  have r3 : ¬ (16 : Int) < (t.writes.length : Nat) := by omega
  simp -implicitDefEqProofs (disch := first | omega | (simp -implicitDefEqProofs only [go_sem, List.size_toArray, List.length_cons, List.length_nil, Nat.reduceAdd]; done)) only [go_sem, Int.reduceLT, Int.reduceLE, Int.reduceEq, reduceIte, true_and, Nat.zero_add, Nat.add_zero, Option.map_some, c32, ← hH, L0.c0, L0.c1, L0.c3, L0.c4, L0.c5, ea, er, ew, q1, q2, q3, q4, r1, r2, r3, dPick_t, dPick_f]
  refine ncall (rises_c (hr.ext hE) (by omega)) ?_
  cases u1 : risesB keyLt t.reads with
  | false =>
    have hT : txnE t = 1 := by rw [txnE, if_neg p1, if_neg p2, if_pos (.inl u1)]
    simp -implicitDefEqProofs (disch := first | omega | (simp -implicitDefEqProofs only [go_sem, List.size_toArray, List.length_cons, List.length_nil, Nat.reduceAdd]; done)) only [go_sem, Int.reduceLT, Int.reduceLE, Int.reduceEq, reduceIte, true_and, Nat.zero_add, Nat.add_zero, Option.map_some, dPick_t, dPick_f]
    exact ⟨_, rfl, by rw [hT], hE⟩
  | true =>
  simp -implicitDefEqProofs (disch := first | omega | (simp -implicitDefEqProofs only [go_sem, List.size_toArray, List.length_cons, List.length_nil, Nat.reduceAdd]; done)) only [go_sem, Int.reduceLT, Int.reduceLE, Int.reduceEq, reduceIte, true_and, Nat.zero_add, Nat.add_zero, Option.map_some, L0.c5]
  refine ncall (rises_c (hw.ext hE) (by omega)) ?_
  cases u2 : risesB keyLt t.writes with
  | false =>
    have hT : txnE t = 1 := by rw [txnE, if_neg p1, if_neg p2, if_pos (.inr u2)]
    simp -implicitDefEqProofs (disch := first | omega | (simp -implicitDefEqProofs only [go_sem, List.size_toArray, List.length_cons, List.length_nil, Nat.reduceAdd]; done)) only [go_sem, Int.reduceLT, Int.reduceLE, Int.reduceEq, reduceIte, true_and, Nat.zero_add, Nat.add_zero, Option.map_some, dPick_t, dPick_f]
    exact ⟨_, rfl, by rw [hT], hE⟩
  | true =>
  have hT : txnE t = if decE t.code ≠ 0 then decE t.code else if (decL t.code).any (badI t) then 132 else 0 := by rw [txnE, if_neg p1, if_neg p2, if_neg (by simp [u1, u2])]
  simp -implicitDefEqProofs (disch := first | omega | (simp -implicitDefEqProofs only [go_sem, List.size_toArray, List.length_cons, List.length_nil, Nat.reduceAdd]; done)) only [go_sem, Int.reduceLT, Int.reduceLE, Int.reduceEq, reduceIte, true_and, Nat.zero_add, Nat.add_zero, Option.map_some, dPick_t, dPick_f, L0.c2]
  refine ncall_ct (decode_c (hc.ext hE) hl) ?_
  rintro r h1 ⟨w, rfl, hE1, hxs⟩
  have L1 := LT h1 hE1
  by_cases he : decE t.code = 0
  case neg =>
    rw [if_pos he] at hT
    simp -implicitDefEqProofs (disch := first | omega | (simp -implicitDefEqProofs only [go_sem, List.size_toArray, List.length_cons, List.length_nil, Nat.reduceAdd]; done)) only [go_sem, Int.reduceLT, Int.reduceLE, Int.reduceEq, reduceIte, true_and, Nat.zero_add, Nat.add_zero, Option.map_some, XEnd, he]
    exact ⟨_, rfl, by rw [hT], hE.trans hE1⟩
  have he' := eq_true he
  rw [if_neg (fun hh => hh he)] at hT
  obtain ⟨xs, hx⟩ : ∃ xs, decL t.code = xs := ⟨_, rfl⟩
  rw [hx] at hxs hT
  have elw : ∀ K, dLen Try.prog #[91] w K = some (.int .i64 (xs.length : Nat)) := hxs.lens (P := Try.prog) (ts := #[91]) (t := 91) rfl isl_91
  have hxl : xs.length ≤ 1048576 := by
    rw [← hx]
    rw [decL, if_pos he]
    have := walkAt_len (l := t.code) (n := t.code.length) (i := 0) (by omega)
    omega
  simp -implicitDefEqProofs (disch := first | omega | (simp -implicitDefEqProofs only [go_sem, List.size_toArray, List.length_cons, List.length_nil, Nat.reduceAdd]; done)) only [go_sem, Int.reduceLT, Int.reduceLE, Int.reduceEq, reduceIte, true_and, Nat.zero_add, Nat.add_zero, Option.map_some, XEnd, he', elw]
  have himm := decL_imm hby
  rw [hx] at himm
  refine xloop (σ := Nat) (by kernel_rfl) (fun i s => s.df = [] ∧ s.rd = none ∧ Ext h1 s.h ∧ s.fr 1 = some (.pointer (some ⟨h.next, 0, none⟩)) ∧ s.fr 64 = some w ∧ s.fr 65 = some (.int .i64 (xs.length : Nat)) ∧ s.fr 66 = some (.int .i64 (i : Nat)) ∧ i ≤ xs.length ∧ (xs.take i).any (badI t) = false) (fun i => xs.length - i) 0 ?_ ?_
  · simp -implicitDefEqProofs (disch := first | omega | (simp -implicitDefEqProofs only [go_sem, List.size_toArray, List.length_cons, List.length_nil, Nat.reduceAdd]; done)) only [go_sem, Int.reduceLT, Int.reduceLE, Int.reduceEq, reduceIte, true_and, Nat.zero_add, Nat.add_zero, Option.map_some]
    exact ⟨.refl _, rfl, Nat.zero_le _, rfl⟩
  · rintro i ⟨fr, df, K, rd⟩ K' hK' hX ⟨hdf, hrd, hEK, f1, f64, f65, f66, hi, hn⟩
    simp only at hdf hrd hEK f1 f64 f65 f66
    subst hdf hrd
    simp -implicitDefEqProofs (disch := first | omega | (simp -implicitDefEqProofs only [go_sem, List.size_toArray, List.length_cons, List.length_nil, Nat.reduceAdd]; done)) only [go_sem, Int.reduceLT, Int.reduceLE, Int.reduceEq, reduceIte, true_and, Nat.zero_add, Nat.add_zero, Option.map_some, f65, f66]
    refine XIf_dec (fun hc1 => ?_) (fun hc1 => ?_)
    · have hj : i < xs.length := by omega
      obtain ⟨id, o, g', c5, _, _, _⟩ := instr_idx (hxs.ext hEK) hj
      have hw1 := wrap_succ hj (by omega)
      have hmem := List.getElem_mem hj
      have him := himm _ hmem
      have hsucc := fun hx => any_take (t := t) hj hn hx
      have hbad : ∀ hb : badI t xs[i] = true, xs.any (badI t) = true := fun hb => List.any_eq_true.2 ⟨_, hmem, hb⟩
      obtain ⟨x, hxi⟩ : ∃ x, xs[i] = x := ⟨_, rfl⟩
      rw [hxi] at c5 hsucc hbad him
      obtain ⟨K1, hK1⟩ : ∃ K1, K1 = K.push (.row (fInstr.enc x) 0 false) := ⟨_, rfl⟩
      have g1 : K1.get K.next = some (.row (fInstr.enc x) 0 false) := by rw [hK1]; exact get_push_same _ _
      have p1' : cellAt K1 K.next 1 = some (.int .i64 x.op) := cellAt_row g1
      have p4 : cellAt K1 K.next 4 = some (.int .i64 x.imm) := cellAt_row g1
      have s5 := store5 (h := K) (x := x)
      rw [← hK1] at s5
      have hEK1 : Ext h1 K1 := hEK.trans (by rw [hK1]; exact Ext.push1 _ _)
      have L2 := LT K1 (hE1.trans hEK1)
      have good : ∀ {s : St}, s.df = [] → s.rd = none → s.h = K1 → s.fr 1 = some (.pointer (some ⟨h.next, 0, none⟩)) → s.fr 64 = some w → s.fr 65 = some (.int .i64 (xs.length : Nat)) → s.fr 66 = some (.int .i64 ((i + 1 : Nat) : Int)) → badI t x = false → K' .normal s := fun a r b c d e g f =>
        hK' (i + 1) _ ⟨a, r, b ▸ hEK1, c, d, e, g, by omega, hsucc f⟩ (by omega)
      have bad : badI t x = true → ∃ v, some (Value.int .i64 132) = some v ∧ DEnd.ret v = .ret (.int .i64 (txnE t)) ∧ Ext h K1 := fun hb => by
        rw [hbad hb, if_pos rfl] at hT
        exact ⟨_, rfl, by rw [hT], (hE.trans hE1).trans hEK1⟩
      by_cases n3 : x.op = 3
      · have o' := eq_true n3
        have hb : badI t x = decide ((t.reads.length : Int) ≤ x.imm) := by simp [badI, n3]
        by_cases hm : (t.reads.length : Int) ≤ x.imm
        · have hm' := eq_true hm
          simp -implicitDefEqProofs (disch := first | omega | (simp -implicitDefEqProofs only [go_sem, List.size_toArray, List.length_cons, List.length_nil, Nat.reduceAdd]; done)) only [go_sem, Int.reduceLT, Int.reduceLE, Int.reduceEq, reduceIte, true_and, Nat.zero_add, Nat.add_zero, Option.map_some, f1, f64, f66, g', c5, s5, p1', p4, L2.c4, er, o', hm']
          refine hX _ _ (by simp) ?_
          simp -implicitDefEqProofs (disch := first | omega | (simp -implicitDefEqProofs only [go_sem, List.size_toArray, List.length_cons, List.length_nil, Nat.reduceAdd]; done)) only [go_sem, Int.reduceLT, Int.reduceLE, Int.reduceEq, reduceIte, true_and, Nat.zero_add, Nat.add_zero, Option.map_some]
          exact bad (by rw [hb, decide_eq_true hm])
        · simp -implicitDefEqProofs (disch := first | omega | (simp -implicitDefEqProofs only [go_sem, List.size_toArray, List.length_cons, List.length_nil, Nat.reduceAdd]; done)) only [go_sem, Int.reduceLT, Int.reduceLE, Int.reduceEq, reduceIte, true_and, Nat.zero_add, Nat.add_zero, Option.map_some, f1, f64, f66, g', c5, s5, p1', p4, L2.c4, er, o', hm, hw1]
          exact good rfl rfl rfl (by simp -implicitDefEqProofs (disch := first | omega | (simp -implicitDefEqProofs only [go_sem, List.size_toArray, List.length_cons, List.length_nil, Nat.reduceAdd]; done)) only [go_sem, Int.reduceLT, Int.reduceLE, Int.reduceEq, reduceIte, true_and, Nat.zero_add, Nat.add_zero, Option.map_some, f1]) (by simp -implicitDefEqProofs (disch := first | omega | (simp -implicitDefEqProofs only [go_sem, List.size_toArray, List.length_cons, List.length_nil, Nat.reduceAdd]; done)) only [go_sem, Int.reduceLT, Int.reduceLE, Int.reduceEq, reduceIte, true_and, Nat.zero_add, Nat.add_zero, Option.map_some, f64]) (by simp -implicitDefEqProofs (disch := first | omega | (simp -implicitDefEqProofs only [go_sem, List.size_toArray, List.length_cons, List.length_nil, Nat.reduceAdd]; done)) only [go_sem, Int.reduceLT, Int.reduceLE, Int.reduceEq, reduceIte, true_and, Nat.zero_add, Nat.add_zero, Option.map_some, f65]) (by simp -implicitDefEqProofs (disch := first | omega | (simp -implicitDefEqProofs only [go_sem, List.size_toArray, List.length_cons, List.length_nil, Nat.reduceAdd]; done)) only [go_sem, Int.reduceLT, Int.reduceLE, Int.reduceEq, reduceIte, true_and, Nat.zero_add, Nat.add_zero, Option.map_some]) (by rw [hb, decide_eq_false hm])
      by_cases n4 : x.op = 4
      · have o' := eq_true n4
        have hb : badI t x = decide ((t.reads.length : Int) ≤ x.imm) := by simp [badI, n3, n4]
        by_cases hm : (t.reads.length : Int) ≤ x.imm
        · have hm' := eq_true hm
          simp -implicitDefEqProofs (disch := first | omega | (simp -implicitDefEqProofs only [go_sem, List.size_toArray, List.length_cons, List.length_nil, Nat.reduceAdd]; done)) only [go_sem, Int.reduceLT, Int.reduceLE, Int.reduceEq, reduceIte, true_and, Nat.zero_add, Nat.add_zero, Option.map_some, f1, f64, f66, g', c5, s5, p1', p4, L2.c4, er, n3, o', hm']
          refine hX _ _ (by simp) ?_
          simp -implicitDefEqProofs (disch := first | omega | (simp -implicitDefEqProofs only [go_sem, List.size_toArray, List.length_cons, List.length_nil, Nat.reduceAdd]; done)) only [go_sem, Int.reduceLT, Int.reduceLE, Int.reduceEq, reduceIte, true_and, Nat.zero_add, Nat.add_zero, Option.map_some]
          exact bad (by rw [hb, decide_eq_true hm])
        · simp -implicitDefEqProofs (disch := first | omega | (simp -implicitDefEqProofs only [go_sem, List.size_toArray, List.length_cons, List.length_nil, Nat.reduceAdd]; done)) only [go_sem, Int.reduceLT, Int.reduceLE, Int.reduceEq, reduceIte, true_and, Nat.zero_add, Nat.add_zero, Option.map_some, f1, f64, f66, g', c5, s5, p1', p4, L2.c4, er, n3, o', hm, hw1]
          exact good rfl rfl rfl (by simp -implicitDefEqProofs (disch := first | omega | (simp -implicitDefEqProofs only [go_sem, List.size_toArray, List.length_cons, List.length_nil, Nat.reduceAdd]; done)) only [go_sem, Int.reduceLT, Int.reduceLE, Int.reduceEq, reduceIte, true_and, Nat.zero_add, Nat.add_zero, Option.map_some, f1]) (by simp -implicitDefEqProofs (disch := first | omega | (simp -implicitDefEqProofs only [go_sem, List.size_toArray, List.length_cons, List.length_nil, Nat.reduceAdd]; done)) only [go_sem, Int.reduceLT, Int.reduceLE, Int.reduceEq, reduceIte, true_and, Nat.zero_add, Nat.add_zero, Option.map_some, f64]) (by simp -implicitDefEqProofs (disch := first | omega | (simp -implicitDefEqProofs only [go_sem, List.size_toArray, List.length_cons, List.length_nil, Nat.reduceAdd]; done)) only [go_sem, Int.reduceLT, Int.reduceLE, Int.reduceEq, reduceIte, true_and, Nat.zero_add, Nat.add_zero, Option.map_some, f65]) (by simp -implicitDefEqProofs (disch := first | omega | (simp -implicitDefEqProofs only [go_sem, List.size_toArray, List.length_cons, List.length_nil, Nat.reduceAdd]; done)) only [go_sem, Int.reduceLT, Int.reduceLE, Int.reduceEq, reduceIte, true_and, Nat.zero_add, Nat.add_zero, Option.map_some]) (by rw [hb, decide_eq_false hm])
      by_cases n5 : x.op = 5
      · have o' := eq_true n5
        have hb : badI t x = decide ((t.writes.length : Int) ≤ x.imm) := by simp [badI, n3, n4, n5]
        by_cases hm : (t.writes.length : Int) ≤ x.imm
        · have hm' := eq_true hm
          simp -implicitDefEqProofs (disch := first | omega | (simp -implicitDefEqProofs only [go_sem, List.size_toArray, List.length_cons, List.length_nil, Nat.reduceAdd]; done)) only [go_sem, Int.reduceLT, Int.reduceLE, Int.reduceEq, reduceIte, true_and, Nat.zero_add, Nat.add_zero, Option.map_some, f1, f64, f66, g', c5, s5, p1', p4, L2.c5, ew, n3, n4, o', hm']
          refine hX _ _ (by simp) ?_
          simp -implicitDefEqProofs (disch := first | omega | (simp -implicitDefEqProofs only [go_sem, List.size_toArray, List.length_cons, List.length_nil, Nat.reduceAdd]; done)) only [go_sem, Int.reduceLT, Int.reduceLE, Int.reduceEq, reduceIte, true_and, Nat.zero_add, Nat.add_zero, Option.map_some]
          exact bad (by rw [hb, decide_eq_true hm])
        · simp -implicitDefEqProofs (disch := first | omega | (simp -implicitDefEqProofs only [go_sem, List.size_toArray, List.length_cons, List.length_nil, Nat.reduceAdd]; done)) only [go_sem, Int.reduceLT, Int.reduceLE, Int.reduceEq, reduceIte, true_and, Nat.zero_add, Nat.add_zero, Option.map_some, f1, f64, f66, g', c5, s5, p1', p4, L2.c5, ew, n3, n4, o', hm, hw1]
          exact good rfl rfl rfl (by simp -implicitDefEqProofs (disch := first | omega | (simp -implicitDefEqProofs only [go_sem, List.size_toArray, List.length_cons, List.length_nil, Nat.reduceAdd]; done)) only [go_sem, Int.reduceLT, Int.reduceLE, Int.reduceEq, reduceIte, true_and, Nat.zero_add, Nat.add_zero, Option.map_some, f1]) (by simp -implicitDefEqProofs (disch := first | omega | (simp -implicitDefEqProofs only [go_sem, List.size_toArray, List.length_cons, List.length_nil, Nat.reduceAdd]; done)) only [go_sem, Int.reduceLT, Int.reduceLE, Int.reduceEq, reduceIte, true_and, Nat.zero_add, Nat.add_zero, Option.map_some, f64]) (by simp -implicitDefEqProofs (disch := first | omega | (simp -implicitDefEqProofs only [go_sem, List.size_toArray, List.length_cons, List.length_nil, Nat.reduceAdd]; done)) only [go_sem, Int.reduceLT, Int.reduceLE, Int.reduceEq, reduceIte, true_and, Nat.zero_add, Nat.add_zero, Option.map_some, f65]) (by simp -implicitDefEqProofs (disch := first | omega | (simp -implicitDefEqProofs only [go_sem, List.size_toArray, List.length_cons, List.length_nil, Nat.reduceAdd]; done)) only [go_sem, Int.reduceLT, Int.reduceLE, Int.reduceEq, reduceIte, true_and, Nat.zero_add, Nat.add_zero, Option.map_some]) (by rw [hb, decide_eq_false hm])
      by_cases n6 : x.op = 6
      · have o' := eq_true n6
        have hb : badI t x = decide ((t.writes.length : Int) ≤ x.imm) := by simp [badI, n3, n4, n5, n6]
        by_cases hm : (t.writes.length : Int) ≤ x.imm
        · have hm' := eq_true hm
          simp -implicitDefEqProofs (disch := first | omega | (simp -implicitDefEqProofs only [go_sem, List.size_toArray, List.length_cons, List.length_nil, Nat.reduceAdd]; done)) only [go_sem, Int.reduceLT, Int.reduceLE, Int.reduceEq, reduceIte, true_and, Nat.zero_add, Nat.add_zero, Option.map_some, f1, f64, f66, g', c5, s5, p1', p4, L2.c5, ew, n3, n4, n5, o', hm']
          refine hX _ _ (by simp) ?_
          simp -implicitDefEqProofs (disch := first | omega | (simp -implicitDefEqProofs only [go_sem, List.size_toArray, List.length_cons, List.length_nil, Nat.reduceAdd]; done)) only [go_sem, Int.reduceLT, Int.reduceLE, Int.reduceEq, reduceIte, true_and, Nat.zero_add, Nat.add_zero, Option.map_some]
          exact bad (by rw [hb, decide_eq_true hm])
        · simp -implicitDefEqProofs (disch := first | omega | (simp -implicitDefEqProofs only [go_sem, List.size_toArray, List.length_cons, List.length_nil, Nat.reduceAdd]; done)) only [go_sem, Int.reduceLT, Int.reduceLE, Int.reduceEq, reduceIte, true_and, Nat.zero_add, Nat.add_zero, Option.map_some, f1, f64, f66, g', c5, s5, p1', p4, L2.c5, ew, n3, n4, n5, o', hm, hw1]
          exact good rfl rfl rfl (by simp -implicitDefEqProofs (disch := first | omega | (simp -implicitDefEqProofs only [go_sem, List.size_toArray, List.length_cons, List.length_nil, Nat.reduceAdd]; done)) only [go_sem, Int.reduceLT, Int.reduceLE, Int.reduceEq, reduceIte, true_and, Nat.zero_add, Nat.add_zero, Option.map_some, f1]) (by simp -implicitDefEqProofs (disch := first | omega | (simp -implicitDefEqProofs only [go_sem, List.size_toArray, List.length_cons, List.length_nil, Nat.reduceAdd]; done)) only [go_sem, Int.reduceLT, Int.reduceLE, Int.reduceEq, reduceIte, true_and, Nat.zero_add, Nat.add_zero, Option.map_some, f64]) (by simp -implicitDefEqProofs (disch := first | omega | (simp -implicitDefEqProofs only [go_sem, List.size_toArray, List.length_cons, List.length_nil, Nat.reduceAdd]; done)) only [go_sem, Int.reduceLT, Int.reduceLE, Int.reduceEq, reduceIte, true_and, Nat.zero_add, Nat.add_zero, Option.map_some, f65]) (by simp -implicitDefEqProofs (disch := first | omega | (simp -implicitDefEqProofs only [go_sem, List.size_toArray, List.length_cons, List.length_nil, Nat.reduceAdd]; done)) only [go_sem, Int.reduceLT, Int.reduceLE, Int.reduceEq, reduceIte, true_and, Nat.zero_add, Nat.add_zero, Option.map_some]) (by rw [hb, decide_eq_false hm])
      by_cases n2 : x.op = 2
      · have o' := eq_true n2
        have hb : badI t x = decide ((t.args.length : Int) ≤ x.imm) := by simp [badI, n3, n4, n5, n6, n2]
        by_cases hm : (t.args.length : Int) ≤ x.imm
        · have hm' := eq_true hm
          simp -implicitDefEqProofs (disch := first | omega | (simp -implicitDefEqProofs only [go_sem, List.size_toArray, List.length_cons, List.length_nil, Nat.reduceAdd]; done)) only [go_sem, Int.reduceLT, Int.reduceLE, Int.reduceEq, reduceIte, true_and, Nat.zero_add, Nat.add_zero, Option.map_some, f1, f64, f66, g', c5, s5, p1', p4, L2.c3, ea, n3, n4, n5, n6, o', hm']
          refine hX _ _ (by simp) ?_
          simp -implicitDefEqProofs (disch := first | omega | (simp -implicitDefEqProofs only [go_sem, List.size_toArray, List.length_cons, List.length_nil, Nat.reduceAdd]; done)) only [go_sem, Int.reduceLT, Int.reduceLE, Int.reduceEq, reduceIte, true_and, Nat.zero_add, Nat.add_zero, Option.map_some]
          exact bad (by rw [hb, decide_eq_true hm])
        · simp -implicitDefEqProofs (disch := first | omega | (simp -implicitDefEqProofs only [go_sem, List.size_toArray, List.length_cons, List.length_nil, Nat.reduceAdd]; done)) only [go_sem, Int.reduceLT, Int.reduceLE, Int.reduceEq, reduceIte, true_and, Nat.zero_add, Nat.add_zero, Option.map_some, f1, f64, f66, g', c5, s5, p1', p4, L2.c3, ea, n3, n4, n5, n6, o', hm, hw1]
          exact good rfl rfl rfl (by simp -implicitDefEqProofs (disch := first | omega | (simp -implicitDefEqProofs only [go_sem, List.size_toArray, List.length_cons, List.length_nil, Nat.reduceAdd]; done)) only [go_sem, Int.reduceLT, Int.reduceLE, Int.reduceEq, reduceIte, true_and, Nat.zero_add, Nat.add_zero, Option.map_some, f1]) (by simp -implicitDefEqProofs (disch := first | omega | (simp -implicitDefEqProofs only [go_sem, List.size_toArray, List.length_cons, List.length_nil, Nat.reduceAdd]; done)) only [go_sem, Int.reduceLT, Int.reduceLE, Int.reduceEq, reduceIte, true_and, Nat.zero_add, Nat.add_zero, Option.map_some, f64]) (by simp -implicitDefEqProofs (disch := first | omega | (simp -implicitDefEqProofs only [go_sem, List.size_toArray, List.length_cons, List.length_nil, Nat.reduceAdd]; done)) only [go_sem, Int.reduceLT, Int.reduceLE, Int.reduceEq, reduceIte, true_and, Nat.zero_add, Nat.add_zero, Option.map_some, f65]) (by simp -implicitDefEqProofs (disch := first | omega | (simp -implicitDefEqProofs only [go_sem, List.size_toArray, List.length_cons, List.length_nil, Nat.reduceAdd]; done)) only [go_sem, Int.reduceLT, Int.reduceLE, Int.reduceEq, reduceIte, true_and, Nat.zero_add, Nat.add_zero, Option.map_some]) (by rw [hb, decide_eq_false hm])
      have hb : badI t x = false := by simp [badI, n3, n4, n5, n6, n2]
      have hm : ¬ 1048576 ≤ x.imm := by omega
      simp -implicitDefEqProofs (disch := first | omega | (simp -implicitDefEqProofs only [go_sem, List.size_toArray, List.length_cons, List.length_nil, Nat.reduceAdd]; done)) only [go_sem, Int.reduceLT, Int.reduceLE, Int.reduceEq, reduceIte, true_and, Nat.zero_add, Nat.add_zero, Option.map_some, f1, f64, f66, g', c5, s5, p1', p4, n3, n4, n5, n6, n2, hm, hw1]
      exact good rfl rfl rfl (by simp -implicitDefEqProofs (disch := first | omega | (simp -implicitDefEqProofs only [go_sem, List.size_toArray, List.length_cons, List.length_nil, Nat.reduceAdd]; done)) only [go_sem, Int.reduceLT, Int.reduceLE, Int.reduceEq, reduceIte, true_and, Nat.zero_add, Nat.add_zero, Option.map_some, f1]) (by simp -implicitDefEqProofs (disch := first | omega | (simp -implicitDefEqProofs only [go_sem, List.size_toArray, List.length_cons, List.length_nil, Nat.reduceAdd]; done)) only [go_sem, Int.reduceLT, Int.reduceLE, Int.reduceEq, reduceIte, true_and, Nat.zero_add, Nat.add_zero, Option.map_some, f64]) (by simp -implicitDefEqProofs (disch := first | omega | (simp -implicitDefEqProofs only [go_sem, List.size_toArray, List.length_cons, List.length_nil, Nat.reduceAdd]; done)) only [go_sem, Int.reduceLT, Int.reduceLE, Int.reduceEq, reduceIte, true_and, Nat.zero_add, Nat.add_zero, Option.map_some, f65]) (by simp -implicitDefEqProofs (disch := first | omega | (simp -implicitDefEqProofs only [go_sem, List.size_toArray, List.length_cons, List.length_nil, Nat.reduceAdd]; done)) only [go_sem, Int.reduceLT, Int.reduceLE, Int.reduceEq, reduceIte, true_and, Nat.zero_add, Nat.add_zero, Option.map_some]) hb
    · obtain rfl : i = xs.length := by omega
      rw [List.take_length] at hn
      rw [hn] at hT
      refine hX _ _ (by simp) ?_
      simp -implicitDefEqProofs (disch := first | omega | (simp -implicitDefEqProofs only [go_sem, List.size_toArray, List.length_cons, List.length_nil, Nat.reduceAdd]; done)) only [go_sem, Int.reduceLT, Int.reduceLE, Int.reduceEq, reduceIte, true_and, Nat.zero_add, Nat.add_zero, Option.map_some]
      exact ⟨_, rfl, by rw [hT]; rfl, (hE.trans hE1).trans hEK⟩
end Go.Proofs.Ytbdljpndncohaaa

namespace Go.Proofs.Ytbdljpndncohaaa
open Go.D
set_option maxRecDepth 100000

theorem clone_ints {h : DHeap} {b : Value} {l : List Int} (hb : Arg fI64.rep h b l) (hl : l.length ≤ 4294967296) : DC Try.prog 35 [b] h (.ret (cloneV h b l)) (cloneH fI64 h b l) := by
  refine Ct.cloned hb (go_35 (by simp) ?_)
  simp -implicitDefEqProofs (disch := first | omega | (simp only [go_sem, List.size_toArray, List.length_cons, List.length_nil, Nat.reduceAdd]; done)) only [go_sem, Int.reduceLT, Int.reduceLE, Int.reduceEq, reduceIte, c35, hb.nilEq isl_23]
  refine XIf_split (fun hn => ?_) (fun hn => ?_)
  · simp -implicitDefEqProofs (disch := first | omega | (simp only [go_sem, List.size_toArray, List.length_cons, List.length_nil, Nat.reduceAdd]; done)) only [go_sem, Int.reduceLT, Int.reduceLE, Int.reduceEq, reduceIte]
    obtain ⟨_, rfl⟩ := isNilV_nil hb hn
    exact ⟨_, rfl, _, rfl, .nil _ (.refl h), hn.symm⟩
  · have m0 : Made fI64 h (h.push (.row [] 1 false)) (.slice (some ⟨h.next, 0, none⟩) 0 0) [] := .none0 fI64 (.refl h) rfl
    obtain ⟨v2, h2, e2, m2, k2⟩ := m0.append app_23 (hb.ext (Ext.push1 _ _)) (by simpa using hl) (by decide)
    simp -implicitDefEqProofs (disch := first | omega | (simp only [go_sem, List.size_toArray, List.length_cons, List.length_nil, Nat.reduceAdd]; done)) only [go_sem, Int.reduceLT, Int.reduceLE, Int.reduceEq, reduceIte, e2]
    exact ⟨_, rfl, _, rfl, m2, (m0.isNil_append rfl m2 fun hk => (k2 hk).1).trans hn.symm⟩
theorem clone_keys {h : DHeap} {b : Value} {l : List Key} (hb : Arg fKey.rep h b l) (hl : l.length ≤ 4294967296) : DC Try.prog 51 [b] h (.ret (cloneV h b l)) (cloneH fKey h b l) := by
  refine Ct.cloned hb (go_51 (by simp) ?_)
  simp -implicitDefEqProofs (disch := first | omega | (simp only [go_sem, List.size_toArray, List.length_cons, List.length_nil, Nat.reduceAdd]; done)) only [go_sem, Int.reduceLT, Int.reduceLE, Int.reduceEq, reduceIte, c51, hb.nilEq isl_24]
  refine XIf_split (fun hn => ?_) (fun hn => ?_)
  · simp -implicitDefEqProofs (disch := first | omega | (simp only [go_sem, List.size_toArray, List.length_cons, List.length_nil, Nat.reduceAdd]; done)) only [go_sem, Int.reduceLT, Int.reduceLE, Int.reduceEq, reduceIte]
    obtain ⟨_, rfl⟩ := isNilV_nil hb hn
    exact ⟨_, rfl, _, rfl, .nil _ (.refl h), hn.symm⟩
  · have m0 : Made fKey h (h.push (.row [] 2 false)) (.slice (some ⟨h.next, 0, none⟩) 0 0) [] := .none0 fKey (.refl h) rfl
    obtain ⟨v2, h2, e2, m2, k2⟩ := m0.append app_24 (hb.ext (Ext.push1 _ _)) (by simpa using hl) (by decide)
    simp -implicitDefEqProofs (disch := first | omega | (simp only [go_sem, List.size_toArray, List.length_cons, List.length_nil, Nat.reduceAdd]; done)) only [go_sem, Int.reduceLT, Int.reduceLE, Int.reduceEq, reduceIte, e2]
    exact ⟨_, rfl, _, rfl, m2, (m0.isNil_append rfl m2 fun hk => (k2 hk).1).trans hn.symm⟩

/-- the lists of a transaction, as they lie -/
structure TxV (S : Nat → Prop) (h : DHeap) (t : Txn) (vc va vr vw : Value) : Prop where
  c : Sl fU8.rep S h vc t.code
  a : Sl fI64.rep S h va t.args
  r : Sl fKey.rep S h vr t.reads
  w : Sl fKey.rep S h vw t.writes
theorem TxV.mono {S S' : Nat → Prop} {h h' : DHeap} {t : Txn} {vc va vr vw : Value} (x : TxV S h t vc va vr vw) (m : ∀ i, S i → S' i ∧ h'.get i = h.get i) : TxV S' h' t vc va vr vw :=
  ⟨x.c.mono m, x.a.mono m, x.r.mono m, x.w.mono m⟩
/-- the lengths that a transaction may have here -/
structure TxLen (t : Txn) : Prop where
  c : t.code.length ≤ 1048576
  a : t.args.length ≤ 1048576
  r : t.reads.length ≤ 1048576
  w : t.writes.length ≤ 1048576
abbrev InH (h : DHeap) : Nat → Prop := fun i => i < h.next
abbrev Fresh (h h1 : DHeap) : Nat → Prop := fun i => h.next ≤ i ∧ i < h1.next
theorem TxV.ext {h h1 : DHeap} {t : Txn} {vc va vr vw : Value} (x : TxV (InH h) h t vc va vr vw) (e : Ext h h1) : TxV (InH h1) h1 t vc va vr vw :=
  x.mono fun i hi => ⟨Nat.lt_of_lt_of_le hi e.next, e.get i hi⟩
theorem TxV.one {S : Nat → Prop} {h : DHeap} {t : Txn} {vc va vr vw : Value} (x : TxV S h t vc va vr vw) (a b : Int) : [.int .i64 a, .int .i64 b, vc, va, vr, vw].all Value.oneCell' = true := by
  obtain ⟨_, _, rfl⟩ := x.c.isSlice
  obtain ⟨_, _, rfl⟩ := x.a.isSlice
  obtain ⟨_, _, rfl⟩ := x.r.isSlice
  obtain ⟨_, _, rfl⟩ := x.w.isSlice
  rfl
/-- one cell of a box is written again -/
theorem store_cell {K : DHeap} {id o z : Nat} {R R' : List Value} {v : Value} (hv : v.cells = #[v]) (hone : [v].all Value.oneCell' = true) (ho : o + 1 ≤ R.length) (hR : R.set o v = R') (g : K.get id = some (.row R z false)) : storeAt K id o [v] = some (K.set id (.row R' z false)) := by
  subst hR
  exact storeAt_row g ho hone
theorem one_sl {α : Type} {R : Rep α} {S : Nat → Prop} {h : DHeap} {v : Value} {l : List α} (x : Sl R S h v l) : [v].all Value.oneCell' = true := by obtain ⟨_, _, rfl⟩ := x.isSlice; rfl

theorem cloneT_c {h : DHeap} {t : Txn} {vc va vr vw : Value} (x : TxV (InH h) h t vc va vr vw) (hl : TxLen t) :
    Ct Try.prog 37 [txnV t.ses t.req vc va vr vw] h fun r h1 => ∃ vc' va' vr' vw', r = .ret (txnV t.ses t.req vc' va' vr' vw') ∧ Ext h h1 ∧ TxV (Fresh h h1) h1 t vc' va' vr' vw' := by
  refine go_37 (by simp) ?_
  have hvc := x.c.cells1
  have hva := x.a.cells1
  have hvr := x.r.cells1
  have hvw := x.w.cells1
  obtain ⟨H, hH⟩ : ∃ H, H = (h.push (.row [.int .i64 t.ses, .int .i64 t.req, vc, va, vr, vw] 0 false)).push (.row [.int .i64 0, .int .i64 0, .slice none 0 0, .slice none 0 0, .slice none 0 0, .slice none 0 0] 0 false) := ⟨_, rfl⟩
  have hE : Ext h H := by rw [hH]; exact (Ext.push1 _ _).push _
  have hHn : H.next = h.next + 2 := by rw [hH]; rfl
  have ga : H.get h.next = some (.row [.int .i64 t.ses, .int .i64 t.req, vc, va, vr, vw] 0 false) := by rw [hH]; exact get_p1
  have gb : H.get (h.next + 1) = some (.row [.int .i64 0, .int .i64 0, .slice none 0 0, .slice none 0 0, .slice none 0 0, .slice none 0 0] 0 false) := by rw [hH]; exact get_push_same _ _
  obtain ⟨K1, hK1⟩ : ∃ K, cloneH fU8 H vc t.code = K := ⟨_, rfl⟩
  obtain ⟨c', hc'⟩ : ∃ v, cloneV H vc t.code = v := ⟨_, rfl⟩
  have e1 : Ext H K1 := hK1 ▸ cloneH_ext _ _ _ _
  have t1 := clone_u8 (x.c.ext hE) (by have := hl.c; omega)
  rw [hK1, hc'] at t1
  have x1 := x.ext (hE.trans e1)
  obtain ⟨K2, hK2⟩ : ∃ K, cloneH fI64 K1 va t.args = K := ⟨_, rfl⟩
  obtain ⟨a', ha'⟩ : ∃ v, cloneV K1 va t.args = v := ⟨_, rfl⟩
  have e2 : Ext K1 K2 := hK2 ▸ cloneH_ext _ _ _ _
  have t2 := clone_ints x1.a (by have := hl.a; omega)
  rw [hK2, ha'] at t2
  have x2 := x1.ext e2
  obtain ⟨K3, hK3⟩ : ∃ K, cloneH fKey K2 vr t.reads = K := ⟨_, rfl⟩
  obtain ⟨r', hr'⟩ : ∃ v, cloneV K2 vr t.reads = v := ⟨_, rfl⟩
  have e3 : Ext K2 K3 := hK3 ▸ cloneH_ext _ _ _ _
  have t3 := clone_keys x2.r (by have := hl.r; omega)
  rw [hK3, hr'] at t3
  have x3 := x2.ext e3
  obtain ⟨K4, hK4⟩ : ∃ K, cloneH fKey K3 vw t.writes = K := ⟨_, rfl⟩
  obtain ⟨w', hw'⟩ : ∃ v, cloneV K3 vw t.writes = v := ⟨_, rfl⟩
  have e4 : Ext K3 K4 := hK4 ▸ cloneH_ext _ _ _ _
  have t4 := clone_keys x3.w (by have := hl.w; omega)
  rw [hK4, hw'] at t4
  have E4 : Ext H K4 := ((e1.trans e2).trans e3).trans e4
  have gK : ∀ K, Ext H K → K.get h.next = some (.row [.int .i64 t.ses, .int .i64 t.req, vc, va, vr, vw] 0 false) := fun K e => (e.get _ (by omega)).trans ga
  have g1 := gK K1 e1
  have g2 := gK K2 (e1.trans e2)
  have g3 := gK K3 ((e1.trans e2).trans e3)
  have g4 := gK K4 E4
  have hn4 := E4.next
  -- the copies, where all is done
  have fin : ∀ M, K4.next ≤ M.next → (∀ i, i ≠ h.next → i ≠ h.next + 1 → M.get i = K4.get i) → TxV (Fresh h M) M t c' a' r' w' := fun M hn hg => by
    have n1 := e1.next
    have n2 := e2.next
    have n3 := e3.next
    have n4 := e4.next
    have m1 := clone_made (F := fU8) (h := H) (x.c.ext hE)
    have m2 := clone_made (F := fI64) (h := K1) x1.a
    have m3 := clone_made (F := fKey) (h := K2) x2.r
    have m4 := clone_made (F := fKey) (h := K3) x3.w
    rw [hK1, hc'] at m1
    rw [hK2, ha'] at m2
    rw [hK3, hr'] at m3
    rw [hK4, hw'] at m4
    refine ⟨m1.sl.mono fun i hi => ⟨⟨by omega, by omega⟩, ?_⟩, m2.sl.mono fun i hi => ⟨⟨by omega, by omega⟩, ?_⟩, m3.sl.mono fun i hi => ⟨⟨by omega, by omega⟩, ?_⟩, m4.sl.mono fun i hi => ⟨⟨by omega, by omega⟩, ?_⟩⟩
    · exact (hg i (by omega) (by omega)).trans (((e2.trans e3).trans e4).get i hi.2)
    · exact (hg i (by omega) (by omega)).trans ((e3.trans e4).get i hi.2)
    · exact (hg i (by omega) (by omega)).trans (e4.get i hi.2)
    · exact hg i (by omega) (by omega)
  have y := fin K4 (Nat.le_refl _) fun _ _ _ => rfl
  have s1 : dStore Try.prog 22 (.pointer (some ⟨h.next, 2, none⟩)) c' K4 = some (K4.set h.next (.row [.int .i64 t.ses, .int .i64 t.req, c', va, vr, vw] 0 false)) := (st_22 y.c.cells1).trans (store_cell y.c.cells1 (one_sl y.c) (by simp) rfl g4)
  have s2 : dStore Try.prog 23 (.pointer (some ⟨h.next, 3, none⟩)) a' (K4.set h.next (.row [.int .i64 t.ses, .int .i64 t.req, c', va, vr, vw] 0 false)) = some (K4.set h.next (.row [.int .i64 t.ses, .int .i64 t.req, c', a', vr, vw] 0 false)) := by
    rw [st_23 y.a.cells1, store_cell y.a.cells1 (one_sl y.a) (by simp) rfl (get_set_same _ _), set_set]
    rfl
  have s3 : dStore Try.prog 24 (.pointer (some ⟨h.next, 4, none⟩)) r' (K4.set h.next (.row [.int .i64 t.ses, .int .i64 t.req, c', a', vr, vw] 0 false)) = some (K4.set h.next (.row [.int .i64 t.ses, .int .i64 t.req, c', a', r', vw] 0 false)) := by
    rw [st_24 y.r.cells1, store_cell y.r.cells1 (one_sl y.r) (by simp) rfl (get_set_same _ _), set_set]
    rfl
  have s4 : dStore Try.prog 24 (.pointer (some ⟨h.next, 5, none⟩)) w' (K4.set h.next (.row [.int .i64 t.ses, .int .i64 t.req, c', a', r', vw] 0 false)) = some (K4.set h.next (.row [.int .i64 t.ses, .int .i64 t.req, c', a', r', w'] 0 false)) := by
    rw [st_24 y.w.cells1, store_cell y.w.cells1 (one_sl y.w) (by simp) rfl (get_set_same _ _), set_set]
    rfl
  have gb4 : (K4.set h.next (.row [.int .i64 t.ses, .int .i64 t.req, c', a', r', w'] 0 false)).get (h.next + 1) = _ := (get_set_other _ _ (by omega)).trans ((E4.get _ (by omega)).trans gb)
  have sa := storeAll (vs := [.int .i64 t.ses, .int .i64 t.req, c', a', r', w']) gb4 rfl (y.one _ _)
  have ca : cellsAt (K4.set h.next (.row [.int .i64 t.ses, .int .i64 t.req, c', a', r', w'] 0 false)) h.next 0 6 = some (txnV t.ses t.req c' a' r' w') := by
    rw [cellsAt_row (get_set_same _ _) (Nat.le_of_ble_eq_true rfl)]; rfl
  obtain ⟨M, hM⟩ : ∃ M, M = (K4.set h.next (.row [.int .i64 t.ses, .int .i64 t.req, c', a', r', w'] 0 false)).set (h.next + 1) (.row [.int .i64 t.ses, .int .i64 t.req, c', a', r', w'] 0 false) := ⟨_, rfl⟩
  have cM : cellsAt M (h.next + 1) 0 6 = some (txnV t.ses t.req c' a' r' w') := by
    rw [hM, cellsAt_row (get_set_same _ _) (Nat.le_of_ble_eq_true rfl)]; rfl
  rw [← hM] at sa
  simp -implicitDefEqProofs (disch := first | omega | (simp -implicitDefEqProofs only [go_sem, List.size_toArray, List.length_cons, List.length_nil, Nat.reduceAdd]; done)) only [go_sem, Int.reduceLT, Int.reduceLE, Int.reduceEq, reduceIte, true_and, Nat.zero_add, Nat.add_zero, Option.map_some, c37, next_push, ← hH]
  refine dr_37_0 ?_
  simp -implicitDefEqProofs (disch := first | omega | (simp -implicitDefEqProofs only [go_sem, List.size_toArray, List.length_cons, List.length_nil, Nat.reduceAdd]; done)) only [go_sem, Int.reduceLT, Int.reduceLE, Int.reduceEq, reduceIte, true_and, Nat.zero_add, Nat.add_zero, Option.map_some, l37_0, cellAt_row ga]
  refine dcall t1 ?_
  simp -implicitDefEqProofs (disch := first | omega | (simp -implicitDefEqProofs only [go_sem, List.size_toArray, List.length_cons, List.length_nil, Nat.reduceAdd]; done)) only [go_sem, Int.reduceLT, Int.reduceLE, Int.reduceEq, reduceIte, true_and, Nat.zero_add, Nat.add_zero, Option.map_some, cellAt_row g1]
  refine dcall t2 ?_
  simp -implicitDefEqProofs (disch := first | omega | (simp -implicitDefEqProofs only [go_sem, List.size_toArray, List.length_cons, List.length_nil, Nat.reduceAdd]; done)) only [go_sem, Int.reduceLT, Int.reduceLE, Int.reduceEq, reduceIte, true_and, Nat.zero_add, Nat.add_zero, Option.map_some, cellAt_row g2]
  refine dcall t3 ?_
  simp -implicitDefEqProofs (disch := first | omega | (simp -implicitDefEqProofs only [go_sem, List.size_toArray, List.length_cons, List.length_nil, Nat.reduceAdd]; done)) only [go_sem, Int.reduceLT, Int.reduceLE, Int.reduceEq, reduceIte, true_and, Nat.zero_add, Nat.add_zero, Option.map_some, cellAt_row g3]
  refine dcall t4 ?_
  simp -implicitDefEqProofs (disch := first | omega | (simp -implicitDefEqProofs only [go_sem, List.size_toArray, List.length_cons, List.length_nil, Nat.reduceAdd]; done)) only [go_sem, Int.reduceLT, Int.reduceLE, Int.reduceEq, reduceIte, true_and, Nat.zero_add, Nat.add_zero, Option.map_some, s1, s2, s3, s4]
  refine ⟨⟨?_, ?_, ?_, ?_, ?_, ?_, trivial⟩, ?_⟩
  · refine XSt1_at (i := 4) (j := 2) rfl rfl rfl ?_
    rw [if_pos (by decide)]
    exact Ld_on (p := .pointer (some ⟨h.next, 3, none⟩)) (by simp -implicitDefEqProofs (disch := first | omega | (simp -implicitDefEqProofs only [go_sem, List.size_toArray, List.length_cons, List.length_nil, Nat.reduceAdd]; done)) only [go_sem, Int.reduceLT, Int.reduceLE, Int.reduceEq, reduceIte, true_and, Nat.zero_add, Nat.add_zero, Option.map_some]) (by simp -implicitDefEqProofs (disch := first | omega | (simp -implicitDefEqProofs only [go_sem, List.size_toArray, List.length_cons, List.length_nil, Nat.reduceAdd]; done)) only [go_sem, Int.reduceLT, Int.reduceLE, Int.reduceEq, reduceIte, true_and, Nat.zero_add, Nat.add_zero, Option.map_some]) (ld_23.trans (cellAt_row ga))
  · refine XSt1_at (i := 7) (j := 2) rfl rfl rfl ?_
    rw [if_pos (by decide)]
    exact Ld_on (p := .pointer (some ⟨h.next, 4, none⟩)) (by simp -implicitDefEqProofs (disch := first | omega | (simp -implicitDefEqProofs only [go_sem, List.size_toArray, List.length_cons, List.length_nil, Nat.reduceAdd]; done)) only [go_sem, Int.reduceLT, Int.reduceLE, Int.reduceEq, reduceIte, true_and, Nat.zero_add, Nat.add_zero, Option.map_some]) (by simp -implicitDefEqProofs (disch := first | omega | (simp -implicitDefEqProofs only [go_sem, List.size_toArray, List.length_cons, List.length_nil, Nat.reduceAdd]; done)) only [go_sem, Int.reduceLT, Int.reduceLE, Int.reduceEq, reduceIte, true_and, Nat.zero_add, Nat.add_zero, Option.map_some]) (ld_24.trans (cellAt_row ga))
  · refine XSt1_at (i := 7) (j := 5) rfl rfl rfl ?_
    rw [if_pos (by decide)]
    exact Ld_on (p := .pointer (some ⟨h.next, 4, none⟩)) (by simp -implicitDefEqProofs (disch := first | omega | (simp -implicitDefEqProofs only [go_sem, List.size_toArray, List.length_cons, List.length_nil, Nat.reduceAdd]; done)) only [go_sem, Int.reduceLT, Int.reduceLE, Int.reduceEq, reduceIte, true_and, Nat.zero_add, Nat.add_zero, Option.map_some]) (by simp -implicitDefEqProofs (disch := first | omega | (simp -implicitDefEqProofs only [go_sem, List.size_toArray, List.length_cons, List.length_nil, Nat.reduceAdd]; done)) only [go_sem, Int.reduceLT, Int.reduceLE, Int.reduceEq, reduceIte, true_and, Nat.zero_add, Nat.add_zero, Option.map_some]) (ld_24.trans (cellAt_row g1))
  · refine XSt1_at (i := 10) (j := 2) rfl rfl rfl ?_
    rw [if_pos (by decide)]
    exact Ld_on (p := .pointer (some ⟨h.next, 5, none⟩)) (by simp -implicitDefEqProofs (disch := first | omega | (simp -implicitDefEqProofs only [go_sem, List.size_toArray, List.length_cons, List.length_nil, Nat.reduceAdd]; done)) only [go_sem, Int.reduceLT, Int.reduceLE, Int.reduceEq, reduceIte, true_and, Nat.zero_add, Nat.add_zero, Option.map_some]) (by simp -implicitDefEqProofs (disch := first | omega | (simp -implicitDefEqProofs only [go_sem, List.size_toArray, List.length_cons, List.length_nil, Nat.reduceAdd]; done)) only [go_sem, Int.reduceLT, Int.reduceLE, Int.reduceEq, reduceIte, true_and, Nat.zero_add, Nat.add_zero, Option.map_some]) (ld_24.trans (cellAt_row ga))
  · refine XSt1_at (i := 10) (j := 5) rfl rfl rfl ?_
    rw [if_pos (by decide)]
    exact Ld_on (p := .pointer (some ⟨h.next, 5, none⟩)) (by simp -implicitDefEqProofs (disch := first | omega | (simp -implicitDefEqProofs only [go_sem, List.size_toArray, List.length_cons, List.length_nil, Nat.reduceAdd]; done)) only [go_sem, Int.reduceLT, Int.reduceLE, Int.reduceEq, reduceIte, true_and, Nat.zero_add, Nat.add_zero, Option.map_some]) (by simp -implicitDefEqProofs (disch := first | omega | (simp -implicitDefEqProofs only [go_sem, List.size_toArray, List.length_cons, List.length_nil, Nat.reduceAdd]; done)) only [go_sem, Int.reduceLT, Int.reduceLE, Int.reduceEq, reduceIte, true_and, Nat.zero_add, Nat.add_zero, Option.map_some]) (ld_24.trans (cellAt_row g1))
  · refine XSt1_at (i := 10) (j := 8) rfl rfl rfl ?_
    rw [if_pos (by decide)]
    exact Ld_on (p := .pointer (some ⟨h.next, 5, none⟩)) (by simp -implicitDefEqProofs (disch := first | omega | (simp -implicitDefEqProofs only [go_sem, List.size_toArray, List.length_cons, List.length_nil, Nat.reduceAdd]; done)) only [go_sem, Int.reduceLT, Int.reduceLE, Int.reduceEq, reduceIte, true_and, Nat.zero_add, Nat.add_zero, Option.map_some]) (by simp -implicitDefEqProofs (disch := first | omega | (simp -implicitDefEqProofs only [go_sem, List.size_toArray, List.length_cons, List.length_nil, Nat.reduceAdd]; done)) only [go_sem, Int.reduceLT, Int.reduceLE, Int.reduceEq, reduceIte, true_and, Nat.zero_add, Nat.add_zero, Option.map_some]) (ld_24.trans (cellAt_row g2))
  · simp -implicitDefEqProofs (disch := first | omega | (simp -implicitDefEqProofs only [go_sem, List.size_toArray, List.length_cons, List.length_nil, Nat.reduceAdd]; done)) only [go_sem, Int.reduceLT, Int.reduceLE, Int.reduceEq, reduceIte, true_and, Nat.zero_add, Nat.add_zero, Option.map_some, ca, sa]
    refine ret_at (v := txnV t.ses t.req c' a' r' w') ?_ ?_
    · rw [dResults_c1]
      simp -implicitDefEqProofs (disch := first | omega | (simp -implicitDefEqProofs only [go_sem, List.size_toArray, List.length_cons, List.length_nil, Nat.reduceAdd]; done)) only [go_sem, Int.reduceLT, Int.reduceLE, Int.reduceEq, reduceIte, true_and, Nat.zero_add, Nat.add_zero, Option.map_some, cM, dResC_some]
    · exact ⟨_, _, _, _, rfl, by rw [hM]; exact (((hE.trans E4).set (by omega)).set (by omega)), fin M (by rw [hM]; exact Nat.le_refl _) fun i h1 h2 => by rw [hM, get_set_other _ _ h2, get_set_other _ _ h1]⟩
end Go.Proofs.Ytbdljpndncohaaa

namespace Go.Proofs.Ytbdljpndncohaaa
open Go.D
set_option maxRecDepth 100000

theorem idx_first {P : Program} {t : TypeId} {s : ByteArray} (ht : P.underlying t = some .string) (hs : s[0]? = some 0) : dIndex P t (.string s) (.int .u8 (IntKind.u8.wrap 0)) = some (.int .u8 0) := by
  rw [show IntKind.u8.wrap 0 = 0 by decide]
  unfold dIndex
  rw [ht]
  simp only [Int.le_refl, if_true, Int.toNat_zero, hs]
  rfl
theorem len64_0 {h : DHeap} : DC Try.prog 80 [.int .u64 0] h (.ret (.int .i64 0)) h := by
  refine Ct.pure (go_80 (by simp) ?_) (vin_int _ _)
  simp -implicitDefEqProofs (disch := first | omega | (simp -implicitDefEqProofs only [go_sem, List.size_toArray, List.length_cons, List.length_nil, Nat.reduceAdd]; done)) only [go_sem, Int.reduceLT, Int.reduceLE, Int.reduceEq, reduceIte, true_and, Nat.zero_add, Nat.add_zero, Option.map_some, c80]
  rw [idx_first (by kernel_rfl) (by kernel_rfl)]
  simp -implicitDefEqProofs (disch := first | omega | (simp -implicitDefEqProofs only [go_sem, List.size_toArray, List.length_cons, List.length_nil, Nat.reduceAdd]; done)) only [go_sem, Int.reduceLT, Int.reduceLE, Int.reduceEq, reduceIte, true_and, Nat.zero_add, Nat.add_zero, Option.map_some]
  exact ⟨_, rfl, congrArg (fun z => DEnd.ret (Value.int IntKind.i64 z)) (by decide), .refl _⟩
theorem len_0 {h : DHeap} : DC Try.prog 65 [.int .u64 0] h (.ret (.int .i64 0)) h := by
  refine Ct.pure (go_65 (by simp) ?_) (vin_int _ _)
  simp -implicitDefEqProofs (disch := first | omega | (simp -implicitDefEqProofs only [go_sem, List.size_toArray, List.length_cons, List.length_nil, Nat.reduceAdd]; done)) only [go_sem, Int.reduceLT, Int.reduceLE, Int.reduceEq, reduceIte, true_and, Nat.zero_add, Nat.add_zero, Option.map_some, c65]
  refine ncall len64_0 ?_
  simp -implicitDefEqProofs (disch := first | omega | (simp -implicitDefEqProofs only [go_sem, List.size_toArray, List.length_cons, List.length_nil, Nat.reduceAdd]; done)) only [go_sem, Int.reduceLT, Int.reduceLE, Int.reduceEq, reduceIte, true_and, Nat.zero_add, Nat.add_zero, Option.map_some]
  exact ⟨_, rfl, rfl, .refl _⟩
theorem insertion_0 {h : DHeap} {v : Value} {g : Value} : Ct Try.prog 71 [v, .int .i64 0, .int .i64 0, g] h fun r h1 => r = .ret (.tuple #[]) ∧ h1 = h := by
  refine go_71 (by simp) ?_
  simp -implicitDefEqProofs (disch := first | omega | (simp -implicitDefEqProofs only [go_sem, List.size_toArray, List.length_cons, List.length_nil, Nat.reduceAdd]; done)) only [go_sem, Int.reduceLT, Int.reduceLE, Int.reduceEq, reduceIte, true_and, Nat.zero_add, Nat.add_zero, Option.map_some, c71]
  refine xloop (σ := Nat) (by kernel_rfl) (fun j s => s.df = [] ∧ s.h = h ∧ s.fr 2 = some (.int .i64 0) ∧ s.fr 8 = some (.int .i64 1)) (fun j => 0) 0 ?_ ?_
  · simp -implicitDefEqProofs (disch := first | omega | (simp -implicitDefEqProofs only [go_sem, List.size_toArray, List.length_cons, List.length_nil, Nat.reduceAdd]; done)) only [go_sem, Int.reduceLT, Int.reduceLE, Int.reduceEq, reduceIte, true_and, Nat.zero_add, Nat.add_zero, Option.map_some]
    exact congrArg some (congrArg (Value.int IntKind.i64) (by decide))
  · rintro i ⟨fr, df, K, rd⟩ K' hK' hX ⟨rfl, rfl, f2, f8⟩
    simp only at f2 f8
    simp -implicitDefEqProofs (disch := first | omega | (simp -implicitDefEqProofs only [go_sem, List.size_toArray, List.length_cons, List.length_nil, Nat.reduceAdd]; done)) only [go_sem, Int.reduceLT, Int.reduceLE, Int.reduceEq, reduceIte, true_and, Nat.zero_add, Nat.add_zero, Option.map_some, f2, f8]
    refine hX _ _ (by simp) ?_
    simp -implicitDefEqProofs (disch := first | omega | (simp -implicitDefEqProofs only [go_sem, List.size_toArray, List.length_cons, List.length_nil, Nat.reduceAdd]; done)) only [go_sem, Int.reduceLT, Int.reduceLE, Int.reduceEq, reduceIte, true_and, Nat.zero_add, Nat.add_zero, Option.map_some]
    exact ⟨_, rfl, rfl, trivial⟩
theorem pdq_0 {h : DHeap} {v g x : Value} : Ct Try.prog 64 [v, .int .i64 0, .int .i64 0, x, g] h fun r h1 => r = .ret (.tuple #[]) ∧ h1 = h := by
  refine go_64 (by simp) ?_
  have e0 : IntKind.i64.wrap (0 - 0) = 0 := by decide
  simp -implicitDefEqProofs (disch := first | omega | (simp -implicitDefEqProofs only [go_sem, List.size_toArray, List.length_cons, List.length_nil, Nat.reduceAdd]; done)) only [go_sem, Int.reduceLT, Int.reduceLE, Int.reduceEq, reduceIte, true_and, Nat.zero_add, Nat.add_zero, Option.map_some, c64]
  refine xloop (σ := Nat) (by kernel_rfl) (fun j s => s.df = [] ∧ s.rd = none ∧ s.h = h ∧ s.fr 0 = some v ∧ s.fr 1 = some (.int .i64 0) ∧ s.fr 2 = some (.int .i64 0) ∧ s.fr 4 = some g) (fun j => 0) 0 ?_ ?_
  · simp -implicitDefEqProofs (disch := first | omega | (simp -implicitDefEqProofs only [go_sem, List.size_toArray, List.length_cons, List.length_nil, Nat.reduceAdd]; done)) only [go_sem, Int.reduceLT, Int.reduceLE, Int.reduceEq, reduceIte, true_and, Nat.zero_add, Nat.add_zero, Option.map_some]
  · rintro i ⟨fr, df, K, rd⟩ K' hK' hX ⟨rfl, rfl, rfl, f0, f1, f2, f4⟩
    simp only at f0 f1 f2 f4
    simp -implicitDefEqProofs (disch := first | omega | (simp -implicitDefEqProofs only [go_sem, List.size_toArray, List.length_cons, List.length_nil, Nat.reduceAdd]; done)) only [go_sem, Int.reduceLT, Int.reduceLE, Int.reduceEq, reduceIte, true_and, Nat.zero_add, Nat.add_zero, Option.map_some, f0, f1, f2, f4, e0]
    refine ncall_ct insertion_0 ?_
    rintro r h1 ⟨rfl, rfl⟩
    simp -implicitDefEqProofs (disch := first | omega | (simp -implicitDefEqProofs only [go_sem, List.size_toArray, List.length_cons, List.length_nil, Nat.reduceAdd]; done)) only [go_sem, Int.reduceLT, Int.reduceLE, Int.reduceEq, reduceIte, true_and, Nat.zero_add, Nat.add_zero, Option.map_some, XEnd]
    refine hX _ _ (by simp) ?_
    simp -implicitDefEqProofs (disch := first | omega | (simp -implicitDefEqProofs only [go_sem, List.size_toArray, List.length_cons, List.length_nil, Nat.reduceAdd]; done)) only [go_sem, Int.reduceLT, Int.reduceLE, Int.reduceEq, reduceIte, true_and, Nat.zero_add, Nat.add_zero, Option.map_some]
    exact ⟨_, rfl, rfl, trivial⟩
theorem sort_0 {h : DHeap} {v : Value} {g : Value} (hb : Arg fKey.rep h v []) : Ct Try.prog 52 [v, g] h fun r h1 => r = .ret (.tuple #[]) ∧ h1 = h := by
  refine go_52 (by simp) ?_
  have el : ∀ K, dLen Try.prog #[24] v K = some (.int .i64 ((([] : List Key).length : Nat) : Int)) := hb.lens (P := Try.prog) (ts := #[24]) (t := 24) rfl isl_24
  have e0 : IntKind.u64.wrap ((0 : Nat) : Int) = 0 := by decide
  simp -implicitDefEqProofs (disch := first | omega | (simp -implicitDefEqProofs only [go_sem, List.size_toArray, List.length_cons, List.length_nil, Nat.reduceAdd]; done)) only [go_sem, Int.reduceLT, Int.reduceLE, Int.reduceEq, reduceIte, true_and, Nat.zero_add, Nat.add_zero, Option.map_some, c52, el, List.length_nil, e0]
  refine ncall len_0 ?_
  simp -implicitDefEqProofs (disch := first | omega | (simp -implicitDefEqProofs only [go_sem, List.size_toArray, List.length_cons, List.length_nil, Nat.reduceAdd]; done)) only [go_sem, Int.reduceLT, Int.reduceLE, Int.reduceEq, reduceIte, true_and, Nat.zero_add, Nat.add_zero, Option.map_some]
  refine ncall_ct pdq_0 ?_
  rintro r h1 ⟨rfl, rfl⟩
  simp -implicitDefEqProofs (disch := first | omega | (simp -implicitDefEqProofs only [go_sem, List.size_toArray, List.length_cons, List.length_nil, Nat.reduceAdd]; done)) only [go_sem, Int.reduceLT, Int.reduceLE, Int.reduceEq, reduceIte, true_and, Nat.zero_add, Nat.add_zero, Option.map_some, XEnd]
  exact ⟨_, rfl, rfl, trivial⟩
end Go.Proofs.Ytbdljpndncohaaa

namespace Go.Proofs.Ytbdljpndncohaaa
open Go.D
set_option maxRecDepth 100000

end Go.Proofs.Ytbdljpndncohaaa

namespace Go.Proofs.Ytbdljpndncohaaa
open Go.D
set_option maxRecDepth 100000
theorem lay_bool : Lays Try.prog 4 fB.rep (fun _ => 1) := .bool (by kernel_rfl) (by kernel_rfl)
theorem lay_errno : Lays Try.prog 31 fI64.rep (fun _ => 1) := .int (by kernel_rfl) (by kernel_rfl)
theorem lay_keys : Lays Try.prog 24 (rSl fKey.rep) (sumB fun _ => 2) := .slice (e := 54) (by kernel_rfl) (by kernel_rfl) (by decide) lay_key
theorem lay_pair : Lays Try.prog 166 fPair.rep (fun _ => 3) :=
  (Lays.of (l := [(54, 0), (2, 2)]) (by kernel_rfl) (by kernel_rfl) (.cons lay_key (.one lay_i64))).conv (Q := fPair.rep) rfl (fun x => ⟨x.1, x.2⟩)
    (fun _ _ _ _ h => by
      obtain ⟨c1, c2, rfl, ⟨rfl, k1⟩, rfl, k2⟩ := h
      exact ⟨rfl, k1, k2⟩) (fun _ => Nat.le_refl _)
theorem lay_pairs : Lays Try.prog 63 (rSl fPair.rep) (sumB fun _ => 3) := .slice (e := 166) (by kernel_rfl) (by kernel_rfl) (by decide) lay_pair
def bulkTxn (x : Txn) : Nat := 2 + (sumB (fun _ => 1) x.code + (sumB (fun _ => 1) x.args + (sumB (fun _ => 2) x.reads + sumB (fun _ => 2) x.writes)))
def bulkAns (x : Ans) : Nat := 2 + bulkRes x.x
def bulkFnd (x : Fnd) : Nat := 2 + sumB (fun _ => 3) x.pairs
def bulkOp (x : OpC) : Nat := 3 + (bulkTxn x.t + (bulkAns x.a + (sumB (fun _ => 2) x.keys + bulkFnd x.f)))
abbrev txnF : List (Nat × Nat) := [(2, 0), (2, 1), (22, 2), (23, 3), (24, 4), (24, 5)]
theorem lay_txn : Lays Try.prog 26 rTxn bulkTxn :=
  (Lays.of (l := txnF) (by kernel_rfl) (by kernel_rfl) (.cons lay_i64 (.cons lay_i64 (.cons lay_bytes (.cons lay_ints (.cons lay_keys (.one lay_keys))))))).conv (Q := rTxn) rfl (fun x => ⟨x.1, x.2.1, x.2.2.1, x.2.2.2.1, x.2.2.2.2.1, x.2.2.2.2.2⟩) (fun _ _ _ _ h => h)
    (fun x => by simp only [bulkTxn]; omega)
theorem lay_ans : Lays Try.prog 47 rAns bulkAns :=
  (Lays.of (l := [(2, 0), (2, 1), (45, 2)]) (by kernel_rfl) (by kernel_rfl) (.cons lay_i64 (.cons lay_i64 (.one lay_res)))).conv (Q := rAns) rfl (fun x => ⟨x.1, x.2.1, x.2.2⟩) (fun _ _ _ _ h => h)
    (fun x => by simp only [bulkAns]; omega)
theorem lay_fnd : Lays Try.prog 65 rFnd bulkFnd :=
  (Lays.of (l := [(31, 0), (2, 1), (63, 2)]) (by kernel_rfl) (by kernel_rfl) (.cons lay_errno (.cons lay_i64 (.one lay_pairs)))).conv (Q := rFnd) rfl (fun x => ⟨x.1, x.2.1, x.2.2⟩) (fun _ _ _ _ h => h)
    (fun x => by simp only [bulkFnd]; omega)
abbrev opF : List (Nat × Nat) := [(3, 0), (26, 1), (3, 7), (47, 8), (4, 14), (24, 15), (65, 16)]
theorem lay_op : Lays Try.prog 67 rOpC bulkOp :=
  (Lays.of (l := opF) (by kernel_rfl) (by kernel_rfl) (.cons lay_int (.cons lay_txn (.cons lay_int (.cons lay_ans (.cons lay_bool (.cons lay_keys (.one lay_fnd)))))))).conv (Q := rOpC) rfl (fun x => ⟨x.1, x.2.1, x.2.2.1, x.2.2.2.1, x.2.2.2.2.1, x.2.2.2.2.2.1, x.2.2.2.2.2.2⟩) (fun _ _ _ _ h => h)
    (fun x => by simp only [bulkOp]; omega)
/-- a transaction that has come in -/
theorem txn_in {S : Nat → Prop} {h : DHeap} {cs : List Value} {x : Txn} (a : rTxn.rd S h cs x) : ∃ vc va vr vw, cs = [.int .i64 x.ses, .int .i64 x.req, vc, va, vr, vw] ∧ inK .i64 x.ses ∧ inK .i64 x.req ∧ TxV S h x vc va vr vw := by
  obtain ⟨_, _, rfl, ⟨rfl, k1⟩, _, _, rfl, ⟨rfl, k2⟩, _, _, rfl, ⟨vc, rfl, h1⟩, _, _, rfl, ⟨va, rfl, h2⟩, _, _, rfl, ⟨vr, rfl, h3⟩, vw, rfl, h4⟩ := a
  exact ⟨vc, va, vr, vw, rfl, k1, k2, h1, h2, h3, h4⟩
theorem bulk_txn (x : Txn) : x.code.length ≤ bulkTxn x ∧ x.args.length ≤ bulkTxn x ∧ x.reads.length ≤ bulkTxn x ∧ x.writes.length ≤ bulkTxn x := by
  have h1 := sumB_len (fun _ => 1) x.code
  have h2 := sumB_len (fun _ => 1) x.args
  have h3 := sumB_len (fun _ => 2) x.reads
  have h4 := sumB_len (fun _ => 2) x.writes
  have hb : bulkTxn x = 2 + (sumB (fun _ => 1) x.code + (sumB (fun _ => 1) x.args + (sumB (fun _ => 2) x.reads + sumB (fun _ => 2) x.writes))) := rfl
  omega
theorem txn_len {x : Txn} (h : bulkTxn x ≤ 1048576) : TxLen x := by
  have := bulk_txn x
  exact ⟨by omega, by omega, by omega, by omega⟩
/-- a call that has come in -/
theorem op_in {S : Nat → Prop} {h : DHeap} {cs : List Value} {x : OpC} (a : rOpC.rd S h cs x) : ∃ vc va vr vw vv vk vp, cs = opL x vc va vr vw vv vk vp ∧ TxV S h x.t vc va vr vw ∧ Sl fI64.rep S h vv x.a.x.vs ∧ Sl fKey.rep S h vk x.keys ∧ Sl fPair.rep S h vp x.f.pairs := by
  obtain ⟨_, _, rfl, ⟨rfl, k1⟩, _, _, rfl, ht, _, _, rfl, ⟨rfl, k2⟩, _, _, rfl, ⟨_, _, rfl, ⟨rfl, k3⟩, _, _, rfl, ⟨rfl, k4⟩, _, _, rfl, ⟨rfl, k5⟩, _, _, rfl, ⟨vv, rfl, hv⟩, _, _, rfl, ⟨rfl, k6⟩, rfl, k7⟩, _, _, rfl, ⟨rfl, _⟩, _, _, rfl, ⟨vk, rfl, hk⟩, _, _, rfl, ⟨rfl, k8⟩, _, _, rfl, ⟨rfl, k9⟩, vp, rfl, hp⟩ := a
  obtain ⟨vc, va, vr, vw, rfl, _, _, t⟩ := txn_in ht
  exact ⟨vc, va, vr, vw, vv, vk, vp, rfl, t, hv, hk, hp⟩
end Go.Proofs.Ytbdljpndncohaaa

namespace Go.Proofs.Ytbdljpndncohaaa
open Go.D
set_option maxRecDepth 100000
end Go.Proofs.Ytbdljpndncohaaa

namespace Go.D
variable {P : Program} {nt : Nat}

section
variable {ops : Array Oper} {o : Oper} {s : St} {E : DHeap → DHeap → Prop} {V : Nat → DHeap → Value → Prop} {cons : Nat → Option Nat} {b : List Nat} {i : Nat} {Q : DExit → St → Prop} {v : Value} {h' : DHeap}
end
end Go.D
