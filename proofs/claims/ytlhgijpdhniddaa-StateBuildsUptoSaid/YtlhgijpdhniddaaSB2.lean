/-
A part of the proof of a law: contracts of functions over plain heaps, and what they lean on. Conditions: none.
-/
import Derived.Test.YtlhgijpdhniddaaBase1
import Derived.Test.YtlhgijpdhniddaaBase2
import Derived.Test.YtlhgijpdhniddaaSB1
set_option linter.unusedSimpArgs false
set_option linter.unusedVariables false
namespace Go.Proofs.Ytlhgijpdhniddaa
open Go.D
set_option maxRecDepth 100000

def leI : List Int → Int
  | [] => 0
  | c :: r => c + 256 * leI r
theorem leI_bound : ∀ (n : Nat) (l : List Int), (∀ x ∈ l, 0 ≤ x ∧ x ≤ 255) → l.length ≤ n → 0 ≤ leI l ∧ leI l < 256 ^ n
  | _, [], _, _ => ⟨Int.le_refl _, by simp only [leI]; exact Int.pow_pos (by decide)⟩
  | 0, c :: r, _, h => by simp at h
  | n + 1, c :: r, hb, h => by
    have h1 := leI_bound n r (fun x hx => hb x (by simp [hx])) (by simpa using h)
    have h2 := hb c (by simp)
    simp only [leI]
    rw [Int.pow_succ]
    omega

/-- the number with which bytes begin, its size, what is wrong -/
def takeI : List Int → Int × Int × Int
  | [] => (0, 0, 10)
  | c :: r =>
    if 17 < c ∨ c = 1 then (0, 0, 11)
    else if r.length < (c / 2).toNat then (0, 0, 10)
    else if 0 < (c / 2).toNat ∧ r[(c / 2).toNat - 1]? = some 0 then (0, 0, 11)
    else if 9223372036854775808 < leI (r.take (c / 2).toNat) ∨ leI (r.take (c / 2).toNat) = 9223372036854775808 ∧ c % 2 = 0 then (0, 0, 11)
    else (if c % 2 = 1 then - leI (r.take (c / 2).toNat) else leI (r.take (c / 2).toNat), (c / 2).toNat + 1, 0)
theorem takeI_in {l : List Int} (hb : ∀ x ∈ l, 0 ≤ x ∧ x ≤ 255) : inK .i64 (takeI l).1 := by
  cases l with
  | nil => exact inK_i64.2 (by decide)
  | cons c r =>
    simp only [takeI]
    have h1 := leI_bound (r.take (c / 2).toNat).length (r.take (c / 2).toNat) (fun x hx => hb x (by simp [List.mem_of_mem_take hx])) (Nat.le_refl _)
    repeat' split
    all_goals first | (exact inK_i64.2 (by decide)) | (refine inK_i64.2 ?_; simp only; omega)

theorem takeI_form {c : Int} {r : List Int} (_ : 0 ≤ c ∧ c ≤ 255) (h : 17 < c ∨ c = 1) : takeI (c :: r) = (0, 0, 11) := by simp only [takeI]; rw [if_pos h]
theorem takeI_ends {c : Int} {r : List Int} {k : Nat} (hk : (c / 2).toNat = k) (h1 : ¬ 17 < c) (h2 : ¬ c = 1) (h : r.length < k) : takeI (c :: r) = (0, 0, 10) := by
  simp only [takeI, hk]; rw [if_neg (by omega), if_pos h]
theorem takeI_nought {c : Int} {r : List Int} {k : Nat} (hk : (c / 2).toNat = k) (h1 : ¬ 17 < c) (h2 : ¬ c = 1) (h3 : ¬ r.length < k) (h : 0 < k ∧ r[k - 1]? = some 0) : takeI (c :: r) = (0, 0, 11) := by
  simp only [takeI, hk]; rw [if_neg (by omega), if_neg h3, if_pos h]
theorem takeI_wide {c : Int} {r : List Int} {k : Nat} (hk : (c / 2).toNat = k) (h1 : ¬ 17 < c) (h2 : ¬ c = 1) (h3 : ¬ r.length < k) (h4 : ¬ (0 < k ∧ r[k - 1]? = some 0))
    (h : 9223372036854775808 < leI (r.take k) ∨ leI (r.take k) = 9223372036854775808 ∧ c % 2 = 0) : takeI (c :: r) = (0, 0, 11) := by
  simp only [takeI, hk]; rw [if_neg (by omega), if_neg h3, if_neg h4, if_pos h]
theorem takeI_ok {c : Int} {r : List Int} {k : Nat} (hk : (c / 2).toNat = k) (h1 : ¬ 17 < c) (h2 : ¬ c = 1) (h3 : ¬ r.length < k) (h4 : ¬ (0 < k ∧ r[k - 1]? = some 0))
    (h : ¬ (9223372036854775808 < leI (r.take k) ∨ leI (r.take k) = 9223372036854775808 ∧ c % 2 = 0)) : takeI (c :: r) = (if c % 2 = 1 then - leI (r.take k) else leI (r.take k), (k : Int) + 1, 0) := by
  simp only [takeI, hk]; rw [if_neg (by omega), if_neg h3, if_neg h4, if_neg h]

theorem stepLe {r : List Int} {i k : Nat} (hi : i < k) (hk : k ≤ r.length) : leI ((r.take k).drop i) = r[i] + 256 * leI ((r.take k).drop (i + 1)) := by
  have hl : i < (r.take k).length := by simp; omega
  rw [List.drop_eq_getElem_cons hl]
  simp [leI]

theorem refTake_c {h : DHeap} {b : Value} {l : List Int} (hb : Arg fU8.rep h b l) (hlen : l.length ≤ 4294967296) :
    DC Try.prog 62 [b] h (.ret (.tuple #[.int .i64 (takeI l).1, .int .i64 (takeI l).2.1, .int .i64 (takeI l).2.2])) h := by
  have hok : ∀ x ∈ l, 0 ≤ x ∧ x ≤ 255 := fun x hx => inK_u8.1 (hb.ok x hx)
  refine Ct.pure (go_62 (by simp) ?_) (vin_ints3 _ _ _ _ _ _)
  have el := hb.dLen (P := Try.prog) (ts := #[22]) (t := 22) rfl isl_22
  simp -implicitDefEqProofs (disch := first | omega | (simp only [go_sem, List.size_toArray, List.length_cons, List.length_nil, Nat.reduceAdd]; done)) only [go_sem, Int.reduceLT, Int.reduceLE, Int.reduceEq, reduceIte, c62, el]
  cases l with
  | nil =>
    refine XIf_dec (fun _ => ?_) (fun hc => absurd rfl hc)
    simp -implicitDefEqProofs (disch := first | omega | (simp only [go_sem, List.size_toArray, List.length_cons, List.length_nil, Nat.reduceAdd]; done)) only [go_sem, Int.reduceLT, Int.reduceLE, Int.reduceEq, reduceIte]
    exact ⟨_, rfl, rfl, .refl h⟩
  | cons c r =>
    refine XIf_dec (fun hc => by simp at hc; omega) (fun _ => ?_)
    have hc := hok c (by simp)
    obtain ⟨id, o, e1, _, hat⟩ := hb.idx (P := Try.prog) (t := 22) el_22 (k := .i64) (i := 0) (x := c) rfl
    have e1' : dIndexAddr Try.prog 22 b (.int .i64 0) = some (.pointer (some ⟨id, o, none⟩)) := e1
    obtain ⟨k, hk⟩ : ∃ k : Nat, (c / 2).toNat = k := ⟨_, rfl⟩
    have hkc : (k : Int) = c / 2 := by omega
    have hq : IntKind.i64.wrap (IntKind.u8.wrap (c.tdiv 2)) = (k : Int) := by
      rw [Int.tdiv_eq_ediv_of_nonneg hc.1, wrap_u8, wrap_i64_in (by omega) (by omega)]; omega
    by_cases h17 : 17 < c
    · rw [takeI_form hc (.inl h17)]
      simp -implicitDefEqProofs (disch := first | omega | (simp only [go_sem, List.size_toArray, List.length_cons, List.length_nil, Nat.reduceAdd]; done)) only [go_sem, Int.reduceLT, Int.reduceLE, Int.reduceEq, reduceIte, e1', hat.int, h17]
      exact ⟨_, rfl, rfl, .refl h⟩
    by_cases h1 : c = 1
    · subst h1
      rw [takeI_form hc (.inr rfl)]
      simp -implicitDefEqProofs (disch := first | omega | (simp only [go_sem, List.size_toArray, List.length_cons, List.length_nil, Nat.reduceAdd]; done)) only [go_sem, Int.reduceLT, Int.reduceLE, Int.reduceEq, reduceIte, e1', hat.int]
      exact ⟨_, rfl, rfl, .refl h⟩
    have hk8 : k ≤ 8 := by omega
    have hsub : IntKind.i64.wrap (((c :: r).length : Int) - 1) = (r.length : Int) := by
      simp only [List.length_cons] at hlen ⊢
      rw [wrap_i64_in (by omega) (by omega)]; omega
    by_cases hrk : r.length < k
    · have hrk' : (r.length : Int) < (k : Int) := by omega
      rw [takeI_ends hk h17 h1 hrk]
      simp -implicitDefEqProofs (disch := first | omega | (simp only [go_sem, List.size_toArray, List.length_cons, List.length_nil, Nat.reduceAdd]; done)) only [go_sem, Int.reduceLT, Int.reduceLE, Int.reduceEq, reduceIte, e1', hat.int, h17, h1, bin_quo, hq, el, hsub, hrk']
      exact ⟨_, rfl, rfl, .refl h⟩
    have hrk' : ¬ (r.length : Int) < (k : Int) := by omega
    simp -implicitDefEqProofs (disch := first | omega | (simp only [go_sem, List.size_toArray, List.length_cons, List.length_nil, Nat.reduceAdd]; done)) only [go_sem, Int.reduceLT, Int.reduceLE, Int.reduceEq, reduceIte, e1', hat.int, h17, h1, bin_quo, hq, el, hsub, hrk']
    have hrok : ∀ x ∈ r, 0 ≤ x ∧ x ≤ 255 := fun x hx => hok x (by simp [hx])
    refine xloop (σ := Nat) (by kernel_rfl) (fun i s => s.df = [] ∧ s.h = h ∧ s.fr 0 = some b ∧ s.fr 5 = some (.int .i64 k) ∧ s.fr 7 = some (.int .i64 i) ∧ i ≤ k ∧ s.fr 6 = some (.int .u64 (leI ((r.take k).drop i)))) (fun i => i) k ?_ ?_
    · simp -implicitDefEqProofs (disch := first | omega | (simp only [go_sem, List.size_toArray, List.length_cons, List.length_nil, Nat.reduceAdd]; done)) only [go_sem, Int.reduceLT, Int.reduceLE, Int.reduceEq, reduceIte]
      refine ⟨by trivial, by trivial, by trivial, by trivial, by trivial, Nat.le_refl _, ?_⟩
      rw [List.drop_of_length_le (by simp; omega)]; rfl
    · rintro i ⟨fr, df, hh, rd⟩ K hK hX ⟨rfl, rfl, h0, h5, h7, hi, h6⟩
      simp only at h0 h5 h7 h6
      simp -implicitDefEqProofs (disch := first | omega | (simp only [go_sem, List.size_toArray, List.length_cons, List.length_nil, Nat.reduceAdd]; done)) only [go_sem, Int.reduceLT, Int.reduceLE, Int.reduceEq, reduceIte, h0, h5, h6, h7]
      refine XIf_dec (fun hc1 => ?_) (fun hc1 => ?_)
      · obtain ⟨j, rfl⟩ : ∃ j, i = j + 1 := ⟨i - 1, by omega⟩
        have hj : j < r.length := by omega
        obtain ⟨id2, o2, e2, _, hat2⟩ := hb.idx (P := Try.prog) (t := 22) el_22 (k := .i64) (i := j + 1) (x := r[j]) (by simp)
        have hst := stepLe (r := r) (i := j) (k := k) (by omega) (by omega)
        have hb1 := leI_bound 7 ((r.take k).drop (j + 1)) (fun x hx => hrok x (List.mem_of_mem_take (List.mem_of_mem_drop hx))) (by simp; omega)
        have hbj := hrok r[j] (List.getElem_mem hj)
        have hw : IntKind.u64.wrap (IntKind.u64.wrap (256 * leI ((r.take k).drop (j + 1))) + IntKind.u64.wrap r[j]) = leI ((r.take k).drop j) := by
          rw [hst, wrap_u64, wrap_u64, wrap_u64]; omega
        have hw2 : IntKind.i64.wrap (((j + 1 : Nat) : Int) - 1) = (j : Int) := by rw [wrap_i64_in (by omega) (by omega)]; omega
        simp -implicitDefEqProofs (disch := first | omega | (simp only [go_sem, List.size_toArray, List.length_cons, List.length_nil, Nat.reduceAdd]; done)) only [go_sem, Int.reduceLT, Int.reduceLE, Int.reduceEq, reduceIte, h0, h5, h6, h7, e2, hat2.int, hw, hw2]
        refine hK j _ ?_ (by omega)
        exact ⟨by trivial, by trivial, by simp -implicitDefEqProofs (disch := first | omega | (simp only [go_sem, List.size_toArray, List.length_cons, List.length_nil, Nat.reduceAdd]; done)) only [go_sem, Int.reduceLT, Int.reduceLE, Int.reduceEq, reduceIte, h0], by simp -implicitDefEqProofs (disch := first | omega | (simp only [go_sem, List.size_toArray, List.length_cons, List.length_nil, Nat.reduceAdd]; done)) only [go_sem, Int.reduceLT, Int.reduceLE, Int.reduceEq, reduceIte, h5], by simp -implicitDefEqProofs (disch := first | omega | (simp only [go_sem, List.size_toArray, List.length_cons, List.length_nil, Nat.reduceAdd]; done)) only [go_sem, Int.reduceLT, Int.reduceLE, Int.reduceEq, reduceIte], by omega, by simp -implicitDefEqProofs (disch := first | omega | (simp only [go_sem, List.size_toArray, List.length_cons, List.length_nil, Nat.reduceAdd]; done)) only [go_sem, Int.reduceLT, Int.reduceLE, Int.reduceEq, reduceIte]⟩
      · obtain rfl : i = 0 := by omega
        rw [List.drop_zero] at h6
        refine hX _ _ (by simp) ?_
        have hub := leI_bound 8 (r.take k) (fun x hx => hrok x (List.mem_of_mem_take hx)) (by simp; omega)
        obtain ⟨u, hu⟩ : ∃ u, leI (r.take k) = u := ⟨_, rfl⟩
        rw [hu] at h6 hub
        have hrem : c.tmod 2 = c % 2 := Int.tmod_eq_emod_of_nonneg hc.1
        by_cases hn : 0 < k ∧ r[k - 1]? = some 0
        · obtain ⟨id2, o2, e2, _, hat2⟩ := hb.idx (P := Try.prog) (t := 22) el_22 (k := .i64) (i := k) (x := 0) (by
            rw [show k = k - 1 + 1 by omega, List.getElem?_cons_succ]; exact hn.2)
          rw [takeI_nought hk h17 h1 hrk hn]
          have hk0 : 0 < (k : Int) := by omega
          simp -implicitDefEqProofs (disch := first | omega | (simp only [go_sem, List.size_toArray, List.length_cons, List.length_nil, Nat.reduceAdd]; done)) only [go_sem, Int.reduceLT, Int.reduceLE, Int.reduceEq, reduceIte, h0, h5, h6, h7, hk0, e2, hat2.int]
          exact ⟨_, rfl, rfl, .refl hh⟩
        · have hkw : IntKind.i64.wrap (1 + (k : Int)) = (k : Int) + 1 := by rw [wrap_i64_in (by omega) (by omega)]; omega
          have hcase : k = 0 ∨ ∃ x, r[k - 1]? = some x ∧ ¬ x = 0 ∧ 0 < k := by
            by_cases hk0 : k = 0
            · exact .inl hk0
            · have hlt : k - 1 < r.length := by omega
              refine .inr ⟨r[k - 1], get_of_lt hlt, fun hx => hn ⟨by omega, by rw [get_of_lt hlt, hx]⟩, by omega⟩
          have hv : u ≤ 9223372036854775808 → IntKind.i64.wrap (IntKind.i64.wrap (0 - IntKind.i64.wrap (IntKind.u64.wrap (u - 1))) - 1) = - u := by
            intro hu2
            by_cases hu0 : u = 0
            · subst hu0; decide
            · rw [wrap_u64, show (u - 1) % 18446744073709551616 = u - 1 by omega, wrap_i64_in (n := u - 1) (by omega) (by omega), wrap_i64_in (n := 0 - (u - 1)) (by omega) (by omega), wrap_i64_in (by omega) (by omega)]; omega
          rcases hcase with hk0 | ⟨x, hx, hx0, hk0⟩
          · have hk0' : ¬ 0 < (k : Int) := by omega
            by_cases hp : c % 2 = 0
            · by_cases hw : 9223372036854775808 ≤ u
              · rw [takeI_wide hk h17 h1 hrk hn (by rw [hu]; omega)]
                simp -implicitDefEqProofs (disch := first | omega | (simp only [go_sem, List.size_toArray, List.length_cons, List.length_nil, Nat.reduceAdd]; done)) only [go_sem, Int.reduceLT, Int.reduceLE, Int.reduceEq, reduceIte, h0, h5, h6, h7, hk0', e1', hat.int, bin_rem, hrem, hp, hw]
                exact ⟨_, rfl, rfl, .refl hh⟩
              · rw [takeI_ok hk h17 h1 hrk hn (by rw [hu]; omega), hu, if_neg (by omega)]
                simp -implicitDefEqProofs (disch := first | omega | (simp only [go_sem, List.size_toArray, List.length_cons, List.length_nil, Nat.reduceAdd]; done)) only [go_sem, Int.reduceLT, Int.reduceLE, Int.reduceEq, reduceIte, h0, h5, h6, h7, hk0', e1', hat.int, bin_rem, hrem, hp, hw, hkw, wrap_i64_in (n := u) (by omega) (by omega)]
                exact ⟨_, rfl, rfl, .refl hh⟩
            · by_cases hw : 9223372036854775808 < u
              · rw [takeI_wide hk h17 h1 hrk hn (by rw [hu]; omega)]
                simp -implicitDefEqProofs (disch := first | omega | (simp only [go_sem, List.size_toArray, List.length_cons, List.length_nil, Nat.reduceAdd]; done)) only [go_sem, Int.reduceLT, Int.reduceLE, Int.reduceEq, reduceIte, h0, h5, h6, h7, hk0', e1', hat.int, bin_rem, hrem, hp, hw]
                exact ⟨_, rfl, rfl, .refl hh⟩
              · rw [takeI_ok hk h17 h1 hrk hn (by rw [hu]; omega), hu, if_pos (by omega)]
                simp -implicitDefEqProofs (disch := first | omega | (simp only [go_sem, List.size_toArray, List.length_cons, List.length_nil, Nat.reduceAdd]; done)) only [go_sem, Int.reduceLT, Int.reduceLE, Int.reduceEq, reduceIte, h0, h5, h6, h7, hk0', e1', hat.int, bin_rem, hrem, hp, hw, hkw, hv (by omega)]
                exact ⟨_, rfl, rfl, .refl hh⟩
          · have hk0' : 0 < (k : Int) := by omega
            obtain ⟨id2, o2, e2, _, hat2⟩ := hb.idx (P := Try.prog) (t := 22) el_22 (k := .i64) (i := k) (x := x) (by
              rw [show k = k - 1 + 1 by omega, List.getElem?_cons_succ]; exact hx)
            by_cases hp : c % 2 = 0
            · by_cases hw : 9223372036854775808 ≤ u
              · rw [takeI_wide hk h17 h1 hrk hn (by rw [hu]; omega)]
                simp -implicitDefEqProofs (disch := first | omega | (simp only [go_sem, List.size_toArray, List.length_cons, List.length_nil, Nat.reduceAdd]; done)) only [go_sem, Int.reduceLT, Int.reduceLE, Int.reduceEq, reduceIte, h0, h5, h6, h7, hk0', e2, hat2.int, hx0, e1', hat.int, bin_rem, hrem, hp, hw]
                exact ⟨_, rfl, rfl, .refl hh⟩
              · rw [takeI_ok hk h17 h1 hrk hn (by rw [hu]; omega), hu, if_neg (by omega)]
                simp -implicitDefEqProofs (disch := first | omega | (simp only [go_sem, List.size_toArray, List.length_cons, List.length_nil, Nat.reduceAdd]; done)) only [go_sem, Int.reduceLT, Int.reduceLE, Int.reduceEq, reduceIte, h0, h5, h6, h7, hk0', e2, hat2.int, hx0, e1', hat.int, bin_rem, hrem, hp, hw, hkw, wrap_i64_in (n := u) (by omega) (by omega)]
                exact ⟨_, rfl, rfl, .refl hh⟩
            · by_cases hw : 9223372036854775808 < u
              · rw [takeI_wide hk h17 h1 hrk hn (by rw [hu]; omega)]
                simp -implicitDefEqProofs (disch := first | omega | (simp only [go_sem, List.size_toArray, List.length_cons, List.length_nil, Nat.reduceAdd]; done)) only [go_sem, Int.reduceLT, Int.reduceLE, Int.reduceEq, reduceIte, h0, h5, h6, h7, hk0', e2, hat2.int, hx0, e1', hat.int, bin_rem, hrem, hp, hw]
                exact ⟨_, rfl, rfl, .refl hh⟩
              · rw [takeI_ok hk h17 h1 hrk hn (by rw [hu]; omega), hu, if_pos (by omega)]
                simp -implicitDefEqProofs (disch := first | omega | (simp only [go_sem, List.size_toArray, List.length_cons, List.length_nil, Nat.reduceAdd]; done)) only [go_sem, Int.reduceLT, Int.reduceLE, Int.reduceEq, reduceIte, h0, h5, h6, h7, hk0', e2, hat2.int, hx0, e1', hat.int, bin_rem, hrem, hp, hw, hkw, hv (by omega)]
                exact ⟨_, rfl, rfl, .refl hh⟩
end Go.Proofs.Ytlhgijpdhniddaa

namespace Go.Proofs.Ytlhgijpdhniddaa
open Go.D
set_option maxRecDepth 100000

/-- what gives up with an error -/
def wrongV (e : Int) : Value := .iface 118 (.agg #[.int .i64 e])
theorem wrongV_vin {S : Nat → Prop} (e : Int) : VIn S (wrongV e) := .iface (.agg fun v hv => by simp at hv; subst hv; exact .int _ _)
theorem bd_wrong (e : Int) : dBuild Try.prog 118 [(0, .int .i64 e)] = some (.agg #[.int .i64 e]) := dBuild_at plc_118 rfl
theorem give_no {h : DHeap} (e : Int) : DC Try.prog 85 [.bool false, .int .i64 e] h (.ret (.tuple #[])) h := by
  refine Ct.pure (go_85 (by simp) ?_) (.tuple fun v hv => by simp at hv)
  simp -implicitDefEqProofs (disch := first | omega | (simp only [go_sem, List.size_toArray, List.length_cons, List.length_nil, Nat.reduceAdd]; done)) only [go_sem, Int.reduceLT, Int.reduceLE, Int.reduceEq, reduceIte, c85]
  exact ⟨_, rfl, rfl, .refl h⟩
theorem give_yes {h : DHeap} (e : Int) : DC Try.prog 85 [.bool true, .int .i64 e] h (.pan (wrongV e)) h := by
  refine Ct.purePan (go_85 (by simp) ?_) (wrongV_vin e)
  simp -implicitDefEqProofs (disch := first | omega | (simp only [go_sem, List.size_toArray, List.length_cons, List.length_nil, Nat.reduceAdd]; done)) only [go_sem, Int.reduceLT, Int.reduceLE, Int.reduceEq, reduceIte, c85, bd_wrong]
  exact ⟨rfl, .refl h⟩

theorem orBytes {a c : Int} (ha : 0 ≤ a) (ha2 : a < 72057594037927936) (hc : 0 ≤ c) (hc2 : c ≤ 255) :
    IntKind.u64.wrap (((BitVec.ofInt 64 (IntKind.u64.wrap (a * 256)) ||| BitVec.ofInt 64 (IntKind.u64.wrap c)).toNat : Nat) : Int) = c + 256 * a := by
  obtain ⟨m, rfl⟩ := Int.eq_ofNat_of_zero_le ha
  obtain ⟨n, rfl⟩ := Int.eq_ofNat_of_zero_le hc
  have h1 : IntKind.u64.wrap ((m : Int) * 256) = ((m * 256 : Nat) : Int) := by rw [wrap_u64]; omega
  have h2 : IntKind.u64.wrap (n : Int) = (n : Int) := by rw [wrap_u64]; omega
  rw [h1, h2]
  have h3 : (BitVec.ofInt 64 ((m * 256 : Nat) : Int)).toNat = m * 256 := by
    rw [BitVec.ofInt_natCast, BitVec.toNat_ofNat]; omega
  have h4 : (BitVec.ofInt 64 (n : Int)).toNat = n := by
    rw [BitVec.ofInt_natCast, BitVec.toNat_ofNat]; omega
  rw [BitVec.toNat_or, h3, h4]
  have h5 : m * 256 ||| n = m * 256 + n := by
    have := Nat.shiftLeft_add_eq_or_of_lt (show n < 2 ^ 8 by omega) m
    rw [Nat.shiftLeft_eq] at this
    exact this.symm
  rw [h5, wrap_u64]; omega

/-- as it is told by those who give up -/
def takeEnd (l : List Int) : DEnd := if (takeI l).2.2 = 0 then .ret (.tuple #[.int .i64 (takeI l).1, .int .i64 (takeI l).2.1]) else .pan (wrongV (takeI l).2.2)

theorem negWrap {u : Int} (h0 : 0 ≤ u) (h1 : u ≤ 9223372036854775808) : IntKind.i64.wrap (IntKind.u64.wrap (0 - u)) = - u := by
  by_cases hu0 : u = 0
  · subst hu0; decide
  · rw [wrap_u64, show (0 - u) % 18446744073709551616 = 18446744073709551616 - u by omega]
    have hx : ∀ n : Int, IntKind.i64.wrap n = if n % 18446744073709551616 ≥ 9223372036854775808 then n % 18446744073709551616 - 18446744073709551616 else n % 18446744073709551616 := by
      intro n
      simp [IntKind.wrap, IntKind.signed, IntKind.bits]
    rw [hx]
    split <;> omega
theorem takeEnd_vin {S : Nat → Prop} (l : List Int) : EndIn S (takeEnd l) := by
  by_cases h0 : (takeI l).2.2 = 0
  · simp only [takeEnd, h0, if_true]; exact vin_ints _ _ _ _
  · simp only [takeEnd, h0, if_false]; exact wrongV_vin _
theorem take_c {h : DHeap} {b : Value} {l : List Int} (hb : Arg fU8.rep h b l) (hlen : l.length ≤ 4294967296) :
    DC Try.prog 78 [b] h (takeEnd l) h := by
  have hok : ∀ x ∈ l, 0 ≤ x ∧ x ≤ 255 := fun x hx => inK_u8.1 (hb.ok x hx)
  refine Ct.pureEnd (go_78 (by simp) ?_) (takeEnd_vin l)
  have el := hb.dLen (P := Try.prog) (ts := #[22]) (t := 22) rfl isl_22
  have pan : ∀ {e : Int} {n k : Int}, takeI l = (n, k, e) → e ≠ 0 → takeEnd l = .pan (wrongV e) := by
    intro e n k hh he
    unfold takeEnd; rw [hh, if_neg he]
  simp -implicitDefEqProofs (disch := first | omega | (simp only [go_sem, List.size_toArray, List.length_cons, List.length_nil, Nat.reduceAdd]; done)) only [go_sem, Int.reduceLT, Int.reduceLE, Int.reduceEq, reduceIte, c78, el]
  cases l with
  | nil =>
    simp -implicitDefEqProofs (disch := first | omega | (simp only [go_sem, List.size_toArray, List.length_cons, List.length_nil, Nat.reduceAdd]; done)) only [go_sem, Int.reduceLT, Int.reduceLE, Int.reduceEq, reduceIte, List.length_nil, Int.natCast_zero]
    refine ncall_pan (give_yes _) ?_
    simp -implicitDefEqProofs (disch := first | omega | (simp only [go_sem, List.size_toArray, List.length_cons, List.length_nil, Nat.reduceAdd]; done)) only [go_sem, Int.reduceLT, Int.reduceLE, Int.reduceEq, reduceIte]
    exact ⟨(pan (e := 10) rfl (by decide)).symm, .refl h⟩
  | cons c r =>
    have hc := hok c (by simp)
    have hl0 : ¬ (((c :: r).length : Int) = 0) := by simp; omega
    obtain ⟨id, o, e1, _, hat⟩ := hb.idx (P := Try.prog) (t := 22) el_22 (k := .i64) (i := 0) (x := c) rfl
    have e1' : dIndexAddr Try.prog 22 b (.int .i64 0) = some (.pointer (some ⟨id, o, none⟩)) := e1
    obtain ⟨k, hk⟩ : ∃ k : Nat, (c / 2).toNat = k := ⟨_, rfl⟩
    have hkc : (k : Int) = c / 2 := by omega
    have hq : IntKind.i64.wrap (IntKind.u8.wrap (c.tdiv 2)) = (k : Int) := by
      rw [Int.tdiv_eq_ediv_of_nonneg hc.1, wrap_u8, wrap_i64_in (by omega) (by omega)]; omega
    simp -implicitDefEqProofs (disch := first | omega | (simp only [go_sem, List.size_toArray, List.length_cons, List.length_nil, Nat.reduceAdd]; done)) only [go_sem, Int.reduceLT, Int.reduceLE, Int.reduceEq, reduceIte, hl0]
    refine ncall (give_no _) ?_
    by_cases h17 : 17 < c
    · simp -implicitDefEqProofs (disch := first | omega | (simp only [go_sem, List.size_toArray, List.length_cons, List.length_nil, Nat.reduceAdd]; done)) only [go_sem, Int.reduceLT, Int.reduceLE, Int.reduceEq, reduceIte, e1', hat.int, h17]
      refine ncall_pan (give_yes _) ?_
      simp -implicitDefEqProofs (disch := first | omega | (simp only [go_sem, List.size_toArray, List.length_cons, List.length_nil, Nat.reduceAdd]; done)) only [go_sem, Int.reduceLT, Int.reduceLE, Int.reduceEq, reduceIte]
      exact ⟨(pan (takeI_form hc (.inl h17)) (by decide)).symm, .refl h⟩
    by_cases h1 : c = 1
    · subst h1
      simp -implicitDefEqProofs (disch := first | omega | (simp only [go_sem, List.size_toArray, List.length_cons, List.length_nil, Nat.reduceAdd]; done)) only [go_sem, Int.reduceLT, Int.reduceLE, Int.reduceEq, reduceIte, e1', hat.int]
      refine ncall_pan (give_yes _) ?_
      simp -implicitDefEqProofs (disch := first | omega | (simp only [go_sem, List.size_toArray, List.length_cons, List.length_nil, Nat.reduceAdd]; done)) only [go_sem, Int.reduceLT, Int.reduceLE, Int.reduceEq, reduceIte]
      exact ⟨(pan (takeI_form hc (.inr rfl)) (by decide)).symm, .refl h⟩
    simp -implicitDefEqProofs (disch := first | omega | (simp only [go_sem, List.size_toArray, List.length_cons, List.length_nil, Nat.reduceAdd]; done)) only [go_sem, Int.reduceLT, Int.reduceLE, Int.reduceEq, reduceIte, e1', hat.int, h17, h1]
    refine ncall (give_no _) ?_
    have hk8 : k ≤ 8 := by omega
    by_cases hrk : r.length < k
    · have hrk' : (((c :: r).length : Nat) : Int) ≤ (k : Int) := by simp; omega
      simp -implicitDefEqProofs (disch := first | omega | (simp only [go_sem, List.size_toArray, List.length_cons, List.length_nil, Nat.reduceAdd]; done)) only [go_sem, Int.reduceLT, Int.reduceLE, Int.reduceEq, reduceIte, e1', hat.int, bin_quo, hq, el, hrk']
      refine ncall_pan (give_yes _) ?_
      simp -implicitDefEqProofs (disch := first | omega | (simp only [go_sem, List.size_toArray, List.length_cons, List.length_nil, Nat.reduceAdd]; done)) only [go_sem, Int.reduceLT, Int.reduceLE, Int.reduceEq, reduceIte]
      exact ⟨(pan (takeI_ends hk h17 h1 hrk) (by decide)).symm, .refl h⟩
    have hrk' : ¬ (((c :: r).length : Nat) : Int) ≤ (k : Int) := by simp; omega
    simp -implicitDefEqProofs (disch := first | omega | (simp only [go_sem, List.size_toArray, List.length_cons, List.length_nil, Nat.reduceAdd]; done)) only [go_sem, Int.reduceLT, Int.reduceLE, Int.reduceEq, reduceIte, e1', hat.int, bin_quo, hq, el, hrk']
    refine ncall (give_no _) ?_
    have hrok : ∀ x ∈ r, 0 ≤ x ∧ x ≤ 255 := fun x hx => hok x (by simp [hx])
    by_cases hn : 0 < k ∧ r[k - 1]? = some 0
    · obtain ⟨id2, o2, e2, _, hat2⟩ := hb.idx (P := Try.prog) (t := 22) el_22 (k := .i64) (i := k) (x := 0) (by
        rw [show k = k - 1 + 1 by omega, List.getElem?_cons_succ]; exact hn.2)
      have hk0 : 0 < (k : Int) := by omega
      simp -implicitDefEqProofs (disch := first | omega | (simp only [go_sem, List.size_toArray, List.length_cons, List.length_nil, Nat.reduceAdd]; done)) only [go_sem, Int.reduceLT, Int.reduceLE, Int.reduceEq, reduceIte, hk0, e2, hat2.int]
      refine ncall_pan (give_yes _) ?_
      simp -implicitDefEqProofs (disch := first | omega | (simp only [go_sem, List.size_toArray, List.length_cons, List.length_nil, Nat.reduceAdd]; done)) only [go_sem, Int.reduceLT, Int.reduceLE, Int.reduceEq, reduceIte]
      exact ⟨(pan (takeI_nought hk h17 h1 hrk hn) (by decide)).symm, .refl h⟩
    have hcase : k = 0 ∨ ∃ x, r[k - 1]? = some x ∧ ¬ x = 0 ∧ 0 < k := by
      by_cases hk0 : k = 0
      · exact .inl hk0
      · have hlt : k - 1 < r.length := by omega
        refine .inr ⟨r[k - 1], get_of_lt hlt, fun hx => hn ⟨by omega, by rw [get_of_lt hlt, hx]⟩, by omega⟩
    rcases hcase with hk0 | ⟨x, hx, hx0, hk0⟩
    · have hk0' : ¬ 0 < (k : Int) := by omega
      simp -implicitDefEqProofs (disch := first | omega | (simp only [go_sem, List.size_toArray, List.length_cons, List.length_nil, Nat.reduceAdd]; done)) only [go_sem, Int.reduceLT, Int.reduceLE, Int.reduceEq, reduceIte, hk0']
      refine ncall (give_no _) ?_
      simp -implicitDefEqProofs (disch := first | omega | (simp only [go_sem, List.size_toArray, List.length_cons, List.length_nil, Nat.reduceAdd]; done)) only [go_sem, Int.reduceLT, Int.reduceLE, Int.reduceEq, reduceIte]
      refine xloop (σ := Nat) (by kernel_rfl) (fun i s => s.df = [] ∧ s.h = h ∧ s.fr 0 = some b ∧ s.fr 4 = some (.int .i64 k) ∧ s.fr 6 = some (.int .i64 i) ∧ i ≤ k ∧ s.fr 5 = some (.int .u64 (leI ((r.take k).drop i)))) (fun i => i) k ?_ ?_
      · simp -implicitDefEqProofs (disch := first | omega | (simp only [go_sem, List.size_toArray, List.length_cons, List.length_nil, Nat.reduceAdd]; done)) only [go_sem, Int.reduceLT, Int.reduceLE, Int.reduceEq, reduceIte]
        refine ⟨by trivial, by trivial, by trivial, by trivial, by trivial, Nat.le_refl _, ?_⟩
        rw [List.drop_of_length_le (by simp; omega)]; rfl
      · rintro i ⟨fr, df, hh, rd⟩ K hK hX ⟨rfl, rfl, h0, h5, h7, hi, h6⟩
        simp only at h0 h5 h7 h6
        simp -implicitDefEqProofs (disch := first | omega | (simp only [go_sem, List.size_toArray, List.length_cons, List.length_nil, Nat.reduceAdd]; done)) only [go_sem, Int.reduceLT, Int.reduceLE, Int.reduceEq, reduceIte, h0, h5, h6, h7]
        refine XIf_dec (fun hc1 => ?_) (fun hc1 => ?_)
        · obtain ⟨j, rfl⟩ : ∃ j, i = j + 1 := ⟨i - 1, by omega⟩
          have hj : j < r.length := by omega
          obtain ⟨id2, o2, e2, _, hat2⟩ := hb.idx (P := Try.prog) (t := 22) el_22 (k := .i64) (i := j + 1) (x := r[j]) (by simp)
          have hst := stepLe (r := r) (i := j) (k := k) (by omega) (by omega)
          have hb1 := leI_bound 7 ((r.take k).drop (j + 1)) (fun x hx => hrok x (List.mem_of_mem_take (List.mem_of_mem_drop hx))) (by simp; omega)
          have hbj := hrok r[j] (List.getElem_mem hj)
          have hw := orBytes hb1.1 (by omega) hbj.1 hbj.2
          rw [← hst] at hw
          have hsh : (2 : Int) ^ min (Int.toNat 8) 64 = 256 := by decide
          have hw2 : IntKind.i64.wrap (((j + 1 : Nat) : Int) - 1) = (j : Int) := by rw [wrap_i64_in (by omega) (by omega)]; omega
          simp -implicitDefEqProofs (disch := first | omega | (simp only [go_sem, List.size_toArray, List.length_cons, List.length_nil, Nat.reduceAdd]; done)) only [go_sem, Int.reduceLT, Int.reduceLE, Int.reduceEq, reduceIte, h0, h5, h6, h7, e2, hat2.int, bin_shl, hsh, hw, hw2]
          refine hK j _ ?_ (by omega)
          refine ⟨by trivial, by trivial, by simp -implicitDefEqProofs (disch := first | omega | (simp only [go_sem, List.size_toArray, List.length_cons, List.length_nil, Nat.reduceAdd]; done)) only [go_sem, Int.reduceLT, Int.reduceLE, Int.reduceEq, reduceIte, h0], by simp -implicitDefEqProofs (disch := first | omega | (simp only [go_sem, List.size_toArray, List.length_cons, List.length_nil, Nat.reduceAdd]; done)) only [go_sem, Int.reduceLT, Int.reduceLE, Int.reduceEq, reduceIte, h5], by simp -implicitDefEqProofs (disch := first | omega | (simp only [go_sem, List.size_toArray, List.length_cons, List.length_nil, Nat.reduceAdd]; done)) only [go_sem, Int.reduceLT, Int.reduceLE, Int.reduceEq, reduceIte], by omega, ?_⟩
          simp -implicitDefEqProofs (disch := first | omega | (simp only [go_sem, List.size_toArray, List.length_cons, List.length_nil, Nat.reduceAdd]; done)) only [go_sem, Int.reduceLT, Int.reduceLE, Int.reduceEq, reduceIte]
          exact congrArg (fun z => some (Value.int IntKind.u64 z)) hw
        · obtain rfl : i = 0 := by omega
          rw [List.drop_zero] at h6
          refine hX _ _ (by simp) ?_
          have hub := leI_bound 8 (r.take k) (fun x hx => hrok x (List.mem_of_mem_take hx)) (by simp; omega)
          obtain ⟨u, hu⟩ : ∃ u, leI (r.take k) = u := ⟨_, rfl⟩
          rw [hu] at h6 hub
          have hrem : c.tmod 2 = c % 2 := Int.tmod_eq_emod_of_nonneg hc.1
          have hkw : IntKind.i64.wrap ((k : Int) + 1) = (k : Int) + 1 := by rw [wrap_i64_in (by omega) (by omega)]
          by_cases hw : 9223372036854775808 < u
          · simp -implicitDefEqProofs (disch := first | omega | (simp only [go_sem, List.size_toArray, List.length_cons, List.length_nil, Nat.reduceAdd]; done)) only [go_sem, Int.reduceLT, Int.reduceLE, Int.reduceEq, reduceIte, h0, h5, h6, h7, e1', hat.int, bin_rem, hrem, hw]
            refine ncall_pan (give_yes _) ?_
            simp -implicitDefEqProofs (disch := first | omega | (simp only [go_sem, List.size_toArray, List.length_cons, List.length_nil, Nat.reduceAdd]; done)) only [go_sem, Int.reduceLT, Int.reduceLE, Int.reduceEq, reduceIte]
            exact ⟨(pan (takeI_wide hk h17 h1 hrk hn (by rw [hu]; omega)) (by decide)).symm, .refl hh⟩
          by_cases hp : c % 2 = 1
          · have hte : takeEnd (c :: r) = .ret (.tuple #[.int .i64 (- u), .int .i64 ((k : Int) + 1)]) := by
              unfold takeEnd; rw [takeI_ok hk h17 h1 hrk hn (by rw [hu]; omega), hu, if_pos hp, if_pos rfl]
            have hv := negWrap (u := u) (by omega) (by omega)
            rw [hte]
            by_cases hue : u = 9223372036854775808
            · simp -implicitDefEqProofs (disch := first | omega | (simp only [go_sem, List.size_toArray, List.length_cons, List.length_nil, Nat.reduceAdd]; done)) only [go_sem, Int.reduceLT, Int.reduceLE, Int.reduceEq, reduceIte, h0, h5, h6, h7, e1', hat.int, bin_rem, hrem, hw, hp, hue]
              refine ncall (give_no _) ?_
              rw [← hue]
              simp -implicitDefEqProofs (disch := first | omega | (simp only [go_sem, List.size_toArray, List.length_cons, List.length_nil, Nat.reduceAdd]; done)) only [go_sem, Int.reduceLT, Int.reduceLE, Int.reduceEq, reduceIte, h0, h5, h6, h7, hv, hkw]
              exact ⟨_, rfl, rfl, .refl hh⟩
            · simp -implicitDefEqProofs (disch := first | omega | (simp only [go_sem, List.size_toArray, List.length_cons, List.length_nil, Nat.reduceAdd]; done)) only [go_sem, Int.reduceLT, Int.reduceLE, Int.reduceEq, reduceIte, h0, h5, h6, h7, e1', hat.int, bin_rem, hrem, hw, hp, hue]
              refine ncall (give_no _) ?_
              simp -implicitDefEqProofs (disch := first | omega | (simp only [go_sem, List.size_toArray, List.length_cons, List.length_nil, Nat.reduceAdd]; done)) only [go_sem, Int.reduceLT, Int.reduceLE, Int.reduceEq, reduceIte, h0, h5, h6, h7, hv, hkw]
              exact ⟨_, rfl, rfl, .refl hh⟩
          · by_cases hue : u = 9223372036854775808
            · simp -implicitDefEqProofs (disch := first | omega | (simp only [go_sem, List.size_toArray, List.length_cons, List.length_nil, Nat.reduceAdd]; done)) only [go_sem, Int.reduceLT, Int.reduceLE, Int.reduceEq, reduceIte, h0, h5, h6, h7, e1', hat.int, bin_rem, hrem, hw, hp, hue]
              refine ncall_pan (give_yes _) ?_
              simp -implicitDefEqProofs (disch := first | omega | (simp only [go_sem, List.size_toArray, List.length_cons, List.length_nil, Nat.reduceAdd]; done)) only [go_sem, Int.reduceLT, Int.reduceLE, Int.reduceEq, reduceIte]
              exact ⟨(pan (takeI_wide hk h17 h1 hrk hn (by rw [hu]; omega)) (by decide)).symm, .refl hh⟩
            · have hte : takeEnd (c :: r) = .ret (.tuple #[.int .i64 u, .int .i64 ((k : Int) + 1)]) := by
                unfold takeEnd; rw [takeI_ok hk h17 h1 hrk hn (by rw [hu]; omega), hu, if_neg hp, if_pos rfl]
              rw [hte]
              simp -implicitDefEqProofs (disch := first | omega | (simp only [go_sem, List.size_toArray, List.length_cons, List.length_nil, Nat.reduceAdd]; done)) only [go_sem, Int.reduceLT, Int.reduceLE, Int.reduceEq, reduceIte, h0, h5, h6, h7, e1', hat.int, bin_rem, hrem, hw, hp, hue]
              refine ncall (give_no _) ?_
              simp -implicitDefEqProofs (disch := first | omega | (simp only [go_sem, List.size_toArray, List.length_cons, List.length_nil, Nat.reduceAdd]; done)) only [go_sem, Int.reduceLT, Int.reduceLE, Int.reduceEq, reduceIte, h0, h5, h6, h7, wrap_i64_in (n := u) (by omega) (by omega), hkw]
              exact ⟨_, rfl, rfl, .refl hh⟩
    · have hk0' : 0 < (k : Int) := by omega
      obtain ⟨id2, o2, e2, _, hat2⟩ := hb.idx (P := Try.prog) (t := 22) el_22 (k := .i64) (i := k) (x := x) (by
        rw [show k = k - 1 + 1 by omega, List.getElem?_cons_succ]; exact hx)
      simp -implicitDefEqProofs (disch := first | omega | (simp only [go_sem, List.size_toArray, List.length_cons, List.length_nil, Nat.reduceAdd]; done)) only [go_sem, Int.reduceLT, Int.reduceLE, Int.reduceEq, reduceIte, hk0', e2, hat2.int, hx0]
      refine ncall (give_no _) ?_
      simp -implicitDefEqProofs (disch := first | omega | (simp only [go_sem, List.size_toArray, List.length_cons, List.length_nil, Nat.reduceAdd]; done)) only [go_sem, Int.reduceLT, Int.reduceLE, Int.reduceEq, reduceIte]
      refine xloop (σ := Nat) (by kernel_rfl) (fun i s => s.df = [] ∧ s.h = h ∧ s.fr 0 = some b ∧ s.fr 4 = some (.int .i64 k) ∧ s.fr 6 = some (.int .i64 i) ∧ i ≤ k ∧ s.fr 5 = some (.int .u64 (leI ((r.take k).drop i)))) (fun i => i) k ?_ ?_
      · simp -implicitDefEqProofs (disch := first | omega | (simp only [go_sem, List.size_toArray, List.length_cons, List.length_nil, Nat.reduceAdd]; done)) only [go_sem, Int.reduceLT, Int.reduceLE, Int.reduceEq, reduceIte]
        refine ⟨by trivial, by trivial, by trivial, by trivial, by trivial, Nat.le_refl _, ?_⟩
        rw [List.drop_of_length_le (by simp; omega)]; rfl
      · rintro i ⟨fr, df, hh, rd⟩ K hK hX ⟨rfl, rfl, h0, h5, h7, hi, h6⟩
        simp only at h0 h5 h7 h6
        simp -implicitDefEqProofs (disch := first | omega | (simp only [go_sem, List.size_toArray, List.length_cons, List.length_nil, Nat.reduceAdd]; done)) only [go_sem, Int.reduceLT, Int.reduceLE, Int.reduceEq, reduceIte, h0, h5, h6, h7]
        refine XIf_dec (fun hc1 => ?_) (fun hc1 => ?_)
        · obtain ⟨j, rfl⟩ : ∃ j, i = j + 1 := ⟨i - 1, by omega⟩
          have hj : j < r.length := by omega
          obtain ⟨id2, o2, e2, _, hat2⟩ := hb.idx (P := Try.prog) (t := 22) el_22 (k := .i64) (i := j + 1) (x := r[j]) (by simp)
          have hst := stepLe (r := r) (i := j) (k := k) (by omega) (by omega)
          have hb1 := leI_bound 7 ((r.take k).drop (j + 1)) (fun x hx => hrok x (List.mem_of_mem_take (List.mem_of_mem_drop hx))) (by simp; omega)
          have hbj := hrok r[j] (List.getElem_mem hj)
          have hw := orBytes hb1.1 (by omega) hbj.1 hbj.2
          rw [← hst] at hw
          have hsh : (2 : Int) ^ min (Int.toNat 8) 64 = 256 := by decide
          have hw2 : IntKind.i64.wrap (((j + 1 : Nat) : Int) - 1) = (j : Int) := by rw [wrap_i64_in (by omega) (by omega)]; omega
          simp -implicitDefEqProofs (disch := first | omega | (simp only [go_sem, List.size_toArray, List.length_cons, List.length_nil, Nat.reduceAdd]; done)) only [go_sem, Int.reduceLT, Int.reduceLE, Int.reduceEq, reduceIte, h0, h5, h6, h7, e2, hat2.int, bin_shl, hsh, hw, hw2]
          refine hK j _ ?_ (by omega)
          refine ⟨by trivial, by trivial, by simp -implicitDefEqProofs (disch := first | omega | (simp only [go_sem, List.size_toArray, List.length_cons, List.length_nil, Nat.reduceAdd]; done)) only [go_sem, Int.reduceLT, Int.reduceLE, Int.reduceEq, reduceIte, h0], by simp -implicitDefEqProofs (disch := first | omega | (simp only [go_sem, List.size_toArray, List.length_cons, List.length_nil, Nat.reduceAdd]; done)) only [go_sem, Int.reduceLT, Int.reduceLE, Int.reduceEq, reduceIte, h5], by simp -implicitDefEqProofs (disch := first | omega | (simp only [go_sem, List.size_toArray, List.length_cons, List.length_nil, Nat.reduceAdd]; done)) only [go_sem, Int.reduceLT, Int.reduceLE, Int.reduceEq, reduceIte], by omega, ?_⟩
          simp -implicitDefEqProofs (disch := first | omega | (simp only [go_sem, List.size_toArray, List.length_cons, List.length_nil, Nat.reduceAdd]; done)) only [go_sem, Int.reduceLT, Int.reduceLE, Int.reduceEq, reduceIte]
          exact congrArg (fun z => some (Value.int IntKind.u64 z)) hw
        · obtain rfl : i = 0 := by omega
          rw [List.drop_zero] at h6
          refine hX _ _ (by simp) ?_
          have hub := leI_bound 8 (r.take k) (fun x hx => hrok x (List.mem_of_mem_take hx)) (by simp; omega)
          obtain ⟨u, hu⟩ : ∃ u, leI (r.take k) = u := ⟨_, rfl⟩
          rw [hu] at h6 hub
          have hrem : c.tmod 2 = c % 2 := Int.tmod_eq_emod_of_nonneg hc.1
          have hkw : IntKind.i64.wrap ((k : Int) + 1) = (k : Int) + 1 := by rw [wrap_i64_in (by omega) (by omega)]
          by_cases hw : 9223372036854775808 < u
          · simp -implicitDefEqProofs (disch := first | omega | (simp only [go_sem, List.size_toArray, List.length_cons, List.length_nil, Nat.reduceAdd]; done)) only [go_sem, Int.reduceLT, Int.reduceLE, Int.reduceEq, reduceIte, h0, h5, h6, h7, e1', hat.int, bin_rem, hrem, hw]
            refine ncall_pan (give_yes _) ?_
            simp -implicitDefEqProofs (disch := first | omega | (simp only [go_sem, List.size_toArray, List.length_cons, List.length_nil, Nat.reduceAdd]; done)) only [go_sem, Int.reduceLT, Int.reduceLE, Int.reduceEq, reduceIte]
            exact ⟨(pan (takeI_wide hk h17 h1 hrk hn (by rw [hu]; omega)) (by decide)).symm, .refl hh⟩
          by_cases hp : c % 2 = 1
          · have hte : takeEnd (c :: r) = .ret (.tuple #[.int .i64 (- u), .int .i64 ((k : Int) + 1)]) := by
              unfold takeEnd; rw [takeI_ok hk h17 h1 hrk hn (by rw [hu]; omega), hu, if_pos hp, if_pos rfl]
            have hv := negWrap (u := u) (by omega) (by omega)
            rw [hte]
            by_cases hue : u = 9223372036854775808
            · simp -implicitDefEqProofs (disch := first | omega | (simp only [go_sem, List.size_toArray, List.length_cons, List.length_nil, Nat.reduceAdd]; done)) only [go_sem, Int.reduceLT, Int.reduceLE, Int.reduceEq, reduceIte, h0, h5, h6, h7, e1', hat.int, bin_rem, hrem, hw, hp, hue]
              refine ncall (give_no _) ?_
              rw [← hue]
              simp -implicitDefEqProofs (disch := first | omega | (simp only [go_sem, List.size_toArray, List.length_cons, List.length_nil, Nat.reduceAdd]; done)) only [go_sem, Int.reduceLT, Int.reduceLE, Int.reduceEq, reduceIte, h0, h5, h6, h7, hv, hkw]
              exact ⟨_, rfl, rfl, .refl hh⟩
            · simp -implicitDefEqProofs (disch := first | omega | (simp only [go_sem, List.size_toArray, List.length_cons, List.length_nil, Nat.reduceAdd]; done)) only [go_sem, Int.reduceLT, Int.reduceLE, Int.reduceEq, reduceIte, h0, h5, h6, h7, e1', hat.int, bin_rem, hrem, hw, hp, hue]
              refine ncall (give_no _) ?_
              simp -implicitDefEqProofs (disch := first | omega | (simp only [go_sem, List.size_toArray, List.length_cons, List.length_nil, Nat.reduceAdd]; done)) only [go_sem, Int.reduceLT, Int.reduceLE, Int.reduceEq, reduceIte, h0, h5, h6, h7, hv, hkw]
              exact ⟨_, rfl, rfl, .refl hh⟩
          · by_cases hue : u = 9223372036854775808
            · simp -implicitDefEqProofs (disch := first | omega | (simp only [go_sem, List.size_toArray, List.length_cons, List.length_nil, Nat.reduceAdd]; done)) only [go_sem, Int.reduceLT, Int.reduceLE, Int.reduceEq, reduceIte, h0, h5, h6, h7, e1', hat.int, bin_rem, hrem, hw, hp, hue]
              refine ncall_pan (give_yes _) ?_
              simp -implicitDefEqProofs (disch := first | omega | (simp only [go_sem, List.size_toArray, List.length_cons, List.length_nil, Nat.reduceAdd]; done)) only [go_sem, Int.reduceLT, Int.reduceLE, Int.reduceEq, reduceIte]
              exact ⟨(pan (takeI_wide hk h17 h1 hrk hn (by rw [hu]; omega)) (by decide)).symm, .refl hh⟩
            · have hte : takeEnd (c :: r) = .ret (.tuple #[.int .i64 u, .int .i64 ((k : Int) + 1)]) := by
                unfold takeEnd; rw [takeI_ok hk h17 h1 hrk hn (by rw [hu]; omega), hu, if_neg hp, if_pos rfl]
              rw [hte]
              simp -implicitDefEqProofs (disch := first | omega | (simp only [go_sem, List.size_toArray, List.length_cons, List.length_nil, Nat.reduceAdd]; done)) only [go_sem, Int.reduceLT, Int.reduceLE, Int.reduceEq, reduceIte, h0, h5, h6, h7, e1', hat.int, bin_rem, hrem, hw, hp, hue]
              refine ncall (give_no _) ?_
              simp -implicitDefEqProofs (disch := first | omega | (simp only [go_sem, List.size_toArray, List.length_cons, List.length_nil, Nat.reduceAdd]; done)) only [go_sem, Int.reduceLT, Int.reduceLE, Int.reduceEq, reduceIte, h0, h5, h6, h7, wrap_i64_in (n := u) (by omega) (by omega), hkw]
              exact ⟨_, rfl, rfl, .refl hh⟩
end Go.Proofs.Ytlhgijpdhniddaa

namespace Go.Proofs.Ytlhgijpdhniddaa
open Go.D
set_option maxRecDepth 100000

theorem neq_nil {t : TypeId} {e : Int} {ox oy : Operand} {h : DHeap} : dBinOp Try.prog .neq 20 ox oy (.iface t (.agg #[.int .i64 e])) .nilIface h = .ok (.value (.bool true)) h := by
  kernel_rfl
theorem neq_nil2 {i : Nat} {h : DHeap} : dBinOp Try.prog .neq 20 (T i) (.const .nilIface) .nilIface .nilIface h = .ok (.value (.bool false)) h := by
  kernel_rfl
/-- where nothing was given up -/
theorem caught_ret {h : DHeap} {x : Value} : DCD Try.prog 84 [x] .ret h .ret h := by
  refine DCD_recN (fn := Try.f84) (rs := []) (by kernel_rfl) body_84 (by kernel_rfl) (by kernel_rfl) (n := 17) (Nat.le_add_left 1 16) (by kernel_rfl) (.refl h) ?_
  simp only [XOpsR]
  simp -implicitDefEqProofs (disch := first | omega | (simp only [go_sem, List.size_toArray, List.length_cons, List.length_nil, Nat.reduceAdd]; done)) only [go_sem, Int.reduceLT, Int.reduceLE, Int.reduceEq, reduceIte, dBuiltin_recover, neq_nil2]
  exact ⟨trivial, trivial, trivial, rfl, trivial⟩
/-- where it was -/
theorem caught_pan {h : DHeap} {id : Nat} {e : Int} {c : Value} {z : Nat} (hg : h.get id = some (.row [c] z false)) (hi : id < h.next) :
    ∃ h', DCD Try.prog 84 [.pointer (some ⟨id, 0, none⟩)] (.pan (wrongV e)) h (.recd (wrongV e)) h' ∧ (∀ j, j < h.next → j ≠ id → h'.get j = h.get j) ∧ h'.get id = some (.row [.int .i64 e] z false) ∧ h'.next = h.next + 1 ∧ h'.ng = h.ng := by
  refine ⟨((h.push (.row [.int .i64 e] 0 false))).set id (.row [.int .i64 e] z false), DCD_recN (fn := Try.f84) (rs := []) (by kernel_rfl) body_84 (by kernel_rfl) (by kernel_rfl) (n := 17) (Nat.le_add_left 1 16) (by kernel_rfl) ?_ ?_, ?_, ?_, rfl, rfl⟩
  · exact ⟨Nat.le_succ _, rfl⟩
  · simp only [XOpsR]
    have hst : dStore Try.prog 27 (.pointer (some ⟨id, 0, none⟩)) (.int .i64 e) (h.push (.row [.int .i64 e] 0 false)) = _ := (st_27 rfl).trans (store1 ((get_push_other _ _ hi).trans hg) rfl)
    simp -implicitDefEqProofs (disch := first | omega | (simp only [go_sem, List.size_toArray, List.length_cons, List.length_nil, Nat.reduceAdd]; done)) only [go_sem, Int.reduceLT, Int.reduceLE, Int.reduceEq, reduceIte, dBuiltin_recover, wrongV, neq_nil, store1_push (v := .int .i64 e) rfl, cell1_push, Nat.add_zero, hst]
    exact ⟨trivial, trivial, trivial, rfl, trivial⟩
  · intro j h1 h2
    rw [get_set_other _ _ h2, get_push_other _ _ h1]
  · exact get_set_same _ _
theorem good_caught : goodFn Try.prog 84 = true := by kernel_rfl
/-- what runs to its end -/
theorem try_ret {h : DHeap} {f : FuncId} {cs : List Value} {Q : DHeap → Prop} (hc : Ct Try.prog f cs (h.push (.row [.int .i64 0] 0 false)) fun r h1 => (∃ v, r = .ret v) ∧ Q h1) (hg : ∀ h1, Q h1 → h1.get h.next = some (.row [.int .i64 0] 0 false)) (hf : goodFn Try.prog f = true) :
    Ct Try.prog 76 [.func (.func f) #[] cs.toArray] h fun r h1 => r = .ret (.int .i64 0) ∧ Q h1 := by
  refine go_76 (by simp) ?_
  simp -implicitDefEqProofs (disch := first | omega | (simp only [go_sem, List.size_toArray, List.length_cons, List.length_nil, Nat.reduceAdd]; done)) only [go_sem, Int.reduceLT, Int.reduceLE, Int.reduceEq, reduceIte, c76, dCallO_func hf, List.nil_append, true_and]
  refine ncall_ct hc ?_
  rintro r h1 ⟨⟨v, rfl⟩, hq⟩
  have hst : dStore Try.prog 27 (.pointer (some ⟨h.next, 0, none⟩)) (.int .i64 0) h1 = some h1 := (st_27 rfl).trans ((store1 (hg h1 hq) rfl).trans (by rw [set_self (hg h1 hq)]))
  simp -implicitDefEqProofs (disch := first | omega | (simp only [go_sem, List.size_toArray, List.length_cons, List.length_nil, Nat.reduceAdd]; done)) only [go_sem, Int.reduceLT, Int.reduceLE, Int.reduceEq, reduceIte, hst, XEnd]
  refine XLv_fn good_caught caught_ret ?_
  simp -implicitDefEqProofs (disch := first | omega | (simp only [go_sem, List.size_toArray, List.length_cons, List.length_nil, Nat.reduceAdd]; done)) only [go_sem, Int.reduceLT, Int.reduceLE, Int.reduceEq, reduceIte, settleD, XLv_ret, dResults_c1, dResC_some]
  exact ⟨_, cell1 (hg h1 hq), rfl, hq⟩
/-- what gives up -/
theorem try_pan {h h1 : DHeap} {f : FuncId} {cs : List Value} {e : Int} (hc : DC Try.prog f cs (h.push (.row [.int .i64 0] 0 false)) (.pan (wrongV e)) h1) (hg : h1.get h.next = some (.row [.int .i64 0] 0 false)) (hi : h.next < h1.next) (hf : goodFn Try.prog f = true) :
    Ct Try.prog 76 [.func (.func f) #[] cs.toArray] h fun r h2 => r = .ret (.int .i64 e) ∧ h2.next = h1.next + 1 ∧ h2.ng = h1.ng ∧ (∀ j, j < h1.next → j ≠ h.next → h2.get j = h1.get j) := by
  refine go_76 (by simp) ?_
  simp -implicitDefEqProofs (disch := first | omega | (simp only [go_sem, List.size_toArray, List.length_cons, List.length_nil, Nat.reduceAdd]; done)) only [go_sem, Int.reduceLT, Int.reduceLE, Int.reduceEq, reduceIte, c76, dCallO_func hf, List.nil_append, true_and]
  refine ncall_pan hc ?_
  simp -implicitDefEqProofs (disch := first | omega | (simp only [go_sem, List.size_toArray, List.length_cons, List.length_nil, Nat.reduceAdd]; done)) only [go_sem, Int.reduceLT, Int.reduceLE, Int.reduceEq, reduceIte]
  obtain ⟨h2, hd, h3, h4, h5, h6⟩ := caught_pan (e := e) hg hi
  refine XLv_fn good_caught hd ?_
  simp -implicitDefEqProofs (disch := first | omega | (simp only [go_sem, List.size_toArray, List.length_cons, List.length_nil, Nat.reduceAdd]; done)) only [go_sem, Int.reduceLT, Int.reduceLE, Int.reduceEq, reduceIte, settleD, XLv_ret, dResults_c1, dResC_some]
  exact ⟨_, cell1 h4, rfl, h5, h6, h3⟩
/-- the closure, at three boxes -/
theorem boxed_no {h : DHeap} {a x y za zx zy : Nat} {b vx vy : Value} {l : List Int} (hb : Arg fU8.rep h b l) (hlen : l.length ≤ 4294967296) (ha : h.get a = some (.row [b] za false)) (h0 : ¬ (takeI l).2.2 = 0) :
    DC Try.prog 77 [.pointer (some ⟨a, 0, none⟩), .pointer (some ⟨x, 0, none⟩), .pointer (some ⟨y, 0, none⟩)] h (.pan (wrongV (takeI l).2.2)) h := by
  refine Ct.purePan (go_77 (by simp) ?_) (wrongV_vin _)
  have hld : dLoad Try.prog 22 (.pointer (some ⟨a, 0, none⟩)) h = some b := ld_22.trans (cell1 ha)
  have ht := take_c hb hlen
  rw [takeEnd, if_neg h0] at ht
  simp -implicitDefEqProofs (disch := first | omega | (simp only [go_sem, List.size_toArray, List.length_cons, List.length_nil, Nat.reduceAdd]; done)) only [go_sem, Int.reduceLT, Int.reduceLE, Int.reduceEq, reduceIte, c77, hld, true_and]
  refine ncall_pan ht ?_
  simp -implicitDefEqProofs (disch := first | omega | (simp only [go_sem, List.size_toArray, List.length_cons, List.length_nil, Nat.reduceAdd]; done)) only [go_sem, Int.reduceLT, Int.reduceLE, Int.reduceEq, reduceIte]
  exact ⟨by trivial, .refl h⟩
theorem boxed_ok {h : DHeap} {a x y za zx zy : Nat} {b vx vy : Value} {l : List Int} (hb : Arg fU8.rep h b l) (hlen : l.length ≤ 4294967296) (ha : h.get a = some (.row [b] za false)) (h0 : (takeI l).2.2 = 0)
    (hx : h.get x = some (.row [vx] zx false)) (hy : h.get y = some (.row [vy] zy false)) (hxy : y ≠ x) :
    Ct Try.prog 77 [.pointer (some ⟨a, 0, none⟩), .pointer (some ⟨x, 0, none⟩), .pointer (some ⟨y, 0, none⟩)] h fun r h1 => r = .ret (.tuple #[]) ∧ h1 = (h.set x (.row [.int .i64 (takeI l).1] zx false)).set y (.row [.int .i64 (takeI l).2.1] zy false) := by
  refine go_77 (by simp) ?_
  have hld : dLoad Try.prog 22 (.pointer (some ⟨a, 0, none⟩)) h = some b := ld_22.trans (cell1 ha)
  have ht := take_c hb hlen
  rw [takeEnd, if_pos h0] at ht
  simp -implicitDefEqProofs (disch := first | omega | (simp only [go_sem, List.size_toArray, List.length_cons, List.length_nil, Nat.reduceAdd]; done)) only [go_sem, Int.reduceLT, Int.reduceLE, Int.reduceEq, reduceIte, c77, hld, true_and]
  refine ncall ht ?_
  have h1 : dStore Try.prog 2 (.pointer (some ⟨x, 0, none⟩)) (.int .i64 (takeI l).1) h = _ := (st_2 rfl).trans (store1 hx rfl)
  have h2 : dStore Try.prog 3 (.pointer (some ⟨y, 0, none⟩)) (.int .i64 (takeI l).2.1) (h.set x (.row [.int .i64 (takeI l).1] zx false)) = _ := (st_3 rfl).trans (store1 ((get_set_other _ _ hxy).trans hy) rfl)
  simp -implicitDefEqProofs (disch := first | omega | (simp only [go_sem, List.size_toArray, List.length_cons, List.length_nil, Nat.reduceAdd]; done)) only [go_sem, Int.reduceLT, Int.reduceLE, Int.reduceEq, reduceIte, h1, h2]
  exact ⟨_, rfl, by trivial, by trivial⟩
theorem good_boxed : goodFn Try.prog 77 = true := by kernel_rfl
theorem boxedEnd {s : St} {R : DEnd → DHeap → Prop} {i j : Nat} {n k e : Int} (hdf : s.df = []) (hrd : s.rd = none) (f2 : s.fr 2 = some (.pointer (some ⟨i, 0, none⟩))) (f3 : s.fr 3 = some (.pointer (some ⟨j, 0, none⟩))) (f4 : s.fr 4 = some (.int .i64 e))
    (hi : s.h.get i = some (.row [.int .i64 n] 0 false)) (hj : s.h.get j = some (.row [.int .i64 k] 0 false)) (hR : R (.ret (.tuple #[.int .i64 n, .int .i64 k, .int .i64 e])) s.h) :
    xs Try.prog 10 (.seq r61_0 .ret) (XPost Try.prog [(.cell 2 2), (.cell 3 3), (.tmp 4)] R) s := by
  obtain ⟨fr, df, h, rd⟩ := s
  simp only at hdf hrd f2 f3 f4 hi hj hR
  subst hdf; subst hrd
  have l1 : dLoad Try.prog 2 (.pointer (some ⟨i, 0, none⟩)) h = some (.int .i64 n) := ld_2.trans (cell1 hi)
  have l2 : dLoad Try.prog 3 (.pointer (some ⟨j, 0, none⟩)) h = some (.int .i64 k) := ld_3.trans (cell1 hj)
  have s1 : dStore Try.prog 2 (.pointer (some ⟨i, 0, none⟩)) (.int .i64 n) h = some h := (st_2 rfl).trans ((store1 hi rfl).trans (by rw [set_self hi]))
  have s2 : dStore Try.prog 3 (.pointer (some ⟨j, 0, none⟩)) (.int .i64 k) h = some h := (st_3 rfl).trans ((store1 hj rfl).trans (by rw [set_self hj]))
  simp -implicitDefEqProofs (disch := first | omega | (simp only [go_sem, List.size_toArray, List.length_cons, List.length_nil, Nat.reduceAdd]; done)) only [go_sem, Int.reduceLT, Int.reduceLE, Int.reduceEq, reduceIte]
  refine dr_61_0 ?_
  simp -implicitDefEqProofs (disch := first | omega | (simp only [go_sem, List.size_toArray, List.length_cons, List.length_nil, Nat.reduceAdd]; done)) only [go_sem, Int.reduceLT, Int.reduceLE, Int.reduceEq, reduceIte, l61_0, f2, f3, f4, l1, l2, s1, s2, true_and]
  refine ⟨⟨XSt1_at (i := 1) (j := 3) rfl rfl rfl ?_, trivial⟩, .tuple #[.int .i64 n, .int .i64 k, .int .i64 e], ?_, hR⟩
  · rw [if_neg (by decide)]
    refine Ld_on (p := .pointer (some ⟨j, 0, none⟩)) ?_ ?_ l2
    · simp -implicitDefEqProofs (disch := first | omega | (simp only [go_sem, List.size_toArray, List.length_cons, List.length_nil, Nat.reduceAdd]; done)) only [go_sem, Int.reduceLT, Int.reduceLE, Int.reduceEq, reduceIte]
    · simp -implicitDefEqProofs (disch := first | omega | (simp only [go_sem, List.size_toArray, List.length_cons, List.length_nil, Nat.reduceAdd]; done)) only [go_sem, Int.reduceLT, Int.reduceLE, Int.reduceEq, reduceIte, f3]
  · simp -implicitDefEqProofs (disch := first | omega | (simp only [go_sem, List.size_toArray, List.length_cons, List.length_nil, Nat.reduceAdd]; done)) only [go_sem, Int.reduceLT, Int.reduceLE, Int.reduceEq, reduceIte, dResults_d3, dRes1_tmp, dRes1_cell, dResC_some, f2, f3, l1, l2]
/-- a number of bytes, or what is wrong with it: shape.TakeNum -/
theorem takeNum_c {h : DHeap} {b : Value} {l : List Int} (hb : Arg fU8.rep h b l) (hlen : l.length ≤ 4294967296) :
    DC Try.prog 61 [b] h (.ret (.tuple #[.int .i64 (if (takeI l).2.2 = 0 then (takeI l).1 else 0), .int .i64 (if (takeI l).2.2 = 0 then (takeI l).2.1 else 0), .int .i64 (takeI l).2.2])) h := by
  refine Ct.pure (go_61 (by simp) ?_) (vin_ints3 _ _ _ _ _ _)
  obtain ⟨ba, bc, rfl⟩ := hb.isSlice
  obtain ⟨b, hbe⟩ : ∃ b, b = Value.slice ba l.length bc := ⟨_, rfl⟩
  simp -implicitDefEqProofs (disch := first | omega | (simp only [go_sem, List.size_toArray, List.length_cons, List.length_nil, Nat.reduceAdd]; done)) only [go_sem, Int.reduceLT, Int.reduceLE, Int.reduceEq, reduceIte, c61, next_push, true_and]
  rw [← hbe] at hb ⊢
  obtain ⟨H, hH⟩ : ∃ H, H = ((h.push (DObj.row [b] 0 false)).push (DObj.row [Value.int IntKind.i64 0] 0 false)).push (DObj.row [Value.int IntKind.i64 0] 0 false) := ⟨_, rfl⟩
  have hex : Ext h H := by rw [hH]; exact ((Ext.push1 _ _).push _).push _
  have hnx : H.next = h.next + 1 + 1 + 1 := by rw [hH]; rfl
  have hga : H.get h.next = some (.row [b] 0 false) := by
    rw [hH, get_push_other _ _ (by simp only [next_push]; omega), get_push_other _ _ (by simp only [next_push]; omega), get_push_same]
  have hgx : H.get (h.next + 1) = some (.row [.int .i64 0] 0 false) := by
    rw [hH, get_push_other _ _ (by simp only [next_push]; omega), get_push_at _ _ (by simp only [next_push])]
  have hgy : H.get (h.next + 1 + 1) = some (.row [.int .i64 0] 0 false) := by
    rw [hH, get_push_at _ _ (by simp only [next_push])]
  rw [← hH]
  have hb1 := hb.ext (hex.push (.row [.int .i64 0] 0 false))
  by_cases h0 : (takeI l).2.2 = 0
  · have hc := boxed_ok (h := H.push (.row [.int .i64 0] 0 false)) (x := h.next + 1) (y := h.next + 1 + 1) (zx := 0) (zy := 0) (vx := .int .i64 0) (vy := .int .i64 0) hb1 hlen ((get_push_other _ _ (by omega)).trans hga) h0 ((get_push_other _ _ (by omega)).trans hgx) ((get_push_other _ _ (by omega)).trans hgy) (by omega)
    refine ncall_ct (try_ret (Q := fun h1 => h1 = _) (Ct.mono hc fun r h1 hh => ⟨⟨_, hh.1⟩, hh.2⟩) ?_ good_boxed) ?_
    · rintro h1 rfl
      rw [get_set_other _ _ (by omega), get_set_other _ _ (by omega), get_push_same]
    rintro r h1 ⟨rfl, rfl⟩
    simp -implicitDefEqProofs (disch := first | omega | (simp only [go_sem, List.size_toArray, List.length_cons, List.length_nil, Nat.reduceAdd]; done)) only [go_sem, Int.reduceLT, Int.reduceLE, Int.reduceEq, reduceIte, XEnd]
    refine boxedEnd (i := h.next + 1) (j := h.next + 1 + 1) (n := (takeI l).1) (k := (takeI l).2.1) (e := 0) rfl rfl ?_ ?_ ?_ ?_ ?_ ?_
    · simp -implicitDefEqProofs (disch := first | omega | (simp only [go_sem, List.size_toArray, List.length_cons, List.length_nil, Nat.reduceAdd]; done)) only [go_sem, Int.reduceLT, Int.reduceLE, Int.reduceEq, reduceIte]
    · simp -implicitDefEqProofs (disch := first | omega | (simp only [go_sem, List.size_toArray, List.length_cons, List.length_nil, Nat.reduceAdd]; done)) only [go_sem, Int.reduceLT, Int.reduceLE, Int.reduceEq, reduceIte]
    · simp -implicitDefEqProofs (disch := first | omega | (simp only [go_sem, List.size_toArray, List.length_cons, List.length_nil, Nat.reduceAdd]; done)) only [go_sem, Int.reduceLT, Int.reduceLE, Int.reduceEq, reduceIte]
    · rw [get_set_other _ _ (by omega), get_set_same]
    · rw [get_set_same]
    · refine ⟨by rw [h0]; rfl, ((hex.push _).set (by omega)).set (by omega)⟩
  · have hc := boxed_no (h := H.push (.row [.int .i64 0] 0 false)) (x := h.next + 1) (y := h.next + 1 + 1) (zx := 0) (zy := 0) (vx := b) (vy := b) hb1 hlen ((get_push_other _ _ (by omega)).trans hga) h0
    refine ncall_ct (try_pan hc (get_push_same _ _) (Nat.lt_succ_self _) good_boxed) ?_
    rintro r h2 ⟨rfl, e1, e2, e3⟩
    simp -implicitDefEqProofs (disch := first | omega | (simp only [go_sem, List.size_toArray, List.length_cons, List.length_nil, Nat.reduceAdd]; done)) only [go_sem, Int.reduceLT, Int.reduceLE, Int.reduceEq, reduceIte, XEnd]
    refine boxedEnd (i := h.next + 1) (j := h.next + 1 + 1) (n := 0) (k := 0) (e := (takeI l).2.2) rfl rfl ?_ ?_ ?_ ?_ ?_ ?_
    · simp -implicitDefEqProofs (disch := first | omega | (simp only [go_sem, List.size_toArray, List.length_cons, List.length_nil, Nat.reduceAdd]; done)) only [go_sem, Int.reduceLT, Int.reduceLE, Int.reduceEq, reduceIte]
    · simp -implicitDefEqProofs (disch := first | omega | (simp only [go_sem, List.size_toArray, List.length_cons, List.length_nil, Nat.reduceAdd]; done)) only [go_sem, Int.reduceLT, Int.reduceLE, Int.reduceEq, reduceIte]
    · simp -implicitDefEqProofs (disch := first | omega | (simp only [go_sem, List.size_toArray, List.length_cons, List.length_nil, Nat.reduceAdd]; done)) only [go_sem, Int.reduceLT, Int.reduceLE, Int.reduceEq, reduceIte]
    · exact (e3 _ (by rw [next_push]; omega) (by omega)).trans ((get_push_other _ _ (by omega)).trans hgx)
    · exact (e3 _ (by rw [next_push]; omega) (by omega)).trans ((get_push_other _ _ (by omega)).trans hgy)
    · refine ⟨by simp only [if_neg h0], ⟨by rw [e1, next_push]; omega, by rw [e2, ng_push]; exact hex.ng, fun i hi => ?_⟩⟩
      rw [e3 _ (by rw [next_push]; omega) (by omega), get_push_other _ _ (by omega)]
      exact hex.get i hi
end Go.Proofs.Ytlhgijpdhniddaa

namespace Go.Proofs.Ytlhgijpdhniddaa
open Go.D
set_option maxRecDepth 100000

def countB (n m : Int) : Bool := decide (0 ≤ n) && decide (n ≤ m)
theorem count_c {h : DHeap} {n m : Int} : DC Try.prog 43 [.int .i64 n, .int .i64 m] h (.ret (.bool (countB n m))) h := by
  refine Ct.pure (go_43 (by simp) ?_) (vin_bool _)
  unfold countB
  by_cases h0 : 0 ≤ n
  · simp -implicitDefEqProofs (disch := first | omega | (simp only [go_sem, List.size_toArray, List.length_cons, List.length_nil, Nat.reduceAdd]; done)) only [go_sem, Int.reduceLT, Int.reduceLE, Int.reduceEq, reduceIte, c43, ge_iff_le, h0, dPick_t, Bool.true_and]
    exact ⟨_, rfl, rfl, .refl h⟩
  · simp -implicitDefEqProofs (disch := first | omega | (simp only [go_sem, List.size_toArray, List.length_cons, List.length_nil, Nat.reduceAdd]; done)) only [go_sem, Int.reduceLT, Int.reduceLE, Int.reduceEq, reduceIte, c43, ge_iff_le, h0, dPick_f, Bool.false_and]
    exact ⟨_, rfl, rfl, .refl h⟩

theorem nan32_c {h : DHeap} {n : Int} : DC Try.prog 81 [.int .i32 n] h (.ret (.bool false)) h := by
  refine Ct.pure (go_81 (by simp) ?_) (vin_bool _)
  simp -implicitDefEqProofs (disch := first | omega | (simp only [go_sem, List.size_toArray, List.length_cons, List.length_nil, Nat.reduceAdd]; done)) only [go_sem, Int.reduceLT, Int.reduceLE, Int.reduceEq, reduceIte, c81]
  exact ⟨_, rfl, rfl, .refl h⟩
theorem nan64_c {h : DHeap} {n : Int} : DC Try.prog 82 [.int .i64 n] h (.ret (.bool false)) h := by
  refine Ct.pure (go_82 (by simp) ?_) (vin_bool _)
  simp -implicitDefEqProofs (disch := first | omega | (simp only [go_sem, List.size_toArray, List.length_cons, List.length_nil, Nat.reduceAdd]; done)) only [go_sem, Int.reduceLT, Int.reduceLE, Int.reduceEq, reduceIte, c82]
  exact ⟨_, rfl, rfl, .refl h⟩
def cmpI (a b : Int) : Int := if a < b then -1 else if b < a then 1 else 0
theorem cmp32_c {h : DHeap} {a b : Int} : DC Try.prog 71 [.int .i32 a, .int .i32 b] h (.ret (.int .i64 (cmpI a b))) h := by
  refine Ct.pure (go_71 (by simp) ?_) (vin_int _ _)
  unfold cmpI
  simp -implicitDefEqProofs (disch := first | omega | (simp only [go_sem, List.size_toArray, List.length_cons, List.length_nil, Nat.reduceAdd]; done)) only [go_sem, Int.reduceLT, Int.reduceLE, Int.reduceEq, reduceIte, c71]
  refine ncall nan32_c ?_
  simp -implicitDefEqProofs (disch := first | omega | (simp only [go_sem, List.size_toArray, List.length_cons, List.length_nil, Nat.reduceAdd]; done)) only [go_sem, Int.reduceLT, Int.reduceLE, Int.reduceEq, reduceIte]
  refine ncall nan32_c ?_
  by_cases h0 : a < b
  · simp -implicitDefEqProofs (disch := first | omega | (simp only [go_sem, List.size_toArray, List.length_cons, List.length_nil, Nat.reduceAdd]; done)) only [go_sem, Int.reduceLT, Int.reduceLE, Int.reduceEq, reduceIte, h0]
    exact ⟨_, rfl, rfl, .refl h⟩
  by_cases h1 : b < a
  · simp -implicitDefEqProofs (disch := first | omega | (simp only [go_sem, List.size_toArray, List.length_cons, List.length_nil, Nat.reduceAdd]; done)) only [go_sem, Int.reduceLT, Int.reduceLE, Int.reduceEq, reduceIte, h0, gt_iff_lt, h1]
    exact ⟨_, rfl, rfl, .refl h⟩
  · simp -implicitDefEqProofs (disch := first | omega | (simp only [go_sem, List.size_toArray, List.length_cons, List.length_nil, Nat.reduceAdd]; done)) only [go_sem, Int.reduceLT, Int.reduceLE, Int.reduceEq, reduceIte, h0, gt_iff_lt, h1]
    exact ⟨_, rfl, rfl, .refl h⟩
theorem cmp64_c {h : DHeap} {a b : Int} : DC Try.prog 72 [.int .i64 a, .int .i64 b] h (.ret (.int .i64 (cmpI a b))) h := by
  refine Ct.pure (go_72 (by simp) ?_) (vin_int _ _)
  unfold cmpI
  simp -implicitDefEqProofs (disch := first | omega | (simp only [go_sem, List.size_toArray, List.length_cons, List.length_nil, Nat.reduceAdd]; done)) only [go_sem, Int.reduceLT, Int.reduceLE, Int.reduceEq, reduceIte, c72]
  refine ncall nan64_c ?_
  simp -implicitDefEqProofs (disch := first | omega | (simp only [go_sem, List.size_toArray, List.length_cons, List.length_nil, Nat.reduceAdd]; done)) only [go_sem, Int.reduceLT, Int.reduceLE, Int.reduceEq, reduceIte]
  refine ncall nan64_c ?_
  by_cases h0 : a < b
  · simp -implicitDefEqProofs (disch := first | omega | (simp only [go_sem, List.size_toArray, List.length_cons, List.length_nil, Nat.reduceAdd]; done)) only [go_sem, Int.reduceLT, Int.reduceLE, Int.reduceEq, reduceIte, h0]
    exact ⟨_, rfl, rfl, .refl h⟩
  by_cases h1 : b < a
  · simp -implicitDefEqProofs (disch := first | omega | (simp only [go_sem, List.size_toArray, List.length_cons, List.length_nil, Nat.reduceAdd]; done)) only [go_sem, Int.reduceLT, Int.reduceLE, Int.reduceEq, reduceIte, h0, gt_iff_lt, h1]
    exact ⟨_, rfl, rfl, .refl h⟩
  · simp -implicitDefEqProofs (disch := first | omega | (simp only [go_sem, List.size_toArray, List.length_cons, List.length_nil, Nat.reduceAdd]; done)) only [go_sem, Int.reduceLT, Int.reduceLE, Int.reduceEq, reduceIte, h0, gt_iff_lt, h1]
    exact ⟨_, rfl, rfl, .refl h⟩
def orI : List Int → Int
  | [] => 0
  | a :: l => if a = 0 then orI l else a
theorem or_c {h : DHeap} {b : Value} {l : List Int} (hb : Arg fI64.rep h b l) (hlen : l.length ≤ 4294967296) : DC Try.prog 70 [b] h (.ret (.int .i64 (orI l))) h := by
  refine Ct.pure (go_70 (by simp) ?_) (vin_int _ _)
  have el := hb.dLen (P := Try.prog) (ts := #[115]) (t := 115) rfl isl_115
  simp -implicitDefEqProofs (disch := first | omega | (simp only [go_sem, List.size_toArray, List.length_cons, List.length_nil, Nat.reduceAdd]; done)) only [go_sem, Int.reduceLT, Int.reduceLE, Int.reduceEq, reduceIte, c70, el]
  refine xloop (σ := Nat) (by kernel_rfl) (fun i s => s.df = [] ∧ s.h = h ∧ s.fr 3 = some (.int .i64 0) ∧ s.fr 6 = some b ∧ s.fr 7 = some (.int .i64 l.length) ∧ s.fr 8 = some (.int .i64 (i : Nat)) ∧ i ≤ l.length ∧ orI (l.drop i) = orI l) (fun i => l.length - i) 0 ?_ ?_
  · simp -implicitDefEqProofs (disch := first | omega | (simp only [go_sem, List.size_toArray, List.length_cons, List.length_nil, Nat.reduceAdd]; done)) only [go_sem, Int.reduceLT, Int.reduceLE, Int.reduceEq, reduceIte]
    exact ⟨by trivial, by trivial, by trivial, by trivial, by trivial, by trivial, Nat.zero_le _, by rw [List.drop_zero]⟩
  · rintro i ⟨fr, df, hh, rd⟩ K hK hX ⟨rfl, rfl, h3, h6, h7, h8, hi, ho⟩
    simp only at h3 h6 h7 h8
    simp -implicitDefEqProofs (disch := first | omega | (simp only [go_sem, List.size_toArray, List.length_cons, List.length_nil, Nat.reduceAdd]; done)) only [go_sem, Int.reduceLT, Int.reduceLE, Int.reduceEq, reduceIte, h3, h6, h7, h8]
    refine XIf_dec (fun hc1 => ?_) (fun hc1 => ?_)
    · have hj : i < l.length := by omega
      obtain ⟨id2, o2, e2, _, hat2⟩ := hb.idx (P := Try.prog) (t := 115) el_115 (k := .i64) (i := i) (x := l[i]) (by simp)
      have hw := wrap_succ hj (by omega)
      rw [List.drop_eq_getElem_cons hj] at ho
      by_cases hx : l[i] = 0
      · simp -implicitDefEqProofs (disch := first | omega | (simp only [go_sem, List.size_toArray, List.length_cons, List.length_nil, Nat.reduceAdd]; done)) only [go_sem, Int.reduceLT, Int.reduceLE, Int.reduceEq, reduceIte, h3, h6, h7, h8, e2, hat2.int, hx, hw]
        refine hK (i + 1) _ ?_ (by omega)
        exact ⟨by trivial, by trivial, by simp -implicitDefEqProofs (disch := first | omega | (simp only [go_sem, List.size_toArray, List.length_cons, List.length_nil, Nat.reduceAdd]; done)) only [go_sem, Int.reduceLT, Int.reduceLE, Int.reduceEq, reduceIte, h3], by simp -implicitDefEqProofs (disch := first | omega | (simp only [go_sem, List.size_toArray, List.length_cons, List.length_nil, Nat.reduceAdd]; done)) only [go_sem, Int.reduceLT, Int.reduceLE, Int.reduceEq, reduceIte, h6], by simp -implicitDefEqProofs (disch := first | omega | (simp only [go_sem, List.size_toArray, List.length_cons, List.length_nil, Nat.reduceAdd]; done)) only [go_sem, Int.reduceLT, Int.reduceLE, Int.reduceEq, reduceIte, h7], by simp -implicitDefEqProofs (disch := first | omega | (simp only [go_sem, List.size_toArray, List.length_cons, List.length_nil, Nat.reduceAdd]; done)) only [go_sem, Int.reduceLT, Int.reduceLE, Int.reduceEq, reduceIte], by omega, by rw [← ho, orI, if_pos hx]⟩
      · simp -implicitDefEqProofs (disch := first | omega | (simp only [go_sem, List.size_toArray, List.length_cons, List.length_nil, Nat.reduceAdd]; done)) only [go_sem, Int.reduceLT, Int.reduceLE, Int.reduceEq, reduceIte, h3, h6, h7, h8, e2, hat2.int, hx, hw]
        refine hX _ _ (by simp) ?_
        simp -implicitDefEqProofs (disch := first | omega | (simp only [go_sem, List.size_toArray, List.length_cons, List.length_nil, Nat.reduceAdd]; done)) only [go_sem, Int.reduceLT, Int.reduceLE, Int.reduceEq, reduceIte]
        refine ⟨_, rfl, ?_, .refl hh⟩
        rw [← ho, orI, if_neg hx]
    · obtain rfl : i = l.length := by omega
      refine hX _ _ (by simp) ?_
      simp -implicitDefEqProofs (disch := first | omega | (simp only [go_sem, List.size_toArray, List.length_cons, List.length_nil, Nat.reduceAdd]; done)) only [go_sem, Int.reduceLT, Int.reduceLE, Int.reduceEq, reduceIte, h3]
      refine ⟨_, rfl, ?_, .refl hh⟩
      rw [← ho, List.drop_length]; rfl
end Go.Proofs.Ytlhgijpdhniddaa

namespace Go.Proofs.Ytlhgijpdhniddaa
open Go.D
set_option maxRecDepth 100000

abbrev keyV (k : Key) : Value := .agg #[.int .i32 k.t, .int .i64 k.r]
abbrev cellV (c : Cell) : Value := .agg #[.int .i32 c.k.t, .int .i64 c.k.r, .int .i64 c.v, .int .i64 c.s]
abbrev rowV (r : Row) (v : Value) : Value := .agg #[.int .i64 r.ses, .int .i64 r.req, .int .i64 r.x.e, v, .int .i64 r.x.s, .int .i64 r.x.p]
def keyLt (a b : Key) : Bool := decide (a.t < b.t) || (decide (a.t = b.t) && decide (a.r < b.r))
def keyCmp (a b : Key) : Int := if cmpI a.t b.t = 0 then cmpI a.r b.r else cmpI a.t b.t
theorem cmpI_zero {a b : Int} : cmpI a b = 0 ↔ a = b := by
  unfold cmpI; split
  · constructor <;> intro h <;> omega
  · split
    · constructor <;> intro h <;> omega
    · constructor <;> intro h <;> omega
theorem cmpI_neg {a b : Int} : cmpI a b < 0 ↔ a < b := by
  unfold cmpI; split
  · constructor <;> intro h <;> omega
  · split
    · constructor <;> intro h <;> omega
    · constructor <;> intro h <;> omega
theorem keyCmp_neg (a b : Key) : decide (keyCmp a b < 0) = keyLt a b := by
  unfold keyCmp keyLt
  by_cases h : a.t = b.t
  · rw [if_pos (cmpI_zero.2 h)]
    rw [show decide (a.t < b.t) = false by simp; omega, show decide (a.t = b.t) = true by simp [h]]
    simp [cmpI_neg]
  · rw [if_neg (fun hh => h (cmpI_zero.1 hh)), show decide (a.t = b.t) = false by simp [h]]
    simp [cmpI_neg]
theorem keyCmp_or (a b : Key) : orI [cmpI a.t b.t, cmpI a.r b.r] = keyCmp a b := by
  unfold keyCmp orI orI orI
  split
  · split
    · rename_i h; exact h.symm
    · rfl
  · rfl
theorem cmpI_ok (a b : Int) : inK .i64 (cmpI a b) := by
  unfold cmpI; split
  · exact inK_i64.2 ⟨by decide, by decide⟩
  · split <;> exact inK_i64.2 ⟨by decide, by decide⟩
theorem compare_c {h : DHeap} {a b : Key} : DC Try.prog 46 [keyV a, keyV b] h (.ret (.int .i64 (keyCmp a b))) h := by
  refine Ct.pure (go_46 (by simp) ?_) (vin_int _ _)
  simp -implicitDefEqProofs (disch := first | omega | (simp only [go_sem, List.size_toArray, List.length_cons, List.length_nil, Nat.reduceAdd]; done)) only [go_sem, Int.reduceLT, Int.reduceLE, Int.reduceEq, reduceIte, c46]
  refine dr_46_0 ?_
  simp -implicitDefEqProofs (disch := first | omega | (simp only [go_sem, List.size_toArray, List.length_cons, List.length_nil, Nat.reduceAdd]; done)) only [go_sem, Int.reduceLT, Int.reduceLE, Int.reduceEq, reduceIte, l46_0, cellAt_p1, cellAt_p0, Nat.add_zero, Nat.zero_add]
  refine dcall cmp32_c ?_
  simp -implicitDefEqProofs (disch := first | omega | (simp only [go_sem, List.size_toArray, List.length_cons, List.length_nil, Nat.reduceAdd]; done)) only [go_sem, Int.reduceLT, Int.reduceLE, Int.reduceEq, reduceIte, l46_0, cellAt_p1, cellAt_p0, Nat.add_zero, Nat.zero_add]
  refine dcall cmp64_c ?_
  simp -implicitDefEqProofs (disch := first | omega | (simp only [go_sem, List.size_toArray, List.length_cons, List.length_nil, Nat.reduceAdd]; done)) only [go_sem, Int.reduceLT, Int.reduceLE, Int.reduceEq, reduceIte]
  have ha : ∀ K : DHeap, Arg fI64.rep (K.push (.row [.int .i64 (cmpI a.t b.t), .int .i64 (cmpI a.r b.r)] 1 false)) (.slice (some ⟨K.next, 0, none⟩) 2 2) [cmpI a.t b.t, cmpI a.r b.r] := fun K =>
    built fI64 K rfl rfl rfl (fun x hx => by
      rcases List.mem_cons.1 hx with rfl | hx
      · exact cmpI_ok _ _
      · rw [List.mem_singleton.1 hx]; exact cmpI_ok _ _)
  refine dcall (or_c (ha _) (Nat.le_of_ble_eq_true rfl)) ?_
  rw [keyCmp_or]
  simp -implicitDefEqProofs (disch := first | omega | (simp only [go_sem, List.size_toArray, List.length_cons, List.length_nil, Nat.reduceAdd]; done)) only [go_sem, Int.reduceLT, Int.reduceLE, Int.reduceEq, reduceIte, Nat.reduceAdd]
  refine ⟨⟨XSt1_at (i := 6) (j := 4) rfl rfl rfl ?_, XSt1_at (i := 8) (j := 4) rfl rfl rfl ?_, trivial⟩, _, rfl, rfl, ((Ext.push1 _ _).push _).push _⟩
  · rw [if_pos (by decide)]
    refine Ld_on (p := .pointer (some ⟨h.next, 1, none⟩)) ?_ ?_ (ld_2.trans cellAt_p1)
    · simp -implicitDefEqProofs (disch := first | omega | (simp only [go_sem, List.size_toArray, List.length_cons, List.length_nil, Nat.reduceAdd]; done)) only [go_sem, Int.reduceLT, Int.reduceLE, Int.reduceEq, reduceIte]
    · simp -implicitDefEqProofs (disch := first | omega | (simp only [go_sem, List.size_toArray, List.length_cons, List.length_nil, Nat.reduceAdd]; done)) only [go_sem, Int.reduceLT, Int.reduceLE, Int.reduceEq, reduceIte]
  · rw [if_pos (by decide)]
    refine Ld_on (p := .pointer (some ⟨_, 1, none⟩)) ?_ ?_ (ld_2.trans cellAt_p0)
    · simp -implicitDefEqProofs (disch := first | omega | (simp only [go_sem, List.size_toArray, List.length_cons, List.length_nil, Nat.reduceAdd]; done)) only [go_sem, Int.reduceLT, Int.reduceLE, Int.reduceEq, reduceIte]
    · simp -implicitDefEqProofs (disch := first | omega | (simp only [go_sem, List.size_toArray, List.length_cons, List.length_nil, Nat.reduceAdd]; done)) only [go_sem, Int.reduceLT, Int.reduceLE, Int.reduceEq, reduceIte]
theorem below_c {h : DHeap} {a b : Cell} : DC Try.prog 45 [cellV a, cellV b] h (.ret (.bool (keyLt a.k b.k))) h := by
  refine Ct.pure (go_45 (by simp) ?_) (vin_bool _)
  simp -implicitDefEqProofs (disch := first | omega | (simp only [go_sem, List.size_toArray, List.length_cons, List.length_nil, Nat.reduceAdd]; done)) only [go_sem, Int.reduceLT, Int.reduceLE, Int.reduceEq, reduceIte, c45, cells2_p1, cells2_p0, Nat.add_zero, Nat.zero_add]
  refine ncall (compare_c (a := a.k) (b := b.k)) ?_
  simp -implicitDefEqProofs (disch := first | omega | (simp only [go_sem, List.size_toArray, List.length_cons, List.length_nil, Nat.reduceAdd]; done)) only [go_sem, Int.reduceLT, Int.reduceLE, Int.reduceEq, reduceIte, keyCmp_neg]
  exact ⟨_, rfl, rfl, (Ext.push1 _ _).push _⟩
theorem belowRow_c {h : DHeap} {a b : Row} {v w : Value} (hv : v.cells = #[v]) (hw : w.cells = #[w]) : DC Try.prog 48 [rowV a v, rowV b w] h (.ret (.bool (decide (a.ses < b.ses)))) h := by
  refine Ct.pure (go_48 (by simp) ?_) (vin_bool _)
  simp -implicitDefEqProofs (disch := first | omega | (simp only [go_sem, List.size_toArray, List.length_cons, List.length_nil, Nat.reduceAdd]; done)) only [go_sem, Int.reduceLT, Int.reduceLE, Int.reduceEq, reduceIte, c48, cellAt_p1, cellAt_p0, Nat.add_zero, Nat.zero_add]
  exact ⟨_, rfl, rfl, (Ext.push1 _ _).push _⟩
theorem less_c {h : DHeap} {a b : Key} : DC Try.prog 65 [keyV a, keyV b] h (.ret (.bool (keyLt a b))) h := by
  refine Ct.pure (go_65 (by simp) ?_) (vin_bool _)
  unfold keyLt
  by_cases h0 : a.t < b.t
  · simp -implicitDefEqProofs (disch := first | omega | (simp only [go_sem, List.size_toArray, List.length_cons, List.length_nil, Nat.reduceAdd]; done)) only [go_sem, Int.reduceLT, Int.reduceLE, Int.reduceEq, reduceIte, c65, cellAt_p1, cellAt_p0, Nat.add_zero, Nat.zero_add, h0, dPick_t, dPick_f, Bool.true_or]
    exact ⟨_, rfl, rfl, (Ext.push1 _ _).push _⟩
  by_cases h1 : a.t = b.t
  · simp -implicitDefEqProofs (disch := first | omega | (simp only [go_sem, List.size_toArray, List.length_cons, List.length_nil, Nat.reduceAdd]; done)) only [go_sem, Int.reduceLT, Int.reduceLE, Int.reduceEq, reduceIte, c65, cellAt_p1, cellAt_p0, Nat.add_zero, Nat.zero_add, h0, h1, dPick_t, dPick_f, Bool.false_or, Bool.true_and, Int.lt_irrefl]
    exact ⟨_, rfl, rfl, (Ext.push1 _ _).push _⟩
  · simp -implicitDefEqProofs (disch := first | omega | (simp only [go_sem, List.size_toArray, List.length_cons, List.length_nil, Nat.reduceAdd]; done)) only [go_sem, Int.reduceLT, Int.reduceLE, Int.reduceEq, reduceIte, c65, cellAt_p1, cellAt_p0, Nat.add_zero, Nat.zero_add, h0, h1, dPick_t, dPick_f, Bool.false_or, Bool.false_and]
    exact ⟨_, rfl, rfl, (Ext.push1 _ _).push _⟩

/-- each below the next -/
def risesB {α : Type} (lt : α → α → Bool) : List α → Bool
  | a :: b :: l => lt a b && risesB lt (b :: l)
  | _ => true
theorem risesB_short {α : Type} {lt : α → α → Bool} : ∀ {l : List α}, l.length ≤ 1 → risesB lt l = true
  | [], _ => rfl
  | [_], _ => rfl
  | _ :: _ :: _, h => by simp at h
theorem risesB_two {α : Type} {lt : α → α → Bool} {l : List α} {j : Nat} (h : j + 1 < l.length) : risesB lt (l.drop j) = (lt l[j] l[j + 1] && risesB lt (l.drop (j + 1))) := by
  rw [List.drop_eq_getElem_cons (show j < l.length by omega), List.drop_eq_getElem_cons h, risesB]
theorem risesCell_c {h : DHeap} {b : Value} {l : List Cell} (hb : Arg fCell.rep h b l) (hlen : l.length ≤ 4294967296) :
    DC Try.prog 44 [b, .func (.func 45) #[] #[]] h (.ret (.bool (risesB (fun a b => keyLt a.k b.k) l))) h := by
  refine Ct.pure (go_44 (by simp) ?_) (vin_bool _)
  have el := hb.dLen (P := Try.prog) (ts := #[23]) (t := 23) rfl isl_23
  simp -implicitDefEqProofs (disch := first | omega | (simp only [go_sem, List.size_toArray, List.length_cons, List.length_nil, Nat.reduceAdd]; done)) only [go_sem, Int.reduceLT, Int.reduceLE, Int.reduceEq, reduceIte, c44]
  refine xloop (σ := Nat) (by kernel_rfl) (fun j s => s.df = [] ∧ s.h = h ∧ s.fr 0 = some b ∧ s.fr 1 = some (.func (.func 45) #[] #[]) ∧ s.fr 5 = some (.int .i64 ((j + 1 : Nat) : Int)) ∧ (j = 0 ∨ j < l.length) ∧ risesB (fun a b => keyLt a.k b.k) (l.drop j) = risesB (fun a b => keyLt a.k b.k) l) (fun j => l.length - j) 0 ?_ ?_
  · simp -implicitDefEqProofs (disch := first | omega | (simp only [go_sem, List.size_toArray, List.length_cons, List.length_nil, Nat.reduceAdd]; done)) only [go_sem, Int.reduceLT, Int.reduceLE, Int.reduceEq, reduceIte]
    exact ⟨by trivial, by trivial, by trivial, by trivial, by trivial, .inl (by trivial), by rw [List.drop_zero]⟩
  · rintro j ⟨fr, df, hh, rd⟩ K hK hX ⟨rfl, rfl, h0, h1, h5, hi, ho⟩
    simp only at h0 h1 h5
    simp -implicitDefEqProofs (disch := first | omega | (simp only [go_sem, List.size_toArray, List.length_cons, List.length_nil, Nat.reduceAdd]; done)) only [go_sem, Int.reduceLT, Int.reduceLE, Int.reduceEq, reduceIte, h0, h1, h5, el]
    refine XIf_dec (fun hc1 => ?_) (fun hc1 => ?_)
    · have hj : j + 1 < l.length := by omega
      obtain ⟨id1, o1, e1, _, hat1⟩ := hb.idx (P := Try.prog) (t := 23) el_23 (k := .i64) (i := j) (x := l[j]) (by simp)
      obtain ⟨id2, o2, e2, _, hat2⟩ := hb.idx (P := Try.prog) (t := 23) el_23 (k := .i64) (i := j + 1) (x := l[j + 1]) (by simp)
      have hw := wrap_succ hj (by omega)
      have hw2 : IntKind.i64.wrap (((j + 1 : Nat) : Int) - 1) = (j : Int) := by rw [wrap_i64_in (by omega) (by omega)]; omega
      have l1 : cellsAt hh id1 o1 4 = some (cellV l[j]) := hat1.flat.2.1
      have l2 : cellsAt hh id2 o2 4 = some (cellV l[j + 1]) := hat2.flat.2.1
      simp -implicitDefEqProofs (disch := first | omega | (simp only [go_sem, List.size_toArray, List.length_cons, List.length_nil, Nat.reduceAdd]; done)) only [go_sem, Int.reduceLT, Int.reduceLE, Int.reduceEq, reduceIte]
      refine dr_44_0 ?_
      simp -implicitDefEqProofs (disch := first | omega | (simp only [go_sem, List.size_toArray, List.length_cons, List.length_nil, Nat.reduceAdd]; done)) only [go_sem, Int.reduceLT, Int.reduceLE, Int.reduceEq, reduceIte, l44_0, h0, h1, h5, hw2, e1, e2, l1, l2, List.nil_append]
      refine dcall below_c ?_
      rw [risesB_two hj] at ho
      by_cases hlt : keyLt l[j].k l[j + 1].k = true
      · rw [hlt, Bool.true_and] at ho
        simp -implicitDefEqProofs (disch := first | omega | (simp only [go_sem, List.size_toArray, List.length_cons, List.length_nil, Nat.reduceAdd]; done)) only [go_sem, Int.reduceLT, Int.reduceLE, Int.reduceEq, reduceIte, hlt, true_and, h0, h1, h5, hw]
        refine hK (j + 1) _ ?_ (by omega)
        exact ⟨by trivial, by trivial, by simp -implicitDefEqProofs (disch := first | omega | (simp only [go_sem, List.size_toArray, List.length_cons, List.length_nil, Nat.reduceAdd]; done)) only [go_sem, Int.reduceLT, Int.reduceLE, Int.reduceEq, reduceIte, h0], by simp -implicitDefEqProofs (disch := first | omega | (simp only [go_sem, List.size_toArray, List.length_cons, List.length_nil, Nat.reduceAdd]; done)) only [go_sem, Int.reduceLT, Int.reduceLE, Int.reduceEq, reduceIte, h1], by simp -implicitDefEqProofs (disch := first | omega | (simp only [go_sem, List.size_toArray, List.length_cons, List.length_nil, Nat.reduceAdd]; done)) only [go_sem, Int.reduceLT, Int.reduceLE, Int.reduceEq, reduceIte], .inr hj, ho⟩
      · have hlt' : keyLt l[j].k l[j + 1].k = false := by simpa using hlt
        rw [hlt', Bool.false_and] at ho
        simp -implicitDefEqProofs (disch := first | omega | (simp only [go_sem, List.size_toArray, List.length_cons, List.length_nil, Nat.reduceAdd]; done)) only [go_sem, Int.reduceLT, Int.reduceLE, Int.reduceEq, reduceIte, hlt', true_and]
        refine hX _ _ (by simp) ?_
        simp -implicitDefEqProofs (disch := first | omega | (simp only [go_sem, List.size_toArray, List.length_cons, List.length_nil, Nat.reduceAdd]; done)) only [go_sem, Int.reduceLT, Int.reduceLE, Int.reduceEq, reduceIte]
        exact ⟨_, rfl, by rw [← ho], .refl hh⟩
    · refine hX _ _ (by simp) ?_
      simp -implicitDefEqProofs (disch := first | omega | (simp only [go_sem, List.size_toArray, List.length_cons, List.length_nil, Nat.reduceAdd]; done)) only [go_sem, Int.reduceLT, Int.reduceLE, Int.reduceEq, reduceIte]
      refine ⟨_, rfl, ?_, .refl hh⟩
      rw [← ho, risesB_short (by simp; omega)]
/-- a row as it lies -/
structure RowOk (r : Row) : Prop where
  ses : inK .i64 r.ses
  req : inK .i64 r.req
  e : inK .i64 r.x.e
  s : inK .i64 r.x.s
  p : inK .i64 r.x.p
theorem row_rd {S : Nat → Prop} {h : DHeap} {cs : List Value} {r : Row} (a : rRow.rd S h cs r) : ∃ v, cs = [.int .i64 r.ses, .int .i64 r.req, .int .i64 r.x.e, v, .int .i64 r.x.s, .int .i64 r.x.p] ∧ Sl fI64.rep S h v r.x.vs ∧ RowOk r := by
  obtain ⟨c1, c2, rfl, ⟨rfl, k1⟩, c3, c4, rfl, ⟨rfl, k2⟩, c5, c6, rfl, ⟨rfl, k3⟩, c7, c8, rfl, ⟨v, rfl, hs⟩, c9, c10, rfl, ⟨rfl, k4⟩, rfl, k5⟩ := a
  exact ⟨v, rfl, hs, ⟨k1, k2, k3, k4, k5⟩⟩
theorem rd_row {S : Nat → Prop} {h : DHeap} {r : Row} {v : Value} (hs : Sl fI64.rep S h v r.x.vs) (k : RowOk r) : rRow.rd S h [.int .i64 r.ses, .int .i64 r.req, .int .i64 r.x.e, v, .int .i64 r.x.s, .int .i64 r.x.p] r :=
  ⟨_, _, rfl, ⟨rfl, k.ses⟩, _, _, rfl, ⟨rfl, k.req⟩, _, _, rfl, ⟨rfl, k.e⟩, _, _, rfl, ⟨v, rfl, hs⟩, _, _, rfl, ⟨rfl, k.s⟩, rfl, k.p⟩
theorem row_at {S : Nat → Prop} {h : DHeap} {id o : Nat} {r : Row} (a : At rRow S h id o r) : ∃ v, cellsAt h id o 6 = some (rowV r v) ∧ Sl fI64.rep S h v r.x.vs ∧ RowOk r := by
  obtain ⟨cs, e1, e2⟩ := a.load_agg
  obtain ⟨v, rfl, h2⟩ := row_rd e2
  exact ⟨v, e1, h2⟩
theorem risesRow_c {h : DHeap} {b : Value} {l : List Row} (hb : Arg rRow h b l) (hlen : l.length ≤ 4294967296) :
    DC Try.prog 47 [b, .func (.func 48) #[] #[]] h (.ret (.bool (risesB (fun a b => decide (a.ses < b.ses)) l))) h := by
  refine Ct.pure (go_47 (by simp) ?_) (vin_bool _)
  have el := hb.dLen (P := Try.prog) (ts := #[24]) (t := 24) rfl isl_24
  simp -implicitDefEqProofs (disch := first | omega | (simp only [go_sem, List.size_toArray, List.length_cons, List.length_nil, Nat.reduceAdd]; done)) only [go_sem, Int.reduceLT, Int.reduceLE, Int.reduceEq, reduceIte, c47]
  refine xloop (σ := Nat) (by kernel_rfl) (fun j s => s.df = [] ∧ s.h = h ∧ s.fr 0 = some b ∧ s.fr 1 = some (.func (.func 48) #[] #[]) ∧ s.fr 5 = some (.int .i64 ((j + 1 : Nat) : Int)) ∧ (j = 0 ∨ j < l.length) ∧ risesB (fun a b => decide (a.ses < b.ses)) (l.drop j) = risesB (fun a b => decide (a.ses < b.ses)) l) (fun j => l.length - j) 0 ?_ ?_
  · simp -implicitDefEqProofs (disch := first | omega | (simp only [go_sem, List.size_toArray, List.length_cons, List.length_nil, Nat.reduceAdd]; done)) only [go_sem, Int.reduceLT, Int.reduceLE, Int.reduceEq, reduceIte]
    exact ⟨by trivial, by trivial, by trivial, by trivial, by trivial, .inl (by trivial), by rw [List.drop_zero]⟩
  · rintro j ⟨fr, df, hh, rd⟩ K hK hX ⟨rfl, rfl, h0, h1, h5, hi, ho⟩
    simp only at h0 h1 h5
    simp -implicitDefEqProofs (disch := first | omega | (simp only [go_sem, List.size_toArray, List.length_cons, List.length_nil, Nat.reduceAdd]; done)) only [go_sem, Int.reduceLT, Int.reduceLE, Int.reduceEq, reduceIte, h0, h1, h5, el]
    refine XIf_dec (fun hc1 => ?_) (fun hc1 => ?_)
    · have hj : j + 1 < l.length := by omega
      obtain ⟨id1, o1, e1, _, hat1⟩ := hb.idx (P := Try.prog) (t := 24) el_24 (k := .i64) (i := j) (x := l[j]) (by simp)
      obtain ⟨id2, o2, e2, _, hat2⟩ := hb.idx (P := Try.prog) (t := 24) el_24 (k := .i64) (i := j + 1) (x := l[j + 1]) (by simp)
      have hw := wrap_succ hj (by omega)
      have hw2 : IntKind.i64.wrap (((j + 1 : Nat) : Int) - 1) = (j : Int) := by rw [wrap_i64_in (by omega) (by omega)]; omega
      obtain ⟨v1, l1, s1, _⟩ := row_at hat1
      obtain ⟨v2, l2, s2, _⟩ := row_at hat2
      simp -implicitDefEqProofs (disch := first | omega | (simp only [go_sem, List.size_toArray, List.length_cons, List.length_nil, Nat.reduceAdd]; done)) only [go_sem, Int.reduceLT, Int.reduceLE, Int.reduceEq, reduceIte]
      refine dr_47_0 ?_
      simp -implicitDefEqProofs (disch := first | omega | (simp only [go_sem, List.size_toArray, List.length_cons, List.length_nil, Nat.reduceAdd]; done)) only [go_sem, Int.reduceLT, Int.reduceLE, Int.reduceEq, reduceIte, l47_0, h0, h1, h5, hw2, e1, e2, l1, l2, List.nil_append]
      refine dcall (belowRow_c s1.cells1 s2.cells1) ?_
      rw [risesB_two hj] at ho
      by_cases hlt : l[j].ses < l[j + 1].ses
      · rw [decide_eq_true hlt, Bool.true_and] at ho
        simp -implicitDefEqProofs (disch := first | omega | (simp only [go_sem, List.size_toArray, List.length_cons, List.length_nil, Nat.reduceAdd]; done)) only [go_sem, Int.reduceLT, Int.reduceLE, Int.reduceEq, reduceIte, hlt, true_and, h0, h1, h5, hw]
        refine hK (j + 1) _ ?_ (by omega)
        exact ⟨by trivial, by trivial, by simp -implicitDefEqProofs (disch := first | omega | (simp only [go_sem, List.size_toArray, List.length_cons, List.length_nil, Nat.reduceAdd]; done)) only [go_sem, Int.reduceLT, Int.reduceLE, Int.reduceEq, reduceIte, h0], by simp -implicitDefEqProofs (disch := first | omega | (simp only [go_sem, List.size_toArray, List.length_cons, List.length_nil, Nat.reduceAdd]; done)) only [go_sem, Int.reduceLT, Int.reduceLE, Int.reduceEq, reduceIte, h1], by simp -implicitDefEqProofs (disch := first | omega | (simp only [go_sem, List.size_toArray, List.length_cons, List.length_nil, Nat.reduceAdd]; done)) only [go_sem, Int.reduceLT, Int.reduceLE, Int.reduceEq, reduceIte], .inr hj, ho⟩
      · rw [decide_eq_false hlt, Bool.false_and] at ho
        simp -implicitDefEqProofs (disch := first | omega | (simp only [go_sem, List.size_toArray, List.length_cons, List.length_nil, Nat.reduceAdd]; done)) only [go_sem, Int.reduceLT, Int.reduceLE, Int.reduceEq, reduceIte, hlt, true_and]
        refine hX _ _ (by simp) ?_
        simp -implicitDefEqProofs (disch := first | omega | (simp only [go_sem, List.size_toArray, List.length_cons, List.length_nil, Nat.reduceAdd]; done)) only [go_sem, Int.reduceLT, Int.reduceLE, Int.reduceEq, reduceIte]
        exact ⟨_, rfl, by rw [← ho], .refl hh⟩
    · refine hX _ _ (by simp) ?_
      simp -implicitDefEqProofs (disch := first | omega | (simp only [go_sem, List.size_toArray, List.length_cons, List.length_nil, Nat.reduceAdd]; done)) only [go_sem, Int.reduceLT, Int.reduceLE, Int.reduceEq, reduceIte]
      refine ⟨_, rfl, ?_, .refl hh⟩
      rw [← ho, risesB_short (by simp; omega)]
end Go.Proofs.Ytlhgijpdhniddaa

namespace Go.Proofs.Ytlhgijpdhniddaa
open Go.D
set_option maxRecDepth 100000

abbrev stateV (n : Int) (cv rv : Value) : Value := .agg #[.int .i64 n, cv, rv]
def mayCell (n : Int) (c : Cell) : Bool := countB c.s (n - 1)
def mayRowB (n : Int) (r : Row) : Bool := (((((decide (1 ≤ r.ses ∧ r.ses ≤ 1099511627776) && decide (1 ≤ r.req ∧ r.req ≤ 1099511627776)) && countB r.x.e 355) && decide (r.x.vs.length ≤ 8)) && countB r.x.s (n - 1)) && countB r.x.p 15)
def mayB (x : State) : Bool :=
  (((countB x.slot 1099511627776 && decide (x.rows.length ≤ 64)) && (risesB (fun a b => keyLt a.k b.k) x.cells && risesB (fun a b => decide (a.ses < b.ses)) x.rows)) && x.cells.all (mayCell x.slot)) && x.rows.all (mayRowB x.slot)
def checkE (x : State) : Int := if mayB x then 0 else 220

theorem cnt1 {s : Int} (hs : inK .i64 s) : countB (IntKind.i64.wrap (s - 1)) 1099511627775 = decide (1 ≤ s ∧ s ≤ 1099511627776) := by
  have h1 := inK_i64.1 hs
  by_cases h0 : s = -9223372036854775808
  · subst h0; decide
  · rw [wrap_i64_in (by omega) (by omega)]
    unfold countB
    rw [← Bool.decide_and]
    exact decide_eq_decide.2 (by omega)
theorem check_c {h : DHeap} {n : Int} {cv rv : Value} {cells : List Cell} {rows : List Row} (hn : inK .i64 n) (hc : Arg fCell.rep h cv cells) (hr : Arg rRow h rv rows) (hlc : cells.length ≤ 4294967296) (hlr : rows.length ≤ 4294967296) :
    DC Try.prog 17 [stateV n cv rv] h (.ret (.int .i64 (checkE ⟨n, cells, rows⟩))) h := by
  refine Ct.pure (go_17 (by simp) ?_) (vin_int _ _)
  have hn' := inK_i64.1 hn
  have c1 := hc.cells1
  have r1 := hr.cells1
  obtain ⟨H0, hH0⟩ : ∃ H, H = h.push (.row [.int .i64 n, cv, rv] 0 false) := ⟨_, rfl⟩
  have hE0 : Ext h H0 := by rw [hH0]; exact Ext.push1 _ _
  have hB0 : H0.get h.next = some (.row [.int .i64 n, cv, rv] 0 false) := by rw [hH0]; exact get_push_same _ _
  have hN0 : h.next < H0.next := by rw [hH0, next_push]; omega
  have er := hr.lens (P := Try.prog) (ts := #[24]) (t := 24) rfl isl_24
  have ec := hc.lens (P := Try.prog) (ts := #[23]) (t := 23) rfl isl_23
  have B0 : cellAt H0 h.next 0 = some (.int .i64 n) := cellAt_row hB0
  have B1 : cellAt H0 h.next 1 = some cv := cellAt_row hB0
  have B2 : cellAt H0 h.next 2 = some rv := cellAt_row hB0
  simp -implicitDefEqProofs (disch := first | omega | (simp only [go_sem, List.size_toArray, List.length_cons, List.length_nil, Nat.reduceAdd]; done)) only [go_sem, Int.reduceLT, Int.reduceLE, Int.reduceEq, reduceIte, c17, ← hH0, B0, B1, B2, Nat.add_zero, Nat.zero_add]
  obtain ⟨ok1, e1⟩ : ∃ b, (countB n 1099511627776 && decide (rows.length ≤ 64)) = b := ⟨_, rfl⟩
  obtain ⟨ok2, e2⟩ : ∃ b, (ok1 && (risesB (fun a b => keyLt a.k b.k) cells && risesB (fun a b => decide (a.ses < b.ses)) rows)) = b := ⟨_, rfl⟩
  refine NCl_cut (fun s => s.df = [] ∧ s.h = H0 ∧ s.fr 1 = some (.pointer (some ⟨h.next, 0, none⟩)) ∧ s.fr 3 = some (.bool ok1)) ?_ ?_
  · refine ncall count_c ?_
    by_cases h1 : countB n 1099511627776 = true
    · rw [h1]
      by_cases h2 : rows.length ≤ 64
      · have h2i : ((rows.length : Nat) : Int) ≤ 64 := by omega
        simp -implicitDefEqProofs (disch := first | omega | (simp only [go_sem, List.size_toArray, List.length_cons, List.length_nil, Nat.reduceAdd]; done)) only [go_sem, Int.reduceLT, Int.reduceLE, Int.reduceEq, reduceIte, B2, er, h2i, dPick_t, dPick_f, Nat.zero_add]
        exact ⟨by trivial, by trivial, by trivial, by rw [← e1]; simp [h1, h2]⟩
      · have h2i : ¬ ((rows.length : Nat) : Int) ≤ 64 := by omega
        simp -implicitDefEqProofs (disch := first | omega | (simp only [go_sem, List.size_toArray, List.length_cons, List.length_nil, Nat.reduceAdd]; done)) only [go_sem, Int.reduceLT, Int.reduceLE, Int.reduceEq, reduceIte, B2, er, h2i, dPick_t, dPick_f, Nat.zero_add]
        exact ⟨by trivial, by trivial, by trivial, by rw [← e1]; simp [h1, h2]⟩
    · rw [show countB n 1099511627776 = false by simpa using h1]
      simp -implicitDefEqProofs (disch := first | omega | (simp only [go_sem, List.size_toArray, List.length_cons, List.length_nil, Nat.reduceAdd]; done)) only [go_sem, Int.reduceLT, Int.reduceLE, Int.reduceEq, reduceIte, B2, er, dPick_t, dPick_f]
      exact ⟨by trivial, by trivial, by trivial, by rw [← e1]; simp [h1]⟩
  rintro ⟨fr, df, hh, rd⟩ ⟨rfl, rfl, f1, f3⟩
  simp only at f1 f3
  simp -implicitDefEqProofs (disch := first | omega | (simp only [go_sem, List.size_toArray, List.length_cons, List.length_nil, Nat.reduceAdd]; done)) only [go_sem, Int.reduceLT, Int.reduceLE, Int.reduceEq, reduceIte, f1, f3]
  have hc0 := hc.ext hE0
  have hr0 := hr.ext hE0
  refine NStp_cut (fun s => s.df = [] ∧ s.h = hh ∧ s.fr 1 = some (.pointer (some ⟨h.next, 0, none⟩)) ∧ s.fr 3 = some (.bool ok2)) ?_ ?_
  · cases ok1 with
    | true =>
      simp -implicitDefEqProofs (disch := first | omega | (simp only [go_sem, List.size_toArray, List.length_cons, List.length_nil, Nat.reduceAdd]; done)) only [go_sem, Int.reduceLT, Int.reduceLE, Int.reduceEq, reduceIte, f1, f3, B1, B2, Nat.zero_add]
      refine ncall (risesCell_c hc0 hlc) ?_
      by_cases h1 : risesB (fun a b => keyLt a.k b.k) cells = true
      · rw [h1]
        simp -implicitDefEqProofs (disch := first | omega | (simp only [go_sem, List.size_toArray, List.length_cons, List.length_nil, Nat.reduceAdd]; done)) only [go_sem, Int.reduceLT, Int.reduceLE, Int.reduceEq, reduceIte, f1, f3, B1, B2, Nat.zero_add, dPick_t]
        refine ncall (risesRow_c hr0 hlr) ?_
        simp -implicitDefEqProofs (disch := first | omega | (simp only [go_sem, List.size_toArray, List.length_cons, List.length_nil, Nat.reduceAdd]; done)) only [go_sem, Int.reduceLT, Int.reduceLE, Int.reduceEq, reduceIte, f1, dPick_t]
        exact ⟨by trivial, by trivial, by trivial, by rw [← e2]; simp [h1]⟩
      · rw [show risesB (fun a b => keyLt a.k b.k) cells = false by simpa using h1]
        simp -implicitDefEqProofs (disch := first | omega | (simp only [go_sem, List.size_toArray, List.length_cons, List.length_nil, Nat.reduceAdd]; done)) only [go_sem, Int.reduceLT, Int.reduceLE, Int.reduceEq, reduceIte, f1, dPick_t, dPick_f]
        exact ⟨by trivial, by trivial, by trivial, by rw [← e2]; simp [h1]⟩
    | false =>
      simp -implicitDefEqProofs (disch := first | omega | (simp only [go_sem, List.size_toArray, List.length_cons, List.length_nil, Nat.reduceAdd]; done)) only [go_sem, Int.reduceLT, Int.reduceLE, Int.reduceEq, reduceIte, f1, f3, dPick_f]
      exact ⟨by trivial, by trivial, by trivial, by rw [← e2]; simp⟩
  have hpos : ok2 = true → 0 ≤ n := by
    intro hk
    rw [← e2, ← e1] at hk
    simp [countB] at hk
    omega
  rintro ⟨fr, df, hh2, rd⟩ ⟨rfl, rfl, f1, f3⟩
  simp only at f1 f3
  simp -implicitDefEqProofs (disch := first | omega | (simp only [go_sem, List.size_toArray, List.length_cons, List.length_nil, Nat.reduceAdd]; done)) only [go_sem, Int.reduceLT, Int.reduceLE, Int.reduceEq, reduceIte, f1, f3, B1, ec, Nat.zero_add]
  refine xloop (σ := Nat) (by kernel_rfl) (fun i s => s.df = [] ∧ Ext hh2 s.h ∧ s.fr 1 = some (.pointer (some ⟨h.next, 0, none⟩)) ∧ s.fr 30 = some cv ∧ s.fr 31 = some (.int .i64 cells.length) ∧ s.fr 32 = some (.int .i64 (i : Nat)) ∧ i ≤ cells.length ∧ s.fr 3 = some (.bool (ok2 && (cells.take i).all (mayCell n)))) (fun i => cells.length - i) 0 ?_ ?_
  · simp -implicitDefEqProofs (disch := first | omega | (simp only [go_sem, List.size_toArray, List.length_cons, List.length_nil, Nat.reduceAdd]; done)) only [go_sem, Int.reduceLT, Int.reduceLE, Int.reduceEq, reduceIte, f1, f3]
    exact ⟨by trivial, .refl _, by trivial, by trivial, by trivial, by trivial, Nat.zero_le _, by simp⟩
  · rintro i ⟨fr, df, hh, rd⟩ K hK hX ⟨rfl, hE, f1, f30, f31, f32, hi, f3⟩
    simp only at hE f1 f30 f31 f32 f3
    have hB : hh.get h.next = some (.row [.int .i64 n, cv, rv] 0 false) := (hE.get _ hN0).trans hB0
    have hBn : h.next < hh.next := Nat.lt_of_lt_of_le hN0 hE.next
    have C0 : cellAt hh h.next 0 = some (.int .i64 n) := cellAt_row hB
    have C2 : cellAt hh h.next 2 = some rv := cellAt_row hB
    simp -implicitDefEqProofs (disch := first | omega | (simp only [go_sem, List.size_toArray, List.length_cons, List.length_nil, Nat.reduceAdd]; done)) only [go_sem, Int.reduceLT, Int.reduceLE, Int.reduceEq, reduceIte, f1, f30, f31, f32]
    refine XIf_dec (fun hc1 => ?_) (fun hc1 => ?_)
    · have hj : i < cells.length := by omega
      obtain ⟨id1, o1, g1, _, hat1⟩ := (hc0.ext hE).idx (P := Try.prog) (t := 23) el_23 (k := .i64) (i := i) (x := cells[i]) (by simp)
      have l1 : cellsAt hh id1 o1 4 = some (cellV cells[i]) := hat1.flat.2.1
      have hw := wrap_succ hj (by omega)
      obtain ⟨ok, eo⟩ : ∃ b, (ok2 && (cells.take i).all (mayCell n)) = b := ⟨_, rfl⟩
      rw [eo] at f3
      have hst : [Value.int .i32 cells[i].k.t, .int .i64 cells[i].k.r, .int .i64 cells[i].v, .int .i64 cells[i].s].all Value.oneCell' = true := rfl
      have hnx : (ok2 && (cells.take (i + 1)).all (mayCell n)) = (ok && mayCell n cells[i]) := by
        rw [take_snoc (get_of_lt hj), List.all_append, ← eo, Bool.and_assoc]; simp
      have hE2 : ∀ x, Ext hh2 (hh.push x) := fun x => hE.push x
      cases ok with
      | true =>
        have hn0 : 0 ≤ n := hpos (by
          cases ok2
          · simp at eo
          · rfl)
        have hnw : IntKind.i64.wrap (n - 1) = n - 1 := wrap_i64_in (by omega) (by omega)
        simp -implicitDefEqProofs (disch := first | omega | (simp only [go_sem, List.size_toArray, List.length_cons, List.length_nil, Nat.reduceAdd]; done)) only [go_sem, Int.reduceLT, Int.reduceLE, Int.reduceEq, reduceIte, f1, f3, f30, f31, f32, g1, l1, List.nil_append, store4_push hst, cellAt_p0, cellAt_o1, C0, hnw, Nat.zero_add, Nat.add_zero]
        refine ncall count_c ?_
        simp -implicitDefEqProofs (disch := first | omega | (simp only [go_sem, List.size_toArray, List.length_cons, List.length_nil, Nat.reduceAdd]; done)) only [go_sem, Int.reduceLT, Int.reduceLE, Int.reduceEq, reduceIte, f1, f3, f30, f31, f32, hw, dPick_t]
        refine hK (i + 1) _ ?_ (by omega)
        exact ⟨by trivial, hE2 _, by simp -implicitDefEqProofs (disch := first | omega | (simp only [go_sem, List.size_toArray, List.length_cons, List.length_nil, Nat.reduceAdd]; done)) only [go_sem, Int.reduceLT, Int.reduceLE, Int.reduceEq, reduceIte, f1], by simp -implicitDefEqProofs (disch := first | omega | (simp only [go_sem, List.size_toArray, List.length_cons, List.length_nil, Nat.reduceAdd]; done)) only [go_sem, Int.reduceLT, Int.reduceLE, Int.reduceEq, reduceIte, f30], by simp -implicitDefEqProofs (disch := first | omega | (simp only [go_sem, List.size_toArray, List.length_cons, List.length_nil, Nat.reduceAdd]; done)) only [go_sem, Int.reduceLT, Int.reduceLE, Int.reduceEq, reduceIte, f31], by simp -implicitDefEqProofs (disch := first | omega | (simp only [go_sem, List.size_toArray, List.length_cons, List.length_nil, Nat.reduceAdd]; done)) only [go_sem, Int.reduceLT, Int.reduceLE, Int.reduceEq, reduceIte], by omega, by simp -implicitDefEqProofs (disch := first | omega | (simp only [go_sem, List.size_toArray, List.length_cons, List.length_nil, Nat.reduceAdd]; done)) only [go_sem, Int.reduceLT, Int.reduceLE, Int.reduceEq, reduceIte]; rw [hnx, Bool.true_and]; rfl⟩
      | false =>
        simp -implicitDefEqProofs (disch := first | omega | (simp only [go_sem, List.size_toArray, List.length_cons, List.length_nil, Nat.reduceAdd]; done)) only [go_sem, Int.reduceLT, Int.reduceLE, Int.reduceEq, reduceIte, f1, f3, f30, f31, f32, g1, l1, List.nil_append, store4_push hst, hw, dPick_f]
        refine hK (i + 1) _ ?_ (by omega)
        exact ⟨by trivial, hE2 _, by simp -implicitDefEqProofs (disch := first | omega | (simp only [go_sem, List.size_toArray, List.length_cons, List.length_nil, Nat.reduceAdd]; done)) only [go_sem, Int.reduceLT, Int.reduceLE, Int.reduceEq, reduceIte, f1], by simp -implicitDefEqProofs (disch := first | omega | (simp only [go_sem, List.size_toArray, List.length_cons, List.length_nil, Nat.reduceAdd]; done)) only [go_sem, Int.reduceLT, Int.reduceLE, Int.reduceEq, reduceIte, f30], by simp -implicitDefEqProofs (disch := first | omega | (simp only [go_sem, List.size_toArray, List.length_cons, List.length_nil, Nat.reduceAdd]; done)) only [go_sem, Int.reduceLT, Int.reduceLE, Int.reduceEq, reduceIte, f31], by simp -implicitDefEqProofs (disch := first | omega | (simp only [go_sem, List.size_toArray, List.length_cons, List.length_nil, Nat.reduceAdd]; done)) only [go_sem, Int.reduceLT, Int.reduceLE, Int.reduceEq, reduceIte], by omega, by simp -implicitDefEqProofs (disch := first | omega | (simp only [go_sem, List.size_toArray, List.length_cons, List.length_nil, Nat.reduceAdd]; done)) only [go_sem, Int.reduceLT, Int.reduceLE, Int.reduceEq, reduceIte]; rw [hnx, Bool.false_and]⟩
    · obtain rfl : i = cells.length := by omega
      rw [List.take_length] at f3
      obtain ⟨ok3, e3⟩ : ∃ b, (ok2 && cells.all (mayCell n)) = b := ⟨_, rfl⟩
      rw [e3] at f3
      have hpos3 : ok3 = true → 0 ≤ n := fun hk => hpos (by
        cases ok2
        · rw [← e3] at hk; simp at hk
        · rfl)
      have hEh : Ext h hh := hE0.trans hE
      have hr1 := hr.ext hEh
      have hNh : h.next < hh.next := hBn
      clear hE hK hc0 hr0
      refine hX _ _ (by simp) ?_
      simp -implicitDefEqProofs (disch := first | omega | (simp only [go_sem, List.size_toArray, List.length_cons, List.length_nil, Nat.reduceAdd]; done)) only [go_sem, Int.reduceLT, Int.reduceLE, Int.reduceEq, reduceIte, f1, f3, C2, er, Nat.zero_add]
      refine xloop (σ := Nat) (by kernel_rfl) (fun i s => s.df = [] ∧ Ext hh s.h ∧ s.fr 1 = some (.pointer (some ⟨h.next, 0, none⟩)) ∧ s.fr 47 = some rv ∧ s.fr 48 = some (.int .i64 rows.length) ∧ s.fr 49 = some (.int .i64 (i : Nat)) ∧ i ≤ rows.length ∧ s.fr 3 = some (.bool (ok3 && (rows.take i).all (mayRowB n)))) (fun i => rows.length - i) 0 ?_ ?_
      · simp -implicitDefEqProofs (disch := first | omega | (simp only [go_sem, List.size_toArray, List.length_cons, List.length_nil, Nat.reduceAdd]; done)) only [go_sem, Int.reduceLT, Int.reduceLE, Int.reduceEq, reduceIte, f1, f3]
        exact ⟨by trivial, .refl _, by trivial, by trivial, by trivial, by trivial, Nat.zero_le _, by simp⟩
      · rintro i ⟨fr, df, h2, rd⟩ K hK hX ⟨rfl, hE, f1, f47, f48, f49, hi, f3⟩
        simp only at hE f1 f47 f48 f49 f3
        have hB2 : h2.get h.next = some (.row [.int .i64 n, cv, rv] 0 false) := (hE.get _ hNh).trans hB
        have hBn : h.next < h2.next := Nat.lt_of_lt_of_le hNh hE.next
        have C0 : cellAt h2 h.next 0 = some (.int .i64 n) := cellAt_row hB2
        simp -implicitDefEqProofs (disch := first | omega | (simp only [go_sem, List.size_toArray, List.length_cons, List.length_nil, Nat.reduceAdd]; done)) only [go_sem, Int.reduceLT, Int.reduceLE, Int.reduceEq, reduceIte, f1, f47, f48, f49]
        refine XIf_dec (fun hc1 => ?_) (fun hc1 => ?_)
        · have hj : i < rows.length := by omega
          obtain ⟨id1, o1, g1, _, hat1⟩ := (hr1.ext hE).idx (P := Try.prog) (t := 24) el_24 (k := .i64) (i := i) (x := rows[i]) (by simp)
          obtain ⟨v1, l1, s1, k1⟩ := row_at hat1
          have hw := wrap_succ hj (by omega)
          obtain ⟨ok, eo⟩ : ∃ b, (ok3 && (rows.take i).all (mayRowB n)) = b := ⟨_, rfl⟩
          rw [eo] at f3
          have hnx : (ok3 && (rows.take (i + 1)).all (mayRowB n)) = (ok && mayRowB n rows[i]) := by
            rw [take_snoc (get_of_lt hj), List.all_append, ← eo, Bool.and_assoc]; simp
          have hE2 : ∀ x y, Ext hh ((h2.push x).push y) := fun x y => (hE.push x).push y
          have hst := rRow.one (rd_row s1 k1)
          have hst2 : [Value.int .i64 rows[i].x.e, v1, .int .i64 rows[i].x.s, .int .i64 rows[i].x.p].all Value.oneCell' = true := by
            obtain ⟨_, _, rfl⟩ := s1.isSlice
            rfl
          have ev := s1.lens (P := Try.prog) (ts := #[51]) (t := 51) rfl isl_51
          simp -implicitDefEqProofs (disch := first | omega | (simp only [go_sem, List.size_toArray, List.length_cons, List.length_nil, Nat.reduceAdd]; done)) only [go_sem, Int.reduceLT, Int.reduceLE, Int.reduceEq, reduceIte, f1, f3, f47, f48, f49, g1, l1, List.nil_append, store6_push hst, cells4_at2_p0, store4_push hst2, Nat.zero_add]
          obtain ⟨Ra, hRa⟩ : ∃ x, x = DObj.row [Value.int .i64 rows[i].ses, Value.int .i64 rows[i].req, Value.int .i64 rows[i].x.e, v1, Value.int .i64 rows[i].x.s, Value.int .i64 rows[i].x.p] 0 false := ⟨_, rfl⟩
          obtain ⟨Rb, hRb⟩ : ∃ x, x = DObj.row [Value.int .i64 rows[i].x.e, v1, Value.int .i64 rows[i].x.s, Value.int .i64 rows[i].x.p] 0 false := ⟨_, rfl⟩
          obtain ⟨okm, em⟩ : ∃ b, (ok && (decide (1 ≤ rows[i].ses ∧ rows[i].ses ≤ 1099511627776) && decide (1 ≤ rows[i].req ∧ rows[i].req ≤ 1099511627776))) = b := ⟨_, rfl⟩
          have hfin : (ok && mayRowB n rows[i]) = (okm && (((countB rows[i].x.e 355 && decide (rows[i].x.vs.length ≤ 8)) && countB rows[i].x.s (n - 1)) && countB rows[i].x.p 15)) := by
            rw [← em]; simp only [mayRowB, Bool.and_assoc]
          refine NStp_cut (fun s => s.df = [] ∧ s.h = (h2.push Ra).push Rb ∧ s.fr 1 = some (.pointer (some ⟨h.next, 0, none⟩)) ∧ s.fr 8 = some (.pointer (some ⟨(h2.push Ra).next, 0, none⟩)) ∧ s.fr 47 = some rv ∧ s.fr 48 = some (.int .i64 rows.length) ∧ s.fr 49 = some (.int .i64 (i : Nat)) ∧ s.fr 3 = some (.bool okm)) ?_ ?_
          · cases ok with
            | true =>
              simp -implicitDefEqProofs (disch := first | omega | (simp only [go_sem, List.size_toArray, List.length_cons, List.length_nil, Nat.reduceAdd]; done)) only [go_sem, Int.reduceLT, Int.reduceLE, Int.reduceEq, reduceIte, f1, f3, f47, f48, f49, cellAt_p1, Nat.zero_add]
              refine ncall count_c ?_
              rw [cnt1 k1.ses]
              by_cases h1 : (1 ≤ rows[i].ses ∧ rows[i].ses ≤ 1099511627776)
              · simp -implicitDefEqProofs (disch := first | omega | (simp only [go_sem, List.size_toArray, List.length_cons, List.length_nil, Nat.reduceAdd]; done)) only [go_sem, Int.reduceLT, Int.reduceLE, Int.reduceEq, reduceIte, f1, f3, f47, f48, f49, h1, cellAt_p1, Nat.zero_add, dPick_t, and_self]
                refine ncall count_c ?_
                rw [cnt1 k1.req]
                simp -implicitDefEqProofs (disch := first | omega | (simp only [go_sem, List.size_toArray, List.length_cons, List.length_nil, Nat.reduceAdd]; done)) only [go_sem, Int.reduceLT, Int.reduceLE, Int.reduceEq, reduceIte, f1, f3, f47, f48, f49, cellAt_p1, Nat.zero_add, dPick_t, hRa, hRb]
                exact ⟨by trivial, by trivial, by trivial, by trivial, by trivial, by trivial, by trivial, by rw [← em]; simp [h1]⟩
              · simp -implicitDefEqProofs (disch := first | omega | (simp only [go_sem, List.size_toArray, List.length_cons, List.length_nil, Nat.reduceAdd]; done)) only [go_sem, Int.reduceLT, Int.reduceLE, Int.reduceEq, reduceIte, f1, f3, f47, f48, f49, h1, cellAt_p1, Nat.zero_add, dPick_t, dPick_f, hRa, hRb]
                exact ⟨by trivial, by trivial, by trivial, by trivial, by trivial, by trivial, by trivial, by rw [← em]; simp [h1]⟩
            | false =>
              simp -implicitDefEqProofs (disch := first | omega | (simp only [go_sem, List.size_toArray, List.length_cons, List.length_nil, Nat.reduceAdd]; done)) only [go_sem, Int.reduceLT, Int.reduceLE, Int.reduceEq, reduceIte, f1, f3, f47, f48, f49, dPick_f, hRa, hRb]
              exact ⟨by trivial, by trivial, by trivial, by trivial, by trivial, by trivial, by trivial, by rw [← em]; simp⟩
          clear f3
          have hokn : ok = true → ok3 = true := by
            intro hh; rw [hh] at eo
            cases ok3
            · simp at eo
            · rfl
          rintro ⟨fr, df, h3, rd⟩ ⟨rfl, rfl, f1, f8, f47, f48, f49, f3⟩
          simp only at f1 f8 f47 f48 f49 f3
          rw [hfin] at hnx
          simp -implicitDefEqProofs (disch := first | omega | (simp only [go_sem, List.size_toArray, List.length_cons, List.length_nil, Nat.reduceAdd]; done)) only [go_sem, Int.reduceLT, Int.reduceLE, Int.reduceEq, reduceIte, f1, f8, f47, f48, f49, f3]
          refine NStp_cutB (fun s => s.df = [] ∧ s.h = (h2.push Ra).push Rb ∧ s.fr 1 = some (.pointer (some ⟨h.next, 0, none⟩)) ∧ s.fr 47 = some rv ∧ s.fr 48 = some (.int .i64 rows.length) ∧ s.fr 49 = some (.int .i64 (i : Nat)) ∧ s.fr 3 = some (.bool (ok3 && (rows.take (i + 1)).all (mayRowB n)))) ?_ ?_
          · rw [hnx]
            cases okm with
            | false =>
              simp -implicitDefEqProofs (disch := first | omega | (simp only [go_sem, List.size_toArray, List.length_cons, List.length_nil, Nat.reduceAdd]; done)) only [go_sem, Int.reduceLT, Int.reduceLE, Int.reduceEq, reduceIte, f1, f8, f47, f48, f49, f3, dPick_f]
              exact ⟨by trivial, by trivial, by trivial, by trivial, by trivial, by trivial, by simp⟩
            | true =>
              have hn0 : 0 ≤ n := hpos3 (hokn (by
                cases ok
                · simp at em
                · rfl))
              have hnw : IntKind.i64.wrap (n - 1) = n - 1 := wrap_i64_in (by omega) (by omega)
              subst hRa; subst hRb
              simp -implicitDefEqProofs (disch := first | omega | (simp only [go_sem, List.size_toArray, List.length_cons, List.length_nil, Nat.reduceAdd]; done)) only [go_sem, Int.reduceLT, Int.reduceLE, Int.reduceEq, reduceIte, f1, f8, f47, f48, f49, f3, cellAt_p0, Nat.zero_add]
              refine ncall count_c ?_
              by_cases h1 : countB rows[i].x.e 355 = true
              · rw [h1]
                by_cases h2' : rows[i].x.vs.length ≤ 8
                · have h2i : ((rows[i].x.vs.length : Nat) : Int) ≤ 8 := by omega
                  simp -implicitDefEqProofs (disch := first | omega | (simp only [go_sem, List.size_toArray, List.length_cons, List.length_nil, Nat.reduceAdd]; done)) only [go_sem, Int.reduceLT, Int.reduceLE, Int.reduceEq, reduceIte, f1, f8, f47, f48, f49, f3, cellAt_p0, Nat.zero_add, ev, h2i, dPick_t, C0, cellAt_o2, hnw]
                  refine ncall count_c ?_
                  by_cases h3 : countB rows[i].x.s (n - 1) = true
                  · rw [h3]
                    simp -implicitDefEqProofs (disch := first | omega | (simp only [go_sem, List.size_toArray, List.length_cons, List.length_nil, Nat.reduceAdd]; done)) only [go_sem, Int.reduceLT, Int.reduceLE, Int.reduceEq, reduceIte, f1, f8, f47, f48, f49, f3, cellAt_p0, Nat.zero_add, dPick_t]
                    refine ncall count_c ?_
                    simp -implicitDefEqProofs (disch := first | omega | (simp only [go_sem, List.size_toArray, List.length_cons, List.length_nil, Nat.reduceAdd]; done)) only [go_sem, Int.reduceLT, Int.reduceLE, Int.reduceEq, reduceIte, f1, f8, f47, f48, f49, f3, cellAt_p0, Nat.zero_add, dPick_t]
                    exact ⟨by trivial, by trivial, by trivial, by trivial, by trivial, by trivial, by simp [h1, h2', h3]⟩
                  · rw [show countB rows[i].x.s (n - 1) = false by simpa using h3]
                    simp -implicitDefEqProofs (disch := first | omega | (simp only [go_sem, List.size_toArray, List.length_cons, List.length_nil, Nat.reduceAdd]; done)) only [go_sem, Int.reduceLT, Int.reduceLE, Int.reduceEq, reduceIte, f1, f8, f47, f48, f49, f3, dPick_t, dPick_f]
                    exact ⟨by trivial, by trivial, by trivial, by trivial, by trivial, by trivial, by simp [h1, h2', h3]⟩
                · have h2i : ¬ ((rows[i].x.vs.length : Nat) : Int) ≤ 8 := by omega
                  simp -implicitDefEqProofs (disch := first | omega | (simp only [go_sem, List.size_toArray, List.length_cons, List.length_nil, Nat.reduceAdd]; done)) only [go_sem, Int.reduceLT, Int.reduceLE, Int.reduceEq, reduceIte, f1, f8, f47, f48, f49, f3, cellAt_p0, Nat.zero_add, ev, h2i, dPick_t, dPick_f]
                  exact ⟨by trivial, by trivial, by trivial, by trivial, by trivial, by trivial, by simp [h2']⟩
              · rw [show countB rows[i].x.e 355 = false by simpa using h1]
                simp -implicitDefEqProofs (disch := first | omega | (simp only [go_sem, List.size_toArray, List.length_cons, List.length_nil, Nat.reduceAdd]; done)) only [go_sem, Int.reduceLT, Int.reduceLE, Int.reduceEq, reduceIte, f1, f8, f47, f48, f49, f3, dPick_t, dPick_f]
                exact ⟨by trivial, by trivial, by trivial, by trivial, by trivial, by trivial, by simp [h1]⟩
          rintro ⟨fr, df, h3, rd⟩ ⟨rfl, rfl, f1, f47, f48, f49, f3⟩
          simp only at f1 f47 f48 f49 f3
          simp -implicitDefEqProofs (disch := first | omega | (simp only [go_sem, List.size_toArray, List.length_cons, List.length_nil, Nat.reduceAdd]; done)) only [go_sem, Int.reduceLT, Int.reduceLE, Int.reduceEq, reduceIte, f49, hw]
          refine hK (i + 1) _ ?_ (by omega)
          exact ⟨by trivial, hE2 _ _, by simp -implicitDefEqProofs (disch := first | omega | (simp only [go_sem, List.size_toArray, List.length_cons, List.length_nil, Nat.reduceAdd]; done)) only [go_sem, Int.reduceLT, Int.reduceLE, Int.reduceEq, reduceIte, f1], by simp -implicitDefEqProofs (disch := first | omega | (simp only [go_sem, List.size_toArray, List.length_cons, List.length_nil, Nat.reduceAdd]; done)) only [go_sem, Int.reduceLT, Int.reduceLE, Int.reduceEq, reduceIte, f47], by simp -implicitDefEqProofs (disch := first | omega | (simp only [go_sem, List.size_toArray, List.length_cons, List.length_nil, Nat.reduceAdd]; done)) only [go_sem, Int.reduceLT, Int.reduceLE, Int.reduceEq, reduceIte, f48], by simp -implicitDefEqProofs (disch := first | omega | (simp only [go_sem, List.size_toArray, List.length_cons, List.length_nil, Nat.reduceAdd]; done)) only [go_sem, Int.reduceLT, Int.reduceLE, Int.reduceEq, reduceIte], by omega, by simp -implicitDefEqProofs (disch := first | omega | (simp only [go_sem, List.size_toArray, List.length_cons, List.length_nil, Nat.reduceAdd]; done)) only [go_sem, Int.reduceLT, Int.reduceLE, Int.reduceEq, reduceIte, f3]⟩
        · obtain rfl : i = rows.length := by omega
          rw [List.take_length] at f3
          refine hX _ _ (by simp) ?_
          have hres : mayB ⟨n, cells, rows⟩ = (ok3 && rows.all (mayRowB n)) := by
            rw [← e3, ← e2, ← e1]; rfl
          have hfe : Ext h h2 := hEh.trans hE
          unfold checkE
          rw [hres]
          cases hb : (ok3 && rows.all (mayRowB n)) with
          | true =>
            rw [hb] at f3
            simp -implicitDefEqProofs (disch := first | omega | (simp only [go_sem, List.size_toArray, List.length_cons, List.length_nil, Nat.reduceAdd]; done)) only [go_sem, Int.reduceLT, Int.reduceLE, Int.reduceEq, reduceIte, f3]
            exact ⟨_, rfl, rfl, hfe⟩
          | false =>
            rw [hb] at f3
            simp -implicitDefEqProofs (disch := first | omega | (simp only [go_sem, List.size_toArray, List.length_cons, List.length_nil, Nat.reduceAdd]; done)) only [go_sem, Int.reduceLT, Int.reduceLE, Int.reduceEq, reduceIte, f3]
            exact ⟨_, rfl, rfl, hfe⟩
end Go.Proofs.Ytlhgijpdhniddaa

namespace Go.Proofs.Ytlhgijpdhniddaa
open Go.D
set_option maxRecDepth 100000

theorem refcount_c {h : DHeap} {n : Int} : DC Try.prog 64 [.int .i64 n] h (.ret (.bool (countB n 1099511627776))) h := by
  refine Ct.pure (go_64 (by simp) ?_) (vin_bool _)
  unfold countB
  by_cases h0 : 0 ≤ n
  · simp -implicitDefEqProofs (disch := first | omega | (simp only [go_sem, List.size_toArray, List.length_cons, List.length_nil, Nat.reduceAdd]; done)) only [go_sem, Int.reduceLT, Int.reduceLE, Int.reduceEq, reduceIte, c64, ge_iff_le, h0, dPick_t, Bool.true_and]
    exact ⟨_, rfl, rfl, .refl h⟩
  · simp -implicitDefEqProofs (disch := first | omega | (simp only [go_sem, List.size_toArray, List.length_cons, List.length_nil, Nat.reduceAdd]; done)) only [go_sem, Int.reduceLT, Int.reduceLE, Int.reduceEq, reduceIte, c64, ge_iff_le, h0, dPick_f, Bool.false_and]
    exact ⟨_, rfl, rfl, .refl h⟩
theorem mayRow_iff {n : Int} {r : Row} : mayRowB n r = true ↔ (1 ≤ r.ses ∧ r.ses ≤ 1099511627776) ∧ (1 ≤ r.req ∧ r.req ≤ 1099511627776) ∧ (0 ≤ r.x.e ∧ r.x.e ≤ 355) ∧ r.x.vs.length ≤ 8 ∧ (0 ≤ r.x.s ∧ r.x.s < n) ∧ (0 ≤ r.x.p ∧ r.x.p < 16) := by
  simp only [mayRowB, countB, Bool.and_eq_true, decide_eq_true_eq]
  omega
theorem mayRow_false {n : Int} {r : Row} (h : ¬ ((1 ≤ r.ses ∧ r.ses ≤ 1099511627776) ∧ (1 ≤ r.req ∧ r.req ≤ 1099511627776) ∧ (0 ≤ r.x.e ∧ r.x.e ≤ 355) ∧ r.x.vs.length ≤ 8 ∧ (0 ≤ r.x.s ∧ r.x.s < n) ∧ (0 ≤ r.x.p ∧ r.x.p < 16))) : mayRowB n r = false := by
  rw [← mayRow_iff] at h; simpa using h
theorem mayRow_true {n : Int} {r : Row} (h1 : 1 ≤ r.ses ∧ r.ses ≤ 1099511627776) (h2 : 1 ≤ r.req ∧ r.req ≤ 1099511627776) (h3 : 0 ≤ r.x.e ∧ r.x.e ≤ 355) (h4 : r.x.vs.length ≤ 8) (h5 : 0 ≤ r.x.s ∧ r.x.s < n) (h6 : 0 ≤ r.x.p ∧ r.x.p < 16) : mayRowB n r = true :=
  mayRow_iff.2 ⟨h1, h2, h3, h4, h5, h6⟩
theorem mayRow_c {h : DHeap} {n : Int} {r : Row} {v : Value} {S : Nat → Prop} (hv : Sl fI64.rep S h v r.x.vs) : DC Try.prog 66 [rowV r v, .int .i64 n] h (.ret (.bool (mayRowB n r))) h := by
  refine Ct.pure (go_66 (by simp) ?_) (vin_bool _)
  have v1 := hv.cells1
  have ev := hv.lens (P := Try.prog) (ts := #[51]) (t := 51) rfl isl_51
  have hst2 : [Value.int .i64 r.x.e, v, .int .i64 r.x.s, .int .i64 r.x.p].all Value.oneCell' = true := by
    obtain ⟨_, _, rfl⟩ := hv.isSlice
    rfl
  have hfe : ∀ {x y}, Ext h ((h.push x).push y) := (Ext.push1 _ _).push _
  unfold c66
  by_cases g0 : 1 ≤ r.ses
  case neg =>
    simp -implicitDefEqProofs (disch := first | omega | (simp only [go_sem, List.size_toArray, List.length_cons, List.length_nil, Nat.reduceAdd]; done)) only [go_sem, Int.reduceLT, Int.reduceLE, Int.reduceEq, reduceIte, cellAt_p0, cellAt_p1, cells4_at2_p0, store4_push hst2, Nat.zero_add, Nat.add_zero, ge_iff_le, ev, dPick_t, dPick_f, List.nil_append, v1, g0]
    exact ⟨_, rfl, by rw [mayRow_false (by first | omega | (simp only [countB, Bool.and_eq_true, decide_eq_true_eq] at *; omega))], hfe⟩
  simp -implicitDefEqProofs (disch := first | omega | (simp only [go_sem, List.size_toArray, List.length_cons, List.length_nil, Nat.reduceAdd]; done)) only [go_sem, Int.reduceLT, Int.reduceLE, Int.reduceEq, reduceIte, cellAt_p0, cellAt_p1, cells4_at2_p0, store4_push hst2, Nat.zero_add, Nat.add_zero, ge_iff_le, ev, dPick_t, dPick_f, List.nil_append, v1, g0]
  refine ncall refcount_c ?_
  by_cases g1 : countB r.ses 1099511627776 = true
  case neg =>
    rw [show countB r.ses 1099511627776 = false by simpa using g1]
    simp -implicitDefEqProofs (disch := first | omega | (simp only [go_sem, List.size_toArray, List.length_cons, List.length_nil, Nat.reduceAdd]; done)) only [go_sem, Int.reduceLT, Int.reduceLE, Int.reduceEq, reduceIte, cellAt_p0, cellAt_p1, cells4_at2_p0, store4_push hst2, Nat.zero_add, Nat.add_zero, ge_iff_le, ev, dPick_t, dPick_f, List.nil_append, v1, g0]
    exact ⟨_, rfl, by rw [mayRow_false (by first | omega | (simp only [countB, Bool.and_eq_true, decide_eq_true_eq] at *; omega))], hfe⟩
  rw [g1]
  by_cases g2 : 1 ≤ r.req
  case neg =>
    simp -implicitDefEqProofs (disch := first | omega | (simp only [go_sem, List.size_toArray, List.length_cons, List.length_nil, Nat.reduceAdd]; done)) only [go_sem, Int.reduceLT, Int.reduceLE, Int.reduceEq, reduceIte, cellAt_p0, cellAt_p1, cells4_at2_p0, store4_push hst2, Nat.zero_add, Nat.add_zero, ge_iff_le, ev, dPick_t, dPick_f, List.nil_append, v1, g0, g2]
    exact ⟨_, rfl, by rw [mayRow_false (by first | omega | (simp only [countB, Bool.and_eq_true, decide_eq_true_eq] at *; omega))], hfe⟩
  simp -implicitDefEqProofs (disch := first | omega | (simp only [go_sem, List.size_toArray, List.length_cons, List.length_nil, Nat.reduceAdd]; done)) only [go_sem, Int.reduceLT, Int.reduceLE, Int.reduceEq, reduceIte, cellAt_p0, cellAt_p1, cells4_at2_p0, store4_push hst2, Nat.zero_add, Nat.add_zero, ge_iff_le, ev, dPick_t, dPick_f, List.nil_append, v1, g0, g2]
  refine ncall refcount_c ?_
  by_cases g3 : countB r.req 1099511627776 = true
  case neg =>
    rw [show countB r.req 1099511627776 = false by simpa using g3]
    simp -implicitDefEqProofs (disch := first | omega | (simp only [go_sem, List.size_toArray, List.length_cons, List.length_nil, Nat.reduceAdd]; done)) only [go_sem, Int.reduceLT, Int.reduceLE, Int.reduceEq, reduceIte, cellAt_p0, cellAt_p1, cells4_at2_p0, store4_push hst2, Nat.zero_add, Nat.add_zero, ge_iff_le, ev, dPick_t, dPick_f, List.nil_append, v1, g0, g2]
    exact ⟨_, rfl, by rw [mayRow_false (by first | omega | (simp only [countB, Bool.and_eq_true, decide_eq_true_eq] at *; omega))], hfe⟩
  rw [g3]
  by_cases g4 : 0 ≤ r.x.e
  case neg =>
    simp -implicitDefEqProofs (disch := first | omega | (simp only [go_sem, List.size_toArray, List.length_cons, List.length_nil, Nat.reduceAdd]; done)) only [go_sem, Int.reduceLT, Int.reduceLE, Int.reduceEq, reduceIte, cellAt_p0, cellAt_p1, cells4_at2_p0, store4_push hst2, Nat.zero_add, Nat.add_zero, ge_iff_le, ev, dPick_t, dPick_f, List.nil_append, v1, g0, g2, g4]
    exact ⟨_, rfl, by rw [mayRow_false (by first | omega | (simp only [countB, Bool.and_eq_true, decide_eq_true_eq] at *; omega))], hfe⟩
  by_cases g5 : r.x.e ≤ 355
  case neg =>
    simp -implicitDefEqProofs (disch := first | omega | (simp only [go_sem, List.size_toArray, List.length_cons, List.length_nil, Nat.reduceAdd]; done)) only [go_sem, Int.reduceLT, Int.reduceLE, Int.reduceEq, reduceIte, cellAt_p0, cellAt_p1, cells4_at2_p0, store4_push hst2, Nat.zero_add, Nat.add_zero, ge_iff_le, ev, dPick_t, dPick_f, List.nil_append, v1, g0, g2, g4, g5]
    exact ⟨_, rfl, by rw [mayRow_false (by first | omega | (simp only [countB, Bool.and_eq_true, decide_eq_true_eq] at *; omega))], hfe⟩
  by_cases g6 : ((r.x.vs.length : Nat) : Int) ≤ 8
  case neg =>
    simp -implicitDefEqProofs (disch := first | omega | (simp only [go_sem, List.size_toArray, List.length_cons, List.length_nil, Nat.reduceAdd]; done)) only [go_sem, Int.reduceLT, Int.reduceLE, Int.reduceEq, reduceIte, cellAt_p0, cellAt_p1, cells4_at2_p0, store4_push hst2, Nat.zero_add, Nat.add_zero, ge_iff_le, ev, dPick_t, dPick_f, List.nil_append, v1, g0, g2, g4, g5, g6]
    exact ⟨_, rfl, by rw [mayRow_false (by first | omega | (simp only [countB, Bool.and_eq_true, decide_eq_true_eq] at *; omega))], hfe⟩
  by_cases g7 : 0 ≤ r.x.s
  case neg =>
    simp -implicitDefEqProofs (disch := first | omega | (simp only [go_sem, List.size_toArray, List.length_cons, List.length_nil, Nat.reduceAdd]; done)) only [go_sem, Int.reduceLT, Int.reduceLE, Int.reduceEq, reduceIte, cellAt_p0, cellAt_p1, cells4_at2_p0, store4_push hst2, Nat.zero_add, Nat.add_zero, ge_iff_le, ev, dPick_t, dPick_f, List.nil_append, v1, g0, g2, g4, g5, g6, g7]
    exact ⟨_, rfl, by rw [mayRow_false (by first | omega | (simp only [countB, Bool.and_eq_true, decide_eq_true_eq] at *; omega))], hfe⟩
  by_cases g8 : r.x.s < n
  case neg =>
    simp -implicitDefEqProofs (disch := first | omega | (simp only [go_sem, List.size_toArray, List.length_cons, List.length_nil, Nat.reduceAdd]; done)) only [go_sem, Int.reduceLT, Int.reduceLE, Int.reduceEq, reduceIte, cellAt_p0, cellAt_p1, cells4_at2_p0, store4_push hst2, Nat.zero_add, Nat.add_zero, ge_iff_le, ev, dPick_t, dPick_f, List.nil_append, v1, g0, g2, g4, g5, g6, g7, g8]
    exact ⟨_, rfl, by rw [mayRow_false (by first | omega | (simp only [countB, Bool.and_eq_true, decide_eq_true_eq] at *; omega))], hfe⟩
  by_cases g9 : 0 ≤ r.x.p
  case neg =>
    simp -implicitDefEqProofs (disch := first | omega | (simp only [go_sem, List.size_toArray, List.length_cons, List.length_nil, Nat.reduceAdd]; done)) only [go_sem, Int.reduceLT, Int.reduceLE, Int.reduceEq, reduceIte, cellAt_p0, cellAt_p1, cells4_at2_p0, store4_push hst2, Nat.zero_add, Nat.add_zero, ge_iff_le, ev, dPick_t, dPick_f, List.nil_append, v1, g0, g2, g4, g5, g6, g7, g8, g9]
    exact ⟨_, rfl, by rw [mayRow_false (by first | omega | (simp only [countB, Bool.and_eq_true, decide_eq_true_eq] at *; omega))], hfe⟩
  by_cases g10 : r.x.p < 16
  case neg =>
    simp -implicitDefEqProofs (disch := first | omega | (simp only [go_sem, List.size_toArray, List.length_cons, List.length_nil, Nat.reduceAdd]; done)) only [go_sem, Int.reduceLT, Int.reduceLE, Int.reduceEq, reduceIte, cellAt_p0, cellAt_p1, cells4_at2_p0, store4_push hst2, Nat.zero_add, Nat.add_zero, ge_iff_le, ev, dPick_t, dPick_f, List.nil_append, v1, g0, g2, g4, g5, g6, g7, g8, g9, g10]
    exact ⟨_, rfl, by rw [mayRow_false (by first | omega | (simp only [countB, Bool.and_eq_true, decide_eq_true_eq] at *; omega))], hfe⟩
  simp -implicitDefEqProofs (disch := first | omega | (simp only [go_sem, List.size_toArray, List.length_cons, List.length_nil, Nat.reduceAdd]; done)) only [go_sem, Int.reduceLT, Int.reduceLE, Int.reduceEq, reduceIte, cellAt_p0, cellAt_p1, cells4_at2_p0, store4_push hst2, Nat.zero_add, Nat.add_zero, ge_iff_le, ev, dPick_t, dPick_f, List.nil_append, v1, g0, g2, g4, g5, g6, g7, g8, g9, g10]
  exact ⟨_, rfl, by rw [mayRow_true (by first | omega | (simp only [countB, Bool.and_eq_true, decide_eq_true_eq] at *; omega)) (by first | omega | (simp only [countB, Bool.and_eq_true, decide_eq_true_eq] at *; omega)) (by omega) (by omega) (by omega) (by omega)], hfe⟩
end Go.Proofs.Ytlhgijpdhniddaa

namespace Go.Proofs.Ytlhgijpdhniddaa
open Go.D
set_option maxRecDepth 100000

theorem risesB_get {α : Type} {lt : α → α → Bool} : ∀ {l : List α}, risesB lt l = true → ∀ (i : Nat) (a b : α), l[i]? = some a → l[i + 1]? = some b → lt a b = true
  | [], _, i, a, b, h1, _ => by simp at h1
  | [_], _, i, a, b, _, h2 => by simp at h2
  | x :: y :: l, h, 0, a, b, h1, h2 => by
    simp at h1 h2; subst h1; subst h2
    simp [risesB] at h; exact h.1
  | x :: y :: l, h, i + 1, a, b, h1, h2 => by
    simp [risesB] at h
    exact risesB_get h.2 i a b (by simpa using h1) (by simpa using h2)
theorem risesB_of {α : Type} {lt : α → α → Bool} : ∀ {l : List α}, (∀ (i : Nat) (a b : α), l[i]? = some a → l[i + 1]? = some b → lt a b = true) → risesB lt l = true
  | [], _ => rfl
  | [_], _ => rfl
  | x :: y :: l, h => by
    simp only [risesB, Bool.and_eq_true]
    exact ⟨h 0 x y rfl rfl, risesB_of fun i a b h1 h2 => h (i + 1) a b (by simpa using h1) (by simpa using h2)⟩
/-- one is in order, and behind the one ahead of it -/
def OkAt {α : Type} (lt : α → α → Bool) (p : α → Bool) (l : List α) (j : Nat) : Prop := ∀ x, l[j]? = some x → p x = true ∧ ∀ k y, j = k + 1 → l[k]? = some y → lt y x = true
theorem okAll {α : Type} {lt : α → α → Bool} {p : α → Bool} {l : List α} : (risesB lt l = true ∧ l.all p = true) ↔ ∀ j, j < l.length → OkAt lt p l j := by
  constructor
  · rintro ⟨h1, h2⟩ j hj x hx
    refine ⟨List.all_eq_true.1 h2 x (List.mem_of_getElem? hx), fun k y hk hy => ?_⟩
    subst hk
    exact risesB_get h1 k y x hy hx
  · intro h
    refine ⟨risesB_of fun i a b h1 h2 => ?_, List.all_eq_true.2 fun x hx => ?_⟩
    · have hl : i + 1 < l.length := by
        rcases Nat.lt_or_ge (i + 1) l.length with hh | hh
        · exact hh
        · rw [List.getElem?_eq_none hh] at h2; cases h2
      exact ((h (i + 1) hl) b h2).2 i a rfl h1
    · obtain ⟨j, hj, rfl⟩ := List.mem_iff_getElem.1 hx
      exact ((h j hj) _ (get_of_lt hj)).1
abbrev OkCell (n : Int) (l : List Cell) := OkAt (fun a b => keyLt a.k b.k) (mayCell n) l
abbrev OkRow (n : Int) (l : List Row) := OkAt (fun a b => decide (a.ses < b.ses)) (mayRowB n) l
theorem may_iff {x : State} : mayB x = true ↔ countB x.slot 1099511627776 = true ∧ x.rows.length ≤ 64 ∧ (∀ j, j < x.cells.length → OkCell x.slot x.cells j) ∧ (∀ j, j < x.rows.length → OkRow x.slot x.rows j) := by
  rw [← okAll, ← okAll]
  simp only [mayB, Bool.and_eq_true, decide_eq_true_eq]
  constructor
  · rintro ⟨⟨⟨⟨a, b⟩, c, d⟩, e⟩, f⟩; exact ⟨a, b, ⟨c, e⟩, d, f⟩
  · rintro ⟨a, b, ⟨c, e⟩, d, f⟩; exact ⟨⟨⟨⟨a, b⟩, c, d⟩, e⟩, f⟩
theorem may_false {x : State} (h : ¬ (countB x.slot 1099511627776 = true ∧ x.rows.length ≤ 64 ∧ (∀ j, j < x.cells.length → OkCell x.slot x.cells j) ∧ (∀ j, j < x.rows.length → OkRow x.slot x.rows j))) : mayB x = false := by
  rw [← may_iff] at h; simpa using h
theorem cell_key {S : Nat → Prop} {h : DHeap} {id o : Nat} {c : Cell} (a : At fCell.rep S h id o c) : cellsAt h id o 2 = some (keyV c.k) := by
  obtain ⟨cells, esz, ro, g, b, e, _⟩ := a
  have hb : o + 4 ≤ cells.length := b
  have he : (cells.drop o).take 4 = fCell.enc c := e
  rw [cellsAt_row g (by omega)]
  have : (cells.drop o).take 2 = ((cells.drop o).take 4).take 2 := by rw [List.take_take]; rfl
  rw [this, he]; rfl
theorem row_ses {S : Nat → Prop} {h : DHeap} {id o : Nat} {r : Row} (a : At rRow S h id o r) : cellAt h id o = some (.int .i64 r.ses) := a.iso.fst.load_int.1

theorem may_c {h : DHeap} {n : Int} {cv rv : Value} {cells : List Cell} {rows : List Row} (hc : Arg fCell.rep h cv cells) (hr : Arg rRow h rv rows) (hlc : cells.length ≤ 4294967296) (hlr : rows.length ≤ 4294967296) :
    DC Try.prog 37 [stateV n cv rv] h (.ret (.bool (mayB ⟨n, cells, rows⟩))) h := by
  refine Ct.pure (go_37 (by simp) ?_) (vin_bool _)
  have c1 := hc.cells1
  have r1 := hr.cells1
  obtain ⟨H0, hH0⟩ : ∃ H, H = h.push (.row [.int .i64 n, cv, rv] 0 false) := ⟨_, rfl⟩
  have hE0 : Ext h H0 := by rw [hH0]; exact Ext.push1 _ _
  have hB0 : H0.get h.next = some (.row [.int .i64 n, cv, rv] 0 false) := by rw [hH0]; exact get_push_same _ _
  have hN0 : h.next < H0.next := by rw [hH0, next_push]; omega
  have er := hr.lens (P := Try.prog) (ts := #[24]) (t := 24) rfl isl_24
  have ec := hc.lens (P := Try.prog) (ts := #[23]) (t := 23) rfl isl_23
  have B0 : cellAt H0 h.next 0 = some (.int .i64 n) := cellAt_row hB0
  have B1 : cellAt H0 h.next 1 = some cv := cellAt_row hB0
  have B2 : cellAt H0 h.next 2 = some rv := cellAt_row hB0
  have hc0 := hc.ext hE0
  have hr0 := hr.ext hE0
  simp -implicitDefEqProofs (disch := first | omega | (simp only [go_sem, List.size_toArray, List.length_cons, List.length_nil, Nat.reduceAdd]; done)) only [go_sem, Int.reduceLT, Int.reduceLE, Int.reduceEq, reduceIte, c37, ← hH0, B0, B1, B2, Nat.add_zero, Nat.zero_add]
  refine ncall refcount_c ?_
  by_cases h1 : countB n 1099511627776 = true
  case neg =>
    rw [show countB n 1099511627776 = false by simpa using h1]
    simp -implicitDefEqProofs (disch := first | omega | (simp only [go_sem, List.size_toArray, List.length_cons, List.length_nil, Nat.reduceAdd]; done)) only [go_sem, Int.reduceLT, Int.reduceLE, Int.reduceEq, reduceIte, dPick_t]
    exact ⟨_, rfl, by rw [may_false (fun hh => h1 hh.1)], hE0⟩
  rw [h1]
  by_cases h2 : rows.length ≤ 64
  case neg =>
    have h2i : ((rows.length : Nat) : Int) > 64 := by omega
    simp -implicitDefEqProofs (disch := first | omega | (simp only [go_sem, List.size_toArray, List.length_cons, List.length_nil, Nat.reduceAdd]; done)) only [go_sem, Int.reduceLT, Int.reduceLE, Int.reduceEq, reduceIte, B2, er, h2i, dPick_t, dPick_f, Nat.zero_add]
    exact ⟨_, rfl, by rw [may_false (fun hh => h2 hh.2.1)], hE0⟩
  have h2i : ¬ ((rows.length : Nat) : Int) > 64 := by omega
  simp -implicitDefEqProofs (disch := first | omega | (simp only [go_sem, List.size_toArray, List.length_cons, List.length_nil, Nat.reduceAdd]; done)) only [go_sem, Int.reduceLT, Int.reduceLE, Int.reduceEq, reduceIte, B2, er, h2i, dPick_t, dPick_f, Nat.zero_add]
  refine xloop (σ := Nat) (by kernel_rfl) (fun i s => s.df = [] ∧ Ext H0 s.h ∧ s.fr 1 = some (.pointer (some ⟨h.next, 0, none⟩)) ∧ s.fr 3 = some (.int .i64 (i : Nat)) ∧ i ≤ cells.length ∧ ∀ j, j < i → OkCell n cells j) (fun i => cells.length - i) 0 ?_ ?_
  · simp -implicitDefEqProofs (disch := first | omega | (simp only [go_sem, List.size_toArray, List.length_cons, List.length_nil, Nat.reduceAdd]; done)) only [go_sem, Int.reduceLT, Int.reduceLE, Int.reduceEq, reduceIte]
    exact ⟨by trivial, .refl _, by trivial, by trivial, Nat.zero_le _, fun j hj => absurd hj (Nat.not_lt_zero _)⟩
  · rintro i ⟨fr, df, hh, rd⟩ K hK hX ⟨rfl, hE, f1, f3, hi, hok⟩
    simp only at hE f1 f3
    have hB : hh.get h.next = some (.row [.int .i64 n, cv, rv] 0 false) := (hE.get _ hN0).trans hB0
    have hBn : h.next < hh.next := Nat.lt_of_lt_of_le hN0 hE.next
    have C0 : cellAt hh h.next 0 = some (.int .i64 n) := cellAt_row hB
    have C1 : cellAt hh h.next 1 = some cv := cellAt_row hB
    have C2 : cellAt hh h.next 2 = some rv := cellAt_row hB
    simp -implicitDefEqProofs (disch := first | omega | (simp only [go_sem, List.size_toArray, List.length_cons, List.length_nil, Nat.reduceAdd]; done)) only [go_sem, Int.reduceLT, Int.reduceLE, Int.reduceEq, reduceIte, f1, f3, C1, ec, Nat.zero_add]
    refine XIf_dec (fun hc1 => ?_) (fun hc1 => ?_)
    · have hj : i < cells.length := by omega
      obtain ⟨id1, o1, g1, _, hat1⟩ := (hc0.ext hE).idx (P := Try.prog) (t := 23) el_23 (k := .i64) (i := i) (x := cells[i]) (by simp)
      have l1 : cellsAt hh id1 o1 4 = some (cellV cells[i]) := hat1.flat.2.1
      have hw := wrap_succ hj (by omega)
      have hst : [Value.int .i32 cells[i].k.t, .int .i64 cells[i].k.r, .int .i64 cells[i].v, .int .i64 cells[i].s].all Value.oneCell' = true := rfl
      have hE2 : ∀ x, Ext H0 (hh.push x) := fun x => hE.push x
      have bad : ¬ OkCell n cells i → mayB ⟨n, cells, rows⟩ = false := fun hno => may_false (fun hh => hno (hh.2.2.1 i hj))
      simp -implicitDefEqProofs (disch := first | omega | (simp only [go_sem, List.size_toArray, List.length_cons, List.length_nil, Nat.reduceAdd]; done)) only [go_sem, Int.reduceLT, Int.reduceLE, Int.reduceEq, reduceIte, f1, f3, C1, g1, l1, List.nil_append, store4_push hst, Nat.zero_add, Nat.add_zero]
      refine dr_37_0 ?_
      by_cases q1 : cells[i].s < 0
      case pos =>
        simp -implicitDefEqProofs (disch := first | omega | (simp only [go_sem, List.size_toArray, List.length_cons, List.length_nil, Nat.reduceAdd]; done)) only [go_sem, Int.reduceLT, Int.reduceLE, Int.reduceEq, reduceIte, l37_0, f1, f3, cellAt_p0, cellAt_o1, C0, Nat.zero_add, Nat.add_zero, q1, dPick_t, true_and]
        refine hX _ _ (by simp) ?_
        simp -implicitDefEqProofs (disch := first | omega | (simp only [go_sem, List.size_toArray, List.length_cons, List.length_nil, Nat.reduceAdd]; done)) only [go_sem, Int.reduceLT, Int.reduceLE, Int.reduceEq, reduceIte]
        exact ⟨_, rfl, by rw [bad (fun hok => by have := (hok _ (get_of_lt hj)).1; simp [mayCell, countB] at this; omega)], hE0.trans (hE2 _)⟩
      by_cases q2 : cells[i].s ≥ n
      case pos =>
        simp -implicitDefEqProofs (disch := first | omega | (simp only [go_sem, List.size_toArray, List.length_cons, List.length_nil, Nat.reduceAdd]; done)) only [go_sem, Int.reduceLT, Int.reduceLE, Int.reduceEq, reduceIte, l37_0, f1, f3, cellAt_p0, cellAt_o1, C0, Nat.zero_add, Nat.add_zero, q1, q2, dPick_t, dPick_f, true_and]
        refine hX _ _ (by simp) ?_
        simp -implicitDefEqProofs (disch := first | omega | (simp only [go_sem, List.size_toArray, List.length_cons, List.length_nil, Nat.reduceAdd]; done)) only [go_sem, Int.reduceLT, Int.reduceLE, Int.reduceEq, reduceIte]
        exact ⟨_, rfl, by rw [bad (fun hok => by have := (hok _ (get_of_lt hj)).1; simp [mayCell, countB] at this; omega)], hE0.trans (hE2 _)⟩
      have hmc : mayCell n cells[i] = true := by
        simp [mayCell, countB]; omega
      by_cases q3 : i = 0
      case pos =>
        have q3i : ¬ ((i : Nat) : Int) > 0 := by omega
        simp -implicitDefEqProofs (disch := first | omega | (simp only [go_sem, List.size_toArray, List.length_cons, List.length_nil, Nat.reduceAdd]; done)) only [go_sem, Int.reduceLT, Int.reduceLE, Int.reduceEq, reduceIte, l37_0, f1, f3, cellAt_p0, cellAt_o1, C0, Nat.zero_add, Nat.add_zero, q1, q2, q3i, dPick_t, dPick_f, true_and, hw]
        refine hK (i + 1) _ ?_ (by omega)
        refine ⟨by trivial, hE2 _, by simp -implicitDefEqProofs (disch := first | omega | (simp only [go_sem, List.size_toArray, List.length_cons, List.length_nil, Nat.reduceAdd]; done)) only [go_sem, Int.reduceLT, Int.reduceLE, Int.reduceEq, reduceIte, f1], by simp -implicitDefEqProofs (disch := first | omega | (simp only [go_sem, List.size_toArray, List.length_cons, List.length_nil, Nat.reduceAdd]; done)) only [go_sem, Int.reduceLT, Int.reduceLE, Int.reduceEq, reduceIte], by omega, fun j hj2 => ?_⟩
        rcases Nat.lt_or_ge j i with h3 | h3
        · exact hok j h3
        · obtain rfl : j = i := by omega
          intro x hx
          rw [get_of_lt hj] at hx
          cases hx
          exact ⟨hmc, fun k y hk => by omega⟩
      have q3i : ((i : Nat) : Int) > 0 := by omega
      obtain ⟨m, hm⟩ : ∃ m, i = m + 1 := ⟨i - 1, by omega⟩
      have hmj : m < cells.length := by omega
      have hw2 : IntKind.i64.wrap (((i : Nat) : Int) - 1) = (m : Int) := by rw [wrap_i64_in (by omega) (by omega)]; omega
      obtain ⟨id2, o2, g2, hid2, hat2⟩ := (hc0.ext hE).idx (P := Try.prog) (t := 23) el_23 (k := .i64) (i := m) (x := cells[m]) (by simp)
      have l2 := cell_key hat2
      simp -implicitDefEqProofs (disch := first | omega | (simp only [go_sem, List.size_toArray, List.length_cons, List.length_nil, Nat.reduceAdd]; done)) only [go_sem, Int.reduceLT, Int.reduceLE, Int.reduceEq, reduceIte, l37_0, f1, f3, cellAt_p0, cellAt_o1, cellsAt_o1, cells2_p0, C0, C1, Nat.zero_add, Nat.add_zero, q1, q2, q3i, dPick_t, dPick_f, true_and, hw2, g2, l2]
      refine dcall (less_c (b := cells[i].k)) ?_
      by_cases q4 : keyLt cells[m].k cells[i].k = true
      case neg =>
        rw [show keyLt cells[m].k cells[i].k = false by simpa using q4]
        simp -implicitDefEqProofs (disch := first | omega | (simp only [go_sem, List.size_toArray, List.length_cons, List.length_nil, Nat.reduceAdd]; done)) only [go_sem, Int.reduceLT, Int.reduceLE, Int.reduceEq, reduceIte, true_and, dPick_t, dPick_f]
        refine hX _ _ (by simp) ?_
        simp -implicitDefEqProofs (disch := first | omega | (simp only [go_sem, List.size_toArray, List.length_cons, List.length_nil, Nat.reduceAdd]; done)) only [go_sem, Int.reduceLT, Int.reduceLE, Int.reduceEq, reduceIte]
        exact ⟨_, rfl, by rw [bad (fun hok => q4 ((hok _ (get_of_lt hj)).2 m _ hm (get_of_lt hmj)))], hE0.trans (hE2 _)⟩
      rw [q4]
      simp -implicitDefEqProofs (disch := first | omega | (simp only [go_sem, List.size_toArray, List.length_cons, List.length_nil, Nat.reduceAdd]; done)) only [go_sem, Int.reduceLT, Int.reduceLE, Int.reduceEq, reduceIte, true_and, dPick_t, dPick_f, f3, hw]
      refine hK (i + 1) _ ?_ (by omega)
      refine ⟨by trivial, hE2 _, by simp -implicitDefEqProofs (disch := first | omega | (simp only [go_sem, List.size_toArray, List.length_cons, List.length_nil, Nat.reduceAdd]; done)) only [go_sem, Int.reduceLT, Int.reduceLE, Int.reduceEq, reduceIte, f1], by simp -implicitDefEqProofs (disch := first | omega | (simp only [go_sem, List.size_toArray, List.length_cons, List.length_nil, Nat.reduceAdd]; done)) only [go_sem, Int.reduceLT, Int.reduceLE, Int.reduceEq, reduceIte], by omega, fun j hj2 => ?_⟩
      rcases Nat.lt_or_ge j i with h3 | h3
      · exact hok j h3
      · obtain rfl : j = i := by omega
        intro x hx
        rw [get_of_lt hj] at hx
        cases hx
        refine ⟨hmc, fun k y hk hy => ?_⟩
        obtain rfl : k = m := by omega
        rw [get_of_lt hmj] at hy
        cases hy
        exact q4
    · have hcells : ∀ j, j < cells.length → OkCell n cells j := fun j hj => hok j (by omega)
      refine hX _ _ (by simp) ?_
      clear hK hX
      have hr1 := hr0.ext hE
      simp -implicitDefEqProofs (disch := first | omega | (simp only [go_sem, List.size_toArray, List.length_cons, List.length_nil, Nat.reduceAdd]; done)) only [go_sem, Int.reduceLT, Int.reduceLE, Int.reduceEq, reduceIte, f1]
      refine xloop (σ := Nat) (by kernel_rfl) (fun i s => s.df = [] ∧ s.h = hh ∧ s.fr 1 = some (.pointer (some ⟨h.next, 0, none⟩)) ∧ s.fr 5 = some (.int .i64 (i : Nat)) ∧ i ≤ rows.length ∧ ∀ j, j < i → OkRow n rows j) (fun i => rows.length - i) 0 ?_ ?_
      · simp -implicitDefEqProofs (disch := first | omega | (simp only [go_sem, List.size_toArray, List.length_cons, List.length_nil, Nat.reduceAdd]; done)) only [go_sem, Int.reduceLT, Int.reduceLE, Int.reduceEq, reduceIte, f1]
        exact ⟨by trivial, by trivial, by trivial, by trivial, Nat.zero_le _, fun j hj => absurd hj (Nat.not_lt_zero _)⟩
      · rintro i ⟨fr, df, hh, rd⟩ K hK hX ⟨rfl, rfl, f1, f5, hi, hok⟩
        simp only at f1 f5
        simp -implicitDefEqProofs (disch := first | omega | (simp only [go_sem, List.size_toArray, List.length_cons, List.length_nil, Nat.reduceAdd]; done)) only [go_sem, Int.reduceLT, Int.reduceLE, Int.reduceEq, reduceIte, f1, f5, C2, er, Nat.zero_add]
        refine XIf_dec (fun hc1 => ?_) (fun hc1 => ?_)
        · have hj : i < rows.length := by omega
          obtain ⟨id1, o1, g1, _, hat1⟩ := hr1.idx (P := Try.prog) (t := 24) el_24 (k := .i64) (i := i) (x := rows[i]) (by simp)
          obtain ⟨v1, l1, s1, k1⟩ := row_at hat1
          have m1 := row_ses hat1
          have hw := wrap_succ hj (by omega)
          have bad : ¬ OkRow n rows i → mayB ⟨n, cells, rows⟩ = false := fun hno => may_false (fun hh => hno (hh.2.2.2 i hj))
          simp -implicitDefEqProofs (disch := first | omega | (simp only [go_sem, List.size_toArray, List.length_cons, List.length_nil, Nat.reduceAdd]; done)) only [go_sem, Int.reduceLT, Int.reduceLE, Int.reduceEq, reduceIte]
          refine dr_37_1 ?_
          simp -implicitDefEqProofs (disch := first | omega | (simp only [go_sem, List.size_toArray, List.length_cons, List.length_nil, Nat.reduceAdd]; done)) only [go_sem, Int.reduceLT, Int.reduceLE, Int.reduceEq, reduceIte, l37_1, f1, f5, C0, C2, g1, l1, Nat.zero_add]
          refine dcall (mayRow_c s1) ?_
          by_cases q1 : mayRowB n rows[i] = true
          case neg =>
            rw [show mayRowB n rows[i] = false by simpa using q1]
            simp -implicitDefEqProofs (disch := first | omega | (simp only [go_sem, List.size_toArray, List.length_cons, List.length_nil, Nat.reduceAdd]; done)) only [go_sem, Int.reduceLT, Int.reduceLE, Int.reduceEq, reduceIte, true_and, dPick_t]
            refine hX _ _ (by simp) ?_
            simp -implicitDefEqProofs (disch := first | omega | (simp only [go_sem, List.size_toArray, List.length_cons, List.length_nil, Nat.reduceAdd]; done)) only [go_sem, Int.reduceLT, Int.reduceLE, Int.reduceEq, reduceIte]
            exact ⟨_, rfl, by rw [bad (fun hok => q1 (hok _ (get_of_lt hj)).1)], hE0.trans hE⟩
          rw [q1]
          by_cases q3 : i = 0
          case pos =>
            have q3i : ¬ ((i : Nat) : Int) > 0 := by omega
            simp -implicitDefEqProofs (disch := first | omega | (simp only [go_sem, List.size_toArray, List.length_cons, List.length_nil, Nat.reduceAdd]; done)) only [go_sem, Int.reduceLT, Int.reduceLE, Int.reduceEq, reduceIte, f1, f5, C2, Nat.zero_add, Nat.add_zero, q3i, dPick_t, dPick_f, true_and, hw]
            refine hK (i + 1) _ ?_ (by omega)
            refine ⟨by trivial, by trivial, by simp -implicitDefEqProofs (disch := first | omega | (simp only [go_sem, List.size_toArray, List.length_cons, List.length_nil, Nat.reduceAdd]; done)) only [go_sem, Int.reduceLT, Int.reduceLE, Int.reduceEq, reduceIte, f1], by simp -implicitDefEqProofs (disch := first | omega | (simp only [go_sem, List.size_toArray, List.length_cons, List.length_nil, Nat.reduceAdd]; done)) only [go_sem, Int.reduceLT, Int.reduceLE, Int.reduceEq, reduceIte], by omega, fun j hj2 => ?_⟩
            rcases Nat.lt_or_ge j i with h3 | h3
            · exact hok j h3
            · obtain rfl : j = i := by omega
              intro x hx
              rw [get_of_lt hj] at hx
              cases hx
              exact ⟨q1, fun k y hk => by omega⟩
          have q3i : ((i : Nat) : Int) > 0 := by omega
          obtain ⟨m, hm⟩ : ∃ m, i = m + 1 := ⟨i - 1, by omega⟩
          have hmj : m < rows.length := by omega
          have hw2 : IntKind.i64.wrap (((i : Nat) : Int) - 1) = (m : Int) := by rw [wrap_i64_in (by omega) (by omega)]; omega
          obtain ⟨id2, o2, g2, hid2, hat2⟩ := hr1.idx (P := Try.prog) (t := 24) el_24 (k := .i64) (i := m) (x := rows[m]) (by simp)
          have m2 := row_ses hat2
          by_cases q4 : rows[m].ses < rows[i].ses
          case neg =>
            have q4' : rows[m].ses ≥ rows[i].ses := by omega
            simp -implicitDefEqProofs (disch := first | omega | (simp only [go_sem, List.size_toArray, List.length_cons, List.length_nil, Nat.reduceAdd]; done)) only [go_sem, Int.reduceLT, Int.reduceLE, Int.reduceEq, reduceIte, f1, f5, C2, Nat.zero_add, Nat.add_zero, q3i, q4', hw2, g1, g2, m1, m2, dPick_t, dPick_f, true_and]
            refine hX _ _ (by simp) ?_
            simp -implicitDefEqProofs (disch := first | omega | (simp only [go_sem, List.size_toArray, List.length_cons, List.length_nil, Nat.reduceAdd]; done)) only [go_sem, Int.reduceLT, Int.reduceLE, Int.reduceEq, reduceIte]
            exact ⟨_, rfl, by rw [bad (fun hok => q4 (of_decide_eq_true ((hok _ (get_of_lt hj)).2 m _ hm (get_of_lt hmj))))], hE0.trans hE⟩
          have q4' : ¬ rows[m].ses ≥ rows[i].ses := by omega
          simp -implicitDefEqProofs (disch := first | omega | (simp only [go_sem, List.size_toArray, List.length_cons, List.length_nil, Nat.reduceAdd]; done)) only [go_sem, Int.reduceLT, Int.reduceLE, Int.reduceEq, reduceIte, f1, f5, C2, Nat.zero_add, Nat.add_zero, q3i, q4', hw2, hw, g1, g2, m1, m2, dPick_t, dPick_f, true_and]
          refine hK (i + 1) _ ?_ (by omega)
          refine ⟨by trivial, by trivial, by simp -implicitDefEqProofs (disch := first | omega | (simp only [go_sem, List.size_toArray, List.length_cons, List.length_nil, Nat.reduceAdd]; done)) only [go_sem, Int.reduceLT, Int.reduceLE, Int.reduceEq, reduceIte, f1], by simp -implicitDefEqProofs (disch := first | omega | (simp only [go_sem, List.size_toArray, List.length_cons, List.length_nil, Nat.reduceAdd]; done)) only [go_sem, Int.reduceLT, Int.reduceLE, Int.reduceEq, reduceIte], by omega, fun j hj2 => ?_⟩
          rcases Nat.lt_or_ge j i with h3 | h3
          · exact hok j h3
          · obtain rfl : j = i := by omega
            intro x hx
            rw [get_of_lt hj] at hx
            cases hx
            refine ⟨q1, fun k y hk hy => ?_⟩
            obtain rfl : k = m := by omega
            rw [get_of_lt hmj] at hy
            cases hy
            exact decide_eq_true q4
        · refine hX _ _ (by simp) ?_
          simp -implicitDefEqProofs (disch := first | omega | (simp only [go_sem, List.size_toArray, List.length_cons, List.length_nil, Nat.reduceAdd]; done)) only [go_sem, Int.reduceLT, Int.reduceLE, Int.reduceEq, reduceIte]
          exact ⟨_, rfl, by rw [may_iff.2 ⟨h1, h2, hcells, fun j hj => hok j (by have hj' : j < rows.length := hj; omega)⟩], hE0.trans hE⟩
end Go.Proofs.Ytlhgijpdhniddaa

namespace Go.Proofs.Ytlhgijpdhniddaa
open Go.D
set_option maxRecDepth 100000

theorem fld_key : fldsOf Try.prog 48 = some [(21, 0), (2, 1)] := by kernel_rfl
theorem fld_cell : fldsOf Try.prog 50 = some [(48, 0), (2, 2), (2, 3)] := by kernel_rfl
theorem und_i32 : Try.prog.underlying 21 = some (.int .i32) := by kernel_rfl
theorem und_i64 : Try.prog.underlying 2 = some (.int .i64) := by kernel_rfl
theorem grd_cell : Try.prog.eqGuardType Try.prog.depth 50 = false := by kernel_rfl
theorem Key.ext_iff' {a b : Key} : a = b ↔ a.t = b.t ∧ a.r = b.r := by cases a; cases b; simp
theorem Cell.ext_iff' {a b : Cell} : a = b ↔ a.k = b.k ∧ a.v = b.v ∧ a.s = b.s := by cases a; cases b; simp
theorem key_eq (d : Nat) (a b : Key) : quick Try.prog (Op.equalIn (d + 1 + 1) 48 (keyV a) (keyV b)) = some (.inr (decide (a = b))) := by
  refine quick_struct fld_key ⟨_, _, _, _, quick_part_one one_21 rfl, quick_part_one one_21 rfl, quick_int und_i32, ⟨_, _, _, _, quick_part_one one_2 rfl, quick_part_one one_2 rfl, quick_int und_i64, rfl, rfl⟩, ?_⟩
  rw [decide_eq_decide.2 Key.ext_iff', Bool.decide_and, Bool.and_true]
  rfl
theorem cell_eq (d : Nat) (a b : Cell) : quick Try.prog (Op.equalIn (d + 1 + 1 + 1) 50 (cellV a) (cellV b)) = some (.inr (decide (a = b))) := by
  refine quick_struct fld_cell ⟨keyV a.k, keyV b.k, _, _, (quick_part_agg agg_48).trans rfl, (quick_part_agg agg_48).trans rfl, key_eq d a.k b.k, ⟨_, _, _, _, quick_part_one one_2 rfl, quick_part_one one_2 rfl, quick_int und_i64,
    ⟨_, _, _, _, quick_part_one one_2 rfl, quick_part_one one_2 rfl, quick_int und_i64, rfl, rfl⟩, rfl⟩, ?_⟩
  rw [decide_eq_decide.2 Cell.ext_iff', Bool.decide_and, Bool.decide_and, Bool.and_true]
  rfl
theorem bin_cell {a b : Cell} {h : DHeap} {ox oy : Operand} : dBinOp Try.prog .neq 50 ox oy (cellV a) (cellV b) h = .ok (.value (.bool (!decide (a = b)))) h := (bin_agg rfl rfl grd_cell (cell_eq 9997 a b)).2
/-- two lists, one by one -/
def sameL {α : Type} (eq : α → α → Bool) : List α → List α → Bool
  | [], [] => true
  | a :: l, b :: m => eq a b && sameL eq l m
  | _, _ => false
theorem sameL_len {α : Type} {eq : α → α → Bool} : ∀ {l m : List α}, l.length ≠ m.length → sameL eq l m = false
  | [], [], h => by simp at h
  | [], _ :: _, _ => rfl
  | _ :: _, [], _ => rfl
  | a :: l, b :: m, h => by
    simp only [sameL]
    rw [sameL_len (l := l) (m := m) (by simpa using h), Bool.and_false]
theorem sameL_drop {α : Type} {eq : α → α → Bool} {l m : List α} {i : Nat} (hl : i < l.length) (hm : i < m.length) : sameL eq (l.drop i) (m.drop i) = (eq l[i] m[i] && sameL eq (l.drop (i + 1)) (m.drop (i + 1))) := by
  rw [List.drop_eq_getElem_cons hl, List.drop_eq_getElem_cons hm, sameL]
theorem sameL_end {α : Type} {eq : α → α → Bool} {l m : List α} (h : l.length = m.length) : sameL eq (l.drop l.length) (m.drop l.length) = true := by
  rw [List.drop_length, h, List.drop_length]; rfl
theorem sameCells_c {h : DHeap} {a b : Value} {l m : List Cell} (ha : Arg fCell.rep h a l) (hb : Arg fCell.rep h b m) (hlen : l.length ≤ 4294967296) :
    DC Try.prog 39 [a, b] h (.ret (.bool (sameL (fun a b : Cell => decide (a = b)) l m))) h := by
  refine Ct.pure (go_39 (by simp) ?_) (vin_bool _)
  have ea := ha.lens (P := Try.prog) (ts := #[23]) (t := 23) rfl isl_23
  have eb := hb.lens (P := Try.prog) (ts := #[23]) (t := 23) rfl isl_23
  by_cases hl : l.length = m.length
  case neg =>
    have hli : ¬ ((l.length : Nat) : Int) = (m.length : Nat) := by omega
    simp -implicitDefEqProofs (disch := first | omega | (simp only [go_sem, List.size_toArray, List.length_cons, List.length_nil, Nat.reduceAdd]; done)) only [go_sem, Int.reduceLT, Int.reduceLE, Int.reduceEq, reduceIte, c39, ea, eb, hli]
    exact ⟨_, rfl, by rw [sameL_len hl], .refl h⟩
  have hli : ((l.length : Nat) : Int) = (m.length : Nat) := by omega
  simp -implicitDefEqProofs (disch := first | omega | (simp only [go_sem, List.size_toArray, List.length_cons, List.length_nil, Nat.reduceAdd]; done)) only [go_sem, Int.reduceLT, Int.reduceLE, Int.reduceEq, reduceIte, c39, ea, eb, hli]
  refine xloop (σ := Nat) (by kernel_rfl) (fun i s => s.df = [] ∧ s.h = h ∧ s.fr 0 = some a ∧ s.fr 1 = some b ∧ s.fr 5 = some (.int .i64 (i : Nat)) ∧ i ≤ l.length ∧ sameL (fun a b : Cell => decide (a = b)) (l.drop i) (m.drop i) = sameL (fun a b : Cell => decide (a = b)) l m) (fun i => l.length - i) 0 ?_ ?_
  · simp -implicitDefEqProofs (disch := first | omega | (simp only [go_sem, List.size_toArray, List.length_cons, List.length_nil, Nat.reduceAdd]; done)) only [go_sem, Int.reduceLT, Int.reduceLE, Int.reduceEq, reduceIte]
    exact ⟨by trivial, by trivial, by trivial, by trivial, by trivial, Nat.zero_le _, by rw [List.drop_zero, List.drop_zero]⟩
  · rintro i ⟨fr, df, hh, rd⟩ K hK hX ⟨rfl, rfl, f0, f1, f5, hi, ho⟩
    simp only at f0 f1 f5
    simp -implicitDefEqProofs (disch := first | omega | (simp only [go_sem, List.size_toArray, List.length_cons, List.length_nil, Nat.reduceAdd]; done)) only [go_sem, Int.reduceLT, Int.reduceLE, Int.reduceEq, reduceIte, f0, f1, f5, ea]
    refine XIf_dec (fun hc1 => ?_) (fun hc1 => ?_)
    · have hj : i < l.length := by omega
      have hk : i < m.length := by omega
      obtain ⟨id1, o1, e1, _, hat1⟩ := ha.idx (P := Try.prog) (t := 23) el_23 (k := .i64) (i := i) (x := l[i]) (by simp)
      obtain ⟨id2, o2, e2, _, hat2⟩ := hb.idx (P := Try.prog) (t := 23) el_23 (k := .i64) (i := i) (x := m[i]) (by simp)
      have hw := wrap_succ hj (by omega)
      have l1 : cellsAt hh id1 o1 4 = some (cellV l[i]) := hat1.flat.2.1
      have l2 : cellsAt hh id2 o2 4 = some (cellV m[i]) := hat2.flat.2.1
      rw [sameL_drop hj hk] at ho
      simp -implicitDefEqProofs (disch := first | omega | (simp only [go_sem, List.size_toArray, List.length_cons, List.length_nil, Nat.reduceAdd]; done)) only [go_sem, Int.reduceLT, Int.reduceLE, Int.reduceEq, reduceIte]
      refine dr_39_0 ?_
      by_cases hlt : l[i] = m[i]
      · rw [decide_eq_true hlt, Bool.true_and] at ho
        simp -implicitDefEqProofs (disch := first | omega | (simp only [go_sem, List.size_toArray, List.length_cons, List.length_nil, Nat.reduceAdd]; done)) only [go_sem, Int.reduceLT, Int.reduceLE, Int.reduceEq, reduceIte, l39_0, f0, f1, f5, e1, e2, l1, l2, bin_cell, hlt, true_and, hw]
        refine hK (i + 1) _ ?_ (by omega)
        exact ⟨by trivial, by trivial, by simp -implicitDefEqProofs (disch := first | omega | (simp only [go_sem, List.size_toArray, List.length_cons, List.length_nil, Nat.reduceAdd]; done)) only [go_sem, Int.reduceLT, Int.reduceLE, Int.reduceEq, reduceIte, f0], by simp -implicitDefEqProofs (disch := first | omega | (simp only [go_sem, List.size_toArray, List.length_cons, List.length_nil, Nat.reduceAdd]; done)) only [go_sem, Int.reduceLT, Int.reduceLE, Int.reduceEq, reduceIte, f1], by simp -implicitDefEqProofs (disch := first | omega | (simp only [go_sem, List.size_toArray, List.length_cons, List.length_nil, Nat.reduceAdd]; done)) only [go_sem, Int.reduceLT, Int.reduceLE, Int.reduceEq, reduceIte], by omega, ho⟩
      · rw [decide_eq_false hlt, Bool.false_and] at ho
        simp -implicitDefEqProofs (disch := first | omega | (simp only [go_sem, List.size_toArray, List.length_cons, List.length_nil, Nat.reduceAdd]; done)) only [go_sem, Int.reduceLT, Int.reduceLE, Int.reduceEq, reduceIte, l39_0, f0, f1, f5, e1, e2, l1, l2, bin_cell, hlt, true_and]
        refine hX _ _ (by simp) ?_
        simp -implicitDefEqProofs (disch := first | omega | (simp only [go_sem, List.size_toArray, List.length_cons, List.length_nil, Nat.reduceAdd]; done)) only [go_sem, Int.reduceLT, Int.reduceLE, Int.reduceEq, reduceIte]
        exact ⟨_, rfl, by rw [← ho], .refl hh⟩
    · obtain rfl : i = l.length := by omega
      refine hX _ _ (by simp) ?_
      simp -implicitDefEqProofs (disch := first | omega | (simp only [go_sem, List.size_toArray, List.length_cons, List.length_nil, Nat.reduceAdd]; done)) only [go_sem, Int.reduceLT, Int.reduceLE, Int.reduceEq, reduceIte]
      exact ⟨_, rfl, by rw [← ho, sameL_end hl], .refl hh⟩
end Go.Proofs.Ytlhgijpdhniddaa

namespace Go.Proofs.Ytlhgijpdhniddaa
open Go.D
set_option maxRecDepth 100000

abbrev resV (x : Res) (v : Value) : Value := .agg #[.int .i64 x.e, v, .int .i64 x.s, .int .i64 x.p]
def sameRes (x y : Res) : Bool := decide (x.e = y.e) && (decide (x.s = y.s) && (decide (x.p = y.p) && sameL (fun a b : Int => decide (a = b)) x.vs y.vs))
def sameRow (a b : Row) : Bool := decide (a.ses = b.ses) && (decide (a.req = b.req) && sameRes a.x b.x)
theorem sameRes_c {h : DHeap} {x y : Res} {v w : Value} (ha : Arg fI64.rep h v x.vs) (hb : Arg fI64.rep h w y.vs) (hlen : x.vs.length ≤ 4294967296) :
    DC Try.prog 67 [resV x v, resV y w] h (.ret (.bool (sameRes x y))) h := by
  refine Ct.pure (go_67 (by simp) ?_) (vin_bool _)
  have ea := ha.lens (P := Try.prog) (ts := #[51]) (t := 51) rfl isl_51
  have eb := hb.lens (P := Try.prog) (ts := #[51]) (t := 51) rfl isl_51
  have c1 := ha.cells1
  have c2 := hb.cells1
  have hE : ∀ {x y}, Ext h ((h.push x).push y) := (Ext.push1 _ _).push _
  unfold c67
  by_cases g1 : x.e = y.e
  case neg =>
    simp -implicitDefEqProofs (disch := first | omega | (simp only [go_sem, List.size_toArray, List.length_cons, List.length_nil, Nat.reduceAdd]; done)) only [go_sem, Int.reduceLT, Int.reduceLE, Int.reduceEq, reduceIte, cellAt_p0, cellAt_p1, Nat.zero_add, g1, dPick_t, ea, eb]
    exact ⟨_, rfl, by simp [sameRes, g1], hE⟩
  by_cases g2 : x.s = y.s
  case neg =>
    simp -implicitDefEqProofs (disch := first | omega | (simp only [go_sem, List.size_toArray, List.length_cons, List.length_nil, Nat.reduceAdd]; done)) only [go_sem, Int.reduceLT, Int.reduceLE, Int.reduceEq, reduceIte, cellAt_p0, cellAt_p1, Nat.zero_add, g1, g2, dPick_t, dPick_f, ea, eb]
    exact ⟨_, rfl, by simp [sameRes, g2], hE⟩
  by_cases g3 : x.p = y.p
  case neg =>
    simp -implicitDefEqProofs (disch := first | omega | (simp only [go_sem, List.size_toArray, List.length_cons, List.length_nil, Nat.reduceAdd]; done)) only [go_sem, Int.reduceLT, Int.reduceLE, Int.reduceEq, reduceIte, cellAt_p0, cellAt_p1, Nat.zero_add, g1, g2, g3, dPick_t, dPick_f, ea, eb]
    exact ⟨_, rfl, by simp [sameRes, g3], hE⟩
  by_cases hl : x.vs.length = y.vs.length
  case neg =>
    have hli : ¬ ((x.vs.length : Nat) : Int) = (y.vs.length : Nat) := by omega
    simp -implicitDefEqProofs (disch := first | omega | (simp only [go_sem, List.size_toArray, List.length_cons, List.length_nil, Nat.reduceAdd]; done)) only [go_sem, Int.reduceLT, Int.reduceLE, Int.reduceEq, reduceIte, cellAt_p0, cellAt_p1, Nat.zero_add, g1, g2, g3, dPick_t, dPick_f, ea, eb, hli]
    exact ⟨_, rfl, by simp [sameRes, sameL_len hl], hE⟩
  have hli : ((x.vs.length : Nat) : Int) = (y.vs.length : Nat) := by omega
  have hres : sameRes x y = sameL (fun a b : Int => decide (a = b)) x.vs y.vs := by simp [sameRes, g1, g2, g3]
  rw [hres]
  simp -implicitDefEqProofs (disch := first | omega | (simp only [go_sem, List.size_toArray, List.length_cons, List.length_nil, Nat.reduceAdd]; done)) only [go_sem, Int.reduceLT, Int.reduceLE, Int.reduceEq, reduceIte, cellAt_p0, cellAt_p1, Nat.zero_add, g1, g2, g3, dPick_t, dPick_f, ea, eb, hli]
  refine xloop (σ := Nat) (by kernel_rfl) (fun i s => s.df = [] ∧ s.h = (h.push (.row [.int .i64 x.e, v, .int .i64 x.s, .int .i64 x.p] 0 false)).push (.row [.int .i64 y.e, w, .int .i64 y.s, .int .i64 y.p] 0 false) ∧ s.fr 2 = some (.pointer (some ⟨h.next, 0, none⟩)) ∧
    s.fr 3 = some (.pointer (some ⟨(h.push (.row [.int .i64 x.e, v, .int .i64 x.s, .int .i64 x.p] 0 false)).next, 0, none⟩)) ∧ s.fr 5 = some (.int .i64 (i : Nat)) ∧ i ≤ x.vs.length ∧ sameL (fun a b : Int => decide (a = b)) (x.vs.drop i) (y.vs.drop i) = sameL (fun a b : Int => decide (a = b)) x.vs y.vs) (fun i => x.vs.length - i) 0 ?_ ?_
  · simp -implicitDefEqProofs (disch := first | omega | (simp only [go_sem, List.size_toArray, List.length_cons, List.length_nil, Nat.reduceAdd]; done)) only [go_sem, Int.reduceLT, Int.reduceLE, Int.reduceEq, reduceIte, g1, g2, g3]
    exact ⟨by trivial, by trivial, by trivial, by trivial, by trivial, Nat.zero_le _, by rw [List.drop_zero, List.drop_zero]⟩
  · rintro i ⟨fr, df, hh, rd⟩ K hK hX ⟨rfl, rfl, f2, f3, f5, hi, ho⟩
    simp only at f2 f3 f5
    simp -implicitDefEqProofs (disch := first | omega | (simp only [go_sem, List.size_toArray, List.length_cons, List.length_nil, Nat.reduceAdd]; done)) only [go_sem, Int.reduceLT, Int.reduceLE, Int.reduceEq, reduceIte, f2, f3, f5, ea, cellAt_p0, cellAt_p1, Nat.zero_add]
    refine XIf_dec (fun hc1 => ?_) (fun hc1 => ?_)
    · have hj : i < x.vs.length := by omega
      have hk : i < y.vs.length := by omega
      obtain ⟨id1, o1, e1, i1, hat1⟩ := ha.idx (P := Try.prog) (t := 51) el_51 (k := .i64) (i := i) (x := x.vs[i]) (by simp)
      obtain ⟨id2, o2, e2, i2, hat2⟩ := hb.idx (P := Try.prog) (t := 51) el_51 (k := .i64) (i := i) (x := y.vs[i]) (by simp)
      have hw := wrap_succ hj (by omega)
      have l1 := hat1.int
      have l2 := hat2.int
      rw [sameL_drop hj hk] at ho
      simp -implicitDefEqProofs (disch := first | omega | (simp only [go_sem, List.size_toArray, List.length_cons, List.length_nil, Nat.reduceAdd]; done)) only [go_sem, Int.reduceLT, Int.reduceLE, Int.reduceEq, reduceIte]
      refine dr_67_0 ?_
      by_cases hlt : x.vs[i] = y.vs[i]
      · rw [decide_eq_true hlt, Bool.true_and] at ho
        simp -implicitDefEqProofs (disch := first | omega | (simp only [go_sem, List.size_toArray, List.length_cons, List.length_nil, Nat.reduceAdd]; done)) only [go_sem, Int.reduceLT, Int.reduceLE, Int.reduceEq, reduceIte, l67_0, f2, f3, f5, cellAt_p0, cellAt_p1, cellAt_o2, Nat.zero_add, e1, e2, l1, l2, hlt, true_and, hw]
        refine hK (i + 1) _ ?_ (by omega)
        exact ⟨by trivial, by trivial, by simp -implicitDefEqProofs (disch := first | omega | (simp only [go_sem, List.size_toArray, List.length_cons, List.length_nil, Nat.reduceAdd]; done)) only [go_sem, Int.reduceLT, Int.reduceLE, Int.reduceEq, reduceIte, f2], by simp -implicitDefEqProofs (disch := first | omega | (simp only [go_sem, List.size_toArray, List.length_cons, List.length_nil, Nat.reduceAdd]; done)) only [go_sem, Int.reduceLT, Int.reduceLE, Int.reduceEq, reduceIte, f3], by simp -implicitDefEqProofs (disch := first | omega | (simp only [go_sem, List.size_toArray, List.length_cons, List.length_nil, Nat.reduceAdd]; done)) only [go_sem, Int.reduceLT, Int.reduceLE, Int.reduceEq, reduceIte], by omega, ho⟩
      · rw [decide_eq_false hlt, Bool.false_and] at ho
        simp -implicitDefEqProofs (disch := first | omega | (simp only [go_sem, List.size_toArray, List.length_cons, List.length_nil, Nat.reduceAdd]; done)) only [go_sem, Int.reduceLT, Int.reduceLE, Int.reduceEq, reduceIte, l67_0, f2, f3, f5, cellAt_p0, cellAt_p1, cellAt_o2, Nat.zero_add, e1, e2, l1, l2, hlt, true_and]
        refine hX _ _ (by simp) ?_
        simp -implicitDefEqProofs (disch := first | omega | (simp only [go_sem, List.size_toArray, List.length_cons, List.length_nil, Nat.reduceAdd]; done)) only [go_sem, Int.reduceLT, Int.reduceLE, Int.reduceEq, reduceIte]
        exact ⟨_, rfl, by rw [← ho], hE⟩
    · obtain rfl : i = x.vs.length := by omega
      refine hX _ _ (by simp) ?_
      simp -implicitDefEqProofs (disch := first | omega | (simp only [go_sem, List.size_toArray, List.length_cons, List.length_nil, Nat.reduceAdd]; done)) only [go_sem, Int.reduceLT, Int.reduceLE, Int.reduceEq, reduceIte]
      exact ⟨_, rfl, by rw [← ho, sameL_end hl], hE⟩
theorem sameRow_c {h : DHeap} {a b : Row} {v w : Value} (ha : Arg fI64.rep h v a.x.vs) (hb : Arg fI64.rep h w b.x.vs) (hlen : a.x.vs.length ≤ 4294967296) :
    DC Try.prog 40 [rowV a v, rowV b w] h (.ret (.bool (sameRow a b))) h := by
  refine Ct.pure (go_40 (by simp) ?_) (vin_bool _)
  have c1 := ha.cells1
  have c2 := hb.cells1
  have hE : ∀ {x y}, Ext h ((h.push x).push y) := (Ext.push1 _ _).push _
  unfold c40
  by_cases g1 : a.ses = b.ses
  case neg =>
    simp -implicitDefEqProofs (disch := first | omega | (simp only [go_sem, List.size_toArray, List.length_cons, List.length_nil, Nat.reduceAdd]; done)) only [go_sem, Int.reduceLT, Int.reduceLE, Int.reduceEq, reduceIte, cellAt_p0, cellAt_p1, cells4_at2_p0, cells4_at2_p1, Nat.zero_add, g1, dPick_t, dPick_f]
    exact ⟨_, rfl, by simp [sameRow, g1], hE⟩
  by_cases g2 : a.req = b.req
  case neg =>
    simp -implicitDefEqProofs (disch := first | omega | (simp only [go_sem, List.size_toArray, List.length_cons, List.length_nil, Nat.reduceAdd]; done)) only [go_sem, Int.reduceLT, Int.reduceLE, Int.reduceEq, reduceIte, cellAt_p0, cellAt_p1, cells4_at2_p0, cells4_at2_p1, Nat.zero_add, g1, g2, dPick_t, dPick_f]
    exact ⟨_, rfl, by simp [sameRow, g2], hE⟩
  simp -implicitDefEqProofs (disch := first | omega | (simp only [go_sem, List.size_toArray, List.length_cons, List.length_nil, Nat.reduceAdd]; done)) only [go_sem, Int.reduceLT, Int.reduceLE, Int.reduceEq, reduceIte, cellAt_p0, cellAt_p1, cells4_at2_p0, cells4_at2_p1, Nat.zero_add, g1, g2, dPick_t, dPick_f]
  refine ncall (sameRes_c (x := a.x) (y := b.x) (ha.ext hE) (hb.ext hE) hlen) ?_
  simp -implicitDefEqProofs (disch := first | omega | (simp only [go_sem, List.size_toArray, List.length_cons, List.length_nil, Nat.reduceAdd]; done)) only [go_sem, Int.reduceLT, Int.reduceLE, Int.reduceEq, reduceIte, dPick_t]
  exact ⟨_, rfl, by simp [sameRow, g1, g2], hE⟩
end Go.Proofs.Ytlhgijpdhniddaa

namespace Go.Proofs.Ytlhgijpdhniddaa
open Go.D
set_option maxRecDepth 100000

def sameState (a b : State) : Bool := decide (a.slot = b.slot) && (decide (a.rows.length = b.rows.length) && (sameL (fun a b : Cell => decide (a = b)) a.cells b.cells && sameL sameRow a.rows b.rows))
theorem same_c {h : DHeap} {n n' : Int} {cv rv cv' rv' : Value} {cells cells' : List Cell} {rows rows' : List Row} (hc : Arg fCell.rep h cv cells) (hr : Arg rRow h rv rows) (hc' : Arg fCell.rep h cv' cells') (hr' : Arg rRow h rv' rows')
    (hlc : cells.length ≤ 4294967296) (hlr : rows.length ≤ 4294967296) (hlv : ∀ r ∈ rows, r.x.vs.length ≤ 4294967296) :
    DC Try.prog 13 [stateV n cv rv, stateV n' cv' rv'] h (.ret (.bool (sameState ⟨n, cells, rows⟩ ⟨n', cells', rows'⟩))) h := by
  refine Ct.pure (go_13 (by simp) ?_) (vin_bool _)
  have c1 := hc.cells1
  have r1 := hr.cells1
  have c2 := hc'.cells1
  have r2 := hr'.cells1
  have er := hr.lens (P := Try.prog) (ts := #[24]) (t := 24) rfl isl_24
  have er' := hr'.lens (P := Try.prog) (ts := #[24]) (t := 24) rfl isl_24
  have hE : ∀ {x y}, Ext h ((h.push x).push y) := (Ext.push1 _ _).push _
  unfold c13
  by_cases g1 : n = n'
  case neg =>
    simp -implicitDefEqProofs (disch := first | omega | (simp only [go_sem, List.size_toArray, List.length_cons, List.length_nil, Nat.reduceAdd]; done)) only [go_sem, Int.reduceLT, Int.reduceLE, Int.reduceEq, reduceIte, cellAt_p0, cellAt_p1, Nat.zero_add, g1, dPick_t]
    exact ⟨_, rfl, by simp [sameState, g1], hE⟩
  subst g1
  by_cases hl : rows.length = rows'.length
  case neg =>
    have hli : ¬ ((rows.length : Nat) : Int) = (rows'.length : Nat) := by omega
    simp -implicitDefEqProofs (disch := first | omega | (simp only [go_sem, List.size_toArray, List.length_cons, List.length_nil, Nat.reduceAdd]; done)) only [go_sem, Int.reduceLT, Int.reduceLE, Int.reduceEq, reduceIte, cellAt_p0, cellAt_p1, Nat.zero_add, dPick_t, dPick_f, er, er', hli]
    exact ⟨_, rfl, by simp [sameState, hl], hE⟩
  have hli : ((rows.length : Nat) : Int) = (rows'.length : Nat) := by omega
  simp -implicitDefEqProofs (disch := first | omega | (simp only [go_sem, List.size_toArray, List.length_cons, List.length_nil, Nat.reduceAdd]; done)) only [go_sem, Int.reduceLT, Int.reduceLE, Int.reduceEq, reduceIte, cellAt_p0, cellAt_p1, Nat.zero_add, dPick_t, dPick_f, er, er', hli]
  refine ncall (sameCells_c (hc.ext hE) (hc'.ext hE) hlc) ?_
  by_cases g2 : sameL (fun a b : Cell => decide (a = b)) cells cells' = true
  case neg =>
    rw [show sameL (fun a b : Cell => decide (a = b)) cells cells' = false by simpa using g2]
    simp -implicitDefEqProofs (disch := first | omega | (simp only [go_sem, List.size_toArray, List.length_cons, List.length_nil, Nat.reduceAdd]; done)) only [go_sem, Int.reduceLT, Int.reduceLE, Int.reduceEq, reduceIte, dPick_t]
    exact ⟨_, rfl, by simp [sameState, g2], hE⟩
  rw [g2]
  have hres : sameState ⟨n, cells, rows⟩ ⟨n, cells', rows'⟩ = sameL sameRow rows rows' := by simp [sameState, g2, hl]
  rw [hres]
  simp -implicitDefEqProofs (disch := first | omega | (simp only [go_sem, List.size_toArray, List.length_cons, List.length_nil, Nat.reduceAdd]; done)) only [go_sem, Int.reduceLT, Int.reduceLE, Int.reduceEq, reduceIte, dPick_t, dPick_f]
  refine xloop (σ := Nat) (by kernel_rfl) (fun i s => s.df = [] ∧ s.h = (h.push (.row [.int .i64 n, cv, rv] 0 false)).push (.row [.int .i64 n, cv', rv'] 0 false) ∧ s.fr 2 = some (.pointer (some ⟨h.next, 0, none⟩)) ∧
    s.fr 3 = some (.pointer (some ⟨(h.push (.row [.int .i64 n, cv, rv] 0 false)).next, 0, none⟩)) ∧ s.fr 5 = some (.int .i64 (i : Nat)) ∧ i ≤ rows.length ∧ sameL sameRow (rows.drop i) (rows'.drop i) = sameL sameRow rows rows') (fun i => rows.length - i) 0 ?_ ?_
  · simp -implicitDefEqProofs (disch := first | omega | (simp only [go_sem, List.size_toArray, List.length_cons, List.length_nil, Nat.reduceAdd]; done)) only [go_sem, Int.reduceLT, Int.reduceLE, Int.reduceEq, reduceIte]
    exact ⟨by trivial, by trivial, by trivial, by trivial, by trivial, Nat.zero_le _, by rw [List.drop_zero, List.drop_zero]⟩
  · rintro i ⟨fr, df, hh, rd⟩ K hK hX ⟨rfl, rfl, f2, f3, f5, hi, ho⟩
    simp only at f2 f3 f5
    simp -implicitDefEqProofs (disch := first | omega | (simp only [go_sem, List.size_toArray, List.length_cons, List.length_nil, Nat.reduceAdd]; done)) only [go_sem, Int.reduceLT, Int.reduceLE, Int.reduceEq, reduceIte, f2, f3, f5, er, cellAt_p0, cellAt_p1, Nat.zero_add]
    refine XIf_dec (fun hc1 => ?_) (fun hc1 => ?_)
    · have hj : i < rows.length := by omega
      have hk : i < rows'.length := by omega
      have hr1 : Arg rRow ((h.push (.row [.int .i64 n, cv, rv] 0 false)).push (.row [.int .i64 n, cv', rv'] 0 false)) rv rows := hr.ext hE
      have hr1' : Arg rRow ((h.push (.row [.int .i64 n, cv, rv] 0 false)).push (.row [.int .i64 n, cv', rv'] 0 false)) rv' rows' := hr'.ext hE
      obtain ⟨id1, o1, e1, i1, hat1⟩ := hr1.idx (P := Try.prog) (t := 24) el_24 (k := .i64) (i := i) (x := rows[i]) (by simp)
      obtain ⟨id2, o2, e2, i2, hat2⟩ := hr1'.idx (P := Try.prog) (t := 24) el_24 (k := .i64) (i := i) (x := rows'[i]) (by simp)
      have hw := wrap_succ hj (by omega)
      obtain ⟨v1, l1, s1, _⟩ := row_at hat1
      obtain ⟨v2, l2, s2, _⟩ := row_at hat2
      rw [sameL_drop hj hk] at ho
      simp -implicitDefEqProofs (disch := first | omega | (simp only [go_sem, List.size_toArray, List.length_cons, List.length_nil, Nat.reduceAdd]; done)) only [go_sem, Int.reduceLT, Int.reduceLE, Int.reduceEq, reduceIte]
      refine dr_13_0 ?_
      simp -implicitDefEqProofs (disch := first | omega | (simp only [go_sem, List.size_toArray, List.length_cons, List.length_nil, Nat.reduceAdd]; done)) only [go_sem, Int.reduceLT, Int.reduceLE, Int.reduceEq, reduceIte, l13_0, f2, f3, f5, cellAt_p0, cellAt_p1, Nat.zero_add, e1, e2, l1, l2]
      refine dcall (sameRow_c s1 s2 (hlv _ (List.getElem_mem hj))) ?_
      by_cases hlt : sameRow rows[i] rows'[i] = true
      · rw [hlt, Bool.true_and] at ho
        rw [hlt]
        simp -implicitDefEqProofs (disch := first | omega | (simp only [go_sem, List.size_toArray, List.length_cons, List.length_nil, Nat.reduceAdd]; done)) only [go_sem, Int.reduceLT, Int.reduceLE, Int.reduceEq, reduceIte, f2, f3, f5, true_and, hw]
        refine hK (i + 1) _ ?_ (by omega)
        exact ⟨by trivial, by trivial, by simp -implicitDefEqProofs (disch := first | omega | (simp only [go_sem, List.size_toArray, List.length_cons, List.length_nil, Nat.reduceAdd]; done)) only [go_sem, Int.reduceLT, Int.reduceLE, Int.reduceEq, reduceIte, f2], by simp -implicitDefEqProofs (disch := first | omega | (simp only [go_sem, List.size_toArray, List.length_cons, List.length_nil, Nat.reduceAdd]; done)) only [go_sem, Int.reduceLT, Int.reduceLE, Int.reduceEq, reduceIte, f3], by simp -implicitDefEqProofs (disch := first | omega | (simp only [go_sem, List.size_toArray, List.length_cons, List.length_nil, Nat.reduceAdd]; done)) only [go_sem, Int.reduceLT, Int.reduceLE, Int.reduceEq, reduceIte], by omega, ho⟩
      · rw [show sameRow rows[i] rows'[i] = false by simpa using hlt, Bool.false_and] at ho
        rw [show sameRow rows[i] rows'[i] = false by simpa using hlt]
        simp -implicitDefEqProofs (disch := first | omega | (simp only [go_sem, List.size_toArray, List.length_cons, List.length_nil, Nat.reduceAdd]; done)) only [go_sem, Int.reduceLT, Int.reduceLE, Int.reduceEq, reduceIte, f2, f3, f5, true_and]
        refine hX _ _ (by simp) ?_
        simp -implicitDefEqProofs (disch := first | omega | (simp only [go_sem, List.size_toArray, List.length_cons, List.length_nil, Nat.reduceAdd]; done)) only [go_sem, Int.reduceLT, Int.reduceLE, Int.reduceEq, reduceIte]
        exact ⟨_, rfl, by rw [← ho], hE⟩
    · obtain rfl : i = rows.length := by omega
      refine hX _ _ (by simp) ?_
      simp -implicitDefEqProofs (disch := first | omega | (simp only [go_sem, List.size_toArray, List.length_cons, List.length_nil, Nat.reduceAdd]; done)) only [go_sem, Int.reduceLT, Int.reduceLE, Int.reduceEq, reduceIte]
      exact ⟨_, rfl, by rw [← ho, sameL_end hl], hE⟩
end Go.Proofs.Ytlhgijpdhniddaa

namespace Go.Proofs.Ytlhgijpdhniddaa
open Go.D
set_option maxRecDepth 100000

theorem takeI_size (l : List Int) : (takeI l).2.1 = ((takeI l).2.1.toNat : Int) ∧ (takeI l).2.1.toNat ≤ l.length := by
  cases l with
  | nil => exact ⟨rfl, Nat.le_refl _⟩
  | cons c r =>
    simp only [takeI]
    split
    · exact ⟨rfl, Nat.zero_le _⟩
    split
    · exact ⟨rfl, Nat.zero_le _⟩
    split
    · exact ⟨rfl, Nat.zero_le _⟩
    split
    · exact ⟨rfl, Nat.zero_le _⟩
    · simp only [List.length_cons]; omega
/-- the next number: what it is, where the rest begins, what is wrong -/
def numA (l : List Int) (a : Nat) (e : Int) : Int × Nat × Int :=
  if e = 0 then (if (takeI (l.drop a)).2.2 = 0 then ((takeI (l.drop a)).1, a + (takeI (l.drop a)).2.1.toNat, 0) else (0, a, (takeI (l.drop a)).2.2)) else (0, a, e)
theorem numA_le {l : List Int} {a : Nat} {e : Int} (h : a ≤ l.length) : (numA l a e).2.1 ≤ l.length := by
  unfold numA
  split
  · split
    · have := (takeI_size (l.drop a)).2
      rw [List.length_drop] at this
      simp only; omega
    · exact h
  · exact h
abbrev refRow (b : Value) (a : Nat) (e : Int) (odd : Bool) : DObj := .row [b, .int .i64 (a : Int), .int .i64 e, .bool odd] 0 false
theorem refRow_vin {h : DHeap} {b : Value} {a : Nat} {e : Int} {odd : Bool} (hb : VIn (fun i => i < h.next) b) : ∀ v ∈ [b, .int .i64 (a : Int), .int .i64 e, .bool odd], VIn (fun i => i < h.next) v := by
  intro v hv
  simp at hv
  rcases hv with rfl | rfl | rfl | rfl
  · exact hb
  · exact .int _ _
  · exact .int _ _
  · exact .bool _
theorem fail_c {h : DHeap} {R a : Nat} {b : Value} {e x : Int} {odd : Bool} (hb : VIn (fun i => i < h.next) b) (hR : h.get R = some (refRow b a e odd)) (hn : R < h.next) :
    DC Try.prog 38 [.pointer (some ⟨R, 0, none⟩), .int .i64 x] h (.ret (.tuple #[])) (h.set R (refRow b a (if e = 0 then x else e) odd)) := by
  refine Ct.changed hn (refRow_vin hb) (.tuple fun v hv => by simp at hv) (go_38 (by simp) ?_)
  have C2 : cellAt h R 2 = some (.int .i64 e) := cellAt_row hR
  by_cases h0 : e = 0
  · have s2 : storeAt h R 2 [.int .i64 x] = some (h.set R (refRow b a x odd)) := storeAt_row hR (Nat.le_of_ble_eq_true rfl) rfl
    simp -implicitDefEqProofs (disch := first | omega | (simp -implicitDefEqProofs only [go_sem, List.size_toArray, List.length_cons, List.length_nil, Nat.reduceAdd]; done)) only [go_sem, Int.reduceLT, Int.reduceLE, Int.reduceEq, reduceIte, true_and, Nat.zero_add, Nat.add_zero, Option.map_some, c38, C2, h0, s2, Nat.zero_add]
    exact ⟨_, rfl, rfl, .set _ _ _⟩
  · simp -implicitDefEqProofs (disch := first | omega | (simp -implicitDefEqProofs only [go_sem, List.size_toArray, List.length_cons, List.length_nil, Nat.reduceAdd]; done)) only [go_sem, Int.reduceLT, Int.reduceLE, Int.reduceEq, reduceIte, true_and, Nat.zero_add, Nat.add_zero, Option.map_some, c38, C2, h0, Nat.zero_add]
    exact ⟨_, rfl, rfl, .self hR⟩
theorem num_c {h : DHeap} {R a : Nat} {b : Value} {e : Int} {odd : Bool} {l : List Int} (hb : Sl fU8.rep (fun i => i < R) h b l) (hR : h.get R = some (refRow b a e odd)) (hn : R < h.next) (ha : a ≤ l.length) (hlen : l.length ≤ 4294967296) :
    DC Try.prog 32 [.pointer (some ⟨R, 0, none⟩)] h (.ret (.int .i64 (numA l a e).1)) (h.set R (refRow b (numA l a e).2.1 (numA l a e).2.2 odd)) := by
  have hbv : VIn (fun i => i < h.next) b := hb.vin.mono fun i hi => Nat.lt_trans hi hn
  refine Ct.changed hn (refRow_vin hbv) (vin_int _ _) (go_32 (by simp) ?_)
  have C0 : cellAt h R 0 = some b := cellAt_row hR
  have C1 : cellAt h R 1 = some (.int .i64 (a : Int)) := cellAt_row hR
  have C2 : cellAt h R 2 = some (.int .i64 e) := cellAt_row hR
  by_cases h0 : e = 0
  case neg =>
    have hnum : numA l a e = (0, a, e) := by unfold numA; rw [if_neg h0]
    rw [hnum]
    simp -implicitDefEqProofs (disch := first | omega | (simp -implicitDefEqProofs only [go_sem, List.size_toArray, List.length_cons, List.length_nil, Nat.reduceAdd]; done)) only [go_sem, Int.reduceLT, Int.reduceLE, Int.reduceEq, reduceIte, true_and, Nat.zero_add, Nat.add_zero, Option.map_some, c32, C2, h0, Nat.zero_add]
    exact ⟨_, rfl, rfl, .self hR⟩
  subst h0
  have hba : Arg fU8.rep h b l := hb.mono fun i hi => ⟨Nat.lt_trans hi hn, rfl⟩
  obtain ⟨v', e1, hs⟩ := hba.slice (P := Try.prog) (t := 22) (lo := some (.int .i64 (a : Int))) (hi := none) (i := a) (j := l.length) el_22 (by decide) rfl (by
    simp only [boundOf]
    rw [if_pos (by omega)]; rfl) ha (Nat.le_refl _)
  rw [List.take_length] at hs
  have sz := takeI_size (l.drop a)
  rw [List.length_drop] at sz
  simp -implicitDefEqProofs (disch := first | omega | (simp -implicitDefEqProofs only [go_sem, List.size_toArray, List.length_cons, List.length_nil, Nat.reduceAdd]; done)) only [go_sem, Int.reduceLT, Int.reduceLE, Int.reduceEq, reduceIte, true_and, Nat.zero_add, Nat.add_zero, Option.map_some, c32, C2, Nat.zero_add]
  refine dr_32_0 ?_
  simp -implicitDefEqProofs (disch := first | omega | (simp -implicitDefEqProofs only [go_sem, List.size_toArray, List.length_cons, List.length_nil, Nat.reduceAdd]; done)) only [go_sem, Int.reduceLT, Int.reduceLE, Int.reduceEq, reduceIte, true_and, Nat.zero_add, Nat.add_zero, Option.map_some, l32_0, C0, C1, Nat.zero_add, Nat.add_zero, e1]
  refine dcall (refTake_c hs (by rw [List.length_drop]; omega)) ?_
  by_cases h1 : (takeI (l.drop a)).2.2 = 0
  · have hnum : numA l a 0 = ((takeI (l.drop a)).1, a + (takeI (l.drop a)).2.1.toNat, 0) := by unfold numA; rw [if_pos rfl, if_pos h1]
    rw [hnum]
    have hadd : IntKind.i64.wrap ((a : Int) + (takeI (l.drop a)).2.1) = ((a + (takeI (l.drop a)).2.1.toNat : Nat) : Int) := by
      rw [wrap_i64_in (by omega) (by omega)]; omega
    have s1 : storeAt h R 1 [.int .i64 ((a + (takeI (l.drop a)).2.1.toNat : Nat) : Int)] = some (h.set R (refRow b (a + (takeI (l.drop a)).2.1.toNat) 0 odd)) := storeAt_row hR (Nat.le_of_ble_eq_true rfl) rfl
    simp -implicitDefEqProofs (disch := first | omega | (simp -implicitDefEqProofs only [go_sem, List.size_toArray, List.length_cons, List.length_nil, Nat.reduceAdd]; done)) only [go_sem, Int.reduceLT, Int.reduceLE, Int.reduceEq, reduceIte, true_and, Nat.zero_add, Nat.add_zero, Option.map_some, h1, C1, Nat.zero_add, true_and, hadd, s1]
    exact ⟨_, rfl, rfl, .set _ _ _⟩
  · have hnum : numA l a 0 = (0, a, (takeI (l.drop a)).2.2) := by unfold numA; rw [if_pos rfl, if_neg h1]
    rw [hnum]
    simp -implicitDefEqProofs (disch := first | omega | (simp -implicitDefEqProofs only [go_sem, List.size_toArray, List.length_cons, List.length_nil, Nat.reduceAdd]; done)) only [go_sem, Int.reduceLT, Int.reduceLE, Int.reduceEq, reduceIte, true_and, Nat.zero_add, Nat.add_zero, Option.map_some, h1, true_and]
    refine ncall (fail_c (x := (takeI (l.drop a)).2.2) hbv hR hn) ?_
    simp -implicitDefEqProofs (disch := first | omega | (simp -implicitDefEqProofs only [go_sem, List.size_toArray, List.length_cons, List.length_nil, Nat.reduceAdd]; done)) only [go_sem, Int.reduceLT, Int.reduceLE, Int.reduceEq, reduceIte, true_and, Nat.zero_add, Nat.add_zero, Option.map_some]
    exact ⟨_, rfl, rfl, .set _ _ _⟩
end Go.Proofs.Ytlhgijpdhniddaa

namespace Go.Proofs.Ytlhgijpdhniddaa
open Go.D
set_option maxRecDepth 100000

def smI (n : Int) : Int := if n < -2147483648 ∨ 2147483648 < n then -2147483648 else n
theorem small_c {h : DHeap} {R a : Nat} {b : Value} {e : Int} {odd : Bool} {l : List Int} (hb : Sl fU8.rep (fun i => i < R) h b l) (hR : h.get R = some (refRow b a e odd)) (hn : R < h.next) (ha : a ≤ l.length) (hlen : l.length ≤ 4294967296) :
    DC Try.prog 63 [.pointer (some ⟨R, 0, none⟩)] h (.ret (.int .i64 (smI (numA l a e).1))) (h.set R (refRow b (numA l a e).2.1 (numA l a e).2.2 odd)) := by
  have hbv : VIn (fun i => i < h.next) b := hb.vin.mono fun i hi => Nat.lt_trans hi hn
  refine Ct.changed hn (refRow_vin hbv) (vin_int _ _) (go_63 (by simp) ?_)
  simp -implicitDefEqProofs (disch := first | omega | (simp -implicitDefEqProofs only [go_sem, List.size_toArray, List.length_cons, List.length_nil, Nat.reduceAdd]; done)) only [go_sem, Int.reduceLT, Int.reduceLE, Int.reduceEq, reduceIte, true_and, Nat.zero_add, Nat.add_zero, Option.map_some, c63]
  refine ncall (num_c hb hR hn ha hlen) ?_
  obtain ⟨n, hnn⟩ : ∃ n, (numA l a e).1 = n := ⟨_, rfl⟩
  rw [hnn]
  unfold smI
  by_cases h1 : n < -2147483648
  · simp -implicitDefEqProofs (disch := first | omega | (simp -implicitDefEqProofs only [go_sem, List.size_toArray, List.length_cons, List.length_nil, Nat.reduceAdd]; done)) only [go_sem, Int.reduceLT, Int.reduceLE, Int.reduceEq, reduceIte, true_and, Nat.zero_add, Nat.add_zero, Option.map_some, h1, dPick_t, true_or]
    exact ⟨_, rfl, rfl, .set _ _ _⟩
  by_cases h2 : 2147483648 < n
  · simp -implicitDefEqProofs (disch := first | omega | (simp -implicitDefEqProofs only [go_sem, List.size_toArray, List.length_cons, List.length_nil, Nat.reduceAdd]; done)) only [go_sem, Int.reduceLT, Int.reduceLE, Int.reduceEq, reduceIte, true_and, Nat.zero_add, Nat.add_zero, Option.map_some, h1, gt_iff_lt, h2, dPick_t, dPick_f, or_true]
    exact ⟨_, rfl, rfl, .set _ _ _⟩
  · simp -implicitDefEqProofs (disch := first | omega | (simp -implicitDefEqProofs only [go_sem, List.size_toArray, List.length_cons, List.length_nil, Nat.reduceAdd]; done)) only [go_sem, Int.reduceLT, Int.reduceLE, Int.reduceEq, reduceIte, true_and, Nat.zero_add, Nat.add_zero, Option.map_some, h1, gt_iff_lt, h2, dPick_t, dPick_f, or_self]
    exact ⟨_, rfl, rfl, .set _ _ _⟩
/-- a length -/
def lenA (l : List Int) (a : Nat) (e most : Int) : Int × Nat × Int :=
  if (numA l a e).2.2 = 0 then (if (numA l a e).1 < 0 ∨ most < (numA l a e).1 then (0, (numA l a e).2.1, 220) else numA l a e) else (0, (numA l a e).2.1, (numA l a e).2.2)
theorem lenA_le {l : List Int} {a : Nat} {e most : Int} (h : a ≤ l.length) : (lenA l a e most).2.1 ≤ l.length := by
  have := numA_le (l := l) (a := a) (e := e) h
  unfold lenA
  split
  · split <;> exact this
  · exact this
theorem lenA_in {l : List Int} {a : Nat} {e most : Int} (hm : 0 ≤ most) : 0 ≤ (lenA l a e most).1 ∧ (lenA l a e most).1 ≤ most := by
  unfold lenA
  split
  · split
    · exact ⟨Int.le_refl _, hm⟩
    · omega
  · exact ⟨Int.le_refl _, hm⟩
theorem length_c {h : DHeap} {R a : Nat} {b : Value} {e most : Int} {odd : Bool} {l : List Int} (hb : Sl fU8.rep (fun i => i < R) h b l) (hR : h.get R = some (refRow b a e odd)) (hn : R < h.next) (ha : a ≤ l.length) (hlen : l.length ≤ 4294967296) :
    DC Try.prog 33 [.pointer (some ⟨R, 0, none⟩), .int .i64 most] h (.ret (.int .i64 (lenA l a e most).1)) (h.set R (refRow b (lenA l a e most).2.1 (lenA l a e most).2.2 odd)) := by
  have hbv : VIn (fun i => i < h.next) b := hb.vin.mono fun i hi => Nat.lt_trans hi hn
  refine Ct.changed hn (refRow_vin hbv) (vin_int _ _) (go_33 (by simp) ?_)
  simp -implicitDefEqProofs (disch := first | omega | (simp -implicitDefEqProofs only [go_sem, List.size_toArray, List.length_cons, List.length_nil, Nat.reduceAdd]; done)) only [go_sem, Int.reduceLT, Int.reduceLE, Int.reduceEq, reduceIte, true_and, Nat.zero_add, Nat.add_zero, Option.map_some, c33]
  refine ncall (num_c hb hR hn ha hlen) ?_
  obtain ⟨n, a1, e1, hnn⟩ : ∃ n a1 e1, numA l a e = (n, a1, e1) := ⟨_, _, _, rfl⟩
  unfold lenA
  rw [hnn]
  have C2 : cellAt (h.set R (refRow b a1 e1 odd)) R 2 = some (.int .i64 e1) := cellAt_row (get_set_same _ _)
  by_cases h0 : e1 = 0
  case neg =>
    simp -implicitDefEqProofs (disch := first | omega | (simp -implicitDefEqProofs only [go_sem, List.size_toArray, List.length_cons, List.length_nil, Nat.reduceAdd]; done)) only [go_sem, Int.reduceLT, Int.reduceLE, Int.reduceEq, reduceIte, true_and, Nat.zero_add, Nat.add_zero, Option.map_some, C2, h0, dPick_f]
    exact ⟨_, rfl, rfl, .set _ _ _⟩
  subst h0
  have hf := fail_c (x := 220) (h := h.set R (refRow b a1 0 odd)) (R := R) (a := a1) (b := b) (e := 0) (odd := odd) hbv (get_set_same _ _) hn
  rw [set_set, if_pos rfl] at hf
  have C3 : cellAt (h.set R (refRow b a1 220 odd)) R 2 = some (.int .i64 220) := cellAt_row (get_set_same _ _)
  by_cases h1 : n < 0
  · simp -implicitDefEqProofs (disch := first | omega | (simp -implicitDefEqProofs only [go_sem, List.size_toArray, List.length_cons, List.length_nil, Nat.reduceAdd]; done)) only [go_sem, Int.reduceLT, Int.reduceLE, Int.reduceEq, reduceIte, true_and, Nat.zero_add, Nat.add_zero, Option.map_some, C2, h1, dPick_t, dPick_f, true_or]
    refine ncall hf ?_
    simp -implicitDefEqProofs (disch := first | omega | (simp -implicitDefEqProofs only [go_sem, List.size_toArray, List.length_cons, List.length_nil, Nat.reduceAdd]; done)) only [go_sem, Int.reduceLT, Int.reduceLE, Int.reduceEq, reduceIte, true_and, Nat.zero_add, Nat.add_zero, Option.map_some, C3]
    exact ⟨_, rfl, rfl, .set _ _ _⟩
  by_cases h2 : most < n
  · simp -implicitDefEqProofs (disch := first | omega | (simp -implicitDefEqProofs only [go_sem, List.size_toArray, List.length_cons, List.length_nil, Nat.reduceAdd]; done)) only [go_sem, Int.reduceLT, Int.reduceLE, Int.reduceEq, reduceIte, true_and, Nat.zero_add, Nat.add_zero, Option.map_some, C2, h1, gt_iff_lt, h2, dPick_t, dPick_f, or_true]
    refine ncall hf ?_
    simp -implicitDefEqProofs (disch := first | omega | (simp -implicitDefEqProofs only [go_sem, List.size_toArray, List.length_cons, List.length_nil, Nat.reduceAdd]; done)) only [go_sem, Int.reduceLT, Int.reduceLE, Int.reduceEq, reduceIte, true_and, Nat.zero_add, Nat.add_zero, Option.map_some, C3]
    exact ⟨_, rfl, rfl, .set _ _ _⟩
  · simp -implicitDefEqProofs (disch := first | omega | (simp -implicitDefEqProofs only [go_sem, List.size_toArray, List.length_cons, List.length_nil, Nat.reduceAdd]; done)) only [go_sem, Int.reduceLT, Int.reduceLE, Int.reduceEq, reduceIte, true_and, Nat.zero_add, Nat.add_zero, Option.map_some, C2, h1, gt_iff_lt, h2, dPick_t, dPick_f, or_self]
    exact ⟨_, rfl, rfl, .set _ _ _⟩
theorem end_c {h : DHeap} {R a : Nat} {b : Value} {e : Int} {odd : Bool} {l : List Int} (hb : Sl fU8.rep (fun i => i < R) h b l) (hR : h.get R = some (refRow b a e odd)) (hn : R < h.next) (ha : a ≤ l.length) :
    DC Try.prog 36 [.pointer (some ⟨R, 0, none⟩)] h (.ret (.tuple #[])) (h.set R (refRow b a (if e = 0 ∧ a < l.length then 13 else e) odd)) := by
  have hbv : VIn (fun i => i < h.next) b := hb.vin.mono fun i hi => Nat.lt_trans hi hn
  refine Ct.changed hn (refRow_vin hbv) (.tuple fun v hv => by simp at hv) (go_36 (by simp) ?_)
  have C0 : cellAt h R 0 = some b := cellAt_row hR
  have C1 : cellAt h R 1 = some (.int .i64 (a : Int)) := cellAt_row hR
  have el := hb.lens (P := Try.prog) (ts := #[22]) (t := 22) rfl isl_22
  simp -implicitDefEqProofs (disch := first | omega | (simp -implicitDefEqProofs only [go_sem, List.size_toArray, List.length_cons, List.length_nil, Nat.reduceAdd]; done)) only [go_sem, Int.reduceLT, Int.reduceLE, Int.reduceEq, reduceIte, true_and, Nat.zero_add, Nat.add_zero, Option.map_some, c36]
  refine dr_36_0 ?_
  have hst : ∀ {tr : List TE} {fr : Fr} {v : Value}, True := fun {_ _ _} => trivial
  by_cases h1 : a < l.length
  · have h1i : ((a : Nat) : Int) < (l.length : Nat) := by omega
    simp -implicitDefEqProofs (disch := first | omega | (simp -implicitDefEqProofs only [go_sem, List.size_toArray, List.length_cons, List.length_nil, Nat.reduceAdd]; done)) only [go_sem, Int.reduceLT, Int.reduceLE, Int.reduceEq, reduceIte, true_and, Nat.zero_add, Nat.add_zero, Option.map_some, l36_0, C0, C1, el, h1i]
    refine ⟨⟨XSt1_at (i := 3) (j := 8) rfl rfl rfl ?_, trivial⟩, ?_⟩
    · rw [if_neg (by decide)]
      refine Ld_on (p := .pointer (some ⟨R, 1, none⟩)) ?_ ?_ (ld_3.trans C1)
      · simp -implicitDefEqProofs (disch := first | omega | (simp -implicitDefEqProofs only [go_sem, List.size_toArray, List.length_cons, List.length_nil, Nat.reduceAdd]; done)) only [go_sem, Int.reduceLT, Int.reduceLE, Int.reduceEq, reduceIte, true_and, Nat.zero_add, Nat.add_zero, Option.map_some]
      · simp -implicitDefEqProofs (disch := first | omega | (simp -implicitDefEqProofs only [go_sem, List.size_toArray, List.length_cons, List.length_nil, Nat.reduceAdd]; done)) only [go_sem, Int.reduceLT, Int.reduceLE, Int.reduceEq, reduceIte, true_and, Nat.zero_add, Nat.add_zero, Option.map_some]
    refine ncall (fail_c (x := 13) hbv hR hn) ?_
    simp -implicitDefEqProofs (disch := first | omega | (simp -implicitDefEqProofs only [go_sem, List.size_toArray, List.length_cons, List.length_nil, Nat.reduceAdd]; done)) only [go_sem, Int.reduceLT, Int.reduceLE, Int.reduceEq, reduceIte, true_and, Nat.zero_add, Nat.add_zero, Option.map_some]
    refine ⟨_, rfl, rfl, ?_⟩
    by_cases h0 : e = 0
    · rw [if_pos h0, if_pos ⟨h0, h1⟩]; exact .set _ _ _
    · rw [if_neg h0, if_neg (fun hh => h0 hh.1)]; exact .set _ _ _
  · have h1i : ¬ ((a : Nat) : Int) < (l.length : Nat) := by omega
    simp -implicitDefEqProofs (disch := first | omega | (simp -implicitDefEqProofs only [go_sem, List.size_toArray, List.length_cons, List.length_nil, Nat.reduceAdd]; done)) only [go_sem, Int.reduceLT, Int.reduceLE, Int.reduceEq, reduceIte, true_and, Nat.zero_add, Nat.add_zero, Option.map_some, l36_0, C0, C1, el, h1i]
    refine ⟨⟨XSt1_at (i := 3) (j := 8) rfl rfl rfl ?_, trivial⟩, ?_⟩
    · rw [if_neg (by decide)]
      refine Ld_on (p := .pointer (some ⟨R, 1, none⟩)) ?_ ?_ (ld_3.trans C1)
      · simp -implicitDefEqProofs (disch := first | omega | (simp -implicitDefEqProofs only [go_sem, List.size_toArray, List.length_cons, List.length_nil, Nat.reduceAdd]; done)) only [go_sem, Int.reduceLT, Int.reduceLE, Int.reduceEq, reduceIte, true_and, Nat.zero_add, Nat.add_zero, Option.map_some]
      · simp -implicitDefEqProofs (disch := first | omega | (simp -implicitDefEqProofs only [go_sem, List.size_toArray, List.length_cons, List.length_nil, Nat.reduceAdd]; done)) only [go_sem, Int.reduceLT, Int.reduceLE, Int.reduceEq, reduceIte, true_and, Nat.zero_add, Nat.add_zero, Option.map_some]
    refine ⟨_, rfl, rfl, ?_⟩
    rw [if_neg (fun hh => h1 hh.2)]; exact .self hR
theorem Sl.upto {S : Nat → Prop} {h h1 : DHeap} {b : Value} {l : List Int} (hb : Sl fU8.rep S h b l) (e : ∀ i, S i → h1.get i = h.get i) : Sl fU8.rep S h1 b l := hb.keep e
/-- a cell that is read -/
def cellA (l : List Int) (a : Nat) (e : Int) (odd : Bool) : Cell × Nat × Int × Bool :=
  (⟨⟨IntKind.i32.wrap (numA l a e).1, (numA l (numA l a e).2.1 (numA l a e).2.2).1⟩,
    (numA l (numA l (numA l a e).2.1 (numA l a e).2.2).2.1 (numA l (numA l a e).2.1 (numA l a e).2.2).2.2).1,
    (numA l (numA l (numA l (numA l a e).2.1 (numA l a e).2.2).2.1 (numA l (numA l a e).2.1 (numA l a e).2.2).2.2).2.1 (numA l (numA l (numA l a e).2.1 (numA l a e).2.2).2.1 (numA l (numA l a e).2.1 (numA l a e).2.2).2.2).2.2).1⟩,
   (numA l (numA l (numA l (numA l a e).2.1 (numA l a e).2.2).2.1 (numA l (numA l a e).2.1 (numA l a e).2.2).2.2).2.1 (numA l (numA l (numA l a e).2.1 (numA l a e).2.2).2.1 (numA l (numA l a e).2.1 (numA l a e).2.2).2.2).2.2).2.1,
   (numA l (numA l (numA l (numA l a e).2.1 (numA l a e).2.2).2.1 (numA l (numA l a e).2.1 (numA l a e).2.2).2.2).2.1 (numA l (numA l (numA l a e).2.1 (numA l a e).2.2).2.1 (numA l (numA l a e).2.1 (numA l a e).2.2).2.2).2.2).2.2,
   odd || decide ((numA l a e).1 < -2147483648 ∨ 2147483647 < (numA l a e).1))
theorem cell_form {l : List Int} {a a1 a2 a3 a4 : Nat} {e e1 e2 e3 e4 n1 n2 n3 n4 : Int} {odd : Bool} (h1 : numA l a e = (n1, a1, e1)) (h2 : numA l a1 e1 = (n2, a2, e2)) (h3 : numA l a2 e2 = (n3, a3, e3)) (h4 : numA l a3 e3 = (n4, a4, e4)) :
    cellA l a e odd = (⟨⟨IntKind.i32.wrap n1, n2⟩, n3, n4⟩, a4, e4, odd || decide (n1 < -2147483648 ∨ 2147483647 < n1)) := by
  simp only [cellA, h1, h2, h3, h4]
theorem cellV_vin {S : Nat → Prop} (c : Cell) : VIn S (cellV c) := .agg fun v hv => by
  simp at hv
  rcases hv with rfl | rfl | rfl | rfl <;> exact .int _ _
theorem bd_key {t r : Int} : dBuild Try.prog 48 [(0, .int .i32 t), (1, .int .i64 r)] = some (keyV ⟨t, r⟩) := dBuild_at plc_48 rfl
theorem bd_cell {t r v s : Int} : dBuild Try.prog 50 [(0, keyV ⟨t, r⟩), (1, .int .i64 v), (2, .int .i64 s)] = some (cellV ⟨⟨t, r⟩, v, s⟩) := dBuild_at plc_50 rfl
theorem num_at {h : DHeap} {R a a1 : Nat} {b : Value} {e n1 e1 : Int} {odd : Bool} {l : List Int} {h0 : DHeap} (hh : h.get R = some (refRow b a e odd)) (hb : Sl fU8.rep (fun i => i < R) h0 b l) (hk : ∀ i, i < R → h.get i = h0.get i) (hn : R < h.next) (ha : a ≤ l.length) (hlen : l.length ≤ 4294967296) (hx : numA l a e = (n1, a1, e1)) :
    DC Try.prog 32 [.pointer (some ⟨R, 0, none⟩)] h (.ret (.int .i64 n1)) (h.set R (refRow b a1 e1 odd)) := by
  have := num_c (hb.keep (h1 := h) hk) hh hn ha hlen
  rw [hx] at this
  exact this
set_option maxHeartbeats 2000000 in
theorem cell_c {h : DHeap} {R a : Nat} {b : Value} {e : Int} {odd : Bool} {l : List Int} (hb : Sl fU8.rep (fun i => i < R) h b l) (hR : h.get R = some (refRow b a e odd)) (hn : R < h.next) (ha : a ≤ l.length) (hlen : l.length ≤ 4294967296) :
    DC Try.prog 34 [.pointer (some ⟨R, 0, none⟩)] h (.ret (cellV (cellA l a e odd).1)) (h.set R (refRow b (cellA l a e odd).2.1 (cellA l a e odd).2.2.1 (cellA l a e odd).2.2.2)) := by
  have hbv : VIn (fun i => i < h.next) b := hb.vin.mono fun i hi => Nat.lt_trans hi hn
  refine Ct.changed hn (refRow_vin hbv) (cellV_vin _) (go_34 (by simp) ?_)
  obtain ⟨n1, a1, e1, x1⟩ : ∃ n1 a1 e1, numA l a e = (n1, a1, e1) := ⟨_, _, _, rfl⟩
  obtain ⟨n2, a2, e2, x2⟩ : ∃ p q r, numA l a1 e1 = (p, q, r) := ⟨_, _, _, rfl⟩
  obtain ⟨n3, a3, e3, x3⟩ : ∃ p q r, numA l a2 e2 = (p, q, r) := ⟨_, _, _, rfl⟩
  obtain ⟨n4, a4, e4, x4⟩ : ∃ p q r, numA l a3 e3 = (p, q, r) := ⟨_, _, _, rfl⟩
  have ha1 : a1 ≤ l.length := by have := numA_le (l := l) (a := a) (e := e) ha; rw [x1] at this; exact this
  have ha2 : a2 ≤ l.length := by have := numA_le (l := l) (a := a1) (e := e1) ha1; rw [x2] at this; exact this
  have ha3 : a3 ≤ l.length := by have := numA_le (l := l) (a := a2) (e := e2) ha2; rw [x3] at this; exact this
  rw [cell_form x1 x2 x3 x4]
  obtain ⟨H, hH⟩ : ∃ H, H = h.push (.row [.int .i32 0, .int .i64 0, .int .i64 0, .int .i64 0] 0 false) := ⟨_, rfl⟩
  have hHn : H.next = h.next + 1 := by rw [hH]; rfl
  have hHg : H.ng = h.ng := by rw [hH]; rfl
  have hHB : H.get h.next = some (.row [.int .i32 0, .int .i64 0, .int .i64 0, .int .i64 0] 0 false) := by rw [hH]; exact get_push_same _ _
  have hHo : ∀ i, i < h.next → H.get i = h.get i := fun i hi => by rw [hH]; exact get_push_other _ _ hi
  have hk : ∀ (o : DObj) i, i < R → (H.set R o).get i = h.get i := fun o i hi => by rw [get_set_other _ _ (by omega), hHo i (by omega)]
  have hRn : ∀ (o : DObj), R < (H.set R o).next := fun o => by rw [next_set, hHn]; omega
  have c1 := num_at (odd := odd) (h := H) ((hHo R hn).trans hR) hb (fun i hi => hHo i (by omega)) (by omega) ha hlen x1
  simp -implicitDefEqProofs (disch := first | omega | (simp -implicitDefEqProofs only [go_sem, List.size_toArray, List.length_cons, List.length_nil, Nat.reduceAdd]; done)) only [go_sem, Int.reduceLT, Int.reduceLE, Int.reduceEq, reduceIte, true_and, Nat.zero_add, Nat.add_zero, Option.map_some, c34]
  rw [← hH]
  refine ncall c1 ?_
  have C3 : ∀ o1, storeAt (H.set R (refRow b a1 e1 o1)) R 3 [.bool true] = some (H.set R (refRow b a1 e1 true)) := fun o1 => (storeAt_row (get_set_same _ _) (Nat.le_of_ble_eq_true rfl) rfl).trans (by rw [set_set]; rfl)
  by_cases g1 : n1 < -2147483648
  · rw [show (odd || decide (n1 < -2147483648 ∨ 2147483647 < n1)) = true by simp [g1]]
    simp -implicitDefEqProofs (disch := first | omega | (simp -implicitDefEqProofs only [go_sem, List.size_toArray, List.length_cons, List.length_nil, Nat.reduceAdd]; done)) only [go_sem, Int.reduceLT, Int.reduceLE, Int.reduceEq, reduceIte, true_and, Nat.zero_add, Nat.add_zero, Option.map_some, g1, dPick_t, C3]
    refine ncall (num_at (odd := true) (h := H.set R (refRow b a1 e1 true)) (get_set_same _ _) hb (hk _) (hRn _) ha1 hlen x2) ?_
    rw [set_set]
    simp -implicitDefEqProofs (disch := first | omega | (simp -implicitDefEqProofs only [go_sem, List.size_toArray, List.length_cons, List.length_nil, Nat.reduceAdd]; done)) only [go_sem, Int.reduceLT, Int.reduceLE, Int.reduceEq, reduceIte, true_and, Nat.zero_add, Nat.add_zero, Option.map_some, bd_key]
    refine ncall (num_at (odd := true) (h := H.set R (refRow b a2 e2 true)) (get_set_same _ _) hb (hk _) (hRn _) ha2 hlen x3) ?_
    rw [set_set]
    simp -implicitDefEqProofs (disch := first | omega | (simp -implicitDefEqProofs only [go_sem, List.size_toArray, List.length_cons, List.length_nil, Nat.reduceAdd]; done)) only [go_sem, Int.reduceLT, Int.reduceLE, Int.reduceEq, reduceIte, true_and, Nat.zero_add, Nat.add_zero, Option.map_some, bd_key]
    refine ncall (num_at (odd := true) (h := H.set R (refRow b a3 e3 true)) (get_set_same _ _) hb (hk _) (hRn _) ha3 hlen x4) ?_
    rw [set_set]
    have hst : storeAt (H.set R (refRow b a4 e4 true)) h.next 0 [.int .i32 (IntKind.i32.wrap n1), .int .i64 n2, .int .i64 n3, .int .i64 n4] = some _ := storeAll ((get_set_other _ _ (by omega)).trans hHB) rfl rfl
    have hfin : cellsAt ((H.set R (refRow b a4 e4 true)).set h.next (.row [.int .i32 (IntKind.i32.wrap n1), .int .i64 n2, .int .i64 n3, .int .i64 n4] 0 false)) h.next 0 4 = some (cellV ⟨⟨IntKind.i32.wrap n1, n2⟩, n3, n4⟩) := by
      rw [cellsAt_row (get_set_same _ _) (Nat.le_of_ble_eq_true rfl)]; rfl
    simp -implicitDefEqProofs (disch := first | omega | (simp -implicitDefEqProofs only [go_sem, List.size_toArray, List.length_cons, List.length_nil, Nat.reduceAdd]; done)) only [go_sem, Int.reduceLT, Int.reduceLE, Int.reduceEq, reduceIte, true_and, Nat.zero_add, Nat.add_zero, Option.map_some, bd_key, bd_cell, hst, dResults_c1, dResC_some, hfin]
    refine ⟨_, rfl, rfl, ⟨by rw [next_set, next_set, hHn]; omega, hHg, fun j hj hji => by rw [get_set_other _ _ (by omega), get_set_other _ _ hji, hHo j hj], by rw [get_set_other _ _ (by omega), get_set_same]⟩⟩
  by_cases g2 : 2147483647 < n1
  · rw [show (odd || decide (n1 < -2147483648 ∨ 2147483647 < n1)) = true by simp [g2]]
    simp -implicitDefEqProofs (disch := first | omega | (simp -implicitDefEqProofs only [go_sem, List.size_toArray, List.length_cons, List.length_nil, Nat.reduceAdd]; done)) only [go_sem, Int.reduceLT, Int.reduceLE, Int.reduceEq, reduceIte, true_and, Nat.zero_add, Nat.add_zero, Option.map_some, g1, gt_iff_lt, g2, dPick_t, dPick_f, C3]
    refine ncall (num_at (odd := true) (h := H.set R (refRow b a1 e1 true)) (get_set_same _ _) hb (hk _) (hRn _) ha1 hlen x2) ?_
    rw [set_set]
    simp -implicitDefEqProofs (disch := first | omega | (simp -implicitDefEqProofs only [go_sem, List.size_toArray, List.length_cons, List.length_nil, Nat.reduceAdd]; done)) only [go_sem, Int.reduceLT, Int.reduceLE, Int.reduceEq, reduceIte, true_and, Nat.zero_add, Nat.add_zero, Option.map_some, bd_key]
    refine ncall (num_at (odd := true) (h := H.set R (refRow b a2 e2 true)) (get_set_same _ _) hb (hk _) (hRn _) ha2 hlen x3) ?_
    rw [set_set]
    simp -implicitDefEqProofs (disch := first | omega | (simp -implicitDefEqProofs only [go_sem, List.size_toArray, List.length_cons, List.length_nil, Nat.reduceAdd]; done)) only [go_sem, Int.reduceLT, Int.reduceLE, Int.reduceEq, reduceIte, true_and, Nat.zero_add, Nat.add_zero, Option.map_some, bd_key]
    refine ncall (num_at (odd := true) (h := H.set R (refRow b a3 e3 true)) (get_set_same _ _) hb (hk _) (hRn _) ha3 hlen x4) ?_
    rw [set_set]
    have hst : storeAt (H.set R (refRow b a4 e4 true)) h.next 0 [.int .i32 (IntKind.i32.wrap n1), .int .i64 n2, .int .i64 n3, .int .i64 n4] = some _ := storeAll ((get_set_other _ _ (by omega)).trans hHB) rfl rfl
    have hfin : cellsAt ((H.set R (refRow b a4 e4 true)).set h.next (.row [.int .i32 (IntKind.i32.wrap n1), .int .i64 n2, .int .i64 n3, .int .i64 n4] 0 false)) h.next 0 4 = some (cellV ⟨⟨IntKind.i32.wrap n1, n2⟩, n3, n4⟩) := by
      rw [cellsAt_row (get_set_same _ _) (Nat.le_of_ble_eq_true rfl)]; rfl
    simp -implicitDefEqProofs (disch := first | omega | (simp -implicitDefEqProofs only [go_sem, List.size_toArray, List.length_cons, List.length_nil, Nat.reduceAdd]; done)) only [go_sem, Int.reduceLT, Int.reduceLE, Int.reduceEq, reduceIte, true_and, Nat.zero_add, Nat.add_zero, Option.map_some, bd_key, bd_cell, hst, dResults_c1, dResC_some, hfin]
    refine ⟨_, rfl, rfl, ⟨by rw [next_set, next_set, hHn]; omega, hHg, fun j hj hji => by rw [get_set_other _ _ (by omega), get_set_other _ _ hji, hHo j hj], by rw [get_set_other _ _ (by omega), get_set_same]⟩⟩
  · rw [show (odd || decide (n1 < -2147483648 ∨ 2147483647 < n1)) = odd by simp [g1, g2]]
    simp -implicitDefEqProofs (disch := first | omega | (simp -implicitDefEqProofs only [go_sem, List.size_toArray, List.length_cons, List.length_nil, Nat.reduceAdd]; done)) only [go_sem, Int.reduceLT, Int.reduceLE, Int.reduceEq, reduceIte, true_and, Nat.zero_add, Nat.add_zero, Option.map_some, g1, gt_iff_lt, g2, dPick_t, dPick_f]
    refine ncall (num_at (odd := odd) (h := H.set R (refRow b a1 e1 odd)) (get_set_same _ _) hb (hk _) (hRn _) ha1 hlen x2) ?_
    rw [set_set]
    simp -implicitDefEqProofs (disch := first | omega | (simp -implicitDefEqProofs only [go_sem, List.size_toArray, List.length_cons, List.length_nil, Nat.reduceAdd]; done)) only [go_sem, Int.reduceLT, Int.reduceLE, Int.reduceEq, reduceIte, true_and, Nat.zero_add, Nat.add_zero, Option.map_some, bd_key]
    refine ncall (num_at (odd := odd) (h := H.set R (refRow b a2 e2 odd)) (get_set_same _ _) hb (hk _) (hRn _) ha2 hlen x3) ?_
    rw [set_set]
    simp -implicitDefEqProofs (disch := first | omega | (simp -implicitDefEqProofs only [go_sem, List.size_toArray, List.length_cons, List.length_nil, Nat.reduceAdd]; done)) only [go_sem, Int.reduceLT, Int.reduceLE, Int.reduceEq, reduceIte, true_and, Nat.zero_add, Nat.add_zero, Option.map_some, bd_key]
    refine ncall (num_at (odd := odd) (h := H.set R (refRow b a3 e3 odd)) (get_set_same _ _) hb (hk _) (hRn _) ha3 hlen x4) ?_
    rw [set_set]
    have hst : storeAt (H.set R (refRow b a4 e4 odd)) h.next 0 [.int .i32 (IntKind.i32.wrap n1), .int .i64 n2, .int .i64 n3, .int .i64 n4] = some _ := storeAll ((get_set_other _ _ (by omega)).trans hHB) rfl rfl
    have hfin : cellsAt ((H.set R (refRow b a4 e4 odd)).set h.next (.row [.int .i32 (IntKind.i32.wrap n1), .int .i64 n2, .int .i64 n3, .int .i64 n4] 0 false)) h.next 0 4 = some (cellV ⟨⟨IntKind.i32.wrap n1, n2⟩, n3, n4⟩) := by
      rw [cellsAt_row (get_set_same _ _) (Nat.le_of_ble_eq_true rfl)]; rfl
    simp -implicitDefEqProofs (disch := first | omega | (simp -implicitDefEqProofs only [go_sem, List.size_toArray, List.length_cons, List.length_nil, Nat.reduceAdd]; done)) only [go_sem, Int.reduceLT, Int.reduceLE, Int.reduceEq, reduceIte, true_and, Nat.zero_add, Nat.add_zero, Option.map_some, bd_key, bd_cell, hst, dResults_c1, dResC_some, hfin]
    refine ⟨_, rfl, rfl, ⟨by rw [next_set, next_set, hHn]; omega, hHg, fun j hj hji => by rw [get_set_other _ _ (by omega), get_set_other _ _ hji, hHo j hj], by rw [get_set_other _ _ (by omega), get_set_same]⟩⟩
end Go.Proofs.Ytlhgijpdhniddaa

namespace Go.Proofs.Ytlhgijpdhniddaa
open Go.D
set_option maxRecDepth 100000

theorem eqBytes_c {h : DHeap} {a b : Value} {l m : List Int} (ha : Arg fU8.rep h a l) (hb : Arg fU8.rep h b m) (hlen : l.length ≤ 4294967296) :
    DC Try.prog 60 [a, b] h (.ret (.bool (sameL (fun a b : Int => decide (a = b)) l m))) h := by
  refine Ct.pure (go_60 (by simp) ?_) (vin_bool _)
  have ea := ha.lens (P := Try.prog) (ts := #[22]) (t := 22) rfl isl_22
  have eb := hb.lens (P := Try.prog) (ts := #[22]) (t := 22) rfl isl_22
  by_cases hl : l.length = m.length
  case neg =>
    have hli : ¬ ((l.length : Nat) : Int) = (m.length : Nat) := by omega
    simp -implicitDefEqProofs (disch := first | omega | (simp -implicitDefEqProofs only [go_sem, List.size_toArray, List.length_cons, List.length_nil, Nat.reduceAdd]; done)) only [go_sem, Int.reduceLT, Int.reduceLE, Int.reduceEq, reduceIte, true_and, Nat.zero_add, Nat.add_zero, Option.map_some, c60, ea, eb, hli]
    exact ⟨_, rfl, by rw [sameL_len hl], .refl h⟩
  have hli : ((l.length : Nat) : Int) = (m.length : Nat) := by omega
  simp -implicitDefEqProofs (disch := first | omega | (simp -implicitDefEqProofs only [go_sem, List.size_toArray, List.length_cons, List.length_nil, Nat.reduceAdd]; done)) only [go_sem, Int.reduceLT, Int.reduceLE, Int.reduceEq, reduceIte, true_and, Nat.zero_add, Nat.add_zero, Option.map_some, c60, ea, eb, hli]
  refine xloop (σ := Nat) (by kernel_rfl) (fun i s => s.df = [] ∧ s.h = h ∧ s.fr 0 = some a ∧ s.fr 1 = some b ∧ s.fr 12 = some (.int .i64 (l.length : Nat)) ∧ s.fr 13 = some (.int .i64 (i : Nat)) ∧ i ≤ l.length ∧ sameL (fun a b : Int => decide (a = b)) (l.drop i) (m.drop i) = sameL (fun a b : Int => decide (a = b)) l m) (fun i => l.length - i) 0 ?_ ?_
  · simp -implicitDefEqProofs (disch := first | omega | (simp -implicitDefEqProofs only [go_sem, List.size_toArray, List.length_cons, List.length_nil, Nat.reduceAdd]; done)) only [go_sem, Int.reduceLT, Int.reduceLE, Int.reduceEq, reduceIte, true_and, Nat.zero_add, Nat.add_zero, Option.map_some, hli]
    exact ⟨rfl, Nat.zero_le _, by rw [List.drop_zero, List.drop_zero]⟩
  · rintro i ⟨fr, df, hh, rd⟩ K hK hX ⟨rfl, rfl, f0, f1, f12, f13, hi, ho⟩
    simp only at f0 f1 f12 f13
    simp -implicitDefEqProofs (disch := first | omega | (simp -implicitDefEqProofs only [go_sem, List.size_toArray, List.length_cons, List.length_nil, Nat.reduceAdd]; done)) only [go_sem, Int.reduceLT, Int.reduceLE, Int.reduceEq, reduceIte, true_and, Nat.zero_add, Nat.add_zero, Option.map_some, f0, f1, f12, f13]
    refine XIf_dec (fun hc1 => ?_) (fun hc1 => ?_)
    · have hj : i < l.length := by omega
      have hk : i < m.length := by omega
      obtain ⟨id1, o1, e1, _, hat1⟩ := ha.idx (P := Try.prog) (t := 22) el_22 (k := .i64) (i := i) (x := l[i]) (by simp)
      obtain ⟨id2, o2, e2, _, hat2⟩ := hb.idx (P := Try.prog) (t := 22) el_22 (k := .i64) (i := i) (x := m[i]) (by simp)
      have hw := wrap_succ hj (by omega)
      have l1 := hat1.int
      have l2 := hat2.int
      rw [sameL_drop hj hk] at ho
      simp -implicitDefEqProofs (disch := first | omega | (simp -implicitDefEqProofs only [go_sem, List.size_toArray, List.length_cons, List.length_nil, Nat.reduceAdd]; done)) only [go_sem, Int.reduceLT, Int.reduceLE, Int.reduceEq, reduceIte, true_and, Nat.zero_add, Nat.add_zero, Option.map_some, f13]
      refine dr_60_0 ?_
      by_cases hlt : l[i] = m[i]
      · rw [decide_eq_true hlt, Bool.true_and] at ho
        simp -implicitDefEqProofs (disch := first | omega | (simp -implicitDefEqProofs only [go_sem, List.size_toArray, List.length_cons, List.length_nil, Nat.reduceAdd]; done)) only [go_sem, Int.reduceLT, Int.reduceLE, Int.reduceEq, reduceIte, true_and, Nat.zero_add, Nat.add_zero, Option.map_some, l60_0, f0, f1, f13, e1, e2, l1, l2,  hlt, hw]
        refine hK (i + 1) _ ?_ (by omega)
        exact ⟨by trivial, by trivial, by simp -implicitDefEqProofs (disch := first | omega | (simp -implicitDefEqProofs only [go_sem, List.size_toArray, List.length_cons, List.length_nil, Nat.reduceAdd]; done)) only [go_sem, Int.reduceLT, Int.reduceLE, Int.reduceEq, reduceIte, true_and, Nat.zero_add, Nat.add_zero, Option.map_some, f0], by simp -implicitDefEqProofs (disch := first | omega | (simp -implicitDefEqProofs only [go_sem, List.size_toArray, List.length_cons, List.length_nil, Nat.reduceAdd]; done)) only [go_sem, Int.reduceLT, Int.reduceLE, Int.reduceEq, reduceIte, true_and, Nat.zero_add, Nat.add_zero, Option.map_some, f1], by simp -implicitDefEqProofs (disch := first | omega | (simp -implicitDefEqProofs only [go_sem, List.size_toArray, List.length_cons, List.length_nil, Nat.reduceAdd]; done)) only [go_sem, Int.reduceLT, Int.reduceLE, Int.reduceEq, reduceIte, true_and, Nat.zero_add, Nat.add_zero, Option.map_some, f12], by simp -implicitDefEqProofs (disch := first | omega | (simp -implicitDefEqProofs only [go_sem, List.size_toArray, List.length_cons, List.length_nil, Nat.reduceAdd]; done)) only [go_sem, Int.reduceLT, Int.reduceLE, Int.reduceEq, reduceIte, true_and, Nat.zero_add, Nat.add_zero, Option.map_some], by omega, ho⟩
      · rw [decide_eq_false hlt, Bool.false_and] at ho
        simp -implicitDefEqProofs (disch := first | omega | (simp -implicitDefEqProofs only [go_sem, List.size_toArray, List.length_cons, List.length_nil, Nat.reduceAdd]; done)) only [go_sem, Int.reduceLT, Int.reduceLE, Int.reduceEq, reduceIte, true_and, Nat.zero_add, Nat.add_zero, Option.map_some, l60_0, f0, f1, f13, e1, e2, l1, l2,  hlt]
        refine hX _ _ (by simp) ?_
        simp -implicitDefEqProofs (disch := first | omega | (simp -implicitDefEqProofs only [go_sem, List.size_toArray, List.length_cons, List.length_nil, Nat.reduceAdd]; done)) only [go_sem, Int.reduceLT, Int.reduceLE, Int.reduceEq, reduceIte, true_and, Nat.zero_add, Nat.add_zero, Option.map_some]
        exact ⟨_, rfl, by rw [← ho], .refl hh⟩
    · obtain rfl : i = l.length := by omega
      refine hX _ _ (by simp) ?_
      simp -implicitDefEqProofs (disch := first | omega | (simp -implicitDefEqProofs only [go_sem, List.size_toArray, List.length_cons, List.length_nil, Nat.reduceAdd]; done)) only [go_sem, Int.reduceLT, Int.reduceLE, Int.reduceEq, reduceIte, true_and, Nat.zero_add, Nat.add_zero, Option.map_some]
      exact ⟨_, rfl, by rw [← ho, sameL_end hl], .refl hh⟩
theorem eqCells_c {h : DHeap} {a b : Value} {l m : List Cell} (ha : Arg fCell.rep h a l) (hb : Arg fCell.rep h b m) (hlen : l.length ≤ 4294967296) :
    DC Try.prog 49 [a, b] h (.ret (.bool (sameL (fun a b : Cell => decide (a = b)) l m))) h := by
  refine Ct.pure (go_49 (by simp) ?_) (vin_bool _)
  have ea := ha.lens (P := Try.prog) (ts := #[23]) (t := 23) rfl isl_23
  have eb := hb.lens (P := Try.prog) (ts := #[23]) (t := 23) rfl isl_23
  by_cases hl : l.length = m.length
  case neg =>
    have hli : ¬ ((l.length : Nat) : Int) = (m.length : Nat) := by omega
    simp -implicitDefEqProofs (disch := first | omega | (simp -implicitDefEqProofs only [go_sem, List.size_toArray, List.length_cons, List.length_nil, Nat.reduceAdd]; done)) only [go_sem, Int.reduceLT, Int.reduceLE, Int.reduceEq, reduceIte, true_and, Nat.zero_add, Nat.add_zero, Option.map_some, c49, ea, eb, hli]
    exact ⟨_, rfl, by rw [sameL_len hl], .refl h⟩
  have hli : ((l.length : Nat) : Int) = (m.length : Nat) := by omega
  simp -implicitDefEqProofs (disch := first | omega | (simp -implicitDefEqProofs only [go_sem, List.size_toArray, List.length_cons, List.length_nil, Nat.reduceAdd]; done)) only [go_sem, Int.reduceLT, Int.reduceLE, Int.reduceEq, reduceIte, true_and, Nat.zero_add, Nat.add_zero, Option.map_some, c49, ea, eb, hli]
  refine xloop (σ := Nat) (by kernel_rfl) (fun i s => s.df = [] ∧ s.h = h ∧ s.fr 0 = some a ∧ s.fr 1 = some b ∧ s.fr 12 = some (.int .i64 (l.length : Nat)) ∧ s.fr 13 = some (.int .i64 (i : Nat)) ∧ i ≤ l.length ∧ sameL (fun a b : Cell => decide (a = b)) (l.drop i) (m.drop i) = sameL (fun a b : Cell => decide (a = b)) l m) (fun i => l.length - i) 0 ?_ ?_
  · simp -implicitDefEqProofs (disch := first | omega | (simp -implicitDefEqProofs only [go_sem, List.size_toArray, List.length_cons, List.length_nil, Nat.reduceAdd]; done)) only [go_sem, Int.reduceLT, Int.reduceLE, Int.reduceEq, reduceIte, true_and, Nat.zero_add, Nat.add_zero, Option.map_some, hli]
    exact ⟨rfl, Nat.zero_le _, by rw [List.drop_zero, List.drop_zero]⟩
  · rintro i ⟨fr, df, hh, rd⟩ K hK hX ⟨rfl, rfl, f0, f1, f12, f13, hi, ho⟩
    simp only at f0 f1 f12 f13
    simp -implicitDefEqProofs (disch := first | omega | (simp -implicitDefEqProofs only [go_sem, List.size_toArray, List.length_cons, List.length_nil, Nat.reduceAdd]; done)) only [go_sem, Int.reduceLT, Int.reduceLE, Int.reduceEq, reduceIte, true_and, Nat.zero_add, Nat.add_zero, Option.map_some, f0, f1, f12, f13]
    refine XIf_dec (fun hc1 => ?_) (fun hc1 => ?_)
    · have hj : i < l.length := by omega
      have hk : i < m.length := by omega
      obtain ⟨id1, o1, e1, _, hat1⟩ := ha.idx (P := Try.prog) (t := 23) el_23 (k := .i64) (i := i) (x := l[i]) (by simp)
      obtain ⟨id2, o2, e2, _, hat2⟩ := hb.idx (P := Try.prog) (t := 23) el_23 (k := .i64) (i := i) (x := m[i]) (by simp)
      have hw := wrap_succ hj (by omega)
      have l1 : cellsAt hh id1 o1 4 = some (cellV l[i]) := hat1.flat.2.1
      have l2 : cellsAt hh id2 o2 4 = some (cellV m[i]) := hat2.flat.2.1
      rw [sameL_drop hj hk] at ho
      simp -implicitDefEqProofs (disch := first | omega | (simp -implicitDefEqProofs only [go_sem, List.size_toArray, List.length_cons, List.length_nil, Nat.reduceAdd]; done)) only [go_sem, Int.reduceLT, Int.reduceLE, Int.reduceEq, reduceIte, true_and, Nat.zero_add, Nat.add_zero, Option.map_some, f13]
      refine dr_49_0 ?_
      by_cases hlt : l[i] = m[i]
      · rw [decide_eq_true hlt, Bool.true_and] at ho
        simp -implicitDefEqProofs (disch := first | omega | (simp -implicitDefEqProofs only [go_sem, List.size_toArray, List.length_cons, List.length_nil, Nat.reduceAdd]; done)) only [go_sem, Int.reduceLT, Int.reduceLE, Int.reduceEq, reduceIte, true_and, Nat.zero_add, Nat.add_zero, Option.map_some, l49_0, f0, f1, f13, e1, e2, l1, l2, bin_cell, hlt, hw]
        refine hK (i + 1) _ ?_ (by omega)
        exact ⟨by trivial, by trivial, by simp -implicitDefEqProofs (disch := first | omega | (simp -implicitDefEqProofs only [go_sem, List.size_toArray, List.length_cons, List.length_nil, Nat.reduceAdd]; done)) only [go_sem, Int.reduceLT, Int.reduceLE, Int.reduceEq, reduceIte, true_and, Nat.zero_add, Nat.add_zero, Option.map_some, f0], by simp -implicitDefEqProofs (disch := first | omega | (simp -implicitDefEqProofs only [go_sem, List.size_toArray, List.length_cons, List.length_nil, Nat.reduceAdd]; done)) only [go_sem, Int.reduceLT, Int.reduceLE, Int.reduceEq, reduceIte, true_and, Nat.zero_add, Nat.add_zero, Option.map_some, f1], by simp -implicitDefEqProofs (disch := first | omega | (simp -implicitDefEqProofs only [go_sem, List.size_toArray, List.length_cons, List.length_nil, Nat.reduceAdd]; done)) only [go_sem, Int.reduceLT, Int.reduceLE, Int.reduceEq, reduceIte, true_and, Nat.zero_add, Nat.add_zero, Option.map_some, f12], by simp -implicitDefEqProofs (disch := first | omega | (simp -implicitDefEqProofs only [go_sem, List.size_toArray, List.length_cons, List.length_nil, Nat.reduceAdd]; done)) only [go_sem, Int.reduceLT, Int.reduceLE, Int.reduceEq, reduceIte, true_and, Nat.zero_add, Nat.add_zero, Option.map_some], by omega, ho⟩
      · rw [decide_eq_false hlt, Bool.false_and] at ho
        simp -implicitDefEqProofs (disch := first | omega | (simp -implicitDefEqProofs only [go_sem, List.size_toArray, List.length_cons, List.length_nil, Nat.reduceAdd]; done)) only [go_sem, Int.reduceLT, Int.reduceLE, Int.reduceEq, reduceIte, true_and, Nat.zero_add, Nat.add_zero, Option.map_some, l49_0, f0, f1, f13, e1, e2, l1, l2, bin_cell, hlt]
        refine hX _ _ (by simp) ?_
        simp -implicitDefEqProofs (disch := first | omega | (simp -implicitDefEqProofs only [go_sem, List.size_toArray, List.length_cons, List.length_nil, Nat.reduceAdd]; done)) only [go_sem, Int.reduceLT, Int.reduceLE, Int.reduceEq, reduceIte, true_and, Nat.zero_add, Nat.add_zero, Option.map_some]
        exact ⟨_, rfl, by rw [← ho], .refl hh⟩
    · obtain rfl : i = l.length := by omega
      refine hX _ _ (by simp) ?_
      simp -implicitDefEqProofs (disch := first | omega | (simp -implicitDefEqProofs only [go_sem, List.size_toArray, List.length_cons, List.length_nil, Nat.reduceAdd]; done)) only [go_sem, Int.reduceLT, Int.reduceLE, Int.reduceEq, reduceIte, true_and, Nat.zero_add, Nat.add_zero, Option.map_some]
      exact ⟨_, rfl, by rw [← ho, sameL_end hl], .refl hh⟩
end Go.Proofs.Ytlhgijpdhniddaa

namespace Go.Proofs.Ytlhgijpdhniddaa
open Go.D
set_option maxRecDepth 100000

def xorU (a b : Int) : Int := IntKind.u64.wrap (((BitVec.ofInt IntKind.u64.bits a ^^^ BitVec.ofInt IntKind.u64.bits b).toNat : Nat) : Int)
def shlU (a b : Int) : Int := IntKind.u64.wrap (a * 2 ^ (min b.toNat IntKind.u64.bits))
def shrU (a b : Int) : Int := a.fdiv (2 ^ (min b.toNat IntKind.u64.bits))
def mixI (x : Int) : Int := xorU (xorU (xorU x (shlU x 13)) (shrU (xorU x (shlU x 13)) 7)) (shlU (xorU (xorU x (shlU x 13)) (shrU (xorU x (shlU x 13)) 7)) 17)
def hashI (k : Key) : Int :=
  mixI (IntKind.u64.wrap (IntKind.u64.wrap (mixI (IntKind.u64.wrap (mixI (IntKind.u64.wrap (IntKind.u64.wrap k.r + 11400714819323198485)) + IntKind.u64.wrap (IntKind.u32.wrap k.t))) + shrU (IntKind.u64.wrap k.r) 32) + shlU (IntKind.u64.wrap (IntKind.u32.wrap k.t)) 32))
theorem mix_c {h : DHeap} {x : Int} : DC Try.prog 69 [.int .u64 x] h (.ret (.int .u64 (mixI x))) h := by
  refine Ct.pure (go_69 (by simp) ?_) (vin_int _ _)
  simp -implicitDefEqProofs (disch := first | omega | (simp -implicitDefEqProofs only [go_sem, List.size_toArray, List.length_cons, List.length_nil, Nat.reduceAdd]; done)) only [go_sem, Int.reduceLT, Int.reduceLE, Int.reduceEq, reduceIte, true_and, Nat.zero_add, Nat.add_zero, Option.map_some, c69, bin_shl, bin_shr, Int.reduceLT]
  exact ⟨_, rfl, rfl, .refl h⟩
theorem hash_c {h : DHeap} {k : Key} : DC Try.prog 42 [keyV k] h (.ret (.int .u64 (hashI k))) h := by
  refine Ct.pure (go_42 (by simp) ?_) (vin_int _ _)
  simp -implicitDefEqProofs (disch := first | omega | (simp -implicitDefEqProofs only [go_sem, List.size_toArray, List.length_cons, List.length_nil, Nat.reduceAdd]; done)) only [go_sem, Int.reduceLT, Int.reduceLE, Int.reduceEq, reduceIte, true_and, Nat.zero_add, Nat.add_zero, Option.map_some, c42, bin_shl, bin_shr, cellAt_p0]
  refine dr_42_0 ?_
  simp -implicitDefEqProofs (disch := first | omega | (simp -implicitDefEqProofs only [go_sem, List.size_toArray, List.length_cons, List.length_nil, Nat.reduceAdd]; done)) only [go_sem, Int.reduceLT, Int.reduceLE, Int.reduceEq, reduceIte, true_and, Nat.zero_add, Nat.add_zero, Option.map_some, l42_0, cellAt_p0, bin_shl, bin_shr]
  refine ncall mix_c ?_
  simp -implicitDefEqProofs (disch := first | omega | (simp -implicitDefEqProofs only [go_sem, List.size_toArray, List.length_cons, List.length_nil, Nat.reduceAdd]; done)) only [go_sem, Int.reduceLT, Int.reduceLE, Int.reduceEq, reduceIte, true_and, Nat.zero_add, Nat.add_zero, Option.map_some, bin_shl, bin_shr]
  refine ncall mix_c ?_
  simp -implicitDefEqProofs (disch := first | omega | (simp -implicitDefEqProofs only [go_sem, List.size_toArray, List.length_cons, List.length_nil, Nat.reduceAdd]; done)) only [go_sem, Int.reduceLT, Int.reduceLE, Int.reduceEq, reduceIte, true_and, Nat.zero_add, Nat.add_zero, Option.map_some, bin_shl, bin_shr]
  refine ncall mix_c ?_
  simp -implicitDefEqProofs (disch := first | omega | (simp -implicitDefEqProofs only [go_sem, List.size_toArray, List.length_cons, List.length_nil, Nat.reduceAdd]; done)) only [go_sem, Int.reduceLT, Int.reduceLE, Int.reduceEq, reduceIte, true_and, Nat.zero_add, Nat.add_zero, Option.map_some]
  exact ⟨_, rfl, rfl, Ext.push1 _ _⟩
end Go.Proofs.Ytlhgijpdhniddaa

namespace Go.Proofs.Ytlhgijpdhniddaa
open Go.D
set_option maxRecDepth 100000

/-- the next numbers -/
def valsA (l : List Int) : Nat → Nat → Int → List Int × Nat × Int
  | 0, a, e => ([], a, e)
  | k + 1, a, e => ((numA l a e).1 :: (valsA l k (numA l a e).2.1 (numA l a e).2.2).1, (valsA l k (numA l a e).2.1 (numA l a e).2.2).2)
theorem valsA_succ (l : List Int) : ∀ (k a : Nat) (e : Int), valsA l (k + 1) a e = ((valsA l k a e).1 ++ [(numA l (valsA l k a e).2.1 (valsA l k a e).2.2).1], (numA l (valsA l k a e).2.1 (valsA l k a e).2.2).2)
  | 0, a, e => rfl
  | k + 1, a, e => by
    rw [valsA, valsA_succ l k]
    rfl
theorem valsA_le {l : List Int} : ∀ (k : Nat) {a : Nat} {e : Int}, a ≤ l.length → (valsA l k a e).2.1 ≤ l.length
  | 0, _, _, h => h
  | k + 1, _, _, h => valsA_le k (numA_le h)
theorem valsA_len {l : List Int} : ∀ (k : Nat) {a : Nat} {e : Int}, (valsA l k a e).1.length = k
  | 0, _, _ => rfl
  | k + 1, _, _ => by rw [valsA, List.length_cons, valsA_len k]
theorem numA_in {l : List Int} (hb : ∀ x ∈ l, 0 ≤ x ∧ x ≤ 255) (a : Nat) (e : Int) : inK .i64 (numA l a e).1 := by
  have h0 : inK .i64 0 := inK_i64.2 (by decide)
  unfold numA
  split
  · split
    · exact takeI_in fun x hx => hb x (List.mem_of_mem_drop hx)
    · exact h0
  · exact h0
/-- one number more behind a list of one's own -/
theorem own_snoc {K : DHeap} {v : Value} {vs : List Int} {w : Option Nat} {n : Int} (ho : Owns fI64.rep NoS K v vs w) (hn : inK .i64 n) (hlen : vs.length + 1 ≤ 4294967296) :
    ∃ v' h2 w', dAppend Try.prog #[51, 51] v (.slice (some ⟨K.next, 0, none⟩) 1 1) (K.push (.row [.int .i64 n] 1 false)) = some (v', h2) ∧ K.next ≤ h2.next ∧ h2.ng = K.ng ∧ (∀ i, i < K.next → w ≠ some i → h2.get i = K.get i) ∧
      Owns fI64.rep NoS h2 v' (vs ++ [n]) w' ∧ (∀ i, w' = some i → w = some i ∨ K.next ≤ i) := by
  have hw := ho.lt
  have ho2 : Owns fI64.rep NoS (K.push (.row [.int .i64 n] 1 false)) v vs w := ho.mono (Nat.le_succ _) (fun i hi => get_push_other _ _ (hw i hi)) (fun i hi => hi.elim)
  have hs : Arg fI64.rep (K.push (.row [.int .i64 n] 1 false)) (.slice (some ⟨K.next, 0, none⟩) 1 1) [n] := built fI64 K rfl rfl rfl (fun x hx => by rw [List.mem_singleton.1 hx]; exact hn)
  obtain ⟨new, e1, e2⟩ := hs.src
  have e2' : Els fI64.rep NoS (K.push (.row [.int .i64 n] 1 false)) new [n] := Els.flat.2 (Els.flat.1 e2)
  obtain ⟨v', h2, w', e3, g, o, hw'⟩ := ho2.append (k := [n]) app_51 (fun i hi => hi.elim) hs.lenV e1 e2' (by simp only [List.length_singleton]; omega) (by simp only [List.length_singleton]; omega)
  refine ⟨v', h2, w', e3, Nat.le_trans (Nat.le_succ _) g.next, g.ng, fun i hi hwi => (g.get i (Nat.lt_succ_of_lt hi) hwi).trans (get_push_other _ _ hi), o, fun i hi => ?_⟩
  rcases hw' with ⟨_, h0, _⟩ | ⟨h0, _⟩
  · exact .inl (h0 ▸ hi)
  · rw [h0] at hi; cases hi; exact .inr (Nat.le_succ _)
end Go.Proofs.Ytlhgijpdhniddaa

namespace Go.Proofs.Ytlhgijpdhniddaa
open Go.D
set_option maxRecDepth 100000

abbrev zeroRow : List Value := [.int .i64 0, .int .i64 0, .int .i64 0, .slice none 0 0, .int .i64 0, .int .i64 0]
/-- how things lie while a row is read -/
structure RowSt (h : DHeap) (R : Nat) (b : Value) (a : Nat) (e : Int) (odd : Bool) (cells : List Value) (hh : DHeap) : Prop where
  rR : hh.get R = some (refRow b a e odd)
  bB : hh.get h.next = some (.row zeroRow 0 false)
  cC : hh.get (h.next + 1) = some (.row cells 0 false)
  old : ∀ j, j < h.next → j ≠ R → hh.get j = h.get j
  nx : h.next + 2 ≤ hh.next
  ng : hh.ng = h.ng
theorem RowSt.num {h hh : DHeap} {R a a' : Nat} {b : Value} {e e' : Int} {odd : Bool} {cells : List Value} (s : RowSt h R b a e odd cells hh) (hn : R < h.next) : RowSt h R b a' e' odd cells (hh.set R (refRow b a' e' odd)) :=
  ⟨get_set_same _ _, (get_set_other _ _ (by omega)).trans s.bB, (get_set_other _ _ (by omega)).trans s.cC, fun j hj hji => (get_set_other _ _ hji).trans (s.old j hj hji), s.nx, s.ng⟩
theorem RowSt.fld {h hh : DHeap} {R a : Nat} {b : Value} {e : Int} {odd : Bool} {cells cells' : List Value} (s : RowSt h R b a e odd cells hh) (hn : R < h.next) : RowSt h R b a e odd cells' (hh.set (h.next + 1) (.row cells' 0 false)) :=
  ⟨(get_set_other _ _ (by omega)).trans s.rR, (get_set_other _ _ (by omega)).trans s.bB, get_set_same _ _, fun j hj hji => (get_set_other _ _ (by omega)).trans (s.old j hj hji), s.nx, s.ng⟩
theorem RowSt.grow {h hh h2 : DHeap} {R a : Nat} {b : Value} {e : Int} {odd : Bool} {cells : List Value} {w : Option Nat} (s : RowSt h R b a e odd cells hh) (hn : R < h.next) (hw : ∀ x, w = some x → h.next + 2 ≤ x) (h1 : hh.next ≤ h2.next) (hg : h2.ng = hh.ng) (hk : ∀ i, i < hh.next → w ≠ some i → h2.get i = hh.get i) : RowSt h R b a e odd cells h2 := by
  have nx := s.nx
  have hk' : ∀ i, i < h.next + 2 → h2.get i = hh.get i := fun i hi => hk i (by omega) (fun hx => by have := hw i hx; omega)
  exact ⟨(hk' _ (by omega)).trans s.rR, (hk' _ (by omega)).trans s.bB, (hk' _ (by omega)).trans s.cC, fun j hj hji => (hk' _ (by omega)).trans (s.old j hj hji), by omega, hg.trans s.ng⟩
section
variable {h hh : DHeap} {R a a1 : Nat} {b : Value} {e n1 e1 : Int} {odd : Bool} {cells : List Value} {l : List Int}
theorem RowSt.num_c (s : RowSt h R b a e odd cells hh) (hb : Sl fU8.rep (fun i => i < R) h b l) (hn : R < h.next) (ha : a ≤ l.length) (hlen : l.length ≤ 4294967296) (hx : numA l a e = (n1, a1, e1)) :
    DC Try.prog 32 [.pointer (some ⟨R, 0, none⟩)] hh (.ret (.int .i64 n1)) (hh.set R (refRow b a1 e1 odd)) :=
  num_at s.rR hb (fun i hi => s.old i (by omega) (by omega)) (by have := s.nx; omega) ha hlen hx
theorem RowSt.small_c (s : RowSt h R b a e odd cells hh) (hb : Sl fU8.rep (fun i => i < R) h b l) (hn : R < h.next) (ha : a ≤ l.length) (hlen : l.length ≤ 4294967296) (hx : numA l a e = (n1, a1, e1)) :
    DC Try.prog 63 [.pointer (some ⟨R, 0, none⟩)] hh (.ret (.int .i64 (smI n1))) (hh.set R (refRow b a1 e1 odd)) := by
  have := Go.Proofs.Ytlhgijpdhniddaa.small_c (hb.keep (h1 := hh) fun i hi => s.old i (by omega) (by omega)) s.rR (by have := s.nx; omega) ha hlen
  rw [hx] at this
  exact this
theorem RowSt.length_c {most : Int} (s : RowSt h R b a e odd cells hh) (hb : Sl fU8.rep (fun i => i < R) h b l) (hn : R < h.next) (ha : a ≤ l.length) (hlen : l.length ≤ 4294967296) (hx : lenA l a e most = (n1, a1, e1)) :
    DC Try.prog 33 [.pointer (some ⟨R, 0, none⟩), .int .i64 most] hh (.ret (.int .i64 n1)) (hh.set R (refRow b a1 e1 odd)) := by
  have := Go.Proofs.Ytlhgijpdhniddaa.length_c (most := most) (hb.keep (h1 := hh) fun i hi => s.old i (by omega) (by omega)) s.rR (by have := s.nx; omega) ha hlen
  rw [hx] at this
  exact this
end
theorem bd_row {x y : Int} : dBuild Try.prog 55 [(0, .int .i64 x), (1, .int .i64 y)] = some (.agg #[.int .i64 x, .int .i64 y, .int .i64 0, .slice none 0 0, .int .i64 0, .int .i64 0]) := dBuild_at plc_55 rfl
theorem rowV_ren {r : Row} {π : Nat → Option Nat} {v u : Value} (h : VRen π v u) : VRen π (rowV r v) (rowV r u) := by
  refine .agg rfl fun i x y hx hy => ?_
  rcases i with _ | _ | _ | _ | _ | _ | i <;> simp at hx hy
  · subst hx; subst hy; exact .int _ _
  · subst hx; subst hy; exact .int _ _
  · subst hx; subst hy; exact .int _ _
  · subst hx; subst hy; exact h
  · subst hx; subst hy; exact .int _ _
  · subst hx; subst hy; exact .int _ _
set_option maxHeartbeats 2000000 in
theorem row_c {h : DHeap} {R a a1 a2 a3 a4 a5 a6 a7 : Nat} {b : Value} {e n1 e1 n2 e2 n3 e3 n4 e4 e5 n6 e6 n7 e7 : Int} {odd : Bool} {l vs : List Int} (hb : Sl fU8.rep (fun i => i < R) h b l) (hR : h.get R = some (refRow b a e odd)) (hn : R < h.next)
    (ha : a ≤ l.length) (hlen : l.length ≤ 4294967296) (x1 : numA l a e = (n1, a1, e1)) (x2 : numA l a1 e1 = (n2, a2, e2)) (x3 : numA l a2 e2 = (n3, a3, e3)) (x4 : lenA l a3 e3 8 = (n4, a4, e4)) (xv : valsA l n4.toNat a4 e4 = (vs, a5, e5)) (x6 : numA l a5 e5 = (n6, a6, e6)) (x7 : numA l a6 e6 = (n7, a7, e7)) :
    DC Try.prog 35 [.pointer (some ⟨R, 0, none⟩)] h (.ret (rowV ⟨n1, n2, ⟨smI n3, vs, n6, smI n7⟩⟩ (lv h vs))) (lh fI64 (h.set R (refRow b a7 e7 odd)) vs) := by
  have hbv : VIn (fun i => i < h.next) b := hb.vin.mono fun i hi => Nat.lt_trans hi hn
  refine Ct.changedList (mk := rowV ⟨n1, n2, ⟨smI n3, vs, n6, smI n7⟩⟩) (fun _ => rowV_ren) hn (refRow_vin hbv) (go_35 (by simp) ?_)
  have ha1 : a1 ≤ l.length := by have := numA_le (l := l) (a := a) (e := e) ha; rw [x1] at this; exact this
  have ha2 : a2 ≤ l.length := by have := numA_le (l := l) (a := a1) (e := e1) ha1; rw [x2] at this; exact this
  have ha3 : a3 ≤ l.length := by have := numA_le (l := l) (a := a2) (e := e2) ha2; rw [x3] at this; exact this
  have ha4 : a4 ≤ l.length := by have := lenA_le (l := l) (a := a3) (e := e3) (most := 8) ha3; rw [x4] at this; exact this
  have ha5 : a5 ≤ l.length := by have := valsA_le (l := l) n4.toNat (a := a4) (e := e4) ha4; rw [xv] at this; exact this
  have ha6 : a6 ≤ l.length := by have := numA_le (l := l) (a := a5) (e := e5) ha5; rw [x6] at this; exact this
  have hok : ∀ x ∈ l, 0 ≤ x ∧ x ≤ 255 := fun x hx => inK_u8.1 (hb.ok x hx)
  have hn4 : 0 ≤ n4 ∧ n4 ≤ 8 := by have := lenA_in (l := l) (a := a3) (e := e3) (most := 8) (by decide); rw [x4] at this; exact this
  obtain ⟨H, hH⟩ : ∃ H, H = h.push (.row zeroRow 0 false) := ⟨_, rfl⟩
  have hHn : H.next = h.next + 1 := by rw [hH]; rfl
  have hHg : H.ng = h.ng := by rw [hH]; rfl
  have hHB : H.get h.next = some (.row zeroRow 0 false) := by rw [hH]; exact get_push_same _ _
  have hHo : ∀ i, i < h.next → H.get i = h.get i := fun i hi => by rw [hH]; exact get_push_other _ _ hi
  have c1 := num_at (odd := odd) (h := H) ((hHo R hn).trans hR) hb (fun i hi => hHo i (by omega)) (by omega) ha hlen x1
  have c2 := num_at (odd := odd) (h := H.set R (refRow b a1 e1 odd)) (get_set_same _ _) hb (fun i hi => by rw [get_set_other _ _ (by omega), hHo i (by omega)]) (by rw [next_set]; omega) ha1 hlen x2
  rw [set_set] at c2
  simp -implicitDefEqProofs (disch := first | omega | (simp -implicitDefEqProofs only [go_sem, List.size_toArray, List.length_cons, List.length_nil, Nat.reduceAdd]; done)) only [go_sem, Int.reduceLT, Int.reduceLE, Int.reduceEq, reduceIte, true_and, Nat.zero_add, Nat.add_zero, Option.map_some, c35]
  rw [← hH]
  refine ncall c1 ?_
  simp -implicitDefEqProofs (disch := first | omega | (simp -implicitDefEqProofs only [go_sem, List.size_toArray, List.length_cons, List.length_nil, Nat.reduceAdd]; done)) only [go_sem, Int.reduceLT, Int.reduceLE, Int.reduceEq, reduceIte, true_and, Nat.zero_add, Nat.add_zero, Option.map_some]
  refine ncall c2 ?_
  have hst6 : [Value.int .i64 n1, .int .i64 n2, .int .i64 0, .slice none 0 0, .int .i64 0, .int .i64 0].all Value.oneCell' = true := rfl
  obtain ⟨K, hK⟩ : ∃ K, K = (H.set R (refRow b a2 e2 odd)).push (.row [.int .i64 n1, .int .i64 n2, .int .i64 0, .slice none 0 0, .int .i64 0, .int .i64 0] 0 false) := ⟨_, rfl⟩
  have S0 : RowSt h R b a2 e2 odd [.int .i64 n1, .int .i64 n2, .int .i64 0, .slice none 0 0, .int .i64 0, .int .i64 0] K := by
    rw [hK]
    refine ⟨?_, ?_, ?_, fun j hj hji => ?_, ?_, ?_⟩
    · rw [get_push_other _ _ (by rw [next_set]; omega), get_set_same]
    · rw [get_push_other _ _ (by rw [next_set]; omega), get_set_other _ _ (by omega), hHB]
    · rw [get_push_at _ _ (by rw [next_set, hHn])]
    · rw [get_push_other _ _ (by rw [next_set]; omega), get_set_other _ _ hji, hHo j hj]
    · rw [next_push, next_set, hHn]; omega
    · rw [ng_push, ng_set, hHg]
  have S1 := S0.num (a' := a3) (e' := e3) hn
  have st1 : storeAt (K.set R (refRow b a3 e3 odd)) (h.next + 1) 2 [.int .i64 (smI n3)] = some ((K.set R (refRow b a3 e3 odd)).set (h.next + 1) (.row [.int .i64 n1, .int .i64 n2, .int .i64 (smI n3), .slice none 0 0, .int .i64 0, .int .i64 0] 0 false)) := storeAt_row S1.cC (Nat.le_of_ble_eq_true rfl) rfl
  have S2 := S1.fld (cells' := [.int .i64 n1, .int .i64 n2, .int .i64 (smI n3), .slice none 0 0, .int .i64 0, .int .i64 0]) hn
  simp -implicitDefEqProofs (disch := first | omega | (simp -implicitDefEqProofs only [go_sem, List.size_toArray, List.length_cons, List.length_nil, Nat.reduceAdd]; done)) only [go_sem, Int.reduceLT, Int.reduceLE, Int.reduceEq, reduceIte, true_and, Nat.zero_add, Nat.add_zero, Option.map_some, bd_row, store6_push hst6]
  rw [← hK]
  simp -implicitDefEqProofs (disch := first | omega | (simp -implicitDefEqProofs only [go_sem, List.size_toArray, List.length_cons, List.length_nil, Nat.reduceAdd]; done)) only [go_sem, Int.reduceLT, Int.reduceLE, Int.reduceEq, reduceIte, true_and, Nat.zero_add, Nat.add_zero, Option.map_some, next_set, hHn]
  refine ncall (S0.small_c hb hn ha2 hlen x3) ?_
  simp -implicitDefEqProofs (disch := first | omega | (simp -implicitDefEqProofs only [go_sem, List.size_toArray, List.length_cons, List.length_nil, Nat.reduceAdd]; done)) only [go_sem, Int.reduceLT, Int.reduceLE, Int.reduceEq, reduceIte, true_and, Nat.zero_add, Nat.add_zero, Option.map_some, st1]
  refine ncall (S2.length_c hb hn ha3 hlen x4) ?_
  have S3 := S2.num (a' := a4) (e' := e4) hn
  obtain ⟨K3, hK3⟩ : ∃ K3, K3 = ((K.set R (refRow b a3 e3 odd)).set (h.next + 1) (.row [.int .i64 n1, .int .i64 n2, .int .i64 (smI n3), .slice none 0 0, .int .i64 0, .int .i64 0] 0 false)).set R (refRow b a4 e4 odd) := ⟨_, rfl⟩
  rw [← hK3] at S3 ⊢
  simp -implicitDefEqProofs (disch := first | omega | (simp -implicitDefEqProofs only [go_sem, List.size_toArray, List.length_cons, List.length_nil, Nat.reduceAdd]; done)) only [go_sem, Int.reduceLT, Int.reduceLE, Int.reduceEq, reduceIte, true_and, Nat.zero_add, Nat.add_zero, Option.map_some]
  refine xloop (σ := Nat) (by kernel_rfl) (fun i s => s.df = [] ∧ s.fr 0 = some (.pointer (some ⟨R, 0, none⟩)) ∧ s.fr 2 = some (.pointer (some ⟨h.next, 0, none⟩)) ∧ s.fr 3 = some (.pointer (some ⟨h.next + 1, 0, none⟩)) ∧ s.fr 4 = some (.int .i64 n4) ∧ s.fr 5 = some (.int .i64 (i : Nat)) ∧ (i : Int) ≤ n4 ∧
    ∃ v w, RowSt h R b (valsA l i a4 e4).2.1 (valsA l i a4 e4).2.2 odd [.int .i64 n1, .int .i64 n2, .int .i64 (smI n3), v, .int .i64 0, .int .i64 0] s.h ∧ Owns fI64.rep NoS s.h v (valsA l i a4 e4).1 w ∧ (∀ x, w = some x → h.next + 2 ≤ x) ∧ (i = 0 → v = .slice none 0 0)) (fun i => n4.toNat - i) 0 ?_ ?_
  · simp -implicitDefEqProofs (disch := first | omega | (simp -implicitDefEqProofs only [go_sem, List.size_toArray, List.length_cons, List.length_nil, Nat.reduceAdd]; done)) only [go_sem, Int.reduceLT, Int.reduceLE, Int.reduceEq, reduceIte, true_and, Nat.zero_add, Nat.add_zero, Option.map_some]
    exact ⟨rfl, hn4.1, .slice none 0 0, none, S3, Owns.nil _ _ _, by simp, by simp⟩
  · rintro i ⟨fr, df, hh, rd⟩ K' hK' hX ⟨rfl, f0, f2, f3, f4, f5, hi, v, w, S, ho, hw, hv0⟩
    simp only at f0 f2 f3 f4 f5 S ho hw
    simp -implicitDefEqProofs (disch := first | omega | (simp -implicitDefEqProofs only [go_sem, List.size_toArray, List.length_cons, List.length_nil, Nat.reduceAdd]; done)) only [go_sem, Int.reduceLT, Int.reduceLE, Int.reduceEq, reduceIte, true_and, Nat.zero_add, Nat.add_zero, Option.map_some, f4, f5]
    refine XIf_dec (fun hc1 => ?_) (fun hc1 => ?_)
    · obtain ⟨ws, ai, ei, hva⟩ : ∃ p q r, valsA l i a4 e4 = (p, q, r) := ⟨_, _, _, rfl⟩
      have hai : ai ≤ l.length := by have := valsA_le (l := l) i (a := a4) (e := e4) ha4; rw [hva] at this; exact this
      have hwl : ws.length = i := by have := valsA_len (l := l) i (a := a4) (e := e4); rw [hva] at this; exact this
      obtain ⟨n, a', e', hx⟩ : ∃ p q r, numA l ai ei = (p, q, r) := ⟨_, _, _, rfl⟩
      have hsucc : valsA l (i + 1) a4 e4 = (ws ++ [n], a', e') := by rw [valsA_succ, hva]; simp only [hx]
      rw [hva] at S ho
      simp only at S ho
      have hnn : inK .i64 n := by have := numA_in hok ai ei; rw [hx] at this; exact this
      have S1 := S.num (a' := a') (e' := e') hn
      have hwi : ∀ x, w = some x → x ≠ R := fun x hxw => by have := hw x hxw; omega
      have ho1 : Owns fI64.rep NoS (hh.set R (refRow b a' e' odd)) v ws w := ho.mono (Nat.le_refl _) (fun x hxw => get_set_other _ _ (hwi x hxw)) (fun i hi => hi.elim)
      obtain ⟨v', h2, w', e3, g1, g2, g3, g4, g5⟩ := own_snoc ho1 hnn (by omega)
      have S2 := S1.grow hn hw g1 g2 g3
      have S3 := S2.fld (cells' := [.int .i64 n1, .int .i64 n2, .int .i64 (smI n3), v', .int .i64 0, .int .i64 0]) hn
      have C3 : cellAt hh (h.next + 1) 3 = some v := cellAt_row S.cC
      have hsl := g4.sl.isSlice
      have hcl : v'.cells = #[v'] := g4.sl.cells1
      have hone : [v'].all Value.oneCell' = true := by obtain ⟨_, _, rfl⟩ := hsl; rfl
      have hst : dStore Try.prog 51 (.pointer (some ⟨h.next + 1, 3, none⟩)) v' h2 = some (h2.set (h.next + 1) (.row [.int .i64 n1, .int .i64 n2, .int .i64 (smI n3), v', .int .i64 0, .int .i64 0] 0 false)) :=
        (st_51 hcl).trans (storeAt_row S2.cC (Nat.le_of_ble_eq_true rfl) hone)
      have hw5 : IntKind.i64.wrap ((i : Int) + 1) = ((i + 1 : Nat) : Int) := by rw [wrap_i64_in (by omega) (by omega)]; omega
      have hbs : ∀ K : DHeap, dBuildSlice Try.prog 51 1 [(0, .int .i64 n)] K = some (.slice (some ⟨K.next, 0, none⟩) 1 1, K.push (.row [.int .i64 n] 1 false)) := fun K => bs1_51 rfl
      simp -implicitDefEqProofs (disch := first | omega | (simp -implicitDefEqProofs only [go_sem, List.size_toArray, List.length_cons, List.length_nil, Nat.reduceAdd]; done)) only [go_sem, Int.reduceLT, Int.reduceLE, Int.reduceEq, reduceIte, true_and, Nat.zero_add, Nat.add_zero, Option.map_some]
      refine dr_35_0 ?_
      simp -implicitDefEqProofs (disch := first | omega | (simp -implicitDefEqProofs only [go_sem, List.size_toArray, List.length_cons, List.length_nil, Nat.reduceAdd]; done)) only [go_sem, Int.reduceLT, Int.reduceLE, Int.reduceEq, reduceIte, true_and, Nat.zero_add, Nat.add_zero, Option.map_some, l35_0, f0, f3, C3]
      refine dcall (S.num_c hb hn hai hlen hx) ?_
      simp -implicitDefEqProofs (disch := first | omega | (simp -implicitDefEqProofs only [go_sem, List.size_toArray, List.length_cons, List.length_nil, Nat.reduceAdd]; done)) only [go_sem, Int.reduceLT, Int.reduceLE, Int.reduceEq, reduceIte, true_and, Nat.zero_add, Nat.add_zero, Option.map_some, hbs, e3, hst, f3]
      have D1 : ∀ K : DHeap, K.get (h.next + 1) = some (.row [.int .i64 n1, .int .i64 n2, .int .i64 (smI n3), v, .int .i64 0, .int .i64 0] 0 false) → dLoad Try.prog 51 (.pointer (some ⟨h.next + 1, 3, none⟩)) K = some v := fun K hk => ld_51.trans (cellAt_row hk)
      refine ⟨⟨XSt1_at (i := 2) (j := 4) rfl rfl rfl ?_, XSt1_at (i := 2) (j := 5) rfl rfl rfl ?_, trivial⟩, ?_⟩
      · rw [if_neg (by decide)]
        refine Ld_on (p := .pointer (some ⟨h.next + 1, 3, none⟩)) ?_ ?_ (D1 _ S1.cC)
        · simp -implicitDefEqProofs (disch := first | omega | (simp -implicitDefEqProofs only [go_sem, List.size_toArray, List.length_cons, List.length_nil, Nat.reduceAdd]; done)) only [go_sem, Int.reduceLT, Int.reduceLE, Int.reduceEq, reduceIte, true_and, Nat.zero_add, Nat.add_zero, Option.map_some]
        · simp -implicitDefEqProofs (disch := first | omega | (simp -implicitDefEqProofs only [go_sem, List.size_toArray, List.length_cons, List.length_nil, Nat.reduceAdd]; done)) only [go_sem, Int.reduceLT, Int.reduceLE, Int.reduceEq, reduceIte, true_and, Nat.zero_add, Nat.add_zero, Option.map_some]
      · rw [if_neg (by decide)]
        refine Ld_on (p := .pointer (some ⟨h.next + 1, 3, none⟩)) ?_ ?_ (D1 _ ((get_push_other _ _ (by have := S1.nx; omega)).trans S1.cC))
        · simp -implicitDefEqProofs (disch := first | omega | (simp -implicitDefEqProofs only [go_sem, List.size_toArray, List.length_cons, List.length_nil, Nat.reduceAdd]; done)) only [go_sem, Int.reduceLT, Int.reduceLE, Int.reduceEq, reduceIte, true_and, Nat.zero_add, Nat.add_zero, Option.map_some]
        · simp -implicitDefEqProofs (disch := first | omega | (simp -implicitDefEqProofs only [go_sem, List.size_toArray, List.length_cons, List.length_nil, Nat.reduceAdd]; done)) only [go_sem, Int.reduceLT, Int.reduceLE, Int.reduceEq, reduceIte, true_and, Nat.zero_add, Nat.add_zero, Option.map_some]
      simp -implicitDefEqProofs (disch := first | omega | (simp -implicitDefEqProofs only [go_sem, List.size_toArray, List.length_cons, List.length_nil, Nat.reduceAdd]; done)) only [go_sem, Int.reduceLT, Int.reduceLE, Int.reduceEq, reduceIte, true_and, Nat.zero_add, Nat.add_zero, Option.map_some, f5, hw5]
      refine hK' (i + 1) _ ?_ (by omega)
      refine ⟨by trivial, by simp -implicitDefEqProofs (disch := first | omega | (simp -implicitDefEqProofs only [go_sem, List.size_toArray, List.length_cons, List.length_nil, Nat.reduceAdd]; done)) only [go_sem, Int.reduceLT, Int.reduceLE, Int.reduceEq, reduceIte, true_and, Nat.zero_add, Nat.add_zero, Option.map_some, f0], by simp -implicitDefEqProofs (disch := first | omega | (simp -implicitDefEqProofs only [go_sem, List.size_toArray, List.length_cons, List.length_nil, Nat.reduceAdd]; done)) only [go_sem, Int.reduceLT, Int.reduceLE, Int.reduceEq, reduceIte, true_and, Nat.zero_add, Nat.add_zero, Option.map_some, f2], by simp -implicitDefEqProofs (disch := first | omega | (simp -implicitDefEqProofs only [go_sem, List.size_toArray, List.length_cons, List.length_nil, Nat.reduceAdd]; done)) only [go_sem, Int.reduceLT, Int.reduceLE, Int.reduceEq, reduceIte, true_and, Nat.zero_add, Nat.add_zero, Option.map_some, f3], by simp -implicitDefEqProofs (disch := first | omega | (simp -implicitDefEqProofs only [go_sem, List.size_toArray, List.length_cons, List.length_nil, Nat.reduceAdd]; done)) only [go_sem, Int.reduceLT, Int.reduceLE, Int.reduceEq, reduceIte, true_and, Nat.zero_add, Nat.add_zero, Option.map_some, f4], by simp -implicitDefEqProofs (disch := first | omega | (simp -implicitDefEqProofs only [go_sem, List.size_toArray, List.length_cons, List.length_nil, Nat.reduceAdd]; done)) only [go_sem, Int.reduceLT, Int.reduceLE, Int.reduceEq, reduceIte, true_and, Nat.zero_add, Nat.add_zero, Option.map_some], by omega, v', w', ?_, ?_, ?_, fun h0 => absurd h0 (Nat.succ_ne_zero _)⟩
      · rw [hsucc]; exact S3
      · rw [hsucc]
        exact g4.mono (Nat.le_refl _) (fun x hxw => get_set_other _ _ (by
          rcases g5 x hxw with hh1 | hh1
          · have := hw x hh1; omega
          · have := S1.nx; omega)) (fun i hi => hi.elim)
      · intro x hxw
        rcases g5 x hxw with hh1 | hh1
        · exact hw x hh1
        · have := S1.nx; omega
    · have hin : i = n4.toNat := by omega
      subst hin
      rw [xv] at S ho
      simp only at S ho
      refine hX _ _ (by simp) ?_
      have S1 := S.num (a' := a6) (e' := e6) hn
      have hwR : ∀ x, w = some x → x ≠ R := fun x hxw => by have := hw x hxw; omega
      have hone : ∀ p q : Int, [Value.int .i64 n1, .int .i64 n2, .int .i64 (smI n3), v, .int .i64 p, .int .i64 q].all Value.oneCell' = true := by
        obtain ⟨_, _, rfl⟩ := ho.sl.isSlice
        intro p q; rfl
      have st5 : storeAt (hh.set R (refRow b a6 e6 odd)) (h.next + 1) 4 [.int .i64 n6] = some ((hh.set R (refRow b a6 e6 odd)).set (h.next + 1) (.row [.int .i64 n1, .int .i64 n2, .int .i64 (smI n3), v, .int .i64 n6, .int .i64 0] 0 false)) := storeAt_row S1.cC (Nat.le_of_ble_eq_true rfl) rfl
      have S2 := S1.fld (cells' := [.int .i64 n1, .int .i64 n2, .int .i64 (smI n3), v, .int .i64 n6, .int .i64 0]) hn
      simp -implicitDefEqProofs (disch := first | omega | (simp -implicitDefEqProofs only [go_sem, List.size_toArray, List.length_cons, List.length_nil, Nat.reduceAdd]; done)) only [go_sem, Int.reduceLT, Int.reduceLE, Int.reduceEq, reduceIte, true_and, Nat.zero_add, Nat.add_zero, Option.map_some, f0]
      refine ncall (S.num_c hb hn ha5 hlen x6) ?_
      simp -implicitDefEqProofs (disch := first | omega | (simp -implicitDefEqProofs only [go_sem, List.size_toArray, List.length_cons, List.length_nil, Nat.reduceAdd]; done)) only [go_sem, Int.reduceLT, Int.reduceLE, Int.reduceEq, reduceIte, true_and, Nat.zero_add, Nat.add_zero, Option.map_some, f0, f3, st5]
      refine ncall (S2.small_c hb hn ha6 hlen x7) ?_
      have S3 := S2.num (a' := a7) (e' := e7) hn
      obtain ⟨K5, hK5⟩ : ∃ K5, K5 = ((hh.set R (refRow b a6 e6 odd)).set (h.next + 1) (.row [.int .i64 n1, .int .i64 n2, .int .i64 (smI n3), v, .int .i64 n6, .int .i64 0] 0 false)).set R (refRow b a7 e7 odd) := ⟨_, rfl⟩
      rw [← hK5] at S3 ⊢
      have ho5 : Owns fI64.rep NoS K5 v vs w := by
        rw [hK5]
        refine ho.mono (Nat.le_refl _) (fun x hxw => ?_) (fun i hi => hi.elim)
        have := hw x hxw
        rw [get_set_other _ _ (by omega), get_set_other _ _ (by omega), get_set_other _ _ (by omega)]
      have st7 : storeAt K5 (h.next + 1) 5 [.int .i64 (smI n7)] = some (K5.set (h.next + 1) (.row [.int .i64 n1, .int .i64 n2, .int .i64 (smI n3), v, .int .i64 n6, .int .i64 (smI n7)] 0 false)) := storeAt_row S3.cC (Nat.le_of_ble_eq_true rfl) rfl
      have S4 := S3.fld (cells' := [.int .i64 n1, .int .i64 n2, .int .i64 (smI n3), v, .int .i64 n6, .int .i64 (smI n7)]) hn
      have ldx : cellsAt (K5.set (h.next + 1) (.row [.int .i64 n1, .int .i64 n2, .int .i64 (smI n3), v, .int .i64 n6, .int .i64 (smI n7)] 0 false)) (h.next + 1) 0 6 = some (rowV ⟨n1, n2, ⟨smI n3, vs, n6, smI n7⟩⟩ v) := by
        rw [cellsAt_row S4.cC (Nat.le_of_ble_eq_true rfl)]; rfl
      have st8 : storeAt (K5.set (h.next + 1) (.row [.int .i64 n1, .int .i64 n2, .int .i64 (smI n3), v, .int .i64 n6, .int .i64 (smI n7)] 0 false)) h.next 0 [.int .i64 n1, .int .i64 n2, .int .i64 (smI n3), v, .int .i64 n6, .int .i64 (smI n7)] = some ((K5.set (h.next + 1) (.row [.int .i64 n1, .int .i64 n2, .int .i64 (smI n3), v, .int .i64 n6, .int .i64 (smI n7)] 0 false)).set h.next (.row [.int .i64 n1, .int .i64 n2, .int .i64 (smI n3), v, .int .i64 n6, .int .i64 (smI n7)] 0 false)) := storeAll S4.bB rfl (hone _ _)
      simp -implicitDefEqProofs (disch := first | omega | (simp -implicitDefEqProofs only [go_sem, List.size_toArray, List.length_cons, List.length_nil, Nat.reduceAdd]; done)) only [go_sem, Int.reduceLT, Int.reduceLE, Int.reduceEq, reduceIte, true_and, Nat.zero_add, Nat.add_zero, Option.map_some, f0, f2, f3, st7, ldx, st8, dResults_c1, dResC_some]
      have hvl : vs.length = n4.toNat := by have := valsA_len (l := l) n4.toNat (a := a4) (e := e4); rw [xv] at this; exact this
      refine ⟨rowV ⟨n1, n2, ⟨smI n3, vs, n6, smI n7⟩⟩ v, ?_, v, w, rfl, ?_, ?_, ?_, ?_⟩
      · rw [cellsAt_row (get_set_same _ _) (Nat.le_of_ble_eq_true rfl)]; rfl
      · refine ⟨?_, S4.ng, fun j hj hji => (get_set_other _ _ (by omega)).trans (S4.old j hj hji), (get_set_other _ _ (by omega)).trans S4.rR⟩
        have := S4.nx
        rw [next_set]; omega
      · refine ho5.mono (Nat.le_refl _) (fun x hxw => ?_) (fun i hi => hi.elim)
        have := hw x hxw
        rw [get_set_other _ _ (by omega), get_set_other _ _ (by omega)]
      · intro x hxw
        have := hw x hxw
        omega
      · intro h0
        rw [h0] at hvl
        exact hv0 (by simpa using hvl.symm)
end Go.Proofs.Ytlhgijpdhniddaa

namespace Go.Proofs.Ytlhgijpdhniddaa
open Go.D
set_option maxRecDepth 100000

abbrev rdRow (b : Value) (e : Int) (odd : Bool) : DObj := .row [b, .int .i64 e, .bool odd] 0 false
theorem rdRow_vin {h : DHeap} {b : Value} {e : Int} {odd : Bool} (hb : VIn (fun i => i < h.next) b) : ∀ v ∈ [b, .int .i64 e, .bool odd], VIn (fun i => i < h.next) v := by
  intro v hv
  simp at hv
  rcases hv with rfl | rfl | rfl
  · exact hb
  · exact .int _ _
  · exact .bool _
/-- the bytes behind the next number -/
def nextV (b : Value) (l : List Int) (e : Int) : Value := if e = 0 then cutV 1 b (if (takeI l).2.2 = 0 then (takeI l).2.1.toNat else 0) else b
def nextL (l : List Int) (e : Int) : List Int := if e = 0 then l.drop (if (takeI l).2.2 = 0 then (takeI l).2.1.toNat else 0) else l
def nextN (l : List Int) (e : Int) : Int := if e = 0 then (if (takeI l).2.2 = 0 then (takeI l).1 else 0) else 0
def nextE (l : List Int) (e : Int) : Int := if e = 0 then (takeI l).2.2 else e
theorem next_sl {S : Nat → Prop} {h : DHeap} {b : Value} {l : List Int} {e : Int} (hb : Sl fU8.rep S h b l) : Sl fU8.rep S h (nextV b l e) (nextL l e) := by
  unfold nextV nextL
  split
  · have hk : (if (takeI l).2.2 = 0 then (takeI l).2.1.toNat else 0) ≤ l.length := by
      split
      · exact (takeI_size l).2
      · exact Nat.zero_le _
    exact (hb.cut (P := Try.prog) (t := 22) (kd := .i64) el_22 (by decide) hk).2
  · exact hb
/-- both readers read the same -/
theorem next_numA (l : List Int) (a : Nat) (e : Int) : nextN (l.drop a) e = (numA l a e).1 ∧ nextE (l.drop a) e = (numA l a e).2.2 ∧ nextL (l.drop a) e = l.drop (numA l a e).2.1 := by
  unfold nextN nextE nextL numA
  split
  · split
    · rename_i h1 h2
      exact ⟨rfl, h2, by rw [List.drop_drop]⟩
    · exact ⟨rfl, rfl, by simp⟩
  · exact ⟨rfl, rfl, rfl⟩
theorem int_c {h : DHeap} {R : Nat} {b : Value} {e : Int} {odd : Bool} {l : List Int} (hb : Sl fU8.rep (fun i => i < R) h b l) (hR : h.get R = some (rdRow b e odd)) (hn : R < h.next) (hlen : l.length ≤ 4294967296) :
    DC Try.prog 28 [.pointer (some ⟨R, 0, none⟩)] h (.ret (.int .i64 (nextN l e))) (h.set R (rdRow (nextV b l e) (nextE l e) odd)) := by
  have hbv : VIn (fun i => i < h.next) (nextV b l e) := (next_sl hb).vin.mono fun i hi => Nat.lt_trans hi hn
  refine Ct.changed hn (rdRow_vin hbv) (vin_int _ _) (go_28 (by simp) ?_)
  have C0 : cellAt h R 0 = some b := cellAt_row hR
  have C1 : cellAt h R 1 = some (.int .i64 e) := cellAt_row hR
  by_cases h0 : e = 0
  case neg =>
    have q1 : nextN l e = 0 := if_neg h0
    have q2 : nextV b l e = b := if_neg h0
    have q3 : nextE l e = e := if_neg h0
    rw [q1, q2, q3]
    simp -implicitDefEqProofs (disch := first | omega | (simp -implicitDefEqProofs only [go_sem, List.size_toArray, List.length_cons, List.length_nil, Nat.reduceAdd]; done)) only [go_sem, Int.reduceLT, Int.reduceLE, Int.reduceEq, reduceIte, true_and, Nat.zero_add, Nat.add_zero, Option.map_some, c28, C1, h0]
    exact ⟨_, rfl, rfl, .self hR⟩
  subst h0
  have hba : Arg fU8.rep h b l := hb.mono fun i hi => ⟨Nat.lt_trans hi hn, rfl⟩
  have hk : (if (takeI l).2.2 = 0 then (takeI l).2.1.toNat else 0) ≤ l.length := by
    split
    · exact (takeI_size l).2
    · exact Nat.zero_le _
  obtain ⟨k, hkk⟩ : ∃ k, (if (takeI l).2.2 = 0 then (takeI l).2.1.toNat else 0) = k := ⟨_, rfl⟩
  have hcut := (hba.cut (P := Try.prog) (t := 22) (kd := .i64) el_22 (by decide) hk).1
  rw [hkk] at hcut
  have q1 : nextN l 0 = (if (takeI l).2.2 = 0 then (takeI l).1 else 0) := if_pos rfl
  have q2 : nextV b l 0 = cutV 1 b k := by unfold nextV; rw [if_pos rfl, hkk]
  have q3 : nextE l 0 = (takeI l).2.2 := if_pos rfl
  have hk2 : (if (takeI l).2.2 = 0 then (takeI l).2.1 else 0) = ((k : Nat) : Int) := by
    rw [← hkk]
    split
    · exact (takeI_size l).1
    · rfl
  rw [q2] at hbv
  rw [q1, q2, q3]
  have hc := takeNum_c hba hlen
  rw [hk2] at hc
  have hcl : (cutV 1 b k).cells = #[cutV 1 b k] := by
    have := (next_sl (e := 0) hb).cells1
    rw [q2] at this; exact this
  have s1 : dStore Try.prog 22 (.pointer (some ⟨R, 0, none⟩)) (cutV 1 b k) h = some (h.set R (rdRow (cutV 1 b k) 0 odd)) := (st_22 hcl).trans (storeAt_row hR (Nat.le_of_ble_eq_true rfl) (by
    have := (next_sl (e := 0) hb).isSlice
    rw [q2] at this
    obtain ⟨_, _, hx⟩ := this
    rw [hx]; rfl))
  have s2 : storeAt (h.set R (rdRow (cutV 1 b k) 0 odd)) R 1 [.int .i64 (takeI l).2.2] = some (h.set R (rdRow (cutV 1 b k) (takeI l).2.2 odd)) := (storeAt_row (get_set_same _ _) (Nat.le_of_ble_eq_true rfl) rfl).trans (by rw [set_set]; rfl)
  have hcut' : dSlice Try.prog 22 b (some (.int .i64 (k : Int))) none none h = some (cutV 1 b k) := hcut
  simp -implicitDefEqProofs (disch := first | omega | (simp -implicitDefEqProofs only [go_sem, List.size_toArray, List.length_cons, List.length_nil, Nat.reduceAdd]; done)) only [go_sem, Int.reduceLT, Int.reduceLE, Int.reduceEq, reduceIte, true_and, Nat.zero_add, Nat.add_zero, Option.map_some, c28, C0, C1]
  refine ncall hc ?_
  simp -implicitDefEqProofs (disch := first | omega | (simp -implicitDefEqProofs only [go_sem, List.size_toArray, List.length_cons, List.length_nil, Nat.reduceAdd]; done)) only [go_sem, Int.reduceLT, Int.reduceLE, Int.reduceEq, reduceIte, true_and, Nat.zero_add, Nat.add_zero, Option.map_some, C0, hcut', s1, s2]
  exact ⟨_, rfl, rfl, .set _ _ _⟩
end Go.Proofs.Ytlhgijpdhniddaa

namespace Go.Proofs.Ytlhgijpdhniddaa
open Go.D
set_option maxRecDepth 100000

def manyN (l : List Int) (e most : Int) : Int := if nextE l e = 0 then (if nextN l e < 0 ∨ most < nextN l e then 0 else nextN l e) else 0
def manyE (l : List Int) (e most : Int) : Int := if nextE l e = 0 then (if nextN l e < 0 ∨ most < nextN l e then 220 else 0) else nextE l e
theorem many_lenA (l : List Int) (a : Nat) (e most : Int) : manyN (l.drop a) e most = (lenA l a e most).1 ∧ manyE (l.drop a) e most = (lenA l a e most).2.2 ∧ nextL (l.drop a) e = l.drop (lenA l a e most).2.1 := by
  obtain ⟨h1, h2, h3⟩ := next_numA l a e
  unfold manyN manyE lenA
  rw [h1, h2]
  split
  · rename_i h0
    split
    · exact ⟨rfl, rfl, h3⟩
    · exact ⟨rfl, h0.symm, h3⟩
  · exact ⟨rfl, rfl, h3⟩
theorem many_c {h : DHeap} {R : Nat} {b : Value} {e most : Int} {odd : Bool} {l : List Int} (hb : Sl fU8.rep (fun i => i < R) h b l) (hR : h.get R = some (rdRow b e odd)) (hn : R < h.next) (hlen : l.length ≤ 4294967296) :
    DC Try.prog 29 [.pointer (some ⟨R, 0, none⟩), .int .i64 most] h (.ret (.int .i64 (manyN l e most))) (h.set R (rdRow (nextV b l e) (manyE l e most) odd)) := by
  have hbv : VIn (fun i => i < h.next) (nextV b l e) := (next_sl hb).vin.mono fun i hi => Nat.lt_trans hi hn
  refine Ct.changed hn (rdRow_vin hbv) (vin_int _ _) (go_29 (by simp) ?_)
  simp -implicitDefEqProofs (disch := first | omega | (simp -implicitDefEqProofs only [go_sem, List.size_toArray, List.length_cons, List.length_nil, Nat.reduceAdd]; done)) only [go_sem, Int.reduceLT, Int.reduceLE, Int.reduceEq, reduceIte, true_and, Nat.zero_add, Nat.add_zero, Option.map_some, c29]
  refine ncall (int_c hb hR hn hlen) ?_
  obtain ⟨n, hnn⟩ : ∃ n, nextN l e = n := ⟨_, rfl⟩
  obtain ⟨e1, he1⟩ : ∃ n, nextE l e = n := ⟨_, rfl⟩
  obtain ⟨b1, hb1⟩ : ∃ n, nextV b l e = n := ⟨_, rfl⟩
  unfold manyN manyE
  rw [hnn, he1, hb1]
  have C1 : cellAt (h.set R (rdRow b1 e1 odd)) R 1 = some (.int .i64 e1) := cellAt_row (get_set_same _ _)
  by_cases h0 : e1 = 0
  case neg =>
    simp -implicitDefEqProofs (disch := first | omega | (simp -implicitDefEqProofs only [go_sem, List.size_toArray, List.length_cons, List.length_nil, Nat.reduceAdd]; done)) only [go_sem, Int.reduceLT, Int.reduceLE, Int.reduceEq, reduceIte, true_and, Nat.zero_add, Nat.add_zero, Option.map_some, C1, h0, dPick_f]
    exact ⟨_, rfl, rfl, .set _ _ _⟩
  subst h0
  have s1 : storeAt (h.set R (rdRow b1 0 odd)) R 1 [.int .i64 220] = some (h.set R (rdRow b1 220 odd)) := (storeAt_row (get_set_same _ _) (Nat.le_of_ble_eq_true rfl) rfl).trans (by rw [set_set]; rfl)
  have C3 : cellAt (h.set R (rdRow b1 220 odd)) R 1 = some (.int .i64 220) := cellAt_row (get_set_same _ _)
  simp -implicitDefEqProofs (disch := first | omega | (simp -implicitDefEqProofs only [go_sem, List.size_toArray, List.length_cons, List.length_nil, Nat.reduceAdd]; done)) only [go_sem, Int.reduceLT, Int.reduceLE, Int.reduceEq, reduceIte, true_and, Nat.zero_add, Nat.add_zero, Option.map_some, C1]
  refine ncall count_c ?_
  by_cases h1 : n < 0 ∨ most < n
  · rw [show countB n most = false by simp [countB]; omega]
    simp -implicitDefEqProofs (disch := first | omega | (simp -implicitDefEqProofs only [go_sem, List.size_toArray, List.length_cons, List.length_nil, Nat.reduceAdd]; done)) only [go_sem, Int.reduceLT, Int.reduceLE, Int.reduceEq, reduceIte, true_and, Nat.zero_add, Nat.add_zero, Option.map_some, C1, h1, dPick_t, s1, C3]
    exact ⟨_, rfl, rfl, .set _ _ _⟩
  · rw [show countB n most = true by simp [countB]; omega]
    simp -implicitDefEqProofs (disch := first | omega | (simp -implicitDefEqProofs only [go_sem, List.size_toArray, List.length_cons, List.length_nil, Nat.reduceAdd]; done)) only [go_sem, Int.reduceLT, Int.reduceLE, Int.reduceEq, reduceIte, true_and, Nat.zero_add, Nat.add_zero, Option.map_some, C1, h1, dPick_t]
    exact ⟨_, rfl, rfl, .set _ _ _⟩
/-- the k-th next thing -/
theorem int_at {h h0 : DHeap} {R : Nat} {b : Value} {e : Int} {odd : Bool} {l : List Int} (hh : h.get R = some (rdRow b e odd)) (hb : Sl fU8.rep (fun i => i < R) h0 b l) (hk : ∀ i, i < R → h.get i = h0.get i) (hn : R < h.next) (hlen : l.length ≤ 4294967296) :
    DC Try.prog 28 [.pointer (some ⟨R, 0, none⟩)] h (.ret (.int .i64 (nextN l e))) (h.set R (rdRow (nextV b l e) (nextE l e) odd)) := int_c (hb.keep hk) hh hn hlen
theorem nextL_len {l : List Int} {e : Int} {n : Nat} (h : l.length ≤ n) : (nextL l e).length ≤ n := by
  unfold nextL
  split
  · rw [List.length_drop]; omega
  · exact h
end Go.Proofs.Ytlhgijpdhniddaa

namespace Go.Proofs.Ytlhgijpdhniddaa
open Go.D
set_option maxRecDepth 100000

/-- how things lie while something is read -/
structure TwoSt (h : DHeap) (R : Nat) (o : DObj) (zs cells : List Value) (hh : DHeap) : Prop where
  rR : hh.get R = some o
  bB : hh.get h.next = some (.row zs 0 false)
  cC : hh.get (h.next + 1) = some (.row cells 0 false)
  old : ∀ j, j < h.next → j ≠ R → hh.get j = h.get j
  nx : h.next + 2 ≤ hh.next
  ng : hh.ng = h.ng
section
variable {h hh : DHeap} {R : Nat} {o o' : DObj} {zs cells cells' : List Value}
theorem TwoSt.num (s : TwoSt h R o zs cells hh) (hn : R < h.next) : TwoSt h R o' zs cells (hh.set R o') :=
  ⟨get_set_same _ _, (get_set_other _ _ (by omega)).trans s.bB, (get_set_other _ _ (by omega)).trans s.cC, fun j hj hji => (get_set_other _ _ hji).trans (s.old j hj hji), s.nx, s.ng⟩
theorem TwoSt.fld (s : TwoSt h R o zs cells hh) (hn : R < h.next) : TwoSt h R o zs cells' (hh.set (h.next + 1) (.row cells' 0 false)) :=
  ⟨(get_set_other _ _ (by omega)).trans s.rR, (get_set_other _ _ (by omega)).trans s.bB, get_set_same _ _, fun j hj hji => (get_set_other _ _ (by omega)).trans (s.old j hj hji), s.nx, s.ng⟩
theorem TwoSt.low (s : TwoSt h R o zs cells hh) (hn : R < h.next) : ∀ i, i < R → hh.get i = h.get i := fun i hi => s.old i (by omega) (by omega)
theorem TwoSt.int_c {b : Value} {e : Int} {odd : Bool} {l : List Int} (s : TwoSt h R (rdRow b e odd) zs cells hh) (hb : Sl fU8.rep (fun i => i < R) h b l) (hn : R < h.next) (hlen : l.length ≤ 4294967296) :
    DC Try.prog 28 [.pointer (some ⟨R, 0, none⟩)] hh (.ret (.int .i64 (nextN l e))) (hh.set R (rdRow (nextV b l e) (nextE l e) odd)) :=
  int_at s.rR hb (s.low hn) (by have := s.nx; omega) hlen
end
theorem bd_key1 {t : Int} : dBuild Try.prog 48 [(0, .int .i32 t)] = some (.agg #[.int .i32 t, .int .i64 0]) := dBuild_at plc_48 rfl
theorem bd_cell1 {t : Int} : dBuild Try.prog 50 [(0, .agg #[.int .i32 t, .int .i64 0])] = some (.agg #[.int .i32 t, .int .i64 0, .int .i64 0, .int .i64 0]) := dBuild_at plc_50 rfl
theorem wrap32_odd {n : Int} (hn : inK .i64 n) : decide (IntKind.i64.wrap (IntKind.i32.wrap n) = n) = !decide (n < -2147483648 ∨ 2147483647 < n) := by
  have h1 := inK_i64.1 hn
  have h2 := inK_i32.1 (wrap_ok .i32 n)
  rw [wrap_i64_in (by omega) (by omega), ← decide_not]
  refine decide_eq_decide.2 ⟨fun hh => ?_, fun hh => ?_⟩
  · rw [← hh]; omega
  · exact wrap_in (inK_i32.2 ⟨by omega, by omega⟩)
theorem nextN_in {l : List Int} (hb : ∀ x ∈ l, 0 ≤ x ∧ x ≤ 255) (e : Int) : inK .i64 (nextN l e) := by
  have h0 : inK .i64 0 := inK_i64.2 (by decide)
  unfold nextN
  split
  · split
    · exact takeI_in hb
    · exact h0
  · exact h0
set_option maxHeartbeats 2000000 in
theorem stCell_c {h : DHeap} {R : Nat} {b b1 b2 b3 : Value} {e e1 e2 e3 n1 n2 n3 : Int} {odd : Bool} {l l1 l2 l3 : List Int} (hb : Sl fU8.rep (fun i => i < R) h b l) (hR : h.get R = some (rdRow b e odd)) (hn : R < h.next) (hlen : l.length ≤ 4294967296)
    (x1 : nextN l e = n1) (y1 : nextV b l e = b1) (z1 : nextL l e = l1) (w1 : nextE l e = e1) (x2 : nextN l1 e1 = n2) (y2 : nextV b1 l1 e1 = b2) (z2 : nextL l1 e1 = l2) (w2 : nextE l1 e1 = e2)
    (x3 : nextN l2 e2 = n3) (y3 : nextV b2 l2 e2 = b3) (z3 : nextL l2 e2 = l3) (w3 : nextE l2 e2 = e3) :
    DC Try.prog 30 [.pointer (some ⟨R, 0, none⟩)] h (.ret (cellV ⟨⟨IntKind.i32.wrap n1, n2⟩, n3, nextN l3 e3⟩)) (h.set R (rdRow (nextV b3 l3 e3) (nextE l3 e3) (odd || decide (n1 < -2147483648 ∨ 2147483647 < n1)))) := by
  have hb1 : Sl fU8.rep (fun i => i < R) h b1 l1 := by have := next_sl (e := e) hb; rw [y1, z1] at this; exact this
  have hb2 : Sl fU8.rep (fun i => i < R) h b2 l2 := by have := next_sl (e := e1) hb1; rw [y2, z2] at this; exact this
  have hb3 : Sl fU8.rep (fun i => i < R) h b3 l3 := by have := next_sl (e := e2) hb2; rw [y3, z3] at this; exact this
  have g1 : l1.length ≤ 4294967296 := by rw [← z1]; exact nextL_len hlen
  have g2 : l2.length ≤ 4294967296 := by rw [← z2]; exact nextL_len g1
  have g3 : l3.length ≤ 4294967296 := by rw [← z3]; exact nextL_len g2
  have hin : inK .i64 n1 := by rw [← x1]; exact nextN_in (fun x hx => inK_u8.1 (hb.ok x hx)) e
  have hbv : VIn (fun i => i < h.next) (nextV b3 l3 e3) := (next_sl hb3).vin.mono fun i hi => Nat.lt_trans hi hn
  refine Ct.changed hn (rdRow_vin hbv) (cellV_vin _) (go_30 (by simp) ?_)
  obtain ⟨H, hH⟩ : ∃ H, H = h.push (.row [.int .i32 0, .int .i64 0, .int .i64 0, .int .i64 0] 0 false) := ⟨_, rfl⟩
  have hHn : H.next = h.next + 1 := by rw [hH]; rfl
  have hHg : H.ng = h.ng := by rw [hH]; rfl
  have hHB : H.get h.next = some (.row [.int .i32 0, .int .i64 0, .int .i64 0, .int .i64 0] 0 false) := by rw [hH]; exact get_push_same _ _
  have hHo : ∀ i, i < h.next → H.get i = h.get i := fun i hi => by rw [hH]; exact get_push_other _ _ hi
  have c1 := int_at (h := H) ((hHo R hn).trans hR) hb (fun i hi => hHo i (by omega)) (by omega) hlen
  rw [x1, y1, w1] at c1
  obtain ⟨K, hK⟩ : ∃ K, K = (H.set R (rdRow b1 e1 odd)).push (.row [.int .i32 (IntKind.i32.wrap n1), .int .i64 0, .int .i64 0, .int .i64 0] 0 false) := ⟨_, rfl⟩
  have S0 : TwoSt h R (rdRow b1 e1 odd) [.int .i32 0, .int .i64 0, .int .i64 0, .int .i64 0] [.int .i32 (IntKind.i32.wrap n1), .int .i64 0, .int .i64 0, .int .i64 0] K := by
    rw [hK]
    refine ⟨?_, ?_, ?_, fun j hj hji => ?_, ?_, ?_⟩
    · rw [get_push_other _ _ (by rw [next_set]; omega), get_set_same]
    · rw [get_push_other _ _ (by rw [next_set]; omega), get_set_other _ _ (by omega), hHB]
    · rw [get_push_at _ _ (by rw [next_set, hHn])]
    · rw [get_push_other _ _ (by rw [next_set]; omega), get_set_other _ _ hji, hHo j hj]
    · rw [next_push, next_set, hHn]; omega
    · rw [ng_push, ng_set, hHg]
  obtain ⟨odd', ho⟩ : ∃ o, (odd || decide (n1 < -2147483648 ∨ 2147483647 < n1)) = o := ⟨_, rfl⟩
  rw [ho]
  have hst4 : [Value.int .i32 (IntKind.i32.wrap n1), .int .i64 0, .int .i64 0, .int .i64 0].all Value.oneCell' = true := rfl
  simp -implicitDefEqProofs (disch := first | omega | (simp -implicitDefEqProofs only [go_sem, List.size_toArray, List.length_cons, List.length_nil, Nat.reduceAdd]; done)) only [go_sem, Int.reduceLT, Int.reduceLE, Int.reduceEq, reduceIte, true_and, Nat.zero_add, Nat.add_zero, Option.map_some, c30]
  rw [← hH]
  refine ncall c1 ?_
  simp -implicitDefEqProofs (disch := first | omega | (simp -implicitDefEqProofs only [go_sem, List.size_toArray, List.length_cons, List.length_nil, Nat.reduceAdd]; done)) only [go_sem, Int.reduceLT, Int.reduceLE, Int.reduceEq, reduceIte, true_and, Nat.zero_add, Nat.add_zero, Option.map_some, bd_key1, bd_cell1, store4_push hst4]
  rw [← hK]
  simp -implicitDefEqProofs (disch := first | omega | (simp -implicitDefEqProofs only [go_sem, List.size_toArray, List.length_cons, List.length_nil, Nat.reduceAdd]; done)) only [go_sem, Int.reduceLT, Int.reduceLE, Int.reduceEq, reduceIte, true_and, Nat.zero_add, Nat.add_zero, Option.map_some, next_set, hHn]
  have D2 : cellAt K R 2 = some (.bool odd) := cellAt_row S0.rR
  have D0 : cellAt K (h.next + 1) 0 = some (.int .i32 (IntKind.i32.wrap n1)) := cellAt_row S0.cC
  have so : storeAt K R 2 [.bool odd'] = some (K.set R (rdRow b1 e1 odd')) := storeAt_row S0.rR (Nat.le_of_ble_eq_true rfl) rfl
  refine NNx_cut (fun s => s.df = [] ∧ s.h = K.set R (rdRow b1 e1 odd') ∧ s.fr 0 = some (.pointer (some ⟨R, 0, none⟩)) ∧ s.fr 2 = some (.pointer (some ⟨h.next, 0, none⟩)) ∧ s.fr 4 = some (.pointer (some ⟨h.next + 1, 0, none⟩))) ?_ ?_
  · cases odd with
    | true =>
      have ho' : odd' = true := by rw [← ho]; rfl
      rw [ho'] at so ⊢
      simp -implicitDefEqProofs (disch := first | omega | (simp -implicitDefEqProofs only [go_sem, List.size_toArray, List.length_cons, List.length_nil, Nat.reduceAdd]; done)) only [go_sem, Int.reduceLT, Int.reduceLE, Int.reduceEq, reduceIte, true_and, Nat.zero_add, Nat.add_zero, Option.map_some, D2, so, dPick_t]
      done
    | false =>
      have hq : (!decide (IntKind.i64.wrap (IntKind.i32.wrap n1) = n1)) = odd' := by rw [wrap32_odd hin, Bool.not_not, ← ho]; rfl
      simp -implicitDefEqProofs (disch := first | omega | (simp -implicitDefEqProofs only [go_sem, List.size_toArray, List.length_cons, List.length_nil, Nat.reduceAdd]; done)) only [go_sem, Int.reduceLT, Int.reduceLE, Int.reduceEq, reduceIte, true_and, Nat.zero_add, Nat.add_zero, Option.map_some, D2, D0, hq, so, dPick_f]
      done
  rintro ⟨fr, df, h2, rd⟩ ⟨rfl, rfl, f0, f2, f4⟩
  simp only at f0 f2 f4
  have S1 := S0.num (o' := rdRow b1 e1 odd') hn
  have t2 := S1.int_c hb1 hn g1
  rw [set_set, x2, y2, w2] at t2
  have S2 := S0.num (o' := rdRow b2 e2 odd') hn
  have u2 : storeAt (K.set R (rdRow b2 e2 odd')) (h.next + 1) 1 [.int .i64 n2] = some _ := storeAt_row S2.cC (Nat.le_of_ble_eq_true rfl) rfl
  have S3 := S2.fld (cells' := [.int .i32 (IntKind.i32.wrap n1), .int .i64 n2, .int .i64 0, .int .i64 0]) hn
  have t3 := S3.int_c hb2 hn g2
  rw [x3, y3, w3] at t3
  have S4 := S3.num (o' := rdRow b3 e3 odd') hn
  obtain ⟨K4, hK4⟩ : ∃ K4, K4 = ((K.set R (rdRow b2 e2 odd')).set (h.next + 1) (.row [.int .i32 (IntKind.i32.wrap n1), .int .i64 n2, .int .i64 0, .int .i64 0] 0 false)).set R (rdRow b3 e3 odd') := ⟨_, rfl⟩
  rw [← hK4] at S4 t3
  have u3 : storeAt K4 (h.next + 1) 2 [.int .i64 n3] = some (K4.set (h.next + 1) (.row [.int .i32 (IntKind.i32.wrap n1), .int .i64 n2, .int .i64 n3, .int .i64 0] 0 false)) := storeAt_row S4.cC (Nat.le_of_ble_eq_true rfl) rfl
  have S5 := S4.fld (cells' := [.int .i32 (IntKind.i32.wrap n1), .int .i64 n2, .int .i64 n3, .int .i64 0]) hn
  have t4 := S5.int_c hb3 hn g3
  have S6 := S5.num (o' := rdRow (nextV b3 l3 e3) (nextE l3 e3) odd') hn
  obtain ⟨K6, hK6⟩ : ∃ K6, K6 = (K4.set (h.next + 1) (.row [.int .i32 (IntKind.i32.wrap n1), .int .i64 n2, .int .i64 n3, .int .i64 0] 0 false)).set R (rdRow (nextV b3 l3 e3) (nextE l3 e3) odd') := ⟨_, rfl⟩
  rw [← hK6] at S6 t4
  obtain ⟨n4, x4⟩ : ∃ n4, nextN l3 e3 = n4 := ⟨_, rfl⟩
  rw [x4] at t4 ⊢
  have u4 : storeAt K6 (h.next + 1) 3 [.int .i64 n4] = some (K6.set (h.next + 1) (.row [.int .i32 (IntKind.i32.wrap n1), .int .i64 n2, .int .i64 n3, .int .i64 n4] 0 false)) := storeAt_row S6.cC (Nat.le_of_ble_eq_true rfl) rfl
  have S7 := S6.fld (cells' := [.int .i32 (IntKind.i32.wrap n1), .int .i64 n2, .int .i64 n3, .int .i64 n4]) hn
  obtain ⟨K7, hK7⟩ : ∃ K7, K7 = K6.set (h.next + 1) (.row [.int .i32 (IntKind.i32.wrap n1), .int .i64 n2, .int .i64 n3, .int .i64 n4] 0 false) := ⟨_, rfl⟩
  rw [← hK7] at S7 u4
  have ldx : cellsAt K7 (h.next + 1) 0 4 = some (cellV ⟨⟨IntKind.i32.wrap n1, n2⟩, n3, n4⟩) := by
    rw [cellsAt_row S7.cC (Nat.le_of_ble_eq_true rfl)]; rfl
  have u5 : storeAt K7 h.next 0 [.int .i32 (IntKind.i32.wrap n1), .int .i64 n2, .int .i64 n3, .int .i64 n4] = some (K7.set h.next (.row [.int .i32 (IntKind.i32.wrap n1), .int .i64 n2, .int .i64 n3, .int .i64 n4] 0 false)) := storeAll S7.bB rfl rfl
  simp -implicitDefEqProofs (disch := first | omega | (simp -implicitDefEqProofs only [go_sem, List.size_toArray, List.length_cons, List.length_nil, Nat.reduceAdd]; done)) only [go_sem, Int.reduceLT, Int.reduceLE, Int.reduceEq, reduceIte, true_and, Nat.zero_add, Nat.add_zero, Option.map_some, f0]
  refine ncall t2 ?_
  simp -implicitDefEqProofs (disch := first | omega | (simp -implicitDefEqProofs only [go_sem, List.size_toArray, List.length_cons, List.length_nil, Nat.reduceAdd]; done)) only [go_sem, Int.reduceLT, Int.reduceLE, Int.reduceEq, reduceIte, true_and, Nat.zero_add, Nat.add_zero, Option.map_some, f0, f4, u2]
  refine ncall t3 ?_
  simp -implicitDefEqProofs (disch := first | omega | (simp -implicitDefEqProofs only [go_sem, List.size_toArray, List.length_cons, List.length_nil, Nat.reduceAdd]; done)) only [go_sem, Int.reduceLT, Int.reduceLE, Int.reduceEq, reduceIte, true_and, Nat.zero_add, Nat.add_zero, Option.map_some, f0, f4, u3]
  refine ncall t4 ?_
  simp -implicitDefEqProofs (disch := first | omega | (simp -implicitDefEqProofs only [go_sem, List.size_toArray, List.length_cons, List.length_nil, Nat.reduceAdd]; done)) only [go_sem, Int.reduceLT, Int.reduceLE, Int.reduceEq, reduceIte, true_and, Nat.zero_add, Nat.add_zero, Option.map_some, f2, f4, u4, ldx, u5, dResults_c1, dResC_some]
  refine ⟨cellV ⟨⟨IntKind.i32.wrap n1, n2⟩, n3, n4⟩, ?_, rfl, ?_, S7.ng, fun j hj hji => (get_set_other _ _ (by omega)).trans (S7.old j hj hji), (get_set_other _ _ (by omega)).trans S7.rR⟩
  · rw [cellsAt_row (get_set_same _ _) (Nat.le_of_ble_eq_true rfl)]; rfl
  · have := S7.nx
    rw [next_set]; omega
end Go.Proofs.Ytlhgijpdhniddaa
