/- Plain law: the cores of PosCount and ComputeAll. -/
import Derived.Test.YtmhckcoabhahpaaSCompute
import Derived.Test.YtmhckcoabhahpaaSAct
namespace Go.Proofs.Ytmhckcoabhahpaa
open Eng
set_option linter.unusedVariables false
set_option linter.unusedSimpArgs false

theorem pos_loop {N : Nat} (r : TRule) (hl : r.Pats.length ≤ 1048576) : ∀ (n i : Nat) (c : Int), i ≤ r.Pats.length → r.Pats.length - i < n → ∃ v, m_s_PosCount_l1 N r n c i = some v ∧ m_i_PosCount_l1 N r n c i = some v := by
  intro n
  induction n with
  | zero => intro i c _ h; omega
  | succ n ih =>
    intro i c hi hn
    simp only [m_s_PosCount_l1, m_i_PosCount_l1]
    by_cases hlt : i < r.Pats.length
    · have c1 : decide ((i : Int) < (r.Pats.length : Int)) = true := decide_eq_true (by omega)
      simp only [c1, if_true, idx_nat_lt hlt, Option.bind_some, wr1 i (by omega)]
      split <;> exact ih (i + 1) _ (by omega) (by omega)
    · have c1 : decide ((i : Int) < (r.Pats.length : Int)) = false := decide_eq_false (by omega)
      simp only [c1, Bool.false_eq_true, if_false]
      exact ⟨_, rfl, rfl⟩
theorem c_PosCount {N : Nat} (hN : 1099511627776 ≤ N) (r : TRule) (h : totTRule r ≤ 1048576) : ∃ v, m_s_PosCount N r = some v ∧ m_i_PosCount N r = some v := by
  unfold totTRule at h
  have h1 := sum_nonneg totTPat r.Pats (fun y _ => totTPat_nn y)
  have h2 := sum_nonneg totTCond r.Conds (fun y _ => totTCond_nn y)
  have h3 := sum_nonneg totTAct r.Acts (fun y _ => totTAct_nn y)
  exact pos_loop r (by omega) N 0 0 (by omega) (by omega)

theorem sz_all {α : Type} (tot : α → Int) {B : Int} : ∀ (xs : List α), (∀ x ∈ xs, 0 ≤ tot x) → (∀ x ∈ xs, tot x ≤ B) → (xs.map tot).sum ≤ (xs.length : Int) * B
  | [], _, _ => by simp
  | x :: xs, h0, h1 => by
    have := sz_all tot xs (fun y hy => h0 y (by simp [hy])) (fun y hy => h1 y (by simp [hy]))
    have := h1 x (by simp)
    simp only [List.map_cons, List.sum_cons, List.length_cons]
    have : ((xs.length + 1 : Nat) : Int) * B = (xs.length : Int) * B + B := by rw [Int.natCast_add, Int.add_mul]; simp
    omega
theorem compute_sz {N : Nat} (hN : 1099511627776 ≤ N) (e : TExpr) (p : List TBind) (hl : p.length ≤ 1048576) (hs : ∀ b ∈ p, b.V.S.size ≤ 1048576) (h1 : e.L.V.S.size ≤ 1048576) (h2 : e.R.V.S.size ≤ 1048576) :
    ∃ r, m_s_Compute N e p = some r ∧ m_i_Compute N e p = some r ∧ r.1.S.size ≤ 1048576 := by
  have hM : 1048578 ≤ N := by omega
  unfold m_s_Compute m_i_Compute m_s_AddVals m_s_SubVals m_i_AddVals m_i_SubVals
  obtain ⟨v, b, hi, hs', hv, hz⟩ := argVal_some hM e.L p hl hs h1
  obtain ⟨v', b', hi', hs'', hv', hz'⟩ := argVal_some hM e.R p hl hs h2
  simp only [hi, hs', hi', hs'', Option.bind_some, sum_eq hM _ _ _ hv hv', ints_eq hM _ _ _ hv hv', orS, andS]
  have z0 : (⟨#[]⟩ : ByteArray).size ≤ 1048576 := by decide
  have zz : ∀ (c : Bool) (n : Int), ((if c = true then ((⟨1, n, ⟨#[]⟩⟩ : TVal), true) else (zv, false)).1).S.size ≤ 1048576 := fun c n => by cases c <;> exact z0
  cases b with
  | false => rw [hz rfl]; exact ⟨_, rfl, rfl, z0⟩
  | true =>
    cases seq e.Op ⟨#[]⟩ with
    | true => exact ⟨_, rfl, rfl, hv⟩
    | false =>
      cases b' with
      | false => exact ⟨_, rfl, rfl, z0⟩
      | true =>
        cases seq e.Op ⟨#[43]⟩ with
        | true => exact ⟨_, rfl, rfl, zz _ _⟩
        | false =>
          cases seq e.Op ⟨#[45]⟩ with
          | true => exact ⟨_, rfl, rfl, zz _ _⟩
          | false => exact ⟨_, rfl, rfl, z0⟩
theorem all_loop {N : Nat} (hN : 1099511627776 ≤ N) (xs : List TExpr) (p : List TBind) (hl : p.length ≤ 1048576) (hs : ∀ b ∈ p, b.V.S.size ≤ 1048576) (hx : xs.length ≤ 1048576) (he : ∀ e ∈ xs, e.L.V.S.size ≤ 1048576 ∧ e.R.V.S.size ≤ 1048576) :
    ∀ (n i : Nat) (s : List TVal), i ≤ xs.length → xs.length - i < n → s.length ≤ i → (∀ v ∈ s, v.S.size ≤ 1048576) →
      ∃ r, m_s_ComputeAll_l1 N xs p n s i = some r ∧ m_i_ComputeAll_l1 N xs p n s i = some r ∧ r.1.length ≤ xs.length ∧ ∀ v ∈ r.1, v.S.size ≤ 1048576 := by
  intro n
  induction n with
  | zero => intro i s _ h; omega
  | succ n ih =>
    intro i s hi hn h1 h2
    simp only [m_s_ComputeAll_l1, m_i_ComputeAll_l1]
    by_cases hlt : i < xs.length
    · have c1 : decide ((i : Int) < (xs.length : Int)) = true := decide_eq_true (by omega)
      obtain ⟨a1, a2⟩ := he _ (List.getElem_mem hlt)
      obtain ⟨r, b1, b2, b3⟩ := compute_sz hN xs[i] p hl hs a1 a2
      simp only [c1, if_true, idx_nat_lt hlt, Option.bind_some, wr1 i (by omega), b1, b2]
      cases r.2 with
      | false => exact ⟨_, rfl, rfl, by simp, by simp⟩
      | true =>
        simp only [Bool.not_true, Bool.false_eq_true, if_false, app_ok (show s.length + [r.1].length ≤ 4294967296 by simp; omega), Option.bind_some]
        exact ih (i + 1) (s ++ [r.1]) (by omega) (by omega) (by simp; omega) (fun v hv => by
          rcases List.mem_append.1 hv with h | h
          · exact h2 v h
          · simp at h; rw [h]; exact b3)
    · have c1 : decide ((i : Int) < (xs.length : Int)) = false := decide_eq_false (by omega)
      simp only [c1, Bool.false_eq_true, if_false]
      exact ⟨_, rfl, rfl, by simp only; omega, h2⟩
theorem c_ComputeAll {N : Nat} (hN : 1099511627776 ≤ N) (xs : List TExpr) (p : List TBind) (hx : (xs.length : Int) + (xs.map totTExpr).sum ≤ 1048576) (hp : (p.length : Int) + (p.map totTBind).sum ≤ 1048576) :
    ∃ r, m_s_ComputeAll N xs p = some r ∧ m_i_ComputeAll N xs p = some r ∧ r.1.length ≤ 4294967296 ∧ (r.1.length : Int) + (r.1.map totTVal).sum ≤ 1125899906842624 := by
  have n1 : ∀ y ∈ xs, 0 ≤ totTExpr y := fun y _ => totTExpr_nn y
  have n2 : ∀ y ∈ p, 0 ≤ totTBind y := fun y _ => totTBind_nn y
  have s1 := sum_nonneg _ _ n1
  have s2 := sum_nonneg _ _ n2
  obtain ⟨r, a, b, c, d⟩ := all_loop hN xs p (by omega) (fun b hb => by have := sum_mem _ _ n2 b hb; have ht : totTBind b ≤ 1048576 := (by omega); unfold totTBind totTVal at ht; omega) (by omega)
    (fun e he => by have := szExpr_of e (by have := sum_mem _ _ n1 e he; omega); exact ⟨this.2.1.2, this.2.2.2⟩) N 0 [] (by omega) (by omega) (by simp) (by simp)
  refine ⟨r, a, b, by omega, ?_⟩
  have := sz_all totTVal (B := 1048576) r.1 (fun y _ => totTVal_nn y) (fun v hv => by have := d v hv; unfold totTVal; omega)
  omega
end Go.Proofs.Ytmhckcoabhahpaa
