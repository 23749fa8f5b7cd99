/- Plain law: which of two is more urgent. -/
import Derived.Test.YtjhlmnbkfdkmpaaSLess
import Derived.Test.YtjhlmnbkfdkmpaaWPickedPur
namespace Go.Proofs.Ytjhlmnbkfdkmpaa
open Eng
set_option linter.unusedVariables false
set_option linter.unusedSimpArgs false

def hasR (d : TDef) (m : TMatch) : Bool := decide (0 ≤ m.Rule) && decide (m.Rule < (d.Rules.length : Int))
theorem hasR_i (N : Nat) (d : TDef) (m : TMatch) : m_i_hasRule N d m = some (hasR d m) := by
  unfold m_i_hasRule hasR; simp only [andS, Option.bind_some]
theorem hasR_s (N : Nat) (d : TDef) (m : TMatch) : m_s_l15Rule N d m = some (hasR d m) := by
  unfold m_s_l15Rule hasR; simp only [andS, Option.bind_some]
theorem hasR_idx {d : TDef} {m : TMatch} (h : hasR d m = true) : ∃ r, idx d.Rules m.Rule = some r := by
  unfold hasR at h
  simp only [Bool.and_eq_true, decide_eq_true_eq] at h
  obtain ⟨i, hi⟩ : ∃ i : Nat, m.Rule = (i : Int) := ⟨m.Rule.toNat, by omega⟩
  rw [hi] at h ⊢
  exact ⟨_, idx_nat_lt (by omega)⟩
theorem urgent_eq {N : Nat} (hN : 1099000000000 ≤ N) (d : TDef) (x y : TMatch) (hx : x.Ids.length ≤ 1048576) : ∃ r, m_s_Urgent N d x y = some r ∧ m_i_Urgent N d x y = some r := by
  have hM : 1048578 ≤ N := by omega
  unfold m_s_Urgent m_i_Urgent
  simp only [hasR_i, hasR_s, Option.bind_some, less_s hM x y hx, less_i hM x y hx, orS, andS]
  cases h1 : hasR d x with
  | false => exact ⟨_, rfl, rfl⟩
  | true =>
    cases h2 : hasR d y with
    | false => exact ⟨_, rfl, rfl⟩
    | true =>
      obtain ⟨a, ha⟩ := hasR_idx h1
      obtain ⟨b, hb⟩ := hasR_idx h2
      simp only [ha, hb, Option.bind_some, Bool.not_true, Bool.or_false, Bool.false_eq_true, if_false]
      exact ⟨_, rfl, rfl⟩
end Go.Proofs.Ytjhlmnbkfdkmpaa
