/- Plain law: the core of RuleAt. -/
import Derived.Test.YtjhlmnbkfdkmpaaCL
import Derived.Test.YtjhlmnbkfdkmpaaWExactRuleAtPur
namespace Go.Proofs.Ytjhlmnbkfdkmpaa
open Eng
set_option linter.unusedVariables false
set_option linter.unusedSimpArgs false

theorem c_RuleAt {N : Nat} (hN : 1099511627776 ≤ N) (d : TDef) (v : ByteArray) (h : totTDef d ≤ 1048576) (hv : (v.size : Int) ≤ 1048576) : ∃ r, m_s_RuleAt N d v = some r ∧ m_i_RuleAt N d v = some r := by
  unfold totTDef at h
  have h1 := sum_nonneg totTRule d.Rules (fun y _ => totTRule_nn y)
  have hl : d.Rules.length ≤ 4294967296 := by omega
  unfold m_s_RuleAt m_i_RuleAt m_sl_IndexFunc_Si_Rule_i_Rule
  have a := findloop (m_s_RuleAt_l1 N d v) d.Rules hl (fun x => seq x.Name v) (fun n i x hx _ hc hw => by simp only [m_s_RuleAt_l1, hc, if_true, hx, Option.bind_some, hw]) (fun n i hc => by simp only [m_s_RuleAt_l1, hc, Bool.false_eq_true, if_false]) N 0 (by omega) (by omega)
  have b := findloop (m_sl_IndexFunc_Si_Rule_i_Rule_l1 N d.Rules (fun a0 => m_i_RuleAt_c1 N a0 v)) d.Rules hl (fun x => seq x.Name v) (fun n i x hx _ hc hw => by simp only [m_sl_IndexFunc_Si_Rule_i_Rule_l1, m_i_RuleAt_c1, hc, if_true, hx, Option.bind_some, hw]) (fun n i hc => by simp only [m_sl_IndexFunc_Si_Rule_i_Rule_l1, hc, Bool.false_eq_true, if_false]) N 0 (by omega) (by omega)
  rw [show ((0 : Nat) : Int) = 0 from rfl] at a b
  rw [a, b]
  exact ⟨_, rfl, rfl⟩
end Go.Proofs.Ytjhlmnbkfdkmpaa
