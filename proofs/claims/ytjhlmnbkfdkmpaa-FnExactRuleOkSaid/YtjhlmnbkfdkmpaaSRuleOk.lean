/- Plain law: the core of RuleOk. -/
import Derived.Test.YtjhlmnbkfdkmpaaSRuleT
namespace Go.Proofs.Ytjhlmnbkfdkmpaa
open Eng
theorem c_RuleOk {N : Nat} (hN : 1099511627776 ≤ N) (r : TRule) (h : totTRule r ≤ 1048576) : ∃ b, m_s_RuleOk N r = some b ∧ m_i_RuleOk N r = some b := ⟨_, rule_s hN r (szRule_of r h), rule_i hN r (szRule_of r h)⟩
end Go.Proofs.Ytjhlmnbkfdkmpaa
