/- Plain law: the core of DefOk. -/
import Derived.Test.YtjangilipfjcmaaGreatSDef
import Derived.Test.YtjangilipfjcmaaGreatSRuleT
namespace Go.Proofs.YtjangilipfjcmaaGreat
open Eng
set_option linter.unusedVariables false
theorem szDef_of (d : TDef) (h : totTDef d ≤ 1048576) : SzDef d := by
  unfold totTDef at h
  have n1 : ∀ y ∈ d.Rules, 0 ≤ totTRule y := fun y _ => totTRule_nn y
  have s1 := sum_nonneg _ _ n1
  exact ⟨by omega, by omega, fun r hr => szRule_of r (by have := sum_mem _ _ n1 r hr; omega)⟩
theorem c_DefOk {N : Nat} (hN : 1099000000000 ≤ N) (d : TDef) (h : totTDef d ≤ 1048576) : ∃ b, m_s_DefOk N d = some b ∧ m_i_DefOk N d = some b := ⟨_, def_s hN d (szDef_of d h), def_i hN d (szDef_of d h)⟩
end Go.Proofs.YtjangilipfjcmaaGreat
