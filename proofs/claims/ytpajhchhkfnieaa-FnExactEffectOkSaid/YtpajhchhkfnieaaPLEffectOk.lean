/- Printed by a program of ours: the plain law of FnExactEffectOk out of its core. -/
import Derived.Test.YtpajhchhkfnieaaSMA
namespace Go.Proofs.Ytpajhchhkfnieaa
open Eng
set_option linter.unusedVariables false
set_option linter.unusedSimpArgs false
theorem law_FnExactEffectOk {x0 : TEffect} (w0 : WfTEffect x0) {N : Nat} (hN : 1048578 ≤ N) : m_l_FnExactEffectOk N x0 = some true := by
  unfold m_l_FnExactEffectOk
  obtain ⟨v0, hv0, hs0⟩ := sz_m_l_szEffect hN x0 w0 1048576 (by omega) (by omega)
  rw [hv0]; simp only [Option.bind_some]
  by_cases c0 : v0 < 0
  · rw [if_pos (by simpa using c0)]
  rw [if_neg (by simpa using c0)]
  replace hs0 := hs0.resolve_left c0
  have n0 := totTEffect_nn x0
  have l0 : LimTEffect x0 := LimTEffect_of x0 (by omega)
  have t0 : totTEffect x0 ≤ 1048576 := by omega
  obtain ⟨r, hr, hi⟩ := c_EffectOk hN x0 t0
  simp only [to_m_l_toEffect hN x0 l0, eq_m_l_eqEffect hN x0 x0 l0, hr, hi, Option.bind_some]
  simp
namespace fnExactEffectOk
theorem law {x0 : TEffect} (w0 : WfTEffect x0) : m_l_FnExactEffectOk 1099511627776 x0 = some true := law_FnExactEffectOk w0 (by omega)
end fnExactEffectOk
end Go.Proofs.Ytpajhchhkfnieaa
