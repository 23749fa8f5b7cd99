/- Printed by a program of ours: the plain law of FnExactSameAlpha out of its core. -/
import Derived.Test.YtpajhchhkfnieaaSMA
namespace Go.Proofs.Ytpajhchhkfnieaa
open Eng
set_option linter.unusedVariables false
set_option linter.unusedSimpArgs false
theorem law_FnExactSameAlpha {x0 : TAlpha} (w0 : WfTAlpha x0) {x1 : TAlpha} (w1 : WfTAlpha x1) {N : Nat} (hN : 1048578 ≤ N) : m_l_FnExactSameAlpha N x0 x1 = some true := by
  unfold m_l_FnExactSameAlpha
  obtain ⟨v0, hv0, hs0⟩ := sz_m_l_szAlpha hN x0 w0 1048576 (by omega) (by omega)
  rw [hv0]; simp only [Option.bind_some]
  by_cases c0 : v0 < 0
  · rw [if_pos (by simpa using c0)]
  rw [if_neg (by simpa using c0)]
  replace hs0 := hs0.resolve_left c0
  have n0 := totTAlpha_nn x0
  obtain ⟨v1, hv1, hs1⟩ := sz_m_l_szAlpha hN x1 w1 v0 (by omega) (by omega)
  rw [hv1]; simp only [Option.bind_some]
  by_cases c1 : v1 < 0
  · rw [if_pos (by simpa using c1)]
  rw [if_neg (by simpa using c1)]
  replace hs1 := hs1.resolve_left c1
  have n1 := totTAlpha_nn x1
  have l0 : LimTAlpha x0 := LimTAlpha_of x0 (by omega)
  have l1 : LimTAlpha x1 := LimTAlpha_of x1 (by omega)
  have t0 : totTAlpha x0 ≤ 1048576 := by omega
  have t1 : totTAlpha x1 ≤ 1048576 := by omega
  obtain ⟨r, hr, hi⟩ := c_SameAlpha hN x0 x1 t0 t1
  simp only [to_m_l_toAlpha hN x0 l0, eq_m_l_eqAlpha hN x0 x0 l0, to_m_l_toAlpha hN x1 l1, eq_m_l_eqAlpha hN x1 x1 l1, hr, hi, Option.bind_some]
  simp
namespace fnExactSameAlpha
theorem law {x0 : TAlpha} (w0 : WfTAlpha x0) {x1 : TAlpha} (w1 : WfTAlpha x1) : m_l_FnExactSameAlpha 1099511627776 x0 x1 = some true := law_FnExactSameAlpha w0 w1 (by omega)
end fnExactSameAlpha
end Go.Proofs.Ytpajhchhkfnieaa
