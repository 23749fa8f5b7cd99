/- Printed by a program of ours: the plain law of FnExactLessMatch out of its core. -/
import Derived.Test.YtpajhchhkfnieaaSMB
namespace Go.Proofs.Ytpajhchhkfnieaa
open Eng
set_option linter.unusedVariables false
set_option linter.unusedSimpArgs false
theorem law_FnExactLessMatch {x0 : TMatch} (w0 : WfTMatch x0) {x1 : TMatch} (w1 : WfTMatch x1) {N : Nat} (hN : 1048578 ≤ N) : m_l_FnExactLessMatch N x0 x1 = some true := by
  unfold m_l_FnExactLessMatch
  obtain ⟨v0, hv0, hs0⟩ := sz_m_l_szMatch hN x0 w0 1048576 (by omega) (by omega)
  rw [hv0]; simp only [Option.bind_some]
  by_cases c0 : v0 < 0
  · rw [if_pos (by simpa using c0)]
  rw [if_neg (by simpa using c0)]
  replace hs0 := hs0.resolve_left c0
  have n0 := totTMatch_nn x0
  obtain ⟨v1, hv1, hs1⟩ := sz_m_l_szMatch hN x1 w1 v0 (by omega) (by omega)
  rw [hv1]; simp only [Option.bind_some]
  by_cases c1 : v1 < 0
  · rw [if_pos (by simpa using c1)]
  rw [if_neg (by simpa using c1)]
  replace hs1 := hs1.resolve_left c1
  have n1 := totTMatch_nn x1
  have l0 : LimTMatch x0 := LimTMatch_of x0 (by omega)
  have l1 : LimTMatch x1 := LimTMatch_of x1 (by omega)
  have t0 : totTMatch x0 ≤ 1048576 := by omega
  have t1 : totTMatch x1 ≤ 1048576 := by omega
  obtain ⟨r, hr, hi⟩ := c_LessMatch hN x0 x1 t0 t1
  simp only [to_m_l_toMatch hN x0 l0, eq_m_l_eqMatch hN x0 x0 l0, to_m_l_toMatch hN x1 l1, eq_m_l_eqMatch hN x1 x1 l1, hr, hi, Option.bind_some]
  simp
namespace fnExactLessMatch
theorem law {x0 : TMatch} (w0 : WfTMatch x0) {x1 : TMatch} (w1 : WfTMatch x1) : m_l_FnExactLessMatch 1099511627776 x0 x1 = some true := law_FnExactLessMatch w0 w1 (by omega)
end fnExactLessMatch
end Go.Proofs.Ytpajhchhkfnieaa
