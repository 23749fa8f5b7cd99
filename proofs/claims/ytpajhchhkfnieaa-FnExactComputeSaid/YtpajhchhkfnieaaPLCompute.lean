/- Printed by a program of ours: the plain law of FnExactCompute out of its core. -/
import Derived.Test.YtpajhchhkfnieaaSMA
namespace Go.Proofs.Ytpajhchhkfnieaa
open Eng
set_option linter.unusedVariables false
set_option linter.unusedSimpArgs false
theorem law_FnExactCompute {x0 : TExpr} (w0 : WfTExpr x0) {x1 : (List TBind)} (w1 : (WfL WfTBind) x1) {N : Nat} (hN : 1048578 ≤ N) : m_l_FnExactCompute N x0 x1 = some true := by
  unfold m_l_FnExactCompute
  obtain ⟨v0, hv0, hs0⟩ := sz_m_l_szExpr hN x0 w0 1048576 (by omega) (by omega)
  rw [hv0]; simp only [Option.bind_some]
  by_cases c0 : v0 < 0
  · rw [if_pos (by simpa using c0)]
  rw [if_neg (by simpa using c0)]
  replace hs0 := hs0.resolve_left c0
  have n0 := totTExpr_nn x0
  obtain ⟨v1, hv1, hs1⟩ := sz_m_l_szBindS hN x1 w1 v0 (by omega) (by omega)
  rw [hv1]; simp only [Option.bind_some]
  by_cases c1 : v1 < 0
  · rw [if_pos (by simpa using c1)]
  rw [if_neg (by simpa using c1)]
  replace hs1 := hs1.resolve_left c1
  have nn1 : ∀ y ∈ x1, 0 ≤ totTBind y := fun y _ => totTBind_nn y
  have n1 := sum_nonneg _ _ nn1
  have l1 : (x1.length ≤ 1048576) := by omega
  have t0 : totTExpr x0 ≤ 1048576 := by omega
  have t1 : (x1.length : Int) + (x1.map totTBind).sum ≤ 1048576 := by omega
  obtain ⟨r, hr, hi⟩ := c_Compute hN x0 x1 t0 t1
  simp only [to_m_l_toExpr hN x0, to_m_l_toBindS hN x1 l1, eq_m_l_eqBindS hN x1 x1 l1, eq_m_l_eqVal hN r.1 r.1, hr, hi, Option.bind_some]
  simp
namespace fnExactCompute
theorem law {x0 : TExpr} (w0 : WfTExpr x0) {x1 : (List TBind)} (w1 : (WfL WfTBind) x1) : m_l_FnExactCompute 1099511627776 x0 x1 = some true := law_FnExactCompute w0 w1 (by omega)
end fnExactCompute
end Go.Proofs.Ytpajhchhkfnieaa
