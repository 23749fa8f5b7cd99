/- Printed by a program of ours: the plain law of FnExactComputeAll out of its core. -/
import Derived.Test.YtmhckcoabhahpaaSPos
namespace Go.Proofs.Ytmhckcoabhahpaa
open Eng
set_option linter.unusedVariables false
set_option linter.unusedSimpArgs false
set_option maxRecDepth 10000
theorem law_FnExactComputeAll {x0 : (List TExpr)} (w0 : (WfL WfTExpr) x0) {x1 : (List TBind)} (w1 : (WfL WfTBind) x1) {N : Nat} (hN : 1099511627776 ≤ N) : m_l_FnExactComputeAll N x0 x1 = some true := by
  unfold m_l_FnExactComputeAll
  obtain ⟨v0, hv0, hs0⟩ := sz_m_l_szExprS hN x0 w0 1048576 (by omega) (by omega)
  rw [hv0]; simp only [Option.bind_some]
  by_cases c0 : v0 < 0
  · rw [if_pos (by simpa using c0)]
  rw [if_neg (by simpa using c0)]
  replace hs0 := hs0.resolve_left c0
  have nn0 : ∀ y ∈ x0, 0 ≤ totTExpr y := fun y _ => totTExpr_nn y
  have n0 := sum_nonneg _ _ nn0
  obtain ⟨v1, hv1, hs1⟩ := sz_m_l_szBindS hN x1 w1 v0 (by omega) (by omega)
  rw [hv1]; simp only [Option.bind_some]
  by_cases c1 : v1 < 0
  · rw [if_pos (by simpa using c1)]
  rw [if_neg (by simpa using c1)]
  replace hs1 := hs1.resolve_left c1
  have nn1 : ∀ y ∈ x1, 0 ≤ totTBind y := fun y _ => totTBind_nn y
  have n1 := sum_nonneg _ _ nn1
  have l0 : (x0.length ≤ 4294967296) := by omega
  have l1 : (x1.length ≤ 4294967296) := by omega
  have t0 : (x0.length : Int) + (x0.map totTExpr).sum ≤ 1048576 := by omega
  have t1 : (x1.length : Int) + (x1.map totTBind).sum ≤ 1048576 := by omega
  obtain ⟨r, hr, hi, rl0, rt0⟩ := c_ComputeAll hN x0 x1 t0 t1
  have mn0 := cntL_nn cntTExpr_nn x0
  have ml0 := cntL_le (p := x0) (tot := totTExpr) (cnt := cntTExpr) (fun y _ => cntTExpr_le y)
  obtain ⟨y0_0, mk0, -, -, -⟩ := mk_m_l_markExprS hN x0 l0 (1) (by omega) (by unfold big62; omega)
  have mp0 : decide (1 + cntL cntTExpr x0 < 0) = false := decide_eq_false (by omega)
  have mn1 := cntL_nn cntTBind_nn x1
  have ml1 := cntL_le (p := x1) (tot := totTBind) (cnt := cntTBind) (fun y _ => cntTBind_le y)
  obtain ⟨y1_0, mk1, -, -, -⟩ := mk_m_l_markBindS hN x1 l1 (1 + cntL cntTExpr x0) (by omega) (by unfold big62; omega)
  have mp1 : decide (1 + cntL cntTExpr x0 + cntL cntTBind x1 < 0) = false := decide_eq_false (by omega)
  have rn0 := cntL_nn cntTVal_nn (r.1)
  have rm0 := cntL_le (p := (r.1)) (tot := totTVal) (cnt := cntTVal) (fun y _ => cntTVal_le y)
  obtain ⟨z0_0, rk0, re0, rh0, rl0'⟩ := mk_m_l_markValS hN (r.1) rl0 (1) (by omega) (by unfold big62; omega)
  have rq0 := hd_m_l_heldValS hN z0_0 rl0' (1) (by omega) (by rw [re0]; unfold big62; omega) rh0
  rw [re0] at rq0
  have rp0 : decide (1 + cntL cntTVal (r.1) < 0) = false := decide_eq_false (by omega)
  simp only [to_m_l_toExprS hN x0 l0, eq_m_l_eqExprS hN x0 x0 l0, to_m_l_toBindS hN x1 l1, eq_m_l_eqBindS hN x1 x1 l1, hr, hi, eq_m_l_eqValS hN  (r.1) (r.1) rl0, mk0, mp0, mk1, mp1, rk0, rq0, rp0, seq_self, Option.bind_some, decide_true, bne_self_eq_false, Bool.not_true, Bool.not_false, Bool.false_eq_true, if_false, if_true]
namespace fnExactComputeAll
theorem law {x0 : (List TExpr)} (w0 : (WfL WfTExpr) x0) {x1 : (List TBind)} (w1 : (WfL WfTBind) x1) : m_l_FnExactComputeAll 1099511627776 x0 x1 = some true := law_FnExactComputeAll w0 w1 (by omega)
end fnExactComputeAll
end Go.Proofs.Ytmhckcoabhahpaa
