/- Printed by a program of ours: the plain law of FnExactForget out of its core. -/
import Derived.Test.YtmhckcoabhahpaaSForget
namespace Go.Proofs.Ytmhckcoabhahpaa
open Eng
set_option linter.unusedVariables false
set_option linter.unusedSimpArgs false
set_option maxRecDepth 10000
theorem law_FnExactForget {x0 : (List TMatch)} (w0 : (WfL WfTMatch) x0) {x1 : Int} (w1 : (WfI .i64) x1) {N : Nat} (hN : 1099511627776 ≤ N) : m_l_FnExactForget N x0 x1 = some true := by
  unfold m_l_FnExactForget
  obtain ⟨v0, hv0, hs0⟩ := sz_m_l_szMatchS hN x0 w0 1048576 (by omega) (by omega)
  rw [hv0]; simp only [Option.bind_some]
  by_cases c0 : v0 < 0
  · rw [if_pos (by simpa using c0)]
  rw [if_neg (by simpa using c0)]
  replace hs0 := hs0.resolve_left c0
  have nn0 : ∀ y ∈ x0, 0 ≤ totTMatch y := fun y _ => totTMatch_nn y
  have n0 := sum_nonneg _ _ nn0
  have l0 : (x0.length ≤ 4294967296 ∧ ∀ y ∈ x0, LimTMatch y) := ⟨by omega, fun y hy => LimTMatch_of y (by have := sum_mem _ _ nn0 y hy; omega)⟩
  have t0 : (x0.length : Int) + (x0.map totTMatch).sum ≤ 1048576 := by omega
  obtain ⟨r, hr, hi, rl0, rt0⟩ := c_Forget hN x0 x1 t0
  have mn0 := cntL_nn cntTMatch_nn x0
  have ml0 := cntL_le (p := x0) (tot := totTMatch) (cnt := cntTMatch) (fun y _ => cntTMatch_le y)
  obtain ⟨y0_0, mk0, -, -, -⟩ := mk_m_l_markMatchS hN x0 l0 (1) (by omega) (by unfold big62; omega)
  have mp0 : decide (1 + cntL cntTMatch x0 < 0) = false := decide_eq_false (by omega)
  have rn0 := cntL_nn cntTMatch_nn (r)
  have rm0 := cntL_le (p := (r)) (tot := totTMatch) (cnt := cntTMatch) (fun y _ => cntTMatch_le y)
  obtain ⟨z0_0, rk0, re0, rh0, rl0'⟩ := mk_m_l_markMatchS hN (r) rl0 (1) (by omega) (by unfold big62; omega)
  have rq0 := hd_m_l_heldMatchS hN z0_0 rl0' (1) (by omega) (by rw [re0]; unfold big62; omega) rh0
  rw [re0] at rq0
  have rp0 : decide (1 + cntL cntTMatch (r) < 0) = false := decide_eq_false (by omega)
  simp only [to_m_l_toMatchS hN x0 l0, eq_m_l_eqMatchS hN x0 x0 l0, hr, hi, eq_m_l_eqMatchS hN  (r) (r) rl0, mk0, mp0, rk0, rq0, rp0, seq_self, Option.bind_some, decide_true, bne_self_eq_false, Bool.not_true, Bool.not_false, Bool.false_eq_true, if_false, if_true]
namespace fnExactForget
theorem law {x0 : (List TMatch)} (w0 : (WfL WfTMatch) x0) {x1 : Int} (w1 : (WfI .i64) x1) : m_l_FnExactForget 1099511627776 x0 x1 = some true := law_FnExactForget w0 w1 (by omega)
end fnExactForget
end Go.Proofs.Ytmhckcoabhahpaa
