/- Printed by a program of ours: the plain law of FnExactNetOf out of its core. -/
import Derived.Test.YtjangilipfjcmaaGreatSNetOfC
namespace Go.Proofs.YtjangilipfjcmaaGreat
open Eng
set_option linter.unusedVariables false
set_option linter.unusedSimpArgs false
set_option maxRecDepth 10000
theorem law_FnExactNetOf {x0 : TDef} (w0 : WfTDef x0) {N : Nat} (hN : 1099000000000 ≤ N) : m_l_FnExactNetOf N x0 = some true := by
  unfold m_l_FnExactNetOf
  obtain ⟨v0, hv0, hs0⟩ := sz_m_l_szDef hN x0 w0 1048576 (by omega) (by omega)
  rw [hv0]; simp only [Option.bind_some]
  by_cases c0 : v0 < 0
  · rw [if_pos (by simpa using c0)]
  rw [if_neg (by simpa using c0)]
  replace hs0 := hs0.resolve_left c0
  have n0 := totTDef_nn x0
  have l0 : LimTDef x0 := LimTDef_of x0 (by omega)
  have t0 : totTDef x0 ≤ 1048576 := by omega
  obtain ⟨r, hr, hi, rl0, rt0⟩ := c_NetOf hN x0 t0
  have mn0 := mcnTDef_nn x0
  have ml0 := mcnTDef_le x0
  obtain ⟨y0_0, mk0⟩ := mk_m_l_markDef hN x0 l0 (1) (by omega) (by unfold big62; omega)
  have mp0 : decide (1 + mcnTDef x0 < 0) = false := decide_eq_false (by omega)
  have rn0 := mcnTNet_nn (r)
  have rm0 := mcnTNet_le (r)
  obtain ⟨z0_0, z0_1, rk0, rq0⟩ := mk_m_l_markNet hN (r) rl0 (1) (by omega) (by unfold big62; omega)
  have rp0 : decide (1 + mcnTNet (r) < 0) = false := decide_eq_false (by omega)
  simp only [to_m_l_toDef hN x0 l0, eq_m_l_eqDef hN x0 x0 l0, hr, hi, eq_m_l_eqNet hN  (r) (r) rl0, mk0, mp0, rk0, rq0, rp0, seq_self, Option.bind_some, decide_true, bne_self_eq_false, Bool.not_true, Bool.not_false, Bool.false_eq_true, if_false, if_true]
namespace fnExactNetOf
theorem law {x0 : TDef} (w0 : WfTDef x0) : m_l_FnExactNetOf 1099511627776 x0 = some true := law_FnExactNetOf w0 (by omega)
end fnExactNetOf
end Go.Proofs.YtjangilipfjcmaaGreat
