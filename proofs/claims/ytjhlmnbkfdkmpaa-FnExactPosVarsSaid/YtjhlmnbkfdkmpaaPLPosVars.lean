/- Printed by a program of ours: the plain law of FnExactPosVars out of its core. -/
import Derived.Test.YtjhlmnbkfdkmpaaSPosVarsC
namespace Go.Proofs.Ytjhlmnbkfdkmpaa
open Eng
set_option linter.unusedVariables false
set_option linter.unusedSimpArgs false
set_option maxRecDepth 10000
theorem law_FnExactPosVars {x0 : TRule} (w0 : WfTRule x0) {N : Nat} (hN : 1099511627776 ≤ N) : m_l_FnExactPosVars N x0 = some true := by
  unfold m_l_FnExactPosVars
  obtain ⟨v0, hv0, hs0⟩ := sz_m_l_szRule hN x0 w0 1048576 (by omega) (by omega)
  rw [hv0]; simp only [Option.bind_some]
  by_cases c0 : v0 < 0
  · rw [if_pos (by simpa using c0)]
  rw [if_neg (by simpa using c0)]
  replace hs0 := hs0.resolve_left c0
  have n0 := totTRule_nn x0
  have l0 : LimTRule x0 := LimTRule_of x0 (by omega)
  have t0 : totTRule x0 ≤ 1048576 := by omega
  obtain ⟨r, hr, hi, rl0, rt0⟩ := c_PosVars hN x0 t0
  have mn0 := mcnTRule_nn x0
  have ml0 := mcnTRule_le x0
  obtain ⟨y0_0, y0_1, y0_2, mk0⟩ := mk_m_l_markRule hN x0 l0 (1) (by omega) (by unfold big62; omega)
  have mp0 : decide (1 + mcnTRule x0 < 0) = false := decide_eq_false (by omega)
  have rn0 := cntL_nn one_nn (r)
  have rm0 := cntL_le (p := (r)) (tot := (fun s : ByteArray => (s.size : Int))) (cnt := one) (fun y _ => by simp only [one]; omega)
  obtain ⟨z0_0, rk0, re0, rh0, rl0'⟩ := mk_m_l_markStringS hN (r) rl0 (1) (by omega) (by unfold big62; omega)
  have rq0 := hd_m_l_heldStringS hN z0_0 rl0' (1) (by omega) (by rw [re0]; unfold big62; omega) rh0
  rw [re0] at rq0
  have rp0 : decide (1 + cntL one (r) < 0) = false := decide_eq_false (by omega)
  simp only [to_m_l_toRule hN x0 l0, eq_m_l_eqRule hN x0 x0 l0, hr, hi, eq_m_l_eqStringS hN  (r) (r) rl0, mk0, mp0, rk0, rq0, rp0, seq_self, Option.bind_some, decide_true, bne_self_eq_false, Bool.not_true, Bool.not_false, Bool.false_eq_true, if_false, if_true]
namespace fnExactPosVars
theorem law {x0 : TRule} (w0 : WfTRule x0) : m_l_FnExactPosVars 1099511627776 x0 = some true := law_FnExactPosVars w0 (by omega)
end fnExactPosVars
end Go.Proofs.Ytjhlmnbkfdkmpaa
