/- Printed by a program of ours: the plain law of FnExactDefOk out of its core. -/
import Derived.Test.YtjangilipfjcmaaSDefOk
namespace Go.Proofs.Ytjangilipfjcmaa
open Eng
set_option linter.unusedVariables false
set_option linter.unusedSimpArgs false
set_option maxRecDepth 10000
theorem law_FnExactDefOk {x0 : TDef} (w0 : WfTDef x0) {N : Nat} (hN : 1099000000000 ≤ N) : m_l_FnExactDefOk N x0 = some true := by
  unfold m_l_FnExactDefOk
  obtain ⟨v0, hv0, hs0⟩ := sz_m_l_szDef hN x0 w0 1048576 (by omega) (by omega)
  rw [hv0]; simp only [Option.bind_some]
  by_cases c0 : v0 < 0
  · rw [if_pos (by simpa using c0)]
  rw [if_neg (by simpa using c0)]
  replace hs0 := hs0.resolve_left c0
  have n0 := totTDef_nn x0
  have l0 : LimTDef x0 := LimTDef_of x0 (by omega)
  have t0 : totTDef x0 ≤ 1048576 := by omega
  obtain ⟨r, hr, hi⟩ := c_DefOk hN x0 t0
  simp only [to_m_l_toDef hN x0 l0, eq_m_l_eqDef hN x0 x0 l0, hr, hi, seq_self, Option.bind_some, decide_true, bne_self_eq_false, Bool.not_true, Bool.not_false, Bool.false_eq_true, if_false, if_true]
namespace fnExactDefOk
theorem law {x0 : TDef} (w0 : WfTDef x0) : m_l_FnExactDefOk 1099511627776 x0 = some true := law_FnExactDefOk w0 (by omega)
end fnExactDefOk
end Go.Proofs.Ytjangilipfjcmaa
