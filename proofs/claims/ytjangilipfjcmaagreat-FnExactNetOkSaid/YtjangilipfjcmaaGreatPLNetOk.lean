/- Printed by a program of ours: the plain law of FnExactNetOk out of its core. -/
import Derived.Test.YtjangilipfjcmaaGreatSNetOkC
namespace Go.Proofs.YtjangilipfjcmaaGreat
open Eng
set_option linter.unusedVariables false
set_option linter.unusedSimpArgs false
set_option maxRecDepth 10000
theorem law_FnExactNetOk {x0 : TNet} (w0 : WfTNet x0) {x1 : TDef} (w1 : WfTDef x1) {N : Nat} (hN : 1099000000000 ≤ N) : m_l_FnExactNetOk N x0 x1 = some true := by
  unfold m_l_FnExactNetOk
  obtain ⟨v0, hv0, hs0⟩ := sz_m_l_szNet hN x0 w0 1048576 (by omega) (by omega)
  rw [hv0]; simp only [Option.bind_some]
  by_cases c0 : v0 < 0
  · rw [if_pos (by simpa using c0)]
  rw [if_neg (by simpa using c0)]
  replace hs0 := hs0.resolve_left c0
  have n0 := totTNet_nn x0
  obtain ⟨v1, hv1, hs1⟩ := sz_m_l_szDef hN x1 w1 v0 (by omega) (by omega)
  rw [hv1]; simp only [Option.bind_some]
  by_cases c1 : v1 < 0
  · rw [if_pos (by simpa using c1)]
  rw [if_neg (by simpa using c1)]
  replace hs1 := hs1.resolve_left c1
  have n1 := totTDef_nn x1
  have l0 : LimTNet x0 := LimTNet_of x0 (by omega)
  have l1 : LimTDef x1 := LimTDef_of x1 (by omega)
  have t0 : totTNet x0 ≤ 1048576 := by omega
  have t1 : totTDef x1 ≤ 1048576 := by omega
  obtain ⟨r, hr, hi⟩ := c_NetOk hN x0 x1 t0 t1
  simp only [to_m_l_toNet hN x0 l0, eq_m_l_eqNet hN x0 x0 l0, to_m_l_toDef hN x1 l1, eq_m_l_eqDef hN x1 x1 l1, hr, hi, seq_self, Option.bind_some, decide_true, bne_self_eq_false, Bool.not_true, Bool.not_false, Bool.false_eq_true, if_false, if_true]
namespace fnExactNetOk
theorem law {x0 : TNet} (w0 : WfTNet x0) {x1 : TDef} (w1 : WfTDef x1) : m_l_FnExactNetOk 1099511627776 x0 x1 = some true := law_FnExactNetOk w0 w1 (by omega)
end fnExactNetOk
end Go.Proofs.YtjangilipfjcmaaGreat
