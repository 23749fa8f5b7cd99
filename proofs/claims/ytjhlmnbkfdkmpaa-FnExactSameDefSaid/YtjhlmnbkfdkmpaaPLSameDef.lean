/- Printed by a program of ours: the plain law of FnExactSameDef out of its core. -/
import Derived.Test.YtjhlmnbkfdkmpaaSSame
namespace Go.Proofs.Ytjhlmnbkfdkmpaa
open Eng
set_option linter.unusedVariables false
set_option linter.unusedSimpArgs false
set_option maxRecDepth 10000
theorem law_FnExactSameDef {x0 : TDef} (w0 : WfTDef x0) {x1 : TDef} (w1 : WfTDef x1) {N : Nat} (hN : 1099511627776 ≤ N) : m_l_FnExactSameDef N x0 x1 = some true := by
  unfold m_l_FnExactSameDef
  obtain ⟨v0, hv0, hs0⟩ := sz_m_l_szDef hN x0 w0 1048576 (by omega) (by omega)
  rw [hv0]; simp only [Option.bind_some]
  by_cases c0 : v0 < 0
  · rw [if_pos (by simpa using c0)]
  rw [if_neg (by simpa using c0)]
  replace hs0 := hs0.resolve_left c0
  have n0 := totTDef_nn x0
  obtain ⟨v1, hv1, hs1⟩ := sz_m_l_szDef hN x1 w1 v0 (by omega) (by omega)
  rw [hv1]; simp only [Option.bind_some]
  by_cases c1 : v1 < 0
  · rw [if_pos (by simpa using c1)]
  rw [if_neg (by simpa using c1)]
  replace hs1 := hs1.resolve_left c1
  have n1 := totTDef_nn x1
  have l0 : LimTDef x0 := LimTDef_of x0 (by omega)
  have l1 : LimTDef x1 := LimTDef_of x1 (by omega)
  have t0 : totTDef x0 ≤ 1048576 := by omega
  have t1 : totTDef x1 ≤ 1048576 := by omega
  obtain ⟨r, hr, hi⟩ := c_SameDef hN x0 x1 t0 t1
  simp only [to_m_l_toDef hN x0 l0, eq_m_l_eqDef hN x0 x0 l0, to_m_l_toDef hN x1 l1, eq_m_l_eqDef hN x1 x1 l1, hr, hi, seq_self, Option.bind_some, decide_true, bne_self_eq_false, Bool.not_true, Bool.not_false, Bool.false_eq_true, if_false, if_true]
namespace fnExactSameDef
theorem law {x0 : TDef} (w0 : WfTDef x0) {x1 : TDef} (w1 : WfTDef x1) : m_l_FnExactSameDef 1099511627776 x0 x1 = some true := law_FnExactSameDef w0 w1 (by omega)
end fnExactSameDef
end Go.Proofs.Ytjhlmnbkfdkmpaa
