/- Printed by a program of ours: the plain law of FnExactUrgent out of its core. -/
import Derived.Test.YtjhlmnbkfdkmpaaSUrgent
namespace Go.Proofs.Ytjhlmnbkfdkmpaa
open Eng
set_option linter.unusedVariables false
set_option linter.unusedSimpArgs false
set_option maxRecDepth 10000
theorem law_FnExactUrgent {x0 : TDef} (w0 : WfTDef x0) {x1 : TMatch} (w1 : WfTMatch x1) {x2 : TMatch} (w2 : WfTMatch x2) {N : Nat} (hN : 1099511627776 ≤ N) : m_l_FnExactUrgent N x0 x1 x2 = some true := by
  unfold m_l_FnExactUrgent
  obtain ⟨v0, hv0, hs0⟩ := sz_m_l_szDef hN x0 w0 1048576 (by omega) (by omega)
  rw [hv0]; simp only [Option.bind_some]
  by_cases c0 : v0 < 0
  · rw [if_pos (by simpa using c0)]
  rw [if_neg (by simpa using c0)]
  replace hs0 := hs0.resolve_left c0
  have n0 := totTDef_nn x0
  obtain ⟨v1, hv1, hs1⟩ := sz_m_l_szMatch hN x1 w1 v0 (by omega) (by omega)
  rw [hv1]; simp only [Option.bind_some]
  by_cases c1 : v1 < 0
  · rw [if_pos (by simpa using c1)]
  rw [if_neg (by simpa using c1)]
  replace hs1 := hs1.resolve_left c1
  have n1 := totTMatch_nn x1
  obtain ⟨v2, hv2, hs2⟩ := sz_m_l_szMatch hN x2 w2 v1 (by omega) (by omega)
  rw [hv2]; simp only [Option.bind_some]
  by_cases c2 : v2 < 0
  · rw [if_pos (by simpa using c2)]
  rw [if_neg (by simpa using c2)]
  replace hs2 := hs2.resolve_left c2
  have n2 := totTMatch_nn x2
  have l0 : LimTDef x0 := LimTDef_of x0 (by omega)
  have l1 : LimTMatch x1 := LimTMatch_of x1 (by omega)
  have l2 : LimTMatch x2 := LimTMatch_of x2 (by omega)
  have t0 : totTDef x0 ≤ 1048576 := by omega
  have t1 : totTMatch x1 ≤ 1048576 := by omega
  have t2 : totTMatch x2 ≤ 1048576 := by omega
  obtain ⟨r, hr, hi⟩ := c_Urgent hN x0 x1 x2 t0 t1 t2
  simp only [to_m_l_toDef hN x0 l0, eq_m_l_eqDef hN x0 x0 l0, to_m_l_toMatch hN x1 l1, eq_m_l_eqMatch hN x1 x1 l1, to_m_l_toMatch hN x2 l2, eq_m_l_eqMatch hN x2 x2 l2, hr, hi, seq_self, Option.bind_some, decide_true, bne_self_eq_false, Bool.not_true, Bool.not_false, Bool.false_eq_true, if_false, if_true]
namespace fnExactUrgent
theorem law {x0 : TDef} (w0 : WfTDef x0) {x1 : TMatch} (w1 : WfTMatch x1) {x2 : TMatch} (w2 : WfTMatch x2) : m_l_FnExactUrgent 1099511627776 x0 x1 x2 = some true := law_FnExactUrgent w0 w1 w2 (by omega)
end fnExactUrgent
end Go.Proofs.Ytjhlmnbkfdkmpaa
