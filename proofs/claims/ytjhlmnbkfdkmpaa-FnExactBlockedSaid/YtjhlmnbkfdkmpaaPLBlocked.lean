/- Printed by a program of ours: the plain law of FnExactBlocked out of its core. -/
import Derived.Test.YtjhlmnbkfdkmpaaSBlockedC
namespace Go.Proofs.Ytjhlmnbkfdkmpaa
open Eng
set_option linter.unusedVariables false
set_option linter.unusedSimpArgs false
set_option maxRecDepth 10000
theorem law_FnExactBlocked {x0 : TRule} (w0 : WfTRule x0) {x1 : TStore} (w1 : WfTStore x1) {x2 : (List TBind)} (w2 : (WfL WfTBind) x2) {N : Nat} (hN : 1099511627776 ≤ N) : m_l_FnExactBlocked N x0 x1 x2 = some true := by
  unfold m_l_FnExactBlocked
  obtain ⟨v0, hv0, hs0⟩ := sz_m_l_szRule hN x0 w0 1048576 (by omega) (by omega)
  rw [hv0]; simp only [Option.bind_some]
  by_cases c0 : v0 < 0
  · rw [if_pos (by simpa using c0)]
  rw [if_neg (by simpa using c0)]
  replace hs0 := hs0.resolve_left c0
  have n0 := totTRule_nn x0
  obtain ⟨v1, hv1, hs1⟩ := sz_m_l_szStore hN x1 w1 v0 (by omega) (by omega)
  rw [hv1]; simp only [Option.bind_some]
  by_cases c1 : v1 < 0
  · rw [if_pos (by simpa using c1)]
  rw [if_neg (by simpa using c1)]
  replace hs1 := hs1.resolve_left c1
  have n1 := totTStore_nn x1
  obtain ⟨v2, hv2, hs2⟩ := sz_m_l_szBindS hN x2 w2 v1 (by omega) (by omega)
  rw [hv2]; simp only [Option.bind_some]
  by_cases c2 : v2 < 0
  · rw [if_pos (by simpa using c2)]
  rw [if_neg (by simpa using c2)]
  replace hs2 := hs2.resolve_left c2
  have nn2 : ∀ y ∈ x2, 0 ≤ totTBind y := fun y _ => totTBind_nn y
  have n2 := sum_nonneg _ _ nn2
  have l0 : LimTRule x0 := LimTRule_of x0 (by omega)
  have l1 : LimTStore x1 := LimTStore_of x1 (by omega)
  have l2 : (x2.length ≤ 4294967296) := by omega
  have t0 : totTRule x0 ≤ 1048576 := by omega
  have t1 : totTStore x1 ≤ 1048576 := by omega
  have t2 : (x2.length : Int) + (x2.map totTBind).sum ≤ 1048576 := by omega
  obtain ⟨r, hr, hi⟩ := c_Blocked hN x0 x1 x2 t0 t1 t2
  simp only [to_m_l_toRule hN x0 l0, eq_m_l_eqRule hN x0 x0 l0, to_m_l_toStore hN x1 l1, eq_m_l_eqStore hN x1 x1 l1, to_m_l_toBindS hN x2 l2, eq_m_l_eqBindS hN x2 x2 l2, hr, hi, seq_self, Option.bind_some, decide_true, bne_self_eq_false, Bool.not_true, Bool.not_false, Bool.false_eq_true, if_false, if_true]
namespace fnExactBlocked
theorem law {x0 : TRule} (w0 : WfTRule x0) {x1 : TStore} (w1 : WfTStore x1) {x2 : (List TBind)} (w2 : (WfL WfTBind) x2) : m_l_FnExactBlocked 1099511627776 x0 x1 x2 = some true := law_FnExactBlocked w0 w1 w2 (by omega)
end fnExactBlocked
end Go.Proofs.Ytjhlmnbkfdkmpaa
