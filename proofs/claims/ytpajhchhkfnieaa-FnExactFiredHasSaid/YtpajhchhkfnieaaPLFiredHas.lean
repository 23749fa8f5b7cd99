/- Printed by a program of ours: the plain law of FnExactFiredHas out of its core. -/
import Derived.Test.YtpajhchhkfnieaaSMC
namespace Go.Proofs.Ytpajhchhkfnieaa
open Eng
set_option linter.unusedVariables false
set_option linter.unusedSimpArgs false
theorem law_FnExactFiredHas {x0 : (List TMatch)} (w0 : (WfL WfTMatch) x0) {x1 : TMatch} (w1 : WfTMatch x1) {N : Nat} (hN : 1048578 ≤ N) : m_l_FnExactFiredHas N x0 x1 = some true := by
  unfold m_l_FnExactFiredHas
  obtain ⟨v0, hv0, hs0⟩ := sz_m_l_szMatchS hN x0 w0 1048576 (by omega) (by omega)
  rw [hv0]; simp only [Option.bind_some]
  by_cases c0 : v0 < 0
  · rw [if_pos (by simpa using c0)]
  rw [if_neg (by simpa using c0)]
  replace hs0 := hs0.resolve_left c0
  have nn0 : ∀ y ∈ x0, 0 ≤ totTMatch y := fun y _ => totTMatch_nn y
  have n0 := sum_nonneg _ _ nn0
  obtain ⟨v1, hv1, hs1⟩ := sz_m_l_szMatch hN x1 w1 v0 (by omega) (by omega)
  rw [hv1]; simp only [Option.bind_some]
  by_cases c1 : v1 < 0
  · rw [if_pos (by simpa using c1)]
  rw [if_neg (by simpa using c1)]
  replace hs1 := hs1.resolve_left c1
  have n1 := totTMatch_nn x1
  have l0 : (x0.length ≤ 1048576 ∧ ∀ y ∈ x0, LimTMatch y) := ⟨by omega, fun y hy => LimTMatch_of y (by have := sum_mem _ _ nn0 y hy; omega)⟩
  have l1 : LimTMatch x1 := LimTMatch_of x1 (by omega)
  have t0 : (x0.length : Int) + (x0.map totTMatch).sum ≤ 1048576 := by omega
  have t1 : totTMatch x1 ≤ 1048576 := by omega
  obtain ⟨r, hr, hi⟩ := c_FiredHas hN x0 x1 t0 t1
  simp only [to_m_l_toMatchS hN x0 l0, eq_m_l_eqMatchS hN x0 x0 l0, to_m_l_toMatch hN x1 l1, eq_m_l_eqMatch hN x1 x1 l1, hr, hi, Option.bind_some]
  simp
namespace fnExactFiredHas
theorem law {x0 : (List TMatch)} (w0 : (WfL WfTMatch) x0) {x1 : TMatch} (w1 : WfTMatch x1) : m_l_FnExactFiredHas 1099511627776 x0 x1 = some true := law_FnExactFiredHas w0 w1 (by omega)
end fnExactFiredHas
end Go.Proofs.Ytpajhchhkfnieaa
