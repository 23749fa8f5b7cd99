/- Printed by a program of ours: the plain law of FnExactPickMatch out of its core. -/
import Derived.Test.YtjangilipfjcmaaSPickC
namespace Go.Proofs.Ytjangilipfjcmaa
open Eng
set_option linter.unusedVariables false
set_option linter.unusedSimpArgs false
set_option maxRecDepth 10000
theorem law_FnExactPickMatch {x0 : TDef} (w0 : WfTDef x0) {x1 : (List TMatch)} (w1 : (WfL WfTMatch) x1) {x2 : (List TMatch)} (w2 : (WfL WfTMatch) x2) {N : Nat} (hN : 1099000000000 ≤ N) : m_l_FnExactPickMatch N x0 x1 x2 = some true := by
  unfold m_l_FnExactPickMatch
  obtain ⟨v0, hv0, hs0⟩ := sz_m_l_szDef hN x0 w0 1048576 (by omega) (by omega)
  rw [hv0]; simp only [Option.bind_some]
  by_cases c0 : v0 < 0
  · rw [if_pos (by simpa using c0)]
  rw [if_neg (by simpa using c0)]
  replace hs0 := hs0.resolve_left c0
  have n0 := totTDef_nn x0
  obtain ⟨v1, hv1, hs1⟩ := sz_m_l_szMatchS hN x1 w1 v0 (by omega) (by omega)
  rw [hv1]; simp only [Option.bind_some]
  by_cases c1 : v1 < 0
  · rw [if_pos (by simpa using c1)]
  rw [if_neg (by simpa using c1)]
  replace hs1 := hs1.resolve_left c1
  have nn1 : ∀ y ∈ x1, 0 ≤ totTMatch y := fun y _ => totTMatch_nn y
  have n1 := sum_nonneg _ _ nn1
  obtain ⟨v2, hv2, hs2⟩ := sz_m_l_szMatchS hN x2 w2 v1 (by omega) (by omega)
  rw [hv2]; simp only [Option.bind_some]
  by_cases c2 : v2 < 0
  · rw [if_pos (by simpa using c2)]
  rw [if_neg (by simpa using c2)]
  replace hs2 := hs2.resolve_left c2
  have nn2 : ∀ y ∈ x2, 0 ≤ totTMatch y := fun y _ => totTMatch_nn y
  have n2 := sum_nonneg _ _ nn2
  have l0 : LimTDef x0 := LimTDef_of x0 (by omega)
  have l1 : (x1.length ≤ 4294967296 ∧ ∀ y ∈ x1, LimTMatch y) := ⟨by omega, fun y hy => LimTMatch_of y (by have := sum_mem _ _ nn1 y hy; omega)⟩
  have l2 : (x2.length ≤ 4294967296 ∧ ∀ y ∈ x2, LimTMatch y) := ⟨by omega, fun y hy => LimTMatch_of y (by have := sum_mem _ _ nn2 y hy; omega)⟩
  have t0 : totTDef x0 ≤ 1048576 := by omega
  have t1 : (x1.length : Int) + (x1.map totTMatch).sum ≤ 1048576 := by omega
  have t2 : (x2.length : Int) + (x2.map totTMatch).sum ≤ 1048576 := by omega
  obtain ⟨r, hr, hi, rl0, rt0⟩ := c_PickMatch hN x0 x1 x2 t0 t1 t2
  have mn0 := mcnTDef_nn x0
  have ml0 := mcnTDef_le x0
  obtain ⟨y0_0, mk0⟩ := mk_m_l_markDef hN x0 l0 (1) (by omega) (by unfold big62; omega)
  have mp0 : decide (1 + mcnTDef x0 < 0) = false := decide_eq_false (by omega)
  have mn1 := cntL_nn cntTMatch_nn x1
  have ml1 := cntL_le (p := x1) (tot := totTMatch) (cnt := cntTMatch) (fun y _ => cntTMatch_le y)
  obtain ⟨y1_0, mk1, -, -, -⟩ := mk_m_l_markMatchS hN x1 l1 (1 + mcnTDef x0) (by omega) (by unfold big62; omega)
  have mp1 : decide (1 + mcnTDef x0 + cntL cntTMatch x1 < 0) = false := decide_eq_false (by omega)
  have mn2 := cntL_nn cntTMatch_nn x2
  have ml2 := cntL_le (p := x2) (tot := totTMatch) (cnt := cntTMatch) (fun y _ => cntTMatch_le y)
  obtain ⟨y2_0, mk2, -, -, -⟩ := mk_m_l_markMatchS hN x2 l2 (1 + mcnTDef x0 + cntL cntTMatch x1) (by omega) (by unfold big62; omega)
  have mp2 : decide (1 + mcnTDef x0 + cntL cntTMatch x1 + cntL cntTMatch x2 < 0) = false := decide_eq_false (by omega)
  have rn0 := mcnTMatch_nn (r.1)
  have rm0 := mcnTMatch_le (r.1)
  obtain ⟨z0_0, z0_1, rk0, rq0⟩ := mk_m_l_markMatch hN (r.1) rl0 (1) (by omega) (by unfold big62; omega)
  have rp0 : decide (1 + mcnTMatch (r.1) < 0) = false := decide_eq_false (by omega)
  simp only [to_m_l_toDef hN x0 l0, eq_m_l_eqDef hN x0 x0 l0, to_m_l_toMatchS hN x1 l1, eq_m_l_eqMatchS hN x1 x1 l1, to_m_l_toMatchS hN x2 l2, eq_m_l_eqMatchS hN x2 x2 l2, hr, hi, eq_m_l_eqMatch hN  (r.1) (r.1) rl0, mk0, mp0, mk1, mp1, mk2, mp2, rk0, rq0, rp0, seq_self, Option.bind_some, decide_true, bne_self_eq_false, Bool.not_true, Bool.not_false, Bool.false_eq_true, if_false, if_true]
namespace fnExactPickMatch
theorem law {x0 : TDef} (w0 : WfTDef x0) {x1 : (List TMatch)} (w1 : (WfL WfTMatch) x1) {x2 : (List TMatch)} (w2 : (WfL WfTMatch) x2) : m_l_FnExactPickMatch 1099511627776 x0 x1 x2 = some true := law_FnExactPickMatch w0 w1 w2 (by omega)
end fnExactPickMatch
end Go.Proofs.Ytjangilipfjcmaa
