/- Printed by a program of ours: the plain law of FnExactBindsFor out of its core. -/
import Derived.Test.YtjangilipfjcmaaSBindsFor
namespace Go.Proofs.Ytjangilipfjcmaa
open Eng
set_option linter.unusedVariables false
set_option linter.unusedSimpArgs false
set_option maxRecDepth 10000
theorem law_FnExactBindsFor {x0 : TRule} (w0 : WfTRule x0) {x1 : TStore} (w1 : WfTStore x1) {x2 : (List Int)} (w2 : (WfL (WfI .i64)) x2) {N : Nat} (hN : 1099000000000 ≤ N) : m_l_FnExactBindsFor N x0 x1 x2 = some true := by
  unfold m_l_FnExactBindsFor
  by_cases c2 : (x2.length : Int) ≤ 1048576
  case neg => rw [if_pos (decide_eq_true (by omega))]
  rw [if_neg (by simp; omega)]
  obtain ⟨v0, hv0, hs0⟩ := sz_m_l_szRule hN x0 w0 1048576 (by omega) (by omega)
  rw [hv0]; simp only [Option.bind_some]
  by_cases c0 : v0 < 0
  · rw [if_pos (by simpa using c0)]
  rw [if_neg (by simpa using c0)]
  replace hs0 := hs0.resolve_left c0
  have n0 := totTRule_nn x0
  obtain ⟨v1, hv1, hs1⟩ := sz_m_l_szStore hN x1 w1 v0 (by omega) (by omega)
  rw [hv1]; simp only [Option.bind_some]
  by_cases c1 : v1 < 0
  · rw [if_pos (by simpa using c1)]
  rw [if_neg (by simpa using c1)]
  replace hs1 := hs1.resolve_left c1
  have n1 := totTStore_nn x1
  have l0 : LimTRule x0 := LimTRule_of x0 (by omega)
  have l1 : LimTStore x1 := LimTStore_of x1 (by omega)
  have l2 : (x2.length ≤ 4294967296) := by omega
  have t0 : totTRule x0 ≤ 1048576 := by omega
  have t1 : totTStore x1 ≤ 1048576 := by omega
  have t2 : (x2.length : Int) ≤ 1048576 := by omega
  obtain ⟨r, hr, hi, rl0, rt0⟩ := c_BindsFor hN x0 x1 x2 t0 t1 t2
  have mn0 := mcnTRule_nn x0
  have ml0 := mcnTRule_le x0
  obtain ⟨y0_0, y0_1, y0_2, mk0⟩ := mk_m_l_markRule hN x0 l0 (1) (by omega) (by unfold big62; omega)
  have mp0 : decide (1 + mcnTRule x0 < 0) = false := decide_eq_false (by omega)
  have mn1 := mcnTStore_nn x1
  have ml1 := mcnTStore_le x1
  obtain ⟨y1_0, mk1⟩ := mk_m_l_markStore hN x1 l1 (1 + mcnTRule x0) (by omega) (by unfold big62; omega)
  have mp1 : decide (1 + mcnTRule x0 + mcnTStore x1 < 0) = false := decide_eq_false (by omega)
  have mn2 := cntL_nn one_nn x2
  have ml2 := cntL_le0 (p := x2) (cnt := one) (fun y _ => by simp [one])
  obtain ⟨y2_0, mk2, -, -, -⟩ := mk_m_l_markIntS hN x2 l2 (1 + mcnTRule x0 + mcnTStore x1) (by omega) (by unfold big62; omega)
  have mp2 : decide (1 + mcnTRule x0 + mcnTStore x1 + cntL one x2 < 0) = false := decide_eq_false (by omega)
  have rn0 := cntL_nn cntTBind_nn (r.1)
  have rm0 := cntL_le (p := (r.1)) (tot := totTBind) (cnt := cntTBind) (fun y _ => cntTBind_le y)
  obtain ⟨z0_0, rk0, re0, rh0, rl0'⟩ := mk_m_l_markBindS hN (r.1) rl0 (1) (by omega) (by unfold big62; omega)
  have rq0 := hd_m_l_heldBindS hN z0_0 rl0' (1) (by omega) (by rw [re0]; unfold big62; omega) rh0
  rw [re0] at rq0
  have rp0 : decide (1 + cntL cntTBind (r.1) < 0) = false := decide_eq_false (by omega)
  simp only [to_m_l_toRule hN x0 l0, eq_m_l_eqRule hN x0 x0 l0, to_m_l_toStore hN x1 l1, eq_m_l_eqStore hN x1 x1 l1, to_m_l_toIntS hN x2 l2, eq_m_l_eqIntS hN x2 x2 l2, hr, hi, eq_m_l_eqBindS hN  (r.1) (r.1) rl0, mk0, mp0, mk1, mp1, mk2, mp2, rk0, rq0, rp0, seq_self, Option.bind_some, decide_true, bne_self_eq_false, Bool.not_true, Bool.not_false, Bool.false_eq_true, if_false, if_true]
namespace fnExactBindsFor
theorem law {x0 : TRule} (w0 : WfTRule x0) {x1 : TStore} (w1 : WfTStore x1) {x2 : (List Int)} (w2 : (WfL (WfI .i64)) x2) : m_l_FnExactBindsFor 1099511627776 x0 x1 x2 = some true := law_FnExactBindsFor w0 w1 w2 (by omega)
end fnExactBindsFor
end Go.Proofs.Ytjangilipfjcmaa
