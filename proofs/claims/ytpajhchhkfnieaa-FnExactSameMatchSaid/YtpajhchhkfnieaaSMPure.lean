/- The plain law of SameMatch. -/
import Derived.Test.YtpajhchhkfnieaaP1Pur
namespace Go.Proofs.Ytpajhchhkfnieaa
open Eng
set_option linter.unusedVariables false
set_option linter.unusedSimpArgs false

theorem equalInt {N : Nat} (hN : 1048578 ≤ N) (x y : List Int) (hl : x.length ≤ 1048576) : m_sl_Equal_Sint_int N x y = some (decide (x = y)) := by
  unfold m_sl_Equal_Sint_int
  by_cases c : x.length = y.length
  · rw [if_neg (by simp; omega)]
    refine (eqloop (m_sl_Equal_Sint_int_l1 N x y) x y c (by omega) (fun a b => some (decide (a = b))) (fun a _ b _ => rfl) (fun k i => rfl) N 0 (by omega) (by omega)).trans ?_
    simp
  · rw [if_pos (by simp; omega)]
    have : ¬ x = y := fun e => c (by rw [e])
    simp [this]
theorem l11Same {N : Nat} (hN : 1048578 ≤ N) (x y : List Int) (hl : x.length ≤ 1048576) : m_s_l11Same N x y = some (decide (x = y)) := by
  unfold m_s_l11Same
  by_cases c : x.length = y.length
  · rw [if_neg (by simp; omega)]
    refine (eqloop (m_s_l11Same_l1 N x y) x y c (by omega) (fun a b => some (decide (a = b))) (fun a _ b _ => rfl) (fun k i => rfl) N 0 (by omega) (by omega)).trans ?_
    simp
  · rw [if_pos (by simp; omega)]
    have : ¬ x = y := fun e => c (by rw [e])
    simp [this]

def sameM (x y : TMatch) : Bool := decide (x.Rule = y.Rule) && decide (x.Ids = y.Ids)
theorem i_same {N : Nat} (hN : 1048578 ≤ N) (x y : TMatch) (hl : x.Ids.length ≤ 1048576) : m_i_SameMatch N x y = some (sameM x y) := by
  unfold m_i_SameMatch sameM
  rw [equalInt hN _ _ hl]
  by_cases c : x.Rule = y.Rule <;> simp [c]
theorem s_same {N : Nat} (hN : 1048578 ≤ N) (x y : TMatch) (hl : x.Ids.length ≤ 1048576) : m_s_SameMatch N x y = some (sameM x y) := by
  unfold m_s_SameMatch sameM
  rw [l11Same hN _ _ hl]
  by_cases c : x.Rule = y.Rule <;> simp [c]

theorem law_FnExactSameMatch {x0 : TMatch} (w0 : WfTMatch x0) {x1 : TMatch} (w1 : WfTMatch x1) {N : Nat} (hN : 1048578 ≤ N) : m_l_FnExactSameMatch N x0 x1 = some true := by
  unfold m_l_FnExactSameMatch
  obtain ⟨v0, hv0, hs0⟩ := sz_m_l_szMatch hN x0 w0 1048576 (by omega) (by omega)
  rw [hv0]; simp only [Option.bind_some]
  by_cases c0 : v0 < 0
  · rw [if_pos (by simpa using c0)]
  rw [if_neg (by simpa using c0)]
  replace hs0 := hs0.resolve_left c0
  have n0 := totTMatch_nn x0
  obtain ⟨v1, hv1, hs1⟩ := sz_m_l_szMatch hN x1 w1 v0 (by omega) (by omega)
  rw [hv1]; simp only [Option.bind_some]
  by_cases c1 : v1 < 0
  · rw [if_pos (by simpa using c1)]
  rw [if_neg (by simpa using c1)]
  replace hs1 := hs1.resolve_left c1
  have n1 := totTMatch_nn x1
  have l0 := LimTMatch_of x0 (by omega)
  have l1 := LimTMatch_of x1 (by omega)
  simp only [to_m_l_toMatch hN x0 l0, to_m_l_toMatch hN x1 l1, s_same hN x0 x1 l0.1, i_same hN x0 x1 l0.1, eq_m_l_eqMatch hN x0 x0 l0, eq_m_l_eqMatch hN x1 x1 l1, Option.bind_some]
  simp

namespace fnExactSameMatch
theorem law {x0 : TMatch} (w0 : WfTMatch x0) {x1 : TMatch} (w1 : WfTMatch x1) : m_l_FnExactSameMatch 1099511627776 x0 x1 = some true := law_FnExactSameMatch w0 w1 (by omega)
end fnExactSameMatch
end Go.Proofs.Ytpajhchhkfnieaa
