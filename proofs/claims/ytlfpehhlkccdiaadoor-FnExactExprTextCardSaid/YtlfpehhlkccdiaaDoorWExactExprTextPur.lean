/- Printed by a program of ours: the plain laws of the sizes, copies, comparisons and marks. -/
import Derived.Test.YtlfpehhlkccdiaaDoorPLib
import Derived.Test.YtlfpehhlkccdiaaDoorWExactExprTextMod
namespace Go.Proofs.YtlfpehhlkccdiaaDoor
open Eng
set_option linter.unusedVariables false
set_option linter.unusedSimpArgs false
set_option maxRecDepth 10000
def WfTVal (x : TVal) : Prop := (WfI .i64) x.K ∧ (WfI .i64) x.N ∧ WfS x.S
def totTVal (x : TVal) : Int := ((x.S.size : Int))
theorem totTVal_nn (x : TVal) : 0 ≤ totTVal x := by
  unfold totTVal
  omega
def WfTArg (x : TArg) : Prop := (WfI .i64) x.K ∧ WfS x.S ∧ WfTVal x.V
def totTArg (x : TArg) : Int := ((x.S.size : Int)) + (totTVal x.V)
theorem totTArg_nn (x : TArg) : 0 ≤ totTArg x := by
  unfold totTArg
  have := totTVal_nn x.V
  omega
def WfTExpr (x : TExpr) : Prop := WfS x.Op ∧ WfTArg x.L ∧ WfTArg x.R
def totTExpr (x : TExpr) : Int := ((x.Op.size : Int)) + (totTArg x.L) + (totTArg x.R)
theorem totTExpr_nn (x : TExpr) : 0 ≤ totTExpr x := by
  unfold totTExpr
  have := totTArg_nn x.L
  have := totTArg_nn x.R
  omega
theorem sz_m_l_szVal {N : Nat} (hN : 1099000000000 ≤ N) (x : TVal) (w : WfTVal x) (left : Int) (h0 : 0 ≤ left) (h1 : left ≤ 1048576) : ∃ v, m_l_szVal N x left = some v ∧ Szd v left (totTVal x) := by
  obtain ⟨w0, w1, w2⟩ := w
  unfold m_l_szVal
  unfold totTVal
  have hl2 := w2; unfold WfS maxLen at hl2
  have e2 : IntKind.i64.wrap (left - (x.S.size : Int)) = left - (x.S.size : Int) := wr (by omega) (by omega)
  simp only [e2]
  by_cases c2 : (left - (x.S.size : Int)) < 0
  · rw [if_pos (by simpa using c2)]; exact ⟨-1, rfl, .inl (by omega)⟩
  rw [if_neg (by simpa using c2)]
  exact ⟨_, rfl, .inr ⟨by omega, by omega⟩⟩
theorem sz_m_l_szArg {N : Nat} (hN : 1099000000000 ≤ N) (x : TArg) (w : WfTArg x) (left : Int) (h0 : 0 ≤ left) (h1 : left ≤ 1048576) : ∃ v, m_l_szArg N x left = some v ∧ Szd v left (totTArg x) := by
  obtain ⟨w0, w1, w2⟩ := w
  unfold m_l_szArg
  unfold totTArg
  have := totTVal_nn x.V
  have hl1 := w1; unfold WfS maxLen at hl1
  have e1 : IntKind.i64.wrap (left - (x.S.size : Int)) = left - (x.S.size : Int) := wr (by omega) (by omega)
  simp only [e1]
  by_cases c1 : (left - (x.S.size : Int)) < 0
  · rw [if_pos (by simpa using c1)]; exact ⟨-1, rfl, .inl (by omega)⟩
  rw [if_neg (by simpa using c1)]
  obtain ⟨v2, hv2, hs2⟩ := sz_m_l_szVal hN x.V w2 (left - (x.S.size : Int)) (by omega) (by omega)
  rw [hv2]; simp only [Option.bind_some]
  by_cases c2 : v2 < 0
  · rw [if_pos (by simpa using c2)]; exact ⟨-1, rfl, .inl (by omega)⟩
  rw [if_neg (by simpa using c2)]
  replace hs2 := hs2.resolve_left c2
  exact ⟨_, rfl, .inr ⟨by omega, by omega⟩⟩
theorem sz_m_l_szExpr {N : Nat} (hN : 1099000000000 ≤ N) (x : TExpr) (w : WfTExpr x) (left : Int) (h0 : 0 ≤ left) (h1 : left ≤ 1048576) : ∃ v, m_l_szExpr N x left = some v ∧ Szd v left (totTExpr x) := by
  obtain ⟨w0, w1, w2⟩ := w
  unfold m_l_szExpr
  unfold totTExpr
  have := totTArg_nn x.L
  have := totTArg_nn x.R
  have hl0 := w0; unfold WfS maxLen at hl0
  have e0 : IntKind.i64.wrap (left - (x.Op.size : Int)) = left - (x.Op.size : Int) := wr (by omega) (by omega)
  simp only [e0]
  by_cases c0 : (left - (x.Op.size : Int)) < 0
  · rw [if_pos (by simpa using c0)]; exact ⟨-1, rfl, .inl (by omega)⟩
  rw [if_neg (by simpa using c0)]
  obtain ⟨v1, hv1, hs1⟩ := sz_m_l_szArg hN x.L w1 (left - (x.Op.size : Int)) (by omega) (by omega)
  rw [hv1]; simp only [Option.bind_some]
  by_cases c1 : v1 < 0
  · rw [if_pos (by simpa using c1)]; exact ⟨-1, rfl, .inl (by omega)⟩
  rw [if_neg (by simpa using c1)]
  replace hs1 := hs1.resolve_left c1
  obtain ⟨v2, hv2, hs2⟩ := sz_m_l_szArg hN x.R w2 v1 (by omega) (by omega)
  rw [hv2]; simp only [Option.bind_some]
  by_cases c2 : v2 < 0
  · rw [if_pos (by simpa using c2)]; exact ⟨-1, rfl, .inl (by omega)⟩
  rw [if_neg (by simpa using c2)]
  replace hs2 := hs2.resolve_left c2
  exact ⟨_, rfl, .inr ⟨by omega, by omega⟩⟩
theorem to_m_l_toVal {N : Nat} (hN : 1099000000000 ≤ N) (x : TVal) : m_l_toVal N x = some x := by
  unfold m_l_toVal
  rfl
theorem to_m_l_toArg {N : Nat} (hN : 1099000000000 ≤ N) (x : TArg) : m_l_toArg N x = some x := by
  unfold m_l_toArg
  rw [to_m_l_toVal hN _, Option.bind_some]
theorem to_m_l_toExpr {N : Nat} (hN : 1099000000000 ≤ N) (x : TExpr) : m_l_toExpr N x = some x := by
  unfold m_l_toExpr
  rw [to_m_l_toArg hN _, Option.bind_some, to_m_l_toArg hN _, Option.bind_some]
end Go.Proofs.YtlfpehhlkccdiaaDoor
