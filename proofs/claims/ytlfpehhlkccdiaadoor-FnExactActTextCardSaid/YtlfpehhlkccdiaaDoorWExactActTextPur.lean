/- Printed by a program of ours: the plain laws of the sizes, copies, comparisons and marks. -/
import Derived.Test.YtlfpehhlkccdiaaDoorPLib
import Derived.Test.YtlfpehhlkccdiaaDoorWExactActTextMod
namespace Go.Proofs.YtlfpehhlkccdiaaDoor
open Eng
set_option linter.unusedVariables false
set_option linter.unusedSimpArgs false
set_option maxRecDepth 10000
def WfTVal (x : TVal) : Prop := (WfI .i64) x.K ∧ (WfI .i64) x.N ∧ WfS x.S
def totTVal (x : TVal) : Int := ((x.S.size : Int))
theorem totTVal_nn (x : TVal) : 0 ≤ totTVal x := by
  unfold totTVal
  omega
def WfTArg (x : TArg) : Prop := (WfI .i64) x.K ∧ WfS x.S ∧ WfTVal x.V
def totTArg (x : TArg) : Int := ((x.S.size : Int)) + (totTVal x.V)
theorem totTArg_nn (x : TArg) : 0 ≤ totTArg x := by
  unfold totTArg
  have := totTVal_nn x.V
  omega
def WfTExpr (x : TExpr) : Prop := WfS x.Op ∧ WfTArg x.L ∧ WfTArg x.R
def totTExpr (x : TExpr) : Int := ((x.Op.size : Int)) + (totTArg x.L) + (totTArg x.R)
theorem totTExpr_nn (x : TExpr) : 0 ≤ totTExpr x := by
  unfold totTExpr
  have := totTArg_nn x.L
  have := totTArg_nn x.R
  omega
def WfTAct (x : TAct) : Prop := (WfI .i64) x.Kind ∧ WfS x.Name ∧ (WfL WfTExpr) x.Args ∧ (WfI .i64) x.N ∧ WfS x.Undo
def totTAct (x : TAct) : Int := ((x.Name.size : Int)) + ((x.Args.length : Int) + (x.Args.map totTExpr).sum) + ((x.Undo.size : Int))
theorem totTAct_nn (x : TAct) : 0 ≤ totTAct x := by
  unfold totTAct
  have := sum_nonneg totTExpr x.Args (fun y _ => totTExpr_nn y)
  omega
theorem sz_m_l_szVal {N : Nat} (hN : 1099000000000 ≤ N) (x : TVal) (w : WfTVal x) (left : Int) (h0 : 0 ≤ left) (h1 : left ≤ 1048576) : ∃ v, m_l_szVal N x left = some v ∧ Szd v left (totTVal x) := by
  obtain ⟨w0, w1, w2⟩ := w
  unfold m_l_szVal
  unfold totTVal
  have hl2 := w2; unfold WfS maxLen at hl2
  have e2 : IntKind.i64.wrap (left - (x.S.size : Int)) = left - (x.S.size : Int) := wr (by omega) (by omega)
  simp only [e2]
  by_cases c2 : (left - (x.S.size : Int)) < 0
  · rw [if_pos (by simpa using c2)]; exact ⟨-1, rfl, .inl (by omega)⟩
  rw [if_neg (by simpa using c2)]
  exact ⟨_, rfl, .inr ⟨by omega, by omega⟩⟩
theorem sz_m_l_szArg {N : Nat} (hN : 1099000000000 ≤ N) (x : TArg) (w : WfTArg x) (left : Int) (h0 : 0 ≤ left) (h1 : left ≤ 1048576) : ∃ v, m_l_szArg N x left = some v ∧ Szd v left (totTArg x) := by
  obtain ⟨w0, w1, w2⟩ := w
  unfold m_l_szArg
  unfold totTArg
  have := totTVal_nn x.V
  have hl1 := w1; unfold WfS maxLen at hl1
  have e1 : IntKind.i64.wrap (left - (x.S.size : Int)) = left - (x.S.size : Int) := wr (by omega) (by omega)
  simp only [e1]
  by_cases c1 : (left - (x.S.size : Int)) < 0
  · rw [if_pos (by simpa using c1)]; exact ⟨-1, rfl, .inl (by omega)⟩
  rw [if_neg (by simpa using c1)]
  obtain ⟨v2, hv2, hs2⟩ := sz_m_l_szVal hN x.V w2 (left - (x.S.size : Int)) (by omega) (by omega)
  rw [hv2]; simp only [Option.bind_some]
  by_cases c2 : v2 < 0
  · rw [if_pos (by simpa using c2)]; exact ⟨-1, rfl, .inl (by omega)⟩
  rw [if_neg (by simpa using c2)]
  replace hs2 := hs2.resolve_left c2
  exact ⟨_, rfl, .inr ⟨by omega, by omega⟩⟩
theorem sz_m_l_szExpr {N : Nat} (hN : 1099000000000 ≤ N) (x : TExpr) (w : WfTExpr x) (left : Int) (h0 : 0 ≤ left) (h1 : left ≤ 1048576) : ∃ v, m_l_szExpr N x left = some v ∧ Szd v left (totTExpr x) := by
  obtain ⟨w0, w1, w2⟩ := w
  unfold m_l_szExpr
  unfold totTExpr
  have := totTArg_nn x.L
  have := totTArg_nn x.R
  have hl0 := w0; unfold WfS maxLen at hl0
  have e0 : IntKind.i64.wrap (left - (x.Op.size : Int)) = left - (x.Op.size : Int) := wr (by omega) (by omega)
  simp only [e0]
  by_cases c0 : (left - (x.Op.size : Int)) < 0
  · rw [if_pos (by simpa using c0)]; exact ⟨-1, rfl, .inl (by omega)⟩
  rw [if_neg (by simpa using c0)]
  obtain ⟨v1, hv1, hs1⟩ := sz_m_l_szArg hN x.L w1 (left - (x.Op.size : Int)) (by omega) (by omega)
  rw [hv1]; simp only [Option.bind_some]
  by_cases c1 : v1 < 0
  · rw [if_pos (by simpa using c1)]; exact ⟨-1, rfl, .inl (by omega)⟩
  rw [if_neg (by simpa using c1)]
  replace hs1 := hs1.resolve_left c1
  obtain ⟨v2, hv2, hs2⟩ := sz_m_l_szArg hN x.R w2 v1 (by omega) (by omega)
  rw [hv2]; simp only [Option.bind_some]
  by_cases c2 : v2 < 0
  · rw [if_pos (by simpa using c2)]; exact ⟨-1, rfl, .inl (by omega)⟩
  rw [if_neg (by simpa using c2)]
  replace hs2 := hs2.resolve_left c2
  exact ⟨_, rfl, .inr ⟨by omega, by omega⟩⟩
theorem to_m_l_toVal {N : Nat} (hN : 1099000000000 ≤ N) (x : TVal) : m_l_toVal N x = some x := by
  unfold m_l_toVal
  rfl
theorem to_m_l_toArg {N : Nat} (hN : 1099000000000 ≤ N) (x : TArg) : m_l_toArg N x = some x := by
  unfold m_l_toArg
  rw [to_m_l_toVal hN _, Option.bind_some]
theorem to_m_l_toExpr {N : Nat} (hN : 1099000000000 ≤ N) (x : TExpr) : m_l_toExpr N x = some x := by
  unfold m_l_toExpr
  rw [to_m_l_toArg hN _, Option.bind_some, to_m_l_toArg hN _, Option.bind_some]
theorem sz_m_l_szExprS {N : Nat} (hN : 1099000000000 ≤ N) (x : (List TExpr)) (w : (WfL WfTExpr) x) (left : Int) (h0 : 0 ≤ left) (h1 : left ≤ 1048576) : ∃ v, m_l_szExprS N x left = some v ∧ Szd v left ((x.length : Int) + (x.map totTExpr).sum) := by
  have hl := w.1; unfold maxLen at hl
  have e1 : IntKind.i64.wrap (left - (x.length : Int)) = left - (x.length : Int) := wr (by omega) (by omega)
  unfold m_l_szExprS
  simp only [e1]
  by_cases c : left - (x.length : Int) < 0
  · rw [if_pos (by simpa using c)]; exact ⟨-1, rfl, .inl (by omega)⟩
  · rw [if_neg (by simpa using c)]
    obtain ⟨v, hv, hs⟩ := szloop (m_l_szExprS_l1 N x) x (by omega) totTExpr (fun y _ => totTExpr_nn y) (fun y l => m_l_szExpr N y l) (fun y hy l g0 g1 => sz_m_l_szExpr hN y (w.2 y hy) l g0 g1) (fun k l i => rfl) N 0 (left - (x.length : Int)) (by omega) (by omega) (by omega) (by omega)
    refine ⟨v, hv, ?_⟩
    rw [List.drop_zero] at hs
    rcases hs with hs | ⟨hs0, hs⟩
    · exact .inl hs
    · exact .inr ⟨hs0, by omega⟩
theorem sz_m_l_szAct {N : Nat} (hN : 1099000000000 ≤ N) (x : TAct) (w : WfTAct x) (left : Int) (h0 : 0 ≤ left) (h1 : left ≤ 1048576) : ∃ v, m_l_szAct N x left = some v ∧ Szd v left (totTAct x) := by
  obtain ⟨w0, w1, w2, w3, w4⟩ := w
  unfold m_l_szAct
  unfold totTAct
  have := sum_nonneg totTExpr x.Args (fun y _ => totTExpr_nn y)
  have hl1 := w1; unfold WfS maxLen at hl1
  have e1 : IntKind.i64.wrap (left - (x.Name.size : Int)) = left - (x.Name.size : Int) := wr (by omega) (by omega)
  simp only [e1]
  by_cases c1 : (left - (x.Name.size : Int)) < 0
  · rw [if_pos (by simpa using c1)]; exact ⟨-1, rfl, .inl (by omega)⟩
  rw [if_neg (by simpa using c1)]
  obtain ⟨v2, hv2, hs2⟩ := sz_m_l_szExprS hN x.Args w2 (left - (x.Name.size : Int)) (by omega) (by omega)
  rw [hv2]; simp only [Option.bind_some]
  by_cases c2 : v2 < 0
  · rw [if_pos (by simpa using c2)]; exact ⟨-1, rfl, .inl (by omega)⟩
  rw [if_neg (by simpa using c2)]
  replace hs2 := hs2.resolve_left c2
  have hl4 := w4; unfold WfS maxLen at hl4
  have e4 : IntKind.i64.wrap (v2 - (x.Undo.size : Int)) = v2 - (x.Undo.size : Int) := wr (by omega) (by omega)
  simp only [e4]
  by_cases c4 : (v2 - (x.Undo.size : Int)) < 0
  · rw [if_pos (by simpa using c4)]; exact ⟨-1, rfl, .inl (by omega)⟩
  rw [if_neg (by simpa using c4)]
  exact ⟨_, rfl, .inr ⟨by omega, by omega⟩⟩
def LimTAct (x : TAct) : Prop := (x.Args.length ≤ 4294967296)
theorem LimTAct_of (x : TAct) (h : totTAct x ≤ 1048576) : LimTAct x := by
  unfold totTAct at h
  have nn_Args : ∀ y ∈ x.Args, 0 ≤ totTExpr y := fun y _ => totTExpr_nn y
  have := sum_nonneg _ _ nn_Args
  unfold LimTAct; omega
theorem to_m_l_toExprS {N : Nat} (hN : 1099000000000 ≤ N) (x : (List TExpr)) (h : (x.length ≤ 4294967296)) : m_l_toExprS N x = some x := by
  have hl : x.length ≤ 4294967296 := h
  unfold m_l_toExprS
  rw [mk_nat _ (by omega), Option.bind_some]
  refine (toloop (m_l_toExprS_l1 N x) x (by omega) (fun y => m_l_toExpr N y) (fun y hy => to_m_l_toExpr hN y) (fun k s i => rfl) N 0 _ (by simp) (by omega) (by omega)).trans ?_
  simp
theorem to_m_l_toAct {N : Nat} (hN : 1099000000000 ≤ N) (x : TAct) (h : LimTAct x) : m_l_toAct N x = some x := by
  unfold m_l_toAct
  rw [to_m_l_toExprS hN _ (h), Option.bind_some]
theorem eq_m_l_eqVal {N : Nat} (hN : 1099000000000 ≤ N) (x y : TVal) : m_l_eqVal N x y = some (decide (x = y)) := by
  unfold m_l_eqVal
  simp only [seq_eq, Option.bind_some]
  obtain ⟨a0, a1, a2⟩ := x; obtain ⟨b0, b1, b2⟩ := y
  simp only [TVal.mk.injEq]
  by_cases c0 : a0 = b0
  · subst c0
    by_cases c1 : a1 = b1
    · subst c1
      by_cases c2 : a2 = b2
      · subst c2
        simp
      · simp [c2]
    · simp [c1]
  · simp [c0]
theorem eq_m_l_eqArg {N : Nat} (hN : 1099000000000 ≤ N) (x y : TArg) : m_l_eqArg N x y = some (decide (x = y)) := by
  unfold m_l_eqArg
  rw [eq_m_l_eqVal hN _ _]
  simp only [seq_eq, Option.bind_some]
  obtain ⟨a0, a1, a2⟩ := x; obtain ⟨b0, b1, b2⟩ := y
  simp only [TArg.mk.injEq]
  by_cases c0 : a0 = b0
  · subst c0
    by_cases c1 : a1 = b1
    · subst c1
      by_cases c2 : a2 = b2
      · subst c2
        simp
      · simp [c2]
    · simp [c1]
  · simp [c0]
theorem eq_m_l_eqExpr {N : Nat} (hN : 1099000000000 ≤ N) (x y : TExpr) : m_l_eqExpr N x y = some (decide (x = y)) := by
  unfold m_l_eqExpr
  rw [eq_m_l_eqArg hN _ _, eq_m_l_eqArg hN _ _]
  simp only [seq_eq, Option.bind_some]
  obtain ⟨a0, a1, a2⟩ := x; obtain ⟨b0, b1, b2⟩ := y
  simp only [TExpr.mk.injEq]
  by_cases c0 : a0 = b0
  · subst c0
    by_cases c1 : a1 = b1
    · subst c1
      by_cases c2 : a2 = b2
      · subst c2
        simp
      · simp [c2]
    · simp [c1]
  · simp [c0]
theorem eq_m_l_eqExprS {N : Nat} (hN : 1099000000000 ≤ N) (x y : (List TExpr)) (h : (x.length ≤ 4294967296)) : m_l_eqExprS N x y = some (decide (x = y)) := by
  have hl : x.length ≤ 4294967296 := h
  unfold m_l_eqExprS
  by_cases c : x.length = y.length
  · rw [if_neg (by simp; omega)]
    refine (eqloop (m_l_eqExprS_l1 N x y) x y c (by omega) (fun a b => m_l_eqExpr N a b) (fun a ha b hb => eq_m_l_eqExpr hN a b) (fun k i => rfl) N 0 (by omega) (by omega)).trans ?_
    simp
  · rw [if_pos (by simp; omega)]
    have : ¬ x = y := fun e => c (by rw [e])
    simp [this]
theorem eq_m_l_eqAct {N : Nat} (hN : 1099000000000 ≤ N) (x y : TAct) (h : LimTAct x) : m_l_eqAct N x y = some (decide (x = y)) := by
  unfold m_l_eqAct
  rw [eq_m_l_eqExprS hN _ _ (h)]
  simp only [seq_eq, Option.bind_some]
  obtain ⟨a0, a1, a2, a3, a4⟩ := x; obtain ⟨b0, b1, b2, b3, b4⟩ := y
  simp only [TAct.mk.injEq]
  by_cases c0 : a0 = b0
  · subst c0
    by_cases c1 : a1 = b1
    · subst c1
      by_cases c2 : a2 = b2
      · subst c2
        by_cases c3 : a3 = b3
        · subst c3
          by_cases c4 : a4 = b4
          · subst c4
            simp
          · simp [c4]
        · simp [c3]
      · simp [c2]
    · simp [c1]
  · simp [c0]
end Go.Proofs.YtlfpehhlkccdiaaDoor
