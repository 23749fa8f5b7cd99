/- Printed by a program of ours: the plain laws of the sizes, copies, comparisons and marks. -/
import Derived.Test.YtlfpehhlkccdiaaGreatDoorPLib
import Derived.Test.YtlfpehhlkccdiaaGreatDoorWExactDefTextMod
namespace Go.Proofs.YtlfpehhlkccdiaaGreatDoor
open Eng
set_option linter.unusedVariables false
set_option linter.unusedSimpArgs false
set_option maxRecDepth 10000
def WfTVal (x : TVal) : Prop := (WfI .i64) x.K ∧ (WfI .i64) x.N ∧ WfS x.S
def totTVal (x : TVal) : Int := ((x.S.size : Int))
theorem totTVal_nn (x : TVal) : 0 ≤ totTVal x := by
  unfold totTVal
  omega
def WfTArg (x : TArg) : Prop := (WfI .i64) x.K ∧ WfS x.S ∧ WfTVal x.V
def totTArg (x : TArg) : Int := ((x.S.size : Int)) + (totTVal x.V)
theorem totTArg_nn (x : TArg) : 0 ≤ totTArg x := by
  unfold totTArg
  have := totTVal_nn x.V
  omega
def WfTPat (x : TPat) : Prop := WfS x.Kind ∧ (WfL WfTArg) x.Args ∧ WfB x.Not
def totTPat (x : TPat) : Int := ((x.Kind.size : Int)) + ((x.Args.length : Int) + (x.Args.map totTArg).sum)
theorem totTPat_nn (x : TPat) : 0 ≤ totTPat x := by
  unfold totTPat
  have := sum_nonneg totTArg x.Args (fun y _ => totTArg_nn y)
  omega
def WfTCond (x : TCond) : Prop := (WfI .i64) x.Op ∧ WfTArg x.L ∧ WfTArg x.R
def totTCond (x : TCond) : Int := (totTArg x.L) + (totTArg x.R)
theorem totTCond_nn (x : TCond) : 0 ≤ totTCond x := by
  unfold totTCond
  have := totTArg_nn x.L
  have := totTArg_nn x.R
  omega
def WfTExpr (x : TExpr) : Prop := WfS x.Op ∧ WfTArg x.L ∧ WfTArg x.R
def totTExpr (x : TExpr) : Int := ((x.Op.size : Int)) + (totTArg x.L) + (totTArg x.R)
theorem totTExpr_nn (x : TExpr) : 0 ≤ totTExpr x := by
  unfold totTExpr
  have := totTArg_nn x.L
  have := totTArg_nn x.R
  omega
def WfTAct (x : TAct) : Prop := (WfI .i64) x.Kind ∧ WfS x.Name ∧ (WfL WfTExpr) x.Args ∧ (WfI .i64) x.N ∧ WfS x.Undo
def totTAct (x : TAct) : Int := ((x.Name.size : Int)) + ((x.Args.length : Int) + (x.Args.map totTExpr).sum) + ((x.Undo.size : Int))
theorem totTAct_nn (x : TAct) : 0 ≤ totTAct x := by
  unfold totTAct
  have := sum_nonneg totTExpr x.Args (fun y _ => totTExpr_nn y)
  omega
def WfTRule (x : TRule) : Prop := WfS x.Name ∧ (WfI .i64) x.Sal ∧ (WfL WfTPat) x.Pats ∧ (WfL WfTCond) x.Conds ∧ (WfL WfTAct) x.Acts
def totTRule (x : TRule) : Int := ((x.Name.size : Int)) + ((x.Pats.length : Int) + (x.Pats.map totTPat).sum) + ((x.Conds.length : Int) + (x.Conds.map totTCond).sum) + ((x.Acts.length : Int) + (x.Acts.map totTAct).sum)
theorem totTRule_nn (x : TRule) : 0 ≤ totTRule x := by
  unfold totTRule
  have := sum_nonneg totTPat x.Pats (fun y _ => totTPat_nn y)
  have := sum_nonneg totTCond x.Conds (fun y _ => totTCond_nn y)
  have := sum_nonneg totTAct x.Acts (fun y _ => totTAct_nn y)
  omega
def WfTDef (x : TDef) : Prop := WfS x.Name ∧ (WfL WfTRule) x.Rules
def totTDef (x : TDef) : Int := ((x.Name.size : Int)) + ((x.Rules.length : Int) + (x.Rules.map totTRule).sum)
theorem totTDef_nn (x : TDef) : 0 ≤ totTDef x := by
  unfold totTDef
  have := sum_nonneg totTRule x.Rules (fun y _ => totTRule_nn y)
  omega
theorem sz_m_l_szVal {N : Nat} (hN : 1099000000000 ≤ N) (x : TVal) (w : WfTVal x) (left : Int) (h0 : 0 ≤ left) (h1 : left ≤ 1048576) : ∃ v, m_l_szVal N x left = some v ∧ Szd v left (totTVal x) := by
  obtain ⟨w0, w1, w2⟩ := w
  unfold m_l_szVal
  unfold totTVal
  have hl2 := w2; unfold WfS maxLen at hl2
  have e2 : IntKind.i64.wrap (left - (x.S.size : Int)) = left - (x.S.size : Int) := wr (by omega) (by omega)
  simp only [e2]
  by_cases c2 : (left - (x.S.size : Int)) < 0
  · rw [if_pos (by simpa using c2)]; exact ⟨-1, rfl, .inl (by omega)⟩
  rw [if_neg (by simpa using c2)]
  exact ⟨_, rfl, .inr ⟨by omega, by omega⟩⟩
theorem sz_m_l_szArg {N : Nat} (hN : 1099000000000 ≤ N) (x : TArg) (w : WfTArg x) (left : Int) (h0 : 0 ≤ left) (h1 : left ≤ 1048576) : ∃ v, m_l_szArg N x left = some v ∧ Szd v left (totTArg x) := by
  obtain ⟨w0, w1, w2⟩ := w
  unfold m_l_szArg
  unfold totTArg
  have := totTVal_nn x.V
  have hl1 := w1; unfold WfS maxLen at hl1
  have e1 : IntKind.i64.wrap (left - (x.S.size : Int)) = left - (x.S.size : Int) := wr (by omega) (by omega)
  simp only [e1]
  by_cases c1 : (left - (x.S.size : Int)) < 0
  · rw [if_pos (by simpa using c1)]; exact ⟨-1, rfl, .inl (by omega)⟩
  rw [if_neg (by simpa using c1)]
  obtain ⟨v2, hv2, hs2⟩ := sz_m_l_szVal hN x.V w2 (left - (x.S.size : Int)) (by omega) (by omega)
  rw [hv2]; simp only [Option.bind_some]
  by_cases c2 : v2 < 0
  · rw [if_pos (by simpa using c2)]; exact ⟨-1, rfl, .inl (by omega)⟩
  rw [if_neg (by simpa using c2)]
  replace hs2 := hs2.resolve_left c2
  exact ⟨_, rfl, .inr ⟨by omega, by omega⟩⟩
theorem sz_m_l_szArgS {N : Nat} (hN : 1099000000000 ≤ N) (x : (List TArg)) (w : (WfL WfTArg) x) (left : Int) (h0 : 0 ≤ left) (h1 : left ≤ 1048576) : ∃ v, m_l_szArgS N x left = some v ∧ Szd v left ((x.length : Int) + (x.map totTArg).sum) := by
  have hl := w.1; unfold maxLen at hl
  have e1 : IntKind.i64.wrap (left - (x.length : Int)) = left - (x.length : Int) := wr (by omega) (by omega)
  unfold m_l_szArgS
  simp only [e1]
  by_cases c : left - (x.length : Int) < 0
  · rw [if_pos (by simpa using c)]; exact ⟨-1, rfl, .inl (by omega)⟩
  · rw [if_neg (by simpa using c)]
    obtain ⟨v, hv, hs⟩ := szloop (m_l_szArgS_l1 N x) x (by omega) totTArg (fun y _ => totTArg_nn y) (fun y l => m_l_szArg N y l) (fun y hy l g0 g1 => sz_m_l_szArg hN y (w.2 y hy) l g0 g1) (fun k l i => rfl) N 0 (left - (x.length : Int)) (by omega) (by omega) (by omega) (by omega)
    refine ⟨v, hv, ?_⟩
    rw [List.drop_zero] at hs
    rcases hs with hs | ⟨hs0, hs⟩
    · exact .inl hs
    · exact .inr ⟨hs0, by omega⟩
theorem sz_m_l_szPat {N : Nat} (hN : 1099000000000 ≤ N) (x : TPat) (w : WfTPat x) (left : Int) (h0 : 0 ≤ left) (h1 : left ≤ 1048576) : ∃ v, m_l_szPat N x left = some v ∧ Szd v left (totTPat x) := by
  obtain ⟨w0, w1, w2⟩ := w
  unfold m_l_szPat
  unfold totTPat
  have := sum_nonneg totTArg x.Args (fun y _ => totTArg_nn y)
  have hl0 := w0; unfold WfS maxLen at hl0
  have e0 : IntKind.i64.wrap (left - (x.Kind.size : Int)) = left - (x.Kind.size : Int) := wr (by omega) (by omega)
  simp only [e0]
  by_cases c0 : (left - (x.Kind.size : Int)) < 0
  · rw [if_pos (by simpa using c0)]; exact ⟨-1, rfl, .inl (by omega)⟩
  rw [if_neg (by simpa using c0)]
  obtain ⟨v1, hv1, hs1⟩ := sz_m_l_szArgS hN x.Args w1 (left - (x.Kind.size : Int)) (by omega) (by omega)
  rw [hv1]; simp only [Option.bind_some]
  by_cases c1 : v1 < 0
  · rw [if_pos (by simpa using c1)]; exact ⟨-1, rfl, .inl (by omega)⟩
  rw [if_neg (by simpa using c1)]
  replace hs1 := hs1.resolve_left c1
  exact ⟨_, rfl, .inr ⟨by omega, by omega⟩⟩
theorem sz_m_l_szPatS {N : Nat} (hN : 1099000000000 ≤ N) (x : (List TPat)) (w : (WfL WfTPat) x) (left : Int) (h0 : 0 ≤ left) (h1 : left ≤ 1048576) : ∃ v, m_l_szPatS N x left = some v ∧ Szd v left ((x.length : Int) + (x.map totTPat).sum) := by
  have hl := w.1; unfold maxLen at hl
  have e1 : IntKind.i64.wrap (left - (x.length : Int)) = left - (x.length : Int) := wr (by omega) (by omega)
  unfold m_l_szPatS
  simp only [e1]
  by_cases c : left - (x.length : Int) < 0
  · rw [if_pos (by simpa using c)]; exact ⟨-1, rfl, .inl (by omega)⟩
  · rw [if_neg (by simpa using c)]
    obtain ⟨v, hv, hs⟩ := szloop (m_l_szPatS_l1 N x) x (by omega) totTPat (fun y _ => totTPat_nn y) (fun y l => m_l_szPat N y l) (fun y hy l g0 g1 => sz_m_l_szPat hN y (w.2 y hy) l g0 g1) (fun k l i => rfl) N 0 (left - (x.length : Int)) (by omega) (by omega) (by omega) (by omega)
    refine ⟨v, hv, ?_⟩
    rw [List.drop_zero] at hs
    rcases hs with hs | ⟨hs0, hs⟩
    · exact .inl hs
    · exact .inr ⟨hs0, by omega⟩
theorem sz_m_l_szCond {N : Nat} (hN : 1099000000000 ≤ N) (x : TCond) (w : WfTCond x) (left : Int) (h0 : 0 ≤ left) (h1 : left ≤ 1048576) : ∃ v, m_l_szCond N x left = some v ∧ Szd v left (totTCond x) := by
  obtain ⟨w0, w1, w2⟩ := w
  unfold m_l_szCond
  unfold totTCond
  have := totTArg_nn x.L
  have := totTArg_nn x.R
  obtain ⟨v1, hv1, hs1⟩ := sz_m_l_szArg hN x.L w1 left (by omega) (by omega)
  rw [hv1]; simp only [Option.bind_some]
  by_cases c1 : v1 < 0
  · rw [if_pos (by simpa using c1)]; exact ⟨-1, rfl, .inl (by omega)⟩
  rw [if_neg (by simpa using c1)]
  replace hs1 := hs1.resolve_left c1
  obtain ⟨v2, hv2, hs2⟩ := sz_m_l_szArg hN x.R w2 v1 (by omega) (by omega)
  rw [hv2]; simp only [Option.bind_some]
  by_cases c2 : v2 < 0
  · rw [if_pos (by simpa using c2)]; exact ⟨-1, rfl, .inl (by omega)⟩
  rw [if_neg (by simpa using c2)]
  replace hs2 := hs2.resolve_left c2
  exact ⟨_, rfl, .inr ⟨by omega, by omega⟩⟩
theorem sz_m_l_szCondS {N : Nat} (hN : 1099000000000 ≤ N) (x : (List TCond)) (w : (WfL WfTCond) x) (left : Int) (h0 : 0 ≤ left) (h1 : left ≤ 1048576) : ∃ v, m_l_szCondS N x left = some v ∧ Szd v left ((x.length : Int) + (x.map totTCond).sum) := by
  have hl := w.1; unfold maxLen at hl
  have e1 : IntKind.i64.wrap (left - (x.length : Int)) = left - (x.length : Int) := wr (by omega) (by omega)
  unfold m_l_szCondS
  simp only [e1]
  by_cases c : left - (x.length : Int) < 0
  · rw [if_pos (by simpa using c)]; exact ⟨-1, rfl, .inl (by omega)⟩
  · rw [if_neg (by simpa using c)]
    obtain ⟨v, hv, hs⟩ := szloop (m_l_szCondS_l1 N x) x (by omega) totTCond (fun y _ => totTCond_nn y) (fun y l => m_l_szCond N y l) (fun y hy l g0 g1 => sz_m_l_szCond hN y (w.2 y hy) l g0 g1) (fun k l i => rfl) N 0 (left - (x.length : Int)) (by omega) (by omega) (by omega) (by omega)
    refine ⟨v, hv, ?_⟩
    rw [List.drop_zero] at hs
    rcases hs with hs | ⟨hs0, hs⟩
    · exact .inl hs
    · exact .inr ⟨hs0, by omega⟩
theorem sz_m_l_szExpr {N : Nat} (hN : 1099000000000 ≤ N) (x : TExpr) (w : WfTExpr x) (left : Int) (h0 : 0 ≤ left) (h1 : left ≤ 1048576) : ∃ v, m_l_szExpr N x left = some v ∧ Szd v left (totTExpr x) := by
  obtain ⟨w0, w1, w2⟩ := w
  unfold m_l_szExpr
  unfold totTExpr
  have := totTArg_nn x.L
  have := totTArg_nn x.R
  have hl0 := w0; unfold WfS maxLen at hl0
  have e0 : IntKind.i64.wrap (left - (x.Op.size : Int)) = left - (x.Op.size : Int) := wr (by omega) (by omega)
  simp only [e0]
  by_cases c0 : (left - (x.Op.size : Int)) < 0
  · rw [if_pos (by simpa using c0)]; exact ⟨-1, rfl, .inl (by omega)⟩
  rw [if_neg (by simpa using c0)]
  obtain ⟨v1, hv1, hs1⟩ := sz_m_l_szArg hN x.L w1 (left - (x.Op.size : Int)) (by omega) (by omega)
  rw [hv1]; simp only [Option.bind_some]
  by_cases c1 : v1 < 0
  · rw [if_pos (by simpa using c1)]; exact ⟨-1, rfl, .inl (by omega)⟩
  rw [if_neg (by simpa using c1)]
  replace hs1 := hs1.resolve_left c1
  obtain ⟨v2, hv2, hs2⟩ := sz_m_l_szArg hN x.R w2 v1 (by omega) (by omega)
  rw [hv2]; simp only [Option.bind_some]
  by_cases c2 : v2 < 0
  · rw [if_pos (by simpa using c2)]; exact ⟨-1, rfl, .inl (by omega)⟩
  rw [if_neg (by simpa using c2)]
  replace hs2 := hs2.resolve_left c2
  exact ⟨_, rfl, .inr ⟨by omega, by omega⟩⟩
theorem sz_m_l_szExprS {N : Nat} (hN : 1099000000000 ≤ N) (x : (List TExpr)) (w : (WfL WfTExpr) x) (left : Int) (h0 : 0 ≤ left) (h1 : left ≤ 1048576) : ∃ v, m_l_szExprS N x left = some v ∧ Szd v left ((x.length : Int) + (x.map totTExpr).sum) := by
  have hl := w.1; unfold maxLen at hl
  have e1 : IntKind.i64.wrap (left - (x.length : Int)) = left - (x.length : Int) := wr (by omega) (by omega)
  unfold m_l_szExprS
  simp only [e1]
  by_cases c : left - (x.length : Int) < 0
  · rw [if_pos (by simpa using c)]; exact ⟨-1, rfl, .inl (by omega)⟩
  · rw [if_neg (by simpa using c)]
    obtain ⟨v, hv, hs⟩ := szloop (m_l_szExprS_l1 N x) x (by omega) totTExpr (fun y _ => totTExpr_nn y) (fun y l => m_l_szExpr N y l) (fun y hy l g0 g1 => sz_m_l_szExpr hN y (w.2 y hy) l g0 g1) (fun k l i => rfl) N 0 (left - (x.length : Int)) (by omega) (by omega) (by omega) (by omega)
    refine ⟨v, hv, ?_⟩
    rw [List.drop_zero] at hs
    rcases hs with hs | ⟨hs0, hs⟩
    · exact .inl hs
    · exact .inr ⟨hs0, by omega⟩
theorem sz_m_l_szAct {N : Nat} (hN : 1099000000000 ≤ N) (x : TAct) (w : WfTAct x) (left : Int) (h0 : 0 ≤ left) (h1 : left ≤ 1048576) : ∃ v, m_l_szAct N x left = some v ∧ Szd v left (totTAct x) := by
  obtain ⟨w0, w1, w2, w3, w4⟩ := w
  unfold m_l_szAct
  unfold totTAct
  have := sum_nonneg totTExpr x.Args (fun y _ => totTExpr_nn y)
  have hl1 := w1; unfold WfS maxLen at hl1
  have e1 : IntKind.i64.wrap (left - (x.Name.size : Int)) = left - (x.Name.size : Int) := wr (by omega) (by omega)
  simp only [e1]
  by_cases c1 : (left - (x.Name.size : Int)) < 0
  · rw [if_pos (by simpa using c1)]; exact ⟨-1, rfl, .inl (by omega)⟩
  rw [if_neg (by simpa using c1)]
  obtain ⟨v2, hv2, hs2⟩ := sz_m_l_szExprS hN x.Args w2 (left - (x.Name.size : Int)) (by omega) (by omega)
  rw [hv2]; simp only [Option.bind_some]
  by_cases c2 : v2 < 0
  · rw [if_pos (by simpa using c2)]; exact ⟨-1, rfl, .inl (by omega)⟩
  rw [if_neg (by simpa using c2)]
  replace hs2 := hs2.resolve_left c2
  have hl4 := w4; unfold WfS maxLen at hl4
  have e4 : IntKind.i64.wrap (v2 - (x.Undo.size : Int)) = v2 - (x.Undo.size : Int) := wr (by omega) (by omega)
  simp only [e4]
  by_cases c4 : (v2 - (x.Undo.size : Int)) < 0
  · rw [if_pos (by simpa using c4)]; exact ⟨-1, rfl, .inl (by omega)⟩
  rw [if_neg (by simpa using c4)]
  exact ⟨_, rfl, .inr ⟨by omega, by omega⟩⟩
theorem sz_m_l_szActS {N : Nat} (hN : 1099000000000 ≤ N) (x : (List TAct)) (w : (WfL WfTAct) x) (left : Int) (h0 : 0 ≤ left) (h1 : left ≤ 1048576) : ∃ v, m_l_szActS N x left = some v ∧ Szd v left ((x.length : Int) + (x.map totTAct).sum) := by
  have hl := w.1; unfold maxLen at hl
  have e1 : IntKind.i64.wrap (left - (x.length : Int)) = left - (x.length : Int) := wr (by omega) (by omega)
  unfold m_l_szActS
  simp only [e1]
  by_cases c : left - (x.length : Int) < 0
  · rw [if_pos (by simpa using c)]; exact ⟨-1, rfl, .inl (by omega)⟩
  · rw [if_neg (by simpa using c)]
    obtain ⟨v, hv, hs⟩ := szloop (m_l_szActS_l1 N x) x (by omega) totTAct (fun y _ => totTAct_nn y) (fun y l => m_l_szAct N y l) (fun y hy l g0 g1 => sz_m_l_szAct hN y (w.2 y hy) l g0 g1) (fun k l i => rfl) N 0 (left - (x.length : Int)) (by omega) (by omega) (by omega) (by omega)
    refine ⟨v, hv, ?_⟩
    rw [List.drop_zero] at hs
    rcases hs with hs | ⟨hs0, hs⟩
    · exact .inl hs
    · exact .inr ⟨hs0, by omega⟩
theorem sz_m_l_szRule {N : Nat} (hN : 1099000000000 ≤ N) (x : TRule) (w : WfTRule x) (left : Int) (h0 : 0 ≤ left) (h1 : left ≤ 1048576) : ∃ v, m_l_szRule N x left = some v ∧ Szd v left (totTRule x) := by
  obtain ⟨w0, w1, w2, w3, w4⟩ := w
  unfold m_l_szRule
  unfold totTRule
  have := sum_nonneg totTPat x.Pats (fun y _ => totTPat_nn y)
  have := sum_nonneg totTCond x.Conds (fun y _ => totTCond_nn y)
  have := sum_nonneg totTAct x.Acts (fun y _ => totTAct_nn y)
  have hl0 := w0; unfold WfS maxLen at hl0
  have e0 : IntKind.i64.wrap (left - (x.Name.size : Int)) = left - (x.Name.size : Int) := wr (by omega) (by omega)
  simp only [e0]
  by_cases c0 : (left - (x.Name.size : Int)) < 0
  · rw [if_pos (by simpa using c0)]; exact ⟨-1, rfl, .inl (by omega)⟩
  rw [if_neg (by simpa using c0)]
  obtain ⟨v2, hv2, hs2⟩ := sz_m_l_szPatS hN x.Pats w2 (left - (x.Name.size : Int)) (by omega) (by omega)
  rw [hv2]; simp only [Option.bind_some]
  by_cases c2 : v2 < 0
  · rw [if_pos (by simpa using c2)]; exact ⟨-1, rfl, .inl (by omega)⟩
  rw [if_neg (by simpa using c2)]
  replace hs2 := hs2.resolve_left c2
  obtain ⟨v3, hv3, hs3⟩ := sz_m_l_szCondS hN x.Conds w3 v2 (by omega) (by omega)
  rw [hv3]; simp only [Option.bind_some]
  by_cases c3 : v3 < 0
  · rw [if_pos (by simpa using c3)]; exact ⟨-1, rfl, .inl (by omega)⟩
  rw [if_neg (by simpa using c3)]
  replace hs3 := hs3.resolve_left c3
  obtain ⟨v4, hv4, hs4⟩ := sz_m_l_szActS hN x.Acts w4 v3 (by omega) (by omega)
  rw [hv4]; simp only [Option.bind_some]
  by_cases c4 : v4 < 0
  · rw [if_pos (by simpa using c4)]; exact ⟨-1, rfl, .inl (by omega)⟩
  rw [if_neg (by simpa using c4)]
  replace hs4 := hs4.resolve_left c4
  exact ⟨_, rfl, .inr ⟨by omega, by omega⟩⟩
def LimTPat (x : TPat) : Prop := (x.Args.length ≤ 4294967296)
theorem LimTPat_of (x : TPat) (h : totTPat x ≤ 1048576) : LimTPat x := by
  unfold totTPat at h
  have nn_Args : ∀ y ∈ x.Args, 0 ≤ totTArg y := fun y _ => totTArg_nn y
  have := sum_nonneg _ _ nn_Args
  unfold LimTPat; omega
def LimTAct (x : TAct) : Prop := (x.Args.length ≤ 4294967296)
theorem LimTAct_of (x : TAct) (h : totTAct x ≤ 1048576) : LimTAct x := by
  unfold totTAct at h
  have nn_Args : ∀ y ∈ x.Args, 0 ≤ totTExpr y := fun y _ => totTExpr_nn y
  have := sum_nonneg _ _ nn_Args
  unfold LimTAct; omega
def LimTRule (x : TRule) : Prop := (x.Pats.length ≤ 4294967296 ∧ ∀ y ∈ x.Pats, LimTPat y) ∧ (x.Conds.length ≤ 4294967296) ∧ (x.Acts.length ≤ 4294967296 ∧ ∀ y ∈ x.Acts, LimTAct y)
theorem LimTRule_of (x : TRule) (h : totTRule x ≤ 1048576) : LimTRule x := by
  unfold totTRule at h
  have nn_Pats : ∀ y ∈ x.Pats, 0 ≤ totTPat y := fun y _ => totTPat_nn y
  have := sum_nonneg _ _ nn_Pats
  have nn_Conds : ∀ y ∈ x.Conds, 0 ≤ totTCond y := fun y _ => totTCond_nn y
  have := sum_nonneg _ _ nn_Conds
  have nn_Acts : ∀ y ∈ x.Acts, 0 ≤ totTAct y := fun y _ => totTAct_nn y
  have := sum_nonneg _ _ nn_Acts
  exact ⟨⟨by omega, fun y hy => LimTPat_of y (by have := sum_mem _ _ nn_Pats y hy; omega)⟩, by omega, ⟨by omega, fun y hy => LimTAct_of y (by have := sum_mem _ _ nn_Acts y hy; omega)⟩⟩
theorem to_m_l_toVal {N : Nat} (hN : 1099000000000 ≤ N) (x : TVal) : m_l_toVal N x = some x := by
  unfold m_l_toVal
  rfl
theorem to_m_l_toArg {N : Nat} (hN : 1099000000000 ≤ N) (x : TArg) : m_l_toArg N x = some x := by
  unfold m_l_toArg
  rw [to_m_l_toVal hN _, Option.bind_some]
theorem to_m_l_toArgS {N : Nat} (hN : 1099000000000 ≤ N) (x : (List TArg)) (h : (x.length ≤ 4294967296)) : m_l_toArgS N x = some x := by
  have hl : x.length ≤ 4294967296 := h
  unfold m_l_toArgS
  rw [mk_nat _ (by omega), Option.bind_some]
  refine (toloop (m_l_toArgS_l1 N x) x (by omega) (fun y => m_l_toArg N y) (fun y hy => to_m_l_toArg hN y) (fun k s i => rfl) N 0 _ (by simp) (by omega) (by omega)).trans ?_
  simp
theorem to_m_l_toPat {N : Nat} (hN : 1099000000000 ≤ N) (x : TPat) (h : LimTPat x) : m_l_toPat N x = some x := by
  unfold m_l_toPat
  rw [to_m_l_toArgS hN _ (h), Option.bind_some]
theorem to_m_l_toPatS {N : Nat} (hN : 1099000000000 ≤ N) (x : (List TPat)) (h : (x.length ≤ 4294967296 ∧ ∀ y ∈ x, LimTPat y)) : m_l_toPatS N x = some x := by
  have hl : x.length ≤ 4294967296 := h.1
  unfold m_l_toPatS
  rw [mk_nat _ (by omega), Option.bind_some]
  refine (toloop (m_l_toPatS_l1 N x) x (by omega) (fun y => m_l_toPat N y) (fun y hy => to_m_l_toPat hN y (h.2 y hy)) (fun k s i => rfl) N 0 _ (by simp) (by omega) (by omega)).trans ?_
  simp
theorem to_m_l_toCond {N : Nat} (hN : 1099000000000 ≤ N) (x : TCond) : m_l_toCond N x = some x := by
  unfold m_l_toCond
  rw [to_m_l_toArg hN _, Option.bind_some, to_m_l_toArg hN _, Option.bind_some]
theorem to_m_l_toCondS {N : Nat} (hN : 1099000000000 ≤ N) (x : (List TCond)) (h : (x.length ≤ 4294967296)) : m_l_toCondS N x = some x := by
  have hl : x.length ≤ 4294967296 := h
  unfold m_l_toCondS
  rw [mk_nat _ (by omega), Option.bind_some]
  refine (toloop (m_l_toCondS_l1 N x) x (by omega) (fun y => m_l_toCond N y) (fun y hy => to_m_l_toCond hN y) (fun k s i => rfl) N 0 _ (by simp) (by omega) (by omega)).trans ?_
  simp
theorem to_m_l_toExpr {N : Nat} (hN : 1099000000000 ≤ N) (x : TExpr) : m_l_toExpr N x = some x := by
  unfold m_l_toExpr
  rw [to_m_l_toArg hN _, Option.bind_some, to_m_l_toArg hN _, Option.bind_some]
theorem to_m_l_toExprS {N : Nat} (hN : 1099000000000 ≤ N) (x : (List TExpr)) (h : (x.length ≤ 4294967296)) : m_l_toExprS N x = some x := by
  have hl : x.length ≤ 4294967296 := h
  unfold m_l_toExprS
  rw [mk_nat _ (by omega), Option.bind_some]
  refine (toloop (m_l_toExprS_l1 N x) x (by omega) (fun y => m_l_toExpr N y) (fun y hy => to_m_l_toExpr hN y) (fun k s i => rfl) N 0 _ (by simp) (by omega) (by omega)).trans ?_
  simp
theorem to_m_l_toAct {N : Nat} (hN : 1099000000000 ≤ N) (x : TAct) (h : LimTAct x) : m_l_toAct N x = some x := by
  unfold m_l_toAct
  rw [to_m_l_toExprS hN _ (h), Option.bind_some]
theorem to_m_l_toActS {N : Nat} (hN : 1099000000000 ≤ N) (x : (List TAct)) (h : (x.length ≤ 4294967296 ∧ ∀ y ∈ x, LimTAct y)) : m_l_toActS N x = some x := by
  have hl : x.length ≤ 4294967296 := h.1
  unfold m_l_toActS
  rw [mk_nat _ (by omega), Option.bind_some]
  refine (toloop (m_l_toActS_l1 N x) x (by omega) (fun y => m_l_toAct N y) (fun y hy => to_m_l_toAct hN y (h.2 y hy)) (fun k s i => rfl) N 0 _ (by simp) (by omega) (by omega)).trans ?_
  simp
theorem to_m_l_toRule {N : Nat} (hN : 1099000000000 ≤ N) (x : TRule) (h : LimTRule x) : m_l_toRule N x = some x := by
  unfold m_l_toRule
  rw [to_m_l_toPatS hN _ (h.1), Option.bind_some, to_m_l_toCondS hN _ (h.2.1), Option.bind_some, to_m_l_toActS hN _ (h.2.2), Option.bind_some]
theorem eq_m_l_eqVal {N : Nat} (hN : 1099000000000 ≤ N) (x y : TVal) : m_l_eqVal N x y = some (decide (x = y)) := by
  unfold m_l_eqVal
  simp only [seq_eq, Option.bind_some]
  obtain ⟨a0, a1, a2⟩ := x; obtain ⟨b0, b1, b2⟩ := y
  simp only [TVal.mk.injEq]
  by_cases c0 : a0 = b0
  · subst c0
    by_cases c1 : a1 = b1
    · subst c1
      by_cases c2 : a2 = b2
      · subst c2
        simp
      · simp [c2]
    · simp [c1]
  · simp [c0]
theorem eq_m_l_eqArg {N : Nat} (hN : 1099000000000 ≤ N) (x y : TArg) : m_l_eqArg N x y = some (decide (x = y)) := by
  unfold m_l_eqArg
  rw [eq_m_l_eqVal hN _ _]
  simp only [seq_eq, Option.bind_some]
  obtain ⟨a0, a1, a2⟩ := x; obtain ⟨b0, b1, b2⟩ := y
  simp only [TArg.mk.injEq]
  by_cases c0 : a0 = b0
  · subst c0
    by_cases c1 : a1 = b1
    · subst c1
      by_cases c2 : a2 = b2
      · subst c2
        simp
      · simp [c2]
    · simp [c1]
  · simp [c0]
theorem eq_m_l_eqArgS {N : Nat} (hN : 1099000000000 ≤ N) (x y : (List TArg)) (h : (x.length ≤ 4294967296)) : m_l_eqArgS N x y = some (decide (x = y)) := by
  have hl : x.length ≤ 4294967296 := h
  unfold m_l_eqArgS
  by_cases c : x.length = y.length
  · rw [if_neg (by simp; omega)]
    refine (eqloop (m_l_eqArgS_l1 N x y) x y c (by omega) (fun a b => m_l_eqArg N a b) (fun a ha b hb => eq_m_l_eqArg hN a b) (fun k i => rfl) N 0 (by omega) (by omega)).trans ?_
    simp
  · rw [if_pos (by simp; omega)]
    have : ¬ x = y := fun e => c (by rw [e])
    simp [this]
theorem eq_m_l_eqPat {N : Nat} (hN : 1099000000000 ≤ N) (x y : TPat) (h : LimTPat x) : m_l_eqPat N x y = some (decide (x = y)) := by
  unfold m_l_eqPat
  rw [eq_m_l_eqArgS hN _ _ (h)]
  simp only [seq_eq, Option.bind_some]
  obtain ⟨a0, a1, a2⟩ := x; obtain ⟨b0, b1, b2⟩ := y
  simp only [TPat.mk.injEq]
  by_cases c0 : a0 = b0
  · subst c0
    by_cases c1 : a1 = b1
    · subst c1
      by_cases c2 : a2 = b2
      · subst c2
        simp
      · simp [c2]
    · simp [c1]
  · simp [c0]
theorem eq_m_l_eqPatS {N : Nat} (hN : 1099000000000 ≤ N) (x y : (List TPat)) (h : (x.length ≤ 4294967296 ∧ ∀ y ∈ x, LimTPat y)) : m_l_eqPatS N x y = some (decide (x = y)) := by
  have hl : x.length ≤ 4294967296 := h.1
  unfold m_l_eqPatS
  by_cases c : x.length = y.length
  · rw [if_neg (by simp; omega)]
    refine (eqloop (m_l_eqPatS_l1 N x y) x y c (by omega) (fun a b => m_l_eqPat N a b) (fun a ha b hb => eq_m_l_eqPat hN a b (h.2 a ha)) (fun k i => rfl) N 0 (by omega) (by omega)).trans ?_
    simp
  · rw [if_pos (by simp; omega)]
    have : ¬ x = y := fun e => c (by rw [e])
    simp [this]
theorem eq_m_l_eqCond {N : Nat} (hN : 1099000000000 ≤ N) (x y : TCond) : m_l_eqCond N x y = some (decide (x = y)) := by
  unfold m_l_eqCond
  rw [eq_m_l_eqArg hN _ _, eq_m_l_eqArg hN _ _]
  simp only [seq_eq, Option.bind_some]
  obtain ⟨a0, a1, a2⟩ := x; obtain ⟨b0, b1, b2⟩ := y
  simp only [TCond.mk.injEq]
  by_cases c0 : a0 = b0
  · subst c0
    by_cases c1 : a1 = b1
    · subst c1
      by_cases c2 : a2 = b2
      · subst c2
        simp
      · simp [c2]
    · simp [c1]
  · simp [c0]
theorem eq_m_l_eqCondS {N : Nat} (hN : 1099000000000 ≤ N) (x y : (List TCond)) (h : (x.length ≤ 4294967296)) : m_l_eqCondS N x y = some (decide (x = y)) := by
  have hl : x.length ≤ 4294967296 := h
  unfold m_l_eqCondS
  by_cases c : x.length = y.length
  · rw [if_neg (by simp; omega)]
    refine (eqloop (m_l_eqCondS_l1 N x y) x y c (by omega) (fun a b => m_l_eqCond N a b) (fun a ha b hb => eq_m_l_eqCond hN a b) (fun k i => rfl) N 0 (by omega) (by omega)).trans ?_
    simp
  · rw [if_pos (by simp; omega)]
    have : ¬ x = y := fun e => c (by rw [e])
    simp [this]
theorem eq_m_l_eqExpr {N : Nat} (hN : 1099000000000 ≤ N) (x y : TExpr) : m_l_eqExpr N x y = some (decide (x = y)) := by
  unfold m_l_eqExpr
  rw [eq_m_l_eqArg hN _ _, eq_m_l_eqArg hN _ _]
  simp only [seq_eq, Option.bind_some]
  obtain ⟨a0, a1, a2⟩ := x; obtain ⟨b0, b1, b2⟩ := y
  simp only [TExpr.mk.injEq]
  by_cases c0 : a0 = b0
  · subst c0
    by_cases c1 : a1 = b1
    · subst c1
      by_cases c2 : a2 = b2
      · subst c2
        simp
      · simp [c2]
    · simp [c1]
  · simp [c0]
theorem eq_m_l_eqExprS {N : Nat} (hN : 1099000000000 ≤ N) (x y : (List TExpr)) (h : (x.length ≤ 4294967296)) : m_l_eqExprS N x y = some (decide (x = y)) := by
  have hl : x.length ≤ 4294967296 := h
  unfold m_l_eqExprS
  by_cases c : x.length = y.length
  · rw [if_neg (by simp; omega)]
    refine (eqloop (m_l_eqExprS_l1 N x y) x y c (by omega) (fun a b => m_l_eqExpr N a b) (fun a ha b hb => eq_m_l_eqExpr hN a b) (fun k i => rfl) N 0 (by omega) (by omega)).trans ?_
    simp
  · rw [if_pos (by simp; omega)]
    have : ¬ x = y := fun e => c (by rw [e])
    simp [this]
theorem eq_m_l_eqAct {N : Nat} (hN : 1099000000000 ≤ N) (x y : TAct) (h : LimTAct x) : m_l_eqAct N x y = some (decide (x = y)) := by
  unfold m_l_eqAct
  rw [eq_m_l_eqExprS hN _ _ (h)]
  simp only [seq_eq, Option.bind_some]
  obtain ⟨a0, a1, a2, a3, a4⟩ := x; obtain ⟨b0, b1, b2, b3, b4⟩ := y
  simp only [TAct.mk.injEq]
  by_cases c0 : a0 = b0
  · subst c0
    by_cases c1 : a1 = b1
    · subst c1
      by_cases c2 : a2 = b2
      · subst c2
        by_cases c3 : a3 = b3
        · subst c3
          by_cases c4 : a4 = b4
          · subst c4
            simp
          · simp [c4]
        · simp [c3]
      · simp [c2]
    · simp [c1]
  · simp [c0]
theorem eq_m_l_eqActS {N : Nat} (hN : 1099000000000 ≤ N) (x y : (List TAct)) (h : (x.length ≤ 4294967296 ∧ ∀ y ∈ x, LimTAct y)) : m_l_eqActS N x y = some (decide (x = y)) := by
  have hl : x.length ≤ 4294967296 := h.1
  unfold m_l_eqActS
  by_cases c : x.length = y.length
  · rw [if_neg (by simp; omega)]
    refine (eqloop (m_l_eqActS_l1 N x y) x y c (by omega) (fun a b => m_l_eqAct N a b) (fun a ha b hb => eq_m_l_eqAct hN a b (h.2 a ha)) (fun k i => rfl) N 0 (by omega) (by omega)).trans ?_
    simp
  · rw [if_pos (by simp; omega)]
    have : ¬ x = y := fun e => c (by rw [e])
    simp [this]
theorem eq_m_l_eqRule {N : Nat} (hN : 1099000000000 ≤ N) (x y : TRule) (h : LimTRule x) : m_l_eqRule N x y = some (decide (x = y)) := by
  unfold m_l_eqRule
  rw [eq_m_l_eqPatS hN _ _ (h.1), eq_m_l_eqCondS hN _ _ (h.2.1), eq_m_l_eqActS hN _ _ (h.2.2)]
  simp only [seq_eq, Option.bind_some]
  obtain ⟨a0, a1, a2, a3, a4⟩ := x; obtain ⟨b0, b1, b2, b3, b4⟩ := y
  simp only [TRule.mk.injEq]
  by_cases c0 : a0 = b0
  · subst c0
    by_cases c1 : a1 = b1
    · subst c1
      by_cases c2 : a2 = b2
      · subst c2
        by_cases c3 : a3 = b3
        · subst c3
          by_cases c4 : a4 = b4
          · subst c4
            simp
          · simp [c4]
        · simp [c3]
      · simp [c2]
    · simp [c1]
  · simp [c0]
theorem sz_m_l_szRuleS {N : Nat} (hN : 1099000000000 ≤ N) (x : (List TRule)) (w : (WfL WfTRule) x) (left : Int) (h0 : 0 ≤ left) (h1 : left ≤ 1048576) : ∃ v, m_l_szRuleS N x left = some v ∧ Szd v left ((x.length : Int) + (x.map totTRule).sum) := by
  have hl := w.1; unfold maxLen at hl
  have e1 : IntKind.i64.wrap (left - (x.length : Int)) = left - (x.length : Int) := wr (by omega) (by omega)
  unfold m_l_szRuleS
  simp only [e1]
  by_cases c : left - (x.length : Int) < 0
  · rw [if_pos (by simpa using c)]; exact ⟨-1, rfl, .inl (by omega)⟩
  · rw [if_neg (by simpa using c)]
    obtain ⟨v, hv, hs⟩ := szloop (m_l_szRuleS_l1 N x) x (by omega) totTRule (fun y _ => totTRule_nn y) (fun y l => m_l_szRule N y l) (fun y hy l g0 g1 => sz_m_l_szRule hN y (w.2 y hy) l g0 g1) (fun k l i => rfl) N 0 (left - (x.length : Int)) (by omega) (by omega) (by omega) (by omega)
    refine ⟨v, hv, ?_⟩
    rw [List.drop_zero] at hs
    rcases hs with hs | ⟨hs0, hs⟩
    · exact .inl hs
    · exact .inr ⟨hs0, by omega⟩
theorem sz_m_l_szDef {N : Nat} (hN : 1099000000000 ≤ N) (x : TDef) (w : WfTDef x) (left : Int) (h0 : 0 ≤ left) (h1 : left ≤ 1048576) : ∃ v, m_l_szDef N x left = some v ∧ Szd v left (totTDef x) := by
  obtain ⟨w0, w1⟩ := w
  unfold m_l_szDef
  unfold totTDef
  have := sum_nonneg totTRule x.Rules (fun y _ => totTRule_nn y)
  have hl0 := w0; unfold WfS maxLen at hl0
  have e0 : IntKind.i64.wrap (left - (x.Name.size : Int)) = left - (x.Name.size : Int) := wr (by omega) (by omega)
  simp only [e0]
  by_cases c0 : (left - (x.Name.size : Int)) < 0
  · rw [if_pos (by simpa using c0)]; exact ⟨-1, rfl, .inl (by omega)⟩
  rw [if_neg (by simpa using c0)]
  obtain ⟨v1, hv1, hs1⟩ := sz_m_l_szRuleS hN x.Rules w1 (left - (x.Name.size : Int)) (by omega) (by omega)
  rw [hv1]; simp only [Option.bind_some]
  by_cases c1 : v1 < 0
  · rw [if_pos (by simpa using c1)]; exact ⟨-1, rfl, .inl (by omega)⟩
  rw [if_neg (by simpa using c1)]
  replace hs1 := hs1.resolve_left c1
  exact ⟨_, rfl, .inr ⟨by omega, by omega⟩⟩
def LimTDef (x : TDef) : Prop := (x.Rules.length ≤ 4294967296 ∧ ∀ y ∈ x.Rules, LimTRule y)
theorem LimTDef_of (x : TDef) (h : totTDef x ≤ 1048576) : LimTDef x := by
  unfold totTDef at h
  have nn_Rules : ∀ y ∈ x.Rules, 0 ≤ totTRule y := fun y _ => totTRule_nn y
  have := sum_nonneg _ _ nn_Rules
  exact ⟨by omega, fun y hy => LimTRule_of y (by have := sum_mem _ _ nn_Rules y hy; omega)⟩
theorem to_m_l_toRuleS {N : Nat} (hN : 1099000000000 ≤ N) (x : (List TRule)) (h : (x.length ≤ 4294967296 ∧ ∀ y ∈ x, LimTRule y)) : m_l_toRuleS N x = some x := by
  have hl : x.length ≤ 4294967296 := h.1
  unfold m_l_toRuleS
  rw [mk_nat _ (by omega), Option.bind_some]
  refine (toloop (m_l_toRuleS_l1 N x) x (by omega) (fun y => m_l_toRule N y) (fun y hy => to_m_l_toRule hN y (h.2 y hy)) (fun k s i => rfl) N 0 _ (by simp) (by omega) (by omega)).trans ?_
  simp
theorem to_m_l_toDef {N : Nat} (hN : 1099000000000 ≤ N) (x : TDef) (h : LimTDef x) : m_l_toDef N x = some x := by
  unfold m_l_toDef
  rw [to_m_l_toRuleS hN _ (h), Option.bind_some]
theorem eq_m_l_eqRuleS {N : Nat} (hN : 1099000000000 ≤ N) (x y : (List TRule)) (h : (x.length ≤ 4294967296 ∧ ∀ y ∈ x, LimTRule y)) : m_l_eqRuleS N x y = some (decide (x = y)) := by
  have hl : x.length ≤ 4294967296 := h.1
  unfold m_l_eqRuleS
  by_cases c : x.length = y.length
  · rw [if_neg (by simp; omega)]
    refine (eqloop (m_l_eqRuleS_l1 N x y) x y c (by omega) (fun a b => m_l_eqRule N a b) (fun a ha b hb => eq_m_l_eqRule hN a b (h.2 a ha)) (fun k i => rfl) N 0 (by omega) (by omega)).trans ?_
    simp
  · rw [if_pos (by simp; omega)]
    have : ¬ x = y := fun e => c (by rw [e])
    simp [this]
theorem eq_m_l_eqDef {N : Nat} (hN : 1099000000000 ≤ N) (x y : TDef) (h : LimTDef x) : m_l_eqDef N x y = some (decide (x = y)) := by
  unfold m_l_eqDef
  rw [eq_m_l_eqRuleS hN _ _ (h)]
  simp only [seq_eq, Option.bind_some]
  obtain ⟨a0, a1⟩ := x; obtain ⟨b0, b1⟩ := y
  simp only [TDef.mk.injEq]
  by_cases c0 : a0 = b0
  · subst c0
    by_cases c1 : a1 = b1
    · subst c1
      simp
    · simp [c1]
  · simp [c0]
end Go.Proofs.YtlfpehhlkccdiaaGreatDoor
