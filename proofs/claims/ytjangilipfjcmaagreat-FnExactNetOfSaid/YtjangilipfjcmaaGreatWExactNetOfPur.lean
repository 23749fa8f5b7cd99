/- Printed by a program of ours: the plain laws of the sizes, copies, comparisons and marks. -/
import Derived.Test.YtjangilipfjcmaaGreatPLib
import Derived.Test.YtjangilipfjcmaaGreatWExactNetOfMod
namespace Go.Proofs.YtjangilipfjcmaaGreat
open Eng
set_option linter.unusedVariables false
set_option linter.unusedSimpArgs false
set_option maxRecDepth 10000
def WfTVal (x : TVal) : Prop := (WfI .i64) x.K ∧ (WfI .i64) x.N ∧ WfS x.S
def totTVal (x : TVal) : Int := ((x.S.size : Int))
theorem totTVal_nn (x : TVal) : 0 ≤ totTVal x := by
  unfold totTVal
  omega
def WfTArg (x : TArg) : Prop := (WfI .i64) x.K ∧ WfS x.S ∧ WfTVal x.V
def totTArg (x : TArg) : Int := ((x.S.size : Int)) + (totTVal x.V)
theorem totTArg_nn (x : TArg) : 0 ≤ totTArg x := by
  unfold totTArg
  have := totTVal_nn x.V
  omega
def WfTPat (x : TPat) : Prop := WfS x.Kind ∧ (WfL WfTArg) x.Args ∧ WfB x.Not
def totTPat (x : TPat) : Int := ((x.Kind.size : Int)) + ((x.Args.length : Int) + (x.Args.map totTArg).sum)
theorem totTPat_nn (x : TPat) : 0 ≤ totTPat x := by
  unfold totTPat
  have := sum_nonneg totTArg x.Args (fun y _ => totTArg_nn y)
  omega
def WfTCond (x : TCond) : Prop := (WfI .i64) x.Op ∧ WfTArg x.L ∧ WfTArg x.R
def totTCond (x : TCond) : Int := (totTArg x.L) + (totTArg x.R)
theorem totTCond_nn (x : TCond) : 0 ≤ totTCond x := by
  unfold totTCond
  have := totTArg_nn x.L
  have := totTArg_nn x.R
  omega
def WfTExpr (x : TExpr) : Prop := WfS x.Op ∧ WfTArg x.L ∧ WfTArg x.R
def totTExpr (x : TExpr) : Int := ((x.Op.size : Int)) + (totTArg x.L) + (totTArg x.R)
theorem totTExpr_nn (x : TExpr) : 0 ≤ totTExpr x := by
  unfold totTExpr
  have := totTArg_nn x.L
  have := totTArg_nn x.R
  omega
def WfTAct (x : TAct) : Prop := (WfI .i64) x.Kind ∧ WfS x.Name ∧ (WfL WfTExpr) x.Args ∧ (WfI .i64) x.N ∧ WfS x.Undo
def totTAct (x : TAct) : Int := ((x.Name.size : Int)) + ((x.Args.length : Int) + (x.Args.map totTExpr).sum) + ((x.Undo.size : Int))
theorem totTAct_nn (x : TAct) : 0 ≤ totTAct x := by
  unfold totTAct
  have := sum_nonneg totTExpr x.Args (fun y _ => totTExpr_nn y)
  omega
def WfTRule (x : TRule) : Prop := WfS x.Name ∧ (WfI .i64) x.Sal ∧ (WfL WfTPat) x.Pats ∧ (WfL WfTCond) x.Conds ∧ (WfL WfTAct) x.Acts
def totTRule (x : TRule) : Int := ((x.Name.size : Int)) + ((x.Pats.length : Int) + (x.Pats.map totTPat).sum) + ((x.Conds.length : Int) + (x.Conds.map totTCond).sum) + ((x.Acts.length : Int) + (x.Acts.map totTAct).sum)
theorem totTRule_nn (x : TRule) : 0 ≤ totTRule x := by
  unfold totTRule
  have := sum_nonneg totTPat x.Pats (fun y _ => totTPat_nn y)
  have := sum_nonneg totTCond x.Conds (fun y _ => totTCond_nn y)
  have := sum_nonneg totTAct x.Acts (fun y _ => totTAct_nn y)
  omega
def WfTDef (x : TDef) : Prop := WfS x.Name ∧ (WfL WfTRule) x.Rules
def totTDef (x : TDef) : Int := ((x.Name.size : Int)) + ((x.Rules.length : Int) + (x.Rules.map totTRule).sum)
theorem totTDef_nn (x : TDef) : 0 ≤ totTDef x := by
  unfold totTDef
  have := sum_nonneg totTRule x.Rules (fun y _ => totTRule_nn y)
  omega
def WfTAlpha (x : TAlpha) : Prop := WfS x.Kind ∧ (WfI .i64) x.N ∧ (WfL WfTVal) x.Consts ∧ (WfL (WfI .i64)) x.At
def totTAlpha (x : TAlpha) : Int := ((x.Kind.size : Int)) + ((x.Consts.length : Int) + (x.Consts.map totTVal).sum) + ((x.At.length : Int))
theorem totTAlpha_nn (x : TAlpha) : 0 ≤ totTAlpha x := by
  unfold totTAlpha
  have := sum_nonneg totTVal x.Consts (fun y _ => totTVal_nn y)
  omega
def WfTChain (x : TChain) : Prop := (WfL (WfI .i64)) x.Pos ∧ (WfL (WfI .i64)) x.Neg
def totTChain (x : TChain) : Int := ((x.Pos.length : Int)) + ((x.Neg.length : Int))
theorem totTChain_nn (x : TChain) : 0 ≤ totTChain x := by
  unfold totTChain
  omega
def WfTNet (x : TNet) : Prop := (WfL WfTAlpha) x.Alphas ∧ (WfL WfTChain) x.Chains
def totTNet (x : TNet) : Int := ((x.Alphas.length : Int) + (x.Alphas.map totTAlpha).sum) + ((x.Chains.length : Int) + (x.Chains.map totTChain).sum)
theorem totTNet_nn (x : TNet) : 0 ≤ totTNet x := by
  unfold totTNet
  have := sum_nonneg totTAlpha x.Alphas (fun y _ => totTAlpha_nn y)
  have := sum_nonneg totTChain x.Chains (fun y _ => totTChain_nn y)
  omega
theorem sz_m_l_szVal {N : Nat} (hN : 1099000000000 ≤ N) (x : TVal) (w : WfTVal x) (left : Int) (h0 : 0 ≤ left) (h1 : left ≤ 1048576) : ∃ v, m_l_szVal N x left = some v ∧ Szd v left (totTVal x) := by
  obtain ⟨w0, w1, w2⟩ := w
  unfold m_l_szVal
  unfold totTVal
  have hl2 := w2; unfold WfS maxLen at hl2
  have e2 : IntKind.i64.wrap (left - (x.S.size : Int)) = left - (x.S.size : Int) := wr (by omega) (by omega)
  simp only [e2]
  by_cases c2 : (left - (x.S.size : Int)) < 0
  · rw [if_pos (by simpa using c2)]; exact ⟨-1, rfl, .inl (by omega)⟩
  rw [if_neg (by simpa using c2)]
  exact ⟨_, rfl, .inr ⟨by omega, by omega⟩⟩
theorem sz_m_l_szArg {N : Nat} (hN : 1099000000000 ≤ N) (x : TArg) (w : WfTArg x) (left : Int) (h0 : 0 ≤ left) (h1 : left ≤ 1048576) : ∃ v, m_l_szArg N x left = some v ∧ Szd v left (totTArg x) := by
  obtain ⟨w0, w1, w2⟩ := w
  unfold m_l_szArg
  unfold totTArg
  have := totTVal_nn x.V
  have hl1 := w1; unfold WfS maxLen at hl1
  have e1 : IntKind.i64.wrap (left - (x.S.size : Int)) = left - (x.S.size : Int) := wr (by omega) (by omega)
  simp only [e1]
  by_cases c1 : (left - (x.S.size : Int)) < 0
  · rw [if_pos (by simpa using c1)]; exact ⟨-1, rfl, .inl (by omega)⟩
  rw [if_neg (by simpa using c1)]
  obtain ⟨v2, hv2, hs2⟩ := sz_m_l_szVal hN x.V w2 (left - (x.S.size : Int)) (by omega) (by omega)
  rw [hv2]; simp only [Option.bind_some]
  by_cases c2 : v2 < 0
  · rw [if_pos (by simpa using c2)]; exact ⟨-1, rfl, .inl (by omega)⟩
  rw [if_neg (by simpa using c2)]
  replace hs2 := hs2.resolve_left c2
  exact ⟨_, rfl, .inr ⟨by omega, by omega⟩⟩
theorem sz_m_l_szArgS {N : Nat} (hN : 1099000000000 ≤ N) (x : (List TArg)) (w : (WfL WfTArg) x) (left : Int) (h0 : 0 ≤ left) (h1 : left ≤ 1048576) : ∃ v, m_l_szArgS N x left = some v ∧ Szd v left ((x.length : Int) + (x.map totTArg).sum) := by
  have hl := w.1; unfold maxLen at hl
  have e1 : IntKind.i64.wrap (left - (x.length : Int)) = left - (x.length : Int) := wr (by omega) (by omega)
  unfold m_l_szArgS
  simp only [e1]
  by_cases c : left - (x.length : Int) < 0
  · rw [if_pos (by simpa using c)]; exact ⟨-1, rfl, .inl (by omega)⟩
  · rw [if_neg (by simpa using c)]
    obtain ⟨v, hv, hs⟩ := szloop (m_l_szArgS_l1 N x) x (by omega) totTArg (fun y _ => totTArg_nn y) (fun y l => m_l_szArg N y l) (fun y hy l g0 g1 => sz_m_l_szArg hN y (w.2 y hy) l g0 g1) (fun k l i => rfl) N 0 (left - (x.length : Int)) (by omega) (by omega) (by omega) (by omega)
    refine ⟨v, hv, ?_⟩
    rw [List.drop_zero] at hs
    rcases hs with hs | ⟨hs0, hs⟩
    · exact .inl hs
    · exact .inr ⟨hs0, by omega⟩
theorem sz_m_l_szPat {N : Nat} (hN : 1099000000000 ≤ N) (x : TPat) (w : WfTPat x) (left : Int) (h0 : 0 ≤ left) (h1 : left ≤ 1048576) : ∃ v, m_l_szPat N x left = some v ∧ Szd v left (totTPat x) := by
  obtain ⟨w0, w1, w2⟩ := w
  unfold m_l_szPat
  unfold totTPat
  have := sum_nonneg totTArg x.Args (fun y _ => totTArg_nn y)
  have hl0 := w0; unfold WfS maxLen at hl0
  have e0 : IntKind.i64.wrap (left - (x.Kind.size : Int)) = left - (x.Kind.size : Int) := wr (by omega) (by omega)
  simp only [e0]
  by_cases c0 : (left - (x.Kind.size : Int)) < 0
  · rw [if_pos (by simpa using c0)]; exact ⟨-1, rfl, .inl (by omega)⟩
  rw [if_neg (by simpa using c0)]
  obtain ⟨v1, hv1, hs1⟩ := sz_m_l_szArgS hN x.Args w1 (left - (x.Kind.size : Int)) (by omega) (by omega)
  rw [hv1]; simp only [Option.bind_some]
  by_cases c1 : v1 < 0
  · rw [if_pos (by simpa using c1)]; exact ⟨-1, rfl, .inl (by omega)⟩
  rw [if_neg (by simpa using c1)]
  replace hs1 := hs1.resolve_left c1
  exact ⟨_, rfl, .inr ⟨by omega, by omega⟩⟩
theorem sz_m_l_szPatS {N : Nat} (hN : 1099000000000 ≤ N) (x : (List TPat)) (w : (WfL WfTPat) x) (left : Int) (h0 : 0 ≤ left) (h1 : left ≤ 1048576) : ∃ v, m_l_szPatS N x left = some v ∧ Szd v left ((x.length : Int) + (x.map totTPat).sum) := by
  have hl := w.1; unfold maxLen at hl
  have e1 : IntKind.i64.wrap (left - (x.length : Int)) = left - (x.length : Int) := wr (by omega) (by omega)
  unfold m_l_szPatS
  simp only [e1]
  by_cases c : left - (x.length : Int) < 0
  · rw [if_pos (by simpa using c)]; exact ⟨-1, rfl, .inl (by omega)⟩
  · rw [if_neg (by simpa using c)]
    obtain ⟨v, hv, hs⟩ := szloop (m_l_szPatS_l1 N x) x (by omega) totTPat (fun y _ => totTPat_nn y) (fun y l => m_l_szPat N y l) (fun y hy l g0 g1 => sz_m_l_szPat hN y (w.2 y hy) l g0 g1) (fun k l i => rfl) N 0 (left - (x.length : Int)) (by omega) (by omega) (by omega) (by omega)
    refine ⟨v, hv, ?_⟩
    rw [List.drop_zero] at hs
    rcases hs with hs | ⟨hs0, hs⟩
    · exact .inl hs
    · exact .inr ⟨hs0, by omega⟩
theorem sz_m_l_szCond {N : Nat} (hN : 1099000000000 ≤ N) (x : TCond) (w : WfTCond x) (left : Int) (h0 : 0 ≤ left) (h1 : left ≤ 1048576) : ∃ v, m_l_szCond N x left = some v ∧ Szd v left (totTCond x) := by
  obtain ⟨w0, w1, w2⟩ := w
  unfold m_l_szCond
  unfold totTCond
  have := totTArg_nn x.L
  have := totTArg_nn x.R
  obtain ⟨v1, hv1, hs1⟩ := sz_m_l_szArg hN x.L w1 left (by omega) (by omega)
  rw [hv1]; simp only [Option.bind_some]
  by_cases c1 : v1 < 0
  · rw [if_pos (by simpa using c1)]; exact ⟨-1, rfl, .inl (by omega)⟩
  rw [if_neg (by simpa using c1)]
  replace hs1 := hs1.resolve_left c1
  obtain ⟨v2, hv2, hs2⟩ := sz_m_l_szArg hN x.R w2 v1 (by omega) (by omega)
  rw [hv2]; simp only [Option.bind_some]
  by_cases c2 : v2 < 0
  · rw [if_pos (by simpa using c2)]; exact ⟨-1, rfl, .inl (by omega)⟩
  rw [if_neg (by simpa using c2)]
  replace hs2 := hs2.resolve_left c2
  exact ⟨_, rfl, .inr ⟨by omega, by omega⟩⟩
theorem sz_m_l_szCondS {N : Nat} (hN : 1099000000000 ≤ N) (x : (List TCond)) (w : (WfL WfTCond) x) (left : Int) (h0 : 0 ≤ left) (h1 : left ≤ 1048576) : ∃ v, m_l_szCondS N x left = some v ∧ Szd v left ((x.length : Int) + (x.map totTCond).sum) := by
  have hl := w.1; unfold maxLen at hl
  have e1 : IntKind.i64.wrap (left - (x.length : Int)) = left - (x.length : Int) := wr (by omega) (by omega)
  unfold m_l_szCondS
  simp only [e1]
  by_cases c : left - (x.length : Int) < 0
  · rw [if_pos (by simpa using c)]; exact ⟨-1, rfl, .inl (by omega)⟩
  · rw [if_neg (by simpa using c)]
    obtain ⟨v, hv, hs⟩ := szloop (m_l_szCondS_l1 N x) x (by omega) totTCond (fun y _ => totTCond_nn y) (fun y l => m_l_szCond N y l) (fun y hy l g0 g1 => sz_m_l_szCond hN y (w.2 y hy) l g0 g1) (fun k l i => rfl) N 0 (left - (x.length : Int)) (by omega) (by omega) (by omega) (by omega)
    refine ⟨v, hv, ?_⟩
    rw [List.drop_zero] at hs
    rcases hs with hs | ⟨hs0, hs⟩
    · exact .inl hs
    · exact .inr ⟨hs0, by omega⟩
theorem sz_m_l_szExpr {N : Nat} (hN : 1099000000000 ≤ N) (x : TExpr) (w : WfTExpr x) (left : Int) (h0 : 0 ≤ left) (h1 : left ≤ 1048576) : ∃ v, m_l_szExpr N x left = some v ∧ Szd v left (totTExpr x) := by
  obtain ⟨w0, w1, w2⟩ := w
  unfold m_l_szExpr
  unfold totTExpr
  have := totTArg_nn x.L
  have := totTArg_nn x.R
  have hl0 := w0; unfold WfS maxLen at hl0
  have e0 : IntKind.i64.wrap (left - (x.Op.size : Int)) = left - (x.Op.size : Int) := wr (by omega) (by omega)
  simp only [e0]
  by_cases c0 : (left - (x.Op.size : Int)) < 0
  · rw [if_pos (by simpa using c0)]; exact ⟨-1, rfl, .inl (by omega)⟩
  rw [if_neg (by simpa using c0)]
  obtain ⟨v1, hv1, hs1⟩ := sz_m_l_szArg hN x.L w1 (left - (x.Op.size : Int)) (by omega) (by omega)
  rw [hv1]; simp only [Option.bind_some]
  by_cases c1 : v1 < 0
  · rw [if_pos (by simpa using c1)]; exact ⟨-1, rfl, .inl (by omega)⟩
  rw [if_neg (by simpa using c1)]
  replace hs1 := hs1.resolve_left c1
  obtain ⟨v2, hv2, hs2⟩ := sz_m_l_szArg hN x.R w2 v1 (by omega) (by omega)
  rw [hv2]; simp only [Option.bind_some]
  by_cases c2 : v2 < 0
  · rw [if_pos (by simpa using c2)]; exact ⟨-1, rfl, .inl (by omega)⟩
  rw [if_neg (by simpa using c2)]
  replace hs2 := hs2.resolve_left c2
  exact ⟨_, rfl, .inr ⟨by omega, by omega⟩⟩
theorem sz_m_l_szExprS {N : Nat} (hN : 1099000000000 ≤ N) (x : (List TExpr)) (w : (WfL WfTExpr) x) (left : Int) (h0 : 0 ≤ left) (h1 : left ≤ 1048576) : ∃ v, m_l_szExprS N x left = some v ∧ Szd v left ((x.length : Int) + (x.map totTExpr).sum) := by
  have hl := w.1; unfold maxLen at hl
  have e1 : IntKind.i64.wrap (left - (x.length : Int)) = left - (x.length : Int) := wr (by omega) (by omega)
  unfold m_l_szExprS
  simp only [e1]
  by_cases c : left - (x.length : Int) < 0
  · rw [if_pos (by simpa using c)]; exact ⟨-1, rfl, .inl (by omega)⟩
  · rw [if_neg (by simpa using c)]
    obtain ⟨v, hv, hs⟩ := szloop (m_l_szExprS_l1 N x) x (by omega) totTExpr (fun y _ => totTExpr_nn y) (fun y l => m_l_szExpr N y l) (fun y hy l g0 g1 => sz_m_l_szExpr hN y (w.2 y hy) l g0 g1) (fun k l i => rfl) N 0 (left - (x.length : Int)) (by omega) (by omega) (by omega) (by omega)
    refine ⟨v, hv, ?_⟩
    rw [List.drop_zero] at hs
    rcases hs with hs | ⟨hs0, hs⟩
    · exact .inl hs
    · exact .inr ⟨hs0, by omega⟩
theorem sz_m_l_szAct {N : Nat} (hN : 1099000000000 ≤ N) (x : TAct) (w : WfTAct x) (left : Int) (h0 : 0 ≤ left) (h1 : left ≤ 1048576) : ∃ v, m_l_szAct N x left = some v ∧ Szd v left (totTAct x) := by
  obtain ⟨w0, w1, w2, w3, w4⟩ := w
  unfold m_l_szAct
  unfold totTAct
  have := sum_nonneg totTExpr x.Args (fun y _ => totTExpr_nn y)
  have hl1 := w1; unfold WfS maxLen at hl1
  have e1 : IntKind.i64.wrap (left - (x.Name.size : Int)) = left - (x.Name.size : Int) := wr (by omega) (by omega)
  simp only [e1]
  by_cases c1 : (left - (x.Name.size : Int)) < 0
  · rw [if_pos (by simpa using c1)]; exact ⟨-1, rfl, .inl (by omega)⟩
  rw [if_neg (by simpa using c1)]
  obtain ⟨v2, hv2, hs2⟩ := sz_m_l_szExprS hN x.Args w2 (left - (x.Name.size : Int)) (by omega) (by omega)
  rw [hv2]; simp only [Option.bind_some]
  by_cases c2 : v2 < 0
  · rw [if_pos (by simpa using c2)]; exact ⟨-1, rfl, .inl (by omega)⟩
  rw [if_neg (by simpa using c2)]
  replace hs2 := hs2.resolve_left c2
  have hl4 := w4; unfold WfS maxLen at hl4
  have e4 : IntKind.i64.wrap (v2 - (x.Undo.size : Int)) = v2 - (x.Undo.size : Int) := wr (by omega) (by omega)
  simp only [e4]
  by_cases c4 : (v2 - (x.Undo.size : Int)) < 0
  · rw [if_pos (by simpa using c4)]; exact ⟨-1, rfl, .inl (by omega)⟩
  rw [if_neg (by simpa using c4)]
  exact ⟨_, rfl, .inr ⟨by omega, by omega⟩⟩
theorem sz_m_l_szActS {N : Nat} (hN : 1099000000000 ≤ N) (x : (List TAct)) (w : (WfL WfTAct) x) (left : Int) (h0 : 0 ≤ left) (h1 : left ≤ 1048576) : ∃ v, m_l_szActS N x left = some v ∧ Szd v left ((x.length : Int) + (x.map totTAct).sum) := by
  have hl := w.1; unfold maxLen at hl
  have e1 : IntKind.i64.wrap (left - (x.length : Int)) = left - (x.length : Int) := wr (by omega) (by omega)
  unfold m_l_szActS
  simp only [e1]
  by_cases c : left - (x.length : Int) < 0
  · rw [if_pos (by simpa using c)]; exact ⟨-1, rfl, .inl (by omega)⟩
  · rw [if_neg (by simpa using c)]
    obtain ⟨v, hv, hs⟩ := szloop (m_l_szActS_l1 N x) x (by omega) totTAct (fun y _ => totTAct_nn y) (fun y l => m_l_szAct N y l) (fun y hy l g0 g1 => sz_m_l_szAct hN y (w.2 y hy) l g0 g1) (fun k l i => rfl) N 0 (left - (x.length : Int)) (by omega) (by omega) (by omega) (by omega)
    refine ⟨v, hv, ?_⟩
    rw [List.drop_zero] at hs
    rcases hs with hs | ⟨hs0, hs⟩
    · exact .inl hs
    · exact .inr ⟨hs0, by omega⟩
theorem sz_m_l_szRule {N : Nat} (hN : 1099000000000 ≤ N) (x : TRule) (w : WfTRule x) (left : Int) (h0 : 0 ≤ left) (h1 : left ≤ 1048576) : ∃ v, m_l_szRule N x left = some v ∧ Szd v left (totTRule x) := by
  obtain ⟨w0, w1, w2, w3, w4⟩ := w
  unfold m_l_szRule
  unfold totTRule
  have := sum_nonneg totTPat x.Pats (fun y _ => totTPat_nn y)
  have := sum_nonneg totTCond x.Conds (fun y _ => totTCond_nn y)
  have := sum_nonneg totTAct x.Acts (fun y _ => totTAct_nn y)
  have hl0 := w0; unfold WfS maxLen at hl0
  have e0 : IntKind.i64.wrap (left - (x.Name.size : Int)) = left - (x.Name.size : Int) := wr (by omega) (by omega)
  simp only [e0]
  by_cases c0 : (left - (x.Name.size : Int)) < 0
  · rw [if_pos (by simpa using c0)]; exact ⟨-1, rfl, .inl (by omega)⟩
  rw [if_neg (by simpa using c0)]
  obtain ⟨v2, hv2, hs2⟩ := sz_m_l_szPatS hN x.Pats w2 (left - (x.Name.size : Int)) (by omega) (by omega)
  rw [hv2]; simp only [Option.bind_some]
  by_cases c2 : v2 < 0
  · rw [if_pos (by simpa using c2)]; exact ⟨-1, rfl, .inl (by omega)⟩
  rw [if_neg (by simpa using c2)]
  replace hs2 := hs2.resolve_left c2
  obtain ⟨v3, hv3, hs3⟩ := sz_m_l_szCondS hN x.Conds w3 v2 (by omega) (by omega)
  rw [hv3]; simp only [Option.bind_some]
  by_cases c3 : v3 < 0
  · rw [if_pos (by simpa using c3)]; exact ⟨-1, rfl, .inl (by omega)⟩
  rw [if_neg (by simpa using c3)]
  replace hs3 := hs3.resolve_left c3
  obtain ⟨v4, hv4, hs4⟩ := sz_m_l_szActS hN x.Acts w4 v3 (by omega) (by omega)
  rw [hv4]; simp only [Option.bind_some]
  by_cases c4 : v4 < 0
  · rw [if_pos (by simpa using c4)]; exact ⟨-1, rfl, .inl (by omega)⟩
  rw [if_neg (by simpa using c4)]
  replace hs4 := hs4.resolve_left c4
  exact ⟨_, rfl, .inr ⟨by omega, by omega⟩⟩
theorem sz_m_l_szRuleS {N : Nat} (hN : 1099000000000 ≤ N) (x : (List TRule)) (w : (WfL WfTRule) x) (left : Int) (h0 : 0 ≤ left) (h1 : left ≤ 1048576) : ∃ v, m_l_szRuleS N x left = some v ∧ Szd v left ((x.length : Int) + (x.map totTRule).sum) := by
  have hl := w.1; unfold maxLen at hl
  have e1 : IntKind.i64.wrap (left - (x.length : Int)) = left - (x.length : Int) := wr (by omega) (by omega)
  unfold m_l_szRuleS
  simp only [e1]
  by_cases c : left - (x.length : Int) < 0
  · rw [if_pos (by simpa using c)]; exact ⟨-1, rfl, .inl (by omega)⟩
  · rw [if_neg (by simpa using c)]
    obtain ⟨v, hv, hs⟩ := szloop (m_l_szRuleS_l1 N x) x (by omega) totTRule (fun y _ => totTRule_nn y) (fun y l => m_l_szRule N y l) (fun y hy l g0 g1 => sz_m_l_szRule hN y (w.2 y hy) l g0 g1) (fun k l i => rfl) N 0 (left - (x.length : Int)) (by omega) (by omega) (by omega) (by omega)
    refine ⟨v, hv, ?_⟩
    rw [List.drop_zero] at hs
    rcases hs with hs | ⟨hs0, hs⟩
    · exact .inl hs
    · exact .inr ⟨hs0, by omega⟩
theorem sz_m_l_szDef {N : Nat} (hN : 1099000000000 ≤ N) (x : TDef) (w : WfTDef x) (left : Int) (h0 : 0 ≤ left) (h1 : left ≤ 1048576) : ∃ v, m_l_szDef N x left = some v ∧ Szd v left (totTDef x) := by
  obtain ⟨w0, w1⟩ := w
  unfold m_l_szDef
  unfold totTDef
  have := sum_nonneg totTRule x.Rules (fun y _ => totTRule_nn y)
  have hl0 := w0; unfold WfS maxLen at hl0
  have e0 : IntKind.i64.wrap (left - (x.Name.size : Int)) = left - (x.Name.size : Int) := wr (by omega) (by omega)
  simp only [e0]
  by_cases c0 : (left - (x.Name.size : Int)) < 0
  · rw [if_pos (by simpa using c0)]; exact ⟨-1, rfl, .inl (by omega)⟩
  rw [if_neg (by simpa using c0)]
  obtain ⟨v1, hv1, hs1⟩ := sz_m_l_szRuleS hN x.Rules w1 (left - (x.Name.size : Int)) (by omega) (by omega)
  rw [hv1]; simp only [Option.bind_some]
  by_cases c1 : v1 < 0
  · rw [if_pos (by simpa using c1)]; exact ⟨-1, rfl, .inl (by omega)⟩
  rw [if_neg (by simpa using c1)]
  replace hs1 := hs1.resolve_left c1
  exact ⟨_, rfl, .inr ⟨by omega, by omega⟩⟩
def LimTPat (x : TPat) : Prop := (x.Args.length ≤ 4294967296)
theorem LimTPat_of (x : TPat) (h : totTPat x ≤ 1048576) : LimTPat x := by
  unfold totTPat at h
  have nn_Args : ∀ y ∈ x.Args, 0 ≤ totTArg y := fun y _ => totTArg_nn y
  have := sum_nonneg _ _ nn_Args
  unfold LimTPat; omega
def LimTAct (x : TAct) : Prop := (x.Args.length ≤ 4294967296)
theorem LimTAct_of (x : TAct) (h : totTAct x ≤ 1048576) : LimTAct x := by
  unfold totTAct at h
  have nn_Args : ∀ y ∈ x.Args, 0 ≤ totTExpr y := fun y _ => totTExpr_nn y
  have := sum_nonneg _ _ nn_Args
  unfold LimTAct; omega
def LimTRule (x : TRule) : Prop := (x.Pats.length ≤ 4294967296 ∧ ∀ y ∈ x.Pats, LimTPat y) ∧ (x.Conds.length ≤ 4294967296) ∧ (x.Acts.length ≤ 4294967296 ∧ ∀ y ∈ x.Acts, LimTAct y)
theorem LimTRule_of (x : TRule) (h : totTRule x ≤ 1048576) : LimTRule x := by
  unfold totTRule at h
  have nn_Pats : ∀ y ∈ x.Pats, 0 ≤ totTPat y := fun y _ => totTPat_nn y
  have := sum_nonneg _ _ nn_Pats
  have nn_Conds : ∀ y ∈ x.Conds, 0 ≤ totTCond y := fun y _ => totTCond_nn y
  have := sum_nonneg _ _ nn_Conds
  have nn_Acts : ∀ y ∈ x.Acts, 0 ≤ totTAct y := fun y _ => totTAct_nn y
  have := sum_nonneg _ _ nn_Acts
  exact ⟨⟨by omega, fun y hy => LimTPat_of y (by have := sum_mem _ _ nn_Pats y hy; omega)⟩, by omega, ⟨by omega, fun y hy => LimTAct_of y (by have := sum_mem _ _ nn_Acts y hy; omega)⟩⟩
def LimTDef (x : TDef) : Prop := (x.Rules.length ≤ 4294967296 ∧ ∀ y ∈ x.Rules, LimTRule y)
theorem LimTDef_of (x : TDef) (h : totTDef x ≤ 1048576) : LimTDef x := by
  unfold totTDef at h
  have nn_Rules : ∀ y ∈ x.Rules, 0 ≤ totTRule y := fun y _ => totTRule_nn y
  have := sum_nonneg _ _ nn_Rules
  exact ⟨by omega, fun y hy => LimTRule_of y (by have := sum_mem _ _ nn_Rules y hy; omega)⟩
theorem to_m_l_toVal {N : Nat} (hN : 1099000000000 ≤ N) (x : TVal) : m_l_toVal N x = some x := by
  unfold m_l_toVal
  rfl
theorem to_m_l_toArg {N : Nat} (hN : 1099000000000 ≤ N) (x : TArg) : m_l_toArg N x = some x := by
  unfold m_l_toArg
  rw [to_m_l_toVal hN _, Option.bind_some]
theorem to_m_l_toArgS {N : Nat} (hN : 1099000000000 ≤ N) (x : (List TArg)) (h : (x.length ≤ 4294967296)) : m_l_toArgS N x = some x := by
  have hl : x.length ≤ 4294967296 := h
  unfold m_l_toArgS
  rw [mk_nat _ (by omega), Option.bind_some]
  refine (toloop (m_l_toArgS_l1 N x) x (by omega) (fun y => m_l_toArg N y) (fun y hy => to_m_l_toArg hN y) (fun k s i => rfl) N 0 _ (by simp) (by omega) (by omega)).trans ?_
  simp
theorem to_m_l_toPat {N : Nat} (hN : 1099000000000 ≤ N) (x : TPat) (h : LimTPat x) : m_l_toPat N x = some x := by
  unfold m_l_toPat
  rw [to_m_l_toArgS hN _ (h), Option.bind_some]
theorem to_m_l_toPatS {N : Nat} (hN : 1099000000000 ≤ N) (x : (List TPat)) (h : (x.length ≤ 4294967296 ∧ ∀ y ∈ x, LimTPat y)) : m_l_toPatS N x = some x := by
  have hl : x.length ≤ 4294967296 := h.1
  unfold m_l_toPatS
  rw [mk_nat _ (by omega), Option.bind_some]
  refine (toloop (m_l_toPatS_l1 N x) x (by omega) (fun y => m_l_toPat N y) (fun y hy => to_m_l_toPat hN y (h.2 y hy)) (fun k s i => rfl) N 0 _ (by simp) (by omega) (by omega)).trans ?_
  simp
theorem to_m_l_toCond {N : Nat} (hN : 1099000000000 ≤ N) (x : TCond) : m_l_toCond N x = some x := by
  unfold m_l_toCond
  rw [to_m_l_toArg hN _, Option.bind_some, to_m_l_toArg hN _, Option.bind_some]
theorem to_m_l_toCondS {N : Nat} (hN : 1099000000000 ≤ N) (x : (List TCond)) (h : (x.length ≤ 4294967296)) : m_l_toCondS N x = some x := by
  have hl : x.length ≤ 4294967296 := h
  unfold m_l_toCondS
  rw [mk_nat _ (by omega), Option.bind_some]
  refine (toloop (m_l_toCondS_l1 N x) x (by omega) (fun y => m_l_toCond N y) (fun y hy => to_m_l_toCond hN y) (fun k s i => rfl) N 0 _ (by simp) (by omega) (by omega)).trans ?_
  simp
theorem to_m_l_toExpr {N : Nat} (hN : 1099000000000 ≤ N) (x : TExpr) : m_l_toExpr N x = some x := by
  unfold m_l_toExpr
  rw [to_m_l_toArg hN _, Option.bind_some, to_m_l_toArg hN _, Option.bind_some]
theorem to_m_l_toExprS {N : Nat} (hN : 1099000000000 ≤ N) (x : (List TExpr)) (h : (x.length ≤ 4294967296)) : m_l_toExprS N x = some x := by
  have hl : x.length ≤ 4294967296 := h
  unfold m_l_toExprS
  rw [mk_nat _ (by omega), Option.bind_some]
  refine (toloop (m_l_toExprS_l1 N x) x (by omega) (fun y => m_l_toExpr N y) (fun y hy => to_m_l_toExpr hN y) (fun k s i => rfl) N 0 _ (by simp) (by omega) (by omega)).trans ?_
  simp
theorem to_m_l_toAct {N : Nat} (hN : 1099000000000 ≤ N) (x : TAct) (h : LimTAct x) : m_l_toAct N x = some x := by
  unfold m_l_toAct
  rw [to_m_l_toExprS hN _ (h), Option.bind_some]
theorem to_m_l_toActS {N : Nat} (hN : 1099000000000 ≤ N) (x : (List TAct)) (h : (x.length ≤ 4294967296 ∧ ∀ y ∈ x, LimTAct y)) : m_l_toActS N x = some x := by
  have hl : x.length ≤ 4294967296 := h.1
  unfold m_l_toActS
  rw [mk_nat _ (by omega), Option.bind_some]
  refine (toloop (m_l_toActS_l1 N x) x (by omega) (fun y => m_l_toAct N y) (fun y hy => to_m_l_toAct hN y (h.2 y hy)) (fun k s i => rfl) N 0 _ (by simp) (by omega) (by omega)).trans ?_
  simp
theorem to_m_l_toRule {N : Nat} (hN : 1099000000000 ≤ N) (x : TRule) (h : LimTRule x) : m_l_toRule N x = some x := by
  unfold m_l_toRule
  rw [to_m_l_toPatS hN _ (h.1), Option.bind_some, to_m_l_toCondS hN _ (h.2.1), Option.bind_some, to_m_l_toActS hN _ (h.2.2), Option.bind_some]
theorem to_m_l_toRuleS {N : Nat} (hN : 1099000000000 ≤ N) (x : (List TRule)) (h : (x.length ≤ 4294967296 ∧ ∀ y ∈ x, LimTRule y)) : m_l_toRuleS N x = some x := by
  have hl : x.length ≤ 4294967296 := h.1
  unfold m_l_toRuleS
  rw [mk_nat _ (by omega), Option.bind_some]
  refine (toloop (m_l_toRuleS_l1 N x) x (by omega) (fun y => m_l_toRule N y) (fun y hy => to_m_l_toRule hN y (h.2 y hy)) (fun k s i => rfl) N 0 _ (by simp) (by omega) (by omega)).trans ?_
  simp
theorem to_m_l_toDef {N : Nat} (hN : 1099000000000 ≤ N) (x : TDef) (h : LimTDef x) : m_l_toDef N x = some x := by
  unfold m_l_toDef
  rw [to_m_l_toRuleS hN _ (h), Option.bind_some]
def LimTAlpha (x : TAlpha) : Prop := (x.Consts.length ≤ 4294967296) ∧ (x.At.length ≤ 4294967296)
theorem LimTAlpha_of (x : TAlpha) (h : totTAlpha x ≤ 1048576) : LimTAlpha x := by
  unfold totTAlpha at h
  have nn_Consts : ∀ y ∈ x.Consts, 0 ≤ totTVal y := fun y _ => totTVal_nn y
  have := sum_nonneg _ _ nn_Consts
  exact ⟨by omega, by omega⟩
def LimTChain (x : TChain) : Prop := (x.Pos.length ≤ 4294967296) ∧ (x.Neg.length ≤ 4294967296)
theorem LimTChain_of (x : TChain) (h : totTChain x ≤ 1048576) : LimTChain x := by
  unfold totTChain at h
  exact ⟨by omega, by omega⟩
def LimTNet (x : TNet) : Prop := (x.Alphas.length ≤ 4294967296 ∧ ∀ y ∈ x.Alphas, LimTAlpha y) ∧ (x.Chains.length ≤ 4294967296 ∧ ∀ y ∈ x.Chains, LimTChain y)
theorem LimTNet_of (x : TNet) (h : totTNet x ≤ 1048576) : LimTNet x := by
  unfold totTNet at h
  have nn_Alphas : ∀ y ∈ x.Alphas, 0 ≤ totTAlpha y := fun y _ => totTAlpha_nn y
  have := sum_nonneg _ _ nn_Alphas
  have nn_Chains : ∀ y ∈ x.Chains, 0 ≤ totTChain y := fun y _ => totTChain_nn y
  have := sum_nonneg _ _ nn_Chains
  exact ⟨⟨by omega, fun y hy => LimTAlpha_of y (by have := sum_mem _ _ nn_Alphas y hy; omega)⟩, ⟨by omega, fun y hy => LimTChain_of y (by have := sum_mem _ _ nn_Chains y hy; omega)⟩⟩
theorem eq_m_l_eqVal {N : Nat} (hN : 1099000000000 ≤ N) (x y : TVal) : m_l_eqVal N x y = some (decide (x = y)) := by
  unfold m_l_eqVal
  simp only [seq_eq, Option.bind_some]
  obtain ⟨a0, a1, a2⟩ := x; obtain ⟨b0, b1, b2⟩ := y
  simp only [TVal.mk.injEq]
  by_cases c0 : a0 = b0
  · subst c0
    by_cases c1 : a1 = b1
    · subst c1
      by_cases c2 : a2 = b2
      · subst c2
        simp
      · simp [c2]
    · simp [c1]
  · simp [c0]
theorem eq_m_l_eqValS {N : Nat} (hN : 1099000000000 ≤ N) (x y : (List TVal)) (h : (x.length ≤ 4294967296)) : m_l_eqValS N x y = some (decide (x = y)) := by
  have hl : x.length ≤ 4294967296 := h
  unfold m_l_eqValS
  by_cases c : x.length = y.length
  · rw [if_neg (by simp; omega)]
    refine (eqloop (m_l_eqValS_l1 N x y) x y c (by omega) (fun a b => m_l_eqVal N a b) (fun a ha b hb => eq_m_l_eqVal hN a b) (fun k i => rfl) N 0 (by omega) (by omega)).trans ?_
    simp
  · rw [if_pos (by simp; omega)]
    have : ¬ x = y := fun e => c (by rw [e])
    simp [this]
theorem eq_m_l_eqIntS {N : Nat} (hN : 1099000000000 ≤ N) (x y : (List Int)) (h : (x.length ≤ 4294967296)) : m_l_eqIntS N x y = some (decide (x = y)) := by
  have hl : x.length ≤ 4294967296 := h
  unfold m_l_eqIntS
  by_cases c : x.length = y.length
  · rw [if_neg (by simp; omega)]
    refine (eqloop (m_l_eqIntS_l1 N x y) x y c (by omega) (fun a b => some (decide (a = b))) (fun a _ b _ => rfl) (fun k i => rfl) N 0 (by omega) (by omega)).trans ?_
    simp
  · rw [if_pos (by simp; omega)]
    have : ¬ x = y := fun e => c (by rw [e])
    simp [this]
theorem eq_m_l_eqAlpha {N : Nat} (hN : 1099000000000 ≤ N) (x y : TAlpha) (h : LimTAlpha x) : m_l_eqAlpha N x y = some (decide (x = y)) := by
  unfold m_l_eqAlpha
  rw [eq_m_l_eqValS hN _ _ (h.1), eq_m_l_eqIntS hN _ _ (h.2)]
  simp only [seq_eq, Option.bind_some]
  obtain ⟨a0, a1, a2, a3⟩ := x; obtain ⟨b0, b1, b2, b3⟩ := y
  simp only [TAlpha.mk.injEq]
  by_cases c0 : a0 = b0
  · subst c0
    by_cases c1 : a1 = b1
    · subst c1
      by_cases c2 : a2 = b2
      · subst c2
        by_cases c3 : a3 = b3
        · subst c3
          simp
        · simp [c3]
      · simp [c2]
    · simp [c1]
  · simp [c0]
theorem eq_m_l_eqAlphaS {N : Nat} (hN : 1099000000000 ≤ N) (x y : (List TAlpha)) (h : (x.length ≤ 4294967296 ∧ ∀ y ∈ x, LimTAlpha y)) : m_l_eqAlphaS N x y = some (decide (x = y)) := by
  have hl : x.length ≤ 4294967296 := h.1
  unfold m_l_eqAlphaS
  by_cases c : x.length = y.length
  · rw [if_neg (by simp; omega)]
    refine (eqloop (m_l_eqAlphaS_l1 N x y) x y c (by omega) (fun a b => m_l_eqAlpha N a b) (fun a ha b hb => eq_m_l_eqAlpha hN a b (h.2 a ha)) (fun k i => rfl) N 0 (by omega) (by omega)).trans ?_
    simp
  · rw [if_pos (by simp; omega)]
    have : ¬ x = y := fun e => c (by rw [e])
    simp [this]
theorem eq_m_l_eqChain {N : Nat} (hN : 1099000000000 ≤ N) (x y : TChain) (h : LimTChain x) : m_l_eqChain N x y = some (decide (x = y)) := by
  unfold m_l_eqChain
  rw [eq_m_l_eqIntS hN _ _ (h.1), eq_m_l_eqIntS hN _ _ (h.2)]
  simp only [seq_eq, Option.bind_some]
  obtain ⟨a0, a1⟩ := x; obtain ⟨b0, b1⟩ := y
  simp only [TChain.mk.injEq]
  by_cases c0 : a0 = b0
  · subst c0
    by_cases c1 : a1 = b1
    · subst c1
      simp
    · simp [c1]
  · simp [c0]
theorem eq_m_l_eqChainS {N : Nat} (hN : 1099000000000 ≤ N) (x y : (List TChain)) (h : (x.length ≤ 4294967296 ∧ ∀ y ∈ x, LimTChain y)) : m_l_eqChainS N x y = some (decide (x = y)) := by
  have hl : x.length ≤ 4294967296 := h.1
  unfold m_l_eqChainS
  by_cases c : x.length = y.length
  · rw [if_neg (by simp; omega)]
    refine (eqloop (m_l_eqChainS_l1 N x y) x y c (by omega) (fun a b => m_l_eqChain N a b) (fun a ha b hb => eq_m_l_eqChain hN a b (h.2 a ha)) (fun k i => rfl) N 0 (by omega) (by omega)).trans ?_
    simp
  · rw [if_pos (by simp; omega)]
    have : ¬ x = y := fun e => c (by rw [e])
    simp [this]
theorem eq_m_l_eqNet {N : Nat} (hN : 1099000000000 ≤ N) (x y : TNet) (h : LimTNet x) : m_l_eqNet N x y = some (decide (x = y)) := by
  unfold m_l_eqNet
  rw [eq_m_l_eqAlphaS hN _ _ (h.1), eq_m_l_eqChainS hN _ _ (h.2)]
  simp only [seq_eq, Option.bind_some]
  obtain ⟨a0, a1⟩ := x; obtain ⟨b0, b1⟩ := y
  simp only [TNet.mk.injEq]
  by_cases c0 : a0 = b0
  · subst c0
    by_cases c1 : a1 = b1
    · subst c1
      simp
    · simp [c1]
  · simp [c0]
theorem eq_m_l_eqArg {N : Nat} (hN : 1099000000000 ≤ N) (x y : TArg) : m_l_eqArg N x y = some (decide (x = y)) := by
  unfold m_l_eqArg
  rw [eq_m_l_eqVal hN _ _]
  simp only [seq_eq, Option.bind_some]
  obtain ⟨a0, a1, a2⟩ := x; obtain ⟨b0, b1, b2⟩ := y
  simp only [TArg.mk.injEq]
  by_cases c0 : a0 = b0
  · subst c0
    by_cases c1 : a1 = b1
    · subst c1
      by_cases c2 : a2 = b2
      · subst c2
        simp
      · simp [c2]
    · simp [c1]
  · simp [c0]
theorem eq_m_l_eqArgS {N : Nat} (hN : 1099000000000 ≤ N) (x y : (List TArg)) (h : (x.length ≤ 4294967296)) : m_l_eqArgS N x y = some (decide (x = y)) := by
  have hl : x.length ≤ 4294967296 := h
  unfold m_l_eqArgS
  by_cases c : x.length = y.length
  · rw [if_neg (by simp; omega)]
    refine (eqloop (m_l_eqArgS_l1 N x y) x y c (by omega) (fun a b => m_l_eqArg N a b) (fun a ha b hb => eq_m_l_eqArg hN a b) (fun k i => rfl) N 0 (by omega) (by omega)).trans ?_
    simp
  · rw [if_pos (by simp; omega)]
    have : ¬ x = y := fun e => c (by rw [e])
    simp [this]
theorem eq_m_l_eqPat {N : Nat} (hN : 1099000000000 ≤ N) (x y : TPat) (h : LimTPat x) : m_l_eqPat N x y = some (decide (x = y)) := by
  unfold m_l_eqPat
  rw [eq_m_l_eqArgS hN _ _ (h)]
  simp only [seq_eq, Option.bind_some]
  obtain ⟨a0, a1, a2⟩ := x; obtain ⟨b0, b1, b2⟩ := y
  simp only [TPat.mk.injEq]
  by_cases c0 : a0 = b0
  · subst c0
    by_cases c1 : a1 = b1
    · subst c1
      by_cases c2 : a2 = b2
      · subst c2
        simp
      · simp [c2]
    · simp [c1]
  · simp [c0]
theorem eq_m_l_eqPatS {N : Nat} (hN : 1099000000000 ≤ N) (x y : (List TPat)) (h : (x.length ≤ 4294967296 ∧ ∀ y ∈ x, LimTPat y)) : m_l_eqPatS N x y = some (decide (x = y)) := by
  have hl : x.length ≤ 4294967296 := h.1
  unfold m_l_eqPatS
  by_cases c : x.length = y.length
  · rw [if_neg (by simp; omega)]
    refine (eqloop (m_l_eqPatS_l1 N x y) x y c (by omega) (fun a b => m_l_eqPat N a b) (fun a ha b hb => eq_m_l_eqPat hN a b (h.2 a ha)) (fun k i => rfl) N 0 (by omega) (by omega)).trans ?_
    simp
  · rw [if_pos (by simp; omega)]
    have : ¬ x = y := fun e => c (by rw [e])
    simp [this]
theorem eq_m_l_eqCond {N : Nat} (hN : 1099000000000 ≤ N) (x y : TCond) : m_l_eqCond N x y = some (decide (x = y)) := by
  unfold m_l_eqCond
  rw [eq_m_l_eqArg hN _ _, eq_m_l_eqArg hN _ _]
  simp only [seq_eq, Option.bind_some]
  obtain ⟨a0, a1, a2⟩ := x; obtain ⟨b0, b1, b2⟩ := y
  simp only [TCond.mk.injEq]
  by_cases c0 : a0 = b0
  · subst c0
    by_cases c1 : a1 = b1
    · subst c1
      by_cases c2 : a2 = b2
      · subst c2
        simp
      · simp [c2]
    · simp [c1]
  · simp [c0]
theorem eq_m_l_eqCondS {N : Nat} (hN : 1099000000000 ≤ N) (x y : (List TCond)) (h : (x.length ≤ 4294967296)) : m_l_eqCondS N x y = some (decide (x = y)) := by
  have hl : x.length ≤ 4294967296 := h
  unfold m_l_eqCondS
  by_cases c : x.length = y.length
  · rw [if_neg (by simp; omega)]
    refine (eqloop (m_l_eqCondS_l1 N x y) x y c (by omega) (fun a b => m_l_eqCond N a b) (fun a ha b hb => eq_m_l_eqCond hN a b) (fun k i => rfl) N 0 (by omega) (by omega)).trans ?_
    simp
  · rw [if_pos (by simp; omega)]
    have : ¬ x = y := fun e => c (by rw [e])
    simp [this]
theorem eq_m_l_eqExpr {N : Nat} (hN : 1099000000000 ≤ N) (x y : TExpr) : m_l_eqExpr N x y = some (decide (x = y)) := by
  unfold m_l_eqExpr
  rw [eq_m_l_eqArg hN _ _, eq_m_l_eqArg hN _ _]
  simp only [seq_eq, Option.bind_some]
  obtain ⟨a0, a1, a2⟩ := x; obtain ⟨b0, b1, b2⟩ := y
  simp only [TExpr.mk.injEq]
  by_cases c0 : a0 = b0
  · subst c0
    by_cases c1 : a1 = b1
    · subst c1
      by_cases c2 : a2 = b2
      · subst c2
        simp
      · simp [c2]
    · simp [c1]
  · simp [c0]
theorem eq_m_l_eqExprS {N : Nat} (hN : 1099000000000 ≤ N) (x y : (List TExpr)) (h : (x.length ≤ 4294967296)) : m_l_eqExprS N x y = some (decide (x = y)) := by
  have hl : x.length ≤ 4294967296 := h
  unfold m_l_eqExprS
  by_cases c : x.length = y.length
  · rw [if_neg (by simp; omega)]
    refine (eqloop (m_l_eqExprS_l1 N x y) x y c (by omega) (fun a b => m_l_eqExpr N a b) (fun a ha b hb => eq_m_l_eqExpr hN a b) (fun k i => rfl) N 0 (by omega) (by omega)).trans ?_
    simp
  · rw [if_pos (by simp; omega)]
    have : ¬ x = y := fun e => c (by rw [e])
    simp [this]
theorem eq_m_l_eqAct {N : Nat} (hN : 1099000000000 ≤ N) (x y : TAct) (h : LimTAct x) : m_l_eqAct N x y = some (decide (x = y)) := by
  unfold m_l_eqAct
  rw [eq_m_l_eqExprS hN _ _ (h)]
  simp only [seq_eq, Option.bind_some]
  obtain ⟨a0, a1, a2, a3, a4⟩ := x; obtain ⟨b0, b1, b2, b3, b4⟩ := y
  simp only [TAct.mk.injEq]
  by_cases c0 : a0 = b0
  · subst c0
    by_cases c1 : a1 = b1
    · subst c1
      by_cases c2 : a2 = b2
      · subst c2
        by_cases c3 : a3 = b3
        · subst c3
          by_cases c4 : a4 = b4
          · subst c4
            simp
          · simp [c4]
        · simp [c3]
      · simp [c2]
    · simp [c1]
  · simp [c0]
theorem eq_m_l_eqActS {N : Nat} (hN : 1099000000000 ≤ N) (x y : (List TAct)) (h : (x.length ≤ 4294967296 ∧ ∀ y ∈ x, LimTAct y)) : m_l_eqActS N x y = some (decide (x = y)) := by
  have hl : x.length ≤ 4294967296 := h.1
  unfold m_l_eqActS
  by_cases c : x.length = y.length
  · rw [if_neg (by simp; omega)]
    refine (eqloop (m_l_eqActS_l1 N x y) x y c (by omega) (fun a b => m_l_eqAct N a b) (fun a ha b hb => eq_m_l_eqAct hN a b (h.2 a ha)) (fun k i => rfl) N 0 (by omega) (by omega)).trans ?_
    simp
  · rw [if_pos (by simp; omega)]
    have : ¬ x = y := fun e => c (by rw [e])
    simp [this]
theorem eq_m_l_eqRule {N : Nat} (hN : 1099000000000 ≤ N) (x y : TRule) (h : LimTRule x) : m_l_eqRule N x y = some (decide (x = y)) := by
  unfold m_l_eqRule
  rw [eq_m_l_eqPatS hN _ _ (h.1), eq_m_l_eqCondS hN _ _ (h.2.1), eq_m_l_eqActS hN _ _ (h.2.2)]
  simp only [seq_eq, Option.bind_some]
  obtain ⟨a0, a1, a2, a3, a4⟩ := x; obtain ⟨b0, b1, b2, b3, b4⟩ := y
  simp only [TRule.mk.injEq]
  by_cases c0 : a0 = b0
  · subst c0
    by_cases c1 : a1 = b1
    · subst c1
      by_cases c2 : a2 = b2
      · subst c2
        by_cases c3 : a3 = b3
        · subst c3
          by_cases c4 : a4 = b4
          · subst c4
            simp
          · simp [c4]
        · simp [c3]
      · simp [c2]
    · simp [c1]
  · simp [c0]
theorem eq_m_l_eqRuleS {N : Nat} (hN : 1099000000000 ≤ N) (x y : (List TRule)) (h : (x.length ≤ 4294967296 ∧ ∀ y ∈ x, LimTRule y)) : m_l_eqRuleS N x y = some (decide (x = y)) := by
  have hl : x.length ≤ 4294967296 := h.1
  unfold m_l_eqRuleS
  by_cases c : x.length = y.length
  · rw [if_neg (by simp; omega)]
    refine (eqloop (m_l_eqRuleS_l1 N x y) x y c (by omega) (fun a b => m_l_eqRule N a b) (fun a ha b hb => eq_m_l_eqRule hN a b (h.2 a ha)) (fun k i => rfl) N 0 (by omega) (by omega)).trans ?_
    simp
  · rw [if_pos (by simp; omega)]
    have : ¬ x = y := fun e => c (by rw [e])
    simp [this]
theorem eq_m_l_eqDef {N : Nat} (hN : 1099000000000 ≤ N) (x y : TDef) (h : LimTDef x) : m_l_eqDef N x y = some (decide (x = y)) := by
  unfold m_l_eqDef
  rw [eq_m_l_eqRuleS hN _ _ (h)]
  simp only [seq_eq, Option.bind_some]
  obtain ⟨a0, a1⟩ := x; obtain ⟨b0, b1⟩ := y
  simp only [TDef.mk.injEq]
  by_cases c0 : a0 = b0
  · subst c0
    by_cases c1 : a1 = b1
    · subst c1
      simp
    · simp [c1]
  · simp [c0]
theorem mtx {N : Nat} (hN : 1099000000000 ≤ N) (k : Int) (h0 : 0 ≤ k) (h1 : k ≤ big62) : ∃ t, m_l_markText N k = some t := by
  unfold m_l_markText
  by_cases c : k ≤ 0
  · rw [if_pos (by simpa using c)]; exact ⟨_, rfl⟩
  · rw [if_neg (by simpa using c)]
    obtain ⟨m, hm⟩ : ∃ m, N = 20 + 1 + m := ⟨N - 21, by omega⟩
    have := mtxloop (m_l_markText_l1 N) (fun n s t => by simp only [m_l_markText_l1]) 20 m k (⟨#[]⟩ : ByteArray) h0 h1 (by unfold big62 at h1; omega) (by decide)
    rw [← hm] at this; exact this
def cntTArg (x : TArg) : Int := 1 + 1 + 1 + 1 + 1
theorem cntTArg_nn (x : TArg) : 0 ≤ cntTArg x := by
  unfold cntTArg
  omega
theorem cntTArg_le (x : TArg) : cntTArg x ≤ 32 + 32 * (totTArg x) := by
  unfold cntTArg totTArg totTVal
  omega
def HdTArg (N : Nat) (x : TArg) (k : Int) : Prop := x.K = k ∧ m_l_markText N (k + 1) = some x.S ∧ x.V.K = ((k + 1) + 1) ∧ x.V.N = (((k + 1) + 1) + 1) ∧ m_l_markText N ((((k + 1) + 1) + 1) + 1) = some x.V.S
def cntTPat (x : TPat) : Int := 1 + cntL cntTArg x.Args + 1
theorem cntTPat_nn (x : TPat) : 0 ≤ cntTPat x := by
  unfold cntTPat
  have := cntL_nn cntTArg_nn x.Args
  omega
theorem cntTPat_le (x : TPat) : cntTPat x ≤ 32 + 32 * (totTPat x) := by
  have := cntL_le (p := x.Args) (tot := totTArg) (fun y _ => cntTArg_le y)
  have := sum_nonneg totTArg x.Args (fun y _ => totTArg_nn y)
  unfold cntTPat totTPat
  omega
def HdTPat (N : Nat) (x : TPat) (k : Int) : Prop := m_l_markText N k = some x.Kind ∧ HdL (HdTArg N) cntTArg x.Args (k + 1) ∧ x.Not = decide (((k + 1) + cntL cntTArg x.Args).tmod 3 = 0)
def cntTCond (x : TCond) : Int := 1 + 1 + 1 + 1 + 1 + 1 + 1 + 1 + 1 + 1 + 1
theorem cntTCond_nn (x : TCond) : 0 ≤ cntTCond x := by
  unfold cntTCond
  omega
theorem cntTCond_le (x : TCond) : cntTCond x ≤ 32 + 32 * (totTCond x) := by
  unfold cntTCond totTCond totTArg totTVal
  omega
def HdTCond (N : Nat) (x : TCond) (k : Int) : Prop := x.Op = k ∧ x.L.K = (k + 1) ∧ m_l_markText N ((k + 1) + 1) = some x.L.S ∧ x.L.V.K = (((k + 1) + 1) + 1) ∧ x.L.V.N = ((((k + 1) + 1) + 1) + 1) ∧ m_l_markText N (((((k + 1) + 1) + 1) + 1) + 1) = some x.L.V.S ∧ x.R.K = ((((((k + 1) + 1) + 1) + 1) + 1) + 1) ∧ m_l_markText N (((((((k + 1) + 1) + 1) + 1) + 1) + 1) + 1) = some x.R.S ∧ x.R.V.K = ((((((((k + 1) + 1) + 1) + 1) + 1) + 1) + 1) + 1) ∧ x.R.V.N = (((((((((k + 1) + 1) + 1) + 1) + 1) + 1) + 1) + 1) + 1) ∧ m_l_markText N ((((((((((k + 1) + 1) + 1) + 1) + 1) + 1) + 1) + 1) + 1) + 1) = some x.R.V.S
def cntTExpr (x : TExpr) : Int := 1 + 1 + 1 + 1 + 1 + 1 + 1 + 1 + 1 + 1 + 1
theorem cntTExpr_nn (x : TExpr) : 0 ≤ cntTExpr x := by
  unfold cntTExpr
  omega
theorem cntTExpr_le (x : TExpr) : cntTExpr x ≤ 32 + 32 * (totTExpr x) := by
  unfold cntTExpr totTExpr totTArg totTVal
  omega
def HdTExpr (N : Nat) (x : TExpr) (k : Int) : Prop := m_l_markText N k = some x.Op ∧ x.L.K = (k + 1) ∧ m_l_markText N ((k + 1) + 1) = some x.L.S ∧ x.L.V.K = (((k + 1) + 1) + 1) ∧ x.L.V.N = ((((k + 1) + 1) + 1) + 1) ∧ m_l_markText N (((((k + 1) + 1) + 1) + 1) + 1) = some x.L.V.S ∧ x.R.K = ((((((k + 1) + 1) + 1) + 1) + 1) + 1) ∧ m_l_markText N (((((((k + 1) + 1) + 1) + 1) + 1) + 1) + 1) = some x.R.S ∧ x.R.V.K = ((((((((k + 1) + 1) + 1) + 1) + 1) + 1) + 1) + 1) ∧ x.R.V.N = (((((((((k + 1) + 1) + 1) + 1) + 1) + 1) + 1) + 1) + 1) ∧ m_l_markText N ((((((((((k + 1) + 1) + 1) + 1) + 1) + 1) + 1) + 1) + 1) + 1) = some x.R.V.S
def cntTAct (x : TAct) : Int := 1 + 1 + cntL cntTExpr x.Args + 1 + 1
theorem cntTAct_nn (x : TAct) : 0 ≤ cntTAct x := by
  unfold cntTAct
  have := cntL_nn cntTExpr_nn x.Args
  omega
theorem cntTAct_le (x : TAct) : cntTAct x ≤ 32 + 32 * (totTAct x) := by
  have := cntL_le (p := x.Args) (tot := totTExpr) (fun y _ => cntTExpr_le y)
  have := sum_nonneg totTExpr x.Args (fun y _ => totTExpr_nn y)
  unfold cntTAct totTAct
  omega
def HdTAct (N : Nat) (x : TAct) (k : Int) : Prop := x.Kind = k ∧ m_l_markText N (k + 1) = some x.Name ∧ HdL (HdTExpr N) cntTExpr x.Args ((k + 1) + 1) ∧ x.N = (((k + 1) + 1) + cntL cntTExpr x.Args) ∧ m_l_markText N ((((k + 1) + 1) + cntL cntTExpr x.Args) + 1) = some x.Undo
def cntTRule (x : TRule) : Int := 1 + 1 + cntL cntTPat x.Pats + cntL cntTCond x.Conds + cntL cntTAct x.Acts
theorem cntTRule_nn (x : TRule) : 0 ≤ cntTRule x := by
  unfold cntTRule
  have := cntL_nn cntTPat_nn x.Pats
  have := cntL_nn cntTCond_nn x.Conds
  have := cntL_nn cntTAct_nn x.Acts
  omega
theorem cntTRule_le (x : TRule) : cntTRule x ≤ 32 + 32 * (totTRule x) := by
  have := cntL_le (p := x.Pats) (tot := totTPat) (fun y _ => cntTPat_le y)
  have := sum_nonneg totTPat x.Pats (fun y _ => totTPat_nn y)
  have := cntL_le (p := x.Conds) (tot := totTCond) (fun y _ => cntTCond_le y)
  have := sum_nonneg totTCond x.Conds (fun y _ => totTCond_nn y)
  have := cntL_le (p := x.Acts) (tot := totTAct) (fun y _ => cntTAct_le y)
  have := sum_nonneg totTAct x.Acts (fun y _ => totTAct_nn y)
  unfold cntTRule totTRule
  omega
def HdTRule (N : Nat) (x : TRule) (k : Int) : Prop := m_l_markText N k = some x.Name ∧ x.Sal = (k + 1) ∧ HdL (HdTPat N) cntTPat x.Pats ((k + 1) + 1) ∧ HdL (HdTCond N) cntTCond x.Conds (((k + 1) + 1) + cntL cntTPat x.Pats) ∧ HdL (HdTAct N) cntTAct x.Acts ((((k + 1) + 1) + cntL cntTPat x.Pats) + cntL cntTCond x.Conds)
def cntTDef (x : TDef) : Int := 1 + cntL cntTRule x.Rules
theorem cntTDef_nn (x : TDef) : 0 ≤ cntTDef x := by
  unfold cntTDef
  have := cntL_nn cntTRule_nn x.Rules
  omega
theorem cntTDef_le (x : TDef) : cntTDef x ≤ 32 + 32 * (totTDef x) := by
  have := cntL_le (p := x.Rules) (tot := totTRule) (fun y _ => cntTRule_le y)
  have := sum_nonneg totTRule x.Rules (fun y _ => totTRule_nn y)
  unfold cntTDef totTDef
  omega
def HdTDef (N : Nat) (x : TDef) (k : Int) : Prop := m_l_markText N k = some x.Name ∧ HdL (HdTRule N) cntTRule x.Rules (k + 1)
theorem mk_m_l_markArgS {N : Nat} (hN : 1099000000000 ≤ N) (x : (List TArg)) (h : (x.length ≤ 4294967296)) (k : Int) (h0 : 0 ≤ k) (h1 : k + cntL cntTArg x ≤ big62) : ∃ ys, m_l_markArgS N x k = some (k + cntL cntTArg x, ys) ∧ cntL cntTArg ys = cntL cntTArg x ∧ HdL (HdTArg N) cntTArg ys k ∧ (ys.length ≤ 4294967296) := by
  have hl : x.length ≤ 4294967296 := h
  obtain ⟨ys, a1, a2, a3, a4, a5⟩ := mkloop (m_l_markArgS_l1 N) (HdTArg N) cntTArg (fun _ => True) cntTArg_nn (fun n s k i x hx hi hlt h0 h1 h => by
    unfold big62 at h1
    have hcnt : cntTArg x = 1 + 1 + 1 + 1 + 1 := rfl
    rw [hcnt] at h1
    have e0 : IntKind.i64.wrap (k + 1) = k + 1 := wr (by omega) (by omega)
    obtain ⟨t1, m1⟩ := mtx hN (k + 1) (by omega) (by unfold big62; omega)
    have e1 : IntKind.i64.wrap ((k + 1) + 1) = (k + 1) + 1 := wr (by omega) (by omega)
    have e2 : IntKind.i64.wrap (((k + 1) + 1) + 1) = ((k + 1) + 1) + 1 := wr (by omega) (by omega)
    have e3 : IntKind.i64.wrap ((((k + 1) + 1) + 1) + 1) = (((k + 1) + 1) + 1) + 1 := wr (by omega) (by omega)
    obtain ⟨t4, m4⟩ := mtx hN ((((k + 1) + 1) + 1) + 1) (by omega) (by unfold big62; omega)
    have e4 : IntKind.i64.wrap (((((k + 1) + 1) + 1) + 1) + 1) = ((((k + 1) + 1) + 1) + 1) + 1 := wr (by omega) (by omega)
    have cc : decide ((i : Int) < (s.length : Int)) = true := decide_eq_true hlt
    refine ⟨(⟨k, t1, (⟨((k + 1) + 1), (((k + 1) + 1) + 1), t4⟩ : TVal)⟩ : TArg), ?_, ?_, ?_, ?_⟩
    · exact ⟨(by trivial), m1, (by trivial), (by trivial), m4⟩
    · simp only [cntTArg]
    · exact trivial
    · have hp : (((((k + 1) + 1) + 1) + 1) + 1) = k + cntTArg x := by omega
      rw [← hp, ← wr1 i (by omega)]
      simp only [m_l_markArgS_l1, cc, if_true, show idx s (i : Int) = some x from by rw [idx_nat, hx], Option.bind_some, Int.toNat_natCast, e0, m1, e1, e2, e3, m4, e4])
    (fun n s k i hi => by simp only [m_l_markArgS_l1]; rw [if_neg (by simpa using hi)]) N 0 x k hl (by omega) (by omega) h0 (by simpa using h1) (fun _ _ => trivial)
  simp only [List.drop_zero, List.take_zero, List.nil_append] at a1 a3
  exact ⟨ys, a1, a3, a4, by omega⟩
theorem mk_m_l_markPatS {N : Nat} (hN : 1099000000000 ≤ N) (x : (List TPat)) (h : (x.length ≤ 4294967296 ∧ ∀ y ∈ x, LimTPat y)) (k : Int) (h0 : 0 ≤ k) (h1 : k + cntL cntTPat x ≤ big62) : ∃ ys, m_l_markPatS N x k = some (k + cntL cntTPat x, ys) ∧ cntL cntTPat ys = cntL cntTPat x ∧ HdL (HdTPat N) cntTPat ys k ∧ (ys.length ≤ 4294967296 ∧ ∀ y ∈ ys, LimTPat y) := by
  have hl : x.length ≤ 4294967296 := h.1
  obtain ⟨ys, a1, a2, a3, a4, a5⟩ := mkloop (m_l_markPatS_l1 N) (HdTPat N) cntTPat LimTPat cntTPat_nn (fun n s k i x hx hi hlt h0 h1 h => by
    unfold big62 at h1
    have hcnt : cntTPat x = 1 + cntL cntTArg x.Args + 1 := rfl
    rw [hcnt] at h1
    have n1 := cntL_nn cntTArg_nn x.Args
    obtain ⟨t0, m0⟩ := mtx hN k (by omega) (by unfold big62; omega)
    have e0 : IntKind.i64.wrap (k + 1) = k + 1 := wr (by omega) (by omega)
    obtain ⟨y1, m1, c1, d1, l1⟩ := mk_m_l_markArgS hN x.Args (h) (k + 1) (by omega) (by unfold big62; omega)
    have e2 : IntKind.i64.wrap (((k + 1) + cntL cntTArg x.Args) + 1) = ((k + 1) + cntL cntTArg x.Args) + 1 := wr (by omega) (by omega)
    have cc : decide ((i : Int) < (s.length : Int)) = true := decide_eq_true hlt
    refine ⟨(⟨t0, y1, decide (((k + 1) + cntL cntTArg x.Args).tmod 3 = 0)⟩ : TPat), ?_, ?_, ?_, ?_⟩
    · simp only [HdTPat, c1]; exact ⟨m0, d1, (by trivial)⟩
    · simp only [cntTPat, c1]
    · exact l1
    · have hp : (((k + 1) + cntL cntTArg x.Args) + 1) = k + cntTPat x := by omega
      rw [← hp, ← wr1 i (by omega)]
      simp only [m_l_markPatS_l1, cc, if_true, show idx s (i : Int) = some x from by rw [idx_nat, hx], Option.bind_some, Int.toNat_natCast, m0, e0, m1, e2])
    (fun n s k i hi => by simp only [m_l_markPatS_l1]; rw [if_neg (by simpa using hi)]) N 0 x k hl (by omega) (by omega) h0 (by simpa using h1) (h.2)
  simp only [List.drop_zero, List.take_zero, List.nil_append] at a1 a3
  exact ⟨ys, a1, a3, a4, ⟨by omega, a5⟩⟩
theorem mk_m_l_markCondS {N : Nat} (hN : 1099000000000 ≤ N) (x : (List TCond)) (h : (x.length ≤ 4294967296)) (k : Int) (h0 : 0 ≤ k) (h1 : k + cntL cntTCond x ≤ big62) : ∃ ys, m_l_markCondS N x k = some (k + cntL cntTCond x, ys) ∧ cntL cntTCond ys = cntL cntTCond x ∧ HdL (HdTCond N) cntTCond ys k ∧ (ys.length ≤ 4294967296) := by
  have hl : x.length ≤ 4294967296 := h
  obtain ⟨ys, a1, a2, a3, a4, a5⟩ := mkloop (m_l_markCondS_l1 N) (HdTCond N) cntTCond (fun _ => True) cntTCond_nn (fun n s k i x hx hi hlt h0 h1 h => by
    unfold big62 at h1
    have hcnt : cntTCond x = 1 + 1 + 1 + 1 + 1 + 1 + 1 + 1 + 1 + 1 + 1 := rfl
    rw [hcnt] at h1
    have e0 : IntKind.i64.wrap (k + 1) = k + 1 := wr (by omega) (by omega)
    have e1 : IntKind.i64.wrap ((k + 1) + 1) = (k + 1) + 1 := wr (by omega) (by omega)
    obtain ⟨t2, m2⟩ := mtx hN ((k + 1) + 1) (by omega) (by unfold big62; omega)
    have e2 : IntKind.i64.wrap (((k + 1) + 1) + 1) = ((k + 1) + 1) + 1 := wr (by omega) (by omega)
    have e3 : IntKind.i64.wrap ((((k + 1) + 1) + 1) + 1) = (((k + 1) + 1) + 1) + 1 := wr (by omega) (by omega)
    have e4 : IntKind.i64.wrap (((((k + 1) + 1) + 1) + 1) + 1) = ((((k + 1) + 1) + 1) + 1) + 1 := wr (by omega) (by omega)
    obtain ⟨t5, m5⟩ := mtx hN (((((k + 1) + 1) + 1) + 1) + 1) (by omega) (by unfold big62; omega)
    have e5 : IntKind.i64.wrap ((((((k + 1) + 1) + 1) + 1) + 1) + 1) = (((((k + 1) + 1) + 1) + 1) + 1) + 1 := wr (by omega) (by omega)
    have e6 : IntKind.i64.wrap (((((((k + 1) + 1) + 1) + 1) + 1) + 1) + 1) = ((((((k + 1) + 1) + 1) + 1) + 1) + 1) + 1 := wr (by omega) (by omega)
    obtain ⟨t7, m7⟩ := mtx hN (((((((k + 1) + 1) + 1) + 1) + 1) + 1) + 1) (by omega) (by unfold big62; omega)
    have e7 : IntKind.i64.wrap ((((((((k + 1) + 1) + 1) + 1) + 1) + 1) + 1) + 1) = (((((((k + 1) + 1) + 1) + 1) + 1) + 1) + 1) + 1 := wr (by omega) (by omega)
    have e8 : IntKind.i64.wrap (((((((((k + 1) + 1) + 1) + 1) + 1) + 1) + 1) + 1) + 1) = ((((((((k + 1) + 1) + 1) + 1) + 1) + 1) + 1) + 1) + 1 := wr (by omega) (by omega)
    have e9 : IntKind.i64.wrap ((((((((((k + 1) + 1) + 1) + 1) + 1) + 1) + 1) + 1) + 1) + 1) = (((((((((k + 1) + 1) + 1) + 1) + 1) + 1) + 1) + 1) + 1) + 1 := wr (by omega) (by omega)
    obtain ⟨t10, m10⟩ := mtx hN ((((((((((k + 1) + 1) + 1) + 1) + 1) + 1) + 1) + 1) + 1) + 1) (by omega) (by unfold big62; omega)
    have e10 : IntKind.i64.wrap (((((((((((k + 1) + 1) + 1) + 1) + 1) + 1) + 1) + 1) + 1) + 1) + 1) = ((((((((((k + 1) + 1) + 1) + 1) + 1) + 1) + 1) + 1) + 1) + 1) + 1 := wr (by omega) (by omega)
    have cc : decide ((i : Int) < (s.length : Int)) = true := decide_eq_true hlt
    refine ⟨(⟨k, (⟨(k + 1), t2, (⟨(((k + 1) + 1) + 1), ((((k + 1) + 1) + 1) + 1), t5⟩ : TVal)⟩ : TArg), (⟨((((((k + 1) + 1) + 1) + 1) + 1) + 1), t7, (⟨((((((((k + 1) + 1) + 1) + 1) + 1) + 1) + 1) + 1), (((((((((k + 1) + 1) + 1) + 1) + 1) + 1) + 1) + 1) + 1), t10⟩ : TVal)⟩ : TArg)⟩ : TCond), ?_, ?_, ?_, ?_⟩
    · exact ⟨(by trivial), (by trivial), m2, (by trivial), (by trivial), m5, (by trivial), m7, (by trivial), (by trivial), m10⟩
    · simp only [cntTCond]
    · exact trivial
    · have hp : (((((((((((k + 1) + 1) + 1) + 1) + 1) + 1) + 1) + 1) + 1) + 1) + 1) = k + cntTCond x := by omega
      rw [← hp, ← wr1 i (by omega)]
      simp only [m_l_markCondS_l1, cc, if_true, show idx s (i : Int) = some x from by rw [idx_nat, hx], Option.bind_some, Int.toNat_natCast, e0, e1, m2, e2, e3, e4, m5, e5, e6, m7, e7, e8, e9, m10, e10])
    (fun n s k i hi => by simp only [m_l_markCondS_l1]; rw [if_neg (by simpa using hi)]) N 0 x k hl (by omega) (by omega) h0 (by simpa using h1) (fun _ _ => trivial)
  simp only [List.drop_zero, List.take_zero, List.nil_append] at a1 a3
  exact ⟨ys, a1, a3, a4, by omega⟩
theorem mk_m_l_markExprS {N : Nat} (hN : 1099000000000 ≤ N) (x : (List TExpr)) (h : (x.length ≤ 4294967296)) (k : Int) (h0 : 0 ≤ k) (h1 : k + cntL cntTExpr x ≤ big62) : ∃ ys, m_l_markExprS N x k = some (k + cntL cntTExpr x, ys) ∧ cntL cntTExpr ys = cntL cntTExpr x ∧ HdL (HdTExpr N) cntTExpr ys k ∧ (ys.length ≤ 4294967296) := by
  have hl : x.length ≤ 4294967296 := h
  obtain ⟨ys, a1, a2, a3, a4, a5⟩ := mkloop (m_l_markExprS_l1 N) (HdTExpr N) cntTExpr (fun _ => True) cntTExpr_nn (fun n s k i x hx hi hlt h0 h1 h => by
    unfold big62 at h1
    have hcnt : cntTExpr x = 1 + 1 + 1 + 1 + 1 + 1 + 1 + 1 + 1 + 1 + 1 := rfl
    rw [hcnt] at h1
    obtain ⟨t0, m0⟩ := mtx hN k (by omega) (by unfold big62; omega)
    have e0 : IntKind.i64.wrap (k + 1) = k + 1 := wr (by omega) (by omega)
    have e1 : IntKind.i64.wrap ((k + 1) + 1) = (k + 1) + 1 := wr (by omega) (by omega)
    obtain ⟨t2, m2⟩ := mtx hN ((k + 1) + 1) (by omega) (by unfold big62; omega)
    have e2 : IntKind.i64.wrap (((k + 1) + 1) + 1) = ((k + 1) + 1) + 1 := wr (by omega) (by omega)
    have e3 : IntKind.i64.wrap ((((k + 1) + 1) + 1) + 1) = (((k + 1) + 1) + 1) + 1 := wr (by omega) (by omega)
    have e4 : IntKind.i64.wrap (((((k + 1) + 1) + 1) + 1) + 1) = ((((k + 1) + 1) + 1) + 1) + 1 := wr (by omega) (by omega)
    obtain ⟨t5, m5⟩ := mtx hN (((((k + 1) + 1) + 1) + 1) + 1) (by omega) (by unfold big62; omega)
    have e5 : IntKind.i64.wrap ((((((k + 1) + 1) + 1) + 1) + 1) + 1) = (((((k + 1) + 1) + 1) + 1) + 1) + 1 := wr (by omega) (by omega)
    have e6 : IntKind.i64.wrap (((((((k + 1) + 1) + 1) + 1) + 1) + 1) + 1) = ((((((k + 1) + 1) + 1) + 1) + 1) + 1) + 1 := wr (by omega) (by omega)
    obtain ⟨t7, m7⟩ := mtx hN (((((((k + 1) + 1) + 1) + 1) + 1) + 1) + 1) (by omega) (by unfold big62; omega)
    have e7 : IntKind.i64.wrap ((((((((k + 1) + 1) + 1) + 1) + 1) + 1) + 1) + 1) = (((((((k + 1) + 1) + 1) + 1) + 1) + 1) + 1) + 1 := wr (by omega) (by omega)
    have e8 : IntKind.i64.wrap (((((((((k + 1) + 1) + 1) + 1) + 1) + 1) + 1) + 1) + 1) = ((((((((k + 1) + 1) + 1) + 1) + 1) + 1) + 1) + 1) + 1 := wr (by omega) (by omega)
    have e9 : IntKind.i64.wrap ((((((((((k + 1) + 1) + 1) + 1) + 1) + 1) + 1) + 1) + 1) + 1) = (((((((((k + 1) + 1) + 1) + 1) + 1) + 1) + 1) + 1) + 1) + 1 := wr (by omega) (by omega)
    obtain ⟨t10, m10⟩ := mtx hN ((((((((((k + 1) + 1) + 1) + 1) + 1) + 1) + 1) + 1) + 1) + 1) (by omega) (by unfold big62; omega)
    have e10 : IntKind.i64.wrap (((((((((((k + 1) + 1) + 1) + 1) + 1) + 1) + 1) + 1) + 1) + 1) + 1) = ((((((((((k + 1) + 1) + 1) + 1) + 1) + 1) + 1) + 1) + 1) + 1) + 1 := wr (by omega) (by omega)
    have cc : decide ((i : Int) < (s.length : Int)) = true := decide_eq_true hlt
    refine ⟨(⟨t0, (⟨(k + 1), t2, (⟨(((k + 1) + 1) + 1), ((((k + 1) + 1) + 1) + 1), t5⟩ : TVal)⟩ : TArg), (⟨((((((k + 1) + 1) + 1) + 1) + 1) + 1), t7, (⟨((((((((k + 1) + 1) + 1) + 1) + 1) + 1) + 1) + 1), (((((((((k + 1) + 1) + 1) + 1) + 1) + 1) + 1) + 1) + 1), t10⟩ : TVal)⟩ : TArg)⟩ : TExpr), ?_, ?_, ?_, ?_⟩
    · exact ⟨m0, (by trivial), m2, (by trivial), (by trivial), m5, (by trivial), m7, (by trivial), (by trivial), m10⟩
    · simp only [cntTExpr]
    · exact trivial
    · have hp : (((((((((((k + 1) + 1) + 1) + 1) + 1) + 1) + 1) + 1) + 1) + 1) + 1) = k + cntTExpr x := by omega
      rw [← hp, ← wr1 i (by omega)]
      simp only [m_l_markExprS_l1, cc, if_true, show idx s (i : Int) = some x from by rw [idx_nat, hx], Option.bind_some, Int.toNat_natCast, m0, e0, e1, m2, e2, e3, e4, m5, e5, e6, m7, e7, e8, e9, m10, e10])
    (fun n s k i hi => by simp only [m_l_markExprS_l1]; rw [if_neg (by simpa using hi)]) N 0 x k hl (by omega) (by omega) h0 (by simpa using h1) (fun _ _ => trivial)
  simp only [List.drop_zero, List.take_zero, List.nil_append] at a1 a3
  exact ⟨ys, a1, a3, a4, by omega⟩
theorem mk_m_l_markActS {N : Nat} (hN : 1099000000000 ≤ N) (x : (List TAct)) (h : (x.length ≤ 4294967296 ∧ ∀ y ∈ x, LimTAct y)) (k : Int) (h0 : 0 ≤ k) (h1 : k + cntL cntTAct x ≤ big62) : ∃ ys, m_l_markActS N x k = some (k + cntL cntTAct x, ys) ∧ cntL cntTAct ys = cntL cntTAct x ∧ HdL (HdTAct N) cntTAct ys k ∧ (ys.length ≤ 4294967296 ∧ ∀ y ∈ ys, LimTAct y) := by
  have hl : x.length ≤ 4294967296 := h.1
  obtain ⟨ys, a1, a2, a3, a4, a5⟩ := mkloop (m_l_markActS_l1 N) (HdTAct N) cntTAct LimTAct cntTAct_nn (fun n s k i x hx hi hlt h0 h1 h => by
    unfold big62 at h1
    have hcnt : cntTAct x = 1 + 1 + cntL cntTExpr x.Args + 1 + 1 := rfl
    rw [hcnt] at h1
    have n2 := cntL_nn cntTExpr_nn x.Args
    have e0 : IntKind.i64.wrap (k + 1) = k + 1 := wr (by omega) (by omega)
    obtain ⟨t1, m1⟩ := mtx hN (k + 1) (by omega) (by unfold big62; omega)
    have e1 : IntKind.i64.wrap ((k + 1) + 1) = (k + 1) + 1 := wr (by omega) (by omega)
    obtain ⟨y2, m2, c2, d2, l2⟩ := mk_m_l_markExprS hN x.Args (h) ((k + 1) + 1) (by omega) (by unfold big62; omega)
    have e3 : IntKind.i64.wrap ((((k + 1) + 1) + cntL cntTExpr x.Args) + 1) = (((k + 1) + 1) + cntL cntTExpr x.Args) + 1 := wr (by omega) (by omega)
    obtain ⟨t4, m4⟩ := mtx hN ((((k + 1) + 1) + cntL cntTExpr x.Args) + 1) (by omega) (by unfold big62; omega)
    have e4 : IntKind.i64.wrap (((((k + 1) + 1) + cntL cntTExpr x.Args) + 1) + 1) = ((((k + 1) + 1) + cntL cntTExpr x.Args) + 1) + 1 := wr (by omega) (by omega)
    have cc : decide ((i : Int) < (s.length : Int)) = true := decide_eq_true hlt
    refine ⟨(⟨k, t1, y2, (((k + 1) + 1) + cntL cntTExpr x.Args), t4⟩ : TAct), ?_, ?_, ?_, ?_⟩
    · simp only [HdTAct, c2]; exact ⟨(by trivial), m1, d2, (by trivial), m4⟩
    · simp only [cntTAct, c2]
    · exact l2
    · have hp : (((((k + 1) + 1) + cntL cntTExpr x.Args) + 1) + 1) = k + cntTAct x := by omega
      rw [← hp, ← wr1 i (by omega)]
      simp only [m_l_markActS_l1, cc, if_true, show idx s (i : Int) = some x from by rw [idx_nat, hx], Option.bind_some, Int.toNat_natCast, e0, m1, e1, m2, e3, m4, e4])
    (fun n s k i hi => by simp only [m_l_markActS_l1]; rw [if_neg (by simpa using hi)]) N 0 x k hl (by omega) (by omega) h0 (by simpa using h1) (h.2)
  simp only [List.drop_zero, List.take_zero, List.nil_append] at a1 a3
  exact ⟨ys, a1, a3, a4, ⟨by omega, a5⟩⟩
theorem mk_m_l_markRuleS {N : Nat} (hN : 1099000000000 ≤ N) (x : (List TRule)) (h : (x.length ≤ 4294967296 ∧ ∀ y ∈ x, LimTRule y)) (k : Int) (h0 : 0 ≤ k) (h1 : k + cntL cntTRule x ≤ big62) : ∃ ys, m_l_markRuleS N x k = some (k + cntL cntTRule x, ys) ∧ cntL cntTRule ys = cntL cntTRule x ∧ HdL (HdTRule N) cntTRule ys k ∧ (ys.length ≤ 4294967296 ∧ ∀ y ∈ ys, LimTRule y) := by
  have hl : x.length ≤ 4294967296 := h.1
  obtain ⟨ys, a1, a2, a3, a4, a5⟩ := mkloop (m_l_markRuleS_l1 N) (HdTRule N) cntTRule LimTRule cntTRule_nn (fun n s k i x hx hi hlt h0 h1 h => by
    unfold big62 at h1
    have hcnt : cntTRule x = 1 + 1 + cntL cntTPat x.Pats + cntL cntTCond x.Conds + cntL cntTAct x.Acts := rfl
    rw [hcnt] at h1
    have n2 := cntL_nn cntTPat_nn x.Pats
    have n3 := cntL_nn cntTCond_nn x.Conds
    have n4 := cntL_nn cntTAct_nn x.Acts
    obtain ⟨t0, m0⟩ := mtx hN k (by omega) (by unfold big62; omega)
    have e0 : IntKind.i64.wrap (k + 1) = k + 1 := wr (by omega) (by omega)
    have e1 : IntKind.i64.wrap ((k + 1) + 1) = (k + 1) + 1 := wr (by omega) (by omega)
    obtain ⟨y2, m2, c2, d2, l2⟩ := mk_m_l_markPatS hN x.Pats (h.1) ((k + 1) + 1) (by omega) (by unfold big62; omega)
    obtain ⟨y3, m3, c3, d3, l3⟩ := mk_m_l_markCondS hN x.Conds (h.2.1) (((k + 1) + 1) + cntL cntTPat x.Pats) (by omega) (by unfold big62; omega)
    obtain ⟨y4, m4, c4, d4, l4⟩ := mk_m_l_markActS hN x.Acts (h.2.2) ((((k + 1) + 1) + cntL cntTPat x.Pats) + cntL cntTCond x.Conds) (by omega) (by unfold big62; omega)
    have cc : decide ((i : Int) < (s.length : Int)) = true := decide_eq_true hlt
    refine ⟨(⟨t0, (k + 1), y2, y3, y4⟩ : TRule), ?_, ?_, ?_, ?_⟩
    · simp only [HdTRule, c2, c3, c4]; exact ⟨m0, (by trivial), d2, d3, d4⟩
    · simp only [cntTRule, c2, c3, c4]
    · exact ⟨l2, l3, l4⟩
    · have hp : (((((k + 1) + 1) + cntL cntTPat x.Pats) + cntL cntTCond x.Conds) + cntL cntTAct x.Acts) = k + cntTRule x := by omega
      rw [← hp, ← wr1 i (by omega)]
      simp only [m_l_markRuleS_l1, cc, if_true, show idx s (i : Int) = some x from by rw [idx_nat, hx], Option.bind_some, Int.toNat_natCast, m0, e0, e1, m2, m3, m4])
    (fun n s k i hi => by simp only [m_l_markRuleS_l1]; rw [if_neg (by simpa using hi)]) N 0 x k hl (by omega) (by omega) h0 (by simpa using h1) (h.2)
  simp only [List.drop_zero, List.take_zero, List.nil_append] at a1 a3
  exact ⟨ys, a1, a3, a4, ⟨by omega, a5⟩⟩
def mcnTDef (x : TDef) : Int := cntL cntTRule x.Rules
theorem mcnTDef_nn (x : TDef) : 0 ≤ mcnTDef x := by
  unfold mcnTDef
  have := cntL_nn cntTRule_nn x.Rules
  omega
theorem mcnTDef_le (x : TDef) : mcnTDef x ≤ 32 + 32 * totTDef x := by
  have := cntTDef_le x; unfold cntTDef at this; unfold mcnTDef; omega
theorem mk_m_l_markDef {N : Nat} (hN : 1099000000000 ≤ N) (x : TDef) (h : LimTDef x) (k : Int) (h0 : 0 ≤ k) (h1 : k + mcnTDef x ≤ big62) : ∃ y0, m_l_markDef N x k = some (k + mcnTDef x, y0) := by
  unfold mcnTDef big62 at *
  have n0 := cntL_nn cntTRule_nn x.Rules
  obtain ⟨y0, m0, c0, d0, l0⟩ := mk_m_l_markRuleS hN x.Rules (h) k (by omega) (by unfold big62; omega)
  have hp : k + (cntL cntTRule x.Rules) = (k + cntL cntTRule x.Rules) := by omega
  refine ⟨y0, ?_⟩
  · rw [hp]; simp only [m_l_markDef, Option.bind_some, m0]
def cntTVal (x : TVal) : Int := 1 + 1 + 1
theorem cntTVal_nn (x : TVal) : 0 ≤ cntTVal x := by
  unfold cntTVal
  omega
theorem cntTVal_le (x : TVal) : cntTVal x ≤ 32 + 32 * (totTVal x) := by
  unfold cntTVal totTVal
  omega
def HdTVal (N : Nat) (x : TVal) (k : Int) : Prop := x.K = k ∧ x.N = (k + 1) ∧ m_l_markText N ((k + 1) + 1) = some x.S
def cntTAlpha (x : TAlpha) : Int := 1 + 1 + cntL cntTVal x.Consts + cntL one x.At
theorem cntTAlpha_nn (x : TAlpha) : 0 ≤ cntTAlpha x := by
  unfold cntTAlpha
  have := cntL_nn cntTVal_nn x.Consts
  have := cntL_nn one_nn x.At
  omega
theorem cntTAlpha_le (x : TAlpha) : cntTAlpha x ≤ 32 + 32 * (totTAlpha x) := by
  have := cntL_le (p := x.Consts) (tot := totTVal) (fun y _ => cntTVal_le y)
  have := sum_nonneg totTVal x.Consts (fun y _ => totTVal_nn y)
  have := cntL_le0 (cnt := one) (p := x.At) (fun y _ => by simp [one])
  unfold cntTAlpha totTAlpha
  omega
def HdTAlpha (N : Nat) (x : TAlpha) (k : Int) : Prop := m_l_markText N k = some x.Kind ∧ x.N = (k + 1) ∧ HdL (HdTVal N) cntTVal x.Consts ((k + 1) + 1) ∧ HdL (fun x k => x = k) one x.At (((k + 1) + 1) + cntL cntTVal x.Consts)
def cntTChain (x : TChain) : Int := cntL one x.Pos + cntL one x.Neg
theorem cntTChain_nn (x : TChain) : 0 ≤ cntTChain x := by
  unfold cntTChain
  have := cntL_nn one_nn x.Pos
  have := cntL_nn one_nn x.Neg
  omega
theorem cntTChain_le (x : TChain) : cntTChain x ≤ 32 + 32 * (totTChain x) := by
  have := cntL_le0 (cnt := one) (p := x.Pos) (fun y _ => by simp [one])
  have := cntL_le0 (cnt := one) (p := x.Neg) (fun y _ => by simp [one])
  unfold cntTChain totTChain
  omega
def HdTChain (N : Nat) (x : TChain) (k : Int) : Prop := HdL (fun x k => x = k) one x.Pos k ∧ HdL (fun x k => x = k) one x.Neg (k + cntL one x.Pos)
def cntTNet (x : TNet) : Int := cntL cntTAlpha x.Alphas + cntL cntTChain x.Chains
theorem cntTNet_nn (x : TNet) : 0 ≤ cntTNet x := by
  unfold cntTNet
  have := cntL_nn cntTAlpha_nn x.Alphas
  have := cntL_nn cntTChain_nn x.Chains
  omega
theorem cntTNet_le (x : TNet) : cntTNet x ≤ 32 + 32 * (totTNet x) := by
  have := cntL_le (p := x.Alphas) (tot := totTAlpha) (fun y _ => cntTAlpha_le y)
  have := sum_nonneg totTAlpha x.Alphas (fun y _ => totTAlpha_nn y)
  have := cntL_le (p := x.Chains) (tot := totTChain) (fun y _ => cntTChain_le y)
  have := sum_nonneg totTChain x.Chains (fun y _ => totTChain_nn y)
  unfold cntTNet totTNet
  omega
def HdTNet (N : Nat) (x : TNet) (k : Int) : Prop := HdL (HdTAlpha N) cntTAlpha x.Alphas k ∧ HdL (HdTChain N) cntTChain x.Chains (k + cntL cntTAlpha x.Alphas)
theorem mk_m_l_markValS {N : Nat} (hN : 1099000000000 ≤ N) (x : (List TVal)) (h : (x.length ≤ 4294967296)) (k : Int) (h0 : 0 ≤ k) (h1 : k + cntL cntTVal x ≤ big62) : ∃ ys, m_l_markValS N x k = some (k + cntL cntTVal x, ys) ∧ cntL cntTVal ys = cntL cntTVal x ∧ HdL (HdTVal N) cntTVal ys k ∧ (ys.length ≤ 4294967296) := by
  have hl : x.length ≤ 4294967296 := h
  obtain ⟨ys, a1, a2, a3, a4, a5⟩ := mkloop (m_l_markValS_l1 N) (HdTVal N) cntTVal (fun _ => True) cntTVal_nn (fun n s k i x hx hi hlt h0 h1 h => by
    unfold big62 at h1
    have hcnt : cntTVal x = 1 + 1 + 1 := rfl
    rw [hcnt] at h1
    have e0 : IntKind.i64.wrap (k + 1) = k + 1 := wr (by omega) (by omega)
    have e1 : IntKind.i64.wrap ((k + 1) + 1) = (k + 1) + 1 := wr (by omega) (by omega)
    obtain ⟨t2, m2⟩ := mtx hN ((k + 1) + 1) (by omega) (by unfold big62; omega)
    have e2 : IntKind.i64.wrap (((k + 1) + 1) + 1) = ((k + 1) + 1) + 1 := wr (by omega) (by omega)
    have cc : decide ((i : Int) < (s.length : Int)) = true := decide_eq_true hlt
    refine ⟨(⟨k, (k + 1), t2⟩ : TVal), ?_, ?_, ?_, ?_⟩
    · exact ⟨(by trivial), (by trivial), m2⟩
    · simp only [cntTVal]
    · exact trivial
    · have hp : (((k + 1) + 1) + 1) = k + cntTVal x := by omega
      rw [← hp, ← wr1 i (by omega)]
      simp only [m_l_markValS_l1, cc, if_true, show idx s (i : Int) = some x from by rw [idx_nat, hx], Option.bind_some, Int.toNat_natCast, e0, e1, m2, e2])
    (fun n s k i hi => by simp only [m_l_markValS_l1]; rw [if_neg (by simpa using hi)]) N 0 x k hl (by omega) (by omega) h0 (by simpa using h1) (fun _ _ => trivial)
  simp only [List.drop_zero, List.take_zero, List.nil_append] at a1 a3
  exact ⟨ys, a1, a3, a4, by omega⟩
theorem hd_m_l_heldValS {N : Nat} (hN : 1099000000000 ≤ N) (x : (List TVal)) (h : (x.length ≤ 4294967296)) (k : Int) (h0 : 0 ≤ k) (h1 : k + cntL cntTVal x ≤ big62) (hh : HdL (HdTVal N) cntTVal x k) : m_l_heldValS N x k = some (k + cntL cntTVal x) := by
  have hl : x.length ≤ 4294967296 := h
  have := hdloop (m_l_heldValS_l1 N x) x (HdTVal N) cntTVal (fun _ => True) cntTVal_nn hl (fun _ _ => trivial) (fun n k i y hx hi hlt h0 h1 h hy => by
    unfold big62 at h1
    have hcnt : cntTVal y = 1 + 1 + 1 := rfl
    rw [hcnt] at h1
    obtain ⟨q0, q1, q2⟩ := hy
    have e0 : IntKind.i64.wrap (k + 1) = k + 1 := wr (by omega) (by omega)
    have e1 : IntKind.i64.wrap ((k + 1) + 1) = (k + 1) + 1 := wr (by omega) (by omega)
    have e2 : IntKind.i64.wrap (((k + 1) + 1) + 1) = ((k + 1) + 1) + 1 := wr (by omega) (by omega)
    have cc : decide ((i : Int) < (x.length : Int)) = true := decide_eq_true hlt
    have hp : (((k + 1) + 1) + 1) = k + cntTVal y := by omega
    rw [← hp, ← wr1 i (by omega)]
    simp only [m_l_heldValS_l1, cc, if_true, show idx x (i : Int) = some y from by rw [idx_nat, hx], Option.bind_some, seq_self, decide_true, bne_self_eq_false, Bool.not_true, Bool.false_eq_true, if_false, q0, e0, q1, e1, q2, e2])
    (fun n k i hi => by simp only [m_l_heldValS_l1]; rw [if_neg (by simpa using hi)]) N 0 k (by omega) (by omega) h0 (by simpa using h1) (by simpa using hh)
  unfold m_l_heldValS; simpa using this
theorem mk_m_l_markIntS {N : Nat} (hN : 1099000000000 ≤ N) (x : (List Int)) (h : (x.length ≤ 4294967296)) (k : Int) (h0 : 0 ≤ k) (h1 : k + cntL one x ≤ big62) : ∃ ys, m_l_markIntS N x k = some (k + cntL one x, ys) ∧ cntL one ys = cntL one x ∧ HdL (fun x k => x = k) one ys k ∧ (ys.length ≤ 4294967296) := by
  have hl : x.length ≤ 4294967296 := h
  obtain ⟨ys, a1, a2, a3, a4, a5⟩ := mkloop (m_l_markIntS_l1 N) (fun x k => x = k) one (fun _ => True) one_nn (fun n s k i x hx hi hlt h0 h1 h => by
    unfold big62 at h1
    simp only [one] at h1
    have e0 : IntKind.i64.wrap (k + 1) = k + 1 := wr (by omega) (by omega)
    have cc : decide ((i : Int) < (s.length : Int)) = true := decide_eq_true hlt
    refine ⟨k, (by trivial), rfl, trivial, ?_⟩
    · have hp : (k + 1) = k + one x := by rfl
      rw [← hp, ← wr1 i (by omega)]
      simp only [m_l_markIntS_l1, cc, if_true, show idx s (i : Int) = some x from by rw [idx_nat, hx], Option.bind_some, Int.toNat_natCast, e0])
    (fun n s k i hi => by simp only [m_l_markIntS_l1]; rw [if_neg (by simpa using hi)]) N 0 x k hl (by omega) (by omega) h0 (by simpa using h1) (fun _ _ => trivial)
  simp only [List.drop_zero, List.take_zero, List.nil_append] at a1 a3
  exact ⟨ys, a1, a3, a4, by omega⟩
theorem hd_m_l_heldIntS {N : Nat} (hN : 1099000000000 ≤ N) (x : (List Int)) (h : (x.length ≤ 4294967296)) (k : Int) (h0 : 0 ≤ k) (h1 : k + cntL one x ≤ big62) (hh : HdL (fun x k => x = k) one x k) : m_l_heldIntS N x k = some (k + cntL one x) := by
  have hl : x.length ≤ 4294967296 := h
  have := hdloop (m_l_heldIntS_l1 N x) x (fun x k => x = k) one (fun _ => True) one_nn hl (fun _ _ => trivial) (fun n k i y hx hi hlt h0 h1 h hy => by
    unfold big62 at h1
    simp only [one] at h1
    have q0 := hy
    have e0 : IntKind.i64.wrap (k + 1) = k + 1 := wr (by omega) (by omega)
    have cc : decide ((i : Int) < (x.length : Int)) = true := decide_eq_true hlt
    have hp : (k + 1) = k + one y := by rfl
    rw [← hp, ← wr1 i (by omega)]
    simp only [m_l_heldIntS_l1, cc, if_true, show idx x (i : Int) = some y from by rw [idx_nat, hx], Option.bind_some, seq_self, decide_true, bne_self_eq_false, Bool.not_true, Bool.false_eq_true, if_false, q0, e0])
    (fun n k i hi => by simp only [m_l_heldIntS_l1]; rw [if_neg (by simpa using hi)]) N 0 k (by omega) (by omega) h0 (by simpa using h1) (by simpa using hh)
  unfold m_l_heldIntS; simpa using this
theorem mk_m_l_markAlphaS {N : Nat} (hN : 1099000000000 ≤ N) (x : (List TAlpha)) (h : (x.length ≤ 4294967296 ∧ ∀ y ∈ x, LimTAlpha y)) (k : Int) (h0 : 0 ≤ k) (h1 : k + cntL cntTAlpha x ≤ big62) : ∃ ys, m_l_markAlphaS N x k = some (k + cntL cntTAlpha x, ys) ∧ cntL cntTAlpha ys = cntL cntTAlpha x ∧ HdL (HdTAlpha N) cntTAlpha ys k ∧ (ys.length ≤ 4294967296 ∧ ∀ y ∈ ys, LimTAlpha y) := by
  have hl : x.length ≤ 4294967296 := h.1
  obtain ⟨ys, a1, a2, a3, a4, a5⟩ := mkloop (m_l_markAlphaS_l1 N) (HdTAlpha N) cntTAlpha LimTAlpha cntTAlpha_nn (fun n s k i x hx hi hlt h0 h1 h => by
    unfold big62 at h1
    have hcnt : cntTAlpha x = 1 + 1 + cntL cntTVal x.Consts + cntL one x.At := rfl
    rw [hcnt] at h1
    have n2 := cntL_nn cntTVal_nn x.Consts
    have n3 := cntL_nn one_nn x.At
    obtain ⟨t0, m0⟩ := mtx hN k (by omega) (by unfold big62; omega)
    have e0 : IntKind.i64.wrap (k + 1) = k + 1 := wr (by omega) (by omega)
    have e1 : IntKind.i64.wrap ((k + 1) + 1) = (k + 1) + 1 := wr (by omega) (by omega)
    obtain ⟨y2, m2, c2, d2, l2⟩ := mk_m_l_markValS hN x.Consts (h.1) ((k + 1) + 1) (by omega) (by unfold big62; omega)
    obtain ⟨y3, m3, c3, d3, l3⟩ := mk_m_l_markIntS hN x.At (h.2) (((k + 1) + 1) + cntL cntTVal x.Consts) (by omega) (by unfold big62; omega)
    have cc : decide ((i : Int) < (s.length : Int)) = true := decide_eq_true hlt
    refine ⟨(⟨t0, (k + 1), y2, y3⟩ : TAlpha), ?_, ?_, ?_, ?_⟩
    · simp only [HdTAlpha, c2, c3]; exact ⟨m0, (by trivial), d2, d3⟩
    · simp only [cntTAlpha, c2, c3]
    · exact ⟨l2, l3⟩
    · have hp : ((((k + 1) + 1) + cntL cntTVal x.Consts) + cntL one x.At) = k + cntTAlpha x := by omega
      rw [← hp, ← wr1 i (by omega)]
      simp only [m_l_markAlphaS_l1, cc, if_true, show idx s (i : Int) = some x from by rw [idx_nat, hx], Option.bind_some, Int.toNat_natCast, m0, e0, e1, m2, m3])
    (fun n s k i hi => by simp only [m_l_markAlphaS_l1]; rw [if_neg (by simpa using hi)]) N 0 x k hl (by omega) (by omega) h0 (by simpa using h1) (h.2)
  simp only [List.drop_zero, List.take_zero, List.nil_append] at a1 a3
  exact ⟨ys, a1, a3, a4, ⟨by omega, a5⟩⟩
theorem hd_m_l_heldAlphaS {N : Nat} (hN : 1099000000000 ≤ N) (x : (List TAlpha)) (h : (x.length ≤ 4294967296 ∧ ∀ y ∈ x, LimTAlpha y)) (k : Int) (h0 : 0 ≤ k) (h1 : k + cntL cntTAlpha x ≤ big62) (hh : HdL (HdTAlpha N) cntTAlpha x k) : m_l_heldAlphaS N x k = some (k + cntL cntTAlpha x) := by
  have hl : x.length ≤ 4294967296 := h.1
  have := hdloop (m_l_heldAlphaS_l1 N x) x (HdTAlpha N) cntTAlpha LimTAlpha cntTAlpha_nn hl (h.2) (fun n k i y hx hi hlt h0 h1 h hy => by
    unfold big62 at h1
    have hcnt : cntTAlpha y = 1 + 1 + cntL cntTVal y.Consts + cntL one y.At := rfl
    rw [hcnt] at h1
    obtain ⟨q0, q1, q2, q3⟩ := hy
    have n2 := cntL_nn cntTVal_nn y.Consts
    have n3 := cntL_nn one_nn y.At
    have e0 : IntKind.i64.wrap (k + 1) = k + 1 := wr (by omega) (by omega)
    have e1 : IntKind.i64.wrap ((k + 1) + 1) = (k + 1) + 1 := wr (by omega) (by omega)
    have m2 := hd_m_l_heldValS hN y.Consts (h.1) ((k + 1) + 1) (by omega) (by unfold big62; omega) q2
    have p2 : decide ((((k + 1) + 1) + cntL cntTVal y.Consts) < 0) = false := decide_eq_false (by omega)
    have m3 := hd_m_l_heldIntS hN y.At (h.2) (((k + 1) + 1) + cntL cntTVal y.Consts) (by omega) (by unfold big62; omega) q3
    have p3 : decide (((((k + 1) + 1) + cntL cntTVal y.Consts) + cntL one y.At) < 0) = false := decide_eq_false (by omega)
    have cc : decide ((i : Int) < (x.length : Int)) = true := decide_eq_true hlt
    have hp : ((((k + 1) + 1) + cntL cntTVal y.Consts) + cntL one y.At) = k + cntTAlpha y := by omega
    rw [← hp, ← wr1 i (by omega)]
    simp only [m_l_heldAlphaS_l1, cc, if_true, show idx x (i : Int) = some y from by rw [idx_nat, hx], Option.bind_some, seq_self, decide_true, bne_self_eq_false, Bool.not_true, Bool.false_eq_true, if_false, q0, e0, q1, e1, m2, p2, m3, p3])
    (fun n k i hi => by simp only [m_l_heldAlphaS_l1]; rw [if_neg (by simpa using hi)]) N 0 k (by omega) (by omega) h0 (by simpa using h1) (by simpa using hh)
  unfold m_l_heldAlphaS; simpa using this
theorem mk_m_l_markChainS {N : Nat} (hN : 1099000000000 ≤ N) (x : (List TChain)) (h : (x.length ≤ 4294967296 ∧ ∀ y ∈ x, LimTChain y)) (k : Int) (h0 : 0 ≤ k) (h1 : k + cntL cntTChain x ≤ big62) : ∃ ys, m_l_markChainS N x k = some (k + cntL cntTChain x, ys) ∧ cntL cntTChain ys = cntL cntTChain x ∧ HdL (HdTChain N) cntTChain ys k ∧ (ys.length ≤ 4294967296 ∧ ∀ y ∈ ys, LimTChain y) := by
  have hl : x.length ≤ 4294967296 := h.1
  obtain ⟨ys, a1, a2, a3, a4, a5⟩ := mkloop (m_l_markChainS_l1 N) (HdTChain N) cntTChain LimTChain cntTChain_nn (fun n s k i x hx hi hlt h0 h1 h => by
    unfold big62 at h1
    have hcnt : cntTChain x = cntL one x.Pos + cntL one x.Neg := rfl
    rw [hcnt] at h1
    have n0 := cntL_nn one_nn x.Pos
    have n1 := cntL_nn one_nn x.Neg
    obtain ⟨y0, m0, c0, d0, l0⟩ := mk_m_l_markIntS hN x.Pos (h.1) k (by omega) (by unfold big62; omega)
    obtain ⟨y1, m1, c1, d1, l1⟩ := mk_m_l_markIntS hN x.Neg (h.2) (k + cntL one x.Pos) (by omega) (by unfold big62; omega)
    have cc : decide ((i : Int) < (s.length : Int)) = true := decide_eq_true hlt
    refine ⟨(⟨y0, y1⟩ : TChain), ?_, ?_, ?_, ?_⟩
    · simp only [HdTChain, c0, c1]; exact ⟨d0, d1⟩
    · simp only [cntTChain, c0, c1]
    · exact ⟨l0, l1⟩
    · have hp : ((k + cntL one x.Pos) + cntL one x.Neg) = k + cntTChain x := by omega
      rw [← hp, ← wr1 i (by omega)]
      simp only [m_l_markChainS_l1, cc, if_true, show idx s (i : Int) = some x from by rw [idx_nat, hx], Option.bind_some, Int.toNat_natCast, m0, m1])
    (fun n s k i hi => by simp only [m_l_markChainS_l1]; rw [if_neg (by simpa using hi)]) N 0 x k hl (by omega) (by omega) h0 (by simpa using h1) (h.2)
  simp only [List.drop_zero, List.take_zero, List.nil_append] at a1 a3
  exact ⟨ys, a1, a3, a4, ⟨by omega, a5⟩⟩
theorem hd_m_l_heldChainS {N : Nat} (hN : 1099000000000 ≤ N) (x : (List TChain)) (h : (x.length ≤ 4294967296 ∧ ∀ y ∈ x, LimTChain y)) (k : Int) (h0 : 0 ≤ k) (h1 : k + cntL cntTChain x ≤ big62) (hh : HdL (HdTChain N) cntTChain x k) : m_l_heldChainS N x k = some (k + cntL cntTChain x) := by
  have hl : x.length ≤ 4294967296 := h.1
  have := hdloop (m_l_heldChainS_l1 N x) x (HdTChain N) cntTChain LimTChain cntTChain_nn hl (h.2) (fun n k i y hx hi hlt h0 h1 h hy => by
    unfold big62 at h1
    have hcnt : cntTChain y = cntL one y.Pos + cntL one y.Neg := rfl
    rw [hcnt] at h1
    obtain ⟨q0, q1⟩ := hy
    have n0 := cntL_nn one_nn y.Pos
    have n1 := cntL_nn one_nn y.Neg
    have m0 := hd_m_l_heldIntS hN y.Pos (h.1) k (by omega) (by unfold big62; omega) q0
    have p0 : decide ((k + cntL one y.Pos) < 0) = false := decide_eq_false (by omega)
    have m1 := hd_m_l_heldIntS hN y.Neg (h.2) (k + cntL one y.Pos) (by omega) (by unfold big62; omega) q1
    have p1 : decide (((k + cntL one y.Pos) + cntL one y.Neg) < 0) = false := decide_eq_false (by omega)
    have cc : decide ((i : Int) < (x.length : Int)) = true := decide_eq_true hlt
    have hp : ((k + cntL one y.Pos) + cntL one y.Neg) = k + cntTChain y := by omega
    rw [← hp, ← wr1 i (by omega)]
    simp only [m_l_heldChainS_l1, cc, if_true, show idx x (i : Int) = some y from by rw [idx_nat, hx], Option.bind_some, seq_self, decide_true, bne_self_eq_false, Bool.not_true, Bool.false_eq_true, if_false, m0, p0, m1, p1])
    (fun n k i hi => by simp only [m_l_heldChainS_l1]; rw [if_neg (by simpa using hi)]) N 0 k (by omega) (by omega) h0 (by simpa using h1) (by simpa using hh)
  unfold m_l_heldChainS; simpa using this
def mcnTNet (x : TNet) : Int := cntL cntTAlpha x.Alphas + cntL cntTChain x.Chains
theorem mcnTNet_nn (x : TNet) : 0 ≤ mcnTNet x := by
  unfold mcnTNet
  have := cntL_nn cntTAlpha_nn x.Alphas
  have := cntL_nn cntTChain_nn x.Chains
  omega
theorem mcnTNet_le (x : TNet) : mcnTNet x ≤ 32 + 32 * totTNet x := by
  have := cntTNet_le x; unfold cntTNet at this; unfold mcnTNet; omega
theorem mk_m_l_markNet {N : Nat} (hN : 1099000000000 ≤ N) (x : TNet) (h : LimTNet x) (k : Int) (h0 : 0 ≤ k) (h1 : k + mcnTNet x ≤ big62) : ∃ y0 y1, m_l_markNet N x k = some (k + mcnTNet x, y0, y1) ∧ m_l_heldNet N (⟨y0, y1⟩ : TNet) k = some (k + mcnTNet x) := by
  unfold mcnTNet big62 at *
  have n0 := cntL_nn cntTAlpha_nn x.Alphas
  have n1 := cntL_nn cntTChain_nn x.Chains
  obtain ⟨y0, m0, c0, d0, l0⟩ := mk_m_l_markAlphaS hN x.Alphas (h.1) k (by omega) (by unfold big62; omega)
  have w0 := hd_m_l_heldAlphaS hN y0 l0 k (by omega) (by rw [c0]; unfold big62; omega) d0
  rw [c0] at w0
  have p0 : decide ((k + cntL cntTAlpha x.Alphas) < 0) = false := decide_eq_false (by omega)
  obtain ⟨y1, m1, c1, d1, l1⟩ := mk_m_l_markChainS hN x.Chains (h.2) (k + cntL cntTAlpha x.Alphas) (by omega) (by unfold big62; omega)
  have w1 := hd_m_l_heldChainS hN y1 l1 (k + cntL cntTAlpha x.Alphas) (by omega) (by rw [c1]; unfold big62; omega) d1
  rw [c1] at w1
  have p1 : decide (((k + cntL cntTAlpha x.Alphas) + cntL cntTChain x.Chains) < 0) = false := decide_eq_false (by omega)
  have hp : k + (cntL cntTAlpha x.Alphas + cntL cntTChain x.Chains) = ((k + cntL cntTAlpha x.Alphas) + cntL cntTChain x.Chains) := by omega
  refine ⟨y0, y1, ?_, ?_⟩
  · rw [hp]; simp only [m_l_markNet, Option.bind_some, m0, m1]
  · rw [hp]; simp only [m_l_heldNet, Option.bind_some, Bool.false_eq_true, if_false, w0, p0, w1, p1]
end Go.Proofs.YtjangilipfjcmaaGreat
