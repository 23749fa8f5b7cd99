/- Printed by a program of ours: the plain laws of the sizes, copies, comparisons and marks. -/
import Derived.Test.YtjccaebpbieejaaGreatPLib
import Derived.Test.YtjccaebpbieejaaGreatWExactSetOfMod
namespace Go.Proofs.YtjccaebpbieejaaGreat
open Eng
set_option linter.unusedVariables false
set_option linter.unusedSimpArgs false
set_option maxRecDepth 10000
def WfTVal (x : TVal) : Prop := (WfI .i64) x.K ∧ (WfI .i64) x.N ∧ WfS x.S
def totTVal (x : TVal) : Int := ((x.S.size : Int))
theorem totTVal_nn (x : TVal) : 0 ≤ totTVal x := by
  unfold totTVal
  omega
def WfTArg (x : TArg) : Prop := (WfI .i64) x.K ∧ WfS x.S ∧ WfTVal x.V
def totTArg (x : TArg) : Int := ((x.S.size : Int)) + (totTVal x.V)
theorem totTArg_nn (x : TArg) : 0 ≤ totTArg x := by
  unfold totTArg
  have := totTVal_nn x.V
  omega
def WfTPat (x : TPat) : Prop := WfS x.Kind ∧ (WfL WfTArg) x.Args ∧ WfB x.Not
def totTPat (x : TPat) : Int := ((x.Kind.size : Int)) + ((x.Args.length : Int) + (x.Args.map totTArg).sum)
theorem totTPat_nn (x : TPat) : 0 ≤ totTPat x := by
  unfold totTPat
  have := sum_nonneg totTArg x.Args (fun y _ => totTArg_nn y)
  omega
def WfTCond (x : TCond) : Prop := (WfI .i64) x.Op ∧ WfTArg x.L ∧ WfTArg x.R
def totTCond (x : TCond) : Int := (totTArg x.L) + (totTArg x.R)
theorem totTCond_nn (x : TCond) : 0 ≤ totTCond x := by
  unfold totTCond
  have := totTArg_nn x.L
  have := totTArg_nn x.R
  omega
def WfTExpr (x : TExpr) : Prop := WfS x.Op ∧ WfTArg x.L ∧ WfTArg x.R
def totTExpr (x : TExpr) : Int := ((x.Op.size : Int)) + (totTArg x.L) + (totTArg x.R)
theorem totTExpr_nn (x : TExpr) : 0 ≤ totTExpr x := by
  unfold totTExpr
  have := totTArg_nn x.L
  have := totTArg_nn x.R
  omega
def WfTAct (x : TAct) : Prop := (WfI .i64) x.Kind ∧ WfS x.Name ∧ (WfL WfTExpr) x.Args ∧ (WfI .i64) x.N ∧ WfS x.Undo
def totTAct (x : TAct) : Int := ((x.Name.size : Int)) + ((x.Args.length : Int) + (x.Args.map totTExpr).sum) + ((x.Undo.size : Int))
theorem totTAct_nn (x : TAct) : 0 ≤ totTAct x := by
  unfold totTAct
  have := sum_nonneg totTExpr x.Args (fun y _ => totTExpr_nn y)
  omega
def WfTRule (x : TRule) : Prop := WfS x.Name ∧ (WfI .i64) x.Sal ∧ (WfL WfTPat) x.Pats ∧ (WfL WfTCond) x.Conds ∧ (WfL WfTAct) x.Acts
def totTRule (x : TRule) : Int := ((x.Name.size : Int)) + ((x.Pats.length : Int) + (x.Pats.map totTPat).sum) + ((x.Conds.length : Int) + (x.Conds.map totTCond).sum) + ((x.Acts.length : Int) + (x.Acts.map totTAct).sum)
theorem totTRule_nn (x : TRule) : 0 ≤ totTRule x := by
  unfold totTRule
  have := sum_nonneg totTPat x.Pats (fun y _ => totTPat_nn y)
  have := sum_nonneg totTCond x.Conds (fun y _ => totTCond_nn y)
  have := sum_nonneg totTAct x.Acts (fun y _ => totTAct_nn y)
  omega
def WfTDef (x : TDef) : Prop := WfS x.Name ∧ (WfL WfTRule) x.Rules
def totTDef (x : TDef) : Int := ((x.Name.size : Int)) + ((x.Rules.length : Int) + (x.Rules.map totTRule).sum)
theorem totTDef_nn (x : TDef) : 0 ≤ totTDef x := by
  unfold totTDef
  have := sum_nonneg totTRule x.Rules (fun y _ => totTRule_nn y)
  omega
def WfTIds (x : TIds) : Prop := (WfL (WfI .i64)) x.L
def totTIds (x : TIds) : Int := ((x.L.length : Int))
theorem totTIds_nn (x : TIds) : 0 ≤ totTIds x := by
  unfold totTIds
  omega
def WfTTok (x : TTok) : Prop := (WfL (WfI .i64)) x.Ids ∧ (WfL (WfI .i64)) x.Hits
def totTTok (x : TTok) : Int := ((x.Ids.length : Int)) + ((x.Hits.length : Int))
theorem totTTok_nn (x : TTok) : 0 ≤ totTTok x := by
  unfold totTTok
  omega
def WfTLevel (x : TLevel) : Prop := (WfL WfTTok) x.Toks
def totTLevel (x : TLevel) : Int := ((x.Toks.length : Int) + (x.Toks.map totTTok).sum)
theorem totTLevel_nn (x : TLevel) : 0 ≤ totTLevel x := by
  unfold totTLevel
  have := sum_nonneg totTTok x.Toks (fun y _ => totTTok_nn y)
  omega
def WfTRow (x : TRow) : Prop := (WfL WfTLevel) x.Levels
def totTRow (x : TRow) : Int := ((x.Levels.length : Int) + (x.Levels.map totTLevel).sum)
theorem totTRow_nn (x : TRow) : 0 ≤ totTRow x := by
  unfold totTRow
  have := sum_nonneg totTLevel x.Levels (fun y _ => totTLevel_nn y)
  omega
def WfTMem (x : TMem) : Prop := (WfL WfTIds) x.Alphas ∧ (WfL WfTRow) x.Rules
def totTMem (x : TMem) : Int := ((x.Alphas.length : Int) + (x.Alphas.map totTIds).sum) + ((x.Rules.length : Int) + (x.Rules.map totTRow).sum)
theorem totTMem_nn (x : TMem) : 0 ≤ totTMem x := by
  unfold totTMem
  have := sum_nonneg totTIds x.Alphas (fun y _ => totTIds_nn y)
  have := sum_nonneg totTRow x.Rules (fun y _ => totTRow_nn y)
  omega
def WfTFact (x : TFact) : Prop := WfS x.Kind ∧ (WfL WfTVal) x.Fields
def totTFact (x : TFact) : Int := ((x.Kind.size : Int)) + ((x.Fields.length : Int) + (x.Fields.map totTVal).sum)
theorem totTFact_nn (x : TFact) : 0 ≤ totTFact x := by
  unfold totTFact
  have := sum_nonneg totTVal x.Fields (fun y _ => totTVal_nn y)
  omega
def WfTItem (x : TItem) : Prop := (WfI .i64) x.Id ∧ WfTFact x.F
def totTItem (x : TItem) : Int := (totTFact x.F)
theorem totTItem_nn (x : TItem) : 0 ≤ totTItem x := by
  unfold totTItem
  have := totTFact_nn x.F
  omega
def WfTStore (x : TStore) : Prop := (WfL WfTItem) x.Items ∧ (WfI .i64) x.Next
def totTStore (x : TStore) : Int := ((x.Items.length : Int) + (x.Items.map totTItem).sum)
theorem totTStore_nn (x : TStore) : 0 ≤ totTStore x := by
  unfold totTStore
  have := sum_nonneg totTItem x.Items (fun y _ => totTItem_nn y)
  omega
def WfTBind (x : TBind) : Prop := WfS x.Name ∧ WfTVal x.V
def totTBind (x : TBind) : Int := ((x.Name.size : Int)) + (totTVal x.V)
theorem totTBind_nn (x : TBind) : 0 ≤ totTBind x := by
  unfold totTBind
  have := totTVal_nn x.V
  omega
def WfTMatch (x : TMatch) : Prop := (WfI .i64) x.Rule ∧ (WfL (WfI .i64)) x.Ids ∧ (WfL WfTBind) x.Binds
def totTMatch (x : TMatch) : Int := ((x.Ids.length : Int)) + ((x.Binds.length : Int) + (x.Binds.map totTBind).sum)
theorem totTMatch_nn (x : TMatch) : 0 ≤ totTMatch x := by
  unfold totTMatch
  have := sum_nonneg totTBind x.Binds (fun y _ => totTBind_nn y)
  omega
theorem sz_m_l_szVal {N : Nat} (hN : 1099000000000 ≤ N) (x : TVal) (w : WfTVal x) (left : Int) (h0 : 0 ≤ left) (h1 : left ≤ 1048576) : ∃ v, m_l_szVal N x left = some v ∧ Szd v left (totTVal x) := by
  obtain ⟨w0, w1, w2⟩ := w
  unfold m_l_szVal
  unfold totTVal
  have hl2 := w2; unfold WfS maxLen at hl2
  have e2 : IntKind.i64.wrap (left - (x.S.size : Int)) = left - (x.S.size : Int) := wr (by omega) (by omega)
  simp only [e2]
  by_cases c2 : (left - (x.S.size : Int)) < 0
  · rw [if_pos (by simpa using c2)]; exact ⟨-1, rfl, .inl (by omega)⟩
  rw [if_neg (by simpa using c2)]
  exact ⟨_, rfl, .inr ⟨by omega, by omega⟩⟩
theorem sz_m_l_szArg {N : Nat} (hN : 1099000000000 ≤ N) (x : TArg) (w : WfTArg x) (left : Int) (h0 : 0 ≤ left) (h1 : left ≤ 1048576) : ∃ v, m_l_szArg N x left = some v ∧ Szd v left (totTArg x) := by
  obtain ⟨w0, w1, w2⟩ := w
  unfold m_l_szArg
  unfold totTArg
  have := totTVal_nn x.V
  have hl1 := w1; unfold WfS maxLen at hl1
  have e1 : IntKind.i64.wrap (left - (x.S.size : Int)) = left - (x.S.size : Int) := wr (by omega) (by omega)
  simp only [e1]
  by_cases c1 : (left - (x.S.size : Int)) < 0
  · rw [if_pos (by simpa using c1)]; exact ⟨-1, rfl, .inl (by omega)⟩
  rw [if_neg (by simpa using c1)]
  obtain ⟨v2, hv2, hs2⟩ := sz_m_l_szVal hN x.V w2 (left - (x.S.size : Int)) (by omega) (by omega)
  rw [hv2]; simp only [Option.bind_some]
  by_cases c2 : v2 < 0
  · rw [if_pos (by simpa using c2)]; exact ⟨-1, rfl, .inl (by omega)⟩
  rw [if_neg (by simpa using c2)]
  replace hs2 := hs2.resolve_left c2
  exact ⟨_, rfl, .inr ⟨by omega, by omega⟩⟩
theorem sz_m_l_szArgS {N : Nat} (hN : 1099000000000 ≤ N) (x : (List TArg)) (w : (WfL WfTArg) x) (left : Int) (h0 : 0 ≤ left) (h1 : left ≤ 1048576) : ∃ v, m_l_szArgS N x left = some v ∧ Szd v left ((x.length : Int) + (x.map totTArg).sum) := by
  have hl := w.1; unfold maxLen at hl
  have e1 : IntKind.i64.wrap (left - (x.length : Int)) = left - (x.length : Int) := wr (by omega) (by omega)
  unfold m_l_szArgS
  simp only [e1]
  by_cases c : left - (x.length : Int) < 0
  · rw [if_pos (by simpa using c)]; exact ⟨-1, rfl, .inl (by omega)⟩
  · rw [if_neg (by simpa using c)]
    obtain ⟨v, hv, hs⟩ := szloop (m_l_szArgS_l1 N x) x (by omega) totTArg (fun y _ => totTArg_nn y) (fun y l => m_l_szArg N y l) (fun y hy l g0 g1 => sz_m_l_szArg hN y (w.2 y hy) l g0 g1) (fun k l i => rfl) N 0 (left - (x.length : Int)) (by omega) (by omega) (by omega) (by omega)
    refine ⟨v, hv, ?_⟩
    rw [List.drop_zero] at hs
    rcases hs with hs | ⟨hs0, hs⟩
    · exact .inl hs
    · exact .inr ⟨hs0, by omega⟩
theorem sz_m_l_szPat {N : Nat} (hN : 1099000000000 ≤ N) (x : TPat) (w : WfTPat x) (left : Int) (h0 : 0 ≤ left) (h1 : left ≤ 1048576) : ∃ v, m_l_szPat N x left = some v ∧ Szd v left (totTPat x) := by
  obtain ⟨w0, w1, w2⟩ := w
  unfold m_l_szPat
  unfold totTPat
  have := sum_nonneg totTArg x.Args (fun y _ => totTArg_nn y)
  have hl0 := w0; unfold WfS maxLen at hl0
  have e0 : IntKind.i64.wrap (left - (x.Kind.size : Int)) = left - (x.Kind.size : Int) := wr (by omega) (by omega)
  simp only [e0]
  by_cases c0 : (left - (x.Kind.size : Int)) < 0
  · rw [if_pos (by simpa using c0)]; exact ⟨-1, rfl, .inl (by omega)⟩
  rw [if_neg (by simpa using c0)]
  obtain ⟨v1, hv1, hs1⟩ := sz_m_l_szArgS hN x.Args w1 (left - (x.Kind.size : Int)) (by omega) (by omega)
  rw [hv1]; simp only [Option.bind_some]
  by_cases c1 : v1 < 0
  · rw [if_pos (by simpa using c1)]; exact ⟨-1, rfl, .inl (by omega)⟩
  rw [if_neg (by simpa using c1)]
  replace hs1 := hs1.resolve_left c1
  exact ⟨_, rfl, .inr ⟨by omega, by omega⟩⟩
theorem sz_m_l_szPatS {N : Nat} (hN : 1099000000000 ≤ N) (x : (List TPat)) (w : (WfL WfTPat) x) (left : Int) (h0 : 0 ≤ left) (h1 : left ≤ 1048576) : ∃ v, m_l_szPatS N x left = some v ∧ Szd v left ((x.length : Int) + (x.map totTPat).sum) := by
  have hl := w.1; unfold maxLen at hl
  have e1 : IntKind.i64.wrap (left - (x.length : Int)) = left - (x.length : Int) := wr (by omega) (by omega)
  unfold m_l_szPatS
  simp only [e1]
  by_cases c : left - (x.length : Int) < 0
  · rw [if_pos (by simpa using c)]; exact ⟨-1, rfl, .inl (by omega)⟩
  · rw [if_neg (by simpa using c)]
    obtain ⟨v, hv, hs⟩ := szloop (m_l_szPatS_l1 N x) x (by omega) totTPat (fun y _ => totTPat_nn y) (fun y l => m_l_szPat N y l) (fun y hy l g0 g1 => sz_m_l_szPat hN y (w.2 y hy) l g0 g1) (fun k l i => rfl) N 0 (left - (x.length : Int)) (by omega) (by omega) (by omega) (by omega)
    refine ⟨v, hv, ?_⟩
    rw [List.drop_zero] at hs
    rcases hs with hs | ⟨hs0, hs⟩
    · exact .inl hs
    · exact .inr ⟨hs0, by omega⟩
theorem sz_m_l_szCond {N : Nat} (hN : 1099000000000 ≤ N) (x : TCond) (w : WfTCond x) (left : Int) (h0 : 0 ≤ left) (h1 : left ≤ 1048576) : ∃ v, m_l_szCond N x left = some v ∧ Szd v left (totTCond x) := by
  obtain ⟨w0, w1, w2⟩ := w
  unfold m_l_szCond
  unfold totTCond
  have := totTArg_nn x.L
  have := totTArg_nn x.R
  obtain ⟨v1, hv1, hs1⟩ := sz_m_l_szArg hN x.L w1 left (by omega) (by omega)
  rw [hv1]; simp only [Option.bind_some]
  by_cases c1 : v1 < 0
  · rw [if_pos (by simpa using c1)]; exact ⟨-1, rfl, .inl (by omega)⟩
  rw [if_neg (by simpa using c1)]
  replace hs1 := hs1.resolve_left c1
  obtain ⟨v2, hv2, hs2⟩ := sz_m_l_szArg hN x.R w2 v1 (by omega) (by omega)
  rw [hv2]; simp only [Option.bind_some]
  by_cases c2 : v2 < 0
  · rw [if_pos (by simpa using c2)]; exact ⟨-1, rfl, .inl (by omega)⟩
  rw [if_neg (by simpa using c2)]
  replace hs2 := hs2.resolve_left c2
  exact ⟨_, rfl, .inr ⟨by omega, by omega⟩⟩
theorem sz_m_l_szCondS {N : Nat} (hN : 1099000000000 ≤ N) (x : (List TCond)) (w : (WfL WfTCond) x) (left : Int) (h0 : 0 ≤ left) (h1 : left ≤ 1048576) : ∃ v, m_l_szCondS N x left = some v ∧ Szd v left ((x.length : Int) + (x.map totTCond).sum) := by
  have hl := w.1; unfold maxLen at hl
  have e1 : IntKind.i64.wrap (left - (x.length : Int)) = left - (x.length : Int) := wr (by omega) (by omega)
  unfold m_l_szCondS
  simp only [e1]
  by_cases c : left - (x.length : Int) < 0
  · rw [if_pos (by simpa using c)]; exact ⟨-1, rfl, .inl (by omega)⟩
  · rw [if_neg (by simpa using c)]
    obtain ⟨v, hv, hs⟩ := szloop (m_l_szCondS_l1 N x) x (by omega) totTCond (fun y _ => totTCond_nn y) (fun y l => m_l_szCond N y l) (fun y hy l g0 g1 => sz_m_l_szCond hN y (w.2 y hy) l g0 g1) (fun k l i => rfl) N 0 (left - (x.length : Int)) (by omega) (by omega) (by omega) (by omega)
    refine ⟨v, hv, ?_⟩
    rw [List.drop_zero] at hs
    rcases hs with hs | ⟨hs0, hs⟩
    · exact .inl hs
    · exact .inr ⟨hs0, by omega⟩
theorem sz_m_l_szExpr {N : Nat} (hN : 1099000000000 ≤ N) (x : TExpr) (w : WfTExpr x) (left : Int) (h0 : 0 ≤ left) (h1 : left ≤ 1048576) : ∃ v, m_l_szExpr N x left = some v ∧ Szd v left (totTExpr x) := by
  obtain ⟨w0, w1, w2⟩ := w
  unfold m_l_szExpr
  unfold totTExpr
  have := totTArg_nn x.L
  have := totTArg_nn x.R
  have hl0 := w0; unfold WfS maxLen at hl0
  have e0 : IntKind.i64.wrap (left - (x.Op.size : Int)) = left - (x.Op.size : Int) := wr (by omega) (by omega)
  simp only [e0]
  by_cases c0 : (left - (x.Op.size : Int)) < 0
  · rw [if_pos (by simpa using c0)]; exact ⟨-1, rfl, .inl (by omega)⟩
  rw [if_neg (by simpa using c0)]
  obtain ⟨v1, hv1, hs1⟩ := sz_m_l_szArg hN x.L w1 (left - (x.Op.size : Int)) (by omega) (by omega)
  rw [hv1]; simp only [Option.bind_some]
  by_cases c1 : v1 < 0
  · rw [if_pos (by simpa using c1)]; exact ⟨-1, rfl, .inl (by omega)⟩
  rw [if_neg (by simpa using c1)]
  replace hs1 := hs1.resolve_left c1
  obtain ⟨v2, hv2, hs2⟩ := sz_m_l_szArg hN x.R w2 v1 (by omega) (by omega)
  rw [hv2]; simp only [Option.bind_some]
  by_cases c2 : v2 < 0
  · rw [if_pos (by simpa using c2)]; exact ⟨-1, rfl, .inl (by omega)⟩
  rw [if_neg (by simpa using c2)]
  replace hs2 := hs2.resolve_left c2
  exact ⟨_, rfl, .inr ⟨by omega, by omega⟩⟩
theorem sz_m_l_szExprS {N : Nat} (hN : 1099000000000 ≤ N) (x : (List TExpr)) (w : (WfL WfTExpr) x) (left : Int) (h0 : 0 ≤ left) (h1 : left ≤ 1048576) : ∃ v, m_l_szExprS N x left = some v ∧ Szd v left ((x.length : Int) + (x.map totTExpr).sum) := by
  have hl := w.1; unfold maxLen at hl
  have e1 : IntKind.i64.wrap (left - (x.length : Int)) = left - (x.length : Int) := wr (by omega) (by omega)
  unfold m_l_szExprS
  simp only [e1]
  by_cases c : left - (x.length : Int) < 0
  · rw [if_pos (by simpa using c)]; exact ⟨-1, rfl, .inl (by omega)⟩
  · rw [if_neg (by simpa using c)]
    obtain ⟨v, hv, hs⟩ := szloop (m_l_szExprS_l1 N x) x (by omega) totTExpr (fun y _ => totTExpr_nn y) (fun y l => m_l_szExpr N y l) (fun y hy l g0 g1 => sz_m_l_szExpr hN y (w.2 y hy) l g0 g1) (fun k l i => rfl) N 0 (left - (x.length : Int)) (by omega) (by omega) (by omega) (by omega)
    refine ⟨v, hv, ?_⟩
    rw [List.drop_zero] at hs
    rcases hs with hs | ⟨hs0, hs⟩
    · exact .inl hs
    · exact .inr ⟨hs0, by omega⟩
theorem sz_m_l_szAct {N : Nat} (hN : 1099000000000 ≤ N) (x : TAct) (w : WfTAct x) (left : Int) (h0 : 0 ≤ left) (h1 : left ≤ 1048576) : ∃ v, m_l_szAct N x left = some v ∧ Szd v left (totTAct x) := by
  obtain ⟨w0, w1, w2, w3, w4⟩ := w
  unfold m_l_szAct
  unfold totTAct
  have := sum_nonneg totTExpr x.Args (fun y _ => totTExpr_nn y)
  have hl1 := w1; unfold WfS maxLen at hl1
  have e1 : IntKind.i64.wrap (left - (x.Name.size : Int)) = left - (x.Name.size : Int) := wr (by omega) (by omega)
  simp only [e1]
  by_cases c1 : (left - (x.Name.size : Int)) < 0
  · rw [if_pos (by simpa using c1)]; exact ⟨-1, rfl, .inl (by omega)⟩
  rw [if_neg (by simpa using c1)]
  obtain ⟨v2, hv2, hs2⟩ := sz_m_l_szExprS hN x.Args w2 (left - (x.Name.size : Int)) (by omega) (by omega)
  rw [hv2]; simp only [Option.bind_some]
  by_cases c2 : v2 < 0
  · rw [if_pos (by simpa using c2)]; exact ⟨-1, rfl, .inl (by omega)⟩
  rw [if_neg (by simpa using c2)]
  replace hs2 := hs2.resolve_left c2
  have hl4 := w4; unfold WfS maxLen at hl4
  have e4 : IntKind.i64.wrap (v2 - (x.Undo.size : Int)) = v2 - (x.Undo.size : Int) := wr (by omega) (by omega)
  simp only [e4]
  by_cases c4 : (v2 - (x.Undo.size : Int)) < 0
  · rw [if_pos (by simpa using c4)]; exact ⟨-1, rfl, .inl (by omega)⟩
  rw [if_neg (by simpa using c4)]
  exact ⟨_, rfl, .inr ⟨by omega, by omega⟩⟩
theorem sz_m_l_szActS {N : Nat} (hN : 1099000000000 ≤ N) (x : (List TAct)) (w : (WfL WfTAct) x) (left : Int) (h0 : 0 ≤ left) (h1 : left ≤ 1048576) : ∃ v, m_l_szActS N x left = some v ∧ Szd v left ((x.length : Int) + (x.map totTAct).sum) := by
  have hl := w.1; unfold maxLen at hl
  have e1 : IntKind.i64.wrap (left - (x.length : Int)) = left - (x.length : Int) := wr (by omega) (by omega)
  unfold m_l_szActS
  simp only [e1]
  by_cases c : left - (x.length : Int) < 0
  · rw [if_pos (by simpa using c)]; exact ⟨-1, rfl, .inl (by omega)⟩
  · rw [if_neg (by simpa using c)]
    obtain ⟨v, hv, hs⟩ := szloop (m_l_szActS_l1 N x) x (by omega) totTAct (fun y _ => totTAct_nn y) (fun y l => m_l_szAct N y l) (fun y hy l g0 g1 => sz_m_l_szAct hN y (w.2 y hy) l g0 g1) (fun k l i => rfl) N 0 (left - (x.length : Int)) (by omega) (by omega) (by omega) (by omega)
    refine ⟨v, hv, ?_⟩
    rw [List.drop_zero] at hs
    rcases hs with hs | ⟨hs0, hs⟩
    · exact .inl hs
    · exact .inr ⟨hs0, by omega⟩
theorem sz_m_l_szRule {N : Nat} (hN : 1099000000000 ≤ N) (x : TRule) (w : WfTRule x) (left : Int) (h0 : 0 ≤ left) (h1 : left ≤ 1048576) : ∃ v, m_l_szRule N x left = some v ∧ Szd v left (totTRule x) := by
  obtain ⟨w0, w1, w2, w3, w4⟩ := w
  unfold m_l_szRule
  unfold totTRule
  have := sum_nonneg totTPat x.Pats (fun y _ => totTPat_nn y)
  have := sum_nonneg totTCond x.Conds (fun y _ => totTCond_nn y)
  have := sum_nonneg totTAct x.Acts (fun y _ => totTAct_nn y)
  have hl0 := w0; unfold WfS maxLen at hl0
  have e0 : IntKind.i64.wrap (left - (x.Name.size : Int)) = left - (x.Name.size : Int) := wr (by omega) (by omega)
  simp only [e0]
  by_cases c0 : (left - (x.Name.size : Int)) < 0
  · rw [if_pos (by simpa using c0)]; exact ⟨-1, rfl, .inl (by omega)⟩
  rw [if_neg (by simpa using c0)]
  obtain ⟨v2, hv2, hs2⟩ := sz_m_l_szPatS hN x.Pats w2 (left - (x.Name.size : Int)) (by omega) (by omega)
  rw [hv2]; simp only [Option.bind_some]
  by_cases c2 : v2 < 0
  · rw [if_pos (by simpa using c2)]; exact ⟨-1, rfl, .inl (by omega)⟩
  rw [if_neg (by simpa using c2)]
  replace hs2 := hs2.resolve_left c2
  obtain ⟨v3, hv3, hs3⟩ := sz_m_l_szCondS hN x.Conds w3 v2 (by omega) (by omega)
  rw [hv3]; simp only [Option.bind_some]
  by_cases c3 : v3 < 0
  · rw [if_pos (by simpa using c3)]; exact ⟨-1, rfl, .inl (by omega)⟩
  rw [if_neg (by simpa using c3)]
  replace hs3 := hs3.resolve_left c3
  obtain ⟨v4, hv4, hs4⟩ := sz_m_l_szActS hN x.Acts w4 v3 (by omega) (by omega)
  rw [hv4]; simp only [Option.bind_some]
  by_cases c4 : v4 < 0
  · rw [if_pos (by simpa using c4)]; exact ⟨-1, rfl, .inl (by omega)⟩
  rw [if_neg (by simpa using c4)]
  replace hs4 := hs4.resolve_left c4
  exact ⟨_, rfl, .inr ⟨by omega, by omega⟩⟩
theorem sz_m_l_szRuleS {N : Nat} (hN : 1099000000000 ≤ N) (x : (List TRule)) (w : (WfL WfTRule) x) (left : Int) (h0 : 0 ≤ left) (h1 : left ≤ 1048576) : ∃ v, m_l_szRuleS N x left = some v ∧ Szd v left ((x.length : Int) + (x.map totTRule).sum) := by
  have hl := w.1; unfold maxLen at hl
  have e1 : IntKind.i64.wrap (left - (x.length : Int)) = left - (x.length : Int) := wr (by omega) (by omega)
  unfold m_l_szRuleS
  simp only [e1]
  by_cases c : left - (x.length : Int) < 0
  · rw [if_pos (by simpa using c)]; exact ⟨-1, rfl, .inl (by omega)⟩
  · rw [if_neg (by simpa using c)]
    obtain ⟨v, hv, hs⟩ := szloop (m_l_szRuleS_l1 N x) x (by omega) totTRule (fun y _ => totTRule_nn y) (fun y l => m_l_szRule N y l) (fun y hy l g0 g1 => sz_m_l_szRule hN y (w.2 y hy) l g0 g1) (fun k l i => rfl) N 0 (left - (x.length : Int)) (by omega) (by omega) (by omega) (by omega)
    refine ⟨v, hv, ?_⟩
    rw [List.drop_zero] at hs
    rcases hs with hs | ⟨hs0, hs⟩
    · exact .inl hs
    · exact .inr ⟨hs0, by omega⟩
theorem sz_m_l_szDef {N : Nat} (hN : 1099000000000 ≤ N) (x : TDef) (w : WfTDef x) (left : Int) (h0 : 0 ≤ left) (h1 : left ≤ 1048576) : ∃ v, m_l_szDef N x left = some v ∧ Szd v left (totTDef x) := by
  obtain ⟨w0, w1⟩ := w
  unfold m_l_szDef
  unfold totTDef
  have := sum_nonneg totTRule x.Rules (fun y _ => totTRule_nn y)
  have hl0 := w0; unfold WfS maxLen at hl0
  have e0 : IntKind.i64.wrap (left - (x.Name.size : Int)) = left - (x.Name.size : Int) := wr (by omega) (by omega)
  simp only [e0]
  by_cases c0 : (left - (x.Name.size : Int)) < 0
  · rw [if_pos (by simpa using c0)]; exact ⟨-1, rfl, .inl (by omega)⟩
  rw [if_neg (by simpa using c0)]
  obtain ⟨v1, hv1, hs1⟩ := sz_m_l_szRuleS hN x.Rules w1 (left - (x.Name.size : Int)) (by omega) (by omega)
  rw [hv1]; simp only [Option.bind_some]
  by_cases c1 : v1 < 0
  · rw [if_pos (by simpa using c1)]; exact ⟨-1, rfl, .inl (by omega)⟩
  rw [if_neg (by simpa using c1)]
  replace hs1 := hs1.resolve_left c1
  exact ⟨_, rfl, .inr ⟨by omega, by omega⟩⟩
theorem sz_m_l_szIntS {N : Nat} (hN : 1099000000000 ≤ N) (x : (List Int)) (w : (WfL (WfI .i64)) x) (left : Int) (h0 : 0 ≤ left) (h1 : left ≤ 1048576) : ∃ v, m_l_szIntS N x left = some v ∧ Szd v left ((x.length : Int)) := by
  have hl := w.1; unfold maxLen at hl
  have e1 : IntKind.i64.wrap (left - (x.length : Int)) = left - (x.length : Int) := wr (by omega) (by omega)
  unfold m_l_szIntS
  simp only [e1]
  by_cases c : left - (x.length : Int) < 0
  · rw [if_pos (by simpa using c)]; exact ⟨-1, rfl, .inl (by omega)⟩
  · rw [if_neg (by simpa using c)]
    exact ⟨_, rfl, .inr ⟨by omega, rfl⟩⟩
theorem sz_m_l_szIds {N : Nat} (hN : 1099000000000 ≤ N) (x : TIds) (w : WfTIds x) (left : Int) (h0 : 0 ≤ left) (h1 : left ≤ 1048576) : ∃ v, m_l_szIds N x left = some v ∧ Szd v left (totTIds x) := by
  have w0 : (WfL (WfI .i64)) x.L := w
  unfold m_l_szIds
  unfold totTIds
  obtain ⟨v0, hv0, hs0⟩ := sz_m_l_szIntS hN x.L w0 left (by omega) (by omega)
  rw [hv0]; simp only [Option.bind_some]
  by_cases c0 : v0 < 0
  · rw [if_pos (by simpa using c0)]; exact ⟨-1, rfl, .inl (by omega)⟩
  rw [if_neg (by simpa using c0)]
  replace hs0 := hs0.resolve_left c0
  exact ⟨_, rfl, .inr ⟨by omega, by omega⟩⟩
theorem sz_m_l_szIdsS {N : Nat} (hN : 1099000000000 ≤ N) (x : (List TIds)) (w : (WfL WfTIds) x) (left : Int) (h0 : 0 ≤ left) (h1 : left ≤ 1048576) : ∃ v, m_l_szIdsS N x left = some v ∧ Szd v left ((x.length : Int) + (x.map totTIds).sum) := by
  have hl := w.1; unfold maxLen at hl
  have e1 : IntKind.i64.wrap (left - (x.length : Int)) = left - (x.length : Int) := wr (by omega) (by omega)
  unfold m_l_szIdsS
  simp only [e1]
  by_cases c : left - (x.length : Int) < 0
  · rw [if_pos (by simpa using c)]; exact ⟨-1, rfl, .inl (by omega)⟩
  · rw [if_neg (by simpa using c)]
    obtain ⟨v, hv, hs⟩ := szloop (m_l_szIdsS_l1 N x) x (by omega) totTIds (fun y _ => totTIds_nn y) (fun y l => m_l_szIds N y l) (fun y hy l g0 g1 => sz_m_l_szIds hN y (w.2 y hy) l g0 g1) (fun k l i => rfl) N 0 (left - (x.length : Int)) (by omega) (by omega) (by omega) (by omega)
    refine ⟨v, hv, ?_⟩
    rw [List.drop_zero] at hs
    rcases hs with hs | ⟨hs0, hs⟩
    · exact .inl hs
    · exact .inr ⟨hs0, by omega⟩
theorem sz_m_l_szTok {N : Nat} (hN : 1099000000000 ≤ N) (x : TTok) (w : WfTTok x) (left : Int) (h0 : 0 ≤ left) (h1 : left ≤ 1048576) : ∃ v, m_l_szTok N x left = some v ∧ Szd v left (totTTok x) := by
  obtain ⟨w0, w1⟩ := w
  unfold m_l_szTok
  unfold totTTok
  obtain ⟨v0, hv0, hs0⟩ := sz_m_l_szIntS hN x.Ids w0 left (by omega) (by omega)
  rw [hv0]; simp only [Option.bind_some]
  by_cases c0 : v0 < 0
  · rw [if_pos (by simpa using c0)]; exact ⟨-1, rfl, .inl (by omega)⟩
  rw [if_neg (by simpa using c0)]
  replace hs0 := hs0.resolve_left c0
  obtain ⟨v1, hv1, hs1⟩ := sz_m_l_szIntS hN x.Hits w1 v0 (by omega) (by omega)
  rw [hv1]; simp only [Option.bind_some]
  by_cases c1 : v1 < 0
  · rw [if_pos (by simpa using c1)]; exact ⟨-1, rfl, .inl (by omega)⟩
  rw [if_neg (by simpa using c1)]
  replace hs1 := hs1.resolve_left c1
  exact ⟨_, rfl, .inr ⟨by omega, by omega⟩⟩
theorem sz_m_l_szTokS {N : Nat} (hN : 1099000000000 ≤ N) (x : (List TTok)) (w : (WfL WfTTok) x) (left : Int) (h0 : 0 ≤ left) (h1 : left ≤ 1048576) : ∃ v, m_l_szTokS N x left = some v ∧ Szd v left ((x.length : Int) + (x.map totTTok).sum) := by
  have hl := w.1; unfold maxLen at hl
  have e1 : IntKind.i64.wrap (left - (x.length : Int)) = left - (x.length : Int) := wr (by omega) (by omega)
  unfold m_l_szTokS
  simp only [e1]
  by_cases c : left - (x.length : Int) < 0
  · rw [if_pos (by simpa using c)]; exact ⟨-1, rfl, .inl (by omega)⟩
  · rw [if_neg (by simpa using c)]
    obtain ⟨v, hv, hs⟩ := szloop (m_l_szTokS_l1 N x) x (by omega) totTTok (fun y _ => totTTok_nn y) (fun y l => m_l_szTok N y l) (fun y hy l g0 g1 => sz_m_l_szTok hN y (w.2 y hy) l g0 g1) (fun k l i => rfl) N 0 (left - (x.length : Int)) (by omega) (by omega) (by omega) (by omega)
    refine ⟨v, hv, ?_⟩
    rw [List.drop_zero] at hs
    rcases hs with hs | ⟨hs0, hs⟩
    · exact .inl hs
    · exact .inr ⟨hs0, by omega⟩
theorem sz_m_l_szLevel {N : Nat} (hN : 1099000000000 ≤ N) (x : TLevel) (w : WfTLevel x) (left : Int) (h0 : 0 ≤ left) (h1 : left ≤ 1048576) : ∃ v, m_l_szLevel N x left = some v ∧ Szd v left (totTLevel x) := by
  have w0 : (WfL WfTTok) x.Toks := w
  unfold m_l_szLevel
  unfold totTLevel
  have := sum_nonneg totTTok x.Toks (fun y _ => totTTok_nn y)
  obtain ⟨v0, hv0, hs0⟩ := sz_m_l_szTokS hN x.Toks w0 left (by omega) (by omega)
  rw [hv0]; simp only [Option.bind_some]
  by_cases c0 : v0 < 0
  · rw [if_pos (by simpa using c0)]; exact ⟨-1, rfl, .inl (by omega)⟩
  rw [if_neg (by simpa using c0)]
  replace hs0 := hs0.resolve_left c0
  exact ⟨_, rfl, .inr ⟨by omega, by omega⟩⟩
theorem sz_m_l_szLevelS {N : Nat} (hN : 1099000000000 ≤ N) (x : (List TLevel)) (w : (WfL WfTLevel) x) (left : Int) (h0 : 0 ≤ left) (h1 : left ≤ 1048576) : ∃ v, m_l_szLevelS N x left = some v ∧ Szd v left ((x.length : Int) + (x.map totTLevel).sum) := by
  have hl := w.1; unfold maxLen at hl
  have e1 : IntKind.i64.wrap (left - (x.length : Int)) = left - (x.length : Int) := wr (by omega) (by omega)
  unfold m_l_szLevelS
  simp only [e1]
  by_cases c : left - (x.length : Int) < 0
  · rw [if_pos (by simpa using c)]; exact ⟨-1, rfl, .inl (by omega)⟩
  · rw [if_neg (by simpa using c)]
    obtain ⟨v, hv, hs⟩ := szloop (m_l_szLevelS_l1 N x) x (by omega) totTLevel (fun y _ => totTLevel_nn y) (fun y l => m_l_szLevel N y l) (fun y hy l g0 g1 => sz_m_l_szLevel hN y (w.2 y hy) l g0 g1) (fun k l i => rfl) N 0 (left - (x.length : Int)) (by omega) (by omega) (by omega) (by omega)
    refine ⟨v, hv, ?_⟩
    rw [List.drop_zero] at hs
    rcases hs with hs | ⟨hs0, hs⟩
    · exact .inl hs
    · exact .inr ⟨hs0, by omega⟩
theorem sz_m_l_szRow {N : Nat} (hN : 1099000000000 ≤ N) (x : TRow) (w : WfTRow x) (left : Int) (h0 : 0 ≤ left) (h1 : left ≤ 1048576) : ∃ v, m_l_szRow N x left = some v ∧ Szd v left (totTRow x) := by
  have w0 : (WfL WfTLevel) x.Levels := w
  unfold m_l_szRow
  unfold totTRow
  have := sum_nonneg totTLevel x.Levels (fun y _ => totTLevel_nn y)
  obtain ⟨v0, hv0, hs0⟩ := sz_m_l_szLevelS hN x.Levels w0 left (by omega) (by omega)
  rw [hv0]; simp only [Option.bind_some]
  by_cases c0 : v0 < 0
  · rw [if_pos (by simpa using c0)]; exact ⟨-1, rfl, .inl (by omega)⟩
  rw [if_neg (by simpa using c0)]
  replace hs0 := hs0.resolve_left c0
  exact ⟨_, rfl, .inr ⟨by omega, by omega⟩⟩
theorem sz_m_l_szRowS {N : Nat} (hN : 1099000000000 ≤ N) (x : (List TRow)) (w : (WfL WfTRow) x) (left : Int) (h0 : 0 ≤ left) (h1 : left ≤ 1048576) : ∃ v, m_l_szRowS N x left = some v ∧ Szd v left ((x.length : Int) + (x.map totTRow).sum) := by
  have hl := w.1; unfold maxLen at hl
  have e1 : IntKind.i64.wrap (left - (x.length : Int)) = left - (x.length : Int) := wr (by omega) (by omega)
  unfold m_l_szRowS
  simp only [e1]
  by_cases c : left - (x.length : Int) < 0
  · rw [if_pos (by simpa using c)]; exact ⟨-1, rfl, .inl (by omega)⟩
  · rw [if_neg (by simpa using c)]
    obtain ⟨v, hv, hs⟩ := szloop (m_l_szRowS_l1 N x) x (by omega) totTRow (fun y _ => totTRow_nn y) (fun y l => m_l_szRow N y l) (fun y hy l g0 g1 => sz_m_l_szRow hN y (w.2 y hy) l g0 g1) (fun k l i => rfl) N 0 (left - (x.length : Int)) (by omega) (by omega) (by omega) (by omega)
    refine ⟨v, hv, ?_⟩
    rw [List.drop_zero] at hs
    rcases hs with hs | ⟨hs0, hs⟩
    · exact .inl hs
    · exact .inr ⟨hs0, by omega⟩
theorem sz_m_l_szMem {N : Nat} (hN : 1099000000000 ≤ N) (x : TMem) (w : WfTMem x) (left : Int) (h0 : 0 ≤ left) (h1 : left ≤ 1048576) : ∃ v, m_l_szMem N x left = some v ∧ Szd v left (totTMem x) := by
  obtain ⟨w0, w1⟩ := w
  unfold m_l_szMem
  unfold totTMem
  have := sum_nonneg totTIds x.Alphas (fun y _ => totTIds_nn y)
  have := sum_nonneg totTRow x.Rules (fun y _ => totTRow_nn y)
  obtain ⟨v0, hv0, hs0⟩ := sz_m_l_szIdsS hN x.Alphas w0 left (by omega) (by omega)
  rw [hv0]; simp only [Option.bind_some]
  by_cases c0 : v0 < 0
  · rw [if_pos (by simpa using c0)]; exact ⟨-1, rfl, .inl (by omega)⟩
  rw [if_neg (by simpa using c0)]
  replace hs0 := hs0.resolve_left c0
  obtain ⟨v1, hv1, hs1⟩ := sz_m_l_szRowS hN x.Rules w1 v0 (by omega) (by omega)
  rw [hv1]; simp only [Option.bind_some]
  by_cases c1 : v1 < 0
  · rw [if_pos (by simpa using c1)]; exact ⟨-1, rfl, .inl (by omega)⟩
  rw [if_neg (by simpa using c1)]
  replace hs1 := hs1.resolve_left c1
  exact ⟨_, rfl, .inr ⟨by omega, by omega⟩⟩
theorem sz_m_l_szValS {N : Nat} (hN : 1099000000000 ≤ N) (x : (List TVal)) (w : (WfL WfTVal) x) (left : Int) (h0 : 0 ≤ left) (h1 : left ≤ 1048576) : ∃ v, m_l_szValS N x left = some v ∧ Szd v left ((x.length : Int) + (x.map totTVal).sum) := by
  have hl := w.1; unfold maxLen at hl
  have e1 : IntKind.i64.wrap (left - (x.length : Int)) = left - (x.length : Int) := wr (by omega) (by omega)
  unfold m_l_szValS
  simp only [e1]
  by_cases c : left - (x.length : Int) < 0
  · rw [if_pos (by simpa using c)]; exact ⟨-1, rfl, .inl (by omega)⟩
  · rw [if_neg (by simpa using c)]
    obtain ⟨v, hv, hs⟩ := szloop (m_l_szValS_l1 N x) x (by omega) totTVal (fun y _ => totTVal_nn y) (fun y l => m_l_szVal N y l) (fun y hy l g0 g1 => sz_m_l_szVal hN y (w.2 y hy) l g0 g1) (fun k l i => rfl) N 0 (left - (x.length : Int)) (by omega) (by omega) (by omega) (by omega)
    refine ⟨v, hv, ?_⟩
    rw [List.drop_zero] at hs
    rcases hs with hs | ⟨hs0, hs⟩
    · exact .inl hs
    · exact .inr ⟨hs0, by omega⟩
theorem sz_m_l_szFact {N : Nat} (hN : 1099000000000 ≤ N) (x : TFact) (w : WfTFact x) (left : Int) (h0 : 0 ≤ left) (h1 : left ≤ 1048576) : ∃ v, m_l_szFact N x left = some v ∧ Szd v left (totTFact x) := by
  obtain ⟨w0, w1⟩ := w
  unfold m_l_szFact
  unfold totTFact
  have := sum_nonneg totTVal x.Fields (fun y _ => totTVal_nn y)
  have hl0 := w0; unfold WfS maxLen at hl0
  have e0 : IntKind.i64.wrap (left - (x.Kind.size : Int)) = left - (x.Kind.size : Int) := wr (by omega) (by omega)
  simp only [e0]
  by_cases c0 : (left - (x.Kind.size : Int)) < 0
  · rw [if_pos (by simpa using c0)]; exact ⟨-1, rfl, .inl (by omega)⟩
  rw [if_neg (by simpa using c0)]
  obtain ⟨v1, hv1, hs1⟩ := sz_m_l_szValS hN x.Fields w1 (left - (x.Kind.size : Int)) (by omega) (by omega)
  rw [hv1]; simp only [Option.bind_some]
  by_cases c1 : v1 < 0
  · rw [if_pos (by simpa using c1)]; exact ⟨-1, rfl, .inl (by omega)⟩
  rw [if_neg (by simpa using c1)]
  replace hs1 := hs1.resolve_left c1
  exact ⟨_, rfl, .inr ⟨by omega, by omega⟩⟩
theorem sz_m_l_szItem {N : Nat} (hN : 1099000000000 ≤ N) (x : TItem) (w : WfTItem x) (left : Int) (h0 : 0 ≤ left) (h1 : left ≤ 1048576) : ∃ v, m_l_szItem N x left = some v ∧ Szd v left (totTItem x) := by
  obtain ⟨w0, w1⟩ := w
  unfold m_l_szItem
  unfold totTItem
  have := totTFact_nn x.F
  obtain ⟨v1, hv1, hs1⟩ := sz_m_l_szFact hN x.F w1 left (by omega) (by omega)
  rw [hv1]; simp only [Option.bind_some]
  by_cases c1 : v1 < 0
  · rw [if_pos (by simpa using c1)]; exact ⟨-1, rfl, .inl (by omega)⟩
  rw [if_neg (by simpa using c1)]
  replace hs1 := hs1.resolve_left c1
  exact ⟨_, rfl, .inr ⟨by omega, by omega⟩⟩
theorem sz_m_l_szItemS {N : Nat} (hN : 1099000000000 ≤ N) (x : (List TItem)) (w : (WfL WfTItem) x) (left : Int) (h0 : 0 ≤ left) (h1 : left ≤ 1048576) : ∃ v, m_l_szItemS N x left = some v ∧ Szd v left ((x.length : Int) + (x.map totTItem).sum) := by
  have hl := w.1; unfold maxLen at hl
  have e1 : IntKind.i64.wrap (left - (x.length : Int)) = left - (x.length : Int) := wr (by omega) (by omega)
  unfold m_l_szItemS
  simp only [e1]
  by_cases c : left - (x.length : Int) < 0
  · rw [if_pos (by simpa using c)]; exact ⟨-1, rfl, .inl (by omega)⟩
  · rw [if_neg (by simpa using c)]
    obtain ⟨v, hv, hs⟩ := szloop (m_l_szItemS_l1 N x) x (by omega) totTItem (fun y _ => totTItem_nn y) (fun y l => m_l_szItem N y l) (fun y hy l g0 g1 => sz_m_l_szItem hN y (w.2 y hy) l g0 g1) (fun k l i => rfl) N 0 (left - (x.length : Int)) (by omega) (by omega) (by omega) (by omega)
    refine ⟨v, hv, ?_⟩
    rw [List.drop_zero] at hs
    rcases hs with hs | ⟨hs0, hs⟩
    · exact .inl hs
    · exact .inr ⟨hs0, by omega⟩
theorem sz_m_l_szStore {N : Nat} (hN : 1099000000000 ≤ N) (x : TStore) (w : WfTStore x) (left : Int) (h0 : 0 ≤ left) (h1 : left ≤ 1048576) : ∃ v, m_l_szStore N x left = some v ∧ Szd v left (totTStore x) := by
  obtain ⟨w0, w1⟩ := w
  unfold m_l_szStore
  unfold totTStore
  have := sum_nonneg totTItem x.Items (fun y _ => totTItem_nn y)
  obtain ⟨v0, hv0, hs0⟩ := sz_m_l_szItemS hN x.Items w0 left (by omega) (by omega)
  rw [hv0]; simp only [Option.bind_some]
  by_cases c0 : v0 < 0
  · rw [if_pos (by simpa using c0)]; exact ⟨-1, rfl, .inl (by omega)⟩
  rw [if_neg (by simpa using c0)]
  replace hs0 := hs0.resolve_left c0
  exact ⟨_, rfl, .inr ⟨by omega, by omega⟩⟩
def LimTPat (x : TPat) : Prop := (x.Args.length ≤ 4294967296)
theorem LimTPat_of (x : TPat) (h : totTPat x ≤ 1048576) : LimTPat x := by
  unfold totTPat at h
  have nn_Args : ∀ y ∈ x.Args, 0 ≤ totTArg y := fun y _ => totTArg_nn y
  have := sum_nonneg _ _ nn_Args
  unfold LimTPat; omega
def LimTAct (x : TAct) : Prop := (x.Args.length ≤ 4294967296)
theorem LimTAct_of (x : TAct) (h : totTAct x ≤ 1048576) : LimTAct x := by
  unfold totTAct at h
  have nn_Args : ∀ y ∈ x.Args, 0 ≤ totTExpr y := fun y _ => totTExpr_nn y
  have := sum_nonneg _ _ nn_Args
  unfold LimTAct; omega
def LimTRule (x : TRule) : Prop := (x.Pats.length ≤ 4294967296 ∧ ∀ y ∈ x.Pats, LimTPat y) ∧ (x.Conds.length ≤ 4294967296) ∧ (x.Acts.length ≤ 4294967296 ∧ ∀ y ∈ x.Acts, LimTAct y)
theorem LimTRule_of (x : TRule) (h : totTRule x ≤ 1048576) : LimTRule x := by
  unfold totTRule at h
  have nn_Pats : ∀ y ∈ x.Pats, 0 ≤ totTPat y := fun y _ => totTPat_nn y
  have := sum_nonneg _ _ nn_Pats
  have nn_Conds : ∀ y ∈ x.Conds, 0 ≤ totTCond y := fun y _ => totTCond_nn y
  have := sum_nonneg _ _ nn_Conds
  have nn_Acts : ∀ y ∈ x.Acts, 0 ≤ totTAct y := fun y _ => totTAct_nn y
  have := sum_nonneg _ _ nn_Acts
  exact ⟨⟨by omega, fun y hy => LimTPat_of y (by have := sum_mem _ _ nn_Pats y hy; omega)⟩, by omega, ⟨by omega, fun y hy => LimTAct_of y (by have := sum_mem _ _ nn_Acts y hy; omega)⟩⟩
def LimTDef (x : TDef) : Prop := (x.Rules.length ≤ 4294967296 ∧ ∀ y ∈ x.Rules, LimTRule y)
theorem LimTDef_of (x : TDef) (h : totTDef x ≤ 1048576) : LimTDef x := by
  unfold totTDef at h
  have nn_Rules : ∀ y ∈ x.Rules, 0 ≤ totTRule y := fun y _ => totTRule_nn y
  have := sum_nonneg _ _ nn_Rules
  exact ⟨by omega, fun y hy => LimTRule_of y (by have := sum_mem _ _ nn_Rules y hy; omega)⟩
theorem to_m_l_toVal {N : Nat} (hN : 1099000000000 ≤ N) (x : TVal) : m_l_toVal N x = some x := by
  unfold m_l_toVal
  rfl
theorem to_m_l_toArg {N : Nat} (hN : 1099000000000 ≤ N) (x : TArg) : m_l_toArg N x = some x := by
  unfold m_l_toArg
  rw [to_m_l_toVal hN _, Option.bind_some]
theorem to_m_l_toArgS {N : Nat} (hN : 1099000000000 ≤ N) (x : (List TArg)) (h : (x.length ≤ 4294967296)) : m_l_toArgS N x = some x := by
  have hl : x.length ≤ 4294967296 := h
  unfold m_l_toArgS
  rw [mk_nat _ (by omega), Option.bind_some]
  refine (toloop (m_l_toArgS_l1 N x) x (by omega) (fun y => m_l_toArg N y) (fun y hy => to_m_l_toArg hN y) (fun k s i => rfl) N 0 _ (by simp) (by omega) (by omega)).trans ?_
  simp
theorem to_m_l_toPat {N : Nat} (hN : 1099000000000 ≤ N) (x : TPat) (h : LimTPat x) : m_l_toPat N x = some x := by
  unfold m_l_toPat
  rw [to_m_l_toArgS hN _ (h), Option.bind_some]
theorem to_m_l_toPatS {N : Nat} (hN : 1099000000000 ≤ N) (x : (List TPat)) (h : (x.length ≤ 4294967296 ∧ ∀ y ∈ x, LimTPat y)) : m_l_toPatS N x = some x := by
  have hl : x.length ≤ 4294967296 := h.1
  unfold m_l_toPatS
  rw [mk_nat _ (by omega), Option.bind_some]
  refine (toloop (m_l_toPatS_l1 N x) x (by omega) (fun y => m_l_toPat N y) (fun y hy => to_m_l_toPat hN y (h.2 y hy)) (fun k s i => rfl) N 0 _ (by simp) (by omega) (by omega)).trans ?_
  simp
theorem to_m_l_toCond {N : Nat} (hN : 1099000000000 ≤ N) (x : TCond) : m_l_toCond N x = some x := by
  unfold m_l_toCond
  rw [to_m_l_toArg hN _, Option.bind_some, to_m_l_toArg hN _, Option.bind_some]
theorem to_m_l_toCondS {N : Nat} (hN : 1099000000000 ≤ N) (x : (List TCond)) (h : (x.length ≤ 4294967296)) : m_l_toCondS N x = some x := by
  have hl : x.length ≤ 4294967296 := h
  unfold m_l_toCondS
  rw [mk_nat _ (by omega), Option.bind_some]
  refine (toloop (m_l_toCondS_l1 N x) x (by omega) (fun y => m_l_toCond N y) (fun y hy => to_m_l_toCond hN y) (fun k s i => rfl) N 0 _ (by simp) (by omega) (by omega)).trans ?_
  simp
theorem to_m_l_toExpr {N : Nat} (hN : 1099000000000 ≤ N) (x : TExpr) : m_l_toExpr N x = some x := by
  unfold m_l_toExpr
  rw [to_m_l_toArg hN _, Option.bind_some, to_m_l_toArg hN _, Option.bind_some]
theorem to_m_l_toExprS {N : Nat} (hN : 1099000000000 ≤ N) (x : (List TExpr)) (h : (x.length ≤ 4294967296)) : m_l_toExprS N x = some x := by
  have hl : x.length ≤ 4294967296 := h
  unfold m_l_toExprS
  rw [mk_nat _ (by omega), Option.bind_some]
  refine (toloop (m_l_toExprS_l1 N x) x (by omega) (fun y => m_l_toExpr N y) (fun y hy => to_m_l_toExpr hN y) (fun k s i => rfl) N 0 _ (by simp) (by omega) (by omega)).trans ?_
  simp
theorem to_m_l_toAct {N : Nat} (hN : 1099000000000 ≤ N) (x : TAct) (h : LimTAct x) : m_l_toAct N x = some x := by
  unfold m_l_toAct
  rw [to_m_l_toExprS hN _ (h), Option.bind_some]
theorem to_m_l_toActS {N : Nat} (hN : 1099000000000 ≤ N) (x : (List TAct)) (h : (x.length ≤ 4294967296 ∧ ∀ y ∈ x, LimTAct y)) : m_l_toActS N x = some x := by
  have hl : x.length ≤ 4294967296 := h.1
  unfold m_l_toActS
  rw [mk_nat _ (by omega), Option.bind_some]
  refine (toloop (m_l_toActS_l1 N x) x (by omega) (fun y => m_l_toAct N y) (fun y hy => to_m_l_toAct hN y (h.2 y hy)) (fun k s i => rfl) N 0 _ (by simp) (by omega) (by omega)).trans ?_
  simp
theorem to_m_l_toRule {N : Nat} (hN : 1099000000000 ≤ N) (x : TRule) (h : LimTRule x) : m_l_toRule N x = some x := by
  unfold m_l_toRule
  rw [to_m_l_toPatS hN _ (h.1), Option.bind_some, to_m_l_toCondS hN _ (h.2.1), Option.bind_some, to_m_l_toActS hN _ (h.2.2), Option.bind_some]
theorem to_m_l_toRuleS {N : Nat} (hN : 1099000000000 ≤ N) (x : (List TRule)) (h : (x.length ≤ 4294967296 ∧ ∀ y ∈ x, LimTRule y)) : m_l_toRuleS N x = some x := by
  have hl : x.length ≤ 4294967296 := h.1
  unfold m_l_toRuleS
  rw [mk_nat _ (by omega), Option.bind_some]
  refine (toloop (m_l_toRuleS_l1 N x) x (by omega) (fun y => m_l_toRule N y) (fun y hy => to_m_l_toRule hN y (h.2 y hy)) (fun k s i => rfl) N 0 _ (by simp) (by omega) (by omega)).trans ?_
  simp
theorem to_m_l_toDef {N : Nat} (hN : 1099000000000 ≤ N) (x : TDef) (h : LimTDef x) : m_l_toDef N x = some x := by
  unfold m_l_toDef
  rw [to_m_l_toRuleS hN _ (h), Option.bind_some]
def LimTIds (x : TIds) : Prop := (x.L.length ≤ 4294967296)
theorem LimTIds_of (x : TIds) (h : totTIds x ≤ 1048576) : LimTIds x := by
  unfold totTIds at h
  unfold LimTIds; omega
def LimTTok (x : TTok) : Prop := (x.Ids.length ≤ 4294967296) ∧ (x.Hits.length ≤ 4294967296)
theorem LimTTok_of (x : TTok) (h : totTTok x ≤ 1048576) : LimTTok x := by
  unfold totTTok at h
  exact ⟨by omega, by omega⟩
def LimTLevel (x : TLevel) : Prop := (x.Toks.length ≤ 4294967296 ∧ ∀ y ∈ x.Toks, LimTTok y)
theorem LimTLevel_of (x : TLevel) (h : totTLevel x ≤ 1048576) : LimTLevel x := by
  unfold totTLevel at h
  have nn_Toks : ∀ y ∈ x.Toks, 0 ≤ totTTok y := fun y _ => totTTok_nn y
  have := sum_nonneg _ _ nn_Toks
  exact ⟨by omega, fun y hy => LimTTok_of y (by have := sum_mem _ _ nn_Toks y hy; omega)⟩
def LimTRow (x : TRow) : Prop := (x.Levels.length ≤ 4294967296 ∧ ∀ y ∈ x.Levels, LimTLevel y)
theorem LimTRow_of (x : TRow) (h : totTRow x ≤ 1048576) : LimTRow x := by
  unfold totTRow at h
  have nn_Levels : ∀ y ∈ x.Levels, 0 ≤ totTLevel y := fun y _ => totTLevel_nn y
  have := sum_nonneg _ _ nn_Levels
  exact ⟨by omega, fun y hy => LimTLevel_of y (by have := sum_mem _ _ nn_Levels y hy; omega)⟩
def LimTMem (x : TMem) : Prop := (x.Alphas.length ≤ 4294967296 ∧ ∀ y ∈ x.Alphas, LimTIds y) ∧ (x.Rules.length ≤ 4294967296 ∧ ∀ y ∈ x.Rules, LimTRow y)
theorem LimTMem_of (x : TMem) (h : totTMem x ≤ 1048576) : LimTMem x := by
  unfold totTMem at h
  have nn_Alphas : ∀ y ∈ x.Alphas, 0 ≤ totTIds y := fun y _ => totTIds_nn y
  have := sum_nonneg _ _ nn_Alphas
  have nn_Rules : ∀ y ∈ x.Rules, 0 ≤ totTRow y := fun y _ => totTRow_nn y
  have := sum_nonneg _ _ nn_Rules
  exact ⟨⟨by omega, fun y hy => LimTIds_of y (by have := sum_mem _ _ nn_Alphas y hy; omega)⟩, ⟨by omega, fun y hy => LimTRow_of y (by have := sum_mem _ _ nn_Rules y hy; omega)⟩⟩
theorem to_m_l_toIntS {N : Nat} (hN : 1099000000000 ≤ N) (x : (List Int)) (h : (x.length ≤ 4294967296)) : m_l_toIntS N x = some x := by
  have hl : x.length ≤ 4294967296 := h
  unfold m_l_toIntS
  rw [mk_nat _ (by omega), Option.bind_some]
  refine (toloop (m_l_toIntS_l1 N x) x (by omega) (fun y => some y) (fun y _ => rfl) (fun k s i => rfl) N 0 _ (by simp) (by omega) (by omega)).trans ?_
  simp
theorem to_m_l_toIds {N : Nat} (hN : 1099000000000 ≤ N) (x : TIds) (h : LimTIds x) : m_l_toIds N x = some x := by
  unfold m_l_toIds
  rw [to_m_l_toIntS hN _ (h), Option.bind_some]
theorem to_m_l_toIdsS {N : Nat} (hN : 1099000000000 ≤ N) (x : (List TIds)) (h : (x.length ≤ 4294967296 ∧ ∀ y ∈ x, LimTIds y)) : m_l_toIdsS N x = some x := by
  have hl : x.length ≤ 4294967296 := h.1
  unfold m_l_toIdsS
  rw [mk_nat _ (by omega), Option.bind_some]
  refine (toloop (m_l_toIdsS_l1 N x) x (by omega) (fun y => m_l_toIds N y) (fun y hy => to_m_l_toIds hN y (h.2 y hy)) (fun k s i => rfl) N 0 _ (by simp) (by omega) (by omega)).trans ?_
  simp
theorem to_m_l_toTok {N : Nat} (hN : 1099000000000 ≤ N) (x : TTok) (h : LimTTok x) : m_l_toTok N x = some x := by
  unfold m_l_toTok
  rw [to_m_l_toIntS hN _ (h.1), Option.bind_some, to_m_l_toIntS hN _ (h.2), Option.bind_some]
theorem to_m_l_toTokS {N : Nat} (hN : 1099000000000 ≤ N) (x : (List TTok)) (h : (x.length ≤ 4294967296 ∧ ∀ y ∈ x, LimTTok y)) : m_l_toTokS N x = some x := by
  have hl : x.length ≤ 4294967296 := h.1
  unfold m_l_toTokS
  rw [mk_nat _ (by omega), Option.bind_some]
  refine (toloop (m_l_toTokS_l1 N x) x (by omega) (fun y => m_l_toTok N y) (fun y hy => to_m_l_toTok hN y (h.2 y hy)) (fun k s i => rfl) N 0 _ (by simp) (by omega) (by omega)).trans ?_
  simp
theorem to_m_l_toLevel {N : Nat} (hN : 1099000000000 ≤ N) (x : TLevel) (h : LimTLevel x) : m_l_toLevel N x = some x := by
  unfold m_l_toLevel
  rw [to_m_l_toTokS hN _ (h), Option.bind_some]
theorem to_m_l_toLevelS {N : Nat} (hN : 1099000000000 ≤ N) (x : (List TLevel)) (h : (x.length ≤ 4294967296 ∧ ∀ y ∈ x, LimTLevel y)) : m_l_toLevelS N x = some x := by
  have hl : x.length ≤ 4294967296 := h.1
  unfold m_l_toLevelS
  rw [mk_nat _ (by omega), Option.bind_some]
  refine (toloop (m_l_toLevelS_l1 N x) x (by omega) (fun y => m_l_toLevel N y) (fun y hy => to_m_l_toLevel hN y (h.2 y hy)) (fun k s i => rfl) N 0 _ (by simp) (by omega) (by omega)).trans ?_
  simp
theorem to_m_l_toRow {N : Nat} (hN : 1099000000000 ≤ N) (x : TRow) (h : LimTRow x) : m_l_toRow N x = some x := by
  unfold m_l_toRow
  rw [to_m_l_toLevelS hN _ (h), Option.bind_some]
theorem to_m_l_toRowS {N : Nat} (hN : 1099000000000 ≤ N) (x : (List TRow)) (h : (x.length ≤ 4294967296 ∧ ∀ y ∈ x, LimTRow y)) : m_l_toRowS N x = some x := by
  have hl : x.length ≤ 4294967296 := h.1
  unfold m_l_toRowS
  rw [mk_nat _ (by omega), Option.bind_some]
  refine (toloop (m_l_toRowS_l1 N x) x (by omega) (fun y => m_l_toRow N y) (fun y hy => to_m_l_toRow hN y (h.2 y hy)) (fun k s i => rfl) N 0 _ (by simp) (by omega) (by omega)).trans ?_
  simp
theorem to_m_l_toMem {N : Nat} (hN : 1099000000000 ≤ N) (x : TMem) (h : LimTMem x) : m_l_toMem N x = some x := by
  unfold m_l_toMem
  rw [to_m_l_toIdsS hN _ (h.1), Option.bind_some, to_m_l_toRowS hN _ (h.2), Option.bind_some]
def LimTFact (x : TFact) : Prop := (x.Fields.length ≤ 4294967296)
theorem LimTFact_of (x : TFact) (h : totTFact x ≤ 1048576) : LimTFact x := by
  unfold totTFact at h
  have nn_Fields : ∀ y ∈ x.Fields, 0 ≤ totTVal y := fun y _ => totTVal_nn y
  have := sum_nonneg _ _ nn_Fields
  unfold LimTFact; omega
def LimTItem (x : TItem) : Prop := LimTFact x.F
theorem LimTItem_of (x : TItem) (h : totTItem x ≤ 1048576) : LimTItem x := by
  unfold totTItem at h
  have := totTFact_nn x.F
  exact LimTFact_of _ (by omega)
def LimTStore (x : TStore) : Prop := (x.Items.length ≤ 4294967296 ∧ ∀ y ∈ x.Items, LimTItem y)
theorem LimTStore_of (x : TStore) (h : totTStore x ≤ 1048576) : LimTStore x := by
  unfold totTStore at h
  have nn_Items : ∀ y ∈ x.Items, 0 ≤ totTItem y := fun y _ => totTItem_nn y
  have := sum_nonneg _ _ nn_Items
  exact ⟨by omega, fun y hy => LimTItem_of y (by have := sum_mem _ _ nn_Items y hy; omega)⟩
theorem to_m_l_toValS {N : Nat} (hN : 1099000000000 ≤ N) (x : (List TVal)) (h : (x.length ≤ 4294967296)) : m_l_toValS N x = some x := by
  have hl : x.length ≤ 4294967296 := h
  unfold m_l_toValS
  rw [mk_nat _ (by omega), Option.bind_some]
  refine (toloop (m_l_toValS_l1 N x) x (by omega) (fun y => m_l_toVal N y) (fun y hy => to_m_l_toVal hN y) (fun k s i => rfl) N 0 _ (by simp) (by omega) (by omega)).trans ?_
  simp
theorem to_m_l_toFact {N : Nat} (hN : 1099000000000 ≤ N) (x : TFact) (h : LimTFact x) : m_l_toFact N x = some x := by
  unfold m_l_toFact
  rw [to_m_l_toValS hN _ (h), Option.bind_some]
theorem to_m_l_toItem {N : Nat} (hN : 1099000000000 ≤ N) (x : TItem) (h : LimTItem x) : m_l_toItem N x = some x := by
  unfold m_l_toItem
  rw [to_m_l_toFact hN _ (h), Option.bind_some]
theorem to_m_l_toItemS {N : Nat} (hN : 1099000000000 ≤ N) (x : (List TItem)) (h : (x.length ≤ 4294967296 ∧ ∀ y ∈ x, LimTItem y)) : m_l_toItemS N x = some x := by
  have hl : x.length ≤ 4294967296 := h.1
  unfold m_l_toItemS
  rw [mk_nat _ (by omega), Option.bind_some]
  refine (toloop (m_l_toItemS_l1 N x) x (by omega) (fun y => m_l_toItem N y) (fun y hy => to_m_l_toItem hN y (h.2 y hy)) (fun k s i => rfl) N 0 _ (by simp) (by omega) (by omega)).trans ?_
  simp
theorem to_m_l_toStore {N : Nat} (hN : 1099000000000 ≤ N) (x : TStore) (h : LimTStore x) : m_l_toStore N x = some x := by
  unfold m_l_toStore
  rw [to_m_l_toItemS hN _ (h), Option.bind_some]
def LimTMatch (x : TMatch) : Prop := (x.Ids.length ≤ 4294967296) ∧ (x.Binds.length ≤ 4294967296)
theorem LimTMatch_of (x : TMatch) (h : totTMatch x ≤ 1048576) : LimTMatch x := by
  unfold totTMatch at h
  have nn_Binds : ∀ y ∈ x.Binds, 0 ≤ totTBind y := fun y _ => totTBind_nn y
  have := sum_nonneg _ _ nn_Binds
  exact ⟨by omega, by omega⟩
theorem eq_m_l_eqIntS {N : Nat} (hN : 1099000000000 ≤ N) (x y : (List Int)) (h : (x.length ≤ 4294967296)) : m_l_eqIntS N x y = some (decide (x = y)) := by
  have hl : x.length ≤ 4294967296 := h
  unfold m_l_eqIntS
  by_cases c : x.length = y.length
  · rw [if_neg (by simp; omega)]
    refine (eqloop (m_l_eqIntS_l1 N x y) x y c (by omega) (fun a b => some (decide (a = b))) (fun a _ b _ => rfl) (fun k i => rfl) N 0 (by omega) (by omega)).trans ?_
    simp
  · rw [if_pos (by simp; omega)]
    have : ¬ x = y := fun e => c (by rw [e])
    simp [this]
theorem eq_m_l_eqVal {N : Nat} (hN : 1099000000000 ≤ N) (x y : TVal) : m_l_eqVal N x y = some (decide (x = y)) := by
  unfold m_l_eqVal
  simp only [seq_eq, Option.bind_some]
  obtain ⟨a0, a1, a2⟩ := x; obtain ⟨b0, b1, b2⟩ := y
  simp only [TVal.mk.injEq]
  by_cases c0 : a0 = b0
  · subst c0
    by_cases c1 : a1 = b1
    · subst c1
      by_cases c2 : a2 = b2
      · subst c2
        simp
      · simp [c2]
    · simp [c1]
  · simp [c0]
theorem eq_m_l_eqBind {N : Nat} (hN : 1099000000000 ≤ N) (x y : TBind) : m_l_eqBind N x y = some (decide (x = y)) := by
  unfold m_l_eqBind
  rw [eq_m_l_eqVal hN _ _]
  simp only [seq_eq, Option.bind_some]
  obtain ⟨a0, a1⟩ := x; obtain ⟨b0, b1⟩ := y
  simp only [TBind.mk.injEq]
  by_cases c0 : a0 = b0
  · subst c0
    by_cases c1 : a1 = b1
    · subst c1
      simp
    · simp [c1]
  · simp [c0]
theorem eq_m_l_eqBindS {N : Nat} (hN : 1099000000000 ≤ N) (x y : (List TBind)) (h : (x.length ≤ 4294967296)) : m_l_eqBindS N x y = some (decide (x = y)) := by
  have hl : x.length ≤ 4294967296 := h
  unfold m_l_eqBindS
  by_cases c : x.length = y.length
  · rw [if_neg (by simp; omega)]
    refine (eqloop (m_l_eqBindS_l1 N x y) x y c (by omega) (fun a b => m_l_eqBind N a b) (fun a ha b hb => eq_m_l_eqBind hN a b) (fun k i => rfl) N 0 (by omega) (by omega)).trans ?_
    simp
  · rw [if_pos (by simp; omega)]
    have : ¬ x = y := fun e => c (by rw [e])
    simp [this]
theorem eq_m_l_eqMatch {N : Nat} (hN : 1099000000000 ≤ N) (x y : TMatch) (h : LimTMatch x) : m_l_eqMatch N x y = some (decide (x = y)) := by
  unfold m_l_eqMatch
  rw [eq_m_l_eqIntS hN _ _ (h.1), eq_m_l_eqBindS hN _ _ (h.2)]
  simp only [seq_eq, Option.bind_some]
  obtain ⟨a0, a1, a2⟩ := x; obtain ⟨b0, b1, b2⟩ := y
  simp only [TMatch.mk.injEq]
  by_cases c0 : a0 = b0
  · subst c0
    by_cases c1 : a1 = b1
    · subst c1
      by_cases c2 : a2 = b2
      · subst c2
        simp
      · simp [c2]
    · simp [c1]
  · simp [c0]
theorem eq_m_l_eqMatchS {N : Nat} (hN : 1099000000000 ≤ N) (x y : (List TMatch)) (h : (x.length ≤ 4294967296 ∧ ∀ y ∈ x, LimTMatch y)) : m_l_eqMatchS N x y = some (decide (x = y)) := by
  have hl : x.length ≤ 4294967296 := h.1
  unfold m_l_eqMatchS
  by_cases c : x.length = y.length
  · rw [if_neg (by simp; omega)]
    refine (eqloop (m_l_eqMatchS_l1 N x y) x y c (by omega) (fun a b => m_l_eqMatch N a b) (fun a ha b hb => eq_m_l_eqMatch hN a b (h.2 a ha)) (fun k i => rfl) N 0 (by omega) (by omega)).trans ?_
    simp
  · rw [if_pos (by simp; omega)]
    have : ¬ x = y := fun e => c (by rw [e])
    simp [this]
theorem eq_m_l_eqArg {N : Nat} (hN : 1099000000000 ≤ N) (x y : TArg) : m_l_eqArg N x y = some (decide (x = y)) := by
  unfold m_l_eqArg
  rw [eq_m_l_eqVal hN _ _]
  simp only [seq_eq, Option.bind_some]
  obtain ⟨a0, a1, a2⟩ := x; obtain ⟨b0, b1, b2⟩ := y
  simp only [TArg.mk.injEq]
  by_cases c0 : a0 = b0
  · subst c0
    by_cases c1 : a1 = b1
    · subst c1
      by_cases c2 : a2 = b2
      · subst c2
        simp
      · simp [c2]
    · simp [c1]
  · simp [c0]
theorem eq_m_l_eqArgS {N : Nat} (hN : 1099000000000 ≤ N) (x y : (List TArg)) (h : (x.length ≤ 4294967296)) : m_l_eqArgS N x y = some (decide (x = y)) := by
  have hl : x.length ≤ 4294967296 := h
  unfold m_l_eqArgS
  by_cases c : x.length = y.length
  · rw [if_neg (by simp; omega)]
    refine (eqloop (m_l_eqArgS_l1 N x y) x y c (by omega) (fun a b => m_l_eqArg N a b) (fun a ha b hb => eq_m_l_eqArg hN a b) (fun k i => rfl) N 0 (by omega) (by omega)).trans ?_
    simp
  · rw [if_pos (by simp; omega)]
    have : ¬ x = y := fun e => c (by rw [e])
    simp [this]
theorem eq_m_l_eqPat {N : Nat} (hN : 1099000000000 ≤ N) (x y : TPat) (h : LimTPat x) : m_l_eqPat N x y = some (decide (x = y)) := by
  unfold m_l_eqPat
  rw [eq_m_l_eqArgS hN _ _ (h)]
  simp only [seq_eq, Option.bind_some]
  obtain ⟨a0, a1, a2⟩ := x; obtain ⟨b0, b1, b2⟩ := y
  simp only [TPat.mk.injEq]
  by_cases c0 : a0 = b0
  · subst c0
    by_cases c1 : a1 = b1
    · subst c1
      by_cases c2 : a2 = b2
      · subst c2
        simp
      · simp [c2]
    · simp [c1]
  · simp [c0]
theorem eq_m_l_eqPatS {N : Nat} (hN : 1099000000000 ≤ N) (x y : (List TPat)) (h : (x.length ≤ 4294967296 ∧ ∀ y ∈ x, LimTPat y)) : m_l_eqPatS N x y = some (decide (x = y)) := by
  have hl : x.length ≤ 4294967296 := h.1
  unfold m_l_eqPatS
  by_cases c : x.length = y.length
  · rw [if_neg (by simp; omega)]
    refine (eqloop (m_l_eqPatS_l1 N x y) x y c (by omega) (fun a b => m_l_eqPat N a b) (fun a ha b hb => eq_m_l_eqPat hN a b (h.2 a ha)) (fun k i => rfl) N 0 (by omega) (by omega)).trans ?_
    simp
  · rw [if_pos (by simp; omega)]
    have : ¬ x = y := fun e => c (by rw [e])
    simp [this]
theorem eq_m_l_eqCond {N : Nat} (hN : 1099000000000 ≤ N) (x y : TCond) : m_l_eqCond N x y = some (decide (x = y)) := by
  unfold m_l_eqCond
  rw [eq_m_l_eqArg hN _ _, eq_m_l_eqArg hN _ _]
  simp only [seq_eq, Option.bind_some]
  obtain ⟨a0, a1, a2⟩ := x; obtain ⟨b0, b1, b2⟩ := y
  simp only [TCond.mk.injEq]
  by_cases c0 : a0 = b0
  · subst c0
    by_cases c1 : a1 = b1
    · subst c1
      by_cases c2 : a2 = b2
      · subst c2
        simp
      · simp [c2]
    · simp [c1]
  · simp [c0]
theorem eq_m_l_eqCondS {N : Nat} (hN : 1099000000000 ≤ N) (x y : (List TCond)) (h : (x.length ≤ 4294967296)) : m_l_eqCondS N x y = some (decide (x = y)) := by
  have hl : x.length ≤ 4294967296 := h
  unfold m_l_eqCondS
  by_cases c : x.length = y.length
  · rw [if_neg (by simp; omega)]
    refine (eqloop (m_l_eqCondS_l1 N x y) x y c (by omega) (fun a b => m_l_eqCond N a b) (fun a ha b hb => eq_m_l_eqCond hN a b) (fun k i => rfl) N 0 (by omega) (by omega)).trans ?_
    simp
  · rw [if_pos (by simp; omega)]
    have : ¬ x = y := fun e => c (by rw [e])
    simp [this]
theorem eq_m_l_eqExpr {N : Nat} (hN : 1099000000000 ≤ N) (x y : TExpr) : m_l_eqExpr N x y = some (decide (x = y)) := by
  unfold m_l_eqExpr
  rw [eq_m_l_eqArg hN _ _, eq_m_l_eqArg hN _ _]
  simp only [seq_eq, Option.bind_some]
  obtain ⟨a0, a1, a2⟩ := x; obtain ⟨b0, b1, b2⟩ := y
  simp only [TExpr.mk.injEq]
  by_cases c0 : a0 = b0
  · subst c0
    by_cases c1 : a1 = b1
    · subst c1
      by_cases c2 : a2 = b2
      · subst c2
        simp
      · simp [c2]
    · simp [c1]
  · simp [c0]
theorem eq_m_l_eqExprS {N : Nat} (hN : 1099000000000 ≤ N) (x y : (List TExpr)) (h : (x.length ≤ 4294967296)) : m_l_eqExprS N x y = some (decide (x = y)) := by
  have hl : x.length ≤ 4294967296 := h
  unfold m_l_eqExprS
  by_cases c : x.length = y.length
  · rw [if_neg (by simp; omega)]
    refine (eqloop (m_l_eqExprS_l1 N x y) x y c (by omega) (fun a b => m_l_eqExpr N a b) (fun a ha b hb => eq_m_l_eqExpr hN a b) (fun k i => rfl) N 0 (by omega) (by omega)).trans ?_
    simp
  · rw [if_pos (by simp; omega)]
    have : ¬ x = y := fun e => c (by rw [e])
    simp [this]
theorem eq_m_l_eqAct {N : Nat} (hN : 1099000000000 ≤ N) (x y : TAct) (h : LimTAct x) : m_l_eqAct N x y = some (decide (x = y)) := by
  unfold m_l_eqAct
  rw [eq_m_l_eqExprS hN _ _ (h)]
  simp only [seq_eq, Option.bind_some]
  obtain ⟨a0, a1, a2, a3, a4⟩ := x; obtain ⟨b0, b1, b2, b3, b4⟩ := y
  simp only [TAct.mk.injEq]
  by_cases c0 : a0 = b0
  · subst c0
    by_cases c1 : a1 = b1
    · subst c1
      by_cases c2 : a2 = b2
      · subst c2
        by_cases c3 : a3 = b3
        · subst c3
          by_cases c4 : a4 = b4
          · subst c4
            simp
          · simp [c4]
        · simp [c3]
      · simp [c2]
    · simp [c1]
  · simp [c0]
theorem eq_m_l_eqActS {N : Nat} (hN : 1099000000000 ≤ N) (x y : (List TAct)) (h : (x.length ≤ 4294967296 ∧ ∀ y ∈ x, LimTAct y)) : m_l_eqActS N x y = some (decide (x = y)) := by
  have hl : x.length ≤ 4294967296 := h.1
  unfold m_l_eqActS
  by_cases c : x.length = y.length
  · rw [if_neg (by simp; omega)]
    refine (eqloop (m_l_eqActS_l1 N x y) x y c (by omega) (fun a b => m_l_eqAct N a b) (fun a ha b hb => eq_m_l_eqAct hN a b (h.2 a ha)) (fun k i => rfl) N 0 (by omega) (by omega)).trans ?_
    simp
  · rw [if_pos (by simp; omega)]
    have : ¬ x = y := fun e => c (by rw [e])
    simp [this]
theorem eq_m_l_eqRule {N : Nat} (hN : 1099000000000 ≤ N) (x y : TRule) (h : LimTRule x) : m_l_eqRule N x y = some (decide (x = y)) := by
  unfold m_l_eqRule
  rw [eq_m_l_eqPatS hN _ _ (h.1), eq_m_l_eqCondS hN _ _ (h.2.1), eq_m_l_eqActS hN _ _ (h.2.2)]
  simp only [seq_eq, Option.bind_some]
  obtain ⟨a0, a1, a2, a3, a4⟩ := x; obtain ⟨b0, b1, b2, b3, b4⟩ := y
  simp only [TRule.mk.injEq]
  by_cases c0 : a0 = b0
  · subst c0
    by_cases c1 : a1 = b1
    · subst c1
      by_cases c2 : a2 = b2
      · subst c2
        by_cases c3 : a3 = b3
        · subst c3
          by_cases c4 : a4 = b4
          · subst c4
            simp
          · simp [c4]
        · simp [c3]
      · simp [c2]
    · simp [c1]
  · simp [c0]
theorem eq_m_l_eqRuleS {N : Nat} (hN : 1099000000000 ≤ N) (x y : (List TRule)) (h : (x.length ≤ 4294967296 ∧ ∀ y ∈ x, LimTRule y)) : m_l_eqRuleS N x y = some (decide (x = y)) := by
  have hl : x.length ≤ 4294967296 := h.1
  unfold m_l_eqRuleS
  by_cases c : x.length = y.length
  · rw [if_neg (by simp; omega)]
    refine (eqloop (m_l_eqRuleS_l1 N x y) x y c (by omega) (fun a b => m_l_eqRule N a b) (fun a ha b hb => eq_m_l_eqRule hN a b (h.2 a ha)) (fun k i => rfl) N 0 (by omega) (by omega)).trans ?_
    simp
  · rw [if_pos (by simp; omega)]
    have : ¬ x = y := fun e => c (by rw [e])
    simp [this]
theorem eq_m_l_eqDef {N : Nat} (hN : 1099000000000 ≤ N) (x y : TDef) (h : LimTDef x) : m_l_eqDef N x y = some (decide (x = y)) := by
  unfold m_l_eqDef
  rw [eq_m_l_eqRuleS hN _ _ (h)]
  simp only [seq_eq, Option.bind_some]
  obtain ⟨a0, a1⟩ := x; obtain ⟨b0, b1⟩ := y
  simp only [TDef.mk.injEq]
  by_cases c0 : a0 = b0
  · subst c0
    by_cases c1 : a1 = b1
    · subst c1
      simp
    · simp [c1]
  · simp [c0]
theorem eq_m_l_eqIds {N : Nat} (hN : 1099000000000 ≤ N) (x y : TIds) (h : LimTIds x) : m_l_eqIds N x y = some (decide (x = y)) := by
  unfold m_l_eqIds
  rw [eq_m_l_eqIntS hN _ _ (h)]
  simp only [seq_eq, Option.bind_some]
  obtain ⟨a0⟩ := x; obtain ⟨b0⟩ := y
  simp only [TIds.mk.injEq]
  by_cases c0 : a0 = b0
  · subst c0
    simp
  · simp [c0]
theorem eq_m_l_eqIdsS {N : Nat} (hN : 1099000000000 ≤ N) (x y : (List TIds)) (h : (x.length ≤ 4294967296 ∧ ∀ y ∈ x, LimTIds y)) : m_l_eqIdsS N x y = some (decide (x = y)) := by
  have hl : x.length ≤ 4294967296 := h.1
  unfold m_l_eqIdsS
  by_cases c : x.length = y.length
  · rw [if_neg (by simp; omega)]
    refine (eqloop (m_l_eqIdsS_l1 N x y) x y c (by omega) (fun a b => m_l_eqIds N a b) (fun a ha b hb => eq_m_l_eqIds hN a b (h.2 a ha)) (fun k i => rfl) N 0 (by omega) (by omega)).trans ?_
    simp
  · rw [if_pos (by simp; omega)]
    have : ¬ x = y := fun e => c (by rw [e])
    simp [this]
theorem eq_m_l_eqTok {N : Nat} (hN : 1099000000000 ≤ N) (x y : TTok) (h : LimTTok x) : m_l_eqTok N x y = some (decide (x = y)) := by
  unfold m_l_eqTok
  rw [eq_m_l_eqIntS hN _ _ (h.1), eq_m_l_eqIntS hN _ _ (h.2)]
  simp only [seq_eq, Option.bind_some]
  obtain ⟨a0, a1⟩ := x; obtain ⟨b0, b1⟩ := y
  simp only [TTok.mk.injEq]
  by_cases c0 : a0 = b0
  · subst c0
    by_cases c1 : a1 = b1
    · subst c1
      simp
    · simp [c1]
  · simp [c0]
theorem eq_m_l_eqTokS {N : Nat} (hN : 1099000000000 ≤ N) (x y : (List TTok)) (h : (x.length ≤ 4294967296 ∧ ∀ y ∈ x, LimTTok y)) : m_l_eqTokS N x y = some (decide (x = y)) := by
  have hl : x.length ≤ 4294967296 := h.1
  unfold m_l_eqTokS
  by_cases c : x.length = y.length
  · rw [if_neg (by simp; omega)]
    refine (eqloop (m_l_eqTokS_l1 N x y) x y c (by omega) (fun a b => m_l_eqTok N a b) (fun a ha b hb => eq_m_l_eqTok hN a b (h.2 a ha)) (fun k i => rfl) N 0 (by omega) (by omega)).trans ?_
    simp
  · rw [if_pos (by simp; omega)]
    have : ¬ x = y := fun e => c (by rw [e])
    simp [this]
theorem eq_m_l_eqLevel {N : Nat} (hN : 1099000000000 ≤ N) (x y : TLevel) (h : LimTLevel x) : m_l_eqLevel N x y = some (decide (x = y)) := by
  unfold m_l_eqLevel
  rw [eq_m_l_eqTokS hN _ _ (h)]
  simp only [seq_eq, Option.bind_some]
  obtain ⟨a0⟩ := x; obtain ⟨b0⟩ := y
  simp only [TLevel.mk.injEq]
  by_cases c0 : a0 = b0
  · subst c0
    simp
  · simp [c0]
theorem eq_m_l_eqLevelS {N : Nat} (hN : 1099000000000 ≤ N) (x y : (List TLevel)) (h : (x.length ≤ 4294967296 ∧ ∀ y ∈ x, LimTLevel y)) : m_l_eqLevelS N x y = some (decide (x = y)) := by
  have hl : x.length ≤ 4294967296 := h.1
  unfold m_l_eqLevelS
  by_cases c : x.length = y.length
  · rw [if_neg (by simp; omega)]
    refine (eqloop (m_l_eqLevelS_l1 N x y) x y c (by omega) (fun a b => m_l_eqLevel N a b) (fun a ha b hb => eq_m_l_eqLevel hN a b (h.2 a ha)) (fun k i => rfl) N 0 (by omega) (by omega)).trans ?_
    simp
  · rw [if_pos (by simp; omega)]
    have : ¬ x = y := fun e => c (by rw [e])
    simp [this]
theorem eq_m_l_eqRow {N : Nat} (hN : 1099000000000 ≤ N) (x y : TRow) (h : LimTRow x) : m_l_eqRow N x y = some (decide (x = y)) := by
  unfold m_l_eqRow
  rw [eq_m_l_eqLevelS hN _ _ (h)]
  simp only [seq_eq, Option.bind_some]
  obtain ⟨a0⟩ := x; obtain ⟨b0⟩ := y
  simp only [TRow.mk.injEq]
  by_cases c0 : a0 = b0
  · subst c0
    simp
  · simp [c0]
theorem eq_m_l_eqRowS {N : Nat} (hN : 1099000000000 ≤ N) (x y : (List TRow)) (h : (x.length ≤ 4294967296 ∧ ∀ y ∈ x, LimTRow y)) : m_l_eqRowS N x y = some (decide (x = y)) := by
  have hl : x.length ≤ 4294967296 := h.1
  unfold m_l_eqRowS
  by_cases c : x.length = y.length
  · rw [if_neg (by simp; omega)]
    refine (eqloop (m_l_eqRowS_l1 N x y) x y c (by omega) (fun a b => m_l_eqRow N a b) (fun a ha b hb => eq_m_l_eqRow hN a b (h.2 a ha)) (fun k i => rfl) N 0 (by omega) (by omega)).trans ?_
    simp
  · rw [if_pos (by simp; omega)]
    have : ¬ x = y := fun e => c (by rw [e])
    simp [this]
theorem eq_m_l_eqMem {N : Nat} (hN : 1099000000000 ≤ N) (x y : TMem) (h : LimTMem x) : m_l_eqMem N x y = some (decide (x = y)) := by
  unfold m_l_eqMem
  rw [eq_m_l_eqIdsS hN _ _ (h.1), eq_m_l_eqRowS hN _ _ (h.2)]
  simp only [seq_eq, Option.bind_some]
  obtain ⟨a0, a1⟩ := x; obtain ⟨b0, b1⟩ := y
  simp only [TMem.mk.injEq]
  by_cases c0 : a0 = b0
  · subst c0
    by_cases c1 : a1 = b1
    · subst c1
      simp
    · simp [c1]
  · simp [c0]
theorem eq_m_l_eqValS {N : Nat} (hN : 1099000000000 ≤ N) (x y : (List TVal)) (h : (x.length ≤ 4294967296)) : m_l_eqValS N x y = some (decide (x = y)) := by
  have hl : x.length ≤ 4294967296 := h
  unfold m_l_eqValS
  by_cases c : x.length = y.length
  · rw [if_neg (by simp; omega)]
    refine (eqloop (m_l_eqValS_l1 N x y) x y c (by omega) (fun a b => m_l_eqVal N a b) (fun a ha b hb => eq_m_l_eqVal hN a b) (fun k i => rfl) N 0 (by omega) (by omega)).trans ?_
    simp
  · rw [if_pos (by simp; omega)]
    have : ¬ x = y := fun e => c (by rw [e])
    simp [this]
theorem eq_m_l_eqFact {N : Nat} (hN : 1099000000000 ≤ N) (x y : TFact) (h : LimTFact x) : m_l_eqFact N x y = some (decide (x = y)) := by
  unfold m_l_eqFact
  rw [eq_m_l_eqValS hN _ _ (h)]
  simp only [seq_eq, Option.bind_some]
  obtain ⟨a0, a1⟩ := x; obtain ⟨b0, b1⟩ := y
  simp only [TFact.mk.injEq]
  by_cases c0 : a0 = b0
  · subst c0
    by_cases c1 : a1 = b1
    · subst c1
      simp
    · simp [c1]
  · simp [c0]
theorem eq_m_l_eqItem {N : Nat} (hN : 1099000000000 ≤ N) (x y : TItem) (h : LimTItem x) : m_l_eqItem N x y = some (decide (x = y)) := by
  unfold m_l_eqItem
  rw [eq_m_l_eqFact hN _ _ (h)]
  simp only [seq_eq, Option.bind_some]
  obtain ⟨a0, a1⟩ := x; obtain ⟨b0, b1⟩ := y
  simp only [TItem.mk.injEq]
  by_cases c0 : a0 = b0
  · subst c0
    by_cases c1 : a1 = b1
    · subst c1
      simp
    · simp [c1]
  · simp [c0]
theorem eq_m_l_eqItemS {N : Nat} (hN : 1099000000000 ≤ N) (x y : (List TItem)) (h : (x.length ≤ 4294967296 ∧ ∀ y ∈ x, LimTItem y)) : m_l_eqItemS N x y = some (decide (x = y)) := by
  have hl : x.length ≤ 4294967296 := h.1
  unfold m_l_eqItemS
  by_cases c : x.length = y.length
  · rw [if_neg (by simp; omega)]
    refine (eqloop (m_l_eqItemS_l1 N x y) x y c (by omega) (fun a b => m_l_eqItem N a b) (fun a ha b hb => eq_m_l_eqItem hN a b (h.2 a ha)) (fun k i => rfl) N 0 (by omega) (by omega)).trans ?_
    simp
  · rw [if_pos (by simp; omega)]
    have : ¬ x = y := fun e => c (by rw [e])
    simp [this]
theorem eq_m_l_eqStore {N : Nat} (hN : 1099000000000 ≤ N) (x y : TStore) (h : LimTStore x) : m_l_eqStore N x y = some (decide (x = y)) := by
  unfold m_l_eqStore
  rw [eq_m_l_eqItemS hN _ _ (h)]
  simp only [seq_eq, Option.bind_some]
  obtain ⟨a0, a1⟩ := x; obtain ⟨b0, b1⟩ := y
  simp only [TStore.mk.injEq]
  by_cases c0 : a0 = b0
  · subst c0
    by_cases c1 : a1 = b1
    · subst c1
      simp
    · simp [c1]
  · simp [c0]
theorem mtx {N : Nat} (hN : 1099000000000 ≤ N) (k : Int) (h0 : 0 ≤ k) (h1 : k ≤ big62) : ∃ t, m_l_markText N k = some t := by
  unfold m_l_markText
  by_cases c : k ≤ 0
  · rw [if_pos (by simpa using c)]; exact ⟨_, rfl⟩
  · rw [if_neg (by simpa using c)]
    obtain ⟨m, hm⟩ : ∃ m, N = 20 + 1 + m := ⟨N - 21, by omega⟩
    have := mtxloop (m_l_markText_l1 N) (fun n s t => by simp only [m_l_markText_l1]) 20 m k (⟨#[]⟩ : ByteArray) h0 h1 (by unfold big62 at h1; omega) (by decide)
    rw [← hm] at this; exact this
def cntTArg (x : TArg) : Int := 1 + 1 + 1 + 1 + 1
theorem cntTArg_nn (x : TArg) : 0 ≤ cntTArg x := by
  unfold cntTArg
  omega
theorem cntTArg_le (x : TArg) : cntTArg x ≤ 32 + 32 * (totTArg x) := by
  unfold cntTArg totTArg totTVal
  omega
def HdTArg (N : Nat) (x : TArg) (k : Int) : Prop := x.K = k ∧ m_l_markText N (k + 1) = some x.S ∧ x.V.K = ((k + 1) + 1) ∧ x.V.N = (((k + 1) + 1) + 1) ∧ m_l_markText N ((((k + 1) + 1) + 1) + 1) = some x.V.S
def cntTPat (x : TPat) : Int := 1 + cntL cntTArg x.Args + 1
theorem cntTPat_nn (x : TPat) : 0 ≤ cntTPat x := by
  unfold cntTPat
  have := cntL_nn cntTArg_nn x.Args
  omega
theorem cntTPat_le (x : TPat) : cntTPat x ≤ 32 + 32 * (totTPat x) := by
  have := cntL_le (p := x.Args) (tot := totTArg) (fun y _ => cntTArg_le y)
  have := sum_nonneg totTArg x.Args (fun y _ => totTArg_nn y)
  unfold cntTPat totTPat
  omega
def HdTPat (N : Nat) (x : TPat) (k : Int) : Prop := m_l_markText N k = some x.Kind ∧ HdL (HdTArg N) cntTArg x.Args (k + 1) ∧ x.Not = decide (((k + 1) + cntL cntTArg x.Args).tmod 3 = 0)
def cntTCond (x : TCond) : Int := 1 + 1 + 1 + 1 + 1 + 1 + 1 + 1 + 1 + 1 + 1
theorem cntTCond_nn (x : TCond) : 0 ≤ cntTCond x := by
  unfold cntTCond
  omega
theorem cntTCond_le (x : TCond) : cntTCond x ≤ 32 + 32 * (totTCond x) := by
  unfold cntTCond totTCond totTArg totTVal
  omega
def HdTCond (N : Nat) (x : TCond) (k : Int) : Prop := x.Op = k ∧ x.L.K = (k + 1) ∧ m_l_markText N ((k + 1) + 1) = some x.L.S ∧ x.L.V.K = (((k + 1) + 1) + 1) ∧ x.L.V.N = ((((k + 1) + 1) + 1) + 1) ∧ m_l_markText N (((((k + 1) + 1) + 1) + 1) + 1) = some x.L.V.S ∧ x.R.K = ((((((k + 1) + 1) + 1) + 1) + 1) + 1) ∧ m_l_markText N (((((((k + 1) + 1) + 1) + 1) + 1) + 1) + 1) = some x.R.S ∧ x.R.V.K = ((((((((k + 1) + 1) + 1) + 1) + 1) + 1) + 1) + 1) ∧ x.R.V.N = (((((((((k + 1) + 1) + 1) + 1) + 1) + 1) + 1) + 1) + 1) ∧ m_l_markText N ((((((((((k + 1) + 1) + 1) + 1) + 1) + 1) + 1) + 1) + 1) + 1) = some x.R.V.S
def cntTExpr (x : TExpr) : Int := 1 + 1 + 1 + 1 + 1 + 1 + 1 + 1 + 1 + 1 + 1
theorem cntTExpr_nn (x : TExpr) : 0 ≤ cntTExpr x := by
  unfold cntTExpr
  omega
theorem cntTExpr_le (x : TExpr) : cntTExpr x ≤ 32 + 32 * (totTExpr x) := by
  unfold cntTExpr totTExpr totTArg totTVal
  omega
def HdTExpr (N : Nat) (x : TExpr) (k : Int) : Prop := m_l_markText N k = some x.Op ∧ x.L.K = (k + 1) ∧ m_l_markText N ((k + 1) + 1) = some x.L.S ∧ x.L.V.K = (((k + 1) + 1) + 1) ∧ x.L.V.N = ((((k + 1) + 1) + 1) + 1) ∧ m_l_markText N (((((k + 1) + 1) + 1) + 1) + 1) = some x.L.V.S ∧ x.R.K = ((((((k + 1) + 1) + 1) + 1) + 1) + 1) ∧ m_l_markText N (((((((k + 1) + 1) + 1) + 1) + 1) + 1) + 1) = some x.R.S ∧ x.R.V.K = ((((((((k + 1) + 1) + 1) + 1) + 1) + 1) + 1) + 1) ∧ x.R.V.N = (((((((((k + 1) + 1) + 1) + 1) + 1) + 1) + 1) + 1) + 1) ∧ m_l_markText N ((((((((((k + 1) + 1) + 1) + 1) + 1) + 1) + 1) + 1) + 1) + 1) = some x.R.V.S
def cntTAct (x : TAct) : Int := 1 + 1 + cntL cntTExpr x.Args + 1 + 1
theorem cntTAct_nn (x : TAct) : 0 ≤ cntTAct x := by
  unfold cntTAct
  have := cntL_nn cntTExpr_nn x.Args
  omega
theorem cntTAct_le (x : TAct) : cntTAct x ≤ 32 + 32 * (totTAct x) := by
  have := cntL_le (p := x.Args) (tot := totTExpr) (fun y _ => cntTExpr_le y)
  have := sum_nonneg totTExpr x.Args (fun y _ => totTExpr_nn y)
  unfold cntTAct totTAct
  omega
def HdTAct (N : Nat) (x : TAct) (k : Int) : Prop := x.Kind = k ∧ m_l_markText N (k + 1) = some x.Name ∧ HdL (HdTExpr N) cntTExpr x.Args ((k + 1) + 1) ∧ x.N = (((k + 1) + 1) + cntL cntTExpr x.Args) ∧ m_l_markText N ((((k + 1) + 1) + cntL cntTExpr x.Args) + 1) = some x.Undo
def cntTRule (x : TRule) : Int := 1 + 1 + cntL cntTPat x.Pats + cntL cntTCond x.Conds + cntL cntTAct x.Acts
theorem cntTRule_nn (x : TRule) : 0 ≤ cntTRule x := by
  unfold cntTRule
  have := cntL_nn cntTPat_nn x.Pats
  have := cntL_nn cntTCond_nn x.Conds
  have := cntL_nn cntTAct_nn x.Acts
  omega
theorem cntTRule_le (x : TRule) : cntTRule x ≤ 32 + 32 * (totTRule x) := by
  have := cntL_le (p := x.Pats) (tot := totTPat) (fun y _ => cntTPat_le y)
  have := sum_nonneg totTPat x.Pats (fun y _ => totTPat_nn y)
  have := cntL_le (p := x.Conds) (tot := totTCond) (fun y _ => cntTCond_le y)
  have := sum_nonneg totTCond x.Conds (fun y _ => totTCond_nn y)
  have := cntL_le (p := x.Acts) (tot := totTAct) (fun y _ => cntTAct_le y)
  have := sum_nonneg totTAct x.Acts (fun y _ => totTAct_nn y)
  unfold cntTRule totTRule
  omega
def HdTRule (N : Nat) (x : TRule) (k : Int) : Prop := m_l_markText N k = some x.Name ∧ x.Sal = (k + 1) ∧ HdL (HdTPat N) cntTPat x.Pats ((k + 1) + 1) ∧ HdL (HdTCond N) cntTCond x.Conds (((k + 1) + 1) + cntL cntTPat x.Pats) ∧ HdL (HdTAct N) cntTAct x.Acts ((((k + 1) + 1) + cntL cntTPat x.Pats) + cntL cntTCond x.Conds)
def cntTDef (x : TDef) : Int := 1 + cntL cntTRule x.Rules
theorem cntTDef_nn (x : TDef) : 0 ≤ cntTDef x := by
  unfold cntTDef
  have := cntL_nn cntTRule_nn x.Rules
  omega
theorem cntTDef_le (x : TDef) : cntTDef x ≤ 32 + 32 * (totTDef x) := by
  have := cntL_le (p := x.Rules) (tot := totTRule) (fun y _ => cntTRule_le y)
  have := sum_nonneg totTRule x.Rules (fun y _ => totTRule_nn y)
  unfold cntTDef totTDef
  omega
def HdTDef (N : Nat) (x : TDef) (k : Int) : Prop := m_l_markText N k = some x.Name ∧ HdL (HdTRule N) cntTRule x.Rules (k + 1)
theorem mk_m_l_markArgS {N : Nat} (hN : 1099000000000 ≤ N) (x : (List TArg)) (h : (x.length ≤ 4294967296)) (k : Int) (h0 : 0 ≤ k) (h1 : k + cntL cntTArg x ≤ big62) : ∃ ys, m_l_markArgS N x k = some (k + cntL cntTArg x, ys) ∧ cntL cntTArg ys = cntL cntTArg x ∧ HdL (HdTArg N) cntTArg ys k ∧ (ys.length ≤ 4294967296) := by
  have hl : x.length ≤ 4294967296 := h
  obtain ⟨ys, a1, a2, a3, a4, a5⟩ := mkloop (m_l_markArgS_l1 N) (HdTArg N) cntTArg (fun _ => True) cntTArg_nn (fun n s k i x hx hi hlt h0 h1 h => by
    unfold big62 at h1
    have hcnt : cntTArg x = 1 + 1 + 1 + 1 + 1 := rfl
    rw [hcnt] at h1
    have e0 : IntKind.i64.wrap (k + 1) = k + 1 := wr (by omega) (by omega)
    obtain ⟨t1, m1⟩ := mtx hN (k + 1) (by omega) (by unfold big62; omega)
    have e1 : IntKind.i64.wrap ((k + 1) + 1) = (k + 1) + 1 := wr (by omega) (by omega)
    have e2 : IntKind.i64.wrap (((k + 1) + 1) + 1) = ((k + 1) + 1) + 1 := wr (by omega) (by omega)
    have e3 : IntKind.i64.wrap ((((k + 1) + 1) + 1) + 1) = (((k + 1) + 1) + 1) + 1 := wr (by omega) (by omega)
    obtain ⟨t4, m4⟩ := mtx hN ((((k + 1) + 1) + 1) + 1) (by omega) (by unfold big62; omega)
    have e4 : IntKind.i64.wrap (((((k + 1) + 1) + 1) + 1) + 1) = ((((k + 1) + 1) + 1) + 1) + 1 := wr (by omega) (by omega)
    have cc : decide ((i : Int) < (s.length : Int)) = true := decide_eq_true hlt
    refine ⟨(⟨k, t1, (⟨((k + 1) + 1), (((k + 1) + 1) + 1), t4⟩ : TVal)⟩ : TArg), ?_, ?_, ?_, ?_⟩
    · exact ⟨(by trivial), m1, (by trivial), (by trivial), m4⟩
    · simp only [cntTArg]
    · exact trivial
    · have hp : (((((k + 1) + 1) + 1) + 1) + 1) = k + cntTArg x := by omega
      rw [← hp, ← wr1 i (by omega)]
      simp only [m_l_markArgS_l1, cc, if_true, show idx s (i : Int) = some x from by rw [idx_nat, hx], Option.bind_some, Int.toNat_natCast, e0, m1, e1, e2, e3, m4, e4])
    (fun n s k i hi => by simp only [m_l_markArgS_l1]; rw [if_neg (by simpa using hi)]) N 0 x k hl (by omega) (by omega) h0 (by simpa using h1) (fun _ _ => trivial)
  simp only [List.drop_zero, List.take_zero, List.nil_append] at a1 a3
  exact ⟨ys, a1, a3, a4, by omega⟩
theorem mk_m_l_markPatS {N : Nat} (hN : 1099000000000 ≤ N) (x : (List TPat)) (h : (x.length ≤ 4294967296 ∧ ∀ y ∈ x, LimTPat y)) (k : Int) (h0 : 0 ≤ k) (h1 : k + cntL cntTPat x ≤ big62) : ∃ ys, m_l_markPatS N x k = some (k + cntL cntTPat x, ys) ∧ cntL cntTPat ys = cntL cntTPat x ∧ HdL (HdTPat N) cntTPat ys k ∧ (ys.length ≤ 4294967296 ∧ ∀ y ∈ ys, LimTPat y) := by
  have hl : x.length ≤ 4294967296 := h.1
  obtain ⟨ys, a1, a2, a3, a4, a5⟩ := mkloop (m_l_markPatS_l1 N) (HdTPat N) cntTPat LimTPat cntTPat_nn (fun n s k i x hx hi hlt h0 h1 h => by
    unfold big62 at h1
    have hcnt : cntTPat x = 1 + cntL cntTArg x.Args + 1 := rfl
    rw [hcnt] at h1
    have n1 := cntL_nn cntTArg_nn x.Args
    obtain ⟨t0, m0⟩ := mtx hN k (by omega) (by unfold big62; omega)
    have e0 : IntKind.i64.wrap (k + 1) = k + 1 := wr (by omega) (by omega)
    obtain ⟨y1, m1, c1, d1, l1⟩ := mk_m_l_markArgS hN x.Args (h) (k + 1) (by omega) (by unfold big62; omega)
    have e2 : IntKind.i64.wrap (((k + 1) + cntL cntTArg x.Args) + 1) = ((k + 1) + cntL cntTArg x.Args) + 1 := wr (by omega) (by omega)
    have cc : decide ((i : Int) < (s.length : Int)) = true := decide_eq_true hlt
    refine ⟨(⟨t0, y1, decide (((k + 1) + cntL cntTArg x.Args).tmod 3 = 0)⟩ : TPat), ?_, ?_, ?_, ?_⟩
    · simp only [HdTPat, c1]; exact ⟨m0, d1, (by trivial)⟩
    · simp only [cntTPat, c1]
    · exact l1
    · have hp : (((k + 1) + cntL cntTArg x.Args) + 1) = k + cntTPat x := by omega
      rw [← hp, ← wr1 i (by omega)]
      simp only [m_l_markPatS_l1, cc, if_true, show idx s (i : Int) = some x from by rw [idx_nat, hx], Option.bind_some, Int.toNat_natCast, m0, e0, m1, e2])
    (fun n s k i hi => by simp only [m_l_markPatS_l1]; rw [if_neg (by simpa using hi)]) N 0 x k hl (by omega) (by omega) h0 (by simpa using h1) (h.2)
  simp only [List.drop_zero, List.take_zero, List.nil_append] at a1 a3
  exact ⟨ys, a1, a3, a4, ⟨by omega, a5⟩⟩
theorem mk_m_l_markCondS {N : Nat} (hN : 1099000000000 ≤ N) (x : (List TCond)) (h : (x.length ≤ 4294967296)) (k : Int) (h0 : 0 ≤ k) (h1 : k + cntL cntTCond x ≤ big62) : ∃ ys, m_l_markCondS N x k = some (k + cntL cntTCond x, ys) ∧ cntL cntTCond ys = cntL cntTCond x ∧ HdL (HdTCond N) cntTCond ys k ∧ (ys.length ≤ 4294967296) := by
  have hl : x.length ≤ 4294967296 := h
  obtain ⟨ys, a1, a2, a3, a4, a5⟩ := mkloop (m_l_markCondS_l1 N) (HdTCond N) cntTCond (fun _ => True) cntTCond_nn (fun n s k i x hx hi hlt h0 h1 h => by
    unfold big62 at h1
    have hcnt : cntTCond x = 1 + 1 + 1 + 1 + 1 + 1 + 1 + 1 + 1 + 1 + 1 := rfl
    rw [hcnt] at h1
    have e0 : IntKind.i64.wrap (k + 1) = k + 1 := wr (by omega) (by omega)
    have e1 : IntKind.i64.wrap ((k + 1) + 1) = (k + 1) + 1 := wr (by omega) (by omega)
    obtain ⟨t2, m2⟩ := mtx hN ((k + 1) + 1) (by omega) (by unfold big62; omega)
    have e2 : IntKind.i64.wrap (((k + 1) + 1) + 1) = ((k + 1) + 1) + 1 := wr (by omega) (by omega)
    have e3 : IntKind.i64.wrap ((((k + 1) + 1) + 1) + 1) = (((k + 1) + 1) + 1) + 1 := wr (by omega) (by omega)
    have e4 : IntKind.i64.wrap (((((k + 1) + 1) + 1) + 1) + 1) = ((((k + 1) + 1) + 1) + 1) + 1 := wr (by omega) (by omega)
    obtain ⟨t5, m5⟩ := mtx hN (((((k + 1) + 1) + 1) + 1) + 1) (by omega) (by unfold big62; omega)
    have e5 : IntKind.i64.wrap ((((((k + 1) + 1) + 1) + 1) + 1) + 1) = (((((k + 1) + 1) + 1) + 1) + 1) + 1 := wr (by omega) (by omega)
    have e6 : IntKind.i64.wrap (((((((k + 1) + 1) + 1) + 1) + 1) + 1) + 1) = ((((((k + 1) + 1) + 1) + 1) + 1) + 1) + 1 := wr (by omega) (by omega)
    obtain ⟨t7, m7⟩ := mtx hN (((((((k + 1) + 1) + 1) + 1) + 1) + 1) + 1) (by omega) (by unfold big62; omega)
    have e7 : IntKind.i64.wrap ((((((((k + 1) + 1) + 1) + 1) + 1) + 1) + 1) + 1) = (((((((k + 1) + 1) + 1) + 1) + 1) + 1) + 1) + 1 := wr (by omega) (by omega)
    have e8 : IntKind.i64.wrap (((((((((k + 1) + 1) + 1) + 1) + 1) + 1) + 1) + 1) + 1) = ((((((((k + 1) + 1) + 1) + 1) + 1) + 1) + 1) + 1) + 1 := wr (by omega) (by omega)
    have e9 : IntKind.i64.wrap ((((((((((k + 1) + 1) + 1) + 1) + 1) + 1) + 1) + 1) + 1) + 1) = (((((((((k + 1) + 1) + 1) + 1) + 1) + 1) + 1) + 1) + 1) + 1 := wr (by omega) (by omega)
    obtain ⟨t10, m10⟩ := mtx hN ((((((((((k + 1) + 1) + 1) + 1) + 1) + 1) + 1) + 1) + 1) + 1) (by omega) (by unfold big62; omega)
    have e10 : IntKind.i64.wrap (((((((((((k + 1) + 1) + 1) + 1) + 1) + 1) + 1) + 1) + 1) + 1) + 1) = ((((((((((k + 1) + 1) + 1) + 1) + 1) + 1) + 1) + 1) + 1) + 1) + 1 := wr (by omega) (by omega)
    have cc : decide ((i : Int) < (s.length : Int)) = true := decide_eq_true hlt
    refine ⟨(⟨k, (⟨(k + 1), t2, (⟨(((k + 1) + 1) + 1), ((((k + 1) + 1) + 1) + 1), t5⟩ : TVal)⟩ : TArg), (⟨((((((k + 1) + 1) + 1) + 1) + 1) + 1), t7, (⟨((((((((k + 1) + 1) + 1) + 1) + 1) + 1) + 1) + 1), (((((((((k + 1) + 1) + 1) + 1) + 1) + 1) + 1) + 1) + 1), t10⟩ : TVal)⟩ : TArg)⟩ : TCond), ?_, ?_, ?_, ?_⟩
    · exact ⟨(by trivial), (by trivial), m2, (by trivial), (by trivial), m5, (by trivial), m7, (by trivial), (by trivial), m10⟩
    · simp only [cntTCond]
    · exact trivial
    · have hp : (((((((((((k + 1) + 1) + 1) + 1) + 1) + 1) + 1) + 1) + 1) + 1) + 1) = k + cntTCond x := by omega
      rw [← hp, ← wr1 i (by omega)]
      simp only [m_l_markCondS_l1, cc, if_true, show idx s (i : Int) = some x from by rw [idx_nat, hx], Option.bind_some, Int.toNat_natCast, e0, e1, m2, e2, e3, e4, m5, e5, e6, m7, e7, e8, e9, m10, e10])
    (fun n s k i hi => by simp only [m_l_markCondS_l1]; rw [if_neg (by simpa using hi)]) N 0 x k hl (by omega) (by omega) h0 (by simpa using h1) (fun _ _ => trivial)
  simp only [List.drop_zero, List.take_zero, List.nil_append] at a1 a3
  exact ⟨ys, a1, a3, a4, by omega⟩
theorem mk_m_l_markExprS {N : Nat} (hN : 1099000000000 ≤ N) (x : (List TExpr)) (h : (x.length ≤ 4294967296)) (k : Int) (h0 : 0 ≤ k) (h1 : k + cntL cntTExpr x ≤ big62) : ∃ ys, m_l_markExprS N x k = some (k + cntL cntTExpr x, ys) ∧ cntL cntTExpr ys = cntL cntTExpr x ∧ HdL (HdTExpr N) cntTExpr ys k ∧ (ys.length ≤ 4294967296) := by
  have hl : x.length ≤ 4294967296 := h
  obtain ⟨ys, a1, a2, a3, a4, a5⟩ := mkloop (m_l_markExprS_l1 N) (HdTExpr N) cntTExpr (fun _ => True) cntTExpr_nn (fun n s k i x hx hi hlt h0 h1 h => by
    unfold big62 at h1
    have hcnt : cntTExpr x = 1 + 1 + 1 + 1 + 1 + 1 + 1 + 1 + 1 + 1 + 1 := rfl
    rw [hcnt] at h1
    obtain ⟨t0, m0⟩ := mtx hN k (by omega) (by unfold big62; omega)
    have e0 : IntKind.i64.wrap (k + 1) = k + 1 := wr (by omega) (by omega)
    have e1 : IntKind.i64.wrap ((k + 1) + 1) = (k + 1) + 1 := wr (by omega) (by omega)
    obtain ⟨t2, m2⟩ := mtx hN ((k + 1) + 1) (by omega) (by unfold big62; omega)
    have e2 : IntKind.i64.wrap (((k + 1) + 1) + 1) = ((k + 1) + 1) + 1 := wr (by omega) (by omega)
    have e3 : IntKind.i64.wrap ((((k + 1) + 1) + 1) + 1) = (((k + 1) + 1) + 1) + 1 := wr (by omega) (by omega)
    have e4 : IntKind.i64.wrap (((((k + 1) + 1) + 1) + 1) + 1) = ((((k + 1) + 1) + 1) + 1) + 1 := wr (by omega) (by omega)
    obtain ⟨t5, m5⟩ := mtx hN (((((k + 1) + 1) + 1) + 1) + 1) (by omega) (by unfold big62; omega)
    have e5 : IntKind.i64.wrap ((((((k + 1) + 1) + 1) + 1) + 1) + 1) = (((((k + 1) + 1) + 1) + 1) + 1) + 1 := wr (by omega) (by omega)
    have e6 : IntKind.i64.wrap (((((((k + 1) + 1) + 1) + 1) + 1) + 1) + 1) = ((((((k + 1) + 1) + 1) + 1) + 1) + 1) + 1 := wr (by omega) (by omega)
    obtain ⟨t7, m7⟩ := mtx hN (((((((k + 1) + 1) + 1) + 1) + 1) + 1) + 1) (by omega) (by unfold big62; omega)
    have e7 : IntKind.i64.wrap ((((((((k + 1) + 1) + 1) + 1) + 1) + 1) + 1) + 1) = (((((((k + 1) + 1) + 1) + 1) + 1) + 1) + 1) + 1 := wr (by omega) (by omega)
    have e8 : IntKind.i64.wrap (((((((((k + 1) + 1) + 1) + 1) + 1) + 1) + 1) + 1) + 1) = ((((((((k + 1) + 1) + 1) + 1) + 1) + 1) + 1) + 1) + 1 := wr (by omega) (by omega)
    have e9 : IntKind.i64.wrap ((((((((((k + 1) + 1) + 1) + 1) + 1) + 1) + 1) + 1) + 1) + 1) = (((((((((k + 1) + 1) + 1) + 1) + 1) + 1) + 1) + 1) + 1) + 1 := wr (by omega) (by omega)
    obtain ⟨t10, m10⟩ := mtx hN ((((((((((k + 1) + 1) + 1) + 1) + 1) + 1) + 1) + 1) + 1) + 1) (by omega) (by unfold big62; omega)
    have e10 : IntKind.i64.wrap (((((((((((k + 1) + 1) + 1) + 1) + 1) + 1) + 1) + 1) + 1) + 1) + 1) = ((((((((((k + 1) + 1) + 1) + 1) + 1) + 1) + 1) + 1) + 1) + 1) + 1 := wr (by omega) (by omega)
    have cc : decide ((i : Int) < (s.length : Int)) = true := decide_eq_true hlt
    refine ⟨(⟨t0, (⟨(k + 1), t2, (⟨(((k + 1) + 1) + 1), ((((k + 1) + 1) + 1) + 1), t5⟩ : TVal)⟩ : TArg), (⟨((((((k + 1) + 1) + 1) + 1) + 1) + 1), t7, (⟨((((((((k + 1) + 1) + 1) + 1) + 1) + 1) + 1) + 1), (((((((((k + 1) + 1) + 1) + 1) + 1) + 1) + 1) + 1) + 1), t10⟩ : TVal)⟩ : TArg)⟩ : TExpr), ?_, ?_, ?_, ?_⟩
    · exact ⟨m0, (by trivial), m2, (by trivial), (by trivial), m5, (by trivial), m7, (by trivial), (by trivial), m10⟩
    · simp only [cntTExpr]
    · exact trivial
    · have hp : (((((((((((k + 1) + 1) + 1) + 1) + 1) + 1) + 1) + 1) + 1) + 1) + 1) = k + cntTExpr x := by omega
      rw [← hp, ← wr1 i (by omega)]
      simp only [m_l_markExprS_l1, cc, if_true, show idx s (i : Int) = some x from by rw [idx_nat, hx], Option.bind_some, Int.toNat_natCast, m0, e0, e1, m2, e2, e3, e4, m5, e5, e6, m7, e7, e8, e9, m10, e10])
    (fun n s k i hi => by simp only [m_l_markExprS_l1]; rw [if_neg (by simpa using hi)]) N 0 x k hl (by omega) (by omega) h0 (by simpa using h1) (fun _ _ => trivial)
  simp only [List.drop_zero, List.take_zero, List.nil_append] at a1 a3
  exact ⟨ys, a1, a3, a4, by omega⟩
theorem mk_m_l_markActS {N : Nat} (hN : 1099000000000 ≤ N) (x : (List TAct)) (h : (x.length ≤ 4294967296 ∧ ∀ y ∈ x, LimTAct y)) (k : Int) (h0 : 0 ≤ k) (h1 : k + cntL cntTAct x ≤ big62) : ∃ ys, m_l_markActS N x k = some (k + cntL cntTAct x, ys) ∧ cntL cntTAct ys = cntL cntTAct x ∧ HdL (HdTAct N) cntTAct ys k ∧ (ys.length ≤ 4294967296 ∧ ∀ y ∈ ys, LimTAct y) := by
  have hl : x.length ≤ 4294967296 := h.1
  obtain ⟨ys, a1, a2, a3, a4, a5⟩ := mkloop (m_l_markActS_l1 N) (HdTAct N) cntTAct LimTAct cntTAct_nn (fun n s k i x hx hi hlt h0 h1 h => by
    unfold big62 at h1
    have hcnt : cntTAct x = 1 + 1 + cntL cntTExpr x.Args + 1 + 1 := rfl
    rw [hcnt] at h1
    have n2 := cntL_nn cntTExpr_nn x.Args
    have e0 : IntKind.i64.wrap (k + 1) = k + 1 := wr (by omega) (by omega)
    obtain ⟨t1, m1⟩ := mtx hN (k + 1) (by omega) (by unfold big62; omega)
    have e1 : IntKind.i64.wrap ((k + 1) + 1) = (k + 1) + 1 := wr (by omega) (by omega)
    obtain ⟨y2, m2, c2, d2, l2⟩ := mk_m_l_markExprS hN x.Args (h) ((k + 1) + 1) (by omega) (by unfold big62; omega)
    have e3 : IntKind.i64.wrap ((((k + 1) + 1) + cntL cntTExpr x.Args) + 1) = (((k + 1) + 1) + cntL cntTExpr x.Args) + 1 := wr (by omega) (by omega)
    obtain ⟨t4, m4⟩ := mtx hN ((((k + 1) + 1) + cntL cntTExpr x.Args) + 1) (by omega) (by unfold big62; omega)
    have e4 : IntKind.i64.wrap (((((k + 1) + 1) + cntL cntTExpr x.Args) + 1) + 1) = ((((k + 1) + 1) + cntL cntTExpr x.Args) + 1) + 1 := wr (by omega) (by omega)
    have cc : decide ((i : Int) < (s.length : Int)) = true := decide_eq_true hlt
    refine ⟨(⟨k, t1, y2, (((k + 1) + 1) + cntL cntTExpr x.Args), t4⟩ : TAct), ?_, ?_, ?_, ?_⟩
    · simp only [HdTAct, c2]; exact ⟨(by trivial), m1, d2, (by trivial), m4⟩
    · simp only [cntTAct, c2]
    · exact l2
    · have hp : (((((k + 1) + 1) + cntL cntTExpr x.Args) + 1) + 1) = k + cntTAct x := by omega
      rw [← hp, ← wr1 i (by omega)]
      simp only [m_l_markActS_l1, cc, if_true, show idx s (i : Int) = some x from by rw [idx_nat, hx], Option.bind_some, Int.toNat_natCast, e0, m1, e1, m2, e3, m4, e4])
    (fun n s k i hi => by simp only [m_l_markActS_l1]; rw [if_neg (by simpa using hi)]) N 0 x k hl (by omega) (by omega) h0 (by simpa using h1) (h.2)
  simp only [List.drop_zero, List.take_zero, List.nil_append] at a1 a3
  exact ⟨ys, a1, a3, a4, ⟨by omega, a5⟩⟩
theorem mk_m_l_markRuleS {N : Nat} (hN : 1099000000000 ≤ N) (x : (List TRule)) (h : (x.length ≤ 4294967296 ∧ ∀ y ∈ x, LimTRule y)) (k : Int) (h0 : 0 ≤ k) (h1 : k + cntL cntTRule x ≤ big62) : ∃ ys, m_l_markRuleS N x k = some (k + cntL cntTRule x, ys) ∧ cntL cntTRule ys = cntL cntTRule x ∧ HdL (HdTRule N) cntTRule ys k ∧ (ys.length ≤ 4294967296 ∧ ∀ y ∈ ys, LimTRule y) := by
  have hl : x.length ≤ 4294967296 := h.1
  obtain ⟨ys, a1, a2, a3, a4, a5⟩ := mkloop (m_l_markRuleS_l1 N) (HdTRule N) cntTRule LimTRule cntTRule_nn (fun n s k i x hx hi hlt h0 h1 h => by
    unfold big62 at h1
    have hcnt : cntTRule x = 1 + 1 + cntL cntTPat x.Pats + cntL cntTCond x.Conds + cntL cntTAct x.Acts := rfl
    rw [hcnt] at h1
    have n2 := cntL_nn cntTPat_nn x.Pats
    have n3 := cntL_nn cntTCond_nn x.Conds
    have n4 := cntL_nn cntTAct_nn x.Acts
    obtain ⟨t0, m0⟩ := mtx hN k (by omega) (by unfold big62; omega)
    have e0 : IntKind.i64.wrap (k + 1) = k + 1 := wr (by omega) (by omega)
    have e1 : IntKind.i64.wrap ((k + 1) + 1) = (k + 1) + 1 := wr (by omega) (by omega)
    obtain ⟨y2, m2, c2, d2, l2⟩ := mk_m_l_markPatS hN x.Pats (h.1) ((k + 1) + 1) (by omega) (by unfold big62; omega)
    obtain ⟨y3, m3, c3, d3, l3⟩ := mk_m_l_markCondS hN x.Conds (h.2.1) (((k + 1) + 1) + cntL cntTPat x.Pats) (by omega) (by unfold big62; omega)
    obtain ⟨y4, m4, c4, d4, l4⟩ := mk_m_l_markActS hN x.Acts (h.2.2) ((((k + 1) + 1) + cntL cntTPat x.Pats) + cntL cntTCond x.Conds) (by omega) (by unfold big62; omega)
    have cc : decide ((i : Int) < (s.length : Int)) = true := decide_eq_true hlt
    refine ⟨(⟨t0, (k + 1), y2, y3, y4⟩ : TRule), ?_, ?_, ?_, ?_⟩
    · simp only [HdTRule, c2, c3, c4]; exact ⟨m0, (by trivial), d2, d3, d4⟩
    · simp only [cntTRule, c2, c3, c4]
    · exact ⟨l2, l3, l4⟩
    · have hp : (((((k + 1) + 1) + cntL cntTPat x.Pats) + cntL cntTCond x.Conds) + cntL cntTAct x.Acts) = k + cntTRule x := by omega
      rw [← hp, ← wr1 i (by omega)]
      simp only [m_l_markRuleS_l1, cc, if_true, show idx s (i : Int) = some x from by rw [idx_nat, hx], Option.bind_some, Int.toNat_natCast, m0, e0, e1, m2, m3, m4])
    (fun n s k i hi => by simp only [m_l_markRuleS_l1]; rw [if_neg (by simpa using hi)]) N 0 x k hl (by omega) (by omega) h0 (by simpa using h1) (h.2)
  simp only [List.drop_zero, List.take_zero, List.nil_append] at a1 a3
  exact ⟨ys, a1, a3, a4, ⟨by omega, a5⟩⟩
def mcnTDef (x : TDef) : Int := cntL cntTRule x.Rules
theorem mcnTDef_nn (x : TDef) : 0 ≤ mcnTDef x := by
  unfold mcnTDef
  have := cntL_nn cntTRule_nn x.Rules
  omega
theorem mcnTDef_le (x : TDef) : mcnTDef x ≤ 32 + 32 * totTDef x := by
  have := cntTDef_le x; unfold cntTDef at this; unfold mcnTDef; omega
theorem mk_m_l_markDef {N : Nat} (hN : 1099000000000 ≤ N) (x : TDef) (h : LimTDef x) (k : Int) (h0 : 0 ≤ k) (h1 : k + mcnTDef x ≤ big62) : ∃ y0, m_l_markDef N x k = some (k + mcnTDef x, y0) := by
  unfold mcnTDef big62 at *
  have n0 := cntL_nn cntTRule_nn x.Rules
  obtain ⟨y0, m0, c0, d0, l0⟩ := mk_m_l_markRuleS hN x.Rules (h) k (by omega) (by unfold big62; omega)
  have hp : k + (cntL cntTRule x.Rules) = (k + cntL cntTRule x.Rules) := by omega
  refine ⟨y0, ?_⟩
  · rw [hp]; simp only [m_l_markDef, Option.bind_some, m0]
def cntTIds (x : TIds) : Int := cntL one x.L
theorem cntTIds_nn (x : TIds) : 0 ≤ cntTIds x := by
  unfold cntTIds
  have := cntL_nn one_nn x.L
  omega
theorem cntTIds_le (x : TIds) : cntTIds x ≤ 32 + 32 * (totTIds x) := by
  have := cntL_le0 (cnt := one) (p := x.L) (fun y _ => by simp [one])
  unfold cntTIds totTIds
  omega
def HdTIds (N : Nat) (x : TIds) (k : Int) : Prop := HdL (fun x k => x = k) one x.L k
def cntTTok (x : TTok) : Int := cntL one x.Ids + cntL one x.Hits
theorem cntTTok_nn (x : TTok) : 0 ≤ cntTTok x := by
  unfold cntTTok
  have := cntL_nn one_nn x.Ids
  have := cntL_nn one_nn x.Hits
  omega
theorem cntTTok_le (x : TTok) : cntTTok x ≤ 32 + 32 * (totTTok x) := by
  have := cntL_le0 (cnt := one) (p := x.Ids) (fun y _ => by simp [one])
  have := cntL_le0 (cnt := one) (p := x.Hits) (fun y _ => by simp [one])
  unfold cntTTok totTTok
  omega
def HdTTok (N : Nat) (x : TTok) (k : Int) : Prop := HdL (fun x k => x = k) one x.Ids k ∧ HdL (fun x k => x = k) one x.Hits (k + cntL one x.Ids)
def cntTLevel (x : TLevel) : Int := cntL cntTTok x.Toks
theorem cntTLevel_nn (x : TLevel) : 0 ≤ cntTLevel x := by
  unfold cntTLevel
  have := cntL_nn cntTTok_nn x.Toks
  omega
theorem cntTLevel_le (x : TLevel) : cntTLevel x ≤ 32 + 32 * (totTLevel x) := by
  have := cntL_le (p := x.Toks) (tot := totTTok) (fun y _ => cntTTok_le y)
  have := sum_nonneg totTTok x.Toks (fun y _ => totTTok_nn y)
  unfold cntTLevel totTLevel
  omega
def HdTLevel (N : Nat) (x : TLevel) (k : Int) : Prop := HdL (HdTTok N) cntTTok x.Toks k
def cntTRow (x : TRow) : Int := cntL cntTLevel x.Levels
theorem cntTRow_nn (x : TRow) : 0 ≤ cntTRow x := by
  unfold cntTRow
  have := cntL_nn cntTLevel_nn x.Levels
  omega
theorem cntTRow_le (x : TRow) : cntTRow x ≤ 32 + 32 * (totTRow x) := by
  have := cntL_le (p := x.Levels) (tot := totTLevel) (fun y _ => cntTLevel_le y)
  have := sum_nonneg totTLevel x.Levels (fun y _ => totTLevel_nn y)
  unfold cntTRow totTRow
  omega
def HdTRow (N : Nat) (x : TRow) (k : Int) : Prop := HdL (HdTLevel N) cntTLevel x.Levels k
def cntTMem (x : TMem) : Int := cntL cntTIds x.Alphas + cntL cntTRow x.Rules
theorem cntTMem_nn (x : TMem) : 0 ≤ cntTMem x := by
  unfold cntTMem
  have := cntL_nn cntTIds_nn x.Alphas
  have := cntL_nn cntTRow_nn x.Rules
  omega
theorem cntTMem_le (x : TMem) : cntTMem x ≤ 32 + 32 * (totTMem x) := by
  have := cntL_le (p := x.Alphas) (tot := totTIds) (fun y _ => cntTIds_le y)
  have := sum_nonneg totTIds x.Alphas (fun y _ => totTIds_nn y)
  have := cntL_le (p := x.Rules) (tot := totTRow) (fun y _ => cntTRow_le y)
  have := sum_nonneg totTRow x.Rules (fun y _ => totTRow_nn y)
  unfold cntTMem totTMem
  omega
def HdTMem (N : Nat) (x : TMem) (k : Int) : Prop := HdL (HdTIds N) cntTIds x.Alphas k ∧ HdL (HdTRow N) cntTRow x.Rules (k + cntL cntTIds x.Alphas)
theorem mk_m_l_markIntS {N : Nat} (hN : 1099000000000 ≤ N) (x : (List Int)) (h : (x.length ≤ 4294967296)) (k : Int) (h0 : 0 ≤ k) (h1 : k + cntL one x ≤ big62) : ∃ ys, m_l_markIntS N x k = some (k + cntL one x, ys) ∧ cntL one ys = cntL one x ∧ HdL (fun x k => x = k) one ys k ∧ (ys.length ≤ 4294967296) := by
  have hl : x.length ≤ 4294967296 := h
  obtain ⟨ys, a1, a2, a3, a4, a5⟩ := mkloop (m_l_markIntS_l1 N) (fun x k => x = k) one (fun _ => True) one_nn (fun n s k i x hx hi hlt h0 h1 h => by
    unfold big62 at h1
    simp only [one] at h1
    have e0 : IntKind.i64.wrap (k + 1) = k + 1 := wr (by omega) (by omega)
    have cc : decide ((i : Int) < (s.length : Int)) = true := decide_eq_true hlt
    refine ⟨k, (by trivial), rfl, trivial, ?_⟩
    · have hp : (k + 1) = k + one x := by rfl
      rw [← hp, ← wr1 i (by omega)]
      simp only [m_l_markIntS_l1, cc, if_true, show idx s (i : Int) = some x from by rw [idx_nat, hx], Option.bind_some, Int.toNat_natCast, e0])
    (fun n s k i hi => by simp only [m_l_markIntS_l1]; rw [if_neg (by simpa using hi)]) N 0 x k hl (by omega) (by omega) h0 (by simpa using h1) (fun _ _ => trivial)
  simp only [List.drop_zero, List.take_zero, List.nil_append] at a1 a3
  exact ⟨ys, a1, a3, a4, by omega⟩
theorem hd_m_l_heldIntS {N : Nat} (hN : 1099000000000 ≤ N) (x : (List Int)) (h : (x.length ≤ 4294967296)) (k : Int) (h0 : 0 ≤ k) (h1 : k + cntL one x ≤ big62) (hh : HdL (fun x k => x = k) one x k) : m_l_heldIntS N x k = some (k + cntL one x) := by
  have hl : x.length ≤ 4294967296 := h
  have := hdloop (m_l_heldIntS_l1 N x) x (fun x k => x = k) one (fun _ => True) one_nn hl (fun _ _ => trivial) (fun n k i y hx hi hlt h0 h1 h hy => by
    unfold big62 at h1
    simp only [one] at h1
    have e0 : IntKind.i64.wrap (k + 1) = k + 1 := wr (by omega) (by omega)
    have cc : decide ((i : Int) < (x.length : Int)) = true := decide_eq_true hlt
    have hp : (k + 1) = k + one y := by rfl
    have q0 := hy
    rw [← hp, ← wr1 i (by omega)]
    have hb : ∀ {β : Type} (f : Int → Option β), (idx x (i : Int)).bind f = f y := fun f => by rw [idx_nat, hx]; rfl
    simp only [m_l_heldIntS_l1, cc, if_true]
    simp only [e0]
    simp only [↓hb, ↓reduceIte, seq_self, decide_true, Bool.not_true, Bool.false_eq_true, bne_self_eq_false, q0, e0])
    (fun n k i hi => by simp only [m_l_heldIntS_l1]; rw [if_neg (by simpa using hi)]) N 0 k (by omega) (by omega) h0 (by simpa using h1) (by simpa using hh)
  unfold m_l_heldIntS; simpa using this
theorem mk_m_l_markIdsS {N : Nat} (hN : 1099000000000 ≤ N) (x : (List TIds)) (h : (x.length ≤ 4294967296 ∧ ∀ y ∈ x, LimTIds y)) (k : Int) (h0 : 0 ≤ k) (h1 : k + cntL cntTIds x ≤ big62) : ∃ ys, m_l_markIdsS N x k = some (k + cntL cntTIds x, ys) ∧ cntL cntTIds ys = cntL cntTIds x ∧ HdL (HdTIds N) cntTIds ys k ∧ (ys.length ≤ 4294967296 ∧ ∀ y ∈ ys, LimTIds y) := by
  have hl : x.length ≤ 4294967296 := h.1
  obtain ⟨ys, a1, a2, a3, a4, a5⟩ := mkloop (m_l_markIdsS_l1 N) (HdTIds N) cntTIds LimTIds cntTIds_nn (fun n s k i x hx hi hlt h0 h1 h => by
    unfold big62 at h1
    have hcnt : cntTIds x = cntL one x.L := rfl
    rw [hcnt] at h1
    have n0 := cntL_nn one_nn x.L
    obtain ⟨y0, m0, c0, d0, l0⟩ := mk_m_l_markIntS hN x.L (h) k (by omega) (by unfold big62; omega)
    have cc : decide ((i : Int) < (s.length : Int)) = true := decide_eq_true hlt
    refine ⟨(⟨y0⟩ : TIds), ?_, ?_, ?_, ?_⟩
    · simp only [HdTIds, c0]; exact d0
    · simp only [cntTIds, c0]
    · exact l0
    · have hp : (k + cntL one x.L) = k + cntTIds x := by omega
      rw [← hp, ← wr1 i (by omega)]
      simp only [m_l_markIdsS_l1, cc, if_true, show idx s (i : Int) = some x from by rw [idx_nat, hx], Option.bind_some, Int.toNat_natCast, m0])
    (fun n s k i hi => by simp only [m_l_markIdsS_l1]; rw [if_neg (by simpa using hi)]) N 0 x k hl (by omega) (by omega) h0 (by simpa using h1) (h.2)
  simp only [List.drop_zero, List.take_zero, List.nil_append] at a1 a3
  exact ⟨ys, a1, a3, a4, ⟨by omega, a5⟩⟩
theorem mk_m_l_markTokS {N : Nat} (hN : 1099000000000 ≤ N) (x : (List TTok)) (h : (x.length ≤ 4294967296 ∧ ∀ y ∈ x, LimTTok y)) (k : Int) (h0 : 0 ≤ k) (h1 : k + cntL cntTTok x ≤ big62) : ∃ ys, m_l_markTokS N x k = some (k + cntL cntTTok x, ys) ∧ cntL cntTTok ys = cntL cntTTok x ∧ HdL (HdTTok N) cntTTok ys k ∧ (ys.length ≤ 4294967296 ∧ ∀ y ∈ ys, LimTTok y) := by
  have hl : x.length ≤ 4294967296 := h.1
  obtain ⟨ys, a1, a2, a3, a4, a5⟩ := mkloop (m_l_markTokS_l1 N) (HdTTok N) cntTTok LimTTok cntTTok_nn (fun n s k i x hx hi hlt h0 h1 h => by
    unfold big62 at h1
    have hcnt : cntTTok x = cntL one x.Ids + cntL one x.Hits := rfl
    rw [hcnt] at h1
    have n0 := cntL_nn one_nn x.Ids
    have n1 := cntL_nn one_nn x.Hits
    obtain ⟨y0, m0, c0, d0, l0⟩ := mk_m_l_markIntS hN x.Ids (h.1) k (by omega) (by unfold big62; omega)
    obtain ⟨y1, m1, c1, d1, l1⟩ := mk_m_l_markIntS hN x.Hits (h.2) (k + cntL one x.Ids) (by omega) (by unfold big62; omega)
    have cc : decide ((i : Int) < (s.length : Int)) = true := decide_eq_true hlt
    refine ⟨(⟨y0, y1⟩ : TTok), ?_, ?_, ?_, ?_⟩
    · simp only [HdTTok, c0, c1]; exact ⟨d0, d1⟩
    · simp only [cntTTok, c0, c1]
    · exact ⟨l0, l1⟩
    · have hp : ((k + cntL one x.Ids) + cntL one x.Hits) = k + cntTTok x := by omega
      rw [← hp, ← wr1 i (by omega)]
      simp only [m_l_markTokS_l1, cc, if_true, show idx s (i : Int) = some x from by rw [idx_nat, hx], Option.bind_some, Int.toNat_natCast, m0, m1])
    (fun n s k i hi => by simp only [m_l_markTokS_l1]; rw [if_neg (by simpa using hi)]) N 0 x k hl (by omega) (by omega) h0 (by simpa using h1) (h.2)
  simp only [List.drop_zero, List.take_zero, List.nil_append] at a1 a3
  exact ⟨ys, a1, a3, a4, ⟨by omega, a5⟩⟩
theorem mk_m_l_markLevelS {N : Nat} (hN : 1099000000000 ≤ N) (x : (List TLevel)) (h : (x.length ≤ 4294967296 ∧ ∀ y ∈ x, LimTLevel y)) (k : Int) (h0 : 0 ≤ k) (h1 : k + cntL cntTLevel x ≤ big62) : ∃ ys, m_l_markLevelS N x k = some (k + cntL cntTLevel x, ys) ∧ cntL cntTLevel ys = cntL cntTLevel x ∧ HdL (HdTLevel N) cntTLevel ys k ∧ (ys.length ≤ 4294967296 ∧ ∀ y ∈ ys, LimTLevel y) := by
  have hl : x.length ≤ 4294967296 := h.1
  obtain ⟨ys, a1, a2, a3, a4, a5⟩ := mkloop (m_l_markLevelS_l1 N) (HdTLevel N) cntTLevel LimTLevel cntTLevel_nn (fun n s k i x hx hi hlt h0 h1 h => by
    unfold big62 at h1
    have hcnt : cntTLevel x = cntL cntTTok x.Toks := rfl
    rw [hcnt] at h1
    have n0 := cntL_nn cntTTok_nn x.Toks
    obtain ⟨y0, m0, c0, d0, l0⟩ := mk_m_l_markTokS hN x.Toks (h) k (by omega) (by unfold big62; omega)
    have cc : decide ((i : Int) < (s.length : Int)) = true := decide_eq_true hlt
    refine ⟨(⟨y0⟩ : TLevel), ?_, ?_, ?_, ?_⟩
    · simp only [HdTLevel, c0]; exact d0
    · simp only [cntTLevel, c0]
    · exact l0
    · have hp : (k + cntL cntTTok x.Toks) = k + cntTLevel x := by omega
      rw [← hp, ← wr1 i (by omega)]
      simp only [m_l_markLevelS_l1, cc, if_true, show idx s (i : Int) = some x from by rw [idx_nat, hx], Option.bind_some, Int.toNat_natCast, m0])
    (fun n s k i hi => by simp only [m_l_markLevelS_l1]; rw [if_neg (by simpa using hi)]) N 0 x k hl (by omega) (by omega) h0 (by simpa using h1) (h.2)
  simp only [List.drop_zero, List.take_zero, List.nil_append] at a1 a3
  exact ⟨ys, a1, a3, a4, ⟨by omega, a5⟩⟩
theorem mk_m_l_markRowS {N : Nat} (hN : 1099000000000 ≤ N) (x : (List TRow)) (h : (x.length ≤ 4294967296 ∧ ∀ y ∈ x, LimTRow y)) (k : Int) (h0 : 0 ≤ k) (h1 : k + cntL cntTRow x ≤ big62) : ∃ ys, m_l_markRowS N x k = some (k + cntL cntTRow x, ys) ∧ cntL cntTRow ys = cntL cntTRow x ∧ HdL (HdTRow N) cntTRow ys k ∧ (ys.length ≤ 4294967296 ∧ ∀ y ∈ ys, LimTRow y) := by
  have hl : x.length ≤ 4294967296 := h.1
  obtain ⟨ys, a1, a2, a3, a4, a5⟩ := mkloop (m_l_markRowS_l1 N) (HdTRow N) cntTRow LimTRow cntTRow_nn (fun n s k i x hx hi hlt h0 h1 h => by
    unfold big62 at h1
    have hcnt : cntTRow x = cntL cntTLevel x.Levels := rfl
    rw [hcnt] at h1
    have n0 := cntL_nn cntTLevel_nn x.Levels
    obtain ⟨y0, m0, c0, d0, l0⟩ := mk_m_l_markLevelS hN x.Levels (h) k (by omega) (by unfold big62; omega)
    have cc : decide ((i : Int) < (s.length : Int)) = true := decide_eq_true hlt
    refine ⟨(⟨y0⟩ : TRow), ?_, ?_, ?_, ?_⟩
    · simp only [HdTRow, c0]; exact d0
    · simp only [cntTRow, c0]
    · exact l0
    · have hp : (k + cntL cntTLevel x.Levels) = k + cntTRow x := by omega
      rw [← hp, ← wr1 i (by omega)]
      simp only [m_l_markRowS_l1, cc, if_true, show idx s (i : Int) = some x from by rw [idx_nat, hx], Option.bind_some, Int.toNat_natCast, m0])
    (fun n s k i hi => by simp only [m_l_markRowS_l1]; rw [if_neg (by simpa using hi)]) N 0 x k hl (by omega) (by omega) h0 (by simpa using h1) (h.2)
  simp only [List.drop_zero, List.take_zero, List.nil_append] at a1 a3
  exact ⟨ys, a1, a3, a4, ⟨by omega, a5⟩⟩
def mcnTMem (x : TMem) : Int := cntL cntTIds x.Alphas + cntL cntTRow x.Rules
theorem mcnTMem_nn (x : TMem) : 0 ≤ mcnTMem x := by
  unfold mcnTMem
  have := cntL_nn cntTIds_nn x.Alphas
  have := cntL_nn cntTRow_nn x.Rules
  omega
theorem mcnTMem_le (x : TMem) : mcnTMem x ≤ 32 + 32 * totTMem x := by
  have := cntTMem_le x; unfold cntTMem at this; unfold mcnTMem; omega
theorem mk_m_l_markMem {N : Nat} (hN : 1099000000000 ≤ N) (x : TMem) (h : LimTMem x) (k : Int) (h0 : 0 ≤ k) (h1 : k + mcnTMem x ≤ big62) : ∃ y0 y1, m_l_markMem N x k = some (k + mcnTMem x, y0, y1) := by
  unfold mcnTMem big62 at *
  have n0 := cntL_nn cntTIds_nn x.Alphas
  have n1 := cntL_nn cntTRow_nn x.Rules
  obtain ⟨y0, m0, c0, d0, l0⟩ := mk_m_l_markIdsS hN x.Alphas (h.1) k (by omega) (by unfold big62; omega)
  obtain ⟨y1, m1, c1, d1, l1⟩ := mk_m_l_markRowS hN x.Rules (h.2) (k + cntL cntTIds x.Alphas) (by omega) (by unfold big62; omega)
  have hp : k + (cntL cntTIds x.Alphas + cntL cntTRow x.Rules) = ((k + cntL cntTIds x.Alphas) + cntL cntTRow x.Rules) := by omega
  refine ⟨y0, y1, ?_⟩
  · rw [hp]; simp only [m_l_markMem, Option.bind_some, m0, m1]
def cntTVal (x : TVal) : Int := 1 + 1 + 1
theorem cntTVal_nn (x : TVal) : 0 ≤ cntTVal x := by
  unfold cntTVal
  omega
theorem cntTVal_le (x : TVal) : cntTVal x ≤ 32 + 32 * (totTVal x) := by
  unfold cntTVal totTVal
  omega
def HdTVal (N : Nat) (x : TVal) (k : Int) : Prop := x.K = k ∧ x.N = (k + 1) ∧ m_l_markText N ((k + 1) + 1) = some x.S
def cntTItem (x : TItem) : Int := 1 + 1 + cntL cntTVal x.F.Fields
theorem cntTItem_nn (x : TItem) : 0 ≤ cntTItem x := by
  unfold cntTItem
  have := cntL_nn cntTVal_nn x.F.Fields
  omega
theorem cntTItem_le (x : TItem) : cntTItem x ≤ 32 + 32 * (totTItem x) := by
  have := cntL_le (p := x.F.Fields) (tot := totTVal) (fun y _ => cntTVal_le y)
  have := sum_nonneg totTVal x.F.Fields (fun y _ => totTVal_nn y)
  unfold cntTItem totTItem totTFact
  omega
def HdTItem (N : Nat) (x : TItem) (k : Int) : Prop := x.Id = k ∧ m_l_markText N (k + 1) = some x.F.Kind ∧ HdL (HdTVal N) cntTVal x.F.Fields ((k + 1) + 1)
def cntTStore (x : TStore) : Int := cntL cntTItem x.Items + 1
theorem cntTStore_nn (x : TStore) : 0 ≤ cntTStore x := by
  unfold cntTStore
  have := cntL_nn cntTItem_nn x.Items
  omega
theorem cntTStore_le (x : TStore) : cntTStore x ≤ 32 + 32 * (totTStore x) := by
  have := cntL_le (p := x.Items) (tot := totTItem) (fun y _ => cntTItem_le y)
  have := sum_nonneg totTItem x.Items (fun y _ => totTItem_nn y)
  unfold cntTStore totTStore
  omega
def HdTStore (N : Nat) (x : TStore) (k : Int) : Prop := HdL (HdTItem N) cntTItem x.Items k ∧ x.Next = (k + cntL cntTItem x.Items)
theorem mk_m_l_markValS {N : Nat} (hN : 1099000000000 ≤ N) (x : (List TVal)) (h : (x.length ≤ 4294967296)) (k : Int) (h0 : 0 ≤ k) (h1 : k + cntL cntTVal x ≤ big62) : ∃ ys, m_l_markValS N x k = some (k + cntL cntTVal x, ys) ∧ cntL cntTVal ys = cntL cntTVal x ∧ HdL (HdTVal N) cntTVal ys k ∧ (ys.length ≤ 4294967296) := by
  have hl : x.length ≤ 4294967296 := h
  obtain ⟨ys, a1, a2, a3, a4, a5⟩ := mkloop (m_l_markValS_l1 N) (HdTVal N) cntTVal (fun _ => True) cntTVal_nn (fun n s k i x hx hi hlt h0 h1 h => by
    unfold big62 at h1
    have hcnt : cntTVal x = 1 + 1 + 1 := rfl
    rw [hcnt] at h1
    have e0 : IntKind.i64.wrap (k + 1) = k + 1 := wr (by omega) (by omega)
    have e1 : IntKind.i64.wrap ((k + 1) + 1) = (k + 1) + 1 := wr (by omega) (by omega)
    obtain ⟨t2, m2⟩ := mtx hN ((k + 1) + 1) (by omega) (by unfold big62; omega)
    have e2 : IntKind.i64.wrap (((k + 1) + 1) + 1) = ((k + 1) + 1) + 1 := wr (by omega) (by omega)
    have cc : decide ((i : Int) < (s.length : Int)) = true := decide_eq_true hlt
    refine ⟨(⟨k, (k + 1), t2⟩ : TVal), ?_, ?_, ?_, ?_⟩
    · exact ⟨(by trivial), (by trivial), m2⟩
    · simp only [cntTVal]
    · exact trivial
    · have hp : (((k + 1) + 1) + 1) = k + cntTVal x := by omega
      rw [← hp, ← wr1 i (by omega)]
      simp only [m_l_markValS_l1, cc, if_true, show idx s (i : Int) = some x from by rw [idx_nat, hx], Option.bind_some, Int.toNat_natCast, e0, e1, m2, e2])
    (fun n s k i hi => by simp only [m_l_markValS_l1]; rw [if_neg (by simpa using hi)]) N 0 x k hl (by omega) (by omega) h0 (by simpa using h1) (fun _ _ => trivial)
  simp only [List.drop_zero, List.take_zero, List.nil_append] at a1 a3
  exact ⟨ys, a1, a3, a4, by omega⟩
theorem mk_m_l_markItemS {N : Nat} (hN : 1099000000000 ≤ N) (x : (List TItem)) (h : (x.length ≤ 4294967296 ∧ ∀ y ∈ x, LimTItem y)) (k : Int) (h0 : 0 ≤ k) (h1 : k + cntL cntTItem x ≤ big62) : ∃ ys, m_l_markItemS N x k = some (k + cntL cntTItem x, ys) ∧ cntL cntTItem ys = cntL cntTItem x ∧ HdL (HdTItem N) cntTItem ys k ∧ (ys.length ≤ 4294967296 ∧ ∀ y ∈ ys, LimTItem y) := by
  have hl : x.length ≤ 4294967296 := h.1
  obtain ⟨ys, a1, a2, a3, a4, a5⟩ := mkloop (m_l_markItemS_l1 N) (HdTItem N) cntTItem LimTItem cntTItem_nn (fun n s k i x hx hi hlt h0 h1 h => by
    unfold big62 at h1
    have hcnt : cntTItem x = 1 + 1 + cntL cntTVal x.F.Fields := rfl
    rw [hcnt] at h1
    have n2 := cntL_nn cntTVal_nn x.F.Fields
    have e0 : IntKind.i64.wrap (k + 1) = k + 1 := wr (by omega) (by omega)
    obtain ⟨t1, m1⟩ := mtx hN (k + 1) (by omega) (by unfold big62; omega)
    have e1 : IntKind.i64.wrap ((k + 1) + 1) = (k + 1) + 1 := wr (by omega) (by omega)
    obtain ⟨y2, m2, c2, d2, l2⟩ := mk_m_l_markValS hN x.F.Fields (h) ((k + 1) + 1) (by omega) (by unfold big62; omega)
    have cc : decide ((i : Int) < (s.length : Int)) = true := decide_eq_true hlt
    refine ⟨(⟨k, (⟨t1, y2⟩ : TFact)⟩ : TItem), ?_, ?_, ?_, ?_⟩
    · simp only [HdTItem, c2]; exact ⟨(by trivial), m1, d2⟩
    · simp only [cntTItem, c2]
    · exact l2
    · have hp : (((k + 1) + 1) + cntL cntTVal x.F.Fields) = k + cntTItem x := by omega
      rw [← hp, ← wr1 i (by omega)]
      simp only [m_l_markItemS_l1, cc, if_true, show idx s (i : Int) = some x from by rw [idx_nat, hx], Option.bind_some, Int.toNat_natCast, e0, m1, e1, m2])
    (fun n s k i hi => by simp only [m_l_markItemS_l1]; rw [if_neg (by simpa using hi)]) N 0 x k hl (by omega) (by omega) h0 (by simpa using h1) (h.2)
  simp only [List.drop_zero, List.take_zero, List.nil_append] at a1 a3
  exact ⟨ys, a1, a3, a4, ⟨by omega, a5⟩⟩
def mcnTStore (x : TStore) : Int := cntL cntTItem x.Items
theorem mcnTStore_nn (x : TStore) : 0 ≤ mcnTStore x := by
  unfold mcnTStore
  have := cntL_nn cntTItem_nn x.Items
  omega
theorem mcnTStore_le (x : TStore) : mcnTStore x ≤ 32 + 32 * totTStore x := by
  have := cntTStore_le x; unfold cntTStore at this; unfold mcnTStore; omega
theorem mk_m_l_markStore {N : Nat} (hN : 1099000000000 ≤ N) (x : TStore) (h : LimTStore x) (k : Int) (h0 : 0 ≤ k) (h1 : k + mcnTStore x ≤ big62) : ∃ y0, m_l_markStore N x k = some (k + mcnTStore x, y0) := by
  unfold mcnTStore big62 at *
  have n0 := cntL_nn cntTItem_nn x.Items
  obtain ⟨y0, m0, c0, d0, l0⟩ := mk_m_l_markItemS hN x.Items (h) k (by omega) (by unfold big62; omega)
  have hp : k + (cntL cntTItem x.Items) = (k + cntL cntTItem x.Items) := by omega
  refine ⟨y0, ?_⟩
  · rw [hp]; simp only [m_l_markStore, Option.bind_some, m0]
def cntTBind (x : TBind) : Int := 1 + 1 + 1 + 1
theorem cntTBind_nn (x : TBind) : 0 ≤ cntTBind x := by
  unfold cntTBind
  omega
theorem cntTBind_le (x : TBind) : cntTBind x ≤ 32 + 32 * (totTBind x) := by
  unfold cntTBind totTBind totTVal
  omega
def HdTBind (N : Nat) (x : TBind) (k : Int) : Prop := m_l_markText N k = some x.Name ∧ x.V.K = (k + 1) ∧ x.V.N = ((k + 1) + 1) ∧ m_l_markText N (((k + 1) + 1) + 1) = some x.V.S
def cntTMatch (x : TMatch) : Int := 1 + cntL one x.Ids + cntL cntTBind x.Binds
theorem cntTMatch_nn (x : TMatch) : 0 ≤ cntTMatch x := by
  unfold cntTMatch
  have := cntL_nn one_nn x.Ids
  have := cntL_nn cntTBind_nn x.Binds
  omega
theorem cntTMatch_le (x : TMatch) : cntTMatch x ≤ 32 + 32 * (totTMatch x) := by
  have := cntL_le0 (cnt := one) (p := x.Ids) (fun y _ => by simp [one])
  have := cntL_le (p := x.Binds) (tot := totTBind) (fun y _ => cntTBind_le y)
  have := sum_nonneg totTBind x.Binds (fun y _ => totTBind_nn y)
  unfold cntTMatch totTMatch
  omega
def HdTMatch (N : Nat) (x : TMatch) (k : Int) : Prop := x.Rule = k ∧ HdL (fun x k => x = k) one x.Ids (k + 1) ∧ HdL (HdTBind N) cntTBind x.Binds ((k + 1) + cntL one x.Ids)
theorem mk_m_l_markBindS {N : Nat} (hN : 1099000000000 ≤ N) (x : (List TBind)) (h : (x.length ≤ 4294967296)) (k : Int) (h0 : 0 ≤ k) (h1 : k + cntL cntTBind x ≤ big62) : ∃ ys, m_l_markBindS N x k = some (k + cntL cntTBind x, ys) ∧ cntL cntTBind ys = cntL cntTBind x ∧ HdL (HdTBind N) cntTBind ys k ∧ (ys.length ≤ 4294967296) := by
  have hl : x.length ≤ 4294967296 := h
  obtain ⟨ys, a1, a2, a3, a4, a5⟩ := mkloop (m_l_markBindS_l1 N) (HdTBind N) cntTBind (fun _ => True) cntTBind_nn (fun n s k i x hx hi hlt h0 h1 h => by
    unfold big62 at h1
    have hcnt : cntTBind x = 1 + 1 + 1 + 1 := rfl
    rw [hcnt] at h1
    obtain ⟨t0, m0⟩ := mtx hN k (by omega) (by unfold big62; omega)
    have e0 : IntKind.i64.wrap (k + 1) = k + 1 := wr (by omega) (by omega)
    have e1 : IntKind.i64.wrap ((k + 1) + 1) = (k + 1) + 1 := wr (by omega) (by omega)
    have e2 : IntKind.i64.wrap (((k + 1) + 1) + 1) = ((k + 1) + 1) + 1 := wr (by omega) (by omega)
    obtain ⟨t3, m3⟩ := mtx hN (((k + 1) + 1) + 1) (by omega) (by unfold big62; omega)
    have e3 : IntKind.i64.wrap ((((k + 1) + 1) + 1) + 1) = (((k + 1) + 1) + 1) + 1 := wr (by omega) (by omega)
    have cc : decide ((i : Int) < (s.length : Int)) = true := decide_eq_true hlt
    refine ⟨(⟨t0, (⟨(k + 1), ((k + 1) + 1), t3⟩ : TVal)⟩ : TBind), ?_, ?_, ?_, ?_⟩
    · exact ⟨m0, (by trivial), (by trivial), m3⟩
    · simp only [cntTBind]
    · exact trivial
    · have hp : ((((k + 1) + 1) + 1) + 1) = k + cntTBind x := by omega
      rw [← hp, ← wr1 i (by omega)]
      simp only [m_l_markBindS_l1, cc, if_true, show idx s (i : Int) = some x from by rw [idx_nat, hx], Option.bind_some, Int.toNat_natCast, m0, e0, e1, e2, m3, e3])
    (fun n s k i hi => by simp only [m_l_markBindS_l1]; rw [if_neg (by simpa using hi)]) N 0 x k hl (by omega) (by omega) h0 (by simpa using h1) (fun _ _ => trivial)
  simp only [List.drop_zero, List.take_zero, List.nil_append] at a1 a3
  exact ⟨ys, a1, a3, a4, by omega⟩
theorem hd_m_l_heldBindS {N : Nat} (hN : 1099000000000 ≤ N) (x : (List TBind)) (h : (x.length ≤ 4294967296)) (k : Int) (h0 : 0 ≤ k) (h1 : k + cntL cntTBind x ≤ big62) (hh : HdL (HdTBind N) cntTBind x k) : m_l_heldBindS N x k = some (k + cntL cntTBind x) := by
  have hl : x.length ≤ 4294967296 := h
  have := hdloop (m_l_heldBindS_l1 N x) x (HdTBind N) cntTBind (fun _ => True) cntTBind_nn hl (fun _ _ => trivial) (fun n k i y hx hi hlt h0 h1 h hy => by
    unfold big62 at h1
    have hcnt : cntTBind y = 1 + 1 + 1 + 1 := rfl
    rw [hcnt] at h1
    have e0 : IntKind.i64.wrap (k + 1) = k + 1 := wr (by omega) (by omega)
    have e1 : IntKind.i64.wrap ((k + 1) + 1) = (k + 1) + 1 := wr (by omega) (by omega)
    have e2 : IntKind.i64.wrap (((k + 1) + 1) + 1) = ((k + 1) + 1) + 1 := wr (by omega) (by omega)
    have e3 : IntKind.i64.wrap ((((k + 1) + 1) + 1) + 1) = (((k + 1) + 1) + 1) + 1 := wr (by omega) (by omega)
    have cc : decide ((i : Int) < (x.length : Int)) = true := decide_eq_true hlt
    have hp : ((((k + 1) + 1) + 1) + 1) = k + cntTBind y := by omega
    obtain ⟨q0, q1, q2, q3⟩ := hy
    rw [← hp, ← wr1 i (by omega)]
    have hb : ∀ {β : Type} (f : TBind → Option β), (idx x (i : Int)).bind f = f y := fun f => by rw [idx_nat, hx]; rfl
    have bq0 := fun (β : Type) => @bs_of _ _ _ q0 β
    have bq3 := fun (β : Type) => @bs_of _ _ _ q3 β
    simp only [m_l_heldBindS_l1, cc, if_true]
    simp only [e0, e1, e2, e3]
    simp only [↓hb, ↓bq0, ↓bq3, ↓reduceIte, seq_self, decide_true, Bool.not_true, Bool.false_eq_true, bne_self_eq_false, q1, q2, e0, e1, e2, e3])
    (fun n k i hi => by simp only [m_l_heldBindS_l1]; rw [if_neg (by simpa using hi)]) N 0 k (by omega) (by omega) h0 (by simpa using h1) (by simpa using hh)
  unfold m_l_heldBindS; simpa using this
theorem mk_m_l_markMatchS {N : Nat} (hN : 1099000000000 ≤ N) (x : (List TMatch)) (h : (x.length ≤ 4294967296 ∧ ∀ y ∈ x, LimTMatch y)) (k : Int) (h0 : 0 ≤ k) (h1 : k + cntL cntTMatch x ≤ big62) : ∃ ys, m_l_markMatchS N x k = some (k + cntL cntTMatch x, ys) ∧ cntL cntTMatch ys = cntL cntTMatch x ∧ HdL (HdTMatch N) cntTMatch ys k ∧ (ys.length ≤ 4294967296 ∧ ∀ y ∈ ys, LimTMatch y) := by
  have hl : x.length ≤ 4294967296 := h.1
  obtain ⟨ys, a1, a2, a3, a4, a5⟩ := mkloop (m_l_markMatchS_l1 N) (HdTMatch N) cntTMatch LimTMatch cntTMatch_nn (fun n s k i x hx hi hlt h0 h1 h => by
    unfold big62 at h1
    have hcnt : cntTMatch x = 1 + cntL one x.Ids + cntL cntTBind x.Binds := rfl
    rw [hcnt] at h1
    have n1 := cntL_nn one_nn x.Ids
    have n2 := cntL_nn cntTBind_nn x.Binds
    have e0 : IntKind.i64.wrap (k + 1) = k + 1 := wr (by omega) (by omega)
    obtain ⟨y1, m1, c1, d1, l1⟩ := mk_m_l_markIntS hN x.Ids (h.1) (k + 1) (by omega) (by unfold big62; omega)
    obtain ⟨y2, m2, c2, d2, l2⟩ := mk_m_l_markBindS hN x.Binds (h.2) ((k + 1) + cntL one x.Ids) (by omega) (by unfold big62; omega)
    have cc : decide ((i : Int) < (s.length : Int)) = true := decide_eq_true hlt
    refine ⟨(⟨k, y1, y2⟩ : TMatch), ?_, ?_, ?_, ?_⟩
    · simp only [HdTMatch, c1, c2]; exact ⟨(by trivial), d1, d2⟩
    · simp only [cntTMatch, c1, c2]
    · exact ⟨l1, l2⟩
    · have hp : (((k + 1) + cntL one x.Ids) + cntL cntTBind x.Binds) = k + cntTMatch x := by omega
      rw [← hp, ← wr1 i (by omega)]
      simp only [m_l_markMatchS_l1, cc, if_true, show idx s (i : Int) = some x from by rw [idx_nat, hx], Option.bind_some, Int.toNat_natCast, e0, m1, m2])
    (fun n s k i hi => by simp only [m_l_markMatchS_l1]; rw [if_neg (by simpa using hi)]) N 0 x k hl (by omega) (by omega) h0 (by simpa using h1) (h.2)
  simp only [List.drop_zero, List.take_zero, List.nil_append] at a1 a3
  exact ⟨ys, a1, a3, a4, ⟨by omega, a5⟩⟩
theorem hd_m_l_heldMatchS {N : Nat} (hN : 1099000000000 ≤ N) (x : (List TMatch)) (h : (x.length ≤ 4294967296 ∧ ∀ y ∈ x, LimTMatch y)) (k : Int) (h0 : 0 ≤ k) (h1 : k + cntL cntTMatch x ≤ big62) (hh : HdL (HdTMatch N) cntTMatch x k) : m_l_heldMatchS N x k = some (k + cntL cntTMatch x) := by
  have hl : x.length ≤ 4294967296 := h.1
  have := hdloop (m_l_heldMatchS_l1 N x) x (HdTMatch N) cntTMatch LimTMatch cntTMatch_nn hl (h.2) (fun n k i y hx hi hlt h0 h1 h hy => by
    unfold big62 at h1
    have hcnt : cntTMatch y = 1 + cntL one y.Ids + cntL cntTBind y.Binds := rfl
    rw [hcnt] at h1
    have n1 := cntL_nn one_nn y.Ids
    have n2 := cntL_nn cntTBind_nn y.Binds
    have e0 : IntKind.i64.wrap (k + 1) = k + 1 := wr (by omega) (by omega)
    have a1 : 0 ≤ (k + 1) := by omega
    have d1 : (k + 1) + cntL one y.Ids ≤ big62 := by unfold big62; omega
    have p1 : decide (((k + 1) + cntL one y.Ids) < 0) = false := decide_eq_false (by omega)
    have a2 : 0 ≤ ((k + 1) + cntL one y.Ids) := by omega
    have d2 : ((k + 1) + cntL one y.Ids) + cntL cntTBind y.Binds ≤ big62 := by unfold big62; omega
    have p2 : decide ((((k + 1) + cntL one y.Ids) + cntL cntTBind y.Binds) < 0) = false := decide_eq_false (by omega)
    have cc : decide ((i : Int) < (x.length : Int)) = true := decide_eq_true hlt
    have hp : (((k + 1) + cntL one y.Ids) + cntL cntTBind y.Binds) = k + cntTMatch y := by omega
    obtain ⟨q0, q1, q2⟩ := hy
    have m1 := hd_m_l_heldIntS hN y.Ids (h.1) (k + 1) a1 d1 q1
    have m2 := hd_m_l_heldBindS hN y.Binds (h.2) ((k + 1) + cntL one y.Ids) a2 d2 q2
    rw [← hp, ← wr1 i (by omega)]
    have hb : ∀ {β : Type} (f : TMatch → Option β), (idx x (i : Int)).bind f = f y := fun f => by rw [idx_nat, hx]; rfl
    have bm1 := fun (β : Type) => @bs_of _ _ _ m1 β
    have bm2 := fun (β : Type) => @bs_of _ _ _ m2 β
    simp only [m_l_heldMatchS_l1, cc, if_true]
    simp only [e0]
    simp only [↓hb, ↓bm1, ↓bm2, ↓reduceIte, seq_self, decide_true, Bool.not_true, Bool.false_eq_true, bne_self_eq_false, q0, p1, p2, e0])
    (fun n k i hi => by simp only [m_l_heldMatchS_l1]; rw [if_neg (by simpa using hi)]) N 0 k (by omega) (by omega) h0 (by simpa using h1) (by simpa using hh)
  unfold m_l_heldMatchS; simpa using this
end Go.Proofs.YtjccaebpbieejaaGreat
