/- Printed by a program of ours: the plain laws of the sizes, copies, comparisons and marks. -/
import Derived.Test.YtjhlmnbkfdkmpaaPLib
import Derived.Test.YtjhlmnbkfdkmpaaWExactMemNewMod
namespace Go.Proofs.Ytjhlmnbkfdkmpaa
open Eng
set_option linter.unusedVariables false
set_option linter.unusedSimpArgs false
set_option maxRecDepth 10000
def WfTVal (x : TVal) : Prop := (WfI .i64) x.K ∧ (WfI .i64) x.N ∧ WfS x.S
def totTVal (x : TVal) : Int := ((x.S.size : Int))
theorem totTVal_nn (x : TVal) : 0 ≤ totTVal x := by
  unfold totTVal
  omega
def WfTAlpha (x : TAlpha) : Prop := WfS x.Kind ∧ (WfI .i64) x.N ∧ (WfL WfTVal) x.Consts ∧ (WfL (WfI .i64)) x.At
def totTAlpha (x : TAlpha) : Int := ((x.Kind.size : Int)) + ((x.Consts.length : Int) + (x.Consts.map totTVal).sum) + ((x.At.length : Int))
theorem totTAlpha_nn (x : TAlpha) : 0 ≤ totTAlpha x := by
  unfold totTAlpha
  have := sum_nonneg totTVal x.Consts (fun y _ => totTVal_nn y)
  omega
def WfTChain (x : TChain) : Prop := (WfL (WfI .i64)) x.Pos ∧ (WfL (WfI .i64)) x.Neg
def totTChain (x : TChain) : Int := ((x.Pos.length : Int)) + ((x.Neg.length : Int))
theorem totTChain_nn (x : TChain) : 0 ≤ totTChain x := by
  unfold totTChain
  omega
def WfTNet (x : TNet) : Prop := (WfL WfTAlpha) x.Alphas ∧ (WfL WfTChain) x.Chains
def totTNet (x : TNet) : Int := ((x.Alphas.length : Int) + (x.Alphas.map totTAlpha).sum) + ((x.Chains.length : Int) + (x.Chains.map totTChain).sum)
theorem totTNet_nn (x : TNet) : 0 ≤ totTNet x := by
  unfold totTNet
  have := sum_nonneg totTAlpha x.Alphas (fun y _ => totTAlpha_nn y)
  have := sum_nonneg totTChain x.Chains (fun y _ => totTChain_nn y)
  omega
def WfTIds (x : TIds) : Prop := (WfL (WfI .i64)) x.L
def totTIds (x : TIds) : Int := ((x.L.length : Int))
theorem totTIds_nn (x : TIds) : 0 ≤ totTIds x := by
  unfold totTIds
  omega
def WfTTok (x : TTok) : Prop := (WfL (WfI .i64)) x.Ids ∧ (WfL (WfI .i64)) x.Hits
def totTTok (x : TTok) : Int := ((x.Ids.length : Int)) + ((x.Hits.length : Int))
theorem totTTok_nn (x : TTok) : 0 ≤ totTTok x := by
  unfold totTTok
  omega
def WfTLevel (x : TLevel) : Prop := (WfL WfTTok) x.Toks
def totTLevel (x : TLevel) : Int := ((x.Toks.length : Int) + (x.Toks.map totTTok).sum)
theorem totTLevel_nn (x : TLevel) : 0 ≤ totTLevel x := by
  unfold totTLevel
  have := sum_nonneg totTTok x.Toks (fun y _ => totTTok_nn y)
  omega
def WfTRow (x : TRow) : Prop := (WfL WfTLevel) x.Levels
def totTRow (x : TRow) : Int := ((x.Levels.length : Int) + (x.Levels.map totTLevel).sum)
theorem totTRow_nn (x : TRow) : 0 ≤ totTRow x := by
  unfold totTRow
  have := sum_nonneg totTLevel x.Levels (fun y _ => totTLevel_nn y)
  omega
def WfTMem (x : TMem) : Prop := (WfL WfTIds) x.Alphas ∧ (WfL WfTRow) x.Rules
def totTMem (x : TMem) : Int := ((x.Alphas.length : Int) + (x.Alphas.map totTIds).sum) + ((x.Rules.length : Int) + (x.Rules.map totTRow).sum)
theorem totTMem_nn (x : TMem) : 0 ≤ totTMem x := by
  unfold totTMem
  have := sum_nonneg totTIds x.Alphas (fun y _ => totTIds_nn y)
  have := sum_nonneg totTRow x.Rules (fun y _ => totTRow_nn y)
  omega
theorem sz_m_l_szVal {N : Nat} (hN : 1099511627776 ≤ N) (x : TVal) (w : WfTVal x) (left : Int) (h0 : 0 ≤ left) (h1 : left ≤ 1048576) : ∃ v, m_l_szVal N x left = some v ∧ Szd v left (totTVal x) := by
  obtain ⟨w0, w1, w2⟩ := w
  unfold m_l_szVal
  unfold totTVal
  have hl2 := w2; unfold WfS maxLen at hl2
  have e2 : IntKind.i64.wrap (left - (x.S.size : Int)) = left - (x.S.size : Int) := wr (by omega) (by omega)
  simp only [e2]
  by_cases c2 : (left - (x.S.size : Int)) < 0
  · rw [if_pos (by simpa using c2)]; exact ⟨-1, rfl, .inl (by omega)⟩
  rw [if_neg (by simpa using c2)]
  exact ⟨_, rfl, .inr ⟨by omega, by omega⟩⟩
theorem sz_m_l_szValS {N : Nat} (hN : 1099511627776 ≤ N) (x : (List TVal)) (w : (WfL WfTVal) x) (left : Int) (h0 : 0 ≤ left) (h1 : left ≤ 1048576) : ∃ v, m_l_szValS N x left = some v ∧ Szd v left ((x.length : Int) + (x.map totTVal).sum) := by
  have hl := w.1; unfold maxLen at hl
  have e1 : IntKind.i64.wrap (left - (x.length : Int)) = left - (x.length : Int) := wr (by omega) (by omega)
  unfold m_l_szValS
  simp only [e1]
  by_cases c : left - (x.length : Int) < 0
  · rw [if_pos (by simpa using c)]; exact ⟨-1, rfl, .inl (by omega)⟩
  · rw [if_neg (by simpa using c)]
    obtain ⟨v, hv, hs⟩ := szloop (m_l_szValS_l1 N x) x (by omega) totTVal (fun y _ => totTVal_nn y) (fun y l => m_l_szVal N y l) (fun y hy l g0 g1 => sz_m_l_szVal hN y (w.2 y hy) l g0 g1) (fun k l i => rfl) N 0 (left - (x.length : Int)) (by omega) (by omega) (by omega) (by omega)
    refine ⟨v, hv, ?_⟩
    rw [List.drop_zero] at hs
    rcases hs with hs | ⟨hs0, hs⟩
    · exact .inl hs
    · exact .inr ⟨hs0, by omega⟩
theorem sz_m_l_szIntS {N : Nat} (hN : 1099511627776 ≤ N) (x : (List Int)) (w : (WfL (WfI .i64)) x) (left : Int) (h0 : 0 ≤ left) (h1 : left ≤ 1048576) : ∃ v, m_l_szIntS N x left = some v ∧ Szd v left ((x.length : Int)) := by
  have hl := w.1; unfold maxLen at hl
  have e1 : IntKind.i64.wrap (left - (x.length : Int)) = left - (x.length : Int) := wr (by omega) (by omega)
  unfold m_l_szIntS
  simp only [e1]
  by_cases c : left - (x.length : Int) < 0
  · rw [if_pos (by simpa using c)]; exact ⟨-1, rfl, .inl (by omega)⟩
  · rw [if_neg (by simpa using c)]
    exact ⟨_, rfl, .inr ⟨by omega, rfl⟩⟩
theorem sz_m_l_szAlpha {N : Nat} (hN : 1099511627776 ≤ N) (x : TAlpha) (w : WfTAlpha x) (left : Int) (h0 : 0 ≤ left) (h1 : left ≤ 1048576) : ∃ v, m_l_szAlpha N x left = some v ∧ Szd v left (totTAlpha x) := by
  obtain ⟨w0, w1, w2, w3⟩ := w
  unfold m_l_szAlpha
  unfold totTAlpha
  have := sum_nonneg totTVal x.Consts (fun y _ => totTVal_nn y)
  have hl0 := w0; unfold WfS maxLen at hl0
  have e0 : IntKind.i64.wrap (left - (x.Kind.size : Int)) = left - (x.Kind.size : Int) := wr (by omega) (by omega)
  simp only [e0]
  by_cases c0 : (left - (x.Kind.size : Int)) < 0
  · rw [if_pos (by simpa using c0)]; exact ⟨-1, rfl, .inl (by omega)⟩
  rw [if_neg (by simpa using c0)]
  obtain ⟨v2, hv2, hs2⟩ := sz_m_l_szValS hN x.Consts w2 (left - (x.Kind.size : Int)) (by omega) (by omega)
  rw [hv2]; simp only [Option.bind_some]
  by_cases c2 : v2 < 0
  · rw [if_pos (by simpa using c2)]; exact ⟨-1, rfl, .inl (by omega)⟩
  rw [if_neg (by simpa using c2)]
  replace hs2 := hs2.resolve_left c2
  obtain ⟨v3, hv3, hs3⟩ := sz_m_l_szIntS hN x.At w3 v2 (by omega) (by omega)
  rw [hv3]; simp only [Option.bind_some]
  by_cases c3 : v3 < 0
  · rw [if_pos (by simpa using c3)]; exact ⟨-1, rfl, .inl (by omega)⟩
  rw [if_neg (by simpa using c3)]
  replace hs3 := hs3.resolve_left c3
  exact ⟨_, rfl, .inr ⟨by omega, by omega⟩⟩
theorem sz_m_l_szAlphaS {N : Nat} (hN : 1099511627776 ≤ N) (x : (List TAlpha)) (w : (WfL WfTAlpha) x) (left : Int) (h0 : 0 ≤ left) (h1 : left ≤ 1048576) : ∃ v, m_l_szAlphaS N x left = some v ∧ Szd v left ((x.length : Int) + (x.map totTAlpha).sum) := by
  have hl := w.1; unfold maxLen at hl
  have e1 : IntKind.i64.wrap (left - (x.length : Int)) = left - (x.length : Int) := wr (by omega) (by omega)
  unfold m_l_szAlphaS
  simp only [e1]
  by_cases c : left - (x.length : Int) < 0
  · rw [if_pos (by simpa using c)]; exact ⟨-1, rfl, .inl (by omega)⟩
  · rw [if_neg (by simpa using c)]
    obtain ⟨v, hv, hs⟩ := szloop (m_l_szAlphaS_l1 N x) x (by omega) totTAlpha (fun y _ => totTAlpha_nn y) (fun y l => m_l_szAlpha N y l) (fun y hy l g0 g1 => sz_m_l_szAlpha hN y (w.2 y hy) l g0 g1) (fun k l i => rfl) N 0 (left - (x.length : Int)) (by omega) (by omega) (by omega) (by omega)
    refine ⟨v, hv, ?_⟩
    rw [List.drop_zero] at hs
    rcases hs with hs | ⟨hs0, hs⟩
    · exact .inl hs
    · exact .inr ⟨hs0, by omega⟩
theorem sz_m_l_szChain {N : Nat} (hN : 1099511627776 ≤ N) (x : TChain) (w : WfTChain x) (left : Int) (h0 : 0 ≤ left) (h1 : left ≤ 1048576) : ∃ v, m_l_szChain N x left = some v ∧ Szd v left (totTChain x) := by
  obtain ⟨w0, w1⟩ := w
  unfold m_l_szChain
  unfold totTChain
  obtain ⟨v0, hv0, hs0⟩ := sz_m_l_szIntS hN x.Pos w0 left (by omega) (by omega)
  rw [hv0]; simp only [Option.bind_some]
  by_cases c0 : v0 < 0
  · rw [if_pos (by simpa using c0)]; exact ⟨-1, rfl, .inl (by omega)⟩
  rw [if_neg (by simpa using c0)]
  replace hs0 := hs0.resolve_left c0
  obtain ⟨v1, hv1, hs1⟩ := sz_m_l_szIntS hN x.Neg w1 v0 (by omega) (by omega)
  rw [hv1]; simp only [Option.bind_some]
  by_cases c1 : v1 < 0
  · rw [if_pos (by simpa using c1)]; exact ⟨-1, rfl, .inl (by omega)⟩
  rw [if_neg (by simpa using c1)]
  replace hs1 := hs1.resolve_left c1
  exact ⟨_, rfl, .inr ⟨by omega, by omega⟩⟩
theorem sz_m_l_szChainS {N : Nat} (hN : 1099511627776 ≤ N) (x : (List TChain)) (w : (WfL WfTChain) x) (left : Int) (h0 : 0 ≤ left) (h1 : left ≤ 1048576) : ∃ v, m_l_szChainS N x left = some v ∧ Szd v left ((x.length : Int) + (x.map totTChain).sum) := by
  have hl := w.1; unfold maxLen at hl
  have e1 : IntKind.i64.wrap (left - (x.length : Int)) = left - (x.length : Int) := wr (by omega) (by omega)
  unfold m_l_szChainS
  simp only [e1]
  by_cases c : left - (x.length : Int) < 0
  · rw [if_pos (by simpa using c)]; exact ⟨-1, rfl, .inl (by omega)⟩
  · rw [if_neg (by simpa using c)]
    obtain ⟨v, hv, hs⟩ := szloop (m_l_szChainS_l1 N x) x (by omega) totTChain (fun y _ => totTChain_nn y) (fun y l => m_l_szChain N y l) (fun y hy l g0 g1 => sz_m_l_szChain hN y (w.2 y hy) l g0 g1) (fun k l i => rfl) N 0 (left - (x.length : Int)) (by omega) (by omega) (by omega) (by omega)
    refine ⟨v, hv, ?_⟩
    rw [List.drop_zero] at hs
    rcases hs with hs | ⟨hs0, hs⟩
    · exact .inl hs
    · exact .inr ⟨hs0, by omega⟩
theorem sz_m_l_szNet {N : Nat} (hN : 1099511627776 ≤ N) (x : TNet) (w : WfTNet x) (left : Int) (h0 : 0 ≤ left) (h1 : left ≤ 1048576) : ∃ v, m_l_szNet N x left = some v ∧ Szd v left (totTNet x) := by
  obtain ⟨w0, w1⟩ := w
  unfold m_l_szNet
  unfold totTNet
  have := sum_nonneg totTAlpha x.Alphas (fun y _ => totTAlpha_nn y)
  have := sum_nonneg totTChain x.Chains (fun y _ => totTChain_nn y)
  obtain ⟨v0, hv0, hs0⟩ := sz_m_l_szAlphaS hN x.Alphas w0 left (by omega) (by omega)
  rw [hv0]; simp only [Option.bind_some]
  by_cases c0 : v0 < 0
  · rw [if_pos (by simpa using c0)]; exact ⟨-1, rfl, .inl (by omega)⟩
  rw [if_neg (by simpa using c0)]
  replace hs0 := hs0.resolve_left c0
  obtain ⟨v1, hv1, hs1⟩ := sz_m_l_szChainS hN x.Chains w1 v0 (by omega) (by omega)
  rw [hv1]; simp only [Option.bind_some]
  by_cases c1 : v1 < 0
  · rw [if_pos (by simpa using c1)]; exact ⟨-1, rfl, .inl (by omega)⟩
  rw [if_neg (by simpa using c1)]
  replace hs1 := hs1.resolve_left c1
  exact ⟨_, rfl, .inr ⟨by omega, by omega⟩⟩
def LimTAlpha (x : TAlpha) : Prop := (x.Consts.length ≤ 4294967296) ∧ (x.At.length ≤ 4294967296)
theorem LimTAlpha_of (x : TAlpha) (h : totTAlpha x ≤ 1048576) : LimTAlpha x := by
  unfold totTAlpha at h
  have nn_Consts : ∀ y ∈ x.Consts, 0 ≤ totTVal y := fun y _ => totTVal_nn y
  have := sum_nonneg _ _ nn_Consts
  exact ⟨by omega, by omega⟩
def LimTChain (x : TChain) : Prop := (x.Pos.length ≤ 4294967296) ∧ (x.Neg.length ≤ 4294967296)
theorem LimTChain_of (x : TChain) (h : totTChain x ≤ 1048576) : LimTChain x := by
  unfold totTChain at h
  exact ⟨by omega, by omega⟩
def LimTNet (x : TNet) : Prop := (x.Alphas.length ≤ 4294967296 ∧ ∀ y ∈ x.Alphas, LimTAlpha y) ∧ (x.Chains.length ≤ 4294967296 ∧ ∀ y ∈ x.Chains, LimTChain y)
theorem LimTNet_of (x : TNet) (h : totTNet x ≤ 1048576) : LimTNet x := by
  unfold totTNet at h
  have nn_Alphas : ∀ y ∈ x.Alphas, 0 ≤ totTAlpha y := fun y _ => totTAlpha_nn y
  have := sum_nonneg _ _ nn_Alphas
  have nn_Chains : ∀ y ∈ x.Chains, 0 ≤ totTChain y := fun y _ => totTChain_nn y
  have := sum_nonneg _ _ nn_Chains
  exact ⟨⟨by omega, fun y hy => LimTAlpha_of y (by have := sum_mem _ _ nn_Alphas y hy; omega)⟩, ⟨by omega, fun y hy => LimTChain_of y (by have := sum_mem _ _ nn_Chains y hy; omega)⟩⟩
theorem to_m_l_toVal {N : Nat} (hN : 1099511627776 ≤ N) (x : TVal) : m_l_toVal N x = some x := by
  unfold m_l_toVal
  rfl
theorem to_m_l_toValS {N : Nat} (hN : 1099511627776 ≤ N) (x : (List TVal)) (h : (x.length ≤ 4294967296)) : m_l_toValS N x = some x := by
  have hl : x.length ≤ 4294967296 := h
  unfold m_l_toValS
  rw [mk_nat _ (by omega), Option.bind_some]
  refine (toloop (m_l_toValS_l1 N x) x (by omega) (fun y => m_l_toVal N y) (fun y hy => to_m_l_toVal hN y) (fun k s i => rfl) N 0 _ (by simp) (by omega) (by omega)).trans ?_
  simp
theorem to_m_l_toIntS {N : Nat} (hN : 1099511627776 ≤ N) (x : (List Int)) (h : (x.length ≤ 4294967296)) : m_l_toIntS N x = some x := by
  have hl : x.length ≤ 4294967296 := h
  unfold m_l_toIntS
  rw [mk_nat _ (by omega), Option.bind_some]
  refine (toloop (m_l_toIntS_l1 N x) x (by omega) (fun y => some y) (fun y _ => rfl) (fun k s i => rfl) N 0 _ (by simp) (by omega) (by omega)).trans ?_
  simp
theorem to_m_l_toAlpha {N : Nat} (hN : 1099511627776 ≤ N) (x : TAlpha) (h : LimTAlpha x) : m_l_toAlpha N x = some x := by
  unfold m_l_toAlpha
  rw [to_m_l_toValS hN _ (h.1), Option.bind_some, to_m_l_toIntS hN _ (h.2), Option.bind_some]
theorem to_m_l_toAlphaS {N : Nat} (hN : 1099511627776 ≤ N) (x : (List TAlpha)) (h : (x.length ≤ 4294967296 ∧ ∀ y ∈ x, LimTAlpha y)) : m_l_toAlphaS N x = some x := by
  have hl : x.length ≤ 4294967296 := h.1
  unfold m_l_toAlphaS
  rw [mk_nat _ (by omega), Option.bind_some]
  refine (toloop (m_l_toAlphaS_l1 N x) x (by omega) (fun y => m_l_toAlpha N y) (fun y hy => to_m_l_toAlpha hN y (h.2 y hy)) (fun k s i => rfl) N 0 _ (by simp) (by omega) (by omega)).trans ?_
  simp
theorem to_m_l_toChain {N : Nat} (hN : 1099511627776 ≤ N) (x : TChain) (h : LimTChain x) : m_l_toChain N x = some x := by
  unfold m_l_toChain
  rw [to_m_l_toIntS hN _ (h.1), Option.bind_some, to_m_l_toIntS hN _ (h.2), Option.bind_some]
theorem to_m_l_toChainS {N : Nat} (hN : 1099511627776 ≤ N) (x : (List TChain)) (h : (x.length ≤ 4294967296 ∧ ∀ y ∈ x, LimTChain y)) : m_l_toChainS N x = some x := by
  have hl : x.length ≤ 4294967296 := h.1
  unfold m_l_toChainS
  rw [mk_nat _ (by omega), Option.bind_some]
  refine (toloop (m_l_toChainS_l1 N x) x (by omega) (fun y => m_l_toChain N y) (fun y hy => to_m_l_toChain hN y (h.2 y hy)) (fun k s i => rfl) N 0 _ (by simp) (by omega) (by omega)).trans ?_
  simp
theorem to_m_l_toNet {N : Nat} (hN : 1099511627776 ≤ N) (x : TNet) (h : LimTNet x) : m_l_toNet N x = some x := by
  unfold m_l_toNet
  rw [to_m_l_toAlphaS hN _ (h.1), Option.bind_some, to_m_l_toChainS hN _ (h.2), Option.bind_some]
def LimTIds (x : TIds) : Prop := (x.L.length ≤ 4294967296)
theorem LimTIds_of (x : TIds) (h : totTIds x ≤ 1048576) : LimTIds x := by
  unfold totTIds at h
  unfold LimTIds; omega
def LimTTok (x : TTok) : Prop := (x.Ids.length ≤ 4294967296) ∧ (x.Hits.length ≤ 4294967296)
theorem LimTTok_of (x : TTok) (h : totTTok x ≤ 1048576) : LimTTok x := by
  unfold totTTok at h
  exact ⟨by omega, by omega⟩
def LimTLevel (x : TLevel) : Prop := (x.Toks.length ≤ 4294967296 ∧ ∀ y ∈ x.Toks, LimTTok y)
theorem LimTLevel_of (x : TLevel) (h : totTLevel x ≤ 1048576) : LimTLevel x := by
  unfold totTLevel at h
  have nn_Toks : ∀ y ∈ x.Toks, 0 ≤ totTTok y := fun y _ => totTTok_nn y
  have := sum_nonneg _ _ nn_Toks
  exact ⟨by omega, fun y hy => LimTTok_of y (by have := sum_mem _ _ nn_Toks y hy; omega)⟩
def LimTRow (x : TRow) : Prop := (x.Levels.length ≤ 4294967296 ∧ ∀ y ∈ x.Levels, LimTLevel y)
theorem LimTRow_of (x : TRow) (h : totTRow x ≤ 1048576) : LimTRow x := by
  unfold totTRow at h
  have nn_Levels : ∀ y ∈ x.Levels, 0 ≤ totTLevel y := fun y _ => totTLevel_nn y
  have := sum_nonneg _ _ nn_Levels
  exact ⟨by omega, fun y hy => LimTLevel_of y (by have := sum_mem _ _ nn_Levels y hy; omega)⟩
def LimTMem (x : TMem) : Prop := (x.Alphas.length ≤ 4294967296 ∧ ∀ y ∈ x.Alphas, LimTIds y) ∧ (x.Rules.length ≤ 4294967296 ∧ ∀ y ∈ x.Rules, LimTRow y)
theorem LimTMem_of (x : TMem) (h : totTMem x ≤ 1048576) : LimTMem x := by
  unfold totTMem at h
  have nn_Alphas : ∀ y ∈ x.Alphas, 0 ≤ totTIds y := fun y _ => totTIds_nn y
  have := sum_nonneg _ _ nn_Alphas
  have nn_Rules : ∀ y ∈ x.Rules, 0 ≤ totTRow y := fun y _ => totTRow_nn y
  have := sum_nonneg _ _ nn_Rules
  exact ⟨⟨by omega, fun y hy => LimTIds_of y (by have := sum_mem _ _ nn_Alphas y hy; omega)⟩, ⟨by omega, fun y hy => LimTRow_of y (by have := sum_mem _ _ nn_Rules y hy; omega)⟩⟩
theorem eq_m_l_eqIntS {N : Nat} (hN : 1099511627776 ≤ N) (x y : (List Int)) (h : (x.length ≤ 4294967296)) : m_l_eqIntS N x y = some (decide (x = y)) := by
  have hl : x.length ≤ 4294967296 := h
  unfold m_l_eqIntS
  by_cases c : x.length = y.length
  · rw [if_neg (by simp; omega)]
    refine (eqloop (m_l_eqIntS_l1 N x y) x y c (by omega) (fun a b => some (decide (a = b))) (fun a _ b _ => rfl) (fun k i => rfl) N 0 (by omega) (by omega)).trans ?_
    simp
  · rw [if_pos (by simp; omega)]
    have : ¬ x = y := fun e => c (by rw [e])
    simp [this]
theorem eq_m_l_eqIds {N : Nat} (hN : 1099511627776 ≤ N) (x y : TIds) (h : LimTIds x) : m_l_eqIds N x y = some (decide (x = y)) := by
  unfold m_l_eqIds
  rw [eq_m_l_eqIntS hN _ _ (h)]
  simp only [seq_eq, Option.bind_some]
  obtain ⟨a0⟩ := x; obtain ⟨b0⟩ := y
  simp only [TIds.mk.injEq]
  by_cases c0 : a0 = b0
  · subst c0
    simp
  · simp [c0]
theorem eq_m_l_eqIdsS {N : Nat} (hN : 1099511627776 ≤ N) (x y : (List TIds)) (h : (x.length ≤ 4294967296 ∧ ∀ y ∈ x, LimTIds y)) : m_l_eqIdsS N x y = some (decide (x = y)) := by
  have hl : x.length ≤ 4294967296 := h.1
  unfold m_l_eqIdsS
  by_cases c : x.length = y.length
  · rw [if_neg (by simp; omega)]
    refine (eqloop (m_l_eqIdsS_l1 N x y) x y c (by omega) (fun a b => m_l_eqIds N a b) (fun a ha b hb => eq_m_l_eqIds hN a b (h.2 a ha)) (fun k i => rfl) N 0 (by omega) (by omega)).trans ?_
    simp
  · rw [if_pos (by simp; omega)]
    have : ¬ x = y := fun e => c (by rw [e])
    simp [this]
theorem eq_m_l_eqTok {N : Nat} (hN : 1099511627776 ≤ N) (x y : TTok) (h : LimTTok x) : m_l_eqTok N x y = some (decide (x = y)) := by
  unfold m_l_eqTok
  rw [eq_m_l_eqIntS hN _ _ (h.1), eq_m_l_eqIntS hN _ _ (h.2)]
  simp only [seq_eq, Option.bind_some]
  obtain ⟨a0, a1⟩ := x; obtain ⟨b0, b1⟩ := y
  simp only [TTok.mk.injEq]
  by_cases c0 : a0 = b0
  · subst c0
    by_cases c1 : a1 = b1
    · subst c1
      simp
    · simp [c1]
  · simp [c0]
theorem eq_m_l_eqTokS {N : Nat} (hN : 1099511627776 ≤ N) (x y : (List TTok)) (h : (x.length ≤ 4294967296 ∧ ∀ y ∈ x, LimTTok y)) : m_l_eqTokS N x y = some (decide (x = y)) := by
  have hl : x.length ≤ 4294967296 := h.1
  unfold m_l_eqTokS
  by_cases c : x.length = y.length
  · rw [if_neg (by simp; omega)]
    refine (eqloop (m_l_eqTokS_l1 N x y) x y c (by omega) (fun a b => m_l_eqTok N a b) (fun a ha b hb => eq_m_l_eqTok hN a b (h.2 a ha)) (fun k i => rfl) N 0 (by omega) (by omega)).trans ?_
    simp
  · rw [if_pos (by simp; omega)]
    have : ¬ x = y := fun e => c (by rw [e])
    simp [this]
theorem eq_m_l_eqLevel {N : Nat} (hN : 1099511627776 ≤ N) (x y : TLevel) (h : LimTLevel x) : m_l_eqLevel N x y = some (decide (x = y)) := by
  unfold m_l_eqLevel
  rw [eq_m_l_eqTokS hN _ _ (h)]
  simp only [seq_eq, Option.bind_some]
  obtain ⟨a0⟩ := x; obtain ⟨b0⟩ := y
  simp only [TLevel.mk.injEq]
  by_cases c0 : a0 = b0
  · subst c0
    simp
  · simp [c0]
theorem eq_m_l_eqLevelS {N : Nat} (hN : 1099511627776 ≤ N) (x y : (List TLevel)) (h : (x.length ≤ 4294967296 ∧ ∀ y ∈ x, LimTLevel y)) : m_l_eqLevelS N x y = some (decide (x = y)) := by
  have hl : x.length ≤ 4294967296 := h.1
  unfold m_l_eqLevelS
  by_cases c : x.length = y.length
  · rw [if_neg (by simp; omega)]
    refine (eqloop (m_l_eqLevelS_l1 N x y) x y c (by omega) (fun a b => m_l_eqLevel N a b) (fun a ha b hb => eq_m_l_eqLevel hN a b (h.2 a ha)) (fun k i => rfl) N 0 (by omega) (by omega)).trans ?_
    simp
  · rw [if_pos (by simp; omega)]
    have : ¬ x = y := fun e => c (by rw [e])
    simp [this]
theorem eq_m_l_eqRow {N : Nat} (hN : 1099511627776 ≤ N) (x y : TRow) (h : LimTRow x) : m_l_eqRow N x y = some (decide (x = y)) := by
  unfold m_l_eqRow
  rw [eq_m_l_eqLevelS hN _ _ (h)]
  simp only [seq_eq, Option.bind_some]
  obtain ⟨a0⟩ := x; obtain ⟨b0⟩ := y
  simp only [TRow.mk.injEq]
  by_cases c0 : a0 = b0
  · subst c0
    simp
  · simp [c0]
theorem eq_m_l_eqRowS {N : Nat} (hN : 1099511627776 ≤ N) (x y : (List TRow)) (h : (x.length ≤ 4294967296 ∧ ∀ y ∈ x, LimTRow y)) : m_l_eqRowS N x y = some (decide (x = y)) := by
  have hl : x.length ≤ 4294967296 := h.1
  unfold m_l_eqRowS
  by_cases c : x.length = y.length
  · rw [if_neg (by simp; omega)]
    refine (eqloop (m_l_eqRowS_l1 N x y) x y c (by omega) (fun a b => m_l_eqRow N a b) (fun a ha b hb => eq_m_l_eqRow hN a b (h.2 a ha)) (fun k i => rfl) N 0 (by omega) (by omega)).trans ?_
    simp
  · rw [if_pos (by simp; omega)]
    have : ¬ x = y := fun e => c (by rw [e])
    simp [this]
theorem eq_m_l_eqMem {N : Nat} (hN : 1099511627776 ≤ N) (x y : TMem) (h : LimTMem x) : m_l_eqMem N x y = some (decide (x = y)) := by
  unfold m_l_eqMem
  rw [eq_m_l_eqIdsS hN _ _ (h.1), eq_m_l_eqRowS hN _ _ (h.2)]
  simp only [seq_eq, Option.bind_some]
  obtain ⟨a0, a1⟩ := x; obtain ⟨b0, b1⟩ := y
  simp only [TMem.mk.injEq]
  by_cases c0 : a0 = b0
  · subst c0
    by_cases c1 : a1 = b1
    · subst c1
      simp
    · simp [c1]
  · simp [c0]
theorem eq_m_l_eqVal {N : Nat} (hN : 1099511627776 ≤ N) (x y : TVal) : m_l_eqVal N x y = some (decide (x = y)) := by
  unfold m_l_eqVal
  simp only [seq_eq, Option.bind_some]
  obtain ⟨a0, a1, a2⟩ := x; obtain ⟨b0, b1, b2⟩ := y
  simp only [TVal.mk.injEq]
  by_cases c0 : a0 = b0
  · subst c0
    by_cases c1 : a1 = b1
    · subst c1
      by_cases c2 : a2 = b2
      · subst c2
        simp
      · simp [c2]
    · simp [c1]
  · simp [c0]
theorem eq_m_l_eqValS {N : Nat} (hN : 1099511627776 ≤ N) (x y : (List TVal)) (h : (x.length ≤ 4294967296)) : m_l_eqValS N x y = some (decide (x = y)) := by
  have hl : x.length ≤ 4294967296 := h
  unfold m_l_eqValS
  by_cases c : x.length = y.length
  · rw [if_neg (by simp; omega)]
    refine (eqloop (m_l_eqValS_l1 N x y) x y c (by omega) (fun a b => m_l_eqVal N a b) (fun a ha b hb => eq_m_l_eqVal hN a b) (fun k i => rfl) N 0 (by omega) (by omega)).trans ?_
    simp
  · rw [if_pos (by simp; omega)]
    have : ¬ x = y := fun e => c (by rw [e])
    simp [this]
theorem eq_m_l_eqAlpha {N : Nat} (hN : 1099511627776 ≤ N) (x y : TAlpha) (h : LimTAlpha x) : m_l_eqAlpha N x y = some (decide (x = y)) := by
  unfold m_l_eqAlpha
  rw [eq_m_l_eqValS hN _ _ (h.1), eq_m_l_eqIntS hN _ _ (h.2)]
  simp only [seq_eq, Option.bind_some]
  obtain ⟨a0, a1, a2, a3⟩ := x; obtain ⟨b0, b1, b2, b3⟩ := y
  simp only [TAlpha.mk.injEq]
  by_cases c0 : a0 = b0
  · subst c0
    by_cases c1 : a1 = b1
    · subst c1
      by_cases c2 : a2 = b2
      · subst c2
        by_cases c3 : a3 = b3
        · subst c3
          simp
        · simp [c3]
      · simp [c2]
    · simp [c1]
  · simp [c0]
theorem eq_m_l_eqAlphaS {N : Nat} (hN : 1099511627776 ≤ N) (x y : (List TAlpha)) (h : (x.length ≤ 4294967296 ∧ ∀ y ∈ x, LimTAlpha y)) : m_l_eqAlphaS N x y = some (decide (x = y)) := by
  have hl : x.length ≤ 4294967296 := h.1
  unfold m_l_eqAlphaS
  by_cases c : x.length = y.length
  · rw [if_neg (by simp; omega)]
    refine (eqloop (m_l_eqAlphaS_l1 N x y) x y c (by omega) (fun a b => m_l_eqAlpha N a b) (fun a ha b hb => eq_m_l_eqAlpha hN a b (h.2 a ha)) (fun k i => rfl) N 0 (by omega) (by omega)).trans ?_
    simp
  · rw [if_pos (by simp; omega)]
    have : ¬ x = y := fun e => c (by rw [e])
    simp [this]
theorem eq_m_l_eqChain {N : Nat} (hN : 1099511627776 ≤ N) (x y : TChain) (h : LimTChain x) : m_l_eqChain N x y = some (decide (x = y)) := by
  unfold m_l_eqChain
  rw [eq_m_l_eqIntS hN _ _ (h.1), eq_m_l_eqIntS hN _ _ (h.2)]
  simp only [seq_eq, Option.bind_some]
  obtain ⟨a0, a1⟩ := x; obtain ⟨b0, b1⟩ := y
  simp only [TChain.mk.injEq]
  by_cases c0 : a0 = b0
  · subst c0
    by_cases c1 : a1 = b1
    · subst c1
      simp
    · simp [c1]
  · simp [c0]
theorem eq_m_l_eqChainS {N : Nat} (hN : 1099511627776 ≤ N) (x y : (List TChain)) (h : (x.length ≤ 4294967296 ∧ ∀ y ∈ x, LimTChain y)) : m_l_eqChainS N x y = some (decide (x = y)) := by
  have hl : x.length ≤ 4294967296 := h.1
  unfold m_l_eqChainS
  by_cases c : x.length = y.length
  · rw [if_neg (by simp; omega)]
    refine (eqloop (m_l_eqChainS_l1 N x y) x y c (by omega) (fun a b => m_l_eqChain N a b) (fun a ha b hb => eq_m_l_eqChain hN a b (h.2 a ha)) (fun k i => rfl) N 0 (by omega) (by omega)).trans ?_
    simp
  · rw [if_pos (by simp; omega)]
    have : ¬ x = y := fun e => c (by rw [e])
    simp [this]
theorem eq_m_l_eqNet {N : Nat} (hN : 1099511627776 ≤ N) (x y : TNet) (h : LimTNet x) : m_l_eqNet N x y = some (decide (x = y)) := by
  unfold m_l_eqNet
  rw [eq_m_l_eqAlphaS hN _ _ (h.1), eq_m_l_eqChainS hN _ _ (h.2)]
  simp only [seq_eq, Option.bind_some]
  obtain ⟨a0, a1⟩ := x; obtain ⟨b0, b1⟩ := y
  simp only [TNet.mk.injEq]
  by_cases c0 : a0 = b0
  · subst c0
    by_cases c1 : a1 = b1
    · subst c1
      simp
    · simp [c1]
  · simp [c0]
theorem mtx {N : Nat} (hN : 1099511627776 ≤ N) (k : Int) (h0 : 0 ≤ k) (h1 : k ≤ big62) : ∃ t, m_l_markText N k = some t := by
  unfold m_l_markText
  by_cases c : k ≤ 0
  · rw [if_pos (by simpa using c)]; exact ⟨_, rfl⟩
  · rw [if_neg (by simpa using c)]
    obtain ⟨m, hm⟩ : ∃ m, N = 20 + 1 + m := ⟨N - 21, by omega⟩
    have := mtxloop (m_l_markText_l1 N) (fun n s t => by simp only [m_l_markText_l1]) 20 m k (⟨#[]⟩ : ByteArray) h0 h1 (by unfold big62 at h1; omega) (by decide)
    rw [← hm] at this; exact this
def cntTVal (x : TVal) : Int := 1 + 1 + 1
theorem cntTVal_nn (x : TVal) : 0 ≤ cntTVal x := by
  unfold cntTVal
  omega
theorem cntTVal_le (x : TVal) : cntTVal x ≤ 32 + 32 * (totTVal x) := by
  unfold cntTVal totTVal
  omega
def HdTVal (N : Nat) (x : TVal) (k : Int) : Prop := x.K = k ∧ x.N = (k + 1) ∧ m_l_markText N ((k + 1) + 1) = some x.S
def cntTAlpha (x : TAlpha) : Int := 1 + 1 + cntL cntTVal x.Consts + cntL one x.At
theorem cntTAlpha_nn (x : TAlpha) : 0 ≤ cntTAlpha x := by
  unfold cntTAlpha
  have := cntL_nn cntTVal_nn x.Consts
  have := cntL_nn one_nn x.At
  omega
theorem cntTAlpha_le (x : TAlpha) : cntTAlpha x ≤ 32 + 32 * (totTAlpha x) := by
  have := cntL_le (p := x.Consts) (tot := totTVal) (fun y _ => cntTVal_le y)
  have := sum_nonneg totTVal x.Consts (fun y _ => totTVal_nn y)
  have := cntL_le0 (cnt := one) (p := x.At) (fun y _ => by simp [one])
  unfold cntTAlpha totTAlpha
  omega
def HdTAlpha (N : Nat) (x : TAlpha) (k : Int) : Prop := m_l_markText N k = some x.Kind ∧ x.N = (k + 1) ∧ HdL (HdTVal N) cntTVal x.Consts ((k + 1) + 1) ∧ HdL (fun x k => x = k) one x.At (((k + 1) + 1) + cntL cntTVal x.Consts)
def cntTChain (x : TChain) : Int := cntL one x.Pos + cntL one x.Neg
theorem cntTChain_nn (x : TChain) : 0 ≤ cntTChain x := by
  unfold cntTChain
  have := cntL_nn one_nn x.Pos
  have := cntL_nn one_nn x.Neg
  omega
theorem cntTChain_le (x : TChain) : cntTChain x ≤ 32 + 32 * (totTChain x) := by
  have := cntL_le0 (cnt := one) (p := x.Pos) (fun y _ => by simp [one])
  have := cntL_le0 (cnt := one) (p := x.Neg) (fun y _ => by simp [one])
  unfold cntTChain totTChain
  omega
def HdTChain (N : Nat) (x : TChain) (k : Int) : Prop := HdL (fun x k => x = k) one x.Pos k ∧ HdL (fun x k => x = k) one x.Neg (k + cntL one x.Pos)
def cntTNet (x : TNet) : Int := cntL cntTAlpha x.Alphas + cntL cntTChain x.Chains
theorem cntTNet_nn (x : TNet) : 0 ≤ cntTNet x := by
  unfold cntTNet
  have := cntL_nn cntTAlpha_nn x.Alphas
  have := cntL_nn cntTChain_nn x.Chains
  omega
theorem cntTNet_le (x : TNet) : cntTNet x ≤ 32 + 32 * (totTNet x) := by
  have := cntL_le (p := x.Alphas) (tot := totTAlpha) (fun y _ => cntTAlpha_le y)
  have := sum_nonneg totTAlpha x.Alphas (fun y _ => totTAlpha_nn y)
  have := cntL_le (p := x.Chains) (tot := totTChain) (fun y _ => cntTChain_le y)
  have := sum_nonneg totTChain x.Chains (fun y _ => totTChain_nn y)
  unfold cntTNet totTNet
  omega
def HdTNet (N : Nat) (x : TNet) (k : Int) : Prop := HdL (HdTAlpha N) cntTAlpha x.Alphas k ∧ HdL (HdTChain N) cntTChain x.Chains (k + cntL cntTAlpha x.Alphas)
theorem mk_m_l_markValS {N : Nat} (hN : 1099511627776 ≤ N) (x : (List TVal)) (h : (x.length ≤ 4294967296)) (k : Int) (h0 : 0 ≤ k) (h1 : k + cntL cntTVal x ≤ big62) : ∃ ys, m_l_markValS N x k = some (k + cntL cntTVal x, ys) ∧ cntL cntTVal ys = cntL cntTVal x ∧ HdL (HdTVal N) cntTVal ys k ∧ (ys.length ≤ 4294967296) := by
  have hl : x.length ≤ 4294967296 := h
  obtain ⟨ys, a1, a2, a3, a4, a5⟩ := mkloop (m_l_markValS_l1 N) (HdTVal N) cntTVal (fun _ => True) cntTVal_nn (fun n s k i x hx hi hlt h0 h1 h => by
    unfold big62 at h1
    have hcnt : cntTVal x = 1 + 1 + 1 := rfl
    rw [hcnt] at h1
    have e0 : IntKind.i64.wrap (k + 1) = k + 1 := wr (by omega) (by omega)
    have e1 : IntKind.i64.wrap ((k + 1) + 1) = (k + 1) + 1 := wr (by omega) (by omega)
    obtain ⟨t2, m2⟩ := mtx hN ((k + 1) + 1) (by omega) (by unfold big62; omega)
    have e2 : IntKind.i64.wrap (((k + 1) + 1) + 1) = ((k + 1) + 1) + 1 := wr (by omega) (by omega)
    have cc : decide ((i : Int) < (s.length : Int)) = true := decide_eq_true hlt
    refine ⟨(⟨k, (k + 1), t2⟩ : TVal), ?_, ?_, ?_, ?_⟩
    · exact ⟨(by trivial), (by trivial), m2⟩
    · simp only [cntTVal]
    · exact trivial
    · have hp : (((k + 1) + 1) + 1) = k + cntTVal x := by omega
      rw [← hp, ← wr1 i (by omega)]
      simp only [m_l_markValS_l1, cc, if_true, show idx s (i : Int) = some x from by rw [idx_nat, hx], Option.bind_some, Int.toNat_natCast, e0, e1, m2, e2])
    (fun n s k i hi => by simp only [m_l_markValS_l1]; rw [if_neg (by simpa using hi)]) N 0 x k hl (by omega) (by omega) h0 (by simpa using h1) (fun _ _ => trivial)
  simp only [List.drop_zero, List.take_zero, List.nil_append] at a1 a3
  exact ⟨ys, a1, a3, a4, by omega⟩
theorem mk_m_l_markIntS {N : Nat} (hN : 1099511627776 ≤ N) (x : (List Int)) (h : (x.length ≤ 4294967296)) (k : Int) (h0 : 0 ≤ k) (h1 : k + cntL one x ≤ big62) : ∃ ys, m_l_markIntS N x k = some (k + cntL one x, ys) ∧ cntL one ys = cntL one x ∧ HdL (fun x k => x = k) one ys k ∧ (ys.length ≤ 4294967296) := by
  have hl : x.length ≤ 4294967296 := h
  obtain ⟨ys, a1, a2, a3, a4, a5⟩ := mkloop (m_l_markIntS_l1 N) (fun x k => x = k) one (fun _ => True) one_nn (fun n s k i x hx hi hlt h0 h1 h => by
    unfold big62 at h1
    simp only [one] at h1
    have e0 : IntKind.i64.wrap (k + 1) = k + 1 := wr (by omega) (by omega)
    have cc : decide ((i : Int) < (s.length : Int)) = true := decide_eq_true hlt
    refine ⟨k, (by trivial), rfl, trivial, ?_⟩
    · have hp : (k + 1) = k + one x := by rfl
      rw [← hp, ← wr1 i (by omega)]
      simp only [m_l_markIntS_l1, cc, if_true, show idx s (i : Int) = some x from by rw [idx_nat, hx], Option.bind_some, Int.toNat_natCast, e0])
    (fun n s k i hi => by simp only [m_l_markIntS_l1]; rw [if_neg (by simpa using hi)]) N 0 x k hl (by omega) (by omega) h0 (by simpa using h1) (fun _ _ => trivial)
  simp only [List.drop_zero, List.take_zero, List.nil_append] at a1 a3
  exact ⟨ys, a1, a3, a4, by omega⟩
theorem hd_m_l_heldIntS {N : Nat} (hN : 1099511627776 ≤ N) (x : (List Int)) (h : (x.length ≤ 4294967296)) (k : Int) (h0 : 0 ≤ k) (h1 : k + cntL one x ≤ big62) (hh : HdL (fun x k => x = k) one x k) : m_l_heldIntS N x k = some (k + cntL one x) := by
  have hl : x.length ≤ 4294967296 := h
  have := hdloop (m_l_heldIntS_l1 N x) x (fun x k => x = k) one (fun _ => True) one_nn hl (fun _ _ => trivial) (fun n k i y hx hi hlt h0 h1 h hy => by
    unfold big62 at h1
    simp only [one] at h1
    have q0 := hy
    have e0 : IntKind.i64.wrap (k + 1) = k + 1 := wr (by omega) (by omega)
    have cc : decide ((i : Int) < (x.length : Int)) = true := decide_eq_true hlt
    have hp : (k + 1) = k + one y := by rfl
    rw [← hp, ← wr1 i (by omega)]
    simp only [m_l_heldIntS_l1, cc, if_true, show idx x (i : Int) = some y from by rw [idx_nat, hx], Option.bind_some, seq_self, decide_true, bne_self_eq_false, Bool.not_true, Bool.false_eq_true, if_false, q0, e0])
    (fun n k i hi => by simp only [m_l_heldIntS_l1]; rw [if_neg (by simpa using hi)]) N 0 k (by omega) (by omega) h0 (by simpa using h1) (by simpa using hh)
  unfold m_l_heldIntS; simpa using this
theorem mk_m_l_markAlphaS {N : Nat} (hN : 1099511627776 ≤ N) (x : (List TAlpha)) (h : (x.length ≤ 4294967296 ∧ ∀ y ∈ x, LimTAlpha y)) (k : Int) (h0 : 0 ≤ k) (h1 : k + cntL cntTAlpha x ≤ big62) : ∃ ys, m_l_markAlphaS N x k = some (k + cntL cntTAlpha x, ys) ∧ cntL cntTAlpha ys = cntL cntTAlpha x ∧ HdL (HdTAlpha N) cntTAlpha ys k ∧ (ys.length ≤ 4294967296 ∧ ∀ y ∈ ys, LimTAlpha y) := by
  have hl : x.length ≤ 4294967296 := h.1
  obtain ⟨ys, a1, a2, a3, a4, a5⟩ := mkloop (m_l_markAlphaS_l1 N) (HdTAlpha N) cntTAlpha LimTAlpha cntTAlpha_nn (fun n s k i x hx hi hlt h0 h1 h => by
    unfold big62 at h1
    have hcnt : cntTAlpha x = 1 + 1 + cntL cntTVal x.Consts + cntL one x.At := rfl
    rw [hcnt] at h1
    have n2 := cntL_nn cntTVal_nn x.Consts
    have n3 := cntL_nn one_nn x.At
    obtain ⟨t0, m0⟩ := mtx hN k (by omega) (by unfold big62; omega)
    have e0 : IntKind.i64.wrap (k + 1) = k + 1 := wr (by omega) (by omega)
    have e1 : IntKind.i64.wrap ((k + 1) + 1) = (k + 1) + 1 := wr (by omega) (by omega)
    obtain ⟨y2, m2, c2, d2, l2⟩ := mk_m_l_markValS hN x.Consts (h.1) ((k + 1) + 1) (by omega) (by unfold big62; omega)
    obtain ⟨y3, m3, c3, d3, l3⟩ := mk_m_l_markIntS hN x.At (h.2) (((k + 1) + 1) + cntL cntTVal x.Consts) (by omega) (by unfold big62; omega)
    have cc : decide ((i : Int) < (s.length : Int)) = true := decide_eq_true hlt
    refine ⟨(⟨t0, (k + 1), y2, y3⟩ : TAlpha), ?_, ?_, ?_, ?_⟩
    · simp only [HdTAlpha, c2, c3]; exact ⟨m0, (by trivial), d2, d3⟩
    · simp only [cntTAlpha, c2, c3]
    · exact ⟨l2, l3⟩
    · have hp : ((((k + 1) + 1) + cntL cntTVal x.Consts) + cntL one x.At) = k + cntTAlpha x := by omega
      rw [← hp, ← wr1 i (by omega)]
      simp only [m_l_markAlphaS_l1, cc, if_true, show idx s (i : Int) = some x from by rw [idx_nat, hx], Option.bind_some, Int.toNat_natCast, m0, e0, e1, m2, m3])
    (fun n s k i hi => by simp only [m_l_markAlphaS_l1]; rw [if_neg (by simpa using hi)]) N 0 x k hl (by omega) (by omega) h0 (by simpa using h1) (h.2)
  simp only [List.drop_zero, List.take_zero, List.nil_append] at a1 a3
  exact ⟨ys, a1, a3, a4, ⟨by omega, a5⟩⟩
theorem mk_m_l_markChainS {N : Nat} (hN : 1099511627776 ≤ N) (x : (List TChain)) (h : (x.length ≤ 4294967296 ∧ ∀ y ∈ x, LimTChain y)) (k : Int) (h0 : 0 ≤ k) (h1 : k + cntL cntTChain x ≤ big62) : ∃ ys, m_l_markChainS N x k = some (k + cntL cntTChain x, ys) ∧ cntL cntTChain ys = cntL cntTChain x ∧ HdL (HdTChain N) cntTChain ys k ∧ (ys.length ≤ 4294967296 ∧ ∀ y ∈ ys, LimTChain y) := by
  have hl : x.length ≤ 4294967296 := h.1
  obtain ⟨ys, a1, a2, a3, a4, a5⟩ := mkloop (m_l_markChainS_l1 N) (HdTChain N) cntTChain LimTChain cntTChain_nn (fun n s k i x hx hi hlt h0 h1 h => by
    unfold big62 at h1
    have hcnt : cntTChain x = cntL one x.Pos + cntL one x.Neg := rfl
    rw [hcnt] at h1
    have n0 := cntL_nn one_nn x.Pos
    have n1 := cntL_nn one_nn x.Neg
    obtain ⟨y0, m0, c0, d0, l0⟩ := mk_m_l_markIntS hN x.Pos (h.1) k (by omega) (by unfold big62; omega)
    obtain ⟨y1, m1, c1, d1, l1⟩ := mk_m_l_markIntS hN x.Neg (h.2) (k + cntL one x.Pos) (by omega) (by unfold big62; omega)
    have cc : decide ((i : Int) < (s.length : Int)) = true := decide_eq_true hlt
    refine ⟨(⟨y0, y1⟩ : TChain), ?_, ?_, ?_, ?_⟩
    · simp only [HdTChain, c0, c1]; exact ⟨d0, d1⟩
    · simp only [cntTChain, c0, c1]
    · exact ⟨l0, l1⟩
    · have hp : ((k + cntL one x.Pos) + cntL one x.Neg) = k + cntTChain x := by omega
      rw [← hp, ← wr1 i (by omega)]
      simp only [m_l_markChainS_l1, cc, if_true, show idx s (i : Int) = some x from by rw [idx_nat, hx], Option.bind_some, Int.toNat_natCast, m0, m1])
    (fun n s k i hi => by simp only [m_l_markChainS_l1]; rw [if_neg (by simpa using hi)]) N 0 x k hl (by omega) (by omega) h0 (by simpa using h1) (h.2)
  simp only [List.drop_zero, List.take_zero, List.nil_append] at a1 a3
  exact ⟨ys, a1, a3, a4, ⟨by omega, a5⟩⟩
def mcnTNet (x : TNet) : Int := cntL cntTAlpha x.Alphas + cntL cntTChain x.Chains
theorem mcnTNet_nn (x : TNet) : 0 ≤ mcnTNet x := by
  unfold mcnTNet
  have := cntL_nn cntTAlpha_nn x.Alphas
  have := cntL_nn cntTChain_nn x.Chains
  omega
theorem mcnTNet_le (x : TNet) : mcnTNet x ≤ 32 + 32 * totTNet x := by
  have := cntTNet_le x; unfold cntTNet at this; unfold mcnTNet; omega
theorem mk_m_l_markNet {N : Nat} (hN : 1099511627776 ≤ N) (x : TNet) (h : LimTNet x) (k : Int) (h0 : 0 ≤ k) (h1 : k + mcnTNet x ≤ big62) : ∃ y0 y1, m_l_markNet N x k = some (k + mcnTNet x, y0, y1) := by
  unfold mcnTNet big62 at *
  have n0 := cntL_nn cntTAlpha_nn x.Alphas
  have n1 := cntL_nn cntTChain_nn x.Chains
  obtain ⟨y0, m0, c0, d0, l0⟩ := mk_m_l_markAlphaS hN x.Alphas (h.1) k (by omega) (by unfold big62; omega)
  obtain ⟨y1, m1, c1, d1, l1⟩ := mk_m_l_markChainS hN x.Chains (h.2) (k + cntL cntTAlpha x.Alphas) (by omega) (by unfold big62; omega)
  have hp : k + (cntL cntTAlpha x.Alphas + cntL cntTChain x.Chains) = ((k + cntL cntTAlpha x.Alphas) + cntL cntTChain x.Chains) := by omega
  refine ⟨y0, y1, ?_⟩
  · rw [hp]; simp only [m_l_markNet, Option.bind_some, m0, m1]
def cntTIds (x : TIds) : Int := cntL one x.L
theorem cntTIds_nn (x : TIds) : 0 ≤ cntTIds x := by
  unfold cntTIds
  have := cntL_nn one_nn x.L
  omega
theorem cntTIds_le (x : TIds) : cntTIds x ≤ 32 + 32 * (totTIds x) := by
  have := cntL_le0 (cnt := one) (p := x.L) (fun y _ => by simp [one])
  unfold cntTIds totTIds
  omega
def HdTIds (N : Nat) (x : TIds) (k : Int) : Prop := HdL (fun x k => x = k) one x.L k
def cntTTok (x : TTok) : Int := cntL one x.Ids + cntL one x.Hits
theorem cntTTok_nn (x : TTok) : 0 ≤ cntTTok x := by
  unfold cntTTok
  have := cntL_nn one_nn x.Ids
  have := cntL_nn one_nn x.Hits
  omega
theorem cntTTok_le (x : TTok) : cntTTok x ≤ 32 + 32 * (totTTok x) := by
  have := cntL_le0 (cnt := one) (p := x.Ids) (fun y _ => by simp [one])
  have := cntL_le0 (cnt := one) (p := x.Hits) (fun y _ => by simp [one])
  unfold cntTTok totTTok
  omega
def HdTTok (N : Nat) (x : TTok) (k : Int) : Prop := HdL (fun x k => x = k) one x.Ids k ∧ HdL (fun x k => x = k) one x.Hits (k + cntL one x.Ids)
def cntTLevel (x : TLevel) : Int := cntL cntTTok x.Toks
theorem cntTLevel_nn (x : TLevel) : 0 ≤ cntTLevel x := by
  unfold cntTLevel
  have := cntL_nn cntTTok_nn x.Toks
  omega
theorem cntTLevel_le (x : TLevel) : cntTLevel x ≤ 32 + 32 * (totTLevel x) := by
  have := cntL_le (p := x.Toks) (tot := totTTok) (fun y _ => cntTTok_le y)
  have := sum_nonneg totTTok x.Toks (fun y _ => totTTok_nn y)
  unfold cntTLevel totTLevel
  omega
def HdTLevel (N : Nat) (x : TLevel) (k : Int) : Prop := HdL (HdTTok N) cntTTok x.Toks k
def cntTRow (x : TRow) : Int := cntL cntTLevel x.Levels
theorem cntTRow_nn (x : TRow) : 0 ≤ cntTRow x := by
  unfold cntTRow
  have := cntL_nn cntTLevel_nn x.Levels
  omega
theorem cntTRow_le (x : TRow) : cntTRow x ≤ 32 + 32 * (totTRow x) := by
  have := cntL_le (p := x.Levels) (tot := totTLevel) (fun y _ => cntTLevel_le y)
  have := sum_nonneg totTLevel x.Levels (fun y _ => totTLevel_nn y)
  unfold cntTRow totTRow
  omega
def HdTRow (N : Nat) (x : TRow) (k : Int) : Prop := HdL (HdTLevel N) cntTLevel x.Levels k
def cntTMem (x : TMem) : Int := cntL cntTIds x.Alphas + cntL cntTRow x.Rules
theorem cntTMem_nn (x : TMem) : 0 ≤ cntTMem x := by
  unfold cntTMem
  have := cntL_nn cntTIds_nn x.Alphas
  have := cntL_nn cntTRow_nn x.Rules
  omega
theorem cntTMem_le (x : TMem) : cntTMem x ≤ 32 + 32 * (totTMem x) := by
  have := cntL_le (p := x.Alphas) (tot := totTIds) (fun y _ => cntTIds_le y)
  have := sum_nonneg totTIds x.Alphas (fun y _ => totTIds_nn y)
  have := cntL_le (p := x.Rules) (tot := totTRow) (fun y _ => cntTRow_le y)
  have := sum_nonneg totTRow x.Rules (fun y _ => totTRow_nn y)
  unfold cntTMem totTMem
  omega
def HdTMem (N : Nat) (x : TMem) (k : Int) : Prop := HdL (HdTIds N) cntTIds x.Alphas k ∧ HdL (HdTRow N) cntTRow x.Rules (k + cntL cntTIds x.Alphas)
theorem mk_m_l_markIdsS {N : Nat} (hN : 1099511627776 ≤ N) (x : (List TIds)) (h : (x.length ≤ 4294967296 ∧ ∀ y ∈ x, LimTIds y)) (k : Int) (h0 : 0 ≤ k) (h1 : k + cntL cntTIds x ≤ big62) : ∃ ys, m_l_markIdsS N x k = some (k + cntL cntTIds x, ys) ∧ cntL cntTIds ys = cntL cntTIds x ∧ HdL (HdTIds N) cntTIds ys k ∧ (ys.length ≤ 4294967296 ∧ ∀ y ∈ ys, LimTIds y) := by
  have hl : x.length ≤ 4294967296 := h.1
  obtain ⟨ys, a1, a2, a3, a4, a5⟩ := mkloop (m_l_markIdsS_l1 N) (HdTIds N) cntTIds LimTIds cntTIds_nn (fun n s k i x hx hi hlt h0 h1 h => by
    unfold big62 at h1
    have hcnt : cntTIds x = cntL one x.L := rfl
    rw [hcnt] at h1
    have n0 := cntL_nn one_nn x.L
    obtain ⟨y0, m0, c0, d0, l0⟩ := mk_m_l_markIntS hN x.L (h) k (by omega) (by unfold big62; omega)
    have cc : decide ((i : Int) < (s.length : Int)) = true := decide_eq_true hlt
    refine ⟨(⟨y0⟩ : TIds), ?_, ?_, ?_, ?_⟩
    · simp only [HdTIds, c0]; exact d0
    · simp only [cntTIds, c0]
    · exact l0
    · have hp : (k + cntL one x.L) = k + cntTIds x := by omega
      rw [← hp, ← wr1 i (by omega)]
      simp only [m_l_markIdsS_l1, cc, if_true, show idx s (i : Int) = some x from by rw [idx_nat, hx], Option.bind_some, Int.toNat_natCast, m0])
    (fun n s k i hi => by simp only [m_l_markIdsS_l1]; rw [if_neg (by simpa using hi)]) N 0 x k hl (by omega) (by omega) h0 (by simpa using h1) (h.2)
  simp only [List.drop_zero, List.take_zero, List.nil_append] at a1 a3
  exact ⟨ys, a1, a3, a4, ⟨by omega, a5⟩⟩
theorem hd_m_l_heldIdsS {N : Nat} (hN : 1099511627776 ≤ N) (x : (List TIds)) (h : (x.length ≤ 4294967296 ∧ ∀ y ∈ x, LimTIds y)) (k : Int) (h0 : 0 ≤ k) (h1 : k + cntL cntTIds x ≤ big62) (hh : HdL (HdTIds N) cntTIds x k) : m_l_heldIdsS N x k = some (k + cntL cntTIds x) := by
  have hl : x.length ≤ 4294967296 := h.1
  have := hdloop (m_l_heldIdsS_l1 N x) x (HdTIds N) cntTIds LimTIds cntTIds_nn hl (h.2) (fun n k i y hx hi hlt h0 h1 h hy => by
    unfold big62 at h1
    have hcnt : cntTIds y = cntL one y.L := rfl
    rw [hcnt] at h1
    have q0 := hy; simp only [HdTIds] at q0
    have n0 := cntL_nn one_nn y.L
    have m0 := hd_m_l_heldIntS hN y.L (h) k (by omega) (by unfold big62; omega) q0
    have p0 : decide ((k + cntL one y.L) < 0) = false := decide_eq_false (by omega)
    have cc : decide ((i : Int) < (x.length : Int)) = true := decide_eq_true hlt
    have hp : (k + cntL one y.L) = k + cntTIds y := by omega
    rw [← hp, ← wr1 i (by omega)]
    simp only [m_l_heldIdsS_l1, cc, if_true, show idx x (i : Int) = some y from by rw [idx_nat, hx], Option.bind_some, seq_self, decide_true, bne_self_eq_false, Bool.not_true, Bool.false_eq_true, if_false, m0, p0])
    (fun n k i hi => by simp only [m_l_heldIdsS_l1]; rw [if_neg (by simpa using hi)]) N 0 k (by omega) (by omega) h0 (by simpa using h1) (by simpa using hh)
  unfold m_l_heldIdsS; simpa using this
theorem mk_m_l_markTokS {N : Nat} (hN : 1099511627776 ≤ N) (x : (List TTok)) (h : (x.length ≤ 4294967296 ∧ ∀ y ∈ x, LimTTok y)) (k : Int) (h0 : 0 ≤ k) (h1 : k + cntL cntTTok x ≤ big62) : ∃ ys, m_l_markTokS N x k = some (k + cntL cntTTok x, ys) ∧ cntL cntTTok ys = cntL cntTTok x ∧ HdL (HdTTok N) cntTTok ys k ∧ (ys.length ≤ 4294967296 ∧ ∀ y ∈ ys, LimTTok y) := by
  have hl : x.length ≤ 4294967296 := h.1
  obtain ⟨ys, a1, a2, a3, a4, a5⟩ := mkloop (m_l_markTokS_l1 N) (HdTTok N) cntTTok LimTTok cntTTok_nn (fun n s k i x hx hi hlt h0 h1 h => by
    unfold big62 at h1
    have hcnt : cntTTok x = cntL one x.Ids + cntL one x.Hits := rfl
    rw [hcnt] at h1
    have n0 := cntL_nn one_nn x.Ids
    have n1 := cntL_nn one_nn x.Hits
    obtain ⟨y0, m0, c0, d0, l0⟩ := mk_m_l_markIntS hN x.Ids (h.1) k (by omega) (by unfold big62; omega)
    obtain ⟨y1, m1, c1, d1, l1⟩ := mk_m_l_markIntS hN x.Hits (h.2) (k + cntL one x.Ids) (by omega) (by unfold big62; omega)
    have cc : decide ((i : Int) < (s.length : Int)) = true := decide_eq_true hlt
    refine ⟨(⟨y0, y1⟩ : TTok), ?_, ?_, ?_, ?_⟩
    · simp only [HdTTok, c0, c1]; exact ⟨d0, d1⟩
    · simp only [cntTTok, c0, c1]
    · exact ⟨l0, l1⟩
    · have hp : ((k + cntL one x.Ids) + cntL one x.Hits) = k + cntTTok x := by omega
      rw [← hp, ← wr1 i (by omega)]
      simp only [m_l_markTokS_l1, cc, if_true, show idx s (i : Int) = some x from by rw [idx_nat, hx], Option.bind_some, Int.toNat_natCast, m0, m1])
    (fun n s k i hi => by simp only [m_l_markTokS_l1]; rw [if_neg (by simpa using hi)]) N 0 x k hl (by omega) (by omega) h0 (by simpa using h1) (h.2)
  simp only [List.drop_zero, List.take_zero, List.nil_append] at a1 a3
  exact ⟨ys, a1, a3, a4, ⟨by omega, a5⟩⟩
theorem hd_m_l_heldTokS {N : Nat} (hN : 1099511627776 ≤ N) (x : (List TTok)) (h : (x.length ≤ 4294967296 ∧ ∀ y ∈ x, LimTTok y)) (k : Int) (h0 : 0 ≤ k) (h1 : k + cntL cntTTok x ≤ big62) (hh : HdL (HdTTok N) cntTTok x k) : m_l_heldTokS N x k = some (k + cntL cntTTok x) := by
  have hl : x.length ≤ 4294967296 := h.1
  have := hdloop (m_l_heldTokS_l1 N x) x (HdTTok N) cntTTok LimTTok cntTTok_nn hl (h.2) (fun n k i y hx hi hlt h0 h1 h hy => by
    unfold big62 at h1
    have hcnt : cntTTok y = cntL one y.Ids + cntL one y.Hits := rfl
    rw [hcnt] at h1
    obtain ⟨q0, q1⟩ := hy
    have n0 := cntL_nn one_nn y.Ids
    have n1 := cntL_nn one_nn y.Hits
    have m0 := hd_m_l_heldIntS hN y.Ids (h.1) k (by omega) (by unfold big62; omega) q0
    have p0 : decide ((k + cntL one y.Ids) < 0) = false := decide_eq_false (by omega)
    have m1 := hd_m_l_heldIntS hN y.Hits (h.2) (k + cntL one y.Ids) (by omega) (by unfold big62; omega) q1
    have p1 : decide (((k + cntL one y.Ids) + cntL one y.Hits) < 0) = false := decide_eq_false (by omega)
    have cc : decide ((i : Int) < (x.length : Int)) = true := decide_eq_true hlt
    have hp : ((k + cntL one y.Ids) + cntL one y.Hits) = k + cntTTok y := by omega
    rw [← hp, ← wr1 i (by omega)]
    simp only [m_l_heldTokS_l1, cc, if_true, show idx x (i : Int) = some y from by rw [idx_nat, hx], Option.bind_some, seq_self, decide_true, bne_self_eq_false, Bool.not_true, Bool.false_eq_true, if_false, m0, p0, m1, p1])
    (fun n k i hi => by simp only [m_l_heldTokS_l1]; rw [if_neg (by simpa using hi)]) N 0 k (by omega) (by omega) h0 (by simpa using h1) (by simpa using hh)
  unfold m_l_heldTokS; simpa using this
theorem mk_m_l_markLevelS {N : Nat} (hN : 1099511627776 ≤ N) (x : (List TLevel)) (h : (x.length ≤ 4294967296 ∧ ∀ y ∈ x, LimTLevel y)) (k : Int) (h0 : 0 ≤ k) (h1 : k + cntL cntTLevel x ≤ big62) : ∃ ys, m_l_markLevelS N x k = some (k + cntL cntTLevel x, ys) ∧ cntL cntTLevel ys = cntL cntTLevel x ∧ HdL (HdTLevel N) cntTLevel ys k ∧ (ys.length ≤ 4294967296 ∧ ∀ y ∈ ys, LimTLevel y) := by
  have hl : x.length ≤ 4294967296 := h.1
  obtain ⟨ys, a1, a2, a3, a4, a5⟩ := mkloop (m_l_markLevelS_l1 N) (HdTLevel N) cntTLevel LimTLevel cntTLevel_nn (fun n s k i x hx hi hlt h0 h1 h => by
    unfold big62 at h1
    have hcnt : cntTLevel x = cntL cntTTok x.Toks := rfl
    rw [hcnt] at h1
    have n0 := cntL_nn cntTTok_nn x.Toks
    obtain ⟨y0, m0, c0, d0, l0⟩ := mk_m_l_markTokS hN x.Toks (h) k (by omega) (by unfold big62; omega)
    have cc : decide ((i : Int) < (s.length : Int)) = true := decide_eq_true hlt
    refine ⟨(⟨y0⟩ : TLevel), ?_, ?_, ?_, ?_⟩
    · simp only [HdTLevel, c0]; exact d0
    · simp only [cntTLevel, c0]
    · exact l0
    · have hp : (k + cntL cntTTok x.Toks) = k + cntTLevel x := by omega
      rw [← hp, ← wr1 i (by omega)]
      simp only [m_l_markLevelS_l1, cc, if_true, show idx s (i : Int) = some x from by rw [idx_nat, hx], Option.bind_some, Int.toNat_natCast, m0])
    (fun n s k i hi => by simp only [m_l_markLevelS_l1]; rw [if_neg (by simpa using hi)]) N 0 x k hl (by omega) (by omega) h0 (by simpa using h1) (h.2)
  simp only [List.drop_zero, List.take_zero, List.nil_append] at a1 a3
  exact ⟨ys, a1, a3, a4, ⟨by omega, a5⟩⟩
theorem hd_m_l_heldLevelS {N : Nat} (hN : 1099511627776 ≤ N) (x : (List TLevel)) (h : (x.length ≤ 4294967296 ∧ ∀ y ∈ x, LimTLevel y)) (k : Int) (h0 : 0 ≤ k) (h1 : k + cntL cntTLevel x ≤ big62) (hh : HdL (HdTLevel N) cntTLevel x k) : m_l_heldLevelS N x k = some (k + cntL cntTLevel x) := by
  have hl : x.length ≤ 4294967296 := h.1
  have := hdloop (m_l_heldLevelS_l1 N x) x (HdTLevel N) cntTLevel LimTLevel cntTLevel_nn hl (h.2) (fun n k i y hx hi hlt h0 h1 h hy => by
    unfold big62 at h1
    have hcnt : cntTLevel y = cntL cntTTok y.Toks := rfl
    rw [hcnt] at h1
    have q0 := hy; simp only [HdTLevel] at q0
    have n0 := cntL_nn cntTTok_nn y.Toks
    have m0 := hd_m_l_heldTokS hN y.Toks (h) k (by omega) (by unfold big62; omega) q0
    have p0 : decide ((k + cntL cntTTok y.Toks) < 0) = false := decide_eq_false (by omega)
    have cc : decide ((i : Int) < (x.length : Int)) = true := decide_eq_true hlt
    have hp : (k + cntL cntTTok y.Toks) = k + cntTLevel y := by omega
    rw [← hp, ← wr1 i (by omega)]
    simp only [m_l_heldLevelS_l1, cc, if_true, show idx x (i : Int) = some y from by rw [idx_nat, hx], Option.bind_some, seq_self, decide_true, bne_self_eq_false, Bool.not_true, Bool.false_eq_true, if_false, m0, p0])
    (fun n k i hi => by simp only [m_l_heldLevelS_l1]; rw [if_neg (by simpa using hi)]) N 0 k (by omega) (by omega) h0 (by simpa using h1) (by simpa using hh)
  unfold m_l_heldLevelS; simpa using this
theorem mk_m_l_markRowS {N : Nat} (hN : 1099511627776 ≤ N) (x : (List TRow)) (h : (x.length ≤ 4294967296 ∧ ∀ y ∈ x, LimTRow y)) (k : Int) (h0 : 0 ≤ k) (h1 : k + cntL cntTRow x ≤ big62) : ∃ ys, m_l_markRowS N x k = some (k + cntL cntTRow x, ys) ∧ cntL cntTRow ys = cntL cntTRow x ∧ HdL (HdTRow N) cntTRow ys k ∧ (ys.length ≤ 4294967296 ∧ ∀ y ∈ ys, LimTRow y) := by
  have hl : x.length ≤ 4294967296 := h.1
  obtain ⟨ys, a1, a2, a3, a4, a5⟩ := mkloop (m_l_markRowS_l1 N) (HdTRow N) cntTRow LimTRow cntTRow_nn (fun n s k i x hx hi hlt h0 h1 h => by
    unfold big62 at h1
    have hcnt : cntTRow x = cntL cntTLevel x.Levels := rfl
    rw [hcnt] at h1
    have n0 := cntL_nn cntTLevel_nn x.Levels
    obtain ⟨y0, m0, c0, d0, l0⟩ := mk_m_l_markLevelS hN x.Levels (h) k (by omega) (by unfold big62; omega)
    have cc : decide ((i : Int) < (s.length : Int)) = true := decide_eq_true hlt
    refine ⟨(⟨y0⟩ : TRow), ?_, ?_, ?_, ?_⟩
    · simp only [HdTRow, c0]; exact d0
    · simp only [cntTRow, c0]
    · exact l0
    · have hp : (k + cntL cntTLevel x.Levels) = k + cntTRow x := by omega
      rw [← hp, ← wr1 i (by omega)]
      simp only [m_l_markRowS_l1, cc, if_true, show idx s (i : Int) = some x from by rw [idx_nat, hx], Option.bind_some, Int.toNat_natCast, m0])
    (fun n s k i hi => by simp only [m_l_markRowS_l1]; rw [if_neg (by simpa using hi)]) N 0 x k hl (by omega) (by omega) h0 (by simpa using h1) (h.2)
  simp only [List.drop_zero, List.take_zero, List.nil_append] at a1 a3
  exact ⟨ys, a1, a3, a4, ⟨by omega, a5⟩⟩
theorem hd_m_l_heldRowS {N : Nat} (hN : 1099511627776 ≤ N) (x : (List TRow)) (h : (x.length ≤ 4294967296 ∧ ∀ y ∈ x, LimTRow y)) (k : Int) (h0 : 0 ≤ k) (h1 : k + cntL cntTRow x ≤ big62) (hh : HdL (HdTRow N) cntTRow x k) : m_l_heldRowS N x k = some (k + cntL cntTRow x) := by
  have hl : x.length ≤ 4294967296 := h.1
  have := hdloop (m_l_heldRowS_l1 N x) x (HdTRow N) cntTRow LimTRow cntTRow_nn hl (h.2) (fun n k i y hx hi hlt h0 h1 h hy => by
    unfold big62 at h1
    have hcnt : cntTRow y = cntL cntTLevel y.Levels := rfl
    rw [hcnt] at h1
    have q0 := hy; simp only [HdTRow] at q0
    have n0 := cntL_nn cntTLevel_nn y.Levels
    have m0 := hd_m_l_heldLevelS hN y.Levels (h) k (by omega) (by unfold big62; omega) q0
    have p0 : decide ((k + cntL cntTLevel y.Levels) < 0) = false := decide_eq_false (by omega)
    have cc : decide ((i : Int) < (x.length : Int)) = true := decide_eq_true hlt
    have hp : (k + cntL cntTLevel y.Levels) = k + cntTRow y := by omega
    rw [← hp, ← wr1 i (by omega)]
    simp only [m_l_heldRowS_l1, cc, if_true, show idx x (i : Int) = some y from by rw [idx_nat, hx], Option.bind_some, seq_self, decide_true, bne_self_eq_false, Bool.not_true, Bool.false_eq_true, if_false, m0, p0])
    (fun n k i hi => by simp only [m_l_heldRowS_l1]; rw [if_neg (by simpa using hi)]) N 0 k (by omega) (by omega) h0 (by simpa using h1) (by simpa using hh)
  unfold m_l_heldRowS; simpa using this
def mcnTMem (x : TMem) : Int := cntL cntTIds x.Alphas + cntL cntTRow x.Rules
theorem mcnTMem_nn (x : TMem) : 0 ≤ mcnTMem x := by
  unfold mcnTMem
  have := cntL_nn cntTIds_nn x.Alphas
  have := cntL_nn cntTRow_nn x.Rules
  omega
theorem mcnTMem_le (x : TMem) : mcnTMem x ≤ 32 + 32 * totTMem x := by
  have := cntTMem_le x; unfold cntTMem at this; unfold mcnTMem; omega
theorem mk_m_l_markMem {N : Nat} (hN : 1099511627776 ≤ N) (x : TMem) (h : LimTMem x) (k : Int) (h0 : 0 ≤ k) (h1 : k + mcnTMem x ≤ big62) : ∃ y0 y1, m_l_markMem N x k = some (k + mcnTMem x, y0, y1) ∧ m_l_heldMem N (⟨y0, y1⟩ : TMem) k = some (k + mcnTMem x) := by
  unfold mcnTMem big62 at *
  have n0 := cntL_nn cntTIds_nn x.Alphas
  have n1 := cntL_nn cntTRow_nn x.Rules
  obtain ⟨y0, m0, c0, d0, l0⟩ := mk_m_l_markIdsS hN x.Alphas (h.1) k (by omega) (by unfold big62; omega)
  have w0 := hd_m_l_heldIdsS hN y0 l0 k (by omega) (by rw [c0]; unfold big62; omega) d0
  rw [c0] at w0
  have p0 : decide ((k + cntL cntTIds x.Alphas) < 0) = false := decide_eq_false (by omega)
  obtain ⟨y1, m1, c1, d1, l1⟩ := mk_m_l_markRowS hN x.Rules (h.2) (k + cntL cntTIds x.Alphas) (by omega) (by unfold big62; omega)
  have w1 := hd_m_l_heldRowS hN y1 l1 (k + cntL cntTIds x.Alphas) (by omega) (by rw [c1]; unfold big62; omega) d1
  rw [c1] at w1
  have p1 : decide (((k + cntL cntTIds x.Alphas) + cntL cntTRow x.Rules) < 0) = false := decide_eq_false (by omega)
  have hp : k + (cntL cntTIds x.Alphas + cntL cntTRow x.Rules) = ((k + cntL cntTIds x.Alphas) + cntL cntTRow x.Rules) := by omega
  refine ⟨y0, y1, ?_, ?_⟩
  · rw [hp]; simp only [m_l_markMem, Option.bind_some, m0, m1]
  · rw [hp]; simp only [m_l_heldMem, Option.bind_some, Bool.false_eq_true, if_false, w0, p0, w1, p1]
end Go.Proofs.Ytjhlmnbkfdkmpaa
