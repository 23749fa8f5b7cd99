/- Printed by a program of ours: plain laws of the functions that count sizes, copy and compare. -/
import Derived.Test.YtpajhchhkfnieaaPLib
import Derived.Test.YtpajhchhkfnieaaPAMod
namespace Go.Proofs.Ytpajhchhkfnieaa
open Eng
set_option linter.unusedVariables false
set_option linter.unusedSimpArgs false

def WfTVal (x : TVal) : Prop := (WfI .i64) x.K ∧ (WfI .i64) x.N ∧ WfS x.S
def totTVal (x : TVal) : Int := ((x.S.size : Int))
theorem totTVal_nn (x : TVal) : 0 ≤ totTVal x := by
  unfold totTVal
  omega
def WfTAlpha (x : TAlpha) : Prop := WfS x.Kind ∧ (WfI .i64) x.N ∧ (WfL WfTVal) x.Consts ∧ (WfL (WfI .i64)) x.At
def totTAlpha (x : TAlpha) : Int := ((x.Kind.size : Int)) + ((x.Consts.length : Int) + (x.Consts.map totTVal).sum) + ((x.At.length : Int))
theorem totTAlpha_nn (x : TAlpha) : 0 ≤ totTAlpha x := by
  unfold totTAlpha
  have := sum_nonneg totTVal x.Consts (fun y _ => totTVal_nn y)
  omega
def WfTBind (x : TBind) : Prop := WfS x.Name ∧ WfTVal x.V
def totTBind (x : TBind) : Int := ((x.Name.size : Int)) + (totTVal x.V)
theorem totTBind_nn (x : TBind) : 0 ≤ totTBind x := by
  unfold totTBind
  have := totTVal_nn x.V
  omega
def WfTMatch (x : TMatch) : Prop := (WfI .i64) x.Rule ∧ (WfL (WfI .i64)) x.Ids ∧ (WfL WfTBind) x.Binds
def totTMatch (x : TMatch) : Int := ((x.Ids.length : Int)) + ((x.Binds.length : Int) + (x.Binds.map totTBind).sum)
theorem totTMatch_nn (x : TMatch) : 0 ≤ totTMatch x := by
  unfold totTMatch
  have := sum_nonneg totTBind x.Binds (fun y _ => totTBind_nn y)
  omega
def WfTFact (x : TFact) : Prop := WfS x.Kind ∧ (WfL WfTVal) x.Fields
def totTFact (x : TFact) : Int := ((x.Kind.size : Int)) + ((x.Fields.length : Int) + (x.Fields.map totTVal).sum)
theorem totTFact_nn (x : TFact) : 0 ≤ totTFact x := by
  unfold totTFact
  have := sum_nonneg totTVal x.Fields (fun y _ => totTVal_nn y)
  omega
def WfTEffect (x : TEffect) : Prop := (WfI .i64) x.Kind ∧ WfTFact x.F ∧ (WfI .i64) x.Id ∧ (WfI .i64) x.N ∧ WfS x.Undo
def totTEffect (x : TEffect) : Int := (totTFact x.F) + ((x.Undo.size : Int))
theorem totTEffect_nn (x : TEffect) : 0 ≤ totTEffect x := by
  unfold totTEffect
  have := totTFact_nn x.F
  omega
def WfTArg (x : TArg) : Prop := (WfI .i64) x.K ∧ WfS x.S ∧ WfTVal x.V
def totTArg (x : TArg) : Int := ((x.S.size : Int)) + (totTVal x.V)
theorem totTArg_nn (x : TArg) : 0 ≤ totTArg x := by
  unfold totTArg
  have := totTVal_nn x.V
  omega
def WfTExpr (x : TExpr) : Prop := WfS x.Op ∧ WfTArg x.L ∧ WfTArg x.R
def totTExpr (x : TExpr) : Int := ((x.Op.size : Int)) + (totTArg x.L) + (totTArg x.R)
theorem totTExpr_nn (x : TExpr) : 0 ≤ totTExpr x := by
  unfold totTExpr
  have := totTArg_nn x.L
  have := totTArg_nn x.R
  omega
theorem sz_m_l_szVal {N : Nat} (hN : 1048578 ≤ N) (x : TVal) (w : WfTVal x) (left : Int) (h0 : 0 ≤ left) (h1 : left ≤ 1048576) : ∃ v, m_l_szVal N x left = some v ∧ Szd v left (totTVal x) := by
  obtain ⟨w0, w1, w2⟩ := w
  unfold m_l_szVal
  unfold totTVal
  have hl2 := w2; unfold WfS maxLen at hl2
  have e2 : IntKind.i64.wrap (left - (x.S.size : Int)) = left - (x.S.size : Int) := wr (by omega) (by omega)
  simp only [e2]
  by_cases c2 : (left - (x.S.size : Int)) < 0
  · rw [if_pos (by simpa using c2)]; exact ⟨-1, rfl, .inl (by omega)⟩
  rw [if_neg (by simpa using c2)]
  exact ⟨_, rfl, .inr ⟨by omega, by omega⟩⟩
theorem sz_m_l_szValS {N : Nat} (hN : 1048578 ≤ N) (x : (List TVal)) (w : (WfL WfTVal) x) (left : Int) (h0 : 0 ≤ left) (h1 : left ≤ 1048576) : ∃ v, m_l_szValS N x left = some v ∧ Szd v left ((x.length : Int) + (x.map totTVal).sum) := by
  have hl := w.1; unfold maxLen at hl
  have e1 : IntKind.i64.wrap (left - (x.length : Int)) = left - (x.length : Int) := wr (by omega) (by omega)
  unfold m_l_szValS
  simp only [e1]
  by_cases c : left - (x.length : Int) < 0
  · rw [if_pos (by simpa using c)]; exact ⟨-1, rfl, .inl (by omega)⟩
  · rw [if_neg (by simpa using c)]
    obtain ⟨v, hv, hs⟩ := szloop (m_l_szValS_l1 N x) x (by omega) totTVal (fun y _ => totTVal_nn y) (fun y l => m_l_szVal N y l) (fun y hy l g0 g1 => sz_m_l_szVal hN y (w.2 y hy) l g0 g1) (fun k l i => rfl) N 0 (left - (x.length : Int)) (by omega) (by omega) (by omega) (by omega)
    refine ⟨v, hv, ?_⟩
    rw [List.drop_zero] at hs
    rcases hs with hs | ⟨hs0, hs⟩
    · exact .inl hs
    · exact .inr ⟨hs0, by omega⟩
theorem sz_m_l_szIntS {N : Nat} (hN : 1048578 ≤ N) (x : (List Int)) (w : (WfL (WfI .i64)) x) (left : Int) (h0 : 0 ≤ left) (h1 : left ≤ 1048576) : ∃ v, m_l_szIntS N x left = some v ∧ Szd v left ((x.length : Int)) := by
  have hl := w.1; unfold maxLen at hl
  have e1 : IntKind.i64.wrap (left - (x.length : Int)) = left - (x.length : Int) := wr (by omega) (by omega)
  unfold m_l_szIntS
  simp only [e1]
  by_cases c : left - (x.length : Int) < 0
  · rw [if_pos (by simpa using c)]; exact ⟨-1, rfl, .inl (by omega)⟩
  · rw [if_neg (by simpa using c)]
    exact ⟨_, rfl, .inr ⟨by omega, rfl⟩⟩
theorem sz_m_l_szAlpha {N : Nat} (hN : 1048578 ≤ N) (x : TAlpha) (w : WfTAlpha x) (left : Int) (h0 : 0 ≤ left) (h1 : left ≤ 1048576) : ∃ v, m_l_szAlpha N x left = some v ∧ Szd v left (totTAlpha x) := by
  obtain ⟨w0, w1, w2, w3⟩ := w
  unfold m_l_szAlpha
  unfold totTAlpha
  have := sum_nonneg totTVal x.Consts (fun y _ => totTVal_nn y)
  have hl0 := w0; unfold WfS maxLen at hl0
  have e0 : IntKind.i64.wrap (left - (x.Kind.size : Int)) = left - (x.Kind.size : Int) := wr (by omega) (by omega)
  simp only [e0]
  by_cases c0 : (left - (x.Kind.size : Int)) < 0
  · rw [if_pos (by simpa using c0)]; exact ⟨-1, rfl, .inl (by omega)⟩
  rw [if_neg (by simpa using c0)]
  obtain ⟨v2, hv2, hs2⟩ := sz_m_l_szValS hN x.Consts w2 (left - (x.Kind.size : Int)) (by omega) (by omega)
  rw [hv2]; simp only [Option.bind_some]
  by_cases c2 : v2 < 0
  · rw [if_pos (by simpa using c2)]; exact ⟨-1, rfl, .inl (by omega)⟩
  rw [if_neg (by simpa using c2)]
  replace hs2 := hs2.resolve_left c2
  obtain ⟨v3, hv3, hs3⟩ := sz_m_l_szIntS hN x.At w3 v2 (by omega) (by omega)
  rw [hv3]; simp only [Option.bind_some]
  by_cases c3 : v3 < 0
  · rw [if_pos (by simpa using c3)]; exact ⟨-1, rfl, .inl (by omega)⟩
  rw [if_neg (by simpa using c3)]
  replace hs3 := hs3.resolve_left c3
  exact ⟨_, rfl, .inr ⟨by omega, by omega⟩⟩
def LimTAlpha (x : TAlpha) : Prop := (x.Consts.length ≤ 1048576) ∧ (x.At.length ≤ 1048576)
theorem LimTAlpha_of (x : TAlpha) (h : totTAlpha x ≤ 1048576) : LimTAlpha x := by
  unfold totTAlpha at h
  have nn_Consts : ∀ y ∈ x.Consts, 0 ≤ totTVal y := fun y _ => totTVal_nn y
  have := sum_nonneg _ _ nn_Consts
  exact ⟨by omega, by omega⟩
theorem to_m_l_toVal {N : Nat} (hN : 1048578 ≤ N) (x : TVal) : m_l_toVal N x = some x := by
  unfold m_l_toVal
  rfl
theorem to_m_l_toValS {N : Nat} (hN : 1048578 ≤ N) (x : (List TVal)) (h : (x.length ≤ 1048576)) : m_l_toValS N x = some x := by
  have hl : x.length ≤ 1048576 := h
  unfold m_l_toValS
  rw [mk_nat _ (by omega), Option.bind_some]
  refine (toloop (m_l_toValS_l1 N x) x (by omega) (fun y => m_l_toVal N y) (fun y hy => to_m_l_toVal hN y) (fun k i s => rfl) N 0 _ (by simp) (by omega) (by omega)).trans ?_
  simp
theorem to_m_l_toIntS {N : Nat} (hN : 1048578 ≤ N) (x : (List Int)) (h : (x.length ≤ 1048576)) : m_l_toIntS N x = some x := by
  have hl : x.length ≤ 1048576 := h
  unfold m_l_toIntS
  rw [mk_nat _ (by omega), Option.bind_some]
  refine (toloop (m_l_toIntS_l1 N x) x (by omega) (fun y => some y) (fun y _ => rfl) (fun k i s => rfl) N 0 _ (by simp) (by omega) (by omega)).trans ?_
  simp
theorem to_m_l_toAlpha {N : Nat} (hN : 1048578 ≤ N) (x : TAlpha) (h : LimTAlpha x) : m_l_toAlpha N x = some x := by
  unfold m_l_toAlpha
  rw [to_m_l_toValS hN _ (h.1), Option.bind_some, to_m_l_toIntS hN _ (h.2), Option.bind_some]
theorem eq_m_l_eqVal {N : Nat} (hN : 1048578 ≤ N) (x y : TVal) : m_l_eqVal N x y = some (decide (x = y)) := by
  unfold m_l_eqVal
  simp only [seq_eq, Option.bind_some]
  obtain ⟨a0, a1, a2⟩ := x; obtain ⟨b0, b1, b2⟩ := y
  simp only [TVal.mk.injEq]
  by_cases c0 : a0 = b0
  · subst c0
    by_cases c1 : a1 = b1
    · subst c1
      by_cases c2 : a2 = b2
      · subst c2
        simp
      · simp [c2]
    · simp [c1]
  · simp [c0]
theorem eq_m_l_eqValS {N : Nat} (hN : 1048578 ≤ N) (x y : (List TVal)) (h : (x.length ≤ 1048576)) : m_l_eqValS N x y = some (decide (x = y)) := by
  have hl : x.length ≤ 1048576 := h
  unfold m_l_eqValS
  by_cases c : x.length = y.length
  · rw [if_neg (by simp; omega)]
    refine (eqloop (m_l_eqValS_l1 N x y) x y c (by omega) (fun a b => m_l_eqVal N a b) (fun a ha b hb => eq_m_l_eqVal hN a b) (fun k i => rfl) N 0 (by omega) (by omega)).trans ?_
    simp
  · rw [if_pos (by simp; omega)]
    have : ¬ x = y := fun e => c (by rw [e])
    simp [this]
theorem eq_m_l_eqIntS {N : Nat} (hN : 1048578 ≤ N) (x y : (List Int)) (h : (x.length ≤ 1048576)) : m_l_eqIntS N x y = some (decide (x = y)) := by
  have hl : x.length ≤ 1048576 := h
  unfold m_l_eqIntS
  by_cases c : x.length = y.length
  · rw [if_neg (by simp; omega)]
    refine (eqloop (m_l_eqIntS_l1 N x y) x y c (by omega) (fun a b => some (decide (a = b))) (fun a _ b _ => rfl) (fun k i => rfl) N 0 (by omega) (by omega)).trans ?_
    simp
  · rw [if_pos (by simp; omega)]
    have : ¬ x = y := fun e => c (by rw [e])
    simp [this]
theorem eq_m_l_eqAlpha {N : Nat} (hN : 1048578 ≤ N) (x y : TAlpha) (h : LimTAlpha x) : m_l_eqAlpha N x y = some (decide (x = y)) := by
  unfold m_l_eqAlpha
  rw [eq_m_l_eqValS hN _ _ (h.1), eq_m_l_eqIntS hN _ _ (h.2)]
  simp only [seq_eq, Option.bind_some]
  obtain ⟨a0, a1, a2, a3⟩ := x; obtain ⟨b0, b1, b2, b3⟩ := y
  simp only [TAlpha.mk.injEq]
  by_cases c0 : a0 = b0
  · subst c0
    by_cases c1 : a1 = b1
    · subst c1
      by_cases c2 : a2 = b2
      · subst c2
        by_cases c3 : a3 = b3
        · subst c3
          simp
        · simp [c3]
      · simp [c2]
    · simp [c1]
  · simp [c0]
theorem sz_m_l_szBind {N : Nat} (hN : 1048578 ≤ N) (x : TBind) (w : WfTBind x) (left : Int) (h0 : 0 ≤ left) (h1 : left ≤ 1048576) : ∃ v, m_l_szBind N x left = some v ∧ Szd v left (totTBind x) := by
  obtain ⟨w0, w1⟩ := w
  unfold m_l_szBind
  unfold totTBind
  have := totTVal_nn x.V
  have hl0 := w0; unfold WfS maxLen at hl0
  have e0 : IntKind.i64.wrap (left - (x.Name.size : Int)) = left - (x.Name.size : Int) := wr (by omega) (by omega)
  simp only [e0]
  by_cases c0 : (left - (x.Name.size : Int)) < 0
  · rw [if_pos (by simpa using c0)]; exact ⟨-1, rfl, .inl (by omega)⟩
  rw [if_neg (by simpa using c0)]
  obtain ⟨v1, hv1, hs1⟩ := sz_m_l_szVal hN x.V w1 (left - (x.Name.size : Int)) (by omega) (by omega)
  rw [hv1]; simp only [Option.bind_some]
  by_cases c1 : v1 < 0
  · rw [if_pos (by simpa using c1)]; exact ⟨-1, rfl, .inl (by omega)⟩
  rw [if_neg (by simpa using c1)]
  replace hs1 := hs1.resolve_left c1
  exact ⟨_, rfl, .inr ⟨by omega, by omega⟩⟩
theorem sz_m_l_szBindS {N : Nat} (hN : 1048578 ≤ N) (x : (List TBind)) (w : (WfL WfTBind) x) (left : Int) (h0 : 0 ≤ left) (h1 : left ≤ 1048576) : ∃ v, m_l_szBindS N x left = some v ∧ Szd v left ((x.length : Int) + (x.map totTBind).sum) := by
  have hl := w.1; unfold maxLen at hl
  have e1 : IntKind.i64.wrap (left - (x.length : Int)) = left - (x.length : Int) := wr (by omega) (by omega)
  unfold m_l_szBindS
  simp only [e1]
  by_cases c : left - (x.length : Int) < 0
  · rw [if_pos (by simpa using c)]; exact ⟨-1, rfl, .inl (by omega)⟩
  · rw [if_neg (by simpa using c)]
    obtain ⟨v, hv, hs⟩ := szloop (m_l_szBindS_l1 N x) x (by omega) totTBind (fun y _ => totTBind_nn y) (fun y l => m_l_szBind N y l) (fun y hy l g0 g1 => sz_m_l_szBind hN y (w.2 y hy) l g0 g1) (fun k l i => rfl) N 0 (left - (x.length : Int)) (by omega) (by omega) (by omega) (by omega)
    refine ⟨v, hv, ?_⟩
    rw [List.drop_zero] at hs
    rcases hs with hs | ⟨hs0, hs⟩
    · exact .inl hs
    · exact .inr ⟨hs0, by omega⟩
theorem sz_m_l_szMatch {N : Nat} (hN : 1048578 ≤ N) (x : TMatch) (w : WfTMatch x) (left : Int) (h0 : 0 ≤ left) (h1 : left ≤ 1048576) : ∃ v, m_l_szMatch N x left = some v ∧ Szd v left (totTMatch x) := by
  obtain ⟨w0, w1, w2⟩ := w
  unfold m_l_szMatch
  unfold totTMatch
  have := sum_nonneg totTBind x.Binds (fun y _ => totTBind_nn y)
  obtain ⟨v1, hv1, hs1⟩ := sz_m_l_szIntS hN x.Ids w1 left (by omega) (by omega)
  rw [hv1]; simp only [Option.bind_some]
  by_cases c1 : v1 < 0
  · rw [if_pos (by simpa using c1)]; exact ⟨-1, rfl, .inl (by omega)⟩
  rw [if_neg (by simpa using c1)]
  replace hs1 := hs1.resolve_left c1
  obtain ⟨v2, hv2, hs2⟩ := sz_m_l_szBindS hN x.Binds w2 v1 (by omega) (by omega)
  rw [hv2]; simp only [Option.bind_some]
  by_cases c2 : v2 < 0
  · rw [if_pos (by simpa using c2)]; exact ⟨-1, rfl, .inl (by omega)⟩
  rw [if_neg (by simpa using c2)]
  replace hs2 := hs2.resolve_left c2
  exact ⟨_, rfl, .inr ⟨by omega, by omega⟩⟩
def LimTMatch (x : TMatch) : Prop := (x.Ids.length ≤ 1048576) ∧ (x.Binds.length ≤ 1048576)
theorem LimTMatch_of (x : TMatch) (h : totTMatch x ≤ 1048576) : LimTMatch x := by
  unfold totTMatch at h
  have nn_Binds : ∀ y ∈ x.Binds, 0 ≤ totTBind y := fun y _ => totTBind_nn y
  have := sum_nonneg _ _ nn_Binds
  exact ⟨by omega, by omega⟩
theorem to_m_l_toBind {N : Nat} (hN : 1048578 ≤ N) (x : TBind) : m_l_toBind N x = some x := by
  unfold m_l_toBind
  rw [to_m_l_toVal hN _, Option.bind_some]
theorem to_m_l_toBindS {N : Nat} (hN : 1048578 ≤ N) (x : (List TBind)) (h : (x.length ≤ 1048576)) : m_l_toBindS N x = some x := by
  have hl : x.length ≤ 1048576 := h
  unfold m_l_toBindS
  rw [mk_nat _ (by omega), Option.bind_some]
  refine (toloop (m_l_toBindS_l1 N x) x (by omega) (fun y => m_l_toBind N y) (fun y hy => to_m_l_toBind hN y) (fun k i s => rfl) N 0 _ (by simp) (by omega) (by omega)).trans ?_
  simp
theorem to_m_l_toMatch {N : Nat} (hN : 1048578 ≤ N) (x : TMatch) (h : LimTMatch x) : m_l_toMatch N x = some x := by
  unfold m_l_toMatch
  rw [to_m_l_toIntS hN _ (h.1), Option.bind_some, to_m_l_toBindS hN _ (h.2), Option.bind_some]
theorem eq_m_l_eqBind {N : Nat} (hN : 1048578 ≤ N) (x y : TBind) : m_l_eqBind N x y = some (decide (x = y)) := by
  unfold m_l_eqBind
  rw [eq_m_l_eqVal hN _ _]
  simp only [seq_eq, Option.bind_some]
  obtain ⟨a0, a1⟩ := x; obtain ⟨b0, b1⟩ := y
  simp only [TBind.mk.injEq]
  by_cases c0 : a0 = b0
  · subst c0
    by_cases c1 : a1 = b1
    · subst c1
      simp
    · simp [c1]
  · simp [c0]
theorem eq_m_l_eqBindS {N : Nat} (hN : 1048578 ≤ N) (x y : (List TBind)) (h : (x.length ≤ 1048576)) : m_l_eqBindS N x y = some (decide (x = y)) := by
  have hl : x.length ≤ 1048576 := h
  unfold m_l_eqBindS
  by_cases c : x.length = y.length
  · rw [if_neg (by simp; omega)]
    refine (eqloop (m_l_eqBindS_l1 N x y) x y c (by omega) (fun a b => m_l_eqBind N a b) (fun a ha b hb => eq_m_l_eqBind hN a b) (fun k i => rfl) N 0 (by omega) (by omega)).trans ?_
    simp
  · rw [if_pos (by simp; omega)]
    have : ¬ x = y := fun e => c (by rw [e])
    simp [this]
theorem eq_m_l_eqMatch {N : Nat} (hN : 1048578 ≤ N) (x y : TMatch) (h : LimTMatch x) : m_l_eqMatch N x y = some (decide (x = y)) := by
  unfold m_l_eqMatch
  rw [eq_m_l_eqIntS hN _ _ (h.1), eq_m_l_eqBindS hN _ _ (h.2)]
  simp only [seq_eq, Option.bind_some]
  obtain ⟨a0, a1, a2⟩ := x; obtain ⟨b0, b1, b2⟩ := y
  simp only [TMatch.mk.injEq]
  by_cases c0 : a0 = b0
  · subst c0
    by_cases c1 : a1 = b1
    · subst c1
      by_cases c2 : a2 = b2
      · subst c2
        simp
      · simp [c2]
    · simp [c1]
  · simp [c0]
theorem sz_m_l_szFact {N : Nat} (hN : 1048578 ≤ N) (x : TFact) (w : WfTFact x) (left : Int) (h0 : 0 ≤ left) (h1 : left ≤ 1048576) : ∃ v, m_l_szFact N x left = some v ∧ Szd v left (totTFact x) := by
  obtain ⟨w0, w1⟩ := w
  unfold m_l_szFact
  unfold totTFact
  have := sum_nonneg totTVal x.Fields (fun y _ => totTVal_nn y)
  have hl0 := w0; unfold WfS maxLen at hl0
  have e0 : IntKind.i64.wrap (left - (x.Kind.size : Int)) = left - (x.Kind.size : Int) := wr (by omega) (by omega)
  simp only [e0]
  by_cases c0 : (left - (x.Kind.size : Int)) < 0
  · rw [if_pos (by simpa using c0)]; exact ⟨-1, rfl, .inl (by omega)⟩
  rw [if_neg (by simpa using c0)]
  obtain ⟨v1, hv1, hs1⟩ := sz_m_l_szValS hN x.Fields w1 (left - (x.Kind.size : Int)) (by omega) (by omega)
  rw [hv1]; simp only [Option.bind_some]
  by_cases c1 : v1 < 0
  · rw [if_pos (by simpa using c1)]; exact ⟨-1, rfl, .inl (by omega)⟩
  rw [if_neg (by simpa using c1)]
  replace hs1 := hs1.resolve_left c1
  exact ⟨_, rfl, .inr ⟨by omega, by omega⟩⟩
def LimTFact (x : TFact) : Prop := (x.Fields.length ≤ 1048576)
theorem LimTFact_of (x : TFact) (h : totTFact x ≤ 1048576) : LimTFact x := by
  unfold totTFact at h
  have nn_Fields : ∀ y ∈ x.Fields, 0 ≤ totTVal y := fun y _ => totTVal_nn y
  have := sum_nonneg _ _ nn_Fields
  unfold LimTFact; omega
theorem to_m_l_toFact {N : Nat} (hN : 1048578 ≤ N) (x : TFact) (h : LimTFact x) : m_l_toFact N x = some x := by
  unfold m_l_toFact
  rw [to_m_l_toValS hN _ (h), Option.bind_some]
theorem eq_m_l_eqFact {N : Nat} (hN : 1048578 ≤ N) (x y : TFact) (h : LimTFact x) : m_l_eqFact N x y = some (decide (x = y)) := by
  unfold m_l_eqFact
  rw [eq_m_l_eqValS hN _ _ (h)]
  simp only [seq_eq, Option.bind_some]
  obtain ⟨a0, a1⟩ := x; obtain ⟨b0, b1⟩ := y
  simp only [TFact.mk.injEq]
  by_cases c0 : a0 = b0
  · subst c0
    by_cases c1 : a1 = b1
    · subst c1
      simp
    · simp [c1]
  · simp [c0]
theorem sz_m_l_szEffect {N : Nat} (hN : 1048578 ≤ N) (x : TEffect) (w : WfTEffect x) (left : Int) (h0 : 0 ≤ left) (h1 : left ≤ 1048576) : ∃ v, m_l_szEffect N x left = some v ∧ Szd v left (totTEffect x) := by
  obtain ⟨w0, w1, w2, w3, w4⟩ := w
  unfold m_l_szEffect
  unfold totTEffect
  have := totTFact_nn x.F
  obtain ⟨v1, hv1, hs1⟩ := sz_m_l_szFact hN x.F w1 left (by omega) (by omega)
  rw [hv1]; simp only [Option.bind_some]
  by_cases c1 : v1 < 0
  · rw [if_pos (by simpa using c1)]; exact ⟨-1, rfl, .inl (by omega)⟩
  rw [if_neg (by simpa using c1)]
  replace hs1 := hs1.resolve_left c1
  have hl4 := w4; unfold WfS maxLen at hl4
  have e4 : IntKind.i64.wrap (v1 - (x.Undo.size : Int)) = v1 - (x.Undo.size : Int) := wr (by omega) (by omega)
  simp only [e4]
  by_cases c4 : (v1 - (x.Undo.size : Int)) < 0
  · rw [if_pos (by simpa using c4)]; exact ⟨-1, rfl, .inl (by omega)⟩
  rw [if_neg (by simpa using c4)]
  exact ⟨_, rfl, .inr ⟨by omega, by omega⟩⟩
def LimTEffect (x : TEffect) : Prop := LimTFact x.F
theorem LimTEffect_of (x : TEffect) (h : totTEffect x ≤ 1048576) : LimTEffect x := by
  unfold totTEffect at h
  have := totTFact_nn x.F
  exact LimTFact_of _ (by omega)
theorem to_m_l_toEffect {N : Nat} (hN : 1048578 ≤ N) (x : TEffect) (h : LimTEffect x) : m_l_toEffect N x = some x := by
  unfold m_l_toEffect
  rw [to_m_l_toFact hN _ (h), Option.bind_some]
theorem eq_m_l_eqEffect {N : Nat} (hN : 1048578 ≤ N) (x y : TEffect) (h : LimTEffect x) : m_l_eqEffect N x y = some (decide (x = y)) := by
  unfold m_l_eqEffect
  rw [eq_m_l_eqFact hN _ _ (h)]
  simp only [seq_eq, Option.bind_some]
  obtain ⟨a0, a1, a2, a3, a4⟩ := x; obtain ⟨b0, b1, b2, b3, b4⟩ := y
  simp only [TEffect.mk.injEq]
  by_cases c0 : a0 = b0
  · subst c0
    by_cases c1 : a1 = b1
    · subst c1
      by_cases c2 : a2 = b2
      · subst c2
        by_cases c3 : a3 = b3
        · subst c3
          by_cases c4 : a4 = b4
          · subst c4
            simp
          · simp [c4]
        · simp [c3]
      · simp [c2]
    · simp [c1]
  · simp [c0]
theorem sz_m_l_szArg {N : Nat} (hN : 1048578 ≤ N) (x : TArg) (w : WfTArg x) (left : Int) (h0 : 0 ≤ left) (h1 : left ≤ 1048576) : ∃ v, m_l_szArg N x left = some v ∧ Szd v left (totTArg x) := by
  obtain ⟨w0, w1, w2⟩ := w
  unfold m_l_szArg
  unfold totTArg
  have := totTVal_nn x.V
  have hl1 := w1; unfold WfS maxLen at hl1
  have e1 : IntKind.i64.wrap (left - (x.S.size : Int)) = left - (x.S.size : Int) := wr (by omega) (by omega)
  simp only [e1]
  by_cases c1 : (left - (x.S.size : Int)) < 0
  · rw [if_pos (by simpa using c1)]; exact ⟨-1, rfl, .inl (by omega)⟩
  rw [if_neg (by simpa using c1)]
  obtain ⟨v2, hv2, hs2⟩ := sz_m_l_szVal hN x.V w2 (left - (x.S.size : Int)) (by omega) (by omega)
  rw [hv2]; simp only [Option.bind_some]
  by_cases c2 : v2 < 0
  · rw [if_pos (by simpa using c2)]; exact ⟨-1, rfl, .inl (by omega)⟩
  rw [if_neg (by simpa using c2)]
  replace hs2 := hs2.resolve_left c2
  exact ⟨_, rfl, .inr ⟨by omega, by omega⟩⟩
theorem sz_m_l_szExpr {N : Nat} (hN : 1048578 ≤ N) (x : TExpr) (w : WfTExpr x) (left : Int) (h0 : 0 ≤ left) (h1 : left ≤ 1048576) : ∃ v, m_l_szExpr N x left = some v ∧ Szd v left (totTExpr x) := by
  obtain ⟨w0, w1, w2⟩ := w
  unfold m_l_szExpr
  unfold totTExpr
  have := totTArg_nn x.L
  have := totTArg_nn x.R
  have hl0 := w0; unfold WfS maxLen at hl0
  have e0 : IntKind.i64.wrap (left - (x.Op.size : Int)) = left - (x.Op.size : Int) := wr (by omega) (by omega)
  simp only [e0]
  by_cases c0 : (left - (x.Op.size : Int)) < 0
  · rw [if_pos (by simpa using c0)]; exact ⟨-1, rfl, .inl (by omega)⟩
  rw [if_neg (by simpa using c0)]
  obtain ⟨v1, hv1, hs1⟩ := sz_m_l_szArg hN x.L w1 (left - (x.Op.size : Int)) (by omega) (by omega)
  rw [hv1]; simp only [Option.bind_some]
  by_cases c1 : v1 < 0
  · rw [if_pos (by simpa using c1)]; exact ⟨-1, rfl, .inl (by omega)⟩
  rw [if_neg (by simpa using c1)]
  replace hs1 := hs1.resolve_left c1
  obtain ⟨v2, hv2, hs2⟩ := sz_m_l_szArg hN x.R w2 v1 (by omega) (by omega)
  rw [hv2]; simp only [Option.bind_some]
  by_cases c2 : v2 < 0
  · rw [if_pos (by simpa using c2)]; exact ⟨-1, rfl, .inl (by omega)⟩
  rw [if_neg (by simpa using c2)]
  replace hs2 := hs2.resolve_left c2
  exact ⟨_, rfl, .inr ⟨by omega, by omega⟩⟩
theorem to_m_l_toArg {N : Nat} (hN : 1048578 ≤ N) (x : TArg) : m_l_toArg N x = some x := by
  unfold m_l_toArg
  rw [to_m_l_toVal hN _, Option.bind_some]
theorem to_m_l_toExpr {N : Nat} (hN : 1048578 ≤ N) (x : TExpr) : m_l_toExpr N x = some x := by
  unfold m_l_toExpr
  rw [to_m_l_toArg hN _, Option.bind_some, to_m_l_toArg hN _, Option.bind_some]
end Go.Proofs.Ytpajhchhkfnieaa
