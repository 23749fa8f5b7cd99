/- Printed by a program of ours: plain laws of the functions that count sizes, copy and compare. -/
import Derived.Test.YtpajhchhkfnieaaPLib
import Derived.Test.YtpajhchhkfnieaaPCMod
namespace Go.Proofs.Ytpajhchhkfnieaa
open Eng
set_option linter.unusedVariables false
set_option linter.unusedSimpArgs false

def WfTVal (x : TVal) : Prop := (WfI .i64) x.K ∧ (WfI .i64) x.N ∧ WfS x.S
def totTVal (x : TVal) : Int := ((x.S.size : Int))
theorem totTVal_nn (x : TVal) : 0 ≤ totTVal x := by
  unfold totTVal
  omega
def WfTBind (x : TBind) : Prop := WfS x.Name ∧ WfTVal x.V
def totTBind (x : TBind) : Int := ((x.Name.size : Int)) + (totTVal x.V)
theorem totTBind_nn (x : TBind) : 0 ≤ totTBind x := by
  unfold totTBind
  have := totTVal_nn x.V
  omega
def WfTMatch (x : TMatch) : Prop := (WfI .i64) x.Rule ∧ (WfL (WfI .i64)) x.Ids ∧ (WfL WfTBind) x.Binds
def totTMatch (x : TMatch) : Int := ((x.Ids.length : Int)) + ((x.Binds.length : Int) + (x.Binds.map totTBind).sum)
theorem totTMatch_nn (x : TMatch) : 0 ≤ totTMatch x := by
  unfold totTMatch
  have := sum_nonneg totTBind x.Binds (fun y _ => totTBind_nn y)
  omega
theorem sz_m_l_szIntS {N : Nat} (hN : 1048578 ≤ N) (x : (List Int)) (w : (WfL (WfI .i64)) x) (left : Int) (h0 : 0 ≤ left) (h1 : left ≤ 1048576) : ∃ v, m_l_szIntS N x left = some v ∧ Szd v left ((x.length : Int)) := by
  have hl := w.1; unfold maxLen at hl
  have e1 : IntKind.i64.wrap (left - (x.length : Int)) = left - (x.length : Int) := wr (by omega) (by omega)
  unfold m_l_szIntS
  simp only [e1]
  by_cases c : left - (x.length : Int) < 0
  · rw [if_pos (by simpa using c)]; exact ⟨-1, rfl, .inl (by omega)⟩
  · rw [if_neg (by simpa using c)]
    exact ⟨_, rfl, .inr ⟨by omega, rfl⟩⟩
theorem sz_m_l_szVal {N : Nat} (hN : 1048578 ≤ N) (x : TVal) (w : WfTVal x) (left : Int) (h0 : 0 ≤ left) (h1 : left ≤ 1048576) : ∃ v, m_l_szVal N x left = some v ∧ Szd v left (totTVal x) := by
  obtain ⟨w0, w1, w2⟩ := w
  unfold m_l_szVal
  unfold totTVal
  have hl2 := w2; unfold WfS maxLen at hl2
  have e2 : IntKind.i64.wrap (left - (x.S.size : Int)) = left - (x.S.size : Int) := wr (by omega) (by omega)
  simp only [e2]
  by_cases c2 : (left - (x.S.size : Int)) < 0
  · rw [if_pos (by simpa using c2)]; exact ⟨-1, rfl, .inl (by omega)⟩
  rw [if_neg (by simpa using c2)]
  exact ⟨_, rfl, .inr ⟨by omega, by omega⟩⟩
theorem sz_m_l_szBind {N : Nat} (hN : 1048578 ≤ N) (x : TBind) (w : WfTBind x) (left : Int) (h0 : 0 ≤ left) (h1 : left ≤ 1048576) : ∃ v, m_l_szBind N x left = some v ∧ Szd v left (totTBind x) := by
  obtain ⟨w0, w1⟩ := w
  unfold m_l_szBind
  unfold totTBind
  have := totTVal_nn x.V
  have hl0 := w0; unfold WfS maxLen at hl0
  have e0 : IntKind.i64.wrap (left - (x.Name.size : Int)) = left - (x.Name.size : Int) := wr (by omega) (by omega)
  simp only [e0]
  by_cases c0 : (left - (x.Name.size : Int)) < 0
  · rw [if_pos (by simpa using c0)]; exact ⟨-1, rfl, .inl (by omega)⟩
  rw [if_neg (by simpa using c0)]
  obtain ⟨v1, hv1, hs1⟩ := sz_m_l_szVal hN x.V w1 (left - (x.Name.size : Int)) (by omega) (by omega)
  rw [hv1]; simp only [Option.bind_some]
  by_cases c1 : v1 < 0
  · rw [if_pos (by simpa using c1)]; exact ⟨-1, rfl, .inl (by omega)⟩
  rw [if_neg (by simpa using c1)]
  replace hs1 := hs1.resolve_left c1
  exact ⟨_, rfl, .inr ⟨by omega, by omega⟩⟩
theorem sz_m_l_szBindS {N : Nat} (hN : 1048578 ≤ N) (x : (List TBind)) (w : (WfL WfTBind) x) (left : Int) (h0 : 0 ≤ left) (h1 : left ≤ 1048576) : ∃ v, m_l_szBindS N x left = some v ∧ Szd v left ((x.length : Int) + (x.map totTBind).sum) := by
  have hl := w.1; unfold maxLen at hl
  have e1 : IntKind.i64.wrap (left - (x.length : Int)) = left - (x.length : Int) := wr (by omega) (by omega)
  unfold m_l_szBindS
  simp only [e1]
  by_cases c : left - (x.length : Int) < 0
  · rw [if_pos (by simpa using c)]; exact ⟨-1, rfl, .inl (by omega)⟩
  · rw [if_neg (by simpa using c)]
    obtain ⟨v, hv, hs⟩ := szloop (m_l_szBindS_l1 N x) x (by omega) totTBind (fun y _ => totTBind_nn y) (fun y l => m_l_szBind N y l) (fun y hy l g0 g1 => sz_m_l_szBind hN y (w.2 y hy) l g0 g1) (fun k l i => rfl) N 0 (left - (x.length : Int)) (by omega) (by omega) (by omega) (by omega)
    refine ⟨v, hv, ?_⟩
    rw [List.drop_zero] at hs
    rcases hs with hs | ⟨hs0, hs⟩
    · exact .inl hs
    · exact .inr ⟨hs0, by omega⟩
theorem sz_m_l_szMatch {N : Nat} (hN : 1048578 ≤ N) (x : TMatch) (w : WfTMatch x) (left : Int) (h0 : 0 ≤ left) (h1 : left ≤ 1048576) : ∃ v, m_l_szMatch N x left = some v ∧ Szd v left (totTMatch x) := by
  obtain ⟨w0, w1, w2⟩ := w
  unfold m_l_szMatch
  unfold totTMatch
  have := sum_nonneg totTBind x.Binds (fun y _ => totTBind_nn y)
  obtain ⟨v1, hv1, hs1⟩ := sz_m_l_szIntS hN x.Ids w1 left (by omega) (by omega)
  rw [hv1]; simp only [Option.bind_some]
  by_cases c1 : v1 < 0
  · rw [if_pos (by simpa using c1)]; exact ⟨-1, rfl, .inl (by omega)⟩
  rw [if_neg (by simpa using c1)]
  replace hs1 := hs1.resolve_left c1
  obtain ⟨v2, hv2, hs2⟩ := sz_m_l_szBindS hN x.Binds w2 v1 (by omega) (by omega)
  rw [hv2]; simp only [Option.bind_some]
  by_cases c2 : v2 < 0
  · rw [if_pos (by simpa using c2)]; exact ⟨-1, rfl, .inl (by omega)⟩
  rw [if_neg (by simpa using c2)]
  replace hs2 := hs2.resolve_left c2
  exact ⟨_, rfl, .inr ⟨by omega, by omega⟩⟩
def LimTMatch (x : TMatch) : Prop := (x.Ids.length ≤ 1048576) ∧ (x.Binds.length ≤ 1048576)
theorem LimTMatch_of (x : TMatch) (h : totTMatch x ≤ 1048576) : LimTMatch x := by
  unfold totTMatch at h
  have nn_Binds : ∀ y ∈ x.Binds, 0 ≤ totTBind y := fun y _ => totTBind_nn y
  have := sum_nonneg _ _ nn_Binds
  exact ⟨by omega, by omega⟩
theorem to_m_l_toIntS {N : Nat} (hN : 1048578 ≤ N) (x : (List Int)) (h : (x.length ≤ 1048576)) : m_l_toIntS N x = some x := by
  have hl : x.length ≤ 1048576 := h
  unfold m_l_toIntS
  rw [mk_nat _ (by omega), Option.bind_some]
  refine (toloop (m_l_toIntS_l1 N x) x (by omega) (fun y => some y) (fun y _ => rfl) (fun k i s => rfl) N 0 _ (by simp) (by omega) (by omega)).trans ?_
  simp
theorem to_m_l_toVal {N : Nat} (hN : 1048578 ≤ N) (x : TVal) : m_l_toVal N x = some x := by
  unfold m_l_toVal
  rfl
theorem to_m_l_toBind {N : Nat} (hN : 1048578 ≤ N) (x : TBind) : m_l_toBind N x = some x := by
  unfold m_l_toBind
  rw [to_m_l_toVal hN _, Option.bind_some]
theorem to_m_l_toBindS {N : Nat} (hN : 1048578 ≤ N) (x : (List TBind)) (h : (x.length ≤ 1048576)) : m_l_toBindS N x = some x := by
  have hl : x.length ≤ 1048576 := h
  unfold m_l_toBindS
  rw [mk_nat _ (by omega), Option.bind_some]
  refine (toloop (m_l_toBindS_l1 N x) x (by omega) (fun y => m_l_toBind N y) (fun y hy => to_m_l_toBind hN y) (fun k i s => rfl) N 0 _ (by simp) (by omega) (by omega)).trans ?_
  simp
theorem to_m_l_toMatch {N : Nat} (hN : 1048578 ≤ N) (x : TMatch) (h : LimTMatch x) : m_l_toMatch N x = some x := by
  unfold m_l_toMatch
  rw [to_m_l_toIntS hN _ (h.1), Option.bind_some, to_m_l_toBindS hN _ (h.2), Option.bind_some]
theorem eq_m_l_eqIntS {N : Nat} (hN : 1048578 ≤ N) (x y : (List Int)) (h : (x.length ≤ 1048576)) : m_l_eqIntS N x y = some (decide (x = y)) := by
  have hl : x.length ≤ 1048576 := h
  unfold m_l_eqIntS
  by_cases c : x.length = y.length
  · rw [if_neg (by simp; omega)]
    refine (eqloop (m_l_eqIntS_l1 N x y) x y c (by omega) (fun a b => some (decide (a = b))) (fun a _ b _ => rfl) (fun k i => rfl) N 0 (by omega) (by omega)).trans ?_
    simp
  · rw [if_pos (by simp; omega)]
    have : ¬ x = y := fun e => c (by rw [e])
    simp [this]
theorem eq_m_l_eqVal {N : Nat} (hN : 1048578 ≤ N) (x y : TVal) : m_l_eqVal N x y = some (decide (x = y)) := by
  unfold m_l_eqVal
  simp only [seq_eq, Option.bind_some]
  obtain ⟨a0, a1, a2⟩ := x; obtain ⟨b0, b1, b2⟩ := y
  simp only [TVal.mk.injEq]
  by_cases c0 : a0 = b0
  · subst c0
    by_cases c1 : a1 = b1
    · subst c1
      by_cases c2 : a2 = b2
      · subst c2
        simp
      · simp [c2]
    · simp [c1]
  · simp [c0]
theorem eq_m_l_eqBind {N : Nat} (hN : 1048578 ≤ N) (x y : TBind) : m_l_eqBind N x y = some (decide (x = y)) := by
  unfold m_l_eqBind
  rw [eq_m_l_eqVal hN _ _]
  simp only [seq_eq, Option.bind_some]
  obtain ⟨a0, a1⟩ := x; obtain ⟨b0, b1⟩ := y
  simp only [TBind.mk.injEq]
  by_cases c0 : a0 = b0
  · subst c0
    by_cases c1 : a1 = b1
    · subst c1
      simp
    · simp [c1]
  · simp [c0]
theorem eq_m_l_eqBindS {N : Nat} (hN : 1048578 ≤ N) (x y : (List TBind)) (h : (x.length ≤ 1048576)) : m_l_eqBindS N x y = some (decide (x = y)) := by
  have hl : x.length ≤ 1048576 := h
  unfold m_l_eqBindS
  by_cases c : x.length = y.length
  · rw [if_neg (by simp; omega)]
    refine (eqloop (m_l_eqBindS_l1 N x y) x y c (by omega) (fun a b => m_l_eqBind N a b) (fun a ha b hb => eq_m_l_eqBind hN a b) (fun k i => rfl) N 0 (by omega) (by omega)).trans ?_
    simp
  · rw [if_pos (by simp; omega)]
    have : ¬ x = y := fun e => c (by rw [e])
    simp [this]
theorem eq_m_l_eqMatch {N : Nat} (hN : 1048578 ≤ N) (x y : TMatch) (h : LimTMatch x) : m_l_eqMatch N x y = some (decide (x = y)) := by
  unfold m_l_eqMatch
  rw [eq_m_l_eqIntS hN _ _ (h.1), eq_m_l_eqBindS hN _ _ (h.2)]
  simp only [seq_eq, Option.bind_some]
  obtain ⟨a0, a1, a2⟩ := x; obtain ⟨b0, b1, b2⟩ := y
  simp only [TMatch.mk.injEq]
  by_cases c0 : a0 = b0
  · subst c0
    by_cases c1 : a1 = b1
    · subst c1
      by_cases c2 : a2 = b2
      · subst c2
        simp
      · simp [c2]
    · simp [c1]
  · simp [c0]
theorem sz_m_l_szMatchS {N : Nat} (hN : 1048578 ≤ N) (x : (List TMatch)) (w : (WfL WfTMatch) x) (left : Int) (h0 : 0 ≤ left) (h1 : left ≤ 1048576) : ∃ v, m_l_szMatchS N x left = some v ∧ Szd v left ((x.length : Int) + (x.map totTMatch).sum) := by
  have hl := w.1; unfold maxLen at hl
  have e1 : IntKind.i64.wrap (left - (x.length : Int)) = left - (x.length : Int) := wr (by omega) (by omega)
  unfold m_l_szMatchS
  simp only [e1]
  by_cases c : left - (x.length : Int) < 0
  · rw [if_pos (by simpa using c)]; exact ⟨-1, rfl, .inl (by omega)⟩
  · rw [if_neg (by simpa using c)]
    obtain ⟨v, hv, hs⟩ := szloop (m_l_szMatchS_l1 N x) x (by omega) totTMatch (fun y _ => totTMatch_nn y) (fun y l => m_l_szMatch N y l) (fun y hy l g0 g1 => sz_m_l_szMatch hN y (w.2 y hy) l g0 g1) (fun k l i => rfl) N 0 (left - (x.length : Int)) (by omega) (by omega) (by omega) (by omega)
    refine ⟨v, hv, ?_⟩
    rw [List.drop_zero] at hs
    rcases hs with hs | ⟨hs0, hs⟩
    · exact .inl hs
    · exact .inr ⟨hs0, by omega⟩
theorem to_m_l_toMatchS {N : Nat} (hN : 1048578 ≤ N) (x : (List TMatch)) (h : (x.length ≤ 1048576 ∧ ∀ y ∈ x, LimTMatch y)) : m_l_toMatchS N x = some x := by
  have hl : x.length ≤ 1048576 := h.1
  unfold m_l_toMatchS
  rw [mk_nat _ (by omega), Option.bind_some]
  refine (toloop (m_l_toMatchS_l1 N x) x (by omega) (fun y => m_l_toMatch N y) (fun y hy => to_m_l_toMatch hN y (h.2 y hy)) (fun k i s => rfl) N 0 _ (by simp) (by omega) (by omega)).trans ?_
  simp
theorem eq_m_l_eqMatchS {N : Nat} (hN : 1048578 ≤ N) (x y : (List TMatch)) (h : (x.length ≤ 1048576 ∧ ∀ y ∈ x, LimTMatch y)) : m_l_eqMatchS N x y = some (decide (x = y)) := by
  have hl : x.length ≤ 1048576 := h.1
  unfold m_l_eqMatchS
  by_cases c : x.length = y.length
  · rw [if_neg (by simp; omega)]
    refine (eqloop (m_l_eqMatchS_l1 N x y) x y c (by omega) (fun a b => m_l_eqMatch N a b) (fun a ha b hb => eq_m_l_eqMatch hN a b (h.2 a ha)) (fun k i => rfl) N 0 (by omega) (by omega)).trans ?_
    simp
  · rw [if_pos (by simp; omega)]
    have : ¬ x = y := fun e => c (by rw [e])
    simp [this]
end Go.Proofs.Ytpajhchhkfnieaa
